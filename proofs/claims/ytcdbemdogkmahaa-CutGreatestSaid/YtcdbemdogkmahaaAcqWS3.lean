/- What a call does is what its model says: acequialaw03.awake, acequialaw03.hops, flow.Excess, flow.Pre, flow.Pre$1, flow.Right, flow.Right$1, flow.Room, flow.Send, flow.Value, flow.Within, flow.all, flow.along, slices.Clone[[]int64,int64], slices.Contains[[]int,int], slices.Index[[]int,int]. (Printed by sx.py.) -/
import Derived.Test.YtcdbemdogkmahaaAcqMS3
import Derived.Test.YtcdbemdogkmahaaAcqRf
import Derived.Test.YtcdbemdogkmahaaAcqWS2a
namespace Go.Proofs.Ytcdbemdogkmahaa.Ax
open Go Go.Acq Go.RowKit Go.Proofs
set_option linter.unusedVariables false
set_option linter.unusedSimpArgs false
set_option maxHeartbeats 8000000
set_option maxRecDepth 20000
theorem TWS3.a24 : aggT Try.prog 24 4 = true := by kernel_rfl
theorem TWS3.a28 : aggT Try.prog 28 3 = true := by kernel_rfl
theorem TWS3.a60 : aggT Try.prog 60 2 = true := by kernel_rfl
theorem TWS3.b2 : bytesT Try.prog 2 = some 8 := by kernel_rfl
theorem TWS3.c27 : callable Try.prog 27 = true := by kernel_rfl
theorem TWS3.c28 : callable Try.prog 28 = true := by kernel_rfl
theorem TWS3.c31 : callable Try.prog 31 = true := by kernel_rfl
theorem TWS3.c34 : callable Try.prog 34 = true := by kernel_rfl
theorem TWS3.c52 : callable Try.prog 52 = true := by kernel_rfl
theorem TWS3.c60 : callable Try.prog 60 = true := by kernel_rfl
theorem TWS3.c62 : callable Try.prog 62 = true := by kernel_rfl
theorem TWS3.c63 : callable Try.prog 63 = true := by kernel_rfl
theorem TWS3.c64 : callable Try.prog 64 = true := by kernel_rfl
theorem TWS3.c80 : callable Try.prog 80 = true := by kernel_rfl
theorem TWS3.c94 : callable Try.prog 94 = true := by kernel_rfl
theorem TWS3.f24_0 : fieldT Try.prog 24 0 = some 0 := by kernel_rfl
theorem TWS3.f24_1 : fieldT Try.prog 24 1 = some 1 := by kernel_rfl
theorem TWS3.f24_2 : fieldT Try.prog 24 2 = some 2 := by kernel_rfl
theorem TWS3.f24_3 : fieldT Try.prog 24 3 = some 3 := by kernel_rfl
theorem TWS3.f28_0 : fieldT Try.prog 28 0 = some 0 := by kernel_rfl
theorem TWS3.f28_1 : fieldT Try.prog 28 1 = some 1 := by kernel_rfl
theorem TWS3.f28_2 : fieldT Try.prog 28 2 = some 2 := by kernel_rfl
theorem TWS3.f60_0 : fieldT Try.prog 60 0 = some 0 := by kernel_rfl
theorem TWS3.f60_1 : fieldT Try.prog 60 1 = some 1 := by kernel_rfl
theorem TWS3.l22 : sliceT Try.prog 22 = some 28 := by kernel_rfl
theorem TWS3.l25 : sliceT Try.prog 25 = some 2 := by kernel_rfl
theorem TWS3.l30 : sliceT Try.prog 30 = some 3 := by kernel_rfl
theorem TWS3.l54 : sliceT Try.prog 54 = some 60 := by kernel_rfl
theorem TWS3.m93 : mapT Try.prog 93 = some (.i64, 2) := by kernel_rfl
theorem TWS3.n2 : sizeT Try.prog 2 = some 1 := by kernel_rfl
theorem TWS3.n28 : sizeT Try.prog 28 = some 3 := by kernel_rfl
theorem TWS3.n3 : sizeT Try.prog 3 = some 1 := by kernel_rfl
theorem TWS3.n60 : sizeT Try.prog 60 = some 2 := by kernel_rfl
theorem TWS3.s2 : scalT Try.prog 2 = true := by kernel_rfl
theorem TWS3.s22 : scalT Try.prog 22 = true := by kernel_rfl
theorem TWS3.s3 : scalT Try.prog 3 = true := by kernel_rfl
theorem TWS3.s4 : scalT Try.prog 4 = true := by kernel_rfl
theorem TWS3.z2 : zeroT Try.prog 2 = some (.int .i64 0) := by kernel_rfl
theorem TWS3.z28 : zeroT Try.prog 28 = some (.agg #[.int .i64 0, .int .i64 0, .int .i64 0]) := by kernel_rfl
theorem TWS3.z3 : zeroT Try.prog 3 = some (.int .i64 0) := by kernel_rfl
theorem TWS3.z60 : zeroT Try.prog 60 = some (.agg #[.int .i64 0, .bool false]) := by kernel_rfl
theorem TWS3el25 : ElemT Try.prog 25 2 1 8 (.int .i64 0) := ⟨TWS3.l25, TWS3.n2, TWS3.b2, TWS3.z2, rfl⟩
/-- acequia/flow.Within -/
theorem w_flow_Within {n0 : Net} {f1 : List Int} {n0_Arcs_b : Option Addr} {n0_Arcs_n : Nat} {n0_Arcs_c : Nat} {f1_b : Option Addr} {f1_n : Nat} {f1_c : Nat} (w : World) (h_n0_Arcs : RS w [] arcC 3 n0_Arcs_b n0_Arcs_n n0_Arcs_c n0.Arcs) (h_f1 : RS w [] (intC .i64) 1 f1_b f1_n f1_c f1) {r0 : Bool} (H : m_flow_Within n0 f1 = some r0) : Fnc Try.prog 28 #[.agg #[.int .i64 n0.N, .int .i64 n0.S, .int .i64 n0.T, .slice n0_Arcs_b n0_Arcs_n n0_Arcs_c], .slice f1_b f1_n f1_c] w [] (fun v N => v = .bool r0 ∧ N = []) := by
  unfold m_flow_Within at H
  refine Fnc.enter (vs := [.agg #[.int .i64 n0.N, .int .i64 n0.S, .int .i64 n0.T, .slice n0_Arcs_b n0_Arcs_n n0_Arcs_c], .slice f1_b f1_n f1_c]) Try.func28 rfl rfl (Inv.refl w) ?_
  refine T.seq ?_
  refine T.regionL (ll := [0, 1]) rfl ?_
  refine TO.boxA rfl rfl rfl rfl ?_; intro b1
  refine TO.assign rfl rfl rfl rfl ?_
  refine TO.done ?_
  refine X.seq_normal ?_
  refine T.seq ?_
  refine T.seq ?_
  obtain ⟨r3, e4, H⟩ := bd_some H
  rcases ite_some H with ⟨g5, H⟩ | ⟨g5, H⟩
  ·
    refine T.regionL (ll := [0, 1, 2, 3, 4, 5, 6, 7, 8, 9, 10]) rfl ?_
    refine TO.loadA rfl rfl rfl rfl TWS3.a24 (List.Mem.head _) rfl ?_
    refine TO.callX TWS3.c52 rfl rfl rfl rfl (fun wc hwc => w_net_Check (n0 := n0) wc (h_n0_Arcs.mono hwc) e4) ?_
    rintro _ _ ⟨rfl, rfl⟩
    refine TO.bin rfl rfl rfl rfl rfl rfl ?_
    refine TO.move rfl rfl rfl rfl ?_
    refine TO.decB (t := 10) (b' := true) rfl (decide_eq_true g5) ?_
    refine TO.shut rfl rfl rfl rfl ?_
    refine TO.shut rfl rfl rfl rfl ?_
    refine TO.shut rfl rfl rfl rfl ?_
    refine TO.shut rfl rfl rfl rfl ?_
    refine TO.shut rfl rfl rfl rfl ?_
    refine TO.shut rfl rfl rfl rfl ?_
    refine TO.pickT rfl rfl rfl rfl rfl ?_
    refine TO.done ?_
    refine X.seq_normal ?_
    refine T.trim (AllF.cons (t := 1) rfl (AllF.cons (t := 2) rfl (AllF.cons (t := 17) rfl AllF.nil))) ?_
    refine T.condT rfl rfl ?_
    refine T.seq ?_
    refine T.regionL (ll := [0]) rfl ?_
    refine TO.assign rfl rfl rfl rfl ?_
    refine TO.done ?_
    refine X.seq_normal ?_
    refine T.ret ?_
    refine X.then_ret ?_
    obtain rfl := ret1 H
    exact X.ret1 rfl rfl rfl rfl (Res.tmp rfl) Pick.nil ⟨rfl, rfl⟩
  ·
    refine T.regionL (ll := [0, 1, 2, 3, 4, 5, 6, 7, 8, 9, 10]) rfl ?_
    refine TO.loadA rfl rfl rfl rfl TWS3.a24 (List.Mem.head _) rfl ?_
    refine TO.callX TWS3.c52 rfl rfl rfl rfl (fun wc hwc => w_net_Check (n0 := n0) wc (h_n0_Arcs.mono hwc) e4) ?_
    rintro _ _ ⟨rfl, rfl⟩
    refine TO.bin rfl rfl rfl rfl rfl rfl ?_
    refine TO.move rfl rfl rfl rfl ?_
    refine TO.decB (t := 10) (b' := false) rfl (decide_eq_false g5) ?_
    refine TO.move rfl rfl rfl rfl ?_
    refine TO.lenX (xs := f1) h_f1.len rfl rfl rfl rfl rfl TWS3.l25 ?_
    refine TO.fieldAddr0 rfl rfl rfl rfl TWS3.f24_3 ?_
    refine TO.load1 rfl rfl rfl rfl TWS3.s22 (List.Mem.head _) rfl ?_
    refine TO.lenX (xs := n0.Arcs) h_n0_Arcs.len rfl rfl rfl rfl rfl TWS3.l22 ?_
    refine TO.bin rfl rfl rfl rfl rfl rfl ?_
    refine TO.pickF rfl rfl rfl rfl rfl ?_
    refine TO.done ?_
    refine X.seq_normal ?_
    refine T.trim (AllF.cons (t := 1) rfl (AllF.cons (t := 2) rfl (AllF.cons (t := 17) rfl AllF.nil))) ?_
    rcases ite_some H with ⟨g6, H⟩ | ⟨g6, H⟩
    ·
      refine T.condPT rfl g6 ?_
      refine T.seq ?_
      refine T.regionL (ll := [0]) rfl ?_
      refine TO.assign rfl rfl rfl rfl ?_
      refine TO.done ?_
      refine X.seq_normal ?_
      refine T.ret ?_
      refine X.then_ret ?_
      obtain rfl := ret1 H
      exact X.ret1 rfl rfl rfl rfl (Res.tmp rfl) Pick.nil ⟨rfl, rfl⟩
    ·
      refine T.condPF rfl g6 ?_
      refine T.skip ?_
      refine X.seq_normal ?_
      refine T.seq ?_
      refine T.seq ?_
      refine T.regionL (ll := [0, 1, 2, 3]) rfl ?_
      refine TO.fieldAddr0 rfl rfl rfl rfl TWS3.f24_3 ?_
      refine TO.load1 rfl rfl rfl rfl TWS3.s22 (List.Mem.head _) rfl ?_
      refine TO.lenX (xs := n0.Arcs) h_n0_Arcs.len rfl rfl rfl rfl rfl TWS3.l22 ?_
      refine TO.move rfl rfl rfl rfl ?_
      refine TO.done ?_
      refine X.seq_normal ?_
      refine T.meetSE1 (fun (u17 : Unit) => m_flow_Within_j2 = some r0) (fun (u17 : Unit) => []) (fun (u17 : Unit) => []) ?_ ?_
      ·
        refine T.block ?_
        obtain ⟨o_1, e_1, K_1⟩ := bd_some H
        refine T.loopE2 (fun (m_1 : Nat) (x7 : Int) => loopM (fun s => m_flow_Within_s1 n0 f1 s) m_1 x7 = some o_1) (fun (m_1 : Nat) (x7 : Int) => [(1, .slice f1_b f1_n f1_c), (19, .slice n0_Arcs_b n0_Arcs_n n0_Arcs_c), (20, .int .i64 (n0.Arcs.length : Int)), (21, .int .i64 x7)]) (fun (m_1 : Nat) (x7 : Int) => []) (fun (m_1 : Nat) (x7 : Int) => m_1) FUEL 0 e_1 (AllF.cons rfl (AllF.cons rfl (AllF.cons rfl (AllF.cons rfl AllF.nil)))) Pick.nil ?_
        rintro m_1 x7 H
        obtain ⟨n_1, r_1, rfl, H, C_1⟩ := loopM_some H
        have H : m_flow_Within_s1 n0 f1 x7 = some r_1 := H
        unfold m_flow_Within_s1 at H
        refine T.seq ?_
        refine T.regionL (ll := [0]) rfl ?_
        refine TO.bin rfl rfl rfl rfl rfl rfl ?_
        refine TO.done ?_
        refine X.seq_normal ?_
        refine T.seq ?_
        rcases ite_some H with ⟨g8, H⟩ | ⟨g8, H⟩
        ·
          refine T.condPT rfl g8 ?_
          refine T.skip ?_
          refine X.seq_normal ?_
          refine T.seq ?_
          refine T.block ?_
          refine T.seq ?_
          obtain ⟨g9, H⟩ := gd_some H
          refine T.regionL (ll := [0, 1, 2, 3, 4, 5]) rfl ?_
          refine TO.move rfl rfl rfl rfl ?_
          refine TO.ixR h_n0_Arcs g9 rfl rfl rfl rfl rfl TWS3.l22 TWS3.n28 ?_
          refine TO.ldSR (cs := [.int .i64 ((n0.Arcs.getD x7.toNat default).fr), .int .i64 ((n0.Arcs.getD x7.toNat default).to), .int .i64 ((n0.Arcs.getD x7.toNat default).cap)]) default h_n0_Arcs g9 rfl rfl rfl rfl rfl TWS3.a28 ?_
          refine TO.allocA rfl rfl rfl TWS3.z28 ?_; intro b10
          refine TO.assign rfl rfl rfl rfl ?_
          refine TO.storeA rfl rfl rfl rfl (Take.head _ _) TWS3.n28 rfl rfl rfl ?_
          refine TO.done ?_
          refine X.seq_normal ?_
          refine T.seq ?_
          obtain ⟨g12, H⟩ := gd_some H
          rcases ite_some H with ⟨g13, H⟩ | ⟨g13, H⟩
          ·
            apply T.drawQT [(26, _), (27, _), (28, _), (29, _), (30, _), (31, _), (32, _), (33, _), (34, _), (35, _), (36, _), (37, _)]
            · exact mixed
            · kernel_rfl
            · kernel_rfl
            · exact rfl
            · exact rfl
            · refine ⟨?_, ?_, ?_, ?_, ?_, ?_, ?_, ?_, ?_, ?_, ?_, ?_, trivial⟩
              · intro Es
                refine TO.move rfl rfl rfl rfl ?_
                exact TO.done (X.ob rfl (Pick.refl _))
              · intro Es
                refine TO.move rfl rfl rfl rfl ?_
                exact TO.done (X.ob rfl (Pick.refl _))
              · intro Es
                refine TO.ixR h_f1 g12 rfl rfl rfl rfl rfl TWS3.l25 TWS3.n2 ?_
                exact TO.done (X.ob rfl (Pick.refl _))
              · intro Es
                refine TO.ldIR h_f1 g12 rfl rfl rfl rfl TWS3.s2 ?_
                exact TO.done (X.ob rfl (Pick.refl _))
              · intro Es
                refine TO.bin rfl rfl rfl rfl rfl rfl ?_
                exact TO.done (X.ob rfl (Pick.refl _))
              · intro Es
                refine TO.move rfl rfl rfl rfl ?_
                refine TO.decB (t := 31) (b' := true) rfl (decide_eq_true g13) ?_
                exact TO.done (X.ob2 rfl (Pick.refl _))
              · intro Es
                refine TO.shut rfl rfl rfl rfl ?_
                exact TO.done (X.ob rfl (Pick.refl _))
              · intro Es
                refine TO.shut rfl rfl rfl rfl ?_
                exact TO.done (X.ob rfl (Pick.refl _))
              · intro Es
                refine TO.shut rfl rfl rfl rfl ?_
                exact TO.done (X.ob rfl (Pick.refl _))
              · intro Es
                refine TO.shut rfl rfl rfl rfl ?_
                exact TO.done (X.ob rfl (Pick.refl _))
              · intro Es
                refine TO.shut rfl rfl rfl rfl ?_
                exact TO.done (X.ob rfl (Pick.refl _))
              · intro Es
                refine TO.shut rfl rfl rfl rfl ?_
                exact TO.done (X.ob rfl (Pick.refl _))
            refine TO.shut rfl rfl rfl rfl ?_
            refine TO.pickT rfl rfl rfl rfl rfl ?_
            refine TO.done ?_
            refine X.seq_normal ?_
            refine T.trim (AllF.cons (t := 1) rfl (AllF.cons (t := 19) rfl (AllF.cons (t := 20) rfl (AllF.cons (t := 21) rfl (AllF.cons (t := 32) rfl (AllF.cons (t := 33) rfl (AllF.cons (t := 34) rfl (AllF.cons (t := 35) rfl (AllF.cons (t := 36) rfl (AllF.cons (t := 37) rfl (AllF.cons (t := 38) rfl (AllF.cons (t := 39) rfl AllF.nil)))))))))))) ?_
            refine T.condT rfl rfl ?_
            refine T.seq ?_
            refine T.regionL (ll := [0]) rfl ?_
            refine TO.assign rfl rfl rfl rfl ?_
            refine TO.done ?_
            refine X.seq_normal ?_
            refine T.trim (AllF.cons (t := 4) rfl AllF.nil) ?_
            refine T.ret ?_
            refine X.block_ret ?_
            refine X.then_ret ?_
            have H := loop_exitE H C_1 ▸ K_1
            refine X.then_ret ?_
            refine X.block_ret ?_
            refine X.then_ret ?_
            obtain rfl := ret1 H
            exact X.ret1 rfl rfl rfl rfl (Res.tmp rfl) Pick.nil ⟨rfl, rfl⟩
          ·
            obtain ⟨g14, H⟩ := gd_some H
            apply T.drawQT [(26, _), (27, _), (28, _), (29, _), (30, _), (31, _), (32, _), (33, _), (34, _), (35, _), (36, _), (37, _)]
            · exact mixed
            · kernel_rfl
            · kernel_rfl
            · exact rfl
            · exact rfl
            · refine ⟨?_, ?_, ?_, ?_, ?_, ?_, ?_, ?_, ?_, ?_, ?_, ?_, trivial⟩
              · intro Es
                refine TO.move rfl rfl rfl rfl ?_
                exact TO.done (X.ob rfl (Pick.refl _))
              · intro Es
                refine TO.move rfl rfl rfl rfl ?_
                exact TO.done (X.ob rfl (Pick.refl _))
              · intro Es
                refine TO.ixR h_f1 g12 rfl rfl rfl rfl rfl TWS3.l25 TWS3.n2 ?_
                exact TO.done (X.ob rfl (Pick.refl _))
              · intro Es
                refine TO.ldIR h_f1 g12 rfl rfl rfl rfl TWS3.s2 ?_
                exact TO.done (X.ob rfl (Pick.refl _))
              · intro Es
                refine TO.bin rfl rfl rfl rfl rfl rfl ?_
                exact TO.done (X.ob rfl (Pick.refl _))
              · intro Es
                refine TO.move rfl rfl rfl rfl ?_
                refine TO.decB (t := 31) (b' := false) rfl (decide_eq_false g13) ?_
                exact TO.done (X.ob2 rfl (Pick.refl _))
              · intro Es
                refine TO.move rfl rfl rfl rfl ?_
                exact TO.done (X.ob rfl (Pick.refl _))
              · intro Es
                refine TO.move rfl rfl rfl rfl ?_
                exact TO.done (X.ob rfl (Pick.refl _))
              · intro Es
                refine TO.ixR h_f1 g14 rfl rfl rfl rfl rfl TWS3.l25 TWS3.n2 ?_
                exact TO.done (X.ob rfl (Pick.refl _))
              · intro Es
                refine TO.ldIR h_f1 g14 rfl rfl rfl rfl TWS3.s2 ?_
                exact TO.done (X.ob rfl (Pick.refl _))
              · intro Es
                refine TO.fieldAddr0 rfl rfl rfl rfl TWS3.f28_2 ?_
                exact TO.done (X.ob rfl (Pick.refl _))
              · intro Es
                refine TO.load1 rfl rfl rfl rfl TWS3.s2 (List.Mem.head _) rfl ?_
                exact TO.done (X.ob rfl (Pick.refl _))
            refine TO.bin rfl rfl rfl rfl rfl rfl ?_
            refine TO.pickF rfl rfl rfl rfl rfl ?_
            refine TO.done ?_
            refine X.seq_normal ?_
            refine T.trim (AllF.cons (t := 1) rfl (AllF.cons (t := 19) rfl (AllF.cons (t := 20) rfl (AllF.cons (t := 21) rfl (AllF.cons (t := 32) rfl (AllF.cons (t := 33) rfl (AllF.cons (t := 34) rfl (AllF.cons (t := 35) rfl (AllF.cons (t := 36) rfl (AllF.cons (t := 37) rfl (AllF.cons (t := 38) rfl (AllF.cons (t := 39) rfl AllF.nil)))))))))))) ?_
            rcases ite_some H with ⟨g15, H⟩ | ⟨g15, H⟩
            ·
              refine T.condPT rfl g15 ?_
              refine T.seq ?_
              refine T.regionL (ll := [0]) rfl ?_
              refine TO.assign rfl rfl rfl rfl ?_
              refine TO.done ?_
              refine X.seq_normal ?_
              refine T.trim (AllF.cons (t := 4) rfl AllF.nil) ?_
              refine T.ret ?_
              refine X.block_ret ?_
              refine X.then_ret ?_
              have H := loop_exitE H C_1 ▸ K_1
              refine X.then_ret ?_
              refine X.block_ret ?_
              refine X.then_ret ?_
              obtain rfl := ret1 H
              exact X.ret1 rfl rfl rfl rfl (Res.tmp rfl) Pick.nil ⟨rfl, rfl⟩
            ·
              refine T.condPF rfl g15 ?_
              refine T.skip ?_
              refine X.block_normal ?_
              refine X.seq_normal ?_
              obtain ⟨g16, H⟩ := gd_some H
              refine T.regionL (ll := [0, 1]) rfl ?_
              refine TO.addG g16 rfl rfl rfl rfl rfl ?_
              refine TO.move rfl rfl rfl rfl ?_
              refine TO.done ?_
              have H := loop_next H C_1
              exact X.againE2 n_1 (x7 + 1) H (Nat.lt_succ_self _) (AllF.cons rfl (AllF.cons rfl (AllF.cons rfl (AllF.cons rfl AllF.nil)))) Pick.nil
        ·
          refine T.condPF rfl g8 ?_
          refine T.exit ?_
          refine X.then_exit ?_
          have H := loop_exitE H C_1 ▸ K_1
          refine X.then_exit ?_
          refine X.block_here ?_
          exact X.metE1 () H AllF.nil Pick.nil
      · rintro u17 H
        unfold m_flow_Within_j2 at H
        refine T.seq ?_
        refine T.regionL (ll := [0]) rfl ?_
        refine TO.assign rfl rfl rfl rfl ?_
        refine TO.done ?_
        refine X.seq_normal ?_
        refine T.ret ?_
        obtain rfl := ret1 H
        exact X.ret1 rfl rfl rfl rfl (Res.tmp rfl) Pick.nil ⟨rfl, rfl⟩
/-- acequia/flow.along -/
theorem w_flow_along {n0 : Net} {l1 : List Hop} {n0_Arcs_b : Option Addr} {n0_Arcs_n : Nat} {n0_Arcs_c : Nat} {l1_b : Option Addr} {l1_n : Nat} {l1_c : Nat} (w : World) (h_n0_Arcs : RS w [] arcC 3 n0_Arcs_b n0_Arcs_n n0_Arcs_c n0.Arcs) (h_l1 : RS w [] hopC 2 l1_b l1_n l1_c l1) {r0 : List (Int × Int)} {r1 : Bool} (H : m_flow_along n0 l1 = some (r0, r1)) : Fnc Try.prog 63 #[.agg #[.int .i64 n0.N, .int .i64 n0.S, .int .i64 n0.T, .slice n0_Arcs_b n0_Arcs_n n0_Arcs_c], .slice l1_b l1_n l1_c] w [] (fun v N => ∃ (ob_0 : Option Nat), v = .tuple #[.map ob_0, .bool r1] ∧ N = [(ob_0, mapO .i64 (Value.int .i64) r0)] ∧ (ob_0 = none → r0 = [])) := by
  unfold m_flow_along at H
  refine Fnc.enter (vs := [.agg #[.int .i64 n0.N, .int .i64 n0.S, .int .i64 n0.T, .slice n0_Arcs_b n0_Arcs_n n0_Arcs_c], .slice l1_b l1_n l1_c]) Try.func63 rfl rfl (Inv.refl w) ?_
  refine T.seq ?_
  refine T.regionL (ll := [0, 1, 2]) rfl ?_
  refine TO.boxA rfl rfl rfl rfl ?_; intro b1
  refine TO.assign rfl rfl rfl rfl ?_
  refine TO.assign rfl rfl rfl rfl ?_
  refine TO.done ?_
  refine X.seq_normal ?_
  refine T.seq ?_
  refine T.regionL (ll := [0, 1]) rfl ?_
  refine TO.mkMap (Value.int .i64) .i64 rfl rfl rfl ?_; intro b3
  refine TO.assign rfl rfl rfl rfl ?_
  refine TO.done ?_
  refine X.seq_normal ?_
  refine T.seq ?_
  refine T.regionL (ll := [0]) rfl ?_
  refine TO.assign rfl rfl rfl rfl ?_
  refine TO.done ?_
  refine X.seq_normal ?_
  refine T.seq ?_
  refine T.seq ?_
  refine T.regionL (ll := [0, 1, 2]) rfl ?_
  refine TO.move rfl rfl rfl rfl ?_
  refine TO.lenX (xs := l1) h_l1.len rfl rfl rfl rfl rfl TWS3.l54 ?_
  refine TO.move rfl rfl rfl rfl ?_
  refine TO.done ?_
  refine X.seq_normal ?_
  refine T.meetSE1 (fun (mp28 : List (Int × Int)) => m_flow_along_j5 mp28 = some (r0, r1)) (fun (mp28 : List (Int × Int)) => [(6, .map (some b3))]) (fun (mp28 : List (Int × Int)) => [(some b3, mapO .i64 (Value.int .i64) mp28)]) ?_ ?_
  ·
    refine T.block ?_
    obtain ⟨o_1, e_1, K_1⟩ := bd_some H
    refine T.loopE4 (fun (m_1 : Nat) (mp5 : List (Int × Int)) (last6 : Int) (x7 : Int) => loopM (fun s => m_flow_along_s1 n0 l1 s.1 s.2.1 s.2.2) m_1 (mp5, last6, x7) = some o_1) (fun (m_1 : Nat) (mp5 : List (Int × Int)) (last6 : Int) (x7 : Int) => [(2, .pointer (some ⟨b1, 0, none⟩)), (6, .map (some b3)), (7, .int .i64 last6), (14, .slice l1_b l1_n l1_c), (15, .int .i64 (l1.length : Int)), (16, .int .i64 x7)]) (fun (m_1 : Nat) (mp5 : List (Int × Int)) (last6 : Int) (x7 : Int) => [(some b1, .cells #[.int .i64 n0.N, .int .i64 n0.S, .int .i64 n0.T, .slice n0_Arcs_b n0_Arcs_n n0_Arcs_c] 24 (0, 0)), (some b3, mapO .i64 (Value.int .i64) mp5)]) (fun (m_1 : Nat) (mp5 : List (Int × Int)) (last6 : Int) (x7 : Int) => m_1) FUEL ([] : List (Int × Int)) (-1) 0 e_1 (AllF.cons rfl (AllF.cons rfl (AllF.cons rfl (AllF.cons rfl (AllF.cons rfl (AllF.cons rfl AllF.nil)))))) (Pick.cons (Take.tail (Take.head _ _)) (Pick.cons (Take.head _ _) Pick.nil)) ?_
    rintro m_1 mp5 last6 x7 H
    obtain ⟨n_1, r_1, rfl, H, C_1⟩ := loopM_some H
    have H : m_flow_along_s1 n0 l1 mp5 last6 x7 = some r_1 := H
    unfold m_flow_along_s1 at H
    refine T.seq ?_
    refine T.regionL (ll := [0]) rfl ?_
    refine TO.bin rfl rfl rfl rfl rfl rfl ?_
    refine TO.done ?_
    refine X.seq_normal ?_
    refine T.seq ?_
    rcases ite_some H with ⟨g8, H⟩ | ⟨g8, H⟩
    ·
      refine T.condPT rfl g8 ?_
      refine T.skip ?_
      refine X.seq_normal ?_
      refine T.seq ?_
      refine T.block ?_
      refine T.seq ?_
      obtain ⟨g9, H⟩ := gd_some H
      refine T.regionL (ll := [0, 1, 2, 3]) rfl ?_
      refine TO.ixR h_l1 g9 rfl rfl rfl rfl rfl TWS3.l54 TWS3.n60 ?_
      refine TO.ldSR (cs := [.int .i64 ((l1.getD x7.toNat default).Arc), .bool ((l1.getD x7.toNat default).Back)]) default h_l1 g9 rfl rfl rfl rfl rfl TWS3.a60 ?_
      refine TO.allocA rfl rfl rfl TWS3.z60 ?_; intro b10
      refine TO.storeA rfl rfl rfl rfl (Take.head _ _) TWS3.n60 rfl rfl rfl ?_
      refine TO.done ?_
      refine X.seq_normal ?_
      refine T.seq ?_
      refine T.seq ?_
      refine T.meetSE1 (fun (x13 : Bool) => m_flow_along_j2 n0 l1 mp5 last6 x7 x13 = some r_1) (fun (x13 : Bool) => [(2, .pointer (some ⟨b1, 0, none⟩)), (6, .map (some b3)), (7, .int .i64 last6), (9, .pointer (some ⟨b10, 0, none⟩)), (14, .slice l1_b l1_n l1_c), (15, .int .i64 (l1.length : Int)), (16, .int .i64 x7), (30, .bool x13)]) (fun (x13 : Bool) => [(some b1, .cells #[.int .i64 n0.N, .int .i64 n0.S, .int .i64 n0.T, .slice n0_Arcs_b n0_Arcs_n n0_Arcs_c] 24 (0, 0)), (some b3, mapO .i64 (Value.int .i64) mp5), (some b10, .cells #[.int .i64 ((l1.getD x7.toNat default).Arc), .bool ((l1.getD x7.toNat default).Back)] 60 (0, 0))]) ?_ ?_
      ·
        rcases ite_some H with ⟨g12, H⟩ | ⟨g12, H⟩
        ·
          refine T.regionL (ll := [0, 1, 2, 3, 4, 5, 6, 7, 8, 9, 10]) rfl ?_
          refine TO.fieldAddr0 rfl rfl rfl rfl TWS3.f60_0 ?_
          refine TO.load1 rfl rfl rfl rfl TWS3.s3 (List.Mem.head _) rfl ?_
          refine TO.bin rfl rfl rfl rfl rfl rfl ?_
          refine TO.move rfl rfl rfl rfl ?_
          refine TO.decB (t := 23) (b' := true) rfl (decide_eq_true g12) ?_
          refine TO.shut rfl rfl rfl rfl ?_
          refine TO.shut rfl rfl rfl rfl ?_
          refine TO.shut rfl rfl rfl rfl ?_
          refine TO.shut rfl rfl rfl rfl ?_
          refine TO.shut rfl rfl rfl rfl ?_
          refine TO.shut rfl rfl rfl rfl ?_
          refine TO.pickT rfl rfl rfl rfl rfl ?_
          refine TO.done ?_
          exact X.metE1 true H (AllF.cons rfl (AllF.cons rfl (AllF.cons rfl (AllF.cons rfl (AllF.cons rfl (AllF.cons rfl (AllF.cons rfl (AllF.cons rfl AllF.nil)))))))) (Pick.cons (Take.tail (Take.head _ _)) (Pick.cons (Take.tail (Take.head _ _)) (Pick.cons (Take.head _ _) Pick.nil)))
        ·
          refine T.regionL (ll := [0, 1, 2, 3, 4, 5, 6, 7, 8, 9, 10]) rfl ?_
          refine TO.fieldAddr0 rfl rfl rfl rfl TWS3.f60_0 ?_
          refine TO.load1 rfl rfl rfl rfl TWS3.s3 (List.Mem.head _) rfl ?_
          refine TO.bin rfl rfl rfl rfl rfl rfl ?_
          refine TO.move rfl rfl rfl rfl ?_
          refine TO.decB (t := 23) (b' := false) rfl (decide_eq_false g12) ?_
          refine TO.fieldAddr0 rfl rfl rfl rfl TWS3.f60_0 ?_
          refine TO.load1 rfl rfl rfl rfl TWS3.s3 (List.Mem.head _) rfl ?_
          refine TO.fieldAddr0 rfl rfl rfl rfl TWS3.f24_3 ?_
          refine TO.load1 rfl rfl rfl rfl TWS3.s22 (List.Mem.tail _ (List.Mem.head _)) rfl ?_
          refine TO.lenX (xs := n0.Arcs) h_n0_Arcs.len rfl rfl rfl rfl rfl TWS3.l22 ?_
          refine TO.bin rfl rfl rfl rfl rfl rfl ?_
          refine TO.pickF rfl rfl rfl rfl rfl ?_
          refine TO.done ?_
          exact X.metE1 (decide ((n0.Arcs.length : Int) ≤ ((l1.getD x7.toNat default).Arc))) H (AllF.cons rfl (AllF.cons rfl (AllF.cons rfl (AllF.cons rfl (AllF.cons rfl (AllF.cons rfl (AllF.cons rfl (AllF.cons rfl AllF.nil)))))))) (Pick.cons (Take.tail (Take.head _ _)) (Pick.cons (Take.tail (Take.head _ _)) (Pick.cons (Take.head _ _) Pick.nil)))
      · rintro x13 H
        unfold m_flow_along_j2 at H
        rcases ite_some H with ⟨g14, H⟩ | ⟨g14, H⟩
        ·
          refine T.condT rfl g14 ?_
          refine T.seq ?_
          refine T.regionL (ll := [0, 1]) rfl ?_
          refine TO.assign rfl rfl rfl rfl ?_
          refine TO.assign rfl rfl rfl rfl ?_
          refine TO.done ?_
          refine X.seq_normal ?_
          refine T.trim (AllF.cons (t := 4) rfl (AllF.cons (t := 5) rfl AllF.nil)) ?_
          refine T.ret ?_
          refine X.then_ret ?_
          refine X.block_ret ?_
          refine X.then_ret ?_
          have H := loop_exitE H C_1 ▸ K_1
          refine X.then_ret ?_
          refine X.block_ret ?_
          refine X.then_ret ?_
          obtain ⟨rfl, rfl⟩ := ret2 H
          exact X.ret2 rfl rfl rfl rfl (Res.tmp rfl) (Res.tmp rfl) (Pick.none Pick.nil) ⟨none, rfl, rfl, (fun _ => rfl)⟩
        ·
          refine T.condF rfl (Bool.eq_false_iff.2 g14) ?_
          refine T.skip ?_
          refine X.seq_normal ?_
          refine T.seq ?_
          obtain ⟨g15, H⟩ := gd_some H
          refine T.regionL (ll := [0, 1, 2, 3, 4, 5, 6, 7]) rfl ?_
          refine TO.fieldAddr0 rfl rfl rfl rfl TWS3.f24_3 ?_
          refine TO.load1 rfl rfl rfl rfl TWS3.s22 (List.Mem.head _) rfl ?_
          refine TO.fieldAddr0 rfl rfl rfl rfl TWS3.f60_0 ?_
          refine TO.load1 rfl rfl rfl rfl TWS3.s3 (List.Mem.tail _ (List.Mem.tail _ (List.Mem.head _))) rfl ?_
          refine TO.ixR h_n0_Arcs g15 rfl rfl rfl rfl rfl TWS3.l22 TWS3.n28 ?_
          refine TO.ldSR (cs := [.int .i64 ((n0.Arcs.getD ((l1.getD x7.toNat default).Arc).toNat default).fr), .int .i64 ((n0.Arcs.getD ((l1.getD x7.toNat default).Arc).toNat default).to), .int .i64 ((n0.Arcs.getD ((l1.getD x7.toNat default).Arc).toNat default).cap)]) default h_n0_Arcs g15 rfl rfl rfl rfl rfl TWS3.a28 ?_
          refine TO.allocA rfl rfl rfl TWS3.z28 ?_; intro b16
          refine TO.storeA rfl rfl rfl rfl (Take.head _ _) TWS3.n28 rfl rfl rfl ?_
          refine TO.done ?_
          refine X.seq_normal ?_
          refine T.seq ?_
          apply T.drawQT [(37, _), (38, _), (39, _), (40, _), (11, _)]
          · exact mixed
          · kernel_rfl
          · kernel_rfl
          · exact rfl
          · exact rfl
          · refine ⟨?_, ?_, ?_, ?_, ?_, trivial⟩
            · intro Es
              refine TO.fieldAddr0 rfl rfl rfl rfl TWS3.f28_0 ?_
              exact TO.done (X.ob rfl (Pick.refl _))
            · intro Es
              refine TO.load1 rfl rfl rfl rfl TWS3.s3 (List.Mem.head _) rfl ?_
              exact TO.done (X.ob rfl (Pick.refl _))
            · intro Es
              refine TO.fieldAddr0 rfl rfl rfl rfl TWS3.f28_1 ?_
              exact TO.done (X.ob rfl (Pick.refl _))
            · intro Es
              refine TO.load1 rfl rfl rfl rfl TWS3.s3 (List.Mem.head _) rfl ?_
              exact TO.done (X.ob rfl (Pick.refl _))
            · intro Es
              refine TO.assign rfl rfl rfl rfl ?_
              exact TO.done (X.ob rfl (Pick.refl _))
          refine TO.assign rfl rfl rfl rfl ?_
          refine TO.done ?_
          refine X.seq_normal ?_
          refine T.trim (AllF.cons (t := 2) rfl (AllF.cons (t := 6) rfl (AllF.cons (t := 7) rfl (AllF.cons (t := 9) rfl (AllF.cons (t := 14) rfl (AllF.cons (t := 15) rfl (AllF.cons (t := 16) rfl (AllF.cons (t := 11) rfl (AllF.cons (t := 12) rfl AllF.nil))))))))) ?_
          refine T.seq ?_
          obtain ⟨g18, H⟩ := gd_some H
          refine T.regionL (ll := [0, 1, 2, 3, 4, 5]) rfl ?_
          refine TO.move rfl rfl rfl rfl ?_
          refine TO.fieldAddr0 rfl rfl rfl rfl TWS3.f60_0 ?_
          refine TO.load1 rfl rfl rfl rfl TWS3.s3 (List.Mem.tail _ (List.Mem.tail _ (List.Mem.tail _ (List.Mem.head _)))) rfl ?_
          refine TO.mget (f := (Value.int .i64)) (z := 0) (xs := mp5) TWS3.m93 TWS3.z2 someM rfl rfl rfl rfl rfl (List.Mem.tail _ (List.Mem.tail _ (List.Mem.head _))) rfl ?_
          refine TO.addG g18 rfl rfl rfl rfl rfl ?_
          refine TO.mput (f := (Value.int .i64)) (u := ((getM 0 ((l1.getD x7.toNat default).Arc) mp5) + 1)) (xs := mp5) TWS3.m93 rfl rfl rfl rfl rfl rfl (Take.tail (Take.tail (Take.head _ _))) ?_
          refine TO.done ?_
          refine X.seq_normal ?_
          refine T.seq ?_
          refine T.seq ?_
          refine T.regionL (ll := [0, 1]) rfl ?_
          refine TO.fieldAddr0 rfl rfl rfl rfl TWS3.f60_1 ?_
          refine TO.load1 rfl rfl rfl rfl TWS3.s4 (List.Mem.tail _ (List.Mem.tail _ (List.Mem.tail _ (List.Mem.head _)))) rfl ?_
          refine TO.done ?_
          refine X.seq_normal ?_
          refine T.meetSE3 (fun (mp21 : List (Int × Int)) (from22 : Int) (to23 : Int) => m_flow_along_j3 last6 x7 mp21 from22 to23 = some r_1) (fun (mp21 : List (Int × Int)) (from22 : Int) (to23 : Int) => [(2, .pointer (some ⟨b1, 0, none⟩)), (6, .map (some b3)), (7, .int .i64 last6), (11, .int .i64 from22), (12, .int .i64 to23), (14, .slice l1_b l1_n l1_c), (15, .int .i64 (l1.length : Int)), (16, .int .i64 x7)]) (fun (mp21 : List (Int × Int)) (from22 : Int) (to23 : Int) => [(some b1, .cells #[.int .i64 n0.N, .int .i64 n0.S, .int .i64 n0.T, .slice n0_Arcs_b n0_Arcs_n n0_Arcs_c] 24 (0, 0)), (some b3, mapO .i64 (Value.int .i64) mp21)]) ?_ ?_
          ·
            rcases ite_some H with ⟨g19, H⟩ | ⟨g19, H⟩
            ·
              refine T.condT rfl g19 ?_
              refine T.seq ?_
              refine T.regionL (ll := [0, 1, 2, 3]) rfl ?_
              refine TO.move rfl rfl rfl rfl ?_
              refine TO.move rfl rfl rfl rfl ?_
              refine TO.assign rfl rfl rfl rfl ?_
              refine TO.assign rfl rfl rfl rfl ?_
              refine TO.done ?_
              refine X.seq_normal ?_
              refine T.trim (AllF.cons (t := 2) rfl (AllF.cons (t := 6) rfl (AllF.cons (t := 7) rfl (AllF.cons (t := 9) rfl (AllF.cons (t := 14) rfl (AllF.cons (t := 15) rfl (AllF.cons (t := 16) rfl (AllF.cons (t := 11) rfl (AllF.cons (t := 12) rfl AllF.nil))))))))) ?_
              obtain ⟨g20, H⟩ := gd_some H
              refine T.regionL (ll := [0, 1, 2, 3, 4, 5]) rfl ?_
              refine TO.move rfl rfl rfl rfl ?_
              refine TO.fieldAddr0 rfl rfl rfl rfl TWS3.f60_0 ?_
              refine TO.load1 rfl rfl rfl rfl TWS3.s3 (List.Mem.tail _ (List.Mem.tail _ (List.Mem.tail _ (List.Mem.head _)))) rfl ?_
              refine TO.mget (f := (Value.int .i64)) (z := 0) (xs := (putM ((l1.getD x7.toNat default).Arc) ((getM 0 ((l1.getD x7.toNat default).Arc) mp5) + 1) mp5)) TWS3.m93 TWS3.z2 someM rfl rfl rfl rfl rfl (List.Mem.head _) rfl ?_
              refine TO.subG g20 rfl rfl rfl rfl rfl ?_
              refine TO.mput (f := (Value.int .i64)) (u := ((getM 0 ((l1.getD x7.toNat default).Arc) (putM ((l1.getD x7.toNat default).Arc) ((getM 0 ((l1.getD x7.toNat default).Arc) mp5) + 1) mp5)) - 2)) (xs := (putM ((l1.getD x7.toNat default).Arc) ((getM 0 ((l1.getD x7.toNat default).Arc) mp5) + 1) mp5)) TWS3.m93 rfl rfl rfl rfl rfl rfl (Take.head _ _) ?_
              refine TO.done ?_
              exact X.metE3 (putM ((l1.getD x7.toNat default).Arc) ((getM 0 ((l1.getD x7.toNat default).Arc) (putM ((l1.getD x7.toNat default).Arc) ((getM 0 ((l1.getD x7.toNat default).Arc) mp5) + 1) mp5)) - 2) (putM ((l1.getD x7.toNat default).Arc) ((getM 0 ((l1.getD x7.toNat default).Arc) mp5) + 1) mp5)) ((n0.Arcs.getD ((l1.getD x7.toNat default).Arc).toNat default).to) ((n0.Arcs.getD ((l1.getD x7.toNat default).Arc).toNat default).fr) H (AllF.cons rfl (AllF.cons rfl (AllF.cons rfl (AllF.cons rfl (AllF.cons rfl (AllF.cons rfl (AllF.cons rfl (AllF.cons rfl AllF.nil)))))))) (Pick.cons (Take.tail (Take.tail (Take.head _ _))) (Pick.cons (Take.head _ _) Pick.nil))
            ·
              refine T.condF rfl (Bool.eq_false_iff.2 g19) ?_
              refine T.skip ?_
              exact X.metE3 (putM ((l1.getD x7.toNat default).Arc) ((getM 0 ((l1.getD x7.toNat default).Arc) mp5) + 1) mp5) ((n0.Arcs.getD ((l1.getD x7.toNat default).Arc).toNat default).fr) ((n0.Arcs.getD ((l1.getD x7.toNat default).Arc).toNat default).to) H (AllF.cons rfl (AllF.cons rfl (AllF.cons rfl (AllF.cons rfl (AllF.cons rfl (AllF.cons rfl (AllF.cons rfl (AllF.cons rfl AllF.nil)))))))) (Pick.cons (Take.tail (Take.tail (Take.head _ _))) (Pick.cons (Take.head _ _) Pick.nil))
          · rintro mp21 from22 to23 H
            unfold m_flow_along_j3 at H
            refine T.seq ?_
            refine T.seq ?_
            refine T.meetSE1 (fun (x25 : Bool) => m_flow_along_j4 x7 mp21 to23 x25 = some r_1) (fun (x25 : Bool) => [(2, .pointer (some ⟨b1, 0, none⟩)), (6, .map (some b3)), (12, .int .i64 to23), (14, .slice l1_b l1_n l1_c), (15, .int .i64 (l1.length : Int)), (16, .int .i64 x7), (61, .bool x25)]) (fun (x25 : Bool) => [(some b1, .cells #[.int .i64 n0.N, .int .i64 n0.S, .int .i64 n0.T, .slice n0_Arcs_b n0_Arcs_n n0_Arcs_c] 24 (0, 0)), (some b3, mapO .i64 (Value.int .i64) mp21)]) ?_ ?_
            ·
              rcases ite_some H with ⟨g24, H⟩ | ⟨g24, H⟩
              ·
                refine T.regionL (ll := [0, 1, 2, 3, 4, 5, 6]) rfl ?_
                refine TO.move rfl rfl rfl rfl ?_
                refine TO.bin rfl rfl rfl rfl rfl rfl ?_
                refine TO.move rfl rfl rfl rfl ?_
                refine TO.decB (t := 57) (b' := true) rfl (decide_eq_true g24) ?_
                refine TO.move rfl rfl rfl rfl ?_
                refine TO.move rfl rfl rfl rfl ?_
                refine TO.bin rfl rfl rfl rfl rfl rfl ?_
                refine TO.pickT rfl rfl rfl rfl rfl ?_
                refine TO.done ?_
                exact X.metE1 (decide (from22 ≠ last6)) H (AllF.cons rfl (AllF.cons rfl (AllF.cons rfl (AllF.cons rfl (AllF.cons rfl (AllF.cons rfl (AllF.cons rfl AllF.nil))))))) (Pick.cons (Take.head _ _) (Pick.cons (Take.head _ _) Pick.nil))
              ·
                refine T.regionL (ll := [0, 1, 2, 3, 4, 5, 6]) rfl ?_
                refine TO.move rfl rfl rfl rfl ?_
                refine TO.bin rfl rfl rfl rfl rfl rfl ?_
                refine TO.move rfl rfl rfl rfl ?_
                refine TO.decB (t := 57) (b' := false) rfl (decide_eq_false g24) ?_
                refine TO.shut rfl rfl rfl rfl ?_
                refine TO.shut rfl rfl rfl rfl ?_
                refine TO.shut rfl rfl rfl rfl ?_
                refine TO.pickF rfl rfl rfl rfl rfl ?_
                refine TO.done ?_
                exact X.metE1 false H (AllF.cons rfl (AllF.cons rfl (AllF.cons rfl (AllF.cons rfl (AllF.cons rfl (AllF.cons rfl (AllF.cons rfl AllF.nil))))))) (Pick.cons (Take.head _ _) (Pick.cons (Take.head _ _) Pick.nil))
            · rintro x25 H
              unfold m_flow_along_j4 at H
              rcases ite_some H with ⟨g26, H⟩ | ⟨g26, H⟩
              ·
                refine T.condT rfl g26 ?_
                refine T.seq ?_
                refine T.regionL (ll := [0, 1]) rfl ?_
                refine TO.assign rfl rfl rfl rfl ?_
                refine TO.assign rfl rfl rfl rfl ?_
                refine TO.done ?_
                refine X.seq_normal ?_
                refine T.ret ?_
                refine X.then_ret ?_
                refine X.block_ret ?_
                refine X.then_ret ?_
                have H := loop_exitE H C_1 ▸ K_1
                refine X.then_ret ?_
                refine X.block_ret ?_
                refine X.then_ret ?_
                obtain ⟨rfl, rfl⟩ := ret2 H
                exact X.ret2 rfl rfl rfl rfl (Res.tmp rfl) (Res.tmp rfl) (Pick.none Pick.nil) ⟨none, rfl, rfl, (fun _ => rfl)⟩
              ·
                refine T.condF rfl (Bool.eq_false_iff.2 g26) ?_
                refine T.skip ?_
                refine X.seq_normal ?_
                refine T.regionL (ll := [0, 1]) rfl ?_
                refine TO.move rfl rfl rfl rfl ?_
                refine TO.assign rfl rfl rfl rfl ?_
                refine TO.done ?_
                refine X.block_normal ?_
                refine X.seq_normal ?_
                obtain ⟨g27, H⟩ := gd_some H
                refine T.regionL (ll := [0, 1]) rfl ?_
                refine TO.addG g27 rfl rfl rfl rfl rfl ?_
                refine TO.move rfl rfl rfl rfl ?_
                refine TO.done ?_
                have H := loop_next H C_1
                exact X.againE4 n_1 mp21 to23 (x7 + 1) H (Nat.lt_succ_self _) (AllF.cons rfl (AllF.cons rfl (AllF.cons rfl (AllF.cons rfl (AllF.cons rfl (AllF.cons rfl AllF.nil)))))) (Pick.cons (Take.head _ _) (Pick.cons (Take.head _ _) Pick.nil))
    ·
      refine T.condPF rfl g8 ?_
      refine T.exit ?_
      refine X.then_exit ?_
      have H := loop_exitE H C_1 ▸ K_1
      refine X.then_exit ?_
      refine X.block_here ?_
      exact X.metE1 mp5 H (AllF.cons rfl AllF.nil) (Pick.cons (Take.tail (Take.head _ _)) Pick.nil)
  · rintro mp28 H
    unfold m_flow_along_j5 at H
    refine T.seq ?_
    refine T.regionL (ll := [0, 1, 2]) rfl ?_
    refine TO.move rfl rfl rfl rfl ?_
    refine TO.assign rfl rfl rfl rfl ?_
    refine TO.assign rfl rfl rfl rfl ?_
    refine TO.done ?_
    refine X.seq_normal ?_
    refine T.ret ?_
    obtain ⟨rfl, rfl⟩ := ret2 H
    exact X.ret2 rfl rfl rfl rfl (Res.tmp rfl) (Res.tmp rfl) (Pick.cons (Take.head _ _) Pick.nil) ⟨(some b3), rfl, rfl, someM⟩
/-- acequia/flow.Room -/
theorem w_flow_Room {n0 : Net} {f1 : List Int} {l2 : List Hop} {n0_Arcs_b : Option Addr} {n0_Arcs_n : Nat} {n0_Arcs_c : Nat} {f1_b : Option Addr} {f1_n : Nat} {f1_c : Nat} {l2_b : Option Addr} {l2_n : Nat} {l2_c : Nat} (w : World) (h_n0_Arcs : RS w [] arcC 3 n0_Arcs_b n0_Arcs_n n0_Arcs_c n0.Arcs) (h_f1 : RS w [] (intC .i64) 1 f1_b f1_n f1_c f1) (h_l2 : RS w [] hopC 2 l2_b l2_n l2_c l2) {r0 : Int} {r1 : Int} (H : m_flow_Room n0 f1 l2 = some (r0, r1)) : Fnc Try.prog 34 #[.agg #[.int .i64 n0.N, .int .i64 n0.S, .int .i64 n0.T, .slice n0_Arcs_b n0_Arcs_n n0_Arcs_c], .slice f1_b f1_n f1_c, .slice l2_b l2_n l2_c] w [] (fun v N => v = .tuple #[.int .i64 r0, .int .i64 r1] ∧ N = []) := by
  unfold m_flow_Room at H
  refine Fnc.enter (vs := [.agg #[.int .i64 n0.N, .int .i64 n0.S, .int .i64 n0.T, .slice n0_Arcs_b n0_Arcs_n n0_Arcs_c], .slice f1_b f1_n f1_c, .slice l2_b l2_n l2_c]) Try.func34 rfl rfl (Inv.refl w) ?_
  refine T.seq ?_
  refine T.regionL (ll := [0, 1, 2]) rfl ?_
  refine TO.boxA rfl rfl rfl rfl ?_; intro b1
  refine TO.assign rfl rfl rfl rfl ?_
  refine TO.assign rfl rfl rfl rfl ?_
  refine TO.done ?_
  refine X.seq_normal ?_
  refine T.seq ?_
  refine T.seq ?_
  obtain ⟨r3, e4, H⟩ := bd_some H
  refine T.regionL (ll := [0, 1, 2, 3]) rfl ?_
  refine TO.loadA rfl rfl rfl rfl TWS3.a24 (List.Mem.head _) rfl ?_
  refine TO.move rfl rfl rfl rfl ?_
  refine TO.callX TWS3.c28 rfl rfl rfl rfl (fun wc hwc => w_flow_Within (n0 := n0) (f1 := f1) wc (h_n0_Arcs.mono hwc) (h_f1.mono hwc) e4) ?_
  rintro _ _ ⟨rfl, rfl⟩
  refine TO.not rfl rfl rfl rfl ?_
  refine TO.done ?_
  refine X.seq_normal ?_
  rcases ite_some H with ⟨g5, H⟩ | ⟨g5, H⟩
  ·
    refine T.condT rfl g5 ?_
    refine T.seq ?_
    refine T.regionL (ll := [0, 1]) rfl ?_
    refine TO.assign rfl rfl rfl rfl ?_
    refine TO.assign rfl rfl rfl rfl ?_
    refine TO.done ?_
    refine X.seq_normal ?_
    refine T.trim (AllF.cons (t := 6) rfl (AllF.cons (t := 7) rfl AllF.nil)) ?_
    refine T.ret ?_
    refine X.then_ret ?_
    obtain ⟨rfl, rfl⟩ := ret2 H
    exact X.ret2 rfl rfl rfl rfl (Res.tmp rfl) (Res.tmp rfl) Pick.nil ⟨rfl, rfl⟩
  ·
    refine T.condF rfl (Bool.eq_false_iff.2 g5) ?_
    refine T.skip ?_
    refine X.seq_normal ?_
    refine T.seq ?_
    obtain ⟨⟨r6, r7⟩, e8, H⟩ := bd_some H
    refine T.regionL (ll := [0, 1, 2, 3, 4, 5, 6, 7]) rfl ?_
    refine TO.loadA rfl rfl rfl rfl TWS3.a24 (List.Mem.head _) rfl ?_
    refine TO.move rfl rfl rfl rfl ?_
    refine TO.callX TWS3.c63 rfl rfl rfl rfl (fun wc hwc => w_flow_along (n0 := n0) (l1 := l2) wc (h_n0_Arcs.mono hwc) (h_l2.mono hwc) e8) ?_
    rintro _ _ ⟨ob9, rfl, rfl, hz10⟩
    refine TO.move rfl rfl rfl rfl ?_
    refine TO.extract rfl rfl rfl rfl rfl ?_
    refine TO.extract rfl rfl rfl rfl rfl ?_
    refine TO.assign rfl rfl rfl rfl ?_
    refine TO.assign rfl rfl rfl rfl ?_
    refine TO.done ?_
    refine X.seq_normal ?_
    refine T.trim (AllF.cons (t := 1) rfl (AllF.cons (t := 3) rfl (AllF.cons (t := 8) rfl (AllF.cons (t := 9) rfl AllF.nil)))) ?_
    refine T.seq ?_
    refine T.seq ?_
    refine T.regionL (ll := [0, 1]) rfl ?_
    refine TO.move rfl rfl rfl rfl ?_
    refine TO.not rfl rfl rfl rfl ?_
    refine TO.done ?_
    refine X.seq_normal ?_
    rcases ite_some H with ⟨g12, H⟩ | ⟨g12, H⟩
    ·
      refine T.condT rfl g12 ?_
      refine T.seq ?_
      refine T.regionL (ll := [0, 1]) rfl ?_
      refine TO.assign rfl rfl rfl rfl ?_
      refine TO.assign rfl rfl rfl rfl ?_
      refine TO.done ?_
      refine X.seq_normal ?_
      refine T.ret ?_
      refine X.then_ret ?_
      obtain ⟨rfl, rfl⟩ := ret2 H
      exact X.ret2 rfl rfl rfl rfl (Res.tmp rfl) (Res.tmp rfl) Pick.nil ⟨rfl, rfl⟩
    ·
      refine T.condF rfl (Bool.eq_false_iff.2 g12) ?_
      refine T.skip ?_
      refine X.seq_normal ?_
      refine T.seq ?_
      refine T.regionL (ll := [0]) rfl ?_
      refine TO.assign rfl rfl rfl rfl ?_
      refine TO.done ?_
      refine X.seq_normal ?_
      refine T.seq ?_
      refine T.seq ?_
      refine T.regionL (ll := [0, 1]) rfl ?_
      refine TO.move rfl rfl rfl rfl ?_
      refine TO.mrange (xs := r6) TWS3.m93 hz10 rfl rfl rfl rfl (List.Mem.head _) ?_; intro b13
      refine TO.done ?_
      refine X.seq_normal ?_
      refine T.meetSE1 (fun (room28 : Int) => m_flow_Room_j2 room28 = some (r0, r1)) (fun (room28 : Int) => [(10, .int .i64 room28)]) (fun (room28 : Int) => []) ?_ ?_
      ·
        refine T.block ?_
        obtain ⟨o_1, e_1, K_1⟩ := bd_some H
        refine T.loopE3 (fun (m_1 : Nat) (room15 : Int) (seen16 : List Nat) => loopA (fun s => altsM r6.length s.2) (fun s c => m_flow_Room_s1 n0 f1 r6 s.1 s.2 c) m_1 (room15, seen16) = some o_1) (fun (m_1 : Nat) (room15 : Int) (seen16 : List Nat) => [(1, .slice f1_b f1_n f1_c), (3, .pointer (some ⟨b1, 0, none⟩)), (10, .int .i64 room15), (26, .pointer (some ⟨b13, 0, none⟩))]) (fun (m_1 : Nat) (room15 : Int) (seen16 : List Nat) => [(some b1, .cells #[.int .i64 n0.N, .int .i64 n0.S, .int .i64 n0.T, .slice n0_Arcs_b n0_Arcs_n n0_Arcs_c] 24 (0, 0)), (ob9, mapO .i64 (Value.int .i64) r6), (some b13, iterO ob9 r6.length seen16)]) (fun (m_1 : Nat) (room15 : Int) (seen16 : List Nat) => m_1) FUEL 4611686018427387904 ([] : List Nat) e_1 (AllF.cons rfl (AllF.cons rfl (AllF.cons rfl (AllF.cons rfl AllF.nil)))) (Pick.cons (Take.tail (Take.tail (Take.head _ _))) (Pick.cons (Take.tail (Take.head _ _)) (Pick.cons (Take.head _ _) Pick.nil))) ?_
        rintro m_1 room15 seen16 H
        obtain ⟨n_1, rfl, A_1⟩ := loopA_some H
        refine T.seq ?_
        refine T.regionL (ll := [0, 1]) rfl ?_
        refine TO.mnext (xs := r6) (seen := seen16) (f := (Value.int .i64)) (q := .i64) (default : Int × Int) hz10 rfl rfl rfl rfl (List.Mem.tail _ (List.Mem.head _)) (Take.tail (Take.tail (Take.head _ _))) ?_ ?_
        · intro hc
          obtain ⟨r_1, H, C_1⟩ := A_1 none hc
          have H : m_flow_Room_s1 n0 f1 r6 room15 seen16 none = some r_1 := H
          unfold m_flow_Room_s1 at H
          have H := chooseN H
          refine TO.extract rfl rfl rfl rfl rfl ?_
          refine TO.done ?_
          refine X.seq_normal ?_
          refine T.seq ?_
          refine T.condF rfl rfl ?_
          refine T.exit ?_
          refine X.then_exit ?_
          have H := loopA_exitE H C_1 ▸ K_1
          refine X.then_exit ?_
          refine X.block_here ?_
          exact X.metE1 room15 H (AllF.cons rfl AllF.nil) Pick.nil
        · intro j17 hc g18
          obtain ⟨r_1, H, C_1⟩ := A_1 (some j17) hc
          have H : m_flow_Room_s1 n0 f1 r6 room15 seen16 (some j17) = some r_1 := H
          unfold m_flow_Room_s1 at H
          have H := chooseS H
          refine TO.extract rfl rfl rfl rfl rfl ?_
          refine TO.done ?_
          refine X.seq_normal ?_
          refine T.seq ?_
          refine T.condT rfl rfl ?_
          refine T.skip ?_
          refine X.seq_normal ?_
          refine T.block ?_
          refine T.seq ?_
          refine T.regionL (ll := [0, 1, 2, 3, 4]) rfl ?_
          refine TO.mentry (xs := r6) (seen := seen16) (f := (Value.int .i64)) (q := .i64) (default : Int × Int) hz10 g18 rfl rfl rfl rfl (List.Mem.tail _ (List.Mem.tail _ (List.Mem.head _))) (List.Mem.head _) ?_
          refine TO.extract rfl rfl rfl rfl rfl ?_
          refine TO.extract rfl rfl rfl rfl rfl ?_
          refine TO.assign rfl rfl rfl rfl ?_
          refine TO.assign rfl rfl rfl rfl ?_
          refine TO.done ?_
          refine X.seq_normal ?_
          refine T.block ?_
          refine T.seq ?_
          refine T.regionL (ll := [0, 1, 2]) rfl ?_
          refine TO.move rfl rfl rfl rfl ?_
          refine TO.bin rfl rfl rfl rfl rfl rfl ?_
          refine TO.assign rfl rfl rfl rfl ?_
          refine TO.done ?_
          refine X.seq_normal ?_
          rcases ite_some H with ⟨g19, H⟩ | ⟨g19, H⟩
          ·
            refine T.condPT rfl g19 ?_
            obtain ⟨g20, H⟩ := gd_some H
            obtain ⟨g21, H⟩ := gd_some H
            obtain ⟨g22, H⟩ := gd_some H
            obtain ⟨g23, H⟩ := gd_some H
            apply T.drawQT [(35, _), (36, _), (37, _), (38, _), (39, _), (40, _), (41, _), (42, _), (43, _), (44, _), (45, _), (46, _), (47, _), (48, _)]
            · exact mixed
            · kernel_rfl
            · kernel_rfl
            · exact rfl
            · exact rfl
            · refine ⟨?_, ?_, ?_, ?_, ?_, ?_, ?_, ?_, ?_, ?_, ?_, ?_, ?_, ?_, trivial⟩
              · intro Es
                refine TO.move rfl rfl rfl rfl ?_
                exact TO.done (X.ob rfl (Pick.refl _))
              · intro Es
                refine TO.fieldAddr0 rfl rfl rfl rfl TWS3.f24_3 ?_
                exact TO.done (X.ob rfl (Pick.refl _))
              · intro Es
                refine TO.load1 rfl rfl rfl rfl TWS3.s22 (List.Mem.tail _ (List.Mem.head _)) rfl ?_
                exact TO.done (X.ob rfl (Pick.refl _))
              · intro Es
                refine TO.move rfl rfl rfl rfl ?_
                exact TO.done (X.ob rfl (Pick.refl _))
              · intro Es
                refine TO.ixR h_n0_Arcs g20 rfl rfl rfl rfl rfl TWS3.l22 TWS3.n28 ?_
                exact TO.done (X.ob rfl (Pick.refl _))
              · intro Es
                refine TO.faR rfl rfl rfl rfl TWS3.f28_2 ?_
                exact TO.done (X.ob rfl (Pick.refl _))
              · intro Es
                refine TO.ldFR (v := .int .i64 ((n0.Arcs.getD ((r6.getD j17 (default : Int × Int)).1).toNat default).cap)) default h_n0_Arcs g20 rfl rfl rfl rfl rfl TWS3.s2 ?_
                exact TO.done (X.ob rfl (Pick.refl _))
              · intro Es
                refine TO.move rfl rfl rfl rfl ?_
                exact TO.done (X.ob rfl (Pick.refl _))
              · intro Es
                refine TO.move rfl rfl rfl rfl ?_
                exact TO.done (X.ob rfl (Pick.refl _))
              · intro Es
                refine TO.ixR h_f1 g21 rfl rfl rfl rfl rfl TWS3.l25 TWS3.n2 ?_
                exact TO.done (X.ob rfl (Pick.refl _))
              · intro Es
                refine TO.ldIR h_f1 g21 rfl rfl rfl rfl TWS3.s2 ?_
                exact TO.done (X.ob rfl (Pick.refl _))
              · intro Es
                refine TO.subG g22 rfl rfl rfl rfl rfl ?_
                exact TO.done (X.ob rfl (Pick.refl _))
              · intro Es
                refine TO.move rfl rfl rfl rfl ?_
                exact TO.done (X.ob rfl (Pick.refl _))
              · intro Es
                refine TO.quoG g23 rfl rfl rfl rfl rfl ?_
                exact TO.done (X.ob rfl (Pick.refl _))
            refine TO.min2 rfl rfl rfl rfl rfl ?_
            refine TO.assign rfl rfl rfl rfl ?_
            refine TO.done ?_
            refine X.block_normal ?_
            refine X.block_normal ?_
            have H := loopA_next H C_1
            exact X.againE3 n_1 (min room15 ((((n0.Arcs.getD ((r6.getD j17 (default : Int × Int)).1).toNat default).cap) - (f1.getD ((r6.getD j17 (default : Int × Int)).1).toNat 0)).tdiv ((r6.getD j17 (default : Int × Int)).2))) (seen16 ++ [j17]) H (Nat.lt_succ_self _) (AllF.cons rfl (AllF.cons rfl (AllF.cons rfl (AllF.cons rfl AllF.nil)))) (Pick.cons (Take.tail (Take.head _ _)) (Pick.cons (Take.tail (Take.head _ _)) (Pick.cons (Take.head _ _) Pick.nil)))
          ·
            refine T.condPF rfl g19 ?_
            refine T.seq ?_
            refine T.regionL (ll := [0, 1, 2]) rfl ?_
            refine TO.move rfl rfl rfl rfl ?_
            refine TO.bin rfl rfl rfl rfl rfl rfl ?_
            refine TO.assign rfl rfl rfl rfl ?_
            refine TO.done ?_
            refine X.seq_normal ?_
            refine T.trim (AllF.cons (t := 1) rfl (AllF.cons (t := 3) rfl (AllF.cons (t := 10) rfl (AllF.cons (t := 26) rfl (AllF.cons (t := 11) rfl (AllF.cons (t := 12) rfl (AllF.cons (t := 50) rfl AllF.nil))))))) ?_
            rcases ite_some H with ⟨g24, H⟩ | ⟨g24, H⟩
            ·
              refine T.condPT rfl g24 ?_
              obtain ⟨g25, H⟩ := gd_some H
              obtain ⟨g26, H⟩ := gd_some H
              obtain ⟨g27, H⟩ := gd_some H
              refine T.regionL (ll := [0, 1, 2, 3, 4, 5, 6, 7, 8, 9]) rfl ?_
              refine TO.move rfl rfl rfl rfl ?_
              refine TO.move rfl rfl rfl rfl ?_
              refine TO.move rfl rfl rfl rfl ?_
              refine TO.ixR h_f1 g25 rfl rfl rfl rfl rfl TWS3.l25 TWS3.n2 ?_
              refine TO.ldIR h_f1 g25 rfl rfl rfl rfl TWS3.s2 ?_
              refine TO.move rfl rfl rfl rfl ?_
              refine TO.negG g26 rfl rfl rfl rfl ?_
              refine TO.quoG g27 rfl rfl rfl rfl rfl ?_
              refine TO.min2 rfl rfl rfl rfl rfl ?_
              refine TO.assign rfl rfl rfl rfl ?_
              refine TO.done ?_
              refine X.block_normal ?_
              refine X.block_normal ?_
              have H := loopA_next H C_1
              exact X.againE3 n_1 (min room15 ((f1.getD ((r6.getD j17 (default : Int × Int)).1).toNat 0).tdiv (-((r6.getD j17 (default : Int × Int)).2)))) (seen16 ++ [j17]) H (Nat.lt_succ_self _) (AllF.cons rfl (AllF.cons rfl (AllF.cons rfl (AllF.cons rfl AllF.nil)))) (Pick.cons (Take.tail (Take.head _ _)) (Pick.cons (Take.tail (Take.head _ _)) (Pick.cons (Take.head _ _) Pick.nil)))
            ·
              refine T.condPF rfl g24 ?_
              refine T.skip ?_
              refine X.block_normal ?_
              refine X.block_normal ?_
              have H := loopA_next H C_1
              exact X.againE3 n_1 room15 (seen16 ++ [j17]) H (Nat.lt_succ_self _) (AllF.cons rfl (AllF.cons rfl (AllF.cons rfl (AllF.cons rfl AllF.nil)))) (Pick.cons (Take.tail (Take.head _ _)) (Pick.cons (Take.tail (Take.head _ _)) (Pick.cons (Take.head _ _) Pick.nil)))
      · rintro room28 H
        unfold m_flow_Room_j2 at H
        refine T.seq ?_
        refine T.regionL (ll := [0, 1, 2]) rfl ?_
        refine TO.move rfl rfl rfl rfl ?_
        refine TO.assign rfl rfl rfl rfl ?_
        refine TO.assign rfl rfl rfl rfl ?_
        refine TO.done ?_
        refine X.seq_normal ?_
        refine T.ret ?_
        obtain ⟨rfl, rfl⟩ := ret2 H
        exact X.ret2 rfl rfl rfl rfl (Res.tmp rfl) (Res.tmp rfl) Pick.nil ⟨rfl, rfl⟩
/-- slices.Clone[[]int64,int64] -/
theorem w_slices_Clone_int64 {s0 : List Int} {s0_b : Option Addr} {s0_n : Nat} {s0_c : Nat} (w : World) (h_s0 : RS w [] (intC .i64) 1 s0_b s0_n s0_c s0) {r0 : List Int} (H : m_slices_Clone_int64 s0 = some r0) : Fnc Try.prog 64 #[.slice s0_b s0_n s0_c] w [] (fun v N => ∃ (ob_0 : Option Nat) (n_0 : Nat) (c_0 : Nat) (j_0 : List Value), v = .slice (sb ob_0) n_0 c_0 ∧ N = [(ob_0, .cells (arr (intC .i64) r0 j_0).toArray 2 (0, 0))] ∧ r0.length = n_0 ∧ n_0 ≤ c_0 ∧ j_0.length = (c_0 - n_0) * 1 ∧ (ob_0 = none → c_0 = 0)) := by
  unfold m_slices_Clone_int64 at H
  refine Fnc.enter (vs := [.slice s0_b s0_n s0_c]) Try.func64 rfl rfl (Inv.refl w) ?_
  refine T.seq ?_
  refine T.regionL (ll := [0]) rfl ?_
  refine TO.assign rfl rfl rfl rfl ?_
  refine TO.done ?_
  refine X.seq_normal ?_
  refine T.seq ?_
  refine T.seq ?_
  by_cases g1 : s0_b = none
  ·
    have hx : s0 = [] := List.eq_nil_of_length_eq_zero (by rw [h_s0.len, h_s0.ro.nil g1])
    have H : (some ([])) = some r0 := by
      simp only [hx] at H ⊢
      first | exact H | exact (gd_some H).2
    refine T.regionL (ll := [0, 1]) rfl ?_
    refine TO.move rfl rfl rfl rfl ?_
    refine TO.eqnil rfl rfl rfl rfl rfl TWS3.l25 ?_
    refine TO.decB (t := 4) (b' := true) rfl (by rw [g1]; rfl) ?_
    refine TO.done ?_
    refine X.seq_normal ?_
    refine T.condT rfl rfl ?_
    refine T.seq ?_
    refine T.regionL (ll := [0]) rfl ?_
    refine TO.assign rfl rfl rfl rfl ?_
    refine TO.done ?_
    refine X.seq_normal ?_
    refine T.ret ?_
    refine X.then_ret ?_
    obtain rfl := ret1 H
    exact X.ret1 rfl rfl rfl rfl (Res.tmp rfl) (Pick.none Pick.nil) ⟨none, 0, 0, ([]), rfl, rfl, rfl, (Nat.le_refl _), (zeroJ 0 _), (fun _ => rfl)⟩
  ·
    refine T.regionL (ll := [0, 1]) rfl ?_
    refine TO.move rfl rfl rfl rfl ?_
    refine TO.eqnil rfl rfl rfl rfl rfl TWS3.l25 ?_
    refine TO.decB (t := 4) (b' := false) rfl (Option.isNone_eq_false_iff.2 (Option.isSome_iff_ne_none.2 g1)) ?_
    refine TO.done ?_
    refine X.seq_normal ?_
    refine T.condF rfl rfl ?_
    refine T.skip ?_
    refine X.seq_normal ?_
    refine T.seq ?_
    obtain ⟨g4, H⟩ := gd_some H
    refine T.regionL (ll := [0, 1, 2, 3]) rfl ?_
    refine TO.buildNone rfl rfl rfl TWS3.l25 TWS3.n2 ?_; intro b2
    refine TO.move rfl rfl rfl rfl ?_
    refine TO.app (f := (intC .i64)) (s := 1) (xs := ([] : List Int)) (ob := some b2) (j := ([])) (ys := s0) (fun _ => rfl) (fun _ => rfl) TWS3el25 g4 rfl rfl rfl rfl rfl (Take.head _ _) rfl (Nat.le_refl _) (zeroJ 0 _) someZ (fun wc hwc => (h_s0.mono hwc)) ?_; intro ob5 c6 j7 hc8 hj9 hz10
    refine TO.assign rfl rfl rfl rfl ?_
    refine TO.done ?_
    refine X.seq_normal ?_
    refine T.ret ?_
    obtain rfl := ret1 H
    exact X.ret1 rfl rfl rfl rfl (Res.tmp rfl) (Pick.cons (Take.head _ _) Pick.nil) ⟨ob5, (0 + s0_n), c6, j7, rfl, rfl, (lenApp0 h_s0.len), hc8, hj9, hz10⟩
/-- acequia/flow.Send -/
theorem w_flow_Send {n0 : Net} {f1 : List Int} {l2 : List Hop} {d3 : Int} {n0_Arcs_b : Option Addr} {n0_Arcs_n : Nat} {n0_Arcs_c : Nat} {f1_b : Option Addr} {f1_n : Nat} {f1_c : Nat} {l2_b : Option Addr} {l2_n : Nat} {l2_c : Nat} (w : World) (h_n0_Arcs : RS w [] arcC 3 n0_Arcs_b n0_Arcs_n n0_Arcs_c n0.Arcs) (h_f1 : RS w [] (intC .i64) 1 f1_b f1_n f1_c f1) (h_l2 : RS w [] hopC 2 l2_b l2_n l2_c l2) {r0 : List Int} {r1 : Int} (H : m_flow_Send n0 f1 l2 d3 = some (r0, r1)) : Fnc Try.prog 35 #[.agg #[.int .i64 n0.N, .int .i64 n0.S, .int .i64 n0.T, .slice n0_Arcs_b n0_Arcs_n n0_Arcs_c], .slice f1_b f1_n f1_c, .slice l2_b l2_n l2_c, .int .i64 d3] w [] (fun v N => ∃ (ob_0 : Option Nat) (n_0 : Nat) (c_0 : Nat) (j_0 : List Value), v = .tuple #[.slice (sb ob_0) n_0 c_0, .int .i64 r1] ∧ N = [(ob_0, .cells (arr (intC .i64) r0 j_0).toArray 2 (0, 0))] ∧ r0.length = n_0 ∧ n_0 ≤ c_0 ∧ j_0.length = (c_0 - n_0) * 1 ∧ (ob_0 = none → c_0 = 0)) := by
  unfold m_flow_Send at H
  refine Fnc.enter (vs := [.agg #[.int .i64 n0.N, .int .i64 n0.S, .int .i64 n0.T, .slice n0_Arcs_b n0_Arcs_n n0_Arcs_c], .slice f1_b f1_n f1_c, .slice l2_b l2_n l2_c, .int .i64 d3]) Try.func35 rfl rfl (Inv.refl w) ?_
  refine T.seq ?_
  refine T.regionL (ll := [0, 1, 2]) rfl ?_
  refine TO.boxA rfl rfl rfl rfl ?_; intro b1
  refine TO.assign rfl rfl rfl rfl ?_
  refine TO.assign rfl rfl rfl rfl ?_
  refine TO.done ?_
  refine X.seq_normal ?_
  refine T.seq ?_
  obtain ⟨⟨r3, r4⟩, e5, H⟩ := bd_some H
  refine T.regionL (ll := [0, 1, 2, 3, 4, 5, 6, 7, 8]) rfl ?_
  refine TO.loadA rfl rfl rfl rfl TWS3.a24 (List.Mem.head _) rfl ?_
  refine TO.move rfl rfl rfl rfl ?_
  refine TO.move rfl rfl rfl rfl ?_
  refine TO.callX TWS3.c34 rfl rfl rfl rfl (fun wc hwc => w_flow_Room (n0 := n0) (f1 := f1) (l2 := l2) wc (h_n0_Arcs.mono hwc) (h_f1.mono hwc) (h_l2.mono hwc) e5) ?_
  rintro _ _ ⟨rfl, rfl⟩
  refine TO.move rfl rfl rfl rfl ?_
  refine TO.extract rfl rfl rfl rfl rfl ?_
  refine TO.extract rfl rfl rfl rfl rfl ?_
  refine TO.assign rfl rfl rfl rfl ?_
  refine TO.assign rfl rfl rfl rfl ?_
  refine TO.done ?_
  refine X.seq_normal ?_
  refine T.trim (AllF.cons (t := 1) rfl (AllF.cons (t := 2) rfl (AllF.cons (t := 3) rfl (AllF.cons (t := 4) rfl (AllF.cons (t := 10) rfl (AllF.cons (t := 11) rfl AllF.nil)))))) ?_
  refine T.seq ?_
  refine T.block ?_
  refine T.seq ?_
  refine T.regionL (ll := [0, 1, 2]) rfl ?_
  refine TO.move rfl rfl rfl rfl ?_
  refine TO.bin rfl rfl rfl rfl rfl rfl ?_
  refine TO.assign rfl rfl rfl rfl ?_
  refine TO.done ?_
  refine X.seq_normal ?_
  rcases ite_some H with ⟨g6, H⟩ | ⟨g6, H⟩
  ·
    refine T.condPT rfl g6 ?_
    refine T.seq ?_
    refine T.regionL (ll := [0, 1, 2]) rfl ?_
    refine TO.move rfl rfl rfl rfl ?_
    refine TO.assign rfl rfl rfl rfl ?_
    refine TO.assign rfl rfl rfl rfl ?_
    refine TO.done ?_
    refine X.seq_normal ?_
    refine T.trim (AllF.cons (t := 8) rfl (AllF.cons (t := 9) rfl AllF.nil)) ?_
    refine T.ret ?_
    refine X.block_ret ?_
    refine X.then_ret ?_
    obtain ⟨rfl, rfl⟩ := ret2 H
    exact X.ret2 rfl rfl rfl rfl (Res.tmp rfl) (Res.tmp rfl) (Pick.none Pick.nil) ⟨none, 0, 0, ([]), rfl, rfl, rfl, (Nat.le_refl _), (zeroJ 0 _), (fun _ => rfl)⟩
  ·
    refine T.condPF rfl g6 ?_
    refine T.seq ?_
    refine T.meetSE1 (fun (x8 : Bool) => m_flow_Send_j1 n0 f1 l2 d3 x8 = some (r0, r1)) (fun (x8 : Bool) => [(1, .slice f1_b f1_n f1_c), (2, .slice l2_b l2_n l2_c), (3, .int .i64 d3), (4, .pointer (some ⟨b1, 0, none⟩)), (28, .bool x8)]) (fun (x8 : Bool) => [(some b1, .cells #[.int .i64 n0.N, .int .i64 n0.S, .int .i64 n0.T, .slice n0_Arcs_b n0_Arcs_n n0_Arcs_c] 24 (0, 0))]) ?_ ?_
    ·
      rcases ite_some H with ⟨g7, H⟩ | ⟨g7, H⟩
      ·
        refine T.regionL (ll := [0, 1, 2, 3, 4, 5, 6, 7]) rfl ?_
        refine TO.move rfl rfl rfl rfl ?_
        refine TO.bin rfl rfl rfl rfl rfl rfl ?_
        refine TO.move rfl rfl rfl rfl ?_
        refine TO.decB (t := 31) (b' := true) rfl (decide_eq_true g7) ?_
        refine TO.shut rfl rfl rfl rfl ?_
        refine TO.shut rfl rfl rfl rfl ?_
        refine TO.shut rfl rfl rfl rfl ?_
        refine TO.pickT rfl rfl rfl rfl rfl ?_
        refine TO.assign rfl rfl rfl rfl ?_
        refine TO.done ?_
        exact X.metE1 true H (AllF.cons rfl (AllF.cons rfl (AllF.cons rfl (AllF.cons rfl (AllF.cons rfl AllF.nil))))) (Pick.cons (Take.head _ _) Pick.nil)
      ·
        refine T.regionL (ll := [0, 1, 2, 3, 4, 5, 6, 7]) rfl ?_
        refine TO.move rfl rfl rfl rfl ?_
        refine TO.bin rfl rfl rfl rfl rfl rfl ?_
        refine TO.move rfl rfl rfl rfl ?_
        refine TO.decB (t := 31) (b' := false) rfl (decide_eq_false g7) ?_
        refine TO.move rfl rfl rfl rfl ?_
        refine TO.move rfl rfl rfl rfl ?_
        refine TO.bin rfl rfl rfl rfl rfl rfl ?_
        refine TO.pickF rfl rfl rfl rfl rfl ?_
        refine TO.assign rfl rfl rfl rfl ?_
        refine TO.done ?_
        exact X.metE1 (decide (r3 < d3)) H (AllF.cons rfl (AllF.cons rfl (AllF.cons rfl (AllF.cons rfl (AllF.cons rfl AllF.nil))))) (Pick.cons (Take.head _ _) Pick.nil)
    · rintro x8 H
      unfold m_flow_Send_j1 at H
      rcases ite_some H with ⟨g9, H⟩ | ⟨g9, H⟩
      ·
        refine T.condT rfl g9 ?_
        refine T.seq ?_
        refine T.regionL (ll := [0, 1]) rfl ?_
        refine TO.assign rfl rfl rfl rfl ?_
        refine TO.assign rfl rfl rfl rfl ?_
        refine TO.done ?_
        refine X.seq_normal ?_
        refine T.ret ?_
        refine X.block_ret ?_
        refine X.then_ret ?_
        obtain ⟨rfl, rfl⟩ := ret2 H
        exact X.ret2 rfl rfl rfl rfl (Res.tmp rfl) (Res.tmp rfl) (Pick.none Pick.nil) ⟨none, 0, 0, ([]), rfl, rfl, rfl, (Nat.le_refl _), (zeroJ 0 _), (fun _ => rfl)⟩
      ·
        refine T.condF rfl (Bool.eq_false_iff.2 g9) ?_
        refine T.skip ?_
        refine X.block_normal ?_
        refine X.seq_normal ?_
        refine T.seq ?_
        obtain ⟨r10, e11, H⟩ := bd_some H
        refine T.regionL (ll := [0, 1, 2]) rfl ?_
        refine TO.move rfl rfl rfl rfl ?_
        refine TO.callX TWS3.c64 rfl rfl rfl rfl (fun wc hwc => w_slices_Clone_int64 (s0 := f1) wc (h_f1.mono hwc) e11) ?_
        rintro _ _ ⟨ob12, n13, c14, j15, rfl, rfl, hn16, hc17, hj18, hz19⟩
        refine TO.assign rfl rfl rfl rfl ?_
        refine TO.done ?_
        refine X.seq_normal ?_
        refine T.seq ?_
        obtain ⟨⟨r21, r22⟩, e23, H⟩ := bd_some H
        refine T.regionL (ll := [0, 1, 2, 3, 4, 5, 6, 7]) rfl ?_
        refine TO.loadA rfl rfl rfl rfl TWS3.a24 (List.Mem.tail _ (List.Mem.head _)) rfl ?_
        refine TO.move rfl rfl rfl rfl ?_
        refine TO.callX TWS3.c63 rfl rfl rfl rfl (fun wc hwc => w_flow_along (n0 := n0) (l1 := l2) wc (h_n0_Arcs.mono hwc) (h_l2.mono hwc) e23) ?_
        rintro _ _ ⟨ob24, rfl, rfl, hz25⟩
        refine TO.move rfl rfl rfl rfl ?_
        refine TO.extract rfl rfl rfl rfl rfl ?_
        refine TO.extract rfl rfl rfl rfl rfl ?_
        refine TO.assign rfl rfl rfl rfl ?_
        refine TO.assign rfl rfl rfl rfl ?_
        refine TO.done ?_
        refine X.seq_normal ?_
        refine T.trim (AllF.cons (t := 3) rfl (AllF.cons (t := 12) rfl (AllF.cons (t := 13) rfl AllF.nil))) ?_
        refine T.seq ?_
        refine T.seq ?_
        refine T.regionL (ll := [0, 1]) rfl ?_
        refine TO.move rfl rfl rfl rfl ?_
        refine TO.mrange (xs := r21) TWS3.m93 hz25 rfl rfl rfl rfl (List.Mem.head _) ?_; intro b27
        refine TO.done ?_
        refine X.seq_normal ?_
        refine T.meetSE1 (fun (xs38 : List Int) => m_flow_Send_j3 xs38 = some (r0, r1) ∧ xs38.length = n13) (fun (xs38 : List Int) => [(12, .slice (sb ob12) n13 c14)]) (fun (xs38 : List Int) => [(ob12, .cells (arr (intC .i64) xs38 j15).toArray 2 (0, 0))]) ?_ ?_
        ·
          refine T.block ?_
          obtain ⟨o_2, e_2, K_2⟩ := bd_some H
          refine T.loopE3 (fun (m_2 : Nat) (xs29 : List Int) (seen31 : List Nat) => loopA (fun s => altsM r21.length s.2) (fun s c => m_flow_Send_s2 d3 r21 s.1 s.2 c) m_2 (xs29, seen31) = some o_2 ∧ xs29.length = n13) (fun (m_2 : Nat) (xs29 : List Int) (seen31 : List Nat) => [(3, .int .i64 d3), (12, .slice (sb ob12) n13 c14), (45, .pointer (some ⟨b27, 0, none⟩))]) (fun (m_2 : Nat) (xs29 : List Int) (seen31 : List Nat) => [(ob12, .cells (arr (intC .i64) xs29 j15).toArray 2 (0, 0)), (ob24, mapO .i64 (Value.int .i64) r21), (some b27, iterO ob24 r21.length seen31)]) (fun (m_2 : Nat) (xs29 : List Int) (seen31 : List Nat) => m_2) FUEL r10 ([] : List Nat) ⟨e_2, hn16⟩ (AllF.cons rfl (AllF.cons rfl (AllF.cons rfl AllF.nil))) (Pick.cons (Take.tail (Take.tail (Take.head _ _))) (Pick.cons (Take.tail (Take.head _ _)) (Pick.cons (Take.head _ _) Pick.nil))) ?_
          rintro m_2 xs29 seen31 ⟨H, hn30⟩
          obtain ⟨n_2, rfl, A_2⟩ := loopA_some H
          refine T.seq ?_
          refine T.regionL (ll := [0, 1]) rfl ?_
          refine TO.mnext (xs := r21) (seen := seen31) (f := (Value.int .i64)) (q := .i64) (default : Int × Int) hz25 rfl rfl rfl rfl (List.Mem.tail _ (List.Mem.head _)) (Take.tail (Take.tail (Take.head _ _))) ?_ ?_
          · intro hc
            obtain ⟨r_2, H, C_2⟩ := A_2 none hc
            have H : m_flow_Send_s2 d3 r21 xs29 seen31 none = some r_2 := H
            unfold m_flow_Send_s2 at H
            have H := chooseN H
            refine TO.extract rfl rfl rfl rfl rfl ?_
            refine TO.done ?_
            refine X.seq_normal ?_
            refine T.seq ?_
            refine T.condF rfl rfl ?_
            refine T.exit ?_
            refine X.then_exit ?_
            have H := loopA_exitE H C_2 ▸ K_2
            refine X.then_exit ?_
            refine X.block_here ?_
            exact X.metE1 xs29 ⟨H, hn30⟩ (AllF.cons rfl AllF.nil) (Pick.cons (Take.head _ _) Pick.nil)
          · intro j32 hc g33
            obtain ⟨r_2, H, C_2⟩ := A_2 (some j32) hc
            have H : m_flow_Send_s2 d3 r21 xs29 seen31 (some j32) = some r_2 := H
            unfold m_flow_Send_s2 at H
            have H := chooseS H
            refine TO.extract rfl rfl rfl rfl rfl ?_
            refine TO.done ?_
            refine X.seq_normal ?_
            refine T.seq ?_
            refine T.condT rfl rfl ?_
            refine T.skip ?_
            refine X.seq_normal ?_
            refine T.block ?_
            refine T.seq ?_
            refine T.regionL (ll := [0, 1, 2, 3, 4]) rfl ?_
            refine TO.mentry (xs := r21) (seen := seen31) (f := (Value.int .i64)) (q := .i64) (default : Int × Int) hz25 g33 rfl rfl rfl rfl (List.Mem.tail _ (List.Mem.tail _ (List.Mem.head _))) (List.Mem.head _) ?_
            refine TO.extract rfl rfl rfl rfl rfl ?_
            refine TO.extract rfl rfl rfl rfl rfl ?_
            refine TO.assign rfl rfl rfl rfl ?_
            refine TO.assign rfl rfl rfl rfl ?_
            refine TO.done ?_
            refine X.seq_normal ?_
            obtain ⟨g34, H⟩ := gd_some H
            obtain ⟨g35, H⟩ := gd_some H
            obtain ⟨g36, H⟩ := gd_some H
            obtain ⟨g37, H⟩ := gd_some H
            refine T.regionL (ll := [0, 1, 2, 3, 4, 5, 6, 7, 8, 9]) rfl ?_
            refine TO.move rfl rfl rfl rfl ?_
            refine TO.move rfl rfl rfl rfl ?_
            refine TO.ixV hz19 hc17 hn30 g34 rfl rfl rfl rfl rfl TWS3.l25 TWS3.n2 ?_
            refine TO.ldIV hz19 hc17 hn30 g34 rfl rfl rfl rfl TWS3.s2 (List.Mem.tail _ (List.Mem.head _)) ?_
            refine TO.move rfl rfl rfl rfl ?_
            refine TO.move rfl rfl rfl rfl ?_
            refine TO.mulG g35 rfl rfl rfl rfl rfl ?_
            refine TO.addG g36 rfl rfl rfl rfl rfl ?_
            refine TO.ixV hz19 hc17 hn30 g37 rfl rfl rfl rfl rfl TWS3.l25 TWS3.n2 ?_
            refine TO.stIV hz19 hc17 hn30 g37 rfl rfl rfl rfl (Take.tail (Take.head _ _)) TWS3.n2 ?_
            refine TO.done ?_
            refine X.block_normal ?_
            have H := loopA_next H C_2
            exact X.againE3 n_2 (xs29.set ((r21.getD j32 (default : Int × Int)).1).toNat ((xs29.getD ((r21.getD j32 (default : Int × Int)).1).toNat 0) + (d3 * ((r21.getD j32 (default : Int × Int)).2)))) (seen31 ++ [j32]) ⟨H, (List.length_set.trans hn30)⟩ (Nat.lt_succ_self _) (AllF.cons rfl (AllF.cons rfl (AllF.cons rfl AllF.nil))) (Pick.cons (Take.head _ _) (Pick.cons (Take.tail (Take.head _ _)) (Pick.cons (Take.head _ _) Pick.nil)))
        · rintro xs38 ⟨H, hn39⟩
          unfold m_flow_Send_j3 at H
          refine T.seq ?_
          refine T.regionL (ll := [0, 1, 2]) rfl ?_
          refine TO.move rfl rfl rfl rfl ?_
          refine TO.assign rfl rfl rfl rfl ?_
          refine TO.assign rfl rfl rfl rfl ?_
          refine TO.done ?_
          refine X.seq_normal ?_
          refine T.ret ?_
          obtain ⟨rfl, rfl⟩ := ret2 H
          exact X.ret2 rfl rfl rfl rfl (Res.tmp rfl) (Res.tmp rfl) (Pick.cons (Take.head _ _) Pick.nil) ⟨ob12, n13, c14, j15, rfl, rfl, hn39, hc17, hj18, hz19⟩
/-- acequia/flow.Excess -/
theorem w_flow_Excess {n0 : Net} {f1 : List Int} {n0_Arcs_b : Option Addr} {n0_Arcs_n : Nat} {n0_Arcs_c : Nat} {f1_b : Option Addr} {f1_n : Nat} {f1_c : Nat} (w : World) (h_n0_Arcs : RS w [] arcC 3 n0_Arcs_b n0_Arcs_n n0_Arcs_c n0.Arcs) (h_f1 : RS w [] (intC .i64) 1 f1_b f1_n f1_c f1) {r0 : List Int} {r1 : Int} (H : m_flow_Excess n0 f1 = some (r0, r1)) : Fnc Try.prog 27 #[.agg #[.int .i64 n0.N, .int .i64 n0.S, .int .i64 n0.T, .slice n0_Arcs_b n0_Arcs_n n0_Arcs_c], .slice f1_b f1_n f1_c] w [] (fun v N => ∃ (ob_0 : Option Nat) (n_0 : Nat) (c_0 : Nat) (j_0 : List Value), v = .tuple #[.slice (sb ob_0) n_0 c_0, .int .i64 r1] ∧ N = [(ob_0, .cells (arr (intC .i64) r0 j_0).toArray 2 (0, 0))] ∧ r0.length = n_0 ∧ n_0 ≤ c_0 ∧ j_0.length = (c_0 - n_0) * 1 ∧ (ob_0 = none → c_0 = 0)) := by
  unfold m_flow_Excess at H
  refine Fnc.enter (vs := [.agg #[.int .i64 n0.N, .int .i64 n0.S, .int .i64 n0.T, .slice n0_Arcs_b n0_Arcs_n n0_Arcs_c], .slice f1_b f1_n f1_c]) Try.func27 rfl rfl (Inv.refl w) ?_
  refine T.seq ?_
  refine T.regionL (ll := [0, 1, 2]) rfl ?_
  refine TO.boxA rfl rfl rfl rfl ?_; intro b1
  refine TO.assign rfl rfl rfl rfl ?_
  refine TO.assign rfl rfl rfl rfl ?_
  refine TO.done ?_
  refine X.seq_normal ?_
  refine T.seq ?_
  refine T.seq ?_
  obtain ⟨r3, e4, H⟩ := bd_some H
  refine T.regionL (ll := [0, 1, 2, 3]) rfl ?_
  refine TO.loadA rfl rfl rfl rfl TWS3.a24 (List.Mem.head _) rfl ?_
  refine TO.move rfl rfl rfl rfl ?_
  refine TO.callX TWS3.c28 rfl rfl rfl rfl (fun wc hwc => w_flow_Within (n0 := n0) (f1 := f1) wc (h_n0_Arcs.mono hwc) (h_f1.mono hwc) e4) ?_
  rintro _ _ ⟨rfl, rfl⟩
  refine TO.not rfl rfl rfl rfl ?_
  refine TO.done ?_
  refine X.seq_normal ?_
  rcases ite_some H with ⟨g5, H⟩ | ⟨g5, H⟩
  ·
    refine T.condT rfl g5 ?_
    refine T.seq ?_
    refine T.regionL (ll := [0, 1]) rfl ?_
    refine TO.assign rfl rfl rfl rfl ?_
    refine TO.assign rfl rfl rfl rfl ?_
    refine TO.done ?_
    refine X.seq_normal ?_
    refine T.ret ?_
    refine X.then_ret ?_
    obtain ⟨rfl, rfl⟩ := ret2 H
    exact X.ret2 rfl rfl rfl rfl (Res.tmp rfl) (Res.tmp rfl) (Pick.none Pick.nil) ⟨none, 0, 0, ([]), rfl, rfl, rfl, (Nat.le_refl _), (zeroJ 0 _), (fun _ => rfl)⟩
  ·
    refine T.condF rfl (Bool.eq_false_iff.2 g5) ?_
    refine T.skip ?_
    refine X.seq_normal ?_
    refine T.seq ?_
    obtain ⟨g6, H⟩ := gd_some H
    refine T.regionL (ll := [0, 1, 2, 3]) rfl ?_
    refine TO.fieldAddr0 rfl rfl rfl rfl TWS3.f24_0 ?_
    refine TO.load1 rfl rfl rfl rfl TWS3.s3 (List.Mem.head _) rfl ?_
    refine TO.mkI g6 rfl rfl rfl rfl rfl TWS3.l25 TWS3.n2 TWS3.z2 TWS3.b2 rfl ?_; intro b7
    refine TO.assign rfl rfl rfl rfl ?_
    refine TO.done ?_
    refine X.seq_normal ?_
    refine T.trim (AllF.cons (t := 1) rfl (AllF.cons (t := 2) rfl (AllF.cons (t := 6) rfl AllF.nil))) ?_
    refine T.seq ?_
    refine T.seq ?_
    refine T.regionL (ll := [0, 1, 2, 3]) rfl ?_
    refine TO.fieldAddr0 rfl rfl rfl rfl TWS3.f24_3 ?_
    refine TO.load1 rfl rfl rfl rfl TWS3.s22 (List.Mem.tail _ (List.Mem.head _)) rfl ?_
    refine TO.lenX (xs := n0.Arcs) h_n0_Arcs.len rfl rfl rfl rfl rfl TWS3.l22 ?_
    refine TO.move rfl rfl rfl rfl ?_
    refine TO.done ?_
    refine X.seq_normal ?_
    refine T.meetSE1 (fun (xs25 : List Int) => m_flow_Excess_j2 xs25 = some (r0, r1) ∧ xs25.length = n0.N.toNat) (fun (xs25 : List Int) => [(6, .slice (some ⟨b7, 0, none⟩) n0.N.toNat n0.N.toNat)]) (fun (xs25 : List Int) => [(some b7, .cells (arr (intC .i64) xs25 ([])).toArray 2 (0, 0))]) ?_ ?_
    ·
      refine T.block ?_
      obtain ⟨o_1, e_1, K_1⟩ := bd_some H
      refine T.loopE3 (fun (m_1 : Nat) (xs9 : List Int) (x11 : Int) => loopM (fun s => m_flow_Excess_s1 n0 f1 s.1 s.2) m_1 (xs9, x11) = some o_1 ∧ xs9.length = n0.N.toNat) (fun (m_1 : Nat) (xs9 : List Int) (x11 : Int) => [(1, .slice f1_b f1_n f1_c), (6, .slice (some ⟨b7, 0, none⟩) n0.N.toNat n0.N.toNat), (17, .slice n0_Arcs_b n0_Arcs_n n0_Arcs_c), (18, .int .i64 (n0.Arcs.length : Int)), (19, .int .i64 x11)]) (fun (m_1 : Nat) (xs9 : List Int) (x11 : Int) => [(some b7, .cells (arr (intC .i64) xs9 ([])).toArray 2 (0, 0))]) (fun (m_1 : Nat) (xs9 : List Int) (x11 : Int) => m_1) FUEL (List.replicate n0.N.toNat (0 : Int)) 0 ⟨e_1, List.length_replicate⟩ (AllF.cons rfl (AllF.cons rfl (AllF.cons rfl (AllF.cons rfl (AllF.cons rfl AllF.nil))))) (Pick.cons (Take.head _ _) Pick.nil) ?_
      rintro m_1 xs9 x11 ⟨H, hn10⟩
      obtain ⟨n_1, r_1, rfl, H, C_1⟩ := loopM_some H
      have H : m_flow_Excess_s1 n0 f1 xs9 x11 = some r_1 := H
      unfold m_flow_Excess_s1 at H
      refine T.seq ?_
      refine T.regionL (ll := [0]) rfl ?_
      refine TO.bin rfl rfl rfl rfl rfl rfl ?_
      refine TO.done ?_
      refine X.seq_normal ?_
      refine T.seq ?_
      rcases ite_some H with ⟨g12, H⟩ | ⟨g12, H⟩
      ·
        refine T.condPT rfl g12 ?_
        refine T.skip ?_
        refine X.seq_normal ?_
        refine T.seq ?_
        refine T.block ?_
        refine T.seq ?_
        obtain ⟨g13, H⟩ := gd_some H
        refine T.regionL (ll := [0, 1, 2, 3, 4, 5]) rfl ?_
        refine TO.move rfl rfl rfl rfl ?_
        refine TO.ixR h_n0_Arcs g13 rfl rfl rfl rfl rfl TWS3.l22 TWS3.n28 ?_
        refine TO.ldSR (cs := [.int .i64 ((n0.Arcs.getD x11.toNat default).fr), .int .i64 ((n0.Arcs.getD x11.toNat default).to), .int .i64 ((n0.Arcs.getD x11.toNat default).cap)]) default h_n0_Arcs g13 rfl rfl rfl rfl rfl TWS3.a28 ?_
        refine TO.allocA rfl rfl rfl TWS3.z28 ?_; intro b14
        refine TO.assign rfl rfl rfl rfl ?_
        refine TO.storeA rfl rfl rfl rfl (Take.head _ _) TWS3.n28 rfl rfl rfl ?_
        refine TO.done ?_
        refine X.seq_normal ?_
        refine T.seq ?_
        obtain ⟨g16, H⟩ := gd_some H
        obtain ⟨g17, H⟩ := gd_some H
        obtain ⟨g18, H⟩ := gd_some H
        obtain ⟨g19, H⟩ := gd_some H
        apply T.drawQT [(24, _), (25, _), (26, _), (27, _), (28, _), (29, _), (30, _), (31, _), (32, _)]
        · exact mixed
        · kernel_rfl
        · kernel_rfl
        · exact rfl
        · exact rfl
        · refine ⟨?_, ?_, ?_, ?_, ?_, ?_, ?_, ?_, ?_, trivial⟩
          · intro Es
            refine TO.move rfl rfl rfl rfl ?_
            exact TO.done (X.ob rfl (Pick.refl _))
          · intro Es
            refine TO.fieldAddr0 rfl rfl rfl rfl TWS3.f28_0 ?_
            exact TO.done (X.ob rfl (Pick.refl _))
          · intro Es
            refine TO.load1 rfl rfl rfl rfl TWS3.s3 (List.Mem.head _) rfl ?_
            exact TO.done (X.ob rfl (Pick.refl _))
          · intro Es
            refine TO.ix1 hn10 g16 rfl rfl rfl rfl rfl TWS3.l25 TWS3.n2 ?_
            exact TO.done (X.ob rfl (Pick.refl _))
          · intro Es
            refine TO.ldIO g16 rfl rfl rfl rfl TWS3.s2 (List.Mem.tail _ (List.Mem.head _)) ?_
            exact TO.done (X.ob rfl (Pick.refl _))
          · intro Es
            refine TO.move rfl rfl rfl rfl ?_
            exact TO.done (X.ob rfl (Pick.refl _))
          · intro Es
            refine TO.move rfl rfl rfl rfl ?_
            exact TO.done (X.ob rfl (Pick.refl _))
          · intro Es
            refine TO.ixR h_f1 g17 rfl rfl rfl rfl rfl TWS3.l25 TWS3.n2 ?_
            exact TO.done (X.ob rfl (Pick.refl _))
          · intro Es
            refine TO.ldIR h_f1 g17 rfl rfl rfl rfl TWS3.s2 ?_
            exact TO.done (X.ob rfl (Pick.refl _))
        refine TO.subG g18 rfl rfl rfl rfl rfl ?_
        refine TO.ix1 hn10 g19 rfl rfl rfl rfl rfl TWS3.l25 TWS3.n2 ?_
        refine TO.stIO g19 rfl rfl rfl rfl (Take.tail (Take.head _ _)) TWS3.n2 ?_
        refine TO.done ?_
        refine X.seq_normal ?_
        refine T.trim (AllF.cons (t := 1) rfl (AllF.cons (t := 6) rfl (AllF.cons (t := 17) rfl (AllF.cons (t := 18) rfl (AllF.cons (t := 19) rfl (AllF.cons (t := 8) rfl (AllF.cons (t := 7) rfl AllF.nil))))))) ?_
        obtain ⟨g20, H⟩ := gd_some H
        obtain ⟨g21, H⟩ := gd_some H
        obtain ⟨g22, H⟩ := gd_some H
        obtain ⟨g23, H⟩ := gd_some H
        apply T.drawQT [(35, _), (36, _), (37, _), (38, _), (39, _), (40, _), (41, _), (42, _), (43, _)]
        · exact mixed
        · kernel_rfl
        · kernel_rfl
        · exact rfl
        · exact rfl
        · refine ⟨?_, ?_, ?_, ?_, ?_, ?_, ?_, ?_, ?_, trivial⟩
          · intro Es
            refine TO.move rfl rfl rfl rfl ?_
            exact TO.done (X.ob rfl (Pick.refl _))
          · intro Es
            refine TO.fieldAddr0 rfl rfl rfl rfl TWS3.f28_1 ?_
            exact TO.done (X.ob rfl (Pick.refl _))
          · intro Es
            refine TO.load1 rfl rfl rfl rfl TWS3.s3 (List.Mem.tail _ (List.Mem.head _)) rfl ?_
            exact TO.done (X.ob rfl (Pick.refl _))
          · intro Es
            refine TO.ix1 (List.length_set.trans hn10) g20 rfl rfl rfl rfl rfl TWS3.l25 TWS3.n2 ?_
            exact TO.done (X.ob rfl (Pick.refl _))
          · intro Es
            refine TO.ldIO g20 rfl rfl rfl rfl TWS3.s2 (List.Mem.head _) ?_
            exact TO.done (X.ob rfl (Pick.refl _))
          · intro Es
            refine TO.move rfl rfl rfl rfl ?_
            exact TO.done (X.ob rfl (Pick.refl _))
          · intro Es
            refine TO.move rfl rfl rfl rfl ?_
            exact TO.done (X.ob rfl (Pick.refl _))
          · intro Es
            refine TO.ixR h_f1 g21 rfl rfl rfl rfl rfl TWS3.l25 TWS3.n2 ?_
            exact TO.done (X.ob rfl (Pick.refl _))
          · intro Es
            refine TO.ldIR h_f1 g21 rfl rfl rfl rfl TWS3.s2 ?_
            exact TO.done (X.ob rfl (Pick.refl _))
        refine TO.addG g22 rfl rfl rfl rfl rfl ?_
        refine TO.ix1 (List.length_set.trans hn10) g23 rfl rfl rfl rfl rfl TWS3.l25 TWS3.n2 ?_
        refine TO.stIO g23 rfl rfl rfl rfl (Take.head _ _) TWS3.n2 ?_
        refine TO.done ?_
        refine X.block_normal ?_
        refine X.seq_normal ?_
        refine T.trim (AllF.cons (t := 1) rfl (AllF.cons (t := 6) rfl (AllF.cons (t := 17) rfl (AllF.cons (t := 18) rfl (AllF.cons (t := 19) rfl AllF.nil))))) ?_
        obtain ⟨g24, H⟩ := gd_some H
        refine T.regionL (ll := [0, 1]) rfl ?_
        refine TO.addG g24 rfl rfl rfl rfl rfl ?_
        refine TO.move rfl rfl rfl rfl ?_
        refine TO.done ?_
        have H := loop_next H C_1
        exact X.againE3 n_1 ((xs9.set ((n0.Arcs.getD x11.toNat default).fr).toNat ((xs9.getD ((n0.Arcs.getD x11.toNat default).fr).toNat 0) - (f1.getD x11.toNat 0))).set ((n0.Arcs.getD x11.toNat default).to).toNat (((xs9.set ((n0.Arcs.getD x11.toNat default).fr).toNat ((xs9.getD ((n0.Arcs.getD x11.toNat default).fr).toNat 0) - (f1.getD x11.toNat 0))).getD ((n0.Arcs.getD x11.toNat default).to).toNat 0) + (f1.getD x11.toNat 0))) (x11 + 1) ⟨H, (List.length_set.trans (List.length_set.trans hn10))⟩ (Nat.lt_succ_self _) (AllF.cons rfl (AllF.cons rfl (AllF.cons rfl (AllF.cons rfl (AllF.cons rfl AllF.nil))))) (Pick.cons (Take.head _ _) Pick.nil)
      ·
        refine T.condPF rfl g12 ?_
        refine T.exit ?_
        refine X.then_exit ?_
        have H := loop_exitE H C_1 ▸ K_1
        refine X.then_exit ?_
        refine X.block_here ?_
        exact X.metE1 xs9 ⟨H, hn10⟩ (AllF.cons rfl AllF.nil) (Pick.cons (Take.head _ _) Pick.nil)
    · rintro xs25 ⟨H, hn26⟩
      unfold m_flow_Excess_j2 at H
      refine T.seq ?_
      refine T.regionL (ll := [0, 1, 2]) rfl ?_
      refine TO.move rfl rfl rfl rfl ?_
      refine TO.assign rfl rfl rfl rfl ?_
      refine TO.assign rfl rfl rfl rfl ?_
      refine TO.done ?_
      refine X.seq_normal ?_
      refine T.ret ?_
      obtain ⟨rfl, rfl⟩ := ret2 H
      exact X.ret2 rfl rfl rfl rfl (Res.tmp rfl) (Res.tmp rfl) (Pick.cons (Take.head _ _) Pick.nil) ⟨(some b7), n0.N.toNat, n0.N.toNat, ([]), rfl, rfl, hn26, (Nat.le_refl _), (zeroJ _ _), someZ⟩
/-- slices.Index[[]int,int] -/
theorem w_slices_Index_int {s0 : List Int} {v1 : Int} {s0_b : Option Addr} {s0_n : Nat} {s0_c : Nat} (w : World) (h_s0 : RS w [] (intC .i64) 1 s0_b s0_n s0_c s0) {r0 : Int} (H : m_slices_Index_int s0 v1 = some r0) : Fnc Try.prog 94 #[.slice s0_b s0_n s0_c, .int .i64 v1] w [] (fun v N => v = .int .i64 r0 ∧ N = []) := by
  unfold m_slices_Index_int at H
  refine Fnc.enter (vs := [.slice s0_b s0_n s0_c, .int .i64 v1]) Try.func94 rfl rfl (Inv.refl w) ?_
  refine T.seq ?_
  refine T.regionL (ll := [0]) rfl ?_
  refine TO.assign rfl rfl rfl rfl ?_
  refine TO.done ?_
  refine X.seq_normal ?_
  refine T.seq ?_
  refine T.seq ?_
  refine T.regionL (ll := [0, 1, 2]) rfl ?_
  refine TO.move rfl rfl rfl rfl ?_
  refine TO.lenX (xs := s0) h_s0.len rfl rfl rfl rfl rfl TWS3.l30 ?_
  refine TO.move rfl rfl rfl rfl ?_
  refine TO.done ?_
  refine X.seq_normal ?_
  refine T.meetSE1 (fun (u6 : Unit) => m_slices_Index_int_j2 = some r0) (fun (u6 : Unit) => []) (fun (u6 : Unit) => []) ?_ ?_
  ·
    refine T.block ?_
    obtain ⟨o_1, e_1, K_1⟩ := bd_some H
    refine T.loopE2 (fun (m_1 : Nat) (x1 : Int) => loopM (fun s => m_slices_Index_int_s1 s0 v1 s) m_1 x1 = some o_1) (fun (m_1 : Nat) (x1 : Int) => [(0, .slice s0_b s0_n s0_c), (1, .int .i64 v1), (7, .int .i64 (s0.length : Int)), (8, .int .i64 x1)]) (fun (m_1 : Nat) (x1 : Int) => []) (fun (m_1 : Nat) (x1 : Int) => m_1) FUEL 0 e_1 (AllF.cons rfl (AllF.cons rfl (AllF.cons rfl (AllF.cons rfl AllF.nil)))) Pick.nil ?_
    rintro m_1 x1 H
    obtain ⟨n_1, r_1, rfl, H, C_1⟩ := loopM_some H
    have H : m_slices_Index_int_s1 s0 v1 x1 = some r_1 := H
    unfold m_slices_Index_int_s1 at H
    refine T.seq ?_
    refine T.regionL (ll := [0]) rfl ?_
    refine TO.bin rfl rfl rfl rfl rfl rfl ?_
    refine TO.done ?_
    refine X.seq_normal ?_
    refine T.seq ?_
    rcases ite_some H with ⟨g2, H⟩ | ⟨g2, H⟩
    ·
      refine T.condPT rfl g2 ?_
      refine T.skip ?_
      refine X.seq_normal ?_
      refine T.seq ?_
      refine T.block ?_
      refine T.seq ?_
      refine T.regionL (ll := [0, 1]) rfl ?_
      refine TO.move rfl rfl rfl rfl ?_
      refine TO.assign rfl rfl rfl rfl ?_
      refine TO.done ?_
      refine X.seq_normal ?_
      refine T.seq ?_
      obtain ⟨g3, H⟩ := gd_some H
      refine T.regionL (ll := [0, 1, 2, 3, 4, 5]) rfl ?_
      refine TO.move rfl rfl rfl rfl ?_
      refine TO.move rfl rfl rfl rfl ?_
      refine TO.move rfl rfl rfl rfl ?_
      refine TO.ixR h_s0 g3 rfl rfl rfl rfl rfl TWS3.l30 TWS3.n3 ?_
      refine TO.ldIR h_s0 g3 rfl rfl rfl rfl TWS3.s3 ?_
      refine TO.bin rfl rfl rfl rfl rfl rfl ?_
      refine TO.done ?_
      refine X.seq_normal ?_
      rcases ite_some H with ⟨g4, H⟩ | ⟨g4, H⟩
      ·
        refine T.condPT rfl g4 ?_
        refine T.seq ?_
        refine T.regionL (ll := [0, 1]) rfl ?_
        refine TO.move rfl rfl rfl rfl ?_
        refine TO.assign rfl rfl rfl rfl ?_
        refine TO.done ?_
        refine X.seq_normal ?_
        refine T.trim (AllF.cons (t := 4) rfl AllF.nil) ?_
        refine T.ret ?_
        refine X.block_ret ?_
        refine X.then_ret ?_
        have H := loop_exitE H C_1 ▸ K_1
        refine X.then_ret ?_
        refine X.block_ret ?_
        refine X.then_ret ?_
        obtain rfl := ret1 H
        exact X.ret1 rfl rfl rfl rfl (Res.tmp rfl) Pick.nil ⟨rfl, rfl⟩
      ·
        refine T.condPF rfl g4 ?_
        refine T.skip ?_
        refine X.block_normal ?_
        refine X.seq_normal ?_
        refine T.trim (AllF.cons (t := 0) rfl (AllF.cons (t := 1) rfl (AllF.cons (t := 7) rfl (AllF.cons (t := 8) rfl AllF.nil)))) ?_
        obtain ⟨g5, H⟩ := gd_some H
        refine T.regionL (ll := [0, 1]) rfl ?_
        refine TO.addG g5 rfl rfl rfl rfl rfl ?_
        refine TO.move rfl rfl rfl rfl ?_
        refine TO.done ?_
        have H := loop_next H C_1
        exact X.againE2 n_1 (x1 + 1) H (Nat.lt_succ_self _) (AllF.cons rfl (AllF.cons rfl (AllF.cons rfl (AllF.cons rfl AllF.nil)))) Pick.nil
    ·
      refine T.condPF rfl g2 ?_
      refine T.exit ?_
      refine X.then_exit ?_
      have H := loop_exitE H C_1 ▸ K_1
      refine X.then_exit ?_
      refine X.block_here ?_
      exact X.metE1 () H AllF.nil Pick.nil
  · rintro u6 H
    unfold m_slices_Index_int_j2 at H
    refine T.seq ?_
    refine T.regionL (ll := [0]) rfl ?_
    refine TO.assign rfl rfl rfl rfl ?_
    refine TO.done ?_
    refine X.seq_normal ?_
    refine T.ret ?_
    obtain rfl := ret1 H
    exact X.ret1 rfl rfl rfl rfl (Res.tmp rfl) Pick.nil ⟨rfl, rfl⟩
/-- slices.Contains[[]int,int] -/
theorem w_slices_Contains_int {s0 : List Int} {v1 : Int} {s0_b : Option Addr} {s0_n : Nat} {s0_c : Nat} (w : World) (h_s0 : RS w [] (intC .i64) 1 s0_b s0_n s0_c s0) {r0 : Bool} (H : m_slices_Contains_int s0 v1 = some r0) : Fnc Try.prog 80 #[.slice s0_b s0_n s0_c, .int .i64 v1] w [] (fun v N => v = .bool r0 ∧ N = []) := by
  unfold m_slices_Contains_int at H
  refine Fnc.enter (vs := [.slice s0_b s0_n s0_c, .int .i64 v1]) Try.func80 rfl rfl (Inv.refl w) ?_
  refine T.seq ?_
  refine T.regionL (ll := [0]) rfl ?_
  refine TO.assign rfl rfl rfl rfl ?_
  refine TO.done ?_
  refine X.seq_normal ?_
  refine T.seq ?_
  obtain ⟨r1, e2, H⟩ := bd_some H
  refine T.regionL (ll := [0, 1, 2, 3, 4]) rfl ?_
  refine TO.move rfl rfl rfl rfl ?_
  refine TO.move rfl rfl rfl rfl ?_
  refine TO.callX TWS3.c94 rfl rfl rfl rfl (fun wc hwc => w_slices_Index_int (s0 := s0) (v1 := v1) wc (h_s0.mono hwc) e2) ?_
  rintro _ _ ⟨rfl, rfl⟩
  refine TO.bin rfl rfl rfl rfl rfl rfl ?_
  refine TO.assign rfl rfl rfl rfl ?_
  refine TO.done ?_
  refine X.seq_normal ?_
  refine T.ret ?_
  obtain rfl := ret1 H
  exact X.ret1 rfl rfl rfl rfl (Res.tmp rfl) Pick.nil ⟨rfl, rfl⟩
/-- acequia/flow.Right$1 -/
theorem w_flow_Right_1 {x0 : Int} (w : World) {r0 : Bool} (H : m_flow_Right_1 x0 = some r0) : Fnc Try.prog 62 #[.int .i64 x0] w [] (fun v N => v = .bool r0 ∧ N = []) := by
  unfold m_flow_Right_1 at H
  refine Fnc.enter (vs := [.int .i64 x0]) Try.func62 rfl rfl (Inv.refl w) ?_
  refine T.seq ?_
  refine T.regionL (ll := [0]) rfl ?_
  refine TO.assign rfl rfl rfl rfl ?_
  refine TO.done ?_
  refine X.seq_normal ?_
  refine T.seq ?_
  refine T.regionL (ll := [0, 1, 2]) rfl ?_
  refine TO.move rfl rfl rfl rfl ?_
  refine TO.bin rfl rfl rfl rfl rfl rfl ?_
  refine TO.assign rfl rfl rfl rfl ?_
  refine TO.done ?_
  refine X.seq_normal ?_
  refine T.ret ?_
  obtain rfl := ret1 H
  exact X.ret1 rfl rfl rfl rfl (Res.tmp rfl) Pick.nil ⟨rfl, rfl⟩
/-- acequia/flow.all -/
theorem w_flow_all_Right_1 {n0 : Net} {f1 : List Int} {but3 : List Int} {n0_Arcs_b : Option Addr} {n0_Arcs_n : Nat} {n0_Arcs_c : Nat} {f1_b : Option Addr} {f1_n : Nat} {f1_c : Nat} {but3_b : Option Addr} {but3_n : Nat} {but3_c : Nat} (w : World) (h_n0_Arcs : RS w [] arcC 3 n0_Arcs_b n0_Arcs_n n0_Arcs_c n0.Arcs) (h_f1 : RS w [] (intC .i64) 1 f1_b f1_n f1_c f1) (h_but3 : RS w [] (intC .i64) 1 but3_b but3_n but3_c but3) {r0 : Bool} (H : m_flow_all_Right_1 n0 f1 but3 = some r0) : Fnc Try.prog 60 #[.agg #[.int .i64 n0.N, .int .i64 n0.S, .int .i64 n0.T, .slice n0_Arcs_b n0_Arcs_n n0_Arcs_c], .slice f1_b f1_n f1_c, .func (.func 62) #[] #[], .slice but3_b but3_n but3_c] w [] (fun v N => v = .bool r0 ∧ N = []) := by
  unfold m_flow_all_Right_1 at H
  refine Fnc.enter (vs := [.agg #[.int .i64 n0.N, .int .i64 n0.S, .int .i64 n0.T, .slice n0_Arcs_b n0_Arcs_n n0_Arcs_c], .slice f1_b f1_n f1_c, .func (.func 62) #[] #[], .slice but3_b but3_n but3_c]) Try.func60 rfl rfl (Inv.refl w) ?_
  refine T.seq ?_
  refine T.regionL (ll := [0, 1]) rfl ?_
  refine TO.boxA rfl rfl rfl rfl ?_; intro b1
  refine TO.assign rfl rfl rfl rfl ?_
  refine TO.done ?_
  refine X.seq_normal ?_
  refine T.seq ?_
  obtain ⟨⟨r3, r4⟩, e5, H⟩ := bd_some H
  refine T.regionL (ll := [0, 1, 2, 3, 4, 5, 6, 7]) rfl ?_
  refine TO.loadA rfl rfl rfl rfl TWS3.a24 (List.Mem.head _) rfl ?_
  refine TO.move rfl rfl rfl rfl ?_
  refine TO.callX TWS3.c27 rfl rfl rfl rfl (fun wc hwc => w_flow_Excess (n0 := n0) (f1 := f1) wc (h_n0_Arcs.mono hwc) (h_f1.mono hwc) e5) ?_
  rintro _ _ ⟨ob6, n7, c8, j9, rfl, rfl, hn10, hc11, hj12, hz13⟩
  refine TO.move rfl rfl rfl rfl ?_
  refine TO.extract rfl rfl rfl rfl rfl ?_
  refine TO.extract rfl rfl rfl rfl rfl ?_
  refine TO.assign rfl rfl rfl rfl ?_
  refine TO.assign rfl rfl rfl rfl ?_
  refine TO.done ?_
  refine X.seq_normal ?_
  refine T.trim (AllF.cons (t := 2) rfl (AllF.cons (t := 3) rfl (AllF.cons (t := 9) rfl (AllF.cons (t := 10) rfl AllF.nil)))) ?_
  refine T.seq ?_
  refine T.seq ?_
  refine T.regionL (ll := [0, 1, 2]) rfl ?_
  refine TO.move rfl rfl rfl rfl ?_
  refine TO.lenX (xs := r3) hn10 rfl rfl rfl rfl rfl TWS3.l25 ?_
  refine TO.move rfl rfl rfl rfl ?_
  refine TO.done ?_
  refine X.seq_normal ?_
  refine T.meetSE1 (fun (u26 : Unit) => m_flow_all_Right_1_j2 r4 = some r0) (fun (u26 : Unit) => [(10, .int .i64 r4)]) (fun (u26 : Unit) => []) ?_ ?_
  ·
    refine T.block ?_
    obtain ⟨o_1, e_1, K_1⟩ := bd_some H
    refine T.loopE2 (fun (m_1 : Nat) (x15 : Int) => loopM (fun s => m_flow_all_Right_1_s1 but3 r3 s) m_1 x15 = some o_1) (fun (m_1 : Nat) (x15 : Int) => [(2, .func (.func 62) #[] #[]), (3, .slice but3_b but3_n but3_c), (10, .int .i64 r4), (19, .slice (sb ob6) n7 c8), (20, .int .i64 (r3.length : Int)), (21, .int .i64 x15)]) (fun (m_1 : Nat) (x15 : Int) => [(ob6, .cells (arr (intC .i64) r3 j9).toArray 2 (0, 0))]) (fun (m_1 : Nat) (x15 : Int) => m_1) FUEL 0 e_1 (AllF.cons rfl (AllF.cons rfl (AllF.cons rfl (AllF.cons rfl (AllF.cons rfl (AllF.cons rfl AllF.nil)))))) (Pick.cons (Take.head _ _) Pick.nil) ?_
    rintro m_1 x15 H
    obtain ⟨n_1, r_1, rfl, H, C_1⟩ := loopM_some H
    have H : m_flow_all_Right_1_s1 but3 r3 x15 = some r_1 := H
    unfold m_flow_all_Right_1_s1 at H
    refine T.seq ?_
    refine T.regionL (ll := [0]) rfl ?_
    refine TO.bin rfl rfl rfl rfl rfl rfl ?_
    refine TO.done ?_
    refine X.seq_normal ?_
    refine T.seq ?_
    rcases ite_some H with ⟨g16, H⟩ | ⟨g16, H⟩
    ·
      refine T.condPT rfl g16 ?_
      refine T.skip ?_
      refine X.seq_normal ?_
      refine T.seq ?_
      refine T.block ?_
      refine T.seq ?_
      obtain ⟨g17, H⟩ := gd_some H
      refine T.regionL (ll := [0, 1, 2, 3, 4]) rfl ?_
      refine TO.move rfl rfl rfl rfl ?_
      refine TO.ixV hz13 hc11 hn10 g17 rfl rfl rfl rfl rfl TWS3.l25 TWS3.n2 ?_
      refine TO.ldIV hz13 hc11 hn10 g17 rfl rfl rfl rfl TWS3.s2 (List.Mem.head _) ?_
      refine TO.assign rfl rfl rfl rfl ?_
      refine TO.assign rfl rfl rfl rfl ?_
      refine TO.done ?_
      refine X.seq_normal ?_
      refine T.seq ?_
      obtain ⟨r18, e19, H⟩ := bd_some H
      rcases ite_some H with ⟨g20, H⟩ | ⟨g20, H⟩
      ·
        obtain ⟨r21, e22, H⟩ := bd_some H
        refine T.regionL (ll := [0, 1, 2, 3, 4, 5, 6, 7, 8, 9]) rfl ?_
        refine TO.move rfl rfl rfl rfl ?_
        refine TO.move rfl rfl rfl rfl ?_
        refine TO.callVX TWS3.c62 rfl rfl rfl rfl rfl (fun wc hwc => w_flow_Right_1 (x0 := (r3.getD x15.toNat 0)) wc  e19) ?_
        rintro _ _ ⟨rfl, rfl⟩
        refine TO.not rfl rfl rfl rfl ?_
        refine TO.move rfl rfl rfl rfl ?_
        refine TO.decB (t := 30) (b' := true) rfl g20 ?_
        refine TO.move rfl rfl rfl rfl ?_
        refine TO.move rfl rfl rfl rfl ?_
        refine TO.callX TWS3.c80 rfl rfl rfl rfl (fun wc hwc => w_slices_Contains_int (s0 := but3) (v1 := x15) wc (h_but3.mono hwc) e22) ?_
        rintro _ _ ⟨rfl, rfl⟩
        refine TO.not rfl rfl rfl rfl ?_
        refine TO.pickT rfl rfl rfl rfl rfl ?_
        refine TO.done ?_
        refine X.seq_normal ?_
        refine T.trim (AllF.cons (t := 2) rfl (AllF.cons (t := 3) rfl (AllF.cons (t := 10) rfl (AllF.cons (t := 19) rfl (AllF.cons (t := 20) rfl (AllF.cons (t := 21) rfl (AllF.cons (t := 31) rfl (AllF.cons (t := 32) rfl (AllF.cons (t := 33) rfl (AllF.cons (t := 34) rfl (AllF.cons (t := 35) rfl AllF.nil))))))))))) ?_
        rcases ite_some H with ⟨g23, H⟩ | ⟨g23, H⟩
        ·
          refine T.condT rfl g23 ?_
          refine T.seq ?_
          refine T.regionL (ll := [0]) rfl ?_
          refine TO.assign rfl rfl rfl rfl ?_
          refine TO.done ?_
          refine X.seq_normal ?_
          refine T.trim (AllF.cons (t := 8) rfl AllF.nil) ?_
          refine T.ret ?_
          refine X.block_ret ?_
          refine X.then_ret ?_
          have H := loop_exitE H C_1 ▸ K_1
          refine X.then_ret ?_
          refine X.block_ret ?_
          refine X.then_ret ?_
          obtain rfl := ret1 H
          exact X.ret1 rfl rfl rfl rfl (Res.tmp rfl) Pick.nil ⟨rfl, rfl⟩
        ·
          refine T.condF rfl (Bool.eq_false_iff.2 g23) ?_
          refine T.skip ?_
          refine X.block_normal ?_
          refine X.seq_normal ?_
          obtain ⟨g24, H⟩ := gd_some H
          refine T.regionL (ll := [0, 1]) rfl ?_
          refine TO.addG g24 rfl rfl rfl rfl rfl ?_
          refine TO.move rfl rfl rfl rfl ?_
          refine TO.done ?_
          have H := loop_next H C_1
          exact X.againE2 n_1 (x15 + 1) H (Nat.lt_succ_self _) (AllF.cons rfl (AllF.cons rfl (AllF.cons rfl (AllF.cons rfl (AllF.cons rfl (AllF.cons rfl AllF.nil)))))) (Pick.cons (Take.head _ _) Pick.nil)
      ·
        refine T.regionL (ll := [0, 1, 2, 3, 4, 5, 6, 7, 8, 9]) rfl ?_
        refine TO.move rfl rfl rfl rfl ?_
        refine TO.move rfl rfl rfl rfl ?_
        refine TO.callVX TWS3.c62 rfl rfl rfl rfl rfl (fun wc hwc => w_flow_Right_1 (x0 := (r3.getD x15.toNat 0)) wc  e19) ?_
        rintro _ _ ⟨rfl, rfl⟩
        refine TO.not rfl rfl rfl rfl ?_
        refine TO.move rfl rfl rfl rfl ?_
        refine TO.decB (t := 30) (b' := false) rfl (Bool.eq_false_iff.2 g20) ?_
        refine TO.shut rfl rfl rfl rfl ?_
        refine TO.shut rfl rfl rfl rfl ?_
        refine TO.shut rfl rfl rfl rfl ?_
        refine TO.shut rfl rfl rfl rfl ?_
        refine TO.pickF rfl rfl rfl rfl rfl ?_
        refine TO.done ?_
        refine X.seq_normal ?_
        refine T.trim (AllF.cons (t := 2) rfl (AllF.cons (t := 3) rfl (AllF.cons (t := 10) rfl (AllF.cons (t := 19) rfl (AllF.cons (t := 20) rfl (AllF.cons (t := 21) rfl (AllF.cons (t := 31) rfl (AllF.cons (t := 32) rfl (AllF.cons (t := 33) rfl (AllF.cons (t := 34) rfl (AllF.cons (t := 35) rfl AllF.nil))))))))))) ?_
        refine T.condF rfl rfl ?_
        refine T.skip ?_
        refine X.block_normal ?_
        refine X.seq_normal ?_
        obtain ⟨g25, H⟩ := gd_some H
        refine T.regionL (ll := [0, 1]) rfl ?_
        refine TO.addG g25 rfl rfl rfl rfl rfl ?_
        refine TO.move rfl rfl rfl rfl ?_
        refine TO.done ?_
        have H := loop_next H C_1
        exact X.againE2 n_1 (x15 + 1) H (Nat.lt_succ_self _) (AllF.cons rfl (AllF.cons rfl (AllF.cons rfl (AllF.cons rfl (AllF.cons rfl (AllF.cons rfl AllF.nil)))))) (Pick.cons (Take.head _ _) Pick.nil)
    ·
      refine T.condPF rfl g16 ?_
      refine T.exit ?_
      refine X.then_exit ?_
      have H := loop_exitE H C_1 ▸ K_1
      refine X.then_exit ?_
      refine X.block_here ?_
      exact X.metE1 () H (AllF.cons rfl AllF.nil) Pick.nil
  · rintro u26 H
    unfold m_flow_all_Right_1_j2 at H
    refine T.seq ?_
    refine T.regionL (ll := [0, 1, 2]) rfl ?_
    refine TO.move rfl rfl rfl rfl ?_
    refine TO.bin rfl rfl rfl rfl rfl rfl ?_
    refine TO.assign rfl rfl rfl rfl ?_
    refine TO.done ?_
    refine X.seq_normal ?_
    refine T.ret ?_
    obtain rfl := ret1 H
    exact X.ret1 rfl rfl rfl rfl (Res.tmp rfl) Pick.nil ⟨rfl, rfl⟩
/-- acequia/flow.Right -/
theorem w_flow_Right {n0 : Net} {f1 : List Int} {n0_Arcs_b : Option Addr} {n0_Arcs_n : Nat} {n0_Arcs_c : Nat} {f1_b : Option Addr} {f1_n : Nat} {f1_c : Nat} (w : World) (h_n0_Arcs : RS w [] arcC 3 n0_Arcs_b n0_Arcs_n n0_Arcs_c n0.Arcs) (h_f1 : RS w [] (intC .i64) 1 f1_b f1_n f1_c f1) {r0 : Bool} (H : m_flow_Right n0 f1 = some r0) : Fnc Try.prog 31 #[.agg #[.int .i64 n0.N, .int .i64 n0.S, .int .i64 n0.T, .slice n0_Arcs_b n0_Arcs_n n0_Arcs_c], .slice f1_b f1_n f1_c] w [] (fun v N => v = .bool r0 ∧ N = []) := by
  unfold m_flow_Right at H
  refine Fnc.enter (vs := [.agg #[.int .i64 n0.N, .int .i64 n0.S, .int .i64 n0.T, .slice n0_Arcs_b n0_Arcs_n n0_Arcs_c], .slice f1_b f1_n f1_c]) Try.func31 rfl rfl (Inv.refl w) ?_
  refine T.seq ?_
  refine T.regionL (ll := [0, 1]) rfl ?_
  refine TO.boxA rfl rfl rfl rfl ?_; intro b1
  refine TO.assign rfl rfl rfl rfl ?_
  refine TO.done ?_
  refine X.seq_normal ?_
  refine T.seq ?_
  obtain ⟨r5, e6, H⟩ := bd_some H
  refine T.regionL (ll := [0, 1, 2, 3, 4, 5, 6, 7, 8]) rfl ?_
  refine TO.loadA rfl rfl rfl rfl TWS3.a24 (List.Mem.head _) rfl ?_
  refine TO.move rfl rfl rfl rfl ?_
  refine TO.fieldAddr0 rfl rfl rfl rfl TWS3.f24_1 ?_
  refine TO.load1 rfl rfl rfl rfl TWS3.s3 (List.Mem.head _) rfl ?_
  refine TO.fieldAddr0 rfl rfl rfl rfl TWS3.f24_2 ?_
  refine TO.load1 rfl rfl rfl rfl TWS3.s3 (List.Mem.head _) rfl ?_
  refine TO.buildSliceS [.int .i64 0, .int .i64 0] [0, 1] rfl rfl rfl rfl TWS3.l30 TWS3.n3 TWS3.z3 rfl rfl (by simp only [setAll, setCells, Value.cells, List.toList_toArray, List.getD_cons_zero, List.getD_cons_succ, List.set_cons_zero, List.set_cons_succ]; rfl) (by kernel_rfl) ?_; intro b3
  refine TO.callX TWS3.c60 rfl rfl rfl rfl (fun wc hwc => w_flow_all_Right_1 (n0 := n0) (f1 := f1) (but3 := [n0.S, n0.T]) wc (h_n0_Arcs.mono hwc) (h_f1.mono hwc) (hwc.rs (f := (intC .i64)) (s := 1) (xs := [n0.S, n0.T]) (j := ([])) (fun _ => rfl) (List.Mem.head _) rfl (Nat.le_refl _) someZ) e6) ?_
  rintro _ _ ⟨rfl, rfl⟩
  refine TO.assign rfl rfl rfl rfl ?_
  refine TO.done ?_
  refine X.seq_normal ?_
  refine T.trim (AllF.cons (t := 4) rfl AllF.nil) ?_
  refine T.ret ?_
  obtain rfl := ret1 H
  exact X.ret1 rfl rfl rfl rfl (Res.tmp rfl) Pick.nil ⟨rfl, rfl⟩
/-- acequia/flow.Value -/
theorem w_flow_Value {n0 : Net} {f1 : List Int} {n0_Arcs_b : Option Addr} {n0_Arcs_n : Nat} {n0_Arcs_c : Nat} {f1_b : Option Addr} {f1_n : Nat} {f1_c : Nat} (w : World) (h_n0_Arcs : RS w [] arcC 3 n0_Arcs_b n0_Arcs_n n0_Arcs_c n0.Arcs) (h_f1 : RS w [] (intC .i64) 1 f1_b f1_n f1_c f1) {r0 : Int} {r1 : Int} (H : m_flow_Value n0 f1 = some (r0, r1)) : Fnc Try.prog 29 #[.agg #[.int .i64 n0.N, .int .i64 n0.S, .int .i64 n0.T, .slice n0_Arcs_b n0_Arcs_n n0_Arcs_c], .slice f1_b f1_n f1_c] w [] (fun v N => v = .tuple #[.int .i64 r0, .int .i64 r1] ∧ N = []) := by
  unfold m_flow_Value at H
  refine Fnc.enter (vs := [.agg #[.int .i64 n0.N, .int .i64 n0.S, .int .i64 n0.T, .slice n0_Arcs_b n0_Arcs_n n0_Arcs_c], .slice f1_b f1_n f1_c]) Try.func29 rfl rfl (Inv.refl w) ?_
  refine T.seq ?_
  refine T.regionL (ll := [0, 1, 2]) rfl ?_
  refine TO.boxA rfl rfl rfl rfl ?_; intro b1
  refine TO.assign rfl rfl rfl rfl ?_
  refine TO.assign rfl rfl rfl rfl ?_
  refine TO.done ?_
  refine X.seq_normal ?_
  refine T.seq ?_
  refine T.seq ?_
  obtain ⟨r3, e4, H⟩ := bd_some H
  refine T.regionL (ll := [0, 1, 2, 3]) rfl ?_
  refine TO.loadA rfl rfl rfl rfl TWS3.a24 (List.Mem.head _) rfl ?_
  refine TO.move rfl rfl rfl rfl ?_
  refine TO.callX TWS3.c31 rfl rfl rfl rfl (fun wc hwc => w_flow_Right (n0 := n0) (f1 := f1) wc (h_n0_Arcs.mono hwc) (h_f1.mono hwc) e4) ?_
  rintro _ _ ⟨rfl, rfl⟩
  refine TO.not rfl rfl rfl rfl ?_
  refine TO.done ?_
  refine X.seq_normal ?_
  rcases ite_some H with ⟨g5, H⟩ | ⟨g5, H⟩
  ·
    refine T.condT rfl g5 ?_
    refine T.seq ?_
    refine T.regionL (ll := [0, 1]) rfl ?_
    refine TO.assign rfl rfl rfl rfl ?_
    refine TO.assign rfl rfl rfl rfl ?_
    refine TO.done ?_
    refine X.seq_normal ?_
    refine T.ret ?_
    refine X.then_ret ?_
    obtain ⟨rfl, rfl⟩ := ret2 H
    exact X.ret2 rfl rfl rfl rfl (Res.tmp rfl) (Res.tmp rfl) Pick.nil ⟨rfl, rfl⟩
  ·
    refine T.condF rfl (Bool.eq_false_iff.2 g5) ?_
    refine T.skip ?_
    refine X.seq_normal ?_
    refine T.seq ?_
    obtain ⟨⟨r6, r7⟩, e8, H⟩ := bd_some H
    refine T.regionL (ll := [0, 1, 2, 3, 4, 5, 6, 7]) rfl ?_
    refine TO.loadA rfl rfl rfl rfl TWS3.a24 (List.Mem.head _) rfl ?_
    refine TO.move rfl rfl rfl rfl ?_
    refine TO.callX TWS3.c27 rfl rfl rfl rfl (fun wc hwc => w_flow_Excess (n0 := n0) (f1 := f1) wc (h_n0_Arcs.mono hwc) (h_f1.mono hwc) e8) ?_
    rintro _ _ ⟨ob9, n10, c11, j12, rfl, rfl, hn13, hc14, hj15, hz16⟩
    refine TO.move rfl rfl rfl rfl ?_
    refine TO.extract rfl rfl rfl rfl rfl ?_
    refine TO.extract rfl rfl rfl rfl rfl ?_
    refine TO.assign rfl rfl rfl rfl ?_
    refine TO.assign rfl rfl rfl rfl ?_
    refine TO.done ?_
    refine X.seq_normal ?_
    refine T.trim (AllF.cons (t := 2) rfl (AllF.cons (t := 6) rfl (AllF.cons (t := 7) rfl AllF.nil))) ?_
    refine T.seq ?_
    obtain ⟨g18, H⟩ := gd_some H
    refine T.regionL (ll := [0, 1, 2, 3, 4, 5, 6, 7]) rfl ?_
    refine TO.move rfl rfl rfl rfl ?_
    refine TO.fieldAddr0 rfl rfl rfl rfl TWS3.f24_2 ?_
    refine TO.load1 rfl rfl rfl rfl TWS3.s3 (List.Mem.tail _ (List.Mem.head _)) rfl ?_
    refine TO.ixV hz16 hc14 hn13 g18 rfl rfl rfl rfl rfl TWS3.l25 TWS3.n2 ?_
    refine TO.ldIV hz16 hc14 hn13 g18 rfl rfl rfl rfl TWS3.s2 (List.Mem.head _) ?_
    refine TO.move rfl rfl rfl rfl ?_
    refine TO.assign rfl rfl rfl rfl ?_
    refine TO.assign rfl rfl rfl rfl ?_
    refine TO.done ?_
    refine X.seq_normal ?_
    refine T.trim (AllF.cons (t := 4) rfl (AllF.cons (t := 5) rfl AllF.nil)) ?_
    refine T.ret ?_
    obtain ⟨rfl, rfl⟩ := ret2 H
    exact X.ret2 rfl rfl rfl rfl (Res.tmp rfl) (Res.tmp rfl) Pick.nil ⟨rfl, rfl⟩
end Go.Proofs.Ytcdbemdogkmahaa.Ax
