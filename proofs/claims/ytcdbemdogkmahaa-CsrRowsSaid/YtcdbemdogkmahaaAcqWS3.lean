/- What a call does is what its model says: acequialaw03.awake, acequialaw03.hops, flow.Excess, flow.Pre, flow.Pre$1, flow.Right, flow.Right$1, flow.Room, flow.Send, flow.Value, flow.Within, flow.all, flow.along, slices.Clone[[]int64,int64], slices.Contains[[]int,int], slices.Index[[]int,int]. (Printed by sx.py.) -/
import Derived.Test.YtcdbemdogkmahaaAcqMS3
import Derived.Test.YtcdbemdogkmahaaAcqRw
import Derived.Test.YtcdbemdogkmahaaAcqWS2a
namespace Go.Proofs.Ytcdbemdogkmahaa.Ax
open Go Go.Acq Go.RowKit Go.Proofs
set_option linter.unusedVariables false
set_option linter.unusedSimpArgs false
set_option maxHeartbeats 8000000
set_option maxRecDepth 20000
theorem TWS3.a24 : aggT Try.prog 24 4 = true := by kernel_rfl
theorem TWS3.a28 : aggT Try.prog 28 3 = true := by kernel_rfl
theorem TWS3.a60 : aggT Try.prog 60 2 = true := by kernel_rfl
theorem TWS3.b2 : bytesT Try.prog 2 = some 8 := by kernel_rfl
theorem TWS3.b60 : bytesT Try.prog 60 = some 16 := by kernel_rfl
theorem TWS3.c25 : callable Try.prog 25 = true := by kernel_rfl
theorem TWS3.c27 : callable Try.prog 27 = true := by kernel_rfl
theorem TWS3.c28 : callable Try.prog 28 = true := by kernel_rfl
theorem TWS3.c29 : callable Try.prog 29 = true := by kernel_rfl
theorem TWS3.c30 : callable Try.prog 30 = true := by kernel_rfl
theorem TWS3.c31 : callable Try.prog 31 = true := by kernel_rfl
theorem TWS3.c34 : callable Try.prog 34 = true := by kernel_rfl
theorem TWS3.c35 : callable Try.prog 35 = true := by kernel_rfl
theorem TWS3.c52 : callable Try.prog 52 = true := by kernel_rfl
theorem TWS3.c56 : callable Try.prog 56 = true := by kernel_rfl
theorem TWS3.c60 : callable Try.prog 60 = true := by kernel_rfl
theorem TWS3.c61 : callable Try.prog 61 = true := by kernel_rfl
theorem TWS3.c62 : callable Try.prog 62 = true := by kernel_rfl
theorem TWS3.c63 : callable Try.prog 63 = true := by kernel_rfl
theorem TWS3.c64 : callable Try.prog 64 = true := by kernel_rfl
theorem TWS3.c80 : callable Try.prog 80 = true := by kernel_rfl
theorem TWS3.c94 : callable Try.prog 94 = true := by kernel_rfl
theorem TWS3.f24_0 : fieldT Try.prog 24 0 = some 0 := by kernel_rfl
theorem TWS3.f24_1 : fieldT Try.prog 24 1 = some 1 := by kernel_rfl
theorem TWS3.f24_2 : fieldT Try.prog 24 2 = some 2 := by kernel_rfl
theorem TWS3.f24_3 : fieldT Try.prog 24 3 = some 3 := by kernel_rfl
theorem TWS3.f28_0 : fieldT Try.prog 28 0 = some 0 := by kernel_rfl
theorem TWS3.f28_1 : fieldT Try.prog 28 1 = some 1 := by kernel_rfl
theorem TWS3.f28_2 : fieldT Try.prog 28 2 = some 2 := by kernel_rfl
theorem TWS3.f60_0 : fieldT Try.prog 60 0 = some 0 := by kernel_rfl
theorem TWS3.f60_1 : fieldT Try.prog 60 1 = some 1 := by kernel_rfl
theorem TWS3.i3 : intT Try.prog 3 = some .i64 := by kernel_rfl
theorem TWS3.l22 : sliceT Try.prog 22 = some 28 := by kernel_rfl
theorem TWS3.l25 : sliceT Try.prog 25 = some 2 := by kernel_rfl
theorem TWS3.l30 : sliceT Try.prog 30 = some 3 := by kernel_rfl
theorem TWS3.l52 : sliceT Try.prog 52 = some 5 := by kernel_rfl
theorem TWS3.l54 : sliceT Try.prog 54 = some 60 := by kernel_rfl
theorem TWS3.m93 : mapT Try.prog 93 = some (.i64, 2) := by kernel_rfl
theorem TWS3.n2 : sizeT Try.prog 2 = some 1 := by kernel_rfl
theorem TWS3.n24 : sizeT Try.prog 24 = some 4 := by kernel_rfl
theorem TWS3.n28 : sizeT Try.prog 28 = some 3 := by kernel_rfl
theorem TWS3.n3 : sizeT Try.prog 3 = some 1 := by kernel_rfl
theorem TWS3.n5 : sizeT Try.prog 5 = some 1 := by kernel_rfl
theorem TWS3.n60 : sizeT Try.prog 60 = some 2 := by kernel_rfl
theorem TWS3.o5 : (Try.prog.underlying 5).isSome = true := by kernel_rfl
theorem TWS3.s2 : scalT Try.prog 2 = true := by kernel_rfl
theorem TWS3.s22 : scalT Try.prog 22 = true := by kernel_rfl
theorem TWS3.s3 : scalT Try.prog 3 = true := by kernel_rfl
theorem TWS3.s4 : scalT Try.prog 4 = true := by kernel_rfl
theorem TWS3.s5 : scalT Try.prog 5 = true := by kernel_rfl
theorem TWS3.z2 : zeroT Try.prog 2 = some (.int .i64 0) := by kernel_rfl
theorem TWS3.z24 : zeroT Try.prog 24 = some (.agg #[.int .i64 0, .int .i64 0, .int .i64 0, .slice none 0 0]) := by kernel_rfl
theorem TWS3.z28 : zeroT Try.prog 28 = some (.agg #[.int .i64 0, .int .i64 0, .int .i64 0]) := by kernel_rfl
theorem TWS3.z3 : zeroT Try.prog 3 = some (.int .i64 0) := by kernel_rfl
theorem TWS3.z60 : zeroT Try.prog 60 = some (.agg #[.int .i64 0, .bool false]) := by kernel_rfl
theorem TWS3el25 : ElemT Try.prog 25 2 1 8 (.int .i64 0) := ⟨TWS3.l25, TWS3.n2, TWS3.b2, TWS3.z2, rfl⟩
theorem TWS3el54 : ElemT Try.prog 54 60 2 16 (.agg #[.int .i64 0, .bool false]) := ⟨TWS3.l54, TWS3.n60, TWS3.b60, TWS3.z60, rfl⟩
/-- acequia/flow.Within -/
theorem w_flow_Within {n0 : Net} {f1 : List Int} {n0_Arcs_b : Option Addr} {n0_Arcs_n : Nat} {n0_Arcs_c : Nat} {f1_b : Option Addr} {f1_n : Nat} {f1_c : Nat} (w : World) (h_n0_Arcs : RS w [] arcC 3 n0_Arcs_b n0_Arcs_n n0_Arcs_c n0.Arcs) (h_f1 : RS w [] (intC .i64) 1 f1_b f1_n f1_c f1) {r0 : Bool} (H : m_flow_Within n0 f1 = some r0) : Fnc Try.prog 28 #[.agg #[.int .i64 n0.N, .int .i64 n0.S, .int .i64 n0.T, .slice n0_Arcs_b n0_Arcs_n n0_Arcs_c], .slice f1_b f1_n f1_c] w [] (fun v N => v = .bool r0 ∧ N = []) := by
  unfold m_flow_Within at H
  refine Fnc.enter (vs := [.agg #[.int .i64 n0.N, .int .i64 n0.S, .int .i64 n0.T, .slice n0_Arcs_b n0_Arcs_n n0_Arcs_c], .slice f1_b f1_n f1_c]) Try.func28 rfl rfl (Inv.refl w) ?_
  refine T.seq ?_
  refine T.regionL (ll := [0, 1]) rfl ?_
  refine TO.boxA rfl rfl rfl rfl ?_; intro b1
  refine TO.assign rfl rfl rfl rfl ?_
  refine TO.done ?_
  refine X.seq_normal ?_
  refine T.seq ?_
  refine T.seq ?_
  obtain ⟨r3, e4, H⟩ := bd_some H
  rcases ite_some H with ⟨g5, H⟩ | ⟨g5, H⟩
  ·
    refine T.regionL (ll := [0, 1, 2, 3, 4, 5, 6, 7, 8, 9, 10]) rfl ?_
    refine TO.loadA rfl rfl rfl rfl TWS3.a24 (List.Mem.head _) rfl ?_
    refine TO.callX TWS3.c52 rfl rfl rfl rfl (fun wc hwc => w_net_Check (n0 := n0) wc (h_n0_Arcs.mono hwc) e4) ?_
    rintro _ _ ⟨rfl, rfl⟩
    refine TO.bin rfl rfl rfl rfl rfl rfl ?_
    refine TO.move rfl rfl rfl rfl ?_
    refine TO.decB (t := 10) (b' := true) rfl (decide_eq_true g5) ?_
    refine TO.shut rfl rfl rfl rfl ?_
    refine TO.shut rfl rfl rfl rfl ?_
    refine TO.shut rfl rfl rfl rfl ?_
    refine TO.shut rfl rfl rfl rfl ?_
    refine TO.shut rfl rfl rfl rfl ?_
    refine TO.shut rfl rfl rfl rfl ?_
    refine TO.pickT rfl rfl rfl rfl rfl ?_
    refine TO.done ?_
    refine X.seq_normal ?_
    refine T.trim (AllF.cons (t := 1) rfl (AllF.cons (t := 2) rfl (AllF.cons (t := 17) rfl AllF.nil))) ?_
    refine T.condT rfl rfl ?_
    refine T.seq ?_
    refine T.regionL (ll := [0]) rfl ?_
    refine TO.assign rfl rfl rfl rfl ?_
    refine TO.done ?_
    refine X.seq_normal ?_
    refine T.ret ?_
    refine X.then_ret ?_
    obtain rfl := ret1 H
    exact X.ret1 rfl rfl rfl rfl (Res.tmp rfl) Pick.nil ⟨rfl, rfl⟩
  ·
    refine T.regionL (ll := [0, 1, 2, 3, 4, 5, 6, 7, 8, 9, 10]) rfl ?_
    refine TO.loadA rfl rfl rfl rfl TWS3.a24 (List.Mem.head _) rfl ?_
    refine TO.callX TWS3.c52 rfl rfl rfl rfl (fun wc hwc => w_net_Check (n0 := n0) wc (h_n0_Arcs.mono hwc) e4) ?_
    rintro _ _ ⟨rfl, rfl⟩
    refine TO.bin rfl rfl rfl rfl rfl rfl ?_
    refine TO.move rfl rfl rfl rfl ?_
    refine TO.decB (t := 10) (b' := false) rfl (decide_eq_false g5) ?_
    refine TO.move rfl rfl rfl rfl ?_
    refine TO.lenX (xs := f1) h_f1.len rfl rfl rfl rfl rfl TWS3.l25 ?_
    refine TO.fieldAddr0 rfl rfl rfl rfl TWS3.f24_3 ?_
    refine TO.load1 rfl rfl rfl rfl TWS3.s22 (List.Mem.head _) rfl ?_
    refine TO.lenX (xs := n0.Arcs) h_n0_Arcs.len rfl rfl rfl rfl rfl TWS3.l22 ?_
    refine TO.bin rfl rfl rfl rfl rfl rfl ?_
    refine TO.pickF rfl rfl rfl rfl rfl ?_
    refine TO.done ?_
    refine X.seq_normal ?_
    refine T.trim (AllF.cons (t := 1) rfl (AllF.cons (t := 2) rfl (AllF.cons (t := 17) rfl AllF.nil))) ?_
    rcases ite_some H with ⟨g6, H⟩ | ⟨g6, H⟩
    ·
      refine T.condPT rfl g6 ?_
      refine T.seq ?_
      refine T.regionL (ll := [0]) rfl ?_
      refine TO.assign rfl rfl rfl rfl ?_
      refine TO.done ?_
      refine X.seq_normal ?_
      refine T.ret ?_
      refine X.then_ret ?_
      obtain rfl := ret1 H
      exact X.ret1 rfl rfl rfl rfl (Res.tmp rfl) Pick.nil ⟨rfl, rfl⟩
    ·
      refine T.condPF rfl g6 ?_
      refine T.skip ?_
      refine X.seq_normal ?_
      refine T.seq ?_
      refine T.seq ?_
      refine T.regionL (ll := [0, 1, 2, 3]) rfl ?_
      refine TO.fieldAddr0 rfl rfl rfl rfl TWS3.f24_3 ?_
      refine TO.load1 rfl rfl rfl rfl TWS3.s22 (List.Mem.head _) rfl ?_
      refine TO.lenX (xs := n0.Arcs) h_n0_Arcs.len rfl rfl rfl rfl rfl TWS3.l22 ?_
      refine TO.move rfl rfl rfl rfl ?_
      refine TO.done ?_
      refine X.seq_normal ?_
      refine T.meetSE1 (fun (u17 : Unit) => m_flow_Within_j2 = some r0) (fun (u17 : Unit) => []) (fun (u17 : Unit) => []) ?_ ?_
      ·
        refine T.block ?_
        obtain ⟨o_1, e_1, K_1⟩ := bd_some H
        refine T.loopE2 (fun (m_1 : Nat) (x7 : Int) => loopM (fun s => m_flow_Within_s1 n0 f1 s) m_1 x7 = some o_1) (fun (m_1 : Nat) (x7 : Int) => [(1, .slice f1_b f1_n f1_c), (19, .slice n0_Arcs_b n0_Arcs_n n0_Arcs_c), (20, .int .i64 (n0.Arcs.length : Int)), (21, .int .i64 x7)]) (fun (m_1 : Nat) (x7 : Int) => []) (fun (m_1 : Nat) (x7 : Int) => m_1) FUEL 0 e_1 (AllF.cons rfl (AllF.cons rfl (AllF.cons rfl (AllF.cons rfl AllF.nil)))) Pick.nil ?_
        rintro m_1 x7 H
        obtain ⟨n_1, r_1, rfl, H, C_1⟩ := loopM_some H
        have H : m_flow_Within_s1 n0 f1 x7 = some r_1 := H
        unfold m_flow_Within_s1 at H
        refine T.seq ?_
        refine T.regionL (ll := [0]) rfl ?_
        refine TO.bin rfl rfl rfl rfl rfl rfl ?_
        refine TO.done ?_
        refine X.seq_normal ?_
        refine T.seq ?_
        rcases ite_some H with ⟨g8, H⟩ | ⟨g8, H⟩
        ·
          refine T.condPT rfl g8 ?_
          refine T.skip ?_
          refine X.seq_normal ?_
          refine T.seq ?_
          refine T.block ?_
          refine T.seq ?_
          obtain ⟨g9, H⟩ := gd_some H
          refine T.regionL (ll := [0, 1, 2, 3, 4, 5]) rfl ?_
          refine TO.move rfl rfl rfl rfl ?_
          refine TO.ixR h_n0_Arcs g9 rfl rfl rfl rfl rfl TWS3.l22 TWS3.n28 ?_
          refine TO.ldSR (cs := [.int .i64 ((n0.Arcs.getD x7.toNat default).fr), .int .i64 ((n0.Arcs.getD x7.toNat default).to), .int .i64 ((n0.Arcs.getD x7.toNat default).cap)]) default h_n0_Arcs g9 rfl rfl rfl rfl rfl TWS3.a28 ?_
          refine TO.allocA rfl rfl rfl TWS3.z28 ?_; intro b10
          refine TO.assign rfl rfl rfl rfl ?_
          refine TO.storeA rfl rfl rfl rfl (Take.head _ _) TWS3.n28 rfl rfl rfl ?_
          refine TO.done ?_
          refine X.seq_normal ?_
          refine T.seq ?_
          obtain ⟨g12, H⟩ := gd_some H
          rcases ite_some H with ⟨g13, H⟩ | ⟨g13, H⟩
          ·
            apply T.drawQT [(26, _), (27, _), (28, _), (29, _), (30, _), (31, _), (32, _), (33, _), (34, _), (35, _), (36, _), (37, _)]
            · exact mixed
            · kernel_rfl
            · kernel_rfl
            · exact rfl
            · exact rfl
            · refine ⟨?_, ?_, ?_, ?_, ?_, ?_, ?_, ?_, ?_, ?_, ?_, ?_, trivial⟩
              · intro Es
                refine TO.move rfl rfl rfl rfl ?_
                exact TO.done (X.ob rfl (Pick.refl _))
              · intro Es
                refine TO.move rfl rfl rfl rfl ?_
                exact TO.done (X.ob rfl (Pick.refl _))
              · intro Es
                refine TO.ixR h_f1 g12 rfl rfl rfl rfl rfl TWS3.l25 TWS3.n2 ?_
                exact TO.done (X.ob rfl (Pick.refl _))
              · intro Es
                refine TO.ldIR h_f1 g12 rfl rfl rfl rfl TWS3.s2 ?_
                exact TO.done (X.ob rfl (Pick.refl _))
              · intro Es
                refine TO.bin rfl rfl rfl rfl rfl rfl ?_
                exact TO.done (X.ob rfl (Pick.refl _))
              · intro Es
                refine TO.move rfl rfl rfl rfl ?_
                refine TO.decB (t := 31) (b' := true) rfl (decide_eq_true g13) ?_
                exact TO.done (X.ob2 rfl (Pick.refl _))
              · intro Es
                refine TO.shut rfl rfl rfl rfl ?_
                exact TO.done (X.ob rfl (Pick.refl _))
              · intro Es
                refine TO.shut rfl rfl rfl rfl ?_
                exact TO.done (X.ob rfl (Pick.refl _))
              · intro Es
                refine TO.shut rfl rfl rfl rfl ?_
                exact TO.done (X.ob rfl (Pick.refl _))
              · intro Es
                refine TO.shut rfl rfl rfl rfl ?_
                exact TO.done (X.ob rfl (Pick.refl _))
              · intro Es
                refine TO.shut rfl rfl rfl rfl ?_
                exact TO.done (X.ob rfl (Pick.refl _))
              · intro Es
                refine TO.shut rfl rfl rfl rfl ?_
                exact TO.done (X.ob rfl (Pick.refl _))
            refine TO.shut rfl rfl rfl rfl ?_
            refine TO.pickT rfl rfl rfl rfl rfl ?_
            refine TO.done ?_
            refine X.seq_normal ?_
            refine T.trim (AllF.cons (t := 1) rfl (AllF.cons (t := 19) rfl (AllF.cons (t := 20) rfl (AllF.cons (t := 21) rfl (AllF.cons (t := 32) rfl (AllF.cons (t := 33) rfl (AllF.cons (t := 34) rfl (AllF.cons (t := 35) rfl (AllF.cons (t := 36) rfl (AllF.cons (t := 37) rfl (AllF.cons (t := 38) rfl (AllF.cons (t := 39) rfl AllF.nil)))))))))))) ?_
            refine T.condT rfl rfl ?_
            refine T.seq ?_
            refine T.regionL (ll := [0]) rfl ?_
            refine TO.assign rfl rfl rfl rfl ?_
            refine TO.done ?_
            refine X.seq_normal ?_
            refine T.trim (AllF.cons (t := 4) rfl AllF.nil) ?_
            refine T.ret ?_
            refine X.block_ret ?_
            refine X.then_ret ?_
            have H := loop_exitE H C_1 ▸ K_1
            refine X.then_ret ?_
            refine X.block_ret ?_
            refine X.then_ret ?_
            obtain rfl := ret1 H
            exact X.ret1 rfl rfl rfl rfl (Res.tmp rfl) Pick.nil ⟨rfl, rfl⟩
          ·
            obtain ⟨g14, H⟩ := gd_some H
            apply T.drawQT [(26, _), (27, _), (28, _), (29, _), (30, _), (31, _), (32, _), (33, _), (34, _), (35, _), (36, _), (37, _)]
            · exact mixed
            · kernel_rfl
            · kernel_rfl
            · exact rfl
            · exact rfl
            · refine ⟨?_, ?_, ?_, ?_, ?_, ?_, ?_, ?_, ?_, ?_, ?_, ?_, trivial⟩
              · intro Es
                refine TO.move rfl rfl rfl rfl ?_
                exact TO.done (X.ob rfl (Pick.refl _))
              · intro Es
                refine TO.move rfl rfl rfl rfl ?_
                exact TO.done (X.ob rfl (Pick.refl _))
              · intro Es
                refine TO.ixR h_f1 g12 rfl rfl rfl rfl rfl TWS3.l25 TWS3.n2 ?_
                exact TO.done (X.ob rfl (Pick.refl _))
              · intro Es
                refine TO.ldIR h_f1 g12 rfl rfl rfl rfl TWS3.s2 ?_
                exact TO.done (X.ob rfl (Pick.refl _))
              · intro Es
                refine TO.bin rfl rfl rfl rfl rfl rfl ?_
                exact TO.done (X.ob rfl (Pick.refl _))
              · intro Es
                refine TO.move rfl rfl rfl rfl ?_
                refine TO.decB (t := 31) (b' := false) rfl (decide_eq_false g13) ?_
                exact TO.done (X.ob2 rfl (Pick.refl _))
              · intro Es
                refine TO.move rfl rfl rfl rfl ?_
                exact TO.done (X.ob rfl (Pick.refl _))
              · intro Es
                refine TO.move rfl rfl rfl rfl ?_
                exact TO.done (X.ob rfl (Pick.refl _))
              · intro Es
                refine TO.ixR h_f1 g14 rfl rfl rfl rfl rfl TWS3.l25 TWS3.n2 ?_
                exact TO.done (X.ob rfl (Pick.refl _))
              · intro Es
                refine TO.ldIR h_f1 g14 rfl rfl rfl rfl TWS3.s2 ?_
                exact TO.done (X.ob rfl (Pick.refl _))
              · intro Es
                refine TO.fieldAddr0 rfl rfl rfl rfl TWS3.f28_2 ?_
                exact TO.done (X.ob rfl (Pick.refl _))
              · intro Es
                refine TO.load1 rfl rfl rfl rfl TWS3.s2 (List.Mem.head _) rfl ?_
                exact TO.done (X.ob rfl (Pick.refl _))
            refine TO.bin rfl rfl rfl rfl rfl rfl ?_
            refine TO.pickF rfl rfl rfl rfl rfl ?_
            refine TO.done ?_
            refine X.seq_normal ?_
            refine T.trim (AllF.cons (t := 1) rfl (AllF.cons (t := 19) rfl (AllF.cons (t := 20) rfl (AllF.cons (t := 21) rfl (AllF.cons (t := 32) rfl (AllF.cons (t := 33) rfl (AllF.cons (t := 34) rfl (AllF.cons (t := 35) rfl (AllF.cons (t := 36) rfl (AllF.cons (t := 37) rfl (AllF.cons (t := 38) rfl (AllF.cons (t := 39) rfl AllF.nil)))))))))))) ?_
            rcases ite_some H with ⟨g15, H⟩ | ⟨g15, H⟩
            ·
              refine T.condPT rfl g15 ?_
              refine T.seq ?_
              refine T.regionL (ll := [0]) rfl ?_
              refine TO.assign rfl rfl rfl rfl ?_
              refine TO.done ?_
              refine X.seq_normal ?_
              refine T.trim (AllF.cons (t := 4) rfl AllF.nil) ?_
              refine T.ret ?_
              refine X.block_ret ?_
              refine X.then_ret ?_
              have H := loop_exitE H C_1 ▸ K_1
              refine X.then_ret ?_
              refine X.block_ret ?_
              refine X.then_ret ?_
              obtain rfl := ret1 H
              exact X.ret1 rfl rfl rfl rfl (Res.tmp rfl) Pick.nil ⟨rfl, rfl⟩
            ·
              refine T.condPF rfl g15 ?_
              refine T.skip ?_
              refine X.block_normal ?_
              refine X.seq_normal ?_
              obtain ⟨g16, H⟩ := gd_some H
              refine T.regionL (ll := [0, 1]) rfl ?_
              refine TO.addG g16 rfl rfl rfl rfl rfl ?_
              refine TO.move rfl rfl rfl rfl ?_
              refine TO.done ?_
              have H := loop_next H C_1
              exact X.againE2 n_1 (x7 + 1) H (Nat.lt_succ_self _) (AllF.cons rfl (AllF.cons rfl (AllF.cons rfl (AllF.cons rfl AllF.nil)))) Pick.nil
        ·
          refine T.condPF rfl g8 ?_
          refine T.exit ?_
          refine X.then_exit ?_
          have H := loop_exitE H C_1 ▸ K_1
          refine X.then_exit ?_
          refine X.block_here ?_
          exact X.metE1 () H AllF.nil Pick.nil
      · rintro u17 H
        unfold m_flow_Within_j2 at H
        refine T.seq ?_
        refine T.regionL (ll := [0]) rfl ?_
        refine TO.assign rfl rfl rfl rfl ?_
        refine TO.done ?_
        refine X.seq_normal ?_
        refine T.ret ?_
        obtain rfl := ret1 H
        exact X.ret1 rfl rfl rfl rfl (Res.tmp rfl) Pick.nil ⟨rfl, rfl⟩
/-- acequia/flow.along -/
theorem w_flow_along {n0 : Net} {l1 : List Hop} {n0_Arcs_b : Option Addr} {n0_Arcs_n : Nat} {n0_Arcs_c : Nat} {l1_b : Option Addr} {l1_n : Nat} {l1_c : Nat} (w : World) (h_n0_Arcs : RS w [] arcC 3 n0_Arcs_b n0_Arcs_n n0_Arcs_c n0.Arcs) (h_l1 : RS w [] hopC 2 l1_b l1_n l1_c l1) {r0 : List (Int × Int)} {r1 : Bool} (H : m_flow_along n0 l1 = some (r0, r1)) : Fnc Try.prog 63 #[.agg #[.int .i64 n0.N, .int .i64 n0.S, .int .i64 n0.T, .slice n0_Arcs_b n0_Arcs_n n0_Arcs_c], .slice l1_b l1_n l1_c] w [] (fun v N => ∃ (ob_0 : Option Nat), v = .tuple #[.map ob_0, .bool r1] ∧ N = [(ob_0, mapO .i64 (Value.int .i64) r0)] ∧ (ob_0 = none → r0 = [])) := by
  unfold m_flow_along at H
  refine Fnc.enter (vs := [.agg #[.int .i64 n0.N, .int .i64 n0.S, .int .i64 n0.T, .slice n0_Arcs_b n0_Arcs_n n0_Arcs_c], .slice l1_b l1_n l1_c]) Try.func63 rfl rfl (Inv.refl w) ?_
  refine T.seq ?_
  refine T.regionL (ll := [0, 1, 2]) rfl ?_
  refine TO.boxA rfl rfl rfl rfl ?_; intro b1
  refine TO.assign rfl rfl rfl rfl ?_
  refine TO.assign rfl rfl rfl rfl ?_
  refine TO.done ?_
  refine X.seq_normal ?_
  refine T.seq ?_
  refine T.regionL (ll := [0, 1]) rfl ?_
  refine TO.mkMap (Value.int .i64) .i64 rfl rfl rfl ?_; intro b3
  refine TO.assign rfl rfl rfl rfl ?_
  refine TO.done ?_
  refine X.seq_normal ?_
  refine T.seq ?_
  refine T.regionL (ll := [0]) rfl ?_
  refine TO.assign rfl rfl rfl rfl ?_
  refine TO.done ?_
  refine X.seq_normal ?_
  refine T.seq ?_
  refine T.seq ?_
  refine T.regionL (ll := [0, 1, 2]) rfl ?_
  refine TO.move rfl rfl rfl rfl ?_
  refine TO.lenX (xs := l1) h_l1.len rfl rfl rfl rfl rfl TWS3.l54 ?_
  refine TO.move rfl rfl rfl rfl ?_
  refine TO.done ?_
  refine X.seq_normal ?_
  refine T.meetSE1 (fun (mp28 : List (Int × Int)) => m_flow_along_j5 mp28 = some (r0, r1)) (fun (mp28 : List (Int × Int)) => [(6, .map (some b3))]) (fun (mp28 : List (Int × Int)) => [(some b3, mapO .i64 (Value.int .i64) mp28)]) ?_ ?_
  ·
    refine T.block ?_
    obtain ⟨o_1, e_1, K_1⟩ := bd_some H
    refine T.loopE4 (fun (m_1 : Nat) (mp5 : List (Int × Int)) (last6 : Int) (x7 : Int) => loopM (fun s => m_flow_along_s1 n0 l1 s.1 s.2.1 s.2.2) m_1 (mp5, last6, x7) = some o_1) (fun (m_1 : Nat) (mp5 : List (Int × Int)) (last6 : Int) (x7 : Int) => [(2, .pointer (some ⟨b1, 0, none⟩)), (6, .map (some b3)), (7, .int .i64 last6), (14, .slice l1_b l1_n l1_c), (15, .int .i64 (l1.length : Int)), (16, .int .i64 x7)]) (fun (m_1 : Nat) (mp5 : List (Int × Int)) (last6 : Int) (x7 : Int) => [(some b1, .cells #[.int .i64 n0.N, .int .i64 n0.S, .int .i64 n0.T, .slice n0_Arcs_b n0_Arcs_n n0_Arcs_c] 24 (0, 0)), (some b3, mapO .i64 (Value.int .i64) mp5)]) (fun (m_1 : Nat) (mp5 : List (Int × Int)) (last6 : Int) (x7 : Int) => m_1) FUEL ([] : List (Int × Int)) (-1) 0 e_1 (AllF.cons rfl (AllF.cons rfl (AllF.cons rfl (AllF.cons rfl (AllF.cons rfl (AllF.cons rfl AllF.nil)))))) (Pick.cons (Take.tail (Take.head _ _)) (Pick.cons (Take.head _ _) Pick.nil)) ?_
    rintro m_1 mp5 last6 x7 H
    obtain ⟨n_1, r_1, rfl, H, C_1⟩ := loopM_some H
    have H : m_flow_along_s1 n0 l1 mp5 last6 x7 = some r_1 := H
    unfold m_flow_along_s1 at H
    refine T.seq ?_
    refine T.regionL (ll := [0]) rfl ?_
    refine TO.bin rfl rfl rfl rfl rfl rfl ?_
    refine TO.done ?_
    refine X.seq_normal ?_
    refine T.seq ?_
    rcases ite_some H with ⟨g8, H⟩ | ⟨g8, H⟩
    ·
      refine T.condPT rfl g8 ?_
      refine T.skip ?_
      refine X.seq_normal ?_
      refine T.seq ?_
      refine T.block ?_
      refine T.seq ?_
      obtain ⟨g9, H⟩ := gd_some H
      refine T.regionL (ll := [0, 1, 2, 3]) rfl ?_
      refine TO.ixR h_l1 g9 rfl rfl rfl rfl rfl TWS3.l54 TWS3.n60 ?_
      refine TO.ldSR (cs := [.int .i64 ((l1.getD x7.toNat default).Arc), .bool ((l1.getD x7.toNat default).Back)]) default h_l1 g9 rfl rfl rfl rfl rfl TWS3.a60 ?_
      refine TO.allocA rfl rfl rfl TWS3.z60 ?_; intro b10
      refine TO.storeA rfl rfl rfl rfl (Take.head _ _) TWS3.n60 rfl rfl rfl ?_
      refine TO.done ?_
      refine X.seq_normal ?_
      refine T.seq ?_
      refine T.seq ?_
      refine T.meetSE1 (fun (x13 : Bool) => m_flow_along_j2 n0 l1 mp5 last6 x7 x13 = some r_1) (fun (x13 : Bool) => [(2, .pointer (some ⟨b1, 0, none⟩)), (6, .map (some b3)), (7, .int .i64 last6), (9, .pointer (some ⟨b10, 0, none⟩)), (14, .slice l1_b l1_n l1_c), (15, .int .i64 (l1.length : Int)), (16, .int .i64 x7), (30, .bool x13)]) (fun (x13 : Bool) => [(some b1, .cells #[.int .i64 n0.N, .int .i64 n0.S, .int .i64 n0.T, .slice n0_Arcs_b n0_Arcs_n n0_Arcs_c] 24 (0, 0)), (some b3, mapO .i64 (Value.int .i64) mp5), (some b10, .cells #[.int .i64 ((l1.getD x7.toNat default).Arc), .bool ((l1.getD x7.toNat default).Back)] 60 (0, 0))]) ?_ ?_
      ·
        rcases ite_some H with ⟨g12, H⟩ | ⟨g12, H⟩
        ·
          refine T.regionL (ll := [0, 1, 2, 3, 4, 5, 6, 7, 8, 9, 10]) rfl ?_
          refine TO.fieldAddr0 rfl rfl rfl rfl TWS3.f60_0 ?_
          refine TO.load1 rfl rfl rfl rfl TWS3.s3 (List.Mem.head _) rfl ?_
          refine TO.bin rfl rfl rfl rfl rfl rfl ?_
          refine TO.move rfl rfl rfl rfl ?_
          refine TO.decB (t := 23) (b' := true) rfl (decide_eq_true g12) ?_
          refine TO.shut rfl rfl rfl rfl ?_
          refine TO.shut rfl rfl rfl rfl ?_
          refine TO.shut rfl rfl rfl rfl ?_
          refine TO.shut rfl rfl rfl rfl ?_
          refine TO.shut rfl rfl rfl rfl ?_
          refine TO.shut rfl rfl rfl rfl ?_
          refine TO.pickT rfl rfl rfl rfl rfl ?_
          refine TO.done ?_
          exact X.metE1 true H (AllF.cons rfl (AllF.cons rfl (AllF.cons rfl (AllF.cons rfl (AllF.cons rfl (AllF.cons rfl (AllF.cons rfl (AllF.cons rfl AllF.nil)))))))) (Pick.cons (Take.tail (Take.head _ _)) (Pick.cons (Take.tail (Take.head _ _)) (Pick.cons (Take.head _ _) Pick.nil)))
        ·
          refine T.regionL (ll := [0, 1, 2, 3, 4, 5, 6, 7, 8, 9, 10]) rfl ?_
          refine TO.fieldAddr0 rfl rfl rfl rfl TWS3.f60_0 ?_
          refine TO.load1 rfl rfl rfl rfl TWS3.s3 (List.Mem.head _) rfl ?_
          refine TO.bin rfl rfl rfl rfl rfl rfl ?_
          refine TO.move rfl rfl rfl rfl ?_
          refine TO.decB (t := 23) (b' := false) rfl (decide_eq_false g12) ?_
          refine TO.fieldAddr0 rfl rfl rfl rfl TWS3.f60_0 ?_
          refine TO.load1 rfl rfl rfl rfl TWS3.s3 (List.Mem.head _) rfl ?_
          refine TO.fieldAddr0 rfl rfl rfl rfl TWS3.f24_3 ?_
          refine TO.load1 rfl rfl rfl rfl TWS3.s22 (List.Mem.tail _ (List.Mem.head _)) rfl ?_
          refine TO.lenX (xs := n0.Arcs) h_n0_Arcs.len rfl rfl rfl rfl rfl TWS3.l22 ?_
          refine TO.bin rfl rfl rfl rfl rfl rfl ?_
          refine TO.pickF rfl rfl rfl rfl rfl ?_
          refine TO.done ?_
          exact X.metE1 (decide ((n0.Arcs.length : Int) ≤ ((l1.getD x7.toNat default).Arc))) H (AllF.cons rfl (AllF.cons rfl (AllF.cons rfl (AllF.cons rfl (AllF.cons rfl (AllF.cons rfl (AllF.cons rfl (AllF.cons rfl AllF.nil)))))))) (Pick.cons (Take.tail (Take.head _ _)) (Pick.cons (Take.tail (Take.head _ _)) (Pick.cons (Take.head _ _) Pick.nil)))
      · rintro x13 H
        unfold m_flow_along_j2 at H
        rcases ite_some H with ⟨g14, H⟩ | ⟨g14, H⟩
        ·
          refine T.condT rfl g14 ?_
          refine T.seq ?_
          refine T.regionL (ll := [0, 1]) rfl ?_
          refine TO.assign rfl rfl rfl rfl ?_
          refine TO.assign rfl rfl rfl rfl ?_
          refine TO.done ?_
          refine X.seq_normal ?_
          refine T.trim (AllF.cons (t := 4) rfl (AllF.cons (t := 5) rfl AllF.nil)) ?_
          refine T.ret ?_
          refine X.then_ret ?_
          refine X.block_ret ?_
          refine X.then_ret ?_
          have H := loop_exitE H C_1 ▸ K_1
          refine X.then_ret ?_
          refine X.block_ret ?_
          refine X.then_ret ?_
          obtain ⟨rfl, rfl⟩ := ret2 H
          exact X.ret2 rfl rfl rfl rfl (Res.tmp rfl) (Res.tmp rfl) (Pick.none Pick.nil) ⟨none, rfl, rfl, (fun _ => rfl)⟩
        ·
          refine T.condF rfl (Bool.eq_false_iff.2 g14) ?_
          refine T.skip ?_
          refine X.seq_normal ?_
          refine T.seq ?_
          obtain ⟨g15, H⟩ := gd_some H
          refine T.regionL (ll := [0, 1, 2, 3, 4, 5, 6, 7]) rfl ?_
          refine TO.fieldAddr0 rfl rfl rfl rfl TWS3.f24_3 ?_
          refine TO.load1 rfl rfl rfl rfl TWS3.s22 (List.Mem.head _) rfl ?_
          refine TO.fieldAddr0 rfl rfl rfl rfl TWS3.f60_0 ?_
          refine TO.load1 rfl rfl rfl rfl TWS3.s3 (List.Mem.tail _ (List.Mem.tail _ (List.Mem.head _))) rfl ?_
          refine TO.ixR h_n0_Arcs g15 rfl rfl rfl rfl rfl TWS3.l22 TWS3.n28 ?_
          refine TO.ldSR (cs := [.int .i64 ((n0.Arcs.getD ((l1.getD x7.toNat default).Arc).toNat default).fr), .int .i64 ((n0.Arcs.getD ((l1.getD x7.toNat default).Arc).toNat default).to), .int .i64 ((n0.Arcs.getD ((l1.getD x7.toNat default).Arc).toNat default).cap)]) default h_n0_Arcs g15 rfl rfl rfl rfl rfl TWS3.a28 ?_
          refine TO.allocA rfl rfl rfl TWS3.z28 ?_; intro b16
          refine TO.storeA rfl rfl rfl rfl (Take.head _ _) TWS3.n28 rfl rfl rfl ?_
          refine TO.done ?_
          refine X.seq_normal ?_
          refine T.seq ?_
          apply T.drawQT [(37, _), (38, _), (39, _), (40, _), (11, _)]
          · exact mixed
          · kernel_rfl
          · kernel_rfl
          · exact rfl
          · exact rfl
          · refine ⟨?_, ?_, ?_, ?_, ?_, trivial⟩
            · intro Es
              refine TO.fieldAddr0 rfl rfl rfl rfl TWS3.f28_0 ?_
              exact TO.done (X.ob rfl (Pick.refl _))
            · intro Es
              refine TO.load1 rfl rfl rfl rfl TWS3.s3 (List.Mem.head _) rfl ?_
              exact TO.done (X.ob rfl (Pick.refl _))
            · intro Es
              refine TO.fieldAddr0 rfl rfl rfl rfl TWS3.f28_1 ?_
              exact TO.done (X.ob rfl (Pick.refl _))
            · intro Es
              refine TO.load1 rfl rfl rfl rfl TWS3.s3 (List.Mem.head _) rfl ?_
              exact TO.done (X.ob rfl (Pick.refl _))
            · intro Es
              refine TO.assign rfl rfl rfl rfl ?_
              exact TO.done (X.ob rfl (Pick.refl _))
          refine TO.assign rfl rfl rfl rfl ?_
          refine TO.done ?_
          refine X.seq_normal ?_
          refine T.trim (AllF.cons (t := 2) rfl (AllF.cons (t := 6) rfl (AllF.cons (t := 7) rfl (AllF.cons (t := 9) rfl (AllF.cons (t := 14) rfl (AllF.cons (t := 15) rfl (AllF.cons (t := 16) rfl (AllF.cons (t := 11) rfl (AllF.cons (t := 12) rfl AllF.nil))))))))) ?_
          refine T.seq ?_
          obtain ⟨g18, H⟩ := gd_some H
          refine T.regionL (ll := [0, 1, 2, 3, 4, 5]) rfl ?_
          refine TO.move rfl rfl rfl rfl ?_
          refine TO.fieldAddr0 rfl rfl rfl rfl TWS3.f60_0 ?_
          refine TO.load1 rfl rfl rfl rfl TWS3.s3 (List.Mem.tail _ (List.Mem.tail _ (List.Mem.tail _ (List.Mem.head _)))) rfl ?_
          refine TO.mget (f := (Value.int .i64)) (z := 0) (xs := mp5) TWS3.m93 TWS3.z2 someM rfl rfl rfl rfl rfl (List.Mem.tail _ (List.Mem.tail _ (List.Mem.head _))) rfl ?_
          refine TO.addG g18 rfl rfl rfl rfl rfl ?_
          refine TO.mput (f := (Value.int .i64)) (u := ((getM 0 ((l1.getD x7.toNat default).Arc) mp5) + 1)) (xs := mp5) TWS3.m93 rfl rfl rfl rfl rfl rfl (Take.tail (Take.tail (Take.head _ _))) ?_
          refine TO.done ?_
          refine X.seq_normal ?_
          refine T.seq ?_
          refine T.seq ?_
          refine T.regionL (ll := [0, 1]) rfl ?_
          refine TO.fieldAddr0 rfl rfl rfl rfl TWS3.f60_1 ?_
          refine TO.load1 rfl rfl rfl rfl TWS3.s4 (List.Mem.tail _ (List.Mem.tail _ (List.Mem.tail _ (List.Mem.head _)))) rfl ?_
          refine TO.done ?_
          refine X.seq_normal ?_
          refine T.meetSE3 (fun (mp21 : List (Int × Int)) (from22 : Int) (to23 : Int) => m_flow_along_j3 last6 x7 mp21 from22 to23 = some r_1) (fun (mp21 : List (Int × Int)) (from22 : Int) (to23 : Int) => [(2, .pointer (some ⟨b1, 0, none⟩)), (6, .map (some b3)), (7, .int .i64 last6), (11, .int .i64 from22), (12, .int .i64 to23), (14, .slice l1_b l1_n l1_c), (15, .int .i64 (l1.length : Int)), (16, .int .i64 x7)]) (fun (mp21 : List (Int × Int)) (from22 : Int) (to23 : Int) => [(some b1, .cells #[.int .i64 n0.N, .int .i64 n0.S, .int .i64 n0.T, .slice n0_Arcs_b n0_Arcs_n n0_Arcs_c] 24 (0, 0)), (some b3, mapO .i64 (Value.int .i64) mp21)]) ?_ ?_
          ·
            rcases ite_some H with ⟨g19, H⟩ | ⟨g19, H⟩
            ·
              refine T.condT rfl g19 ?_
              refine T.seq ?_
              refine T.regionL (ll := [0, 1, 2, 3]) rfl ?_
              refine TO.move rfl rfl rfl rfl ?_
              refine TO.move rfl rfl rfl rfl ?_
              refine TO.assign rfl rfl rfl rfl ?_
              refine TO.assign rfl rfl rfl rfl ?_
              refine TO.done ?_
              refine X.seq_normal ?_
              refine T.trim (AllF.cons (t := 2) rfl (AllF.cons (t := 6) rfl (AllF.cons (t := 7) rfl (AllF.cons (t := 9) rfl (AllF.cons (t := 14) rfl (AllF.cons (t := 15) rfl (AllF.cons (t := 16) rfl (AllF.cons (t := 11) rfl (AllF.cons (t := 12) rfl AllF.nil))))))))) ?_
              obtain ⟨g20, H⟩ := gd_some H
              refine T.regionL (ll := [0, 1, 2, 3, 4, 5]) rfl ?_
              refine TO.move rfl rfl rfl rfl ?_
              refine TO.fieldAddr0 rfl rfl rfl rfl TWS3.f60_0 ?_
              refine TO.load1 rfl rfl rfl rfl TWS3.s3 (List.Mem.tail _ (List.Mem.tail _ (List.Mem.tail _ (List.Mem.head _)))) rfl ?_
              refine TO.mget (f := (Value.int .i64)) (z := 0) (xs := (putM ((l1.getD x7.toNat default).Arc) ((getM 0 ((l1.getD x7.toNat default).Arc) mp5) + 1) mp5)) TWS3.m93 TWS3.z2 someM rfl rfl rfl rfl rfl (List.Mem.head _) rfl ?_
              refine TO.subG g20 rfl rfl rfl rfl rfl ?_
              refine TO.mput (f := (Value.int .i64)) (u := ((getM 0 ((l1.getD x7.toNat default).Arc) (putM ((l1.getD x7.toNat default).Arc) ((getM 0 ((l1.getD x7.toNat default).Arc) mp5) + 1) mp5)) - 2)) (xs := (putM ((l1.getD x7.toNat default).Arc) ((getM 0 ((l1.getD x7.toNat default).Arc) mp5) + 1) mp5)) TWS3.m93 rfl rfl rfl rfl rfl rfl (Take.head _ _) ?_
              refine TO.done ?_
              exact X.metE3 (putM ((l1.getD x7.toNat default).Arc) ((getM 0 ((l1.getD x7.toNat default).Arc) (putM ((l1.getD x7.toNat default).Arc) ((getM 0 ((l1.getD x7.toNat default).Arc) mp5) + 1) mp5)) - 2) (putM ((l1.getD x7.toNat default).Arc) ((getM 0 ((l1.getD x7.toNat default).Arc) mp5) + 1) mp5)) ((n0.Arcs.getD ((l1.getD x7.toNat default).Arc).toNat default).to) ((n0.Arcs.getD ((l1.getD x7.toNat default).Arc).toNat default).fr) H (AllF.cons rfl (AllF.cons rfl (AllF.cons rfl (AllF.cons rfl (AllF.cons rfl (AllF.cons rfl (AllF.cons rfl (AllF.cons rfl AllF.nil)))))))) (Pick.cons (Take.tail (Take.tail (Take.head _ _))) (Pick.cons (Take.head _ _) Pick.nil))
            ·
              refine T.condF rfl (Bool.eq_false_iff.2 g19) ?_
              refine T.skip ?_
              exact X.metE3 (putM ((l1.getD x7.toNat default).Arc) ((getM 0 ((l1.getD x7.toNat default).Arc) mp5) + 1) mp5) ((n0.Arcs.getD ((l1.getD x7.toNat default).Arc).toNat default).fr) ((n0.Arcs.getD ((l1.getD x7.toNat default).Arc).toNat default).to) H (AllF.cons rfl (AllF.cons rfl (AllF.cons rfl (AllF.cons rfl (AllF.cons rfl (AllF.cons rfl (AllF.cons rfl (AllF.cons rfl AllF.nil)))))))) (Pick.cons (Take.tail (Take.tail (Take.head _ _))) (Pick.cons (Take.head _ _) Pick.nil))
          · rintro mp21 from22 to23 H
            unfold m_flow_along_j3 at H
            refine T.seq ?_
            refine T.seq ?_
            refine T.meetSE1 (fun (x25 : Bool) => m_flow_along_j4 x7 mp21 to23 x25 = some r_1) (fun (x25 : Bool) => [(2, .pointer (some ⟨b1, 0, none⟩)), (6, .map (some b3)), (12, .int .i64 to23), (14, .slice l1_b l1_n l1_c), (15, .int .i64 (l1.length : Int)), (16, .int .i64 x7), (61, .bool x25)]) (fun (x25 : Bool) => [(some b1, .cells #[.int .i64 n0.N, .int .i64 n0.S, .int .i64 n0.T, .slice n0_Arcs_b n0_Arcs_n n0_Arcs_c] 24 (0, 0)), (some b3, mapO .i64 (Value.int .i64) mp21)]) ?_ ?_
            ·
              rcases ite_some H with ⟨g24, H⟩ | ⟨g24, H⟩
              ·
                refine T.regionL (ll := [0, 1, 2, 3, 4, 5, 6]) rfl ?_
                refine TO.move rfl rfl rfl rfl ?_
                refine TO.bin rfl rfl rfl rfl rfl rfl ?_
                refine TO.move rfl rfl rfl rfl ?_
                refine TO.decB (t := 57) (b' := true) rfl (decide_eq_true g24) ?_
                refine TO.move rfl rfl rfl rfl ?_
                refine TO.move rfl rfl rfl rfl ?_
                refine TO.bin rfl rfl rfl rfl rfl rfl ?_
                refine TO.pickT rfl rfl rfl rfl rfl ?_
                refine TO.done ?_
                exact X.metE1 (decide (from22 ≠ last6)) H (AllF.cons rfl (AllF.cons rfl (AllF.cons rfl (AllF.cons rfl (AllF.cons rfl (AllF.cons rfl (AllF.cons rfl AllF.nil))))))) (Pick.cons (Take.head _ _) (Pick.cons (Take.head _ _) Pick.nil))
              ·
                refine T.regionL (ll := [0, 1, 2, 3, 4, 5, 6]) rfl ?_
                refine TO.move rfl rfl rfl rfl ?_
                refine TO.bin rfl rfl rfl rfl rfl rfl ?_
                refine TO.move rfl rfl rfl rfl ?_
                refine TO.decB (t := 57) (b' := false) rfl (decide_eq_false g24) ?_
                refine TO.shut rfl rfl rfl rfl ?_
                refine TO.shut rfl rfl rfl rfl ?_
                refine TO.shut rfl rfl rfl rfl ?_
                refine TO.pickF rfl rfl rfl rfl rfl ?_
                refine TO.done ?_
                exact X.metE1 false H (AllF.cons rfl (AllF.cons rfl (AllF.cons rfl (AllF.cons rfl (AllF.cons rfl (AllF.cons rfl (AllF.cons rfl AllF.nil))))))) (Pick.cons (Take.head _ _) (Pick.cons (Take.head _ _) Pick.nil))
            · rintro x25 H
              unfold m_flow_along_j4 at H
              rcases ite_some H with ⟨g26, H⟩ | ⟨g26, H⟩
              ·
                refine T.condT rfl g26 ?_
                refine T.seq ?_
                refine T.regionL (ll := [0, 1]) rfl ?_
                refine TO.assign rfl rfl rfl rfl ?_
                refine TO.assign rfl rfl rfl rfl ?_
                refine TO.done ?_
                refine X.seq_normal ?_
                refine T.ret ?_
                refine X.then_ret ?_
                refine X.block_ret ?_
                refine X.then_ret ?_
                have H := loop_exitE H C_1 ▸ K_1
                refine X.then_ret ?_
                refine X.block_ret ?_
                refine X.then_ret ?_
                obtain ⟨rfl, rfl⟩ := ret2 H
                exact X.ret2 rfl rfl rfl rfl (Res.tmp rfl) (Res.tmp rfl) (Pick.none Pick.nil) ⟨none, rfl, rfl, (fun _ => rfl)⟩
              ·
                refine T.condF rfl (Bool.eq_false_iff.2 g26) ?_
                refine T.skip ?_
                refine X.seq_normal ?_
                refine T.regionL (ll := [0, 1]) rfl ?_
                refine TO.move rfl rfl rfl rfl ?_
                refine TO.assign rfl rfl rfl rfl ?_
                refine TO.done ?_
                refine X.block_normal ?_
                refine X.seq_normal ?_
                obtain ⟨g27, H⟩ := gd_some H
                refine T.regionL (ll := [0, 1]) rfl ?_
                refine TO.addG g27 rfl rfl rfl rfl rfl ?_
                refine TO.move rfl rfl rfl rfl ?_
                refine TO.done ?_
                have H := loop_next H C_1
                exact X.againE4 n_1 mp21 to23 (x7 + 1) H (Nat.lt_succ_self _) (AllF.cons rfl (AllF.cons rfl (AllF.cons rfl (AllF.cons rfl (AllF.cons rfl (AllF.cons rfl AllF.nil)))))) (Pick.cons (Take.head _ _) (Pick.cons (Take.head _ _) Pick.nil))
    ·
      refine T.condPF rfl g8 ?_
      refine T.exit ?_
      refine X.then_exit ?_
      have H := loop_exitE H C_1 ▸ K_1
      refine X.then_exit ?_
      refine X.block_here ?_
      exact X.metE1 mp5 H (AllF.cons rfl AllF.nil) (Pick.cons (Take.tail (Take.head _ _)) Pick.nil)
  · rintro mp28 H
    unfold m_flow_along_j5 at H
    refine T.seq ?_
    refine T.regionL (ll := [0, 1, 2]) rfl ?_
    refine TO.move rfl rfl rfl rfl ?_
    refine TO.assign rfl rfl rfl rfl ?_
    refine TO.assign rfl rfl rfl rfl ?_
    refine TO.done ?_
    refine X.seq_normal ?_
    refine T.ret ?_
    obtain ⟨rfl, rfl⟩ := ret2 H
    exact X.ret2 rfl rfl rfl rfl (Res.tmp rfl) (Res.tmp rfl) (Pick.cons (Take.head _ _) Pick.nil) ⟨(some b3), rfl, rfl, someM⟩
/-- acequia/flow.Room -/
theorem w_flow_Room {n0 : Net} {f1 : List Int} {l2 : List Hop} {n0_Arcs_b : Option Addr} {n0_Arcs_n : Nat} {n0_Arcs_c : Nat} {f1_b : Option Addr} {f1_n : Nat} {f1_c : Nat} {l2_b : Option Addr} {l2_n : Nat} {l2_c : Nat} (w : World) (h_n0_Arcs : RS w [] arcC 3 n0_Arcs_b n0_Arcs_n n0_Arcs_c n0.Arcs) (h_f1 : RS w [] (intC .i64) 1 f1_b f1_n f1_c f1) (h_l2 : RS w [] hopC 2 l2_b l2_n l2_c l2) {r0 : Int} {r1 : Int} (H : m_flow_Room n0 f1 l2 = some (r0, r1)) : Fnc Try.prog 34 #[.agg #[.int .i64 n0.N, .int .i64 n0.S, .int .i64 n0.T, .slice n0_Arcs_b n0_Arcs_n n0_Arcs_c], .slice f1_b f1_n f1_c, .slice l2_b l2_n l2_c] w [] (fun v N => v = .tuple #[.int .i64 r0, .int .i64 r1] ∧ N = []) := by
  unfold m_flow_Room at H
  refine Fnc.enter (vs := [.agg #[.int .i64 n0.N, .int .i64 n0.S, .int .i64 n0.T, .slice n0_Arcs_b n0_Arcs_n n0_Arcs_c], .slice f1_b f1_n f1_c, .slice l2_b l2_n l2_c]) Try.func34 rfl rfl (Inv.refl w) ?_
  refine T.seq ?_
  refine T.regionL (ll := [0, 1, 2]) rfl ?_
  refine TO.boxA rfl rfl rfl rfl ?_; intro b1
  refine TO.assign rfl rfl rfl rfl ?_
  refine TO.assign rfl rfl rfl rfl ?_
  refine TO.done ?_
  refine X.seq_normal ?_
  refine T.seq ?_
  refine T.seq ?_
  obtain ⟨r3, e4, H⟩ := bd_some H
  refine T.regionL (ll := [0, 1, 2, 3]) rfl ?_
  refine TO.loadA rfl rfl rfl rfl TWS3.a24 (List.Mem.head _) rfl ?_
  refine TO.move rfl rfl rfl rfl ?_
  refine TO.callX TWS3.c28 rfl rfl rfl rfl (fun wc hwc => w_flow_Within (n0 := n0) (f1 := f1) wc (h_n0_Arcs.mono hwc) (h_f1.mono hwc) e4) ?_
  rintro _ _ ⟨rfl, rfl⟩
  refine TO.not rfl rfl rfl rfl ?_
  refine TO.done ?_
  refine X.seq_normal ?_
  rcases ite_some H with ⟨g5, H⟩ | ⟨g5, H⟩
  ·
    refine T.condT rfl g5 ?_
    refine T.seq ?_
    refine T.regionL (ll := [0, 1]) rfl ?_
    refine TO.assign rfl rfl rfl rfl ?_
    refine TO.assign rfl rfl rfl rfl ?_
    refine TO.done ?_
    refine X.seq_normal ?_
    refine T.trim (AllF.cons (t := 6) rfl (AllF.cons (t := 7) rfl AllF.nil)) ?_
    refine T.ret ?_
    refine X.then_ret ?_
    obtain ⟨rfl, rfl⟩ := ret2 H
    exact X.ret2 rfl rfl rfl rfl (Res.tmp rfl) (Res.tmp rfl) Pick.nil ⟨rfl, rfl⟩
  ·
    refine T.condF rfl (Bool.eq_false_iff.2 g5) ?_
    refine T.skip ?_
    refine X.seq_normal ?_
    refine T.seq ?_
    obtain ⟨⟨r6, r7⟩, e8, H⟩ := bd_some H
    refine T.regionL (ll := [0, 1, 2, 3, 4, 5, 6, 7]) rfl ?_
    refine TO.loadA rfl rfl rfl rfl TWS3.a24 (List.Mem.head _) rfl ?_
    refine TO.move rfl rfl rfl rfl ?_
    refine TO.callX TWS3.c63 rfl rfl rfl rfl (fun wc hwc => w_flow_along (n0 := n0) (l1 := l2) wc (h_n0_Arcs.mono hwc) (h_l2.mono hwc) e8) ?_
    rintro _ _ ⟨ob9, rfl, rfl, hz10⟩
    refine TO.move rfl rfl rfl rfl ?_
    refine TO.extract rfl rfl rfl rfl rfl ?_
    refine TO.extract rfl rfl rfl rfl rfl ?_
    refine TO.assign rfl rfl rfl rfl ?_
    refine TO.assign rfl rfl rfl rfl ?_
    refine TO.done ?_
    refine X.seq_normal ?_
    refine T.trim (AllF.cons (t := 1) rfl (AllF.cons (t := 3) rfl (AllF.cons (t := 8) rfl (AllF.cons (t := 9) rfl AllF.nil)))) ?_
    refine T.seq ?_
    refine T.seq ?_
    refine T.regionL (ll := [0, 1]) rfl ?_
    refine TO.move rfl rfl rfl rfl ?_
    refine TO.not rfl rfl rfl rfl ?_
    refine TO.done ?_
    refine X.seq_normal ?_
    rcases ite_some H with ⟨g12, H⟩ | ⟨g12, H⟩
    ·
      refine T.condT rfl g12 ?_
      refine T.seq ?_
      refine T.regionL (ll := [0, 1]) rfl ?_
      refine TO.assign rfl rfl rfl rfl ?_
      refine TO.assign rfl rfl rfl rfl ?_
      refine TO.done ?_
      refine X.seq_normal ?_
      refine T.ret ?_
      refine X.then_ret ?_
      obtain ⟨rfl, rfl⟩ := ret2 H
      exact X.ret2 rfl rfl rfl rfl (Res.tmp rfl) (Res.tmp rfl) Pick.nil ⟨rfl, rfl⟩
    ·
      refine T.condF rfl (Bool.eq_false_iff.2 g12) ?_
      refine T.skip ?_
      refine X.seq_normal ?_
      refine T.seq ?_
      refine T.regionL (ll := [0]) rfl ?_
      refine TO.assign rfl rfl rfl rfl ?_
      refine TO.done ?_
      refine X.seq_normal ?_
      refine T.seq ?_
      refine T.seq ?_
      refine T.regionL (ll := [0, 1]) rfl ?_
      refine TO.move rfl rfl rfl rfl ?_
      refine TO.mrange (xs := r6) TWS3.m93 hz10 rfl rfl rfl rfl (List.Mem.head _) ?_; intro b13
      refine TO.done ?_
      refine X.seq_normal ?_
      refine T.meetSE1 (fun (room28 : Int) => m_flow_Room_j2 room28 = some (r0, r1)) (fun (room28 : Int) => [(10, .int .i64 room28)]) (fun (room28 : Int) => []) ?_ ?_
      ·
        refine T.block ?_
        obtain ⟨o_1, e_1, K_1⟩ := bd_some H
        refine T.loopE3 (fun (m_1 : Nat) (room15 : Int) (seen16 : List Nat) => loopA (fun s => altsM r6.length s.2) (fun s c => m_flow_Room_s1 n0 f1 r6 s.1 s.2 c) m_1 (room15, seen16) = some o_1) (fun (m_1 : Nat) (room15 : Int) (seen16 : List Nat) => [(1, .slice f1_b f1_n f1_c), (3, .pointer (some ⟨b1, 0, none⟩)), (10, .int .i64 room15), (26, .pointer (some ⟨b13, 0, none⟩))]) (fun (m_1 : Nat) (room15 : Int) (seen16 : List Nat) => [(some b1, .cells #[.int .i64 n0.N, .int .i64 n0.S, .int .i64 n0.T, .slice n0_Arcs_b n0_Arcs_n n0_Arcs_c] 24 (0, 0)), (ob9, mapO .i64 (Value.int .i64) r6), (some b13, iterO ob9 r6.length seen16)]) (fun (m_1 : Nat) (room15 : Int) (seen16 : List Nat) => m_1) FUEL 4611686018427387904 ([] : List Nat) e_1 (AllF.cons rfl (AllF.cons rfl (AllF.cons rfl (AllF.cons rfl AllF.nil)))) (Pick.cons (Take.tail (Take.tail (Take.head _ _))) (Pick.cons (Take.tail (Take.head _ _)) (Pick.cons (Take.head _ _) Pick.nil))) ?_
        rintro m_1 room15 seen16 H
        obtain ⟨n_1, rfl, A_1⟩ := loopA_some H
        refine T.seq ?_
        refine T.regionL (ll := [0, 1]) rfl ?_
        refine TO.mnext (xs := r6) (seen := seen16) (f := (Value.int .i64)) (q := .i64) (default : Int × Int) hz10 rfl rfl rfl rfl (List.Mem.tail _ (List.Mem.head _)) (Take.tail (Take.tail (Take.head _ _))) ?_ ?_
        · intro hc
          obtain ⟨r_1, H, C_1⟩ := A_1 none hc
          have H : m_flow_Room_s1 n0 f1 r6 room15 seen16 none = some r_1 := H
          unfold m_flow_Room_s1 at H
          have H := chooseN H
          refine TO.extract rfl rfl rfl rfl rfl ?_
          refine TO.done ?_
          refine X.seq_normal ?_
          refine T.seq ?_
          refine T.condF rfl rfl ?_
          refine T.exit ?_
          refine X.then_exit ?_
          have H := loopA_exitE H C_1 ▸ K_1
          refine X.then_exit ?_
          refine X.block_here ?_
          exact X.metE1 room15 H (AllF.cons rfl AllF.nil) Pick.nil
        · intro j17 hc g18
          obtain ⟨r_1, H, C_1⟩ := A_1 (some j17) hc
          have H : m_flow_Room_s1 n0 f1 r6 room15 seen16 (some j17) = some r_1 := H
          unfold m_flow_Room_s1 at H
          have H := chooseS H
          refine TO.extract rfl rfl rfl rfl rfl ?_
          refine TO.done ?_
          refine X.seq_normal ?_
          refine T.seq ?_
          refine T.condT rfl rfl ?_
          refine T.skip ?_
          refine X.seq_normal ?_
          refine T.block ?_
          refine T.seq ?_
          refine T.regionL (ll := [0, 1, 2, 3, 4]) rfl ?_
          refine TO.mentry (xs := r6) (seen := seen16) (f := (Value.int .i64)) (q := .i64) (default : Int × Int) hz10 g18 rfl rfl rfl rfl (List.Mem.tail _ (List.Mem.tail _ (List.Mem.head _))) (List.Mem.head _) ?_
          refine TO.extract rfl rfl rfl rfl rfl ?_
          refine TO.extract rfl rfl rfl rfl rfl ?_
          refine TO.assign rfl rfl rfl rfl ?_
          refine TO.assign rfl rfl rfl rfl ?_
          refine TO.done ?_
          refine X.seq_normal ?_
          refine T.block ?_
          refine T.seq ?_
          refine T.regionL (ll := [0, 1, 2]) rfl ?_
          refine TO.move rfl rfl rfl rfl ?_
          refine TO.bin rfl rfl rfl rfl rfl rfl ?_
          refine TO.assign rfl rfl rfl rfl ?_
          refine TO.done ?_
          refine X.seq_normal ?_
          rcases ite_some H with ⟨g19, H⟩ | ⟨g19, H⟩
          ·
            refine T.condPT rfl g19 ?_
            obtain ⟨g20, H⟩ := gd_some H
            obtain ⟨g21, H⟩ := gd_some H
            obtain ⟨g22, H⟩ := gd_some H
            obtain ⟨g23, H⟩ := gd_some H
            apply T.drawQT [(35, _), (36, _), (37, _), (38, _), (39, _), (40, _), (41, _), (42, _), (43, _), (44, _), (45, _), (46, _), (47, _), (48, _)]
            · exact mixed
            · kernel_rfl
            · kernel_rfl
            · exact rfl
            · exact rfl
            · refine ⟨?_, ?_, ?_, ?_, ?_, ?_, ?_, ?_, ?_, ?_, ?_, ?_, ?_, ?_, trivial⟩
              · intro Es
                refine TO.move rfl rfl rfl rfl ?_
                exact TO.done (X.ob rfl (Pick.refl _))
              · intro Es
                refine TO.fieldAddr0 rfl rfl rfl rfl TWS3.f24_3 ?_
                exact TO.done (X.ob rfl (Pick.refl _))
              · intro Es
                refine TO.load1 rfl rfl rfl rfl TWS3.s22 (List.Mem.tail _ (List.Mem.head _)) rfl ?_
                exact TO.done (X.ob rfl (Pick.refl _))
              · intro Es
                refine TO.move rfl rfl rfl rfl ?_
                exact TO.done (X.ob rfl (Pick.refl _))
              · intro Es
                refine TO.ixR h_n0_Arcs g20 rfl rfl rfl rfl rfl TWS3.l22 TWS3.n28 ?_
                exact TO.done (X.ob rfl (Pick.refl _))
              · intro Es
                refine TO.faR rfl rfl rfl rfl TWS3.f28_2 ?_
                exact TO.done (X.ob rfl (Pick.refl _))
              · intro Es
                refine TO.ldFR (v := .int .i64 ((n0.Arcs.getD ((r6.getD j17 (default : Int × Int)).1).toNat default).cap)) default h_n0_Arcs g20 rfl rfl rfl rfl rfl TWS3.s2 ?_
                exact TO.done (X.ob rfl (Pick.refl _))
              · intro Es
                refine TO.move rfl rfl rfl rfl ?_
                exact TO.done (X.ob rfl (Pick.refl _))
              · intro Es
                refine TO.move rfl rfl rfl rfl ?_
                exact TO.done (X.ob rfl (Pick.refl _))
              · intro Es
                refine TO.ixR h_f1 g21 rfl rfl rfl rfl rfl TWS3.l25 TWS3.n2 ?_
                exact TO.done (X.ob rfl (Pick.refl _))
              · intro Es
                refine TO.ldIR h_f1 g21 rfl rfl rfl rfl TWS3.s2 ?_
                exact TO.done (X.ob rfl (Pick.refl _))
              · intro Es
                refine TO.subG g22 rfl rfl rfl rfl rfl ?_
                exact TO.done (X.ob rfl (Pick.refl _))
              · intro Es
                refine TO.move rfl rfl rfl rfl ?_
                exact TO.done (X.ob rfl (Pick.refl _))
              · intro Es
                refine TO.quoG g23 rfl rfl rfl rfl rfl ?_
                exact TO.done (X.ob rfl (Pick.refl _))
            refine TO.min2 rfl rfl rfl rfl rfl ?_
            refine TO.assign rfl rfl rfl rfl ?_
            refine TO.done ?_
            refine X.block_normal ?_
            refine X.block_normal ?_
            have H := loopA_next H C_1
            exact X.againE3 n_1 (min room15 ((((n0.Arcs.getD ((r6.getD j17 (default : Int × Int)).1).toNat default).cap) - (f1.getD ((r6.getD j17 (default : Int × Int)).1).toNat 0)).tdiv ((r6.getD j17 (default : Int × Int)).2))) (seen16 ++ [j17]) H (Nat.lt_succ_self _) (AllF.cons rfl (AllF.cons rfl (AllF.cons rfl (AllF.cons rfl AllF.nil)))) (Pick.cons (Take.tail (Take.head _ _)) (Pick.cons (Take.tail (Take.head _ _)) (Pick.cons (Take.head _ _) Pick.nil)))
          ·
            refine T.condPF rfl g19 ?_
            refine T.seq ?_
            refine T.regionL (ll := [0, 1, 2]) rfl ?_
            refine TO.move rfl rfl rfl rfl ?_
            refine TO.bin rfl rfl rfl rfl rfl rfl ?_
            refine TO.assign rfl rfl rfl rfl ?_
            refine TO.done ?_
            refine X.seq_normal ?_
            refine T.trim (AllF.cons (t := 1) rfl (AllF.cons (t := 3) rfl (AllF.cons (t := 10) rfl (AllF.cons (t := 26) rfl (AllF.cons (t := 11) rfl (AllF.cons (t := 12) rfl (AllF.cons (t := 50) rfl AllF.nil))))))) ?_
            rcases ite_some H with ⟨g24, H⟩ | ⟨g24, H⟩
            ·
              refine T.condPT rfl g24 ?_
              obtain ⟨g25, H⟩ := gd_some H
              obtain ⟨g26, H⟩ := gd_some H
              obtain ⟨g27, H⟩ := gd_some H
              refine T.regionL (ll := [0, 1, 2, 3, 4, 5, 6, 7, 8, 9]) rfl ?_
              refine TO.move rfl rfl rfl rfl ?_
              refine TO.move rfl rfl rfl rfl ?_
              refine TO.move rfl rfl rfl rfl ?_
              refine TO.ixR h_f1 g25 rfl rfl rfl rfl rfl TWS3.l25 TWS3.n2 ?_
              refine TO.ldIR h_f1 g25 rfl rfl rfl rfl TWS3.s2 ?_
              refine TO.move rfl rfl rfl rfl ?_
              refine TO.negG g26 rfl rfl rfl rfl ?_
              refine TO.quoG g27 rfl rfl rfl rfl rfl ?_
              refine TO.min2 rfl rfl rfl rfl rfl ?_
              refine TO.assign rfl rfl rfl rfl ?_
              refine TO.done ?_
              refine X.block_normal ?_
              refine X.block_normal ?_
              have H := loopA_next H C_1
              exact X.againE3 n_1 (min room15 ((f1.getD ((r6.getD j17 (default : Int × Int)).1).toNat 0).tdiv (-((r6.getD j17 (default : Int × Int)).2)))) (seen16 ++ [j17]) H (Nat.lt_succ_self _) (AllF.cons rfl (AllF.cons rfl (AllF.cons rfl (AllF.cons rfl AllF.nil)))) (Pick.cons (Take.tail (Take.head _ _)) (Pick.cons (Take.tail (Take.head _ _)) (Pick.cons (Take.head _ _) Pick.nil)))
            ·
              refine T.condPF rfl g24 ?_
              refine T.skip ?_
              refine X.block_normal ?_
              refine X.block_normal ?_
              have H := loopA_next H C_1
              exact X.againE3 n_1 room15 (seen16 ++ [j17]) H (Nat.lt_succ_self _) (AllF.cons rfl (AllF.cons rfl (AllF.cons rfl (AllF.cons rfl AllF.nil)))) (Pick.cons (Take.tail (Take.head _ _)) (Pick.cons (Take.tail (Take.head _ _)) (Pick.cons (Take.head _ _) Pick.nil)))
      · rintro room28 H
        unfold m_flow_Room_j2 at H
        refine T.seq ?_
        refine T.regionL (ll := [0, 1, 2]) rfl ?_
        refine TO.move rfl rfl rfl rfl ?_
        refine TO.assign rfl rfl rfl rfl ?_
        refine TO.assign rfl rfl rfl rfl ?_
        refine TO.done ?_
        refine X.seq_normal ?_
        refine T.ret ?_
        obtain ⟨rfl, rfl⟩ := ret2 H
        exact X.ret2 rfl rfl rfl rfl (Res.tmp rfl) (Res.tmp rfl) Pick.nil ⟨rfl, rfl⟩
/-- slices.Clone[[]int64,int64] -/
theorem w_slices_Clone_int64 {s0 : List Int} {s0_b : Option Addr} {s0_n : Nat} {s0_c : Nat} (w : World) (h_s0 : RS w [] (intC .i64) 1 s0_b s0_n s0_c s0) {r0 : List Int} (H : m_slices_Clone_int64 s0 = some r0) : Fnc Try.prog 64 #[.slice s0_b s0_n s0_c] w [] (fun v N => ∃ (ob_0 : Option Nat) (n_0 : Nat) (c_0 : Nat) (j_0 : List Value), v = .slice (sb ob_0) n_0 c_0 ∧ N = [(ob_0, .cells (arr (intC .i64) r0 j_0).toArray 2 (0, 0))] ∧ r0.length = n_0 ∧ n_0 ≤ c_0 ∧ j_0.length = (c_0 - n_0) * 1 ∧ (ob_0 = none → c_0 = 0)) := by
  unfold m_slices_Clone_int64 at H
  refine Fnc.enter (vs := [.slice s0_b s0_n s0_c]) Try.func64 rfl rfl (Inv.refl w) ?_
  refine T.seq ?_
  refine T.regionL (ll := [0]) rfl ?_
  refine TO.assign rfl rfl rfl rfl ?_
  refine TO.done ?_
  refine X.seq_normal ?_
  refine T.seq ?_
  refine T.seq ?_
  by_cases g1 : s0_b = none
  ·
    have hx : s0 = [] := List.eq_nil_of_length_eq_zero (by rw [h_s0.len, h_s0.ro.nil g1])
    have H : (some ([])) = some r0 := by
      simp only [hx] at H ⊢
      first | exact H | exact (gd_some H).2
    refine T.regionL (ll := [0, 1]) rfl ?_
    refine TO.move rfl rfl rfl rfl ?_
    refine TO.eqnil rfl rfl rfl rfl rfl TWS3.l25 ?_
    refine TO.decB (t := 4) (b' := true) rfl (by rw [g1]; rfl) ?_
    refine TO.done ?_
    refine X.seq_normal ?_
    refine T.condT rfl rfl ?_
    refine T.seq ?_
    refine T.regionL (ll := [0]) rfl ?_
    refine TO.assign rfl rfl rfl rfl ?_
    refine TO.done ?_
    refine X.seq_normal ?_
    refine T.ret ?_
    refine X.then_ret ?_
    obtain rfl := ret1 H
    exact X.ret1 rfl rfl rfl rfl (Res.tmp rfl) (Pick.none Pick.nil) ⟨none, 0, 0, ([]), rfl, rfl, rfl, (Nat.le_refl _), (zeroJ 0 _), (fun _ => rfl)⟩
  ·
    refine T.regionL (ll := [0, 1]) rfl ?_
    refine TO.move rfl rfl rfl rfl ?_
    refine TO.eqnil rfl rfl rfl rfl rfl TWS3.l25 ?_
    refine TO.decB (t := 4) (b' := false) rfl (Option.isNone_eq_false_iff.2 (Option.isSome_iff_ne_none.2 g1)) ?_
    refine TO.done ?_
    refine X.seq_normal ?_
    refine T.condF rfl rfl ?_
    refine T.skip ?_
    refine X.seq_normal ?_
    refine T.seq ?_
    obtain ⟨g4, H⟩ := gd_some H
    refine T.regionL (ll := [0, 1, 2, 3]) rfl ?_
    refine TO.buildNone rfl rfl rfl TWS3.l25 TWS3.n2 ?_; intro b2
    refine TO.move rfl rfl rfl rfl ?_
    refine TO.app (f := (intC .i64)) (s := 1) (xs := ([] : List Int)) (ob := some b2) (j := ([])) (ys := s0) (fun _ => rfl) (fun _ => rfl) TWS3el25 g4 rfl rfl rfl rfl rfl (Take.head _ _) rfl (Nat.le_refl _) (zeroJ 0 _) someZ (fun wc hwc => (h_s0.mono hwc)) ?_; intro ob5 c6 j7 hc8 hj9 hz10
    refine TO.assign rfl rfl rfl rfl ?_
    refine TO.done ?_
    refine X.seq_normal ?_
    refine T.ret ?_
    obtain rfl := ret1 H
    exact X.ret1 rfl rfl rfl rfl (Res.tmp rfl) (Pick.cons (Take.head _ _) Pick.nil) ⟨ob5, (0 + s0_n), c6, j7, rfl, rfl, (lenApp0 h_s0.len), hc8, hj9, hz10⟩
/-- acequia/flow.Send -/
theorem w_flow_Send {n0 : Net} {f1 : List Int} {l2 : List Hop} {d3 : Int} {n0_Arcs_b : Option Addr} {n0_Arcs_n : Nat} {n0_Arcs_c : Nat} {f1_b : Option Addr} {f1_n : Nat} {f1_c : Nat} {l2_b : Option Addr} {l2_n : Nat} {l2_c : Nat} (w : World) (h_n0_Arcs : RS w [] arcC 3 n0_Arcs_b n0_Arcs_n n0_Arcs_c n0.Arcs) (h_f1 : RS w [] (intC .i64) 1 f1_b f1_n f1_c f1) (h_l2 : RS w [] hopC 2 l2_b l2_n l2_c l2) {r0 : List Int} {r1 : Int} (H : m_flow_Send n0 f1 l2 d3 = some (r0, r1)) : Fnc Try.prog 35 #[.agg #[.int .i64 n0.N, .int .i64 n0.S, .int .i64 n0.T, .slice n0_Arcs_b n0_Arcs_n n0_Arcs_c], .slice f1_b f1_n f1_c, .slice l2_b l2_n l2_c, .int .i64 d3] w [] (fun v N => ∃ (ob_0 : Option Nat) (n_0 : Nat) (c_0 : Nat) (j_0 : List Value), v = .tuple #[.slice (sb ob_0) n_0 c_0, .int .i64 r1] ∧ N = [(ob_0, .cells (arr (intC .i64) r0 j_0).toArray 2 (0, 0))] ∧ r0.length = n_0 ∧ n_0 ≤ c_0 ∧ j_0.length = (c_0 - n_0) * 1 ∧ (ob_0 = none → c_0 = 0)) := by
  unfold m_flow_Send at H
  refine Fnc.enter (vs := [.agg #[.int .i64 n0.N, .int .i64 n0.S, .int .i64 n0.T, .slice n0_Arcs_b n0_Arcs_n n0_Arcs_c], .slice f1_b f1_n f1_c, .slice l2_b l2_n l2_c, .int .i64 d3]) Try.func35 rfl rfl (Inv.refl w) ?_
  refine T.seq ?_
  refine T.regionL (ll := [0, 1, 2]) rfl ?_
  refine TO.boxA rfl rfl rfl rfl ?_; intro b1
  refine TO.assign rfl rfl rfl rfl ?_
  refine TO.assign rfl rfl rfl rfl ?_
  refine TO.done ?_
  refine X.seq_normal ?_
  refine T.seq ?_
  obtain ⟨⟨r3, r4⟩, e5, H⟩ := bd_some H
  refine T.regionL (ll := [0, 1, 2, 3, 4, 5, 6, 7, 8]) rfl ?_
  refine TO.loadA rfl rfl rfl rfl TWS3.a24 (List.Mem.head _) rfl ?_
  refine TO.move rfl rfl rfl rfl ?_
  refine TO.move rfl rfl rfl rfl ?_
  refine TO.callX TWS3.c34 rfl rfl rfl rfl (fun wc hwc => w_flow_Room (n0 := n0) (f1 := f1) (l2 := l2) wc (h_n0_Arcs.mono hwc) (h_f1.mono hwc) (h_l2.mono hwc) e5) ?_
  rintro _ _ ⟨rfl, rfl⟩
  refine TO.move rfl rfl rfl rfl ?_
  refine TO.extract rfl rfl rfl rfl rfl ?_
  refine TO.extract rfl rfl rfl rfl rfl ?_
  refine TO.assign rfl rfl rfl rfl ?_
  refine TO.assign rfl rfl rfl rfl ?_
  refine TO.done ?_
  refine X.seq_normal ?_
  refine T.trim (AllF.cons (t := 1) rfl (AllF.cons (t := 2) rfl (AllF.cons (t := 3) rfl (AllF.cons (t := 4) rfl (AllF.cons (t := 10) rfl (AllF.cons (t := 11) rfl AllF.nil)))))) ?_
  refine T.seq ?_
  refine T.block ?_
  refine T.seq ?_
  refine T.regionL (ll := [0, 1, 2]) rfl ?_
  refine TO.move rfl rfl rfl rfl ?_
  refine TO.bin rfl rfl rfl rfl rfl rfl ?_
  refine TO.assign rfl rfl rfl rfl ?_
  refine TO.done ?_
  refine X.seq_normal ?_
  rcases ite_some H with ⟨g6, H⟩ | ⟨g6, H⟩
  ·
    refine T.condPT rfl g6 ?_
    refine T.seq ?_
    refine T.regionL (ll := [0, 1, 2]) rfl ?_
    refine TO.move rfl rfl rfl rfl ?_
    refine TO.assign rfl rfl rfl rfl ?_
    refine TO.assign rfl rfl rfl rfl ?_
    refine TO.done ?_
    refine X.seq_normal ?_
    refine T.trim (AllF.cons (t := 8) rfl (AllF.cons (t := 9) rfl AllF.nil)) ?_
    refine T.ret ?_
    refine X.block_ret ?_
    refine X.then_ret ?_
    obtain ⟨rfl, rfl⟩ := ret2 H
    exact X.ret2 rfl rfl rfl rfl (Res.tmp rfl) (Res.tmp rfl) (Pick.none Pick.nil) ⟨none, 0, 0, ([]), rfl, rfl, rfl, (Nat.le_refl _), (zeroJ 0 _), (fun _ => rfl)⟩
  ·
    refine T.condPF rfl g6 ?_
    refine T.seq ?_
    refine T.meetSE1 (fun (x8 : Bool) => m_flow_Send_j1 n0 f1 l2 d3 x8 = some (r0, r1)) (fun (x8 : Bool) => [(1, .slice f1_b f1_n f1_c), (2, .slice l2_b l2_n l2_c), (3, .int .i64 d3), (4, .pointer (some ⟨b1, 0, none⟩)), (28, .bool x8)]) (fun (x8 : Bool) => [(some b1, .cells #[.int .i64 n0.N, .int .i64 n0.S, .int .i64 n0.T, .slice n0_Arcs_b n0_Arcs_n n0_Arcs_c] 24 (0, 0))]) ?_ ?_
    ·
      rcases ite_some H with ⟨g7, H⟩ | ⟨g7, H⟩
      ·
        refine T.regionL (ll := [0, 1, 2, 3, 4, 5, 6, 7]) rfl ?_
        refine TO.move rfl rfl rfl rfl ?_
        refine TO.bin rfl rfl rfl rfl rfl rfl ?_
        refine TO.move rfl rfl rfl rfl ?_
        refine TO.decB (t := 31) (b' := true) rfl (decide_eq_true g7) ?_
        refine TO.shut rfl rfl rfl rfl ?_
        refine TO.shut rfl rfl rfl rfl ?_
        refine TO.shut rfl rfl rfl rfl ?_
        refine TO.pickT rfl rfl rfl rfl rfl ?_
        refine TO.assign rfl rfl rfl rfl ?_
        refine TO.done ?_
        exact X.metE1 true H (AllF.cons rfl (AllF.cons rfl (AllF.cons rfl (AllF.cons rfl (AllF.cons rfl AllF.nil))))) (Pick.cons (Take.head _ _) Pick.nil)
      ·
        refine T.regionL (ll := [0, 1, 2, 3, 4, 5, 6, 7]) rfl ?_
        refine TO.move rfl rfl rfl rfl ?_
        refine TO.bin rfl rfl rfl rfl rfl rfl ?_
        refine TO.move rfl rfl rfl rfl ?_
        refine TO.decB (t := 31) (b' := false) rfl (decide_eq_false g7) ?_
        refine TO.move rfl rfl rfl rfl ?_
        refine TO.move rfl rfl rfl rfl ?_
        refine TO.bin rfl rfl rfl rfl rfl rfl ?_
        refine TO.pickF rfl rfl rfl rfl rfl ?_
        refine TO.assign rfl rfl rfl rfl ?_
        refine TO.done ?_
        exact X.metE1 (decide (r3 < d3)) H (AllF.cons rfl (AllF.cons rfl (AllF.cons rfl (AllF.cons rfl (AllF.cons rfl AllF.nil))))) (Pick.cons (Take.head _ _) Pick.nil)
    · rintro x8 H
      unfold m_flow_Send_j1 at H
      rcases ite_some H with ⟨g9, H⟩ | ⟨g9, H⟩
      ·
        refine T.condT rfl g9 ?_
        refine T.seq ?_
        refine T.regionL (ll := [0, 1]) rfl ?_
        refine TO.assign rfl rfl rfl rfl ?_
        refine TO.assign rfl rfl rfl rfl ?_
        refine TO.done ?_
        refine X.seq_normal ?_
        refine T.ret ?_
        refine X.block_ret ?_
        refine X.then_ret ?_
        obtain ⟨rfl, rfl⟩ := ret2 H
        exact X.ret2 rfl rfl rfl rfl (Res.tmp rfl) (Res.tmp rfl) (Pick.none Pick.nil) ⟨none, 0, 0, ([]), rfl, rfl, rfl, (Nat.le_refl _), (zeroJ 0 _), (fun _ => rfl)⟩
      ·
        refine T.condF rfl (Bool.eq_false_iff.2 g9) ?_
        refine T.skip ?_
        refine X.block_normal ?_
        refine X.seq_normal ?_
        refine T.seq ?_
        obtain ⟨r10, e11, H⟩ := bd_some H
        refine T.regionL (ll := [0, 1, 2]) rfl ?_
        refine TO.move rfl rfl rfl rfl ?_
        refine TO.callX TWS3.c64 rfl rfl rfl rfl (fun wc hwc => w_slices_Clone_int64 (s0 := f1) wc (h_f1.mono hwc) e11) ?_
        rintro _ _ ⟨ob12, n13, c14, j15, rfl, rfl, hn16, hc17, hj18, hz19⟩
        refine TO.assign rfl rfl rfl rfl ?_
        refine TO.done ?_
        refine X.seq_normal ?_
        refine T.seq ?_
        obtain ⟨⟨r21, r22⟩, e23, H⟩ := bd_some H
        refine T.regionL (ll := [0, 1, 2, 3, 4, 5, 6, 7]) rfl ?_
        refine TO.loadA rfl rfl rfl rfl TWS3.a24 (List.Mem.tail _ (List.Mem.head _)) rfl ?_
        refine TO.move rfl rfl rfl rfl ?_
        refine TO.callX TWS3.c63 rfl rfl rfl rfl (fun wc hwc => w_flow_along (n0 := n0) (l1 := l2) wc (h_n0_Arcs.mono hwc) (h_l2.mono hwc) e23) ?_
        rintro _ _ ⟨ob24, rfl, rfl, hz25⟩
        refine TO.move rfl rfl rfl rfl ?_
        refine TO.extract rfl rfl rfl rfl rfl ?_
        refine TO.extract rfl rfl rfl rfl rfl ?_
        refine TO.assign rfl rfl rfl rfl ?_
        refine TO.assign rfl rfl rfl rfl ?_
        refine TO.done ?_
        refine X.seq_normal ?_
        refine T.trim (AllF.cons (t := 3) rfl (AllF.cons (t := 12) rfl (AllF.cons (t := 13) rfl AllF.nil))) ?_
        refine T.seq ?_
        refine T.seq ?_
        refine T.regionL (ll := [0, 1]) rfl ?_
        refine TO.move rfl rfl rfl rfl ?_
        refine TO.mrange (xs := r21) TWS3.m93 hz25 rfl rfl rfl rfl (List.Mem.head _) ?_; intro b27
        refine TO.done ?_
        refine X.seq_normal ?_
        refine T.meetSE1 (fun (xs38 : List Int) => m_flow_Send_j3 xs38 = some (r0, r1) ∧ xs38.length = n13) (fun (xs38 : List Int) => [(12, .slice (sb ob12) n13 c14)]) (fun (xs38 : List Int) => [(ob12, .cells (arr (intC .i64) xs38 j15).toArray 2 (0, 0))]) ?_ ?_
        ·
          refine T.block ?_
          obtain ⟨o_2, e_2, K_2⟩ := bd_some H
          refine T.loopE3 (fun (m_2 : Nat) (xs29 : List Int) (seen31 : List Nat) => loopA (fun s => altsM r21.length s.2) (fun s c => m_flow_Send_s2 d3 r21 s.1 s.2 c) m_2 (xs29, seen31) = some o_2 ∧ xs29.length = n13) (fun (m_2 : Nat) (xs29 : List Int) (seen31 : List Nat) => [(3, .int .i64 d3), (12, .slice (sb ob12) n13 c14), (45, .pointer (some ⟨b27, 0, none⟩))]) (fun (m_2 : Nat) (xs29 : List Int) (seen31 : List Nat) => [(ob12, .cells (arr (intC .i64) xs29 j15).toArray 2 (0, 0)), (ob24, mapO .i64 (Value.int .i64) r21), (some b27, iterO ob24 r21.length seen31)]) (fun (m_2 : Nat) (xs29 : List Int) (seen31 : List Nat) => m_2) FUEL r10 ([] : List Nat) ⟨e_2, hn16⟩ (AllF.cons rfl (AllF.cons rfl (AllF.cons rfl AllF.nil))) (Pick.cons (Take.tail (Take.tail (Take.head _ _))) (Pick.cons (Take.tail (Take.head _ _)) (Pick.cons (Take.head _ _) Pick.nil))) ?_
          rintro m_2 xs29 seen31 ⟨H, hn30⟩
          obtain ⟨n_2, rfl, A_2⟩ := loopA_some H
          refine T.seq ?_
          refine T.regionL (ll := [0, 1]) rfl ?_
          refine TO.mnext (xs := r21) (seen := seen31) (f := (Value.int .i64)) (q := .i64) (default : Int × Int) hz25 rfl rfl rfl rfl (List.Mem.tail _ (List.Mem.head _)) (Take.tail (Take.tail (Take.head _ _))) ?_ ?_
          · intro hc
            obtain ⟨r_2, H, C_2⟩ := A_2 none hc
            have H : m_flow_Send_s2 d3 r21 xs29 seen31 none = some r_2 := H
            unfold m_flow_Send_s2 at H
            have H := chooseN H
            refine TO.extract rfl rfl rfl rfl rfl ?_
            refine TO.done ?_
            refine X.seq_normal ?_
            refine T.seq ?_
            refine T.condF rfl rfl ?_
            refine T.exit ?_
            refine X.then_exit ?_
            have H := loopA_exitE H C_2 ▸ K_2
            refine X.then_exit ?_
            refine X.block_here ?_
            exact X.metE1 xs29 ⟨H, hn30⟩ (AllF.cons rfl AllF.nil) (Pick.cons (Take.head _ _) Pick.nil)
          · intro j32 hc g33
            obtain ⟨r_2, H, C_2⟩ := A_2 (some j32) hc
            have H : m_flow_Send_s2 d3 r21 xs29 seen31 (some j32) = some r_2 := H
            unfold m_flow_Send_s2 at H
            have H := chooseS H
            refine TO.extract rfl rfl rfl rfl rfl ?_
            refine TO.done ?_
            refine X.seq_normal ?_
            refine T.seq ?_
            refine T.condT rfl rfl ?_
            refine T.skip ?_
            refine X.seq_normal ?_
            refine T.block ?_
            refine T.seq ?_
            refine T.regionL (ll := [0, 1, 2, 3, 4]) rfl ?_
            refine TO.mentry (xs := r21) (seen := seen31) (f := (Value.int .i64)) (q := .i64) (default : Int × Int) hz25 g33 rfl rfl rfl rfl (List.Mem.tail _ (List.Mem.tail _ (List.Mem.head _))) (List.Mem.head _) ?_
            refine TO.extract rfl rfl rfl rfl rfl ?_
            refine TO.extract rfl rfl rfl rfl rfl ?_
            refine TO.assign rfl rfl rfl rfl ?_
            refine TO.assign rfl rfl rfl rfl ?_
            refine TO.done ?_
            refine X.seq_normal ?_
            obtain ⟨g34, H⟩ := gd_some H
            obtain ⟨g35, H⟩ := gd_some H
            obtain ⟨g36, H⟩ := gd_some H
            obtain ⟨g37, H⟩ := gd_some H
            refine T.regionL (ll := [0, 1, 2, 3, 4, 5, 6, 7, 8, 9]) rfl ?_
            refine TO.move rfl rfl rfl rfl ?_
            refine TO.move rfl rfl rfl rfl ?_
            refine TO.ixV hz19 hc17 hn30 g34 rfl rfl rfl rfl rfl TWS3.l25 TWS3.n2 ?_
            refine TO.ldIV hz19 hc17 hn30 g34 rfl rfl rfl rfl TWS3.s2 (List.Mem.tail _ (List.Mem.head _)) ?_
            refine TO.move rfl rfl rfl rfl ?_
            refine TO.move rfl rfl rfl rfl ?_
            refine TO.mulG g35 rfl rfl rfl rfl rfl ?_
            refine TO.addG g36 rfl rfl rfl rfl rfl ?_
            refine TO.ixV hz19 hc17 hn30 g37 rfl rfl rfl rfl rfl TWS3.l25 TWS3.n2 ?_
            refine TO.stIV hz19 hc17 hn30 g37 rfl rfl rfl rfl (Take.tail (Take.head _ _)) TWS3.n2 ?_
            refine TO.done ?_
            refine X.block_normal ?_
            have H := loopA_next H C_2
            exact X.againE3 n_2 (xs29.set ((r21.getD j32 (default : Int × Int)).1).toNat ((xs29.getD ((r21.getD j32 (default : Int × Int)).1).toNat 0) + (d3 * ((r21.getD j32 (default : Int × Int)).2)))) (seen31 ++ [j32]) ⟨H, (List.length_set.trans hn30)⟩ (Nat.lt_succ_self _) (AllF.cons rfl (AllF.cons rfl (AllF.cons rfl AllF.nil))) (Pick.cons (Take.head _ _) (Pick.cons (Take.tail (Take.head _ _)) (Pick.cons (Take.head _ _) Pick.nil)))
        · rintro xs38 ⟨H, hn39⟩
          unfold m_flow_Send_j3 at H
          refine T.seq ?_
          refine T.regionL (ll := [0, 1, 2]) rfl ?_
          refine TO.move rfl rfl rfl rfl ?_
          refine TO.assign rfl rfl rfl rfl ?_
          refine TO.assign rfl rfl rfl rfl ?_
          refine TO.done ?_
          refine X.seq_normal ?_
          refine T.ret ?_
          obtain ⟨rfl, rfl⟩ := ret2 H
          exact X.ret2 rfl rfl rfl rfl (Res.tmp rfl) (Res.tmp rfl) (Pick.cons (Take.head _ _) Pick.nil) ⟨ob12, n13, c14, j15, rfl, rfl, hn39, hc17, hj18, hz19⟩
/-- acequia/flow.Excess -/
theorem w_flow_Excess {n0 : Net} {f1 : List Int} {n0_Arcs_b : Option Addr} {n0_Arcs_n : Nat} {n0_Arcs_c : Nat} {f1_b : Option Addr} {f1_n : Nat} {f1_c : Nat} (w : World) (h_n0_Arcs : RS w [] arcC 3 n0_Arcs_b n0_Arcs_n n0_Arcs_c n0.Arcs) (h_f1 : RS w [] (intC .i64) 1 f1_b f1_n f1_c f1) {r0 : List Int} {r1 : Int} (H : m_flow_Excess n0 f1 = some (r0, r1)) : Fnc Try.prog 27 #[.agg #[.int .i64 n0.N, .int .i64 n0.S, .int .i64 n0.T, .slice n0_Arcs_b n0_Arcs_n n0_Arcs_c], .slice f1_b f1_n f1_c] w [] (fun v N => ∃ (ob_0 : Option Nat) (n_0 : Nat) (c_0 : Nat) (j_0 : List Value), v = .tuple #[.slice (sb ob_0) n_0 c_0, .int .i64 r1] ∧ N = [(ob_0, .cells (arr (intC .i64) r0 j_0).toArray 2 (0, 0))] ∧ r0.length = n_0 ∧ n_0 ≤ c_0 ∧ j_0.length = (c_0 - n_0) * 1 ∧ (ob_0 = none → c_0 = 0)) := by
  unfold m_flow_Excess at H
  refine Fnc.enter (vs := [.agg #[.int .i64 n0.N, .int .i64 n0.S, .int .i64 n0.T, .slice n0_Arcs_b n0_Arcs_n n0_Arcs_c], .slice f1_b f1_n f1_c]) Try.func27 rfl rfl (Inv.refl w) ?_
  refine T.seq ?_
  refine T.regionL (ll := [0, 1, 2]) rfl ?_
  refine TO.boxA rfl rfl rfl rfl ?_; intro b1
  refine TO.assign rfl rfl rfl rfl ?_
  refine TO.assign rfl rfl rfl rfl ?_
  refine TO.done ?_
  refine X.seq_normal ?_
  refine T.seq ?_
  refine T.seq ?_
  obtain ⟨r3, e4, H⟩ := bd_some H
  refine T.regionL (ll := [0, 1, 2, 3]) rfl ?_
  refine TO.loadA rfl rfl rfl rfl TWS3.a24 (List.Mem.head _) rfl ?_
  refine TO.move rfl rfl rfl rfl ?_
  refine TO.callX TWS3.c28 rfl rfl rfl rfl (fun wc hwc => w_flow_Within (n0 := n0) (f1 := f1) wc (h_n0_Arcs.mono hwc) (h_f1.mono hwc) e4) ?_
  rintro _ _ ⟨rfl, rfl⟩
  refine TO.not rfl rfl rfl rfl ?_
  refine TO.done ?_
  refine X.seq_normal ?_
  rcases ite_some H with ⟨g5, H⟩ | ⟨g5, H⟩
  ·
    refine T.condT rfl g5 ?_
    refine T.seq ?_
    refine T.regionL (ll := [0, 1]) rfl ?_
    refine TO.assign rfl rfl rfl rfl ?_
    refine TO.assign rfl rfl rfl rfl ?_
    refine TO.done ?_
    refine X.seq_normal ?_
    refine T.ret ?_
    refine X.then_ret ?_
    obtain ⟨rfl, rfl⟩ := ret2 H
    exact X.ret2 rfl rfl rfl rfl (Res.tmp rfl) (Res.tmp rfl) (Pick.none Pick.nil) ⟨none, 0, 0, ([]), rfl, rfl, rfl, (Nat.le_refl _), (zeroJ 0 _), (fun _ => rfl)⟩
  ·
    refine T.condF rfl (Bool.eq_false_iff.2 g5) ?_
    refine T.skip ?_
    refine X.seq_normal ?_
    refine T.seq ?_
    obtain ⟨g6, H⟩ := gd_some H
    refine T.regionL (ll := [0, 1, 2, 3]) rfl ?_
    refine TO.fieldAddr0 rfl rfl rfl rfl TWS3.f24_0 ?_
    refine TO.load1 rfl rfl rfl rfl TWS3.s3 (List.Mem.head _) rfl ?_
    refine TO.mkI g6 rfl rfl rfl rfl rfl TWS3.l25 TWS3.n2 TWS3.z2 TWS3.b2 rfl ?_; intro b7
    refine TO.assign rfl rfl rfl rfl ?_
    refine TO.done ?_
    refine X.seq_normal ?_
    refine T.trim (AllF.cons (t := 1) rfl (AllF.cons (t := 2) rfl (AllF.cons (t := 6) rfl AllF.nil))) ?_
    refine T.seq ?_
    refine T.seq ?_
    refine T.regionL (ll := [0, 1, 2, 3]) rfl ?_
    refine TO.fieldAddr0 rfl rfl rfl rfl TWS3.f24_3 ?_
    refine TO.load1 rfl rfl rfl rfl TWS3.s22 (List.Mem.tail _ (List.Mem.head _)) rfl ?_
    refine TO.lenX (xs := n0.Arcs) h_n0_Arcs.len rfl rfl rfl rfl rfl TWS3.l22 ?_
    refine TO.move rfl rfl rfl rfl ?_
    refine TO.done ?_
    refine X.seq_normal ?_
    refine T.meetSE1 (fun (xs25 : List Int) => m_flow_Excess_j2 xs25 = some (r0, r1) ∧ xs25.length = n0.N.toNat) (fun (xs25 : List Int) => [(6, .slice (some ⟨b7, 0, none⟩) n0.N.toNat n0.N.toNat)]) (fun (xs25 : List Int) => [(some b7, .cells (arr (intC .i64) xs25 ([])).toArray 2 (0, 0))]) ?_ ?_
    ·
      refine T.block ?_
      obtain ⟨o_1, e_1, K_1⟩ := bd_some H
      refine T.loopE3 (fun (m_1 : Nat) (xs9 : List Int) (x11 : Int) => loopM (fun s => m_flow_Excess_s1 n0 f1 s.1 s.2) m_1 (xs9, x11) = some o_1 ∧ xs9.length = n0.N.toNat) (fun (m_1 : Nat) (xs9 : List Int) (x11 : Int) => [(1, .slice f1_b f1_n f1_c), (6, .slice (some ⟨b7, 0, none⟩) n0.N.toNat n0.N.toNat), (17, .slice n0_Arcs_b n0_Arcs_n n0_Arcs_c), (18, .int .i64 (n0.Arcs.length : Int)), (19, .int .i64 x11)]) (fun (m_1 : Nat) (xs9 : List Int) (x11 : Int) => [(some b7, .cells (arr (intC .i64) xs9 ([])).toArray 2 (0, 0))]) (fun (m_1 : Nat) (xs9 : List Int) (x11 : Int) => m_1) FUEL (List.replicate n0.N.toNat (0 : Int)) 0 ⟨e_1, List.length_replicate⟩ (AllF.cons rfl (AllF.cons rfl (AllF.cons rfl (AllF.cons rfl (AllF.cons rfl AllF.nil))))) (Pick.cons (Take.head _ _) Pick.nil) ?_
      rintro m_1 xs9 x11 ⟨H, hn10⟩
      obtain ⟨n_1, r_1, rfl, H, C_1⟩ := loopM_some H
      have H : m_flow_Excess_s1 n0 f1 xs9 x11 = some r_1 := H
      unfold m_flow_Excess_s1 at H
      refine T.seq ?_
      refine T.regionL (ll := [0]) rfl ?_
      refine TO.bin rfl rfl rfl rfl rfl rfl ?_
      refine TO.done ?_
      refine X.seq_normal ?_
      refine T.seq ?_
      rcases ite_some H with ⟨g12, H⟩ | ⟨g12, H⟩
      ·
        refine T.condPT rfl g12 ?_
        refine T.skip ?_
        refine X.seq_normal ?_
        refine T.seq ?_
        refine T.block ?_
        refine T.seq ?_
        obtain ⟨g13, H⟩ := gd_some H
        refine T.regionL (ll := [0, 1, 2, 3, 4, 5]) rfl ?_
        refine TO.move rfl rfl rfl rfl ?_
        refine TO.ixR h_n0_Arcs g13 rfl rfl rfl rfl rfl TWS3.l22 TWS3.n28 ?_
        refine TO.ldSR (cs := [.int .i64 ((n0.Arcs.getD x11.toNat default).fr), .int .i64 ((n0.Arcs.getD x11.toNat default).to), .int .i64 ((n0.Arcs.getD x11.toNat default).cap)]) default h_n0_Arcs g13 rfl rfl rfl rfl rfl TWS3.a28 ?_
        refine TO.allocA rfl rfl rfl TWS3.z28 ?_; intro b14
        refine TO.assign rfl rfl rfl rfl ?_
        refine TO.storeA rfl rfl rfl rfl (Take.head _ _) TWS3.n28 rfl rfl rfl ?_
        refine TO.done ?_
        refine X.seq_normal ?_
        refine T.seq ?_
        obtain ⟨g16, H⟩ := gd_some H
        obtain ⟨g17, H⟩ := gd_some H
        obtain ⟨g18, H⟩ := gd_some H
        obtain ⟨g19, H⟩ := gd_some H
        apply T.drawQT [(24, _), (25, _), (26, _), (27, _), (28, _), (29, _), (30, _), (31, _), (32, _)]
        · exact mixed
        · kernel_rfl
        · kernel_rfl
        · exact rfl
        · exact rfl
        · refine ⟨?_, ?_, ?_, ?_, ?_, ?_, ?_, ?_, ?_, trivial⟩
          · intro Es
            refine TO.move rfl rfl rfl rfl ?_
            exact TO.done (X.ob rfl (Pick.refl _))
          · intro Es
            refine TO.fieldAddr0 rfl rfl rfl rfl TWS3.f28_0 ?_
            exact TO.done (X.ob rfl (Pick.refl _))
          · intro Es
            refine TO.load1 rfl rfl rfl rfl TWS3.s3 (List.Mem.head _) rfl ?_
            exact TO.done (X.ob rfl (Pick.refl _))
          · intro Es
            refine TO.ix1 hn10 g16 rfl rfl rfl rfl rfl TWS3.l25 TWS3.n2 ?_
            exact TO.done (X.ob rfl (Pick.refl _))
          · intro Es
            refine TO.ldIO g16 rfl rfl rfl rfl TWS3.s2 (List.Mem.tail _ (List.Mem.head _)) ?_
            exact TO.done (X.ob rfl (Pick.refl _))
          · intro Es
            refine TO.move rfl rfl rfl rfl ?_
            exact TO.done (X.ob rfl (Pick.refl _))
          · intro Es
            refine TO.move rfl rfl rfl rfl ?_
            exact TO.done (X.ob rfl (Pick.refl _))
          · intro Es
            refine TO.ixR h_f1 g17 rfl rfl rfl rfl rfl TWS3.l25 TWS3.n2 ?_
            exact TO.done (X.ob rfl (Pick.refl _))
          · intro Es
            refine TO.ldIR h_f1 g17 rfl rfl rfl rfl TWS3.s2 ?_
            exact TO.done (X.ob rfl (Pick.refl _))
        refine TO.subG g18 rfl rfl rfl rfl rfl ?_
        refine TO.ix1 hn10 g19 rfl rfl rfl rfl rfl TWS3.l25 TWS3.n2 ?_
        refine TO.stIO g19 rfl rfl rfl rfl (Take.tail (Take.head _ _)) TWS3.n2 ?_
        refine TO.done ?_
        refine X.seq_normal ?_
        refine T.trim (AllF.cons (t := 1) rfl (AllF.cons (t := 6) rfl (AllF.cons (t := 17) rfl (AllF.cons (t := 18) rfl (AllF.cons (t := 19) rfl (AllF.cons (t := 8) rfl (AllF.cons (t := 7) rfl AllF.nil))))))) ?_
        obtain ⟨g20, H⟩ := gd_some H
        obtain ⟨g21, H⟩ := gd_some H
        obtain ⟨g22, H⟩ := gd_some H
        obtain ⟨g23, H⟩ := gd_some H
        apply T.drawQT [(35, _), (36, _), (37, _), (38, _), (39, _), (40, _), (41, _), (42, _), (43, _)]
        · exact mixed
        · kernel_rfl
        · kernel_rfl
        · exact rfl
        · exact rfl
        · refine ⟨?_, ?_, ?_, ?_, ?_, ?_, ?_, ?_, ?_, trivial⟩
          · intro Es
            refine TO.move rfl rfl rfl rfl ?_
            exact TO.done (X.ob rfl (Pick.refl _))
          · intro Es
            refine TO.fieldAddr0 rfl rfl rfl rfl TWS3.f28_1 ?_
            exact TO.done (X.ob rfl (Pick.refl _))
          · intro Es
            refine TO.load1 rfl rfl rfl rfl TWS3.s3 (List.Mem.tail _ (List.Mem.head _)) rfl ?_
            exact TO.done (X.ob rfl (Pick.refl _))
          · intro Es
            refine TO.ix1 (List.length_set.trans hn10) g20 rfl rfl rfl rfl rfl TWS3.l25 TWS3.n2 ?_
            exact TO.done (X.ob rfl (Pick.refl _))
          · intro Es
            refine TO.ldIO g20 rfl rfl rfl rfl TWS3.s2 (List.Mem.head _) ?_
            exact TO.done (X.ob rfl (Pick.refl _))
          · intro Es
            refine TO.move rfl rfl rfl rfl ?_
            exact TO.done (X.ob rfl (Pick.refl _))
          · intro Es
            refine TO.move rfl rfl rfl rfl ?_
            exact TO.done (X.ob rfl (Pick.refl _))
          · intro Es
            refine TO.ixR h_f1 g21 rfl rfl rfl rfl rfl TWS3.l25 TWS3.n2 ?_
            exact TO.done (X.ob rfl (Pick.refl _))
          · intro Es
            refine TO.ldIR h_f1 g21 rfl rfl rfl rfl TWS3.s2 ?_
            exact TO.done (X.ob rfl (Pick.refl _))
        refine TO.addG g22 rfl rfl rfl rfl rfl ?_
        refine TO.ix1 (List.length_set.trans hn10) g23 rfl rfl rfl rfl rfl TWS3.l25 TWS3.n2 ?_
        refine TO.stIO g23 rfl rfl rfl rfl (Take.head _ _) TWS3.n2 ?_
        refine TO.done ?_
        refine X.block_normal ?_
        refine X.seq_normal ?_
        refine T.trim (AllF.cons (t := 1) rfl (AllF.cons (t := 6) rfl (AllF.cons (t := 17) rfl (AllF.cons (t := 18) rfl (AllF.cons (t := 19) rfl AllF.nil))))) ?_
        obtain ⟨g24, H⟩ := gd_some H
        refine T.regionL (ll := [0, 1]) rfl ?_
        refine TO.addG g24 rfl rfl rfl rfl rfl ?_
        refine TO.move rfl rfl rfl rfl ?_
        refine TO.done ?_
        have H := loop_next H C_1
        exact X.againE3 n_1 ((xs9.set ((n0.Arcs.getD x11.toNat default).fr).toNat ((xs9.getD ((n0.Arcs.getD x11.toNat default).fr).toNat 0) - (f1.getD x11.toNat 0))).set ((n0.Arcs.getD x11.toNat default).to).toNat (((xs9.set ((n0.Arcs.getD x11.toNat default).fr).toNat ((xs9.getD ((n0.Arcs.getD x11.toNat default).fr).toNat 0) - (f1.getD x11.toNat 0))).getD ((n0.Arcs.getD x11.toNat default).to).toNat 0) + (f1.getD x11.toNat 0))) (x11 + 1) ⟨H, (List.length_set.trans (List.length_set.trans hn10))⟩ (Nat.lt_succ_self _) (AllF.cons rfl (AllF.cons rfl (AllF.cons rfl (AllF.cons rfl (AllF.cons rfl AllF.nil))))) (Pick.cons (Take.head _ _) Pick.nil)
      ·
        refine T.condPF rfl g12 ?_
        refine T.exit ?_
        refine X.then_exit ?_
        have H := loop_exitE H C_1 ▸ K_1
        refine X.then_exit ?_
        refine X.block_here ?_
        exact X.metE1 xs9 ⟨H, hn10⟩ (AllF.cons rfl AllF.nil) (Pick.cons (Take.head _ _) Pick.nil)
    · rintro xs25 ⟨H, hn26⟩
      unfold m_flow_Excess_j2 at H
      refine T.seq ?_
      refine T.regionL (ll := [0, 1, 2]) rfl ?_
      refine TO.move rfl rfl rfl rfl ?_
      refine TO.assign rfl rfl rfl rfl ?_
      refine TO.assign rfl rfl rfl rfl ?_
      refine TO.done ?_
      refine X.seq_normal ?_
      refine T.ret ?_
      obtain ⟨rfl, rfl⟩ := ret2 H
      exact X.ret2 rfl rfl rfl rfl (Res.tmp rfl) (Res.tmp rfl) (Pick.cons (Take.head _ _) Pick.nil) ⟨(some b7), n0.N.toNat, n0.N.toNat, ([]), rfl, rfl, hn26, (Nat.le_refl _), (zeroJ _ _), someZ⟩
/-- acequia/flow.Pre$1 -/
theorem w_flow_Pre_1 {x0 : Int} (w : World) {r0 : Bool} (H : m_flow_Pre_1 x0 = some r0) : Fnc Try.prog 61 #[.int .i64 x0] w [] (fun v N => v = .bool r0 ∧ N = []) := by
  unfold m_flow_Pre_1 at H
  refine Fnc.enter (vs := [.int .i64 x0]) Try.func61 rfl rfl (Inv.refl w) ?_
  refine T.seq ?_
  refine T.regionL (ll := [0]) rfl ?_
  refine TO.assign rfl rfl rfl rfl ?_
  refine TO.done ?_
  refine X.seq_normal ?_
  refine T.seq ?_
  refine T.regionL (ll := [0, 1, 2]) rfl ?_
  refine TO.move rfl rfl rfl rfl ?_
  refine TO.bin rfl rfl rfl rfl rfl rfl ?_
  refine TO.assign rfl rfl rfl rfl ?_
  refine TO.done ?_
  refine X.seq_normal ?_
  refine T.ret ?_
  obtain rfl := ret1 H
  exact X.ret1 rfl rfl rfl rfl (Res.tmp rfl) Pick.nil ⟨rfl, rfl⟩
/-- slices.Index[[]int,int] -/
theorem w_slices_Index_int {s0 : List Int} {v1 : Int} {s0_b : Option Addr} {s0_n : Nat} {s0_c : Nat} (w : World) (h_s0 : RS w [] (intC .i64) 1 s0_b s0_n s0_c s0) {r0 : Int} (H : m_slices_Index_int s0 v1 = some r0) : Fnc Try.prog 94 #[.slice s0_b s0_n s0_c, .int .i64 v1] w [] (fun v N => v = .int .i64 r0 ∧ N = []) := by
  unfold m_slices_Index_int at H
  refine Fnc.enter (vs := [.slice s0_b s0_n s0_c, .int .i64 v1]) Try.func94 rfl rfl (Inv.refl w) ?_
  refine T.seq ?_
  refine T.regionL (ll := [0]) rfl ?_
  refine TO.assign rfl rfl rfl rfl ?_
  refine TO.done ?_
  refine X.seq_normal ?_
  refine T.seq ?_
  refine T.seq ?_
  refine T.regionL (ll := [0, 1, 2]) rfl ?_
  refine TO.move rfl rfl rfl rfl ?_
  refine TO.lenX (xs := s0) h_s0.len rfl rfl rfl rfl rfl TWS3.l30 ?_
  refine TO.move rfl rfl rfl rfl ?_
  refine TO.done ?_
  refine X.seq_normal ?_
  refine T.meetSE1 (fun (u6 : Unit) => m_slices_Index_int_j2 = some r0) (fun (u6 : Unit) => []) (fun (u6 : Unit) => []) ?_ ?_
  ·
    refine T.block ?_
    obtain ⟨o_1, e_1, K_1⟩ := bd_some H
    refine T.loopE2 (fun (m_1 : Nat) (x1 : Int) => loopM (fun s => m_slices_Index_int_s1 s0 v1 s) m_1 x1 = some o_1) (fun (m_1 : Nat) (x1 : Int) => [(0, .slice s0_b s0_n s0_c), (1, .int .i64 v1), (7, .int .i64 (s0.length : Int)), (8, .int .i64 x1)]) (fun (m_1 : Nat) (x1 : Int) => []) (fun (m_1 : Nat) (x1 : Int) => m_1) FUEL 0 e_1 (AllF.cons rfl (AllF.cons rfl (AllF.cons rfl (AllF.cons rfl AllF.nil)))) Pick.nil ?_
    rintro m_1 x1 H
    obtain ⟨n_1, r_1, rfl, H, C_1⟩ := loopM_some H
    have H : m_slices_Index_int_s1 s0 v1 x1 = some r_1 := H
    unfold m_slices_Index_int_s1 at H
    refine T.seq ?_
    refine T.regionL (ll := [0]) rfl ?_
    refine TO.bin rfl rfl rfl rfl rfl rfl ?_
    refine TO.done ?_
    refine X.seq_normal ?_
    refine T.seq ?_
    rcases ite_some H with ⟨g2, H⟩ | ⟨g2, H⟩
    ·
      refine T.condPT rfl g2 ?_
      refine T.skip ?_
      refine X.seq_normal ?_
      refine T.seq ?_
      refine T.block ?_
      refine T.seq ?_
      refine T.regionL (ll := [0, 1]) rfl ?_
      refine TO.move rfl rfl rfl rfl ?_
      refine TO.assign rfl rfl rfl rfl ?_
      refine TO.done ?_
      refine X.seq_normal ?_
      refine T.seq ?_
      obtain ⟨g3, H⟩ := gd_some H
      refine T.regionL (ll := [0, 1, 2, 3, 4, 5]) rfl ?_
      refine TO.move rfl rfl rfl rfl ?_
      refine TO.move rfl rfl rfl rfl ?_
      refine TO.move rfl rfl rfl rfl ?_
      refine TO.ixR h_s0 g3 rfl rfl rfl rfl rfl TWS3.l30 TWS3.n3 ?_
      refine TO.ldIR h_s0 g3 rfl rfl rfl rfl TWS3.s3 ?_
      refine TO.bin rfl rfl rfl rfl rfl rfl ?_
      refine TO.done ?_
      refine X.seq_normal ?_
      rcases ite_some H with ⟨g4, H⟩ | ⟨g4, H⟩
      ·
        refine T.condPT rfl g4 ?_
        refine T.seq ?_
        refine T.regionL (ll := [0, 1]) rfl ?_
        refine TO.move rfl rfl rfl rfl ?_
        refine TO.assign rfl rfl rfl rfl ?_
        refine TO.done ?_
        refine X.seq_normal ?_
        refine T.trim (AllF.cons (t := 4) rfl AllF.nil) ?_
        refine T.ret ?_
        refine X.block_ret ?_
        refine X.then_ret ?_
        have H := loop_exitE H C_1 ▸ K_1
        refine X.then_ret ?_
        refine X.block_ret ?_
        refine X.then_ret ?_
        obtain rfl := ret1 H
        exact X.ret1 rfl rfl rfl rfl (Res.tmp rfl) Pick.nil ⟨rfl, rfl⟩
      ·
        refine T.condPF rfl g4 ?_
        refine T.skip ?_
        refine X.block_normal ?_
        refine X.seq_normal ?_
        refine T.trim (AllF.cons (t := 0) rfl (AllF.cons (t := 1) rfl (AllF.cons (t := 7) rfl (AllF.cons (t := 8) rfl AllF.nil)))) ?_
        obtain ⟨g5, H⟩ := gd_some H
        refine T.regionL (ll := [0, 1]) rfl ?_
        refine TO.addG g5 rfl rfl rfl rfl rfl ?_
        refine TO.move rfl rfl rfl rfl ?_
        refine TO.done ?_
        have H := loop_next H C_1
        exact X.againE2 n_1 (x1 + 1) H (Nat.lt_succ_self _) (AllF.cons rfl (AllF.cons rfl (AllF.cons rfl (AllF.cons rfl AllF.nil)))) Pick.nil
    ·
      refine T.condPF rfl g2 ?_
      refine T.exit ?_
      refine X.then_exit ?_
      have H := loop_exitE H C_1 ▸ K_1
      refine X.then_exit ?_
      refine X.block_here ?_
      exact X.metE1 () H AllF.nil Pick.nil
  · rintro u6 H
    unfold m_slices_Index_int_j2 at H
    refine T.seq ?_
    refine T.regionL (ll := [0]) rfl ?_
    refine TO.assign rfl rfl rfl rfl ?_
    refine TO.done ?_
    refine X.seq_normal ?_
    refine T.ret ?_
    obtain rfl := ret1 H
    exact X.ret1 rfl rfl rfl rfl (Res.tmp rfl) Pick.nil ⟨rfl, rfl⟩
/-- slices.Contains[[]int,int] -/
theorem w_slices_Contains_int {s0 : List Int} {v1 : Int} {s0_b : Option Addr} {s0_n : Nat} {s0_c : Nat} (w : World) (h_s0 : RS w [] (intC .i64) 1 s0_b s0_n s0_c s0) {r0 : Bool} (H : m_slices_Contains_int s0 v1 = some r0) : Fnc Try.prog 80 #[.slice s0_b s0_n s0_c, .int .i64 v1] w [] (fun v N => v = .bool r0 ∧ N = []) := by
  unfold m_slices_Contains_int at H
  refine Fnc.enter (vs := [.slice s0_b s0_n s0_c, .int .i64 v1]) Try.func80 rfl rfl (Inv.refl w) ?_
  refine T.seq ?_
  refine T.regionL (ll := [0]) rfl ?_
  refine TO.assign rfl rfl rfl rfl ?_
  refine TO.done ?_
  refine X.seq_normal ?_
  refine T.seq ?_
  obtain ⟨r1, e2, H⟩ := bd_some H
  refine T.regionL (ll := [0, 1, 2, 3, 4]) rfl ?_
  refine TO.move rfl rfl rfl rfl ?_
  refine TO.move rfl rfl rfl rfl ?_
  refine TO.callX TWS3.c94 rfl rfl rfl rfl (fun wc hwc => w_slices_Index_int (s0 := s0) (v1 := v1) wc (h_s0.mono hwc) e2) ?_
  rintro _ _ ⟨rfl, rfl⟩
  refine TO.bin rfl rfl rfl rfl rfl rfl ?_
  refine TO.assign rfl rfl rfl rfl ?_
  refine TO.done ?_
  refine X.seq_normal ?_
  refine T.ret ?_
  obtain rfl := ret1 H
  exact X.ret1 rfl rfl rfl rfl (Res.tmp rfl) Pick.nil ⟨rfl, rfl⟩
/-- acequia/flow.all -/
theorem w_flow_all_Pre_1 {n0 : Net} {f1 : List Int} {but3 : List Int} {n0_Arcs_b : Option Addr} {n0_Arcs_n : Nat} {n0_Arcs_c : Nat} {f1_b : Option Addr} {f1_n : Nat} {f1_c : Nat} {but3_b : Option Addr} {but3_n : Nat} {but3_c : Nat} (w : World) (h_n0_Arcs : RS w [] arcC 3 n0_Arcs_b n0_Arcs_n n0_Arcs_c n0.Arcs) (h_f1 : RS w [] (intC .i64) 1 f1_b f1_n f1_c f1) (h_but3 : RS w [] (intC .i64) 1 but3_b but3_n but3_c but3) {r0 : Bool} (H : m_flow_all_Pre_1 n0 f1 but3 = some r0) : Fnc Try.prog 60 #[.agg #[.int .i64 n0.N, .int .i64 n0.S, .int .i64 n0.T, .slice n0_Arcs_b n0_Arcs_n n0_Arcs_c], .slice f1_b f1_n f1_c, .func (.func 61) #[] #[], .slice but3_b but3_n but3_c] w [] (fun v N => v = .bool r0 ∧ N = []) := by
  unfold m_flow_all_Pre_1 at H
  refine Fnc.enter (vs := [.agg #[.int .i64 n0.N, .int .i64 n0.S, .int .i64 n0.T, .slice n0_Arcs_b n0_Arcs_n n0_Arcs_c], .slice f1_b f1_n f1_c, .func (.func 61) #[] #[], .slice but3_b but3_n but3_c]) Try.func60 rfl rfl (Inv.refl w) ?_
  refine T.seq ?_
  refine T.regionL (ll := [0, 1]) rfl ?_
  refine TO.boxA rfl rfl rfl rfl ?_; intro b1
  refine TO.assign rfl rfl rfl rfl ?_
  refine TO.done ?_
  refine X.seq_normal ?_
  refine T.seq ?_
  obtain ⟨⟨r3, r4⟩, e5, H⟩ := bd_some H
  refine T.regionL (ll := [0, 1, 2, 3, 4, 5, 6, 7]) rfl ?_
  refine TO.loadA rfl rfl rfl rfl TWS3.a24 (List.Mem.head _) rfl ?_
  refine TO.move rfl rfl rfl rfl ?_
  refine TO.callX TWS3.c27 rfl rfl rfl rfl (fun wc hwc => w_flow_Excess (n0 := n0) (f1 := f1) wc (h_n0_Arcs.mono hwc) (h_f1.mono hwc) e5) ?_
  rintro _ _ ⟨ob6, n7, c8, j9, rfl, rfl, hn10, hc11, hj12, hz13⟩
  refine TO.move rfl rfl rfl rfl ?_
  refine TO.extract rfl rfl rfl rfl rfl ?_
  refine TO.extract rfl rfl rfl rfl rfl ?_
  refine TO.assign rfl rfl rfl rfl ?_
  refine TO.assign rfl rfl rfl rfl ?_
  refine TO.done ?_
  refine X.seq_normal ?_
  refine T.trim (AllF.cons (t := 2) rfl (AllF.cons (t := 3) rfl (AllF.cons (t := 9) rfl (AllF.cons (t := 10) rfl AllF.nil)))) ?_
  refine T.seq ?_
  refine T.seq ?_
  refine T.regionL (ll := [0, 1, 2]) rfl ?_
  refine TO.move rfl rfl rfl rfl ?_
  refine TO.lenX (xs := r3) hn10 rfl rfl rfl rfl rfl TWS3.l25 ?_
  refine TO.move rfl rfl rfl rfl ?_
  refine TO.done ?_
  refine X.seq_normal ?_
  refine T.meetSE1 (fun (u26 : Unit) => m_flow_all_Pre_1_j2 r4 = some r0) (fun (u26 : Unit) => [(10, .int .i64 r4)]) (fun (u26 : Unit) => []) ?_ ?_
  ·
    refine T.block ?_
    obtain ⟨o_1, e_1, K_1⟩ := bd_some H
    refine T.loopE2 (fun (m_1 : Nat) (x15 : Int) => loopM (fun s => m_flow_all_Pre_1_s1 but3 r3 s) m_1 x15 = some o_1) (fun (m_1 : Nat) (x15 : Int) => [(2, .func (.func 61) #[] #[]), (3, .slice but3_b but3_n but3_c), (10, .int .i64 r4), (19, .slice (sb ob6) n7 c8), (20, .int .i64 (r3.length : Int)), (21, .int .i64 x15)]) (fun (m_1 : Nat) (x15 : Int) => [(ob6, .cells (arr (intC .i64) r3 j9).toArray 2 (0, 0))]) (fun (m_1 : Nat) (x15 : Int) => m_1) FUEL 0 e_1 (AllF.cons rfl (AllF.cons rfl (AllF.cons rfl (AllF.cons rfl (AllF.cons rfl (AllF.cons rfl AllF.nil)))))) (Pick.cons (Take.head _ _) Pick.nil) ?_
    rintro m_1 x15 H
    obtain ⟨n_1, r_1, rfl, H, C_1⟩ := loopM_some H
    have H : m_flow_all_Pre_1_s1 but3 r3 x15 = some r_1 := H
    unfold m_flow_all_Pre_1_s1 at H
    refine T.seq ?_
    refine T.regionL (ll := [0]) rfl ?_
    refine TO.bin rfl rfl rfl rfl rfl rfl ?_
    refine TO.done ?_
    refine X.seq_normal ?_
    refine T.seq ?_
    rcases ite_some H with ⟨g16, H⟩ | ⟨g16, H⟩
    ·
      refine T.condPT rfl g16 ?_
      refine T.skip ?_
      refine X.seq_normal ?_
      refine T.seq ?_
      refine T.block ?_
      refine T.seq ?_
      obtain ⟨g17, H⟩ := gd_some H
      refine T.regionL (ll := [0, 1, 2, 3, 4]) rfl ?_
      refine TO.move rfl rfl rfl rfl ?_
      refine TO.ixV hz13 hc11 hn10 g17 rfl rfl rfl rfl rfl TWS3.l25 TWS3.n2 ?_
      refine TO.ldIV hz13 hc11 hn10 g17 rfl rfl rfl rfl TWS3.s2 (List.Mem.head _) ?_
      refine TO.assign rfl rfl rfl rfl ?_
      refine TO.assign rfl rfl rfl rfl ?_
      refine TO.done ?_
      refine X.seq_normal ?_
      refine T.seq ?_
      obtain ⟨r18, e19, H⟩ := bd_some H
      rcases ite_some H with ⟨g20, H⟩ | ⟨g20, H⟩
      ·
        obtain ⟨r21, e22, H⟩ := bd_some H
        refine T.regionL (ll := [0, 1, 2, 3, 4, 5, 6, 7, 8, 9]) rfl ?_
        refine TO.move rfl rfl rfl rfl ?_
        refine TO.move rfl rfl rfl rfl ?_
        refine TO.callVX TWS3.c61 rfl rfl rfl rfl rfl (fun wc hwc => w_flow_Pre_1 (x0 := (r3.getD x15.toNat 0)) wc  e19) ?_
        rintro _ _ ⟨rfl, rfl⟩
        refine TO.not rfl rfl rfl rfl ?_
        refine TO.move rfl rfl rfl rfl ?_
        refine TO.decB (t := 30) (b' := true) rfl g20 ?_
        refine TO.move rfl rfl rfl rfl ?_
        refine TO.move rfl rfl rfl rfl ?_
        refine TO.callX TWS3.c80 rfl rfl rfl rfl (fun wc hwc => w_slices_Contains_int (s0 := but3) (v1 := x15) wc (h_but3.mono hwc) e22) ?_
        rintro _ _ ⟨rfl, rfl⟩
        refine TO.not rfl rfl rfl rfl ?_
        refine TO.pickT rfl rfl rfl rfl rfl ?_
        refine TO.done ?_
        refine X.seq_normal ?_
        refine T.trim (AllF.cons (t := 2) rfl (AllF.cons (t := 3) rfl (AllF.cons (t := 10) rfl (AllF.cons (t := 19) rfl (AllF.cons (t := 20) rfl (AllF.cons (t := 21) rfl (AllF.cons (t := 31) rfl (AllF.cons (t := 32) rfl (AllF.cons (t := 33) rfl (AllF.cons (t := 34) rfl (AllF.cons (t := 35) rfl AllF.nil))))))))))) ?_
        rcases ite_some H with ⟨g23, H⟩ | ⟨g23, H⟩
        ·
          refine T.condT rfl g23 ?_
          refine T.seq ?_
          refine T.regionL (ll := [0]) rfl ?_
          refine TO.assign rfl rfl rfl rfl ?_
          refine TO.done ?_
          refine X.seq_normal ?_
          refine T.trim (AllF.cons (t := 8) rfl AllF.nil) ?_
          refine T.ret ?_
          refine X.block_ret ?_
          refine X.then_ret ?_
          have H := loop_exitE H C_1 ▸ K_1
          refine X.then_ret ?_
          refine X.block_ret ?_
          refine X.then_ret ?_
          obtain rfl := ret1 H
          exact X.ret1 rfl rfl rfl rfl (Res.tmp rfl) Pick.nil ⟨rfl, rfl⟩
        ·
          refine T.condF rfl (Bool.eq_false_iff.2 g23) ?_
          refine T.skip ?_
          refine X.block_normal ?_
          refine X.seq_normal ?_
          obtain ⟨g24, H⟩ := gd_some H
          refine T.regionL (ll := [0, 1]) rfl ?_
          refine TO.addG g24 rfl rfl rfl rfl rfl ?_
          refine TO.move rfl rfl rfl rfl ?_
          refine TO.done ?_
          have H := loop_next H C_1
          exact X.againE2 n_1 (x15 + 1) H (Nat.lt_succ_self _) (AllF.cons rfl (AllF.cons rfl (AllF.cons rfl (AllF.cons rfl (AllF.cons rfl (AllF.cons rfl AllF.nil)))))) (Pick.cons (Take.head _ _) Pick.nil)
      ·
        refine T.regionL (ll := [0, 1, 2, 3, 4, 5, 6, 7, 8, 9]) rfl ?_
        refine TO.move rfl rfl rfl rfl ?_
        refine TO.move rfl rfl rfl rfl ?_
        refine TO.callVX TWS3.c61 rfl rfl rfl rfl rfl (fun wc hwc => w_flow_Pre_1 (x0 := (r3.getD x15.toNat 0)) wc  e19) ?_
        rintro _ _ ⟨rfl, rfl⟩
        refine TO.not rfl rfl rfl rfl ?_
        refine TO.move rfl rfl rfl rfl ?_
        refine TO.decB (t := 30) (b' := false) rfl (Bool.eq_false_iff.2 g20) ?_
        refine TO.shut rfl rfl rfl rfl ?_
        refine TO.shut rfl rfl rfl rfl ?_
        refine TO.shut rfl rfl rfl rfl ?_
        refine TO.shut rfl rfl rfl rfl ?_
        refine TO.pickF rfl rfl rfl rfl rfl ?_
        refine TO.done ?_
        refine X.seq_normal ?_
        refine T.trim (AllF.cons (t := 2) rfl (AllF.cons (t := 3) rfl (AllF.cons (t := 10) rfl (AllF.cons (t := 19) rfl (AllF.cons (t := 20) rfl (AllF.cons (t := 21) rfl (AllF.cons (t := 31) rfl (AllF.cons (t := 32) rfl (AllF.cons (t := 33) rfl (AllF.cons (t := 34) rfl (AllF.cons (t := 35) rfl AllF.nil))))))))))) ?_
        refine T.condF rfl rfl ?_
        refine T.skip ?_
        refine X.block_normal ?_
        refine X.seq_normal ?_
        obtain ⟨g25, H⟩ := gd_some H
        refine T.regionL (ll := [0, 1]) rfl ?_
        refine TO.addG g25 rfl rfl rfl rfl rfl ?_
        refine TO.move rfl rfl rfl rfl ?_
        refine TO.done ?_
        have H := loop_next H C_1
        exact X.againE2 n_1 (x15 + 1) H (Nat.lt_succ_self _) (AllF.cons rfl (AllF.cons rfl (AllF.cons rfl (AllF.cons rfl (AllF.cons rfl (AllF.cons rfl AllF.nil)))))) (Pick.cons (Take.head _ _) Pick.nil)
    ·
      refine T.condPF rfl g16 ?_
      refine T.exit ?_
      refine X.then_exit ?_
      have H := loop_exitE H C_1 ▸ K_1
      refine X.then_exit ?_
      refine X.block_here ?_
      exact X.metE1 () H (AllF.cons rfl AllF.nil) Pick.nil
  · rintro u26 H
    unfold m_flow_all_Pre_1_j2 at H
    refine T.seq ?_
    refine T.regionL (ll := [0, 1, 2]) rfl ?_
    refine TO.move rfl rfl rfl rfl ?_
    refine TO.bin rfl rfl rfl rfl rfl rfl ?_
    refine TO.assign rfl rfl rfl rfl ?_
    refine TO.done ?_
    refine X.seq_normal ?_
    refine T.ret ?_
    obtain rfl := ret1 H
    exact X.ret1 rfl rfl rfl rfl (Res.tmp rfl) Pick.nil ⟨rfl, rfl⟩
/-- acequia/flow.Pre -/
theorem w_flow_Pre {n0 : Net} {f1 : List Int} {n0_Arcs_b : Option Addr} {n0_Arcs_n : Nat} {n0_Arcs_c : Nat} {f1_b : Option Addr} {f1_n : Nat} {f1_c : Nat} (w : World) (h_n0_Arcs : RS w [] arcC 3 n0_Arcs_b n0_Arcs_n n0_Arcs_c n0.Arcs) (h_f1 : RS w [] (intC .i64) 1 f1_b f1_n f1_c f1) {r0 : Bool} (H : m_flow_Pre n0 f1 = some r0) : Fnc Try.prog 30 #[.agg #[.int .i64 n0.N, .int .i64 n0.S, .int .i64 n0.T, .slice n0_Arcs_b n0_Arcs_n n0_Arcs_c], .slice f1_b f1_n f1_c] w [] (fun v N => v = .bool r0 ∧ N = []) := by
  unfold m_flow_Pre at H
  refine Fnc.enter (vs := [.agg #[.int .i64 n0.N, .int .i64 n0.S, .int .i64 n0.T, .slice n0_Arcs_b n0_Arcs_n n0_Arcs_c], .slice f1_b f1_n f1_c]) Try.func30 rfl rfl (Inv.refl w) ?_
  refine T.seq ?_
  refine T.regionL (ll := [0, 1]) rfl ?_
  refine TO.boxA rfl rfl rfl rfl ?_; intro b1
  refine TO.assign rfl rfl rfl rfl ?_
  refine TO.done ?_
  refine X.seq_normal ?_
  refine T.seq ?_
  obtain ⟨r5, e6, H⟩ := bd_some H
  refine T.regionL (ll := [0, 1, 2, 3, 4, 5, 6]) rfl ?_
  refine TO.loadA rfl rfl rfl rfl TWS3.a24 (List.Mem.head _) rfl ?_
  refine TO.move rfl rfl rfl rfl ?_
  refine TO.fieldAddr0 rfl rfl rfl rfl TWS3.f24_1 ?_
  refine TO.load1 rfl rfl rfl rfl TWS3.s3 (List.Mem.head _) rfl ?_
  refine TO.buildSliceS [.int .i64 0] [0] rfl rfl rfl rfl TWS3.l30 TWS3.n3 TWS3.z3 rfl rfl (by simp only [setAll, setCells, Value.cells, List.toList_toArray, List.getD_cons_zero, List.getD_cons_succ, List.set_cons_zero, List.set_cons_succ]; rfl) (by kernel_rfl) ?_; intro b3
  refine TO.callX TWS3.c60 rfl rfl rfl rfl (fun wc hwc => w_flow_all_Pre_1 (n0 := n0) (f1 := f1) (but3 := [n0.S]) wc (h_n0_Arcs.mono hwc) (h_f1.mono hwc) (hwc.rs (f := (intC .i64)) (s := 1) (xs := [n0.S]) (j := ([])) (fun _ => rfl) (List.Mem.head _) rfl (Nat.le_refl _) someZ) e6) ?_
  rintro _ _ ⟨rfl, rfl⟩
  refine TO.assign rfl rfl rfl rfl ?_
  refine TO.done ?_
  refine X.seq_normal ?_
  refine T.trim (AllF.cons (t := 4) rfl AllF.nil) ?_
  refine T.ret ?_
  obtain rfl := ret1 H
  exact X.ret1 rfl rfl rfl rfl (Res.tmp rfl) Pick.nil ⟨rfl, rfl⟩
/-- acequia/flow.Right$1 -/
theorem w_flow_Right_1 {x0 : Int} (w : World) {r0 : Bool} (H : m_flow_Right_1 x0 = some r0) : Fnc Try.prog 62 #[.int .i64 x0] w [] (fun v N => v = .bool r0 ∧ N = []) := by
  unfold m_flow_Right_1 at H
  refine Fnc.enter (vs := [.int .i64 x0]) Try.func62 rfl rfl (Inv.refl w) ?_
  refine T.seq ?_
  refine T.regionL (ll := [0]) rfl ?_
  refine TO.assign rfl rfl rfl rfl ?_
  refine TO.done ?_
  refine X.seq_normal ?_
  refine T.seq ?_
  refine T.regionL (ll := [0, 1, 2]) rfl ?_
  refine TO.move rfl rfl rfl rfl ?_
  refine TO.bin rfl rfl rfl rfl rfl rfl ?_
  refine TO.assign rfl rfl rfl rfl ?_
  refine TO.done ?_
  refine X.seq_normal ?_
  refine T.ret ?_
  obtain rfl := ret1 H
  exact X.ret1 rfl rfl rfl rfl (Res.tmp rfl) Pick.nil ⟨rfl, rfl⟩
/-- acequia/flow.all -/
theorem w_flow_all_Right_1 {n0 : Net} {f1 : List Int} {but3 : List Int} {n0_Arcs_b : Option Addr} {n0_Arcs_n : Nat} {n0_Arcs_c : Nat} {f1_b : Option Addr} {f1_n : Nat} {f1_c : Nat} {but3_b : Option Addr} {but3_n : Nat} {but3_c : Nat} (w : World) (h_n0_Arcs : RS w [] arcC 3 n0_Arcs_b n0_Arcs_n n0_Arcs_c n0.Arcs) (h_f1 : RS w [] (intC .i64) 1 f1_b f1_n f1_c f1) (h_but3 : RS w [] (intC .i64) 1 but3_b but3_n but3_c but3) {r0 : Bool} (H : m_flow_all_Right_1 n0 f1 but3 = some r0) : Fnc Try.prog 60 #[.agg #[.int .i64 n0.N, .int .i64 n0.S, .int .i64 n0.T, .slice n0_Arcs_b n0_Arcs_n n0_Arcs_c], .slice f1_b f1_n f1_c, .func (.func 62) #[] #[], .slice but3_b but3_n but3_c] w [] (fun v N => v = .bool r0 ∧ N = []) := by
  unfold m_flow_all_Right_1 at H
  refine Fnc.enter (vs := [.agg #[.int .i64 n0.N, .int .i64 n0.S, .int .i64 n0.T, .slice n0_Arcs_b n0_Arcs_n n0_Arcs_c], .slice f1_b f1_n f1_c, .func (.func 62) #[] #[], .slice but3_b but3_n but3_c]) Try.func60 rfl rfl (Inv.refl w) ?_
  refine T.seq ?_
  refine T.regionL (ll := [0, 1]) rfl ?_
  refine TO.boxA rfl rfl rfl rfl ?_; intro b1
  refine TO.assign rfl rfl rfl rfl ?_
  refine TO.done ?_
  refine X.seq_normal ?_
  refine T.seq ?_
  obtain ⟨⟨r3, r4⟩, e5, H⟩ := bd_some H
  refine T.regionL (ll := [0, 1, 2, 3, 4, 5, 6, 7]) rfl ?_
  refine TO.loadA rfl rfl rfl rfl TWS3.a24 (List.Mem.head _) rfl ?_
  refine TO.move rfl rfl rfl rfl ?_
  refine TO.callX TWS3.c27 rfl rfl rfl rfl (fun wc hwc => w_flow_Excess (n0 := n0) (f1 := f1) wc (h_n0_Arcs.mono hwc) (h_f1.mono hwc) e5) ?_
  rintro _ _ ⟨ob6, n7, c8, j9, rfl, rfl, hn10, hc11, hj12, hz13⟩
  refine TO.move rfl rfl rfl rfl ?_
  refine TO.extract rfl rfl rfl rfl rfl ?_
  refine TO.extract rfl rfl rfl rfl rfl ?_
  refine TO.assign rfl rfl rfl rfl ?_
  refine TO.assign rfl rfl rfl rfl ?_
  refine TO.done ?_
  refine X.seq_normal ?_
  refine T.trim (AllF.cons (t := 2) rfl (AllF.cons (t := 3) rfl (AllF.cons (t := 9) rfl (AllF.cons (t := 10) rfl AllF.nil)))) ?_
  refine T.seq ?_
  refine T.seq ?_
  refine T.regionL (ll := [0, 1, 2]) rfl ?_
  refine TO.move rfl rfl rfl rfl ?_
  refine TO.lenX (xs := r3) hn10 rfl rfl rfl rfl rfl TWS3.l25 ?_
  refine TO.move rfl rfl rfl rfl ?_
  refine TO.done ?_
  refine X.seq_normal ?_
  refine T.meetSE1 (fun (u26 : Unit) => m_flow_all_Right_1_j2 r4 = some r0) (fun (u26 : Unit) => [(10, .int .i64 r4)]) (fun (u26 : Unit) => []) ?_ ?_
  ·
    refine T.block ?_
    obtain ⟨o_1, e_1, K_1⟩ := bd_some H
    refine T.loopE2 (fun (m_1 : Nat) (x15 : Int) => loopM (fun s => m_flow_all_Right_1_s1 but3 r3 s) m_1 x15 = some o_1) (fun (m_1 : Nat) (x15 : Int) => [(2, .func (.func 62) #[] #[]), (3, .slice but3_b but3_n but3_c), (10, .int .i64 r4), (19, .slice (sb ob6) n7 c8), (20, .int .i64 (r3.length : Int)), (21, .int .i64 x15)]) (fun (m_1 : Nat) (x15 : Int) => [(ob6, .cells (arr (intC .i64) r3 j9).toArray 2 (0, 0))]) (fun (m_1 : Nat) (x15 : Int) => m_1) FUEL 0 e_1 (AllF.cons rfl (AllF.cons rfl (AllF.cons rfl (AllF.cons rfl (AllF.cons rfl (AllF.cons rfl AllF.nil)))))) (Pick.cons (Take.head _ _) Pick.nil) ?_
    rintro m_1 x15 H
    obtain ⟨n_1, r_1, rfl, H, C_1⟩ := loopM_some H
    have H : m_flow_all_Right_1_s1 but3 r3 x15 = some r_1 := H
    unfold m_flow_all_Right_1_s1 at H
    refine T.seq ?_
    refine T.regionL (ll := [0]) rfl ?_
    refine TO.bin rfl rfl rfl rfl rfl rfl ?_
    refine TO.done ?_
    refine X.seq_normal ?_
    refine T.seq ?_
    rcases ite_some H with ⟨g16, H⟩ | ⟨g16, H⟩
    ·
      refine T.condPT rfl g16 ?_
      refine T.skip ?_
      refine X.seq_normal ?_
      refine T.seq ?_
      refine T.block ?_
      refine T.seq ?_
      obtain ⟨g17, H⟩ := gd_some H
      refine T.regionL (ll := [0, 1, 2, 3, 4]) rfl ?_
      refine TO.move rfl rfl rfl rfl ?_
      refine TO.ixV hz13 hc11 hn10 g17 rfl rfl rfl rfl rfl TWS3.l25 TWS3.n2 ?_
      refine TO.ldIV hz13 hc11 hn10 g17 rfl rfl rfl rfl TWS3.s2 (List.Mem.head _) ?_
      refine TO.assign rfl rfl rfl rfl ?_
      refine TO.assign rfl rfl rfl rfl ?_
      refine TO.done ?_
      refine X.seq_normal ?_
      refine T.seq ?_
      obtain ⟨r18, e19, H⟩ := bd_some H
      rcases ite_some H with ⟨g20, H⟩ | ⟨g20, H⟩
      ·
        obtain ⟨r21, e22, H⟩ := bd_some H
        refine T.regionL (ll := [0, 1, 2, 3, 4, 5, 6, 7, 8, 9]) rfl ?_
        refine TO.move rfl rfl rfl rfl ?_
        refine TO.move rfl rfl rfl rfl ?_
        refine TO.callVX TWS3.c62 rfl rfl rfl rfl rfl (fun wc hwc => w_flow_Right_1 (x0 := (r3.getD x15.toNat 0)) wc  e19) ?_
        rintro _ _ ⟨rfl, rfl⟩
        refine TO.not rfl rfl rfl rfl ?_
        refine TO.move rfl rfl rfl rfl ?_
        refine TO.decB (t := 30) (b' := true) rfl g20 ?_
        refine TO.move rfl rfl rfl rfl ?_
        refine TO.move rfl rfl rfl rfl ?_
        refine TO.callX TWS3.c80 rfl rfl rfl rfl (fun wc hwc => w_slices_Contains_int (s0 := but3) (v1 := x15) wc (h_but3.mono hwc) e22) ?_
        rintro _ _ ⟨rfl, rfl⟩
        refine TO.not rfl rfl rfl rfl ?_
        refine TO.pickT rfl rfl rfl rfl rfl ?_
        refine TO.done ?_
        refine X.seq_normal ?_
        refine T.trim (AllF.cons (t := 2) rfl (AllF.cons (t := 3) rfl (AllF.cons (t := 10) rfl (AllF.cons (t := 19) rfl (AllF.cons (t := 20) rfl (AllF.cons (t := 21) rfl (AllF.cons (t := 31) rfl (AllF.cons (t := 32) rfl (AllF.cons (t := 33) rfl (AllF.cons (t := 34) rfl (AllF.cons (t := 35) rfl AllF.nil))))))))))) ?_
        rcases ite_some H with ⟨g23, H⟩ | ⟨g23, H⟩
        ·
          refine T.condT rfl g23 ?_
          refine T.seq ?_
          refine T.regionL (ll := [0]) rfl ?_
          refine TO.assign rfl rfl rfl rfl ?_
          refine TO.done ?_
          refine X.seq_normal ?_
          refine T.trim (AllF.cons (t := 8) rfl AllF.nil) ?_
          refine T.ret ?_
          refine X.block_ret ?_
          refine X.then_ret ?_
          have H := loop_exitE H C_1 ▸ K_1
          refine X.then_ret ?_
          refine X.block_ret ?_
          refine X.then_ret ?_
          obtain rfl := ret1 H
          exact X.ret1 rfl rfl rfl rfl (Res.tmp rfl) Pick.nil ⟨rfl, rfl⟩
        ·
          refine T.condF rfl (Bool.eq_false_iff.2 g23) ?_
          refine T.skip ?_
          refine X.block_normal ?_
          refine X.seq_normal ?_
          obtain ⟨g24, H⟩ := gd_some H
          refine T.regionL (ll := [0, 1]) rfl ?_
          refine TO.addG g24 rfl rfl rfl rfl rfl ?_
          refine TO.move rfl rfl rfl rfl ?_
          refine TO.done ?_
          have H := loop_next H C_1
          exact X.againE2 n_1 (x15 + 1) H (Nat.lt_succ_self _) (AllF.cons rfl (AllF.cons rfl (AllF.cons rfl (AllF.cons rfl (AllF.cons rfl (AllF.cons rfl AllF.nil)))))) (Pick.cons (Take.head _ _) Pick.nil)
      ·
        refine T.regionL (ll := [0, 1, 2, 3, 4, 5, 6, 7, 8, 9]) rfl ?_
        refine TO.move rfl rfl rfl rfl ?_
        refine TO.move rfl rfl rfl rfl ?_
        refine TO.callVX TWS3.c62 rfl rfl rfl rfl rfl (fun wc hwc => w_flow_Right_1 (x0 := (r3.getD x15.toNat 0)) wc  e19) ?_
        rintro _ _ ⟨rfl, rfl⟩
        refine TO.not rfl rfl rfl rfl ?_
        refine TO.move rfl rfl rfl rfl ?_
        refine TO.decB (t := 30) (b' := false) rfl (Bool.eq_false_iff.2 g20) ?_
        refine TO.shut rfl rfl rfl rfl ?_
        refine TO.shut rfl rfl rfl rfl ?_
        refine TO.shut rfl rfl rfl rfl ?_
        refine TO.shut rfl rfl rfl rfl ?_
        refine TO.pickF rfl rfl rfl rfl rfl ?_
        refine TO.done ?_
        refine X.seq_normal ?_
        refine T.trim (AllF.cons (t := 2) rfl (AllF.cons (t := 3) rfl (AllF.cons (t := 10) rfl (AllF.cons (t := 19) rfl (AllF.cons (t := 20) rfl (AllF.cons (t := 21) rfl (AllF.cons (t := 31) rfl (AllF.cons (t := 32) rfl (AllF.cons (t := 33) rfl (AllF.cons (t := 34) rfl (AllF.cons (t := 35) rfl AllF.nil))))))))))) ?_
        refine T.condF rfl rfl ?_
        refine T.skip ?_
        refine X.block_normal ?_
        refine X.seq_normal ?_
        obtain ⟨g25, H⟩ := gd_some H
        refine T.regionL (ll := [0, 1]) rfl ?_
        refine TO.addG g25 rfl rfl rfl rfl rfl ?_
        refine TO.move rfl rfl rfl rfl ?_
        refine TO.done ?_
        have H := loop_next H C_1
        exact X.againE2 n_1 (x15 + 1) H (Nat.lt_succ_self _) (AllF.cons rfl (AllF.cons rfl (AllF.cons rfl (AllF.cons rfl (AllF.cons rfl (AllF.cons rfl AllF.nil)))))) (Pick.cons (Take.head _ _) Pick.nil)
    ·
      refine T.condPF rfl g16 ?_
      refine T.exit ?_
      refine X.then_exit ?_
      have H := loop_exitE H C_1 ▸ K_1
      refine X.then_exit ?_
      refine X.block_here ?_
      exact X.metE1 () H (AllF.cons rfl AllF.nil) Pick.nil
  · rintro u26 H
    unfold m_flow_all_Right_1_j2 at H
    refine T.seq ?_
    refine T.regionL (ll := [0, 1, 2]) rfl ?_
    refine TO.move rfl rfl rfl rfl ?_
    refine TO.bin rfl rfl rfl rfl rfl rfl ?_
    refine TO.assign rfl rfl rfl rfl ?_
    refine TO.done ?_
    refine X.seq_normal ?_
    refine T.ret ?_
    obtain rfl := ret1 H
    exact X.ret1 rfl rfl rfl rfl (Res.tmp rfl) Pick.nil ⟨rfl, rfl⟩
/-- acequia/flow.Right -/
theorem w_flow_Right {n0 : Net} {f1 : List Int} {n0_Arcs_b : Option Addr} {n0_Arcs_n : Nat} {n0_Arcs_c : Nat} {f1_b : Option Addr} {f1_n : Nat} {f1_c : Nat} (w : World) (h_n0_Arcs : RS w [] arcC 3 n0_Arcs_b n0_Arcs_n n0_Arcs_c n0.Arcs) (h_f1 : RS w [] (intC .i64) 1 f1_b f1_n f1_c f1) {r0 : Bool} (H : m_flow_Right n0 f1 = some r0) : Fnc Try.prog 31 #[.agg #[.int .i64 n0.N, .int .i64 n0.S, .int .i64 n0.T, .slice n0_Arcs_b n0_Arcs_n n0_Arcs_c], .slice f1_b f1_n f1_c] w [] (fun v N => v = .bool r0 ∧ N = []) := by
  unfold m_flow_Right at H
  refine Fnc.enter (vs := [.agg #[.int .i64 n0.N, .int .i64 n0.S, .int .i64 n0.T, .slice n0_Arcs_b n0_Arcs_n n0_Arcs_c], .slice f1_b f1_n f1_c]) Try.func31 rfl rfl (Inv.refl w) ?_
  refine T.seq ?_
  refine T.regionL (ll := [0, 1]) rfl ?_
  refine TO.boxA rfl rfl rfl rfl ?_; intro b1
  refine TO.assign rfl rfl rfl rfl ?_
  refine TO.done ?_
  refine X.seq_normal ?_
  refine T.seq ?_
  obtain ⟨r5, e6, H⟩ := bd_some H
  refine T.regionL (ll := [0, 1, 2, 3, 4, 5, 6, 7, 8]) rfl ?_
  refine TO.loadA rfl rfl rfl rfl TWS3.a24 (List.Mem.head _) rfl ?_
  refine TO.move rfl rfl rfl rfl ?_
  refine TO.fieldAddr0 rfl rfl rfl rfl TWS3.f24_1 ?_
  refine TO.load1 rfl rfl rfl rfl TWS3.s3 (List.Mem.head _) rfl ?_
  refine TO.fieldAddr0 rfl rfl rfl rfl TWS3.f24_2 ?_
  refine TO.load1 rfl rfl rfl rfl TWS3.s3 (List.Mem.head _) rfl ?_
  refine TO.buildSliceS [.int .i64 0, .int .i64 0] [0, 1] rfl rfl rfl rfl TWS3.l30 TWS3.n3 TWS3.z3 rfl rfl (by simp only [setAll, setCells, Value.cells, List.toList_toArray, List.getD_cons_zero, List.getD_cons_succ, List.set_cons_zero, List.set_cons_succ]; rfl) (by kernel_rfl) ?_; intro b3
  refine TO.callX TWS3.c60 rfl rfl rfl rfl (fun wc hwc => w_flow_all_Right_1 (n0 := n0) (f1 := f1) (but3 := [n0.S, n0.T]) wc (h_n0_Arcs.mono hwc) (h_f1.mono hwc) (hwc.rs (f := (intC .i64)) (s := 1) (xs := [n0.S, n0.T]) (j := ([])) (fun _ => rfl) (List.Mem.head _) rfl (Nat.le_refl _) someZ) e6) ?_
  rintro _ _ ⟨rfl, rfl⟩
  refine TO.assign rfl rfl rfl rfl ?_
  refine TO.done ?_
  refine X.seq_normal ?_
  refine T.trim (AllF.cons (t := 4) rfl AllF.nil) ?_
  refine T.ret ?_
  obtain rfl := ret1 H
  exact X.ret1 rfl rfl rfl rfl (Res.tmp rfl) Pick.nil ⟨rfl, rfl⟩
/-- acequia/flow.Value -/
theorem w_flow_Value {n0 : Net} {f1 : List Int} {n0_Arcs_b : Option Addr} {n0_Arcs_n : Nat} {n0_Arcs_c : Nat} {f1_b : Option Addr} {f1_n : Nat} {f1_c : Nat} (w : World) (h_n0_Arcs : RS w [] arcC 3 n0_Arcs_b n0_Arcs_n n0_Arcs_c n0.Arcs) (h_f1 : RS w [] (intC .i64) 1 f1_b f1_n f1_c f1) {r0 : Int} {r1 : Int} (H : m_flow_Value n0 f1 = some (r0, r1)) : Fnc Try.prog 29 #[.agg #[.int .i64 n0.N, .int .i64 n0.S, .int .i64 n0.T, .slice n0_Arcs_b n0_Arcs_n n0_Arcs_c], .slice f1_b f1_n f1_c] w [] (fun v N => v = .tuple #[.int .i64 r0, .int .i64 r1] ∧ N = []) := by
  unfold m_flow_Value at H
  refine Fnc.enter (vs := [.agg #[.int .i64 n0.N, .int .i64 n0.S, .int .i64 n0.T, .slice n0_Arcs_b n0_Arcs_n n0_Arcs_c], .slice f1_b f1_n f1_c]) Try.func29 rfl rfl (Inv.refl w) ?_
  refine T.seq ?_
  refine T.regionL (ll := [0, 1, 2]) rfl ?_
  refine TO.boxA rfl rfl rfl rfl ?_; intro b1
  refine TO.assign rfl rfl rfl rfl ?_
  refine TO.assign rfl rfl rfl rfl ?_
  refine TO.done ?_
  refine X.seq_normal ?_
  refine T.seq ?_
  refine T.seq ?_
  obtain ⟨r3, e4, H⟩ := bd_some H
  refine T.regionL (ll := [0, 1, 2, 3]) rfl ?_
  refine TO.loadA rfl rfl rfl rfl TWS3.a24 (List.Mem.head _) rfl ?_
  refine TO.move rfl rfl rfl rfl ?_
  refine TO.callX TWS3.c31 rfl rfl rfl rfl (fun wc hwc => w_flow_Right (n0 := n0) (f1 := f1) wc (h_n0_Arcs.mono hwc) (h_f1.mono hwc) e4) ?_
  rintro _ _ ⟨rfl, rfl⟩
  refine TO.not rfl rfl rfl rfl ?_
  refine TO.done ?_
  refine X.seq_normal ?_
  rcases ite_some H with ⟨g5, H⟩ | ⟨g5, H⟩
  ·
    refine T.condT rfl g5 ?_
    refine T.seq ?_
    refine T.regionL (ll := [0, 1]) rfl ?_
    refine TO.assign rfl rfl rfl rfl ?_
    refine TO.assign rfl rfl rfl rfl ?_
    refine TO.done ?_
    refine X.seq_normal ?_
    refine T.ret ?_
    refine X.then_ret ?_
    obtain ⟨rfl, rfl⟩ := ret2 H
    exact X.ret2 rfl rfl rfl rfl (Res.tmp rfl) (Res.tmp rfl) Pick.nil ⟨rfl, rfl⟩
  ·
    refine T.condF rfl (Bool.eq_false_iff.2 g5) ?_
    refine T.skip ?_
    refine X.seq_normal ?_
    refine T.seq ?_
    obtain ⟨⟨r6, r7⟩, e8, H⟩ := bd_some H
    refine T.regionL (ll := [0, 1, 2, 3, 4, 5, 6, 7]) rfl ?_
    refine TO.loadA rfl rfl rfl rfl TWS3.a24 (List.Mem.head _) rfl ?_
    refine TO.move rfl rfl rfl rfl ?_
    refine TO.callX TWS3.c27 rfl rfl rfl rfl (fun wc hwc => w_flow_Excess (n0 := n0) (f1 := f1) wc (h_n0_Arcs.mono hwc) (h_f1.mono hwc) e8) ?_
    rintro _ _ ⟨ob9, n10, c11, j12, rfl, rfl, hn13, hc14, hj15, hz16⟩
    refine TO.move rfl rfl rfl rfl ?_
    refine TO.extract rfl rfl rfl rfl rfl ?_
    refine TO.extract rfl rfl rfl rfl rfl ?_
    refine TO.assign rfl rfl rfl rfl ?_
    refine TO.assign rfl rfl rfl rfl ?_
    refine TO.done ?_
    refine X.seq_normal ?_
    refine T.trim (AllF.cons (t := 2) rfl (AllF.cons (t := 6) rfl (AllF.cons (t := 7) rfl AllF.nil))) ?_
    refine T.seq ?_
    obtain ⟨g18, H⟩ := gd_some H
    refine T.regionL (ll := [0, 1, 2, 3, 4, 5, 6, 7]) rfl ?_
    refine TO.move rfl rfl rfl rfl ?_
    refine TO.fieldAddr0 rfl rfl rfl rfl TWS3.f24_2 ?_
    refine TO.load1 rfl rfl rfl rfl TWS3.s3 (List.Mem.tail _ (List.Mem.head _)) rfl ?_
    refine TO.ixV hz16 hc14 hn13 g18 rfl rfl rfl rfl rfl TWS3.l25 TWS3.n2 ?_
    refine TO.ldIV hz16 hc14 hn13 g18 rfl rfl rfl rfl TWS3.s2 (List.Mem.head _) ?_
    refine TO.move rfl rfl rfl rfl ?_
    refine TO.assign rfl rfl rfl rfl ?_
    refine TO.assign rfl rfl rfl rfl ?_
    refine TO.done ?_
    refine X.seq_normal ?_
    refine T.trim (AllF.cons (t := 4) rfl (AllF.cons (t := 5) rfl AllF.nil)) ?_
    refine T.ret ?_
    obtain ⟨rfl, rfl⟩ := ret2 H
    exact X.ret2 rfl rfl rfl rfl (Res.tmp rfl) (Res.tmp rfl) Pick.nil ⟨rfl, rfl⟩
/-- acequia/acequialaw03.awake -/
theorem w_acequialaw03_awake (w : World) {r0 : Bool} (H : m_acequialaw03_awake = some r0) : Fnc Try.prog 32 #[] w [] (fun v N => v = .bool r0 ∧ N = []) := by
  unfold m_acequialaw03_awake at H
  refine Fnc.enter (vs := []) Try.func32 rfl rfl (Inv.refl w) ?_
  refine T.seq ?_
  refine T.regionL (ll := [0]) rfl ?_
  refine TO.assign rfl rfl rfl rfl ?_
  refine TO.done ?_
  refine X.seq_normal ?_
  refine T.seq ?_
  obtain ⟨r1, e2, H⟩ := bd_some H
  refine T.regionL (ll := [0, 1, 2]) rfl ?_
  refine TO.callX TWS3.c56 rfl rfl rfl rfl (fun wc hwc => w_acequialaw01_Four  wc  e2) ?_
  rintro _ _ ⟨ob3, n4, c5, j6, rfl, rfl, hn7, hc8, hj9, hz10⟩
  refine TO.allocA rfl rfl rfl TWS3.z24 ?_; intro b12
  refine TO.storeA rfl rfl rfl rfl (Take.head _ _) TWS3.n24 rfl rfl rfl ?_
  refine TO.done ?_
  refine X.seq_normal ?_
  refine T.seq ?_
  refine T.regionL (ll := [0, 1]) rfl ?_
  refine TO.buildSliceS [.int .i64 0, .int .i64 0, .int .i64 0, .int .i64 0, .int .i64 0] [0, 1, 2, 3, 4] rfl rfl rfl rfl TWS3.l25 TWS3.n2 TWS3.z2 rfl rfl (by simp only [setAll, setCells, Value.cells, List.toList_toArray, List.getD_cons_zero, List.getD_cons_succ, List.set_cons_zero, List.set_cons_succ]; rfl) (by kernel_rfl) ?_; intro b14
  refine TO.assign rfl rfl rfl rfl ?_
  refine TO.done ?_
  refine X.seq_normal ?_
  refine T.seq ?_
  obtain ⟨⟨r16, r17⟩, e18, H⟩ := bd_some H
  refine T.regionL (ll := [0, 1, 2, 3, 4, 5, 6, 7]) rfl ?_
  refine TO.loadA rfl rfl rfl rfl TWS3.a24 (List.Mem.tail _ (List.Mem.head _)) rfl ?_
  refine TO.move rfl rfl rfl rfl ?_
  refine TO.callX TWS3.c29 rfl rfl rfl rfl (fun wc hwc => w_flow_Value (n0 := r1) (f1 := [3, 4, 3, 4, 0]) wc (hwc.rs (f := arcC) (s := 3) (xs := r1.Arcs) (j := j6) (fun _ => rfl) (List.Mem.tail _ (List.Mem.tail _ (List.Mem.head _))) hn7 hc8 hz10) (hwc.rs (f := (intC .i64)) (s := 1) (xs := [3, 4, 3, 4, 0]) (j := ([])) (fun _ => rfl) (List.Mem.head _) rfl (Nat.le_refl _) someZ) e18) ?_
  rintro _ _ ⟨rfl, rfl⟩
  refine TO.move rfl rfl rfl rfl ?_
  refine TO.extract rfl rfl rfl rfl rfl ?_
  refine TO.extract rfl rfl rfl rfl rfl ?_
  refine TO.assign rfl rfl rfl rfl ?_
  refine TO.assign rfl rfl rfl rfl ?_
  refine TO.done ?_
  refine X.seq_normal ?_
  refine T.trim (AllF.cons (t := 1) rfl (AllF.cons (t := 2) rfl (AllF.cons (t := 3) rfl (AllF.cons (t := 4) rfl AllF.nil)))) ?_
  refine T.seq ?_
  obtain ⟨⟨r21, r22⟩, e23, H⟩ := bd_some H
  refine T.regionL (ll := [0, 1, 2, 3, 4, 5, 6, 7]) rfl ?_
  refine TO.loadA rfl rfl rfl rfl TWS3.a24 (List.Mem.tail _ (List.Mem.head _)) rfl ?_
  refine TO.buildSliceS [.int .i64 0, .int .i64 0, .int .i64 0, .int .i64 0, .int .i64 0] [0, 1, 2, 3, 4] rfl rfl rfl rfl TWS3.l25 TWS3.n2 TWS3.z2 rfl rfl (by simp only [setAll, setCells, Value.cells, List.toList_toArray, List.getD_cons_zero, List.getD_cons_succ, List.set_cons_zero, List.set_cons_succ]; rfl) (by kernel_rfl) ?_; intro b19
  refine TO.callX TWS3.c27 rfl rfl rfl rfl (fun wc hwc => w_flow_Excess (n0 := r1) (f1 := [5, 4, 3, 4, 0]) wc (hwc.rs (f := arcC) (s := 3) (xs := r1.Arcs) (j := j6) (fun _ => rfl) (List.Mem.tail _ (List.Mem.tail _ (List.Mem.tail _ (List.Mem.head _)))) hn7 hc8 hz10) (hwc.rs (f := (intC .i64)) (s := 1) (xs := [5, 4, 3, 4, 0]) (j := ([])) (fun _ => rfl) (List.Mem.head _) rfl (Nat.le_refl _) someZ) e23) ?_
  rintro _ _ ⟨ob24, n25, c26, j27, rfl, rfl, hn28, hc29, hj30, hz31⟩
  refine TO.move rfl rfl rfl rfl ?_
  refine TO.extract rfl rfl rfl rfl rfl ?_
  refine TO.extract rfl rfl rfl rfl rfl ?_
  refine TO.assign rfl rfl rfl rfl ?_
  refine TO.assign rfl rfl rfl rfl ?_
  refine TO.done ?_
  refine X.seq_normal ?_
  refine T.seq ?_
  obtain ⟨⟨r35, r36⟩, e37, H⟩ := bd_some H
  refine T.regionL (ll := [0, 1, 2, 3, 4, 5, 6, 7, 8, 9, 10, 11]) rfl ?_
  refine TO.loadA rfl rfl rfl rfl TWS3.a24 (List.Mem.tail _ (List.Mem.tail _ (List.Mem.tail _ (List.Mem.head _)))) rfl ?_
  refine TO.move rfl rfl rfl rfl ?_
  refine TO.buildS (t := 60) [.int .i64 0, .bool false] [0, 1] rfl rfl rfl rfl (by simp only [setAll, setCells, Value.cells, List.toList_toArray, List.getD_cons_zero, List.getD_cons_succ, List.set_cons_zero, List.set_cons_succ]; rfl) (by kernel_rfl) ?_
  refine TO.buildS (t := 60) [.int .i64 0, .bool false] [0, 1] rfl rfl rfl rfl (by simp only [setAll, setCells, Value.cells, List.toList_toArray, List.getD_cons_zero, List.getD_cons_succ, List.set_cons_zero, List.set_cons_succ]; rfl) (by kernel_rfl) ?_
  refine TO.buildS (t := 60) [.int .i64 0, .bool false] [0, 1] rfl rfl rfl rfl (by simp only [setAll, setCells, Value.cells, List.toList_toArray, List.getD_cons_zero, List.getD_cons_succ, List.set_cons_zero, List.set_cons_succ]; rfl) (by kernel_rfl) ?_
  refine TO.buildSliceS [.int .i64 0, .bool false, .int .i64 0, .bool false, .int .i64 0, .bool false] [0, 2, 4] rfl rfl rfl rfl TWS3.l54 TWS3.n60 TWS3.z60 rfl rfl (by simp only [setAll, setCells, Value.cells, List.toList_toArray, List.getD_cons_zero, List.getD_cons_succ, List.set_cons_zero, List.set_cons_succ]; rfl) (by kernel_rfl) ?_; intro b33
  refine TO.callX TWS3.c34 rfl rfl rfl rfl (fun wc hwc => w_flow_Room (n0 := r1) (f1 := [3, 4, 3, 4, 0]) (l2 := [(Hop.mk 0 false), (Hop.mk 4 false), (Hop.mk 3 false)]) wc (hwc.rs (f := arcC) (s := 3) (xs := r1.Arcs) (j := j6) (fun _ => rfl) (List.Mem.tail _ (List.Mem.tail _ (List.Mem.tail _ (List.Mem.tail _ (List.Mem.tail _ (List.Mem.head _)))))) hn7 hc8 hz10) (hwc.rs (f := (intC .i64)) (s := 1) (xs := [3, 4, 3, 4, 0]) (j := ([])) (fun _ => rfl) (List.Mem.tail _ (List.Mem.tail _ (List.Mem.tail _ (List.Mem.head _)))) rfl (Nat.le_refl _) someZ) (hwc.rs (f := hopC) (s := 2) (xs := [(Hop.mk 0 false), (Hop.mk 4 false), (Hop.mk 3 false)]) (j := ([])) (fun _ => rfl) (List.Mem.head _) rfl (Nat.le_refl _) someZ) e37) ?_
  rintro _ _ ⟨rfl, rfl⟩
  refine TO.move rfl rfl rfl rfl ?_
  refine TO.extract rfl rfl rfl rfl rfl ?_
  refine TO.extract rfl rfl rfl rfl rfl ?_
  refine TO.assign rfl rfl rfl rfl ?_
  refine TO.assign rfl rfl rfl rfl ?_
  refine TO.done ?_
  refine X.seq_normal ?_
  refine T.trim (AllF.cons (t := 1) rfl (AllF.cons (t := 2) rfl (AllF.cons (t := 3) rfl (AllF.cons (t := 4) rfl (AllF.cons (t := 5) rfl (AllF.cons (t := 6) rfl (AllF.cons (t := 7) rfl (AllF.cons (t := 8) rfl AllF.nil)))))))) ?_
  refine T.seq ?_
  obtain ⟨⟨r40, r41⟩, e42, H⟩ := bd_some H
  refine T.regionL (ll := [0, 1, 2, 3, 4, 5, 6, 7, 8, 9, 10, 11]) rfl ?_
  refine TO.loadA rfl rfl rfl rfl TWS3.a24 (List.Mem.tail _ (List.Mem.tail _ (List.Mem.tail _ (List.Mem.tail _ (List.Mem.head _))))) rfl ?_
  refine TO.move rfl rfl rfl rfl ?_
  refine TO.buildS (t := 60) [.int .i64 0, .bool false] [0, 1] rfl rfl rfl rfl (by simp only [setAll, setCells, Value.cells, List.toList_toArray, List.getD_cons_zero, List.getD_cons_succ, List.set_cons_zero, List.set_cons_succ]; rfl) (by kernel_rfl) ?_
  refine TO.buildS (t := 60) [.int .i64 0, .bool false] [0, 1] rfl rfl rfl rfl (by simp only [setAll, setCells, Value.cells, List.toList_toArray, List.getD_cons_zero, List.getD_cons_succ, List.set_cons_zero, List.set_cons_succ]; rfl) (by kernel_rfl) ?_
  refine TO.buildS (t := 60) [.int .i64 0, .bool false] [0, 1] rfl rfl rfl rfl (by simp only [setAll, setCells, Value.cells, List.toList_toArray, List.getD_cons_zero, List.getD_cons_succ, List.set_cons_zero, List.set_cons_succ]; rfl) (by kernel_rfl) ?_
  refine TO.buildSliceS [.int .i64 0, .bool false, .int .i64 0, .bool false, .int .i64 0, .bool false] [0, 2, 4] rfl rfl rfl rfl TWS3.l54 TWS3.n60 TWS3.z60 rfl rfl (by simp only [setAll, setCells, Value.cells, List.toList_toArray, List.getD_cons_zero, List.getD_cons_succ, List.set_cons_zero, List.set_cons_succ]; rfl) (by kernel_rfl) ?_; intro b38
  refine TO.callX TWS3.c35 rfl rfl rfl rfl (fun wc hwc => w_flow_Send (n0 := r1) (f1 := [3, 4, 3, 4, 0]) (l2 := [(Hop.mk 0 false), (Hop.mk 4 false), (Hop.mk 3 false)]) (d3 := 2) wc (hwc.rs (f := arcC) (s := 3) (xs := r1.Arcs) (j := j6) (fun _ => rfl) (List.Mem.tail _ (List.Mem.tail _ (List.Mem.tail _ (List.Mem.tail _ (List.Mem.tail _ (List.Mem.tail _ (List.Mem.head _))))))) hn7 hc8 hz10) (hwc.rs (f := (intC .i64)) (s := 1) (xs := [3, 4, 3, 4, 0]) (j := ([])) (fun _ => rfl) (List.Mem.tail _ (List.Mem.tail _ (List.Mem.tail _ (List.Mem.tail _ (List.Mem.head _))))) rfl (Nat.le_refl _) someZ) (hwc.rs (f := hopC) (s := 2) (xs := [(Hop.mk 0 false), (Hop.mk 4 false), (Hop.mk 3 false)]) (j := ([])) (fun _ => rfl) (List.Mem.head _) rfl (Nat.le_refl _) someZ) e42) ?_
  rintro _ _ ⟨ob43, n44, c45, j46, rfl, rfl, hn47, hc48, hj49, hz50⟩
  refine TO.move rfl rfl rfl rfl ?_
  refine TO.extract rfl rfl rfl rfl rfl ?_
  refine TO.extract rfl rfl rfl rfl rfl ?_
  refine TO.assign rfl rfl rfl rfl ?_
  refine TO.assign rfl rfl rfl rfl ?_
  refine TO.done ?_
  refine X.seq_normal ?_
  refine T.trim (AllF.cons (t := 1) rfl (AllF.cons (t := 2) rfl (AllF.cons (t := 3) rfl (AllF.cons (t := 4) rfl (AllF.cons (t := 5) rfl (AllF.cons (t := 6) rfl (AllF.cons (t := 7) rfl (AllF.cons (t := 8) rfl (AllF.cons (t := 9) rfl (AllF.cons (t := 10) rfl AllF.nil)))))))))) ?_
  refine T.seq ?_
  obtain ⟨⟨r52, r53⟩, e54, H⟩ := bd_some H
  refine T.regionL (ll := [0, 1, 2, 3, 4, 5, 6, 7]) rfl ?_
  refine TO.loadA rfl rfl rfl rfl TWS3.a24 (List.Mem.tail _ (List.Mem.tail _ (List.Mem.tail _ (List.Mem.tail _ (List.Mem.tail _ (List.Mem.tail _ (List.Mem.head _))))))) rfl ?_
  refine TO.move rfl rfl rfl rfl ?_
  refine TO.callX TWS3.c29 rfl rfl rfl rfl (fun wc hwc => w_flow_Value (n0 := r1) (f1 := r40) wc (hwc.rs (f := arcC) (s := 3) (xs := r1.Arcs) (j := j6) (fun _ => rfl) (List.Mem.tail _ (List.Mem.tail _ (List.Mem.tail _ (List.Mem.tail _ (List.Mem.tail _ (List.Mem.tail _ (List.Mem.tail _ (List.Mem.head _)))))))) hn7 hc8 hz10) (hwc.rs (f := (intC .i64)) (s := 1) (xs := r40) (j := j46) (fun _ => rfl) (List.Mem.head _) hn47 hc48 hz50) e54) ?_
  rintro _ _ ⟨rfl, rfl⟩
  refine TO.move rfl rfl rfl rfl ?_
  refine TO.extract rfl rfl rfl rfl rfl ?_
  refine TO.extract rfl rfl rfl rfl rfl ?_
  refine TO.assign rfl rfl rfl rfl ?_
  refine TO.assign rfl rfl rfl rfl ?_
  refine TO.done ?_
  refine X.seq_normal ?_
  refine T.seq ?_
  obtain ⟨⟨r57, r58⟩, e59, H⟩ := bd_some H
  refine T.regionL (ll := [0, 1, 2, 3, 4, 5, 6, 7, 8, 9, 10]) rfl ?_
  refine TO.loadA rfl rfl rfl rfl TWS3.a24 (List.Mem.tail _ (List.Mem.tail _ (List.Mem.tail _ (List.Mem.tail _ (List.Mem.tail _ (List.Mem.tail _ (List.Mem.head _))))))) rfl ?_
  refine TO.move rfl rfl rfl rfl ?_
  refine TO.buildS (t := 60) [.int .i64 0, .bool false] [0, 1] rfl rfl rfl rfl (by simp only [setAll, setCells, Value.cells, List.toList_toArray, List.getD_cons_zero, List.getD_cons_succ, List.set_cons_zero, List.set_cons_succ]; rfl) (by kernel_rfl) ?_
  refine TO.buildS (t := 60) [.int .i64 0, .bool false] [0, 1] rfl rfl rfl rfl (by simp only [setAll, setCells, Value.cells, List.toList_toArray, List.getD_cons_zero, List.getD_cons_succ, List.set_cons_zero, List.set_cons_succ]; rfl) (by kernel_rfl) ?_
  refine TO.buildSliceS [.int .i64 0, .bool false, .int .i64 0, .bool false] [0, 2] rfl rfl rfl rfl TWS3.l54 TWS3.n60 TWS3.z60 rfl rfl (by simp only [setAll, setCells, Value.cells, List.toList_toArray, List.getD_cons_zero, List.getD_cons_succ, List.set_cons_zero, List.set_cons_succ]; rfl) (by kernel_rfl) ?_; intro b55
  refine TO.callX TWS3.c34 rfl rfl rfl rfl (fun wc hwc => w_flow_Room (n0 := r1) (f1 := [3, 4, 3, 4, 0]) (l2 := [(Hop.mk 0 true), (Hop.mk 1 false)]) wc (hwc.rs (f := arcC) (s := 3) (xs := r1.Arcs) (j := j6) (fun _ => rfl) (List.Mem.tail _ (List.Mem.tail _ (List.Mem.tail _ (List.Mem.tail _ (List.Mem.tail _ (List.Mem.tail _ (List.Mem.tail _ (List.Mem.tail _ (List.Mem.head _))))))))) hn7 hc8 hz10) (hwc.rs (f := (intC .i64)) (s := 1) (xs := [3, 4, 3, 4, 0]) (j := ([])) (fun _ => rfl) (List.Mem.tail _ (List.Mem.tail _ (List.Mem.tail _ (List.Mem.tail _ (List.Mem.tail _ (List.Mem.tail _ (List.Mem.head _))))))) rfl (Nat.le_refl _) someZ) (hwc.rs (f := hopC) (s := 2) (xs := [(Hop.mk 0 true), (Hop.mk 1 false)]) (j := ([])) (fun _ => rfl) (List.Mem.head _) rfl (Nat.le_refl _) someZ) e59) ?_
  rintro _ _ ⟨rfl, rfl⟩
  refine TO.move rfl rfl rfl rfl ?_
  refine TO.extract rfl rfl rfl rfl rfl ?_
  refine TO.extract rfl rfl rfl rfl rfl ?_
  refine TO.assign rfl rfl rfl rfl ?_
  refine TO.assign rfl rfl rfl rfl ?_
  refine TO.done ?_
  refine X.seq_normal ?_
  refine T.trim (AllF.cons (t := 1) rfl (AllF.cons (t := 3) rfl (AllF.cons (t := 4) rfl (AllF.cons (t := 5) rfl (AllF.cons (t := 6) rfl (AllF.cons (t := 7) rfl (AllF.cons (t := 8) rfl (AllF.cons (t := 9) rfl (AllF.cons (t := 10) rfl (AllF.cons (t := 11) rfl (AllF.cons (t := 12) rfl (AllF.cons (t := 13) rfl (AllF.cons (t := 14) rfl AllF.nil))))))))))))) ?_
  refine T.seq ?_
  refine T.seq ?_
  rcases ite_some H with ⟨g60, H⟩ | ⟨g60, H⟩
  ·
    refine T.regionL (ll := [0, 1, 2, 3, 4, 5, 6, 7, 8, 9, 10, 11, 12, 13, 14, 15, 16, 17, 18, 19, 20, 21]) rfl ?_
    refine TO.move rfl rfl rfl rfl ?_
    refine TO.bin rfl rfl rfl rfl rfl rfl ?_
    refine TO.move rfl rfl rfl rfl ?_
    refine TO.decB (t := 66) (b' := true) rfl (decide_eq_true g60) ?_
    refine TO.shut rfl rfl rfl rfl ?_
    refine TO.shut rfl rfl rfl rfl ?_
    refine TO.pickT rfl rfl rfl rfl rfl ?_
    refine TO.move rfl rfl rfl rfl ?_
    refine TO.shut rfl rfl rfl rfl ?_
    refine TO.shut rfl rfl rfl rfl ?_
    refine TO.pickT rfl rfl rfl rfl rfl ?_
    refine TO.move rfl rfl rfl rfl ?_
    refine TO.shut rfl rfl rfl rfl ?_
    refine TO.shut rfl rfl rfl rfl ?_
    refine TO.pickT rfl rfl rfl rfl rfl ?_
    refine TO.move rfl rfl rfl rfl ?_
    refine TO.shut rfl rfl rfl rfl ?_
    refine TO.shut rfl rfl rfl rfl ?_
    refine TO.pickT rfl rfl rfl rfl rfl ?_
    refine TO.move rfl rfl rfl rfl ?_
    refine TO.shut rfl rfl rfl rfl ?_
    refine TO.shut rfl rfl rfl rfl ?_
    refine TO.pickT rfl rfl rfl rfl rfl ?_
    refine TO.done ?_
    refine X.seq_normal ?_
    refine T.trim (AllF.cons (t := 1) rfl (AllF.cons (t := 3) rfl (AllF.cons (t := 5) rfl (AllF.cons (t := 7) rfl (AllF.cons (t := 9) rfl (AllF.cons (t := 11) rfl (AllF.cons (t := 13) rfl (AllF.cons (t := 85) rfl AllF.nil)))))))) ?_
    refine T.condT rfl rfl ?_
    refine T.seq ?_
    refine T.regionL (ll := [0]) rfl ?_
    refine TO.assign rfl rfl rfl rfl ?_
    refine TO.done ?_
    refine X.seq_normal ?_
    refine T.trim (AllF.cons (t := 0) rfl AllF.nil) ?_
    refine T.ret ?_
    refine X.then_ret ?_
    obtain rfl := ret1 H
    exact X.ret1 rfl rfl rfl rfl (Res.tmp rfl) Pick.nil ⟨rfl, rfl⟩
  ·
    rcases ite_some H with ⟨g61, H⟩ | ⟨g61, H⟩
    ·
      refine T.regionL (ll := [0, 1, 2, 3, 4, 5, 6, 7, 8, 9, 10, 11, 12, 13, 14, 15, 16, 17, 18, 19, 20, 21]) rfl ?_
      refine TO.move rfl rfl rfl rfl ?_
      refine TO.bin rfl rfl rfl rfl rfl rfl ?_
      refine TO.move rfl rfl rfl rfl ?_
      refine TO.decB (t := 66) (b' := false) rfl (decide_eq_false g60) ?_
      refine TO.move rfl rfl rfl rfl ?_
      refine TO.bin rfl rfl rfl rfl rfl rfl ?_
      refine TO.pickF rfl rfl rfl rfl rfl ?_
      refine TO.move rfl rfl rfl rfl ?_
      refine TO.decB (t := 70) (b' := true) rfl (decide_eq_true g61) ?_
      refine TO.shut rfl rfl rfl rfl ?_
      refine TO.shut rfl rfl rfl rfl ?_
      refine TO.pickT rfl rfl rfl rfl rfl ?_
      refine TO.move rfl rfl rfl rfl ?_
      refine TO.shut rfl rfl rfl rfl ?_
      refine TO.shut rfl rfl rfl rfl ?_
      refine TO.pickT rfl rfl rfl rfl rfl ?_
      refine TO.move rfl rfl rfl rfl ?_
      refine TO.shut rfl rfl rfl rfl ?_
      refine TO.shut rfl rfl rfl rfl ?_
      refine TO.pickT rfl rfl rfl rfl rfl ?_
      refine TO.move rfl rfl rfl rfl ?_
      refine TO.shut rfl rfl rfl rfl ?_
      refine TO.shut rfl rfl rfl rfl ?_
      refine TO.pickT rfl rfl rfl rfl rfl ?_
      refine TO.done ?_
      refine X.seq_normal ?_
      refine T.trim (AllF.cons (t := 1) rfl (AllF.cons (t := 3) rfl (AllF.cons (t := 5) rfl (AllF.cons (t := 7) rfl (AllF.cons (t := 9) rfl (AllF.cons (t := 11) rfl (AllF.cons (t := 13) rfl (AllF.cons (t := 85) rfl AllF.nil)))))))) ?_
      refine T.condT rfl rfl ?_
      refine T.seq ?_
      refine T.regionL (ll := [0]) rfl ?_
      refine TO.assign rfl rfl rfl rfl ?_
      refine TO.done ?_
      refine X.seq_normal ?_
      refine T.trim (AllF.cons (t := 0) rfl AllF.nil) ?_
      refine T.ret ?_
      refine X.then_ret ?_
      obtain rfl := ret1 H
      exact X.ret1 rfl rfl rfl rfl (Res.tmp rfl) Pick.nil ⟨rfl, rfl⟩
    ·
      rcases ite_some H with ⟨g62, H⟩ | ⟨g62, H⟩
      ·
        refine T.regionL (ll := [0, 1, 2, 3, 4, 5, 6, 7, 8, 9, 10, 11, 12, 13, 14, 15, 16, 17, 18, 19, 20, 21]) rfl ?_
        refine TO.move rfl rfl rfl rfl ?_
        refine TO.bin rfl rfl rfl rfl rfl rfl ?_
        refine TO.move rfl rfl rfl rfl ?_
        refine TO.decB (t := 66) (b' := false) rfl (decide_eq_false g60) ?_
        refine TO.move rfl rfl rfl rfl ?_
        refine TO.bin rfl rfl rfl rfl rfl rfl ?_
        refine TO.pickF rfl rfl rfl rfl rfl ?_
        refine TO.move rfl rfl rfl rfl ?_
        refine TO.decB (t := 70) (b' := false) rfl (decide_eq_false g61) ?_
        refine TO.move rfl rfl rfl rfl ?_
        refine TO.bin rfl rfl rfl rfl rfl rfl ?_
        refine TO.pickF rfl rfl rfl rfl rfl ?_
        refine TO.move rfl rfl rfl rfl ?_
        refine TO.decB (t := 74) (b' := true) rfl (decide_eq_true g62) ?_
        refine TO.shut rfl rfl rfl rfl ?_
        refine TO.shut rfl rfl rfl rfl ?_
        refine TO.pickT rfl rfl rfl rfl rfl ?_
        refine TO.move rfl rfl rfl rfl ?_
        refine TO.shut rfl rfl rfl rfl ?_
        refine TO.shut rfl rfl rfl rfl ?_
        refine TO.pickT rfl rfl rfl rfl rfl ?_
        refine TO.move rfl rfl rfl rfl ?_
        refine TO.shut rfl rfl rfl rfl ?_
        refine TO.shut rfl rfl rfl rfl ?_
        refine TO.pickT rfl rfl rfl rfl rfl ?_
        refine TO.done ?_
        refine X.seq_normal ?_
        refine T.trim (AllF.cons (t := 1) rfl (AllF.cons (t := 3) rfl (AllF.cons (t := 5) rfl (AllF.cons (t := 7) rfl (AllF.cons (t := 9) rfl (AllF.cons (t := 11) rfl (AllF.cons (t := 13) rfl (AllF.cons (t := 85) rfl AllF.nil)))))))) ?_
        refine T.condT rfl rfl ?_
        refine T.seq ?_
        refine T.regionL (ll := [0]) rfl ?_
        refine TO.assign rfl rfl rfl rfl ?_
        refine TO.done ?_
        refine X.seq_normal ?_
        refine T.trim (AllF.cons (t := 0) rfl AllF.nil) ?_
        refine T.ret ?_
        refine X.then_ret ?_
        obtain rfl := ret1 H
        exact X.ret1 rfl rfl rfl rfl (Res.tmp rfl) Pick.nil ⟨rfl, rfl⟩
      ·
        rcases ite_some H with ⟨g63, H⟩ | ⟨g63, H⟩
        ·
          refine T.regionL (ll := [0, 1, 2, 3, 4, 5, 6, 7, 8, 9, 10, 11, 12, 13, 14, 15, 16, 17, 18, 19, 20, 21]) rfl ?_
          refine TO.move rfl rfl rfl rfl ?_
          refine TO.bin rfl rfl rfl rfl rfl rfl ?_
          refine TO.move rfl rfl rfl rfl ?_
          refine TO.decB (t := 66) (b' := false) rfl (decide_eq_false g60) ?_
          refine TO.move rfl rfl rfl rfl ?_
          refine TO.bin rfl rfl rfl rfl rfl rfl ?_
          refine TO.pickF rfl rfl rfl rfl rfl ?_
          refine TO.move rfl rfl rfl rfl ?_
          refine TO.decB (t := 70) (b' := false) rfl (decide_eq_false g61) ?_
          refine TO.move rfl rfl rfl rfl ?_
          refine TO.bin rfl rfl rfl rfl rfl rfl ?_
          refine TO.pickF rfl rfl rfl rfl rfl ?_
          refine TO.move rfl rfl rfl rfl ?_
          refine TO.decB (t := 74) (b' := false) rfl (decide_eq_false g62) ?_
          refine TO.move rfl rfl rfl rfl ?_
          refine TO.bin rfl rfl rfl rfl rfl rfl ?_
          refine TO.pickF rfl rfl rfl rfl rfl ?_
          refine TO.move rfl rfl rfl rfl ?_
          refine TO.decB (t := 78) (b' := true) rfl (decide_eq_true g63) ?_
          refine TO.shut rfl rfl rfl rfl ?_
          refine TO.shut rfl rfl rfl rfl ?_
          refine TO.pickT rfl rfl rfl rfl rfl ?_
          refine TO.move rfl rfl rfl rfl ?_
          refine TO.shut rfl rfl rfl rfl ?_
          refine TO.shut rfl rfl rfl rfl ?_
          refine TO.pickT rfl rfl rfl rfl rfl ?_
          refine TO.done ?_
          refine X.seq_normal ?_
          refine T.trim (AllF.cons (t := 1) rfl (AllF.cons (t := 3) rfl (AllF.cons (t := 5) rfl (AllF.cons (t := 7) rfl (AllF.cons (t := 9) rfl (AllF.cons (t := 11) rfl (AllF.cons (t := 13) rfl (AllF.cons (t := 85) rfl AllF.nil)))))))) ?_
          refine T.condT rfl rfl ?_
          refine T.seq ?_
          refine T.regionL (ll := [0]) rfl ?_
          refine TO.assign rfl rfl rfl rfl ?_
          refine TO.done ?_
          refine X.seq_normal ?_
          refine T.trim (AllF.cons (t := 0) rfl AllF.nil) ?_
          refine T.ret ?_
          refine X.then_ret ?_
          obtain rfl := ret1 H
          exact X.ret1 rfl rfl rfl rfl (Res.tmp rfl) Pick.nil ⟨rfl, rfl⟩
        ·
          rcases ite_some H with ⟨g64, H⟩ | ⟨g64, H⟩
          ·
            refine T.regionL (ll := [0, 1, 2, 3, 4, 5, 6, 7, 8, 9, 10, 11, 12, 13, 14, 15, 16, 17, 18, 19, 20, 21]) rfl ?_
            refine TO.move rfl rfl rfl rfl ?_
            refine TO.bin rfl rfl rfl rfl rfl rfl ?_
            refine TO.move rfl rfl rfl rfl ?_
            refine TO.decB (t := 66) (b' := false) rfl (decide_eq_false g60) ?_
            refine TO.move rfl rfl rfl rfl ?_
            refine TO.bin rfl rfl rfl rfl rfl rfl ?_
            refine TO.pickF rfl rfl rfl rfl rfl ?_
            refine TO.move rfl rfl rfl rfl ?_
            refine TO.decB (t := 70) (b' := false) rfl (decide_eq_false g61) ?_
            refine TO.move rfl rfl rfl rfl ?_
            refine TO.bin rfl rfl rfl rfl rfl rfl ?_
            refine TO.pickF rfl rfl rfl rfl rfl ?_
            refine TO.move rfl rfl rfl rfl ?_
            refine TO.decB (t := 74) (b' := false) rfl (decide_eq_false g62) ?_
            refine TO.move rfl rfl rfl rfl ?_
            refine TO.bin rfl rfl rfl rfl rfl rfl ?_
            refine TO.pickF rfl rfl rfl rfl rfl ?_
            refine TO.move rfl rfl rfl rfl ?_
            refine TO.decB (t := 78) (b' := false) rfl (decide_eq_false g63) ?_
            refine TO.move rfl rfl rfl rfl ?_
            refine TO.bin rfl rfl rfl rfl rfl rfl ?_
            refine TO.pickF rfl rfl rfl rfl rfl ?_
            refine TO.move rfl rfl rfl rfl ?_
            refine TO.decB (t := 82) (b' := true) rfl (decide_eq_true g64) ?_
            refine TO.shut rfl rfl rfl rfl ?_
            refine TO.shut rfl rfl rfl rfl ?_
            refine TO.pickT rfl rfl rfl rfl rfl ?_
            refine TO.done ?_
            refine X.seq_normal ?_
            refine T.trim (AllF.cons (t := 1) rfl (AllF.cons (t := 3) rfl (AllF.cons (t := 5) rfl (AllF.cons (t := 7) rfl (AllF.cons (t := 9) rfl (AllF.cons (t := 11) rfl (AllF.cons (t := 13) rfl (AllF.cons (t := 85) rfl AllF.nil)))))))) ?_
            refine T.condT rfl rfl ?_
            refine T.seq ?_
            refine T.regionL (ll := [0]) rfl ?_
            refine TO.assign rfl rfl rfl rfl ?_
            refine TO.done ?_
            refine X.seq_normal ?_
            refine T.trim (AllF.cons (t := 0) rfl AllF.nil) ?_
            refine T.ret ?_
            refine X.then_ret ?_
            obtain rfl := ret1 H
            exact X.ret1 rfl rfl rfl rfl (Res.tmp rfl) Pick.nil ⟨rfl, rfl⟩
          ·
            refine T.regionL (ll := [0, 1, 2, 3, 4, 5, 6, 7, 8, 9, 10, 11, 12, 13, 14, 15, 16, 17, 18, 19, 20, 21]) rfl ?_
            refine TO.move rfl rfl rfl rfl ?_
            refine TO.bin rfl rfl rfl rfl rfl rfl ?_
            refine TO.move rfl rfl rfl rfl ?_
            refine TO.decB (t := 66) (b' := false) rfl (decide_eq_false g60) ?_
            refine TO.move rfl rfl rfl rfl ?_
            refine TO.bin rfl rfl rfl rfl rfl rfl ?_
            refine TO.pickF rfl rfl rfl rfl rfl ?_
            refine TO.move rfl rfl rfl rfl ?_
            refine TO.decB (t := 70) (b' := false) rfl (decide_eq_false g61) ?_
            refine TO.move rfl rfl rfl rfl ?_
            refine TO.bin rfl rfl rfl rfl rfl rfl ?_
            refine TO.pickF rfl rfl rfl rfl rfl ?_
            refine TO.move rfl rfl rfl rfl ?_
            refine TO.decB (t := 74) (b' := false) rfl (decide_eq_false g62) ?_
            refine TO.move rfl rfl rfl rfl ?_
            refine TO.bin rfl rfl rfl rfl rfl rfl ?_
            refine TO.pickF rfl rfl rfl rfl rfl ?_
            refine TO.move rfl rfl rfl rfl ?_
            refine TO.decB (t := 78) (b' := false) rfl (decide_eq_false g63) ?_
            refine TO.move rfl rfl rfl rfl ?_
            refine TO.bin rfl rfl rfl rfl rfl rfl ?_
            refine TO.pickF rfl rfl rfl rfl rfl ?_
            refine TO.move rfl rfl rfl rfl ?_
            refine TO.decB (t := 82) (b' := false) rfl (decide_eq_false g64) ?_
            refine TO.move rfl rfl rfl rfl ?_
            refine TO.bin rfl rfl rfl rfl rfl rfl ?_
            refine TO.pickF rfl rfl rfl rfl rfl ?_
            refine TO.done ?_
            refine X.seq_normal ?_
            refine T.trim (AllF.cons (t := 1) rfl (AllF.cons (t := 3) rfl (AllF.cons (t := 5) rfl (AllF.cons (t := 7) rfl (AllF.cons (t := 9) rfl (AllF.cons (t := 11) rfl (AllF.cons (t := 13) rfl (AllF.cons (t := 85) rfl AllF.nil)))))))) ?_
            rcases ite_some H with ⟨g65, H⟩ | ⟨g65, H⟩
            ·
              refine T.condPT rfl g65 ?_
              refine T.seq ?_
              refine T.regionL (ll := [0]) rfl ?_
              refine TO.assign rfl rfl rfl rfl ?_
              refine TO.done ?_
              refine X.seq_normal ?_
              refine T.trim (AllF.cons (t := 0) rfl AllF.nil) ?_
              refine T.ret ?_
              refine X.then_ret ?_
              obtain rfl := ret1 H
              exact X.ret1 rfl rfl rfl rfl (Res.tmp rfl) Pick.nil ⟨rfl, rfl⟩
            ·
              refine T.condPF rfl g65 ?_
              refine T.skip ?_
              refine X.seq_normal ?_
              refine T.seq ?_
              rcases ite_some H with ⟨g66, H⟩ | ⟨g66, H⟩
              ·
                obtain ⟨r69, e70, H⟩ := bd_some H
                rcases ite_some H with ⟨g71, H⟩ | ⟨g71, H⟩
                ·
                  rcases ite_some H with ⟨g72, H⟩ | ⟨g72, H⟩
                  ·
                    obtain ⟨r75, e76, H⟩ := bd_some H
                    rcases ite_some H with ⟨g77, H⟩ | ⟨g77, H⟩
                    ·
                      rcases ite_some H with ⟨g78, H⟩ | ⟨g78, H⟩
                      ·
                        rcases ite_some H with ⟨g79, H⟩ | ⟨g79, H⟩
                        ·
                          obtain ⟨r82, e83, H⟩ := bd_some H
                          rcases ite_some H with ⟨g84, H⟩ | ⟨g84, H⟩
                          ·
                            obtain ⟨r87, e88, H⟩ := bd_some H
                            refine T.regionL (ll := [0, 1, 2, 3, 4, 5, 6, 7, 8, 9, 10, 11, 12, 13, 14, 15, 16, 17, 18, 19, 20, 21, 22, 23, 24, 25, 26, 27, 28, 29, 30, 31, 32, 33, 34, 35]) rfl ?_
                            refine TO.move rfl rfl rfl rfl ?_
                            refine TO.bin rfl rfl rfl rfl rfl rfl ?_
                            refine TO.move rfl rfl rfl rfl ?_
                            refine TO.decB (t := 88) (b' := true) rfl (decide_eq_true g66) ?_
                            refine TO.move rfl rfl rfl rfl ?_
                            refine TO.buildSliceS [.int .i64 0, .int .i64 0, .int .i64 0, .int .i64 0] [0, 1, 2, 3] rfl rfl rfl rfl TWS3.l25 TWS3.n2 TWS3.z2 rfl rfl (by simp only [setAll, setCells, Value.cells, List.toList_toArray, List.getD_cons_zero, List.getD_cons_succ, List.set_cons_zero, List.set_cons_succ]; rfl) (by kernel_rfl) ?_; intro b67
                            refine TO.callX TWS3.c25 rfl rfl rfl rfl (fun wc hwc => w_acequialow_Longs (a0 := r21) (b1 := [(-9), 2, 0, 7]) wc (hwc.rs (f := (intC .i64)) (s := 1) (xs := r21) (j := j27) (fun _ => rfl) (List.Mem.tail _ (List.Mem.tail _ (List.Mem.tail _ (List.Mem.tail _ (List.Mem.tail _ (List.Mem.head _)))))) hn28 hc29 hz31) (hwc.rs (f := (intC .i64)) (s := 1) (xs := [(-9), 2, 0, 7]) (j := ([])) (fun _ => rfl) (List.Mem.head _) rfl (Nat.le_refl _) someZ) e70) ?_
                            rintro _ _ ⟨rfl, rfl⟩
                            refine TO.pickT rfl rfl rfl rfl rfl ?_
                            refine TO.move rfl rfl rfl rfl ?_
                            refine TO.decB (t := 93) (b' := true) rfl g71 ?_
                            refine TO.move rfl rfl rfl rfl ?_
                            refine TO.bin rfl rfl rfl rfl rfl rfl ?_
                            refine TO.pickT rfl rfl rfl rfl rfl ?_
                            refine TO.move rfl rfl rfl rfl ?_
                            refine TO.decB (t := 97) (b' := true) rfl (decide_eq_true g72) ?_
                            refine TO.move rfl rfl rfl rfl ?_
                            refine TO.buildSliceS [.int .i64 0, .int .i64 0, .int .i64 0, .int .i64 0, .int .i64 0] [0, 1, 2, 3, 4] rfl rfl rfl rfl TWS3.l25 TWS3.n2 TWS3.z2 rfl rfl (by simp only [setAll, setCells, Value.cells, List.toList_toArray, List.getD_cons_zero, List.getD_cons_succ, List.set_cons_zero, List.set_cons_succ]; rfl) (by kernel_rfl) ?_; intro b73
                            refine TO.callX TWS3.c25 rfl rfl rfl rfl (fun wc hwc => w_acequialow_Longs (a0 := r40) (b1 := [5, 4, 3, 6, 2]) wc (hwc.rs (f := (intC .i64)) (s := 1) (xs := r40) (j := j46) (fun _ => rfl) (List.Mem.tail _ (List.Mem.tail _ (List.Mem.tail _ (List.Mem.head _)))) hn47 hc48 hz50) (hwc.rs (f := (intC .i64)) (s := 1) (xs := [5, 4, 3, 6, 2]) (j := ([])) (fun _ => rfl) (List.Mem.head _) rfl (Nat.le_refl _) someZ) e76) ?_
                            rintro _ _ ⟨rfl, rfl⟩
                            refine TO.pickT rfl rfl rfl rfl rfl ?_
                            refine TO.move rfl rfl rfl rfl ?_
                            refine TO.decB (t := 102) (b' := true) rfl g77 ?_
                            refine TO.move rfl rfl rfl rfl ?_
                            refine TO.bin rfl rfl rfl rfl rfl rfl ?_
                            refine TO.pickT rfl rfl rfl rfl rfl ?_
                            refine TO.move rfl rfl rfl rfl ?_
                            refine TO.decB (t := 106) (b' := true) rfl (decide_eq_true g78) ?_
                            refine TO.move rfl rfl rfl rfl ?_
                            refine TO.bin rfl rfl rfl rfl rfl rfl ?_
                            refine TO.pickT rfl rfl rfl rfl rfl ?_
                            refine TO.move rfl rfl rfl rfl ?_
                            refine TO.decB (t := 110) (b' := true) rfl (decide_eq_true g79) ?_
                            refine TO.loadA rfl rfl rfl rfl TWS3.a24 (List.Mem.tail _ (List.Mem.tail _ (List.Mem.tail _ (List.Mem.tail _ (List.Mem.tail _ (List.Mem.tail _ (List.Mem.tail _ (List.Mem.tail _ (List.Mem.tail _ (List.Mem.head _)))))))))) rfl ?_
                            refine TO.buildSliceS [.int .i64 0, .int .i64 0, .int .i64 0, .int .i64 0, .int .i64 0] [0, 1, 2, 3, 4] rfl rfl rfl rfl TWS3.l25 TWS3.n2 TWS3.z2 rfl rfl (by simp only [setAll, setCells, Value.cells, List.toList_toArray, List.getD_cons_zero, List.getD_cons_succ, List.set_cons_zero, List.set_cons_succ]; rfl) (by kernel_rfl) ?_; intro b80
                            refine TO.callX TWS3.c30 rfl rfl rfl rfl (fun wc hwc => w_flow_Pre (n0 := r1) (f1 := [5, 4, 3, 4, 0]) wc (hwc.rs (f := arcC) (s := 3) (xs := r1.Arcs) (j := j6) (fun _ => rfl) (List.Mem.tail _ (List.Mem.tail _ (List.Mem.tail _ (List.Mem.tail _ (List.Mem.tail _ (List.Mem.tail _ (List.Mem.tail _ (List.Mem.tail _ (List.Mem.tail _ (List.Mem.tail _ (List.Mem.tail _ (List.Mem.head _)))))))))))) hn7 hc8 hz10) (hwc.rs (f := (intC .i64)) (s := 1) (xs := [5, 4, 3, 4, 0]) (j := ([])) (fun _ => rfl) (List.Mem.head _) rfl (Nat.le_refl _) someZ) e83) ?_
                            rintro _ _ ⟨rfl, rfl⟩
                            refine TO.pickT rfl rfl rfl rfl rfl ?_
                            refine TO.move rfl rfl rfl rfl ?_
                            refine TO.decB (t := 115) (b' := true) rfl g84 ?_
                            refine TO.loadA rfl rfl rfl rfl TWS3.a24 (List.Mem.tail _ (List.Mem.tail _ (List.Mem.tail _ (List.Mem.tail _ (List.Mem.tail _ (List.Mem.tail _ (List.Mem.tail _ (List.Mem.tail _ (List.Mem.tail _ (List.Mem.tail _ (List.Mem.head _))))))))))) rfl ?_
                            refine TO.buildSliceS [.int .i64 0, .int .i64 0, .int .i64 0, .int .i64 0, .int .i64 0] [0, 1, 2, 3, 4] rfl rfl rfl rfl TWS3.l25 TWS3.n2 TWS3.z2 rfl rfl (by simp only [setAll, setCells, Value.cells, List.toList_toArray, List.getD_cons_zero, List.getD_cons_succ, List.set_cons_zero, List.set_cons_succ]; rfl) (by kernel_rfl) ?_; intro b85
                            refine TO.callX TWS3.c31 rfl rfl rfl rfl (fun wc hwc => w_flow_Right (n0 := r1) (f1 := [5, 4, 3, 4, 0]) wc (hwc.rs (f := arcC) (s := 3) (xs := r1.Arcs) (j := j6) (fun _ => rfl) (List.Mem.tail _ (List.Mem.tail _ (List.Mem.tail _ (List.Mem.tail _ (List.Mem.tail _ (List.Mem.tail _ (List.Mem.tail _ (List.Mem.tail _ (List.Mem.tail _ (List.Mem.tail _ (List.Mem.tail _ (List.Mem.tail _ (List.Mem.head _))))))))))))) hn7 hc8 hz10) (hwc.rs (f := (intC .i64)) (s := 1) (xs := [5, 4, 3, 4, 0]) (j := ([])) (fun _ => rfl) (List.Mem.head _) rfl (Nat.le_refl _) someZ) e88) ?_
                            rintro _ _ ⟨rfl, rfl⟩
                            refine TO.not rfl rfl rfl rfl ?_
                            refine TO.pickT rfl rfl rfl rfl rfl ?_
                            refine TO.assign rfl rfl rfl rfl ?_
                            refine TO.done ?_
                            refine X.seq_normal ?_
                            refine T.trim (AllF.cons (t := 0) rfl AllF.nil) ?_
                            refine T.ret ?_
                            obtain rfl := ret1 H
                            exact X.ret1 rfl rfl rfl rfl (Res.tmp rfl) Pick.nil ⟨rfl, rfl⟩
                          ·
                            refine T.regionL (ll := [0, 1, 2, 3, 4, 5, 6, 7, 8, 9, 10, 11, 12, 13, 14, 15, 16, 17, 18, 19, 20, 21, 22, 23, 24, 25, 26, 27, 28, 29, 30, 31, 32, 33, 34, 35]) rfl ?_
                            refine TO.move rfl rfl rfl rfl ?_
                            refine TO.bin rfl rfl rfl rfl rfl rfl ?_
                            refine TO.move rfl rfl rfl rfl ?_
                            refine TO.decB (t := 88) (b' := true) rfl (decide_eq_true g66) ?_
                            refine TO.move rfl rfl rfl rfl ?_
                            refine TO.buildSliceS [.int .i64 0, .int .i64 0, .int .i64 0, .int .i64 0] [0, 1, 2, 3] rfl rfl rfl rfl TWS3.l25 TWS3.n2 TWS3.z2 rfl rfl (by simp only [setAll, setCells, Value.cells, List.toList_toArray, List.getD_cons_zero, List.getD_cons_succ, List.set_cons_zero, List.set_cons_succ]; rfl) (by kernel_rfl) ?_; intro b67
                            refine TO.callX TWS3.c25 rfl rfl rfl rfl (fun wc hwc => w_acequialow_Longs (a0 := r21) (b1 := [(-9), 2, 0, 7]) wc (hwc.rs (f := (intC .i64)) (s := 1) (xs := r21) (j := j27) (fun _ => rfl) (List.Mem.tail _ (List.Mem.tail _ (List.Mem.tail _ (List.Mem.tail _ (List.Mem.tail _ (List.Mem.head _)))))) hn28 hc29 hz31) (hwc.rs (f := (intC .i64)) (s := 1) (xs := [(-9), 2, 0, 7]) (j := ([])) (fun _ => rfl) (List.Mem.head _) rfl (Nat.le_refl _) someZ) e70) ?_
                            rintro _ _ ⟨rfl, rfl⟩
                            refine TO.pickT rfl rfl rfl rfl rfl ?_
                            refine TO.move rfl rfl rfl rfl ?_
                            refine TO.decB (t := 93) (b' := true) rfl g71 ?_
                            refine TO.move rfl rfl rfl rfl ?_
                            refine TO.bin rfl rfl rfl rfl rfl rfl ?_
                            refine TO.pickT rfl rfl rfl rfl rfl ?_
                            refine TO.move rfl rfl rfl rfl ?_
                            refine TO.decB (t := 97) (b' := true) rfl (decide_eq_true g72) ?_
                            refine TO.move rfl rfl rfl rfl ?_
                            refine TO.buildSliceS [.int .i64 0, .int .i64 0, .int .i64 0, .int .i64 0, .int .i64 0] [0, 1, 2, 3, 4] rfl rfl rfl rfl TWS3.l25 TWS3.n2 TWS3.z2 rfl rfl (by simp only [setAll, setCells, Value.cells, List.toList_toArray, List.getD_cons_zero, List.getD_cons_succ, List.set_cons_zero, List.set_cons_succ]; rfl) (by kernel_rfl) ?_; intro b73
                            refine TO.callX TWS3.c25 rfl rfl rfl rfl (fun wc hwc => w_acequialow_Longs (a0 := r40) (b1 := [5, 4, 3, 6, 2]) wc (hwc.rs (f := (intC .i64)) (s := 1) (xs := r40) (j := j46) (fun _ => rfl) (List.Mem.tail _ (List.Mem.tail _ (List.Mem.tail _ (List.Mem.head _)))) hn47 hc48 hz50) (hwc.rs (f := (intC .i64)) (s := 1) (xs := [5, 4, 3, 6, 2]) (j := ([])) (fun _ => rfl) (List.Mem.head _) rfl (Nat.le_refl _) someZ) e76) ?_
                            rintro _ _ ⟨rfl, rfl⟩
                            refine TO.pickT rfl rfl rfl rfl rfl ?_
                            refine TO.move rfl rfl rfl rfl ?_
                            refine TO.decB (t := 102) (b' := true) rfl g77 ?_
                            refine TO.move rfl rfl rfl rfl ?_
                            refine TO.bin rfl rfl rfl rfl rfl rfl ?_
                            refine TO.pickT rfl rfl rfl rfl rfl ?_
                            refine TO.move rfl rfl rfl rfl ?_
                            refine TO.decB (t := 106) (b' := true) rfl (decide_eq_true g78) ?_
                            refine TO.move rfl rfl rfl rfl ?_
                            refine TO.bin rfl rfl rfl rfl rfl rfl ?_
                            refine TO.pickT rfl rfl rfl rfl rfl ?_
                            refine TO.move rfl rfl rfl rfl ?_
                            refine TO.decB (t := 110) (b' := true) rfl (decide_eq_true g79) ?_
                            refine TO.loadA rfl rfl rfl rfl TWS3.a24 (List.Mem.tail _ (List.Mem.tail _ (List.Mem.tail _ (List.Mem.tail _ (List.Mem.tail _ (List.Mem.tail _ (List.Mem.tail _ (List.Mem.tail _ (List.Mem.tail _ (List.Mem.head _)))))))))) rfl ?_
                            refine TO.buildSliceS [.int .i64 0, .int .i64 0, .int .i64 0, .int .i64 0, .int .i64 0] [0, 1, 2, 3, 4] rfl rfl rfl rfl TWS3.l25 TWS3.n2 TWS3.z2 rfl rfl (by simp only [setAll, setCells, Value.cells, List.toList_toArray, List.getD_cons_zero, List.getD_cons_succ, List.set_cons_zero, List.set_cons_succ]; rfl) (by kernel_rfl) ?_; intro b80
                            refine TO.callX TWS3.c30 rfl rfl rfl rfl (fun wc hwc => w_flow_Pre (n0 := r1) (f1 := [5, 4, 3, 4, 0]) wc (hwc.rs (f := arcC) (s := 3) (xs := r1.Arcs) (j := j6) (fun _ => rfl) (List.Mem.tail _ (List.Mem.tail _ (List.Mem.tail _ (List.Mem.tail _ (List.Mem.tail _ (List.Mem.tail _ (List.Mem.tail _ (List.Mem.tail _ (List.Mem.tail _ (List.Mem.tail _ (List.Mem.tail _ (List.Mem.head _)))))))))))) hn7 hc8 hz10) (hwc.rs (f := (intC .i64)) (s := 1) (xs := [5, 4, 3, 4, 0]) (j := ([])) (fun _ => rfl) (List.Mem.head _) rfl (Nat.le_refl _) someZ) e83) ?_
                            rintro _ _ ⟨rfl, rfl⟩
                            refine TO.pickT rfl rfl rfl rfl rfl ?_
                            refine TO.move rfl rfl rfl rfl ?_
                            refine TO.decB (t := 115) (b' := false) rfl (Bool.eq_false_iff.2 g84) ?_
                            refine TO.shut rfl rfl rfl rfl ?_
                            refine TO.shut rfl rfl rfl rfl ?_
                            refine TO.shut rfl rfl rfl rfl ?_
                            refine TO.shut rfl rfl rfl rfl ?_
                            refine TO.pickF rfl rfl rfl rfl rfl ?_
                            refine TO.assign rfl rfl rfl rfl ?_
                            refine TO.done ?_
                            refine X.seq_normal ?_
                            refine T.trim (AllF.cons (t := 0) rfl AllF.nil) ?_
                            refine T.ret ?_
                            obtain rfl := ret1 H
                            exact X.ret1 rfl rfl rfl rfl (Res.tmp rfl) Pick.nil ⟨rfl, rfl⟩
                        ·
                          refine T.regionL (ll := [0, 1, 2, 3, 4, 5, 6, 7, 8, 9, 10, 11, 12, 13, 14, 15, 16, 17, 18, 19, 20, 21, 22, 23, 24, 25, 26, 27, 28, 29, 30, 31, 32, 33, 34, 35]) rfl ?_
                          refine TO.move rfl rfl rfl rfl ?_
                          refine TO.bin rfl rfl rfl rfl rfl rfl ?_
                          refine TO.move rfl rfl rfl rfl ?_
                          refine TO.decB (t := 88) (b' := true) rfl (decide_eq_true g66) ?_
                          refine TO.move rfl rfl rfl rfl ?_
                          refine TO.buildSliceS [.int .i64 0, .int .i64 0, .int .i64 0, .int .i64 0] [0, 1, 2, 3] rfl rfl rfl rfl TWS3.l25 TWS3.n2 TWS3.z2 rfl rfl (by simp only [setAll, setCells, Value.cells, List.toList_toArray, List.getD_cons_zero, List.getD_cons_succ, List.set_cons_zero, List.set_cons_succ]; rfl) (by kernel_rfl) ?_; intro b67
                          refine TO.callX TWS3.c25 rfl rfl rfl rfl (fun wc hwc => w_acequialow_Longs (a0 := r21) (b1 := [(-9), 2, 0, 7]) wc (hwc.rs (f := (intC .i64)) (s := 1) (xs := r21) (j := j27) (fun _ => rfl) (List.Mem.tail _ (List.Mem.tail _ (List.Mem.tail _ (List.Mem.tail _ (List.Mem.tail _ (List.Mem.head _)))))) hn28 hc29 hz31) (hwc.rs (f := (intC .i64)) (s := 1) (xs := [(-9), 2, 0, 7]) (j := ([])) (fun _ => rfl) (List.Mem.head _) rfl (Nat.le_refl _) someZ) e70) ?_
                          rintro _ _ ⟨rfl, rfl⟩
                          refine TO.pickT rfl rfl rfl rfl rfl ?_
                          refine TO.move rfl rfl rfl rfl ?_
                          refine TO.decB (t := 93) (b' := true) rfl g71 ?_
                          refine TO.move rfl rfl rfl rfl ?_
                          refine TO.bin rfl rfl rfl rfl rfl rfl ?_
                          refine TO.pickT rfl rfl rfl rfl rfl ?_
                          refine TO.move rfl rfl rfl rfl ?_
                          refine TO.decB (t := 97) (b' := true) rfl (decide_eq_true g72) ?_
                          refine TO.move rfl rfl rfl rfl ?_
                          refine TO.buildSliceS [.int .i64 0, .int .i64 0, .int .i64 0, .int .i64 0, .int .i64 0] [0, 1, 2, 3, 4] rfl rfl rfl rfl TWS3.l25 TWS3.n2 TWS3.z2 rfl rfl (by simp only [setAll, setCells, Value.cells, List.toList_toArray, List.getD_cons_zero, List.getD_cons_succ, List.set_cons_zero, List.set_cons_succ]; rfl) (by kernel_rfl) ?_; intro b73
                          refine TO.callX TWS3.c25 rfl rfl rfl rfl (fun wc hwc => w_acequialow_Longs (a0 := r40) (b1 := [5, 4, 3, 6, 2]) wc (hwc.rs (f := (intC .i64)) (s := 1) (xs := r40) (j := j46) (fun _ => rfl) (List.Mem.tail _ (List.Mem.tail _ (List.Mem.tail _ (List.Mem.head _)))) hn47 hc48 hz50) (hwc.rs (f := (intC .i64)) (s := 1) (xs := [5, 4, 3, 6, 2]) (j := ([])) (fun _ => rfl) (List.Mem.head _) rfl (Nat.le_refl _) someZ) e76) ?_
                          rintro _ _ ⟨rfl, rfl⟩
                          refine TO.pickT rfl rfl rfl rfl rfl ?_
                          refine TO.move rfl rfl rfl rfl ?_
                          refine TO.decB (t := 102) (b' := true) rfl g77 ?_
                          refine TO.move rfl rfl rfl rfl ?_
                          refine TO.bin rfl rfl rfl rfl rfl rfl ?_
                          refine TO.pickT rfl rfl rfl rfl rfl ?_
                          refine TO.move rfl rfl rfl rfl ?_
                          refine TO.decB (t := 106) (b' := true) rfl (decide_eq_true g78) ?_
                          refine TO.move rfl rfl rfl rfl ?_
                          refine TO.bin rfl rfl rfl rfl rfl rfl ?_
                          refine TO.pickT rfl rfl rfl rfl rfl ?_
                          refine TO.move rfl rfl rfl rfl ?_
                          refine TO.decB (t := 110) (b' := false) rfl (decide_eq_false g79) ?_
                          refine TO.shut rfl rfl rfl rfl ?_
                          refine TO.shut rfl rfl rfl rfl ?_
                          refine TO.shut rfl rfl rfl rfl ?_
                          refine TO.pickF rfl rfl rfl rfl rfl ?_
                          refine TO.move rfl rfl rfl rfl ?_
                          refine TO.shut rfl rfl rfl rfl ?_
                          refine TO.shut rfl rfl rfl rfl ?_
                          refine TO.shut rfl rfl rfl rfl ?_
                          refine TO.shut rfl rfl rfl rfl ?_
                          refine TO.pickF rfl rfl rfl rfl rfl ?_
                          refine TO.assign rfl rfl rfl rfl ?_
                          refine TO.done ?_
                          refine X.seq_normal ?_
                          refine T.trim (AllF.cons (t := 0) rfl AllF.nil) ?_
                          refine T.ret ?_
                          obtain rfl := ret1 H
                          exact X.ret1 rfl rfl rfl rfl (Res.tmp rfl) Pick.nil ⟨rfl, rfl⟩
                      ·
                        refine T.regionL (ll := [0, 1, 2, 3, 4, 5, 6, 7, 8, 9, 10, 11, 12, 13, 14, 15, 16, 17, 18, 19, 20, 21, 22, 23, 24, 25, 26, 27, 28, 29, 30, 31, 32, 33, 34, 35]) rfl ?_
                        refine TO.move rfl rfl rfl rfl ?_
                        refine TO.bin rfl rfl rfl rfl rfl rfl ?_
                        refine TO.move rfl rfl rfl rfl ?_
                        refine TO.decB (t := 88) (b' := true) rfl (decide_eq_true g66) ?_
                        refine TO.move rfl rfl rfl rfl ?_
                        refine TO.buildSliceS [.int .i64 0, .int .i64 0, .int .i64 0, .int .i64 0] [0, 1, 2, 3] rfl rfl rfl rfl TWS3.l25 TWS3.n2 TWS3.z2 rfl rfl (by simp only [setAll, setCells, Value.cells, List.toList_toArray, List.getD_cons_zero, List.getD_cons_succ, List.set_cons_zero, List.set_cons_succ]; rfl) (by kernel_rfl) ?_; intro b67
                        refine TO.callX TWS3.c25 rfl rfl rfl rfl (fun wc hwc => w_acequialow_Longs (a0 := r21) (b1 := [(-9), 2, 0, 7]) wc (hwc.rs (f := (intC .i64)) (s := 1) (xs := r21) (j := j27) (fun _ => rfl) (List.Mem.tail _ (List.Mem.tail _ (List.Mem.tail _ (List.Mem.tail _ (List.Mem.tail _ (List.Mem.head _)))))) hn28 hc29 hz31) (hwc.rs (f := (intC .i64)) (s := 1) (xs := [(-9), 2, 0, 7]) (j := ([])) (fun _ => rfl) (List.Mem.head _) rfl (Nat.le_refl _) someZ) e70) ?_
                        rintro _ _ ⟨rfl, rfl⟩
                        refine TO.pickT rfl rfl rfl rfl rfl ?_
                        refine TO.move rfl rfl rfl rfl ?_
                        refine TO.decB (t := 93) (b' := true) rfl g71 ?_
                        refine TO.move rfl rfl rfl rfl ?_
                        refine TO.bin rfl rfl rfl rfl rfl rfl ?_
                        refine TO.pickT rfl rfl rfl rfl rfl ?_
                        refine TO.move rfl rfl rfl rfl ?_
                        refine TO.decB (t := 97) (b' := true) rfl (decide_eq_true g72) ?_
                        refine TO.move rfl rfl rfl rfl ?_
                        refine TO.buildSliceS [.int .i64 0, .int .i64 0, .int .i64 0, .int .i64 0, .int .i64 0] [0, 1, 2, 3, 4] rfl rfl rfl rfl TWS3.l25 TWS3.n2 TWS3.z2 rfl rfl (by simp only [setAll, setCells, Value.cells, List.toList_toArray, List.getD_cons_zero, List.getD_cons_succ, List.set_cons_zero, List.set_cons_succ]; rfl) (by kernel_rfl) ?_; intro b73
                        refine TO.callX TWS3.c25 rfl rfl rfl rfl (fun wc hwc => w_acequialow_Longs (a0 := r40) (b1 := [5, 4, 3, 6, 2]) wc (hwc.rs (f := (intC .i64)) (s := 1) (xs := r40) (j := j46) (fun _ => rfl) (List.Mem.tail _ (List.Mem.tail _ (List.Mem.tail _ (List.Mem.head _)))) hn47 hc48 hz50) (hwc.rs (f := (intC .i64)) (s := 1) (xs := [5, 4, 3, 6, 2]) (j := ([])) (fun _ => rfl) (List.Mem.head _) rfl (Nat.le_refl _) someZ) e76) ?_
                        rintro _ _ ⟨rfl, rfl⟩
                        refine TO.pickT rfl rfl rfl rfl rfl ?_
                        refine TO.move rfl rfl rfl rfl ?_
                        refine TO.decB (t := 102) (b' := true) rfl g77 ?_
                        refine TO.move rfl rfl rfl rfl ?_
                        refine TO.bin rfl rfl rfl rfl rfl rfl ?_
                        refine TO.pickT rfl rfl rfl rfl rfl ?_
                        refine TO.move rfl rfl rfl rfl ?_
                        refine TO.decB (t := 106) (b' := false) rfl (decide_eq_false g78) ?_
                        refine TO.shut rfl rfl rfl rfl ?_
                        refine TO.shut rfl rfl rfl rfl ?_
                        refine TO.pickF rfl rfl rfl rfl rfl ?_
                        refine TO.move rfl rfl rfl rfl ?_
                        refine TO.shut rfl rfl rfl rfl ?_
                        refine TO.shut rfl rfl rfl rfl ?_
                        refine TO.shut rfl rfl rfl rfl ?_
                        refine TO.pickF rfl rfl rfl rfl rfl ?_
                        refine TO.move rfl rfl rfl rfl ?_
                        refine TO.shut rfl rfl rfl rfl ?_
                        refine TO.shut rfl rfl rfl rfl ?_
                        refine TO.shut rfl rfl rfl rfl ?_
                        refine TO.shut rfl rfl rfl rfl ?_
                        refine TO.pickF rfl rfl rfl rfl rfl ?_
                        refine TO.assign rfl rfl rfl rfl ?_
                        refine TO.done ?_
                        refine X.seq_normal ?_
                        refine T.trim (AllF.cons (t := 0) rfl AllF.nil) ?_
                        refine T.ret ?_
                        obtain rfl := ret1 H
                        exact X.ret1 rfl rfl rfl rfl (Res.tmp rfl) Pick.nil ⟨rfl, rfl⟩
                    ·
                      refine T.regionL (ll := [0, 1, 2, 3, 4, 5, 6, 7, 8, 9, 10, 11, 12, 13, 14, 15, 16, 17, 18, 19, 20, 21, 22, 23, 24, 25, 26, 27, 28, 29, 30, 31, 32, 33, 34, 35]) rfl ?_
                      refine TO.move rfl rfl rfl rfl ?_
                      refine TO.bin rfl rfl rfl rfl rfl rfl ?_
                      refine TO.move rfl rfl rfl rfl ?_
                      refine TO.decB (t := 88) (b' := true) rfl (decide_eq_true g66) ?_
                      refine TO.move rfl rfl rfl rfl ?_
                      refine TO.buildSliceS [.int .i64 0, .int .i64 0, .int .i64 0, .int .i64 0] [0, 1, 2, 3] rfl rfl rfl rfl TWS3.l25 TWS3.n2 TWS3.z2 rfl rfl (by simp only [setAll, setCells, Value.cells, List.toList_toArray, List.getD_cons_zero, List.getD_cons_succ, List.set_cons_zero, List.set_cons_succ]; rfl) (by kernel_rfl) ?_; intro b67
                      refine TO.callX TWS3.c25 rfl rfl rfl rfl (fun wc hwc => w_acequialow_Longs (a0 := r21) (b1 := [(-9), 2, 0, 7]) wc (hwc.rs (f := (intC .i64)) (s := 1) (xs := r21) (j := j27) (fun _ => rfl) (List.Mem.tail _ (List.Mem.tail _ (List.Mem.tail _ (List.Mem.tail _ (List.Mem.tail _ (List.Mem.head _)))))) hn28 hc29 hz31) (hwc.rs (f := (intC .i64)) (s := 1) (xs := [(-9), 2, 0, 7]) (j := ([])) (fun _ => rfl) (List.Mem.head _) rfl (Nat.le_refl _) someZ) e70) ?_
                      rintro _ _ ⟨rfl, rfl⟩
                      refine TO.pickT rfl rfl rfl rfl rfl ?_
                      refine TO.move rfl rfl rfl rfl ?_
                      refine TO.decB (t := 93) (b' := true) rfl g71 ?_
                      refine TO.move rfl rfl rfl rfl ?_
                      refine TO.bin rfl rfl rfl rfl rfl rfl ?_
                      refine TO.pickT rfl rfl rfl rfl rfl ?_
                      refine TO.move rfl rfl rfl rfl ?_
                      refine TO.decB (t := 97) (b' := true) rfl (decide_eq_true g72) ?_
                      refine TO.move rfl rfl rfl rfl ?_
                      refine TO.buildSliceS [.int .i64 0, .int .i64 0, .int .i64 0, .int .i64 0, .int .i64 0] [0, 1, 2, 3, 4] rfl rfl rfl rfl TWS3.l25 TWS3.n2 TWS3.z2 rfl rfl (by simp only [setAll, setCells, Value.cells, List.toList_toArray, List.getD_cons_zero, List.getD_cons_succ, List.set_cons_zero, List.set_cons_succ]; rfl) (by kernel_rfl) ?_; intro b73
                      refine TO.callX TWS3.c25 rfl rfl rfl rfl (fun wc hwc => w_acequialow_Longs (a0 := r40) (b1 := [5, 4, 3, 6, 2]) wc (hwc.rs (f := (intC .i64)) (s := 1) (xs := r40) (j := j46) (fun _ => rfl) (List.Mem.tail _ (List.Mem.tail _ (List.Mem.tail _ (List.Mem.head _)))) hn47 hc48 hz50) (hwc.rs (f := (intC .i64)) (s := 1) (xs := [5, 4, 3, 6, 2]) (j := ([])) (fun _ => rfl) (List.Mem.head _) rfl (Nat.le_refl _) someZ) e76) ?_
                      rintro _ _ ⟨rfl, rfl⟩
                      refine TO.pickT rfl rfl rfl rfl rfl ?_
                      refine TO.move rfl rfl rfl rfl ?_
                      refine TO.decB (t := 102) (b' := false) rfl (Bool.eq_false_iff.2 g77) ?_
                      refine TO.shut rfl rfl rfl rfl ?_
                      refine TO.shut rfl rfl rfl rfl ?_
                      refine TO.pickF rfl rfl rfl rfl rfl ?_
                      refine TO.move rfl rfl rfl rfl ?_
                      refine TO.shut rfl rfl rfl rfl ?_
                      refine TO.shut rfl rfl rfl rfl ?_
                      refine TO.pickF rfl rfl rfl rfl rfl ?_
                      refine TO.move rfl rfl rfl rfl ?_
                      refine TO.shut rfl rfl rfl rfl ?_
                      refine TO.shut rfl rfl rfl rfl ?_
                      refine TO.shut rfl rfl rfl rfl ?_
                      refine TO.pickF rfl rfl rfl rfl rfl ?_
                      refine TO.move rfl rfl rfl rfl ?_
                      refine TO.shut rfl rfl rfl rfl ?_
                      refine TO.shut rfl rfl rfl rfl ?_
                      refine TO.shut rfl rfl rfl rfl ?_
                      refine TO.shut rfl rfl rfl rfl ?_
                      refine TO.pickF rfl rfl rfl rfl rfl ?_
                      refine TO.assign rfl rfl rfl rfl ?_
                      refine TO.done ?_
                      refine X.seq_normal ?_
                      refine T.trim (AllF.cons (t := 0) rfl AllF.nil) ?_
                      refine T.ret ?_
                      obtain rfl := ret1 H
                      exact X.ret1 rfl rfl rfl rfl (Res.tmp rfl) Pick.nil ⟨rfl, rfl⟩
                  ·
                    refine T.regionL (ll := [0, 1, 2, 3, 4, 5, 6, 7, 8, 9, 10, 11, 12, 13, 14, 15, 16, 17, 18, 19, 20, 21, 22, 23, 24, 25, 26, 27, 28, 29, 30, 31, 32, 33, 34, 35]) rfl ?_
                    refine TO.move rfl rfl rfl rfl ?_
                    refine TO.bin rfl rfl rfl rfl rfl rfl ?_
                    refine TO.move rfl rfl rfl rfl ?_
                    refine TO.decB (t := 88) (b' := true) rfl (decide_eq_true g66) ?_
                    refine TO.move rfl rfl rfl rfl ?_
                    refine TO.buildSliceS [.int .i64 0, .int .i64 0, .int .i64 0, .int .i64 0] [0, 1, 2, 3] rfl rfl rfl rfl TWS3.l25 TWS3.n2 TWS3.z2 rfl rfl (by simp only [setAll, setCells, Value.cells, List.toList_toArray, List.getD_cons_zero, List.getD_cons_succ, List.set_cons_zero, List.set_cons_succ]; rfl) (by kernel_rfl) ?_; intro b67
                    refine TO.callX TWS3.c25 rfl rfl rfl rfl (fun wc hwc => w_acequialow_Longs (a0 := r21) (b1 := [(-9), 2, 0, 7]) wc (hwc.rs (f := (intC .i64)) (s := 1) (xs := r21) (j := j27) (fun _ => rfl) (List.Mem.tail _ (List.Mem.tail _ (List.Mem.tail _ (List.Mem.tail _ (List.Mem.tail _ (List.Mem.head _)))))) hn28 hc29 hz31) (hwc.rs (f := (intC .i64)) (s := 1) (xs := [(-9), 2, 0, 7]) (j := ([])) (fun _ => rfl) (List.Mem.head _) rfl (Nat.le_refl _) someZ) e70) ?_
                    rintro _ _ ⟨rfl, rfl⟩
                    refine TO.pickT rfl rfl rfl rfl rfl ?_
                    refine TO.move rfl rfl rfl rfl ?_
                    refine TO.decB (t := 93) (b' := true) rfl g71 ?_
                    refine TO.move rfl rfl rfl rfl ?_
                    refine TO.bin rfl rfl rfl rfl rfl rfl ?_
                    refine TO.pickT rfl rfl rfl rfl rfl ?_
                    refine TO.move rfl rfl rfl rfl ?_
                    refine TO.decB (t := 97) (b' := false) rfl (decide_eq_false g72) ?_
                    refine TO.shut rfl rfl rfl rfl ?_
                    refine TO.shut rfl rfl rfl rfl ?_
                    refine TO.shut rfl rfl rfl rfl ?_
                    refine TO.pickF rfl rfl rfl rfl rfl ?_
                    refine TO.move rfl rfl rfl rfl ?_
                    refine TO.shut rfl rfl rfl rfl ?_
                    refine TO.shut rfl rfl rfl rfl ?_
                    refine TO.pickF rfl rfl rfl rfl rfl ?_
                    refine TO.move rfl rfl rfl rfl ?_
                    refine TO.shut rfl rfl rfl rfl ?_
                    refine TO.shut rfl rfl rfl rfl ?_
                    refine TO.pickF rfl rfl rfl rfl rfl ?_
                    refine TO.move rfl rfl rfl rfl ?_
                    refine TO.shut rfl rfl rfl rfl ?_
                    refine TO.shut rfl rfl rfl rfl ?_
                    refine TO.shut rfl rfl rfl rfl ?_
                    refine TO.pickF rfl rfl rfl rfl rfl ?_
                    refine TO.move rfl rfl rfl rfl ?_
                    refine TO.shut rfl rfl rfl rfl ?_
                    refine TO.shut rfl rfl rfl rfl ?_
                    refine TO.shut rfl rfl rfl rfl ?_
                    refine TO.shut rfl rfl rfl rfl ?_
                    refine TO.pickF rfl rfl rfl rfl rfl ?_
                    refine TO.assign rfl rfl rfl rfl ?_
                    refine TO.done ?_
                    refine X.seq_normal ?_
                    refine T.trim (AllF.cons (t := 0) rfl AllF.nil) ?_
                    refine T.ret ?_
                    obtain rfl := ret1 H
                    exact X.ret1 rfl rfl rfl rfl (Res.tmp rfl) Pick.nil ⟨rfl, rfl⟩
                ·
                  refine T.regionL (ll := [0, 1, 2, 3, 4, 5, 6, 7, 8, 9, 10, 11, 12, 13, 14, 15, 16, 17, 18, 19, 20, 21, 22, 23, 24, 25, 26, 27, 28, 29, 30, 31, 32, 33, 34, 35]) rfl ?_
                  refine TO.move rfl rfl rfl rfl ?_
                  refine TO.bin rfl rfl rfl rfl rfl rfl ?_
                  refine TO.move rfl rfl rfl rfl ?_
                  refine TO.decB (t := 88) (b' := true) rfl (decide_eq_true g66) ?_
                  refine TO.move rfl rfl rfl rfl ?_
                  refine TO.buildSliceS [.int .i64 0, .int .i64 0, .int .i64 0, .int .i64 0] [0, 1, 2, 3] rfl rfl rfl rfl TWS3.l25 TWS3.n2 TWS3.z2 rfl rfl (by simp only [setAll, setCells, Value.cells, List.toList_toArray, List.getD_cons_zero, List.getD_cons_succ, List.set_cons_zero, List.set_cons_succ]; rfl) (by kernel_rfl) ?_; intro b67
                  refine TO.callX TWS3.c25 rfl rfl rfl rfl (fun wc hwc => w_acequialow_Longs (a0 := r21) (b1 := [(-9), 2, 0, 7]) wc (hwc.rs (f := (intC .i64)) (s := 1) (xs := r21) (j := j27) (fun _ => rfl) (List.Mem.tail _ (List.Mem.tail _ (List.Mem.tail _ (List.Mem.tail _ (List.Mem.tail _ (List.Mem.head _)))))) hn28 hc29 hz31) (hwc.rs (f := (intC .i64)) (s := 1) (xs := [(-9), 2, 0, 7]) (j := ([])) (fun _ => rfl) (List.Mem.head _) rfl (Nat.le_refl _) someZ) e70) ?_
                  rintro _ _ ⟨rfl, rfl⟩
                  refine TO.pickT rfl rfl rfl rfl rfl ?_
                  refine TO.move rfl rfl rfl rfl ?_
                  refine TO.decB (t := 93) (b' := false) rfl (Bool.eq_false_iff.2 g71) ?_
                  refine TO.shut rfl rfl rfl rfl ?_
                  refine TO.shut rfl rfl rfl rfl ?_
                  refine TO.pickF rfl rfl rfl rfl rfl ?_
                  refine TO.move rfl rfl rfl rfl ?_
                  refine TO.shut rfl rfl rfl rfl ?_
                  refine TO.shut rfl rfl rfl rfl ?_
                  refine TO.shut rfl rfl rfl rfl ?_
                  refine TO.pickF rfl rfl rfl rfl rfl ?_
                  refine TO.move rfl rfl rfl rfl ?_
                  refine TO.shut rfl rfl rfl rfl ?_
                  refine TO.shut rfl rfl rfl rfl ?_
                  refine TO.pickF rfl rfl rfl rfl rfl ?_
                  refine TO.move rfl rfl rfl rfl ?_
                  refine TO.shut rfl rfl rfl rfl ?_
                  refine TO.shut rfl rfl rfl rfl ?_
                  refine TO.pickF rfl rfl rfl rfl rfl ?_
                  refine TO.move rfl rfl rfl rfl ?_
                  refine TO.shut rfl rfl rfl rfl ?_
                  refine TO.shut rfl rfl rfl rfl ?_
                  refine TO.shut rfl rfl rfl rfl ?_
                  refine TO.pickF rfl rfl rfl rfl rfl ?_
                  refine TO.move rfl rfl rfl rfl ?_
                  refine TO.shut rfl rfl rfl rfl ?_
                  refine TO.shut rfl rfl rfl rfl ?_
                  refine TO.shut rfl rfl rfl rfl ?_
                  refine TO.shut rfl rfl rfl rfl ?_
                  refine TO.pickF rfl rfl rfl rfl rfl ?_
                  refine TO.assign rfl rfl rfl rfl ?_
                  refine TO.done ?_
                  refine X.seq_normal ?_
                  refine T.trim (AllF.cons (t := 0) rfl AllF.nil) ?_
                  refine T.ret ?_
                  obtain rfl := ret1 H
                  exact X.ret1 rfl rfl rfl rfl (Res.tmp rfl) Pick.nil ⟨rfl, rfl⟩
              ·
                refine T.regionL (ll := [0, 1, 2, 3, 4, 5, 6, 7, 8, 9, 10, 11, 12, 13, 14, 15, 16, 17, 18, 19, 20, 21, 22, 23, 24, 25, 26, 27, 28, 29, 30, 31, 32, 33, 34, 35]) rfl ?_
                refine TO.move rfl rfl rfl rfl ?_
                refine TO.bin rfl rfl rfl rfl rfl rfl ?_
                refine TO.move rfl rfl rfl rfl ?_
                refine TO.decB (t := 88) (b' := false) rfl (decide_eq_false g66) ?_
                refine TO.shut rfl rfl rfl rfl ?_
                refine TO.shut rfl rfl rfl rfl ?_
                refine TO.shut rfl rfl rfl rfl ?_
                refine TO.pickF rfl rfl rfl rfl rfl ?_
                refine TO.move rfl rfl rfl rfl ?_
                refine TO.shut rfl rfl rfl rfl ?_
                refine TO.shut rfl rfl rfl rfl ?_
                refine TO.pickF rfl rfl rfl rfl rfl ?_
                refine TO.move rfl rfl rfl rfl ?_
                refine TO.shut rfl rfl rfl rfl ?_
                refine TO.shut rfl rfl rfl rfl ?_
                refine TO.shut rfl rfl rfl rfl ?_
                refine TO.pickF rfl rfl rfl rfl rfl ?_
                refine TO.move rfl rfl rfl rfl ?_
                refine TO.shut rfl rfl rfl rfl ?_
                refine TO.shut rfl rfl rfl rfl ?_
                refine TO.pickF rfl rfl rfl rfl rfl ?_
                refine TO.move rfl rfl rfl rfl ?_
                refine TO.shut rfl rfl rfl rfl ?_
                refine TO.shut rfl rfl rfl rfl ?_
                refine TO.pickF rfl rfl rfl rfl rfl ?_
                refine TO.move rfl rfl rfl rfl ?_
                refine TO.shut rfl rfl rfl rfl ?_
                refine TO.shut rfl rfl rfl rfl ?_
                refine TO.shut rfl rfl rfl rfl ?_
                refine TO.pickF rfl rfl rfl rfl rfl ?_
                refine TO.move rfl rfl rfl rfl ?_
                refine TO.shut rfl rfl rfl rfl ?_
                refine TO.shut rfl rfl rfl rfl ?_
                refine TO.shut rfl rfl rfl rfl ?_
                refine TO.shut rfl rfl rfl rfl ?_
                refine TO.pickF rfl rfl rfl rfl rfl ?_
                refine TO.assign rfl rfl rfl rfl ?_
                refine TO.done ?_
                refine X.seq_normal ?_
                refine T.trim (AllF.cons (t := 0) rfl AllF.nil) ?_
                refine T.ret ?_
                obtain rfl := ret1 H
                exact X.ret1 rfl rfl rfl rfl (Res.tmp rfl) Pick.nil ⟨rfl, rfl⟩
/-- acequia/acequialaw03.hops -/
theorem w_acequialaw03_hops {n0 : Net} {v1 : Int} {l2 : List Int} {n0_Arcs_b : Option Addr} {n0_Arcs_n : Nat} {n0_Arcs_c : Nat} {l2_b : Option Addr} {l2_n : Nat} {l2_c : Nat} (w : World) (h_n0_Arcs : RS w [] arcC 3 n0_Arcs_b n0_Arcs_n n0_Arcs_c n0.Arcs) (h_l2 : RS w [] (intC .u8) 1 l2_b l2_n l2_c l2) {r0 : List Hop} {r1 : Int} (H : m_acequialaw03_hops n0 v1 l2 = some (r0, r1)) : Fnc Try.prog 33 #[.agg #[.int .i64 n0.N, .int .i64 n0.S, .int .i64 n0.T, .slice n0_Arcs_b n0_Arcs_n n0_Arcs_c], .int .i64 v1, .slice l2_b l2_n l2_c] w [] (fun v N => ∃ (ob_0 : Option Nat) (n_0 : Nat) (c_0 : Nat) (j_0 : List Value), v = .tuple #[.slice (sb ob_0) n_0 c_0, .int .i64 r1] ∧ N = [(ob_0, .cells (arr hopC r0 j_0).toArray 60 (0, 0))] ∧ r0.length = n_0 ∧ n_0 ≤ c_0 ∧ j_0.length = (c_0 - n_0) * 2 ∧ (ob_0 = none → c_0 = 0)) := by
  unfold m_acequialaw03_hops at H
  refine Fnc.enter (vs := [.agg #[.int .i64 n0.N, .int .i64 n0.S, .int .i64 n0.T, .slice n0_Arcs_b n0_Arcs_n n0_Arcs_c], .int .i64 v1, .slice l2_b l2_n l2_c]) Try.func33 rfl rfl (Inv.refl w) ?_
  refine T.seq ?_
  refine T.regionL (ll := [0, 1, 2]) rfl ?_
  refine TO.boxA rfl rfl rfl rfl ?_; intro b1
  refine TO.assign rfl rfl rfl rfl ?_
  refine TO.assign rfl rfl rfl rfl ?_
  refine TO.done ?_
  refine X.seq_normal ?_
  refine T.seq ?_
  refine T.regionL (ll := [0]) rfl ?_
  refine TO.assign rfl rfl rfl rfl ?_
  refine TO.done ?_
  refine X.seq_normal ?_
  refine T.seq ?_
  refine T.seq ?_
  refine T.regionL (ll := [0, 1, 2]) rfl ?_
  refine TO.move rfl rfl rfl rfl ?_
  refine TO.lenX (xs := l2) h_l2.len rfl rfl rfl rfl rfl TWS3.l52 ?_
  refine TO.move rfl rfl rfl rfl ?_
  refine TO.done ?_
  refine X.seq_normal ?_
  refine T.meetSE6 (fun (v107 : Int) (out108 : List Hop) (n109 : Nat) (c110 : Nat) (ob111 : Option Nat) (j112 : List Value) => m_acequialaw03_hops_j6 v107 out108 = some (r0, r1) ∧ out108.length = n109 ∧ n109 ≤ c110 ∧ j112.length = (c110 - n109) * 2 ∧ (ob111 = none → c110 = 0)) (fun (v107 : Int) (out108 : List Hop) (n109 : Nat) (c110 : Nat) (ob111 : Option Nat) (j112 : List Value) => [(1, .int .i64 v107), (8, .slice (sb ob111) n109 c110)]) (fun (v107 : Int) (out108 : List Hop) (n109 : Nat) (c110 : Nat) (ob111 : Option Nat) (j112 : List Value) => [(ob111, .cells (arr hopC out108 j112).toArray 60 (0, 0))]) ?_ ?_
  ·
    refine T.block ?_
    obtain ⟨o_1, e_1, K_1⟩ := bd_some H
    refine T.loopE8 (fun (m_1 : Nat) (v3 : Int) (out4 : List Hop) (n5 : Nat) (c6 : Nat) (ob7 : Option Nat) (j8 : List Value) (x14 : Int) => loopM (fun s => m_acequialaw03_hops_s1 n0 l2 s.1 s.2.1 s.2.2) m_1 (v3, out4, x14) = some o_1 ∧ out4.length = n5 ∧ n5 ≤ c6 ∧ j8.length = (c6 - n5) * 2 ∧ (ob7 = none → c6 = 0)) (fun (m_1 : Nat) (v3 : Int) (out4 : List Hop) (n5 : Nat) (c6 : Nat) (ob7 : Option Nat) (j8 : List Value) (x14 : Int) => [(1, .int .i64 v3), (3, .pointer (some ⟨b1, 0, none⟩)), (8, .slice (sb ob7) n5 c6), (15, .slice l2_b l2_n l2_c), (16, .int .i64 (l2.length : Int)), (17, .int .i64 x14)]) (fun (m_1 : Nat) (v3 : Int) (out4 : List Hop) (n5 : Nat) (c6 : Nat) (ob7 : Option Nat) (j8 : List Value) (x14 : Int) => [(some b1, .cells #[.int .i64 n0.N, .int .i64 n0.S, .int .i64 n0.T, .slice n0_Arcs_b n0_Arcs_n n0_Arcs_c] 24 (0, 0)), (ob7, .cells (arr hopC out4 j8).toArray 60 (0, 0))]) (fun (m_1 : Nat) (v3 : Int) (out4 : List Hop) (n5 : Nat) (c6 : Nat) (ob7 : Option Nat) (j8 : List Value) (x14 : Int) => m_1) FUEL v1 ([]) 0 0 none ([]) 0 ⟨e_1, rfl, (Nat.le_refl _), (zeroJ 0 _), (fun _ => rfl)⟩ (AllF.cons rfl (AllF.cons rfl (AllF.cons rfl (AllF.cons rfl (AllF.cons rfl (AllF.cons rfl AllF.nil)))))) (Pick.cons (Take.head _ _) (Pick.none Pick.nil)) ?_
    rintro m_1 v3 out4 n5 c6 ob7 j8 x14 ⟨H, hn9, hc10, hj11, hz12⟩
    obtain ⟨n_1, r_1, rfl, H, C_1⟩ := loopM_some H
    have H : m_acequialaw03_hops_s1 n0 l2 v3 out4 x14 = some r_1 := H
    unfold m_acequialaw03_hops_s1 at H
    refine T.seq ?_
    refine T.regionL (ll := [0]) rfl ?_
    refine TO.bin rfl rfl rfl rfl rfl rfl ?_
    refine TO.done ?_
    refine X.seq_normal ?_
    refine T.seq ?_
    rcases ite_some H with ⟨g15, H⟩ | ⟨g15, H⟩
    ·
      refine T.condPT rfl g15 ?_
      refine T.skip ?_
      refine X.seq_normal ?_
      refine T.seq ?_
      refine T.meetSE6 (fun (v95 : Int) (out96 : List Hop) (n97 : Nat) (c98 : Nat) (ob99 : Option Nat) (j100 : List Value) => m_acequialaw03_hops_j5 x14 v95 out96 = some r_1 ∧ out96.length = n97 ∧ n97 ≤ c98 ∧ j100.length = (c98 - n97) * 2 ∧ (ob99 = none → c98 = 0)) (fun (v95 : Int) (out96 : List Hop) (n97 : Nat) (c98 : Nat) (ob99 : Option Nat) (j100 : List Value) => [(1, .int .i64 v95), (3, .pointer (some ⟨b1, 0, none⟩)), (8, .slice (sb ob99) n97 c98), (15, .slice l2_b l2_n l2_c), (16, .int .i64 (l2.length : Int)), (17, .int .i64 x14)]) (fun (v95 : Int) (out96 : List Hop) (n97 : Nat) (c98 : Nat) (ob99 : Option Nat) (j100 : List Value) => [(some b1, .cells #[.int .i64 n0.N, .int .i64 n0.S, .int .i64 n0.T, .slice n0_Arcs_b n0_Arcs_n n0_Arcs_c] 24 (0, 0)), (ob99, .cells (arr hopC out96 j100).toArray 60 (0, 0))]) ?_ ?_
      ·
        refine T.block ?_
        refine T.seq ?_
        obtain ⟨g16, H⟩ := gd_some H
        refine T.regionL (ll := [0, 1, 2]) rfl ?_
        refine TO.ixR h_l2 g16 rfl rfl rfl rfl rfl TWS3.l52 TWS3.n5 ?_
        refine TO.ldIR h_l2 g16 rfl rfl rfl rfl TWS3.s5 ?_
        refine TO.assign rfl rfl rfl rfl ?_
        refine TO.done ?_
        refine X.seq_normal ?_
        refine T.seq ?_
        refine T.regionL (ll := [0]) rfl ?_
        refine TO.assign rfl rfl rfl rfl ?_
        refine TO.done ?_
        refine X.seq_normal ?_
        refine T.seq ?_
        refine T.seq ?_
        refine T.regionL (ll := [0, 1, 2, 3]) rfl ?_
        refine TO.fieldAddr0 rfl rfl rfl rfl TWS3.f24_3 ?_
        refine TO.load1 rfl rfl rfl rfl TWS3.s22 (List.Mem.head _) rfl ?_
        refine TO.lenX (xs := n0.Arcs) h_n0_Arcs.len rfl rfl rfl rfl rfl TWS3.l22 ?_
        refine TO.move rfl rfl rfl rfl ?_
        refine TO.done ?_
        refine X.seq_normal ?_
        refine T.meetSE5 (fun (may66 : List Hop) (n67 : Nat) (c68 : Nat) (ob69 : Option Nat) (j70 : List Value) => m_acequialaw03_hops_j4 n0 l2 v3 out4 x14 may66 = some r_1 ∧ may66.length = n67 ∧ n67 ≤ c68 ∧ j70.length = (c68 - n67) * 2 ∧ (ob69 = none → c68 = 0)) (fun (may66 : List Hop) (n67 : Nat) (c68 : Nat) (ob69 : Option Nat) (j70 : List Value) => [(1, .int .i64 v3), (3, .pointer (some ⟨b1, 0, none⟩)), (8, .slice (sb ob7) n5 c6), (10, .int .u8 (l2.getD x14.toNat 0)), (11, .slice (sb ob69) n67 c68), (15, .slice l2_b l2_n l2_c), (16, .int .i64 (l2.length : Int)), (17, .int .i64 x14)]) (fun (may66 : List Hop) (n67 : Nat) (c68 : Nat) (ob69 : Option Nat) (j70 : List Value) => [(some b1, .cells #[.int .i64 n0.N, .int .i64 n0.S, .int .i64 n0.T, .slice n0_Arcs_b n0_Arcs_n n0_Arcs_c] 24 (0, 0)), (ob7, .cells (arr hopC out4 j8).toArray 60 (0, 0)), (ob69, .cells (arr hopC may66 j70).toArray 60 (0, 0))]) ?_ ?_
        ·
          refine T.block ?_
          obtain ⟨o_2, e_2, K_2⟩ := bd_some H
          refine T.loopE7 (fun (m_2 : Nat) (may17 : List Hop) (n18 : Nat) (c19 : Nat) (ob20 : Option Nat) (j21 : List Value) (x27 : Int) => loopM (fun s => m_acequialaw03_hops_s2 n0 v3 s.1 s.2) m_2 (may17, x27) = some o_2 ∧ may17.length = n18 ∧ n18 ≤ c19 ∧ j21.length = (c19 - n18) * 2 ∧ (ob20 = none → c19 = 0)) (fun (m_2 : Nat) (may17 : List Hop) (n18 : Nat) (c19 : Nat) (ob20 : Option Nat) (j21 : List Value) (x27 : Int) => [(1, .int .i64 v3), (3, .pointer (some ⟨b1, 0, none⟩)), (8, .slice (sb ob7) n5 c6), (10, .int .u8 (l2.getD x14.toNat 0)), (11, .slice (sb ob20) n18 c19), (15, .slice l2_b l2_n l2_c), (16, .int .i64 (l2.length : Int)), (17, .int .i64 x14), (22, .slice n0_Arcs_b n0_Arcs_n n0_Arcs_c), (23, .int .i64 (n0.Arcs.length : Int)), (24, .int .i64 x27)]) (fun (m_2 : Nat) (may17 : List Hop) (n18 : Nat) (c19 : Nat) (ob20 : Option Nat) (j21 : List Value) (x27 : Int) => [(some b1, .cells #[.int .i64 n0.N, .int .i64 n0.S, .int .i64 n0.T, .slice n0_Arcs_b n0_Arcs_n n0_Arcs_c] 24 (0, 0)), (ob7, .cells (arr hopC out4 j8).toArray 60 (0, 0)), (ob20, .cells (arr hopC may17 j21).toArray 60 (0, 0))]) (fun (m_2 : Nat) (may17 : List Hop) (n18 : Nat) (c19 : Nat) (ob20 : Option Nat) (j21 : List Value) (x27 : Int) => m_2) FUEL ([]) 0 0 none ([]) 0 ⟨e_2, rfl, (Nat.le_refl _), (zeroJ 0 _), (fun _ => rfl)⟩ (AllF.cons rfl (AllF.cons rfl (AllF.cons rfl (AllF.cons rfl (AllF.cons rfl (AllF.cons rfl (AllF.cons rfl (AllF.cons rfl (AllF.cons rfl (AllF.cons rfl (AllF.cons rfl AllF.nil))))))))))) (Pick.cons (Take.head _ _) (Pick.cons (Take.head _ _) (Pick.none Pick.nil))) ?_
          rintro m_2 may17 n18 c19 ob20 j21 x27 ⟨H, hn22, hc23, hj24, hz25⟩
          obtain ⟨n_2, r_2, rfl, H, C_2⟩ := loopM_some H
          have H : m_acequialaw03_hops_s2 n0 v3 may17 x27 = some r_2 := H
          unfold m_acequialaw03_hops_s2 at H
          refine T.seq ?_
          refine T.regionL (ll := [0]) rfl ?_
          refine TO.bin rfl rfl rfl rfl rfl rfl ?_
          refine TO.done ?_
          refine X.seq_normal ?_
          refine T.seq ?_
          rcases ite_some H with ⟨g28, H⟩ | ⟨g28, H⟩
          ·
            refine T.condPT rfl g28 ?_
            refine T.skip ?_
            refine X.seq_normal ?_
            refine T.seq ?_
            refine T.block ?_
            refine T.seq ?_
            obtain ⟨g29, H⟩ := gd_some H
            refine T.regionL (ll := [0, 1, 2, 3, 4, 5]) rfl ?_
            refine TO.move rfl rfl rfl rfl ?_
            refine TO.ixR h_n0_Arcs g29 rfl rfl rfl rfl rfl TWS3.l22 TWS3.n28 ?_
            refine TO.ldSR (cs := [.int .i64 ((n0.Arcs.getD x27.toNat default).fr), .int .i64 ((n0.Arcs.getD x27.toNat default).to), .int .i64 ((n0.Arcs.getD x27.toNat default).cap)]) default h_n0_Arcs g29 rfl rfl rfl rfl rfl TWS3.a28 ?_
            refine TO.allocA rfl rfl rfl TWS3.z28 ?_; intro b30
            refine TO.assign rfl rfl rfl rfl ?_
            refine TO.storeA rfl rfl rfl rfl (Take.head _ _) TWS3.n28 rfl rfl rfl ?_
            refine TO.done ?_
            refine X.seq_normal ?_
            refine T.seq ?_
            refine T.seq ?_
            refine T.regionL (ll := [0, 1, 2, 3]) rfl ?_
            refine TO.fieldAddr0 rfl rfl rfl rfl TWS3.f28_0 ?_
            refine TO.load1 rfl rfl rfl rfl TWS3.s3 (List.Mem.head _) rfl ?_
            refine TO.move rfl rfl rfl rfl ?_
            refine TO.bin rfl rfl rfl rfl rfl rfl ?_
            refine TO.done ?_
            refine X.seq_normal ?_
            refine T.meetSE5 (fun (may43 : List Hop) (n44 : Nat) (c45 : Nat) (ob46 : Option Nat) (j47 : List Value) => m_acequialaw03_hops_j3 n0 v3 x27 may43 = some r_2 ∧ may43.length = n44 ∧ n44 ≤ c45 ∧ j47.length = (c45 - n44) * 2 ∧ (ob46 = none → c45 = 0)) (fun (may43 : List Hop) (n44 : Nat) (c45 : Nat) (ob46 : Option Nat) (j47 : List Value) => [(1, .int .i64 v3), (3, .pointer (some ⟨b1, 0, none⟩)), (8, .slice (sb ob7) n5 c6), (10, .int .u8 (l2.getD x14.toNat 0)), (11, .slice (sb ob46) n44 c45), (12, .int .i64 x27), (13, .pointer (some ⟨b30, 0, none⟩)), (15, .slice l2_b l2_n l2_c), (16, .int .i64 (l2.length : Int)), (17, .int .i64 x14), (22, .slice n0_Arcs_b n0_Arcs_n n0_Arcs_c), (23, .int .i64 (n0.Arcs.length : Int)), (24, .int .i64 x27)]) (fun (may43 : List Hop) (n44 : Nat) (c45 : Nat) (ob46 : Option Nat) (j47 : List Value) => [(some b1, .cells #[.int .i64 n0.N, .int .i64 n0.S, .int .i64 n0.T, .slice n0_Arcs_b n0_Arcs_n n0_Arcs_c] 24 (0, 0)), (ob7, .cells (arr hopC out4 j8).toArray 60 (0, 0)), (ob46, .cells (arr hopC may43 j47).toArray 60 (0, 0)), (some b30, .cells #[.int .i64 ((n0.Arcs.getD x27.toNat default).fr), .int .i64 ((n0.Arcs.getD x27.toNat default).to), .int .i64 ((n0.Arcs.getD x27.toNat default).cap)] 28 (0, 0))]) ?_ ?_
            ·
              rcases ite_some H with ⟨g32, H⟩ | ⟨g32, H⟩
              ·
                refine T.condPT rfl g32 ?_
                obtain ⟨g35, H⟩ := gd_some H
                refine T.regionL (ll := [0, 1, 2, 3, 4, 5]) rfl ?_
                refine TO.move rfl rfl rfl rfl ?_
                refine TO.move rfl rfl rfl rfl ?_
                refine TO.buildS (t := 60) [.int .i64 0, .bool false] [0, 1] rfl rfl rfl rfl (by simp only [setAll, setCells, Value.cells, List.toList_toArray, List.getD_cons_zero, List.getD_cons_succ, List.set_cons_zero, List.set_cons_succ]; rfl) (by kernel_rfl) ?_
                refine TO.buildSliceS [.int .i64 0, .bool false] [0] rfl rfl rfl rfl TWS3.l54 TWS3.n60 TWS3.z60 rfl rfl (by simp only [setAll, setCells, Value.cells, List.toList_toArray, List.getD_cons_zero, List.getD_cons_succ, List.set_cons_zero, List.set_cons_succ]; rfl) (by kernel_rfl) ?_; intro b33
                refine TO.app (f := hopC) (s := 2) (xs := may17) (ob := ob20) (j := j21) (ys := [(Hop.mk x27 false)]) (fun _ => rfl) (fun _ => rfl) TWS3el54 g35 rfl rfl rfl rfl rfl (Take.tail (Take.tail (Take.tail (Take.tail (Take.head _ _))))) hn22 hc23 hj24 hz25 (fun wc hwc => (hwc.rs (f := hopC) (s := 2) (xs := [(Hop.mk x27 false)]) (j := ([])) (fun _ => rfl) (List.Mem.head _) rfl (Nat.le_refl _) someZ)) ?_; intro ob36 c37 j38 hc39 hj40 hz41
                refine TO.assign rfl rfl rfl rfl ?_
                refine TO.done ?_
                exact X.metE5 (may17 ++ ([(Hop.mk x27 false)])) (n18 + 1) c37 ob36 j38 ⟨H, (lenApp hn22 rfl), hc39, hj40, hz41⟩ (AllF.cons rfl (AllF.cons rfl (AllF.cons rfl (AllF.cons rfl (AllF.cons rfl (AllF.cons rfl (AllF.cons rfl (AllF.cons rfl (AllF.cons rfl (AllF.cons rfl (AllF.cons rfl (AllF.cons rfl (AllF.cons rfl AllF.nil))))))))))))) (Pick.cons (Take.tail (Take.tail (Take.tail (Take.head _ _)))) (Pick.cons (Take.tail (Take.tail (Take.tail (Take.head _ _)))) (Pick.cons (Take.head _ _) (Pick.cons (Take.tail (Take.head _ _)) Pick.nil))))
              ·
                refine T.condPF rfl g32 ?_
                refine T.skip ?_
                exact X.metE5 may17 n18 c19 ob20 j21 ⟨H, hn22, hc23, hj24, hz25⟩ (AllF.cons rfl (AllF.cons rfl (AllF.cons rfl (AllF.cons rfl (AllF.cons rfl (AllF.cons rfl (AllF.cons rfl (AllF.cons rfl (AllF.cons rfl (AllF.cons rfl (AllF.cons rfl (AllF.cons rfl (AllF.cons rfl AllF.nil))))))))))))) (Pick.cons (Take.tail (Take.head _ _)) (Pick.cons (Take.tail (Take.head _ _)) (Pick.cons (Take.tail (Take.head _ _)) (Pick.cons (Take.head _ _) Pick.nil))))
            · rintro may43 n44 c45 ob46 j47 ⟨H, hn48, hc49, hj50, hz51⟩
              unfold m_acequialaw03_hops_j3 at H
              refine T.seq ?_
              refine T.regionL (ll := [0, 1, 2, 3]) rfl ?_
              refine TO.fieldAddr0 rfl rfl rfl rfl TWS3.f28_1 ?_
              refine TO.load1 rfl rfl rfl rfl TWS3.s3 (List.Mem.tail _ (List.Mem.tail _ (List.Mem.tail _ (List.Mem.head _)))) rfl ?_
              refine TO.move rfl rfl rfl rfl ?_
              refine TO.bin rfl rfl rfl rfl rfl rfl ?_
              refine TO.done ?_
              refine X.seq_normal ?_
              rcases ite_some H with ⟨g53, H⟩ | ⟨g53, H⟩
              ·
                refine T.condPT rfl g53 ?_
                obtain ⟨g56, H⟩ := gd_some H
                refine T.regionL (ll := [0, 1, 2, 3, 4, 5]) rfl ?_
                refine TO.move rfl rfl rfl rfl ?_
                refine TO.move rfl rfl rfl rfl ?_
                refine TO.buildS (t := 60) [.int .i64 0, .bool false] [0, 1] rfl rfl rfl rfl (by simp only [setAll, setCells, Value.cells, List.toList_toArray, List.getD_cons_zero, List.getD_cons_succ, List.set_cons_zero, List.set_cons_succ]; rfl) (by kernel_rfl) ?_
                refine TO.buildSliceS [.int .i64 0, .bool false] [0] rfl rfl rfl rfl TWS3.l54 TWS3.n60 TWS3.z60 rfl rfl (by simp only [setAll, setCells, Value.cells, List.toList_toArray, List.getD_cons_zero, List.getD_cons_succ, List.set_cons_zero, List.set_cons_succ]; rfl) (by kernel_rfl) ?_; intro b54
                refine TO.app (f := hopC) (s := 2) (xs := may43) (ob := ob46) (j := j47) (ys := [(Hop.mk x27 true)]) (fun _ => rfl) (fun _ => rfl) TWS3el54 g56 rfl rfl rfl rfl rfl (Take.tail (Take.tail (Take.tail (Take.head _ _)))) hn48 hc49 hj50 hz51 (fun wc hwc => (hwc.rs (f := hopC) (s := 2) (xs := [(Hop.mk x27 true)]) (j := ([])) (fun _ => rfl) (List.Mem.head _) rfl (Nat.le_refl _) someZ)) ?_; intro ob57 c58 j59 hc60 hj61 hz62
                refine TO.assign rfl rfl rfl rfl ?_
                refine TO.done ?_
                refine X.block_normal ?_
                refine X.seq_normal ?_
                refine T.trim (AllF.cons (t := 1) rfl (AllF.cons (t := 3) rfl (AllF.cons (t := 8) rfl (AllF.cons (t := 10) rfl (AllF.cons (t := 11) rfl (AllF.cons (t := 15) rfl (AllF.cons (t := 16) rfl (AllF.cons (t := 17) rfl (AllF.cons (t := 22) rfl (AllF.cons (t := 23) rfl (AllF.cons (t := 24) rfl AllF.nil))))))))))) ?_
                obtain ⟨g64, H⟩ := gd_some H
                refine T.regionL (ll := [0, 1]) rfl ?_
                refine TO.addG g64 rfl rfl rfl rfl rfl ?_
                refine TO.move rfl rfl rfl rfl ?_
                refine TO.done ?_
                have H := loop_next H C_2
                exact X.againE7 n_2 (may43 ++ ([(Hop.mk x27 true)])) (n44 + 1) c58 ob57 j59 (x27 + 1) ⟨H, (lenApp hn48 rfl), hc60, hj61, hz62⟩ (Nat.lt_succ_self _) (AllF.cons rfl (AllF.cons rfl (AllF.cons rfl (AllF.cons rfl (AllF.cons rfl (AllF.cons rfl (AllF.cons rfl (AllF.cons rfl (AllF.cons rfl (AllF.cons rfl (AllF.cons rfl AllF.nil))))))))))) (Pick.cons (Take.tail (Take.tail (Take.head _ _))) (Pick.cons (Take.tail (Take.tail (Take.head _ _))) (Pick.cons (Take.head _ _) Pick.nil)))
              ·
                refine T.condPF rfl g53 ?_
                refine T.skip ?_
                refine X.block_normal ?_
                refine X.seq_normal ?_
                obtain ⟨g65, H⟩ := gd_some H
                refine T.regionL (ll := [0, 1]) rfl ?_
                refine TO.addG g65 rfl rfl rfl rfl rfl ?_
                refine TO.move rfl rfl rfl rfl ?_
                refine TO.done ?_
                have H := loop_next H C_2
                exact X.againE7 n_2 may43 n44 c45 ob46 j47 (x27 + 1) ⟨H, hn48, hc49, hj50, hz51⟩ (Nat.lt_succ_self _) (AllF.cons rfl (AllF.cons rfl (AllF.cons rfl (AllF.cons rfl (AllF.cons rfl (AllF.cons rfl (AllF.cons rfl (AllF.cons rfl (AllF.cons rfl (AllF.cons rfl (AllF.cons rfl AllF.nil))))))))))) (Pick.cons (Take.head _ _) (Pick.cons (Take.head _ _) (Pick.cons (Take.head _ _) Pick.nil)))
          ·
            refine T.condPF rfl g28 ?_
            refine T.exit ?_
            refine X.then_exit ?_
            have H := loop_exitE H C_2 ▸ K_2
            refine X.then_exit ?_
            refine X.block_here ?_
            exact X.metE5 may17 n18 c19 ob20 j21 ⟨H, hn22, hc23, hj24, hz25⟩ (AllF.cons rfl (AllF.cons rfl (AllF.cons rfl (AllF.cons rfl (AllF.cons rfl (AllF.cons rfl (AllF.cons rfl (AllF.cons rfl AllF.nil)))))))) (Pick.cons (Take.head _ _) (Pick.cons (Take.head _ _) (Pick.cons (Take.head _ _) Pick.nil)))
        · rintro may66 n67 c68 ob69 j70 ⟨H, hn71, hc72, hj73, hz74⟩
          unfold m_acequialaw03_hops_j4 at H
          refine T.seq ?_
          refine T.seq ?_
          refine T.regionL (ll := [0, 1, 2]) rfl ?_
          refine TO.move rfl rfl rfl rfl ?_
          refine TO.lenX (xs := may66) hn71 rfl rfl rfl rfl rfl TWS3.l54 ?_
          refine TO.bin rfl rfl rfl rfl rfl rfl ?_
          refine TO.done ?_
          refine X.seq_normal ?_
          rcases ite_some H with ⟨g76, H⟩ | ⟨g76, H⟩
          ·
            refine T.condPT rfl g76 ?_
            refine T.exit ?_
            refine X.then_exit ?_
            refine X.block_exit rfl ?_
            refine X.then_exit ?_
            have H := loop_exitE H C_1 ▸ K_1
            refine X.then_exit ?_
            refine X.block_here ?_
            exact X.metE6 v3 out4 n5 c6 ob7 j8 ⟨H, hn9, hc10, hj11, hz12⟩ (AllF.cons rfl (AllF.cons rfl AllF.nil)) (Pick.cons (Take.tail (Take.head _ _)) Pick.nil)
          ·
            refine T.condPF rfl g76 ?_
            refine T.skip ?_
            refine X.seq_normal ?_
            refine T.seq ?_
            obtain ⟨g77, H⟩ := gd_some H
            obtain ⟨g78, H⟩ := gd_some H
            obtain ⟨g79, H⟩ := gd_some H
            refine T.regionL (ll := [0, 1, 2, 3, 4, 5, 6, 7, 8, 9]) rfl ?_
            refine TO.move rfl rfl rfl rfl ?_
            refine TO.move rfl rfl rfl rfl ?_
            refine TO.convIn rfl rfl rfl rfl TWS3.o5 TWS3.i3 (wrap_i64_of g77.1 g77.2) ?_
            refine TO.move rfl rfl rfl rfl ?_
            refine TO.lenX (xs := may66) hn71 rfl rfl rfl rfl rfl TWS3.l54 ?_
            refine TO.rem rfl rfl rfl rfl rfl g78 ?_
            refine TO.ixV hz74 hc72 hn71 g79 rfl rfl rfl rfl rfl TWS3.l54 TWS3.n60 ?_
            refine TO.ldSV (f := hopC) (cs := [.int .i64 ((may66.getD ((l2.getD x14.toNat 0).tmod (may66.length : Int)).toNat default).Arc), .bool ((may66.getD ((l2.getD x14.toNat 0).tmod (may66.length : Int)).toNat default).Back)]) default (fun _ => rfl) hz74 hc72 hn71 g79 rfl rfl rfl rfl rfl TWS3.a60 (List.Mem.tail _ (List.Mem.tail _ (List.Mem.head _))) ?_
            refine TO.allocA rfl rfl rfl TWS3.z60 ?_; intro b80
            refine TO.storeA rfl rfl rfl rfl (Take.head _ _) TWS3.n60 rfl rfl rfl ?_
            refine TO.done ?_
            refine X.seq_normal ?_
            refine T.trim (AllF.cons (t := 3) rfl (AllF.cons (t := 8) rfl (AllF.cons (t := 15) rfl (AllF.cons (t := 16) rfl (AllF.cons (t := 17) rfl (AllF.cons (t := 14) rfl AllF.nil)))))) ?_
            refine T.seq ?_
            obtain ⟨g84, H⟩ := gd_some H
            refine T.regionL (ll := [0, 1, 2, 3, 4]) rfl ?_
            refine TO.move rfl rfl rfl rfl ?_
            refine TO.loadA rfl rfl rfl rfl TWS3.a60 (List.Mem.head _) rfl ?_
            refine TO.buildSliceS [.int .i64 0, .bool false] [0] rfl rfl rfl rfl TWS3.l54 TWS3.n60 TWS3.z60 rfl rfl (by simp only [setAll, setCells, Value.cells, List.toList_toArray, List.getD_cons_zero, List.getD_cons_succ, List.set_cons_zero, List.set_cons_succ]; rfl) (by kernel_rfl) ?_; intro b82
            refine TO.app (f := hopC) (s := 2) (xs := out4) (ob := ob7) (j := j8) (ys := [(may66.getD ((l2.getD x14.toNat 0).tmod (may66.length : Int)).toNat default)]) (fun _ => rfl) (fun _ => rfl) TWS3el54 g84 rfl rfl rfl rfl rfl (Take.tail (Take.tail (Take.tail (Take.head _ _)))) hn9 hc10 hj11 hz12 (fun wc hwc => (hwc.rs (f := hopC) (s := 2) (xs := [(may66.getD ((l2.getD x14.toNat 0).tmod (may66.length : Int)).toNat default)]) (j := ([])) (fun _ => rfl) (List.Mem.head _) rfl (Nat.le_refl _) someZ)) ?_; intro ob85 c86 j87 hc88 hj89 hz90
            refine TO.assign rfl rfl rfl rfl ?_
            refine TO.done ?_
            refine X.seq_normal ?_
            refine T.seq ?_
            obtain ⟨g92, H⟩ := gd_some H
            refine T.regionL (ll := [0, 1, 2, 3, 4, 5, 6, 7]) rfl ?_
            refine TO.fieldAddr0 rfl rfl rfl rfl TWS3.f24_3 ?_
            refine TO.load1 rfl rfl rfl rfl TWS3.s22 (List.Mem.tail _ (List.Mem.tail _ (List.Mem.tail _ (List.Mem.head _)))) rfl ?_
            refine TO.fieldAddr0 rfl rfl rfl rfl TWS3.f60_0 ?_
            refine TO.load1 rfl rfl rfl rfl TWS3.s3 (List.Mem.tail _ (List.Mem.tail _ (List.Mem.head _))) rfl ?_
            refine TO.ixR h_n0_Arcs g92 rfl rfl rfl rfl rfl TWS3.l22 TWS3.n28 ?_
            refine TO.faR rfl rfl rfl rfl TWS3.f28_1 ?_
            refine TO.ldFR (v := .int .i64 ((n0.Arcs.getD ((may66.getD ((l2.getD x14.toNat 0).tmod (may66.length : Int)).toNat default).Arc).toNat default).to)) default h_n0_Arcs g92 rfl rfl rfl rfl rfl TWS3.s3 ?_
            refine TO.assign rfl rfl rfl rfl ?_
            refine TO.done ?_
            refine X.seq_normal ?_
            refine T.trim (AllF.cons (t := 3) rfl (AllF.cons (t := 8) rfl (AllF.cons (t := 15) rfl (AllF.cons (t := 16) rfl (AllF.cons (t := 17) rfl (AllF.cons (t := 14) rfl (AllF.cons (t := 1) rfl AllF.nil))))))) ?_
            refine T.seq ?_
            refine T.regionL (ll := [0, 1]) rfl ?_
            refine TO.fieldAddr0 rfl rfl rfl rfl TWS3.f60_1 ?_
            refine TO.load1 rfl rfl rfl rfl TWS3.s4 (List.Mem.tail _ (List.Mem.tail _ (List.Mem.head _))) rfl ?_
            refine TO.done ?_
            refine X.seq_normal ?_
            rcases ite_some H with ⟨g93, H⟩ | ⟨g93, H⟩
            ·
              refine T.condT rfl g93 ?_
              obtain ⟨g94, H⟩ := gd_some H
              refine T.regionL (ll := [0, 1, 2, 3, 4, 5, 6, 7]) rfl ?_
              refine TO.fieldAddr0 rfl rfl rfl rfl TWS3.f24_3 ?_
              refine TO.load1 rfl rfl rfl rfl TWS3.s22 (List.Mem.tail _ (List.Mem.tail _ (List.Mem.tail _ (List.Mem.head _)))) rfl ?_
              refine TO.fieldAddr0 rfl rfl rfl rfl TWS3.f60_0 ?_
              refine TO.load1 rfl rfl rfl rfl TWS3.s3 (List.Mem.tail _ (List.Mem.tail _ (List.Mem.head _))) rfl ?_
              refine TO.ixR h_n0_Arcs g94 rfl rfl rfl rfl rfl TWS3.l22 TWS3.n28 ?_
              refine TO.faR rfl rfl rfl rfl TWS3.f28_0 ?_
              refine TO.ldFR (v := .int .i64 ((n0.Arcs.getD ((may66.getD ((l2.getD x14.toNat 0).tmod (may66.length : Int)).toNat default).Arc).toNat default).fr)) default h_n0_Arcs g94 rfl rfl rfl rfl rfl TWS3.s3 ?_
              refine TO.assign rfl rfl rfl rfl ?_
              refine TO.done ?_
              refine X.block_normal ?_
              exact X.metE6 ((n0.Arcs.getD ((may66.getD ((l2.getD x14.toNat 0).tmod (may66.length : Int)).toNat default).Arc).toNat default).fr) (out4 ++ ([(may66.getD ((l2.getD x14.toNat 0).tmod (may66.length : Int)).toNat default)])) (n5 + 1) c86 ob85 j87 ⟨H, (lenApp hn9 rfl), hc88, hj89, hz90⟩ (AllF.cons rfl (AllF.cons rfl (AllF.cons rfl (AllF.cons rfl (AllF.cons rfl (AllF.cons rfl AllF.nil)))))) (Pick.cons (Take.tail (Take.tail (Take.tail (Take.head _ _)))) (Pick.cons (Take.head _ _) Pick.nil))
            ·
              refine T.condF rfl (Bool.eq_false_iff.2 g93) ?_
              refine T.skip ?_
              refine X.block_normal ?_
              exact X.metE6 ((n0.Arcs.getD ((may66.getD ((l2.getD x14.toNat 0).tmod (may66.length : Int)).toNat default).Arc).toNat default).to) (out4 ++ ([(may66.getD ((l2.getD x14.toNat 0).tmod (may66.length : Int)).toNat default)])) (n5 + 1) c86 ob85 j87 ⟨H, (lenApp hn9 rfl), hc88, hj89, hz90⟩ (AllF.cons rfl (AllF.cons rfl (AllF.cons rfl (AllF.cons rfl (AllF.cons rfl (AllF.cons rfl AllF.nil)))))) (Pick.cons (Take.tail (Take.tail (Take.tail (Take.head _ _)))) (Pick.cons (Take.head _ _) Pick.nil))
      · rintro v95 out96 n97 c98 ob99 j100 ⟨H, hn101, hc102, hj103, hz104⟩
        unfold m_acequialaw03_hops_j5 at H
        obtain ⟨g106, H⟩ := gd_some H
        refine T.regionL (ll := [0, 1]) rfl ?_
        refine TO.addG g106 rfl rfl rfl rfl rfl ?_
        refine TO.move rfl rfl rfl rfl ?_
        refine TO.done ?_
        have H := loop_next H C_1
        exact X.againE8 n_1 v95 out96 n97 c98 ob99 j100 (x14 + 1) ⟨H, hn101, hc102, hj103, hz104⟩ (Nat.lt_succ_self _) (AllF.cons rfl (AllF.cons rfl (AllF.cons rfl (AllF.cons rfl (AllF.cons rfl (AllF.cons rfl AllF.nil)))))) (Pick.cons (Take.head _ _) (Pick.cons (Take.head _ _) Pick.nil))
    ·
      refine T.condPF rfl g15 ?_
      refine T.exit ?_
      refine X.then_exit ?_
      have H := loop_exitE H C_1 ▸ K_1
      refine X.then_exit ?_
      refine X.block_here ?_
      exact X.metE6 v3 out4 n5 c6 ob7 j8 ⟨H, hn9, hc10, hj11, hz12⟩ (AllF.cons rfl (AllF.cons rfl AllF.nil)) (Pick.cons (Take.tail (Take.head _ _)) Pick.nil)
  · rintro v107 out108 n109 c110 ob111 j112 ⟨H, hn113, hc114, hj115, hz116⟩
    unfold m_acequialaw03_hops_j6 at H
    refine T.seq ?_
    refine T.regionL (ll := [0, 1, 2, 3]) rfl ?_
    refine TO.move rfl rfl rfl rfl ?_
    refine TO.move rfl rfl rfl rfl ?_
    refine TO.assign rfl rfl rfl rfl ?_
    refine TO.assign rfl rfl rfl rfl ?_
    refine TO.done ?_
    refine X.seq_normal ?_
    refine T.ret ?_
    obtain ⟨rfl, rfl⟩ := ret2 H
    exact X.ret2 rfl rfl rfl rfl (Res.tmp rfl) (Res.tmp rfl) (Pick.cons (Take.head _ _) Pick.nil) ⟨ob111, n109, c110, j112, rfl, rfl, hn113, hc114, hj115, hz116⟩
end Go.Proofs.Ytcdbemdogkmahaa.Ax
