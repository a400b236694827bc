/- What a call does is what its model says: acequialaw03.awake, acequialaw03.hops, flow.Excess, flow.Pre, flow.Pre$1, flow.Right, flow.Right$1, flow.Room, flow.Send, flow.Value, flow.Within, flow.all, flow.along, slices.Clone[[]int64,int64], slices.Contains[[]int,int], slices.Index[[]int,int]. (Printed by sx.py.) -/
import Derived.Test.YtcdbemdogkmahaaAcqMS3
import Derived.Test.YtcdbemdogkmahaaAcqRf
import Derived.Test.YtcdbemdogkmahaaAcqWS2a
namespace Go.Proofs.Ytcdbemdogkmahaa.Ax
open Go Go.Acq Go.RowKit Go.Proofs
set_option linter.unusedVariables false
set_option linter.unusedSimpArgs false
set_option maxHeartbeats 8000000
set_option maxRecDepth 20000
theorem TWS3.a24 : aggT Try.prog 24 4 = true := by kernel_rfl
theorem TWS3.a28 : aggT Try.prog 28 3 = true := by kernel_rfl
theorem TWS3.c52 : callable Try.prog 52 = true := by kernel_rfl
theorem TWS3.f24_3 : fieldT Try.prog 24 3 = some 3 := by kernel_rfl
theorem TWS3.f28_2 : fieldT Try.prog 28 2 = some 2 := by kernel_rfl
theorem TWS3.l22 : sliceT Try.prog 22 = some 28 := by kernel_rfl
theorem TWS3.l25 : sliceT Try.prog 25 = some 2 := by kernel_rfl
theorem TWS3.n2 : sizeT Try.prog 2 = some 1 := by kernel_rfl
theorem TWS3.n28 : sizeT Try.prog 28 = some 3 := by kernel_rfl
theorem TWS3.s2 : scalT Try.prog 2 = true := by kernel_rfl
theorem TWS3.s22 : scalT Try.prog 22 = true := by kernel_rfl
theorem TWS3.z28 : zeroT Try.prog 28 = some (.agg #[.int .i64 0, .int .i64 0, .int .i64 0]) := by kernel_rfl
/-- acequia/flow.Within -/
theorem w_flow_Within {n0 : Net} {f1 : List Int} {n0_Arcs_b : Option Addr} {n0_Arcs_n : Nat} {n0_Arcs_c : Nat} {f1_b : Option Addr} {f1_n : Nat} {f1_c : Nat} (w : World) (h_n0_Arcs : RS w [] arcC 3 n0_Arcs_b n0_Arcs_n n0_Arcs_c n0.Arcs) (h_f1 : RS w [] (intC .i64) 1 f1_b f1_n f1_c f1) {r0 : Bool} (H : m_flow_Within n0 f1 = some r0) : Fnc Try.prog 28 #[.agg #[.int .i64 n0.N, .int .i64 n0.S, .int .i64 n0.T, .slice n0_Arcs_b n0_Arcs_n n0_Arcs_c], .slice f1_b f1_n f1_c] w [] (fun v N => v = .bool r0 ∧ N = []) := by
  unfold m_flow_Within at H
  refine Fnc.enter (vs := [.agg #[.int .i64 n0.N, .int .i64 n0.S, .int .i64 n0.T, .slice n0_Arcs_b n0_Arcs_n n0_Arcs_c], .slice f1_b f1_n f1_c]) Try.func28 rfl rfl (Inv.refl w) ?_
  refine T.seq ?_
  refine T.regionL (ll := [0, 1]) rfl ?_
  refine TO.boxA rfl rfl rfl rfl ?_; intro b1
  refine TO.assign rfl rfl rfl rfl ?_
  refine TO.done ?_
  refine X.seq_normal ?_
  refine T.seq ?_
  refine T.seq ?_
  obtain ⟨r3, e4, H⟩ := bd_some H
  rcases ite_some H with ⟨g5, H⟩ | ⟨g5, H⟩
  ·
    refine T.regionL (ll := [0, 1, 2, 3, 4, 5, 6, 7, 8, 9, 10]) rfl ?_
    refine TO.loadA rfl rfl rfl rfl TWS3.a24 (List.Mem.head _) rfl ?_
    refine TO.callX TWS3.c52 rfl rfl rfl rfl (fun wc hwc => w_net_Check (n0 := n0) wc (h_n0_Arcs.mono hwc) e4) ?_
    rintro _ _ ⟨rfl, rfl⟩
    refine TO.bin rfl rfl rfl rfl rfl rfl ?_
    refine TO.move rfl rfl rfl rfl ?_
    refine TO.decB (t := 10) (b' := true) rfl (decide_eq_true g5) ?_
    refine TO.shut rfl rfl rfl rfl ?_
    refine TO.shut rfl rfl rfl rfl ?_
    refine TO.shut rfl rfl rfl rfl ?_
    refine TO.shut rfl rfl rfl rfl ?_
    refine TO.shut rfl rfl rfl rfl ?_
    refine TO.shut rfl rfl rfl rfl ?_
    refine TO.pickT rfl rfl rfl rfl rfl ?_
    refine TO.done ?_
    refine X.seq_normal ?_
    refine T.trim (AllF.cons (t := 1) rfl (AllF.cons (t := 2) rfl (AllF.cons (t := 17) rfl AllF.nil))) ?_
    refine T.condT rfl rfl ?_
    refine T.seq ?_
    refine T.regionL (ll := [0]) rfl ?_
    refine TO.assign rfl rfl rfl rfl ?_
    refine TO.done ?_
    refine X.seq_normal ?_
    refine T.ret ?_
    refine X.then_ret ?_
    obtain rfl := ret1 H
    exact X.ret1 rfl rfl rfl rfl (Res.tmp rfl) Pick.nil ⟨rfl, rfl⟩
  ·
    refine T.regionL (ll := [0, 1, 2, 3, 4, 5, 6, 7, 8, 9, 10]) rfl ?_
    refine TO.loadA rfl rfl rfl rfl TWS3.a24 (List.Mem.head _) rfl ?_
    refine TO.callX TWS3.c52 rfl rfl rfl rfl (fun wc hwc => w_net_Check (n0 := n0) wc (h_n0_Arcs.mono hwc) e4) ?_
    rintro _ _ ⟨rfl, rfl⟩
    refine TO.bin rfl rfl rfl rfl rfl rfl ?_
    refine TO.move rfl rfl rfl rfl ?_
    refine TO.decB (t := 10) (b' := false) rfl (decide_eq_false g5) ?_
    refine TO.move rfl rfl rfl rfl ?_
    refine TO.lenX (xs := f1) h_f1.len rfl rfl rfl rfl rfl TWS3.l25 ?_
    refine TO.fieldAddr0 rfl rfl rfl rfl TWS3.f24_3 ?_
    refine TO.load1 rfl rfl rfl rfl TWS3.s22 (List.Mem.head _) rfl ?_
    refine TO.lenX (xs := n0.Arcs) h_n0_Arcs.len rfl rfl rfl rfl rfl TWS3.l22 ?_
    refine TO.bin rfl rfl rfl rfl rfl rfl ?_
    refine TO.pickF rfl rfl rfl rfl rfl ?_
    refine TO.done ?_
    refine X.seq_normal ?_
    refine T.trim (AllF.cons (t := 1) rfl (AllF.cons (t := 2) rfl (AllF.cons (t := 17) rfl AllF.nil))) ?_
    rcases ite_some H with ⟨g6, H⟩ | ⟨g6, H⟩
    ·
      refine T.condPT rfl g6 ?_
      refine T.seq ?_
      refine T.regionL (ll := [0]) rfl ?_
      refine TO.assign rfl rfl rfl rfl ?_
      refine TO.done ?_
      refine X.seq_normal ?_
      refine T.ret ?_
      refine X.then_ret ?_
      obtain rfl := ret1 H
      exact X.ret1 rfl rfl rfl rfl (Res.tmp rfl) Pick.nil ⟨rfl, rfl⟩
    ·
      refine T.condPF rfl g6 ?_
      refine T.skip ?_
      refine X.seq_normal ?_
      refine T.seq ?_
      refine T.seq ?_
      refine T.regionL (ll := [0, 1, 2, 3]) rfl ?_
      refine TO.fieldAddr0 rfl rfl rfl rfl TWS3.f24_3 ?_
      refine TO.load1 rfl rfl rfl rfl TWS3.s22 (List.Mem.head _) rfl ?_
      refine TO.lenX (xs := n0.Arcs) h_n0_Arcs.len rfl rfl rfl rfl rfl TWS3.l22 ?_
      refine TO.move rfl rfl rfl rfl ?_
      refine TO.done ?_
      refine X.seq_normal ?_
      refine T.meetSE1 (fun (u17 : Unit) => m_flow_Within_j2 = some r0) (fun (u17 : Unit) => []) (fun (u17 : Unit) => []) ?_ ?_
      ·
        refine T.block ?_
        obtain ⟨o_1, e_1, K_1⟩ := bd_some H
        refine T.loopE2 (fun (m_1 : Nat) (x7 : Int) => loopM (fun s => m_flow_Within_s1 n0 f1 s) m_1 x7 = some o_1) (fun (m_1 : Nat) (x7 : Int) => [(1, .slice f1_b f1_n f1_c), (19, .slice n0_Arcs_b n0_Arcs_n n0_Arcs_c), (20, .int .i64 (n0.Arcs.length : Int)), (21, .int .i64 x7)]) (fun (m_1 : Nat) (x7 : Int) => []) (fun (m_1 : Nat) (x7 : Int) => m_1) FUEL 0 e_1 (AllF.cons rfl (AllF.cons rfl (AllF.cons rfl (AllF.cons rfl AllF.nil)))) Pick.nil ?_
        rintro m_1 x7 H
        obtain ⟨n_1, r_1, rfl, H, C_1⟩ := loopM_some H
        have H : m_flow_Within_s1 n0 f1 x7 = some r_1 := H
        unfold m_flow_Within_s1 at H
        refine T.seq ?_
        refine T.regionL (ll := [0]) rfl ?_
        refine TO.bin rfl rfl rfl rfl rfl rfl ?_
        refine TO.done ?_
        refine X.seq_normal ?_
        refine T.seq ?_
        rcases ite_some H with ⟨g8, H⟩ | ⟨g8, H⟩
        ·
          refine T.condPT rfl g8 ?_
          refine T.skip ?_
          refine X.seq_normal ?_
          refine T.seq ?_
          refine T.block ?_
          refine T.seq ?_
          obtain ⟨g9, H⟩ := gd_some H
          refine T.regionL (ll := [0, 1, 2, 3, 4, 5]) rfl ?_
          refine TO.move rfl rfl rfl rfl ?_
          refine TO.ixR h_n0_Arcs g9 rfl rfl rfl rfl rfl TWS3.l22 TWS3.n28 ?_
          refine TO.ldSR (cs := [.int .i64 ((n0.Arcs.getD x7.toNat default).fr), .int .i64 ((n0.Arcs.getD x7.toNat default).to), .int .i64 ((n0.Arcs.getD x7.toNat default).cap)]) default h_n0_Arcs g9 rfl rfl rfl rfl rfl TWS3.a28 ?_
          refine TO.allocA rfl rfl rfl TWS3.z28 ?_; intro b10
          refine TO.assign rfl rfl rfl rfl ?_
          refine TO.storeA rfl rfl rfl rfl (Take.head _ _) TWS3.n28 rfl rfl rfl ?_
          refine TO.done ?_
          refine X.seq_normal ?_
          refine T.seq ?_
          obtain ⟨g12, H⟩ := gd_some H
          rcases ite_some H with ⟨g13, H⟩ | ⟨g13, H⟩
          ·
            apply T.drawQT [(26, _), (27, _), (28, _), (29, _), (30, _), (31, _), (32, _), (33, _), (34, _), (35, _), (36, _), (37, _)]
            · exact mixed
            · kernel_rfl
            · kernel_rfl
            · exact rfl
            · exact rfl
            · refine ⟨?_, ?_, ?_, ?_, ?_, ?_, ?_, ?_, ?_, ?_, ?_, ?_, trivial⟩
              · intro Es
                refine TO.move rfl rfl rfl rfl ?_
                exact TO.done (X.ob rfl (Pick.refl _))
              · intro Es
                refine TO.move rfl rfl rfl rfl ?_
                exact TO.done (X.ob rfl (Pick.refl _))
              · intro Es
                refine TO.ixR h_f1 g12 rfl rfl rfl rfl rfl TWS3.l25 TWS3.n2 ?_
                exact TO.done (X.ob rfl (Pick.refl _))
              · intro Es
                refine TO.ldIR h_f1 g12 rfl rfl rfl rfl TWS3.s2 ?_
                exact TO.done (X.ob rfl (Pick.refl _))
              · intro Es
                refine TO.bin rfl rfl rfl rfl rfl rfl ?_
                exact TO.done (X.ob rfl (Pick.refl _))
              · intro Es
                refine TO.move rfl rfl rfl rfl ?_
                refine TO.decB (t := 31) (b' := true) rfl (decide_eq_true g13) ?_
                exact TO.done (X.ob2 rfl (Pick.refl _))
              · intro Es
                refine TO.shut rfl rfl rfl rfl ?_
                exact TO.done (X.ob rfl (Pick.refl _))
              · intro Es
                refine TO.shut rfl rfl rfl rfl ?_
                exact TO.done (X.ob rfl (Pick.refl _))
              · intro Es
                refine TO.shut rfl rfl rfl rfl ?_
                exact TO.done (X.ob rfl (Pick.refl _))
              · intro Es
                refine TO.shut rfl rfl rfl rfl ?_
                exact TO.done (X.ob rfl (Pick.refl _))
              · intro Es
                refine TO.shut rfl rfl rfl rfl ?_
                exact TO.done (X.ob rfl (Pick.refl _))
              · intro Es
                refine TO.shut rfl rfl rfl rfl ?_
                exact TO.done (X.ob rfl (Pick.refl _))
            refine TO.shut rfl rfl rfl rfl ?_
            refine TO.pickT rfl rfl rfl rfl rfl ?_
            refine TO.done ?_
            refine X.seq_normal ?_
            refine T.trim (AllF.cons (t := 1) rfl (AllF.cons (t := 19) rfl (AllF.cons (t := 20) rfl (AllF.cons (t := 21) rfl (AllF.cons (t := 32) rfl (AllF.cons (t := 33) rfl (AllF.cons (t := 34) rfl (AllF.cons (t := 35) rfl (AllF.cons (t := 36) rfl (AllF.cons (t := 37) rfl (AllF.cons (t := 38) rfl (AllF.cons (t := 39) rfl AllF.nil)))))))))))) ?_
            refine T.condT rfl rfl ?_
            refine T.seq ?_
            refine T.regionL (ll := [0]) rfl ?_
            refine TO.assign rfl rfl rfl rfl ?_
            refine TO.done ?_
            refine X.seq_normal ?_
            refine T.trim (AllF.cons (t := 4) rfl AllF.nil) ?_
            refine T.ret ?_
            refine X.block_ret ?_
            refine X.then_ret ?_
            have H := loop_exitE H C_1 ▸ K_1
            refine X.then_ret ?_
            refine X.block_ret ?_
            refine X.then_ret ?_
            obtain rfl := ret1 H
            exact X.ret1 rfl rfl rfl rfl (Res.tmp rfl) Pick.nil ⟨rfl, rfl⟩
          ·
            obtain ⟨g14, H⟩ := gd_some H
            apply T.drawQT [(26, _), (27, _), (28, _), (29, _), (30, _), (31, _), (32, _), (33, _), (34, _), (35, _), (36, _), (37, _)]
            · exact mixed
            · kernel_rfl
            · kernel_rfl
            · exact rfl
            · exact rfl
            · refine ⟨?_, ?_, ?_, ?_, ?_, ?_, ?_, ?_, ?_, ?_, ?_, ?_, trivial⟩
              · intro Es
                refine TO.move rfl rfl rfl rfl ?_
                exact TO.done (X.ob rfl (Pick.refl _))
              · intro Es
                refine TO.move rfl rfl rfl rfl ?_
                exact TO.done (X.ob rfl (Pick.refl _))
              · intro Es
                refine TO.ixR h_f1 g12 rfl rfl rfl rfl rfl TWS3.l25 TWS3.n2 ?_
                exact TO.done (X.ob rfl (Pick.refl _))
              · intro Es
                refine TO.ldIR h_f1 g12 rfl rfl rfl rfl TWS3.s2 ?_
                exact TO.done (X.ob rfl (Pick.refl _))
              · intro Es
                refine TO.bin rfl rfl rfl rfl rfl rfl ?_
                exact TO.done (X.ob rfl (Pick.refl _))
              · intro Es
                refine TO.move rfl rfl rfl rfl ?_
                refine TO.decB (t := 31) (b' := false) rfl (decide_eq_false g13) ?_
                exact TO.done (X.ob2 rfl (Pick.refl _))
              · intro Es
                refine TO.move rfl rfl rfl rfl ?_
                exact TO.done (X.ob rfl (Pick.refl _))
              · intro Es
                refine TO.move rfl rfl rfl rfl ?_
                exact TO.done (X.ob rfl (Pick.refl _))
              · intro Es
                refine TO.ixR h_f1 g14 rfl rfl rfl rfl rfl TWS3.l25 TWS3.n2 ?_
                exact TO.done (X.ob rfl (Pick.refl _))
              · intro Es
                refine TO.ldIR h_f1 g14 rfl rfl rfl rfl TWS3.s2 ?_
                exact TO.done (X.ob rfl (Pick.refl _))
              · intro Es
                refine TO.fieldAddr0 rfl rfl rfl rfl TWS3.f28_2 ?_
                exact TO.done (X.ob rfl (Pick.refl _))
              · intro Es
                refine TO.load1 rfl rfl rfl rfl TWS3.s2 (List.Mem.head _) rfl ?_
                exact TO.done (X.ob rfl (Pick.refl _))
            refine TO.bin rfl rfl rfl rfl rfl rfl ?_
            refine TO.pickF rfl rfl rfl rfl rfl ?_
            refine TO.done ?_
            refine X.seq_normal ?_
            refine T.trim (AllF.cons (t := 1) rfl (AllF.cons (t := 19) rfl (AllF.cons (t := 20) rfl (AllF.cons (t := 21) rfl (AllF.cons (t := 32) rfl (AllF.cons (t := 33) rfl (AllF.cons (t := 34) rfl (AllF.cons (t := 35) rfl (AllF.cons (t := 36) rfl (AllF.cons (t := 37) rfl (AllF.cons (t := 38) rfl (AllF.cons (t := 39) rfl AllF.nil)))))))))))) ?_
            rcases ite_some H with ⟨g15, H⟩ | ⟨g15, H⟩
            ·
              refine T.condPT rfl g15 ?_
              refine T.seq ?_
              refine T.regionL (ll := [0]) rfl ?_
              refine TO.assign rfl rfl rfl rfl ?_
              refine TO.done ?_
              refine X.seq_normal ?_
              refine T.trim (AllF.cons (t := 4) rfl AllF.nil) ?_
              refine T.ret ?_
              refine X.block_ret ?_
              refine X.then_ret ?_
              have H := loop_exitE H C_1 ▸ K_1
              refine X.then_ret ?_
              refine X.block_ret ?_
              refine X.then_ret ?_
              obtain rfl := ret1 H
              exact X.ret1 rfl rfl rfl rfl (Res.tmp rfl) Pick.nil ⟨rfl, rfl⟩
            ·
              refine T.condPF rfl g15 ?_
              refine T.skip ?_
              refine X.block_normal ?_
              refine X.seq_normal ?_
              obtain ⟨g16, H⟩ := gd_some H
              refine T.regionL (ll := [0, 1]) rfl ?_
              refine TO.addG g16 rfl rfl rfl rfl rfl ?_
              refine TO.move rfl rfl rfl rfl ?_
              refine TO.done ?_
              have H := loop_next H C_1
              exact X.againE2 n_1 (x7 + 1) H (Nat.lt_succ_self _) (AllF.cons rfl (AllF.cons rfl (AllF.cons rfl (AllF.cons rfl AllF.nil)))) Pick.nil
        ·
          refine T.condPF rfl g8 ?_
          refine T.exit ?_
          refine X.then_exit ?_
          have H := loop_exitE H C_1 ▸ K_1
          refine X.then_exit ?_
          refine X.block_here ?_
          exact X.metE1 () H AllF.nil Pick.nil
      · rintro u17 H
        unfold m_flow_Within_j2 at H
        refine T.seq ?_
        refine T.regionL (ll := [0]) rfl ?_
        refine TO.assign rfl rfl rfl rfl ?_
        refine TO.done ?_
        refine X.seq_normal ?_
        refine T.ret ?_
        obtain rfl := ret1 H
        exact X.ret1 rfl rfl rfl rfl (Res.tmp rfl) Pick.nil ⟨rfl, rfl⟩
end Go.Proofs.Ytcdbemdogkmahaa.Ax
