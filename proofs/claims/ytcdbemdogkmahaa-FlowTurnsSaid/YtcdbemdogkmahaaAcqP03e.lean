/- Plain law: FlowTurns. -/
import Derived.Test.YtcdbemdogkmahaaAcqL07
import Derived.Test.YtcdbemdogkmahaaAcqMLFlowTurns
namespace Go.Acq
open Go
set_option linter.unusedSimpArgs false
/-- a row of rows of bytes that comes in -/
structure ByteRows (l : List (List Int)) : Prop where
  len : l.length ≤ 9223372036854775807
  row : ∀ r, r ∈ l → (∀ x, x ∈ r → u8ok x) ∧ r.length ≤ 9223372036854775807
theorem s_Turn {n : Net} (hl : n.Arcs.length ≤ 16384) : Ok (m_net_Turn n) (fun t => t = Net.mk n.N n.T n.S (n.Arcs.map turn)) := by
  unfold m_net_Turn m_net_Copy m_slices_Clone_Arc
  refine Ok.bind.2 (Ok.bind.2 (Ok.gd.2 ⟨(by (first | omega | (constructor <;> omega) | (simp only [List.length_set, List.length_replicate]; omega) | (simp only [List.length_set, List.length_replicate]; constructor <;> omega))), Ok.some.2 (Ok.some.2 (Ok.bind.2 ?_))⟩))
  simp only [List.nil_append]
  refine Ok.lp (fun s => ∃ k : Nat, s.2 = k ∧ k ≤ n.Arcs.length ∧ s.1.length = n.Arcs.length ∧ ∀ i, i < k → s.1.getD i default = turn (n.Arcs.getD i default)) (fun s => (n.Arcs.length - s.2).toNat) ⟨0, rfl, by omega, rfl, fun i hi => by omega⟩ (by unfold FUEL; simp only; omega) ?_
  rintro ⟨xs, x⟩ ⟨k, h1, hk, hl1, hx⟩ P next exit
  simp only at h1 hl1 hx next ⊢
  subst h1
  unfold m_net_Turn_s1
  simp only [Int.toNat_natCast]
  refine Ok.ite.2 ⟨fun h => Ok.gd.2 ⟨(by (first | omega | (constructor <;> omega) | (simp only [List.length_set, List.length_replicate]; omega) | (simp only [List.length_set, List.length_replicate]; constructor <;> omega))), Ok.gd.2 ⟨(by (first | omega | (constructor <;> omega) | (simp only [List.length_set, List.length_replicate]; omega) | (simp only [List.length_set, List.length_replicate]; constructor <;> omega))), Ok.gd.2 ⟨(by (first | omega | (constructor <;> omega) | (simp only [List.length_set, List.length_replicate]; omega) | (simp only [List.length_set, List.length_replicate]; constructor <;> omega))), Ok.some.2 (next _ ⟨k + 1, by simp, by omega, by simp [hl1], fun i hi => ?_⟩ (by simp only; omega))⟩⟩⟩, fun h => Ok.some.2 (exit _ ?_)⟩
  · simp only
    by_cases e : i = k
    · subst e; rw [List.getD_eq_getElem?_getD, List.getElem?_set_self (by omega)]; rfl
    · rw [List.getD_eq_getElem?_getD, List.getElem?_set_ne (fun h => e h.symm), ← List.getD_eq_getElem?_getD]; exact hx i (by omega)
  · unfold m_net_Turn_j2
    refine Ok.some.2 ?_
    rw [show xs = n.Arcs.map turn from eq_of_getD default (by simp [hl1]) fun i hi => by rw [hx i (by omega), turn_getD]]
theorem ex_turn (al : List Arc) (f : List Int) (v : Int) : ∀ k, ex (al.map turn) f v k = -ex al f v k
  | 0 => rfl
  | k + 1 => by
    simp only [ex, turn_getD, ex_turn al f v k, turn]
    omega
theorem FwithinP.turn {n : Net} {m : Nat} {f : List Int} (h : FwithinP n f) (hm : n.N = m) (hs : SomeAt m n.Arcs) (hl : n.Arcs.length ≤ 4096) : FwithinP (Net.mk n.N n.T n.S (n.Arcs.map Acq.turn)) f := by
  refine ⟨?_, ?_, fun i hi => ?_⟩
  · have := h.1
    rw [hm] at this ⊢
    exact turn_check this hs hl
  · simp only [List.length_map]; exact h.2.1
  · simp only [turn_getD, List.length_map] at hi ⊢
    exact h.2.2 i hi
theorem p_FlowTurns {n : Net} {l : List Int} {mv : List (List Int)} (hn : NetIn n) (hl : RowIn l) (hmv : ByteRows mv) : m_acequialaw03_FlowTurns n l mv = some true := by
  refine ok_eq ?_
  unfold m_acequialaw03_FlowTurns
  refine Ok.bind.2 (Ok.mono (s_Some hn (by omega) (by omega) (by omega) (by omega)) fun r hr => ?_)
  obtain ⟨m, hm, hso⟩ := hr.nat
  have hlen := hr.arcs
  have hv := hr.verts
  have hends := hr.ends
  have hcaps := Made.caps hso
  have he : endsOK m r.Arcs := endsOK_of (by rw [← hm]; exact (checkE_zero hr.check).2.2.2.1)
  have hcap : ∀ i, i < r.Arcs.length → (r.Arcs.getD i default).cap ≤ 4611686018427387904 := fun i hi => by have := hcaps i hi; omega
  have hll : lenok r.Arcs.length := by omega
  refine Ok.bind.2 (Ok.mono (s_Turn (by omega)) ?_)
  rintro t rfl
  have hlt : lenok (Net.mk r.N r.T r.S (r.Arcs.map turn)).Arcs.length := by simp only [List.length_map]; omega
  refine Ok.bind.2 (Ok.mono (s_Within (by omega) (fun i hi => (hcaps i hi).1) hl) fun f hf => ?_)
  have hw : FwithinP r f := ⟨hr.check, hf.1, fun i hi => ⟨(hf.2.1 i hi).1, (hf.2.1 i hi).2.1⟩⟩
  have hwt := hw.turn hm hso (by omega)
  have bnd : ∀ {g : List Int}, FwithinP r g → ∀ u : Int, -4611686018427387904 ≤ ex r.Arcs g u r.Arcs.length ∧ ex r.Arcs g u r.Arcs.length ≤ 4611686018427387904 := fun hg u => by
    have := ex_le (al := r.Arcs) u (fun i hi => (hg.2.2 i hi).1) r.Arcs.length (Nat.le_refl _)
    have := hg.tot r.Arcs.length (Nat.le_refl _)
    omega
  refine Ok.bind.2 (Ok.mono (s_Excess hll) ?_)
  rintro ⟨xf, e⟩ (⟨-, a0, a1, a2⟩ | ⟨h, -⟩)
  rotate_left
  · exact absurd hw h
  refine Ok.bind.2 (Ok.mono (s_Excess hlt) ?_)
  rintro ⟨xt, e⟩ (⟨-, b0, b1, b2⟩ | ⟨h, -⟩)
  rotate_left
  · exact absurd hwt h
  simp only at a0 a1 a2 b0 b1 b2 ⊢
  rw [hm, Int.toNat_natCast] at a1 a2 b1 b2
  simp only [List.length_map] at b2
  refine Ok.ite.2 ⟨fun h => absurd a0 h, fun _ => Ok.ite.2 ⟨fun h => absurd b0 h, fun _ => Ok.ite.2 ⟨fun h => absurd (by omega) h, fun _ => Ok.bind.2 ?_⟩⟩⟩
  refine Ok.lp (fun x => ∃ k : Nat, x = k ∧ k ≤ m) (fun x => (m - x).toNat) ⟨0, rfl, by omega⟩ (by unfold FUEL; omega) ?_
  rintro x ⟨k, rfl, hk⟩ P next exit
  unfold m_acequialaw03_FlowTurns_s1
  simp only [Int.toNat_natCast]
  refine Ok.ite.2 ⟨fun hx => ?_, fun hx => Ok.some.2 (exit _ ?_)⟩
  · have v1 := a2 k (by omega)
    have v2 := b2 k (by omega)
    rw [ex_turn] at v2
    have bk := bnd hw k
    refine Ok.gd.2 ⟨(by (first | omega | (constructor <;> omega) | (simp only [List.length_set, List.length_replicate]; omega) | (simp only [List.length_set, List.length_replicate]; constructor <;> omega))), Ok.gd.2 ⟨(by (first | omega | (constructor <;> omega) | (simp only [List.length_set, List.length_replicate]; omega) | (simp only [List.length_set, List.length_replicate]; constructor <;> omega))), Ok.gd.2 ⟨by constructor <;> omega, Ok.ite.2 ⟨fun h => absurd (by omega) h, fun _ => Ok.gd.2 ⟨(by (first | omega | (constructor <;> omega) | (simp only [List.length_set, List.length_replicate]; omega) | (simp only [List.length_set, List.length_replicate]; constructor <;> omega))), Ok.some.2 (next _ ⟨k + 1, by simp, by omega⟩ (by omega))⟩⟩⟩⟩⟩
  unfold m_acequialaw03_FlowTurns_j2
  have hml := hmv.len
  refine Ok.gd.2 ⟨(by (first | omega | (constructor <;> omega) | (simp only [List.length_set, List.length_replicate]; omega) | (simp only [List.length_set, List.length_replicate]; constructor <;> omega))), Ok.gd.2 ⟨(by (first | omega | (constructor <;> omega) | (simp only [List.length_set, List.length_replicate]; omega) | (simp only [List.length_set, List.length_replicate]; constructor <;> omega))), Ok.bind.2 ?_⟩⟩
  simp only [Int.toNat_natCast]
  obtain ⟨ml, hmle⟩ : ∃ ml, mv.take (min (mv.length : Int) 10).toNat = ml := ⟨_, rfl⟩
  have hmll : ml.length ≤ 10 := by rw [← hmle, List.length_take]; omega
  have hmr : ∀ q, q ∈ ml → (∀ x, x ∈ q → u8ok x) ∧ q.length ≤ 9223372036854775807 := fun q hq => hmv.row q (List.mem_of_mem_take (by rw [hmle]; exact hq))
  refine Ok.lp (fun s => ∃ (k : Nat) (w : Int), s.2 = k ∧ k ≤ ml.length ∧ FwithinP r s.1 ∧ 0 ≤ w ∧ ∀ u : Int, ex r.Arcs s.1 u r.Arcs.length = w * (one r.T u - one r.S u)) (fun s => (ml.length - s.2).toNat) ⟨0, 0, rfl, by omega, ⟨hr.check, by simp, fun i hi => ?_⟩, by omega, fun u => ?_⟩ (by unfold FUEL; simp only; omega) ?_
  · rw [getD_replicate]; exact ⟨by omega, (hcaps i hi).1⟩
  · have : ∀ k, ex r.Arcs (List.replicate r.Arcs.length 0) u k = 0 := by
      intro k
      induction k with
      | zero => rfl
      | succ k ih => simp only [ex, ih, getD_replicate, ite_self]; rfl
    rw [this, Int.zero_mul]
  rintro ⟨g, x⟩ ⟨k, w, h1, hk, hg, hw0, hwe⟩ P next2 exit2
  simp only at h1 hg hwe next2 ⊢
  subst h1
  unfold m_acequialaw03_FlowTurns_s3
  simp only [hmle, Int.toNat_natCast]
  refine Ok.ite.2 ⟨fun hx => ?_, fun hx => Ok.some.2 (exit2 _ ?_)⟩
  · obtain ⟨mr1, mr2⟩ := hmr _ (getD_mem (show k < ml.length by omega) [])
    refine Ok.gd.2 ⟨(by (first | omega | (constructor <;> omega) | (simp only [List.length_set, List.length_replicate]; omega) | (simp only [List.length_set, List.length_replicate]; constructor <;> omega))), Ok.gd.2 ⟨by constructor <;> omega, Ok.bind.2 (Ok.mono (s_hops (m := m) he (by omega) (by omega) (by rw [List.length_take]; omega) (fun x hx => mr1 x (List.mem_of_mem_take hx))) ?_)⟩⟩
    rintro ⟨way, z⟩ ⟨hp, hwl, hz0, hz1⟩
    simp only at hp hwl hz0 hz1 ⊢
    refine Ok.ite.2 ⟨fun _ => Ok.gd.2 ⟨(by (first | omega | (constructor <;> omega) | (simp only [List.length_set, List.length_replicate]; omega) | (simp only [List.length_set, List.length_replicate]; constructor <;> omega))), Ok.some.2 (next2 _ ⟨k + 1, w, by simp, by omega, hg, hw0, hwe⟩ (by simp only; omega))⟩, fun hzT => ?_⟩
    have hzT : z = r.T := Classical.not_not.1 hzT
    subst hzT
    refine Ok.bind.2 (Ok.mono (s_Room hll (by omega) hcap) ?_)
    rintro ⟨R, e⟩ (⟨-, -, h0, hR⟩ | ⟨-, h, -⟩ | ⟨h, -⟩)
    rotate_left
    · exact absurd hp.way h
    · exact absurd hg h
    simp only at h0 hR
    subst h0
    obtain ⟨R0, R1, hRfit⟩ := hR
    obtain ⟨d, hd⟩ : ∃ d, min R 1125899906842624 = d := ⟨_, rfl⟩
    have hd0 : 0 ≤ d ∧ d ≤ R := by omega
    simp only [hd]
    refine Ok.bind.2 (Ok.mono (s_Send hll (by omega) hcap) ?_)
    rintro ⟨g2, e⟩ (⟨R', -, -, hR', hcase⟩ | ⟨-, h, -⟩ | ⟨h, -⟩)
    rotate_left
    · exact absurd hp.way h
    · exact absurd hg h
    have hfit := (hRfit d hd0.1 (by omega)).1 hd0.2
    have hdR : d ≤ R' := (hR'.2.2 d hd0.1 (by omega)).2 hfit
    rcases hcase with ⟨-, -, h0, hs⟩ | ⟨h, -⟩
    rotate_left
    · exact absurd ⟨hd0.1, hdR⟩ h
    simp only at h0 hs ⊢
    subst h0
    have wg : FwithinP r g2 := ⟨hr.check, hs.1, fun i hi => by rw [hs.2 i hi]; exact hfit i hi⟩
    refine Ok.ite.2 ⟨fun h => absurd rfl h, fun _ => Ok.gd.2 ⟨(by (first | omega | (constructor <;> omega) | (simp only [List.length_set, List.length_replicate]; omega) | (simp only [List.length_set, List.length_replicate]; constructor <;> omega))), Ok.some.2 (next2 _ ⟨k + 1, w + d, by simp, by omega, wg, by omega, fun u => ?_⟩ (by simp only; omega))⟩⟩
    simp only
    rw [ex_sent (c := fun i => cntH way i way.length) u hs.2 _ (Nat.le_refl _), exC_path hp, hwe u, Int.add_mul]
  unfold m_acequialaw03_FlowTurns_j4
  have gt := hg.turn hm hso (by omega)
  have hT : ex r.Arcs g r.T r.Arcs.length = w := by rw [hwe]; unfold one; rw [if_pos rfl, if_neg (by omega), Int.sub_zero, Int.mul_one]
  have hS : ex r.Arcs g r.S r.Arcs.length = -w := by rw [hwe]; unfold one; rw [if_neg (by omega), if_pos rfl]; omega
  have hz : ∀ v : Nat, (v : Int) ∉ [r.S, r.T] → ex r.Arcs g v r.Arcs.length = 0 := fun v hv => by
    simp only [List.mem_cons, List.not_mem_nil, or_false, not_or] at hv
    rw [hwe]; unfold one; rw [if_neg (by omega), if_neg (by omega)]; omega
  refine Ok.bind.2 (Ok.mono (s_Value hll) ?_)
  rintro ⟨a, e⟩ (⟨-, hve⟩ | ⟨h, -⟩)
  rotate_left
  · refine absurd ⟨hg, fun v hv => ?_⟩ h
    by_cases c : (v : Int) ∈ [r.S, r.T]
    · exact .inr c
    · exact .inl (hz v c)
  injection hve with h1 h2
  refine Ok.bind.2 (Ok.mono (s_Value hlt) ?_)
  rintro ⟨b, e2⟩ (⟨-, hve⟩ | ⟨h, -⟩)
  rotate_left
  · refine absurd ⟨gt, fun v hv => ?_⟩ h
    simp only [List.length_map, ex_turn]
    by_cases c : (v : Int) ∈ [r.S, r.T]
    · right
      simp only [List.mem_cons, List.not_mem_nil, or_false] at c ⊢
      omega
    · left; rw [hz v c]; rfl
  injection hve with h3 h4
  simp only [List.length_map, ex_turn, hS] at h3
  rw [hT] at h1
  subst h1; subst h2; subst h3; subst h4
  simp only [if_true]
  rw [if_pos (by omega), if_pos hw0]
  exact Ok.bind.2 (ok_of p_awake03 (Ok.some.2 rfl))
end Go.Acq
