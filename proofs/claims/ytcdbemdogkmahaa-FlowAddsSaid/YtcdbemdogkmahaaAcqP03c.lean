/- Plain law: FlowAdds. -/
import Derived.Test.YtcdbemdogkmahaaAcqL03
import Derived.Test.YtcdbemdogkmahaaAcqMLFlowAdds
namespace Go.Acq
open Go
set_option linter.unusedSimpArgs false
theorem s_Copy {n : Net} (h : n.Arcs.length ≤ 4096) : m_net_Copy n = some n := by
  refine ok_eq ?_
  unfold m_net_Copy m_slices_Clone_Arc
  exact Ok.bind.2 (Ok.gd.2 ⟨(by (first | omega | (constructor <;> omega) | (simp only [List.length_set, List.length_replicate]; omega) | (simp only [List.length_set, List.length_replicate]; constructor <;> omega))), Ok.some.2 (Ok.some.2 rfl)⟩)
/-- a row of arcs whose capacities are halved -/
def Halved (al xs : List Arc) (k : Nat) : Prop := xs.length = al.length ∧ ∀ i, i < al.length → xs.getD i default = if i < k then ⟨(al.getD i default).fr, (al.getD i default).to, (al.getD i default).cap.tdiv 2⟩ else al.getD i default
theorem ex_add {al : List Arc} {f g h : List Int} (v : Int) {n : Nat} (e : ∀ i, i < n → h.getD i 0 = f.getD i 0 + g.getD i 0) : ∀ k, k ≤ n → ex al h v k = ex al f v k + ex al g v k
  | 0, _ => rfl
  | k + 1, hk => by
    simp only [ex, ex_add v e k (by omega), e k (by omega)]
    split <;> split <;> omega
theorem p_FlowAdds {n : Net} {l l2 : List Int} (hn : NetIn n) (hl : RowIn l) (hl2 : RowIn l2) : m_acequialaw03_FlowAdds n l l2 = some true := by
  refine ok_eq ?_
  unfold m_acequialaw03_FlowAdds
  refine Ok.bind.2 (Ok.mono (s_Some hn (by omega) (by omega) (by omega) (by omega)) fun r hr => ?_)
  obtain ⟨m, hm, hso⟩ := hr.nat
  have hlen := hr.arcs
  have hv := hr.verts
  have hends := hr.ends
  have hcaps := Made.caps hso
  have hll : lenok r.Arcs.length := by omega
  refine Ok.bind.2 (ok_of (s_Copy (by omega)) (Ok.bind.2 ?_))
  refine Ok.lp (fun s => ∃ k : Nat, s.2 = k ∧ k ≤ r.Arcs.length ∧ Halved r.Arcs s.1 k) (fun s => (r.Arcs.length - s.2).toNat) ⟨0, rfl, by omega, rfl, fun i _ => by rw [if_neg (by omega)]⟩ (by unfold FUEL; simp only; omega) ?_
  rintro ⟨xs, x⟩ ⟨k, h1, hk, h2, h3⟩ P next exit
  simp only at h1 h2 h3 next ⊢
  subst h1
  unfold m_acequialaw03_FlowAdds_s1
  simp only [Int.toNat_natCast]
  refine Ok.ite.2 ⟨fun hx => ?_, fun hx => ?_⟩
  · have hkl : k < r.Arcs.length := by omega
    have hck := hcaps k hkl
    have e := h3 k hkl
    rw [if_neg (by omega)] at e
    simp only [e]
    have ht : 0 ≤ (r.Arcs.getD k default).cap.tdiv 2 ∧ (r.Arcs.getD k default).cap.tdiv 2 ≤ (r.Arcs.getD k default).cap := by
      rw [Int.tdiv_eq_ediv_of_nonneg hck.1]; omega
    refine Ok.gd.2 ⟨(by (first | omega | (constructor <;> omega) | (simp only [List.length_set, List.length_replicate]; omega) | (simp only [List.length_set, List.length_replicate]; constructor <;> omega))), Ok.gd.2 ⟨⟨by omega, by constructor <;> omega⟩, Ok.gd.2 ⟨(by (first | omega | (constructor <;> omega) | (simp only [List.length_set, List.length_replicate]; omega) | (simp only [List.length_set, List.length_replicate]; constructor <;> omega))), Ok.gd.2 ⟨(by (first | omega | (constructor <;> omega) | (simp only [List.length_set, List.length_replicate]; omega) | (simp only [List.length_set, List.length_replicate]; constructor <;> omega))), Ok.some.2 (next _ ⟨k + 1, by simp, by omega, by simp [h2], fun i hi => ?_⟩ (by simp only; omega))⟩⟩⟩⟩
    simp only [lset]
    by_cases c : k = i
    · subst c; rw [if_pos ⟨rfl, by omega⟩, if_pos (by omega)]
    · rw [if_neg (fun h => c h.1), h3 i hi]
      by_cases c2 : i < k
      · rw [if_pos c2, if_pos (by omega)]
      · rw [if_neg c2, if_neg (by omega)]
  · refine Ok.some.2 (exit _ ?_)
    obtain rfl : k = r.Arcs.length := by omega
    clear next exit
    have h4 : ∀ i, i < r.Arcs.length → (xs.getD i default).cap = (r.Arcs.getD i default).cap.tdiv 2 := fun i hi => by rw [h3 i hi, if_pos hi]
    have hhalf : ∀ i, i < r.Arcs.length → 0 ≤ (r.Arcs.getD i default).cap.tdiv 2 ∧ 2 * (r.Arcs.getD i default).cap.tdiv 2 ≤ (r.Arcs.getD i default).cap := fun i hi => by
      have := hcaps i hi
      rw [Int.tdiv_eq_ediv_of_nonneg this.1]; omega
    unfold m_acequialaw03_FlowAdds_j2
    have hW : ∀ {l : List Int}, RowIn l → Ok (m_acequialow_Within (Net.mk r.N r.S r.T xs) l) (fun f => f.length = r.Arcs.length ∧ ∀ i, i < r.Arcs.length → 0 ≤ f.getD i 0 ∧ 2 * f.getD i 0 ≤ (r.Arcs.getD i default).cap) := fun {l} hl =>
      Ok.mono (s_Within (n := Net.mk r.N r.S r.T xs) (by simp only; omega) (fun i hi => by simp only at hi ⊢; rw [h4 i (by omega)]; exact (hhalf i (by omega)).1) hl) fun f hf => by
        refine ⟨by rw [hf.1]; exact h2, fun i hi => ?_⟩
        have h5 := hf.2.1 i (by simp only; omega)
        simp only at h5
        rw [h4 i hi] at h5
        have := hhalf i hi
        omega
    refine Ok.bind.2 (Ok.mono (hW hl) fun f hf => Ok.bind.2 (Ok.mono (hW hl2) fun g hg => ?_))
    obtain ⟨hfl, hf⟩ := hf
    obtain ⟨hgl, hg⟩ := hg
    refine Ok.bind.2 (Ok.lp (fun s => ∃ k : Nat, s.2 = k ∧ k ≤ r.Arcs.length ∧ s.1.length = k ∧ ∀ i, i < k → s.1.getD i 0 = f.getD i 0 + g.getD i 0) (fun s => (r.Arcs.length - s.2).toNat) ⟨0, rfl, by omega, rfl, fun i hi => by omega⟩ (by unfold FUEL; simp only; omega) ?_)
    rintro ⟨both, x⟩ ⟨k, h1, hk, h5, h6⟩ P next exit
    simp only at h1 h5 h6 next ⊢
    subst h1
    unfold m_acequialaw03_FlowAdds_s3
    simp only [Int.toNat_natCast]
    refine Ok.ite.2 ⟨fun hx => ?_, fun hx => ?_⟩
    · have a1 := hf k (by omega)
      have a2 := hg k (by omega)
      have a3 := hcaps k (by omega)
      refine Ok.gd.2 ⟨(by (first | omega | (constructor <;> omega) | (simp only [List.length_set, List.length_replicate]; omega) | (simp only [List.length_set, List.length_replicate]; constructor <;> omega))), Ok.gd.2 ⟨(by (first | omega | (constructor <;> omega) | (simp only [List.length_set, List.length_replicate]; omega) | (simp only [List.length_set, List.length_replicate]; constructor <;> omega))), Ok.gd.2 ⟨(by (first | omega | (constructor <;> omega) | (simp only [List.length_set, List.length_replicate]; omega) | (simp only [List.length_set, List.length_replicate]; constructor <;> omega))), Ok.gd.2 ⟨?_, Ok.gd.2 ⟨(by (first | omega | (constructor <;> omega) | (simp only [List.length_set, List.length_replicate]; omega) | (simp only [List.length_set, List.length_replicate]; constructor <;> omega))), Ok.some.2 (next _ ⟨k + 1, by simp, by omega, by simp [h5], fun i hi => ?_⟩ (by simp only; omega))⟩⟩⟩⟩⟩
      · rw [List.length_append, h5]; simp only [List.length_cons, List.length_nil]; constructor <;> omega
      · simp only [List.getD_eq_getElem?_getD]
        rcases Nat.lt_or_ge i k with h | h
        · rw [List.getElem?_append_left (by omega), ← List.getD_eq_getElem?_getD, h6 i h, List.getD_eq_getElem?_getD, List.getD_eq_getElem?_getD]
        · obtain rfl : i = k := by omega
          rw [List.getElem?_append_right (by omega), h5]; simp [List.getD_eq_getElem?_getD]
    · refine Ok.some.2 (exit _ ?_)
      obtain rfl : k = r.Arcs.length := by omega
      clear next exit
      unfold m_acequialaw03_FlowAdds_j4
      have wf : FwithinP r f := ⟨hr.check, hfl, fun i hi => by have := hf i hi; omega⟩
      have wg : FwithinP r g := ⟨hr.check, hgl, fun i hi => by have := hg i hi; omega⟩
      have wb : FwithinP r both := ⟨hr.check, h5, fun i hi => by have := hf i hi; have := hg i hi; rw [h6 i hi]; omega⟩
      have hadd : ∀ v : Int, ex r.Arcs both v r.Arcs.length = ex r.Arcs f v r.Arcs.length + ex r.Arcs g v r.Arcs.length := fun v => ex_add v h6 _ (Nat.le_refl _)
      refine Ok.bind.2 (Ok.mono (s_Excess hll) ?_)
      rintro ⟨xf, e⟩ (⟨-, a0, a1, a2⟩ | ⟨h, -⟩)
      rotate_left
      · exact absurd wf h
      refine Ok.bind.2 (Ok.mono (s_Excess hll) ?_)
      rintro ⟨xg, e⟩ (⟨-, b0, b1, b2⟩ | ⟨h, -⟩)
      rotate_left
      · exact absurd wg h
      refine Ok.bind.2 (Ok.mono (s_Excess hll) ?_)
      rintro ⟨xb, e⟩ (⟨-, c0, c1, c2⟩ | ⟨h, -⟩)
      rotate_left
      · exact absurd wb h
      simp only at a0 a1 a2 b0 b1 b2 c0 c1 c2
      subst a0; subst b0; subst c0
      simp only
      rw [if_neg (by simp), if_neg (by simp), if_neg (by simp)]
      refine Ok.ite.2 ⟨fun h => by omega, fun _ => Ok.ite.2 ⟨fun h => by omega, fun _ => Ok.bind.2 ?_⟩⟩
      refine Ok.lp (fun x => ∃ k : Nat, x = k ∧ k ≤ xb.length) (fun x => (xb.length - x).toNat) ⟨0, rfl, by omega⟩ (by unfold FUEL; omega) ?_
      rintro x ⟨k, rfl, hk⟩ P next exit
      unfold m_acequialaw03_FlowAdds_s5
      simp only [Int.toNat_natCast]
      refine Ok.ite.2 ⟨fun hx => ?_, fun hx => ?_⟩
      · have d0 := a2 k (by omega)
        have d1 := b2 k (by omega)
        have d2 := c2 k (by omega)
        have d3 := hadd k
        have d4 := ex_le (al := r.Arcs) (f := both) (k : Int) (fun i hi => (wb.2.2 i hi).1) r.Arcs.length (Nat.le_refl _)
        have d5 := wb.tot r.Arcs.length (Nat.le_refl _)
        refine Ok.gd.2 ⟨(by (first | omega | (constructor <;> omega) | (simp only [List.length_set, List.length_replicate]; omega) | (simp only [List.length_set, List.length_replicate]; constructor <;> omega))), Ok.gd.2 ⟨(by (first | omega | (constructor <;> omega) | (simp only [List.length_set, List.length_replicate]; omega) | (simp only [List.length_set, List.length_replicate]; constructor <;> omega))), Ok.gd.2 ⟨(by (first | omega | (constructor <;> omega) | (simp only [List.length_set, List.length_replicate]; omega) | (simp only [List.length_set, List.length_replicate]; constructor <;> omega))), Ok.gd.2 ⟨(by (first | omega | (constructor <;> omega) | (simp only [List.length_set, List.length_replicate]; omega) | (simp only [List.length_set, List.length_replicate]; constructor <;> omega))), Ok.ite.2 ⟨fun h => by omega, fun _ => Ok.gd.2 ⟨(by (first | omega | (constructor <;> omega) | (simp only [List.length_set, List.length_replicate]; omega) | (simp only [List.length_set, List.length_replicate]; constructor <;> omega))), Ok.some.2 (next _ ⟨k + 1, by simp, by omega⟩ (by omega))⟩⟩⟩⟩⟩⟩
      · refine Ok.some.2 (exit _ ?_)
        clear next exit
        unfold m_acequialaw03_FlowAdds_j6
        have aw : ∀ Q : Bool → Prop, Q true → Ok (Option.bind m_acequialaw03_awake fun r81 => some r81) Q := fun Q hQ => Ok.bind.2 (ok_of p_awake03 (Ok.some.2 hQ))
        have pre : Ok (Option.bind (m_flow_Pre r f) fun r148 =>
            if (!r148) = true then (Option.bind m_acequialaw03_awake fun r151 => some r151) else
            Option.bind (m_flow_Pre r g) fun r153 =>
            if (!r153) = true then (Option.bind m_acequialaw03_awake fun r156 => some r156) else
            Option.bind (m_flow_Pre r both) fun r158 =>
            if r158 = true then (Option.bind m_acequialaw03_awake fun r161 => some r161) else some false) (fun a => a = true) := by
          refine Ok.bind.2 (Ok.mono (s_Pre hll) fun b hb => Ok.ite.2 ⟨fun _ => aw _ rfl, fun h7 => Ok.bind.2 (Ok.mono (s_Pre hll) fun b' hb' => Ok.ite.2 ⟨fun _ => aw _ rfl, fun h8 => Ok.bind.2 (Ok.mono (s_Pre hll) fun b2 hb2 => Ok.ite.2 ⟨fun _ => aw _ rfl, fun h9 => absurd (hb2.2 ⟨wb, fun v hv => ?_⟩) h9⟩)⟩)⟩)
          have p1 := (hb.1 (bool_of_not h7)).2 v hv
          have p2 := (hb'.1 (bool_of_not h8)).2 v hv
          rw [hadd]
          rcases p1 with p1 | p1
          · rcases p2 with p2 | p2
            · left; omega
            · exact .inr p2
          · exact .inr p1
        refine Ok.bind.2 (Ok.mono (s_Right hll) fun b hb => Ok.ite.2 ⟨fun _ => pre, fun h7 => ?_⟩)
        refine Ok.bind.2 (Ok.mono (s_Right hll) fun b1 hb1 => Ok.bind.2 (Ok.mono (s_Right hll) fun b2 hb2 => ?_))
        have hR := hb.1 (bool_of_not h7)
        have : b1 = b2 := by
          rw [Bool.eq_iff_iff, hb1, hb2]
          refine ⟨fun h => ⟨wg, fun v hv => ?_⟩, fun h => ⟨wb, fun v hv => ?_⟩⟩
          · rcases hR.2 v hv with p | p
            · rcases h.2 v hv with p2 | p2
              · rw [hadd] at p2; left; omega
              · exact .inr p2
            · exact .inr p
          · rcases hR.2 v hv with p | p
            · rcases h.2 v hv with p2 | p2
              · rw [hadd]; left; omega
              · exact .inr p2
            · exact .inr p
        rw [if_pos (by rw [this]; exact beq_self_eq_true b2)]
        exact pre
end Go.Acq
