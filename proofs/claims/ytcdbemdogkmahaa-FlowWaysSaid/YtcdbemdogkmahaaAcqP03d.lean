/- Plain law: FlowWays. -/
import Derived.Test.YtcdbemdogkmahaaAcqL07
import Derived.Test.YtcdbemdogkmahaaAcqMLFlowWays
namespace Go.Acq
open Go
set_option linter.unusedSimpArgs false
theorem getD_left {α : Type} {xs ys : List α} {d : α} {i : Nat} (h : i < xs.length) : (xs ++ ys).getD i d = xs.getD i d := by
  rw [List.getD_eq_getElem?_getD, List.getElem?_append_left h, List.getD_eq_getElem?_getD]
theorem getD_right {α : Type} {xs ys : List α} {d : α} {i : Nat} (h : xs.length ≤ i) : (xs ++ ys).getD i d = ys.getD (i - xs.length) d := by
  rw [List.getD_eq_getElem?_getD, List.getElem?_append_right h, List.getD_eq_getElem?_getD]
theorem WayK.app {n : Net} {l b : List Hop} (h1 : WayK n l l.length) (h2 : WayK n b b.length) (hj : 0 < l.length → 0 < b.length → hfr n (b.getD 0 default) = hto n (l.getD (l.length - 1) default)) : WayK n (l ++ b) (l ++ b).length := by
  rw [List.length_append]
  refine ⟨fun i hi => ?_, fun i hi => ?_⟩
  · rcases Nat.lt_or_ge i l.length with h | h
    · rw [getD_left h]; exact h1.1 i h
    · rw [getD_right h]; exact h2.1 _ (by omega)
  · rcases Nat.lt_or_ge (i + 1) l.length with h | h
    · rw [getD_left h, getD_left (by omega)]; exact h1.2 i h
    · rcases Nat.lt_or_ge i l.length with h' | h'
      · rw [getD_right h, getD_left h', show i + 1 - l.length = 0 by omega, hj (by omega) (by omega), show l.length - 1 = i by omega]
      · rw [getD_right h, getD_right h', show i + 1 - l.length = (i - l.length) + 1 by omega]; exact h2.2 _ (by omega)
theorem cntH_app (l b : List Hop) (i : Int) : cntH (l ++ b) i (l ++ b).length = cntH l i l.length + cntH b i b.length := by
  have k1 : ∀ q, q ≤ l.length → cntH (l ++ b) i q = cntH l i q := by
    intro q
    induction q with
    | zero => intro _; rfl
    | succ q ih => intro h; simp only [cntH, ih (by omega), getD_left (show q < l.length by omega)]
  have k2 : ∀ q, q ≤ b.length → cntH (l ++ b) i (l.length + q) = cntH l i l.length + cntH b i q := by
    intro q
    induction q with
    | zero => intro _; rw [Nat.add_zero, k1 _ (Nat.le_refl _)]; simp only [cntH]; omega
    | succ q ih =>
      intro h
      rw [show l.length + (q + 1) = (l.length + q) + 1 by omega]
      simp only [cntH, ih (by omega), getD_right (show l.length ≤ l.length + q by omega), show l.length + q - l.length = q by omega]
      omega
  rw [List.length_append, k2 _ (Nat.le_refl _)]
theorem WayK.cut {n : Net} {l b : List Hop} (h : WayK n (l ++ b) (l ++ b).length) : (∀ i, i < b.length → hok n (b.getD i default)) ∧ (0 < l.length → 0 < b.length → hfr n (b.getD 0 default) = hto n (l.getD (l.length - 1) default)) := by
  rw [List.length_append] at h
  refine ⟨fun i hi => ?_, fun h1 h2 => ?_⟩
  · have := h.1 (l.length + i) (by omega)
    rwa [getD_right (by omega), show l.length + i - l.length = i by omega] at this
  · have := h.2 (l.length - 1) (by omega)
    rwa [getD_right (by omega), getD_left (by omega), show l.length - 1 + 1 - l.length = 0 by omega] at this
set_option maxHeartbeats 1000000 in
theorem p_FlowWays {n : Net} {l : List Int} {a : Int} {mv : List Int} {arc : Int} (hn : NetIn n) (hl : RowIn l) (ha : u8ok a) (hmv : ByteRow mv) (harc : i64ok arc) : m_acequialaw03_FlowWays n l a mv arc = some true := by
  refine ok_eq ?_
  unfold m_acequialaw03_FlowWays
  refine Ok.bind.2 (Ok.mono (s_Some hn (by omega) (by omega) (by omega) (by omega)) fun r hr => ?_)
  obtain ⟨m, hm, hso⟩ := hr.nat
  have hlen := hr.arcs
  have hv := hr.verts
  have hends := hr.ends
  have hcaps := Made.caps hso
  have he : endsOK m r.Arcs := endsOK_of (by rw [← hm]; exact (checkE_zero hr.check).2.2.2.1)
  have hcap : ∀ i, i < r.Arcs.length → (r.Arcs.getD i default).cap ≤ 4611686018427387904 := fun i hi => by have := hcaps i hi; omega
  have hll : lenok r.Arcs.length := by omega
  refine Ok.bind.2 (Ok.mono (s_Within (by omega) (fun i hi => (hcaps i hi).1) hl) fun f hf => ?_)
  have hw : FwithinP r f := ⟨hr.check, hf.1, fun i hi => ⟨(hf.2.1 i hi).1, (hf.2.1 i hi).2.1⟩⟩
  have hfl := hw.2.1
  have hml := hmv.len
  have hvr := tmod_range (x := a) (n := r.N) (by omega) (by omega)
  refine Ok.gd.2 ⟨(by (first | omega | (constructor <;> omega) | (simp only [List.length_set, List.length_replicate]; omega) | (simp only [List.length_set, List.length_replicate]; constructor <;> omega))), Ok.gd.2 ⟨(by (first | omega | (constructor <;> omega) | (simp only [List.length_set, List.length_replicate]; omega) | (simp only [List.length_set, List.length_replicate]; constructor <;> omega))), Ok.gd.2 ⟨(by (first | omega | (constructor <;> omega) | (simp only [List.length_set, List.length_replicate]; omega) | (simp only [List.length_set, List.length_replicate]; constructor <;> omega))), Ok.bind.2 (Ok.mono (s_hops (m := m) he (by omega) (by omega) (by rw [List.length_take]; omega) (fun x hx => hmv.row x (List.mem_of_mem_take hx))) ?_)⟩⟩⟩
  rintro ⟨way, w⟩ ⟨hp, hwl, hw0, hw1⟩
  simp only at hp hwl hw0 hw1 ⊢
  refine Ok.gd.2 ⟨(by (first | omega | (constructor <;> omega) | (simp only [List.length_set, List.length_replicate]; omega) | (simp only [List.length_set, List.length_replicate]; constructor <;> omega))), Ok.gd.2 ⟨(by (first | omega | (constructor <;> omega) | (simp only [List.length_set, List.length_replicate]; omega) | (simp only [List.length_set, List.length_replicate]; constructor <;> omega))), Ok.bind.2 ?_⟩⟩
  refine Ok.lp (fun s => ∃ (q : Nat) (b : List Hop), s.2 = (way.length : Int) - 1 - q ∧ q ≤ way.length ∧ s.1 = way ++ b ∧ b.length = q ∧ ∀ j, j < q → b.getD j default = flipH (way.getD (way.length - 1 - j) default)) (fun s => (s.2 + 1).toNat) ⟨0, [], by simp, by omega, by simp, rfl, fun j hj => by omega⟩ (by unfold FUEL; simp only; omega) ?_
  rintro ⟨both, x⟩ ⟨q, b, h1, hq, rfl, hbl, hbk⟩ P next exit
  simp only at h1 next ⊢
  unfold m_acequialaw03_FlowWays_s1
  refine Ok.ite.2 ⟨fun hx => ?_, fun hx => Ok.some.2 (exit _ ?_)⟩
  · have e : x.toNat = way.length - 1 - q := by omega
    refine Ok.gd.2 ⟨(by (first | omega | (constructor <;> omega) | (simp only [List.length_set, List.length_replicate]; omega) | (simp only [List.length_set, List.length_replicate]; constructor <;> omega))), Ok.gd.2 ⟨(by (first | omega | (constructor <;> omega) | (simp only [List.length_set, List.length_replicate]; omega) | (simp only [List.length_set, List.length_replicate]; constructor <;> omega))), Ok.gd.2 ⟨?_, Ok.gd.2 ⟨(by (first | omega | (constructor <;> omega) | (simp only [List.length_set, List.length_replicate]; omega) | (simp only [List.length_set, List.length_replicate]; constructor <;> omega))), Ok.some.2 (next _ ⟨q + 1, b ++ [flipH (way.getD x.toNat default)], by simp only; omega, by omega, by rw [← List.append_assoc]; rfl, by simp [hbl], fun j hj => ?_⟩ (by simp only; omega))⟩⟩⟩⟩
    · rw [List.length_append, List.length_append, List.length_singleton]; constructor <;> omega
    · rcases Nat.lt_or_ge j q with h | h
      · rw [getD_app (by omega)]; exact hbk j h
      · obtain rfl : j = q := by omega
        rw [getD_last (by omega), e]
  obtain rfl : q = way.length := by omega
  have hB : BackIs way b := ⟨hbl, hbk⟩
  have hway : WayK r (way ++ b) (way ++ b).length := hp.way.app (hB.way hp.way) fun h2 h3 => by rw [hB.2 0 (by omega), hfr_flip, Nat.sub_zero]
  have hcnt : ∀ i : Int, cntH (way ++ b) i (way ++ b).length = 0 := fun i => by rw [cntH_app, hB.cnt]; omega
  have hbll : (way ++ b).length ≤ 1048576 := by rw [List.length_append]; omega
  have hfit : ∀ d, ∀ i : Nat, i < r.Arcs.length → fits r f i (cntH (way ++ b) i (way ++ b).length) d := fun d i hi => by
    unfold fits; rw [hcnt, Int.mul_zero, Int.add_zero]; exact hw.2.2 i hi
  unfold m_acequialaw03_FlowWays_j2
  refine Ok.bind.2 (Ok.mono (s_Room hll hbll hcap) ?_)
  rintro ⟨R, e⟩ (⟨-, -, h0, hR⟩ | ⟨-, h, -⟩ | ⟨h, -⟩)
  rotate_left
  · exact absurd hway h
  · exact absurd hw h
  simp only at h0 hR
  subst h0
  have hRR : R = 4611686018427387904 := by
    have := (hR.2.2 4611686018427387904 (by omega) (by omega)).2 (hfit _)
    have := hR.2.1
    omega
  subst hRR
  simp only
  refine Ok.bind.2 (Ok.mono (s_Send hll hbll hcap) ?_)
  rintro ⟨g, e⟩ (⟨R', -, -, hR', hcase⟩ | ⟨-, h, -⟩ | ⟨h, -⟩)
  rotate_left
  · exact absurd hway h
  · exact absurd hw h
  have hRR' := (hR'.2.2 4611686018427387904 (by omega) (by omega)).2 (hfit _)
  rcases hcase with ⟨-, -, h0, hg⟩ | ⟨h, -⟩
  rotate_left
  · exact absurd ⟨by omega, hRR'⟩ h
  simp only at h0 hg ⊢
  subst h0
  rw [if_neg (by simp), if_neg (by simp), if_neg (by simp)]
  have hgf : g = f := eq_of_getD 0 (by rw [hg.1, hfl]) fun i hi => by
    rw [hg.1] at hi
    rw [hg.2 i hi, hcnt, Int.mul_zero, Int.add_zero]
  refine Ok.bind.2 (ok_of (s_Longs (by rw [hg.1]; omega)) ?_)
  rw [if_neg (by simp [hgf])]
  have aw : Ok (Option.bind m_acequialaw03_awake fun r => some r) (fun a => a = true) := Ok.bind.2 (ok_of p_awake03 (Ok.some.2 rfl))
  -- the number that is not within
  have last : ∀ x : Int, x = 4611686018427387904 → True := fun _ _ => trivial
  have tail : ∀ fits111 : Bool, (fits111 = true ↔ WayK r (way ++ [Hop.mk arc false]) (way ++ [Hop.mk arc false]).length) → Ok (m_acequialaw03_FlowWays_j3 arc r f way fits111) (fun a => a = true) := by
    intro t ht
    unfold m_acequialaw03_FlowWays_j3
    have hl1 : (way ++ [Hop.mk arc false]).length = way.length + 1 := by rw [List.length_append, List.length_singleton]
    have end1 : ∀ g : List Int, g = f.set (0 : Int).toNat ((r.Arcs.getD (0 : Int).toNat default).cap + 1) → ¬ (f.length : Int) = 0 → ¬ FwithinP r g := by
      rintro g rfl hne hg
      have := hg.2.2 0 (by omega)
      simp only [Int.toNat_zero] at this
      rw [lset, if_pos ⟨rfl, by omega⟩] at this
      omega
    refine Ok.gd.2 ⟨(by (first | omega | (constructor <;> omega) | (simp only [List.length_set, List.length_replicate]; omega) | (simp only [List.length_set, List.length_replicate]; constructor <;> omega))), Ok.gd.2 ⟨by rw [hl1]; constructor <;> omega, Ok.bind.2 (Ok.mono (s_Room hll (by rw [hl1]; omega) hcap) ?_)⟩⟩
    have fin : Ok (gd (inb 0 r.Arcs.length) <| gd (i64ok (((r.Arcs.getD (0 : Int).toNat default).cap) + 1)) <| gd (inb 0 f.length) <|
        Option.bind (m_flow_Room r (f.set (0 : Int).toNat (((r.Arcs.getD (0 : Int).toNat default).cap) + 1)) way) fun (r144, r145) =>
        Option.bind (m_flow_Send r (f.set (0 : Int).toNat (((r.Arcs.getD (0 : Int).toNat default).cap) + 1)) way 0) fun (r147, r148) =>
        if r145 = 20 then (if r148 = 20 then (Option.bind (m_flow_Pre r (f.set (0 : Int).toNat (((r.Arcs.getD (0 : Int).toNat default).cap) + 1))) fun r161 =>
          if (!r161) = true then (Option.bind m_acequialaw03_awake fun r164 => some r164) else some false) else some false) else some false) (fun a => a = true) ∨ (f.length : Int) = 0 := by
      by_cases hz : (f.length : Int) = 0
      · exact .inr hz
      refine .inl ?_
      have hnw := end1 _ rfl hz
      have hc0 := hcaps 0 (by omega)
      simp only [Int.toNat_zero] at hnw ⊢
      refine Ok.gd.2 ⟨(by (first | omega | (constructor <;> omega) | (simp only [List.length_set, List.length_replicate]; omega) | (simp only [List.length_set, List.length_replicate]; constructor <;> omega))), Ok.gd.2 ⟨(by (first | omega | (constructor <;> omega) | (simp only [List.length_set, List.length_replicate]; omega) | (simp only [List.length_set, List.length_replicate]; constructor <;> omega))), Ok.gd.2 ⟨(by (first | omega | (constructor <;> omega) | (simp only [List.length_set, List.length_replicate]; omega) | (simp only [List.length_set, List.length_replicate]; constructor <;> omega))), Ok.bind.2 (Ok.mono (s_Room hll (by omega) hcap) ?_)⟩⟩⟩
      rintro ⟨R, e⟩ (⟨h, -⟩ | ⟨h, -⟩ | ⟨-, h⟩)
      · exact absurd h hnw
      · exact absurd h hnw
      injection h with h1 h2
      subst h2
      refine Ok.bind.2 (Ok.mono (s_Send hll (by omega) hcap) ?_)
      rintro ⟨g, e⟩ (⟨_, h, -⟩ | ⟨h, -⟩ | ⟨-, h⟩)
      · exact absurd h hnw
      · exact absurd h hnw
      injection h with h3 h4
      subst h4
      simp only [if_true]
      refine Ok.bind.2 (Ok.mono (s_Pre hll) fun b hb => ?_)
      have hbf : b = false := by
        cases b
        · rfl
        · exact absurd (hb.1 rfl).1 hnw
      rw [hbf, if_pos (by simp)]
      exact aw
    rintro ⟨R, e⟩ (⟨-, hwy, h0, -⟩ | ⟨-, hwy, h0⟩ | ⟨h, -⟩)
    rotate_left 2
    · exact absurd hw h
    · simp only at h0
      subst h0
      rw [ht.2 hwy]
      simp only
      rw [if_neg (by simp), if_neg (by simp)]
      refine Ok.ite.2 ⟨fun _ => aw, fun hz => ?_⟩
      exact fin.resolve_right hz
    · injection h0 with h2 h3
      subst h3
      have htf : t = false := by
        cases t
        · rfl
        · exact absurd (ht.1 rfl) hwy
      subst htf
      simp only
      rw [if_neg (by simp), if_pos (by simp), if_neg (by simp)]
      refine Ok.ite.2 ⟨fun _ => aw, fun hz => ?_⟩
      exact fin.resolve_right hz
  have hone : WayK r [Hop.mk arc false] 1 ↔ 0 ≤ arc ∧ arc < r.Arcs.length := ⟨fun h => h.1 0 (by omega), fun h => ⟨fun i hi => by rw [show i = 0 by omega]; exact h, fun i hi => by omega⟩⟩
  have hhf : hfr r (Hop.mk arc false) = (r.Arcs.getD arc.toNat default).fr := by unfold hfr; simp
  have noarc : ¬(0 ≤ arc ∧ arc < r.Arcs.length) → Ok (m_acequialaw03_FlowWays_j3 arc r f way false) (fun a => a = true) := fun h => tail false ⟨fun h => (by cases h), fun h2 => absurd ((hone.1 ⟨fun i hi => (WayK.cut h2).1 i hi, fun i hi => by omega⟩)) h⟩
  refine Ok.ite.2 ⟨fun a0 => Ok.ite.2 ⟨fun a1 => Ok.ite.2 ⟨fun a2 => ?_, fun a2 => Ok.gd.2 ⟨(by (first | omega | (constructor <;> omega) | (simp only [List.length_set, List.length_replicate]; omega) | (simp only [List.length_set, List.length_replicate]; constructor <;> omega))), ?_⟩⟩, fun a1 => noarc fun h => a1 h.2⟩, fun a0 => noarc fun h => a0 h.1⟩
  · refine tail true ⟨fun _ => hp.way.app (hone.2 ⟨a0, a1⟩) fun h2 => by omega, fun _ => rfl⟩
  · refine tail _ ⟨fun h => hp.way.app (hone.2 ⟨a0, a1⟩) fun h2 h3 => ?_, fun h => decide_eq_true ?_⟩
    · show hfr r (Hop.mk arc false) = _
      rw [hhf, of_decide_eq_true h, hp.fin, if_neg (by omega)]
    · have := (WayK.cut h).2 (by omega) (by simp)
      rw [show [Hop.mk arc false].getD 0 default = Hop.mk arc false from rfl, hhf] at this
      rw [this, hp.fin, if_neg (by omega)]
end Go.Acq
