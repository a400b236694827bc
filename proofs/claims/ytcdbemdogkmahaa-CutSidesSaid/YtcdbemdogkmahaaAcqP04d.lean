/- Plain law: CutSides. -/
import Derived.Test.YtcdbemdogkmahaaAcqL11
import Derived.Test.YtcdbemdogkmahaaAcqMLCutSides
namespace Go.Acq
open Go
set_option linter.unusedSimpArgs false
theorem sides_tail {r : Net} {c : List Bool} (hll : lenok r.Arcs.length) (hs : r.Arcs.length ≤ 60) (h : ¬CutR r c) : Ok (m_acequialaw04_CutSides_j1 r c) (fun b => b = true) := by
  unfold m_acequialaw04_CutSides_j1
  refine Ok.bind.2 (Ok.mono (s_Cap hll) ?_)
  rintro ⟨x, e⟩ (⟨h1, -⟩ | ⟨-, h1⟩)
  · exact absurd h1 h
  injection h1 with x1 e1
  subst e1
  refine Ok.bind.2 (Ok.mono (s_Across hll) ?_)
  rintro ⟨y, e2⟩ (⟨h1, -⟩ | ⟨h1, -⟩ | ⟨-, h1⟩)
  · exact absurd h1 h
  · exact absurd h1 h
  injection h1 with y1 e2
  subst e2
  refine Ok.bind.2 (Ok.mono (s_CutRight hll) fun b hb => ?_)
  have hbf : b = false := by rw [Bool.eq_false_iff]; exact fun h1 => h (hb.1 h1)
  subst hbf
  refine Ok.ite.2 ⟨fun h1 => (by cases h1), fun _ => Ok.ite.2 ⟨fun h1 => absurd rfl h1, fun _ => Ok.ite.2 ⟨fun h1 => absurd rfl h1, fun _ => ?_⟩⟩⟩
  refine Ok.bind.2 (Ok.mono (s_Tight hll) fun t ht => Ok.ite.2 ⟨fun h1 => absurd (ht.1 h1).1 h, fun _ => ?_⟩)
  have hlen : (List.replicate ((r.Arcs.length : Int).toNat) (0 : Int) ++ [0]).length = r.Arcs.length + 1 := by simp
  have hap : apok (List.replicate ((r.Arcs.length : Int).toNat) (0 : Int) ++ [0]).length 8 := by rw [hlen]; constructor <;> omega
  have hno : ¬FwithinP r (List.replicate ((r.Arcs.length : Int).toNat) (0 : Int) ++ [0]) := fun h1 => by have := h1.2.1; omega
  refine Ok.gd.2 ⟨hap, Ok.bind.2 (Ok.mono (s_From hll) ?_)⟩
  rintro ⟨a, e⟩ (⟨h1, -⟩ | ⟨-, h1⟩)
  · exact absurd h1 hno
  injection h1 with a1 e1
  subst e1
  refine Ok.gd.2 ⟨hap, Ok.bind.2 (Ok.mono (s_To hll) ?_)⟩
  rintro ⟨a, e⟩ (⟨h1, -⟩ | ⟨-, h1⟩)
  · exact absurd h1 hno
  injection h1 with a1 e1
  subst e1
  simp only [if_true]
  exact Ok.bind.2 (ok_of p_awake04 (Ok.some.2 rfl))
theorem p_CutSides {n : Net} {s : List Bool} {which : Int} (hn : NetIn n) (hs : s.length ≤ 9223372036854775807) (_ : u8ok which) : m_acequialaw04_CutSides n s which = some true := by
  refine ok_eq ?_
  unfold m_acequialaw04_CutSides
  refine Ok.bind.2 (Ok.mono (s_Some hn (by omega) (by omega) (by omega) (by omega)) fun r hr => ?_)
  obtain ⟨m, hm, hso⟩ := hr.nat
  have hlen := hr.arcs
  have hv := hr.verts
  have hends := hr.ends
  have hll : lenok r.Arcs.length := by omega
  refine Ok.bind.2 (Ok.mono (s_side hr.check) fun a ha => ?_)
  have la := ha.2.1
  refine Ok.gd.2 ⟨(by (first | omega | (constructor <;> omega) | (simp only [List.length_set, List.length_replicate]; omega) | (simp only [List.length_set, List.length_replicate]; constructor <;> omega))), Ok.bind.2 (Ok.mono (s_CutRight hll) fun b hb => ?_)⟩
  rw [hb.2 ha, if_neg (by simp)]
  refine Ok.ite.2 ⟨fun _ => Ok.gd.2 ⟨(by (first | omega | (constructor <;> omega) | (simp only [List.length_set, List.length_replicate]; omega) | (simp only [List.length_set, List.length_replicate]; constructor <;> omega))), Ok.gd.2 ⟨(by (first | omega | (constructor <;> omega) | (simp only [List.length_set, List.length_replicate]; omega) | (simp only [List.length_set, List.length_replicate]; constructor <;> omega))), sides_tail hll (by omega) fun h => ?_⟩⟩, fun _ => Ok.ite.2 ⟨fun _ => Ok.gd.2 ⟨?_, sides_tail hll (by omega) fun h => ?_⟩, fun _ => Ok.ite.2 ⟨fun _ => Ok.gd.2 ⟨(by (first | omega | (constructor <;> omega) | (simp only [List.length_set, List.length_replicate]; omega) | (simp only [List.length_set, List.length_replicate]; constructor <;> omega))), sides_tail hll (by omega) fun h => ?_⟩, fun _ => Ok.gd.2 ⟨(by (first | omega | (constructor <;> omega) | (simp only [List.length_set, List.length_replicate]; omega) | (simp only [List.length_set, List.length_replicate]; constructor <;> omega))), sides_tail hll (by omega) fun h => ?_⟩⟩⟩⟩
  · have := h.2.1
    rw [List.length_take] at this; omega
  · rw [List.length_append, List.length_singleton]; constructor <;> omega
  · have := h.2.1
    rw [List.length_append, List.length_singleton] at this; omega
  · have := h.2.2.1
    unfold inS at this
    rw [lset, if_pos ⟨rfl, by omega⟩] at this; cases this
  · have := h.2.2.2
    unfold inS at this
    rw [lset, if_pos ⟨rfl, by omega⟩] at this; cases this
end Go.Acq
