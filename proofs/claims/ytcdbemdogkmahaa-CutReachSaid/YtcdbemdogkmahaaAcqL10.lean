/- Plain law: cuts: which they are, their capacity, what goes across, which are tight. -/
import Derived.Test.YtcdbemdogkmahaaAcqL03
import Derived.Test.YtcdbemdogkmahaaAcqL09
import Derived.Test.YtcdbemdogkmahaaAcqMS4
namespace Go.Acq
open Go
set_option linter.unusedSimpArgs false
theorem p_awake04 : m_acequialaw04_awake = some true := by decide +kernel
/-- is it in a side? -/
def inS (c : List Bool) (v : Int) : Bool := c.getD v.toNat false
def CutR (n : Net) (c : List Bool) : Prop := checkE n.N n.S n.T n.Arcs = 0 ∧ (c.length : Int) = n.N ∧ inS c n.S = true ∧ inS c n.T = false
theorem s_CutRight {n : Net} {c : List Bool} (hl : lenok n.Arcs.length) : Ok (m_cut_Right n c) (fun b => b = true ↔ CutR n c) := by
  unfold m_cut_Right
  refine Ok.bind.2 (ok_of (s_Check n hl) (Ok.ite.2 ⟨fun h0 => Ok.ite.2 ⟨fun h1 => ?_, fun h1 => Ok.some.2 ⟨fun h => (by cases h), fun h => absurd h.2.1 h1⟩⟩, fun h0 => Ok.some.2 ⟨fun h => (by cases h), fun h => absurd h.1 h0⟩⟩))
  have hz := checkE_zero h0
  simp only [vertexB, decide_eq_true_eq] at hz
  refine Ok.gd.2 ⟨(by (first | omega | (constructor <;> omega) | (simp only [List.length_set, List.length_replicate]; omega) | (simp only [List.length_set, List.length_replicate]; constructor <;> omega))), Ok.ite.2 ⟨fun h2 => Ok.gd.2 ⟨(by (first | omega | (constructor <;> omega) | (simp only [List.length_set, List.length_replicate]; omega) | (simp only [List.length_set, List.length_replicate]; constructor <;> omega))), Ok.some.2 ⟨fun h3 => ⟨h0, h1, h2, by simpa [inS] using h3⟩, fun h3 => by have := h3.2.2.2; simpa [inS] using this⟩⟩, fun h2 => Ok.some.2 ⟨fun h => (by cases h), fun h => absurd h.2.2.1 h2⟩⟩⟩
/-- all capacities -/
def totC (al : List Arc) : Nat → Int
  | 0 => 0
  | k + 1 => totC al k + (al.getD k default).cap
theorem totC_tot (al : List Arc) : ∀ k, k ≤ al.length → totC al k = tot (al.map (·.cap)) k
  | 0, _ => rfl
  | k + 1, hk => by
    simp only [totC, tot, totC_tot al k (by omega)]
    rw [List.getD_eq_getElem?_getD, List.getD_eq_getElem?_getD, List.getElem?_map, List.getElem?_eq_getElem (show k < al.length by omega)]; rfl
theorem getD_caps {al : List Arc} {i : Nat} (hi : i < al.length) : (al.map (·.cap)).getD i 0 = (al.getD i default).cap := by
  rw [List.getD_eq_getElem?_getD, List.getD_eq_getElem?_getD, List.getElem?_map, List.getElem?_eq_getElem hi]; rfl
theorem caps_within {n : Net} (h : checkE n.N n.S n.T n.Arcs = 0) (hc : ∀ i, i < n.Arcs.length → 0 ≤ (n.Arcs.getD i default).cap) : FwithinP n (n.Arcs.map (·.cap)) :=
  ⟨h, by simp, fun i hi => by rw [getD_caps hi]; exact ⟨hc i hi, Int.le_refl _⟩⟩
theorem check_caps {n : Net} (h : checkE n.N n.S n.T n.Arcs = 0) : ∀ i, i < n.Arcs.length → 0 ≤ (n.Arcs.getD i default).cap := fun i hi => by
  have := List.all_eq_true.1 (checkE_zero h).2.2.2.2.1 _ (getD_mem hi default)
  simpa [capB] using this
theorem totC_le {n : Net} (h : checkE n.N n.S n.T n.Arcs = 0) : ∀ k, k ≤ n.Arcs.length → 0 ≤ totC n.Arcs k ∧ totC n.Arcs k ≤ 4611686018427387904 := fun k hk => by
  rw [totC_tot _ k hk]
  have := (caps_within h (check_caps h)).tot k (by simpa using hk)
  exact this
theorem cut_ends {n : Net} (h : checkE n.N n.S n.T n.Arcs = 0) : ∃ m : Nat, n.N = m ∧ endsOK m n.Arcs := by
  have hz := checkE_zero h
  obtain ⟨m, hm⟩ : ∃ m : Nat, n.N = m := ⟨n.N.toNat, by omega⟩
  exact ⟨m, hm, endsOK_of (by rw [← hm]; exact hz.2.2.2.1)⟩
end Go.Acq
