/- Plain law: what the models of low.Some, low.Within and of package csr give. -/
import Derived.Test.YtcdbemdogkmahaaAcqL01
namespace Go.Acq
open Go
set_option linter.unusedSimpArgs false
/-- a net that comes in -/
structure NetIn (n : Net) : Prop where
  nN : i64ok n.N
  nS : i64ok n.S
  nT : i64ok n.T
  arcs : ∀ a, a ∈ n.Arcs → i64ok a.fr ∧ i64ok a.to ∧ i64ok a.cap
  len : n.Arcs.length ≤ 9223372036854775807
/-- a net made right -/
structure Made (n : Net) (v a : Int) : Prop where
  check : checkE n.N n.S n.T n.Arcs = 0
  rows : SomeAt n.N.toNat n.Arcs
  verts : n.N ≤ v
  arcs : (n.Arcs.length : Int) ≤ a
  ends : 2 ≤ n.N ∧ 0 ≤ n.S ∧ n.S < n.N ∧ 0 ≤ n.T ∧ n.T < n.N ∧ n.S ≠ n.T
theorem Made.nat {n : Net} {v a : Int} (h : Made n v a) : ∃ m : Nat, n.N = m ∧ SomeAt m n.Arcs := ⟨n.N.toNat, by have := h.ends.1; omega, h.rows⟩
theorem Made.caps {n : Net} {m : Nat} (h : SomeAt m n.Arcs) : ∀ i, i < n.Arcs.length → 0 ≤ (n.Arcs.getD i default).cap ∧ (n.Arcs.getD i default).cap < 1125899906842624 := fun _ hi => (h _ (getD_mem hi default)).2
theorem s_Some {n : Net} {v a : Int} (h : NetIn n) (hv0 : 2 ≤ v) (hv1 : v ≤ 4096) (ha0 : 0 ≤ a) (ha1 : a ≤ 4096) : Ok (m_acequialow_Some n v a) (fun r => Made r v a) := by
  have hN := among_range (x := n.N) (n := v - 1) (by omega)
  unfold m_acequialow_Some
  refine Ok.gd.2 ⟨(by (first | omega | (constructor <;> omega) | (simp only [List.length_set, List.length_replicate]; omega) | (simp only [List.length_set, List.length_replicate]; constructor <;> omega))), Ok.bind.2 (ok_of (s_Among (by omega)) (Ok.gd.2 ⟨(by (first | omega | (constructor <;> omega) | (simp only [List.length_set, List.length_replicate]; omega) | (simp only [List.length_set, List.length_replicate]; constructor <;> omega))), ?_⟩))⟩
  obtain ⟨m, hm⟩ : ∃ m : Nat, 2 + among n.N (v - 1) = m := ⟨(2 + among n.N (v - 1)).toNat, by omega⟩
  rw [hm]
  have hS := among_range (x := n.S) (n := (m : Int)) (by omega)
  have hT := among_range (x := n.T) (n := (m : Int)) (by omega)
  refine Ok.bind.2 (ok_of (s_Among (by omega)) (Ok.bind.2 (ok_of (s_Among (by omega)) ?_)))
  have key : ∀ t : Int, 0 ≤ t → t < m → t ≠ among n.S m → Ok (m_acequialow_Some_j1 n a (among n.N (v - 1)) (among n.S m) t) (fun r => Made r v a) := by
    intro t t0 t1 t2
    unfold m_acequialow_Some_j1
    refine Ok.gd.2 ⟨(by (first | omega | (constructor <;> omega) | (simp only [List.length_set, List.length_replicate]; omega) | (simp only [List.length_set, List.length_replicate]; constructor <;> omega))), Ok.bind.2 ?_⟩
    obtain ⟨q, hq⟩ : ∃ q : Nat, min (n.Arcs.length : Int) a = q := ⟨(min (n.Arcs.length : Int) a).toNat, by omega⟩
    obtain ⟨al, hal⟩ : ∃ l, l = n.Arcs.take (q : Int).toNat := ⟨_, rfl⟩
    have hlen : al.length = q := by rw [hal, List.length_take]; omega
    have hcap : ∀ b, b ∈ al → i64ok b.cap := fun b hb => (h.arcs b (List.mem_of_mem_take (by rw [← hal]; exact hb))).2.2
    refine Ok.lp (fun s => ∃ k : Nat, s.2 = k ∧ k ≤ q ∧ s.1.length = k ∧ SomeAt m s.1) (fun s => (q - s.2).toNat) ⟨0, rfl, by omega, rfl, fun b hb => by cases hb⟩ (by unfold FUEL; simp only; omega) ?_
    rintro ⟨ol, x⟩ ⟨k, h1, h2, h3, h4⟩ P next exit
    simp only at h1 h2 h3 h4 next ⊢
    subst h1
    unfold m_acequialow_Some_s2
    rw [hq, ← hal]
    simp only [Int.toNat_natCast]
    refine Ok.ite.2 ⟨fun hx => ?_, fun hx => ?_⟩
    · have hkl : k < al.length := by omega
      have hc := hcap _ (getD_mem hkl default)
      have hj : ∀ c : Int, 0 ≤ c → Ok (m_acequialow_Some_j3 n a (among n.N (v - 1)) ol k c) P := by
        intro c hc0
        unfold m_acequialow_Some_j3
        rw [hq, ← hal, hm]
        refine Ok.bind.2 (ok_of (s_Among (by omega)) (Ok.bind.2 (ok_of (s_Among (by omega)) (Ok.gd.2 ⟨?_, Ok.gd.2 ⟨(by (first | omega | (constructor <;> omega) | (simp only [List.length_set, List.length_replicate]; omega) | (simp only [List.length_set, List.length_replicate]; constructor <;> omega))), Ok.some.2 (next _ ⟨k + 1, by simp, by omega, by simp [h3], ?_⟩ (by simp only; omega))⟩⟩))))
        · rw [List.length_append, h3]; simp only [List.length_cons, List.length_nil]; constructor <;> omega
        · exact h4.put (among_range (by omega)) (among_range (by omega)) (tmod_range hc0 (by omega))
      refine Ok.gd.2 ⟨(by (first | omega | (constructor <;> omega) | (simp only [List.length_set, List.length_replicate]; omega) | (simp only [List.length_set, List.length_replicate]; constructor <;> omega))), Ok.ite.2 ⟨fun hn => ?_, fun hn => ?_⟩⟩
      · exact Ok.gd.2 ⟨by constructor <;> omega, Ok.gd.2 ⟨by constructor <;> omega, hj (-((al.getD k default).cap + 1)) (by omega)⟩⟩
      · exact hj (al.getD k default).cap (by omega)
    · refine Ok.some.2 (exit _ ?_)
      unfold m_acequialow_Some_j4
      refine Ok.some.2 ?_
      rw [hm]
      exact ⟨some_check (by omega) (by omega) hS ⟨t0, t1⟩ t2 h4 (show ol.length ≤ 4096 by omega), by simpa using h4, by simp only; omega, by show (ol.length : Int) ≤ a; omega, ⟨by simp only; omega, hS.1, hS.2, t0, t1, fun e => t2 e.symm⟩⟩
  refine Ok.ite.2 ⟨fun he => ?_, fun he => ?_⟩
  · refine Ok.gd.2 ⟨(by (first | omega | (constructor <;> omega) | (simp only [List.length_set, List.length_replicate]; omega) | (simp only [List.length_set, List.length_replicate]; constructor <;> omega))), Ok.gd.2 ⟨by omega, ?_⟩⟩
    obtain ⟨n1, n2, n3⟩ := next_ne hS.1 hS.2 (by omega)
    exact key _ n1 n2 n3
  · exact key _ hT.1 hT.2 (fun e => he e.symm)
/-! ### csr -/
end Go.Acq
