/- Texts of this claim, one behind the other. -/
import Derived.Test.YtnppjbofdkokkaaGreatDoorA2
import Derived.Test.YtnppjbofdkokkaaGreatDoorA3
import Derived.Lib.ParseIntBTie
set_option linter.unusedVariables false
set_option linter.unusedSimpArgs false
namespace Go.Acq
open Go
theorem Nt {α : Type} {m : Option α} {v : α} (h : Ok m (fun a => a = v)) : m = some v := by obtain ⟨a, h1, h2⟩ := h; rw [h1, h2]
theorem Vf {α : Type} {m : Option α} {v : α} {Q : α → Prop} (h : m = some v) (q : Q v) : Ok m Q := ⟨v, h, q⟩
abbrev lenok (n : Nat) : Prop := n ≤ 9223372036854775807
theorem Rs {x n : Int} (h1 : n ≤ 4611686018427387904) : Jr x n = some (Kj x n) := by
 unfold Jr Kj
 by_cases h : n < 1
 · rw [if_pos h, if_pos h]
 ·
  have a1 := Int.tmod_lt_of_pos x (show 0 < n by omega)
  have a2 := Z8i x (show 0 < n by omega)
  rw [if_neg h, if_neg h, Xi (by omega), Xi (by constructor <;> omega), Xi (by omega)]
theorem s_Longs {a b : List Int} (h : lenok a.length) : Le a b = some (decide (a = b)) := by
 refine Nt ?_
 unfold Le
 refine Ok.ite.2 ⟨fun hl => Ok.some.2 (decide_eq_false ?_).symm, fun hl => ?_⟩
 · rintro rfl; exact hl rfl
 ·
  refine Ok.bind.2 (Ro (fun x => 0 ≤ x ∧ x ≤ a.length ∧ ∀ i, i < x.toNat → a.getD i 0 = b.getD i 0) (fun x => (a.length - x).toNat) ⟨by omega, by omega, fun i hi => by omega⟩ (by unfold Ys; omega) ?_)
  rintro x ⟨h0, h1, h2⟩
  unfold Z0z
  refine Ok.ite.2 ⟨fun hx => ?_, fun hx => ?_⟩
  ·
   refine Ok.gd.2 ⟨(by omega), Ok.gd.2 ⟨(by omega), Ok.ite.2 ⟨fun hne => ?_, fun hne => ?_⟩⟩⟩
   ·
    refine Ok.some.2 (Ok.some.2 (decide_eq_false ?_).symm)
    rintro rfl; exact hne rfl
   ·
    refine Ok.gd.2 ⟨(by omega), Ok.some.2 ⟨⟨by omega, by omega, fun i hi => ?_⟩, by omega⟩⟩
    rcases Nat.lt_or_ge i x.toNat with h3 | h3
    · exact h2 i h3
    · rw [show i = x.toNat by omega]; exact Classical.not_not.1 hne
  ·
   refine Ok.some.2 (Ok.some.2 (decide_eq_true ?_).symm)
   exact Z7o 0 (by omega) (fun i hi => h2 i (by omega))
theorem Z2d (n : Net) (v : Int) : Gd n v = some (Vs n.N v) := by
 unfold Gd Vs
 by_cases h : 0 ≤ v <;> simp [h]
theorem s_rules4 (n : Net) (a : Arc) : Ry n a = some (Uh n.N a) := by
 unfold Ry Uh
 rw [Z2d, Z2d]
 simp only [Option.bind_some]
 cases Vs n.N a.fr <;> simp
theorem s_of4 (n : Net) (h : lenok n.Arcs.length) : Rw n = some (n.Arcs.all (Uh n.N)) := by
 refine Nt ?_
 unfold Rw Z1w Z3d
 refine Ok.bind.2 (Ok.bind.2 (Ok.bind.2 (Ro (fun x => 0 ≤ x ∧ x ≤ n.Arcs.length ∧ ∀ i, i < x.toNat → Uh n.N (n.Arcs.getD i default) = true) (fun x => (n.Arcs.length - x).toNat) ⟨by omega, by omega, fun i hi => by omega⟩ (by unfold Ys; omega) ?_)))
 rintro x ⟨h0, h1, h2⟩
 unfold Z01 Z27
 refine Ok.ite.2 ⟨fun hx => ?_, fun hx => ?_⟩
 ·
  refine Ok.gd.2 ⟨(by omega), Ok.bind.2 (Ok.bind.2 (Vf (s_rules4 _ _) (Ok.some.2 (Ok.ite.2 ⟨fun hb => ?_, fun hb => ?_⟩))))⟩
  ·
   refine Ok.some.2 (Ok.some.2 (Ok.some.2 (Ok.some.2 ?_)))
   simp only [h0, decide_true, Bool.not_true]
   refine Eq.symm (Bool.eq_false_iff.2 fun hall => ?_)
   have := List.all_eq_true.1 hall _ (Uv (show x.toNat < n.Arcs.length by omega) default)
   rw [this] at hb; cases hb
  ·
   refine Ok.gd.2 ⟨(by omega), Ok.some.2 ⟨⟨by omega, by omega, fun i hi => ?_⟩, by omega⟩⟩
   rcases Nat.lt_or_ge i x.toNat with h3 | h3
   · exact h2 i h3
   · rw [show i = x.toNat by omega]; simpa using hb
 ·
  refine Ok.some.2 (Ok.some.2 (Ok.some.2 (Ok.some.2 ?_)))
  refine Eq.symm (List.all_eq_true.2 fun a ha => ?_)
  obtain ⟨i, hi, rfl⟩ := List.getElem_of_mem ha
  have := h2 i (by omega)
  rwa [List.getD_eq_getElem?_getD, List.getElem?_eq_getElem hi] at this
theorem s_of5 (n : Net) (h : lenok n.Arcs.length) : Z05 n = some (n.Arcs.all Jj) := by
 refine Nt ?_
 unfold Z05 Z1z Z3b
 refine Ok.bind.2 (Ok.bind.2 (Ok.bind.2 (Ro (fun x => 0 ≤ x ∧ x ≤ n.Arcs.length ∧ ∀ i, i < x.toNat → Jj (n.Arcs.getD i default) = true) (fun x => (n.Arcs.length - x).toNat) ⟨by omega, by omega, fun i hi => by omega⟩ (by unfold Ys; omega) ?_)))
 rintro x ⟨h0, h1, h2⟩
 unfold Z09 Z2y Z3p
 refine Ok.ite.2 ⟨fun hx => ?_, fun hx => ?_⟩
 ·
  refine Ok.gd.2 ⟨(by omega), Ok.bind.2 (Ok.bind.2 (Ok.some.2 (Ok.some.2 (Ok.ite.2 ⟨fun hb => ?_, fun hb => ?_⟩))))⟩
  ·
   refine Ok.some.2 (Ok.some.2 (Ok.some.2 (Ok.some.2 ?_)))
   simp only [h0, decide_true, Bool.not_true]
   refine Eq.symm (Bool.eq_false_iff.2 fun hall => ?_)
   have := List.all_eq_true.1 hall _ (Uv (show x.toNat < n.Arcs.length by omega) default)
   simp only [Jj] at this
   rw [this] at hb; cases hb
  ·
   refine Ok.gd.2 ⟨(by omega), Ok.some.2 ⟨⟨by omega, by omega, fun i hi => ?_⟩, by omega⟩⟩
   rcases Nat.lt_or_ge i x.toNat with h3 | h3
   · exact h2 i h3
   · rw [show i = x.toNat by omega]; simpa [Jj] using hb
 ·
  refine Ok.some.2 (Ok.some.2 (Ok.some.2 (Ok.some.2 ?_)))
  refine Eq.symm (List.all_eq_true.2 fun a ha => ?_)
  obtain ⟨i, hi, rfl⟩ := List.getElem_of_mem ha
  have := h2 i (by omega)
  rwa [List.getD_eq_getElem?_getD, List.getElem?_eq_getElem hi] at this
theorem s_Sum (n : Net) (h : lenok n.Arcs.length) : Z0b n = some (match Vx 4611686018427387904 n.Arcs with | some l => (4611686018427387904 - l, true) | none => (0, false)) := by
 refine Nt ?_
 unfold Z0b
 refine Ok.bind.2 (Ro (fun s => 0 ≤ s.2 ∧ s.2 ≤ n.Arcs.length ∧ 0 ≤ s.1 ∧ s.1 ≤ 4611686018427387904 ∧ Vx 4611686018427387904 n.Arcs = Vx s.1 (n.Arcs.drop s.2.toNat)) (fun s => (n.Arcs.length - s.2).toNat) ⟨by simp, by simp, by simp, by simp, by simp⟩ (by unfold Ys; simp; omega) ?_)
 rintro ⟨left, x⟩ ⟨h0, h1, h2, h3, h4⟩
 simp only at h0 h1 h2 h3 h4 ⊢
 unfold Z00 Z1d
 refine Ok.ite.2 ⟨fun hx => ?_, fun hx => ?_⟩
 ·
  rw [Z7i (by omega)] at h4
  refine Ok.gd.2 ⟨(by omega), Ok.ite.2 ⟨fun hb => ?_, fun hb => ?_⟩⟩
  ·
   rw [if_pos rfl]
   refine Ok.some.2 (Ok.some.2 ?_)
   rw [h4, if_pos (.inl hb)]
  ·
   by_cases hc : left < (n.Arcs.getD x.toNat default).cap
   ·
    rw [if_pos (decide_eq_true hc)]
    refine Ok.some.2 (Ok.some.2 ?_)
    rw [h4, if_pos (.inr hc)]
   ·
    rw [if_neg (by simpa using hc)]
    refine Ok.gd.2 ⟨(by omega), Ok.gd.2 ⟨(by omega), Ok.some.2 ⟨⟨by simp only; omega, by simp only; omega, by simp only; omega, by simp only; omega, ?_⟩, by simp only; omega⟩⟩⟩
    rw [h4, if_neg (by omega)]
    simp only
    rw [show (x + 1).toNat = x.toNat + 1 by omega]
 ·
  unfold Z22
  refine Ok.some.2 (Ok.gd.2 ⟨(by omega), Ok.some.2 ?_⟩)
  rw [h4, List.drop_eq_nil_of_le (by omega)]
  rfl
theorem Z0y (n : Net) (h : lenok n.Arcs.length) : Jx n = some (Ub n.N n.S n.T n.Arcs) := by
 unfold Jx Z3i Z3c Z3k Z32 Z2i Z20 Z1v Z30
 rw [Z2d, Z2d, s_of4 n h, s_of5 n h, s_Sum n h]
 unfold Ub
 simp only [Option.bind_some]
 by_cases h1 : 2 ≤ n.N ∧ n.N ≤ 4096
 ·
  rw [if_pos h1.1, if_neg (not_not_intro h1)]
  simp only [Option.bind_some, decide_eq_true h1.2, Bool.not_true, Bool.false_eq_true, if_false]
  by_cases h2 : (n.Arcs.length : Int) ≤ 16384
  ·
   rw [if_neg (by simp [h2]), if_neg (not_not_intro h2)]
   by_cases h3 : Vs n.N n.S = true ∧ Vs n.N n.T = true ∧ n.S ≠ n.T
   ·
    rw [if_pos h3.1, if_pos h3.2.1, if_neg (not_not_intro h3)]
    simp only [Option.bind_some, decide_eq_true h3.2.2, Bool.not_true, Bool.false_eq_true, if_false]
    cases h4 : n.Arcs.all (Uh n.N)
    · simp
    ·
     cases h5 : n.Arcs.all Jj
     · simp
     · cases h6 : Vx 4611686018427387904 n.Arcs <;> simp
   ·
    rw [if_pos h3]
    by_cases a1 : Vs n.N n.S = true
    ·
     by_cases a2 : Vs n.N n.T = true
     ·
      have a3 : ¬ n.S ≠ n.T := fun e => h3 ⟨a1, a2, e⟩
      simp [a1, a2, a3]
     · simp [a1, a2]
    · simp [a1]
  · rw [if_pos (by simp [h2]), if_pos h2]
 ·
  rw [if_pos h1]
  by_cases a1 : 2 ≤ n.N
  ·
   have a2 : ¬ n.N ≤ 4096 := fun e => h1 ⟨a1, e⟩
   simp [a1, a2]
  · simp [a1]
end Go.Acq
namespace Go.Acq
open Go
structure NetIn (n : Net) : Prop where
  nN : i64ok n.N
  nS : i64ok n.S
  nT : i64ok n.T
  arcs : ∀ a, a ∈ n.Arcs → i64ok a.fr ∧ i64ok a.to ∧ i64ok a.cap
  len : n.Arcs.length ≤ 9223372036854775807
structure RowIn (l : List Int) : Prop where
  row : ∀ x, x ∈ l → i64ok x
  len : l.length ≤ 9223372036854775807
structure Made (n : Net) (v a : Int) : Prop where
  check : Ub n.N n.S n.T n.Arcs = 0
  rows : SomeAt n.N.toNat n.Arcs
  verts : n.N ≤ v
  arcs : (n.Arcs.length : Int) ≤ a
  ends : 2 ≤ n.N ∧ 0 ≤ n.S ∧ n.S < n.N ∧ 0 ≤ n.T ∧ n.T < n.N ∧ n.S ≠ n.T
theorem Made.nat {n : Net} {v a : Int} (h : Made n v a) : ∃ m : Nat, n.N = m ∧ SomeAt m n.Arcs := ⟨n.N.toNat, by have := h.ends.1; omega, h.rows⟩
theorem Za3 {n : Net} {m : Nat} (h : SomeAt m n.Arcs) : ∀ i, i < n.Arcs.length → 0 ≤ (n.Arcs.getD i default).cap ∧ (n.Arcs.getD i default).cap < 1125899906842624 := fun _ hi => (h _ (Uv hi default)).2
theorem s_Some {n : Net} {v a : Int} (h : NetIn n) (hv0 : 2 ≤ v) (hv1 : v ≤ 4096) (ha0 : 0 ≤ a) (ha1 : a ≤ 4096) : Ok (Z1e n v a) (fun r => Made r v a) := by
 have hN := Z1j (x := n.N) (n := v - 1) (by omega)
 unfold Z1e
 refine Ok.gd.2 ⟨(by omega), Ok.bind.2 (Vf (Rs (by omega)) (Ok.gd.2 ⟨(by omega), ?_⟩))⟩
 obtain ⟨m, hm⟩ : ∃ m : Nat, 2 + Kj n.N (v - 1) = m := ⟨(2 + Kj n.N (v - 1)).toNat, by omega⟩
 rw [hm]
 have hS := Z1j (x := n.S) (n := (m : Int)) (by omega)
 have hT := Z1j (x := n.T) (n := (m : Int)) (by omega)
 refine Ok.bind.2 (Vf (Rs (by omega)) (Ok.bind.2 (Vf (Rs (by omega)) ?_)))
 have key : ∀ t : Int, 0 ≤ t → t < m → t ≠ Kj n.S m → Ok (Rc n a (Kj n.N (v - 1)) (Kj n.S m) t) (fun r => Made r v a) := by
  intro t t0 t1 t2
  unfold Rc
  refine Ok.gd.2 ⟨(by omega), Ok.bind.2 ?_⟩
  obtain ⟨q, hq⟩ : ∃ q : Nat, min (n.Arcs.length : Int) a = q := ⟨(min (n.Arcs.length : Int) a).toNat, by omega⟩
  obtain ⟨al, hal⟩ : ∃ l, l = n.Arcs.take (q : Int).toNat := ⟨_, rfl⟩
  have hlen : al.length = q := by rw [hal, List.length_take]; omega
  have hcap : ∀ b, b ∈ al → i64ok b.cap := fun b hb => (h.arcs b (List.mem_of_mem_take (by rw [← hal]; exact hb))).2.2
  refine Gh (fun s => ∃ k : Nat, s.2 = k ∧ k ≤ q ∧ s.1.length = k ∧ SomeAt m s.1) (fun s => (q - s.2).toNat) ⟨0, rfl, by omega, rfl, fun b hb => by cases hb⟩ (by unfold Ys; simp only; omega) ?_
  rintro ⟨ol, x⟩ ⟨k, h1, h2, h3, h4⟩ P next exit
  simp only at h1 h2 h3 h4 next ⊢
  subst h1
  unfold Z0d
  rw [hq, ← hal]
  simp only [Int.toNat_natCast]
  refine Ok.ite.2 ⟨fun hx => ?_, fun hx => ?_⟩
  ·
   have hkl : k < al.length := by omega
   have hc := hcap _ (Uv hkl default)
   have hj : ∀ c : Int, 0 ≤ c → Ok (Lw n a (Kj n.N (v - 1)) ol k c) P := by
    intro c hc0
    unfold Lw
    rw [hq, ← hal, hm]
    refine Ok.bind.2 (Vf (Rs (by omega)) (Ok.bind.2 (Vf (Rs (by omega)) (Ok.gd.2 ⟨?_, Ok.gd.2 ⟨(by omega), Ok.some.2 (next _ ⟨k + 1, by simp, by omega, by simp [h3], ?_⟩ (by simp only; omega))⟩⟩))))
    · rw [List.length_append, h3]; simp only [List.length_cons, List.length_nil]; constructor <;> omega
    · exact h4.put (Z1j (by omega)) (Z1j (by omega)) (Z7z hc0 (by omega))
   refine Ok.gd.2 ⟨(by omega), Ok.ite.2 ⟨fun hn => ?_, fun hn => ?_⟩⟩
   · exact Ok.gd.2 ⟨by constructor <;> omega, Ok.gd.2 ⟨by constructor <;> omega, hj (-((al.getD k default).cap + 1)) (by omega)⟩⟩
   · exact hj (al.getD k default).cap (by omega)
  ·
   refine Ok.some.2 (exit _ ?_)
   unfold Z2l
   refine Ok.some.2 ?_
   rw [hm]
   exact ⟨Za8 (by omega) (by omega) hS ⟨t0, t1⟩ t2 h4 (show ol.length ≤ 4096 by omega), by simpa using h4, by simp only; omega, by show (ol.length : Int) ≤ a; omega, ⟨by simp only; omega, hS.1, hS.2, t0, t1, fun e => t2 e.symm⟩⟩
 refine Ok.ite.2 ⟨fun he => ?_, fun he => ?_⟩
 ·
  refine Ok.gd.2 ⟨(by omega), Ok.gd.2 ⟨by omega, ?_⟩⟩
  obtain ⟨n1, n2, n3⟩ := next_ne hS.1 hS.2 (by omega)
  exact key _ n1 n2 n3
 · exact key _ hT.1 hT.2 (fun e => he e.symm)
theorem s_Within {n : Net} {l : List Int} (hn : n.Arcs.length ≤ 4096) (hc : ∀ i, i < n.Arcs.length → 0 ≤ (n.Arcs.getD i default).cap) (hl : RowIn l) : Ok (Z0c n l) (fun r => WithinAt n.Arcs n.Arcs.length n.Arcs.length r) := by
 unfold Z0c
 have hll := hl.len
 refine Ok.gd.2 ⟨(by omega), Ok.bind.2 (Gh (fun s => ∃ k : Nat, s.2 = k ∧ k ≤ n.Arcs.length ∧ WithinAt n.Arcs n.Arcs.length k s.1) (fun s => (n.Arcs.length - s.2).toNat) ⟨0, rfl, by omega, by simpa using Zd3 n.Arcs n.Arcs.length⟩ (by unfold Ys; simp only; omega) ?_)⟩
 rintro ⟨fl, x⟩ ⟨k, h1, h2, h3⟩ P next exit
 simp only at h1 h2 h3 next ⊢
 subst h1
 unfold Z0v
 refine Ok.ite.2 ⟨fun hx => ?_, fun hx => ?_⟩
 ·
  have hkl : k < n.Arcs.length := by omega
  have hck := hc k hkl
  have hfl := h3.1
  have hj3 : ∀ y : Int, (n.Arcs.getD k default).fr ≠ (n.Arcs.getD k default).to → 0 ≤ y → Ok (Lx n fl k y) P := by
   intro y hne hy
   unfold Lx
   refine Ok.gd.2 ⟨by constructor <;> omega, Ok.gd.2 ⟨(by omega), Ok.some.2 (next _ ⟨k + 1, by simp, by omega, ?_⟩ (by simp only; omega))⟩⟩
   simp only [Int.toNat_natCast]
   exact h3.put hkl (by omega) (by omega) hne
  have hj2 : ∀ y : Int, (n.Arcs.getD k default).fr ≠ (n.Arcs.getD k default).to → 0 ≤ y → Ok (Rn n fl k y) P := by
   intro y hne hy
   unfold Rn
   simp only [Int.toNat_natCast]
   refine Ok.ite.2 ⟨fun hb => ?_, fun hb => hj3 y hne hy⟩
   refine Ok.gd.2 ⟨by constructor <;> omega, Ok.gd.2 ⟨by omega, hj3 (y.tmod ((n.Arcs.getD k default).cap + 1)) hne (Z7z hy (by omega)).1⟩⟩
  have hskip : WithinAt n.Arcs n.Arcs.length (k + 1) fl := h3.skip hck
  refine Ok.gd.2 ⟨(by omega), Ok.ite.2 ⟨fun hb => ?_, fun hb => ?_⟩⟩
  · exact Ok.gd.2 ⟨(by omega), Ok.some.2 (next _ ⟨k + 1, by simp, by omega, hskip⟩ (by simp only; omega))⟩
  ·
   simp only [Int.toNat_natCast]
   refine Ok.ite.2 ⟨fun he => ?_, fun he => ?_⟩
   · exact Ok.gd.2 ⟨(by omega), Ok.some.2 (next _ ⟨k + 1, by simp, by omega, hskip⟩ (by simp only; omega))⟩
   ·
    have hxk := hl.row _ (Uv (show k < l.length by omega) 0)
    refine Ok.gd.2 ⟨(by omega), Ok.ite.2 ⟨fun hb => ?_, fun hb => hj2 (l.getD k 0) he (by omega)⟩⟩
    exact Ok.gd.2 ⟨by constructor <;> omega, Ok.gd.2 ⟨by constructor <;> omega, hj2 (-(l.getD k 0 + 1)) he (by omega)⟩⟩
 ·
  refine Ok.some.2 (exit _ ?_)
  unfold Z3l
  refine Ok.some.2 ?_
  rw [show n.Arcs.length = k by omega] at h3 ⊢
  exact h3
end Go.Acq
namespace Go.Acq
open Go
def ex (al : List Arc) (f : List Int) (v : Int) : Nat → Int
  | 0 => 0
  | k + 1 => ex al f v k - (if (al.getD k default).fr = v then f.getD k 0 else 0) + (if (al.getD k default).to = v then f.getD k 0 else 0)
def tot (f : List Int) : Nat → Int
  | 0 => 0
  | k + 1 => tot f k + f.getD k 0
def part (al : List Arc) (f : List Int) (j : Int) : Nat → Int
  | 0 => 0
  | k + 1 => part al f j k - (if (al.getD k default).fr < j then f.getD k 0 else 0) + (if (al.getD k default).to < j then f.getD k 0 else 0)
theorem ex_le {al : List Arc} {f : List Int} (v : Int) {n : Nat} (h : ∀ i, i < n → 0 ≤ f.getD i 0) : ∀ k, k ≤ n → -tot f k ≤ ex al f v k ∧ ex al f v k ≤ tot f k
 | 0, _ => by simp [ex, tot]
 | k + 1, hk => by
  have ih := ex_le (al := al) v h k (by omega)
  have := h k hk
  simp only [ex, tot]
  split <;> split <;> omega
theorem Z4z {f : List Int} {n : Nat} (h : ∀ i, i < n → 0 ≤ f.getD i 0) : ∀ j k, j ≤ k → k ≤ n → tot f j ≤ tot f k
  | j, 0, hj, _ => by have : j = 0 := by omega
                      subst this; exact Int.le_refl _
  | j, k + 1, hj, hk => by
    rcases Nat.lt_or_ge j (k + 1) with h1 | h1
    · have := Z4z h j k (by omega) (by omega)
      have := h k hk
      simp only [tot]; omega
    · rw [show j = k + 1 by omega]; exact Int.le_refl _
theorem sumL_tot {f : List Int} : ∀ (al : List Arc) (left : Int) (k : Nat), (Vx left (al.drop k)).isSome = true → 0 ≤ left → k ≤ al.length → (∀ i, i < al.length → 0 ≤ f.getD i 0 ∧ f.getD i 0 ≤ (al.getD i default).cap) → tot f al.length - tot f k ≤ left := by
 intro al left k
 induction hn : al.length - k generalizing left k with
 | zero =>
  intro _ h0 hk _
  rw [show k = al.length by omega]; omega
 | succ n ih =>
  intro hs h0 hk hf
  have hkl : k < al.length := by omega
  rw [Z7i hkl] at hs
  by_cases hc : (al.getD k default).cap < 0 ∨ left < (al.getD k default).cap
  · rw [if_pos hc] at hs; cases hs
  ·
   rw [if_neg hc] at hs
   have := ih (left - (al.getD k default).cap) (k + 1) (by omega) hs (by omega) (by omega) hf
   have hfk := hf k hkl
   simp only [tot] at this
   omega
def FwithinP (n : Net) (f : List Int) : Prop := Ub n.N n.S n.T n.Arcs = 0 ∧ f.length = n.Arcs.length ∧ ∀ i, i < n.Arcs.length → 0 ≤ f.getD i 0 ∧ f.getD i 0 ≤ (n.Arcs.getD i default).cap
theorem FwithinP.tot {n : Net} {f : List Int} (h : FwithinP n f) : ∀ k, k ≤ n.Arcs.length → 0 ≤ tot f k ∧ tot f k ≤ 4611686018427387904 := by
 intro k hk
 have hz := Kx h.1
 have h1 := sumL_tot (f := f) n.Arcs 4611686018427387904 0 (by simpa using hz.2.2.2.2.2) (by omega) (by omega) h.2.2
 have h2 := Z4z (fun i hi => (h.2.2 i hi).1) k n.Arcs.length hk (Nat.le_refl _)
 have h3 := Z4z (fun i hi => (h.2.2 i hi).1) 0 k (by omega) hk
 simp only [Acq.tot] at h1 h3
 omega
theorem Zdw {n : Net} {f : List Int} (hl : lenok n.Arcs.length) : Ok (Z0r n f) (fun b => b = true ↔ FwithinP n f) := by
 unfold Z0r
 refine Ok.bind.2 (Vf (Z0y n hl) (Ok.ite.2 ⟨fun h => Ok.some.2 ⟨fun h2 => (by cases h2), fun h2 => absurd h2.1 h⟩, fun h1 => Ok.ite.2 ⟨fun h => Ok.some.2 ⟨fun h2 => (by cases h2), fun h2 => absurd h2.2.1 (by omega)⟩, fun h2 => Ok.bind.2 ?_⟩⟩))
 have hz := Kx (Classical.not_not.1 h1)
 refine Gh (fun x => ∃ k : Nat, x = k ∧ k ≤ n.Arcs.length ∧ ∀ i, i < k → 0 ≤ f.getD i 0 ∧ f.getD i 0 ≤ (n.Arcs.getD i default).cap) (fun x => (n.Arcs.length - x).toNat) ⟨0, rfl, by omega, fun i hi => by omega⟩ (by unfold Ys; omega) ?_
 rintro x ⟨k, rfl, hk, h3⟩ P next exit
 unfold Z0p
 simp only [Int.toNat_natCast]
 refine Ok.ite.2 ⟨fun hx => ?_, fun hx => ?_⟩
 ·
  refine Ok.gd.2 ⟨(by omega), Ok.gd.2 ⟨(by omega), Ok.ite.2 ⟨fun h => Ok.some.2 (exit _ (Ok.some.2 ⟨fun h2 => (by cases h2), fun h2 => by have := h2.2.2 k (by omega); omega⟩)), fun h4 => Ok.gd.2 ⟨(by omega), Ok.ite.2 ⟨fun h => Ok.some.2 (exit _ (Ok.some.2 ⟨fun h2 => (by cases h2), fun h2 => by have := h2.2.2 k (by omega); omega⟩)), fun h5 => Ok.gd.2 ⟨(by omega), Ok.some.2 (next _ ⟨k + 1, by simp, by omega, fun i hi => ?_⟩ (by omega))⟩⟩⟩⟩⟩⟩
  rcases Nat.lt_or_ge i k with h | h
  · exact h3 i h
  · rw [show i = k by omega]; omega
 ·
  refine Ok.some.2 (exit _ ?_)
  unfold Z2r
  exact Ok.some.2 ⟨fun _ => ⟨Classical.not_not.1 h1, by omega, fun i hi => h3 i (by omega)⟩, fun _ => rfl⟩
theorem s_Excess {n : Net} {f : List Int} (hl : lenok n.Arcs.length) : Ok (Z14 n f) (fun r => (FwithinP n f ∧ r.2 = 0 ∧ r.1.length = n.N.toNat ∧ ∀ v : Nat, v < n.N.toNat → r.1.getD v 0 = ex n.Arcs f v n.Arcs.length) ∨ (¬ FwithinP n f ∧ r = ([], 20))) := by
 unfold Z14
 refine Ok.bind.2 (Ok.mono (Zdw hl) fun b hb => Ok.ite.2 ⟨fun h => Ok.some.2 (.inr ⟨fun h2 => (by rw [hb.2 h2] at h; cases h), rfl⟩), fun h => ?_⟩)
 have hw : FwithinP n f := hb.1 (by cases b; exact absurd rfl h; rfl)
 have hz := Kx hw.1
 obtain ⟨m, hm⟩ : ∃ m : Nat, n.N = m := ⟨n.N.toNat, by omega⟩
 have he : Jf m n.Arcs := Z51 (by rw [← hm]; exact hz.2.2.2.1)
 have hfl := hw.2.1
 refine Ok.gd.2 ⟨(by omega), Ok.bind.2 ?_⟩
 rw [hm]
 simp only [Int.toNat_natCast]
 refine Gh (fun s => ∃ k : Nat, s.2 = k ∧ k ≤ n.Arcs.length ∧ s.1.length = m ∧ ∀ v : Nat, v < m → s.1.getD v 0 = ex n.Arcs f v k) (fun s => (n.Arcs.length - s.2).toNat) ⟨0, rfl, by omega, List.length_replicate, fun v _ => by rw [Z0a]; rfl⟩ (by unfold Ys; simp only; omega) ?_
 rintro ⟨xs, x⟩ ⟨k, h1, hk, h3, h4⟩ P next exit
 simp only at h1 h3 h4 next ⊢
 subst h1
 unfold Z19
 simp only [Int.toNat_natCast]
 refine Ok.ite.2 ⟨fun hx => ?_, fun hx => ?_⟩
 ·
  have hkl : k < n.Arcs.length := by omega
  have e0 := he k hkl false
  have e1 := he k hkl true
  simp only [Xg, Bool.false_eq_true, if_false, if_true] at e0 e1
  obtain ⟨p, hp⟩ : ∃ p : Nat, (n.Arcs.getD k default).fr = p := ⟨(n.Arcs.getD k default).fr.toNat, by omega⟩
  obtain ⟨q, hq⟩ : ∃ q : Nat, (n.Arcs.getD k default).to = q := ⟨(n.Arcs.getD k default).to.toNat, by omega⟩
  have hfk := hw.2.2 k hkl
  have b0 := ex_le (al := n.Arcs) (f := f) (p : Int) (fun i hi => (hw.2.2 i hi).1) k hk
  have b1 := ex_le (al := n.Arcs) (f := f) (q : Int) (fun i hi => (hw.2.2 i hi).1) k hk
  have t0 := hw.tot k hk
  have t1 := hw.tot (k + 1) hkl
  simp only [tot] at t1
  rw [hp] at e0
  rw [hq] at e1
  have v0 := h4 p (by omega)
  have v1 := h4 q (by omega)
  simp only [hp, hq, Int.toNat_natCast, v0, Lp, List.length_set, h3]
  refine Ok.gd.2 ⟨(by omega), Ok.gd.2 ⟨(by omega), Ok.gd.2 ⟨(by omega), Ok.gd.2 ⟨(by omega), Ok.gd.2 ⟨(by omega), Ok.gd.2 ⟨(by omega), Ok.gd.2 ⟨(by omega), Ok.gd.2 ⟨by split <;> constructor <;> omega, Ok.gd.2 ⟨(by omega), Ok.gd.2 ⟨(by omega), Ok.some.2 (next _ ⟨k + 1, by simp, by omega, by simp [h3], fun v hv => ?_⟩ (by simp only; omega))⟩⟩⟩⟩⟩⟩⟩⟩⟩⟩
  simp only [Lp, List.length_set, h3, ex, hp, hq]
  rw [h4 v hv]
  by_cases c1 : p = v
  ·
   subst c1
   by_cases c2 : q = p
   ·
    subst c2
    simp only [true_and, if_true]
    rw [if_pos (by omega)]; simp [show q < m by omega]
   · rw [if_neg (fun h => c2 h.1), if_pos ⟨rfl, by omega⟩, if_pos rfl, if_neg (by omega)]; omega
  ·
   by_cases c2 : q = v
   ·
    subst c2
    rw [if_pos ⟨rfl, by omega⟩, if_neg (fun h => c1 h.1), if_neg (by omega), if_pos rfl, v1]; omega
   · rw [if_neg (fun h => c2 h.1), if_neg (fun h => c1 h.1), if_neg (by omega), if_neg (by omega)]; omega
 ·
  refine Ok.some.2 (exit _ ?_)
  unfold Z3m
  rw [show k = n.Arcs.length by omega] at h4
  exact Ok.some.2 (.inl ⟨hw, rfl, h3, h4⟩)
end Go.Acq
namespace Go.Acq
open Go Go.Lib
theorem bs_getD (x : Str) (i : Nat) : (bs x).get! i = x.getD i 0 := by
 by_cases h : i < x.length
 · rw [Z93 x i h, List.getD_eq_getElem?_getD, List.getElem?_eq_getElem h]; rfl
 ·
  rw [List.getD_eq_getElem?_getD, List.getElem?_eq_none (by omega)]
  simp [ByteArray.get!, bs, h]; rfl
theorem Z7b (x : Str) (i : Nat) (h : i < x.length) (ha : 128 ≤ (x.getD i 0).toNat) : ∃ r k, Utf8.decode (bs x) i = (r, k) ∧ 128 ≤ r ∧ 1 ≤ k ∧ ∀ j, j < k → i + j < x.length ∧ 128 ≤ (x.getD (i + j) 0).toNat := by
 have h0 : ∀ j, j < 1 → i + j < x.length ∧ 128 ≤ (x.getD (i + j) 0).toNat := fun j hj => by
  obtain rfl : j = 0 := by omega
  exact ⟨h, ha⟩
 have hc : ∀ j, (decide (i + j < (bs x).size) && ((x.getD (i + j) 0).toNat / 64 == 2)) = true → i + j < x.length ∧ 128 ≤ (x.getD (i + j) 0).toNat := fun j hj => by
  simp only [Bool.and_eq_true, decide_eq_true_eq, beq_iff_eq, Xk] at hj
  omega
 unfold Utf8.decode
 simp only [bs_getD, Nat.add_zero]
 rw [if_neg (by omega)]
 split
 ·
  rename_i h1
  rw [Bool.and_eq_true] at h1
  split
  ·
   refine ⟨_, _, rfl, by assumption, by omega, fun j hj => ?_⟩
   rcases (by omega : j = 0 ∨ j = 1) with rfl | rfl
   · exact h0 0 (by omega)
   · exact hc 1 h1.2
  · exact ⟨_, _, rfl, by decide, by omega, h0⟩
 ·
  split
  ·
   rename_i h1
   rw [Bool.and_eq_true, Bool.and_eq_true] at h1
   split
   ·
    rename_i h2
    rw [Bool.and_eq_true, decide_eq_true_eq] at h2
    refine ⟨_, _, rfl, by omega, by omega, fun j hj => ?_⟩
    rcases (by omega : j = 0 ∨ j = 1 ∨ j = 2) with rfl | rfl | rfl
    · exact h0 0 (by omega)
    · exact hc 1 h1.1.2
    · exact hc 2 h1.2
   · exact ⟨_, _, rfl, by decide, by omega, h0⟩
  ·
   split
   ·
    rename_i h1
    rw [Bool.and_eq_true, Bool.and_eq_true, Bool.and_eq_true] at h1
    split
    ·
     rename_i h2
     rw [Bool.and_eq_true, decide_eq_true_eq] at h2
     refine ⟨_, _, rfl, by omega, by omega, fun j hj => ?_⟩
     rcases (by omega : j = 0 ∨ j = 1 ∨ j = 2 ∨ j = 3) with rfl | rfl | rfl | rfl
     · exact h0 0 (by omega)
     · exact hc 1 h1.1.1.2
     · exact hc 2 h1.1.2
     · exact hc 3 h1.2
    · exact ⟨_, _, rfl, by decide, by omega, h0⟩
   · exact ⟨_, _, rfl, by decide, by omega, h0⟩
theorem Z7h {l : Str} {i : Nat} {c : UInt8} (h : l[i]? = some c) : l.getD i 0 = c := by rw [List.getD_eq_getElem?_getD, h]; rfl
theorem Zav {p : Nat → Bool} (hp : ∀ r, 128 ≤ r → p r = false) (l : Str) (Zc : Nat) (h : Zc < l.length) :
    (∃ c, l[Zc]? = some c ∧ p c.toNat = true ∧ Utf8.decode (bs l) Zc = (c.toNat, 1)) ∨ (∃ r k, Utf8.decode (bs l) Zc = (r, k) ∧ p r = false ∧ 1 ≤ k ∧ Zc + k ≤ l.length ∧ ∀ b ∈ (l.drop Zc).take k, p b.toNat = false) := by
  obtain ⟨c, hc⟩ := Z2q h
  by_cases ha : c.toNat < 128
  · have hd := Z2z l Zc c hc ha
    cases hq : p c.toNat with
    | true => exact .inl ⟨c, hc, hq, hd⟩
    | false =>
      refine .inr ⟨_, _, hd, hq, by omega, by omega, fun b hb => ?_⟩
      rw [Z0k hc] at hb
      simp only [List.take_succ_cons, List.take_zero, List.mem_singleton] at hb
      rw [hb]; exact hq
  · obtain ⟨r, k, hd, hr, hk, hj⟩ := Z7b l Zc h (by rw [Z7h hc]; omega)
    have hle : Zc + k ≤ l.length := by have := (hj (k - 1) (by omega)).1; omega
    refine .inr ⟨r, k, hd, hp r hr, hk, hle, fun b hb => ?_⟩
    obtain ⟨j, hjl, rfl⟩ := List.mem_iff_getElem.1 hb
    rw [List.length_take, List.length_drop] at hjl
    have := (hj j (by omega)).2
    rw [List.getElem_take, List.getElem_drop]
    rw [List.getD_eq_getElem?_getD, List.getElem?_eq_getElem (by omega)] at this
    exact hp _ this
theorem Z0j {p : Nat → Bool} {l : Str} : ∀ (seg cur : Str), (∀ b ∈ seg, p b.toNat = false) → Yw p (seg ++ l) cur = Yw p l (cur ++ seg)
 | [], cur, _ => by rw [List.nil_append, List.append_nil]
 | b :: seg, cur, h => by
  rw [List.cons_append, Z61 (by rw [h b (.head _)]; decide), Z0j seg _ (fun x hx => h x (.tail _ hx)), List.append_assoc]; rfl
theorem Ze3 {p : Nat → Bool} (hp : ∀ r, 128 ≤ r → p r = false) (l : Str) : ∀ (f Zc : Nat) (st : Option Nat) (acc : List (Nat × Nat)), l.length ≤ Zc + f → Zc ≤ l.length → opn st Zc →
    (closeSpans (bs l) (spansFromP p (bs l) f Zc st acc)).map (fun x => (l.take x.2).drop x.1) = acc.map (fun x => (l.take x.2).drop x.1) ++ Yw p (l.drop Zc) (We l st Zc) := by
  have hne : ∀ a Zc, a < Zc → Zc ≤ l.length → We l (some a) Zc ≠ [] := fun a Zc h1 h2 e => by
    have := congrArg List.length e
    unfold We at this
    simp only at this
    rw [List.length_drop, List.length_take] at this
    simp only [List.length_nil] at this
    omega
  have fin : ∀ (f Zc : Nat) (st : Option Nat) (acc : List (Nat × Nat)), Zc = l.length → opn st Zc →
      (closeSpans (bs l) (spansFromP p (bs l) f Zc st acc)).map (fun x => (l.take x.2).drop x.1) = acc.map (fun x => (l.take x.2).drop x.1) ++ Yw p (l.drop Zc) (We l st Zc) := by
    intro f Zc st acc hp ho
    subst hp
    rw [spansFromP_end _ _ _ _ _ _ (by rw [Xk]; omega), List.drop_eq_nil_of_le (Nat.le_refl _)]
    cases st with
    | none => simp [closeSpans, We, Yw]
    | some a =>
      rw [Z5c (hne a _ (ho a rfl) (Nat.le_refl _))]
      simp only [closeSpans, We, Xk, List.map_append, List.map_cons, List.map_nil]
  intro f
  induction f with
  | zero => intro Zc st acc hf hp ho; exact fin 0 Zc st acc (by omega) ho
  | succ f ih =>
    intro Zc st acc hf hpl ho
    by_cases hlt : Zc < l.length
    · have hsz : Zc < (bs l).size := by rw [Xk]; exact hlt
      rcases Zav hp l Zc hlt with ⟨c, hc, hq, hd⟩ | ⟨r, k, hd, hq, hk, hle, hseg⟩
      · rw [Z0k hc]
        cases st with
        | none =>
          have e : spansFromP p (bs l) (f + 1) Zc none acc = spansFromP p (bs l) f (Zc + 1) none acc := by simp only [spansFromP, if_pos hsz, hd, if_pos hq]
          rw [e, ih (Zc + 1) none acc (by omega) (by omega) (fun a e => by cases e)]
          rw [show We l none Zc = [] from rfl, Z0s hq]; rfl
        | some a =>
          have e : spansFromP p (bs l) (f + 1) Zc (some a) acc = spansFromP p (bs l) f (Zc + 1) none (acc ++ [(a, Zc)]) := by simp only [spansFromP, if_pos hsz, hd, if_pos hq]
          rw [e, ih (Zc + 1) none (acc ++ [(a, Zc)]) (by omega) (by omega) (fun a e => by cases e), Rt hq (hne a Zc (ho a rfl) (by omega))]
          simp only [We, List.map_append, List.map_cons, List.map_nil, List.append_assoc, List.cons_append, List.nil_append]
      · have hq' : ¬ p r = true := by rw [hq]; decide
        have hs : l.drop Zc = (l.drop Zc).take k ++ l.drop (Zc + k) := by rw [← List.drop_drop, List.take_append_drop]
        cases st with
        | none =>
          have e : spansFromP p (bs l) (f + 1) Zc none acc = spansFromP p (bs l) f (Zc + k) (some Zc) acc := by simp only [spansFromP, if_pos hsz, hd, if_neg hq']
          rw [e, ih (Zc + k) (some Zc) acc (by omega) hle (fun a e => by cases e; omega), hs, Z0j _ _ hseg]
          simp only [We, List.nil_append]
          rw [show (l.take (Zc + k)).drop Zc = (l.drop Zc).take k by rw [List.drop_take]; congr 1; omega]
        | some a =>
          have e : spansFromP p (bs l) (f + 1) Zc (some a) acc = spansFromP p (bs l) f (Zc + k) (some a) acc := by simp only [spansFromP, if_pos hsz, hd, if_neg hq']
          rw [e, ih (Zc + k) (some a) acc (by omega) hle (fun b e => by cases e; have := ho a rfl; omega), hs, Z0j _ _ hseg]
          have h1 := ho a rfl
          have : We l (some a) (Zc + k) = We l (some a) Zc ++ (l.drop Zc).take k := by
            unfold We
            simp only
            rw [show l.take (Zc + k) = l.take Zc ++ (l.drop Zc).take k from List.take_add, List.drop_append_of_le_length (by rw [List.length_take]; omega)]
          rw [this]
    · exact fin (f + 1) Zc st acc (by omega) ho
theorem Zdl {p : Nat → Bool} (hp : ∀ r, 128 ≤ r → p r = false) (l : Str) : Z1q p l = Yw p l [] := by
 have h0 := Z8g p l
 have h1 := Ze3 hp l l.length 0 none [] (by omega) (by omega) (fun a e => by cases e)
 simp only [List.map_nil, List.nil_append, List.drop_zero] at h1
 have h2 : We l none 0 = [] := rfl
 rw [h2] at h1
 have h3 : goFieldsP p (bs l) = (Yw p l []).map bs := by
  rw [← h1]
  unfold goFieldsP spansOfP
  rw [Xk, List.map_map]
  apply List.map_congr_left
  intro x _
  exact Z6r l x.1 x.2
 rw [h3] at h0
 have hinj : Function.Injective bs := fun a b h => by have := congrArg (fun z => z.data.toList) h; simpa [bs] using this
 exact ((List.map_inj_right (fun a b h => hinj h)).1 h0).symm
theorem Z0w {p : Nat → Bool} : ∀ (l cur : Str), ∀ w ∈ Yw p l cur, w ≠ []
 | [], cur, w, h => by
  unfold Yw at h
  split at h
  · cases h
  · rcases List.mem_singleton.1 h with rfl; assumption
 | b :: l, cur, w, h => by
  unfold Yw at h
  split at h
  ·
   split at h
   · exact Z0w l [] w h
   ·
    rcases List.mem_cons.1 h with rfl | h
    · assumption
    · exact Z0w l [] w h
  · exact Z0w l _ w h
theorem anyT_any {p : Nat → Bool} (hp : ∀ r, 128 ≤ r → p r = true) (l : Str) : anyT p l = l.any (fun b => p b.toNat) := by
 rw [← Z82]
 have key : ∀ (f Zc : Nat), l.length ≤ Zc + f → decide (0 ≤ idxFuncFrom p true (bs l) f Zc) = (l.drop Zc).any (fun b => p b.toNat) := by
  intro f
  induction f with
  | zero => intro Zc hf; rw [List.drop_eq_nil_of_le (by omega)]; rfl
  | succ f ih =>
   intro Zc hf
   by_cases hlt : Zc < l.length
   ·
    obtain ⟨c, hc⟩ := Z2q hlt
    rw [idxFuncFrom, if_pos (by rw [Xk]; exact hlt), Z0k hc, List.any_cons]
    by_cases ha : c.toNat < 128
    ·
     rw [Z2z l Zc c hc ha]
     by_cases hq : p c.toNat = true
     · rw [if_pos hq, hq, Bool.true_or]; exact decide_eq_true (by omega)
     ·
      rw [if_neg hq, Bool.eq_false_iff.2 hq, Bool.false_or]
      exact ih (Zc + 1) (by omega)
    ·
     obtain ⟨r, k, hd, hr, hk, hj⟩ := Z7b l Zc hlt (by rw [Z7h hc]; omega)
     rw [hd, if_pos (hp r hr), hp _ (by omega), Bool.true_or]
     exact decide_eq_true (by omega)
   · rw [idxFuncFrom_end _ _ _ _ _ (by rw [Xk]; exact hlt), List.drop_eq_nil_of_le (by omega)]; rfl
 unfold idxFunc
 rw [Xk, key l.length 0 (by omega), List.drop_zero]
def Ju (b : UInt8) : Bool := decide (48 ≤ b.toNat ∧ b.toNat ≤ 57)
def Vq (acc : Nat) (l : Str) : Nat := l.foldl (fun a b => a * 10 + (b.toNat - 48)) acc
theorem valD_nil (acc : Nat) : Vq acc [] = acc := rfl
theorem Zaz (acc : Nat) (b : UInt8) (l : Str) : Vq acc (b :: l) = Vq (acc * 10 + (b.toNat - 48)) l := by
 unfold Vq; rw [List.foldl_cons]
theorem Zdh (l : Str) : ∀ (acc : Nat), l.all Ju = true → (acc + 1) * 10 ^ l.length ≤ 18446744073709551616 → parseUintM 18446744073709551615 acc l = .ok (Vq acc l) := by
 induction l with
 | nil => intro acc _ _; rfl
 | cons b l ih =>
  intro acc h hb
  rw [List.all_cons, Bool.and_eq_true] at h
  have h1 : 48 ≤ b.toNat ∧ b.toNat ≤ 57 := of_decide_eq_true h.1
  rw [List.length_cons, Nat.pow_succ] at hb
  have hp : 1 ≤ 10 ^ l.length := Nat.one_le_pow _ _ (by omega)
  have h2 : (acc * 10 + (b.toNat - 48) + 1) * 10 ^ l.length ≤ 18446744073709551616 := by
   refine Nat.le_trans ?_ hb
   rw [Nat.mul_comm (10 ^ l.length) 10, ← Nat.mul_assoc]
   exact Nat.mul_le_mul_right _ (by omega)
  have h3 : acc * 10 + (b.toNat - 48) + 1 ≤ 18446744073709551616 := Nat.le_trans (by have := Nat.mul_le_mul_left (acc * 10 + (b.toNat - 48) + 1) hp; omega) h2
  rw [parseUintM, if_pos h1, if_neg (by omega), if_neg (by omega)]
  exact ih _ h.2 h2
def Wy (s : Str) : Int × Bool := if s.all Ju = true ∧ s ≠ [] ∧ s.length ≤ 19 ∧ Vq 0 s < 9223372036854775808 then ((Vq 0 s : Int), true) else (0, false)
theorem Zab {s : Str} (h : s.all Ju = true) (h0 : s ≠ []) (h1 : s.length ≤ 19) : Z0e s = if Vq 0 s < 9223372036854775808 then ((Vq 0 s : Int), true) else (9223372036854775807, false) := by
 obtain ⟨c, r, rfl⟩ := List.exists_cons_of_ne_nil h0
 have hc : 48 ≤ c.toNat ∧ c.toNat ≤ 57 := by rw [List.all_cons, Bool.and_eq_true] at h; exact of_decide_eq_true h.1
 have hp : parseUintB 64 (c :: r) = .ok (Vq 0 (c :: r)) := by
  unfold parseUintB
  rw [if_neg h0]
  refine Zdh _ 0 h ?_
  have : (10 : Nat) ^ (c :: r).length ≤ 10 ^ 19 := Nat.pow_le_pow_right (by omega) h1
  omega
 unfold Z0e
 rw [parseIntB_plain 64 c r (by omega) (by omega), hp]
 simp only [signlessC]
 by_cases hv : Vq 0 (c :: r) < 9223372036854775808
 · rw [if_pos hv, if_neg (by omega)]
 ·
  rw [if_neg hv, if_pos (by omega)]
  simp only
  rw [intSat_other 64 c r (by omega)]; rfl
theorem Z48 : ∀ (f u : Nat), (Wg f u).all Ju = true
 | 0, u => rfl
 | f + 1, u => by
  have key : ∀ v, v < 10 → Ju (UInt8.ofNat (48 + v)) = true := fun v hv => by
   refine decide_eq_true ?_
   rw [UInt8.toNat_ofNat']
   omega
  rw [Wg]
  split
  · rw [List.all_cons, key u (by omega)]; rfl
  · rw [List.all_append, Z48 f, List.all_cons, key _ (by omega)]; rfl
theorem valD_app (l : Str) (acc : Nat) (b : UInt8) : Vq acc (l ++ [b]) = Vq acc l * 10 + (b.toNat - 48) := by
 unfold Vq; rw [List.foldl_append]; rfl
theorem Z6w : ∀ (f u : Nat), u < 10 ^ f → Vq 0 (Wg f u) = u
 | 0, u, h => by simp at h; subst h; rfl
 | f + 1, u, h => by
  have key : ∀ v, v < 10 → (UInt8.ofNat (48 + v)).toNat - 48 = v := fun v hv => by rw [UInt8.toNat_ofNat']; omega
  rw [Wg]
  split
  · rw [Zaz, valD_nil, key u (by omega)]; omega
  · rw [valD_app, Z6w f (u / 10) (by rw [Nat.pow_succ] at h; omega), key _ (by omega)]; omega
theorem Z57 : ∀ (f u : Nat), u < 10 ^ f → 1 ≤ f → 1 ≤ (Wg f u).length ∧ (Wg f u).length ≤ f
 | 0, u, _, h => by omega
 | f + 1, u, h, _ => by
  rw [Wg]
  split
  · simp
  ·
   rename_i hu
   rw [List.length_append, List.length_singleton]
   have h2 : u / 10 < 10 ^ f := by rw [Nat.pow_succ] at h; omega
   cases f with
   | zero => simp at h; omega
   | succ f => have := Z57 (f + 1) (u / 10) h2 (by omega); omega
theorem Z97 : ∀ (f u : Nat), u < 10 ^ (f + 1) → Wg (f + 2) u = Wg (f + 1) u
 | 0, u, h => by
  have h2 : u < 10 := by simpa using h
  rw [Wg, if_pos h2, Wg, if_pos h2]
 | f + 1, u, h => by
  by_cases hu : u < 10
  · rw [Wg, if_pos hu, Wg, if_pos hu]
  ·
   rw [Wg, if_neg hu, Z97 f (u / 10) (by rw [Nat.pow_succ] at h; omega)]
   conv => rhs; rw [Wg, if_neg hu]
theorem Z9r {n : Int} (h0 : 0 ≤ n) (h1 : n ≤ 9223372036854775807) : Yj n = Wg 19 n.toNat ∧ (Yj n).all Ju = true ∧ Yj n ≠ [] ∧ (Yj n).length ≤ 19 ∧ Vq 0 (Yj n) = n.toNat := by
 have e19 : (10 : Nat) ^ 19 = 10000000000000000000 := by decide
 have e : Yj n = Wg 19 n.toNat := by
  unfold Yj
  rw [if_neg (by omega)]
  exact Z97 18 n.toNat (by rw [show 18 + 1 = 19 from rfl, e19]; omega)
 have hl := Z57 19 n.toNat (by rw [e19]; omega) (by omega)
 refine ⟨e, by rw [e]; exact Z48 _ _, fun h => ?_, by rw [e]; exact hl.2, by rw [e]; exact Z6w 19 _ (by rw [e19]; omega)⟩
 rw [e] at h
 rw [h] at hl
 simp at hl
theorem Z5f {n : Int} (h0 : 0 ≤ n) (h1 : n ≤ 9223372036854775807) : Wy (Yj n) = (n, true) := by
 obtain ⟨-, h2, h3, h4, h5⟩ := Z9r h0 h1
 unfold Wy
 rw [if_pos ⟨h2, h3, h4, by omega⟩, h5, Int.toNat_of_nonneg h0]
end Go.Acq
namespace Go.Acq
open Go
def Kf {S V X : Type} (yy : S → V → Option (S ⊕ X)) : S → List V → Option (S ⊕ X)
  | s, [] => some (.inl s)
  | s, v :: vs => Option.bind (yy s v) fun t => match t with | .inl s' => Kf yy s' vs | .inr x => some (.inr x)
def Vc : Str → Str → List Str
  | [], cur => [cur]
  | b :: l, cur => if b = 10 then cur :: Vc l [] else Vc l (cur ++ [b])
theorem Z3r : ∀ (l cur : Str), ∀ x ∈ Vc l cur, x.length ≤ cur.length + l.length
 | [], cur, x, h => by rw [Vc] at h; rw [List.mem_singleton.1 h]; exact Nat.le_add_right _ _
 | b :: l, cur, x, h => by
  rw [Vc] at h
  split at h
  ·
   rcases List.mem_cons.1 h with rfl | h
   · exact Nat.le_add_right _ _
   · have := Z3r l [] x h; simp only [List.length_nil, List.length_cons] at this ⊢; omega
  · have := Z3r l _ x h; rw [List.length_append, List.length_singleton] at this; rw [List.length_cons]; omega
theorem Z8w : ∀ (seg rest cur : Str), (∀ b ∈ seg, b ≠ 10) → Vc (seg ++ 10 :: rest) cur = (cur ++ seg) :: Vc rest []
 | [], rest, cur, _ => by rw [List.nil_append, Vc, if_pos rfl, List.append_nil]
 | b :: seg, rest, cur, h => by
  rw [List.cons_append, Vc, if_neg (h b (.head _)), Z8w seg rest _ (fun x hx => h x (.tail _ hx)), List.append_assoc]; rfl
theorem Z8s : ∀ (t cur : Str), (Lib.indexByte t 10 < 0 ∧ Vc t cur = [cur ++ t]) ∨ (∃ r : Nat, Lib.indexByte t 10 = r ∧ r < t.length ∧ Vc t cur = (cur ++ t.take r) :: Vc (t.drop (r + 1)) [])
 | [], cur => .inl ⟨by decide, by rw [Vc, List.append_nil]⟩
 | b :: l, cur => by
  by_cases hb : b = 10
  ·
   subst hb
   refine .inr ⟨0, rfl, by simp, ?_⟩
   rw [Vc, if_pos rfl]; simp
  ·
   have h1 : (b == (10 : UInt8)) = false := by simpa using hb
   rcases Z8s l (cur ++ [b]) with ⟨h2, h3⟩ | ⟨r, h2, h3, h4⟩
   ·
    refine .inl ⟨?_, by rw [Vc, if_neg hb, h3, List.append_assoc]; rfl⟩
    have h5 : Lib.indexByte l 10 = -1 := by have := Lib.indexByte_ge l 10; omega
    rw [Lib.indexByte, h1, h5]; decide
   ·
    refine .inr ⟨r + 1, ?_, by rw [List.length_cons]; omega, ?_⟩
    ·
     rw [Lib.indexByte, h1, h2]
     have : ((r : Int) == -1) = false := beq_eq_false_iff_ne.2 (by omega)
     rw [this]; simp
    · rw [Vc, if_neg hb, h4, List.append_assoc]; simp
theorem ub_take (t : Str) (k : Nat) : (ub t).take k = ub (t.take k) := by unfold ub; rw [List.map_take]
theorem ub_drop (t : Str) (k : Nat) : (ub t).drop k = ub (t.drop k) := by unfold ub; rw [List.map_drop]
theorem Z4g (a b : Str) : ub (a ++ b) = ub a ++ ub b := by unfold ub; rw [List.map_append]
theorem Z65 (t : Str) : Z16 (ub t) [10] = some (Lib.indexByte t 10) := by
 unfold Z16 Z2u
 rw [if_neg (by simp), if_pos (by simp), Xi (by constructor <;> decide)]
 simp only [Option.bind_some]
 congr 1
 unfold idxT
 rw [bu_ub]; rfl
theorem Za6 {S X : Type} (yy : S → List Int → Option (S ⊕ X)) {t : Str} {s : S} (h1 : Lib.indexByte t 10 < 0) : Jv yy [10] 0 (ub t) (.inl s) = some (.inr (.inl (ub t, .inl s))) := by
 unfold Jv
 rw [Z65, Option.bind_some, if_pos h1]
theorem Zbk {S X : Type} (yy : S → List Int → Option (S ⊕ X)) {t : Str} {s : S} {r : Nat} (hl : t.length ≤ 1152921504606846976) (h1 : Lib.indexByte t 10 = r) (h2 : r < t.length) :
    Jv yy [10] 0 (ub t) (.inl s) = Option.bind (yy s (ub (t.take r))) fun x => match x with | .inl s' => some (.inl (ub (t.drop (r + 1)), .inl s')) | .inr x => some (.inr (.inr (.inr x))) := by
  unfold Jv
  rw [Z65, Option.bind_some, if_neg (by omega), h1]
  have ht : ((r : Int) + 0).toNat = r := by omega
  have hd : ((r : Int) + (([10] : List Int).length : Int)).toNat = r + 1 := by simp only [List.length_singleton]; omega
  have hlen := Jd t
  rw [Xi (by omega), Xi (by rw [hlen]; omega), Xi (by omega), ht, hd, List.take_of_length_le (by omega), ub_take, ub_drop]
  simp only [Gj]
  cases hy : yy s (ub (t.take r)) with
  | none => rfl
  | some x =>
    cases x with
    | inr x => rfl
    | inl s' =>
      rw [Option.bind_some, if_neg (by simp), Xi (by simp only [List.length_singleton]; omega), Xi (by rw [hlen]; simp only [List.length_singleton]; omega)]
      rfl
theorem s_splitN {S X : Type} (yy : S → List Int → Option (S ⊕ X)) : ∀ (fuel : Nat) (t : Str) (s : S), t.length ≤ 1152921504606846976 → t.length < fuel →
    (Option.bind (Xa (fun s : List Int × (S ⊕ X) => Jv yy [10] 0 s.1 s.2) fuel (ub t, .inl s)) fun o => match o with | .inl (p2_0_0, p2_0_1) => (Z02 yy p2_0_0 p2_0_1) | .inr p2_1_0 => (some p2_1_0)) = Kf (fun s v => yy s (ub v)) s (Vc t []) := by
  intro fuel
  induction fuel with
  | zero => intro t s _ h; omega
  | succ fuel ih =>
    intro t s hl hf
    rw [Xa]
    rcases Z8s t [] with ⟨h1, h2⟩ | ⟨r, h1, h2, h3⟩
    · rw [Za6 yy h1, h2]
      simp only [Option.bind_some, List.nil_append, Kf]
      unfold Z02
      rw [Xi (by omega), List.take_of_length_le (by omega)]
      simp only [Gj]
      cases yy s (ub t) with
      | none => rfl
      | some x => cases x <;> rfl
    · rw [Zbk yy hl h1 h2, h3]
      rw [Kf, List.nil_append]
      cases hy : yy s (ub (t.take r)) with
      | none => rfl
      | some x =>
        cases x with
        | inr x => rfl
        | inl s' => exact ih (t.drop (r + 1)) s' (by rw [List.length_drop]; omega) (by rw [List.length_drop]; omega)
theorem s_split {S X : Type} (yy : S → List Int → Option (S ⊕ X)) (t : Str) (s : S) (hl : t.length ≤ 1152921504606846976) : Z0o yy [10] (ub t) 0 (.inl s) = Kf (fun s v => yy s (ub v)) s (Vc t []) := by
 unfold Z0o Z24
 rw [if_neg (by simp)]
 have hF : t.length < Ys := Nat.lt_of_le_of_lt hl (by unfold Ys; decide)
 exact s_splitN yy Ys t s hl hF
theorem Rk (x : Nat) : Wb x = decide (x = 9 ∨ x = 13 ∨ x = 32) := by
 unfold Wb Rb
 by_cases h1 : x = 9
 · subst h1; rfl
 ·
  by_cases h2 : x = 13
  · subst h2; rfl
  ·
   rw [if_neg (by omega), if_neg (by omega)]
   by_cases h3 : x = 32
   · subst h3; rfl
   · rw [decide_eq_false (by omega : ¬((x : Int) = 32)), decide_eq_false (by omega : ¬(x = 9 ∨ x = 13 ∨ x = 32))]; rfl
theorem blank_hi : ∀ r, 128 ≤ r → Wb r = false := fun r h => by rw [Rk]; exact decide_eq_false (by omega)
def Xd (l : Str) : List Str := Yw Wb l []
theorem s_Words (l : Str) (h : l.length ≤ 4294967296) : Z06 (ub l) = some (Xd l) := by
 unfold Z06 Z31
 rw [bu_ub, Xi h, Zdl blank_hi]; rfl
def Ua (l : Str) : Option (List Str) := if Xd l = [] then none else if ((Xd l).getD 0 []).getD 0 0 = 99 then none else some (Xd l)
def Ww (t : Str) : List (List Str) := (Vc t []).filterMap Ua
theorem Zal {S X : Type} (yy : S → List Str → Option (S ⊕ X)) (s : S) (l : Str) (h : l.length ≤ 4294967296) :
    Gb yy (.inl s) (ub l) = match Ua l with | none => some (.inl (.inl s)) | some w => Option.bind (yy s w) fun t => match t with | .inl s' => some (.inl (.inl s')) | .inr x => some (.inr (.inr x)) := by
  unfold Gb Ua
  rw [s_Words l h]
  simp only [Option.bind_some]
  by_cases h1 : Xd l = []
  · rw [if_pos h1, if_neg (by rw [h1]; simp)]
  · have h2 : 0 < (Xd l).length := List.length_pos_iff.2 h1
    have h3 : (Xd l).getD (0 : Int).toNat [] ∈ Xd l := by
      rw [Int.toNat_zero, List.getD_eq_getElem?_getD, List.getElem?_eq_getElem h2]
      exact List.getElem_mem h2
    have h4 : 0 < ((Xd l).getD (0 : Int).toNat []).length := List.length_pos_iff.2 (Z0w _ _ _ h3)
    rw [if_neg h1, if_pos (by omega), Xi (by constructor <;> omega), Xi (by constructor <;> omega)]
    rw [Int.toNat_zero]
    by_cases h5 : ((Xd l).getD 0 []).getD 0 0 = 99
    · rw [if_pos h5, if_neg (by rw [h5]; decide)]
    · have h6 : ¬ ((((Xd l).getD 0 []).getD 0 0).toNat : Int) = 99 := fun e => h5 (UInt8.toNat_inj.1 (by have : (99 : UInt8).toNat = 99 := rfl; omega))
      rw [if_neg h5, if_pos h6]
      simp only [Gj]
      cases yy s (Xd l) with
      | none => rfl
      | some x => cases x <;> rfl
theorem Z6s {S X : Type} (yy : S → List Str → Option (S ⊕ X)) (t : Str) (s : S) (hl : t.length ≤ 4294967296) : Ly yy (ub t) (.inl s) = Kf yy s (Ww t) := by
  unfold Ly Z2h Z3f
  simp only [Option.bind_some]
  rw [s_split _ t _ (by omega)]
  have key : ∀ (ls : List Str) (s : S), (∀ x ∈ ls, x.length ≤ 4294967296) →
      (Option.bind (Kf (fun s v => Gb yy s (ub v)) (.inl s) ls) fun t => match t with | .inl tt13 => (some tt13) | .inr tt13 => (some tt13)) = Kf yy s (ls.filterMap Ua) := by
    intro ls
    induction ls with
    | nil => intro s _; rfl
    | cons l ls ih =>
      intro s h
      rw [Kf, Zal yy s l (h l (.head _)), List.filterMap_cons]
      have ih2 := fun s' => ih s' (fun x hx => h x (.tail _ hx))
      cases hs : Ua l with
      | none => simp only [Option.bind_some]; exact ih2 s
      | some w =>
        simp only
        rw [Kf]
        cases yy s w with
        | none => rfl
        | some x =>
          cases x with
          | inl s' => simp only [Option.bind_some]; exact ih2 s'
          | inr x => rfl
  exact key _ s fun x hx => by have := Z3r t [] x hx; simp only [List.length_nil] at this; omega
theorem saidT_ne {t : Str} {w : List Str} (h : w ∈ Ww t) : w ≠ [] ∧ ∀ x ∈ w, x ≠ [] := by
 obtain ⟨l, -, hl⟩ := List.mem_filterMap.1 h
 unfold Ua at hl
 split at hl
 · cases hl
 ·
  split at hl
  · cases hl
  ·
   injection hl with hl
   subst hl
   exact ⟨by assumption, fun x hx => Z0w _ _ x hx⟩
theorem Ze4 : Ww [] = [] := rfl
theorem Zc5 (seg rest : Str) (h : ∀ b ∈ seg, b ≠ 10) : Ww (seg ++ 10 :: rest) = (Ua seg).toList ++ Ww rest := by
 unfold Ww
 rw [Z8w seg rest [] h, List.nil_append, List.filterMap_cons]
 cases Ua seg <;> rfl
def okW (w : Str) : Prop := w ≠ [] ∧ ∀ b ∈ w, Wb b.toNat = false
theorem Z6v {w : Str} (h : okW w) : Yw Wb w [] = [w] := by
 have := Z0j (p := Wb) (l := []) w [] h.2
 rw [List.append_nil, List.nil_append] at this
 rw [this, Z5c h.1]
theorem Z2a {w rest : Str} (h : okW w) {b : UInt8} (hb : Wb b.toNat = true) : Yw Wb (w ++ b :: rest) [] = w :: Yw Wb rest [] := by
 rw [Z0j w [] h.2, List.nil_append, Rt hb h.1]
theorem Z9s {a b : List Bool} (h : lenok a.length) : Rh a b = some (decide (a = b)) := by
 refine Nt ?_
 unfold Rh
 refine Ok.ite.2 ⟨fun hl => Ok.some.2 (decide_eq_false ?_).symm, fun hl => ?_⟩
 · rintro rfl; exact hl rfl
 ·
  refine Ok.bind.2 (Ro (fun x => 0 ≤ x ∧ x ≤ a.length ∧ ∀ i, i < x.toNat → a.getD i false = b.getD i false) (fun x => (a.length - x).toNat) ⟨by omega, by omega, fun i hi => by omega⟩ (by unfold Ys; omega) ?_)
  rintro x ⟨h0, h1, h2⟩
  unfold Z0m
  refine Ok.ite.2 ⟨fun hx => ?_, fun hx => ?_⟩
  ·
   refine Ok.gd.2 ⟨(by omega), Ok.gd.2 ⟨(by omega), Ok.ite.2 ⟨fun hne => ?_, fun hne => ?_⟩⟩⟩
   ·
    refine Ok.some.2 (Ok.some.2 (decide_eq_false ?_).symm)
    rintro rfl; simp at hne
   ·
    refine Ok.gd.2 ⟨(by omega), Ok.some.2 ⟨⟨by omega, by omega, fun i hi => ?_⟩, by omega⟩⟩
    rcases Nat.lt_or_ge i x.toNat with h3 | h3
    · exact h2 i h3
    · rw [show i = x.toNat by omega]; simpa using hne
  ·
   refine Ok.some.2 (Ok.some.2 (decide_eq_true ?_).symm)
   exact Z7o false (by omega) (fun i hi => h2 i (by omega))
end Go.Acq
namespace Go.Acq
open Go
theorem Z8n (x : Nat) : Ng x = decide (x < 48 ∨ 57 < x) := by
 unfold Ng Rg
 by_cases h1 : x < 48
 · rw [if_pos (by omega), decide_eq_true (by omega : x < 48 ∨ 57 < x)]; rfl
 ·
  rw [if_neg (by omega)]
  by_cases h2 : 57 < x
  · rw [decide_eq_true (by omega : (57 : Int) < x), decide_eq_true (by omega : x < 48 ∨ 57 < x)]; rfl
  · rw [decide_eq_false (by omega : ¬ (57 : Int) < x), decide_eq_false (by omega : ¬(x < 48 ∨ 57 < x))]; rfl
theorem any_dig (l : Str) : l.any (fun b => Ng b.toNat) = !(l.all Ju) := by
 induction l with
 | nil => rfl
 | cons b l ih =>
  rw [List.any_cons, List.all_cons, ih, Z8n, Bool.not_and]
  congr 1
  unfold Ju
  by_cases h : 48 ≤ b.toNat ∧ b.toNat ≤ 57
  · rw [decide_eq_true h, decide_eq_false (by omega : ¬(b.toNat < 48 ∨ 57 < b.toNat))]; rfl
  · rw [decide_eq_false h, decide_eq_true (by omega : b.toNat < 48 ∨ 57 < b.toNat)]; rfl
theorem s_Number (s : Str) : Z17 s = some (Wy s) := by
 unfold Z17
 by_cases h1 : 19 < s.length
 ·
  rw [if_pos (by omega)]
  unfold Re Wy
  rw [if_pos rfl, if_neg (by omega)]
 ·
  rw [if_neg (by omega)]
  unfold Z2v Re
  rw [anyT_any (fun r h => by rw [Z8n]; exact decide_eq_true (by omega)), any_dig, Option.bind_some]
  by_cases h2 : s.all Ju = true
  ·
   rw [h2, if_neg (by simp)]
   unfold Z2f
   rw [Xi ⟨by omega, rfl, rfl⟩, Option.bind_some]
   by_cases h3 : s = []
   · subst h3; rfl
   ·
    rw [Zab h2 h3 (by omega)]
    unfold Wy
    by_cases h4 : Vq 0 s < 9223372036854775808
    · rw [if_pos h4, if_pos ⟨h2, h3, by omega, h4⟩]; rfl
    · rw [if_neg h4, if_neg (fun h => h4 h.2.2.2)]; rfl
  ·
   rw [Bool.eq_false_iff.2 h2, if_pos (by simp)]
   unfold Wy
   rw [if_neg (fun h => h2 h.1)]
def Kw (s : Str) (lo hi : Int) : Bool := (Wy s).2 && decide (lo ≤ (Wy s).1 ∧ (Wy s).1 ≤ hi)
theorem Z3j (s : Str) (lo hi : Int) : Gi s lo hi = some ((Wy s).1, Kw s lo hi) := by
 unfold Gi Kw
 rw [s_Number, Option.bind_some]
 cases h : (Wy s).2 with
 | false => simp only; rw [if_neg (by rw [h]; decide)]; rfl
 | true =>
  simp only
  rw [if_pos h]
  by_cases h1 : lo ≤ (Wy s).1
  · rw [if_pos h1, Bool.true_and]; congr 2; exact decide_eq_decide.2 ⟨fun h => ⟨h1, h⟩, fun h => h.2⟩
  · rw [if_neg h1, Bool.true_and, decide_eq_false (fun h => h1 h.1)]
theorem numB_iff {s : Str} {lo hi : Int} : Kw s lo hi = true ↔ (Wy s).2 = true ∧ lo ≤ (Wy s).1 ∧ (Wy s).1 ≤ hi := by
 unfold Kw; rw [Bool.and_eq_true, decide_eq_true_eq]
theorem Z1x {n lo hi : Int} (h0 : 0 ≤ n) (h1 : n ≤ 9223372036854775807) (h2 : lo ≤ n) (h3 : n ≤ hi) : Kw (Yj n) lo hi = true := by
 rw [numB_iff, Z5f h0 h1]; exact ⟨rfl, h2, h3⟩
def Jm (a : Arc) (w : List Str) : Bool := decide (w.length = 4 ∧ w.getD 0 [] = [102]) && (Kw (w.getD 3 []) 0 a.cap && (Kw (w.getD 1 []) (a.fr + 1) (a.fr + 1) && Kw (w.getD 2 []) (a.to + 1) (a.to + 1)))
def flowV (w : List Str) : Int := (Wy (w.getD 3 [])).1
theorem s_flowed {a : Arc} (w : List Str) (hf : 0 ≤ a.fr ∧ a.fr ≤ 1000000) (ht : 0 ≤ a.to ∧ a.to ≤ 1000000) (hw : w.length ≤ 9223372036854775807) : Ok (Z1p a w) (fun r => r.2 = Jm a w ∧ (r.2 = true → r.1 = flowV w)) := by
 unfold Z1p
 have t1 : Lt a w true = some (0, false) := rfl
 refine Ok.ite.2 ⟨fun h => ?_, fun h => ?_⟩
 ·
  rw [t1]
  refine Ok.some.2 ⟨?_, fun h => (by cases h)⟩
  unfold Jm
  rw [decide_eq_false (by omega)]; rfl
 ·
  refine Ok.gd.2 ⟨(by (first | omega | (constructor <;> omega) | (simp only [List.length_set, List.length_replicate]; omega) | (simp only [List.length_set, List.length_replicate]; constructor <;> omega))), ?_⟩
  rw [Int.toNat_zero]
  by_cases h0 : w.getD 0 [] = [102]
  ·
   rw [decide_eq_false (by simpa using h0)]
   unfold Lt Jm
   rw [if_neg (by simp), decide_eq_true (by exact ⟨by omega, h0⟩)]
   refine Ok.gd.2 ⟨(by (first | omega | (constructor <;> omega) | (simp only [List.length_set, List.length_replicate]; omega) | (simp only [List.length_set, List.length_replicate]; constructor <;> omega))), Ok.gd.2 ⟨(by (first | omega | (constructor <;> omega) | (simp only [List.length_set, List.length_replicate]; omega) | (simp only [List.length_set, List.length_replicate]; constructor <;> omega))), Ok.gd.2 ⟨(by (first | omega | (constructor <;> omega) | (simp only [List.length_set, List.length_replicate]; omega) | (simp only [List.length_set, List.length_replicate]; constructor <;> omega))), Ok.bind.2 (Vf (Z3j ..) (Ok.gd.2 ⟨(by (first | omega | (constructor <;> omega) | (simp only [List.length_set, List.length_replicate]; omega) | (simp only [List.length_set, List.length_replicate]; constructor <;> omega))), Ok.gd.2 ⟨(by (first | omega | (constructor <;> omega) | (simp only [List.length_set, List.length_replicate]; omega) | (simp only [List.length_set, List.length_replicate]; constructor <;> omega))), Ok.gd.2 ⟨(by (first | omega | (constructor <;> omega) | (simp only [List.length_set, List.length_replicate]; omega) | (simp only [List.length_set, List.length_replicate]; constructor <;> omega))), Ok.bind.2 (Vf (Z3j ..) (Ok.gd.2 ⟨(by (first | omega | (constructor <;> omega) | (simp only [List.length_set, List.length_replicate]; omega) | (simp only [List.length_set, List.length_replicate]; constructor <;> omega))), Ok.bind.2 (Vf (Z3j ..) ?_)⟩))⟩⟩⟩))⟩⟩⟩
   simp only
   have e1 : (1 : Int).toNat = 1 := rfl
   have e2 : (2 : Int).toNat = 2 := rfl
   have e3 : (3 : Int).toNat = 3 := rfl
   rw [e1, e2, e3, Bool.true_and]
   refine Ok.ite.2 ⟨fun h1 => Ok.ite.2 ⟨fun h2 => Ok.some.2 ?_, fun h2 => Ok.some.2 ?_⟩, fun h1 => Ok.some.2 ?_⟩
   · rw [h1, h2]; exact ⟨rfl, fun _ => rfl⟩
   · rw [h1, Bool.eq_false_iff.2 h2]; exact ⟨rfl, fun h => (by cases h)⟩
   · rw [Bool.eq_false_iff.2 h1]; exact ⟨rfl, fun h => (by cases h)⟩
  ·
   rw [decide_eq_true (by simpa using h0), t1]
   refine Ok.some.2 ⟨?_, fun h => (by cases h)⟩
   unfold Jm
   rw [decide_eq_false (fun h => h0 h.2)]; rfl
def Vp : List Arc → List (List Str) → Option (List Int)
  | [], [] => some []
  | a :: al, w :: ws => if Jm a w = true then (Vp al ws).map (flowV w :: ·) else none
  | [], _ :: _ => none
  | _ :: _, [] => none
theorem Z7v : ∀ (al : List Arc) (ws : List (List Str)) (f : List Int), Vp al ws = some f → f.length = al.length ∧ ws.length = al.length ∧ ∀ i, i < al.length → 0 ≤ f.getD i 0 ∧ f.getD i 0 ≤ (al.getD i default).cap
 | [], [], f, h => by injection h with h; subst h; exact ⟨rfl, rfl, fun i hi => by simp at hi⟩
 | a :: al, w :: ws, f, h => by
  rw [Vp] at h
  split at h
  ·
   rename_i hb
   obtain ⟨g, hg, rfl⟩ := Option.map_eq_some_iff.1 h
   obtain ⟨h1, h2, h3⟩ := Z7v al ws g hg
   refine ⟨by simp [h1], by simp [h2], fun i hi => ?_⟩
   cases i with
   | zero =>
    unfold Jm at hb
    rw [Bool.and_eq_true, Bool.and_eq_true, numB_iff] at hb
    exact hb.2.1.2
   | succ i => exact h3 i (by simpa using hi)
  · cases h
 | [], _ :: _, _, h => by cases h
 | _ :: _, [], _, h => by cases h
theorem s_readN {n : Net} (hk : Ub n.N n.S n.T n.Arcs = 0) : ∀ (ws : List (List Str)) (first : Str) (f : List Int), (∀ w ∈ ws, w.length ≤ 9223372036854775807) → first ≠ [] → f.length ≤ n.Arcs.length →
    Ok (Kf (fun (s : Str × List Int) v => Gn n s.1 s.2 v) (first, f) ws) (fun t => match t with
      | .inl s => s.1 = first ∧ s.2.length ≤ n.Arcs.length ∧ (s.2.length = n.Arcs.length → ∃ g, s.2 = f ++ g ∧ Vp (n.Arcs.drop f.length) ws = some g) ∧ (s.2.length < n.Arcs.length → Vp (n.Arcs.drop f.length) ws = none)
      | .inr _ => Vp (n.Arcs.drop f.length) ws = none) := by
  have hz := Kx hk
  obtain ⟨m, hm⟩ : ∃ m : Nat, n.N = m := ⟨n.N.toNat, by omega⟩
  have he : Jf m n.Arcs := Z51 (by rw [← hm]; exact hz.2.2.2.1)
  intro ws
  induction ws with
  | nil =>
    intro first f _ hf hl
    refine Ok.some.2 ⟨rfl, hl, fun h => ⟨[], by simp, ?_⟩, fun h => ?_⟩
    · simp only at h
      rw [List.drop_eq_nil_of_le (by omega)]; rfl
    · rw [List.drop_eq_getElem_cons h]; rfl
  | cons w ws ih =>
    intro first f hw hf hl
    refine Ok.bind.2 ?_
    simp only
    unfold Gn
    rw [if_neg hf]
    refine Ok.ite.2 ⟨fun h => Ok.some.2 (Ok.some.2 ?_), fun h => ?_⟩
    · simp only
      rw [List.drop_eq_nil_of_le (by omega)]; rfl
    · have hlt : f.length < n.Arcs.length := by omega
      have h2 : 0 ≤ (n.Arcs.getD f.length default).fr ∧ (n.Arcs.getD f.length default).fr < m := by first | exact he f.length hlt true | exact he f.length hlt false
      have h3 : 0 ≤ (n.Arcs.getD f.length default).to ∧ (n.Arcs.getD f.length default).to < m := by first | exact he f.length hlt false | exact he f.length hlt true
      have hd : n.Arcs.drop f.length = n.Arcs.getD f.length default :: n.Arcs.drop (f.length + 1) := by
        rw [List.drop_eq_getElem_cons hlt, List.getD_eq_getElem?_getD, List.getElem?_eq_getElem hlt]; rfl
      refine Ok.gd.2 ⟨(by (first | omega | (constructor <;> omega) | (simp only [List.length_set, List.length_replicate]; omega) | (simp only [List.length_set, List.length_replicate]; constructor <;> omega))), Ok.bind.2 (Ok.mono (s_flowed w (by rw [Int.toNat_natCast]; omega) (by rw [Int.toNat_natCast]; omega) (hw _ (.head _))) ?_)⟩
      rw [Int.toNat_natCast]
      rintro ⟨x, b⟩ ⟨hb, hx⟩
      simp only at hb hx ⊢
      subst hb
      rw [hd]
      refine Ok.ite.2 ⟨fun h => Ok.some.2 (Ok.some.2 ?_), fun h => Ok.gd.2 ⟨?_, Ok.some.2 ?_⟩⟩
      · simp only
        rw [Vp, if_neg (by simpa using h)]
      · rw [List.length_append, List.length_singleton]; constructor <;> omega
      · have hb : Jm (n.Arcs.getD f.length default) w = true := by simpa using h
        simp only
        refine Ok.mono (ih first (f ++ [x]) (fun w' h => hw w' (.tail _ h)) hf (by rw [List.length_append, List.length_singleton]; omega)) fun t ht => ?_
        rw [List.length_append, List.length_singleton] at ht
        cases t with
        | inl s =>
          obtain ⟨g1, g2, g3, g4⟩ := ht
          refine ⟨g1, g2, fun h => ?_, fun h => ?_⟩
          · obtain ⟨g, h5, h6⟩ := g3 h
            refine ⟨x :: g, by rw [h5, List.append_assoc]; rfl, ?_⟩
            rw [Vp, if_pos hb, h6, hx hb]; rfl
          · rw [Vp, if_pos hb, g4 h]; rfl
        | inr s =>
          simp only at ht ⊢
          rw [Vp, if_pos hb, ht]; rfl
theorem s_read {n : Net} {t : Str} (hk : Ub n.N n.S n.T n.Arcs = 0) (hl : t.length ≤ 4294967296) (hw : ∀ w ∈ Ww t, w.length ≤ 9223372036854775807) :
    Ok (Z1i n (ub t)) (fun r => (r.2.2 = true ∧ ∃ ws, Ww t = [[115], r.1] :: ws ∧ Vp n.Arcs ws = some r.2.1) ∨ (r.2.2 = false ∧ ¬∃ first f ws, Ww t = [[115], first] :: ws ∧ Vp n.Arcs ws = some f)) := by
  unfold Z1i Rd
  rw [Option.bind_some, Z6s _ t _ hl]
  cases hs : Ww t with
  | nil => exact Ok.some.2 (.inr ⟨rfl, fun ⟨_, _, _, h, _⟩ => by cases h⟩)
  | cons w0 ws =>
    rw [hs] at hw
    have h1 := hw w0 (.head _)
    have hne := saidT_ne (t := t) (w := w0) (by rw [hs]; exact .head _)
    refine Ok.bind.2 (Ok.bind.2 ?_)
    simp only
    unfold Gn
    rw [if_pos rfl]
    have bad : ¬(w0.length = 2 ∧ w0.getD 0 [] = [115]) → ¬∃ (first : Str) (f : List Int) (ws' : List (List Str)), w0 :: ws = [[115], first] :: ws' ∧ Vp n.Arcs ws' = some f := by
      rintro h ⟨first, f, ws', e, -⟩
      injection e with e _
      exact h (by rw [e]; exact ⟨rfl, rfl⟩)
    have t2 : Lh [] [] w0 true = some (.inr ([], [])) := rfl
    refine Ok.ite.2 ⟨fun h => ?_, fun h => ?_⟩
    · rw [t2]
      exact Ok.some.2 (Ok.some.2 (Ok.some.2 (.inr ⟨rfl, bad (fun h2 => by omega)⟩)))
    · refine Ok.gd.2 ⟨(by (first | omega | (constructor <;> omega) | (simp only [List.length_set, List.length_replicate]; omega) | (simp only [List.length_set, List.length_replicate]; constructor <;> omega))), ?_⟩
      rw [Int.toNat_zero]
      by_cases h0 : w0.getD 0 [] = [115]
      · rw [decide_eq_false (by simpa using h0)]
        unfold Lh
        rw [if_neg (by simp)]
        obtain ⟨u, v, rfl⟩ : ∃ u v, w0 = [u, v] := by
          match w0, h with
          | [u, v], _ => exact ⟨u, v, rfl⟩
          | [], h => simp at h
          | [_], h => simp at h
          | _ :: _ :: _ :: _, h => simp at h; omega
        simp only [List.getD_cons_zero] at h0
        subst h0
        have hv : v ≠ [] := hne.2 v (by simp)
        refine Ok.gd.2 ⟨by constructor <;> simp, Ok.some.2 ?_⟩
        have e1 : List.getD [[115], v] (1 : Int).toNat ([] : Str) = v := rfl
        rw [e1]
        simp only
        refine Ok.mono (s_readN hk ws v [] (fun w h => hw w (.tail _ h)) hv (Nat.zero_le _)) fun t ht => ?_
        rw [List.length_nil, List.drop_zero] at ht
        cases t with
        | inl s =>
          obtain ⟨first, f⟩ := s
          obtain ⟨g1, g2, g3, g4⟩ := ht
          simp only at g1 g2 g3 g4 ⊢
          subst g1
          rw [if_pos hv]
          refine Ok.some.2 ?_
          by_cases h5 : f.length = n.Arcs.length
          · obtain ⟨g, h6, h7⟩ := g3 h5
            rw [List.nil_append] at h6
            exact .inl ⟨decide_eq_true (by omega), ws, rfl, by rw [h7, h6]⟩
          · refine .inr ⟨decide_eq_false (by omega), ?_⟩
            rintro ⟨_, f', ws', e, h7⟩
            injection e with _ e
            subst e
            rw [g4 (by omega)] at h7; cases h7
        | inr s =>
          refine Ok.some.2 (.inr ⟨rfl, ?_⟩)
          rintro ⟨_, f', ws', e, h7⟩
          injection e with _ e
          subst e
          simp only at ht
          rw [ht] at h7; cases h7
      · rw [decide_eq_true (by simpa using h0), t2]
        exact Ok.some.2 (Ok.some.2 (Ok.some.2 (.inr ⟨rfl, bad (fun h2 => h0 h2.2)⟩)))
theorem Zd6 (l : Str) : (Xd l).length ≤ l.length + 1 := by
 have key : ∀ (l cur : Str), (Yw Wb l cur).length ≤ l.length + 1 := by
  intro l
  induction l with
  | nil => intro cur; rw [Yw]; split <;> simp
  | cons b l ih =>
   intro cur
   rw [Yw]
   split
   ·
    split
    · have := ih []; rw [List.length_cons]; omega
    · have := ih []; rw [List.length_cons, List.length_cons]; omega
   · have := ih (cur ++ [b]); rw [List.length_cons]; omega
 exact key l []
theorem Z7e {t : Str} (hl : t.length ≤ 4294967296) : ∀ w ∈ Ww t, w.length ≤ 9223372036854775807 := by
 intro w h
 obtain ⟨l, hm, hl'⟩ := List.mem_filterMap.1 h
 have h1 := Z3r t [] l hm
 have h2 := Zd6 l
 rw [List.length_nil] at h1
 unfold Ua at hl'
 split at hl'
 · cases hl'
 ·
  split at hl'
  · cases hl'
  ·
   injection hl' with hl'
   rw [← hl']; omega
def Uf (n : Net) (f : List Int) : Int := ex n.Arcs f n.T n.Arcs.length
theorem Z5p {n : Net} {f : List Int} (hw : FwithinP n f) : -4611686018427387904 ≤ Uf n f ∧ Uf n f ≤ 4611686018427387904 := by
 have h1 := hw.tot n.Arcs.length (Nat.le_refl _)
 have h2 := ex_le (al := n.Arcs) (f := f) n.T (fun i hi => (hw.2.2 i hi).1) n.Arcs.length (Nat.le_refl _)
 unfold Uf
 omega
theorem Z7u {n : Net} {f : List Int} (hl : lenok n.Arcs.length) : Ok (Lq n f) (fun r => (FwithinP n f ∧ r = (Yj (Uf n f), 0)) ∨ (¬FwithinP n f ∧ r = ([], 20))) := by
 unfold Lq
 refine Ok.bind.2 (Ok.mono (s_Excess hl) ?_)
 rintro ⟨xs, e⟩ (⟨hw, h0, hxl, hx⟩ | ⟨h, h0⟩)
 ·
  simp only at h0 hxl hx ⊢
  subst h0
  rw [if_neg (by simp)]
  have hz := Kx hw.1
  simp only [Vs, decide_eq_true_eq] at hz
  have h5 := hx n.T.toNat (by omega)
  rw [Int.toNat_of_nonneg (by omega)] at h5
  have h6 := Z5p hw
  unfold Uf at h6
  refine Ok.gd.2 ⟨(by (first | omega | (constructor <;> omega) | (simp only [List.length_set, List.length_replicate]; omega) | (simp only [List.length_set, List.length_replicate]; constructor <;> omega))), ?_⟩
  unfold Ns Z07
  rw [h5]
  refine Ok.bind.2 (Ok.bind.2 (Ok.gd.2 ⟨⟨(by (first | omega | (constructor <;> omega) | (simp only [List.length_set, List.length_replicate]; omega) | (simp only [List.length_set, List.length_replicate]; constructor <;> omega))), rfl⟩, Ok.some.2 (Ok.some.2 (Ok.some.2 (.inl ⟨hw, rfl⟩)))⟩))
 ·
  injection h0 with h0 h1
  subst h0 h1
  simp only
  rw [if_pos (by simp)]
  exact Ok.some.2 (.inr ⟨h, rfl⟩)
theorem Zdy {n : Net} {t : Str} (hk : Ub n.N n.S n.T n.Arcs = 0) (hl : t.length ≤ 4294967296) :
    Ok (Nd n (ub t)) (fun r => (r.2 = 0 ∧ FwithinP n r.1 ∧ ∃ ws, Ww t = [[115], Yj (Uf n r.1)] :: ws ∧ Vp n.Arcs ws = some r.1) ∨ (r = ([], 70) ∧ ¬∃ f ws, Ww t = [[115], Yj (Uf n f)] :: ws ∧ Vp n.Arcs ws = some f)) := by
  have hz := Kx hk
  have hll : lenok n.Arcs.length := by omega
  unfold Nd
  refine Ok.bind.2 (Vf (Z0y n hll) ?_)
  rw [if_neg (by rw [hk]; simp)]
  refine Ok.bind.2 (Ok.mono (s_read hk hl (Z7e hl)) ?_)
  rintro ⟨first, f, b⟩ (⟨h1, ws, h2, h3⟩ | ⟨h1, h2⟩)
  · simp only at h1 h2 h3 ⊢
    subst h1
    rw [if_neg (by simp)]
    obtain ⟨g1, g2, g3⟩ := Z7v _ _ _ h3
    have hw : FwithinP n f := ⟨hk, g1, g3⟩
    refine Ok.bind.2 (Ok.mono (Z7u hll) ?_)
    rintro ⟨w, e⟩ (⟨-, h5⟩ | ⟨h5, -⟩)
    · injection h5 with h5 h6
      subst h5 h6
      simp only
      rw [if_neg (by simp)]
      by_cases h7 : Yj (Uf n f) = first
      · rw [decide_eq_false (by simpa using h7)]
        exact Ok.some.2 (.inl ⟨rfl, hw, ws, by rw [h2, h7], h3⟩)
      · rw [decide_eq_true (by simpa using h7)]
        refine Ok.some.2 (.inr ⟨rfl, ?_⟩)
        rintro ⟨f', ws', e1, e2⟩
        rw [h2] at e1
        injection e1 with e1 e3
        subst e3
        rw [h3] at e2
        injection e2 with e2
        subst e2
        injection e1 with _ e1
        injection e1 with e1 _
        exact h7 e1.symm
    · exact absurd hw h5
  · simp only at h1 h2 ⊢
    subst h1
    rw [if_pos (by simp)]
    exact Ok.some.2 (.inr ⟨rfl, fun ⟨f', ws', e1, e2⟩ => h2 ⟨_, f', ws', e1, e2⟩⟩)
end Go.Acq
namespace Go.Acq
open Go
def cleanT (w : Str) : Prop := w ≠ [] ∧ ∀ b ∈ w, 45 ≤ b.toNat ∧ b.toNat ≤ 57
theorem Ug {n : Int} (h : i64ok n) : cleanT (Yj n) ∧ (Yj n).length ≤ 21 := by
 have e20 : (10 : Nat) ^ 20 = 100000000000000000000 := by decide
 have key : ∀ u : Nat, u ≤ 9223372036854775808 → cleanT (Wg 20 u) ∧ (Wg 20 u).length ≤ 20 := fun u hu => by
  have h1 := Z57 20 u (by rw [e20]; omega) (by omega)
  refine ⟨⟨fun e => by rw [e] at h1; simp at h1, fun b hb => ?_⟩, h1.2⟩
  have := List.all_eq_true.1 (Z48 20 u) b hb
  have := of_decide_eq_true this
  omega
 unfold Yj
 split
 ·
  obtain ⟨⟨h1, h2⟩, h3⟩ := key n.natAbs (by omega)
  refine ⟨⟨by simp, fun b hb => ?_⟩, by rw [List.length_cons]; omega⟩
  rcases List.mem_cons.1 hb with rfl | hb
  · decide
  · exact h2 b hb
 ·
  obtain ⟨h1, h3⟩ := key n.toNat (by omega)
  exact ⟨h1, by omega⟩
theorem cleanT.ok {w : Str} (h : cleanT w) : okW w := ⟨h.1, fun b hb => by rw [Rk]; have := h.2 b hb; exact decide_eq_false (by omega)⟩
theorem cleanT.ten {w : Str} (h : cleanT w) : ∀ b ∈ w, b ≠ 10 := fun b hb e => by
 have := h.2 b hb
 subst e
 have : (10 : UInt8).toNat = 10 := rfl
 omega
theorem Ld : Wb (32 : UInt8).toNat = true := by rw [Rk]; rfl
theorem Z7n {b : UInt8} (h : Wb b.toNat = false) : okW [b] := ⟨by simp, fun x hx => by rw [List.mem_singleton.1 hx]; exact h⟩
theorem words2 {b : UInt8} {w : Str} (h : Wb b.toNat = false) (hw : okW w) : Xd ([b, 32] ++ w) = [[b], w] := by
 unfold Xd
 rw [show [b, 32] ++ w = [b] ++ 32 :: w from rfl, Z2a (Z7n h) Ld, Z6v hw]
theorem words4 {b : UInt8} {u v w : Str} (h : Wb b.toNat = false) (hu : okW u) (hv : okW v) (hw : okW w) : Xd ((((([b, 32] ++ u) ++ [32]) ++ v) ++ [32]) ++ w) = [[b], u, v, w] := by
 unfold Xd
 rw [show (((([b, 32] ++ u) ++ [32]) ++ v) ++ [32]) ++ w = [b] ++ 32 :: (u ++ 32 :: (v ++ 32 :: w)) by simp only [List.append_assoc, List.cons_append, List.nil_append], Z2a (Z7n h) Ld, Z2a hu Ld, Z2a hv Ld, Z6v hw]
theorem Z5t {l : Str} {w : List Str} (h : Xd l = w) (h0 : w ≠ []) (h1 : (w.getD 0 []).getD 0 0 ≠ 99) : Ua l = some w := by
 unfold Ua
 rw [h, if_neg h0, if_neg h1]
def Jz (a : Arc) : Str := ((([102, 32] ++ Yj (a.fr + 1)) ++ [32]) ++ Yj (a.to + 1)) ++ [32]
def Uu : List Arc → List Int → Str
  | a :: al, x :: xs => (Jz a ++ Yj x ++ [10]) ++ Uu al xs
  | _, _ => []
def La (n : Net) (f : List Int) : Str := ([115, 32] ++ Yj (Uf n f) ++ [10]) ++ Uu n.Arcs f
def Lb : List Arc → List Int → List (List Str)
  | a :: al, x :: xs => [[102], Yj (a.fr + 1), Yj (a.to + 1), Yj x] :: Lb al xs
  | _, _ => []
def Z33 (al : List Arc) : Prop := ∀ a ∈ al, (0 ≤ a.fr ∧ a.fr ≤ 1000000) ∧ (0 ≤ a.to ∧ a.to ≤ 1000000) ∧ a.cap ≤ 9223372036854775807
theorem Z4j {a : Arc} (h : i64ok (a.fr + 1)) (g : i64ok (a.to + 1)) : (Jz a).length ≤ 46 := by
 have h1 := (Ug h).2
 have h2 := (Ug g).2
 unfold Jz
 simp only [List.length_append, List.length_cons, List.length_nil]
 omega
theorem s_arc {a : Arc} (h : i64ok (a.fr + 1)) (g : i64ok (a.to + 1)) : Z13 a = some (Jz a) := by
 have h1 := (Ug h).2
 have h2 := (Ug g).2
 unfold Z13 Nl
 rw [Xi h, Xi h, Option.bind_some]
 rw [Xi (by simp only [slok, List.length_append, List.length_cons, List.length_nil]; omega), Xi (by simp only [slok, List.length_append, List.length_cons, List.length_nil]; omega), Xi g, Xi g, Option.bind_some]
 rw [Xi (by simp only [slok, List.length_append, List.length_cons, List.length_nil]; omega), Xi (by simp only [slok, List.length_append, List.length_cons, List.length_nil]; omega)]
 rfl
theorem s_digits {n : Int} (h : i64ok n) : Ns n = some (Yj n) := by
 unfold Ns Z07
 rw [Xi ⟨h, rfl⟩]; rfl
theorem Z8x : ∀ (al : List Arc) (f : List Int), Z33 al → (∀ x ∈ f, i64ok x) → (Uu al f).length ≤ 70 * al.length
 | [], _, _, _ => by simp [Uu]
 | _ :: _, [], _, _ => by simp [Uu]
 | a :: al, x :: xs, h, hx => by
  obtain ⟨h1, h2, -⟩ := h a (.head _)
  have h3 := Z4j (a := a) (by omega) (by omega)
  have h4 := (Ug (hx x (.head _))).2
  have h5 := Z8x al xs (fun b hb => h b (.tail _ hb)) (fun y hy => hx y (.tail _ hy))
  rw [Uu]
  simp only [List.length_append, List.length_cons, List.length_nil]
  omega
theorem Zbj {al : List Arc} {f : List Int} {k : Nat} (h : k < al.length) (g : f.length = al.length) : Uu (al.drop k) (f.drop k) = (Jz (al.getD k default) ++ Yj (f.getD k 0) ++ [10]) ++ Uu (al.drop (k + 1)) (f.drop (k + 1)) := by
 have e1 : al.drop k = al.getD k default :: al.drop (k + 1) := by rw [List.drop_eq_getElem_cons h, List.getD_eq_getElem?_getD, List.getElem?_eq_getElem h]; rfl
 have e2 : f.drop k = f.getD k 0 :: f.drop (k + 1) := by rw [List.drop_eq_getElem_cons (by omega), List.getD_eq_getElem?_getD, List.getElem?_eq_getElem (by omega)]; rfl
 rw [e1, e2, Uu]
theorem FwithinP.arcs {n : Net} (hk : Ub n.N n.S n.T n.Arcs = 0) (hc : ∀ a ∈ n.Arcs, a.cap ≤ 9223372036854775807) : Z33 n.Arcs := by
 have hz := Kx hk
 obtain ⟨m, hm⟩ : ∃ m : Nat, n.N = m := ⟨n.N.toNat, by omega⟩
 have he : Jf m n.Arcs := Z51 (by rw [← hm]; exact hz.2.2.2.1)
 intro a ha
 obtain ⟨i, hi, rfl⟩ := List.mem_iff_getElem.1 ha
 have e : n.Arcs.getD i default = n.Arcs[i] := by rw [List.getD_eq_getElem?_getD, List.getElem?_eq_getElem hi]; rfl
 have h2 : 0 ≤ (n.Arcs.getD i default).fr ∧ (n.Arcs.getD i default).fr < m := by first | exact he i hi true | exact he i hi false
 have h3 : 0 ≤ (n.Arcs.getD i default).to ∧ (n.Arcs.getD i default).to < m := by first | exact he i hi false | exact he i hi true
 rw [e] at h2 h3
 exact ⟨by omega, by omega, hc _ ha⟩
theorem FwithinP.i64 {n : Net} {f : List Int} (h : FwithinP n f) (hc : ∀ a ∈ n.Arcs, a.cap ≤ 9223372036854775807) : ∀ x ∈ f, i64ok x := by
 intro x hx
 obtain ⟨i, hi, rfl⟩ := List.mem_iff_getElem.1 hx
 have h1 := h.2.1
 have h2 := h.2.2 i (by omega)
 have h3 := hc (n.Arcs.getD i default) (Uv (by omega) default)
 rw [List.getD_eq_getElem?_getD, List.getElem?_eq_getElem hi] at h2
 simp only [Option.getD_some] at h2
 constructor <;> omega
theorem Zcg {n : Net} {f : List Int} (hk : Ub n.N n.S n.T n.Arcs = 0) (hc : ∀ a ∈ n.Arcs, a.cap ≤ 9223372036854775807) : Ok (Nb n f) (fun r => (FwithinP n f ∧ r = (ub (La n f), 0)) ∨ (¬FwithinP n f ∧ r = ([], 20))) := by
 have hz := Kx hk
 have hll : lenok n.Arcs.length := by omega
 unfold Nb
 refine Ok.bind.2 (Vf (Z0y n hll) ?_)
 rw [if_neg (by rw [hk]; simp)]
 refine Ok.bind.2 (Ok.mono (Z7u hll) ?_)
 rintro ⟨w, e⟩ (⟨hw, h5⟩ | ⟨h5, h6⟩)
 ·
  injection h5 with h5 h6
  subst h5 h6
  simp only
  have ha := FwithinP.arcs hk hc
  have hx := hw.i64 hc
  have he := Z5p hw
  have hel := (Ug (n := Uf n f) (by omega)).2
  have hsl := Z8x n.Arcs f ha hx
  rw [if_neg (by simp), Xi (by simp only [slok, List.length_append, List.length_cons, List.length_nil]; omega), Xi (by simp only [slok, List.length_append, List.length_cons, List.length_nil]; omega), Xi (by rw [List.nil_append, Jd]; simp only [List.length_append, List.length_cons, List.length_nil]; omega)]
  refine Ok.bind.2 (Gh (fun s => ∃ k : Nat, s.2 = k ∧ k ≤ n.Arcs.length ∧ s.1 ++ ub (Uu (n.Arcs.drop k) (f.drop k)) = ub (La n f)) (fun s => (n.Arcs.length - s.2).toNat) ⟨0, rfl, Nat.zero_le _, ?_⟩ (by unfold Ys; simp only; omega) ?_)
  ·
   simp only [List.drop_zero, List.nil_append]
   rw [← Z4g]; rfl
  ·
   rintro ⟨buf, x⟩ ⟨k, h1, h2, h3⟩ P next exit
   simp only at h1 h3 next ⊢
   subst h1
   unfold Rz
   have hfl := hw.2.1
   have hlen := congrArg List.length h3
   rw [List.length_append, Jd, Jd] at hlen
   have hst : (La n f).length ≤ 100 + 70 * n.Arcs.length := by
    unfold La
    simp only [List.length_append, List.length_cons, List.length_nil]; omega
   refine Ok.ite.2 ⟨fun h => ?_, fun h => ?_⟩
   ·
    have hk2 : k < n.Arcs.length := by omega
    obtain ⟨g1, g2, -⟩ := ha _ (Uv hk2 default)
    have g3 := hx _ (Uv (xs := f) (k := k) (by omega) 0)
    have g4 := (Ug g3).2
    have g5 := Z4j (a := n.Arcs.getD k default) (by omega) (by omega)
    rw [Int.toNat_natCast]
    refine Ok.gd.2 ⟨(by (first | omega | (constructor <;> omega) | (simp only [List.length_set, List.length_replicate]; omega) | (simp only [List.length_set, List.length_replicate]; constructor <;> omega))), Ok.bind.2 (Vf (s_arc (by omega) (by omega)) (Ok.gd.2 ⟨(by (first | omega | (constructor <;> omega) | (simp only [List.length_set, List.length_replicate]; omega) | (simp only [List.length_set, List.length_replicate]; constructor <;> omega))), Ok.bind.2 (Vf (s_digits g3) ?_)⟩))⟩
    rw [Xi (by simp only [slok, List.length_append, List.length_cons, List.length_nil]; omega), Xi (by simp only [slok, List.length_append, List.length_cons, List.length_nil]; omega), Xi (by rw [List.length_append, Jd]; simp only [List.length_append, List.length_cons, List.length_nil]; omega), Xi (by constructor <;> omega)]
    refine Ok.some.2 (next _ ⟨k + 1, rfl, by omega, ?_⟩ (by simp only; omega))
    simp only
    rw [← h3, Zbj hk2 hfl, Z4g (Jz _ ++ _ ++ _), List.append_assoc]
   ·
    refine Ok.some.2 (exit _ ?_)
    unfold Z37
    refine Ok.some.2 (.inl ⟨hw, ?_⟩)
    obtain rfl : k = n.Arcs.length := by omega
    rw [List.drop_eq_nil_of_le (Nat.le_refl _)] at h3
    have e : Uu [] (f.drop n.Arcs.length) = [] := by cases f.drop n.Arcs.length <;> rfl
    rw [e] at h3
    rw [← h3]; simp [ub]
 ·
  injection h6 with h6 h7
  subst h6 h7
  simp only
  rw [if_pos (by simp)]
  exact Ok.some.2 (.inr ⟨h5, rfl⟩)
theorem Z6z : ∀ (al : List Arc) (f : List Int), Z33 al → f.length = al.length → (∀ i, i < al.length → 0 ≤ f.getD i 0 ∧ f.getD i 0 ≤ (al.getD i default).cap) → Vp al (Lb al f) = some f
 | [], [], _, _, _ => rfl
 | a :: al, x :: xs, h, hl, hi => by
  obtain ⟨h1, h2, h3⟩ := h a (.head _)
  have h0 := hi 0 (by simp)
  simp only [List.getD_cons_zero] at h0
  rw [Lb, Vp]
  have hb : Jm a [[102], Yj (a.fr + 1), Yj (a.to + 1), Yj x] = true := by
   unfold Jm
   simp only [List.getD_cons_zero, List.getD_cons_succ, List.length_cons, List.length_nil]
   rw [Z1x h0.1 (by omega) h0.1 h0.2, Z1x (by omega) (by omega) (Int.le_refl _) (Int.le_refl _), Z1x (by omega) (by omega) (Int.le_refl _) (Int.le_refl _)]
   rfl
  rw [if_pos hb, Z6z al xs (fun b hb => h b (.tail _ hb)) (by simpa using hl) (fun i hlt => hi (i + 1) (by simp; omega))]
  have : flowV [[102], Yj (a.fr + 1), Yj (a.to + 1), Yj x] = x := by
   unfold flowV
   simp only [List.getD_cons_zero, List.getD_cons_succ]
   rw [Z5f h0.1 (by omega)]
  rw [this]; rfl
 | [], _ :: _, _, h, _ => by simp at h
 | _ :: _, [], _, h, _ => by simp at h
def Ut : Nat → List Bool → Str
  | _, [] => []
  | i, b :: s => (if b = true then [107, 32] ++ Yj (i + 1) ++ [10] else []) ++ Ut (i + 1) s
def Rf : Nat → List Bool → List (List Str)
  | _, [] => []
  | i, b :: s => if b = true then [[107], Yj (i + 1)] :: Rf (i + 1) s else Rf (i + 1) s
def Ku (N : Int) : Int → List Bool → List (List Str) → Option (List Bool)
  | _, xs, [] => some xs
  | last, xs, w :: ws => if (w.length = 2 ∧ w.getD 0 [] = [107]) ∧ Kw (w.getD 1 []) (last + 1) N = true then Ku N (Wy (w.getD 1 [])).1 (xs.set ((Wy (w.getD 1 [])).1 - 1).toNat true) ws else none
theorem Z88 : ∀ (s : List Bool) (i : Nat), i + s.length ≤ 1000000 → (Ut i s).length ≤ 30 * s.length
 | [], i, _ => by simp [Ut]
 | b :: s, i, h => by
  rw [List.length_cons] at h
  have h1 := Z88 s (i + 1) (by omega)
  have h2 := (Ug (n := (i : Int) + 1) (by omega)).2
  rw [Ut, List.length_append]
  split <;> simp only [List.length_append, List.length_cons, List.length_nil] <;> omega
theorem Z4h (N : Int) : ∀ (s : List Bool) (i : Nat) (last : Int) (pre : List Bool), pre.length = i → 0 ≤ last → last ≤ i → (i : Int) + s.length = N → N ≤ 1000000 → Ku N last (pre ++ List.replicate s.length false) (Rf i s) = some (pre ++ s)
 | [], i, last, pre, _, _, _, _, _ => rfl
 | b :: s, i, last, pre, h1, h2, h3, h4, h5 => by
  rw [List.length_cons] at h4
  rw [Rf]
  have hstep : ∀ b, pre ++ b :: List.replicate s.length false = (pre ++ [b]) ++ List.replicate s.length false := fun b => by rw [List.append_assoc]; rfl
  split
  ·
   rename_i hb
   have e1 : List.getD [[107], Yj ((i : Int) + 1)] 1 [] = Yj ((i : Int) + 1) := rfl
   rw [Ku, e1, if_pos ⟨⟨rfl, rfl⟩, Z1x (by omega) (by omega) (by omega) (by omega)⟩, Z5f (by omega) (by omega)]
   simp only
   have e2 : (((i : Int) + 1) - 1).toNat = i := by omega
   rw [e2, List.length_cons, List.replicate_succ, List.set_append_right _ _ (by omega), h1, Nat.sub_self, List.set_cons_zero, hstep, hb]
   rw [Z4h N s (i + 1) ((i : Int) + 1) (pre ++ [true]) (by rw [List.length_append, h1]; rfl) (by omega) (by omega) (by omega) h5, List.append_assoc]
   rfl
  ·
   rename_i hb
   rw [List.length_cons, List.replicate_succ, hstep, Z4h N s (i + 1) last (pre ++ [false]) (by rw [List.length_append, h1]; rfl) h2 (by omega) (by omega) h5, List.append_assoc]
   have : b = false := by cases b; rfl; exact absurd rfl hb
   rw [this]; rfl
theorem Zcx {s : List Bool} {k : Nat} (h : k < s.length) : Ut k (s.drop k) = (if s.getD k false = true then [107, 32] ++ Yj ((k : Int) + 1) ++ [10] else []) ++ Ut (k + 1) (s.drop (k + 1)) := by
 have e1 : s.drop k = s.getD k false :: s.drop (k + 1) := by rw [List.drop_eq_getElem_cons h, List.getD_eq_getElem?_getD, List.getElem?_eq_getElem h]; rfl
 rw [e1, Ut]
theorem s_Cut {n : Net} {s : List Bool} (hk : Ub n.N n.S n.T n.Arcs = 0) (hl : lenok n.Arcs.length) (hs : (s.length : Int) = n.N) : Ls n s = some (ub (Ut 0 s), 0) := by
 have hz := Kx hk
 refine Nt ?_
 unfold Ls
 refine Ok.bind.2 (Vf (Z0y n hl) ?_)
 rw [if_neg (by rw [hk]; simp), if_neg (by omega)]
 have hcl := Z88 s 0 (by omega)
 refine Ok.bind.2 (Gh (fun t => ∃ k : Nat, t.2 = k ∧ k ≤ s.length ∧ t.1 ++ ub (Ut k (s.drop k)) = ub (Ut 0 s)) (fun t => (s.length - t.2).toNat) ⟨0, rfl, Nat.zero_le _, rfl⟩ (by unfold Ys; simp only; omega) ?_)
 rintro ⟨buf, x⟩ ⟨k, h1, h2, h3⟩ P next exit
 simp only at h1 h3 next ⊢
 subst h1
 unfold Z12
 have hlen := congrArg List.length h3
 rw [List.length_append, Jd, Jd] at hlen
 refine Ok.ite.2 ⟨fun h => ?_, fun h => ?_⟩
 ·
  have hk2 : k < s.length := by omega
  have c1 := (Ug (n := (k : Int) + 1) (by omega)).2
  rw [Zcx hk2] at h3
  rw [Int.toNat_natCast]
  refine Ok.gd.2 ⟨(by (first | omega | (constructor <;> omega) | (simp only [List.length_set, List.length_replicate]; omega) | (simp only [List.length_set, List.length_replicate]; constructor <;> omega))), Ok.ite.2 ⟨fun hb => ?_, fun hb => ?_⟩⟩
  ·
   rw [if_pos hb] at h3
   unfold Nl
   refine Ok.gd.2 ⟨(by (first | omega | (constructor <;> omega) | (simp only [List.length_set, List.length_replicate]; omega) | (simp only [List.length_set, List.length_replicate]; constructor <;> omega))), Ok.bind.2 (Ok.gd.2 ⟨(by (first | omega | (constructor <;> omega) | (simp only [List.length_set, List.length_replicate]; omega) | (simp only [List.length_set, List.length_replicate]; constructor <;> omega))), Ok.some.2 ?_⟩)⟩
   rw [Xi (by simp only [slok, List.length_append, List.length_cons, List.length_nil]; omega), Xi (by simp only [slok, List.length_append, List.length_cons, List.length_nil]; omega), Xi (by rw [List.length_append, Jd]; simp only [List.length_append, List.length_cons, List.length_nil]; omega), Xi (by constructor <;> omega)]
   refine Ok.some.2 (next _ ⟨k + 1, rfl, by omega, ?_⟩ (by simp only; omega))
   simp only
   rw [← h3, Z4g ([107, 32] ++ _ ++ _), List.append_assoc]
  ·
   rw [if_neg hb, List.nil_append] at h3
   exact Ok.gd.2 ⟨(by (first | omega | (constructor <;> omega) | (simp only [List.length_set, List.length_replicate]; omega) | (simp only [List.length_set, List.length_replicate]; constructor <;> omega))), Ok.some.2 (next _ ⟨k + 1, rfl, by omega, h3⟩ (by simp only; omega))⟩
 ·
  refine Ok.some.2 (exit _ ?_)
  unfold Z21
  refine Ok.some.2 ?_
  obtain rfl : k = s.length := by omega
  rw [List.drop_eq_nil_of_le (Nat.le_refl _)] at h3
  rw [← h3]; simp [Ut, ub]
theorem Zds {n : Net} (hN : 0 ≤ n.N ∧ n.N ≤ 1000000) : ∀ (ws : List (List Str)) (x last : Int) (xs : List Bool), (∀ w ∈ ws, w.length ≤ 9223372036854775807) → (xs.length : Int) = n.N → 0 ≤ last → last ≤ n.N →
    Ok (Kf (fun (s : Int × List Bool × Int) v => Gz n s.1 s.2.1 s.2.2 v) (x, xs, last) ws) (fun t => match t with
      | .inl s => Ku n.N last xs ws = some s.2.1 ∧ (s.2.1.length : Int) = n.N
      | .inr s => Ku n.N last xs ws = none ∧ s.1 = 70) := by
  intro ws
  induction ws with
  | nil => intro x last xs _ h1 _ _; exact Ok.some.2 ⟨rfl, h1⟩
  | cons w ws ih =>
    intro x last xs hw h1 h2 h3
    refine Ok.bind.2 ?_
    simp only
    unfold Gz
    have t2 : Lg n x xs last w true = some (.inr (70, xs, last)) := rfl
    have hw0 := hw w (.head _)
    refine Ok.ite.2 ⟨fun h => ?_, fun h => ?_⟩
    · rw [t2]
      refine Ok.some.2 (Ok.some.2 ⟨?_, rfl⟩)
      rw [Ku, if_neg (fun h2 => by omega)]
    · refine Ok.gd.2 ⟨(by (first | omega | (constructor <;> omega) | (simp only [List.length_set, List.length_replicate]; omega) | (simp only [List.length_set, List.length_replicate]; constructor <;> omega))), ?_⟩
      rw [Int.toNat_zero]
      by_cases h0 : w.getD 0 [] = [107]
      · rw [decide_eq_false (by simpa using h0)]
        unfold Lg
        rw [if_neg (by simp)]
        refine Ok.gd.2 ⟨(by (first | omega | (constructor <;> omega) | (simp only [List.length_set, List.length_replicate]; omega) | (simp only [List.length_set, List.length_replicate]; constructor <;> omega))), Ok.gd.2 ⟨(by (first | omega | (constructor <;> omega) | (simp only [List.length_set, List.length_replicate]; omega) | (simp only [List.length_set, List.length_replicate]; constructor <;> omega))), Ok.bind.2 (Vf (Z3j ..) ?_)⟩⟩
        have e1 : (1 : Int).toNat = 1 := rfl
        rw [e1]
        simp only
        refine Ok.ite.2 ⟨fun h4 => Ok.some.2 (Ok.some.2 ⟨?_, rfl⟩), fun h4 => ?_⟩
        · rw [Ku, if_neg (fun h5 => by rw [h5.2] at h4; simp at h4)]
        · have h5 : Kw (w.getD 1 []) (last + 1) n.N = true := by simpa using h4
          have h6 := numB_iff.1 h5
          refine Ok.gd.2 ⟨(by (first | omega | (constructor <;> omega) | (simp only [List.length_set, List.length_replicate]; omega) | (simp only [List.length_set, List.length_replicate]; constructor <;> omega))), Ok.gd.2 ⟨by constructor <;> omega, Ok.some.2 ?_⟩⟩
          simp only
          refine Ok.mono (ih x (Wy (w.getD 1 [])).1 (xs.set ((Wy (w.getD 1 [])).1 - 1).toNat true) (fun w' h => hw w' (.tail _ h)) (by rw [List.length_set]; exact h1) (by omega) h6.2.2) fun t ht => ?_
          rw [Ku, if_pos ⟨⟨by omega, h0⟩, h5⟩]
          exact ht
      · rw [decide_eq_true (by simpa using h0), t2]
        refine Ok.some.2 (Ok.some.2 ⟨?_, rfl⟩)
        rw [Ku, if_neg (fun h5 => h0 h5.1.2)]
theorem Z9x {n : Net} {t : Str} (hk : Ub n.N n.S n.T n.Arcs = 0) (hl : t.length ≤ 4294967296) :
    Ok (Nm n (ub t)) (fun r => (r.2 = 0 ∧ (r.1.length : Int) = n.N ∧ Ku n.N 0 (List.replicate n.N.toNat false) (Ww t) = some r.1) ∨ (r = ([], 70) ∧ Ku n.N 0 (List.replicate n.N.toNat false) (Ww t) = none)) := by
  have hz := Kx hk
  have hll : lenok n.Arcs.length := by omega
  unfold Nm Rd
  refine Ok.bind.2 (Vf (Z0y n hll) ?_)
  rw [if_neg (by rw [hk]; simp)]
  refine Ok.gd.2 ⟨(by (first | omega | (constructor <;> omega) | (simp only [List.length_set, List.length_replicate]; omega) | (simp only [List.length_set, List.length_replicate]; constructor <;> omega))), ?_⟩
  rw [Option.bind_some, Z6s _ t _ hl]
  refine Ok.bind.2 (Ok.mono (Zds (n := n) (by omega) (Ww t) 0 0 (List.replicate n.N.toNat false) (Z7e hl) (by rw [List.length_replicate]; omega) (by omega) (by omega)) fun r hr => ?_)
  cases r with
  | inl s => obtain ⟨h1, h2⟩ := hr; exact Ok.some.2 (.inl ⟨rfl, h2, h1⟩)
  | inr s =>
    obtain ⟨x, xs, last⟩ := s
    obtain ⟨h1, h2⟩ := hr
    simp only at h2
    subst h2
    exact Ok.some.2 (.inr ⟨rfl, h1⟩)
end Go.Acq
namespace Go.Acq
open Go
def Wv (ls : List Str) : Str := ls.flatMap (· ++ [10])
def Z0n (l : Str) : Prop := (∀ b ∈ l, b ≠ 10) ∧ l.length ≤ 100
def Lc (l : Str) : Prop := Z0n l ∧ Ua l = some (Xd l)
def Uz : List Arc → List Int → List Str
  | a :: al, x :: xs => (Jz a ++ Yj x) :: Uz al xs
  | _, _ => []
def Gv (n : Net) (f : List Int) : List Str := ([115, 32] ++ Yj (Uf n f)) :: Uz n.Arcs f
theorem Z6m : ∀ (al : List Arc) (f : List Int), Uu al f = Wv (Uz al f)
 | [], f => by cases f <;> rfl
 | _ :: _, [] => rfl
 | a :: al, x :: xs => by rw [Uu, Uz, Z6m al xs]; unfold Wv; rw [List.flatMap_cons]
theorem solT_cat (n : Net) (f : List Int) : La n f = Wv (Gv n f) := by
 unfold La Gv
 rw [Z6m]; unfold Wv; rw [List.flatMap_cons]
theorem Z7p : ∀ (al : List Arc) (f : List Int), Z33 al → (∀ x ∈ f, i64ok x) → (∀ l ∈ Uz al f, Lc l) ∧ (Uz al f).map Xd = Lb al f
 | [], f, _, _ => by cases f <;> exact ⟨fun l h => by simp [Uz] at h, rfl⟩
 | _ :: _, [], _, _ => ⟨fun l h => by simp [Uz] at h, rfl⟩
 | a :: al, x :: xs, h, hx => by
  obtain ⟨h1, h2, -⟩ := h a (.head _)
  obtain ⟨c1, d1⟩ := Ug (n := a.fr + 1) (by omega)
  obtain ⟨c2, d2⟩ := Ug (n := a.to + 1) (by omega)
  obtain ⟨c3, d3⟩ := Ug (hx x (.head _))
  have b1 : Wb (102 : UInt8).toNat = false := by rw [Rk]; rfl
  have hw : Xd (Jz a ++ Yj x) = [[102], Yj (a.fr + 1), Yj (a.to + 1), Yj x] := words4 b1 c1.ok c2.ok c3.ok
  obtain ⟨g1, g2⟩ := Z7p al xs (fun b hb => h b (.tail _ hb)) (fun y hy => hx y (.tail _ hy))
  refine ⟨fun l hl => ?_, by rw [Uz, Lb, List.map_cons, hw, g2]⟩
  rw [Uz] at hl
  rcases List.mem_cons.1 hl with rfl | hl
  ·
   refine ⟨⟨fun b hb => ?_, ?_⟩, Z5t rfl (by rw [hw]; simp) (by rw [hw]; exact (show (102 : UInt8) ≠ 99 by decide))⟩
   ·
    unfold Jz at hb
    simp only [List.mem_append, List.mem_cons, List.not_mem_nil, or_false] at hb
    rcases hb with ((((hb | hb) | hb) | hb) | hb) | hb
    · rcases hb with rfl | rfl <;> decide
    · exact c1.ten b hb
    · subst hb; decide
    · exact c2.ten b hb
    · subst hb; decide
    · exact c3.ten b hb
   ·
    have := Z4j (a := a) (by omega) (by omega)
    rw [List.length_append]; omega
  · exact g1 l hl
theorem Z6o : ∀ (al : List Arc) (f : List Int), f.length = al.length → (Uz al f).length = al.length
 | [], f, _ => by cases f <;> rfl
 | _ :: _, [], h => by simp at h
 | a :: al, x :: xs, h => by rw [Uz, List.length_cons, Z6o al xs (by simpa using h)]; rfl
theorem solL_ok {n : Net} {f : List Int} (hw : FwithinP n f) (hc : ∀ a ∈ n.Arcs, a.cap ≤ 9223372036854775807) : (∀ l ∈ Gv n f, Lc l) ∧ (Gv n f).map Xd = [[115], Yj (Uf n f)] :: Lb n.Arcs f ∧ (Gv n f).length = n.Arcs.length + 1 := by
 have he := Z5p hw
 obtain ⟨c1, d1⟩ := Ug (n := Uf n f) (by omega)
 have b1 : Wb (115 : UInt8).toNat = false := by rw [Rk]; rfl
 have hw0 : Xd ([115, 32] ++ Yj (Uf n f)) = [[115], Yj (Uf n f)] := words2 b1 c1.ok
 obtain ⟨g1, g2⟩ := Z7p n.Arcs f (FwithinP.arcs hw.1 hc) (hw.i64 hc)
 refine ⟨fun l hl => ?_, by unfold Gv; rw [List.map_cons, hw0, g2], by unfold Gv; rw [List.length_cons, Z6o _ _ hw.2.1]⟩
 unfold Gv at hl
 rcases List.mem_cons.1 hl with rfl | hl
 ·
  refine ⟨⟨fun b hb => ?_, ?_⟩, Z5t rfl (by rw [hw0]; simp) (by rw [hw0]; exact (show (115 : UInt8) ≠ 99 by decide))⟩
  ·
   simp only [List.mem_append, List.mem_cons, List.not_mem_nil, or_false] at hb
   rcases hb with hb | hb
   · rcases hb with rfl | rfl <;> decide
   · exact c1.ten b hb
  · simp only [List.length_append, List.length_cons, List.length_nil]; omega
 · exact g1 l hl
def Uy : Nat → List Bool → List Str
  | _, [] => []
  | i, b :: s => if b = true then ([107, 32] ++ Yj (i + 1)) :: Uy (i + 1) s else Uy (i + 1) s
theorem Z8o : ∀ (s : List Bool) (i : Nat), Ut i s = Wv (Uy i s)
 | [], i => rfl
 | b :: s, i => by
  rw [Ut, Uy, Z8o s (i + 1)]
  split
  · unfold Wv; rw [List.flatMap_cons]
  · rfl
theorem Z8k : ∀ (s : List Bool) (i : Nat), i + s.length ≤ 1000000 → (∀ l ∈ Uy i s, Lc l) ∧ (Uy i s).map Xd = Rf i s ∧ (Uy i s).length ≤ s.length
 | [], i, _ => ⟨fun l h => by simp [Uy] at h, rfl, Nat.le_refl _⟩
 | b :: s, i, h => by
  rw [List.length_cons] at h
  obtain ⟨g1, g2, g3⟩ := Z8k s (i + 1) (by omega)
  obtain ⟨c1, d1⟩ := Ug (n := (i : Int) + 1) (by omega)
  have b1 : Wb (107 : UInt8).toNat = false := by rw [Rk]; rfl
  have hw0 : Xd ([107, 32] ++ Yj ((i : Int) + 1)) = [[107], Yj ((i : Int) + 1)] := words2 b1 c1.ok
  rw [Uy, Rf, List.length_cons]
  split
  ·
   refine ⟨fun l hl => ?_, by rw [List.map_cons, hw0, g2], by rw [List.length_cons]; omega⟩
   rcases List.mem_cons.1 hl with rfl | hl
   ·
    refine ⟨⟨fun b hb => ?_, ?_⟩, Z5t rfl (by rw [hw0]; simp) (by rw [hw0]; exact (show (107 : UInt8) ≠ 99 by decide))⟩
    ·
     simp only [List.mem_append, List.mem_cons, List.not_mem_nil, or_false] at hb
     rcases hb with hb | hb
     · rcases hb with rfl | rfl <;> decide
     · exact c1.ten b hb
    · simp only [List.length_append, List.length_cons, List.length_nil]; omega
   · exact g1 l hl
  · exact ⟨g1, g2, by omega⟩
end Go.Acq
namespace Go.Acq
open Go
set_option maxRecDepth 100000 in
theorem Zbs : Z08 = some true := by decide +kernel
structure BytesIn (l : List Int) : Prop where
  row : ∀ x, x ∈ l → u8ok x
  len : l.length ≤ 9223372036854775807
theorem Zd4 : ∀ ls : List Str, (∀ l ∈ ls, Z0n l) → Vw true 10 (Wv ls) [] = ls.map (· ++ [10]) ++ [[]] := by
 have line : ∀ (seg rest cur : Str), (∀ b ∈ seg, b ≠ 10) → Vw true 10 (seg ++ 10 :: rest) cur = (cur ++ seg ++ [10]) :: Vw true 10 rest [] := by
  intro seg
  induction seg with
  | nil => intro rest cur _; rw [List.nil_append, Vw, if_pos rfl, List.append_nil]; rfl
  | cons b seg ih => intro rest cur h; rw [List.cons_append, Vw, if_neg (h b (.head _)), ih rest _ (fun x hx => h x (.tail _ hx))]; simp
 intro ls
 induction ls with
 | nil => intro _; rfl
 | cons l ls ih =>
  intro h
  have e : Wv (l :: ls) = l ++ 10 :: Wv ls := by unfold Wv; rw [List.flatMap_cons]; simp
  rw [e, line l _ [] (h l (.head _)).1, ih (fun x hx => h x (.tail _ hx)), List.map_cons, List.nil_append, List.cons_append]
theorem Z4k : ∀ ls : List Str, (∀ l ∈ ls, Z0n l) → (Wv ls).count 10 = ls.length
 | [], _ => rfl
 | l :: ls, h => by
  have e : Wv (l :: ls) = l ++ 10 :: Wv ls := by unfold Wv; rw [List.flatMap_cons]; simp
  have h0 : l.count 10 = 0 := List.count_eq_zero.2 (fun hm => (h l (.head _)).1 10 hm rfl)
  rw [e, List.count_append, List.count_cons_self, Z4k ls (fun x hx => h x (.tail _ hx)), h0, List.length_cons]
  omega
def Full (out : Str) (W : List (List Str)) : Prop := ∀ t, Ww (out ++ t) = W ++ Ww t
theorem Full.nil : Full [] [] := fun t => rfl
theorem Full.app {a b : Str} {V W : List (List Str)} (h : Full a V) (g : Full b W) : Full (a ++ b) (V ++ W) := fun t => by rw [List.append_assoc, h, g, List.append_assoc]
theorem Z4p {seg : Str} (h : ∀ b ∈ seg, b ≠ 10) : Full (seg ++ [10]) (Ua seg).toList := fun t => by
 rw [List.append_assoc]; exact Zc5 seg t h
theorem Full.said {out : Str} {W : List (List Str)} (h : Full out W) : Ww out = W := by
 have := h []
 rw [List.append_nil, Ze4, List.append_nil] at this
 exact this
theorem fill_ok : ∀ x ∈ ([([] : Str), ([99, 32, 115, 32, 49, 10] : Str), ([10] : Str), ([32, 9, 10] : Str), ([99, 107, 32, 49, 10] : Str)] : List Str), Full x [] ∧ x.length ≤ 6 := by
 have one : ∀ seg : Str, (∀ b ∈ seg, b ≠ 10) → Ua seg = none → seg.length ≤ 5 → Full (seg ++ [10]) [] ∧ (seg ++ [10]).length ≤ 6 := fun seg h1 h2 h3 => by
  refine ⟨?_, by rw [List.length_append, List.length_singleton]; omega⟩
  have := Z4p h1
  rw [h2] at this
  exact this
 intro x hx
 simp only [List.mem_cons, List.not_mem_nil, or_false] at hx
 rcases hx with rfl | rfl | rfl | rfl | rfl
 · exact ⟨Full.nil, by decide⟩
 · exact one [99, 32, 115, 32, 49] (by decide) (by decide +kernel) (by decide)
 · exact one [] (by decide) (by decide +kernel) (by decide)
 · exact one [32, 9] (by decide) (by decide +kernel) (by decide)
 · exact one [99, 107, 32, 49] (by decide) (by decide +kernel) (by decide)
def Z0l (new : Str) : Prop := new ≠ [] ∧ new.length ≤ 2 ∧ ∀ b ∈ new, Wb b.toNat = true ∧ b ≠ 10
theorem wide_ok : ∀ x ∈ ([([32] : Str), ([32, 32] : Str), ([9] : Str), ([32, 13] : Str)] : List Str), Z0l x := by
 intro x hx
 simp only [List.mem_cons, List.not_mem_nil, or_false] at hx
 rcases hx with rfl | rfl | rfl | rfl <;> exact ⟨by simp, by decide, by decide +kernel⟩
theorem Z60 {p : Nat → Bool} : ∀ (new rest : Str), (∀ b ∈ new, p b.toNat = true) → Yw p (new ++ rest) [] = Yw p rest []
 | [], rest, _ => rfl
 | b :: new, rest, h => by rw [List.cons_append, Z0s (h b (.head _)), Z60 new rest (fun x hx => h x (.tail _ hx))]
theorem Z1k {new : Str} (h : Z0l new) : ∀ (l cur : Str), Yw Wb (Xr 32 new l) cur = Yw Wb l cur
 | [], cur => rfl
 | b :: l, cur => by
  have hr : Xr 32 new (b :: l) = (if b = 32 then new else [b]) ++ Xr 32 new l := by unfold Xr; rw [List.flatMap_cons]
  rw [hr]
  by_cases hb : b = 32
  ·
   subst hb
   rw [if_pos rfl]
   obtain ⟨x, xs, rfl⟩ := List.exists_cons_of_ne_nil h.1
   have hx := (h.2.2 x (.head _)).1
   have hxs : ∀ b ∈ xs, Wb b.toNat = true := fun b hb => (h.2.2 b (.tail _ hb)).1
   by_cases hc : cur = []
   ·
    subst hc
    rw [List.cons_append, Z0s hx, Z0s Ld, Z60 xs _ hxs, Z1k h l []]
   · rw [List.cons_append, Rt hx hc, Rt Ld hc, Z60 xs _ hxs, Z1k h l []]
  ·
   rw [if_neg hb]
   show Yw Wb (b :: Xr 32 new l) cur = _
   rw [Yw, Yw]
   rw [Z1k h l [], Z1k h l (cur ++ [b])]
theorem Z7r (c : UInt8) {new : Str} (h : new.length ≤ 2) : ∀ l : Str, (Xr c new l).length ≤ 2 * l.length
 | [] => Nat.le_refl _
 | b :: l => by
  have hr : Xr c new (b :: l) = (if b = c then new else [b]) ++ Xr c new l := by unfold Xr; rw [List.flatMap_cons]
  have := Z7r c h l
  rw [hr, List.length_append, List.length_cons]
  split
  · omega
  · simp only [List.length_singleton]; omega
theorem rep_app (c : UInt8) (new a b : Str) : Xr c new (a ++ b) = Xr c new a ++ Xr c new b := by unfold Xr; rw [List.flatMap_append]
theorem rep_ten {new : Str} (h : Z0l new) {l : Str} (hl : ∀ b ∈ l, b ≠ 10) : ∀ b ∈ Xr 32 new l, b ≠ 10 := by
 intro b hb
 unfold Xr at hb
 obtain ⟨a, h1, h2⟩ := List.mem_flatMap.1 hb
 split at h2
 · exact (h.2.2 b h2).2
 · rw [List.mem_singleton.1 h2]; exact hl a h1
theorem Full.wide {new l : Str} (h : Z0l new) (hl : Lc l) : Full (Xr 32 new (l ++ [10])) [Xd l] := by
 have e : Xr 32 new (l ++ [10]) = Xr 32 new l ++ [10] := by rw [rep_app]; rfl
 have hw : Xd (Xr 32 new l) = Xd l := Z1k h l []
 have hs : Ua (Xr 32 new l) = some (Xd l) := by
  have := hl.2
  unfold Ua at this ⊢
  rw [hw]; exact this
 rw [e]
 have := Z4p (rep_ten h hl.1.1)
 rw [hs] at this
 exact this
theorem Ze1 {l : Str} (hl : Lc l) : Full (l ++ [10]) [Xd l] := by
 have := Z4p hl.1.1
 rw [hl.2] at this
 exact this
theorem u8_idx {z : Int} (h : u8ok z) : (0 ≤ z.tmod 5 ∧ z.tmod 5 < 5) ∧ (0 ≤ z.tdiv 5 ∧ z.tdiv 5 ≤ 255) ∧ 0 ≤ (z.tdiv 5).tmod 4 ∧ (z.tdiv 5).tmod 4 < 4 := by
 have h1 := Int.tmod_nonneg 5 h.1
 have h2 := Int.tmod_lt_of_pos z (b := 5) (by decide)
 have h3 : 0 ≤ z.tdiv 5 := Int.tdiv_nonneg h.1 (by decide)
 have h4 : z.tdiv 5 ≤ z := Int.tdiv_le_self 5 h.1
 have h5 := Int.tmod_nonneg 4 h3
 have h6 := Int.tmod_lt_of_pos (z.tdiv 5) (b := 4) (by decide)
 exact ⟨⟨h1, h2⟩, ⟨h3, by have := h.2; omega⟩, h5, h6⟩
theorem s_wide {ls : List Str} {how : List Int} {c : Int} (hb : BytesIn how) (h : ∀ l ∈ ls, Lc l) (hl : ls.length ≤ 100) (hc : 0 ≤ c ∧ c ≤ 1000) :
    Ok (Rr (Wv ls) c how) (fun r => (∃ out, r.1 = ub out ∧ Ww out = ls.map Xd ∧ out.length ≤ 1000000) ∧ 0 ≤ r.2 ∧ r.2 ≤ c + 101) := by
  have hln : ∀ l ∈ ls, Z0n l := fun l hl => (h l hl).1
  have hcl : (Wv ls).length ≤ 101 * ls.length := by
    have : ∀ ls : List Str, (∀ l ∈ ls, Z0n l) → (Wv ls).length ≤ 101 * ls.length := by
      intro ls
      induction ls with
      | nil => intro _; exact Nat.le_refl _
      | cons l ls ih =>
        intro h
        have e : Wv (l :: ls) = l ++ 10 :: Wv ls := by unfold Wv; rw [List.flatMap_cons]; simp
        have := ih (fun x hx => h x (.tail _ hx))
        have := (h l (.head _)).2
        rw [e, List.length_append, List.length_cons, List.length_cons]; omega
    exact this ls hln
  unfold Rr Z2k Z2g
  refine Ok.bind.2 (Ok.bind.2 (Ok.gd.2 ⟨⟨by omega, rfl, .inr rfl, rfl⟩, Ok.some.2 (Ok.some.2 ?_)⟩))
  have e1 : (decide ((([10] : Str).length : Int) = 1)) = true := by decide
  have e0 : ([10] : Str).getD 0 0 = 10 := rfl
  rw [e1, e0, Zd4 ls hln]
  have hbl := hb.len
  refine Ok.bind.2 (Gh (fun s => ∃ k : Nat, s.2.2 = k ∧ k ≤ ls.length + 1 ∧ s.1 = c + k ∧ Full s.2.1 ((ls.take k).map Xd) ∧ s.2.1.length ≤ 300 * k) (fun s => (ls.length + 1 - s.2.2).toNat) ⟨0, rfl, Nat.zero_le _, by simp, Full.nil, Nat.zero_le _⟩ (by unfold Ys; simp only; omega) ?_)
  rintro ⟨cc, out, x⟩ ⟨k, h1, h2, h3, h4, h5⟩ P next exit
  simp only at h1 h3 h4 h5 next ⊢
  subst h1 h3
  unfold Z04
  have hpl : (ls.map (· ++ [10]) ++ [[]] : List Str).length = ls.length + 1 := by rw [List.length_append, List.length_map]; rfl
  rw [hpl]
  refine Ok.ite.2 ⟨fun hx => ?_, fun hx => ?_⟩
  · rw [Int.toNat_natCast]
    obtain ⟨pc, hpc⟩ : ∃ pc, (ls.map (· ++ [10]) ++ [[]] : List Str).getD k ([] : Str) = pc := ⟨_, rfl⟩
    rw [hpc]
    have hpiece : pc.length ≤ 101 ∧ (∀ new, Z0l new → Full (Xr 32 new pc) ((ls.drop k).take 1 |>.map Xd)) ∧ Full pc ((ls.drop k).take 1 |>.map Xd) := by
      by_cases hk : k < ls.length
      · have e2 : pc = ls.getD k [] ++ [10] := by
          rw [← hpc, List.getD_eq_getElem?_getD, List.getElem?_append_left (by rw [List.length_map]; exact hk), List.getElem?_map, List.getD_eq_getElem?_getD, List.getElem?_eq_getElem hk]; rfl
        have e3 : (ls.drop k).take 1 = [ls.getD k []] := by
          rw [List.drop_eq_getElem_cons hk, List.take_succ_cons, List.take_zero, List.getD_eq_getElem?_getD, List.getElem?_eq_getElem hk]; rfl
        have h6 := h _ (Uv hk [])
        rw [e2, e3]
        refine ⟨by have := h6.1.2; rw [List.length_append, List.length_singleton]; omega, fun new hn => Full.wide hn h6, Ze1 h6⟩
      · have e2 : pc = [] := by
          obtain rfl : k = ls.length := by omega
          rw [← hpc, List.getD_eq_getElem?_getD, List.getElem?_append_right (by rw [List.length_map]; exact Nat.le_refl _), List.length_map, Nat.sub_self]; rfl
        have e3 : (ls.drop k).take 1 = [] := by rw [List.drop_eq_nil_of_le (by omega)]; rfl
        rw [e2, e3]
        exact ⟨by simp, fun new hn => Full.nil, Full.nil⟩
    have htk : (ls.take (k + 1)).map Xd = (ls.take k).map Xd ++ ((ls.drop k).take 1).map Xd := by
      rw [← List.map_append, ← List.take_add]
    obtain ⟨p1, p2, p3⟩ := hpiece
    refine Ok.gd.2 ⟨by constructor <;> omega, Ok.gd.2 ⟨by constructor <;> omega, Ok.ite.2 ⟨fun hy => ?_, fun hy => ?_⟩⟩⟩
    · have ez : c + (k : Int) + 1 - 1 = c + k := by omega
      rw [ez]
      obtain ⟨z, hz⟩ : ∃ z, how.getD (c + (k : Int)).toNat 0 = z := ⟨_, rfl⟩
      have hzo : u8ok z := by rw [← hz]; exact hb.row _ (Uv (by omega) 0)
      rw [hz]
      obtain ⟨⟨i1, i2⟩, ⟨i3, i4⟩, i5, i6⟩ := u8_idx hzo
      obtain ⟨w1, hw1⟩ : ∃ w1, ([([] : Str), ([99, 32, 115, 32, 49, 10] : Str), ([10] : Str), ([32, 9, 10] : Str), ([99, 107, 32, 49, 10] : Str)] : List Str).getD (z.tmod 5).toNat ([] : Str) = w1 := ⟨_, rfl⟩
      obtain ⟨w2, hw2⟩ : ∃ w2, ([([32] : Str), ([32, 32] : Str), ([9] : Str), ([32, 13] : Str)] : List Str).getD ((z.tdiv 5).tmod 4).toNat ([] : Str) = w2 := ⟨_, rfl⟩
      have f1 := fill_ok w1 (by rw [← hw1]; exact Uv (by simp only [List.length_cons, List.length_nil]; omega) _)
      have f2 := wide_ok w2 (by rw [← hw2]; exact Uv (by simp only [List.length_cons, List.length_nil]; omega) _)
      rw [hw1, hw2]
      have g1 := Z7r 32 f2.2.1 pc
      have g2 := List.count_le_length (a := (32 : UInt8)) (l := pc)
      have g3 : pc.count 32 * w2.length ≤ 101 * 2 := Nat.mul_le_mul (by omega) f2.2.1
      have eg : ([32] : Str).getD 0 0 = 32 := rfl
      unfold Z35
      refine Ok.gd.2 ⟨by constructor <;> omega, Ok.gd.2 ⟨by constructor <;> omega, Ok.gd.2 ⟨⟨i1, by simp only [List.length_cons, List.length_nil]; omega⟩, Ok.gd.2 ⟨by unfold slok; rw [List.length_append]; omega, Ok.gd.2 ⟨by constructor <;> omega, Ok.gd.2 ⟨by constructor <;> omega, Ok.gd.2 ⟨⟨by decide, i3, i4⟩, Ok.gd.2 ⟨⟨i5, by simp only [List.length_cons, List.length_nil]; omega⟩, ?_⟩⟩⟩⟩⟩⟩⟩⟩
      rw [eg]
      refine Ok.bind.2 (Ok.gd.2 ⟨⟨by omega, rfl, by omega⟩, Ok.some.2 (Ok.gd.2 ⟨by unfold slok; rw [List.length_append, List.length_append]; omega, Ok.gd.2 ⟨by constructor <;> omega, Ok.some.2 (next _ ⟨k + 1, by simp, by omega, by simp only [Int.natCast_succ]; omega, ?_, ?_⟩ (by simp only; omega))⟩⟩)⟩)
      · simp only
        rw [htk]
        have := (h4.app f1.1).app (p2 w2 f2)
        rw [List.append_nil] at this
        exact this
      · simp only
        rw [List.length_append, List.length_append]; have := f1.2; omega
    · refine Ok.gd.2 ⟨by unfold slok; rw [List.length_append]; omega, Ok.gd.2 ⟨by constructor <;> omega, Ok.some.2 (next _ ⟨k + 1, by simp, by omega, by simp only [Int.natCast_succ]; omega, ?_, ?_⟩ (by simp only; omega))⟩⟩
      · simp only
        rw [htk]
        exact h4.app p3
      · simp only
        rw [List.length_append]; omega
  · refine Ok.some.2 (exit _ ?_)
    unfold Z38
    refine Ok.some.2 ⟨⟨out, rfl, ?_, by omega⟩, by omega, by omega⟩
    rw [h4.said, List.take_of_length_le (by omega)]
theorem Z67 : ∀ (s : List Bool) (k : Nat), k < s.length → s.getD k false = false → (s.set k true).count true = s.count true + 1
 | [], k, h, _ => by simp at h
 | b :: s, 0, _, h => by
  have : b = false := h
  subst this
  simp
 | b :: s, k + 1, h, g => by
  have := Z67 s k (by simpa using h) g
  rw [List.set_cons_succ, List.count_cons, this, List.count_cons]; omega
theorem Z3h : ∀ (s : List Bool) (i : Nat), (Uy i s).length = s.count true
 | [], i => rfl
 | b :: s, i => by
  rw [Uy]
  cases b
  · rw [if_neg (by simp), Z3h s]; simp
  · rw [if_pos rfl, List.length_cons, Z3h s]; simp
theorem p_SayBlank {n : Net} {l : List Int} {marks : List Bool} {how : List Int} (hn : NetIn n) (hl : RowIn l) (hm : marks.length ≤ 9223372036854775807) (hb : BytesIn how) : Z3a n l marks how = some true := by
 refine Nt ?_
 unfold Z3a
 refine Ok.bind.2 (Ok.mono (s_Some hn (by omega) (by omega) (by omega) (by omega)) fun r hr => ?_)
 have hlen := hr.arcs
 have hv := hr.verts
 have hends := hr.ends
 obtain ⟨m, hmm, hso⟩ := hr.nat
 have hcaps := Za3 hso
 have hk := hr.check
 have hc : ∀ a ∈ r.Arcs, a.cap ≤ 9223372036854775807 := fun a ha => by
  obtain ⟨i, hi, rfl⟩ := List.mem_iff_getElem.1 ha
  have := (hcaps i hi).2
  rw [List.getD_eq_getElem?_getD, List.getElem?_eq_getElem hi] at this
  simp only [Option.getD_some] at this
  omega
 have hll : lenok r.Arcs.length := by omega
 refine Ok.bind.2 (Ok.mono (s_Within (by omega) (fun i hi => (hcaps i hi).1) hl) fun f hf => ?_)
 have hw : FwithinP r f := ⟨hk, hf.1, fun i hi => ⟨(hf.2.1 i hi).1, (hf.2.1 i hi).2.1⟩⟩
 have hfl := hf.1
 obtain ⟨q1, q2, q3⟩ := solL_ok hw hc
 have hfs := Z6z r.Arcs f (FwithinP.arcs hk hc) hw.2.1 hw.2.2
 refine Ok.gd.2 ⟨(by (first | omega | (constructor <;> omega) | (simp only [List.length_set, List.length_replicate]; omega) | (simp only [List.length_set, List.length_replicate]; constructor <;> omega))), ?_⟩
 refine Ok.bind.2 (Gh (fun t => ∃ k : Nat, t.2.2 = k ∧ k ≤ m ∧ t.1.length = m ∧ (∀ i, k ≤ i → i < m → t.1.getD i false = false) ∧ t.2.1 = (t.1.count true : Nat)) (fun t => (m - t.2.2).toNat)
  ⟨0, rfl, Nat.zero_le _, by rw [List.length_replicate]; omega, fun i _ hi => by simp only [Z0a]; try simp, by simp [List.count_replicate]⟩ (by unfold Ys; simp only; omega) ?_)
 rintro ⟨xs, cn, x⟩ ⟨k, h1, h2, h3, h4, h5⟩ P next exit
 simp only at h1 h3 h4 h5 next ⊢
 subst h1
 have hcn := List.count_le_length (a := true) (l := xs)
 unfold Z1n
 rw [List.length_replicate]
 have step : ∀ b : Bool, k < m → Ok (Lj xs cn (k : Int) b) P := by
  intro b hkm
  unfold Lj
  refine Ok.ite.2 ⟨fun _ => Ok.gd.2 ⟨by constructor <;> omega, Ok.gd.2 ⟨by constructor <;> omega, Ok.gd.2 ⟨by constructor <;> omega, Ok.some.2 (next _ ⟨k + 1, by simp, by omega, by rw [List.length_set]; exact h3, fun i hi1 hi2 => ?_, ?_⟩ (by simp only; omega))⟩⟩⟩, fun _ => Ok.gd.2 ⟨by constructor <;> omega, Ok.some.2 (next _ ⟨k + 1, by simp, by omega, h3, fun i hi1 hi2 => h4 i (by omega) hi2, h5⟩ (by simp only; omega))⟩⟩
  ·
   simp only
   rw [Int.toNat_natCast, List.getD_eq_getElem?_getD, List.getElem?_set_ne (by omega), ← List.getD_eq_getElem?_getD]
   exact h4 i (by omega) hi2
  ·
   simp only
   rw [Int.toNat_natCast, Z67 xs k (by omega) (h4 k (Nat.le_refl _) hkm), h5]; simp
 refine Ok.ite.2 ⟨fun hx => Ok.ite.2 ⟨fun _ => Ok.gd.2 ⟨by constructor <;> omega, step _ (by omega)⟩, fun _ => step _ (by omega)⟩, fun hx => Ok.some.2 (exit _ ?_)⟩
 unfold Z1u
 have aw : Ok (Option.bind Z08 fun r140 => Z0g r140) (fun a => a = true) := Ok.bind.2 (Vf Zbs (Ok.some.2 rfl))
 have hxl : (xs.length : Int) = r.N := by omega
 refine Ok.bind.2 (Ok.mono (Zcg hk hc) ?_)
 rintro _ (⟨-, rfl⟩ | ⟨h, -⟩)
 rotate_left
 · exact absurd hw h
 refine Ok.bind.2 (Vf (s_Cut hk hll hxl) ?_)
 simp only
 rw [if_neg (by simp), if_neg (by simp), solT_cat, Z8o, bu_ub, bu_ub]
 obtain ⟨p1, p2, p3⟩ := Z8k xs 0 (by omega)
 unfold Z1c
 have e0 : ([10] : Str).getD 0 0 = 10 := rfl
 rw [e0, Z4k _ (fun l hl => (q1 l hl).1), Z4k _ (fun l hl => (p1 l hl).1), q3, Z3h]
 refine Ok.bind.2 (Ok.gd.2 ⟨rfl, Ok.some.2 (Ok.gd.2 ⟨by constructor <;> omega, Ok.ite.2 ⟨fun h => absurd (by simp only [Int.natCast_succ]; omega) h, fun _ => Ok.bind.2 (Ok.gd.2 ⟨rfl, Ok.some.2 (Ok.ite.2 ⟨fun h => absurd h5.symm h, fun _ => ?_⟩)⟩)⟩⟩)⟩)
 have hcl2 : (Uy 0 xs).length ≤ 100 := by rw [Z3h]; omega
 refine Ok.bind.2 (Ok.mono (s_wide hb q1 (by omega) (by omega)) ?_)
 rintro ⟨_, c1⟩ ⟨⟨out, rfl, g1, g2⟩, g3, g4⟩
 simp only at g3 g4 ⊢
 refine Ok.bind.2 (Ok.mono (Zdy hk (by omega)) ?_)
 rw [g1, q2]
 rintro ⟨u, e⟩ (⟨v1, -, ws, v2, v3⟩ | ⟨-, v1⟩)
 rotate_left
 · exact absurd ⟨f, _, rfl, hfs⟩ v1
 simp only at v1 v2 v3 ⊢
 subst v1
 injection v2 with _ v2
 subst v2
 rw [hfs] at v3
 injection v3 with v3
 subst v3
 refine Ok.bind.2 (Ok.mono (s_wide hb p1 hcl2 (by omega)) ?_)
 rintro ⟨_, c2⟩ ⟨⟨out2, rfl, g5, g6⟩, g7, g8⟩
 simp only
 have hsd := Z4h r.N xs 0 0 [] rfl (by omega) (by omega) (by omega) (by omega)
 rw [List.nil_append, List.nil_append] at hsd
 have es : r.N.toNat = xs.length := by omega
 refine Ok.bind.2 (Ok.mono (Z9x hk (by omega)) ?_)
 rw [g5, p2, es, hsd]
 rintro ⟨u2, e2⟩ (⟨v1, -, v3⟩ | ⟨-, v1⟩)
 rotate_left
 · cases v1
 simp only at v1 v3 ⊢
 subst v1
 injection v3 with v3
 subst v3
 rw [if_pos trivial]
 unfold Z0h Z1f Rx
 rw [if_pos (by simp), s_Longs (by omega), Option.bind_some, if_pos (by simp), Z9s (by omega), Option.bind_some, if_pos (by simp)]
 exact aw
end Go.Acq
