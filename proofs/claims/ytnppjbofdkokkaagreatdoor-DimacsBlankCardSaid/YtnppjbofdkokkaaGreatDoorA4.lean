/- Texts of this claim, one behind the other. -/
import Derived.Test.YtnppjbofdkokkaaGreatDoorA2
import Derived.Test.YtnppjbofdkokkaaGreatDoorA3
import Derived.Lib.ParseIntBTie
set_option linter.unusedVariables false
set_option linter.unusedSimpArgs false
namespace Go.Acq
open Go
theorem ok_eq {α : Type} {m : Option α} {v : α} (h : Ok m (fun a => a = v)) : m = some v := by obtain ⟨a, h1, h2⟩ := h; rw [h1, h2]
theorem Uf {α : Type} {m : Option α} {v : α} {Q : α → Prop} (h : m = some v) (q : Q v) : Ok m Q := ⟨v, h, q⟩
abbrev lenok (n : Nat) : Prop := n ≤ 9223372036854775807
theorem Z1g {x n : Int} (h1 : n ≤ 4611686018427387904) : Gn x n = some (Jl x n) := by
 unfold Gn Jl
 by_cases h : n < 1
 · rw [if_pos h, if_pos h]
 ·
  have a1 := Int.tmod_lt_of_pos x (show 0 < n by omega)
  have a2 := Z8y x (show 0 < n by omega)
  rw [if_neg h, if_neg h, Xj (by omega), Xj (by constructor <;> omega), Xj (by omega)]
theorem Z3n (n : Net) (v : Int) : Nj n v = some (Uj n.N v) := by
 unfold Nj Uj
 by_cases h : 0 ≤ v <;> simp [h]
theorem s_rules4 (n : Net) (a : Arc) : Z0f n a = some (Ux n.N a) := by
 unfold Z0f Ux
 rw [Z3n, Z3n]
 simp only [Option.bind_some]
 cases Uj n.N a.fr <;> simp
theorem s_of4 (n : Net) (h : lenok n.Arcs.length) : Z0j n = some (n.Arcs.all (Ux n.N)) := by
 refine ok_eq ?_
 unfold Z0j Z2q Z30
 refine Ok.bind.2 (Ok.bind.2 (Ok.bind.2 (Z3c (fun x => 0 ≤ x ∧ x ≤ n.Arcs.length ∧ ∀ i, i < x.toNat → Ux n.N (n.Arcs.getD i default) = true) (fun x => (n.Arcs.length - x).toNat) ⟨by omega, by omega, fun i hi => by omega⟩ (by unfold Xk; omega) ?_)))
 rintro x ⟨h0, h1, h2⟩
 unfold Z1d Z2z
 refine Ok.ite.2 ⟨fun hx => ?_, fun hx => ?_⟩
 ·
  refine Ok.gd.2 ⟨(by omega), Ok.bind.2 (Ok.bind.2 (Uf (s_rules4 _ _) (Ok.some.2 (Ok.ite.2 ⟨fun hb => ?_, fun hb => ?_⟩))))⟩
  ·
   refine Ok.some.2 (Ok.some.2 (Ok.some.2 (Ok.some.2 ?_)))
   simp only [h0, decide_true, Bool.not_true]
   refine Eq.symm (Bool.eq_false_iff.2 fun hall => ?_)
   have := List.all_eq_true.1 hall _ (Kc (show x.toNat < n.Arcs.length by omega) default)
   rw [this] at hb; cases hb
  ·
   refine Ok.gd.2 ⟨(by omega), Ok.some.2 ⟨⟨by omega, by omega, fun i hi => ?_⟩, by omega⟩⟩
   rcases Nat.lt_or_ge i x.toNat with h3 | h3
   · exact h2 i h3
   · rw [show i = x.toNat by omega]; simpa using hb
 ·
  refine Ok.some.2 (Ok.some.2 (Ok.some.2 (Ok.some.2 ?_)))
  refine Eq.symm (List.all_eq_true.2 fun a ha => ?_)
  obtain ⟨i, hi, rfl⟩ := List.getElem_of_mem ha
  have := h2 i (by omega)
  rwa [List.getD_eq_getElem?_getD, List.getElem?_eq_getElem hi] at this
theorem s_of5 (n : Net) (h : lenok n.Arcs.length) : Z0l n = some (n.Arcs.all Gl) := by
 refine ok_eq ?_
 unfold Z0l Z3m Z31
 refine Ok.bind.2 (Ok.bind.2 (Ok.bind.2 (Z3c (fun x => 0 ≤ x ∧ x ≤ n.Arcs.length ∧ ∀ i, i < x.toNat → Gl (n.Arcs.getD i default) = true) (fun x => (n.Arcs.length - x).toNat) ⟨by omega, by omega, fun i hi => by omega⟩ (by unfold Xk; omega) ?_)))
 rintro x ⟨h0, h1, h2⟩
 unfold Z0r Z27 Z22
 refine Ok.ite.2 ⟨fun hx => ?_, fun hx => ?_⟩
 ·
  refine Ok.gd.2 ⟨(by omega), Ok.bind.2 (Ok.bind.2 (Ok.some.2 (Ok.some.2 (Ok.ite.2 ⟨fun hb => ?_, fun hb => ?_⟩))))⟩
  ·
   refine Ok.some.2 (Ok.some.2 (Ok.some.2 (Ok.some.2 ?_)))
   simp only [h0, decide_true, Bool.not_true]
   refine Eq.symm (Bool.eq_false_iff.2 fun hall => ?_)
   have := List.all_eq_true.1 hall _ (Kc (show x.toNat < n.Arcs.length by omega) default)
   simp only [Gl] at this
   rw [this] at hb; cases hb
  ·
   refine Ok.gd.2 ⟨(by omega), Ok.some.2 ⟨⟨by omega, by omega, fun i hi => ?_⟩, by omega⟩⟩
   rcases Nat.lt_or_ge i x.toNat with h3 | h3
   · exact h2 i h3
   · rw [show i = x.toNat by omega]; simpa [Gl] using hb
 ·
  refine Ok.some.2 (Ok.some.2 (Ok.some.2 (Ok.some.2 ?_)))
  refine Eq.symm (List.all_eq_true.2 fun a ha => ?_)
  obtain ⟨i, hi, rfl⟩ := List.getElem_of_mem ha
  have := h2 i (by omega)
  rwa [List.getD_eq_getElem?_getD, List.getElem?_eq_getElem hi] at this
theorem s_Sum (n : Net) (h : lenok n.Arcs.length) : Z0s n = some (match Vy 4611686018427387904 n.Arcs with | some l => (4611686018427387904 - l, true) | none => (0, false)) := by
 refine ok_eq ?_
 unfold Z0s
 refine Ok.bind.2 (Z3c (fun s => 0 ≤ s.2 ∧ s.2 ≤ n.Arcs.length ∧ 0 ≤ s.1 ∧ s.1 ≤ 4611686018427387904 ∧ Vy 4611686018427387904 n.Arcs = Vy s.1 (n.Arcs.drop s.2.toNat)) (fun s => (n.Arcs.length - s.2).toNat) ⟨by simp, by simp, by simp, by simp, by simp⟩ (by unfold Xk; simp; omega) ?_)
 rintro ⟨left, x⟩ ⟨h0, h1, h2, h3, h4⟩
 simp only at h0 h1 h2 h3 h4 ⊢
 unfold Z1a Z1c
 refine Ok.ite.2 ⟨fun hx => ?_, fun hx => ?_⟩
 ·
  rw [Zah (by omega)] at h4
  refine Ok.gd.2 ⟨(by omega), Ok.ite.2 ⟨fun hb => ?_, fun hb => ?_⟩⟩
  ·
   rw [if_pos rfl]
   refine Ok.some.2 (Ok.some.2 ?_)
   rw [h4, if_pos (.inl hb)]
  ·
   by_cases hc : left < (n.Arcs.getD x.toNat default).cap
   ·
    rw [if_pos (decide_eq_true hc)]
    refine Ok.some.2 (Ok.some.2 ?_)
    rw [h4, if_pos (.inr hc)]
   ·
    rw [if_neg (by simpa using hc)]
    refine Ok.gd.2 ⟨(by omega), Ok.gd.2 ⟨(by omega), Ok.some.2 ⟨⟨by simp only; omega, by simp only; omega, by simp only; omega, by simp only; omega, ?_⟩, by simp only; omega⟩⟩⟩
    rw [h4, if_neg (by omega)]
    simp only
    rw [show (x + 1).toNat = x.toNat + 1 by omega]
 ·
  unfold Z2r
  refine Ok.some.2 (Ok.gd.2 ⟨(by omega), Ok.some.2 ?_⟩)
  rw [h4, List.drop_eq_nil_of_le (by omega)]
  rfl
theorem Z9d (n : Net) (h : lenok n.Arcs.length) : Rk n = some (Uw n.N n.S n.T n.Arcs) := by
 unfold Rk Z37 Z29 Z24 Z3u Z1t Z3s Z2p Z2b
 rw [Z3n, Z3n, s_of4 n h, s_of5 n h, s_Sum n h]
 unfold Uw
 simp only [Option.bind_some]
 by_cases h1 : 2 ≤ n.N ∧ n.N ≤ 4096
 ·
  rw [if_pos h1.1, if_neg (not_not_intro h1)]
  simp only [Option.bind_some, decide_eq_true h1.2, Bool.not_true, Bool.false_eq_true, if_false]
  by_cases h2 : (n.Arcs.length : Int) ≤ 16384
  ·
   rw [if_neg (by simp [h2]), if_neg (not_not_intro h2)]
   by_cases h3 : Uj n.N n.S = true ∧ Uj n.N n.T = true ∧ n.S ≠ n.T
   ·
    rw [if_pos h3.1, if_pos h3.2.1, if_neg (not_not_intro h3)]
    simp only [Option.bind_some, decide_eq_true h3.2.2, Bool.not_true, Bool.false_eq_true, if_false]
    cases h4 : n.Arcs.all (Ux n.N)
    · simp
    ·
     cases h5 : n.Arcs.all Gl
     · simp
     · cases h6 : Vy 4611686018427387904 n.Arcs <;> simp
   ·
    rw [if_pos h3]
    by_cases a1 : Uj n.N n.S = true
    ·
     by_cases a2 : Uj n.N n.T = true
     ·
      have a3 : ¬ n.S ≠ n.T := fun e => h3 ⟨a1, a2, e⟩
      simp [a1, a2, a3]
     · simp [a1, a2]
    · simp [a1]
  · rw [if_pos (by simp [h2]), if_pos h2]
 ·
  rw [if_pos h1]
  by_cases a1 : 2 ≤ n.N
  ·
   have a2 : ¬ n.N ≤ 4096 := fun e => h1 ⟨a1, e⟩
   simp [a1, a2]
  · simp [a1]
end Go.Acq
namespace Go.Acq
open Go
structure NetIn (n : Net) : Prop where
  nN : i64ok n.N
  nS : i64ok n.S
  nT : i64ok n.T
  arcs : ∀ a, a ∈ n.Arcs → i64ok a.fr ∧ i64ok a.to ∧ i64ok a.cap
  len : n.Arcs.length ≤ 9223372036854775807
structure Made (n : Net) (v a : Int) : Prop where
  check : Uw n.N n.S n.T n.Arcs = 0
  rows : SomeAt n.N.toNat n.Arcs
  verts : n.N ≤ v
  arcs : (n.Arcs.length : Int) ≤ a
  ends : 2 ≤ n.N ∧ 0 ≤ n.S ∧ n.S < n.N ∧ 0 ≤ n.T ∧ n.T < n.N ∧ n.S ≠ n.T
theorem Made.caps {n : Net} {m : Nat} (h : SomeAt m n.Arcs) : ∀ i, i < n.Arcs.length → 0 ≤ (n.Arcs.getD i default).cap ∧ (n.Arcs.getD i default).cap < 1125899906842624 := fun _ hi => (h _ (Kc hi default)).2
theorem s_Some {n : Net} {v a : Int} (h : NetIn n) (hv0 : 2 ≤ v) (hv1 : v ≤ 4096) (ha0 : 0 ≤ a) (ha1 : a ≤ 4096) : Ok (Z13 n v a) (fun r => Made r v a) := by
 have hN := Z1i (x := n.N) (n := v - 1) (by omega)
 unfold Z13
 refine Ok.gd.2 ⟨(by omega), Ok.bind.2 (Uf (Z1g (by omega)) (Ok.gd.2 ⟨(by omega), ?_⟩))⟩
 obtain ⟨m, hm⟩ : ∃ m : Nat, 2 + Jl n.N (v - 1) = m := ⟨(2 + Jl n.N (v - 1)).toNat, by omega⟩
 rw [hm]
 have hS := Z1i (x := n.S) (n := (m : Int)) (by omega)
 have hT := Z1i (x := n.T) (n := (m : Int)) (by omega)
 refine Ok.bind.2 (Uf (Z1g (by omega)) (Ok.bind.2 (Uf (Z1g (by omega)) ?_)))
 have key : ∀ t : Int, 0 ≤ t → t < m → t ≠ Jl n.S m → Ok (Rs n a (Jl n.N (v - 1)) (Jl n.S m) t) (fun r => Made r v a) := by
  intro t t0 t1 t2
  unfold Rs
  refine Ok.gd.2 ⟨(by omega), Ok.bind.2 ?_⟩
  obtain ⟨q, hq⟩ : ∃ q : Nat, min (n.Arcs.length : Int) a = q := ⟨(min (n.Arcs.length : Int) a).toNat, by omega⟩
  obtain ⟨al, hal⟩ : ∃ l, l = n.Arcs.take (q : Int).toNat := ⟨_, rfl⟩
  have hlen : al.length = q := by rw [hal, List.length_take]; omega
  have hcap : ∀ b, b ∈ al → i64ok b.cap := fun b hb => (h.arcs b (List.mem_of_mem_take (by rw [← hal]; exact hb))).2.2
  refine Z0x (fun s => ∃ k : Nat, s.2 = k ∧ k ≤ q ∧ s.1.length = k ∧ SomeAt m s.1) (fun s => (q - s.2).toNat) ⟨0, rfl, by omega, rfl, fun b hb => by cases hb⟩ (by unfold Xk; simp only; omega) ?_
  rintro ⟨ol, x⟩ ⟨k, h1, h2, h3, h4⟩ P next exit
  simp only at h1 h2 h3 h4 next ⊢
  subst h1
  unfold Z0o
  rw [hq, ← hal]
  simp only [Int.toNat_natCast]
  refine Ok.ite.2 ⟨fun hx => ?_, fun hx => ?_⟩
  ·
   have hkl : k < al.length := by omega
   have hc := hcap _ (Kc hkl default)
   have hj : ∀ c : Int, 0 ≤ c → Ok (Z06 n a (Jl n.N (v - 1)) ol k c) P := by
    intro c hc0
    unfold Z06
    rw [hq, ← hal, hm]
    refine Ok.bind.2 (Uf (Z1g (by omega)) (Ok.bind.2 (Uf (Z1g (by omega)) (Ok.gd.2 ⟨?_, Ok.gd.2 ⟨(by omega), Ok.some.2 (next _ ⟨k + 1, by simp, by omega, by simp [h3], ?_⟩ (by simp only; omega))⟩⟩))))
    · rw [List.length_append, h3]; simp only [List.length_cons, List.length_nil]; constructor <;> omega
    · exact h4.put (Z1i (by omega)) (Z1i (by omega)) (Za7 hc0 (by omega))
   refine Ok.gd.2 ⟨(by omega), Ok.ite.2 ⟨fun hn => ?_, fun hn => ?_⟩⟩
   · exact Ok.gd.2 ⟨by constructor <;> omega, Ok.gd.2 ⟨by constructor <;> omega, hj (-((al.getD k default).cap + 1)) (by omega)⟩⟩
   · exact hj (al.getD k default).cap (by omega)
  ·
   refine Ok.some.2 (exit _ ?_)
   unfold Z2t
   refine Ok.some.2 ?_
   rw [hm]
   exact ⟨Zcd (by omega) (by omega) hS ⟨t0, t1⟩ t2 h4 (show ol.length ≤ 4096 by omega), by simpa using h4, by simp only; omega, by show (ol.length : Int) ≤ a; omega, ⟨by simp only; omega, hS.1, hS.2, t0, t1, fun e => t2 e.symm⟩⟩
 refine Ok.ite.2 ⟨fun he => ?_, fun he => ?_⟩
 ·
  refine Ok.gd.2 ⟨(by omega), Ok.gd.2 ⟨by omega, ?_⟩⟩
  obtain ⟨n1, n2, n3⟩ := next_ne hS.1 hS.2 (by omega)
  exact key _ n1 n2 n3
 · exact key _ hT.1 hT.2 (fun e => he e.symm)
end Go.Acq
namespace Go.Acq
open Go
def ex (al : List Arc) (f : List Int) (v : Int) : Nat → Int
  | 0 => 0
  | k + 1 => ex al f v k - (if (al.getD k default).fr = v then f.getD k 0 else 0) + (if (al.getD k default).to = v then f.getD k 0 else 0)
def part (al : List Arc) (f : List Int) (j : Int) : Nat → Int
  | 0 => 0
  | k + 1 => part al f j k - (if (al.getD k default).fr < j then f.getD k 0 else 0) + (if (al.getD k default).to < j then f.getD k 0 else 0)
def FwithinP (n : Net) (f : List Int) : Prop := Uw n.N n.S n.T n.Arcs = 0 ∧ f.length = n.Arcs.length ∧ ∀ i, i < n.Arcs.length → 0 ≤ f.getD i 0 ∧ f.getD i 0 ≤ (n.Arcs.getD i default).cap
end Go.Acq
namespace Go.Acq
open Go Go.Lib
theorem bs_getD (x : Str) (i : Nat) : (bs x).get! i = x.getD i 0 := by
 by_cases h : i < x.length
 · rw [Z6w x i h, List.getD_eq_getElem?_getD, List.getElem?_eq_getElem h]; rfl
 ·
  rw [List.getD_eq_getElem?_getD, List.getElem?_eq_none (by omega)]
  simp [ByteArray.get!, bs, h]; rfl
theorem Z7c (x : Str) (i : Nat) (h : i < x.length) (ha : 128 ≤ (x.getD i 0).toNat) : ∃ r k, Utf8.decode (bs x) i = (r, k) ∧ 128 ≤ r ∧ 1 ≤ k ∧ ∀ j, j < k → i + j < x.length ∧ 128 ≤ (x.getD (i + j) 0).toNat := by
 have h0 : ∀ j, j < 1 → i + j < x.length ∧ 128 ≤ (x.getD (i + j) 0).toNat := fun j hj => by
  obtain rfl : j = 0 := by omega
  exact ⟨h, ha⟩
 have hc : ∀ j, (decide (i + j < (bs x).size) && ((x.getD (i + j) 0).toNat / 64 == 2)) = true → i + j < x.length ∧ 128 ≤ (x.getD (i + j) 0).toNat := fun j hj => by
  simp only [Bool.and_eq_true, decide_eq_true_eq, beq_iff_eq, Xi] at hj
  omega
 unfold Utf8.decode
 simp only [bs_getD, Nat.add_zero]
 rw [if_neg (by omega)]
 split
 ·
  rename_i h1
  rw [Bool.and_eq_true] at h1
  split
  ·
   refine ⟨_, _, rfl, by assumption, by omega, fun j hj => ?_⟩
   rcases (by omega : j = 0 ∨ j = 1) with rfl | rfl
   · exact h0 0 (by omega)
   · exact hc 1 h1.2
  · exact ⟨_, _, rfl, by decide, by omega, h0⟩
 ·
  split
  ·
   rename_i h1
   rw [Bool.and_eq_true, Bool.and_eq_true] at h1
   split
   ·
    rename_i h2
    rw [Bool.and_eq_true, decide_eq_true_eq] at h2
    refine ⟨_, _, rfl, by omega, by omega, fun j hj => ?_⟩
    rcases (by omega : j = 0 ∨ j = 1 ∨ j = 2) with rfl | rfl | rfl
    · exact h0 0 (by omega)
    · exact hc 1 h1.1.2
    · exact hc 2 h1.2
   · exact ⟨_, _, rfl, by decide, by omega, h0⟩
  ·
   split
   ·
    rename_i h1
    rw [Bool.and_eq_true, Bool.and_eq_true, Bool.and_eq_true] at h1
    split
    ·
     rename_i h2
     rw [Bool.and_eq_true, decide_eq_true_eq] at h2
     refine ⟨_, _, rfl, by omega, by omega, fun j hj => ?_⟩
     rcases (by omega : j = 0 ∨ j = 1 ∨ j = 2 ∨ j = 3) with rfl | rfl | rfl | rfl
     · exact h0 0 (by omega)
     · exact hc 1 h1.1.1.2
     · exact hc 2 h1.1.2
     · exact hc 3 h1.2
    · exact ⟨_, _, rfl, by decide, by omega, h0⟩
   · exact ⟨_, _, rfl, by decide, by omega, h0⟩
theorem Z7z {l : Str} {i : Nat} {c : UInt8} (h : l[i]? = some c) : l.getD i 0 = c := by rw [List.getD_eq_getElem?_getD, h]; rfl
theorem Za4 {p : Nat → Bool} (hp : ∀ r, 128 ≤ r → p r = false) (l : Str) (Zc : Nat) (h : Zc < l.length) :
    (∃ c, l[Zc]? = some c ∧ p c.toNat = true ∧ Utf8.decode (bs l) Zc = (c.toNat, 1)) ∨ (∃ r k, Utf8.decode (bs l) Zc = (r, k) ∧ p r = false ∧ 1 ≤ k ∧ Zc + k ≤ l.length ∧ ∀ b ∈ (l.drop Zc).take k, p b.toNat = false) := by
  obtain ⟨c, hc⟩ := Z3l h
  by_cases ha : c.toNat < 128
  · have hd := Z3d l Zc c hc ha
    cases hq : p c.toNat with
    | true => exact .inl ⟨c, hc, hq, hd⟩
    | false =>
      refine .inr ⟨_, _, hd, hq, by omega, by omega, fun b hb => ?_⟩
      rw [Z1l hc] at hb
      simp only [List.take_succ_cons, List.take_zero, List.mem_singleton] at hb
      rw [hb]; exact hq
  · obtain ⟨r, k, hd, hr, hk, hj⟩ := Z7c l Zc h (by rw [Z7z hc]; omega)
    have hle : Zc + k ≤ l.length := by have := (hj (k - 1) (by omega)).1; omega
    refine .inr ⟨r, k, hd, hp r hr, hk, hle, fun b hb => ?_⟩
    obtain ⟨j, hjl, rfl⟩ := List.mem_iff_getElem.1 hb
    rw [List.length_take, List.length_drop] at hjl
    have := (hj j (by omega)).2
    rw [List.getElem_take, List.getElem_drop]
    rw [List.getD_eq_getElem?_getD, List.getElem?_eq_getElem (by omega)] at this
    exact hp _ this
theorem Z0e {p : Nat → Bool} {l : Str} : ∀ (seg cur : Str), (∀ b ∈ seg, p b.toNat = false) → Xa p (seg ++ l) cur = Xa p l (cur ++ seg)
 | [], cur, _ => by rw [List.nil_append, List.append_nil]
 | b :: seg, cur, h => by
  rw [List.cons_append, Z5r (by rw [h b (.head _)]; decide), Z0e seg _ (fun x hx => h x (.tail _ hx)), List.append_assoc]; rfl
theorem Zav {p : Nat → Bool} (hp : ∀ r, 128 ≤ r → p r = false) (l : Str) : ∀ (f Zc : Nat) (st : Option Nat) (acc : List (Nat × Nat)), l.length ≤ Zc + f → Zc ≤ l.length → opn st Zc →
    (closeSpans (bs l) (spansFromP p (bs l) f Zc st acc)).map (fun x => (l.take x.2).drop x.1) = acc.map (fun x => (l.take x.2).drop x.1) ++ Xa p (l.drop Zc) (Wb l st Zc) := by
  have hne : ∀ a Zc, a < Zc → Zc ≤ l.length → Wb l (some a) Zc ≠ [] := fun a Zc h1 h2 e => by
    have := congrArg List.length e
    unfold Wb at this
    simp only at this
    rw [List.length_drop, List.length_take] at this
    simp only [List.length_nil] at this
    omega
  have fin : ∀ (f Zc : Nat) (st : Option Nat) (acc : List (Nat × Nat)), Zc = l.length → opn st Zc →
      (closeSpans (bs l) (spansFromP p (bs l) f Zc st acc)).map (fun x => (l.take x.2).drop x.1) = acc.map (fun x => (l.take x.2).drop x.1) ++ Xa p (l.drop Zc) (Wb l st Zc) := by
    intro f Zc st acc hp ho
    subst hp
    rw [spansFromP_end _ _ _ _ _ _ (by rw [Xi]; omega), List.drop_eq_nil_of_le (Nat.le_refl _)]
    cases st with
    | none => simp [closeSpans, Wb, Xa]
    | some a =>
      rw [Z57 (hne a _ (ho a rfl) (Nat.le_refl _))]
      simp only [closeSpans, Wb, Xi, List.map_append, List.map_cons, List.map_nil]
  intro f
  induction f with
  | zero => intro Zc st acc hf hp ho; exact fin 0 Zc st acc (by omega) ho
  | succ f ih =>
    intro Zc st acc hf hpl ho
    by_cases hlt : Zc < l.length
    · have hsz : Zc < (bs l).size := by rw [Xi]; exact hlt
      rcases Za4 hp l Zc hlt with ⟨c, hc, hq, hd⟩ | ⟨r, k, hd, hq, hk, hle, hseg⟩
      · rw [Z1l hc]
        cases st with
        | none =>
          have e : spansFromP p (bs l) (f + 1) Zc none acc = spansFromP p (bs l) f (Zc + 1) none acc := by simp only [spansFromP, if_pos hsz, hd, if_pos hq]
          rw [e, ih (Zc + 1) none acc (by omega) (by omega) (fun a e => by cases e)]
          rw [show Wb l none Zc = [] from rfl, Z7h hq]; rfl
        | some a =>
          have e : spansFromP p (bs l) (f + 1) Zc (some a) acc = spansFromP p (bs l) f (Zc + 1) none (acc ++ [(a, Zc)]) := by simp only [spansFromP, if_pos hsz, hd, if_pos hq]
          rw [e, ih (Zc + 1) none (acc ++ [(a, Zc)]) (by omega) (by omega) (fun a e => by cases e), Z42 hq (hne a Zc (ho a rfl) (by omega))]
          simp only [Wb, List.map_append, List.map_cons, List.map_nil, List.append_assoc, List.cons_append, List.nil_append]
      · have hq' : ¬ p r = true := by rw [hq]; decide
        have hs : l.drop Zc = (l.drop Zc).take k ++ l.drop (Zc + k) := by rw [← List.drop_drop, List.take_append_drop]
        cases st with
        | none =>
          have e : spansFromP p (bs l) (f + 1) Zc none acc = spansFromP p (bs l) f (Zc + k) (some Zc) acc := by simp only [spansFromP, if_pos hsz, hd, if_neg hq']
          rw [e, ih (Zc + k) (some Zc) acc (by omega) hle (fun a e => by cases e; omega), hs, Z0e _ _ hseg]
          simp only [Wb, List.nil_append]
          rw [show (l.take (Zc + k)).drop Zc = (l.drop Zc).take k by rw [List.drop_take]; congr 1; omega]
        | some a =>
          have e : spansFromP p (bs l) (f + 1) Zc (some a) acc = spansFromP p (bs l) f (Zc + k) (some a) acc := by simp only [spansFromP, if_pos hsz, hd, if_neg hq']
          rw [e, ih (Zc + k) (some a) acc (by omega) hle (fun b e => by cases e; have := ho a rfl; omega), hs, Z0e _ _ hseg]
          have h1 := ho a rfl
          have : Wb l (some a) (Zc + k) = Wb l (some a) Zc ++ (l.drop Zc).take k := by
            unfold Wb
            simp only
            rw [show l.take (Zc + k) = l.take Zc ++ (l.drop Zc).take k from List.take_add, List.drop_append_of_le_length (by rw [List.length_take]; omega)]
          rw [this]
    · exact fin (f + 1) Zc st acc (by omega) ho
theorem Zd0 {p : Nat → Bool} (hp : ∀ r, 128 ≤ r → p r = false) (l : Str) : Z17 p l = Xa p l [] := by
 have h0 := Z8a p l
 have h1 := Zav hp l l.length 0 none [] (by omega) (by omega) (fun a e => by cases e)
 simp only [List.map_nil, List.nil_append, List.drop_zero] at h1
 have h2 : Wb l none 0 = [] := rfl
 rw [h2] at h1
 have h3 : goFieldsP p (bs l) = (Xa p l []).map bs := by
  rw [← h1]
  unfold goFieldsP spansOfP
  rw [Xi, List.map_map]
  apply List.map_congr_left
  intro x _
  exact Z7k l x.1 x.2
 rw [h3] at h0
 have hinj : Function.Injective bs := fun a b h => by have := congrArg (fun z => z.data.toList) h; simpa [bs] using this
 exact ((List.map_inj_right (fun a b h => hinj h)).1 h0).symm
theorem Z2s {p : Nat → Bool} : ∀ (l cur : Str), ∀ w ∈ Xa p l cur, w ≠ []
 | [], cur, w, h => by
  unfold Xa at h
  split at h
  · cases h
  · rcases List.mem_singleton.1 h with rfl; assumption
 | b :: l, cur, w, h => by
  unfold Xa at h
  split at h
  ·
   split at h
   · exact Z2s l [] w h
   ·
    rcases List.mem_cons.1 h with rfl | h
    · assumption
    · exact Z2s l [] w h
  · exact Z2s l _ w h
theorem anyT_any {p : Nat → Bool} (hp : ∀ r, 128 ≤ r → p r = true) (l : Str) : anyT p l = l.any (fun b => p b.toNat) := by
 rw [← Z8u]
 have key : ∀ (f Zc : Nat), l.length ≤ Zc + f → decide (0 ≤ idxFuncFrom p true (bs l) f Zc) = (l.drop Zc).any (fun b => p b.toNat) := by
  intro f
  induction f with
  | zero => intro Zc hf; rw [List.drop_eq_nil_of_le (by omega)]; rfl
  | succ f ih =>
   intro Zc hf
   by_cases hlt : Zc < l.length
   ·
    obtain ⟨c, hc⟩ := Z3l hlt
    rw [idxFuncFrom, if_pos (by rw [Xi]; exact hlt), Z1l hc, List.any_cons]
    by_cases ha : c.toNat < 128
    ·
     rw [Z3d l Zc c hc ha]
     by_cases hq : p c.toNat = true
     · rw [if_pos hq, hq, Bool.true_or]; exact decide_eq_true (by omega)
     ·
      rw [if_neg hq, Bool.eq_false_iff.2 hq, Bool.false_or]
      exact ih (Zc + 1) (by omega)
    ·
     obtain ⟨r, k, hd, hr, hk, hj⟩ := Z7c l Zc hlt (by rw [Z7z hc]; omega)
     rw [hd, if_pos (hp r hr), hp _ (by omega), Bool.true_or]
     exact decide_eq_true (by omega)
   · rw [idxFuncFrom_end _ _ _ _ _ (by rw [Xi]; exact hlt), List.drop_eq_nil_of_le (by omega)]; rfl
 unfold idxFunc
 rw [Xi, key l.length 0 (by omega), List.drop_zero]
def Gm (b : UInt8) : Bool := decide (48 ≤ b.toNat ∧ b.toNat ≤ 57)
def Uc (acc : Nat) (l : Str) : Nat := l.foldl (fun a b => a * 10 + (b.toNat - 48)) acc
theorem valD_nil (acc : Nat) : Uc acc [] = acc := rfl
theorem Zed (acc : Nat) (b : UInt8) (l : Str) : Uc acc (b :: l) = Uc (acc * 10 + (b.toNat - 48)) l := by
 unfold Uc; rw [List.foldl_cons]
theorem Ze6 (l : Str) : ∀ (acc : Nat), l.all Gm = true → (acc + 1) * 10 ^ l.length ≤ 18446744073709551616 → parseUintM 18446744073709551615 acc l = .ok (Uc acc l) := by
 induction l with
 | nil => intro acc _ _; rfl
 | cons b l ih =>
  intro acc h hb
  rw [List.all_cons, Bool.and_eq_true] at h
  have h1 : 48 ≤ b.toNat ∧ b.toNat ≤ 57 := of_decide_eq_true h.1
  rw [List.length_cons, Nat.pow_succ] at hb
  have hp : 1 ≤ 10 ^ l.length := Nat.one_le_pow _ _ (by omega)
  have h2 : (acc * 10 + (b.toNat - 48) + 1) * 10 ^ l.length ≤ 18446744073709551616 := by
   refine Nat.le_trans ?_ hb
   rw [Nat.mul_comm (10 ^ l.length) 10, ← Nat.mul_assoc]
   exact Nat.mul_le_mul_right _ (by omega)
  have h3 : acc * 10 + (b.toNat - 48) + 1 ≤ 18446744073709551616 := Nat.le_trans (by have := Nat.mul_le_mul_left (acc * 10 + (b.toNat - 48) + 1) hp; omega) h2
  rw [parseUintM, if_pos h1, if_neg (by omega), if_neg (by omega)]
  exact ih _ h.2 h2
def Wi (s : Str) : Int × Bool := if s.all Gm = true ∧ s ≠ [] ∧ s.length ≤ 19 ∧ Uc 0 s < 9223372036854775808 then ((Uc 0 s : Int), true) else (0, false)
theorem Zd6 {s : Str} (h : s.all Gm = true) (h0 : s ≠ []) (h1 : s.length ≤ 19) : Z0w s = if Uc 0 s < 9223372036854775808 then ((Uc 0 s : Int), true) else (9223372036854775807, false) := by
 obtain ⟨c, r, rfl⟩ := List.exists_cons_of_ne_nil h0
 have hc : 48 ≤ c.toNat ∧ c.toNat ≤ 57 := by rw [List.all_cons, Bool.and_eq_true] at h; exact of_decide_eq_true h.1
 have hp : parseUintB 64 (c :: r) = .ok (Uc 0 (c :: r)) := by
  unfold parseUintB
  rw [if_neg h0]
  refine Ze6 _ 0 h ?_
  have : (10 : Nat) ^ (c :: r).length ≤ 10 ^ 19 := Nat.pow_le_pow_right (by omega) h1
  omega
 unfold Z0w
 rw [parseIntB_plain 64 c r (by omega) (by omega), hp]
 simp only [signlessC]
 by_cases hv : Uc 0 (c :: r) < 9223372036854775808
 · rw [if_pos hv, if_neg (by omega)]
 ·
  rw [if_neg hv, if_pos (by omega)]
  simp only
  rw [intSat_other 64 c r (by omega)]; rfl
theorem Z4a : ∀ (f u : Nat), (Wg f u).all Gm = true
 | 0, u => rfl
 | f + 1, u => by
  have key : ∀ v, v < 10 → Gm (UInt8.ofNat (48 + v)) = true := fun v hv => by
   refine decide_eq_true ?_
   rw [UInt8.toNat_ofNat']
   omega
  rw [Wg]
  split
  · rw [List.all_cons, key u (by omega)]; rfl
  · rw [List.all_append, Z4a f, List.all_cons, key _ (by omega)]; rfl
theorem valD_app (l : Str) (acc : Nat) (b : UInt8) : Uc acc (l ++ [b]) = Uc acc l * 10 + (b.toNat - 48) := by
 unfold Uc; rw [List.foldl_append]; rfl
theorem Z6a : ∀ (f u : Nat), u < 10 ^ f → Uc 0 (Wg f u) = u
 | 0, u, h => by simp at h; subst h; rfl
 | f + 1, u, h => by
  have key : ∀ v, v < 10 → (UInt8.ofNat (48 + v)).toNat - 48 = v := fun v hv => by rw [UInt8.toNat_ofNat']; omega
  rw [Wg]
  split
  · rw [Zed, valD_nil, key u (by omega)]; omega
  · rw [valD_app, Z6a f (u / 10) (by rw [Nat.pow_succ] at h; omega), key _ (by omega)]; omega
theorem Z4y : ∀ (f u : Nat), u < 10 ^ f → 1 ≤ f → 1 ≤ (Wg f u).length ∧ (Wg f u).length ≤ f
 | 0, u, _, h => by omega
 | f + 1, u, h, _ => by
  rw [Wg]
  split
  · simp
  ·
   rename_i hu
   rw [List.length_append, List.length_singleton]
   have h2 : u / 10 < 10 ^ f := by rw [Nat.pow_succ] at h; omega
   cases f with
   | zero => simp at h; omega
   | succ f => have := Z4y (f + 1) (u / 10) h2 (by omega); omega
theorem Z6b : ∀ (f u : Nat), u < 10 ^ (f + 1) → Wg (f + 2) u = Wg (f + 1) u
 | 0, u, h => by
  have h2 : u < 10 := by simpa using h
  rw [Wg, if_pos h2, Wg, if_pos h2]
 | f + 1, u, h => by
  by_cases hu : u < 10
  · rw [Wg, if_pos hu, Wg, if_pos hu]
  ·
   rw [Wg, if_neg hu, Z6b f (u / 10) (by rw [Nat.pow_succ] at h; omega)]
   conv => rhs; rw [Wg, if_neg hu]
theorem Zac {n : Int} (h0 : 0 ≤ n) (h1 : n ≤ 9223372036854775807) : Yy n = Wg 19 n.toNat ∧ (Yy n).all Gm = true ∧ Yy n ≠ [] ∧ (Yy n).length ≤ 19 ∧ Uc 0 (Yy n) = n.toNat := by
 have e19 : (10 : Nat) ^ 19 = 10000000000000000000 := by decide
 have e : Yy n = Wg 19 n.toNat := by
  unfold Yy
  rw [if_neg (by omega)]
  exact Z6b 18 n.toNat (by rw [show 18 + 1 = 19 from rfl, e19]; omega)
 have hl := Z4y 19 n.toNat (by rw [e19]; omega) (by omega)
 refine ⟨e, by rw [e]; exact Z4a _ _, fun h => ?_, by rw [e]; exact hl.2, by rw [e]; exact Z6a 19 _ (by rw [e19]; omega)⟩
 rw [e] at h
 rw [h] at hl
 simp at hl
theorem Gz {n : Int} (h0 : 0 ≤ n) (h1 : n ≤ 9223372036854775807) : Wi (Yy n) = (n, true) := by
 obtain ⟨-, h2, h3, h4, h5⟩ := Zac h0 h1
 unfold Wi
 rw [if_pos ⟨h2, h3, h4, by omega⟩, h5, Int.toNat_of_nonneg h0]
end Go.Acq
namespace Go.Acq
open Go
def Kv {S V X : Type} (yy : S → V → Option (S ⊕ X)) : S → List V → Option (S ⊕ X)
  | s, [] => some (.inl s)
  | s, v :: vs => Option.bind (yy s v) fun t => match t with | .inl s' => Kv yy s' vs | .inr x => some (.inr x)
theorem Z6r {S V X : Type} {yy : S → V → Option (S ⊕ X)} {s s' : S} {v : V} {vs : List V} (h : yy s v = some (.inl s')) : Kv yy s (v :: vs) = Kv yy s' vs := by
 rw [Kv, h]; rfl
theorem Zb8 {S V X : Type} {yy : S → V → Option (S ⊕ X)} {s : S} {x : X} {v : V} {vs : List V} (h : yy s v = some (.inr x)) : Kv yy s (v :: vs) = some (.inr x) := by
 rw [Kv, h]; rfl
def Yw : Str → Str → List Str
  | [], cur => [cur]
  | b :: l, cur => if b = 10 then cur :: Yw l [] else Yw l (cur ++ [b])
theorem Z5z : ∀ (l cur : Str), ∀ x ∈ Yw l cur, x.length ≤ cur.length + l.length
 | [], cur, x, h => by rw [Yw] at h; rw [List.mem_singleton.1 h]; exact Nat.le_add_right _ _
 | b :: l, cur, x, h => by
  rw [Yw] at h
  split at h
  ·
   rcases List.mem_cons.1 h with rfl | h
   · exact Nat.le_add_right _ _
   · have := Z5z l [] x h; simp only [List.length_nil, List.length_cons] at this ⊢; omega
  · have := Z5z l _ x h; rw [List.length_append, List.length_singleton] at this; rw [List.length_cons]; omega
theorem Z5y : ∀ (seg rest cur : Str), (∀ b ∈ seg, b ≠ 10) → Yw (seg ++ 10 :: rest) cur = (cur ++ seg) :: Yw rest []
 | [], rest, cur, _ => by rw [List.nil_append, Yw, if_pos rfl, List.append_nil]
 | b :: seg, rest, cur, h => by
  rw [List.cons_append, Yw, if_neg (h b (.head _)), Z5y seg rest _ (fun x hx => h x (.tail _ hx)), List.append_assoc]; rfl
theorem Z6f : ∀ (seg cur : Str), (∀ b ∈ seg, b ≠ 10) → Yw seg cur = [cur ++ seg]
 | [], cur, _ => by rw [Yw, List.append_nil]
 | b :: seg, cur, h => by
  rw [Yw, if_neg (h b (.head _)), Z6f seg _ (fun x hx => h x (.tail _ hx)), List.append_assoc]; rfl
theorem Z8z : ∀ (t cur : Str), (Lib.indexByte t 10 < 0 ∧ Yw t cur = [cur ++ t]) ∨ (∃ r : Nat, Lib.indexByte t 10 = r ∧ r < t.length ∧ Yw t cur = (cur ++ t.take r) :: Yw (t.drop (r + 1)) [])
 | [], cur => .inl ⟨by decide, by rw [Yw, List.append_nil]⟩
 | b :: l, cur => by
  by_cases hb : b = 10
  ·
   subst hb
   refine .inr ⟨0, rfl, by simp, ?_⟩
   rw [Yw, if_pos rfl]; simp
  ·
   have h1 : (b == (10 : UInt8)) = false := by simpa using hb
   rcases Z8z l (cur ++ [b]) with ⟨h2, h3⟩ | ⟨r, h2, h3, h4⟩
   ·
    refine .inl ⟨?_, by rw [Yw, if_neg hb, h3, List.append_assoc]; rfl⟩
    have h5 : Lib.indexByte l 10 = -1 := by have := Lib.indexByte_ge l 10; omega
    rw [Lib.indexByte, h1, h5]; decide
   ·
    refine .inr ⟨r + 1, ?_, by rw [List.length_cons]; omega, ?_⟩
    ·
     rw [Lib.indexByte, h1, h2]
     have : ((r : Int) == -1) = false := beq_eq_false_iff_ne.2 (by omega)
     rw [this]; simp
    · rw [Yw, if_neg hb, h4, List.append_assoc]; simp
theorem ub_take (t : Str) (k : Nat) : (ub t).take k = ub (t.take k) := by unfold ub; rw [List.map_take]
theorem ub_drop (t : Str) (k : Nat) : (ub t).drop k = ub (t.drop k) := by unfold ub; rw [List.map_drop]
theorem Z20 (a b : Str) : ub (a ++ b) = ub a ++ ub b := by unfold ub; rw [List.map_append]
theorem Z96 (t : Str) : Z1k (ub t) [10] = some (Lib.indexByte t 10) := by
 unfold Z1k Z1z
 rw [if_neg (by simp), if_pos (by simp), Xj (by constructor <;> decide)]
 simp only [Option.bind_some]
 congr 1
 unfold idxT
 rw [bu_ub]; rfl
theorem Ze7 {S X : Type} (yy : S → List Int → Option (S ⊕ X)) {t : Str} {s : S} (h1 : Lib.indexByte t 10 < 0) : Gp yy [10] 0 (ub t) (.inl s) = some (.inr (.inl (ub t, .inl s))) := by
 unfold Gp
 rw [Z96, Option.bind_some, if_pos h1]
theorem Z9x {S X : Type} (yy : S → List Int → Option (S ⊕ X)) {t : Str} {s : S} {r : Nat} (hl : t.length ≤ 1152921504606846976) (h1 : Lib.indexByte t 10 = r) (h2 : r < t.length) :
    Gp yy [10] 0 (ub t) (.inl s) = Option.bind (yy s (ub (t.take r))) fun x => match x with | .inl s' => some (.inl (ub (t.drop (r + 1)), .inl s')) | .inr x => some (.inr (.inr (.inr x))) := by
  unfold Gp
  rw [Z96, Option.bind_some, if_neg (by omega), h1]
  have ht : ((r : Int) + 0).toNat = r := by omega
  have hd : ((r : Int) + (([10] : List Int).length : Int)).toNat = r + 1 := by simp only [List.length_singleton]; omega
  have hlen := Ki t
  rw [Xj (by omega), Xj (by rw [hlen]; omega), Xj (by omega), ht, hd, List.take_of_length_le (by omega), ub_take, ub_drop]
  simp only [Rl]
  cases hy : yy s (ub (t.take r)) with
  | none => rfl
  | some x =>
    cases x with
    | inr x => rfl
    | inl s' =>
      rw [Option.bind_some, if_neg (by simp), Xj (by simp only [List.length_singleton]; omega), Xj (by rw [hlen]; simp only [List.length_singleton]; omega)]
      rfl
theorem s_splitN {S X : Type} (yy : S → List Int → Option (S ⊕ X)) : ∀ (fuel : Nat) (t : Str) (s : S), t.length ≤ 1152921504606846976 → t.length < fuel →
    (Option.bind (Xn (fun s : List Int × (S ⊕ X) => Gp yy [10] 0 s.1 s.2) fuel (ub t, .inl s)) fun o => match o with | .inl (p2_0_0, p2_0_1) => (Z0b yy p2_0_0 p2_0_1) | .inr p2_1_0 => (some p2_1_0)) = Kv (fun s v => yy s (ub v)) s (Yw t []) := by
  intro fuel
  induction fuel with
  | zero => intro t s _ h; omega
  | succ fuel ih =>
    intro t s hl hf
    rw [Xn]
    rcases Z8z t [] with ⟨h1, h2⟩ | ⟨r, h1, h2, h3⟩
    · rw [Ze7 yy h1, h2]
      simp only [Option.bind_some, List.nil_append, Kv]
      unfold Z0b
      rw [Xj (by omega), List.take_of_length_le (by omega)]
      simp only [Rl]
      cases yy s (ub t) with
      | none => rfl
      | some x => cases x <;> rfl
    · rw [Z9x yy hl h1 h2, h3]
      rw [Kv, List.nil_append]
      cases hy : yy s (ub (t.take r)) with
      | none => rfl
      | some x =>
        cases x with
        | inr x => rfl
        | inl s' => exact ih (t.drop (r + 1)) s' (by rw [List.length_drop]; omega) (by rw [List.length_drop]; omega)
theorem s_split {S X : Type} (yy : S → List Int → Option (S ⊕ X)) (t : Str) (s : S) (hl : t.length ≤ 1152921504606846976) : Z1r yy [10] (ub t) 0 (.inl s) = Kv (fun s v => yy s (ub v)) s (Yw t []) := by
 unfold Z1r Z40
 rw [if_neg (by simp)]
 have hF : t.length < Xk := Nat.lt_of_le_of_lt hl (by unfold Xk; decide)
 exact s_splitN yy Xk t s hl hF
theorem Js (x : Nat) : Vj x = decide (x = 9 ∨ x = 13 ∨ x = 32) := by
 unfold Vj Z00
 by_cases h1 : x = 9
 · subst h1; rfl
 ·
  by_cases h2 : x = 13
  · subst h2; rfl
  ·
   rw [if_neg (by omega), if_neg (by omega)]
   by_cases h3 : x = 32
   · subst h3; rfl
   · rw [decide_eq_false (by omega : ¬((x : Int) = 32)), decide_eq_false (by omega : ¬(x = 9 ∨ x = 13 ∨ x = 32))]; rfl
theorem blank_hi : ∀ r, 128 ≤ r → Vj r = false := fun r h => by rw [Js]; exact decide_eq_false (by omega)
def Xl (l : Str) : List Str := Xa Vj l []
theorem s_Words (l : Str) (h : l.length ≤ 4294967296) : Z0d (ub l) = some (Xl l) := by
 unfold Z0d Z3g
 rw [bu_ub, Xj h, Zd0 blank_hi]; rfl
def Us (l : Str) : Option (List Str) := if Xl l = [] then none else if ((Xl l).getD 0 []).getD 0 0 = 99 then none else some (Xl l)
def Vn (t : Str) : List (List Str) := (Yw t []).filterMap Us
theorem Z7w (seg rest : Str) (h : ∀ b ∈ seg, b ≠ 10) : Vn (seg ++ 10 :: rest) = (Us seg).toList ++ Vn rest := by
 unfold Vn
 rw [Z5y seg rest [] h, List.nil_append, List.filterMap_cons]
 cases Us seg <;> rfl
def okW (w : Str) : Prop := w ≠ [] ∧ ∀ b ∈ w, Vj b.toNat = false
theorem Z8n {w : Str} (h : okW w) : Xa Vj w [] = [w] := by
 have := Z0e (p := Vj) (l := []) w [] h.2
 rw [List.append_nil, List.nil_append] at this
 rw [this, Z57 h.1]
theorem Z7x {w rest : Str} (h : okW w) {b : UInt8} (hb : Vj b.toNat = true) : Xa Vj (w ++ b :: rest) [] = w :: Xa Vj rest [] := by
 rw [Z0e w [] h.2, List.nil_append, Z42 hb h.1]
end Go.Acq
namespace Go.Acq
open Go
theorem Z6l (x : Nat) : Ns x = decide (x < 48 ∨ 57 < x) := by
 unfold Ns Ls
 by_cases h1 : x < 48
 · rw [if_pos (by omega), decide_eq_true (by omega : x < 48 ∨ 57 < x)]; rfl
 ·
  rw [if_neg (by omega)]
  by_cases h2 : 57 < x
  · rw [decide_eq_true (by omega : (57 : Int) < x), decide_eq_true (by omega : x < 48 ∨ 57 < x)]; rfl
  · rw [decide_eq_false (by omega : ¬ (57 : Int) < x), decide_eq_false (by omega : ¬(x < 48 ∨ 57 < x))]; rfl
theorem any_dig (l : Str) : l.any (fun b => Ns b.toNat) = !(l.all Gm) := by
 induction l with
 | nil => rfl
 | cons b l ih =>
  rw [List.any_cons, List.all_cons, ih, Z6l, Bool.not_and]
  congr 1
  unfold Gm
  by_cases h : 48 ≤ b.toNat ∧ b.toNat ≤ 57
  · rw [decide_eq_true h, decide_eq_false (by omega : ¬(b.toNat < 48 ∨ 57 < b.toNat))]; rfl
  · rw [decide_eq_false h, decide_eq_true (by omega : b.toNat < 48 ∨ 57 < b.toNat)]; rfl
theorem s_Number (s : Str) : Z0g s = some (Wi s) := by
 unfold Z0g
 by_cases h1 : 19 < s.length
 ·
  rw [if_pos (by omega)]
  unfold Ra Wi
  rw [if_pos rfl, if_neg (by omega)]
 ·
  rw [if_neg (by omega)]
  unfold Z33 Ra
  rw [anyT_any (fun r h => by rw [Z6l]; exact decide_eq_true (by omega)), any_dig, Option.bind_some]
  by_cases h2 : s.all Gm = true
  ·
   rw [h2, if_neg (by simp)]
   unfold Z28
   rw [Xj ⟨by omega, rfl, rfl⟩, Option.bind_some]
   by_cases h3 : s = []
   · subst h3; rfl
   ·
    rw [Zd6 h2 h3 (by omega)]
    unfold Wi
    by_cases h4 : Uc 0 s < 9223372036854775808
    · rw [if_pos h4, if_pos ⟨h2, h3, by omega, h4⟩]; rfl
    · rw [if_neg h4, if_neg (fun h => h4 h.2.2.2)]; rfl
  ·
   rw [Bool.eq_false_iff.2 h2, if_pos (by simp)]
   unfold Wi
   rw [if_neg (fun h => h2 h.1)]
theorem Zaw (s : Str) : 0 ≤ (Wi s).1 ∧ (Wi s).1 ≤ 9223372036854775807 := by
 unfold Wi
 split
 · rename_i h; simp only; omega
 · simp
def Vu (s : Str) (lo hi : Int) : Bool := (Wi s).2 && decide (lo ≤ (Wi s).1 ∧ (Wi s).1 ≤ hi)
theorem numB_iff {s : Str} {lo hi : Int} : Vu s lo hi = true ↔ (Wi s).2 = true ∧ lo ≤ (Wi s).1 ∧ (Wi s).1 ≤ hi := by
 unfold Vu; rw [Bool.and_eq_true, decide_eq_true_eq]
theorem Lr {n lo hi : Int} (h0 : 0 ≤ n) (h1 : n ≤ 9223372036854775807) (h2 : lo ≤ n) (h3 : n ≤ hi) : Vu (Yy n) lo hi = true := by
 rw [numB_iff, Gz h0 h1]; exact ⟨rfl, h2, h3⟩
end Go.Acq
namespace Go.Acq
open Go
def cleanT (w : Str) : Prop := w ≠ [] ∧ ∀ b ∈ w, 45 ≤ b.toNat ∧ b.toNat ≤ 57
theorem Z0u {n : Int} (h : i64ok n) : cleanT (Yy n) ∧ (Yy n).length ≤ 21 := by
 have e20 : (10 : Nat) ^ 20 = 100000000000000000000 := by decide
 have key : ∀ u : Nat, u ≤ 9223372036854775808 → cleanT (Wg 20 u) ∧ (Wg 20 u).length ≤ 20 := fun u hu => by
  have h1 := Z4y 20 u (by rw [e20]; omega) (by omega)
  refine ⟨⟨fun e => by rw [e] at h1; simp at h1, fun b hb => ?_⟩, h1.2⟩
  have := List.all_eq_true.1 (Z4a 20 u) b hb
  have := of_decide_eq_true this
  omega
 unfold Yy
 split
 ·
  obtain ⟨⟨h1, h2⟩, h3⟩ := key n.natAbs (by omega)
  refine ⟨⟨by simp, fun b hb => ?_⟩, by rw [List.length_cons]; omega⟩
  rcases List.mem_cons.1 hb with rfl | hb
  · decide
  · exact h2 b hb
 ·
  obtain ⟨h1, h3⟩ := key n.toNat (by omega)
  exact ⟨h1, by omega⟩
theorem cleanT.ok {w : Str} (h : cleanT w) : okW w := ⟨h.1, fun b hb => by rw [Js]; have := h.2 b hb; exact decide_eq_false (by omega)⟩
theorem cleanT.ten {w : Str} (h : cleanT w) : ∀ b ∈ w, b ≠ 10 := fun b hb e => by
 have := h.2 b hb
 subst e
 have : (10 : UInt8).toNat = 10 := rfl
 omega
theorem Z4z : Vj (32 : UInt8).toNat = true := by rw [Js]; rfl
theorem Z5g {l : Str} {w : List Str} (h : Xl l = w) (h0 : w ≠ []) (h1 : (w.getD 0 []).getD 0 0 ≠ 99) : Us l = some w := by
 unfold Us
 rw [h, if_neg h0, if_neg h1]
def arcsOK (al : List Arc) : Prop := ∀ a ∈ al, (0 ≤ a.fr ∧ a.fr ≤ 1000000) ∧ (0 ≤ a.to ∧ a.to ≤ 1000000) ∧ a.cap ≤ 9223372036854775807
theorem FwithinP.arcs {n : Net} (hk : Uw n.N n.S n.T n.Arcs = 0) (hc : ∀ a ∈ n.Arcs, a.cap ≤ 9223372036854775807) : arcsOK n.Arcs := by
 have hz := Z3v hk
 obtain ⟨m, hm⟩ : ∃ m : Nat, n.N = m := ⟨n.N.toNat, by omega⟩
 have he : Gh m n.Arcs := Z67 (by rw [← hm]; exact hz.2.2.2.1)
 intro a ha
 obtain ⟨i, hi, rfl⟩ := List.mem_iff_getElem.1 ha
 have e : n.Arcs.getD i default = n.Arcs[i] := by rw [List.getD_eq_getElem?_getD, List.getElem?_eq_getElem hi]; rfl
 have h2 : 0 ≤ (n.Arcs.getD i default).fr ∧ (n.Arcs.getD i default).fr < m := by first | exact he i hi true | exact he i hi false
 have h3 : 0 ≤ (n.Arcs.getD i default).to ∧ (n.Arcs.getD i default).to < m := by first | exact he i hi false | exact he i hi true
 rw [e] at h2 h3
 exact ⟨by omega, by omega, hc _ ha⟩
theorem FwithinP.i64 {n : Net} {f : List Int} (h : FwithinP n f) (hc : ∀ a ∈ n.Arcs, a.cap ≤ 9223372036854775807) : ∀ x ∈ f, i64ok x := by
 intro x hx
 obtain ⟨i, hi, rfl⟩ := List.mem_iff_getElem.1 hx
 have h1 := h.2.1
 have h2 := h.2.2 i (by omega)
 have h3 := hc (n.Arcs.getD i default) (Kc (by omega) default)
 rw [List.getD_eq_getElem?_getD, List.getElem?_eq_getElem hi] at h2
 simp only [Option.getD_some] at h2
 constructor <;> omega
end Go.Acq
namespace Go.Acq
open Go
def Ka : List Str → Str
  | [] => []
  | [x] => x
  | x :: y :: r => x ++ 10 :: Ka (y :: r)
def Uu (ls : List Str) : Str := ls.flatMap (· ++ [10])
theorem Z82 : ∀ ls : List Str, ls ≠ [] → Uu ls = Ka ls ++ [10]
 | [], h => absurd rfl h
 | [x], _ => by simp [Uu, Ka]
 | x :: y :: r, _ => by
  have := Z82 (y :: r) (by simp)
  unfold Uu at this ⊢
  rw [List.flatMap_cons, this, Ka]
  simp
theorem trim_cat {ls : List Str} (h : ls ≠ []) : Lib.trimSuffix (Uu ls) [10] = Ka ls := by
 rw [Z82 ls h]
 unfold Lib.trimSuffix Lib.hasSuffix
 rw [if_pos (by rw [List.isSuffixOf_iff_suffix]; exact ⟨_, rfl⟩)]
 simp
theorem Z2j : ∀ (t cur : Str), Wf false 10 t cur = Yw t cur
 | [], cur => rfl
 | b :: l, cur => by
  rw [Wf, Yw]
  split
  · rw [Z2j l []]; rfl
  · exact Z2j l _
def Lk (l : Str) : Prop := (∀ b ∈ l, b ≠ 10) ∧ l.length ≤ 100
theorem Z8w : ∀ ls : List Str, ls ≠ [] → (∀ l ∈ ls, Lk l) → Wf false 10 (Ka ls) [] = ls
 | [], h, _ => absurd rfl h
 | [x], _, h => by rw [Z2j, Ka, Z6f x [] (h x (.head _)).1]; rfl
 | x :: y :: r, _, h => by
  have := Z8w (y :: r) (by simp) (fun l hl => h l (.tail _ hl))
  rw [Z2j] at this ⊢
  rw [Ka, Z5y x _ [] (h x (.head _)).1, this]; rfl
theorem Z8f : ∀ ls : List Str, (∀ l ∈ ls, Lk l) → (Ka ls).length ≤ 101 * ls.length
 | [], _ => by simp [Ka]
 | [x], h => by have := (h x (.head _)).2; simp only [Ka, List.length_singleton]; omega
 | x :: y :: r, h => by
  have h1 := Z8f (y :: r) (fun l hl => h l (.tail _ hl))
  have h2 := (h x (.head _)).2
  rw [Ka, List.length_append, List.length_cons]
  rw [List.length_cons (a := x)]
  omega
end Go.Acq
namespace Go.Acq
open Go
theorem Z5l {α : Type} (z : α) (k w : Str) (v : α) : ∀ xs : List (Str × α), Ye z w (Ys k v xs) = if w = k then v else Ye z w xs
 | [] => by
  show (if w = k then v else Ye z w []) = _
  rfl
 | x :: xs => by
  unfold Ys
  by_cases h : k = x.1
  ·
   rw [if_pos h]
   show (if w = k then v else Ye z w xs) = if w = k then v else (if w = x.1 then x.2 else Ye z w xs)
   by_cases hw : w = k
   · rw [if_pos hw, if_pos hw]
   · rw [if_neg hw, if_neg hw, if_neg (fun e => hw (e.trans h.symm))]
  ·
   rw [if_neg h]
   show (if w = x.1 then x.2 else Ye z w (Ys k v xs)) = if w = k then v else (if w = x.1 then x.2 else Ye z w xs)
   rw [Z5l z k w v xs]
   by_cases hw : w = k
   · rw [if_pos hw, if_neg (fun e => h (hw.symm.trans e)), if_pos hw]
   · rw [if_neg hw, if_neg hw]
structure Rd where
  n : Net
  said : List (Str × Int)
  arcs : Int
def goodS (m : List (Str × Int)) : Prop := ∀ w, Ye 0 w m = 0 ∨ Ye 0 w m = 1
theorem goodS.put {m : List (Str × Int)} (h : goodS m) (k : Str) : goodS (Ys k 1 m) := fun w => by
 rw [Z5l]; split
 · exact .inr rfl
 · exact h w
def pW (r : Rd) (w : List Str) : Option Rd :=
  if w.length = 4 ∧ Ye 0 [112] r.said = 0 ∧ w.getD 1 [] = [109, 97, 120] ∧ Vu (w.getD 2 []) 0 2147483648 = true ∧ Vu (w.getD 3 []) 0 2147483648 = true
  then some ⟨Net.mk (Wi (w.getD 2 [])).1 r.n.S r.n.T r.n.Arcs, Ys [112] 1 r.said, (Wi (w.getD 3 [])).1⟩ else none
def nW (r : Rd) (w : List Str) : Option Rd :=
  if w.length = 3 ∧ Vu (w.getD 1 []) 1 r.n.N = true ∧ Ye 0 (w.getD 2 []) r.said = 0 then
    (if w.getD 2 [] = [115] then some ⟨Net.mk r.n.N ((Wi (w.getD 1 [])).1 - 1) r.n.T r.n.Arcs, Ys [115] 1 r.said, r.arcs⟩
     else if w.getD 2 [] = [116] then some ⟨Net.mk r.n.N r.n.S ((Wi (w.getD 1 [])).1 - 1) r.n.Arcs, Ys [116] 1 r.said, r.arcs⟩ else none)
  else none
def aW (r : Rd) (w : List Str) : Option Rd :=
  if w.length = 4 ∧ Vu (w.getD 1 []) 1 r.n.N = true ∧ Vu (w.getD 2 []) 1 r.n.N = true ∧ Vu (w.getD 3 []) 0 9223372036854775807 = true
  then some ⟨Net.mk r.n.N r.n.S r.n.T (r.n.Arcs ++ [Arc.mk ((Wi (w.getD 1 [])).1 - 1) ((Wi (w.getD 2 [])).1 - 1) (Wi (w.getD 3 [])).1]), r.said, r.arcs⟩ else none
def Wn (r : Rd) (w : List Str) : Option Rd :=
  if w.getD 0 [] = [112] then pW r w else if Ye 0 [112] r.said = 1 then (if w.getD 0 [] = [110] then nW r w else if w.getD 0 [] = [97] then aW r w else none) else none
theorem Rm : Xw true = some (.inl ()) := rfl
theorem Ji : Xw false = some (.inr ()) := rfl
theorem Z3b (r : DimacsReader) (a lo hi : Int) (h : inb a r.words.length) : Gw r a lo hi = some (if Vu (r.words.getD a.toNat []) lo hi = true then .inl (Wi (r.words.getD a.toNat [])).1 else .inr ()) := by
 unfold Gw
 rw [Xj h, s_Number, Option.bind_some]
 unfold Vu
 generalize Wi (r.words.getD a.toNat []) = x
 obtain ⟨x, ok⟩ := x
 simp only
 cases ok with
 | false => simp [Ji]
 | true =>
  by_cases h1 : lo ≤ x
  ·
   by_cases h2 : x ≤ hi
   · simp [h1, h2, Rm]
   · simp [h1, h2, Ji]
  · simp [h1, Ji]
theorem Z5b (r : DimacsReader) (n : Int) : Nq r n = some (if (r.words.length : Int) = n then .inl () else .inr ()) := by
 unfold Nq
 by_cases h : (r.words.length : Int) = n
 · rw [if_pos h, decide_eq_true (by omega), Rm]; rfl
 · rw [if_neg h, decide_eq_false (by omega), Ji]; rfl
theorem Z4i (r : DimacsReader) (a : Int) (h : inb a r.words.length) : Lh r a = some (if Vu (r.words.getD a.toNat []) 1 r.n.N = true then .inl ((Wi (r.words.getD a.toNat [])).1 - 1) else .inr ()) := by
 unfold Lh
 rw [Z3b r a 1 r.n.N h, Option.bind_some]
 have hr := Zaw (r.words.getD a.toNat [])
 by_cases hb : Vu (r.words.getD a.toNat []) 1 r.n.N = true
 ·
  rw [if_pos hb, if_pos hb]
  simp only
  rw [Xj ⟨by omega, by omega⟩]
 · rw [if_neg hb, if_neg hb]
theorem Z71 (r : DimacsReader) (w : Str) (h : goodS r.said) : Rg r w = some (if Ye 0 w r.said = 0 then .inl ⟨r.n, Ys w 1 r.said, r.arcs, r.words⟩ else .inr ()) := by
 unfold Rg
 rw [Z5l, if_pos rfl]
 rcases h w with e | e
 · rw [e, Xj (by decide), if_pos rfl]; rfl
 · rw [e, Xj (by decide), if_neg (by decide)]; rfl
abbrev rdOf (r : DimacsReader) : Rd := ⟨r.n, r.said, r.arcs⟩
abbrev bk (w : List Str) : Option Rd → DimacsReader ⊕ Unit
  | some r => .inl ⟨r.n, r.said, r.arcs, w⟩
  | none => .inr ()
theorem Zee (r : DimacsReader) (h : goodS r.said) : Z09 r = some (bk r.words (pW (rdOf r) r.words)) := by
 unfold Z09 pW
 rw [Z5b r 4, Option.bind_some]
 by_cases h1 : r.words.length = 4
 ·
  rw [if_pos (by omega)]
  simp only
  rw [Z71 r _ h, Option.bind_some]
  by_cases h2 : Ye 0 [112] r.said = 0
  ·
   rw [if_pos h2]
   simp only
   rw [Xj (by constructor <;> omega)]
   have e1 : (1 : Int).toNat = 1 := rfl
   rw [e1]
   by_cases h3 : r.words.getD 1 [] = [109, 97, 120]
   ·
    rw [decide_eq_true h3, Rm, Option.bind_some]
    simp only
    rw [Z3b _ 2 _ _ ⟨by decide, by show (_ : Int) < (r.words.length : Int); omega⟩, Option.bind_some]
    have e2 : (2 : Int).toNat = 2 := rfl
    rw [e2]
    by_cases h4 : Vu (r.words.getD 2 []) 0 2147483648 = true
    ·
     rw [if_pos h4]
     simp only
     rw [Z3b _ 3 _ _ ⟨by decide, by show (_ : Int) < (r.words.length : Int); omega⟩, Option.bind_some]
     have e3 : (3 : Int).toNat = 3 := rfl
     rw [e3]
     by_cases h5 : Vu (r.words.getD 3 []) 0 2147483648 = true
     · rw [if_pos h5, if_pos ⟨h1, h2, h3, h4, h5⟩]
     · rw [if_neg h5, if_neg (fun h => h5 h.2.2.2.2)]
    · rw [if_neg h4, if_neg (fun h => h4 h.2.2.2.1)]
   · rw [decide_eq_false h3, Ji, Option.bind_some, if_neg (fun h => h3 h.2.2.1)]
  · rw [if_neg h2, if_neg (fun h => h2 h.2.1)]
 · rw [if_neg (by omega), if_neg (fun h => h1 h.1)]
theorem s_dnode (r : DimacsReader) (h : goodS r.said) : Z0p r = some (bk r.words (nW (rdOf r) r.words)) := by
 unfold Z0p nW
 rw [Z5b r 3, Option.bind_some]
 by_cases h1 : r.words.length = 3
 ·
  rw [if_pos (by omega)]
  simp only
  rw [Z4i r 1 (by constructor <;> omega), Option.bind_some]
  have e1 : (1 : Int).toNat = 1 := rfl
  have e2 : (2 : Int).toNat = 2 := rfl
  rw [e1]
  by_cases h2 : Vu (r.words.getD 1 []) 1 r.n.N = true
  ·
   rw [if_pos h2]
   simp only
   rw [Xj (by constructor <;> omega), e2, Z71 r _ h, Option.bind_some]
   by_cases h3 : Ye 0 (r.words.getD 2 []) r.said = 0
   ·
    rw [if_pos h3, if_pos ⟨h1, h2, h3⟩]
    simp only
    rw [Xj (by constructor <;> omega)]
    by_cases h4 : r.words.getD 2 [] = [115]
    · rw [if_pos h4, if_pos h4, h4]
    ·
     by_cases h5 : r.words.getD 2 [] = [116]
     · rw [if_neg h4, if_neg h4, if_pos h5, if_pos h5, h5]
     · rw [if_neg h4, if_neg h4, if_neg h5, if_neg h5]; rfl
   · rw [if_neg h3, if_neg (fun h => h3 h.2.2)]
  · rw [if_neg h2, if_neg (fun h => h2 h.2.1)]
 · rw [if_neg (by omega), if_neg (fun h => h1 h.1)]
theorem s_arcR (r : DimacsReader) (hl : r.n.Arcs.length ≤ 4294967297) : Z1q r = some (bk r.words (aW (rdOf r) r.words)) := by
 unfold Z1q aW
 rw [Z5b r 4, Option.bind_some]
 have e1 : (1 : Int).toNat = 1 := rfl
 have e2 : (2 : Int).toNat = 2 := rfl
 have e3 : (3 : Int).toNat = 3 := rfl
 by_cases h1 : r.words.length = 4
 ·
  rw [if_pos (by omega)]
  simp only
  rw [Z4i r 1 (by constructor <;> omega), Option.bind_some, e1]
  by_cases h2 : Vu (r.words.getD 1 []) 1 r.n.N = true
  ·
   rw [if_pos h2]
   simp only
   rw [Z4i r 2 (by constructor <;> omega), Option.bind_some, e2]
   by_cases h3 : Vu (r.words.getD 2 []) 1 r.n.N = true
   ·
    rw [if_pos h3]
    simp only
    rw [Z3b r 3 _ _ (by constructor <;> omega), Option.bind_some, e3]
    by_cases h4 : Vu (r.words.getD 3 []) 0 9223372036854775807 = true
    ·
     rw [if_pos h4, if_pos ⟨h1, h2, h3, h4⟩]
     simp only
     rw [Xj (by rw [List.length_append, List.length_singleton]; constructor <;> omega)]
    · rw [if_neg h4, if_neg (fun h => h4 h.2.2.2)]
   · rw [if_neg h3, if_neg (fun h => h3 h.2.2.1)]
  · rw [if_neg h2, if_neg (fun h => h2 h.2.1)]
 · rw [if_neg (by omega), if_neg (fun h => h1 h.1)]
theorem pW_form (r : Rd) (w : List Str) : pW r w = none ∨ ∃ a m k, pW r w = some ⟨Net.mk a r.n.S r.n.T r.n.Arcs, m, k⟩ := by
 unfold pW; split
 · exact .inr ⟨_, _, _, rfl⟩
 · exact .inl rfl
theorem nW_form (r : Rd) (w : List Str) : nW r w = none ∨ ∃ s t m, nW r w = some ⟨Net.mk r.n.N s t r.n.Arcs, m, r.arcs⟩ := by
 unfold nW; split
 ·
  split
  · exact .inr ⟨_, _, _, rfl⟩
  ·
   split
   · exact .inr ⟨_, _, _, rfl⟩
   · exact .inl rfl
 · exact .inl rfl
theorem aW_form (r : Rd) (w : List Str) : aW r w = none ∨ ∃ al, aW r w = some ⟨Net.mk r.n.N r.n.S r.n.T al, r.said, r.arcs⟩ := by
 unfold aW; split
 · exact .inr ⟨_, rfl⟩
 · exact .inl rfl
theorem s_line (r : DimacsReader) (l : Str) (h : goodS r.said) (ha : r.n.Arcs.length ≤ 4294967297) (hl : l.length ≤ 4294967296) :
    Z0t r (ub l) = some (match Us l with | none => .inl ⟨r.n, r.said, r.arcs, Xl l⟩ | some w => bk w (Wn (rdOf r) w)) := by
  unfold Z0t Us
  rw [s_Words l hl]
  simp only [Option.bind_some]
  by_cases h1 : Xl l = []
  · rw [if_pos h1, if_pos (by rw [h1]; rfl)]
  · have h2 : 0 < (Xl l).length := List.length_pos_iff.2 h1
    have h3 : (Xl l).getD (0 : Int).toNat [] ∈ Xl l := by
      rw [Int.toNat_zero, List.getD_eq_getElem?_getD, List.getElem?_eq_getElem h2]
      exact List.getElem_mem h2
    have h4 : 0 < ((Xl l).getD (0 : Int).toNat []).length := List.length_pos_iff.2 (Z2s _ _ _ h3)
    have g0 : inb 0 (Xl l).length := by constructor <;> omega
    rw [if_neg h1, if_neg (by omega), Xj g0, Xj (by constructor <;> omega), Xj g0]
    rw [Int.toNat_zero]
    generalize hw : Xl l = w
    by_cases h5 : (w.getD 0 []).getD 0 0 = 99
    · rw [if_pos h5, if_pos (by rw [h5]; rfl)]
    · have h6 : ¬ (((w.getD 0 []).getD 0 0).toNat : Int) = 99 := fun e => h5 (UInt8.toNat_inj.1 (by have : (99 : UInt8).toNat = 99 := rfl; omega))
      rw [if_neg h5, if_neg h6]
      simp only
      by_cases k1 : w.getD 0 [] = [112]
      · have hl : Wn (rdOf r) w = pW (rdOf r) w := by unfold Wn; rw [if_pos k1]
        rw [hl, if_pos k1, if_pos k1, Rm, Option.bind_some]
        simp only
        unfold Z1e
        rw [Zee ⟨r.n, r.said, r.arcs, w⟩ h, Option.bind_some]
        show (match bk w (pW (rdOf r) w) with | .inl r31 => _ | .inr _ => _) = some (bk w (pW (rdOf r) w))
        rcases pW_form (rdOf r) w with e | ⟨_, _, _, e⟩ <;> rw [e]
      · have hl : Wn (rdOf r) w = if Ye 0 [112] r.said = 1 then (if w.getD 0 [] = [110] then nW (rdOf r) w else if w.getD 0 [] = [97] then aW (rdOf r) w else none) else none := by unfold Wn; rw [if_neg k1]
        have p1 : ∀ (j : Option (DimacsReader ⊕ Unit)) (o : Option Rd), (Ye 0 [112] r.said = 1 → j = some (bk w o)) → (if w.getD 0 [] = [112] then (Option.bind (Xw true) fun t => match t with | .inl _ => j | .inr _ => some (.inr ())) else Option.bind (Xw (decide ((Ye 0 ([112] : Str) r.said) = 1))) fun t => match t with | .inl _ => j | .inr _ => some (.inr ())) = some (bk w (if Ye 0 [112] r.said = 1 then o else none)) := by
          intro j o hj
          rw [if_neg k1]
          by_cases hp : Ye 0 [112] r.said = 1
          · rw [decide_eq_true hp, Rm, if_pos hp]; exact hj hp
          · rw [decide_eq_false hp, Ji, if_neg hp]; rfl
        rw [hl, if_neg k1]
        by_cases k2 : w.getD 0 [] = [110]
        · rw [if_pos k2, if_pos k2]
          refine p1 _ (nW (rdOf r) w) fun _ => ?_
          unfold Z11
          rw [s_dnode ⟨r.n, r.said, r.arcs, w⟩ h, Option.bind_some]
          show (match bk w (nW (rdOf r) w) with | .inl r31 => _ | .inr _ => _) = some (bk w (nW (rdOf r) w))
          rcases nW_form (rdOf r) w with e | ⟨_, _, _, e⟩ <;> rw [e]
        · by_cases k3 : w.getD 0 [] = [97]
          · rw [if_neg k2, if_neg k2, if_pos k3, if_pos k3]
            refine p1 _ (aW (rdOf r) w) fun _ => ?_
            unfold Z0m
            rw [s_arcR ⟨r.n, r.said, r.arcs, w⟩ ha, Option.bind_some]
            show (match bk w (aW (rdOf r) w) with | .inl r31 => _ | .inr _ => _) = some (bk w (aW (rdOf r) w))
            rcases aW_form (rdOf r) w with e | ⟨_, e⟩ <;> rw [e]
          · rw [if_neg k2, if_neg k2, if_neg k3, if_neg k3, Ji]
            split <;> rfl
theorem Zc3 {r s : Rd} {w : List Str} (h : goodS r.said) (e : Wn r w = some s) : goodS s.said ∧ s.n.Arcs.length ≤ r.n.Arcs.length + 1 := by
 unfold Wn pW nW aW at e
 repeat' split at e
 all_goals first
  | (cases e; done)
  | (injection e with e; subst e; exact ⟨by first | exact h | exact h.put _, by simp⟩)
def Wt : Rd → List (List Str) → Option Rd
  | r, [] => some r
  | r, w :: ws => Option.bind (Wn r w) fun s => Wt s ws
abbrev rd0 : Rd := ⟨Net.mk 0 0 0 [], [], 0⟩
abbrev tupR (r : Rd) (w : List Str) : Int × Int × Int × List Arc × (List (Str × Int)) × Int × List Str := (r.n.N, r.n.S, r.n.T, r.n.Arcs, r.said, r.arcs, w)
theorem Z5h : ∀ (ls : List Str) (r : Rd) (ws : List Str), goodS r.said → r.n.Arcs.length + ls.length ≤ 4294967297 → (∀ l ∈ ls, l.length ≤ 4294967296) →
    ∃ ws', Kv (fun s v => Gu s.1 s.2.1 s.2.2.1 s.2.2.2.1 s.2.2.2.2.1 s.2.2.2.2.2.1 s.2.2.2.2.2.2 (ub v)) (tupR r ws) ls = some (match Wt r (ls.filterMap Us) with | some s => .inl (tupR s ws') | none => .inr ())
  | [], r, ws, _, _, _ => ⟨ws, rfl⟩
  | l :: ls, r, ws, h, ha, hl => by
    have hy : Gu r.n.N r.n.S r.n.T r.n.Arcs r.said r.arcs ws (ub l) = some (match Us l with | none => .inl (tupR r (Xl l)) | some w => match Wn r w with | some s => .inl (tupR s w) | none => .inr ()) := by
      unfold Gu
      rw [s_line ⟨Net.mk r.n.N r.n.S r.n.T r.n.Arcs, r.said, r.arcs, ws⟩ l h (by show r.n.Arcs.length ≤ _; rw [List.length_cons] at ha; omega) (hl l (.head _)), Option.bind_some]
      cases Us l with
      | none => rfl
      | some w =>
        show (match bk w (Wn r w) with | .inl r56 => _ | .inr _ => _) = some (match Wn r w with | some s => Sum.inl (tupR s w) | none => Sum.inr ())
        cases Wn r w <;> rfl
    rw [List.filterMap_cons]
    rw [List.length_cons] at ha
    cases hs : Us l with
    | none =>
      rw [hs] at hy
      rw [Z6r (s' := tupR r (Xl l)) hy]
      exact Z5h ls r _ h (by omega) (fun x hx => hl x (.tail _ hx))
    | some w =>
      rw [hs] at hy
      simp only at hy ⊢
      rw [Wt]
      cases hw : Wn r w with
      | none => rw [hw] at hy; exact ⟨[], Zb8 hy⟩
      | some s =>
        rw [hw] at hy
        obtain ⟨g1, g2⟩ := Zc3 h hw
        rw [Z6r (s' := tupR s w) hy]
        exact Z5h ls s _ g1 (by omega) (fun x hx => hl x (.tail _ hx))
def Lj : Option Rd → Net × Bool
  | none => (Net.mk 0 0 0 [], false)
  | some r => if Ye 0 [112] r.said = 1 ∧ Ye 0 [115] r.said = 1 ∧ Ye 0 [116] r.said = 1 ∧ (r.n.Arcs.length : Int) = r.arcs then (r.n, true) else (Net.mk 0 0 0 [], false)
theorem Z4m (r : Rd) : Lj (some r) = if Ye 0 [112] r.said = 1 ∧ Ye 0 [115] r.said = 1 ∧ Ye 0 [116] r.said = 1 ∧ (r.n.Arcs.length : Int) = r.arcs then (r.n, true) else (Net.mk 0 0 0 [], false) := rfl
theorem Z2f : ∀ (l cur : Str), (Yw l cur).length ≤ l.length + 1
 | [], cur => by rw [Yw]; simp
 | b :: l, cur => by
  rw [Yw]
  split
  · have := Z2f l []; rw [List.length_cons, List.length_cons]; omega
  · have := Z2f l (cur ++ [b]); rw [List.length_cons]; omega
theorem s_dread (t : Str) (hl : t.length ≤ 4294967296) : Z1h (ub t) = some (Lj (Wt rd0 (Vn t))) := by
 unfold Z1h Z2d Z26
 simp only [Option.bind_some]
 rw [s_split _ t _ (by omega)]
 obtain ⟨ws', e⟩ := Z5h (Yw t []) rd0 [] (fun w => .inl rfl) (by have := Z2f t []; show 0 + _ ≤ _; omega) (fun l h => by have := Z5z t [] l h; simp only [List.length_nil] at this; omega)
 have e2 := e
 show Option.bind (Kv _ (tupR rd0 []) (Yw t [])) _ = _
 rw [e2, Option.bind_some]
 unfold Vn
 cases Wt rd0 (List.filterMap Us (Yw t [])) with
 | none => rfl
 | some r =>
  show (if Ye 0 [112] r.said = 1 then _ else _) = some (Lj (some r))
  rw [Z4m]
  by_cases h1 : Ye 0 [112] r.said = 1
  ·
   rw [if_pos h1]
   by_cases h2 : Ye 0 [115] r.said = 1
   ·
    rw [if_pos h2]
    by_cases h3 : Ye 0 [116] r.said = 1
    ·
     rw [if_pos h3]
     by_cases h4 : (r.n.Arcs.length : Int) = r.arcs
     · rw [decide_eq_true h4, Rm, if_pos ⟨h1, h2, h3, h4⟩]; rfl
     · rw [decide_eq_false h4, Ji, if_neg (fun h => h4 h.2.2.2)]; rfl
    · rw [if_neg h3, Ji, if_neg (fun h => h3 h.2.2.1)]; rfl
   · rw [if_neg h2, Ji, if_neg (fun h => h2 h.2.1)]; rfl
  · rw [if_neg h1, Ji, if_neg (fun h => h1 h.1)]; rfl
def parF (x : Net × Bool) : Net × Int := if x.2 = true then (if Uw x.1.N x.1.S x.1.T x.1.Arcs = 0 then (x.1, 0) else (Net.mk 0 0 0 [], Uw x.1.N x.1.S x.1.T x.1.Arcs)) else (Net.mk 0 0 0 [], 70)
def parT (ws : List (List Str)) : Net × Int := parF (Lj (Wt rd0 ws))
theorem Z9l : ∀ (ws : List (List Str)) (r s : Rd), Wt r ws = some s → s.n.Arcs.length ≤ r.n.Arcs.length + ws.length
 | [], r, s, h => by injection h with h; subst h; simp
 | w :: ws, r, s, h => by
  rw [Wt] at h
  cases hw : Wn r w with
  | none => rw [hw] at h; cases h
  | some q =>
   rw [hw] at h
   have h1 := Z9l ws q s h
   have h2 : q.n.Arcs.length ≤ r.n.Arcs.length + 1 := by
    unfold Wn pW nW aW at hw
    repeat' split at hw
    all_goals first
     | (cases hw; done)
     | (injection hw with hw; subst hw; simp)
   rw [List.length_cons]; omega
theorem Zdm (t : Str) : (Vn t).length ≤ t.length + 1 := Nat.le_trans (List.length_filterMap_le _ _) (Z2f t [])
theorem s_Parse (t : Str) (hl : t.length ≤ 100000000) : Lp (ub t) = some (parT (Vn t)) := by
 unfold Lp parT parF
 rw [s_dread t (by omega), Option.bind_some]
 have hc : (Lj (Wt rd0 (Vn t))).1.Arcs.length ≤ 100000001 := by
  cases hf : Wt rd0 (Vn t) with
  | none => simp [Lj]
  | some r =>
   have h1 := Z9l _ _ _ hf
   have h2 := Zdm t
   have h3 : rd0.n.Arcs.length = 0 := rfl
   rw [Z4m]
   split
   · show r.n.Arcs.length ≤ _; omega
   · simp
 generalize Lj (Wt rd0 (Vn t)) = x at hc
 obtain ⟨n, ok⟩ := x
 cases ok with
 | false => rfl
 | true =>
  simp only
  rw [Z9d n (by simp only at hc; unfold lenok; omega)]
  simp only [Option.bind_some, if_true, Bool.not_true, Bool.false_eq_true, if_false]
  by_cases h : Uw n.N n.S n.T n.Arcs = 0
  · rw [if_pos h, if_neg (by rw [h]; decide)]
  · rw [if_neg h, if_pos h]
end Go.Acq
namespace Go.Acq
open Go
abbrev jn (ws : List Str) : Str := Lib.join ws [32]
theorem Z4q (w : Str) : jn [w] = w := by simp [jn, Lib.join, List.intercalate]
theorem Z5c (w v : Str) (r : List Str) : jn (w :: v :: r) = w ++ 32 :: jn (v :: r) := by
 unfold jn Lib.join
 simp [List.intercalate, List.intersperse]
structure wordOK (w : Str) : Prop where
  ok : okW w
  ten : ∀ b ∈ w, b ≠ 10
  len : w.length ≤ 21
theorem Z5a : ∀ ws : List Str, ws ≠ [] → (∀ w ∈ ws, okW w) → Xl (jn ws) = ws
 | [], h, _ => absurd rfl h
 | [w], _, h => by rw [Z4q]; exact Z8n (h w (.head _))
 | w :: v :: r, _, h => by
  rw [Z5c]
  unfold Xl
  rw [Z7x (h w (.head _)) Z4z]
  have := Z5a (v :: r) (by simp) (fun x hx => h x (.tail _ hx))
  unfold Xl at this
  rw [this]
theorem Lo : ∀ ws : List Str, (∀ w ∈ ws, wordOK w) → (∀ b ∈ jn ws, b ≠ 10) ∧ (jn ws).length ≤ 22 * ws.length
 | [], _ => by simp [jn, Lib.join, List.intercalate]
 | [w], h => by rw [Z4q]; have := (h w (.head _)).len; exact ⟨(h w (.head _)).ten, by simp only [List.length_singleton]; omega⟩
 | w :: v :: r, h => by
  obtain ⟨h1, h2⟩ := Lo (v :: r) (fun x hx => h x (.tail _ hx))
  have h3 := (h w (.head _)).len
  rw [Z5c]
  refine ⟨fun b hb => ?_, ?_⟩
  ·
   rcases List.mem_append.1 hb with hb | hb
   · exact (h w (.head _)).ten b hb
   ·
    rcases List.mem_cons.1 hb with rfl | hb
    · decide
    · exact h1 b hb
  · rw [List.length_append, List.length_cons, List.length_cons (a := w)]; omega
structure lineWs (ws : List Str) : Prop where
  ne : ws ≠ []
  all : ∀ w ∈ ws, wordOK w
  few : ws.length ≤ 4
  kind : (ws.getD 0 []).getD 0 0 ≠ 99
theorem lineWs.words {ws : List Str} (h : lineWs ws) : Xl (jn ws) = ws := Z5a ws h.ne fun w hw => (h.all w hw).ok
theorem lineWs.said {ws : List Str} (h : lineWs ws) : Us (jn ws) = some ws := Z5g h.words h.ne h.kind
theorem lineWs.line {ws : List Str} (h : lineWs ws) : Lk (jn ws) := ⟨(Lo ws h.all).1, by have := (Lo ws h.all).2; have := h.few; omega⟩
theorem Nr {n : Int} (h : i64ok n) : wordOK (Yy n) := ⟨(Z0u h).1.ok, (Z0u h).1.ten, (Z0u h).2⟩
theorem Nx {w : Str} (h : w ≠ []) (hl : w.length ≤ 21) (hb : w.all (fun b => decide (33 ≤ b.toNat)) = true) : wordOK w := by
 have hb := List.all_eq_true.1 hb
 refine ⟨⟨h, fun b hm => ?_⟩, fun b hm e => ?_, hl⟩
 ·
  rw [Js]
  have := of_decide_eq_true (hb b hm)
  exact decide_eq_false (by omega)
 ·
  subst e
  exact absurd (hb _ hm) (by decide)
def Vi (n : Net) : List Str := [[112], [109, 97, 120], Yy n.N, Yy (n.Arcs.length : Int)]
def Ub (n : Net) : List Str := [[110], Yy (n.S + 1), [115]]
def Ui (n : Net) : List Str := [[110], Yy (n.T + 1), [116]]
def Wo (a : Arc) : List Str := [[97], Yy (a.fr + 1), Yy (a.to + 1), Yy a.cap]
def Wm (n : Net) : List (List Str) := Vi n :: Ub n :: Ui n :: n.Arcs.map Wo
def Ky (n : Net) : List Str := (Wm n).map jn
def Rh (n : Net) : Str := Uu (Ky n)
structure NetP (n : Net) : Prop where
  ck : Uw n.N n.S n.T n.Arcs = 0
  caps : ∀ a ∈ n.Arcs, 0 ≤ a.cap ∧ a.cap ≤ 9223372036854775807
theorem NetP.arcs {n : Net} (h : NetP n) : arcsOK n.Arcs := FwithinP.arcs h.ck fun a ha => (h.caps a ha).2
theorem NetP.small {n : Net} (h : NetP n) : (0 ≤ n.N ∧ n.N ≤ 1000000) ∧ (0 ≤ n.S ∧ n.S < n.N) ∧ (0 ≤ n.T ∧ n.T < n.N) ∧ n.Arcs.length ≤ 16384 := by
 have hz := Z3v h.ck
 have h1 : 0 ≤ n.S ∧ n.S < n.N := of_decide_eq_true hz.2.2.1.1
 have h2 : 0 ≤ n.T ∧ n.T < n.N := of_decide_eq_true hz.2.2.1.2.1
 omega
theorem Z90 : ∀ (al : List Arc) (left : Int), (Vy left al).isSome = true → ∀ a ∈ al, 0 ≤ a.cap ∧ a.cap ≤ left
 | [], _, _, _, h => by cases h
 | b :: al, left, h, a, ha => by
  unfold Vy at h
  split at h
  · cases h
  ·
   rcases List.mem_cons.1 ha with rfl | ha
   · omega
   · have := Z90 al _ h a ha; omega
theorem netP {n : Net} (h : Uw n.N n.S n.T n.Arcs = 0) : NetP n := ⟨h, fun a ha => by
 have := Z90 _ _ (Z3v h).2.2.2.2.2 a ha
 omega⟩
theorem NetP.ends {n : Net} (h : NetP n) : ∀ a ∈ n.Arcs, (0 ≤ a.fr ∧ a.fr < n.N) ∧ (0 ≤ a.to ∧ a.to < n.N) := by
 have hz := Z3v h.ck
 obtain ⟨m, hm⟩ : ∃ m : Nat, n.N = m := ⟨n.N.toNat, by omega⟩
 have he : Gh m n.Arcs := Z67 (by rw [← hm]; exact hz.2.2.2.1)
 intro a ha
 obtain ⟨i, hi, rfl⟩ := List.mem_iff_getElem.1 ha
 have e : n.Arcs.getD i default = n.Arcs[i] := by rw [List.getD_eq_getElem?_getD, List.getElem?_eq_getElem hi]; rfl
 have h2 : 0 ≤ (n.Arcs.getD i default).fr ∧ (n.Arcs.getD i default).fr < m := by first | exact he i hi true | exact he i hi false
 have h3 : 0 ≤ (n.Arcs.getD i default).to ∧ (n.Arcs.getD i default).to < m := by first | exact he i hi false | exact he i hi true
 rw [e] at h2 h3
 exact ⟨by omega, by omega⟩
theorem aWs_ok {n : Net} (h : NetP n) {a : Arc} (ha : a ∈ n.Arcs) : lineWs (Wo a) := by
 obtain ⟨h1, h2⟩ := h.ends a ha
 have h3 := h.caps a ha
 have hs := h.small
 refine ⟨by simp [Wo], fun w hw => ?_, by simp [Wo], by show (97 : UInt8) ≠ 99; decide⟩
 simp only [Wo, List.mem_cons, List.not_mem_nil, or_false] at hw
 rcases hw with rfl | rfl | rfl | rfl
 · exact Nx (by simp) (by simp) (by decide)
 · exact Nr ⟨by omega, by omega⟩
 · exact Nr ⟨by omega, by omega⟩
 · exact Nr ⟨by omega, by omega⟩
theorem Z41 {n : Net} (h : NetP n) : ∀ ws ∈ Wm n, lineWs ws := by
 have hs := h.small
 intro ws hw
 simp only [Wm, List.mem_cons] at hw
 rcases hw with rfl | rfl | rfl | hw
 ·
  refine ⟨by simp [Vi], fun w hw => ?_, by simp [Vi], by show (112 : UInt8) ≠ 99; decide⟩
  simp only [Vi, List.mem_cons, List.not_mem_nil, or_false] at hw
  rcases hw with rfl | rfl | rfl | rfl
  · exact Nx (by simp) (by simp) (by decide)
  · exact Nx (by simp) (by simp) (by decide)
  · exact Nr ⟨by omega, by omega⟩
  · exact Nr ⟨by omega, by omega⟩
 ·
  refine ⟨by simp [Ub], fun w hw => ?_, by simp [Ub], by show (110 : UInt8) ≠ 99; decide⟩
  simp only [Ub, List.mem_cons, List.not_mem_nil, or_false] at hw
  rcases hw with rfl | rfl | rfl
  · exact Nx (by simp) (by simp) (by decide)
  · exact Nr ⟨by omega, by omega⟩
  · exact Nx (by simp) (by simp) (by decide)
 ·
  refine ⟨by simp [Ui], fun w hw => ?_, by simp [Ui], by show (110 : UInt8) ≠ 99; decide⟩
  simp only [Ui, List.mem_cons, List.not_mem_nil, or_false] at hw
  rcases hw with rfl | rfl | rfl
  · exact Nx (by simp) (by simp) (by decide)
  · exact Nr ⟨by omega, by omega⟩
  · exact Nx (by simp) (by simp) (by decide)
 ·
  obtain ⟨a, ha, rfl⟩ := List.mem_map.1 hw
  exact aWs_ok h ha
theorem Z9s {W : List (List Str)} (h : ∀ ws ∈ W, lineWs ws) : ∀ l ∈ W.map jn, Lk l := fun l hl => by
 obtain ⟨w, hw, rfl⟩ := List.mem_map.1 hl
 exact (h w hw).line
theorem Z7p : ∀ ls : List Str, (∀ l ∈ ls, Lk l) → (Uu ls).length ≤ 101 * ls.length
 | [], _ => by simp [Uu]
 | x :: r, h => by
  have h1 := Z7p r (fun l hl => h l (.tail _ hl))
  have h2 := (h x (.head _)).2
  unfold Uu at h1 ⊢
  rw [List.flatMap_cons, List.length_append, List.length_append, List.length_singleton, List.length_cons]; omega
theorem Z6t (n : Net) : (Ky n).length = n.Arcs.length + 3 := by simp [Ky, Wm]
theorem Z9v {n : Net} (h : NetP n) : (Rh n).length ≤ 101 * (n.Arcs.length + 3) := by
 have := Z7p (Ky n) (Z9s (Z41 h))
 rw [Z6t] at this; exact this
theorem Z2g {v : Int} (h : i64ok (v + 1)) : Nn v = some (Yy (v + 1)) := by
 unfold Nn Ld
 rw [Xj h, Xj h]; rfl
theorem s_Print {n : Net} (h : NetP n) : Ok (Z0c n) (fun r => r = (ub (Rh n), 0)) := by
 have hs := h.small
 have hw := Z41 h
 have hll : lenok n.Arcs.length := by omega
 have hP := (Lo (Vi n) (hw (Vi n) (.head _)).all).2
 have hS := (Lo (Ub n) (hw (Ub n) (.tail _ (.head _))).all).2
 have hT := (Lo (Ui n) (hw (Ui n) (.tail _ (.tail _ (.head _)))).all).2
 have e4 : (Vi n).length = 4 := rfl
 have e3 : (Ub n).length = 3 := rfl
 have e3' : (Ui n).length = 3 := rfl
 unfold Z0c Ld
 refine Ok.bind.2 (Uf (Z9d n hll) ?_)
 rw [if_neg (by rw [h.ck]; simp)]
 refine Ok.bind.2 (Ok.gd.2 ⟨⟨by omega, by omega⟩, Ok.some.2 ?_⟩)
 refine Ok.bind.2 (Ok.gd.2 ⟨⟨by omega, by omega⟩, Ok.some.2 ?_⟩)
 show Ok (gd ((Vi n).length ≤ _ ∧ (([] : List Int) ++ ub (jn (Vi n) ++ [10])).length ≤ _) _) _
 refine Ok.gd.2 ⟨⟨by omega, by rw [List.nil_append, Ki, List.length_append, List.length_singleton]; omega⟩, ?_⟩
 refine Ok.bind.2 (Uf (Z2g ⟨by omega, by omega⟩) ?_)
 show Ok (gd ((Ub n).length ≤ _ ∧ ((([] : List Int) ++ ub (jn (Vi n) ++ [10])) ++ ub (jn (Ub n) ++ [10])).length ≤ _) _) _
 refine Ok.gd.2 ⟨⟨by omega, by rw [List.nil_append, List.length_append, Ki, Ki, List.length_append, List.length_append, List.length_singleton]; omega⟩, ?_⟩
 refine Ok.bind.2 (Uf (Z2g ⟨by omega, by omega⟩) ?_)
 show Ok (gd ((Ui n).length ≤ _ ∧ (((([] : List Int) ++ ub (jn (Vi n) ++ [10])) ++ ub (jn (Ub n) ++ [10])) ++ ub (jn (Ui n) ++ [10])).length ≤ _) _) _
 refine Ok.gd.2 ⟨⟨by omega, by rw [List.nil_append, List.length_append, List.length_append, Ki, Ki, Ki, List.length_append, List.length_append, List.length_append, List.length_singleton]; omega⟩, ?_⟩
 have hb : (((([] : List Int) ++ ub (jn (Vi n) ++ [10])) ++ ub (jn (Ub n) ++ [10])) ++ ub (jn (Ui n) ++ [10])) ++ ub (Uu ((n.Arcs.map Wo).map jn)) = ub (Rh n) := by
  rw [List.nil_append, ← Z20, ← Z20, ← Z20]
  unfold Rh Ky Wm
  rw [List.map_cons, List.map_cons, List.map_cons]
  unfold Uu
  rw [List.flatMap_cons, List.flatMap_cons, List.flatMap_cons, List.append_assoc, List.append_assoc]
 have hpl := Z9v h
 refine Ok.bind.2 (Z0x (fun s => ∃ k : Nat, s.2 = k ∧ k ≤ n.Arcs.length ∧ s.1 ++ ub (Uu (((n.Arcs.drop k).map Wo).map jn)) = ub (Rh n)) (fun s => (n.Arcs.length - s.2).toNat) ⟨0, rfl, Nat.zero_le _, hb⟩ (by unfold Xk; simp only; omega) ?_)
 rintro ⟨buf, x⟩ ⟨k, h1, h2, h3⟩ P next exit
 simp only at h1 h3 next ⊢
 subst h1
 unfold Z1m
 refine Ok.ite.2 ⟨fun hx => ?_, fun hx => ?_⟩
 ·
  have hk2 : k < n.Arcs.length := by omega
  obtain ⟨a, ha⟩ : ∃ a, n.Arcs.getD k default = a := ⟨_, rfl⟩
  have ham : a ∈ n.Arcs := by rw [← ha]; exact Kc hk2 default
  obtain ⟨g1, g2⟩ := h.ends a ham
  have g3 := h.caps a ham
  rw [Int.toNat_natCast, ha]
  have e1 : n.Arcs.drop k = a :: n.Arcs.drop (k + 1) := by rw [List.drop_eq_getElem_cons hk2, ← ha, List.getD_eq_getElem?_getD, List.getElem?_eq_getElem hk2]; rfl
  have hlen := congrArg List.length h3
  rw [List.length_append, Ki, Ki] at hlen
  rw [e1, List.map_cons, List.map_cons] at h3 hlen
  have e2 : Uu (jn (Wo a) :: ((n.Arcs.drop (k + 1)).map Wo).map jn) = (jn (Wo a) ++ [10]) ++ Uu (((n.Arcs.drop (k + 1)).map Wo).map jn) := by unfold Uu; rw [List.flatMap_cons]
  rw [e2, List.length_append, List.length_append, List.length_singleton] at hlen
  refine Ok.gd.2 ⟨(by (first | omega | (constructor <;> omega) | (simp only [List.length_set, List.length_replicate]; omega) | (simp only [List.length_set, List.length_replicate]; constructor <;> omega))), Ok.bind.2 (Uf (Z2g ⟨by omega, by omega⟩) (Ok.bind.2 (Uf (Z2g ⟨by omega, by omega⟩) (Ok.bind.2 (Ok.gd.2 ⟨⟨⟨by omega, by omega⟩, rfl⟩, Ok.some.2 ?_⟩)))))⟩
  show Ok (gd ((Wo a).length ≤ _ ∧ (buf ++ ub (jn (Wo a) ++ [10])).length ≤ _) _) _
  refine Ok.gd.2 ⟨⟨by show 4 ≤ _; omega, by rw [List.length_append, Ki, List.length_append, List.length_singleton]; omega⟩, Ok.gd.2 ⟨⟨by omega, by omega⟩, Ok.some.2 (next _ ⟨k + 1, rfl, by omega, ?_⟩ (by simp only; omega))⟩⟩
  simp only
  rw [← h3, e2, Z20 (jn (Wo a) ++ [10]), List.append_assoc]; rfl
 ·
  refine Ok.some.2 (exit _ ?_)
  obtain rfl : k = n.Arcs.length := by omega
  unfold Z3o
  rw [List.drop_eq_nil_of_le (Nat.le_refl _)] at h3
  refine Ok.some.2 ?_
  rw [← h3]; simp [Uu, ub]
abbrev sd3 : List (Str × Int) := [([112], 1), ([115], 1), ([116], 1)]
theorem Z4o {n : Net} (h : NetP n) : Wn rd0 (Vi n) = some ⟨Net.mk n.N 0 0 [], [([112], 1)], n.Arcs.length⟩ := by
 have hs := h.small
 unfold Wn
 rw [if_pos (show (Vi n).getD 0 [] = [112] from rfl)]
 unfold pW
 have e1 : (Vi n).getD 2 [] = Yy n.N := rfl
 have e2 : (Vi n).getD 3 [] = Yy (n.Arcs.length : Int) := rfl
 rw [e1, e2, if_pos ⟨rfl, rfl, rfl, Lr (by omega) (by omega) (by omega) (by omega), Lr (by omega) (by omega) (by omega) (by omega)⟩, Gz (by omega) (by omega), Gz (by omega) (by omega)]
 rfl
theorem Z7v {r : Rd} {w : List Str} (h1 : w.getD 0 [] = [110]) (h2 : Ye 0 [112] r.said = 1) : Wn r w = nW r w := by
 unfold Wn
 rw [if_neg (by rw [h1]; decide), if_pos h2, if_pos h1]
theorem lineW_aa {r : Rd} {w : List Str} (h1 : w.getD 0 [] = [97]) (h2 : Ye 0 [112] r.said = 1) : Wn r w = aW r w := by
 unfold Wn
 rw [if_neg (by rw [h1]; decide), if_pos h2, if_neg (by rw [h1]; decide), if_pos h1]
theorem Z91 {n : Net} (h : NetP n) {k : Int} : Wn ⟨Net.mk n.N 0 0 [], [([112], 1)], k⟩ (Ub n) = some ⟨Net.mk n.N n.S 0 [], [([112], 1), ([115], 1)], k⟩ := by
 have hs := h.small
 rw [Z7v rfl rfl]
 unfold nW
 have e1 : (Ub n).getD 1 [] = Yy (n.S + 1) := rfl
 have e2 : (Ub n).getD 2 [] = [115] := rfl
 rw [e1, e2, if_pos ⟨rfl, Lr (by omega) (by omega) (by omega) (by simp only; omega), rfl⟩, if_pos rfl, Gz (by omega) (by omega)]
 simp only [Int.add_sub_cancel]
 rfl
theorem lineW_t {n : Net} (h : NetP n) {k : Int} : Wn ⟨Net.mk n.N n.S 0 [], [([112], 1), ([115], 1)], k⟩ (Ui n) = some ⟨Net.mk n.N n.S n.T [], sd3, k⟩ := by
 have hs := h.small
 rw [Z7v rfl rfl]
 unfold nW
 have e1 : (Ui n).getD 1 [] = Yy (n.T + 1) := rfl
 have e2 : (Ui n).getD 2 [] = [116] := rfl
 rw [e1, e2, if_pos ⟨rfl, Lr (by omega) (by omega) (by omega) (by simp only; omega), rfl⟩, if_neg (by decide), if_pos rfl, Gz (by omega) (by omega)]
 simp only [Int.add_sub_cancel]
 rfl
theorem lineW_a {N S T k : Int} {al : List Arc} {a : Arc} (h1 : 0 ≤ a.fr ∧ a.fr < N) (h2 : 0 ≤ a.to ∧ a.to < N) (h3 : 0 ≤ a.cap ∧ a.cap ≤ 9223372036854775807) (hN : N ≤ 1000000) :
    Wn ⟨Net.mk N S T al, sd3, k⟩ (Wo a) = some ⟨Net.mk N S T (al ++ [a]), sd3, k⟩ := by
  rw [lineW_aa rfl rfl]
  unfold aW
  have e1 : (Wo a).getD 1 [] = Yy (a.fr + 1) := rfl
  have e2 : (Wo a).getD 2 [] = Yy (a.to + 1) := rfl
  have e3 : (Wo a).getD 3 [] = Yy a.cap := rfl
  rw [e1, e2, e3, if_pos ⟨rfl, Lr (by omega) (by omega) (by omega) (by simp only; omega), Lr (by omega) (by omega) (by omega) (by simp only; omega), Lr h3.1 h3.2 h3.1 h3.2⟩, Gz (by omega) (by omega), Gz (by omega) (by omega), Gz h3.1 h3.2]
  simp only [Int.add_sub_cancel]
theorem Z6p {N S T k : Int} (hN : N ≤ 1000000) : ∀ (al pre : List Arc), (∀ a ∈ al, ((0 ≤ a.fr ∧ a.fr < N) ∧ (0 ≤ a.to ∧ a.to < N)) ∧ 0 ≤ a.cap ∧ a.cap ≤ 9223372036854775807) →
    Wt ⟨Net.mk N S T pre, sd3, k⟩ (al.map Wo) = some ⟨Net.mk N S T (pre ++ al), sd3, k⟩
  | [], pre, _ => by rw [List.append_nil]; rfl
  | a :: al, pre, h => by
    obtain ⟨⟨h1, h2⟩, h3⟩ := h a (.head _)
    rw [List.map_cons, Wt, lineW_a h1 h2 h3 hN, Option.bind_some, Z6p hN al _ (fun x hx => h x (.tail _ hx)), List.append_assoc]; rfl
def stR (n : Net) : Nat → Rd
  | 0 => rd0
  | 1 => ⟨Net.mk n.N 0 0 [], [([112], 1)], n.Arcs.length⟩
  | 2 => ⟨Net.mk n.N n.S 0 [], [([112], 1), ([115], 1)], n.Arcs.length⟩
  | k + 3 => ⟨Net.mk n.N n.S n.T (n.Arcs.take k), sd3, n.Arcs.length⟩
theorem NetP.each {n : Net} (h : NetP n) : ∀ a ∈ n.Arcs, ((0 ≤ a.fr ∧ a.fr < n.N) ∧ (0 ≤ a.to ∧ a.to < n.N)) ∧ 0 ≤ a.cap ∧ a.cap ≤ 9223372036854775807 := fun a ha => ⟨h.ends a ha, h.caps a ha⟩
theorem fold_prt {n : Net} (h : NetP n) : ∀ i, Wt rd0 ((Wm n).take i) = some (stR n i)
 | 0 => rfl
 | 1 => by show Wt rd0 [Vi n] = _; rw [Wt, Z4o h]; rfl
 | 2 => by show Wt rd0 [Vi n, Ub n] = _; rw [Wt, Z4o h, Option.bind_some, Wt, Z91 h]; rfl
 | k + 3 => by
  have e : (Wm n).take (k + 3) = Vi n :: Ub n :: Ui n :: (n.Arcs.take k).map Wo := by
   unfold Wm; rw [List.take_succ_cons, List.take_succ_cons, List.take_succ_cons, List.map_take]
  rw [e, Wt, Z4o h, Option.bind_some, Wt, Z91 h, Option.bind_some, Wt, lineW_t h, Option.bind_some]
  rw [Z6p h.small.1.2 _ _ (fun a ha => h.each a (List.mem_of_mem_take ha))]; rfl
theorem par_prt {n : Net} (h : NetP n) : parT (Wm n) = (n, 0) := by
 have e := fold_prt h (n.Arcs.length + 3)
 have e2 : (Wm n).take (n.Arcs.length + 3) = Wm n := List.take_of_length_le (by simp [Wm])
 rw [e2] at e
 unfold parT
 rw [e]
 have e3 : stR n (n.Arcs.length + 3) = ⟨n, sd3, n.Arcs.length⟩ := by show (⟨Net.mk n.N n.S n.T (n.Arcs.take n.Arcs.length), sd3, n.Arcs.length⟩ : Rd) = _; rw [List.take_length]
 rw [e3, Z4m, if_pos ⟨rfl, rfl, rfl, rfl⟩]
 unfold parF
 rw [if_pos rfl, if_pos h.ck]
end Go.Acq
namespace Go.Acq
open Go
structure lineV (ws : List Str) : Prop where
  ne : ws ≠ []
  ok : ∀ w ∈ ws, okW w
  line : Lk (jn ws)
  kind : (ws.getD 0 []).getD 0 0 ≠ 99
theorem lineWs.v {ws : List Str} (h : lineWs ws) : lineV ws := ⟨h.ne, fun w hw => (h.all w hw).ok, h.line, h.kind⟩
theorem lineV.said {ws : List Str} (h : lineV ws) : Us (jn ws) = some ws := Z5g (Z5a ws h.ne h.ok) h.ne h.kind
inductive Wh (n : Net) : Nat → List Str → Prop
  | p : Wh n 0 (Vi n)
  | s : Wh n 1 (Ub n)
  | t : Wh n 2 (Ui n)
  | a (k : Nat) (h : k < n.Arcs.length) : Wh n (k + 3) (Wo (n.Arcs.getD k default))
theorem wh_of (n : Net) : ∀ i, i < n.Arcs.length + 3 → Wh n i ((Wm n).getD i [])
 | 0, _ => .p
 | 1, _ => .s
 | 2, _ => .t
 | k + 3, h => by
  have h2 : k < n.Arcs.length := by omega
  have e : (Wm n).getD (k + 3) [] = Wo (n.Arcs.getD k default) := by
   show (n.Arcs.map Wo).getD k [] = _
   rw [List.getD_eq_getElem?_getD, List.getElem?_map, List.getElem?_eq_getElem h2, List.getD_eq_getElem?_getD, List.getElem?_eq_getElem h2]; rfl
  rw [e]; exact .a k h2
theorem Wh.count {n : Net} {i : Nat} {w : List Str} (h : Wh n i w) : (w.getD 0 [] = [112] ∧ w.length = 4) ∨ (w.getD 0 [] = [110] ∧ w.length = 3) ∨ (w.getD 0 [] = [97] ∧ w.length = 4) := by
 cases h with
 | p => exact .inl ⟨rfl, rfl⟩
 | s => exact .inr (.inl ⟨rfl, rfl⟩)
 | t => exact .inr (.inl ⟨rfl, rfl⟩)
 | a k h => exact .inr (.inr ⟨rfl, rfl⟩)
def hiW (w : Str) : Prop := w ≠ [] ∧ ∀ b ∈ w, 33 ≤ b.toNat ∧ b.toNat < 128
theorem hiW.ok {w : Str} (h : hiW w) : okW w := ⟨h.1, fun b hb => by rw [Js]; have := h.2 b hb; exact decide_eq_false (by omega)⟩
theorem hiW.ten {w : Str} (h : hiW w) : ∀ b ∈ w, b ≠ 10 := fun b hb e => by
 have := h.2 b hb
 subst e
 exact absurd this.1 (by decide)
theorem Z3x {n : Int} (h : i64ok n) : hiW (Yy n) := ⟨(Z0u h).1.1, fun b hb => by have := (Z0u h).1.2 b hb; omega⟩
theorem Z3i {w : Str} (h : w ≠ []) (hb : w.all (fun b => decide (33 ≤ b.toNat ∧ b.toNat < 128)) = true) : hiW w := ⟨h, fun b hm => of_decide_eq_true (List.all_eq_true.1 hb b hm)⟩
theorem hi_all {n : Net} (hn : NetP n) {i : Nat} {w : List Str} (h : Wh n i w) : ∀ x ∈ w, hiW x := by
 have hs := hn.small
 cases h with
 | p => intro x hx; simp only [Vi, List.mem_cons, List.not_mem_nil, or_false] at hx; rcases hx with rfl | rfl | rfl | rfl <;> first | exact Z3i (by simp) (by decide) | exact Z3x ⟨by omega, by omega⟩
 | s => intro x hx; simp only [Ub, List.mem_cons, List.not_mem_nil, or_false] at hx; rcases hx with rfl | rfl | rfl <;> first | exact Z3i (by simp) (by decide) | exact Z3x ⟨by omega, by omega⟩
 | t => intro x hx; simp only [Ui, List.mem_cons, List.not_mem_nil, or_false] at hx; rcases hx with rfl | rfl | rfl <;> first | exact Z3i (by simp) (by decide) | exact Z3x ⟨by omega, by omega⟩
 | a k hk =>
  obtain ⟨⟨h1, h2⟩, h3⟩ := hn.each _ (Kc hk default)
  intro x hx
  simp only [Wo, List.mem_cons, List.not_mem_nil, or_false] at hx
  rcases hx with rfl | rfl | rfl | rfl <;> first | exact Z3i (by simp) (by decide) | exact Z3x ⟨by omega, by omega⟩
end Go.Acq
namespace Go.Acq
open Go
set_option maxRecDepth 100000 in
theorem Zda : Z3q = some true := by decide +kernel
theorem s_EqArc {a : List Arc} (h : a.length ≤ 100000000) : Ok (Z0n a a) (fun b => b = true) := by
 unfold Z0n
 rw [if_neg (by simp)]
 refine Ok.bind.2 (Z0x (O := Bool ⊕ Unit) (fun s => 0 ≤ s ∧ s ≤ (a.length : Int)) (fun s => (a.length - s).toNat) ⟨by omega, by omega⟩ (by unfold Xk; omega) ?_)
 rintro s ⟨h1, h2⟩ P next exit
 unfold Z14
 refine Ok.ite.2 ⟨fun hs => ?_, fun _ => Ok.some.2 (exit _ (Ok.some.2 rfl))⟩
 refine Ok.gd.2 ⟨⟨h1, hs⟩, Ok.gd.2 ⟨⟨h1, hs⟩, ?_⟩⟩
 rw [if_neg (by simp)]
 exact Ok.gd.2 ⟨⟨by omega, by omega⟩, Ok.some.2 (next _ ⟨by omega, by omega⟩ (by omega))⟩
theorem s_Same {n : Net} (h : n.Arcs.length ≤ 100000000) : Ok (Z1j n n) (fun b => b = true) := by
 unfold Z1j
 rw [if_pos rfl, if_pos rfl, if_pos rfl]
 exact Ok.bind.2 (Ok.mono (s_EqArc h) fun r hr => Ok.some.2 hr)
theorem Z79 : ∀ (w cur rest : Str), (∀ b ∈ w, b ≠ 32) → Wf false 32 (w ++ 32 :: rest) cur = (cur ++ w) :: Wf false 32 rest []
 | [], cur, rest, _ => by rw [List.nil_append, Wf, if_pos rfl, List.append_nil]; rfl
 | b :: w, cur, rest, h => by rw [List.cons_append, Wf, if_neg (h b (.head _)), Z79 w _ rest (fun x hx => h x (.tail _ hx)), List.append_assoc]; rfl
theorem Z72 : ∀ (w cur : Str), (∀ b ∈ w, b ≠ 32) → Wf false 32 w cur = [cur ++ w]
 | [], cur, _ => by rw [Wf, List.append_nil]
 | b :: w, cur, h => by rw [Wf, if_neg (h b (.head _)), Z72 w _ (fun x hx => h x (.tail _ hx)), List.append_assoc]; rfl
theorem hiW.blank {w : Str} (h : hiW w) : ∀ b ∈ w, b ≠ 32 := fun b hb e => by
 have := h.2 b hb
 subst e
 exact absurd this.1 (by decide)
theorem Z9h : ∀ ws : List Str, ws ≠ [] → (∀ w ∈ ws, hiW w) → Wf false 32 (jn ws) [] = ws
 | [], h, _ => absurd rfl h
 | [w], _, h => by rw [Z4q, Z72 w [] (h w (.head _)).blank]; rfl
 | w :: v :: r, _, h => by rw [Z5c, Z79 w [] _ (h w (.head _)).blank, Z9h (v :: r) (by simp) (fun x hx => h x (.tail _ hx))]; rfl
theorem Z47 {b : UInt8} (hb : Vj b.toNat = true) (l : Str) : Xl (b :: l) = Xl l := by
 unfold Xl
 rw [Xa, if_pos hb, if_pos rfl]
def Nl (s : Str) : Prop := ∀ b ∈ s, Vj b.toNat = true ∧ b ≠ 10
theorem Z4h : ∀ (s l : Str), Nl s → Xl (s ++ l) = Xl l
 | [], _, _ => rfl
 | b :: s, l, h => by rw [List.cons_append, Z47 (h b (.head _)).1, Z4h s l (fun x hx => h x (.tail _ hx))]
def endW (rest : Str) : Prop := rest = [] ∨ ∃ b r, rest = b :: r ∧ Vj b.toNat = true
theorem Zb1 {w rest : Str} (h : okW w) (hr : endW rest) : Xl (w ++ rest) = w :: Xl rest := by
 rcases hr with rfl | ⟨b, r, rfl, hb⟩
 · rw [List.append_nil]; unfold Xl; rw [Z8n h]; rfl
 · rw [Z47 hb]; unfold Xl; rw [Z7x h hb]
structure Cl (cur : Str) (ws : List Str) : Prop where
  ten : ∀ b ∈ cur, b ≠ 10
  say : ∀ rest, endW rest → Xl (cur ++ rest) = ws ++ Xl rest
theorem Cl.nil : Cl [] [] := ⟨fun b h => (by cases h), fun rest _ => rfl⟩
theorem Cl.first {pad w : Str} (hp : Nl pad) (hw : hiW w) : Cl (pad ++ w) [w] := by
 refine ⟨fun b hb => ?_, fun rest hr => ?_⟩
 ·
  rcases List.mem_append.1 hb with hb | hb
  · exact (hp b hb).2
  · exact hw.ten b hb
 · rw [List.append_assoc, Z4h pad _ hp, Zb1 hw.ok hr]; rfl
theorem Cl.more {cur pad w : Str} {ws : List Str} (h : Cl cur ws) (hp : Nl pad) (hw : hiW w) : Cl ((cur ++ [32]) ++ (pad ++ w)) (ws ++ [w]) := by
 have hf := Cl.first hp hw
 refine ⟨fun b hb => ?_, fun rest hr => ?_⟩
 ·
  rcases List.mem_append.1 hb with hb | hb
  ·
   rcases List.mem_append.1 hb with hb | hb
   · exact h.ten b hb
   · rw [List.mem_singleton.1 hb]; decide
  · exact hf.ten b hb
 · rw [List.append_assoc, List.append_assoc, List.singleton_append, h.say _ (.inr ⟨32, _, rfl, Z4z⟩), Z47 Z4z, hf.say rest hr, List.append_assoc]
def Tx (t : Str) (W : List (List Str)) : Prop := ∀ rest, Vn (t ++ rest) = W ++ Vn rest
theorem Tx.nil : Tx [] [] := fun rest => rfl
theorem Tx.noise {t s : Str} {W : List (List Str)} (h : Tx t W) (hs : Tx s []) : Tx (t ++ s) W := fun rest => by rw [List.append_assoc, h, hs]; rfl
theorem Tx.line {t cur e : Str} {W : List (List Str)} {ws : List Str} (h : Tx t W) (hc : Cl cur ws) (he : Nl e) (ne : ws ≠ []) (hk : (ws.getD 0 []).getD 0 0 ≠ 99) : Tx ((t ++ cur) ++ (e ++ [10])) (W ++ [ws]) := fun rest => by
 have e1 : ((t ++ cur) ++ (e ++ [10])) ++ rest = t ++ ((cur ++ e) ++ 10 :: rest) := by simp
 have h10 : ∀ b ∈ cur ++ e, b ≠ 10 := fun b hb => by
  rcases List.mem_append.1 hb with hb | hb
  · exact hc.ten b hb
  · exact (he b hb).2
 have hw : Xl (cur ++ e) = ws := by
  have h1 : endW e := by
   cases e with
   | nil => exact .inl rfl
   | cons b r => exact .inr ⟨b, r, rfl, (he b (.head _)).1⟩
  rw [hc.say e h1]
  have := Z4h e [] he
  rw [List.append_nil] at this
  rw [this]; show ws ++ [] = ws; rw [List.append_nil]
 rw [e1, h, Z7w _ _ h10, Z5g hw ne hk, List.append_assoc]; rfl
theorem Z0v (seg : Str) (h : ∀ b ∈ seg, b ≠ 10) (hs : Us seg = none) : Tx (seg ++ [10]) [] := fun rest => by
 have e1 : (seg ++ [10]) ++ rest = seg ++ 10 :: rest := by simp
 rw [e1, Z7w _ _ h, hs]; rfl
abbrev noises : List Str := [([] : Str), ([] : Str), ([99, 10] : Str), ([10] : Str), ([99, 32, 97, 32, 49, 32, 50, 32, 51, 10] : Str), ([32, 32, 9, 13, 10] : Str), ([99, 120, 10] : Str)]
theorem noise_tx : ∀ s ∈ noises, Tx s [] ∧ s.length ≤ 10 := by
 intro s hs
 simp only [noises, List.mem_cons, List.not_mem_nil, or_false] at hs
 rcases hs with rfl | rfl | rfl | rfl | rfl | rfl | rfl
 · exact ⟨Tx.nil, by simp⟩
 · exact ⟨Tx.nil, by simp⟩
 · exact ⟨Z0v [99] (by decide) (by decide +kernel), by simp⟩
 · exact ⟨Z0v [] (by decide) (by decide +kernel), by simp⟩
 · exact ⟨Z0v [99, 32, 97, 32, 49, 32, 50, 32, 51] (by decide) (by decide +kernel), by simp⟩
 · exact ⟨Z0v [32, 32, 9, 13] (by decide) (by decide +kernel), by simp⟩
 · exact ⟨Z0v [99, 120] (by decide) (by decide +kernel), by simp⟩
abbrev padsL : List Str := [([] : Str), ([] : Str), ([32] : Str), ([9] : Str), ([13] : Str)]
theorem pads_ok : ∀ s ∈ padsL, Nl s ∧ s.length ≤ 1 := by
 intro s hs
 simp only [padsL, List.mem_cons, List.not_mem_nil, or_false] at hs
 have one : ∀ c : UInt8, Vj c.toNat = true ∧ c ≠ 10 → Nl [c] := fun c h b hb => by rw [List.mem_singleton.1 hb]; exact h
 rcases hs with rfl | rfl | rfl | rfl | rfl
 · exact ⟨fun b h => (by cases h), by simp⟩
 · exact ⟨fun b h => (by cases h), by simp⟩
 · exact ⟨one 32 ⟨by rw [Js]; decide, by decide⟩, by simp⟩
 · exact ⟨one 9 ⟨by rw [Js]; decide, by decide⟩, by simp⟩
 · exact ⟨one 13 ⟨by rw [Js]; decide, by decide⟩, by simp⟩
abbrev endsL : List Str := [([10] : Str), ([10] : Str), ([13, 10] : Str), ([32, 10] : Str)]
theorem ends_ok : ∀ s ∈ endsL, (∃ e, Nl e ∧ s = e ++ [10]) ∧ s.length ≤ 2 := by
 intro s hs
 simp only [endsL, List.mem_cons, List.not_mem_nil, or_false] at hs
 have one : ∀ c : UInt8, Vj c.toNat = true ∧ c ≠ 10 → Nl [c] := fun c h b hb => by rw [List.mem_singleton.1 hb]; exact h
 rcases hs with rfl | rfl | rfl | rfl
 · exact ⟨⟨[], fun b h => (by cases h), rfl⟩, by simp⟩
 · exact ⟨⟨[], fun b h => (by cases h), rfl⟩, by simp⟩
 · exact ⟨⟨[13], one 13 ⟨by rw [Js]; decide, by decide⟩, rfl⟩, by simp⟩
 · exact ⟨⟨[32], one 32 ⟨by rw [Js]; decide, by decide⟩, rfl⟩, by simp⟩
structure BytesIn (l : List Int) : Prop where
  row : ∀ x, x ∈ l → u8ok x
  len : l.length ≤ 9223372036854775807
theorem Z2l {most k : Int} {how : List Int} (hk : 0 ≤ k ∧ k ≤ 1000000) (hm : 0 < most) (hh : BytesIn how) : ∃ v, Gy most k how = some (v, k + 1) ∧ 0 ≤ v ∧ v < most := by
 unfold Gy
 rw [Xj ⟨by omega, by omega⟩]
 by_cases hl : (how.length : Int) < k + 1
 · rw [if_pos hl]; exact ⟨0, rfl, by omega, hm⟩
 ·
  have e : k + 1 - 1 = k := by omega
  have hu := hh.row _ (Kc (show k.toNat < how.length by omega) 0)
  have hu1 := hu.1
  have hu2 := hu.2
  rw [if_neg hl, e, Xj ⟨by omega, by omega⟩, Xj ⟨by omega, by omega⟩, Xj ⟨by omega, by omega⟩, Xj (by omega)]
  refine ⟨_, rfl, ?_, ?_⟩
  · rw [Int.tmod_eq_emod_of_nonneg hu1]; exact Int.emod_nonneg _ (by omega)
  · rw [Int.tmod_eq_emod_of_nonneg hu1]; exact Int.emod_lt_of_pos _ hm
theorem Z5p : ∀ (l cur : Str), Yw (l ++ [10]) cur = Yw l cur ++ [[]]
 | [], cur => by
  show Yw [10] cur = Yw [] cur ++ [[]]
  unfold Yw
  rw [if_pos rfl]; rfl
 | b :: l, cur => by
  rw [List.cons_append, Yw, Yw]
  split
  · rw [Z5p l []]; rfl
  · exact Z5p l _
theorem Zbb (l : Str) : Vn (l ++ [10]) = Vn l := by
 unfold Vn
 rw [Z5p, List.filterMap_append]
 show _ ++ [] = _
 rw [List.append_nil]
theorem Z8e : ∀ r : Str, Vn ((r.dropWhile (fun b => ([10] : Str).contains b)).reverse) = Vn r.reverse
 | [] => rfl
 | b :: r => by
  rw [List.dropWhile_cons]
  by_cases hb : b = 10
  ·
   subst hb
   rw [if_pos (by simp), Z8e r, List.reverse_cons, Zbb]
  · rw [if_neg (by simpa using hb)]
theorem p_end {n : Net} {t : Str} (hn : NetP n) (hs : Vn t = Wm n) (hl : t.length ≤ 100000000) : Ok (Rc n t) (fun a => a = true) := by
 have h2 := hn.small
 unfold Rc
 refine Ok.bind.2 (Uf (s_Parse t hl) ?_)
 rw [hs, par_prt hn]
 simp only
 rw [if_pos trivial]
 refine Ok.bind.2 (Ok.mono (s_Same (by omega)) ?_)
 rintro _ rfl
 rw [if_pos rfl]
 exact Ok.bind.2 (Uf Zda (Ok.some.2 rfl))
theorem p_DimacsBlank {n : Net} {how : List Int} (hnet : NetIn n) (hh : BytesIn how) : Z3p n how = some true := by
 refine ok_eq ?_
 unfold Z3p
 refine Ok.bind.2 (Ok.mono (s_Some hnet (by omega) (by omega) (by omega) (by omega)) fun r hr => ?_)
 have hra := hr.arcs
 have hn := netP hr.check
 have hpl := Z9v hn
 have hll := Z6t r
 have hWl : (Wm r).length = r.Arcs.length + 3 := by simp [Wm]
 refine Ok.bind.2 (Ok.mono (s_Print hn) ?_)
 rintro _ rfl
 simp only
 rw [if_neg (by simp), bu_ub]
 have hlines : ∀ l ∈ Ky r, Lk l := Z9s (Z41 hn)
 have hne : Ky r ≠ [] := fun e => by rw [e] at hll; simp at hll
 have hjl := Z8f _ hlines
 refine Ok.bind.2 (Ok.gd.2 ⟨by omega, Ok.some.2 ?_⟩)
 have etr : Lib.trimSuffix (Rh r) [10] = Ka (Ky r) := trim_cat hne
 rw [etr]
 refine Ok.bind.2 (Ok.bind.2 (Ok.gd.2 ⟨⟨by omega, rfl, .inl rfl, rfl⟩, Ok.some.2 (Ok.some.2 ?_)⟩))
 have esp : Wf (decide ((0 : Int) = 1)) (([10] : Str).getD 0 0) (Ka (Ky r)) [] = Ky r := Z8w _ hne hlines
 rw [esp]
 refine Ok.bind.2 (Z0x (fun s => ∃ x : Nat, s.2.2 = x ∧ x ≤ r.Arcs.length + 3 ∧ Tx s.2.1 ((Wm r).take x) ∧ s.2.1.length ≤ 200 * x ∧ 0 ≤ s.1 ∧ s.1 ≤ 10 * x) (fun s => (r.Arcs.length + 3 - s.2.2).toNat) ⟨0, rfl, by omega, Tx.nil, by simp, by simp, by simp⟩ (by unfold Xk; simp only; omega) ?_)
 rintro ⟨k, text, x0⟩ ⟨x, h1, h2, h3, h4, h5, h6⟩ P next exit
 simp only at h1 h3 h4 h5 h6 next ⊢
 subst h1
 unfold Z12
 refine Ok.ite.2 ⟨fun hx => ?_, fun hx => ?_⟩
 ·
  have hxl : x < r.Arcs.length + 3 := by omega
  obtain ⟨w, hw⟩ : ∃ w, (Wm r).getD x [] = w := ⟨_, rfl⟩
  have hwh := wh_of r x hxl
  rw [hw] at hwh
  have hwm : w ∈ Wm r := by rw [← hw]; exact Kc (by omega) _
  have hws := Z41 hn w hwm
  have hhi := hi_all hn hwh
  have hfew := hws.few
  have hwl := hws.all
  have hjw := (Lo w hws.all).2
  have hline : (Ky r).getD x [] = jn w := by
   rw [← hw]; unfold Ky
   rw [List.getD_eq_getElem?_getD, List.getElem?_map, List.getElem?_eq_getElem (by omega), List.getD_eq_getElem?_getD, List.getElem?_eq_getElem (by omega)]; rfl
  refine Ok.gd.2 ⟨⟨by omega, by omega⟩, ?_⟩
  obtain ⟨v, hv, hv0, hv1⟩ := Z2l (most := 7) (k := k) ⟨h5, by omega⟩ (by omega) hh
  refine Ok.bind.2 (Uf hv ?_)
  simp only
  obtain ⟨s, hs⟩ : ∃ s, noises.getD v.toNat [] = s := ⟨_, rfl⟩
  obtain ⟨n1, n2⟩ := noise_tx s (by rw [← hs]; exact Kc (by show v.toNat < 7; omega) _)
  rw [hs, Int.toNat_natCast, hline]
  refine Ok.gd.2 ⟨⟨hv0, by show v < 7; exact hv1⟩, Ok.gd.2 ⟨by rw [List.length_append]; omega, ?_⟩⟩
  have base := h3.noise n1
  refine Ok.bind.2 (Ok.bind.2 (Ok.gd.2 ⟨⟨by omega, rfl, .inl rfl, rfl⟩, Ok.some.2 (Ok.some.2 ?_)⟩))
  have esw : Wf (decide ((0 : Int) = 1)) (([32] : Str).getD 0 0) (jn w) [] = w := Z9h w hws.ne hhi
  rw [esw]
  refine Ok.bind.2 (Z0x (fun z => ∃ (i : Nat) (cur : Str), z.2.2 = i ∧ i ≤ w.length ∧ z.2.1 = (text ++ s) ++ cur ∧ Cl cur (w.take i) ∧ cur.length ≤ 24 * i ∧ 0 ≤ z.1 ∧ z.1 ≤ k + 1 + i) (fun z => (w.length - z.2.2).toNat) ⟨0, [], rfl, by omega, by rw [List.append_nil], Cl.nil, by simp, by simp only; omega, by simp only; omega⟩ (by unfold Xk; simp only; omega) ?_)
  rintro ⟨k2, tx, y0⟩ ⟨i, cur, g1, g2, g3, g4, g5, g6, g7⟩ P2 next2 exit2
  simp only at g1 g3 g6 g7 next2 ⊢
  subst g1 g3
  have htl : ((text ++ s) ++ cur).length ≤ 200 * x + 10 + 24 * i := by rw [List.length_append, List.length_append]; omega
  unfold Z0h
  refine Ok.ite.2 ⟨fun hi => ?_, fun hi => ?_⟩
  ·
   have hil : i < w.length := by omega
   obtain ⟨u, hu⟩ : ∃ u, w.getD i [] = u := ⟨_, rfl⟩
   have hum : u ∈ w := by rw [← hu]; exact Kc hil _
   have huh := hhi u hum
   have hul := (hwl u hum).len
   have htk : w.take (i + 1) = w.take i ++ [u] := by rw [List.take_add_one, ← hu, List.getD_eq_getElem?_getD, List.getElem?_eq_getElem hil]; rfl
   obtain ⟨q, hq, hq0, hq1⟩ := Z2l (most := 5) (k := k2) ⟨g6, by omega⟩ (by omega) hh
   obtain ⟨pd, hpd⟩ : ∃ pd, padsL.getD q.toNat [] = pd := ⟨_, rfl⟩
   obtain ⟨pd1, pd2⟩ := pads_ok pd (by rw [← hpd]; exact Kc (by show q.toNat < 5; omega) _)
   have step : ∀ (cur2 : Str), cur2.length ≤ cur.length + 1 → Cl (cur2 ++ (pd ++ u)) (w.take (i + 1)) → Ok (Rb how w k2 (i : Int) ((text ++ s) ++ cur2)) P2 := by
    intro cur2 hc2 hcl
    unfold Rb
    refine Ok.bind.2 (Uf hq ?_)
    simp only
    rw [hpd, Int.toNat_natCast, hu]
    have hl1 : (pd ++ u).length ≤ 22 := by rw [List.length_append]; omega
    have hl2 : ((text ++ s) ++ cur2).length ≤ 200 * x + 10 + 24 * i + 1 := by rw [List.length_append] at htl ⊢; omega
    refine Ok.gd.2 ⟨⟨hq0, by show q < 5; exact hq1⟩, Ok.gd.2 ⟨by omega, Ok.gd.2 ⟨by rw [List.length_append]; omega, Ok.gd.2 ⟨⟨by omega, by omega⟩, Ok.some.2 (next2 _ ⟨i + 1, cur2 ++ (pd ++ u), rfl, by omega, by rw [List.append_assoc], hcl, by rw [List.length_append]; omega, by simp only; omega, by simp only; omega⟩ (by simp only; omega))⟩⟩⟩⟩
   refine Ok.gd.2 ⟨⟨by omega, by omega⟩, Ok.ite.2 ⟨fun h0 => ?_, fun h0 => ?_⟩⟩
   ·
    refine Ok.gd.2 ⟨by rw [List.length_append, List.length_singleton]; omega, ?_⟩
    rw [List.append_assoc (text ++ s)]
    exact step (cur ++ [32]) (by rw [List.length_append, List.length_singleton]; omega) (by rw [htk]; exact g4.more pd1 huh)
   ·
    obtain rfl : i = 0 := by omega
    have hc0 : cur = [] := List.eq_nil_of_length_eq_zero (by omega)
    refine step cur (by omega) ?_
    rw [hc0, htk]
    exact Cl.first pd1 huh
  ·
   obtain rfl : i = w.length := by omega
   rw [List.take_length] at g4
   refine Ok.some.2 (exit2 _ ?_)
   simp only
   unfold Z34 Z3e
   obtain ⟨q, hq, hq0, hq1⟩ := Z2l (most := 4) (k := k2) ⟨g6, by omega⟩ (by omega) hh
   refine Ok.bind.2 (Uf hq ?_)
   simp only
   obtain ⟨ed, hed⟩ : ∃ ed, endsL.getD q.toNat [] = ed := ⟨_, rfl⟩
   obtain ⟨⟨e, he1, he2⟩, he3⟩ := ends_ok ed (by rw [← hed]; exact Kc (by show q.toNat < 4; omega) _)
   rw [hed]
   have htk : (Wm r).take (x + 1) = (Wm r).take x ++ [w] := by rw [List.take_add_one, ← hw, List.getD_eq_getElem?_getD, List.getElem?_eq_getElem (by omega)]; rfl
   refine Ok.gd.2 ⟨⟨hq0, by show q < 4; exact hq1⟩, Ok.gd.2 ⟨by rw [List.length_append]; omega, Ok.gd.2 ⟨⟨by omega, by omega⟩, Ok.some.2 (next _ ⟨x + 1, rfl, by omega, ?_, by simp only; rw [List.length_append]; omega, by simp only; omega, by simp only; omega⟩ (by simp only; omega))⟩⟩⟩
   simp only
   rw [htk, he2]
   exact base.line g4 he1 hws.ne hws.kind
 ·
  obtain rfl : x = r.Arcs.length + 3 := by omega
  refine Ok.some.2 (exit _ ?_)
  simp only
  rw [List.take_of_length_le (by omega)] at h3
  have hsaid : Vn text = Wm r := by
   have := h3 []
   rw [List.append_nil] at this
   rw [this]; show _ ++ [] = _; rw [List.append_nil]
  unfold Z3h
  obtain ⟨q, hq, hq0, hq1⟩ := Z2l (most := 2) (k := k) ⟨h5, by omega⟩ (by omega) hh
  refine Ok.bind.2 (Uf hq ?_)
  simp only
  refine Ok.ite.2 ⟨fun _ => ?_, fun _ => p_end hn hsaid (by omega)⟩
  refine Ok.bind.2 (Ok.gd.2 ⟨⟨by omega, by decide, by decide⟩, Ok.some.2 ?_⟩)
  have hts : Vn (Lib.trimRightS text [10]) = Wm r := by
   unfold Lib.trimRightS
   rw [Z8e, List.reverse_reverse, hsaid]
  refine p_end hn hts ?_
  unfold Lib.trimRightS
  rw [List.length_reverse]
  have := (List.dropWhile_sublist (fun b => ([10] : Str).contains b) (l := text.reverse)).length_le
  rw [List.length_reverse] at this
  omega
end Go.Acq
