/- Plain law: ways, what there is along them, what is sent. -/
import Derived.Test.YtcdbemdogkmahaaAcqL03
namespace Go.Acq
open Go
set_option linter.unusedSimpArgs false
/-! ### loops that choose -/
theorem agree_of {O : Type} [DecidableEq O] {l : List (Option O)} {o : O} (hn : l ≠ []) (h : ∀ a, a ∈ l → a = some o) : agree l = some o := by
  cases l with
  | nil => exact absurd rfl hn
  | cons a l =>
    have h1 := h a List.mem_cons_self
    have : (l.all fun b => decide (b = a)) = true := List.all_eq_true.2 fun b hb => decide_eq_true (by rw [h b (List.mem_cons_of_mem _ hb), h1])
    simp only [agree]
    rw [if_pos this]
    exact h1
theorem altsM_ne (n : Nat) (seen : List Nat) : altsM n seen ≠ [] := by
  unfold altsM
  split
  · simp
  · rename_i h
    intro hc
    rw [List.map_eq_nil_iff, List.filter_eq_nil_iff] at hc
    exact h (List.all_eq_true.2 fun i hi => by have := hc i hi; simpa using this)
theorem altsM_none {n : Nat} {seen : List Nat} (h : none ∈ altsM n seen) : ∀ j, j < n → j ∈ seen := by
  unfold altsM at h
  split at h
  · rename_i h1
    intro j hj
    exact List.contains_iff_mem.1 (List.all_eq_true.1 h1 j (List.mem_range.2 hj))
  · obtain ⟨x, _, hx⟩ := List.mem_map.1 h
    cases hx
theorem altsM_some {n j : Nat} {seen : List Nat} (h : some j ∈ altsM n seen) : j < n ∧ j ∉ seen := by
  unfold altsM at h
  split at h
  · rcases List.mem_cons.1 h with h | h
    · cases h
    · cases h
  · obtain ⟨x, hx, e⟩ := List.mem_map.1 h
    injection e with e
    subst e
    obtain ⟨h1, h2⟩ := List.mem_filter.1 hx
    refine ⟨List.mem_range.1 h1, fun hm => ?_⟩
    rw [List.contains_iff_mem.2 hm] at h2; cases h2
/-- how many are left -/
def leftN (seen : List Nat) : Nat → Nat
  | 0 => 0
  | n + 1 => leftN seen n + if seen.contains n then 0 else 1
theorem leftN_lt {seen : List Nat} {j : Nat} (h2 : j ∉ seen) : ∀ n, leftN (seen ++ [j]) n ≤ leftN seen n ∧ (j < n → leftN (seen ++ [j]) n < leftN seen n)
  | 0 => ⟨Nat.le_refl _, fun h => by omega⟩
  | n + 1 => by
    have ih := leftN_lt h2 n
    have hc : ∀ i, (seen ++ [j]).contains i = true ↔ seen.contains i = true ∨ i = j := fun i => by
      rw [List.contains_iff_mem, List.contains_iff_mem, List.mem_append, List.mem_singleton]
    simp only [leftN]
    by_cases e : n = j
    · subst e
      rw [if_pos ((hc n).2 (.inr rfl)), if_neg (fun h => h2 (List.contains_iff_mem.1 h))]
      exact ⟨by omega, fun _ => by omega⟩
    · by_cases c : seen.contains n = true
      · rw [if_pos c, if_pos ((hc n).2 (.inl c))]
        exact ⟨by omega, fun h => by have := ih.2 (by omega); omega⟩
      · rw [if_neg c, if_neg (fun h => by rcases (hc n).1 h with h | h; exact c h; exact e h)]
        exact ⟨by omega, fun h => by have := ih.2 (by omega); omega⟩
theorem leftN_le (seen : List Nat) : ∀ n, leftN seen n ≤ n
  | 0 => Nat.le_refl _
  | n + 1 => by have := leftN_le seen n; simp only [leftN]; split <;> omega
theorem Ok.lpA {S K O : Type} [DecidableEq O] {alts : S → List K} {step : S → K → Option (S ⊕ O)} {n : Nat} {s0 : S} {Q : O → Prop} (I : S → Prop) (μ : S → Nat) (o : O) (h0 : I s0) (hn : μ s0 < n) (hne : ∀ s, alts s ≠ [])
    (h : ∀ s, I s → ∀ c, c ∈ alts s → ∀ P : S ⊕ O → Prop, (∀ s', I s' → μ s' < μ s → P (.inl s')) → P (.inr o) → Ok (step s c) P) (hq : Q o) : Ok (loopA alts step n s0) Q := by
  have key : ∀ n s, I s → μ s < n → loopA alts step n s = Option.some o := by
    intro n
    induction n with
    | zero => intro s _ hs; omega
    | succ n ih =>
      intro s hI hs
      refine agree_of (fun e => hne s (List.map_eq_nil_iff.1 e)) fun a ha => ?_
      obtain ⟨c, hc, rfl⟩ := List.mem_map.1 ha
      obtain ⟨r, h1, h2⟩ := h s hI c hc (fun r => match r with | .inl s' => I s' ∧ μ s' < μ s | .inr p => p = o) (fun s' a b => ⟨a, b⟩) rfl
      rw [h1]
      cases r with
      | inl s' => exact ih s' h2.1 (by have := h2.2; omega)
      | inr p => exact congrArg Option.some h2
  exact ⟨o, key n s0 h0 hn, hq⟩
/-! ### maps -/
theorem getM_putM {α : Type} {z v : α} {k i : Int} : ∀ mp : List (Int × α), getM z i (putM k v mp) = if i = k then v else getM z i mp
  | [] => by simp only [putM, getM]
  | x :: mp => by
    simp only [putM]
    by_cases h : k = x.1
    · rw [if_pos h]; simp only [getM]
      by_cases e : i = k
      · rw [if_pos e, if_pos e]
      · rw [if_neg e, if_neg e, if_neg (by omega)]
    · rw [if_neg h]; simp only [getM]
      by_cases e : i = x.1
      · rw [if_pos e, if_pos e, if_neg (by omega)]
      · rw [if_neg e, if_neg e, getM_putM mp]
theorem putM_mem {α : Type} {v : α} {k : Int} : ∀ {mp : List (Int × α)} {x : Int × α}, x ∈ putM k v mp → x.1 = k ∨ ∃ y, y ∈ mp ∧ y.1 = x.1
  | [], x, h => by simp only [putM, List.mem_singleton] at h; left; rw [h]
  | y :: mp, x, h => by
    simp only [putM] at h
    by_cases e : k = y.1
    · rw [if_pos e] at h
      rcases List.mem_cons.1 h with h | h
      · left; rw [h]
      · exact .inr ⟨x, List.mem_cons_of_mem _ h, rfl⟩
    · rw [if_neg e] at h
      rcases List.mem_cons.1 h with h | h
      · exact .inr ⟨y, List.mem_cons_self, by rw [h]⟩
      · rcases putM_mem h with h | ⟨z, h1, h2⟩
        · exact .inl h
        · exact .inr ⟨z, List.mem_cons_of_mem _ h1, h2⟩
/-- no key is there twice -/
def Apart {α : Type} : List (Int × α) → Prop
  | [] => True
  | x :: mp => (∀ y, y ∈ mp → y.1 ≠ x.1) ∧ Apart mp
theorem Apart.put {α : Type} {v : α} {k : Int} : ∀ {mp : List (Int × α)}, Apart mp → Apart (putM k v mp)
  | [], _ => ⟨fun y h => (by cases h), trivial⟩
  | x :: mp, h => by
    simp only [putM]
    by_cases e : k = x.1
    · rw [if_pos e]; exact ⟨fun y hy => by rw [e]; exact h.1 y hy, h.2⟩
    · rw [if_neg e]
      refine ⟨fun y hy => ?_, Apart.put h.2⟩
      rcases putM_mem hy with h1 | ⟨z, h1, h2⟩
      · rw [h1]; exact e
      · rw [← h2]; exact h.1 z h1
theorem Apart.at {α : Type} {z : α} (d : Int × α) : ∀ {mp : List (Int × α)} {j : Nat}, Apart mp → j < mp.length → getM z (mp.getD j d).1 mp = (mp.getD j d).2
  | [], j, _, h => by simp at h
  | x :: mp, 0, _, _ => by simp [getM]
  | x :: mp, j + 1, h, hj => by
    have hj' : j < mp.length := by simpa using hj
    have hm := h.1 _ (getD_mem hj' d)
    show getM z (mp.getD j d).1 (x :: mp) = (mp.getD j d).2
    simp only [getM]
    rw [if_neg hm]; exact Apart.at d h.2 hj'
theorem Apart.inj {α : Type} (d : Int × α) : ∀ {mp : List (Int × α)} {i j : Nat}, Apart mp → i < mp.length → j < mp.length → (mp.getD i d).1 = (mp.getD j d).1 → i = j
  | [], i, _, _, h, _, _ => by simp at h
  | x :: mp, 0, 0, _, _, _, _ => rfl
  | x :: mp, 0, j + 1, h, _, hj, e => absurd e.symm (h.1 _ (getD_mem (by simpa using hj) d))
  | x :: mp, i + 1, 0, h, hi, _, e => absurd e (h.1 _ (getD_mem (by simpa using hi) d))
  | x :: mp, i + 1, j + 1, h, hi, hj, e => congrArg (· + 1) (Apart.inj d h.2 (by simpa using hi) (by simpa using hj) e)
theorem getM_none {α : Type} {z : α} {k : Int} : ∀ {mp : List (Int × α)}, (∀ x, x ∈ mp → x.1 ≠ k) → getM z k mp = z
  | [], _ => rfl
  | x :: mp, h => by
    simp only [getM]
    rw [if_neg (fun e => h x List.mem_cons_self e.symm)]; exact getM_none fun y hy => h y (List.mem_cons_of_mem _ hy)
/-! ### ways -/
def hfr (n : Net) (h : Hop) : Int := if h.Back = true then (n.Arcs.getD h.Arc.toNat default).to else (n.Arcs.getD h.Arc.toNat default).fr
def hto (n : Net) (h : Hop) : Int := if h.Back = true then (n.Arcs.getD h.Arc.toNat default).fr else (n.Arcs.getD h.Arc.toNat default).to
def hok (n : Net) (h : Hop) : Prop := 0 ≤ h.Arc ∧ h.Arc < n.Arcs.length
/-- the first k hops are a way -/
def WayK (n : Net) (l : List Hop) (k : Nat) : Prop := (∀ i, i < k → hok n (l.getD i default)) ∧ ∀ i, i + 1 < k → hfr n (l.getD (i + 1) default) = hto n (l.getD i default)
/-- how many times more the first k hops hop along an arc than back -/
def cntH (l : List Hop) (i : Int) : Nat → Int
  | 0 => 0
  | k + 1 => cntH l i k + (if (l.getD k default).Arc = i then (if (l.getD k default).Back = true then -1 else 1) else 0)
theorem cntH_le (l : List Hop) (i : Int) : ∀ k : Nat, -(k : Int) ≤ cntH l i k ∧ cntH l i k ≤ k
  | 0 => by simp [cntH]
  | k + 1 => by
    have := cntH_le l i k
    simp only [cntH]
    split
    · split <;> omega
    · omega
structure MapIs (n : Net) (mp : List (Int × Int)) (l : List Hop) (k : Nat) : Prop where
  val : ∀ i, getM 0 i mp = cntH l i k
  key : ∀ x, x ∈ mp → 0 ≤ x.1 ∧ x.1 < n.Arcs.length
  apart : Apart mp
theorem MapIs.put {n : Net} {mp : List (Int × Int)} {l : List Hop} {k : Nat} (h : MapIs n mp l k) (hk : hok n (l.getD k default)) {v : Int} (hv : v = cntH l (l.getD k default).Arc k + (if (l.getD k default).Back = true then -1 else 1)) : MapIs n (putM (l.getD k default).Arc v mp) l (k + 1) := by
  refine ⟨fun i => ?_, fun x hx => ?_, h.apart.put⟩
  · rw [getM_putM]
    simp only [cntH]
    by_cases e : i = (l.getD k default).Arc
    · rw [if_pos e, if_pos e.symm, hv, e]
    · rw [if_neg e, if_neg (fun h => e h.symm), h.val, Int.add_zero]
  · rcases putM_mem hx with h1 | ⟨y, h1, h2⟩
    · rw [h1]; exact hk
    · rw [← h2]; exact h.key y h1
theorem s_along {n : Net} {m : Nat} {l : List Hop} (he : endsOK m n.Arcs) (hl : l.length ≤ 4611686018427387904) : Ok (m_flow_along n l) (fun r => (WayK n l l.length ∧ r.2 = true ∧ MapIs n r.1 l l.length) ∨ (¬WayK n l l.length ∧ r = ([], false))) := by
  unfold m_flow_along
  refine Ok.bind.2 (Ok.lp (fun s => ∃ k : Nat, s.2.2 = k ∧ k ≤ l.length ∧ WayK n l k ∧ MapIs n s.1 l k ∧ s.2.1 = (if k = 0 then -1 else hto n (l.getD (k - 1) default))) (fun s => (l.length - s.2.2).toNat)
    ⟨0, rfl, by omega, ⟨fun i h => by omega, fun i h => by omega⟩, ⟨fun i => rfl, fun x hx => (by cases hx), trivial⟩, rfl⟩ (by unfold FUEL; simp only; omega) ?_)
  rintro ⟨mp, last, x⟩ ⟨k, h1, hk, hway, hmp, hlast⟩ P next exit
  simp only at h1 hmp hlast next ⊢
  subst h1
  unfold m_flow_along_s1
  simp only [Int.toNat_natCast]
  refine Ok.ite.2 ⟨fun hx => ?_, fun hx => ?_⟩
  · have hkl : k < l.length := by omega
    have hnoway : ¬ hok n (l.getD k default) → P (.inr (.inl ([], false))) := fun h => exit _ (Ok.some.2 (.inr ⟨fun hw => h (hw.1 k hkl), rfl⟩))
    have j2 : ∀ b : Bool, (b = true ↔ ¬ hok n (l.getD k default)) → Ok (m_flow_along_j2 n l mp last k b) P := by
      intro b hb
      unfold m_flow_along_j2
      simp only [Int.toNat_natCast]
      refine Ok.ite.2 ⟨fun h => Ok.some.2 (hnoway (hb.1 h)), fun h => ?_⟩
      have hok' : hok n (l.getD k default) := Classical.not_not.1 fun h2 => h (hb.2 h2)
      obtain ⟨a0, a1⟩ := hok'
      have hc := cntH_le l (l.getD k default).Arc k
      have hv := hmp.val (l.getD k default).Arc
      simp only [getM_putM, if_true, hv]
      have hin : (l.getD k default).Arc.toNat < n.Arcs.length := by omega
      have e0 := he _ hin false
      have e1 := he _ hin true
      simp only [vtx, Bool.false_eq_true, if_false, if_true] at e0 e1
      have j3 : ∀ (mp' : List (Int × Int)) (a b : Int), MapIs n mp' l (k + 1) → a = hfr n (l.getD k default) → b = hto n (l.getD k default) → Ok (m_flow_along_j3 last k mp' a b) P := by
        intro mp' a b hmp' ha hb
        unfold m_flow_along_j3
        have j4 : ∀ bad : Bool, (bad = true ↔ 0 < k ∧ hfr n (l.getD k default) ≠ hto n (l.getD (k - 1) default)) → Ok (m_flow_along_j4 k mp' b bad) P := by
          intro bad hbad
          unfold m_flow_along_j4
          refine Ok.ite.2 ⟨fun h => Ok.some.2 (exit _ (Ok.some.2 (.inr ⟨fun hw => ?_, rfl⟩))), fun h => Ok.gd.2 ⟨(by (first | omega | (constructor <;> omega) | (simp only [List.length_set, List.length_replicate]; omega) | (simp only [List.length_set, List.length_replicate]; constructor <;> omega))), Ok.some.2 (next _ ⟨k + 1, by simp, by omega, ⟨fun i hi => ?_, fun i hi => ?_⟩, hmp', ?_⟩ (by simp only; omega))⟩⟩
          · obtain ⟨h1, h2⟩ := hbad.1 h
            have := hw.2 (k - 1) (by omega)
            rw [show k - 1 + 1 = k by omega] at this
            exact h2 this
          · rcases Nat.lt_or_ge i k with h | h
            · exact hway.1 i h
            · rw [show i = k by omega]; exact ⟨a0, a1⟩
          · rcases Nat.lt_or_ge (i + 1) k with h5 | h5
            · exact hway.2 i h5
            · have e : i + 1 = k := by omega
              rw [e, show i = k - 1 by omega]
              exact Classical.not_not.1 fun h6 => h (hbad.2 ⟨by omega, h6⟩)
          · rw [if_neg (by omega), Nat.add_sub_cancel]; exact hb
        by_cases hk0 : k = 0
        · rw [hlast, if_pos hk0]
          refine Ok.ite.2 ⟨fun h => by omega, fun _ => j4 _ ⟨fun h => (by cases h), fun h => by omega⟩⟩
        · have hprev := hway.1 (k - 1) (by omega)
          have hin2 : (l.getD (k - 1) default).Arc.toNat < n.Arcs.length := by have := hprev.1; have := hprev.2; omega
          have f0 := he _ hin2 false
          have f1 := he _ hin2 true
          simp only [vtx, Bool.false_eq_true, if_false, if_true] at f0 f1
          have hpos : 0 ≤ hto n (l.getD (k - 1) default) := by unfold hto; split <;> omega
          rw [hlast, if_neg hk0]
          refine Ok.ite.2 ⟨fun _ => j4 _ ?_, fun h => absurd hpos h⟩
          rw [decide_eq_true_iff, ha]
          exact ⟨fun h => ⟨by omega, h⟩, fun h => h.2⟩
      refine Ok.gd.2 ⟨⟨a0, a1⟩, Ok.gd.2 ⟨(by (first | omega | (constructor <;> omega) | (simp only [List.length_set, List.length_replicate]; omega) | (simp only [List.length_set, List.length_replicate]; constructor <;> omega))), Ok.ite.2 ⟨fun hB => Ok.gd.2 ⟨(by (first | omega | (constructor <;> omega) | (simp only [List.length_set, List.length_replicate]; omega) | (simp only [List.length_set, List.length_replicate]; constructor <;> omega))), j3 _ _ _ ?_ (by unfold hfr; rw [if_pos hB]) (by unfold hto; rw [if_pos hB])⟩, fun hB => j3 _ _ _ (hmp.put ⟨a0, a1⟩ (by rw [if_neg hB])) (by unfold hfr; rw [if_neg hB]) (by unfold hto; rw [if_neg hB])⟩⟩⟩
      have h1 := hmp.put ⟨a0, a1⟩ (v := cntH l (l.getD k default).Arc k + 1 - 2) (by rw [if_pos hB]; omega)
      refine ⟨fun i => ?_, fun x hx => ?_, hmp.apart.put.put⟩
      · have := h1.val i
        rw [getM_putM] at this ⊢
        rw [getM_putM]
        by_cases e : i = (l.getD k default).Arc
        · rw [if_pos e] at this ⊢; exact this
        · rw [if_neg e] at this ⊢; rw [if_neg e]; exact this
      · rcases putM_mem hx with h1 | ⟨y, h1, h2⟩
        · rw [h1]; exact ⟨a0, a1⟩
        · rw [← h2]
          rcases putM_mem h1 with h3 | ⟨z, h3, h4⟩
          · rw [h3]; exact ⟨a0, a1⟩
          · rw [← h4]; exact hmp.key z h3
    refine Ok.gd.2 ⟨(by (first | omega | (constructor <;> omega) | (simp only [List.length_set, List.length_replicate]; omega) | (simp only [List.length_set, List.length_replicate]; constructor <;> omega))), Ok.ite.2 ⟨fun h => j2 _ ⟨fun _ h2 => by have := h2.1; omega, fun _ => rfl⟩, fun h => j2 _ ?_⟩⟩
    rw [decide_eq_true_iff]
    exact ⟨fun h2 h3 => by have := h3.2; omega, fun h2 => Int.not_lt.1 fun h3 => h2 ⟨by omega, h3⟩⟩
  · refine Ok.some.2 (exit _ ?_)
    unfold m_flow_along_j5
    obtain rfl : k = l.length := by omega
    exact Ok.some.2 (.inl ⟨hway, rfl, hmp⟩)
end Go.Acq
