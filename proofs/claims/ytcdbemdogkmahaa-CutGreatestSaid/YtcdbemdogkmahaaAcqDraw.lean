/- The layer of triples: a region whose order is open. -/
import Derived.Test.YtcdbemdogkmahaaAcqMem
import Derived.OrdersIn
namespace Go.Acq
open Go Go.RowKit
/-- all edges that bind point back -/
def backB (ops : Array Oper) : Bool := (List.range ops.size).all fun i => match ops[i]? with
  | some o => o.after.all fun e => !Region.binds .any e || Nat.blt e.on i
  | none => false

section any
variable {F : Fence} {P : Program} {ops : Array Oper} {Q : Exit → Act → World → Prop}

theorem ready_nil {listed : Array Bool} (hb : backB ops = true) (h : Region.ready .any ops listed = []) : ∀ i, i < ops.size → listed.getD i true = true := by
  intro i
  induction i using Nat.strongRecOn with
  | _ i ih =>
    intro hi
    cases hl : listed.getD i true with
    | true => rfl
    | false =>
      exfalso
      have hb' := List.all_eq_true.1 hb i (List.mem_range.2 hi)
      have ho : ops[i]? = some ops[i] := Array.getElem?_eq_getElem hi
      rw [ho] at hb'
      have : i ∈ Region.ready .any ops listed := by
        rw [mem_ready]
        refine ⟨hl, ops[i], ho, ?_⟩
        intro e he hbe
        have h2 := Array.all_eq_true_iff_forall_mem.1 hb' e he
        rw [hbe] at h2
        have hlt : e.on < i := by simpa using h2
        have := ih e.on hlt (by omega)
        have hsz : listed.getD e.on false = true := by
          rw [Array.getD_eq_getD_getElem?] at this hl ⊢
          cases hq : listed[e.on]? with
          | some b => rw [hq] at this; simpa using this
          | none =>
            have h3 : listed[i]? = none := by
              rw [Array.getElem?_eq_none_iff] at hq ⊢
              omega
            rw [h3] at hl; simp at hl
        exact hsz
      rw [h] at this
      cases this

/-- whatever the order: an invariant over what is done -/
theorem any_of_inv (J : (Nat → Bool) → Act → World → Prop) (hb : backB ops = true)
    (hstep : ∀ (done : Nat → Bool) i o a w, ops[i]? = some o → done i = false → (∀ e, e ∈ o.after → Region.binds .any e = true → done e.on = true) → J done a w →
      wpOpIn F 0 P ops Q i (fun a' w' => J (fun m => if m = i then true else done m) a' w') a w)
    (hend : ∀ (done : Nat → Bool) a w, (∀ i, i < ops.size → done i = true) → J done a w → Q .normal a w) :
    ∀ (fuel : Nat) (listed : Array Bool) a w, listed.size = ops.size → ((List.range ops.size).filter (fun i => !listed.getD i true)).length ≤ fuel → J (fun m => listed.getD m false) a w →
      wpAnyIn F 0 P .any ops Q fuel listed a w := by
  have hfin : ∀ (listed : Array Bool) a w, listed.size = ops.size → Region.ready .any ops listed = [] → J (fun m => listed.getD m false) a w → Q .normal a w := by
    intro listed a w hs hr hJ
    refine hend _ a w (fun i hi => ?_) hJ
    have := ready_nil hb hr i hi
    rw [Array.getD_eq_getD_getElem?] at this ⊢
    rw [Array.getElem?_eq_getElem (by omega)] at this ⊢
    simpa using this
  intro fuel
  induction fuel with
  | zero =>
    intro listed a w hs hf hJ
    have hr : Region.ready .any ops listed = [] := by
      cases hq : Region.ready .any ops listed with
      | nil => rfl
      | cons i l =>
        exfalso
        have hm : i ∈ Region.ready .any ops listed := by rw [hq]; exact .head _
        obtain ⟨hl, o, ho, _⟩ := mem_ready.1 hm
        have hi : i < ops.size := (Array.getElem?_eq_some_iff.1 ho).1
        have : i ∈ (List.range ops.size).filter (fun i => !listed.getD i true) := List.mem_filter.2 ⟨List.mem_range.2 hi, by simp [hl]⟩
        have := List.length_pos_of_mem this
        omega
    exact ⟨hr, hfin listed a w hs hr hJ⟩
  | succ fuel ih =>
    intro listed a w hs hf hJ
    refine ⟨fun hr => hfin listed a w hs hr hJ, fun i hm => ?_⟩
    obtain ⟨hl, o, ho, hafter⟩ := mem_ready.1 hm
    have hi : i < ops.size := (Array.getElem?_eq_some_iff.1 ho).1
    have hli : listed[i]? = some false := by
      rw [Array.getD_eq_getD_getElem?] at hl
      cases hq : listed[i]? with
      | none => rw [hq] at hl; simp at hl
      | some b => rw [hq] at hl; simp at hl; rw [hl]
    have hd : (fun m => listed.getD m false) i = false := by
      show listed.getD i false = false
      rw [Array.getD_eq_getD_getElem?, hli]; rfl
    refine wpOpIn_mono (fun a' w' hJ' => ih _ a' w' (by simp [hs]) ?_ ?_) (hstep _ i o a w ho hd hafter hJ)
    · have hsub : (List.range ops.size).filter (fun j => !(listed.setIfInBounds i true).getD j true) = ((List.range ops.size).filter (fun j => !listed.getD j true)).filter (fun j => decide (j ≠ i)) := by
        rw [List.filter_filter]
        apply List.filter_congr
        intro j hj
        have hjs : j < ops.size := List.mem_range.1 hj
        simp only [Array.getD_eq_getD_getElem?, Array.getElem?_setIfInBounds]
        by_cases e : i = j
        · subst e; simp [hs, hjs]
        · rw [if_neg e]
          have : decide (j ≠ i) = true := by simpa using fun h => e h.symm
          rw [this]; simp
      rw [hsub]
      have hmem : i ∈ (List.range ops.size).filter (fun j => !listed.getD j true) := List.mem_filter.2 ⟨List.mem_range.2 hi, by simp [hl]⟩
      have : (((List.range ops.size).filter (fun j => !listed.getD j true)).filter (fun j => decide (j ≠ i))).length < ((List.range ops.size).filter (fun j => !listed.getD j true)).length := by
        rw [List.length_filter_lt_length_iff_exists]
        exact ⟨i, hmem, by simp⟩
      omega
    · have : (fun m => (listed.setIfInBounds i true).getD m false) = (fun m => if m = i then true else listed.getD m false) := by
        funext m
        simp only [Array.getD_eq_getD_getElem?, Array.getElem?_setIfInBounds]
        by_cases e : i = m
        · subst e
          have : i < listed.size := by omega
          simp [this]
        · rw [if_neg e, if_neg (fun h => e h.symm)]
      rw [this]; exact hJ'
end any
/-! ### the last operations come behind all others: they have one order -/
/-- j is somewhere ahead of i -/
def reach (ops : Array Oper) : Nat → Nat → Nat → Bool
  | 0, _, _ => false
  | f + 1, i, j => match ops[i]? with
    | some o => (o.after.toList.any fun e => Region.binds .any e && Nat.beq e.on j) || (o.after.toList.any fun e => Region.binds .any e && reach ops f e.on j)
    | none => false
/-- each operation from m on comes behind all that stand ahead of it -/
def tailB (ops : Array Oper) (m : Nat) : Bool := (List.range ops.size).all fun i => Nat.blt i m || (List.range i).all fun j => reach ops ops.size i j

section phase
variable {F : Fence} {P : Program} {ops : Array Oper} {Q : Exit → Act → World → Prop}
/-- what is done is closed under what must be done before -/
def Closed (ops : Array Oper) (done : Nat → Bool) : Prop := ∀ (i : Nat) (o : Oper), ops[i]? = some o → done i = true → ∀ e, e ∈ o.after → Region.binds .any e = true → done e.on = true
theorem reach_done {done : Nat → Bool} (hc : Closed ops done) : ∀ (f i j : Nat), reach ops f i j = true → (∀ (o : Oper), ops[i]? = some o → ∀ e, e ∈ o.after → Region.binds .any e = true → done e.on = true) → done j = true
  | 0, i, j, h, _ => by simp [reach] at h
  | f + 1, i, j, h, hd => by
    unfold reach at h
    cases ho : ops[i]? with
    | none => rw [ho] at h; simp at h
    | some o =>
      rw [ho] at h
      simp only [Bool.or_eq_true, List.any_eq_true] at h
      rcases h with h | h
      · obtain ⟨e, he, h2⟩ := h
        simp only [Bool.and_eq_true] at h2
        rw [← Nat.eq_of_beq_eq_true h2.2]
        exact hd o ho e (by simpa using he) h2.1
      · obtain ⟨e, he, h2⟩ := h
        simp only [Bool.and_eq_true] at h2
        have hde := hd o ho e (by simpa using he) h2.1
        exact reach_done hc f e.on j h2.2 (fun o' ho' e' he' hb' => hc e.on o' ho' hde e' he' hb')

theorem region_phase {id : Nat} {m : Nat} (Jp : (Nat → Bool) → Act → World → Prop) (hm : P.follows .mixedOrders = true) (hb : backB ops = true) (ht : tailB ops m = true) (hms : m ≤ ops.size)
    (hstep : ∀ (done : Nat → Bool) i o a w, i < m → ops[i]? = some o → done i = false → Closed ops done → (∀ e, e ∈ o.after → Region.binds .any e = true → done e.on = true) → (∀ j, m ≤ j → done j = false) → Jp done a w →
      wpOpIn F 0 P ops Q i (fun a' w' => Jp (fun q => if q = i then true else done q) a' w') a w)
    (hend : ∀ (done : Nat → Bool) a w, (∀ i, i < m → done i = true) → Jp done a w → wpOpsIn F 0 P ops Q (List.range' m (ops.size - m)) a w)
    {a : Act} {w : World} (h0 : Jp (fun _ => false) a { w with drawn := w.drawn + 1 }) : (Code.region id ops true).wpIn F 0 P Q a w := by
  have hafter : ∀ (done : Nat → Bool) (i : Nat) (o : Oper), Closed ops done → ops[i]? = some o → m ≤ i → (∀ e, e ∈ o.after → Region.binds .any e = true → done e.on = true) → ∀ j, j < i → done j = true := by
    intro done i o hc ho hmi hd j hj
    have hi : i < ops.size := (Array.getElem?_eq_some_iff.1 ho).1
    have h1 := List.all_eq_true.1 ht i (List.mem_range.2 hi)
    simp only [Bool.or_eq_true] at h1
    rcases h1 with h1 | h1
    · have : i < m := by simpa using h1
      omega
    · exact reach_done hc _ i j (List.all_eq_true.1 h1 j (List.mem_range.2 hj)) (fun o' ho' => by rw [ho] at ho'; injection ho' with ho'; subst ho'; exact hd)
  have hclosed : ∀ (done : Nat → Bool) (i : Nat) (o : Oper), Closed ops done → ops[i]? = some o → (∀ e, e ∈ o.after → Region.binds .any e = true → done e.on = true) → Closed ops (fun q => if q = i then true else done q) := by
    intro done i o hc ho hd j o' ho' hj e he hbe
    show (if e.on = i then true else done e.on) = true
    by_cases hei : e.on = i
    · rw [if_pos hei]
    · rw [if_neg hei]
      by_cases hji : j = i
      · subst hji; rw [ho] at ho'; injection ho' with ho'; subst ho'; exact hd e he hbe
      · have hj' : done j = true := by simpa [hji] using hj
        exact hc j o' ho' hj' e he hbe
  refine wpIn_region_any hm (any_of_inv (J := fun done a w => Closed ops done ∧ (((∃ i, i < m ∧ done i = false) ∧ (∀ j, m ≤ j → done j = false) ∧ Jp done a w) ∨ (∃ q, m ≤ q ∧ q ≤ ops.size ∧ (∀ j, j < q → done j = true) ∧ (∀ j, q ≤ j → done j = false) ∧ wpOpsIn F 0 P ops Q (List.range' q (ops.size - q)) a w)))
    hb ?_ ?_ ops.size (Array.replicate ops.size false) a _ (by simp) ?_ ?_)
  · rintro done i o a w ho hdi hd ⟨hc, hJ⟩
    have hi : i < ops.size := (Array.getElem?_eq_some_iff.1 ho).1
    rcases hJ with ⟨⟨i0, hi0, hdi0⟩, htail, hJp⟩ | ⟨q, hmq, hqs, hlow, hhigh, hw⟩
    · have him : i < m := by
        rcases Nat.lt_or_ge i m with h | h
        · exact h
        · have := hafter done i o hc ho h hd i0 (by omega)
          rw [hdi0] at this; cases this
      refine wpOpIn_mono (fun a' w' hJ' => ⟨hclosed done i o hc ho hd, ?_⟩) (hstep done i o a w him ho hdi hc hd htail hJp)
      rcases Classical.em (∃ j, j < m ∧ (if j = i then true else done j) = false) with hex | hno
      · exact .inl ⟨hex, fun j hj => by show (if j = i then true else done j) = false; rw [if_neg (by omega)]; exact htail j hj, hJ'⟩
      · have hall : ∀ j, j < m → (if j = i then true else done j) = true := fun j hj => by
          cases hq : (if j = i then true else done j) with
          | true => rfl
          | false => exact absurd ⟨j, hj, hq⟩ hno
        exact .inr ⟨m, Nat.le_refl _, hms, hall, fun j hj => by show (if j = i then true else done j) = false; rw [if_neg (by omega)]; exact htail j hj, hend _ a' w' hall hJ'⟩
    · have hiq : i = q := by
        rcases Nat.lt_trichotomy i q with h | h | h
        · rw [hlow i h] at hdi; cases hdi
        · exact h
        · have := hafter done i o hc ho (by omega) hd q h
          rw [hhigh q (Nat.le_refl _)] at this; cases this
      subst hiq
      have hsz : ops.size - i = (ops.size - (i + 1)) + 1 := by omega
      rw [hsz, List.range'_succ, wpOpsIn_cons] at hw
      refine wpOpIn_mono (fun a' w' hw' => ⟨hclosed done i o hc ho hd, .inr ⟨i + 1, by omega, by omega, fun j hj => ?_, fun j hj => ?_, hw'⟩⟩) hw
      · show (if j = i then true else done j) = true
        by_cases e : j = i
        · rw [if_pos e]
        · rw [if_neg e]; exact hlow j (by omega)
      · show (if j = i then true else done j) = false
        rw [if_neg (by omega)]; exact hhigh j (by omega)
  · rintro done a w hall ⟨hc, hJ⟩
    rcases hJ with ⟨⟨i0, hi0, hdi0⟩, _, _⟩ | ⟨q, hmq, hqs, hlow, hhigh, hw⟩
    · rw [hall i0 (by omega)] at hdi0; cases hdi0
    · have hq : q = ops.size := by
        rcases Nat.lt_or_ge q ops.size with h | h
        · have := hall q h; rw [hhigh q (Nat.le_refl _)] at this; cases this
        · omega
      subst hq
      simpa [wpOpsIn] using hw
  · have : ((List.range ops.size).filter (fun i => !(Array.replicate ops.size false).getD i true)).length ≤ (List.range ops.size).length := List.length_filter_le _ _
    simpa using this
  · have hf : (fun q => (Array.replicate ops.size false).getD q false) = fun _ => false := by
      funext q
      simp only [Array.getD_eq_getD_getElem?, Array.getElem?_replicate]
      split <;> rfl
    show Closed ops (fun q => (Array.replicate ops.size false).getD q false) ∧ _
    rw [hf]
    refine ⟨fun i o _ h => by simp at h, ?_⟩
    rcases Nat.eq_zero_or_pos m with h | h
    · subst h
      exact .inr ⟨0, Nat.le_refl _, Nat.zero_le _, fun j hj => by omega, fun _ _ => rfl, hend _ _ _ (fun i hi => by omega) h0⟩
    · exact .inl ⟨⟨0, h, rfl⟩, fun _ _ => rfl, h0⟩
end phase
section quiet
variable {C : Cx} {ops : Array Oper} {Q : Exit → Act → World → Prop} {E : Env} {H : Heap}

/-- the slots and values of the operations that come right before an operation -/
def before1 (ops : Array Oper) (L : Env) (i : Nat) : Env :=
  match ops[i]? with
  | some o => o.after.toList.filterMap fun e => cond (Region.binds .any e) (L[e.on]?) none
  | none => []
/-- what is asked of one operation: it gives its value, whatever else is known -/
def Ob (C : Cx) (ops : Array Oper) (Q : Exit → Act → World → Prop) (L W : Env) (H : Heap) (i : Nat) : Prop :=
  ∀ Es : Env, TO C ops (fun e a w => match e with
    | .normal => ∃ p, L[i]? = some p ∧ Fits C.n C.D (p :: (before1 ops L i ++ (W ++ Es))) a ∧ Inv C.w0 C.M w H
    | e => Q e a w) [i] (before1 ops L i ++ (W ++ Es)) H
def Obs (C : Cx) (ops : Array Oper) (Q : Exit → Act → World → Prop) (L W : Env) (H : Heap) : List Nat → Prop
  | [] => True
  | i :: l => Ob C ops Q L W H i ∧ Obs C ops Q L W H l
theorem Obs.get {L W : Env} : ∀ {l : List Nat}, Obs C ops Q L W H l → ∀ i, i ∈ l → Ob C ops Q L W H i
  | [], _, i, h => by cases h
  | j :: l, ⟨h1, h2⟩, i, h => by
    rcases List.mem_cons.1 h with rfl | h
    · exact h1
    · exact Obs.get h2 i h

def nodupB : List Nat → Bool
  | [] => true
  | x :: xs => !(xs.any (Nat.beq x)) && nodupB xs
theorem nodupB_nodup : ∀ {l : List Nat}, nodupB l = true → l.Nodup
  | [], _ => by simp
  | x :: xs, h => by
    simp only [nodupB, Bool.and_eq_true, Bool.not_eq_true'] at h
    refine List.nodup_cons.2 ⟨fun hm => ?_, nodupB_nodup h.2⟩
    rw [any_beq.2 hm] at h; cases h.1

theorem find_mem : ∀ {L : Env} {t : Nat} {v : Value}, find L t = some v → (t, v) ∈ L
  | [], _, _, h => by simp [find] at h
  | (d, u) :: L, t, v, h => by
    rw [find_cons] at h
    by_cases e : d = t
    · subst e; rw [if_pos rfl] at h; injection h with h; subst h; exact .head _
    · rw [if_neg e] at h; exact .tail _ (find_mem h)

/-- A REGION THAT DRAWS ITS ORDER: first operations that only give values (L: their slots and values, in the text's order), then others that come behind all of these, in their order -/
theorem T.drawQT {id : Nat} (L : Env) (hm : C.P.follows .mixedOrders = true) (hb : backB ops = true) (ht : tailB ops L.length = true) (hL : L.map (fun p => some p.1) = (ops.toList.take L.length).map (·.dst)) (hn : nodupB (L.map (·.1)) = true)
    (obs : Obs C ops Q L (wo (L.map (·.1)) E) H (List.range L.length)) (k : TO C ops Q (List.range' L.length (ops.size - L.length)) (L ++ wo (L.map (·.1)) E) H) : T C (.region id ops true) Q E H := by
  intro a w hf hi
  have hlen : L.length ≤ ops.size := by
    have := congrArg List.length hL
    simp only [List.length_map, List.length_take, Array.length_toList] at this
    omega
  have hnd := nodupB_nodup hn
  have hdst : ∀ (i : Nat) (o : Oper), i < L.length → ops[i]? = some o → ∃ p : Nat × Value, L[i]? = some p ∧ o.dst = some p.1 := by
    intro i o hil ho
    refine ⟨L[i]'hil, List.getElem?_eq_getElem hil, ?_⟩
    have h1 := congrArg (fun l : List (Option Nat) => l[i]?) hL
    simp only [List.getElem?_map, List.getElem?_take_of_lt hil] at h1
    rw [List.getElem?_eq_getElem hil, show ops.toList[i]? = some o by simpa using ho] at h1
    simpa using h1.symm
  refine region_phase (m := L.length) (Jp := fun done a w => (∃ Es, Fits C.n C.D Es a ∧ (∀ j p, done j = true → L[j]? = some p → find Es p.1 = some p.2) ∧ (∀ t v, find (wo (L.map (·.1)) E) t = some v → find Es t = some v)) ∧ Inv C.w0 C.M w H)
    hm hb ht hlen ?_ ?_ ⟨⟨E, hf, fun j p h _ => absurd h (by simp), fun t v h => (find_wo E _ t v h).2⟩, hi.ofHeap rfl rfl rfl rfl⟩
  · rintro done i o a w hil ho hdi _ hafter _ ⟨⟨Es, hfit, hd, hw⟩, hinv⟩
    obtain ⟨p, hp, hod⟩ := hdst i o hil ho
    have hob := obs.get i (List.mem_range.2 hil) Es
    have hsub : ∀ t v, find (before1 ops L i ++ (wo (L.map (·.1)) E ++ Es)) t = some v → find Es t = some v := by
      intro t v h
      rw [find_append, find_append] at h
      cases h1 : find (before1 ops L i) t with
      | some u =>
        rw [h1] at h
        simp at h; subst h
        have hmem := find_mem h1
        unfold before1 at hmem
        rw [ho] at hmem
        simp only [List.mem_filterMap] at hmem
        obtain ⟨e, he, hx⟩ := hmem
        cases hbe : Region.binds .any e with
        | false => rw [hbe] at hx; simp at hx
        | true =>
          rw [hbe] at hx
          simp only [cond_true] at hx
          exact hd e.on (t, u) (hafter e (by simpa using he) hbe) hx
      | none =>
        rw [h1] at h
        simp only [Option.none_or] at h
        cases h2 : find (wo (L.map (·.1)) E) t with
        | some u => rw [h2] at h; simp at h; subst h; exact hw t u h2
        | none => rw [h2] at h; simpa using h
    have hsub2 : ∀ t v, find Es t = some v → find (before1 ops L i ++ (wo (L.map (·.1)) E ++ Es)) t = some v := by
      intro t v h
      cases h1 : find (before1 ops L i ++ (wo (L.map (·.1)) E ++ Es)) t with
      | some u => rw [← hsub t u h1, h]
      | none =>
        rw [find_append, find_append, h] at h1
        cases h2 : find (before1 ops L i) t <;> cases h3 : find (wo (L.map (·.1)) E) t <;> simp [h2, h3] at h1
    have hh := hob a w (hfit.weak hsub) hinv
    have hh' : wpOpIn (FW C.ρ) 0 C.P ops Q i (fun a' w' => ∃ p, L[i]? = some p ∧ Fits C.n C.D (p :: (before1 ops L i ++ (wo (L.map (·.1)) E ++ Es))) a' ∧ Inv C.w0 C.M w' H) a w := by
      rw [wpOpsIn_cons] at hh
      unfold wpOpIn at hh ⊢
      rw [ho] at hh ⊢
      simp only at hh ⊢
      split
      · rename_i hwt
        simp only [hwt, if_true] at hh
        refine ⟨hh.1, ?_⟩
        have h2 := hh.2
        generalize (o.semAt (FW C.ρ).round a.eval).run C.P w = r at h2 ⊢
        cases r with
        | ok x w' => cases x <;> exact h2
        | halt x w' => cases x <;> exact h2
      · rename_i hwt
        simp only [hwt, if_false, Bool.false_eq_true] at hh
        exact hh
    refine wpOpIn_mono ?_ hh'
    rintro a' w' ⟨p', hp', hfit', hinv'⟩
    rw [hp] at hp'; injection hp' with hp'; subst hp'
    refine ⟨⟨p :: (before1 ops L i ++ (wo (L.map (·.1)) E ++ Es)), hfit', fun j q hj hq => ?_, fun t v h => ?_⟩, hinv'⟩
    · obtain ⟨pd, pv⟩ := p
      rw [find_cons]
      by_cases e : j = i
      · subst e; rw [hp] at hq; injection hq with hq; subst hq; rw [if_pos rfl]
      · have hne : pd ≠ q.1 := by
          intro e2
          have hii := List.getElem?_eq_some_iff.1 hp
          have hjj := List.getElem?_eq_some_iff.1 hq
          have h1 : (L.map (·.1))[i]? = some pd := by rw [List.getElem?_map, hp]; rfl
          have h2 : (L.map (·.1))[j]? = some pd := by rw [List.getElem?_map, hq, e2]; rfl
          have := (List.getElem?_inj (by simpa using hjj.1) hnd).1 (h2.trans h1.symm)
          exact e this
        rw [if_neg hne]
        have hj' : done j = true := by simpa [e] using hj
        exact hsub2 _ _ (hd j q hj' hq)
    · obtain ⟨pd, pv⟩ := p
      rw [find_cons, if_neg]
      · exact hsub2 t v (hw t v h)
      · rintro rfl
        exact (find_wo E _ _ _ h).1 (by
          have : (pd, pv) ∈ L := List.mem_of_getElem? hp
          exact List.mem_map_of_mem (f := (·.1)) this)
  · rintro done a w hall ⟨⟨Es, hfit, hd, hw⟩, hinv⟩
    refine k a w (hfit.weak fun t v h => ?_) hinv
    rw [find_append] at h
    cases h1 : find L t with
    | some u =>
      rw [h1] at h; simp at h; subst h
      obtain ⟨j, hj⟩ := List.getElem?_of_mem (find_mem h1)
      have hjl := (List.getElem?_eq_some_iff.1 hj).1
      exact hd j (t, u) (hall j (by omega)) hj
    | none => rw [h1] at h; exact hw t v (by simpa using h)

/-- the end of one operation's obligation -/
theorem X.ob {L W : Env} {i d : Nat} {v : Value} {Es : Env} {B : Env} {H' : Heap} (hL : L[i]? = some (d, v)) (hH : Pick H H') :
    X C (fun e a w => match e with
      | .normal => ∃ p, L[i]? = some p ∧ Fits C.n C.D (p :: (B ++ (W ++ Es))) a ∧ Inv C.w0 C.M w H
      | e => Q e a w) .normal ((d, v) :: (B ++ (W ++ Es))) H' := fun _ _ hf hi => ⟨_, hL, hf, hi.pick hH⟩
/-- the same, where the slot was decided behind its operation -/
theorem X.ob2 {L W : Env} {i d : Nat} {v v0 : Value} {Es : Env} {B : Env} {H' : Heap} (hL : L[i]? = some (d, v)) (hH : Pick H H') :
    X C (fun e a w => match e with
      | .normal => ∃ p, L[i]? = some p ∧ Fits C.n C.D (p :: (B ++ (W ++ Es))) a ∧ Inv C.w0 C.M w H
      | e => Q e a w) .normal ((d, v) :: (d, v0) :: (B ++ (W ++ Es))) H' := fun _ _ hf hi => ⟨_, hL, hf.weak (fun t u h => by
    rw [find_cons] at h ⊢
    split
    · rename_i e; rw [if_pos e] at h; exact h
    · rename_i e; rw [if_neg e] at h; rw [find_cons, if_neg e]; exact h), hi.pick hH⟩
end quiet
end Go.Acq
