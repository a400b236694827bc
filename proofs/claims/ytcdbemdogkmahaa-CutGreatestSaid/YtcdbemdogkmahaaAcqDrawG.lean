/- The layer of triples: a region whose order is open, with operations that make memory or write it. -/
import Derived.Test.YtcdbemdogkmahaaAcqApp
namespace Go.Acq
open Go Go.RowKit
/-- of one operation: whose values it leans on; does it write a block that was there; whose new blocks it takes over; what its value and its new blocks are -/
structure Sp where
  deps : List Nat
  eff : Bool
  eats : List Nat
  rel : List Value → Value → Heap → Prop
/-- a value that is known, no memory -/
def relV (u : Value) : List Value → Value → Heap → Prop := fun _ v e => v = u ∧ e = []
/-- an effect without a value -/
def relN : List Value → Value → Heap → Prop := fun _ _ e => e = []

def depsG (S : List Sp) (i : Nat) : List Nat := match S[i]? with | some s => s.deps | none => []
def effG (S : List Sp) (i : Nat) : Bool := match S[i]? with | some s => s.eff | none => false
def eatsG (S : List Sp) (i : Nat) : List Nat := match S[i]? with | some s => s.eats | none => []
/-- has some operation that is done taken over j's blocks? -/
def eatenG (S : List Sp) (done : Nat → Bool) (j : Nat) : Bool := (List.range S.length).any fun q => done q && (eatsG S q).any (Nat.beq j)
def liveG (S : List Sp) (done : Nat → Bool) (j : Nat) : Bool := done j && !eatenG S done j
/-- does some operation take over j's blocks? -/
def eatenAll (S : List Sp) (j : Nat) : Bool := (List.range S.length).any fun q => (eatsG S q).any (Nat.beq j)
/-- what is left of the blocks that an operation leans on -/
def restG (S : List Sp) (i : Nat) : List Nat := (depsG S i).filter fun j => !(eatsG S i).any (Nat.beq j)
def relG (S : List Sp) (i : Nat) : List Value → Value → Heap → Prop := match S[i]? with | some s => s.rel | none => fun _ _ _ => False
def slotG (ops : Array Oper) (i : Nat) : Option Nat := (ops[i]?).bind (·.dst)
def factsG (ops : Array Oper) (vs : Nat → Value) : List Nat → Env
  | [] => []
  | j :: l => match slotG ops j with
    | some d => (d, vs j) :: factsG ops vs l
    | none => factsG ops vs l
def entsG (es : Nat → Heap) : List Nat → Heap
  | [] => []
  | j :: l => es j ++ entsG es l
def relsG (S : List Sp) (vs : Nat → Value) (es : Nat → Heap) : List Nat → Prop
  | [] => True
  | j :: l => relG S j ((depsG S j).map vs) (vs j) (es j) ∧ relsG S vs es l
def putG (d : Option Nat) (v : Value) (E : Env) : Env := match d with | some d => (d, v) :: E | none => E
def slotsG (ops : Array Oper) : List Nat → List Nat
  | [] => []
  | j :: l => match slotG ops j with
    | some d => d :: slotsG ops l
    | none => slotsG ops l
/-- the rank of an effect: how many effects stand ahead of it -/
def rankG (S : List Sp) (i : Nat) : Nat := ((List.range i).filter (effG S)).length

/-- the closed facts: what an operation leans on comes ahead of it; effects come one behind the other -/
def goodG (ops : Array Oper) (S : List Sp) (hd : List (List Nat)) : Bool :=
  ((List.range S.length).all fun i =>
    ((depsG S i).all fun j => Nat.blt j S.length && reach ops ops.size i j) && nodupB (depsG S i) &&
    ((eatsG S i).all fun j => Nat.blt j i && (depsG S i).any (Nat.beq j) && ((List.range S.length).all fun q => Nat.beq q i || (!(eatsG S q).any (Nat.beq j) && (!(depsG S q).any (Nat.beq j) || reach ops ops.size i q)))) && (!effG S i || (eatsG S i).isEmpty) &&
    (!effG S i || (((List.range i).all fun j => !effG S j || reach ops ops.size i j) &&
      ((hd.getD (rankG S i + 1) []).all fun j => Nat.beq j i || (Nat.blt j S.length && reach ops ops.size i j))))) &&
  (hd.getD 0 []).isEmpty

section
variable {C : Cx} {ops : Array Oper} {Q : Exit → Act → World → Prop} {E : Env} {H : Heap}

/-- what is asked of an operation that writes nothing that was there -/
def ObQ (C : Cx) (ops : Array Oper) (Q : Exit → Act → World → Prop) (S : List Sp) (W : Env) (Hc : Heap) (i : Nat) : Prop :=
  ∀ (vs : Nat → Value) (es : Nat → Heap) (Es : Env) (Hx : Heap), relsG S vs es (depsG S i) →
    TO C ops (fun e a w => match e with
      | .normal => ∃ v e', relG S i ((depsG S i).map vs) v e' ∧ Fits C.n C.D (putG (slotG ops i) v (factsG ops vs (depsG S i) ++ (W ++ Es))) a ∧ Inv C.w0 C.M w (e' ++ (Hc ++ (entsG es (restG S i) ++ Hx)))
      | e => Q e a w) [i] (factsG ops vs (depsG S i) ++ (W ++ Es)) (Hc ++ (entsG es (depsG S i) ++ Hx))
/-- what is asked of one that does -/
def ObE (C : Cx) (ops : Array Oper) (Q : Exit → Act → World → Prop) (S : List Sp) (HR : Nat → List Value → Heap → Prop) (hd : List (List Nat)) (W : Env) (Hc : Heap) (i : Nat) : Prop :=
  ∀ (vs : Nat → Value) (es : Nat → Heap) (Es : Env) (Hx hb : Heap), relsG S vs es (depsG S i) → HR (rankG S i) ((hd.getD (rankG S i) []).map vs) hb →
    TO C ops (fun e a w => match e with
      | .normal => ∃ v hb', relG S i ((depsG S i).map vs) v [] ∧ HR (rankG S i + 1) ((hd.getD (rankG S i + 1) []).map (fun j => cond (Nat.beq j i) v (vs j))) hb' ∧
          Fits C.n C.D (putG (slotG ops i) v (factsG ops vs (depsG S i) ++ (W ++ Es))) a ∧ Inv C.w0 C.M w (hb' ++ (Hc ++ (entsG es (depsG S i) ++ Hx)))
      | e => Q e a w) [i] (factsG ops vs (depsG S i) ++ (W ++ Es)) (hb ++ (Hc ++ (entsG es (depsG S i) ++ Hx)))
def ObsG (C : Cx) (ops : Array Oper) (Q : Exit → Act → World → Prop) (S : List Sp) (HR : Nat → List Value → Heap → Prop) (hd : List (List Nat)) (W : Env) (Hc : Heap) : List Nat → Prop
  | [] => True
  | i :: l => (cond (effG S i) (ObE C ops Q S HR hd W Hc i) (ObQ C ops Q S W Hc i)) ∧ ObsG C ops Q S HR hd W Hc l
theorem ObsG.get {S : List Sp} {HR : Nat → List Value → Heap → Prop} {hd : List (List Nat)} {W : Env} {Hc : Heap} : ∀ {l : List Nat}, ObsG C ops Q S HR hd W Hc l → ∀ i, i ∈ l → (cond (effG S i) (ObE C ops Q S HR hd W Hc i) (ObQ C ops Q S W Hc i))
  | [], _, i, h => by cases h
  | j :: l, ⟨h1, h2⟩, i, h => by
    rcases List.mem_cons.1 h with rfl | h
    · exact h1
    · exact ObsG.get h2 i h

theorem mem_factsG {vs : Nat → Value} {t : Nat} {v : Value} : ∀ {l : List Nat}, (t, v) ∈ factsG ops vs l → ∃ j, j ∈ l ∧ slotG ops j = some t ∧ v = vs j
  | [], h => by simp [factsG] at h
  | j :: l, h => by
    simp only [factsG] at h
    cases hs : slotG ops j with
    | none => rw [hs] at h; obtain ⟨q, h1, h2⟩ := mem_factsG h; exact ⟨q, .tail _ h1, h2⟩
    | some d =>
      rw [hs] at h
      rcases List.mem_cons.1 h with h | h
      · injection h with h1 h2; subst h1; subst h2; exact ⟨j, .head _, hs, rfl⟩
      · obtain ⟨q, h1, h2⟩ := mem_factsG h; exact ⟨q, .tail _ h1, h2⟩
theorem mem_slotsG {d : Nat} : ∀ {l : List Nat}, d ∈ slotsG ops l ↔ ∃ j, j ∈ l ∧ slotG ops j = some d
  | [] => by simp [slotsG]
  | j :: l => by
    simp only [slotsG]
    cases hs : slotG ops j with
    | none =>
      rw [mem_slotsG (l := l)]
      constructor
      · rintro ⟨q, h1, h2⟩; exact ⟨q, .tail _ h1, h2⟩
      · rintro ⟨q, h1, h2⟩
        rcases List.mem_cons.1 h1 with e | e
        · subst e; rw [hs] at h2; cases h2
        · exact ⟨q, e, h2⟩
    | some u =>
      simp only [List.mem_cons, mem_slotsG (l := l)]
      constructor
      · rintro (h | ⟨q, h1, h2⟩)
        · subst h; exact ⟨j, .inl rfl, hs⟩
        · exact ⟨q, .inr h1, h2⟩
      · rintro ⟨q, h1 | h1, h2⟩
        · subst h1; rw [hs] at h2; injection h2 with h2; exact .inl h2.symm
        · exact .inr ⟨q, h1, h2⟩
theorem slotsG_inj : ∀ {l : List Nat}, (slotsG ops l).Nodup → ∀ i j d, i ∈ l → j ∈ l → slotG ops i = some d → slotG ops j = some d → i = j
  | [], _, i, j, d, hi, _, _, _ => by cases hi
  | q :: l, hn, i, j, d, hi, hj, h1, h2 => by
    simp only [slotsG] at hn
    cases hs : slotG ops q with
    | none =>
      rw [hs] at hn
      have hi' : i ∈ l := by rcases List.mem_cons.1 hi with e | e; (subst e; rw [hs] at h1; cases h1); exact e
      have hj' : j ∈ l := by rcases List.mem_cons.1 hj with e | e; (subst e; rw [hs] at h2; cases h2); exact e
      exact slotsG_inj hn i j d hi' hj' h1 h2
    | some u =>
      rw [hs] at hn
      simp only [List.nodup_cons] at hn
      rcases List.mem_cons.1 hi with e | hi' <;> rcases List.mem_cons.1 hj with e' | hj'
      · rw [e, e']
      · subst e; rw [hs] at h1; injection h1 with h1; subst h1; exact absurd (mem_slotsG.2 ⟨j, hj', h2⟩) hn.1
      · subst e'; rw [hs] at h2; injection h2 with h2; subst h2; exact absurd (mem_slotsG.2 ⟨i, hi', h1⟩) hn.1
      · exact slotsG_inj hn.2 i j d hi' hj' h1 h2
theorem relsG_of {S : List Sp} {vs : Nat → Value} {es : Nat → Heap} : ∀ {l : List Nat}, (∀ j, j ∈ l → relG S j ((depsG S j).map vs) (vs j) (es j)) → relsG S vs es l
  | [], _ => trivial
  | j :: l, h => ⟨h j (.head _), relsG_of fun q hq => h q (.tail _ hq)⟩

/-- the blocks of what is done -/
def doneG (es : Nat → Heap) (done : Nat → Bool) (l : List Nat) : Heap := l.flatMap fun j => if done j then es j else []
theorem perm_split : ∀ (D l : List Nat), D.Nodup → (∀ j, j ∈ D → j ∈ l) → ∃ r, List.Perm l (D ++ r)
  | [], l, _, _ => ⟨l, List.Perm.refl _⟩
  | j :: D, l, hn, hs => by
    simp only [List.nodup_cons] at hn
    have hp := List.perm_cons_erase (hs j (.head _))
    obtain ⟨r, hr⟩ := perm_split D (l.erase j) hn.2 (fun q hq => by
      have hql := hs q (.tail _ hq)
      have hne : q ≠ j := by rintro rfl; exact hn.1 hq
      exact (List.mem_erase_of_ne hne).2 hql)
    exact ⟨r, hp.trans (List.Perm.cons j hr)⟩
theorem done_all {es : Nat → Heap} {done : Nat → Bool} : ∀ {D : List Nat}, (∀ j, j ∈ D → done j = true) → doneG es done D = entsG es D
  | [], _ => rfl
  | j :: D, h => by
    have ih := done_all (es := es) (D := D) (fun q hq => h q (.tail _ hq))
    unfold doneG at ih ⊢
    rw [List.flatMap_cons, entsG, if_pos (h j (.head _)), ih]
theorem done_put {es : Nat → Heap} {done : Nat → Bool} {i : Nat} (e' : Heap) (hdi : done i = false) : ∀ {l : List Nat}, l.Nodup → i ∈ l →
    List.Perm (doneG (fun j => if j = i then e' else es j) (fun q => if q = i then true else done q) l) (e' ++ doneG es done l)
  | [], _, h => by cases h
  | j :: l, hn, hm => by
    simp only [List.nodup_cons] at hn
    have hcongr : ∀ l : List Nat, i ∉ l → doneG (fun j => if j = i then e' else es j) (fun q => if q = i then true else done q) l = doneG es done l := by
      intro l hl
      unfold doneG
      induction l with
      | nil => rfl
      | cons q l ih =>
        have hq : q ≠ i := by rintro rfl; exact hl (.head _)
        rw [List.flatMap_cons, List.flatMap_cons, ih (fun h => hl (.tail _ h))]
        simp [hq]
    by_cases hji : j = i
    · subst hji
      have h1 : doneG (fun q => if q = j then e' else es q) (fun q => if q = j then true else done q) (j :: l) = e' ++ doneG es done l := by
        have := hcongr l hn.1
        unfold doneG at this ⊢
        rw [List.flatMap_cons, this]; simp
      have h2 : doneG es done (j :: l) = doneG es done l := by
        unfold doneG; rw [List.flatMap_cons, hdi]; simp
      rw [h1, h2]
    · have hm' : i ∈ l := by rcases List.mem_cons.1 hm with e | e; (exact absurd e.symm hji); exact e
      have ih := done_put (es := es) e' hdi hn.2 hm'
      have h1 : doneG (fun q => if q = i then e' else es q) (fun q => if q = i then true else done q) (j :: l) = (if done j then es j else []) ++ doneG (fun q => if q = i then e' else es q) (fun q => if q = i then true else done q) l := by
        unfold doneG; rw [List.flatMap_cons]; simp [hji]
      have h2 : doneG es done (j :: l) = (if done j then es j else []) ++ doneG es done l := by
        unfold doneG; rw [List.flatMap_cons]
      rw [h1, h2]
      refine (List.Perm.append_left _ ih).trans ?_
      rw [← List.append_assoc, ← List.append_assoc]
      exact List.Perm.append_right _ List.perm_append_comm

/-- an operation is done that takes over blocks of D -/
theorem done_eat {es : Nat → Heap} {live live' : Nat → Bool} {i : Nat} (e' : Heap) {D ea : List Nat} {l : List Nat} (hl : l.Nodup) (hil : i ∈ l) (hiD : i ∉ D) (hD : D.Nodup) (hDl : ∀ j, j ∈ D → j ∈ l ∧ live j = true)
    (hli : live i = false) (hli' : live' i = true) (h1 : ∀ j, j ≠ i → live' j = (live j && !ea.any (Nat.beq j))) (hea : ∀ j, j ∈ ea → j ∈ D) :
    ∃ Hx, List.Perm (doneG es live l) (entsG es D ++ Hx) ∧ List.Perm (doneG (fun j => if j = i then e' else es j) live' l) (e' ++ (entsG es (D.filter fun j => !ea.any (Nat.beq j)) ++ Hx)) := by
  obtain ⟨r, hr⟩ := perm_split D l hD (fun j hj => (hDl j hj).1)
  have hnd : (D ++ r).Nodup := (List.Perm.nodup_iff hr).1 hl
  have hdis := (List.nodup_append.1 hnd).2.2
  have hrn := (List.nodup_append.1 hnd).2.1
  have hir : i ∈ r := by
    rcases List.mem_append.1 ((List.Perm.mem_iff hr).1 hil) with h | h
    · exact absurd h hiD
    · exact h
  refine ⟨doneG es live r, ?_, ?_⟩
  · have h2 : List.Perm (doneG es live l) (doneG es live (D ++ r)) := hr.flatMap_right _
    rw [show doneG es live (D ++ r) = doneG es live D ++ doneG es live r by simp [doneG], done_all (fun j hj => (hDl j hj).2)] at h2
    exact h2
  · have h2 : List.Perm (doneG (fun j => if j = i then e' else es j) live' l) (doneG (fun j => if j = i then e' else es j) live' (D ++ r)) := hr.flatMap_right _
    rw [show doneG (fun j => if j = i then e' else es j) live' (D ++ r) = doneG (fun j => if j = i then e' else es j) live' D ++ doneG (fun j => if j = i then e' else es j) live' r by simp [doneG]] at h2
    have hDe : ∀ D : List Nat, i ∉ D → (∀ j, j ∈ D → live j = true) → doneG (fun j => if j = i then e' else es j) live' D = entsG es (D.filter fun j => !ea.any (Nat.beq j)) := by
      intro D
      induction D with
      | nil => intro _ _; rfl
      | cons j D ih =>
        intro hi hj
        have hji : j ≠ i := by rintro rfl; exact hi (.head _)
        have ih := ih (fun h => hi (.tail _ h)) (fun q hq => hj q (.tail _ hq))
        unfold doneG at ih ⊢
        rw [List.flatMap_cons, ih, h1 j hji, hj j (.head _), Bool.true_and, List.filter_cons]
        simp only [if_neg hji]
        cases (!ea.any (Nat.beq j)) <;> simp [entsG]
    rw [hDe D hiD (fun j hj => (hDl j hj).2)] at h2
    have hre : doneG (fun j => if j = i then e' else es j) live' r = doneG (fun j => if j = i then e' else es j) (fun q => if q = i then true else live q) r := by
      have key : ∀ r : List Nat, (∀ j, j ∈ r → j ∉ ea) → doneG (fun j => if j = i then e' else es j) live' r = doneG (fun j => if j = i then e' else es j) (fun q => if q = i then true else live q) r := by
        intro r
        induction r with
        | nil => intro _; rfl
        | cons j r ih =>
          intro hj
          have ih := ih fun q hq => hj q (.tail _ hq)
          unfold doneG at ih ⊢
          rw [List.flatMap_cons, List.flatMap_cons, ih]
          congr 1
          by_cases e : j = i
          · subst e; simp [hli']
          · have : ea.any (Nat.beq j) = false := by
              rw [Bool.eq_false_iff]
              intro h
              exact hj j (.head _) (any_beq.1 h)
            simp [e, h1 j e, this]
      exact key r fun j hj h => hdis j (hea j h) j hj rfl
    rw [hre] at h2
    have h3 := done_put (es := es) (done := live) e' hli hrn hir
    refine h2.trans ((List.Perm.append_left _ h3).trans ?_)
    rw [← List.append_assoc, ← List.append_assoc]
    exact List.Perm.append_right _ List.perm_append_comm
theorem wpOp_Q {ρ : Option Nat} {P : Program} {i : Nat} {K : Act → World → Prop} {a : Act} {w : World}
    (h : wpOpsIn (FW ρ) 0 P ops (fun e a w => match e with | .normal => K a w | e => Q e a w) [i] a w) : wpOpIn (FW ρ) 0 P ops Q i K a w := by
  rw [wpOpsIn_cons] at h
  unfold wpOpIn at h ⊢
  cases ho : ops[i]? with
  | none => rw [ho] at h; exact h
  | some o =>
    rw [ho] at h
    simp only at h ⊢
    split
    · rename_i hwt
      simp only [hwt, if_true] at h
      refine ⟨h.1, ?_⟩
      have h2 := h.2
      generalize (o.semAt (FW ρ).round a.eval).run P w = r at h2 ⊢
      cases r with
      | ok x w' => cases x <;> exact h2
      | halt x w' => cases x <;> exact h2
    · rename_i hwt
      simp only [hwt, if_false, Bool.false_eq_true] at h
      exact h

/-- A REGION THAT DRAWS ITS ORDER, of whatever operations: S says of each of the first ones what it leans on and gives; HR: what the blocks that are written hold behind so many effects -/
theorem T.drawG {id : Nat} (S : List Sp) (HR : Nat → List Value → Heap → Prop) (hd : List (List Nat)) (hb0 Hc : Heap)
    (hm : C.P.follows .mixedOrders = true) (hb : backB ops = true) (ht : tailB ops S.length = true) (hgood : goodG ops S hd = true) (hms : Nat.ble S.length ops.size = true)
    (hn : nodupB (slotsG ops (List.range S.length)) = true) (h0 : HR 0 [] hb0) (hH : Pick (hb0 ++ Hc) H)
    (obs : ObsG C ops Q S HR hd (wo (slotsG ops (List.range S.length)) E) Hc (List.range S.length))
    (k : ∀ (vs : Nat → Value) (es : Nat → Heap) (hb : Heap), relsG S vs es (List.range S.length) → HR ((List.range S.length).filter (effG S)).length ((hd.getD ((List.range S.length).filter (effG S)).length []).map vs) hb →
      TO C ops Q (List.range' S.length (ops.size - S.length)) (factsG ops vs (List.range S.length) ++ wo (slotsG ops (List.range S.length)) E) (hb ++ (Hc ++ entsG es ((List.range S.length).filter fun j => !eatenAll S j)))) :
    T C (.region id ops true) Q E H := by
  intro a w hf hi
  have hms' := Nat.le_of_ble_eq_true hms
  have hnd := nodupB_nodup hn
  simp only [goodG, Bool.and_eq_true] at hgood
  obtain ⟨hg, hd0⟩ := hgood
  have hg' : ∀ i, i < S.length → _ := fun i hi => List.all_eq_true.1 hg i (List.mem_range.2 hi)
  have hd0' : hd.getD 0 [] = [] := by simpa using hd0
  let W := wo (slotsG ops (List.range S.length)) E
  have hW : ∀ t v, find W t = some v → find E t = some v ∧ ∀ j, j < S.length → slotG ops j ≠ some t := fun t v h => by
    obtain ⟨h1, h2⟩ := find_wo E _ t v h
    exact ⟨h2, fun j hj hs => h1 (mem_slotsG.2 ⟨j, List.mem_range.2 hj, hs⟩)⟩
  -- effects that are done
  let rk : (Nat → Bool) → Nat := fun done => ((List.range S.length).filter (fun i => effG S i && done i)).length
  refine region_phase (m := S.length) (Jp := fun done a w => ∃ (vs : Nat → Value) (es : Nat → Heap) (hb : Heap) (Es : Env),
      Fits C.n C.D Es a ∧ (∀ j d, j < S.length → done j = true → slotG ops j = some d → find Es d = some (vs j)) ∧ (∀ t v, find W t = some v → find Es t = some v) ∧
      (∀ j, j < S.length → done j = true → relG S j ((depsG S j).map vs) (vs j) (es j)) ∧ (∀ j, j ∈ hd.getD (rk done) [] → j < S.length ∧ done j = true) ∧
      HR (rk done) ((hd.getD (rk done) []).map vs) hb ∧ Inv C.w0 C.M w (hb ++ (Hc ++ doneG es (liveG S done) (List.range S.length))))
    hm hb ht hms' ?_ ?_ ?_
  · rintro done i o a w hil ho hdi hcl hafter _ ⟨vs, es, hb, Es, hfit, hfacts, hbase, hrels, hhd, hHR, hinv⟩
    have hgi := hg' i hil
    simp only [Bool.and_eq_true] at hgi
    obtain ⟨⟨⟨⟨hdeps, hdnd⟩, heat⟩, heate⟩, heffs⟩ := hgi
    have hdone : ∀ j, reach ops ops.size i j = true → done j = true := fun j hj => reach_done hcl _ i j hj (fun o' ho' => by rw [ho] at ho'; injection ho' with ho'; subst ho'; exact hafter)
    have hdd : ∀ j, j ∈ depsG S i → j < S.length ∧ done j = true := fun j hj => by
      have := List.all_eq_true.1 hdeps j hj
      simp only [Bool.and_eq_true] at this
      exact ⟨by simpa using this.1, hdone j this.2⟩
    have hreld : relsG S vs es (depsG S i) := relsG_of fun j hj => hrels j (hdd j hj).1 (hdd j hj).2
    have heat' : ∀ q, q < S.length → ∀ j, j ∈ eatsG S q → j < q ∧ j ∈ depsG S q ∧ ∀ p, p < S.length → p ≠ q → j ∉ eatsG S p ∧ (j ∈ depsG S p → reach ops ops.size q p = true) := by
      intro q hq j hj
      have h1 := hg' q hq
      simp only [Bool.and_eq_true] at h1
      have h2 := List.all_eq_true.1 h1.1.1.2 j hj
      simp only [Bool.and_eq_true] at h2
      refine ⟨by simpa using h2.1.1, any_beq.1 h2.1.2, fun p hp hpq => ?_⟩
      have h3 := List.all_eq_true.1 h2.2 p (List.mem_range.2 hp)
      simp only [Bool.or_eq_true, Bool.and_eq_true, Bool.not_eq_true'] at h3
      rcases h3 with h3 | ⟨h3, h4⟩
      · exact absurd (Nat.eq_of_beq_eq_true h3) hpq
      · refine ⟨fun hm => (by rw [any_beq.2 hm] at h3; cases h3), fun hm => ?_⟩
        rcases h4 with h4 | h4
        · rw [any_beq.2 hm] at h4; cases h4
        · exact h4
    have hcl' : ∀ q, q < S.length → done q = true → ∀ p, reach ops ops.size q p = true → done p = true := fun q hq hdq p hqp =>
      reach_done hcl _ q p hqp (fun o' ho' => hcl q o' ho' hdq)
    have hlive : ∀ j, j ∈ depsG S i → liveG S done j = true := by
      intro j hj
      unfold liveG
      rw [(hdd j hj).2, Bool.true_and, Bool.not_eq_true', Bool.eq_false_iff]
      intro he
      obtain ⟨q, hq, h2⟩ := List.any_eq_true.1 he
      simp only [Bool.and_eq_true] at h2
      have hqS := List.mem_range.1 hq
      have hqi : q ≠ i := by rintro rfl; rw [hdi] at h2; cases h2.1
      have h3 := ((heat' q hqS j (any_beq.1 h2.2)).2.2 i hil (fun e => hqi e.symm)).2 hj
      have := hcl' q hqS h2.1 i h3
      rw [hdi] at this; cases this
    have hiD : i ∉ depsG S i := fun hm => by
      have := (hdd i hm).2
      rw [hdi] at this; cases this
    have hstepL : ∀ j, j ≠ i → liveG S (fun q => if q = i then true else done q) j = (liveG S done j && !(eatsG S i).any (Nat.beq j)) := by
      intro j hji
      unfold liveG
      simp only [if_neg hji]
      have : eatenG S (fun q => if q = i then true else done q) j = (eatenG S done j || (eatsG S i).any (Nat.beq j)) := by
        rw [Bool.eq_iff_iff]
        simp only [eatenG, List.any_eq_true, Bool.or_eq_true, Bool.and_eq_true]
        constructor
        · rintro ⟨q, hq, h1, h2⟩
          by_cases e : q = i
          · subst e; exact .inr h2
          · rw [if_neg e] at h1; exact .inl ⟨q, hq, h1, h2⟩
        · rintro (⟨q, hq, h1, h2⟩ | h2)
          · exact ⟨q, hq, by rw [h1]; simp, h2⟩
          · exact ⟨i, List.mem_range.2 hil, by simp, h2⟩
      rw [this]
      cases done j <;> cases eatenG S done j <;> cases (eatsG S i).any (Nat.beq j) <;> rfl
    have hlivei : liveG S (fun q => if q = i then true else done q) i = true := by
      unfold liveG
      simp only [if_true]
      rw [Bool.true_and, Bool.not_eq_true', Bool.eq_false_iff]
      intro he
      obtain ⟨q, hq, h2⟩ := List.any_eq_true.1 he
      simp only [Bool.and_eq_true] at h2
      have hqS := List.mem_range.1 hq
      obtain ⟨h3, h4, h5⟩ := heat' q hqS i (any_beq.1 h2.2)
      by_cases e : q = i
      · subst e; omega
      · have hdq : done q = true := by have := h2.1; rwa [if_neg e] at this
        have h6 := hg' q hqS
        simp only [Bool.and_eq_true] at h6
        have h7 := List.all_eq_true.1 h6.1.1.1.1 i h4
        simp only [Bool.and_eq_true] at h7
        have := hcl' q hqS hdq i h7.2
        rw [hdi] at this; cases this
    have hpermE : ∀ e' : Heap, ∃ Hx, List.Perm (doneG es (liveG S done) (List.range S.length)) (entsG es (depsG S i) ++ Hx) ∧
        List.Perm (doneG (fun j => if j = i then e' else es j) (liveG S (fun q => if q = i then true else done q)) (List.range S.length)) (e' ++ (entsG es (restG S i) ++ Hx)) := fun e' =>
      done_eat e' List.nodup_range (List.mem_range.2 hil) hiD (nodupB_nodup hdnd) (fun j hj => ⟨List.mem_range.2 (hdd j hj).1, hlive j hj⟩) (by unfold liveG; rw [hdi]; rfl) hlivei hstepL (fun j hj => (heat' i hil j hj).2.1)
    obtain ⟨Hx, hHx, hHx'⟩ : ∃ Hx, List.Perm (doneG es (liveG S done) (List.range S.length)) (entsG es (depsG S i) ++ Hx) ∧
        ∀ e' : Heap, List.Perm (doneG (fun j => if j = i then e' else es j) (liveG S (fun q => if q = i then true else done q)) (List.range S.length)) (e' ++ (entsG es (restG S i) ++ Hx)) := by
      obtain ⟨Hx, h1, _⟩ := hpermE []
      refine ⟨Hx, h1, fun e' => ?_⟩
      obtain ⟨Hy, h2, h3⟩ := hpermE e'
      exact h3.trans (List.Perm.append_left _ (List.Perm.append_left _ ((List.perm_append_left_iff _).1 (h2.symm.trans h1))))
    have hsub : ∀ t v, find (factsG ops vs (depsG S i) ++ (W ++ Es)) t = some v → find Es t = some v := by
      intro t v h
      rw [find_append, find_append] at h
      cases h1 : find (factsG ops vs (depsG S i)) t with
      | some u =>
        rw [h1] at h; simp at h; subst h
        obtain ⟨j, hj, hs, rfl⟩ := mem_factsG (find_mem h1)
        exact hfacts j t (hdd j hj).1 (hdd j hj).2 hs
      | none =>
        rw [h1] at h
        simp only [Option.none_or] at h
        cases h2 : find W t with
        | some u => rw [h2] at h; simp at h; subst h; exact hbase t u h2
        | none => rw [h2] at h; simpa using h
    have hsub2 : ∀ t v, find Es t = some v → find (factsG ops vs (depsG S i) ++ (W ++ Es)) t = some v := by
      intro t v h
      cases h1 : find (factsG ops vs (depsG S i) ++ (W ++ Es)) t with
      | some u => rw [← hsub t u h1, h]
      | none =>
        rw [find_append, find_append, h] at h1
        cases h2 : find (factsG ops vs (depsG S i)) t <;> cases h3 : find W t <;> simp [h2, h3] at h1
    have hslot : slotG ops i = o.dst := by simp [slotG, ho]
    -- the new values and blocks
    have hfin : ∀ (v : Value) (e' hb' : Heap) (a' : Act) (w' : World), relG S i ((depsG S i).map vs) v e' → (∀ j, j ∈ hd.getD (rk (fun q => if q = i then true else done q)) [] → j < S.length ∧ (if j = i then true else done j) = true) →
        HR (rk (fun q => if q = i then true else done q)) ((hd.getD (rk (fun q => if q = i then true else done q)) []).map (fun j => if j = i then v else vs j)) hb' →
        Fits C.n C.D (putG (slotG ops i) v (factsG ops vs (depsG S i) ++ (W ++ Es))) a' → Inv C.w0 C.M w' (hb' ++ (Hc ++ (e' ++ (entsG es (restG S i) ++ Hx)))) →
        ∃ (vs : Nat → Value) (es : Nat → Heap) (hb : Heap) (Es : Env), Fits C.n C.D Es a' ∧ (∀ j d, j < S.length → (if j = i then true else done j) = true → slotG ops j = some d → find Es d = some (vs j)) ∧ (∀ t v, find W t = some v → find Es t = some v) ∧
          (∀ j, j < S.length → (if j = i then true else done j) = true → relG S j ((depsG S j).map vs) (vs j) (es j)) ∧ (∀ j, j ∈ hd.getD (rk (fun q => if q = i then true else done q)) [] → j < S.length ∧ (if j = i then true else done j) = true) ∧
          HR (rk (fun q => if q = i then true else done q)) ((hd.getD (rk (fun q => if q = i then true else done q)) []).map vs) hb ∧ Inv C.w0 C.M w' (hb ++ (Hc ++ doneG es (liveG S (fun q => if q = i then true else done q)) (List.range S.length))) := by
      intro v e' hb' a' w' hrel hhd' hHR' hfit' hinv'
      refine ⟨fun j => if j = i then v else vs j, fun j => if j = i then e' else es j, hb', putG (slotG ops i) v (factsG ops vs (depsG S i) ++ (W ++ Es)), hfit', fun j d hj hdj hs => ?_, fun t u h => ?_, fun j hj hdj => ?_, hhd', hHR', ?_⟩
      · show find _ d = some (if j = i then v else vs j)
        by_cases e : j = i
        · subst e; rw [hs, if_pos rfl]; simp [putG, find_cons]
        · rw [if_neg e]
          have hdj' : done j = true := by simpa [e] using hdj
          have h1 := hsub2 _ _ (hfacts j d hj hdj' hs)
          cases hsi : slotG ops i with
          | none => exact h1
          | some di =>
            simp only [putG, find_cons]
            rw [if_neg]
            · exact h1
            · rintro rfl
              exact e (slotsG_inj hnd j i di (List.mem_range.2 hj) (List.mem_range.2 hil) hs hsi)
      · have h1 := hsub2 _ _ (hbase t u h)
        cases hsi : slotG ops i with
        | none => exact h1
        | some di =>
          simp only [putG, find_cons]
          rw [if_neg]
          · exact h1
          · rintro rfl
            exact (hW _ _ h).2 i hil hsi
      · have hmapdeps : ∀ q, q < S.length → (if q = i then true else done q) = true → (depsG S q).map (fun j => if j = i then v else vs j) = (depsG S q).map vs := by
          intro q hq hdq
          apply List.map_congr_left
          intro r hr
          have hrq := hg' q hq
          simp only [Bool.and_eq_true] at hrq
          have hrr := List.all_eq_true.1 hrq.1.1.1.1 r hr
          simp only [Bool.and_eq_true] at hrr
          have hne : r ≠ i := by
            rintro rfl
            by_cases e : q = r
            · subst e
              have := hdone q hrr.2
              rw [hdi] at this; cases this
            · have hdq' : done q = true := by simpa [e] using hdq
              have : done r = true := by
                obtain ⟨oq, hoq⟩ : ∃ oq, ops[q]? = some oq := ⟨ops[q]'(by omega), Array.getElem?_eq_getElem (by omega)⟩
                exact reach_done hcl _ q r hrr.2 (fun o' ho' => hcl q o' ho' hdq')
              rw [hdi] at this; cases this
          rw [if_neg hne]
        rw [hmapdeps j hj hdj]
        by_cases e : j = i
        · subst e; simpa using hrel
        · simp only [if_neg e]
          exact hrels j hj (by simpa [e] using hdj)
      · exact hinv'.perm (List.Perm.append_left _ (List.Perm.append_left _ (hHx' e').symm))
    have hrk : effG S i = false → rk (fun q => if q = i then true else done q) = rk done := by
      intro he
      show ((List.range S.length).filter _).length = _
      congr 1
      apply List.filter_congr
      intro j _
      by_cases e : j = i
      · subst e; simp [he]
      · simp [e]
    cases he : effG S i with
    | false =>
      have hob := obs.get i (List.mem_range.2 hil)
      rw [he] at hob
      simp only [cond_false] at hob
      have hh := hob vs es Es (Hx ++ hb) hreld a w (hfit.weak hsub) (hinv.perm (by
        refine (List.perm_append_comm).trans ?_
        rw [List.append_assoc]
        refine List.Perm.append_left _ ?_
        rw [← List.append_assoc]
        exact List.Perm.append_right _ hHx))
      refine wpOpIn_mono ?_ (wpOp_Q hh)
      rintro a' w' ⟨v, e', hrel, hfit', hinv'⟩
      refine hfin v e' hb a' w' hrel ?_ ?_ hfit' (hinv'.perm ?_)
      · rw [hrk he]
        intro j hj
        obtain ⟨h1, h2⟩ := hhd j hj
        exact ⟨h1, by rw [h2]; simp⟩
      · rw [hrk he]
        have : (hd.getD (rk done) []).map (fun j => if j = i then v else vs j) = (hd.getD (rk done) []).map vs := by
          apply List.map_congr_left
          intro j hj
          rw [if_neg]
          rintro rfl
          have := (hhd j hj).2
          rw [hdi] at this; cases this
        rw [this]
        exact hHR
      · -- e' ++ (Hc ++ (ents ++ (Hx ++ hb)))  ~  hb ++ (Hc ++ (e' ++ (ents ++ Hx)))
        have h1 : List.Perm (e' ++ (Hc ++ (entsG es (restG S i) ++ (Hx ++ hb)))) ((Hc ++ (e' ++ (entsG es (restG S i) ++ Hx))) ++ hb) := by
          have : e' ++ (Hc ++ (entsG es (restG S i) ++ (Hx ++ hb))) = (e' ++ Hc) ++ (entsG es (restG S i) ++ Hx) ++ hb := by simp [List.append_assoc]
          rw [this]
          refine List.Perm.append_right _ ?_
          have h2 : Hc ++ (e' ++ (entsG es (restG S i) ++ Hx)) = (Hc ++ e') ++ (entsG es (restG S i) ++ Hx) := by simp [List.append_assoc]
          rw [h2]
          exact List.Perm.append_right _ List.perm_append_comm
        exact h1.trans List.perm_append_comm
    | true =>
      have hob := obs.get i (List.mem_range.2 hil)
      rw [he] at hob
      simp only [cond_true] at hob
      rw [he] at heffs
      simp only [Bool.not_true, Bool.false_or, Bool.and_eq_true] at heffs
      obtain ⟨hchain, hnext⟩ := heffs
      -- effects done are just those ahead of i
      have hrki : rk done = rankG S i := by
        show ((List.range S.length).filter _).length = ((List.range i).filter (effG S)).length
        have hsplit : List.range S.length = List.range i ++ List.range' i (S.length - i) := by
          rw [List.range_eq_range', List.range_eq_range']
          have := List.range'_append_1 (s := 0) (m := i) (n := S.length - i)
          rw [Nat.zero_add] at this
          rw [this]
          congr 1; omega
        rw [hsplit, List.filter_append]
        have h1 : (List.range i).filter (fun j => effG S j && done j) = (List.range i).filter (effG S) := by
          apply List.filter_congr
          intro j hj
          have := List.all_eq_true.1 hchain j hj
          simp only [Bool.or_eq_true, Bool.not_eq_true'] at this
          rcases this with h | h
          · simp [h]
          · simp [hdone j h]
        have h2 : (List.range' i (S.length - i)).filter (fun j => effG S j && done j) = [] := by
          rw [List.filter_eq_nil_iff]
          intro j hj
          have hjr := List.mem_range'_1.1 hj
          cases hej : effG S j with
          | false => simp
          | true =>
            cases hdj : done j with
            | false => simp
            | true =>
              exfalso
              by_cases e : j = i
              · subst e; rw [hdi] at hdj; cases hdj
              · have hgj := hg' j (by omega)
                simp only [Bool.and_eq_true] at hgj
                have h3 := hgj.2
                rw [hej] at h3
                simp only [Bool.not_true, Bool.false_or, Bool.and_eq_true] at h3
                have h4 := List.all_eq_true.1 h3.1 i (List.mem_range.2 (by omega))
                rw [he] at h4
                simp only [Bool.not_true, Bool.false_or] at h4
                have : done i = true := reach_done hcl _ j i h4 (fun o' ho' => hcl j o' ho' hdj)
                rw [hdi] at this; cases this
        rw [h1, h2, List.append_nil]
      have hrki' : rk (fun q => if q = i then true else done q) = rankG S i + 1 := by
        rw [← hrki]
        show ((List.range S.length).filter _).length = ((List.range S.length).filter _).length + 1
        have : ∀ l : List Nat, l.Nodup → i ∈ l → (l.filter (fun j => effG S j && (if j = i then true else done j))).length = (l.filter (fun j => effG S j && done j)).length + 1 := by
          intro l
          induction l with
          | nil => intro _ h; cases h
          | cons j l ih =>
            intro hn hm
            simp only [List.nodup_cons] at hn
            by_cases e : j = i
            · subst e
              have hc : l.filter (fun q => effG S q && (if q = j then true else done q)) = l.filter (fun q => effG S q && done q) := by
                apply List.filter_congr
                intro q hq
                have : q ≠ j := by rintro rfl; exact hn.1 hq
                simp [this]
              rw [List.filter_cons_of_pos (by simp [he]), List.filter_cons_of_neg (by simp [hdi]), hc, List.length_cons]
            · have hm' : i ∈ l := by rcases List.mem_cons.1 hm with h | h; (exact absurd h.symm e); exact h
              have := ih hn.2 hm'
              simp only [List.filter_cons, e, if_false]
              split
              · simp only [List.length_cons]; omega
              · exact this
        exact this _ List.nodup_range (List.mem_range.2 hil)
      rw [hrki] at hHR
      have hh := hob vs es Es Hx hb hreld hHR a w (hfit.weak hsub) (hinv.perm (List.Perm.append_left _ (List.Perm.append_left _ hHx)))
      refine wpOpIn_mono ?_ (wpOp_Q hh)
      rintro a' w' ⟨v, hb', hrel, hHR', hfit', hinv'⟩
      have hrest : restG S i = depsG S i := by
        have h0 : eatsG S i = [] := by
          rw [he] at heate; simpa using heate
        unfold restG; rw [h0]; simp
      refine hfin v [] hb' a' w' hrel ?_ ?_ hfit' (by rw [hrest]; simpa using hinv')
      · rw [hrki']
        intro j hj
        have := List.all_eq_true.1 hnext j hj
        simp only [Bool.or_eq_true, Bool.and_eq_true] at this
        rcases this with h | ⟨h1, h2⟩
        · have := Nat.eq_of_beq_eq_true h; subst this; exact ⟨hil, by simp⟩
        · exact ⟨by simpa using h1, by rw [hdone j h2]; simp⟩
      · rw [hrki']
        have : (fun j => _root_.cond (Nat.beq j i) v (vs j)) = (fun j => if j = i then v else vs j) := by
          funext j
          by_cases e : j = i
          · subst e
            have : Nat.beq j j = true := by simp
            rw [this, if_pos rfl]; rfl
          · rw [if_neg e]
            have : Nat.beq j i = false := by
              cases hb : Nat.beq j i
              · rfl
              · exact absurd (Nat.eq_of_beq_eq_true hb) e
            rw [this]; rfl
        rw [← this]
        exact hHR'
  · rintro done a w hall ⟨vs, es, hb, Es, hfit, hfacts, hbase, hrels, hhd, hHR, hinv⟩
    have hrk : rk done = ((List.range S.length).filter (effG S)).length := by
      show ((List.range S.length).filter _).length = _
      congr 1
      apply List.filter_congr
      intro j hj
      simp [hall j (List.mem_range.1 hj)]
    rw [hrk] at hHR
    refine k vs es hb (relsG_of fun j hj => hrels j (List.mem_range.1 hj) (hall j (List.mem_range.1 hj))) hHR a w (hfit.weak fun t v h => ?_) ?_
    · rw [find_append] at h
      cases h1 : find (factsG ops vs (List.range S.length)) t with
      | some u =>
        rw [h1] at h; simp at h; subst h
        obtain ⟨j, hj, hs, rfl⟩ := mem_factsG (find_mem h1)
        have hj' := List.mem_range.1 hj
        exact hfacts j t hj' (hall j hj') hs
      | none => rw [h1] at h; exact hbase t v (by simpa using h)
    · have h1 : doneG es (liveG S done) (List.range S.length) = entsG es ((List.range S.length).filter fun j => !eatenAll S j) := by
        have key : ∀ l : List Nat, (∀ j, j ∈ l → j < S.length) → doneG es (liveG S done) l = entsG es (l.filter fun j => !eatenAll S j) := by
          intro l
          induction l with
          | nil => intro _; rfl
          | cons j l ih =>
            intro h
            have ih := ih fun q hq => h q (.tail _ hq)
            have hj : liveG S done j = !eatenAll S j := by
              unfold liveG eatenG eatenAll
              rw [hall j (h j (.head _)), Bool.true_and]
              congr 1
              rw [Bool.eq_iff_iff]
              simp only [List.any_eq_true, Bool.and_eq_true]
              constructor
              · rintro ⟨q, hq, _, h2⟩; exact ⟨q, hq, h2⟩
              · rintro ⟨q, hq, h2⟩; exact ⟨q, hq, hall q (List.mem_range.1 hq), h2⟩
            unfold doneG at ih ⊢
            rw [List.flatMap_cons, ih, hj, List.filter_cons]
            cases (!eatenAll S j) <;> simp [entsG]
        exact key _ fun j hj => List.mem_range.1 hj
      rw [← h1]
      exact hinv
  · have hrk0 : rk (fun _ => false) = 0 := by
      show ((List.range S.length).filter _).length = 0
      simp
    refine ⟨fun _ => undef, fun _ => [], hb0, E, hf, fun j d _ h => by simp at h, fun t v h => (hW t v h).1, fun j _ h => by simp at h, ?_, ?_, ?_⟩
    · rw [hrk0, hd0']; intro j hj; cases hj
    · rw [hrk0, hd0']; exact h0
    · have : doneG (fun _ => []) (liveG S fun _ => false) (List.range S.length) = [] := by simp [doneG]
      rw [this, List.append_nil]
      exact (hi.pick hH).ofHeap rfl rfl rfl rfl

/-- the same, with the slots written out -/
theorem T.drawL {id : Nat} (S : List Sp) (sl : List Nat) (m : Nat) (HR : Nat → List Value → Heap → Prop) (hd : List (List Nat)) (hb0 Hc : Heap)
    (hm : C.P.follows .mixedOrders = true) (hsm : S.length = m) (hsl : slotsG ops (List.range m) = sl) (hb : backB ops = true) (ht : tailB ops m = true) (hgood : goodG ops S hd = true) (hms : Nat.ble m ops.size = true)
    (hn : nodupB sl = true) (h0 : HR 0 [] hb0) (hH : Pick (hb0 ++ Hc) H)
    (obs : ObsG C ops Q S HR hd (wo sl E) Hc (List.range m))
    (k : ∀ (vs : Nat → Value) (es : Nat → Heap) (hb : Heap), relsG S vs es (List.range m) → HR ((List.range m).filter (effG S)).length ((hd.getD ((List.range m).filter (effG S)).length []).map vs) hb →
      TO C ops Q (List.range' m (ops.size - m)) (factsG ops vs (List.range m) ++ wo sl E) (hb ++ (Hc ++ entsG es ((List.range m).filter fun j => !eatenAll S j)))) :
    T C (.region id ops true) Q E H := by
  subst hsm; subst hsl
  exact T.drawG S HR hd hb0 Hc hm hb ht hgood hms hn h0 hH obs k

/-- the heaps behind so many effects, all known -/
def HRk (l : List Heap) : Nat → List Value → Heap → Prop := fun k _ hb => hb = l.getD k []
theorem TO.reenv {l : List Nat} {D D' : Env} {W : Env} (h : D' = D) (k : TO C ops Q l (D ++ W) H) : TO C ops Q l (D' ++ W) H := by rw [h]; exact k
theorem TO.reheap {l : List Nat} {H' : Heap} (h : H' = H) (k : TO C ops Q l E H) : TO C ops Q l E H' := by rw [h]; exact k
/-- the ends of obligations -/
theorem X.obQ {S : List Sp} {W Es B B' : Env} {Hc Hx : Heap} {i d : Nat} {v : Value} {e' De : Heap} {vl : List Value} {H' : Heap} (hs : slotG ops i = some d) (hr : relG S i vl v e') (hH : Pick (e' ++ (Hc ++ (De ++ Hx))) H') (hB : B = B') :
    X C (fun e a w => match e with
      | .normal => ∃ v e', relG S i vl v e' ∧ Fits C.n C.D (putG (slotG ops i) v (B ++ (W ++ Es))) a ∧ Inv C.w0 C.M w (e' ++ (Hc ++ (De ++ Hx)))
      | e => Q e a w) .normal ((d, v) :: (B' ++ (W ++ Es))) H' := by
  subst hB
  exact fun _ _ hf hi => ⟨v, e', hr, by rw [hs]; exact hf, hi.pick hH⟩
theorem X.obE {S : List Sp} {HR : Nat → List Value → Heap → Prop} {W Es B B' : Env} {Hc Hx : Heap} {i k : Nat} {vl : List Value} {F : Value → List Value} {De hb' H' : Heap} (hs : slotG ops i = none) (hr : relG S i vl undef []) (hh : HR k (F undef) hb')
    (hH : Pick (hb' ++ (Hc ++ (De ++ Hx))) H') (hB : B = B') :
    X C (fun e a w => match e with
      | .normal => ∃ v hb', relG S i vl v [] ∧ HR k (F v) hb' ∧ Fits C.n C.D (putG (slotG ops i) v (B ++ (W ++ Es))) a ∧ Inv C.w0 C.M w (hb' ++ (Hc ++ (De ++ Hx)))
      | e => Q e a w) .normal (B' ++ (W ++ Es)) H' := by
  subst hB
  exact fun _ _ hf hi => ⟨undef, hb', hr, hh, by rw [hs]; exact hf, hi.pick hH⟩
end
end Go.Acq
