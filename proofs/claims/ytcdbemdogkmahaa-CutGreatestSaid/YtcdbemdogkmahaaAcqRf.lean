/- The layer of triples: ranges over functions: an iterator's contract over whatever loop body; the loop; a function's end with marks among its deferred calls. -/
import Derived.Test.YtcdbemdogkmahaaAcqRw
import Derived.RangeFuncSeq
namespace Go.Acq
open Go Go.RowKit
abbrev ids (H : Heap) : List Nat := H.filterMap (·.1)
/-- the mark of a loop, and its block -/
abbrev mkD (r : Nat) : Deferred := { target := .collected r, args := #[] }
abbrev mkO : Obj := .deferred (some [])
def markH : List Nat → Heap
  | [] => []
  | r :: ms => (some r, mkO) :: markH ms
section
variable {w0 w w' w'' : World} {M M' : List Nat} {H H' Hm R : Heap} {b : Nat} {o o' : Obj}
theorem Pick.skip {p : Option Nat × Obj} (h : Pick H' H) : Pick H' (p :: H) := by
  obtain ⟨S, ns, hn, hS⟩ := h
  refine ⟨p :: S, ns, hn, ?_⟩
  rw [List.cons_append]
  exact (List.Perm.cons p hS).trans List.perm_middle.symm
theorem Inv.put (h : Inv w0 M w ((some b, o) :: R)) (o' : Obj) : Inv w0 M (w.putObj b o') ((some b, o') :: R) :=
  h.upd (Take.head _ _) rfl rfl rfl World.putObj_size (World.putObj_heap_same (h.lt (.head _))) (fun _ hk => World.putObj_heap_other hk)
theorem HB.monoM {cs : List Value} (h : HB w0 M b cs) (hne : cs ≠ []) (hi : Inv w0 M w H) (hp : List.Perm H (Hm ++ R)) (hM : Hm.filterMap (·.1) = M') : HB w M' b cs :=
  ⟨fun j v hj => hi.cell_old (h.has j v hj) h.far, fun hm => by
    subst hM
    obtain ⟨o, ho⟩ := of_mem_ids hm
    obtain ⟨v, cs', rfl⟩ := List.exists_cons_of_ne_nil hne
    have h0 := h.has 0 v rfl
    have hb : b < w0.heap.size := by
      unfold World.cell? at h0
      split at h0
      · rename_i he; exact (Array.getElem?_eq_some_iff.1 he).1
      · cases h0
    rcases hi.low b o ((List.Perm.mem_iff hp).2 (List.mem_append_left _ ho)) with hl | hl
    · omega
    · exact h.far hl⟩
end
/-- what a call of yield does: y's step, whatever the iterator's own blocks -/
def YC {S X V : Type} (P : Program) (l : Nat) (enc : V → List Value) (y : S → V → Option (S ⊕ X)) (J : S ⊕ X → Heap → Prop) (w : World) (M : List Nat) : Prop :=
  ∀ (s : S) (v : V) (r : S ⊕ X), y s v = some r → ∀ (w' : World) (Hs : Heap), J (.inl s) Hs → Inv w M w' Hs →
    YieldAt (FW none) 0 P l (enc v).toArray w' fun e w'' => ∃ Hs', J r Hs' ∧ e = .returned (.bool r.isLeft) ∧ Inv w' (ids Hs) w'' Hs'
section rules
variable {C : Cx} {ops : Array Oper} {Q : Exit → Act → World → Prop} {l : List Nat} {E : Env} {H R : Heap} {i d : Nat} {ty : TypeId} {pos : String} {af : Array Edge} {g : Option (Nat × Bool)}
/-- an iterator calls yield -/
theorem TO.yield {S X V : Type} {lp : Nat} {enc : V → List Value} {y : S → V → Option (S ⊕ X)} {J : S ⊕ X → Heap → Prop} {x : Operand} {xs : Array Operand} {at' : Array TypeId} {t r : S ⊕ X} {v : V} {Ho Hs : Heap}
    (hρ : C.ρ = none) (hY : YC C.P lp enc y J C.w0 C.M) (hr : yieldM y t v = some r) (hJ : J t Hs)
    (ho : ops[i]? = some ⟨some d, .call ⟨.value x, xs, at'⟩, ty, pos, af, g⟩) (hg : gdB ops E g = true) (hd : Nat.ble (d + 1) C.n = true)
    (hx : ev E x = some (.func (.yield lp) #[] #[])) (hxs : evs E xs.toList = some (enc v)) (hH : H = Ho ++ Hs)
    (kk : ∀ Hs', J r Hs' → TO C ops Q l ((d, .bool r.isLeft) :: E) (Ho ++ Hs')) : TO C ops Q (i :: l) E H := by
  obtain ⟨s, rfl, hys⟩ := yieldM_some hr
  refine TO.gen ho hg (by simp) fun a w hf hi => ?_
  subst hH
  have hp : List.Perm (Ho ++ Hs) (Hs ++ Ho) := List.perm_append_comm
  have hi' := hi.perm hp
  obtain ⟨fn, tmps, assign, body, hrun, hround⟩ := hY s v r hys w Hs hJ hi'.left
  have e1 : xs.map a.eval = (enc v).toArray := by apply Array.ext'; simpa using evl_eval hf hxs
  have : (execOp a.eval ⟨some d, .call ⟨.value x, xs, at'⟩, ty, pos, af, g⟩).run C.P w = .ok (.round lp fn tmps assign body) w := by
    simp [execOp, resolve, Deferred.ofValue, invoke, hf.ev hx, e1, hrun]
  rw [this]
  rw [Oper.uponIn_round]
  rw [hρ]
  refine ⟨by simp [FW], hround.mono ?_⟩
  rintro e w' ⟨Hs', hJ', rfl, hi2⟩
  have hk := kk Hs' hJ'
  unfold TO at hk
  rw [hρ] at hk
  exact hk _ _ (hf.put hd _) (((hi'.join (List.Perm.refl _) (fun m hm => hm) hi2)).perm List.perm_append_comm)
end rules
/-- the loop's record -/
abbrev recO (fn : FuncId) (tmps : Array Value) (ps : Array Tmp) (assign body : Code) (df : Nat) (st : LoopState) (pd : Option Code) : Obj :=
  .loop { state := st, pending := pd, fn, tmps, params := ps, assign, body, defers := df }
/-- what is asked at a round's end -/
def RQ {S X : Type} (J : S ⊕ X → Heap → Prop) (jmp : X → Code) (r : S ⊕ X) (w0 : World) (M : List Nat) : Exit → Act → World → Prop
  | .normal, _, w => ∃ s Hs, r = .inl s ∧ J (.inl s) Hs ∧ Inv w0 M w Hs
  | .ret, _, w => ∃ x Hs, r = .inr x ∧ jmp x = .ret ∧ J (.inr x) Hs ∧ Inv w0 M w Hs
  | .exit id, _, w => ∃ x Hs, r = .inr x ∧ jmp x = .exit id ∧ J (.inr x) Hs ∧ Inv w0 M w Hs
  | _, _, _ => False
def putPs : List Tmp → List Value → Env → Env
  | [], _, E => E
  | _ :: _, [], E => E
  | p :: ps, v :: vs, E => putPs ps vs ((p, v) :: E)
theorem fits_putPs {n : Nat} : ∀ {ps : List Tmp} {vs : List Value} {E : Env} {tmps : Array Value} (_ : ps.all (fun p => Nat.ble (p + 1) n) = true), Fits n [] E { tmps, defers := [] } →
    Fits n [] (putPs ps vs E) { tmps := (ps.zip vs).foldl (fun tmps (t, a) => tmps.setIfInBounds t a) tmps, defers := [] }
  | [], _, _, _, _, h => h
  | _ :: _, [], _, _, _, h => h
  | p :: ps, v :: vs, E, tmps, hb, h => by
    have hb' : Nat.ble (p + 1) n = true ∧ (ps.all fun p => Nat.ble (p + 1) n) = true := by simpa only [List.all_cons, Bool.and_eq_true] using hb
    have := h.put hb'.1 v
    exact fits_putPs (ps := ps) (vs := vs) hb'.2 this
section control
variable {C : Cx} {Q : Exit → Act → World → Prop} {E : Env} {H : Heap}
/-- behind the assignments to the loop's left sides -/
def AQ (n : Nat) (w0 : World) (M : List Nat) (E1 : Env) (H1 : Heap) : Exit → Act → World → Prop := fun e a w => e = .normal ∧ Fits n [] E1 a ∧ Inv w0 M w H1
theorem X.asg {ρ : Option Nat} {P : Program} {n : Nat} {w0 : World} {M : List Nat} {E1 : Env} {H1 : Heap} (hE : AllF E1 E) (hH : Pick H1 H) : X ⟨P, ρ, n, [], w0, M⟩ (AQ n w0 M E1 H1) .normal E H :=
  fun _ _ hf hi => ⟨rfl, hf.weak hE.sub, hi.pick hH⟩
theorem X.rfNext {ρ : Option Nat} {P : Program} {n : Nat} {D : List Deferred} {S X : Type} {J : S ⊕ X → Heap → Prop} {jmp : X → Code} {r : S ⊕ X} {w0 : World} {M : List Nat} {s : S} {Hs : Heap} (h : some (Sum.inl s) = some r) (hJ : J (.inl s) Hs) (hp : Pick Hs H) :
    Acq.X ⟨P, ρ, n, D, w0, M⟩ (RQ J jmp r w0 M) .normal E H := fun _ _ _ hi => ⟨s, Hs, by injection h with h; exact h.symm, hJ, hi.pick hp⟩
theorem X.rfRet {ρ : Option Nat} {P : Program} {n : Nat} {D : List Deferred} {S X : Type} {J : S ⊕ X → Heap → Prop} {jmp : X → Code} {r : S ⊕ X} {w0 : World} {M : List Nat} {x : X} {Hs : Heap} (h : some (Sum.inr x) = some r) (hj : jmp x = .ret) (hJ : J (.inr x) Hs) (hp : Pick Hs H) :
    Acq.X ⟨P, ρ, n, D, w0, M⟩ (RQ J jmp r w0 M) .ret E H := fun _ _ _ hi => ⟨x, Hs, by injection h with h; exact h.symm, hj, hJ, hi.pick hp⟩
/-- a range over a function, not within a round -/
theorem T.rangeFunc {S X V : Type} (hρ : C.ρ = none) {gop : Operand} {ps : Array Tmp} {assign body : Code} {f : FuncId} {fs cs : Array Value} (hF : callable C.P f = true) (hg : ev E gop = some (.func (.func f) fs cs))
    (hps : ps.toList.all (fun p => Nat.ble (p + 1) C.n) = true) (enc : V → List Value) (henc : ∀ v, (enc v).length = ps.size)
    (y : S → V → Option (S ⊕ X)) (J : S ⊕ X → Heap → Prop) (jmp : X → Code) (s0 : S) (t : S ⊕ X) (Hs0 R : Heap) (hJ : J (.inl s0) Hs0) (hH : Pick (Hs0 ++ R) H)
    (it : ∀ (lp : Nat) (w : World) (J' : S ⊕ X → Heap → Prop) (H0 : Heap), J' (.inl s0) H0 → Inv w (ids H0) w H0 → YC C.P lp enc y J' w (ids H0) → ∀ lo, Inv C.w0 C.M w (((some lp, lo) :: Hs0) ++ R) → H0 = (some lp, lo) :: Hs0 →
      Fnc C.P f (fs ++ #[.func (.yield lp) #[] #[]] ++ cs) w (ids H0) (fun v N => v = .tuple #[] ∧ J' t N))
    (round : ∀ (lp : Nat) (w' : World) (s : S) (v : V) (r : S ⊕ X) (Hs : Heap), y s v = some r → J (.inl s) Hs → Inv w' (ids Hs) w' Hs → Inv C.w0 C.M w' (Hs ++ R) →
      ∃ (E1 : Env) (H1 : Heap), T ⟨C.P, some lp, C.n, [], w', ids Hs⟩ assign (AQ C.n w' (ids Hs) E1 H1) (putPs ps.toList (enc v) E) Hs ∧
        ∀ w2, Inv w2 (ids H1) w2 H1 → Inv C.w0 C.M w2 (H1 ++ R) → T ⟨C.P, some lp, C.n, [], w2, ids H1⟩ body (RQ J jmp r w2 (ids H1)) E1 H1)
    (next : ∀ s, t = .inl s → ∀ rr Hs, J (.inl s) Hs → Acq.X { C with D := mkD rr :: C.D } Q .normal E (Hs ++ ((some rr, mkO) :: R)))
    (exit : ∀ x, t = .inr x → ∀ rr Hs, J (.inr x) Hs → T { C with D := mkD rr :: C.D } (jmp x) Q E (Hs ++ ((some rr, mkO) :: R))) :
    T C (.rangeFunc gop ps assign body) Q E H := by
  intro a w hf hi0
  have hi := hi0.pick hH
  refine wpIn_rangeFunc fun fn _ => ?_
  have hFW : (FW C.ρ).round = none := by rw [hρ]; rfl
  rw [hFW]
  obtain ⟨rr, hrr⟩ : ∃ rr, w.heap.size = rr := ⟨_, rfl⟩
  obtain ⟨wa, hwa⟩ : ∃ wa, w.alloc mkO = wa := ⟨_, rfl⟩
  obtain ⟨lp, hlp⟩ : ∃ lp, wa.heap.size = lp := ⟨_, rfl⟩
  obtain ⟨lo, hlo⟩ : ∃ lo, recO fn a.tmps ps assign body rr .ready none = lo := ⟨_, rfl⟩
  obtain ⟨wb, hwb⟩ : ∃ wb, wa.alloc lo = wb := ⟨_, rfl⟩
  have hia : Inv C.w0 C.M wa ((some rr, mkO) :: (Hs0 ++ R)) := by rw [← hwa, ← hrr]; exact hi.alloc mkO
  have hib : Inv C.w0 C.M wb ((some lp, lo) :: (some rr, mkO) :: (Hs0 ++ R)) := by rw [← hwb, ← hlp]; exact hia.alloc lo
  have hlp2 : w.heap.size + 1 = lp := by rw [← hlp, ← hwa]; exact (World.size_alloc ..).symm
  have hib' : Inv C.w0 C.M wb (((some lp, lo) :: Hs0) ++ ((some rr, mkO) :: R)) := hib.perm (by
    rw [List.cons_append]
    exact List.Perm.cons _ List.perm_middle.symm)
  refine ⟨lp, [mkD rr], wb, { target := .fn (.func f) cs, args := fs.push (.func (.yield lp) #[] #[]) }, wb, f, fs ++ #[.func (.yield lp) #[] #[]] ++ cs, wb, ?_, ?_, fun _ _ => trivial, ?_, by simp [FW], ?_⟩
  · rw [run_enterLoop_outer, ← hwb, ← hlo, ← hwa, ← hlp2, ← hrr]
  · have h2 : a.eval gop = .func (.func f) fs cs := hf.ev hg
    have h3 : ∀ v, a.eval (.const v) = v := fun _ => rfl
    simp [resolve, Deferred.ofValue, h2, h3]
  · show (callFunc f (fs.push (.func (.yield lp) #[] #[]) ++ cs)).run C.P wb = _
    rw [Array.push_eq_append]
    exact run_callFunc hF _ _
  · refine callsIn_FW.2 ?_
    have hlrec : ∀ {w' : World} {M'' : List Nat} {o : Obj} {Hs : Heap}, Inv wb M'' w' ((some lp, o) :: Hs) → w'.heap[lp]? = some o := fun h => h.own lp _ (.head _)
    have hcall := it lp wb (fun r Hx => ∃ Hs, Hx = (some lp, recO fn a.tmps ps assign body rr (match r with | .inl _ => LoopState.ready | .inr _ => LoopState.done) (match r with | .inl _ => none | .inr x => some (jmp x))) :: Hs ∧ J r Hs) ((some lp, lo) :: Hs0)
      ⟨Hs0, by rw [← hlo], hJ⟩ (hib'.left.self (Pick.refl _) rfl) ?_ lo (hib'.pick (by
        refine Pick.of_perm (S := [(some rr, mkO)]) ?_
        rw [List.append_assoc]
        exact List.Perm.append_left _ (List.perm_append_singleton _ _).symm)) rfl
    · refine Calls.mono hcall ?_
      rintro e w3 ⟨v, N, ⟨rfl, Hs3, rfl, hJ3⟩, rfl, hi3⟩
      have hj3 := hib'.join (M' := ids ((some lp, lo) :: Hs0)) (List.Perm.refl _) (fun m hm => hm) hi3
      have hl3 := hj3.own lp _ (.head _)
      have hput := hj3.put (recO fn a.tmps ps assign body rr .exhausted (match t with | .inl _ => none | .inr x => some (jmp x)))
      have hfa : Fits C.n (mkD rr :: C.D) E { a with defers := [mkD rr] ++ a.defers } := ⟨hf.size, by simp [hf.defers], hf.get⟩
      have hpk : Pick (Hs3 ++ ((some rr, mkO) :: R)) ((some lp, recO fn a.tmps ps assign body rr .exhausted (match t with | .inl _ => none | .inr x => some (jmp x))) :: (Hs3 ++ ((some rr, mkO) :: R))) := Pick.skip (Pick.refl _)
      cases t with
      | inl s =>
        refine ⟨none, _, run_endLoop hl3 (by simp), ?_⟩
        exact next s rfl rr Hs3 hJ3 _ _ hfa (hput.pick hpk)
      | inr x =>
        refine ⟨some (jmp x), _, run_endLoop hl3 (by simp), ?_⟩
        exact exit x rfl rr Hs3 hJ3 _ _ hfa (hput.pick hpk)
    · rintro s v r hys w' Hx ⟨Hs, rfl, hJs⟩ hi'
      have hlw := hlrec hi'
      have hout := hib'.join (M' := ids ((some lp, lo) :: Hs0)) (List.Perm.refl _) (fun m hm => hm) hi'
      have hself := hi'.self (Hm := Hs) (Pick.skip (Pick.refl _)) rfl
      have houtH : Inv C.w0 C.M w' (Hs ++ R) := hout.pick (by
        refine Pick.skip ?_
        refine Pick.of_perm (S := [(some rr, mkO)]) ?_
        rw [List.append_assoc]
        exact List.Perm.append_left _ (List.perm_append_singleton _ _).symm)
      obtain ⟨E1, H1, hasg, hbody⟩ := round lp w' s v r Hs hys hJs hself houtH
      refine ⟨_, _, _, _, run_yield hlw (by simp [henc]), ?_⟩
      refine roundIn_of_wpIn trivial ?_
      have hf0 : Fits C.n [] E { tmps := a.tmps, defers := [] } := ⟨hf.size, rfl, hf.get⟩
      have hf1 := fits_putPs (vs := enc v) hps hf0
      have hw0 := hasg _ w' hf1 hself
      have hrw : (ps.zip (enc v).toArray).foldl (fun tmps (t, a) => tmps.setIfInBounds t a) a.tmps = (ps.toList.zip (enc v)).foldl (fun tmps (t, a) => tmps.setIfInBounds t a) a.tmps := by
        rw [← Array.foldl_toList]; simp
      rw [hrw]
      refine wpIn_mono (F := FW (some lp)) hw0 ?_
      rintro e a1 w1 ⟨rfl, hfa, hia1⟩
      -- the record stands
      have hall := (hi'.self (Pick.refl _) rfl)
      have hall1 := hall.join (Hm := Hs) (R := [(some lp, recO fn a.tmps ps assign body rr .ready none)]) (M' := ids Hs) ((List.perm_append_singleton _ _).symm) (fun m hm => hm) hia1
      have hall1 := hall1.perm (List.perm_append_singleton _ _)
      have hl1 := hall1.own lp _ (.head _)
      refine ⟨_, run_beginRound hl1 rfl, ?_⟩
      have hb1 := hall1.put (recO fn a.tmps ps assign body rr .busy none)
      have hout1 := hout.join (M' := ids ((some lp, recO fn a.tmps ps assign body rr .ready none) :: Hs)) (List.Perm.refl _) (fun m hm => hm) hall1
      have hout2 := hout1.put (recO fn a.tmps ps assign body rr .busy none)
      have hs2 := hb1.self (Hm := H1) (Pick.skip (Pick.refl _)) rfl
      have hwp := hbody _ hs2 (hout2.pick (by
        refine Pick.skip ?_
        refine Pick.of_perm (S := [(some rr, mkO)]) ?_
        rw [List.append_assoc]
        exact List.Perm.append_left _ (List.perm_append_singleton _ _).symm)) a1 _ hfa hs2
      refine wpIn_mono (F := FW (some lp)) hwp ?_
      intro e a3 w3 hq
      have fin : ∀ (Hs' : Heap), Inv (w1.putObj lp (recO fn a.tmps ps assign body rr .busy none)) (ids H1) w3 Hs' → w3.heap[lp]? = some (recO fn a.tmps ps assign body rr .busy none) ∧
          ∀ o, Inv w' (ids ((some lp, recO fn a.tmps ps assign body rr .ready none) :: Hs)) (w3.putObj lp o) ((some lp, o) :: Hs') := by
        intro Hs' h
        have h2 := hb1.join (Hm := H1) (R := [(some lp, recO fn a.tmps ps assign body rr .busy none)]) (M' := ids H1) ((List.perm_append_singleton _ _).symm) (fun m hm => hm) h
        have h2 := h2.perm (List.perm_append_singleton _ _)
        exact ⟨h2.own lp _ (.head _), fun o => h2.put o⟩
      cases e with
      | normal =>
        obtain ⟨s', Hs', rfl, hJ', hi3⟩ := hq
        obtain ⟨h3, h4⟩ := fin Hs' hi3
        exact ⟨_, _, run_endRound none h3, _, ⟨Hs', rfl, hJ'⟩, rfl, h4 _⟩
      | ret =>
        obtain ⟨x, Hs', rfl, hj, hJ', hi3⟩ := hq
        obtain ⟨h3, h4⟩ := fin Hs' hi3
        refine ⟨_, _, run_endRound (some .ret) h3, _, ⟨Hs', rfl, hJ'⟩, rfl, ?_⟩
        simp only [hj]; exact h4 _
      | exit id =>
        obtain ⟨x, Hs', rfl, hj, hJ', hi3⟩ := hq
        obtain ⟨h3, h4⟩ := fin Hs' hi3
        refine ⟨_, _, run_endRound (some (.exit id)) h3, _, ⟨Hs', rfl, hJ'⟩, rfl, ?_⟩
        simp only [hj]; exact h4 _
      | goto _ => exact hq.elim
      | panic _ => exact hq.elim
      | outgrown => exact hq.elim
end control
/-! ### a function's end, with marks -/
section ends
variable {C : Cx} {E : Env} {H H' N : Heap}
theorem leaves_marks {P : Program} {fn : Func} {tmps : Array Value} {R : Ending → World → Prop} {w0 : World} {M : List Nat} : ∀ (ms : List Nat) (w : World), Inv w0 M w (markH ms ++ H') →
    (∀ w', Inv w0 M w' H' → LeavesIn (FW none) 0 P fn tmps R [] .returning w') → LeavesInM (FW none) 0 P fn tmps R (ms.map mkD) .returning w
  | [], w, hi, h => h w hi
  | r :: ms, w, hi, h => by
    refine ⟨by simp, .inl ⟨r, _, rfl, run_takeDeferred (hi.own r _ (.head _)), leaves_marks ms _ ?_ h⟩⟩
    exact (Inv.put hi (.deferred none)).pick (Pick.skip (Pick.refl _))
theorem X.retM {fn : Func} {rs : List ResultVar} {vs : List Value} {v : Value} {w0 : World} {M : List Nat} {Post : Value → Heap → Prop} (ms : List Nat) (hρ : C.ρ = none) (hw : C.w0 = w0) (hMM : C.M = M) (hD : C.D = ms.map mkD) (hfn : fn.results.toList = rs)
    (hH : Pick (markH ms ++ H') H) (hr : ∀ (j : Nat) r u, rs[j]? = some r → vs[j]? = some u → Res { C with D := [] } E H' r u) (hl : rs.length = vs.length) (hv : v = packV vs)
    (hN : Pick N H') (hP : Post v N) : Acq.X C (bodyPostM (FW none) 0 C.P fn (FncR w0 M Post)) .ret E H := by
  intro a w hf hi
  show LeavesInM (FW none) 0 C.P fn a.tmps (FncR w0 M Post) a.defers .returning w
  rw [hf.defers, hD]
  refine leaves_marks ms w (hi.pick hH) fun w' hi' => ?_
  have hx := X.ret (C := { C with D := [] }) (fn := fn) (Post := Post) hw hMM rfl hfn hr hl hv hN hP { a with defers := [] } w' ⟨hf.size, rfl, hf.get⟩ hi'
  exact hx.2
theorem X.retM1 {fn : Func} {r : ResultVar} {v : Value} {w0 : World} {M : List Nat} {Post : Value → Heap → Prop} (ms : List Nat) (hρ : C.ρ = none) (hw : C.w0 = w0) (hMM : C.M = M) (hD : C.D = ms.map mkD) (hfn : fn.results.toList = [r]) (hH : Pick (markH ms ++ H') H) (hr : Res { C with D := [] } E H' r v) (hN : Pick N H') (hP : Post v N) :
    Acq.X C (bodyPostM (FW none) 0 C.P fn (FncR w0 M Post)) .ret E H :=
  X.retM (vs := [v]) ms hρ hw hMM hD hfn hH (fun j r' u h1 h2 => by
    cases j with
    | zero => simp at h1 h2; subst h1; subst h2; exact hr
    | succ j => simp at h1) rfl rfl hN hP
theorem X.retM2 {fn : Func} {r r' : ResultVar} {v v' : Value} {w0 : World} {M : List Nat} {Post : Value → Heap → Prop} (ms : List Nat) (hρ : C.ρ = none) (hw : C.w0 = w0) (hMM : C.M = M) (hD : C.D = ms.map mkD) (hfn : fn.results.toList = [r, r']) (hH : Pick (markH ms ++ H') H) (hr : Res { C with D := [] } E H' r v) (hr' : Res { C with D := [] } E H' r' v') (hN : Pick N H') (hP : Post (.tuple #[v, v']) N) :
    Acq.X C (bodyPostM (FW none) 0 C.P fn (FncR w0 M Post)) .ret E H :=
  X.retM (vs := [v, v']) ms hρ hw hMM hD hfn hH (fun j r'' u h1 h2 => by
    match j with
    | 0 => simp at h1 h2; subst h1; subst h2; exact hr
    | 1 => simp at h1 h2; subst h1; subst h2; exact hr'
    | j + 2 => simp at h1) rfl rfl hN hP
theorem Fnc.enterM {P : Program} {f : FuncId} {fn : Func} {c : Code} {vs : List Value} {w : World} {M : List Nat} {H : Heap} {Post : Value → Heap → Prop}
    (hf : P.funcs[f]? = some fn) (hb : fn.body = some c) (hn : Nat.ble vs.length fn.ntmps = true) (hi : Inv w M w H)
    (h : T ⟨P, none, fn.ntmps, [], w, M⟩ c (bodyPostM (FW none) 0 P fn (FncR w M Post)) (enterE 0 vs) H) : Fnc P f vs.toArray w M Post := by
  have hn' := Nat.le_of_ble_eq_true hn
  refine callsIn_FW (ρ := none) (n := 0) |>.1 (callsIn_of_wp_marks hf hb trivial ?_ rfl)
  refine h _ w ⟨by simp; omega, rfl, fun t v hv => ?_⟩ hi
  obtain ⟨_, h2⟩ := find_enterE vs 0 t v hv
  rw [Nat.sub_zero] at h2
  have hlt := (List.getElem?_eq_some_iff.1 h2).1
  simp only [Array.getD_eq_getD_getElem?]
  rw [Array.getElem?_append_left (by simpa using hlt)]
  simp [h2]
end ends
end Go.Acq
namespace Go.Acq
open Go Go.RowKit
theorem X.reheap {C : Cx} {Q : Exit → Act → World → Prop} {e : Exit} {E : Env} {H H' : Heap} (h : H' = H) (k : X C Q e E H) : X C Q e E H' := by rw [h]; exact k
theorem T.reheap {C : Cx} {Q : Exit → Act → World → Prop} {c : Code} {E : Env} {H H' : Heap} (h : H' = H) (k : T C c Q E H) : T C c Q E H' := by rw [h]; exact k
end Go.Acq
namespace Go.Acq
open Go Go.RowKit
/-- a function that falls off its end -/
theorem X.fall {C : Cx} {P : Program} {fn : Func} {R : Ending → World → Prop} {E : Env} {H : Heap} (h : X C (bodyPost P fn R) .ret E H) : X C (bodyPost P fn R) .normal E H := h
end Go.Acq
namespace Go.Acq
open Go Go.RowKit
/-! ### ways that meet within a region -/
section
variable {C : Cx} {ops : Array Oper} {Q : Exit → Act → World → Prop} {l l2 : List Nat} {E E' : Env} {H H' : Heap}
/-- behind a part of a region -/
def JQ (C : Cx) (Q : Exit → Act → World → Prop) (d : Nat) (φ : Bool → Prop) (E : Env) (H : Heap) : Exit → Act → World → Prop
  | .normal, a, w => ∃ b, φ b ∧ Fits C.n C.D ((d, .bool b) :: E) a ∧ Inv C.w0 C.M w H
  | e, a, w => Q e a w
theorem wpOp_swap {ρ : Option Nat} {P : Program} {Q' : Exit → Act → World → Prop} {i : Nat} {K K' : Act → World → Prop} {a : Act} {w : World} (hq : ∀ e a w, e ≠ .normal → Q' e a w → Q e a w) (hk : ∀ a w, K' a w → K a w)
    (h : wpOpIn (FW ρ) 0 P ops Q' i K' a w) : wpOpIn (FW ρ) 0 P ops Q i K a w := by
  refine wpOpIn_mono hk ?_
  unfold wpOpIn at h ⊢
  cases ho : ops[i]? with
  | none => rw [ho] at h; exact h
  | some o =>
    rw [ho] at h
    simp only at h ⊢
    split
    · rename_i hwt
      simp only [hwt, if_true] at h
      refine ⟨h.1, ?_⟩
      have h2 := h.2
      generalize (o.semAt (FW ρ).round a.eval).run P w = r at h2 ⊢
      cases r with
      | ok x w' =>
        cases x with
        | enter f args => exact ⟨h2.1, CallsIn.mono h2.2 (fun e w' hh => by cases e with
          | returned v => exact hh
          | panicked c => exact hq _ _ _ (by simp) hh
          | outgrown => obtain ⟨a0, w0, h0⟩ := hh; exact ⟨a0, w0, hq _ _ _ (by simp) h0⟩)⟩
        | row _ => exact h2
        | round l f tmps assign body => exact ⟨h2.1, RoundIn.mono h2.2 (fun e w' hh => by cases e with
          | returned v => exact hh
          | panicked c => exact hq _ _ _ (by simp) hh
          | outgrown => obtain ⟨a0, w0, h0⟩ := hh; exact ⟨a0, w0, hq _ _ _ (by simp) h0⟩)⟩
        | _ => exact h2
      | halt x w' => cases x <;> first | exact h2 | exact hq _ _ _ (by simp) h2
    · rename_i hwt
      simp only [hwt, if_false, Bool.false_eq_true] at h
      exact h
theorem wpOps_join {ρ : Option Nat} {P : Program} {Q' : Exit → Act → World → Prop} {l2 : List Nat} (hq : ∀ e a w, e ≠ .normal → Q' e a w → Q e a w) (hn : ∀ a w, Q' .normal a w → wpOpsIn (FW ρ) 0 P ops Q l2 a w) : ∀ (l1 : List Nat) (a : Act) (w : World), wpOpsIn (FW ρ) 0 P ops Q' l1 a w → wpOpsIn (FW ρ) 0 P ops Q (l1 ++ l2) a w
  | [], a, w, h => hn a w h
  | i :: l1, a, w, h => by
    rw [List.cons_append, wpOpsIn_cons]
    rw [wpOpsIn_cons] at h
    exact wpOp_swap hq (fun a w => wpOps_join hq hn l1 a w) h
theorem TO.join (l1 l2 : List Nat) (hl : l1 ++ l2 = l) (d : Nat) (φ : Bool → Prop) (E' : Env) (h1 : TO C ops (JQ C Q d φ E' H) l1 E H) (h2 : ∀ b, φ b → TO C ops Q l2 ((d, .bool b) :: E') H) : TO C ops Q l E H := by
  subst hl
  intro a w hf hi
  refine wpOps_join (Q' := JQ C Q d φ E' H) (fun e a w hne h => ?_) (fun a w h => ?_) l1 a w (h1 a w hf hi)
  · cases e <;> first | exact absurd rfl hne | exact h
  · obtain ⟨b, hb, hfit, hinv⟩ := h
    exact h2 b hb a w hfit hinv
theorem X.jn {d : Nat} {φ : Bool → Prop} {b : Bool} (h : φ b) (hE : AllF ((d, .bool b) :: E') E) : X C (JQ C Q d φ E' H) .normal E H := fun _ _ hf hi => ⟨b, h, hf.weak hE.sub, hi⟩
end
end Go.Acq
