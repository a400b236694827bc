/- Texts of this claim, one behind the other. -/
import Derived.Test.YtgafnhfbeiofnaaGreatA2
import Derived.Scope
import Derived.KernelRfl
import Derived.Test.YtgafnhfbeiofnaaGreatA1
import Derived.ChangeKeysEq
import Derived.Shelf.Spec.SlicesInsertGrow
set_option linter.unusedVariables false
set_option linter.unusedSimpArgs false
noncomputable section
namespace Go.Acq.Vx
open Go Go.Acq Go.RowKit
section ops
variable {P : Program} {vr : Nat → Int} {X : List (FuncId × XK)} {σ : Nm} {ρ : Option Nat} {w0 w : World} {M B : List Nat} {s s' : St} {E : En} {n : Nat} {a : Act} {d : Option Nat} {ty : TypeId} {pos : String} {af : Array Edge} {g : Option (Nat × Bool)} {v : SV} {ih : IH}
theorem lenL_beq {z : List SV} {k : Nat} (h : Nat.beq (lenL z) k = true) : z.length = k := by rw [← lenL_eq]; exact Nat.eq_of_beq_eq_true h
theorem effV_ok (hX : XsOk P X) (hF : SndF P vr ih) (hC : SndC P vr ih) (hf : FE vr σ n E a.tmps) (hw : WR P vr σ w0 M B s w) {o : Op} (h : effV P X ih E s o = some (v, s')) :
    (∃ s2, s'.heap = s2.heap ∧ s'.next = s2.next ∧ Ef P vr σ ρ w0 M B a w ⟨d, o, ty, pos, af, g⟩ v s2) ∧ ∀ c, o ≠ .defer c := by
  unfold effV at h
  split at h
  · exact ⟨⟨_, rfl, rfl, ef_fresh hf hw h⟩, by simp⟩
  · exact ⟨⟨_, rfl, rfl, ef_fresh hf hw h⟩, by simp⟩
  · exact ⟨⟨_, rfl, rfl, ef_fresh hf hw h⟩, by simp⟩
  · exact ⟨⟨_, rfl, rfl, ef_fresh hf hw h⟩, by simp⟩
  · refine ⟨?_, by simp⟩
    split at h
    · rename_i hx hy ht
      split at h
      · rename_i hc
        rw [cond_eq_ite] at h
        split at h
        · rename_i hl
          split at h
          · rename_i hp; injection h with h; injection h with h1 h2; subst h1; subst h2
            exact ⟨_, rfl, rfl, ef_store hf hw hx hy ht hc (lenL_beq hl) hp⟩
          · cases h
        · cases h
      · cases h
    · cases h
  · refine ⟨?_, by simp⟩
    split at h
    · injection h with h; injection h with h1 h2; subst h1; subst h2
      exact ⟨_, rfl, rfl, ef_mkmap hw⟩
    · cases h
  · refine ⟨?_, by simp⟩
    split at h
    · rename_i hx hy hz hm
      split at h
      · rename_i hi
        rw [cond_eq_ite] at h
        split at h
        · rename_i hc
          simp only [Bool.and_eq_true, decide_eq_true_eq] at hc
          obtain ⟨rfl, rfl⟩ := hc
          injection h with h; injection h with h1 h2; subst h1; subst h2
          exact ⟨_, rfl, rfl, ef_insert hf hw hx hy hz hm hi⟩
        · cases h
      · cases h
    · cases h
  · refine ⟨?_, by simp⟩
    split at h
    · rename_i hx hy hm
      split at h
      · rename_i hi hz
        rw [cond_eq_ite] at h
        split at h
        · rename_i hc
          simp only [Bool.and_eq_true, decide_eq_true_eq] at hc
          obtain ⟨rfl, rfl⟩ := hc
          injection h with h; injection h with h1 h2; subst h1; subst h2
          exact ⟨_, rfl, rfl, ef_lookup hf hw hx hy hm hi hz⟩
        · cases h
      · cases h
    · cases h
  · refine ⟨?_, by simp⟩
    split at h
    · rename_i hx hts
      split at h
      · rename_i ht ht2 he
        split at h
        · rename_i hr hz hb
          rw [cond_eq_ite] at h
          split at h
          · rename_i hc
            simp only [Bool.and_eq_true] at hc
            exact ⟨_, rfl, rfl, ef_append hf hw hx hts ht ht2 he hr hz hb (lenL_beq hc.1) hc.2 h⟩
          · cases h
        · cases h
      · rename_i ht _ he
        split at h
        · rename_i hi hk
          split at h
          · rename_i hz hb
            rw [cond_eq_ite] at h
            split at h
            · rename_i hc
              simp only [Bool.and_eq_true] at hc
              obtain ⟨⟨⟨⟨c1, c2⟩, c3⟩, c4⟩, c5⟩ := hc
              injection h with h; injection h with h1 h2; subst h1; subst h2
              exact ⟨_, rfl, rfl, ef_appZ hf hw hx hts ht he hi hk hz hb (lenL_beq c1) (blt_lt c2) c3 (blt_lt c4) c5⟩
            · cases h
          · cases h
        · cases h
      · cases h
    · cases h
  · refine ⟨?_, by simp⟩
    split at h
    · rename_i hx hts
      split at h
      · rename_i ht he
        split at h
        · rename_i hr
          split at h
          · rename_i hp; injection h with h; injection h with h1 h2; subst h1; subst h2
            exact ⟨_, rfl, rfl, ef_copy hf hw hx hts ht he hr hp⟩
          · cases h
        · cases h
      · cases h
    · cases h
  · refine ⟨?_, by simp⟩
    split at h
    · rename_i hx hts
      split at h
      · rename_i ht he
        split at h
        · rename_i hz
          rw [cond_eq_ite] at h
          split at h
          · split at h
            · rename_i hp; injection h with h; injection h with h1 h2; subst h1; subst h2
              exact ⟨_, rfl, rfl, ef_clear hf hw hx hts ht he hz hp⟩
            · cases h
          · cases h
        · cases h
      · cases h
    · rename_i hx hts
      split at h
      · rename_i ht; injection h with h; injection h with h1 h2; subst h1; subst h2
        exact ⟨_, rfl, rfl, ef_clear0 hf hw hx hts ht⟩
      · cases h
    · cases h
  · refine ⟨?_, by simp⟩
    split at h
    · rename_i hx hxs
      split at h
      · rename_i hk
        exact ⟨_, rfl, rfl, ef_ext hf hw (hX.get hk).1 (hX.get hk).2 hx hxs h⟩
      · split at h
        · rename_i hc; injection h with h; injection h with h1 h2; subst h1; subst h2
          exact ⟨_, rfl, rfl, ef_call hf hw hF hx hxs hc⟩
        · cases h
    · rename_i hx hxs
      split at h
      · rename_i hi
        rw [cond_eq_ite] at h
        split at h
        · rename_i hb
          simp only [Bool.and_eq_true] at hb
          split at h
          · rename_i h1
            split at h
            · rename_i h2
              split at h
              · rename_i h3
                split at h
                · rename_i h4; injection h with h; injection h with h5 h6; subst h5; subst h6
                  exact ⟨_, rfl, rfl, ef_yield hf hw hC hx hxs hi (Nat.eq_of_beq_eq_true hb.1) hb.2 h1 h2 h3 h4⟩
                · cases h
              · cases h
            · cases h
          · cases h
        · cases h
      · cases h
    · cases h
  · refine ⟨?_, by simp⟩
    split at h
    · rename_i hx hxs
      split at h
      · rename_i hm
        split at h
        · rename_i hc; injection h with h; injection h with h1 h2; subst h1; subst h2
          exact ⟨_, rfl, rfl, ef_inv hf hw hF hx hxs hm hc⟩
        · cases h
      · cases h
    · cases h
  · cases h
theorem wantS_ok {ops : Array Oper} (hf : FE vr σ n E a.tmps) {o : Oper} {b : Bool} (h : wantS ops E o.guard = some b) : Region.wanted o (yielded ops a.tmps) = b := by
 unfold Region.wanted
 cases hg : o.guard with
 | none => rw [hg] at h; simp [wantS] at h; subst h; rfl
 | some jw =>
  obtain ⟨j, want⟩ := jw
  rw [hg] at h
  simp only [wantS] at h
  cases hj : (ops[j]?).bind (·.dst) with
  | none => simp [hj] at h
  | some t =>
   rw [hj] at h
   cases ht : fnd t E with
   | none => simp [ht] at h
   | some u =>
    have hv := hf.get t u ht
    have hgd : ∀ x, a.tmps.getD t undef = x → yielded ops a.tmps j = (match a.tmps[t]? with | some (.bool b) => some b | _ => none) := fun x _ => by unfold yielded; rw [hj]; rfl
    have hy := hgd _ rfl
    simp only [ht] at h
    split at h
    ·
     rename_i b' heq
     injection heq with heq; subst heq
     injection h with h; subst h
     have := hv.bool_inv
     rw [Array.getD_eq_getD_getElem?] at this
     cases hq : a.tmps[t]? with
     | none => rw [hq] at this; simp [undef] at this
     | some q =>
      rw [hq] at this; simp at this; subst this
      rw [hq] at hy
      show (yielded ops a.tmps j == some want) = _
      rw [hy]
      rfl
    ·
     rename_i heq
     injection heq with heq; subst heq
     injection h with h; subst h
     have hu : a.tmps.getD t undef = undef := by generalize a.tmps.getD t undef = q at hv; cases hv; rfl
     rw [Array.getD_eq_getD_getElem?] at hu
     have : yielded ops a.tmps j = none := by
      rw [hy]
      cases hq : a.tmps[t]? with
      | none => rfl
      | some q => rw [hq] at hu; simp at hu; subst hu; rfl
     show (yielded ops a.tmps j == some want) = _
     rw [this]; rfl
    · cases h
theorem valO_ok (hX : XsOk P X) (hF : SndF P vr ih) (hC : SndC P vr ih) {ops : Array Oper} {i : Nat} {o : Oper} (ho : ops[i]? = some o) (hf : FE vr σ n E a.tmps) (hw : WR P vr σ w0 M B s w) (h : valO P X ih n ops o E s = some (v, s')) {K : Act → World → Prop} {Q : Exit → Act → World → Prop}
    (hK : ∀ σ' x w', σ.le σ' → VR vr σ' v x → WR P vr σ' w0 M B s' w' → K (a.put o.dst x) w') : wpOpIn (FW ρ) 0 P ops Q i K a w ∧ s'.ms = s.ms ∧ dstOk n o.dst = true := by
  unfold valO at h
  cases hd : dstOk n o.dst with
  | false => rw [hd] at h; cases h
  | true =>
    rw [hd] at h
    simp only [cond_true] at h
    refine ⟨?_, ?_, rfl⟩
    · unfold wpOpIn
      rw [ho]
      simp only
      cases hwt : wantS ops E o.guard with
      | none => rw [hwt] at h; cases h
      | some b =>
        rw [hwt] at h
        have hwd := wantS_ok hf hwt
        rw [hwd]
        cases b with
        | false =>
          simp only at h
          injection h with h; injection h with h1 h2; subst h1; subst h2
          simp only [Bool.false_eq_true, if_false]
          exact ⟨fun _ _ => trivial, hK σ undef w Nm.le_refl .und hw⟩
        | true =>
          simp only [if_true]
          simp only at h
          unfold Oper.wpIn
          refine ⟨fun _ _ => trivial, ?_⟩
          cases he : isEff o.op with
          | true =>
            rw [he] at h; simp only [cond_true] at h
            split at h
            · rename_i v2 s2 hev
              injection h with h; injection h with h1 h2; subst h1; subst h2
              obtain ⟨⟨s3, e1, e2, hef⟩, hnd⟩ := effV_ok (ρ := ρ) (d := o.dst) (ty := o.type) (pos := o.pos) (af := o.after) (g := o.guard) hX hF hC hf hw hev
              rw [Oper.semAt_eq _ _ _ hnd]
              refine hef K Q fun σ' x w' k1 k2 k3 => hK σ' x w' k1 k2 ?_
              rw [e1, e2]
              exact k3.ms s.ms
            · cases h
          | false =>
            rw [he] at h; simp only [cond_false] at h
            split at h
            · rename_i v2 hpv
              injection h with h; injection h with h1 h2; subst h1; subst h2
              obtain ⟨x, hr, hv⟩ := pureV_ok (d := o.dst) (ty := o.type) (pos := o.pos) (af := o.after) (g := o.guard) hf hw hpv
              have hnd : ∀ c, o.op ≠ .defer c := fun c e => by rw [e] at hpv; simp [pureV] at hpv
              rw [Oper.semAt_eq _ _ _ hnd, hr]
              exact hK σ x w Nm.le_refl hv hw
            · cases h
    · cases hwt : wantS ops E o.guard with
      | none => rw [hwt] at h; cases h
      | some b =>
        rw [hwt] at h
        cases b with
        | false => simp only at h; injection h with h; injection h with h1 h2; subst h2; rfl
        | true =>
          simp only at h
          cases he : isEff o.op with
          | true =>
            rw [he] at h; simp only [cond_true] at h
            split at h
            · injection h with h; injection h with h1 h2; subst h2; rfl
            · cases h
          | false =>
            rw [he] at h; simp only [cond_false] at h
            split at h
            · injection h with h; injection h with h1 h2; subst h2; rfl
            · cases h
theorem runOps_ok (hX : XsOk P X) (hF : SndF P vr ih) (hC : SndC P vr ih) {ops : Array Oper} {Q : Exit → Act → World → Prop} : ∀ {l : List Oper} {k : Nat} {σ : Nm} {E : En} {s : St} {a : Act} {w : World} {E' : En} {s' : St}, ops.toList.drop k = l → FA vr σ n E s.ms a → WR P vr σ w0 M B s w → runOps P X ih n ops l E s = some (E', s') →
    (∀ σ' a' w', σ.le σ' → FA vr σ' n E' s'.ms a' → WR P vr σ' w0 M B s' w' → Q .normal a' w') → wpOpsIn (FW ρ) 0 P ops Q (List.range' k l.length) a w
  | [], k, σ, E, s, a, w, E', s', hl, hf, hw, h, hQ => by
    simp [runOps] at h
    obtain ⟨h1, h2⟩ := h; subst h1; subst h2
    exact hQ σ a w Nm.le_refl hf hw
  | o :: l, k, σ, E, s, a, w, E', s', hl, hf, hw, h, hQ => by
    simp only [runOps] at h
    cases h0 : stepO P X ih n ops o E s with
    | none => simp [h0] at h
    | some p =>
      obtain ⟨E1, s1⟩ := p
      simp only [h0] at h
      unfold stepO at h0
      cases h1 : valO P X ih n ops o E s with
      | none => simp [h1] at h0
      | some q =>
        obtain ⟨v, s2⟩ := q
        simp [h1] at h0
        obtain ⟨e1, e2⟩ := h0; subst e1; subst e2
        have ho : ops[k]? = some o := by
          rw [← Array.getElem?_toList]
          have : (ops.toList.drop k)[0]? = some o := by rw [hl]; rfl
          rw [List.getElem?_drop] at this; simpa using this
        have hl' : ops.toList.drop (k + 1) = l := by
          rw [← List.drop_drop, hl]; rfl
        rw [List.length_cons, List.range'_succ, wpOpsIn_cons]
        have key := valO_ok (ρ := ρ) hX hF hC ho hf.fe hw h1 (K := wpOpsIn (FW ρ) 0 P ops Q (List.range' (k + 1) l.length)) (Q := Q)
        have hms := (valO_ok (ρ := ρ) hX hF hC ho hf.fe hw h1 (K := fun _ _ => True) (Q := Q) (fun _ _ _ _ _ _ => trivial)).2
        refine (key fun σ' x w' g1 g2 g3 => ?_).1
        refine runOps_ok hX hF hC hl' (σ := σ') ?_ g3 h fun σ2 a2 w2 k1 k2 k3 => hQ σ2 a2 w2 (Nm.le_trans g1 k1) k2 k3
        rw [hms.1]
        exact (hf.mono g1).put hms.2 g2
end ops
end Go.Acq.Vx
noncomputable section
namespace Go.Acq.Vx
open Go Go.Acq Go.RowKit
theorem SV.beq_eq {u v : SV} (h : SV.beq u v = true) : u = v := by
 unfold SV.beq at h
 split at h
 ·
  simp only [Bool.and_eq_true] at h
  rw [Nat.eq_of_beq_eq_true h.1.1, beqCs_eq h.1.2, beqCs_eq h.2]
 · rw [beqCs_eq h]
 · rw [beqCs_eq h]
 · exact beqC_eq h
section draw
variable {P : Program} {vr : Nat → Int} {X : List (FuncId × XK)} {ρ : Option Nat} {w0 : World} {M B : List Nat} {n : Nat} {ih : IH} {ops : Array Oper}
theorem fnd_restr {E : En} {t : Nat} {v : SV} : ∀ {ts : List Nat}, fnd t (restr E ts) = some v → t ∈ ts ∧ fnd t E = some v
 | [], h => by simp [restr, fnd] at h
 | u :: ts, h => by
  simp only [restr] at h
  cases hu : fnd u E with
  | none => rw [hu] at h; obtain ⟨h1, h2⟩ := fnd_restr h; exact ⟨.tail _ h1, h2⟩
  | some x =>
   rw [hu] at h
   simp only [fnd_cons] at h
   by_cases e : u = t
   · subst e; rw [if_pos rfl] at h; injection h with h; subst h; exact ⟨.head _, hu⟩
   · rw [if_neg e] at h; obtain ⟨h1, h2⟩ := fnd_restr h; exact ⟨.tail _ h1, h2⟩
theorem valO_quiet {o : Oper} {E : En} {s s' : St} {v : SV} (he : isEff o.op = false) (h : valO P X ih n ops o E s = some (v, s')) : s' = s := by
 unfold valO at h
 rw [cond_eq_ite] at h
 split at h
 ·
  split at h
  ·
   rw [he] at h; simp only [cond_false] at h
   split at h
   · injection h with h; injection h with _ h; exact h.symm
   · cases h
  · injection h with h; injection h with _ h; exact h.symm
  · cases h
 · cases h
theorem valO_dst {o : Oper} {E : En} {s s' : St} {v : SV} (h : valO P X ih n ops o E s = some (v, s')) : dstOk n o.dst = true := by
 unfold valO at h
 rw [cond_eq_ite] at h
 split at h
 · assumption
 · cases h
theorem nthN_eq : ∀ (l : List Nat) (k : Nat), nthN l k = l.getD k 0
 | [], k => by show 0 = _; simp
 | v :: l, 0 => rfl
 | v :: l, k + 1 => by
  show (Bool.rec (nthN l (k + 1 - 1)) v (Nat.beq (k + 1) 0) : Nat) = _
  have : Nat.beq (k + 1) 0 = false := rfl
  rw [this]
  simpa using nthN_eq l k
theorem bitB_eq (m j : Nat) : bitB m j = m.testBit j := by
 unfold bitB
 rw [Nat.testBit_eq_decide_div_mod_eq]
 have : Nat.shiftRight m j = m / 2 ^ j := Nat.shiftRight_eq_div_pow _ _
 rw [this]
 have h2 : Nat.mod (m / 2 ^ j) 2 = m / 2 ^ j % 2 := rfl
 rw [h2]
 cases h : Nat.beq (m / 2 ^ j % 2) 1 with
 | true => simp [Nat.eq_of_beq_eq_true h]
 | false =>
  have : m / 2 ^ j % 2 ≠ 1 := fun e => by rw [e] at h; cases h
  simp [this]
theorem ancB_eq (A : List Nat) (i j : Nat) : ancB A i j = (nthN A i).testBit j := bitB_eq _ _
theorem maskE_bit {A : List Nat} : ∀ {l : List Edge} {j : Nat}, (maskE A l).testBit j = true → ∃ e, e ∈ l ∧ Region.binds .any e = true ∧ (j = e.on ∨ ancB A e.on j = true)
 | [], j, h => by
  have h : (0 : Nat).testBit j = true := h
  simp at h
 | e :: l, j, h => by
  have h : (@Bool.rec (fun _ => Nat) (maskE A l) (Nat.lor (Nat.lor (Nat.pow 2 e.on) (nthN A e.on)) (maskE A l)) (Region.binds .any e)).testBit j = true := h
  cases hb : Region.binds .any e with
  | false =>
   rw [hb] at h
   obtain ⟨e', h1, h2, h3⟩ := maskE_bit h
   exact ⟨e', .tail _ h1, h2, h3⟩
  | true =>
   rw [hb] at h
   have h : ((2 ^ e.on ||| nthN A e.on) ||| maskE A l).testBit j = true := h
   rw [Nat.testBit_or, Nat.testBit_or] at h
   simp only [Bool.or_eq_true] at h
   rcases h with (h | h) | h
   ·
    refine ⟨e, .head _, hb, .inl ?_⟩
    rw [Nat.testBit_two_pow] at h
    simpa using (of_decide_eq_true h).symm
   · exact ⟨e, .head _, hb, .inr (by rw [ancB_eq]; exact h)⟩
   ·
    obtain ⟨e', h1, h2, h3⟩ := maskE_bit h
    exact ⟨e', .tail _ h1, h2, h3⟩
theorem ancs_spec : ∀ (l : List Oper) (A : List Nat), ∃ T, ancs l A = A ++ T ∧ T.length = l.length ∧ ∀ (i : Nat) (o : Oper), l[i]? = some o → nthN (ancs l A) (A.length + i) = maskE ((ancs l A).take (A.length + i)) o.after.toList
 | [], A => ⟨[], by show A = _; simp, rfl, fun i o h => by simp at h⟩
 | p :: l, A => by
  obtain ⟨T, h1, h2, h3⟩ := ancs_spec l (A ++ [maskE A p.after.toList])
  have e : ancs (p :: l) A = ancs l (A ++ [maskE A p.after.toList]) := rfl
  rw [e]
  refine ⟨maskE A p.after.toList :: T, by rw [h1]; simp, by simp [h2], fun i o hi => ?_⟩
  cases i with
  | zero =>
   simp at hi; subst hi
   rw [h1, nthN_eq]
   simp
  | succ i =>
   have := h3 i o (by simpa using hi)
   rw [List.length_append] at this
   simpa [Nat.add_assoc, Nat.add_comm 1 i] using this
theorem backB_lt (hb : Wq ops = true) {i : Nat} {o : Oper} (ho : ops[i]? = some o) {e : Edge} (he : e ∈ o.after) (hbe : Region.binds .any e = true) : e.on < i := by
 have hi : i < ops.size := (Array.getElem?_eq_some_iff.1 ho).1
 have hb' := List.all_eq_true.1 hb i (List.mem_range.2 hi)
 rw [ho] at hb'
 have h2 := Array.all_eq_true_iff_forall_mem.1 hb' e he
 rw [hbe] at h2; simpa using h2
theorem anc_done {done : Nat → Bool} (hb : Wq ops = true) (hc : Wi ops done) : ∀ (f i j : Nat), i < f → ancB (ancs ops.toList []) i j = true → (∀ (o : Oper), ops[i]? = some o → ∀ e, e ∈ o.after → Region.binds .any e = true → done e.on = true) → done j = true
 | 0, i, j, hf, _, _ => by omega
 | f + 1, i, j, hf, h, hd => by
  obtain ⟨T, h1, h2, h3⟩ := ancs_spec ops.toList []
  cases ho : ops[i]? with
  | none =>
   rw [ancB_eq, nthN_eq, List.getD_eq_getElem?_getD, List.getElem?_eq_none] at h
   · simp at h
   ·
    rw [h1]; simp only [List.nil_append, h2, Array.length_toList]
    exact Array.getElem?_eq_none_iff.1 ho
  | some o =>
   have hm := h3 i o (by rw [Array.getElem?_toList]; exact ho)
   simp only [List.length_nil, Nat.zero_add] at hm
   rw [ancB_eq, hm] at h
   obtain ⟨e, he, hbe, h4⟩ := maskE_bit h
   have he' : e ∈ o.after := by simpa using he
   have hlt := backB_lt hb ho he' hbe
   have hde := hd o ho e he' hbe
   rcases h4 with h4 | h4
   · rw [h4]; exact hde
   ·
    refine anc_done hb hc f e.on j (by omega) ?_ (fun o' ho' e' he' hb' => hc e.on o' ho' hde e' he' hb')
    rw [ancB_eq, nthN_eq] at h4 ⊢
    rw [List.getD_eq_getElem?_getD, List.getElem?_take, if_pos hlt, ← List.getD_eq_getElem?_getD] at h4
    exact h4
theorem anc_done' {done : Nat → Bool} (hb : Wq ops = true) (hc : Wi ops done) {i j : Nat} (hd : done i = true) (h : ancB (ancs ops.toList []) i j = true) : done j = true :=
 anc_done hb hc (i + 1) i j (Nat.lt_succ_self i) h fun o ho e he hbe => hc i o ho hd e he hbe
structure DOk (ops : Array Oper) (A : List Nat) : Prop where
  back : Wq ops = true
  uniq : ∀ (i j : Nat) (o p : Oper) (t : Nat), ops[i]? = some o → ops[j]? = some p → o.dst = some t → p.dst = some t → i = j
  reads : ∀ (i j : Nat) (o p : Oper) (t : Nat), ops[i]? = some o → ops[j]? = some p → p.dst = some t → t ∈ readsO ops o → (j < i ∧ ancB A i j = true) ∨ (i < j ∧ ancB A j i = true)
  chain : ∀ i j, truB ops i = true → truB ops j = true → j < i → ancB A i j = true
theorem newS_ok {t : Nat} : ∀ {l : List Nat}, newS t l = true → t ∉ l
 | [], _ => by simp
 | d :: l, h => by
  have h : (@Bool.rec (fun _ => Bool) (newS t l) false (Nat.beq d t)) = true := h
  cases hb : Nat.beq d t with
  | true => rw [hb] at h; cases h
  | false =>
   rw [hb] at h
   rintro hm
   rcases List.mem_cons.1 hm with rfl | hm
   · simp at hb
   · exact newS_ok h hm
theorem depsF_ok {m : Nat} {D : List (Nat × Nat)} : ∀ {rs : List Nat}, depsF m D rs = true → (∀ p q, p ∈ D → q ∈ D → p.1 = q.1 → p = q) → ∀ t j, t ∈ rs → (t, j) ∈ D → bitB m j = true
 | [], _, _, t, j, ht, _ => by cases ht
 | u :: rs, h, hu, t, j, ht, hj => by
  have h : (@Bool.rec (fun _ => Bool) false (depsF m D rs) (@List.rec (Nat × Nat) (fun _ => Bool) true (fun p _ ih => @Prod.rec Nat Nat (fun _ => Bool) (fun d j => @Bool.rec (fun _ => Bool) ih (bitB m j) (Nat.beq d u)) p) D)) = true := h
  have key : ∀ (D : List (Nat × Nat)), (∀ p q, p ∈ D → q ∈ D → p.1 = q.1 → p = q) → (@List.rec (Nat × Nat) (fun _ => Bool) true (fun p _ ih => @Prod.rec Nat Nat (fun _ => Bool) (fun d j => @Bool.rec (fun _ => Bool) ih (bitB m j) (Nat.beq d u)) p) D : Bool) = true → (u, j) ∈ D → bitB m j = true := by
   intro D hu h hm
   induction D with
   | nil => cases hm
   | cons p D ih =>
    obtain ⟨d, k⟩ := p
    have h : (@Bool.rec (fun _ => Bool) (@List.rec (Nat × Nat) (fun _ => Bool) true (fun p _ ih => @Prod.rec Nat Nat (fun _ => Bool) (fun d j => @Bool.rec (fun _ => Bool) ih (bitB m j) (Nat.beq d u)) p) D : Bool) (bitB m k) (Nat.beq d u)) = true := h
    cases hb : Nat.beq d u with
    | true =>
     rw [hb] at h
     have e := Nat.eq_of_beq_eq_true hb
     have := hu (d, k) (u, j) (.head _) hm e
     injection this with _ e2
     rw [← e2]; exact h
    | false =>
     rw [hb] at h
     rcases List.mem_cons.1 hm with e | hm
     · injection e with e1 _; rw [e1] at hb; simp at hb
     · exact ih (fun p q hp hq => hu p q (.tail _ hp) (.tail _ hq)) h hm
  cases hb : (@List.rec (Nat × Nat) (fun _ => Bool) true (fun p _ ih => @Prod.rec Nat Nat (fun _ => Bool) (fun d j => @Bool.rec (fun _ => Bool) ih (bitB m j) (Nat.beq d u)) p) D : Bool) with
  | false => rw [hb] at h; cases h
  | true =>
   rw [hb] at h
   rcases List.mem_cons.1 ht with rfl | ht
   · exact key D hu hb hj
   · exact depsF_ok h hu t j ht hj
theorem backO_ok {i : Nat} : ∀ {l : List Edge}, backO i l = true → ∀ e, e ∈ l → Region.binds .any e = true → e.on < i
 | [], _, e, he, _ => by cases he
 | f :: l, h, e, he, hb => by
  have h : (@Bool.rec (fun _ => Bool) (backO i l) (@Bool.rec (fun _ => Bool) false (backO i l) (Nat.blt f.on i)) (Region.binds .any f)) = true := h
  cases hf : Region.binds .any f with
  | false =>
   rw [hf] at h
   rcases List.mem_cons.1 he with rfl | he
   · rw [hf] at hb; cases hb
   · exact backO_ok h e he hb
  | true =>
   rw [hf] at h
   have h : (@Bool.rec (fun _ => Bool) false (backO i l) (Nat.blt f.on i)) = true := h
   cases hl : Nat.blt f.on i with
   | false => rw [hl] at h; cases h
   | true =>
    rw [hl] at h
    rcases List.mem_cons.1 he with rfl | he
    · exact blt_lt hl
    · exact backO_ok h e he hb
theorem truB_at {i : Nat} {o : Oper} (ho : ops[i]? = some o) : truB ops i = isTrue o.op := by unfold truB; rw [ho]
theorem rdF_ok {m d : Nat} : ∀ {R : List (Nat × Nat)}, rdF m d R = true → ∀ q, (d, q) ∈ R → bitB m q = true
 | [], _, q, hq => by cases hq
 | (t, k) :: R, h, q, hq => by
  have h : (@Bool.rec (fun _ => Bool) (rdF m d R) (@Bool.rec (fun _ => Bool) false (rdF m d R) (bitB m k)) (Nat.beq t d)) = true := h
  cases hb : Nat.beq t d with
  | false =>
   rw [hb] at h
   rcases List.mem_cons.1 hq with e | hq
   · injection e with e1 _; rw [e1] at hb; simp at hb
   · exact rdF_ok h q hq
  | true =>
   rw [hb] at h
   have h : (@Bool.rec (fun _ => Bool) false (rdF m d R) (bitB m k)) = true := h
   cases hk : bitB m k with
   | false => rw [hk] at h; cases h
   | true =>
    rw [hk] at h
    rcases List.mem_cons.1 hq with e | hq
    · injection e with _ e2; rw [e2]; exact hk
    · exact rdF_ok h q hq
theorem mem_tagR {i : Nat} {R : List (Nat × Nat)} {p : Nat × Nat} : ∀ {rs : List Nat}, p ∈ tagR i rs R ↔ (p.2 = i ∧ p.1 ∈ rs) ∨ p ∈ R
 | [] => by show p ∈ R ↔ _; simp
 | t :: rs => by
  show p ∈ (t, i) :: tagR i rs R ↔ _
  rw [List.mem_cons, mem_tagR (rs := rs), List.mem_cons]
  constructor
  ·
   rintro (rfl | ⟨a, b⟩ | h)
   · exact .inl ⟨rfl, .inl rfl⟩
   · exact .inl ⟨a, .inr b⟩
   · exact .inr h
  ·
   rintro (⟨a, b | b⟩ | h)
   · exact .inl (Prod.ext b a)
   · exact .inr (.inl ⟨a, b⟩)
   · exact .inr (.inr h)
theorem ana_out {A0 : List Nat} : ∀ {l : List Oper} {A : List Nat} {i : Nat} {D R : List (Nat × Nat)} {W : List Nat} {TM : Nat}, ops.toList.drop i = l → A0.drop i = A → ana ops l A i D R W TM = true → ∀ {j q : Nat} {p : Oper} {t : Nat}, i ≤ j → ops[j]? = some p → p.dst = some t → (t, q) ∈ R → ancB A0 j q = true
 | [], A, i, D, R, W, TM, hl, hA, h, j, q, p, t, hj, hp, hpd, _ => by
  have hlt : j < ops.size := (Array.getElem?_eq_some_iff.1 hp).1
  have := congrArg List.length hl
  rw [List.length_drop, Array.length_toList] at this
  simp at this; omega
 | o :: l, A, i, D, R, W, TM, hl, hA, h, j, q, p, t, hj, hp, hpd, hR => by
  have hq : ops[i]? = some o := by
   rw [← Array.getElem?_toList]
   have : (ops.toList.drop i)[0]? = some o := by rw [hl]; rfl
   rw [List.getElem?_drop] at this; simpa using this
  have hl' : ops.toList.drop (i + 1) = l := by rw [← List.drop_drop, hl]; rfl
  cases A with
  | nil => cases h
  | cons m A =>
   have hA' : A0.drop (i + 1) = A := by rw [← List.drop_drop, hA]; rfl
   have hm : nthN A0 i = m := by
    rw [nthN_eq, List.getD_eq_getElem?_getD]
    have : (A0.drop i)[0]? = some m := by rw [hA]; rfl
    rw [List.getElem?_drop] at this
    rw [show i + 0 = i from rfl] at this
    rw [this]; rfl
   have h : (backO i o.after.toList && depsF m D (readsO ops o) && (match isTrue o.op with | true => Nat.beq (Nat.land TM m) TM | false => true) &&
    (match o.dst with
     | none => ana ops l A (i + 1) D (tagR i (readsO ops o) R) W (match isTrue o.op with | true => Nat.lor TM (Nat.pow 2 i) | false => TM)
     | some d => newS d W && rdF m d R && newS d (readsO ops o) && ana ops l A (i + 1) ((d, i) :: D) (tagR i (readsO ops o) R) (d :: W) (match isTrue o.op with | true => Nat.lor TM (Nat.pow 2 i) | false => TM))) = true := h
   simp only [Bool.and_eq_true] at h
   by_cases e : j = i
   ·
    subst e
    rw [hq] at hp; injection hp with hp; subst hp
    have h4 := h.2
    rw [hpd] at h4
    simp only [Bool.and_eq_true] at h4
    rw [ancB, hm]
    exact rdF_ok h4.1.1.2 q hR
   ·
    have hm' : (t, q) ∈ tagR i (readsO ops o) R := mem_tagR.2 (.inr hR)
    have h4 := h.2
    cases hqd : o.dst with
    | none => rw [hqd] at h4; exact ana_out hl' hA' h4 (by omega) hp hpd hm'
    | some d => rw [hqd] at h4; simp only [Bool.and_eq_true] at h4; exact ana_out hl' hA' h4.2 (by omega) hp hpd hm'
theorem ana_ok : ∀ {l : List Oper} {A0 A : List Nat} {i : Nat} {D R : List (Nat × Nat)} {W : List Nat} {TM : Nat}, ops.toList.drop i = l → A0.drop i = A → ana ops l A i D R W TM = true →
    (∀ d j, (d, j) ∈ D ↔ j < i ∧ ∃ p, ops[j]? = some p ∧ p.dst = some d) → (∀ p q, p ∈ D → q ∈ D → p.1 = q.1 → p = q) → (∀ d, d ∈ W ↔ ∃ j, (d, j) ∈ D) → (∀ j, TM.testBit j = true ↔ j < i ∧ truB ops j = true) →
    ∀ (k : Nat) (o : Oper), i ≤ k → ops[k]? = some o → (∀ e, e ∈ o.after.toList → Region.binds .any e = true → e.on < k) ∧
      (∀ (j : Nat) (p : Oper) (t : Nat), ops[j]? = some p → p.dst = some t → t ∈ readsO ops o → (j < k ∧ ancB A0 k j = true) ∨ (k < j ∧ ancB A0 j k = true)) ∧ (∀ (j : Nat) (p : Oper) (t : Nat), j < k → ops[j]? = some p → p.dst = some t → o.dst ≠ some t) ∧ (truB ops k = true → ∀ j, truB ops j = true → j < k → ancB A0 k j = true)
  | [], A0, A, i, D, R, W, TM, hl, hA, h, hD, hu, hW, hT, k, o, hk, ho => by
    have hlt : k < ops.size := (Array.getElem?_eq_some_iff.1 ho).1
    have := congrArg List.length hl
    rw [List.length_drop, Array.length_toList] at this
    simp at this; omega
  | q :: l, A0, A, i, D, R, W, TM, hl, hA, h, hD, hu, hW, hT, k, o, hk, ho => by
    have hq : ops[i]? = some q := by
      rw [← Array.getElem?_toList]
      have : (ops.toList.drop i)[0]? = some q := by rw [hl]; rfl
      rw [List.getElem?_drop] at this; simpa using this
    have hl' : ops.toList.drop (i + 1) = l := by rw [← List.drop_drop, hl]; rfl
    have htq := truB_at hq
    cases A with
    | nil => cases h
    | cons m A =>
      have hA' : A0.drop (i + 1) = A := by rw [← List.drop_drop, hA]; rfl
      have hm : nthN A0 i = m := by
        rw [nthN_eq, List.getD_eq_getElem?_getD]
        have : (A0.drop i)[0]? = some m := by rw [hA]; rfl
        rw [List.getElem?_drop] at this
        rw [show i + 0 = i from rfl] at this
        rw [this]; rfl
      have h : (backO i q.after.toList && depsF m D (readsO ops q) && (match isTrue q.op with | true => Nat.beq (Nat.land TM m) TM | false => true) &&
        (match q.dst with
          | none => ana ops l A (i + 1) D (tagR i (readsO ops q) R) W (match isTrue q.op with | true => Nat.lor TM (Nat.pow 2 i) | false => TM)
          | some d => newS d W && rdF m d R && newS d (readsO ops q) && ana ops l A (i + 1) ((d, i) :: D) (tagR i (readsO ops q) R) (d :: W) (match isTrue q.op with | true => Nat.lor TM (Nat.pow 2 i) | false => TM))) = true := h
      simp only [Bool.and_eq_true] at h
      obtain ⟨⟨⟨h1, h2⟩, h3⟩, h4⟩ := h
      have hT' : ∀ j, (match isTrue q.op with | true => Nat.lor TM (Nat.pow 2 i) | false => TM).testBit j = true ↔ j < i + 1 ∧ truB ops j = true := fun j => by
        cases htr : isTrue q.op with
        | false =>
          show TM.testBit j = true ↔ _
          rw [hT]
          constructor
          · rintro ⟨a, b⟩; exact ⟨by omega, b⟩
          · rintro ⟨a, b⟩
            refine ⟨?_, b⟩
            by_cases e : j = i
            · subst e; rw [htq, htr] at b; cases b
            · omega
        | true =>
          show (TM ||| 2 ^ i).testBit j = true ↔ _
          rw [Nat.testBit_or, Nat.testBit_two_pow, Bool.or_eq_true, hT, decide_eq_true_eq]
          constructor
          · rintro (⟨a, b⟩ | a)
            · exact ⟨by omega, b⟩
            · subst a; exact ⟨by omega, by rw [htq, htr]⟩
          · rintro ⟨a, b⟩
            by_cases e : i = j
            · exact .inr e
            · exact .inl ⟨by omega, b⟩
      by_cases hki : k = i
      · subst hki
        rw [hq] at ho; injection ho with ho; subst ho
        refine ⟨backO_ok h1, fun j p t hp hpd ht => ?_, fun j p t hj hp hpd hod => ?_, fun htk j htj hj => ?_⟩
        · rcases Nat.lt_trichotomy j k with hj | hj | hj
          · left
            refine ⟨hj, ?_⟩
            rw [ancB, hm]
            exact depsF_ok h2 hu t j ht ((hD t j).2 ⟨hj, p, hp, hpd⟩)
          · subst hj
            rw [hq] at hp; injection hp with hp; subst hp
            rw [hpd] at h4
            simp only [Bool.and_eq_true] at h4
            exact absurd ht (newS_ok h4.1.2)
          · right
            refine ⟨hj, ?_⟩
            have hmem : (t, k) ∈ tagR k (readsO ops q) R := mem_tagR.2 (.inl ⟨rfl, ht⟩)
            cases hqd : q.dst with
            | none => rw [hqd] at h4; exact ana_out hl' hA' h4 hj hp hpd hmem
            | some d => rw [hqd] at h4; simp only [Bool.and_eq_true] at h4; exact ana_out hl' hA' h4.2 hj hp hpd hmem
        · rw [hod] at h4
          simp only [Bool.and_eq_true] at h4
          exact newS_ok h4.1.1.1 ((hW t).2 ⟨j, (hD t j).2 ⟨hj, p, hp, hpd⟩⟩)
        · rw [htq] at htk
          rw [htk] at h3
          have h3 := Nat.eq_of_beq_eq_true h3
          have h3 : TM &&& m = TM := h3
          rw [ancB_eq, hm]
          have := (hT j).2 ⟨hj, htj⟩
          rw [← h3, Nat.testBit_and, Bool.and_eq_true] at this
          exact this.2
      · cases hqd : q.dst with
        | none =>
          rw [hqd] at h4
          refine ana_ok hl' hA' h4 (fun d j => ?_) hu hW hT' k o (by omega) ho
          rw [hD]
          constructor
          · rintro ⟨a, b⟩; exact ⟨by omega, b⟩
          · rintro ⟨a, p, hp, hpd⟩
            refine ⟨?_, p, hp, hpd⟩
            by_cases e : j = i
            · subst e; rw [hq] at hp; injection hp with hp; subst hp; rw [hqd] at hpd; cases hpd
            · omega
        | some d0 =>
          rw [hqd] at h4
          simp only [Bool.and_eq_true] at h4
          have hnew := newS_ok h4.1.1.1
          refine ana_ok hl' hA' h4.2 (fun d j => ?_) (fun p r hp hr e => ?_) (fun d => ?_) hT' k o (by omega) ho
          · rw [List.mem_cons, hD]
            constructor
            · rintro (e | ⟨a, b⟩)
              · injection e with e1 e2; subst e1; subst e2; exact ⟨by omega, q, hq, hqd⟩
              · exact ⟨by omega, b⟩
            · rintro ⟨a, p, hp, hpd⟩
              by_cases e : j = i
              · subst e; rw [hq] at hp; injection hp with hp; subst hp; rw [hqd] at hpd; injection hpd with hpd; subst hpd; exact .inl rfl
              · exact .inr ⟨by omega, p, hp, hpd⟩
          · rcases List.mem_cons.1 hp with rfl | hp <;> rcases List.mem_cons.1 hr with rfl | hr
            · rfl
            · exact absurd ((hW d0).2 ⟨r.2, by rw [show (d0, r.2) = r from Prod.ext e rfl]; exact hr⟩) hnew
            · exact absurd ((hW d0).2 ⟨p.2, by rw [show (d0, p.2) = p from Prod.ext e.symm rfl]; exact hp⟩) hnew
            · exact hu p r hp hr e
          · rw [List.mem_cons]
            constructor
            · rintro (rfl | h)
              · exact ⟨i, .head _⟩
              · obtain ⟨j, hj⟩ := (hW d).1 h; exact ⟨j, .tail _ hj⟩
            · rintro ⟨j, hj⟩
              rcases List.mem_cons.1 hj with e | hj
              · injection e with e1 _; exact .inl e1
              · exact .inr ((hW d).2 ⟨j, hj⟩)
theorem drawOk_ok {A : List Nat} (h : drawOk ops A = true) : DOk ops A := by
 have key := ana_ok (ops := ops) (A0 := A) (i := 0) (by simp) (by simp) h (fun d j => by simp) (fun p q hp => by cases hp) (fun d => by simp) (fun j => by simp)
 refine ⟨?_, fun i j o p t ho hp h4 h5 => ?_, fun i j o p t ho hp h4 h5 => (key i o (by omega) ho).2.1 j p t hp h4 h5, fun i j hi hj hlt => ?_⟩
 ·
  refine List.all_eq_true.2 fun i hi => ?_
  have hi := List.mem_range.1 hi
  have ho : ops[i]? = some ops[i] := Array.getElem?_eq_getElem hi
  rw [ho]
  refine Array.all_eq_true_iff_forall_mem.2 fun e he => ?_
  cases hb : Region.binds .any e with
  | false => rfl
  | true =>
   have := (key i _ (by omega) ho).1 e (by simpa using he) hb
   simp only [Bool.not_true, Bool.false_or]
   exact Nat.ble_eq_true_of_le this
 ·
  rcases Nat.lt_trichotomy i j with h | h | h
  · exact absurd h5 ((key j p (by omega) hp).2.2.1 i o t h ho h4)
  · exact h
  · exact absurd h4 ((key i o (by omega) ho).2.2.1 j p t h hp h5)
 ·
  cases ho : ops[i]? with
  | none => unfold truB at hi; rw [ho] at hi; cases hi
  | some o => exact (key i o (by omega) ho).2.2.2 hi j hj hlt
theorem mem_hidF {m : Nat} : ∀ {l : List Oper} {i q : Nat}, ops.toList.drop i = l → (q ∈ hidF m l i ↔ i ≤ q ∧ q < ops.size ∧ fresB ops q = true ∧ bitB m q = false)
 | [], i, q, hl => by
  have := congrArg List.length hl
  rw [List.length_drop, Array.length_toList] at this
  simp at this
  show q ∈ [] ↔ _
  constructor
  · intro h; cases h
  · rintro ⟨a, b, _⟩; omega
 | o :: l, i, q, hl => by
  have ho : ops[i]? = some o := by
   rw [← Array.getElem?_toList]
   have : (ops.toList.drop i)[0]? = some o := by rw [hl]; rfl
   rw [List.getElem?_drop] at this; simpa using this
  have hi : i < ops.size := (Array.getElem?_eq_some_iff.1 ho).1
  have hl' : ops.toList.drop (i + 1) = l := by rw [← List.drop_drop, hl]; rfl
  have ih := mem_hidF (m := m) (q := q) hl'
  have hf : fresB ops i = isFresh o.op := by unfold fresB; rw [ho]
  have e : hidF m (o :: l) i = (match isFresh o.op with
   | true => @Bool.rec (fun _ => List Nat) (i :: hidF m l (i + 1)) (hidF m l (i + 1)) (bitB m i)
   | false => hidF m l (i + 1)) := rfl
  rw [e]
  by_cases hq : q = i
  ·
   subst hq
   cases hff : isFresh o.op with
   | false => rw [hf, hff]; simp only [ih]; constructor <;> (rintro ⟨a, b, c, d⟩; first | omega | cases c)
   | true =>
    rw [hf, hff]
    cases hb : bitB m q with
    | true => simp only [ih]; constructor <;> (rintro ⟨a, b, c, d⟩; first | omega | cases d)
    | false => simp only [List.mem_cons, true_or, true_iff]; exact ⟨Nat.le_refl _, hi, trivial, trivial⟩
  ·
   have key : (i ≤ q ∧ q < ops.size ∧ fresB ops q = true ∧ bitB m q = false) ↔ q ∈ hidF m l (i + 1) := by rw [ih]; constructor <;> (rintro ⟨a, b⟩; exact ⟨by omega, b⟩)
   rw [key]
   cases isFresh o.op with
   | false => exact Iff.rfl
   | true =>
    cases bitB m i with
    | true => exact Iff.rfl
    | false => simp only [List.mem_cons, hq, false_or]
theorem mem_hidL {A : List Nat} {i q : Nat} : q ∈ hidL ops A i ↔ q < ops.size ∧ fresB ops q = true ∧ ancB A i q = false := by
 unfold hidL
 rw [mem_hidF (ops := ops) (by simp)]
 exact ⟨fun ⟨_, b⟩ => b, fun b => ⟨Nat.zero_le _, b⟩⟩
theorem rkT_succ (i : Nat) : rkT ops (i + 1) = rkT ops i + (if truB ops i then 1 else 0) := by
 unfold rkT
 rw [List.range_succ, List.countP_append]
 congr 1
 simp [List.countP_cons]
theorem rkT_le {i j : Nat} (h : i ≤ j) : rkT ops i ≤ rkT ops j := by
 have : ∀ k, rkT ops i ≤ rkT ops (i + k) := by
  intro k
  induction k with
  | zero => exact Nat.le_refl _
  | succ k ih' =>
   have h3 := rkT_succ (ops := ops) (i + k)
   have h4 : rkT ops (i + k) ≤ rkT ops (i + k + 1) := by rw [h3]; exact Nat.le_add_right _ _
   exact Nat.le_trans ih' h4
 have h2 := this (j - i)
 rwa [show i + (j - i) = j by omega] at h2
end draw
end Go.Acq.Vx
noncomputable section
namespace Go.Acq.Vx
open Go Go.Acq Go.RowKit
def dead (o : Option AO) : Prop := ∀ a, o = some a → a.live = false
theorem dead_gone : dead (some .gone) := fun a h => by injection h with h; subst h; rfl
section fr
variable {P : Program} {vr : Nat → Int} {σ σ' : Nm} {w0 w w' : World} {M B M' B' : List Nat} {s s' sh t : St}
theorem WR.ext (h : WR P vr σ w0 M B s w) (hn : t.next = s.next) (hB : ∀ x, x ∈ B' → x ∈ B) (ht : ∀ x p, σ x = some p → dead (t.heap.get x) ∨ t.heap.get x = s.heap.get x) : WR P vr σ w0 M B' t w := by
 have key : ∀ i o b r, t.heap.get i = some o → o.live = true → σ i = some (b, r) → s.heap.get i = some o := fun i o b r hi hl hσ => by
  rcases ht i _ hσ with h1 | h1
  · rw [h1 o hi] at hl; cases hl
  · rw [← h1]; exact hi
 refine ⟨h.os, h.tape, h.output, h.size, h.keep, fun i o b r hi hl hσ => h.own i o b r (key i o b r hi hl hσ) hl hσ, fun i o b r hi hl hσ => h.low i o b r (key i o b r hi hl hσ) hl hσ,
  fun i j o p b r r' hi hl hj hl' h1 h2 => h.inj i j o p b r r' (key i o b r hi hl h1) hl (key j p b r' hj hl' h2) hl' h1 h2, fun i hi => h.fresh i (by rw [← hn]; exact hi), fun i hi => by rw [hn]; exact h.back i (hB i hi)⟩
theorem WR.loc (h : WR P vr σ w0 M B s w) (hn : sh.next = s.next) (hs : ∀ x p, σ x = some p → dead (sh.heap.get x) ∨ sh.heap.get x = s.heap.get x) :
    ∃ M', WR P vr σ w M' B sh w ∧ ∀ b, b ∈ M' → ∃ x o r, sh.heap.get x = some o ∧ s.heap.get x = some o ∧ o.live = true ∧ σ x = some (b, r) := by
  have he := h.ext hn (fun x hx => hx) hs
  let M' : List Nat := (List.range s.next).filterMap fun x => match sh.heap.get x with
    | some o => if o.live then (σ x).map Prod.fst else none
    | none => none
  have hM : ∀ b, b ∈ M' ↔ ∃ x o r, sh.heap.get x = some o ∧ o.live = true ∧ σ x = some (b, r) := by
    intro b
    constructor
    · intro hb
      obtain ⟨x, _, hx⟩ := List.mem_filterMap.1 hb
      cases hg : sh.heap.get x with
      | none => rw [hg] at hx; cases hx
      | some o =>
        rw [hg] at hx
        simp only at hx
        split at hx
        · rename_i hl
          cases hσ : σ x with
          | none => rw [hσ] at hx; cases hx
          | some p => rw [hσ] at hx; simp at hx; subst hx; exact ⟨x, o, p.2, hg, hl, hσ⟩
        · cases hx
    · rintro ⟨x, o, r, h1, h2, h3⟩
      refine List.mem_filterMap.2 ⟨x, List.mem_range.2 ?_, ?_⟩
      · have := he.lt_next h3; rw [hn] at this; exact this
      · rw [h1]; simp [h2, h3]
  refine ⟨M', ⟨rfl, rfl, rfl, Nat.le_refl _, fun _ _ _ => rfl, he.own, fun i o b r hi hl hσ => .inr ((hM b).2 ⟨i, o, r, hi, hl, hσ⟩), he.inj, he.fresh, he.back⟩, fun b hb => ?_⟩
  obtain ⟨x, o, r, h1, h2, h3⟩ := (hM b).1 hb
  refine ⟨x, o, r, h1, ?_, h2, h3⟩
  rcases hs x _ h3 with h4 | h4
  · rw [h4 o h1] at h2; cases h2
  · rw [← h4]; exact h1
theorem WR.frame (h : WR P vr σ w0 M B s w) (hM : ∀ b, b ∈ M' → ∃ x o r, sh.heap.get x = some o ∧ s.heap.get x = some o ∧ o.live = true ∧ σ x = some (b, r)) (g : WR P vr σ' w M' B' s' w') (hσ : σ.le σ') (hn : t.next = s'.next)
    (ht : ∀ x p, σ' x = some p → dead (t.heap.get x) ∨ t.heap.get x = s'.heap.get x ∨ (t.heap.get x = s.heap.get x ∧ dead (sh.heap.get x) ∧ (σ x).isSome)) : WR P vr σ' w0 M B' t w' := by
  have key : ∀ i o b r, t.heap.get i = some o → o.live = true → σ' i = some (b, r) → s'.heap.get i = some o ∨ (s.heap.get i = some o ∧ dead (sh.heap.get i) ∧ σ i = some (b, r)) := fun i o b r hi hl h1 => by
    rcases ht i _ h1 with h2 | h2 | ⟨h2, h3, h4⟩
    · rw [h2 o hi] at hl; cases hl
    · exact .inl (by rw [← h2]; exact hi)
    · refine .inr ⟨by rw [← h2]; exact hi, h3, ?_⟩
      cases hq : σ i with
      | none => rw [hq] at h4; cases h4
      | some p =>
        have := hσ i p hq
        rw [h1] at this; exact this.symm
  have out : ∀ i o b r, s.heap.get i = some o → o.live = true → dead (sh.heap.get i) → σ i = some (b, r) → b ∉ M' := fun i o b r hi hl hd h1 hb => by
    obtain ⟨x, p, r', g1, g2, g3, g4⟩ := hM b hb
    have := h.inj i x o p b r r' hi hl g2 g3 h1 g4
    subst this
    rw [hd p g1] at g3; cases g3
  refine ⟨g.os.trans h.os, g.tape.trans h.tape, g.output.trans h.output, Nat.le_trans h.size g.size, fun b hb hm => ?_, fun i o b r hi hl h1 => ?_, fun i o b r hi hl h1 => ?_, fun i j o p b r r' hi hl hj hl' h1 h2 => ?_, fun i hi => g.fresh i (by rw [← hn]; exact hi), fun i hi => by rw [hn]; exact g.back i hi⟩
  · rw [g.keep b (Nat.lt_of_lt_of_le hb h.size) fun hb' => ?_]
    · exact h.keep b hb hm
    · obtain ⟨x, o, r, _, g2, g3, g4⟩ := hM b hb'
      rcases h.low x o b r g2 g3 g4 with h1 | h1
      · omega
      · exact hm h1
  · rcases key i o b r hi hl h1 with k1 | ⟨k1, k2, k3⟩
    · exact g.own i o b r k1 hl h1
    · obtain ⟨ob, q1, q2⟩ := h.own i o b r k1 hl k3
      refine ⟨ob, ?_, q2.mono hσ⟩
      rw [g.keep b (h.lt k1 hl k3) (out i o b r k1 hl k2 k3)]; exact q1
  · rcases key i o b r hi hl h1 with k1 | ⟨k1, k2, k3⟩
    · rcases g.low i o b r k1 hl h1 with q | q
      · exact .inl (Nat.le_trans h.size q)
      · obtain ⟨x, p, r', _, g2, g3, g4⟩ := hM b q
        exact h.low x p b r' g2 g3 g4
    · exact h.low i o b r k1 hl k3
  · have mixed : ∀ {i j o p r r'}, s'.heap.get i = some o → o.live = true → σ' i = some (b, r) → s.heap.get j = some p → p.live = true → dead (sh.heap.get j) → σ j = some (b, r') → False := fun {i j o p r r'} k1 k2 k3 k4 k5 k6 k7 => by
      rcases g.low i o b r k1 k2 k3 with q | q
      · have := h.lt k4 k5 k7; omega
      · exact out j p b r' k4 k5 k6 k7 q
    rcases key i o b r hi hl h1 with k1 | ⟨k1, k2, k3⟩ <;> rcases key j p b r' hj hl' h2 with q1 | ⟨q1, q2, q3⟩
    · exact g.inj i j o p b r r' k1 hl q1 hl' h1 h2
    · exact (mixed k1 hl h1 q1 hl' q2 q3).elim
    · exact (mixed q1 hl' h2 k1 hl k2 k3).elim
    · exact h.inj i j o p b r r' k1 hl q1 hl' k3 q3
theorem WR.allocAt (h : WR P vr σ w0 M B s w) {i : Nat} {o : AO} {ob : Obj} {r : Nat} (hl : o.live = true) (hi : i < s.next) (h0 : σ i = none) (hB : ∀ x, x ∈ B' → x ∈ B ∧ x ≠ i) (hor : OR P vr (σ.put i w.heap.size r) r o ob) :
    WR P vr (σ.put i w.heap.size r) w0 M B' (s.set i o) (w.alloc ob) := by
  have hsz : (w.alloc ob).heap.size = w.heap.size + 1 := World.size_alloc ..
  have hle : σ.le (σ.put i w.heap.size r) := Nm.le_put h0
  have hget : ∀ j p, (s.set i o).heap.get j = some p → (j = i ∧ p = o) ∨ (j ≠ i ∧ s.heap.get j = some p) := fun j p hp => by
    have hp : (s.heap.set i o).get j = some p := hp
    rw [Tri.get_set] at hp
    by_cases e : i = j
    · rw [if_pos e] at hp; injection hp with hp; exact .inl ⟨e.symm, hp.symm⟩
    · rw [if_neg e] at hp; exact .inr ⟨fun e' => e e'.symm, hp⟩
  have hput : ∀ j p, j ≠ i → (σ.put i w.heap.size r) j = some p → σ j = some p := fun j p hne hp => by unfold Nm.put at hp; rwa [if_neg hne] at hp
  refine ⟨h.os, h.tape, h.output, by rw [hsz]; have := h.size; omega, fun b hb hm => ?_, fun j p b r' hp hpl hσ => ?_, fun j p b r' hp hpl hσ => ?_, fun j k p q b r' r'' hp hpl hq hql h1 h2 => ?_, fun j hj => ?_, fun j hj => ?_⟩
  · rw [Below.heap_alloc _ _ _ (by have := h.size; omega)]; exact h.keep b hb hm
  · rcases hget j p hp with ⟨rfl, rfl⟩ | ⟨hne, hp⟩
    · rw [Nm.put_same] at hσ; injection hσ with hσ; injection hσ with hσ hσ'; subst hσ; subst hσ'
      refine ⟨ob, ?_, hor⟩
      show (w.heap.push ob)[w.heap.size]? = some ob
      simp
    · obtain ⟨ob', h2, h3⟩ := h.own j p b r' hp hpl (hput j _ hne hσ)
      refine ⟨ob', ?_, h3.mono hle⟩
      rw [Below.heap_alloc _ _ _ (Array.getElem?_eq_some_iff.1 h2).1]; exact h2
  · rcases hget j p hp with ⟨rfl, rfl⟩ | ⟨hne, hp⟩
    · rw [Nm.put_same] at hσ; injection hσ with hσ; injection hσ with hσ _; subst hσ; exact .inl h.size
    · exact h.low j p b r' hp hpl (hput j _ hne hσ)
  · rcases hget j p hp with ⟨rfl, rfl⟩ | ⟨hne, hp1⟩ <;> rcases hget k q hq with ⟨rfl, rfl⟩ | ⟨hne', hq1⟩
    · rfl
    · exfalso
      rw [Nm.put_same] at h1; injection h1 with h1; injection h1 with h1 _; subst h1
      have := h.lt hq1 hql (hput k _ hne' h2); omega
    · exfalso
      rw [Nm.put_same] at h2; injection h2 with h2; injection h2 with h2 _; subst h2
      have := h.lt hp1 hpl (hput j _ hne h1); omega
    · exact h.inj j k p q b r' r'' hp1 hpl hq1 hql (hput j _ hne h1) (hput k _ hne' h2)
  · have hj : s.next ≤ j := hj
    unfold Nm.put; rw [if_neg (by omega)]; exact h.fresh j hj
  · obtain ⟨h1, h2⟩ := hB j hj
    obtain ⟨h3, h4⟩ := h.back j h1
    refine ⟨h3, ?_⟩
    unfold Nm.put; rw [if_neg h2]; exact h4
end fr
theorem hideH_get {base : Nat} : ∀ {l : List Nat} {h : Tri AO} {x : Nat}, (hideH base h l).get x = if ∃ q, q ∈ l ∧ base + q = x then some .gone else h.get x
 | [], h, x => by show h.get x = _; simp
 | j :: l, h, x => by
  show (hideH base (h.set (base + j) .gone) l).get x = _
  rw [hideH_get, Tri.get_set]
  by_cases h1 : ∃ q, q ∈ l ∧ base + q = x
  · rw [if_pos h1, if_pos]; obtain ⟨q, a, b⟩ := h1; exact ⟨q, .tail _ a, b⟩
  ·
   rw [if_neg h1]
   by_cases h2 : base + j = x
   · rw [if_pos h2, if_pos ⟨j, .head _, h2⟩]
   ·
    rw [if_neg h2, if_neg]
    rintro ⟨q, a, b⟩
    rcases List.mem_cons.1 a with rfl | a
    · exact h2 b
    · exact h1 ⟨q, a, b⟩
theorem showH_get {base : Nat} {h0 : Tri AO} : ∀ {l : List Nat} {h : Tri AO} {x : Nat}, (showH base h0 h l).get x = if ∃ q, q ∈ l ∧ base + q = x then some (orGone (h0.get x)) else h.get x
 | [], h, x => by show h.get x = _; simp
 | j :: l, h, x => by
  show (showH base h0 (h.set (base + j) (orGone (h0.get (base + j)))) l).get x = _
  rw [showH_get, Tri.get_set]
  by_cases h1 : ∃ q, q ∈ l ∧ base + q = x
  · rw [if_pos h1, if_pos]; obtain ⟨q, a, b⟩ := h1; exact ⟨q, .tail _ a, b⟩
  ·
   rw [if_neg h1]
   by_cases h2 : base + j = x
   · rw [if_pos h2, if_pos ⟨j, .head _, h2⟩, h2]
   ·
    rw [if_neg h2, if_neg]
    rintro ⟨q, a, b⟩
    rcases List.mem_cons.1 a with rfl | a
    · exact h2 b
    · exact h1 ⟨q, a, b⟩
section ops
variable {P : Program} {vr : Nat → Int} {X : List (FuncId × XK)} {σ : Nm} {ρ : Option Nat} {w0 w : World} {M B : List Nat} {n : Nat} {ih : IH} {ops : Array Oper} {E : En} {s s1 s2 : St} {a : Act} {v : SV}
theorem freshO_ok {i N : Nat} {o : Oper} (ho : ops[i]? = some o) (hf : FE vr σ n E a.tmps) (hw : wantS ops E o.guard = some true) {cs : List SV} {t : TypeId} (hfr : freshV P E N o.op = some (v, cs, t)) {K : Act → World → Prop} {Q : Exit → Act → World → Prop}
    (hK : ∀ x A, VRs vr σ cs A.toList → (∀ c, c ∈ cs → c.isC = true) → (∀ σ' : Nm, σ' N = some (w.heap.size, 0) → VR vr σ' v x) → K (a.put o.dst x) (w.alloc (.cells A t (0, 0)))) : wpOpIn (FW ρ) 0 P ops Q i K a w := by
  unfold wpOpIn
  rw [ho]
  simp only
  rw [wantS_ok hf hw]
  simp only [if_true]
  unfold Oper.wpIn
  refine ⟨fun _ _ => trivial, ?_⟩
  obtain ⟨x, A, g1, g2, g3, g4⟩ := fresh_ok (w := w) (d := o.dst) (ty := o.type) (pos := o.pos) (af := o.after) (g := o.guard) hf hfr
  have hnd : ∀ c, o.op ≠ .defer c := fun c e => by rw [e] at hfr; simp [freshV] at hfr
  rw [Oper.semAt_eq _ _ _ hnd, g1]
  exact hK x A g2 g3 g4
theorem skipO_ok {i : Nat} {o : Oper} (ho : ops[i]? = some o) (hf : FE vr σ n E a.tmps) (hw : wantS ops E o.guard = some false) {K : Act → World → Prop} {Q : Exit → Act → World → Prop} (hK : K (a.put o.dst undef) w) : wpOpIn (FW ρ) 0 P ops Q i K a w := by
 unfold wpOpIn
 rw [ho]
 simp only
 rw [wantS_ok hf hw]
 simp only [Bool.false_eq_true, if_false]
 exact ⟨fun _ _ => trivial, hK⟩
theorem pureV_same {o : Op} (h : ∀ x, blockOf E o = some x → s1.heap.get x = s2.heap.get x) : pureV P E s1 o = pureV P E s2 o := by
 cases o with
 | load t x =>
  simp only [pureV]
  cases hx : ev E x with
  | none => rfl
  | some v =>
   cases v <;> first | rfl | skip
   rename_i i o
   simp only
   rw [h i (by simp [blockOf, hx])]
 | makeFunc f _ _ => cases f <;> rfl
 | call c =>
  obtain ⟨cl, xs, ts⟩ := c
  cases cl with
  | builtin b => cases b <;> rfl
  | _ => rfl
 | _ => rfl
end ops
end Go.Acq.Vx
noncomputable section
namespace Go.Acq.Vx
open Go Go.Acq Go.RowKit
section draw
variable {P : Program} {vr : Nat → Int} {X : List (FuncId × XK)} {σ : Nm} {ρ : Option Nat} {w0 w : World} {M B : List Nat} {n : Nat} {ih : IH} {ops : Array Oper} {A : List Nat} {base : Nat} {E E2 : En} {s s2 : St} {a : Act}
theorem valO_ms {o : Oper} {E : En} {s s' : St} {v : SV} (h : valO P X ih n ops o E s = some (v, s')) : s'.ms = s.ms := by
 unfold valO at h
 rw [cond_eq_ite] at h
 split at h
 ·
  split at h
  ·
   rw [cond_eq_ite] at h
   split at h
   ·
    split at h
    · injection h with h; injection h with _ h; rw [← h]
    · cases h
   ·
    split at h
    · injection h with h; injection h with _ h; rw [← h]
    · cases h
  · injection h with h; injection h with _ h; rw [← h]
  · cases h
 · cases h
inductive StepD (P : Program) (X : List (FuncId × XK)) (ih : IH) (n : Nat) (ops : Array Oper) (A : List Nat) (base j : Nat) (o : Oper) (E : En) (s : St) (v : SV) (s' : St) : Prop where
  | made (hf : isFresh o.op = true) (hd : dstOk n o.dst = true) (hw : wantS ops E o.guard = some true) (cs : List SV) (t : TypeId) (h : freshV P E (base + j) o.op = some (v, cs, t)) (hs : s' = s.set (base + j) (.cells (putC .e 0 cs) (lenL cs) t false))
  | unmade (hf : isFresh o.op = true) (hd : dstOk n o.dst = true) (hw : wantS ops E o.guard = some false) (hv : v = .und) (hs : s' = s.set (base + j) .gone)
  | eff (hf : isFresh o.op = false) (he : isEff o.op = true) (s1 : St) (h : valO P X ih n ops o E ⟨hideH base s.heap (hidL ops A j), s.next, s.ms⟩ = some (v, s1)) (hs : s' = ⟨showH base s.heap s1.heap (hidL ops A j), s1.next, s1.ms⟩)
  | quiet (hf : isFresh o.op = false) (he : isEff o.op = false) (h1 : seesOk ops A base E j o.op = true) (h : valO P X ih n ops o E s = some (v, s')) (hs : s' = s)
theorem valD_step {j : Nat} {o : Oper} {E : En} {s s' : St} {v : SV} (h : valD P X ih n ops A base j o E s = some (v, s')) : StepD P X ih n ops A base j o E s v s' := by
 unfold valD at h
 cases hf : isFresh o.op with
 | true =>
  rw [hf, cond_true, cond_eq_ite] at h
  split at h
  ·
   rename_i hd
   split at h
   ·
    rename_i hw
    split at h
    ·
     rename_i v' cs t hv
     injection h with h; injection h with h1 h2; subst h1
     exact .made hf hd hw cs t hv h2.symm
    · cases h
   ·
    rename_i hw
    injection h with h; injection h with h1 h2
    exact .unmade hf hd hw h1.symm h2.symm
   · cases h
  · cases h
 | false =>
  rw [hf, cond_false] at h
  cases he : isEff o.op with
  | true =>
   rw [he, cond_true] at h
   split at h
   ·
    rename_i v' s1 hv
    injection h with h; injection h with h1 h2; subst h1
    exact .eff hf he s1 hv h2.symm
   · cases h
  | false =>
   rw [he, cond_false, cond_eq_ite] at h
   split at h
   · rename_i h1; exact .quiet hf he h1 h (valO_quiet he h)
   · cases h
theorem StepD.ms {j : Nat} {o : Oper} {E : En} {s s' : St} {v : SV} (h : StepD P X ih n ops A base j o E s v s') : s'.ms = s.ms := by
 cases h with
 | made _ _ _ _ _ _ hs => subst hs; rfl
 | unmade _ _ _ _ hs => subst hs; rfl
 | eff _ _ s1 h hs => subst hs; exact (valO_ms h : _)
 | quiet _ _ _ _ hs => subst hs; rfl
theorem StepD.dst {j : Nat} {o : Oper} {E : En} {s s' : St} {v : SV} (h : StepD P X ih n ops A base j o E s v s') : dstOk n o.dst = true := by
 cases h with
 | made _ hd _ _ _ _ _ => exact hd
 | unmade _ hd _ _ _ => exact hd
 | eff _ _ s1 h hs => exact valO_dst h
 | quiet _ _ _ h _ => exact valO_dst h
theorem runDs_trace : ∀ {os : List Oper} {i : Nat} {E : En} {s : St} {E2 : En} {s2 : St} {ss : List St} {qs : List (Nat × En × SV)}, ops.toList.drop i = os → runDs P X ih n ops A base i os E s = some (E2, s2, ss, qs) →
    ∃ (Es : Nat → En) (Ss : Nat → St) (vs : Nat → SV), Es i = E ∧ Ss i = s ∧ Es (i + os.length) = E2 ∧ Ss (i + os.length) = s2 ∧
      (∀ (j : Nat) (o : Oper), i ≤ j → j < i + os.length → ops[j]? = some o → StepD P X ih n ops A base j o (restr (Es j) (readsO ops o)) (Ss j) (vs j) (Ss (j + 1)) ∧ Es (j + 1) = putE (Es j) o.dst (vs j) ∧ (isEff o.op = false → looks o.op = true → (j, restr (Es j) (readsO ops o), vs j) ∈ qs)) ∧
      (∀ j, i ≤ j → j < i + os.length → truB ops j = true → (s :: ss)[rkT ops (j + 1) - rkT ops i]? = some (Ss (j + 1)))
  | [], i, E, s, E2, s2, ss, qs, hd, h => by
    simp [runDs] at h
    obtain ⟨h1, h2, h3, h4⟩ := h
    subst h1; subst h2; subst h3; subst h4
    exact ⟨fun _ => E, fun _ => s, fun _ => .und, rfl, rfl, rfl, rfl, fun j o h1 h2 => by simp at h2; omega, fun j h1 h2 => by simp at h2; omega⟩
  | o :: os, i, E, s, E2, s2, ss, qs, hd, h => by
    simp only [runDs] at h
    cases h0 : valD P X ih n ops A base i o (restr E (readsO ops o)) s with
    | none => simp [h0] at h
    | some p =>
      obtain ⟨v, s1⟩ := p
      simp only [h0] at h
      cases h1 : runDs P X ih n ops A base (i + 1) os (putE E o.dst v) s1 with
      | none => simp [h1] at h
      | some q =>
        obtain ⟨E3, s3, ss3, qs3⟩ := q
        simp only [h1] at h
        have ho : ops[i]? = some o := by
          rw [← Array.getElem?_toList]
          have : (ops.toList.drop i)[0]? = some o := by rw [hd]; rfl
          rw [List.getElem?_drop] at this; simpa using this
        have hd' : ops.toList.drop (i + 1) = os := by rw [← List.drop_drop, hd]; rfl
        obtain ⟨Es, Ss, vs, g1, g2, g3, g4, g5, g6⟩ := runDs_trace hd' h1
        have heff : truB ops i = isTrue o.op := by unfold truB; rw [ho]
        have hlen : i + (o :: os).length = i + 1 + os.length := by simp; omega
        have hcases : E3 = E2 ∧ s3 = s2 ∧ ((isEff o.op = false ∧ ss = ss3 ∧ (qs = (i, restr E (readsO ops o), v) :: qs3 ∨ (looks o.op = false ∧ qs = qs3))) ∨ (isEff o.op = true ∧ isFresh o.op = true ∧ ss = ss3 ∧ qs = qs3) ∨ (isEff o.op = true ∧ isFresh o.op = false ∧ ss = s1 :: ss3 ∧ qs = qs3)) := by
          cases he : isEff o.op with
          | false =>
            cases hl : looks o.op with
            | true => rw [he, hl] at h; simp at h; obtain ⟨a, b, c, d⟩ := h; exact ⟨a, b, .inl ⟨rfl, c.symm, .inl d.symm⟩⟩
            | false => rw [he, hl] at h; simp at h; obtain ⟨a, b, c, d⟩ := h; exact ⟨a, b, .inl ⟨rfl, c.symm, .inr ⟨rfl, d.symm⟩⟩⟩
          | true =>
            cases hf : isFresh o.op with
            | true => rw [he, hf] at h; simp at h; obtain ⟨a, b, c, d⟩ := h; exact ⟨a, b, .inr (.inl ⟨rfl, rfl, c.symm, d.symm⟩)⟩
            | false => rw [he, hf] at h; simp at h; obtain ⟨a, b, c, d⟩ := h; exact ⟨a, b, .inr (.inr ⟨rfl, rfl, c.symm, d.symm⟩)⟩
        obtain ⟨e3, e3', hcs⟩ := hcases
        refine ⟨fun j => if j = i then E else Es j, fun j => if j = i then s else Ss j, fun j => if j = i then v else vs j, by simp, by simp, ?_, ?_, ?_, ?_⟩
        · show (if i + (o :: os).length = i then E else Es (i + (o :: os).length)) = E2
          rw [if_neg (by simp), hlen, g3, e3]
        · show (if i + (o :: os).length = i then s else Ss (i + (o :: os).length)) = s2
          rw [if_neg (by simp), hlen, g4, e3']
        · intro j o' hj1 hj2 hoj
          by_cases e : j = i
          · subst e
            rw [ho] at hoj; injection hoj with hoj; subst hoj
            simp only [if_true]
            rw [if_neg (by omega : ¬ j + 1 = j), if_neg (by omega : ¬ j + 1 = j), g1, g2]
            refine ⟨valD_step h0, rfl, fun hne hlk => ?_⟩
            rcases hcs with h | h | h
            · rcases h.2.2 with h' | h'
              · rw [h']; exact .head _
              · rw [h'.1] at hlk; cases hlk
            · rw [h.1] at hne; cases hne
            · rw [h.1] at hne; cases hne
          · simp only [if_neg e]
            rw [if_neg (by omega : ¬ j + 1 = i), if_neg (by omega : ¬ j + 1 = i)]
            obtain ⟨k1, k2, k3⟩ := g5 j o' (by omega) (by rw [hlen] at hj2; exact hj2) hoj
            refine ⟨k1, k2, fun hne hlk => ?_⟩
            rcases hcs with h | h | h
            · rcases h.2.2 with h' | h'
              · rw [h']; exact .tail _ (k3 hne hlk)
              · rw [h'.2]; exact k3 hne hlk
            · rw [h.2.2.2]; exact k3 hne hlk
            · rw [h.2.2.2]; exact k3 hne hlk
        · intro j hj1 hj2 htj
          show (s :: ss)[rkT ops (j + 1) - rkT ops i]? = some (if j + 1 = i then s else Ss (j + 1))
          rw [if_neg (by omega)]
          have hr := rkT_succ (ops := ops) i
          have htrue : truB ops i = true ↔ (isEff o.op = true ∧ isFresh o.op = false) := by rw [heff]; unfold isTrue; simp
          by_cases e : j = i
          · subst e
            rw [htj, if_pos rfl] at hr
            have := htrue.1 htj
            rcases hcs with h | h | h
            · rw [h.1] at this; cases this.1
            · rw [h.2.1] at this; cases this.2
            · rw [h.2.2.1, show rkT ops (j + 1) - rkT ops j = 1 by omega, g2]; rfl
          · have := g6 j (by omega) (by rw [hlen] at hj2; exact hj2) htj
            have hmono : rkT ops (i + 1) ≤ rkT ops (j + 1) := rkT_le (by omega)
            have hone : rkT ops (j + 1) = rkT ops j + 1 := by rw [rkT_succ, htj, if_pos rfl]
            have hm2 : rkT ops (i + 1) ≤ rkT ops j := rkT_le (by omega)
            rcases hcs with h | h | h
            · have hf : truB ops i = false := by cases hb : truB ops i with | false => rfl | true => have := htrue.1 hb; rw [h.1] at this; cases this.1
              rw [hf, if_neg (by simp)] at hr
              rw [h.2.1, show rkT ops (j + 1) - rkT ops i = rkT ops (j + 1) - rkT ops (i + 1) by omega]
              have e2 : rkT ops (j + 1) - rkT ops (i + 1) = (rkT ops (j + 1) - rkT ops (i + 1) - 1) + 1 := by omega
              rw [e2] at this ⊢
              simpa using this
            · have hf : truB ops i = false := by cases hb : truB ops i with | false => rfl | true => have := htrue.1 hb; rw [h.2.1] at this; cases this.2
              rw [hf, if_neg (by simp)] at hr
              rw [h.2.2.1, show rkT ops (j + 1) - rkT ops i = rkT ops (j + 1) - rkT ops (i + 1) by omega]
              have e2 : rkT ops (j + 1) - rkT ops (i + 1) = (rkT ops (j + 1) - rkT ops (i + 1) - 1) + 1 := by omega
              rw [e2] at this ⊢
              simpa using this
            · have hf : truB ops i = true := htrue.2 ⟨h.1, h.2.1⟩
              rw [hf, if_pos rfl] at hr
              rw [h.2.2.1, show rkT ops (j + 1) - rkT ops i = (rkT ops (j + 1) - rkT ops (i + 1)) + 1 by omega]
              simpa using this
def cntT (ops : Array Oper) (done : Nat → Bool) : Nat := (List.range ops.size).countP fun j => truB ops j && done j
theorem cut_rk {k : Nat} (hk : k ≤ ops.size) : (List.range ops.size).countP (fun j => truB ops j && decide (j < k)) = rkT ops k := by
 unfold rkT
 have : List.range ops.size = List.range k ++ (List.range (ops.size - k)).map (k + ·) := by
  rw [← List.range_add]; congr 1; omega
 rw [this, List.countP_append]
 have h1 : List.countP (fun j => truB ops j && decide (j < k)) (List.range k) = List.countP (truB ops) (List.range k) := by
  apply List.countP_congr
  intro j hj
  have := List.mem_range.1 hj
  simp [this]
 have h2 : List.countP (fun j => truB ops j && decide (j < k)) ((List.range (ops.size - k)).map (k + ·)) = 0 := by
  rw [List.countP_eq_zero]
  intro j hj
  obtain ⟨q, _, rfl⟩ := List.mem_map.1 hj
  simp
 rw [h1, h2]; rfl
section Xs
variable {done : Nat → Bool} {i : Nat}
theorem eff_done (hD : DOk ops (ancs ops.toList [])) (hc : Wi ops done) {j : Nat} (hj : j < ops.size) (ht : truB ops j = true) (h : rkT ops j < cntT ops done) : done j = true := by
 cases hd : done j with
 | true => rfl
 | false =>
  exfalso
  have : cntT ops done ≤ rkT ops j := by
   rw [← cut_rk (Nat.le_of_lt hj)]
   unfold cntT
   apply List.countP_mono_left
   intro q hq h1
   have hq := List.mem_range.1 hq
   simp only [Bool.and_eq_true, decide_eq_true_eq] at h1 ⊢
   refine ⟨h1.1, ?_⟩
   rcases Nat.lt_trichotomy q j with h2 | h2 | h2
   · exact h2
   · subst h2; rw [hd] at h1; cases h1.2
   ·
    have := anc_done' hD.back hc h1.2 (hD.chain q j h1.1 ht h2)
    rw [hd] at this; cases this
  omega
theorem cntT_eff (hD : DOk ops (ancs ops.toList [])) (hc : Wi ops done) (hi : i < ops.size) (he : truB ops i = true) (hdi : done i = false) (hdeps : ∀ (o : Oper), ops[i]? = some o → ∀ e, e ∈ o.after → Region.binds .any e = true → done e.on = true) :
    cntT ops done = rkT ops i ∧ cntT ops (fun m => if m = i then true else done m) = rkT ops (i + 1) := by
  have key : ∀ j, j < ops.size → truB ops j = true → (done j = true ↔ j < i) := fun j hj hej => by
    constructor
    · intro hd
      rcases Nat.lt_trichotomy j i with h | h | h
      · exact h
      · subst h; rw [hdi] at hd; cases hd
      · have := anc_done' hD.back hc hd (hD.chain j i hej he h)
        rw [hdi] at this; cases this
    · intro hlt
      exact anc_done hD.back hc (i + 1) i j (Nat.lt_succ_self i) (hD.chain i j he hej hlt) hdeps
  constructor
  · rw [← cut_rk (ops := ops) (k := i) (by omega)]
    unfold cntT
    apply List.countP_congr
    intro j hj
    have hj := List.mem_range.1 hj
    cases hej : truB ops j with
    | false => simp
    | true => simp only [Bool.true_and, decide_eq_true_eq]; exact key j hj hej
  · rw [← cut_rk (ops := ops) (k := i + 1) (by omega)]
    unfold cntT
    apply List.countP_congr
    intro j hj
    have hj := List.mem_range.1 hj
    cases hej : truB ops j with
    | false => simp
    | true =>
      simp only [Bool.true_and, decide_eq_true_eq]
      by_cases e : j = i
      · subst e; simp
      · rw [if_neg e, key j hj hej]; omega
theorem cntT_quiet (he : truB ops i = false) : cntT ops (fun m => if m = i then true else done m) = cntT ops done := by
 unfold cntT
 apply List.countP_congr
 intro j _
 by_cases e : j = i
 · subst e; rw [he]; simp
 · simp [e]
theorem cntT_window (hD : DOk ops (ancs ops.toList [])) (hc : Wi ops done) (hi : i < ops.size) (hdi : done i = false) (hdeps : ∀ (o : Oper), ops[i]? = some o → ∀ e, e ∈ o.after → Region.binds .any e = true → done e.on = true) :
    loT ops (ancs ops.toList []) i ≤ cntT ops done ∧ cntT ops done ≤ hiT ops (ancs ops.toList []) i := by
  constructor
  · unfold loT cntT
    apply List.countP_mono_left
    intro j _ h
    simp only [Bool.and_eq_true] at h ⊢
    exact ⟨h.1, anc_done hD.back hc (i + 1) i j (Nat.lt_succ_self i) h.2 hdeps⟩
  · unfold hiT cntT
    apply List.countP_mono_left
    intro j _ h
    simp only [Bool.and_eq_true, Bool.not_eq_true'] at h ⊢
    refine ⟨h.1, ?_⟩
    cases hr : ancB (ancs ops.toList []) j i with
    | false => rfl
    | true =>
      have := anc_done' hD.back hc h.2 hr
      rw [hdi] at this; cases this
theorem cntT_le : cntT ops done ≤ rkT ops ops.size := by
 unfold cntT rkT
 apply List.countP_mono_left
 intro j _ h
 simp only [Bool.and_eq_true] at h
 exact h.1
theorem anc_lt (hb : Wq ops = true) {i j : Nat} (h : ancB (ancs ops.toList []) i j = true) : j < i := by
 have := anc_done (done := fun q => decide (q < i)) hb (fun k o ho hk e he hbe => by
  have := backB_lt hb ho he hbe
  simp only [decide_eq_true_eq] at hk ⊢; omega) (i + 1) i j (Nat.lt_succ_self i) h (fun o ho e he hbe => by
  have := backB_lt hb ho he hbe
  simpa using this)
 simpa using this
theorem rk_find : ∀ {j k : Nat}, k < rkT ops j → ∃ e, e < j ∧ truB ops e = true ∧ rkT ops e = k
 | 0, k, h => by simp [rkT] at h
 | j + 1, k, h => by
  rw [rkT_succ] at h
  by_cases hk : k < rkT ops j
  · obtain ⟨e, h1, h2, h3⟩ := rk_find hk; exact ⟨e, by omega, h2, h3⟩
  ·
   by_cases ht : truB ops j = true
   · rw [if_pos ht] at h; exact ⟨j, by omega, ht, by omega⟩
   · rw [if_neg ht] at h; omega
end Xs
theorem put_getD {d t : Nat} {x : Value} (hs : a.tmps.size = n) (hd : d < n) : (a.put (some d) x).tmps.getD t undef = if d = t then x else a.tmps.getD t undef := by
 simp only [Act.put, Array.getD_eq_getD_getElem?]
 have : d < a.tmps.size := by rw [hs]; exact hd
 by_cases e : d = t
 · subst e; simp [this]
 · simp [e]
end draw
end Go.Acq.Vx
noncomputable section
namespace Go.Acq.Vx
open Go Go.Acq Go.RowKit
section draw
variable {P : Program} {vr : Nat → Int} {X : List (FuncId × XK)} {σ : Nm} {ρ : Option Nat} {w0 w : World} {M B : List Nat} {n : Nat} {ih : IH} {ops : Array Oper} {A : List Nat} {base : Nat} {E E2 : En} {s s2 : St} {a : Act}
structure Tr (P : Program) (X : List (FuncId × XK)) (ih : IH) (n : Nat) (ops : Array Oper) (A : List Nat) (base : Nat) (Es : Nat → En) (Ss Tk : Nat → St) (vs : Nat → SV) (cs : Nat → AO) : Prop where
  step : ∀ (j : Nat) (o : Oper), j < ops.size → ops[j]? = some o → StepD P X ih n ops A base j o (restr (Es j) (readsO ops o)) (Ss j) (vs j) (Ss (j + 1)) ∧ Es (j + 1) = putE (Es j) o.dst (vs j)
  zero : Tk 0 = Ss 0
  tk : ∀ j, j < ops.size → truB ops j = true → Tk (rkT ops (j + 1)) = Ss (j + 1)
  cs : ∀ q, cs q = orGone ((Ss (q + 1)).heap.get (base + q))
section tr
variable {Es : Nat → En} {Ss Tk : Nat → St} {vs : Nat → SV} {cs : Nat → AO} (H : Tr P X ih n ops A base Es Ss Tk vs cs)
include H
theorem Tr.oper {j : Nat} (hj : j < ops.size) : ∃ o, ops[j]? = some o ∧ truB ops j = isTrue o.op ∧ fresB ops j = isFresh o.op ∧ StepD P X ih n ops A base j o (restr (Es j) (readsO ops o)) (Ss j) (vs j) (Ss (j + 1)) := by
 have ho : ops[j]? = some ops[j] := Array.getElem?_eq_getElem hj
 exact ⟨_, ho, by unfold truB; rw [ho], by unfold fresB; rw [ho], (H.step j _ hj ho).1⟩
omit H in
theorem Tr.rk {j : Nat} (hj : j < ops.size) (ht : truB ops j = false) : rkT ops (j + 1) = rkT ops j := by rw [rkT_succ, ht]; simp
theorem Tr.out : ∀ {j : Nat}, j ≤ ops.size → (∀ x, (x < base ∨ base + ops.size ≤ x) → (Ss j).heap.get x = (Tk (rkT ops j)).heap.get x) ∧ (Ss j).next = (Tk (rkT ops j)).next
 | 0, _ => by
  have : rkT ops 0 = 0 := rfl
  rw [this, H.zero]; exact ⟨fun _ _ => rfl, rfl⟩
 | j + 1, hj => by
  obtain ⟨ih1, ih2⟩ := Tr.out (j := j) (by omega)
  obtain ⟨o, ho, h1, h2, h3⟩ := H.oper (show j < ops.size by omega)
  cases ht : truB ops j with
  | true => rw [H.tk j (by omega) ht]; exact ⟨fun _ _ => rfl, rfl⟩
  | false =>
   rw [Tr.rk (by omega) ht]
   have hset : ∀ q, Ss (j + 1) = (Ss j).set (base + j) q → (∀ x, (x < base ∨ base + ops.size ≤ x) → (Ss (j + 1)).heap.get x = (Tk (rkT ops j)).heap.get x) ∧ (Ss (j + 1)).next = (Tk (rkT ops j)).next := fun q e => by
    rw [e]
    refine ⟨fun x hx => ?_, ih2⟩
    show ((Ss j).heap.set (base + j) q).get x = _
    rw [Tri.get_set, if_neg (by omega)]; exact ih1 x hx
   cases h3 with
   | made _ _ _ _ _ _ hs => exact hset _ hs
   | unmade _ _ _ _ hs => exact hset _ hs
   | eff hf he _ _ _ => rw [h1] at ht; simp [isTrue, hf, he] at ht
   | quiet _ _ _ _ hs => rw [hs]; exact ⟨ih1, ih2⟩
def Tr.cur (_ : Tr P X ih n ops A base Es Ss Tk vs cs) (k q : Nat) : Option AO := if rkT ops q < k then (Tk k).heap.get (base + q) else some (cs q)
theorem Tr.made_get {q : Nat} (hq : q < ops.size) (hf : fresB ops q = true) : (Ss (q + 1)).heap.get (base + q) = some (cs q) := by
 obtain ⟨o, ho, h1, h2, h3⟩ := H.oper hq
 rw [h2] at hf
 have key : ∀ c, Ss (q + 1) = (Ss q).set (base + q) c → (Ss (q + 1)).heap.get (base + q) = some (cs q) := fun c e => by
  have : (Ss (q + 1)).heap.get (base + q) = some c := by
   rw [e]; show ((Ss q).heap.set (base + q) c).get (base + q) = _; rw [Tri.get_set, if_pos rfl]
  rw [H.cs, this]; rfl
 cases h3 with
 | made _ _ _ _ _ _ hs => exact key _ hs
 | unmade _ _ _ _ hs => exact key _ hs
 | eff hf' _ _ _ _ => rw [hf] at hf'; cases hf'
 | quiet hf' _ _ _ _ => rw [hf] at hf'; cases hf'
theorem Tr.fresh_true {q : Nat} (hq : q < ops.size) (hf : fresB ops q = true) : truB ops q = false := by
 obtain ⟨o, ho, h1, h2, h3⟩ := H.oper hq
 rw [h1]; rw [h2] at hf; simp [isTrue, hf]
theorem Tr.curs : ∀ {j : Nat}, j ≤ ops.size → ∀ q, q < j → fresB ops q = true → (Ss j).heap.get (base + q) = H.cur (rkT ops j) q
 | 0, _, q, hq, _ => by omega
 | j + 1, hj, q, hq, hf => by
  obtain ⟨o, ho, h1, h2, h3⟩ := H.oper (show j < ops.size by omega)
  cases ht : truB ops j with
  | true =>
   have hle : rkT ops q ≤ rkT ops j := rkT_le (by omega)
   have hs : rkT ops (j + 1) = rkT ops j + 1 := by rw [rkT_succ, ht, if_pos rfl]
   unfold Tr.cur
   rw [if_pos (by omega), H.tk j (by omega) ht]
  | false =>
   rw [Tr.rk (by omega) ht]
   by_cases e : q = j
   ·
    subst e
    rw [H.made_get (by omega) hf]
    unfold Tr.cur; rw [if_neg (by omega)]
   ·
    have ihq := Tr.curs (j := j) (by omega) q (by omega) hf
    have key : ∀ c, Ss (j + 1) = (Ss j).set (base + j) c → (Ss (j + 1)).heap.get (base + q) = H.cur (rkT ops j) q := fun c e' => by
     rw [e']; show ((Ss j).heap.set (base + j) c).get (base + q) = _; rw [Tri.get_set, if_neg (by omega)]; exact ihq
    cases h3 with
    | made _ _ _ _ _ _ hs => exact key _ hs
    | unmade _ _ _ _ hs => exact key _ hs
    | eff hf he _ _ _ => rw [h1] at ht; simp [isTrue, hf, he] at ht
    | quiet _ _ _ _ hs => rw [hs]; exact ihq
theorem Tr.kept : ∀ {j : Nat}, j ≤ ops.size → ∀ q, q < j → fresB ops q = true → (∀ e, q < e → e < j → truB ops e = true → ancB A e q = false) → (Ss j).heap.get (base + q) = some (cs q)
 | 0, _, q, hq, _, _ => by omega
 | j + 1, hj, q, hq, hf, hno => by
  by_cases e : q = j
  · subst e; exact H.made_get (by omega) hf
  ·
   have ihq := Tr.kept (j := j) (by omega) q (by omega) hf (fun e h1 h2 => hno e h1 (by omega))
   obtain ⟨o, ho, h1, h2, h3⟩ := H.oper (show j < ops.size by omega)
   have key : ∀ c, Ss (j + 1) = (Ss j).set (base + j) c → (Ss (j + 1)).heap.get (base + q) = some (cs q) := fun c e' => by
    rw [e']; show ((Ss j).heap.set (base + j) c).get (base + q) = _; rw [Tri.get_set, if_neg (by omega)]; exact ihq
   cases h3 with
   | made _ _ _ _ _ _ hs => exact key _ hs
   | unmade _ _ _ _ hs => exact key _ hs
   | eff hf' he s1 _ hs =>
    have ht : truB ops j = true := by rw [h1]; simp [isTrue, hf', he]
    have hn := hno j (by omega) (by omega) ht
    rw [hs]
    show (showH base (Ss j).heap s1.heap (hidL ops A j)).get (base + q) = _
    have hm : q ∈ hidL ops A j := mem_hidL.2 ⟨by omega, hf, hn⟩
    rw [showH_get, if_pos ⟨q, hm, rfl⟩, ihq]; rfl
   | quiet _ _ _ _ hs => rw [hs]; exact ihq
theorem Tr.kept' {q k : Nat} (hq : q < ops.size) (hf : fresB ops q = true) (hk : k ≤ rkT ops ops.size) (hno : ∀ e, e < ops.size → truB ops e = true → rkT ops e < k → ancB A e q = false) : H.cur k q = some (cs q) := by
 unfold Tr.cur
 split
 ·
  rename_i hlt
  obtain ⟨e, h1, h2, h3⟩ := rk_find (ops := ops) (j := ops.size) (k := k - 1) (by omega)
  have hs : rkT ops (e + 1) = rkT ops e + 1 := by rw [rkT_succ, h2, if_pos rfl]
  have hke : k = rkT ops (e + 1) := by omega
  rw [hke, H.tk e h1 h2]
  have hqe : q < e + 1 := by
   rcases Nat.lt_or_ge q (e + 1) with h | h
   · exact h
   · have := rkT_le (ops := ops) h; omega
  refine H.kept (by omega) q hqe hf fun e' h4 h5 h6 => hno e' (by omega) h6 ?_
  have : rkT ops (e' + 1) ≤ rkT ops (e + 1) := rkT_le (by omega)
  have hs' : rkT ops (e' + 1) = rkT ops e' + 1 := by rw [rkT_succ, h6, if_pos rfl]
  omega
 · rfl
end tr
def BD (ops : Array Oper) (cs : Nat → AO) (base : Nat) (B : List Nat) (done : Nat → Bool) : List Nat := B ++ ((List.range ops.size).filter fun q => !(fresB ops q && (cs q).live && done q)).map (base + ·)
theorem mem_BD {cs : Nat → AO} {done : Nat → Bool} {x : Nat} : x ∈ BD ops cs base B done ↔ x ∈ B ∨ ∃ q, q < ops.size ∧ (fresB ops q && (cs q).live && done q) = false ∧ base + q = x := by
 unfold BD
 rw [List.mem_append]
 constructor
 ·
  rintro (h | h)
  · exact .inl h
  ·
   obtain ⟨q, h1, h2⟩ := List.mem_map.1 h
   obtain ⟨h3, h4⟩ := List.mem_filter.1 h1
   exact .inr ⟨q, List.mem_range.1 h3, (by generalize (fresB ops q && (cs q).live && done q) = b at h4 ⊢; cases b with | false => rfl | true => cases h4), h2⟩
 ·
  rintro (h | ⟨q, h1, h2, h3⟩)
  · exact .inl h
  · exact .inr (List.mem_map.2 ⟨q, List.mem_filter.2 ⟨List.mem_range.2 h1, by rw [h2]; rfl⟩, h3⟩)
structure JW (P : Program) (vr : Nat → Int) (σ : Nm) (w0 : World) (M B : List Nat) (ops : Array Oper) (base : Nat) (Tk : Nat → St) (cs : Nat → AO) (cur : Nat → Nat → Option AO) (ms : List Nat) (done : Nat → Bool) (sD : St) (w : World) : Prop where
  wr : WR P vr σ w0 M (BD ops cs base B done) sD w
  next : sD.next = (Tk (cntT ops done)).next
  ms : sD.ms = ms
  out : ∀ x, (x < base ∨ base + ops.size ≤ x) → sD.heap.get x = (Tk (cntT ops done)).heap.get x
  fr : ∀ q, q < ops.size → fresB ops q = true → done q = true → sD.heap.get (base + q) = cur (cntT ops done) q
  nm : ∀ q, q < ops.size → fresB ops q = true → done q = true → (cs q).live = true → (σ (base + q)).isSome = true
section jw
variable {Es : Nat → En} {Ss Tk : Nat → St} {vs : Nat → SV} {cs : Nat → AO} (H : Tr P X ih n ops (ancs ops.toList []) base Es Ss Tk vs cs) (hD : DOk ops (ancs ops.toList [])) {done : Nat → Bool} {i : Nat} {ms : List Nat} {sD : St}
theorem BD_eq {done' : Nat → Bool} (h : ∀ q, q < ops.size → (fresB ops q && (cs q).live && done' q) = (fresB ops q && (cs q).live && done q)) : BD ops cs base B done' = BD ops cs base B done := by
 unfold BD
 congr 2
 apply List.filter_congr
 intro q hq
 rw [h q (List.mem_range.1 hq)]
include H hD
theorem jw_eff (hc : Wi ops done) (hi : i < ops.size) (he : truB ops i = true) (hdi : done i = false) (hdeps : ∀ (o : Oper), ops[i]? = some o → ∀ e, e ∈ o.after → Region.binds .any e = true → done e.on = true)
    (hJ : JW P vr σ w0 M B ops base Tk cs H.cur ms done sD w) {s1 : St} (hs : Ss (i + 1) = ⟨showH base (Ss i).heap s1.heap (hidL ops (ancs ops.toList []) i), s1.next, s1.ms⟩) :
    ∃ M', WR P vr σ w M' (BD ops cs base B done) ⟨hideH base (Ss i).heap (hidL ops (ancs ops.toList []) i), (Ss i).next, (Ss i).ms⟩ w ∧
      ∀ σ' w', σ.le σ' → WR P vr σ' w M' (BD ops cs base B done) s1 w' → ∃ sD', JW P vr σ' w0 M B ops base Tk cs H.cur ms (fun m => if m = i then true else done m) sD' w' := by
  obtain ⟨c1, c2⟩ := cntT_eff hD hc hi he hdi hdeps
  obtain ⟨o1, o2⟩ := H.out (Nat.le_of_lt hi)
  have hanc : ∀ q, ancB (ancs ops.toList []) i q = true → done q = true := fun q h => anc_done hD.back hc (i + 1) i q (Nat.lt_succ_self i) h hdeps
  have hmemH : ∀ q, q ∈ hidL ops (ancs ops.toList []) i ↔ q < ops.size ∧ fresB ops q = true ∧ ancB (ancs ops.toList []) i q = false := fun q => mem_hidL
  have hfi : fresB ops i = false := by
    cases hf : fresB ops i with
    | false => rfl
    | true => have := H.fresh_true hi hf; rw [he] at this; cases this
  have hname : ∀ x, (x < base ∨ base + ops.size ≤ x) ∨ ∃ q, q < ops.size ∧ x = base + q := fun x => by
    by_cases h : x < base ∨ base + ops.size ≤ x
    · exact .inl h
    · exact .inr ⟨x - base, by omega, by omega⟩
  have hlive : ∀ {σ1 : Nm} {t : St} {w1 w2 : World} {M1 : List Nat}, WR P vr σ1 w1 M1 (BD ops cs base B done) t w2 → ∀ q p, q < ops.size → σ1 (base + q) = some p → fresB ops q = true ∧ (cs q).live = true ∧ done q = true := fun hw q p hq hσ => by
    cases hb : (fresB ops q && (cs q).live && done q) with
    | true => simp only [Bool.and_eq_true] at hb; exact ⟨hb.1.1, hb.1.2, hb.2⟩
    | false =>
      have := (hw.back (base + q) (mem_BD.2 (.inr ⟨q, hq, hb, rfl⟩))).2
      rw [hσ] at this; cases this
  obtain ⟨M', m1, m2⟩ := hJ.wr.loc (sh := ⟨hideH base (Ss i).heap (hidL ops (ancs ops.toList []) i), (Ss i).next, (Ss i).ms⟩) (by rw [hJ.next, c1]; exact o2) (fun x p hσ => by
    show dead ((hideH base (Ss i).heap (hidL ops (ancs ops.toList []) i)).get x) ∨ (hideH base (Ss i).heap (hidL ops (ancs ops.toList []) i)).get x = sD.heap.get x
    rw [hideH_get]
    split
    · exact .inl dead_gone
    · rename_i hnh
      refine .inr ?_
      rcases hname x with hx | ⟨q, hq, rfl⟩
      · rw [hJ.out x hx, c1]; exact o1 x hx
      · obtain ⟨l1, l2, l3⟩ := hlive hJ.wr q p hq hσ
        have hq1 : ancB (ancs ops.toList []) i q = true := by
          cases hb : ancB (ancs ops.toList []) i q with
          | true => rfl
          | false => exact absurd ⟨q, (hmemH q).2 ⟨hq, l1, hb⟩, rfl⟩ hnh
        rw [hJ.fr q hq l1 l3, c1]
        exact H.curs (Nat.le_of_lt hi) q (anc_lt hD.back hq1) l1)
  refine ⟨M', m1, fun σ' w' hσ g => ?_⟩
  have hbd : BD ops cs base B (fun m => if m = i then true else done m) = BD ops cs base B done := BD_eq fun q hq => by
    by_cases e : q = i
    · subst e; rw [hfi]; rfl
    · simp [e]
  have hdone : ∀ q, fresB ops q = true → (fun m => if m = i then true else done m) q = true → done q = true := fun q hf hd => by
    have hne : q ≠ i := fun e => by rw [e, hfi] at hf; cases hf
    simpa [hne] using hd
  have hrk1 : rkT ops (i + 1) = rkT ops i + 1 := by rw [rkT_succ, he, if_pos rfl]
  let h0 := hideH base sD.heap ((hidL ops (ancs ops.toList []) i).filter fun q => !(done q))
  let sD' : St := ⟨showH base h0 s1.heap (hidL ops (ancs ops.toList []) i), s1.next, ms⟩
  have h0get : ∀ q, q ∈ hidL ops (ancs ops.toList []) i → h0.get (base + q) = if done q = true then sD.heap.get (base + q) else some .gone := fun q hq => by
    show (hideH base sD.heap _).get (base + q) = _
    rw [hideH_get]
    cases hd : done q with
    | true =>
      rw [if_pos rfl, if_neg]
      rintro ⟨q', h1, h2⟩
      have : q' = q := by omega
      subst this
      have := (List.mem_filter.1 h1).2
      rw [hd] at this; cases this
    | false =>
      rw [if_pos ⟨q, List.mem_filter.2 ⟨hq, by rw [hd]; rfl⟩, rfl⟩]; simp
  have hgetH : ∀ q, q ∈ hidL ops (ancs ops.toList []) i → sD'.heap.get (base + q) = some (orGone (if done q = true then sD.heap.get (base + q) else some .gone)) := fun q hq => by
    show (showH base h0 s1.heap _).get (base + q) = _
    rw [showH_get, if_pos ⟨q, hq, rfl⟩, h0get q hq]
  have hgetO : ∀ x, (¬ ∃ q, q ∈ hidL ops (ancs ops.toList []) i ∧ base + q = x) → sD'.heap.get x = s1.heap.get x := fun x hx => by
    show (showH base h0 s1.heap _).get x = _
    rw [showH_get, if_neg hx]
  have hSs : ∀ x, (Ss (i + 1)).heap.get x = if ∃ q, q ∈ hidL ops (ancs ops.toList []) i ∧ base + q = x then some (orGone ((Ss i).heap.get x)) else s1.heap.get x := fun x => by
    rw [hs]; exact showH_get
  refine ⟨sD', ?_, ?_, rfl, fun x hx => ?_, fun q hq hf hd => ?_, fun q hq hf hd hl => ?_⟩
  · rw [hbd]
    refine hJ.wr.frame m2 g hσ rfl fun x p hσ' => ?_
    by_cases hx : ∃ q, q ∈ hidL ops (ancs ops.toList []) i ∧ base + q = x
    · obtain ⟨q, hq, rfl⟩ := hx
      obtain ⟨q1, q2, q3⟩ := (hmemH q).1 hq
      rw [hgetH q hq]
      cases hd : done q with
      | false => rw [if_neg (by simp)]; exact .inl dead_gone
      | true =>
        rw [if_pos rfl]
        cases hg : sD.heap.get (base + q) with
        | none => exact .inl dead_gone
        | some c =>
          refine .inr (.inr ⟨rfl, ?_, ?_⟩)
          · show dead ((hideH base (Ss i).heap _).get (base + q))
            rw [hideH_get, if_pos ⟨q, hq, rfl⟩]; exact dead_gone
          · have hl := (hlive g q p q1 hσ').2.1
            exact hJ.nm q q1 q2 hd hl
    · exact .inr (.inl (hgetO x hx))
  · show s1.next = _
    rw [c2, H.tk i hi he, hs]
  · rw [hgetO x (by rintro ⟨q, hq, e⟩; have := (hmemH q).1 hq; omega), c2, H.tk i hi he, hSs, if_neg (by rintro ⟨q, hq, e⟩; have := (hmemH q).1 hq; omega)]
  · have hdq := hdone q hf hd
    have hcur1 : q < i → H.cur (rkT ops (i + 1)) q = (Ss (i + 1)).heap.get (base + q) := fun hlt => by
      have : rkT ops q ≤ rkT ops i := rkT_le (by omega)
      unfold Tr.cur; rw [if_pos (by omega), H.tk i hi he]
    rw [c2]
    by_cases hh : q ∈ hidL ops (ancs ops.toList []) i
    · rw [hgetH q hh, if_pos hdq, hJ.fr q hq hf hdq, c1]
      by_cases hlt : q < i
      · rw [hcur1 hlt, hSs, if_pos ⟨q, hh, rfl⟩, H.curs (Nat.le_of_lt hi) q hlt hf]
      · have hne : q ≠ i := fun e => by rw [e, hfi] at hf; cases hf
        have : rkT ops (i + 1) ≤ rkT ops q := rkT_le (by omega)
        unfold Tr.cur
        rw [if_neg (by omega), if_neg (by omega)]; rfl
    · have hq1 : ancB (ancs ops.toList []) i q = true := by
        cases hb : ancB (ancs ops.toList []) i q with
        | true => rfl
        | false => exact absurd ((hmemH q).2 ⟨hq, hf, hb⟩) hh
      have hno : ¬ ∃ q', q' ∈ hidL ops (ancs ops.toList []) i ∧ base + q' = base + q := by
        rintro ⟨q', h1, h2⟩
        have : q' = q := by omega
        subst this; exact hh h1
      rw [hgetO _ hno, hcur1 (anc_lt hD.back hq1), hSs, if_neg hno]
  · have := hJ.nm q hq hf (hdone q hf hd) hl
    cases hq' : σ (base + q) with
    | none => rw [hq'] at this; cases this
    | some p => rw [hσ _ _ hq']; rfl
theorem jw_made (hc : Wi ops done) (hi : i < ops.size) (hf : fresB ops i = true) (hdi : done i = false) (hJ : JW P vr σ w0 M B ops base Tk cs H.cur ms done sD w) (hl : (cs i).live = true) {ob : Obj} (hB : ∀ x, x ∈ B → x < base)
    (hor : OR P vr (σ.put (base + i) w.heap.size 0) 0 (cs i) ob) : JW P vr (σ.put (base + i) w.heap.size 0) w0 M B ops base Tk cs H.cur ms (fun m => if m = i then true else done m) (sD.set (base + i) (cs i)) (w.alloc ob) := by
  have hcnt := cntT_quiet (done := done) (H.fresh_true hi hf)
  have hget : ∀ x, (sD.set (base + i) (cs i)).heap.get x = if base + i = x then some (cs i) else sD.heap.get x := fun x => Tri.get_set ..
  obtain ⟨hlt, h0⟩ := hJ.wr.back (base + i) (mem_BD.2 (.inr ⟨i, hi, by rw [hdi]; simp, rfl⟩))
  refine ⟨hJ.wr.allocAt hl hlt h0 (fun x hx => ?_) hor, by rw [hcnt]; exact hJ.next, hJ.ms, fun x hx => ?_, fun q hq hfq hd => ?_, fun q hq hfq hd hlq => ?_⟩
  · rcases mem_BD.1 hx with h | ⟨q, h1, h2, rfl⟩
    · exact ⟨mem_BD.2 (.inl h), by have := hB x h; omega⟩
    · have hne : q ≠ i := fun e => by subst e; rw [hf, hl] at h2; simp at h2
      refine ⟨mem_BD.2 (.inr ⟨q, h1, ?_, rfl⟩), by omega⟩
      simpa [hne] using h2
  · rw [hget, if_neg (by omega), hcnt]; exact hJ.out x hx
  · rw [hget, hcnt]
    by_cases e : q = i
    · subst e
      rw [if_pos rfl]
      refine (H.kept' hq hfq cntT_le fun e h1 h2 h3 => ?_).symm
      cases hb : ancB (ancs ops.toList []) e q with
      | false => rfl
      | true =>
        have := anc_done' hD.back hc (eff_done hD hc h1 h2 h3) hb
        rw [hdi] at this; cases this
    · rw [if_neg (by omega)]; exact hJ.fr q hq hfq (by simpa [e] using hd)
  · by_cases e : q = i
    · subst e; rw [Nm.put_same]; rfl
    · have := hJ.nm q hq hfq (by simpa [e] using hd) hlq
      unfold Nm.put; rw [if_neg (by omega)]; exact this
theorem jw_unmade (hc : Wi ops done) (hi : i < ops.size) (hf : fresB ops i = true) (hdi : done i = false) (hJ : JW P vr σ w0 M B ops base Tk cs H.cur ms done sD w) (hg : cs i = .gone) :
    JW P vr σ w0 M B ops base Tk cs H.cur ms (fun m => if m = i then true else done m) (sD.set (base + i) .gone) w := by
  have hcnt := cntT_quiet (done := done) (H.fresh_true hi hf)
  have hget : ∀ x, (sD.set (base + i) .gone).heap.get x = if base + i = x then some .gone else sD.heap.get x := fun x => Tri.get_set ..
  have hbd : BD ops cs base B (fun m => if m = i then true else done m) = BD ops cs base B done := BD_eq fun q hq => by
    by_cases e : q = i
    · subst e; rw [hg, hf]; simp [AO.live]
    · simp [e]
  refine ⟨?_, by rw [hcnt]; exact hJ.next, hJ.ms, fun x hx => ?_, fun q hq hfq hd => ?_, fun q hq hfq hd hlq => ?_⟩
  · rw [hbd]
    refine hJ.wr.ext rfl (fun x hx => hx) fun x p hσ => ?_
    rw [hget]
    split
    · exact .inl dead_gone
    · exact .inr rfl
  · rw [hget, if_neg (by omega), hcnt]; exact hJ.out x hx
  · rw [hget, hcnt]
    by_cases e : q = i
    · subst e
      rw [if_pos rfl, ← hg]
      refine (H.kept' hq hfq cntT_le fun e h1 h2 h3 => ?_).symm
      cases hb : ancB (ancs ops.toList []) e q with
      | false => rfl
      | true =>
        have := anc_done' hD.back hc (eff_done hD hc h1 h2 h3) hb
        rw [hdi] at this; cases this
    · rw [if_neg (by omega)]; exact hJ.fr q hq hfq (by simpa [e] using hd)
  · have e : q ≠ i := fun e => by subst e; rw [hg] at hlq; cases hlq
    exact hJ.nm q hq hfq (by simpa [e] using hd) hlq
omit hD in
theorem jw_quiet (hi : i < ops.size) (hf : fresB ops i = false) (ht : truB ops i = false) (hJ : JW P vr σ w0 M B ops base Tk cs H.cur ms done sD w) : JW P vr σ w0 M B ops base Tk cs H.cur ms (fun m => if m = i then true else done m) sD w := by
 have hcnt := cntT_quiet (done := done) ht
 have hbd : BD ops cs base B (fun m => if m = i then true else done m) = BD ops cs base B done := BD_eq fun q hq => by
  by_cases e : q = i
  · subst e; rw [hf]; rfl
  · simp [e]
 have hne : ∀ q, fresB ops q = true → q ≠ i := fun q hq e => by rw [e, hf] at hq; cases hq
 exact ⟨by rw [hbd]; exact hJ.wr, by rw [hcnt]; exact hJ.next, hJ.ms, fun x hx => by rw [hcnt]; exact hJ.out x hx, fun q hq hfq hd => by rw [hcnt]; exact hJ.fr q hq hfq (by simpa [hne q hfq] using hd), fun q hq hfq hd hlq => hJ.nm q hq hfq (by simpa [hne q hfq] using hd) hlq⟩
end jw
end draw
end Go.Acq.Vx
noncomputable section
namespace Go.Acq.Vx
open Go Go.Acq Go.RowKit
section draw
variable {P : Program} {vr : Nat → Int} {X : List (FuncId × XK)} {σ : Nm} {ρ : Option Nat} {w0 w : World} {M B : List Nat} {n : Nat} {ih : IH} {ops : Array Oper} {E E2 : En} {s s2 : St} {a : Act}
theorem looks_of {o : Op} {x : Nat} (h : blockOf E o = some x) : looks o = true := by cases o <;> first | rfl | (simp [blockOf] at h)
theorem runDraw_ok (hm : P.follows .mixedOrders = true) (hX : XsOk P X) (hF : SndF P vr ih) (hC : SndC P vr ih) {id : Nat} {Q : Exit → Act → World → Prop} (hf : FA vr σ n E s.ms a) (hw : WR P vr σ w0 M B s w) (h : runDraw P X ih n ops E s = some (E2, s2))
    (hQ : ∀ σ' a' w', σ.le σ' → FA vr σ' n E2 s2.ms a' → WR P vr σ' w0 M B s2 w' → Q .normal a' w') : (Code.region id ops true).wpIn (FW ρ) 0 P Q a w := by
  unfold runDraw runDrawA at h
  rw [cond_eq_ite] at h
  split at h
  case isFalse => cases h
  rename_i hdok
  have hD := drawOk_ok hdok
  split at h
  case h_2 => cases h
  rename_i E3 s3 ss qs hrun
  rw [cond_eq_ite] at h
  split at h
  case isFalse => cases h
  rename_i hqs
  injection h with h; injection h with e1 e2; subst e1; subst e2
  obtain ⟨Es, Ss, vs, g1, g2, g3, g4, g5, g6⟩ := runDs_trace (by simp) hrun
  rw [Nat.zero_add, Array.length_toList] at g3 g4
  simp only [Nat.zero_add, Array.length_toList] at g5 g6
  have hrk0 : rkT ops 0 = 0 := rfl
  simp only [hrk0, Nat.sub_zero] at g6
  obtain ⟨Tk, hTk⟩ : ∃ Tk : Nat → St, ∀ k, Tk k = ((⟨s.heap, s.next + ops.size, s.ms⟩ : St) :: ss)[k]?.getD ⟨s.heap, s.next + ops.size, s.ms⟩ := ⟨_, fun _ => rfl⟩
  let H : Tr P X ih n ops (ancs ops.toList []) s.next Es Ss Tk vs (fun q => orGone ((Ss (q + 1)).heap.get (s.next + q))) :=
    ⟨fun j o hj ho => ⟨(g5 j o (by omega) hj ho).1, (g5 j o (by omega) hj ho).2.1⟩, by rw [hTk, g2]; rfl, fun j hj ht => by rw [hTk, g6 j (by omega) hj ht]; rfl, fun q => rfl⟩
  have hlist : ∀ k, k ≤ rkT ops ops.size → ((⟨s.heap, s.next + ops.size, s.ms⟩ : St) :: ss)[k]? = some (Tk k) := by
    intro k hk
    by_cases h0 : k = 0
    · subst h0; rw [hTk]; rfl
    · obtain ⟨e, h1, h2, h3⟩ := rk_find (ops := ops) (j := ops.size) (k := k - 1) (by omega)
      have hs : rkT ops (e + 1) = rkT ops e + 1 := by rw [rkT_succ, h2, if_pos rfl]
      have := g6 e (by omega) h1 h2
      rw [show rkT ops (e + 1) = k by omega] at this
      rw [hTk, this]; rfl
  have hEnot : ∀ t i, (∀ (j : Nat) (o : Oper), ops[j]? = some o → o.dst = some t → i ≤ j) → i ≤ ops.size → fnd t (Es i) = fnd t E := by
    intro t i
    induction i with
    | zero => intro _ _; rw [g1]
    | succ i ihh =>
      intro ht hi
      have ihh := ihh fun j o h1 h2 => by have := ht j o h1 h2; omega
      have hlt : i < ops.size := by omega
      have ho : ops[i]? = some ops[i] := Array.getElem?_eq_getElem hlt
      obtain ⟨_, k2, _⟩ := g5 i _ (by omega) hlt ho
      rw [k2]
      cases hd : ops[i].dst with
      | none => exact ihh (by omega)
      | some d =>
        show fnd t ((d, vs i) :: Es i) = _
        rw [fnd_cons, if_neg (fun e => by have := ht i _ ho (by rw [hd, e]); omega)]
        exact ihh (by omega)
  have hEdst : ∀ (j : Nat) (o : Oper) (t : Nat), ops[j]? = some o → o.dst = some t → ∀ i, j < i → i ≤ ops.size → fnd t (Es i) = some (vs j) := by
    intro j o t hoj hdj i
    induction i with
    | zero => intro h; omega
    | succ i ihh =>
      intro hji hi
      have hlt : i < ops.size := by omega
      have ho : ops[i]? = some ops[i] := Array.getElem?_eq_getElem hlt
      obtain ⟨_, k2, _⟩ := g5 i _ (by omega) hlt ho
      rw [k2]
      by_cases e : j = i
      · subst e
        rw [ho] at hoj; injection hoj with hoj
        rw [hoj, hdj]
        show fnd t ((t, vs j) :: Es j) = _
        rw [fnd_cons, if_pos rfl]
      · cases hd : ops[i].dst with
        | none => exact ihh (by omega) (by omega)
        | some d =>
          show fnd t ((d, vs i) :: Es i) = _
          rw [fnd_cons, if_neg (fun e' => e (hD.uniq j i o _ t hoj ho hdj (by rw [hd, e'])))]
          exact ihh (by omega) (by omega)
  have hms : ∀ i, i ≤ ops.size → (Ss i).ms = s.ms := by
    intro i
    induction i with
    | zero => intro _; rw [g2]
    | succ i ihh =>
      intro hi
      have hlt : i < ops.size := by omega
      obtain ⟨k1, _, _⟩ := g5 i _ (by omega) hlt (Array.getElem?_eq_getElem hlt)
      rw [k1.ms]; exact ihh (by omega)
  have hB : ∀ x, x ∈ B → x < s.next := fun x hx => (hw.back x hx).1
  let J : (Nat → Bool) → Act → World → Prop := fun done a w => ∃ σ', σ.le σ' ∧ Wi ops done ∧ a.tmps.size = n ∧ (∃ bs, a.defers = bs.map mkD ∧ MsR σ' s.ms bs) ∧
    (∀ t v, (∀ (j : Nat) (o : Oper), ops[j]? = some o → o.dst = some t → done j = false) → fnd t E = some v → VR vr σ' v (a.tmps.getD t undef)) ∧
    (∀ (j : Nat) (o : Oper) (t : Nat), ops[j]? = some o → o.dst = some t → done j = true → VR vr σ' (vs j) (a.tmps.getD t undef)) ∧
    ∃ sD, JW P vr σ' w0 M B ops s.next Tk (fun q => orGone ((Ss (q + 1)).heap.get (s.next + q))) H.cur s.ms done sD w
  refine wpIn_region_any hm (Z33 (J := J) hD.back ?_ ?_ ops.size (Array.replicate ops.size false) a _ (by simp) ?_ ?_)
  · -- a step
    rintro done i o a w ho hdi hdeps ⟨σ', hσ, hc, hsz, ⟨bs, hbs, hmr⟩, hnot, hdst, sD, hJ⟩
    have hi : i < ops.size := (Array.getElem?_eq_some_iff.1 ho).1
    have hdeps' : ∀ (o' : Oper), ops[i]? = some o' → ∀ e, e ∈ o'.after → Region.binds .any e = true → done e.on = true := fun o' ho' => by rw [ho] at ho'; injection ho' with ho'; subst ho'; exact hdeps
    obtain ⟨v1, v2, v3⟩ := g5 i o (by omega) hi ho
    have htr : truB ops i = isTrue o.op := by unfold truB; rw [ho]
    have hfr : fresB ops i = isFresh o.op := by unfold fresB; rw [ho]
    have hfe : FE vr σ' n (restr (Es i) (readsO ops o)) a.tmps := ⟨hsz, fun t v hv => by
      obtain ⟨r1, r2⟩ := fnd_restr hv
      by_cases hex : ∃ (j : Nat) (p : Oper), ops[j]? = some p ∧ p.dst = some t
      · obtain ⟨j, p, hp, hpd⟩ := hex
        rcases hD.reads i j o p t ho hp hpd r1 with ⟨c1, c2⟩ | ⟨c1, c2⟩
        · have hdj := anc_done hD.back hc (i + 1) i j (Nat.lt_succ_self i) c2 hdeps'
          rw [hEdst j p t hp hpd i c1 (by omega)] at r2
          injection r2 with r2; subst r2
          exact hdst j p t hp hpd hdj
        · have hone : ∀ (j' : Nat) (p' : Oper), ops[j']? = some p' → p'.dst = some t → j' = j := fun j' p' hp' hpd' => hD.uniq j' j p' p t hp' hp hpd' hpd
          rw [hEnot t i (fun j' p' hp' hpd' => by rw [hone j' p' hp' hpd']; omega) (by omega)] at r2
          refine hnot t v (fun j' p' hp' hpd' => ?_) r2
          rw [hone j' p' hp' hpd']
          cases hdj : done j with
          | false => rfl
          | true => have := anc_done' hD.back hc hdj c2; rw [hdi] at this; cases this
      · have hno : ∀ (j : Nat) (p : Oper), ops[j]? = some p → p.dst ≠ some t := fun j p hp e => hex ⟨j, p, hp, e⟩
        rw [hEnot t i (fun j p hp e => absurd e (hno j p hp)) (by omega)] at r2
        exact hnot t v (fun j p hp e => absurd e (hno j p hp)) r2⟩
    have hclosed : Wi ops (fun m => if m = i then true else done m) := by
      intro j o' ho' hj e he hbe
      show (if e.on = i then true else done e.on) = true
      by_cases hei : e.on = i
      · rw [if_pos hei]
      · rw [if_neg hei]
        by_cases hji : j = i
        · subst hji; rw [ho] at ho'; injection ho' with ho'; subst ho'; exact hdeps e he hbe
        · have hj' : done j = true := by simpa [hji] using hj
          exact hc j o' ho' hj' e he hbe
    have hdd := v1.dst
    have fin : ∀ σ'' x w' sD', σ'.le σ'' → VR vr σ'' (vs i) x → JW P vr σ'' w0 M B ops s.next Tk (fun q => orGone ((Ss (q + 1)).heap.get (s.next + q))) H.cur s.ms (fun m => if m = i then true else done m) sD' w' →
        J (fun m => if m = i then true else done m) (a.put o.dst x) w' := by
      intro σ'' x w' sD' k1 k2 k4
      refine ⟨σ'', Nm.le_trans hσ k1, hclosed, ?_, ?_, fun t v hno hv => ?_, fun j p t hp hpd hdj => ?_, sD', k4⟩
      · cases o.dst with
        | none => exact hsz
        | some d => simpa [Act.put] using hsz
      · refine ⟨bs, ?_, hmr.mono k1⟩
        cases o.dst with
        | none => exact hbs
        | some d => exact hbs
      · have hno' : ∀ (j : Nat) (p : Oper), ops[j]? = some p → p.dst = some t → done j = false := fun j p hp hpd => by
          have := hno j p hp hpd
          by_cases e : j = i
          · simp [e] at this
          · simpa [e] using this
        cases hod : o.dst with
        | none => exact (hnot t v hno' hv).mono k1
        | some d =>
          rw [hod] at hdd
          rw [put_getD hsz (blt_lt hdd), if_neg (fun e => by have := hno i o ho (by rw [hod, e]); simp at this)]
          exact (hnot t v hno' hv).mono k1
      · by_cases e : j = i
        · subst e
          rw [ho] at hp; injection hp with hp; subst hp
          rw [hpd] at hdd ⊢
          rw [put_getD hsz (blt_lt hdd), if_pos rfl]
          exact k2
        · have hdj' : done j = true := by simpa [e] using hdj
          cases hod : o.dst with
          | none => exact (hdst j p t hp hpd hdj').mono k1
          | some d =>
            rw [hod] at hdd
            rw [put_getD hsz (blt_lt hdd), if_neg (fun e' => e (hD.uniq j i p o t hp ho hpd (by rw [hod, e'])))]
            exact (hdst j p t hp hpd hdj').mono k1
    cases v1 with
    | made hff hd hwt cs t hv hs =>
      rw [hff] at hfr
      have hcs : orGone ((Ss (i + 1)).heap.get (s.next + i)) = .cells (putC .e 0 cs) (lenL cs) t false := by
        rw [hs]; show orGone (((Ss i).heap.set (s.next + i) _).get (s.next + i)) = _; rw [Tri.get_set, if_pos rfl]; rfl
      refine freshO_ok ho hfe hwt hv fun x A q1 q2 q3 => ?_
      have h0 : σ' (s.next + i) = none := (hJ.wr.back _ (mem_BD.2 (.inr ⟨i, hi, by rw [hdi]; simp, rfl⟩))).2
      have := jw_made H hD hc hi hfr hdi hJ (by show AO.live _ = true; rw [hcs]; rfl) hB (ob := .cells A t (0, 0)) (by
        show OR P vr _ 0 (orGone ((Ss (i + 1)).heap.get (s.next + i))) _
        rw [hcs]; exact newC_or0 (q1.mono (Nm.le_put h0)) q2)
      exact fin _ x _ (sD.set (s.next + i) (orGone ((Ss (i + 1)).heap.get (s.next + i)))) (Nm.le_put h0) (q3 _ Nm.put_same) this
    | unmade hff hd hwt hv hs =>
      rw [hff] at hfr
      have hcs : orGone ((Ss (i + 1)).heap.get (s.next + i)) = .gone := by
        rw [hs]; show orGone (((Ss i).heap.set (s.next + i) .gone).get (s.next + i)) = _; rw [Tri.get_set, if_pos rfl]; rfl
      refine skipO_ok ho hfe hwt ?_
      exact fin _ undef _ (sD.set (s.next + i) .gone) Nm.le_refl (by rw [hv]; exact .und) (jw_unmade H hD hc hi hfr hdi hJ hcs)
    | eff hff he s1 hv hs =>
      have ht : truB ops i = true := by rw [htr]; simp [isTrue, hff, he]
      obtain ⟨M', m1, m2⟩ := jw_eff H hD hc hi ht hdi hdeps' hJ hs
      refine (valO_ok (ρ := ρ) hX hF hC ho hfe m1 hv fun σ'' x w' k1 k2 k3 => ?_).1
      obtain ⟨sD', k4⟩ := m2 σ'' w' k1 k3
      exact fin σ'' x w' sD' k1 k2 k4
    | quiet hff he h1 hv hs =>
      rw [hff] at hfr
      have ht : truB ops i = false := by rw [htr]; simp [isTrue, he]
      have hval : valO P X ih n ops o (restr (Es i) (readsO ops o)) sD = some (vs i, sD) := by
        rw [hs] at hv
        unfold valO at hv ⊢
        simp only [hdd, cond_true] at hv ⊢
        cases hwt : wantS ops (restr (Es i) (readsO ops o)) o.guard with
        | none => rw [hwt] at hv; cases hv
        | some b =>
          rw [hwt] at hv
          cases b with
          | false => simp only at hv ⊢; injection hv with hv; injection hv with hv _; rw [hv]
          | true =>
            simp only [he, cond_false] at hv ⊢
            have hpv : pureV P (restr (Es i) (readsO ops o)) (Ss i) o.op = some (vs i) := by
              split at hv
              · rename_i v' hpv
                injection hv with hv; injection hv with hv _; rw [← hv]; exact hpv
              · cases hv
            have hpure : pureV P (restr (Es i) (readsO ops o)) sD o.op = some (vs i) := by
              cases hbo : blockOf (restr (Es i) (readsO ops o)) o.op with
              | none => rw [pureV_same (s2 := Ss i) (fun x hx => by rw [hbo] at hx; cases hx)]; exact hpv
              | some x =>
                have hsees := h1
                unfold seesOk at hsees
                rw [hbo] at hsees
                simp only [Bool.or_eq_true, Bool.and_eq_true] at hsees
                have hsq := List.all_eq_true.1 hqs _ (v3 he (looks_of hbo))
                unfold sameQ at hsq
                rw [ho] at hsq
                simp only [hbo, hwt, Bool.or_eq_true, Bool.and_eq_true] at hsq
                obtain ⟨w1, w2⟩ := cntT_window hD hc hi hdi hdeps'
                have hown : ∀ q, q < ops.size → x = s.next + q → fresB ops q = true ∧ done q = true ∧ q < i := fun q hq e => by
                  rcases hsees with (h | h) | h
                  · have := blt_lt h; omega
                  · have := Nat.le_of_ble_eq_true h; omega
                  · rw [show x - s.next = q by omega] at h
                    exact ⟨h.1, anc_done hD.back hc (i + 1) i q (Nat.lt_succ_self i) h.2 hdeps', anc_lt hD.back h.2⟩
                rcases hsq with ⟨e1, e2⟩ | hall
                · have e1 := Nat.eq_of_beq_eq_true e1
                  have e2 := Nat.eq_of_beq_eq_true e2
                  have hk : cntT ops done = rkT ops i := by omega
                  rw [pureV_same (s2 := Ss i) (fun y hy => by
                    rw [hbo] at hy; injection hy with hy; subst hy
                    by_cases hx : x < s.next ∨ s.next + ops.size ≤ x
                    · rw [hJ.out x hx, hk]; exact ((H.out (Nat.le_of_lt hi)).1 x hx).symm
                    · obtain ⟨k1, k2, k3⟩ := hown (x - s.next) (by omega) (by omega)
                      have := hJ.fr (x - s.next) (by omega) k1 k2
                      rw [show s.next + (x - s.next) = x by omega, hk] at this
                      rw [this]
                      have := H.curs (Nat.le_of_lt hi) (x - s.next) k3 k1
                      rw [show s.next + (x - s.next) = x by omega] at this
                      exact this.symm)]
                  exact hpv
                · have hmemk : cntT ops done ∈ (List.range (hiT ops (ancs ops.toList []) i + 1)).drop (loT ops (ancs ops.toList []) i) := by
                    apply List.mem_of_getElem? (i := cntT ops done - loT ops (ancs ops.toList []) i)
                    rw [List.getElem?_drop, show loT ops (ancs ops.toList []) i + (cntT ops done - loT ops (ancs ops.toList []) i) = cntT ops done by omega, List.getElem?_range (by omega)]
                  have hk := List.all_eq_true.1 hall _ hmemk
                  rw [hlist _ cntT_le] at hk
                  simp only at hk
                  split at hk
                  · rename_i u hu
                    simp only [Bool.and_eq_true] at hk
                    have := SV.beq_eq hk.1
                    subst this
                    rw [pureV_same (s2 := Tk (cntT ops done)) (fun y hy => by
                      rw [hbo] at hy; injection hy with hy; subst hy
                      by_cases hx : x < s.next ∨ s.next + ops.size ≤ x
                      · exact hJ.out x hx
                      · obtain ⟨k1, k2, k3⟩ := hown (x - s.next) (by omega) (by omega)
                        have := hJ.fr (x - s.next) (by omega) k1 k2
                        rw [show s.next + (x - s.next) = x by omega] at this
                        rw [this]
                        have hl := hk.2
                        unfold lateOk at hl
                        simp only [Bool.or_eq_true] at hl
                        have hlt : rkT ops (x - s.next) < cntT ops done := by
                          rcases hl with (hl | hl) | hl
                          · have := blt_lt hl; omega
                          · have := Nat.le_of_ble_eq_true hl; omega
                          · exact blt_lt hl
                        unfold Tr.cur
                        rw [if_pos hlt, show s.next + (x - s.next) = x by omega])]
                    exact hu
                  · cases hk
            rw [hpure]
      refine (valO_ok (ρ := ρ) hX hF hC ho hfe hJ.wr hval fun σ'' x w' k1 k2 k3 => ?_).1
      refine fin σ'' x w' sD k1 k2 (jw_quiet H hi hfr ht ⟨k3, hJ.next, hJ.ms, hJ.out, hJ.fr, fun q hq hfq hd hl => ?_⟩)
      have := hJ.nm q hq hfq hd hl
      cases hq' : σ' (s.next + q) with
      | none => rw [hq'] at this; cases this
      | some p => rw [k1 _ _ hq']; rfl
  · -- the end
    rintro done a w hall ⟨σ', hσ, hc, hsz, ⟨bs, hbs, hmr⟩, hnot, hdst, sD, hJ⟩
    have hcnt : cntT ops done = rkT ops ops.size := by
      unfold cntT rkT
      apply List.countP_congr
      intro j hj
      rw [hall j (List.mem_range.1 hj)]; simp
    refine hQ σ' a w hσ ⟨⟨hsz, fun t v hv => ?_⟩, bs, hbs, by rw [← g4, hms _ (Nat.le_refl _)]; exact hmr⟩ ?_
    · rw [← g3] at hv
      by_cases hex : ∃ (j : Nat) (p : Oper), ops[j]? = some p ∧ p.dst = some t
      · obtain ⟨j, p, hp, hpd⟩ := hex
        have hj : j < ops.size := (Array.getElem?_eq_some_iff.1 hp).1
        rw [hEdst j p t hp hpd ops.size hj (Nat.le_refl _)] at hv
        injection hv with hv; subst hv
        exact hdst j p t hp hpd (hall j hj)
      · have hno : ∀ (j : Nat) (p : Oper), ops[j]? = some p → p.dst ≠ some t := fun j p hp e => hex ⟨j, p, hp, e⟩
        rw [hEnot t ops.size (fun j p hp e => absurd e (hno j p hp)) (Nat.le_refl _)] at hv
        exact hnot t v (fun j p hp e => absurd e (hno j p hp)) hv
    · rw [← g4]
      obtain ⟨o1, o2⟩ := H.out (Nat.le_refl ops.size)
      refine hJ.wr.ext (by rw [hJ.next, hcnt]; exact o2) (fun x hx => mem_BD.2 (.inl hx)) fun x p hp => .inr ?_
      by_cases hx : x < s.next ∨ s.next + ops.size ≤ x
      · rw [hJ.out x hx, hcnt]; exact o1 x hx
      · have hq : x - s.next < ops.size := by omega
        have hxe : s.next + (x - s.next) = x := by omega
        have hfl : fresB ops (x - s.next) = true := by
          cases hb : fresB ops (x - s.next) with
          | true => rfl
          | false =>
            have := (hJ.wr.back x (mem_BD.2 (.inr ⟨x - s.next, hq, by rw [hb]; rfl, hxe⟩))).2
            rw [hp] at this; cases this
        have h1 := hJ.fr (x - s.next) hq hfl (hall _ hq)
        have h2 := H.curs (Nat.le_refl ops.size) (x - s.next) hq hfl
        rw [hxe, hcnt] at h1
        rw [hxe] at h2
        rw [h1, h2]
  · have : ((List.range ops.size).filter (fun i => !(Array.replicate ops.size false).getD i true)).length ≤ (List.range ops.size).length := List.length_filter_le _ _
    simpa using this
  · have hfn : (fun q => (Array.replicate ops.size false).getD q false) = fun _ => false := by
      funext q
      simp only [Array.getD_eq_getD_getElem?, Array.getElem?_replicate]
      split <;> rfl
    show J (fun q => (Array.replicate ops.size false).getD q false) a _
    rw [hfn]
    have hcnt : cntT ops (fun _ => false) = 0 := by unfold cntT; rw [List.countP_eq_zero]; intro j _; simp
    refine ⟨σ, Nm.le_refl, fun i o _ h => by simp at h, hf.fe.size, hf.df, fun t v _ hv => hf.fe.get t v hv, fun j o t _ _ h => by simp at h, ⟨s.heap, s.next + ops.size, s.ms⟩, ?_, ?_, rfl, fun x hx => ?_, fun q _ _ h => (by cases h), fun q _ _ h => (by cases h)⟩
    · have hd := hw.drew
      refine ⟨hd.os, hd.tape, hd.output, hd.size, hd.keep, hd.own, hd.low, hd.inj, fun i hi => hd.fresh i (Nat.le_trans (Nat.le_add_right _ _) hi), fun x hx => ?_⟩
      rcases mem_BD.1 hx with h | ⟨q, h1, _, rfl⟩
      · obtain ⟨k1, k2⟩ := hd.back x h
        exact ⟨by show x < s.next + ops.size; omega, k2⟩
      · exact ⟨by show s.next + q < s.next + ops.size; omega, hd.fresh _ (Nat.le_add_right _ _)⟩
    · rw [hcnt, H.zero, g2]
    · rw [hcnt, H.zero, g2]
end draw
end Go.Acq.Vx
noncomputable section
namespace Go.Acq.Vx
open Go Go.Acq Go.RowKit
def LW (ρ : Option Nat) (P : Program) (c : Code) (Q : Exit → Act → World → Prop) (a : Act) (w : World) : Prop :=
  ∀ (b : Frame) (k : List Item) (cs : List Frame), b.roundOf = (FW ρ).round → (FW ρ).fn b.fn → (FW ρ).room (cs.length + 1 + 0) →
    ∃ e a' w', Q e a' w' ∧ ArrivesIn (Machine.fenced P (FW ρ)) P (lone (b.atR a (.code c :: .inLoop c :: k)) cs w) b k cs e a' w'
theorem LW.wpIn {ρ : Option Nat} {P : Program} {c : Code} {Q : Exit → Act → World → Prop} {a : Act} {w : World} (h : LW ρ P c Q a w) : (Code.loop c).wpIn (FW ρ) 0 P Q a w := by
 intro b k cs hro hb hr
 obtain ⟨e, a', w', hq, harr⟩ := h b k cs hro hb hr
 exact ⟨e, a', w', hq, .of_steps (.one (fenced_calm hb hr rfl) stepR_loop) harr⟩
theorem LW.of {ρ : Option Nat} {P : Program} {c : Code} {Q : Exit → Act → World → Prop} {a : Act} {w : World} (h : c.wpIn (FW ρ) 0 P (Exit.then (LW ρ P c Q) Q) a w) : LW ρ P c Q a w := by
 intro b k cs hro hb hr
 obtain ⟨e, a₁, w₁, hq, harr⟩ := h b (.inLoop c :: k) cs hro hb hr
 cases e with
 | normal =>
  obtain ⟨e₂, a₂, w₂, hq₂, harr₂⟩ := hq b k cs hro hb hr
  exact ⟨e₂, a₂, w₂, hq₂, .of_steps (StepsIn.trans harr (.one (fenced_calm hb hr rfl) stepR_inLoop)) harr₂⟩
 | exit id => exact ⟨_, a₁, w₁, hq, .pass (x := .inLoop c) rfl (fun _ _ => .inl (by simp)) harr⟩
 | goto l => exact ⟨_, a₁, w₁, hq, .pass (x := .inLoop c) rfl (fun _ _ => .inl (by simp)) harr⟩
 | ret => exact ⟨_, a₁, w₁, hq, .pass (x := .inLoop c) rfl (fun _ _ => .inl (by simp)) harr⟩
 | panic ch => exact ⟨_, a₁, w₁, hq, .pass (x := .inLoop c) rfl (fun _ _ => .inl (by simp)) harr⟩
 | outgrown => exact ⟨_, a₁, w₁, hq, .pass (x := .inLoop c) rfl (fun _ _ => .inl (by simp)) harr⟩
def SndL (P : Program) (vr : Nat → Int) (ih : IH) : Prop := ∀ n top c E s x E' s', ih.code n top (.loop c) E s = some (x, E', s') → ∀ ρ σ w0 M B a w (Q : Exit → Act → World → Prop), (top = true → ρ = none) → FA vr σ n E s.ms a → WR P vr σ w0 M B s w →
  (∀ σ' a' w', σ.le σ' → FA vr σ' n E' s'.ms a' → WR P vr σ' w0 M B s' w' → Q (exQ x) a' w') → LW ρ P c Q a w
section code
variable {P : Program} {vr : Nat → Int} {X : List (FuncId × XK)} {σ : Nm} {ρ : Option Nat} {w0 w : World} {M B : List Nat} {n : Nat} {ih : IH} {E E' : En} {s s' : St} {a : Act} {top : Bool}
theorem FA.weak {E1 : En} {ms : List Nat} (h : FA vr σ n E ms a) (hE : ∀ t v, fnd t E1 = some v → fnd t E = some v) : FA vr σ n E1 ms a := ⟨⟨h.fe.size, fun t v ht => h.fe.get t v (hE t v ht)⟩, h.df⟩
theorem fnd_ded : ∀ {E : En} {seen : List Nat} {t : Nat} {v : SV}, fnd t (ded E seen) = some v → t ∉ seen ∧ fnd t E = some v
 | [], seen, t, v, h => by simp [ded, fnd] at h
 | (d, u) :: E, seen, t, v, h => by
  simp only [ded] at h
  cases hs : seen.any (Nat.beq d) with
  | true =>
   rw [hs] at h
   obtain ⟨h1, h2⟩ := fnd_ded h
   refine ⟨h1, ?_⟩
   rw [fnd_cons, if_neg]
   · exact h2
   · rintro rfl; exact h1 (any_beq.1 hs)
  | false =>
   rw [hs] at h
   simp only [cond_false, fnd_cons] at h ⊢
   by_cases e : d = t
   ·
    subst e
    rw [if_pos rfl] at h ⊢
    exact ⟨fun hm => (by rw [any_beq.2 hm] at hs; cases hs), h⟩
   ·
    rw [if_neg e] at h ⊢
    obtain ⟨h1, h2⟩ := fnd_ded h
    exact ⟨fun hm => h1 (.tail _ hm), h2⟩
def CS (P : Program) (vr : Nat → Int) (X : List (FuncId × XK)) (ih : IH) (ρ : Option Nat) (w0 : World) (M B : List Nat) (n : Nat) (top : Bool) (c : Code) : Prop := ∀ E s x E' s' σ a w (Q : Exit → Act → World → Prop), codeS P X ih n top c E s = some (x, E', s') → FA vr σ n E s.ms a → WR P vr σ w0 M B s w →
  (∀ σ' a' w', σ.le σ' → FA vr σ' n E' s'.ms a' → WR P vr σ' w0 M B s' w' → Q (exQ x) a' w') → c.wpIn (FW ρ) 0 P Q a w
theorem loop_ok (hL : SndL P vr ih) (htop : top = true → ρ = none) {c : Code} (hc : CS P vr X ih ρ w0 M B n top c) {x : Ex} {Q : Exit → Act → World → Prop} (h : codeS P X ih n top (.loop c) E s = some (x, E', s')) (hf : FA vr σ n E s.ms a) (hw : WR P vr σ w0 M B s w)
    (hQ : ∀ σ' a' w', σ.le σ' → FA vr σ' n E' s'.ms a' → WR P vr σ' w0 M B s' w' → Q (exQ x) a' w') : LW ρ P c Q a w := by
  apply LW.of
  simp only [codeS] at h
  split at h
  · rename_i E1 s1 hb
    refine hc _ _ _ _ _ σ a w _ hb hf hw fun σ1 a1 w1 k1 k2 k3 => ?_
    show LW ρ P c Q a1 w1
    exact hL _ _ _ _ _ _ _ _ h ρ σ1 w0 M B a1 w1 Q htop (k2.weak fun t v ht => (fnd_ded ht).2) k3 fun σ2 a2 w2 j1 j2 j3 => hQ σ2 a2 w2 (Nm.le_trans k1 j1) j2 j3
  · rename_i r hne
    refine hc _ _ _ _ _ σ a w _ h hf hw fun σ1 a1 w1 k1 k2 k3 => ?_
    cases x with
    | nor => exact absurd h (fun e => hne _ _ e)
    | ret => exact hQ σ1 a1 w1 k1 k2 k3
    | exit id => exact hQ σ1 a1 w1 k1 k2 k3
theorem range_ok (hF : SndF P vr ih) (hρ : ρ = none) {y : Operand} {ps : Array Nat} {az bd : Code} {f : FuncId} {fa ca : List SV} {v : SV} {s3 : St} {n2 : Nat} {E2 : En} {ps2 : List Nat} {as2 bd2 : Code} {x : Ex} {Q : Exit → Act → World → Prop} (hf : FA vr σ n E s.ms a) (hw : WR P vr σ w0 M B s w)
    (hy : ev E y = some (.fn f fa ca)) (hc : ih.call f (fa ++ [.yld (s.new .mark).next] ++ ca) ⟨((s.new .mark).new (.loop n E ps.toList az bd .nor)).heap, ((s.new .mark).new (.loop n E ps.toList az bd .nor)).next, []⟩ = some (v, s3)) (hl : s3.heap.get (s.new .mark).next = some (.loop n2 E2 ps2 as2 bd2 x))
    (hQ : ∀ σ' a' w', σ.le σ' → FA vr σ' n E (s.next :: s.ms) a' → WR P vr σ' w0 M B ⟨s3.heap.set (s.new .mark).next .gone, s3.next, s.next :: s.ms⟩ w' → Q (exQ x) a' w') : (Code.rangeFunc y ps az bd).wpIn (FW ρ) 0 P Q a w := by
  subst hρ
  refine wpIn_rangeFunc fun fn _ => ?_
  obtain ⟨fx, cx, h1, h2, h3⟩ := (hf.fe.ev hy).fn_inv
  obtain ⟨hcb, hcalls⟩ := hF _ _ _ _ _ hc rfl
  obtain ⟨bs, hbs, hmr⟩ := hf.df
  have hwa := hw.alloc (o := .mark) (ob := .deferred (some [])) (r := 0) rfl .mark
  have hle1 : σ.le (σ.put s.next w.heap.size 0) := Nm.le_put (hw.fresh _ (Nat.le_refl _))
  have hsz : (w.alloc (.deferred (some []))).heap.size = w.heap.size + 1 := World.size_alloc ..
  have hwb := hwa.alloc (o := .loop n E ps.toList az bd .nor) (ob := .loop { state := .ready, pending := none, fn := fn, tmps := a.tmps, params := ps.toList.toArray, assign := az, body := bd, defers := w.heap.size }) (r := 0) rfl
    (OR.loop (x := .nor) ((hf.fe.mono hle1).mono (Nm.le_put (hwa.fresh _ (Nat.le_refl _)))))
  have hle2 : (σ.put s.next w.heap.size 0).le ((σ.put s.next w.heap.size 0).put (s.new .mark).next (w.alloc (.deferred (some []))).heap.size 0) := Nm.le_put (hwa.fresh _ (Nat.le_refl _))
  have hle := Nm.le_trans hle1 hle2
  rw [hsz] at hwb hle2 hle
  have hps : ps.toList.toArray = ps := by simp
  rw [hps] at hwb
  obtain ⟨wb, hwbe⟩ : ∃ wb, (w.alloc (.deferred (some []))).alloc (.loop { state := .ready, pending := none, fn := fn, tmps := a.tmps, params := ps, assign := az, body := bd, defers := w.heap.size }) = wb := ⟨_, rfl⟩
  rw [hwbe] at hwb
  refine ⟨w.heap.size + 1, [mkD w.heap.size], wb, { target := .fn (.func f) cx.toArray, args := fx.toArray.push (Value.func (.yield (w.heap.size + 1)) #[] #[]) },
    wb, f, (fx ++ [Value.func (.yield (w.heap.size + 1)) #[] #[]] ++ cx).toArray, wb, ?_, ?_, fun _ _ => trivial, ?_, by simp [FW], ?_⟩
  · rw [← hwbe]; exact run_enterLoop_outer ..
  · have h4 : ∀ v, a.eval (.const v) = v := fun _ => rfl
    simp [resolve, Deferred.ofValue, h1, h4]
  · show (callFunc f (fx.toArray.push (Value.func (.yield (w.heap.size + 1)) #[] #[]) ++ cx.toArray)).run P _ = _
    have : fx.toArray.push (Value.func (.yield (w.heap.size + 1)) #[] #[]) ++ cx.toArray = (fx ++ [Value.func (.yield (w.heap.size + 1)) #[] #[]] ++ cx).toArray := by apply Array.ext'; simp
    rw [this]
    exact Un hcb _ _
  · refine callsIn_FW.2 ?_
    have hargs : VRs vr ((σ.put s.next w.heap.size 0).put (s.new .mark).next (w.heap.size + 1) 0) (fa ++ [.yld (s.new .mark).next] ++ ca) (fx ++ [Value.func (.yield (w.heap.size + 1)) #[] #[]] ++ cx) :=
      ((h2.mono hle).append (.cons (.yld Nm.put_same) .nil)).append (h3.mono hle)
    refine Calls.mono (hcalls _ w0 M B _ _ hargs (hwb.ms [])) ?_
    rintro e w3 ⟨σ3, y3, j1, j2, j3, rfl⟩
    have hσl := j1 _ _ (Nm.put_same (σ := σ.put s.next w.heap.size 0) (i := (s.new .mark).next) (b := w.heap.size + 1) (r := 0))
    obtain ⟨ob, q1, q2⟩ := j3.obj hl rfl hσl
    generalize hao : AO.loop n2 E2 ps2 as2 bd2 x = ao at q2
    cases q2 with
    | cells _ _ _ _ => cases hao
    | busy _ => cases hao
    | mark => cases hao
    | gone => cases hao
    | map _ _ => cases hao
    | loop hfe =>
      injection hao with b1 b2 b3 b4 b5 b6
      subst b1; subst b2; subst b3; subst b4; subst b5; subst b6
      rename_i fn3 tmps3 df3
      have hput := j3.putObj hl rfl hσl (OR.gone (o := .loop { state := .exhausted, pending := pdOf x, fn := fn3, tmps := tmps3, params := ps2.toArray, assign := as2, body := bd2, defers := df3 }))
      have hend := run_endLoop (P := P) q1 (by cases x <;> simp [stOf])
      have hlef := Nm.le_trans hle j1
      have hmark : ∃ r, σ3 s.next = some (w.heap.size, r) := ⟨0, j1 _ _ (hle2 _ _ Nm.put_same)⟩
      have hfa : FA vr σ3 n E (s.next :: s.ms) { a with defers := [mkD w.heap.size] ++ a.defers } := ⟨hf.fe.mono hlef, w.heap.size :: bs, by simp [hbs], hmark, hmr.mono hlef⟩
      have fin := hQ σ3 _ _ hlef hfa (hput.ms (s.next :: s.ms))
      cases x with
      | nor => exact ⟨none, _, hend, fin⟩
      | ret => exact ⟨some .ret, _, hend, wpIn_ret fin⟩
      | exit id => exact ⟨some (.exit id), _, hend, wpIn_exit fin⟩
theorem codeS_ok (hm : P.follows .mixedOrders = true) (hX : XsOk P X) (hF : SndF P vr ih) (hC : SndC P vr ih) (hL : SndL P vr ih) (htop : top = true → ρ = none) : ∀ c : Code, CS P vr X ih ρ w0 M B n top c := by
 intro c
 induction c with
 | skip => intro E s x E' s' σ a w Q h hf hw hQ; simp [codeS] at h; obtain ⟨h1, h2, h3⟩ := h; subst h1; subst h2; subst h3; exact wpIn_skip (hQ σ a w Nm.le_refl hf hw)
 | ret => intro E s x E' s' σ a w Q h hf hw hQ; simp [codeS] at h; obtain ⟨h1, h2, h3⟩ := h; subst h1; subst h2; subst h3; exact wpIn_ret (hQ σ a w Nm.le_refl hf hw)
 | exit id => intro E s x E' s' σ a w Q h hf hw hQ; simp [codeS] at h; obtain ⟨h1, h2, h3⟩ := h; subst h1; subst h2; subst h3; exact wpIn_exit (hQ σ a w Nm.le_refl hf hw)
 | region id ops draw =>
  intro E s x E' s' σ a w Q h hf hw hQ
  simp only [codeS] at h
  cases draw with
  | true =>
   simp only [cond_true] at h
   split at h
   ·
    rename_i hr
    injection h with h; injection h with h1 h; injection h with h2 h3; subst h1; subst h2; subst h3
    exact runDraw_ok hm hX hF hC hf hw hr hQ
   · cases h
  | false =>
   simp only [cond_false] at h
   split at h
   ·
    rename_i hr
    injection h with h; injection h with h1 h; injection h with h2 h3; subst h1; subst h2; subst h3
    refine wpIn_region ?_
    have := runOps_ok (ρ := ρ) (Q := Q) hX hF hC (k := 0) (by simp) hf hw hr hQ
    rw [Array.length_toList, ← List.range_eq_range'] at this
    exact this
   · cases h
 | seq x y hx hy =>
  intro E s z E' s' σ a w Q h hf hw hQ
  simp only [codeS] at h
  refine wpIn_seq ?_
  split at h
  ·
   rename_i E1 s1 h1
   refine hx _ _ _ _ _ σ a w _ h1 hf hw fun σ1 a1 w1 k1 k2 k3 => ?_
   exact hy _ _ _ _ _ σ1 a1 w1 Q h k2 k3 fun σ2 a2 w2 j1 j2 j3 => hQ σ2 a2 w2 (Nm.le_trans k1 j1) j2 j3
  ·
   rename_i hne
   refine hx _ _ _ _ _ σ a w _ h hf hw fun σ1 a1 w1 k1 k2 k3 => ?_
   cases z with
   | nor => exact absurd h (fun e => hne _ _ e)
   | ret => exact hQ σ1 a1 w1 k1 k2 k3
   | exit id => exact hQ σ1 a1 w1 k1 k2 k3
 | cond o x y hx hy =>
  intro E s z E' s' σ a w Q h hf hw hQ
  simp only [codeS] at h
  split at h
  · rename_i ho; exact wpIn_cond_true (hf.fe.ev ho).bool_inv (hx _ _ _ _ _ σ a w Q h hf hw hQ)
  · rename_i ho; exact wpIn_cond (hf.fe.ev ho).bool_inv (hy _ _ _ _ _ σ a w Q h hf hw hQ)
  · cases h
 | block id x hx =>
  intro E s z E' s' σ a w Q h hf hw hQ
  simp only [codeS] at h
  refine wpIn_block ?_
  split at h
  ·
   rename_i j E1 s1 h1
   refine hx _ _ _ _ _ σ a w _ h1 hf hw fun σ1 a1 w1 k1 k2 k3 => ?_
   show (if j = id then Q .normal a1 w1 else Q (.exit j) a1 w1)
   cases hj : Nat.beq j id with
   | true =>
    rw [hj] at h; simp only [cond_true] at h
    injection h with h; injection h with h1 h; injection h with h2 h3; subst h1; subst h2; subst h3
    rw [if_pos (Nat.eq_of_beq_eq_true hj)]
    exact hQ σ1 a1 w1 k1 k2 k3
   | false =>
    rw [hj] at h; simp only [cond_false] at h
    injection h with h; injection h with h1 h; injection h with h2 h3; subst h1; subst h2; subst h3
    rw [if_neg (fun e => by rw [e] at hj; simp at hj)]
    exact hQ σ1 a1 w1 k1 k2 k3
  ·
   rename_i hne
   refine hx _ _ _ _ _ σ a w _ h hf hw fun σ1 a1 w1 k1 k2 k3 => ?_
   cases z with
   | nor => exact hQ σ1 a1 w1 k1 k2 k3
   | ret => exact hQ σ1 a1 w1 k1 k2 k3
   | exit j => exact absurd h (fun e => hne _ _ _ e)
 | loop x hx =>
  intro E s z E' s' σ a w Q h hf hw hQ
  exact (loop_ok hL htop hx h hf hw hQ).wpIn
 | rangeFunc o ps az bd ha hb =>
  clear ha hb
  intro E s z E' s' σ a w Q h hf hw hQ
  simp only [codeS] at h
  split at h
  ·
   rename_i hy
   split at h
   ·
    rename_i hc
    split at h
    ·
     rename_i hl
     injection h with h; injection h with h1 h; injection h with h2 h3; subst h1; subst h2; subst h3
     exact range_ok hF (htop rfl) hf hw hy hc hl hQ
    · cases h
   · cases h
  · cases h
 | scope x hx =>
  intro E s z E' s' σ a w Q h hf hw hQ
  simp only [codeS] at h
  split at h
  ·
   have hρ := htop rfl
   subst hρ
   have h1 : x.wpIn (FW none) 0 P (Exit.noGoto Q) a w := hx _ _ _ _ _ σ a w _ h hf hw fun σ1 a1 w1 k1 k2 k3 => by
    cases z <;> exact hQ σ1 a1 w1 k1 k2 k3
   exact wpIn_wide.2 (wp_scope_straight (wpIn_wide.1 h1))
  · cases h
 | label l => intro E s x E' s' σ a w Q h hf hw hQ; simp [codeS] at h; obtain ⟨h1, h2, h3⟩ := h; subst h1; subst h2; subst h3; exact wpIn_label (hQ σ a w Nm.le_refl hf hw)
 | goto l => intro E s x E' s' σ a w Q h; simp [codeS] at h
 | refuse y => intro E s x E' s' σ a w Q h; simp [codeS] at h
end code
end Go.Acq.Vx
noncomputable section
namespace Go.Acq.Vx
open Go Go.Acq Go.RowKit
section fun'
variable {P : Program} {vr : Nat → Int} {X : List (FuncId × XK)} {σ : Nm} {w0 w : World} {M B : List Nat} {n : Nat} {ih : IH} {E : En} {s s' : St}
theorem marksOk_set {h : Tri AO} {i : Nat} : ∀ {l : List Nat}, marksOk h l = true → l.any (Nat.beq i) = false → marksOk (h.set i .gone) l = true
 | [], _, _ => rfl
 | j :: l, hm, hi => by
  simp only [marksOk, Bool.and_eq_true] at hm ⊢
  simp only [List.any_cons, Bool.or_eq_false_iff] at hi
  refine ⟨⟨?_, hm.1.2⟩, marksOk_set hm.2 hi.2⟩
  rw [Tri.get_set, if_neg]
  · exact hm.1.1
  · rintro rfl; simp at hi
theorem leaves_ok {fn : Func} {tmps : Array Value} {R : Ending → World → Prop} : ∀ {ms bs : List Nat} {s : St} {w : World}, MsR σ ms bs → marksOk s.heap ms = true → WR P vr σ w0 M B s w →
    (∀ w', WR P vr σ w0 M B ⟨dropMs s.heap ms, s.next, []⟩ w' → LeavesIn (FW none) 0 P fn tmps R [] .returning w') → LeavesInM (FW none) 0 P fn tmps R (bs.map mkD) .returning w
  | [], [], s, w, _, _, hw, h => h w (hw.ms [])
  | i :: l, b :: bs, s, w, ⟨⟨r, hσ⟩, hms⟩, hm, hw, h => by
    simp only [marksOk, Bool.and_eq_true] at hm
    obtain ⟨⟨h1, h2⟩, h3⟩ := hm
    have hi : s.heap.get i = some .mark := by
      split at h1
      · assumption
      · cases h1
    obtain ⟨ob, g1, g2⟩ := hw.obj hi rfl hσ
    generalize hao : AO.mark = ao at g2
    cases g2 with
    | cells _ _ _ _ => cases hao
    | busy _ => cases hao
    | loop _ => cases hao
    | gone => cases hao
    | map _ _ => cases hao
    | mark =>
      have hput := hw.putObj hi rfl hσ (OR.gone (o := .deferred none))
      refine ⟨by simp, .inl ⟨b, _, rfl, run_takeDeferred g1, ?_⟩⟩
      refine leaves_ok (s := s.set i .gone) hms (marksOk_set h3 (by simpa using h2)) hput fun w' hw' => h w' hw'
  | [], _ :: _, _, _, h, _, _, _ => h.elim
  | _ :: _, [], _, _, h, _, _, _ => h.elim
theorem res_ok {tmps : Array Value} (hf : FE vr σ n E tmps) (hw : WR P vr σ w0 M B s w) : ∀ {rs : List ResultVar} {vs : List SV}, resOf P E s rs = some vs → ∃ xs, (rs.mapM (Vn tmps)).run P w = .ok xs w ∧ VRs vr σ vs xs
 | [], vs, h => by simp [resOf] at h; subst h; exact ⟨[], by simp, .nil⟩
 | r :: rs, vs, h => by
  simp only [resOf] at h
  cases h0 : resOf P E s rs with
  | none => simp [h0] at h
  | some us =>
   obtain ⟨xs, h1, h2⟩ := res_ok hf hw h0
   simp only [h0] at h
   have fin : ∀ {v : SV} {x : Value}, (Vn tmps r).run P w = .ok x w → VR vr σ v x → vs = v :: us → ∃ xs, ((r :: rs).mapM (Vn tmps)).run P w = .ok xs w ∧ VRs vr σ vs xs := fun {v x} k1 k2 k3 => by
    subst k3
    exact ⟨x :: xs, by simp only [List.mapM_cons, Sem.run_bind, k1, Result.andThen_ok, h1, Sem.run_pure], .cons k2 h2⟩
   cases r with
   | tmp t =>
    simp only at h
    split at h
    ·
     rename_i v hv
     injection h with h
     exact fin (by simp only [Vn]; rfl) (hf.get t v hv) h.symm
    · cases h
   | cell x t =>
    simp only at h
    split at h
    ·
     rename_i i o hx
     split at h
     ·
      rename_i cs m t' more hi
      split at h
      ·
       rename_i v hv
       injection h with h
       obtain ⟨b, r, k1, k2⟩ := (hf.get x _ hx).ptr_inv
       obtain ⟨y, k3, k4⟩ := part_ok hw hi k1 hv
       exact fin (by simp only [Vn, k2, asAddr, Sem.run_bind, Sem.run_pure, Result.andThen_ok, k3]) k4 h.symm
      · cases h
     · cases h
    · cases h
theorem fnd_enterS : ∀ {vs : List SV} {k t : Nat} {v : SV} {E : En}, fnd t (enterS k vs E) = some v → (k ≤ t ∧ vs[t - k]? = some v) ∨ fnd t E = some v
 | [], k, t, v, E, h => .inr h
 | u :: vs, k, t, v, E, h => by
  simp only [enterS] at h
  rcases fnd_enterS h with ⟨h1, h2⟩ | h
  ·
   refine .inl ⟨by omega, ?_⟩
   have : t - k = (t - (k + 1)) + 1 := by omega
   rw [this]; simpa using h2
  ·
   rw [fnd_cons] at h
   by_cases e : k = t
   · subst e; rw [if_pos rfl] at h; exact .inl ⟨Nat.le_refl _, by simpa using h⟩
   · rw [if_neg e] at h; exact .inr h
theorem pack_ok {vs : List SV} {xs : List Value} (h : VRs vr σ vs xs) : VR vr σ (packS vs) (if hs : xs.toArray.size = 1 then xs.toArray[0] else .tuple xs.toArray) := by
 match vs, xs, h with
 | [], _, .nil => exact .tup .nil
 | [v], _, .cons h .nil => simpa [packS] using h
 | v :: u :: vs, _, .cons h (.cons h2 hs) => simpa [packS] using VR.tup (.cons h (.cons h2 hs))
theorem funS_ok (hm : P.follows .mixedOrders = true) (hX : XsOk P X) (hF : SndF P vr ih) (hC : SndC P vr ih) (hL : SndL P vr ih) {f : FuncId} {vs : List SV} {v : SV} (hms : s.ms = []) (h : funS P X ih f vs s = some (v, s')) :
    Yn P f = true ∧ ∀ σ w0 M B w (args : List Value), VRs vr σ vs args → WR P vr σ w0 M B s w → Calls P f args.toArray w (fun e w' => ∃ σ' x, σ.le σ' ∧ VR vr σ' v x ∧ WR P vr σ' w0 M B s' w' ∧ e = .returned x) := by
  unfold funS at h
  split at h
  case h_2 => cases h
  rename_i fn hfn
  split at h
  case h_2 => cases h
  rename_i c hb
  rw [cond_eq_ite] at h
  split at h
  case isFalse => cases h
  rename_i hcd
  simp only [Bool.and_eq_true] at hcd
  refine ⟨by unfold Yn; rw [hfn]; simp [hb, hcd.2], ?_⟩
  intro σ w0 M B w args hargs hw
  split at h
  case h_2 => cases h
  rename_i x E s2 hc
  have hle := Nat.le_of_ble_eq_true hcd.1
  refine callsIn_FW (ρ := none) (n := 0) |>.1 (callsIn_of_wp_marks hfn hb trivial ?_ rfl)
  have hfa : FA vr σ fn.ntmps (enterS 0 vs []) s.ms { tmps := args.toArray ++ Array.replicate (fn.ntmps - args.toArray.size) undef, defers := [] } := by
    have hl := hargs.length
    refine ⟨⟨by simp; omega, fun t u hu => ?_⟩, [], rfl, by rw [hms]; trivial⟩
    rcases fnd_enterS hu with ⟨_, h2⟩ | h2
    · rw [Nat.sub_zero] at h2
      obtain ⟨y, k1, k2⟩ := hargs.get h2
      have hlt := (List.getElem?_eq_some_iff.1 k1).1
      simp only [Array.getD_eq_getD_getElem?]
      rw [Array.getElem?_append_left (by simpa using hlt)]
      simp only [List.getElem?_toArray, k1, Option.getD_some]
      exact k2
    · simp [fnd] at h2
  refine codeS_ok hm hX hF hC hL (fun _ => rfl) c _ _ _ _ _ σ _ w _ hc hfa hw fun σ' a' w' k1 k2 k3 => ?_
  have done : cond (marksOk s2.heap s2.ms) (match resOf P E ⟨dropMs s2.heap s2.ms, s2.next, []⟩ fn.results.toList with | some rs => some (packS rs, (⟨dropMs s2.heap s2.ms, s2.next, []⟩ : St)) | none => none) none = some (v, s') →
      LeavesInM (FW none) 0 P fn a'.tmps (fun e w' => ∃ σ' x, σ.le σ' ∧ VR vr σ' v x ∧ WR P vr σ' w0 M B s' w' ∧ e = .returned x) a'.defers .returning w' := by
    intro h
    rw [cond_eq_ite] at h
    split at h
    case isFalse => cases h
    rename_i hmk
    split at h
    case h_2 => cases h
    rename_i rs hrs
    injection h with h; injection h with e1 e2; subst e1; subst e2
    obtain ⟨bs, hbs, hmr⟩ := k2.df
    rw [hbs]
    refine leaves_ok hmr hmk k3 fun w2 hw2 => ?_
    obtain ⟨xs, g1, g2⟩ := res_ok k2.fe hw2 hrs
    refine ⟨_, ?_, σ', _, k1, pack_ok g2, hw2, rfl⟩
    rw [Z2n, ← Array.toArray_toList (xs := fn.results), List.mapM_toArray]
    simp only [Sem.run_bind, Sem.run_map, g1, Result.andThen_ok, Sem.run_pure]
  cases x with
  | nor => exact done h
  | ret => exact done h
  | exit id => cases h
theorem run_ok (hm : P.follows .mixedOrders = true) (hX : XsOk P X) : ∀ n, SndF P vr (run P X n) ∧ SndC P vr (run P X n) ∧ SndL P vr (run P X n)
 | 0 => ⟨fun _ _ _ _ _ h => (by cases h), fun _ _ _ _ _ _ _ _ h => (by cases h), fun _ _ _ _ _ _ _ _ h => (by cases h)⟩
 | n + 1 => by
  obtain ⟨hF, hC, hL⟩ := run_ok hm hX n
  refine ⟨fun f vs s v s' h hms => funS_ok hm hX hF hC hL hms h, fun k top c E s x E' s' h ρ σ w0 M B a w Q htop hf hw hQ => ?_, fun k top c E s x E' s' h ρ σ w0 M B a w Q htop hf hw hQ => ?_⟩
  · exact codeS_ok hm hX hF hC hL htop c _ _ _ _ _ σ a w Q h hf hw hQ
  · exact loop_ok hL htop (codeS_ok hm hX hF hC hL htop c) h hf hw hQ
theorem WR.start (w : World) : WR P vr (fun _ => none) w [] [] ⟨.e, 0, []⟩ w := by
 have h0 : ∀ (i : Nat) (o : AO), (St.mk (.e : Tri AO) 0 []).heap.get i = some o → False := fun i o h => by
  have : (St.mk (.e : Tri AO) 0 []).heap.get i = none := Tri.get_e i
  rw [this] at h; cases h
 exact ⟨rfl, rfl, rfl, Nat.le_refl _, fun _ _ _ => rfl, fun i o b r h => (h0 i o h).elim, fun i o b r h => (h0 i o h).elim, fun i j o p b r r' h => (h0 i o h).elim, fun _ _ => rfl, fun i hi => (by cases hi)⟩
theorem WR.inv (h : WR P vr σ w0 M B s w) : Inv w0 M w [] := ⟨h.os, h.tape, h.output, h.size, h.keep, by simp, by simp, by simp⟩
def okV (P : Program) (X : List (FuncId × XK)) (n : Nat) (f : FuncId) (vs : List SV) (v : SV) : Bool := match (run P X n).call f vs ⟨.e, 0, []⟩ with
  | some (u, _) => SV.beq u v
  | none => false
theorem fnc_of (hm : P.follows .mixedOrders = true) (hX : XsOk P X) {n : Nat} {f : FuncId} {vs : List SV} {args : List Value} {v : SV} {x : Value} (h : okV P X n f vs v = true) (ha : VRs vr (fun _ => none) vs args) (hx : ∀ σ y, VR vr σ v y → y = x) (w : World) : Fnc P f args.toArray w [] (fun y N => y = x ∧ N = []) := by
 unfold okV at h
 split at h
 case h_2 => cases h
 rename_i u s' hc
 have := SV.beq_eq h
 subst this
 refine Calls.mono (((run_ok (vr := vr) hm hX n).1 _ _ _ _ _ hc rfl).2 _ w [] [] w args ha (WR.start w)) ?_
 rintro e w' ⟨σ', y, _, h2, h3, rfl⟩
 exact ⟨y, [], ⟨hx σ' y h2, rfl⟩, rfl, h3.inv⟩
theorem awake_of (hm : P.follows .mixedOrders = true) (hX : XsOk P X) {n : Nat} {f : FuncId} (h : okV P X n f [] (.bool (.lit true)) = true) (w : World) : Fnc P f #[] w [] (fun y N => y = .bool true ∧ N = []) :=
 fnc_of (vr := fun _ => 0) (args := []) hm hX h .nil (fun _ _ hv => hv.bool_inv) w
end fun'
end Go.Acq.Vx
noncomputable section
namespace Go.Acq.Vx
open Go Go.Acq
structure K (α : Type) where
  f : α
abbrev R := Option (Ex × En × St)
def useK {α β : Type} (x : K α) (g : α → β) : β := @K.rec α (fun _ => β) g x
theorem useK_eq {α β : Type} (x : K α) (g : α → β) : useK x g = g x.f := rfl
def ob {α : Type} (x : Option α) (f : α → R) : R := @Option.rec α (fun _ => R) none f x
theorem ob_some {α : Type} (a : α) (f : α → R) : ob (some a) f = f a := rfl
def findE (t : Nat) (E : En) : Option SV := @List.rec (Nat × SV) (fun _ => Option SV) none (fun p _ ih => @Prod.rec Nat SV (fun _ => Option SV) (fun d v => @Bool.rec (fun _ => Option SV) ih (some v) (Nat.beq d t)) p) E
theorem findE_eq (t : Nat) : ∀ E : En, findE t E = fnd t E
 | [] => rfl
 | (d, v) :: E => by
  show (@Bool.rec (fun _ => Option SV) (findE t E) (some v) (Nat.beq d t)) = cond (Nat.beq d t) (some v) (fnd t E)
  rw [findE_eq t E]
  cases Nat.beq d t <;> rfl
abbrev KA := K (En → (SV → R) → R)
abbrev KV := K (En → St → (SV → R) → R)
abbrev KO := K (IH → En → St → (En → St → R) → R)
def kOp (x : Operand) : KA := match x with
  | .tmp t => ⟨fun E k => ob (findE t E) k⟩
  | .const c => match cstA c with
    | some v => ⟨fun _ k => k v⟩
    | none => ⟨fun _ _ => none⟩
  | .global _ => ⟨fun _ _ => none⟩
  | .func f => ⟨fun _ k => k (.fn f [] [])⟩
theorem kOp_ok (x : Operand) (E : En) (k : SV → R) : (kOp x).f E k = ob (ev E x) k := by
 cases x with
 | tmp t => show ob (findE t E) k = ob (fnd t E) k; rw [findE_eq]
 | const c => unfold kOp ev; simp only; cases cstA c <;> rfl
 | global g => rfl
 | func f => rfl
def kArgs (l : List Operand) : K (En → (List SV → R) → R) := @List.rec Operand (fun _ => K (En → (List SV → R) → R)) ⟨fun _ k => k []⟩ (fun x _ r => useK (kOp x) fun f => useK r fun g => ⟨fun E k => f E fun v => g E fun vs => k (v :: vs)⟩) l
theorem kArgs_ok : ∀ (l : List Operand) (E : En) (k : List SV → R), (kArgs l).f E k = ob (evs E l) k
 | [], E, k => rfl
 | x :: l, E, k => by
  show (kOp x).f E (fun v => (kArgs l).f E fun vs => k (v :: vs)) = _
  rw [kOp_ok]
  simp only [evs]
  cases ev E x with
  | none => rfl
  | some v =>
   show (kArgs l).f E (fun vs => k (v :: vs)) = _
   rw [kArgs_ok l]
   cases evs E l <;> rfl
def nilK (v : SV) (k : SV → R) : R := @SV.rec (fun _ => R) (fun _ => Unit) (fun _ _ => none) (fun _ => none) (fun i o => k (.ptr i o)) none (fun _ _ _ _ => none) (fun _ => none) none (fun f a b _ _ => k (.fn f a b)) none (fun i => k (.yld i)) (fun _ _ => none) (fun _ _ => none) none (fun _ => none) (fun _ _ _ => none) none () (fun _ _ _ _ => ()) v
def boolK (v : SV) (a b : R) : R := @SV.rec (fun _ => R) (fun _ => Unit) (fun _ _ => none) (fun x => @SB.rec (fun _ => R) (fun c => @Bool.rec (fun _ => R) b a c) (fun _ _ _ => none) x) (fun _ _ => none) none (fun _ _ _ _ => none) (fun _ => none) none (fun _ _ _ _ _ => none) none (fun _ => none) (fun _ _ => none) (fun _ _ => none) none (fun _ => none) (fun _ _ _ => none) none () (fun _ _ _ _ => ()) v
def ptrK (v : SV) (k : Nat → Nat → R) : R := @SV.rec (fun _ => R) (fun _ => Unit) (fun _ _ => none) (fun _ => none) k none (fun _ _ _ _ => none) (fun _ => none) none (fun _ _ _ _ _ => none) none (fun _ => none) (fun _ _ => none) (fun _ _ => none) none (fun _ => none) (fun _ _ _ => none) none () (fun _ _ _ _ => ()) v
def litK (v : SV) (k : Int → R) : R := @SV.rec (fun _ => R) (fun _ => Unit) (fun _ e => @SE.rec (fun _ => R) k (fun _ => none) (fun _ _ _ _ _ _ => none) (fun _ _ _ => none) e) (fun _ => none) (fun _ _ => none) none (fun _ _ _ _ => none) (fun _ => none) none (fun _ _ _ _ _ => none) none (fun _ => none) (fun _ _ => none) (fun _ _ => none) none (fun _ => none) (fun _ _ _ => none) none () (fun _ _ _ _ => ()) v
def natK (v : SV) (k : Nat → R) : R := litK v fun n => @Int.rec (fun _ => R) k (fun _ => none) n
def tupK (v : SV) (k : List SV → R) : R := @SV.rec (fun _ => R) (fun _ => Unit) (fun _ _ => none) (fun _ => none) (fun _ _ => none) none (fun _ _ _ _ => none) (fun _ => none) none (fun _ _ _ _ _ => none) none (fun _ => none) (fun _ _ => none) (fun vs _ => k vs) none (fun _ => none) (fun _ _ _ => none) none () (fun _ _ _ _ => ()) v
def aggK (v : SV) (k : List SV → R) : R := @SV.rec (fun _ => R) (fun _ => Unit) (fun _ _ => none) (fun _ => none) (fun _ _ => none) none (fun _ _ _ _ => none) (fun _ => none) none (fun _ _ _ _ _ => none) none (fun _ => none) (fun vs _ => k vs) (fun _ _ => none) none (fun _ => none) (fun _ _ _ => none) none () (fun _ _ _ _ => ()) v
def notK (v : SV) (k : SV → R) : R := @SV.rec (fun _ => R) (fun _ => Unit) (fun _ _ => none) (fun x => @SB.rec (fun _ => R) (fun c => k (.bool (.lit (!c)))) (fun _ _ _ => none) x) (fun _ _ => none) none (fun _ _ _ _ => none) (fun _ => none) none (fun _ _ _ _ _ => none) none (fun _ => none) (fun _ _ => none) (fun _ _ => none) none (fun _ => none) (fun _ _ _ => none) none () (fun _ _ _ _ => ()) v
def lenK (v : SV) (k : SV → R) : R := @SV.rec (fun _ => R) (fun _ => Unit) (fun _ _ => none) (fun _ => none) (fun _ _ => none) none (fun _ _ n _ => k (.int .i64 (.lit (Int.ofNat n)))) (fun _ => k (.int .i64 (.lit 0))) (k (.int .i64 (.lit 0))) (fun _ _ _ _ _ => none) none (fun _ => none) (fun _ _ => none) (fun _ _ => none) none (fun _ => none) (fun _ _ _ => none) none () (fun _ _ _ _ => ()) v
def getH (s : St) (i : Nat) : Option AO := @St.rec (fun _ => Option AO) (fun h _ _ => Xy (pth i) h) s
def cellsK (o : AO) (k : Tri SV → R) : R := @AO.rec (fun _ => R) (fun cs _ _ _ => k cs) (fun _ _ _ _ _ _ => none) (fun _ _ _ _ _ => none) none none (fun _ _ => none) o
theorem boolK_none {v : SV} {a b : R} (h1 : v ≠ .bool (.lit true)) (h2 : v ≠ .bool (.lit false)) : boolK v a b = none := by
 cases v <;> first | rfl | skip
 rename_i b'
 cases b' with
 | lit c => cases c; exact (h2 rfl).elim; exact (h1 rfl).elim
 | cmp _ _ _ => rfl
def kGenV (P : Program) (o : Op) : KV := ⟨fun E s k => ob (pureV P E s o) k⟩
def small (n : Int) : Bool := @Int.rec (fun _ => Bool) (fun m => Nat.ble m 4611686018427387904) (fun m => Nat.ble m 4611686018427387904) n
def wr64 (n : Int) : Int := @Bool.rec (fun _ => Int) (IntKind.i64.wrap n) n (small n)
theorem wr64_eq (n : Int) : wr64 n = IntKind.i64.wrap n := by
 unfold wr64
 cases hs : small n with
 | false => rfl
 | true =>
  show n = _
  rw [IntKind.wrap_i64]
  cases n with
  | ofNat m => have : Nat.ble m 4611686018427387904 = true := hs; have := Nat.le_of_ble_eq_true this; simp only [Int.ofNat_eq_natCast]; omega
  | negSucc m => have : Nat.ble m 4611686018427387904 = true := hs; have := Nat.le_of_ble_eq_true this; simp only [Int.negSucc_eq]; omega
def addI (a b : Int) : Int := @Int.rec (fun _ => Int) (fun m => @Int.rec (fun _ => Int) (fun n => .ofNat (Nat.add m n)) (fun n => Int.ofNat m + Int.negSucc n) b) (fun m => Int.negSucc m + b) a
theorem addI_eq (a b : Int) : addI a b = a + b := by
 cases a <;> cases b <;> rfl
def iLt (a b : Int) : Bool := @Int.rec (fun _ => Bool) (fun m => @Int.rec (fun _ => Bool) (fun n => Nat.ble (Nat.succ m) n) (fun _ => false) b) (fun m => @Int.rec (fun _ => Bool) (fun _ => true) (fun n => Nat.ble (Nat.succ n) m) b) a
theorem iLt_eq (a b : Int) : iLt a b = decide (a < b) := by
 have key : ∀ {x : Bool} {p : Prop} [Decidable p], (x = true ↔ p) → x = decide p := fun {x p} _ h => by cases x <;> simp_all
 cases a with
 | ofNat a => cases b with
  | ofNat b => show Nat.ble (a + 1) b = _; apply key; simp [Nat.ble_eq]; omega
  | negSucc b => show false = _; apply key; simp only [Bool.false_eq_true, false_iff]; rw [Int.negSucc_eq]; simp only [Int.ofNat_eq_natCast]; omega
 | negSucc a => cases b with
  | ofNat b => show true = _; apply key; simp only [true_iff]; rw [Int.negSucc_eq]; simp only [Int.ofNat_eq_natCast]; omega
  | negSucc b => show Nat.ble (b + 1) a = _; apply key; simp only [Nat.ble_eq, Int.negSucc_eq]; omega
def iEq (a b : Int) : Bool := @Int.rec (fun _ => Bool) (fun m => @Int.rec (fun _ => Bool) (fun n => Nat.beq m n) (fun _ => false) b) (fun m => @Int.rec (fun _ => Bool) (fun _ => false) (fun n => Nat.beq m n) b) a
theorem iEq_eq (a b : Int) : iEq a b = decide (a = b) := by
 have key : ∀ {x : Bool} {p : Prop} [Decidable p], (x = true ↔ p) → x = decide p := fun {x p} _ h => by cases x <;> simp_all
 cases a with
 | ofNat a => cases b with
  | ofNat b => show Nat.beq a b = _; apply key; simp only [Nat.beq_eq, Int.ofNat_eq_natCast]; omega
  | negSucc b => show false = _; apply key; simp only [Bool.false_eq_true, false_iff]; rw [Int.negSucc_eq]; simp only [Int.ofNat_eq_natCast]; omega
 | negSucc a => cases b with
  | ofNat b => show false = _; apply key; simp only [Bool.false_eq_true, false_iff]; rw [Int.negSucc_eq]; simp only [Int.ofNat_eq_natCast]; omega
  | negSucc b => show Nat.beq a b = _; apply key; simp only [Nat.beq_eq, Int.negSucc_eq]; omega
def i64o (v : SV) (k : Int → R) (z : R) : R := @SV.rec (fun _ => R) (fun _ => Unit) (fun q e => @IntKind.rec (fun _ => R) z z z (@SE.rec (fun _ => R) k (fun _ => z) (fun _ _ _ _ _ _ => z) (fun _ _ _ => z) e) z z z z q) (fun _ => z) (fun _ _ => z) z (fun _ _ _ _ => z) (fun _ => z) z (fun _ _ _ _ _ => z) z (fun _ => z) (fun _ _ => z) (fun _ _ => z) z (fun _ => z) (fun _ _ _ => z) z () (fun _ _ _ _ => ()) v
def i64K (x y : SV) (k : Int → Int → R) (e : R) : R := i64o x (fun a => i64o y (fun b => k a b) e) e
def kBin (P : Program) (o : BinOp) (t : TypeId) : K (SV → SV → (SV → R) → R) := match o with
  | .add => ⟨fun x y k => i64K x y (fun a b => k (.int .i64 (.lit (wr64 (addI a b))))) (ob (binS P .add t x y) k)⟩
  | .sub => ⟨fun x y k => i64K x y (fun a b => k (.int .i64 (.lit (wr64 (a - b))))) (ob (binS P .sub t x y) k)⟩
  | .lss => ⟨fun x y k => i64K x y (fun a b => k (.bool (.lit (iLt a b)))) (ob (binS P .lss t x y) k)⟩
  | .gtr => ⟨fun x y k => i64K x y (fun a b => k (.bool (.lit (iLt b a)))) (ob (binS P .gtr t x y) k)⟩
  | .leq => ⟨fun x y k => i64K x y (fun a b => k (.bool (.lit (!iLt b a)))) (ob (binS P .leq t x y) k)⟩
  | .geq => ⟨fun x y k => i64K x y (fun a b => k (.bool (.lit (!iLt a b)))) (ob (binS P .geq t x y) k)⟩
  | .eql => ⟨fun x y k => i64K x y (fun a b => k (.bool (.lit (iEq a b)))) (ob (binS P .eql t x y) k)⟩
  | .neq => ⟨fun x y k => i64K x y (fun a b => k (.bool (.lit (!iEq a b)))) (ob (binS P .neq t x y) k)⟩
  | o => ⟨fun x y k => ob (binS P o t x y) k⟩
theorem i64o_ok {v : SV} {k : Int → R} {z r : R} (h1 : ∀ a, v = .int .i64 (.lit a) → k a = r) (h2 : z = r) : i64o v k z = r := by
 cases v <;> first | exact h2 | skip
 rename_i q e
 cases q <;> first | exact h2 | skip
 cases e <;> first | exact h2 | skip
 exact h1 _ rfl
theorem i64K_ok {x y : SV} {k : Int → Int → R} {e r : R} (h1 : ∀ a b, x = .int .i64 (.lit a) → y = .int .i64 (.lit b) → k a b = r) (h2 : e = r) : i64K x y k e = r :=
 i64o_ok (fun a ha => i64o_ok (fun b hb => h1 a b ha hb) h2) h2
theorem kBin_ok (P : Program) (o : BinOp) (t : TypeId) (x y : SV) (k : SV → R) : (kBin P o t).f x y k = ob (binS P o t x y) k := by
  have hle : ∀ a b : Int, (!decide (b < a)) = decide (a ≤ b) := fun a b => by by_cases h : a ≤ b <;> simp [h]; omega
  cases o <;> first
    | rfl
    | (refine i64K_ok (fun a b ha hb => ?_) rfl
       subst ha; subst hb
       simp only [binS, decide_true, Bool.or_true, cond_true, intV, ob_some, addI_eq, wr64_eq, iLt_eq, iEq_eq, hle])
def kFill (P : Program) (t : TypeId) (ps : List (Nat × Operand)) : K (En → List SV → (List SV → R) → R) := @List.rec (Nat × Operand) (fun _ => K (En → List SV → (List SV → R) → R)) ⟨fun _ z k => k z⟩ (fun p _ r => useK (kOp p.2) fun f => useK r fun g => match placeT P t p.1 with
  | some (o, n) => ⟨fun E z k => f E fun v => ob (cellsOf v) fun cs => @Bool.rec (fun _ => R) none (@Bool.rec (fun _ => R) none (g E (setAt z o cs) k) (Nat.ble (o + n) (lenL z))) (Nat.beq (lenL cs) n)⟩
  | none => ⟨fun _ _ _ => none⟩) ps
theorem kFill_ok (P : Program) (t : TypeId) : ∀ (ps : List (Nat × Operand)) (E : En) (z : List SV) (k : List SV → R), (kFill P t ps).f E z k = ob (fillS P t E z ps) k
 | [], E, z, k => rfl
 | (i, x) :: ps, E, z, k => by
  have e : kFill P t ((i, x) :: ps) = (useK (kOp x) fun f => useK (kFill P t ps) fun g => match placeT P t i with
   | some (o, n) => ⟨fun E z k => f E fun v => ob (cellsOf v) fun cs => @Bool.rec (fun _ => R) none (@Bool.rec (fun _ => R) none (g E (setAt z o cs) k) (Nat.ble (o + n) (lenL z))) (Nat.beq (lenL cs) n)⟩
   | none => ⟨fun _ _ _ => none⟩ : K (En → List SV → (List SV → R) → R)) := rfl
  rw [e]
  simp only [useK_eq, fillS]
  cases hp : placeT P t i with
  | none => cases ev E x <;> rfl
  | some p =>
   obtain ⟨o, n⟩ := p
   show (kOp x).f E _ = _
   rw [kOp_ok]
   cases ev E x with
   | none => rfl
   | some v =>
    rw [ob_some]
    simp only
    cases cellsOf v with
    | none => rfl
    | some cs =>
     rw [ob_some]
     simp only
     cases Nat.beq (lenL cs) n <;> cases Nat.ble (o + n) (lenL z) <;> first | rfl | exact kFill_ok P t ps E _ k
def kLen (P : Program) (xs : List Operand) (ts : List TypeId) (g : KV) : KV := match xs, ts with
  | [x], t :: _ => match Zr P t with
    | some _ => useK (kOp x) fun f => ⟨fun E _ k => f E fun v => lenK v k⟩
    | none => g
  | _, _ => g
def kIdx (P : Program) (t : TypeId) (x y : Operand) (g : KV) : KV := match elT P t with
  | some (_, d) => match Zr P t with
    | some _ => useK (kOp x) fun f => useK (kOp y) fun h => useK g fun g => ⟨fun E s k => f E fun v => h E fun u => @SV.rec (fun _ => R) (fun _ => Unit) (fun _ _ => none) (fun _ => none) (fun _ _ => g E s k) none (fun i o n _ => natK u fun j => @Bool.rec (fun _ => R) none (k (.ptr i (o + j * d))) (Nat.blt j n)) (fun _ => none) none (fun _ _ _ _ _ => none) none (fun _ => none) (fun _ _ => none) (fun _ _ => none) none (fun _ => none) (fun _ _ _ => none) none () (fun _ _ _ _ => ()) v⟩
    | none => g
  | none => g
def kField (P : Program) (t : TypeId) (x : Operand) (f : Nat) (g : KV) : KV := match P.underlying t with
  | some (.struct fs) => match fs[f]? with
    | some q => useK (kOp x) fun h => ⟨fun E _ k => h E fun v => aggK v fun cs => ob (partL P q.type cs q.offset) k⟩
    | none => g
  | _ => g
def kIndex (P : Program) (t : TypeId) (x y : Operand) (g : KV) : KV := match P.underlying t with
  | some (.array n e) => match Zq P e with
    | some d => useK (kOp x) fun f => useK (kOp y) fun h => ⟨fun E _ k => f E fun v => h E fun u => aggK v fun cs => natK u fun j => @Bool.rec (fun _ => R) none (ob (partL P e cs (j * d)) k) (Nat.blt j n)⟩
    | none => g
  | _ => g
def kBuild (P : Program) (t : TypeId) (ps : List (Nat × Operand)) (g : KV) : KV := match zeroS P t, buildN P t with
  | some z, some _ => useK (kFill P t ps) fun f => ⟨fun E _ k => f E z fun cs => k (.agg cs)⟩
  | _, _ => g
def kVal (P : Program) (o : Op) : KV := match o with
  | .move x => useK (kOp x) fun f => ⟨fun E _ k => f E k⟩
  | .assign x => useK (kOp x) fun f => ⟨fun E _ k => f E k⟩
  | .nilCheck x => useK (kOp x) fun f => ⟨fun E _ k => f E fun v => nilK v k⟩
  | .pick c a b => useK (kOp c) fun f => useK (kOp a) fun g => useK (kOp b) fun h => ⟨fun E _ k => f E fun v => boolK v (g E k) (h E k)⟩
  | .load t x => useK (kOp x) fun f => match Yr P t with
    | true => ⟨fun E s k => f E fun v => ptrK v fun i o => ob (getH s i) fun a => cellsK a fun cs => ob (Xy (pth o) cs) k⟩
    | false => match aggN P t with
      | some n => ⟨fun E s k => f E fun v => ptrK v fun i o => ob (getH s i) fun a => cellsK a fun cs => ob (takeC cs n o) fun l => k (.agg l)⟩
      | none => kGenV P (.load t x)
  | .fieldAddr t x i => useK (kOp x) fun f => match Xd P t i with
    | some d => ⟨fun E _ k => f E fun v => ptrK v fun i o => k (.ptr i (o + d))⟩
    | none => kGenV P (.fieldAddr t x i)
  | .binOp op t x y _ => useK (kOp x) fun f => useK (kOp y) fun g => useK (kBin P op t) fun h => ⟨fun E _ k => f E fun v => g E fun w => h v w k⟩
  | .unOp .not _ x => useK (kOp x) fun f => ⟨fun E _ k => f E fun v => notK v k⟩
  | .extract x i => useK (kOp x) fun f => ⟨fun E _ k => f E fun v => tupK v fun vs => ob (nthL vs i) k⟩
  | .convert s t x => useK (kOp x) fun f => match Vi P t, (P.underlying s).isSome with
    | some q, true => ⟨fun E _ k => f E fun v => litK v fun a => k (.int q (.lit (q.wrap a)))⟩
    | _, _ => kGenV P (.convert s t x)
  | .makeFunc (.func f) fs cs => useK (kArgs fs.toList) fun g => useK (kArgs cs.toList) fun h => ⟨fun E _ k => g E fun a => h E fun b => k (.fn f a b)⟩
  | .indexAddr t x y => kIdx P t x y (kGenV P (.indexAddr t x y))
  | .index t x y => kIndex P t x y (kGenV P (.index t x y))
  | .field t x f => kField P t x f (kGenV P (.field t x f))
  | .build t ps => kBuild P t ps.toList (kGenV P (.build t ps))
  | .call ⟨.builtin .len, xs, ts⟩ => kLen P xs.toList ts.toList (kGenV P (.call ⟨.builtin .len, xs, ts⟩))
  | o => kGenV P o
theorem getH_eq (s : St) (i : Nat) : getH s i = s.heap.get i := rfl
theorem natK_ok (v : SV) (k : Nat → R) : natK v k = ob (natOf v) k := by
 cases v <;> first | rfl | skip
 rename_i q e
 cases e <;> first | rfl | skip
 rename_i n
 cases n <;> rfl
theorem kVal_ok (P : Program) (o : Op) (E : En) (s : St) (k : SV → R) : (kVal P o).f E s k = ob (pureV P E s o) k := by
 unfold kVal
 split
 · rename_i x; show (kOp x).f E k = _; rw [kOp_ok]; rfl
 · rename_i x; show (kOp x).f E k = _; rw [kOp_ok]; rfl
 ·
  rename_i x
  show (kOp x).f E (fun v => nilK v k) = _
  rw [kOp_ok]; simp only [pureV]
  cases ev E x with
  | none => rfl
  | some v => cases v <;> rfl
 ·
  rename_i c x y
  show (kOp c).f E (fun v => boolK v ((kOp x).f E k) ((kOp y).f E k)) = _
  rw [kOp_ok, kOp_ok, kOp_ok]; simp only [pureV]
  cases ev E c with
  | none => rfl
  | some v =>
   rw [ob_some]
   split
   · rename_i h; injection h with h; subst h; rfl
   · rename_i h; injection h with h; subst h; rfl
   · rename_i h1 h2; exact boolK_none (fun e => h1 (by rw [e])) (fun e => h2 (by rw [e]))
 ·
  rename_i t x
  rw [useK_eq]
  cases hs : Yr P t with
  | false =>
   simp only
   cases ha : aggN P t with
   | none => rfl
   | some m =>
    show (kOp x).f E (fun v => ptrK v fun i o => ob (getH s i) fun a => cellsK a fun cs => ob (takeC cs m o) fun l => k (.agg l)) = _
    rw [kOp_ok]; simp only [pureV, part, hs, cond_false, ha]
    cases ev E x with
    | none => rfl
    | some v =>
     cases v <;> first | rfl | skip
     rename_i i o
     show ob (getH s i) _ = _
     rw [getH_eq]
     simp only
     cases s.heap.get i with
     | none => rfl
     | some a =>
      cases a <;> first | rfl | skip
      rename_i cs _ _ _
      show ob (takeC cs m o) _ = _
      simp only
      cases takeC cs m o <;> rfl
  | true =>
   show (kOp x).f E (fun v => ptrK v fun i o => ob (getH s i) fun a => cellsK a fun cs => ob (Xy (pth o) cs) k) = _
   rw [kOp_ok]; simp only [pureV, part, hs, cond_true]
   cases ev E x with
   | none => rfl
   | some v =>
    cases v <;> first | rfl | skip
    rename_i i o
    show ob (getH s i) _ = _
    rw [getH_eq]
    simp only
    cases s.heap.get i with
    | none => rfl
    | some a => cases a <;> rfl
 ·
  rename_i t x i
  rw [useK_eq]
  cases hs : Xd P t i with
  | none => rfl
  | some d =>
   show (kOp x).f E (fun v => ptrK v fun i o => k (.ptr i (o + d))) = _
   rw [kOp_ok]; simp only [pureV, hs]
   cases ev E x with
   | none => rfl
   | some v => cases v <;> rfl
 ·
  rename_i op t x y t2
  show (kOp x).f E (fun v => (kOp y).f E fun w => (kBin P op t).f v w k) = _
  rw [kOp_ok]; simp only [pureV]
  cases ev E x with
  | none => rfl
  | some v =>
   show (kOp y).f E (fun w => (kBin P op t).f v w k) = _
   rw [kOp_ok]
   cases ev E y with
   | none => rfl
   | some w => exact kBin_ok P op t v w k
 ·
  rename_i t x
  show (kOp x).f E (fun v => notK v k) = _
  rw [kOp_ok]; simp only [pureV]
  cases ev E x with
  | none => rfl
  | some v =>
   cases v <;> first | rfl | skip
   rename_i b; cases b <;> rfl
 ·
  rename_i x i
  show (kOp x).f E (fun v => tupK v fun vs => ob (nthL vs i) k) = _
  rw [kOp_ok]; simp only [pureV]
  cases ev E x with
  | none => rfl
  | some v => cases v <;> rfl
 ·
  rename_i t1 t2 x
  rw [useK_eq]
  cases hq : Vi P t2 with
  | none => rfl
  | some q =>
   cases hu : (P.underlying t1).isSome with
   | false => rfl
   | true =>
    show (kOp x).f E (fun v => litK v fun a => k (.int q (.lit (q.wrap a)))) = _
    rw [kOp_ok]; simp only [pureV, hq, hu, cond_true]
    cases ev E x with
    | none => rfl
    | some v =>
     cases v <;> first | rfl | skip
     rename_i q' e; cases e <;> rfl
 ·
  rename_i f fs cs
  show (kArgs fs.toList).f E (fun a => (kArgs cs.toList).f E fun b => k (.fn f a b)) = _
  rw [kArgs_ok]; simp only [pureV]
  cases evs E fs.toList with
  | none => rfl
  | some a =>
   rw [ob_some, kArgs_ok]
   cases evs E cs.toList <;> rfl
 ·
  rename_i t x y
  unfold kIdx
  cases he : elT P t with
  | none => rfl
  | some p =>
   obtain ⟨e, d⟩ := p
   cases hs : Zr P t with
   | none => simp only [hs]; rfl
   | some t' =>
    simp only [hs]
    show (kOp x).f E (fun v => (kOp y).f E fun u => _) = _
    rw [kOp_ok]
    cases hx : ev E x with
    | none => simp only [pureV, hx]; rfl
    | some v =>
     rw [ob_some, kOp_ok]
     cases hy : ev E y with
     | none => simp only [pureV, hx, hy]; cases v <;> rfl
     | some u =>
      rw [ob_some]
      cases v <;> first | (simp only [pureV, hx, hy, he]; done) | (simp only [pureV, hx, hy, he]; rfl) | rfl | skip
      ·
       rename_i i o n c
       show natK u _ = _
       rw [natK_ok]
       simp only [pureV, hx, hy, he, hs]
       cases natOf u with
       | none => rfl
       | some j => rw [ob_some]; simp only; cases Nat.blt j n <;> rfl
 ·
  rename_i t x y
  unfold kIndex
  split
  ·
   rename_i m e hu
   split
   ·
    rename_i d hd
    show (kOp x).f E (fun v => (kOp y).f E fun u => _) = _
    rw [kOp_ok]
    cases hx : ev E x with
    | none => simp only [pureV, hx, hu]; cases ev E y <;> rfl
    | some v =>
     rw [ob_some, kOp_ok]
     cases hy : ev E y with
     | none => simp only [pureV, hx, hy]; cases v <;> rfl
     | some u =>
      rw [ob_some]
      cases v <;> first | (simp only [pureV, hx, hy]; done) | (simp only [pureV, hx, hy]; rfl) | rfl | skip
      ·
       rename_i cs
       show natK u _ = _
       rw [natK_ok]
       simp only [pureV, hx, hy, hu, hd]
       cases natOf u with
       | none => rfl
       | some j => rw [ob_some]; simp only; cases Nat.blt j m <;> rfl
   · rfl
  · rfl
 ·
  rename_i t x f
  unfold kField
  split
  ·
   rename_i fs hu
   split
   ·
    rename_i q hq
    show (kOp x).f E (fun v => aggK v fun cs => ob (partL P q.type cs q.offset) k) = _
    rw [kOp_ok]
    cases hx : ev E x with
    | none => simp only [pureV, hx]; rfl
    | some v =>
     rw [ob_some]
     cases v <;> first | (simp only [pureV, hx]; done) | (simp only [pureV, hx]; rfl) | rfl | skip
     simp only [pureV, hx, hu, hq]; rfl
   · rfl
  · rfl
 ·
  rename_i t ps
  unfold kBuild
  split
  ·
   rename_i z q hz hq
   show (kFill P t ps.toList).f E z (fun cs => k (.agg cs)) = _
   rw [kFill_ok]
   have e : pureV P E s (.build t ps) = (match fillS P t E z ps.toList with | some cs => some (.agg cs) | none => none) := by
    simp only [pureV]
    rw [hz, hq]; rfl
   rw [e]
   cases fillS P t E z ps.toList <;> rfl
  · rfl
 ·
  rename_i xs ts
  unfold kLen
  split
  ·
   rename_i x t tl hxs hts
   split
   ·
    rename_i t' hs
    show (kOp x).f E (fun v => lenK v k) = _
    rw [kOp_ok]
    simp only [pureV, hxs, hts, evs]
    cases ev E x with
    | none => rfl
    | some v => simp only [hs]; cases v <;> rfl
   · rfl
  · rfl
 · rfl
end Go.Acq.Vx
noncomputable section
namespace Go.Acq.Vx
open Go Go.Acq
def newK (s : St) (o : AO) (k : Nat → St → R) : R := @St.rec (fun _ => R) (fun h n ms => k n ⟨setP (pth n) o h, n + 1, ms⟩) s
def setK (s : St) (i : Nat) (o : AO) (k : St → R) : R := @St.rec (fun _ => R) (fun h n ms => k ⟨setP (pth i) o h, n, ms⟩) s
def cells4 (o : AO) (k : Tri SV → Nat → TypeId → Bool → R) : R := @AO.rec (fun _ => R) k (fun _ _ _ _ _ _ => none) (fun _ _ _ _ _ => none) none none (fun _ _ => none) o
def ifB (b : Bool) (x : R) : R := @Bool.rec (fun _ => R) none x b
def putK (s : St) (i o : Nat) (vs : List SV) (k : St → R) : R := ob (getH s i) fun a => cells4 a fun cs n t m =>
  ifB (Nat.ble (o + lenL vs) n) (ifB (allC vs) (setK s i (.cells (putC cs o vs) n t m) k))
theorem putK_ok (s : St) (i o : Nat) (vs : List SV) (k : St → R) : putK s i o vs k = ob (putAt s i o vs) k := by
 unfold putK putAt
 rw [getH_eq]
 cases s.heap.get i with
 | none => rfl
 | some a =>
  cases a <;> first | rfl | skip
  rename_i cs n t m
  show ifB (Nat.ble (o + lenL vs) n) (ifB (allC vs) _) = _
  simp only
  cases Nat.ble (o + lenL vs) n <;> cases allC vs <;> rfl
theorem putAt_ms {s s' : St} {i o : Nat} {vs : List SV} (h : putAt s i o vs = some s') : s'.ms = s.ms := by
 unfold putAt at h
 split at h
 ·
  rw [cond_eq_ite] at h
  split at h
  · injection h with h; rw [← h]; rfl
  · cases h
 · cases h
def ef2 (r : Option (SV × St)) (ms : List Nat) (k : SV → St → R) : R := ob r fun p => @Prod.rec SV St (fun _ => R) (fun v s => @St.rec (fun _ => R) (fun h n _ => k v ⟨h, n, ms⟩) s) p
def msOf (s : St) : List Nat := @St.rec (fun _ => List Nat) (fun _ _ ms => ms) s
abbrev KE' := K (IH → En → St → (SV → St → R) → R)
def kGenE (P : Program) (X : List (FuncId × XK)) (o : Op) : KE' := ⟨fun ih E s k => ef2 (effV P X ih E s o) (msOf s) k⟩
def appL (a b : List SV) : List SV := @List.rec SV (fun _ => List SV) b (fun x _ ih => x :: ih) a
theorem appL_eq (a b : List SV) : appL a b = a ++ b := by
 induction a with
 | nil => rfl
 | cons x a ih => show x :: appL a b = x :: (a ++ b); rw [ih]
def extK (X : List (FuncId × XK)) (f : FuncId) (vs : List SV) (s : St) : Option XK := @List.rec (FuncId × XK) (fun _ => Option XK) none (fun p _ ih => @Bool.rec (fun _ => Option XK) ih (@Bool.rec (fun _ => Option XK) ih (some p.2) (kFits s p.2 vs)) (Nat.beq f p.1)) X
theorem extK_eq (f : FuncId) (vs : List SV) (s : St) : ∀ X : List (FuncId × XK), extK X f vs s = extV X f vs s
 | [] => rfl
 | (g, q) :: X => by
  show (@Bool.rec (fun _ => Option XK) (extK X f vs s) (@Bool.rec (fun _ => Option XK) (extK X f vs s) (some q) (kFits s q vs)) (Nat.beq f g)) = cond (Nat.beq f g && kFits s q vs) (some q) (extV X f vs s)
  rw [extK_eq f vs s X]
  cases Nat.beq f g <;> cases kFits s q vs <;> rfl
def callK (X : List (FuncId × XK)) (ih : IH) (s : St) (v : SV) (vs : List SV) (k : SV → St → R) (e : R) : R :=
  @SV.rec (fun _ => R) (fun _ => Unit) (fun _ _ => e) (fun _ => e) (fun _ _ => e) e (fun _ _ _ _ => e) (fun _ => e) e
    (fun f a b _ _ => @Option.rec XK (fun _ => R) (@St.rec (fun _ => R) (fun h n ms => ef2 (ih.call f (appL a (appL vs b)) ⟨h, n, []⟩) ms k) s) (fun q => ef2 (runX s q (appL a (appL vs b))) (msOf s) k) (extK X f (appL a (appL vs b)) s))
    e (fun _ => e) (fun _ _ => e) (fun _ _ => e) e (fun _ => e) (fun _ _ _ => e) e () (fun _ _ _ _ => ()) v
def kEff (P : Program) (X : List (FuncId × XK)) (o : Op) : KE' := match o with
  | .alloc t => match zeroS P t with
    | some z => useK (K.mk (AO.cells (putC .e 0 z) (lenL z) t false)) fun o => ⟨fun _ _ s k => newK s o fun n s => k (.ptr n 0) s⟩
    | none => kGenE P X (.alloc t)
  | .box t x => useK (kOp x) fun f => ⟨fun _ E s k => f E fun v => ob (cellsOf v) fun cs => ifB (allC cs) (newK s (.cells (putC .e 0 cs) (lenL cs) t false) fun n s => k (.ptr n 0) s)⟩
  | .store t x y => useK (kOp x) fun f => useK (kOp y) fun g => match Zq P t with
    | some n => ⟨fun _ E s k => f E fun v => ptrK v fun i o => g E fun w => ob (cellsOf w) fun cs => ifB (Nat.beq (lenL cs) n) (putK s i o cs fun s => k .und s)⟩
    | none => kGenE P X (.store t x y)
  | .call ⟨.value x, xs, ts⟩ => useK (kOp x) fun f => useK (kArgs xs.toList) fun g => useK (kGenE P X (.call ⟨.value x, xs, ts⟩)) fun h => ⟨fun ih E s k => f E fun v => g E fun vs => callK X ih s v vs k (h ih E s k)⟩
  | o => kGenE P X o
theorem kEff_ok (P : Program) (X : List (FuncId × XK)) (o : Op) (ih : IH) (E : En) (s : St) (k : SV → St → R) : (kEff P X o).f ih E s k = ef2 (effV P X ih E s o) (msOf s) k := by
 unfold kEff
 split
 ·
  rename_i t
  cases hz : zeroS P t with
  | none => rfl
  | some z => simp only [effV, freshV, hz]; rfl
 ·
  rename_i t x
  show (kOp x).f E _ = _
  rw [kOp_ok]; simp only [effV, freshV]
  cases ev E x with
  | none => rfl
  | some v =>
   show ob (cellsOf v) _ = _
   simp only
   cases cellsOf v with
   | none => rfl
   | some cs => show ifB (allC cs) _ = _; simp only; cases allC cs <;> rfl
 ·
  rename_i t x y
  rw [useK_eq, useK_eq]
  cases hs : Zq P t with
  | none => rfl
  | some n =>
   show (kOp x).f E _ = _
   rw [kOp_ok]; simp only [effV, hs]
   cases ev E x with
   | none => rfl
   | some v =>
    cases hy : ev E y with
    | none =>
     rw [ob_some]
     cases v <;> first | rfl | skip
     show (kOp y).f E _ = _
     rw [kOp_ok, hy]; rfl
    | some w =>
     rw [ob_some]
     cases v <;> first | rfl | skip
     rename_i i o
     show (kOp y).f E _ = _
     rw [kOp_ok, hy]
     show ob (cellsOf w) _ = _
     simp only
     cases cellsOf w with
     | none => rfl
     | some cs =>
      show ifB (Nat.beq (lenL cs) n) _ = _
      simp only
      cases Nat.beq (lenL cs) n with
      | false => rfl
      | true =>
       show putK s i o cs _ = _
       rw [putK_ok]
       simp only [cond_true]
       cases hp : putAt s i o cs with
       | none => rfl
       | some s' =>
        have := putAt_ms hp
        show k .und s' = k .und ⟨s'.heap, s'.next, s.ms⟩
        rw [← this]
 ·
  rename_i x xs ts
  show (kOp x).f E (fun v => (kArgs xs.toList).f E fun vs => callK X ih s v vs k (ef2 (effV P X ih E s (.call ⟨.value x, xs, ts⟩)) (msOf s) k)) = _
  rw [kOp_ok]
  cases hx : ev E x with
  | none => simp only [effV, hx]; rfl
  | some v =>
   show (kArgs xs.toList).f E _ = _
   rw [kArgs_ok]
   cases hv : evs E xs.toList with
   | none => simp only [effV, hx, hv]; cases v <;> rfl
   | some vs =>
    show callK X ih s v vs k _ = _
    cases v <;> first | rfl | skip
    rename_i f a b
    have e : callK X ih s (.fn f a b) vs k (ef2 (effV P X ih E s (.call ⟨.value x, xs, ts⟩)) (msOf s) k) = @Option.rec XK (fun _ => R) (ef2 (ih.call f (appL a (appL vs b)) ⟨s.heap, s.next, []⟩) s.ms k) (fun q => ef2 (runX s q (appL a (appL vs b))) (msOf s) k) (extK X f (appL a (appL vs b)) s) := rfl
    rw [e]
    simp only [appL_eq, extK_eq, ← List.append_assoc]
    simp only [effV, hx, hv]
    cases extV X f (a ++ vs ++ b) s with
    | some q => rfl
    | none =>
     simp only
     cases ih.call f (a ++ vs ++ b) ⟨s.heap, s.next, []⟩ with
     | none => rfl
     | some p => rfl
 · rfl
def kPut (d : Option Nat) : K (En → SV → (En → R) → R) := match d with
  | none => ⟨fun E _ k => k E⟩
  | some d => ⟨fun E v k => k ((d, v) :: E)⟩
theorem kPut_eq (d : Option Nat) (E : En) (v : SV) (k : En → R) : (kPut d).f E v k = k (putE E d v) := by cases d <;> rfl
def wantK (v : SV) (w : Bool) (a b : R) : R := @SV.rec (fun _ => R) (fun _ => Unit) (fun _ _ => none) (fun x => @SB.rec (fun _ => R) (fun c => @Bool.rec (fun _ => R) (@Bool.rec (fun _ => R) a b w) (@Bool.rec (fun _ => R) b a w) c) (fun _ _ _ => none) x) (fun _ _ => none) none (fun _ _ _ _ => none) (fun _ => none) none (fun _ _ _ _ _ => none) none (fun _ => none) (fun _ _ => none) (fun _ _ => none) b (fun _ => none) (fun _ _ _ => none) none () (fun _ _ _ _ => ()) v
theorem wantK_eq (v : SV) (w : Bool) (a b : R) : wantK v w a b = match v with
 | .bool (.lit c) => cond (c == w) a b
 | .und => b
 | _ => none := by
 cases v <;> first | rfl | skip
 rename_i x; cases x <;> first | rfl | skip
 rename_i c; cases c <;> cases w <;> rfl
abbrev KP := K (IH → En → St → (SV → St → R) → R)
def sv2 (r : Option (SV × St)) (k : SV → St → R) : R := ob r fun p => @Prod.rec SV St (fun _ => R) k p
def kValO (P : Program) (X : List (FuncId × XK)) (n : Nat) (all : Array Oper) (o : Oper) : KP := match dstOk n o.dst with
  | false => ⟨fun _ _ _ _ => none⟩
  | true => useK (match isEff o.op with
      | true => useK (kEff P X o.op) fun f => (⟨fun ih E s k => f ih E s k⟩ : KP)
      | false => useK (kVal P o.op) fun f => ⟨fun _ E s k => f E s fun v => k v s⟩) fun f => match o.guard with
    | none => ⟨f⟩
    | some (j, w) => match (all[j]?).bind (·.dst) with
      | some t => ⟨fun ih E s k => ob (findE t E) fun v => wantK v w (f ih E s k) (k .und s)⟩
      | none => ⟨fun _ _ _ _ => none⟩
theorem kValO_ok (P : Program) (X : List (FuncId × XK)) (n : Nat) (all : Array Oper) (o : Oper) (ih : IH) (E : En) (s : St) (k : SV → St → R) : (kValO P X n all o).f ih E s k = sv2 (valO P X ih n all o E s) k := by
  unfold kValO valO
  cases hd : dstOk n o.dst with
  | false => rfl
  | true =>
    simp only [cond_true]
    have hw : ∀ ih E s k, (match isEff o.op with
        | true => useK (kEff P X o.op) fun f => (⟨fun ih E s k => f ih E s k⟩ : KP)
        | false => useK (kVal P o.op) fun f => ⟨fun _ E s k => f E s fun v => k v s⟩).f ih E s k =
      sv2 (cond (isEff o.op) (match effV P X ih E s o.op with | some (v, s') => some (v, (⟨s'.heap, s'.next, s.ms⟩ : St)) | none => none) (match pureV P E s o.op with | some v => some (v, s) | none => none)) k := by
      intro ih E s k
      cases isEff o.op with
      | true =>
        show (kEff P X o.op).f ih E s _ = _
        rw [kEff_ok]
        simp only [cond_true]
        cases effV P X ih E s o.op with
        | none => rfl
        | some p => rfl
      | false =>
        show (kVal P o.op).f E s _ = _
        rw [kVal_ok]
        simp only [cond_false]
        cases pureV P E s o.op with
        | none => rfl
        | some v => rfl
    show (useK _ _ : KP).f ih E s k = _
    rw [useK_eq]
    cases hg : o.guard with
    | none => simp only [wantS]; exact hw ih E s k
    | some jw =>
      obtain ⟨j, w⟩ := jw
      simp only [wantS]
      cases hj : (all[j]?).bind (·.dst) with
      | none => rfl
      | some t =>
        show ob (findE t E) _ = _
        rw [findE_eq]
        simp only
        cases fnd t E with
        | none => rfl
        | some v =>
          rw [ob_some]
          rw [wantK_eq]
          split
          · rename_i c
            simp only
            cases hc : (c == w) with
            | true => exact hw ih E s k
            | false => rfl
          · rfl
          · rename_i h1 h2
            cases v <;> first | rfl | (exact (h2 rfl).elim) | skip
            rename_i b
            cases b with
            | lit c => exact (h1 c rfl).elim
            | cmp _ _ _ => rfl
def kOper (P : Program) (X : List (FuncId × XK)) (n : Nat) (all : Array Oper) (o : Oper) : KO :=
  useK (kPut o.dst) fun p => useK (kValO P X n all o) fun f => ⟨fun ih E s k => f ih E s fun v s => p E v fun E => k E s⟩
def st2 (r : Option (En × St)) (k : En → St → R) : R := ob r fun p => k p.1 p.2
theorem kOper_ok (P : Program) (X : List (FuncId × XK)) (n : Nat) (all : Array Oper) (o : Oper) (ih : IH) (E : En) (s : St) (k : En → St → R) : (kOper P X n all o).f ih E s k = st2 (stepO P X ih n all o E s) k := by
 show (kValO P X n all o).f ih E s (fun v s => (kPut o.dst).f E v fun E => k E s) = _
 rw [kValO_ok]
 unfold stepO
 cases valO P X ih n all o E s with
 | none => rfl
 | some p => show (kPut o.dst).f E p.1 _ = _; rw [kPut_eq]; rfl
def kOps (P : Program) (X : List (FuncId × XK)) (n : Nat) (all : Array Oper) (l : List Oper) : KO :=
  @List.rec Oper (fun _ => KO) ⟨fun _ E s k => k E s⟩ (fun o _ r => useK (kOper P X n all o) fun f => useK r fun g => ⟨fun ih E s k => f ih E s fun E s => g ih E s k⟩) l
theorem kOps_ok (P : Program) (X : List (FuncId × XK)) (n : Nat) (all : Array Oper) : ∀ (l : List Oper) (ih : IH) (E : En) (s : St) (k : En → St → R), (kOps P X n all l).f ih E s k = st2 (runOps P X ih n all l E s) k
 | [], ih, E, s, k => rfl
 | o :: l, ih, E, s, k => by
  show (kOper P X n all o).f ih E s (fun E s => (kOps P X n all l).f ih E s k) = _
  rw [kOper_ok]
  simp only [runOps]
  cases stepO P X ih n all o E s with
  | none => rfl
  | some p => exact kOps_ok P X n all l ih p.1 p.2 k
def kFr (P : Program) (o : Op) : K (Nat → En → (SV → AO → R) → R) := match o with
  | .alloc t => match zeroS P t with
    | some z => useK (K.mk (AO.cells (putC .e 0 z) (lenL z) t false)) fun c => ⟨fun N _ k => k (.ptr N 0) c⟩
    | none => ⟨fun _ _ _ => none⟩
  | .box t x => useK (kOp x) fun f => ⟨fun N E k => f E fun v => ob (cellsOf v) fun cs => cond (allC cs) (k (.ptr N 0) (.cells (putC .e 0 cs) (lenL cs) t false)) none⟩
  | o => ⟨fun N E k => ob (freshV P E N o) fun p => k p.1 (.cells (putC .e 0 p.2.1) (lenL p.2.1) p.2.2 false)⟩
theorem kFr_ok (P : Program) (o : Op) (N : Nat) (E : En) (k : SV → AO → R) : (kFr P o).f N E k = ob (freshV P E N o) fun p => k p.1 (.cells (putC .e 0 p.2.1) (lenL p.2.1) p.2.2 false) := by
 unfold kFr
 split
 ·
  rename_i t
  simp only [freshV]
  cases zeroS P t <;> rfl
 ·
  rename_i t x
  show (kOp x).f E _ = _
  rw [kOp_ok]; simp only [freshV]
  cases ev E x with
  | none => rfl
  | some v =>
   show ob (cellsOf v) _ = _
   simp only
   cases cellsOf v with
   | none => rfl
   | some cs => show cond (allC cs) _ none = _; simp only; cases allC cs <;> rfl
 · rfl
abbrev KD := K (Nat → IH → En → St → (SV → St → R) → R)
def kFrO (P : Program) (n : Nat) (all : Array Oper) (i : Nat) (o : Oper) : KD := match dstOk n o.dst with
  | false => ⟨fun _ _ _ _ _ => none⟩
  | true => useK (kFr P o.op) fun f => match o.guard with
    | none => ⟨fun b _ E s k => f (b + i) E fun v c => setK s (b + i) c fun s => k v s⟩
    | some (j, w) => match (all[j]?).bind (·.dst) with
      | some t => ⟨fun b _ E s k => ob (findE t E) fun v => wantK v w (f (b + i) E fun v c => setK s (b + i) c fun s => k v s) (setK s (b + i) .gone fun s => k .und s)⟩
      | none => ⟨fun _ _ _ _ _ => none⟩
def kStepD (P : Program) (X : List (FuncId × XK)) (n : Nat) (all : Array Oper) (A : List Nat) (i : Nat) (o : Oper) : KD := match isFresh o.op with
  | true => kFrO P n all i o
  | false => match isEff o.op with
    | true => useK (K.mk (hidL all A i)) fun l => useK (kValO P X n all o) fun f => ⟨fun b ih E s k => @St.rec (fun _ => R) (fun h nx ms => f ih E ⟨hideH b h l, nx, ms⟩ fun v s' => @St.rec (fun _ => R) (fun h' nx' ms' => k v ⟨showH b h h' l, nx', ms'⟩) s') s⟩
    | false => useK (kValO P X n all o) fun f => ⟨fun b ih E s k => cond (seesOk all A b E i o.op) (f ih E s k) none⟩
theorem kStepD_ok (P : Program) (X : List (FuncId × XK)) (n : Nat) (all : Array Oper) (A : List Nat) (i : Nat) (o : Oper) (b : Nat) (ih : IH) (E : En) (s : St) (k : SV → St → R) : (kStepD P X n all A i o).f b ih E s k = sv2 (valD P X ih n all A b i o E s) k := by
 unfold kStepD valD
 cases hf : isFresh o.op with
 | true =>
  simp only [cond_true]
  unfold kFrO
  cases hd : dstOk n o.dst with
  | false => rfl
  | true =>
   simp only [cond_true]
   have hw : (kFr P o.op).f (b + i) E (fun v c => setK s (b + i) c fun s => k v s) = sv2 (match freshV P E (b + i) o.op with | some (v, cs, t) => some (v, s.set (b + i) (.cells (putC .e 0 cs) (lenL cs) t false)) | none => none) k := by
    rw [kFr_ok]
    cases freshV P E (b + i) o.op with
    | none => rfl
    | some p => rfl
   show (useK _ _ : KD).f b ih E s k = _
   rw [useK_eq]
   cases hg : o.guard with
   | none => simp only [wantS]; exact hw
   | some jw =>
    obtain ⟨j, w⟩ := jw
    simp only [wantS]
    cases hj : (all[j]?).bind (·.dst) with
    | none => rfl
    | some t =>
     show ob (findE t E) _ = _
     rw [findE_eq]
     simp only
     cases fnd t E with
     | none => rfl
     | some v =>
      rw [ob_some]
      rw [wantK_eq]
      split
      ·
       rename_i c
       simp only
       cases hc : (c == w) with
       | true => exact hw
       | false => rfl
      · rfl
      ·
       rename_i h1 h2
       cases v <;> first | rfl | (exact (h2 rfl).elim) | skip
       rename_i b'
       cases b' with
       | lit c => exact (h1 c rfl).elim
       | cmp _ _ _ => rfl
 | false =>
  simp only [cond_false]
  cases he : isEff o.op with
  | true =>
   simp only [cond_true]
   show (kValO P X n all o).f ih E ⟨hideH b s.heap (hidL all A i), s.next, s.ms⟩ _ = _
   rw [kValO_ok]
   cases valO P X ih n all o E ⟨hideH b s.heap (hidL all A i), s.next, s.ms⟩ with
   | none => rfl
   | some p => rfl
  | false =>
   simp only [cond_false]
   show cond (seesOk all A b E i o.op) ((kValO P X n all o).f ih E s k) none = _
   rw [kValO_ok]
   cases seesOk all A b E i o.op <;> rfl
def restrK (E : En) (ts : List Nat) (k : En → R) : R := @List.rec Nat (fun _ => (En → R) → R) (fun k => k []) (fun t _ ih k => @Option.rec SV (fun _ => R) (ih k) (fun v => ih fun E' => k ((t, v) :: E')) (findE t E)) ts k
theorem restrK_eq (E : En) : ∀ (ts : List Nat) (k : En → R), restrK E ts k = k (restr E ts)
 | [], k => rfl
 | t :: ts, k => by
  show (@Option.rec SV (fun _ => R) (restrK E ts k) (fun v => restrK E ts fun E' => k ((t, v) :: E')) (findE t E)) = _
  rw [findE_eq]
  simp only [restr]
  cases fnd t E with
  | none => exact restrK_eq E ts k
  | some v => exact restrK_eq E ts _
abbrev QL := List (Nat × En × SV)
abbrev KDs := K (Nat → IH → En → St → (En → St → List St → QL → R) → R)
def kDs (P : Program) (X : List (FuncId × XK)) (n : Nat) (all : Array Oper) (A : List Nat) (l : List Oper) : Nat → KDs :=
  @List.rec Oper (fun _ => Nat → KDs) (fun _ => ⟨fun _ _ E s k => k E s [] []⟩) (fun o _ r i => useK (K.mk (readsO all o)) fun rs => useK (kStepD P X n all A i o) fun f => useK (kPut o.dst) fun p => useK (r (i + 1)) fun g => match isEff o.op with
    | true => match isFresh o.op with
      | true => ⟨fun b ih E s k => restrK E rs fun E' => f b ih E' s fun v s' => p E v fun E2 => g b ih E2 s' k⟩
      | false => ⟨fun b ih E s k => restrK E rs fun E' => f b ih E' s fun v s' => p E v fun E2 => g b ih E2 s' fun E3 s3 ss qs => k E3 s3 (s' :: ss) qs⟩
    | false => match looks o.op with
      | true => ⟨fun b ih E s k => restrK E rs fun E' => f b ih E' s fun v s' => p E v fun E2 => g b ih E2 s' fun E3 s3 ss qs => k E3 s3 ss ((i, E', v) :: qs)⟩
      | false => ⟨fun b ih E s k => restrK E rs fun E' => f b ih E' s fun v s' => p E v fun E2 => g b ih E2 s' k⟩) l
def ds4 (r : Option (En × St × List St × QL)) (k : En → St → List St → QL → R) : R := ob r fun p => k p.1 p.2.1 p.2.2.1 p.2.2.2
theorem kDs_ok (P : Program) (X : List (FuncId × XK)) (n : Nat) (all : Array Oper) (A : List Nat) : ∀ (l : List Oper) (i b : Nat) (ih : IH) (E : En) (s : St) (k : En → St → List St → QL → R), (kDs P X n all A l i).f b ih E s k = ds4 (runDs P X ih n all A b i l E s) k
  | [], i, b, ih, E, s, k => rfl
  | o :: l, i, b, ih, E, s, k => by
    have step : ∀ (k' : SV → En → En → St → List St → QL → St → R), restrK E (readsO all o) (fun E' => (kStepD P X n all A i o).f b ih E' s fun v s' => (kPut o.dst).f E v fun E2 => (kDs P X n all A l (i + 1)).f b ih E2 s' fun E3 s3 ss qs => k' v E' E3 s3 ss qs s') =
        ob (valD P X ih n all A b i o (restr E (readsO all o)) s) fun p => ob (runDs P X ih n all A b (i + 1) l (putE E o.dst p.1) p.2) fun q => k' p.1 (restr E (readsO all o)) q.1 q.2.1 q.2.2.1 q.2.2.2 p.2 := by
      intro k'
      rw [restrK_eq, kStepD_ok]
      cases valD P X ih n all A b i o (restr E (readsO all o)) s with
      | none => rfl
      | some p =>
        show (kPut o.dst).f E p.1 _ = _
        rw [kPut_eq, kDs_ok P X n all A l]
        rfl
    have e : (kDs P X n all A (o :: l) i) = (useK (K.mk (readsO all o)) fun rs => useK (kStepD P X n all A i o) fun f => useK (kPut o.dst) fun p => useK (kDs P X n all A l (i + 1)) fun g => match isEff o.op with
      | true => match isFresh o.op with
        | true => (⟨fun b ih E s k => restrK E rs fun E' => f b ih E' s fun v s' => p E v fun E2 => g b ih E2 s' k⟩ : KDs)
        | false => ⟨fun b ih E s k => restrK E rs fun E' => f b ih E' s fun v s' => p E v fun E2 => g b ih E2 s' fun E3 s3 ss qs => k E3 s3 (s' :: ss) qs⟩
      | false => match looks o.op with
        | true => ⟨fun b ih E s k => restrK E rs fun E' => f b ih E' s fun v s' => p E v fun E2 => g b ih E2 s' fun E3 s3 ss qs => k E3 s3 ss ((i, E', v) :: qs)⟩
        | false => ⟨fun b ih E s k => restrK E rs fun E' => f b ih E' s fun v s' => p E v fun E2 => g b ih E2 s' k⟩) := rfl
    rw [e]
    simp only [useK_eq]
    simp only [runDs]
    cases he : isEff o.op with
    | true =>
      cases hf : isFresh o.op with
      | true =>
        simp only [cond_true]
        refine (step fun _ _ E3 s3 ss qs _ => k E3 s3 ss qs).trans ?_
        cases valD P X ih n all A b i o (restr E (readsO all o)) s with
        | none => rfl
        | some p =>
          simp only [ob_some]
          cases runDs P X ih n all A b (i + 1) l (putE E o.dst p.1) p.2 <;> rfl
      | false =>
        simp only [cond_true, cond_false]
        refine (step fun _ _ E3 s3 ss qs s' => k E3 s3 (s' :: ss) qs).trans ?_
        cases valD P X ih n all A b i o (restr E (readsO all o)) s with
        | none => rfl
        | some p =>
          simp only [ob_some]
          cases runDs P X ih n all A b (i + 1) l (putE E o.dst p.1) p.2 <;> rfl
    | false =>
      cases hl : looks o.op with
      | true =>
        simp only [cond_true, cond_false]
        refine (step fun v E' E3 s3 ss qs s' => k E3 s3 ss ((i, E', v) :: qs)).trans ?_
        cases valD P X ih n all A b i o (restr E (readsO all o)) s with
        | none => rfl
        | some p =>
          simp only [ob_some]
          cases runDs P X ih n all A b (i + 1) l (putE E o.dst p.1) p.2 <;> rfl
      | false =>
        simp only [cond_false]
        refine (step fun _ _ E3 s3 ss qs _ => k E3 s3 ss qs).trans ?_
        cases valD P X ih n all A b i o (restr E (readsO all o)) s with
        | none => rfl
        | some p =>
          simp only [ob_some]
          cases runDs P X ih n all A b (i + 1) l (putE E o.dst p.1) p.2 <;> rfl
def kDraw (P : Program) (X : List (FuncId × XK)) (n : Nat) (ops : Array Oper) : KO := useK (K.mk (ancs ops.toList [])) fun A => match drawOk ops A with
  | false => ⟨fun _ _ _ _ => none⟩
  | true => useK (kDs P X n ops A ops.toList 0) fun f => useK (K.mk ops.size) fun m => ⟨fun ih E s k => @St.rec (fun _ => R) (fun h nx ms => f nx ih E ⟨h, nx + m, ms⟩ fun E2 s2 ss qs => cond (qs.all fun q => sameQ P ops A nx (⟨h, nx + m, ms⟩ :: ss) q.1 q.2.1 q.2.2) (k E2 s2) none) s⟩
theorem kDraw_ok (P : Program) (X : List (FuncId × XK)) (n : Nat) (ops : Array Oper) (ih : IH) (E : En) (s : St) (k : En → St → R) : (kDraw P X n ops).f ih E s k = st2 (runDraw P X ih n ops E s) k := by
 unfold kDraw runDraw runDrawA
 rw [useK_eq]
 simp only
 cases drawOk ops (ancs ops.toList []) with
 | false => rfl
 | true =>
  simp only [cond_true]
  show (kDs P X n ops (ancs ops.toList []) ops.toList 0).f s.next ih E ⟨s.heap, s.next + ops.size, s.ms⟩ _ = _
  rw [kDs_ok]
  cases runDs P X ih n ops (ancs ops.toList []) s.next 0 ops.toList E ⟨s.heap, s.next + ops.size, s.ms⟩ with
  | none => rfl
  | some p =>
   obtain ⟨E2, s2, ss, qs⟩ := p
   show cond (qs.all _) (k E2 s2) none = _
   simp only
   cases (qs.all fun q => sameQ P ops (ancs ops.toList []) s.next (⟨s.heap, s.next + ops.size, s.ms⟩ :: ss) q.1 q.2.1 q.2.2) <;> rfl
def onR (r : R) (n : En → St → R) (e : Ex → En → St → R) : R := ob r fun p => @Prod.rec Ex (En × St) (fun _ => R) (fun x q => @Prod.rec En St (fun _ => R) (fun E s => @Ex.rec (fun _ => R) (n E s) (e .ret E s) (fun id => e (.exit id) E s) x) q) p
def retR (E : En) (s : St) : R := some (.nor, E, s)
def outR (x : Ex) (E : En) (s : St) : R := some (x, E, s)
def bindR (r : R) (k : En → St → R) : R := onR r k outR
theorem bindR_ret (r : R) : bindR r retR = r := by
 cases r with
 | none => rfl
 | some p => obtain ⟨x, E, s⟩ := p; cases x <;> rfl
def anyB (t : Nat) (l : List Nat) : Bool := @List.rec Nat (fun _ => Bool) false (fun d _ ih => @Bool.rec (fun _ => Bool) ih true (Nat.beq t d)) l
theorem anyB_eq (t : Nat) : ∀ l : List Nat, anyB t l = l.any (Nat.beq t)
 | [] => rfl
 | d :: l => by
  show (@Bool.rec (fun _ => Bool) (anyB t l) true (Nat.beq t d)) = _
  rw [anyB_eq t l, List.any_cons]
  cases Nat.beq t d <;> rfl
def dedK (E : En) (seen : List Nat) : En := @List.rec (Nat × SV) (fun _ => List Nat → En) (fun _ => []) (fun p _ ih seen => @Prod.rec Nat SV (fun _ => En) (fun d v => @Bool.rec (fun _ => En) ((d, v) :: ih (d :: seen)) (ih seen) (anyB d seen)) p) E seen
theorem dedK_eq : ∀ (E : En) (seen : List Nat), dedK E seen = ded E seen
 | [], seen => rfl
 | (d, v) :: E, seen => by
  show (@Bool.rec (fun _ => En) ((d, v) :: dedK E (d :: seen)) (dedK E seen) (anyB d seen)) = _
  rw [anyB_eq, dedK_eq E, dedK_eq E]
  simp only [ded]
  cases seen.any (Nat.beq d) <;> rfl
def kCode (P : Program) (X : List (FuncId × XK)) (n : Nat) (top : Bool) (c : Code) : KO :=
  @Code.rec (fun _ => KO)
    ⟨fun _ E s k => k E s⟩
    (fun _ ops draw => match draw with
      | true => kDraw P X n ops
      | false => kOps P X n ops ops.toList)
    (fun _ _ fa fb => useK fa fun f => useK fb fun g => ⟨fun ih E s k => f ih E s fun E s => g ih E s k⟩)
    (fun x _ _ fa fb => useK (kOp x) fun h => useK fa fun f => useK fb fun g => ⟨fun ih E s k => h E fun v => boolK v (f ih E s k) (g ih E s k)⟩)
    (fun id _ fa => useK fa fun f => ⟨fun ih E s k => onR (f ih E s retR) k fun x E s => @Ex.rec (fun _ => R) (k E s) (some (.ret, E, s)) (fun j => cond (Nat.beq j id) (k E s) (some (.exit j, E, s))) x⟩)
    (fun a fa => useK fa fun f => ⟨fun ih E s k => onR (f ih E s retR) (fun E s => bindR (ih.code n top (.loop a) (dedK E []) s) k) outR⟩)
    (fun x ps az bd _ _ => ⟨fun ih E s k => bindR (codeS P X ih n top (.rangeFunc x ps az bd) E s) k⟩)
    (fun id => ⟨fun _ E s _ => some (.exit id, E, s)⟩)
    (fun _ fa => match top with
      | true => fa
      | false => ⟨fun _ _ _ _ => none⟩)
    (fun _ => ⟨fun _ E s k => k E s⟩)
    (fun _ => ⟨fun _ _ _ _ => none⟩)
    ⟨fun _ E s _ => some (.ret, E, s)⟩
    (fun _ => ⟨fun _ _ _ _ => none⟩) c
theorem kCode_ok (P : Program) (X : List (FuncId × XK)) (n : Nat) (top : Bool) (c : Code) : ∀ (ih : IH) (E : En) (s : St) (k : En → St → R), (kCode P X n top c).f ih E s k = bindR (codeS P X ih n top c E s) k := by
 induction c with
 | skip => intro ih E s k; rfl
 | ret => intro ih E s k; rfl
 | exit id => intro ih E s k; rfl
 | region id ops draw =>
  intro ih E s k
  simp only [codeS]
  cases draw with
  | true =>
   show (kDraw P X n ops).f ih E s k = _
   rw [kDraw_ok]
   simp only [cond_true]
   cases runDraw P X ih n ops E s with
   | none => rfl
   | some p => rfl
  | false =>
   show (kOps P X n ops ops.toList).f ih E s k = _
   rw [kOps_ok]
   simp only [cond_false]
   cases runOps P X ih n ops ops.toList E s with
   | none => rfl
   | some p => rfl
 | seq x y hx hy =>
  intro ih E s k
  show (kCode P X n top x).f ih E s (fun E s => (kCode P X n top y).f ih E s k) = _
  rw [hx]
  simp only [codeS]
  cases codeS P X ih n top x E s with
  | none => rfl
  | some p =>
   obtain ⟨z, E1, s1⟩ := p
   cases z with
   | nor => exact hy ih E1 s1 k
   | ret => rfl
   | exit id => rfl
 | cond o x y hx hy =>
  intro ih E s k
  show (kOp o).f E (fun v => boolK v ((kCode P X n top x).f ih E s k) ((kCode P X n top y).f ih E s k)) = _
  rw [kOp_ok, hx, hy]
  simp only [codeS]
  cases ev E o with
  | none => rfl
  | some v =>
   rw [ob_some]
   split
   · rename_i h; injection h with h; subst h; rfl
   · rename_i h; injection h with h; subst h; rfl
   · rename_i h1 h2; exact boolK_none (fun e => h1 (by rw [e])) (fun e => h2 (by rw [e]))
 | block id x hx =>
  intro ih E s k
  have h0 : (kCode P X n top (.block id x)).f ih E s k = onR ((kCode P X n top x).f ih E s retR) k fun x E s => @Ex.rec (fun _ => R) (k E s) (some (.ret, E, s)) (fun j => cond (Nat.beq j id) (k E s) (some (.exit j, E, s))) x := rfl
  rw [h0, hx, bindR_ret]
  simp only [codeS]
  cases codeS P X ih n top x E s with
  | none => rfl
  | some p =>
   obtain ⟨z, E1, s1⟩ := p
   cases z with
   | nor => rfl
   | ret => rfl
   | exit j => show cond (Nat.beq j id) _ _ = _; simp only; cases Nat.beq j id <;> rfl
 | loop x hx =>
  intro ih E s k
  have h0 : (kCode P X n top (.loop x)).f ih E s k = onR ((kCode P X n top x).f ih E s retR) (fun E s => bindR (ih.code n top (.loop x) (dedK E []) s) k) outR := rfl
  rw [h0, hx, bindR_ret]
  simp only [codeS]
  cases codeS P X ih n top x E s with
  | none => rfl
  | some p =>
   obtain ⟨z, E1, s1⟩ := p
   cases z with
   | nor => show bindR (ih.code n top (.loop x) (dedK E1 []) s1) k = _; rw [dedK_eq]
   | ret => rfl
   | exit j => rfl
 | rangeFunc o ps az bd ha hb => intro ih E s k; rfl
 | scope x hx =>
  intro ih E s k
  cases top with
  | true => simp only [codeS]; exact hx ih E s k
  | false => rfl
 | label l => intro ih E s k; rfl
 | goto l => intro ih E s k; rfl
 | refuse y => intro ih E s k; rfl
def finG (P : Program) (rs : List ResultVar) (r : R) : Option (SV × St) := match r with
  | some (x, E, s') => match x with
    | .exit _ => none
    | _ => cond (marksOk s'.heap s'.ms) (match resOf P E ⟨dropMs s'.heap s'.ms, s'.next, []⟩ rs with
      | some rs => some (packS rs, ⟨dropMs s'.heap s'.ms, s'.next, []⟩)
      | none => none) none
  | none => none
abbrev RF := Option (SV × St)
def entK (vs : List SV) : En := @List.rec SV (fun _ => Nat → En → En) (fun _ E => E) (fun v _ ih k E => ih (Nat.succ k) ((k, v) :: E)) vs 0 []
theorem entK_eq (vs : List SV) : entK vs = enterS 0 vs [] := by
 have : ∀ (vs : List SV) (k : Nat) (E : En), @List.rec SV (fun _ => Nat → En → En) (fun _ E => E) (fun v _ ih k E => ih (Nat.succ k) ((k, v) :: E)) vs k E = enterS k vs E := by
  intro vs
  induction vs with
  | nil => intro k E; rfl
  | cons v vs ih => intro k E; exact ih (k + 1) ((k, v) :: E)
 exact this vs 0 []
theorem lenK_eq : ∀ vs : List SV, lenL vs = vs.length
 | [] => rfl
 | _ :: vs => by show Nat.succ (lenL vs) = _; rw [lenK_eq vs]; rfl
def kRes (P : Program) (r : ResultVar) : K (En → St → (SV → RF) → RF) := match r with
  | .tmp t => ⟨fun E _ k => @Option.rec SV (fun _ => RF) none k (findE t E)⟩
  | r => ⟨fun E s k => match resOf P E s [r] with | some [v] => k v | _ => none⟩
theorem kRes_ok (P : Program) (r : ResultVar) (E : En) (s : St) (k : SV → RF) : (kRes P r).f E s k = match resOf P E s [r] with | some [v] => k v | _ => none := by
 cases r with
 | tmp t =>
  show @Option.rec SV (fun _ => RF) none k (findE t E) = _
  rw [findE_eq]
  simp only [resOf]
  cases fnd t E <;> rfl
 | cell x t => rfl
def kResL (P : Program) (rs : List ResultVar) : K (En → St → (List SV → RF) → RF) := @List.rec ResultVar (fun _ => K (En → St → (List SV → RF) → RF)) ⟨fun _ _ k => k []⟩ (fun r _ ih => useK (kRes P r) fun f => useK ih fun g => ⟨fun E s k => g E s fun vs => f E s fun v => k (v :: vs)⟩) rs
theorem kResL_ok (P : Program) : ∀ (rs : List ResultVar) (E : En) (s : St) (k : List SV → RF), (kResL P rs).f E s k = match resOf P E s rs with | some vs => k vs | none => none
 | [], E, s, k => rfl
 | r :: rs, E, s, k => by
  show (kResL P rs).f E s (fun vs => (kRes P r).f E s fun v => k (v :: vs)) = _
  rw [kResL_ok P rs]
  simp only [resOf]
  cases resOf P E s rs with
  | none => rfl
  | some vs =>
   simp only
   rw [kRes_ok]
   simp only [resOf]
   cases r with
   | tmp t => simp only; cases fnd t E <;> rfl
   | cell x t =>
    simp only
    cases fnd x E with
    | none => rfl
    | some v =>
     cases v <;> first | rfl | skip
     rename_i i o
     simp only
     cases s.heap.get i with
     | none => rfl
     | some a =>
      cases a <;> first | rfl | skip
      rename_i cs _ _ _
      simp only
      cases part P t cs o <;> rfl
def packK (vs : List SV) : SV := @List.rec SV (fun _ => SV) (.tup vs) (fun v tl _ => @List.rec SV (fun _ => SV) v (fun _ _ _ => .tup vs) tl) vs
theorem packK_eq (vs : List SV) : packK vs = packS vs := by
 match vs with
 | [] => rfl
 | [_] => rfl
 | _ :: _ :: _ => rfl
def finK (rs : En → St → (List SV → RF) → RF) (r : R) : RF := @Option.rec (Ex × En × St) (fun _ => RF) none (fun p => @Prod.rec Ex (En × St) (fun _ => RF) (fun x q => @Prod.rec En St (fun _ => RF) (fun E s => @Ex.rec (fun _ => RF)
    (@St.rec (fun _ => RF) (fun h n ms => @List.rec Nat (fun _ => RF) (rs E ⟨h, n, []⟩ fun vs => some (packK vs, ⟨h, n, []⟩)) (fun _ _ _ => cond (marksOk h ms) (rs E ⟨dropMs h ms, n, []⟩ fun vs => some (packK vs, ⟨dropMs h ms, n, []⟩)) none) ms) s)
    (@St.rec (fun _ => RF) (fun h n ms => @List.rec Nat (fun _ => RF) (rs E ⟨h, n, []⟩ fun vs => some (packK vs, ⟨h, n, []⟩)) (fun _ _ _ => cond (marksOk h ms) (rs E ⟨dropMs h ms, n, []⟩ fun vs => some (packK vs, ⟨dropMs h ms, n, []⟩)) none) ms) s)
    (fun _ => none) x) q) p) r
theorem finK_ok (P : Program) (rs : List ResultVar) (r : R) : finK (kResL P rs).f r = finG P rs r := by
  cases r with
  | none => rfl
  | some p =>
    obtain ⟨x, E, s⟩ := p
    obtain ⟨h, n, ms⟩ := s
    have key : (@List.rec Nat (fun _ => RF) ((kResL P rs).f E ⟨h, n, []⟩ fun vs => some (packK vs, ⟨h, n, []⟩)) (fun _ _ _ => cond (marksOk h ms) ((kResL P rs).f E ⟨dropMs h ms, n, []⟩ fun vs => some (packK vs, ⟨dropMs h ms, n, []⟩)) none) ms) =
        cond (marksOk h ms) (match resOf P E ⟨dropMs h ms, n, []⟩ rs with | some rs => some (packS rs, (⟨dropMs h ms, n, []⟩ : St)) | none => none) none := by
      cases ms with
      | nil =>
        show (kResL P rs).f E ⟨h, n, []⟩ _ = _
        rw [kResL_ok]
        simp only [packK_eq]; rfl
      | cons i ms =>
        show cond _ ((kResL P rs).f E _ _) none = _
        rw [kResL_ok]
        simp only [packK_eq]
    cases x with
    | nor => exact key
    | ret => exact key
    | exit id => rfl
def kFun (P : Program) (X : List (FuncId × XK)) (f : FuncId) : K (IH → List SV → St → Option (SV × St)) := match P.funcs[f]? with
  | some fn => match fn.body with
    | some c => match fn.name == "runtime.NumGoroutine" with
      | true => ⟨fun _ _ _ => none⟩
      | false => useK (K.mk fn.ntmps) fun n => useK (kCode P X n true c) fun g => useK (kResL P fn.results.toList) fun rs => ⟨fun ih vs s => @Bool.rec (fun _ => RF) none (finK rs (g ih (entK vs) s retR)) (Nat.ble (lenL vs) n)⟩
    | none => ⟨fun _ _ _ => none⟩
  | none => ⟨fun _ _ _ => none⟩
theorem kFun_ok (P : Program) (X : List (FuncId × XK)) (f : FuncId) (ih : IH) (vs : List SV) (s : St) : (kFun P X f).f ih vs s = funS P X ih f vs s := by
 unfold kFun funS
 cases P.funcs[f]? with
 | none => rfl
 | some fn =>
  simp only
  cases fn.body with
  | none => rfl
  | some c =>
   simp only
   cases fn.name == "runtime.NumGoroutine" with
   | true => simp
   | false =>
    show @Bool.rec (fun _ => RF) none (finK (kResL P fn.results.toList).f ((kCode P X fn.ntmps true c).f ih (entK vs) s retR)) (Nat.ble (lenL vs) fn.ntmps) = _
    rw [kCode_ok, bindR_ret, finK_ok, entK_eq, lenK_eq]
    cases Nat.ble vs.length fn.ntmps with
    | false => rfl
    | true =>
     simp only [cond_true, Bool.not_false, Bool.and_self]
     cases codeS P X ih fn.ntmps true c (enterS 0 vs []) s with
     | none => rfl
     | some p =>
      obtain ⟨x, E, s'⟩ := p
      cases x <;> rfl
def runK (P : Program) (X : List (FuncId × XK)) (m : Nat) : IH :=
  @Nat.rec (fun _ => IH) ⟨fun _ _ _ _ _ => none, fun _ _ _ => none⟩ (fun _ ih => ⟨fun n top c E s => useK (kCode P X n top c) fun f => f ih E s retR, fun f vs s => useK (kFun P X f) fun g => g ih vs s⟩) m
theorem runK_eq (P : Program) (X : List (FuncId × XK)) : ∀ m, runK P X m = run P X m
 | 0 => rfl
 | m + 1 => by
  have ihm := runK_eq P X m
  show (⟨fun n top c E s => (kCode P X n top c).f (runK P X m) E s retR, fun f vs s => (kFun P X f).f (runK P X m) vs s⟩ : IH) = _
  simp only [kCode_ok, kFun_ok, bindR_ret, ihm]
  rfl
def okK (P : Program) (X : List (FuncId × XK)) (n : Nat) (f : FuncId) (vs : List SV) (v : SV) : Bool := match (runK P X n).call f vs ⟨.e, 0, []⟩ with
  | some (u, _) => SV.beq u v
  | none => false
end Go.Acq.Vx
noncomputable section
namespace Go.Acq.Vx
open Go Go.Acq Go.RowKit
variable {P : Program} {X : List (FuncId × XK)}
def closedV : SV → Bool
  | .tup vs => vs.all plainC
  | v => plainC v
theorem VR.closed {vr : Nat → Int} {σ σ' : Nm} {v : SV} {x : Value} (hc : closedV v = true) (h : VR vr σ v x) : VR vr σ' v x := by
 cases v <;> first | exact h.plain hc | skip
 cases h with
 | tup h => exact .tup (h.plain hc)
theorem okK_eq {n : Nat} {f : FuncId} {vs : List SV} {v : SV} (h : okK P X n f vs v = true) : okV P X n f vs v = true := by
 unfold okK at h
 unfold okV
 rw [← runK_eq]; exact h
def beqT : SV → SV → Bool
  | .tup a, .tup b => beqS a b
  | u, v => SV.beq u v
theorem beqT_eq {u v : SV} (h : beqT u v = true) : u = v := by
 unfold beqT at h
 split at h
 · rw [beqS_eq h]
 · exact beqV_eq h
def okD (P : Program) (X : List (FuncId × XK)) (n : Nat) (f : FuncId) (us : List SV) (hs : List CO) (v : SV) (hs' : List CO) : Bool := match (runK P X n).call f us (canS hs) with
  | some (u, s') => match grow s' 3000 (addN (List.range hs.length) (nm2 u)) 0 with
    | some (l, os) => flat2 u && flat2 v && hs'.all flatO && beqT (map2 (posL l) u) v && beqH (os.map (mapCO (posL l))) hs'
    | none => false
  | none => false
theorem deep_of (hm : P.follows .mixedOrders = true) (hX : XsOk P X) {n : Nat} {f : FuncId} {us : List SV} {hs : List CO} {v : SV} {hs' : List CO} (h : okD P X n f us hs v hs' = true) : XOk P f (.deep us hs v hs') := by
 unfold okD at h
 split at h
 case h_2 => cases h
 rename_i u s' hr
 split at h
 case h_2 => cases h
 rename_i l os hg
 simp only [Bool.and_eq_true] at h
 obtain ⟨⟨⟨⟨h1, h2⟩, h3⟩, h4⟩, h5⟩ := h
 have h4 := beqT_eq h4
 have h5 := beqH_eq h5
 rw [runK_eq] at hr
 refine ⟨((run_ok (vr := fun _ => 0) hm hX n).1 _ _ _ _ _ hr rfl).1, h2, h3, fun vr σ w M args ha hσ hw => ?_⟩
 refine Calls.mono (((run_ok (vr := vr) hm hX n).1 _ _ _ _ _ hr rfl).2 σ w M [] w args ha hw) ?_
 rintro e w' ⟨σ', y, q1, q2, q3, rfl⟩
 obtain ⟨⟨t0, a1⟩, a2, a3, a4⟩ := addN_ok (is := nm2 u) (l := List.range hs.length)
 obtain ⟨⟨t, e0⟩, g2, g3, g4, g5⟩ := reach_ok q3 hg (Nat.zero_le _) (a3 List.nodup_range) fun i hi => by
  rcases a4 i hi with h | h
  ·
   obtain ⟨y, hy⟩ := hσ i (List.mem_range.1 h)
   exact ⟨y, q1 _ _ hy⟩
  · exact q2.nm2 h
 have hlen : os.length = l.length := by omega
 have hsub := q3.sub (w1 := w) (M1 := M) g2 hlen (fun q o hq => by have := g5 q o hq; rwa [Nat.zero_add] at this) q3.os q3.tape q3.output q3.size q3.keep fun i o b r h1 h2 h3 h4 => q3.low i o b r h2 h3 h4
 rw [h5] at hsub
 refine ⟨subN σ' l, y, fun p hp => ?_, ?_, hsub, rfl⟩
 ·
  obtain ⟨y, hy⟩ := hσ p hp
  unfold subN
  have : l[p]? = some p := by
   rw [e0, a1, List.append_assoc, List.getElem?_append_left (by simpa using hp)]
   simp [hp]
  rw [this, hy]
  exact q1 _ _ hy
 ·
  rw [← h4]
  exact q2.map2 h1 fun i hi => subN_pos (by rw [e0]; exact List.mem_append_left _ (a2 i hi))
theorem awakeK (hm : P.follows .mixedOrders = true) (hX : XsOk P X) {n : Nat} {f : FuncId} (h : okK P X n f [] (.bool (.lit true)) = true) (w : World) : Fnc P f #[] w [] (fun y N => y = .bool true ∧ N = []) := awake_of hm hX (okK_eq h) w
end Go.Acq.Vx
noncomputable section
namespace Go.Acq.Vx
open Go Go.Acq Go.RowKit
variable {P : Program}
def holdsB {α : Type} (k : IntKind) (g : α → List Int) (sz : Nat) (cs : Tri SV) (xs : List α) : Bool := (List.range xs.length).all fun o => (List.range sz).all fun c => match xs[o]? with
  | some x => match cs.get (o * sz + c), (g x)[c]? with
    | some (.int k' (.lit z)), some z' => decide (k' = k) && decide (z = z')
    | _, _ => false
  | none => false
theorem WR.rs {vr : Nat → Int} {σ : Nm} {w0 w : World} {M B : List Nat} {s : St} {α : Type} {g : α → List Int} {k : IntKind} {sz : Nat} {xs : List α} (hw : WR P vr σ w0 M B s w) {i b r m c : Nat} {cs : Tri SV} {t : TypeId} {more : Bool}
    (hi : s.heap.get i = some (.cells cs m t more)) (hσ : σ i = some (b, r)) (hg : ∀ x, (g x).length = sz) (hc : holdsB k g sz cs xs = true) (hn : xs.length ≤ c) : RS w [] (fun x => (g x).map (Value.int k)) sz (some ⟨b, 0, none⟩) xs.length c xs := by
  refine ⟨⟨rfl, (fun e => nomatch e), fun x => by rw [List.length_map, hg], fun o q ho hq x hx => ?_⟩, fun _ _ _ => by simp, hn⟩
  have h1 := List.all_eq_true.1 (List.all_eq_true.1 hc o (List.mem_range.2 ho)) q (List.mem_range.2 hq)
  rw [hx] at h1
  simp only at h1
  split at h1
  · rename_i k' z z' h2 h3
    simp only [Bool.and_eq_true, decide_eq_true_eq] at h1
    obtain ⟨rfl, rfl⟩ := h1
    obtain ⟨_, y, h4, h5⟩ := hw.cell hi h2 hσ
    rw [h5.lit_inv] at h4
    show w.cell? (ea (some ⟨b, 0, none⟩) (o * sz + q)) = _
    have : ea (some ⟨b, 0, none⟩) (o * sz + q) = ⟨b, o * sz + q, none⟩ := by simp [ea, Addr.add]; omega
    rw [this, h4, List.getElem?_map, h3]; rfl
  · cases h1
theorem Re {vr : Nat → Int} {σ : Nm} {k : IntKind} : ∀ xs : List Int, VRs vr σ (xs.map fun x => .int k (.lit x)) (xs.flatMap (intC k))
 | [] => .nil
 | x :: xs => .cons .int (Re xs)
theorem Z4a {σ : Nm} {i j b r : Nat} (h : j ≠ i) : σ.put i b r j = σ j := by unfold Nm.put; rw [if_neg (by omega)]
theorem row_known {f : FuncId} {us : List SV} {hs : List CO} {e : TypeId} {k : IntKind} {xs : List Int} (hc : Yn P f = true) (hne : xs ≠ []) (hfl : hs.all flatO = true) (he : Zq P e = some 1)
    (hcan : (canS hs).new (.cells (putC .e 0 (xs.map fun x => .int k (.lit x))) (lenL (xs.map fun x => .int k (.lit x))) e true) = canS (hs ++ [some (xs.map fun x => .int k (.lit x), e, true)]))
    (h : ∀ (vr : Nat → Int) (σ : Nm) (w : World) (M : List Nat) (args : List Value), VRs vr σ us args → (∀ p, p < hs.length → ∃ y, σ p = some y) → WR P vr σ w M [] (canS hs) w →
      Fnc P f args.toArray w [] (fun v N => ∃ (ob : Option Nat) (n c : Nat) (j : List Value), v = .tuple #[.slice (sb ob) n c, .bool true] ∧ N = [(ob, .cells (arr (intC k) xs j).toArray e (0, 0))] ∧ xs.length = n ∧ n ≤ c ∧ j.length = (c - n) * 1 ∧ (ob = none → c = 0))) :
    XOk P f (.deep us hs (.tup [.sl hs.length 0 xs.length (.rest 0), .bool (.lit true)]) (hs ++ [some (xs.map fun x => .int k (.lit x), e, true)])) := by
  refine ⟨hc, rfl, ?_, fun vr σ w M args ha hσ hw => ?_⟩
  · rw [List.all_append, hfl]
    simp only [List.all_cons, List.all_nil, Bool.and_true, Bool.true_and, flatO, List.all_map]
    exact List.all_eq_true.2 fun x _ => rfl
  refine Calls.mono (h vr σ w M args ha hσ hw) ?_
  rintro e' w' ⟨v, N, ⟨ob, n, c, j, rfl, rfl, hn, hnc, hj, h0⟩, rfl, hi⟩
  cases ob with
  | none =>
    have := h0 rfl
    have : xs.length = 0 := by omega
    exact absurd (List.eq_nil_of_length_eq_zero this) hne
  | some b =>
    have hb := hi.own b _ (.head _)
    have hlow : w.heap.size ≤ b := by
      rcases hi.low b _ (.head _) with h | h
      · exact h
      · simp at h
    have hw1 : WR P vr σ w M [] (canS hs) w' := hw.below ⟨hi.os, hi.tape, hi.output, hi.size, hi.keep, by simp, by simp, by simp⟩
    have hfree : ∀ j p r', (canS hs).heap.get j = some p → p.live = true → σ j ≠ some (b, r') := fun j p r' h1 h2 h3 => by
      have := hw.lt h1 h2 h3; omega
    have hat := hw1.attach (o := .cells (putC .e 0 (xs.map fun x => .int k (.lit x))) (lenL (xs.map fun x => .int k (.lit x))) e true) (r := c) rfl hb hfree (.inl hlow)
      (newC_or (Re xs) (fun v hv => by obtain ⟨x, _, rfl⟩ := List.mem_map.1 hv; rfl) (fun e' => by cases e') (fun _ d hd => by
        rw [he] at hd; injection hd with hd; subst hd
        have : (xs.flatMap (intC k)).length = xs.length := by rw [← (Re (vr := vr) (σ := σ) (k := k) xs).length, List.length_map]
        rw [this]; omega))
    rw [hcan] at hat
    refine ⟨_, _, fun p hp => Z4a (show p ≠ (canS hs).next from by show p ≠ hs.length; omega), .tup (.cons (x := .slice (some ⟨b, 0, none⟩) xs.length c) ?_ (.cons .bool .nil)), hat, ?_⟩
    · exact VR.slR (l := 0) (Nm.put_same (i := hs.length)) (by omega)
    · subst hn; rfl
end Go.Acq.Vx
namespace Go.Acq
open Go Go.RowKit
section
variable {α : Type} {w0 w : World} {M M' : List Nat} {f : α → List Value} {s n c : Nat} {base : Option Addr} {xs ys : List α} {ob : Option Nat} {j : List Value} {H Hm R : Heap} {T' : TypeId} {fr : Nat × Nat}
def Seen (w0 : World) (M : List Nat) (f : α → List Value) (s : Nat) (base : Option Addr) (n c : Nat) (xs ys : List α) (ob : Option Nat) : Prop :=
  (base = sb ob ∧ ys = xs ∧ xs.length = n ∧ n ≤ c ∧ (ob = none → c = 0)) ∨ RS w0 M f s base n c xs
theorem Seen.own (hn : xs.length = n) (hc : n ≤ c) (hz : ob = none → c = 0) : Seen w0 M f s (sb ob) n c xs xs ob := .inl ⟨rfl, rfl, hn, hc, hz⟩
theorem Seen.ro (h : RS w0 M f s base n c xs) : Seen w0 M f s base n c xs [] none := .inr h
theorem Seen.len (h : Seen w0 M f s base n c xs ys ob) : xs.length = n := h.elim (fun h => h.2.2.1) (fun h => h.len)
theorem Seen.cap (h : Seen w0 M f s base n c xs ys ob) : n ≤ c := h.elim (fun h => h.2.2.2.1) (fun h => h.cap)
theorem Seen.nil (h : Seen w0 M f s base n c xs ys ob) (hb : base = none) : n = 0 := by
 rcases h with ⟨h1, h2, h3, h4, h5⟩ | h
 ·
  cases ob with
  | none => have := h5 rfl; omega
  | some b => rw [h1] at hb; cases hb
 · exact h.ro.nil hb
theorem Seen.rs (h : Seen w0 M f s base n c xs ys ob) (hf : ∀ x, (f x).length = s) (hi : Inv w0 M w H) (hm : (ob, Obj.cells (arr f ys j).toArray T' fr) ∈ H) : RS w [] f s base n c xs := by
 rcases h with ⟨rfl, rfl, h3, h4, h5⟩ | h
 · exact hi.rs hf hm h3 h4 h5
 · exact h.mono hi
theorem Seen.rsM (h : Seen w0 M f s base n c xs ys ob) (hf : ∀ x, (f x).length = s) (hs : 0 < s) (hi : Inv w0 M w H) (hp : List.Perm H (Hm ++ R)) (hM : Hm.filterMap (·.1) = M') (hm : (ob, Obj.cells (arr f ys j).toArray T' fr) ∈ R) : RS w M' f s base n c xs := by
 rcases h with ⟨rfl, rfl, h3, h4, h5⟩ | h
 · exact hi.rsM hf hp hM hm h3 h4 h5
 · exact h.monoM hs hi hp hM
end
section rules
variable {C : Cx} {ops : Array Oper} {Q : Exit → Act → World → Prop} {l : List Nat} {E : Env} {H R : Heap} {i d : Nat} {ty : TypeId} {pos : String} {af : Array Edge} {g : Option (Nat × Bool)}
end rules
end Go.Acq
namespace Go.Acq
def Xy {α : Type} (z : α) (k : Int × Int) : List ((Int × Int) × α) → α
  | [] => z
  | x :: xs => if k = x.1 then x.2 else Xy z k xs
end Go.Acq
namespace Go.Acq
open Go Go.RowKit
section
variable {α : Type} {q : IntKind} {f : α → Value} {k : Int × Int} {z v : α}
end
section
variable {P : Program} {w : World} {kt i : TypeId} {q : IntKind}
end
section rules
variable {C : Cx} {ops : Array Oper} {Q : Exit → Act → World → Prop} {l : List Nat} {E : Env} {H R : Heap} {i d : Nat} {ty : TypeId} {pos : String} {af : Array Edge} {g : Option (Nat × Bool)}
variable {α : Type} {q : IntKind} {f : α → Value}
end rules
end Go.Acq
namespace Go.Acq
open Go
end Go.Acq
namespace Go.Acq
open Go Go.RowKit
section rules
variable {C : Cx} {ops : Array Oper} {Q : Exit → Act → World → Prop} {l : List Nat} {E : Env} {H R : Heap} {i d : Nat} {ty : TypeId} {pos : String} {af : Array Edge} {g : Option (Nat × Bool)}
end rules
end Go.Acq
namespace Go.Acq
open Go Go.RowKit
def Kept (ob obK ob' : Option Nat) : Prop := obK = ob ∨ (obK = none ∧ ob' = ob)
section rules
variable {C : Cx} {ops : Array Oper} {Q : Exit → Act → World → Prop} {l : List Nat} {E : Env} {H R : Heap} {i d : Nat} {ty : TypeId} {pos : String} {af : Array Edge} {g : Option (Nat × Bool)}
theorem Kept.rs {α : Type} {w0 w : World} {M : List Nat} {f : α → List Value} {s n c n2 c2 : Nat} {ob obK ob' : Option Nat} {xs ys : List α} {j j' : List Value} {T T' : TypeId} {fr fr' : Nat × Nat} (h : Kept ob obK ob') (hi : Inv w0 M w H) (hf : ∀ x, (f x).length = s)
    (hm2 : (ob', Obj.cells (arr f (xs ++ ys) j').toArray T' fr') ∈ H) (hmK : (obK, Obj.cells (arr f xs j).toArray T fr) ∈ H) (hn2 : (xs ++ ys).length = n2) (hc2 : n2 ≤ c2) (h02 : ob' = none → c2 = 0) (hn : xs.length = n) (hc : n ≤ c) (h0 : ob = none → c = 0) : RS w [] f s (sb ob) n c xs := by
  rcases h with rfl | ⟨rfl, rfl⟩
  · exact hi.rs hf hmK hn hc h0
  · have h1 := hi.rs hf hm2 hn2 hc2 h02
    have h2 := h1.take (p := (n : Int)) ⟨Int.natCast_nonneg n, by rw [List.length_append]; omega⟩
    rw [Int.toNat_natCast, List.take_left' hn] at h2
    exact ⟨h2.ro, fun _ _ _ => by simp, hc⟩
end rules
end Go.Acq
namespace Go.Acq
open Go Go.RowKit
section
variable {C : Cx} {ops : Array Oper} {Q : Exit → Act → World → Prop} {E : Env} {H : Heap}
def ObsG2 (C : Cx) (ops : Array Oper) (Q : Exit → Act → World → Prop) (S : List Sp) (HR : Nat → List Value → Heap → Prop) (hd : List (List Nat)) (W : Env) (Hc : Heap) : List Nat → Prop
  | [] => True
  | i :: l => (cond (Yg S i) (ObE2 C ops Q S HR hd W Hc i) (ObQ C ops Q S W Hc i)) ∧ ObsG2 C ops Q S HR hd W Hc l
theorem ObsG2.get {S : List Sp} {HR : Nat → List Value → Heap → Prop} {hd : List (List Nat)} {W : Env} {Hc : Heap} : ∀ {l : List Nat}, ObsG2 C ops Q S HR hd W Hc l → ∀ i, i ∈ l → (cond (Yg S i) (ObE2 C ops Q S HR hd W Hc i) (ObQ C ops Q S W Hc i))
 | [], _, i, h => by cases h
 | j :: l, ⟨h1, h2⟩, i, h => by
  rcases List.mem_cons.1 h with rfl | h
  · exact h1
  · exact ObsG2.get h2 i h
theorem Z2u {S : List Sp} {HR : Nat → List Value → Heap → Prop} {hd : List (List Nat)} {W : Env} {Hc : Heap} : ∀ {l : List Nat}, ObsG2 C ops Q S HR hd W Hc l → ObsG3 C ops Q S HR hd [] W Hc l
 | [], _ => trivial
 | _ :: _, ⟨h1, h2⟩ => ⟨h1, Z2u h2⟩
theorem T.drawG2 {id : Nat} (S : List Sp) (HR : Nat → List Value → Heap → Prop) (hd : List (List Nat)) (hb0 Hc : Heap)
    (hm : C.P.follows .mixedOrders = true) (hb : Wq ops = true) (ht : Uk ops S.length = true) (hgood : Kg ops S hd = true) (hms : Nat.ble S.length ops.size = true)
    (hn : Vu (Xx ops (List.range S.length)) = true) (h0 : HR 0 [] hb0) (hH : Pick (hb0 ++ Hc) H)
    (obs : ObsG2 C ops Q S HR hd (wo (Xx ops (List.range S.length)) E) Hc (List.range S.length))
    (k : ∀ (vs : Nat → Value) (es : Nat → Heap) (hb : Heap), Vc S vs es (List.range S.length) → HR ((List.range S.length).filter (Yg S)).length ((hd.getD ((List.range S.length).filter (Yg S)).length []).map vs) hb →
      TO C ops Q (List.range' S.length (ops.size - S.length)) (Xl ops vs (List.range S.length) ++ wo (Xx ops (List.range S.length)) E) (hb ++ (Hc ++ Yt es ((List.range S.length).filter fun j => !Vq S j)))) :
    T C (.region id ops true) Q E H := Z2k S HR hd [] hb0 Hc hm hb ht hgood hms hn rfl trivial h0 hH (Z2u obs) k
theorem Z28 {id : Nat} (S : List Sp) (sl : List Nat) (m : Nat) (HR : Nat → List Value → Heap → Prop) (hd : List (List Nat)) (hb0 Hc : Heap)
    (hm : C.P.follows .mixedOrders = true) (hsm : S.length = m) (hsl : Xx ops (List.range m) = sl) (hb : Wq ops = true) (ht : Uk ops m = true) (hgood : Kg ops S hd = true) (hms : Nat.ble m ops.size = true)
    (hn : Vu sl = true) (h0 : HR 0 [] hb0) (hH : Pick (hb0 ++ Hc) H)
    (obs : ObsG2 C ops Q S HR hd (wo sl E) Hc (List.range m))
    (k : ∀ (vs : Nat → Value) (es : Nat → Heap) (hb : Heap), Vc S vs es (List.range m) → HR ((List.range m).filter (Yg S)).length ((hd.getD ((List.range m).filter (Yg S)).length []).map vs) hb →
      TO C ops Q (List.range' m (ops.size - m)) (Xl ops vs (List.range m) ++ wo sl E) (hb ++ (Hc ++ Yt es ((List.range m).filter fun j => !Vq S j)))) :
    T C (.region id ops true) Q E H := by
  subst hsm; subst hsl
  exact T.drawG2 S HR hd hb0 Hc hm hb ht hgood hms hn h0 hH obs k
theorem X.obEt {S : List Sp} {HR : Nat → List Value → Heap → Prop} {W Es B B' : Env} {Hc Hx : Heap} {i k d : Nat} {v : Value} {vl : List Value} {F : Value → List Value} {De hb' e' H' : Heap} (hs : Yf ops i = some d) (hr : Ve S i vl v e') (hh : HR k (F v) hb')
    (hH : Pick (hb' ++ (Hc ++ (e' ++ (De ++ Hx)))) H') (hB : B = B') :
    X C (fun e a w => match e with
      | .normal => ∃ v hb' e', Ve S i vl v e' ∧ HR k (F v) hb' ∧ Fits C.n C.D (Vv (Yf ops i) v (B ++ (W ++ Es))) a ∧ Inv C.w0 C.M w (hb' ++ (Hc ++ (e' ++ (De ++ Hx))))
      | e => Q e a w) .normal ((d, v) :: (B' ++ (W ++ Es))) H' := by
  subst hB
  exact fun _ _ hf hi => ⟨v, hb', e', hr, hh, by rw [hs]; exact hf, hi.pick hH⟩
end
end Go.Acq
namespace Go.Acq
open Go Go.RowKit
structure Qu {α : Type} (ob : Option Nat) (base : Option Addr) (n c : Nat) (xs ys : List α) (N C : Nat) : Prop where
  ex : ∃ o, o + n = N ∧ o + c = C ∧ xs = ys.drop o ∧ (0 < c → base = (sb ob).map (·.add o))
section
variable {α : Type} {ob : Option Nat} {base : Option Addr} {n c N C : Nat} {xs ys : List α} {w w0 : World} {M M' : List Nat} {H Hm R : Heap} {f : α → List Value} {j : List Value} {T' : TypeId} {fr : Nat × Nat}
theorem Qu.len (h : Qu ob base n c xs ys N C) (hn : ys.length = N) : xs.length = n := by
 obtain ⟨o, h1, _, rfl, _⟩ := h.ex
 rw [List.length_drop]; omega
theorem Qu.le (h : Qu ob base n c xs ys N C) (hc : N ≤ C) : n ≤ c := by
 obtain ⟨o, h1, h2, _, _⟩ := h.ex
 omega
theorem Z3y (ob : Option Nat) : (sb ob).map (·.add 0) = sb ob := by cases ob <;> rfl
theorem Qu.self (ob : Option Nat) (ys : List α) (N C : Nat) : Qu ob (sb ob) N C ys ys N C := ⟨0, by omega, by omega, rfl, fun _ => (Z3y ob).symm⟩
theorem Qu.drop (h : Qu ob base n c xs ys N C) {p : Int} (hp : 0 ≤ p ∧ p ≤ (xs.length : Int)) (hn : ys.length = N) (hc : N ≤ C) : Qu ob (Wx base p.toNat c 1) (n - p.toNat) (c - p.toNat) (xs.drop p.toNat) ys N C := by
 have hl := h.len hn
 have hle := h.le hc
 obtain ⟨o, h1, h2, rfl, h4⟩ := h.ex
 refine ⟨o + p.toNat, by omega, by omega, by rw [List.drop_drop], fun h5 => ?_⟩
 unfold Wx
 rw [if_neg (by omega), h4 (by omega)]
 cases ob with
 | none => rfl
 | some b => simp [Addr.add_lit]
theorem Qu.nil (h : Qu ob base n c xs ys N C) (hc : N ≤ C) (hz : ob = none → C = 0) : base = none → n = 0 := by
 intro hb
 have hle := h.le hc
 obtain ⟨o, h1, h2, rfl, h4⟩ := h.ex
 rcases Nat.eq_zero_or_pos c with h0 | h0
 · omega
 ·
  have := h4 h0
  rw [hb] at this
  cases ob with
  | none => have := hz rfl; omega
  | some b => cases this
theorem Qu.rsM (h : Qu ob base n c xs ys N C) (hi : Inv w0 M w H) (hf : ∀ x, (f x).length = 1) (hp : List.Perm H (Hm ++ R)) (hM : Hm.filterMap (·.1) = M') (hm : (ob, Obj.cells (arr f ys j).toArray T' fr) ∈ R) (hn : ys.length = N) (hc : N ≤ C) (hz : ob = none → C = 0) : RS w M' f 1 base n c xs := by
 have hl := h.len hn
 have hle := h.le hc
 have h9 := h.nil hc hz
 have hr := hi.rsM hf hp hM hm hn hc hz
 obtain ⟨o, h1, h2, rfl, h4⟩ := h.ex
 rcases Nat.eq_zero_or_pos c with h0 | h0
 ·
  have hn0 : n = 0 := by omega
  subst hn0
  have hx : ys.drop o = [] := List.eq_nil_of_length_eq_zero hl
  rw [hx]
  exact ⟨⟨rfl, fun _ => rfl, hf, fun o c h => by simp at h⟩, fun _ _ h => by omega, by omega⟩
 ·
  have h5 := hr.drop (p := (o : Int)) ⟨Int.natCast_nonneg o, by omega⟩
  rw [Int.toNat_natCast] at h5
  unfold Wx at h5
  rw [if_neg (by omega), Nat.mul_one, ← h4 h0, show N - o = n by omega, show C - o = c by omega] at h5
  exact h5
theorem Qu.rs (h : Qu ob base n c xs ys N C) (hi : Inv w0 M w H) (hf : ∀ x, (f x).length = 1) (hm : (ob, Obj.cells (arr f ys j).toArray T' fr) ∈ H) (hn : ys.length = N) (hc : N ≤ C) (hz : ob = none → C = 0) : RS w [] f 1 base n c xs :=
 h.rsM hi hf (Hm := []) (R := H) (List.Perm.refl _) rfl hm hn hc hz
end
section quiet
variable {C : Cx} {ops : Array Oper} {Q : Act → Prop} {l : List Nat} {E : Env} {H R : Heap} {i d : Nat} {ty : TypeId} {pos : String} {af : Array Edge} {g : Option (Nat × Bool)}
end quiet
section rules
variable {C : Cx} {ops : Array Oper} {Q : Exit → Act → World → Prop} {l : List Nat} {E : Env} {H R : Heap} {i d : Nat} {ty : TypeId} {pos : String} {af : Array Edge} {g : Option (Nat × Bool)}
theorem TO.ixQ {α : Type} {xs ys : List α} {ob : Option Nat} {t e : TypeId} {x y : Operand} {base : Option Addr} {n c N K : Nat} {k : IntKind} {p : Int} (hr : Qu ob base n c xs ys N K) (hn : ys.length = N) (hc : N ≤ K) (hz : ob = none → K = 0) (hp : inb p xs.length)
    (q0_ : ops[i]? = some ⟨some d, .indexAddr t x y, ty, pos, af, g⟩ ∧ Zg ops E g = true ∧ Nat.ble (d + 1) C.n = true ∧ ev E x = some (.slice base n c) ∧ ev E y = some (.int k p)) (ht : Zr C.P t = some e) (hs : Zq C.P e = some 1)
    (kk : TO C ops Q l ((d, .pointer (some (ea base (p.toNat * 1)))) :: E) H) : TO C ops Q (i :: l) E H := have ⟨ho, hg, hd, hx, hy⟩ := q0_;
  Z03 ho hg hd hx hy ht hs (hr.nil hc hz) hp.1 (by have := hp.2; rw [hr.len hn] at this; exact this) kk
theorem TO.ldIQ {t T' : TypeId} {x : Operand} {base : Option Addr} {n c N K : Nat} {k : IntKind} {p : Int} {xs ys : List Int} {ob : Option Nat} {j : List Value} {fr : Nat × Nat} (hr : Qu ob base n c xs ys N K) (hn : ys.length = N) (hc : N ≤ K) (hz : ob = none → K = 0) (hp : inb p xs.length)
    (q0_ : ops[i]? = some ⟨some d, .load t x, ty, pos, af, g⟩ ∧ Zg ops E g = true ∧ Nat.ble (d + 1) C.n = true ∧ ev E x = some (.pointer (some (ea base (p.toNat * 1))))) (hT : Yr C.P t = true) (hm : (ob, Obj.cells (arr (intC k) ys j).toArray T' fr) ∈ H)
    (kk : TO C ops Q l ((d, .int k (xs.getD p.toNat 0)) :: E) H) : TO C ops Q (i :: l) E H := have ⟨ho, hg, hd, hx⟩ := q0_;
  TO.load ho hg hd hx hT (fun w hi => by
    have := (hr.rs hi (fun _ => rfl) hm hn hc hz).ro.at 0 (o := p.toNat) (c := 0) (Wv hp) (by omega)
    simpa using this) kk
theorem Z0w {w : World} {n c : Nat} {e : TypeId} (h : n ≤ 4611686018427387904) : grownCap w n c e ≤ 9223372036854775807 := by
 unfold grownCap Question.cut
 have := Nat.mod_lt (w.tape w.drawn (.appendCap n c e)) (show 0 < 2 ^ 63 - n by omega)
 simp only
 omega
theorem Z1x {α : Type} {f : α → List Value} {s by' : Nat} {z : Value} {t e : TypeId} {x y : Operand} {ob : Option Nat} {base : Option Addr} {n c m cy : Nat} {xs ys : List α} {j : List Value}
    (hf : ∀ x, (f x).length = s) (h1 : ∀ x, (f x).all (·.oneCell') = true) (hT : ElemT C.P t e s by' z) (hk : apok (xs ++ ys).length by')
    (q0_ : ops[i]? = some ⟨some d, .call ⟨.builtin .append, #[x, y], #[t, t]⟩, ty, pos, af, g⟩ ∧ Zg ops E g = true ∧ Nat.ble (d + 1) C.n = true ∧ ev E x = some (.slice (sb ob) n c) ∧ ev E y = some (.slice base m cy))
    (ht : Take (ob, .cells (arr f xs j).toArray e (0, 0)) H R) (hn : xs.length = n) (hnc : n ≤ c) (hj : j.length = (c - n) * s) (h0 : ob = none → c = 0) (hcm : c ≤ 9223372036854775807)
    (hsrc : ∀ w, Inv C.w0 C.M w H → RS w [] f s base m cy ys)
    (kk : ∀ (ob' : Option Nat) (c' : Nat) (j' : List Value), n + m ≤ c' → j'.length = (c' - (n + m)) * s → (ob' = none → c' = 0) → c' ≤ 9223372036854775807 → TO C ops Q l ((d, .slice (sb ob') (n + m) c') :: E) ((ob', .cells (arr f (xs ++ ys) j').toArray e (0, 0)) :: R)) :
    TO C ops Q (i :: l) E H := by
  obtain ⟨ho, hg, hd, hx, hy⟩ := q0_
  by_cases hmm : ys.length = m
  case neg =>
    intro a w _ hi
    exact absurd (hsrc w hi).len hmm
  rw [Kk hn hmm] at hk
  obtain ⟨hroom, hmax⟩ := hk
  refine Jc ho hg (by simp) fun a w hfit hi => ?_
  obtain ⟨ti, hti, hsz⟩ := Vh hT.size
  have hu := Xt hT.slice
  have hz' : ti.zero = some z := by have := hT.zero; simpa [Yl, hti] using this
  have hb' : ti.bytes = by' := by have := hT.bytes; simpa [Xi, hti] using this
  have hs := (hsrc w hi).ro
  have hro := hi.roO hf ht.mem hn (fun e => by have := h0 e; omega)
  have hexec : (execOp a.eval ⟨some d, .call ⟨.builtin .append, #[x, y], #[t, t]⟩, ty, pos, af, g⟩).run C.P w = ((Builtin.append_ #[t, t] ty #[.slice (sb ob) n c, .slice base m cy]).run C.P w).andThen fun v w' => .ok (.value v) w' := by
    simp [execOp, resolve, invoke, builtin, hfit.ev hx, hfit.ev hy]
  rw [hexec]
  by_cases hr : n + m ≤ c
  · cases ob with
    | none =>
      have := h0 rfl
      subst this
      have hm0 : m = 0 := by omega
      subst hm0
      have hys : ys = [] := List.eq_nil_of_length_eq_zero hs.len
      subst hys
      have : (Builtin.append_ #[t, t] ty #[.slice none n 0, .slice base 0 cy]).run C.P w = .ok (.slice none n 0) w := by
        have hl := (hs.src hu h1 cy).len w
        have hc := (hs.src hu h1 cy).cells
        have hn0 : n = 0 := by omega
        subst hn0
        simp only [List.flatMap_nil] at hc
        simp [Builtin.append_, run_underlying hu, sizeOf, typeInfo, hti, hl, hsz, hc]
      simp only [sb, Option.map_none, this, Result.andThen_ok]
      refine kk none 0 j (by omega) (by omega) (fun _ => rfl) (by omega) _ _ (hfit.put hd _) ?_
      rw [List.append_nil]
      exact hi.perm ht
    | some b =>
      have hb := hi.own b _ ht.mem
      have hlen : (arr f xs j).length = c * s := by
        simp only [arr, List.length_append, Wu hf, hj, hn]
        rw [← Nat.add_mul]; congr 1; omega
      have hnews : (ys.flatMap f).length = m * s := by rw [Wu hf, hs.len]
      have hfit2 : n * s + (ys.flatMap f).length ≤ (arr f xs j).toArray.size := by
        rw [hnews, List.size_toArray, hlen, ← Nat.add_mul]; exact Nat.mul_le_mul_right s hr
      have hall := (hs.src hu h1 cy).one
      have hcell : ∀ q, q < (ys.flatMap f).length → (w.cell? ⟨b, 0 + n * ti.size + q, none⟩).isSome = true := fun q hq => by
        rw [hsz, Nat.zero_add, hi.cell_own ht.mem, Array.getElem?_eq_getElem (by omega)]; rfl
      have hr2 := run_append_room_src (P := C.P) w t t ty e ti hu hti b 0 n c (.slice base m cy) m (ys.flatMap f) (by rw [hsz]; exact hs.src hu h1 cy) hr hcell (fun q _ => hi.frozen_own ht.mem _)
      rw [hsz, Nat.zero_add, Nd (P := C.P) hb hfit2 hall] at hr2
      simp only [sb, Option.map_some, hr2, Result.andThen_ok]
      refine kk (some b) c (j.drop (m * s)) hr ?_ (by simp) hcm _ _ (hfit.put hd _) ?_
      · rw [List.length_drop, hj, ← Nat.sub_mul]; congr 1; omega
      · have : ((arr f xs j).toArray.toList.take (n * s) ++ ys.flatMap f ++ (arr f xs j).toArray.toList.drop (n * s + (ys.flatMap f).length)).toArray = (arr f (xs ++ ys) (j.drop (m * s))).toArray := by
          have e1 : (xs.flatMap f).length = n * s := by rw [Wu hf, hn]
          simp only [arr, List.flatMap_append]
          rw [hnews]
          congr 1
          rw [← e1, List.take_left', List.drop_append]
          · simp [e1, List.append_assoc, List.drop_eq_nil_of_le (show (xs.flatMap f).length ≤ n * s + m * s by omega)]
          · rfl
        rw [← this]
        exact hi.setRow ht
  · have hold : (Builtin.firstCells ti.size n (.slice (sb ob) n c)).run C.P w.drew = .ok (xs.flatMap f).toArray w.drew := by rw [hsz]; exact hro.drew.first c
    have hg2 := run_append_grow_src (P := C.P) w t t ty e ti z hu hti hz' (sb ob) n c (xs.flatMap f) hold (.slice base m cy) m (ys.flatMap f) (by rw [hsz]; exact hs.src hu h1 cy) (by omega) (by omega) (by
      rw [hb']; exact growslice_fits (by omega) hroom)
    simp only [hg2, Result.andThen_ok]
    have hcap : n + m ≤ grownCap w (n + m) c e := by unfold grownCap Question.cut; simp only; omega
    refine kk (some w.heap.size) (grownCap w (n + m) c e) (Builtin.zeroCells z.cells (grownCap w (n + m) c e - (n + m))).toList hcap (by rw [Array.length_toList, size_zeroCells, hT.zsize]) (by simp) (Z0w hmax) _ _ (hfit.put hd _) ?_
    have e2 : ((xs.flatMap f ++ ys.flatMap f).toArray ++ Builtin.zeroCells z.cells (grownCap w (n + m) c e - (n + m))) = (arr f (xs ++ ys) (Builtin.zeroCells z.cells (grownCap w (n + m) c e - (n + m))).toList).toArray := by
      simp only [arr, List.flatMap_append]
      apply Array.ext'
      simp [List.append_assoc]
    rw [e2]
    have h3 := (hi.perm ht).drew.alloc (Obj.cells (arr f (xs ++ ys) (Builtin.zeroCells z.cells (grownCap w (n + m) c e - (n + m))).toList).toArray e (0, 0))
    exact h3.pick (Z2x (S := [(ob, .cells (arr f xs j).toArray e (0, 0))]) (by
      refine List.Perm.cons _ ?_
      exact (List.perm_append_comm (l₁ := [(ob, Obj.cells (arr f xs j).toArray e (0, 0))]) (l₂ := R))))
end rules
end Go.Acq
namespace Go.Acq
open Go Go.RowKit Go.Proofs Go.Shelf
theorem Z1r (xs : List Int) (i : Nat) : (xs.flatMap (intC .i64)).drop i = (xs.drop i).flatMap (intC .i64) := by
 induction xs generalizing i with
 | nil => simp
 | cons x xs ih => cases i with
  | zero => rfl
  | succ i => simpa [intC] using ih i
theorem Z5h (xs : List Int) (i : Nat) : (xs.flatMap (intC .i64)).take i = (xs.take i).flatMap (intC .i64) := by
 induction xs generalizing i with
 | nil => simp
 | cons x xs ih => cases i with
  | zero => rfl
  | succ i => simpa [intC] using ih i
theorem Vf (xs : List Int) : (xs.flatMap (intC .i64)).length = xs.length := by rw [Wu (s := 1) (fun _ => rfl)]; omega
theorem Z2d (xs : List Int) : ∀ v, v ∈ xs.flatMap (intC .i64) → v.oneCell' = true := by
 intro v hv
 obtain ⟨x, _, hx⟩ := List.mem_flatMap.1 hv
 have : v = .int .i64 x := by simpa [intC] using hx
 rw [this]; rfl
section
variable {P : Program} {ρ : Ren} {w w0 : World} {M : List Nat} {H R : Heap} {b : Nat} {T : TypeId} {cs : Array Value}
theorem Inv.setCells (P : Program) (h : Inv w0 M w H) (ht : Take (some b, .cells cs T (0, 0)) H R) {o : Nat} {vs : List Value} (hfit : o + vs.length ≤ cs.size) (h1 : ∀ u, u ∈ vs → u.oneCell' = true) :
    Inv w0 M (w.setCells b o vs) ((some b, .cells (cs.toList.take o ++ vs ++ cs.toList.drop (o + vs.length)).toArray T (0, 0)) :: R) := by
  rw [Nd (P := P) (h.own _ _ ht.mem) hfit h1]
  exact h.setRow ht
theorem Z2b (h : Inv w0 M w H) (hm : (some b, .cells cs T (0, 0)) ∈ H) : w.shape? b = some (T, cs.size) := by
 have := h.own _ _ hm
 simp [World.shape?, this]
theorem Z36 (ys : List Int) (j : List Value) : (arr (intC .i64) ys j).toArray.size = ys.length + j.length := by
 rw [List.size_toArray, arr, List.length_append, Vf]
theorem ins_list {α : Type} (A B D j U : List α) {o i m k : Nat} (hA : A.length = o) (hB : B.length = i) (hU : U.length = m) (hk : k = o + i) (hm : m ≤ j.length) :
    ((((A ++ B) ++ (D ++ j)).take (k + m) ++ D ++ ((A ++ B) ++ (D ++ j)).drop (k + m + D.length)).take k ++ U ++ (((A ++ B) ++ (D ++ j)).take (k + m) ++ D ++ ((A ++ B) ++ (D ++ j)).drop (k + m + D.length)).drop (k + U.length))
    = (A ++ B) ++ U ++ (D ++ j.drop m) := by
  have hAB : (A ++ B).length = k := by rw [List.length_append]; omega
  have h1 : ((A ++ B) ++ (D ++ j)).take (k + m) = (A ++ B) ++ (D ++ j).take m := by
    rw [List.take_append, List.take_of_length_le (by omega), hAB, Nat.add_sub_cancel_left]
  have h2 : ((A ++ B) ++ (D ++ j)).drop (k + m + D.length) = j.drop m := by
    rw [List.drop_append, List.drop_eq_nil_of_le (by omega), List.nil_append, hAB, show k + m + D.length - k = D.length + m by omega, List.drop_append, List.drop_eq_nil_of_le (by omega), List.nil_append, Nat.add_sub_cancel_left]
  have h3 : ((D ++ j).take m).length = m := by rw [List.length_take, List.length_append]; omega
  rw [h1, h2]
  generalize (D ++ j).take m = t at h3
  generalize j.drop m = j'
  generalize A ++ B = X at hAB ⊢
  have hY : X ++ t ++ D ++ j' = X ++ (t ++ (D ++ j')) := by simp only [List.append_assoc]
  rw [hY, List.take_left' hAB, List.drop_append, List.drop_eq_nil_of_le (by omega), List.nil_append, hAB, hU, Nat.add_sub_cancel_left, List.drop_left' h3]
theorem ins_grow {α : Type} (A D Z Z' U : List α) {p m : Nat} (hA : A.length = p) (hU : U.length = m) (hZ : Z.length = m + D.length) :
    ((A ++ Z ++ Z').take p ++ U ++ (A ++ Z ++ Z').drop (p + U.length)).take (p + m) ++ D ++ ((A ++ Z ++ Z').take p ++ U ++ (A ++ Z ++ Z').drop (p + U.length)).drop (p + m + D.length) = A ++ U ++ D ++ Z' := by
  have h1 : (A ++ Z ++ Z').take p = A := by rw [List.append_assoc, List.take_left' hA]
  have h2 : (A ++ Z ++ Z').drop (p + U.length) = (Z ++ Z').drop m := by
    rw [List.append_assoc, List.drop_append, List.drop_eq_nil_of_le (by omega), List.nil_append, hA, hU, Nat.add_sub_cancel_left]
  have hAU : (A ++ U).length = p + m := by rw [List.length_append]; omega
  rw [h1, h2, List.take_left' hAU, List.drop_append, List.drop_eq_nil_of_le (by omega), List.nil_append, hAU, Nat.add_sub_cancel_left, List.drop_drop, List.drop_left' hZ]
theorem Z4u {ys : List Int} {j : List Value} {o i m : Nat} {us : List Int} (ho : o + i ≤ ys.length) (hm : us.length = m) (hj : m ≤ j.length) :
    (((arr (intC .i64) ys j).take (o + (i + m)) ++ ((ys.drop o).flatMap (intC .i64)).drop i ++ (arr (intC .i64) ys j).drop (o + (i + m) + (((ys.drop o).flatMap (intC .i64)).drop i).length)).take (o + i) ++ us.flatMap (intC .i64) ++
      ((arr (intC .i64) ys j).take (o + (i + m)) ++ ((ys.drop o).flatMap (intC .i64)).drop i ++ (arr (intC .i64) ys j).drop (o + (i + m) + (((ys.drop o).flatMap (intC .i64)).drop i).length)).drop (o + i + (us.flatMap (intC .i64)).length))
    = arr (intC .i64) (ys.take o ++ ((ys.drop o).take i ++ us ++ (ys.drop o).drop i)) (j.drop m) := by
  have hY : arr (intC .i64) ys j = ((ys.take o).flatMap (intC .i64) ++ ((ys.drop o).take i).flatMap (intC .i64)) ++ (((ys.drop o).drop i).flatMap (intC .i64) ++ j) := by
    show ys.flatMap (intC .i64) ++ j = _
    rw [← List.append_assoc, ← List.flatMap_append, ← List.flatMap_append, List.append_assoc, List.take_append_drop, List.take_append_drop]
  rw [Z1r, hY, ← Nat.add_assoc]
  have := ins_list ((ys.take o).flatMap (intC .i64)) (((ys.drop o).take i).flatMap (intC .i64)) (((ys.drop o).drop i).flatMap (intC .i64)) j (us.flatMap (intC .i64)) (o := o) (i := i) (m := m) (k := o + i)
    (by rw [Vf, List.length_take]; omega) (by rw [Vf, List.length_take, List.length_drop]; omega) (by rw [Vf, hm]) rfl hj
  rw [this]
  simp only [arr, List.flatMap_append, List.append_assoc]
def InsP (T : TypeId) (r us : List Int) (b2 : Nat) (j2 : List Value) (v : Value) (N : Heap) : Prop :=
  ∃ (base' : Option Addr) (n' c' : Nat) (ob' : Option Nat) (N' C' : Nat) (ys' : List Int) (j' : List Value), v = .slice base' n' c' ∧
    N = [(ob', .cells (arr (intC .i64) ys' j').toArray T (0, 0)), (some b2, .cells (arr (intC .i64) us j2).toArray T (0, 0))] ∧ Qu ob' base' n' c' r ys' N' C' ∧ ys'.length = N' ∧ N' ≤ C' ∧ j'.length = (C' - N') * 1 ∧ (ob' = none → C' = 0) ∧ C' ≤ 9223372036854775807
theorem Z2o {xs : List Int} {n : Nat} {base : Option Addr} (h : RO w (intC .i64) 1 base n xs) {a : Addr} (ha : base = some a) : ∀ j v, (xs.flatMap (intC .i64))[j]? = some v → w.cell? (a.add j) = some v := by
 intro j v hj
 have := h.cells j v hj
 rw [ha] at this
 exact this
theorem Z49 (L : Lays2.n21 P ρ) (w : World) {M : List Nat} {ob : Option Nat} {base : Option Addr} {n c N C : Nat} {xs ys : List Int} {j : List Value} {i : Int} {us : List Int} {b2 c2 : Nat} {j2 : List Value} {r : List Int}
    (hin : Inv w M w [(ob, .cells (arr (intC .i64) ys j).toArray (ρ.t 3) (0, 0)), (some b2, .cells (arr (intC .i64) us j2).toArray (ρ.t 3) (0, 0))])
    (hQ : Qu ob base n c xs ys N C) (hn : ys.length = N) (hc : N ≤ C) (hj : j.length = (C - N) * 1) (hz : ob = none → C = 0) (hC : C ≤ 9223372036854775807)
    (hi0 : 0 ≤ i) (hi1 : i ≤ (xs.length : Int)) (hm : 0 < us.length) (hap : apok (xs ++ us).length 8) (hr9 : r = xs.take i.toNat ++ us ++ xs.drop i.toNat) :
    Fnc P (ρ.f 21) #[.slice base n c, .int .i64 i, .slice (some ⟨b2, 0, none⟩) us.length c2] w M (InsP (ρ.t 3) r us b2 j2) := by
  subst hr9
  have hl := hQ.len hn
  have hle := hQ.le hc
  have hnil := hQ.nil hc hz
  have hR := hQ.rs hin (fun _ => rfl) (.head _) hn hc hz
  obtain ⟨p, rfl⟩ : ∃ p : Nat, i = (p : Int) := ⟨i.toNat, (Int.toNat_of_nonneg hi0).symm⟩
  rw [Int.toNat_natCast]
  rw [List.length_append] at hap
  obtain ⟨hap1, hap2⟩ := hap
  have hm2 : (some b2, Obj.cells (arr (intC .i64) us j2).toArray (ρ.t 3) (0, 0)) ∈ [(ob, Obj.cells (arr (intC .i64) ys j).toArray (ρ.t 3) (0, 0)), (some b2, Obj.cells (arr (intC .i64) us j2).toArray (ρ.t 3) (0, 0))] := .tail _ (.head _)
  have hvs : ∀ q v, (us.flatMap (intC .i64))[q]? = some v → w.cell? ⟨b2, 0 + q, none⟩ = some v := fun q v hq => by
    rw [Nat.zero_add, hin.cell_own hm2]
    rw [List.getElem?_toArray, arr, List.getElem?_append_left (List.getElem?_eq_some_iff.1 hq).1]; exact hq
  have hcl := Vf xs
  have hvl := Vf us
  have h1c := Z2d xs
  have h1v := Z2d us
  by_cases hend : p = n
  · subst hend
    by_cases hr : p + us.length ≤ c
    · -- there is room at the end
      obtain ⟨o, ho1, ho2, rfl, ho4⟩ := hQ.ex
      have hb := ho4 (by omega)
      cases ob with
      | none => have := hz rfl; omega
      | some b =>
        simp only [sb, Option.map_some, Addr.add_lit, Nat.zero_add] at hb
        subst hb
        have hhd : (some b, Obj.cells (arr (intC .i64) ys j).toArray (ρ.t 3) (0, 0)) ∈ [(some b, Obj.cells (arr (intC .i64) ys j).toArray (ρ.t 3) (0, 0)), (some b2, Obj.cells (arr (intC .i64) us j2).toArray (ρ.t 3) (0, 0))] := .head _
        have hsz := Z36 ys j
        refine Calls.mono (Any2.slices_Insert_int_end_room L b o p c b2 0 us.length c2 (us.flatMap (intC .i64)) w hm hr (by omega) hvl (fun q hq => ?_) (fun q _ => hin.frozen_own hhd _) hvs h1v) ?_
        · rw [hin.cell_own hhd, Array.getElem?_eq_getElem (by rw [hsz]; omega)]; rfl
        · rintro e w' ⟨rfl, rfl⟩
          have h5 := hin.setCells P (Take.head _ _) (o := o + p) (vs := us.flatMap (intC .i64)) (by rw [hsz, hvl]; omega) h1v
          refine ⟨_, _, ⟨some ⟨b, o, none⟩, p + us.length, c, some b, N + us.length, C, ys ++ us, j.drop us.length, rfl, rfl, ⟨o, by omega, by omega, ?_, fun _ => by simp [sb, Addr.add_lit]⟩, by rw [List.length_append]; omega, by omega, by rw [List.length_drop]; omega, (fun e => by cases e), hC⟩, rfl, ?_⟩
          · rw [List.take_of_length_le (by omega), List.drop_eq_nil_of_le (show (ys.drop o).length ≤ p by omega), List.append_nil, List.drop_append_of_le_length (by omega)]
          · have e1 : ((arr (intC .i64) ys j).toArray.toList.take (o + p) ++ us.flatMap (intC .i64) ++ (arr (intC .i64) ys j).toArray.toList.drop (o + p + (us.flatMap (intC .i64)).length)).toArray = (arr (intC .i64) (ys ++ us) (j.drop us.length)).toArray := by
              have e2 := Vf ys
              simp only [arr, List.flatMap_append]
              rw [hvl, List.take_left' (by omega), List.drop_append, List.drop_eq_nil_of_le (by omega), List.nil_append, e2, show o + p + us.length - ys.length = us.length by omega]
            rw [← e1]; exact h5
    · -- a new row
      refine Calls.mono (Any2.slices_Insert_int_end_grow L base p c b2 0 us.length c2 (xs.flatMap (intC .i64)) (us.flatMap (intC .i64)) w hm hle (by omega) (by omega) (by omega) hvl hnil (fun a ha => Z2o hR.ro ha) hvs h1v) ?_
      rintro e w' ⟨rfl, rfl⟩
      have hcap : p + us.length ≤ grownCap w (p + us.length) c (ρ.t 3) := by unfold grownCap Question.cut; simp only; omega
      refine ⟨_, _, ⟨_, p + us.length, grownCap w (p + us.length) c (ρ.t 3), some w.heap.size, p + us.length, grownCap w (p + us.length) c (ρ.t 3), xs ++ us, (Builtin.zeroCells (Value.int .i64 0).cells (grownCap w (p + us.length) c (ρ.t 3) - (p + us.length))).toList, rfl, rfl, ?_, by rw [List.length_append]; omega, hcap, by rw [Array.length_toList, size_zeroCells]; rfl, (fun e => by cases e), Z0w (by omega)⟩, rfl, ?_⟩
      · rw [List.take_of_length_le (by omega), List.drop_eq_nil_of_le (by omega), List.append_nil]
        exact Qu.self (some w.heap.size) (xs ++ us) _ _
      · have e2 : ((xs.flatMap (intC .i64) ++ us.flatMap (intC .i64)).toArray ++ Builtin.zeroCells (Value.int .i64 0).cells (grownCap w (p + us.length) c (ρ.t 3) - (p + us.length))) = (arr (intC .i64) (xs ++ us) (Builtin.zeroCells (Value.int .i64 0).cells (grownCap w (p + us.length) c (ρ.t 3) - (p + us.length))).toList).toArray := by
          simp only [arr, List.flatMap_append]
          apply Array.ext'
          simp [List.append_assoc]
        rw [e2]
        exact (hin.drew.alloc _).pick (Zc (Take.head _ _) (Zc (Take.tail (Take.head _ _)) Zf))
  · have hpn : p < n := by omega
    obtain ⟨o, ho1, ho2, rfl, ho4⟩ := hQ.ex
    have hb := ho4 (by omega)
    cases ob with
    | none => have := hz rfl; omega
    | some b =>
      simp only [sb, Option.map_some, Addr.add_lit, Nat.zero_add] at hb
      subst hb
      have hhd : (some b, Obj.cells (arr (intC .i64) ys j).toArray (ρ.t 3) (0, 0)) ∈ [(some b, Obj.cells (arr (intC .i64) ys j).toArray (ρ.t 3) (0, 0)), (some b2, Obj.cells (arr (intC .i64) us j2).toArray (ρ.t 3) (0, 0))] := .head _
      have hsz := Z36 ys j
      have hcs : ∀ q v, ((ys.drop o).flatMap (intC .i64))[q]? = some v → w.cell? ⟨b, o + q, none⟩ = some v := fun q v hq => by
        have := Z2o hR.ro rfl q v hq
        rwa [Addr.add_lit] at this
      have hbb : b2 ≠ b := by
        have := hin.apart
        simp only [List.filterMap_cons, List.filterMap_nil, List.nodup_cons, List.mem_singleton] at this
        exact fun e => this.1 e.symm
      by_cases hr : n + us.length ≤ c
      · refine Calls.mono (Any2.slices_Insert_int_shift L b o n c p b2 0 us.length c2 ((ys.drop o).flatMap (intC .i64)) (us.flatMap (intC .i64)) w hpn hm hr (by omega) hbb (by rw [Vf]; exact hl) hvl hcs (fun q hq => ?_) (fun q _ => hin.frozen_own hhd _) hvs h1c h1v _ _ _ _ (Z2b hin hm2) (Z2b hin hhd) (by rw [hsz]; omega) (hin.frozen_own hm2 _) (hin.frozen_own hm2 _)) ?_
        · rw [hin.cell_own hhd, Array.getElem?_eq_getElem (by rw [hsz]; omega)]; rfl
        · rintro e w' ⟨rfl, rfl⟩
          have hdl : (((ys.drop o).flatMap (intC .i64)).drop p).length = n - p := by rw [List.length_drop, Vf]; omega
          have h5 := hin.drew.setCells P (Take.head _ _) (o := o + (p + us.length)) (vs := ((ys.drop o).flatMap (intC .i64)).drop p) (by rw [hsz, hdl]; omega) (fun v hv => h1c v (List.mem_of_mem_drop hv))
          have hsz2 : (arr (intC .i64) ys j).toArray.toList.length = ys.length + j.length := by rw [Array.length_toList]; exact hsz
          have h6 := h5.setCells P (Take.head _ _) (o := o + p) (vs := us.flatMap (intC .i64)) (by
            rw [List.size_toArray, List.length_append, List.length_append, List.length_take, hdl, hvl, List.length_drop, hsz2]; omega) h1v
          refine ⟨_, _, ⟨some ⟨b, o, none⟩, n + us.length, c, some b, N + us.length, C, ys.take o ++ ((ys.drop o).take p ++ us ++ (ys.drop o).drop p), j.drop us.length, rfl, rfl, ⟨o, by omega, by omega, ?_, fun _ => by simp [sb, Addr.add_lit]⟩, ?_, by omega, by rw [List.length_drop]; omega, (fun e => by cases e), hC⟩, rfl, ?_⟩
          · rw [List.drop_left' (by rw [List.length_take]; omega)]
          · simp only [List.length_append, List.length_take, List.length_drop]; omega
          · rw [← Z4u (by omega) rfl (by omega)]
            exact h6
      · refine Calls.mono (Any2.slices_Insert_int_grow L b o n c p b2 0 us.length c2 ((ys.drop o).flatMap (intC .i64)) (us.flatMap (intC .i64)) w hpn hm hle (by omega) (by omega) (by rw [Vf]; exact hl) hvl hcs hvs h1c h1v) ?_
        rintro e w' ⟨rfl, rfl⟩
        have hcap : n + us.length ≤ grownCap w (n + us.length) c (ρ.t 3) := by unfold grownCap Question.cut; simp only; omega
        obtain ⟨G, hG⟩ : ∃ G, G = grownCap w (n + us.length) c (ρ.t 3) := ⟨_, rfl⟩
        have hGm : G ≤ 9223372036854775807 := by rw [hG]; exact Z0w (by omega)
        rw [← hG] at hcap ⊢
        have hzl : ∀ k, (Builtin.zeroCells (Value.int .i64 0).cells k).toList.length = k := fun k => by rw [Array.length_toList, size_zeroCells]; exact Nat.mul_one k
        have hdl : (((ys.drop o).flatMap (intC .i64)).drop p).length = n - p := by rw [List.length_drop, Vf]; omega
        have htl : (((ys.drop o).flatMap (intC .i64)).take p).length = p := by rw [List.length_take, Vf]; omega
        have h0 := hin.alloc (.cells ((((ys.drop o).flatMap (intC .i64)).take p).toArray ++ Builtin.zeroCells (Value.int .i64 0).cells (n + us.length - p) ++ Builtin.zeroCells (Value.int .i64 0).cells (G - (n + us.length))) (ρ.t 3))
        have hsz0 : ((((ys.drop o).flatMap (intC .i64)).take p).toArray ++ Builtin.zeroCells (Value.int .i64 0).cells (n + us.length - p) ++ Builtin.zeroCells (Value.int .i64 0).cells (G - (n + us.length))).size = p + (n + us.length - p) + (G - (n + us.length)) := by
          rw [Array.size_append, Array.size_append, List.size_toArray, htl, size_zeroCells, size_zeroCells]
          show p + _ * 1 + _ * 1 = _
          rw [Nat.mul_one, Nat.mul_one]
        have h1 := h0.drew.setCells P (Take.head _ _) (o := p) (vs := us.flatMap (intC .i64)) (by rw [hsz0, hvl]; omega) h1v
        have h2 := h1.drew.setCells P (Take.head _ _) (o := p + us.length) (vs := ((ys.drop o).flatMap (intC .i64)).drop p) (by
          have hs0 : ((((ys.drop o).flatMap (intC .i64)).take p).toArray ++ Builtin.zeroCells (Value.int .i64 0).cells (n + us.length - p) ++ Builtin.zeroCells (Value.int .i64 0).cells (G - (n + us.length))).toList.length = p + (n + us.length - p) + (G - (n + us.length)) := by rw [Array.length_toList]; exact hsz0
          rw [List.size_toArray, List.length_append, List.length_append, List.length_take, hdl, hvl, List.length_drop, hs0]; omega) (fun v hv => h1c v (List.mem_of_mem_drop hv))
        refine ⟨_, _, ⟨_, n + us.length, G, some w.heap.size, n + us.length, G, (ys.drop o).take p ++ us ++ (ys.drop o).drop p, (Builtin.zeroCells (Value.int .i64 0).cells (G - (n + us.length))).toList, rfl, rfl, Qu.self (some w.heap.size) _ _ _, ?_, hcap, by rw [hzl]; omega, (fun e => by cases e), hGm⟩, rfl, ?_⟩
        · simp only [List.length_append, List.length_take, List.length_drop]; omega
        · have key := ins_grow (((ys.drop o).flatMap (intC .i64)).take p) (((ys.drop o).flatMap (intC .i64)).drop p) (Builtin.zeroCells (Value.int .i64 0).cells (n + us.length - p)).toList (Builtin.zeroCells (Value.int .i64 0).cells (G - (n + us.length))).toList (us.flatMap (intC .i64)) (p := p) (m := us.length) htl hvl (by rw [hzl, hdl]; omega)
          have e1 : (arr (intC .i64) ((ys.drop o).take p ++ us ++ (ys.drop o).drop p) (Builtin.zeroCells (Value.int .i64 0).cells (G - (n + us.length))).toList) = ((ys.drop o).flatMap (intC .i64)).take p ++ us.flatMap (intC .i64) ++ ((ys.drop o).flatMap (intC .i64)).drop p ++ (Builtin.zeroCells (Value.int .i64 0).cells (G - (n + us.length))).toList := by
            rw [Z5h, Z1r]; simp only [arr, List.flatMap_append]
          rw [e1, ← key]
          have e3 : ((((ys.drop o).flatMap (intC .i64)).take p).toArray ++ Builtin.zeroCells (Value.int .i64 0).cells (n + us.length - p) ++ Builtin.zeroCells (Value.int .i64 0).cells (G - (n + us.length))).toList = ((ys.drop o).flatMap (intC .i64)).take p ++ (Builtin.zeroCells (Value.int .i64 0).cells (n + us.length - p)).toList ++ (Builtin.zeroCells (Value.int .i64 0).cells (G - (n + us.length))).toList := by simp
          rw [e3] at h2
          exact h2.pick (Zc (Take.head _ _) (Zc (Take.tail (Take.head _ _)) Zf))
end
end Go.Acq
namespace Go.Acq
open Go Go.RowKit
section
variable {C : Cx} {ops : Array Oper} {Q : Exit → Act → World → Prop} {E : Env} {H : Heap}
end
end Go.Acq
namespace Go.Acq
open Go Go.RowKit
structure RowB where
  ob : Option Nat
  xs : List Int
  n : Nat
  c : Nat
  j : List Value
instance : Inhabited RowB := ⟨⟨none, [], 0, 0, []⟩⟩
def RowB.ok (r : RowB) : Prop := r.xs.length = r.n ∧ r.n ≤ r.c ∧ r.j.length = (r.c - r.n) * 1 ∧ (r.ob = none → r.c = 0)
def RowB.sm (r : RowB) : SM := (sb r.ob, r.n, r.c)
def RowB.ent (T : TypeId) (r : RowB) : Option Nat × Obj := (r.ob, .cells (arr (intC .i64) r.xs r.j).toArray T (0, 0))
def Yy (T : TypeId) (L : List RowB) : Heap := L.map (RowB.ent T)
structure Fam (L : List RowB) (xss : List (List Int)) (n : Nat) : Prop where
  xs : L.map RowB.xs = xss
  ok : ∀ r, r ∈ L → r.ok
  len : xss.length = n
theorem Z5v {ob : Option Nat} {xs : List Int} {n c : Nat} {j : List Value} (h1 : xs.length = n) (h2 : n ≤ c) (h3 : j.length = (c - n) * 1) (h4 : ob = none → c = 0) : RowB.ok ⟨ob, xs, n, c, j⟩ := ⟨h1, h2, h3, h4⟩
theorem RowB.ok0 : (default : RowB).ok := ⟨rfl, Nat.le_refl _, rfl, fun _ => rfl⟩
theorem Fam.replicate (n : Nat) : Fam (List.replicate n default) (List.replicate n []) n :=
 ⟨by rw [List.map_replicate]; rfl, fun r hr => by rw [(List.mem_replicate.1 hr).2]; exact RowB.ok0, List.length_replicate⟩
theorem Fam.lenL {L : List RowB} {xss : List (List Int)} {n : Nat} (h : Fam L xss n) : L.length = n := by rw [← h.len, ← h.xs, List.length_map]
theorem Fam.set {L : List RowB} {xss : List (List Int)} {n p : Nat} {r : RowB} (h : Fam L xss n) (hr : r.ok) : Fam (L.set p r) (xss.set p r.xs) n :=
 ⟨by rw [List.map_set, h.xs], fun q hq => by
  rcases List.mem_or_eq_of_mem_set hq with h1 | rfl
  · exact h.ok q h1
  · exact hr, by rw [List.length_set]; exact h.len⟩
theorem Z1m {T : TypeId} : ∀ {L : List RowB} {p : Nat} (hp : p < L.length), List.Perm (Yy T L) ((L.getD p default).ent T :: Yy T (L.eraseIdx p))
 | [], p, h => by simp at h
 | r :: L, 0, _ => List.Perm.refl _
 | r :: L, p + 1, h => by
  have := Z1m (T := T) (L := L) (p := p) (by simpa using h)
  exact (List.Perm.cons _ this).trans (List.Perm.swap _ _ _)
theorem Z34 {T : TypeId} {r : RowB} : ∀ {L : List RowB} {p : Nat} (hp : p < L.length), List.Perm (Yy T (L.set p r)) (r.ent T :: Yy T (L.eraseIdx p))
 | [], p, h => by simp at h
 | q :: L, 0, _ => List.Perm.refl _
 | q :: L, p + 1, h => by
  have := Z34 (T := T) (r := r) (L := L) (p := p) (by simpa using h)
  exact (List.Perm.cons _ this).trans (List.Perm.swap _ _ _)
theorem Z60 {T : TypeId} {n : Nat} : ∀ x, x ∈ Yy T (List.replicate n default) → x.1 = none := by
 intro x hx
 obtain ⟨r, hr, rfl⟩ := List.mem_map.1 hx
 rw [(List.mem_replicate.1 hr).2]; rfl
section
variable {C : Cx} {Q : Exit → Act → World → Prop} {E : Env} {H : Heap} {e : Exit} {code : Code}
theorem X.addFam {T T2 : TypeId} {bo n : Nat} {Es : Heap} (hT : Take (some bo, .cells (arr Yo (List.replicate n (default : SM)) []).toArray T2 (0, 0)) H Es)
    (h : X C Q e E ((some bo, .cells (arr Yo ((List.replicate n (default : RowB)).map RowB.sm) []).toArray T2 (0, 0)) :: (Es ++ Yy T (List.replicate n default)))) : X C Q e E H := fun a w hf hi => h a w hf (by
  rw [List.map_replicate]
  exact (hi.perm hT).nones Z60)
theorem Z4e {T : TypeId} {L : List RowB} {xss : List (List Int)} {n p : Nat} {Es : Heap} (hF : Fam L xss n) (hp : p < xss.length) (hH : H = Es ++ Yy T L)
    (h : ∀ (ob : Option Nat) (m c : Nat) (j : List Value), (xss.getD p []).length = m → m ≤ c → j.length = (c - m) * 1 → (ob = none → c = 0) → (L.map RowB.sm).getD p default = (sb ob, m, c) →
      Acq.T C code Q E ((ob, .cells (arr (intC .i64) (xss.getD p []) j).toArray T (0, 0)) :: (Es ++ Yy T (L.eraseIdx p)))) : Acq.T C code Q E H := by
  subst hH
  have hpl : p < L.length := by rw [hF.lenL, ← hF.len]; exact hp
  have hm : L.getD p default ∈ L := by rw [List.getD_eq_getElem?_getD, List.getElem?_eq_getElem hpl]; exact List.getElem_mem hpl
  obtain ⟨o1, o2, o3, o4⟩ := hF.ok _ hm
  have hx : xss.getD p [] = (L.getD p default).xs := by
    rw [← hF.xs, List.getD_eq_getElem?_getD, List.getElem?_map, List.getElem?_eq_getElem hpl, List.getD_eq_getElem?_getD, List.getElem?_eq_getElem hpl]; rfl
  have hs : (L.map RowB.sm).getD p default = (L.getD p default).sm := by
    rw [List.getD_eq_getElem?_getD, List.getElem?_map, List.getElem?_eq_getElem hpl, List.getD_eq_getElem?_getD, List.getElem?_eq_getElem hpl]; rfl
  intro a w hf hi
  refine h (L.getD p default).ob (L.getD p default).n (L.getD p default).c (L.getD p default).j (by rw [hx]; exact o1) o2 o3 o4 hs a w hf (hi.perm ?_)
  rw [hx]
  exact (List.Perm.append_left Es (Z1m hpl)).trans List.perm_middle
theorem Z3o {T T2 : TypeId} {L : List RowB} {xss : List (List Int)} {n p bo : Nat} {r : RowB} {Es : Heap} (hF : Fam L xss n) (hp : p < xss.length)
    (hH : Pick (r.ent T :: (some bo, .cells (arr Yo ((L.map RowB.sm).set p r.sm) []).toArray T2 (0, 0)) :: (Es ++ Yy T (L.eraseIdx p))) H)
    (h : X C Q e E ((some bo, .cells (arr Yo ((L.set p r).map RowB.sm) []).toArray T2 (0, 0)) :: (Es ++ Yy T (L.set p r)))) : X C Q e E H := fun a w hf hi => h a w hf (by
  have hpl : p < L.length := by rw [hF.lenL, ← hF.len]; exact hp
  rw [List.map_set]
  refine (hi.pick hH).perm ?_
  refine (List.Perm.swap _ _ _).trans (List.Perm.cons _ ?_)
  exact List.perm_middle.symm.trans (List.Perm.append_left Es (Z34 hpl).symm))
def Reb (w0 : World) (M : List Nat) (w1 : World) (M1 : List Nat) : Prop := ∀ w N, Inv w1 M1 w N → Inv w0 M w N
theorem Inv.reb {w0 w : World} {M : List Nat} {Es R : Heap} (h : Inv w0 M w (Es ++ R)) : Reb w0 M w (Es.filterMap Prod.fst) := by
 intro w' N g
 have := (h.left).join (Hm := Es) (R := []) (M' := Es.filterMap Prod.fst) (by simp) (fun m hm => hm) g
 simpa using this
theorem Z5m {L : List RowB} {i : Nat} (h : i < L.length) : (L.map RowB.sm).getD i default = (L.getD i default).sm := by
 rw [List.getD_eq_getElem?_getD, List.getElem?_map, List.getElem?_eq_getElem h, List.getD_eq_getElem?_getD, List.getElem?_eq_getElem h]; rfl
theorem Inv.rw_ {w0 w : World} {M : List Nat} {Es : Heap} {T T2 : TypeId} {L : List RowB} {xss : List (List Int)} {n bo : Nat} (hF : Fam L xss n) (h : Inv w0 M w (Es ++ ((some bo, .cells (arr Yo (L.map RowB.sm) []).toArray T2 (0, 0)) :: Yy T L))) :
    RW w (Es.filterMap Prod.fst) (intC .i64) 1 (some ⟨bo, 0, none⟩) n n (L.map RowB.sm) xss := by
  refine ⟨h.rsM (f := Yo) (s := 1) (ob := some bo) (fun _ => rfl) (List.Perm.refl _) rfl (.head _) (by rw [List.length_map]; exact hF.lenL) (Nat.le_refl _) (fun e => by cases e), by rw [List.length_map, hF.lenL, hF.len], fun i hi => ?_⟩
  rw [List.length_map] at hi
  have hm : L.getD i default ∈ L := by rw [List.getD_eq_getElem?_getD, List.getElem?_eq_getElem hi]; exact List.getElem_mem hi
  have hx : xss.getD i [] = (L.getD i default).xs := by
    rw [← hF.xs, List.getD_eq_getElem?_getD, List.getElem?_map, List.getElem?_eq_getElem hi, List.getD_eq_getElem?_getD, List.getElem?_eq_getElem hi]; rfl
  obtain ⟨o1, o2, o3, o4⟩ := hF.ok _ hm
  rw [Z5m hi, hx]
  exact h.rsM (f := intC .i64) (s := 1) (T' := T) (j := (L.getD i default).j) (fr := (0, 0)) (fun _ => rfl) (List.Perm.refl _) rfl (.tail _ (List.mem_map.2 ⟨_, hm, rfl⟩)) o1 o2 o4
theorem Z4p {ops : Array Oper} {l : List Nat} {T T2 : TypeId} {L : List RowB} {xss : List (List Int)} {n bo : Nat} {Es Ns R : Heap} (hF : Fam L xss n) (hH : H = Ns ++ (Yy T L ++ R))
    (hP : Pick (Es ++ [(some bo, .cells (arr Yo (L.map RowB.sm) []).toArray T2 (0, 0))]) (Ns ++ R))
    (h : ∀ w, Inv C.w0 C.M w (Es ++ ((some bo, .cells (arr Yo (L.map RowB.sm) []).toArray T2 (0, 0)) :: Yy T L)) → Reb C.w0 C.M w (Es.filterMap Prod.fst) → RW w (Es.filterMap Prod.fst) (intC .i64) 1 (some ⟨bo, 0, none⟩) n n (L.map RowB.sm) xss →
      TO ⟨C.P, C.ρ, C.n, C.D, w, Es.filterMap Prod.fst⟩ ops Q l E Es) : TO C ops Q l E H := by
  subst hH
  intro a w hf hi
  have h1 : Inv C.w0 C.M w (Es ++ ((some bo, .cells (arr Yo (L.map RowB.sm) []).toArray T2 (0, 0)) :: Yy T L)) := by
    obtain ⟨S, ns, hn, hS⟩ := hP
    have h2 : List.Perm (Ns ++ (Yy T L ++ R)) ((Ns ++ R) ++ Yy T L) := by
      rw [List.append_assoc]; exact List.Perm.append_left Ns List.perm_append_comm
    have h3 := (hi.perm h2).nones hn
    have h4 : List.Perm (((Ns ++ R) ++ Yy T L) ++ ns) ((Es ++ ((some bo, .cells (arr Yo (L.map RowB.sm) []).toArray T2 (0, 0)) :: Yy T L)) ++ S) := by
      have h5 : List.Perm (((Ns ++ R) ++ Yy T L) ++ ns) (((Ns ++ R) ++ ns) ++ Yy T L) := by
        rw [List.append_assoc (Ns ++ R), List.append_assoc (Ns ++ R)]; exact List.Perm.append_left _ List.perm_append_comm
      refine h5.trans ((List.Perm.append_right _ hS).trans ?_)
      have h6 : ((Es ++ [(some bo, Obj.cells (arr Yo (L.map RowB.sm) []).toArray T2 (0, 0))]) ++ S) ++ Yy T L = Es ++ ([(some bo, Obj.cells (arr Yo (L.map RowB.sm) []).toArray T2 (0, 0))] ++ (S ++ Yy T L)) := by simp only [List.append_assoc]
      rw [h6, List.append_assoc]
      exact List.Perm.append_left _ (List.Perm.cons _ (List.perm_append_comm (l₁ := S) (l₂ := Yy T L)))
    exact (h3.perm h4).left
  refine h w h1 h1.reb (h1.rw_ hF) a w hf ?_
  have h7 : Inv w [] w [] := Inv.refl w
  have h8 := h1.left
  exact ⟨rfl, rfl, rfl, Nat.le_refl _, fun _ _ _ => rfl, h8.own, fun b o hb => .inr (Kb hb), h8.apart⟩
end
section ends
variable {C : Cx} {E : Env} {H N : Heap}
theorem X.reb {fn : Func} {w0 : World} {M : List Nat} {Post : Value → Heap → Prop} (hr : Reb w0 M C.w0 C.M) (h : X C (bodyPost C.P fn (Vw C.w0 C.M Post)) .ret E H) : X C (bodyPost C.P fn (Vw w0 M Post)) .ret E H := by
 intro a w hf hi
 obtain ⟨h1, v, h2, v', N, h3, h4, h5⟩ := h a w hf hi
 exact ⟨h1, v, h2, v', N, h3, h4, hr w N h5⟩
end ends
section rules
variable {C : Cx} {ops : Array Oper} {Q : Exit → Act → World → Prop} {l : List Nat} {E : Env} {H R : Heap} {i d : Nat} {ty : TypeId} {pos : String} {af : Array Edge} {g : Option (Nat × Bool)}
theorem TO.ldWO {t T' : TypeId} {x : Operand} {b m c : Nat} {base : Option Addr} {p : Int} {ms : List SM} (hs : ms.getD p.toNat default = (base, m, c)) (hp : inb p ms.length) (q0_ : ops[i]? = some ⟨some d, .load t x, ty, pos, af, g⟩ ∧ Zg ops E g = true ∧ Nat.ble (d + 1) C.n = true ∧ ev E x = some (.pointer (some ⟨b, p.toNat, none⟩))) (hT : Yr C.P t = true) (hm : (some b, Obj.cells (arr Yo ms []).toArray T' (0, 0)) ∈ H)
    (kk : TO C ops Q l ((d, .slice base m c) :: E) H) : TO C ops Q (i :: l) E H := have ⟨ho, hg, hd, hx⟩ := q0_;
  Zm ⟨ho, hg, hd, hx⟩ hT hm (by
    have := Rl (f := Yo) (s := 1) (fun _ => rfl) default ms [] p.toNat 0 (Wv hp) (by omega)
    rw [hs] at this
    simpa [Yo] using this) kk
theorem TO.stWO {t T' : TypeId} {x y : Operand} {b m c : Nat} {base : Option Addr} {p : Int} {ms : List SM} (hp : inb p ms.length) (q0_ : ops[i]? = some ⟨none, .store t x y, ty, pos, af, g⟩ ∧ Zg ops E g = true ∧ ev E x = some (.pointer (some ⟨b, p.toNat, none⟩)) ∧ ev E y = some (.slice base m c)) (ht : Take (some b, .cells (arr Yo ms []).toArray T' (0, 0)) H R) (hs : Zq C.P t = some 1)
    (kk : TO C ops Q l E ((some b, .cells (arr Yo (ms.set p.toNat (base, m, c)) []).toArray T' (0, 0)) :: R)) : TO C ops Q (i :: l) E H := by
  obtain ⟨ho, hg, hx, hy⟩ := q0_
  refine Nj (vs := [.slice base m c]) ho hg hx hy ht rfl hs (fun u hu => by simp at hu; subst hu; rfl) (by
    have := Wv hp
    have h2 := Wu (f := Yo) (s := 1) (fun _ => rfl) ms
    simp [arr, h2]; omega) ?_ kk
  have := Z0u (f := Yo) (s := 1) (fun _ => rfl) (base, m, c) [] ms p.toNat (Wv hp)
  simpa [Yo] using this
theorem Fam.inb {L : List RowB} {xss : List (List Int)} {n : Nat} {p : Int} (h : Fam L xss n) (hp : inb p xss.length) : inb p (L.map RowB.sm).length := by
 rw [List.length_map, h.lenL, ← h.len]; exact hp
end rules
section draw
variable {C : Cx} {ops : Array Oper} {Q : Exit → Act → World → Prop} {E : Env} {H : Heap}
theorem ObE2.tail {S : List Sp} {HR : Nat → List Value → Heap → Prop} {hd : List (List Nat)} {W : Env} {Hc : Heap} {i : Nat} (Tl : Heap) (h : ObE2 C ops Q S HR hd W Hc i) : ObE2 C ops Q S HR hd W (Hc ++ Tl) i := by
 intro vs es Es Hx hb hr hh a w hf hi
 refine Ga (l2 := []) (fun e a w hne hq => ?_) (fun a w hq => ?_) [i] a w (h vs es Es (Tl ++ Hx) hb hr hh a w hf (hi.perm (Jf hb Hx)))
 · cases e <;> first | exact absurd rfl hne | exact hq
 ·
  obtain ⟨v, hb', e', h1, h2, h3, h4⟩ := hq
  refine ⟨v, hb', e', h1, h2, h3, h4.perm ?_⟩
  have e1 : hb' ++ (Hc ++ (e' ++ (Yt es (Yd S i) ++ (Tl ++ Hx)))) = hb' ++ (Hc ++ ((e' ++ Yt es (Yd S i)) ++ (Tl ++ Hx))) := by simp only [List.append_assoc]
  have e2 : hb' ++ ((Hc ++ Tl) ++ (e' ++ (Yt es (Yd S i) ++ Hx))) = hb' ++ ((Hc ++ Tl) ++ ((e' ++ Yt es (Yd S i)) ++ Hx)) := by simp only [List.append_assoc]
  rw [e1, e2]
  exact (Jf hb' Hx).symm
theorem ObsG2.tail {S : List Sp} {HR : Nat → List Value → Heap → Prop} {hd : List (List Nat)} {W : Env} {Hc : Heap} (Tl : Heap) : ∀ {l : List Nat}, ObsG2 C ops Q S HR hd W Hc l → ObsG2 C ops Q S HR hd W (Hc ++ Tl) l
 | [], _ => trivial
 | i :: l, ⟨h1, h2⟩ => by
  refine ⟨?_, ObsG2.tail Tl h2⟩
  cases he : Yg S i with
  | true => rw [he] at h1; exact ObE2.tail Tl h1
  | false => rw [he] at h1; exact ObQ.tail Tl h1
theorem Z3w {id : Nat} (S : List Sp) (sl : List Nat) (m : Nat) (HR : Nat → List Value → Heap → Prop) (hd : List (List Nat)) (hb0 Hc Tl : Heap)
    (hm : C.P.follows .mixedOrders = true) (hsm : S.length = m) (hsl : Xx ops (List.range m) = sl) (hb : Wq ops = true) (ht : Uk ops m = true) (hgood : Kg ops S hd = true) (hms : Nat.ble m ops.size = true)
    (hn : Vu sl = true) (h0 : HR 0 [] hb0) (hH : Pick (hb0 ++ (Hc ++ Tl)) H)
    (obs : ObsG2 C ops Q S HR hd (wo sl E) Hc (List.range m))
    (k : ∀ (vs : Nat → Value) (es : Nat → Heap) (hb : Heap), Vc S vs es (List.range m) → HR ((List.range m).filter (Yg S)).length ((hd.getD ((List.range m).filter (Yg S)).length []).map vs) hb →
      TO C ops Q (List.range' m (ops.size - m)) (Xl ops vs (List.range m) ++ wo sl E) ((hb ++ (Hc ++ Yt es ((List.range m).filter fun j => !Vq S j))) ++ Tl)) :
    T C (.region id ops true) Q E H :=
  Z28 S sl m HR hd hb0 (Hc ++ Tl) hm hsm hsl hb ht hgood hms hn h0 hH (ObsG2.tail Tl obs) fun vs es hb h1 h2 a w hf hi => k vs es hb h1 h2 a w hf (hi.perm (by
    simp only [List.append_assoc]
    exact List.Perm.append_left hb (List.Perm.append_left Hc List.perm_append_comm)))
end draw
section ends
variable {C : Cx} {E : Env} {H H' N : Heap}
end ends
end Go.Acq
