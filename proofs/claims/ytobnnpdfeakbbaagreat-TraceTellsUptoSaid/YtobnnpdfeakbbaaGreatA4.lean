/- Texts of this claim, one behind the other. -/
import Derived.Test.YtobnnpdfeakbbaaGreatA3
import Derived.Scope
import Derived.KernelRfl
import Derived.Test.YtobnnpdfeakbbaaGreatA2
import Derived.Test.YtobnnpdfeakbbaaGreatA1
import Derived.Test.YtobnnpdfeakbbaaGreatChecked
set_option linter.unusedVariables false
set_option linter.unusedSimpArgs false
noncomputable section
namespace Go.Acq.Vx
open Go Go.Acq Go.RowKit
section draw
variable {P : Program} {vr : Nat → Int} {X : List (FuncId × XK)} {σ : Nm} {ρ : Option Nat} {w0 w : World} {M B : List Nat} {n : Nat} {ih : IH} {ops : Array Oper} {E E2 : En} {s s2 : St} {a : Act}
theorem looks_of {o : Op} {x : Nat} (h : blockOf E o = some x) : looks o = true := by cases o <;> first | rfl | (simp [blockOf] at h)
theorem runDraw_ok (hm : P.follows .mixedOrders = true) (hX : XsOk P X) (hF : SndF P vr ih) (hC : SndC P vr ih) {id : Nat} {Q : Exit → Act → World → Prop} (hf : FA vr σ n E s.ms a) (hw : WR P vr σ w0 M B s w) (h : runDraw P X ih n ops E s = some (E2, s2))
    (hQ : ∀ σ' a' w', σ.le σ' → FA vr σ' n E2 s2.ms a' → WR P vr σ' w0 M B s2 w' → Q .normal a' w') : (Code.region id ops true).wpIn (FW ρ) 0 P Q a w := by
  unfold runDraw runDrawA at h
  rw [cond_eq_ite] at h
  split at h
  case isFalse => cases h
  rename_i hdok
  have hD := drawOk_ok hdok
  split at h
  case h_2 => cases h
  rename_i E3 s3 ss qs hrun
  rw [cond_eq_ite] at h
  split at h
  case isFalse => cases h
  rename_i hqs
  injection h with h; injection h with e1 e2; subst e1; subst e2
  obtain ⟨Es, Ss, vs, g1, g2, g3, g4, g5, g6⟩ := runDs_trace (by simp) hrun
  rw [Nat.zero_add, Array.length_toList] at g3 g4
  simp only [Nat.zero_add, Array.length_toList] at g5 g6
  have hrk0 : rkT ops 0 = 0 := rfl
  simp only [hrk0, Nat.sub_zero] at g6
  obtain ⟨Tk, hTk⟩ : ∃ Tk : Nat → St, ∀ k, Tk k = ((⟨s.heap, s.next + ops.size, s.ms⟩ : St) :: ss)[k]?.getD ⟨s.heap, s.next + ops.size, s.ms⟩ := ⟨_, fun _ => rfl⟩
  let H : Tr P X ih n ops (ancs ops.toList []) s.next Es Ss Tk vs (fun q => orGone ((Ss (q + 1)).heap.get (s.next + q))) :=
    ⟨fun j o hj ho => ⟨(g5 j o (by omega) hj ho).1, (g5 j o (by omega) hj ho).2.1⟩, by rw [hTk, g2]; rfl, fun j hj ht => by rw [hTk, g6 j (by omega) hj ht]; rfl, fun q => rfl⟩
  have hlist : ∀ k, k ≤ rkT ops ops.size → ((⟨s.heap, s.next + ops.size, s.ms⟩ : St) :: ss)[k]? = some (Tk k) := by
    intro k hk
    by_cases h0 : k = 0
    · subst h0; rw [hTk]; rfl
    · obtain ⟨e, h1, h2, h3⟩ := rk_find (ops := ops) (j := ops.size) (k := k - 1) (by omega)
      have hs : rkT ops (e + 1) = rkT ops e + 1 := by rw [rkT_succ, h2, if_pos rfl]
      have := g6 e (by omega) h1 h2
      rw [show rkT ops (e + 1) = k by omega] at this
      rw [hTk, this]; rfl
  have hEnot : ∀ t, (∀ (j : Nat) (o : Oper), ops[j]? = some o → o.dst ≠ some t) → ∀ i, i ≤ ops.size → fnd t (Es i) = fnd t E := by
    intro t ht i
    induction i with
    | zero => intro _; rw [g1]
    | succ i ihh =>
      intro hi
      have hlt : i < ops.size := by omega
      have ho : ops[i]? = some ops[i] := Array.getElem?_eq_getElem hlt
      obtain ⟨_, k2, _⟩ := g5 i _ (by omega) hlt ho
      rw [k2]
      cases hd : ops[i].dst with
      | none => exact ihh (by omega)
      | some d =>
        show fnd t ((d, vs i) :: Es i) = _
        rw [fnd_cons, if_neg (fun e => ht i _ ho (by rw [hd, e]))]
        exact ihh (by omega)
  have hEdst : ∀ (j : Nat) (o : Oper) (t : Nat), ops[j]? = some o → o.dst = some t → ∀ i, j < i → i ≤ ops.size → fnd t (Es i) = some (vs j) := by
    intro j o t hoj hdj i
    induction i with
    | zero => intro h; omega
    | succ i ihh =>
      intro hji hi
      have hlt : i < ops.size := by omega
      have ho : ops[i]? = some ops[i] := Array.getElem?_eq_getElem hlt
      obtain ⟨_, k2, _⟩ := g5 i _ (by omega) hlt ho
      rw [k2]
      by_cases e : j = i
      · subst e
        rw [ho] at hoj; injection hoj with hoj
        rw [hoj, hdj]
        show fnd t ((t, vs j) :: Es j) = _
        rw [fnd_cons, if_pos rfl]
      · cases hd : ops[i].dst with
        | none => exact ihh (by omega) (by omega)
        | some d =>
          show fnd t ((d, vs i) :: Es i) = _
          rw [fnd_cons, if_neg (fun e' => e (hD.uniq j i o _ t hoj ho hdj (by rw [hd, e'])))]
          exact ihh (by omega) (by omega)
  have hms : ∀ i, i ≤ ops.size → (Ss i).ms = s.ms := by
    intro i
    induction i with
    | zero => intro _; rw [g2]
    | succ i ihh =>
      intro hi
      have hlt : i < ops.size := by omega
      obtain ⟨k1, _, _⟩ := g5 i _ (by omega) hlt (Array.getElem?_eq_getElem hlt)
      rw [k1.ms]; exact ihh (by omega)
  have hB : ∀ x, x ∈ B → x < s.next := fun x hx => (hw.back x hx).1
  let J : (Nat → Bool) → Act → World → Prop := fun done a w => ∃ σ', σ.le σ' ∧ Ki ops done ∧ a.tmps.size = n ∧ (∃ bs, a.defers = bs.map mkD ∧ MsR σ' s.ms bs) ∧
    (∀ t v, (∀ (j : Nat) (o : Oper), ops[j]? = some o → o.dst ≠ some t) → fnd t E = some v → VR vr σ' v (a.tmps.getD t undef)) ∧
    (∀ (j : Nat) (o : Oper) (t : Nat), ops[j]? = some o → o.dst = some t → done j = true → VR vr σ' (vs j) (a.tmps.getD t undef)) ∧
    ∃ sD, JW P vr σ' w0 M B ops s.next Tk (fun q => orGone ((Ss (q + 1)).heap.get (s.next + q))) H.cur s.ms done sD w
  refine wpIn_region_any hm (Z9y (J := J) hD.back ?_ ?_ ops.size (Array.replicate ops.size false) a _ (by simp) ?_ ?_)
  · -- a step
    rintro done i o a w ho hdi hdeps ⟨σ', hσ, hc, hsz, ⟨bs, hbs, hmr⟩, hnot, hdst, sD, hJ⟩
    have hi : i < ops.size := (Array.getElem?_eq_some_iff.1 ho).1
    have hdeps' : ∀ (o' : Oper), ops[i]? = some o' → ∀ e, e ∈ o'.after → Region.binds .any e = true → done e.on = true := fun o' ho' => by rw [ho] at ho'; injection ho' with ho'; subst ho'; exact hdeps
    obtain ⟨v1, v2, v3⟩ := g5 i o (by omega) hi ho
    have htr : truB ops i = isTrue o.op := by unfold truB; rw [ho]
    have Uv : fresB ops i = isFresh o.op := by unfold fresB; rw [ho]
    have hfe : FE vr σ' n (restr (Es i) (readsO ops o)) a.tmps := ⟨hsz, fun t v hv => by
      obtain ⟨r1, r2⟩ := fnd_restr hv
      by_cases hex : ∃ (j : Nat) (p : Oper), ops[j]? = some p ∧ p.dst = some t
      · obtain ⟨j, p, hp, hpd⟩ := hex
        obtain ⟨c1, c2⟩ := hD.reads i j o p t ho hp hpd r1
        have hdj := anc_done hD.back hc (i + 1) i j (Nat.lt_succ_self i) c2 hdeps'
        rw [hEdst j p t hp hpd i c1 (by omega)] at r2
        injection r2 with r2; subst r2
        exact hdst j p t hp hpd hdj
      · have hno : ∀ (j : Nat) (p : Oper), ops[j]? = some p → p.dst ≠ some t := fun j p hp e => hex ⟨j, p, hp, e⟩
        rw [hEnot t hno i (by omega)] at r2
        exact hnot t v hno r2⟩
    have hclosed : Ki ops (fun m => if m = i then true else done m) := by
      intro j o' ho' hj e he hbe
      show (if e.on = i then true else done e.on) = true
      by_cases hei : e.on = i
      · rw [if_pos hei]
      · rw [if_neg hei]
        by_cases hji : j = i
        · subst hji; rw [ho] at ho'; injection ho' with ho'; subst ho'; exact hdeps e he hbe
        · have hj' : done j = true := by simpa [hji] using hj
          exact hc j o' ho' hj' e he hbe
    have hdd := v1.dst
    have fin : ∀ σ'' x w' sD', σ'.le σ'' → VR vr σ'' (vs i) x → JW P vr σ'' w0 M B ops s.next Tk (fun q => orGone ((Ss (q + 1)).heap.get (s.next + q))) H.cur s.ms (fun m => if m = i then true else done m) sD' w' →
        J (fun m => if m = i then true else done m) (a.put o.dst x) w' := by
      intro σ'' x w' sD' k1 k2 k4
      refine ⟨σ'', Nm.le_trans hσ k1, hclosed, ?_, ?_, fun t v hno hv => ?_, fun j p t hp hpd hdj => ?_, sD', k4⟩
      · cases o.dst with
        | none => exact hsz
        | some d => simpa [Act.put] using hsz
      · refine ⟨bs, ?_, hmr.mono k1⟩
        cases o.dst with
        | none => exact hbs
        | some d => exact hbs
      · cases hod : o.dst with
        | none => exact (hnot t v hno hv).mono k1
        | some d =>
          rw [hod] at hdd
          rw [put_getD hsz (blt_lt hdd), if_neg (fun e => hno i o ho (by rw [hod, e]))]
          exact (hnot t v hno hv).mono k1
      · by_cases e : j = i
        · subst e
          rw [ho] at hp; injection hp with hp; subst hp
          rw [hpd] at hdd ⊢
          rw [put_getD hsz (blt_lt hdd), if_pos rfl]
          exact k2
        · have hdj' : done j = true := by simpa [e] using hdj
          cases hod : o.dst with
          | none => exact (hdst j p t hp hpd hdj').mono k1
          | some d =>
            rw [hod] at hdd
            rw [put_getD hsz (blt_lt hdd), if_neg (fun e' => e (hD.uniq j i p o t hp ho hpd (by rw [hod, e'])))]
            exact (hdst j p t hp hpd hdj').mono k1
    cases v1 with
    | made hff hd hwt cs t hv hs =>
      rw [hff] at Uv
      have hcs : orGone ((Ss (i + 1)).heap.get (s.next + i)) = .cells (putC .e 0 cs) (lenL cs) t false := by
        rw [hs]; show orGone (((Ss i).heap.set (s.next + i) _).get (s.next + i)) = _; rw [Tri.get_set, if_pos rfl]; rfl
      refine freshO_ok ho hfe hwt hv fun x A q1 q2 q3 => ?_
      have h0 : σ' (s.next + i) = none := (hJ.wr.back _ (mem_BD.2 (.inr ⟨i, hi, by rw [hdi]; simp, rfl⟩))).2
      have := jw_made H hD hc hi Uv hdi hJ (by show AO.live _ = true; rw [hcs]; rfl) hB (ob := .cells A t (0, 0)) (by
        show OR P vr _ 0 (orGone ((Ss (i + 1)).heap.get (s.next + i))) _
        rw [hcs]; exact newC_or0 (q1.mono (Nm.le_put h0)) q2)
      exact fin _ x _ (sD.set (s.next + i) (orGone ((Ss (i + 1)).heap.get (s.next + i)))) (Nm.le_put h0) (q3 _ Nm.put_same) this
    | unmade hff hd hwt hv hs =>
      rw [hff] at Uv
      have hcs : orGone ((Ss (i + 1)).heap.get (s.next + i)) = .gone := by
        rw [hs]; show orGone (((Ss i).heap.set (s.next + i) .gone).get (s.next + i)) = _; rw [Tri.get_set, if_pos rfl]; rfl
      refine skipO_ok ho hfe hwt ?_
      exact fin _ undef _ (sD.set (s.next + i) .gone) Nm.le_refl (by rw [hv]; exact .und) (jw_unmade H hD hc hi Uv hdi hJ hcs)
    | eff hff he s1 hv hs =>
      have ht : truB ops i = true := by rw [htr]; simp [isTrue, hff, he]
      obtain ⟨M', m1, m2⟩ := jw_eff H hD hc hi ht hdi hdeps' hJ hs
      refine (valO_ok (ρ := ρ) hX hF hC ho hfe m1 hv fun σ'' x w' k1 k2 k3 => ?_).1
      obtain ⟨sD', k4⟩ := m2 σ'' w' k1 k3
      exact fin σ'' x w' sD' k1 k2 k4
    | quiet hff he h1 hv hs =>
      rw [hff] at Uv
      have ht : truB ops i = false := by rw [htr]; simp [isTrue, he]
      have hval : valO P X ih n ops o (restr (Es i) (readsO ops o)) sD = some (vs i, sD) := by
        rw [hs] at hv
        unfold valO at hv ⊢
        simp only [hdd, cond_true] at hv ⊢
        cases hwt : wantS ops (restr (Es i) (readsO ops o)) o.guard with
        | none => rw [hwt] at hv; cases hv
        | some b =>
          rw [hwt] at hv
          cases b with
          | false => simp only at hv ⊢; injection hv with hv; injection hv with hv _; rw [hv]
          | true =>
            simp only [he, cond_false] at hv ⊢
            have hpv : pureV P (restr (Es i) (readsO ops o)) (Ss i) o.op = some (vs i) := by
              split at hv
              · rename_i v' hpv
                injection hv with hv; injection hv with hv _; rw [← hv]; exact hpv
              · cases hv
            have hpure : pureV P (restr (Es i) (readsO ops o)) sD o.op = some (vs i) := by
              cases hbo : blockOf (restr (Es i) (readsO ops o)) o.op with
              | none => rw [pureV_same (s2 := Ss i) (fun x hx => by rw [hbo] at hx; cases hx)]; exact hpv
              | some x =>
                have hsees := h1
                unfold seesOk at hsees
                rw [hbo] at hsees
                simp only [Bool.or_eq_true, Bool.and_eq_true] at hsees
                have hsq := List.all_eq_true.1 hqs _ (v3 he (looks_of hbo))
                unfold sameQ at hsq
                rw [ho] at hsq
                simp only [hbo, hwt, Bool.or_eq_true, Bool.and_eq_true] at hsq
                obtain ⟨w1, w2⟩ := cntT_window hD hc hi hdi hdeps'
                have hown : ∀ q, q < ops.size → x = s.next + q → fresB ops q = true ∧ done q = true ∧ q < i := fun q hq e => by
                  rcases hsees with (h | h) | h
                  · have := blt_lt h; omega
                  · have := Nat.le_of_ble_eq_true h; omega
                  · rw [show x - s.next = q by omega] at h
                    exact ⟨h.1, anc_done hD.back hc (i + 1) i q (Nat.lt_succ_self i) h.2 hdeps', anc_lt hD.back h.2⟩
                rcases hsq with ⟨e1, e2⟩ | hall
                · have e1 := Nat.eq_of_beq_eq_true e1
                  have e2 := Nat.eq_of_beq_eq_true e2
                  have hk : cntT ops done = rkT ops i := by omega
                  rw [pureV_same (s2 := Ss i) (fun y hy => by
                    rw [hbo] at hy; injection hy with hy; subst hy
                    by_cases hx : x < s.next ∨ s.next + ops.size ≤ x
                    · rw [hJ.out x hx, hk]; exact ((H.out (Nat.le_of_lt hi)).1 x hx).symm
                    · obtain ⟨k1, k2, k3⟩ := hown (x - s.next) (by omega) (by omega)
                      have := hJ.fr (x - s.next) (by omega) k1 k2
                      rw [show s.next + (x - s.next) = x by omega, hk] at this
                      rw [this]
                      have := H.curs (Nat.le_of_lt hi) (x - s.next) k3 k1
                      rw [show s.next + (x - s.next) = x by omega] at this
                      exact this.symm)]
                  exact hpv
                · have hmemk : cntT ops done ∈ (List.range (hiT ops (ancs ops.toList []) i + 1)).drop (loT ops (ancs ops.toList []) i) := by
                    apply List.mem_of_getElem? (i := cntT ops done - loT ops (ancs ops.toList []) i)
                    rw [List.getElem?_drop, show loT ops (ancs ops.toList []) i + (cntT ops done - loT ops (ancs ops.toList []) i) = cntT ops done by omega, List.getElem?_range (by omega)]
                  have hk := List.all_eq_true.1 hall _ hmemk
                  rw [hlist _ cntT_le] at hk
                  simp only at hk
                  split at hk
                  · rename_i u hu
                    simp only [Bool.and_eq_true] at hk
                    have := SV.beq_eq hk.1
                    subst this
                    rw [pureV_same (s2 := Tk (cntT ops done)) (fun y hy => by
                      rw [hbo] at hy; injection hy with hy; subst hy
                      by_cases hx : x < s.next ∨ s.next + ops.size ≤ x
                      · exact hJ.out x hx
                      · obtain ⟨k1, k2, k3⟩ := hown (x - s.next) (by omega) (by omega)
                        have := hJ.fr (x - s.next) (by omega) k1 k2
                        rw [show s.next + (x - s.next) = x by omega] at this
                        rw [this]
                        have hl := hk.2
                        unfold lateOk at hl
                        simp only [Bool.or_eq_true] at hl
                        have hlt : rkT ops (x - s.next) < cntT ops done := by
                          rcases hl with (hl | hl) | hl
                          · have := blt_lt hl; omega
                          · have := Nat.le_of_ble_eq_true hl; omega
                          · exact blt_lt hl
                        unfold Tr.cur
                        rw [if_pos hlt, show s.next + (x - s.next) = x by omega])]
                    exact hu
                  · cases hk
            rw [hpure]
      refine (valO_ok (ρ := ρ) hX hF hC ho hfe hJ.wr hval fun σ'' x w' k1 k2 k3 => ?_).1
      refine fin σ'' x w' sD k1 k2 (jw_quiet H hi Uv ht ⟨k3, hJ.next, hJ.ms, hJ.out, hJ.fr, fun q hq hfq hd hl => ?_⟩)
      have := hJ.nm q hq hfq hd hl
      cases hq' : σ' (s.next + q) with
      | none => rw [hq'] at this; cases this
      | some p => rw [k1 _ _ hq']; rfl
  · -- the end
    rintro done a w hall ⟨σ', hσ, hc, hsz, ⟨bs, hbs, hmr⟩, hnot, hdst, sD, hJ⟩
    have hcnt : cntT ops done = rkT ops ops.size := by
      unfold cntT rkT
      apply List.countP_congr
      intro j hj
      rw [hall j (List.mem_range.1 hj)]; simp
    refine hQ σ' a w hσ ⟨⟨hsz, fun t v hv => ?_⟩, bs, hbs, by rw [← g4, hms _ (Nat.le_refl _)]; exact hmr⟩ ?_
    · rw [← g3] at hv
      by_cases hex : ∃ (j : Nat) (p : Oper), ops[j]? = some p ∧ p.dst = some t
      · obtain ⟨j, p, hp, hpd⟩ := hex
        have hj : j < ops.size := (Array.getElem?_eq_some_iff.1 hp).1
        rw [hEdst j p t hp hpd ops.size hj (Nat.le_refl _)] at hv
        injection hv with hv; subst hv
        exact hdst j p t hp hpd (hall j hj)
      · have hno : ∀ (j : Nat) (p : Oper), ops[j]? = some p → p.dst ≠ some t := fun j p hp e => hex ⟨j, p, hp, e⟩
        rw [hEnot t hno ops.size (Nat.le_refl _)] at hv
        exact hnot t v hno hv
    · rw [← g4]
      obtain ⟨o1, o2⟩ := H.out (Nat.le_refl ops.size)
      refine hJ.wr.ext (by rw [hJ.next, hcnt]; exact o2) (fun x hx => mem_BD.2 (.inl hx)) fun x p hp => .inr ?_
      by_cases hx : x < s.next ∨ s.next + ops.size ≤ x
      · rw [hJ.out x hx, hcnt]; exact o1 x hx
      · have hq : x - s.next < ops.size := by omega
        have hxe : s.next + (x - s.next) = x := by omega
        have hfl : fresB ops (x - s.next) = true := by
          cases hb : fresB ops (x - s.next) with
          | true => rfl
          | false =>
            have := (hJ.wr.back x (mem_BD.2 (.inr ⟨x - s.next, hq, by rw [hb]; rfl, hxe⟩))).2
            rw [hp] at this; cases this
        have h1 := hJ.fr (x - s.next) hq hfl (hall _ hq)
        have h2 := H.curs (Nat.le_refl ops.size) (x - s.next) hq hfl
        rw [hxe, hcnt] at h1
        rw [hxe] at h2
        rw [h1, h2]
  · have : ((List.range ops.size).filter (fun i => !(Array.replicate ops.size false).getD i true)).length ≤ (List.range ops.size).length := List.length_filter_le _ _
    simpa using this
  · have hfn : (fun q => (Array.replicate ops.size false).getD q false) = fun _ => false := by
      funext q
      simp only [Array.getD_eq_getD_getElem?, Array.getElem?_replicate]
      split <;> rfl
    show J (fun q => (Array.replicate ops.size false).getD q false) a _
    rw [hfn]
    have hcnt : cntT ops (fun _ => false) = 0 := by unfold cntT; rw [List.countP_eq_zero]; intro j _; simp
    refine ⟨σ, Nm.le_refl, fun i o _ h => by simp at h, hf.fe.size, hf.df, fun t v _ hv => hf.fe.get t v hv, fun j o t _ _ h => by simp at h, ⟨s.heap, s.next + ops.size, s.ms⟩, ?_, ?_, rfl, fun x hx => ?_, fun q _ _ h => (by cases h), fun q _ _ h => (by cases h)⟩
    · have hd := hw.drew
      refine ⟨hd.os, hd.tape, hd.output, hd.size, hd.keep, hd.own, hd.low, hd.inj, fun i hi => hd.fresh i (Nat.le_trans (Nat.le_add_right _ _) hi), fun x hx => ?_⟩
      rcases mem_BD.1 hx with h | ⟨q, h1, _, rfl⟩
      · obtain ⟨k1, k2⟩ := hd.back x h
        exact ⟨by show x < s.next + ops.size; omega, k2⟩
      · exact ⟨by show s.next + q < s.next + ops.size; omega, hd.fresh _ (Nat.le_add_right _ _)⟩
    · rw [hcnt, H.zero, g2]
    · rw [hcnt, H.zero, g2]
end draw
end Go.Acq.Vx
noncomputable section
namespace Go.Acq.Vx
open Go Go.Acq Go.RowKit
def LW (ρ : Option Nat) (P : Program) (c : Code) (Q : Exit → Act → World → Prop) (a : Act) (w : World) : Prop :=
  ∀ (b : Frame) (k : List Item) (cs : List Frame), b.roundOf = (FW ρ).round → (FW ρ).fn b.fn → (FW ρ).room (cs.length + 1 + 0) →
    ∃ e a' w', Q e a' w' ∧ ArrivesIn (Machine.fenced P (FW ρ)) P (lone (b.atR a (.code c :: .inLoop c :: k)) cs w) b k cs e a' w'
theorem LW.wpIn {ρ : Option Nat} {P : Program} {c : Code} {Q : Exit → Act → World → Prop} {a : Act} {w : World} (h : LW ρ P c Q a w) : (Code.loop c).wpIn (FW ρ) 0 P Q a w := by
 intro b k cs hro hb hr
 obtain ⟨e, a', w', hq, harr⟩ := h b k cs hro hb hr
 exact ⟨e, a', w', hq, .of_steps (.one (fenced_calm hb hr rfl) stepR_loop) harr⟩
theorem LW.of {ρ : Option Nat} {P : Program} {c : Code} {Q : Exit → Act → World → Prop} {a : Act} {w : World} (h : c.wpIn (FW ρ) 0 P (Exit.then (LW ρ P c Q) Q) a w) : LW ρ P c Q a w := by
 intro b k cs hro hb hr
 obtain ⟨e, a₁, w₁, hq, harr⟩ := h b (.inLoop c :: k) cs hro hb hr
 cases e with
 | normal =>
  obtain ⟨e₂, a₂, w₂, hq₂, harr₂⟩ := hq b k cs hro hb hr
  exact ⟨e₂, a₂, w₂, hq₂, .of_steps (StepsIn.trans harr (.one (fenced_calm hb hr rfl) stepR_inLoop)) harr₂⟩
 | exit id => exact ⟨_, a₁, w₁, hq, .pass (x := .inLoop c) rfl (fun _ _ => .inl (by simp)) harr⟩
 | goto l => exact ⟨_, a₁, w₁, hq, .pass (x := .inLoop c) rfl (fun _ _ => .inl (by simp)) harr⟩
 | ret => exact ⟨_, a₁, w₁, hq, .pass (x := .inLoop c) rfl (fun _ _ => .inl (by simp)) harr⟩
 | panic ch => exact ⟨_, a₁, w₁, hq, .pass (x := .inLoop c) rfl (fun _ _ => .inl (by simp)) harr⟩
 | outgrown => exact ⟨_, a₁, w₁, hq, .pass (x := .inLoop c) rfl (fun _ _ => .inl (by simp)) harr⟩
def SndL (P : Program) (vr : Nat → Int) (ih : IH) : Prop := ∀ n top c E s x E' s', ih.code n top (.loop c) E s = some (x, E', s') → ∀ ρ σ w0 M B a w (Q : Exit → Act → World → Prop), (top = true → ρ = none) → FA vr σ n E s.ms a → WR P vr σ w0 M B s w →
  (∀ σ' a' w', σ.le σ' → FA vr σ' n E' s'.ms a' → WR P vr σ' w0 M B s' w' → Q (exQ x) a' w') → LW ρ P c Q a w
section code
variable {P : Program} {vr : Nat → Int} {X : List (FuncId × XK)} {σ : Nm} {ρ : Option Nat} {w0 w : World} {M B : List Nat} {n : Nat} {ih : IH} {E E' : En} {s s' : St} {a : Act} {top : Bool}
theorem FA.weak {E1 : En} {ms : List Nat} (h : FA vr σ n E ms a) (hE : ∀ t v, fnd t E1 = some v → fnd t E = some v) : FA vr σ n E1 ms a := ⟨⟨h.fe.size, fun t v ht => h.fe.get t v (hE t v ht)⟩, h.df⟩
theorem fnd_ded : ∀ {E : En} {seen : List Nat} {t : Nat} {v : SV}, fnd t (ded E seen) = some v → t ∉ seen ∧ fnd t E = some v
 | [], seen, t, v, h => by simp [ded, fnd] at h
 | (d, u) :: E, seen, t, v, h => by
  simp only [ded] at h
  cases hs : seen.any (Nat.beq d) with
  | true =>
   rw [hs] at h
   obtain ⟨h1, h2⟩ := fnd_ded h
   refine ⟨h1, ?_⟩
   rw [fnd_cons, if_neg]
   · exact h2
   · rintro rfl; exact h1 (any_beq.1 hs)
  | false =>
   rw [hs] at h
   simp only [cond_false, fnd_cons] at h ⊢
   by_cases e : d = t
   ·
    subst e
    rw [if_pos rfl] at h ⊢
    exact ⟨fun hm => (by rw [any_beq.2 hm] at hs; cases hs), h⟩
   ·
    rw [if_neg e] at h ⊢
    obtain ⟨h1, h2⟩ := fnd_ded h
    exact ⟨fun hm => h1 (.tail _ hm), h2⟩
def CS (P : Program) (vr : Nat → Int) (X : List (FuncId × XK)) (ih : IH) (ρ : Option Nat) (w0 : World) (M B : List Nat) (n : Nat) (top : Bool) (c : Code) : Prop := ∀ E s x E' s' σ a w (Q : Exit → Act → World → Prop), codeS P X ih n top c E s = some (x, E', s') → FA vr σ n E s.ms a → WR P vr σ w0 M B s w →
  (∀ σ' a' w', σ.le σ' → FA vr σ' n E' s'.ms a' → WR P vr σ' w0 M B s' w' → Q (exQ x) a' w') → c.wpIn (FW ρ) 0 P Q a w
theorem loop_ok (hL : SndL P vr ih) (htop : top = true → ρ = none) {c : Code} (hc : CS P vr X ih ρ w0 M B n top c) {x : Ex} {Q : Exit → Act → World → Prop} (h : codeS P X ih n top (.loop c) E s = some (x, E', s')) (hf : FA vr σ n E s.ms a) (hw : WR P vr σ w0 M B s w)
    (hQ : ∀ σ' a' w', σ.le σ' → FA vr σ' n E' s'.ms a' → WR P vr σ' w0 M B s' w' → Q (exQ x) a' w') : LW ρ P c Q a w := by
  apply LW.of
  simp only [codeS] at h
  split at h
  · rename_i E1 s1 hb
    refine hc _ _ _ _ _ σ a w _ hb hf hw fun σ1 a1 w1 k1 k2 k3 => ?_
    show LW ρ P c Q a1 w1
    exact hL _ _ _ _ _ _ _ _ h ρ σ1 w0 M B a1 w1 Q htop (k2.weak fun t v ht => (fnd_ded ht).2) k3 fun σ2 a2 w2 j1 j2 j3 => hQ σ2 a2 w2 (Nm.le_trans k1 j1) j2 j3
  · rename_i r hne
    refine hc _ _ _ _ _ σ a w _ h hf hw fun σ1 a1 w1 k1 k2 k3 => ?_
    cases x with
    | nor => exact absurd h (fun e => hne _ _ e)
    | ret => exact hQ σ1 a1 w1 k1 k2 k3
    | exit id => exact hQ σ1 a1 w1 k1 k2 k3
theorem range_ok (hF : SndF P vr ih) (hρ : ρ = none) {y : Operand} {ps : Array Nat} {az bd : Code} {f : FuncId} {fa ca : List SV} {v : SV} {s3 : St} {n2 : Nat} {E2 : En} {ps2 : List Nat} {as2 bd2 : Code} {x : Ex} {Q : Exit → Act → World → Prop} (hf : FA vr σ n E s.ms a) (hw : WR P vr σ w0 M B s w)
    (hy : ev E y = some (.fn f fa ca)) (hc : ih.call f (fa ++ [.yld (s.new .mark).next] ++ ca) ⟨((s.new .mark).new (.loop n E ps.toList az bd .nor)).heap, ((s.new .mark).new (.loop n E ps.toList az bd .nor)).next, []⟩ = some (v, s3)) (hl : s3.heap.get (s.new .mark).next = some (.loop n2 E2 ps2 as2 bd2 x))
    (hQ : ∀ σ' a' w', σ.le σ' → FA vr σ' n E (s.next :: s.ms) a' → WR P vr σ' w0 M B ⟨s3.heap.set (s.new .mark).next .gone, s3.next, s.next :: s.ms⟩ w' → Q (exQ x) a' w') : (Code.rangeFunc y ps az bd).wpIn (FW ρ) 0 P Q a w := by
  subst hρ
  refine wpIn_rangeFunc fun fn _ => ?_
  obtain ⟨fx, cx, h1, h2, h3⟩ := (hf.fe.ev hy).fn_inv
  obtain ⟨hcb, hcalls⟩ := hF _ _ _ _ _ hc rfl
  obtain ⟨bs, hbs, hmr⟩ := hf.df
  have hwa := hw.alloc (o := .mark) (ob := .deferred (some [])) (r := 0) rfl .mark
  have hle1 : σ.le (σ.put s.next w.heap.size 0) := Nm.le_put (hw.fresh _ (Nat.le_refl _))
  have hsz : (w.alloc (.deferred (some []))).heap.size = w.heap.size + 1 := World.size_alloc ..
  have hwb := hwa.alloc (o := .loop n E ps.toList az bd .nor) (ob := .loop { state := .ready, pending := none, fn := fn, tmps := a.tmps, params := ps.toList.toArray, assign := az, body := bd, defers := w.heap.size }) (r := 0) rfl
    (OR.loop (x := .nor) ((hf.fe.mono hle1).mono (Nm.le_put (hwa.fresh _ (Nat.le_refl _)))))
  have hle2 : (σ.put s.next w.heap.size 0).le ((σ.put s.next w.heap.size 0).put (s.new .mark).next (w.alloc (.deferred (some []))).heap.size 0) := Nm.le_put (hwa.fresh _ (Nat.le_refl _))
  have hle := Nm.le_trans hle1 hle2
  rw [hsz] at hwb hle2 hle
  have hps : ps.toList.toArray = ps := by simp
  rw [hps] at hwb
  obtain ⟨wb, hwbe⟩ : ∃ wb, (w.alloc (.deferred (some []))).alloc (.loop { state := .ready, pending := none, fn := fn, tmps := a.tmps, params := ps, assign := az, body := bd, defers := w.heap.size }) = wb := ⟨_, rfl⟩
  rw [hwbe] at hwb
  refine ⟨w.heap.size + 1, [mkD w.heap.size], wb, { target := .fn (.func f) cx.toArray, args := fx.toArray.push (Value.func (.yield (w.heap.size + 1)) #[] #[]) },
    wb, f, (fx ++ [Value.func (.yield (w.heap.size + 1)) #[] #[]] ++ cx).toArray, wb, ?_, ?_, fun _ _ => trivial, ?_, by simp [FW], ?_⟩
  · rw [← hwbe]; exact run_enterLoop_outer ..
  · have h4 : ∀ v, a.eval (.const v) = v := fun _ => rfl
    simp [resolve, Deferred.ofValue, h1, h4]
  · show (callFunc f (fx.toArray.push (Value.func (.yield (w.heap.size + 1)) #[] #[]) ++ cx.toArray)).run P _ = _
    have : fx.toArray.push (Value.func (.yield (w.heap.size + 1)) #[] #[]) ++ cx.toArray = (fx ++ [Value.func (.yield (w.heap.size + 1)) #[] #[]] ++ cx).toArray := by apply Array.ext'; simp
    rw [this]
    exact Ra hcb _ _
  · refine callsIn_FW.2 ?_
    have hargs : VRs vr ((σ.put s.next w.heap.size 0).put (s.new .mark).next (w.heap.size + 1) 0) (fa ++ [.yld (s.new .mark).next] ++ ca) (fx ++ [Value.func (.yield (w.heap.size + 1)) #[] #[]] ++ cx) :=
      ((h2.mono hle).append (.cons (.yld Nm.put_same) .nil)).append (h3.mono hle)
    refine Calls.mono (hcalls _ w0 M B _ _ hargs (hwb.ms [])) ?_
    rintro e w3 ⟨σ3, y3, j1, j2, j3, rfl⟩
    have hσl := j1 _ _ (Nm.put_same (σ := σ.put s.next w.heap.size 0) (i := (s.new .mark).next) (b := w.heap.size + 1) (r := 0))
    obtain ⟨ob, q1, q2⟩ := j3.obj hl rfl hσl
    generalize hao : AO.loop n2 E2 ps2 as2 bd2 x = ao at q2
    cases q2 with
    | cells _ _ _ _ => cases hao
    | busy _ => cases hao
    | mark => cases hao
    | gone => cases hao
    | map _ _ => cases hao
    | loop hfe =>
      injection hao with b1 b2 b3 b4 b5 b6
      subst b1; subst b2; subst b3; subst b4; subst b5; subst b6
      rename_i fn3 tmps3 df3
      have hput := j3.putObj hl rfl hσl (OR.gone (o := .loop { state := .exhausted, pending := pdOf x, fn := fn3, tmps := tmps3, params := ps2.toArray, assign := as2, body := bd2, defers := df3 }))
      have hend := run_endLoop (P := P) q1 (by cases x <;> simp [stOf])
      have hlef := Nm.le_trans hle j1
      have hmark : ∃ r, σ3 s.next = some (w.heap.size, r) := ⟨0, j1 _ _ (hle2 _ _ Nm.put_same)⟩
      have hfa : FA vr σ3 n E (s.next :: s.ms) { a with defers := [mkD w.heap.size] ++ a.defers } := ⟨hf.fe.mono hlef, w.heap.size :: bs, by simp [hbs], hmark, hmr.mono hlef⟩
      have fin := hQ σ3 _ _ hlef hfa (hput.ms (s.next :: s.ms))
      cases x with
      | nor => exact ⟨none, _, hend, fin⟩
      | ret => exact ⟨some .ret, _, hend, wpIn_ret fin⟩
      | exit id => exact ⟨some (.exit id), _, hend, wpIn_exit fin⟩
theorem codeS_ok (hm : P.follows .mixedOrders = true) (hX : XsOk P X) (hF : SndF P vr ih) (hC : SndC P vr ih) (hL : SndL P vr ih) (htop : top = true → ρ = none) : ∀ c : Code, CS P vr X ih ρ w0 M B n top c := by
 intro c
 induction c with
 | skip => intro E s x E' s' σ a w Q h hf hw hQ; simp [codeS] at h; obtain ⟨h1, h2, h3⟩ := h; subst h1; subst h2; subst h3; exact wpIn_skip (hQ σ a w Nm.le_refl hf hw)
 | ret => intro E s x E' s' σ a w Q h hf hw hQ; simp [codeS] at h; obtain ⟨h1, h2, h3⟩ := h; subst h1; subst h2; subst h3; exact wpIn_ret (hQ σ a w Nm.le_refl hf hw)
 | exit id => intro E s x E' s' σ a w Q h hf hw hQ; simp [codeS] at h; obtain ⟨h1, h2, h3⟩ := h; subst h1; subst h2; subst h3; exact wpIn_exit (hQ σ a w Nm.le_refl hf hw)
 | region id ops draw =>
  intro E s x E' s' σ a w Q h hf hw hQ
  simp only [codeS] at h
  cases draw with
  | true =>
   simp only [cond_true] at h
   split at h
   ·
    rename_i hr
    injection h with h; injection h with h1 h; injection h with h2 h3; subst h1; subst h2; subst h3
    exact runDraw_ok hm hX hF hC hf hw hr hQ
   · cases h
  | false =>
   simp only [cond_false] at h
   split at h
   ·
    rename_i hr
    injection h with h; injection h with h1 h; injection h with h2 h3; subst h1; subst h2; subst h3
    refine wpIn_region ?_
    have := runOps_ok (ρ := ρ) (Q := Q) hX hF hC (k := 0) (by simp) hf hw hr hQ
    rw [Array.length_toList, ← List.range_eq_range'] at this
    exact this
   · cases h
 | seq x y hx hy =>
  intro E s z E' s' σ a w Q h hf hw hQ
  simp only [codeS] at h
  refine wpIn_seq ?_
  split at h
  ·
   rename_i E1 s1 h1
   refine hx _ _ _ _ _ σ a w _ h1 hf hw fun σ1 a1 w1 k1 k2 k3 => ?_
   exact hy _ _ _ _ _ σ1 a1 w1 Q h k2 k3 fun σ2 a2 w2 j1 j2 j3 => hQ σ2 a2 w2 (Nm.le_trans k1 j1) j2 j3
  ·
   rename_i hne
   refine hx _ _ _ _ _ σ a w _ h hf hw fun σ1 a1 w1 k1 k2 k3 => ?_
   cases z with
   | nor => exact absurd h (fun e => hne _ _ e)
   | ret => exact hQ σ1 a1 w1 k1 k2 k3
   | exit id => exact hQ σ1 a1 w1 k1 k2 k3
 | cond o x y hx hy =>
  intro E s z E' s' σ a w Q h hf hw hQ
  simp only [codeS] at h
  split at h
  · rename_i ho; exact wpIn_cond_true (hf.fe.ev ho).bool_inv (hx _ _ _ _ _ σ a w Q h hf hw hQ)
  · rename_i ho; exact wpIn_cond (hf.fe.ev ho).bool_inv (hy _ _ _ _ _ σ a w Q h hf hw hQ)
  · cases h
 | block id x hx =>
  intro E s z E' s' σ a w Q h hf hw hQ
  simp only [codeS] at h
  refine wpIn_block ?_
  split at h
  ·
   rename_i j E1 s1 h1
   refine hx _ _ _ _ _ σ a w _ h1 hf hw fun σ1 a1 w1 k1 k2 k3 => ?_
   show (if j = id then Q .normal a1 w1 else Q (.exit j) a1 w1)
   cases hj : Nat.beq j id with
   | true =>
    rw [hj] at h; simp only [cond_true] at h
    injection h with h; injection h with h1 h; injection h with h2 h3; subst h1; subst h2; subst h3
    rw [if_pos (Nat.eq_of_beq_eq_true hj)]
    exact hQ σ1 a1 w1 k1 k2 k3
   | false =>
    rw [hj] at h; simp only [cond_false] at h
    injection h with h; injection h with h1 h; injection h with h2 h3; subst h1; subst h2; subst h3
    rw [if_neg (fun e => by rw [e] at hj; simp at hj)]
    exact hQ σ1 a1 w1 k1 k2 k3
  ·
   rename_i hne
   refine hx _ _ _ _ _ σ a w _ h hf hw fun σ1 a1 w1 k1 k2 k3 => ?_
   cases z with
   | nor => exact hQ σ1 a1 w1 k1 k2 k3
   | ret => exact hQ σ1 a1 w1 k1 k2 k3
   | exit j => exact absurd h (fun e => hne _ _ _ e)
 | loop x hx =>
  intro E s z E' s' σ a w Q h hf hw hQ
  exact (loop_ok hL htop hx h hf hw hQ).wpIn
 | rangeFunc o ps az bd ha hb =>
  clear ha hb
  intro E s z E' s' σ a w Q h hf hw hQ
  simp only [codeS] at h
  split at h
  ·
   rename_i hy
   split at h
   ·
    rename_i hc
    split at h
    ·
     rename_i hl
     injection h with h; injection h with h1 h; injection h with h2 h3; subst h1; subst h2; subst h3
     exact range_ok hF (htop rfl) hf hw hy hc hl hQ
    · cases h
   · cases h
  · cases h
 | scope x hx =>
  intro E s z E' s' σ a w Q h hf hw hQ
  simp only [codeS] at h
  split at h
  ·
   have hρ := htop rfl
   subst hρ
   have h1 : x.wpIn (FW none) 0 P (Exit.noGoto Q) a w := hx _ _ _ _ _ σ a w _ h hf hw fun σ1 a1 w1 k1 k2 k3 => by
    cases z <;> exact hQ σ1 a1 w1 k1 k2 k3
   exact wpIn_wide.2 (wp_scope_straight (wpIn_wide.1 h1))
  · cases h
 | label l => intro E s x E' s' σ a w Q h; simp [codeS] at h
 | goto l => intro E s x E' s' σ a w Q h; simp [codeS] at h
 | refuse y => intro E s x E' s' σ a w Q h; simp [codeS] at h
end code
end Go.Acq.Vx
noncomputable section
namespace Go.Acq.Vx
open Go Go.Acq Go.RowKit
section fun'
variable {P : Program} {vr : Nat → Int} {X : List (FuncId × XK)} {σ : Nm} {w0 w : World} {M B : List Nat} {n : Nat} {ih : IH} {E : En} {s s' : St}
theorem marksOk_set {h : Tri AO} {i : Nat} : ∀ {l : List Nat}, marksOk h l = true → l.any (Nat.beq i) = false → marksOk (h.set i .gone) l = true
 | [], _, _ => rfl
 | j :: l, hm, hi => by
  simp only [marksOk, Bool.and_eq_true] at hm ⊢
  simp only [List.any_cons, Bool.or_eq_false_iff] at hi
  refine ⟨⟨?_, hm.1.2⟩, marksOk_set hm.2 hi.2⟩
  rw [Tri.get_set, if_neg]
  · exact hm.1.1
  · rintro rfl; simp at hi
theorem leaves_ok {fn : Func} {tmps : Array Value} {R : Ending → World → Prop} : ∀ {ms bs : List Nat} {s : St} {w : World}, MsR σ ms bs → marksOk s.heap ms = true → WR P vr σ w0 M B s w →
    (∀ w', WR P vr σ w0 M B ⟨dropMs s.heap ms, s.next, []⟩ w' → LeavesIn (FW none) 0 P fn tmps R [] .returning w') → LeavesInM (FW none) 0 P fn tmps R (bs.map mkD) .returning w
  | [], [], s, w, _, _, hw, h => h w (hw.ms [])
  | i :: l, b :: bs, s, w, ⟨⟨r, hσ⟩, hms⟩, hm, hw, h => by
    simp only [marksOk, Bool.and_eq_true] at hm
    obtain ⟨⟨h1, h2⟩, h3⟩ := hm
    have hi : s.heap.get i = some .mark := by
      split at h1
      · assumption
      · cases h1
    obtain ⟨ob, g1, g2⟩ := hw.obj hi rfl hσ
    generalize hao : AO.mark = ao at g2
    cases g2 with
    | cells _ _ _ _ => cases hao
    | busy _ => cases hao
    | loop _ => cases hao
    | gone => cases hao
    | map _ _ => cases hao
    | mark =>
      have hput := hw.putObj hi rfl hσ (OR.gone (o := .deferred none))
      refine ⟨by simp, .inl ⟨b, _, rfl, run_takeDeferred g1, ?_⟩⟩
      refine leaves_ok (s := s.set i .gone) hms (marksOk_set h3 (by simpa using h2)) hput fun w' hw' => h w' hw'
  | [], _ :: _, _, _, h, _, _, _ => h.elim
  | _ :: _, [], _, _, h, _, _, _ => h.elim
theorem res_ok {tmps : Array Value} (hf : FE vr σ n E tmps) (hw : WR P vr σ w0 M B s w) : ∀ {rs : List ResultVar} {vs : List SV}, resOf P E s rs = some vs → ∃ xs, (rs.mapM (Gs tmps)).run P w = .ok xs w ∧ VRs vr σ vs xs
 | [], vs, h => by simp [resOf] at h; subst h; exact ⟨[], by simp, .nil⟩
 | r :: rs, vs, h => by
  simp only [resOf] at h
  cases h0 : resOf P E s rs with
  | none => simp [h0] at h
  | some us =>
   obtain ⟨xs, h1, h2⟩ := res_ok hf hw h0
   simp only [h0] at h
   have fin : ∀ {v : SV} {x : Value}, (Gs tmps r).run P w = .ok x w → VR vr σ v x → vs = v :: us → ∃ xs, ((r :: rs).mapM (Gs tmps)).run P w = .ok xs w ∧ VRs vr σ vs xs := fun {v x} k1 k2 k3 => by
    subst k3
    exact ⟨x :: xs, by simp only [List.mapM_cons, Sem.run_bind, k1, Result.andThen_ok, h1, Sem.run_pure], .cons k2 h2⟩
   cases r with
   | tmp t =>
    simp only at h
    split at h
    ·
     rename_i v hv
     injection h with h
     exact fin (by simp only [Gs]; rfl) (hf.get t v hv) h.symm
    · cases h
   | cell x t =>
    simp only at h
    split at h
    ·
     rename_i i o hx
     split at h
     ·
      rename_i cs m t' more hi
      split at h
      ·
       rename_i v hv
       injection h with h
       obtain ⟨b, r, k1, k2⟩ := (hf.get x _ hx).ptr_inv
       obtain ⟨y, k3, k4⟩ := part_ok hw hi k1 hv
       exact fin (by simp only [Gs, k2, asAddr, Sem.run_bind, Sem.run_pure, Result.andThen_ok, k3]) k4 h.symm
      · cases h
     · cases h
    · cases h
theorem fnd_enterS : ∀ {vs : List SV} {k t : Nat} {v : SV} {E : En}, fnd t (enterS k vs E) = some v → (k ≤ t ∧ vs[t - k]? = some v) ∨ fnd t E = some v
 | [], k, t, v, E, h => .inr h
 | u :: vs, k, t, v, E, h => by
  simp only [enterS] at h
  rcases fnd_enterS h with ⟨h1, h2⟩ | h
  ·
   refine .inl ⟨by omega, ?_⟩
   have : t - k = (t - (k + 1)) + 1 := by omega
   rw [this]; simpa using h2
  ·
   rw [fnd_cons] at h
   by_cases e : k = t
   · subst e; rw [if_pos rfl] at h; exact .inl ⟨Nat.le_refl _, by simpa using h⟩
   · rw [if_neg e] at h; exact .inr h
theorem pack_ok {vs : List SV} {xs : List Value} (h : VRs vr σ vs xs) : VR vr σ (packS vs) (if hs : xs.toArray.size = 1 then xs.toArray[0] else .tuple xs.toArray) := by
 match vs, xs, h with
 | [], _, .nil => exact .tup .nil
 | [v], _, .cons h .nil => simpa [packS] using h
 | v :: u :: vs, _, .cons h (.cons h2 hs) => simpa [packS] using VR.tup (.cons h (.cons h2 hs))
theorem funS_ok (hm : P.follows .mixedOrders = true) (hX : XsOk P X) (hF : SndF P vr ih) (hC : SndC P vr ih) (hL : SndL P vr ih) {f : FuncId} {vs : List SV} {v : SV} (hms : s.ms = []) (h : funS P X ih f vs s = some (v, s')) :
    Xm P f = true ∧ ∀ σ w0 M B w (args : List Value), VRs vr σ vs args → WR P vr σ w0 M B s w → Calls P f args.toArray w (fun e w' => ∃ σ' x, σ.le σ' ∧ VR vr σ' v x ∧ WR P vr σ' w0 M B s' w' ∧ e = .returned x) := by
  unfold funS at h
  split at h
  case h_2 => cases h
  rename_i fn hfn
  split at h
  case h_2 => cases h
  rename_i c hb
  rw [cond_eq_ite] at h
  split at h
  case isFalse => cases h
  rename_i hcd
  simp only [Bool.and_eq_true] at hcd
  refine ⟨by unfold Xm; rw [hfn]; simp [hb, hcd.2], ?_⟩
  intro σ w0 M B w args hargs hw
  split at h
  case h_2 => cases h
  rename_i x E s2 hc
  have hle := Nat.le_of_ble_eq_true hcd.1
  refine callsIn_FW (ρ := none) (n := 0) |>.1 (callsIn_of_wp_marks hfn hb trivial ?_ rfl)
  have hfa : FA vr σ fn.ntmps (enterS 0 vs []) s.ms { tmps := args.toArray ++ Array.replicate (fn.ntmps - args.toArray.size) undef, defers := [] } := by
    have hl := hargs.length
    refine ⟨⟨by simp; omega, fun t u hu => ?_⟩, [], rfl, by rw [hms]; trivial⟩
    rcases fnd_enterS hu with ⟨_, h2⟩ | h2
    · rw [Nat.sub_zero] at h2
      obtain ⟨y, k1, k2⟩ := hargs.get h2
      have hlt := (List.getElem?_eq_some_iff.1 k1).1
      simp only [Array.getD_eq_getD_getElem?]
      rw [Array.getElem?_append_left (by simpa using hlt)]
      simp only [List.getElem?_toArray, k1, Option.getD_some]
      exact k2
    · simp [fnd] at h2
  refine codeS_ok hm hX hF hC hL (fun _ => rfl) c _ _ _ _ _ σ _ w _ hc hfa hw fun σ' a' w' k1 k2 k3 => ?_
  have done : cond (marksOk s2.heap s2.ms) (match resOf P E ⟨dropMs s2.heap s2.ms, s2.next, []⟩ fn.results.toList with | some rs => some (packS rs, (⟨dropMs s2.heap s2.ms, s2.next, []⟩ : St)) | none => none) none = some (v, s') →
      LeavesInM (FW none) 0 P fn a'.tmps (fun e w' => ∃ σ' x, σ.le σ' ∧ VR vr σ' v x ∧ WR P vr σ' w0 M B s' w' ∧ e = .returned x) a'.defers .returning w' := by
    intro h
    rw [cond_eq_ite] at h
    split at h
    case isFalse => cases h
    rename_i hmk
    split at h
    case h_2 => cases h
    rename_i rs hrs
    injection h with h; injection h with e1 e2; subst e1; subst e2
    obtain ⟨bs, hbs, hmr⟩ := k2.df
    rw [hbs]
    refine leaves_ok hmr hmk k3 fun w2 hw2 => ?_
    obtain ⟨xs, g1, g2⟩ := res_ok k2.fe hw2 hrs
    refine ⟨_, ?_, σ', _, k1, pack_ok g2, hw2, rfl⟩
    rw [Zad, ← Array.toArray_toList (xs := fn.results), List.mapM_toArray]
    simp only [Sem.run_bind, Sem.run_map, g1, Result.andThen_ok, Sem.run_pure]
  cases x with
  | nor => exact done h
  | ret => exact done h
  | exit id => cases h
theorem run_ok (hm : P.follows .mixedOrders = true) (hX : XsOk P X) : ∀ n, SndF P vr (run P X n) ∧ SndC P vr (run P X n) ∧ SndL P vr (run P X n)
 | 0 => ⟨fun _ _ _ _ _ h => (by cases h), fun _ _ _ _ _ _ _ _ h => (by cases h), fun _ _ _ _ _ _ _ _ h => (by cases h)⟩
 | n + 1 => by
  obtain ⟨hF, hC, hL⟩ := run_ok hm hX n
  refine ⟨fun f vs s v s' h hms => funS_ok hm hX hF hC hL hms h, fun k top c E s x E' s' h ρ σ w0 M B a w Q htop hf hw hQ => ?_, fun k top c E s x E' s' h ρ σ w0 M B a w Q htop hf hw hQ => ?_⟩
  · exact codeS_ok hm hX hF hC hL htop c _ _ _ _ _ σ a w Q h hf hw hQ
  · exact loop_ok hL htop (codeS_ok hm hX hF hC hL htop c) h hf hw hQ
theorem WR.start (w : World) : WR P vr (fun _ => none) w [] [] ⟨.e, 0, []⟩ w := by
 have h0 : ∀ (i : Nat) (o : AO), (St.mk (.e : Tri AO) 0 []).heap.get i = some o → False := fun i o h => by
  have : (St.mk (.e : Tri AO) 0 []).heap.get i = none := Tri.get_e i
  rw [this] at h; cases h
 exact ⟨rfl, rfl, rfl, Nat.le_refl _, fun _ _ _ => rfl, fun i o b r h => (h0 i o h).elim, fun i o b r h => (h0 i o h).elim, fun i j o p b r r' h => (h0 i o h).elim, fun _ _ => rfl, fun i hi => (by cases hi)⟩
theorem WR.inv (h : WR P vr σ w0 M B s w) : Inv w0 M w [] := ⟨h.os, h.tape, h.output, h.size, h.keep, by simp, by simp, by simp⟩
def okV (P : Program) (X : List (FuncId × XK)) (n : Nat) (f : FuncId) (vs : List SV) (v : SV) : Bool := match (run P X n).call f vs ⟨.e, 0, []⟩ with
  | some (u, _) => SV.beq u v
  | none => false
theorem fnc_of (hm : P.follows .mixedOrders = true) (hX : XsOk P X) {n : Nat} {f : FuncId} {vs : List SV} {args : List Value} {v : SV} {x : Value} (h : okV P X n f vs v = true) (ha : VRs vr (fun _ => none) vs args) (hx : ∀ σ y, VR vr σ v y → y = x) (w : World) : Fnc P f args.toArray w [] (fun y N => y = x ∧ N = []) := by
 unfold okV at h
 split at h
 case h_2 => cases h
 rename_i u s' hc
 have := SV.beq_eq h
 subst this
 refine Calls.mono (((run_ok (vr := vr) hm hX n).1 _ _ _ _ _ hc rfl).2 _ w [] [] w args ha (WR.start w)) ?_
 rintro e w' ⟨σ', y, _, h2, h3, rfl⟩
 exact ⟨y, [], ⟨hx σ' y h2, rfl⟩, rfl, h3.inv⟩
theorem awake_of (hm : P.follows .mixedOrders = true) (hX : XsOk P X) {n : Nat} {f : FuncId} (h : okV P X n f [] (.bool (.lit true)) = true) (w : World) : Fnc P f #[] w [] (fun y N => y = .bool true ∧ N = []) :=
 fnc_of (vr := fun _ => 0) (args := []) hm hX h .nil (fun _ _ hv => hv.bool_inv) w
end fun'
end Go.Acq.Vx
noncomputable section
namespace Go.Acq.Vx
open Go Go.Acq
structure K (α : Type) where
  f : α
abbrev R := Option (Ex × En × St)
def useK {α β : Type} (x : K α) (g : α → β) : β := @K.rec α (fun _ => β) g x
theorem useK_eq {α β : Type} (x : K α) (g : α → β) : useK x g = g x.f := rfl
def ob {α : Type} (x : Option α) (f : α → R) : R := @Option.rec α (fun _ => R) none f x
theorem ob_some {α : Type} (a : α) (f : α → R) : ob (some a) f = f a := rfl
def findE (t : Nat) (E : En) : Option SV := @List.rec (Nat × SV) (fun _ => Option SV) none (fun p _ ih => @Prod.rec Nat SV (fun _ => Option SV) (fun d v => @Bool.rec (fun _ => Option SV) ih (some v) (Nat.beq d t)) p) E
theorem findE_eq (t : Nat) : ∀ E : En, findE t E = fnd t E
 | [] => rfl
 | (d, v) :: E => by
  show (@Bool.rec (fun _ => Option SV) (findE t E) (some v) (Nat.beq d t)) = cond (Nat.beq d t) (some v) (fnd t E)
  rw [findE_eq t E]
  cases Nat.beq d t <;> rfl
abbrev KA := K (En → (SV → R) → R)
abbrev KV := K (En → St → (SV → R) → R)
abbrev KO := K (IH → En → St → (En → St → R) → R)
def kOp (x : Operand) : KA := match x with
  | .tmp t => ⟨fun E k => ob (findE t E) k⟩
  | .const c => match cstA c with
    | some v => ⟨fun _ k => k v⟩
    | none => ⟨fun _ _ => none⟩
  | .global _ => ⟨fun _ _ => none⟩
  | .func f => ⟨fun _ k => k (.fn f [] [])⟩
theorem kOp_ok (x : Operand) (E : En) (k : SV → R) : (kOp x).f E k = ob (ev E x) k := by
 cases x with
 | tmp t => show ob (findE t E) k = ob (fnd t E) k; rw [findE_eq]
 | const c => unfold kOp ev; simp only; cases cstA c <;> rfl
 | global g => rfl
 | func f => rfl
def kArgs (l : List Operand) : K (En → (List SV → R) → R) := @List.rec Operand (fun _ => K (En → (List SV → R) → R)) ⟨fun _ k => k []⟩ (fun x _ r => useK (kOp x) fun f => useK r fun g => ⟨fun E k => f E fun v => g E fun vs => k (v :: vs)⟩) l
theorem kArgs_ok : ∀ (l : List Operand) (E : En) (k : List SV → R), (kArgs l).f E k = ob (evs E l) k
 | [], E, k => rfl
 | x :: l, E, k => by
  show (kOp x).f E (fun v => (kArgs l).f E fun vs => k (v :: vs)) = _
  rw [kOp_ok]
  simp only [evs]
  cases ev E x with
  | none => rfl
  | some v =>
   show (kArgs l).f E (fun vs => k (v :: vs)) = _
   rw [kArgs_ok l]
   cases evs E l <;> rfl
def nilK (v : SV) (k : SV → R) : R := @SV.rec (fun _ => R) (fun _ => Unit) (fun _ _ => none) (fun _ => none) (fun i o => k (.ptr i o)) none (fun _ _ _ _ => none) (fun _ => none) none (fun f a b _ _ => k (.fn f a b)) none (fun i => k (.yld i)) (fun _ _ => none) (fun _ _ => none) none (fun _ => none) () (fun _ _ _ _ => ()) v
def boolK (v : SV) (a b : R) : R := @SV.rec (fun _ => R) (fun _ => Unit) (fun _ _ => none) (fun x => @SB.rec (fun _ => R) (fun c => @Bool.rec (fun _ => R) b a c) (fun _ _ _ => none) x) (fun _ _ => none) none (fun _ _ _ _ => none) (fun _ => none) none (fun _ _ _ _ _ => none) none (fun _ => none) (fun _ _ => none) (fun _ _ => none) none (fun _ => none) () (fun _ _ _ _ => ()) v
def ptrK (v : SV) (k : Nat → Nat → R) : R := @SV.rec (fun _ => R) (fun _ => Unit) (fun _ _ => none) (fun _ => none) k none (fun _ _ _ _ => none) (fun _ => none) none (fun _ _ _ _ _ => none) none (fun _ => none) (fun _ _ => none) (fun _ _ => none) none (fun _ => none) () (fun _ _ _ _ => ()) v
def litK (v : SV) (k : Int → R) : R := @SV.rec (fun _ => R) (fun _ => Unit) (fun _ e => @SE.rec (fun _ => R) k (fun _ => none) (fun _ _ _ _ _ _ => none) (fun _ _ _ => none) e) (fun _ => none) (fun _ _ => none) none (fun _ _ _ _ => none) (fun _ => none) none (fun _ _ _ _ _ => none) none (fun _ => none) (fun _ _ => none) (fun _ _ => none) none (fun _ => none) () (fun _ _ _ _ => ()) v
def natK (v : SV) (k : Nat → R) : R := litK v fun n => @Int.rec (fun _ => R) k (fun _ => none) n
def tupK (v : SV) (k : List SV → R) : R := @SV.rec (fun _ => R) (fun _ => Unit) (fun _ _ => none) (fun _ => none) (fun _ _ => none) none (fun _ _ _ _ => none) (fun _ => none) none (fun _ _ _ _ _ => none) none (fun _ => none) (fun _ _ => none) (fun vs _ => k vs) none (fun _ => none) () (fun _ _ _ _ => ()) v
def aggK (v : SV) (k : List SV → R) : R := @SV.rec (fun _ => R) (fun _ => Unit) (fun _ _ => none) (fun _ => none) (fun _ _ => none) none (fun _ _ _ _ => none) (fun _ => none) none (fun _ _ _ _ _ => none) none (fun _ => none) (fun vs _ => k vs) (fun _ _ => none) none (fun _ => none) () (fun _ _ _ _ => ()) v
def notK (v : SV) (k : SV → R) : R := @SV.rec (fun _ => R) (fun _ => Unit) (fun _ _ => none) (fun x => @SB.rec (fun _ => R) (fun c => k (.bool (.lit (!c)))) (fun _ _ _ => none) x) (fun _ _ => none) none (fun _ _ _ _ => none) (fun _ => none) none (fun _ _ _ _ _ => none) none (fun _ => none) (fun _ _ => none) (fun _ _ => none) none (fun _ => none) () (fun _ _ _ _ => ()) v
def lenK (v : SV) (k : SV → R) : R := @SV.rec (fun _ => R) (fun _ => Unit) (fun _ _ => none) (fun _ => none) (fun _ _ => none) none (fun _ _ n _ => k (.int .i64 (.lit (Int.ofNat n)))) (fun _ => k (.int .i64 (.lit 0))) (k (.int .i64 (.lit 0))) (fun _ _ _ _ _ => none) none (fun _ => none) (fun _ _ => none) (fun _ _ => none) none (fun _ => none) () (fun _ _ _ _ => ()) v
def getH (s : St) (i : Nat) : Option AO := @St.rec (fun _ => Option AO) (fun h _ _ => Uk (pth i) h) s
def cellsK (o : AO) (k : Tri SV → R) : R := @AO.rec (fun _ => R) (fun cs _ _ _ => k cs) (fun _ _ _ _ _ _ => none) (fun _ _ _ _ _ => none) none none (fun _ _ => none) o
theorem boolK_none {v : SV} {a b : R} (h1 : v ≠ .bool (.lit true)) (h2 : v ≠ .bool (.lit false)) : boolK v a b = none := by
 cases v <;> first | rfl | skip
 rename_i b'
 cases b' with
 | lit c => cases c; exact (h2 rfl).elim; exact (h1 rfl).elim
 | cmp _ _ _ => rfl
def kGenV (P : Program) (o : Op) : KV := ⟨fun E s k => ob (pureV P E s o) k⟩
def small (n : Int) : Bool := @Int.rec (fun _ => Bool) (fun m => Nat.ble m 4611686018427387904) (fun m => Nat.ble m 4611686018427387904) n
def wr64 (n : Int) : Int := @Bool.rec (fun _ => Int) (IntKind.i64.wrap n) n (small n)
theorem wr64_eq (n : Int) : wr64 n = IntKind.i64.wrap n := by
 unfold wr64
 cases hs : small n with
 | false => rfl
 | true =>
  show n = _
  rw [IntKind.wrap_i64]
  cases n with
  | ofNat m => have : Nat.ble m 4611686018427387904 = true := hs; have := Nat.le_of_ble_eq_true this; simp only [Int.ofNat_eq_natCast]; omega
  | negSucc m => have : Nat.ble m 4611686018427387904 = true := hs; have := Nat.le_of_ble_eq_true this; simp only [Int.negSucc_eq]; omega
def addI (a b : Int) : Int := @Int.rec (fun _ => Int) (fun m => @Int.rec (fun _ => Int) (fun n => .ofNat (Nat.add m n)) (fun n => Int.ofNat m + Int.negSucc n) b) (fun m => Int.negSucc m + b) a
theorem addI_eq (a b : Int) : addI a b = a + b := by
 cases a <;> cases b <;> rfl
def iLt (a b : Int) : Bool := @Int.rec (fun _ => Bool) (fun m => @Int.rec (fun _ => Bool) (fun n => Nat.ble (Nat.succ m) n) (fun _ => false) b) (fun m => @Int.rec (fun _ => Bool) (fun _ => true) (fun n => Nat.ble (Nat.succ n) m) b) a
theorem iLt_eq (a b : Int) : iLt a b = decide (a < b) := by
 have key : ∀ {x : Bool} {p : Prop} [Decidable p], (x = true ↔ p) → x = decide p := fun {x p} _ h => by cases x <;> simp_all
 cases a with
 | ofNat a => cases b with
  | ofNat b => show Nat.ble (a + 1) b = _; apply key; simp [Nat.ble_eq]; omega
  | negSucc b => show false = _; apply key; simp only [Bool.false_eq_true, false_iff]; rw [Int.negSucc_eq]; simp only [Int.ofNat_eq_natCast]; omega
 | negSucc a => cases b with
  | ofNat b => show true = _; apply key; simp only [true_iff]; rw [Int.negSucc_eq]; simp only [Int.ofNat_eq_natCast]; omega
  | negSucc b => show Nat.ble (b + 1) a = _; apply key; simp only [Nat.ble_eq, Int.negSucc_eq]; omega
def iEq (a b : Int) : Bool := @Int.rec (fun _ => Bool) (fun m => @Int.rec (fun _ => Bool) (fun n => Nat.beq m n) (fun _ => false) b) (fun m => @Int.rec (fun _ => Bool) (fun _ => false) (fun n => Nat.beq m n) b) a
theorem iEq_eq (a b : Int) : iEq a b = decide (a = b) := by
 have key : ∀ {x : Bool} {p : Prop} [Decidable p], (x = true ↔ p) → x = decide p := fun {x p} _ h => by cases x <;> simp_all
 cases a with
 | ofNat a => cases b with
  | ofNat b => show Nat.beq a b = _; apply key; simp only [Nat.beq_eq, Int.ofNat_eq_natCast]; omega
  | negSucc b => show false = _; apply key; simp only [Bool.false_eq_true, false_iff]; rw [Int.negSucc_eq]; simp only [Int.ofNat_eq_natCast]; omega
 | negSucc a => cases b with
  | ofNat b => show false = _; apply key; simp only [Bool.false_eq_true, false_iff]; rw [Int.negSucc_eq]; simp only [Int.ofNat_eq_natCast]; omega
  | negSucc b => show Nat.beq a b = _; apply key; simp only [Nat.beq_eq, Int.negSucc_eq]; omega
def i64o (v : SV) (k : Int → R) (z : R) : R := @SV.rec (fun _ => R) (fun _ => Unit) (fun q e => @IntKind.rec (fun _ => R) z z z (@SE.rec (fun _ => R) k (fun _ => z) (fun _ _ _ _ _ _ => z) (fun _ _ _ => z) e) z z z z q) (fun _ => z) (fun _ _ => z) z (fun _ _ _ _ => z) (fun _ => z) z (fun _ _ _ _ _ => z) z (fun _ => z) (fun _ _ => z) (fun _ _ => z) z (fun _ => z) () (fun _ _ _ _ => ()) v
def i64K (x y : SV) (k : Int → Int → R) (e : R) : R := i64o x (fun a => i64o y (fun b => k a b) e) e
def kBin (P : Program) (o : BinOp) (t : TypeId) : K (SV → SV → (SV → R) → R) := match o with
  | .add => ⟨fun x y k => i64K x y (fun a b => k (.int .i64 (.lit (wr64 (addI a b))))) (ob (binS P .add t x y) k)⟩
  | .sub => ⟨fun x y k => i64K x y (fun a b => k (.int .i64 (.lit (wr64 (a - b))))) (ob (binS P .sub t x y) k)⟩
  | .lss => ⟨fun x y k => i64K x y (fun a b => k (.bool (.lit (iLt a b)))) (ob (binS P .lss t x y) k)⟩
  | .gtr => ⟨fun x y k => i64K x y (fun a b => k (.bool (.lit (iLt b a)))) (ob (binS P .gtr t x y) k)⟩
  | .leq => ⟨fun x y k => i64K x y (fun a b => k (.bool (.lit (!iLt b a)))) (ob (binS P .leq t x y) k)⟩
  | .geq => ⟨fun x y k => i64K x y (fun a b => k (.bool (.lit (!iLt a b)))) (ob (binS P .geq t x y) k)⟩
  | .eql => ⟨fun x y k => i64K x y (fun a b => k (.bool (.lit (iEq a b)))) (ob (binS P .eql t x y) k)⟩
  | .neq => ⟨fun x y k => i64K x y (fun a b => k (.bool (.lit (!iEq a b)))) (ob (binS P .neq t x y) k)⟩
  | o => ⟨fun x y k => ob (binS P o t x y) k⟩
theorem i64o_ok {v : SV} {k : Int → R} {z r : R} (h1 : ∀ a, v = .int .i64 (.lit a) → k a = r) (h2 : z = r) : i64o v k z = r := by
 cases v <;> first | exact h2 | skip
 rename_i q e
 cases q <;> first | exact h2 | skip
 cases e <;> first | exact h2 | skip
 exact h1 _ rfl
theorem i64K_ok {x y : SV} {k : Int → Int → R} {e r : R} (h1 : ∀ a b, x = .int .i64 (.lit a) → y = .int .i64 (.lit b) → k a b = r) (h2 : e = r) : i64K x y k e = r :=
 i64o_ok (fun a ha => i64o_ok (fun b hb => h1 a b ha hb) h2) h2
theorem kBin_ok (P : Program) (o : BinOp) (t : TypeId) (x y : SV) (k : SV → R) : (kBin P o t).f x y k = ob (binS P o t x y) k := by
  have hle : ∀ a b : Int, (!decide (b < a)) = decide (a ≤ b) := fun a b => by by_cases h : a ≤ b <;> simp [h]; omega
  cases o <;> first
    | rfl
    | (refine i64K_ok (fun a b ha hb => ?_) rfl
       subst ha; subst hb
       simp only [binS, decide_true, Bool.or_true, cond_true, intV, ob_some, addI_eq, wr64_eq, iLt_eq, iEq_eq, hle])
def kFill (P : Program) (t : TypeId) (ps : List (Nat × Operand)) : K (En → List SV → (List SV → R) → R) := @List.rec (Nat × Operand) (fun _ => K (En → List SV → (List SV → R) → R)) ⟨fun _ z k => k z⟩ (fun p _ r => useK (kOp p.2) fun f => useK r fun g => match placeT P t p.1 with
  | some (o, n) => ⟨fun E z k => f E fun v => ob (cellsOf v) fun cs => @Bool.rec (fun _ => R) none (@Bool.rec (fun _ => R) none (g E (setAt z o cs) k) (Nat.ble (o + n) (lenL z))) (Nat.beq (lenL cs) n)⟩
  | none => ⟨fun _ _ _ => none⟩) ps
theorem kFill_ok (P : Program) (t : TypeId) : ∀ (ps : List (Nat × Operand)) (E : En) (z : List SV) (k : List SV → R), (kFill P t ps).f E z k = ob (fillS P t E z ps) k
 | [], E, z, k => rfl
 | (i, x) :: ps, E, z, k => by
  have e : kFill P t ((i, x) :: ps) = (useK (kOp x) fun f => useK (kFill P t ps) fun g => match placeT P t i with
   | some (o, n) => ⟨fun E z k => f E fun v => ob (cellsOf v) fun cs => @Bool.rec (fun _ => R) none (@Bool.rec (fun _ => R) none (g E (setAt z o cs) k) (Nat.ble (o + n) (lenL z))) (Nat.beq (lenL cs) n)⟩
   | none => ⟨fun _ _ _ => none⟩ : K (En → List SV → (List SV → R) → R)) := rfl
  rw [e]
  simp only [useK_eq, fillS]
  cases hp : placeT P t i with
  | none => cases ev E x <;> rfl
  | some p =>
   obtain ⟨o, n⟩ := p
   show (kOp x).f E _ = _
   rw [kOp_ok]
   cases ev E x with
   | none => rfl
   | some v =>
    rw [ob_some]
    simp only
    cases cellsOf v with
    | none => rfl
    | some cs =>
     rw [ob_some]
     simp only
     cases Nat.beq (lenL cs) n <;> cases Nat.ble (o + n) (lenL z) <;> first | rfl | exact kFill_ok P t ps E _ k
def kLen (P : Program) (xs : List Operand) (ts : List TypeId) (g : KV) : KV := match xs, ts with
  | [x], t :: _ => match Xc P t with
    | some _ => useK (kOp x) fun f => ⟨fun E _ k => f E fun v => lenK v k⟩
    | none => g
  | _, _ => g
def kIdx (P : Program) (t : TypeId) (x y : Operand) (g : KV) : KV := match elT P t with
  | some (_, d) => match Xc P t with
    | some _ => useK (kOp x) fun f => useK (kOp y) fun h => useK g fun g => ⟨fun E s k => f E fun v => h E fun u => @SV.rec (fun _ => R) (fun _ => Unit) (fun _ _ => none) (fun _ => none) (fun _ _ => g E s k) none (fun i o n _ => natK u fun j => @Bool.rec (fun _ => R) none (k (.ptr i (o + j * d))) (Nat.blt j n)) (fun _ => none) none (fun _ _ _ _ _ => none) none (fun _ => none) (fun _ _ => none) (fun _ _ => none) none (fun _ => none) () (fun _ _ _ _ => ()) v⟩
    | none => g
  | none => g
def kField (P : Program) (t : TypeId) (x : Operand) (f : Nat) (g : KV) : KV := match P.underlying t with
  | some (.struct fs) => match fs[f]? with
    | some q => useK (kOp x) fun h => ⟨fun E _ k => h E fun v => aggK v fun cs => ob (partL P q.type cs q.offset) k⟩
    | none => g
  | _ => g
def kIndex (P : Program) (t : TypeId) (x y : Operand) (g : KV) : KV := match P.underlying t with
  | some (.array n e) => match Yy P e with
    | some d => useK (kOp x) fun f => useK (kOp y) fun h => ⟨fun E _ k => f E fun v => h E fun u => aggK v fun cs => natK u fun j => @Bool.rec (fun _ => R) none (ob (partL P e cs (j * d)) k) (Nat.blt j n)⟩
    | none => g
  | _ => g
def kBuild (P : Program) (t : TypeId) (ps : List (Nat × Operand)) (g : KV) : KV := match zeroS P t, buildN P t with
  | some z, some _ => useK (kFill P t ps) fun f => ⟨fun E _ k => f E z fun cs => k (.agg cs)⟩
  | _, _ => g
def kVal (P : Program) (o : Op) : KV := match o with
  | .move x => useK (kOp x) fun f => ⟨fun E _ k => f E k⟩
  | .assign x => useK (kOp x) fun f => ⟨fun E _ k => f E k⟩
  | .nilCheck x => useK (kOp x) fun f => ⟨fun E _ k => f E fun v => nilK v k⟩
  | .pick c a b => useK (kOp c) fun f => useK (kOp a) fun g => useK (kOp b) fun h => ⟨fun E _ k => f E fun v => boolK v (g E k) (h E k)⟩
  | .load t x => useK (kOp x) fun f => match Wo P t with
    | true => ⟨fun E s k => f E fun v => ptrK v fun i o => ob (getH s i) fun a => cellsK a fun cs => ob (Uk (pth o) cs) k⟩
    | false => match aggN P t with
      | some n => ⟨fun E s k => f E fun v => ptrK v fun i o => ob (getH s i) fun a => cellsK a fun cs => ob (takeC cs n o) fun l => k (.agg l)⟩
      | none => kGenV P (.load t x)
  | .fieldAddr t x i => useK (kOp x) fun f => match Wa P t i with
    | some d => ⟨fun E _ k => f E fun v => ptrK v fun i o => k (.ptr i (o + d))⟩
    | none => kGenV P (.fieldAddr t x i)
  | .binOp op t x y _ => useK (kOp x) fun f => useK (kOp y) fun g => useK (kBin P op t) fun h => ⟨fun E _ k => f E fun v => g E fun w => h v w k⟩
  | .unOp .not _ x => useK (kOp x) fun f => ⟨fun E _ k => f E fun v => notK v k⟩
  | .extract x i => useK (kOp x) fun f => ⟨fun E _ k => f E fun v => tupK v fun vs => ob (nthL vs i) k⟩
  | .convert s t x => useK (kOp x) fun f => match Nj P t, (P.underlying s).isSome with
    | some q, true => ⟨fun E _ k => f E fun v => litK v fun a => k (.int q (.lit (q.wrap a)))⟩
    | _, _ => kGenV P (.convert s t x)
  | .makeFunc (.func f) fs cs => useK (kArgs fs.toList) fun g => useK (kArgs cs.toList) fun h => ⟨fun E _ k => g E fun a => h E fun b => k (.fn f a b)⟩
  | .indexAddr t x y => kIdx P t x y (kGenV P (.indexAddr t x y))
  | .index t x y => kIndex P t x y (kGenV P (.index t x y))
  | .field t x f => kField P t x f (kGenV P (.field t x f))
  | .build t ps => kBuild P t ps.toList (kGenV P (.build t ps))
  | .call ⟨.builtin .len, xs, ts⟩ => kLen P xs.toList ts.toList (kGenV P (.call ⟨.builtin .len, xs, ts⟩))
  | o => kGenV P o
theorem getH_eq (s : St) (i : Nat) : getH s i = s.heap.get i := rfl
theorem natK_ok (v : SV) (k : Nat → R) : natK v k = ob (natOf v) k := by
 cases v <;> first | rfl | skip
 rename_i q e
 cases e <;> first | rfl | skip
 rename_i n
 cases n <;> rfl
theorem kVal_ok (P : Program) (o : Op) (E : En) (s : St) (k : SV → R) : (kVal P o).f E s k = ob (pureV P E s o) k := by
 unfold kVal
 split
 · rename_i x; show (kOp x).f E k = _; rw [kOp_ok]; rfl
 · rename_i x; show (kOp x).f E k = _; rw [kOp_ok]; rfl
 ·
  rename_i x
  show (kOp x).f E (fun v => nilK v k) = _
  rw [kOp_ok]; simp only [pureV]
  cases ev E x with
  | none => rfl
  | some v => cases v <;> rfl
 ·
  rename_i c x y
  show (kOp c).f E (fun v => boolK v ((kOp x).f E k) ((kOp y).f E k)) = _
  rw [kOp_ok, kOp_ok, kOp_ok]; simp only [pureV]
  cases ev E c with
  | none => rfl
  | some v =>
   rw [ob_some]
   split
   · rename_i h; injection h with h; subst h; rfl
   · rename_i h; injection h with h; subst h; rfl
   · rename_i h1 h2; exact boolK_none (fun e => h1 (by rw [e])) (fun e => h2 (by rw [e]))
 ·
  rename_i t x
  rw [useK_eq]
  cases hs : Wo P t with
  | false =>
   simp only
   cases ha : aggN P t with
   | none => rfl
   | some m =>
    show (kOp x).f E (fun v => ptrK v fun i o => ob (getH s i) fun a => cellsK a fun cs => ob (takeC cs m o) fun l => k (.agg l)) = _
    rw [kOp_ok]; simp only [pureV, part, hs, cond_false, ha]
    cases ev E x with
    | none => rfl
    | some v =>
     cases v <;> first | rfl | skip
     rename_i i o
     show ob (getH s i) _ = _
     rw [getH_eq]
     simp only
     cases s.heap.get i with
     | none => rfl
     | some a =>
      cases a <;> first | rfl | skip
      rename_i cs _ _ _
      show ob (takeC cs m o) _ = _
      simp only
      cases takeC cs m o <;> rfl
  | true =>
   show (kOp x).f E (fun v => ptrK v fun i o => ob (getH s i) fun a => cellsK a fun cs => ob (Uk (pth o) cs) k) = _
   rw [kOp_ok]; simp only [pureV, part, hs, cond_true]
   cases ev E x with
   | none => rfl
   | some v =>
    cases v <;> first | rfl | skip
    rename_i i o
    show ob (getH s i) _ = _
    rw [getH_eq]
    simp only
    cases s.heap.get i with
    | none => rfl
    | some a => cases a <;> rfl
 ·
  rename_i t x i
  rw [useK_eq]
  cases hs : Wa P t i with
  | none => rfl
  | some d =>
   show (kOp x).f E (fun v => ptrK v fun i o => k (.ptr i (o + d))) = _
   rw [kOp_ok]; simp only [pureV, hs]
   cases ev E x with
   | none => rfl
   | some v => cases v <;> rfl
 ·
  rename_i op t x y t2
  show (kOp x).f E (fun v => (kOp y).f E fun w => (kBin P op t).f v w k) = _
  rw [kOp_ok]; simp only [pureV]
  cases ev E x with
  | none => rfl
  | some v =>
   show (kOp y).f E (fun w => (kBin P op t).f v w k) = _
   rw [kOp_ok]
   cases ev E y with
   | none => rfl
   | some w => exact kBin_ok P op t v w k
 ·
  rename_i t x
  show (kOp x).f E (fun v => notK v k) = _
  rw [kOp_ok]; simp only [pureV]
  cases ev E x with
  | none => rfl
  | some v =>
   cases v <;> first | rfl | skip
   rename_i b; cases b <;> rfl
 ·
  rename_i x i
  show (kOp x).f E (fun v => tupK v fun vs => ob (nthL vs i) k) = _
  rw [kOp_ok]; simp only [pureV]
  cases ev E x with
  | none => rfl
  | some v => cases v <;> rfl
 ·
  rename_i t1 t2 x
  rw [useK_eq]
  cases hq : Nj P t2 with
  | none => rfl
  | some q =>
   cases hu : (P.underlying t1).isSome with
   | false => rfl
   | true =>
    show (kOp x).f E (fun v => litK v fun a => k (.int q (.lit (q.wrap a)))) = _
    rw [kOp_ok]; simp only [pureV, hq, hu, cond_true]
    cases ev E x with
    | none => rfl
    | some v =>
     cases v <;> first | rfl | skip
     rename_i q' e; cases e <;> rfl
 ·
  rename_i f fs cs
  show (kArgs fs.toList).f E (fun a => (kArgs cs.toList).f E fun b => k (.fn f a b)) = _
  rw [kArgs_ok]; simp only [pureV]
  cases evs E fs.toList with
  | none => rfl
  | some a =>
   rw [ob_some, kArgs_ok]
   cases evs E cs.toList <;> rfl
 ·
  rename_i t x y
  unfold kIdx
  cases he : elT P t with
  | none => rfl
  | some p =>
   obtain ⟨e, d⟩ := p
   cases hs : Xc P t with
   | none => simp only [hs]; rfl
   | some t' =>
    simp only [hs]
    show (kOp x).f E (fun v => (kOp y).f E fun u => _) = _
    rw [kOp_ok]
    cases hx : ev E x with
    | none => simp only [pureV, hx]; rfl
    | some v =>
     rw [ob_some, kOp_ok]
     cases hy : ev E y with
     | none => simp only [pureV, hx, hy]; cases v <;> rfl
     | some u =>
      rw [ob_some]
      cases v <;> first | (simp only [pureV, hx, hy, he]; done) | (simp only [pureV, hx, hy, he]; rfl) | rfl | skip
      ·
       rename_i i o n c
       show natK u _ = _
       rw [natK_ok]
       simp only [pureV, hx, hy, he, hs]
       cases natOf u with
       | none => rfl
       | some j => rw [ob_some]; simp only; cases Nat.blt j n <;> rfl
 ·
  rename_i t x y
  unfold kIndex
  split
  ·
   rename_i m e hu
   split
   ·
    rename_i d hd
    show (kOp x).f E (fun v => (kOp y).f E fun u => _) = _
    rw [kOp_ok]
    cases hx : ev E x with
    | none => simp only [pureV, hx]; rfl
    | some v =>
     rw [ob_some, kOp_ok]
     cases hy : ev E y with
     | none => simp only [pureV, hx, hy]; cases v <;> rfl
     | some u =>
      rw [ob_some]
      cases v <;> first | (simp only [pureV, hx, hy]; done) | (simp only [pureV, hx, hy]; rfl) | rfl | skip
      ·
       rename_i cs
       show natK u _ = _
       rw [natK_ok]
       simp only [pureV, hx, hy, hu, hd]
       cases natOf u with
       | none => rfl
       | some j => rw [ob_some]; simp only; cases Nat.blt j m <;> rfl
   · rfl
  · rfl
 ·
  rename_i t x f
  unfold kField
  split
  ·
   rename_i fs hu
   split
   ·
    rename_i q hq
    show (kOp x).f E (fun v => aggK v fun cs => ob (partL P q.type cs q.offset) k) = _
    rw [kOp_ok]
    cases hx : ev E x with
    | none => simp only [pureV, hx]; rfl
    | some v =>
     rw [ob_some]
     cases v <;> first | (simp only [pureV, hx]; done) | (simp only [pureV, hx]; rfl) | rfl | skip
     simp only [pureV, hx, hu, hq]; rfl
   · rfl
  · rfl
 ·
  rename_i t ps
  unfold kBuild
  split
  ·
   rename_i z q hz hq
   show (kFill P t ps.toList).f E z (fun cs => k (.agg cs)) = _
   rw [kFill_ok]
   have e : pureV P E s (.build t ps) = (match fillS P t E z ps.toList with | some cs => some (.agg cs) | none => none) := by
    simp only [pureV]
    rw [hz, hq]; rfl
   rw [e]
   cases fillS P t E z ps.toList <;> rfl
  · rfl
 ·
  rename_i xs ts
  unfold kLen
  split
  ·
   rename_i x t tl hxs hts
   split
   ·
    rename_i t' hs
    show (kOp x).f E (fun v => lenK v k) = _
    rw [kOp_ok]
    simp only [pureV, hxs, hts, evs]
    cases ev E x with
    | none => rfl
    | some v => simp only [hs]; cases v <;> rfl
   · rfl
  · rfl
 · rfl
end Go.Acq.Vx
noncomputable section
namespace Go.Acq.Vx
open Go Go.Acq
def newK (s : St) (o : AO) (k : Nat → St → R) : R := @St.rec (fun _ => R) (fun h n ms => k n ⟨setP (pth n) o h, n + 1, ms⟩) s
def setK (s : St) (i : Nat) (o : AO) (k : St → R) : R := @St.rec (fun _ => R) (fun h n ms => k ⟨setP (pth i) o h, n, ms⟩) s
def cells4 (o : AO) (k : Tri SV → Nat → TypeId → Bool → R) : R := @AO.rec (fun _ => R) k (fun _ _ _ _ _ _ => none) (fun _ _ _ _ _ => none) none none (fun _ _ => none) o
def ifB (b : Bool) (x : R) : R := @Bool.rec (fun _ => R) none x b
def putK (s : St) (i o : Nat) (vs : List SV) (k : St → R) : R := ob (getH s i) fun a => cells4 a fun cs n t m =>
  ifB (Nat.ble (o + lenL vs) n) (ifB (allC vs) (setK s i (.cells (putC cs o vs) n t m) k))
theorem putK_ok (s : St) (i o : Nat) (vs : List SV) (k : St → R) : putK s i o vs k = ob (putAt s i o vs) k := by
 unfold putK putAt
 rw [getH_eq]
 cases s.heap.get i with
 | none => rfl
 | some a =>
  cases a <;> first | rfl | skip
  rename_i cs n t m
  show ifB (Nat.ble (o + lenL vs) n) (ifB (allC vs) _) = _
  simp only
  cases Nat.ble (o + lenL vs) n <;> cases allC vs <;> rfl
theorem putAt_ms {s s' : St} {i o : Nat} {vs : List SV} (h : putAt s i o vs = some s') : s'.ms = s.ms := by
 unfold putAt at h
 split at h
 ·
  rw [cond_eq_ite] at h
  split at h
  · injection h with h; rw [← h]; rfl
  · cases h
 · cases h
def ef2 (r : Option (SV × St)) (ms : List Nat) (k : SV → St → R) : R := ob r fun p => @Prod.rec SV St (fun _ => R) (fun v s => @St.rec (fun _ => R) (fun h n _ => k v ⟨h, n, ms⟩) s) p
def msOf (s : St) : List Nat := @St.rec (fun _ => List Nat) (fun _ _ ms => ms) s
abbrev KE' := K (IH → En → St → (SV → St → R) → R)
def kGenE (P : Program) (X : List (FuncId × XK)) (o : Op) : KE' := ⟨fun ih E s k => ef2 (effV P X ih E s o) (msOf s) k⟩
def appL (a b : List SV) : List SV := @List.rec SV (fun _ => List SV) b (fun x _ ih => x :: ih) a
theorem appL_eq (a b : List SV) : appL a b = a ++ b := by
 induction a with
 | nil => rfl
 | cons x a ih => show x :: appL a b = x :: (a ++ b); rw [ih]
def extK (X : List (FuncId × XK)) (f : FuncId) (vs : List SV) : Option XK := @List.rec (FuncId × XK) (fun _ => Option XK) none (fun p _ ih => @Bool.rec (fun _ => Option XK) ih (@Bool.rec (fun _ => Option XK) ih (some p.2) (kFits p.2 vs)) (Nat.beq f p.1)) X
theorem extK_eq (f : FuncId) (vs : List SV) : ∀ X : List (FuncId × XK), extK X f vs = extV X f vs
 | [] => rfl
 | (g, q) :: X => by
  show (@Bool.rec (fun _ => Option XK) (extK X f vs) (@Bool.rec (fun _ => Option XK) (extK X f vs) (some q) (kFits q vs)) (Nat.beq f g)) = cond (Nat.beq f g && kFits q vs) (some q) (extV X f vs)
  rw [extK_eq f vs X]
  cases Nat.beq f g <;> cases kFits q vs <;> rfl
def callK (X : List (FuncId × XK)) (ih : IH) (s : St) (v : SV) (vs : List SV) (k : SV → St → R) (e : R) : R :=
  @SV.rec (fun _ => R) (fun _ => Unit) (fun _ _ => e) (fun _ => e) (fun _ _ => e) e (fun _ _ _ _ => e) (fun _ => e) e
    (fun f a b _ _ => @Option.rec XK (fun _ => R) (@St.rec (fun _ => R) (fun h n ms => ef2 (ih.call f (appL a (appL vs b)) ⟨h, n, []⟩) ms k) s) (fun q => ef2 (runX s q (appL a (appL vs b))) (msOf s) k) (extK X f (appL a (appL vs b))))
    e (fun _ => e) (fun _ _ => e) (fun _ _ => e) e (fun _ => e) () (fun _ _ _ _ => ()) v
def kEff (P : Program) (X : List (FuncId × XK)) (o : Op) : KE' := match o with
  | .alloc t => match zeroS P t with
    | some z => useK (K.mk (AO.cells (putC .e 0 z) (lenL z) t false)) fun o => ⟨fun _ _ s k => newK s o fun n s => k (.ptr n 0) s⟩
    | none => kGenE P X (.alloc t)
  | .box t x => useK (kOp x) fun f => ⟨fun _ E s k => f E fun v => ob (cellsOf v) fun cs => ifB (allC cs) (newK s (.cells (putC .e 0 cs) (lenL cs) t false) fun n s => k (.ptr n 0) s)⟩
  | .store t x y => useK (kOp x) fun f => useK (kOp y) fun g => match Yy P t with
    | some n => ⟨fun _ E s k => f E fun v => ptrK v fun i o => g E fun w => ob (cellsOf w) fun cs => ifB (Nat.beq (lenL cs) n) (putK s i o cs fun s => k .und s)⟩
    | none => kGenE P X (.store t x y)
  | .call ⟨.value x, xs, ts⟩ => useK (kOp x) fun f => useK (kArgs xs.toList) fun g => useK (kGenE P X (.call ⟨.value x, xs, ts⟩)) fun h => ⟨fun ih E s k => f E fun v => g E fun vs => callK X ih s v vs k (h ih E s k)⟩
  | o => kGenE P X o
theorem kEff_ok (P : Program) (X : List (FuncId × XK)) (o : Op) (ih : IH) (E : En) (s : St) (k : SV → St → R) : (kEff P X o).f ih E s k = ef2 (effV P X ih E s o) (msOf s) k := by
 unfold kEff
 split
 ·
  rename_i t
  cases hz : zeroS P t with
  | none => rfl
  | some z => simp only [effV, freshV, hz]; rfl
 ·
  rename_i t x
  show (kOp x).f E _ = _
  rw [kOp_ok]; simp only [effV, freshV]
  cases ev E x with
  | none => rfl
  | some v =>
   show ob (cellsOf v) _ = _
   simp only
   cases cellsOf v with
   | none => rfl
   | some cs => show ifB (allC cs) _ = _; simp only; cases allC cs <;> rfl
 ·
  rename_i t x y
  rw [useK_eq, useK_eq]
  cases hs : Yy P t with
  | none => rfl
  | some n =>
   show (kOp x).f E _ = _
   rw [kOp_ok]; simp only [effV, hs]
   cases ev E x with
   | none => rfl
   | some v =>
    cases hy : ev E y with
    | none =>
     rw [ob_some]
     cases v <;> first | rfl | skip
     show (kOp y).f E _ = _
     rw [kOp_ok, hy]; rfl
    | some w =>
     rw [ob_some]
     cases v <;> first | rfl | skip
     rename_i i o
     show (kOp y).f E _ = _
     rw [kOp_ok, hy]
     show ob (cellsOf w) _ = _
     simp only
     cases cellsOf w with
     | none => rfl
     | some cs =>
      show ifB (Nat.beq (lenL cs) n) _ = _
      simp only
      cases Nat.beq (lenL cs) n with
      | false => rfl
      | true =>
       show putK s i o cs _ = _
       rw [putK_ok]
       simp only [cond_true]
       cases hp : putAt s i o cs with
       | none => rfl
       | some s' =>
        have := putAt_ms hp
        show k .und s' = k .und ⟨s'.heap, s'.next, s.ms⟩
        rw [← this]
 ·
  rename_i x xs ts
  show (kOp x).f E (fun v => (kArgs xs.toList).f E fun vs => callK X ih s v vs k (ef2 (effV P X ih E s (.call ⟨.value x, xs, ts⟩)) (msOf s) k)) = _
  rw [kOp_ok]
  cases hx : ev E x with
  | none => simp only [effV, hx]; rfl
  | some v =>
   show (kArgs xs.toList).f E _ = _
   rw [kArgs_ok]
   cases hv : evs E xs.toList with
   | none => simp only [effV, hx, hv]; cases v <;> rfl
   | some vs =>
    show callK X ih s v vs k _ = _
    cases v <;> first | rfl | skip
    rename_i f a b
    have e : callK X ih s (.fn f a b) vs k (ef2 (effV P X ih E s (.call ⟨.value x, xs, ts⟩)) (msOf s) k) = @Option.rec XK (fun _ => R) (ef2 (ih.call f (appL a (appL vs b)) ⟨s.heap, s.next, []⟩) s.ms k) (fun q => ef2 (runX s q (appL a (appL vs b))) (msOf s) k) (extK X f (appL a (appL vs b))) := rfl
    rw [e]
    simp only [appL_eq, extK_eq, ← List.append_assoc]
    simp only [effV, hx, hv]
    cases extV X f (a ++ vs ++ b) with
    | some q => rfl
    | none =>
     simp only
     cases ih.call f (a ++ vs ++ b) ⟨s.heap, s.next, []⟩ with
     | none => rfl
     | some p => rfl
 · rfl
def kPut (d : Option Nat) : K (En → SV → (En → R) → R) := match d with
  | none => ⟨fun E _ k => k E⟩
  | some d => ⟨fun E v k => k ((d, v) :: E)⟩
theorem kPut_eq (d : Option Nat) (E : En) (v : SV) (k : En → R) : (kPut d).f E v k = k (putE E d v) := by cases d <;> rfl
def wantK (v : SV) (w : Bool) (a b : R) : R := @SV.rec (fun _ => R) (fun _ => Unit) (fun _ _ => none) (fun x => @SB.rec (fun _ => R) (fun c => @Bool.rec (fun _ => R) (@Bool.rec (fun _ => R) a b w) (@Bool.rec (fun _ => R) b a w) c) (fun _ _ _ => none) x) (fun _ _ => none) none (fun _ _ _ _ => none) (fun _ => none) none (fun _ _ _ _ _ => none) none (fun _ => none) (fun _ _ => none) (fun _ _ => none) b (fun _ => none) () (fun _ _ _ _ => ()) v
theorem wantK_eq (v : SV) (w : Bool) (a b : R) : wantK v w a b = match v with
 | .bool (.lit c) => cond (c == w) a b
 | .und => b
 | _ => none := by
 cases v <;> first | rfl | skip
 rename_i x; cases x <;> first | rfl | skip
 rename_i c; cases c <;> cases w <;> rfl
abbrev KP := K (IH → En → St → (SV → St → R) → R)
def sv2 (r : Option (SV × St)) (k : SV → St → R) : R := ob r fun p => @Prod.rec SV St (fun _ => R) k p
def kValO (P : Program) (X : List (FuncId × XK)) (n : Nat) (all : Array Oper) (o : Oper) : KP := match dstOk n o.dst with
  | false => ⟨fun _ _ _ _ => none⟩
  | true => useK (match isEff o.op with
      | true => useK (kEff P X o.op) fun f => (⟨fun ih E s k => f ih E s k⟩ : KP)
      | false => useK (kVal P o.op) fun f => ⟨fun _ E s k => f E s fun v => k v s⟩) fun f => match o.guard with
    | none => ⟨f⟩
    | some (j, w) => match (all[j]?).bind (·.dst) with
      | some t => ⟨fun ih E s k => ob (findE t E) fun v => wantK v w (f ih E s k) (k .und s)⟩
      | none => ⟨fun _ _ _ _ => none⟩
theorem kValO_ok (P : Program) (X : List (FuncId × XK)) (n : Nat) (all : Array Oper) (o : Oper) (ih : IH) (E : En) (s : St) (k : SV → St → R) : (kValO P X n all o).f ih E s k = sv2 (valO P X ih n all o E s) k := by
  unfold kValO valO
  cases hd : dstOk n o.dst with
  | false => rfl
  | true =>
    simp only [cond_true]
    have hw : ∀ ih E s k, (match isEff o.op with
        | true => useK (kEff P X o.op) fun f => (⟨fun ih E s k => f ih E s k⟩ : KP)
        | false => useK (kVal P o.op) fun f => ⟨fun _ E s k => f E s fun v => k v s⟩).f ih E s k =
      sv2 (cond (isEff o.op) (match effV P X ih E s o.op with | some (v, s') => some (v, (⟨s'.heap, s'.next, s.ms⟩ : St)) | none => none) (match pureV P E s o.op with | some v => some (v, s) | none => none)) k := by
      intro ih E s k
      cases isEff o.op with
      | true =>
        show (kEff P X o.op).f ih E s _ = _
        rw [kEff_ok]
        simp only [cond_true]
        cases effV P X ih E s o.op with
        | none => rfl
        | some p => rfl
      | false =>
        show (kVal P o.op).f E s _ = _
        rw [kVal_ok]
        simp only [cond_false]
        cases pureV P E s o.op with
        | none => rfl
        | some v => rfl
    show (useK _ _ : KP).f ih E s k = _
    rw [useK_eq]
    cases hg : o.guard with
    | none => simp only [wantS]; exact hw ih E s k
    | some jw =>
      obtain ⟨j, w⟩ := jw
      simp only [wantS]
      cases hj : (all[j]?).bind (·.dst) with
      | none => rfl
      | some t =>
        show ob (findE t E) _ = _
        rw [findE_eq]
        simp only
        cases fnd t E with
        | none => rfl
        | some v =>
          rw [ob_some]
          rw [wantK_eq]
          split
          · rename_i c
            simp only
            cases hc : (c == w) with
            | true => exact hw ih E s k
            | false => rfl
          · rfl
          · rename_i h1 h2
            cases v <;> first | rfl | (exact (h2 rfl).elim) | skip
            rename_i b
            cases b with
            | lit c => exact (h1 c rfl).elim
            | cmp _ _ _ => rfl
def kOper (P : Program) (X : List (FuncId × XK)) (n : Nat) (all : Array Oper) (o : Oper) : KO :=
  useK (kPut o.dst) fun p => useK (kValO P X n all o) fun f => ⟨fun ih E s k => f ih E s fun v s => p E v fun E => k E s⟩
def st2 (r : Option (En × St)) (k : En → St → R) : R := ob r fun p => k p.1 p.2
theorem kOper_ok (P : Program) (X : List (FuncId × XK)) (n : Nat) (all : Array Oper) (o : Oper) (ih : IH) (E : En) (s : St) (k : En → St → R) : (kOper P X n all o).f ih E s k = st2 (stepO P X ih n all o E s) k := by
 show (kValO P X n all o).f ih E s (fun v s => (kPut o.dst).f E v fun E => k E s) = _
 rw [kValO_ok]
 unfold stepO
 cases valO P X ih n all o E s with
 | none => rfl
 | some p => show (kPut o.dst).f E p.1 _ = _; rw [kPut_eq]; rfl
def kOps (P : Program) (X : List (FuncId × XK)) (n : Nat) (all : Array Oper) (l : List Oper) : KO :=
  @List.rec Oper (fun _ => KO) ⟨fun _ E s k => k E s⟩ (fun o _ r => useK (kOper P X n all o) fun f => useK r fun g => ⟨fun ih E s k => f ih E s fun E s => g ih E s k⟩) l
theorem kOps_ok (P : Program) (X : List (FuncId × XK)) (n : Nat) (all : Array Oper) : ∀ (l : List Oper) (ih : IH) (E : En) (s : St) (k : En → St → R), (kOps P X n all l).f ih E s k = st2 (runOps P X ih n all l E s) k
 | [], ih, E, s, k => rfl
 | o :: l, ih, E, s, k => by
  show (kOper P X n all o).f ih E s (fun E s => (kOps P X n all l).f ih E s k) = _
  rw [kOper_ok]
  simp only [runOps]
  cases stepO P X ih n all o E s with
  | none => rfl
  | some p => exact kOps_ok P X n all l ih p.1 p.2 k
def kFr (P : Program) (o : Op) : K (Nat → En → (SV → AO → R) → R) := match o with
  | .alloc t => match zeroS P t with
    | some z => useK (K.mk (AO.cells (putC .e 0 z) (lenL z) t false)) fun c => ⟨fun N _ k => k (.ptr N 0) c⟩
    | none => ⟨fun _ _ _ => none⟩
  | .box t x => useK (kOp x) fun f => ⟨fun N E k => f E fun v => ob (cellsOf v) fun cs => cond (allC cs) (k (.ptr N 0) (.cells (putC .e 0 cs) (lenL cs) t false)) none⟩
  | o => ⟨fun N E k => ob (freshV P E N o) fun p => k p.1 (.cells (putC .e 0 p.2.1) (lenL p.2.1) p.2.2 false)⟩
theorem kFr_ok (P : Program) (o : Op) (N : Nat) (E : En) (k : SV → AO → R) : (kFr P o).f N E k = ob (freshV P E N o) fun p => k p.1 (.cells (putC .e 0 p.2.1) (lenL p.2.1) p.2.2 false) := by
 unfold kFr
 split
 ·
  rename_i t
  simp only [freshV]
  cases zeroS P t <;> rfl
 ·
  rename_i t x
  show (kOp x).f E _ = _
  rw [kOp_ok]; simp only [freshV]
  cases ev E x with
  | none => rfl
  | some v =>
   show ob (cellsOf v) _ = _
   simp only
   cases cellsOf v with
   | none => rfl
   | some cs => show cond (allC cs) _ none = _; simp only; cases allC cs <;> rfl
 · rfl
abbrev KD := K (Nat → IH → En → St → (SV → St → R) → R)
def kFrO (P : Program) (n : Nat) (all : Array Oper) (i : Nat) (o : Oper) : KD := match dstOk n o.dst with
  | false => ⟨fun _ _ _ _ _ => none⟩
  | true => useK (kFr P o.op) fun f => match o.guard with
    | none => ⟨fun b _ E s k => f (b + i) E fun v c => setK s (b + i) c fun s => k v s⟩
    | some (j, w) => match (all[j]?).bind (·.dst) with
      | some t => ⟨fun b _ E s k => ob (findE t E) fun v => wantK v w (f (b + i) E fun v c => setK s (b + i) c fun s => k v s) (setK s (b + i) .gone fun s => k .und s)⟩
      | none => ⟨fun _ _ _ _ _ => none⟩
def kStepD (P : Program) (X : List (FuncId × XK)) (n : Nat) (all : Array Oper) (A : List Nat) (i : Nat) (o : Oper) : KD := match isFresh o.op with
  | true => kFrO P n all i o
  | false => match isEff o.op with
    | true => useK (K.mk (hidL all A i)) fun l => useK (kValO P X n all o) fun f => ⟨fun b ih E s k => @St.rec (fun _ => R) (fun h nx ms => f ih E ⟨hideH b h l, nx, ms⟩ fun v s' => @St.rec (fun _ => R) (fun h' nx' ms' => k v ⟨showH b h h' l, nx', ms'⟩) s') s⟩
    | false => useK (kValO P X n all o) fun f => ⟨fun b ih E s k => cond (seesOk all A b E i o.op) (f ih E s k) none⟩
theorem kStepD_ok (P : Program) (X : List (FuncId × XK)) (n : Nat) (all : Array Oper) (A : List Nat) (i : Nat) (o : Oper) (b : Nat) (ih : IH) (E : En) (s : St) (k : SV → St → R) : (kStepD P X n all A i o).f b ih E s k = sv2 (valD P X ih n all A b i o E s) k := by
 unfold kStepD valD
 cases hf : isFresh o.op with
 | true =>
  simp only [cond_true]
  unfold kFrO
  cases hd : dstOk n o.dst with
  | false => rfl
  | true =>
   simp only [cond_true]
   have hw : (kFr P o.op).f (b + i) E (fun v c => setK s (b + i) c fun s => k v s) = sv2 (match freshV P E (b + i) o.op with | some (v, cs, t) => some (v, s.set (b + i) (.cells (putC .e 0 cs) (lenL cs) t false)) | none => none) k := by
    rw [kFr_ok]
    cases freshV P E (b + i) o.op with
    | none => rfl
    | some p => rfl
   show (useK _ _ : KD).f b ih E s k = _
   rw [useK_eq]
   cases hg : o.guard with
   | none => simp only [wantS]; exact hw
   | some jw =>
    obtain ⟨j, w⟩ := jw
    simp only [wantS]
    cases hj : (all[j]?).bind (·.dst) with
    | none => rfl
    | some t =>
     show ob (findE t E) _ = _
     rw [findE_eq]
     simp only
     cases fnd t E with
     | none => rfl
     | some v =>
      rw [ob_some]
      rw [wantK_eq]
      split
      ·
       rename_i c
       simp only
       cases hc : (c == w) with
       | true => exact hw
       | false => rfl
      · rfl
      ·
       rename_i h1 h2
       cases v <;> first | rfl | (exact (h2 rfl).elim) | skip
       rename_i b'
       cases b' with
       | lit c => exact (h1 c rfl).elim
       | cmp _ _ _ => rfl
 | false =>
  simp only [cond_false]
  cases he : isEff o.op with
  | true =>
   simp only [cond_true]
   show (kValO P X n all o).f ih E ⟨hideH b s.heap (hidL all A i), s.next, s.ms⟩ _ = _
   rw [kValO_ok]
   cases valO P X ih n all o E ⟨hideH b s.heap (hidL all A i), s.next, s.ms⟩ with
   | none => rfl
   | some p => rfl
  | false =>
   simp only [cond_false]
   show cond (seesOk all A b E i o.op) ((kValO P X n all o).f ih E s k) none = _
   rw [kValO_ok]
   cases seesOk all A b E i o.op <;> rfl
def restrK (E : En) (ts : List Nat) (k : En → R) : R := @List.rec Nat (fun _ => (En → R) → R) (fun k => k []) (fun t _ ih k => @Option.rec SV (fun _ => R) (ih k) (fun v => ih fun E' => k ((t, v) :: E')) (findE t E)) ts k
theorem restrK_eq (E : En) : ∀ (ts : List Nat) (k : En → R), restrK E ts k = k (restr E ts)
 | [], k => rfl
 | t :: ts, k => by
  show (@Option.rec SV (fun _ => R) (restrK E ts k) (fun v => restrK E ts fun E' => k ((t, v) :: E')) (findE t E)) = _
  rw [findE_eq]
  simp only [restr]
  cases fnd t E with
  | none => exact restrK_eq E ts k
  | some v => exact restrK_eq E ts _
abbrev QL := List (Nat × En × SV)
abbrev KDs := K (Nat → IH → En → St → (En → St → List St → QL → R) → R)
def kDs (P : Program) (X : List (FuncId × XK)) (n : Nat) (all : Array Oper) (A : List Nat) (l : List Oper) : Nat → KDs :=
  @List.rec Oper (fun _ => Nat → KDs) (fun _ => ⟨fun _ _ E s k => k E s [] []⟩) (fun o _ r i => useK (K.mk (readsO all o)) fun rs => useK (kStepD P X n all A i o) fun f => useK (kPut o.dst) fun p => useK (r (i + 1)) fun g => match isEff o.op with
    | true => match isFresh o.op with
      | true => ⟨fun b ih E s k => restrK E rs fun E' => f b ih E' s fun v s' => p E v fun E2 => g b ih E2 s' k⟩
      | false => ⟨fun b ih E s k => restrK E rs fun E' => f b ih E' s fun v s' => p E v fun E2 => g b ih E2 s' fun E3 s3 ss qs => k E3 s3 (s' :: ss) qs⟩
    | false => match looks o.op with
      | true => ⟨fun b ih E s k => restrK E rs fun E' => f b ih E' s fun v s' => p E v fun E2 => g b ih E2 s' fun E3 s3 ss qs => k E3 s3 ss ((i, E', v) :: qs)⟩
      | false => ⟨fun b ih E s k => restrK E rs fun E' => f b ih E' s fun v s' => p E v fun E2 => g b ih E2 s' k⟩) l
def ds4 (r : Option (En × St × List St × QL)) (k : En → St → List St → QL → R) : R := ob r fun p => k p.1 p.2.1 p.2.2.1 p.2.2.2
theorem kDs_ok (P : Program) (X : List (FuncId × XK)) (n : Nat) (all : Array Oper) (A : List Nat) : ∀ (l : List Oper) (i b : Nat) (ih : IH) (E : En) (s : St) (k : En → St → List St → QL → R), (kDs P X n all A l i).f b ih E s k = ds4 (runDs P X ih n all A b i l E s) k
  | [], i, b, ih, E, s, k => rfl
  | o :: l, i, b, ih, E, s, k => by
    have step : ∀ (k' : SV → En → En → St → List St → QL → St → R), restrK E (readsO all o) (fun E' => (kStepD P X n all A i o).f b ih E' s fun v s' => (kPut o.dst).f E v fun E2 => (kDs P X n all A l (i + 1)).f b ih E2 s' fun E3 s3 ss qs => k' v E' E3 s3 ss qs s') =
        ob (valD P X ih n all A b i o (restr E (readsO all o)) s) fun p => ob (runDs P X ih n all A b (i + 1) l (putE E o.dst p.1) p.2) fun q => k' p.1 (restr E (readsO all o)) q.1 q.2.1 q.2.2.1 q.2.2.2 p.2 := by
      intro k'
      rw [restrK_eq, kStepD_ok]
      cases valD P X ih n all A b i o (restr E (readsO all o)) s with
      | none => rfl
      | some p =>
        show (kPut o.dst).f E p.1 _ = _
        rw [kPut_eq, kDs_ok P X n all A l]
        rfl
    have e : (kDs P X n all A (o :: l) i) = (useK (K.mk (readsO all o)) fun rs => useK (kStepD P X n all A i o) fun f => useK (kPut o.dst) fun p => useK (kDs P X n all A l (i + 1)) fun g => match isEff o.op with
      | true => match isFresh o.op with
        | true => (⟨fun b ih E s k => restrK E rs fun E' => f b ih E' s fun v s' => p E v fun E2 => g b ih E2 s' k⟩ : KDs)
        | false => ⟨fun b ih E s k => restrK E rs fun E' => f b ih E' s fun v s' => p E v fun E2 => g b ih E2 s' fun E3 s3 ss qs => k E3 s3 (s' :: ss) qs⟩
      | false => match looks o.op with
        | true => ⟨fun b ih E s k => restrK E rs fun E' => f b ih E' s fun v s' => p E v fun E2 => g b ih E2 s' fun E3 s3 ss qs => k E3 s3 ss ((i, E', v) :: qs)⟩
        | false => ⟨fun b ih E s k => restrK E rs fun E' => f b ih E' s fun v s' => p E v fun E2 => g b ih E2 s' k⟩) := rfl
    rw [e]
    simp only [useK_eq]
    simp only [runDs]
    cases he : isEff o.op with
    | true =>
      cases hf : isFresh o.op with
      | true =>
        simp only [cond_true]
        refine (step fun _ _ E3 s3 ss qs _ => k E3 s3 ss qs).trans ?_
        cases valD P X ih n all A b i o (restr E (readsO all o)) s with
        | none => rfl
        | some p =>
          simp only [ob_some]
          cases runDs P X ih n all A b (i + 1) l (putE E o.dst p.1) p.2 <;> rfl
      | false =>
        simp only [cond_true, cond_false]
        refine (step fun _ _ E3 s3 ss qs s' => k E3 s3 (s' :: ss) qs).trans ?_
        cases valD P X ih n all A b i o (restr E (readsO all o)) s with
        | none => rfl
        | some p =>
          simp only [ob_some]
          cases runDs P X ih n all A b (i + 1) l (putE E o.dst p.1) p.2 <;> rfl
    | false =>
      cases hl : looks o.op with
      | true =>
        simp only [cond_true, cond_false]
        refine (step fun v E' E3 s3 ss qs s' => k E3 s3 ss ((i, E', v) :: qs)).trans ?_
        cases valD P X ih n all A b i o (restr E (readsO all o)) s with
        | none => rfl
        | some p =>
          simp only [ob_some]
          cases runDs P X ih n all A b (i + 1) l (putE E o.dst p.1) p.2 <;> rfl
      | false =>
        simp only [cond_false]
        refine (step fun _ _ E3 s3 ss qs _ => k E3 s3 ss qs).trans ?_
        cases valD P X ih n all A b i o (restr E (readsO all o)) s with
        | none => rfl
        | some p =>
          simp only [ob_some]
          cases runDs P X ih n all A b (i + 1) l (putE E o.dst p.1) p.2 <;> rfl
def kDraw (P : Program) (X : List (FuncId × XK)) (n : Nat) (ops : Array Oper) : KO := useK (K.mk (ancs ops.toList [])) fun A => match drawOk ops A with
  | false => ⟨fun _ _ _ _ => none⟩
  | true => useK (kDs P X n ops A ops.toList 0) fun f => useK (K.mk ops.size) fun m => ⟨fun ih E s k => @St.rec (fun _ => R) (fun h nx ms => f nx ih E ⟨h, nx + m, ms⟩ fun E2 s2 ss qs => cond (qs.all fun q => sameQ P ops A nx (⟨h, nx + m, ms⟩ :: ss) q.1 q.2.1 q.2.2) (k E2 s2) none) s⟩
theorem kDraw_ok (P : Program) (X : List (FuncId × XK)) (n : Nat) (ops : Array Oper) (ih : IH) (E : En) (s : St) (k : En → St → R) : (kDraw P X n ops).f ih E s k = st2 (runDraw P X ih n ops E s) k := by
 unfold kDraw runDraw runDrawA
 rw [useK_eq]
 simp only
 cases drawOk ops (ancs ops.toList []) with
 | false => rfl
 | true =>
  simp only [cond_true]
  show (kDs P X n ops (ancs ops.toList []) ops.toList 0).f s.next ih E ⟨s.heap, s.next + ops.size, s.ms⟩ _ = _
  rw [kDs_ok]
  cases runDs P X ih n ops (ancs ops.toList []) s.next 0 ops.toList E ⟨s.heap, s.next + ops.size, s.ms⟩ with
  | none => rfl
  | some p =>
   obtain ⟨E2, s2, ss, qs⟩ := p
   show cond (qs.all _) (k E2 s2) none = _
   simp only
   cases (qs.all fun q => sameQ P ops (ancs ops.toList []) s.next (⟨s.heap, s.next + ops.size, s.ms⟩ :: ss) q.1 q.2.1 q.2.2) <;> rfl
def onR (r : R) (n : En → St → R) (e : Ex → En → St → R) : R := ob r fun p => @Prod.rec Ex (En × St) (fun _ => R) (fun x q => @Prod.rec En St (fun _ => R) (fun E s => @Ex.rec (fun _ => R) (n E s) (e .ret E s) (fun id => e (.exit id) E s) x) q) p
def retR (E : En) (s : St) : R := some (.nor, E, s)
def outR (x : Ex) (E : En) (s : St) : R := some (x, E, s)
def bindR (r : R) (k : En → St → R) : R := onR r k outR
theorem bindR_ret (r : R) : bindR r retR = r := by
 cases r with
 | none => rfl
 | some p => obtain ⟨x, E, s⟩ := p; cases x <;> rfl
def anyB (t : Nat) (l : List Nat) : Bool := @List.rec Nat (fun _ => Bool) false (fun d _ ih => @Bool.rec (fun _ => Bool) ih true (Nat.beq t d)) l
theorem anyB_eq (t : Nat) : ∀ l : List Nat, anyB t l = l.any (Nat.beq t)
 | [] => rfl
 | d :: l => by
  show (@Bool.rec (fun _ => Bool) (anyB t l) true (Nat.beq t d)) = _
  rw [anyB_eq t l, List.any_cons]
  cases Nat.beq t d <;> rfl
def dedK (E : En) (seen : List Nat) : En := @List.rec (Nat × SV) (fun _ => List Nat → En) (fun _ => []) (fun p _ ih seen => @Prod.rec Nat SV (fun _ => En) (fun d v => @Bool.rec (fun _ => En) ((d, v) :: ih (d :: seen)) (ih seen) (anyB d seen)) p) E seen
theorem dedK_eq : ∀ (E : En) (seen : List Nat), dedK E seen = ded E seen
 | [], seen => rfl
 | (d, v) :: E, seen => by
  show (@Bool.rec (fun _ => En) ((d, v) :: dedK E (d :: seen)) (dedK E seen) (anyB d seen)) = _
  rw [anyB_eq, dedK_eq E, dedK_eq E]
  simp only [ded]
  cases seen.any (Nat.beq d) <;> rfl
def kCode (P : Program) (X : List (FuncId × XK)) (n : Nat) (top : Bool) (c : Code) : KO :=
  @Code.rec (fun _ => KO)
    ⟨fun _ E s k => k E s⟩
    (fun _ ops draw => match draw with
      | true => kDraw P X n ops
      | false => kOps P X n ops ops.toList)
    (fun _ _ fa fb => useK fa fun f => useK fb fun g => ⟨fun ih E s k => f ih E s fun E s => g ih E s k⟩)
    (fun x _ _ fa fb => useK (kOp x) fun h => useK fa fun f => useK fb fun g => ⟨fun ih E s k => h E fun v => boolK v (f ih E s k) (g ih E s k)⟩)
    (fun id _ fa => useK fa fun f => ⟨fun ih E s k => onR (f ih E s retR) k fun x E s => @Ex.rec (fun _ => R) (k E s) (some (.ret, E, s)) (fun j => cond (Nat.beq j id) (k E s) (some (.exit j, E, s))) x⟩)
    (fun a fa => useK fa fun f => ⟨fun ih E s k => onR (f ih E s retR) (fun E s => bindR (ih.code n top (.loop a) (dedK E []) s) k) outR⟩)
    (fun x ps az bd _ _ => ⟨fun ih E s k => bindR (codeS P X ih n top (.rangeFunc x ps az bd) E s) k⟩)
    (fun id => ⟨fun _ E s _ => some (.exit id, E, s)⟩)
    (fun _ fa => match top with
      | true => fa
      | false => ⟨fun _ _ _ _ => none⟩)
    (fun _ => ⟨fun _ _ _ _ => none⟩)
    (fun _ => ⟨fun _ _ _ _ => none⟩)
    ⟨fun _ E s _ => some (.ret, E, s)⟩
    (fun _ => ⟨fun _ _ _ _ => none⟩) c
theorem kCode_ok (P : Program) (X : List (FuncId × XK)) (n : Nat) (top : Bool) (c : Code) : ∀ (ih : IH) (E : En) (s : St) (k : En → St → R), (kCode P X n top c).f ih E s k = bindR (codeS P X ih n top c E s) k := by
 induction c with
 | skip => intro ih E s k; rfl
 | ret => intro ih E s k; rfl
 | exit id => intro ih E s k; rfl
 | region id ops draw =>
  intro ih E s k
  simp only [codeS]
  cases draw with
  | true =>
   show (kDraw P X n ops).f ih E s k = _
   rw [kDraw_ok]
   simp only [cond_true]
   cases runDraw P X ih n ops E s with
   | none => rfl
   | some p => rfl
  | false =>
   show (kOps P X n ops ops.toList).f ih E s k = _
   rw [kOps_ok]
   simp only [cond_false]
   cases runOps P X ih n ops ops.toList E s with
   | none => rfl
   | some p => rfl
 | seq x y hx hy =>
  intro ih E s k
  show (kCode P X n top x).f ih E s (fun E s => (kCode P X n top y).f ih E s k) = _
  rw [hx]
  simp only [codeS]
  cases codeS P X ih n top x E s with
  | none => rfl
  | some p =>
   obtain ⟨z, E1, s1⟩ := p
   cases z with
   | nor => exact hy ih E1 s1 k
   | ret => rfl
   | exit id => rfl
 | cond o x y hx hy =>
  intro ih E s k
  show (kOp o).f E (fun v => boolK v ((kCode P X n top x).f ih E s k) ((kCode P X n top y).f ih E s k)) = _
  rw [kOp_ok, hx, hy]
  simp only [codeS]
  cases ev E o with
  | none => rfl
  | some v =>
   rw [ob_some]
   split
   · rename_i h; injection h with h; subst h; rfl
   · rename_i h; injection h with h; subst h; rfl
   · rename_i h1 h2; exact boolK_none (fun e => h1 (by rw [e])) (fun e => h2 (by rw [e]))
 | block id x hx =>
  intro ih E s k
  have h0 : (kCode P X n top (.block id x)).f ih E s k = onR ((kCode P X n top x).f ih E s retR) k fun x E s => @Ex.rec (fun _ => R) (k E s) (some (.ret, E, s)) (fun j => cond (Nat.beq j id) (k E s) (some (.exit j, E, s))) x := rfl
  rw [h0, hx, bindR_ret]
  simp only [codeS]
  cases codeS P X ih n top x E s with
  | none => rfl
  | some p =>
   obtain ⟨z, E1, s1⟩ := p
   cases z with
   | nor => rfl
   | ret => rfl
   | exit j => show cond (Nat.beq j id) _ _ = _; simp only; cases Nat.beq j id <;> rfl
 | loop x hx =>
  intro ih E s k
  have h0 : (kCode P X n top (.loop x)).f ih E s k = onR ((kCode P X n top x).f ih E s retR) (fun E s => bindR (ih.code n top (.loop x) (dedK E []) s) k) outR := rfl
  rw [h0, hx, bindR_ret]
  simp only [codeS]
  cases codeS P X ih n top x E s with
  | none => rfl
  | some p =>
   obtain ⟨z, E1, s1⟩ := p
   cases z with
   | nor => show bindR (ih.code n top (.loop x) (dedK E1 []) s1) k = _; rw [dedK_eq]
   | ret => rfl
   | exit j => rfl
 | rangeFunc o ps az bd ha hb => intro ih E s k; rfl
 | scope x hx =>
  intro ih E s k
  cases top with
  | true => simp only [codeS]; exact hx ih E s k
  | false => rfl
 | label l => intro ih E s k; rfl
 | goto l => intro ih E s k; rfl
 | refuse y => intro ih E s k; rfl
def finG (P : Program) (rs : List ResultVar) (r : R) : Option (SV × St) := match r with
  | some (x, E, s') => match x with
    | .exit _ => none
    | _ => cond (marksOk s'.heap s'.ms) (match resOf P E ⟨dropMs s'.heap s'.ms, s'.next, []⟩ rs with
      | some rs => some (packS rs, ⟨dropMs s'.heap s'.ms, s'.next, []⟩)
      | none => none) none
  | none => none
abbrev RF := Option (SV × St)
def entK (vs : List SV) : En := @List.rec SV (fun _ => Nat → En → En) (fun _ E => E) (fun v _ ih k E => ih (Nat.succ k) ((k, v) :: E)) vs 0 []
theorem entK_eq (vs : List SV) : entK vs = enterS 0 vs [] := by
 have : ∀ (vs : List SV) (k : Nat) (E : En), @List.rec SV (fun _ => Nat → En → En) (fun _ E => E) (fun v _ ih k E => ih (Nat.succ k) ((k, v) :: E)) vs k E = enterS k vs E := by
  intro vs
  induction vs with
  | nil => intro k E; rfl
  | cons v vs ih => intro k E; exact ih (k + 1) ((k, v) :: E)
 exact this vs 0 []
theorem lenK_eq : ∀ vs : List SV, lenL vs = vs.length
 | [] => rfl
 | _ :: vs => by show Nat.succ (lenL vs) = _; rw [lenK_eq vs]; rfl
def kRes (P : Program) (r : ResultVar) : K (En → St → (SV → RF) → RF) := match r with
  | .tmp t => ⟨fun E _ k => @Option.rec SV (fun _ => RF) none k (findE t E)⟩
  | r => ⟨fun E s k => match resOf P E s [r] with | some [v] => k v | _ => none⟩
theorem kRes_ok (P : Program) (r : ResultVar) (E : En) (s : St) (k : SV → RF) : (kRes P r).f E s k = match resOf P E s [r] with | some [v] => k v | _ => none := by
 cases r with
 | tmp t =>
  show @Option.rec SV (fun _ => RF) none k (findE t E) = _
  rw [findE_eq]
  simp only [resOf]
  cases fnd t E <;> rfl
 | cell x t => rfl
def kResL (P : Program) (rs : List ResultVar) : K (En → St → (List SV → RF) → RF) := @List.rec ResultVar (fun _ => K (En → St → (List SV → RF) → RF)) ⟨fun _ _ k => k []⟩ (fun r _ ih => useK (kRes P r) fun f => useK ih fun g => ⟨fun E s k => g E s fun vs => f E s fun v => k (v :: vs)⟩) rs
theorem kResL_ok (P : Program) : ∀ (rs : List ResultVar) (E : En) (s : St) (k : List SV → RF), (kResL P rs).f E s k = match resOf P E s rs with | some vs => k vs | none => none
 | [], E, s, k => rfl
 | r :: rs, E, s, k => by
  show (kResL P rs).f E s (fun vs => (kRes P r).f E s fun v => k (v :: vs)) = _
  rw [kResL_ok P rs]
  simp only [resOf]
  cases resOf P E s rs with
  | none => rfl
  | some vs =>
   simp only
   rw [kRes_ok]
   simp only [resOf]
   cases r with
   | tmp t => simp only; cases fnd t E <;> rfl
   | cell x t =>
    simp only
    cases fnd x E with
    | none => rfl
    | some v =>
     cases v <;> first | rfl | skip
     rename_i i o
     simp only
     cases s.heap.get i with
     | none => rfl
     | some a =>
      cases a <;> first | rfl | skip
      rename_i cs _ _ _
      simp only
      cases part P t cs o <;> rfl
def packK (vs : List SV) : SV := @List.rec SV (fun _ => SV) (.tup vs) (fun v tl _ => @List.rec SV (fun _ => SV) v (fun _ _ _ => .tup vs) tl) vs
theorem packK_eq (vs : List SV) : packK vs = packS vs := by
 match vs with
 | [] => rfl
 | [_] => rfl
 | _ :: _ :: _ => rfl
def finK (rs : En → St → (List SV → RF) → RF) (r : R) : RF := @Option.rec (Ex × En × St) (fun _ => RF) none (fun p => @Prod.rec Ex (En × St) (fun _ => RF) (fun x q => @Prod.rec En St (fun _ => RF) (fun E s => @Ex.rec (fun _ => RF)
    (@St.rec (fun _ => RF) (fun h n ms => @List.rec Nat (fun _ => RF) (rs E ⟨h, n, []⟩ fun vs => some (packK vs, ⟨h, n, []⟩)) (fun _ _ _ => cond (marksOk h ms) (rs E ⟨dropMs h ms, n, []⟩ fun vs => some (packK vs, ⟨dropMs h ms, n, []⟩)) none) ms) s)
    (@St.rec (fun _ => RF) (fun h n ms => @List.rec Nat (fun _ => RF) (rs E ⟨h, n, []⟩ fun vs => some (packK vs, ⟨h, n, []⟩)) (fun _ _ _ => cond (marksOk h ms) (rs E ⟨dropMs h ms, n, []⟩ fun vs => some (packK vs, ⟨dropMs h ms, n, []⟩)) none) ms) s)
    (fun _ => none) x) q) p) r
theorem finK_ok (P : Program) (rs : List ResultVar) (r : R) : finK (kResL P rs).f r = finG P rs r := by
  cases r with
  | none => rfl
  | some p =>
    obtain ⟨x, E, s⟩ := p
    obtain ⟨h, n, ms⟩ := s
    have key : (@List.rec Nat (fun _ => RF) ((kResL P rs).f E ⟨h, n, []⟩ fun vs => some (packK vs, ⟨h, n, []⟩)) (fun _ _ _ => cond (marksOk h ms) ((kResL P rs).f E ⟨dropMs h ms, n, []⟩ fun vs => some (packK vs, ⟨dropMs h ms, n, []⟩)) none) ms) =
        cond (marksOk h ms) (match resOf P E ⟨dropMs h ms, n, []⟩ rs with | some rs => some (packS rs, (⟨dropMs h ms, n, []⟩ : St)) | none => none) none := by
      cases ms with
      | nil =>
        show (kResL P rs).f E ⟨h, n, []⟩ _ = _
        rw [kResL_ok]
        simp only [packK_eq]; rfl
      | cons i ms =>
        show cond _ ((kResL P rs).f E _ _) none = _
        rw [kResL_ok]
        simp only [packK_eq]
    cases x with
    | nor => exact key
    | ret => exact key
    | exit id => rfl
def kFun (P : Program) (X : List (FuncId × XK)) (f : FuncId) : K (IH → List SV → St → Option (SV × St)) := match P.funcs[f]? with
  | some fn => match fn.body with
    | some c => match fn.name == "runtime.NumGoroutine" with
      | true => ⟨fun _ _ _ => none⟩
      | false => useK (K.mk fn.ntmps) fun n => useK (kCode P X n true c) fun g => useK (kResL P fn.results.toList) fun rs => ⟨fun ih vs s => @Bool.rec (fun _ => RF) none (finK rs (g ih (entK vs) s retR)) (Nat.ble (lenL vs) n)⟩
    | none => ⟨fun _ _ _ => none⟩
  | none => ⟨fun _ _ _ => none⟩
theorem kFun_ok (P : Program) (X : List (FuncId × XK)) (f : FuncId) (ih : IH) (vs : List SV) (s : St) : (kFun P X f).f ih vs s = funS P X ih f vs s := by
 unfold kFun funS
 cases P.funcs[f]? with
 | none => rfl
 | some fn =>
  simp only
  cases fn.body with
  | none => rfl
  | some c =>
   simp only
   cases fn.name == "runtime.NumGoroutine" with
   | true => simp
   | false =>
    show @Bool.rec (fun _ => RF) none (finK (kResL P fn.results.toList).f ((kCode P X fn.ntmps true c).f ih (entK vs) s retR)) (Nat.ble (lenL vs) fn.ntmps) = _
    rw [kCode_ok, bindR_ret, finK_ok, entK_eq, lenK_eq]
    cases Nat.ble vs.length fn.ntmps with
    | false => rfl
    | true =>
     simp only [cond_true, Bool.not_false, Bool.and_self]
     cases codeS P X ih fn.ntmps true c (enterS 0 vs []) s with
     | none => rfl
     | some p =>
      obtain ⟨x, E, s'⟩ := p
      cases x <;> rfl
def runK (P : Program) (X : List (FuncId × XK)) (m : Nat) : IH :=
  @Nat.rec (fun _ => IH) ⟨fun _ _ _ _ _ => none, fun _ _ _ => none⟩ (fun _ ih => ⟨fun n top c E s => useK (kCode P X n top c) fun f => f ih E s retR, fun f vs s => useK (kFun P X f) fun g => g ih vs s⟩) m
theorem runK_eq (P : Program) (X : List (FuncId × XK)) : ∀ m, runK P X m = run P X m
 | 0 => rfl
 | m + 1 => by
  have ihm := runK_eq P X m
  show (⟨fun n top c E s => (kCode P X n top c).f (runK P X m) E s retR, fun f vs s => (kFun P X f).f (runK P X m) vs s⟩ : IH) = _
  simp only [kCode_ok, kFun_ok, bindR_ret, ihm]
  rfl
def okK (P : Program) (X : List (FuncId × XK)) (n : Nat) (f : FuncId) (vs : List SV) (v : SV) : Bool := match (runK P X n).call f vs ⟨.e, 0, []⟩ with
  | some (u, _) => SV.beq u v
  | none => false
end Go.Acq.Vx
noncomputable section
namespace Go.Acq.Vx
open Go Go.Acq Go.RowKit
variable {P : Program} {X : List (FuncId × XK)}
def closedV : SV → Bool
  | .tup vs => vs.all plainC
  | v => plainC v
theorem VR.closed {vr : Nat → Int} {σ σ' : Nm} {v : SV} {x : Value} (hc : closedV v = true) (h : VR vr σ v x) : VR vr σ' v x := by
 cases v <;> first | exact h.plain hc | skip
 cases h with
 | tup h => exact .tup (h.plain hc)
theorem okK_eq {n : Nat} {f : FuncId} {vs : List SV} {v : SV} (h : okK P X n f vs v = true) : okV P X n f vs v = true := by
 unfold okK at h
 unfold okV
 rw [← runK_eq]; exact h
theorem awakeK (hm : P.follows .mixedOrders = true) (hX : XsOk P X) {n : Nat} {f : FuncId} (h : okK P X n f [] (.bool (.lit true)) = true) (w : World) : Fnc P f #[] w [] (fun y N => y = .bool true ∧ N = []) := awake_of hm hX (okK_eq h) w
end Go.Acq.Vx
namespace Go.Acq
open Go Go.RowKit
section rules
variable {C : Cx} {ops : Array Oper} {Q : Exit → Act → World → Prop} {l : List Nat} {E : Env} {H R : Heap} {i d : Nat} {ty : TypeId} {pos : String} {af : Array Edge} {g : Option (Nat × Bool)}
variable {q : IntKind}
theorem TO.subB {t t2 : TypeId} {x y : Operand} {q : IntKind} {p r : Int} (q0_ : ops[i]? = some ⟨some d, .binOp .sub t x y t2, ty, pos, af, g⟩ ∧ Zx ops E g = true ∧ Nat.ble (d + 1) C.n = true ∧ ev E x = some (.int q p) ∧ ev E y = some (.int q r))
    (kk : TO C ops Q l ((d, .int q (Ja q p (-r))) :: E) H) : TO C ops Q (i :: l) E H := have ⟨ho, hg, hd, hx, hy⟩ := q0_;
  Zt ⟨ho, hg, hd, hx, hy, (by simp only [Jw]; rfl)⟩ kk
abbrev mapF (q : IntKind) (xs : List (Int × Value)) : Obj := mapO q (id : Value → Value) xs
theorem Z6p {t : TypeId} (q : IntKind) (q0_ : ops[i]? = some ⟨some d, .makeMap t none, ty, pos, af, g⟩ ∧ Zx ops E g = true ∧ Nat.ble (d + 1) C.n = true)
    (k : ∀ b, TO C ops Q l ((d, .map (some b)) :: E) ((some b, mapF q []) :: H)) : TO C ops Q (i :: l) E H := have ⟨ho, hg, hd⟩ := q0_; TO.mkMap (α := Value) id q ho hg hd k
theorem Z0k {t e : TypeId} {x y v : Operand} {b : Nat} {xs xs' : List (Int × Value)} {k : Int} {u : Value} (hm : Gh C.P t = some (q, e))
    (q0_ : ops[i]? = some ⟨none, .insert t x y v, ty, pos, af, g⟩ ∧ Zx ops E g = true ∧ ev E x = some (.map (some b)) ∧ ev E y = some (.int q k) ∧ ev E v = some u) (ht : Take (some b, mapF q xs) H R) (he : Wq k u xs = xs')
    (kk : TO C ops Q l E ((some b, mapF q xs') :: R)) : TO C ops Q (i :: l) E H := have ⟨ho, hg, hx, hy, hv⟩ := q0_;
  Rl ho hg (by simp) fun a w hf hi => by
    obtain ⟨kt, h1, h2⟩ := Z3j hm
    subst he
    have hb := hi.own _ _ ht.mem
    have hfind := Z2u (P := C.P) (w := w) (f := (id : Value → Value)) (k := k) (xs := xs) h2
    have hput := Z71 (q := q) (f := (id : Value → Value)) (k := k) (v := u) xs 0 0
    have hrun : (execOp a.eval ⟨none, .insert t x y v, ty, pos, af, g⟩).run C.P w = .ok .skip (Go.ChangeMaps.setBlock w b (mapO q id (Wq k u xs))) := by
      simp only [execOp, hf.ev hx, hf.ev hy, hf.ev hv]
      cases hc : Ka (id : Value → Value) k 0 xs with
      | none =>
        rw [hc] at hfind hput
        simp only at hput
        simp [Instr.mapUpdate, Ls h2, hfind, underlying, h1, Lh hb, Z52 hb]
        rw [show mapO q id (Wq k u xs) = .map (Ul q id 0 xs ++ [({ key := .int q k, val := u, born := xs.length } : MapEntry)]).toArray (xs.length + 1) by unfold mapO; rw [hput.1, hput.2, Nat.zero_add]; rfl]
      | some y =>
        obtain ⟨p, v'⟩ := y
        rw [hc] at hfind hput
        simp only [Nat.sub_zero] at hput
        obtain ⟨⟨o, h3, h4, h5⟩, h6, h7⟩ := hput
        simp [Instr.mapUpdate, Ls h2, hfind, underlying, h1, Lh hb, Z52 hb, h4, h5, Instr.keyThatStays, Za2]
        rw [show mapO q id (Wq k u xs) = .map ((Ul q id 0 xs).modify p fun e => { e with key := .int q k, val := u }).toArray xs.length by unfold mapO; rw [h6, h7]; rfl]
    rw [hrun]
    have hsz : b < w.heap.size := (Array.getElem?_eq_some_iff.1 hb).1
    refine kk _ _ (hf.putNone _) (hi.upd ht rfl rfl rfl (by simp [Go.ChangeMaps.setBlock]) (by simp [Go.ChangeMaps.setBlock, hsz]) fun k' hk => ?_)
    simp only [Go.ChangeMaps.setBlock]
    rw [Array.getElem?_setIfInBounds_ne (fun e => hk e.symm)]
theorem Zar {t e : TypeId} {x y : Operand} {b p : Nat} {xs : List (Int × Value)} {k : Int} {u : Value} (hm : Gh C.P t = some (q, e))
    (q0_ : ops[i]? = some ⟨some d, .lookup t x y true, ty, pos, af, g⟩ ∧ Zx ops E g = true ∧ Nat.ble (d + 1) C.n = true ∧ ev E x = some (.map (some b)) ∧ ev E y = some (.int q k)) (hh : (some b, mapF q xs) ∈ H) (hu : Ka (id : Value → Value) k 0 xs = some (p, u))
    (kk : TO C ops Q l ((d, .tuple #[u, .bool true]) :: E) H) : TO C ops Q (i :: l) E H := have ⟨ho, hg, hd, hx, hy⟩ := q0_;
  TO.val ho hg hd (by simp) (fun a w hf hi => by
    obtain ⟨kt, h1, h2⟩ := Z3j hm
    have hb := hi.own _ _ hh
    have hfind := Z2u (P := C.P) (w := w) (f := (id : Value → Value)) (k := k) (xs := xs) h2
    rw [hu] at hfind
    simp [execOp, hf.ev hx, hf.ev hy, Instr.lookup, Ls h2, hfind, underlying, h1, Lh hb]) kk
theorem TO.mgetF {t e : TypeId} {x y : Operand} {b : Nat} {xs : List (Int × Value)} {k : Int} {z : Value} (hm : Gh C.P t = some (q, e)) (hz : Wm C.P e = some z)
    (q0_ : ops[i]? = some ⟨some d, .lookup t x y true, ty, pos, af, g⟩ ∧ Zx ops E g = true ∧ Nat.ble (d + 1) C.n = true ∧ ev E x = some (.map (some b)) ∧ ev E y = some (.int q k)) (hh : (some b, mapF q xs) ∈ H) (hu : Ka (id : Value → Value) k 0 xs = none)
    (kk : TO C ops Q l ((d, .tuple #[z, .bool false]) :: E) H) : TO C ops Q (i :: l) E H := have ⟨ho, hg, hd, hx, hy⟩ := q0_;
  TO.val ho hg hd (by simp) (fun a w hf hi => by
    obtain ⟨kt, h1, h2⟩ := Z3j hm
    have hb := hi.own _ _ hh
    have hfind := Z2u (P := C.P) (w := w) (f := (id : Value → Value)) (k := k) (xs := xs) h2
    rw [hu] at hfind
    simp [execOp, hf.ev hx, hf.ev hy, Instr.lookup, Ls h2, hfind, underlying, h1, Z2l hz, Lh hb]) kk
end rules
section
variable {α : Type} {w0 : World} {M : List Nat} {f : α → List Value} {s n c pn pc : Nat} {base pb : Option Addr} {xs ys ps : List α} {ob : Option Nat}
def SeenP (base : Option Addr) (n c : Nat) (xs ys : List α) (ob : Option Nat) (pb : Option Addr) (pn pc : Nat) (ps : List α) : Prop :=
  (base = sb ob ∧ ys = xs ∧ xs.length = n ∧ n ≤ c ∧ (ob = none → c = 0)) ∨ (base = pb ∧ n = pn ∧ c = pc ∧ xs = ps ∧ ys = [] ∧ ob = none)
theorem SeenP.own (hn : xs.length = n) (hc : n ≤ c) (hz : ob = none → c = 0) : SeenP (sb ob) n c xs xs ob pb pn pc ps := .inl ⟨rfl, rfl, hn, hc, hz⟩
theorem Z7d : SeenP pb pn pc ps ([] : List α) none pb pn pc ps := .inr ⟨rfl, rfl, rfl, rfl, rfl, rfl⟩
theorem Ws (h : SeenP base n c xs ys ob pb pn pc ps) (hp : RS w0 M f s pb pn pc ps) : Seen w0 M f s base n c xs ys ob := by
 rcases h with h | ⟨rfl, rfl, rfl, rfl, rfl, rfl⟩
 · exact .inl h
 · exact .inr hp
end
section quiet
variable {C : Cx} {ops : Array Oper} {Q : Act → Prop} {l : List Nat} {E : Env} {H R : Heap} {i d : Nat} {ty : TypeId} {pos : String} {af : Array Edge} {g : Option (Nat × Bool)}
theorem Ro {α : Type} {f : α → List Value} {xs ys : List α} {ob : Option Nat} {t e : TypeId} {x y : Operand} {base : Option Addr} {n c s : Nat} {k : IntKind} {p : Int} (hr : Seen C.w0 C.M f s base n c xs ys ob) (hp : inb p xs.length)
    (q0_ : ops[i]? = some ⟨some d, .indexAddr t x y, ty, pos, af, g⟩ ∧ Zx ops E g = true ∧ Nat.ble (d + 1) C.n = true ∧ ev E x = some (.slice base n c) ∧ ev E y = some (.int k p)) (ht : Xc C.P t = some e) (hs : Yy C.P e = some s)
    (kk : TQ C ops Q l ((d, .pointer (some (ea base (p.toNat * s)))) :: E) H) : TQ C ops Q (i :: l) E H := have ⟨ho, hg, hd, hx, hy⟩ := q0_;
  Z87 ho hg hd hx hy ht hs hr.nil hp.1 (by have := hp.2; rw [hr.len] at this; exact this) kk
theorem Z03 {t T' : TypeId} {x : Operand} {base : Option Addr} {n c : Nat} {k : IntKind} {p : Int} {xs ys : List Int} {ob : Option Nat} {j : List Value} {fr : Nat × Nat} (hr : Seen C.w0 C.M (intC k) 1 base n c xs ys ob) (hp : inb p xs.length) (q0_ : ops[i]? = some ⟨some d, .load t x, ty, pos, af, g⟩ ∧ Zx ops E g = true ∧ Nat.ble (d + 1) C.n = true ∧ ev E x = some (.pointer (some (ea base (p.toNat * 1))))) (hT : Wo C.P t = true) (hm : (ob, Obj.cells (arr (intC k) ys j).toArray T' fr) ∈ H)
    (kk : TQ C ops Q l ((d, .int k (xs.getD p.toNat 0)) :: E) H) : TQ C ops Q (i :: l) E H := have ⟨ho, hg, hd, hx⟩ := q0_;
  TQ.load ho hg hd hx hT (fun w hi => by
    have := (hr.rs (fun _ => rfl) hi hm).ro.at 0 (o := p.toNat) (c := 0) (Jj hp) (by omega)
    simpa using this) kk
end quiet
end Go.Acq
namespace Go.Proofs.YtobnnpdfeakbbaaGreat.Ax
open Go Go.Acq Go.RowKit Go.Proofs
set_option maxHeartbeats 8000000
set_option maxRecDepth 20000
abbrev iC := intC .i64
abbrev eA {α : Type} (o : Option Nat) (f : α → List Value) (x : List α) (j : List Value) (t : TypeId) : Option Nat × Obj := (o, .cells (arr f x j).toArray t)
abbrev eI (o : Option Nat) (x : List Int) (j : List Value) (t : TypeId) : Option Nat × Obj := (o, .cells (arr (intC .i64) x j).toArray t)
abbrev eC (b : Nat) (c : Array Value) (t : TypeId) : Option Nat × Obj := (some b, .cells c t)
abbrev iV (x : Int) : Value := .int .i64 x
abbrev sV (a : Option Nat) (b c : Nat) : Value := .slice (sb a) b c
abbrev nV (a b c : Nat) : Value := .slice (some ⟨a, 0, none⟩) b c
abbrev pV (a : Nat) : Value := .pointer (some ⟨a, 0, none⟩)
theorem Vf {p q : Prop} [Decidable p] [Decidable q] {α : Type} {x : Option α} {r : α} (h : gd p (gd q x) = some r) : p ∧ q ∧ x = some r := have ⟨a, h⟩ := Zy h; ⟨a, Zy h⟩
theorem Uw {p q s : Prop} [Decidable p] [Decidable q] [Decidable s] {α : Type} {x : Option α} {r : α} (h : gd p (gd q (gd s x)) = some r) : p ∧ q ∧ s ∧ x = some r := have ⟨a, h⟩ := Zy h; ⟨a, Vf h⟩
theorem gd4 {p q s t : Prop} [Decidable p] [Decidable q] [Decidable s] [Decidable t] {α : Type} {x : Option α} {r : α} (h : gd p (gd q (gd s (gd t x))) = some r) : p ∧ q ∧ s ∧ t ∧ x = some r := have ⟨a, h⟩ := Zy h; ⟨a, Uw h⟩
theorem dN {C : Cx} {ops : Array Oper} {Q : Exit → Act → World → Prop} {E : Env} {H : Heap} {y : Code} (h : T C y Q E H) : TO C ops (Exit.then (y.wpIn (FW C.ρ) 0 C.P Q) Q) [] E H := h
theorem dS {C : Cx} {ops : Array Oper} {Q : Exit → Act → World → Prop} {E : Env} {H : Heap} {x y : Code} (h : T C x (Exit.then (y.wpIn (FW C.ρ) 0 C.P Q) Q) E H) : TO C ops (Exit.then ((Code.seq x y).wpIn (FW C.ρ) 0 C.P Q) Q) [] E H := dN (Zl h)
theorem rG {C : Cx} {ops : Array Oper} {Q : Exit → Act → World → Prop} {E : Env} {H : Heap} {id : Nat} (l : List Nat) (hl : List.range ops.size = l) (h : TO C ops Q l E H) : T C (.region id ops false) Q E H := Z9l hl h
theorem sR {C : Cx} {ops : Array Oper} {Q : Exit → Act → World → Prop} {E : Env} {H : Heap} {id : Nat} {y : Code} (l : List Nat) (hl : List.range ops.size = l) (h : TO C ops (Exit.then (y.wpIn (FW C.ρ) 0 C.P Q) Q) l E H) : T C (.seq (.region id ops false) y) Q E H := Zl (Z9l hl h)
theorem aN {C : Cx} {ops : Array Oper} {Q : Exit → Act → World → Prop} {E : Env} {H : Heap} {y : Code} {i d : Nat} {ty : TypeId} {pos : String} {af : Array Edge} {g : Option (Nat × Bool)} {x : Operand} {v : Value} (q : ops[i]? = some ⟨some d, .assign x, ty, pos, af, g⟩ ∧ Zx ops E g = true ∧ Nat.ble (d + 1) C.n = true ∧ ev E x = some v) (k : T C y Q ((d, v) :: E) H) : TO C ops (Exit.then (y.wpIn (FW C.ρ) 0 C.P Q) Q) [i] E H := have ⟨ho, hg, hd, hx⟩ := q; TO.val ho hg hd (by simp) (fun a w hf _ => by simp [execOp, hf.ev hx]) (dN k)
inductive TkI : Option Nat × Obj → Heap → Heap → Prop
  | head (p : Option Nat × Obj) (l : Heap) : TkI p (p :: l) l
  | tail {p q : Option Nat × Obj} {l r : Heap} (h : TkI p l r) : TkI p (q :: l) (q :: r)
inductive PkI : Heap → Heap → Prop
  | refl (H : Heap) : PkI H H
  | nil (H : Heap) : PkI [] H
  | none {o : Obj} {T H : Heap} (h : PkI T H) : PkI ((none, o) :: T) H
  | cons {p : Option Nat × Obj} {T H R : Heap} (h : TkI p H R) (k : PkI T R) : PkI (p :: T) H
theorem tkI {p : Option Nat × Obj} {H R : Heap} (h : TkI p H R) : Take p H R := by
  induction h with
  | head => exact Take.head _ _
  | tail _ ih => exact Take.tail ih
theorem Vh {T H : Heap} (h : PkI T H) : Pick T H := by
  induction h with
  | refl H => exact Yv H
  | nil H => exact Zg
  | none _ ih => exact Pick.none ih
  | cons h _ ih => exact Zc (tkI h) ih
theorem Yz {w0 w : World} {M : List Nat} {H : Heap} (hi : Inv w0 M w H) {n c : Nat} {xs : List Int} {ob : Option Nat} {T' : TypeId} {fr : Nat × Nat} {j : List Value} (hm : (ob, Obj.cells (arr (intC .i64) xs j).toArray T' fr) ∈ H) (hn : xs.length = n) (hc : n ≤ c) (h0 : ob = none → c = 0) : RS w [] (intC .i64) 1 (sb ob) n c xs := hi.rs (f := intC .i64) (s := 1) (fun _ => rfl) hm hn hc h0
theorem rsB {w0 w : World} {M : List Nat} {H : Heap} (hi : Inv w0 M w H) {n c : Nat} {xs : List Bool} {ob : Option Nat} {T' : TypeId} {fr : Nat × Nat} {j : List Value} (hm : (ob, Obj.cells (arr boolC xs j).toArray T' fr) ∈ H) (hn : xs.length = n) (hc : n ≤ c) (h0 : ob = none → c = 0) : RS w [] boolC 1 (sb ob) n c xs := hi.rs (f := boolC) (s := 1) (fun _ => rfl) hm hn hc h0
abbrev rV (l : List Nat) (x : Value) : Sp := ⟨l, false, [], relV x⟩
def pkE : List Nat → Env → Option Env
  | [], _ => some []
  | t :: l, E => match find E t with
    | none => none
    | some v => match pkE l E with
      | none => none
      | some L => some ((t, v) :: L)
theorem aT {E : Env} : ∀ (l : List Nat) {L : Env}, pkE l E = some L → AllF L E
  | [], L, h => by injection h with h; subst h; exact Jt
  | t :: l, L, h => by
    simp only [pkE] at h
    split at h
    · cases h
    · rename_i v hv
      split at h
      · cases h
      · rename_i L' hL
        injection h with h
        subst h
        exact Ze5 hv (aT l hL)
theorem aF {L E : Env} (h : pkE (L.map Prod.fst) E = some L) : AllF L E := aT _ h
abbrev Y1 : List Nat := [0]
abbrev Y2 : List Nat := [0, 1]
abbrev Y3 : List Nat := [0, 1, 2]
abbrev Y4 : List Nat := [0, 1, 2, 3]
abbrev Y5 : List Nat := [0, 1, 2, 3, 4]
abbrev Y6 : List Nat := [0, 1, 2, 3, 4, 5]
abbrev Y7 : List Nat := [0, 1, 2, 3, 4, 5, 6]
abbrev Y8 : List Nat := [0, 1, 2, 3, 4, 5, 6, 7]
abbrev Y9 : List Nat := [0, 1, 2, 3, 4, 5, 6, 7, 8]
abbrev Y10 : List Nat := [0, 1, 2, 3, 4, 5, 6, 7, 8, 9]
abbrev Y11 : List Nat := [0, 1, 2, 3, 4, 5, 6, 7, 8, 9, 10]
abbrev Y12 : List Nat := [0, 1, 2, 3, 4, 5, 6, 7, 8, 9, 10, 11]
abbrev Y13 : List Nat := [0, 1, 2, 3, 4, 5, 6, 7, 8, 9, 10, 11, 12]
abbrev Y15 : List Nat := [0, 1, 2, 3, 4, 5, 6, 7, 8, 9, 10, 11, 12, 13, 14]
abbrev Y16 : List Nat := [0, 1, 2, 3, 4, 5, 6, 7, 8, 9, 10, 11, 12, 13, 14, 15]
abbrev Y17 : List Nat := [0, 1, 2, 3, 4, 5, 6, 7, 8, 9, 10, 11, 12, 13, 14, 15, 16]
abbrev Y18 : List Nat := [0, 1, 2, 3, 4, 5, 6, 7, 8, 9, 10, 11, 12, 13, 14, 15, 16, 17]
abbrev Y19 : List Nat := [0, 1, 2, 3, 4, 5, 6, 7, 8, 9, 10, 11, 12, 13, 14, 15, 16, 17, 18]
abbrev Y20 : List Nat := [0, 1, 2, 3, 4, 5, 6, 7, 8, 9, 10, 11, 12, 13, 14, 15, 16, 17, 18, 19]
abbrev Y26 : List Nat := [0, 1, 2, 3, 4, 5, 6, 7, 8, 9, 10, 11, 12, 13, 14, 15, 16, 17, 18, 19, 20, 21, 22, 23, 24, 25]
abbrev Y27 : List Nat := [0, 1, 2, 3, 4, 5, 6, 7, 8, 9, 10, 11, 12, 13, 14, 15, 16, 17, 18, 19, 20, 21, 22, 23, 24, 25, 26]
abbrev Y28 : List Nat := [0, 1, 2, 3, 4, 5, 6, 7, 8, 9, 10, 11, 12, 13, 14, 15, 16, 17, 18, 19, 20, 21, 22, 23, 24, 25, 26, 27]
abbrev Y34 : List Nat := [0, 1, 2, 3, 4, 5, 6, 7, 8, 9, 10, 11, 12, 13, 14, 15, 16, 17, 18, 19, 20, 21, 22, 23, 24, 25, 26, 27, 28, 29, 30, 31, 32, 33]
theorem Yx : Tryz.prog.follows .mixedOrders = true := by kernel_rfl
theorem Z8e : Vk Tryz.prog 131 3 = true := by kernel_rfl
theorem Jr : Vk Tryz.prog 24 4 = true := by kernel_rfl
theorem Zcq : Vz Tryz.prog 131 = some 24 := by kernel_rfl
theorem Z7s : Vz Tryz.prog 3 = some 8 := by kernel_rfl
theorem Z2n : Xm Tryz.prog 69 = true := by kernel_rfl
theorem Z0t : Wa Tryz.prog 131 0 = some 0 := by kernel_rfl
theorem Z42 : Wa Tryz.prog 131 1 = some 1 := by kernel_rfl
theorem Z59 : Wa Tryz.prog 131 2 = some 2 := by kernel_rfl
theorem Ga : Wa Tryz.prog 24 0 = some 0 := by kernel_rfl
theorem Nq : Wa Tryz.prog 24 1 = some 1 := by kernel_rfl
theorem Lt : Wa Tryz.prog 24 2 = some 2 := by kernel_rfl
theorem Gv : Wa Tryz.prog 24 3 = some 3 := by kernel_rfl
theorem Vo : Wa Tryz.prog 29 4 = some 4 := by kernel_rfl
theorem Jo : Xc Tryz.prog 22 = some 131 := by kernel_rfl
theorem Ye : Xc Tryz.prog 25 = some 3 := by kernel_rfl
theorem Na : Yy Tryz.prog 131 = some 3 := by kernel_rfl
theorem Zd0 : Yy Tryz.prog 22 = some 1 := by kernel_rfl
theorem Z9h : Yy Tryz.prog 24 = some 4 := by kernel_rfl
theorem Yf : Yy Tryz.prog 3 = some 1 := by kernel_rfl
theorem Yu : Wo Tryz.prog 2 = true := by kernel_rfl
theorem Nc : Wo Tryz.prog 22 = true := by kernel_rfl
theorem Yi : Wo Tryz.prog 25 = true := by kernel_rfl
theorem Zj : Wo Tryz.prog 3 = true := by kernel_rfl
theorem Z2p : Wm Tryz.prog 131 = some (.agg #[iV 0, iV 0, iV 0]) := by kernel_rfl
theorem Z8l : Wm Tryz.prog 24 = some (.agg #[iV 0, iV 0, iV 0, .slice none 0 0]) := by kernel_rfl
theorem Ni : Wm Tryz.prog 3 = some (iV 0) := by kernel_rfl
theorem Zeo : ElemT Tryz.prog 22 131 3 24 (.agg #[iV 0, iV 0, iV 0]) := ⟨Jo, Na, Zcq, Z2p, rfl⟩
theorem Zel : ElemT Tryz.prog 25 3 1 8 (iV 0) := ⟨Ye, Yf, Z7s, Ni, rfl⟩
theorem Z25 {x0 n1 : Int} (w : World) {r0 : Int} (H : Nv x0 n1 = some r0) : Fnc Tryz.prog 69 #[iV x0, iV n1] w [] (fun v N => v = iV r0 ∧ N = []) := by
 unfold Nv at H; refine Fnc.enter (vs := [iV x0, iV n1]) Tryz.func69 rfl rfl (Inv.refl w) (sR Y1 rfl (aN Za (Zl (sR Y2 rfl (Zd Za (Zt Zm (dN ?_))))))); rcases Zq H with ⟨g1, H⟩ | ⟨g1, H⟩
 · refine Yp rfl g1 (sR Y1 rfl (aN Za (T.ret (Zw ?_)))); obtain rfl := ret1 H; exact Zz Za (Res.tmp rfl) Zg ⟨rfl, rfl⟩
 · refine Yn rfl g1 (T.skip (Ya ?_)); obtain ⟨g2, g3, g4, H⟩ := Uw H; refine sR Y8 rfl (Zd Za (Zd Za (TO.rem Zb g2 (Zd Za (Ys g3 Zb (Zd Za (TO.rem Zb g4 (aN Za (Zu (aT [4] rfl) (T.ret ?_)))))))))); obtain rfl := ret1 H; exact Zz Za (Res.tmp rfl) Zg ⟨rfl, rfl⟩
theorem Zcj {n0 : Net} {verts1 arcs2 : Int} {a8 : Option Addr} {b0 a7 : Nat} (w : World) (a6 : RS w [] Kl 3 a8 b0 a7 n0.Arcs) {r0 : Net} (H : Z2j n0 verts1 arcs2 = some r0) : Fnc Tryz.prog 23 #[.agg #[iV n0.N, iV n0.S, iV n0.T, .slice a8 b0 a7], iV verts1, iV arcs2] w [] (fun v N => ∃ (d5 : Option Nat) (g4 g6 : Nat) (j3 : List Value), v = .agg #[iV r0.N, iV r0.S, iV r0.T, sV d5 g4 g6] ∧ N = [(eA d5 Kl r0.Arcs j3 131)] ∧ r0.Arcs.length = g4 ∧ g4 ≤ g6 ∧ j3.length = (g6 - g4) * 3 ∧ (d5 = none → g6 = 0)) := by
 unfold Z2j at H; refine Fnc.enter (vs := [.agg #[iV n0.N, iV n0.S, iV n0.T, .slice a8 b0 a7], iV verts1, iV arcs2]) Tryz.func23 rfl rfl (Inv.refl w) (sR Y2 rfl (Xs Za ?_)); intro b1; refine Wv Yb Z8l ?_; intro b3; refine dN (Zl ?_); obtain ⟨g5, H⟩ := Zy H; obtain ⟨r6, e7, H⟩ := Yg H; obtain ⟨g8, H⟩ := Zy H; refine rG Y9 rfl (Zi Za Ga (Zn Za Zj Zv rfl (Zd Za (Z05 g5 Zb ?_)))); refine Xa Z2n Za (fun wc hwc => Z25 (x0 := n0.N) (n1 := (verts1 - 1)) wc  e7) ?_; rintro _ _ ⟨rfl, rfl⟩; refine Ys g8 Zb ?_; refine Kd (t := 24) [iV 0, iV 0, iV 0, .slice none 0 0] [0, 1, 2, 3] Za (by simp only [Wz, setCells, Value.cells, List.toList_toArray, List.getD_cons_zero, List.getD_cons_succ, List.set_cons_zero, List.set_cons_succ]; rfl) (by kernel_rfl) ?_; refine Wv Yb Z8l ?_; intro b9; refine Wi Za Ze Z9h Yb (dN (Zu (aT [2, 3, 6, 7] rfl) (Zl ?_))); obtain ⟨b6, k1, H⟩ := Yg H; refine rG Y7 rfl (Zi Za Nq (Zn Za Zj Yq rfl (Zi Za Ga (Zn Za Zj Zk rfl ?_)))); refine Xa Z2n Za (fun wc hwc => Z25 (x0 := n0.S) (n1 := (2 + r6)) wc  k1) ?_; rintro _ _ ⟨rfl, rfl⟩; refine Zi Za Nq (Vc (cs' := [iV (2 + r6), iV b6, iV 0, .slice none 0 0]) Za Ze Yf Yb (dS ?_)); obtain ⟨j4, k2, H⟩ := Yg H; refine rG Y7 rfl (Zi Za Lt (Zn Za Zj Yq rfl (Zi Za Ga (Zn Za Zj Zk rfl ?_)))); refine Xa Z2n Za (fun wc hwc => Z25 (x0 := n0.T) (n1 := (2 + r6)) wc  k2) ?_; rintro _ _ ⟨rfl, rfl⟩; refine Zi Za Lt (Vc (cs' := [iV (2 + r6), iV b6, iV j4, .slice none 0 0]) Za Ze Yf Yb (dN (Zu (aT [2, 3, 6, 7] rfl) (Zl (sR Y5 rfl (Zi Za Nq (Zn Za Zj Zk rfl (Zi Za Lt (Zn Za Zj Zk rfl (Zt Zm (dN ?_))))))))))); refine Wj (fun (b8 : Int) => Z0i n0 arcs2 r6 b6 b8 = some r0) (fun (b8 : Int) => [(2, iV arcs2), (3, pV b1), (6, pV b3), (7, pV b9)]) (fun (b8 : Int) => [(eC b1 #[iV n0.N, iV n0.S, iV n0.T, .slice a8 b0 a7] 24), (eC b3 #[iV 0, iV 0, iV 0, .slice none 0 0] 24), (eC b9 #[iV (2 + r6), iV b6, iV b8, .slice none 0 0] 24)]) ?_ ?_
 ·
  rcases Zq H with ⟨h2, H⟩ | ⟨h2, H⟩
  · refine Yp rfl h2 ?_; obtain ⟨k3, k4, H⟩ := Vf H; exact rG Y8 rfl (Zi Za Nq (Zn Za Zj Zk rfl (Ys k3 Zb (Zi Za Ga (Zn Za Zj Zk rfl (TO.rem Zb k4 (Zi Za Lt (Vc (cs' := [iV (2 + r6), iV b6, iV ((b6 + 1).tmod (2 + r6)), .slice none 0 0]) Za Ze Yf Yb (Zo (Xk ((b6 + 1).tmod (2 + r6)) H (aF rfl) (Zc Xt (Zc Zs (Zc Ze Zg)))))))))))))
  · exact Yn rfl h2 (T.skip (Xk j4 H (aF rfl) (Zc Xt (Zc Zs (Zc Ze Zg)))))
 ·
  rintro b8 H; unfold Z0i at H; refine Zl ?_; obtain ⟨g7, H⟩ := Zy H; refine sR Y10 rfl (Zi Za Gv (Zn Za Nc Zk rfl (Zi Za Gv (Zn Za Nc Zk rfl (Xo (xs := n0.Arcs) a6.len Zb Jo (Zd Za (TO.min2 Zb (TO.slH (xs := n0.Arcs) a6.len a6.cap g7 Zb Jo Na (Xo (xs := (n0.Arcs.take (min (n0.Arcs.length : Int) arcs2).toNat)) ((RS.take a6 g7).len) Zb Jo (Zd Za (dN (Zu (aT [6, 7, 49, 50, 51] rfl) ?_)))))))))))); refine Z7w (fun (a4 : List Arc) (d2 d4 : Nat) (b5 : Option Nat) (e4 : List Value) => Z51 r6 b6 b8 a4 = some r0 ∧ a4.length = d2 ∧ d2 ≤ d4 ∧ e4.length = (d4 - d2) * 3 ∧ (b5 = none → d4 = 0)) (fun (a4 : List Arc) (d2 d4 : Nat) (b5 : Option Nat) (e4 : List Value) => [(6, pV b3), (7, pV b9)]) (fun (a4 : List Arc) (d2 d4 : Nat) (b5 : Option Nat) (e4 : List Value) => [(eC b3 #[iV 0, iV 0, iV 0, .slice none 0 0] 24), (eC b9 #[iV (2 + r6), iV b6, iV b8, sV b5 d2 d4] 24), (eA b5 Kl a4 e4 131)]) ?_ ?_
  ·
   refine T.block ?_; obtain ⟨k5, e6, k6⟩ := Yg H; refine Z5c (fun (e5 : Nat) (a3 : List Arc) (b7 c22 : Nat) (a5 : Option Nat) (d1 : List Value) (a9 : Int) => Yw (fun s => Z45 n0 arcs2 r6 s.1 s.2) e5 (a3, a9) = some k5 ∧ a3.length = b7 ∧ b7 ≤ c22 ∧ d1.length = (c22 - b7) * 3 ∧ (a5 = none → c22 = 0)) (fun (e5 : Nat) (a3 : List Arc) (b7 c22 : Nat) (a5 : Option Nat) (d1 : List Value) (a9 : Int) => [(6, pV b3), (7, pV b9), (49, .slice a8 ((min (n0.Arcs.length : Int) arcs2).toNat) a7), (50, iV ((n0.Arcs.take (min (n0.Arcs.length : Int) arcs2).toNat).length : Int)), (51, iV a9)]) (fun (e5 : Nat) (a3 : List Arc) (b7 c22 : Nat) (a5 : Option Nat) (d1 : List Value) (a9 : Int) => [(eC b3 #[iV 0, iV 0, iV 0, .slice none 0 0] 24), (eC b9 #[iV (2 + r6), iV b6, iV b8, sV a5 b7 c22] 24), (eA a5 Kl a3 d1 131)]) (fun (e5 : Nat) (a3 : List Arc) (b7 c22 : Nat) (a5 : Option Nat) (d1 : List Value) (a9 : Int) => e5) Yh ([]) 0 0 none ([]) 0 ⟨e6, rfl, (Nat.le_refl _), (Wp 0 _), (fun _ => rfl)⟩ (aF rfl) (Zc Zs (Zc Zs (Pick.none Zg))) ?_; rintro e5 a3 b7 c22 a5 d1 a9 ⟨H, d6, e8, e9, f0⟩; obtain ⟨k7, j5, rfl, H, j6⟩ := Vb H; have H : Z45 n0 arcs2 r6 a3 a9 = some j5 := H; unfold Z45 at H; refine sR Y1 rfl (Zt Zm (dS ?_)); rcases Zq H with ⟨h3, H⟩ | ⟨h3, H⟩
   ·
    refine Yp rfl h3 (T.skip (Ya (Zl (T.block ?_)))); obtain ⟨j7, H⟩ := Zy H; refine sR Y4 rfl (Wh (RS.take a6 g7) j7 Zb Jo Na ?_); refine Rg (cs := [iV (((n0.Arcs.take (min (n0.Arcs.length : Int) arcs2).toNat).getD a9.toNat default).fr), iV (((n0.Arcs.take (min (n0.Arcs.length : Int) arcs2).toNat).getD a9.toNat default).to), iV (((n0.Arcs.take (min (n0.Arcs.length : Int) arcs2).toNat).getD a9.toNat default).cap)]) default (RS.take a6 g7) j7 Zb Z8e ?_; refine Wv Yb Z2p ?_; intro h4; refine Wi Za Ze Na Yb (dN (sR Y3 rfl (Zi Za Z59 (Zn Za Yu Zk rfl (aN Za (Zl (sR Y2 rfl (Zd Za (Zt Zm (dN ?_)))))))))); refine Wj (fun (c38 : Int) => Z1v n0 arcs2 r6 a3 a9 c38 = some j5) (fun (c38 : Int) => [(6, pV b3), (7, pV b9), (9, pV h4), (10, iV c38), (49, .slice a8 ((min (n0.Arcs.length : Int) arcs2).toNat) a7), (50, iV ((n0.Arcs.take (min (n0.Arcs.length : Int) arcs2).toNat).length : Int)), (51, iV a9)]) (fun (c38 : Int) => [(eC b3 #[iV 0, iV 0, iV 0, .slice none 0 0] 24), (eC b9 #[iV (2 + r6), iV b6, iV b8, sV a5 b7 c22] 24), (eA a5 Kl a3 d1 131), (eC h4 #[iV (((n0.Arcs.take (min (n0.Arcs.length : Int) arcs2).toNat).getD a9.toNat default).fr), iV (((n0.Arcs.take (min (n0.Arcs.length : Int) arcs2).toNat).getD a9.toNat default).to), iV (((n0.Arcs.take (min (n0.Arcs.length : Int) arcs2).toNat).getD a9.toNat default).cap)] 131)]) ?_ ?_
    ·
     rcases Zq H with ⟨h5, H⟩ | ⟨h5, H⟩
     · refine Yp rfl h5 ?_; obtain ⟨k8, k9, H⟩ := Vf H; refine rG Y4 rfl (Zd Za (Ys k8 Zb (TO.negG k9 Za (Xq Za (Zo ?_))))); exact Xk (-((((n0.Arcs.take (min (n0.Arcs.length : Int) arcs2).toNat).getD a9.toNat default).cap) + 1)) H (aF rfl) (Zc Zs (Zc Zs (Zc Zs (Zc Ze Zg))))
     · refine Yn rfl h5 (T.skip ?_); exact Xk (((n0.Arcs.take (min (n0.Arcs.length : Int) arcs2).toNat).getD a9.toNat default).cap) H (aF rfl) (Zc Zs (Zc Zs (Zc Zs (Zc Ze Zg))))
    ·
     rintro c38 H; unfold Z1v at H; obtain ⟨g9, e40, H⟩ := Yg H; obtain ⟨h1, l1, H⟩ := Yg H; obtain ⟨l4, H⟩ := Zy H; apply Ru [rV [] _, rV [0] _, rV [] _, rV [2] _, rV [] _, rV [4] _, rV [3, 5] _, rV [] _, rV [7] _, rV [] _, rV [9] _, rV [8, 10] _, rV [] _, rV [12] _, rV [6, 11, 13] _, ⟨[14], false, [], fun _ v e => ∃ (f1 : Nat), v = nV f1 1 1 ∧ e = [(eA (some f1) Kl ([(Arc.mk g9 h1 (c38.tmod 1125899906842624))]) ([]) 131)]⟩] [62, 63, 64, 65, 66, 67, 68, 69, 70, 71, 72, 73, 74, 75, 76, 77] 16 (HRk [[]]) [[]] [] [(eC b3 #[iV 0, iV 0, iV 0, .slice none 0 0] 24), (eC b9 #[iV (2 + r6), iV b6, iV b8, sV a5 b7 c22] 24), (eA a5 Kl a3 d1 131), (eC h4 #[iV (((n0.Arcs.take (min (n0.Arcs.length : Int) arcs2).toNat).getD a9.toNat default).fr), iV (((n0.Arcs.take (min (n0.Arcs.length : Int) arcs2).toNat).getD a9.toNat default).to), iV (((n0.Arcs.take (min (n0.Arcs.length : Int) arcs2).toNat).getD a9.toNat default).cap)] 131)]
     · exact Yx
     · exact rfl
     · kernel_rfl
     · kernel_rfl
     · kernel_rfl
     · exact rfl
     · exact rfl
     · exact rfl
     · exact rfl
     · exact Vh (by repeat constructor)
     ·
      refine ⟨?_, ?_, ?_, ?_, ?_, ?_, ?_, ?_, ?_, ?_, ?_, ?_, ?_, ?_, ?_, ?_, trivial⟩
      · rintro vs es Es Hx -; refine Xg (D := []) rfl ?_; exact Zi Za Gv (Zo (Xr rfl ⟨rfl, rfl⟩ (Yv _) rfl))
      · rintro vs es Es Hx ⟨⟨f2, h6⟩, -⟩; refine Xg (D := [(62, vs 0)]) rfl ?_; rw [f2]; refine Zn Za Nc Zv rfl (Zo ?_); exact Xr rfl ⟨rfl, rfl⟩ (Yv _) (by show [(62, vs 0)] = _; rw [f2])
      · rintro vs es Es Hx -; refine Xg (D := []) rfl ?_; exact Zi Za Z0t (Zo (Xr rfl ⟨rfl, rfl⟩ (Yv _) rfl))
      · rintro vs es Es Hx ⟨⟨f3, e6⟩, -⟩; refine Xg (D := [(64, vs 2)]) rfl ?_; rw [f3]; refine Zn Za Zj Wk rfl (Zo ?_); exact Xr rfl ⟨rfl, rfl⟩ (Yv _) (by show [(64, vs 2)] = _; rw [f3])
      · rintro vs es Es Hx -; refine Xg (D := []) rfl ?_; exact Zi Za Ga (Zo (Xr rfl ⟨rfl, rfl⟩ (Yv _) rfl))
      · rintro vs es Es Hx ⟨⟨f4, h7⟩, -⟩; refine Xg (D := [(66, vs 4)]) rfl ?_; rw [f4]; refine Zn Za Zj Zv rfl (Zo ?_); exact Xr rfl ⟨rfl, rfl⟩ (Yv _) (by show [(66, vs 4)] = _; rw [f4])
      · rintro vs es Es Hx ⟨⟨f5, h8⟩, ⟨f6, h9⟩, -⟩; refine Xg (D := [(65, vs 3), (67, vs 5)]) rfl ?_; rw [f5, f6]; refine Xa Z2n Za (fun wc hwc => Z25 (x0 := ((n0.Arcs.take (min (n0.Arcs.length : Int) arcs2).toNat).getD a9.toNat default).fr) (n1 := (2 + r6)) wc  e40) ?_; rintro _ _ ⟨rfl, rfl⟩; refine Zo ?_; exact Xr rfl ⟨rfl, rfl⟩ (Yv _) (by show [(65, vs 3), (67, vs 5)] = _; rw [f5, f6])
      · rintro vs es Es Hx -; refine Xg (D := []) rfl ?_; exact Zi Za Z42 (Zo (Xr rfl ⟨rfl, rfl⟩ (Yv _) rfl))
      · rintro vs es Es Hx ⟨⟨f7, i1⟩, -⟩; refine Xg (D := [(69, vs 7)]) rfl ?_; rw [f7]; refine Zn Za Zj Wk rfl (Zo ?_); exact Xr rfl ⟨rfl, rfl⟩ (Yv _) (by show [(69, vs 7)] = _; rw [f7])
      · rintro vs es Es Hx -; refine Xg (D := []) rfl ?_; exact Zi Za Ga (Zo (Xr rfl ⟨rfl, rfl⟩ (Yv _) rfl))
      · rintro vs es Es Hx ⟨⟨f8, i2⟩, -⟩; refine Xg (D := [(71, vs 9)]) rfl ?_; rw [f8]; refine Zn Za Zj Zv rfl (Zo ?_); exact Xr rfl ⟨rfl, rfl⟩ (Yv _) (by show [(71, vs 9)] = _; rw [f8])
      · rintro vs es Es Hx ⟨⟨f9, i4⟩, ⟨c4, d7⟩, -⟩; refine Xg (D := [(70, vs 8), (72, vs 10)]) rfl ?_; rw [f9, c4]; refine Xa Z2n Za (fun wc hwc => Z25 (x0 := ((n0.Arcs.take (min (n0.Arcs.length : Int) arcs2).toNat).getD a9.toNat default).to) (n1 := (2 + r6)) wc  l1) ?_; rintro _ _ ⟨rfl, rfl⟩; refine Zo ?_; exact Xr rfl ⟨rfl, rfl⟩ (Yv _) (by show [(70, vs 8), (72, vs 10)] = _; rw [f9, c4])
      · rintro vs es Es Hx -; refine Xg (D := []) rfl ?_; exact Zd Za (Zo (Xr rfl ⟨rfl, rfl⟩ (Yv _) rfl))
      · rintro vs es Es Hx ⟨⟨c7, d8⟩, -⟩; refine Xg (D := [(74, vs 12)]) rfl ?_; rw [c7]; refine TO.rem Zb (by decide) ?_; refine Zo ?_; exact Xr rfl ⟨rfl, rfl⟩ (Yv _) (by show [(74, vs 12)] = _; rw [c7])
      · rintro vs es Es Hx ⟨⟨g0, i5⟩, ⟨c8, d9⟩, ⟨c9, e0⟩, -⟩; refine Xg (D := [(68, vs 6), (73, vs 11), (75, vs 13)]) rfl ?_; rw [g0, c8, c9]; refine Kd (t := 131) [iV 0, iV 0, iV 0] [0, 1, 2] Za (by simp only [Wz, setCells, Value.cells, List.toList_toArray, List.getD_cons_zero, List.getD_cons_succ, List.set_cons_zero, List.set_cons_succ]; rfl) (by kernel_rfl) ?_; refine Zo ?_; exact Xr rfl ⟨rfl, rfl⟩ (Yv _) (by show [(68, vs 6), (73, vs 11), (75, vs 13)] = _; rw [g0, c8, c9])
      · rintro vs es Es Hx ⟨⟨d0, e3⟩, -⟩; refine Xg (D := [(76, vs 14)]) rfl ?_; rw [d0]; refine Gf [iV 0, iV 0, iV 0] [0] Za Jo Na Z2p Yd (by simp only [Wz, setCells, Value.cells, List.toList_toArray, List.getD_cons_zero, List.getD_cons_succ, List.set_cons_zero, List.set_cons_succ]; rfl) (by kernel_rfl) ?_; intro f1; refine Zo ?_; exact Xr rfl ⟨f1, rfl, rfl⟩ (Vh (by repeat constructor)) (by show [(76, vs 14)] = _; rw [d0])
     · rintro vs es hb ⟨⟨f2, h6⟩, ⟨j8, j9⟩, ⟨f3, e6⟩, ⟨f5, h8⟩, ⟨f4, h7⟩, ⟨f6, h9⟩, ⟨g0, i5⟩, ⟨f7, i1⟩, ⟨f9, i4⟩, ⟨f8, i2⟩, ⟨c4, d7⟩, ⟨c8, d9⟩, ⟨c7, d8⟩, ⟨c9, e0⟩, ⟨d0, e3⟩, ⟨f1, g1, g2⟩, -⟩ hHR; obtain rfl : hb = [] := hHR; refine Xg (D := [(62, vs 0), (63, vs 1), (64, vs 2), (65, vs 3), (66, vs 4), (67, vs 5), (68, vs 6), (69, vs 7), (70, vs 8), (71, vs 9), (72, vs 10), (73, vs 11), (74, vs 12), (75, vs 13), (76, vs 14), (77, vs 15)]) rfl ?_; refine Kv (H := _ ++ (_ ++ (es 0 ++ (es 1 ++ (es 2 ++ (es 3 ++ (es 4 ++ (es 5 ++ (es 6 ++ (es 7 ++ (es 8 ++ (es 9 ++ (es 10 ++ (es 11 ++ (es 12 ++ (es 13 ++ (es 14 ++ (es 15 ++ ([]))))))))))))))))))) rfl ?_; rw [h6, j9, e6, h8, h7, h9, i5, i1, i4, i2, d7, d9, d8, e0, e3, g2]; rw [f2, j8, f3, f5, f4, f6, g0, f7, f9, f8, c4, c8, c7, c9, d0, g1]; clear g1 d0 c9 c7 c8 c4 f8 f9 f7 g0 f6 f4 f5 f3 j8 f2 h6 j9 e6 h8 h7 h9 i5 i1 i4 i2 d7 d9 d8 e0 e3 g2; refine Ud (f := Kl) (s := 3) (xs := a3) (ob := a5) (j := d1) (ys := [(Arc.mk g9 h1 (c38.tmod 1125899906842624))]) (fun _ => rfl) (fun _ => rfl) Zeo l4 Zb Xt d6 e8 e9 f0 (fun wc hwc => (hwc.rs (f := Kl) (s := 3) (xs := [(Arc.mk g9 h1 (c38.tmod 1125899906842624))]) (j := ([])) (fun _ => rfl) Wr rfl (Nat.le_refl _) Vs)) ?_; intro g3 c47 l5 i6 i7 i8; refine Zi Za Gv (Vc (cs' := [iV (2 + r6), iV b6, iV b8, sV g3 (b7 + 1) c47]) Za Xt Zd0 Yb (Zo (Xu (Ya (Zu (aT [6, 7, 49, 50, 51] rfl) ?_))))); obtain ⟨l6, H⟩ := Zy H; refine rG Y2 rfl (Ys l6 Zb (Zd Za (Zo ?_))); have H := We H j6; exact Z1e k7 (a3 ++ ([(Arc.mk g9 h1 (c38.tmod 1125899906842624))])) (b7 + 1) c47 g3 l5 (a9 + 1) ⟨H, (Jn d6 rfl), i6, i7, i8⟩ (Nat.lt_succ_self _) (aF rfl) (Zc Xt (Zc Ze (Zc Ze Zg)))
   · refine Yn rfl h3 (T.exit (Xh ?_)); have H := Xp H j6 ▸ k6; exact Xh (Wt (Z88 a3 b7 c22 a5 d1 ⟨H, d6, e8, e9, f0⟩ (aF rfl) (Zc Ze (Zc Ze (Zc Ze Zg)))))
  · rintro a4 d2 d4 b5 e4 ⟨H, i9, j0, j1, j2⟩; unfold Z51 at H; refine sR Y2 rfl (Yt Za Jr Zv rfl (Wi Za Ze Z9h Yb (dN (T.ret ?_)))); obtain rfl := ret1 H; exact Zz Za (Uu rfl Jr Zk rfl) (Zc Xt Zg) ⟨b5, d2, d4, e4, rfl, rfl, i9, j0, j1, j2⟩
theorem Zdl {s0 : List Int} {a5 : Option Addr} {a4 a7 : Nat} (w : World) (a3 : RS w [] iC 1 a5 a4 a7 s0) {r0 : List Int} (H : Z3s s0 = some r0) : Fnc Tryz.prog 98 #[.slice a5 a4 a7] w [] (fun v N => ∃ (a6 : Option Nat) (a8 a9 : Nat) (b5 : List Value), v = sV a6 a8 a9 ∧ N = [(eI a6 r0 b5 3)] ∧ r0.length = a8 ∧ a8 ≤ a9 ∧ b5.length = (a9 - a8) * 1 ∧ (a6 = none → a9 = 0)) := by
 unfold Z3s at H; refine Fnc.enter (vs := [.slice a5 a4 a7]) Tryz.func98 rfl rfl (Inv.refl w) (sR Y1 rfl (aN Za (Zl (Zl ?_)))); by_cases g1 : a5 = none
 ·
  have hx : s0 = [] := List.eq_nil_of_length_eq_zero (by rw [a3.len, a3.ro.nil g1]); have H : (some ([])) = some r0 := by
   simp only [hx] at H ⊢; first | exact H | exact (Zy H).2 | (split at H <;> first | exact H | (split at H <;> first | exact H | exact absurd (Zy H).1 (fun h => absurd h.2 (Int.not_lt.2 h.1))))
  refine rG Y2 rfl (Zd Za (Z68 Zb Ye ?_)); refine Yc (t := 4) (b' := true) rfl (by rw [g1]; rfl) ?_; refine dN (Xi Yd (sR Y1 rfl (aN Za (T.ret (Zw ?_))))); obtain rfl := ret1 H; exact Zz Za (Res.tmp rfl) (Pick.none Zg) ⟨none, 0, 0, ([]), rfl, rfl, rfl, (Nat.le_refl _), (Wp 0 _), (fun _ => rfl)⟩
 · refine rG Y2 rfl (Zd Za (Z68 Zb Ye (Yc (t := 4) (b' := false) rfl (Option.isNone_eq_false_iff.2 (Option.isSome_iff_ne_none.2 g1)) (dN (Wu rfl rfl (T.skip (Ya ?_))))))); obtain ⟨g4, H⟩ := Zy H; refine sR Y4 rfl (Nw Yb Ye Yf ?_); intro b2; refine Zd Za ?_; refine Ud (f := iC) (s := 1) (xs := ([] : List Int)) (ob := some b2) (j := ([])) (ys := s0) (fun _ => rfl) (fun _ => rfl) Zel g4 Zb Ze rfl (Nat.le_refl _) (Wp 0 _) Vs (fun wc hwc => (a3.mono hwc)) ?_; intro b6 c6 j7 b7 b8 b0; refine aN Za (T.ret ?_); obtain rfl := ret1 H; exact Zz Za (Res.tmp rfl) (Zc Ze Zg) ⟨b6, (0 + a4), c6, j7, rfl, rfl, (Vd a3.len), b7, b8, b0⟩
theorem Z97 {c0 : Csr} {a9 b7 c7 a6 a4 a5 : Option Addr} {d0 b5 c8 b6 b8 b0 a7 a3 c4 a8 b9 c9 : Nat} (w : World) (d5 : RS w [] iC 1 a9 d0 b5 c0.First) (d1 : RS w [] iC 1 b7 c8 b6 c0.Head) (d7 : RS w [] iC 1 c7 b8 b0 c0.Rev) (d4 : RS w [] iC 1 a6 a7 a3 c0.Cap) (d2 : RS w [] iC 1 a4 c4 a8 c0.Arc) (d6 : RS w [] boolC 1 a5 b9 c9 c0.Back) {r0 : Int} (H : Z41 c0 = some r0) : Fnc Tryz.prog 72 #[.agg #[iV c0.N, iV c0.S, iV c0.T, .slice a9 d0 b5, .slice b7 c8 b6, .slice c7 b8 b0, .slice a6 a7 a3, .slice a4 c4 a8, .slice a5 b9 c9]] w [] (fun v N => v = iV r0 ∧ N = []) := by
 unfold Z41 at H; refine Fnc.enter (vs := [.agg #[iV c0.N, iV c0.S, iV c0.T, .slice a9 d0 b5, .slice b7 c8 b6, .slice c7 b8 b0, .slice a6 a7 a3, .slice a4 c4 a8, .slice a5 b9 c9]]) Tryz.func72 rfl rfl (Inv.refl w) ?_; refine sR Y2 rfl (Xs Za ?_); intro b1; refine aN Za (sR Y4 rfl (Zi Za Vo (Zn Za Yi Zk rfl (Xo (xs := c0.Head) d1.len Zb Ye (aN Za (T.ret ?_)))))); obtain rfl := ret1 H; exact Zz Za (Res.tmp rfl) Zg ⟨rfl, rfl⟩
end Go.Proofs.YtobnnpdfeakbbaaGreat.Ax
namespace Go.Proofs.YtobnnpdfeakbbaaGreat.Ax
open Go Go.Acq Go.RowKit Go.Proofs
set_option maxHeartbeats 8000000
set_option maxRecDepth 20000
theorem Ww : Vk Tryz.prog 29 9 = true := by kernel_rfl
theorem Zbv : Xm Tryz.prog 200 = true := by kernel_rfl
theorem Zcp : Xm Tryz.prog 266 = true := by kernel_rfl
theorem Zce : Xm Tryz.prog 267 = true := by kernel_rfl
theorem Z9n : Xm Tryz.prog 72 = true := by kernel_rfl
theorem Us : Wa Tryz.prog 29 3 = some 3 := by kernel_rfl
theorem Zcn : Nj Tryz.prog 297 = some .u64 := by kernel_rfl
theorem Zc7 : Nj Tryz.prog 3 = some .i64 := by kernel_rfl
theorem Yj : Xc Tryz.prog 26 = some 2 := by kernel_rfl
theorem Yo : Yy Tryz.prog 2 = some 1 := by kernel_rfl
theorem Ze0 : (Tryz.prog.underlying 297).isSome = true := by kernel_rfl
theorem Zdy : (Tryz.prog.underlying 3).isSome = true := by kernel_rfl
theorem Zd2 {i0 c2 : Int} {c1 : List Int} {a3 b0 a8 a4 : Nat} {a9 : Option Addr} (w : World) (a7 : RS w [] iC 1 a9 b0 a8 c1) (a6 : HB w [] a3 [.slice a9 b0 a8]) (a5 : HB w [] a4 [iV c2]) {r0 : Bool} (H : Z58 i0 c1 c2 = some r0) : Fnc Tryz.prog 267 #[iV i0, pV a3, pV a4] w [] (fun v N => v = .bool r0 ∧ N = []) := by
 unfold Z58 at H; refine Fnc.enter (vs := [iV i0, pV a3, pV a4]) Tryz.func267 rfl rfl (Inv.refl w) (sR Y1 rfl (aN Za (Zl ?_))); obtain ⟨g1, H⟩ := Zy H; apply Z78 [(5, _), (6, _), (7, _), (8, _), (9, _)]
 · exact Yx
 · kernel_rfl
 · kernel_rfl
 · exact rfl
 · exact rfl
 ·
  refine ⟨?_, ?_, ?_, ?_, ?_, trivial⟩
  · intro Es; exact Z62 a6 Zb Yi (Zo (X.ob rfl (Yv _)))
  · intro Es; exact Zd Za (Zo (X.ob rfl (Yv _)))
  · intro Es; exact Wh a7 g1 Zb Ye Yf (Zo (X.ob rfl (Yv _)))
  · intro Es; exact Vj a7 g1 Za Zj (Zo (X.ob rfl (Yv _)))
  · intro Es; exact Z62 a5 Zb Zj (Zo (X.ob rfl (Yv _)))
 refine Zt Zm (aN Za (Zu (aT [4] rfl) (T.ret ?_))); obtain rfl := ret1 H; exact Zz Za (Res.tmp rfl) Zg ⟨rfl, rfl⟩
theorem Zbt {n0 f1_1 : Int} {f1_0 : List Int} {a4 a9 a7 a3 : Nat} {a8 : Option Addr} (w : World) (b0 : RS w [] iC 1 a8 a9 a7 f1_0) (a5 : HB w [] a4 [.slice a8 a9 a7]) (a6 : HB w [] a3 [iV f1_1]) {r0 : Int} (H : Z5t n0 f1_0 f1_1 = some r0) : Fnc Tryz.prog 266 #[iV n0, .func (.func 267) #[] #[pV a4, pV a3]] w [] (fun v N => v = iV r0 ∧ N = []) := by
 unfold Z5t at H; refine Fnc.enter (vs := [iV n0, .func (.func 267) #[] #[pV a4, pV a3]]) Tryz.func266 rfl rfl (Inv.refl w) (sR Y1 rfl (aN Za (sR Y3 rfl (Zd Za (Xq Za (aN Za (Zl ?_))))))); refine Wj (fun (b6 : Int) => Z4f b6 = some r0) (fun (b6 : Int) => [(5, iV b6)]) (fun (b6 : Int) => []) ?_ ?_
 ·
  refine T.block ?_; obtain ⟨b9, c4, c7⟩ := Yg H; refine Np (fun (b5 : Nat) (i1 j2 : Int) => Yw (fun s => Z26 f1_0 f1_1 s.1 s.2) b5 (i1, j2) = some b9) (fun (b5 : Nat) (i1 j2 : Int) => [(1, .func (.func 267) #[] #[pV a4, pV a3]), (5, iV i1), (6, iV j2)]) (fun (b5 : Nat) (i1 j2 : Int) => []) (fun (b5 : Nat) (i1 j2 : Int) => b5) Yh 0 n0 c4 (aF rfl) Zg ?_; rintro b5 i1 j2 H; obtain ⟨b8, c8, rfl, H, b7⟩ := Vb H; have H : Z26 f1_0 f1_1 i1 j2 = some c8 := H; unfold Z26 at H; refine Zl (sR Y3 rfl (Zd Za (Zd Za (Zt Zm (dN ?_))))); rcases Zq H with ⟨g3, H⟩ | ⟨g3, H⟩
  ·
   refine Yp rfl g3 (T.skip (Ya (T.block ?_))); obtain ⟨g4, g5, g6, H⟩ := Uw H; refine sR Y7 rfl (Zd Za (Zd Za (Ys g4 Zb (Za5 Za Zdy Zcn (Zc9 g5) (TO.shrL (m := 1) rr7 (Za5 Za Ze0 Zc7 (Lk g6.1 g6.2) (aN Za (Zu (aT [1, 5, 6, 7] rfl) (Zl ?_))))))))); obtain ⟨r7, e8, H⟩ := Yg H; refine rG Y4 rfl (Zd Za (Zd Za ?_)); refine Z4m Zce Zb (fun wc hwc => Zd2 (i0 := (Int.fdiv (i1 + j2) (2 ^ 1))) (c1 := f1_0) (c2 := f1_1) wc (b0.mono hwc) (a5.mono hwc) (a6.mono hwc) e8) ?_; rintro _ _ ⟨rfl, rfl⟩; refine TO.not Za (dN ?_); rcases Zq H with ⟨g9, H⟩ | ⟨g9, H⟩
   · refine Xi ⟨rfl, g9⟩ ?_; obtain ⟨c9, H⟩ := Zy H; refine rG Y3 rfl (Zd Za (Ys c9 Zb (Xq Za (Zo (Xu ?_))))); have H := We H b7; exact Uz b8 ((Int.fdiv (i1 + j2) (2 ^ 1)) + 1) j2 H (Nat.lt_succ_self _) (aF rfl) Zg
   · refine Wu rfl (Bool.eq_false_iff.2 g9) (rG Y2 rfl (Zd Za (Xq Za (Zo (Xu ?_))))); have H := We H b7; exact Uz b8 i1 (Int.fdiv (i1 + j2) (2 ^ 1)) H (Nat.lt_succ_self _) (aF rfl) Zg
  · refine Yn rfl g3 (T.exit (Xh ?_)); have H := Xp H b7 ▸ c7; exact Xh (Wt (Xk i1 H (aF rfl) Zg))
 · rintro b6 H; unfold Z4f at H; refine sR Y2 rfl (Zd Za (aN Za (T.ret ?_))); obtain rfl := ret1 H; exact Zz Za (Res.tmp rfl) Zg ⟨rfl, rfl⟩
theorem Zfa {a0 : List Int} {x1 : Int} {a3 : Option Addr} {a4 a5 : Nat} (w : World) (a6 : RS w [] iC 1 a3 a4 a5 a0) {r0 : Int} (H : Z2c a0 x1 = some r0) : Fnc Tryz.prog 200 #[.slice a3 a4 a5, iV x1] w [] (fun v N => v = iV r0 ∧ N = []) := by
 unfold Z2c at H; refine Fnc.enter (vs := [.slice a3 a4 a5, iV x1]) Tryz.func200 rfl rfl (Inv.refl w) (sR Y3 rfl (TO.box Za ?_)); intro b1; refine TO.box Za ?_; intro b3; refine aN Za (Zl ?_); obtain ⟨r5, e6, H⟩ := Yg H; refine rG Y5 rfl (Zn Za Yi Zv rfl (Xo (xs := a0) a6.len Zb Ye (TO.makeFunc Zb ?_))); refine Xa Zcp Za (fun wc hwc => Zbt (n0 := (a0.length : Int)) (f1_0 := a0) (f1_1 := x1) wc (a6.mono hwc) (hwc.hb (cs := [.slice a3 a4 a5]) Zv) (hwc.hb (cs := [iV x1]) Zk) e6) ?_; rintro _ _ ⟨rfl, rfl⟩; refine aN Za (Zu (aT [4] rfl) (T.ret ?_)); obtain rfl := ret1 H; exact Zz Za (Res.tmp rfl) Zg ⟨rfl, rfl⟩
theorem Zdm {c0 : Csr} {a1 : Int} {a9 b7 c7 a6 a4 a5 : Option Addr} {d0 b5 c8 b6 b8 b0 a7 a3 c4 a8 b9 c9 : Nat} (w : World) (d1 : RS w [] iC 1 a9 d0 b5 c0.First) (d2 : RS w [] iC 1 b7 c8 b6 c0.Head) (d7 : RS w [] iC 1 c7 b8 b0 c0.Rev) (d5 : RS w [] iC 1 a6 a7 a3 c0.Cap) (d4 : RS w [] iC 1 a4 c4 a8 c0.Arc) (d6 : RS w [] boolC 1 a5 b9 c9 c0.Back) {r0 : Int} {r1 : Bool} (H : Z1a c0 a1 = some (r0, r1)) : Fnc Tryz.prog 117 #[.agg #[iV c0.N, iV c0.S, iV c0.T, .slice a9 d0 b5, .slice b7 c8 b6, .slice c7 b8 b0, .slice a6 a7 a3, .slice a4 c4 a8, .slice a5 b9 c9], iV a1] w [] (fun v N => v = .tuple #[iV r0, .bool r1] ∧ N = []) := by
 unfold Z1a at H; refine Fnc.enter (vs := [.agg #[iV c0.N, iV c0.S, iV c0.T, .slice a9 d0 b5, .slice b7 c8 b6, .slice c7 b8 b0, .slice a6 a7 a3, .slice a4 c4 a8, .slice a5 b9 c9], iV a1]) Tryz.func117 rfl rfl (Inv.refl w) ?_; refine sR Y3 rfl (Xs Za ?_); intro b1; refine Xq Za (aN Za (Zl (Zl ?_))); refine Wj (fun (x6 : Bool) => Z3g c0 a1 x6 = some (r0, r1)) (fun (x6 : Bool) => [(1, iV a1), (2, pV b1), (13, .bool x6)]) (fun (x6 : Bool) => [(eC b1 #[iV c0.N, iV c0.S, iV c0.T, .slice a9 d0 b5, .slice b7 c8 b6, .slice c7 b8 b0, .slice a6 a7 a3, .slice a4 c4 a8, .slice a5 b9 c9] 29)]) ?_ ?_
 ·
  rcases Zq H with ⟨g3, H⟩ | ⟨g3, H⟩
  · exact rG Y8 rfl (Zd Za (Zt Zm (Zd Za (Yc (t := 8) (b' := true) rfl (decide_eq_true g3) (Zf Za (Zf Za (Zf Za (Zf Za (Ym Zb (Zo (Xk true H (aF rfl) (Zc Ze Zg))))))))))))
  · obtain ⟨r4, e5, H⟩ := Yg H; refine rG Y8 rfl (Zd Za (Zt Zm (Zd Za (Yc (t := 8) (b' := false) rfl (decide_eq_false g3) (Zd Za (Yt Za Ww Zk rfl ?_)))))); refine Xa Z9n Za (fun wc hwc => Z97 (c0 := c0) wc (d1.mono hwc) (d2.mono hwc) (d7.mono hwc) (d5.mono hwc) (d4.mono hwc) (d6.mono hwc) e5) ?_; rintro _ _ ⟨rfl, rfl⟩; exact Zt Zm (Yr Zb (Zo (Xk (decide (r4 ≤ a1)) H (aF rfl) (Zc Ze Zg))))
 ·
  rintro x6 H; unfold Z3g at H; rcases Zq H with ⟨g7, H⟩ | ⟨g7, H⟩
  · refine Xi ⟨rfl, g7⟩ (sR Y2 rfl (Xq Za (aN Za (T.ret (Zw ?_))))); obtain ⟨rfl, rfl⟩ := ret2 H; exact Lb Za (Res.tmp rfl) (Res.tmp rfl) Zg ⟨rfl, rfl⟩
  · refine Wu rfl (Bool.eq_false_iff.2 g7) (T.skip (Ya (Zl ?_))); obtain ⟨g8, H⟩ := Zy H; obtain ⟨r9, d8, H⟩ := Yg H; obtain ⟨d9, H⟩ := Zy H; refine rG Y8 rfl (Zi Za Us (Zn Za Yi Zk rfl (Zd Za (Ys g8 Zb ?_)))); refine Xa Zbv Za (fun wc hwc => Zfa (a0 := c0.First) (x1 := (a1 + 1)) wc (d1.mono hwc) d8) ?_; rintro _ _ ⟨rfl, rfl⟩; refine Z05 d9 Zb (Xq Za (aN Za (Zu (aT [4, 5] rfl) (T.ret ?_)))); obtain ⟨rfl, rfl⟩ := ret2 H; exact Lb Za (Res.tmp rfl) (Res.tmp rfl) Zg ⟨rfl, rfl⟩
theorem Zf1 {a0 b1 : List Int} {a4 a6 : Option Addr} {a5 a9 a8 a7 : Nat} (w : World) (a3 : RS w [] iC 1 a4 a5 a9 a0) (b0 : RS w [] iC 1 a6 a8 a7 b1) {r0 : Bool} (H : Z46 a0 b1 = some r0) : Fnc Tryz.prog 63 #[.slice a4 a5 a9, .slice a6 a8 a7] w [] (fun v N => v = .bool r0 ∧ N = []) := by
 unfold Z46 at H; refine Fnc.enter (vs := [.slice a4 a5 a9, .slice a6 a8 a7]) Tryz.func63 rfl rfl (Inv.refl w) (sR Y1 rfl (aN Za (Zl (sR Y5 rfl (Zd Za (Xo (xs := a0) a3.len Zb Ye (Zd Za (Xo (xs := b1) b0.len Zb Ye (Zt Zm (dN ?_)))))))))); rcases Zq H with ⟨g1, H⟩ | ⟨g1, H⟩
 · refine Yp rfl g1 (sR Y1 rfl (aN Za (T.ret (Zw ?_)))); obtain rfl := ret1 H; exact Zz Za (Res.tmp rfl) Zg ⟨rfl, rfl⟩
 ·
  refine Yn rfl g1 (T.skip (Ya (Zl (sR Y3 rfl (Zd Za (Xo (xs := a0) a3.len Zb Ye (Zd Za (dN ?_)))))))); refine Wj (fun (u8 : Unit) => Z7r = some r0) (fun (u8 : Unit) => []) (fun (u8 : Unit) => []) ?_ ?_
  ·
   refine T.block ?_; obtain ⟨b8, b9, b7⟩ := Yg H; refine Jb (fun (b5 : Nat) (x2 : Int) => Yw (fun s => Z2e a0 b1 s) b5 x2 = some b8) (fun (b5 : Nat) (x2 : Int) => [(0, .slice a4 a5 a9), (1, .slice a6 a8 a7), (12, iV (a0.length : Int)), (13, iV x2)]) (fun (b5 : Nat) (x2 : Int) => []) (fun (b5 : Nat) (x2 : Int) => b5) Yh 0 b9 (aF rfl) Zg ?_; rintro b5 x2 H; obtain ⟨c4, c7, rfl, H, b6⟩ := Vb H; have H : Z2e a0 b1 x2 = some c7 := H; unfold Z2e at H; refine sR Y1 rfl (Zt Zm (dS ?_)); rcases Zq H with ⟨g3, H⟩ | ⟨g3, H⟩
   ·
    refine Yp rfl g3 (T.skip (Ya (Zl (T.block (sR Y2 rfl (Zd Za (aN Za (Zl ?_)))))))); obtain ⟨g4, g5, H⟩ := Vf H; apply Z78 [(16, _), (17, _), (18, _), (19, _), (20, _), (21, _), (22, _), (23, _)]
    · exact Yx
    · kernel_rfl
    · kernel_rfl
    · exact rfl
    · exact rfl
    ·
     refine ⟨?_, ?_, ?_, ?_, ?_, ?_, ?_, ?_, trivial⟩
     · intro Es; exact Zd Za (Zo (X.ob rfl (Yv _)))
     · intro Es; exact Zd Za (Zo (X.ob rfl (Yv _)))
     · intro Es; exact Wh a3 g4 Zb Ye Yf (Zo (X.ob rfl (Yv _)))
     · intro Es; exact Vj a3 g4 Za Zj (Zo (X.ob rfl (Yv _)))
     · intro Es; exact Zd Za (Zo (X.ob rfl (Yv _)))
     · intro Es; exact Zd Za (Zo (X.ob rfl (Yv _)))
     · intro Es; exact Wh b0 g5 Zb Ye Yf (Zo (X.ob rfl (Yv _)))
     · intro Es; exact Vj b0 g5 Za Zj (Zo (X.ob rfl (Yv _)))
    refine Zt Zm (dN (Zu (aT [0, 1, 12, 13, 24] rfl) ?_)); rcases Zq H with ⟨g6, H⟩ | ⟨g6, H⟩
    · refine Yp rfl g6 (sR Y1 rfl (aN Za (T.ret (Xn (Zw ?_))))); have H := Xp H b6 ▸ b7; refine Zw (Xn (Zw ?_)); obtain rfl := ret1 H; exact Zz Za (Res.tmp rfl) Zg ⟨rfl, rfl⟩
    · refine Yn rfl g6 (T.skip (Xu (Ya ?_))); obtain ⟨g7, H⟩ := Zy H; refine rG Y2 rfl (Ys g7 Zb (Zd Za (Zo ?_))); have H := We H b6; exact Kk c4 (x2 + 1) H (Nat.lt_succ_self _) (aF rfl) Zg
   · refine Yn rfl g3 (T.exit (Xh ?_)); have H := Xp H b6 ▸ b7; exact Xh (Wt (Xk () H Jt Zg))
  · rintro u8 H; unfold Z7r at H; refine sR Y1 rfl (aN Za (T.ret ?_)); obtain rfl := ret1 H; exact Zz Za (Res.tmp rfl) Zg ⟨rfl, rfl⟩
theorem Z3a {a0 b1 : List Int} {a4 a6 : Option Addr} {a5 a9 a8 a7 : Nat} (w : World) (a3 : RS w [] iC 1 a4 a5 a9 a0) (b0 : RS w [] iC 1 a6 a8 a7 b1) {r0 : Bool} (H : Z1u a0 b1 = some r0) : Fnc Tryz.prog 76 #[.slice a4 a5 a9, .slice a6 a8 a7] w [] (fun v N => v = .bool r0 ∧ N = []) := by
 unfold Z1u at H; refine Fnc.enter (vs := [.slice a4 a5 a9, .slice a6 a8 a7]) Tryz.func76 rfl rfl (Inv.refl w) (sR Y1 rfl (aN Za (Zl (sR Y5 rfl (Zd Za (Xo (xs := a0) a3.len Zb Yj (Zd Za (Xo (xs := b1) b0.len Zb Yj (Zt Zm (dN ?_)))))))))); rcases Zq H with ⟨g1, H⟩ | ⟨g1, H⟩
 · refine Yp rfl g1 (sR Y1 rfl (aN Za (T.ret (Zw ?_)))); obtain rfl := ret1 H; exact Zz Za (Res.tmp rfl) Zg ⟨rfl, rfl⟩
 ·
  refine Yn rfl g1 (T.skip (Ya (Zl (sR Y3 rfl (Zd Za (Xo (xs := a0) a3.len Zb Yj (Zd Za (dN ?_)))))))); refine Wj (fun (u8 : Unit) => Z6j = some r0) (fun (u8 : Unit) => []) (fun (u8 : Unit) => []) ?_ ?_
  ·
   refine T.block ?_; obtain ⟨b8, b9, b7⟩ := Yg H; refine Jb (fun (b5 : Nat) (x2 : Int) => Yw (fun s => Z2i a0 b1 s) b5 x2 = some b8) (fun (b5 : Nat) (x2 : Int) => [(0, .slice a4 a5 a9), (1, .slice a6 a8 a7), (12, iV (a0.length : Int)), (13, iV x2)]) (fun (b5 : Nat) (x2 : Int) => []) (fun (b5 : Nat) (x2 : Int) => b5) Yh 0 b9 (aF rfl) Zg ?_; rintro b5 x2 H; obtain ⟨c4, c7, rfl, H, b6⟩ := Vb H; have H : Z2i a0 b1 x2 = some c7 := H; unfold Z2i at H; refine sR Y1 rfl (Zt Zm (dS ?_)); rcases Zq H with ⟨g3, H⟩ | ⟨g3, H⟩
   ·
    refine Yp rfl g3 (T.skip (Ya (Zl (T.block (sR Y2 rfl (Zd Za (aN Za (Zl ?_)))))))); obtain ⟨g4, g5, H⟩ := Vf H; apply Z78 [(16, _), (17, _), (18, _), (19, _), (20, _), (21, _), (22, _), (23, _)]
    · exact Yx
    · kernel_rfl
    · kernel_rfl
    · exact rfl
    · exact rfl
    ·
     refine ⟨?_, ?_, ?_, ?_, ?_, ?_, ?_, ?_, trivial⟩
     · intro Es; exact Zd Za (Zo (X.ob rfl (Yv _)))
     · intro Es; exact Zd Za (Zo (X.ob rfl (Yv _)))
     · intro Es; exact Wh a3 g4 Zb Yj Yo (Zo (X.ob rfl (Yv _)))
     · intro Es; exact Vj a3 g4 Za Yu (Zo (X.ob rfl (Yv _)))
     · intro Es; exact Zd Za (Zo (X.ob rfl (Yv _)))
     · intro Es; exact Zd Za (Zo (X.ob rfl (Yv _)))
     · intro Es; exact Wh b0 g5 Zb Yj Yo (Zo (X.ob rfl (Yv _)))
     · intro Es; exact Vj b0 g5 Za Yu (Zo (X.ob rfl (Yv _)))
    refine Zt Zm (dN (Zu (aT [0, 1, 12, 13, 24] rfl) ?_)); rcases Zq H with ⟨g6, H⟩ | ⟨g6, H⟩
    · refine Yp rfl g6 (sR Y1 rfl (aN Za (T.ret (Xn (Zw ?_))))); have H := Xp H b6 ▸ b7; refine Zw (Xn (Zw ?_)); obtain rfl := ret1 H; exact Zz Za (Res.tmp rfl) Zg ⟨rfl, rfl⟩
    · refine Yn rfl g6 (T.skip (Xu (Ya ?_))); obtain ⟨g7, H⟩ := Zy H; refine rG Y2 rfl (Ys g7 Zb (Zd Za (Zo ?_))); have H := We H b6; exact Kk c4 (x2 + 1) H (Nat.lt_succ_self _) (aF rfl) Zg
   · refine Yn rfl g3 (T.exit (Xh ?_)); have H := Xp H b6 ▸ b7; exact Xh (Wt (Xk () H Jt Zg))
  · rintro u8 H; unfold Z6j at H; refine sR Y1 rfl (aN Za (T.ret ?_)); obtain rfl := ret1 H; exact Zz Za (Res.tmp rfl) Zg ⟨rfl, rfl⟩
end Go.Proofs.YtobnnpdfeakbbaaGreat.Ax
namespace Go.Proofs.YtobnnpdfeakbbaaGreat.Ax
open Go Go.Acq Go.RowKit Go.Proofs
set_option maxHeartbeats 8000000
set_option maxRecDepth 20000
theorem Z7v : Vz Tryz.prog 2 = some 8 := by kernel_rfl
theorem TWYS7.b4 : Vz Tryz.prog 4 = some 1 := by kernel_rfl
theorem Lm : Xm Tryz.prog 154 = true := by kernel_rfl
theorem Zex : Xm Tryz.prog 155 = true := by kernel_rfl
theorem Zbw : Xm Tryz.prog 68 = true := by kernel_rfl
theorem Rc : Wa Tryz.prog 29 5 = some 5 := by kernel_rfl
theorem Lf : Wa Tryz.prog 29 6 = some 6 := by kernel_rfl
theorem Le : Wa Tryz.prog 29 7 = some 7 := by kernel_rfl
theorem Z1p : Wa Tryz.prog 29 8 = some 8 := by kernel_rfl
theorem Z2y : Xc Tryz.prog 27 = some 4 := by kernel_rfl
theorem Rw : Yy Tryz.prog 25 = some 1 := by kernel_rfl
theorem Z9d : Yy Tryz.prog 26 = some 1 := by kernel_rfl
theorem Zat : Yy Tryz.prog 27 = some 1 := by kernel_rfl
theorem Z6h : Yy Tryz.prog 29 = some 9 := by kernel_rfl
theorem Z2f : Yy Tryz.prog 4 = some 1 := by kernel_rfl
theorem Yk : Wo Tryz.prog 26 = true := by kernel_rfl
theorem Z57 : Wo Tryz.prog 27 = true := by kernel_rfl
theorem Z3t : Wm Tryz.prog 2 = some (iV 0) := by kernel_rfl
theorem Z6u : Wm Tryz.prog 29 = some (.agg #[iV 0, iV 0, iV 0, .slice none 0 0, .slice none 0 0, .slice none 0 0, .slice none 0 0, .slice none 0 0, .slice none 0 0]) := by kernel_rfl
theorem Z6w : Wm Tryz.prog 4 = some (.bool false) := by kernel_rfl
theorem Rx : ElemT Tryz.prog 25 3 1 8 (iV 0) := ⟨Ye, Yf, Z7s, Ni, rfl⟩
theorem Z6x : ElemT Tryz.prog 26 2 1 8 (iV 0) := ⟨Yj, Yo, Z7v, Z3t, rfl⟩
theorem Z9g : ElemT Tryz.prog 27 4 1 1 (.bool false) := ⟨Z2y, Z2f, TWYS7.b4, Z6w, rfl⟩
theorem Z8f {s0 : List Int} {a5 : Option Addr} {a4 a7 : Nat} (w : World) (a3 : RS w [] iC 1 a5 a4 a7 s0) {r0 : List Int} (H : Ry s0 = some r0) : Fnc Tryz.prog 82 #[.slice a5 a4 a7] w [] (fun v N => ∃ (a6 : Option Nat) (a8 a9 : Nat) (b5 : List Value), v = sV a6 a8 a9 ∧ N = [(eI a6 r0 b5 2)] ∧ r0.length = a8 ∧ a8 ≤ a9 ∧ b5.length = (a9 - a8) * 1 ∧ (a6 = none → a9 = 0)) := by
 unfold Ry at H; refine Fnc.enter (vs := [.slice a5 a4 a7]) Tryz.func82 rfl rfl (Inv.refl w) (sR Y1 rfl (aN Za (Zl (Zl ?_)))); by_cases g1 : a5 = none
 ·
  have hx : s0 = [] := List.eq_nil_of_length_eq_zero (by rw [a3.len, a3.ro.nil g1]); have H : (some ([])) = some r0 := by
   simp only [hx] at H ⊢; first | exact H | exact (Zy H).2 | (split at H <;> first | exact H | (split at H <;> first | exact H | exact absurd (Zy H).1 (fun h => absurd h.2 (Int.not_lt.2 h.1))))
  refine rG Y2 rfl (Zd Za (Z68 Zb Yj ?_)); refine Yc (t := 4) (b' := true) rfl (by rw [g1]; rfl) ?_; refine dN (Xi Yd (sR Y1 rfl (aN Za (T.ret (Zw ?_))))); obtain rfl := ret1 H; exact Zz Za (Res.tmp rfl) (Pick.none Zg) ⟨none, 0, 0, ([]), rfl, rfl, rfl, (Nat.le_refl _), (Wp 0 _), (fun _ => rfl)⟩
 · refine rG Y2 rfl (Zd Za (Z68 Zb Yj (Yc (t := 4) (b' := false) rfl (Option.isNone_eq_false_iff.2 (Option.isSome_iff_ne_none.2 g1)) (dN (Wu rfl rfl (T.skip (Ya ?_))))))); obtain ⟨g4, H⟩ := Zy H; refine sR Y4 rfl (Nw Yb Yj Yo ?_); intro b2; refine Zd Za ?_; refine Ud (f := iC) (s := 1) (xs := ([] : List Int)) (ob := some b2) (j := ([])) (ys := s0) (fun _ => rfl) (fun _ => rfl) Z6x g4 Zb Ze rfl (Nat.le_refl _) (Wp 0 _) Vs (fun wc hwc => (a3.mono hwc)) ?_; intro b6 c6 j7 b7 b8 b0; refine aN Za (T.ret ?_); obtain rfl := ret1 H; exact Zz Za (Res.tmp rfl) (Zc Ze Zg) ⟨b6, (0 + a4), c6, j7, rfl, rfl, (Vd a3.len), b7, b8, b0⟩
theorem Lc {n0 : Net} {v1 : Int} {a5 : Option Addr} {a3 a4 : Nat} (w : World) (a6 : RS w [] Kl 3 a5 a3 a4 n0.Arcs) {r0 : Bool} (H : Ly n0 v1 = some r0) : Fnc Tryz.prog 154 #[.agg #[iV n0.N, iV n0.S, iV n0.T, .slice a5 a3 a4], iV v1] w [] (fun v N => v = .bool r0 ∧ N = []) := by
 unfold Ly at H; refine Fnc.enter (vs := [.agg #[iV n0.N, iV n0.S, iV n0.T, .slice a5 a3 a4], iV v1]) Tryz.func154 rfl rfl (Inv.refl w) (sR Y2 rfl (Xs Za ?_)); intro b1; refine aN Za (Zl ?_); rcases Zq H with ⟨g3, H⟩ | ⟨g3, H⟩
 · refine rG Y9 rfl (Zd Za (Zt Zm (Zd Za (Yc (t := 7) (b' := true) rfl (decide_eq_true g3) (Zd Za (Zi Za Ga (Zn Za Zj Zk rfl (Zt Zm (Ym Zb (aN Za (Zu (aT [4] rfl) (T.ret ?_)))))))))))); obtain rfl := ret1 H; exact Zz Za (Res.tmp rfl) Zg ⟨rfl, rfl⟩
 · refine rG Y9 rfl (Zd Za (Zt Zm (Zd Za (Yc (t := 7) (b' := false) rfl (decide_eq_false g3) (Zf Za (Zf Za (Zf Za (Zf Za (Yr Zb (aN Za (Zu (aT [4] rfl) (T.ret ?_)))))))))))); obtain rfl := ret1 H; exact Zz Za (Res.tmp rfl) Zg ⟨rfl, rfl⟩
theorem Ze3 {n0 : Net} {a6 : Option Addr} {a4 a5 : Nat} (w : World) (a8 : RS w [] Kl 3 a6 a4 a5 n0.Arcs) {r0 : Int} {r1 : Bool} (H : Z2o n0 = some (r0, r1)) : Fnc Tryz.prog 155 #[.agg #[iV n0.N, iV n0.S, iV n0.T, .slice a6 a4 a5]] w [] (fun v N => v = .tuple #[iV r0, .bool r1] ∧ N = []) := by
 unfold Z2o at H; refine Fnc.enter (vs := [.agg #[iV n0.N, iV n0.S, iV n0.T, .slice a6 a4 a5]]) Tryz.func155 rfl rfl (Inv.refl w) (sR Y3 rfl (Xs Za ?_)); intro b1; refine Xq Za (aN Za (sR Y1 rfl (aN Za (Zl (sR Y1 rfl (aN Za ?_)))))); refine Wj (fun (a7 : Int) => Z4g a7 = some (r0, r1)) (fun (a7 : Int) => [(4, iV a7)]) (fun (a7 : Int) => []) ?_ ?_
 ·
  refine T.block ?_; obtain ⟨b8, b9, b6⟩ := Yg H; refine Np (fun (a9 : Nat) (a3 i4 : Int) => Yw (fun s => Z3r n0 s.1 s.2) a9 (a3, i4) = some b8) (fun (a9 : Nat) (a3 i4 : Int) => [(1, pV b1), (4, iV a3), (5, iV i4)]) (fun (a9 : Nat) (a3 i4 : Int) => [(eC b1 #[iV n0.N, iV n0.S, iV n0.T, .slice a6 a4 a5] 24)]) (fun (a9 : Nat) (a3 i4 : Int) => a9) Yh 0 0 b9 (aF rfl) (Zc Ze Zg) ?_; rintro a9 a3 i4 H; obtain ⟨c4, b7, rfl, H, b0⟩ := Vb H; have H : Z3r n0 a3 i4 = some b7 := H; unfold Z3r at H; refine Zl (sR Y5 rfl (Zd Za (Zi Za Gv (Zn Za Nc Zk rfl (Xo (xs := n0.Arcs) a8.len Zb Jo (Zt Zm (dN ?_))))))); rcases Zq H with ⟨g5, H⟩ | ⟨g5, H⟩
  ·
   refine Yp rfl g5 (T.skip (Ya (Zl (T.block ?_)))); obtain ⟨g6, H⟩ := Zy H; refine sR Y7 rfl (Zi Za Gv (Zn Za Nc Zk rfl (Zd Za (Wh a8 g6 Zb Jo Na (Rv Za Z59 (Rj (v := iV ((n0.Arcs.getD i4.toNat default).cap)) default a8 g6 Zb Yu (aN Za (Zu (aT [1, 4, 5, 6] rfl) (Zl (Zl ?_)))))))))); refine Wj (fun (x9 : Bool) => Z23 n0 a3 i4 x9 = some b7) (fun (x9 : Bool) => [(1, pV b1), (4, iV a3), (5, iV i4), (6, iV ((n0.Arcs.getD i4.toNat default).cap)), (27, .bool x9)]) (fun (x9 : Bool) => [(eC b1 #[iV n0.N, iV n0.S, iV n0.T, .slice a6 a4 a5] 24)]) ?_ ?_
   ·
    rcases Zq H with ⟨g7, H⟩ | ⟨g7, H⟩
    · exact rG Y8 rfl (Zd Za (Zt Zm (Zd Za (Yc (t := 22) (b' := true) rfl (decide_eq_true g7) (Zf Za (Zf Za (Zf Za (Zf Za (Ym Zb (Zo (Xk true H (aF rfl) (Zc Ze Zg))))))))))))
    · obtain ⟨g8, H⟩ := Zy H; exact rG Y8 rfl (Zd Za (Zt Zm (Zd Za (Yc (t := 22) (b' := false) rfl (decide_eq_false g7) (Zd Za (Zd Za (Z05 g8 Zb (Zt Zm (Yr Zb (Zo (Xk (decide ((4611686018427387904 - a3) < ((n0.Arcs.getD i4.toNat default).cap))) H (aF rfl) (Zc Ze Zg))))))))))))
   ·
    rintro x9 H; unfold Z23 at H; rcases Zq H with ⟨b5, H⟩ | ⟨b5, H⟩
    · refine Xi ⟨rfl, b5⟩ (sR Y2 rfl (Xq Za (aN Za (T.ret (Zw (Xn (Zw ?_))))))); have H := Xp H b0 ▸ b6; refine Zw (Xn (Zw ?_)); obtain ⟨rfl, rfl⟩ := ret2 H; exact Lb Za (Res.tmp rfl) (Res.tmp rfl) Zg ⟨rfl, rfl⟩
    · refine Wu rfl (Bool.eq_false_iff.2 b5) (T.skip (Ya ?_)); obtain ⟨c7, H⟩ := Zy H; refine rG Y4 rfl (Zd Za (Zd Za (Ys c7 Zb (Xq Za (Zo (Xu (Ya ?_))))))); obtain ⟨c8, H⟩ := Zy H; refine rG Y3 rfl (Zd Za (Ys c8 Zb (Xq Za (Zo ?_)))); have H := We H b0; exact Uz c4 (a3 + ((n0.Arcs.getD i4.toNat default).cap)) (i4 + 1) H (Nat.lt_succ_self _) (aF rfl) (Zc Ze Zg)
  · refine Yn rfl g5 (T.exit (Xh ?_)); have H := Xp H b0 ▸ b6; exact Xh (Wt (Xk a3 H (aF rfl) Zg))
 · rintro a7 H; unfold Z4g at H; refine sR Y3 rfl (Zd Za (Xq Za (aN Za (T.ret ?_)))); obtain ⟨rfl, rfl⟩ := ret2 H; exact Lb Za (Res.tmp rfl) (Res.tmp rfl) Zg ⟨rfl, rfl⟩
theorem Ze7 {n0 : Net} {a8 : Option Addr} {a6 a7 : Nat} (w : World) (a3 : RS w [] Kl 3 a8 a6 a7 n0.Arcs) {r0 : Int} (H : Z2w n0 = some r0) : Fnc Tryz.prog 68 #[.agg #[iV n0.N, iV n0.S, iV n0.T, .slice a8 a6 a7]] w [] (fun v N => v = iV r0 ∧ N = []) := by
 unfold Z2w at H; refine Fnc.enter (vs := [.agg #[iV n0.N, iV n0.S, iV n0.T, .slice a8 a6 a7]]) Tryz.func68 rfl rfl (Inv.refl w) (sR Y2 rfl (Xs Za ?_)); intro b1; refine aN Za (Zl (Zl ?_)); rcases Zq H with ⟨g3, H⟩ | ⟨g3, H⟩
 · refine rG Y8 rfl (Zi Za Ga (Zn Za Zj Zk rfl (Zt Zm (Zd Za (Yc (t := 11) (b' := true) rfl (decide_eq_true g3) (Zf Za (Zf Za (Zf Za (Ym Zb (dN (Zu (aT [1, 15] rfl) (Xi Yd (sR Y1 rfl (aN Za (T.ret (Zw ?_)))))))))))))))); obtain rfl := ret1 H; exact Zz Za (Res.tmp rfl) Zg ⟨rfl, rfl⟩
 ·
  refine rG Y8 rfl (Zi Za Ga (Zn Za Zj Zk rfl (Zt Zm (Zd Za (Yc (t := 11) (b' := false) rfl (decide_eq_false g3) (Zi Za Ga (Zn Za Zj Zk rfl (Zt Zm (Yr Zb (dN (Zu (aT [1, 15] rfl) ?_))))))))))); rcases Zq H with ⟨g4, H⟩ | ⟨g4, H⟩
  · refine Yp rfl g4 (sR Y1 rfl (aN Za (T.ret (Zw ?_)))); obtain rfl := ret1 H; exact Zz Za (Res.tmp rfl) Zg ⟨rfl, rfl⟩
  ·
   refine Yn rfl g4 (T.skip (Ya (Zl (sR Y4 rfl (Zi Za Gv (Zn Za Nc Zk rfl (Xo (xs := n0.Arcs) a3.len Zb Jo (Zt Zm (dN ?_))))))))); rcases Zq H with ⟨g5, H⟩ | ⟨g5, H⟩
   · refine Yp rfl g5 (sR Y1 rfl (aN Za (T.ret (Zw ?_)))); obtain rfl := ret1 H; exact Zz Za (Res.tmp rfl) Zg ⟨rfl, rfl⟩
   ·
    refine Yn rfl g5 (T.skip (Ya (Zl (Zl ?_)))); obtain ⟨r6, e7, H⟩ := Yg H; rcases Zq H with ⟨g8, H⟩ | ⟨g8, H⟩
    · refine rG Y19 rfl (Yt Za Jr Zk rfl (Zi Za Nq (Zn Za Zj Zk rfl ?_))); refine Xa Lm Za (fun wc hwc => Lc (n0 := n0) (v1 := n0.S) wc (a3.mono hwc) e7) ?_; rintro _ _ ⟨rfl, rfl⟩; refine TO.not Za (Zd Za (Yc (t := 25) (b' := true) rfl g8 (Zf Za (Zf Za (Zf Za (Zf Za (Zf Za (Ym Zb (Zd Za (Zf Za (Zf Za (Zf Za (Zf Za (Zf Za (Ym Zb (dN ?_)))))))))))))))); refine Zu (aT [1, 38] rfl) (Xi Yd (sR Y1 rfl (aN Za (T.ret (Zw ?_))))); obtain rfl := ret1 H; exact Zz Za (Res.tmp rfl) Zg ⟨rfl, rfl⟩
    ·
     obtain ⟨r9, d1, H⟩ := Yg H; rcases Zq H with ⟨b6, H⟩ | ⟨b6, H⟩
     · refine rG Y19 rfl (Yt Za Jr Zk rfl (Zi Za Nq (Zn Za Zj Zk rfl ?_))); refine Xa Lm Za (fun wc hwc => Lc (n0 := n0) (v1 := n0.S) wc (a3.mono hwc) e7) ?_; rintro _ _ ⟨rfl, rfl⟩; refine TO.not Za (Zd Za (Yc (t := 25) (b' := false) rfl (Bool.eq_false_iff.2 g8) (Yt Za Jr Zk rfl (Zi Za Lt (Zn Za Zj Zk rfl ?_))))); refine Xa Lm Za (fun wc hwc => Lc (n0 := n0) (v1 := n0.T) wc (a3.mono hwc) d1) ?_; rintro _ _ ⟨rfl, rfl⟩; refine TO.not Za (Yr Zb (Zd Za (Yc (t := 32) (b' := true) rfl b6 (Zf Za (Zf Za (Zf Za (Zf Za (Zf Za (Ym Zb (dN (Zu (aT [1, 38] rfl) (Xi Yd (sR Y1 rfl (aN Za (T.ret (Zw ?_)))))))))))))))); obtain rfl := ret1 H; exact Zz Za (Res.tmp rfl) Zg ⟨rfl, rfl⟩
     ·
      refine rG Y19 rfl (Yt Za Jr Zk rfl (Zi Za Nq (Zn Za Zj Zk rfl ?_))); refine Xa Lm Za (fun wc hwc => Lc (n0 := n0) (v1 := n0.S) wc (a3.mono hwc) e7) ?_; rintro _ _ ⟨rfl, rfl⟩; refine TO.not Za (Zd Za (Yc (t := 25) (b' := false) rfl (Bool.eq_false_iff.2 g8) (Yt Za Jr Zk rfl (Zi Za Lt (Zn Za Zj Zk rfl ?_))))); refine Xa Lm Za (fun wc hwc => Lc (n0 := n0) (v1 := n0.T) wc (a3.mono hwc) d1) ?_; rintro _ _ ⟨rfl, rfl⟩; refine TO.not Za (Yr Zb (Zd Za (Yc (t := 32) (b' := false) rfl (Bool.eq_false_iff.2 b6) (Zi Za Nq (Zn Za Zj Zk rfl (Zi Za Lt (Zn Za Zj Zk rfl (Zt Zm (Yr Zb (dN (Zu (aT [1, 38] rfl) ?_))))))))))); rcases Zq H with ⟨b7, H⟩ | ⟨b7, H⟩
      · refine Yp rfl b7 (sR Y1 rfl (aN Za (T.ret (Zw ?_)))); obtain rfl := ret1 H; exact Zz Za (Res.tmp rfl) Zg ⟨rfl, rfl⟩
      ·
       refine Yn rfl b7 (T.skip (Ya (sR Y1 rfl (aN Za (Zl (sR Y1 rfl (aN Za ?_))))))); refine Wj (fun (a5 : Bool) => Z4h n0 a5 = some r0) (fun (a5 : Bool) => [(1, pV b1), (3, .bool a5)]) (fun (a5 : Bool) => [(eC b1 #[iV n0.N, iV n0.S, iV n0.T, .slice a8 a6 a7] 24)]) ?_ ?_
       ·
        refine T.block ?_; obtain ⟨d6, d7, b8⟩ := Yg H; refine Np (fun (b0 : Nat) (a4 : Bool) (a9 : Int) => Yw (fun s => Z36 n0 s.1 s.2) b0 (a4, a9) = some d6) (fun (b0 : Nat) (a4 : Bool) (a9 : Int) => [(1, pV b1), (3, .bool a4), (4, iV a9)]) (fun (b0 : Nat) (a4 : Bool) (a9 : Int) => [(eC b1 #[iV n0.N, iV n0.S, iV n0.T, .slice a8 a6 a7] 24)]) (fun (b0 : Nat) (a4 : Bool) (a9 : Int) => b0) Yh false 0 d7 (aF rfl) (Zc Ze Zg) ?_; rintro b0 a4 a9 H; obtain ⟨d2, d8, rfl, H, b5⟩ := Vb H; have H : Z36 n0 a4 a9 = some d8 := H; unfold Z36 at H; refine Zl (sR Y5 rfl (Zd Za (Zi Za Gv (Zn Za Nc Zk rfl (Xo (xs := n0.Arcs) a3.len Zb Jo (Zt Zm (dN ?_))))))); rcases Zq H with ⟨b9, H⟩ | ⟨b9, H⟩
        ·
         refine Yp rfl b9 (T.skip (Ya (Zl (T.block ?_)))); obtain ⟨d4, H⟩ := Zy H; refine sR Y7 rfl (Zi Za Gv (Zn Za Nc Zk rfl (Zd Za (Wh a3 d4 Zb Jo Na ?_)))); refine Rg (cs := [iV ((n0.Arcs.getD a9.toNat default).fr), iV ((n0.Arcs.getD a9.toNat default).to), iV ((n0.Arcs.getD a9.toNat default).cap)]) default a3 d4 Zb Z8e ?_; refine Wv Yb Z2p ?_; intro e5; refine Wi Za Ze Na Yb (dN (Zu (aT [1, 3, 4, 5] rfl) (Zl (Zl ?_)))); obtain ⟨e6, d5, H⟩ := Yg H; rcases Zq H with ⟨c4, H⟩ | ⟨c4, H⟩
         · refine rG Y12 rfl (Yt Za Jr Zv rfl (Zi Za Z0t (Zn Za Zj Zk rfl ?_))); refine Xa Lm Za (fun wc hwc => Lc (n0 := n0) (v1 := (n0.Arcs.getD a9.toNat default).fr) wc (a3.mono hwc) d5) ?_; rintro _ _ ⟨rfl, rfl⟩; refine TO.not Za (Zd Za (Yc (t := 56) (b' := true) rfl c4 (Zf Za (Zf Za (Zf Za (Zf Za (Zf Za (Ym Zb (dN (Xi Yd (sR Y1 rfl (aN Za (Zu (aT [2] rfl) (T.ret (Zw (Xn ?_)))))))))))))))); refine Zw ?_; have H := Xp H b5 ▸ b8; refine Zw (Xn (Zw ?_)); obtain rfl := ret1 H; exact Zz Za (Res.tmp rfl) Zg ⟨rfl, rfl⟩
         ·
          obtain ⟨e8, d9, H⟩ := Yg H; refine rG Y12 rfl (Yt Za Jr Zv rfl (Zi Za Z0t (Zn Za Zj Zk rfl ?_))); refine Xa Lm Za (fun wc hwc => Lc (n0 := n0) (v1 := (n0.Arcs.getD a9.toNat default).fr) wc (a3.mono hwc) d5) ?_; rintro _ _ ⟨rfl, rfl⟩; refine TO.not Za (Zd Za (Yc (t := 56) (b' := false) rfl (Bool.eq_false_iff.2 c4) (Yt Za Jr Zv rfl (Zi Za Z42 (Zn Za Zj Zk rfl ?_))))); refine Xa Lm Za (fun wc hwc => Lc (n0 := n0) (v1 := (n0.Arcs.getD a9.toNat default).to) wc (a3.mono hwc) d9) ?_; rintro _ _ ⟨rfl, rfl⟩; refine TO.not Za (Yr Zb (dN ?_)); rcases Zq H with ⟨c7, H⟩ | ⟨c7, H⟩
          · refine Xi ⟨rfl, c7⟩ (sR Y1 rfl (aN Za (Zu (aT [2] rfl) (T.ret (Zw (Xn (Zw ?_))))))); have H := Xp H b5 ▸ b8; refine Zw (Xn (Zw ?_)); obtain rfl := ret1 H; exact Zz Za (Res.tmp rfl) Zg ⟨rfl, rfl⟩
          ·
           refine Wu rfl (Bool.eq_false_iff.2 c7) (T.skip (Ya ?_)); rcases Zq H with ⟨c8, H⟩ | ⟨c8, H⟩
           · refine rG Y7 rfl (Zd Za (Zd Za (Yc (t := 64) (b' := true) rfl c8 (Zf Za (Zf Za (Zf Za (Ym Zb (Xq Za (Zo (Xu (Ya (Zu (aT [1, 3, 4, 57, 58, 59, 60, 61, 65, 66, 67] rfl) ?_)))))))))))); obtain ⟨e0, H⟩ := Zy H; refine rG Y3 rfl (Zd Za (Ys e0 Zb (Xq Za (Zo ?_)))); have H := We H b5; exact Uz d2 true (a9 + 1) H (Nat.lt_succ_self _) (aF rfl) (Zc Zs Zg)
           · refine rG Y7 rfl (Zd Za (Zd Za (Yc (t := 64) (b' := false) rfl (Bool.eq_false_iff.2 c8) (Zi Za Z59 (Zn Za Yu Zk rfl (Zt Zm (Yr Zb (Xq Za (Zo (Xu (Ya (Zu (aT [1, 3, 4, 57, 58, 59, 60, 61, 65, 66, 67] rfl) ?_)))))))))))); obtain ⟨e3, H⟩ := Zy H; refine rG Y3 rfl (Zd Za (Ys e3 Zb (Xq Za (Zo ?_)))); have H := We H b5; exact Uz d2 (decide (((n0.Arcs.getD a9.toNat default).cap) < 0)) (a9 + 1) H (Nat.lt_succ_self _) (aF rfl) (Zc Zs Zg)
        · refine Yn rfl b9 (T.exit (Xh ?_)); have H := Xp H b5 ▸ b8; exact Xh (Wt (Xk a4 H (aF rfl) (Zc Ze Zg)))
       ·
        rintro a5 H; unfold Z4h at H; refine Zl (sR Y1 rfl (Zd Za (dN ?_))); rcases Zq H with ⟨c9, H⟩ | ⟨c9, H⟩
        · refine Xi ⟨rfl, c9⟩ (sR Y1 rfl (aN Za (T.ret (Zw ?_)))); obtain rfl := ret1 H; exact Zz Za (Res.tmp rfl) Zg ⟨rfl, rfl⟩
        ·
         refine Wu rfl (Bool.eq_false_iff.2 c9) (T.skip (Ya (Zl ?_))); obtain ⟨⟨e9, f0⟩, e4, H⟩ := Yg H; refine rG Y7 rfl (Yt Za Jr Zk rfl ?_); refine Xa Zex Za (fun wc hwc => Ze3 (n0 := n0) wc (a3.mono hwc) e4) ?_; rintro _ _ ⟨rfl, rfl⟩; refine Zd Za (TO.extract Zb (TO.extract Zb (Xq Za (aN Za (Zu (aT [7] rfl) (Zl (sR Y2 rfl (Zd Za (TO.not Za (dN ?_)))))))))); rcases Zq H with ⟨d0, H⟩ | ⟨d0, H⟩
         · refine Xi ⟨rfl, d0⟩ (sR Y1 rfl (aN Za (T.ret (Zw ?_)))); obtain rfl := ret1 H; exact Zz Za (Res.tmp rfl) Zg ⟨rfl, rfl⟩
         · refine Wu rfl (Bool.eq_false_iff.2 d0) (T.skip (Ya (sR Y1 rfl (aN Za (T.ret ?_))))); obtain rfl := ret1 H; exact Zz Za (Res.tmp rfl) Zg ⟨rfl, rfl⟩
theorem Ze1 {n0 : Net} {g4 : Option Addr} {g5 g6 : Nat} (w : World) (l7 : RS w [] Kl 3 g4 g5 g6 n0.Arcs) {r0 : Csr} {r1 : Int} (H : Z3u n0 = some (r0, r1)) : Fnc Tryz.prog 22 #[.agg #[iV n0.N, iV n0.S, iV n0.T, .slice g4 g5 g6]] w [] (fun v N => ∃ (A4 : Option Nat) (M1 M2 : Nat) (Q1 : List Value) (A5 : Option Nat) (M3 M4 : Nat) (Q2 : List Value) (A6 : Option Nat) (M5 M6 : Nat) (Q3 : List Value) (r7 : Option Nat) (v4 v5 : Nat) (C3 : List Value) (r8 : Option Nat) (v6 v7 : Nat) (C4 : List Value) (r9 : Option Nat) (v8 v9 : Nat) (C5 : List Value), v = .tuple #[.agg #[iV r0.N, iV r0.S, iV r0.T, sV A4 M1 M2, sV A5 M3 M4, sV A6 M5 M6, sV r7 v4 v5, sV r8 v6 v7, sV r9 v8 v9], iV r1] ∧ N = [(eI A4 r0.First Q1 3), (eI A5 r0.Head Q2 3), (eI A6 r0.Rev Q3 3), (eI r7 r0.Cap C3 2), (eI r8 r0.Arc C4 3), (eA r9 boolC r0.Back C5 4)] ∧ r0.First.length = M1 ∧ M1 ≤ M2 ∧ Q1.length = (M2 - M1) * 1 ∧ (A4 = none → M2 = 0) ∧ r0.Head.length = M3 ∧ M3 ≤ M4 ∧ Q2.length = (M4 - M3) * 1 ∧ (A5 = none → M4 = 0) ∧ r0.Rev.length = M5 ∧ M5 ≤ M6 ∧ Q3.length = (M6 - M5) * 1 ∧ (A6 = none → M6 = 0) ∧ r0.Cap.length = v4 ∧ v4 ≤ v5 ∧ C3.length = (v5 - v4) * 1 ∧ (r7 = none → v5 = 0) ∧ r0.Arc.length = v6 ∧ v6 ≤ v7 ∧ C4.length = (v7 - v6) * 1 ∧ (r8 = none → v7 = 0) ∧ r0.Back.length = v8 ∧ v8 ≤ v9 ∧ C5.length = (v9 - v8) * 1 ∧ (r9 = none → v9 = 0)) := by
 unfold Z3u at H; refine Fnc.enter (vs := [.agg #[iV n0.N, iV n0.S, iV n0.T, .slice g4 g5 g6]]) Tryz.func22 rfl rfl (Inv.refl w) (sR Y3 rfl (Xs Za ?_)); intro b1; refine Wv Yb Z6u ?_; intro b3; refine aN Za (Zl ?_); obtain ⟨r5, e6, H⟩ := Yg H; refine rG Y3 rfl (Yt Za Jr Zv rfl ?_); refine Xa Zbw Za (fun wc hwc => Ze7 (n0 := n0) wc (l7.mono hwc) e6) ?_; rintro _ _ ⟨rfl, rfl⟩; refine aN Za (Zl (sR Y2 rfl (Zd Za (Zt Zm (dN ?_))))); rcases Zq H with ⟨g7, H⟩ | ⟨g7, H⟩
 · refine Yp rfl g7 (sR Y4 rfl ?_); refine Kd (t := 29) [iV 0, iV 0, iV 0, .slice none 0 0, .slice none 0 0, .slice none 0 0, .slice none 0 0, .slice none 0 0, .slice none 0 0] [0, 1, 2, 3, 4, 5, 6, 7, 8] Za (by simp only [Wz, setCells, Value.cells, List.toList_toArray, List.getD_cons_zero, List.getD_cons_succ, List.set_cons_zero, List.set_cons_succ]; rfl) (by kernel_rfl) ?_; refine Zd Za (Wi Za Ze Z6h Yb (aN Za (Zu (aT [2, 3] rfl) (T.ret (Zw ?_))))); obtain ⟨rfl, rfl⟩ := ret2 H; exact Lb Za (Uu rfl Ww Zk rfl) (Res.tmp rfl) (Pick.none (Pick.none (Pick.none (Pick.none (Pick.none (Pick.none Zg)))))) ⟨none, 0, 0, ([]), none, 0, 0, ([]), none, 0, 0, ([]), none, 0, 0, ([]), none, 0, 0, ([]), none, 0, 0, ([]), rfl, rfl, rfl, (Nat.le_refl _), (Wp 0 _), (fun _ => rfl), rfl, (Nat.le_refl _), (Wp 0 _), (fun _ => rfl), rfl, (Nat.le_refl _), (Wp 0 _), (fun _ => rfl), rfl, (Nat.le_refl _), (Wp 0 _), (fun _ => rfl), rfl, (Nat.le_refl _), (Wp 0 _), (fun _ => rfl), rfl, (Nat.le_refl _), (Wp 0 _), (fun _ => rfl)⟩
 ·
  refine Yn rfl g7 (T.skip (Ya (sR Y9 rfl (Zi Za Ga (Zn Za Zj Zv rfl (Zi Za Nq (Zn Za Zj Zv rfl (Zi Za Lt (Zn Za Zj Zv rfl ?_))))))))); refine Kd (t := 29) [iV 0, iV 0, iV 0, .slice none 0 0, .slice none 0 0, .slice none 0 0, .slice none 0 0, .slice none 0 0, .slice none 0 0] [0, 1, 2, 3, 4, 5, 6, 7, 8] Za (by simp only [Wz, setCells, Value.cells, List.toList_toArray, List.getD_cons_zero, List.getD_cons_succ, List.set_cons_zero, List.set_cons_succ]; rfl) (by kernel_rfl) ?_; refine Wv Yb Z6u ?_; intro b8; refine Wi Za Ze Z6h Yb (dN (Zu (aT [1, 2, 5] rfl) (Zl (sR Y1 rfl (aN Za ?_))))); refine Z8h (fun (a4 : List Int) (f2 o6 : Nat) (i6 : Option Nat) (q2 : List Value) (a3 : List Int) (f3 c306 : Nat) (b5 : Option Nat) (i7 : List Value) (c8 : List Int) (f4 c316 : Nat) (b6 : Option Nat) (i8 : List Value) (a8 : List Int) (f5 f6 : Nat) (b7 : Option Nat) (i9 : List Value) (b0 : List Bool) (f7 f8 : Nat) (b9 : Option Nat) (j0 : List Value) => Z61 n0 a4 a3 c8 a8 b0 = some (r0, r1) ∧ a4.length = f2 ∧ f2 ≤ o6 ∧ q2.length = (o6 - f2) * 1 ∧ (i6 = none → o6 = 0) ∧ a3.length = f3 ∧ f3 ≤ c306 ∧ i7.length = (c306 - f3) * 1 ∧ (b5 = none → c306 = 0) ∧ c8.length = f4 ∧ f4 ≤ c316 ∧ i8.length = (c316 - f4) * 1 ∧ (b6 = none → c316 = 0) ∧ a8.length = f5 ∧ f5 ≤ f6 ∧ i9.length = (f6 - f5) * 1 ∧ (b7 = none → f6 = 0) ∧ b0.length = f7 ∧ f7 ≤ f8 ∧ j0.length = (f8 - f7) * 1 ∧ (b9 = none → f8 = 0)) (fun (a4 : List Int) (f2 o6 : Nat) (i6 : Option Nat) (q2 : List Value) (a3 : List Int) (f3 c306 : Nat) (b5 : Option Nat) (i7 : List Value) (c8 : List Int) (f4 c316 : Nat) (b6 : Option Nat) (i8 : List Value) (a8 : List Int) (f5 f6 : Nat) (b7 : Option Nat) (i9 : List Value) (b0 : List Bool) (f7 f8 : Nat) (b9 : Option Nat) (j0 : List Value) => [(2, pV b3), (5, pV b8)]) (fun (a4 : List Int) (f2 o6 : Nat) (i6 : Option Nat) (q2 : List Value) (a3 : List Int) (f3 c306 : Nat) (b5 : Option Nat) (i7 : List Value) (c8 : List Int) (f4 c316 : Nat) (b6 : Option Nat) (i8 : List Value) (a8 : List Int) (f5 f6 : Nat) (b7 : Option Nat) (i9 : List Value) (b0 : List Bool) (f7 f8 : Nat) (b9 : Option Nat) (j0 : List Value) => [(eC b3 #[iV 0, iV 0, iV 0, .slice none 0 0, .slice none 0 0, .slice none 0 0, .slice none 0 0, .slice none 0 0, .slice none 0 0] 29), (eC b8 #[iV n0.N, iV n0.S, iV n0.T, sV i6 f2 o6, sV b5 f3 c306, .slice none 0 0, sV b6 f4 c316, sV b7 f5 f6, sV b9 f7 f8] 29), (eI i6 a4 q2 3), (eI b5 a3 i7 3), (eI b6 c8 i8 2), (eI b7 a8 i9 3), (eA b9 boolC b0 j0 4)]) ?_ ?_
  ·
   refine T.block ?_; obtain ⟨R1, R2, R3⟩ := Yg H; refine Zf4 (fun (B9 : Nat) (a5 : List Int) (k2 w0 : Nat) (l5 : Option Nat) (x5 : List Value) (a6 : List Int) (s1 c22 : Nat) (k3 : Option Nat) (x6 : List Value) (e9 : List Int) (s6 c32 : Nat) (k4 : Option Nat) (x7 : List Value) (f0 : List Int) (s7 c42 : Nat) (k5 : Option Nat) (x8 : List Value) (d4 : List Bool) (s8 s9 : Nat) (k6 : Option Nat) (x9 : List Value) (o7 : Int) => Yw (fun s => Z44 n0 s.1 s.2.1 s.2.2.1 s.2.2.2.1 s.2.2.2.2.1 s.2.2.2.2.2) B9 (a5, a6, e9, f0, d4, o7) = some R1 ∧ a5.length = k2 ∧ k2 ≤ w0 ∧ x5.length = (w0 - k2) * 1 ∧ (l5 = none → w0 = 0) ∧ a6.length = s1 ∧ s1 ≤ c22 ∧ x6.length = (c22 - s1) * 1 ∧ (k3 = none → c22 = 0) ∧ e9.length = s6 ∧ s6 ≤ c32 ∧ x7.length = (c32 - s6) * 1 ∧ (k4 = none → c32 = 0) ∧ f0.length = s7 ∧ s7 ≤ c42 ∧ x8.length = (c42 - s7) * 1 ∧ (k5 = none → c42 = 0) ∧ d4.length = s8 ∧ s8 ≤ s9 ∧ x9.length = (s9 - s8) * 1 ∧ (k6 = none → s9 = 0)) (fun (B9 : Nat) (a5 : List Int) (k2 w0 : Nat) (l5 : Option Nat) (x5 : List Value) (a6 : List Int) (s1 c22 : Nat) (k3 : Option Nat) (x6 : List Value) (e9 : List Int) (s6 c32 : Nat) (k4 : Option Nat) (x7 : List Value) (f0 : List Int) (s7 c42 : Nat) (k5 : Option Nat) (x8 : List Value) (d4 : List Bool) (s8 s9 : Nat) (k6 : Option Nat) (x9 : List Value) (o7 : Int) => [(1, pV b1), (2, pV b3), (5, pV b8), (6, iV o7)]) (fun (B9 : Nat) (a5 : List Int) (k2 w0 : Nat) (l5 : Option Nat) (x5 : List Value) (a6 : List Int) (s1 c22 : Nat) (k3 : Option Nat) (x6 : List Value) (e9 : List Int) (s6 c32 : Nat) (k4 : Option Nat) (x7 : List Value) (f0 : List Int) (s7 c42 : Nat) (k5 : Option Nat) (x8 : List Value) (d4 : List Bool) (s8 s9 : Nat) (k6 : Option Nat) (x9 : List Value) (o7 : Int) => [(eC b1 #[iV n0.N, iV n0.S, iV n0.T, .slice g4 g5 g6] 24), (eC b3 #[iV 0, iV 0, iV 0, .slice none 0 0, .slice none 0 0, .slice none 0 0, .slice none 0 0, .slice none 0 0, .slice none 0 0] 29), (eC b8 #[iV n0.N, iV n0.S, iV n0.T, sV l5 k2 w0, sV k3 s1 c22, .slice none 0 0, sV k4 s6 c32, sV k5 s7 c42, sV k6 s8 s9] 29), (eI l5 a5 x5 3), (eI k3 a6 x6 3), (eI k4 e9 x7 2), (eI k5 f0 x8 3), (eA k6 boolC d4 x9 4)]) (fun (B9 : Nat) (a5 : List Int) (k2 w0 : Nat) (l5 : Option Nat) (x5 : List Value) (a6 : List Int) (s1 c22 : Nat) (k3 : Option Nat) (x6 : List Value) (e9 : List Int) (s6 c32 : Nat) (k4 : Option Nat) (x7 : List Value) (f0 : List Int) (s7 c42 : Nat) (k5 : Option Nat) (x8 : List Value) (d4 : List Bool) (s8 s9 : Nat) (k6 : Option Nat) (x9 : List Value) (o7 : Int) => B9) Yh ([]) 0 0 none ([]) ([]) 0 0 none ([]) ([]) 0 0 none ([]) ([]) 0 0 none ([]) ([]) 0 0 none ([]) 0 ⟨R2, rfl, (Nat.le_refl _), (Wp 0 _), (fun _ => rfl), rfl, (Nat.le_refl _), (Wp 0 _), (fun _ => rfl), rfl, (Nat.le_refl _), (Wp 0 _), (fun _ => rfl), rfl, (Nat.le_refl _), (Wp 0 _), (fun _ => rfl), rfl, (Nat.le_refl _), (Wp 0 _), (fun _ => rfl)⟩ (aF rfl) (Zc Xt (Zc Zs (Zc Ze (Pick.none (Pick.none (Pick.none (Pick.none (Pick.none Zg)))))))) ?_; rintro B9 a5 k2 w0 l5 x5 a6 s1 c22 k3 x6 e9 s6 c32 k4 x7 f0 s7 c42 k5 x8 d4 s8 s9 k6 x9 o7 ⟨H, A7, C6, C7, C8, A8, C9, D0, D1, D2, D3, D4, D5, D6, D7, D8, D9, E0, E1, E2, E3⟩; obtain ⟨R4, Q4, rfl, H, Q5⟩ := Vb H; have H : Z44 n0 a5 a6 e9 f0 d4 o7 = some Q4 := H; unfold Z44 at H; refine Zl (sR Y4 rfl (Zd Za (Zi Za Ga (Zn Za Zj Zk rfl (Zt Zm (dN ?_)))))); rcases Zq H with ⟨M8, H⟩ | ⟨M8, H⟩
   ·
    refine Yp rfl M8 (T.skip (Ya (Zl ?_))); refine Z8h (fun (d1 : List Int) (l8 l9 : Nat) (j1 : Option Nat) (q3 : List Value) (d9 : List Int) (m0 c255 : Nat) (j2 : Option Nat) (q4 : List Value) (f9 : List Int) (m1 m2 : Nat) (j3 : Option Nat) (q5 : List Value) (g0 : List Int) (m3 m4 : Nat) (j4 : Option Nat) (q6 : List Value) (e0 : List Bool) (m5 m6 : Nat) (j5 : Option Nat) (q7 : List Value) => Z6a o7 d1 d9 f9 g0 e0 = some Q4 ∧ d1.length = l8 ∧ l8 ≤ l9 ∧ q3.length = (l9 - l8) * 1 ∧ (j1 = none → l9 = 0) ∧ d9.length = m0 ∧ m0 ≤ c255 ∧ q4.length = (c255 - m0) * 1 ∧ (j2 = none → c255 = 0) ∧ f9.length = m1 ∧ m1 ≤ m2 ∧ q5.length = (m2 - m1) * 1 ∧ (j3 = none → m2 = 0) ∧ g0.length = m3 ∧ m3 ≤ m4 ∧ q6.length = (m4 - m3) * 1 ∧ (j4 = none → m4 = 0) ∧ e0.length = m5 ∧ m5 ≤ m6 ∧ q7.length = (m6 - m5) * 1 ∧ (j5 = none → m6 = 0)) (fun (d1 : List Int) (l8 l9 : Nat) (j1 : Option Nat) (q3 : List Value) (d9 : List Int) (m0 c255 : Nat) (j2 : Option Nat) (q4 : List Value) (f9 : List Int) (m1 m2 : Nat) (j3 : Option Nat) (q5 : List Value) (g0 : List Int) (m3 m4 : Nat) (j4 : Option Nat) (q6 : List Value) (e0 : List Bool) (m5 m6 : Nat) (j5 : Option Nat) (q7 : List Value) => [(1, pV b1), (2, pV b3), (5, pV b8), (6, iV o7)]) (fun (d1 : List Int) (l8 l9 : Nat) (j1 : Option Nat) (q3 : List Value) (d9 : List Int) (m0 c255 : Nat) (j2 : Option Nat) (q4 : List Value) (f9 : List Int) (m1 m2 : Nat) (j3 : Option Nat) (q5 : List Value) (g0 : List Int) (m3 m4 : Nat) (j4 : Option Nat) (q6 : List Value) (e0 : List Bool) (m5 m6 : Nat) (j5 : Option Nat) (q7 : List Value) => [(eC b1 #[iV n0.N, iV n0.S, iV n0.T, .slice g4 g5 g6] 24), (eC b3 #[iV 0, iV 0, iV 0, .slice none 0 0, .slice none 0 0, .slice none 0 0, .slice none 0 0, .slice none 0 0, .slice none 0 0] 29), (eC b8 #[iV n0.N, iV n0.S, iV n0.T, sV j1 l8 l9, sV j2 m0 c255, .slice none 0 0, sV j3 m1 m2, sV j4 m3 m4, sV j5 m5 m6] 29), (eI j1 d1 q3 3), (eI j2 d9 q4 3), (eI j3 f9 q5 2), (eI j4 g0 q6 3), (eA j5 boolC e0 q7 4)]) ?_ ?_
    ·
     refine T.block ?_; obtain ⟨R5, H⟩ := Zy H; refine sR Y9 rfl (Zi Za Us (Zn Za Yi Yq rfl (Zi Za Vo (Zn Za Yi Yq rfl (Xo (xs := a6) A8 Zb Ye ?_))))); refine Gf [iV 0] [0] Za Ye Yf Ni Yd (by simp only [Wz, setCells, Value.cells, List.toList_toArray, List.getD_cons_zero, List.getD_cons_succ, List.set_cons_zero, List.set_cons_succ]; rfl) (by kernel_rfl) ?_; intro T6; refine Ud (f := iC) (s := 1) (xs := a5) (ob := l5) (j := x5) (ys := [(a6.length : Int)]) (fun _ => rfl) (fun _ => rfl) Rx R5 Zb Uo A7 C6 C7 C8 (fun wc hwc => (hwc.rs (f := iC) (s := 1) (xs := [(a6.length : Int)]) (j := ([])) (fun _ => rfl) Zk rfl (Nat.le_refl _) Vs)) ?_; intro g8 r4 M9 N0 N1 N2; refine Zi Za Us ?_; refine Vc (cs' := [iV n0.N, iV n0.S, iV n0.T, sV g8 (k2 + 1) r4, sV k3 s1 c22, .slice none 0 0, sV k4 s6 c32, sV k5 s7 c42, sV k6 s8 s9]) Za Uo Rw Yb ?_; refine dN (Zu (aT [1, 2, 5, 6] rfl) (sR Y1 rfl (aN Za (T.block ?_)))); obtain ⟨R6, R7, R8⟩ := Yg H; refine Zef (fun (C0 : Nat) (c7 : List Int) (o2 t0 : Nat) (j6 : Option Nat) (v0 : List Value) (d6 : List Int) (o4 r6 : Nat) (i5 : Option Nat) (v2 : List Value) (d7 : List Int) (o5 q8 : Nat) (h5 : Option Nat) (v3 : List Value) (a7 : List Bool) (e8 c104 : Nat) (d2 : Option Nat) (k7 : List Value) (a9 : Int) => Yw (fun s => Z31 n0 a5 a6 o7 s.1 s.2.1 s.2.2.1 s.2.2.2.1 s.2.2.2.2) C0 (c7, d6, d7, a7, a9) = some R6 ∧ c7.length = o2 ∧ o2 ≤ t0 ∧ v0.length = (t0 - o2) * 1 ∧ (j6 = none → t0 = 0) ∧ d6.length = o4 ∧ o4 ≤ r6 ∧ v2.length = (r6 - o4) * 1 ∧ (i5 = none → r6 = 0) ∧ d7.length = o5 ∧ o5 ≤ q8 ∧ v3.length = (q8 - o5) * 1 ∧ (h5 = none → q8 = 0) ∧ a7.length = e8 ∧ e8 ≤ c104 ∧ k7.length = (c104 - e8) * 1 ∧ (d2 = none → c104 = 0)) (fun (C0 : Nat) (c7 : List Int) (o2 t0 : Nat) (j6 : Option Nat) (v0 : List Value) (d6 : List Int) (o4 r6 : Nat) (i5 : Option Nat) (v2 : List Value) (d7 : List Int) (o5 q8 : Nat) (h5 : Option Nat) (v3 : List Value) (a7 : List Bool) (e8 c104 : Nat) (d2 : Option Nat) (k7 : List Value) (a9 : Int) => [(1, pV b1), (2, pV b3), (5, pV b8), (6, iV o7), (7, iV a9)]) (fun (C0 : Nat) (c7 : List Int) (o2 t0 : Nat) (j6 : Option Nat) (v0 : List Value) (d6 : List Int) (o4 r6 : Nat) (i5 : Option Nat) (v2 : List Value) (d7 : List Int) (o5 q8 : Nat) (h5 : Option Nat) (v3 : List Value) (a7 : List Bool) (e8 c104 : Nat) (d2 : Option Nat) (k7 : List Value) (a9 : Int) => [(eC b1 #[iV n0.N, iV n0.S, iV n0.T, .slice g4 g5 g6] 24), (eC b3 #[iV 0, iV 0, iV 0, .slice none 0 0, .slice none 0 0, .slice none 0 0, .slice none 0 0, .slice none 0 0, .slice none 0 0] 29), (eC b8 #[iV n0.N, iV n0.S, iV n0.T, sV g8 (k2 + 1) r4, sV j6 o2 t0, .slice none 0 0, sV i5 o4 r6, sV h5 o5 q8, sV d2 e8 c104] 29), (eI g8 (a5 ++ ([(a6.length : Int)])) M9 3), (eI j6 c7 v0 3), (eI i5 d6 v2 2), (eI h5 d7 v3 3), (eA d2 boolC a7 k7 4)]) (fun (C0 : Nat) (c7 : List Int) (o2 t0 : Nat) (j6 : Option Nat) (v0 : List Value) (d6 : List Int) (o4 r6 : Nat) (i5 : Option Nat) (v2 : List Value) (d7 : List Int) (o5 q8 : Nat) (h5 : Option Nat) (v3 : List Value) (a7 : List Bool) (e8 c104 : Nat) (d2 : Option Nat) (k7 : List Value) (a9 : Int) => C0) Yh a6 s1 c22 k3 x6 e9 s6 c32 k4 x7 f0 s7 c42 k5 x8 d4 s8 s9 k6 x9 0 ⟨R7, A8, C9, D0, D1, D2, D3, D4, D5, D6, D7, D8, D9, E0, E1, E2, E3⟩ (aF rfl) (Zc Ve (Zc Ve (Zc Ze (Zc Ze (Zc Zs (Zc Zs (Zc Zs (Zc Zs Zg)))))))) ?_; rintro C0 c7 o2 t0 j6 v0 d6 o4 r6 i5 v2 d7 o5 q8 h5 v3 a7 e8 c104 d2 k7 a9 ⟨H, t1, w1, w2, w3, t2, w4, w5, w6, t4, w7, w8, p4, m7, p5, p6, p7⟩; obtain ⟨N3, Q6, rfl, H, M7⟩ := Vb H; have H : Z31 n0 a5 a6 o7 c7 d6 d7 a7 a9 = some Q6 := H; unfold Z31 at H; refine Zl (sR Y5 rfl (Zd Za (Zi Za Gv (Zn Za Nc Zk rfl (Xo (xs := n0.Arcs) l7.len Zb Jo (Zt Zm (dN ?_))))))); rcases Zq H with ⟨A9, H⟩ | ⟨A9, H⟩
     ·
      refine Yp rfl A9 (T.skip (Ya (Zl (T.block ?_)))); obtain ⟨E4, H⟩ := Zy H; refine sR Y7 rfl (Zi Za Gv (Zn Za Nc Zk rfl (Zd Za (Wh l7 E4 Zb Jo Na ?_)))); refine Rg (cs := [iV ((n0.Arcs.getD a9.toNat default).fr), iV ((n0.Arcs.getD a9.toNat default).to), iV ((n0.Arcs.getD a9.toNat default).cap)]) default l7 E4 Zb Z8e ?_; refine Wv Yb Z2p ?_; intro E5; refine Wi Za Ze Na Yb (dN (Zu (aT [1, 2, 5, 6, 7, 8] rfl) (Zl (sR Y5 rfl (Zi Za Z0t (Zn Za Zj Zk rfl (Zi Za Z42 (Zn Za Zj Zk rfl (Zt Zm (dN ?_)))))))))); rcases Zq H with ⟨B0, H⟩ | ⟨B0, H⟩
      · refine Yp rfl B0 (T.exit (Xh (Wt (Ya ?_)))); obtain ⟨N4, H⟩ := Zy H; refine rG Y3 rfl (Zd Za (Ys N4 Zb (Xq Za (Zo ?_)))); have H := We H M7; exact Z8a N3 c7 o2 t0 j6 v0 d6 o4 r6 i5 v2 d7 o5 q8 h5 v3 a7 e8 c104 d2 k7 (a9 + 1) ⟨H, t1, w1, w2, w3, t2, w4, w5, w6, t4, w7, w8, p4, m7, p5, p6, p7⟩ (Nat.lt_succ_self _) (aF rfl) (Zc Zs (Zc Zs (Zc Zs (Zc Zs (Zc Zs (Zc Zs (Zc Zs (Zc Zs Zg))))))))
      ·
       refine Yn rfl B0 (T.skip (Ya (Zl (sR Y4 rfl (Zi Za Z0t (Zn Za Zj Zk rfl (Zd Za (Zt Zm (dN (Zu (aT [1, 2, 5, 6, 7, 8, 58] rfl) ?_)))))))))); refine Zed (fun (c9 : List Int) (h6 m8 : Nat) (i4 : Option Nat) (o8 : List Value) (e3 : List Int) (h7 l6 : Nat) (g9 : Option Nat) (o9 : List Value) (e4 : List Int) (h8 k8 : Nat) (f1 : Option Nat) (p2 : List Value) (d0 : List Bool) (h9 j7 : Nat) (e7 : Option Nat) (p3 : List Value) => Z16 n0 o7 a9 c9 e3 e4 d0 = some Q6 ∧ c9.length = h6 ∧ h6 ≤ m8 ∧ o8.length = (m8 - h6) * 1 ∧ (i4 = none → m8 = 0) ∧ e3.length = h7 ∧ h7 ≤ l6 ∧ o9.length = (l6 - h7) * 1 ∧ (g9 = none → l6 = 0) ∧ e4.length = h8 ∧ h8 ≤ k8 ∧ p2.length = (k8 - h8) * 1 ∧ (f1 = none → k8 = 0) ∧ d0.length = h9 ∧ h9 ≤ j7 ∧ p3.length = (j7 - h9) * 1 ∧ (e7 = none → j7 = 0)) (fun (c9 : List Int) (h6 m8 : Nat) (i4 : Option Nat) (o8 : List Value) (e3 : List Int) (h7 l6 : Nat) (g9 : Option Nat) (o9 : List Value) (e4 : List Int) (h8 k8 : Nat) (f1 : Option Nat) (p2 : List Value) (d0 : List Bool) (h9 j7 : Nat) (e7 : Option Nat) (p3 : List Value) => [(1, pV b1), (2, pV b3), (5, pV b8), (6, iV o7), (7, iV a9), (8, pV E5)]) (fun (c9 : List Int) (h6 m8 : Nat) (i4 : Option Nat) (o8 : List Value) (e3 : List Int) (h7 l6 : Nat) (g9 : Option Nat) (o9 : List Value) (e4 : List Int) (h8 k8 : Nat) (f1 : Option Nat) (p2 : List Value) (d0 : List Bool) (h9 j7 : Nat) (e7 : Option Nat) (p3 : List Value) => [(eC b1 #[iV n0.N, iV n0.S, iV n0.T, .slice g4 g5 g6] 24), (eC b3 #[iV 0, iV 0, iV 0, .slice none 0 0, .slice none 0 0, .slice none 0 0, .slice none 0 0, .slice none 0 0, .slice none 0 0] 29), (eC b8 #[iV n0.N, iV n0.S, iV n0.T, sV g8 (k2 + 1) r4, sV i4 h6 m8, .slice none 0 0, sV g9 h7 l6, sV f1 h8 k8, sV e7 h9 j7] 29), (eI g8 (a5 ++ ([(a6.length : Int)])) M9 3), (eI i4 c9 o8 3), (eI g9 e3 o9 2), (eI f1 e4 p2 3), (eA e7 boolC d0 p3 4), (eC E5 #[iV ((n0.Arcs.getD a9.toNat default).fr), iV ((n0.Arcs.getD a9.toNat default).to), iV ((n0.Arcs.getD a9.toNat default).cap)] 131)]) ?_ ?_
       ·
        rcases Zq H with ⟨B1, H⟩ | ⟨B1, H⟩
        · refine Yp rfl B1 ?_; obtain ⟨N5, H⟩ := Zy H; refine sR Y8 rfl (Zi Za Vo (Zn Za Yi Wk rfl (Zi Za Z42 (Zn Za Zj Zk rfl ?_)))); refine Gf [iV 0] [0] Za Ye Yf Ni Yd (by simp only [Wz, setCells, Value.cells, List.toList_toArray, List.getD_cons_zero, List.getD_cons_succ, List.set_cons_zero, List.set_cons_succ]; rfl) (by kernel_rfl) ?_; intro R9; refine Ud (f := iC) (s := 1) (xs := c7) (ob := j6) (j := v0) (ys := [(n0.Arcs.getD a9.toNat default).to]) (fun _ => rfl) (fun _ => rfl) Rx N5 Zb Jx t1 w1 w2 w3 (fun wc hwc => (hwc.rs (f := iC) (s := 1) (xs := [(n0.Arcs.getD a9.toNat default).to]) (j := ([])) (fun _ => rfl) Zk rfl (Nat.le_refl _) Vs)) ?_; intro m9 t5 N6 E6 E7 E8; refine Zi Za Vo ?_; refine Vc (cs' := [iV n0.N, iV n0.S, iV n0.T, sV g8 (k2 + 1) r4, sV m9 (o2 + 1) t5, .slice none 0 0, sV i5 o4 r6, sV h5 o5 q8, sV d2 e8 c104]) Za Gm Rw Yb ?_; refine dN (Zu (aT [1, 2, 5, 6, 7, 8] rfl) ?_); obtain ⟨N7, H⟩ := Zy H; refine sR Y8 rfl (Zi Za Lf (Zn Za Yk Zk rfl (Zi Za Z59 (Zn Za Yu Wk rfl ?_)))); refine Gf [iV 0] [0] Za Yj Yo Z3t Yd (by simp only [Wz, setCells, Value.cells, List.toList_toArray, List.getD_cons_zero, List.getD_cons_succ, List.set_cons_zero, List.set_cons_succ]; rfl) (by kernel_rfl) ?_; intro S0; refine Ud (f := iC) (s := 1) (xs := d6) (ob := i5) (j := v2) (ys := [(n0.Arcs.getD a9.toNat default).cap]) (fun _ => rfl) (fun _ => rfl) Z6x N7 Zb tk8 t2 w4 w5 w6 (fun wc hwc => (hwc.rs (f := iC) (s := 1) (xs := [(n0.Arcs.getD a9.toNat default).cap]) (j := ([])) (fun _ => rfl) Zk rfl (Nat.le_refl _) Vs)) ?_; intro p8 w9 N8 E9 F0 F1; refine Zi Za Lf ?_; refine Vc (cs' := [iV n0.N, iV n0.S, iV n0.T, sV g8 (k2 + 1) r4, sV m9 (o2 + 1) t5, .slice none 0 0, sV p8 (o4 + 1) w9, sV h5 o5 q8, sV d2 e8 c104]) Za Xt Z9d Yb ?_; refine dN ?_; obtain ⟨N9, H⟩ := Zy H; refine sR Y7 rfl (Zi Za Le (Zn Za Yi Zk rfl (Zd Za ?_))); refine Gf [iV 0] [0] Za Ye Yf Ni Yd (by simp only [Wz, setCells, Value.cells, List.toList_toArray, List.getD_cons_zero, List.getD_cons_succ, List.set_cons_zero, List.set_cons_succ]; rfl) (by kernel_rfl) ?_; intro S1; refine Ud (f := iC) (s := 1) (xs := d7) (ob := h5) (j := v3) (ys := [a9]) (fun _ => rfl) (fun _ => rfl) Rx N9 Zb tk10 t4 w7 w8 p4 (fun wc hwc => (hwc.rs (f := iC) (s := 1) (xs := [a9]) (j := ([])) (fun _ => rfl) Zk rfl (Nat.le_refl _) Vs)) ?_; intro t6 B2 O0 F2 F3 F4; refine Zi Za Le ?_; refine Vc (cs' := [iV n0.N, iV n0.S, iV n0.T, sV g8 (k2 + 1) r4, sV m9 (o2 + 1) t5, .slice none 0 0, sV p8 (o4 + 1) w9, sV t6 (o5 + 1) B2, sV d2 e8 c104]) Za Xt Rw Yb ?_; refine dN (Zu (aT [1, 2, 5, 6, 7, 8] rfl) ?_); obtain ⟨O1, H⟩ := Zy H; refine rG Y6 rfl (Zi Za Z1p (Zn Za Z57 Zk rfl ?_)); refine Gf [.bool false] [0] Za Z2y Z2f Z6w Yd (by simp only [Wz, setCells, Value.cells, List.toList_toArray, List.getD_cons_zero, List.getD_cons_succ, List.set_cons_zero, List.set_cons_succ]; rfl) (by kernel_rfl) ?_; intro S2; refine Ud (f := boolC) (s := 1) (xs := a7) (ob := d2) (j := k7) (ys := [false]) (fun _ => rfl) (fun _ => rfl) Z9g O1 Zb tk12 m7 p5 p6 p7 (fun wc hwc => (hwc.rs (f := boolC) (s := 1) (xs := [false]) (j := ([])) (fun _ => rfl) Zk rfl (Nat.le_refl _) Vs)) ?_; intro y0 c154 O2 F5 F6 F7; refine Zi Za Z1p ?_; refine Vc (cs' := [iV n0.N, iV n0.S, iV n0.T, sV g8 (k2 + 1) r4, sV m9 (o2 + 1) t5, .slice none 0 0, sV p8 (o4 + 1) w9, sV t6 (o5 + 1) B2, sV y0 (e8 + 1) c154]) Za Xt Zat Yb ?_; refine Zo ?_; exact Zb3 (c7 ++ ([(n0.Arcs.getD a9.toNat default).to])) (o2 + 1) t5 m9 N6 (d6 ++ ([(n0.Arcs.getD a9.toNat default).cap])) (o4 + 1) w9 p8 N8 (d7 ++ ([a9])) (o5 + 1) B2 t6 O0 (a7 ++ ([false])) (e8 + 1) c154 y0 O2 ⟨H, (Jn t1 rfl), E6, E7, E8, (Jn t2 rfl), E9, F0, F1, (Jn t4 rfl), F2, F3, F4, (Jn m7 rfl), F5, F6, F7⟩ (aF rfl) (Zc tk10 (Zc tk10 (Zc Ze (Zc tk9 (Zc Jx (Zc Uo (Zc Xt (Zc Ze (Zc Uo Zg)))))))))
        · refine Yn rfl B1 (T.skip ?_); exact Zb3 c7 o2 t0 j6 v0 d6 o4 r6 i5 v2 d7 o5 q8 h5 v3 a7 e8 c104 d2 k7 ⟨H, t1, w1, w2, w3, t2, w4, w5, w6, t4, w7, w8, p4, m7, p5, p6, p7⟩ (aF rfl) (Zc Zs (Zc Zs (Zc Zs (Zc Zs (Zc Zs (Zc Zs (Zc Zs (Zc Zs (Zc Ze Zg)))))))))
       ·
        rintro c9 h6 m8 i4 o8 e3 h7 l6 g9 o9 e4 h8 k8 f1 p2 d0 h9 j7 e7 p3 ⟨H, t7, y1, y2, y3, t8, y4, y5, y6, t9, y7, y8, y9, u0, z0, z1, z5⟩; unfold Z16 at H; refine sR Y4 rfl (Zi Za Z42 (Zn Za Zj Vw rfl (Zd Za (Zt Zm (dN ?_))))); rcases Zq H with ⟨B3, H⟩ | ⟨B3, H⟩
        · refine Yp rfl B3 ?_; obtain ⟨O3, H⟩ := Zy H; refine sR Y8 rfl (Zi Za Vo (Zn Za Yi Yq rfl (Zi Za Z0t (Zn Za Zj Vw rfl ?_)))); refine Gf [iV 0] [0] Za Ye Yf Ni Yd (by simp only [Wz, setCells, Value.cells, List.toList_toArray, List.getD_cons_zero, List.getD_cons_succ, List.set_cons_zero, List.set_cons_succ]; rfl) (by kernel_rfl) ?_; intro S3; refine Ud (f := iC) (s := 1) (xs := c9) (ob := i4) (j := o8) (ys := [(n0.Arcs.getD a9.toNat default).fr]) (fun _ => rfl) (fun _ => rfl) Rx O3 Zb Gm t7 y1 y2 y3 (fun wc hwc => (hwc.rs (f := iC) (s := 1) (xs := [(n0.Arcs.getD a9.toNat default).fr]) (j := ([])) (fun _ => rfl) Zk rfl (Nat.le_refl _) Vs)) ?_; intro n5 u3 O4 F8 F9 G0; refine Zi Za Vo ?_; refine Vc (cs' := [iV n0.N, iV n0.S, iV n0.T, sV g8 (k2 + 1) r4, sV n5 (h6 + 1) u3, .slice none 0 0, sV g9 h7 l6, sV f1 h8 k8, sV e7 h9 j7]) Za Uo Rw Yb ?_; refine dN (Zu (aT [1, 2, 5, 6, 7] rfl) ?_); obtain ⟨O5, H⟩ := Zy H; refine sR Y6 rfl (Zi Za Lf (Zn Za Yk Zk rfl ?_)); refine Gf [iV 0] [0] Za Yj Yo Z3t Yd (by simp only [Wz, setCells, Value.cells, List.toList_toArray, List.getD_cons_zero, List.getD_cons_succ, List.set_cons_zero, List.set_cons_succ]; rfl) (by kernel_rfl) ?_; intro S4; refine Ud (f := iC) (s := 1) (xs := e3) (ob := g9) (j := o9) (ys := [0]) (fun _ => rfl) (fun _ => rfl) Z6x O5 Zb Wy t8 y4 y5 y6 (fun wc hwc => (hwc.rs (f := iC) (s := 1) (xs := [0]) (j := ([])) (fun _ => rfl) Zk rfl (Nat.le_refl _) Vs)) ?_; intro p9 x2 O6 G1 G2 G3; refine Zi Za Lf ?_; refine Vc (cs' := [iV n0.N, iV n0.S, iV n0.T, sV g8 (k2 + 1) r4, sV n5 (h6 + 1) u3, .slice none 0 0, sV p9 (h7 + 1) x2, sV f1 h8 k8, sV e7 h9 j7]) Za Xt Z9d Yb ?_; refine dN ?_; obtain ⟨O7, H⟩ := Zy H; refine sR Y7 rfl (Zi Za Le (Zn Za Yi Zk rfl (Zd Za ?_))); refine Gf [iV 0] [0] Za Ye Yf Ni Yd (by simp only [Wz, setCells, Value.cells, List.toList_toArray, List.getD_cons_zero, List.getD_cons_succ, List.set_cons_zero, List.set_cons_succ]; rfl) (by kernel_rfl) ?_; intro S5; refine Ud (f := iC) (s := 1) (xs := e4) (ob := f1) (j := p2) (ys := [a9]) (fun _ => rfl) (fun _ => rfl) Rx O7 Zb tk9 t9 y7 y8 y9 (fun wc hwc => (hwc.rs (f := iC) (s := 1) (xs := [a9]) (j := ([])) (fun _ => rfl) Zk rfl (Nat.le_refl _) Vs)) ?_; intro u5 B4 O8 G4 G5 G6; refine Zi Za Le ?_; refine Vc (cs' := [iV n0.N, iV n0.S, iV n0.T, sV g8 (k2 + 1) r4, sV n5 (h6 + 1) u3, .slice none 0 0, sV p9 (h7 + 1) x2, sV u5 (h8 + 1) B4, sV e7 h9 j7]) Za Xt Rw Yb ?_; refine dN (Zu (aT [1, 2, 5, 6, 7] rfl) ?_); obtain ⟨O9, H⟩ := Zy H; refine rG Y6 rfl (Zi Za Z1p (Zn Za Z57 Zk rfl ?_)); refine Gf [.bool false] [0] Za Z2y Z2f Z6w Yd (by simp only [Wz, setCells, Value.cells, List.toList_toArray, List.getD_cons_zero, List.getD_cons_succ, List.set_cons_zero, List.set_cons_succ]; rfl) (by kernel_rfl) ?_; intro S6; refine Ud (f := boolC) (s := 1) (xs := d0) (ob := e7) (j := p3) (ys := [true]) (fun _ => rfl) (fun _ => rfl) Z9g O9 Zb tk11 u0 z0 z1 z5 (fun wc hwc => (hwc.rs (f := boolC) (s := 1) (xs := [true]) (j := ([])) (fun _ => rfl) Zk rfl (Nat.le_refl _) Vs)) ?_; intro z6 G7 P0 G8 G9 H0; refine Zi Za Z1p ?_; refine Vc (cs' := [iV n0.N, iV n0.S, iV n0.T, sV g8 (k2 + 1) r4, sV n5 (h6 + 1) u3, .slice none 0 0, sV p9 (h7 + 1) x2, sV u5 (h8 + 1) B4, sV z6 (h9 + 1) G7]) Za Xt Zat Yb ?_; refine Zo (Xu (Ya ?_)); obtain ⟨P1, H⟩ := Zy H; refine rG Y3 rfl (Zd Za (Ys P1 Zb (Xq Za (Zo ?_)))); have H := We H M7; exact Z8a N3 (c9 ++ ([(n0.Arcs.getD a9.toNat default).fr])) (h6 + 1) u3 n5 O4 (e3 ++ ([0])) (h7 + 1) x2 p9 O6 (e4 ++ ([a9])) (h8 + 1) B4 u5 O8 (d0 ++ ([true])) (h9 + 1) G7 z6 P0 (a9 + 1) ⟨H, (Jn t7 rfl), F8, F9, G0, (Jn t8 rfl), G1, G2, G3, (Jn t9 rfl), G4, G5, G6, (Jn u0 rfl), G8, G9, H0⟩ (Nat.lt_succ_self _) (aF rfl) (Zc tk9 (Zc tk9 (Zc Ze (Zc tk8 (Zc Jx (Zc Uo (Zc Xt (Zc Ze Zg))))))))
        · refine Yn rfl B3 (T.skip (Xu (Ya ?_))); obtain ⟨P2, H⟩ := Zy H; refine rG Y3 rfl (Zd Za (Ys P2 Zb (Xq Za (Zo ?_)))); have H := We H M7; exact Z8a N3 c9 h6 m8 i4 o8 e3 h7 l6 g9 o9 e4 h8 k8 f1 p2 d0 h9 j7 e7 p3 (a9 + 1) ⟨H, t7, y1, y2, y3, t8, y4, y5, y6, t9, y7, y8, y9, u0, z0, z1, z5⟩ (Nat.lt_succ_self _) (aF rfl) (Zc Ze (Zc Ze (Zc Ze (Zc Ze (Zc Ze (Zc Ze (Zc Ze (Zc Ze Zg))))))))
     · refine Yn rfl A9 (T.exit (Xh ?_)); have H := Xp H M7 ▸ R8; refine Xh (Wt (Xu ?_)); exact Z8t (a5 ++ ([(a6.length : Int)])) (k2 + 1) r4 g8 M9 c7 o2 t0 j6 v0 d6 o4 r6 i5 v2 d7 o5 q8 h5 v3 a7 e8 c104 d2 k7 ⟨H, (Jn A7 rfl), N0, N1, N2, t1, w1, w2, w3, t2, w4, w5, w6, t4, w7, w8, p4, m7, p5, p6, p7⟩ (aF rfl) (Zc Ze (Zc Ze (Zc Ze (Zc Ze (Zc Ze (Zc Ze (Zc Ze (Zc Ze Zg))))))))
    · rintro d1 l8 l9 j1 q3 d9 m0 c255 j2 q4 f9 m1 m2 j3 q5 g0 m3 m4 j4 q6 e0 m5 m6 j5 q7 ⟨H, H1, H2, H3, H4, H5, H6, H7, H8, H9, I0, I1, I2, I3, I4, I5, I6, I7, I8, I9, J0⟩; unfold Z6a at H; obtain ⟨P3, H⟩ := Zy H; refine rG Y3 rfl (Zd Za (Ys P3 Zb (Xq Za (Zo ?_)))); have H := We H Q5; exact Zew R4 d1 l8 l9 j1 q3 d9 m0 c255 j2 q4 f9 m1 m2 j3 q5 g0 m3 m4 j4 q6 e0 m5 m6 j5 q7 (o7 + 1) ⟨H, H1, H2, H3, H4, H5, H6, H7, H8, H9, I0, I1, I2, I3, I4, I5, I6, I7, I8, I9, J0⟩ (Nat.lt_succ_self _) (aF rfl) (Zc Ze (Zc Ze (Zc Ze (Zc Ze (Zc Ze (Zc Ze (Zc Ze (Zc Ze Zg))))))))
   · refine Yn rfl M8 (T.exit (Xh ?_)); have H := Xp H Q5 ▸ R3; refine Xh (Wt ?_); exact Z8t a5 k2 w0 l5 x5 a6 s1 c22 k3 x6 e9 s6 c32 k4 x7 f0 s7 c42 k5 x8 d4 s8 s9 k6 x9 ⟨H, A7, C6, C7, C8, A8, C9, D0, D1, D2, D3, D4, D5, D6, D7, D8, D9, E0, E1, E2, E3⟩ (aF rfl) (Zc Zs (Zc Zs (Zc Zs (Zc Zs (Zc Zs (Zc Zs (Zc Zs Zg)))))))
  ·
   rintro a4 f2 o6 i6 q2 a3 f3 c306 b5 i7 c8 f4 c316 b6 i8 a8 f5 f6 b7 i9 b0 f7 f8 b9 j0 ⟨H, z7, J1, J2, J3, q0, J4, J5, J6, J7, J8, J9, K0, h1, h2, K1, h3, K2, K3, K4, K5⟩; unfold Z61 at H; obtain ⟨P4, H⟩ := Zy H; refine sR Y9 rfl (Zi Za Us (Zn Za Yi Zv rfl (Zi Za Vo (Zn Za Yi Zv rfl (Xo (xs := a3) q0 Zb Ye ?_))))); refine Gf [iV 0] [0] Za Ye Yf Ni Yd (by simp only [Wz, setCells, Value.cells, List.toList_toArray, List.getD_cons_zero, List.getD_cons_succ, List.set_cons_zero, List.set_cons_succ]; rfl) (by kernel_rfl) ?_; intro S7; refine Ud (f := iC) (s := 1) (xs := a4) (ob := i6) (j := q2) (ys := [(a3.length : Int)]) (fun _ => rfl) (fun _ => rfl) Rx P4 Zb Ve z7 J1 J2 J3 (fun wc hwc => (hwc.rs (f := iC) (s := 1) (xs := [(a3.length : Int)]) (j := ([])) (fun _ => rfl) Zk rfl (Nat.le_refl _) Vs)) ?_; intro d8 n6 q9 K6 K7 K8; refine Zi Za Us ?_; refine Vc (cs' := [iV n0.N, iV n0.S, iV n0.T, sV d8 (f2 + 1) n6, sV b5 f3 c306, .slice none 0 0, sV b6 f4 c316, sV b7 f5 f6, sV b9 f7 f8]) Za Ve Rw Yb ?_; refine dN (Zu (aT [2, 5] rfl) (Zl (sR Y1 rfl (aN Za ?_)))); refine Z7w (fun (i1 : List Int) (n7 n8 : Nat) (j8 : Option Nat) (r2 : List Value) => Z53 n0 a4 a3 c8 a8 b0 i1 = some (r0, r1) ∧ i1.length = n7 ∧ n7 ≤ n8 ∧ r2.length = (n8 - n7) * 1 ∧ (j8 = none → n8 = 0)) (fun (i1 : List Int) (n7 n8 : Nat) (j8 : Option Nat) (r2 : List Value) => [(2, pV b3), (5, pV b8)]) (fun (i1 : List Int) (n7 n8 : Nat) (j8 : Option Nat) (r2 : List Value) => [(eC b3 #[iV 0, iV 0, iV 0, .slice none 0 0, .slice none 0 0, .slice none 0 0, .slice none 0 0, .slice none 0 0, .slice none 0 0] 29), (eC b8 #[iV n0.N, iV n0.S, iV n0.T, sV d8 (f2 + 1) n6, sV b5 f3 c306, sV j8 n7 n8, sV b6 f4 c316, sV b7 f5 f6, sV b9 f7 f8] 29), (eI d8 (a4 ++ ([(a3.length : Int)])) q9 3), (eI b5 a3 i7 3), (eI j8 i1 r2 3), (eI b6 c8 i8 2), (eI b7 a8 i9 3), (eA b9 boolC b0 j0 4)]) ?_ ?_
   ·
    refine T.block ?_; obtain ⟨S8, S9, T0⟩ := Yg H; refine Z5c (fun (C1 : Nat) (d5 : List Int) (k9 l1 : Nat) (h4 : Option Nat) (n9 : List Value) (g1 : Int) => Yw (fun s => Z3z a3 a8 s.1 s.2) C1 (d5, g1) = some S8 ∧ d5.length = k9 ∧ k9 ≤ l1 ∧ n9.length = (l1 - k9) * 1 ∧ (h4 = none → l1 = 0)) (fun (C1 : Nat) (d5 : List Int) (k9 l1 : Nat) (h4 : Option Nat) (n9 : List Value) (g1 : Int) => [(2, pV b3), (5, pV b8), (9, iV g1)]) (fun (C1 : Nat) (d5 : List Int) (k9 l1 : Nat) (h4 : Option Nat) (n9 : List Value) (g1 : Int) => [(eC b3 #[iV 0, iV 0, iV 0, .slice none 0 0, .slice none 0 0, .slice none 0 0, .slice none 0 0, .slice none 0 0, .slice none 0 0] 29), (eC b8 #[iV n0.N, iV n0.S, iV n0.T, sV d8 (f2 + 1) n6, sV b5 f3 c306, sV h4 k9 l1, sV b6 f4 c316, sV b7 f5 f6, sV b9 f7 f8] 29), (eI d8 (a4 ++ ([(a3.length : Int)])) q9 3), (eI b5 a3 i7 3), (eI h4 d5 n9 3), (eI b6 c8 i8 2), (eI b7 a8 i9 3), (eA b9 boolC b0 j0 4)]) (fun (C1 : Nat) (d5 : List Int) (k9 l1 : Nat) (h4 : Option Nat) (n9 : List Value) (g1 : Int) => C1) Yh ([]) 0 0 none ([]) 0 ⟨S9, rfl, (Nat.le_refl _), (Wp 0 _), (fun _ => rfl)⟩ (aF rfl) (Zc Ve (Zc Ze (Zc Ze (Zc Zs (Pick.none (Zc Zs (Zc Zs (Zc Zs Zg)))))))) ?_; rintro C1 d5 k9 l1 h4 n9 g1 ⟨H, z8, z9, A1, A2⟩; obtain ⟨T1, Q7, rfl, H, Q8⟩ := Vb H; have H : Z3z a3 a8 d5 g1 = some Q7 := H; unfold Z3z at H; refine Zl (sR Y5 rfl (Zd Za (Zi Za Vo (Zn Za Yi Zv rfl (Xo (xs := a3) q0 Zb Ye (Zt Zm (dN ?_))))))); rcases Zq H with ⟨B5, H⟩ | ⟨B5, H⟩
    ·
     refine Yp rfl B5 (T.skip (Ya (Zl ?_))); refine Z7w (fun (g2 : List Int) (o0 o1 : Nat) (j9 : Option Nat) (r3 : List Value) => Z5g g1 g2 = some Q7 ∧ g2.length = o0 ∧ o0 ≤ o1 ∧ r3.length = (o1 - o0) * 1 ∧ (j9 = none → o1 = 0)) (fun (g2 : List Int) (o0 o1 : Nat) (j9 : Option Nat) (r3 : List Value) => [(2, pV b3), (5, pV b8), (9, iV g1)]) (fun (g2 : List Int) (o0 o1 : Nat) (j9 : Option Nat) (r3 : List Value) => [(eC b3 #[iV 0, iV 0, iV 0, .slice none 0 0, .slice none 0 0, .slice none 0 0, .slice none 0 0, .slice none 0 0, .slice none 0 0] 29), (eC b8 #[iV n0.N, iV n0.S, iV n0.T, sV d8 (f2 + 1) n6, sV b5 f3 c306, sV j9 o0 o1, sV b6 f4 c316, sV b7 f5 f6, sV b9 f7 f8] 29), (eI d8 (a4 ++ ([(a3.length : Int)])) q9 3), (eI b5 a3 i7 3), (eI j9 g2 r3 3), (eI b6 c8 i8 2), (eI b7 a8 i9 3), (eA b9 boolC b0 j0 4)]) ?_ ?_
     ·
      refine T.block (sR Y1 rfl (aN Za (T.block ?_))); obtain ⟨T2, T3, T4⟩ := Yg H; refine Z5c (fun (C2 : Nat) (c4 : List Int) (i2 k1 : Nat) (e5 : Option Nat) (l4 : List Value) (g3 : Int) => Yw (fun s => Z3y a3 a8 g1 s.1 s.2) C2 (c4, g3) = some T2 ∧ c4.length = i2 ∧ i2 ≤ k1 ∧ l4.length = (k1 - i2) * 1 ∧ (e5 = none → k1 = 0)) (fun (C2 : Nat) (c4 : List Int) (i2 k1 : Nat) (e5 : Option Nat) (l4 : List Value) (g3 : Int) => [(2, pV b3), (5, pV b8), (9, iV g1), (10, iV g3)]) (fun (C2 : Nat) (c4 : List Int) (i2 k1 : Nat) (e5 : Option Nat) (l4 : List Value) (g3 : Int) => [(eC b3 #[iV 0, iV 0, iV 0, .slice none 0 0, .slice none 0 0, .slice none 0 0, .slice none 0 0, .slice none 0 0, .slice none 0 0] 29), (eC b8 #[iV n0.N, iV n0.S, iV n0.T, sV d8 (f2 + 1) n6, sV b5 f3 c306, sV e5 i2 k1, sV b6 f4 c316, sV b7 f5 f6, sV b9 f7 f8] 29), (eI d8 (a4 ++ ([(a3.length : Int)])) q9 3), (eI b5 a3 i7 3), (eI e5 c4 l4 3), (eI b6 c8 i8 2), (eI b7 a8 i9 3), (eA b9 boolC b0 j0 4)]) (fun (C2 : Nat) (c4 : List Int) (i2 k1 : Nat) (e5 : Option Nat) (l4 : List Value) (g3 : Int) => C2) Yh d5 k9 l1 h4 n9 0 ⟨T3, z8, z9, A1, A2⟩ (aF rfl) (Zc Ze (Zc Ze (Zc Ze (Zc Ze (Zc Ze (Zc Ze (Zc Ze (Zc Ze Zg)))))))) ?_; rintro C2 c4 i2 k1 e5 l4 g3 ⟨H, q1, u6, u7, u8⟩; obtain ⟨Q9, R0, rfl, H, P5⟩ := Vb H; have H : Z3y a3 a8 g1 c4 g3 = some R0 := H; unfold Z3y at H; refine Zl (sR Y5 rfl (Zd Za (Zi Za Vo (Zn Za Yi Zv rfl (Xo (xs := a3) q0 Zb Ye (Zt Zm (dN ?_))))))); rcases Zq H with ⟨B6, H⟩ | ⟨B6, H⟩
      ·
       refine Yp rfl B6 (T.skip (Ya (Zl (T.block (Zl ?_))))); refine Wj (fun (u9 : Bool) => Z0j c4 g3 u9 = some R0) (fun (u9 : Bool) => [(2, pV b3), (5, pV b8), (9, iV g1), (10, iV g3), (148, .bool u9)]) (fun (u9 : Bool) => [(eC b3 #[iV 0, iV 0, iV 0, .slice none 0 0, .slice none 0 0, .slice none 0 0, .slice none 0 0, .slice none 0 0, .slice none 0 0] 29), (eC b8 #[iV n0.N, iV n0.S, iV n0.T, sV d8 (f2 + 1) n6, sV b5 f3 c306, sV e5 i2 k1, sV b6 f4 c316, sV b7 f5 f6, sV b9 f7 f8] 29), (eI d8 (a4 ++ ([(a3.length : Int)])) q9 3), (eI b5 a3 i7 3), (eI e5 c4 l4 3), (eI b6 c8 i8 2), (eI b7 a8 i9 3), (eA b9 boolC b0 j0 4)]) ?_ ?_
       ·
        obtain ⟨x3, x4, H⟩ := Vf H; rcases Zq H with ⟨B7, H⟩ | ⟨B7, H⟩
        · refine Xl 14 [0, 1, 2, 3, 4, 5, 6, 7, 8, 9, 10, 11, 12, 13] rfl Yx (by kernel_rfl) (by kernel_rfl) rfl (by kernel_rfl) ?_; refine Zp Za Le (Zr Za Yi Zv rfl (TQ.move Za (Kn h3 h2 h1 x3 Zb Ye Yf (Jl h3 h2 h1 x3 Za Zj Ur (Zp Za Le (Zr Za Yi Zv rfl (TQ.move Za (Kn h3 h2 h1 x4 Zb Ye Yf (Jl h3 h2 h1 x4 Za Zj Ur (Wb Zm (TQ.move Za (Xf (t := 144) (b' := true) rfl (decide_eq_true B7) (TQ.move Za (TQ.move Za (TQ.tail [14, 15] Yd (Zt Zm ?_)))))))))))))))); refine Ym Zb (Zo ?_); exact Xk (decide (g1 ≠ g3)) H (aF rfl) (Zc Ze (Zc Ze (Zc Ze (Zc Ze (Zc Ze (Zc Ze (Zc Ze (Zc Ze Zg))))))))
        · refine Xl 14 [0, 1, 2, 3, 4, 5, 6, 7, 8, 9, 10, 11, 12, 13] rfl Yx (by kernel_rfl) (by kernel_rfl) rfl (by kernel_rfl) ?_; refine Zp Za Le (Zr Za Yi Zv rfl (TQ.move Za (Kn h3 h2 h1 x3 Zb Ye Yf (Jl h3 h2 h1 x3 Za Zj Ur (Zp Za Le (Zr Za Yi Zv rfl (TQ.move Za (Kn h3 h2 h1 x4 Zb Ye Yf (Jl h3 h2 h1 x4 Za Zj Ur (Wb Zm (TQ.move Za (Xf (t := 144) (b' := false) rfl (decide_eq_false B7) (Zh Za (Zh Za (TQ.tail [14, 15] Yd (Zf Za ?_)))))))))))))))); refine Yr Zb (Zo ?_); exact Xk false H (aF rfl) (Zc Ze (Zc Ze (Zc Ze (Zc Ze (Zc Ze (Zc Ze (Zc Ze (Zc Ze Zg))))))))
       ·
        rintro u9 H; unfold Z0j at H; rcases Zq H with ⟨B8, H⟩ | ⟨B8, H⟩
        · refine Xi ⟨rfl, B8⟩ ?_; obtain ⟨P6, H⟩ := Zy H; refine rG Y7 rfl (Zi Za Rc (Zn Za Yi Zv rfl (Zd Za ?_))); refine Gf [iV 0] [0] Za Ye Yf Ni Yd (by simp only [Wz, setCells, Value.cells, List.toList_toArray, List.getD_cons_zero, List.getD_cons_succ, List.set_cons_zero, List.set_cons_succ]; rfl) (by kernel_rfl) ?_; intro T5; refine Ud (f := iC) (s := 1) (xs := c4) (ob := e5) (j := l4) (ys := [g3]) (fun _ => rfl) (fun _ => rfl) Rx P6 Zb Gm q1 u6 u7 u8 (fun wc hwc => (hwc.rs (f := iC) (s := 1) (xs := [g3]) (j := ([])) (fun _ => rfl) Zk rfl (Nat.le_refl _) Vs)) ?_; intro A3 K9 P7 L0 L1 L2; refine Zi Za Rc ?_; refine Vc (cs' := [iV n0.N, iV n0.S, iV n0.T, sV d8 (f2 + 1) n6, sV b5 f3 c306, sV A3 (i2 + 1) K9, sV b6 f4 c316, sV b7 f5 f6, sV b9 f7 f8]) Za Ve Rw Yb ?_; refine Zo (Xu (Ya ?_)); obtain ⟨P8, H⟩ := Zy H; refine rG Y3 rfl (Zd Za (Ys P8 Zb (Xq Za (Zo ?_)))); have H := We H P5; exact Z1e Q9 (c4 ++ ([g3])) (i2 + 1) K9 A3 P7 (g3 + 1) ⟨H, (Jn q1 rfl), L0, L1, L2⟩ (Nat.lt_succ_self _) (aF rfl) (Zc Ve (Zc Ze (Zc Xt (Zc Xt (Zc Ze (Zc Zs (Zc Zs (Zc Zs Zg))))))))
        · refine Wu rfl (Bool.eq_false_iff.2 B8) (T.skip (Xu (Ya ?_))); obtain ⟨P9, H⟩ := Zy H; refine rG Y3 rfl (Zd Za (Ys P9 Zb (Xq Za (Zo ?_)))); have H := We H P5; exact Z1e Q9 c4 i2 k1 e5 l4 (g3 + 1) ⟨H, q1, u6, u7, u8⟩ (Nat.lt_succ_self _) (aF rfl) (Zc Ze (Zc Ze (Zc Ze (Zc Ze (Zc Ze (Zc Ze (Zc Ze (Zc Ze Zg))))))))
      · refine Yn rfl B6 (T.exit (Xh ?_)); have H := Xp H P5 ▸ T4; refine Xh (Wt (Xu ?_)); exact Z88 c4 i2 k1 e5 l4 ⟨H, q1, u6, u7, u8⟩ (aF rfl) (Zc Ze (Zc Ze (Zc Ze (Zc Ze (Zc Ze (Zc Ze (Zc Ze (Zc Ze Zg))))))))
     · rintro g2 o0 o1 j9 r3 ⟨H, L3, L4, L5, L6⟩; unfold Z5g at H; obtain ⟨Q0, H⟩ := Zy H; refine rG Y3 rfl (Zd Za (Ys Q0 Zb (Xq Za (Zo ?_)))); have H := We H Q8; exact Z1e T1 g2 o0 o1 j9 r3 (g1 + 1) ⟨H, L3, L4, L5, L6⟩ (Nat.lt_succ_self _) (aF rfl) (Zc Ze (Zc Ze (Zc Ze (Zc Ze (Zc Ze (Zc Ze (Zc Ze (Zc Ze Zg))))))))
    · refine Yn rfl B5 (T.exit (Xh ?_)); have H := Xp H Q8 ▸ T0; refine Xh (Wt ?_); exact Z88 d5 k9 l1 h4 n9 ⟨H, z8, z9, A1, A2⟩ (aF rfl) (Zc Ze (Zc Ze (Zc Ze (Zc Ze (Zc Ze (Zc Ze (Zc Ze (Zc Ze Zg))))))))
   · rintro i1 n7 n8 j8 r2 ⟨H, L7, L8, L9, M0⟩; unfold Z53 at H; refine sR Y3 rfl (Yt Za Ww Zv rfl (Wi Za Ze Z6h Yb (aN Za (T.ret ?_)))); obtain ⟨rfl, rfl⟩ := ret2 H; exact Lb Za (Uu rfl Ww Zk rfl) (Res.tmp rfl) (Zc Xt (Zc Xt (Zc Xt (Zc Xt (Zc Xt (Zc Xt Zg)))))) ⟨d8, (f2 + 1), n6, q9, b5, f3, c306, i7, j8, n7, n8, r2, b6, f4, c316, i8, b7, f5, f6, i9, b9, f7, f8, j0, rfl, rfl, (Jn z7 rfl), K6, K7, K8, q0, J4, J5, J6, L7, L8, L9, M0, J7, J8, J9, K0, h1, h2, K1, h3, K2, K3, K4, K5⟩
end Go.Proofs.YtobnnpdfeakbbaaGreat.Ax
namespace Go.Proofs.YtobnnpdfeakbbaaGreat.Ax
open Go Go.Acq Go.RowKit Go.Proofs
set_option maxHeartbeats 8000000
set_option maxRecDepth 20000
def Z9j : List (FuncId × Vx.XK) := [(153, .ld), (269, .st), (268, .add), (317, .cas)]
theorem Zfd : Vx.XsOk Tryz.prog Z9j := ⟨⟨Tryz.f153, Tryz.func153, by kernel_rfl, rfl, by kernel_rfl, by kernel_rfl⟩, ⟨Tryz.f269, Tryz.func269, by kernel_rfl, rfl, by kernel_rfl, by kernel_rfl⟩, ⟨Tryz.f268, Tryz.func268, by kernel_rfl, rfl, by kernel_rfl, by kernel_rfl⟩, ⟨Tryz.f317, Tryz.func317, by kernel_rfl, rfl, by kernel_rfl, by kernel_rfl⟩, trivial⟩
theorem Zcc : Vx.okK Tryz.prog Z9j 400 48 [] (.bool (.lit true)) = true := by kernel_rfl
theorem Zd7 (w : World) {r0 : Bool} (H : Z8g = some r0) : Fnc Tryz.prog 48 #[] w [] (fun v N => v = .bool r0 ∧ N = []) := by
 unfold Z8g at H; injection H with H; subst H; exact Vx.awakeK Yx Zfd Zcc w
end Go.Proofs.YtobnnpdfeakbbaaGreat.Ax
