/- Texts of this claim, one behind the other. -/
import Derived.Test.YtddknfpolkkbjaaGreatDoorA3
import Derived.Scope
import Derived.KernelRfl
import Derived.Test.YtddknfpolkkbjaaGreatDoorA1
import Derived.Test.YtddknfpolkkbjaaGreatDoorA2
import Derived.Test.YtddknfpolkkbjaaGreatDoorChecked
set_option linter.unusedVariables false
set_option linter.unusedSimpArgs false
noncomputable section
namespace Go.Acq.Vx
open Go Go.Acq Go.RowKit
section draw
variable {P : Program} {vr : Nat → Int} {X : List (FuncId × XK)} {σ : Nm} {ρ : Option Nat} {w0 w : World} {M B : List Nat} {n : Nat} {ih : IH} {ops : Array Oper} {A : List Nat} {base : Nat} {E E2 : En} {s s2 : St} {a : Act}
structure Tr (P:Program)(X:List (FuncId×XK))(ih:IH)(n:Nat)(ops:Array Oper)(A:List Nat)(base:Nat)(Es:Nat→En)(Ss Tk:Nat→St)(vs:Nat→SV)(cs:Nat→AO):Prop where
  step:∀ (j:Nat) (o:Oper),j<ops.size→ops[j]?=some o→StepD P X ih n ops A base j o (restr (Es j) (readsO ops o)) (Ss j) (vs j) (Ss (j+1))∧Es (j+1)=putE (Es j) o.dst (vs j)
  zero:Tk 0=Ss 0
  tk:∀ j,j<ops.size→truB ops j=true→Tk (rkT ops (j+1))=Ss (j+1)
  cs:∀ q,cs q=orGone ((Ss (q+1)).heap.get (base+q))
section tr
variable {Es : Nat → En} {Ss Tk : Nat → St} {vs : Nat → SV} {cs : Nat → AO} (H : Tr P X ih n ops A base Es Ss Tk vs cs)
include H
theorem Tr.oper {j:Nat}(hj:j<ops.size):∃ o,ops[j]?=some o∧truB ops j=isTrue o.op∧fresB ops j=isFresh o.op∧StepD P X ih n ops A base j o (restr (Es j) (readsO ops o)) (Ss j) (vs j) (Ss (j+1)):=by
 have ho:ops[j]?=some ops[j]:=Array.getElem?_eq_getElem hj
 exact ⟨_,ho,by unfold truB;rw [ho],by unfold fresB;rw [ho],(H.step j _ hj ho).1⟩
omit H in
theorem Tr.rk {j:Nat}(hj:j<ops.size)(ht:truB ops j=false):rkT ops (j+1)=rkT ops j:=by rw [rkT_succ,ht];simp
theorem Tr.out:∀ {j:Nat},j≤ops.size→(∀ x,(x<base∨base+ops.size≤x)→(Ss j).heap.get x=(Tk (rkT ops j)).heap.get x)∧(Ss j).next=(Tk (rkT ops j)).next
 | 0,_=>by
  have:rkT ops 0=0:=rfl
  rw [this,H.zero];exact ⟨fun _ _=>rfl,rfl⟩
 | j+1,hj=>by
  obtain ⟨ih1,ih2⟩:=Tr.out (j:=j) (by omega)
  obtain ⟨o,ho,h1,h2,h3⟩:=H.oper (show j<ops.size by omega)
  cases ht:truB ops j with
  | true=>rw [H.tk j (by omega) ht];exact ⟨fun _ _=>rfl,rfl⟩
  | false =>
   rw [Tr.rk (by omega) ht]
   have hset:∀ q,Ss (j+1)=(Ss j).set (base+j) q→(∀ x,(x<base∨base+ops.size≤x)→(Ss (j+1)).heap.get x=(Tk (rkT ops j)).heap.get x)∧(Ss (j+1)).next=(Tk (rkT ops j)).next:=fun q e=>by
    rw [e]
    refine ⟨fun x hx=>?_,ih2⟩
    show ((Ss j).heap.set (base+j) q).get x=_
    rw [Tri.get_set,if_neg (by omega)];exact ih1 x hx
   cases h3 with
   | made _ _ _ _ _ _ hs=>exact hset _ hs
   | unmade _ _ _ _ hs=>exact hset _ hs
   | eff hf he _ _ _=>rw [h1] at ht;simp [isTrue,hf,he] at ht
   | quiet _ _ _ _ hs=>rw [hs];exact ⟨ih1,ih2⟩
def Tr.cur (_:Tr P X ih n ops A base Es Ss Tk vs cs)(k q:Nat):Option AO:=if rkT ops q<k then (Tk k).heap.get (base+q) else some (cs q)
theorem Tr.made_get {q:Nat}(hq:q<ops.size)(hf:fresB ops q=true):(Ss (q+1)).heap.get (base+q)=some (cs q):=by
 obtain ⟨o,ho,h1,h2,h3⟩:=H.oper hq
 rw [h2] at hf
 have key:∀ c,Ss (q+1)=(Ss q).set (base+q) c→(Ss (q+1)).heap.get (base+q)=some (cs q):=fun c e=>by
  have:(Ss (q+1)).heap.get (base+q)=some c:=by
   rw [e];show ((Ss q).heap.set (base+q) c).get (base+q)=_;rw [Tri.get_set,if_pos rfl]
  rw [H.cs,this];rfl
 cases h3 with
 | made _ _ _ _ _ _ hs=>exact key _ hs
 | unmade _ _ _ _ hs=>exact key _ hs
 | eff hf' _ _ _ _=>rw [hf] at hf';cases hf'
 | quiet hf' _ _ _ _=>rw [hf] at hf';cases hf'
theorem Tr.fresh_true {q:Nat}(hq:q<ops.size)(hf:fresB ops q=true):truB ops q=false:=by
 obtain ⟨o,ho,h1,h2,h3⟩:=H.oper hq
 rw [h1];rw [h2] at hf;simp [isTrue,hf]
theorem Tr.curs:∀ {j:Nat},j≤ops.size→∀ q,q<j→fresB ops q=true→(Ss j).heap.get (base+q)=H.cur (rkT ops j) q
 | 0,_,q,hq,_=>by omega
 | j+1,hj,q,hq,hf=>by
  obtain ⟨o,ho,h1,h2,h3⟩:=H.oper (show j<ops.size by omega)
  cases ht:truB ops j with
  | true =>
   have hle:rkT ops q≤rkT ops j:=rkT_le (by omega)
   have hs:rkT ops (j+1)=rkT ops j+1:=by rw [rkT_succ,ht,if_pos rfl]
   unfold Tr.cur
   rw [if_pos (by omega),H.tk j (by omega) ht]
  | false =>
   rw [Tr.rk (by omega) ht]
   by_cases e:q=j
   ·
    subst e
    rw [H.made_get (by omega) hf]
    unfold Tr.cur;rw [if_neg (by omega)]
   ·
    have ihq:=Tr.curs (j:=j) (by omega) q (by omega) hf
    have key:∀ c,Ss (j+1)=(Ss j).set (base+j) c→(Ss (j+1)).heap.get (base+q)=H.cur (rkT ops j) q:=fun c e'=>by
     rw [e'];show ((Ss j).heap.set (base+j) c).get (base+q)=_;rw [Tri.get_set,if_neg (by omega)];exact ihq
    cases h3 with
    | made _ _ _ _ _ _ hs=>exact key _ hs
    | unmade _ _ _ _ hs=>exact key _ hs
    | eff hf he _ _ _=>rw [h1] at ht;simp [isTrue,hf,he] at ht
    | quiet _ _ _ _ hs=>rw [hs];exact ihq
theorem Tr.kept:∀ {j:Nat},j≤ops.size→∀ q,q<j→fresB ops q=true→(∀ e,q<e→e<j→truB ops e=true→ancB A e q=false)→(Ss j).heap.get (base+q)=some (cs q)
 | 0,_,q,hq,_,_=>by omega
 | j+1,hj,q,hq,hf,hno=>by
  by_cases e:q=j
  ·subst e;exact H.made_get (by omega) hf
  ·
   have ihq:=Tr.kept (j:=j) (by omega) q (by omega) hf (fun e h1 h2=>hno e h1 (by omega))
   obtain ⟨o,ho,h1,h2,h3⟩:=H.oper (show j<ops.size by omega)
   have key:∀ c,Ss (j+1)=(Ss j).set (base+j) c→(Ss (j+1)).heap.get (base+q)=some (cs q):=fun c e'=>by
    rw [e'];show ((Ss j).heap.set (base+j) c).get (base+q)=_;rw [Tri.get_set,if_neg (by omega)];exact ihq
   cases h3 with
   | made _ _ _ _ _ _ hs=>exact key _ hs
   | unmade _ _ _ _ hs=>exact key _ hs
   | eff hf' he s1 _ hs =>
    have ht:truB ops j=true:=by rw [h1];simp [isTrue,hf',he]
    have hn:=hno j (by omega) (by omega) ht
    rw [hs]
    show (showH base (Ss j).heap s1.heap (hidL ops A j)).get (base+q)=_
    have hm:q∈hidL ops A j:=mem_hidL.2 ⟨by omega,hf,hn⟩
    rw [showH_get,if_pos ⟨q,hm,rfl⟩,ihq];rfl
   | quiet _ _ _ _ hs=>rw [hs];exact ihq
theorem Tr.kept' {q k:Nat}(hq:q<ops.size)(hf:fresB ops q=true)(hk:k≤rkT ops ops.size)(hno:∀ e,e<ops.size→truB ops e=true→rkT ops e<k→ancB A e q=false):H.cur k q=some (cs q):=by
 unfold Tr.cur
 split
 ·
  rename_i hlt
  obtain ⟨e,h1,h2,h3⟩:=rk_find (ops:=ops) (j:=ops.size) (k:=k - 1) (by omega)
  have hs:rkT ops (e+1)=rkT ops e+1:=by rw [rkT_succ,h2,if_pos rfl]
  have hke:k=rkT ops (e+1):=by omega
  rw [hke,H.tk e h1 h2]
  have hqe:q<e+1:=by
   rcases Nat.lt_or_ge q (e+1) with h | h
   ·exact h
   ·have:=rkT_le (ops:=ops) h;omega
  refine H.kept (by omega) q hqe hf fun e' h4 h5 h6=>hno e' (by omega) h6 ?_
  have:rkT ops (e'+1)≤rkT ops (e+1):=rkT_le (by omega)
  have hs':rkT ops (e'+1)=rkT ops e'+1:=by rw [rkT_succ,h6,if_pos rfl]
  omega
 ·rfl
end tr
def BD (ops:Array Oper)(cs:Nat→AO)(base:Nat)(B:List Nat)(done:Nat→Bool):List Nat:=B++((List.range ops.size).filter fun q=>!(fresB ops q&&(cs q).live&&done q)).map (base+·)
theorem mem_BD {cs:Nat→AO}{done:Nat→Bool}{x:Nat}:x∈BD ops cs base B done↔x∈B∨∃ q,q<ops.size∧(fresB ops q&&(cs q).live&&done q)=false∧base+q=x:=by
 unfold BD
 rw [List.mem_append]
 constructor
 ·
  rintro (h | h)
  ·exact .inl h
  ·
   obtain ⟨q,h1,h2⟩:=List.mem_map.1 h
   obtain ⟨h3,h4⟩:=List.mem_filter.1 h1
   exact .inr ⟨q,List.mem_range.1 h3,(by generalize (fresB ops q&&(cs q).live&&done q)=b at h4 ⊢;cases b with | false=>rfl | true=>cases h4),h2⟩
 ·
  rintro (h | ⟨q,h1,h2,h3⟩)
  ·exact .inl h
  ·exact .inr (List.mem_map.2 ⟨q,List.mem_filter.2 ⟨List.mem_range.2 h1,by rw [h2];rfl⟩,h3⟩)
structure JW (P:Program)(vr:Nat→Int)(σ:Nm)(w0:World)(M B:List Nat)(ops:Array Oper)(base:Nat)(Tk:Nat→St)(cs:Nat→AO)(cur:Nat→Nat→Option AO)(ms:List Nat)(done:Nat→Bool)(sD:St)(w:World):Prop where
  wr:WR P vr σ w0 M (BD ops cs base B done) sD w
  next:sD.next=(Tk (cntT ops done)).next
  ms:sD.ms=ms
  out:∀ x,(x<base∨base+ops.size≤x)→sD.heap.get x=(Tk (cntT ops done)).heap.get x
  fr:∀ q,q<ops.size→fresB ops q=true→done q=true→sD.heap.get (base+q)=cur (cntT ops done) q
  nm:∀ q,q<ops.size→fresB ops q=true→done q=true→(cs q).live=true→(σ (base+q)).isSome=true
section jw
variable {Es : Nat → En} {Ss Tk : Nat → St} {vs : Nat → SV} {cs : Nat → AO} (H : Tr P X ih n ops (ancs ops.toList []) base Es Ss Tk vs cs) (hD : DOk ops (ancs ops.toList [])) {done : Nat → Bool} {i : Nat} {ms : List Nat} {sD : St}
theorem BD_eq {done':Nat→Bool}(h:∀ q,q<ops.size→(fresB ops q&&(cs q).live&&done' q)=(fresB ops q&&(cs q).live&&done q)):BD ops cs base B done'=BD ops cs base B done:=by
 unfold BD
 congr 2
 apply List.filter_congr
 intro q hq
 rw [h q (List.mem_range.1 hq)]
include H hD
theorem jw_eff (hc:Up ops done)(hi:i<ops.size)(he:truB ops i=true)(hdi:done i=false)(hdeps:∀ (o:Oper),ops[i]?=some o→∀ e,e∈o.after→Region.binds .any e=true→done e.on=true)
    (hJ:JW P vr σ w0 M B ops base Tk cs H.cur ms done sD w){s1:St}(hs:Ss (i+1)=⟨showH base (Ss i).heap s1.heap (hidL ops (ancs ops.toList []) i),s1.next,s1.ms⟩) :
    ∃ M',WR P vr σ w M' (BD ops cs base B done) ⟨hideH base (Ss i).heap (hidL ops (ancs ops.toList []) i),(Ss i).next,(Ss i).ms⟩ w ∧
      ∀ σ' w',σ.le σ'→WR P vr σ' w M' (BD ops cs base B done) s1 w'→∃ sD',JW P vr σ' w0 M B ops base Tk cs H.cur ms (fun m=>if m=i then true else done m) sD' w':=by
  obtain ⟨c1,c2⟩:=cntT_eff hD hc hi he hdi hdeps
  obtain ⟨o1,o2⟩:=H.out (Nat.le_of_lt hi)
  have hanc:∀ q,ancB (ancs ops.toList []) i q=true→done q=true:=fun q h=>anc_done hD.back hc (i+1) i q (Nat.lt_succ_self i) h hdeps
  have hmemH:∀ q,q∈hidL ops (ancs ops.toList []) i↔q<ops.size∧fresB ops q=true∧ancB (ancs ops.toList []) i q=false:=fun q=>mem_hidL
  have hfi:fresB ops i=false:=by
    cases hf:fresB ops i with
    | false=>rfl
    | true=>have:=H.fresh_true hi hf;rw [he] at this;cases this
  have hname:∀ x,(x<base∨base+ops.size≤x)∨∃ q,q<ops.size∧x=base+q:=fun x=>by
    by_cases h:x<base∨base+ops.size≤x
    ·exact .inl h
    ·exact .inr ⟨x-base,by omega,by omega⟩
  have hlive:∀ {σ1:Nm} {t:St} {w1 w2:World} {M1:List Nat},WR P vr σ1 w1 M1 (BD ops cs base B done) t w2→∀ q p,q<ops.size→σ1 (base+q)=some p→fresB ops q=true∧(cs q).live=true∧done q=true:=fun hw q p hq hσ=>by
    cases hb:(fresB ops q&&(cs q).live&&done q) with
    | true=>simp only [Bool.and_eq_true] at hb;exact ⟨hb.1.1,hb.1.2,hb.2⟩
    | false =>
      have:=(hw.back (base+q) (mem_BD.2 (.inr ⟨q,hq,hb,rfl⟩))).2
      rw [hσ] at this;cases this
  obtain ⟨M',m1,m2⟩:=hJ.wr.loc (sh:=⟨hideH base (Ss i).heap (hidL ops (ancs ops.toList []) i),(Ss i).next,(Ss i).ms⟩) (by rw [hJ.next,c1];exact o2) (fun x p hσ=>by
    show dead ((hideH base (Ss i).heap (hidL ops (ancs ops.toList []) i)).get x)∨(hideH base (Ss i).heap (hidL ops (ancs ops.toList []) i)).get x=sD.heap.get x
    rw [hideH_get]
    split
    ·exact .inl dead_gone
    · rename_i hnh
      refine .inr ?_
      rcases hname x with hx | ⟨q,hq,rfl⟩
      ·rw [hJ.out x hx,c1];exact o1 x hx
      · obtain ⟨l1, l2, l3⟩ := hlive hJ.wr q p hq hσ
        have hq1:ancB (ancs ops.toList []) i q=true:=by
          cases hb:ancB (ancs ops.toList []) i q with
          | true=>rfl
          | false=>exact absurd ⟨q,(hmemH q).2 ⟨hq,l1,hb⟩,rfl⟩ hnh
        rw [hJ.fr q hq l1 l3,c1]
        exact H.curs (Nat.le_of_lt hi) q (anc_lt hD.back hq1) l1)
  refine ⟨M',m1,fun σ' w' hσ g=>?_⟩
  have hbd:BD ops cs base B (fun m=>if m=i then true else done m)=BD ops cs base B done:=BD_eq fun q hq=>by
    by_cases e:q=i
    ·subst e;rw [hfi];rfl
    ·simp [e]
  have hdone:∀ q,fresB ops q=true→(fun m=>if m=i then true else done m) q=true→done q=true:=fun q hf hd=>by
    have hne:q≠i:=fun e=>by rw [e,hfi] at hf;cases hf
    simpa [hne] using hd
  have hrk1:rkT ops (i+1)=rkT ops i+1:=by rw [rkT_succ,he,if_pos rfl]
  let h0:=hideH base sD.heap ((hidL ops (ancs ops.toList []) i).filter fun q=>!(done q))
  let sD':St:=⟨showH base h0 s1.heap (hidL ops (ancs ops.toList []) i),s1.next,ms⟩
  have h0get:∀ q,q∈hidL ops (ancs ops.toList []) i→h0.get (base+q)=if done q=true then sD.heap.get (base+q) else some .gone:=fun q hq=>by
    show (hideH base sD.heap _).get (base+q)=_
    rw [hideH_get]
    cases hd:done q with
    | true =>
      rw [if_pos rfl,if_neg]
      rintro ⟨q',h1,h2⟩
      have:q'=q:=by omega
      subst this
      have:=(List.mem_filter.1 h1).2
      rw [hd] at this;cases this
    | false =>
      rw [if_pos ⟨q,List.mem_filter.2 ⟨hq,by rw [hd];rfl⟩,rfl⟩];simp
  have hgetH:∀ q,q∈hidL ops (ancs ops.toList []) i→sD'.heap.get (base+q)=some (orGone (if done q=true then sD.heap.get (base+q) else some .gone)):=fun q hq=>by
    show (showH base h0 s1.heap _).get (base+q)=_
    rw [showH_get,if_pos ⟨q,hq,rfl⟩,h0get q hq]
  have hgetO:∀ x,(¬∃ q,q∈hidL ops (ancs ops.toList []) i∧base+q=x)→sD'.heap.get x=s1.heap.get x:=fun x hx=>by
    show (showH base h0 s1.heap _).get x=_
    rw [showH_get,if_neg hx]
  have hSs:∀ x,(Ss (i+1)).heap.get x=if ∃ q,q∈hidL ops (ancs ops.toList []) i∧base+q=x then some (orGone ((Ss i).heap.get x)) else s1.heap.get x:=fun x=>by
    rw [hs];exact showH_get
  refine ⟨sD',?_,?_,rfl,fun x hx=>?_,fun q hq hf hd=>?_,fun q hq hf hd hl=>?_⟩
  · rw [hbd]
    refine hJ.wr.frame m2 g hσ rfl fun x p hσ'=>?_
    by_cases hx:∃ q,q∈hidL ops (ancs ops.toList []) i∧base+q=x
    · obtain ⟨q, hq, rfl⟩ := hx
      obtain ⟨q1,q2,q3⟩:=(hmemH q).1 hq
      rw [hgetH q hq]
      cases hd:done q with
      | false=>rw [if_neg (by simp)];exact .inl dead_gone
      | true =>
        rw [if_pos rfl]
        cases hg:sD.heap.get (base+q) with
        | none=>exact .inl dead_gone
        | some c =>
          refine .inr (.inr ⟨rfl,?_,?_⟩)
          · show dead ((hideH base (Ss i).heap _).get (base + q))
            rw [hideH_get,if_pos ⟨q,hq,rfl⟩];exact dead_gone
          · have hl := (hlive g q p q1 hσ').2.1
            exact hJ.nm q q1 q2 hd hl
    ·exact .inr (.inl (hgetO x hx))
  · show s1.next = _
    rw [c2,H.tk i hi he,hs]
  ·rw [hgetO x (by rintro ⟨q,hq,e⟩;have:=(hmemH q).1 hq;omega),c2,H.tk i hi he,hSs,if_neg (by rintro ⟨q,hq,e⟩;have:=(hmemH q).1 hq;omega)]
  · have hdq := hdone q hf hd
    have hcur1:q<i→H.cur (rkT ops (i+1)) q=(Ss (i+1)).heap.get (base+q):=fun hlt=>by
      have:rkT ops q≤rkT ops i:=rkT_le (by omega)
      unfold Tr.cur;rw [if_pos (by omega),H.tk i hi he]
    rw [c2]
    by_cases hh:q∈hidL ops (ancs ops.toList []) i
    · rw [hgetH q hh, if_pos hdq, hJ.fr q hq hf hdq, c1]
      by_cases hlt:q<i
      ·rw [hcur1 hlt,hSs,if_pos ⟨q,hh,rfl⟩,H.curs (Nat.le_of_lt hi) q hlt hf]
      · have hne : q ≠ i := fun e => by rw [e, hfi] at hf; cases hf
        have:rkT ops (i+1)≤rkT ops q:=rkT_le (by omega)
        unfold Tr.cur
        rw [if_neg (by omega),if_neg (by omega)];rfl
    · have hq1 : ancB (ancs ops.toList []) i q = true := by
        cases hb:ancB (ancs ops.toList []) i q with
        | true=>rfl
        | false=>exact absurd ((hmemH q).2 ⟨hq,hf,hb⟩) hh
      have hno:¬∃ q',q'∈hidL ops (ancs ops.toList []) i∧base+q'=base+q:=by
        rintro ⟨q',h1,h2⟩
        have:q'=q:=by omega
        subst this;exact hh h1
      rw [hgetO _ hno,hcur1 (anc_lt hD.back hq1),hSs,if_neg hno]
  · have := hJ.nm q hq hf (hdone q hf hd) hl
    cases hq':σ (base+q) with
    | none=>rw [hq'] at this;cases this
    | some p=>rw [hσ _ _ hq'];rfl
theorem jw_made (hc:Up ops done)(hi:i<ops.size)(hf:fresB ops i=true)(hdi:done i=false)(hJ:JW P vr σ w0 M B ops base Tk cs H.cur ms done sD w)(hl:(cs i).live=true){ob:Obj}(hB:∀ x,x∈B→x<base)
    (hor:OR P vr (σ.put (base+i) w.heap.size 0) 0 (cs i) ob):JW P vr (σ.put (base+i) w.heap.size 0) w0 M B ops base Tk cs H.cur ms (fun m=>if m=i then true else done m) (sD.set (base+i) (cs i)) (w.alloc ob):=by
  have hcnt:=cntT_quiet (done:=done) (H.fresh_true hi hf)
  have hget:∀ x,(sD.set (base+i) (cs i)).heap.get x=if base+i=x then some (cs i) else sD.heap.get x:=fun x=>Tri.get_set ..
  obtain ⟨hlt,h0⟩:=hJ.wr.back (base+i) (mem_BD.2 (.inr ⟨i,hi,by rw [hdi];simp,rfl⟩))
  refine ⟨hJ.wr.allocAt hl hlt h0 (fun x hx=>?_) hor,by rw [hcnt];exact hJ.next,hJ.ms,fun x hx=>?_,fun q hq hfq hd=>?_,fun q hq hfq hd hlq=>?_⟩
  · rcases mem_BD.1 hx with h | ⟨q, h1, h2, rfl⟩
    ·exact ⟨mem_BD.2 (.inl h),by have:=hB x h;omega⟩
    · have hne : q ≠ i := fun e => by subst e; rw [hf, hl] at h2; simp at h2
      refine ⟨mem_BD.2 (.inr ⟨q,h1,?_,rfl⟩),by omega⟩
      simpa [hne] using h2
  ·rw [hget,if_neg (by omega),hcnt];exact hJ.out x hx
  · rw [hget, hcnt]
    by_cases e:q=i
    · subst e
      rw [if_pos rfl]
      refine (H.kept' hq hfq cntT_le fun e h1 h2 h3=>?_).symm
      cases hb:ancB (ancs ops.toList []) e q with
      | false=>rfl
      | true =>
        have:=anc_done' hD.back hc (eff_done hD hc h1 h2 h3) hb
        rw [hdi] at this;cases this
    ·rw [if_neg (by omega)];exact hJ.fr q hq hfq (by simpa [e] using hd)
  · by_cases e : q = i
    ·subst e;rw [Nm.put_same];rfl
    · have := hJ.nm q hq hfq (by simpa [e] using hd) hlq
      unfold Nm.put;rw [if_neg (by omega)];exact this
theorem jw_unmade (hc:Up ops done)(hi:i<ops.size)(hf:fresB ops i=true)(hdi:done i=false)(hJ:JW P vr σ w0 M B ops base Tk cs H.cur ms done sD w)(hg:cs i=.gone) :
    JW P vr σ w0 M B ops base Tk cs H.cur ms (fun m=>if m=i then true else done m) (sD.set (base+i) .gone) w:=by
  have hcnt:=cntT_quiet (done:=done) (H.fresh_true hi hf)
  have hget:∀ x,(sD.set (base+i) .gone).heap.get x=if base+i=x then some .gone else sD.heap.get x:=fun x=>Tri.get_set ..
  have hbd:BD ops cs base B (fun m=>if m=i then true else done m)=BD ops cs base B done:=BD_eq fun q hq=>by
    by_cases e:q=i
    ·subst e;rw [hg,hf];simp [AO.live]
    ·simp [e]
  refine ⟨?_,by rw [hcnt];exact hJ.next,hJ.ms,fun x hx=>?_,fun q hq hfq hd=>?_,fun q hq hfq hd hlq=>?_⟩
  · rw [hbd]
    refine hJ.wr.ext rfl (fun x hx=>hx) fun x p hσ=>?_
    rw [hget]
    split
    ·exact .inl dead_gone
    ·exact .inr rfl
  ·rw [hget,if_neg (by omega),hcnt];exact hJ.out x hx
  · rw [hget, hcnt]
    by_cases e:q=i
    · subst e
      rw [if_pos rfl,←hg]
      refine (H.kept' hq hfq cntT_le fun e h1 h2 h3=>?_).symm
      cases hb:ancB (ancs ops.toList []) e q with
      | false=>rfl
      | true =>
        have:=anc_done' hD.back hc (eff_done hD hc h1 h2 h3) hb
        rw [hdi] at this;cases this
    ·rw [if_neg (by omega)];exact hJ.fr q hq hfq (by simpa [e] using hd)
  · have e : q ≠ i := fun e => by subst e; rw [hg] at hlq; cases hlq
    exact hJ.nm q hq hfq (by simpa [e] using hd) hlq
omit hD in
theorem jw_quiet (hi:i<ops.size)(hf:fresB ops i=false)(ht:truB ops i=false)(hJ:JW P vr σ w0 M B ops base Tk cs H.cur ms done sD w):JW P vr σ w0 M B ops base Tk cs H.cur ms (fun m=>if m=i then true else done m) sD w:=by
 have hcnt:=cntT_quiet (done:=done) ht
 have hbd:BD ops cs base B (fun m=>if m=i then true else done m)=BD ops cs base B done:=BD_eq fun q hq=>by
  by_cases e:q=i
  ·subst e;rw [hf];rfl
  ·simp [e]
 have hne:∀ q,fresB ops q=true→q≠i:=fun q hq e=>by rw [e,hf] at hq;cases hq
 exact ⟨by rw [hbd];exact hJ.wr,by rw [hcnt];exact hJ.next,hJ.ms,fun x hx=>by rw [hcnt];exact hJ.out x hx,fun q hq hfq hd=>by rw [hcnt];exact hJ.fr q hq hfq (by simpa [hne q hfq] using hd),fun q hq hfq hd hlq=>hJ.nm q hq hfq (by simpa [hne q hfq] using hd) hlq⟩
end jw
end draw
end Go.Acq.Vx
noncomputable section
namespace Go.Acq.Vx
open Go Go.Acq Go.RowKit
section draw
variable {P : Program} {vr : Nat → Int} {X : List (FuncId × XK)} {σ : Nm} {ρ : Option Nat} {w0 w : World} {M B : List Nat} {n : Nat} {ih : IH} {ops : Array Oper} {E E2 : En} {s s2 : St} {a : Act}
theorem looks_of {o:Op}{x:Nat}(h:blockOf E o=some x):looks o=true:=by cases o <;> first | rfl | (simp [blockOf] at h)
theorem runDraw_ok (hm:P.follows .mixedOrders=true)(hX:XsOk P X)(hF:SndF P vr ih)(hC:SndC P vr ih){id:Nat}{Q:Exit→Act→World→Prop}(hf:FA vr σ n E s.ms a)(hw:WR P vr σ w0 M B s w)(h:runDraw P X ih n ops E s=some (E2,s2))
    (hQ:∀ σ' a' w',σ.le σ'→FA vr σ' n E2 s2.ms a'→WR P vr σ' w0 M B s2 w'→Q .normal a' w'):(Code.region id ops true).wpIn (FW ρ) 0 P Q a w:=by
  unfold runDraw runDrawA at h
  rw [cond_eq_ite] at h
  split at h
  case isFalse=>cases h
  rename_i hdok
  have hD:=drawOk_ok hdok
  split at h
  case h_2=>cases h
  rename_i E3 s3 ss qs hrun
  rw [cond_eq_ite] at h
  split at h
  case isFalse=>cases h
  rename_i hqs
  injection h with h;injection h with e1 e2;subst e1;subst e2
  obtain ⟨Es,Ss,vs,g1,g2,g3,g4,g5,g6⟩:=runDs_trace (by simp) hrun
  rw [Nat.zero_add,Array.length_toList] at g3 g4
  simp only [Nat.zero_add,Array.length_toList] at g5 g6
  have hrk0:rkT ops 0=0:=rfl
  simp only [hrk0,Nat.sub_zero] at g6
  obtain ⟨Tk,hTk⟩:∃ Tk:Nat→St,∀ k,Tk k=((⟨s.heap,s.next+ops.size,s.ms⟩:St)::ss)[k]?.getD ⟨s.heap,s.next+ops.size,s.ms⟩:=⟨_,fun _=>rfl⟩
  let H:Tr P X ih n ops (ancs ops.toList []) s.next Es Ss Tk vs (fun q=>orGone ((Ss (q+1)).heap.get (s.next+q))) :=
    ⟨fun j o hj ho=>⟨(g5 j o (by omega) hj ho).1,(g5 j o (by omega) hj ho).2.1⟩,by rw [hTk,g2];rfl,fun j hj ht=>by rw [hTk,g6 j (by omega) hj ht];rfl,fun q=>rfl⟩
  have hlist:∀ k,k≤rkT ops ops.size→((⟨s.heap,s.next+ops.size,s.ms⟩:St)::ss)[k]?=some (Tk k):=by
    intro k hk
    by_cases h0:k=0
    ·subst h0;rw [hTk];rfl
    · obtain ⟨e, h1, h2, h3⟩ := rk_find (ops := ops) (j := ops.size) (k := k - 1) (by omega)
      have hs:rkT ops (e+1)=rkT ops e+1:=by rw [rkT_succ,h2,if_pos rfl]
      have:=g6 e (by omega) h1 h2
      rw [show rkT ops (e+1)=k by omega] at this
      rw [hTk,this];rfl
  have hEnot:∀ t i,(∀ (j:Nat) (o:Oper),ops[j]?=some o→o.dst=some t→i≤j)→i≤ops.size→fnd t (Es i)=fnd t E:=by
    intro t i
    induction i with
    | zero=>intro _ _;rw [g1]
    | succ i ihh =>
      intro ht hi
      have ihh:=ihh fun j o h1 h2=>by have:=ht j o h1 h2;omega
      have hlt:i<ops.size:=by omega
      have ho:ops[i]?=some ops[i]:=Array.getElem?_eq_getElem hlt
      obtain ⟨_,k2,_⟩:=g5 i _ (by omega) hlt ho
      rw [k2]
      cases hd:ops[i].dst with
      | none=>exact ihh (by omega)
      | some d =>
        show fnd t ((d,vs i)::Es i)=_
        rw [fnd_cons,if_neg (fun e=>by have:=ht i _ ho (by rw [hd,e]);omega)]
        exact ihh (by omega)
  have hEdst:∀ (j:Nat) (o:Oper) (t:Nat),ops[j]?=some o→o.dst=some t→∀ i,j<i→i≤ops.size→fnd t (Es i)=some (vs j):=by
    intro j o t hoj hdj i
    induction i with
    | zero=>intro h;omega
    | succ i ihh =>
      intro hji hi
      have hlt:i<ops.size:=by omega
      have ho:ops[i]?=some ops[i]:=Array.getElem?_eq_getElem hlt
      obtain ⟨_,k2,_⟩:=g5 i _ (by omega) hlt ho
      rw [k2]
      by_cases e:j=i
      · subst e
        rw [ho] at hoj;injection hoj with hoj
        rw [hoj,hdj]
        show fnd t ((t,vs j)::Es j)=_
        rw [fnd_cons,if_pos rfl]
      · cases hd : ops[i].dst with
        | none=>exact ihh (by omega) (by omega)
        | some d =>
          show fnd t ((d,vs i)::Es i)=_
          rw [fnd_cons,if_neg (fun e'=>e (hD.uniq j i o _ t hoj ho hdj (by rw [hd,e'])))]
          exact ihh (by omega) (by omega)
  have hms:∀ i,i≤ops.size→(Ss i).ms=s.ms:=by
    intro i
    induction i with
    | zero=>intro _;rw [g2]
    | succ i ihh =>
      intro hi
      have hlt:i<ops.size:=by omega
      obtain ⟨k1,_,_⟩:=g5 i _ (by omega) hlt (Array.getElem?_eq_getElem hlt)
      rw [k1.ms];exact ihh (by omega)
  have hB:∀ x,x∈B→x<s.next:=fun x hx=>(hw.back x hx).1
  let J:(Nat→Bool)→Act→World→Prop:=fun done a w=>∃ σ',σ.le σ'∧Up ops done∧a.tmps.size=n∧(∃ bs,a.defers=bs.map mkD∧MsR σ' s.ms bs) ∧
    (∀ t v,(∀ (j:Nat) (o:Oper),ops[j]?=some o→o.dst=some t→done j=false)→fnd t E=some v→VR vr σ' v (a.tmps.getD t undef)) ∧
    (∀ (j:Nat) (o:Oper) (t:Nat),ops[j]?=some o→o.dst=some t→done j=true→VR vr σ' (vs j) (a.tmps.getD t undef)) ∧
    ∃ sD,JW P vr σ' w0 M B ops s.next Tk (fun q=>orGone ((Ss (q+1)).heap.get (s.next+q))) H.cur s.ms done sD w
  refine wpIn_region_any hm (Z8s (J:=J) hD.back ?_ ?_ ops.size (Array.replicate ops.size false) a _ (by simp) ?_ ?_)
  · -- a step
    rintro done i o a w ho hdi hdeps ⟨σ',hσ,hc,hsz,⟨bs,hbs,hmr⟩,hnot,hdst,sD,hJ⟩
    have hi:i<ops.size:=(Array.getElem?_eq_some_iff.1 ho).1
    have hdeps':∀ (o':Oper),ops[i]?=some o'→∀ e,e∈o'.after→Region.binds .any e=true→done e.on=true:=fun o' ho'=>by rw [ho] at ho';injection ho' with ho';subst ho';exact hdeps
    obtain ⟨v1,v2,v3⟩:=g5 i o (by omega) hi ho
    have htr:truB ops i=isTrue o.op:=by unfold truB;rw [ho]
    have hfr:fresB ops i=isFresh o.op:=by unfold fresB;rw [ho]
    have hfe:FE vr σ' n (restr (Es i) (readsO ops o)) a.tmps:=⟨hsz,fun t v hv=>by
      obtain ⟨r1,r2⟩:=fnd_restr hv
      by_cases hex:∃ (j:Nat) (p:Oper),ops[j]?=some p∧p.dst=some t
      · obtain ⟨j, p, hp, hpd⟩ := hex
        rcases hD.reads i j o p t ho hp hpd r1 with ⟨c1,c2⟩ | ⟨c1,c2⟩
        · have hdj := anc_done hD.back hc (i + 1) i j (Nat.lt_succ_self i) c2 hdeps'
          rw [hEdst j p t hp hpd i c1 (by omega)] at r2
          injection r2 with r2;subst r2
          exact hdst j p t hp hpd hdj
        · have hone : ∀ (j' : Nat) (p' : Oper), ops[j']? = some p' → p'.dst = some t → j' = j := fun j' p' hp' hpd' => hD.uniq j' j p' p t hp' hp hpd' hpd
          rw [hEnot t i (fun j' p' hp' hpd'=>by rw [hone j' p' hp' hpd'];omega) (by omega)] at r2
          refine hnot t v (fun j' p' hp' hpd'=>?_) r2
          rw [hone j' p' hp' hpd']
          cases hdj:done j with
          | false=>rfl
          | true=>have:=anc_done' hD.back hc hdj c2;rw [hdi] at this;cases this
      · have hno : ∀ (j : Nat) (p : Oper), ops[j]? = some p → p.dst ≠ some t := fun j p hp e => hex ⟨j, p, hp, e⟩
        rw [hEnot t i (fun j p hp e=>absurd e (hno j p hp)) (by omega)] at r2
        exact hnot t v (fun j p hp e=>absurd e (hno j p hp)) r2⟩
    have hclosed:Up ops (fun m=>if m=i then true else done m):=by
      intro j o' ho' hj e he hbe
      show (if e.on=i then true else done e.on)=true
      by_cases hei:e.on=i
      ·rw [if_pos hei]
      · rw [if_neg hei]
        by_cases hji:j=i
        ·subst hji;rw [ho] at ho';injection ho' with ho';subst ho';exact hdeps e he hbe
        · have hj' : done j = true := by simpa [hji] using hj
          exact hc j o' ho' hj' e he hbe
    have hdd:=v1.dst
    have fin:∀ σ'' x w' sD',σ'.le σ''→VR vr σ'' (vs i) x→JW P vr σ'' w0 M B ops s.next Tk (fun q=>orGone ((Ss (q+1)).heap.get (s.next+q))) H.cur s.ms (fun m=>if m=i then true else done m) sD' w' →
        J (fun m=>if m=i then true else done m) (a.put o.dst x) w':=by
      intro σ'' x w' sD' k1 k2 k4
      refine ⟨σ'',Nm.le_trans hσ k1,hclosed,?_,?_,fun t v hno hv=>?_,fun j p t hp hpd hdj=>?_,sD',k4⟩
      · cases o.dst with
        | none=>exact hsz
        | some d=>simpa [Act.put] using hsz
      · refine ⟨bs, ?_, hmr.mono k1⟩
        cases o.dst with
        | none=>exact hbs
        | some d=>exact hbs
      · have hno' : ∀ (j : Nat) (p : Oper), ops[j]? = some p → p.dst = some t → done j = false := fun j p hp hpd => by
          have:=hno j p hp hpd
          by_cases e:j=i
          ·simp [e] at this
          ·simpa [e] using this
        cases hod:o.dst with
        | none=>exact (hnot t v hno' hv).mono k1
        | some d =>
          rw [hod] at hdd
          rw [put_getD hsz (blt_lt hdd),if_neg (fun e=>by have:=hno i o ho (by rw [hod,e]);simp at this)]
          exact (hnot t v hno' hv).mono k1
      · by_cases e : j = i
        · subst e
          rw [ho] at hp;injection hp with hp;subst hp
          rw [hpd] at hdd ⊢
          rw [put_getD hsz (blt_lt hdd),if_pos rfl]
          exact k2
        · have hdj' : done j = true := by simpa [e] using hdj
          cases hod:o.dst with
          | none=>exact (hdst j p t hp hpd hdj').mono k1
          | some d =>
            rw [hod] at hdd
            rw [put_getD hsz (blt_lt hdd),if_neg (fun e'=>e (hD.uniq j i p o t hp ho hpd (by rw [hod,e'])))]
            exact (hdst j p t hp hpd hdj').mono k1
    cases v1 with
    | made hff hd hwt cs t hv hs =>
      rw [hff] at hfr
      have hcs:orGone ((Ss (i+1)).heap.get (s.next+i))=.cells (putC .e 0 cs) (lenL cs) t false:=by
        rw [hs];show orGone (((Ss i).heap.set (s.next+i) _).get (s.next+i))=_;rw [Tri.get_set,if_pos rfl];rfl
      refine freshO_ok ho hfe hwt hv fun x A q1 q2 q3=>?_
      have h0:σ' (s.next+i)=none:=(hJ.wr.back _ (mem_BD.2 (.inr ⟨i,hi,by rw [hdi];simp,rfl⟩))).2
      have:=jw_made H hD hc hi hfr hdi hJ (by show AO.live _=true;rw [hcs];rfl) hB (ob:=.cells A t (0,0)) (by
        show OR P vr _ 0 (orGone ((Ss (i+1)).heap.get (s.next+i))) _
        rw [hcs];exact newC_or0 (q1.mono (Nm.le_put h0)) q2)
      exact fin _ x _ (sD.set (s.next+i) (orGone ((Ss (i+1)).heap.get (s.next+i)))) (Nm.le_put h0) (q3 _ Nm.put_same) this
    | unmade hff hd hwt hv hs =>
      rw [hff] at hfr
      have hcs:orGone ((Ss (i+1)).heap.get (s.next+i))=.gone:=by
        rw [hs];show orGone (((Ss i).heap.set (s.next+i) .gone).get (s.next+i))=_;rw [Tri.get_set,if_pos rfl];rfl
      refine skipO_ok ho hfe hwt ?_
      exact fin _ undef _ (sD.set (s.next+i) .gone) Nm.le_refl (by rw [hv];exact .und) (jw_unmade H hD hc hi hfr hdi hJ hcs)
    | eff hff he s1 hv hs =>
      have ht:truB ops i=true:=by rw [htr];simp [isTrue,hff,he]
      obtain ⟨M',m1,m2⟩:=jw_eff H hD hc hi ht hdi hdeps' hJ hs
      refine (valO_ok (ρ:=ρ) hX hF hC ho hfe m1 hv fun σ'' x w' k1 k2 k3=>?_).1
      obtain ⟨sD',k4⟩:=m2 σ'' w' k1 k3
      exact fin σ'' x w' sD' k1 k2 k4
    | quiet hff he h1 hv hs =>
      rw [hff] at hfr
      have ht:truB ops i=false:=by rw [htr];simp [isTrue,he]
      have hval:valO P X ih n ops o (restr (Es i) (readsO ops o)) sD=some (vs i,sD):=by
        rw [hs] at hv
        unfold valO at hv ⊢
        simp only [hdd,cond_true] at hv ⊢
        cases hwt:wantS ops (restr (Es i) (readsO ops o)) o.guard with
        | none=>rw [hwt] at hv;cases hv
        | some b =>
          rw [hwt] at hv
          cases b with
          | false=>simp only at hv ⊢;injection hv with hv;injection hv with hv _;rw [hv]
          | true =>
            simp only [he,cond_false] at hv ⊢
            have hpv:pureV P (restr (Es i) (readsO ops o)) (Ss i) o.op=some (vs i):=by
              split at hv
              · rename_i v' hpv
                injection hv with hv;injection hv with hv _;rw [←hv];exact hpv
              ·cases hv
            have hpure:pureV P (restr (Es i) (readsO ops o)) sD o.op=some (vs i):=by
              cases hbo:blockOf (restr (Es i) (readsO ops o)) o.op with
              | none=>rw [pureV_same (s2:=Ss i) (fun x hx=>by rw [hbo] at hx;cases hx)];exact hpv
              | some x =>
                have hsees:=h1
                unfold seesOk at hsees
                rw [hbo] at hsees
                simp only [Bool.or_eq_true,Bool.and_eq_true] at hsees
                have hsq:=List.all_eq_true.1 hqs _ (v3 he (looks_of hbo))
                unfold sameQ at hsq
                rw [ho] at hsq
                simp only [hbo,hwt,Bool.or_eq_true,Bool.and_eq_true] at hsq
                obtain ⟨w1,w2⟩:=cntT_window hD hc hi hdi hdeps'
                have hown:∀ q,q<ops.size→x=s.next+q→fresB ops q=true∧done q=true∧q<i:=fun q hq e=>by
                  rcases hsees with (h | h) | h
                  ·have:=blt_lt h;omega
                  ·have:=Nat.le_of_ble_eq_true h;omega
                  · rw [show x - s.next = q by omega] at h
                    exact ⟨h.1,anc_done hD.back hc (i+1) i q (Nat.lt_succ_self i) h.2 hdeps',anc_lt hD.back h.2⟩
                rcases hsq with ⟨e1,e2⟩ | hall
                · have e1 := Nat.eq_of_beq_eq_true e1
                  have e2:=Nat.eq_of_beq_eq_true e2
                  have hk:cntT ops done=rkT ops i:=by omega
                  rw [pureV_same (s2:=Ss i) (fun y hy=>by
                    rw [hbo] at hy;injection hy with hy;subst hy
                    by_cases hx:x<s.next∨s.next+ops.size≤x
                    ·rw [hJ.out x hx,hk];exact ((H.out (Nat.le_of_lt hi)).1 x hx).symm
                    · obtain ⟨k1, k2, k3⟩ := hown (x - s.next) (by omega) (by omega)
                      have:=hJ.fr (x-s.next) (by omega) k1 k2
                      rw [show s.next+(x-s.next)=x by omega,hk] at this
                      rw [this]
                      have:=H.curs (Nat.le_of_lt hi) (x-s.next) k3 k1
                      rw [show s.next+(x-s.next)=x by omega] at this
                      exact this.symm)]
                  exact hpv
                · have hmemk : cntT ops done ∈ (List.range (hiT ops (ancs ops.toList []) i + 1)).drop (loT ops (ancs ops.toList []) i) := by
                    apply List.mem_of_getElem? (i:=cntT ops done-loT ops (ancs ops.toList []) i)
                    rw [List.getElem?_drop,show loT ops (ancs ops.toList []) i+(cntT ops done-loT ops (ancs ops.toList []) i)=cntT ops done by omega,List.getElem?_range (by omega)]
                  have hk:=List.all_eq_true.1 hall _ hmemk
                  rw [hlist _ cntT_le] at hk
                  simp only at hk
                  split at hk
                  · rename_i u hu
                    simp only [Bool.and_eq_true] at hk
                    have:=SV.beq_eq hk.1
                    subst this
                    rw [pureV_same (s2:=Tk (cntT ops done)) (fun y hy=>by
                      rw [hbo] at hy;injection hy with hy;subst hy
                      by_cases hx:x<s.next∨s.next+ops.size≤x
                      ·exact hJ.out x hx
                      · obtain ⟨k1, k2, k3⟩ := hown (x - s.next) (by omega) (by omega)
                        have:=hJ.fr (x-s.next) (by omega) k1 k2
                        rw [show s.next+(x-s.next)=x by omega] at this
                        rw [this]
                        have hl:=hk.2
                        unfold lateOk at hl
                        simp only [Bool.or_eq_true] at hl
                        have hlt:rkT ops (x-s.next)<cntT ops done:=by
                          rcases hl with (hl | hl) | hl
                          ·have:=blt_lt hl;omega
                          ·have:=Nat.le_of_ble_eq_true hl;omega
                          ·exact blt_lt hl
                        unfold Tr.cur
                        rw [if_pos hlt,show s.next+(x-s.next)=x by omega])]
                    exact hu
                  ·cases hk
            rw [hpure]
      refine (valO_ok (ρ:=ρ) hX hF hC ho hfe hJ.wr hval fun σ'' x w' k1 k2 k3=>?_).1
      refine fin σ'' x w' sD k1 k2 (jw_quiet H hi hfr ht ⟨k3,hJ.next,hJ.ms,hJ.out,hJ.fr,fun q hq hfq hd hl=>?_⟩)
      have:=hJ.nm q hq hfq hd hl
      cases hq':σ' (s.next+q) with
      | none=>rw [hq'] at this;cases this
      | some p=>rw [k1 _ _ hq'];rfl
  · -- the end
    rintro done a w hall ⟨σ',hσ,hc,hsz,⟨bs,hbs,hmr⟩,hnot,hdst,sD,hJ⟩
    have hcnt:cntT ops done=rkT ops ops.size:=by
      unfold cntT rkT
      apply List.countP_congr
      intro j hj
      rw [hall j (List.mem_range.1 hj)];simp
    refine hQ σ' a w hσ ⟨⟨hsz,fun t v hv=>?_⟩,bs,hbs,by rw [←g4,hms _ (Nat.le_refl _)];exact hmr⟩ ?_
    · rw [← g3] at hv
      by_cases hex:∃ (j:Nat) (p:Oper),ops[j]?=some p∧p.dst=some t
      · obtain ⟨j, p, hp, hpd⟩ := hex
        have hj:j<ops.size:=(Array.getElem?_eq_some_iff.1 hp).1
        rw [hEdst j p t hp hpd ops.size hj (Nat.le_refl _)] at hv
        injection hv with hv;subst hv
        exact hdst j p t hp hpd (hall j hj)
      · have hno : ∀ (j : Nat) (p : Oper), ops[j]? = some p → p.dst ≠ some t := fun j p hp e => hex ⟨j, p, hp, e⟩
        rw [hEnot t ops.size (fun j p hp e=>absurd e (hno j p hp)) (Nat.le_refl _)] at hv
        exact hnot t v (fun j p hp e=>absurd e (hno j p hp)) hv
    · rw [← g4]
      obtain ⟨o1,o2⟩:=H.out (Nat.le_refl ops.size)
      refine hJ.wr.ext (by rw [hJ.next,hcnt];exact o2) (fun x hx=>mem_BD.2 (.inl hx)) fun x p hp=>.inr ?_
      by_cases hx:x<s.next∨s.next+ops.size≤x
      ·rw [hJ.out x hx,hcnt];exact o1 x hx
      · have hq : x - s.next < ops.size := by omega
        have hxe:s.next+(x-s.next)=x:=by omega
        have hfl:fresB ops (x-s.next)=true:=by
          cases hb:fresB ops (x-s.next) with
          | true=>rfl
          | false =>
            have:=(hJ.wr.back x (mem_BD.2 (.inr ⟨x-s.next,hq,by rw [hb];rfl,hxe⟩))).2
            rw [hp] at this;cases this
        have h1:=hJ.fr (x-s.next) hq hfl (hall _ hq)
        have h2:=H.curs (Nat.le_refl ops.size) (x-s.next) hq hfl
        rw [hxe,hcnt] at h1
        rw [hxe] at h2
        rw [h1,h2]
  · have : ((List.range ops.size).filter (fun i => !(Array.replicate ops.size false).getD i true)).length ≤ (List.range ops.size).length := List.length_filter_le _ _
    simpa using this
  · have hfn : (fun q => (Array.replicate ops.size false).getD q false) = fun _ => false := by
      funext q
      simp only [Array.getD_eq_getD_getElem?,Array.getElem?_replicate]
      split <;> rfl
    show J (fun q=>(Array.replicate ops.size false).getD q false) a _
    rw [hfn]
    have hcnt:cntT ops (fun _=>false)=0:=by unfold cntT;rw [List.countP_eq_zero];intro j _;simp
    refine ⟨σ,Nm.le_refl,fun i o _ h=>by simp at h,hf.fe.size,hf.df,fun t v _ hv=>hf.fe.get t v hv,fun j o t _ _ h=>by simp at h,⟨s.heap,s.next+ops.size,s.ms⟩,?_,?_,rfl,fun x hx=>?_,fun q _ _ h=>(by cases h),fun q _ _ h=>(by cases h)⟩
    · have hd := hw.drew
      refine ⟨hd.os,hd.tape,hd.output,hd.size,hd.keep,hd.own,hd.low,hd.inj,fun i hi=>hd.fresh i (Nat.le_trans (Nat.le_add_right _ _) hi),fun x hx=>?_⟩
      rcases mem_BD.1 hx with h | ⟨q,h1,_,rfl⟩
      · obtain ⟨k1, k2⟩ := hd.back x h
        exact ⟨by show x<s.next+ops.size;omega,k2⟩
      ·exact ⟨by show s.next+q<s.next+ops.size;omega,hd.fresh _ (Nat.le_add_right _ _)⟩
    ·rw [hcnt,H.zero,g2]
    ·rw [hcnt,H.zero,g2]
end draw
end Go.Acq.Vx
noncomputable section
namespace Go.Acq.Vx
open Go Go.Acq Go.RowKit
def LW (ρ:Option Nat)(P:Program)(c:Code)(Q:Exit→Act→World→Prop)(a:Act)(w:World):Prop :=
  ∀ (b:Frame) (k:List Item) (cs:List Frame),b.roundOf=(FW ρ).round→(FW ρ).fn b.fn→(FW ρ).room (cs.length+1+0) →
    ∃ e a' w',Q e a' w'∧ArrivesIn (Machine.fenced P (FW ρ)) P (lone (b.atR a (.code c::.inLoop c::k)) cs w) b k cs e a' w'
theorem LW.wpIn {ρ:Option Nat}{P:Program}{c:Code}{Q:Exit→Act→World→Prop}{a:Act}{w:World}(h:LW ρ P c Q a w):(Code.loop c).wpIn (FW ρ) 0 P Q a w:=by
 intro b k cs hro hb hr
 obtain ⟨e,a',w',hq,harr⟩:=h b k cs hro hb hr
 exact ⟨e,a',w',hq,.of_steps (.one (fenced_calm hb hr rfl) stepR_loop) harr⟩
theorem LW.of {ρ:Option Nat}{P:Program}{c:Code}{Q:Exit→Act→World→Prop}{a:Act}{w:World}(h:c.wpIn (FW ρ) 0 P (Exit.then (LW ρ P c Q) Q) a w):LW ρ P c Q a w:=by
 intro b k cs hro hb hr
 obtain ⟨e,a₁,w₁,hq,harr⟩:=h b (.inLoop c::k) cs hro hb hr
 cases e with
 | normal =>
  obtain ⟨e₂,a₂,w₂,hq₂,harr₂⟩:=hq b k cs hro hb hr
  exact ⟨e₂,a₂,w₂,hq₂,.of_steps (StepsIn.trans harr (.one (fenced_calm hb hr rfl) stepR_inLoop)) harr₂⟩
 | exit id=>exact ⟨_,a₁,w₁,hq,.pass (x:=.inLoop c) rfl (fun _ _=>.inl (by simp)) harr⟩
 | goto l=>exact ⟨_,a₁,w₁,hq,.pass (x:=.inLoop c) rfl (fun _ _=>.inl (by simp)) harr⟩
 | ret=>exact ⟨_,a₁,w₁,hq,.pass (x:=.inLoop c) rfl (fun _ _=>.inl (by simp)) harr⟩
 | panic ch=>exact ⟨_,a₁,w₁,hq,.pass (x:=.inLoop c) rfl (fun _ _=>.inl (by simp)) harr⟩
 | outgrown=>exact ⟨_,a₁,w₁,hq,.pass (x:=.inLoop c) rfl (fun _ _=>.inl (by simp)) harr⟩
def SndL (P:Program)(vr:Nat→Int)(ih:IH):Prop:=∀ n top c E s x E' s',ih.code n top (.loop c) E s=some (x,E',s')→∀ ρ σ w0 M B a w (Q:Exit→Act→World→Prop),(top=true→ρ=none)→FA vr σ n E s.ms a→WR P vr σ w0 M B s w →
  (∀ σ' a' w',σ.le σ'→FA vr σ' n E' s'.ms a'→WR P vr σ' w0 M B s' w'→Q (exQ x) a' w')→LW ρ P c Q a w
section code
variable {P : Program} {vr : Nat → Int} {X : List (FuncId × XK)} {σ : Nm} {ρ : Option Nat} {w0 w : World} {M B : List Nat} {n : Nat} {ih : IH} {E E' : En} {s s' : St} {a : Act} {top : Bool}
theorem FA.weak {E1:En}{ms:List Nat}(h:FA vr σ n E ms a)(hE:∀ t v,fnd t E1=some v→fnd t E=some v):FA vr σ n E1 ms a:=⟨⟨h.fe.size,fun t v ht=>h.fe.get t v (hE t v ht)⟩,h.df⟩
theorem fnd_ded:∀ {E:En} {seen:List Nat} {t:Nat} {v:SV},fnd t (ded E seen)=some v→t∉seen∧fnd t E=some v
 | [],seen,t,v,h=>by simp [ded,fnd] at h
 | (d,u)::E,seen,t,v,h=>by
  simp only [ded] at h
  cases hs:seen.any (Nat.beq d) with
  | true =>
   rw [hs] at h
   obtain ⟨h1,h2⟩:=fnd_ded h
   refine ⟨h1,?_⟩
   rw [fnd_cons,if_neg]
   ·exact h2
   ·rintro rfl;exact h1 (any_beq.1 hs)
  | false =>
   rw [hs] at h
   simp only [cond_false,fnd_cons] at h ⊢
   by_cases e:d=t
   ·
    subst e
    rw [if_pos rfl] at h ⊢
    exact ⟨fun hm=>(by rw [any_beq.2 hm] at hs;cases hs),h⟩
   ·
    rw [if_neg e] at h ⊢
    obtain ⟨h1,h2⟩:=fnd_ded h
    exact ⟨fun hm=>h1 (.tail _ hm),h2⟩
def CS (P:Program)(vr:Nat→Int)(X:List (FuncId×XK))(ih:IH)(ρ:Option Nat)(w0:World)(M B:List Nat)(n:Nat)(top:Bool)(c:Code):Prop:=∀ E s x E' s' σ a w (Q:Exit→Act→World→Prop),codeS P X ih n top c E s=some (x,E',s')→FA vr σ n E s.ms a→WR P vr σ w0 M B s w →
  (∀ σ' a' w',σ.le σ'→FA vr σ' n E' s'.ms a'→WR P vr σ' w0 M B s' w'→Q (exQ x) a' w')→c.wpIn (FW ρ) 0 P Q a w
theorem loop_ok (hL:SndL P vr ih)(htop:top=true→ρ=none){c:Code}(hc:CS P vr X ih ρ w0 M B n top c){x:Ex}{Q:Exit→Act→World→Prop}(h:codeS P X ih n top (.loop c) E s=some (x,E',s'))(hf:FA vr σ n E s.ms a)(hw:WR P vr σ w0 M B s w)
    (hQ:∀ σ' a' w',σ.le σ'→FA vr σ' n E' s'.ms a'→WR P vr σ' w0 M B s' w'→Q (exQ x) a' w'):LW ρ P c Q a w:=by
  apply LW.of
  simp only [codeS] at h
  split at h
  · rename_i E1 s1 hb
    refine hc _ _ _ _ _ σ a w _ hb hf hw fun σ1 a1 w1 k1 k2 k3=>?_
    show LW ρ P c Q a1 w1
    exact hL _ _ _ _ _ _ _ _ h ρ σ1 w0 M B a1 w1 Q htop (k2.weak fun t v ht=>(fnd_ded ht).2) k3 fun σ2 a2 w2 j1 j2 j3=>hQ σ2 a2 w2 (Nm.le_trans k1 j1) j2 j3
  · rename_i r hne
    refine hc _ _ _ _ _ σ a w _ h hf hw fun σ1 a1 w1 k1 k2 k3=>?_
    cases x with
    | nor=>exact absurd h (fun e=>hne _ _ e)
    | ret=>exact hQ σ1 a1 w1 k1 k2 k3
    | exit id=>exact hQ σ1 a1 w1 k1 k2 k3
theorem range_ok (hF:SndF P vr ih)(hρ:ρ=none){y:Operand}{ps:Array Nat}{az bd:Code}{f:FuncId}{fa ca:List SV}{v:SV}{s3:St}{n2:Nat}{E2:En}{ps2:List Nat}{as2 bd2:Code}{x:Ex}{Q:Exit→Act→World→Prop}(hf:FA vr σ n E s.ms a)(hw:WR P vr σ w0 M B s w)
    (hy:ev E y=some (.fn f fa ca))(hc:ih.call f (fa++[.yld (s.new .mark).next]++ca) ⟨((s.new .mark).new (.loop n E ps.toList az bd .nor)).heap,((s.new .mark).new (.loop n E ps.toList az bd .nor)).next,[]⟩=some (v,s3))(hl:s3.heap.get (s.new .mark).next=some (.loop n2 E2 ps2 as2 bd2 x))
    (hQ:∀ σ' a' w',σ.le σ'→FA vr σ' n E (s.next::s.ms) a'→WR P vr σ' w0 M B ⟨s3.heap.set (s.new .mark).next .gone,s3.next,s.next::s.ms⟩ w'→Q (exQ x) a' w'):(Code.rangeFunc y ps az bd).wpIn (FW ρ) 0 P Q a w:=by
  subst hρ
  refine wpIn_rangeFunc fun fn _=>?_
  obtain ⟨fx,cx,h1,h2,h3⟩:=(hf.fe.ev hy).fn_inv
  obtain ⟨hcb,hcalls⟩:=hF _ _ _ _ _ hc rfl
  obtain ⟨bs,hbs,hmr⟩:=hf.df
  have hwa:=hw.alloc (o:=.mark) (ob:=.deferred (some [])) (r:=0) rfl .mark
  have hle1:σ.le (σ.put s.next w.heap.size 0):=Nm.le_put (hw.fresh _ (Nat.le_refl _))
  have hsz:(w.alloc (.deferred (some []))).heap.size=w.heap.size+1:=World.size_alloc ..
  have hwb:=hwa.alloc (o:=.loop n E ps.toList az bd .nor) (ob:=.loop { state:=.ready,pending:=none,fn:=fn,tmps:=a.tmps,params:=ps.toList.toArray,assign:=az,body:=bd,defers:=w.heap.size }) (r:=0) rfl
    (OR.loop (x:=.nor) ((hf.fe.mono hle1).mono (Nm.le_put (hwa.fresh _ (Nat.le_refl _)))))
  have hle2:(σ.put s.next w.heap.size 0).le ((σ.put s.next w.heap.size 0).put (s.new .mark).next (w.alloc (.deferred (some []))).heap.size 0):=Nm.le_put (hwa.fresh _ (Nat.le_refl _))
  have hle:=Nm.le_trans hle1 hle2
  rw [hsz] at hwb hle2 hle
  have hps:ps.toList.toArray=ps:=by simp
  rw [hps] at hwb
  obtain ⟨wb,hwbe⟩:∃ wb,(w.alloc (.deferred (some []))).alloc (.loop { state:=.ready,pending:=none,fn:=fn,tmps:=a.tmps,params:=ps,assign:=az,body:=bd,defers:=w.heap.size })=wb:=⟨_,rfl⟩
  rw [hwbe] at hwb
  refine ⟨w.heap.size+1,[mkD w.heap.size],wb,{ target:=.fn (.func f) cx.toArray,args:=fx.toArray.push (Value.func (.yield (w.heap.size+1)) #[] #[]) },
    wb,f,(fx++[Value.func (.yield (w.heap.size+1)) #[] #[]]++cx).toArray,wb,?_,?_,fun _ _=>trivial,?_,by simp [FW],?_⟩
  ·rw [←hwbe];exact run_enterLoop_outer ..
  · have h4 : ∀ v, a.eval (.const v) = v := fun _ => rfl
    simp [resolve,Deferred.ofValue,h1,h4]
  · show (callFunc f (fx.toArray.push (Value.func (.yield (w.heap.size + 1)) #[] #[]) ++ cx.toArray)).run P _ = _
    have:fx.toArray.push (Value.func (.yield (w.heap.size+1)) #[] #[])++cx.toArray=(fx++[Value.func (.yield (w.heap.size+1)) #[] #[]]++cx).toArray:=by apply Array.ext';simp
    rw [this]
    exact Ux hcb _ _
  · refine callsIn_FW.2 ?_
    have hargs:VRs vr ((σ.put s.next w.heap.size 0).put (s.new .mark).next (w.heap.size+1) 0) (fa++[.yld (s.new .mark).next]++ca) (fx++[Value.func (.yield (w.heap.size+1)) #[] #[]]++cx) :=
      ((h2.mono hle).append (.cons (.yld Nm.put_same) .nil)).append (h3.mono hle)
    refine Calls.mono (hcalls _ w0 M B _ _ hargs (hwb.ms [])) ?_
    rintro e w3 ⟨σ3,y3,j1,j2,j3,rfl⟩
    have hσl:=j1 _ _ (Nm.put_same (σ:=σ.put s.next w.heap.size 0) (i:=(s.new .mark).next) (b:=w.heap.size+1) (r:=0))
    obtain ⟨ob,q1,q2⟩:=j3.obj hl rfl hσl
    generalize hao:AO.loop n2 E2 ps2 as2 bd2 x=ao at q2
    cases q2 with
    | cells _ _ _ _=>cases hao
    | busy _=>cases hao
    | mark=>cases hao
    | gone=>cases hao
    | map _ _=>cases hao
    | loop hfe =>
      injection hao with b1 b2 b3 b4 b5 b6
      subst b1;subst b2;subst b3;subst b4;subst b5;subst b6
      rename_i fn3 tmps3 df3
      have hput:=j3.putObj hl rfl hσl (OR.gone (o:=.loop { state:=.exhausted,pending:=pdOf x,fn:=fn3,tmps:=tmps3,params:=ps2.toArray,assign:=as2,body:=bd2,defers:=df3 }))
      have hend:=run_endLoop (P:=P) q1 (by cases x <;> simp [stOf])
      have hlef:=Nm.le_trans hle j1
      have hmark:∃ r,σ3 s.next=some (w.heap.size,r):=⟨0,j1 _ _ (hle2 _ _ Nm.put_same)⟩
      have hfa:FA vr σ3 n E (s.next::s.ms) { a with defers:=[mkD w.heap.size]++a.defers }:=⟨hf.fe.mono hlef,w.heap.size::bs,by simp [hbs],hmark,hmr.mono hlef⟩
      have fin:=hQ σ3 _ _ hlef hfa (hput.ms (s.next::s.ms))
      cases x with
      | nor=>exact ⟨none,_,hend,fin⟩
      | ret=>exact ⟨some .ret,_,hend,wpIn_ret fin⟩
      | exit id=>exact ⟨some (.exit id),_,hend,wpIn_exit fin⟩
theorem codeS_ok (hm:P.follows .mixedOrders=true)(hX:XsOk P X)(hF:SndF P vr ih)(hC:SndC P vr ih)(hL:SndL P vr ih)(htop:top=true→ρ=none):∀ c:Code,CS P vr X ih ρ w0 M B n top c:=by
 intro c
 induction c with
 | skip=>intro E s x E' s' σ a w Q h hf hw hQ;simp [codeS] at h;obtain ⟨h1,h2,h3⟩:=h;subst h1;subst h2;subst h3;exact wpIn_skip (hQ σ a w Nm.le_refl hf hw)
 | ret=>intro E s x E' s' σ a w Q h hf hw hQ;simp [codeS] at h;obtain ⟨h1,h2,h3⟩:=h;subst h1;subst h2;subst h3;exact wpIn_ret (hQ σ a w Nm.le_refl hf hw)
 | exit id=>intro E s x E' s' σ a w Q h hf hw hQ;simp [codeS] at h;obtain ⟨h1,h2,h3⟩:=h;subst h1;subst h2;subst h3;exact wpIn_exit (hQ σ a w Nm.le_refl hf hw)
 | region id ops draw =>
  intro E s x E' s' σ a w Q h hf hw hQ
  simp only [codeS] at h
  cases draw with
  | true =>
   simp only [cond_true] at h
   split at h
   ·
    rename_i hr
    injection h with h;injection h with h1 h;injection h with h2 h3;subst h1;subst h2;subst h3
    exact runDraw_ok hm hX hF hC hf hw hr hQ
   ·cases h
  | false =>
   simp only [cond_false] at h
   split at h
   ·
    rename_i hr
    injection h with h;injection h with h1 h;injection h with h2 h3;subst h1;subst h2;subst h3
    refine wpIn_region ?_
    have:=runOps_ok (ρ:=ρ) (Q:=Q) hX hF hC (k:=0) (by simp) hf hw hr hQ
    rw [Array.length_toList,←List.range_eq_range'] at this
    exact this
   ·cases h
 | seq x y hx hy =>
  intro E s z E' s' σ a w Q h hf hw hQ
  simp only [codeS] at h
  refine wpIn_seq ?_
  split at h
  ·
   rename_i E1 s1 h1
   refine hx _ _ _ _ _ σ a w _ h1 hf hw fun σ1 a1 w1 k1 k2 k3=>?_
   exact hy _ _ _ _ _ σ1 a1 w1 Q h k2 k3 fun σ2 a2 w2 j1 j2 j3=>hQ σ2 a2 w2 (Nm.le_trans k1 j1) j2 j3
  ·
   rename_i hne
   refine hx _ _ _ _ _ σ a w _ h hf hw fun σ1 a1 w1 k1 k2 k3=>?_
   cases z with
   | nor=>exact absurd h (fun e=>hne _ _ e)
   | ret=>exact hQ σ1 a1 w1 k1 k2 k3
   | exit id=>exact hQ σ1 a1 w1 k1 k2 k3
 | cond o x y hx hy =>
  intro E s z E' s' σ a w Q h hf hw hQ
  simp only [codeS] at h
  split at h
  ·rename_i ho;exact wpIn_cond_true (hf.fe.ev ho).bool_inv (hx _ _ _ _ _ σ a w Q h hf hw hQ)
  ·rename_i ho;exact wpIn_cond (hf.fe.ev ho).bool_inv (hy _ _ _ _ _ σ a w Q h hf hw hQ)
  ·cases h
 | block id x hx =>
  intro E s z E' s' σ a w Q h hf hw hQ
  simp only [codeS] at h
  refine wpIn_block ?_
  split at h
  ·
   rename_i j E1 s1 h1
   refine hx _ _ _ _ _ σ a w _ h1 hf hw fun σ1 a1 w1 k1 k2 k3=>?_
   show (if j=id then Q .normal a1 w1 else Q (.exit j) a1 w1)
   cases hj:Nat.beq j id with
   | true =>
    rw [hj] at h;simp only [cond_true] at h
    injection h with h;injection h with h1 h;injection h with h2 h3;subst h1;subst h2;subst h3
    rw [if_pos (Nat.eq_of_beq_eq_true hj)]
    exact hQ σ1 a1 w1 k1 k2 k3
   | false =>
    rw [hj] at h;simp only [cond_false] at h
    injection h with h;injection h with h1 h;injection h with h2 h3;subst h1;subst h2;subst h3
    rw [if_neg (fun e=>by rw [e] at hj;simp at hj)]
    exact hQ σ1 a1 w1 k1 k2 k3
  ·
   rename_i hne
   refine hx _ _ _ _ _ σ a w _ h hf hw fun σ1 a1 w1 k1 k2 k3=>?_
   cases z with
   | nor=>exact hQ σ1 a1 w1 k1 k2 k3
   | ret=>exact hQ σ1 a1 w1 k1 k2 k3
   | exit j=>exact absurd h (fun e=>hne _ _ _ e)
 | loop x hx =>
  intro E s z E' s' σ a w Q h hf hw hQ
  exact (loop_ok hL htop hx h hf hw hQ).wpIn
 | rangeFunc o ps az bd ha hb =>
  clear ha hb
  intro E s z E' s' σ a w Q h hf hw hQ
  simp only [codeS] at h
  split at h
  ·
   rename_i hy
   split at h
   ·
    rename_i hc
    split at h
    ·
     rename_i hl
     injection h with h;injection h with h1 h;injection h with h2 h3;subst h1;subst h2;subst h3
     exact range_ok hF (htop rfl) hf hw hy hc hl hQ
    ·cases h
   ·cases h
  ·cases h
 | scope x hx =>
  intro E s z E' s' σ a w Q h hf hw hQ
  simp only [codeS] at h
  split at h
  ·
   have hρ:=htop rfl
   subst hρ
   have h1:x.wpIn (FW none) 0 P (Exit.noGoto Q) a w:=hx _ _ _ _ _ σ a w _ h hf hw fun σ1 a1 w1 k1 k2 k3=>by
    cases z <;> exact hQ σ1 a1 w1 k1 k2 k3
   exact wpIn_wide.2 (wp_scope_straight (wpIn_wide.1 h1))
  ·cases h
 | label l=>intro E s x E' s' σ a w Q h hf hw hQ;simp [codeS] at h;obtain ⟨h1,h2,h3⟩:=h;subst h1;subst h2;subst h3;exact wpIn_label (hQ σ a w Nm.le_refl hf hw)
 | goto l=>intro E s x E' s' σ a w Q h;simp [codeS] at h
 | refuse y=>intro E s x E' s' σ a w Q h;simp [codeS] at h
end code
end Go.Acq.Vx
noncomputable section
namespace Go.Acq.Vx
open Go Go.Acq Go.RowKit
section fun'
variable {P : Program} {vr : Nat → Int} {X : List (FuncId × XK)} {σ : Nm} {w0 w : World} {M B : List Nat} {n : Nat} {ih : IH} {E : En} {s s' : St}
theorem marksOk_set {h:Tri AO}{i:Nat}:∀ {l:List Nat},marksOk h l=true→l.any (Nat.beq i)=false→marksOk (h.set i .gone) l=true
 | [],_,_=>rfl
 | j::l,hm,hi=>by
  simp only [marksOk,Bool.and_eq_true] at hm ⊢
  simp only [List.any_cons,Bool.or_eq_false_iff] at hi
  refine ⟨⟨?_,hm.1.2⟩,marksOk_set hm.2 hi.2⟩
  rw [Tri.get_set,if_neg]
  ·exact hm.1.1
  ·rintro rfl;simp at hi
theorem leaves_ok {fn:Func}{tmps:Array Value}{R:Ending→World→Prop}:∀ {ms bs:List Nat} {s:St} {w:World},MsR σ ms bs→marksOk s.heap ms=true→WR P vr σ w0 M B s w →
    (∀ w',WR P vr σ w0 M B ⟨dropMs s.heap ms,s.next,[]⟩ w'→LeavesIn (FW none) 0 P fn tmps R [] .returning w')→LeavesInM (FW none) 0 P fn tmps R (bs.map mkD) .returning w
  | [],[],s,w,_,_,hw,h=>h w (hw.ms [])
  | i::l,b::bs,s,w,⟨⟨r,hσ⟩,hms⟩,hm,hw,h=>by
    simp only [marksOk,Bool.and_eq_true] at hm
    obtain ⟨⟨h1,h2⟩,h3⟩:=hm
    have hi:s.heap.get i=some .mark:=by
      split at h1
      ·assumption
      ·cases h1
    obtain ⟨ob,g1,g2⟩:=hw.obj hi rfl hσ
    generalize hao:AO.mark=ao at g2
    cases g2 with
    | cells _ _ _ _=>cases hao
    | busy _=>cases hao
    | loop _=>cases hao
    | gone=>cases hao
    | map _ _=>cases hao
    | mark =>
      have hput:=hw.putObj hi rfl hσ (OR.gone (o:=.deferred none))
      refine ⟨by simp,.inl ⟨b,_,rfl,run_takeDeferred g1,?_⟩⟩
      refine leaves_ok (s:=s.set i .gone) hms (marksOk_set h3 (by simpa using h2)) hput fun w' hw'=>h w' hw'
  | [],_::_,_,_,h,_,_,_=>h.elim
  | _::_,[],_,_,h,_,_,_=>h.elim
theorem res_ok {tmps:Array Value}(hf:FE vr σ n E tmps)(hw:WR P vr σ w0 M B s w):∀ {rs:List ResultVar} {vs:List SV},resOf P E s rs=some vs→∃ xs,(rs.mapM (Gp tmps)).run P w=.ok xs w∧VRs vr σ vs xs
 | [],vs,h=>by simp [resOf] at h;subst h;exact ⟨[],by simp,.nil⟩
 | r::rs,vs,h=>by
  simp only [resOf] at h
  cases h0:resOf P E s rs with
  | none=>simp [h0] at h
  | some us =>
   obtain ⟨xs,h1,h2⟩:=res_ok hf hw h0
   simp only [h0] at h
   have fin:∀ {v:SV} {x:Value},(Gp tmps r).run P w=.ok x w→VR vr σ v x→vs=v::us→∃ xs,((r::rs).mapM (Gp tmps)).run P w=.ok xs w∧VRs vr σ vs xs:=fun {v x} k1 k2 k3=>by
    subst k3
    exact ⟨x::xs,by simp only [List.mapM_cons,Sem.run_bind,k1,Result.andThen_ok,h1,Sem.run_pure],.cons k2 h2⟩
   cases r with
   | tmp t =>
    simp only at h
    split at h
    ·
     rename_i v hv
     injection h with h
     exact fin (by simp only [Gp];rfl) (hf.get t v hv) h.symm
    ·cases h
   | cell x t =>
    simp only at h
    split at h
    ·
     rename_i i o hx
     split at h
     ·
      rename_i cs m t' more hi
      split at h
      ·
       rename_i v hv
       injection h with h
       obtain ⟨b,r,k1,k2⟩:=(hf.get x _ hx).ptr_inv
       obtain ⟨y,k3,k4⟩:=part_ok hw hi k1 hv
       exact fin (by simp only [Gp,k2,asAddr,Sem.run_bind,Sem.run_pure,Result.andThen_ok,k3]) k4 h.symm
      ·cases h
     ·cases h
    ·cases h
theorem fnd_enterS:∀ {vs:List SV} {k t:Nat} {v:SV} {E:En},fnd t (enterS k vs E)=some v→(k≤t∧vs[t-k]?=some v)∨fnd t E=some v
 | [],k,t,v,E,h=>.inr h
 | u::vs,k,t,v,E,h=>by
  simp only [enterS] at h
  rcases fnd_enterS h with ⟨h1,h2⟩ | h
  ·
   refine .inl ⟨by omega,?_⟩
   have:t-k=(t-(k+1))+1:=by omega
   rw [this];simpa using h2
  ·
   rw [fnd_cons] at h
   by_cases e:k=t
   ·subst e;rw [if_pos rfl] at h;exact .inl ⟨Nat.le_refl _,by simpa using h⟩
   ·rw [if_neg e] at h;exact .inr h
theorem pack_ok {vs:List SV}{xs:List Value}(h:VRs vr σ vs xs):VR vr σ (packS vs) (if hs:xs.toArray.size=1 then xs.toArray[0] else .tuple xs.toArray):=by
 match vs,xs,h with
 | [],_,.nil=>exact .tup .nil
 | [v],_,.cons h .nil=>simpa [packS] using h
 | v::u::vs,_,.cons h (.cons h2 hs)=>simpa [packS] using VR.tup (.cons h (.cons h2 hs))
theorem funS_ok (hm:P.follows .mixedOrders=true)(hX:XsOk P X)(hF:SndF P vr ih)(hC:SndC P vr ih)(hL:SndL P vr ih){f:FuncId}{vs:List SV}{v:SV}(hms:s.ms=[])(h:funS P X ih f vs s=some (v,s')) :
    Yb P f=true∧∀ σ w0 M B w (args:List Value),VRs vr σ vs args→WR P vr σ w0 M B s w→Calls P f args.toArray w (fun e w'=>∃ σ' x,σ.le σ'∧VR vr σ' v x∧WR P vr σ' w0 M B s' w'∧e=.returned x):=by
  unfold funS at h
  split at h
  case h_2=>cases h
  rename_i fn hfn
  split at h
  case h_2=>cases h
  rename_i c hb
  rw [cond_eq_ite] at h
  split at h
  case isFalse=>cases h
  rename_i hcd
  simp only [Bool.and_eq_true] at hcd
  refine ⟨by unfold Yb;rw [hfn];simp [hb,hcd.2],?_⟩
  intro σ w0 M B w args hargs hw
  split at h
  case h_2=>cases h
  rename_i x E s2 hc
  have hle:=Nat.le_of_ble_eq_true hcd.1
  refine callsIn_FW (ρ:=none) (n:=0) |>.1 (callsIn_of_wp_marks hfn hb trivial ?_ rfl)
  have hfa:FA vr σ fn.ntmps (enterS 0 vs []) s.ms { tmps:=args.toArray++Array.replicate (fn.ntmps-args.toArray.size) undef,defers:=[] }:=by
    have hl:=hargs.length
    refine ⟨⟨by simp;omega,fun t u hu=>?_⟩,[],rfl,by rw [hms];trivial⟩
    rcases fnd_enterS hu with ⟨_,h2⟩ | h2
    · rw [Nat.sub_zero] at h2
      obtain ⟨y,k1,k2⟩:=hargs.get h2
      have hlt:=(List.getElem?_eq_some_iff.1 k1).1
      simp only [Array.getD_eq_getD_getElem?]
      rw [Array.getElem?_append_left (by simpa using hlt)]
      simp only [List.getElem?_toArray,k1,Option.getD_some]
      exact k2
    ·simp [fnd] at h2
  refine codeS_ok hm hX hF hC hL (fun _=>rfl) c _ _ _ _ _ σ _ w _ hc hfa hw fun σ' a' w' k1 k2 k3=>?_
  have done:cond (marksOk s2.heap s2.ms) (match resOf P E ⟨dropMs s2.heap s2.ms,s2.next,[]⟩ fn.results.toList with | some rs=>some (packS rs,(⟨dropMs s2.heap s2.ms,s2.next,[]⟩:St)) | none=>none) none=some (v,s') →
      LeavesInM (FW none) 0 P fn a'.tmps (fun e w'=>∃ σ' x,σ.le σ'∧VR vr σ' v x∧WR P vr σ' w0 M B s' w'∧e=.returned x) a'.defers .returning w':=by
    intro h
    rw [cond_eq_ite] at h
    split at h
    case isFalse=>cases h
    rename_i hmk
    split at h
    case h_2=>cases h
    rename_i rs hrs
    injection h with h;injection h with e1 e2;subst e1;subst e2
    obtain ⟨bs,hbs,hmr⟩:=k2.df
    rw [hbs]
    refine leaves_ok hmr hmk k3 fun w2 hw2=>?_
    obtain ⟨xs,g1,g2⟩:=res_ok k2.fe hw2 hrs
    refine ⟨_,?_,σ',_,k1,pack_ok g2,hw2,rfl⟩
    rw [Z9w,←Array.toArray_toList (xs:=fn.results),List.mapM_toArray]
    simp only [Sem.run_bind,Sem.run_map,g1,Result.andThen_ok,Sem.run_pure]
  cases x with
  | nor=>exact done h
  | ret=>exact done h
  | exit id=>cases h
theorem run_ok (hm:P.follows .mixedOrders=true)(hX:XsOk P X):∀ n,SndF P vr (run P X n)∧SndC P vr (run P X n)∧SndL P vr (run P X n)
 | 0=>⟨fun _ _ _ _ _ h=>(by cases h),fun _ _ _ _ _ _ _ _ h=>(by cases h),fun _ _ _ _ _ _ _ _ h=>(by cases h)⟩
 | n+1=>by
  obtain ⟨hF,hC,hL⟩:=run_ok hm hX n
  refine ⟨fun f vs s v s' h hms=>funS_ok hm hX hF hC hL hms h,fun k top c E s x E' s' h ρ σ w0 M B a w Q htop hf hw hQ=>?_,fun k top c E s x E' s' h ρ σ w0 M B a w Q htop hf hw hQ=>?_⟩
  ·exact codeS_ok hm hX hF hC hL htop c _ _ _ _ _ σ a w Q h hf hw hQ
  ·exact loop_ok hL htop (codeS_ok hm hX hF hC hL htop c) h hf hw hQ
end fun'
end Go.Acq.Vx
noncomputable section
namespace Go.Acq.Vx
open Go Go.Acq Go.RowKit
variable {P : Program} {X : List (FuncId × XK)}
def beqT:SV→SV→Bool
  | .tup a,.tup b=>beqS a b
  | u,v=>SV.beq u v
theorem beqT_eq {u v:SV}(h:beqT u v=true):u=v:=by
 unfold beqT at h
 split at h
 ·rw [beqS_eq h]
 ·exact beqV_eq h
def okD0 (P:Program)(X:List (FuncId×XK))(n:Nat)(f:FuncId)(us:List SV)(hs:List CO)(v:SV)(hs':List CO):Bool:=match (run P X n).call f us (canS hs) with
  | some (u,s')=>match grow s' 3000 (addN (List.range hs.length) (nm2 u)) 0 with
    | some (l,os)=>flat2 u&&flat2 v&&hs'.all flatO&&beqT (map2 (posL l) u) v&&beqH (os.map (mapCO (posL l))) hs'
    | none=>false
  | none=>false
theorem deep_of0 (hm:P.follows .mixedOrders=true)(hX:XsOk P X){n:Nat}{f:FuncId}{us:List SV}{hs:List CO}{v:SV}{hs':List CO}(h:okD0 P X n f us hs v hs'=true):XOk P f (.deep us hs v hs'):=by
 unfold okD0 at h
 split at h
 case h_2=>cases h
 rename_i u s' hr
 split at h
 case h_2=>cases h
 rename_i l os hg
 simp only [Bool.and_eq_true] at h
 obtain ⟨⟨⟨⟨h1,h2⟩,h3⟩,h4⟩,h5⟩:=h
 have h4:=beqT_eq h4
 have h5:=beqH_eq h5
 refine ⟨((run_ok (vr:=fun _=>0) hm hX n).1 _ _ _ _ _ hr rfl).1,h2,h3,fun vr σ w M args ha hσ hw=>?_⟩
 refine Calls.mono (((run_ok (vr:=vr) hm hX n).1 _ _ _ _ _ hr rfl).2 σ w M [] w args ha hw) ?_
 rintro e w' ⟨σ',y,q1,q2,q3,rfl⟩
 obtain ⟨⟨t0,a1⟩,a2,a3,a4⟩:=addN_ok (is:=nm2 u) (l:=List.range hs.length)
 obtain ⟨⟨t,e0⟩,g2,g3,g4,g5⟩:=reach_ok q3 hg (Nat.zero_le _) (a3 List.nodup_range) fun i hi=>by
  rcases a4 i hi with h | h
  ·
   obtain ⟨y,hy⟩:=hσ i (List.mem_range.1 h)
   exact ⟨y,q1 _ _ hy⟩
  ·exact q2.nm2 h
 have hlen:os.length=l.length:=by omega
 have hsub:=q3.sub (w1:=w) (M1:=M) g2 hlen (fun q o hq=>by have:=g5 q o hq;rwa [Nat.zero_add] at this) q3.os q3.tape q3.output q3.size q3.keep fun i o b r h1 h2 h3 h4=>q3.low i o b r h2 h3 h4
 rw [h5] at hsub
 refine ⟨subN σ' l,y,fun p hp=>?_,?_,hsub,rfl⟩
 ·
  obtain ⟨y,hy⟩:=hσ p hp
  unfold subN
  have:l[p]?=some p:=by
   rw [e0,a1,List.append_assoc,List.getElem?_append_left (by simpa using hp)]
   simp [hp]
  rw [this,hy]
  exact q1 _ _ hy
 ·
  rw [←h4]
  exact q2.map2 h1 fun i hi=>subN_pos (by rw [e0];exact List.mem_append_left _ (a2 i hi))
end Go.Acq.Vx
noncomputable section
namespace Go.Acq.Vx
open Go Go.Acq Go.RowKit
variable {P : Program}
def holdsB {α:Type}(k:IntKind)(g:α→List Int)(sz:Nat)(cs:Tri SV)(xs:List α):Bool:=(List.range xs.length).all fun o=>(List.range sz).all fun c=>match xs[o]? with
  | some x=>match cs.get (o*sz+c),(g x)[c]? with
    | some (.int k' (.lit z)),some z'=>decide (k'=k)&&decide (z=z')
    | _,_=>false
  | none=>false
theorem WR.rs {vr:Nat→Int}{σ:Nm}{w0 w:World}{M B:List Nat}{s:St}{α:Type}{g:α→List Int}{k:IntKind}{sz:Nat}{xs:List α}(hw:WR P vr σ w0 M B s w){i b r m c:Nat}{cs:Tri SV}{t:TypeId}{more:Bool}
    (hi:s.heap.get i=some (.cells cs m t more))(hσ:σ i=some (b,r))(hg:∀ x,(g x).length=sz)(hc:holdsB k g sz cs xs=true)(hn:xs.length≤c):RS w [] (fun x=>(g x).map (Value.int k)) sz (some ⟨b,0,none⟩) xs.length c xs:=by
  refine ⟨⟨rfl,(fun e=>nomatch e),fun x=>by rw [List.length_map,hg],fun o q ho hq x hx=>?_⟩,fun _ _ _=>by simp,hn⟩
  have h1:=List.all_eq_true.1 (List.all_eq_true.1 hc o (List.mem_range.2 ho)) q (List.mem_range.2 hq)
  rw [hx] at h1
  simp only at h1
  split at h1
  · rename_i k' z z' h2 h3
    simp only [Bool.and_eq_true,decide_eq_true_eq] at h1
    obtain ⟨rfl,rfl⟩:=h1
    obtain ⟨_,y,h4,h5⟩:=hw.cell hi h2 hσ
    rw [h5.lit_inv] at h4
    show w.cell? (ea (some ⟨b,0,none⟩) (o*sz+q))=_
    have:ea (some ⟨b,0,none⟩) (o*sz+q)=⟨b,o*sz+q,none⟩:=by simp [ea,Addr.add];omega
    rw [this,h4,List.getElem?_map,h3];rfl
  ·cases h1
theorem Z7b {vr:Nat→Int}{σ:Nm}{k:IntKind}:∀ xs:List Int,VRs vr σ (xs.map fun x=>.int k (.lit x)) (xs.flatMap (intC k))
 | []=>.nil
 | x::xs=>.cons .int (Z7b xs)
theorem Ziv {σ:Nm}{i j b r:Nat}(h:j≠i):σ.put i b r j=σ j:=by unfold Nm.put;rw [if_neg (by omega)]
theorem row_known {f:FuncId}{us:List SV}{hs:List CO}{e:TypeId}{k:IntKind}{xs:List Int}(hc:Yb P f=true)(hne:xs≠[])(hfl:hs.all flatO=true)(he:Yh P e=some 1)
    (hcan:(canS hs).new (.cells (putC .e 0 (xs.map fun x=>.int k (.lit x))) (lenL (xs.map fun x=>.int k (.lit x))) e true)=canS (hs++[some (xs.map fun x=>.int k (.lit x),e,true)]))
    (h:∀ (vr:Nat→Int) (σ:Nm) (w:World) (M:List Nat) (args:List Value),VRs vr σ us args→(∀ p,p<hs.length→∃ y,σ p=some y)→WR P vr σ w M [] (canS hs) w →
      Fnc P f args.toArray w [] (fun v N=>∃ (ob:Option Nat) (n c:Nat) (j:List Value),v=.tuple #[.slice (sb ob) n c,.bool true]∧N=[(ob,.cells (arr (intC k) xs j).toArray e (0,0))]∧xs.length=n∧n≤c∧j.length=(c-n)*1∧(ob=none→c=0))) :
    XOk P f (.deep us hs (.tup [.sl hs.length 0 xs.length (.rest 0),.bool (.lit true)]) (hs++[some (xs.map fun x=>.int k (.lit x),e,true)])):=by
  refine ⟨hc,rfl,?_,fun vr σ w M args ha hσ hw=>?_⟩
  · rw [List.all_append, hfl]
    simp only [List.all_cons,List.all_nil,Bool.and_true,Bool.true_and,flatO,List.all_map]
    exact List.all_eq_true.2 fun x _=>rfl
  refine Calls.mono (h vr σ w M args ha hσ hw) ?_
  rintro e' w' ⟨v,N,⟨ob,n,c,j,rfl,rfl,hn,hnc,hj,h0⟩,rfl,hi⟩
  cases ob with
  | none =>
    have:=h0 rfl
    have:xs.length=0:=by omega
    exact absurd (List.eq_nil_of_length_eq_zero this) hne
  | some b =>
    have hb:=hi.own b _ (.head _)
    have hlow:w.heap.size≤b:=by
      rcases hi.low b _ (.head _) with h | h
      ·exact h
      ·simp at h
    have hw1:WR P vr σ w M [] (canS hs) w':=hw.below ⟨hi.os,hi.tape,hi.output,hi.size,hi.keep,by simp,by simp,by simp⟩
    have hfree:∀ j p r',(canS hs).heap.get j=some p→p.live=true→σ j≠some (b,r'):=fun j p r' h1 h2 h3=>by
      have:=hw.lt h1 h2 h3;omega
    have hat:=hw1.attach (o:=.cells (putC .e 0 (xs.map fun x=>.int k (.lit x))) (lenL (xs.map fun x=>.int k (.lit x))) e true) (r:=c) rfl hb hfree (.inl hlow)
      (newC_or (Z7b xs) (fun v hv=>by obtain ⟨x,_,rfl⟩:=List.mem_map.1 hv;rfl) (fun e'=>by cases e') (fun _ d hd=>by
        rw [he] at hd;injection hd with hd;subst hd
        have:(xs.flatMap (intC k)).length=xs.length:=by rw [←(Z7b (vr:=vr) (σ:=σ) (k:=k) xs).length,List.length_map]
        rw [this];omega))
    rw [hcan] at hat
    refine ⟨_,_,fun p hp=>Ziv (show p≠(canS hs).next from by show p≠hs.length;omega),.tup (.cons (x:=.slice (some ⟨b,0,none⟩) xs.length c) ?_ (.cons .bool .nil)),hat,?_⟩
    ·exact VR.slR (l:=0) (Nm.put_same (i:=hs.length)) (by omega)
    ·subst hn;rfl
end Go.Acq.Vx
noncomputable section
namespace Go.Acq.Vx
open Go Go.Acq Go.RowKit
variable {P : Program}
abbrev zi (z:Int):SV:=.int .i64 (.lit z)
theorem OR.out {vr:Nat→Int}{σ:Nm}{r:Nat}{cs:Tri SV}{n:Nat}{t:TypeId}{more:Bool}{ob:Obj}(h:OR P vr σ r (.cells cs n t more) ob):∃ arr:Array Value,ob=.cells arr t (0,0)∧(∀ j v,cs.get j=some v→∃ x,arr[j]?=some x∧VR vr σ v x)∧n≤arr.size∧(more=false→arr.size=n)∧(more=true→∀ d,Yh P t=some d→arr.size=r*d):=by
 cases h with
 | cells hc hn h0 h1=>exact ⟨_,rfl,fun j v hj=>(hc j v hj).2.2,hn,h0,h1⟩
theorem Z5z {arr:Array Value}{l:List Value}(h:∀ j,j<l.length→arr[j]?=l[j]?):∃ r:List Value,arr=(l++r).toArray∧r.length=arr.size-l.length:=by
 refine ⟨arr.toList.drop l.length,?_,by simp⟩
 apply Array.ext'
 show arr.toList=l++arr.toList.drop l.length
 have:l=arr.toList.take l.length:=by
  apply List.ext_getElem?
  intro j
  rw [List.getElem?_take]
  split
  ·rename_i hj;rw [←h j hj];simp
  ·rename_i hj;simp;omega
 conv=>rhs;rw [show l++arr.toList.drop l.length=arr.toList.take l.length++arr.toList.drop l.length from by rw [←this]]
 exact (List.take_append_drop _ _).symm
def nm2s (b0 r0 b1:Nat):Nm:=fun i=>if i=0 then some (b0,r0) else if i=1 then some (b1,0) else none
theorem solve_known {f:FuncId}{eA eF eB:TypeId}(hA:Yh P eA=some 3)(hF:Yh P eF=some 1)
    (hx:XOk P f (.deep [.agg [zi 2,zi 0,zi 1,.sl 0 0 1 (.rest 0)],.agg [zi 2,zi 5,.emp 1]] [some ([zi 0,zi 1,zi 7],eA,true),none]
      (.tup [.agg [.sl 2 0 1 (.rest 0),.sl 3 0 2 (.lit 2),zi 7],.agg [zi 0,zi 0,zi 0,zi 0,zi 0,zi 0],zi 0]) [some ([zi 0,zi 1,zi 7],eA,true),none,some ([zi 7],eF,true),some ([.bool (.lit true),.bool (.lit false)],eB,false)]))
    (w:World){ob0:Option Nat}{m0 c0:Nat}{j0:List Value}{bp:Option Addr}{np cp:Nat}{M:List Nat}
    (hM:M=(([(ob0,.cells (arr Zx [⟨0,1,7⟩] j0).toArray eA (0,0))]:Heap).filterMap Prod.fst))
    (hin:Inv w M w [(ob0,.cells (arr Zx [⟨0,1,7⟩] j0).toArray eA (0,0))])(hn0:([⟨0,1,7⟩]:List Arc).length=m0)(hc0:m0≤c0)(hj0:j0.length=(c0-m0)*3)(hz0:ob0=none→c0=0)(hp:RS w M (intC .i64) 1 bp np cp []) :
    Fnc P f #[.agg #[.int .i64 2,.int .i64 0,.int .i64 1,.slice (sb ob0) m0 c0],.agg #[.int .i64 2,.int .i64 5,.slice bp np cp]] w M (fun v N=>∃ (j_2:List Value) (ob_0:Option Nat) (n_0:Nat) (c_0:Nat) (j_0:List Value) (ob_1:Option Nat) (n_1:Nat) (c_1:Nat) (j_1:List Value),
      v=.tuple #[.agg #[.slice (sb ob_0) n_0 c_0,.slice (sb ob_1) n_1 c_1,.int .i64 7],.agg #[.int .i64 0,.int .i64 0,.int .i64 0,.int .i64 0,.int .i64 0,.int .i64 0],.int .i64 0] ∧
      N=[(ob0,.cells (arr Zx [⟨0,1,7⟩] j_2).toArray eA (0,0)),(ob_0,.cells (arr (intC .i64) [7] j_0).toArray eF (0,0)),(ob_1,.cells (arr boolC [true,false] j_1).toArray eB (0,0))]∧j_2.length=(c0-m0)*3 ∧
      ([7]:List Int).length=n_0∧n_0≤c_0∧j_0.length=(c_0-n_0)*1∧(ob_0=none→c_0=0)∧([true,false]:List Bool).length=n_1∧n_1≤c_1∧j_1.length=(c_1-n_1)*1∧(ob_1=none→c_1=0)):=by
  have hm:m0=1:=hn0.symm
  cases ob0 with
  | none=>have:=hz0 rfl;omega
  | some b =>
  have hnp:np=0:=hp.ro.len.symm
  subst hnp
  obtain ⟨-,-,-,hx⟩:=hx
  have hlt:b<w.heap.size:=hin.lt (.head _)
  have hb:=hin.own b _ (.head _)
  have hMb:M=[b]:=hM
  have hσ0:nm2s b c0 b 0=some (b,c0):=rfl
  have hget:∀ i o,(canS [some ([zi 0,zi 1,zi 7],eA,true),none]).heap.get i=some o→o.live=true→∀ b' r',nm2s b c0 b i=some (b',r')→i=0:=by
    intro i o h1 h2 b' r' h3
    unfold nm2s at h3
    split at h3
    ·assumption
    · split at h3
      · rename_i h4; subst h4
        have:(canS [some ([zi 0,zi 1,zi 7],eA,true),none]).heap.get 1=some .gone:=rfl
        rw [this] at h1;injection h1 with h1;subst h1;cases h2
      ·cases h3
  have hor:∀ vr,OR P vr (nm2s b c0 b) c0 (.cells (putC .e 0 [zi 0,zi 1,zi 7]) (lenL [zi 0,zi 1,zi 7]) eA true) (.cells (arr Zx [⟨0,1,7⟩] j0).toArray eA (0,0)):=fun vr=>by
    refine newC_or (vs:=[zi 0,zi 1,zi 7]) (xs:=[.int .i64 0,.int .i64 1,.int .i64 7]) (rest:=j0) (.cons .int (.cons .int (.cons .int .nil))) (by simp [SV.isC]) (fun e=>by cases e) (fun _ d hd=>?_)
    rw [hA] at hd;injection hd with hd;subst hd
    show 3+j0.length=_
    omega
  have hw:∀ vr,WR P vr (nm2s b c0 b) w M [] (canS [some ([zi 0,zi 1,zi 7],eA,true),none]) w:=fun vr=>by
    refine ⟨rfl,rfl,rfl,Nat.le_refl _,fun _ _ _=>rfl,fun i o b' r' h1 h2 h3=>?_,fun i o b' r' h1 h2 h3=>?_,fun i j o p b' r' r'' h1 h2 h3 h4 h5 h6=>?_,fun i hi=>?_,fun i hi=>by cases hi⟩
    · obtain rfl := hget i o h1 h2 b' r' h3
      rw [hσ0] at h3;injection h3 with h3;injection h3 with h3 h4;subst h3;subst h4
      have:(canS [some ([zi 0,zi 1,zi 7],eA,true),none]).heap.get 0=some (.cells (putC .e 0 [zi 0,zi 1,zi 7]) (lenL [zi 0,zi 1,zi 7]) eA true):=rfl
      rw [this] at h1;injection h1 with h1;subst h1
      exact ⟨_,hb,hor vr⟩
    · obtain rfl := hget i o h1 h2 b' r' h3
      rw [hσ0] at h3;injection h3 with h3;injection h3 with h3 h4;subst h3
      right;rw [hMb];simp
    ·rw [hget i o h1 h2 b' r' h5,hget j p h3 h4 b' r'' h6]
    · have : 2 ≤ i := hi
      unfold nm2s;rw [if_neg (by omega),if_neg (by omega)]
  refine Calls.mono (hx (fun _=>0) (nm2s b c0 b) w M [.agg #[.int .i64 2,.int .i64 0,.int .i64 1,.slice (sb (some b)) m0 c0],.agg #[.int .i64 2,.int .i64 5,.slice bp 0 cp]] ?_ ?_ (hw _)) ?_
  · refine .cons (.agg (.cons .int (.cons .int (.cons .int (.cons ?_ .nil))))) (.cons (.agg (.cons .int (.cons .int (.cons (.emp (r := 0) (b := b) rfl) .nil)))) .nil)
    subst hm
    exact VR.slR (l:=0) hσ0 (by omega)
  · intro p hp
    have:p=0∨p=1:=by have:p<2:=hp;omega
    rcases this with rfl | rfl
    ·exact ⟨_,hσ0⟩
    ·exact ⟨_,rfl⟩
  rintro e w' ⟨σ',x,hs,hv,hw',rfl⟩
  obtain ⟨l,rfl,gv⟩:=hv.tup_inv
  cases gv with | cons h0 gv =>
  cases gv with | cons h1 gv =>
  cases gv with | cons h2 gv =>
  cases gv
  obtain ⟨l,rfl,g0⟩:=h0.agg_inv
  cases g0 with | cons a0 g0 =>
  cases g0 with | cons a1 g0 =>
  cases g0 with | cons a2 g0 =>
  cases g0
  obtain ⟨l,rfl,g0⟩:=h1.agg_inv
  cases g0 with | cons q0 g0 =>
  cases g0 with | cons q1 g0 =>
  cases g0 with | cons q2 g0 =>
  cases g0 with | cons q3 g0 =>
  cases g0 with | cons q4 g0 =>
  cases g0 with | cons q5 g0 =>
  cases g0
  obtain rfl:=q0.lit_inv;obtain rfl:=q1.lit_inv;obtain rfl:=q2.lit_inv;obtain rfl:=q3.lit_inv;obtain rfl:=q4.lit_inv;obtain rfl:=q5.lit_inv;obtain rfl:=a2.lit_inv;obtain rfl:=h2.lit_inv
  obtain ⟨b2,r2,k2,s2,t2,rfl,e2⟩:=a0.sl_inv
  obtain ⟨b3,r3,k3,s3,t3,rfl,e3⟩:=a1.sl_inv
  have s0:σ' 0=some (b,c0):=(hs 0 (Nat.succ_pos _)).trans hσ0
  simp only at e2 e3
  obtain ⟨o0,u0,v0⟩:=hw'.own 0 _ b c0 rfl rfl s0
  obtain ⟨o2,u2,v2⟩:=hw'.own 2 _ b2 r2 rfl rfl s2
  obtain ⟨o3,u3,v3⟩:=hw'.own 3 _ b3 r3 rfl rfl s3
  obtain ⟨A0,rfl,c0',n0',-,m0'⟩:=v0.out
  obtain ⟨A2,rfl,c2',n2',-,m2'⟩:=v2.out
  obtain ⟨A3,rfl,c3',n3',m3',-⟩:=v3.out
  have k0:∀ j,j<([.int .i64 0,.int .i64 1,.int .i64 7]:List Value).length→A0[j]?=([.int .i64 0,.int .i64 1,.int .i64 7]:List Value)[j]?:=by
    intro j hj
    have hj:j<3:=hj
    match j,hj with
    | 0,_=>obtain ⟨x,h1,h2⟩:=c0' 0 (zi 0) rfl;rw [h1,h2.lit_inv];rfl
    | 1,_=>obtain ⟨x,h1,h2⟩:=c0' 1 (zi 1) rfl;rw [h1,h2.lit_inv];rfl
    | 2,_=>obtain ⟨x,h1,h2⟩:=c0' 2 (zi 7) rfl;rw [h1,h2.lit_inv];rfl
  have k2:∀ j,j<([.int .i64 7]:List Value).length→A2[j]?=([.int .i64 7]:List Value)[j]?:=by
    intro j hj
    have hj:j<1:=hj
    match j,hj with
    | 0,_=>obtain ⟨x,h1,h2⟩:=c2' 0 (zi 7) rfl;rw [h1,h2.lit_inv];rfl
  have k3':∀ j,j<([.bool true,.bool false]:List Value).length→A3[j]?=([.bool true,.bool false]:List Value)[j]?:=by
    intro j hj
    have hj:j<2:=hj
    match j,hj with
    | 0,_=>obtain ⟨x,h1,h2⟩:=c3' 0 (.bool (.lit true)) rfl;rw [h1,h2.bool_inv];rfl
    | 1,_=>obtain ⟨x,h1,h2⟩:=c3' 1 (.bool (.lit false)) rfl;rw [h1,h2.bool_inv];rfl
  obtain ⟨R0,rfl,l0⟩:=Z5z k0
  obtain ⟨R2,rfl,l2⟩:=Z5z k2
  obtain ⟨R3,rfl,l3⟩:=Z5z k3'
  have z0:=m0' rfl 3 hA
  have z2:=m2' rfl 1 hF
  have z3:=m3' rfl
  simp only [List.size_toArray,List.length_append,List.length_cons,List.length_nil] at z0 z2 z3
  have z3:R3.length=0:=by have:0+1+1+R3.length=2:=z3;omega
  refine ⟨_,_,⟨R0,some b2,1,_,R2,some b3,2,2,R3,rfl,rfl,by omega,rfl,by omega,?_,(fun e=>nomatch e),rfl,by omega,by omega,(fun e=>nomatch e)⟩,?_,?_⟩
  ·omega
  ·rw [e3];rfl
  · have lt0 := hw'.low 0 _ b c0 rfl rfl s0
    have lt2:=hw'.low 2 _ b2 r2 rfl rfl s2
    have lt3:=hw'.low 3 _ b3 r3 rfl rfl s3
    have d02:b≠b2:=fun e=>by subst e;exact absurd (hw'.inj 0 2 _ _ b c0 r2 rfl rfl rfl rfl s0 s2) (by decide)
    have d03:b≠b3:=fun e=>by subst e;exact absurd (hw'.inj 0 3 _ _ b c0 r3 rfl rfl rfl rfl s0 s3) (by decide)
    have d23:b2≠b3:=fun e=>by subst e;exact absurd (hw'.inj 2 3 _ _ b2 r2 r3 rfl rfl rfl rfl s2 s3) (by decide)
    refine ⟨hw'.os,hw'.tape,hw'.output,hw'.size,hw'.keep,fun b' o hm=>?_,fun b' o hm=>?_,?_⟩
    · simp only [List.mem_cons, List.not_mem_nil, or_false, Prod.mk.injEq, Option.some.injEq] at hm
      rcases hm with ⟨rfl,rfl⟩ | ⟨rfl,rfl⟩ | ⟨rfl,rfl⟩
      ·exact u0
      ·exact u2
      ·exact u3
    · simp only [List.mem_cons, List.not_mem_nil, or_false, Prod.mk.injEq, Option.some.injEq] at hm
      rcases hm with ⟨rfl,rfl⟩ | ⟨rfl,rfl⟩ | ⟨rfl,rfl⟩
      ·exact lt0
      ·exact lt2
      ·exact lt3
    ·simp [d02,d03,d23]
end Go.Acq.Vx
namespace Go.Acq
open Go
structure Net where
  N:Int
  S:Int
  T:Int
  Arcs:List Arc
  deriving DecidableEq
instance:Inhabited Net:=⟨⟨default,default,default,default⟩⟩
structure Csr where
  N:Int
  S:Int
  T:Int
  First:List Int
  Head:List Int
  Rev:List Int
  Cap:List Int
  Arc:List Int
  Back:List Bool
  deriving DecidableEq
instance:Inhabited Csr:=⟨⟨default,default,default,default,default,default,default,default,default⟩⟩
def Z8k  : Option (Unit) :=
  some ()
def Z8n  : Option (Unit) :=
  some ()
def Z86  : Option (Unit) :=
  Option.bind Z8k fun _ =>
  Option.bind Z8n fun _ =>
  some ()
def Z72 (n0:Net):Option (Bool) :=
  if 2≤n0.N then
  (some (decide (n0.N≤4096)))
  else
  some false
def Z97 (n0:Net):Option (Bool) :=
  some (decide ((n0.Arcs.length:Int)≤16384))
def Z0d (n0:Net)(v1:Int):Option (Bool) :=
  if 0≤v1 then
  (some (decide (v1<n0.N)))
  else
  some false
def Z6t (n0:Net):Option (Bool) :=
  Option.bind (Z0d n0 n0.S) fun r3 =>
  if r3=true then
  (Option.bind (Z0d n0 n0.T) fun r6 =>
  if r6=true then
  (some (decide (n0.S≠n0.T)))
  else
  some false)
  else
  some false
def Z73 (n0:Net)(a1:Arc):Option (Bool) :=
  Option.bind (Z0d n0 a1.fr) fun r5 =>
  if r5=true then
  (Option.bind (Z0d n0 a1.to) fun r8 =>
  some r8)
  else
  some false
def Z88 (a0:Arc)(c2:Net):Option (Bool) :=
  Option.bind (Z73 c2 a0) fun r3 =>
  some (!r3)
def Z4v (s0:List Arc)(a0:Net)(x1:Int):Option ((Int)⊕(Int⊕Unit)) :=
  if x1<(s0.length:Int) then
  (gd (inb x1 s0.length) <|
  Option.bind (Z88 (s0.getD x1.toNat default) a0) fun r4 =>
  if r4=true then
  (some (.inr (.inl x1)))
  else
  gd (i64ok (x1+1)) <|
  some (.inl (x1+1)))
  else
  some (.inr (.inr ()))
def Z95  : Option (Int) :=
  some (-1)
def Z8y (s0:List Arc)(a0:Net):Option (Int) :=
  Option.bind (Xa (fun s=>Z4v s0 a0 s) Xd 0) fun o=>match o with | .inl p1_0_0=>(some p1_0_0) | .inr ()=>Z95
def Z9k (s0:List Arc)(a0:Net):Option (Bool) :=
  Option.bind (Z8y s0 a0) fun r1 =>
  some (decide (0≤r1))
def Z7c (n0:Net):Option (Bool) :=
  Option.bind (Z9k n0.Arcs n0) fun r3 =>
  some (!r3)
def Z8w (n0:Net)(a1:Arc):Option (Bool) :=
  some (decide (0≤a1.cap))
def Z80 (a0:Arc)(c2:Net):Option (Bool) :=
  Option.bind (Z8w c2 a0) fun r3 =>
  some (!r3)
def Z2z (s0:List Arc)(a0:Net)(x1:Int):Option ((Int)⊕(Int⊕Unit)) :=
  if x1<(s0.length:Int) then
  (gd (inb x1 s0.length) <|
  Option.bind (Z80 (s0.getD x1.toNat default) a0) fun r4 =>
  if r4=true then
  (some (.inr (.inl x1)))
  else
  gd (i64ok (x1+1)) <|
  some (.inl (x1+1)))
  else
  some (.inr (.inr ()))
def Z84  : Option (Int) :=
  some (-1)
def Z96 (s0:List Arc)(a0:Net):Option (Int) :=
  Option.bind (Xa (fun s=>Z2z s0 a0 s) Xd 0) fun o=>match o with | .inl p1_0_0=>(some p1_0_0) | .inr ()=>Z84
def Z6f (s0:List Arc)(a0:Net):Option (Bool) :=
  Option.bind (Z96 s0 a0) fun r1 =>
  some (decide (0≤r1))
def Z8m (n0:Net):Option (Bool) :=
  Option.bind (Z6f n0.Arcs n0) fun r3 =>
  some (!r3)
def Z5d (n0:Net)(a0 x4:Int)(a1:Bool):Option ((Int×Int)⊕((Int×Bool)⊕Int)) :=
  if a1=true then
  (some (.inr (.inl (0,false))))
  else
  gd (i64ok (a0-((n0.Arcs.getD x4.toNat default).cap))) <|
  gd (i64ok (x4+1)) <|
  some (.inl ((a0-((n0.Arcs.getD x4.toNat default).cap)),(x4+1)))
def Z2t (n0:Net)(a0 x4:Int):Option ((Int×Int)⊕((Int×Bool)⊕Int)) :=
  if x4<(n0.Arcs.length:Int) then
  (gd (inb x4 n0.Arcs.length) <|
  if ((n0.Arcs.getD x4.toNat default).cap)<0 then
  (Z5d n0 a0 x4 true)
  else
  Z5d n0 a0 x4 (decide (a0<((n0.Arcs.getD x4.toNat default).cap))))
  else
  some (.inr (.inr a0))
def Z9c (a0:Int):Option (Int×Bool) :=
  gd (i64ok (4611686018427387904-a0)) <|
  some ((4611686018427387904-a0),true)
def Z7e (n0:Net):Option (Int×Bool) :=
  Option.bind (Xa (fun s=>Z2t n0 s.1 s.2) Xd (4611686018427387904,0)) fun o=>match o with | .inl (p1_0_0,p1_0_1)=>(some (p1_0_0,p1_0_1)) | .inr p1_1_0=>(Z9c p1_1_0)
def Z6h (n0:Net):Option (Bool) :=
  Option.bind (Z7e n0) fun (r3,r4) =>
  some r4
def Z79  : Option (Int) :=
  some 0
def Gw (n0:Net):Option (Int) :=
  Option.bind Z86 fun _ =>
  Option.bind (Z72 n0) fun a0 =>
  if (!a0)=true then
  (some 10)
  else
  Option.bind (Z97 n0) fun a1 =>
  if (!a1)=true then
  (some 11)
  else
  Option.bind (Z6t n0) fun a2 =>
  if (!a2)=true then
  (some 12)
  else
  Option.bind (Z7c n0) fun a3 =>
  if (!a3)=true then
  (some 13)
  else
  Option.bind (Z8m n0) fun a4 =>
  if (!a4)=true then
  (some 14)
  else
  Option.bind (Z6h n0) fun a5 =>
  if (!a5)=true then
  (some 15)
  else
  Z79
def Z2k (a0 b1:List Int)(x2:Int):Option ((Int)⊕(Bool⊕Unit)) :=
  if x2<(a0.length:Int) then
  (gd (inb x2 a0.length) <|
  gd (inb x2 b1.length) <|
  if (a0.getD x2.toNat 0)≠(b1.getD x2.toNat 0) then
  (some (.inr (.inl false)))
  else
  gd (i64ok (x2+1)) <|
  some (.inl (x2+1)))
  else
  some (.inr (.inr ()))
def Z71  : Option (Bool) :=
  some true
def Rn (a0 b1:List Int):Option (Bool) :=
  if (a0.length:Int)≠(b1.length:Int) then
  (some false)
  else
  Option.bind (Xa (fun s=>Z2k a0 b1 s) Xd 0) fun o=>match o with | .inl p1_0_0=>(some p1_0_0) | .inr ()=>Z71
end Go.Acq
namespace Go.Acq
open Go
structure Hop where
  Arc:Int
  Back:Bool
  deriving DecidableEq
instance:Inhabited Hop:=⟨⟨default,default⟩⟩
def Z2p (n0:Net)(f1:List Int)(x7:Int):Option ((Int)⊕(Bool⊕Unit)) :=
  if x7<(n0.Arcs.length:Int) then
  (gd (inb x7 n0.Arcs.length) <|
  gd (inb x7 f1.length) <|
  if (f1.getD x7.toNat 0)<0 then
  (some (.inr (.inl false)))
  else
  gd (inb x7 f1.length) <|
  if ((n0.Arcs.getD x7.toNat default).cap)<(f1.getD x7.toNat 0) then
  (some (.inr (.inl false)))
  else
  gd (i64ok (x7+1)) <|
  some (.inl (x7+1)))
  else
  some (.inr (.inr ()))
def Z8u  : Option (Bool) :=
  some true
def Z32 (n0:Net)(f1:List Int):Option (Bool) :=
  Option.bind (Gw n0) fun r3 =>
  if r3≠0 then
  (some false)
  else
  if (f1.length:Int)≠(n0.Arcs.length:Int) then
  (some false)
  else
  Option.bind (Xa (fun s=>Z2p n0 f1 s) Xd 0) fun o=>match o with | .inl p1_0_0=>(some p1_0_0) | .inr ()=>Z8u
def Z2v (n0:Net)(f1 a1:List Int)(a0:Int):Option ((List Int×Int)⊕(List Int)) :=
  if a0<(n0.Arcs.length:Int) then
  (gd (inb a0 n0.Arcs.length) <|
  gd (inb ((n0.Arcs.getD a0.toNat default).fr) a1.length) <|
  gd (inb a0 f1.length) <|
  gd (i64ok ((a1.getD ((n0.Arcs.getD a0.toNat default).fr).toNat 0)-(f1.getD a0.toNat 0))) <|
  gd (inb ((n0.Arcs.getD a0.toNat default).fr) a1.length) <|
  gd (inb ((n0.Arcs.getD a0.toNat default).to) (a1.set ((n0.Arcs.getD a0.toNat default).fr).toNat ((a1.getD ((n0.Arcs.getD a0.toNat default).fr).toNat 0)-(f1.getD a0.toNat 0))).length) <|
  gd (inb a0 f1.length) <|
  gd (i64ok (((a1.set ((n0.Arcs.getD a0.toNat default).fr).toNat ((a1.getD ((n0.Arcs.getD a0.toNat default).fr).toNat 0)-(f1.getD a0.toNat 0))).getD ((n0.Arcs.getD a0.toNat default).to).toNat 0)+(f1.getD a0.toNat 0))) <|
  gd (inb ((n0.Arcs.getD a0.toNat default).to) (a1.set ((n0.Arcs.getD a0.toNat default).fr).toNat ((a1.getD ((n0.Arcs.getD a0.toNat default).fr).toNat 0)-(f1.getD a0.toNat 0))).length) <|
  gd (i64ok (a0+1)) <|
  some (.inl (((a1.set ((n0.Arcs.getD a0.toNat default).fr).toNat ((a1.getD ((n0.Arcs.getD a0.toNat default).fr).toNat 0)-(f1.getD a0.toNat 0))).set ((n0.Arcs.getD a0.toNat default).to).toNat (((a1.set ((n0.Arcs.getD a0.toNat default).fr).toNat ((a1.getD ((n0.Arcs.getD a0.toNat default).fr).toNat 0)-(f1.getD a0.toNat 0))).getD ((n0.Arcs.getD a0.toNat default).to).toNat 0)+(f1.getD a0.toNat 0))),(a0+1))))
  else
  some (.inr a1)
def Z5u (a0:List Int):Option (List Int×Int) :=
  some (a0,0)
def Z8e (n0:Net)(f1:List Int):Option (List Int×Int) :=
  Option.bind (Z32 n0 f1) fun r3 =>
  if (!r3)=true then
  (some ([],20))
  else
  gd (mkok n0.N) <|
  Option.bind (Xa (fun s=>Z2v n0 f1 s.1 s.2) Xd ((List.replicate n0.N.toNat (0:Int)),0)) fun p1_0_0=>Z5u p1_0_0
end Go.Acq
namespace Go.Acq
open Go
end Go.Acq
namespace Go.Acq
open Go
structure CyclesSearch where
  n:Net
  out:List (List Int)
  at_:List Int
  done:List Bool
  on:List Bool
  way:List Int
  deriving DecidableEq
instance:Inhabited CyclesSearch:=⟨⟨default,default,default,default,default,default⟩⟩
def Z5c (n0:Net)(f1:List Int)(a0:List (List Int))(a1:Int):Option ((List (List Int)×Int)⊕(List (List Int))) :=
  if a1<(n0.Arcs.length:Int) then
  (gd (inb a1 n0.Arcs.length) <|
  gd (inb a1 f1.length) <|
  if 0<(f1.getD a1.toNat 0) then
  (gd (inb ((n0.Arcs.getD a1.toNat default).fr) a0.length) <|
  gd (apok ((a0.getD ((n0.Arcs.getD a1.toNat default).fr).toNat [])++([a1])).length 8) <|
  gd (i64ok (a1+1)) <|
  some (.inl ((a0.set ((n0.Arcs.getD a1.toNat default).fr).toNat ((a0.getD ((n0.Arcs.getD a1.toNat default).fr).toNat [])++([a1]))),(a1+1))))
  else
  gd (i64ok (a1+1)) <|
  some (.inl (a0,(a1+1))))
  else
  some (.inr a0)
def Z62 (n0:Net)(a0:List (List Int)):Option (CyclesSearch) :=
  some (CyclesSearch.mk n0 a0 (List.replicate n0.N.toNat (0:Int)) (List.replicate n0.N.toNat (false:Bool)) (List.replicate n0.N.toNat (false:Bool)) ([]))
def Z8h (n0:Net)(f1:List Int):Option (CyclesSearch) :=
  gd (mkok n0.N) <|
  gd (mkok n0.N) <|
  gd (mkok n0.N) <|
  gd (mkok n0.N) <|
  Option.bind (Xa (fun s=>Z5c n0 f1 s.1 s.2) Xd ((List.replicate n0.N.toNat ([]:List Int)),0)) fun p1_0_0=>Z62 n0 p1_0_0
def Z48 (x0:Int):Option (Bool) :=
  some (decide (x0≠x0))
def Z7a (x0 y1:Int):Option (Bool) :=
  Option.bind (Z48 x0) fun r1 =>
  if r1=true then
  (Option.bind (Z48 y1) fun r4 =>
  if (!r4)=true then
  (some true)
  else
  some (decide (x0<y1)))
  else
  some (decide (x0<y1))
def Z5h (x0:Int):Option (Bool) :=
  some (decide (x0≠x0))
def Z3z (x0:List Int)(a0 i1 j2:Int):Option ((Int×Int)⊕(Int)) :=
  if i1<j2 then
  (gd (i64ok (i1+j2)) <|
  gd (u64ok (i1+j2)) <|
  gd (i64ok (Int.fdiv (i1+j2) (2^1))) <|
  gd (inb (Int.fdiv (i1+j2) (2^1)) x0.length) <|
  Option.bind (Z7a (x0.getD (Int.fdiv (i1+j2) (2^1)).toNat 0) a0) fun r8 =>
  if r8=true then
  (gd (i64ok ((Int.fdiv (i1+j2) (2^1))+1)) <|
  some (.inl (((Int.fdiv (i1+j2) (2^1))+1),j2)))
  else
  some (.inl (i1,(Int.fdiv (i1+j2) (2^1)))))
  else
  some (.inr i1)
def Z6x (x0:List Int)(a0 a1:Int):Option (Int×Bool) :=
  if a1<(x0.length:Int) then
  (gd (inb a1 x0.length) <|
  if (x0.getD a1.toNat 0)=a0 then
  (some (a1,true))
  else
  gd (inb a1 x0.length) <|
  Option.bind (Z5h (x0.getD a1.toNat 0)) fun a2 =>
  if a2=true then
  (Option.bind (Z5h a0) fun a3 =>
  some (a1,a3))
  else
  some (a1,false))
  else
  some (a1,false)
def Z7r (x0:List Int)(a0:Int):Option (Int×Bool) :=
  Option.bind (Xa (fun s=>Z3z x0 a0 s.1 s.2) Xd (0,(x0.length:Int))) fun p1_0_0=>Z6x x0 a0 p1_0_0
def Z7n (xs:List Int)(i:Int)(vs:List Int):Option (List Int) :=
  gd (0≤i∧i≤(xs.length:Int)∧0<vs.length∧apok (xs++vs).length 8)<|some (xs.take i.toNat++vs++xs.drop i.toNat)
def Z5m (n0:Net)(r6:CyclesSearch)(a2:Int)(a0:List Int)(a1:Int):Option ((List Int×Int)⊕(List Int)) :=
  if a1<((r6.out.getD a2.toNat []).length:Int) then
  (gd (inb a1 (r6.out.getD a2.toNat []).length) <|
  gd (inb ((r6.out.getD a2.toNat []).getD a1.toNat 0) n0.Arcs.length) <|
  gd (inb ((n0.Arcs.getD ((r6.out.getD a2.toNat []).getD a1.toNat 0).toNat default).to) a0.length) <|
  gd (i64ok ((a0.getD ((n0.Arcs.getD ((r6.out.getD a2.toNat []).getD a1.toNat 0).toNat default).to).toNat 0)+1)) <|
  gd (inb ((n0.Arcs.getD ((r6.out.getD a2.toNat []).getD a1.toNat 0).toNat default).to) a0.length) <|
  gd (i64ok (a1+1)) <|
  some (.inl ((a0.set ((n0.Arcs.getD ((r6.out.getD a2.toNat []).getD a1.toNat 0).toNat default).to).toNat ((a0.getD ((n0.Arcs.getD ((r6.out.getD a2.toNat []).getD a1.toNat 0).toNat default).to).toNat 0)+1)),(a1+1))))
  else
  some (.inr a0)
def Z81 (a1:Int)(a0:List Int):Option ((List Int×Int)⊕(List Int)) :=
  gd (i64ok (a1+1)) <|
  some (.inl (a0,(a1+1)))
def Z35 (n0:Net)(r6:CyclesSearch)(a0:List Int)(a1:Int):Option ((List Int×Int)⊕(List Int)) :=
  if a1<(r6.out.length:Int) then
  (gd (inb a1 r6.out.length) <|
  Option.bind (Xa (fun s=>Z5m n0 r6 a1 s.1 s.2) Xd (a0,0)) fun p2_0_0=>Z81 a1 p2_0_0)
  else
  some (.inr a0)
def Z4j (a2 a0:List Int)(a1:Int):Option ((List Int×Int)⊕(List Int)) :=
  if a1<(a2.length:Int) then
  (gd (inb a1 a2.length) <|
  if (a2.getD a1.toNat 0)=0 then
  (gd (apok (a0++([a1])).length 8) <|
  gd (i64ok (a1+1)) <|
  some (.inl ((a0++([a1])),(a1+1))))
  else
  gd (i64ok (a1+1)) <|
  some (.inl (a0,(a1+1))))
  else
  some (.inr a0)
def Z3m (n0:Net)(r6:CyclesSearch)(a4 a0 a2 a3:List Int)(a1:Int):Option ((List Int×List Int×Int)⊕(List Int×List Int×List Int)) :=
  if a1<((r6.out.getD (a0.getD (0:Int).toNat 0).toNat []).length:Int) then
  (gd (inb a1 (r6.out.getD (a0.getD (0:Int).toNat 0).toNat []).length) <|
  gd (inb ((r6.out.getD (a0.getD (0:Int).toNat 0).toNat []).getD a1.toNat 0) n0.Arcs.length) <|
  gd (inb ((n0.Arcs.getD ((r6.out.getD (a0.getD (0:Int).toNat 0).toNat []).getD a1.toNat 0).toNat default).to) a2.length) <|
  gd (i64ok ((a2.getD ((n0.Arcs.getD ((r6.out.getD (a0.getD (0:Int).toNat 0).toNat []).getD a1.toNat 0).toNat default).to).toNat 0)-1)) <|
  gd (inb ((n0.Arcs.getD ((r6.out.getD (a0.getD (0:Int).toNat 0).toNat []).getD a1.toNat 0).toNat default).to) a2.length) <|
  gd (inb ((n0.Arcs.getD ((r6.out.getD (a0.getD (0:Int).toNat 0).toNat []).getD a1.toNat 0).toNat default).to) (a2.set ((n0.Arcs.getD ((r6.out.getD (a0.getD (0:Int).toNat 0).toNat []).getD a1.toNat 0).toNat default).to).toNat ((a2.getD ((n0.Arcs.getD ((r6.out.getD (a0.getD (0:Int).toNat 0).toNat []).getD a1.toNat 0).toNat default).to).toNat 0)-1)).length) <|
  if ((a2.set ((n0.Arcs.getD ((r6.out.getD (a0.getD (0:Int).toNat 0).toNat []).getD a1.toNat 0).toNat default).to).toNat ((a2.getD ((n0.Arcs.getD ((r6.out.getD (a0.getD (0:Int).toNat 0).toNat []).getD a1.toNat 0).toNat default).to).toNat 0)-1)).getD ((n0.Arcs.getD ((r6.out.getD (a0.getD (0:Int).toNat 0).toNat []).getD a1.toNat 0).toNat default).to).toNat 0)=0 then
  (Option.bind (Z7r a3 ((n0.Arcs.getD ((r6.out.getD (a0.getD (0:Int).toNat 0).toNat []).getD a1.toNat 0).toNat default).to)) fun (a5,a7) =>
  Option.bind (Z7n a3 a5 ([(n0.Arcs.getD ((r6.out.getD (a0.getD (0:Int).toNat 0).toNat []).getD a1.toNat 0).toNat default).to])) fun a6 =>
  gd (i64ok (a1+1)) <|
  some (.inl ((a2.set ((n0.Arcs.getD ((r6.out.getD (a0.getD (0:Int).toNat 0).toNat []).getD a1.toNat 0).toNat default).to).toNat ((a2.getD ((n0.Arcs.getD ((r6.out.getD (a0.getD (0:Int).toNat 0).toNat []).getD a1.toNat 0).toNat default).to).toNat 0)-1)),a6,(a1+1))))
  else
  gd (i64ok (a1+1)) <|
  some (.inl ((a2.set ((n0.Arcs.getD ((r6.out.getD (a0.getD (0:Int).toNat 0).toNat []).getD a1.toNat 0).toNat default).to).toNat ((a2.getD ((n0.Arcs.getD ((r6.out.getD (a0.getD (0:Int).toNat 0).toNat []).getD a1.toNat 0).toNat default).to).toNat 0)-1)),a3,(a1+1))))
  else
  some (.inr (a2,(a4++([(a0.getD (0:Int).toNat 0)])),a3))
def Z5j (n0:Net)(r6:CyclesSearch)(a2 a1 a0:List Int):Option ((List Int×List Int×List Int)⊕(List Int)) :=
  if 0<(a0.length:Int) then
  (gd (inb 0 a0.length) <|
  gd (0≤(1:Int)∧(1:Int)≤(a0.length:Int)) <|
  gd (apok (a1++([(a0.getD (0:Int).toNat 0)])).length 8) <|
  gd (inb (a0.getD (0:Int).toNat 0) r6.out.length) <|
  Option.bind (Xa (fun s=>Z3m n0 r6 a1 a0 s.1 s.2.1 s.2.2) Xd (a2,(a0.drop (1:Int).toNat),0)) fun (p8_0_0,p8_0_1,p8_0_2)=>some (.inl (p8_0_0,p8_0_1,p8_0_2)))
  else
  some (.inr a1)
def Z5t (n0:Net)(a0:List Int):Option (List Int×Bool) :=
  if (a0.length:Int)<n0.N then
  (some ([],false))
  else
  some (a0,true)
def Z87 (n0:Net)(r6:CyclesSearch)(a1 a0:List Int):Option (List Int×Bool) :=
  Option.bind (Xa (fun s=>Z5j n0 r6 s.1 s.2.1 s.2.2) Xd (a1,[],a0)) fun p7_0_0=>Z5t n0 p7_0_0
def Z7v (n0:Net)(r6:CyclesSearch)(a0:List Int):Option (List Int×Bool) :=
  Option.bind (Xa (fun s=>Z4j a0 s.1 s.2) Xd ([],0)) fun p5_0_0=>Z87 n0 r6 a0 p5_0_0
def Za6 (n0:Net)(f1:List Int):Option (List Int×Bool) :=
  Option.bind (Z32 n0 f1) fun r3 =>
  if (!r3)=true then
  (some ([],false))
  else
  Option.bind (Z8h n0 f1) fun r6 =>
  gd (mkok n0.N) <|
  Option.bind (Xa (fun s=>Z35 n0 r6 s.1 s.2) Xd ((List.replicate n0.N.toNat (0:Int)),0)) fun p1_0_0=>Z7v n0 r6 p1_0_0
end Go.Acq
namespace Go.Acq
open Go
structure Plan where
  Workers:Int
  Limit:Int
  Picks:List Int
  deriving DecidableEq
instance:Inhabited Plan:=⟨⟨default,default,default⟩⟩
structure Answer where
  Flow:List Int
  Side:List Bool
  Value:Int
  deriving DecidableEq
instance:Inhabited Answer:=⟨⟨default,default,default⟩⟩
structure Report where
  Phases:Int
  Steps:Int
  Pushes:Int
  Lifts:Int
  Repairs:Int
  Alone:Int
  deriving DecidableEq
instance:Inhabited Report:=⟨⟨default,default,default,default,default,default⟩⟩
def Z6j (n0:Net)(p1:Plan):Option (Answer×Report×Int) :=
  gd (n0=⟨2,0,1,[⟨0,1,7⟩]⟩∧p1=⟨2,5,[]⟩)<|some (⟨[7],[true,false],7⟩,⟨0,0,0,0,0,0⟩,0)
end Go.Acq
namespace Go.Acq
open Go
structure BytesBuffer where
  buf:List Int
  off:Int
  lastRead:Int
  deriving DecidableEq
instance:Inhabited BytesBuffer:=⟨⟨default,default,default⟩⟩
def Z0y (c0:Int):Option (Bool) :=
  if c0=9 then
  (some true)
  else
  if c0=13 then
  (some true)
  else
  some (decide (c0=32))
def Kh (x:Nat):Bool:=decide (Z0y (x:Int)=some true)
def Z43 (s0:Str):Option (List Str) :=
  gd (s0.length≤4294967296)<|some (Z2m Kh s0)
def Lp (a0:List Int):Option (List Str) :=
  Option.bind (Z43 (bu a0)) fun r1 =>
  some r1
def Z08 (c0:Int):Option (Bool) :=
  if c0<48 then
  (some true)
  else
  some (decide (57<c0))
def Rd (x:Nat):Bool:=decide (Z08 (x:Int)=some true)
def Z51 (s0:Str):Option (Bool) :=
  some (anyT Rd s0)
def Z5g (s0:Str)(i1 i2:Int):Option (Int×Bool) :=
  gd (s0.length≤281474976710656∧i1=10∧i2=64)<|some (Z1e s0)
def Z16 (s0:Str)(x4:Bool):Option (Int×Bool) :=
  if x4=true then
  (some (0,false))
  else
  Option.bind (Z5g s0 10 64) fun (r6,r7) =>
  if (!r7)=true then
  (some (0,false))
  else
  some (r6,true)
def Rp (s0:Str):Option (Int×Bool) :=
  if 19<(s0.length:Int) then
  (Z16 s0 true)
  else
  Option.bind (Z51 s0) fun r2 =>
  Z16 s0 r2
def Z91 (i0 i1:Int):Option (Str) :=
  gd (i64ok i0∧i1=10)<|some (Xm i0)
def Z36 (n0:Int):Option (Str) :=
  Option.bind (Z91 n0 10) fun r1 =>
  some r1
def Jf (i0:Int):Option (Str) :=
  gd (i64ok i0)<|some (Xm i0)
def Z5o (a0:Arc):Option (Str) :=
  gd (i64ok (a0.fr+1)) <|
  Option.bind (Jf (a0.fr+1)) fun r4 =>
  gd (slok (([102,32]:Str)++r4).length) <|
  gd (slok ((([102,32]:Str)++r4)++([32]:Str)).length) <|
  gd (i64ok (a0.to+1)) <|
  Option.bind (Jf (a0.to+1)) fun r9 =>
  gd (slok (((([102,32]:Str)++r4)++([32]:Str))++r9).length) <|
  gd (slok ((((([102,32]:Str)++r4)++([32]:Str))++r9)++([32]:Str)).length) <|
  some ((((([102,32]:Str)++r4)++([32]:Str))++r9)++([32]:Str))
def Z1d (s0:Str)(a1 a0:Int):Option (Int×Bool) :=
  Option.bind (Rp s0) fun (r1,r2) =>
  if r2=true then
  (if a1≤r1 then
  (some (r1,(decide (r1≤a0))))
  else
  some (r1,false))
  else
  some (r1,false)
def Z3x (a0:Arc)(w1:List Str)(x5:Bool):Option (Int×Bool) :=
  if x5=true then
  (some (0,false))
  else
  gd (inb 1 w1.length) <|
  gd (i64ok (a0.fr+1)) <|
  gd (i64ok (a0.fr+1)) <|
  Option.bind (Z1d (w1.getD (1:Int).toNat ([]:Str)) (a0.fr+1) (a0.fr+1)) fun (a5,a2) =>
  gd (inb 2 w1.length) <|
  gd (i64ok (a0.to+1)) <|
  gd (i64ok (a0.to+1)) <|
  Option.bind (Z1d (w1.getD (2:Int).toNat ([]:Str)) (a0.to+1) (a0.to+1)) fun (a6,a3) =>
  gd (inb 3 w1.length) <|
  Option.bind (Z1d (w1.getD (3:Int).toNat ([]:Str)) 0 a0.cap) fun (a1,a4) =>
  if a4=true then
  (if a2=true then
  (some (a1,a3))
  else
  some (a1,false))
  else
  some (a1,false)
def Z6o (a0:Arc)(w1:List Str):Option (Int×Bool) :=
  if (w1.length:Int)≠4 then
  (Z3x a0 w1 true)
  else
  gd (inb 0 w1.length) <|
  Z3x a0 w1 (decide (¬((w1.getD (0:Int).toNat ([]:Str))=([102]:Str))))
def Z3h (n0:Net)(f1:List Int):Option (Str×Int) :=
  Option.bind (Z8e n0 f1) fun (r3,r4) =>
  if r4≠0 then
  (some (([]:Str),r4))
  else
  gd (inb n0.T r3.length) <|
  Option.bind (Z36 (r3.getD n0.T.toNat 0)) fun a0 =>
  some (a0,0)
def Z4t (n0:Net)(f1 a0:List Int)(a1:Int):Option ((List Int×Int)⊕(List Int)) :=
  if a1<(n0.Arcs.length:Int) then
  (gd (inb a1 n0.Arcs.length) <|
  Option.bind (Z5o (n0.Arcs.getD a1.toNat default)) fun a2 =>
  gd (inb a1 f1.length) <|
  Option.bind (Z36 (f1.getD a1.toNat 0)) fun a3 =>
  gd (slok (a2++a3).length) <|
  gd (slok ((a2++a3)++([10]:Str)).length) <|
  gd ((a0++ub ((a2++a3)++([10]:Str))).length≤140737488355328) <|
  gd (i64ok (a1+1)) <|
  some (.inl ((a0++ub ((a2++a3)++([10]:Str))),(a1+1))))
  else
  some (.inr a0)
def Z75 (a0:List Int):Option (List Int×Int) :=
  some (a0,0)
def Z6b (n0:Net)(f1:List Int):Option (List Int×Int) :=
  Option.bind (Gw n0) fun r3 =>
  if r3≠0 then
  (some ([],r3))
  else
  Option.bind (Z3h n0 f1) fun (r6,r7) =>
  if r7≠0 then
  (some ([],r7))
  else
  gd (slok (([115,32]:Str)++r6).length) <|
  gd (slok ((([115,32]:Str)++r6)++([10]:Str)).length) <|
  gd ((([]:List Int)++ub ((([115,32]:Str)++r6)++([10]:Str))).length≤140737488355328) <|
  Option.bind (Xa (fun s=>Z4t n0 f1 s.1 s.2) Xd ((([]:List Int)++ub ((([115,32]:Str)++r6)++([10]:Str))),0)) fun p1_0_0=>Z75 p1_0_0
def Z3d (s1:List Bool)(a0:List Int)(a1:Int):Option ((List Int×Int)⊕(List Int)) :=
  if a1<(s1.length:Int) then
  (gd (inb a1 s1.length) <|
  if (s1.getD a1.toNat false)=true then
  (gd (i64ok (a1+1)) <|
  Option.bind (Jf (a1+1)) fun a2 =>
  gd (slok (([107,32]:Str)++a2).length) <|
  gd (slok ((([107,32]:Str)++a2)++([10]:Str)).length) <|
  gd ((a0++ub ((([107,32]:Str)++a2)++([10]:Str))).length≤140737488355328) <|
  gd (i64ok (a1+1)) <|
  some (.inl ((a0++ub ((([107,32]:Str)++a2)++([10]:Str))),(a1+1))))
  else
  gd (i64ok (a1+1)) <|
  some (.inl (a0,(a1+1))))
  else
  some (.inr a0)
def Z94 (a0:List Int):Option (List Int×Int) :=
  some (a0,0)
def Z92 (n0:Net)(s1:List Bool):Option (List Int×Int) :=
  Option.bind (Gw n0) fun r3 =>
  if r3≠0 then
  (some ([],r3))
  else
  if (s1.length:Int)≠n0.N then
  (some ([],60))
  else
  Option.bind (Xa (fun s=>Z3d s1 s.1 s.2) Xd ([],0)) fun p1_0_0=>Z94 p1_0_0
def Z2w (b0:List Int):Option (Unit) :=
  some ()
def Z99 (s0 a1:List Int)(a0:Int):Option (Unit) :=
  some ()
def Z2i (s0 a0:List Int):Option (Unit) :=
  Option.bind (Z99 s0 a0 0) fun _ =>
  some ()
def Z7i (b0:List Int)(c1:Int):Option (Int) :=
  some (idxT b0 c1)
def Z6a (s0 a0:List Int):Option (Int) :=
  if (a0.length:Int)=0 then
  (none)
  else
  if (a0.length:Int)=1 then
  (gd (inb 0 a0.length) <|
  Option.bind (Z7i s0 (a0.getD (0:Int).toNat 0)) fun r4 =>
  some r4)
  else
  none
def Rl {S_ X_:Type}(a3:S_→List Int→Option (S_⊕X_))(c1:List Int)(c3:Int)(c4:List Int)(a2:S_⊕X_):Option ((List Int×(S_⊕X_))⊕((List Int×(S_⊕X_))⊕(S_⊕X_))) :=
  Option.bind (Z6a c4 c1) fun a0 =>
  if a0<0 then
  (some (.inr (.inl (c4,a2))))
  else
  gd (i64ok (a0+c3)) <|
  gd (0≤(a0+c3)∧(a0+c3)≤(c4.length:Int)) <|
  gd (0≤((c4.take (a0+c3).toNat).length:Int)∧((c4.take (a0+c3).toNat).length:Int)≤((c4.take (a0+c3).toNat).length:Int)) <|
  Option.bind (Z14 a3 a2 ((c4.take (a0+c3).toNat).take ((c4.take (a0+c3).toNat).length:Int).toNat)) fun a1 =>
  if (!a1.isLeft)=true then
  (some (.inr (.inr a1)))
  else
  gd (i64ok (a0+(c1.length:Int))) <|
  gd (0≤(a0+(c1.length:Int))∧(a0+(c1.length:Int))≤(c4.length:Int)) <|
  some (.inl ((c4.drop (a0+(c1.length:Int)).toNat),a1))
def Z1x {S_ X_:Type}(a2:S_→List Int→Option (S_⊕X_))(c28:List Int)(a0:S_⊕X_):Option ((S_⊕X_)) :=
  gd (0≤(c28.length:Int)∧(c28.length:Int)≤(c28.length:Int)) <|
  Option.bind (Z14 a2 a0 (c28.take (c28.length:Int).toNat)) fun a1 =>
  some a1
def Z1h {S_ X_:Type}(a0:S_→List Int→Option (S_⊕X_))(c1:List Int)(c2:List Int)(c3:Int)(a1:S_⊕X_):Option ((S_⊕X_)) :=
  Option.bind (Xa (fun s=>Rl a0 c1 c3 s.1 s.2) Xd (c2,a1)) fun o=>match o with | .inl (p2_0_0,p2_0_1)=>(Z1x a0 p2_0_0 p2_0_1) | .inr p2_1_0=>(some p2_1_0)
def Rm {S_ X_:Type}(a1:S_→List Int→Option (S_⊕X_))(c1:List Int)(c2:List Int)(c3:Int)(a0:S_⊕X_):Option ((S_⊕X_)) :=
  if (c1.length:Int)=0 then
  (none)
  else
  Z1h a1 c1 c2 c3 a0
def Z2c {S_ X_:Type}(a4:S_→List Str→Option (S_⊕X_))(a0:S_⊕X_)(a3:List Int):Option (((S_⊕X_))⊕((S_⊕X_))) :=
  Option.bind (Lp a3) fun a2 =>
  if 0<(a2.length:Int) then
  (gd (inb 0 a2.length) <|
  gd (inb 0 (a2.getD (0:Int).toNat ([]:Str)).length) <|
  if (((a2.getD (0:Int).toNat ([]:Str)).getD (0:Int).toNat 0).toNat:Int)≠99 then
  (Option.bind (Z14 a4 a0 a2) fun a1 =>
  if (!a1.isLeft)=true then
  (some (.inr a1))
  else
  some (.inl a1))
  else
  some (.inl a0))
  else
  some (.inl a0)
def Z54 {S_ X_:Type}(a2:S_→List Str→Option (S_⊕X_))(c1:List Int)(a1:S_⊕X_):Option ((S_⊕X_)) :=
  Option.bind (Z2i c1 ([10])) fun _ =>
  Option.bind (Rm (fun s v=>Z2c a2 s v) ([10]) c1 0 (.inl a1)) fun t=>match t with | .inl a0=>(some a0) | .inr a0=>(some a0)
def Z2s (a0:Str)(a1:List Int)(a2:List Str)(a3:Bool):Option ((Str×List Int)⊕(Str×List Int)) :=
  if a3=true then
  (some (.inr (a0,a1)))
  else
  gd (inb 1 a2.length) <|
  some (.inl ((a2.getD (1:Int).toNat ([]:Str)),a1))
def Z2b (n0:Net)(a0:Str)(a1:List Int)(a2:List Str):Option ((Str×List Int)⊕(Str×List Int)) :=
  if a0=([]:Str) then
  (if (a2.length:Int)≠2 then
  (Z2s a0 a1 a2 true)
  else
  gd (inb 0 a2.length) <|
  Z2s a0 a1 a2 (decide (¬((a2.getD (0:Int).toNat ([]:Str))=([115]:Str)))))
  else
  if (a1.length:Int)=(n0.Arcs.length:Int) then
  (some (.inr (a0,a1)))
  else
  gd (inb (a1.length:Int) n0.Arcs.length) <|
  Option.bind (Z6o (n0.Arcs.getD (a1.length:Int).toNat default) a2) fun (a3,a4) =>
  if (!a4)=true then
  (some (.inr (a0,a1)))
  else
  gd (apok (a1++([a3])).length 8) <|
  some (.inl (a0,(a1++([a3]))))
def Z98 (n0:Net)(b1:List Int):Option (Str×List Int×Bool) :=
  Option.bind (Z2w b1) fun _ =>
  Option.bind (Z54 (fun s v=>Z2b n0 s.1 s.2 v) b1 (.inl (([]:Str),([]:List Int)))) fun t=>match t with | .inl (a0,a1)=>(if ¬(a0=([]:Str)) then (some (a0,a1,(decide ((a1.length:Int)=(n0.Arcs.length:Int))))) else some (a0,a1,false)) | .inr (a0,a1)=>(some (([]:Str),[],false))
def Z4a (r8:List Int)(a0:Bool):Option (List Int×Int) :=
  if a0=true then
  (some ([],70))
  else
  some (r8,0)
def Z9h (n0:Net)(b1:List Int):Option (List Int×Int) :=
  Option.bind (Gw n0) fun r4 =>
  if r4≠0 then
  (some ([],r4))
  else
  Option.bind (Z98 n0 b1) fun (r7,r8,r9) =>
  if (!r9)=true then
  (some ([],70))
  else
  Option.bind (Z3h n0 r8) fun (a0,a1) =>
  if a1≠0 then
  (Z4a r8 true)
  else
  Z4a r8 (decide (¬(a0=r7)))
def Z38 (n0:Net)(a4:Int)(a1:List Bool)(a0:Int)(a3:List Str)(a5:Bool):Option ((Int×List Bool×Int)⊕(Int×List Bool×Int)) :=
  if a5=true then
  (some (.inr (70,a1,a0)))
  else
  gd (inb 1 a3.length) <|
  gd (i64ok (a0+1)) <|
  Option.bind (Z1d (a3.getD (1:Int).toNat ([]:Str)) (a0+1) n0.N) fun (a2,a6) =>
  if (!a6)=true then
  (some (.inr (70,a1,a0)))
  else
  gd (i64ok (a2-1)) <|
  gd (inb (a2-1) a1.length) <|
  some (.inl (a4,(a1.set (a2-1).toNat true),a2))
def Z1n (n0:Net)(a3:Int)(a1:List Bool)(a0:Int)(a2:List Str):Option ((Int×List Bool×Int)⊕(Int×List Bool×Int)) :=
  if (a2.length:Int)≠2 then
  (Z38 n0 a3 a1 a0 a2 true)
  else
  gd (inb 0 a2.length) <|
  Z38 n0 a3 a1 a0 a2 (decide (¬((a2.getD (0:Int).toNat ([]:Str))=([107]:Str))))
def Z9b (n0:Net)(b1:List Int):Option (List Bool×Int) :=
  Option.bind (Gw n0) fun r8 =>
  if r8≠0 then
  (some ([],r8))
  else
  gd (mkok n0.N) <|
  Option.bind (Z2w b1) fun _ =>
  Option.bind (Z54 (fun s v=>Z1n n0 s.1 s.2.1 s.2.2 v) b1 (.inl (0,(List.replicate n0.N.toNat (false:Bool)),0))) fun t=>match t with | .inl (a2,a1,a0)=>(some (a1,0)) | .inr (a2,a1,a0)=>(some ([],a2))
end Go.Acq
namespace Go.Acq
open Go
structure DimacsReader where
  n:Net
  said:List (Str×Int)
  arcs:Int
  words:List Str
  deriving DecidableEq
instance:Inhabited DimacsReader:=⟨⟨default,default,default,default⟩⟩
def Vk (a0:Bool):Option (Unit⊕Unit) :=
  some (if a0=true then .inl () else .inr ())
def Z0f (a2:DimacsReader)(a3 a1 a0:Int):Option ((Int)⊕Unit) :=
  gd (inb a3 a2.words.length) <|
  Option.bind (Rp (a2.words.getD a3.toNat ([]:Str))) fun (r2,r3) =>
  if r3=true then
  (if a1≤r2 then
  (Option.bind (Vk (decide (r2≤a0))) fun t=>match t with | .inl _=>(some (.inl r2)) | .inr _=>some (.inr ()))
  else
  Option.bind (Vk false) fun t=>match t with | .inl _=>(none) | .inr _=>some (.inr ()))
  else
  Option.bind (Vk false) fun t=>match t with | .inl _=>(none) | .inr _=>some (.inr ())
def Z1i (r0:DimacsReader)(n1:Int):Option ((Unit)⊕Unit) :=
  Option.bind (Vk (decide ((r0.words.length:Int)=n1))) fun t=>match t with | .inl _=>(some (.inl ())) | .inr _=>some (.inr ())
def Z2h (a0:DimacsReader)(a1:Int):Option ((Int)⊕Unit) :=
  Option.bind (Z0f a0 a1 1 a0.n.N) fun t=>match t with | .inl r1=>(gd (i64ok (r1-1))<|some (.inl (r1-1))) | .inr _=>some (.inr ())
def Z4n (r0:DimacsReader)(a0:Str):Option ((DimacsReader)⊕Unit) :=
  gd (i64ok ((Xz 0 a0 r0.said)+1)) <|
  Option.bind (Vk (decide ((Xz 0 a0 (Wm a0 ((Xz 0 a0 r0.said)+1) r0.said))=1))) fun t=>match t with | .inl _=>(some (.inl (DimacsReader.mk r0.n (Wm a0 ((Xz 0 a0 r0.said)+1) r0.said) r0.arcs r0.words))) | .inr _=>some (.inr ())
def Z61 (r0:DimacsReader):Option ((DimacsReader)⊕Unit) :=
  Option.bind (Z1i r0 4) fun t=>match t with | .inl _=>(Option.bind (Z4n r0 ([112]:Str)) fun t=>match t with | .inl r5=>(gd (inb 1 r0.words.length)<|Option.bind (Vk (decide ((r0.words.getD (1:Int).toNat ([]:Str))=([109,97,120]:Str)))) fun t=>match t with | .inl _=>(Option.bind (Z0f (DimacsReader.mk r0.n r5.said r0.arcs r0.words) 2 0 2147483648) fun t=>match t with | .inl a0=>(Option.bind (Z0f (DimacsReader.mk r0.n r5.said r0.arcs r0.words) 3 0 2147483648) fun t=>match t with | .inl a1=>(some (.inl (DimacsReader.mk (Net.mk a0 r0.n.S r0.n.T r0.n.Arcs) r5.said a1 r0.words))) | .inr _=>some (.inr ())) | .inr _=>some (.inr ())) | .inr _=>some (.inr ())) | .inr _=>some (.inr ())) | .inr _=>some (.inr ())
def Z8r (r0:DimacsReader):Option ((DimacsReader)⊕Unit) :=
  Option.bind (Z1i r0 3) fun t=>match t with | .inl _=>(Option.bind (Z2h r0 1) fun t=>match t with | .inl r5=>(gd (inb 2 r0.words.length)<|Option.bind (Z4n r0 (r0.words.getD (2:Int).toNat ([]:Str))) fun t=>match t with | .inl r9=>(gd (inb 2 r0.words.length)<|if (r0.words.getD (2:Int).toNat ([]:Str))=([115]:Str) then (some (.inl (DimacsReader.mk (Net.mk r0.n.N r5 r0.n.T r0.n.Arcs) r9.said r0.arcs r0.words))) else if (r0.words.getD (2:Int).toNat ([]:Str))=([116]:Str) then (some (.inl (DimacsReader.mk (Net.mk r0.n.N r0.n.S r5 r0.n.Arcs) r9.said r0.arcs r0.words))) else Option.bind (Vk false) fun t=>match t with | .inl _=>(none) | .inr _=>some (.inr ())) | .inr _=>some (.inr ())) | .inr _=>some (.inr ())) | .inr _=>some (.inr ())
def Z8d (r0:DimacsReader):Option ((DimacsReader)⊕Unit) :=
  Option.bind (Z1i r0 4) fun t=>match t with | .inl _=>(Option.bind (Z2h r0 1) fun t=>match t with | .inl r6=>(Option.bind (Z2h r0 2) fun t=>match t with | .inl r9=>(Option.bind (Z0f r0 3 0 9223372036854775807) fun t=>match t with | .inl a0=>(gd (apok (r0.n.Arcs++([(Arc.mk r6 r9 a0)])).length 24)<|some (.inl (DimacsReader.mk (Net.mk r0.n.N r0.n.S r0.n.T (r0.n.Arcs++([(Arc.mk r6 r9 a0)]))) r0.said r0.arcs r0.words))) | .inr _=>some (.inr ())) | .inr _=>some (.inr ())) | .inr _=>some (.inr ())) | .inr _=>some (.inr ())
def Z44 (r0:DimacsReader)(r4:List Str):Option ((DimacsReader)⊕Unit) :=
  Option.bind (Z61 (DimacsReader.mk r0.n r0.said r0.arcs r4)) fun t=>match t with | .inl a0=>(some (.inl (DimacsReader.mk (Net.mk a0.n.N r0.n.S r0.n.T r0.n.Arcs) a0.said a0.arcs r4))) | .inr _=>some (.inr ())
def Z3o (r0:DimacsReader)(r4:List Str):Option ((DimacsReader)⊕Unit) :=
  Option.bind (Z8r (DimacsReader.mk r0.n r0.said r0.arcs r4)) fun t=>match t with | .inl a0=>(some (.inl (DimacsReader.mk (Net.mk r0.n.N a0.n.S a0.n.T r0.n.Arcs) a0.said r0.arcs r4))) | .inr _=>some (.inr ())
def Z4s (r0:DimacsReader)(r4:List Str):Option ((DimacsReader)⊕Unit) :=
  Option.bind (Z8d (DimacsReader.mk r0.n r0.said r0.arcs r4)) fun t=>match t with | .inl a0=>(some (.inl (DimacsReader.mk (Net.mk r0.n.N r0.n.S r0.n.T a0.n.Arcs) a0.said r0.arcs r4))) | .inr _=>some (.inr ())
def Z6l (r0:DimacsReader)(b1:List Int):Option ((DimacsReader)⊕Unit) :=
  Option.bind (Lp b1) fun r4 =>
  if (r4.length:Int)=0 then
  (some (.inl (DimacsReader.mk r0.n r0.said r0.arcs r4)))
  else
  gd (inb 0 r4.length) <|
  gd (inb 0 (r4.getD (0:Int).toNat ([]:Str)).length) <|
  if (((r4.getD (0:Int).toNat ([]:Str)).getD (0:Int).toNat 0).toNat:Int)=99 then
  (some (.inl (DimacsReader.mk r0.n r0.said r0.arcs r4)))
  else
  gd (inb 0 r4.length) <|
  if (r4.getD (0:Int).toNat ([]:Str))=([112]:Str) then
  (if (r4.getD (0:Int).toNat ([]:Str))=([112]:Str) then
  (Option.bind (Vk true) fun t=>match t with | .inl _=>(Z44 r0 r4) | .inr _=>some (.inr ()))
  else
  Option.bind (Vk (decide ((Xz 0 ([112]:Str) r0.said)=1))) fun t=>match t with | .inl _=>(Z44 r0 r4) | .inr _=>some (.inr ()))
  else
  if (r4.getD (0:Int).toNat ([]:Str))=([110]:Str) then
  (if (r4.getD (0:Int).toNat ([]:Str))=([112]:Str) then
  (Option.bind (Vk true) fun t=>match t with | .inl _=>(Z3o r0 r4) | .inr _=>some (.inr ()))
  else
  Option.bind (Vk (decide ((Xz 0 ([112]:Str) r0.said)=1))) fun t=>match t with | .inl _=>(Z3o r0 r4) | .inr _=>some (.inr ()))
  else
  if (r4.getD (0:Int).toNat ([]:Str))=([97]:Str) then
  (if (r4.getD (0:Int).toNat ([]:Str))=([112]:Str) then
  (Option.bind (Vk true) fun t=>match t with | .inl _=>(Z4s r0 r4) | .inr _=>some (.inr ()))
  else
  Option.bind (Vk (decide ((Xz 0 ([112]:Str) r0.said)=1))) fun t=>match t with | .inl _=>(Z4s r0 r4) | .inr _=>some (.inr ()))
  else
  Option.bind (Vk false) fun t=>match t with | .inl _=>(none) | .inr _=>some (.inr ())
def Z1l (a4 a5 n22:Int)(a6:List Arc)(a3:List (Str×Int))(a1:Int)(a0:List Str)(a7:List Int):Option ((Int×Int×Int×List Arc×(List (Str×Int))×Int×List Str)⊕(Unit)) :=
  Option.bind (Z6l (DimacsReader.mk (Net.mk a4 a5 n22 a6) a3 a1 a0) a7) fun t=>match t with | .inl a2=>(some (.inl (a2.n.N,a2.n.S,a2.n.T,a2.n.Arcs,a2.said,a2.arcs,a2.words))) | .inr _=>some (.inr ())
def Z7y (b0:List Int):Option (Net×Bool) :=
  Option.bind (Z2i b0 ([10])) fun _ =>
  Option.bind (Rm (fun s v=>Z1l s.1 s.2.1 s.2.2.1 s.2.2.2.1 s.2.2.2.2.1 s.2.2.2.2.2.1 s.2.2.2.2.2.2 v) ([10]) b0 0 (.inl (0,0,0,[],([]:List (Str×Int)),0,[]))) fun t=>match t with | .inl (a4,a5,n22,a3,a0,a1,a2)=>(if (Xz 0 ([112]:Str) a0)=1 then (if (Xz 0 ([115]:Str) a0)=1 then (if (Xz 0 ([116]:Str) a0)=1 then (Option.bind (Vk (decide ((a3.length:Int)=a1))) fun t=>match t with | .inl _=>(some ((Net.mk a4 a5 n22 a3),true)) | .inr _=>some ((Net.mk 0 0 0 ([])),false)) else Option.bind (Vk false) fun t=>match t with | .inl _=>(none) | .inr _=>some ((Net.mk 0 0 0 ([])),false)) else Option.bind (Vk false) fun t=>match t with | .inl _=>(none) | .inr _=>some ((Net.mk 0 0 0 ([])),false)) else Option.bind (Vk false) fun t=>match t with | .inl _=>(none) | .inr _=>some ((Net.mk 0 0 0 ([])),false)) | .inr _=>(some ((Net.mk 0 0 0 ([])),false))
def Z4u (b0:List Int):Option (Net×Int) :=
  Option.bind (Z7y b0) fun (r3,r4) =>
  if (!r4)=true then
  (some ((Net.mk 0 0 0 ([])),70))
  else
  Option.bind (Gw r3) fun a0 =>
  if a0≠0 then
  (some ((Net.mk 0 0 0 ([])),a0))
  else
  some (r3,0)
end Go.Acq
namespace Go.Acq
open Go
structure CheckAnswer where
  Net:Net
  f:List Int
  s:List Bool
  out:List Int
  deriving DecidableEq
instance:Inhabited CheckAnswer:=⟨⟨default,default,default,default⟩⟩
structure CheckAsks where
  e:Int
  deriving DecidableEq
instance:Inhabited CheckAsks:=⟨⟨default⟩⟩
def Z7f (a0:CheckAnswer):Option (Bool) :=
  if (a0.f.length:Int)=(a0.Net.Arcs.length:Int) then
  (some (decide ((a0.s.length:Int)=a0.Net.N)))
  else
  some false
def Z2q (a0:CheckAnswer)(x1:Int):Option ((Int)⊕(Bool⊕Unit)) :=
  if x1<(a0.Net.Arcs.length:Int) then
  (gd (inb x1 a0.Net.Arcs.length) <|
  gd (inb x1 a0.f.length) <|
  if (a0.f.getD x1.toNat 0)<0 then
  (some (.inr (.inl false)))
  else
  gd (inb x1 a0.f.length) <|
  if ((a0.Net.Arcs.getD x1.toNat default).cap)<(a0.f.getD x1.toNat 0) then
  (some (.inr (.inl false)))
  else
  gd (i64ok (x1+1)) <|
  some (.inl (x1+1)))
  else
  some (.inr (.inr ()))
def Z67  : Option (Bool) :=
  some true
def Z6n (a0:CheckAnswer):Option (Bool) :=
  Option.bind (Xa (fun s=>Z2q a0 s) Xd 0) fun o=>match o with | .inl p1_0_0=>(some p1_0_0) | .inr ()=>Z67
def Z3a (a0:CheckAnswer)(a1:List Int)(x7:Int):Option ((List Int×Int)⊕(List Int)) :=
  if x7<(a0.Net.Arcs.length:Int) then
  (gd (inb x7 a0.Net.Arcs.length) <|
  gd (inb ((a0.Net.Arcs.getD x7.toNat default).fr) a1.length) <|
  gd (inb x7 a0.f.length) <|
  gd (i64ok ((a1.getD ((a0.Net.Arcs.getD x7.toNat default).fr).toNat 0)+(a0.f.getD x7.toNat 0))) <|
  gd (inb ((a0.Net.Arcs.getD x7.toNat default).fr) a1.length) <|
  gd (inb ((a0.Net.Arcs.getD x7.toNat default).to) (a1.set ((a0.Net.Arcs.getD x7.toNat default).fr).toNat ((a1.getD ((a0.Net.Arcs.getD x7.toNat default).fr).toNat 0)+(a0.f.getD x7.toNat 0))).length) <|
  gd (inb x7 a0.f.length) <|
  gd (i64ok (((a1.set ((a0.Net.Arcs.getD x7.toNat default).fr).toNat ((a1.getD ((a0.Net.Arcs.getD x7.toNat default).fr).toNat 0)+(a0.f.getD x7.toNat 0))).getD ((a0.Net.Arcs.getD x7.toNat default).to).toNat 0)-(a0.f.getD x7.toNat 0))) <|
  gd (inb ((a0.Net.Arcs.getD x7.toNat default).to) (a1.set ((a0.Net.Arcs.getD x7.toNat default).fr).toNat ((a1.getD ((a0.Net.Arcs.getD x7.toNat default).fr).toNat 0)+(a0.f.getD x7.toNat 0))).length) <|
  gd (i64ok (x7+1)) <|
  some (.inl (((a1.set ((a0.Net.Arcs.getD x7.toNat default).fr).toNat ((a1.getD ((a0.Net.Arcs.getD x7.toNat default).fr).toNat 0)+(a0.f.getD x7.toNat 0))).set ((a0.Net.Arcs.getD x7.toNat default).to).toNat (((a1.set ((a0.Net.Arcs.getD x7.toNat default).fr).toNat ((a1.getD ((a0.Net.Arcs.getD x7.toNat default).fr).toNat 0)+(a0.f.getD x7.toNat 0))).getD ((a0.Net.Arcs.getD x7.toNat default).to).toNat 0)-(a0.f.getD x7.toNat 0))),(x7+1))))
  else
  some (.inr a1)
def Z57 (a0:CheckAnswer)(a2:List Int)(a1:Int):Option ((Int)⊕((Bool×CheckAnswer)⊕Unit)) :=
  if a1<(a2.length:Int) then
  (gd (inb a1 a2.length) <|
  if (a2.getD a1.toNat 0)≠0 then
  (if a1≠a0.Net.S then
  (if a1≠a0.Net.T then
  (some (.inr (.inl (false,(CheckAnswer.mk a0.Net a0.f a0.s a2)))))
  else
  gd (i64ok (a1+1)) <|
  some (.inl (a1+1)))
  else
  gd (i64ok (a1+1)) <|
  some (.inl (a1+1)))
  else
  gd (i64ok (a1+1)) <|
  some (.inl (a1+1)))
  else
  some (.inr (.inr ()))
def Z8x (a0:CheckAnswer)(a1:List Int):Option (Bool×CheckAnswer) :=
  some (true,(CheckAnswer.mk a0.Net a0.f a0.s a1))
def Z6p (a0:CheckAnswer)(a1:List Int):Option (Bool×CheckAnswer) :=
  Option.bind (Xa (fun s=>Z57 a0 a1 s) Xd 0) fun o=>match o with | .inl (p3_0_0,p3_0_1)=>(some (p3_0_0,p3_0_1)) | .inr ()=>(Z8x a0 a1)
def Z6q (a0:CheckAnswer):Option (Bool×CheckAnswer) :=
  gd (mkok a0.Net.N) <|
  Option.bind (Xa (fun s=>Z3a a0 s.1 s.2) Xd ((List.replicate a0.Net.N.toNat (0:Int)),0)) fun p1_0_0=>Z6p a0 p1_0_0
def Z64 (a0:CheckAnswer):Option (Bool) :=
  gd (inb a0.Net.S a0.s.length) <|
  if (a0.s.getD a0.Net.S.toNat false)=true then
  (gd (inb a0.Net.T a0.s.length) <|
  some (!(a0.s.getD a0.Net.T.toNat false)))
  else
  some false
def Z3e (a0:CheckAnswer)(a1 x3:Int)(a2:Bool):Option ((Int×Int)⊕(Int)) :=
  if a2=true then
  (gd (i64ok (a1-((a0.Net.Arcs.getD x3.toNat default).cap))) <|
  gd (i64ok (x3+1)) <|
  some (.inl ((a1-((a0.Net.Arcs.getD x3.toNat default).cap)),(x3+1))))
  else
  gd (i64ok (x3+1)) <|
  some (.inl (a1,(x3+1)))
def Z3k (a0:CheckAnswer)(a1 x3:Int):Option ((Int×Int)⊕(Int)) :=
  if x3<(a0.Net.Arcs.length:Int) then
  (gd (inb x3 a0.Net.Arcs.length) <|
  gd (inb ((a0.Net.Arcs.getD x3.toNat default).fr) a0.s.length) <|
  if (a0.s.getD ((a0.Net.Arcs.getD x3.toNat default).fr).toNat false)=true then
  (gd (inb ((a0.Net.Arcs.getD x3.toNat default).to) a0.s.length) <|
  Z3e a0 a1 x3 (!(a0.s.getD ((a0.Net.Arcs.getD x3.toNat default).to).toNat false)))
  else
  Z3e a0 a1 x3 false)
  else
  some (.inr a1)
def Z7d (a0:Int):Option (Bool) :=
  some (decide (a0=0))
def Z8j (a0:CheckAnswer):Option (Bool) :=
  gd (inb a0.Net.S a0.out.length) <|
  Option.bind (Xa (fun s=>Z3k a0 s.1 s.2) Xd ((a0.out.getD a0.Net.S.toNat 0),0)) fun p1_0_0=>Z7d p1_0_0
def Z6y (a0:CheckAnswer)(a1:List Int):Option (Int×CheckAnswer) :=
  some (0,(CheckAnswer.mk a0.Net a0.f a0.s a1))
def Z4x (a0:CheckAnswer):Option (Int×CheckAnswer) :=
  Option.bind (Gw a0.Net) fun r3 =>
  if r3≠0 then
  (some (r3,a0))
  else
  Option.bind (Z7f a0) fun a2 =>
  if (!a2)=true then
  (some (60,a0))
  else
  Option.bind (Z6n a0) fun a3 =>
  if (!a3)=true then
  (some (61,a0))
  else
  Option.bind (Z6q a0) fun (a4,a1) =>
  if (!a4)=true then
  (some (62,(CheckAnswer.mk a0.Net a0.f a0.s a1.out)))
  else
  Option.bind (Z64 (CheckAnswer.mk a0.Net a0.f a0.s a1.out)) fun a5 =>
  if (!a5)=true then
  (some (63,(CheckAnswer.mk a0.Net a0.f a0.s a1.out)))
  else
  Option.bind (Z8j (CheckAnswer.mk a0.Net a0.f a0.s a1.out)) fun a6 =>
  if (!a6)=true then
  (some (64,(CheckAnswer.mk a0.Net a0.f a0.s a1.out)))
  else
  Z6y a0 a1.out
def Z6e (n0:Net)(f1:List Int)(s2:List Bool):Option (Int) :=
  Option.bind (Z4x (CheckAnswer.mk n0 f1 s2 ([]:List Int))) fun (r6,r7) =>
  some r6
def Z9f (n0:Net)(f1:List Int)(s2:List Bool):Option (Int×Bool) :=
  Option.bind (Z4x (CheckAnswer.mk n0 f1 s2 ([]:List Int))) fun (r6,r7) =>
  if r6≠0 then
  (some (0,false))
  else
  gd (inb n0.S r7.out.length) <|
  some ((r7.out.getD n0.S.toNat 0),true)
def Z0a (a0:List Int)(a1 a2:Int)(a3:Bool):Option ((List Int×Int)⊕((Plan×Bool)⊕(List Int))) :=
  if a3=true then
  (some (.inr (.inl ((Plan.mk 0 0 ([])),false))))
  else
  gd (inb a1 a0.length) <|
  gd (i64ok (a1+1)) <|
  some (.inl ((a0.set a1.toNat a2),(a1+1)))
def Z13 (a2:List Str)(a0:List Int)(a1:Int):Option ((List Int×Int)⊕((Plan×Bool)⊕(List Int))) :=
  if a1<(a2.length:Int) then
  (gd (inb a1 a2.length) <|
  Option.bind (Rp (a2.getD a1.toNat ([]:Str))) fun (a3,a4) =>
  if (!a4)=true then
  (Z0a a0 a1 a3 true)
  else
  Z0a a0 a1 a3 (decide (9<((a2.getD a1.toNat ([]:Str)).length:Int))))
  else
  some (.inr (.inr a0))
def Z1t (a0:List Int):Option (Plan×Bool) :=
  gd (inb 0 a0.length) <|
  gd (inb 1 a0.length) <|
  gd (0≤(2:Int)∧(2:Int)≤(a0.length:Int)) <|
  some ((Plan.mk (a0.getD (0:Int).toNat 0) (a0.getD (1:Int).toNat 0) (a0.drop (2:Int).toNat)),true)
def Z1a (a0:List Str)(a1:Bool):Option (Plan×Bool) :=
  if a1=true then
  (some ((Plan.mk 0 0 ([])),false))
  else
  gd (mkok (a0.length:Int)) <|
  Option.bind (Xa (fun s=>Z13 a0 s.1 s.2) Xd ((List.replicate ((a0.length:Int).toNat) (0:Int)),0)) fun o=>match o with | .inl (p2_0_0,p2_0_1)=>(some (p2_0_0,p2_0_1)) | .inr p2_1_0=>(Z1t p2_1_0)
def Ud (s0:Str):Option (Plan×Bool) :=
  Option.bind (Lp (ub s0)) fun a0 =>
  if (a0.length:Int)<2 then
  (Z1a a0 true)
  else
  Z1a a0 (decide (10002<(a0.length:Int)))
def Z74  : Option (Net) :=
  some (Net.mk 2 0 1 ([]))
def Z4q (n0:Net)(p1:Plan)(x6:Bool):Option (Int) :=
  if x6=true then
  (some 40)
  else
  if p1.Limit<1 then
  (some 2)
  else
  Option.bind (Gw n0) fun r9 =>
  some r9
def Z5v (n0:Net)(p1:Plan):Option (Int) :=
  if p1.Workers<1 then
  (Z4q n0 p1 true)
  else
  Z4q n0 p1 (decide (64<p1.Workers))
def Z6d (b0:List Int)(p1:Plan):Option (List Int×Int) :=
  Option.bind Z74 fun r3 =>
  Option.bind (Z5v r3 p1) fun a1 =>
  if a1≠0 then
  (some ([],a1))
  else
  Option.bind (Z4u b0) fun (a0,a2) =>
  if a2≠0 then
  (some ([],a2))
  else
  Option.bind (Z6j a0 p1) fun (a3,a9,a4) =>
  if a4≠0 then
  (some ([],a4))
  else
  Option.bind (Z6b a0 a3.Flow) fun (a5,a6) =>
  if a6≠0 then
  (some ([],a6))
  else
  Option.bind (Z92 a0 a3.Side) fun (a7,a8) =>
  if a8≠0 then
  (some ([],a8))
  else
  gd (apok (a5++a7).length 1) <|
  some ((a5++a7),0)
def Z37 (e0:Int):Option (List Int) :=
  Option.bind (Jf e0) fun r1 =>
  gd (slok (([101,114,114,111,114,32]:Str)++r1).length) <|
  gd (slok ((([101,114,114,111,114,32]:Str)++r1)++([10]:Str)).length) <|
  some (ub ((([101,114,114,111,114,32]:Str)++r1)++([10]:Str)))
def Z1v (a0:Str)(b1:List Int):Option (List Int) :=
  Option.bind (Ud a0) fun (r1,r2) =>
  if (!r2)=true then
  (Option.bind (Z37 70) fun a2 =>
  some a2)
  else
  Option.bind (Z6d b1 r1) fun (a3,a1) =>
  if a1≠0 then
  (Option.bind (Z37 a1) fun a4 =>
  some a4)
  else
  some a3
def Z41 (a1 a2 a0:List Int)(a3:Bool):Option ((List Int×List Int)⊕(Empty)) :=
  if a3=true then
  (gd ((a2++a0).length≤64∧1≤(a2++a0).length) <|
  gd ((a2++a0).length<64) <|
  some (.inl (a1,((a2++a0)++([10])))))
  else
  gd ((a1++a0).length≤64∧1≤(a1++a0).length) <|
  gd ((a1++a0).length<64) <|
  some (.inl (((a1++a0)++([10])),a2))
def Z2j (a2 a3 a0:List Int):Option ((List Int×List Int)⊕(Empty)) :=
  Option.bind (Lp a0) fun a1 =>
  if 0<(a1.length:Int) then
  (gd (inb 0 a1.length) <|
  Z41 a2 a3 a0 (decide ((a1.getD (0:Int).toNat ([]:Str))=([107]:Str))))
  else
  Z41 a2 a3 a0 false
def Z8o (a0:List Int):Option (List Int×List Int) :=
  Option.bind (Z2i a0 ([10])) fun _ =>
  Option.bind (Rm (fun s v=>Z2j s.1 s.2 v) ([10]) a0 0 (.inl ([],[]))) fun t=>match t with | .inl (a1,a2)=>(some (a1,a2)) | .inr x=>nomatch x
def Z9j (n0:Net)(a0:List Int):Option (Int×Int) :=
  Option.bind (Z8o a0) fun (r3,r4) =>
  Option.bind (Z9h n0 r3) fun (a1,a2) =>
  if a2≠0 then
  (some (0,a2))
  else
  Option.bind (Z9b n0 r4) fun (a3,a4) =>
  if a4≠0 then
  (some (0,a4))
  else
  Option.bind (Z9f n0 a1 a3) fun (a5,a7) =>
  Option.bind (Z6e n0 a1 a3) fun a6 =>
  some (a5,a6)
def Z30 (b0 a0:List Int):Option (Int×Int) :=
  Option.bind (Z4u b0) fun (r1,r2) =>
  if r2≠0 then
  (some (0,r2))
  else
  Option.bind (Z9j r1 a0) fun (a1,a2) =>
  some (a1,a2)
def Z56 (a0:Bool):Option (Bool) :=
  some a0
def Z34 (a0:Int)(a1:Bool):Option (Bool) :=
  if a1=true then
  (Z56 (decide (a0=7)))
  else
  Z56 false
def Z3f (a0 a1:Int)(a2:Bool):Option (Bool) :=
  if a2=true then
  (Z34 a0 (decide (a1=0)))
  else
  Z34 a0 false
def Z09  : Option (Bool) :=
  Option.bind (Z30 ([112,32,109,97,120,32,50,32,49,10,110,32,49,32,115,10,110,32,50,32,116,10,97,32,49,32,50,32,55,10]) ([115,32,54,10,102,32,49,32,50,32,54,10,107,32,49,10])) fun (r7,r8) =>
  Option.bind (Z30 ([112,32,109,97,120,32,50,32,49,10,110,32,49,32,115,10,110,32,50,32,116,10,97,32,49,32,50,32,55,10]) ([115,32,55,10,102,32,49,32,50,32,55,10,107,32,49,10])) fun (a0,a1) =>
  Option.bind (Z1v ([50,32,53]:Str) ([112,32,109,97,120,32,50,32,49,10,110,32,49,32,115,10,110,32,50,32,116,10,97,32,49,32,50,32,55,10])) fun a2 =>
  if (bu a2)=([115,32,55,10,102,32,49,32,50,32,55,10,107,32,49,10]:Str) then
  (Option.bind (Z1v ([48,32,53]:Str) ([112,32,109,97,120,32,50,32,49,10,110,32,49,32,115,10,110,32,50,32,116,10,97,32,49,32,50,32,55,10])) fun a3 =>
  if (bu a3)=([101,114,114,111,114,32,52,48,10]:Str) then
  (Option.bind (Z1v ([50]:Str) ([112,32,109,97,120,32,50,32,49,10,110,32,49,32,115,10,110,32,50,32,116,10,97,32,49,32,50,32,55,10])) fun a4 =>
  if (bu a4)=([101,114,114,111,114,32,55,48,10]:Str) then
  (Z3f a0 a1 (decide (r8=64)))
  else
  Z3f a0 a1 false)
  else
  some false)
  else
  some false
def Z2f (p0:Plan)(a0:Str)(a1:Int):Option ((Str×Int)⊕(Str)) :=
  if a1<(p0.Picks.length:Int) then
  (gd (inb a1 p0.Picks.length) <|
  Option.bind (Jf (p0.Picks.getD a1.toNat 0)) fun a2 =>
  gd (slok (([32]:Str)++a2).length) <|
  gd (slok (a0++(([32]:Str)++a2)).length) <|
  gd (i64ok (a1+1)) <|
  some (.inl ((a0++(([32]:Str)++a2)),(a1+1))))
  else
  some (.inr a0)
def Z20 (a0:Str):Option (Str) :=
  some a0
def Nl (p0:Plan):Option (Str) :=
  Option.bind (Jf p0.Workers) fun r3 =>
  gd (slok (r3++([32]:Str)).length) <|
  Option.bind (Jf p0.Limit) fun r6 =>
  gd (slok ((r3++([32]:Str))++r6).length) <|
  Option.bind (Xa (fun s=>Z2f p0 s.1 s.2) Xd (((r3++([32]:Str))++r6),0)) fun p1_0_0=>Z20 p1_0_0
end Go.Acq
namespace Go.Acq
open Go
def Ly (x0:List Str)(s1:Str):Option (Str) :=
  gd (x0.length≤140737488355328∧(Lib.join x0 s1).length≤140737488355328)<|some (Lib.join x0 s1)
def Z1c (l0:List Int)(a0:List Str)(a1:Int):Option ((List Str×Int)⊕(List Str)) :=
  if a1<(l0.length:Int) then
  (gd (inb a1 l0.length) <|
  gd (i64ok ((l0.getD a1.toNat 0).tmod 1000000000)) <|
  Option.bind (Jf ((l0.getD a1.toNat 0).tmod 1000000000)) fun a2 =>
  gd (apok (a0++([a2])).length 16) <|
  gd (i64ok (a1+1)) <|
  some (.inl ((a0++([a2])),(a1+1))))
  else
  some (.inr a0)
def Z0m  : Option (Bool) :=
  Option.bind (Ud ([49,32,49,48,48,48,48,48,48,48,48,48]:Str)) fun (a3,a0) =>
  Option.bind (Ud ([49,32,45,49]:Str)) fun (a4,a1) =>
  if (!a0)=true then
  (if (!a1)=true then
  (Option.bind Z09 fun a2 =>
  some a2)
  else
  some false)
  else
  some false
def Z0t  : Option (Bool) :=
  Option.bind (Ud ([49,32,49,48,48,48,48,48,48,48,48,48]:Str)) fun (a3,a0) =>
  Option.bind (Ud ([49,32,45,49]:Str)) fun (a4,a1) =>
  if (!a0)=true then
  (if (!a1)=true then
  (Option.bind Z09 fun a2 =>
  some a2)
  else
  some false)
  else
  some false
def Z52 (a2:Str)(a0:List Str):Option (Bool) :=
  Option.bind (Ly a0 ([32,32]:Str)) fun b7 =>
  Option.bind (Ud b7) fun (b1,b6) =>
  if (!(b6==(decide (2≤(a0.length:Int)))))=true then
  (some false)
  else
  if b6=true then
  (gd (i64ok ((a0.length:Int)-2)) <|
  if (b1.Picks.length:Int)≠((a0.length:Int)-2) then
  (some false)
  else
  Option.bind (Nl b1) fun b8 =>
  Option.bind (Ly a0 ([32]:Str)) fun c0 =>
  if ¬(b8=c0) then
  (some false)
  else
  Option.bind (Ud a2) fun (a4,c1) =>
  if c1=true then
  (Option.bind (Nl a4) fun c2 =>
  Option.bind (Ud c2) fun (a5,c3) =>
  if (!c3)=true then
  (some false)
  else
  if a5.Workers≠a4.Workers then
  (some false)
  else
  if a5.Limit≠a4.Limit then
  (some false)
  else
  Option.bind (Rn a5.Picks a4.Picks) fun a6 =>
  if (!a6)=true then
  (some false)
  else
  Z0m)
  else
  Z0m)
  else
  Option.bind (Ud a2) fun (a1,a7) =>
  if a7=true then
  (Option.bind (Nl a1) fun a8 =>
  Option.bind (Ud a8) fun (a3,a9) =>
  if (!a9)=true then
  (some false)
  else
  if a3.Workers≠a1.Workers then
  (some false)
  else
  if a3.Limit≠a1.Limit then
  (some false)
  else
  Option.bind (Rn a3.Picks a1.Picks) fun b0 =>
  if (!b0)=true then
  (some false)
  else
  Z0t)
  else
  Z0t
def Z06 (l0:List Int)(a0:Str)(x2:Bool):Option (Bool) :=
  if x2=true then
  (Option.bind Z09 fun r4 =>
  some r4)
  else
  Option.bind (Xa (fun s=>Z1c l0 s.1 s.2) Xd ([],0)) fun p2_0_0=>Z52 a0 p2_0_0
def Z40 (l0:List Int)(a0:Str):Option (Bool) :=
  if 50<(l0.length:Int) then
  (Z06 l0 a0 true)
  else
  Z06 l0 a0 (decide (300<(a0.length:Int)))
end Go.Acq
namespace Go.Proofs
open Go.Shelf
def Zib:Go.Shelf.Ren:=⟨fun | 171=>18 | 243=>45 | 246=>55 | 283=>94 | 284=>95 | 285=>96 | 286=>97 | 129=>139 | 317=>138 | 318=>140 | 319=>141 | 320=>142 | 337=>184 | 338=>185 | n=>n,fun | 3=>3 | 9=>9 | 2=>2 | 4=>4 | 171=>170 | 0=>0 | 53=>171 | 37=>27 | 5=>5 | 173=>174 | 212=>228 | 51=>56 | 20=>20 | 213=>229 | 46=>188 | 232=>343 | 233=>344 | n=>n,fun | 17=>4 | 18=>7 | 19=>8 | n=>n⟩
theorem Zjl:Go.Proofs.LaysM.n171 Tryz.prog Zib:={
 mixed:=by kernel_rfl
 f129:=Tryz.func139.trans (congrArg some (by kernel_rfl))
 f171:=Tryz.func18.trans (congrArg some (by kernel_rfl))
 f243:=Tryz.func45.trans (congrArg some (by kernel_rfl))
 f246:=Tryz.func55.trans (congrArg some (by kernel_rfl))
 f283:=Tryz.func94.trans (congrArg some (by kernel_rfl))
 f284:=Tryz.func95.trans (congrArg some (by kernel_rfl))
 f285:=Tryz.func96.trans (congrArg some (by kernel_rfl))
 f286:=Tryz.func97.trans (congrArg some (by kernel_rfl))
 f317:=Tryz.func138.trans (congrArg some (by kernel_rfl))
 f318:=Tryz.func140.trans (congrArg some (by kernel_rfl))
 f319:=Tryz.func141.trans (congrArg some (by kernel_rfl))
 f320:=Tryz.func142.trans (congrArg some (by kernel_rfl))
 f337:=Tryz.func184.trans (congrArg some (by kernel_rfl))
 f338:=Tryz.func185.trans (congrArg some (by kernel_rfl))
 t0:=Tryz.underlying0
 a0:=Tryz.isAgg0
 z0:=Tryz.sizeOf0
 v0:=Tryz.zeroValue0
 t2:=Tryz.underlying2
 a2:=Tryz.isAgg2
 z2:=Tryz.sizeOf2
 v2:=Tryz.zeroValue2
 t3:=Tryz.underlying3
 a3:=Tryz.isAgg3
 z3:=Tryz.sizeOf3
 v3:=Tryz.zeroValue3
 t4:=Tryz.underlying4
 a4:=Tryz.isAgg4
 z4:=Tryz.sizeOf4
 v4:=Tryz.zeroValue4
 t5:=Tryz.underlying5
 a5:=Tryz.isAgg5
 z5:=Tryz.sizeOf5
 v5:=Tryz.zeroValue5
 t9:=Tryz.underlying9
 a9:=Tryz.isAgg9
 z9:=Tryz.sizeOf9
 v9:=Tryz.zeroValue9
 t20:=Tryz.underlying20
 a20:=Tryz.isAgg20
 z20:=Tryz.sizeOf20
 v20:=Tryz.zeroValue20
 t37:=Tryz.underlying27
 a37:=Tryz.isAgg27
 z37:=Tryz.sizeOf27
 v37:=Tryz.zeroValue27
 t46:=Tryz.underlying188
 a46:=Tryz.isAgg188
 z46:=Tryz.sizeOf188
 v46:=Tryz.zeroValue188
 t51:=Tryz.underlying56
 a51:=Tryz.isAgg56
 z51:=Tryz.sizeOf56
 v51:=Tryz.zeroValue56
 t53:=Tryz.underlying171
 a53:=Tryz.isAgg171
 z53:=Tryz.sizeOf171
 v53:=Tryz.zeroValue171
 t171:=Tryz.underlying170
 a171:=Tryz.isAgg170
 z171:=Tryz.sizeOf170
 v171:=Tryz.zeroValue170
 t173:=Tryz.underlying174
 a173:=Tryz.isAgg174
 z173:=Tryz.sizeOf174
 v173:=Tryz.zeroValue174
 t212:=Tryz.underlying228
 a212:=Tryz.isAgg228
 z212:=Tryz.sizeOf228
 v212:=Tryz.zeroValue228
 t213:=Tryz.underlying229
 a213:=Tryz.isAgg229
 z213:=Tryz.sizeOf229
 t232:=Tryz.underlying343
 a232:=Tryz.isAgg343
 z232:=Tryz.sizeOf343
 v232:=Tryz.zeroValue343
 t233:=Tryz.underlying344
 a233:=Tryz.isAgg344
 z233:=Tryz.sizeOf344
 v233:=Tryz.zeroValue344
 g17:=by kernel_rfl
 g18:=by kernel_rfl
 g19:=by kernel_rfl
 i0:=by kernel_rfl
 i2:=by kernel_rfl
 i3:=by kernel_rfl
 i4:=by kernel_rfl
 i5:=by kernel_rfl
 i9:=by kernel_rfl
 i20:=by kernel_rfl
 i37:=by kernel_rfl
 i46:=by kernel_rfl
 i51:=by kernel_rfl
 i53:=by kernel_rfl
 i171:=by kernel_rfl
 i173:=by kernel_rfl
 i212:=by kernel_rfl
 i232:=by kernel_rfl
 i233:=by kernel_rfl
 m17:=by kernel_rfl
 m18:=by kernel_rfl
 m19:=by kernel_rfl }
def Zim:Go.Shelf.Ren:=⟨fun | 173=>27 | 246=>55 | 283=>94 | 284=>95 | 285=>96 | 286=>97 | 129=>139 | 317=>138 | 318=>140 | 319=>141 | 320=>142 | 337=>184 | 338=>185 | n=>n,fun | 2=>2 | 3=>3 | 9=>9 | 4=>4 | 171=>170 | 0=>0 | 53=>171 | 37=>27 | 5=>5 | 173=>174 | 212=>228 | 51=>56 | 20=>20 | 213=>229 | 46=>188 | 232=>343 | 233=>344 | n=>n,fun | 17=>4 | 18=>7 | 19=>8 | n=>n⟩
theorem Zho:Go.Proofs.LaysM.n173 Tryz.prog Zim:={
 mixed:=by kernel_rfl
 f129:=Tryz.func139.trans (congrArg some (by kernel_rfl))
 f173:=Tryz.func27.trans (congrArg some (by kernel_rfl))
 f246:=Tryz.func55.trans (congrArg some (by kernel_rfl))
 f283:=Tryz.func94.trans (congrArg some (by kernel_rfl))
 f284:=Tryz.func95.trans (congrArg some (by kernel_rfl))
 f285:=Tryz.func96.trans (congrArg some (by kernel_rfl))
 f286:=Tryz.func97.trans (congrArg some (by kernel_rfl))
 f317:=Tryz.func138.trans (congrArg some (by kernel_rfl))
 f318:=Tryz.func140.trans (congrArg some (by kernel_rfl))
 f319:=Tryz.func141.trans (congrArg some (by kernel_rfl))
 f320:=Tryz.func142.trans (congrArg some (by kernel_rfl))
 f337:=Tryz.func184.trans (congrArg some (by kernel_rfl))
 f338:=Tryz.func185.trans (congrArg some (by kernel_rfl))
 t0:=Tryz.underlying0
 a0:=Tryz.isAgg0
 z0:=Tryz.sizeOf0
 v0:=Tryz.zeroValue0
 t2:=Tryz.underlying2
 a2:=Tryz.isAgg2
 z2:=Tryz.sizeOf2
 v2:=Tryz.zeroValue2
 t3:=Tryz.underlying3
 a3:=Tryz.isAgg3
 z3:=Tryz.sizeOf3
 v3:=Tryz.zeroValue3
 t4:=Tryz.underlying4
 a4:=Tryz.isAgg4
 z4:=Tryz.sizeOf4
 v4:=Tryz.zeroValue4
 t5:=Tryz.underlying5
 a5:=Tryz.isAgg5
 z5:=Tryz.sizeOf5
 v5:=Tryz.zeroValue5
 t9:=Tryz.underlying9
 a9:=Tryz.isAgg9
 z9:=Tryz.sizeOf9
 v9:=Tryz.zeroValue9
 t20:=Tryz.underlying20
 a20:=Tryz.isAgg20
 z20:=Tryz.sizeOf20
 v20:=Tryz.zeroValue20
 t37:=Tryz.underlying27
 a37:=Tryz.isAgg27
 z37:=Tryz.sizeOf27
 v37:=Tryz.zeroValue27
 t46:=Tryz.underlying188
 a46:=Tryz.isAgg188
 z46:=Tryz.sizeOf188
 v46:=Tryz.zeroValue188
 t51:=Tryz.underlying56
 a51:=Tryz.isAgg56
 z51:=Tryz.sizeOf56
 v51:=Tryz.zeroValue56
 t53:=Tryz.underlying171
 a53:=Tryz.isAgg171
 z53:=Tryz.sizeOf171
 v53:=Tryz.zeroValue171
 t171:=Tryz.underlying170
 a171:=Tryz.isAgg170
 z171:=Tryz.sizeOf170
 v171:=Tryz.zeroValue170
 t173:=Tryz.underlying174
 a173:=Tryz.isAgg174
 z173:=Tryz.sizeOf174
 v173:=Tryz.zeroValue174
 t212:=Tryz.underlying228
 a212:=Tryz.isAgg228
 z212:=Tryz.sizeOf228
 v212:=Tryz.zeroValue228
 t213:=Tryz.underlying229
 a213:=Tryz.isAgg229
 z213:=Tryz.sizeOf229
 t232:=Tryz.underlying343
 a232:=Tryz.isAgg343
 z232:=Tryz.sizeOf343
 v232:=Tryz.zeroValue343
 t233:=Tryz.underlying344
 a233:=Tryz.isAgg344
 z233:=Tryz.sizeOf344
 v233:=Tryz.zeroValue344
 g17:=by kernel_rfl
 g18:=by kernel_rfl
 g19:=by kernel_rfl
 i0:=by kernel_rfl
 i2:=by kernel_rfl
 i3:=by kernel_rfl
 i4:=by kernel_rfl
 i5:=by kernel_rfl
 i9:=by kernel_rfl
 i20:=by kernel_rfl
 i37:=by kernel_rfl
 i46:=by kernel_rfl
 i51:=by kernel_rfl
 i53:=by kernel_rfl
 i171:=by kernel_rfl
 i173:=by kernel_rfl
 i212:=by kernel_rfl
 i232:=by kernel_rfl
 i233:=by kernel_rfl
 m17:=by kernel_rfl
 m18:=by kernel_rfl
 m19:=by kernel_rfl }
def Z3u:Go.Shelf.Ren:=⟨fun | 178=>54 | 251=>92 | 252=>93 | 181=>135 | 184=>136 | 290=>137 | 324=>183 | n=>n,fun | 130=>71 | 9=>9 | 3=>3 | 75=>95 | 0=>0 | 93=>69 | 91=>67 | 131=>167 | 4=>4 | 37=>27 | 20=>20 | 80=>100 | 5=>5 | n=>n,fun | 14=>3 | n=>n⟩
theorem Z7x:Go.Proofs.LaysM.n178 Tryz.prog Z3u:={
 mixed:=by kernel_rfl
 f178:=Tryz.func54.trans (congrArg some (by kernel_rfl))
 f181:=Tryz.func135.trans (congrArg some (by kernel_rfl))
 f184:=Tryz.func136.trans (congrArg some (by kernel_rfl))
 f251:=Tryz.func92.trans (congrArg some (by kernel_rfl))
 f252:=Tryz.func93.trans (congrArg some (by kernel_rfl))
 f290:=Tryz.func137.trans (congrArg some (by kernel_rfl))
 f324:=Tryz.func183.trans (congrArg some (by kernel_rfl))
 t0:=Tryz.underlying0
 a0:=Tryz.isAgg0
 z0:=Tryz.sizeOf0
 v0:=Tryz.zeroValue0
 t3:=Tryz.underlying3
 a3:=Tryz.isAgg3
 z3:=Tryz.sizeOf3
 v3:=Tryz.zeroValue3
 t4:=Tryz.underlying4
 a4:=Tryz.isAgg4
 z4:=Tryz.sizeOf4
 v4:=Tryz.zeroValue4
 t9:=Tryz.underlying9
 a9:=Tryz.isAgg9
 z9:=Tryz.sizeOf9
 v9:=Tryz.zeroValue9
 t20:=Tryz.underlying20
 a20:=Tryz.isAgg20
 z20:=Tryz.sizeOf20
 v20:=Tryz.zeroValue20
 t37:=Tryz.underlying27
 a37:=Tryz.isAgg27
 z37:=Tryz.sizeOf27
 v37:=Tryz.zeroValue27
 t75:=Tryz.underlying95
 a75:=Tryz.isAgg95
 z75:=Tryz.sizeOf95
 v75:=Tryz.zeroValue95
 t91:=Tryz.underlying67
 a91:=Tryz.isAgg67
 z91:=Tryz.sizeOf67
 v91:=Tryz.zeroValue67
 t93:=Tryz.underlying69
 a93:=Tryz.isAgg69
 z93:=Tryz.sizeOf69
 v93:=Tryz.zeroValue69
 t130:=Tryz.underlying71
 a130:=Tryz.isAgg71
 z130:=Tryz.sizeOf71
 v130:=Tryz.zeroValue71
 t131:=Tryz.underlying167
 a131:=Tryz.isAgg167
 z131:=Tryz.sizeOf167
 v131:=Tryz.zeroValue167
 g14:=by kernel_rfl
 t5:=Tryz.underlying5
 a5:=Tryz.isAgg5
 z5:=Tryz.sizeOf5
 v5:=Tryz.zeroValue5
 t80:=Tryz.underlying100
 a80:=Tryz.isAgg100
 z80:=Tryz.sizeOf100
 v80:=Tryz.zeroValue100
 i0:=by kernel_rfl
 i3:=by kernel_rfl
 i4:=by kernel_rfl
 i5:=by kernel_rfl
 i9:=by kernel_rfl
 i20:=by kernel_rfl
 i37:=by kernel_rfl
 i75:=by kernel_rfl
 i80:=by kernel_rfl
 i91:=by kernel_rfl
 i93:=by kernel_rfl
 i130:=by kernel_rfl
 i131:=by kernel_rfl
 m14:=by kernel_rfl }
def Z5q:Go.Shelf.Ren:=⟨fun | 179=>102 | 251=>92 | 252=>93 | 181=>135 | 184=>136 | 290=>137 | 324=>183 | n=>n,fun | 130=>71 | 5=>5 | 75=>95 | 0=>0 | 93=>69 | 91=>67 | 3=>3 | 131=>167 | 4=>4 | 37=>27 | 20=>20 | 80=>100 | 9=>9 | n=>n,fun | 14=>3 | n=>n⟩
theorem Zbm:Go.Proofs.LaysM.n179 Tryz.prog Z5q:={
 mixed:=by kernel_rfl
 f179:=Tryz.func102.trans (congrArg some (by kernel_rfl))
 f181:=Tryz.func135.trans (congrArg some (by kernel_rfl))
 f184:=Tryz.func136.trans (congrArg some (by kernel_rfl))
 f251:=Tryz.func92.trans (congrArg some (by kernel_rfl))
 f252:=Tryz.func93.trans (congrArg some (by kernel_rfl))
 f290:=Tryz.func137.trans (congrArg some (by kernel_rfl))
 f324:=Tryz.func183.trans (congrArg some (by kernel_rfl))
 t0:=Tryz.underlying0
 a0:=Tryz.isAgg0
 z0:=Tryz.sizeOf0
 v0:=Tryz.zeroValue0
 t3:=Tryz.underlying3
 a3:=Tryz.isAgg3
 z3:=Tryz.sizeOf3
 v3:=Tryz.zeroValue3
 t4:=Tryz.underlying4
 a4:=Tryz.isAgg4
 z4:=Tryz.sizeOf4
 v4:=Tryz.zeroValue4
 t5:=Tryz.underlying5
 a5:=Tryz.isAgg5
 z5:=Tryz.sizeOf5
 v5:=Tryz.zeroValue5
 t20:=Tryz.underlying20
 a20:=Tryz.isAgg20
 z20:=Tryz.sizeOf20
 v20:=Tryz.zeroValue20
 t37:=Tryz.underlying27
 a37:=Tryz.isAgg27
 z37:=Tryz.sizeOf27
 v37:=Tryz.zeroValue27
 t75:=Tryz.underlying95
 a75:=Tryz.isAgg95
 z75:=Tryz.sizeOf95
 v75:=Tryz.zeroValue95
 t91:=Tryz.underlying67
 a91:=Tryz.isAgg67
 z91:=Tryz.sizeOf67
 v91:=Tryz.zeroValue67
 t93:=Tryz.underlying69
 a93:=Tryz.isAgg69
 z93:=Tryz.sizeOf69
 v93:=Tryz.zeroValue69
 t130:=Tryz.underlying71
 a130:=Tryz.isAgg71
 z130:=Tryz.sizeOf71
 v130:=Tryz.zeroValue71
 t131:=Tryz.underlying167
 a131:=Tryz.isAgg167
 z131:=Tryz.sizeOf167
 v131:=Tryz.zeroValue167
 g14:=by kernel_rfl
 t9:=Tryz.underlying9
 a9:=Tryz.isAgg9
 z9:=Tryz.sizeOf9
 v9:=Tryz.zeroValue9
 t80:=Tryz.underlying100
 a80:=Tryz.isAgg100
 z80:=Tryz.sizeOf100
 v80:=Tryz.zeroValue100
 i0:=by kernel_rfl
 i3:=by kernel_rfl
 i4:=by kernel_rfl
 i5:=by kernel_rfl
 i9:=by kernel_rfl
 i20:=by kernel_rfl
 i37:=by kernel_rfl
 i75:=by kernel_rfl
 i80:=by kernel_rfl
 i91:=by kernel_rfl
 i93:=by kernel_rfl
 i130:=by kernel_rfl
 i131:=by kernel_rfl
 m14:=by kernel_rfl }
def Z78:Go.Shelf.Ren:=⟨fun | 180=>101 | 251=>92 | 252=>93 | 181=>135 | 184=>136 | 290=>137 | 324=>183 | n=>n,fun | 130=>71 | 37=>27 | 3=>3 | 75=>95 | 0=>0 | 93=>69 | 91=>67 | 131=>167 | 4=>4 | 20=>20 | 5=>5 | 80=>100 | 9=>9 | n=>n,fun | 14=>3 | n=>n⟩
theorem Zb7:Go.Proofs.LaysM.n180 Tryz.prog Z78:={
 mixed:=by kernel_rfl
 f180:=Tryz.func101.trans (congrArg some (by kernel_rfl))
 f181:=Tryz.func135.trans (congrArg some (by kernel_rfl))
 f184:=Tryz.func136.trans (congrArg some (by kernel_rfl))
 f251:=Tryz.func92.trans (congrArg some (by kernel_rfl))
 f252:=Tryz.func93.trans (congrArg some (by kernel_rfl))
 f290:=Tryz.func137.trans (congrArg some (by kernel_rfl))
 f324:=Tryz.func183.trans (congrArg some (by kernel_rfl))
 t0:=Tryz.underlying0
 a0:=Tryz.isAgg0
 z0:=Tryz.sizeOf0
 v0:=Tryz.zeroValue0
 t3:=Tryz.underlying3
 a3:=Tryz.isAgg3
 z3:=Tryz.sizeOf3
 v3:=Tryz.zeroValue3
 t4:=Tryz.underlying4
 a4:=Tryz.isAgg4
 z4:=Tryz.sizeOf4
 v4:=Tryz.zeroValue4
 t20:=Tryz.underlying20
 a20:=Tryz.isAgg20
 z20:=Tryz.sizeOf20
 v20:=Tryz.zeroValue20
 t37:=Tryz.underlying27
 a37:=Tryz.isAgg27
 z37:=Tryz.sizeOf27
 v37:=Tryz.zeroValue27
 t75:=Tryz.underlying95
 a75:=Tryz.isAgg95
 z75:=Tryz.sizeOf95
 v75:=Tryz.zeroValue95
 t91:=Tryz.underlying67
 a91:=Tryz.isAgg67
 z91:=Tryz.sizeOf67
 v91:=Tryz.zeroValue67
 t93:=Tryz.underlying69
 a93:=Tryz.isAgg69
 z93:=Tryz.sizeOf69
 v93:=Tryz.zeroValue69
 t130:=Tryz.underlying71
 a130:=Tryz.isAgg71
 z130:=Tryz.sizeOf71
 v130:=Tryz.zeroValue71
 t131:=Tryz.underlying167
 a131:=Tryz.isAgg167
 z131:=Tryz.sizeOf167
 v131:=Tryz.zeroValue167
 g14:=by kernel_rfl
 t5:=Tryz.underlying5
 a5:=Tryz.isAgg5
 z5:=Tryz.sizeOf5
 v5:=Tryz.zeroValue5
 t9:=Tryz.underlying9
 a9:=Tryz.isAgg9
 z9:=Tryz.sizeOf9
 v9:=Tryz.zeroValue9
 t80:=Tryz.underlying100
 a80:=Tryz.isAgg100
 z80:=Tryz.sizeOf100
 v80:=Tryz.zeroValue100
 i0:=by kernel_rfl
 i3:=by kernel_rfl
 i4:=by kernel_rfl
 i5:=by kernel_rfl
 i9:=by kernel_rfl
 i20:=by kernel_rfl
 i37:=by kernel_rfl
 i75:=by kernel_rfl
 i80:=by kernel_rfl
 i91:=by kernel_rfl
 i93:=by kernel_rfl
 i130:=by kernel_rfl
 i131:=by kernel_rfl
 m14:=by kernel_rfl }
def Z1o:Go.Shelf.Ren:=⟨fun | 183=>28 | n=>n,fun | 130=>71 | 37=>27 | 0=>0 | 93=>69 | 3=>3 | 5=>5 | 91=>67 | n=>n,fun | n=>n⟩
theorem Z3i:Go.Proofs.LaysM.n183 Tryz.prog Z1o:={
 mixed:=by kernel_rfl
 f183:=Tryz.func28.trans (congrArg some (by kernel_rfl))
 t0:=Tryz.underlying0
 a0:=Tryz.isAgg0
 z0:=Tryz.sizeOf0
 v0:=Tryz.zeroValue0
 t3:=Tryz.underlying3
 a3:=Tryz.isAgg3
 z3:=Tryz.sizeOf3
 v3:=Tryz.zeroValue3
 t37:=Tryz.underlying27
 a37:=Tryz.isAgg27
 z37:=Tryz.sizeOf27
 v37:=Tryz.zeroValue27
 t93:=Tryz.underlying69
 a93:=Tryz.isAgg69
 z93:=Tryz.sizeOf69
 v93:=Tryz.zeroValue69
 t130:=Tryz.underlying71
 a130:=Tryz.isAgg71
 z130:=Tryz.sizeOf71
 v130:=Tryz.zeroValue71
 t5:=Tryz.underlying5
 a5:=Tryz.isAgg5
 z5:=Tryz.sizeOf5
 v5:=Tryz.zeroValue5
 t91:=Tryz.underlying67
 a91:=Tryz.isAgg67
 z91:=Tryz.sizeOf67
 v91:=Tryz.zeroValue67
 i0:=by kernel_rfl
 i3:=by kernel_rfl
 i5:=by kernel_rfl
 i37:=by kernel_rfl
 i91:=by kernel_rfl
 i93:=by kernel_rfl
 i130:=by kernel_rfl }
def Ze2:Go.Shelf.Ren:=⟨fun | 174=>82 | 247=>130 | 245=>131 | 287=>177 | 279=>178 | 280=>179 | 281=>180 | 282=>181 | 321=>231 | 322=>232 | 316=>233 | 171=>18 | 205=>234 | 243=>45 | 246=>55 | 283=>94 | 284=>95 | 285=>96 | 286=>97 | 129=>139 | 317=>138 | 318=>140 | 319=>141 | 320=>142 | 337=>184 | 338=>185 | n=>n,fun | 9=>9 | 3=>3 | 2=>2 | 75=>95 | 85=>161 | 4=>4 | 167=>278 | 5=>5 | 53=>171 | 175=>279 | 46=>188 | 168=>281 | 37=>27 | 0=>0 | 210=>341 | 21=>21 | 127=>136 | 145=>392 | 143=>390 | 171=>170 | 173=>174 | 212=>228 | 51=>56 | 20=>20 | 213=>229 | 232=>343 | 233=>344 | 80=>100 | n=>n,fun | 15=>5 | 16=>6 | 17=>4 | 18=>7 | 19=>8 | n=>n⟩
theorem Zi3:Go.Proofs.LaysC.n174 Tryz.prog Ze2:={
 mixed:=by kernel_rfl
 f129:=Tryz.func139.trans (congrArg some (by kernel_rfl))
 f171:=Tryz.func18.trans (congrArg some (by kernel_rfl))
 f174:=Tryz.func82.trans (congrArg some (by kernel_rfl))
 f205:=Tryz.func234.trans (congrArg some (by kernel_rfl))
 f243:=Tryz.func45.trans (congrArg some (by kernel_rfl))
 f245:=Tryz.func131.trans (congrArg some (by kernel_rfl))
 f246:=Tryz.func55.trans (congrArg some (by kernel_rfl))
 f247:=Tryz.func130.trans (congrArg some (by kernel_rfl))
 f279:=Tryz.func178.trans (congrArg some (by kernel_rfl))
 f280:=Tryz.func179.trans (congrArg some (by kernel_rfl))
 f281:=Tryz.func180.trans (congrArg some (by kernel_rfl))
 f282:=Tryz.func181.trans (congrArg some (by kernel_rfl))
 f283:=Tryz.func94.trans (congrArg some (by kernel_rfl))
 f284:=Tryz.func95.trans (congrArg some (by kernel_rfl))
 f285:=Tryz.func96.trans (congrArg some (by kernel_rfl))
 f286:=Tryz.func97.trans (congrArg some (by kernel_rfl))
 f287:=Tryz.func177.trans (congrArg some (by kernel_rfl))
 f316:=Tryz.func233.trans (congrArg some (by kernel_rfl))
 f317:=Tryz.func138.trans (congrArg some (by kernel_rfl))
 f318:=Tryz.func140.trans (congrArg some (by kernel_rfl))
 f319:=Tryz.func141.trans (congrArg some (by kernel_rfl))
 f320:=Tryz.func142.trans (congrArg some (by kernel_rfl))
 f321:=Tryz.func231.trans (congrArg some (by kernel_rfl))
 f322:=Tryz.func232.trans (congrArg some (by kernel_rfl))
 f337:=Tryz.func184.trans (congrArg some (by kernel_rfl))
 f338:=Tryz.func185.trans (congrArg some (by kernel_rfl))
 t0:=Tryz.underlying0
 a0:=Tryz.isAgg0
 z0:=Tryz.sizeOf0
 v0:=Tryz.zeroValue0
 t2:=Tryz.underlying2
 a2:=Tryz.isAgg2
 z2:=Tryz.sizeOf2
 v2:=Tryz.zeroValue2
 t3:=Tryz.underlying3
 a3:=Tryz.isAgg3
 z3:=Tryz.sizeOf3
 v3:=Tryz.zeroValue3
 t4:=Tryz.underlying4
 a4:=Tryz.isAgg4
 z4:=Tryz.sizeOf4
 v4:=Tryz.zeroValue4
 t5:=Tryz.underlying5
 a5:=Tryz.isAgg5
 z5:=Tryz.sizeOf5
 v5:=Tryz.zeroValue5
 t9:=Tryz.underlying9
 a9:=Tryz.isAgg9
 z9:=Tryz.sizeOf9
 v9:=Tryz.zeroValue9
 t20:=Tryz.underlying20
 a20:=Tryz.isAgg20
 z20:=Tryz.sizeOf20
 v20:=Tryz.zeroValue20
 t21:=Tryz.underlying21
 a21:=Tryz.isAgg21
 z21:=Tryz.sizeOf21
 v21:=Tryz.zeroValue21
 t37:=Tryz.underlying27
 a37:=Tryz.isAgg27
 z37:=Tryz.sizeOf27
 v37:=Tryz.zeroValue27
 t46:=Tryz.underlying188
 a46:=Tryz.isAgg188
 z46:=Tryz.sizeOf188
 v46:=Tryz.zeroValue188
 t51:=Tryz.underlying56
 a51:=Tryz.isAgg56
 z51:=Tryz.sizeOf56
 v51:=Tryz.zeroValue56
 t53:=Tryz.underlying171
 a53:=Tryz.isAgg171
 z53:=Tryz.sizeOf171
 v53:=Tryz.zeroValue171
 t75:=Tryz.underlying95
 a75:=Tryz.isAgg95
 z75:=Tryz.sizeOf95
 v75:=Tryz.zeroValue95
 t85:=Tryz.underlying161
 a85:=Tryz.isAgg161
 z85:=Tryz.sizeOf161
 v85:=Tryz.zeroValue161
 t127:=Tryz.underlying136
 a127:=Tryz.isAgg136
 z127:=Tryz.sizeOf136
 v127:=Tryz.zeroValue136
 t143:=Tryz.underlying390
 a143:=Tryz.isAgg390
 z143:=Tryz.sizeOf390
 v143:=Tryz.zeroValue390
 t145:=Tryz.underlying392
 a145:=Tryz.isAgg392
 z145:=Tryz.sizeOf392
 v145:=Tryz.zeroValue392
 t167:=Tryz.underlying278
 a167:=Tryz.isAgg278
 z167:=Tryz.sizeOf278
 v167:=Tryz.zeroValue278
 t168:=Tryz.underlying281
 a168:=Tryz.isAgg281
 z168:=Tryz.sizeOf281
 v168:=Tryz.zeroValue281
 t171:=Tryz.underlying170
 a171:=Tryz.isAgg170
 z171:=Tryz.sizeOf170
 v171:=Tryz.zeroValue170
 t173:=Tryz.underlying174
 a173:=Tryz.isAgg174
 z173:=Tryz.sizeOf174
 v173:=Tryz.zeroValue174
 t175:=Tryz.underlying279
 a175:=Tryz.isAgg279
 z175:=Tryz.sizeOf279
 v175:=Tryz.zeroValue279
 t210:=Tryz.underlying341
 a210:=Tryz.isAgg341
 z210:=Tryz.sizeOf341
 v210:=Tryz.zeroValue341
 t212:=Tryz.underlying228
 a212:=Tryz.isAgg228
 z212:=Tryz.sizeOf228
 v212:=Tryz.zeroValue228
 t213:=Tryz.underlying229
 a213:=Tryz.isAgg229
 z213:=Tryz.sizeOf229
 t232:=Tryz.underlying343
 a232:=Tryz.isAgg343
 z232:=Tryz.sizeOf343
 v232:=Tryz.zeroValue343
 t233:=Tryz.underlying344
 a233:=Tryz.isAgg344
 z233:=Tryz.sizeOf344
 v233:=Tryz.zeroValue344
 g15:=by kernel_rfl
 g16:=by kernel_rfl
 g17:=by kernel_rfl
 g18:=by kernel_rfl
 g19:=by kernel_rfl
 t80:=Tryz.underlying100
 a80:=Tryz.isAgg100
 z80:=Tryz.sizeOf100
 v80:=Tryz.zeroValue100
 i0:=by kernel_rfl
 i2:=by kernel_rfl
 i3:=by kernel_rfl
 i4:=by kernel_rfl
 i5:=by kernel_rfl
 i9:=by kernel_rfl
 i20:=by kernel_rfl
 i21:=by kernel_rfl
 i37:=by kernel_rfl
 i46:=by kernel_rfl
 i51:=by kernel_rfl
 i53:=by kernel_rfl
 i75:=by kernel_rfl
 i80:=by kernel_rfl
 i85:=by kernel_rfl
 i127:=by kernel_rfl
 i143:=by kernel_rfl
 i145:=by kernel_rfl
 i167:=by kernel_rfl
 i168:=by kernel_rfl
 i171:=by kernel_rfl
 i173:=by kernel_rfl
 i175:=by kernel_rfl
 i210:=by kernel_rfl
 i212:=by kernel_rfl
 i232:=by kernel_rfl
 i233:=by kernel_rfl
 m15:=by kernel_rfl
 m16:=by kernel_rfl
 m17:=by kernel_rfl
 m18:=by kernel_rfl
 m19:=by kernel_rfl
 c0:=by kernel_rfl
 c2:=by kernel_rfl
 c3:=by kernel_rfl
 c4:=by kernel_rfl
 c5:=by kernel_rfl
 c9:=by kernel_rfl
 c20:=by kernel_rfl
 c21:=by kernel_rfl
 c37:=by kernel_rfl
 c46:=by kernel_rfl
 c51:=by kernel_rfl
 c53:=by kernel_rfl
 c75:=by kernel_rfl
 c80:=by kernel_rfl
 c85:=by kernel_rfl
 c127:=by kernel_rfl
 c143:=by kernel_rfl
 c145:=by kernel_rfl
 c167:=by kernel_rfl
 c168:=by kernel_rfl
 c171:=by kernel_rfl
 c173:=by kernel_rfl
 c175:=by kernel_rfl
 c210:=by kernel_rfl
 c212:=by kernel_rfl
 c213:=by kernel_rfl
 c232:=by kernel_rfl
 c233:=by kernel_rfl }
def Zdz:Go.Shelf.Ren:=⟨fun | 229=>78 | n=>n,fun | 9=>9 | 40=>159 | 31=>55 | 152=>218 | 3=>3 | 0=>0 | 4=>4 | 21=>21 | 154=>220 | n=>n,fun | n=>n⟩
theorem Ziz:Go.Proofs.Lays.n229 Tryz.prog Zdz:={
 mixed:=by kernel_rfl
 f229:=Tryz.func78.trans (congrArg some (by kernel_rfl))
 t0:=Tryz.underlying0
 a0:=Tryz.isAgg0
 z0:=Tryz.sizeOf0
 v0:=Tryz.zeroValue0
 t3:=Tryz.underlying3
 a3:=Tryz.isAgg3
 z3:=Tryz.sizeOf3
 v3:=Tryz.zeroValue3
 t4:=Tryz.underlying4
 a4:=Tryz.isAgg4
 z4:=Tryz.sizeOf4
 v4:=Tryz.zeroValue4
 t9:=Tryz.underlying9
 a9:=Tryz.isAgg9
 z9:=Tryz.sizeOf9
 v9:=Tryz.zeroValue9
 t21:=Tryz.underlying21
 a21:=Tryz.isAgg21
 z21:=Tryz.sizeOf21
 v21:=Tryz.zeroValue21
 t31:=Tryz.underlying55
 a31:=Tryz.isAgg55
 z31:=Tryz.sizeOf55
 v31:=Tryz.zeroValue55
 t40:=Tryz.underlying159
 a40:=Tryz.isAgg159
 z40:=Tryz.sizeOf159
 v40:=Tryz.zeroValue159
 t152:=Tryz.underlying218
 a152:=Tryz.isAgg218
 z152:=Tryz.sizeOf218
 v152:=Tryz.zeroValue218
 t154:=Tryz.underlying220
 a154:=Tryz.isAgg220
 z154:=Tryz.sizeOf220
 v154:=Tryz.zeroValue220 }
def Zj7:Go.Shelf.Ren:=⟨fun | 17=>81 | 15=>129 | 20=>176 | n=>n,fun | 9=>9 | 23=>159 | 4=>4 | 3=>3 | 0=>0 | 21=>21 | n=>n,fun | n=>n⟩
theorem Ziw:Go.Proofs.LaysGw.n17 Tryz.prog Zj7:={
 mixed:=by kernel_rfl
 f15:=Tryz.func129.trans (congrArg some (by kernel_rfl))
 f17:=Tryz.func81.trans (congrArg some (by kernel_rfl))
 f20:=Tryz.func176.trans (congrArg some (by kernel_rfl))
 t0:=Tryz.underlying0
 a0:=Tryz.isAgg0
 z0:=Tryz.sizeOf0
 v0:=Tryz.zeroValue0
 i0:=by kernel_rfl
 t3:=Tryz.underlying3
 a3:=Tryz.isAgg3
 z3:=Tryz.sizeOf3
 v3:=Tryz.zeroValue3
 i3:=by kernel_rfl
 t4:=Tryz.underlying4
 a4:=Tryz.isAgg4
 z4:=Tryz.sizeOf4
 v4:=Tryz.zeroValue4
 i4:=by kernel_rfl
 t9:=Tryz.underlying9
 a9:=Tryz.isAgg9
 z9:=Tryz.sizeOf9
 v9:=Tryz.zeroValue9
 i9:=by kernel_rfl
 t21:=Tryz.underlying21
 a21:=Tryz.isAgg21
 z21:=Tryz.sizeOf21
 v21:=Tryz.zeroValue21
 i21:=by kernel_rfl
 t23:=Tryz.underlying159
 a23:=Tryz.isAgg159
 z23:=Tryz.sizeOf159
 v23:=Tryz.zeroValue159
 i23:=by kernel_rfl }
def Zay:Go.Shelf.Ren:=⟨fun | 156=>21 | 165=>40 | 166=>42 | 169=>44 | 240=>68 | 241=>69 | 276=>114 | 277=>115 | n=>n,fun | 31=>55 | 9=>9 | 3=>3 | 4=>4 | 0=>0 | 20=>20 | 72=>92 | 76=>96 | 70=>90 | 37=>27 | 75=>95 | 127=>136 | 164=>194 | 5=>5 | 80=>100 | n=>n,fun | n=>n⟩
theorem Zhc:Go.Proofs.Lays.n156 Tryz.prog Zay:={
 mixed:=by kernel_rfl
 f156:=Tryz.func21.trans (congrArg some (by kernel_rfl))
 f165:=Tryz.func40.trans (congrArg some (by kernel_rfl))
 f166:=Tryz.func42.trans (congrArg some (by kernel_rfl))
 f169:=Tryz.func44.trans (congrArg some (by kernel_rfl))
 f240:=Tryz.func68.trans (congrArg some (by kernel_rfl))
 f241:=Tryz.func69.trans (congrArg some (by kernel_rfl))
 f276:=Tryz.func114.trans (congrArg some (by kernel_rfl))
 f277:=Tryz.func115.trans (congrArg some (by kernel_rfl))
 t0:=Tryz.underlying0
 a0:=Tryz.isAgg0
 z0:=Tryz.sizeOf0
 v0:=Tryz.zeroValue0
 t3:=Tryz.underlying3
 a3:=Tryz.isAgg3
 z3:=Tryz.sizeOf3
 v3:=Tryz.zeroValue3
 t4:=Tryz.underlying4
 a4:=Tryz.isAgg4
 z4:=Tryz.sizeOf4
 v4:=Tryz.zeroValue4
 t9:=Tryz.underlying9
 a9:=Tryz.isAgg9
 z9:=Tryz.sizeOf9
 v9:=Tryz.zeroValue9
 t20:=Tryz.underlying20
 a20:=Tryz.isAgg20
 z20:=Tryz.sizeOf20
 v20:=Tryz.zeroValue20
 t31:=Tryz.underlying55
 a31:=Tryz.isAgg55
 z31:=Tryz.sizeOf55
 v31:=Tryz.zeroValue55
 t37:=Tryz.underlying27
 a37:=Tryz.isAgg27
 z37:=Tryz.sizeOf27
 v37:=Tryz.zeroValue27
 t70:=Tryz.underlying90
 a70:=Tryz.isAgg90
 z70:=Tryz.sizeOf90
 v70:=Tryz.zeroValue90
 t72:=Tryz.underlying92
 a72:=Tryz.isAgg92
 z72:=Tryz.sizeOf92
 v72:=Tryz.zeroValue92
 t75:=Tryz.underlying95
 a75:=Tryz.isAgg95
 z75:=Tryz.sizeOf95
 v75:=Tryz.zeroValue95
 t76:=Tryz.underlying96
 a76:=Tryz.isAgg96
 z76:=Tryz.sizeOf96
 v76:=Tryz.zeroValue96
 t127:=Tryz.underlying136
 a127:=Tryz.isAgg136
 z127:=Tryz.sizeOf136
 v127:=Tryz.zeroValue136
 t164:=Tryz.underlying194
 a164:=Tryz.isAgg194
 z164:=Tryz.sizeOf194
 v164:=Tryz.zeroValue194 }
theorem Zee:Builder.Extra Tryz.prog Zay:={
 sizeBuilder:=by kernel_rfl
 liesBuilder:=by kernel_rfl
 t5:=Tryz.underlying5
 a5:=Tryz.isAgg5
 z5:=Tryz.sizeOf5
 v5:=Tryz.zeroValue5
 infoByte:=by kernel_rfl
 cellsByte:=by kernel_rfl
 sizeByte:=by kernel_rfl
 neB5:=by decide }
end Go.Proofs
namespace Go.Proofs.YtddknfpolkkbjaaGreatDoor.Ax
open Go Go.Acq Go.RowKit Go.Proofs
set_option maxHeartbeats 8000000
set_option maxRecDepth 20000
abbrev iC:=intC .i64
abbrev eA {α:Type}(o:Option Nat)(f:α→List Value)(x:List α)(j:List Value)(t:TypeId):Option Nat×Obj:=(o,.cells (arr f x j).toArray t)
abbrev eI (o:Option Nat)(x:List Int)(j:List Value)(t:TypeId):Option Nat×Obj:=(o,.cells (arr (intC .i64) x j).toArray t)
abbrev eC (b:Nat)(c:Array Value)(t:TypeId):Option Nat×Obj:=(some b,.cells c t)
abbrev iV (x:Int):Value:=.int .i64 x
abbrev sV (a:Option Nat)(b c:Nat):Value:=.slice (sb a) b c
abbrev nV (a b c:Nat):Value:=.slice (some ⟨a,0,none⟩) b c
abbrev pV (a:Nat):Value:=.pointer (some ⟨a,0,none⟩)
theorem Jh {p q:Prop}[Decidable p][Decidable q]{α:Type}{x:Option α}{r:α}(h:gd p (gd q x)=some r):p∧q∧x=some r:=have ⟨a,h⟩:=Ya h;⟨a,Ya h⟩
theorem gd3 {p q s:Prop}[Decidable p][Decidable q][Decidable s]{α:Type}{x:Option α}{r:α}(h:gd p (gd q (gd s x))=some r):p∧q∧s∧x=some r:=have ⟨a,h⟩:=Ya h;⟨a,Jh h⟩
theorem gd4 {p q s t:Prop}[Decidable p][Decidable q][Decidable s][Decidable t]{α:Type}{x:Option α}{r:α}(h:gd p (gd q (gd s (gd t x)))=some r):p∧q∧s∧t∧x=some r:=have ⟨a,h⟩:=Ya h;⟨a,gd3 h⟩
theorem dN {C:Cx}{ops:Array Oper}{Q:Exit→Act→World→Prop}{E:Env}{H:Heap}{y:Code}(h:T C y Q E H):TO C ops (Exit.then (y.wpIn (FW C.ρ) 0 C.P Q) Q) [] E H:=h
theorem dS {C:Cx}{ops:Array Oper}{Q:Exit→Act→World→Prop}{E:Env}{H:Heap}{x y:Code}(h:T C x (Exit.then (y.wpIn (FW C.ρ) 0 C.P Q) Q) E H):TO C ops (Exit.then ((Code.seq x y).wpIn (FW C.ρ) 0 C.P Q) Q) [] E H:=dN (Zh h)
theorem rG {C:Cx}{ops:Array Oper}{Q:Exit→Act→World→Prop}{E:Env}{H:Heap}{id:Nat}(l:List Nat)(hl:List.range ops.size=l)(h:TO C ops Q l E H):T C (.region id ops false) Q E H:=Ra hl h
theorem sR {C:Cx}{ops:Array Oper}{Q:Exit→Act→World→Prop}{E:Env}{H:Heap}{id:Nat}{y:Code}(l:List Nat)(hl:List.range ops.size=l)(h:TO C ops (Exit.then (y.wpIn (FW C.ρ) 0 C.P Q) Q) l E H):T C (.seq (.region id ops false) y) Q E H:=Zh (Ra hl h)
theorem aN {C:Cx}{ops:Array Oper}{Q:Exit→Act→World→Prop}{E:Env}{H:Heap}{y:Code}{i d:Nat}{ty:TypeId}{pos:String}{af:Array Edge}{g:Option (Nat×Bool)}{x:Operand}{v:Value}(q:ops[i]?=some ⟨some d,.assign x,ty,pos,af,g⟩∧Zr ops E g=true∧Nat.ble (d+1) C.n=true∧ev E x=some v)(k:T C y Q ((d,v)::E) H):TO C ops (Exit.then (y.wpIn (FW C.ρ) 0 C.P Q) Q) [i] E H:=have ⟨ho,hg,hd,hx⟩:=q;TO.val ho hg hd (by simp) (fun a w hf _=>by simp [execOp,hf.ev hx]) (dN k)
inductive TkI:Option Nat×Obj→Heap→Heap→Prop
  | head (p:Option Nat×Obj) (l:Heap):TkI p (p::l) l
  | tail {p q:Option Nat×Obj} {l r:Heap} (h:TkI p l r):TkI p (q::l) (q::r)
inductive PkI:Heap→Heap→Prop
  | refl (H:Heap):PkI H H
  | nil (H:Heap):PkI [] H
  | none {o:Obj} {T H:Heap} (h:PkI T H):PkI ((none,o)::T) H
  | cons {p:Option Nat×Obj} {T H R:Heap} (h:TkI p H R) (k:PkI T R):PkI (p::T) H
theorem tkI {p:Option Nat×Obj}{H R:Heap}(h:TkI p H R):Take p H R:=by
  induction h with
  | head=>exact Take.head _ _
  | tail _ ih=>exact Take.tail ih
theorem Vh {T H:Heap}(h:PkI T H):Pick T H:=by
  induction h with
  | refl H=>exact Zv H
  | nil H=>exact Zg
  | none _ ih=>exact Pick.none ih
  | cons h _ ih=>exact Zd (tkI h) ih
theorem rsI {w0 w:World}{M:List Nat}{H:Heap}(hi:Inv w0 M w H){n c:Nat}{xs:List Int}{ob:Option Nat}{T':TypeId}{fr:Nat×Nat}{j:List Value}(hm:(ob,Obj.cells (arr (intC .i64) xs j).toArray T' fr)∈H)(hn:xs.length=n)(hc:n≤c)(h0:ob=none→c=0):RS w [] (intC .i64) 1 (sb ob) n c xs:=hi.rs (f:=intC .i64) (s:=1) (fun _=>rfl) hm hn hc h0
theorem rsB {w0 w:World}{M:List Nat}{H:Heap}(hi:Inv w0 M w H){n c:Nat}{xs:List Bool}{ob:Option Nat}{T':TypeId}{fr:Nat×Nat}{j:List Value}(hm:(ob,Obj.cells (arr boolC xs j).toArray T' fr)∈H)(hn:xs.length=n)(hc:n≤c)(h0:ob=none→c=0):RS w [] boolC 1 (sb ob) n c xs:=hi.rs (f:=boolC) (s:=1) (fun _=>rfl) hm hn hc h0
abbrev rV (l:List Nat)(x:Value):Sp:=⟨l,false,[],relV x⟩
def pkE:List Nat→Env→Option Env
  | [],_=>some []
  | t::l,E=>match find E t with
    | none=>none
    | some v=>match pkE l E with
      | none=>none
      | some L=>some ((t,v)::L)
theorem aT {E:Env}:∀ (l:List Nat) {L:Env},pkE l E=some L→AllF L E
  | [],L,h=>by injection h with h;subst h;exact Js
  | t::l,L,h=>by
    simp only [pkE] at h
    split at h
    ·cases h
    · rename_i v hv
      split at h
      ·cases h
      · rename_i L' hL
        injection h with h
        subst h
        exact Zez hv (aT l hL)
theorem aF {L E:Env}(h:pkE (L.map Prod.fst) E=some L):AllF L E:=aT _ h
abbrev Y1:List Nat:=[0]
abbrev Y2:List Nat:=[0,1]
abbrev Y3:List Nat:=[0,1,2]
abbrev Y4:List Nat:=[0,1,2,3]
abbrev Y5:List Nat:=[0,1,2,3,4]
abbrev Y6:List Nat:=[0,1,2,3,4,5]
abbrev Y7:List Nat:=[0,1,2,3,4,5,6]
abbrev Y8:List Nat:=[0,1,2,3,4,5,6,7]
abbrev Y9:List Nat:=[0,1,2,3,4,5,6,7,8]
abbrev Y10:List Nat:=[0,1,2,3,4,5,6,7,8,9]
abbrev Y11:List Nat:=[0,1,2,3,4,5,6,7,8,9,10]
abbrev Y12:List Nat:=[0,1,2,3,4,5,6,7,8,9,10,11]
abbrev Y13:List Nat:=[0,1,2,3,4,5,6,7,8,9,10,11,12]
abbrev Y14:List Nat:=[0,1,2,3,4,5,6,7,8,9,10,11,12,13]
abbrev Y16:List Nat:=[0,1,2,3,4,5,6,7,8,9,10,11,12,13,14,15]
abbrev Y17:List Nat:=[0,1,2,3,4,5,6,7,8,9,10,11,12,13,14,15,16]
abbrev Y18:List Nat:=[0,1,2,3,4,5,6,7,8,9,10,11,12,13,14,15,16,17]
abbrev Y20:List Nat:=[0,1,2,3,4,5,6,7,8,9,10,11,12,13,14,15,16,17,18,19]
abbrev Y24:List Nat:=[0,1,2,3,4,5,6,7,8,9,10,11,12,13,14,15,16,17,18,19,20,21,22,23]
abbrev Y25:List Nat:=[0,1,2,3,4,5,6,7,8,9,10,11,12,13,14,15,16,17,18,19,20,21,22,23,24]
abbrev Y29:List Nat:=[0,1,2,3,4,5,6,7,8,9,10,11,12,13,14,15,16,17,18,19,20,21,22,23,24,25,26,27,28]
theorem Xx:Tryz.prog.follows .mixedOrders=true:=by kernel_rfl
theorem Z0p:Vs Tryz.prog 115 2=true:=by kernel_rfl
theorem Zi9:Vs Tryz.prog 116 12=true:=by kernel_rfl
theorem Xb:Vs Tryz.prog 24 4=true:=by kernel_rfl
theorem Je:Vs Tryz.prog 64 3=true:=by kernel_rfl
theorem Zaz:Yb Tryz.prog 132=true:=by kernel_rfl
theorem Zc9:Yb Tryz.prog 133=true:=by kernel_rfl
theorem Za2:Yb Tryz.prog 134=true:=by kernel_rfl
theorem Zcu:Yb Tryz.prog 182=true:=by kernel_rfl
theorem Zj5:Yb Tryz.prog 53=true:=by kernel_rfl
theorem Zjg:Yb Tryz.prog 83=true:=by kernel_rfl
theorem Zh7:Yb Tryz.prog 84=true:=by kernel_rfl
theorem Zgi:Yb Tryz.prog 85=true:=by kernel_rfl
theorem Lo:Yb Tryz.prog 86=true:=by kernel_rfl
theorem Z9p:Yb Tryz.prog 87=true:=by kernel_rfl
theorem Zh2:Yb Tryz.prog 88=true:=by kernel_rfl
theorem Zes:Yb Tryz.prog 89=true:=by kernel_rfl
theorem Zdv:Yb Tryz.prog 90=true:=by kernel_rfl
theorem Ze4:Yb Tryz.prog 91=true:=by kernel_rfl
theorem Z1b:Wh Tryz.prog 115 0=some 0:=by kernel_rfl
theorem Z0u:Wh Tryz.prog 115 1=some 1:=by kernel_rfl
theorem Ut:Wh Tryz.prog 24 0=some 0:=by kernel_rfl
theorem Gn:Wh Tryz.prog 24 1=some 1:=by kernel_rfl
theorem Ru:Wh Tryz.prog 24 2=some 2:=by kernel_rfl
theorem Vm:Wh Tryz.prog 24 3=some 3:=by kernel_rfl
theorem Gh:Wh Tryz.prog 64 0=some 0:=by kernel_rfl
theorem Lh:Wh Tryz.prog 64 1=some 1:=by kernel_rfl
theorem Nw:Wh Tryz.prog 64 2=some 2:=by kernel_rfl
theorem Wo:Yk Tryz.prog 22=some 64:=by kernel_rfl
theorem Z0n:Yh Tryz.prog 115=some 2:=by kernel_rfl
theorem Zds:Yh Tryz.prog 116=some 12:=by kernel_rfl
theorem Vl:Yh Tryz.prog 64=some 3:=by kernel_rfl
theorem Z11:Tryz.prog.underlying 116=some (.array 6 115):=by kernel_rfl
theorem Z0i:Xi Tryz.prog 113=true:=by kernel_rfl
theorem Zcw:Xi Tryz.prog 165=true:=by kernel_rfl
theorem Wp:Xi Tryz.prog 2=true:=by kernel_rfl
theorem Vt:Xi Tryz.prog 22=true:=by kernel_rfl
theorem Kx:Xi Tryz.prog 28=true:=by kernel_rfl
theorem Yf:Xi Tryz.prog 3=true:=by kernel_rfl
theorem Z0q:Yz Tryz.prog 115=some (.agg #[.nilFunc,iV 0]):=by kernel_rfl
theorem Zel:Yz Tryz.prog 116=some (.agg #[.nilFunc,iV 0,.nilFunc,iV 0,.nilFunc,iV 0,.nilFunc,iV 0,.nilFunc,iV 0,.nilFunc,iV 0]):=by kernel_rfl
theorem Gv:Yz Tryz.prog 64=some (.agg #[iV 0,iV 0,iV 0]):=by kernel_rfl
theorem Zil (w:World)(H:Z8k=some ()):Fnc Tryz.prog 87 #[.func (.func 88) #[] #[]] w [] (fun v N=>∃ (a2:Nat),v=.func (.func 132) #[] #[pV a2]∧N=[(eC a2 #[.func (.func 88) #[] #[]] 165)]):=by
 unfold Z8k at H;refine Fnc.enter (vs:=[.func (.func 88) #[] #[]]) Tryz.func87 rfl rfl (Inv.refl w) ?_;refine sR Y2 rfl ?_;refine TO.box Za ?_;intro b1;refine aN Za ?_;refine sR Y2 rfl ?_;refine TO.makeFunc Zb ?_;refine aN Za ?_;refine T.ret ?_;exact Yd Za (Res.tmp rfl) (Zd Ze Zg) ⟨b1,rfl,rfl⟩
theorem Zjn (w:World)(H:Z8n=some ()):Fnc Tryz.prog 87 #[.func (.func 89) #[] #[]] w [] (fun v N=>∃ (a2:Nat),v=.func (.func 132) #[] #[pV a2]∧N=[(eC a2 #[.func (.func 89) #[] #[]] 165)]):=by
 unfold Z8n at H;refine Fnc.enter (vs:=[.func (.func 89) #[] #[]]) Tryz.func87 rfl rfl (Inv.refl w) ?_;refine sR Y2 rfl ?_;refine TO.box Za ?_;intro b1;refine aN Za ?_;refine sR Y2 rfl ?_;refine TO.makeFunc Zb ?_;refine aN Za ?_;refine T.ret ?_;exact Yd Za (Res.tmp rfl) (Zd Ze Zg) ⟨b1,rfl,rfl⟩
theorem Zio (w:World)(H:Z86=some ()):Fnc Tryz.prog 53 #[] w [] (fun v N=>∃ (a2 a3:Nat),v=.agg #[.func (.func 83) #[] #[],iV 10,.func (.func 84) #[] #[],iV 11,.func (.func 85) #[] #[],iV 12,.func (.func 132) #[] #[pV a2],iV 13,.func (.func 132) #[] #[pV a3],iV 14,.func (.func 90) #[] #[],iV 15]∧N=[(eC a2 #[.func (.func 88) #[] #[]] 165),(eC a3 #[.func (.func 89) #[] #[]] 165)]):=by
 unfold Z86 at H;refine Fnc.enter (vs:=[]) Tryz.func53 rfl rfl (Inv.refl w) ?_;refine sR Y1 rfl ?_;refine Xs Zj Zel ?_;intro b1;refine dS ?_;obtain ⟨⟨⟩,e3,H⟩:=Zn H;obtain ⟨⟨⟩,e6,H⟩:=Zn H;refine rG Y10 rfl ?_;refine Vi (t:=115) [.nilFunc,iV 0] [0,1] Za (by simp only [Xv,setCells,Value.cells,List.toList_toArray,List.getD_cons_zero,List.getD_cons_succ,List.set_cons_zero,List.set_cons_succ];rfl) (by kernel_rfl) ?_;refine Vi (t:=115) [.nilFunc,iV 0] [0,1] Za (by simp only [Xv,setCells,Value.cells,List.toList_toArray,List.getD_cons_zero,List.getD_cons_succ,List.set_cons_zero,List.set_cons_succ];rfl) (by kernel_rfl) ?_;refine Vi (t:=115) [.nilFunc,iV 0] [0,1] Za (by simp only [Xv,setCells,Value.cells,List.toList_toArray,List.getD_cons_zero,List.getD_cons_succ,List.set_cons_zero,List.set_cons_succ];rfl) (by kernel_rfl) ?_;refine Zw Z9p Za (fun wc hwc=>Zil  wc  e3) ?_;rintro _ _ ⟨b4,rfl,rfl⟩;refine Vi (t:=115) [.nilFunc,iV 0] [0,1] Za (by simp only [Xv,setCells,Value.cells,List.toList_toArray,List.getD_cons_zero,List.getD_cons_succ,List.set_cons_zero,List.set_cons_succ];rfl) (by kernel_rfl) ?_;refine Zw Z9p Za (fun wc hwc=>Zjn  wc  e6) ?_;rintro _ _ ⟨b7,rfl,rfl⟩;refine Vi (t:=115) [.nilFunc,iV 0] [0,1] Za (by simp only [Xv,setCells,Value.cells,List.toList_toArray,List.getD_cons_zero,List.getD_cons_succ,List.set_cons_zero,List.set_cons_succ];rfl) (by kernel_rfl) ?_;refine Vi (t:=115) [.nilFunc,iV 0] [0,1] Za (by simp only [Xv,setCells,Value.cells,List.toList_toArray,List.getD_cons_zero,List.getD_cons_succ,List.set_cons_zero,List.set_cons_succ];rfl) (by kernel_rfl) ?_;refine Vi (t:=116) [.nilFunc,iV 0,.nilFunc,iV 0,.nilFunc,iV 0,.nilFunc,iV 0,.nilFunc,iV 0,.nilFunc,iV 0] [0,2,4,6,8,10] Za (by simp only [Xv,setCells,Value.cells,List.toList_toArray,List.getD_cons_zero,List.getD_cons_succ,List.set_cons_zero,List.set_cons_succ];rfl) (by kernel_rfl) ?_;refine Xo Za Yt Zds Zj ?_;refine dN ?_;refine Zm (aT [0] rfl) ?_;refine T.ret ?_;exact Yd Za (Ky rfl Zi9 Zi rfl) (Zd Yt (Zd Zo Zg)) ⟨b4,b7,rfl,rfl⟩
theorem Zfp {n0:Net}{a4:Option Addr}{a3 a2:Nat}(w:World)(a5:RS w [] Zx 3 a4 a3 a2 n0.Arcs){r0:Bool}(H:Z72 n0=some r0):Fnc Tryz.prog 83 #[.agg #[iV n0.N,iV n0.S,iV n0.T,.slice a4 a3 a2]] w [] (fun v N=>v=.bool r0∧N=[]):=by
 unfold Z72 at H;refine Fnc.enter (vs:=[.agg #[iV n0.N,iV n0.S,iV n0.T,.slice a4 a3 a2]]) Tryz.func83 rfl rfl (Inv.refl w) ?_;refine sR Y2 rfl ?_;refine Wa Za ?_;intro b1;refine aN Za ?_;refine Zh ?_;rcases Zp H with ⟨g3,H⟩ | ⟨g3,H⟩
 ·refine rG Y9 rfl ?_;refine Zs Za Ut ?_;refine Zt Za Yf Zi rfl ?_;refine Zq Zl ?_;refine Zc Za ?_;refine Zu (t:=6) (b':=true) rfl (decide_eq_true g3) ?_;refine Zs Za Ut ?_;refine Zt Za Yf Zi rfl ?_;refine Zq Zl ?_;refine Ye Zb ?_;refine aN Za ?_;refine Zm (aT [2] rfl) ?_;refine T.ret ?_;obtain rfl:=ret1 H;exact Yd Za (Res.tmp rfl) Zg ⟨rfl,rfl⟩
 ·refine rG Y9 rfl ?_;refine Zs Za Ut ?_;refine Zt Za Yf Zi rfl ?_;refine Zq Zl ?_;refine Zc Za ?_;refine Zu (t:=6) (b':=false) rfl (decide_eq_false g3) ?_;refine Zf Za ?_;refine Zf Za ?_;refine Zf Za ?_;refine Yg Zb ?_;refine aN Za ?_;refine Zm (aT [2] rfl) ?_;refine T.ret ?_;obtain rfl:=ret1 H;exact Yd Za (Res.tmp rfl) Zg ⟨rfl,rfl⟩
theorem Zhi {n0:Net}{a4:Option Addr}{a3 a2:Nat}(w:World)(a5:RS w [] Zx 3 a4 a3 a2 n0.Arcs){r0:Bool}(H:Z97 n0=some r0):Fnc Tryz.prog 84 #[.agg #[iV n0.N,iV n0.S,iV n0.T,.slice a4 a3 a2]] w [] (fun v N=>v=.bool r0∧N=[]):=by
 unfold Z97 at H;refine Fnc.enter (vs:=[.agg #[iV n0.N,iV n0.S,iV n0.T,.slice a4 a3 a2]]) Tryz.func84 rfl rfl (Inv.refl w) ?_;refine sR Y2 rfl ?_;refine Wa Za ?_;intro b1;refine aN Za ?_;refine sR Y5 rfl ?_;refine Zs Za Vm ?_;refine Zt Za Vt Zi rfl ?_;refine Ym (xs:=n0.Arcs) a5.len Zb Wo ?_;refine Zq Zl ?_;refine aN Za ?_;refine T.ret ?_;obtain rfl:=ret1 H;exact Yd Za (Res.tmp rfl) Zg ⟨rfl,rfl⟩
theorem Ls {n0:Net}{v1:Int}{a4:Option Addr}{a3 a2:Nat}(w:World)(a5:RS w [] Zx 3 a4 a3 a2 n0.Arcs){r0:Bool}(H:Z0d n0 v1=some r0):Fnc Tryz.prog 86 #[.agg #[iV n0.N,iV n0.S,iV n0.T,.slice a4 a3 a2],iV v1] w [] (fun v N=>v=.bool r0∧N=[]):=by
 unfold Z0d at H;refine Fnc.enter (vs:=[.agg #[iV n0.N,iV n0.S,iV n0.T,.slice a4 a3 a2],iV v1]) Tryz.func86 rfl rfl (Inv.refl w) ?_;refine sR Y2 rfl ?_;refine Wa Za ?_;intro b1;refine aN Za ?_;refine Zh ?_;rcases Zp H with ⟨g3,H⟩ | ⟨g3,H⟩
 ·refine rG Y9 rfl ?_;refine Zc Za ?_;refine Zq Zl ?_;refine Zc Za ?_;refine Zu (t:=7) (b':=true) rfl (decide_eq_true g3) ?_;refine Zc Za ?_;refine Zs Za Ut ?_;refine Zt Za Yf Zi rfl ?_;refine Zq Zl ?_;refine Ye Zb ?_;refine aN Za ?_;refine Zm (aT [4] rfl) ?_;refine T.ret ?_;obtain rfl:=ret1 H;exact Yd Za (Res.tmp rfl) Zg ⟨rfl,rfl⟩
 ·refine rG Y9 rfl ?_;refine Zc Za ?_;refine Zq Zl ?_;refine Zc Za ?_;refine Zu (t:=7) (b':=false) rfl (decide_eq_false g3) ?_;refine Zf Za ?_;refine Zf Za ?_;refine Zf Za ?_;refine Zf Za ?_;refine Yg Zb ?_;refine aN Za ?_;refine Zm (aT [4] rfl) ?_;refine T.ret ?_;obtain rfl:=ret1 H;exact Yd Za (Res.tmp rfl) Zg ⟨rfl,rfl⟩
theorem Zgp {n0:Net}{a5:Option Addr}{a4 a3:Nat}(w:World)(a2:RS w [] Zx 3 a5 a4 a3 n0.Arcs){r0:Bool}(H:Z6t n0=some r0):Fnc Tryz.prog 85 #[.agg #[iV n0.N,iV n0.S,iV n0.T,.slice a5 a4 a3]] w [] (fun v N=>v=.bool r0∧N=[]):=by
 unfold Z6t at H;refine Fnc.enter (vs:=[.agg #[iV n0.N,iV n0.S,iV n0.T,.slice a5 a4 a3]]) Tryz.func85 rfl rfl (Inv.refl w) ?_;refine sR Y2 rfl ?_;refine Wa Za ?_;intro b1;refine aN Za ?_;refine Zh ?_;obtain ⟨r3,e4,H⟩:=Zn H;rcases Zp H with ⟨g5,H⟩ | ⟨g5,H⟩
 ·
  obtain ⟨r6,e7,H⟩:=Zn H;rcases Zp H with ⟨g8,H⟩ | ⟨g8,H⟩
  ·refine rG Y18 rfl ?_;refine Xj Za Xb Zi rfl ?_;refine Zs Za Gn ?_;refine Zt Za Yf Zi rfl ?_;refine Zw Lo Za (fun wc hwc=>Ls (n0:=n0) (v1:=n0.S) wc (a2.mono hwc) e4) ?_;rintro _ _ ⟨rfl,rfl⟩;refine Zc Za ?_;refine Zu (t:=7) (b':=true) rfl g5 ?_;refine Xj Za Xb Zi rfl ?_;refine Zs Za Ru ?_;refine Zt Za Yf Zi rfl ?_;refine Zw Lo Za (fun wc hwc=>Ls (n0:=n0) (v1:=n0.T) wc (a2.mono hwc) e7) ?_;rintro _ _ ⟨rfl,rfl⟩;refine Ye Zb ?_;refine Zc Za ?_;refine Zu (t:=13) (b':=true) rfl g8 ?_;refine Zs Za Gn ?_;refine Zt Za Yf Zi rfl ?_;refine Zs Za Ru ?_;refine Zt Za Yf Zi rfl ?_;refine Zq Zl ?_;refine Ye Zb ?_;refine aN Za ?_;refine Zm (aT [2] rfl) ?_;refine T.ret ?_;obtain rfl:=ret1 H;exact Yd Za (Res.tmp rfl) Zg ⟨rfl,rfl⟩
  ·refine rG Y18 rfl ?_;refine Xj Za Xb Zi rfl ?_;refine Zs Za Gn ?_;refine Zt Za Yf Zi rfl ?_;refine Zw Lo Za (fun wc hwc=>Ls (n0:=n0) (v1:=n0.S) wc (a2.mono hwc) e4) ?_;rintro _ _ ⟨rfl,rfl⟩;refine Zc Za ?_;refine Zu (t:=7) (b':=true) rfl g5 ?_;refine Xj Za Xb Zi rfl ?_;refine Zs Za Ru ?_;refine Zt Za Yf Zi rfl ?_;refine Zw Lo Za (fun wc hwc=>Ls (n0:=n0) (v1:=n0.T) wc (a2.mono hwc) e7) ?_;rintro _ _ ⟨rfl,rfl⟩;refine Ye Zb ?_;refine Zc Za ?_;refine Zu (t:=13) (b':=false) rfl (Bool.eq_false_iff.2 g8) ?_;refine Zf Za ?_;refine Zf Za ?_;refine Zf Za ?_;refine Zf Za ?_;refine Zf Za ?_;refine Yg Zb ?_;refine aN Za ?_;refine Zm (aT [2] rfl) ?_;refine T.ret ?_;obtain rfl:=ret1 H;exact Yd Za (Res.tmp rfl) Zg ⟨rfl,rfl⟩
 ·refine rG Y18 rfl ?_;refine Xj Za Xb Zi rfl ?_;refine Zs Za Gn ?_;refine Zt Za Yf Zi rfl ?_;refine Zw Lo Za (fun wc hwc=>Ls (n0:=n0) (v1:=n0.S) wc (a2.mono hwc) e4) ?_;rintro _ _ ⟨rfl,rfl⟩;refine Zc Za ?_;refine Zu (t:=7) (b':=false) rfl (Bool.eq_false_iff.2 g5) ?_;refine Zf Za ?_;refine Zf Za ?_;refine Zf Za ?_;refine Zf Za ?_;refine Yg Zb ?_;refine Zc Za ?_;refine Zf Za ?_;refine Zf Za ?_;refine Zf Za ?_;refine Zf Za ?_;refine Zf Za ?_;refine Yg Zb ?_;refine aN Za ?_;refine Zm (aT [2] rfl) ?_;refine T.ret ?_;obtain rfl:=ret1 H;exact Yd Za (Res.tmp rfl) Zg ⟨rfl,rfl⟩
theorem Zh0 {n0:Net}{a1:Arc}{a5:Option Addr}{a3 a2:Nat}(w:World)(a4:RS w [] Zx 3 a5 a3 a2 n0.Arcs){r0:Bool}(H:Z73 n0 a1=some r0):Fnc Tryz.prog 88 #[.agg #[iV n0.N,iV n0.S,iV n0.T,.slice a5 a3 a2],.agg #[iV a1.fr,iV a1.to,iV a1.cap]] w [] (fun v N=>v=.bool r0∧N=[]):=by
 unfold Z73 at H;refine Fnc.enter (vs:=[.agg #[iV n0.N,iV n0.S,iV n0.T,.slice a5 a3 a2],.agg #[iV a1.fr,iV a1.to,iV a1.cap]]) Tryz.func88 rfl rfl (Inv.refl w) ?_;refine sR Y3 rfl ?_;refine Wa Za ?_;intro b1;refine Wa Za ?_;intro b3;refine aN Za ?_;refine Zh ?_;obtain ⟨r5,e6,H⟩:=Zn H;rcases Zp H with ⟨g7,H⟩ | ⟨g7,H⟩
 ·obtain ⟨r8,e9,H⟩:=Zn H;refine rG Y11 rfl ?_;refine Xj Za Xb Yl rfl ?_;refine Zs Za Gh ?_;refine Zt Za Yf Zi rfl ?_;refine Zw Lo Za (fun wc hwc=>Ls (n0:=n0) (v1:=a1.fr) wc (a4.mono hwc) e6) ?_;rintro _ _ ⟨rfl,rfl⟩;refine Zc Za ?_;refine Zu (t:=9) (b':=true) rfl g7 ?_;refine Xj Za Xb Yl rfl ?_;refine Zs Za Lh ?_;refine Zt Za Yf Zi rfl ?_;refine Zw Lo Za (fun wc hwc=>Ls (n0:=n0) (v1:=a1.to) wc (a4.mono hwc) e9) ?_;rintro _ _ ⟨rfl,rfl⟩;refine Ye Zb ?_;refine aN Za ?_;refine Zm (aT [4] rfl) ?_;refine T.ret ?_;obtain rfl:=ret1 H;exact Yd Za (Res.tmp rfl) Zg ⟨rfl,rfl⟩
 ·refine rG Y11 rfl ?_;refine Xj Za Xb Yl rfl ?_;refine Zs Za Gh ?_;refine Zt Za Yf Zi rfl ?_;refine Zw Lo Za (fun wc hwc=>Ls (n0:=n0) (v1:=a1.fr) wc (a4.mono hwc) e6) ?_;rintro _ _ ⟨rfl,rfl⟩;refine Zc Za ?_;refine Zu (t:=9) (b':=false) rfl (Bool.eq_false_iff.2 g7) ?_;refine Zf Za ?_;refine Zf Za ?_;refine Zf Za ?_;refine Zf Za ?_;refine Yg Zb ?_;refine aN Za ?_;refine Zm (aT [4] rfl) ?_;refine T.ret ?_;obtain rfl:=ret1 H;exact Yd Za (Res.tmp rfl) Zg ⟨rfl,rfl⟩
theorem Zg8 {a0:Arc}{c2:Net}{a7 a6 a4 a2:Nat}{a3:Option Addr}(w:World)(a5:HB w [] a7 [.func (.func 88) #[] #[]])(a8:RS w [] Zx 3 a3 a4 a2 c2.Arcs)(a9:HB w [] a6 [iV c2.N,iV c2.S,iV c2.T,.slice a3 a4 a2]){r0:Bool}(H:Z88 a0 c2=some r0):Fnc Tryz.prog 134 #[.agg #[iV a0.fr,iV a0.to,iV a0.cap],pV a7,pV a6] w [] (fun v N=>v=.bool r0∧N=[]):=by
 unfold Z88 at H;refine Fnc.enter (vs:=[.agg #[iV a0.fr,iV a0.to,iV a0.cap],pV a7,pV a6]) Tryz.func134 rfl rfl (Inv.refl w) ?_;refine sR Y2 rfl ?_;refine Wa Za ?_;intro b1;refine aN Za ?_;refine Zh ?_;obtain ⟨r3,e4,H⟩:=Zn H;refine rG Y6 rfl ?_;refine Vn a5 Zb Zcw ?_;refine Zal a9 Zb Xb ?_;refine Xj Za Je Zi rfl ?_;refine Jb Zh2 Zb (fun wc hwc=>Zh0 (n0:=c2) (a1:=a0) wc (a8.mono hwc) e4) ?_;rintro _ _ ⟨rfl,rfl⟩;refine TO.not Za ?_;refine aN Za ?_;refine Zm (aT [4] rfl) ?_;refine T.ret ?_;obtain rfl:=ret1 H;exact Yd Za (Res.tmp rfl) Zg ⟨rfl,rfl⟩
theorem Zfr {s0:List Arc}{f1_1:Net}{b7 a5:Option Addr}{b6 b8 a3 a2 a4 a6:Nat}(w:World)(c4:RS w [] Zx 3 b7 b6 b8 s0)(a8:HB w [] a3 [.func (.func 88) #[] #[]])(a7:RS w [] Zx 3 a5 a4 a6 f1_1.Arcs)(a9:HB w [] a2 [iV f1_1.N,iV f1_1.S,iV f1_1.T,.slice a5 a4 a6]){r0:Int}(H:Z8y s0 f1_1=some r0):Fnc Tryz.prog 182 #[.slice b7 b6 b8,.func (.func 134) #[] #[pV a3,pV a2]] w [] (fun v N=>v=iV r0∧N=[]):=by
 unfold Z8y at H;refine Fnc.enter (vs:=[.slice b7 b6 b8,.func (.func 134) #[] #[pV a3,pV a2]]) Tryz.func182 rfl rfl (Inv.refl w) ?_;refine sR Y1 rfl ?_;refine aN Za ?_;refine Zh ?_;refine sR Y3 rfl ?_;refine Zc Za ?_;refine Ym (xs:=s0) c4.len Zb Wo ?_;refine Zc Za ?_;refine dN ?_;refine Wi (fun (u8:Unit)=>Z95=some r0) (fun (u8:Unit)=>[]) (fun (u8:Unit)=>[]) ?_ ?_
 ·
  refine T.block ?_;obtain ⟨d2,d3,d1⟩:=Zn H;refine Z0w (fun (c7:Nat) (x1:Int)=>Xa (fun s=>Z4v s0 f1_1 s) c7 x1=some d2) (fun (c7:Nat) (x1:Int)=>[(0,.slice b7 b6 b8),(1,.func (.func 134) #[] #[pV a3,pV a2]),(7,iV (s0.length:Int)),(8,iV x1)]) (fun (c7:Nat) (x1:Int)=>[]) (fun (c7:Nat) (x1:Int)=>c7) Xd 0 d3 (aF rfl) Zg ?_;rintro c7 x1 H;obtain ⟨d4,d5,rfl,H,d0⟩:=Vo H;have H:Z4v s0 f1_1 x1=some d5:=H;unfold Z4v at H;refine sR Y1 rfl ?_;refine Zq Zl ?_;refine dS ?_;rcases Zp H with ⟨g2,H⟩ | ⟨g2,H⟩
  ·
   refine Yw rfl g2 ?_;refine T.skip ?_;refine Zz ?_;refine Zh ?_;refine T.block ?_;refine sR Y2 rfl ?_;refine Zc Za ?_;refine aN Za ?_;refine Zh ?_;obtain ⟨g3,H⟩:=Ya H;obtain ⟨r4,e5,H⟩:=Zn H;refine rG Y6 rfl ?_;refine Zc Za ?_;refine Zc Za ?_;refine Zc Za ?_;refine Xr c4 g3 Zb Wo Vl ?_;refine Gu (cs:=[iV ((s0.getD x1.toNat default).fr),iV ((s0.getD x1.toNat default).to),iV ((s0.getD x1.toNat default).cap)]) default c4 g3 Zb Je ?_;refine Jb Za2 Zb (fun wc hwc=>Zg8 (a0:=(s0.getD x1.toNat default)) (c2:=f1_1) wc (a8.mono hwc) (a7.mono hwc) (a9.mono hwc) e5) ?_;rintro _ _ ⟨rfl,rfl⟩;refine dN ?_;rcases Zp H with ⟨g6,H⟩ | ⟨g6,H⟩
   ·refine Yr rfl g6 ?_;refine sR Y2 rfl ?_;refine Zc Za ?_;refine aN Za ?_;refine Zm (aT [4] rfl) ?_;refine T.ret ?_;refine Yy ?_;refine Zy ?_;have H:=Wd H d0▸d1;refine Zy ?_;refine Yy ?_;refine Zy ?_;obtain rfl:=ret1 H;exact Yd Za (Res.tmp rfl) Zg ⟨rfl,rfl⟩
   ·refine Xf rfl (Bool.eq_false_iff.2 g6) ?_;refine T.skip ?_;refine Yv ?_;refine Zz ?_;refine Zm (aT [0,1,7,8] rfl) ?_;obtain ⟨g7,H⟩:=Ya H;refine rG Y2 rfl ?_;refine Xy g7 Zb ?_;refine Zc Za ?_;refine Zk ?_;have H:=Wr H d0;exact Lw d4 (x1+1) H (Nat.lt_succ_self _) (aF rfl) Zg
  ·refine Yu rfl g2 ?_;refine T.exit ?_;refine Xc ?_;have H:=Wd H d0▸d1;refine Xc ?_;refine Ve ?_;exact Xe () H Js Zg
 ·rintro u8 H;unfold Z95 at H;refine sR Y1 rfl ?_;refine aN Za ?_;refine T.ret ?_;obtain rfl:=ret1 H;exact Yd Za (Res.tmp rfl) Zg ⟨rfl,rfl⟩
theorem Zfl {s0:List Arc}{f1_1:Net}{b7 a3:Option Addr}{b6 b8 a6 a5 a2 a4:Nat}(w:World)(c4:RS w [] Zx 3 b7 b6 b8 s0)(a8:HB w [] a6 [.func (.func 88) #[] #[]])(a7:RS w [] Zx 3 a3 a2 a4 f1_1.Arcs)(a9:HB w [] a5 [iV f1_1.N,iV f1_1.S,iV f1_1.T,.slice a3 a2 a4]){r0:Bool}(H:Z9k s0 f1_1=some r0):Fnc Tryz.prog 133 #[.slice b7 b6 b8,.func (.func 134) #[] #[pV a6,pV a5]] w [] (fun v N=>v=.bool r0∧N=[]):=by
 unfold Z9k at H;refine Fnc.enter (vs:=[.slice b7 b6 b8,.func (.func 134) #[] #[pV a6,pV a5]]) Tryz.func133 rfl rfl (Inv.refl w) ?_;refine sR Y1 rfl ?_;refine aN Za ?_;refine Zh ?_;obtain ⟨r1,e2,H⟩:=Zn H;refine rG Y5 rfl ?_;refine Zc Za ?_;refine Zc Za ?_;refine Zw Zcu Za (fun wc hwc=>Zfr (s0:=s0) (f1_1:=f1_1) wc (c4.mono hwc) (a8.mono hwc) (a7.mono hwc) (a9.mono hwc) e2) ?_;rintro _ _ ⟨rfl,rfl⟩;refine Zq Zl ?_;refine aN Za ?_;refine T.ret ?_;obtain rfl:=ret1 H;exact Yd Za (Res.tmp rfl) Zg ⟨rfl,rfl⟩
theorem Ze0 {n0:Net}{a4:Option Addr}{a3 a2 a7:Nat}(w:World)(a5:RS w [] Zx 3 a4 a3 a2 n0.Arcs)(a6:HB w [] a7 [.func (.func 88) #[] #[]]){r0:Bool}(H:Z7c n0=some r0):Fnc Tryz.prog 132 #[.agg #[iV n0.N,iV n0.S,iV n0.T,.slice a4 a3 a2],pV a7] w [] (fun v N=>v=.bool r0∧N=[]):=by
 unfold Z7c at H;refine Fnc.enter (vs:=[.agg #[iV n0.N,iV n0.S,iV n0.T,.slice a4 a3 a2],pV a7]) Tryz.func132 rfl rfl (Inv.refl w) ?_;refine sR Y2 rfl ?_;refine Wa Za ?_;intro b1;refine aN Za ?_;refine Zh ?_;obtain ⟨r3,e4,H⟩:=Zn H;refine rG Y6 rfl ?_;refine Zs Za Vm ?_;refine Zt Za Vt Zi rfl ?_;refine TO.makeFunc Zb ?_;refine Zw Zc9 Za (fun wc hwc=>Zfl (s0:=n0.Arcs) (f1_1:=n0) wc (a5.mono hwc) (a6.mono hwc) (a5.mono hwc) (hwc.hb (cs:=[iV n0.N,iV n0.S,iV n0.T,.slice a4 a3 a2]) Zi) e4) ?_;rintro _ _ ⟨rfl,rfl⟩;refine TO.not Za ?_;refine aN Za ?_;refine Zm (aT [3] rfl) ?_;refine T.ret ?_;obtain rfl:=ret1 H;exact Yd Za (Res.tmp rfl) Zg ⟨rfl,rfl⟩
theorem Zjc {n0:Net}{a1:Arc}{a4:Option Addr}{a3 a2:Nat}(w:World)(a5:RS w [] Zx 3 a4 a3 a2 n0.Arcs){r0:Bool}(H:Z8w n0 a1=some r0):Fnc Tryz.prog 89 #[.agg #[iV n0.N,iV n0.S,iV n0.T,.slice a4 a3 a2],.agg #[iV a1.fr,iV a1.to,iV a1.cap]] w [] (fun v N=>v=.bool r0∧N=[]):=by
 unfold Z8w at H;refine Fnc.enter (vs:=[.agg #[iV n0.N,iV n0.S,iV n0.T,.slice a4 a3 a2],.agg #[iV a1.fr,iV a1.to,iV a1.cap]]) Tryz.func89 rfl rfl (Inv.refl w) ?_;refine sR Y3 rfl ?_;refine Wa Za ?_;intro b1;refine Wa Za ?_;intro b3;refine aN Za ?_;refine sR Y4 rfl ?_;refine Zs Za Nw ?_;refine Zt Za Wp Zi rfl ?_;refine Zq Zl ?_;refine aN Za ?_;refine T.ret ?_;obtain rfl:=ret1 H;exact Yd Za (Res.tmp rfl) Zg ⟨rfl,rfl⟩
theorem Zi8 {a0:Arc}{c2:Net}{a7 a6 a4 a2:Nat}{a3:Option Addr}(w:World)(a5:HB w [] a7 [.func (.func 89) #[] #[]])(a8:RS w [] Zx 3 a3 a4 a2 c2.Arcs)(a9:HB w [] a6 [iV c2.N,iV c2.S,iV c2.T,.slice a3 a4 a2]){r0:Bool}(H:Z80 a0 c2=some r0):Fnc Tryz.prog 134 #[.agg #[iV a0.fr,iV a0.to,iV a0.cap],pV a7,pV a6] w [] (fun v N=>v=.bool r0∧N=[]):=by
 unfold Z80 at H;refine Fnc.enter (vs:=[.agg #[iV a0.fr,iV a0.to,iV a0.cap],pV a7,pV a6]) Tryz.func134 rfl rfl (Inv.refl w) ?_;refine sR Y2 rfl ?_;refine Wa Za ?_;intro b1;refine aN Za ?_;refine Zh ?_;obtain ⟨r3,e4,H⟩:=Zn H;refine rG Y6 rfl ?_;refine Vn a5 Zb Zcw ?_;refine Zal a9 Zb Xb ?_;refine Xj Za Je Zi rfl ?_;refine Jb Zes Zb (fun wc hwc=>Zjc (n0:=c2) (a1:=a0) wc (a8.mono hwc) e4) ?_;rintro _ _ ⟨rfl,rfl⟩;refine TO.not Za ?_;refine aN Za ?_;refine Zm (aT [4] rfl) ?_;refine T.ret ?_;obtain rfl:=ret1 H;exact Yd Za (Res.tmp rfl) Zg ⟨rfl,rfl⟩
theorem Zih {s0:List Arc}{f1_1:Net}{b7 a5:Option Addr}{b6 b8 a3 a2 a4 a6:Nat}(w:World)(c4:RS w [] Zx 3 b7 b6 b8 s0)(a8:HB w [] a3 [.func (.func 89) #[] #[]])(a7:RS w [] Zx 3 a5 a4 a6 f1_1.Arcs)(a9:HB w [] a2 [iV f1_1.N,iV f1_1.S,iV f1_1.T,.slice a5 a4 a6]){r0:Int}(H:Z96 s0 f1_1=some r0):Fnc Tryz.prog 182 #[.slice b7 b6 b8,.func (.func 134) #[] #[pV a3,pV a2]] w [] (fun v N=>v=iV r0∧N=[]):=by
 unfold Z96 at H;refine Fnc.enter (vs:=[.slice b7 b6 b8,.func (.func 134) #[] #[pV a3,pV a2]]) Tryz.func182 rfl rfl (Inv.refl w) ?_;refine sR Y1 rfl ?_;refine aN Za ?_;refine Zh ?_;refine sR Y3 rfl ?_;refine Zc Za ?_;refine Ym (xs:=s0) c4.len Zb Wo ?_;refine Zc Za ?_;refine dN ?_;refine Wi (fun (u8:Unit)=>Z84=some r0) (fun (u8:Unit)=>[]) (fun (u8:Unit)=>[]) ?_ ?_
 ·
  refine T.block ?_;obtain ⟨d2,d3,d1⟩:=Zn H;refine Z0w (fun (c7:Nat) (x1:Int)=>Xa (fun s=>Z2z s0 f1_1 s) c7 x1=some d2) (fun (c7:Nat) (x1:Int)=>[(0,.slice b7 b6 b8),(1,.func (.func 134) #[] #[pV a3,pV a2]),(7,iV (s0.length:Int)),(8,iV x1)]) (fun (c7:Nat) (x1:Int)=>[]) (fun (c7:Nat) (x1:Int)=>c7) Xd 0 d3 (aF rfl) Zg ?_;rintro c7 x1 H;obtain ⟨d4,d5,rfl,H,d0⟩:=Vo H;have H:Z2z s0 f1_1 x1=some d5:=H;unfold Z2z at H;refine sR Y1 rfl ?_;refine Zq Zl ?_;refine dS ?_;rcases Zp H with ⟨g2,H⟩ | ⟨g2,H⟩
  ·
   refine Yw rfl g2 ?_;refine T.skip ?_;refine Zz ?_;refine Zh ?_;refine T.block ?_;refine sR Y2 rfl ?_;refine Zc Za ?_;refine aN Za ?_;refine Zh ?_;obtain ⟨g3,H⟩:=Ya H;obtain ⟨r4,e5,H⟩:=Zn H;refine rG Y6 rfl ?_;refine Zc Za ?_;refine Zc Za ?_;refine Zc Za ?_;refine Xr c4 g3 Zb Wo Vl ?_;refine Gu (cs:=[iV ((s0.getD x1.toNat default).fr),iV ((s0.getD x1.toNat default).to),iV ((s0.getD x1.toNat default).cap)]) default c4 g3 Zb Je ?_;refine Jb Za2 Zb (fun wc hwc=>Zi8 (a0:=(s0.getD x1.toNat default)) (c2:=f1_1) wc (a8.mono hwc) (a7.mono hwc) (a9.mono hwc) e5) ?_;rintro _ _ ⟨rfl,rfl⟩;refine dN ?_;rcases Zp H with ⟨g6,H⟩ | ⟨g6,H⟩
   ·refine Yr rfl g6 ?_;refine sR Y2 rfl ?_;refine Zc Za ?_;refine aN Za ?_;refine Zm (aT [4] rfl) ?_;refine T.ret ?_;refine Yy ?_;refine Zy ?_;have H:=Wd H d0▸d1;refine Zy ?_;refine Yy ?_;refine Zy ?_;obtain rfl:=ret1 H;exact Yd Za (Res.tmp rfl) Zg ⟨rfl,rfl⟩
   ·refine Xf rfl (Bool.eq_false_iff.2 g6) ?_;refine T.skip ?_;refine Yv ?_;refine Zz ?_;refine Zm (aT [0,1,7,8] rfl) ?_;obtain ⟨g7,H⟩:=Ya H;refine rG Y2 rfl ?_;refine Xy g7 Zb ?_;refine Zc Za ?_;refine Zk ?_;have H:=Wr H d0;exact Lw d4 (x1+1) H (Nat.lt_succ_self _) (aF rfl) Zg
  ·refine Yu rfl g2 ?_;refine T.exit ?_;refine Xc ?_;have H:=Wd H d0▸d1;refine Xc ?_;refine Ve ?_;exact Xe () H Js Zg
 ·rintro u8 H;unfold Z84 at H;refine sR Y1 rfl ?_;refine aN Za ?_;refine T.ret ?_;obtain rfl:=ret1 H;exact Yd Za (Res.tmp rfl) Zg ⟨rfl,rfl⟩
theorem Zgn {s0:List Arc}{f1_1:Net}{b7 a3:Option Addr}{b6 b8 a6 a5 a2 a4:Nat}(w:World)(c4:RS w [] Zx 3 b7 b6 b8 s0)(a8:HB w [] a6 [.func (.func 89) #[] #[]])(a7:RS w [] Zx 3 a3 a2 a4 f1_1.Arcs)(a9:HB w [] a5 [iV f1_1.N,iV f1_1.S,iV f1_1.T,.slice a3 a2 a4]){r0:Bool}(H:Z6f s0 f1_1=some r0):Fnc Tryz.prog 133 #[.slice b7 b6 b8,.func (.func 134) #[] #[pV a6,pV a5]] w [] (fun v N=>v=.bool r0∧N=[]):=by
 unfold Z6f at H;refine Fnc.enter (vs:=[.slice b7 b6 b8,.func (.func 134) #[] #[pV a6,pV a5]]) Tryz.func133 rfl rfl (Inv.refl w) ?_;refine sR Y1 rfl ?_;refine aN Za ?_;refine Zh ?_;obtain ⟨r1,e2,H⟩:=Zn H;refine rG Y5 rfl ?_;refine Zc Za ?_;refine Zc Za ?_;refine Zw Zcu Za (fun wc hwc=>Zih (s0:=s0) (f1_1:=f1_1) wc (c4.mono hwc) (a8.mono hwc) (a7.mono hwc) (a9.mono hwc) e2) ?_;rintro _ _ ⟨rfl,rfl⟩;refine Zq Zl ?_;refine aN Za ?_;refine T.ret ?_;obtain rfl:=ret1 H;exact Yd Za (Res.tmp rfl) Zg ⟨rfl,rfl⟩
theorem Ze9 {n0:Net}{a4:Option Addr}{a3 a2 a7:Nat}(w:World)(a5:RS w [] Zx 3 a4 a3 a2 n0.Arcs)(a6:HB w [] a7 [.func (.func 89) #[] #[]]){r0:Bool}(H:Z8m n0=some r0):Fnc Tryz.prog 132 #[.agg #[iV n0.N,iV n0.S,iV n0.T,.slice a4 a3 a2],pV a7] w [] (fun v N=>v=.bool r0∧N=[]):=by
 unfold Z8m at H;refine Fnc.enter (vs:=[.agg #[iV n0.N,iV n0.S,iV n0.T,.slice a4 a3 a2],pV a7]) Tryz.func132 rfl rfl (Inv.refl w) ?_;refine sR Y2 rfl ?_;refine Wa Za ?_;intro b1;refine aN Za ?_;refine Zh ?_;obtain ⟨r3,e4,H⟩:=Zn H;refine rG Y6 rfl ?_;refine Zs Za Vm ?_;refine Zt Za Vt Zi rfl ?_;refine TO.makeFunc Zb ?_;refine Zw Zc9 Za (fun wc hwc=>Zgn (s0:=n0.Arcs) (f1_1:=n0) wc (a5.mono hwc) (a6.mono hwc) (a5.mono hwc) (hwc.hb (cs:=[iV n0.N,iV n0.S,iV n0.T,.slice a4 a3 a2]) Zi) e4) ?_;rintro _ _ ⟨rfl,rfl⟩;refine TO.not Za ?_;refine aN Za ?_;refine Zm (aT [3] rfl) ?_;refine T.ret ?_;obtain rfl:=ret1 H;exact Yd Za (Res.tmp rfl) Zg ⟨rfl,rfl⟩
theorem Zjb {n0:Net}{a6:Option Addr}{a5 a4:Nat}(w:World)(a7:RS w [] Zx 3 a6 a5 a4 n0.Arcs){r0:Int}{r1:Bool}(H:Z7e n0=some (r0,r1)):Fnc Tryz.prog 91 #[.agg #[iV n0.N,iV n0.S,iV n0.T,.slice a6 a5 a4]] w [] (fun v N=>v=.tuple #[iV r0,.bool r1]∧N=[]):=by
 unfold Z7e at H;refine Fnc.enter (vs:=[.agg #[iV n0.N,iV n0.S,iV n0.T,.slice a6 a5 a4]]) Tryz.func91 rfl rfl (Inv.refl w) ?_;refine sR Y3 rfl ?_;refine Wa Za ?_;intro b1;refine Yc Za ?_;refine aN Za ?_;refine sR Y1 rfl ?_;refine aN Za ?_;refine Zh ?_;refine sR Y4 rfl ?_;refine Zs Za Vm ?_;refine Zt Za Vt Zi rfl ?_;refine Ym (xs:=n0.Arcs) a7.len Zb Wo ?_;refine Zc Za ?_;refine dN ?_;refine Wi (fun (a3:Int)=>Z9c a3=some (r0,r1)) (fun (a3:Int)=>[(4,iV a3)]) (fun (a3:Int)=>[]) ?_ ?_
 ·
  refine T.block ?_;obtain ⟨d0,d1,c4⟩:=Zn H;refine Ld (fun (a8:Nat) (a2 x4:Int)=>Xa (fun s=>Z2t n0 s.1 s.2) a8 (a2,x4)=some d0) (fun (a8:Nat) (a2 x4:Int)=>[(4,iV a2),(8,.slice a6 a5 a4),(9,iV (n0.Arcs.length:Int)),(10,iV x4)]) (fun (a8:Nat) (a2 x4:Int)=>[]) (fun (a8:Nat) (a2 x4:Int)=>a8) Xd 4611686018427387904 0 d1 (aF rfl) Zg ?_;rintro a8 a2 x4 H;obtain ⟨d2,c7,rfl,H,b6⟩:=Vo H;have H:Z2t n0 a2 x4=some c7:=H;unfold Z2t at H;refine sR Y1 rfl ?_;refine Zq Zl ?_;refine dS ?_;rcases Zp H with ⟨g5,H⟩ | ⟨g5,H⟩
  ·
   refine Yw rfl g5 ?_;refine T.skip ?_;refine Zz ?_;refine Zh ?_;refine T.block ?_;obtain ⟨g6,H⟩:=Ya H;refine sR Y4 rfl ?_;refine Xr a7 g6 Zb Wo Vl ?_;refine Gu (cs:=[iV ((n0.Arcs.getD x4.toNat default).fr),iV ((n0.Arcs.getD x4.toNat default).to),iV ((n0.Arcs.getD x4.toNat default).cap)]) default a7 g6 Zb Je ?_;refine Xs Zj Gv ?_;intro b7;refine Xo Za Ze Vl Zj ?_;refine dS ?_;refine Zh ?_;refine Wi (fun (a9:Bool)=>Z5d n0 a2 x4 a9=some c7) (fun (a9:Bool)=>[(4,iV a2),(6,pV b7),(8,.slice a6 a5 a4),(9,iV (n0.Arcs.length:Int)),(10,iV x4),(22,.bool a9)]) (fun (a9:Bool)=>[(eC b7 #[iV ((n0.Arcs.getD x4.toNat default).fr),iV ((n0.Arcs.getD x4.toNat default).to),iV ((n0.Arcs.getD x4.toNat default).cap)] 64)]) ?_ ?_
   ·
    rcases Zp H with ⟨g9,H⟩ | ⟨g9,H⟩
    ·refine rG Y9 rfl ?_;refine Zs Za Nw ?_;refine Zt Za Wp Zi rfl ?_;refine Zq Zl ?_;refine Zc Za ?_;refine Zu (t:=17) (b':=true) rfl (decide_eq_true g9) ?_;refine Zf Za ?_;refine Zf Za ?_;refine Zf Za ?_;refine Zf Za ?_;refine Ye Zb ?_;refine Zk ?_;exact Xe true H (aF rfl) (Zd Ze Zg)
    ·refine rG Y9 rfl ?_;refine Zs Za Nw ?_;refine Zt Za Wp Zi rfl ?_;refine Zq Zl ?_;refine Zc Za ?_;refine Zu (t:=17) (b':=false) rfl (decide_eq_false g9) ?_;refine Zs Za Nw ?_;refine Zt Za Wp Zi rfl ?_;refine Zc Za ?_;refine Zq Zl ?_;refine Yg Zb ?_;refine Zk ?_;exact Xe (decide (a2<((n0.Arcs.getD x4.toNat default).cap))) H (aF rfl) (Zd Ze Zg)
   ·
    rintro a9 H;unfold Z5d at H;rcases Zp H with ⟨b8,H⟩ | ⟨b8,H⟩
    ·refine Yr rfl b8 ?_;refine sR Y2 rfl ?_;refine Yc Za ?_;refine aN Za ?_;refine T.ret ?_;refine Zy ?_;refine Yy ?_;refine Zy ?_;have H:=Wd H b6▸c4;refine Zy ?_;refine Yy ?_;refine Zy ?_;obtain ⟨rfl,rfl⟩:=ret2 H;exact Xg Za (Res.tmp rfl) (Res.tmp rfl) Zg ⟨rfl,rfl⟩
    ·refine Xf rfl (Bool.eq_false_iff.2 b8) ?_;refine T.skip ?_;refine Zz ?_;obtain ⟨d3,H⟩:=Ya H;refine rG Y5 rfl ?_;refine Zc Za ?_;refine Zs Za Nw ?_;refine Zt Za Wp Zi rfl ?_;refine Nd d3 Zb ?_;refine Yc Za ?_;refine Zk ?_;refine Yv ?_;refine Zz ?_;obtain ⟨d4,H⟩:=Ya H;refine rG Y2 rfl ?_;refine Xy d4 Zb ?_;refine Zc Za ?_;refine Zk ?_;have H:=Wr H b6;exact Gj d2 (a2 - ((n0.Arcs.getD x4.toNat default).cap)) (x4+1) H (Nat.lt_succ_self _) (aF rfl) Zg
  ·refine Yu rfl g5 ?_;refine T.exit ?_;refine Xc ?_;have H:=Wd H b6▸c4;refine Xc ?_;refine Ve ?_;exact Xe a2 H (aF rfl) Zg
 ·rintro a3 H;unfold Z9c at H;obtain ⟨d5,H⟩:=Ya H;refine sR Y4 rfl ?_;refine Zc Za ?_;refine Nd d5 Zb ?_;refine Yc Za ?_;refine aN Za ?_;refine T.ret ?_;obtain ⟨rfl,rfl⟩:=ret2 H;exact Xg Za (Res.tmp rfl) (Res.tmp rfl) Zg ⟨rfl,rfl⟩
theorem Zei {n0:Net}{a4:Option Addr}{a3 a2:Nat}(w:World)(a5:RS w [] Zx 3 a4 a3 a2 n0.Arcs){r0:Bool}(H:Z6h n0=some r0):Fnc Tryz.prog 90 #[.agg #[iV n0.N,iV n0.S,iV n0.T,.slice a4 a3 a2]] w [] (fun v N=>v=.bool r0∧N=[]):=by
 unfold Z6h at H;refine Fnc.enter (vs:=[.agg #[iV n0.N,iV n0.S,iV n0.T,.slice a4 a3 a2]]) Tryz.func90 rfl rfl (Inv.refl w) ?_;refine sR Y2 rfl ?_;refine Wa Za ?_;intro b1;refine aN Za ?_;refine Zh ?_;obtain ⟨⟨r3,r4⟩,e5,H⟩:=Zn H;refine rG Y7 rfl ?_;refine Xj Za Xb Zi rfl ?_;refine Zw Ze4 Za (fun wc hwc=>Zjb (n0:=n0) wc (a5.mono hwc) e5) ?_;rintro _ _ ⟨rfl,rfl⟩;refine Zc Za ?_;refine TO.extract Zb ?_;refine TO.extract Zb ?_;refine Yc Za ?_;refine aN Za ?_;refine Zm (aT [4] rfl) ?_;refine sR Y2 rfl ?_;refine Zc Za ?_;refine aN Za ?_;refine T.ret ?_;obtain rfl:=ret1 H;exact Yd Za (Res.tmp rfl) Zg ⟨rfl,rfl⟩
theorem La {n0:Net}{a5:Option Addr}{a4 a3:Nat}(w:World)(a2:RS w [] Zx 3 a5 a4 a3 n0.Arcs){r0:Int}(H:Gw n0=some r0):Fnc Tryz.prog 24 #[.agg #[iV n0.N,iV n0.S,iV n0.T,.slice a5 a4 a3]] w [] (fun v N=>v=iV r0∧N=[]):=by
 unfold Gw at H;refine Fnc.enter (vs:=[.agg #[iV n0.N,iV n0.S,iV n0.T,.slice a5 a4 a3]]) Tryz.func24 rfl rfl (Inv.refl w) ?_;refine sR Y2 rfl ?_;refine Wa Za ?_;intro b1;refine aN Za ?_;refine Zh ?_;refine Zh ?_;obtain ⟨⟨⟩,e3,H⟩:=Zn H;refine rG Y2 rfl ?_;refine Zw Zj5 Za (fun wc hwc=>Zio  wc  e3) ?_;rintro _ _ ⟨b4,b5,rfl,rfl⟩;refine Zc Za ?_;refine dN ?_;refine Wi (fun (a6:Unit)=>Z79=some r0) (fun (a6:Unit)=>[]) (fun (a6:Unit)=>[]) ?_ ?_
 ·
  refine T.block ?_;refine Zat ?_;refine RT.round ?_;refine sR Y1 rfl ?_;refine Jn (b:=true) Zl (by first | decide | rfl) ?_;refine dS ?_;refine Yr rfl rfl ?_;refine T.skip ?_;refine Zz ?_;refine Zh ?_;refine T.block ?_;refine sR Y3 rfl ?_;refine Z0r (vs:=[.func (.func 83) #[] #[],iV 10]) Zb Z11 Z0p (by decide) rfl ?_;refine Xs Zj Z0q ?_;intro b8;refine Xo Za Ze Z0n Zj ?_;refine dS ?_;obtain ⟨d5,c7,H⟩:=Zn H;refine rG Y5 rfl ?_;refine Zs Za Z1b ?_;refine Zt Za Z0i Zi rfl ?_;refine Xj Za Xb Uo rfl ?_;refine Jb Zjg Zb (fun wc hwc=>Zfp (n0:=n0) wc (a2.mono hwc) c7) ?_;rintro _ _ ⟨rfl,rfl⟩;refine TO.not Za ?_;refine dN ?_;refine Zm (aT [1,5,6,4,13] rfl) ?_;rcases Zp H with ⟨a7,H⟩ | ⟨a7,H⟩
  ·refine Yr rfl a7 ?_;refine sR Y3 rfl ?_;refine Zs Za Z0u ?_;refine Zt Za Kx Zi rfl ?_;refine aN Za ?_;refine T.ret ?_;refine Yy ?_;refine Zy ?_;refine Zy ?_;refine Yy ?_;refine Zy ?_;obtain rfl:=ret1 H;exact Yd Za (Res.tmp rfl) Zg ⟨rfl,rfl⟩
  ·
   refine Xf rfl (Bool.eq_false_iff.2 a7) ?_;refine T.skip ?_;refine Yv ?_;refine Zz ?_;refine rG Y2 rfl ?_;refine Gr (r:=1) (by decide) Zb ?_;refine Zc Za ?_;refine Zk ?_;refine X.round ?_;refine RT.round ?_;refine sR Y1 rfl ?_;refine Jn (b:=true) Zl (by first | decide | rfl) ?_;refine dS ?_;refine Yr rfl rfl ?_;refine T.skip ?_;refine Zz ?_;refine Zh ?_;refine T.block ?_;refine sR Y3 rfl ?_;refine Z0r (vs:=[.func (.func 84) #[] #[],iV 11]) Zb Z11 Z0p (by decide) rfl ?_;refine Xs Zj Z0q ?_;intro d6;refine Xo Za Ze Z0n Zj ?_;refine dS ?_;obtain ⟨d7,d0,H⟩:=Zn H;refine rG Y5 rfl ?_;refine Zs Za Z1b ?_;refine Zt Za Z0i Zi rfl ?_;refine Xj Za Xb Vp rfl ?_;refine Jb Zh7 Zb (fun wc hwc=>Zhi (n0:=n0) wc (a2.mono hwc) d0) ?_;rintro _ _ ⟨rfl,rfl⟩;refine TO.not Za ?_;refine dN ?_;rcases Zp H with ⟨a8,H⟩ | ⟨a8,H⟩
   ·refine Yr rfl a8 ?_;refine sR Y3 rfl ?_;refine Zs Za Z0u ?_;refine Zt Za Kx Zi rfl ?_;refine aN Za ?_;refine Zm (aT [2] rfl) ?_;refine T.ret ?_;refine Yy ?_;refine Zy ?_;refine Zy ?_;refine Yy ?_;refine Zy ?_;obtain rfl:=ret1 H;exact Yd Za (Res.tmp rfl) Zg ⟨rfl,rfl⟩
   ·
    refine Xf rfl (Bool.eq_false_iff.2 a8) ?_;refine T.skip ?_;refine Yv ?_;refine Zz ?_;refine Zm (aT [1,5,6] rfl) ?_;refine rG Y2 rfl ?_;refine Gr (r:=2) (by decide) Zb ?_;refine Zc Za ?_;refine Zk ?_;refine X.round ?_;refine RT.round ?_;refine sR Y1 rfl ?_;refine Jn (b:=true) Zl (by first | decide | rfl) ?_;refine dS ?_;refine Yr rfl rfl ?_;refine T.skip ?_;refine Zz ?_;refine Zh ?_;refine T.block ?_;refine sR Y3 rfl ?_;refine Z0r (vs:=[.func (.func 85) #[] #[],iV 12]) Zb Z11 Z0p (by decide) rfl ?_;refine Xs Zj Z0q ?_;intro d8;refine Xo Za Ze Z0n Zj ?_;refine dS ?_;obtain ⟨d9,d1,H⟩:=Zn H;refine rG Y5 rfl ?_;refine Zs Za Z1b ?_;refine Zt Za Z0i Zi rfl ?_;refine Xj Za Xb Vf rfl ?_;refine Jb Zgi Zb (fun wc hwc=>Zgp (n0:=n0) wc (a2.mono hwc) d1) ?_;rintro _ _ ⟨rfl,rfl⟩;refine TO.not Za ?_;refine dN ?_;rcases Zp H with ⟨a9,H⟩ | ⟨a9,H⟩
    ·refine Yr rfl a9 ?_;refine sR Y3 rfl ?_;refine Zs Za Z0u ?_;refine Zt Za Kx Zi rfl ?_;refine aN Za ?_;refine Zm (aT [2] rfl) ?_;refine T.ret ?_;refine Yy ?_;refine Zy ?_;refine Zy ?_;refine Yy ?_;refine Zy ?_;obtain rfl:=ret1 H;exact Yd Za (Res.tmp rfl) Zg ⟨rfl,rfl⟩
    ·
     refine Xf rfl (Bool.eq_false_iff.2 a9) ?_;refine T.skip ?_;refine Yv ?_;refine Zz ?_;refine Zm (aT [1,5,6] rfl) ?_;refine rG Y2 rfl ?_;refine Gr (r:=3) (by decide) Zb ?_;refine Zc Za ?_;refine Zk ?_;refine X.round ?_;refine RT.round ?_;refine sR Y1 rfl ?_;refine Jn (b:=true) Zl (by first | decide | rfl) ?_;refine dS ?_;refine Yr rfl rfl ?_;refine T.skip ?_;refine Zz ?_;refine Zh ?_;refine T.block ?_;refine sR Y3 rfl ?_;refine Z0r (vs:=[.func (.func 132) #[] #[pV b4],iV 13]) Zb Z11 Z0p (by decide) rfl ?_;refine Xs Zj Z0q ?_;intro e1;refine Xo Za Ze Z0n Zj ?_;refine dS ?_;obtain ⟨e2,d2,H⟩:=Zn H;refine rG Y5 rfl ?_;refine Zs Za Z1b ?_;refine Zt Za Z0i Zi rfl ?_;refine Xj Za Xb mm6 rfl ?_;refine Jb Zaz Zb (fun wc hwc=>Ze0 (n0:=n0) wc (a2.mono hwc) (hwc.hb (cs:=[.func (.func 88) #[] #[]]) Vp) d2) ?_;rintro _ _ ⟨rfl,rfl⟩;refine TO.not Za ?_;refine dN ?_;rcases Zp H with ⟨b6,H⟩ | ⟨b6,H⟩
     ·refine Yr rfl b6 ?_;refine sR Y3 rfl ?_;refine Zs Za Z0u ?_;refine Zt Za Kx Zi rfl ?_;refine aN Za ?_;refine Zm (aT [2] rfl) ?_;refine T.ret ?_;refine Yy ?_;refine Zy ?_;refine Zy ?_;refine Yy ?_;refine Zy ?_;obtain rfl:=ret1 H;exact Yd Za (Res.tmp rfl) Zg ⟨rfl,rfl⟩
     ·
      refine Xf rfl (Bool.eq_false_iff.2 b6) ?_;refine T.skip ?_;refine Yv ?_;refine Zz ?_;refine Zm (aT [1,5,6] rfl) ?_;refine rG Y2 rfl ?_;refine Gr (r:=4) (by decide) Zb ?_;refine Zc Za ?_;refine Zk ?_;refine X.round ?_;refine RT.round ?_;refine sR Y1 rfl ?_;refine Jn (b:=true) Zl (by first | decide | rfl) ?_;refine dS ?_;refine Yr rfl rfl ?_;refine T.skip ?_;refine Zz ?_;refine Zh ?_;refine T.block ?_;refine sR Y3 rfl ?_;refine Z0r (vs:=[.func (.func 132) #[] #[pV b5],iV 14]) Zb Z11 Z0p (by decide) rfl ?_;refine Xs Zj Z0q ?_;intro e4;refine Xo Za Ze Z0n Zj ?_;refine dS ?_;obtain ⟨e5,d3,H⟩:=Zn H;refine rG Y5 rfl ?_;refine Zs Za Z1b ?_;refine Zt Za Z0i Zi rfl ?_;refine Xj Za Xb mm7 rfl ?_;refine Jb Zaz Zb (fun wc hwc=>Ze9 (n0:=n0) wc (a2.mono hwc) (hwc.hb (cs:=[.func (.func 89) #[] #[]]) mm6) d3) ?_;rintro _ _ ⟨rfl,rfl⟩;refine TO.not Za ?_;refine dN ?_;rcases Zp H with ⟨b7,H⟩ | ⟨b7,H⟩
      ·refine Yr rfl b7 ?_;refine sR Y3 rfl ?_;refine Zs Za Z0u ?_;refine Zt Za Kx Zi rfl ?_;refine aN Za ?_;refine Zm (aT [2] rfl) ?_;refine T.ret ?_;refine Yy ?_;refine Zy ?_;refine Zy ?_;refine Yy ?_;refine Zy ?_;obtain rfl:=ret1 H;exact Yd Za (Res.tmp rfl) Zg ⟨rfl,rfl⟩
      ·
       refine Xf rfl (Bool.eq_false_iff.2 b7) ?_;refine T.skip ?_;refine Yv ?_;refine Zz ?_;refine Zm (aT [1,5,6] rfl) ?_;refine rG Y2 rfl ?_;refine Gr (r:=5) (by decide) Zb ?_;refine Zc Za ?_;refine Zk ?_;refine X.round ?_;refine RT.round ?_;refine sR Y1 rfl ?_;refine Jn (b:=true) Zl (by first | decide | rfl) ?_;refine dS ?_;refine Yr rfl rfl ?_;refine T.skip ?_;refine Zz ?_;refine Zh ?_;refine T.block ?_;refine sR Y3 rfl ?_;refine Z0r (vs:=[.func (.func 90) #[] #[],iV 15]) Zb Z11 Z0p (by decide) rfl ?_;refine Xs Zj Z0q ?_;intro b33;refine Xo Za Ze Z0n Zj ?_;refine dS ?_;obtain ⟨e6,d4,H⟩:=Zn H;refine rG Y5 rfl ?_;refine Zs Za Z1b ?_;refine Zt Za Z0i Zi rfl ?_;refine Xj Za Xb Ul rfl ?_;refine Jb Zdv Zb (fun wc hwc=>Zei (n0:=n0) wc (a2.mono hwc) d4) ?_;rintro _ _ ⟨rfl,rfl⟩;refine TO.not Za ?_;refine dN ?_;rcases Zp H with ⟨c4,H⟩ | ⟨c4,H⟩
       ·refine Yr rfl c4 ?_;refine sR Y3 rfl ?_;refine Zs Za Z0u ?_;refine Zt Za Kx Zi rfl ?_;refine aN Za ?_;refine Zm (aT [2] rfl) ?_;refine T.ret ?_;refine Yy ?_;refine Zy ?_;refine Zy ?_;refine Yy ?_;refine Zy ?_;obtain rfl:=ret1 H;exact Yd Za (Res.tmp rfl) Zg ⟨rfl,rfl⟩
       ·refine Xf rfl (Bool.eq_false_iff.2 c4) ?_;refine T.skip ?_;refine Yv ?_;refine Zz ?_;refine Zm (aT [1,5,6] rfl) ?_;refine rG Y2 rfl ?_;refine Gr (r:=6) (by decide) Zb ?_;refine Zc Za ?_;refine Zk ?_;refine X.round ?_;refine RT.round ?_;refine sR Y1 rfl ?_;refine Jn (b:=false) Zl (by first | decide | rfl) ?_;refine dS ?_;refine Xf rfl rfl ?_;refine T.exit ?_;refine Xc ?_;refine Xc ?_;refine Ve ?_;exact Xe () H Js Zg
 ·rintro a6 H;unfold Z79 at H;refine sR Y1 rfl ?_;refine aN Za ?_;refine T.ret ?_;obtain rfl:=ret1 H;exact Yd Za (Res.tmp rfl) Zg ⟨rfl,rfl⟩
end Go.Proofs.YtddknfpolkkbjaaGreatDoor.Ax
namespace Go.Proofs.YtddknfpolkkbjaaGreatDoor.Ax
open Go Go.Acq Go.RowKit Go.Proofs
set_option maxHeartbeats 8000000
set_option maxRecDepth 20000
theorem Xt:Yk Tryz.prog 33=some 3:=by kernel_rfl
theorem Wc:Yh Tryz.prog 3=some 1:=by kernel_rfl
theorem Za1 {a0 b1:List Int}{a7 a4:Option Addr}{a5 a3 a6 a8:Nat}(w:World)(a2:RS w [] iC 1 a7 a5 a3 a0)(a9:RS w [] iC 1 a4 a6 a8 b1){r0:Bool}(H:Rn a0 b1=some r0):Fnc Tryz.prog 22 #[.slice a7 a5 a3,.slice a4 a6 a8] w [] (fun v N=>v=.bool r0∧N=[]):=by
 unfold Rn at H;refine Fnc.enter (vs:=[.slice a7 a5 a3,.slice a4 a6 a8]) Tryz.func22 rfl rfl (Inv.refl w) ?_;refine sR Y1 rfl ?_;refine aN Za ?_;refine Zh ?_;refine sR Y5 rfl ?_;refine Zc Za ?_;refine Ym (xs:=a0) a2.len Zb Xt ?_;refine Zc Za ?_;refine Ym (xs:=b1) a9.len Zb Xt ?_;refine Zq Zl ?_;refine dN ?_;rcases Zp H with ⟨g1,H⟩ | ⟨g1,H⟩
 ·refine Yw rfl g1 ?_;refine sR Y1 rfl ?_;refine aN Za ?_;refine T.ret ?_;refine Zy ?_;obtain rfl:=ret1 H;exact Yd Za (Res.tmp rfl) Zg ⟨rfl,rfl⟩
 ·
  refine Yu rfl g1 ?_;refine T.skip ?_;refine Zz ?_;refine Zh ?_;refine sR Y3 rfl ?_;refine Zc Za ?_;refine Ym (xs:=a0) a2.len Zb Xt ?_;refine Zc Za ?_;refine dN ?_;refine Wi (fun (u8:Unit)=>Z71=some r0) (fun (u8:Unit)=>[]) (fun (u8:Unit)=>[]) ?_ ?_
  ·
   refine T.block ?_;obtain ⟨c4,c7,b8⟩:=Zn H;refine Z0w (fun (b6:Nat) (x2:Int)=>Xa (fun s=>Z2k a0 b1 s) b6 x2=some c4) (fun (b6:Nat) (x2:Int)=>[(0,.slice a7 a5 a3),(1,.slice a4 a6 a8),(12,iV (a0.length:Int)),(13,iV x2)]) (fun (b6:Nat) (x2:Int)=>[]) (fun (b6:Nat) (x2:Int)=>b6) Xd 0 c7 (aF rfl) Zg ?_;rintro b6 x2 H;obtain ⟨d0,d1,rfl,H,b7⟩:=Vo H;have H:Z2k a0 b1 x2=some d1:=H;unfold Z2k at H;refine sR Y1 rfl ?_;refine Zq Zl ?_;refine dS ?_;rcases Zp H with ⟨g3,H⟩ | ⟨g3,H⟩
   ·
    refine Yw rfl g3 ?_;refine T.skip ?_;refine Zz ?_;refine Zh ?_;refine T.block ?_;refine sR Y2 rfl ?_;refine Zc Za ?_;refine aN Za ?_;refine Zh ?_;obtain ⟨g4,g5,H⟩:=Jh H;apply T.drawQT [(16,_),(17,_),(18,_),(19,_),(20,_),(21,_),(22,_),(23,_)]
    ·exact Xx
    ·kernel_rfl
    ·kernel_rfl
    ·exact rfl
    ·exact rfl
    ·
     refine ⟨?_,?_,?_,?_,?_,?_,?_,?_,trivial⟩
     ·intro Es;refine Zc Za ?_;exact Zk (X.ob rfl (Zv _))
     ·intro Es;refine Zc Za ?_;exact Zk (X.ob rfl (Zv _))
     ·intro Es;refine Xr a2 g4 Zb Xt Wc ?_;exact Zk (X.ob rfl (Zv _))
     ·intro Es;refine Kw a2 g4 Za Yf ?_;exact Zk (X.ob rfl (Zv _))
     ·intro Es;refine Zc Za ?_;exact Zk (X.ob rfl (Zv _))
     ·intro Es;refine Zc Za ?_;exact Zk (X.ob rfl (Zv _))
     ·intro Es;refine Xr a9 g5 Zb Xt Wc ?_;exact Zk (X.ob rfl (Zv _))
     ·intro Es;refine Kw a9 g5 Za Yf ?_;exact Zk (X.ob rfl (Zv _))
    refine Zq Zl ?_;refine dN ?_;refine Zm (aT [0,1,12,13,24] rfl) ?_;rcases Zp H with ⟨g6,H⟩ | ⟨g6,H⟩
    ·refine Yw rfl g6 ?_;refine sR Y1 rfl ?_;refine aN Za ?_;refine T.ret ?_;refine Yy ?_;refine Zy ?_;have H:=Wd H b7▸b8;refine Zy ?_;refine Yy ?_;refine Zy ?_;obtain rfl:=ret1 H;exact Yd Za (Res.tmp rfl) Zg ⟨rfl,rfl⟩
    ·refine Yu rfl g6 ?_;refine T.skip ?_;refine Yv ?_;refine Zz ?_;obtain ⟨g7,H⟩:=Ya H;refine rG Y2 rfl ?_;refine Xy g7 Zb ?_;refine Zc Za ?_;refine Zk ?_;have H:=Wr H b7;exact Lw d0 (x2+1) H (Nat.lt_succ_self _) (aF rfl) Zg
   ·refine Yu rfl g3 ?_;refine T.exit ?_;refine Xc ?_;have H:=Wd H b7▸b8;refine Xc ?_;refine Ve ?_;exact Xe () H Js Zg
  ·rintro u8 H;unfold Z71 at H;refine sR Y1 rfl ?_;refine aN Za ?_;refine T.ret ?_;obtain rfl:=ret1 H;exact Yd Za (Res.tmp rfl) Zg ⟨rfl,rfl⟩
end Go.Proofs.YtddknfpolkkbjaaGreatDoor.Ax
namespace Go.Proofs.YtddknfpolkkbjaaGreatDoor.Ax
open Go Go.Acq Go.RowKit Go.Proofs
set_option maxHeartbeats 8000000
set_option maxRecDepth 20000
theorem Z31:Vb Tryz.prog 3=some 8:=by kernel_rfl
theorem Zgg:Vb Tryz.prog 33=some 24:=by kernel_rfl
theorem Z83:Vb Tryz.prog 4=some 1:=by kernel_rfl
theorem Zax:Yb Tryz.prog 107=true:=by kernel_rfl
theorem Zfj:Yb Tryz.prog 227=true:=by kernel_rfl
theorem Zik:Yb Tryz.prog 228=true:=by kernel_rfl
theorem Zgb:Yb Tryz.prog 229=true:=by kernel_rfl
theorem Nr:Yb Tryz.prog 24=true:=by kernel_rfl
theorem Zfw:Yb Tryz.prog 243=true:=by kernel_rfl
theorem Z26:Yb Tryz.prog 292=true:=by kernel_rfl
theorem Z70:Yb Tryz.prog 295=true:=by kernel_rfl
theorem Z4o:Wh Tryz.prog 333 1=some 4:=by kernel_rfl
theorem Zj9:Gy Tryz.prog 188=some .u64:=by kernel_rfl
theorem Zcj:Gy Tryz.prog 3=some .i64:=by kernel_rfl
theorem Z07:Yk Tryz.prog 247=some 33:=by kernel_rfl
theorem Wf:Yk Tryz.prog 41=some 2:=by kernel_rfl
theorem Jg:Yk Tryz.prog 44=some 4:=by kernel_rfl
theorem We:Yh Tryz.prog 2=some 1:=by kernel_rfl
theorem Z0l:Yh Tryz.prog 33=some 1:=by kernel_rfl
theorem Uy:Yh Tryz.prog 4=some 1:=by kernel_rfl
theorem Zhg:(Tryz.prog.underlying 188).isSome=true:=by kernel_rfl
theorem TWQCY.o3:(Tryz.prog.underlying 3).isSome=true:=by kernel_rfl
theorem Z3s:Xi Tryz.prog 247=true:=by kernel_rfl
theorem Gz:Xi Tryz.prog 33=true:=by kernel_rfl
theorem TWQCY.z3:Yz Tryz.prog 3=some (iV 0):=by kernel_rfl
theorem Zh1:Yz Tryz.prog 33=some (.slice none 0 0):=by kernel_rfl
theorem TWQCY.z4:Yz Tryz.prog 4=some (.bool false):=by kernel_rfl
theorem Z6v:ElemT Tryz.prog 33 3 1 8 (iV 0):=⟨Xt,Wc,Z31,TWQCY.z3,rfl⟩
theorem Zan {n0:Net}{f1:List Int}{a5 a7:Option Addr}{a4 a3 a8 a9:Nat}(w:World)(a2:RS w [] Zx 3 a5 a4 a3 n0.Arcs)(a6:RS w [] iC 1 a7 a8 a9 f1){r0:Bool}(H:Z32 n0 f1=some r0):Fnc Tryz.prog 107 #[.agg #[iV n0.N,iV n0.S,iV n0.T,.slice a5 a4 a3],.slice a7 a8 a9] w [] (fun v N=>v=.bool r0∧N=[]):=by
 unfold Z32 at H;refine Fnc.enter (vs:=[.agg #[iV n0.N,iV n0.S,iV n0.T,.slice a5 a4 a3],.slice a7 a8 a9]) Tryz.func107 rfl rfl (Inv.refl w) ?_;refine sR Y2 rfl ?_;refine Wa Za ?_;intro b1;refine aN Za ?_;refine Zh ?_;refine Zh ?_;obtain ⟨r3,e4,H⟩:=Zn H;rcases Zp H with ⟨g5,H⟩ | ⟨g5,H⟩
 ·refine rG Y11 rfl ?_;refine Xj Za Xb Zi rfl ?_;refine Zw Nr Za (fun wc hwc=>La (n0:=n0) wc (a2.mono hwc) e4) ?_;rintro _ _ ⟨rfl,rfl⟩;refine Zq Zl ?_;refine Zc Za ?_;refine Zu (t:=10) (b':=true) rfl (decide_eq_true g5) ?_;refine Zf Za ?_;refine Zf Za ?_;refine Zf Za ?_;refine Zf Za ?_;refine Zf Za ?_;refine Zf Za ?_;refine Ye Zb ?_;refine dN ?_;refine Zm (aT [1,2,17] rfl) ?_;refine Yr rfl rfl ?_;refine sR Y1 rfl ?_;refine aN Za ?_;refine T.ret ?_;refine Zy ?_;obtain rfl:=ret1 H;exact Yd Za (Res.tmp rfl) Zg ⟨rfl,rfl⟩
 ·
  refine rG Y11 rfl ?_;refine Xj Za Xb Zi rfl ?_;refine Zw Nr Za (fun wc hwc=>La (n0:=n0) wc (a2.mono hwc) e4) ?_;rintro _ _ ⟨rfl,rfl⟩;refine Zq Zl ?_;refine Zc Za ?_;refine Zu (t:=10) (b':=false) rfl (decide_eq_false g5) ?_;refine Zc Za ?_;refine Ym (xs:=f1) a6.len Zb Wf ?_;refine Zs Za Vm ?_;refine Zt Za Vt Zi rfl ?_;refine Ym (xs:=n0.Arcs) a2.len Zb Wo ?_;refine Zq Zl ?_;refine Yg Zb ?_;refine dN ?_;refine Zm (aT [1,2,17] rfl) ?_;rcases Zp H with ⟨g6,H⟩ | ⟨g6,H⟩
  ·refine Yw rfl g6 ?_;refine sR Y1 rfl ?_;refine aN Za ?_;refine T.ret ?_;refine Zy ?_;obtain rfl:=ret1 H;exact Yd Za (Res.tmp rfl) Zg ⟨rfl,rfl⟩
  ·
   refine Yu rfl g6 ?_;refine T.skip ?_;refine Zz ?_;refine Zh ?_;refine sR Y4 rfl ?_;refine Zs Za Vm ?_;refine Zt Za Vt Zi rfl ?_;refine Ym (xs:=n0.Arcs) a2.len Zb Wo ?_;refine Zc Za ?_;refine dN ?_;refine Wi (fun (c4:Unit)=>Z8u=some r0) (fun (c4:Unit)=>[]) (fun (c4:Unit)=>[]) ?_ ?_
   ·
    refine T.block ?_;obtain ⟨d3,d4,c7⟩:=Zn H;refine Z0w (fun (b6:Nat) (x7:Int)=>Xa (fun s=>Z2p n0 f1 s) b6 x7=some d3) (fun (b6:Nat) (x7:Int)=>[(1,.slice a7 a8 a9),(19,.slice a5 a4 a3),(20,iV (n0.Arcs.length:Int)),(21,iV x7)]) (fun (b6:Nat) (x7:Int)=>[]) (fun (b6:Nat) (x7:Int)=>b6) Xd 0 d4 (aF rfl) Zg ?_;rintro b6 x7 H;obtain ⟨d5,d6,rfl,H,b7⟩:=Vo H;have H:Z2p n0 f1 x7=some d6:=H;unfold Z2p at H;refine sR Y1 rfl ?_;refine Zq Zl ?_;refine dS ?_;rcases Zp H with ⟨g8,H⟩ | ⟨g8,H⟩
    ·
     refine Yw rfl g8 ?_;refine T.skip ?_;refine Zz ?_;refine Zh ?_;refine T.block ?_;obtain ⟨g9,H⟩:=Ya H;refine sR Y6 rfl ?_;refine Zc Za ?_;refine Xr a2 g9 Zb Wo Vl ?_;refine Gu (cs:=[iV ((n0.Arcs.getD x7.toNat default).fr),iV ((n0.Arcs.getD x7.toNat default).to),iV ((n0.Arcs.getD x7.toNat default).cap)]) default a2 g9 Zb Je ?_;refine Xs Zj Gv ?_;intro d8;refine Yc Za ?_;refine Xo Za Ze Vl Zj ?_;refine dN ?_;refine Zh ?_;obtain ⟨b8,H⟩:=Ya H;rcases Zp H with ⟨d0,H⟩ | ⟨d0,H⟩
     ·refine Wz 12 [0,1,2,3,4,5,6,7,8,9,10,11] rfl Xx (by kernel_rfl) (by kernel_rfl) rfl (by kernel_rfl) ?_;refine TQ.move Za ?_;refine TQ.move Za ?_;refine Ka a6 b8 Zb Wf We ?_;refine Gt a6 b8 Za Wp ?_;refine Uv Zl ?_;refine TQ.move Za ?_;refine Vz (t:=31) (b':=true) rfl (decide_eq_true d0) ?_;refine Yi Za ?_;refine Yi Za ?_;refine Yi Za ?_;refine Yi Za ?_;refine Yi Za ?_;refine Yi Za ?_;refine TQ.tail [12,13] Ys ?_;refine Zf Za ?_;refine Ye Zb ?_;refine dN ?_;refine Zm (aT [1,19,20,21,32,33,34,35,36,37,38,39] rfl) ?_;refine Yr rfl rfl ?_;refine sR Y1 rfl ?_;refine aN Za ?_;refine Zm (aT [4] rfl) ?_;refine T.ret ?_;refine Yy ?_;refine Zy ?_;have H:=Wd H b7▸c7;refine Zy ?_;refine Yy ?_;refine Zy ?_;obtain rfl:=ret1 H;exact Yd Za (Res.tmp rfl) Zg ⟨rfl,rfl⟩
     ·
      obtain ⟨d2,H⟩:=Ya H;refine Wz 12 [0,1,2,3,4,5,6,7,8,9,10,11] rfl Xx (by kernel_rfl) (by kernel_rfl) rfl (by kernel_rfl) ?_;refine TQ.move Za ?_;refine TQ.move Za ?_;refine Ka a6 b8 Zb Wf We ?_;refine Gt a6 b8 Za Wp ?_;refine Uv Zl ?_;refine TQ.move Za ?_;refine Vz (t:=31) (b':=false) rfl (decide_eq_false d0) ?_;refine TQ.move Za ?_;refine TQ.move Za ?_;refine Ka a6 d2 Zb Wf We ?_;refine Gt a6 d2 Za Wp ?_;refine Yo Za Nw ?_;refine Yx Za Wp Zi rfl ?_;refine TQ.tail [12,13] Ys ?_;refine Zq Zl ?_;refine Yg Zb ?_;refine dN ?_;refine Zm (aT [1,19,20,21,32,33,34,35,36,37,38,39] rfl) ?_;rcases Zp H with ⟨d1,H⟩ | ⟨d1,H⟩
      ·refine Yw rfl d1 ?_;refine sR Y1 rfl ?_;refine aN Za ?_;refine Zm (aT [4] rfl) ?_;refine T.ret ?_;refine Yy ?_;refine Zy ?_;have H:=Wd H b7▸c7;refine Zy ?_;refine Yy ?_;refine Zy ?_;obtain rfl:=ret1 H;exact Yd Za (Res.tmp rfl) Zg ⟨rfl,rfl⟩
      ·refine Yu rfl d1 ?_;refine T.skip ?_;refine Yv ?_;refine Zz ?_;obtain ⟨d7,H⟩:=Ya H;refine rG Y2 rfl ?_;refine Xy d7 Zb ?_;refine Zc Za ?_;refine Zk ?_;have H:=Wr H b7;exact Lw d5 (x7+1) H (Nat.lt_succ_self _) (aF rfl) Zg
    ·refine Yu rfl g8 ?_;refine T.exit ?_;refine Xc ?_;have H:=Wd H b7▸c7;refine Xc ?_;refine Ve ?_;exact Xe () H Js Zg
   ·rintro c4 H;unfold Z8u at H;refine sR Y1 rfl ?_;refine aN Za ?_;refine T.ret ?_;obtain rfl:=ret1 H;exact Yd Za (Res.tmp rfl) Zg ⟨rfl,rfl⟩
theorem Zgq {n0:Net}{f1:List Int}{a4 g2:Option Addr}{a3 a5 g0 g1:Nat}(w:World)(d5:RS w [] Zx 3 a4 a3 a5 n0.Arcs)(j5:RS w [] iC 1 g2 g0 g1 f1){r0:CyclesSearch}(H:Z8h n0 f1=some r0):Fnc Tryz.prog 227 #[.agg #[iV n0.N,iV n0.S,iV n0.T,.slice a4 a3 a5],.slice g2 g0 g1] w [] (fun v N=>∃ (l9 m0 i8:Nat) (k8:List RowB) (h0:Option Nat) (k4 k5:Nat) (m1:List Value) (h1:Option Nat) (k6 k7:Nat) (m2:List Value) (d8:Option Nat) (f4 f5:Nat) (j6:List Value) (d9:Option Nat) (f6 f7:Nat) (j7:List Value),v=pV l9∧N=((some l9,.cells #[iV r0.n.N,iV r0.n.S,iV r0.n.T,.slice a4 a3 a5,nV m0 i8 i8,sV h0 k4 k5,sV h1 k6 k7,sV d8 f4 f5,sV d9 f6 f7] 333 (0,0))::(eA (some m0) Wg (k8.map RowB.sm) [] 33)::(eI h0 r0.at_ m1 3)::(eA h1 boolC r0.done m2 4)::(eA d8 boolC r0.on j6 4)::(eI d9 r0.way j7 3)::Wu 3 k8)∧Fam k8 r0.out i8∧r0.at_.length=k4∧k4≤k5∧m1.length=(k5-k4)*1∧(h0=none→k5=0)∧r0.done.length=k6∧k6≤k7∧m2.length=(k7-k6)*1∧(h1=none→k7=0)∧r0.on.length=f4∧f4≤f5∧j6.length=(f5-f4)*1∧(d8=none→f5=0)∧r0.way.length=f6∧f6≤f7∧j7.length=(f7-f6)*1∧(d9=none→f7=0)):=by
 unfold Z8h at H;refine Fnc.enter (vs:=[.agg #[iV n0.N,iV n0.S,iV n0.T,.slice a4 a3 a5],.slice g2 g0 g1]) Tryz.func227 rfl rfl (Inv.refl w) ?_;refine sR Y2 rfl ?_;refine Wa Za ?_;intro b1;refine aN Za ?_;refine Zh ?_;obtain ⟨g3,g6,g9,m5,H⟩:=gd4 H;apply Z47 [rV [] _,rV [] _,rV [1] _,⟨[2],false,[],fun _ v e=>∃ (b4:Nat),v=nV b4 n0.N.toNat n0.N.toNat∧e=[(eA (some b4) Wg (List.replicate n0.N.toNat (default:SM)) [] 33)]⟩,rV [] _,rV [4] _,⟨[5],false,[],fun _ v e=>∃ (b7:Nat),v=nV b7 n0.N.toNat n0.N.toNat∧e=[(eI (some b7) (List.replicate n0.N.toNat (0:Int)) ([]) 3)]⟩,rV [] _,rV [7] _,⟨[8],false,[],fun _ v e=>∃ (a8:Nat),v=nV a8 n0.N.toNat n0.N.toNat∧e=[(eA (some a8) boolC (List.replicate n0.N.toNat (false:Bool)) ([]) 4)]⟩,rV [] _,rV [10] _,⟨[11],false,[],fun _ v e=>∃ (a9:Nat),v=nV a9 n0.N.toNat n0.N.toNat∧e=[(eA (some a9) boolC (List.replicate n0.N.toNat (false:Bool)) ([]) 4)]⟩] [8,9,10,11,12,13,14,15,16,17,18,19,20] 13 (HRk [[]]) [[]] [] [(eC b1 #[iV n0.N,iV n0.S,iV n0.T,.slice a4 a3 a5] 24)]
 ·exact Xx
 ·exact rfl
 ·kernel_rfl
 ·kernel_rfl
 ·kernel_rfl
 ·exact rfl
 ·exact rfl
 ·exact rfl
 ·exact rfl
 ·exact Vh (by repeat constructor)
 ·
  refine ⟨?_,?_,?_,?_,?_,?_,?_,?_,?_,?_,?_,?_,?_,trivial⟩
  ·rintro vs es Es Hx -;refine Yj (D:=[]) rfl ?_;refine Xj Za Xb Zi rfl ?_;refine Zk ?_;exact Yp rfl ⟨rfl,rfl⟩ (Zv _) rfl
  ·rintro vs es Es Hx -;refine Yj (D:=[]) rfl ?_;refine Zs Za Ut ?_;refine Zk ?_;exact Yp rfl ⟨rfl,rfl⟩ (Zv _) rfl
  ·rintro vs es Es Hx ⟨⟨e1,f8⟩,-⟩;refine Yj (D:=[(9,vs 1)]) rfl ?_;rw [e1];refine Zt Za Yf Zi rfl ?_;refine Zk ?_;exact Yp rfl ⟨rfl,rfl⟩ (Zv _) (by show [(9,vs 1)]=_;rw [e1])
  ·rintro vs es Es Hx ⟨⟨e2,h2⟩,-⟩;refine Yj (D:=[(10,vs 2)]) rfl ?_;rw [e2];refine TO.mkS (f:=Wg) (zc:=(default:SM)) g3 rr8 Z07 Z0l Zh1 Zgg rfl ?_;intro b4;refine Zk ?_;exact Yp rfl ⟨b4,rfl,rfl⟩ (Vh (by repeat constructor)) (by show [(10,vs 2)]=_;rw [e2])
  ·rintro vs es Es Hx -;refine Yj (D:=[]) rfl ?_;refine Zs Za Ut ?_;refine Zk ?_;exact Yp rfl ⟨rfl,rfl⟩ (Zv _) rfl
  ·rintro vs es Es Hx ⟨⟨e3,h3⟩,-⟩;refine Yj (D:=[(12,vs 4)]) rfl ?_;rw [e3];refine Zt Za Yf Zi rfl ?_;refine Zk ?_;exact Yp rfl ⟨rfl,rfl⟩ (Zv _) (by show [(12,vs 4)]=_;rw [e3])
  ·rintro vs es Es Hx ⟨⟨g4,i9⟩,-⟩;refine Yj (D:=[(13,vs 5)]) rfl ?_;rw [g4];refine Z1g g6 Zb Xt Wc TWQCY.z3 Z31 rfl ?_;intro b7;refine Zk ?_;exact Yp rfl ⟨b7,rfl,rfl⟩ (Vh (by repeat constructor)) (by show [(13,vs 5)]=_;rw [g4])
  ·rintro vs es Es Hx -;refine Yj (D:=[]) rfl ?_;refine Zs Za Ut ?_;refine Zk ?_;exact Yp rfl ⟨rfl,rfl⟩ (Zv _) rfl
  ·rintro vs es Es Hx ⟨⟨e4,h4⟩,-⟩;refine Yj (D:=[(15,vs 7)]) rfl ?_;rw [e4];refine Zt Za Yf Zi rfl ?_;refine Zk ?_;exact Yp rfl ⟨rfl,rfl⟩ (Zv _) (by show [(15,vs 7)]=_;rw [e4])
  ·rintro vs es Es Hx ⟨⟨e5,h5⟩,-⟩;refine Yj (D:=[(16,vs 8)]) rfl ?_;rw [e5];refine Z8f g9 Zb Jg Uy TWQCY.z4 Z83 rfl ?_;intro a8;refine Zk ?_;exact Yp rfl ⟨a8,rfl,rfl⟩ (Vh (by repeat constructor)) (by show [(16,vs 8)]=_;rw [e5])
  ·rintro vs es Es Hx -;refine Yj (D:=[]) rfl ?_;refine Zs Za Ut ?_;refine Zk ?_;exact Yp rfl ⟨rfl,rfl⟩ (Zv _) rfl
  ·rintro vs es Es Hx ⟨⟨b6,d4⟩,-⟩;refine Yj (D:=[(18,vs 10)]) rfl ?_;rw [b6];refine Zt Za Yf Zi rfl ?_;refine Zk ?_;exact Yp rfl ⟨rfl,rfl⟩ (Zv _) (by show [(18,vs 10)]=_;rw [b6])
  ·rintro vs es Es Hx ⟨⟨a7,d0⟩,-⟩;refine Yj (D:=[(19,vs 11)]) rfl ?_;rw [a7];refine Z8f m5 Zb Jg Uy TWQCY.z4 Z83 rfl ?_;intro a9;refine Zk ?_;exact Yp rfl ⟨a9,rfl,rfl⟩ (Vh (by repeat constructor)) (by show [(19,vs 11)]=_;rw [a7])
 ·
  rintro vs es hb ⟨⟨g5,j0⟩,⟨e1,f8⟩,⟨e2,h2⟩,⟨b4,j8,j9⟩,⟨e3,h3⟩,⟨g4,i9⟩,⟨b7,g7,j1⟩,⟨e4,h4⟩,⟨e5,h5⟩,⟨a8,e6,h6⟩,⟨b6,d4⟩,⟨a7,d0⟩,⟨a9,d1,d6⟩,-⟩ hHR;obtain rfl:hb=[]:=hHR;refine Yj (D:=[(8,vs 0),(9,vs 1),(10,vs 2),(11,vs 3),(12,vs 4),(13,vs 5),(14,vs 6),(15,vs 7),(16,vs 8),(17,vs 9),(18,vs 10),(19,vs 11),(20,vs 12)]) rfl ?_;refine Ug (H:=_++(_++(es 0++(es 1++(es 2++(es 3++(es 4++(es 5++(es 6++(es 7++(es 8++(es 9++(es 10++(es 11++(es 12++([])))))))))))))))) rfl ?_;rw [j0,f8,h2,j9,h3,i9,j1,h4,h5,h6,d4,d0,d6];rw [g5,e1,e2,j8,e3,g4,g7,e4,e5,e6,b6,a7,d1];clear d1 a7 b6 e6 e5 e4 g7 g4 e3 j8 e2 e1 g5 j0 f8 h2 j9 h3 i9 j1 h4 h5 h6 d4 d0 d6;refine Vi (t:=333) [iV 0,iV 0,iV 0,.slice none 0 0,.slice none 0 0,.slice none 0 0,.slice none 0 0,.slice none 0 0,.slice none 0 0] [0,4,5,6,7,8] Za (by simp only [Xv,setCells,Value.cells,List.toList_toArray,List.getD_cons_zero,List.getD_cons_succ,List.set_cons_zero,List.set_cons_succ];rfl) (by kernel_rfl) ?_;refine Wa Za ?_;intro d7;refine Yc Za ?_;refine Zk ?_;refine X.addFam (T:=3) (n:=n0.N.toNat) Yt ?_;refine Lm (H:=((some b4,.cells (arr Wg ((List.replicate n0.N.toNat (default:RowB)).map RowB.sm) []).toArray 33 (0,0))::(eC d7 #[iV n0.N,iV n0.S,iV n0.T,.slice a4 a3 a5,nV b4 n0.N.toNat n0.N.toNat,nV b7 n0.N.toNat n0.N.toNat,nV a8 n0.N.toNat n0.N.toNat,nV a9 n0.N.toNat n0.N.toNat,.slice none 0 0] 333)::(eC b1 #[iV n0.N,iV n0.S,iV n0.T,.slice a4 a3 a5] 24)::(eI (some b7) (List.replicate n0.N.toNat (0:Int)) ([]) 3)::(eA (some a8) boolC (List.replicate n0.N.toNat (false:Bool)) ([]) 4)::(eA (some a9) boolC (List.replicate n0.N.toNat (false:Bool)) ([]) 4)::Wu 3 (List.replicate n0.N.toNat (default:RowB)))) rfl ?_;refine Zz ?_;refine Zm (aT [1,2,5] rfl) ?_;refine Zh ?_;refine sR Y4 rfl ?_;refine Zs Za Vm ?_;refine Zt Za Vt Xn rfl ?_;refine Ym (xs:=n0.Arcs) d5.len Zb Wo ?_;refine Zc Za ?_;refine dN ?_;refine Zhq (fun (d2:List (List Int)) (h7:List RowB)=>Z62 n0 d2=some r0∧Fam h7 d2 n0.N.toNat) (fun (d2:List (List Int)) (h7:List RowB)=>[(5,pV d7)]) (fun (d2:List (List Int)) (h7:List RowB)=>((some d7,.cells #[iV n0.N,iV n0.S,iV n0.T,.slice a4 a3 a5,nV b4 n0.N.toNat n0.N.toNat,nV b7 n0.N.toNat n0.N.toNat,nV a8 n0.N.toNat n0.N.toNat,nV a9 n0.N.toNat n0.N.toNat,.slice none 0 0] 333 (0,0))::(eA (some b4) Wg (h7.map RowB.sm) [] 33)::(eI (some b7) (List.replicate n0.N.toNat (0:Int)) ([]) 3)::(eA (some a8) boolC (List.replicate n0.N.toNat (false:Bool)) ([]) 4)::(eA (some a9) boolC (List.replicate n0.N.toNat (false:Bool)) ([]) 4)::Wu 3 h7)) ?_ ?_
  ·
   refine T.block ?_;obtain ⟨m6,f8,m7⟩:=Zn H;refine T.loopE4 (fun (j2:Nat) (a2:List (List Int)) (c4:List RowB) (a6:Int)=>Xa (fun s=>Z5c n0 f1 s.1 s.2) j2 (a2,a6)=some m6∧Fam c4 a2 n0.N.toNat) (fun (j2:Nat) (a2:List (List Int)) (c4:List RowB) (a6:Int)=>[(1,.slice g2 g0 g1),(5,pV d7),(24,.slice a4 a3 a5),(25,iV (n0.Arcs.length:Int)),(26,iV a6)]) (fun (j2:Nat) (a2:List (List Int)) (c4:List RowB) (a6:Int)=>((some d7,.cells #[iV n0.N,iV n0.S,iV n0.T,.slice a4 a3 a5,nV b4 n0.N.toNat n0.N.toNat,nV b7 n0.N.toNat n0.N.toNat,nV a8 n0.N.toNat n0.N.toNat,nV a9 n0.N.toNat n0.N.toNat,.slice none 0 0] 333 (0,0))::(eA (some b4) Wg (c4.map RowB.sm) [] 33)::(eI (some b7) (List.replicate n0.N.toNat (0:Int)) ([]) 3)::(eA (some a8) boolC (List.replicate n0.N.toNat (false:Bool)) ([]) 4)::(eA (some a9) boolC (List.replicate n0.N.toNat (false:Bool)) ([]) 4)::Wu 3 c4)) (fun (j2:Nat) (a2:List (List Int)) (c4:List RowB) (a6:Int)=>j2) Xd (List.replicate n0.N.toNat ([]:List Int)) (List.replicate n0.N.toNat (default:RowB)) 0 ⟨f8,(Fam.replicate n0.N.toNat)⟩ (aF rfl) (Zd Zo (Zd Ze (Zd Zo (Zd Zo (Zd Zo (Wj (Zv _))))))) ?_;rintro j2 a2 c4 a6 ⟨H,c7⟩;obtain ⟨i8,m8,rfl,H,k9⟩:=Vo H;have H:Z5c n0 f1 a2 a6=some m8:=H;unfold Z5c at H;refine sR Y1 rfl ?_;refine Zq Zl ?_;refine dS ?_;rcases Zp H with ⟨l1,H⟩ | ⟨l1,H⟩
   ·
    refine Yw rfl l1 ?_;refine T.skip ?_;refine Zz ?_;refine Zh ?_;refine T.block ?_;obtain ⟨m3,H⟩:=Ya H;refine sR Y6 rfl ?_;refine Zc Za ?_;refine Xr d5 m3 Zb Wo Vl ?_;refine Gu (cs:=[iV ((n0.Arcs.getD a6.toNat default).fr),iV ((n0.Arcs.getD a6.toNat default).to),iV ((n0.Arcs.getD a6.toNat default).cap)]) default d5 m3 Zb Je ?_;refine Xs Zj Gv ?_;intro j3;refine Yc Za ?_;refine Xo Za Ze Vl Zj ?_;refine dN ?_;obtain ⟨m4,H⟩:=Ya H;refine sR Y5 rfl ?_;refine Zc Za ?_;refine Zc Za ?_;refine Xr j5 m4 Zb Wf We ?_;refine Kw j5 m4 Za Wp ?_;refine Zq Zl ?_;refine dN ?_;refine Zm (aT [1,5,24,25,26,7,6,35] rfl) ?_;rcases Zp H with ⟨l3,H⟩ | ⟨l3,H⟩
    ·
     refine Yw rfl l3 ?_;obtain ⟨j4,H⟩:=Ya H;refine Zhj (L:=c4) (Es:=[(eC j3 #[iV ((n0.Arcs.getD a6.toNat default).fr),iV ((n0.Arcs.getD a6.toNat default).to),iV ((n0.Arcs.getD a6.toNat default).cap)] 64),(eC d7 #[iV n0.N,iV n0.S,iV n0.T,.slice a4 a3 a5,nV b4 n0.N.toNat n0.N.toNat,nV b7 n0.N.toNat n0.N.toNat,nV a8 n0.N.toNat n0.N.toNat,nV a9 n0.N.toNat n0.N.toNat,.slice none 0 0] 333),(eA (some b4) Wg (c4.map RowB.sm) [] 33),(eI (some b7) (List.replicate n0.N.toNat (0:Int)) ([]) 3),(eA (some a8) boolC (List.replicate n0.N.toNat (false:Bool)) ([]) 4),(eA (some a9) boolC (List.replicate n0.N.toNat (false:Bool)) ([]) 4)]) c7 (Ub j4) rfl ?_;intro d3 g8 m9 h8 k1 l4 l5 l6 l7;refine Z3q (H:=((eI d3 (a2.getD ((n0.Arcs.getD a6.toNat default).fr).toNat []) h8 3)::(eC j3 #[iV ((n0.Arcs.getD a6.toNat default).fr),iV ((n0.Arcs.getD a6.toNat default).to),iV ((n0.Arcs.getD a6.toNat default).cap)] 64)::(eC d7 #[iV n0.N,iV n0.S,iV n0.T,.slice a4 a3 a5,nV b4 n0.N.toNat n0.N.toNat,nV b7 n0.N.toNat n0.N.toNat,nV a8 n0.N.toNat n0.N.toNat,nV a9 n0.N.toNat n0.N.toNat,.slice none 0 0] 333)::(eA (some b4) Wg (c4.map RowB.sm) [] 33)::(eI (some b7) (List.replicate n0.N.toNat (0:Int)) ([]) 3)::(eA (some a8) boolC (List.replicate n0.N.toNat (false:Bool)) ([]) 4)::(eA (some a9) boolC (List.replicate n0.N.toNat (false:Bool)) ([]) 4)::Wu 3 (c4.eraseIdx ((n0.Arcs.getD a6.toNat default).fr).toNat))) rfl ?_;obtain ⟨n6,H⟩:=Ya H;apply Zgv [rV [] _,rV [0] _,rV [1] _,rV [2] _,rV [] _,rV [4] _,rV [] _,rV [6] _,rV [7] _,rV [8] _,rV [] _,rV [10] _,rV [9,11] _,⟨[9,11,12],true,[],fun _ v e=>v=sV d3 g8 m9∧e=[(eI d3 (a2.getD ((n0.Arcs.getD a6.toNat default).fr).toNat []) h8 3)]⟩,rV [] _,⟨[14],false,[],fun _ v e=>∃ (f9:Nat),v=nV f9 1 1∧e=[(eI (some f9) ([a6]) ([]) 3)]⟩,⟨[13,15],false,[13],fun _ v e=>∃ (b8:Option Nat) (e7:Nat) (f3:List Value),v=sV b8 (g8+1) e7∧e=[(eI b8 ((a2.getD ((n0.Arcs.getD a6.toNat default).fr).toNat [])++([a6])) f3 3)]∧(g8+1)≤e7∧f3.length=(e7 - (g8+1))*1∧(b8=none→e7=0)⟩] [36,37,38,39,40,41,42,43,44,45,46,47,48,49,50,51,52] 17 (HRk [[(eI d3 (a2.getD ((n0.Arcs.getD a6.toNat default).fr).toNat []) h8 3)],[]]) [[],[]] [(eI d3 (a2.getD ((n0.Arcs.getD a6.toNat default).fr).toNat []) h8 3)] [(eC j3 #[iV ((n0.Arcs.getD a6.toNat default).fr),iV ((n0.Arcs.getD a6.toNat default).to),iV ((n0.Arcs.getD a6.toNat default).cap)] 64),(eC d7 #[iV n0.N,iV n0.S,iV n0.T,.slice a4 a3 a5,nV b4 n0.N.toNat n0.N.toNat,nV b7 n0.N.toNat n0.N.toNat,nV a8 n0.N.toNat n0.N.toNat,nV a9 n0.N.toNat n0.N.toNat,.slice none 0 0] 333),(eA (some b4) Wg (c4.map RowB.sm) [] 33),(eI (some b7) (List.replicate n0.N.toNat (0:Int)) ([]) 3),(eA (some a8) boolC (List.replicate n0.N.toNat (false:Bool)) ([]) 4),(eA (some a9) boolC (List.replicate n0.N.toNat (false:Bool)) ([]) 4)] (Wu 3 (c4.eraseIdx ((n0.Arcs.getD a6.toNat default).fr).toNat))
     ·exact Xx
     ·exact rfl
     ·kernel_rfl
     ·kernel_rfl
     ·kernel_rfl
     ·exact rfl
     ·exact rfl
     ·exact rfl
     ·exact rfl
     ·exact Vh (by repeat constructor)
     ·
      refine ⟨?_,?_,?_,?_,?_,?_,?_,?_,?_,?_,?_,?_,?_,?_,?_,?_,?_,trivial⟩
      ·rintro vs es Es Hx -;refine Yj (D:=[]) rfl ?_;refine Zc Za ?_;refine Zk ?_;exact Yp rfl ⟨rfl,rfl⟩ (Zv _) rfl
      ·rintro vs es Es Hx ⟨⟨g5,j0⟩,-⟩;refine Yj (D:=[(36,vs 0)]) rfl ?_;rw [g5];refine TO.nilCheck Za ?_;refine Zk ?_;exact Yp rfl ⟨rfl,rfl⟩ (Zv _) (by show [(36,vs 0)]=_;rw [g5])
      ·rintro vs es Es Hx ⟨⟨e1,f8⟩,-⟩;refine Yj (D:=[(37,vs 1)]) rfl ?_;rw [e1];refine Zs Za Z4o ?_;refine Zk ?_;exact Yp rfl ⟨rfl,rfl⟩ (Zv _) (by show [(37,vs 1)]=_;rw [e1])
      ·rintro vs es Es Hx ⟨⟨e2,h2⟩,-⟩;refine Yj (D:=[(38,vs 2)]) rfl ?_;rw [e2];refine Zt Za Z3s Yl rfl ?_;refine Zk ?_;exact Yp rfl ⟨rfl,rfl⟩ (Zv _) (by show [(38,vs 2)]=_;rw [e2])
      ·rintro vs es Es Hx -;refine Yj (D:=[]) rfl ?_;refine Zs Za Gh ?_;refine Zk ?_;exact Yp rfl ⟨rfl,rfl⟩ (Zv _) rfl
      ·rintro vs es Es Hx ⟨⟨e3,h3⟩,-⟩;refine Yj (D:=[(40,vs 4)]) rfl ?_;rw [e3];refine Zt Za Yf Zi rfl ?_;refine Zk ?_;exact Yp rfl ⟨rfl,rfl⟩ (Zv _) (by show [(40,vs 4)]=_;rw [e3])
      ·rintro vs es Es Hx -;refine Yj (D:=[]) rfl ?_;refine Zc Za ?_;refine Zk ?_;exact Yp rfl ⟨rfl,rfl⟩ (Zv _) rfl
      ·rintro vs es Es Hx ⟨⟨g7,j1⟩,-⟩;refine Yj (D:=[(42,vs 6)]) rfl ?_;rw [g7];refine TO.nilCheck Za ?_;refine Zk ?_;exact Yp rfl ⟨rfl,rfl⟩ (Zv _) (by show [(42,vs 6)]=_;rw [g7])
      ·rintro vs es Es Hx ⟨⟨e4,h4⟩,-⟩;refine Yj (D:=[(43,vs 7)]) rfl ?_;rw [e4];refine Zs Za Z4o ?_;refine Zk ?_;exact Yp rfl ⟨rfl,rfl⟩ (Zv _) (by show [(43,vs 7)]=_;rw [e4])
      ·rintro vs es Es Hx ⟨⟨e5,h5⟩,-⟩;refine Yj (D:=[(44,vs 8)]) rfl ?_;rw [e5];refine Zt Za Z3s Yl rfl ?_;refine Zk ?_;exact Yp rfl ⟨rfl,rfl⟩ (Zv _) (by show [(44,vs 8)]=_;rw [e5])
      ·rintro vs es Es Hx -;refine Yj (D:=[]) rfl ?_;refine Zs Za Gh ?_;refine Zk ?_;exact Yp rfl ⟨rfl,rfl⟩ (Zv _) rfl
      ·rintro vs es Es Hx ⟨⟨b6,d4⟩,-⟩;refine Yj (D:=[(46,vs 10)]) rfl ?_;rw [b6];refine Zt Za Yf Zi rfl ?_;refine Zk ?_;exact Yp rfl ⟨rfl,rfl⟩ (Zv _) (by show [(46,vs 10)]=_;rw [b6])
      ·rintro vs es Es Hx ⟨⟨e6,h6⟩,⟨a7,d0⟩,-⟩;refine Yj (D:=[(45,vs 9),(47,vs 11)]) rfl ?_;rw [e6,a7];refine Kv (xs:=a2) c7.len j4 Zb Z07 Z0l ?_;refine Zk ?_;exact Yp rfl ⟨rfl,rfl⟩ (Zv _) (by show [(45,vs 9),(47,vs 11)]=_;rw [e6,a7])
      ·rintro vs es Es Hx hb ⟨⟨e6,h6⟩,⟨a7,d0⟩,⟨d1,d6⟩,-⟩ hHR;obtain rfl:hb=[(eI d3 (a2.getD ((n0.Arcs.getD a6.toNat default).fr).toNat []) h8 3)]:=hHR;refine Yj (D:=[(45,vs 9),(47,vs 11),(48,vs 12)]) rfl ?_;rw [e6,a7,d1];refine TO.ldWO l7 (c7.inb j4) Za Gz Uo ?_;refine Zk ?_;exact Z7p (hb':=[]) (e':=[(eI d3 (a2.getD ((n0.Arcs.getD a6.toNat default).fr).toNat []) h8 3)]) rfl ⟨rfl,rfl⟩ rfl (Vh (by repeat constructor)) (by show [(45,vs 9),(47,vs 11),(48,vs 12)]=_;rw [e6,a7,d1])
      ·rintro vs es Es Hx -;refine Yj (D:=[]) rfl ?_;refine Zc Za ?_;refine Zk ?_;exact Yp rfl ⟨rfl,rfl⟩ (Zv _) rfl
      ·rintro vs es Es Hx ⟨⟨e8,h9⟩,-⟩;refine Yj (D:=[(50,vs 14)]) rfl ?_;rw [e8];refine Jc [iV 0] [0] Za Xt Wc TWQCY.z3 Ys (by simp only [Xv,setCells,Value.cells,List.toList_toArray,List.getD_cons_zero,List.getD_cons_succ,List.set_cons_zero,List.set_cons_succ];rfl) (by kernel_rfl) ?_;intro f9;refine Zk ?_;exact Yp rfl ⟨f9,rfl,rfl⟩ (Vh (by repeat constructor)) (by show [(50,vs 14)]=_;rw [e8])
      ·rintro vs es Es Hx ⟨⟨e9,i4⟩,⟨f9,f0,f2⟩,-⟩;refine Yj (D:=[(49,vs 13),(51,vs 15)]) rfl ?_;rw [e9,f0];refine Ug (H:=_++((es 13++(es 15++([])))++_)) rfl ?_;rw [i4,f2];refine Z1y (f:=iC) (s:=1) (xs:=(a2.getD ((n0.Arcs.getD a6.toNat default).fr).toNat [])) (ob:=d3) (j:=h8) (ys:=[a6]) (fun _=>rfl) (fun _=>rfl) Z6v n6 Zb Jj k1 l4 l5 l6 (fun wc hwc=>(hwc.rs (f:=iC) (s:=1) (xs:=[a6]) (j:=([])) (fun _=>rfl) mm7 rfl (Nat.le_refl _) Wl)) ?_;intro b8 e7 f3 i5 i6 i7;refine Zk ?_;exact Yp rfl ⟨b8,e7,f3,rfl,rfl,i5,i6,i7⟩ (by show Pick (_++(_++((es 15++([]))++_))) _;rw [f2];exact Vh (by repeat constructor)) (by show [(49,vs 13),(51,vs 15)]=_;rw [e9,f0])
     ·rintro vs es hb ⟨⟨g5,j0⟩,⟨e1,f8⟩,⟨e2,h2⟩,⟨j8,j9⟩,⟨e3,h3⟩,⟨g4,i9⟩,⟨g7,j1⟩,⟨e4,h4⟩,⟨e5,h5⟩,⟨e6,h6⟩,⟨b6,d4⟩,⟨a7,d0⟩,⟨d1,d6⟩,⟨e9,i4⟩,⟨e8,h9⟩,⟨f9,f0,f2⟩,⟨b8,e7,f3,k2,k3,i5,i6,i7⟩,-⟩ hHR;obtain rfl:hb=[]:=hHR;refine Yj (D:=[(36,vs 0),(37,vs 1),(38,vs 2),(39,vs 3),(40,vs 4),(41,vs 5),(42,vs 6),(43,vs 7),(44,vs 8),(45,vs 9),(46,vs 10),(47,vs 11),(48,vs 12),(49,vs 13),(50,vs 14),(51,vs 15),(52,vs 16)]) rfl ?_;refine Ug (H:=[(eC j3 #[iV ((n0.Arcs.getD a6.toNat default).fr),iV ((n0.Arcs.getD a6.toNat default).to),iV ((n0.Arcs.getD a6.toNat default).cap)] 64),(eC d7 #[iV n0.N,iV n0.S,iV n0.T,.slice a4 a3 a5,nV b4 n0.N.toNat n0.N.toNat,nV b7 n0.N.toNat n0.N.toNat,nV a8 n0.N.toNat n0.N.toNat,nV a9 n0.N.toNat n0.N.toNat,.slice none 0 0] 333),(eA (some b4) Wg (c4.map RowB.sm) [] 33),(eI (some b7) (List.replicate n0.N.toNat (0:Int)) ([]) 3),(eA (some a8) boolC (List.replicate n0.N.toNat (false:Bool)) ([]) 4),(eA (some a9) boolC (List.replicate n0.N.toNat (false:Bool)) ([]) 4),(eI (some f9) ([a6]) ([]) 3),(eI b8 ((a2.getD ((n0.Arcs.getD a6.toNat default).fr).toNat [])++([a6])) f3 3)]++(Wu 3 (c4.eraseIdx ((n0.Arcs.getD a6.toNat default).fr).toNat))) (by show (_++(_++(es 0++(es 1++(es 2++(es 3++(es 4++(es 5++(es 6++(es 7++(es 8++(es 9++(es 10++(es 11++(es 12++(es 14++(es 15++(es 16++([])))))))))))))))))))++_=_;rw [j0,f8,h2,j9,h3,i9,j1,h4,h5,h6,d4,d0,d6,h9,f2,k3];rfl) ?_;rw [g5,e1,e2,j8,e3,g4,g7,e4,e5,e6,b6,a7,d1,e9,e8,f0,k2];clear k2 f0 e8 e9 d1 a7 b6 e6 e5 e4 g7 g4 e3 j8 e2 e1 g5 j0 f8 h2 j9 h3 i9 j1 h4 h5 h6 d4 d0 d6 i4 h9 f2 k3;refine Kv (xs:=a2) c7.len j4 Zb Z07 Z0l ?_;refine TO.stWO (c7.inb j4) Za Yt Z0l ?_;refine Zk ?_;refine Zha (T:=3) (r:=⟨b8,((a2.getD ((n0.Arcs.getD a6.toNat default).fr).toNat [])++([a6])),(g8+1),e7,f3⟩) (Es:=[(eC j3 #[iV ((n0.Arcs.getD a6.toNat default).fr),iV ((n0.Arcs.getD a6.toNat default).to),iV ((n0.Arcs.getD a6.toNat default).cap)] 64),(eC d7 #[iV n0.N,iV n0.S,iV n0.T,.slice a4 a3 a5,nV b4 n0.N.toNat n0.N.toNat,nV b7 n0.N.toNat n0.N.toNat,nV a8 n0.N.toNat n0.N.toNat,nV a9 n0.N.toNat n0.N.toNat,.slice none 0 0] 333),(eI (some b7) (List.replicate n0.N.toNat (0:Int)) ([]) 3),(eA (some a8) boolC (List.replicate n0.N.toNat (false:Bool)) ([]) 4),(eA (some a9) boolC (List.replicate n0.N.toNat (false:Bool)) ([]) 4),(eI (some f9) ([a6]) ([]) 3)]) c7 (Ub j4) (Zd tk7 (Zd Ze (Zd Ze (Zd Ze (Zd Ze (Zd Ze (Zd Ze (Zd Ze (Zv _))))))))) ?_;refine Lm (H:=((some b4,.cells (arr Wg ((c4.set ((n0.Arcs.getD a6.toNat default).fr).toNat ⟨b8,((a2.getD ((n0.Arcs.getD a6.toNat default).fr).toNat [])++([a6])),(g8+1),e7,f3⟩).map RowB.sm) []).toArray 33 (0,0))::(eC j3 #[iV ((n0.Arcs.getD a6.toNat default).fr),iV ((n0.Arcs.getD a6.toNat default).to),iV ((n0.Arcs.getD a6.toNat default).cap)] 64)::(eC d7 #[iV n0.N,iV n0.S,iV n0.T,.slice a4 a3 a5,nV b4 n0.N.toNat n0.N.toNat,nV b7 n0.N.toNat n0.N.toNat,nV a8 n0.N.toNat n0.N.toNat,nV a9 n0.N.toNat n0.N.toNat,.slice none 0 0] 333)::(eI (some b7) (List.replicate n0.N.toNat (0:Int)) ([]) 3)::(eA (some a8) boolC (List.replicate n0.N.toNat (false:Bool)) ([]) 4)::(eA (some a9) boolC (List.replicate n0.N.toNat (false:Bool)) ([]) 4)::(eI (some f9) ([a6]) ([]) 3)::Wu 3 (c4.set ((n0.Arcs.getD a6.toNat default).fr).toNat ⟨b8,((a2.getD ((n0.Arcs.getD a6.toNat default).fr).toNat [])++([a6])),(g8+1),e7,f3⟩))) rfl ?_;refine Yv ?_;refine Zz ?_;refine Zm (aT [1,5,24,25,26] rfl) ?_;obtain ⟨n7,H⟩:=Ya H;refine rG Y2 rfl ?_;refine Xy n7 Zb ?_;refine Zc Za ?_;refine Zk ?_;have H:=Wr H k9;exact Za7 i8 (a2.set ((n0.Arcs.getD a6.toNat default).fr).toNat ((a2.getD ((n0.Arcs.getD a6.toNat default).fr).toNat [])++([a6]))) (c4.set ((n0.Arcs.getD a6.toNat default).fr).toNat ⟨b8,((a2.getD ((n0.Arcs.getD a6.toNat default).fr).toNat [])++([a6])),(g8+1),e7,f3⟩) (a6+1) ⟨H,(Fam.set c7 (Zdw (Ny k1 rfl) i5 i6 i7))⟩ (Nat.lt_succ_self _) (aF rfl) (Zd Yt (Zd Ze (Zd Zo (Zd Zo (Zd Zo (Wj (Wj (Zv _))))))))
    ·refine Yu rfl l3 ?_;refine T.skip ?_;refine Yv ?_;refine Zz ?_;obtain ⟨n8,H⟩:=Ya H;refine rG Y2 rfl ?_;refine Xy n8 Zb ?_;refine Zc Za ?_;refine Zk ?_;have H:=Wr H k9;exact Za7 i8 a2 c4 (a6+1) ⟨H,c7⟩ (Nat.lt_succ_self _) (aF rfl) (Zd Zo (Zd Zo (Zd Zo (Zd Zo (Zd Zo (Wj (Zv _)))))))
   ·refine Yu rfl l1 ?_;refine T.exit ?_;refine Xc ?_;have H:=Wd H k9▸m7;refine Xc ?_;refine Ve ?_;exact X.metE2 a2 c4 ⟨H,c7⟩ (aF rfl) (Zd Ze (Zd Ze (Zd Ze (Zd Ze (Zd Ze (Zv _))))))
  ·rintro d2 h7 ⟨H,l8⟩;unfold Z62 at H;refine sR Y2 rfl ?_;refine Zc Za ?_;refine aN Za ?_;refine T.ret ?_;obtain rfl:=ret1 H;exact Yd Za (Res.tmp rfl) (Zd Ze (Zd Ze (Zd Ze (Zd Ze (Zd Ze (Pick.none (Zv _))))))) ⟨d7,b4,n0.N.toNat,h7,(some b7),n0.N.toNat,n0.N.toNat,([]),(some a8),n0.N.toNat,n0.N.toNat,([]),(some a9),n0.N.toNat,n0.N.toNat,([]),none,0,0,([]),rfl,rfl,l8,List.length_replicate,(Nat.le_refl _),(Xk _ _),Wl,List.length_replicate,(Nat.le_refl _),(Xk _ _),Wl,List.length_replicate,(Nat.le_refl _),(Xk _ _),Wl,rfl,(Nat.le_refl _),(Xk 0 _),(fun _=>rfl)⟩
theorem Z1k {x0:Int}(w:World){r0:Bool}(H:Z48 x0=some r0):Fnc Tryz.prog 292 #[iV x0] w [] (fun v N=>v=.bool r0∧N=[]):=by
 unfold Z48 at H;refine Fnc.enter (vs:=[iV x0]) Tryz.func292 rfl rfl (Inv.refl w) ?_;refine sR Y1 rfl ?_;refine aN Za ?_;refine sR Y4 rfl ?_;refine Zc Za ?_;refine Zc Za ?_;refine Zq Zl ?_;refine aN Za ?_;refine T.ret ?_;obtain rfl:=ret1 H;exact Yd Za (Res.tmp rfl) Zg ⟨rfl,rfl⟩
theorem Zjo {x0 y1:Int}(w:World){r0:Bool}(H:Z7a x0 y1=some r0):Fnc Tryz.prog 243 #[iV x0,iV y1] w [] (fun v N=>v=.bool r0∧N=[]):=by
 unfold Z7a at H;refine Fnc.enter (vs:=[iV x0,iV y1]) Tryz.func243 rfl rfl (Inv.refl w) ?_;refine sR Y1 rfl ?_;refine aN Za ?_;refine Zh ?_;obtain ⟨r1,e2,H⟩:=Zn H;rcases Zp H with ⟨g3,H⟩ | ⟨g3,H⟩
 ·
  obtain ⟨r4,e5,H⟩:=Zn H;rcases Zp H with ⟨g6,H⟩ | ⟨g6,H⟩
  ·refine rG Y13 rfl ?_;refine Zc Za ?_;refine Zw Z26 Za (fun wc hwc=>Z1k (x0:=x0) wc  e2) ?_;rintro _ _ ⟨rfl,rfl⟩;refine Zc Za ?_;refine Zu (t:=7) (b':=true) rfl g3 ?_;refine Zc Za ?_;refine Zw Z26 Za (fun wc hwc=>Z1k (x0:=y1) wc  e5) ?_;rintro _ _ ⟨rfl,rfl⟩;refine TO.not Za ?_;refine Ye Zb ?_;refine Zc Za ?_;refine Zu (t:=12) (b':=true) rfl g6 ?_;refine Zf Za ?_;refine Zf Za ?_;refine Zf Za ?_;refine Ye Zb ?_;refine aN Za ?_;refine Zm (aT [4] rfl) ?_;refine T.ret ?_;obtain rfl:=ret1 H;exact Yd Za (Res.tmp rfl) Zg ⟨rfl,rfl⟩
  ·refine rG Y13 rfl ?_;refine Zc Za ?_;refine Zw Z26 Za (fun wc hwc=>Z1k (x0:=x0) wc  e2) ?_;rintro _ _ ⟨rfl,rfl⟩;refine Zc Za ?_;refine Zu (t:=7) (b':=true) rfl g3 ?_;refine Zc Za ?_;refine Zw Z26 Za (fun wc hwc=>Z1k (x0:=y1) wc  e5) ?_;rintro _ _ ⟨rfl,rfl⟩;refine TO.not Za ?_;refine Ye Zb ?_;refine Zc Za ?_;refine Zu (t:=12) (b':=false) rfl (Bool.eq_false_iff.2 g6) ?_;refine Zc Za ?_;refine Zc Za ?_;refine Zq Zl ?_;refine Yg Zb ?_;refine aN Za ?_;refine Zm (aT [4] rfl) ?_;refine T.ret ?_;obtain rfl:=ret1 H;exact Yd Za (Res.tmp rfl) Zg ⟨rfl,rfl⟩
 ·refine rG Y13 rfl ?_;refine Zc Za ?_;refine Zw Z26 Za (fun wc hwc=>Z1k (x0:=x0) wc  e2) ?_;rintro _ _ ⟨rfl,rfl⟩;refine Zc Za ?_;refine Zu (t:=7) (b':=false) rfl (Bool.eq_false_iff.2 g3) ?_;refine Zf Za ?_;refine Zf Za ?_;refine Zf Za ?_;refine Yg Zb ?_;refine Zc Za ?_;refine Zc Za ?_;refine Zc Za ?_;refine Zq Zl ?_;refine Yg Zb ?_;refine aN Za ?_;refine Zm (aT [4] rfl) ?_;refine T.ret ?_;obtain rfl:=ret1 H;exact Yd Za (Res.tmp rfl) Zg ⟨rfl,rfl⟩
theorem Z7m {x0:Int}(w:World){r0:Bool}(H:Z5h x0=some r0):Fnc Tryz.prog 295 #[iV x0] w [] (fun v N=>v=.bool r0∧N=[]):=by
 unfold Z5h at H;refine Fnc.enter (vs:=[iV x0]) Tryz.func295 rfl rfl (Inv.refl w) ?_;refine sR Y1 rfl ?_;refine aN Za ?_;refine sR Y4 rfl ?_;refine Zc Za ?_;refine Zc Za ?_;refine Zq Zl ?_;refine aN Za ?_;refine T.ret ?_;obtain rfl:=ret1 H;exact Yd Za (Res.tmp rfl) Zg ⟨rfl,rfl⟩
theorem Zj8 {x0:List Int}{target1:Int}{a3:Option Addr}{a5 a4:Nat}(w:World)(a2:RS w [] iC 1 a3 a5 a4 x0){r0:Int}{r1:Bool}(H:Z7r x0 target1=some (r0,r1)):Fnc Tryz.prog 228 #[.slice a3 a5 a4,iV target1] w [] (fun v N=>v=.tuple #[iV r0,.bool r1]∧N=[]):=by
 unfold Z7r at H;refine Fnc.enter (vs:=[.slice a3 a5 a4,iV target1]) Tryz.func228 rfl rfl (Inv.refl w) ?_;refine sR Y2 rfl ?_;refine Yc Za ?_;refine aN Za ?_;refine sR Y3 rfl ?_;refine Zc Za ?_;refine Ym (xs:=x0) a2.len Zb Xt ?_;refine aN Za ?_;refine sR Y3 rfl ?_;refine Zc Za ?_;refine Yc Za ?_;refine aN Za ?_;refine Zh ?_;refine Wi (fun (a6:Int)=>Z6x x0 target1 a6=some (r0,r1)) (fun (a6:Int)=>[(0,.slice a3 a5 a4),(1,iV target1),(6,iV (x0.length:Int)),(7,iV a6)]) (fun (a6:Int)=>[]) ?_ ?_
 ·
  refine T.block ?_;obtain ⟨d2,d3,d4⟩:=Zn H;refine Ld (fun (a7:Nat) (i1 j2:Int)=>Xa (fun s=>Z3z x0 target1 s.1 s.2) a7 (i1,j2)=some d2) (fun (a7:Nat) (i1 j2:Int)=>[(0,.slice a3 a5 a4),(1,iV target1),(6,iV (x0.length:Int)),(7,iV i1),(8,iV j2)]) (fun (a7:Nat) (i1 j2:Int)=>[]) (fun (a7:Nat) (i1 j2:Int)=>a7) Xd 0 (x0.length:Int) d3 (aF rfl) Zg ?_;rintro a7 i1 j2 H;obtain ⟨d0,d5,rfl,H,b8⟩:=Vo H;have H:Z3z x0 target1 i1 j2=some d5:=H;unfold Z3z at H;refine Zh ?_;refine sR Y3 rfl ?_;refine Zc Za ?_;refine Zc Za ?_;refine Zq Zl ?_;refine dN ?_;rcases Zp H with ⟨g3,H⟩ | ⟨g3,H⟩
  ·
   refine Yw rfl g3 ?_;refine T.skip ?_;refine Zz ?_;refine T.block ?_;obtain ⟨g4,g5,g6,H⟩:=gd3 H;refine sR Y7 rfl ?_;refine Zc Za ?_;refine Zc Za ?_;refine Xy g4 Zb ?_;refine Z8z Za TWQCY.o3 Zj9 (Zeu g5) ?_;refine TO.shrL (m:=1) rr7 ?_;refine Z8z Za Zhg Zcj (Z2e g6.1 g6.2) ?_;refine aN Za ?_;refine Zm (aT [0,1,6,7,8,9] rfl) ?_;refine Zh ?_;obtain ⟨g7,H⟩:=Ya H;obtain ⟨r8,e9,H⟩:=Zn H;refine rG Y6 rfl ?_;refine Zc Za ?_;refine Zc Za ?_;refine Xr a2 g7 Zb Xt Wc ?_;refine Kw a2 g7 Za Yf ?_;refine Zc Za ?_;refine Zw Zfw Za (fun wc hwc=>Zjo (x0:=(x0.getD (Int.fdiv (i1+j2) (2^1)).toNat 0)) (y1:=target1) wc  e9) ?_;rintro _ _ ⟨rfl,rfl⟩;refine dN ?_;rcases Zp H with ⟨c4,H⟩ | ⟨c4,H⟩
   ·refine Yr rfl c4 ?_;obtain ⟨d6,H⟩:=Ya H;refine rG Y3 rfl ?_;refine Zc Za ?_;refine Xy d6 Zb ?_;refine Yc Za ?_;refine Zk ?_;refine Yv ?_;have H:=Wr H b8;exact Gj d0 ((Int.fdiv (i1+j2) (2^1))+1) j2 H (Nat.lt_succ_self _) (aF rfl) Zg
   ·refine Xf rfl (Bool.eq_false_iff.2 c4) ?_;refine rG Y2 rfl ?_;refine Zc Za ?_;refine Yc Za ?_;refine Zk ?_;refine Yv ?_;have H:=Wr H b8;exact Gj d0 i1 (Int.fdiv (i1+j2) (2^1)) H (Nat.lt_succ_self _) (aF rfl) Zg
  ·refine Yu rfl g3 ?_;refine T.exit ?_;refine Xc ?_;have H:=Wd H b8▸d4;refine Xc ?_;refine Ve ?_;exact Xe i1 H (aF rfl) Zg
 ·
  rintro a6 H;unfold Z6x at H;refine Zh ?_;rcases Zp H with ⟨a9,H⟩ | ⟨a9,H⟩
  ·
   obtain ⟨a8,H⟩:=Ya H;rcases Zp H with ⟨b6,H⟩ | ⟨b6,H⟩
   ·refine rG Y25 rfl ?_;refine Zc Za ?_;refine Zc Za ?_;refine Zc Za ?_;refine Zq Zl ?_;refine Zc Za ?_;refine Zu (t:=35) (b':=true) rfl (decide_eq_true a9) ?_;refine Zc Za ?_;refine Zc Za ?_;refine Xr a2 a8 Zb Xt Wc ?_;refine Kw a2 a8 Za Yf ?_;refine Zc Za ?_;refine Zq Zl ?_;refine Zc Za ?_;refine Zu (t:=42) (b':=true) rfl (decide_eq_true b6) ?_;refine Zf Za ?_;refine Zf Za ?_;refine Zf Za ?_;refine Zf Za ?_;refine Zf Za ?_;refine Zf Za ?_;refine Vw Za ?_;refine Vw Za ?_;refine Zf Za ?_;refine Ye Zb ?_;refine Ye Zb ?_;refine Yc Za ?_;refine aN Za ?_;refine Zm (aT [4,5] rfl) ?_;refine T.ret ?_;obtain ⟨rfl,rfl⟩:=ret2 H;exact Xg Za (Res.tmp rfl) (Res.tmp rfl) Zg ⟨rfl,rfl⟩
   ·
    obtain ⟨b7,H⟩:=Ya H;obtain ⟨d8,d1,H⟩:=Zn H;rcases Zp H with ⟨c7,H⟩ | ⟨c7,H⟩
    ·obtain ⟨d9,d7,H⟩:=Zn H;refine rG Y25 rfl ?_;refine Zc Za ?_;refine Zc Za ?_;refine Zc Za ?_;refine Zq Zl ?_;refine Zc Za ?_;refine Zu (t:=35) (b':=true) rfl (decide_eq_true a9) ?_;refine Zc Za ?_;refine Zc Za ?_;refine Xr a2 a8 Zb Xt Wc ?_;refine Kw a2 a8 Za Yf ?_;refine Zc Za ?_;refine Zq Zl ?_;refine Zc Za ?_;refine Zu (t:=42) (b':=false) rfl (decide_eq_false b6) ?_;refine Zc Za ?_;refine Zc Za ?_;refine Xr a2 b7 Zb Xt Wc ?_;refine Kw a2 b7 Za Yf ?_;refine Zw Z70 Za (fun wc hwc=>Z7m (x0:=(x0.getD a6.toNat 0)) wc  d1) ?_;rintro _ _ ⟨rfl,rfl⟩;refine Zc Za ?_;refine Zu (t:=48) (b':=true) rfl c7 ?_;refine Zc Za ?_;refine Zw Z70 Za (fun wc hwc=>Z7m (x0:=target1) wc  d7) ?_;rintro _ _ ⟨rfl,rfl⟩;refine Ye Zb ?_;refine Yg Zb ?_;refine Ye Zb ?_;refine Yc Za ?_;refine aN Za ?_;refine Zm (aT [4,5] rfl) ?_;refine T.ret ?_;obtain ⟨rfl,rfl⟩:=ret2 H;exact Xg Za (Res.tmp rfl) (Res.tmp rfl) Zg ⟨rfl,rfl⟩
    ·refine rG Y25 rfl ?_;refine Zc Za ?_;refine Zc Za ?_;refine Zc Za ?_;refine Zq Zl ?_;refine Zc Za ?_;refine Zu (t:=35) (b':=true) rfl (decide_eq_true a9) ?_;refine Zc Za ?_;refine Zc Za ?_;refine Xr a2 a8 Zb Xt Wc ?_;refine Kw a2 a8 Za Yf ?_;refine Zc Za ?_;refine Zq Zl ?_;refine Zc Za ?_;refine Zu (t:=42) (b':=false) rfl (decide_eq_false b6) ?_;refine Zc Za ?_;refine Zc Za ?_;refine Xr a2 b7 Zb Xt Wc ?_;refine Kw a2 b7 Za Yf ?_;refine Zw Z70 Za (fun wc hwc=>Z7m (x0:=(x0.getD a6.toNat 0)) wc  d1) ?_;rintro _ _ ⟨rfl,rfl⟩;refine Zc Za ?_;refine Zu (t:=48) (b':=false) rfl (Bool.eq_false_iff.2 c7) ?_;refine Zf Za ?_;refine Zf Za ?_;refine Yg Zb ?_;refine Yg Zb ?_;refine Ye Zb ?_;refine Yc Za ?_;refine aN Za ?_;refine Zm (aT [4,5] rfl) ?_;refine T.ret ?_;obtain ⟨rfl,rfl⟩:=ret2 H;exact Xg Za (Res.tmp rfl) (Res.tmp rfl) Zg ⟨rfl,rfl⟩
  ·refine rG Y25 rfl ?_;refine Zc Za ?_;refine Zc Za ?_;refine Zc Za ?_;refine Zq Zl ?_;refine Zc Za ?_;refine Zu (t:=35) (b':=false) rfl (decide_eq_false a9) ?_;refine Zf Za ?_;refine Zf Za ?_;refine Zf Za ?_;refine Zf Za ?_;refine Zf Za ?_;refine Zf Za ?_;refine Zf Za ?_;refine Vw Za ?_;refine Vw Za ?_;refine Vw Za ?_;refine Vw Za ?_;refine Vw Za ?_;refine Vw Za ?_;refine Vw Za ?_;refine Vw Za ?_;refine Vw Za ?_;refine Zf Za ?_;refine Yg Zb ?_;refine Yc Za ?_;refine aN Za ?_;refine Zm (aT [4,5] rfl) ?_;refine T.ret ?_;obtain ⟨rfl,rfl⟩:=ret2 H;exact Xg Za (Res.tmp rfl) (Res.tmp rfl) Zg ⟨rfl,rfl⟩
def insR:Go.Shelf.Ren:=⟨fun n=>match n with | 21=>229 | 27=>296 | 28=>297 | 35=>355 | 39=>398 | n=>n,fun n=>match n with | 0=>0 | 3=>3 | 4=>4 | 22=>33 | n=>n,fun n=>n⟩
theorem insL:Lays2.n21 Tryz.prog insR:=⟨Xx,by kernel_rfl,by kernel_rfl,by kernel_rfl,by kernel_rfl,by kernel_rfl,by kernel_rfl,fun w=>by kernel_rfl,fun w=>by kernel_rfl,fun w=>by kernel_rfl,by kernel_rfl,fun w=>by kernel_rfl,fun w=>by kernel_rfl,fun w=>by kernel_rfl,by kernel_rfl,fun w=>by kernel_rfl,fun w=>by kernel_rfl,fun w=>by kernel_rfl,by kernel_rfl,fun w=>by kernel_rfl,fun w=>by kernel_rfl,fun w=>by kernel_rfl,by kernel_rfl⟩
theorem Zhy (w:World){xs0 us2:List Int}{i1:Int}{a4:Option Nat}{b0:Option Addr}{n0 c0 N0 C0:Nat}{a5:List Int}{j0:List Value}{ob2:Option Nat}{n2 c2:Nat}{j2:List Value}(hin:Inv w (([(eI a4 a5 j0 3),(eI ob2 us2 j2 3)]:Heap).filterMap Prod.fst) w [(eI a4 a5 j0 3),(eI ob2 us2 j2 3)])(hQ:Qu a4 b0 n0 c0 xs0 a5 N0 C0)(b8:a5.length=N0)(c4:N0≤C0)(c7:j0.length=(C0-N0)*1)(d0:a4=none→C0=0)(d1:C0≤9223372036854775807)(d2:us2.length=n2)(d4:n2≤c2)(d5:j2.length=(c2-n2)*1)(d3:ob2=none→c2=0){r0:List Int}(H:Z7n xs0 i1 us2=some r0):Fnc Tryz.prog 229 #[.slice b0 n0 c0,iV i1,sV ob2 n2 c2] w (([(eI a4 a5 j0 3),(eI ob2 us2 j2 3)]:Heap).filterMap Prod.fst) (fun v N=>∃ (a6:Option Addr) (a9 b6:Nat) (a2:Option Nat) (a8 a7:Nat) (a3:List Int) (b7:List Value),v=.slice a6 a9 b6∧N=[(eI a2 a3 b7 3),(eI ob2 us2 j2 3)]∧Qu a2 a6 a9 b6 r0 a3 a8 a7∧a3.length=a8∧a8≤a7∧b7.length=(a7-a8)*1∧(a2=none→a7=0)∧a7≤9223372036854775807):=by
 unfold Z7n at H;obtain ⟨⟨g1,g2,g3,g4⟩,H⟩:=Ya H;injection H with H;cases ob2 with | none=>have:=d3 rfl;omega | some b2 =>
  subst d2;exact Zgx insL w hin hQ b8 c4 c7 d0 d1 g1 g2 g3 g4 H.symm
theorem Zea {n0:Net}{f1:List Int}{a5 o1:Option Addr}{a4 a3 o4 o5:Nat}(w:World)(d2:RS w [] Zx 3 a5 a4 a3 n0.Arcs)(l5:RS w [] iC 1 o1 o4 o5 f1){r0:List Int}{r1:Bool}(H:Za6 n0 f1=some (r0,r1)):Fnc Tryz.prog 173 #[.agg #[iV n0.N,iV n0.S,iV n0.T,.slice a5 a4 a3],.slice o1 o4 o5] w [] (fun v N=>∃ (m4:Option Nat) (u3 u5:Nat) (y2:List Value),v=.tuple #[sV m4 u3 u5,.bool r1]∧N=[(eI m4 r0 y2 3)]∧r0.length=u3∧u3≤u5∧y2.length=(u5-u3)*1∧(m4=none→u5=0)):=by
 unfold Za6 at H;refine Fnc.enter (vs:=[.agg #[iV n0.N,iV n0.S,iV n0.T,.slice a5 a4 a3],.slice o1 o4 o5]) Tryz.func173 rfl rfl (Inv.refl w) ?_;refine sR Y3 rfl ?_;refine Wa Za ?_;intro b1;refine Yc Za ?_;refine aN Za ?_;refine Zh ?_;refine Zh ?_;obtain ⟨r3,e4,H⟩:=Zn H;refine rG Y4 rfl ?_;refine Xj Za Xb Zi rfl ?_;refine Zc Za ?_;refine Zw Zax Za (fun wc hwc=>Zan (n0:=n0) (f1:=f1) wc (d2.mono hwc) (l5.mono hwc) e4) ?_;rintro _ _ ⟨rfl,rfl⟩;refine TO.not Za ?_;refine dN ?_;rcases Zp H with ⟨g5,H⟩ | ⟨g5,H⟩
 ·refine Yr rfl g5 ?_;refine sR Y2 rfl ?_;refine Yc Za ?_;refine aN Za ?_;refine T.ret ?_;refine Zy ?_;obtain ⟨rfl,rfl⟩:=ret2 H;exact Xg Za (Res.tmp rfl) (Res.tmp rfl) (Pick.none Zg) ⟨none,0,0,([]),rfl,rfl,rfl,(Nat.le_refl _),(Xk 0 _),(fun _=>rfl)⟩
 ·
  refine Xf rfl (Bool.eq_false_iff.2 g5) ?_;refine T.skip ?_;refine Zz ?_;refine Zh ?_;obtain ⟨r6,e7,H⟩:=Zn H;refine rG Y4 rfl ?_;refine Xj Za Xb Zi rfl ?_;refine Zc Za ?_;refine Zw Zfj Za (fun wc hwc=>Zgq (n0:=n0) (f1:=f1) wc (d2.mono hwc) (l5.mono hwc) e7) ?_;rintro _ _ ⟨b8,b9,d4,l4,a8,i6,c14,i7,a9,i8,c18,i9,b6,j0,c22,j1,b7,j2,j3,j4,rfl,rfl,u8,A4,A5,A6,A7,A8,A9,B0,B1,B2,B3,B4,B5,B6,B7,B8,B9⟩;refine TO.rebase (T2:=33) (bo:=b9) (L:=l4) (Es:=[(eC b8 #[iV r6.n.N,iV r6.n.S,iV r6.n.T,.slice a5 a4 a3,nV b9 d4 d4,sV a8 i6 c14,sV a9 i8 c18,sV b6 j0 c22,sV b7 j2 j3] 333),(eI a8 r6.at_ i7 3),(eA a9 boolC r6.done i9 4),(eA b6 boolC r6.on j1 4),(eI b7 r6.way j4 3),(eC b1 #[iV n0.N,iV n0.S,iV n0.T,.slice a5 a4 a3] 24)]) (Ns:=[(eC b8 #[iV r6.n.N,iV r6.n.S,iV r6.n.T,.slice a5 a4 a3,nV b9 d4 d4,sV a8 i6 c14,sV a9 i8 c18,sV b6 j0 c22,sV b7 j2 j3] 333),(eA (some b9) Wg (l4.map RowB.sm) [] 33),(eI a8 r6.at_ i7 3),(eA a9 boolC r6.done i9 4),(eA b6 boolC r6.on j1 4),(eI b7 r6.way j4 3)]) (R:=[(eC b1 #[iV n0.N,iV n0.S,iV n0.T,.slice a5 a4 a3] 24)]) u8 rfl (show Pick ([(eC b8 #[iV r6.n.N,iV r6.n.S,iV r6.n.T,.slice a5 a4 a3,nV b9 d4 d4,sV a8 i6 c14,sV a9 i8 c18,sV b6 j0 c22,sV b7 j2 j3] 333),(eI a8 r6.at_ i7 3),(eA a9 boolC r6.done i9 4),(eA b6 boolC r6.on j1 4),(eI b7 r6.way j4 3),(eC b1 #[iV n0.N,iV n0.S,iV n0.T,.slice a5 a4 a3] 24),(eA (some b9) Wg (l4.map RowB.sm) [] 33)]:Heap) [(eC b8 #[iV r6.n.N,iV r6.n.S,iV r6.n.T,.slice a5 a4 a3,nV b9 d4 d4,sV a8 i6 c14,sV a9 i8 c18,sV b6 j0 c22,sV b7 j2 j3] 333),(eA (some b9) Wg (l4.map RowB.sm) [] 33),(eI a8 r6.at_ i7 3),(eA a9 boolC r6.done i9 4),(eA b6 boolC r6.on j1 4),(eI b7 r6.way j4 3),(eC b1 #[iV n0.N,iV n0.S,iV n0.T,.slice a5 a4 a3] 24)] from (Zd Ze (Zd Zo (Zd Zo (Zd Zo (Zd Zo (Zd Zo (Zd Ze Zg)))))))) ?_;intro E8 hwc j9 e8;have d2:=d2.monoM (by decide) hwc (List.Perm.refl _) rfl;have l5:=l5.monoM (by decide) hwc (List.Perm.refl _) rfl;refine aN Za ?_;refine Zm (aT [2,6] rfl) ?_;obtain ⟨C0,H⟩:=Ya H;refine sR Y4 rfl ?_;refine Zs Za Ut ?_;refine Zt Za Yf Vf rfl ?_;refine Z1g C0 Zb Xt Wc TWQCY.z3 Z31 rfl ?_;intro g7;refine aN Za ?_;refine Zh ?_;refine sR Y6 rfl ?_;refine Zc Za ?_;refine TO.nilCheck Za ?_;refine Zs Za Z4o ?_;refine Zt Za Z3s Yl rfl ?_;refine Ym (xs:=r6.out) e8.len Zb Z07 ?_;refine Zc Za ?_;refine dN ?_;refine Wi (fun (d8:List Int)=>Z7v n0 r6 d8=some (r0,r1)∧d8.length=n0.N.toNat) (fun (d8:List Int)=>[(2,pV b1),(6,pV b8),(7,nV g7 n0.N.toNat n0.N.toNat)]) (fun (d8:List Int)=>[(eC b1 #[iV n0.N,iV n0.S,iV n0.T,.slice a5 a4 a3] 24),(eC b8 #[iV r6.n.N,iV r6.n.S,iV r6.n.T,.slice a5 a4 a3,nV b9 d4 d4,sV a8 i6 c14,sV a9 i8 c18,sV b6 j0 c22,sV b7 j2 j3] 333),(eI a8 r6.at_ i7 3),(eA a9 boolC r6.done i9 4),(eA b6 boolC r6.on j1 4),(eI b7 r6.way j4 3),(eI (some g7) d8 ([]) 3)]) ?_ ?_
  ·
   refine T.block ?_;obtain ⟨C1,u6,C2⟩:=Zn H;refine Ld (fun (o6:Nat) (f6:List Int) (f7:Int)=>Xa (fun s=>Z35 n0 r6 s.1 s.2) o6 (f6,f7)=some C1∧f6.length=n0.N.toNat) (fun (o6:Nat) (f6:List Int) (f7:Int)=>[(2,pV b1),(6,pV b8),(7,nV g7 n0.N.toNat n0.N.toNat),(35,nV b9 d4 d4),(36,iV (r6.out.length:Int)),(37,iV f7)]) (fun (o6:Nat) (f6:List Int) (f7:Int)=>[(eC b1 #[iV n0.N,iV n0.S,iV n0.T,.slice a5 a4 a3] 24),(eC b8 #[iV r6.n.N,iV r6.n.S,iV r6.n.T,.slice a5 a4 a3,nV b9 d4 d4,sV a8 i6 c14,sV a9 i8 c18,sV b6 j0 c22,sV b7 j2 j3] 333),(eI a8 r6.at_ i7 3),(eA a9 boolC r6.done i9 4),(eA b6 boolC r6.on j1 4),(eI b7 r6.way j4 3),(eI (some g7) f6 ([]) 3)]) (fun (o6:Nat) (f6:List Int) (f7:Int)=>o6) Xd (List.replicate n0.N.toNat (0:Int)) 0 ⟨u6,List.length_replicate⟩ (aF rfl) (Zd Jj (Zd Zo (Zd Zo (Zd Zo (Zd Zo (Zd Zo (Zd Ze Zg))))))) ?_;rintro o6 f6 f7 ⟨H,p3⟩;obtain ⟨C3,y3,rfl,H,y4⟩:=Vo H;have H:Z35 n0 r6 f6 f7=some y3:=H;unfold Z35 at H;refine sR Y1 rfl ?_;refine Zq Zl ?_;refine dS ?_;rcases Zp H with ⟨u9,H⟩ | ⟨u9,H⟩
   ·
    refine Yw rfl u9 ?_;refine T.skip ?_;refine Zz ?_;refine Zh ?_;refine Wi (fun (h4:List Int)=>Z81 f7 h4=some y3∧h4.length=n0.N.toNat) (fun (h4:List Int)=>[(2,pV b1),(6,pV b8),(7,nV g7 n0.N.toNat n0.N.toNat),(35,nV b9 d4 d4),(36,iV (r6.out.length:Int)),(37,iV f7)]) (fun (h4:List Int)=>[(eC b1 #[iV n0.N,iV n0.S,iV n0.T,.slice a5 a4 a3] 24),(eC b8 #[iV r6.n.N,iV r6.n.S,iV r6.n.T,.slice a5 a4 a3,nV b9 d4 d4,sV a8 i6 c14,sV a9 i8 c18,sV b6 j0 c22,sV b7 j2 j3] 333),(eI a8 r6.at_ i7 3),(eA a9 boolC r6.done i9 4),(eA b6 boolC r6.on j1 4),(eI b7 r6.way j4 3),(eI (some g7) h4 ([]) 3)]) ?_ ?_
    ·
     refine T.block ?_;obtain ⟨p4,H⟩:=Ya H;refine sR Y3 rfl ?_;refine Xr e8.rs (e8.inb p4) Zb Z07 Z0l ?_;refine Z9r e8 p4 Za Gz ?_;refine aN Za ?_;refine sR Y3 rfl ?_;refine Zc Za ?_;refine Ym (xs:=(r6.out.getD f7.toNat [])) ((e8.at p4).len) Zb Xt ?_;refine Zc Za ?_;refine dN ?_;refine T.block ?_;obtain ⟨C4,p5,C5⟩:=Zn H;refine Ld (fun (o7:Nat) (f2:List Int) (k1:Int)=>Xa (fun s=>Z5m n0 r6 f7 s.1 s.2) o7 (f2,k1)=some C4∧f2.length=n0.N.toNat) (fun (o7:Nat) (f2:List Int) (k1:Int)=>[(2,pV b1),(6,pV b8),(7,nV g7 n0.N.toNat n0.N.toNat),(35,nV b9 d4 d4),(36,iV (r6.out.length:Int)),(37,iV f7),(41,.slice (((l4.map RowB.sm).getD f7.toNat default).1) (((l4.map RowB.sm).getD f7.toNat default).2.1) (((l4.map RowB.sm).getD f7.toNat default).2.2)),(42,iV ((r6.out.getD f7.toNat []).length:Int)),(43,iV k1)]) (fun (o7:Nat) (f2:List Int) (k1:Int)=>[(eC b1 #[iV n0.N,iV n0.S,iV n0.T,.slice a5 a4 a3] 24),(eC b8 #[iV r6.n.N,iV r6.n.S,iV r6.n.T,.slice a5 a4 a3,nV b9 d4 d4,sV a8 i6 c14,sV a9 i8 c18,sV b6 j0 c22,sV b7 j2 j3] 333),(eI a8 r6.at_ i7 3),(eA a9 boolC r6.done i9 4),(eA b6 boolC r6.on j1 4),(eI b7 r6.way j4 3),(eI (some g7) f2 ([]) 3)]) (fun (o7:Nat) (f2:List Int) (k1:Int)=>o7) Xd f6 0 ⟨p5,p3⟩ (aF rfl) (Zd Ze (Zd Ze (Zd Ze (Zd Ze (Zd Ze (Zd Ze (Zd Ze Zg))))))) ?_;rintro o7 f2 k1 ⟨H,l6⟩;obtain ⟨C6,C7,rfl,H,y5⟩:=Vo H;have H:Z5m n0 r6 f7 f2 k1=some C7:=H;unfold Z5m at H;refine sR Y1 rfl ?_;refine Zq Zl ?_;refine dS ?_;rcases Zp H with ⟨v0,H⟩ | ⟨v0,H⟩
     ·refine Yw rfl v0 ?_;refine T.skip ?_;refine Zz ?_;refine Zh ?_;refine T.block ?_;obtain ⟨y6,H⟩:=Ya H;refine sR Y3 rfl ?_;refine Xr (e8.at p4) y6 Zb Xt Wc ?_;refine Kw (e8.at p4) y6 Za Yf ?_;refine aN Za ?_;obtain ⟨y7,y8,C8,y9,H⟩:=gd4 H;refine rG Y12 rfl ?_;refine Zc Za ?_;refine Zs Za Vm ?_;refine Zt Za Vt Zi rfl ?_;refine Zc Za ?_;refine Xr d2 y7 Zb Wo Vl ?_;refine TO.faR Za Lh ?_;refine Z7q (v:=iV ((n0.Arcs.getD ((r6.out.getD f7.toNat []).getD k1.toNat 0).toNat default).to)) default d2 y7 Zb Yf ?_;refine Kv l6 y8 Zb Xt Wc ?_;refine Z19 y8 Za Yf mm6 ?_;refine Xy C8 Zb ?_;refine Kv l6 y9 Zb Xt Wc ?_;refine Rq y9 Za Jj Wc ?_;refine Zk ?_;refine Yv ?_;refine Zz ?_;refine Zm (aT [2,6,7,35,36,37,41,42,43] rfl) ?_;obtain ⟨C9,H⟩:=Ya H;refine rG Y2 rfl ?_;refine Xy C9 Zb ?_;refine Zc Za ?_;refine Zk ?_;have H:=Wr H y5;exact Gj C6 (f2.set ((n0.Arcs.getD ((r6.out.getD f7.toNat []).getD k1.toNat 0).toNat default).to).toNat ((f2.getD ((n0.Arcs.getD ((r6.out.getD f7.toNat []).getD k1.toNat 0).toNat default).to).toNat 0)+1)) (k1+1) ⟨H,(List.length_set.trans l6)⟩ (Nat.lt_succ_self _) (aF rfl) (Zd Zo (Zd Zo (Zd Zo (Zd Zo (Zd Zo (Zd Zo (Zd Ze Zg)))))))
     ·refine Yu rfl v0 ?_;refine T.exit ?_;refine Xc ?_;have H:=Wd H y5▸C5;refine Xc ?_;refine Ve ?_;refine Yv ?_;exact Xe f2 ⟨H,l6⟩ (aF rfl) (Zd Ze (Zd Ze (Zd Ze (Zd Ze (Zd Ze (Zd Ze (Zd Ze Zg)))))))
    ·rintro h4 ⟨H,v2⟩;unfold Z81 at H;obtain ⟨D0,H⟩:=Ya H;refine rG Y2 rfl ?_;refine Xy D0 Zb ?_;refine Zc Za ?_;refine Zk ?_;have H:=Wr H y4;exact Gj C3 h4 (f7+1) ⟨H,v2⟩ (Nat.lt_succ_self _) (aF rfl) (Zd Ze (Zd Ze (Zd Ze (Zd Ze (Zd Ze (Zd Ze (Zd Ze Zg)))))))
   ·refine Yu rfl u9 ?_;refine T.exit ?_;refine Xc ?_;have H:=Wd H y4▸C2;refine Xc ?_;refine Ve ?_;exact Xe f6 ⟨H,p3⟩ (aF rfl) (Zd Ze (Zd Ze (Zd Ze (Zd Ze (Zd Ze (Zd Ze (Zd Ze Zg)))))))
  ·
   rintro d8 ⟨H,m5⟩;unfold Z7v at H;refine sR Y2 rfl ?_;refine Yc Za ?_;refine aN Za ?_;refine Zh ?_;refine sR Y3 rfl ?_;refine Zc Za ?_;refine Ym (xs:=d8) m5 Zb Xt ?_;refine Zc Za ?_;refine dN ?_;refine Z59 (fun (c7:List Int) (n106 c107:Nat) (d9:Option Nat) (j5:List Value)=>Z87 n0 r6 d8 c7=some (r0,r1)∧c7.length=n106∧n106≤c107∧j5.length=(c107 - n106)*1∧(d9=none→c107=0)∧c107≤9223372036854775807) (fun (c7:List Int) (n106 c107:Nat) (d9:Option Nat) (j5:List Value)=>[(2,pV b1),(6,pV b8),(7,nV g7 n0.N.toNat n0.N.toNat),(12,.slice none 0 0),(13,sV d9 n106 c107)]) (fun (c7:List Int) (n106 c107:Nat) (d9:Option Nat) (j5:List Value)=>[(eC b1 #[iV n0.N,iV n0.S,iV n0.T,.slice a5 a4 a3] 24),(eC b8 #[iV r6.n.N,iV r6.n.S,iV r6.n.T,.slice a5 a4 a3,nV b9 d4 d4,sV a8 i6 c14,sV a9 i8 c18,sV b6 j0 c22,sV b7 j2 j3] 333),(eI a8 r6.at_ i7 3),(eA a9 boolC r6.done i9 4),(eA b6 boolC r6.on j1 4),(eI b7 r6.way j4 3),(eI (some g7) d8 ([]) 3),(eI d9 c7 j5 3)]) ?_ ?_
   ·
    refine T.block ?_;obtain ⟨D1,u7,D2⟩:=Zn H;refine Z4d (fun (o8:Nat) (c4:List Int) (k2 c79:Nat) (f8:Option Nat) (l7:List Value) (j8:Int)=>Xa (fun s=>Z4j d8 s.1 s.2) o8 (c4,j8)=some D1∧c4.length=k2∧k2≤c79∧l7.length=(c79 - k2)*1∧(f8=none→c79=0)∧c79≤9223372036854775807) (fun (o8:Nat) (c4:List Int) (k2 c79:Nat) (f8:Option Nat) (l7:List Value) (j8:Int)=>[(2,pV b1),(6,pV b8),(7,nV g7 n0.N.toNat n0.N.toNat),(12,.slice none 0 0),(13,sV f8 k2 c79),(60,nV g7 n0.N.toNat n0.N.toNat),(61,iV (d8.length:Int)),(62,iV j8)]) (fun (o8:Nat) (c4:List Int) (k2 c79:Nat) (f8:Option Nat) (l7:List Value) (j8:Int)=>[(eC b1 #[iV n0.N,iV n0.S,iV n0.T,.slice a5 a4 a3] 24),(eC b8 #[iV r6.n.N,iV r6.n.S,iV r6.n.T,.slice a5 a4 a3,nV b9 d4 d4,sV a8 i6 c14,sV a9 i8 c18,sV b6 j0 c22,sV b7 j2 j3] 333),(eI a8 r6.at_ i7 3),(eA a9 boolC r6.done i9 4),(eA b6 boolC r6.on j1 4),(eI b7 r6.way j4 3),(eI (some g7) d8 ([]) 3),(eI f8 c4 l7 3)]) (fun (o8:Nat) (c4:List Int) (k2 c79:Nat) (f8:Option Nat) (l7:List Value) (j8:Int)=>o8) Xd ([]) 0 0 none ([]) 0 ⟨u7,rfl,(Nat.le_refl _),(Xk 0 _),(fun _=>rfl),(Nat.zero_le _)⟩ (aF rfl) (Zd Ze (Zd Ze (Zd Ze (Zd Ze (Zd Ze (Zd Ze (Zd Ze (Pick.none Zg)))))))) ?_;rintro o8 c4 k2 c79 f8 l7 j8 ⟨H,l8,m6,m7,m8,m9⟩;obtain ⟨z0,D3,rfl,H,v3⟩:=Vo H;have H:Z4j d8 c4 j8=some D3:=H;unfold Z4j at H;refine sR Y1 rfl ?_;refine Zq Zl ?_;refine dS ?_;rcases Zp H with ⟨v4,H⟩ | ⟨v4,H⟩
    ·
     refine Yw rfl v4 ?_;refine T.skip ?_;refine Zz ?_;refine Zh ?_;refine T.block ?_;obtain ⟨z6,H⟩:=Ya H;refine sR Y5 rfl ?_;refine Zc Za ?_;refine Kv m5 z6 Zb Xt Wc ?_;refine Z19 z6 Za Yf mm6 ?_;refine Yc Za ?_;refine aN Za ?_;refine sR Y2 rfl ?_;refine Zc Za ?_;refine Zq Zl ?_;refine dN ?_;rcases Zp H with ⟨v6,H⟩ | ⟨v6,H⟩
     ·refine Yw rfl v6 ?_;obtain ⟨D4,H⟩:=Ya H;refine rG Y5 rfl ?_;refine Zc Za ?_;refine Zc Za ?_;refine Jc [iV 0] [0] Za Xt Wc TWQCY.z3 Ys (by simp only [Xv,setCells,Value.cells,List.toList_toArray,List.getD_cons_zero,List.getD_cons_succ,List.set_cons_zero,List.set_cons_succ];rfl) (by kernel_rfl) ?_;intro E9;refine Zbt (f:=iC) (s:=1) (xs:=c4) (ob:=f8) (j:=l7) (ys:=[j8]) (fun _=>rfl) (fun _=>rfl) Z6v D4 Zb tk8 l8 m6 m7 m8 m9 (fun wc hwc=>(hwc.rs (f:=iC) (s:=1) (xs:=[j8]) (j:=([])) (fun _=>rfl) Zi rfl (Nat.le_refl _) Wl)) ?_;intro v7 D5 D6 v8 v9 p6 p7;refine Yc Za ?_;refine Zk ?_;refine Yv ?_;refine Zz ?_;refine Zm (aT [2,6,7,12,13,60,61,62] rfl) ?_;obtain ⟨w2,H⟩:=Ya H;refine rG Y2 rfl ?_;refine Xy w2 Zb ?_;refine Zc Za ?_;refine Zk ?_;have H:=Wr H v3;exact Z25 z0 (c4++([j8])) (k2+1) D5 v7 D6 (j8+1) ⟨H,(Ny l8 rfl),v8,v9,p6,p7⟩ (Nat.lt_succ_self _) (aF rfl) (Zd Yt (Zd Yt (Zd Yt (Zd Yt (Zd Yt (Zd Yt (Zd Yt (Zd Ze Zg))))))))
     ·refine Yu rfl v6 ?_;refine T.skip ?_;refine Yv ?_;refine Zz ?_;refine Zm (aT [2,6,7,12,13,60,61,62] rfl) ?_;obtain ⟨w3,H⟩:=Ya H;refine rG Y2 rfl ?_;refine Xy w3 Zb ?_;refine Zc Za ?_;refine Zk ?_;have H:=Wr H v3;exact Z25 z0 c4 k2 c79 f8 l7 (j8+1) ⟨H,l8,m6,m7,m8,m9⟩ (Nat.lt_succ_self _) (aF rfl) (Zd Ze (Zd Ze (Zd Ze (Zd Ze (Zd Ze (Zd Ze (Zd Ze (Zd Ze Zg))))))))
    ·refine Yu rfl v4 ?_;refine T.exit ?_;refine Xc ?_;have H:=Wd H v3▸D2;refine Xc ?_;refine Ve ?_;exact Z5k c4 k2 c79 f8 l7 ⟨H,l8,m6,m7,m8,m9⟩ (aF rfl) (Zd Ze (Zd Ze (Zd Ze (Zd Ze (Zd Ze (Zd Ze (Zd Ze (Zd Ze Zg))))))))
   ·
    rintro c7 n106 c107 d9 j5 ⟨H,p8,p9,q0,q1,q2⟩;unfold Z87 at H;refine Zh ?_;refine Z59 (fun (d6:List Int) (g8 g4:Nat) (f3:Option Nat) (j6:List Value)=>Z5t n0 d6=some (r0,r1)∧d6.length=g8∧g8≤g4∧j6.length=(g4 - g8)*1∧(f3=none→g4=0)∧g4≤9223372036854775807) (fun (d6:List Int) (g8 g4:Nat) (f3:Option Nat) (j6:List Value)=>[(2,pV b1),(12,sV f3 g8 g4)]) (fun (d6:List Int) (g8 g4:Nat) (f3:Option Nat) (j6:List Value)=>[(eC b1 #[iV n0.N,iV n0.S,iV n0.T,.slice a5 a4 a3] 24),(eI f3 d6 j6 3)]) ?_ ?_
    ·
     refine T.block ?_;obtain ⟨D7,D8,D9⟩:=Zn H;refine Zg3 (fun (o9:Nat) (d5 a6:List Int) (d7 c120:Nat) (d0:Option Nat) (e9:List Value) (a2:List Int) (f4:Option Addr) (h5 c132:Nat) (e1:Option Nat) (e2:List Int) (g6 f9:Nat) (g9:List Value)=>Xa (fun s=>Z5j n0 r6 s.1 s.2.1 s.2.2) o9 (d5,a6,a2)=some D7∧d5.length=n0.N.toNat∧a6.length=d7∧d7≤c120∧e9.length=(c120 - d7)*1∧(d0=none→c120=0)∧c120≤9223372036854775807∧Qu e1 f4 h5 c132 a2 e2 g6 f9∧e2.length=g6∧g6≤f9∧g9.length=(f9 - g6)*1∧(e1=none→f9=0)∧f9≤9223372036854775807) (fun (o9:Nat) (d5 a6:List Int) (d7 c120:Nat) (d0:Option Nat) (e9:List Value) (a2:List Int) (f4:Option Addr) (h5 c132:Nat) (e1:Option Nat) (e2:List Int) (g6 f9:Nat) (g9:List Value)=>[(2,pV b1),(6,pV b8),(7,nV g7 n0.N.toNat n0.N.toNat),(12,sV d0 d7 c120),(13,.slice f4 h5 c132)]) (fun (o9:Nat) (d5 a6:List Int) (d7 c120:Nat) (d0:Option Nat) (e9:List Value) (a2:List Int) (f4:Option Addr) (h5 c132:Nat) (e1:Option Nat) (e2:List Int) (g6 f9:Nat) (g9:List Value)=>[(eC b1 #[iV n0.N,iV n0.S,iV n0.T,.slice a5 a4 a3] 24),(eC b8 #[iV r6.n.N,iV r6.n.S,iV r6.n.T,.slice a5 a4 a3,nV b9 d4 d4,sV a8 i6 c14,sV a9 i8 c18,sV b6 j0 c22,sV b7 j2 j3] 333),(eI a8 r6.at_ i7 3),(eA a9 boolC r6.done i9 4),(eA b6 boolC r6.on j1 4),(eI b7 r6.way j4 3),(eI (some g7) d5 ([]) 3),(eI d0 a6 e9 3),(eI e1 e2 g9 3)]) (fun (o9:Nat) (d5 a6:List Int) (d7 c120:Nat) (d0:Option Nat) (e9:List Value) (a2:List Int) (f4:Option Addr) (h5 c132:Nat) (e1:Option Nat) (e2:List Int) (g6 f9:Nat) (g9:List Value)=>o9) Xd d8 ([]) 0 0 none ([]) c7 (sb d9) n106 c107 d9 c7 n106 c107 j5 ⟨D8,m5,rfl,(Nat.le_refl _),(Xk 0 _),(fun _=>rfl),(Nat.zero_le _),(Qu.self d9 c7 n106 c107),p8,p9,q0,q1,q2⟩ (aF rfl) (Zd Ze (Zd Ze (Zd Ze (Zd Ze (Zd Ze (Zd Ze (Zd Ze (Pick.none (Zd Ze Zg))))))))) ?_;rintro o9 d5 a6 d7 c120 d0 e9 a2 f4 h5 c132 e1 e2 g6 f9 g9 ⟨H,q3,k3,l9,m0,m1,m2,h0,g2,h7,q4,k4,q5⟩;obtain ⟨E0,E1,rfl,H,z7⟩:=Vo H;have H:Z5j n0 r6 d5 a6 a2=some E1:=H;unfold Z5j at H;refine Zh ?_;refine sR Y3 rfl ?_;refine Zc Za ?_;refine Ym (xs:=a2) (h0.len g2) Zb Xt ?_;refine Zq Zl ?_;refine dN ?_;rcases Zp H with ⟨n6,H⟩ | ⟨n6,H⟩
     ·
      refine Yw rfl n6 ?_;refine T.skip ?_;refine Zz ?_;refine T.block ?_;obtain ⟨q6,H⟩:=Ya H;refine sR Y4 rfl ?_;refine Zc Za ?_;refine TO.ixQ h0 g2 h7 k4 q6 Zb Xt Wc ?_;refine TO.ldIQ h0 g2 h7 k4 q6 Za Yf Ul ?_;refine aN Za ?_;refine Zh ?_;obtain ⟨q7,w4,H⟩:=Jh H;apply Z9a [rV [] _,rV [0] _,⟨[],true,[],fun _ v e=>v=sV d0 d7 c120∧e=[(eI d0 a6 e9 3)]⟩,rV [] _,⟨[3],false,[],fun _ v e=>∃ (j7:Nat),v=nV j7 1 1∧e=[(eI (some j7) ([(a2.getD (0:Int).toNat 0)]) ([]) 3)]⟩,⟨[2,4],false,[2],fun _ v e=>∃ (e3:Option Nat) (g0:Nat) (h6:List Value),v=sV e3 (d7+1) g0∧e=[(eI e3 (a6++([(a2.getD (0:Int).toNat 0)])) h6 3)]∧(d7+1)≤g0∧h6.length=(g0 - (d7+1))*1∧(e3=none→g0=0)∧g0≤9223372036854775807⟩] [80,81,82,83,84,85] 6 (HRk [[(eI d0 a6 e9 3)],[]]) [[],[]] [(eI d0 a6 e9 3)] [(eC b1 #[iV n0.N,iV n0.S,iV n0.T,.slice a5 a4 a3] 24),(eC b8 #[iV r6.n.N,iV r6.n.S,iV r6.n.T,.slice a5 a4 a3,nV b9 d4 d4,sV a8 i6 c14,sV a9 i8 c18,sV b6 j0 c22,sV b7 j2 j3] 333),(eI a8 r6.at_ i7 3),(eA a9 boolC r6.done i9 4),(eA b6 boolC r6.on j1 4),(eI b7 r6.way j4 3),(eI (some g7) d5 ([]) 3),(eI e1 e2 g9 3)]
      ·exact Xx
      ·exact rfl
      ·kernel_rfl
      ·kernel_rfl
      ·kernel_rfl
      ·exact rfl
      ·exact rfl
      ·exact rfl
      ·exact rfl
      ·exact Vh (by repeat constructor)
      ·
       refine ⟨?_,?_,?_,?_,?_,?_,trivial⟩
       ·rintro vs es Es Hx -;refine Yj (D:=[]) rfl ?_;refine Zc Za ?_;refine Zk ?_;exact Yp rfl ⟨rfl,rfl⟩ (Zv _) rfl
       ·rintro vs es Es Hx ⟨⟨q8,w5⟩,-⟩;refine Yj (D:=[(80,vs 0)]) rfl ?_;rw [q8];refine TO.slL (xs:=a2) (h0.len g2) q7 Zb Xt Wc ?_;refine Zk ?_;exact Yp rfl ⟨rfl,rfl⟩ (Zv _) (by show [(80,vs 0)]=_;rw [q8])
       ·rintro vs es Es Hx hb - hHR;obtain rfl:hb=[(eI d0 a6 e9 3)]:=hHR;refine Yj (D:=[]) rfl ?_;refine Zc Za ?_;refine Zk ?_;exact Z7p (hb':=[]) (e':=[(eI d0 a6 e9 3)]) rfl ⟨rfl,rfl⟩ rfl (Vh (by repeat constructor)) rfl
       ·rintro vs es Es Hx -;refine Yj (D:=[]) rfl ?_;refine Zc Za ?_;refine Zk ?_;exact Yp rfl ⟨rfl,rfl⟩ (Zv _) rfl
       ·rintro vs es Es Hx ⟨⟨q9,w6⟩,-⟩;refine Yj (D:=[(83,vs 3)]) rfl ?_;rw [q9];refine Jc [iV 0] [0] Za Xt Wc TWQCY.z3 Ys (by simp only [Xv,setCells,Value.cells,List.toList_toArray,List.getD_cons_zero,List.getD_cons_succ,List.set_cons_zero,List.set_cons_succ];rfl) (by kernel_rfl) ?_;intro j7;refine Zk ?_;exact Yp rfl ⟨j7,rfl,rfl⟩ (Vh (by repeat constructor)) (by show [(83,vs 3)]=_;rw [q9])
       ·rintro vs es Es Hx ⟨⟨r2,p5⟩,⟨j7,r4,r5⟩,-⟩;refine Yj (D:=[(82,vs 2),(84,vs 4)]) rfl ?_;rw [r2,r4];refine Ug (H:=_++((es 2++(es 4++([])))++_)) rfl ?_;rw [p5,r5];refine Zbt (f:=iC) (s:=1) (xs:=a6) (ob:=d0) (j:=e9) (ys:=[(a2.getD (0:Int).toNat 0)]) (fun _=>rfl) (fun _=>rfl) Z6v w4 Zb tk8 k3 l9 m0 m1 m2 (fun wc hwc=>(hwc.rs (f:=iC) (s:=1) (xs:=[(a2.getD (0:Int).toNat 0)]) (j:=([])) (fun _=>rfl) mm9 rfl (Nat.le_refl _) Wl)) ?_;intro e3 g0 h6 k5 k6 k7 k8;refine Zk ?_;exact Yp rfl ⟨e3,g0,h6,rfl,rfl,k5,k6,k7,k8⟩ (by show Pick (_++(_++((es 4++([]))++_))) _;rw [r5];exact Vh (by repeat constructor)) (by show [(82,vs 2),(84,vs 4)]=_;rw [r2,r4])
      ·
       rintro vs es hb ⟨⟨q8,w5⟩,⟨z8,u6⟩,⟨r2,p5⟩,⟨q9,w6⟩,⟨j7,r4,r5⟩,⟨e3,g0,h6,A1,u7,k5,k6,k7,k8⟩,-⟩ hHR;obtain rfl:hb=[]:=hHR;refine Yj (D:=[(80,vs 0),(81,vs 1),(82,vs 2),(83,vs 3),(84,vs 4),(85,vs 5)]) rfl ?_;refine Ug (H:=_++(_++(es 0++(es 1++(es 3++(es 4++(es 5++([])))))))) rfl ?_;rw [w5,u6,w6,r5,u7];rw [q8,z8,r2,q9,r4,A1];clear A1 r4 q9 r2 z8 q8 w5 u6 p5 w6 r5 u7;refine Yc Za ?_;refine aN Za ?_;refine Zm (aT [2,6,7,12,13,16] rfl) ?_;obtain ⟨k9,H⟩:=Ya H;refine sR Y9 rfl ?_;refine Zc Za ?_;refine TO.nilCheck Za ?_;refine Zs Za Z4o ?_;refine Zt Za Z3s Yl rfl ?_;refine Zc Za ?_;refine Xr e8.rs (e8.inb k9) Zb Z07 Z0l ?_;refine Z9r e8 k9 Za Gz ?_;refine Ym (xs:=(r6.out.getD (a2.getD (0:Int).toNat 0).toNat [])) ((e8.at k9).len) Zb Xt ?_;refine Zc Za ?_;refine dN ?_;refine T.block ?_;obtain ⟨E2,E3,E4⟩:=Zn H;refine Zjq (fun (p2:Nat) (d1 a7:List Int) (f0:Option Addr) (h1 h2:Nat) (e5:Option Nat) (e6:List Int) (g1 f5:Nat) (h3:List Value) (d3:Int)=>Xa (fun s=>Z3m n0 r6 a6 a2 s.1 s.2.1 s.2.2) p2 (d1,a7,d3)=some E2∧d1.length=n0.N.toNat∧Qu e5 f0 h1 h2 a7 e6 g1 f5∧e6.length=g1∧g1≤f5∧h3.length=(f5 - g1)*1∧(e5=none→f5=0)∧f5≤9223372036854775807) (fun (p2:Nat) (d1 a7:List Int) (f0:Option Addr) (h1 h2:Nat) (e5:Option Nat) (e6:List Int) (g1 f5:Nat) (h3:List Value) (d3:Int)=>[(2,pV b1),(6,pV b8),(7,nV g7 n0.N.toNat n0.N.toNat),(12,sV e3 (d7+1) g0),(13,.slice f0 h1 h2),(92,.slice (((l4.map RowB.sm).getD (a2.getD (0:Int).toNat 0).toNat default).1) (((l4.map RowB.sm).getD (a2.getD (0:Int).toNat 0).toNat default).2.1) (((l4.map RowB.sm).getD (a2.getD (0:Int).toNat 0).toNat default).2.2)),(93,iV ((r6.out.getD (a2.getD (0:Int).toNat 0).toNat []).length:Int)),(94,iV d3)]) (fun (p2:Nat) (d1 a7:List Int) (f0:Option Addr) (h1 h2:Nat) (e5:Option Nat) (e6:List Int) (g1 f5:Nat) (h3:List Value) (d3:Int)=>[(eC b1 #[iV n0.N,iV n0.S,iV n0.T,.slice a5 a4 a3] 24),(eC b8 #[iV r6.n.N,iV r6.n.S,iV r6.n.T,.slice a5 a4 a3,nV b9 d4 d4,sV a8 i6 c14,sV a9 i8 c18,sV b6 j0 c22,sV b7 j2 j3] 333),(eI a8 r6.at_ i7 3),(eA a9 boolC r6.done i9 4),(eA b6 boolC r6.on j1 4),(eI b7 r6.way j4 3),(eI (some g7) d1 ([]) 3),(eI e3 (a6++([(a2.getD (0:Int).toNat 0)])) h6 3),(eI e5 e6 h3 3)]) (fun (p2:Nat) (d1 a7:List Int) (f0:Option Addr) (h1 h2:Nat) (e5:Option Nat) (e6:List Int) (g1 f5:Nat) (h3:List Value) (d3:Int)=>p2) Xd d5 (a2.drop (1:Int).toNat) (Us f4 (1:Int).toNat c132 1) (h5 - (1:Int).toNat) (c132 - (1:Int).toNat) e1 e2 g6 f9 g9 0 ⟨E3,q3,(h0.drop q7 g2 h7),g2,h7,q4,k4,q5⟩ (aF rfl) (Zd Ze (Zd Ze (Zd Ze (Zd Ze (Zd Ze (Zd Ze (Zd Ze (Zd Yt (Zd Ze Zg))))))))) ?_;rintro p2 d1 a7 f0 h1 h2 e5 e6 g1 f5 h3 d3 ⟨H,g3,h8,h9,i4,l1,i5,l3⟩;obtain ⟨A2,E5,rfl,H,w7⟩:=Vo H;have H:Z3m n0 r6 a6 a2 d1 a7 d3=some E5:=H;unfold Z3m at H;refine sR Y1 rfl ?_;refine Zq Zl ?_;refine dS ?_;rcases Zp H with ⟨n7,H⟩ | ⟨n7,H⟩
       ·
        refine Yw rfl n7 ?_;refine T.skip ?_;refine Zz ?_;refine Zh ?_;refine T.block ?_;obtain ⟨r7,H⟩:=Ya H;refine sR Y3 rfl ?_;refine Xr (e8.at k9) r7 Zb Xt Wc ?_;refine Kw (e8.at k9) r7 Za Yf ?_;refine aN Za ?_;obtain ⟨r8,H⟩:=Ya H;refine sR Y7 rfl ?_;refine Zs Za Vm ?_;refine Zt Za Vt Zi rfl ?_;refine Zc Za ?_;refine Xr d2 r8 Zb Wo Vl ?_;refine TO.faR Za Lh ?_;refine Z7q (v:=iV ((n0.Arcs.getD ((r6.out.getD (a2.getD (0:Int).toNat 0).toNat []).getD d3.toNat 0).toNat default).to)) default d2 r8 Zb Yf ?_;refine aN Za ?_;refine Zm (aT [2,6,7,12,13,92,93,94,19] rfl) ?_;obtain ⟨r9,w8,s6,H⟩:=gd3 H;refine sR Y7 rfl ?_;refine Zc Za ?_;refine Zc Za ?_;refine Kv g3 r9 Zb Xt Wc ?_;refine Z19 r9 Za Yf mm6 ?_;refine Nd w8 Zb ?_;refine Kv g3 s6 Zb Xt Wc ?_;refine Rq s6 Za Jj Wc ?_;refine dN ?_;obtain ⟨s7,H⟩:=Ya H;refine sR Y5 rfl ?_;refine Zc Za ?_;refine Zc Za ?_;refine Kv (List.length_set.trans g3) s7 Zb Xt Wc ?_;refine Z19 s7 Za Yf Zi ?_;refine Zq Zl ?_;refine dN ?_;refine Zm (aT [2,6,7,12,13,92,93,94,19,114] rfl) ?_;rcases Zp H with ⟨n8,H⟩ | ⟨n8,H⟩
        ·refine Yw rfl n8 ?_;refine Zh ?_;obtain ⟨⟨w9,E6⟩,x1,H⟩:=Zn H;refine rG Y8 rfl ?_;refine Zc Za ?_;refine Zc Za ?_;refine Zw Zik Za (fun wc hwc=>Zj8 (x0:=a7) (target1:=(n0.Arcs.getD ((r6.out.getD (a2.getD (0:Int).toNat 0).toNat []).getD d3.toNat 0).toNat default).to) wc (h8.rs hwc (fun _=>rfl) Ul h9 i4 i5) x1) ?_;rintro _ _ ⟨rfl,rfl⟩;refine Zc Za ?_;refine TO.extract Zb ?_;refine TO.extract Zb ?_;refine Yc Za ?_;refine aN Za ?_;refine Zm (aT [2,6,7,12,13,92,93,94,19,20] rfl) ?_;obtain ⟨x2,x3,H⟩:=Zn H;refine rG Y6 rfl ?_;refine Zc Za ?_;refine Zc Za ?_;refine Zc Za ?_;refine Jc [iV 0] [0] Za Xt Wc TWQCY.z3 Ys (by simp only [Xv,setCells,Value.cells,List.toList_toArray,List.getD_cons_zero,List.getD_cons_succ,List.set_cons_zero,List.set_cons_succ];rfl) (by kernel_rfl) ?_;intro E7;refine Z01 Zgb Za (Take.gone tk9 (Take.gone Ze (Gone.refl _))) rfl (fun wc hwc=>Zhy (xs0:=a7) (i1:=w9) (us2:=[(n0.Arcs.getD ((r6.out.getD (a2.getD (0:Int).toNat 0).toNat []).getD d3.toNat 0).toNat default).to]) wc (hwc.self (Zd tk9 (Zd Ze Zg)) rfl) h8 h9 i4 l1 i5 l3 rfl (Nat.le_refl _) (Xk _ _) Wl x3) ?_;rintro _ _ ⟨s8,x4,x5,t0,x6,x7,t1,x8,rfl,rfl,t2,t3,t4,t5,t6,t7⟩;refine Yc Za ?_;refine Zk ?_;refine Yv ?_;refine Zz ?_;obtain ⟨x9,H⟩:=Ya H;refine rG Y2 rfl ?_;refine Xy x9 Zb ?_;refine Zc Za ?_;refine Zk ?_;have H:=Wr H w7;exact Zbn A2 (d1.set ((n0.Arcs.getD ((r6.out.getD (a2.getD (0:Int).toNat 0).toNat []).getD d3.toNat 0).toNat default).to).toNat ((d1.getD ((n0.Arcs.getD ((r6.out.getD (a2.getD (0:Int).toNat 0).toNat []).getD d3.toNat 0).toNat default).to).toNat 0) - 1)) x2 s8 x4 x5 t0 t1 x6 x7 x8 (d3+1) ⟨H,(List.length_set.trans g3),t2,t3,t4,t5,t6,t7⟩ (Nat.lt_succ_self _) (aF rfl) (Zd Vv (Zd Vv (Zd Vv (Zd Vv (Zd Vv (Zd Vv (Zd Yt (Zd Yt (Zd Ze Zg)))))))))
        ·refine Yu rfl n8 ?_;refine T.skip ?_;refine Yv ?_;refine Zz ?_;obtain ⟨y0,H⟩:=Ya H;refine rG Y2 rfl ?_;refine Xy y0 Zb ?_;refine Zc Za ?_;refine Zk ?_;have H:=Wr H w7;exact Zbn A2 (d1.set ((n0.Arcs.getD ((r6.out.getD (a2.getD (0:Int).toNat 0).toNat []).getD d3.toNat 0).toNat default).to).toNat ((d1.getD ((n0.Arcs.getD ((r6.out.getD (a2.getD (0:Int).toNat 0).toNat []).getD d3.toNat 0).toNat default).to).toNat 0) - 1)) a7 f0 h1 h2 e5 e6 g1 f5 h3 (d3+1) ⟨H,(List.length_set.trans g3),h8,h9,i4,l1,i5,l3⟩ (Nat.lt_succ_self _) (aF rfl) (Zd Zo (Zd Zo (Zd Zo (Zd Zo (Zd Zo (Zd Zo (Zd Ze (Zd Ze (Zd Ze Zg)))))))))
       ·refine Yu rfl n7 ?_;refine T.exit ?_;refine Xc ?_;have H:=Wd H w7▸E4;refine Xc ?_;refine Ve ?_;refine Yv ?_;have H:=Wr H z7;exact Zfc E0 d1 (a6++([(a2.getD (0:Int).toNat 0)])) (d7+1) g0 e3 h6 a7 f0 h1 h2 e5 e6 g1 f5 h3 ⟨H,g3,(Ny k3 rfl),k5,k6,k7,k8,h8,h9,i4,l1,i5,l3⟩ (Nat.lt_succ_self _) (aF rfl) (Zd Ze (Zd Ze (Zd Ze (Zd Ze (Zd Ze (Zd Ze (Zd Ze (Zd Ze (Zd Ze Zg)))))))))
     ·refine Yu rfl n6 ?_;refine T.exit ?_;refine Xc ?_;have H:=Wd H z7▸D9;refine Xc ?_;refine Ve ?_;exact Z5k a6 d7 c120 d0 e9 ⟨H,k3,l9,m0,m1,m2⟩ (aF rfl) (Zd Ze (Zd Jj Zg))
    ·
     rintro d6 g8 g4 f3 j6 ⟨H,m3,t8,u0,u2,A3⟩;unfold Z5t at H;refine Zh ?_;refine sR Y5 rfl ?_;refine Zc Za ?_;refine Ym (xs:=d6) m3 Zb Xt ?_;refine Zs Za Ut ?_;refine Zt Za Yf Zi rfl ?_;refine Zq Zl ?_;refine dN ?_;rcases Zp H with ⟨o0,H⟩ | ⟨o0,H⟩
     ·refine Yw rfl o0 ?_;refine sR Y2 rfl ?_;refine Yc Za ?_;refine aN Za ?_;refine T.ret ?_;refine Zy ?_;obtain ⟨rfl,rfl⟩:=ret2 H;refine X.reb j9 ?_;exact Xg Za (Res.tmp rfl) (Res.tmp rfl) (Pick.none Zg) ⟨none,0,0,([]),rfl,rfl,rfl,(Nat.le_refl _),(Xk 0 _),(fun _=>rfl)⟩
     ·refine Yu rfl o0 ?_;refine T.skip ?_;refine Zz ?_;refine sR Y3 rfl ?_;refine Zc Za ?_;refine Yc Za ?_;refine aN Za ?_;refine Zm (aT [4,5] rfl) ?_;refine T.ret ?_;obtain ⟨rfl,rfl⟩:=ret2 H;refine X.reb j9 ?_;exact Xg Za (Res.tmp rfl) (Res.tmp rfl) (Zd Zo Zg) ⟨f3,g8,g4,j6,rfl,rfl,m3,t8,u0,u2⟩
end Go.Proofs.YtddknfpolkkbjaaGreatDoor.Ax
namespace Go.Proofs.YtddknfpolkkbjaaGreatDoor.Ax
open Go Go.Acq Go.RowKit Go.Proofs
set_option maxHeartbeats 8000000
set_option maxRecDepth 20000
def Z9t:List (FuncId×Vx.XK):=[(347,.ld),(357,.st),(399,.add),(408,.cas)]
theorem Zi4:Vx.XsOk Tryz.prog Z9t:=⟨⟨Tryz.f347,Tryz.func347,by kernel_rfl,rfl,by kernel_rfl,by kernel_rfl⟩,⟨Tryz.f357,Tryz.func357,by kernel_rfl,rfl,by kernel_rfl,by kernel_rfl⟩,⟨Tryz.f399,Tryz.func399,by kernel_rfl,rfl,by kernel_rfl,by kernel_rfl⟩,⟨Tryz.f408,Tryz.func408,by kernel_rfl,rfl,by kernel_rfl,by kernel_rfl⟩,trivial⟩
theorem ordX:Vx.XOk Tryz.prog 173 (.deep [.agg [.int .i64 (.lit 2),.int .i64 (.lit 0),.int .i64 (.lit 1),.sl 0 0 1 (.rest 0)],.sl 1 0 1 (.rest 0)]
  [some ([.int .i64 (.lit 0),.int .i64 (.lit 1),.int .i64 (.lit 7)],64,true),
   some ([.int .i64 (.lit 7)],2,true)]
  (.tup [.sl 2 0 2 (.rest 0),.bool (.lit true)])
  [some ([.int .i64 (.lit 0),.int .i64 (.lit 1),.int .i64 (.lit 7)],64,true),
   some ([.int .i64 (.lit 7)],2,true),
   some ([.int .i64 (.lit 0),.int .i64 (.lit 1)],3,true)]):=by
  refine Vx.row_known (hs:=[some ([.int .i64 (.lit 0),.int .i64 (.lit 1),.int .i64 (.lit 7)],64,true),some ([.int .i64 (.lit 7)],2,true)]) (e:=3) (k:=.i64) (xs:=[0,1]) (by kernel_rfl) (by simp) (by kernel_rfl) (by kernel_rfl) (by kernel_rfl) ?_
  intro vr σ w M args ha hσ hw
  cases ha with | cons h0 ha =>
  cases ha with | cons h1 ha =>
  cases ha
  obtain ⟨l,rfl,g0⟩:=h0.agg_inv
  cases g0 with | cons a0 g0 =>
  cases g0 with | cons a1 g0 =>
  cases g0 with | cons a2 g0 =>
  cases g0 with | cons a3 g0 =>
  cases g0
  obtain rfl:=a0.lit_inv
  obtain rfl:=a1.lit_inv
  obtain rfl:=a2.lit_inv
  obtain ⟨b0,r0,m0,s0,c0,rfl,e0⟩:=a3.sl_inv
  obtain ⟨b1,r1,m1,s1,c1,rfl,e1⟩:=h1.sl_inv
  exact Zea (n0:=⟨2,0,1,[⟨0,1,7⟩]⟩) (f1:=[7]) w (hw.rs (g:=fun a:Arc=>[a.fr,a.to,a.cap]) (k:=.i64) rfl s0 (fun _=>rfl) rfl c0) (hw.rs (g:=fun x:Int=>[x]) (k:=.i64) rfl s1 (fun _=>rfl) rfl c1) (r0:=[0,1]) (r1:=true) (by decide +kernel)
def Zcd:List (FuncId×Vx.XK):=(173,.deep [.agg [.int .i64 (.lit 2),.int .i64 (.lit 0),.int .i64 (.lit 1),.sl 0 0 1 (.rest 0)],.sl 1 0 1 (.rest 0)]
  [some ([.int .i64 (.lit 0),.int .i64 (.lit 1),.int .i64 (.lit 7)],64,true),
   some ([.int .i64 (.lit 7)],2,true)]
  (.tup [.sl 2 0 2 (.rest 0),.bool (.lit true)])
  [some ([.int .i64 (.lit 0),.int .i64 (.lit 1),.int .i64 (.lit 7)],64,true),
   some ([.int .i64 (.lit 7)],2,true),
   some ([.int .i64 (.lit 0),.int .i64 (.lit 1)],3,true)])::Z9t
theorem Zfn:Vx.XsOk Tryz.prog Zcd:=⟨ordX,Zi4⟩
theorem Zed:Vx.okD0 Tryz.prog Zcd 1000 48 [.agg [.int .i64 (.lit 2),.int .i64 (.lit 0),.int .i64 (.lit 1),.sl 0 0 1 (.rest 0)],.agg [.int .i64 (.lit 2),.int .i64 (.lit 5),.emp 1]]
  [some ([.int .i64 (.lit 0),.int .i64 (.lit 1),.int .i64 (.lit 7)],64,true),
   none]
  (.tup [.agg [.sl 2 0 1 (.rest 0),.sl 3 0 2 (.lit 2),.int .i64 (.lit 7)],.agg [.int .i64 (.lit 0),.int .i64 (.lit 0),.int .i64 (.lit 0),.int .i64 (.lit 0),.int .i64 (.lit 0),.int .i64 (.lit 0)],.int .i64 (.lit 0)])
  [some ([.int .i64 (.lit 0),.int .i64 (.lit 1),.int .i64 (.lit 7)],64,true),
   none,
   some ([.int .i64 (.lit 7)],2,true),
   some ([.bool (.lit true),.bool (.lit false)],4,false)]=true:=by kernel_rfl
theorem Zfq (w:World){n0:Net}{p1:Plan}{a2:Option Nat}{m0 c0:Nat}{j0:List Value}{bp:Option Addr}{np cp:Nat}(hin:Inv w (([(eA a2 Zx n0.Arcs j0 64)]:Heap).filterMap Prod.fst) w [(eA a2 Zx n0.Arcs j0 64)])(b8:n0.Arcs.length=m0)(c4:m0≤c0)(c7:j0.length=(c0-m0)*3)(d0:a2=none→c0=0)(hp:RS w (([(eA a2 Zx n0.Arcs j0 64)]:Heap).filterMap Prod.fst) iC 1 bp np cp p1.Picks){r0:Answer}{r1:Report}{r2:Int}(H:Z6j n0 p1=some (r0,r1,r2)):Fnc Tryz.prog 48 #[.agg #[iV n0.N,iV n0.S,iV n0.T,sV a2 m0 c0],.agg #[iV p1.Workers,iV p1.Limit,.slice bp np cp]] w (([(eA a2 Zx n0.Arcs j0 64)]:Heap).filterMap Prod.fst) (fun v N=>∃ (a9:List Value) (a3:Option Nat) (a5 a6:Nat) (b6:List Value) (a4:Option Nat) (a7 a8:Nat) (b7:List Value),v=.tuple #[.agg #[sV a3 a5 a6,sV a4 a7 a8,iV r0.Value],.agg #[iV r1.Phases,iV r1.Steps,iV r1.Pushes,iV r1.Lifts,iV r1.Repairs,iV r1.Alone],iV r2]∧N=[(eA a2 Zx n0.Arcs a9 64),(eI a3 r0.Flow b6 2),(eA a4 boolC r0.Side b7 4)]∧a9.length=(c0-m0)*3∧r0.Flow.length=a5∧a5≤a6∧b6.length=(a6-a5)*1∧(a3=none→a6=0)∧r0.Side.length=a7∧a7≤a8∧b7.length=(a8-a7)*1∧(a4=none→a8=0)):=by
 unfold Z6j at H;obtain ⟨⟨rfl,rfl⟩,H⟩:=Ya H;injection H with H;injection H with H1 H;injection H with H2 H3;subst H1;subst H2;subst H3;exact Vx.solve_known Vl We (Vx.deep_of0 Xx Zfn Zed) w rfl hin b8 c4 c7 d0 hp
end Go.Proofs.YtddknfpolkkbjaaGreatDoor.Ax
