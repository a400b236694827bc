/- Texts of this claim, one behind the other. -/
import Derived.Test.YtddknfpolkkbjaaGreatDoorA3
import Derived.Scope
import Derived.KernelRfl
import Derived.Test.YtddknfpolkkbjaaGreatDoorA1
import Derived.Test.YtddknfpolkkbjaaGreatDoorA2
import Derived.Test.YtddknfpolkkbjaaGreatDoorChecked
set_option linter.unusedVariables false
set_option linter.unusedSimpArgs false
noncomputable section
namespace Go.Acq.Vx
open Go Go.Acq Go.RowKit
section draw
variable {P : Program} {vr : Nat → Int} {X : List (FuncId × XK)} {σ : Nm} {ρ : Option Nat} {w0 w : World} {M B : List Nat} {n : Nat} {ih : IH} {ops : Array Oper} {A : List Nat} {base : Nat} {E E2 : En} {s s2 : St} {a : Act}
structure Tr (P:Program)(X:List (FuncId×XK))(ih:IH)(n:Nat)(ops:Array Oper)(A:List Nat)(base:Nat)(Es:Nat→En)(Ss Tk:Nat→St)(vs:Nat→SV)(cs:Nat→AO):Prop where
  step:∀ (j:Nat) (o:Oper),j<ops.size→ops[j]?=some o→StepD P X ih n ops A base j o (restr (Es j) (readsO ops o)) (Ss j) (vs j) (Ss (j+1))∧Es (j+1)=putE (Es j) o.dst (vs j)
  zero:Tk 0=Ss 0
  tk:∀ j,j<ops.size→truB ops j=true→Tk (rkT ops (j+1))=Ss (j+1)
  cs:∀ q,cs q=orGone ((Ss (q+1)).heap.get (base+q))
section tr
variable {Es : Nat → En} {Ss Tk : Nat → St} {vs : Nat → SV} {cs : Nat → AO} (H : Tr P X ih n ops A base Es Ss Tk vs cs)
include H
theorem Tr.oper {j:Nat}(hj:j<ops.size):∃ o,ops[j]?=some o∧truB ops j=isTrue o.op∧fresB ops j=isFresh o.op∧StepD P X ih n ops A base j o (restr (Es j) (readsO ops o)) (Ss j) (vs j) (Ss (j+1)):=by
 have ho:ops[j]?=some ops[j]:=Array.getElem?_eq_getElem hj
 exact ⟨_,ho,by unfold truB;rw [ho],by unfold fresB;rw [ho],(H.step j _ hj ho).1⟩
omit H in
theorem Tr.rk {j:Nat}(hj:j<ops.size)(ht:truB ops j=false):rkT ops (j+1)=rkT ops j:=by rw [rkT_succ,ht];simp
theorem Tr.out:∀ {j:Nat},j≤ops.size→(∀ x,(x<base∨base+ops.size≤x)→(Ss j).heap.get x=(Tk (rkT ops j)).heap.get x)∧(Ss j).next=(Tk (rkT ops j)).next
 | 0,_=>by
  have:rkT ops 0=0:=rfl
  rw [this,H.zero];exact ⟨fun _ _=>rfl,rfl⟩
 | j+1,hj=>by
  obtain ⟨ih1,ih2⟩:=Tr.out (j:=j) (by omega)
  obtain ⟨o,ho,h1,h2,h3⟩:=H.oper (show j<ops.size by omega)
  cases ht:truB ops j with
  | true=>rw [H.tk j (by omega) ht];exact ⟨fun _ _=>rfl,rfl⟩
  | false =>
   rw [Tr.rk (by omega) ht]
   have hset:∀ q,Ss (j+1)=(Ss j).set (base+j) q→(∀ x,(x<base∨base+ops.size≤x)→(Ss (j+1)).heap.get x=(Tk (rkT ops j)).heap.get x)∧(Ss (j+1)).next=(Tk (rkT ops j)).next:=fun q e=>by
    rw [e]
    refine ⟨fun x hx=>?_,ih2⟩
    show ((Ss j).heap.set (base+j) q).get x=_
    rw [Tri.get_set,if_neg (by omega)];exact ih1 x hx
   cases h3 with
   | made _ _ _ _ _ _ hs=>exact hset _ hs
   | unmade _ _ _ _ hs=>exact hset _ hs
   | eff hf he _ _ _=>rw [h1] at ht;simp [isTrue,hf,he] at ht
   | quiet _ _ _ _ hs=>rw [hs];exact ⟨ih1,ih2⟩
def Tr.cur (_:Tr P X ih n ops A base Es Ss Tk vs cs)(k q:Nat):Option AO:=if rkT ops q<k then (Tk k).heap.get (base+q) else some (cs q)
theorem Tr.made_get {q:Nat}(hq:q<ops.size)(hf:fresB ops q=true):(Ss (q+1)).heap.get (base+q)=some (cs q):=by
 obtain ⟨o,ho,h1,h2,h3⟩:=H.oper hq
 rw [h2] at hf
 have key:∀ c,Ss (q+1)=(Ss q).set (base+q) c→(Ss (q+1)).heap.get (base+q)=some (cs q):=fun c e=>by
  have:(Ss (q+1)).heap.get (base+q)=some c:=by
   rw [e];show ((Ss q).heap.set (base+q) c).get (base+q)=_;rw [Tri.get_set,if_pos rfl]
  rw [H.cs,this];rfl
 cases h3 with
 | made _ _ _ _ _ _ hs=>exact key _ hs
 | unmade _ _ _ _ hs=>exact key _ hs
 | eff hf' _ _ _ _=>rw [hf] at hf';cases hf'
 | quiet hf' _ _ _ _=>rw [hf] at hf';cases hf'
theorem Tr.fresh_true {q:Nat}(hq:q<ops.size)(hf:fresB ops q=true):truB ops q=false:=by
 obtain ⟨o,ho,h1,h2,h3⟩:=H.oper hq
 rw [h1];rw [h2] at hf;simp [isTrue,hf]
theorem Tr.curs:∀ {j:Nat},j≤ops.size→∀ q,q<j→fresB ops q=true→(Ss j).heap.get (base+q)=H.cur (rkT ops j) q
 | 0,_,q,hq,_=>by omega
 | j+1,hj,q,hq,hf=>by
  obtain ⟨o,ho,h1,h2,h3⟩:=H.oper (show j<ops.size by omega)
  cases ht:truB ops j with
  | true =>
   have hle:rkT ops q≤rkT ops j:=rkT_le (by omega)
   have hs:rkT ops (j+1)=rkT ops j+1:=by rw [rkT_succ,ht,if_pos rfl]
   unfold Tr.cur
   rw [if_pos (by omega),H.tk j (by omega) ht]
  | false =>
   rw [Tr.rk (by omega) ht]
   by_cases e:q=j
   ·
    subst e
    rw [H.made_get (by omega) hf]
    unfold Tr.cur;rw [if_neg (by omega)]
   ·
    have ihq:=Tr.curs (j:=j) (by omega) q (by omega) hf
    have key:∀ c,Ss (j+1)=(Ss j).set (base+j) c→(Ss (j+1)).heap.get (base+q)=H.cur (rkT ops j) q:=fun c e'=>by
     rw [e'];show ((Ss j).heap.set (base+j) c).get (base+q)=_;rw [Tri.get_set,if_neg (by omega)];exact ihq
    cases h3 with
    | made _ _ _ _ _ _ hs=>exact key _ hs
    | unmade _ _ _ _ hs=>exact key _ hs
    | eff hf he _ _ _=>rw [h1] at ht;simp [isTrue,hf,he] at ht
    | quiet _ _ _ _ hs=>rw [hs];exact ihq
theorem Tr.kept:∀ {j:Nat},j≤ops.size→∀ q,q<j→fresB ops q=true→(∀ e,q<e→e<j→truB ops e=true→ancB A e q=false)→(Ss j).heap.get (base+q)=some (cs q)
 | 0,_,q,hq,_,_=>by omega
 | j+1,hj,q,hq,hf,hno=>by
  by_cases e:q=j
  ·subst e;exact H.made_get (by omega) hf
  ·
   have ihq:=Tr.kept (j:=j) (by omega) q (by omega) hf (fun e h1 h2=>hno e h1 (by omega))
   obtain ⟨o,ho,h1,h2,h3⟩:=H.oper (show j<ops.size by omega)
   have key:∀ c,Ss (j+1)=(Ss j).set (base+j) c→(Ss (j+1)).heap.get (base+q)=some (cs q):=fun c e'=>by
    rw [e'];show ((Ss j).heap.set (base+j) c).get (base+q)=_;rw [Tri.get_set,if_neg (by omega)];exact ihq
   cases h3 with
   | made _ _ _ _ _ _ hs=>exact key _ hs
   | unmade _ _ _ _ hs=>exact key _ hs
   | eff hf' he s1 _ hs =>
    have ht:truB ops j=true:=by rw [h1];simp [isTrue,hf',he]
    have hn:=hno j (by omega) (by omega) ht
    rw [hs]
    show (showH base (Ss j).heap s1.heap (hidL ops A j)).get (base+q)=_
    have hm:q∈hidL ops A j:=mem_hidL.2 ⟨by omega,hf,hn⟩
    rw [showH_get,if_pos ⟨q,hm,rfl⟩,ihq];rfl
   | quiet _ _ _ _ hs=>rw [hs];exact ihq
theorem Tr.kept' {q k:Nat}(hq:q<ops.size)(hf:fresB ops q=true)(hk:k≤rkT ops ops.size)(hno:∀ e,e<ops.size→truB ops e=true→rkT ops e<k→ancB A e q=false):H.cur k q=some (cs q):=by
 unfold Tr.cur
 split
 ·
  rename_i hlt
  obtain ⟨e,h1,h2,h3⟩:=rk_find (ops:=ops) (j:=ops.size) (k:=k - 1) (by omega)
  have hs:rkT ops (e+1)=rkT ops e+1:=by rw [rkT_succ,h2,if_pos rfl]
  have hke:k=rkT ops (e+1):=by omega
  rw [hke,H.tk e h1 h2]
  have hqe:q<e+1:=by
   rcases Nat.lt_or_ge q (e+1) with h | h
   ·exact h
   ·have:=rkT_le (ops:=ops) h;omega
  refine H.kept (by omega) q hqe hf fun e' h4 h5 h6=>hno e' (by omega) h6 ?_
  have:rkT ops (e'+1)≤rkT ops (e+1):=rkT_le (by omega)
  have hs':rkT ops (e'+1)=rkT ops e'+1:=by rw [rkT_succ,h6,if_pos rfl]
  omega
 ·rfl
end tr
def BD (ops:Array Oper)(cs:Nat→AO)(base:Nat)(B:List Nat)(done:Nat→Bool):List Nat:=B++((List.range ops.size).filter fun q=>!(fresB ops q&&(cs q).live&&done q)).map (base+·)
theorem mem_BD {cs:Nat→AO}{done:Nat→Bool}{x:Nat}:x∈BD ops cs base B done↔x∈B∨∃ q,q<ops.size∧(fresB ops q&&(cs q).live&&done q)=false∧base+q=x:=by
 unfold BD
 rw [List.mem_append]
 constructor
 ·
  rintro (h | h)
  ·exact .inl h
  ·
   obtain ⟨q,h1,h2⟩:=List.mem_map.1 h
   obtain ⟨h3,h4⟩:=List.mem_filter.1 h1
   exact .inr ⟨q,List.mem_range.1 h3,(by generalize (fresB ops q&&(cs q).live&&done q)=b at h4 ⊢;cases b with | false=>rfl | true=>cases h4),h2⟩
 ·
  rintro (h | ⟨q,h1,h2,h3⟩)
  ·exact .inl h
  ·exact .inr (List.mem_map.2 ⟨q,List.mem_filter.2 ⟨List.mem_range.2 h1,by rw [h2];rfl⟩,h3⟩)
structure JW (P:Program)(vr:Nat→Int)(σ:Nm)(w0:World)(M B:List Nat)(ops:Array Oper)(base:Nat)(Tk:Nat→St)(cs:Nat→AO)(cur:Nat→Nat→Option AO)(ms:List Nat)(done:Nat→Bool)(sD:St)(w:World):Prop where
  wr:WR P vr σ w0 M (BD ops cs base B done) sD w
  next:sD.next=(Tk (cntT ops done)).next
  ms:sD.ms=ms
  out:∀ x,(x<base∨base+ops.size≤x)→sD.heap.get x=(Tk (cntT ops done)).heap.get x
  fr:∀ q,q<ops.size→fresB ops q=true→done q=true→sD.heap.get (base+q)=cur (cntT ops done) q
  nm:∀ q,q<ops.size→fresB ops q=true→done q=true→(cs q).live=true→(σ (base+q)).isSome=true
section jw
variable {Es : Nat → En} {Ss Tk : Nat → St} {vs : Nat → SV} {cs : Nat → AO} (H : Tr P X ih n ops (ancs ops.toList []) base Es Ss Tk vs cs) (hD : DOk ops (ancs ops.toList [])) {done : Nat → Bool} {i : Nat} {ms : List Nat} {sD : St}
theorem BD_eq {done':Nat→Bool}(h:∀ q,q<ops.size→(fresB ops q&&(cs q).live&&done' q)=(fresB ops q&&(cs q).live&&done q)):BD ops cs base B done'=BD ops cs base B done:=by
 unfold BD
 congr 2
 apply List.filter_congr
 intro q hq
 rw [h q (List.mem_range.1 hq)]
include H hD
theorem jw_eff (hc:Uu ops done)(hi:i<ops.size)(he:truB ops i=true)(hdi:done i=false)(hdeps:∀ (o:Oper),ops[i]?=some o→∀ e,e∈o.after→Region.binds .any e=true→done e.on=true)
    (hJ:JW P vr σ w0 M B ops base Tk cs H.cur ms done sD w){s1:St}(hs:Ss (i+1)=⟨showH base (Ss i).heap s1.heap (hidL ops (ancs ops.toList []) i),s1.next,s1.ms⟩) :
    ∃ M',WR P vr σ w M' (BD ops cs base B done) ⟨hideH base (Ss i).heap (hidL ops (ancs ops.toList []) i),(Ss i).next,(Ss i).ms⟩ w ∧
      ∀ σ' w',σ.le σ'→WR P vr σ' w M' (BD ops cs base B done) s1 w'→∃ sD',JW P vr σ' w0 M B ops base Tk cs H.cur ms (fun m=>if m=i then true else done m) sD' w':=by
  obtain ⟨c1,c2⟩:=cntT_eff hD hc hi he hdi hdeps
  obtain ⟨o1,o2⟩:=H.out (Nat.le_of_lt hi)
  have hanc:∀ q,ancB (ancs ops.toList []) i q=true→done q=true:=fun q h=>anc_done hD.back hc (i+1) i q (Nat.lt_succ_self i) h hdeps
  have hmemH:∀ q,q∈hidL ops (ancs ops.toList []) i↔q<ops.size∧fresB ops q=true∧ancB (ancs ops.toList []) i q=false:=fun q=>mem_hidL
  have hfi:fresB ops i=false:=by
    cases hf:fresB ops i with
    | false=>rfl
    | true=>have:=H.fresh_true hi hf;rw [he] at this;cases this
  have hname:∀ x,(x<base∨base+ops.size≤x)∨∃ q,q<ops.size∧x=base+q:=fun x=>by
    by_cases h:x<base∨base+ops.size≤x
    ·exact .inl h
    ·exact .inr ⟨x-base,by omega,by omega⟩
  have hlive:∀ {σ1:Nm} {t:St} {w1 w2:World} {M1:List Nat},WR P vr σ1 w1 M1 (BD ops cs base B done) t w2→∀ q p,q<ops.size→σ1 (base+q)=some p→fresB ops q=true∧(cs q).live=true∧done q=true:=fun hw q p hq hσ=>by
    cases hb:(fresB ops q&&(cs q).live&&done q) with
    | true=>simp only [Bool.and_eq_true] at hb;exact ⟨hb.1.1,hb.1.2,hb.2⟩
    | false =>
      have:=(hw.back (base+q) (mem_BD.2 (.inr ⟨q,hq,hb,rfl⟩))).2
      rw [hσ] at this;cases this
  obtain ⟨M',m1,m2⟩:=hJ.wr.loc (sh:=⟨hideH base (Ss i).heap (hidL ops (ancs ops.toList []) i),(Ss i).next,(Ss i).ms⟩) (by rw [hJ.next,c1];exact o2) (fun x p hσ=>by
    show dead ((hideH base (Ss i).heap (hidL ops (ancs ops.toList []) i)).get x)∨(hideH base (Ss i).heap (hidL ops (ancs ops.toList []) i)).get x=sD.heap.get x
    rw [hideH_get]
    split
    ·exact .inl dead_gone
    · rename_i hnh
      refine .inr ?_
      rcases hname x with hx | ⟨q,hq,rfl⟩
      ·rw [hJ.out x hx,c1];exact o1 x hx
      · obtain ⟨l1, l2, l3⟩ := hlive hJ.wr q p hq hσ
        have hq1:ancB (ancs ops.toList []) i q=true:=by
          cases hb:ancB (ancs ops.toList []) i q with
          | true=>rfl
          | false=>exact absurd ⟨q,(hmemH q).2 ⟨hq,l1,hb⟩,rfl⟩ hnh
        rw [hJ.fr q hq l1 l3,c1]
        exact H.curs (Nat.le_of_lt hi) q (anc_lt hD.back hq1) l1)
  refine ⟨M',m1,fun σ' w' hσ g=>?_⟩
  have hbd:BD ops cs base B (fun m=>if m=i then true else done m)=BD ops cs base B done:=BD_eq fun q hq=>by
    by_cases e:q=i
    ·subst e;rw [hfi];rfl
    ·simp [e]
  have hdone:∀ q,fresB ops q=true→(fun m=>if m=i then true else done m) q=true→done q=true:=fun q hf hd=>by
    have hne:q≠i:=fun e=>by rw [e,hfi] at hf;cases hf
    simpa [hne] using hd
  have hrk1:rkT ops (i+1)=rkT ops i+1:=by rw [rkT_succ,he,if_pos rfl]
  let h0:=hideH base sD.heap ((hidL ops (ancs ops.toList []) i).filter fun q=>!(done q))
  let sD':St:=⟨showH base h0 s1.heap (hidL ops (ancs ops.toList []) i),s1.next,ms⟩
  have h0get:∀ q,q∈hidL ops (ancs ops.toList []) i→h0.get (base+q)=if done q=true then sD.heap.get (base+q) else some .gone:=fun q hq=>by
    show (hideH base sD.heap _).get (base+q)=_
    rw [hideH_get]
    cases hd:done q with
    | true =>
      rw [if_pos rfl,if_neg]
      rintro ⟨q',h1,h2⟩
      have:q'=q:=by omega
      subst this
      have:=(List.mem_filter.1 h1).2
      rw [hd] at this;cases this
    | false =>
      rw [if_pos ⟨q,List.mem_filter.2 ⟨hq,by rw [hd];rfl⟩,rfl⟩];simp
  have hgetH:∀ q,q∈hidL ops (ancs ops.toList []) i→sD'.heap.get (base+q)=some (orGone (if done q=true then sD.heap.get (base+q) else some .gone)):=fun q hq=>by
    show (showH base h0 s1.heap _).get (base+q)=_
    rw [showH_get,if_pos ⟨q,hq,rfl⟩,h0get q hq]
  have hgetO:∀ x,(¬∃ q,q∈hidL ops (ancs ops.toList []) i∧base+q=x)→sD'.heap.get x=s1.heap.get x:=fun x hx=>by
    show (showH base h0 s1.heap _).get x=_
    rw [showH_get,if_neg hx]
  have hSs:∀ x,(Ss (i+1)).heap.get x=if ∃ q,q∈hidL ops (ancs ops.toList []) i∧base+q=x then some (orGone ((Ss i).heap.get x)) else s1.heap.get x:=fun x=>by
    rw [hs];exact showH_get
  refine ⟨sD',?_,?_,rfl,fun x hx=>?_,fun q hq hf hd=>?_,fun q hq hf hd hl=>?_⟩
  · rw [hbd]
    refine hJ.wr.frame m2 g hσ rfl fun x p hσ'=>?_
    by_cases hx:∃ q,q∈hidL ops (ancs ops.toList []) i∧base+q=x
    · obtain ⟨q, hq, rfl⟩ := hx
      obtain ⟨q1,q2,q3⟩:=(hmemH q).1 hq
      rw [hgetH q hq]
      cases hd:done q with
      | false=>rw [if_neg (by simp)];exact .inl dead_gone
      | true =>
        rw [if_pos rfl]
        cases hg:sD.heap.get (base+q) with
        | none=>exact .inl dead_gone
        | some c =>
          refine .inr (.inr ⟨rfl,?_,?_⟩)
          · show dead ((hideH base (Ss i).heap _).get (base + q))
            rw [hideH_get,if_pos ⟨q,hq,rfl⟩];exact dead_gone
          · have hl := (hlive g q p q1 hσ').2.1
            exact hJ.nm q q1 q2 hd hl
    ·exact .inr (.inl (hgetO x hx))
  · show s1.next = _
    rw [c2,H.tk i hi he,hs]
  ·rw [hgetO x (by rintro ⟨q,hq,e⟩;have:=(hmemH q).1 hq;omega),c2,H.tk i hi he,hSs,if_neg (by rintro ⟨q,hq,e⟩;have:=(hmemH q).1 hq;omega)]
  · have hdq := hdone q hf hd
    have hcur1:q<i→H.cur (rkT ops (i+1)) q=(Ss (i+1)).heap.get (base+q):=fun hlt=>by
      have:rkT ops q≤rkT ops i:=rkT_le (by omega)
      unfold Tr.cur;rw [if_pos (by omega),H.tk i hi he]
    rw [c2]
    by_cases hh:q∈hidL ops (ancs ops.toList []) i
    · rw [hgetH q hh, if_pos hdq, hJ.fr q hq hf hdq, c1]
      by_cases hlt:q<i
      ·rw [hcur1 hlt,hSs,if_pos ⟨q,hh,rfl⟩,H.curs (Nat.le_of_lt hi) q hlt hf]
      · have hne : q ≠ i := fun e => by rw [e, hfi] at hf; cases hf
        have:rkT ops (i+1)≤rkT ops q:=rkT_le (by omega)
        unfold Tr.cur
        rw [if_neg (by omega),if_neg (by omega)];rfl
    · have hq1 : ancB (ancs ops.toList []) i q = true := by
        cases hb:ancB (ancs ops.toList []) i q with
        | true=>rfl
        | false=>exact absurd ((hmemH q).2 ⟨hq,hf,hb⟩) hh
      have hno:¬∃ q',q'∈hidL ops (ancs ops.toList []) i∧base+q'=base+q:=by
        rintro ⟨q',h1,h2⟩
        have:q'=q:=by omega
        subst this;exact hh h1
      rw [hgetO _ hno,hcur1 (anc_lt hD.back hq1),hSs,if_neg hno]
  · have := hJ.nm q hq hf (hdone q hf hd) hl
    cases hq':σ (base+q) with
    | none=>rw [hq'] at this;cases this
    | some p=>rw [hσ _ _ hq'];rfl
theorem jw_made (hc:Uu ops done)(hi:i<ops.size)(hf:fresB ops i=true)(hdi:done i=false)(hJ:JW P vr σ w0 M B ops base Tk cs H.cur ms done sD w)(hl:(cs i).live=true){ob:Obj}(hB:∀ x,x∈B→x<base)
    (hor:OR P vr (σ.put (base+i) w.heap.size 0) 0 (cs i) ob):JW P vr (σ.put (base+i) w.heap.size 0) w0 M B ops base Tk cs H.cur ms (fun m=>if m=i then true else done m) (sD.set (base+i) (cs i)) (w.alloc ob):=by
  have hcnt:=cntT_quiet (done:=done) (H.fresh_true hi hf)
  have hget:∀ x,(sD.set (base+i) (cs i)).heap.get x=if base+i=x then some (cs i) else sD.heap.get x:=fun x=>Tri.get_set ..
  obtain ⟨hlt,h0⟩:=hJ.wr.back (base+i) (mem_BD.2 (.inr ⟨i,hi,by rw [hdi];simp,rfl⟩))
  refine ⟨hJ.wr.allocAt hl hlt h0 (fun x hx=>?_) hor,by rw [hcnt];exact hJ.next,hJ.ms,fun x hx=>?_,fun q hq hfq hd=>?_,fun q hq hfq hd hlq=>?_⟩
  · rcases mem_BD.1 hx with h | ⟨q, h1, h2, rfl⟩
    ·exact ⟨mem_BD.2 (.inl h),by have:=hB x h;omega⟩
    · have hne : q ≠ i := fun e => by subst e; rw [hf, hl] at h2; simp at h2
      refine ⟨mem_BD.2 (.inr ⟨q,h1,?_,rfl⟩),by omega⟩
      simpa [hne] using h2
  ·rw [hget,if_neg (by omega),hcnt];exact hJ.out x hx
  · rw [hget, hcnt]
    by_cases e:q=i
    · subst e
      rw [if_pos rfl]
      refine (H.kept' hq hfq cntT_le fun e h1 h2 h3=>?_).symm
      cases hb:ancB (ancs ops.toList []) e q with
      | false=>rfl
      | true =>
        have:=anc_done' hD.back hc (eff_done hD hc h1 h2 h3) hb
        rw [hdi] at this;cases this
    ·rw [if_neg (by omega)];exact hJ.fr q hq hfq (by simpa [e] using hd)
  · by_cases e : q = i
    ·subst e;rw [Nm.put_same];rfl
    · have := hJ.nm q hq hfq (by simpa [e] using hd) hlq
      unfold Nm.put;rw [if_neg (by omega)];exact this
theorem jw_unmade (hc:Uu ops done)(hi:i<ops.size)(hf:fresB ops i=true)(hdi:done i=false)(hJ:JW P vr σ w0 M B ops base Tk cs H.cur ms done sD w)(hg:cs i=.gone) :
    JW P vr σ w0 M B ops base Tk cs H.cur ms (fun m=>if m=i then true else done m) (sD.set (base+i) .gone) w:=by
  have hcnt:=cntT_quiet (done:=done) (H.fresh_true hi hf)
  have hget:∀ x,(sD.set (base+i) .gone).heap.get x=if base+i=x then some .gone else sD.heap.get x:=fun x=>Tri.get_set ..
  have hbd:BD ops cs base B (fun m=>if m=i then true else done m)=BD ops cs base B done:=BD_eq fun q hq=>by
    by_cases e:q=i
    ·subst e;rw [hg,hf];simp [AO.live]
    ·simp [e]
  refine ⟨?_,by rw [hcnt];exact hJ.next,hJ.ms,fun x hx=>?_,fun q hq hfq hd=>?_,fun q hq hfq hd hlq=>?_⟩
  · rw [hbd]
    refine hJ.wr.ext rfl (fun x hx=>hx) fun x p hσ=>?_
    rw [hget]
    split
    ·exact .inl dead_gone
    ·exact .inr rfl
  ·rw [hget,if_neg (by omega),hcnt];exact hJ.out x hx
  · rw [hget, hcnt]
    by_cases e:q=i
    · subst e
      rw [if_pos rfl,←hg]
      refine (H.kept' hq hfq cntT_le fun e h1 h2 h3=>?_).symm
      cases hb:ancB (ancs ops.toList []) e q with
      | false=>rfl
      | true =>
        have:=anc_done' hD.back hc (eff_done hD hc h1 h2 h3) hb
        rw [hdi] at this;cases this
    ·rw [if_neg (by omega)];exact hJ.fr q hq hfq (by simpa [e] using hd)
  · have e : q ≠ i := fun e => by subst e; rw [hg] at hlq; cases hlq
    exact hJ.nm q hq hfq (by simpa [e] using hd) hlq
omit hD in
theorem jw_quiet (hi:i<ops.size)(hf:fresB ops i=false)(ht:truB ops i=false)(hJ:JW P vr σ w0 M B ops base Tk cs H.cur ms done sD w):JW P vr σ w0 M B ops base Tk cs H.cur ms (fun m=>if m=i then true else done m) sD w:=by
 have hcnt:=cntT_quiet (done:=done) ht
 have hbd:BD ops cs base B (fun m=>if m=i then true else done m)=BD ops cs base B done:=BD_eq fun q hq=>by
  by_cases e:q=i
  ·subst e;rw [hf];rfl
  ·simp [e]
 have hne:∀ q,fresB ops q=true→q≠i:=fun q hq e=>by rw [e,hf] at hq;cases hq
 exact ⟨by rw [hbd];exact hJ.wr,by rw [hcnt];exact hJ.next,hJ.ms,fun x hx=>by rw [hcnt];exact hJ.out x hx,fun q hq hfq hd=>by rw [hcnt];exact hJ.fr q hq hfq (by simpa [hne q hfq] using hd),fun q hq hfq hd hlq=>hJ.nm q hq hfq (by simpa [hne q hfq] using hd) hlq⟩
end jw
end draw
end Go.Acq.Vx
noncomputable section
namespace Go.Acq.Vx
open Go Go.Acq Go.RowKit
section draw
variable {P : Program} {vr : Nat → Int} {X : List (FuncId × XK)} {σ : Nm} {ρ : Option Nat} {w0 w : World} {M B : List Nat} {n : Nat} {ih : IH} {ops : Array Oper} {E E2 : En} {s s2 : St} {a : Act}
theorem looks_of {o:Op}{x:Nat}(h:blockOf E o=some x):looks o=true:=by cases o <;> first | rfl | (simp [blockOf] at h)
theorem runDraw_ok (hm:P.follows .mixedOrders=true)(hX:XsOk P X)(hF:SndF P vr ih)(hC:SndC P vr ih){id:Nat}{Q:Exit→Act→World→Prop}(hf:FA vr σ n E s.ms a)(hw:WR P vr σ w0 M B s w)(h:runDraw P X ih n ops E s=some (E2,s2))
    (hQ:∀ σ' a' w',σ.le σ'→FA vr σ' n E2 s2.ms a'→WR P vr σ' w0 M B s2 w'→Q .normal a' w'):(Code.region id ops true).wpIn (FW ρ) 0 P Q a w:=by
  unfold runDraw runDrawA at h
  rw [cond_eq_ite] at h
  split at h
  case isFalse=>cases h
  rename_i hdok
  have hD:=drawOk_ok hdok
  split at h
  case h_2=>cases h
  rename_i E3 s3 ss qs hrun
  rw [cond_eq_ite] at h
  split at h
  case isFalse=>cases h
  rename_i hqs
  injection h with h;injection h with e1 e2;subst e1;subst e2
  obtain ⟨Es,Ss,vs,g1,g2,g3,g4,g5,g6⟩:=runDs_trace (by simp) hrun
  rw [Nat.zero_add,Array.length_toList] at g3 g4
  simp only [Nat.zero_add,Array.length_toList] at g5 g6
  have hrk0:rkT ops 0=0:=rfl
  simp only [hrk0,Nat.sub_zero] at g6
  obtain ⟨Tk,hTk⟩:∃ Tk:Nat→St,∀ k,Tk k=((⟨s.heap,s.next+ops.size,s.ms⟩:St)::ss)[k]?.getD ⟨s.heap,s.next+ops.size,s.ms⟩:=⟨_,fun _=>rfl⟩
  let H:Tr P X ih n ops (ancs ops.toList []) s.next Es Ss Tk vs (fun q=>orGone ((Ss (q+1)).heap.get (s.next+q))) :=
    ⟨fun j o hj ho=>⟨(g5 j o (by omega) hj ho).1,(g5 j o (by omega) hj ho).2.1⟩,by rw [hTk,g2];rfl,fun j hj ht=>by rw [hTk,g6 j (by omega) hj ht];rfl,fun q=>rfl⟩
  have hlist:∀ k,k≤rkT ops ops.size→((⟨s.heap,s.next+ops.size,s.ms⟩:St)::ss)[k]?=some (Tk k):=by
    intro k hk
    by_cases h0:k=0
    ·subst h0;rw [hTk];rfl
    · obtain ⟨e, h1, h2, h3⟩ := rk_find (ops := ops) (j := ops.size) (k := k - 1) (by omega)
      have hs:rkT ops (e+1)=rkT ops e+1:=by rw [rkT_succ,h2,if_pos rfl]
      have:=g6 e (by omega) h1 h2
      rw [show rkT ops (e+1)=k by omega] at this
      rw [hTk,this];rfl
  have hEnot:∀ t i,(∀ (j:Nat) (o:Oper),ops[j]?=some o→o.dst=some t→i≤j)→i≤ops.size→fnd t (Es i)=fnd t E:=by
    intro t i
    induction i with
    | zero=>intro _ _;rw [g1]
    | succ i ihh =>
      intro ht hi
      have ihh:=ihh fun j o h1 h2=>by have:=ht j o h1 h2;omega
      have hlt:i<ops.size:=by omega
      have ho:ops[i]?=some ops[i]:=Array.getElem?_eq_getElem hlt
      obtain ⟨_,k2,_⟩:=g5 i _ (by omega) hlt ho
      rw [k2]
      cases hd:ops[i].dst with
      | none=>exact ihh (by omega)
      | some d =>
        show fnd t ((d,vs i)::Es i)=_
        rw [fnd_cons,if_neg (fun e=>by have:=ht i _ ho (by rw [hd,e]);omega)]
        exact ihh (by omega)
  have hEdst:∀ (j:Nat) (o:Oper) (t:Nat),ops[j]?=some o→o.dst=some t→∀ i,j<i→i≤ops.size→fnd t (Es i)=some (vs j):=by
    intro j o t hoj hdj i
    induction i with
    | zero=>intro h;omega
    | succ i ihh =>
      intro hji hi
      have hlt:i<ops.size:=by omega
      have ho:ops[i]?=some ops[i]:=Array.getElem?_eq_getElem hlt
      obtain ⟨_,k2,_⟩:=g5 i _ (by omega) hlt ho
      rw [k2]
      by_cases e:j=i
      · subst e
        rw [ho] at hoj;injection hoj with hoj
        rw [hoj,hdj]
        show fnd t ((t,vs j)::Es j)=_
        rw [fnd_cons,if_pos rfl]
      · cases hd : ops[i].dst with
        | none=>exact ihh (by omega) (by omega)
        | some d =>
          show fnd t ((d,vs i)::Es i)=_
          rw [fnd_cons,if_neg (fun e'=>e (hD.uniq j i o _ t hoj ho hdj (by rw [hd,e'])))]
          exact ihh (by omega) (by omega)
  have hms:∀ i,i≤ops.size→(Ss i).ms=s.ms:=by
    intro i
    induction i with
    | zero=>intro _;rw [g2]
    | succ i ihh =>
      intro hi
      have hlt:i<ops.size:=by omega
      obtain ⟨k1,_,_⟩:=g5 i _ (by omega) hlt (Array.getElem?_eq_getElem hlt)
      rw [k1.ms];exact ihh (by omega)
  have hB:∀ x,x∈B→x<s.next:=fun x hx=>(hw.back x hx).1
  let J:(Nat→Bool)→Act→World→Prop:=fun done a w=>∃ σ',σ.le σ'∧Uu ops done∧a.tmps.size=n∧(∃ bs,a.defers=bs.map mkD∧MsR σ' s.ms bs) ∧
    (∀ t v,(∀ (j:Nat) (o:Oper),ops[j]?=some o→o.dst=some t→done j=false)→fnd t E=some v→VR vr σ' v (a.tmps.getD t undef)) ∧
    (∀ (j:Nat) (o:Oper) (t:Nat),ops[j]?=some o→o.dst=some t→done j=true→VR vr σ' (vs j) (a.tmps.getD t undef)) ∧
    ∃ sD,JW P vr σ' w0 M B ops s.next Tk (fun q=>orGone ((Ss (q+1)).heap.get (s.next+q))) H.cur s.ms done sD w
  refine wpIn_region_any hm (Z7u (J:=J) hD.back ?_ ?_ ops.size (Array.replicate ops.size false) a _ (by simp) ?_ ?_)
  · -- a step
    rintro done i o a w ho hdi hdeps ⟨σ',hσ,hc,hsz,⟨bs,hbs,hmr⟩,hnot,hdst,sD,hJ⟩
    have hi:i<ops.size:=(Array.getElem?_eq_some_iff.1 ho).1
    have hdeps':∀ (o':Oper),ops[i]?=some o'→∀ e,e∈o'.after→Region.binds .any e=true→done e.on=true:=fun o' ho'=>by rw [ho] at ho';injection ho' with ho';subst ho';exact hdeps
    obtain ⟨v1,v2,v3⟩:=g5 i o (by omega) hi ho
    have htr:truB ops i=isTrue o.op:=by unfold truB;rw [ho]
    have hfr:fresB ops i=isFresh o.op:=by unfold fresB;rw [ho]
    have hfe:FE vr σ' n (restr (Es i) (readsO ops o)) a.tmps:=⟨hsz,fun t v hv=>by
      obtain ⟨r1,r2⟩:=fnd_restr hv
      by_cases hex:∃ (j:Nat) (p:Oper),ops[j]?=some p∧p.dst=some t
      · obtain ⟨j, p, hp, hpd⟩ := hex
        rcases hD.reads i j o p t ho hp hpd r1 with ⟨c1,c2⟩ | ⟨c1,c2⟩
        · have hdj := anc_done hD.back hc (i + 1) i j (Nat.lt_succ_self i) c2 hdeps'
          rw [hEdst j p t hp hpd i c1 (by omega)] at r2
          injection r2 with r2;subst r2
          exact hdst j p t hp hpd hdj
        · have hone : ∀ (j' : Nat) (p' : Oper), ops[j']? = some p' → p'.dst = some t → j' = j := fun j' p' hp' hpd' => hD.uniq j' j p' p t hp' hp hpd' hpd
          rw [hEnot t i (fun j' p' hp' hpd'=>by rw [hone j' p' hp' hpd'];omega) (by omega)] at r2
          refine hnot t v (fun j' p' hp' hpd'=>?_) r2
          rw [hone j' p' hp' hpd']
          cases hdj:done j with
          | false=>rfl
          | true=>have:=anc_done' hD.back hc hdj c2;rw [hdi] at this;cases this
      · have hno : ∀ (j : Nat) (p : Oper), ops[j]? = some p → p.dst ≠ some t := fun j p hp e => hex ⟨j, p, hp, e⟩
        rw [hEnot t i (fun j p hp e=>absurd e (hno j p hp)) (by omega)] at r2
        exact hnot t v (fun j p hp e=>absurd e (hno j p hp)) r2⟩
    have hclosed:Uu ops (fun m=>if m=i then true else done m):=by
      intro j o' ho' hj e he hbe
      show (if e.on=i then true else done e.on)=true
      by_cases hei:e.on=i
      ·rw [if_pos hei]
      · rw [if_neg hei]
        by_cases hji:j=i
        ·subst hji;rw [ho] at ho';injection ho' with ho';subst ho';exact hdeps e he hbe
        · have hj' : done j = true := by simpa [hji] using hj
          exact hc j o' ho' hj' e he hbe
    have hdd:=v1.dst
    have fin:∀ σ'' x w' sD',σ'.le σ''→VR vr σ'' (vs i) x→JW P vr σ'' w0 M B ops s.next Tk (fun q=>orGone ((Ss (q+1)).heap.get (s.next+q))) H.cur s.ms (fun m=>if m=i then true else done m) sD' w' →
        J (fun m=>if m=i then true else done m) (a.put o.dst x) w':=by
      intro σ'' x w' sD' k1 k2 k4
      refine ⟨σ'',Nm.le_trans hσ k1,hclosed,?_,?_,fun t v hno hv=>?_,fun j p t hp hpd hdj=>?_,sD',k4⟩
      · cases o.dst with
        | none=>exact hsz
        | some d=>simpa [Act.put] using hsz
      · refine ⟨bs, ?_, hmr.mono k1⟩
        cases o.dst with
        | none=>exact hbs
        | some d=>exact hbs
      · have hno' : ∀ (j : Nat) (p : Oper), ops[j]? = some p → p.dst = some t → done j = false := fun j p hp hpd => by
          have:=hno j p hp hpd
          by_cases e:j=i
          ·simp [e] at this
          ·simpa [e] using this
        cases hod:o.dst with
        | none=>exact (hnot t v hno' hv).mono k1
        | some d =>
          rw [hod] at hdd
          rw [put_getD hsz (blt_lt hdd),if_neg (fun e=>by have:=hno i o ho (by rw [hod,e]);simp at this)]
          exact (hnot t v hno' hv).mono k1
      · by_cases e : j = i
        · subst e
          rw [ho] at hp;injection hp with hp;subst hp
          rw [hpd] at hdd ⊢
          rw [put_getD hsz (blt_lt hdd),if_pos rfl]
          exact k2
        · have hdj' : done j = true := by simpa [e] using hdj
          cases hod:o.dst with
          | none=>exact (hdst j p t hp hpd hdj').mono k1
          | some d =>
            rw [hod] at hdd
            rw [put_getD hsz (blt_lt hdd),if_neg (fun e'=>e (hD.uniq j i p o t hp ho hpd (by rw [hod,e'])))]
            exact (hdst j p t hp hpd hdj').mono k1
    cases v1 with
    | made hff hd hwt cs t hv hs =>
      rw [hff] at hfr
      have hcs:orGone ((Ss (i+1)).heap.get (s.next+i))=.cells (putC .e 0 cs) (lenL cs) t false:=by
        rw [hs];show orGone (((Ss i).heap.set (s.next+i) _).get (s.next+i))=_;rw [Tri.get_set,if_pos rfl];rfl
      refine freshO_ok ho hfe hwt hv fun x A q1 q2 q3=>?_
      have h0:σ' (s.next+i)=none:=(hJ.wr.back _ (mem_BD.2 (.inr ⟨i,hi,by rw [hdi];simp,rfl⟩))).2
      have:=jw_made H hD hc hi hfr hdi hJ (by show AO.live _=true;rw [hcs];rfl) hB (ob:=.cells A t (0,0)) (by
        show OR P vr _ 0 (orGone ((Ss (i+1)).heap.get (s.next+i))) _
        rw [hcs];exact newC_or0 (q1.mono (Nm.le_put h0)) q2)
      exact fin _ x _ (sD.set (s.next+i) (orGone ((Ss (i+1)).heap.get (s.next+i)))) (Nm.le_put h0) (q3 _ Nm.put_same) this
    | unmade hff hd hwt hv hs =>
      rw [hff] at hfr
      have hcs:orGone ((Ss (i+1)).heap.get (s.next+i))=.gone:=by
        rw [hs];show orGone (((Ss i).heap.set (s.next+i) .gone).get (s.next+i))=_;rw [Tri.get_set,if_pos rfl];rfl
      refine skipO_ok ho hfe hwt ?_
      exact fin _ undef _ (sD.set (s.next+i) .gone) Nm.le_refl (by rw [hv];exact .und) (jw_unmade H hD hc hi hfr hdi hJ hcs)
    | eff hff he s1 hv hs =>
      have ht:truB ops i=true:=by rw [htr];simp [isTrue,hff,he]
      obtain ⟨M',m1,m2⟩:=jw_eff H hD hc hi ht hdi hdeps' hJ hs
      refine (valO_ok (ρ:=ρ) hX hF hC ho hfe m1 hv fun σ'' x w' k1 k2 k3=>?_).1
      obtain ⟨sD',k4⟩:=m2 σ'' w' k1 k3
      exact fin σ'' x w' sD' k1 k2 k4
    | quiet hff he h1 hv hs =>
      rw [hff] at hfr
      have ht:truB ops i=false:=by rw [htr];simp [isTrue,he]
      have hval:valO P X ih n ops o (restr (Es i) (readsO ops o)) sD=some (vs i,sD):=by
        rw [hs] at hv
        unfold valO at hv ⊢
        simp only [hdd,cond_true] at hv ⊢
        cases hwt:wantS ops (restr (Es i) (readsO ops o)) o.guard with
        | none=>rw [hwt] at hv;cases hv
        | some b =>
          rw [hwt] at hv
          cases b with
          | false=>simp only at hv ⊢;injection hv with hv;injection hv with hv _;rw [hv]
          | true =>
            simp only [he,cond_false] at hv ⊢
            have hpv:pureV P (restr (Es i) (readsO ops o)) (Ss i) o.op=some (vs i):=by
              split at hv
              · rename_i v' hpv
                injection hv with hv;injection hv with hv _;rw [←hv];exact hpv
              ·cases hv
            have hpure:pureV P (restr (Es i) (readsO ops o)) sD o.op=some (vs i):=by
              cases hbo:blockOf (restr (Es i) (readsO ops o)) o.op with
              | none=>rw [pureV_same (s2:=Ss i) (fun x hx=>by rw [hbo] at hx;cases hx)];exact hpv
              | some x =>
                have hsees:=h1
                unfold seesOk at hsees
                rw [hbo] at hsees
                simp only [Bool.or_eq_true,Bool.and_eq_true] at hsees
                have hsq:=List.all_eq_true.1 hqs _ (v3 he (looks_of hbo))
                unfold sameQ at hsq
                rw [ho] at hsq
                simp only [hbo,hwt,Bool.or_eq_true,Bool.and_eq_true] at hsq
                obtain ⟨w1,w2⟩:=cntT_window hD hc hi hdi hdeps'
                have hown:∀ q,q<ops.size→x=s.next+q→fresB ops q=true∧done q=true∧q<i:=fun q hq e=>by
                  rcases hsees with (h | h) | h
                  ·have:=blt_lt h;omega
                  ·have:=Nat.le_of_ble_eq_true h;omega
                  · rw [show x - s.next = q by omega] at h
                    exact ⟨h.1,anc_done hD.back hc (i+1) i q (Nat.lt_succ_self i) h.2 hdeps',anc_lt hD.back h.2⟩
                rcases hsq with ⟨e1,e2⟩ | hall
                · have e1 := Nat.eq_of_beq_eq_true e1
                  have e2:=Nat.eq_of_beq_eq_true e2
                  have hk:cntT ops done=rkT ops i:=by omega
                  rw [pureV_same (s2:=Ss i) (fun y hy=>by
                    rw [hbo] at hy;injection hy with hy;subst hy
                    by_cases hx:x<s.next∨s.next+ops.size≤x
                    ·rw [hJ.out x hx,hk];exact ((H.out (Nat.le_of_lt hi)).1 x hx).symm
                    · obtain ⟨k1, k2, k3⟩ := hown (x - s.next) (by omega) (by omega)
                      have:=hJ.fr (x-s.next) (by omega) k1 k2
                      rw [show s.next+(x-s.next)=x by omega,hk] at this
                      rw [this]
                      have:=H.curs (Nat.le_of_lt hi) (x-s.next) k3 k1
                      rw [show s.next+(x-s.next)=x by omega] at this
                      exact this.symm)]
                  exact hpv
                · have hmemk : cntT ops done ∈ (List.range (hiT ops (ancs ops.toList []) i + 1)).drop (loT ops (ancs ops.toList []) i) := by
                    apply List.mem_of_getElem? (i:=cntT ops done-loT ops (ancs ops.toList []) i)
                    rw [List.getElem?_drop,show loT ops (ancs ops.toList []) i+(cntT ops done-loT ops (ancs ops.toList []) i)=cntT ops done by omega,List.getElem?_range (by omega)]
                  have hk:=List.all_eq_true.1 hall _ hmemk
                  rw [hlist _ cntT_le] at hk
                  simp only at hk
                  split at hk
                  · rename_i u hu
                    simp only [Bool.and_eq_true] at hk
                    have:=SV.beq_eq hk.1
                    subst this
                    rw [pureV_same (s2:=Tk (cntT ops done)) (fun y hy=>by
                      rw [hbo] at hy;injection hy with hy;subst hy
                      by_cases hx:x<s.next∨s.next+ops.size≤x
                      ·exact hJ.out x hx
                      · obtain ⟨k1, k2, k3⟩ := hown (x - s.next) (by omega) (by omega)
                        have:=hJ.fr (x-s.next) (by omega) k1 k2
                        rw [show s.next+(x-s.next)=x by omega] at this
                        rw [this]
                        have hl:=hk.2
                        unfold lateOk at hl
                        simp only [Bool.or_eq_true] at hl
                        have hlt:rkT ops (x-s.next)<cntT ops done:=by
                          rcases hl with (hl | hl) | hl
                          ·have:=blt_lt hl;omega
                          ·have:=Nat.le_of_ble_eq_true hl;omega
                          ·exact blt_lt hl
                        unfold Tr.cur
                        rw [if_pos hlt,show s.next+(x-s.next)=x by omega])]
                    exact hu
                  ·cases hk
            rw [hpure]
      refine (valO_ok (ρ:=ρ) hX hF hC ho hfe hJ.wr hval fun σ'' x w' k1 k2 k3=>?_).1
      refine fin σ'' x w' sD k1 k2 (jw_quiet H hi hfr ht ⟨k3,hJ.next,hJ.ms,hJ.out,hJ.fr,fun q hq hfq hd hl=>?_⟩)
      have:=hJ.nm q hq hfq hd hl
      cases hq':σ' (s.next+q) with
      | none=>rw [hq'] at this;cases this
      | some p=>rw [k1 _ _ hq'];rfl
  · -- the end
    rintro done a w hall ⟨σ',hσ,hc,hsz,⟨bs,hbs,hmr⟩,hnot,hdst,sD,hJ⟩
    have hcnt:cntT ops done=rkT ops ops.size:=by
      unfold cntT rkT
      apply List.countP_congr
      intro j hj
      rw [hall j (List.mem_range.1 hj)];simp
    refine hQ σ' a w hσ ⟨⟨hsz,fun t v hv=>?_⟩,bs,hbs,by rw [←g4,hms _ (Nat.le_refl _)];exact hmr⟩ ?_
    · rw [← g3] at hv
      by_cases hex:∃ (j:Nat) (p:Oper),ops[j]?=some p∧p.dst=some t
      · obtain ⟨j, p, hp, hpd⟩ := hex
        have hj:j<ops.size:=(Array.getElem?_eq_some_iff.1 hp).1
        rw [hEdst j p t hp hpd ops.size hj (Nat.le_refl _)] at hv
        injection hv with hv;subst hv
        exact hdst j p t hp hpd (hall j hj)
      · have hno : ∀ (j : Nat) (p : Oper), ops[j]? = some p → p.dst ≠ some t := fun j p hp e => hex ⟨j, p, hp, e⟩
        rw [hEnot t ops.size (fun j p hp e=>absurd e (hno j p hp)) (Nat.le_refl _)] at hv
        exact hnot t v (fun j p hp e=>absurd e (hno j p hp)) hv
    · rw [← g4]
      obtain ⟨o1,o2⟩:=H.out (Nat.le_refl ops.size)
      refine hJ.wr.ext (by rw [hJ.next,hcnt];exact o2) (fun x hx=>mem_BD.2 (.inl hx)) fun x p hp=>.inr ?_
      by_cases hx:x<s.next∨s.next+ops.size≤x
      ·rw [hJ.out x hx,hcnt];exact o1 x hx
      · have hq : x - s.next < ops.size := by omega
        have hxe:s.next+(x-s.next)=x:=by omega
        have hfl:fresB ops (x-s.next)=true:=by
          cases hb:fresB ops (x-s.next) with
          | true=>rfl
          | false =>
            have:=(hJ.wr.back x (mem_BD.2 (.inr ⟨x-s.next,hq,by rw [hb];rfl,hxe⟩))).2
            rw [hp] at this;cases this
        have h1:=hJ.fr (x-s.next) hq hfl (hall _ hq)
        have h2:=H.curs (Nat.le_refl ops.size) (x-s.next) hq hfl
        rw [hxe,hcnt] at h1
        rw [hxe] at h2
        rw [h1,h2]
  · have : ((List.range ops.size).filter (fun i => !(Array.replicate ops.size false).getD i true)).length ≤ (List.range ops.size).length := List.length_filter_le _ _
    simpa using this
  · have hfn : (fun q => (Array.replicate ops.size false).getD q false) = fun _ => false := by
      funext q
      simp only [Array.getD_eq_getD_getElem?,Array.getElem?_replicate]
      split <;> rfl
    show J (fun q=>(Array.replicate ops.size false).getD q false) a _
    rw [hfn]
    have hcnt:cntT ops (fun _=>false)=0:=by unfold cntT;rw [List.countP_eq_zero];intro j _;simp
    refine ⟨σ,Nm.le_refl,fun i o _ h=>by simp at h,hf.fe.size,hf.df,fun t v _ hv=>hf.fe.get t v hv,fun j o t _ _ h=>by simp at h,⟨s.heap,s.next+ops.size,s.ms⟩,?_,?_,rfl,fun x hx=>?_,fun q _ _ h=>(by cases h),fun q _ _ h=>(by cases h)⟩
    · have hd := hw.drew
      refine ⟨hd.os,hd.tape,hd.output,hd.size,hd.keep,hd.own,hd.low,hd.inj,fun i hi=>hd.fresh i (Nat.le_trans (Nat.le_add_right _ _) hi),fun x hx=>?_⟩
      rcases mem_BD.1 hx with h | ⟨q,h1,_,rfl⟩
      · obtain ⟨k1, k2⟩ := hd.back x h
        exact ⟨by show x<s.next+ops.size;omega,k2⟩
      ·exact ⟨by show s.next+q<s.next+ops.size;omega,hd.fresh _ (Nat.le_add_right _ _)⟩
    ·rw [hcnt,H.zero,g2]
    ·rw [hcnt,H.zero,g2]
end draw
end Go.Acq.Vx
noncomputable section
namespace Go.Acq.Vx
open Go Go.Acq Go.RowKit
def LW (ρ:Option Nat)(P:Program)(c:Code)(Q:Exit→Act→World→Prop)(a:Act)(w:World):Prop :=
  ∀ (b:Frame) (k:List Item) (cs:List Frame),b.roundOf=(FW ρ).round→(FW ρ).fn b.fn→(FW ρ).room (cs.length+1+0) →
    ∃ e a' w',Q e a' w'∧ArrivesIn (Machine.fenced P (FW ρ)) P (lone (b.atR a (.code c::.inLoop c::k)) cs w) b k cs e a' w'
theorem LW.wpIn {ρ:Option Nat}{P:Program}{c:Code}{Q:Exit→Act→World→Prop}{a:Act}{w:World}(h:LW ρ P c Q a w):(Code.loop c).wpIn (FW ρ) 0 P Q a w:=by
 intro b k cs hro hb hr
 obtain ⟨e,a',w',hq,harr⟩:=h b k cs hro hb hr
 exact ⟨e,a',w',hq,.of_steps (.one (fenced_calm hb hr rfl) stepR_loop) harr⟩
theorem LW.of {ρ:Option Nat}{P:Program}{c:Code}{Q:Exit→Act→World→Prop}{a:Act}{w:World}(h:c.wpIn (FW ρ) 0 P (Exit.then (LW ρ P c Q) Q) a w):LW ρ P c Q a w:=by
 intro b k cs hro hb hr
 obtain ⟨e,a₁,w₁,hq,harr⟩:=h b (.inLoop c::k) cs hro hb hr
 cases e with
 | normal =>
  obtain ⟨e₂,a₂,w₂,hq₂,harr₂⟩:=hq b k cs hro hb hr
  exact ⟨e₂,a₂,w₂,hq₂,.of_steps (StepsIn.trans harr (.one (fenced_calm hb hr rfl) stepR_inLoop)) harr₂⟩
 | exit id=>exact ⟨_,a₁,w₁,hq,.pass (x:=.inLoop c) rfl (fun _ _=>.inl (by simp)) harr⟩
 | goto l=>exact ⟨_,a₁,w₁,hq,.pass (x:=.inLoop c) rfl (fun _ _=>.inl (by simp)) harr⟩
 | ret=>exact ⟨_,a₁,w₁,hq,.pass (x:=.inLoop c) rfl (fun _ _=>.inl (by simp)) harr⟩
 | panic ch=>exact ⟨_,a₁,w₁,hq,.pass (x:=.inLoop c) rfl (fun _ _=>.inl (by simp)) harr⟩
 | outgrown=>exact ⟨_,a₁,w₁,hq,.pass (x:=.inLoop c) rfl (fun _ _=>.inl (by simp)) harr⟩
def SndL (P:Program)(vr:Nat→Int)(ih:IH):Prop:=∀ n top c E s x E' s',ih.code n top (.loop c) E s=some (x,E',s')→∀ ρ σ w0 M B a w (Q:Exit→Act→World→Prop),(top=true→ρ=none)→FA vr σ n E s.ms a→WR P vr σ w0 M B s w →
  (∀ σ' a' w',σ.le σ'→FA vr σ' n E' s'.ms a'→WR P vr σ' w0 M B s' w'→Q (exQ x) a' w')→LW ρ P c Q a w
section code
variable {P : Program} {vr : Nat → Int} {X : List (FuncId × XK)} {σ : Nm} {ρ : Option Nat} {w0 w : World} {M B : List Nat} {n : Nat} {ih : IH} {E E' : En} {s s' : St} {a : Act} {top : Bool}
theorem FA.weak {E1:En}{ms:List Nat}(h:FA vr σ n E ms a)(hE:∀ t v,fnd t E1=some v→fnd t E=some v):FA vr σ n E1 ms a:=⟨⟨h.fe.size,fun t v ht=>h.fe.get t v (hE t v ht)⟩,h.df⟩
theorem fnd_ded:∀ {E:En} {seen:List Nat} {t:Nat} {v:SV},fnd t (ded E seen)=some v→t∉seen∧fnd t E=some v
 | [],seen,t,v,h=>by simp [ded,fnd] at h
 | (d,u)::E,seen,t,v,h=>by
  simp only [ded] at h
  cases hs:seen.any (Nat.beq d) with
  | true =>
   rw [hs] at h
   obtain ⟨h1,h2⟩:=fnd_ded h
   refine ⟨h1,?_⟩
   rw [fnd_cons,if_neg]
   ·exact h2
   ·rintro rfl;exact h1 (any_beq.1 hs)
  | false =>
   rw [hs] at h
   simp only [cond_false,fnd_cons] at h ⊢
   by_cases e:d=t
   ·
    subst e
    rw [if_pos rfl] at h ⊢
    exact ⟨fun hm=>(by rw [any_beq.2 hm] at hs;cases hs),h⟩
   ·
    rw [if_neg e] at h ⊢
    obtain ⟨h1,h2⟩:=fnd_ded h
    exact ⟨fun hm=>h1 (.tail _ hm),h2⟩
def CS (P:Program)(vr:Nat→Int)(X:List (FuncId×XK))(ih:IH)(ρ:Option Nat)(w0:World)(M B:List Nat)(n:Nat)(top:Bool)(c:Code):Prop:=∀ E s x E' s' σ a w (Q:Exit→Act→World→Prop),codeS P X ih n top c E s=some (x,E',s')→FA vr σ n E s.ms a→WR P vr σ w0 M B s w →
  (∀ σ' a' w',σ.le σ'→FA vr σ' n E' s'.ms a'→WR P vr σ' w0 M B s' w'→Q (exQ x) a' w')→c.wpIn (FW ρ) 0 P Q a w
theorem loop_ok (hL:SndL P vr ih)(htop:top=true→ρ=none){c:Code}(hc:CS P vr X ih ρ w0 M B n top c){x:Ex}{Q:Exit→Act→World→Prop}(h:codeS P X ih n top (.loop c) E s=some (x,E',s'))(hf:FA vr σ n E s.ms a)(hw:WR P vr σ w0 M B s w)
    (hQ:∀ σ' a' w',σ.le σ'→FA vr σ' n E' s'.ms a'→WR P vr σ' w0 M B s' w'→Q (exQ x) a' w'):LW ρ P c Q a w:=by
  apply LW.of
  simp only [codeS] at h
  split at h
  · rename_i E1 s1 hb
    refine hc _ _ _ _ _ σ a w _ hb hf hw fun σ1 a1 w1 k1 k2 k3=>?_
    show LW ρ P c Q a1 w1
    exact hL _ _ _ _ _ _ _ _ h ρ σ1 w0 M B a1 w1 Q htop (k2.weak fun t v ht=>(fnd_ded ht).2) k3 fun σ2 a2 w2 j1 j2 j3=>hQ σ2 a2 w2 (Nm.le_trans k1 j1) j2 j3
  · rename_i r hne
    refine hc _ _ _ _ _ σ a w _ h hf hw fun σ1 a1 w1 k1 k2 k3=>?_
    cases x with
    | nor=>exact absurd h (fun e=>hne _ _ e)
    | ret=>exact hQ σ1 a1 w1 k1 k2 k3
    | exit id=>exact hQ σ1 a1 w1 k1 k2 k3
theorem range_ok (hF:SndF P vr ih)(hρ:ρ=none){y:Operand}{ps:Array Nat}{az bd:Code}{f:FuncId}{fa ca:List SV}{v:SV}{s3:St}{n2:Nat}{E2:En}{ps2:List Nat}{as2 bd2:Code}{x:Ex}{Q:Exit→Act→World→Prop}(hf:FA vr σ n E s.ms a)(hw:WR P vr σ w0 M B s w)
    (hy:ev E y=some (.fn f fa ca))(hc:ih.call f (fa++[.yld (s.new .mark).next]++ca) ⟨((s.new .mark).new (.loop n E ps.toList az bd .nor)).heap,((s.new .mark).new (.loop n E ps.toList az bd .nor)).next,[]⟩=some (v,s3))(hl:s3.heap.get (s.new .mark).next=some (.loop n2 E2 ps2 as2 bd2 x))
    (hQ:∀ σ' a' w',σ.le σ'→FA vr σ' n E (s.next::s.ms) a'→WR P vr σ' w0 M B ⟨s3.heap.set (s.new .mark).next .gone,s3.next,s.next::s.ms⟩ w'→Q (exQ x) a' w'):(Code.rangeFunc y ps az bd).wpIn (FW ρ) 0 P Q a w:=by
  subst hρ
  refine wpIn_rangeFunc fun fn _=>?_
  obtain ⟨fx,cx,h1,h2,h3⟩:=(hf.fe.ev hy).fn_inv
  obtain ⟨hcb,hcalls⟩:=hF _ _ _ _ _ hc rfl
  obtain ⟨bs,hbs,hmr⟩:=hf.df
  have hwa:=hw.alloc (o:=.mark) (ob:=.deferred (some [])) (r:=0) rfl .mark
  have hle1:σ.le (σ.put s.next w.heap.size 0):=Nm.le_put (hw.fresh _ (Nat.le_refl _))
  have hsz:(w.alloc (.deferred (some []))).heap.size=w.heap.size+1:=World.size_alloc ..
  have hwb:=hwa.alloc (o:=.loop n E ps.toList az bd .nor) (ob:=.loop { state:=.ready,pending:=none,fn:=fn,tmps:=a.tmps,params:=ps.toList.toArray,assign:=az,body:=bd,defers:=w.heap.size }) (r:=0) rfl
    (OR.loop (x:=.nor) ((hf.fe.mono hle1).mono (Nm.le_put (hwa.fresh _ (Nat.le_refl _)))))
  have hle2:(σ.put s.next w.heap.size 0).le ((σ.put s.next w.heap.size 0).put (s.new .mark).next (w.alloc (.deferred (some []))).heap.size 0):=Nm.le_put (hwa.fresh _ (Nat.le_refl _))
  have hle:=Nm.le_trans hle1 hle2
  rw [hsz] at hwb hle2 hle
  have hps:ps.toList.toArray=ps:=by simp
  rw [hps] at hwb
  obtain ⟨wb,hwbe⟩:∃ wb,(w.alloc (.deferred (some []))).alloc (.loop { state:=.ready,pending:=none,fn:=fn,tmps:=a.tmps,params:=ps,assign:=az,body:=bd,defers:=w.heap.size })=wb:=⟨_,rfl⟩
  rw [hwbe] at hwb
  refine ⟨w.heap.size+1,[mkD w.heap.size],wb,{ target:=.fn (.func f) cx.toArray,args:=fx.toArray.push (Value.func (.yield (w.heap.size+1)) #[] #[]) },
    wb,f,(fx++[Value.func (.yield (w.heap.size+1)) #[] #[]]++cx).toArray,wb,?_,?_,fun _ _=>trivial,?_,by simp [FW],?_⟩
  ·rw [←hwbe];exact run_enterLoop_outer ..
  · have h4 : ∀ v, a.eval (.const v) = v := fun _ => rfl
    simp [resolve,Deferred.ofValue,h1,h4]
  · show (callFunc f (fx.toArray.push (Value.func (.yield (w.heap.size + 1)) #[] #[]) ++ cx.toArray)).run P _ = _
    have:fx.toArray.push (Value.func (.yield (w.heap.size+1)) #[] #[])++cx.toArray=(fx++[Value.func (.yield (w.heap.size+1)) #[] #[]]++cx).toArray:=by apply Array.ext';simp
    rw [this]
    exact Kd hcb _ _
  · refine callsIn_FW.2 ?_
    have hargs:VRs vr ((σ.put s.next w.heap.size 0).put (s.new .mark).next (w.heap.size+1) 0) (fa++[.yld (s.new .mark).next]++ca) (fx++[Value.func (.yield (w.heap.size+1)) #[] #[]]++cx) :=
      ((h2.mono hle).append (.cons (.yld Nm.put_same) .nil)).append (h3.mono hle)
    refine Calls.mono (hcalls _ w0 M B _ _ hargs (hwb.ms [])) ?_
    rintro e w3 ⟨σ3,y3,j1,j2,j3,rfl⟩
    have hσl:=j1 _ _ (Nm.put_same (σ:=σ.put s.next w.heap.size 0) (i:=(s.new .mark).next) (b:=w.heap.size+1) (r:=0))
    obtain ⟨ob,q1,q2⟩:=j3.obj hl rfl hσl
    generalize hao:AO.loop n2 E2 ps2 as2 bd2 x=ao at q2
    cases q2 with
    | cells _ _ _ _=>cases hao
    | busy _=>cases hao
    | mark=>cases hao
    | gone=>cases hao
    | map _ _=>cases hao
    | loop hfe =>
      injection hao with b1 b2 b3 b4 b5 b6
      subst b1;subst b2;subst b3;subst b4;subst b5;subst b6
      rename_i fn3 tmps3 df3
      have hput:=j3.putObj hl rfl hσl (OR.gone (o:=.loop { state:=.exhausted,pending:=pdOf x,fn:=fn3,tmps:=tmps3,params:=ps2.toArray,assign:=as2,body:=bd2,defers:=df3 }))
      have hend:=run_endLoop (P:=P) q1 (by cases x <;> simp [stOf])
      have hlef:=Nm.le_trans hle j1
      have hmark:∃ r,σ3 s.next=some (w.heap.size,r):=⟨0,j1 _ _ (hle2 _ _ Nm.put_same)⟩
      have hfa:FA vr σ3 n E (s.next::s.ms) { a with defers:=[mkD w.heap.size]++a.defers }:=⟨hf.fe.mono hlef,w.heap.size::bs,by simp [hbs],hmark,hmr.mono hlef⟩
      have fin:=hQ σ3 _ _ hlef hfa (hput.ms (s.next::s.ms))
      cases x with
      | nor=>exact ⟨none,_,hend,fin⟩
      | ret=>exact ⟨some .ret,_,hend,wpIn_ret fin⟩
      | exit id=>exact ⟨some (.exit id),_,hend,wpIn_exit fin⟩
theorem codeS_ok (hm:P.follows .mixedOrders=true)(hX:XsOk P X)(hF:SndF P vr ih)(hC:SndC P vr ih)(hL:SndL P vr ih)(htop:top=true→ρ=none):∀ c:Code,CS P vr X ih ρ w0 M B n top c:=by
 intro c
 induction c with
 | skip=>intro E s x E' s' σ a w Q h hf hw hQ;simp [codeS] at h;obtain ⟨h1,h2,h3⟩:=h;subst h1;subst h2;subst h3;exact wpIn_skip (hQ σ a w Nm.le_refl hf hw)
 | ret=>intro E s x E' s' σ a w Q h hf hw hQ;simp [codeS] at h;obtain ⟨h1,h2,h3⟩:=h;subst h1;subst h2;subst h3;exact wpIn_ret (hQ σ a w Nm.le_refl hf hw)
 | exit id=>intro E s x E' s' σ a w Q h hf hw hQ;simp [codeS] at h;obtain ⟨h1,h2,h3⟩:=h;subst h1;subst h2;subst h3;exact wpIn_exit (hQ σ a w Nm.le_refl hf hw)
 | region id ops draw =>
  intro E s x E' s' σ a w Q h hf hw hQ
  simp only [codeS] at h
  cases draw with
  | true =>
   simp only [cond_true] at h
   split at h
   ·
    rename_i hr
    injection h with h;injection h with h1 h;injection h with h2 h3;subst h1;subst h2;subst h3
    exact runDraw_ok hm hX hF hC hf hw hr hQ
   ·cases h
  | false =>
   simp only [cond_false] at h
   split at h
   ·
    rename_i hr
    injection h with h;injection h with h1 h;injection h with h2 h3;subst h1;subst h2;subst h3
    refine wpIn_region ?_
    have:=runOps_ok (ρ:=ρ) (Q:=Q) hX hF hC (k:=0) (by simp) hf hw hr hQ
    rw [Array.length_toList,←List.range_eq_range'] at this
    exact this
   ·cases h
 | seq x y hx hy =>
  intro E s z E' s' σ a w Q h hf hw hQ
  simp only [codeS] at h
  refine wpIn_seq ?_
  split at h
  ·
   rename_i E1 s1 h1
   refine hx _ _ _ _ _ σ a w _ h1 hf hw fun σ1 a1 w1 k1 k2 k3=>?_
   exact hy _ _ _ _ _ σ1 a1 w1 Q h k2 k3 fun σ2 a2 w2 j1 j2 j3=>hQ σ2 a2 w2 (Nm.le_trans k1 j1) j2 j3
  ·
   rename_i hne
   refine hx _ _ _ _ _ σ a w _ h hf hw fun σ1 a1 w1 k1 k2 k3=>?_
   cases z with
   | nor=>exact absurd h (fun e=>hne _ _ e)
   | ret=>exact hQ σ1 a1 w1 k1 k2 k3
   | exit id=>exact hQ σ1 a1 w1 k1 k2 k3
 | cond o x y hx hy =>
  intro E s z E' s' σ a w Q h hf hw hQ
  simp only [codeS] at h
  split at h
  ·rename_i ho;exact wpIn_cond_true (hf.fe.ev ho).bool_inv (hx _ _ _ _ _ σ a w Q h hf hw hQ)
  ·rename_i ho;exact wpIn_cond (hf.fe.ev ho).bool_inv (hy _ _ _ _ _ σ a w Q h hf hw hQ)
  ·cases h
 | block id x hx =>
  intro E s z E' s' σ a w Q h hf hw hQ
  simp only [codeS] at h
  refine wpIn_block ?_
  split at h
  ·
   rename_i j E1 s1 h1
   refine hx _ _ _ _ _ σ a w _ h1 hf hw fun σ1 a1 w1 k1 k2 k3=>?_
   show (if j=id then Q .normal a1 w1 else Q (.exit j) a1 w1)
   cases hj:Nat.beq j id with
   | true =>
    rw [hj] at h;simp only [cond_true] at h
    injection h with h;injection h with h1 h;injection h with h2 h3;subst h1;subst h2;subst h3
    rw [if_pos (Nat.eq_of_beq_eq_true hj)]
    exact hQ σ1 a1 w1 k1 k2 k3
   | false =>
    rw [hj] at h;simp only [cond_false] at h
    injection h with h;injection h with h1 h;injection h with h2 h3;subst h1;subst h2;subst h3
    rw [if_neg (fun e=>by rw [e] at hj;simp at hj)]
    exact hQ σ1 a1 w1 k1 k2 k3
  ·
   rename_i hne
   refine hx _ _ _ _ _ σ a w _ h hf hw fun σ1 a1 w1 k1 k2 k3=>?_
   cases z with
   | nor=>exact hQ σ1 a1 w1 k1 k2 k3
   | ret=>exact hQ σ1 a1 w1 k1 k2 k3
   | exit j=>exact absurd h (fun e=>hne _ _ _ e)
 | loop x hx =>
  intro E s z E' s' σ a w Q h hf hw hQ
  exact (loop_ok hL htop hx h hf hw hQ).wpIn
 | rangeFunc o ps az bd ha hb =>
  clear ha hb
  intro E s z E' s' σ a w Q h hf hw hQ
  simp only [codeS] at h
  split at h
  ·
   rename_i hy
   split at h
   ·
    rename_i hc
    split at h
    ·
     rename_i hl
     injection h with h;injection h with h1 h;injection h with h2 h3;subst h1;subst h2;subst h3
     exact range_ok hF (htop rfl) hf hw hy hc hl hQ
    ·cases h
   ·cases h
  ·cases h
 | scope x hx =>
  intro E s z E' s' σ a w Q h hf hw hQ
  simp only [codeS] at h
  split at h
  ·
   have hρ:=htop rfl
   subst hρ
   have h1:x.wpIn (FW none) 0 P (Exit.noGoto Q) a w:=hx _ _ _ _ _ σ a w _ h hf hw fun σ1 a1 w1 k1 k2 k3=>by
    cases z <;> exact hQ σ1 a1 w1 k1 k2 k3
   exact wpIn_wide.2 (wp_scope_straight (wpIn_wide.1 h1))
  ·cases h
 | label l=>intro E s x E' s' σ a w Q h hf hw hQ;simp [codeS] at h;obtain ⟨h1,h2,h3⟩:=h;subst h1;subst h2;subst h3;exact wpIn_label (hQ σ a w Nm.le_refl hf hw)
 | goto l=>intro E s x E' s' σ a w Q h;simp [codeS] at h
 | refuse y=>intro E s x E' s' σ a w Q h;simp [codeS] at h
end code
end Go.Acq.Vx
noncomputable section
namespace Go.Acq.Vx
open Go Go.Acq Go.RowKit
section fun'
variable {P : Program} {vr : Nat → Int} {X : List (FuncId × XK)} {σ : Nm} {w0 w : World} {M B : List Nat} {n : Nat} {ih : IH} {E : En} {s s' : St}
theorem marksOk_set {h:Tri AO}{i:Nat}:∀ {l:List Nat},marksOk h l=true→l.any (Nat.beq i)=false→marksOk (h.set i .gone) l=true
 | [],_,_=>rfl
 | j::l,hm,hi=>by
  simp only [marksOk,Bool.and_eq_true] at hm ⊢
  simp only [List.any_cons,Bool.or_eq_false_iff] at hi
  refine ⟨⟨?_,hm.1.2⟩,marksOk_set hm.2 hi.2⟩
  rw [Tri.get_set,if_neg]
  ·exact hm.1.1
  ·rintro rfl;simp at hi
theorem leaves_ok {fn:Func}{tmps:Array Value}{R:Ending→World→Prop}:∀ {ms bs:List Nat} {s:St} {w:World},MsR σ ms bs→marksOk s.heap ms=true→WR P vr σ w0 M B s w →
    (∀ w',WR P vr σ w0 M B ⟨dropMs s.heap ms,s.next,[]⟩ w'→LeavesIn (FW none) 0 P fn tmps R [] .returning w')→LeavesInM (FW none) 0 P fn tmps R (bs.map mkD) .returning w
  | [],[],s,w,_,_,hw,h=>h w (hw.ms [])
  | i::l,b::bs,s,w,⟨⟨r,hσ⟩,hms⟩,hm,hw,h=>by
    simp only [marksOk,Bool.and_eq_true] at hm
    obtain ⟨⟨h1,h2⟩,h3⟩:=hm
    have hi:s.heap.get i=some .mark:=by
      split at h1
      ·assumption
      ·cases h1
    obtain ⟨ob,g1,g2⟩:=hw.obj hi rfl hσ
    generalize hao:AO.mark=ao at g2
    cases g2 with
    | cells _ _ _ _=>cases hao
    | busy _=>cases hao
    | loop _=>cases hao
    | gone=>cases hao
    | map _ _=>cases hao
    | mark =>
      have hput:=hw.putObj hi rfl hσ (OR.gone (o:=.deferred none))
      refine ⟨by simp,.inl ⟨b,_,rfl,run_takeDeferred g1,?_⟩⟩
      refine leaves_ok (s:=s.set i .gone) hms (marksOk_set h3 (by simpa using h2)) hput fun w' hw'=>h w' hw'
  | [],_::_,_,_,h,_,_,_=>h.elim
  | _::_,[],_,_,h,_,_,_=>h.elim
theorem res_ok {tmps:Array Value}(hf:FE vr σ n E tmps)(hw:WR P vr σ w0 M B s w):∀ {rs:List ResultVar} {vs:List SV},resOf P E s rs=some vs→∃ xs,(rs.mapM (Nq tmps)).run P w=.ok xs w∧VRs vr σ vs xs
 | [],vs,h=>by simp [resOf] at h;subst h;exact ⟨[],by simp,.nil⟩
 | r::rs,vs,h=>by
  simp only [resOf] at h
  cases h0:resOf P E s rs with
  | none=>simp [h0] at h
  | some us =>
   obtain ⟨xs,h1,h2⟩:=res_ok hf hw h0
   simp only [h0] at h
   have fin:∀ {v:SV} {x:Value},(Nq tmps r).run P w=.ok x w→VR vr σ v x→vs=v::us→∃ xs,((r::rs).mapM (Nq tmps)).run P w=.ok xs w∧VRs vr σ vs xs:=fun {v x} k1 k2 k3=>by
    subst k3
    exact ⟨x::xs,by simp only [List.mapM_cons,Sem.run_bind,k1,Result.andThen_ok,h1,Sem.run_pure],.cons k2 h2⟩
   cases r with
   | tmp t =>
    simp only at h
    split at h
    ·
     rename_i v hv
     injection h with h
     exact fin (by simp only [Nq];rfl) (hf.get t v hv) h.symm
    ·cases h
   | cell x t =>
    simp only at h
    split at h
    ·
     rename_i i o hx
     split at h
     ·
      rename_i cs m t' more hi
      split at h
      ·
       rename_i v hv
       injection h with h
       obtain ⟨b,r,k1,k2⟩:=(hf.get x _ hx).ptr_inv
       obtain ⟨y,k3,k4⟩:=part_ok hw hi k1 hv
       exact fin (by simp only [Nq,k2,asAddr,Sem.run_bind,Sem.run_pure,Result.andThen_ok,k3]) k4 h.symm
      ·cases h
     ·cases h
    ·cases h
theorem fnd_enterS:∀ {vs:List SV} {k t:Nat} {v:SV} {E:En},fnd t (enterS k vs E)=some v→(k≤t∧vs[t-k]?=some v)∨fnd t E=some v
 | [],k,t,v,E,h=>.inr h
 | u::vs,k,t,v,E,h=>by
  simp only [enterS] at h
  rcases fnd_enterS h with ⟨h1,h2⟩ | h
  ·
   refine .inl ⟨by omega,?_⟩
   have:t-k=(t-(k+1))+1:=by omega
   rw [this];simpa using h2
  ·
   rw [fnd_cons] at h
   by_cases e:k=t
   ·subst e;rw [if_pos rfl] at h;exact .inl ⟨Nat.le_refl _,by simpa using h⟩
   ·rw [if_neg e] at h;exact .inr h
theorem pack_ok {vs:List SV}{xs:List Value}(h:VRs vr σ vs xs):VR vr σ (packS vs) (if hs:xs.toArray.size=1 then xs.toArray[0] else .tuple xs.toArray):=by
 match vs,xs,h with
 | [],_,.nil=>exact .tup .nil
 | [v],_,.cons h .nil=>simpa [packS] using h
 | v::u::vs,_,.cons h (.cons h2 hs)=>simpa [packS] using VR.tup (.cons h (.cons h2 hs))
theorem funS_ok (hm:P.follows .mixedOrders=true)(hX:XsOk P X)(hF:SndF P vr ih)(hC:SndC P vr ih)(hL:SndL P vr ih){f:FuncId}{vs:List SV}{v:SV}(hms:s.ms=[])(h:funS P X ih f vs s=some (v,s')) :
    Zz P f=true∧∀ σ w0 M B w (args:List Value),VRs vr σ vs args→WR P vr σ w0 M B s w→Calls P f args.toArray w (fun e w'=>∃ σ' x,σ.le σ'∧VR vr σ' v x∧WR P vr σ' w0 M B s' w'∧e=.returned x):=by
  unfold funS at h
  split at h
  case h_2=>cases h
  rename_i fn hfn
  split at h
  case h_2=>cases h
  rename_i c hb
  rw [cond_eq_ite] at h
  split at h
  case isFalse=>cases h
  rename_i hcd
  simp only [Bool.and_eq_true] at hcd
  refine ⟨by unfold Zz;rw [hfn];simp [hb,hcd.2],?_⟩
  intro σ w0 M B w args hargs hw
  split at h
  case h_2=>cases h
  rename_i x E s2 hc
  have hle:=Nat.le_of_ble_eq_true hcd.1
  refine callsIn_FW (ρ:=none) (n:=0) |>.1 (callsIn_of_wp_marks hfn hb trivial ?_ rfl)
  have hfa:FA vr σ fn.ntmps (enterS 0 vs []) s.ms { tmps:=args.toArray++Array.replicate (fn.ntmps-args.toArray.size) undef,defers:=[] }:=by
    have hl:=hargs.length
    refine ⟨⟨by simp;omega,fun t u hu=>?_⟩,[],rfl,by rw [hms];trivial⟩
    rcases fnd_enterS hu with ⟨_,h2⟩ | h2
    · rw [Nat.sub_zero] at h2
      obtain ⟨y,k1,k2⟩:=hargs.get h2
      have hlt:=(List.getElem?_eq_some_iff.1 k1).1
      simp only [Array.getD_eq_getD_getElem?]
      rw [Array.getElem?_append_left (by simpa using hlt)]
      simp only [List.getElem?_toArray,k1,Option.getD_some]
      exact k2
    ·simp [fnd] at h2
  refine codeS_ok hm hX hF hC hL (fun _=>rfl) c _ _ _ _ _ σ _ w _ hc hfa hw fun σ' a' w' k1 k2 k3=>?_
  have done:cond (marksOk s2.heap s2.ms) (match resOf P E ⟨dropMs s2.heap s2.ms,s2.next,[]⟩ fn.results.toList with | some rs=>some (packS rs,(⟨dropMs s2.heap s2.ms,s2.next,[]⟩:St)) | none=>none) none=some (v,s') →
      LeavesInM (FW none) 0 P fn a'.tmps (fun e w'=>∃ σ' x,σ.le σ'∧VR vr σ' v x∧WR P vr σ' w0 M B s' w'∧e=.returned x) a'.defers .returning w':=by
    intro h
    rw [cond_eq_ite] at h
    split at h
    case isFalse=>cases h
    rename_i hmk
    split at h
    case h_2=>cases h
    rename_i rs hrs
    injection h with h;injection h with e1 e2;subst e1;subst e2
    obtain ⟨bs,hbs,hmr⟩:=k2.df
    rw [hbs]
    refine leaves_ok hmr hmk k3 fun w2 hw2=>?_
    obtain ⟨xs,g1,g2⟩:=res_ok k2.fe hw2 hrs
    refine ⟨_,?_,σ',_,k1,pack_ok g2,hw2,rfl⟩
    rw [Zcs,←Array.toArray_toList (xs:=fn.results),List.mapM_toArray]
    simp only [Sem.run_bind,Sem.run_map,g1,Result.andThen_ok,Sem.run_pure]
  cases x with
  | nor=>exact done h
  | ret=>exact done h
  | exit id=>cases h
theorem run_ok (hm:P.follows .mixedOrders=true)(hX:XsOk P X):∀ n,SndF P vr (run P X n)∧SndC P vr (run P X n)∧SndL P vr (run P X n)
 | 0=>⟨fun _ _ _ _ _ h=>(by cases h),fun _ _ _ _ _ _ _ _ h=>(by cases h),fun _ _ _ _ _ _ _ _ h=>(by cases h)⟩
 | n+1=>by
  obtain ⟨hF,hC,hL⟩:=run_ok hm hX n
  refine ⟨fun f vs s v s' h hms=>funS_ok hm hX hF hC hL hms h,fun k top c E s x E' s' h ρ σ w0 M B a w Q htop hf hw hQ=>?_,fun k top c E s x E' s' h ρ σ w0 M B a w Q htop hf hw hQ=>?_⟩
  ·exact codeS_ok hm hX hF hC hL htop c _ _ _ _ _ σ a w Q h hf hw hQ
  ·exact loop_ok hL htop (codeS_ok hm hX hF hC hL htop c) h hf hw hQ
end fun'
end Go.Acq.Vx
noncomputable section
namespace Go.Acq.Vx
open Go Go.Acq Go.RowKit
variable {P : Program} {X : List (FuncId × XK)}
def beqT:SV→SV→Bool
  | .tup a,.tup b=>beqS a b
  | u,v=>SV.beq u v
theorem beqT_eq {u v:SV}(h:beqT u v=true):u=v:=by
 unfold beqT at h
 split at h
 ·rw [beqS_eq h]
 ·exact beqV_eq h
def okD0 (P:Program)(X:List (FuncId×XK))(n:Nat)(f:FuncId)(us:List SV)(hs:List CO)(v:SV)(hs':List CO):Bool:=match (run P X n).call f us (canS hs) with
  | some (u,s')=>match grow s' 3000 (addN (List.range hs.length) (nm2 u)) 0 with
    | some (l,os)=>flat2 u&&flat2 v&&hs'.all flatO&&beqT (map2 (posL l) u) v&&beqH (os.map (mapCO (posL l))) hs'
    | none=>false
  | none=>false
theorem deep_of0 (hm:P.follows .mixedOrders=true)(hX:XsOk P X){n:Nat}{f:FuncId}{us:List SV}{hs:List CO}{v:SV}{hs':List CO}(h:okD0 P X n f us hs v hs'=true):XOk P f (.deep us hs v hs'):=by
 unfold okD0 at h
 split at h
 case h_2=>cases h
 rename_i u s' hr
 split at h
 case h_2=>cases h
 rename_i l os hg
 simp only [Bool.and_eq_true] at h
 obtain ⟨⟨⟨⟨h1,h2⟩,h3⟩,h4⟩,h5⟩:=h
 have h4:=beqT_eq h4
 have h5:=beqH_eq h5
 refine ⟨((run_ok (vr:=fun _=>0) hm hX n).1 _ _ _ _ _ hr rfl).1,h2,h3,fun vr σ w M args ha hσ hw=>?_⟩
 refine Calls.mono (((run_ok (vr:=vr) hm hX n).1 _ _ _ _ _ hr rfl).2 σ w M [] w args ha hw) ?_
 rintro e w' ⟨σ',y,q1,q2,q3,rfl⟩
 obtain ⟨⟨t0,a1⟩,a2,a3,a4⟩:=addN_ok (is:=nm2 u) (l:=List.range hs.length)
 obtain ⟨⟨t,e0⟩,g2,g3,g4,g5⟩:=reach_ok q3 hg (Nat.zero_le _) (a3 List.nodup_range) fun i hi=>by
  rcases a4 i hi with h | h
  ·
   obtain ⟨y,hy⟩:=hσ i (List.mem_range.1 h)
   exact ⟨y,q1 _ _ hy⟩
  ·exact q2.nm2 h
 have hlen:os.length=l.length:=by omega
 have hsub:=q3.sub (w1:=w) (M1:=M) g2 hlen (fun q o hq=>by have:=g5 q o hq;rwa [Nat.zero_add] at this) q3.os q3.tape q3.output q3.size q3.keep fun i o b r h1 h2 h3 h4=>q3.low i o b r h2 h3 h4
 rw [h5] at hsub
 refine ⟨subN σ' l,y,fun p hp=>?_,?_,hsub,rfl⟩
 ·
  obtain ⟨y,hy⟩:=hσ p hp
  unfold subN
  have:l[p]?=some p:=by
   rw [e0,a1,List.append_assoc,List.getElem?_append_left (by simpa using hp)]
   simp [hp]
  rw [this,hy]
  exact q1 _ _ hy
 ·
  rw [←h4]
  exact q2.map2 h1 fun i hi=>subN_pos (by rw [e0];exact List.mem_append_left _ (a2 i hi))
end Go.Acq.Vx
noncomputable section
namespace Go.Acq.Vx
open Go Go.Acq Go.RowKit
variable {P : Program}
def holdsB {α:Type}(k:IntKind)(g:α→List Int)(sz:Nat)(cs:Tri SV)(xs:List α):Bool:=(List.range xs.length).all fun o=>(List.range sz).all fun c=>match xs[o]? with
  | some x=>match cs.get (o*sz+c),(g x)[c]? with
    | some (.int k' (.lit z)),some z'=>decide (k'=k)&&decide (z=z')
    | _,_=>false
  | none=>false
theorem WR.rs {vr:Nat→Int}{σ:Nm}{w0 w:World}{M B:List Nat}{s:St}{α:Type}{g:α→List Int}{k:IntKind}{sz:Nat}{xs:List α}(hw:WR P vr σ w0 M B s w){i b r m c:Nat}{cs:Tri SV}{t:TypeId}{more:Bool}
    (hi:s.heap.get i=some (.cells cs m t more))(hσ:σ i=some (b,r))(hg:∀ x,(g x).length=sz)(hc:holdsB k g sz cs xs=true)(hn:xs.length≤c):RS w [] (fun x=>(g x).map (Value.int k)) sz (some ⟨b,0,none⟩) xs.length c xs:=by
  refine ⟨⟨rfl,(fun e=>nomatch e),fun x=>by rw [List.length_map,hg],fun o q ho hq x hx=>?_⟩,fun _ _ _=>by simp,hn⟩
  have h1:=List.all_eq_true.1 (List.all_eq_true.1 hc o (List.mem_range.2 ho)) q (List.mem_range.2 hq)
  rw [hx] at h1
  simp only at h1
  split at h1
  · rename_i k' z z' h2 h3
    simp only [Bool.and_eq_true,decide_eq_true_eq] at h1
    obtain ⟨rfl,rfl⟩:=h1
    obtain ⟨_,y,h4,h5⟩:=hw.cell hi h2 hσ
    rw [h5.lit_inv] at h4
    show w.cell? (ea (some ⟨b,0,none⟩) (o*sz+q))=_
    have:ea (some ⟨b,0,none⟩) (o*sz+q)=⟨b,o*sz+q,none⟩:=by simp [ea,Addr.add];omega
    rw [this,h4,List.getElem?_map,h3];rfl
  ·cases h1
theorem Z9v {vr:Nat→Int}{σ:Nm}{k:IntKind}:∀ xs:List Int,VRs vr σ (xs.map fun x=>.int k (.lit x)) (xs.flatMap (intC k))
 | []=>.nil
 | x::xs=>.cons .int (Z9v xs)
theorem Zje {σ:Nm}{i j b r:Nat}(h:j≠i):σ.put i b r j=σ j:=by unfold Nm.put;rw [if_neg (by omega)]
theorem row_known {f:FuncId}{us:List SV}{hs:List CO}{e:TypeId}{k:IntKind}{xs:List Int}(hc:Zz P f=true)(hne:xs≠[])(hfl:hs.all flatO=true)(he:Yg P e=some 1)
    (hcan:(canS hs).new (.cells (putC .e 0 (xs.map fun x=>.int k (.lit x))) (lenL (xs.map fun x=>.int k (.lit x))) e true)=canS (hs++[some (xs.map fun x=>.int k (.lit x),e,true)]))
    (h:∀ (vr:Nat→Int) (σ:Nm) (w:World) (M:List Nat) (args:List Value),VRs vr σ us args→(∀ p,p<hs.length→∃ y,σ p=some y)→WR P vr σ w M [] (canS hs) w →
      Fnc P f args.toArray w [] (fun v N=>∃ (ob:Option Nat) (n c:Nat) (j:List Value),v=.tuple #[.slice (sb ob) n c,.bool true]∧N=[(ob,.cells (arr (intC k) xs j).toArray e (0,0))]∧xs.length=n∧n≤c∧j.length=(c-n)*1∧(ob=none→c=0))) :
    XOk P f (.deep us hs (.tup [.sl hs.length 0 xs.length (.rest 0),.bool (.lit true)]) (hs++[some (xs.map fun x=>.int k (.lit x),e,true)])):=by
  refine ⟨hc,rfl,?_,fun vr σ w M args ha hσ hw=>?_⟩
  · rw [List.all_append, hfl]
    simp only [List.all_cons,List.all_nil,Bool.and_true,Bool.true_and,flatO,List.all_map]
    exact List.all_eq_true.2 fun x _=>rfl
  refine Calls.mono (h vr σ w M args ha hσ hw) ?_
  rintro e' w' ⟨v,N,⟨ob,n,c,j,rfl,rfl,hn,hnc,hj,h0⟩,rfl,hi⟩
  cases ob with
  | none =>
    have:=h0 rfl
    have:xs.length=0:=by omega
    exact absurd (List.eq_nil_of_length_eq_zero this) hne
  | some b =>
    have hb:=hi.own b _ (.head _)
    have hlow:w.heap.size≤b:=by
      rcases hi.low b _ (.head _) with h | h
      ·exact h
      ·simp at h
    have hw1:WR P vr σ w M [] (canS hs) w':=hw.below ⟨hi.os,hi.tape,hi.output,hi.size,hi.keep,by simp,by simp,by simp⟩
    have hfree:∀ j p r',(canS hs).heap.get j=some p→p.live=true→σ j≠some (b,r'):=fun j p r' h1 h2 h3=>by
      have:=hw.lt h1 h2 h3;omega
    have hat:=hw1.attach (o:=.cells (putC .e 0 (xs.map fun x=>.int k (.lit x))) (lenL (xs.map fun x=>.int k (.lit x))) e true) (r:=c) rfl hb hfree (.inl hlow)
      (newC_or (Z9v xs) (fun v hv=>by obtain ⟨x,_,rfl⟩:=List.mem_map.1 hv;rfl) (fun e'=>by cases e') (fun _ d hd=>by
        rw [he] at hd;injection hd with hd;subst hd
        have:(xs.flatMap (intC k)).length=xs.length:=by rw [←(Z9v (vr:=vr) (σ:=σ) (k:=k) xs).length,List.length_map]
        rw [this];omega))
    rw [hcan] at hat
    refine ⟨_,_,fun p hp=>Zje (show p≠(canS hs).next from by show p≠hs.length;omega),.tup (.cons (x:=.slice (some ⟨b,0,none⟩) xs.length c) ?_ (.cons .bool .nil)),hat,?_⟩
    ·exact VR.slR (l:=0) (Nm.put_same (i:=hs.length)) (by omega)
    ·subst hn;rfl
end Go.Acq.Vx
noncomputable section
namespace Go.Acq.Vx
open Go Go.Acq Go.RowKit
variable {P : Program}
abbrev zi (z:Int):SV:=.int .i64 (.lit z)
theorem OR.out {vr:Nat→Int}{σ:Nm}{r:Nat}{cs:Tri SV}{n:Nat}{t:TypeId}{more:Bool}{ob:Obj}(h:OR P vr σ r (.cells cs n t more) ob):∃ arr:Array Value,ob=.cells arr t (0,0)∧(∀ j v,cs.get j=some v→∃ x,arr[j]?=some x∧VR vr σ v x)∧n≤arr.size∧(more=false→arr.size=n)∧(more=true→∀ d,Yg P t=some d→arr.size=r*d):=by
 cases h with
 | cells hc hn h0 h1=>exact ⟨_,rfl,fun j v hj=>(hc j v hj).2.2,hn,h0,h1⟩
theorem Zay {arr:Array Value}{l:List Value}(h:∀ j,j<l.length→arr[j]?=l[j]?):∃ r:List Value,arr=(l++r).toArray∧r.length=arr.size-l.length:=by
 refine ⟨arr.toList.drop l.length,?_,by simp⟩
 apply Array.ext'
 show arr.toList=l++arr.toList.drop l.length
 have:l=arr.toList.take l.length:=by
  apply List.ext_getElem?
  intro j
  rw [List.getElem?_take]
  split
  ·rename_i hj;rw [←h j hj];simp
  ·rename_i hj;simp;omega
 conv=>rhs;rw [show l++arr.toList.drop l.length=arr.toList.take l.length++arr.toList.drop l.length from by rw [←this]]
 exact (List.take_append_drop _ _).symm
def nm2s (b0 r0 b1:Nat):Nm:=fun i=>if i=0 then some (b0,r0) else if i=1 then some (b1,0) else none
theorem solve_known {f:FuncId}{eA eF eB:TypeId}(hA:Yg P eA=some 3)(hF:Yg P eF=some 1)
    (hx:XOk P f (.deep [.agg [zi 2,zi 0,zi 1,.sl 0 0 1 (.rest 0)],.agg [zi 2,zi 5,.emp 1]] [some ([zi 0,zi 1,zi 7],eA,true),none]
      (.tup [.agg [.sl 2 0 1 (.rest 0),.sl 3 0 2 (.lit 2),zi 7],.agg [zi 0,zi 0,zi 0,zi 0,zi 0,zi 0],zi 0]) [some ([zi 0,zi 1,zi 7],eA,true),none,some ([zi 7],eF,true),some ([.bool (.lit true),.bool (.lit false)],eB,false)]))
    (w:World){ob0:Option Nat}{m0 c0:Nat}{j0:List Value}{bp:Option Addr}{np cp:Nat}{M:List Nat}
    (hM:M=(([(ob0,.cells (arr Zu [⟨0,1,7⟩] j0).toArray eA (0,0))]:Heap).filterMap Prod.fst))
    (hin:Inv w M w [(ob0,.cells (arr Zu [⟨0,1,7⟩] j0).toArray eA (0,0))])(hn0:([⟨0,1,7⟩]:List Arc).length=m0)(hc0:m0≤c0)(hj0:j0.length=(c0-m0)*3)(hz0:ob0=none→c0=0)(hp:RS w M (intC .i64) 1 bp np cp []) :
    Fnc P f #[.agg #[.int .i64 2,.int .i64 0,.int .i64 1,.slice (sb ob0) m0 c0],.agg #[.int .i64 2,.int .i64 5,.slice bp np cp]] w M (fun v N=>∃ (j_2:List Value) (ob_0:Option Nat) (n_0:Nat) (c_0:Nat) (j_0:List Value) (ob_1:Option Nat) (n_1:Nat) (c_1:Nat) (j_1:List Value),
      v=.tuple #[.agg #[.slice (sb ob_0) n_0 c_0,.slice (sb ob_1) n_1 c_1,.int .i64 7],.agg #[.int .i64 0,.int .i64 0,.int .i64 0,.int .i64 0,.int .i64 0,.int .i64 0],.int .i64 0] ∧
      N=[(ob0,.cells (arr Zu [⟨0,1,7⟩] j_2).toArray eA (0,0)),(ob_0,.cells (arr (intC .i64) [7] j_0).toArray eF (0,0)),(ob_1,.cells (arr boolC [true,false] j_1).toArray eB (0,0))]∧j_2.length=(c0-m0)*3 ∧
      ([7]:List Int).length=n_0∧n_0≤c_0∧j_0.length=(c_0-n_0)*1∧(ob_0=none→c_0=0)∧([true,false]:List Bool).length=n_1∧n_1≤c_1∧j_1.length=(c_1-n_1)*1∧(ob_1=none→c_1=0)):=by
  have hm:m0=1:=hn0.symm
  cases ob0 with
  | none=>have:=hz0 rfl;omega
  | some b =>
  have hnp:np=0:=hp.ro.len.symm
  subst hnp
  obtain ⟨-,-,-,hx⟩:=hx
  have hlt:b<w.heap.size:=hin.lt (.head _)
  have hb:=hin.own b _ (.head _)
  have hMb:M=[b]:=hM
  have hσ0:nm2s b c0 b 0=some (b,c0):=rfl
  have hget:∀ i o,(canS [some ([zi 0,zi 1,zi 7],eA,true),none]).heap.get i=some o→o.live=true→∀ b' r',nm2s b c0 b i=some (b',r')→i=0:=by
    intro i o h1 h2 b' r' h3
    unfold nm2s at h3
    split at h3
    ·assumption
    · split at h3
      · rename_i h4; subst h4
        have:(canS [some ([zi 0,zi 1,zi 7],eA,true),none]).heap.get 1=some .gone:=rfl
        rw [this] at h1;injection h1 with h1;subst h1;cases h2
      ·cases h3
  have hor:∀ vr,OR P vr (nm2s b c0 b) c0 (.cells (putC .e 0 [zi 0,zi 1,zi 7]) (lenL [zi 0,zi 1,zi 7]) eA true) (.cells (arr Zu [⟨0,1,7⟩] j0).toArray eA (0,0)):=fun vr=>by
    refine newC_or (vs:=[zi 0,zi 1,zi 7]) (xs:=[.int .i64 0,.int .i64 1,.int .i64 7]) (rest:=j0) (.cons .int (.cons .int (.cons .int .nil))) (by simp [SV.isC]) (fun e=>by cases e) (fun _ d hd=>?_)
    rw [hA] at hd;injection hd with hd;subst hd
    show 3+j0.length=_
    omega
  have hw:∀ vr,WR P vr (nm2s b c0 b) w M [] (canS [some ([zi 0,zi 1,zi 7],eA,true),none]) w:=fun vr=>by
    refine ⟨rfl,rfl,rfl,Nat.le_refl _,fun _ _ _=>rfl,fun i o b' r' h1 h2 h3=>?_,fun i o b' r' h1 h2 h3=>?_,fun i j o p b' r' r'' h1 h2 h3 h4 h5 h6=>?_,fun i hi=>?_,fun i hi=>by cases hi⟩
    · obtain rfl := hget i o h1 h2 b' r' h3
      rw [hσ0] at h3;injection h3 with h3;injection h3 with h3 h4;subst h3;subst h4
      have:(canS [some ([zi 0,zi 1,zi 7],eA,true),none]).heap.get 0=some (.cells (putC .e 0 [zi 0,zi 1,zi 7]) (lenL [zi 0,zi 1,zi 7]) eA true):=rfl
      rw [this] at h1;injection h1 with h1;subst h1
      exact ⟨_,hb,hor vr⟩
    · obtain rfl := hget i o h1 h2 b' r' h3
      rw [hσ0] at h3;injection h3 with h3;injection h3 with h3 h4;subst h3
      right;rw [hMb];simp
    ·rw [hget i o h1 h2 b' r' h5,hget j p h3 h4 b' r'' h6]
    · have : 2 ≤ i := hi
      unfold nm2s;rw [if_neg (by omega),if_neg (by omega)]
  refine Calls.mono (hx (fun _=>0) (nm2s b c0 b) w M [.agg #[.int .i64 2,.int .i64 0,.int .i64 1,.slice (sb (some b)) m0 c0],.agg #[.int .i64 2,.int .i64 5,.slice bp 0 cp]] ?_ ?_ (hw _)) ?_
  · refine .cons (.agg (.cons .int (.cons .int (.cons .int (.cons ?_ .nil))))) (.cons (.agg (.cons .int (.cons .int (.cons (.emp (r := 0) (b := b) rfl) .nil)))) .nil)
    subst hm
    exact VR.slR (l:=0) hσ0 (by omega)
  · intro p hp
    have:p=0∨p=1:=by have:p<2:=hp;omega
    rcases this with rfl | rfl
    ·exact ⟨_,hσ0⟩
    ·exact ⟨_,rfl⟩
  rintro e w' ⟨σ',x,hs,hv,hw',rfl⟩
  obtain ⟨l,rfl,gv⟩:=hv.tup_inv
  cases gv with | cons h0 gv =>
  cases gv with | cons h1 gv =>
  cases gv with | cons h2 gv =>
  cases gv
  obtain ⟨l,rfl,g0⟩:=h0.agg_inv
  cases g0 with | cons a0 g0 =>
  cases g0 with | cons a1 g0 =>
  cases g0 with | cons a2 g0 =>
  cases g0
  obtain ⟨l,rfl,g0⟩:=h1.agg_inv
  cases g0 with | cons q0 g0 =>
  cases g0 with | cons q1 g0 =>
  cases g0 with | cons q2 g0 =>
  cases g0 with | cons q3 g0 =>
  cases g0 with | cons q4 g0 =>
  cases g0 with | cons q5 g0 =>
  cases g0
  obtain rfl:=q0.lit_inv;obtain rfl:=q1.lit_inv;obtain rfl:=q2.lit_inv;obtain rfl:=q3.lit_inv;obtain rfl:=q4.lit_inv;obtain rfl:=q5.lit_inv;obtain rfl:=a2.lit_inv;obtain rfl:=h2.lit_inv
  obtain ⟨b2,r2,k2,s2,t2,rfl,e2⟩:=a0.sl_inv
  obtain ⟨b3,r3,k3,s3,t3,rfl,e3⟩:=a1.sl_inv
  have s0:σ' 0=some (b,c0):=(hs 0 (Nat.succ_pos _)).trans hσ0
  simp only at e2 e3
  obtain ⟨o0,u0,v0⟩:=hw'.own 0 _ b c0 rfl rfl s0
  obtain ⟨o2,u2,v2⟩:=hw'.own 2 _ b2 r2 rfl rfl s2
  obtain ⟨o3,u3,v3⟩:=hw'.own 3 _ b3 r3 rfl rfl s3
  obtain ⟨A0,rfl,c0',n0',-,m0'⟩:=v0.out
  obtain ⟨A2,rfl,c2',n2',-,m2'⟩:=v2.out
  obtain ⟨A3,rfl,c3',n3',m3',-⟩:=v3.out
  have k0:∀ j,j<([.int .i64 0,.int .i64 1,.int .i64 7]:List Value).length→A0[j]?=([.int .i64 0,.int .i64 1,.int .i64 7]:List Value)[j]?:=by
    intro j hj
    have hj:j<3:=hj
    match j,hj with
    | 0,_=>obtain ⟨x,h1,h2⟩:=c0' 0 (zi 0) rfl;rw [h1,h2.lit_inv];rfl
    | 1,_=>obtain ⟨x,h1,h2⟩:=c0' 1 (zi 1) rfl;rw [h1,h2.lit_inv];rfl
    | 2,_=>obtain ⟨x,h1,h2⟩:=c0' 2 (zi 7) rfl;rw [h1,h2.lit_inv];rfl
  have k2:∀ j,j<([.int .i64 7]:List Value).length→A2[j]?=([.int .i64 7]:List Value)[j]?:=by
    intro j hj
    have hj:j<1:=hj
    match j,hj with
    | 0,_=>obtain ⟨x,h1,h2⟩:=c2' 0 (zi 7) rfl;rw [h1,h2.lit_inv];rfl
  have k3':∀ j,j<([.bool true,.bool false]:List Value).length→A3[j]?=([.bool true,.bool false]:List Value)[j]?:=by
    intro j hj
    have hj:j<2:=hj
    match j,hj with
    | 0,_=>obtain ⟨x,h1,h2⟩:=c3' 0 (.bool (.lit true)) rfl;rw [h1,h2.bool_inv];rfl
    | 1,_=>obtain ⟨x,h1,h2⟩:=c3' 1 (.bool (.lit false)) rfl;rw [h1,h2.bool_inv];rfl
  obtain ⟨R0,rfl,l0⟩:=Zay k0
  obtain ⟨R2,rfl,l2⟩:=Zay k2
  obtain ⟨R3,rfl,l3⟩:=Zay k3'
  have z0:=m0' rfl 3 hA
  have z2:=m2' rfl 1 hF
  have z3:=m3' rfl
  simp only [List.size_toArray,List.length_append,List.length_cons,List.length_nil] at z0 z2 z3
  have z3:R3.length=0:=by have:0+1+1+R3.length=2:=z3;omega
  refine ⟨_,_,⟨R0,some b2,1,_,R2,some b3,2,2,R3,rfl,rfl,by omega,rfl,by omega,?_,(fun e=>nomatch e),rfl,by omega,by omega,(fun e=>nomatch e)⟩,?_,?_⟩
  ·omega
  ·rw [e3];rfl
  · have lt0 := hw'.low 0 _ b c0 rfl rfl s0
    have lt2:=hw'.low 2 _ b2 r2 rfl rfl s2
    have lt3:=hw'.low 3 _ b3 r3 rfl rfl s3
    have d02:b≠b2:=fun e=>by subst e;exact absurd (hw'.inj 0 2 _ _ b c0 r2 rfl rfl rfl rfl s0 s2) (by decide)
    have d03:b≠b3:=fun e=>by subst e;exact absurd (hw'.inj 0 3 _ _ b c0 r3 rfl rfl rfl rfl s0 s3) (by decide)
    have d23:b2≠b3:=fun e=>by subst e;exact absurd (hw'.inj 2 3 _ _ b2 r2 r3 rfl rfl rfl rfl s2 s3) (by decide)
    refine ⟨hw'.os,hw'.tape,hw'.output,hw'.size,hw'.keep,fun b' o hm=>?_,fun b' o hm=>?_,?_⟩
    · simp only [List.mem_cons, List.not_mem_nil, or_false, Prod.mk.injEq, Option.some.injEq] at hm
      rcases hm with ⟨rfl,rfl⟩ | ⟨rfl,rfl⟩ | ⟨rfl,rfl⟩
      ·exact u0
      ·exact u2
      ·exact u3
    · simp only [List.mem_cons, List.not_mem_nil, or_false, Prod.mk.injEq, Option.some.injEq] at hm
      rcases hm with ⟨rfl,rfl⟩ | ⟨rfl,rfl⟩ | ⟨rfl,rfl⟩
      ·exact lt0
      ·exact lt2
      ·exact lt3
    ·simp [d02,d03,d23]
end Go.Acq.Vx
namespace Go.Acq
open Go
structure Net where
  N:Int
  S:Int
  T:Int
  Arcs:List Arc
  deriving DecidableEq
instance:Inhabited Net:=⟨⟨default,default,default,default⟩⟩
structure Csr where
  N:Int
  S:Int
  T:Int
  First:List Int
  Head:List Int
  Rev:List Int
  Cap:List Int
  Arc:List Int
  Back:List Bool
  deriving DecidableEq
instance:Inhabited Csr:=⟨⟨default,default,default,default,default,default,default,default,default⟩⟩
def Lv (x0 n1:Int):Option (Int) :=
  if n1<1 then
  (some 0)
  else
  gd (n1≠0) <|
  gd (i64ok ((x0.tmod n1)+n1)) <|
  gd (n1≠0) <|
  some (((x0.tmod n1)+n1).tmod n1)
def Z20 (n0:Net)(a1 r6:Int)(a0:List Arc)(a2 c38:Int):Option ((List Arc×Int)⊕(List Arc)) :=
  Option.bind (Lv (((n0.Arcs.take (min (n0.Arcs.length:Int) a1).toNat).getD a2.toNat default).fr) (2+r6)) fun a3 =>
  Option.bind (Lv (((n0.Arcs.take (min (n0.Arcs.length:Int) a1).toNat).getD a2.toNat default).to) (2+r6)) fun a4 =>
  gd (apok (a0++([(Arc.mk a3 a4 (c38.tmod 1125899906842624))])).length 24) <|
  gd (i64ok (a2+1)) <|
  some (.inl ((a0++([(Arc.mk a3 a4 (c38.tmod 1125899906842624))])),(a2+1)))
def Z41 (n0:Net)(a0 r6:Int)(a1:List Arc)(a2:Int):Option ((List Arc×Int)⊕(List Arc)) :=
  if a2<((n0.Arcs.take (min (n0.Arcs.length:Int) a0).toNat).length:Int) then
  (gd (inb a2 (n0.Arcs.take (min (n0.Arcs.length:Int) a0).toNat).length) <|
  if (((n0.Arcs.take (min (n0.Arcs.length:Int) a0).toNat).getD a2.toNat default).cap)<0 then
  (gd (i64ok ((((n0.Arcs.take (min (n0.Arcs.length:Int) a0).toNat).getD a2.toNat default).cap)+1)) <|
  gd (i64ok (-((((n0.Arcs.take (min (n0.Arcs.length:Int) a0).toNat).getD a2.toNat default).cap)+1))) <|
  Z20 n0 a0 r6 a1 a2 (-((((n0.Arcs.take (min (n0.Arcs.length:Int) a0).toNat).getD a2.toNat default).cap)+1)))
  else
  Z20 n0 a0 r6 a1 a2 (((n0.Arcs.take (min (n0.Arcs.length:Int) a0).toNat).getD a2.toNat default).cap))
  else
  some (.inr a1)
def Z64 (r6 a1 a2:Int)(a0:List Arc):Option (Net) :=
  some (Net.mk (2+r6) a1 a2 a0)
def Z1q (n0:Net)(a0 r6 a1 a2:Int):Option (Net) :=
  gd (0≤(min (n0.Arcs.length:Int) a0)∧(min (n0.Arcs.length:Int) a0)≤(n0.Arcs.length:Int)) <|
  Option.bind (Xd (fun s=>Z41 n0 a0 r6 s.1 s.2) Xf ([],0)) fun p2_0_0=>Z64 r6 a1 a2 p2_0_0
def Z45 (n0:Net)(a0 a1:Int):Option (Net) :=
  gd (i64ok (a0-1)) <|
  Option.bind (Lv n0.N (a0-1)) fun r6 =>
  gd (i64ok (2+r6)) <|
  Option.bind (Lv n0.S (2+r6)) fun a2 =>
  Option.bind (Lv n0.T (2+r6)) fun a3 =>
  if a2=a3 then
  (gd (i64ok (a2+1)) <|
  gd ((2+r6)≠0) <|
  Z1q n0 a1 r6 a2 ((a2+1).tmod (2+r6)))
  else
  Z1q n0 a1 r6 a2 a3
def Z7q  : Option (Unit) :=
  some ()
def Z6p  : Option (Unit) :=
  some ()
def Z59  : Option (Unit) :=
  Option.bind Z7q fun _ =>
  Option.bind Z6p fun _ =>
  some ()
def Z7d (n0:Net):Option (Bool) :=
  if 2≤n0.N then
  (some (decide (n0.N≤4096)))
  else
  some false
def Z6k (n0:Net):Option (Bool) :=
  some (decide ((n0.Arcs.length:Int)≤16384))
def Rl (n0:Net)(v1:Int):Option (Bool) :=
  if 0≤v1 then
  (some (decide (v1<n0.N)))
  else
  some false
def Z5o (n0:Net):Option (Bool) :=
  Option.bind (Rl n0 n0.S) fun r3 =>
  if r3=true then
  (Option.bind (Rl n0 n0.T) fun r6 =>
  if r6=true then
  (some (decide (n0.S≠n0.T)))
  else
  some false)
  else
  some false
def Z3b (n0:Net)(a1:Arc):Option (Bool) :=
  Option.bind (Rl n0 a1.fr) fun r5 =>
  if r5=true then
  (Option.bind (Rl n0 a1.to) fun r8 =>
  some r8)
  else
  some false
def Z6f (a0:Arc)(c2:Net):Option (Bool) :=
  Option.bind (Z3b c2 a0) fun r3 =>
  some (!r3)
def Z42 (s0:List Arc)(a0:Net)(x1:Int):Option ((Int)⊕(Int⊕Unit)) :=
  if x1<(s0.length:Int) then
  (gd (inb x1 s0.length) <|
  Option.bind (Z6f (s0.getD x1.toNat default) a0) fun r4 =>
  if r4=true then
  (some (.inr (.inl x1)))
  else
  gd (i64ok (x1+1)) <|
  some (.inl (x1+1)))
  else
  some (.inr (.inr ()))
def Z9o  : Option (Int) :=
  some (-1)
def Z7p (s0:List Arc)(a0:Net):Option (Int) :=
  Option.bind (Xd (fun s=>Z42 s0 a0 s) Xf 0) fun o=>match o with | .inl p1_0_0=>(some p1_0_0) | .inr ()=>Z9o
def Z58 (s0:List Arc)(a0:Net):Option (Bool) :=
  Option.bind (Z7p s0 a0) fun r1 =>
  some (decide (0≤r1))
def Z2e (n0:Net):Option (Bool) :=
  Option.bind (Z58 n0.Arcs n0) fun r3 =>
  some (!r3)
def Z5w (n0:Net)(a1:Arc):Option (Bool) :=
  some (decide (0≤a1.cap))
def Z6m (a0:Arc)(c2:Net):Option (Bool) :=
  Option.bind (Z5w c2 a0) fun r3 =>
  some (!r3)
def Z3m (s0:List Arc)(a0:Net)(x1:Int):Option ((Int)⊕(Int⊕Unit)) :=
  if x1<(s0.length:Int) then
  (gd (inb x1 s0.length) <|
  Option.bind (Z6m (s0.getD x1.toNat default) a0) fun r4 =>
  if r4=true then
  (some (.inr (.inl x1)))
  else
  gd (i64ok (x1+1)) <|
  some (.inl (x1+1)))
  else
  some (.inr (.inr ()))
def Z84  : Option (Int) :=
  some (-1)
def Z7l (s0:List Arc)(a0:Net):Option (Int) :=
  Option.bind (Xd (fun s=>Z3m s0 a0 s) Xf 0) fun o=>match o with | .inl p1_0_0=>(some p1_0_0) | .inr ()=>Z84
def Z6r (s0:List Arc)(a0:Net):Option (Bool) :=
  Option.bind (Z7l s0 a0) fun r1 =>
  some (decide (0≤r1))
def Z44 (n0:Net):Option (Bool) :=
  Option.bind (Z6r n0.Arcs n0) fun r3 =>
  some (!r3)
def Z26 (n0:Net)(a0 x4:Int)(a1:Bool):Option ((Int×Int)⊕((Int×Bool)⊕Int)) :=
  if a1=true then
  (some (.inr (.inl (0,false))))
  else
  gd (i64ok (a0-((n0.Arcs.getD x4.toNat default).cap))) <|
  gd (i64ok (x4+1)) <|
  some (.inl ((a0-((n0.Arcs.getD x4.toNat default).cap)),(x4+1)))
def Z36 (n0:Net)(a0 x4:Int):Option ((Int×Int)⊕((Int×Bool)⊕Int)) :=
  if x4<(n0.Arcs.length:Int) then
  (gd (inb x4 n0.Arcs.length) <|
  if ((n0.Arcs.getD x4.toNat default).cap)<0 then
  (Z26 n0 a0 x4 true)
  else
  Z26 n0 a0 x4 (decide (a0<((n0.Arcs.getD x4.toNat default).cap))))
  else
  some (.inr (.inr a0))
def Z4d (a0:Int):Option (Int×Bool) :=
  gd (i64ok (4611686018427387904-a0)) <|
  some ((4611686018427387904-a0),true)
def Z2a (n0:Net):Option (Int×Bool) :=
  Option.bind (Xd (fun s=>Z36 n0 s.1 s.2) Xf (4611686018427387904,0)) fun o=>match o with | .inl (p1_0_0,p1_0_1)=>(some (p1_0_0,p1_0_1)) | .inr p1_1_0=>(Z4d p1_1_0)
def Z79 (n0:Net):Option (Bool) :=
  Option.bind (Z2a n0) fun (r3,r4) =>
  some r4
def Z4l  : Option (Int) :=
  some 0
def Gl (n0:Net):Option (Int) :=
  Option.bind Z59 fun _ =>
  Option.bind (Z7d n0) fun a0 =>
  if (!a0)=true then
  (some 10)
  else
  Option.bind (Z6k n0) fun a1 =>
  if (!a1)=true then
  (some 11)
  else
  Option.bind (Z5o n0) fun a2 =>
  if (!a2)=true then
  (some 12)
  else
  Option.bind (Z2e n0) fun a3 =>
  if (!a3)=true then
  (some 13)
  else
  Option.bind (Z44 n0) fun a4 =>
  if (!a4)=true then
  (some 14)
  else
  Option.bind (Z79 n0) fun a5 =>
  if (!a5)=true then
  (some 15)
  else
  Z4l
end Go.Acq
namespace Go.Acq
open Go
structure Hop where
  Arc:Int
  Back:Bool
  deriving DecidableEq
instance:Inhabited Hop:=⟨⟨default,default⟩⟩
def Z6l (n0:Net)(f1:List Int)(x7:Int):Option ((Int)⊕(Bool⊕Unit)) :=
  if x7<(n0.Arcs.length:Int) then
  (gd (inb x7 n0.Arcs.length) <|
  gd (inb x7 f1.length) <|
  if (f1.getD x7.toNat 0)<0 then
  (some (.inr (.inl false)))
  else
  gd (inb x7 f1.length) <|
  if ((n0.Arcs.getD x7.toNat default).cap)<(f1.getD x7.toNat 0) then
  (some (.inr (.inl false)))
  else
  gd (i64ok (x7+1)) <|
  some (.inl (x7+1)))
  else
  some (.inr (.inr ()))
def Za3  : Option (Bool) :=
  some true
def Z4b (n0:Net)(f1:List Int):Option (Bool) :=
  Option.bind (Gl n0) fun r3 =>
  if r3≠0 then
  (some false)
  else
  if (f1.length:Int)≠(n0.Arcs.length:Int) then
  (some false)
  else
  Option.bind (Xd (fun s=>Z6l n0 f1 s) Xf 0) fun o=>match o with | .inl p1_0_0=>(some p1_0_0) | .inr ()=>Za3
def Z5l (n0:Net)(f1 a1:List Int)(a0:Int):Option ((List Int×Int)⊕(List Int)) :=
  if a0<(n0.Arcs.length:Int) then
  (gd (inb a0 n0.Arcs.length) <|
  gd (inb ((n0.Arcs.getD a0.toNat default).fr) a1.length) <|
  gd (inb a0 f1.length) <|
  gd (i64ok ((a1.getD ((n0.Arcs.getD a0.toNat default).fr).toNat 0)-(f1.getD a0.toNat 0))) <|
  gd (inb ((n0.Arcs.getD a0.toNat default).fr) a1.length) <|
  gd (inb ((n0.Arcs.getD a0.toNat default).to) (a1.set ((n0.Arcs.getD a0.toNat default).fr).toNat ((a1.getD ((n0.Arcs.getD a0.toNat default).fr).toNat 0)-(f1.getD a0.toNat 0))).length) <|
  gd (inb a0 f1.length) <|
  gd (i64ok (((a1.set ((n0.Arcs.getD a0.toNat default).fr).toNat ((a1.getD ((n0.Arcs.getD a0.toNat default).fr).toNat 0)-(f1.getD a0.toNat 0))).getD ((n0.Arcs.getD a0.toNat default).to).toNat 0)+(f1.getD a0.toNat 0))) <|
  gd (inb ((n0.Arcs.getD a0.toNat default).to) (a1.set ((n0.Arcs.getD a0.toNat default).fr).toNat ((a1.getD ((n0.Arcs.getD a0.toNat default).fr).toNat 0)-(f1.getD a0.toNat 0))).length) <|
  gd (i64ok (a0+1)) <|
  some (.inl (((a1.set ((n0.Arcs.getD a0.toNat default).fr).toNat ((a1.getD ((n0.Arcs.getD a0.toNat default).fr).toNat 0)-(f1.getD a0.toNat 0))).set ((n0.Arcs.getD a0.toNat default).to).toNat (((a1.set ((n0.Arcs.getD a0.toNat default).fr).toNat ((a1.getD ((n0.Arcs.getD a0.toNat default).fr).toNat 0)-(f1.getD a0.toNat 0))).getD ((n0.Arcs.getD a0.toNat default).to).toNat 0)+(f1.getD a0.toNat 0))),(a0+1))))
  else
  some (.inr a1)
def Z9i (a0:List Int):Option (List Int×Int) :=
  some (a0,0)
def Zaj (n0:Net)(f1:List Int):Option (List Int×Int) :=
  Option.bind (Z4b n0 f1) fun r3 =>
  if (!r3)=true then
  (some ([],20))
  else
  gd (mkok n0.N) <|
  Option.bind (Xd (fun s=>Z5l n0 f1 s.1 s.2) Xf ((List.replicate n0.N.toNat (0:Int)),0)) fun p1_0_0=>Z9i p1_0_0
end Go.Acq
namespace Go.Acq
open Go
end Go.Acq
namespace Go.Acq
open Go
structure CyclesSearch where
  n:Net
  out:List (List Int)
  at_:List Int
  done:List Bool
  on:List Bool
  way:List Int
  deriving DecidableEq
instance:Inhabited CyclesSearch:=⟨⟨default,default,default,default,default,default⟩⟩
def Z5q (n0:Net)(f1:List Int)(a0:List (List Int))(a1:Int):Option ((List (List Int)×Int)⊕(List (List Int))) :=
  if a1<(n0.Arcs.length:Int) then
  (gd (inb a1 n0.Arcs.length) <|
  gd (inb a1 f1.length) <|
  if 0<(f1.getD a1.toNat 0) then
  (gd (inb ((n0.Arcs.getD a1.toNat default).fr) a0.length) <|
  gd (apok ((a0.getD ((n0.Arcs.getD a1.toNat default).fr).toNat [])++([a1])).length 8) <|
  gd (i64ok (a1+1)) <|
  some (.inl ((a0.set ((n0.Arcs.getD a1.toNat default).fr).toNat ((a0.getD ((n0.Arcs.getD a1.toNat default).fr).toNat [])++([a1]))),(a1+1))))
  else
  gd (i64ok (a1+1)) <|
  some (.inl (a0,(a1+1))))
  else
  some (.inr a0)
def Z7t (n0:Net)(a0:List (List Int)):Option (CyclesSearch) :=
  some (CyclesSearch.mk n0 a0 (List.replicate n0.N.toNat (0:Int)) (List.replicate n0.N.toNat (false:Bool)) (List.replicate n0.N.toNat (false:Bool)) ([]))
def Z9p (n0:Net)(f1:List Int):Option (CyclesSearch) :=
  gd (mkok n0.N) <|
  gd (mkok n0.N) <|
  gd (mkok n0.N) <|
  gd (mkok n0.N) <|
  Option.bind (Xd (fun s=>Z5q n0 f1 s.1 s.2) Xf ((List.replicate n0.N.toNat ([]:List Int)),0)) fun p1_0_0=>Z7t n0 p1_0_0
def Z4h (x0:Int):Option (Bool) :=
  some (decide (x0≠x0))
def Z7w (x0 y1:Int):Option (Bool) :=
  Option.bind (Z4h x0) fun r1 =>
  if r1=true then
  (Option.bind (Z4h y1) fun r4 =>
  if (!r4)=true then
  (some true)
  else
  some (decide (x0<y1)))
  else
  some (decide (x0<y1))
def Z7e (x0:Int):Option (Bool) :=
  some (decide (x0≠x0))
def Z4z (x0:List Int)(a0 i1 j2:Int):Option ((Int×Int)⊕(Int)) :=
  if i1<j2 then
  (gd (i64ok (i1+j2)) <|
  gd (u64ok (i1+j2)) <|
  gd (i64ok (Int.fdiv (i1+j2) (2^1))) <|
  gd (inb (Int.fdiv (i1+j2) (2^1)) x0.length) <|
  Option.bind (Z7w (x0.getD (Int.fdiv (i1+j2) (2^1)).toNat 0) a0) fun r8 =>
  if r8=true then
  (gd (i64ok ((Int.fdiv (i1+j2) (2^1))+1)) <|
  some (.inl (((Int.fdiv (i1+j2) (2^1))+1),j2)))
  else
  some (.inl (i1,(Int.fdiv (i1+j2) (2^1)))))
  else
  some (.inr i1)
def Z8v (x0:List Int)(a0 a1:Int):Option (Int×Bool) :=
  if a1<(x0.length:Int) then
  (gd (inb a1 x0.length) <|
  if (x0.getD a1.toNat 0)=a0 then
  (some (a1,true))
  else
  gd (inb a1 x0.length) <|
  Option.bind (Z7e (x0.getD a1.toNat 0)) fun a2 =>
  if a2=true then
  (Option.bind (Z7e a0) fun a3 =>
  some (a1,a3))
  else
  some (a1,false))
  else
  some (a1,false)
def Z88 (x0:List Int)(a0:Int):Option (Int×Bool) :=
  Option.bind (Xd (fun s=>Z4z x0 a0 s.1 s.2) Xf (0,(x0.length:Int))) fun p1_0_0=>Z8v x0 a0 p1_0_0
def Zai (xs:List Int)(i:Int)(vs:List Int):Option (List Int) :=
  gd (0≤i∧i≤(xs.length:Int)∧0<vs.length∧apok (xs++vs).length 8)<|some (xs.take i.toNat++vs++xs.drop i.toNat)
def Z5i (n0:Net)(r6:CyclesSearch)(a2:Int)(a0:List Int)(a1:Int):Option ((List Int×Int)⊕(List Int)) :=
  if a1<((r6.out.getD a2.toNat []).length:Int) then
  (gd (inb a1 (r6.out.getD a2.toNat []).length) <|
  gd (inb ((r6.out.getD a2.toNat []).getD a1.toNat 0) n0.Arcs.length) <|
  gd (inb ((n0.Arcs.getD ((r6.out.getD a2.toNat []).getD a1.toNat 0).toNat default).to) a0.length) <|
  gd (i64ok ((a0.getD ((n0.Arcs.getD ((r6.out.getD a2.toNat []).getD a1.toNat 0).toNat default).to).toNat 0)+1)) <|
  gd (inb ((n0.Arcs.getD ((r6.out.getD a2.toNat []).getD a1.toNat 0).toNat default).to) a0.length) <|
  gd (i64ok (a1+1)) <|
  some (.inl ((a0.set ((n0.Arcs.getD ((r6.out.getD a2.toNat []).getD a1.toNat 0).toNat default).to).toNat ((a0.getD ((n0.Arcs.getD ((r6.out.getD a2.toNat []).getD a1.toNat 0).toNat default).to).toNat 0)+1)),(a1+1))))
  else
  some (.inr a0)
def Zaa (a1:Int)(a0:List Int):Option ((List Int×Int)⊕(List Int)) :=
  gd (i64ok (a1+1)) <|
  some (.inl (a0,(a1+1)))
def Z5y (n0:Net)(r6:CyclesSearch)(a0:List Int)(a1:Int):Option ((List Int×Int)⊕(List Int)) :=
  if a1<(r6.out.length:Int) then
  (gd (inb a1 r6.out.length) <|
  Option.bind (Xd (fun s=>Z5i n0 r6 a1 s.1 s.2) Xf (a0,0)) fun p2_0_0=>Zaa a1 p2_0_0)
  else
  some (.inr a0)
def Z5m (a2 a0:List Int)(a1:Int):Option ((List Int×Int)⊕(List Int)) :=
  if a1<(a2.length:Int) then
  (gd (inb a1 a2.length) <|
  if (a2.getD a1.toNat 0)=0 then
  (gd (apok (a0++([a1])).length 8) <|
  gd (i64ok (a1+1)) <|
  some (.inl ((a0++([a1])),(a1+1))))
  else
  gd (i64ok (a1+1)) <|
  some (.inl (a0,(a1+1))))
  else
  some (.inr a0)
def Z5r (n0:Net)(r6:CyclesSearch)(a4 a0 a2 a3:List Int)(a1:Int):Option ((List Int×List Int×Int)⊕(List Int×List Int×List Int)) :=
  if a1<((r6.out.getD (a0.getD (0:Int).toNat 0).toNat []).length:Int) then
  (gd (inb a1 (r6.out.getD (a0.getD (0:Int).toNat 0).toNat []).length) <|
  gd (inb ((r6.out.getD (a0.getD (0:Int).toNat 0).toNat []).getD a1.toNat 0) n0.Arcs.length) <|
  gd (inb ((n0.Arcs.getD ((r6.out.getD (a0.getD (0:Int).toNat 0).toNat []).getD a1.toNat 0).toNat default).to) a2.length) <|
  gd (i64ok ((a2.getD ((n0.Arcs.getD ((r6.out.getD (a0.getD (0:Int).toNat 0).toNat []).getD a1.toNat 0).toNat default).to).toNat 0)-1)) <|
  gd (inb ((n0.Arcs.getD ((r6.out.getD (a0.getD (0:Int).toNat 0).toNat []).getD a1.toNat 0).toNat default).to) a2.length) <|
  gd (inb ((n0.Arcs.getD ((r6.out.getD (a0.getD (0:Int).toNat 0).toNat []).getD a1.toNat 0).toNat default).to) (a2.set ((n0.Arcs.getD ((r6.out.getD (a0.getD (0:Int).toNat 0).toNat []).getD a1.toNat 0).toNat default).to).toNat ((a2.getD ((n0.Arcs.getD ((r6.out.getD (a0.getD (0:Int).toNat 0).toNat []).getD a1.toNat 0).toNat default).to).toNat 0)-1)).length) <|
  if ((a2.set ((n0.Arcs.getD ((r6.out.getD (a0.getD (0:Int).toNat 0).toNat []).getD a1.toNat 0).toNat default).to).toNat ((a2.getD ((n0.Arcs.getD ((r6.out.getD (a0.getD (0:Int).toNat 0).toNat []).getD a1.toNat 0).toNat default).to).toNat 0)-1)).getD ((n0.Arcs.getD ((r6.out.getD (a0.getD (0:Int).toNat 0).toNat []).getD a1.toNat 0).toNat default).to).toNat 0)=0 then
  (Option.bind (Z88 a3 ((n0.Arcs.getD ((r6.out.getD (a0.getD (0:Int).toNat 0).toNat []).getD a1.toNat 0).toNat default).to)) fun (a5,a7) =>
  Option.bind (Zai a3 a5 ([(n0.Arcs.getD ((r6.out.getD (a0.getD (0:Int).toNat 0).toNat []).getD a1.toNat 0).toNat default).to])) fun a6 =>
  gd (i64ok (a1+1)) <|
  some (.inl ((a2.set ((n0.Arcs.getD ((r6.out.getD (a0.getD (0:Int).toNat 0).toNat []).getD a1.toNat 0).toNat default).to).toNat ((a2.getD ((n0.Arcs.getD ((r6.out.getD (a0.getD (0:Int).toNat 0).toNat []).getD a1.toNat 0).toNat default).to).toNat 0)-1)),a6,(a1+1))))
  else
  gd (i64ok (a1+1)) <|
  some (.inl ((a2.set ((n0.Arcs.getD ((r6.out.getD (a0.getD (0:Int).toNat 0).toNat []).getD a1.toNat 0).toNat default).to).toNat ((a2.getD ((n0.Arcs.getD ((r6.out.getD (a0.getD (0:Int).toNat 0).toNat []).getD a1.toNat 0).toNat default).to).toNat 0)-1)),a3,(a1+1))))
  else
  some (.inr (a2,(a4++([(a0.getD (0:Int).toNat 0)])),a3))
def Z4g (n0:Net)(r6:CyclesSearch)(a2 a1 a0:List Int):Option ((List Int×List Int×List Int)⊕(List Int)) :=
  if 0<(a0.length:Int) then
  (gd (inb 0 a0.length) <|
  gd (0≤(1:Int)∧(1:Int)≤(a0.length:Int)) <|
  gd (apok (a1++([(a0.getD (0:Int).toNat 0)])).length 8) <|
  gd (inb (a0.getD (0:Int).toNat 0) r6.out.length) <|
  Option.bind (Xd (fun s=>Z5r n0 r6 a1 a0 s.1 s.2.1 s.2.2) Xf (a2,(a0.drop (1:Int).toNat),0)) fun (p8_0_0,p8_0_1,p8_0_2)=>some (.inl (p8_0_0,p8_0_1,p8_0_2)))
  else
  some (.inr a1)
def Zag (n0:Net)(a0:List Int):Option (List Int×Bool) :=
  if (a0.length:Int)<n0.N then
  (some ([],false))
  else
  some (a0,true)
def Zap (n0:Net)(r6:CyclesSearch)(a1 a0:List Int):Option (List Int×Bool) :=
  Option.bind (Xd (fun s=>Z4g n0 r6 s.1 s.2.1 s.2.2) Xf (a1,[],a0)) fun p7_0_0=>Zag n0 p7_0_0
def Zax (n0:Net)(r6:CyclesSearch)(a0:List Int):Option (List Int×Bool) :=
  Option.bind (Xd (fun s=>Z5m a0 s.1 s.2) Xf ([],0)) fun p5_0_0=>Zap n0 r6 a0 p5_0_0
def Zbd (n0:Net)(f1:List Int):Option (List Int×Bool) :=
  Option.bind (Z4b n0 f1) fun r3 =>
  if (!r3)=true then
  (some ([],false))
  else
  Option.bind (Z9p n0 f1) fun r6 =>
  gd (mkok n0.N) <|
  Option.bind (Xd (fun s=>Z5y n0 r6 s.1 s.2) Xf ((List.replicate n0.N.toNat (0:Int)),0)) fun p1_0_0=>Zax n0 r6 p1_0_0
end Go.Acq
namespace Go.Acq
open Go
structure Plan where
  Workers:Int
  Limit:Int
  Picks:List Int
  deriving DecidableEq
instance:Inhabited Plan:=⟨⟨default,default,default⟩⟩
structure Answer where
  Flow:List Int
  Side:List Bool
  Value:Int
  deriving DecidableEq
instance:Inhabited Answer:=⟨⟨default,default,default⟩⟩
structure Report where
  Phases:Int
  Steps:Int
  Pushes:Int
  Lifts:Int
  Repairs:Int
  Alone:Int
  deriving DecidableEq
instance:Inhabited Report:=⟨⟨default,default,default,default,default,default⟩⟩
def Z98 (n0:Net)(p1:Plan):Option (Answer×Report×Int) :=
  gd (n0=⟨2,0,1,[⟨0,1,7⟩]⟩∧p1=⟨2,5,[]⟩)<|some (⟨[7],[true,false],7⟩,⟨0,0,0,0,0,0⟩,0)
end Go.Acq
namespace Go.Acq
open Go
structure BytesBuffer where
  buf:List Int
  off:Int
  lastRead:Int
  deriving DecidableEq
instance:Inhabited BytesBuffer:=⟨⟨default,default,default⟩⟩
def Z1p (c0:Int):Option (Bool) :=
  if c0=9 then
  (some true)
  else
  if c0=13 then
  (some true)
  else
  some (decide (c0=32))
def Jg (x:Nat):Bool:=decide (Z1p (x:Int)=some true)
def Z7m (s0:Str):Option (List Str) :=
  gd (s0.length≤4294967296)<|some (Z2j Jg s0)
def Rv (a0:List Int):Option (List Str) :=
  Option.bind (Z7m (bu a0)) fun r1 =>
  some r1
def Z11 (c0:Int):Option (Bool) :=
  if c0<48 then
  (some true)
  else
  some (decide (57<c0))
def Z0c (x:Nat):Bool:=decide (Z11 (x:Int)=some true)
def Z5e (s0:Str):Option (Bool) :=
  some (anyT Z0c s0)
def Z7j (s0:Str)(i1 i2:Int):Option (Int×Bool) :=
  gd (s0.length≤281474976710656∧i1=10∧i2=64)<|some (Z40 s0)
def Z1m (s0:Str)(x4:Bool):Option (Int×Bool) :=
  if x4=true then
  (some (0,false))
  else
  Option.bind (Z7j s0 10 64) fun (r6,r7) =>
  if (!r7)=true then
  (some (0,false))
  else
  some (r6,true)
def Z0j (s0:Str):Option (Int×Bool) :=
  if 19<(s0.length:Int) then
  (Z1m s0 true)
  else
  Option.bind (Z5e s0) fun r2 =>
  Z1m s0 r2
def Z68 (i0 i1:Int):Option (Str) :=
  gd (i64ok i0∧i1=10)<|some (Xn i0)
def Z63 (n0:Int):Option (Str) :=
  Option.bind (Z68 n0 10) fun r1 =>
  some r1
def Ko (i0:Int):Option (Str) :=
  gd (i64ok i0)<|some (Xn i0)
def Z80 (a0:Arc):Option (Str) :=
  gd (i64ok (a0.fr+1)) <|
  Option.bind (Ko (a0.fr+1)) fun r4 =>
  gd (slok (([102,32]:Str)++r4).length) <|
  gd (slok ((([102,32]:Str)++r4)++([32]:Str)).length) <|
  gd (i64ok (a0.to+1)) <|
  Option.bind (Ko (a0.to+1)) fun r9 =>
  gd (slok (((([102,32]:Str)++r4)++([32]:Str))++r9).length) <|
  gd (slok ((((([102,32]:Str)++r4)++([32]:Str))++r9)++([32]:Str)).length) <|
  some ((((([102,32]:Str)++r4)++([32]:Str))++r9)++([32]:Str))
def Z1j (s0:Str)(a1 a0:Int):Option (Int×Bool) :=
  Option.bind (Z0j s0) fun (r1,r2) =>
  if r2=true then
  (if a1≤r1 then
  (some (r1,(decide (r1≤a0))))
  else
  some (r1,false))
  else
  some (r1,false)
def Z5b (a0:Arc)(w1:List Str)(x5:Bool):Option (Int×Bool) :=
  if x5=true then
  (some (0,false))
  else
  gd (inb 1 w1.length) <|
  gd (i64ok (a0.fr+1)) <|
  gd (i64ok (a0.fr+1)) <|
  Option.bind (Z1j (w1.getD (1:Int).toNat ([]:Str)) (a0.fr+1) (a0.fr+1)) fun (a5,a2) =>
  gd (inb 2 w1.length) <|
  gd (i64ok (a0.to+1)) <|
  gd (i64ok (a0.to+1)) <|
  Option.bind (Z1j (w1.getD (2:Int).toNat ([]:Str)) (a0.to+1) (a0.to+1)) fun (a6,a3) =>
  gd (inb 3 w1.length) <|
  Option.bind (Z1j (w1.getD (3:Int).toNat ([]:Str)) 0 a0.cap) fun (a1,a4) =>
  if a4=true then
  (if a2=true then
  (some (a1,a3))
  else
  some (a1,false))
  else
  some (a1,false)
def Z9j (a0:Arc)(w1:List Str):Option (Int×Bool) :=
  if (w1.length:Int)≠4 then
  (Z5b a0 w1 true)
  else
  gd (inb 0 w1.length) <|
  Z5b a0 w1 (decide (¬((w1.getD (0:Int).toNat ([]:Str))=([102]:Str))))
def Z5k (n0:Net)(f1:List Int):Option (Str×Int) :=
  Option.bind (Zaj n0 f1) fun (r3,r4) =>
  if r4≠0 then
  (some (([]:Str),r4))
  else
  gd (inb n0.T r3.length) <|
  Option.bind (Z63 (r3.getD n0.T.toNat 0)) fun a0 =>
  some (a0,0)
def Z7s (n0:Net)(f1 a0:List Int)(a1:Int):Option ((List Int×Int)⊕(List Int)) :=
  if a1<(n0.Arcs.length:Int) then
  (gd (inb a1 n0.Arcs.length) <|
  Option.bind (Z80 (n0.Arcs.getD a1.toNat default)) fun a2 =>
  gd (inb a1 f1.length) <|
  Option.bind (Z63 (f1.getD a1.toNat 0)) fun a3 =>
  gd (slok (a2++a3).length) <|
  gd (slok ((a2++a3)++([10]:Str)).length) <|
  gd ((a0++ub ((a2++a3)++([10]:Str))).length≤140737488355328) <|
  gd (i64ok (a1+1)) <|
  some (.inl ((a0++ub ((a2++a3)++([10]:Str))),(a1+1))))
  else
  some (.inr a0)
def Z8p (a0:List Int):Option (List Int×Int) :=
  some (a0,0)
def Z9q (n0:Net)(f1:List Int):Option (List Int×Int) :=
  Option.bind (Gl n0) fun r3 =>
  if r3≠0 then
  (some ([],r3))
  else
  Option.bind (Z5k n0 f1) fun (r6,r7) =>
  if r7≠0 then
  (some ([],r7))
  else
  gd (slok (([115,32]:Str)++r6).length) <|
  gd (slok ((([115,32]:Str)++r6)++([10]:Str)).length) <|
  gd ((([]:List Int)++ub ((([115,32]:Str)++r6)++([10]:Str))).length≤140737488355328) <|
  Option.bind (Xd (fun s=>Z7s n0 f1 s.1 s.2) Xf ((([]:List Int)++ub ((([115,32]:Str)++r6)++([10]:Str))),0)) fun p1_0_0=>Z8p p1_0_0
def Z72 (s1:List Bool)(a0:List Int)(a1:Int):Option ((List Int×Int)⊕(List Int)) :=
  if a1<(s1.length:Int) then
  (gd (inb a1 s1.length) <|
  if (s1.getD a1.toNat false)=true then
  (gd (i64ok (a1+1)) <|
  Option.bind (Ko (a1+1)) fun a2 =>
  gd (slok (([107,32]:Str)++a2).length) <|
  gd (slok ((([107,32]:Str)++a2)++([10]:Str)).length) <|
  gd ((a0++ub ((([107,32]:Str)++a2)++([10]:Str))).length≤140737488355328) <|
  gd (i64ok (a1+1)) <|
  some (.inl ((a0++ub ((([107,32]:Str)++a2)++([10]:Str))),(a1+1))))
  else
  gd (i64ok (a1+1)) <|
  some (.inl (a0,(a1+1))))
  else
  some (.inr a0)
def Zaz (a0:List Int):Option (List Int×Int) :=
  some (a0,0)
def Z8q (n0:Net)(s1:List Bool):Option (List Int×Int) :=
  Option.bind (Gl n0) fun r3 =>
  if r3≠0 then
  (some ([],r3))
  else
  if (s1.length:Int)≠n0.N then
  (some ([],60))
  else
  Option.bind (Xd (fun s=>Z72 s1 s.1 s.2) Xf ([],0)) fun p1_0_0=>Zaz p1_0_0
def Z7h (b0:List Int):Option (Unit) :=
  some ()
def Z4t (s0 a1:List Int)(a0:Int):Option (Unit) :=
  some ()
def Z1v (s0 a0:List Int):Option (Unit) :=
  Option.bind (Z4t s0 a0 0) fun _ =>
  some ()
def Z7n (b0:List Int)(c1:Int):Option (Int) :=
  some (idxT b0 c1)
def Z3e (s0 a0:List Int):Option (Int) :=
  if (a0.length:Int)=0 then
  (none)
  else
  if (a0.length:Int)=1 then
  (gd (inb 0 a0.length) <|
  Option.bind (Z7n s0 (a0.getD (0:Int).toNat 0)) fun r4 =>
  some r4)
  else
  none
def Gz {S_ X_:Type}(a3:S_→List Int→Option (S_⊕X_))(c1:List Int)(c3:Int)(c4:List Int)(a2:S_⊕X_):Option ((List Int×(S_⊕X_))⊕((List Int×(S_⊕X_))⊕(S_⊕X_))) :=
  Option.bind (Z3e c4 c1) fun a0 =>
  if a0<0 then
  (some (.inr (.inl (c4,a2))))
  else
  gd (i64ok (a0+c3)) <|
  gd (0≤(a0+c3)∧(a0+c3)≤(c4.length:Int)) <|
  gd (0≤((c4.take (a0+c3).toNat).length:Int)∧((c4.take (a0+c3).toNat).length:Int)≤((c4.take (a0+c3).toNat).length:Int)) <|
  Option.bind (Rx a3 a2 ((c4.take (a0+c3).toNat).take ((c4.take (a0+c3).toNat).length:Int).toNat)) fun a1 =>
  if (!a1.isLeft)=true then
  (some (.inr (.inr a1)))
  else
  gd (i64ok (a0+(c1.length:Int))) <|
  gd (0≤(a0+(c1.length:Int))∧(a0+(c1.length:Int))≤(c4.length:Int)) <|
  some (.inl ((c4.drop (a0+(c1.length:Int)).toNat),a1))
def Z0h {S_ X_:Type}(a2:S_→List Int→Option (S_⊕X_))(c28:List Int)(a0:S_⊕X_):Option ((S_⊕X_)) :=
  gd (0≤(c28.length:Int)∧(c28.length:Int)≤(c28.length:Int)) <|
  Option.bind (Rx a2 a0 (c28.take (c28.length:Int).toNat)) fun a1 =>
  some a1
def Z12 {S_ X_:Type}(a0:S_→List Int→Option (S_⊕X_))(c1:List Int)(c2:List Int)(c3:Int)(a1:S_⊕X_):Option ((S_⊕X_)) :=
  Option.bind (Xd (fun s=>Gz a0 c1 c3 s.1 s.2) Xf (c2,a1)) fun o=>match o with | .inl (p2_0_0,p2_0_1)=>(Z0h a0 p2_0_0 p2_0_1) | .inr p2_1_0=>(some p2_1_0)
def Ly {S_ X_:Type}(a0:S_→List Int→Option (S_⊕X_))(c1:List Int)(c2:List Int)(c3:Int)(a1:S_⊕X_):Option ((S_⊕X_)) :=
  if (c1.length:Int)=0 then
  (none)
  else
  Z12 a0 c1 c2 c3 a1
def Z2k {S_ X_:Type}(a4:S_→List Str→Option (S_⊕X_))(a0:S_⊕X_)(a3:List Int):Option (((S_⊕X_))⊕((S_⊕X_))) :=
  Option.bind (Rv a3) fun a2 =>
  if 0<(a2.length:Int) then
  (gd (inb 0 a2.length) <|
  gd (inb 0 (a2.getD (0:Int).toNat ([]:Str)).length) <|
  if (((a2.getD (0:Int).toNat ([]:Str)).getD (0:Int).toNat 0).toNat:Int)≠99 then
  (Option.bind (Rx a4 a0 a2) fun a1 =>
  if (!a1.isLeft)=true then
  (some (.inr a1))
  else
  some (.inl a1))
  else
  some (.inl a0))
  else
  some (.inl a0)
def Z6x {S_ X_:Type}(a1:S_→List Str→Option (S_⊕X_))(c1:List Int)(a2:S_⊕X_):Option ((S_⊕X_)) :=
  Option.bind (Z1v c1 ([10])) fun _ =>
  Option.bind (Ly (fun s v=>Z2k a1 s v) ([10]) c1 0 (.inl a2)) fun t=>match t with | .inl a0=>(some a0) | .inr a0=>(some a0)
def Z74 (a0:Str)(a1:List Int)(a2:List Str)(a3:Bool):Option ((Str×List Int)⊕(Str×List Int)) :=
  if a3=true then
  (some (.inr (a0,a1)))
  else
  gd (inb 1 a2.length) <|
  some (.inl ((a2.getD (1:Int).toNat ([]:Str)),a1))
def Z43 (n0:Net)(a0:Str)(a1:List Int)(a2:List Str):Option ((Str×List Int)⊕(Str×List Int)) :=
  if a0=([]:Str) then
  (if (a2.length:Int)≠2 then
  (Z74 a0 a1 a2 true)
  else
  gd (inb 0 a2.length) <|
  Z74 a0 a1 a2 (decide (¬((a2.getD (0:Int).toNat ([]:Str))=([115]:Str)))))
  else
  if (a1.length:Int)=(n0.Arcs.length:Int) then
  (some (.inr (a0,a1)))
  else
  gd (inb (a1.length:Int) n0.Arcs.length) <|
  Option.bind (Z9j (n0.Arcs.getD (a1.length:Int).toNat default) a2) fun (a3,a4) =>
  if (!a4)=true then
  (some (.inr (a0,a1)))
  else
  gd (apok (a1++([a3])).length 8) <|
  some (.inl (a0,(a1++([a3]))))
def Z8e (n0:Net)(b1:List Int):Option (Str×List Int×Bool) :=
  Option.bind (Z7h b1) fun _ =>
  Option.bind (Z6x (fun s v=>Z43 n0 s.1 s.2 v) b1 (.inl (([]:Str),([]:List Int)))) fun t=>match t with | .inl (a0,a1)=>(if ¬(a0=([]:Str)) then (some (a0,a1,(decide ((a1.length:Int)=(n0.Arcs.length:Int))))) else some (a0,a1,false)) | .inr (a0,a1)=>(some (([]:Str),[],false))
def Z78 (r8:List Int)(a0:Bool):Option (List Int×Int) :=
  if a0=true then
  (some ([],70))
  else
  some (r8,0)
def Za5 (n0:Net)(b1:List Int):Option (List Int×Int) :=
  Option.bind (Gl n0) fun r4 =>
  if r4≠0 then
  (some ([],r4))
  else
  Option.bind (Z8e n0 b1) fun (r7,r8,r9) =>
  if (!r9)=true then
  (some ([],70))
  else
  Option.bind (Z5k n0 r8) fun (a0,a1) =>
  if a1≠0 then
  (Z78 r8 true)
  else
  Z78 r8 (decide (¬(a0=r7)))
def Z5c (n0:Net)(a4:Int)(a1:List Bool)(a0:Int)(a3:List Str)(a5:Bool):Option ((Int×List Bool×Int)⊕(Int×List Bool×Int)) :=
  if a5=true then
  (some (.inr (70,a1,a0)))
  else
  gd (inb 1 a3.length) <|
  gd (i64ok (a0+1)) <|
  Option.bind (Z1j (a3.getD (1:Int).toNat ([]:Str)) (a0+1) n0.N) fun (a2,a6) =>
  if (!a6)=true then
  (some (.inr (70,a1,a0)))
  else
  gd (i64ok (a2-1)) <|
  gd (inb (a2-1) a1.length) <|
  some (.inl (a4,(a1.set (a2-1).toNat true),a2))
def Z48 (n0:Net)(a3:Int)(a1:List Bool)(a0:Int)(a2:List Str):Option ((Int×List Bool×Int)⊕(Int×List Bool×Int)) :=
  if (a2.length:Int)≠2 then
  (Z5c n0 a3 a1 a0 a2 true)
  else
  gd (inb 0 a2.length) <|
  Z5c n0 a3 a1 a0 a2 (decide (¬((a2.getD (0:Int).toNat ([]:Str))=([107]:Str))))
def Zah (n0:Net)(b1:List Int):Option (List Bool×Int) :=
  Option.bind (Gl n0) fun r8 =>
  if r8≠0 then
  (some ([],r8))
  else
  gd (mkok n0.N) <|
  Option.bind (Z7h b1) fun _ =>
  Option.bind (Z6x (fun s v=>Z48 n0 s.1 s.2.1 s.2.2 v) b1 (.inl (0,(List.replicate n0.N.toNat (false:Bool)),0))) fun t=>match t with | .inl (a2,a1,a0)=>(some (a1,0)) | .inr (a2,a1,a0)=>(some ([],a2))
end Go.Acq
namespace Go.Acq
open Go
structure DimacsReader where
  n:Net
  said:List (Str×Int)
  arcs:Int
  words:List Str
  deriving DecidableEq
instance:Inhabited DimacsReader:=⟨⟨default,default,default,default⟩⟩
def Vi (a0:Bool):Option (Unit⊕Unit) :=
  some (if a0=true then .inl () else .inr ())
def Z02 (a2:DimacsReader)(a3 a1 a0:Int):Option ((Int)⊕Unit) :=
  gd (inb a3 a2.words.length) <|
  Option.bind (Z0j (a2.words.getD a3.toNat ([]:Str))) fun (r2,r3) =>
  if r3=true then
  (if a1≤r2 then
  (Option.bind (Vi (decide (r2≤a0))) fun t=>match t with | .inl _=>(some (.inl r2)) | .inr _=>some (.inr ()))
  else
  Option.bind (Vi false) fun t=>match t with | .inl _=>(none) | .inr _=>some (.inr ()))
  else
  Option.bind (Vi false) fun t=>match t with | .inl _=>(none) | .inr _=>some (.inr ())
def Z06 (r0:DimacsReader)(n1:Int):Option ((Unit)⊕Unit) :=
  Option.bind (Vi (decide ((r0.words.length:Int)=n1))) fun t=>match t with | .inl _=>(some (.inl ())) | .inr _=>some (.inr ())
def Z0k (a0:DimacsReader)(a1:Int):Option ((Int)⊕Unit) :=
  Option.bind (Z02 a0 a1 1 a0.n.N) fun t=>match t with | .inl r1=>(gd (i64ok (r1-1))<|some (.inl (r1-1))) | .inr _=>some (.inr ())
def Z1f (r0:DimacsReader)(a0:Str):Option ((DimacsReader)⊕Unit) :=
  gd (i64ok ((Yr 0 a0 r0.said)+1)) <|
  Option.bind (Vi (decide ((Yr 0 a0 (Xw a0 ((Yr 0 a0 r0.said)+1) r0.said))=1))) fun t=>match t with | .inl _=>(some (.inl (DimacsReader.mk r0.n (Xw a0 ((Yr 0 a0 r0.said)+1) r0.said) r0.arcs r0.words))) | .inr _=>some (.inr ())
def Z2u (r0:DimacsReader):Option ((DimacsReader)⊕Unit) :=
  Option.bind (Z06 r0 4) fun t=>match t with | .inl _=>(Option.bind (Z1f r0 ([112]:Str)) fun t=>match t with | .inl r5=>(gd (inb 1 r0.words.length)<|Option.bind (Vi (decide ((r0.words.getD (1:Int).toNat ([]:Str))=([109,97,120]:Str)))) fun t=>match t with | .inl _=>(Option.bind (Z02 (DimacsReader.mk r0.n r5.said r0.arcs r0.words) 2 0 2147483648) fun t=>match t with | .inl a0=>(Option.bind (Z02 (DimacsReader.mk r0.n r5.said r0.arcs r0.words) 3 0 2147483648) fun t=>match t with | .inl a1=>(some (.inl (DimacsReader.mk (Net.mk a0 r0.n.S r0.n.T r0.n.Arcs) r5.said a1 r0.words))) | .inr _=>some (.inr ())) | .inr _=>some (.inr ())) | .inr _=>some (.inr ())) | .inr _=>some (.inr ())) | .inr _=>some (.inr ())
def Z3u (r0:DimacsReader):Option ((DimacsReader)⊕Unit) :=
  Option.bind (Z06 r0 3) fun t=>match t with | .inl _=>(Option.bind (Z0k r0 1) fun t=>match t with | .inl r5=>(gd (inb 2 r0.words.length)<|Option.bind (Z1f r0 (r0.words.getD (2:Int).toNat ([]:Str))) fun t=>match t with | .inl r9=>(gd (inb 2 r0.words.length)<|if (r0.words.getD (2:Int).toNat ([]:Str))=([115]:Str) then (some (.inl (DimacsReader.mk (Net.mk r0.n.N r5 r0.n.T r0.n.Arcs) r9.said r0.arcs r0.words))) else if (r0.words.getD (2:Int).toNat ([]:Str))=([116]:Str) then (some (.inl (DimacsReader.mk (Net.mk r0.n.N r0.n.S r5 r0.n.Arcs) r9.said r0.arcs r0.words))) else Option.bind (Vi false) fun t=>match t with | .inl _=>(none) | .inr _=>some (.inr ())) | .inr _=>some (.inr ())) | .inr _=>some (.inr ())) | .inr _=>some (.inr ())
def Z3w (r0:DimacsReader):Option ((DimacsReader)⊕Unit) :=
  Option.bind (Z06 r0 4) fun t=>match t with | .inl _=>(Option.bind (Z0k r0 1) fun t=>match t with | .inl r6=>(Option.bind (Z0k r0 2) fun t=>match t with | .inl r9=>(Option.bind (Z02 r0 3 0 9223372036854775807) fun t=>match t with | .inl a0=>(gd (apok (r0.n.Arcs++([(Arc.mk r6 r9 a0)])).length 24)<|some (.inl (DimacsReader.mk (Net.mk r0.n.N r0.n.S r0.n.T (r0.n.Arcs++([(Arc.mk r6 r9 a0)]))) r0.said r0.arcs r0.words))) | .inr _=>some (.inr ())) | .inr _=>some (.inr ())) | .inr _=>some (.inr ())) | .inr _=>some (.inr ())
def Z33 (r0:DimacsReader)(r4:List Str):Option ((DimacsReader)⊕Unit) :=
  Option.bind (Z2u (DimacsReader.mk r0.n r0.said r0.arcs r4)) fun t=>match t with | .inl a0=>(some (.inl (DimacsReader.mk (Net.mk a0.n.N r0.n.S r0.n.T r0.n.Arcs) a0.said a0.arcs r4))) | .inr _=>some (.inr ())
def Z47 (r0:DimacsReader)(r4:List Str):Option ((DimacsReader)⊕Unit) :=
  Option.bind (Z3u (DimacsReader.mk r0.n r0.said r0.arcs r4)) fun t=>match t with | .inl a0=>(some (.inl (DimacsReader.mk (Net.mk r0.n.N a0.n.S a0.n.T r0.n.Arcs) a0.said r0.arcs r4))) | .inr _=>some (.inr ())
def Z2h (r0:DimacsReader)(r4:List Str):Option ((DimacsReader)⊕Unit) :=
  Option.bind (Z3w (DimacsReader.mk r0.n r0.said r0.arcs r4)) fun t=>match t with | .inl a0=>(some (.inl (DimacsReader.mk (Net.mk r0.n.N r0.n.S r0.n.T a0.n.Arcs) a0.said r0.arcs r4))) | .inr _=>some (.inr ())
def Z2g (r0:DimacsReader)(b1:List Int):Option ((DimacsReader)⊕Unit) :=
  Option.bind (Rv b1) fun r4 =>
  if (r4.length:Int)=0 then
  (some (.inl (DimacsReader.mk r0.n r0.said r0.arcs r4)))
  else
  gd (inb 0 r4.length) <|
  gd (inb 0 (r4.getD (0:Int).toNat ([]:Str)).length) <|
  if (((r4.getD (0:Int).toNat ([]:Str)).getD (0:Int).toNat 0).toNat:Int)=99 then
  (some (.inl (DimacsReader.mk r0.n r0.said r0.arcs r4)))
  else
  gd (inb 0 r4.length) <|
  if (r4.getD (0:Int).toNat ([]:Str))=([112]:Str) then
  (if (r4.getD (0:Int).toNat ([]:Str))=([112]:Str) then
  (Option.bind (Vi true) fun t=>match t with | .inl _=>(Z33 r0 r4) | .inr _=>some (.inr ()))
  else
  Option.bind (Vi (decide ((Yr 0 ([112]:Str) r0.said)=1))) fun t=>match t with | .inl _=>(Z33 r0 r4) | .inr _=>some (.inr ()))
  else
  if (r4.getD (0:Int).toNat ([]:Str))=([110]:Str) then
  (if (r4.getD (0:Int).toNat ([]:Str))=([112]:Str) then
  (Option.bind (Vi true) fun t=>match t with | .inl _=>(Z47 r0 r4) | .inr _=>some (.inr ()))
  else
  Option.bind (Vi (decide ((Yr 0 ([112]:Str) r0.said)=1))) fun t=>match t with | .inl _=>(Z47 r0 r4) | .inr _=>some (.inr ()))
  else
  if (r4.getD (0:Int).toNat ([]:Str))=([97]:Str) then
  (if (r4.getD (0:Int).toNat ([]:Str))=([112]:Str) then
  (Option.bind (Vi true) fun t=>match t with | .inl _=>(Z2h r0 r4) | .inr _=>some (.inr ()))
  else
  Option.bind (Vi (decide ((Yr 0 ([112]:Str) r0.said)=1))) fun t=>match t with | .inl _=>(Z2h r0 r4) | .inr _=>some (.inr ()))
  else
  Option.bind (Vi false) fun t=>match t with | .inl _=>(none) | .inr _=>some (.inr ())
def Rk (a4 a5 n22:Int)(a6:List Arc)(a3:List (Str×Int))(a1:Int)(a0:List Str)(a7:List Int):Option ((Int×Int×Int×List Arc×(List (Str×Int))×Int×List Str)⊕(Unit)) :=
  Option.bind (Z2g (DimacsReader.mk (Net.mk a4 a5 n22 a6) a3 a1 a0) a7) fun t=>match t with | .inl a2=>(some (.inl (a2.n.N,a2.n.S,a2.n.T,a2.n.Arcs,a2.said,a2.arcs,a2.words))) | .inr _=>some (.inr ())
def Z39 (b0:List Int):Option (Net×Bool) :=
  Option.bind (Z1v b0 ([10])) fun _ =>
  Option.bind (Ly (fun s v=>Rk s.1 s.2.1 s.2.2.1 s.2.2.2.1 s.2.2.2.2.1 s.2.2.2.2.2.1 s.2.2.2.2.2.2 v) ([10]) b0 0 (.inl (0,0,0,[],([]:List (Str×Int)),0,[]))) fun t=>match t with | .inl (a4,a5,n22,a3,a0,a1,a2)=>(if (Yr 0 ([112]:Str) a0)=1 then (if (Yr 0 ([115]:Str) a0)=1 then (if (Yr 0 ([116]:Str) a0)=1 then (Option.bind (Vi (decide ((a3.length:Int)=a1))) fun t=>match t with | .inl _=>(some ((Net.mk a4 a5 n22 a3),true)) | .inr _=>some ((Net.mk 0 0 0 ([])),false)) else Option.bind (Vi false) fun t=>match t with | .inl _=>(none) | .inr _=>some ((Net.mk 0 0 0 ([])),false)) else Option.bind (Vi false) fun t=>match t with | .inl _=>(none) | .inr _=>some ((Net.mk 0 0 0 ([])),false)) else Option.bind (Vi false) fun t=>match t with | .inl _=>(none) | .inr _=>some ((Net.mk 0 0 0 ([])),false)) | .inr _=>(some ((Net.mk 0 0 0 ([])),false))
def Lg (b0:List Int):Option (Net×Int) :=
  Option.bind (Z39 b0) fun (r3,r4) =>
  if (!r4)=true then
  (some ((Net.mk 0 0 0 ([])),70))
  else
  Option.bind (Gl r3) fun a0 =>
  if a0≠0 then
  (some ((Net.mk 0 0 0 ([])),a0))
  else
  some (r3,0)
end Go.Acq
namespace Go.Acq
open Go
structure CheckAnswer where
  Net:Net
  f:List Int
  s:List Bool
  out:List Int
  deriving DecidableEq
instance:Inhabited CheckAnswer:=⟨⟨default,default,default,default⟩⟩
structure CheckAsks where
  e:Int
  deriving DecidableEq
instance:Inhabited CheckAsks:=⟨⟨default⟩⟩
def Z8r (a0:CheckAnswer):Option (Bool) :=
  if (a0.f.length:Int)=(a0.Net.Arcs.length:Int) then
  (some (decide ((a0.s.length:Int)=a0.Net.N)))
  else
  some false
def Z6g (a0:CheckAnswer)(x1:Int):Option ((Int)⊕(Bool⊕Unit)) :=
  if x1<(a0.Net.Arcs.length:Int) then
  (gd (inb x1 a0.Net.Arcs.length) <|
  gd (inb x1 a0.f.length) <|
  if (a0.f.getD x1.toNat 0)<0 then
  (some (.inr (.inl false)))
  else
  gd (inb x1 a0.f.length) <|
  if ((a0.Net.Arcs.getD x1.toNat default).cap)<(a0.f.getD x1.toNat 0) then
  (some (.inr (.inl false)))
  else
  gd (i64ok (x1+1)) <|
  some (.inl (x1+1)))
  else
  some (.inr (.inr ()))
def Z89  : Option (Bool) :=
  some true
def Zaw (a0:CheckAnswer):Option (Bool) :=
  Option.bind (Xd (fun s=>Z6g a0 s) Xf 0) fun o=>match o with | .inl p1_0_0=>(some p1_0_0) | .inr ()=>Z89
def Z6y (a0:CheckAnswer)(a1:List Int)(x7:Int):Option ((List Int×Int)⊕(List Int)) :=
  if x7<(a0.Net.Arcs.length:Int) then
  (gd (inb x7 a0.Net.Arcs.length) <|
  gd (inb ((a0.Net.Arcs.getD x7.toNat default).fr) a1.length) <|
  gd (inb x7 a0.f.length) <|
  gd (i64ok ((a1.getD ((a0.Net.Arcs.getD x7.toNat default).fr).toNat 0)+(a0.f.getD x7.toNat 0))) <|
  gd (inb ((a0.Net.Arcs.getD x7.toNat default).fr) a1.length) <|
  gd (inb ((a0.Net.Arcs.getD x7.toNat default).to) (a1.set ((a0.Net.Arcs.getD x7.toNat default).fr).toNat ((a1.getD ((a0.Net.Arcs.getD x7.toNat default).fr).toNat 0)+(a0.f.getD x7.toNat 0))).length) <|
  gd (inb x7 a0.f.length) <|
  gd (i64ok (((a1.set ((a0.Net.Arcs.getD x7.toNat default).fr).toNat ((a1.getD ((a0.Net.Arcs.getD x7.toNat default).fr).toNat 0)+(a0.f.getD x7.toNat 0))).getD ((a0.Net.Arcs.getD x7.toNat default).to).toNat 0)-(a0.f.getD x7.toNat 0))) <|
  gd (inb ((a0.Net.Arcs.getD x7.toNat default).to) (a1.set ((a0.Net.Arcs.getD x7.toNat default).fr).toNat ((a1.getD ((a0.Net.Arcs.getD x7.toNat default).fr).toNat 0)+(a0.f.getD x7.toNat 0))).length) <|
  gd (i64ok (x7+1)) <|
  some (.inl (((a1.set ((a0.Net.Arcs.getD x7.toNat default).fr).toNat ((a1.getD ((a0.Net.Arcs.getD x7.toNat default).fr).toNat 0)+(a0.f.getD x7.toNat 0))).set ((a0.Net.Arcs.getD x7.toNat default).to).toNat (((a1.set ((a0.Net.Arcs.getD x7.toNat default).fr).toNat ((a1.getD ((a0.Net.Arcs.getD x7.toNat default).fr).toNat 0)+(a0.f.getD x7.toNat 0))).getD ((a0.Net.Arcs.getD x7.toNat default).to).toNat 0)-(a0.f.getD x7.toNat 0))),(x7+1))))
  else
  some (.inr a1)
def Z6d (a0:CheckAnswer)(a2:List Int)(a1:Int):Option ((Int)⊕((Bool×CheckAnswer)⊕Unit)) :=
  if a1<(a2.length:Int) then
  (gd (inb a1 a2.length) <|
  if (a2.getD a1.toNat 0)≠0 then
  (if a1≠a0.Net.S then
  (if a1≠a0.Net.T then
  (some (.inr (.inl (false,(CheckAnswer.mk a0.Net a0.f a0.s a2)))))
  else
  gd (i64ok (a1+1)) <|
  some (.inl (a1+1)))
  else
  gd (i64ok (a1+1)) <|
  some (.inl (a1+1)))
  else
  gd (i64ok (a1+1)) <|
  some (.inl (a1+1)))
  else
  some (.inr (.inr ()))
def Z8n (a0:CheckAnswer)(a1:List Int):Option (Bool×CheckAnswer) :=
  some (true,(CheckAnswer.mk a0.Net a0.f a0.s a1))
def Za8 (a0:CheckAnswer)(a1:List Int):Option (Bool×CheckAnswer) :=
  Option.bind (Xd (fun s=>Z6d a0 a1 s) Xf 0) fun o=>match o with | .inl (p3_0_0,p3_0_1)=>(some (p3_0_0,p3_0_1)) | .inr ()=>(Z8n a0 a1)
def Z9u (a0:CheckAnswer):Option (Bool×CheckAnswer) :=
  gd (mkok a0.Net.N) <|
  Option.bind (Xd (fun s=>Z6y a0 s.1 s.2) Xf ((List.replicate a0.Net.N.toNat (0:Int)),0)) fun p1_0_0=>Za8 a0 p1_0_0
def Z8t (a0:CheckAnswer):Option (Bool) :=
  gd (inb a0.Net.S a0.s.length) <|
  if (a0.s.getD a0.Net.S.toNat false)=true then
  (gd (inb a0.Net.T a0.s.length) <|
  some (!(a0.s.getD a0.Net.T.toNat false)))
  else
  some false
def Z4o (a0:CheckAnswer)(a1 x3:Int)(a2:Bool):Option ((Int×Int)⊕(Int)) :=
  if a2=true then
  (gd (i64ok (a1-((a0.Net.Arcs.getD x3.toNat default).cap))) <|
  gd (i64ok (x3+1)) <|
  some (.inl ((a1-((a0.Net.Arcs.getD x3.toNat default).cap)),(x3+1))))
  else
  gd (i64ok (x3+1)) <|
  some (.inl (a1,(x3+1)))
def Z65 (a0:CheckAnswer)(a1 x3:Int):Option ((Int×Int)⊕(Int)) :=
  if x3<(a0.Net.Arcs.length:Int) then
  (gd (inb x3 a0.Net.Arcs.length) <|
  gd (inb ((a0.Net.Arcs.getD x3.toNat default).fr) a0.s.length) <|
  if (a0.s.getD ((a0.Net.Arcs.getD x3.toNat default).fr).toNat false)=true then
  (gd (inb ((a0.Net.Arcs.getD x3.toNat default).to) a0.s.length) <|
  Z4o a0 a1 x3 (!(a0.s.getD ((a0.Net.Arcs.getD x3.toNat default).to).toNat false)))
  else
  Z4o a0 a1 x3 false)
  else
  some (.inr a1)
def Zae (a0:Int):Option (Bool) :=
  some (decide (a0=0))
def Z9b (a0:CheckAnswer):Option (Bool) :=
  gd (inb a0.Net.S a0.out.length) <|
  Option.bind (Xd (fun s=>Z65 a0 s.1 s.2) Xf ((a0.out.getD a0.Net.S.toNat 0),0)) fun p1_0_0=>Zae p1_0_0
def Z8w (a0:CheckAnswer)(a1:List Int):Option (Int×CheckAnswer) :=
  some (0,(CheckAnswer.mk a0.Net a0.f a0.s a1))
def Z6a (a0:CheckAnswer):Option (Int×CheckAnswer) :=
  Option.bind (Gl a0.Net) fun r3 =>
  if r3≠0 then
  (some (r3,a0))
  else
  Option.bind (Z8r a0) fun a2 =>
  if (!a2)=true then
  (some (60,a0))
  else
  Option.bind (Zaw a0) fun a3 =>
  if (!a3)=true then
  (some (61,a0))
  else
  Option.bind (Z9u a0) fun (a4,a1) =>
  if (!a4)=true then
  (some (62,(CheckAnswer.mk a0.Net a0.f a0.s a1.out)))
  else
  Option.bind (Z8t (CheckAnswer.mk a0.Net a0.f a0.s a1.out)) fun a5 =>
  if (!a5)=true then
  (some (63,(CheckAnswer.mk a0.Net a0.f a0.s a1.out)))
  else
  Option.bind (Z9b (CheckAnswer.mk a0.Net a0.f a0.s a1.out)) fun a6 =>
  if (!a6)=true then
  (some (64,(CheckAnswer.mk a0.Net a0.f a0.s a1.out)))
  else
  Z8w a0 a1.out
def Za7 (n0:Net)(f1:List Int)(s2:List Bool):Option (Int) :=
  Option.bind (Z6a (CheckAnswer.mk n0 f1 s2 ([]:List Int))) fun (r6,r7) =>
  some r6
def Z8l (n0:Net)(f1:List Int)(s2:List Bool):Option (Int×Bool) :=
  Option.bind (Z6a (CheckAnswer.mk n0 f1 s2 ([]:List Int))) fun (r6,r7) =>
  if r6≠0 then
  (some (0,false))
  else
  gd (inb n0.S r7.out.length) <|
  some ((r7.out.getD n0.S.toNat 0),true)
def Z6h (a0:List Int)(a1 a2:Int)(a3:Bool):Option ((List Int×Int)⊕((Plan×Bool)⊕(List Int))) :=
  if a3=true then
  (some (.inr (.inl ((Plan.mk 0 0 ([])),false))))
  else
  gd (inb a1 a0.length) <|
  gd (i64ok (a1+1)) <|
  some (.inl ((a0.set a1.toNat a2),(a1+1)))
def Z50 (a2:List Str)(a0:List Int)(a1:Int):Option ((List Int×Int)⊕((Plan×Bool)⊕(List Int))) :=
  if a1<(a2.length:Int) then
  (gd (inb a1 a2.length) <|
  Option.bind (Z0j (a2.getD a1.toNat ([]:Str))) fun (a3,a4) =>
  if (!a4)=true then
  (Z6h a0 a1 a3 true)
  else
  Z6h a0 a1 a3 (decide (9<((a2.getD a1.toNat ([]:Str)).length:Int))))
  else
  some (.inr (.inr a0))
def Zau (a0:List Int):Option (Plan×Bool) :=
  gd (inb 0 a0.length) <|
  gd (inb 1 a0.length) <|
  gd (0≤(2:Int)∧(2:Int)≤(a0.length:Int)) <|
  some ((Plan.mk (a0.getD (0:Int).toNat 0) (a0.getD (1:Int).toNat 0) (a0.drop (2:Int).toNat)),true)
def Z57 (a0:List Str)(a1:Bool):Option (Plan×Bool) :=
  if a1=true then
  (some ((Plan.mk 0 0 ([])),false))
  else
  gd (mkok (a0.length:Int)) <|
  Option.bind (Xd (fun s=>Z50 a0 s.1 s.2) Xf ((List.replicate ((a0.length:Int).toNat) (0:Int)),0)) fun o=>match o with | .inl (p2_0_0,p2_0_1)=>(some (p2_0_0,p2_0_1)) | .inr p2_1_0=>(Zau p2_1_0)
def Za1 (s0:Str):Option (Plan×Bool) :=
  Option.bind (Rv (ub s0)) fun a0 =>
  if (a0.length:Int)<2 then
  (Z57 a0 true)
  else
  Z57 a0 (decide (10002<(a0.length:Int)))
def Z7b  : Option (Net) :=
  some (Net.mk 2 0 1 ([]))
def Z32 (n0:Net)(p1:Plan)(x6:Bool):Option (Int) :=
  if x6=true then
  (some 40)
  else
  if p1.Limit<1 then
  (some 2)
  else
  Option.bind (Gl n0) fun r9 =>
  some r9
def Z30 (n0:Net)(p1:Plan):Option (Int) :=
  if p1.Workers<1 then
  (Z32 n0 p1 true)
  else
  Z32 n0 p1 (decide (64<p1.Workers))
def Z22 (b0:List Int)(p1:Plan):Option (List Int×Int) :=
  Option.bind Z7b fun r3 =>
  Option.bind (Z30 r3 p1) fun a1 =>
  if a1≠0 then
  (some ([],a1))
  else
  Option.bind (Lg b0) fun (a0,a2) =>
  if a2≠0 then
  (some ([],a2))
  else
  Option.bind (Z98 a0 p1) fun (a3,a9,a4) =>
  if a4≠0 then
  (some ([],a4))
  else
  Option.bind (Z9q a0 a3.Flow) fun (a5,a6) =>
  if a6≠0 then
  (some ([],a6))
  else
  Option.bind (Z8q a0 a3.Side) fun (a7,a8) =>
  if a8≠0 then
  (some ([],a8))
  else
  gd (apok (a5++a7).length 1) <|
  some ((a5++a7),0)
def Z4p (e0:Int):Option (List Int) :=
  Option.bind (Ko e0) fun r1 =>
  gd (slok (([101,114,114,111,114,32]:Str)++r1).length) <|
  gd (slok ((([101,114,114,111,114,32]:Str)++r1)++([10]:Str)).length) <|
  some (ub ((([101,114,114,111,114,32]:Str)++r1)++([10]:Str)))
def Z34 (a0:Str)(b1:List Int):Option (List Int) :=
  Option.bind (Za1 a0) fun (r1,r2) =>
  if (!r2)=true then
  (Option.bind (Z4p 70) fun a2 =>
  some a2)
  else
  Option.bind (Z22 b1 r1) fun (a3,a1) =>
  if a1≠0 then
  (Option.bind (Z4p a1) fun a4 =>
  some a4)
  else
  some a3
def Z6u (a1 a2 a0:List Int)(a3:Bool):Option ((List Int×List Int)⊕(Empty)) :=
  if a3=true then
  (gd ((a2++a0).length≤64∧1≤(a2++a0).length) <|
  gd ((a2++a0).length<64) <|
  some (.inl (a1,((a2++a0)++([10])))))
  else
  gd ((a1++a0).length≤64∧1≤(a1++a0).length) <|
  gd ((a1++a0).length<64) <|
  some (.inl (((a1++a0)++([10])),a2))
def Z2m (a2 a3 a0:List Int):Option ((List Int×List Int)⊕(Empty)) :=
  Option.bind (Rv a0) fun a1 =>
  if 0<(a1.length:Int) then
  (gd (inb 0 a1.length) <|
  Z6u a2 a3 a0 (decide ((a1.getD (0:Int).toNat ([]:Str))=([107]:Str))))
  else
  Z6u a2 a3 a0 false
def Z9k (a0:List Int):Option (List Int×List Int) :=
  Option.bind (Z1v a0 ([10])) fun _ =>
  Option.bind (Ly (fun s v=>Z2m s.1 s.2 v) ([10]) a0 0 (.inl ([],[]))) fun t=>match t with | .inl (a1,a2)=>(some (a1,a2)) | .inr x=>nomatch x
def Zao (n0:Net)(a0:List Int):Option (Int×Int) :=
  Option.bind (Z9k a0) fun (r3,r4) =>
  Option.bind (Za5 n0 r3) fun (a1,a2) =>
  if a2≠0 then
  (some (0,a2))
  else
  Option.bind (Zah n0 r4) fun (a3,a4) =>
  if a4≠0 then
  (some (0,a4))
  else
  Option.bind (Z8l n0 a1 a3) fun (a5,a7) =>
  Option.bind (Za7 n0 a1 a3) fun a6 =>
  some (a5,a6)
def Z4q (b0 a0:List Int):Option (Int×Int) :=
  Option.bind (Lg b0) fun (r1,r2) =>
  if r2≠0 then
  (some (0,r2))
  else
  Option.bind (Zao r1 a0) fun (a1,a2) =>
  some (a1,a2)
def Z5p (a0:Bool):Option (Bool) :=
  some a0
def Z5h (a0:Int)(a1:Bool):Option (Bool) :=
  if a1=true then
  (Z5p (decide (a0=7)))
  else
  Z5p false
def Z4x (a0 a1:Int)(a2:Bool):Option (Bool) :=
  if a2=true then
  (Z5h a0 (decide (a1=0)))
  else
  Z5h a0 false
def Z3x  : Option (Bool) :=
  Option.bind (Z4q ([112,32,109,97,120,32,50,32,49,10,110,32,49,32,115,10,110,32,50,32,116,10,97,32,49,32,50,32,55,10]) ([115,32,54,10,102,32,49,32,50,32,54,10,107,32,49,10])) fun (r7,r8) =>
  Option.bind (Z4q ([112,32,109,97,120,32,50,32,49,10,110,32,49,32,115,10,110,32,50,32,116,10,97,32,49,32,50,32,55,10]) ([115,32,55,10,102,32,49,32,50,32,55,10,107,32,49,10])) fun (a0,a1) =>
  Option.bind (Z34 ([50,32,53]:Str) ([112,32,109,97,120,32,50,32,49,10,110,32,49,32,115,10,110,32,50,32,116,10,97,32,49,32,50,32,55,10])) fun a2 =>
  if (bu a2)=([115,32,55,10,102,32,49,32,50,32,55,10,107,32,49,10]:Str) then
  (Option.bind (Z34 ([48,32,53]:Str) ([112,32,109,97,120,32,50,32,49,10,110,32,49,32,115,10,110,32,50,32,116,10,97,32,49,32,50,32,55,10])) fun a3 =>
  if (bu a3)=([101,114,114,111,114,32,52,48,10]:Str) then
  (Option.bind (Z34 ([50]:Str) ([112,32,109,97,120,32,50,32,49,10,110,32,49,32,115,10,110,32,50,32,116,10,97,32,49,32,50,32,55,10])) fun a4 =>
  if (bu a4)=([101,114,114,111,114,32,55,48,10]:Str) then
  (Z4x a0 a1 (decide (r8=64)))
  else
  Z4x a0 a1 false)
  else
  some false)
  else
  some false
end Go.Acq
namespace Go.Acq
open Go
def Zc2 (x0:List Str)(s1:Str):Option (Str) :=
  gd (x0.length≤140737488355328∧(Lib.join x0 s1).length≤140737488355328)<|some (Lib.join x0 s1)
def Rc (v0:Int):Option (Str) :=
  gd (i64ok (v0+1)) <|
  Option.bind (Ko (v0+1)) fun r2 =>
  some r2
def Z3o (n0:Net)(a0:List Int)(a1:Int):Option ((List Int×Int)⊕(List Int)) :=
  if a1<(n0.Arcs.length:Int) then
  (gd (inb a1 n0.Arcs.length) <|
  Option.bind (Rc ((n0.Arcs.getD a1.toNat default).fr)) fun a2 =>
  Option.bind (Rc ((n0.Arcs.getD a1.toNat default).to)) fun a3 =>
  Option.bind (Z68 ((n0.Arcs.getD a1.toNat default).cap) 10) fun a4 =>
  gd (([([97]:Str),a2,a3,a4]).length≤140737488355328∧(a0++ub (Lib.join ([([97]:Str),a2,a3,a4]) [32]++[10])).length≤140737488355328) <|
  gd (i64ok (a1+1)) <|
  some (.inl ((a0++ub (Lib.join ([([97]:Str),a2,a3,a4]) [32]++[10])),(a1+1))))
  else
  some (.inr a0)
def Z70 (a0:List Int):Option (List Int×Int) :=
  some (a0,0)
def Z3v (n0:Net):Option (List Int×Int) :=
  Option.bind (Gl n0) fun r3 =>
  if r3≠0 then
  (some ([],r3))
  else
  Option.bind (Ko n0.N) fun r8 =>
  Option.bind (Ko (n0.Arcs.length:Int)) fun a0 =>
  gd (([([112]:Str),([109,97,120]:Str),r8,a0]).length≤140737488355328∧(([]:List Int)++ub (Lib.join ([([112]:Str),([109,97,120]:Str),r8,a0]) [32]++[10])).length≤140737488355328) <|
  Option.bind (Rc n0.S) fun a1 =>
  gd (([([110]:Str),a1,([115]:Str)]).length≤140737488355328∧((([]:List Int)++ub (Lib.join ([([112]:Str),([109,97,120]:Str),r8,a0]) [32]++[10]))++ub (Lib.join ([([110]:Str),a1,([115]:Str)]) [32]++[10])).length≤140737488355328) <|
  Option.bind (Rc n0.T) fun a2 =>
  gd (([([110]:Str),a2,([116]:Str)]).length≤140737488355328∧(((([]:List Int)++ub (Lib.join ([([112]:Str),([109,97,120]:Str),r8,a0]) [32]++[10]))++ub (Lib.join ([([110]:Str),a1,([115]:Str)]) [32]++[10]))++ub (Lib.join ([([110]:Str),a2,([116]:Str)]) [32]++[10])).length≤140737488355328) <|
  Option.bind (Xd (fun s=>Z3o n0 s.1 s.2) Xf ((((([]:List Int)++ub (Lib.join ([([112]:Str),([109,97,120]:Str),r8,a0]) [32]++[10]))++ub (Lib.join ([([110]:Str),a1,([115]:Str)]) [32]++[10]))++ub (Lib.join ([([110]:Str),a2,([116]:Str)]) [32]++[10])),0)) fun p1_0_0=>Z70 p1_0_0
def Z3f (s0 s1 s2:Str)(i3:Int):Option (Str) :=
  gd (s0.length<4294967281∧1≤s1.length∧s0.length+Lib.count s0 s1*s2.length≤140737488355328)<|some (Lib.replace s0 s1 s2 i3)
end Go.Acq
namespace Go.Acq
open Go
def Ru (a0 a1:Int)(a2:Str)(a3:Int):Option (Bool) :=
  Option.bind (Z22 (ub a2) (Plan.mk a0 a1 ([]))) fun (a4,a5) =>
  if a5=a3 then
  (if (a4.length:Int)=0 then
  (Option.bind Z3x fun a6 =>
  some a6)
  else
  some false)
  else
  some false
def Z38 (a0 a1:Int)(a3:Bool)(a2:Str)(a4:Bool):Option (Bool) :=
  if a4=true then
  (Ru a0 a1 a2 40)
  else
  if a1<1 then
  (Ru a0 a1 a2 2)
  else
  if a3=true then
  (Ru a0 a1 a2 70)
  else
  Ru a0 a1 a2 12
def Z1l (a0 a1:Int)(a3:Bool)(a2:Str):Option (Bool) :=
  if a0<1 then
  (Z38 a0 a1 a3 a2 true)
  else
  Z38 a0 a1 a3 a2 (decide (64<a0))
def Z13 (a0 a2:Int)(a3:Bool)(a1:Str):Option (Bool) :=
  if a3=true then
  (gd (slok (a1++([119,104,97,116,10]:Str)).length) <|
  Z1l a0 a2 a3 (a1++([119,104,97,116,10]:Str)))
  else
  Z1l a0 a2 a3 a1
def Z1e (a0 a1:Int)(a2 a3:Bool)(r3:Net)(a7:Bool):Option (Bool) :=
  if a7=true then
  (Option.bind Z3x fun a8 =>
  some a8)
  else
  Option.bind (Z3v r3) fun (a6,a9) =>
  if a9≠0 then
  (some false)
  else
  if a3=true then
  (gd (i64ok (r3.T+1)) <|
  Option.bind (Ko (r3.T+1)) fun a4 =>
  gd (slok (([110,32]:Str)++a4).length) <|
  gd (slok ((([110,32]:Str)++a4)++([32,116]:Str)).length) <|
  gd (i64ok (r3.S+1)) <|
  Option.bind (Ko (r3.S+1)) fun a5 =>
  gd (slok (([110,32]:Str)++a5).length) <|
  gd (slok ((([110,32]:Str)++a5)++([32,116]:Str)).length) <|
  Option.bind (Z3f (bu a6) ((([110,32]:Str)++a4)++([32,116]:Str)) ((([110,32]:Str)++a5)++([32,116]:Str)) 1) fun b0 =>
  Z13 a0 a1 a2 b0)
  else
  Z13 a0 a1 a2 (bu a6)
def Z2b (a0 a1:Int)(a3 a2:Bool)(r3:Net)(a4:Bool):Option (Bool) :=
  if a4=true then
  (Z1e a0 a1 a3 a2 r3 (!a2))
  else
  Z1e a0 a1 a3 a2 r3 false
def Z2i (a0 a1:Int)(a2 a3:Bool)(r3:Net)(a4:Bool):Option (Bool) :=
  if a4=true then
  (Z2b a0 a1 a2 a3 r3 (!a2))
  else
  Z2b a0 a1 a2 a3 r3 false
def Z0x (a0 a1:Int)(a2 a3:Bool)(r3:Net)(a4:Bool):Option (Bool) :=
  if a4=true then
  (Z2i a0 a1 a2 a3 r3 (decide (1≤a1)))
  else
  Z2i a0 a1 a2 a3 r3 false
def Z5g (a0 a1:Int)(n2:Net)(a2 a3:Bool):Option (Bool) :=
  Option.bind (Z45 n2 7 14) fun r3 =>
  if 1≤a0 then
  (Z0x a0 a1 a2 a3 r3 (decide (a0≤64)))
  else
  Z0x a0 a1 a2 a3 r3 false
end Go.Acq
namespace Go.Proofs
open Go.Shelf
def Zjc:Go.Shelf.Ren:=⟨fun | 171=>18 | 243=>45 | 246=>55 | 283=>94 | 284=>95 | 285=>96 | 286=>97 | 129=>139 | 317=>138 | 318=>140 | 319=>141 | 320=>142 | 337=>184 | 338=>185 | n=>n,fun | 3=>3 | 9=>9 | 2=>2 | 4=>4 | 171=>170 | 0=>0 | 53=>171 | 37=>27 | 5=>5 | 173=>174 | 212=>228 | 51=>56 | 20=>20 | 213=>229 | 46=>188 | 232=>343 | 233=>344 | n=>n,fun | 17=>4 | 18=>7 | 19=>8 | n=>n⟩
theorem Zlx:Go.Proofs.LaysM.n171 Tryz.prog Zjc:={
 mixed:=by kernel_rfl
 f129:=Tryz.func139.trans (congrArg some (by kernel_rfl))
 f171:=Tryz.func18.trans (congrArg some (by kernel_rfl))
 f243:=Tryz.func45.trans (congrArg some (by kernel_rfl))
 f246:=Tryz.func55.trans (congrArg some (by kernel_rfl))
 f283:=Tryz.func94.trans (congrArg some (by kernel_rfl))
 f284:=Tryz.func95.trans (congrArg some (by kernel_rfl))
 f285:=Tryz.func96.trans (congrArg some (by kernel_rfl))
 f286:=Tryz.func97.trans (congrArg some (by kernel_rfl))
 f317:=Tryz.func138.trans (congrArg some (by kernel_rfl))
 f318:=Tryz.func140.trans (congrArg some (by kernel_rfl))
 f319:=Tryz.func141.trans (congrArg some (by kernel_rfl))
 f320:=Tryz.func142.trans (congrArg some (by kernel_rfl))
 f337:=Tryz.func184.trans (congrArg some (by kernel_rfl))
 f338:=Tryz.func185.trans (congrArg some (by kernel_rfl))
 t0:=Tryz.underlying0
 a0:=Tryz.isAgg0
 z0:=Tryz.sizeOf0
 v0:=Tryz.zeroValue0
 t2:=Tryz.underlying2
 a2:=Tryz.isAgg2
 z2:=Tryz.sizeOf2
 v2:=Tryz.zeroValue2
 t3:=Tryz.underlying3
 a3:=Tryz.isAgg3
 z3:=Tryz.sizeOf3
 v3:=Tryz.zeroValue3
 t4:=Tryz.underlying4
 a4:=Tryz.isAgg4
 z4:=Tryz.sizeOf4
 v4:=Tryz.zeroValue4
 t5:=Tryz.underlying5
 a5:=Tryz.isAgg5
 z5:=Tryz.sizeOf5
 v5:=Tryz.zeroValue5
 t9:=Tryz.underlying9
 a9:=Tryz.isAgg9
 z9:=Tryz.sizeOf9
 v9:=Tryz.zeroValue9
 t20:=Tryz.underlying20
 a20:=Tryz.isAgg20
 z20:=Tryz.sizeOf20
 v20:=Tryz.zeroValue20
 t37:=Tryz.underlying27
 a37:=Tryz.isAgg27
 z37:=Tryz.sizeOf27
 v37:=Tryz.zeroValue27
 t46:=Tryz.underlying188
 a46:=Tryz.isAgg188
 z46:=Tryz.sizeOf188
 v46:=Tryz.zeroValue188
 t51:=Tryz.underlying56
 a51:=Tryz.isAgg56
 z51:=Tryz.sizeOf56
 v51:=Tryz.zeroValue56
 t53:=Tryz.underlying171
 a53:=Tryz.isAgg171
 z53:=Tryz.sizeOf171
 v53:=Tryz.zeroValue171
 t171:=Tryz.underlying170
 a171:=Tryz.isAgg170
 z171:=Tryz.sizeOf170
 v171:=Tryz.zeroValue170
 t173:=Tryz.underlying174
 a173:=Tryz.isAgg174
 z173:=Tryz.sizeOf174
 v173:=Tryz.zeroValue174
 t212:=Tryz.underlying228
 a212:=Tryz.isAgg228
 z212:=Tryz.sizeOf228
 v212:=Tryz.zeroValue228
 t213:=Tryz.underlying229
 a213:=Tryz.isAgg229
 z213:=Tryz.sizeOf229
 t232:=Tryz.underlying343
 a232:=Tryz.isAgg343
 z232:=Tryz.sizeOf343
 v232:=Tryz.zeroValue343
 t233:=Tryz.underlying344
 a233:=Tryz.isAgg344
 z233:=Tryz.sizeOf344
 v233:=Tryz.zeroValue344
 g17:=by kernel_rfl
 g18:=by kernel_rfl
 g19:=by kernel_rfl
 i0:=by kernel_rfl
 i2:=by kernel_rfl
 i3:=by kernel_rfl
 i4:=by kernel_rfl
 i5:=by kernel_rfl
 i9:=by kernel_rfl
 i20:=by kernel_rfl
 i37:=by kernel_rfl
 i46:=by kernel_rfl
 i51:=by kernel_rfl
 i53:=by kernel_rfl
 i171:=by kernel_rfl
 i173:=by kernel_rfl
 i212:=by kernel_rfl
 i232:=by kernel_rfl
 i233:=by kernel_rfl
 m17:=by kernel_rfl
 m18:=by kernel_rfl
 m19:=by kernel_rfl }
def Zlo:Go.Shelf.Ren:=⟨fun | 173=>27 | 246=>55 | 283=>94 | 284=>95 | 285=>96 | 286=>97 | 129=>139 | 317=>138 | 318=>140 | 319=>141 | 320=>142 | 337=>184 | 338=>185 | n=>n,fun | 2=>2 | 3=>3 | 9=>9 | 4=>4 | 171=>170 | 0=>0 | 53=>171 | 37=>27 | 5=>5 | 173=>174 | 212=>228 | 51=>56 | 20=>20 | 213=>229 | 46=>188 | 232=>343 | 233=>344 | n=>n,fun | 17=>4 | 18=>7 | 19=>8 | n=>n⟩
theorem Zft:Go.Proofs.LaysM.n173 Tryz.prog Zlo:={
 mixed:=by kernel_rfl
 f129:=Tryz.func139.trans (congrArg some (by kernel_rfl))
 f173:=Tryz.func27.trans (congrArg some (by kernel_rfl))
 f246:=Tryz.func55.trans (congrArg some (by kernel_rfl))
 f283:=Tryz.func94.trans (congrArg some (by kernel_rfl))
 f284:=Tryz.func95.trans (congrArg some (by kernel_rfl))
 f285:=Tryz.func96.trans (congrArg some (by kernel_rfl))
 f286:=Tryz.func97.trans (congrArg some (by kernel_rfl))
 f317:=Tryz.func138.trans (congrArg some (by kernel_rfl))
 f318:=Tryz.func140.trans (congrArg some (by kernel_rfl))
 f319:=Tryz.func141.trans (congrArg some (by kernel_rfl))
 f320:=Tryz.func142.trans (congrArg some (by kernel_rfl))
 f337:=Tryz.func184.trans (congrArg some (by kernel_rfl))
 f338:=Tryz.func185.trans (congrArg some (by kernel_rfl))
 t0:=Tryz.underlying0
 a0:=Tryz.isAgg0
 z0:=Tryz.sizeOf0
 v0:=Tryz.zeroValue0
 t2:=Tryz.underlying2
 a2:=Tryz.isAgg2
 z2:=Tryz.sizeOf2
 v2:=Tryz.zeroValue2
 t3:=Tryz.underlying3
 a3:=Tryz.isAgg3
 z3:=Tryz.sizeOf3
 v3:=Tryz.zeroValue3
 t4:=Tryz.underlying4
 a4:=Tryz.isAgg4
 z4:=Tryz.sizeOf4
 v4:=Tryz.zeroValue4
 t5:=Tryz.underlying5
 a5:=Tryz.isAgg5
 z5:=Tryz.sizeOf5
 v5:=Tryz.zeroValue5
 t9:=Tryz.underlying9
 a9:=Tryz.isAgg9
 z9:=Tryz.sizeOf9
 v9:=Tryz.zeroValue9
 t20:=Tryz.underlying20
 a20:=Tryz.isAgg20
 z20:=Tryz.sizeOf20
 v20:=Tryz.zeroValue20
 t37:=Tryz.underlying27
 a37:=Tryz.isAgg27
 z37:=Tryz.sizeOf27
 v37:=Tryz.zeroValue27
 t46:=Tryz.underlying188
 a46:=Tryz.isAgg188
 z46:=Tryz.sizeOf188
 v46:=Tryz.zeroValue188
 t51:=Tryz.underlying56
 a51:=Tryz.isAgg56
 z51:=Tryz.sizeOf56
 v51:=Tryz.zeroValue56
 t53:=Tryz.underlying171
 a53:=Tryz.isAgg171
 z53:=Tryz.sizeOf171
 v53:=Tryz.zeroValue171
 t171:=Tryz.underlying170
 a171:=Tryz.isAgg170
 z171:=Tryz.sizeOf170
 v171:=Tryz.zeroValue170
 t173:=Tryz.underlying174
 a173:=Tryz.isAgg174
 z173:=Tryz.sizeOf174
 v173:=Tryz.zeroValue174
 t212:=Tryz.underlying228
 a212:=Tryz.isAgg228
 z212:=Tryz.sizeOf228
 v212:=Tryz.zeroValue228
 t213:=Tryz.underlying229
 a213:=Tryz.isAgg229
 z213:=Tryz.sizeOf229
 t232:=Tryz.underlying343
 a232:=Tryz.isAgg343
 z232:=Tryz.sizeOf343
 v232:=Tryz.zeroValue343
 t233:=Tryz.underlying344
 a233:=Tryz.isAgg344
 z233:=Tryz.sizeOf344
 v233:=Tryz.zeroValue344
 g17:=by kernel_rfl
 g18:=by kernel_rfl
 g19:=by kernel_rfl
 i0:=by kernel_rfl
 i2:=by kernel_rfl
 i3:=by kernel_rfl
 i4:=by kernel_rfl
 i5:=by kernel_rfl
 i9:=by kernel_rfl
 i20:=by kernel_rfl
 i37:=by kernel_rfl
 i46:=by kernel_rfl
 i51:=by kernel_rfl
 i53:=by kernel_rfl
 i171:=by kernel_rfl
 i173:=by kernel_rfl
 i212:=by kernel_rfl
 i232:=by kernel_rfl
 i233:=by kernel_rfl
 m17:=by kernel_rfl
 m18:=by kernel_rfl
 m19:=by kernel_rfl }
def Z2y:Go.Shelf.Ren:=⟨fun | 178=>54 | 251=>92 | 252=>93 | 181=>135 | 184=>136 | 290=>137 | 324=>183 | n=>n,fun | 130=>71 | 9=>9 | 3=>3 | 75=>95 | 0=>0 | 93=>69 | 91=>67 | 131=>167 | 4=>4 | 37=>27 | 20=>20 | 80=>100 | 5=>5 | n=>n,fun | 14=>3 | n=>n⟩
theorem Z4v:Go.Proofs.LaysM.n178 Tryz.prog Z2y:={
 mixed:=by kernel_rfl
 f178:=Tryz.func54.trans (congrArg some (by kernel_rfl))
 f181:=Tryz.func135.trans (congrArg some (by kernel_rfl))
 f184:=Tryz.func136.trans (congrArg some (by kernel_rfl))
 f251:=Tryz.func92.trans (congrArg some (by kernel_rfl))
 f252:=Tryz.func93.trans (congrArg some (by kernel_rfl))
 f290:=Tryz.func137.trans (congrArg some (by kernel_rfl))
 f324:=Tryz.func183.trans (congrArg some (by kernel_rfl))
 t0:=Tryz.underlying0
 a0:=Tryz.isAgg0
 z0:=Tryz.sizeOf0
 v0:=Tryz.zeroValue0
 t3:=Tryz.underlying3
 a3:=Tryz.isAgg3
 z3:=Tryz.sizeOf3
 v3:=Tryz.zeroValue3
 t4:=Tryz.underlying4
 a4:=Tryz.isAgg4
 z4:=Tryz.sizeOf4
 v4:=Tryz.zeroValue4
 t9:=Tryz.underlying9
 a9:=Tryz.isAgg9
 z9:=Tryz.sizeOf9
 v9:=Tryz.zeroValue9
 t20:=Tryz.underlying20
 a20:=Tryz.isAgg20
 z20:=Tryz.sizeOf20
 v20:=Tryz.zeroValue20
 t37:=Tryz.underlying27
 a37:=Tryz.isAgg27
 z37:=Tryz.sizeOf27
 v37:=Tryz.zeroValue27
 t75:=Tryz.underlying95
 a75:=Tryz.isAgg95
 z75:=Tryz.sizeOf95
 v75:=Tryz.zeroValue95
 t91:=Tryz.underlying67
 a91:=Tryz.isAgg67
 z91:=Tryz.sizeOf67
 v91:=Tryz.zeroValue67
 t93:=Tryz.underlying69
 a93:=Tryz.isAgg69
 z93:=Tryz.sizeOf69
 v93:=Tryz.zeroValue69
 t130:=Tryz.underlying71
 a130:=Tryz.isAgg71
 z130:=Tryz.sizeOf71
 v130:=Tryz.zeroValue71
 t131:=Tryz.underlying167
 a131:=Tryz.isAgg167
 z131:=Tryz.sizeOf167
 v131:=Tryz.zeroValue167
 g14:=by kernel_rfl
 t5:=Tryz.underlying5
 a5:=Tryz.isAgg5
 z5:=Tryz.sizeOf5
 v5:=Tryz.zeroValue5
 t80:=Tryz.underlying100
 a80:=Tryz.isAgg100
 z80:=Tryz.sizeOf100
 v80:=Tryz.zeroValue100
 i0:=by kernel_rfl
 i3:=by kernel_rfl
 i4:=by kernel_rfl
 i5:=by kernel_rfl
 i9:=by kernel_rfl
 i20:=by kernel_rfl
 i37:=by kernel_rfl
 i75:=by kernel_rfl
 i80:=by kernel_rfl
 i91:=by kernel_rfl
 i93:=by kernel_rfl
 i130:=by kernel_rfl
 i131:=by kernel_rfl
 m14:=by kernel_rfl }
def Zan:Go.Shelf.Ren:=⟨fun | 179=>102 | 251=>92 | 252=>93 | 181=>135 | 184=>136 | 290=>137 | 324=>183 | n=>n,fun | 130=>71 | 5=>5 | 75=>95 | 0=>0 | 93=>69 | 91=>67 | 3=>3 | 131=>167 | 4=>4 | 37=>27 | 20=>20 | 80=>100 | 9=>9 | n=>n,fun | 14=>3 | n=>n⟩
theorem Zci:Go.Proofs.LaysM.n179 Tryz.prog Zan:={
 mixed:=by kernel_rfl
 f179:=Tryz.func102.trans (congrArg some (by kernel_rfl))
 f181:=Tryz.func135.trans (congrArg some (by kernel_rfl))
 f184:=Tryz.func136.trans (congrArg some (by kernel_rfl))
 f251:=Tryz.func92.trans (congrArg some (by kernel_rfl))
 f252:=Tryz.func93.trans (congrArg some (by kernel_rfl))
 f290:=Tryz.func137.trans (congrArg some (by kernel_rfl))
 f324:=Tryz.func183.trans (congrArg some (by kernel_rfl))
 t0:=Tryz.underlying0
 a0:=Tryz.isAgg0
 z0:=Tryz.sizeOf0
 v0:=Tryz.zeroValue0
 t3:=Tryz.underlying3
 a3:=Tryz.isAgg3
 z3:=Tryz.sizeOf3
 v3:=Tryz.zeroValue3
 t4:=Tryz.underlying4
 a4:=Tryz.isAgg4
 z4:=Tryz.sizeOf4
 v4:=Tryz.zeroValue4
 t5:=Tryz.underlying5
 a5:=Tryz.isAgg5
 z5:=Tryz.sizeOf5
 v5:=Tryz.zeroValue5
 t20:=Tryz.underlying20
 a20:=Tryz.isAgg20
 z20:=Tryz.sizeOf20
 v20:=Tryz.zeroValue20
 t37:=Tryz.underlying27
 a37:=Tryz.isAgg27
 z37:=Tryz.sizeOf27
 v37:=Tryz.zeroValue27
 t75:=Tryz.underlying95
 a75:=Tryz.isAgg95
 z75:=Tryz.sizeOf95
 v75:=Tryz.zeroValue95
 t91:=Tryz.underlying67
 a91:=Tryz.isAgg67
 z91:=Tryz.sizeOf67
 v91:=Tryz.zeroValue67
 t93:=Tryz.underlying69
 a93:=Tryz.isAgg69
 z93:=Tryz.sizeOf69
 v93:=Tryz.zeroValue69
 t130:=Tryz.underlying71
 a130:=Tryz.isAgg71
 z130:=Tryz.sizeOf71
 v130:=Tryz.zeroValue71
 t131:=Tryz.underlying167
 a131:=Tryz.isAgg167
 z131:=Tryz.sizeOf167
 v131:=Tryz.zeroValue167
 g14:=by kernel_rfl
 t9:=Tryz.underlying9
 a9:=Tryz.isAgg9
 z9:=Tryz.sizeOf9
 v9:=Tryz.zeroValue9
 t80:=Tryz.underlying100
 a80:=Tryz.isAgg100
 z80:=Tryz.sizeOf100
 v80:=Tryz.zeroValue100
 i0:=by kernel_rfl
 i3:=by kernel_rfl
 i4:=by kernel_rfl
 i5:=by kernel_rfl
 i9:=by kernel_rfl
 i20:=by kernel_rfl
 i37:=by kernel_rfl
 i75:=by kernel_rfl
 i80:=by kernel_rfl
 i91:=by kernel_rfl
 i93:=by kernel_rfl
 i130:=by kernel_rfl
 i131:=by kernel_rfl
 m14:=by kernel_rfl }
def Zam:Go.Shelf.Ren:=⟨fun | 180=>101 | 251=>92 | 252=>93 | 181=>135 | 184=>136 | 290=>137 | 324=>183 | n=>n,fun | 130=>71 | 37=>27 | 3=>3 | 75=>95 | 0=>0 | 93=>69 | 91=>67 | 131=>167 | 4=>4 | 20=>20 | 5=>5 | 80=>100 | 9=>9 | n=>n,fun | 14=>3 | n=>n⟩
theorem Zc6:Go.Proofs.LaysM.n180 Tryz.prog Zam:={
 mixed:=by kernel_rfl
 f180:=Tryz.func101.trans (congrArg some (by kernel_rfl))
 f181:=Tryz.func135.trans (congrArg some (by kernel_rfl))
 f184:=Tryz.func136.trans (congrArg some (by kernel_rfl))
 f251:=Tryz.func92.trans (congrArg some (by kernel_rfl))
 f252:=Tryz.func93.trans (congrArg some (by kernel_rfl))
 f290:=Tryz.func137.trans (congrArg some (by kernel_rfl))
 f324:=Tryz.func183.trans (congrArg some (by kernel_rfl))
 t0:=Tryz.underlying0
 a0:=Tryz.isAgg0
 z0:=Tryz.sizeOf0
 v0:=Tryz.zeroValue0
 t3:=Tryz.underlying3
 a3:=Tryz.isAgg3
 z3:=Tryz.sizeOf3
 v3:=Tryz.zeroValue3
 t4:=Tryz.underlying4
 a4:=Tryz.isAgg4
 z4:=Tryz.sizeOf4
 v4:=Tryz.zeroValue4
 t20:=Tryz.underlying20
 a20:=Tryz.isAgg20
 z20:=Tryz.sizeOf20
 v20:=Tryz.zeroValue20
 t37:=Tryz.underlying27
 a37:=Tryz.isAgg27
 z37:=Tryz.sizeOf27
 v37:=Tryz.zeroValue27
 t75:=Tryz.underlying95
 a75:=Tryz.isAgg95
 z75:=Tryz.sizeOf95
 v75:=Tryz.zeroValue95
 t91:=Tryz.underlying67
 a91:=Tryz.isAgg67
 z91:=Tryz.sizeOf67
 v91:=Tryz.zeroValue67
 t93:=Tryz.underlying69
 a93:=Tryz.isAgg69
 z93:=Tryz.sizeOf69
 v93:=Tryz.zeroValue69
 t130:=Tryz.underlying71
 a130:=Tryz.isAgg71
 z130:=Tryz.sizeOf71
 v130:=Tryz.zeroValue71
 t131:=Tryz.underlying167
 a131:=Tryz.isAgg167
 z131:=Tryz.sizeOf167
 v131:=Tryz.zeroValue167
 g14:=by kernel_rfl
 t5:=Tryz.underlying5
 a5:=Tryz.isAgg5
 z5:=Tryz.sizeOf5
 v5:=Tryz.zeroValue5
 t9:=Tryz.underlying9
 a9:=Tryz.isAgg9
 z9:=Tryz.sizeOf9
 v9:=Tryz.zeroValue9
 t80:=Tryz.underlying100
 a80:=Tryz.isAgg100
 z80:=Tryz.sizeOf100
 v80:=Tryz.zeroValue100
 i0:=by kernel_rfl
 i3:=by kernel_rfl
 i4:=by kernel_rfl
 i5:=by kernel_rfl
 i9:=by kernel_rfl
 i20:=by kernel_rfl
 i37:=by kernel_rfl
 i75:=by kernel_rfl
 i80:=by kernel_rfl
 i91:=by kernel_rfl
 i93:=by kernel_rfl
 i130:=by kernel_rfl
 i131:=by kernel_rfl
 m14:=by kernel_rfl }
def Z1h:Go.Shelf.Ren:=⟨fun | 183=>28 | n=>n,fun | 130=>71 | 37=>27 | 0=>0 | 93=>69 | 3=>3 | 5=>5 | 91=>67 | n=>n,fun | n=>n⟩
theorem Z35:Go.Proofs.LaysM.n183 Tryz.prog Z1h:={
 mixed:=by kernel_rfl
 f183:=Tryz.func28.trans (congrArg some (by kernel_rfl))
 t0:=Tryz.underlying0
 a0:=Tryz.isAgg0
 z0:=Tryz.sizeOf0
 v0:=Tryz.zeroValue0
 t3:=Tryz.underlying3
 a3:=Tryz.isAgg3
 z3:=Tryz.sizeOf3
 v3:=Tryz.zeroValue3
 t37:=Tryz.underlying27
 a37:=Tryz.isAgg27
 z37:=Tryz.sizeOf27
 v37:=Tryz.zeroValue27
 t93:=Tryz.underlying69
 a93:=Tryz.isAgg69
 z93:=Tryz.sizeOf69
 v93:=Tryz.zeroValue69
 t130:=Tryz.underlying71
 a130:=Tryz.isAgg71
 z130:=Tryz.sizeOf71
 v130:=Tryz.zeroValue71
 t5:=Tryz.underlying5
 a5:=Tryz.isAgg5
 z5:=Tryz.sizeOf5
 v5:=Tryz.zeroValue5
 t91:=Tryz.underlying67
 a91:=Tryz.isAgg67
 z91:=Tryz.sizeOf67
 v91:=Tryz.zeroValue67
 i0:=by kernel_rfl
 i3:=by kernel_rfl
 i5:=by kernel_rfl
 i37:=by kernel_rfl
 i91:=by kernel_rfl
 i93:=by kernel_rfl
 i130:=by kernel_rfl }
def Zhz:Go.Shelf.Ren:=⟨fun | 174=>82 | 247=>130 | 245=>131 | 287=>177 | 279=>178 | 280=>179 | 281=>180 | 282=>181 | 321=>231 | 322=>232 | 316=>233 | 171=>18 | 205=>234 | 243=>45 | 246=>55 | 283=>94 | 284=>95 | 285=>96 | 286=>97 | 129=>139 | 317=>138 | 318=>140 | 319=>141 | 320=>142 | 337=>184 | 338=>185 | n=>n,fun | 9=>9 | 3=>3 | 2=>2 | 75=>95 | 85=>161 | 4=>4 | 167=>278 | 5=>5 | 53=>171 | 175=>279 | 46=>188 | 168=>281 | 37=>27 | 0=>0 | 210=>341 | 21=>21 | 127=>136 | 145=>392 | 143=>390 | 171=>170 | 173=>174 | 212=>228 | 51=>56 | 20=>20 | 213=>229 | 232=>343 | 233=>344 | 80=>100 | n=>n,fun | 15=>5 | 16=>6 | 17=>4 | 18=>7 | 19=>8 | n=>n⟩
theorem Zkg:Go.Proofs.LaysC.n174 Tryz.prog Zhz:={
 mixed:=by kernel_rfl
 f129:=Tryz.func139.trans (congrArg some (by kernel_rfl))
 f171:=Tryz.func18.trans (congrArg some (by kernel_rfl))
 f174:=Tryz.func82.trans (congrArg some (by kernel_rfl))
 f205:=Tryz.func234.trans (congrArg some (by kernel_rfl))
 f243:=Tryz.func45.trans (congrArg some (by kernel_rfl))
 f245:=Tryz.func131.trans (congrArg some (by kernel_rfl))
 f246:=Tryz.func55.trans (congrArg some (by kernel_rfl))
 f247:=Tryz.func130.trans (congrArg some (by kernel_rfl))
 f279:=Tryz.func178.trans (congrArg some (by kernel_rfl))
 f280:=Tryz.func179.trans (congrArg some (by kernel_rfl))
 f281:=Tryz.func180.trans (congrArg some (by kernel_rfl))
 f282:=Tryz.func181.trans (congrArg some (by kernel_rfl))
 f283:=Tryz.func94.trans (congrArg some (by kernel_rfl))
 f284:=Tryz.func95.trans (congrArg some (by kernel_rfl))
 f285:=Tryz.func96.trans (congrArg some (by kernel_rfl))
 f286:=Tryz.func97.trans (congrArg some (by kernel_rfl))
 f287:=Tryz.func177.trans (congrArg some (by kernel_rfl))
 f316:=Tryz.func233.trans (congrArg some (by kernel_rfl))
 f317:=Tryz.func138.trans (congrArg some (by kernel_rfl))
 f318:=Tryz.func140.trans (congrArg some (by kernel_rfl))
 f319:=Tryz.func141.trans (congrArg some (by kernel_rfl))
 f320:=Tryz.func142.trans (congrArg some (by kernel_rfl))
 f321:=Tryz.func231.trans (congrArg some (by kernel_rfl))
 f322:=Tryz.func232.trans (congrArg some (by kernel_rfl))
 f337:=Tryz.func184.trans (congrArg some (by kernel_rfl))
 f338:=Tryz.func185.trans (congrArg some (by kernel_rfl))
 t0:=Tryz.underlying0
 a0:=Tryz.isAgg0
 z0:=Tryz.sizeOf0
 v0:=Tryz.zeroValue0
 t2:=Tryz.underlying2
 a2:=Tryz.isAgg2
 z2:=Tryz.sizeOf2
 v2:=Tryz.zeroValue2
 t3:=Tryz.underlying3
 a3:=Tryz.isAgg3
 z3:=Tryz.sizeOf3
 v3:=Tryz.zeroValue3
 t4:=Tryz.underlying4
 a4:=Tryz.isAgg4
 z4:=Tryz.sizeOf4
 v4:=Tryz.zeroValue4
 t5:=Tryz.underlying5
 a5:=Tryz.isAgg5
 z5:=Tryz.sizeOf5
 v5:=Tryz.zeroValue5
 t9:=Tryz.underlying9
 a9:=Tryz.isAgg9
 z9:=Tryz.sizeOf9
 v9:=Tryz.zeroValue9
 t20:=Tryz.underlying20
 a20:=Tryz.isAgg20
 z20:=Tryz.sizeOf20
 v20:=Tryz.zeroValue20
 t21:=Tryz.underlying21
 a21:=Tryz.isAgg21
 z21:=Tryz.sizeOf21
 v21:=Tryz.zeroValue21
 t37:=Tryz.underlying27
 a37:=Tryz.isAgg27
 z37:=Tryz.sizeOf27
 v37:=Tryz.zeroValue27
 t46:=Tryz.underlying188
 a46:=Tryz.isAgg188
 z46:=Tryz.sizeOf188
 v46:=Tryz.zeroValue188
 t51:=Tryz.underlying56
 a51:=Tryz.isAgg56
 z51:=Tryz.sizeOf56
 v51:=Tryz.zeroValue56
 t53:=Tryz.underlying171
 a53:=Tryz.isAgg171
 z53:=Tryz.sizeOf171
 v53:=Tryz.zeroValue171
 t75:=Tryz.underlying95
 a75:=Tryz.isAgg95
 z75:=Tryz.sizeOf95
 v75:=Tryz.zeroValue95
 t85:=Tryz.underlying161
 a85:=Tryz.isAgg161
 z85:=Tryz.sizeOf161
 v85:=Tryz.zeroValue161
 t127:=Tryz.underlying136
 a127:=Tryz.isAgg136
 z127:=Tryz.sizeOf136
 v127:=Tryz.zeroValue136
 t143:=Tryz.underlying390
 a143:=Tryz.isAgg390
 z143:=Tryz.sizeOf390
 v143:=Tryz.zeroValue390
 t145:=Tryz.underlying392
 a145:=Tryz.isAgg392
 z145:=Tryz.sizeOf392
 v145:=Tryz.zeroValue392
 t167:=Tryz.underlying278
 a167:=Tryz.isAgg278
 z167:=Tryz.sizeOf278
 v167:=Tryz.zeroValue278
 t168:=Tryz.underlying281
 a168:=Tryz.isAgg281
 z168:=Tryz.sizeOf281
 v168:=Tryz.zeroValue281
 t171:=Tryz.underlying170
 a171:=Tryz.isAgg170
 z171:=Tryz.sizeOf170
 v171:=Tryz.zeroValue170
 t173:=Tryz.underlying174
 a173:=Tryz.isAgg174
 z173:=Tryz.sizeOf174
 v173:=Tryz.zeroValue174
 t175:=Tryz.underlying279
 a175:=Tryz.isAgg279
 z175:=Tryz.sizeOf279
 v175:=Tryz.zeroValue279
 t210:=Tryz.underlying341
 a210:=Tryz.isAgg341
 z210:=Tryz.sizeOf341
 v210:=Tryz.zeroValue341
 t212:=Tryz.underlying228
 a212:=Tryz.isAgg228
 z212:=Tryz.sizeOf228
 v212:=Tryz.zeroValue228
 t213:=Tryz.underlying229
 a213:=Tryz.isAgg229
 z213:=Tryz.sizeOf229
 t232:=Tryz.underlying343
 a232:=Tryz.isAgg343
 z232:=Tryz.sizeOf343
 v232:=Tryz.zeroValue343
 t233:=Tryz.underlying344
 a233:=Tryz.isAgg344
 z233:=Tryz.sizeOf344
 v233:=Tryz.zeroValue344
 g15:=by kernel_rfl
 g16:=by kernel_rfl
 g17:=by kernel_rfl
 g18:=by kernel_rfl
 g19:=by kernel_rfl
 t80:=Tryz.underlying100
 a80:=Tryz.isAgg100
 z80:=Tryz.sizeOf100
 v80:=Tryz.zeroValue100
 i0:=by kernel_rfl
 i2:=by kernel_rfl
 i3:=by kernel_rfl
 i4:=by kernel_rfl
 i5:=by kernel_rfl
 i9:=by kernel_rfl
 i20:=by kernel_rfl
 i21:=by kernel_rfl
 i37:=by kernel_rfl
 i46:=by kernel_rfl
 i51:=by kernel_rfl
 i53:=by kernel_rfl
 i75:=by kernel_rfl
 i80:=by kernel_rfl
 i85:=by kernel_rfl
 i127:=by kernel_rfl
 i143:=by kernel_rfl
 i145:=by kernel_rfl
 i167:=by kernel_rfl
 i168:=by kernel_rfl
 i171:=by kernel_rfl
 i173:=by kernel_rfl
 i175:=by kernel_rfl
 i210:=by kernel_rfl
 i212:=by kernel_rfl
 i232:=by kernel_rfl
 i233:=by kernel_rfl
 m15:=by kernel_rfl
 m16:=by kernel_rfl
 m17:=by kernel_rfl
 m18:=by kernel_rfl
 m19:=by kernel_rfl
 c0:=by kernel_rfl
 c2:=by kernel_rfl
 c3:=by kernel_rfl
 c4:=by kernel_rfl
 c5:=by kernel_rfl
 c9:=by kernel_rfl
 c20:=by kernel_rfl
 c21:=by kernel_rfl
 c37:=by kernel_rfl
 c46:=by kernel_rfl
 c51:=by kernel_rfl
 c53:=by kernel_rfl
 c75:=by kernel_rfl
 c80:=by kernel_rfl
 c85:=by kernel_rfl
 c127:=by kernel_rfl
 c143:=by kernel_rfl
 c145:=by kernel_rfl
 c167:=by kernel_rfl
 c168:=by kernel_rfl
 c171:=by kernel_rfl
 c173:=by kernel_rfl
 c175:=by kernel_rfl
 c210:=by kernel_rfl
 c212:=by kernel_rfl
 c213:=by kernel_rfl
 c232:=by kernel_rfl
 c233:=by kernel_rfl }
def Zk9:Go.Shelf.Ren:=⟨fun | 229=>78 | n=>n,fun | 9=>9 | 40=>159 | 31=>55 | 152=>218 | 3=>3 | 0=>0 | 4=>4 | 21=>21 | 154=>220 | n=>n,fun | n=>n⟩
theorem Zgt:Go.Proofs.Lays.n229 Tryz.prog Zk9:={
 mixed:=by kernel_rfl
 f229:=Tryz.func78.trans (congrArg some (by kernel_rfl))
 t0:=Tryz.underlying0
 a0:=Tryz.isAgg0
 z0:=Tryz.sizeOf0
 v0:=Tryz.zeroValue0
 t3:=Tryz.underlying3
 a3:=Tryz.isAgg3
 z3:=Tryz.sizeOf3
 v3:=Tryz.zeroValue3
 t4:=Tryz.underlying4
 a4:=Tryz.isAgg4
 z4:=Tryz.sizeOf4
 v4:=Tryz.zeroValue4
 t9:=Tryz.underlying9
 a9:=Tryz.isAgg9
 z9:=Tryz.sizeOf9
 v9:=Tryz.zeroValue9
 t21:=Tryz.underlying21
 a21:=Tryz.isAgg21
 z21:=Tryz.sizeOf21
 v21:=Tryz.zeroValue21
 t31:=Tryz.underlying55
 a31:=Tryz.isAgg55
 z31:=Tryz.sizeOf55
 v31:=Tryz.zeroValue55
 t40:=Tryz.underlying159
 a40:=Tryz.isAgg159
 z40:=Tryz.sizeOf159
 v40:=Tryz.zeroValue159
 t152:=Tryz.underlying218
 a152:=Tryz.isAgg218
 z152:=Tryz.sizeOf218
 v152:=Tryz.zeroValue218
 t154:=Tryz.underlying220
 a154:=Tryz.isAgg220
 z154:=Tryz.sizeOf220
 v154:=Tryz.zeroValue220 }
def Zis:Go.Shelf.Ren:=⟨fun | 17=>81 | 15=>129 | 20=>176 | n=>n,fun | 9=>9 | 23=>159 | 4=>4 | 3=>3 | 0=>0 | 21=>21 | n=>n,fun | n=>n⟩
theorem Zkw:Go.Proofs.LaysGw.n17 Tryz.prog Zis:={
 mixed:=by kernel_rfl
 f15:=Tryz.func129.trans (congrArg some (by kernel_rfl))
 f17:=Tryz.func81.trans (congrArg some (by kernel_rfl))
 f20:=Tryz.func176.trans (congrArg some (by kernel_rfl))
 t0:=Tryz.underlying0
 a0:=Tryz.isAgg0
 z0:=Tryz.sizeOf0
 v0:=Tryz.zeroValue0
 i0:=by kernel_rfl
 t3:=Tryz.underlying3
 a3:=Tryz.isAgg3
 z3:=Tryz.sizeOf3
 v3:=Tryz.zeroValue3
 i3:=by kernel_rfl
 t4:=Tryz.underlying4
 a4:=Tryz.isAgg4
 z4:=Tryz.sizeOf4
 v4:=Tryz.zeroValue4
 i4:=by kernel_rfl
 t9:=Tryz.underlying9
 a9:=Tryz.isAgg9
 z9:=Tryz.sizeOf9
 v9:=Tryz.zeroValue9
 i9:=by kernel_rfl
 t21:=Tryz.underlying21
 a21:=Tryz.isAgg21
 z21:=Tryz.sizeOf21
 v21:=Tryz.zeroValue21
 i21:=by kernel_rfl
 t23:=Tryz.underlying159
 a23:=Tryz.isAgg159
 z23:=Tryz.sizeOf159
 v23:=Tryz.zeroValue159
 i23:=by kernel_rfl }
def Zf3:Go.Shelf.Ren:=⟨fun | 154=>17 | 138=>39 | 165=>40 | 143=>41 | 166=>42 | 197=>43 | 169=>44 | 195=>66 | 218=>67 | 240=>68 | 241=>69 | 219=>59 | 260=>70 | 276=>114 | 277=>115 | 217=>103 | 225=>104 | 224=>105 | 267=>106 | 266=>146 | 314=>147 | n=>n,fun | 9=>9 | 3=>3 | 4=>4 | 72=>92 | 0=>0 | 76=>96 | 105=>98 | 21=>21 | 5=>5 | 70=>90 | 20=>20 | 37=>27 | 75=>95 | 127=>136 | 164=>194 | 46=>188 | 119=>197 | 139=>200 | 138=>199 | 146=>234 | 51=>56 | 80=>100 | n=>n,fun | 1=>0 | 3=>1 | 4=>2 | n=>n⟩
theorem Zgq:Go.Proofs.Lays.n154 Tryz.prog Zf3:={
 mixed:=by kernel_rfl
 f138:=Tryz.func39.trans (congrArg some (by kernel_rfl))
 f143:=Tryz.func41.trans (congrArg some (by kernel_rfl))
 f154:=Tryz.func17.trans (congrArg some (by kernel_rfl))
 f165:=Tryz.func40.trans (congrArg some (by kernel_rfl))
 f166:=Tryz.func42.trans (congrArg some (by kernel_rfl))
 f169:=Tryz.func44.trans (congrArg some (by kernel_rfl))
 f195:=Tryz.func66.trans (congrArg some (by kernel_rfl))
 f197:=Tryz.func43.trans (congrArg some (by kernel_rfl))
 f217:=Tryz.func103.trans (congrArg some (by kernel_rfl))
 f218:=Tryz.func67.trans (congrArg some (by kernel_rfl))
 f219:=Tryz.func59.trans (congrArg some (by kernel_rfl))
 f224:=Tryz.func105.trans (congrArg some (by kernel_rfl))
 f225:=Tryz.func104.trans (congrArg some (by kernel_rfl))
 f240:=Tryz.func68.trans (congrArg some (by kernel_rfl))
 f241:=Tryz.func69.trans (congrArg some (by kernel_rfl))
 f260:=Tryz.func70.trans (congrArg some (by kernel_rfl))
 f266:=Tryz.func146.trans (congrArg some (by kernel_rfl))
 f267:=Tryz.func106.trans (congrArg some (by kernel_rfl))
 f276:=Tryz.func114.trans (congrArg some (by kernel_rfl))
 f277:=Tryz.func115.trans (congrArg some (by kernel_rfl))
 f314:=Tryz.func147.trans (congrArg some (by kernel_rfl))
 t0:=Tryz.underlying0
 a0:=Tryz.isAgg0
 z0:=Tryz.sizeOf0
 v0:=Tryz.zeroValue0
 t3:=Tryz.underlying3
 a3:=Tryz.isAgg3
 z3:=Tryz.sizeOf3
 v3:=Tryz.zeroValue3
 t4:=Tryz.underlying4
 a4:=Tryz.isAgg4
 z4:=Tryz.sizeOf4
 v4:=Tryz.zeroValue4
 t5:=Tryz.underlying5
 a5:=Tryz.isAgg5
 z5:=Tryz.sizeOf5
 v5:=Tryz.zeroValue5
 t9:=Tryz.underlying9
 a9:=Tryz.isAgg9
 z9:=Tryz.sizeOf9
 v9:=Tryz.zeroValue9
 t20:=Tryz.underlying20
 a20:=Tryz.isAgg20
 z20:=Tryz.sizeOf20
 v20:=Tryz.zeroValue20
 t21:=Tryz.underlying21
 a21:=Tryz.isAgg21
 z21:=Tryz.sizeOf21
 v21:=Tryz.zeroValue21
 t37:=Tryz.underlying27
 a37:=Tryz.isAgg27
 z37:=Tryz.sizeOf27
 v37:=Tryz.zeroValue27
 t46:=Tryz.underlying188
 a46:=Tryz.isAgg188
 z46:=Tryz.sizeOf188
 v46:=Tryz.zeroValue188
 t51:=Tryz.underlying56
 a51:=Tryz.isAgg56
 z51:=Tryz.sizeOf56
 v51:=Tryz.zeroValue56
 t70:=Tryz.underlying90
 a70:=Tryz.isAgg90
 z70:=Tryz.sizeOf90
 v70:=Tryz.zeroValue90
 t72:=Tryz.underlying92
 a72:=Tryz.isAgg92
 z72:=Tryz.sizeOf92
 v72:=Tryz.zeroValue92
 t75:=Tryz.underlying95
 a75:=Tryz.isAgg95
 z75:=Tryz.sizeOf95
 v75:=Tryz.zeroValue95
 t76:=Tryz.underlying96
 a76:=Tryz.isAgg96
 z76:=Tryz.sizeOf96
 v76:=Tryz.zeroValue96
 t105:=Tryz.underlying98
 a105:=Tryz.isAgg98
 z105:=Tryz.sizeOf98
 v105:=Tryz.zeroValue98
 t119:=Tryz.underlying197
 a119:=Tryz.isAgg197
 z119:=Tryz.sizeOf197
 t127:=Tryz.underlying136
 a127:=Tryz.isAgg136
 z127:=Tryz.sizeOf136
 v127:=Tryz.zeroValue136
 t138:=Tryz.underlying199
 a138:=Tryz.isAgg199
 z138:=Tryz.sizeOf199
 v138:=Tryz.zeroValue199
 t139:=Tryz.underlying200
 a139:=Tryz.isAgg200
 z139:=Tryz.sizeOf200
 v139:=Tryz.zeroValue200
 t146:=Tryz.underlying234
 a146:=Tryz.isAgg234
 z146:=Tryz.sizeOf234
 v146:=Tryz.zeroValue234
 t164:=Tryz.underlying194
 a164:=Tryz.isAgg194
 z164:=Tryz.sizeOf194
 v164:=Tryz.zeroValue194
 g1:=by kernel_rfl
 g3:=by kernel_rfl
 g4:=by kernel_rfl }
theorem Zl8:Builder.Extra Tryz.prog Zf3:={
 sizeBuilder:=by kernel_rfl
 liesBuilder:=by kernel_rfl
 t5:=Tryz.underlying5
 a5:=Tryz.isAgg5
 z5:=Tryz.sizeOf5
 v5:=Tryz.zeroValue5
 infoByte:=by kernel_rfl
 cellsByte:=by kernel_rfl
 sizeByte:=by kernel_rfl
 neB5:=by decide }
def Zb0:Go.Shelf.Ren:=⟨fun | 156=>21 | 165=>40 | 166=>42 | 169=>44 | 240=>68 | 241=>69 | 276=>114 | 277=>115 | n=>n,fun | 31=>55 | 9=>9 | 3=>3 | 4=>4 | 0=>0 | 20=>20 | 72=>92 | 76=>96 | 70=>90 | 37=>27 | 75=>95 | 127=>136 | 164=>194 | 5=>5 | 80=>100 | n=>n,fun | n=>n⟩
theorem Zlu:Go.Proofs.Lays.n156 Tryz.prog Zb0:={
 mixed:=by kernel_rfl
 f156:=Tryz.func21.trans (congrArg some (by kernel_rfl))
 f165:=Tryz.func40.trans (congrArg some (by kernel_rfl))
 f166:=Tryz.func42.trans (congrArg some (by kernel_rfl))
 f169:=Tryz.func44.trans (congrArg some (by kernel_rfl))
 f240:=Tryz.func68.trans (congrArg some (by kernel_rfl))
 f241:=Tryz.func69.trans (congrArg some (by kernel_rfl))
 f276:=Tryz.func114.trans (congrArg some (by kernel_rfl))
 f277:=Tryz.func115.trans (congrArg some (by kernel_rfl))
 t0:=Tryz.underlying0
 a0:=Tryz.isAgg0
 z0:=Tryz.sizeOf0
 v0:=Tryz.zeroValue0
 t3:=Tryz.underlying3
 a3:=Tryz.isAgg3
 z3:=Tryz.sizeOf3
 v3:=Tryz.zeroValue3
 t4:=Tryz.underlying4
 a4:=Tryz.isAgg4
 z4:=Tryz.sizeOf4
 v4:=Tryz.zeroValue4
 t9:=Tryz.underlying9
 a9:=Tryz.isAgg9
 z9:=Tryz.sizeOf9
 v9:=Tryz.zeroValue9
 t20:=Tryz.underlying20
 a20:=Tryz.isAgg20
 z20:=Tryz.sizeOf20
 v20:=Tryz.zeroValue20
 t31:=Tryz.underlying55
 a31:=Tryz.isAgg55
 z31:=Tryz.sizeOf55
 v31:=Tryz.zeroValue55
 t37:=Tryz.underlying27
 a37:=Tryz.isAgg27
 z37:=Tryz.sizeOf27
 v37:=Tryz.zeroValue27
 t70:=Tryz.underlying90
 a70:=Tryz.isAgg90
 z70:=Tryz.sizeOf90
 v70:=Tryz.zeroValue90
 t72:=Tryz.underlying92
 a72:=Tryz.isAgg92
 z72:=Tryz.sizeOf92
 v72:=Tryz.zeroValue92
 t75:=Tryz.underlying95
 a75:=Tryz.isAgg95
 z75:=Tryz.sizeOf95
 v75:=Tryz.zeroValue95
 t76:=Tryz.underlying96
 a76:=Tryz.isAgg96
 z76:=Tryz.sizeOf96
 v76:=Tryz.zeroValue96
 t127:=Tryz.underlying136
 a127:=Tryz.isAgg136
 z127:=Tryz.sizeOf136
 v127:=Tryz.zeroValue136
 t164:=Tryz.underlying194
 a164:=Tryz.isAgg194
 z164:=Tryz.sizeOf194
 v164:=Tryz.zeroValue194 }
theorem Zh5:Builder.Extra Tryz.prog Zb0:={
 sizeBuilder:=by kernel_rfl
 liesBuilder:=by kernel_rfl
 t5:=Tryz.underlying5
 a5:=Tryz.isAgg5
 z5:=Tryz.sizeOf5
 v5:=Tryz.zeroValue5
 infoByte:=by kernel_rfl
 cellsByte:=by kernel_rfl
 sizeByte:=by kernel_rfl
 neB5:=by decide }
end Go.Proofs
namespace Go.Proofs.YtddknfpolkkbjaaGreatDoor.Ax
open Go Go.Acq Go.RowKit Go.Proofs
set_option maxHeartbeats 8000000
set_option maxRecDepth 20000
abbrev iC:=intC .i64
abbrev eA {α:Type}(o:Option Nat)(f:α→List Value)(x:List α)(j:List Value)(t:TypeId):Option Nat×Obj:=(o,.cells (arr f x j).toArray t)
abbrev eI (o:Option Nat)(x:List Int)(j:List Value)(t:TypeId):Option Nat×Obj:=(o,.cells (arr (intC .i64) x j).toArray t)
abbrev eC (b:Nat)(c:Array Value)(t:TypeId):Option Nat×Obj:=(some b,.cells c t)
abbrev iV (x:Int):Value:=.int .i64 x
abbrev sV (a:Option Nat)(b c:Nat):Value:=.slice (sb a) b c
abbrev nV (a b c:Nat):Value:=.slice (some ⟨a,0,none⟩) b c
abbrev pV (a:Nat):Value:=.pointer (some ⟨a,0,none⟩)
theorem Jh {p q:Prop}[Decidable p][Decidable q]{α:Type}{x:Option α}{r:α}(h:gd p (gd q x)=some r):p∧q∧x=some r:=have ⟨a,h⟩:=Zx h;⟨a,Zx h⟩
theorem Gv {p q s:Prop}[Decidable p][Decidable q][Decidable s]{α:Type}{x:Option α}{r:α}(h:gd p (gd q (gd s x))=some r):p∧q∧s∧x=some r:=have ⟨a,h⟩:=Zx h;⟨a,Jh h⟩
theorem gd4 {p q s t:Prop}[Decidable p][Decidable q][Decidable s][Decidable t]{α:Type}{x:Option α}{r:α}(h:gd p (gd q (gd s (gd t x)))=some r):p∧q∧s∧t∧x=some r:=have ⟨a,h⟩:=Zx h;⟨a,Gv h⟩
theorem dN {C:Cx}{ops:Array Oper}{Q:Exit→Act→World→Prop}{E:Env}{H:Heap}{y:Code}(h:T C y Q E H):TO C ops (Exit.then (y.wpIn (FW C.ρ) 0 C.P Q) Q) [] E H:=h
theorem dS {C:Cx}{ops:Array Oper}{Q:Exit→Act→World→Prop}{E:Env}{H:Heap}{x y:Code}(h:T C x (Exit.then (y.wpIn (FW C.ρ) 0 C.P Q) Q) E H):TO C ops (Exit.then ((Code.seq x y).wpIn (FW C.ρ) 0 C.P Q) Q) [] E H:=dN (Zi h)
theorem rG {C:Cx}{ops:Array Oper}{Q:Exit→Act→World→Prop}{E:Env}{H:Heap}{id:Nat}(l:List Nat)(hl:List.range ops.size=l)(h:TO C ops Q l E H):T C (.region id ops false) Q E H:=Z0g hl h
theorem sR {C:Cx}{ops:Array Oper}{Q:Exit→Act→World→Prop}{E:Env}{H:Heap}{id:Nat}{y:Code}(l:List Nat)(hl:List.range ops.size=l)(h:TO C ops (Exit.then (y.wpIn (FW C.ρ) 0 C.P Q) Q) l E H):T C (.seq (.region id ops false) y) Q E H:=Zi (Z0g hl h)
theorem aN {C:Cx}{ops:Array Oper}{Q:Exit→Act→World→Prop}{E:Env}{H:Heap}{y:Code}{i d:Nat}{ty:TypeId}{pos:String}{af:Array Edge}{g:Option (Nat×Bool)}{x:Operand}{v:Value}(q:ops[i]?=some ⟨some d,.assign x,ty,pos,af,g⟩∧Zp ops E g=true∧Nat.ble (d+1) C.n=true∧ev E x=some v)(k:T C y Q ((d,v)::E) H):TO C ops (Exit.then (y.wpIn (FW C.ρ) 0 C.P Q) Q) [i] E H:=have ⟨ho,hg,hd,hx⟩:=q;TO.val ho hg hd (by simp) (fun a w hf _=>by simp [execOp,hf.ev hx]) (dN k)
inductive TkI:Option Nat×Obj→Heap→Heap→Prop
  | head (p:Option Nat×Obj) (l:Heap):TkI p (p::l) l
  | tail {p q:Option Nat×Obj} {l r:Heap} (h:TkI p l r):TkI p (q::l) (q::r)
inductive PkI:Heap→Heap→Prop
  | refl (H:Heap):PkI H H
  | nil (H:Heap):PkI [] H
  | none {o:Obj} {T H:Heap} (h:PkI T H):PkI ((none,o)::T) H
  | cons {p:Option Nat×Obj} {T H R:Heap} (h:TkI p H R) (k:PkI T R):PkI (p::T) H
theorem tkI {p:Option Nat×Obj}{H R:Heap}(h:TkI p H R):Take p H R:=by
  induction h with
  | head=>exact Take.head _ _
  | tail _ ih=>exact Take.tail ih
theorem Vm {T H:Heap}(h:PkI T H):Pick T H:=by
  induction h with
  | refl H=>exact Zv H
  | nil H=>exact Zf
  | none _ ih=>exact Pick.none ih
  | cons h _ ih=>exact Zd (tkI h) ih
theorem rsI {w0 w:World}{M:List Nat}{H:Heap}(hi:Inv w0 M w H){n c:Nat}{xs:List Int}{ob:Option Nat}{T':TypeId}{fr:Nat×Nat}{j:List Value}(hm:(ob,Obj.cells (arr (intC .i64) xs j).toArray T' fr)∈H)(hn:xs.length=n)(hc:n≤c)(h0:ob=none→c=0):RS w [] (intC .i64) 1 (sb ob) n c xs:=hi.rs (f:=intC .i64) (s:=1) (fun _=>rfl) hm hn hc h0
theorem rsB {w0 w:World}{M:List Nat}{H:Heap}(hi:Inv w0 M w H){n c:Nat}{xs:List Bool}{ob:Option Nat}{T':TypeId}{fr:Nat×Nat}{j:List Value}(hm:(ob,Obj.cells (arr boolC xs j).toArray T' fr)∈H)(hn:xs.length=n)(hc:n≤c)(h0:ob=none→c=0):RS w [] boolC 1 (sb ob) n c xs:=hi.rs (f:=boolC) (s:=1) (fun _=>rfl) hm hn hc h0
abbrev rV (l:List Nat)(x:Value):Sp:=⟨l,false,[],relV x⟩
def pkE:List Nat→Env→Option Env
  | [],_=>some []
  | t::l,E=>match find E t with
    | none=>none
    | some v=>match pkE l E with
      | none=>none
      | some L=>some ((t,v)::L)
theorem aT {E:Env}:∀ (l:List Nat) {L:Env},pkE l E=some L→AllF L E
  | [],L,h=>by injection h with h;subst h;exact Z00
  | t::l,L,h=>by
    simp only [pkE] at h
    split at h
    ·cases h
    · rename_i v hv
      split at h
      ·cases h
      · rename_i L' hL
        injection h with h
        subst h
        exact Zim hv (aT l hL)
theorem aF {L E:Env}(h:pkE (L.map Prod.fst) E=some L):AllF L E:=aT _ h
abbrev Y1:List Nat:=[0]
abbrev Y2:List Nat:=[0,1]
abbrev Y3:List Nat:=[0,1,2]
abbrev Y4:List Nat:=[0,1,2,3]
abbrev Y5:List Nat:=[0,1,2,3,4]
abbrev Y6:List Nat:=[0,1,2,3,4,5]
abbrev Y7:List Nat:=[0,1,2,3,4,5,6]
abbrev Y8:List Nat:=[0,1,2,3,4,5,6,7]
abbrev Y9:List Nat:=[0,1,2,3,4,5,6,7,8]
abbrev Y10:List Nat:=[0,1,2,3,4,5,6,7,8,9]
abbrev Y11:List Nat:=[0,1,2,3,4,5,6,7,8,9,10]
abbrev Y12:List Nat:=[0,1,2,3,4,5,6,7,8,9,10,11]
abbrev Y13:List Nat:=[0,1,2,3,4,5,6,7,8,9,10,11,12]
abbrev Y14:List Nat:=[0,1,2,3,4,5,6,7,8,9,10,11,12,13]
abbrev Y16:List Nat:=[0,1,2,3,4,5,6,7,8,9,10,11,12,13,14,15]
abbrev Y18:List Nat:=[0,1,2,3,4,5,6,7,8,9,10,11,12,13,14,15,16,17]
abbrev Y20:List Nat:=[0,1,2,3,4,5,6,7,8,9,10,11,12,13,14,15,16,17,18,19]
abbrev Y25:List Nat:=[0,1,2,3,4,5,6,7,8,9,10,11,12,13,14,15,16,17,18,19,20,21,22,23,24]
abbrev Y29:List Nat:=[0,1,2,3,4,5,6,7,8,9,10,11,12,13,14,15,16,17,18,19,20,21,22,23,24,25,26,27,28]
theorem Xu:Tryz.prog.follows .mixedOrders=true:=by kernel_rfl
theorem Z1x:Ua Tryz.prog 115 2=true:=by kernel_rfl
theorem Zg8:Ua Tryz.prog 116 12=true:=by kernel_rfl
theorem Yy:Ua Tryz.prog 24 4=true:=by kernel_rfl
theorem Jf:Ua Tryz.prog 64 3=true:=by kernel_rfl
theorem Zf9:Vn Tryz.prog 64=some 24:=by kernel_rfl
theorem Zeg:Zz Tryz.prog 132=true:=by kernel_rfl
theorem Zbk:Zz Tryz.prog 133=true:=by kernel_rfl
theorem Zea:Zz Tryz.prog 134=true:=by kernel_rfl
theorem Zdd:Zz Tryz.prog 182=true:=by kernel_rfl
theorem Z2q:Zz Tryz.prog 23=true:=by kernel_rfl
theorem Zjv:Zz Tryz.prog 53=true:=by kernel_rfl
theorem Zjb:Zz Tryz.prog 83=true:=by kernel_rfl
theorem Zjw:Zz Tryz.prog 84=true:=by kernel_rfl
theorem Zij:Zz Tryz.prog 85=true:=by kernel_rfl
theorem Ry:Zz Tryz.prog 86=true:=by kernel_rfl
theorem Zf8:Zz Tryz.prog 87=true:=by kernel_rfl
theorem Zjy:Zz Tryz.prog 88=true:=by kernel_rfl
theorem Zh3:Zz Tryz.prog 89=true:=by kernel_rfl
theorem Zjm:Zz Tryz.prog 90=true:=by kernel_rfl
theorem Zgs:Zz Tryz.prog 91=true:=by kernel_rfl
theorem Z14:Wk Tryz.prog 115 0=some 0:=by kernel_rfl
theorem Z0z:Wk Tryz.prog 115 1=some 1:=by kernel_rfl
theorem Vq:Wk Tryz.prog 24 0=some 0:=by kernel_rfl
theorem Ku:Wk Tryz.prog 24 1=some 1:=by kernel_rfl
theorem Gb:Wk Tryz.prog 24 2=some 2:=by kernel_rfl
theorem Wz:Wk Tryz.prog 24 3=some 3:=by kernel_rfl
theorem Gh:Wk Tryz.prog 64 0=some 0:=by kernel_rfl
theorem Nj:Wk Tryz.prog 64 1=some 1:=by kernel_rfl
theorem Np:Wk Tryz.prog 64 2=some 2:=by kernel_rfl
theorem Xv:Ym Tryz.prog 22=some 64:=by kernel_rfl
theorem Z19:Yg Tryz.prog 115=some 2:=by kernel_rfl
theorem Zix:Yg Tryz.prog 116=some 12:=by kernel_rfl
theorem Ze6:Yg Tryz.prog 22=some 1:=by kernel_rfl
theorem Gu:Yg Tryz.prog 24=some 4:=by kernel_rfl
theorem Wc:Yg Tryz.prog 3=some 1:=by kernel_rfl
theorem Wt:Yg Tryz.prog 64=some 3:=by kernel_rfl
theorem Z1y:Tryz.prog.underlying 116=some (.array 6 115):=by kernel_rfl
theorem Z23:Xi Tryz.prog 113=true:=by kernel_rfl
theorem Zdh:Xi Tryz.prog 165=true:=by kernel_rfl
theorem Wn:Xi Tryz.prog 2=true:=by kernel_rfl
theorem Vk:Xi Tryz.prog 22=true:=by kernel_rfl
theorem Jq:Xi Tryz.prog 28=true:=by kernel_rfl
theorem Yf:Xi Tryz.prog 3=true:=by kernel_rfl
theorem Z1r:Xb Tryz.prog 115=some (.agg #[.nilFunc,iV 0]):=by kernel_rfl
theorem Zhe:Xb Tryz.prog 116=some (.agg #[.nilFunc,iV 0,.nilFunc,iV 0,.nilFunc,iV 0,.nilFunc,iV 0,.nilFunc,iV 0,.nilFunc,iV 0]):=by kernel_rfl
theorem Rz:Xb Tryz.prog 24=some (.agg #[iV 0,iV 0,iV 0,.slice none 0 0]):=by kernel_rfl
theorem Jr:Xb Tryz.prog 64=some (.agg #[iV 0,iV 0,iV 0]):=by kernel_rfl
theorem Zjh:ElemT Tryz.prog 22 64 3 24 (.agg #[iV 0,iV 0,iV 0]):=⟨Xv,Wt,Zf9,Jr,rfl⟩
theorem Z2o {x0 n1:Int}(w:World){r0:Int}(H:Lv x0 n1=some r0):Fnc Tryz.prog 23 #[iV x0,iV n1] w [] (fun v N=>v=iV r0∧N=[]):=by
 unfold Lv at H;refine Fnc.enter (vs:=[iV x0,iV n1]) Tryz.func23 rfl rfl (Inv.refl w) ?_;refine sR Y1 rfl ?_;refine aN Za ?_;refine Zi ?_;refine sR Y2 rfl ?_;refine Zc Za ?_;refine Zr Zl ?_;refine dN ?_;rcases Zq H with ⟨g1,H⟩ | ⟨g1,H⟩
 ·refine Yx rfl g1 ?_;refine sR Y1 rfl ?_;refine aN Za ?_;refine T.ret ?_;refine Yc ?_;obtain rfl:=ret1 H;exact Ye Za (Res.tmp rfl) Zf ⟨rfl,rfl⟩
 ·refine Yu rfl g1 ?_;refine T.skip ?_;refine Yb ?_;obtain ⟨g2,g3,g4,H⟩:=Gv H;refine sR Y8 rfl ?_;refine Zc Za ?_;refine Zc Za ?_;refine TO.rem Zb g2 ?_;refine Zc Za ?_;refine Xt g3 Zb ?_;refine Zc Za ?_;refine TO.rem Zb g4 ?_;refine aN Za ?_;refine Zo (aT [4] rfl) ?_;refine T.ret ?_;obtain rfl:=ret1 H;exact Ye Za (Res.tmp rfl) Zf ⟨rfl,rfl⟩
theorem Zih {n0:Net}{verts1 arcs2:Int}{a5:Option Addr}{a9 a7:Nat}(w:World)(a6:RS w [] Zu 3 a5 a9 a7 n0.Arcs){r0:Net}(H:Z45 n0 verts1 arcs2=some r0):Fnc Tryz.prog 6 #[.agg #[iV n0.N,iV n0.S,iV n0.T,.slice a5 a9 a7],iV verts1,iV arcs2] w [] (fun v N=>∃ (d6:Option Nat) (g6 g7:Nat) (j4:List Value),v=.agg #[iV r0.N,iV r0.S,iV r0.T,sV d6 g6 g7]∧N=[(eA d6 Zu r0.Arcs j4 64)]∧r0.Arcs.length=g6∧g6≤g7∧j4.length=(g7-g6)*3∧(d6=none→g7=0)):=by
 unfold Z45 at H;refine Fnc.enter (vs:=[.agg #[iV n0.N,iV n0.S,iV n0.T,.slice a5 a9 a7],iV verts1,iV arcs2]) Tryz.func6 rfl rfl (Inv.refl w) ?_;refine sR Y2 rfl ?_;refine Xz Za ?_;intro b1;refine Wb Zk Rz ?_;intro b3;refine dN ?_;refine Zi ?_;obtain ⟨g5,H⟩:=Zx H;obtain ⟨r6,e7,H⟩:=Zm H;obtain ⟨g8,H⟩:=Zx H;refine rG Y9 rfl ?_;refine Zs Za Vq ?_;refine Zt Za Yf Yk rfl ?_;refine Zc Za ?_;refine Lk g5 Zb ?_;refine Zw Z2q Za (fun wc hwc=>Z2o (x0:=n0.N) (n1:=(verts1 - 1)) wc  e7) ?_;rintro _ _ ⟨rfl,rfl⟩;refine Xt g8 Zb ?_;refine Vj (t:=24) [iV 0,iV 0,iV 0,.slice none 0 0] [0,1,2,3] Za (by simp only [Xo,setCells,Value.cells,List.toList_toArray,List.getD_cons_zero,List.getD_cons_succ,List.set_cons_zero,List.set_cons_succ];rfl) (by kernel_rfl) ?_;refine Wb Zk Rz ?_;intro b9;refine Xx Za Ze Gu Zk ?_;refine dN ?_;refine Zo (aT [2,3,6,7] rfl) ?_;refine Zi ?_;obtain ⟨b7,k2,H⟩:=Zm H;refine rG Y7 rfl ?_;refine Zs Za Ku ?_;refine Zt Za Yf Wj rfl ?_;refine Zs Za Vq ?_;refine Zt Za Yf Zh rfl ?_;refine Zw Z2q Za (fun wc hwc=>Z2o (x0:=n0.S) (n1:=(2+r6)) wc  k2) ?_;rintro _ _ ⟨rfl,rfl⟩;refine Zs Za Ku ?_;refine Xp (cs':=[iV (2+r6),iV b7,iV 0,.slice none 0 0]) Za Ze Wc Zk ?_;refine dS ?_;obtain ⟨j5,k3,H⟩:=Zm H;refine rG Y7 rfl ?_;refine Zs Za Gb ?_;refine Zt Za Yf Wj rfl ?_;refine Zs Za Vq ?_;refine Zt Za Yf Zh rfl ?_;refine Zw Z2q Za (fun wc hwc=>Z2o (x0:=n0.T) (n1:=(2+r6)) wc  k3) ?_;rintro _ _ ⟨rfl,rfl⟩;refine Zs Za Gb ?_;refine Xp (cs':=[iV (2+r6),iV b7,iV j5,.slice none 0 0]) Za Ze Wc Zk ?_;refine dN ?_;refine Zo (aT [2,3,6,7] rfl) ?_;refine Zi ?_;refine sR Y5 rfl ?_;refine Zs Za Ku ?_;refine Zt Za Yf Zh rfl ?_;refine Zs Za Gb ?_;refine Zt Za Yf Zh rfl ?_;refine Zr Zl ?_;refine dN ?_;refine Wf (fun (c4:Int)=>Z1q n0 arcs2 r6 b7 c4=some r0) (fun (c4:Int)=>[(2,iV arcs2),(3,pV b1),(6,pV b3),(7,pV b9)]) (fun (c4:Int)=>[(eC b1 #[iV n0.N,iV n0.S,iV n0.T,.slice a5 a9 a7] 24),(eC b3 #[iV 0,iV 0,iV 0,.slice none 0 0] 24),(eC b9 #[iV (2+r6),iV b7,iV c4,.slice none 0 0] 24)]) ?_ ?_
 ·
  rcases Zq H with ⟨h2,H⟩ | ⟨h2,H⟩
  ·refine Yx rfl h2 ?_;obtain ⟨k4,k5,H⟩:=Jh H;refine rG Y8 rfl ?_;refine Zs Za Ku ?_;refine Zt Za Yf Zh rfl ?_;refine Xt k4 Zb ?_;refine Zs Za Vq ?_;refine Zt Za Yf Zh rfl ?_;refine TO.rem Zb k5 ?_;refine Zs Za Gb ?_;refine Xp (cs':=[iV (2+r6),iV b7,iV ((b7+1).tmod (2+r6)),.slice none 0 0]) Za Ze Wc Zk ?_;refine Zj ?_;exact Xa ((b7+1).tmod (2+r6)) H (aF rfl) (Zd Yo (Zd Zn (Zd Ze Zf)))
  ·refine Yu rfl h2 ?_;refine T.skip ?_;exact Xa j5 H (aF rfl) (Zd Yo (Zd Zn (Zd Ze Zf)))
 ·
  rintro c4 H;unfold Z1q at H;refine Zi ?_;obtain ⟨g9,H⟩:=Zx H;refine sR Y10 rfl ?_;refine Zs Za Wz ?_;refine Zt Za Vk Zh rfl ?_;refine Zs Za Wz ?_;refine Zt Za Vk Zh rfl ?_;refine Yt (xs:=n0.Arcs) a6.len Zb Xv ?_;refine Zc Za ?_;refine TO.min2 Zb ?_;refine Z92 (xs:=n0.Arcs) a6.len a6.cap g9 Zb Xv Wt ?_;refine Yt (xs:=(n0.Arcs.take (min (n0.Arcs.length:Int) arcs2).toNat)) ((RS.take a6 g9).len) Zb Xv ?_;refine Zc Za ?_;refine dN ?_;refine Zo (aT [6,7,49,50,51] rfl) ?_;refine Z7g (fun (a3:List Arc) (n55 c56:Nat) (b6:Option Nat) (e4:List Value)=>Z64 r6 b7 c4 a3=some r0∧a3.length=n55∧n55≤c56∧e4.length=(c56 - n55)*3∧(b6=none→c56=0)) (fun (a3:List Arc) (n55 c56:Nat) (b6:Option Nat) (e4:List Value)=>[(6,pV b3),(7,pV b9)]) (fun (a3:List Arc) (n55 c56:Nat) (b6:Option Nat) (e4:List Value)=>[(eC b3 #[iV 0,iV 0,iV 0,.slice none 0 0] 24),(eC b9 #[iV (2+r6),iV b7,iV c4,sV b6 n55 c56] 24),(eA b6 Zu a3 e4 64)]) ?_ ?_
  ·
   refine T.block ?_;obtain ⟨k6,e6,k7⟩:=Zm H;refine Z6e (fun (e5:Nat) (a2:List Arc) (b8 c9:Nat) (a4:Option Nat) (d5:List Value) (a8:Int)=>Xd (fun s=>Z41 n0 arcs2 r6 s.1 s.2) e5 (a2,a8)=some k6∧a2.length=b8∧b8≤c9∧d5.length=(c9 - b8)*3∧(a4=none→c9=0)) (fun (e5:Nat) (a2:List Arc) (b8 c9:Nat) (a4:Option Nat) (d5:List Value) (a8:Int)=>[(6,pV b3),(7,pV b9),(49,.slice a5 ((min (n0.Arcs.length:Int) arcs2).toNat) a7),(50,iV ((n0.Arcs.take (min (n0.Arcs.length:Int) arcs2).toNat).length:Int)),(51,iV a8)]) (fun (e5:Nat) (a2:List Arc) (b8 c9:Nat) (a4:Option Nat) (d5:List Value) (a8:Int)=>[(eC b3 #[iV 0,iV 0,iV 0,.slice none 0 0] 24),(eC b9 #[iV (2+r6),iV b7,iV c4,sV a4 b8 c9] 24),(eA a4 Zu a2 d5 64)]) (fun (e5:Nat) (a2:List Arc) (b8 c9:Nat) (a4:Option Nat) (d5:List Value) (a8:Int)=>e5) Xf ([]) 0 0 none ([]) 0 ⟨e6,rfl,(Nat.le_refl _),(Xg 0 _),(fun _=>rfl)⟩ (aF rfl) (Zd Zn (Zd Zn (Pick.none Zf))) ?_;rintro e5 a2 b8 c9 a4 d5 a8 ⟨H,d7,e8,e9,f0⟩;obtain ⟨k8,j6,rfl,H,j7⟩:=Ub H;have H:Z41 n0 arcs2 r6 a2 a8=some j6:=H;unfold Z41 at H;refine sR Y1 rfl ?_;refine Zr Zl ?_;refine dS ?_;rcases Zq H with ⟨h3,H⟩ | ⟨h3,H⟩
   ·
    refine Yx rfl h3 ?_;refine T.skip ?_;refine Yb ?_;refine Zi ?_;refine T.block ?_;obtain ⟨j8,H⟩:=Zx H;refine sR Y4 rfl ?_;refine Xy (RS.take a6 g9) j8 Zb Xv Wt ?_;refine Gi (cs:=[iV (((n0.Arcs.take (min (n0.Arcs.length:Int) arcs2).toNat).getD a8.toNat default).fr),iV (((n0.Arcs.take (min (n0.Arcs.length:Int) arcs2).toNat).getD a8.toNat default).to),iV (((n0.Arcs.take (min (n0.Arcs.length:Int) arcs2).toNat).getD a8.toNat default).cap)]) default (RS.take a6 g9) j8 Zb Jf ?_;refine Wb Zk Jr ?_;intro b33;refine Xx Za Ze Wt Zk ?_;refine dN ?_;refine sR Y3 rfl ?_;refine Zs Za Np ?_;refine Zt Za Wn Zh rfl ?_;refine aN Za ?_;refine Zi ?_;refine sR Y2 rfl ?_;refine Zc Za ?_;refine Zr Zl ?_;refine dN ?_;refine Wf (fun (c38:Int)=>Z20 n0 arcs2 r6 a2 a8 c38=some j6) (fun (c38:Int)=>[(6,pV b3),(7,pV b9),(9,pV b33),(10,iV c38),(49,.slice a5 ((min (n0.Arcs.length:Int) arcs2).toNat) a7),(50,iV ((n0.Arcs.take (min (n0.Arcs.length:Int) arcs2).toNat).length:Int)),(51,iV a8)]) (fun (c38:Int)=>[(eC b3 #[iV 0,iV 0,iV 0,.slice none 0 0] 24),(eC b9 #[iV (2+r6),iV b7,iV c4,sV a4 b8 c9] 24),(eA a4 Zu a2 d5 64),(eC b33 #[iV (((n0.Arcs.take (min (n0.Arcs.length:Int) arcs2).toNat).getD a8.toNat default).fr),iV (((n0.Arcs.take (min (n0.Arcs.length:Int) arcs2).toNat).getD a8.toNat default).to),iV (((n0.Arcs.take (min (n0.Arcs.length:Int) arcs2).toNat).getD a8.toNat default).cap)] 64)]) ?_ ?_
    ·
     rcases Zq H with ⟨h4,H⟩ | ⟨h4,H⟩
     ·refine Yx rfl h4 ?_;obtain ⟨k9,l0,H⟩:=Jh H;refine rG Y4 rfl ?_;refine Zc Za ?_;refine Xt k9 Zb ?_;refine TO.negG l0 Za ?_;refine Zy Za ?_;refine Zj ?_;exact Xa (-((((n0.Arcs.take (min (n0.Arcs.length:Int) arcs2).toNat).getD a8.toNat default).cap)+1)) H (aF rfl) (Zd Zn (Zd Zn (Zd Zn (Zd Ze Zf))))
     ·refine Yu rfl h4 ?_;refine T.skip ?_;exact Xa (((n0.Arcs.take (min (n0.Arcs.length:Int) arcs2).toNat).getD a8.toNat default).cap) H (aF rfl) (Zd Zn (Zd Zn (Zd Zn (Zd Ze Zf))))
    ·
     rintro c38 H;unfold Z20 at H;obtain ⟨h0,l1,H⟩:=Zm H;obtain ⟨h1,l3,H⟩:=Zm H;obtain ⟨l4,H⟩:=Zx H;apply Z2f [rV [] _,rV [0] _,rV [] _,rV [2] _,rV [] _,rV [4] _,rV [3,5] _,rV [] _,rV [7] _,rV [] _,rV [9] _,rV [8,10] _,rV [] _,rV [12] _,rV [6,11,13] _,⟨[14],false,[],fun _ v e=>∃ (f2:Nat),v=nV f2 1 1∧e=[(eA (some f2) Zu ([(Arc.mk h0 h1 (c38.tmod 1125899906842624))]) ([]) 64)]⟩] [62,63,64,65,66,67,68,69,70,71,72,73,74,75,76,77] 16 (HRk [[]]) [[]] [] [(eC b3 #[iV 0,iV 0,iV 0,.slice none 0 0] 24),(eC b9 #[iV (2+r6),iV b7,iV c4,sV a4 b8 c9] 24),(eA a4 Zu a2 d5 64),(eC b33 #[iV (((n0.Arcs.take (min (n0.Arcs.length:Int) arcs2).toNat).getD a8.toNat default).fr),iV (((n0.Arcs.take (min (n0.Arcs.length:Int) arcs2).toNat).getD a8.toNat default).to),iV (((n0.Arcs.take (min (n0.Arcs.length:Int) arcs2).toNat).getD a8.toNat default).cap)] 64)]
     ·exact Xu
     ·exact rfl
     ·kernel_rfl
     ·kernel_rfl
     ·kernel_rfl
     ·exact rfl
     ·exact rfl
     ·exact rfl
     ·exact rfl
     ·exact Vm (by repeat constructor)
     ·
      refine ⟨?_,?_,?_,?_,?_,?_,?_,?_,?_,?_,?_,?_,?_,?_,?_,?_,trivial⟩
      ·rintro vs es Es Hx -;refine Yd (D:=[]) rfl ?_;refine Zs Za Wz ?_;refine Zj ?_;exact Yj rfl ⟨rfl,rfl⟩ (Zv _) rfl
      ·rintro vs es Es Hx ⟨⟨f3,h5⟩,-⟩;refine Yd (D:=[(62,vs 0)]) rfl ?_;rw [f3];refine Zt Za Vk Yk rfl ?_;refine Zj ?_;exact Yj rfl ⟨rfl,rfl⟩ (Zv _) (by show [(62,vs 0)]=_;rw [f3])
      ·rintro vs es Es Hx -;refine Yd (D:=[]) rfl ?_;refine Zs Za Gh ?_;refine Zj ?_;exact Yj rfl ⟨rfl,rfl⟩ (Zv _) rfl
      ·rintro vs es Es Hx ⟨⟨f4,e6⟩,-⟩;refine Yd (D:=[(64,vs 2)]) rfl ?_;rw [f4];refine Zt Za Yf Un rfl ?_;refine Zj ?_;exact Yj rfl ⟨rfl,rfl⟩ (Zv _) (by show [(64,vs 2)]=_;rw [f4])
      ·rintro vs es Es Hx -;refine Yd (D:=[]) rfl ?_;refine Zs Za Vq ?_;refine Zj ?_;exact Yj rfl ⟨rfl,rfl⟩ (Zv _) rfl
      ·rintro vs es Es Hx ⟨⟨f5,h6⟩,-⟩;refine Yd (D:=[(66,vs 4)]) rfl ?_;rw [f5];refine Zt Za Yf Yk rfl ?_;refine Zj ?_;exact Yj rfl ⟨rfl,rfl⟩ (Zv _) (by show [(66,vs 4)]=_;rw [f5])
      ·rintro vs es Es Hx ⟨⟨f6,h7⟩,⟨f7,h8⟩,-⟩;refine Yd (D:=[(65,vs 3),(67,vs 5)]) rfl ?_;rw [f6,f7];refine Zw Z2q Za (fun wc hwc=>Z2o (x0:=((n0.Arcs.take (min (n0.Arcs.length:Int) arcs2).toNat).getD a8.toNat default).fr) (n1:=(2+r6)) wc  l1) ?_;rintro _ _ ⟨rfl,rfl⟩;refine Zj ?_;exact Yj rfl ⟨rfl,rfl⟩ (Zv _) (by show [(65,vs 3),(67,vs 5)]=_;rw [f6,f7])
      ·rintro vs es Es Hx -;refine Yd (D:=[]) rfl ?_;refine Zs Za Nj ?_;refine Zj ?_;exact Yj rfl ⟨rfl,rfl⟩ (Zv _) rfl
      ·rintro vs es Es Hx ⟨⟨f8,h9⟩,-⟩;refine Yd (D:=[(69,vs 7)]) rfl ?_;rw [f8];refine Zt Za Yf Un rfl ?_;refine Zj ?_;exact Yj rfl ⟨rfl,rfl⟩ (Zv _) (by show [(69,vs 7)]=_;rw [f8])
      ·rintro vs es Es Hx -;refine Yd (D:=[]) rfl ?_;refine Zs Za Vq ?_;refine Zj ?_;exact Yj rfl ⟨rfl,rfl⟩ (Zv _) rfl
      ·rintro vs es Es Hx ⟨⟨f9,i4⟩,-⟩;refine Yd (D:=[(71,vs 9)]) rfl ?_;rw [f9];refine Zt Za Yf Yk rfl ?_;refine Zj ?_;exact Yj rfl ⟨rfl,rfl⟩ (Zv _) (by show [(71,vs 9)]=_;rw [f9])
      ·rintro vs es Es Hx ⟨⟨g0,i5⟩,⟨d0,d8⟩,-⟩;refine Yd (D:=[(70,vs 8),(72,vs 10)]) rfl ?_;rw [g0,d0];refine Zw Z2q Za (fun wc hwc=>Z2o (x0:=((n0.Arcs.take (min (n0.Arcs.length:Int) arcs2).toNat).getD a8.toNat default).to) (n1:=(2+r6)) wc  l3) ?_;rintro _ _ ⟨rfl,rfl⟩;refine Zj ?_;exact Yj rfl ⟨rfl,rfl⟩ (Zv _) (by show [(70,vs 8),(72,vs 10)]=_;rw [g0,d0])
      ·rintro vs es Es Hx -;refine Yd (D:=[]) rfl ?_;refine Zc Za ?_;refine Zj ?_;exact Yj rfl ⟨rfl,rfl⟩ (Zv _) rfl
      ·rintro vs es Es Hx ⟨⟨d1,d9⟩,-⟩;refine Yd (D:=[(74,vs 12)]) rfl ?_;rw [d1];refine TO.rem Zb (by decide) ?_;refine Zj ?_;exact Yj rfl ⟨rfl,rfl⟩ (Zv _) (by show [(74,vs 12)]=_;rw [d1])
      ·rintro vs es Es Hx ⟨⟨g1,i6⟩,⟨d2,e1⟩,⟨d3,e2⟩,-⟩;refine Yd (D:=[(68,vs 6),(73,vs 11),(75,vs 13)]) rfl ?_;rw [g1,d2,d3];refine Vj (t:=64) [iV 0,iV 0,iV 0] [0,1,2] Za (by simp only [Xo,setCells,Value.cells,List.toList_toArray,List.getD_cons_zero,List.getD_cons_succ,List.set_cons_zero,List.set_cons_succ];rfl) (by kernel_rfl) ?_;refine Zj ?_;exact Yj rfl ⟨rfl,rfl⟩ (Zv _) (by show [(68,vs 6),(73,vs 11),(75,vs 13)]=_;rw [g1,d2,d3])
      ·rintro vs es Es Hx ⟨⟨d4,e3⟩,-⟩;refine Yd (D:=[(76,vs 14)]) rfl ?_;rw [d4];refine Km [iV 0,iV 0,iV 0] [0] Za Xv Wt Jr Yp (by simp only [Xo,setCells,Value.cells,List.toList_toArray,List.getD_cons_zero,List.getD_cons_succ,List.set_cons_zero,List.set_cons_succ];rfl) (by kernel_rfl) ?_;intro f2;refine Zj ?_;exact Yj rfl ⟨f2,rfl,rfl⟩ (Vm (by repeat constructor)) (by show [(76,vs 14)]=_;rw [d4])
     ·rintro vs es hb ⟨⟨f3,h5⟩,⟨j9,k1⟩,⟨f4,e6⟩,⟨f6,h7⟩,⟨f5,h6⟩,⟨f7,h8⟩,⟨g1,i6⟩,⟨f8,h9⟩,⟨g0,i5⟩,⟨f9,i4⟩,⟨d0,d8⟩,⟨d2,e1⟩,⟨d1,d9⟩,⟨d3,e2⟩,⟨d4,e3⟩,⟨f2,g2,g3⟩,-⟩ hHR;obtain rfl:hb=[]:=hHR;refine Yd (D:=[(62,vs 0),(63,vs 1),(64,vs 2),(65,vs 3),(66,vs 4),(67,vs 5),(68,vs 6),(69,vs 7),(70,vs 8),(71,vs 9),(72,vs 10),(73,vs 11),(74,vs 12),(75,vs 13),(76,vs 14),(77,vs 15)]) rfl ?_;refine Uk (H:=_++(_++(es 0++(es 1++(es 2++(es 3++(es 4++(es 5++(es 6++(es 7++(es 8++(es 9++(es 10++(es 11++(es 12++(es 13++(es 14++(es 15++([]))))))))))))))))))) rfl ?_;rw [h5,k1,e6,h7,h6,h8,i6,h9,i5,i4,d8,e1,d9,e2,e3,g3];rw [f3,j9,f4,f6,f5,f7,g1,f8,g0,f9,d0,d2,d1,d3,d4,g2];clear g2 d4 d3 d1 d2 d0 f9 g0 f8 g1 f7 f5 f6 f4 j9 f3 h5 k1 e6 h7 h6 h8 i6 h9 i5 i4 d8 e1 d9 e2 e3 g3;refine Z3n (f:=Zu) (s:=3) (xs:=a2) (ob:=a4) (j:=d5) (ys:=[(Arc.mk h0 h1 (c38.tmod 1125899906842624))]) (fun _=>rfl) (fun _=>rfl) Zjh l4 Zb Yo d7 e8 e9 f0 (fun wc hwc=>(hwc.rs (f:=Zu) (s:=3) (xs:=[(Arc.mk h0 h1 (c38.tmod 1125899906842624))]) (j:=([])) (fun _=>rfl) Vo rfl (Nat.le_refl _) Wa)) ?_;intro g4 c47 l5 i7 i8 i9;refine Zs Za Wz ?_;refine Xp (cs':=[iV (2+r6),iV b7,iV c4,sV g4 (b8+1) c47]) Za Yo Ze6 Zk ?_;refine Zj ?_;refine Yv ?_;refine Yb ?_;refine Zo (aT [6,7,49,50,51] rfl) ?_;obtain ⟨l6,H⟩:=Zx H;refine rG Y2 rfl ?_;refine Xt l6 Zb ?_;refine Zc Za ?_;refine Zj ?_;have H:=Wu H j7;exact Z3g k8 (a2++([(Arc.mk h0 h1 (c38.tmod 1125899906842624))])) (b8+1) c47 g4 l5 (a8+1) ⟨H,(Lr d7 rfl),i7,i8,i9⟩ (Nat.lt_succ_self _) (aF rfl) (Zd Yo (Zd Ze (Zd Ze Zf)))
   ·refine Yu rfl h3 ?_;refine T.exit ?_;refine Xk ?_;have H:=Wi H j7▸k7;refine Xk ?_;refine Vr ?_;exact Z6q a2 b8 c9 a4 d5 ⟨H,d7,e8,e9,f0⟩ (aF rfl) (Zd Ze (Zd Ze (Zd Ze Zf)))
  ·rintro a3 n55 c56 b6 e4 ⟨H,j0,j1,j2,j3⟩;unfold Z64 at H;refine sR Y2 rfl ?_;refine Xj Za Yy Yk rfl ?_;refine Xx Za Ze Gu Zk ?_;refine dN ?_;refine T.ret ?_;obtain rfl:=ret1 H;exact Ye Za (Ji rfl Yy Zh rfl) (Zd Yo Zf) ⟨b6,n55,c56,e4,rfl,rfl,j0,j1,j2,j3⟩
theorem Zlc (w:World)(H:Z7q=some ()):Fnc Tryz.prog 87 #[.func (.func 88) #[] #[]] w [] (fun v N=>∃ (a2:Nat),v=.func (.func 132) #[] #[pV a2]∧N=[(eC a2 #[.func (.func 88) #[] #[]] 165)]):=by
 unfold Z7q at H;refine Fnc.enter (vs:=[.func (.func 88) #[] #[]]) Tryz.func87 rfl rfl (Inv.refl w) ?_;refine sR Y2 rfl ?_;refine TO.box Za ?_;intro b1;refine aN Za ?_;refine sR Y2 rfl ?_;refine TO.makeFunc Zb ?_;refine aN Za ?_;refine T.ret ?_;exact Ye Za (Res.tmp rfl) (Zd Ze Zf) ⟨b1,rfl,rfl⟩
theorem Zhu (w:World)(H:Z6p=some ()):Fnc Tryz.prog 87 #[.func (.func 89) #[] #[]] w [] (fun v N=>∃ (a2:Nat),v=.func (.func 132) #[] #[pV a2]∧N=[(eC a2 #[.func (.func 89) #[] #[]] 165)]):=by
 unfold Z6p at H;refine Fnc.enter (vs:=[.func (.func 89) #[] #[]]) Tryz.func87 rfl rfl (Inv.refl w) ?_;refine sR Y2 rfl ?_;refine TO.box Za ?_;intro b1;refine aN Za ?_;refine sR Y2 rfl ?_;refine TO.makeFunc Zb ?_;refine aN Za ?_;refine T.ret ?_;exact Ye Za (Res.tmp rfl) (Zd Ze Zf) ⟨b1,rfl,rfl⟩
theorem Zgo (w:World)(H:Z59=some ()):Fnc Tryz.prog 53 #[] w [] (fun v N=>∃ (a2 a3:Nat),v=.agg #[.func (.func 83) #[] #[],iV 10,.func (.func 84) #[] #[],iV 11,.func (.func 85) #[] #[],iV 12,.func (.func 132) #[] #[pV a2],iV 13,.func (.func 132) #[] #[pV a3],iV 14,.func (.func 90) #[] #[],iV 15]∧N=[(eC a2 #[.func (.func 88) #[] #[]] 165),(eC a3 #[.func (.func 89) #[] #[]] 165)]):=by
 unfold Z59 at H;refine Fnc.enter (vs:=[]) Tryz.func53 rfl rfl (Inv.refl w) ?_;refine sR Y1 rfl ?_;refine Wb Zk Zhe ?_;intro b1;refine dS ?_;obtain ⟨⟨⟩,e3,H⟩:=Zm H;obtain ⟨⟨⟩,e6,H⟩:=Zm H;refine rG Y10 rfl ?_;refine Vj (t:=115) [.nilFunc,iV 0] [0,1] Za (by simp only [Xo,setCells,Value.cells,List.toList_toArray,List.getD_cons_zero,List.getD_cons_succ,List.set_cons_zero,List.set_cons_succ];rfl) (by kernel_rfl) ?_;refine Vj (t:=115) [.nilFunc,iV 0] [0,1] Za (by simp only [Xo,setCells,Value.cells,List.toList_toArray,List.getD_cons_zero,List.getD_cons_succ,List.set_cons_zero,List.set_cons_succ];rfl) (by kernel_rfl) ?_;refine Vj (t:=115) [.nilFunc,iV 0] [0,1] Za (by simp only [Xo,setCells,Value.cells,List.toList_toArray,List.getD_cons_zero,List.getD_cons_succ,List.set_cons_zero,List.set_cons_succ];rfl) (by kernel_rfl) ?_;refine Zw Zf8 Za (fun wc hwc=>Zlc  wc  e3) ?_;rintro _ _ ⟨b4,rfl,rfl⟩;refine Vj (t:=115) [.nilFunc,iV 0] [0,1] Za (by simp only [Xo,setCells,Value.cells,List.toList_toArray,List.getD_cons_zero,List.getD_cons_succ,List.set_cons_zero,List.set_cons_succ];rfl) (by kernel_rfl) ?_;refine Zw Zf8 Za (fun wc hwc=>Zhu  wc  e6) ?_;rintro _ _ ⟨b7,rfl,rfl⟩;refine Vj (t:=115) [.nilFunc,iV 0] [0,1] Za (by simp only [Xo,setCells,Value.cells,List.toList_toArray,List.getD_cons_zero,List.getD_cons_succ,List.set_cons_zero,List.set_cons_succ];rfl) (by kernel_rfl) ?_;refine Vj (t:=115) [.nilFunc,iV 0] [0,1] Za (by simp only [Xo,setCells,Value.cells,List.toList_toArray,List.getD_cons_zero,List.getD_cons_succ,List.set_cons_zero,List.set_cons_succ];rfl) (by kernel_rfl) ?_;refine Vj (t:=116) [.nilFunc,iV 0,.nilFunc,iV 0,.nilFunc,iV 0,.nilFunc,iV 0,.nilFunc,iV 0,.nilFunc,iV 0] [0,2,4,6,8,10] Za (by simp only [Xo,setCells,Value.cells,List.toList_toArray,List.getD_cons_zero,List.getD_cons_succ,List.set_cons_zero,List.set_cons_succ];rfl) (by kernel_rfl) ?_;refine Xx Za Yo Zix Zk ?_;refine dN ?_;refine Zo (aT [0] rfl) ?_;refine T.ret ?_;exact Ye Za (Ji rfl Zg8 Zh rfl) (Zd Yo (Zd Zn Zf)) ⟨b4,b7,rfl,rfl⟩
theorem Zfk {n0:Net}{a2:Option Addr}{a3 a4:Nat}(w:World)(a5:RS w [] Zu 3 a2 a3 a4 n0.Arcs){r0:Bool}(H:Z7d n0=some r0):Fnc Tryz.prog 83 #[.agg #[iV n0.N,iV n0.S,iV n0.T,.slice a2 a3 a4]] w [] (fun v N=>v=.bool r0∧N=[]):=by
 unfold Z7d at H;refine Fnc.enter (vs:=[.agg #[iV n0.N,iV n0.S,iV n0.T,.slice a2 a3 a4]]) Tryz.func83 rfl rfl (Inv.refl w) ?_;refine sR Y2 rfl ?_;refine Xz Za ?_;intro b1;refine aN Za ?_;refine Zi ?_;rcases Zq H with ⟨g3,H⟩ | ⟨g3,H⟩
 ·refine rG Y9 rfl ?_;refine Zs Za Vq ?_;refine Zt Za Yf Zh rfl ?_;refine Zr Zl ?_;refine Zc Za ?_;refine Ya (t:=6) (b':=true) rfl (decide_eq_true g3) ?_;refine Zs Za Vq ?_;refine Zt Za Yf Zh rfl ?_;refine Zr Zl ?_;refine Yi Zb ?_;refine aN Za ?_;refine Zo (aT [2] rfl) ?_;refine T.ret ?_;obtain rfl:=ret1 H;exact Ye Za (Res.tmp rfl) Zf ⟨rfl,rfl⟩
 ·refine rG Y9 rfl ?_;refine Zs Za Vq ?_;refine Zt Za Yf Zh rfl ?_;refine Zr Zl ?_;refine Zc Za ?_;refine Ya (t:=6) (b':=false) rfl (decide_eq_false g3) ?_;refine Zg Za ?_;refine Zg Za ?_;refine Zg Za ?_;refine Yl Zb ?_;refine aN Za ?_;refine Zo (aT [2] rfl) ?_;refine T.ret ?_;obtain rfl:=ret1 H;exact Ye Za (Res.tmp rfl) Zf ⟨rfl,rfl⟩
theorem Zi3 {n0:Net}{a2:Option Addr}{a3 a4:Nat}(w:World)(a5:RS w [] Zu 3 a2 a3 a4 n0.Arcs){r0:Bool}(H:Z6k n0=some r0):Fnc Tryz.prog 84 #[.agg #[iV n0.N,iV n0.S,iV n0.T,.slice a2 a3 a4]] w [] (fun v N=>v=.bool r0∧N=[]):=by
 unfold Z6k at H;refine Fnc.enter (vs:=[.agg #[iV n0.N,iV n0.S,iV n0.T,.slice a2 a3 a4]]) Tryz.func84 rfl rfl (Inv.refl w) ?_;refine sR Y2 rfl ?_;refine Xz Za ?_;intro b1;refine aN Za ?_;refine sR Y5 rfl ?_;refine Zs Za Wz ?_;refine Zt Za Vk Zh rfl ?_;refine Yt (xs:=n0.Arcs) a5.len Zb Xv ?_;refine Zr Zl ?_;refine aN Za ?_;refine T.ret ?_;obtain rfl:=ret1 H;exact Ye Za (Res.tmp rfl) Zf ⟨rfl,rfl⟩
theorem Ro {n0:Net}{v1:Int}{a2:Option Addr}{a3 a4:Nat}(w:World)(a5:RS w [] Zu 3 a2 a3 a4 n0.Arcs){r0:Bool}(H:Rl n0 v1=some r0):Fnc Tryz.prog 86 #[.agg #[iV n0.N,iV n0.S,iV n0.T,.slice a2 a3 a4],iV v1] w [] (fun v N=>v=.bool r0∧N=[]):=by
 unfold Rl at H;refine Fnc.enter (vs:=[.agg #[iV n0.N,iV n0.S,iV n0.T,.slice a2 a3 a4],iV v1]) Tryz.func86 rfl rfl (Inv.refl w) ?_;refine sR Y2 rfl ?_;refine Xz Za ?_;intro b1;refine aN Za ?_;refine Zi ?_;rcases Zq H with ⟨g3,H⟩ | ⟨g3,H⟩
 ·refine rG Y9 rfl ?_;refine Zc Za ?_;refine Zr Zl ?_;refine Zc Za ?_;refine Ya (t:=7) (b':=true) rfl (decide_eq_true g3) ?_;refine Zc Za ?_;refine Zs Za Vq ?_;refine Zt Za Yf Zh rfl ?_;refine Zr Zl ?_;refine Yi Zb ?_;refine aN Za ?_;refine Zo (aT [4] rfl) ?_;refine T.ret ?_;obtain rfl:=ret1 H;exact Ye Za (Res.tmp rfl) Zf ⟨rfl,rfl⟩
 ·refine rG Y9 rfl ?_;refine Zc Za ?_;refine Zr Zl ?_;refine Zc Za ?_;refine Ya (t:=7) (b':=false) rfl (decide_eq_false g3) ?_;refine Zg Za ?_;refine Zg Za ?_;refine Zg Za ?_;refine Zg Za ?_;refine Yl Zb ?_;refine aN Za ?_;refine Zo (aT [4] rfl) ?_;refine T.ret ?_;obtain rfl:=ret1 H;exact Ye Za (Res.tmp rfl) Zf ⟨rfl,rfl⟩
theorem Ziu {n0:Net}{a3:Option Addr}{a4 a5:Nat}(w:World)(a2:RS w [] Zu 3 a3 a4 a5 n0.Arcs){r0:Bool}(H:Z5o n0=some r0):Fnc Tryz.prog 85 #[.agg #[iV n0.N,iV n0.S,iV n0.T,.slice a3 a4 a5]] w [] (fun v N=>v=.bool r0∧N=[]):=by
 unfold Z5o at H;refine Fnc.enter (vs:=[.agg #[iV n0.N,iV n0.S,iV n0.T,.slice a3 a4 a5]]) Tryz.func85 rfl rfl (Inv.refl w) ?_;refine sR Y2 rfl ?_;refine Xz Za ?_;intro b1;refine aN Za ?_;refine Zi ?_;obtain ⟨r3,e4,H⟩:=Zm H;rcases Zq H with ⟨g5,H⟩ | ⟨g5,H⟩
 ·
  obtain ⟨r6,e7,H⟩:=Zm H;rcases Zq H with ⟨g8,H⟩ | ⟨g8,H⟩
  ·refine rG Y18 rfl ?_;refine Xj Za Yy Zh rfl ?_;refine Zs Za Ku ?_;refine Zt Za Yf Zh rfl ?_;refine Zw Ry Za (fun wc hwc=>Ro (n0:=n0) (v1:=n0.S) wc (a2.mono hwc) e4) ?_;rintro _ _ ⟨rfl,rfl⟩;refine Zc Za ?_;refine Ya (t:=7) (b':=true) rfl g5 ?_;refine Xj Za Yy Zh rfl ?_;refine Zs Za Gb ?_;refine Zt Za Yf Zh rfl ?_;refine Zw Ry Za (fun wc hwc=>Ro (n0:=n0) (v1:=n0.T) wc (a2.mono hwc) e7) ?_;rintro _ _ ⟨rfl,rfl⟩;refine Yi Zb ?_;refine Zc Za ?_;refine Ya (t:=13) (b':=true) rfl g8 ?_;refine Zs Za Ku ?_;refine Zt Za Yf Zh rfl ?_;refine Zs Za Gb ?_;refine Zt Za Yf Zh rfl ?_;refine Zr Zl ?_;refine Yi Zb ?_;refine aN Za ?_;refine Zo (aT [2] rfl) ?_;refine T.ret ?_;obtain rfl:=ret1 H;exact Ye Za (Res.tmp rfl) Zf ⟨rfl,rfl⟩
  ·refine rG Y18 rfl ?_;refine Xj Za Yy Zh rfl ?_;refine Zs Za Ku ?_;refine Zt Za Yf Zh rfl ?_;refine Zw Ry Za (fun wc hwc=>Ro (n0:=n0) (v1:=n0.S) wc (a2.mono hwc) e4) ?_;rintro _ _ ⟨rfl,rfl⟩;refine Zc Za ?_;refine Ya (t:=7) (b':=true) rfl g5 ?_;refine Xj Za Yy Zh rfl ?_;refine Zs Za Gb ?_;refine Zt Za Yf Zh rfl ?_;refine Zw Ry Za (fun wc hwc=>Ro (n0:=n0) (v1:=n0.T) wc (a2.mono hwc) e7) ?_;rintro _ _ ⟨rfl,rfl⟩;refine Yi Zb ?_;refine Zc Za ?_;refine Ya (t:=13) (b':=false) rfl (Bool.eq_false_iff.2 g8) ?_;refine Zg Za ?_;refine Zg Za ?_;refine Zg Za ?_;refine Zg Za ?_;refine Zg Za ?_;refine Yl Zb ?_;refine aN Za ?_;refine Zo (aT [2] rfl) ?_;refine T.ret ?_;obtain rfl:=ret1 H;exact Ye Za (Res.tmp rfl) Zf ⟨rfl,rfl⟩
 ·refine rG Y18 rfl ?_;refine Xj Za Yy Zh rfl ?_;refine Zs Za Ku ?_;refine Zt Za Yf Zh rfl ?_;refine Zw Ry Za (fun wc hwc=>Ro (n0:=n0) (v1:=n0.S) wc (a2.mono hwc) e4) ?_;rintro _ _ ⟨rfl,rfl⟩;refine Zc Za ?_;refine Ya (t:=7) (b':=false) rfl (Bool.eq_false_iff.2 g5) ?_;refine Zg Za ?_;refine Zg Za ?_;refine Zg Za ?_;refine Zg Za ?_;refine Yl Zb ?_;refine Zc Za ?_;refine Zg Za ?_;refine Zg Za ?_;refine Zg Za ?_;refine Zg Za ?_;refine Zg Za ?_;refine Yl Zb ?_;refine aN Za ?_;refine Zo (aT [2] rfl) ?_;refine T.ret ?_;obtain rfl:=ret1 H;exact Ye Za (Res.tmp rfl) Zf ⟨rfl,rfl⟩
theorem Zgg {n0:Net}{a1:Arc}{a2:Option Addr}{a3 a5:Nat}(w:World)(a4:RS w [] Zu 3 a2 a3 a5 n0.Arcs){r0:Bool}(H:Z3b n0 a1=some r0):Fnc Tryz.prog 88 #[.agg #[iV n0.N,iV n0.S,iV n0.T,.slice a2 a3 a5],.agg #[iV a1.fr,iV a1.to,iV a1.cap]] w [] (fun v N=>v=.bool r0∧N=[]):=by
 unfold Z3b at H;refine Fnc.enter (vs:=[.agg #[iV n0.N,iV n0.S,iV n0.T,.slice a2 a3 a5],.agg #[iV a1.fr,iV a1.to,iV a1.cap]]) Tryz.func88 rfl rfl (Inv.refl w) ?_;refine sR Y3 rfl ?_;refine Xz Za ?_;intro b1;refine Xz Za ?_;intro b3;refine aN Za ?_;refine Zi ?_;obtain ⟨r5,e6,H⟩:=Zm H;rcases Zq H with ⟨g7,H⟩ | ⟨g7,H⟩
 ·obtain ⟨r8,e9,H⟩:=Zm H;refine rG Y11 rfl ?_;refine Xj Za Yy Yk rfl ?_;refine Zs Za Gh ?_;refine Zt Za Yf Zh rfl ?_;refine Zw Ry Za (fun wc hwc=>Ro (n0:=n0) (v1:=a1.fr) wc (a4.mono hwc) e6) ?_;rintro _ _ ⟨rfl,rfl⟩;refine Zc Za ?_;refine Ya (t:=9) (b':=true) rfl g7 ?_;refine Xj Za Yy Yk rfl ?_;refine Zs Za Nj ?_;refine Zt Za Yf Zh rfl ?_;refine Zw Ry Za (fun wc hwc=>Ro (n0:=n0) (v1:=a1.to) wc (a4.mono hwc) e9) ?_;rintro _ _ ⟨rfl,rfl⟩;refine Yi Zb ?_;refine aN Za ?_;refine Zo (aT [4] rfl) ?_;refine T.ret ?_;obtain rfl:=ret1 H;exact Ye Za (Res.tmp rfl) Zf ⟨rfl,rfl⟩
 ·refine rG Y11 rfl ?_;refine Xj Za Yy Yk rfl ?_;refine Zs Za Gh ?_;refine Zt Za Yf Zh rfl ?_;refine Zw Ry Za (fun wc hwc=>Ro (n0:=n0) (v1:=a1.fr) wc (a4.mono hwc) e6) ?_;rintro _ _ ⟨rfl,rfl⟩;refine Zc Za ?_;refine Ya (t:=9) (b':=false) rfl (Bool.eq_false_iff.2 g7) ?_;refine Zg Za ?_;refine Zg Za ?_;refine Zg Za ?_;refine Zg Za ?_;refine Yl Zb ?_;refine aN Za ?_;refine Zo (aT [4] rfl) ?_;refine T.ret ?_;obtain rfl:=ret1 H;exact Ye Za (Res.tmp rfl) Zf ⟨rfl,rfl⟩
theorem Zio {a0:Arc}{c2:Net}{a8 a7 a3 a4:Nat}{a2:Option Addr}(w:World)(a5:HB w [] a8 [.func (.func 88) #[] #[]])(a6:RS w [] Zu 3 a2 a3 a4 c2.Arcs)(a9:HB w [] a7 [iV c2.N,iV c2.S,iV c2.T,.slice a2 a3 a4]){r0:Bool}(H:Z6f a0 c2=some r0):Fnc Tryz.prog 134 #[.agg #[iV a0.fr,iV a0.to,iV a0.cap],pV a8,pV a7] w [] (fun v N=>v=.bool r0∧N=[]):=by
 unfold Z6f at H;refine Fnc.enter (vs:=[.agg #[iV a0.fr,iV a0.to,iV a0.cap],pV a8,pV a7]) Tryz.func134 rfl rfl (Inv.refl w) ?_;refine sR Y2 rfl ?_;refine Xz Za ?_;intro b1;refine aN Za ?_;refine Zi ?_;obtain ⟨r3,e4,H⟩:=Zm H;refine rG Y6 rfl ?_;refine Vz a5 Zb Zdh ?_;refine Zd4 a9 Zb Yy ?_;refine Xj Za Jf Zh rfl ?_;refine Jo Zjy Zb (fun wc hwc=>Zgg (n0:=c2) (a1:=a0) wc (a6.mono hwc) e4) ?_;rintro _ _ ⟨rfl,rfl⟩;refine TO.not Za ?_;refine aN Za ?_;refine Zo (aT [4] rfl) ?_;refine T.ret ?_;obtain rfl:=ret1 H;exact Ye Za (Res.tmp rfl) Zf ⟨rfl,rfl⟩
theorem Zi8 {s0:List Arc}{f1_1:Net}{b6 a6:Option Addr}{b7 b8 a3 a2 a5 a4:Nat}(w:World)(b9:RS w [] Zu 3 b6 b7 b8 s0)(a7:HB w [] a3 [.func (.func 88) #[] #[]])(a9:RS w [] Zu 3 a6 a5 a4 f1_1.Arcs)(a8:HB w [] a2 [iV f1_1.N,iV f1_1.S,iV f1_1.T,.slice a6 a5 a4]){r0:Int}(H:Z7p s0 f1_1=some r0):Fnc Tryz.prog 182 #[.slice b6 b7 b8,.func (.func 134) #[] #[pV a3,pV a2]] w [] (fun v N=>v=iV r0∧N=[]):=by
 unfold Z7p at H;refine Fnc.enter (vs:=[.slice b6 b7 b8,.func (.func 134) #[] #[pV a3,pV a2]]) Tryz.func182 rfl rfl (Inv.refl w) ?_;refine sR Y1 rfl ?_;refine aN Za ?_;refine Zi ?_;refine sR Y3 rfl ?_;refine Zc Za ?_;refine Yt (xs:=s0) b9.len Zb Xv ?_;refine Zc Za ?_;refine dN ?_;refine Wf (fun (u8:Unit)=>Z9o=some r0) (fun (u8:Unit)=>[]) (fun (u8:Unit)=>[]) ?_ ?_
 ·
  refine T.block ?_;obtain ⟨d1,d2,d0⟩:=Zm H;refine Z2r (fun (c4:Nat) (x1:Int)=>Xd (fun s=>Z42 s0 f1_1 s) c4 x1=some d1) (fun (c4:Nat) (x1:Int)=>[(0,.slice b6 b7 b8),(1,.func (.func 134) #[] #[pV a3,pV a2]),(7,iV (s0.length:Int)),(8,iV x1)]) (fun (c4:Nat) (x1:Int)=>[]) (fun (c4:Nat) (x1:Int)=>c4) Xf 0 d2 (aF rfl) Zf ?_;rintro c4 x1 H;obtain ⟨d3,d4,rfl,H,c9⟩:=Ub H;have H:Z42 s0 f1_1 x1=some d4:=H;unfold Z42 at H;refine sR Y1 rfl ?_;refine Zr Zl ?_;refine dS ?_;rcases Zq H with ⟨g2,H⟩ | ⟨g2,H⟩
  ·
   refine Yx rfl g2 ?_;refine T.skip ?_;refine Yb ?_;refine Zi ?_;refine T.block ?_;refine sR Y2 rfl ?_;refine Zc Za ?_;refine aN Za ?_;refine Zi ?_;obtain ⟨g3,H⟩:=Zx H;obtain ⟨r4,e5,H⟩:=Zm H;refine rG Y6 rfl ?_;refine Zc Za ?_;refine Zc Za ?_;refine Zc Za ?_;refine Xy b9 g3 Zb Xv Wt ?_;refine Gi (cs:=[iV ((s0.getD x1.toNat default).fr),iV ((s0.getD x1.toNat default).to),iV ((s0.getD x1.toNat default).cap)]) default b9 g3 Zb Jf ?_;refine Jo Zea Zb (fun wc hwc=>Zio (a0:=(s0.getD x1.toNat default)) (c2:=f1_1) wc (a7.mono hwc) (a9.mono hwc) (a8.mono hwc) e5) ?_;rintro _ _ ⟨rfl,rfl⟩;refine dN ?_;rcases Zq H with ⟨g6,H⟩ | ⟨g6,H⟩
   ·refine Yz rfl g6 ?_;refine sR Y2 rfl ?_;refine Zc Za ?_;refine aN Za ?_;refine Zo (aT [4] rfl) ?_;refine T.ret ?_;refine Xc ?_;refine Yc ?_;have H:=Wi H c9▸d0;refine Yc ?_;refine Xc ?_;refine Yc ?_;obtain rfl:=ret1 H;exact Ye Za (Res.tmp rfl) Zf ⟨rfl,rfl⟩
   ·refine Xl rfl (Bool.eq_false_iff.2 g6) ?_;refine T.skip ?_;refine Yv ?_;refine Yb ?_;refine Zo (aT [0,1,7,8] rfl) ?_;obtain ⟨g7,H⟩:=Zx H;refine rG Y2 rfl ?_;refine Xt g7 Zb ?_;refine Zc Za ?_;refine Zj ?_;have H:=Wu H c9;exact Z07 d3 (x1+1) H (Nat.lt_succ_self _) (aF rfl) Zf
  ·refine Yu rfl g2 ?_;refine T.exit ?_;refine Xk ?_;have H:=Wi H c9▸d0;refine Xk ?_;refine Vr ?_;exact Xa () H Z00 Zf
 ·rintro u8 H;unfold Z9o at H;refine sR Y1 rfl ?_;refine aN Za ?_;refine T.ret ?_;obtain rfl:=ret1 H;exact Ye Za (Res.tmp rfl) Zf ⟨rfl,rfl⟩
theorem Zgr {s0:List Arc}{f1_1:Net}{b6 a4:Option Addr}{b7 b8 a6 a5 a3 a2:Nat}(w:World)(b9:RS w [] Zu 3 b6 b7 b8 s0)(a7:HB w [] a6 [.func (.func 88) #[] #[]])(a9:RS w [] Zu 3 a4 a3 a2 f1_1.Arcs)(a8:HB w [] a5 [iV f1_1.N,iV f1_1.S,iV f1_1.T,.slice a4 a3 a2]){r0:Bool}(H:Z58 s0 f1_1=some r0):Fnc Tryz.prog 133 #[.slice b6 b7 b8,.func (.func 134) #[] #[pV a6,pV a5]] w [] (fun v N=>v=.bool r0∧N=[]):=by
 unfold Z58 at H;refine Fnc.enter (vs:=[.slice b6 b7 b8,.func (.func 134) #[] #[pV a6,pV a5]]) Tryz.func133 rfl rfl (Inv.refl w) ?_;refine sR Y1 rfl ?_;refine aN Za ?_;refine Zi ?_;obtain ⟨r1,e2,H⟩:=Zm H;refine rG Y5 rfl ?_;refine Zc Za ?_;refine Zc Za ?_;refine Zw Zdd Za (fun wc hwc=>Zi8 (s0:=s0) (f1_1:=f1_1) wc (b9.mono hwc) (a7.mono hwc) (a9.mono hwc) (a8.mono hwc) e2) ?_;rintro _ _ ⟨rfl,rfl⟩;refine Zr Zl ?_;refine aN Za ?_;refine T.ret ?_;obtain rfl:=ret1 H;exact Ye Za (Res.tmp rfl) Zf ⟨rfl,rfl⟩
theorem Zl1 {n0:Net}{a2:Option Addr}{a3 a4 a7:Nat}(w:World)(a5:RS w [] Zu 3 a2 a3 a4 n0.Arcs)(a6:HB w [] a7 [.func (.func 88) #[] #[]]){r0:Bool}(H:Z2e n0=some r0):Fnc Tryz.prog 132 #[.agg #[iV n0.N,iV n0.S,iV n0.T,.slice a2 a3 a4],pV a7] w [] (fun v N=>v=.bool r0∧N=[]):=by
 unfold Z2e at H;refine Fnc.enter (vs:=[.agg #[iV n0.N,iV n0.S,iV n0.T,.slice a2 a3 a4],pV a7]) Tryz.func132 rfl rfl (Inv.refl w) ?_;refine sR Y2 rfl ?_;refine Xz Za ?_;intro b1;refine aN Za ?_;refine Zi ?_;obtain ⟨r3,e4,H⟩:=Zm H;refine rG Y6 rfl ?_;refine Zs Za Wz ?_;refine Zt Za Vk Zh rfl ?_;refine TO.makeFunc Zb ?_;refine Zw Zbk Za (fun wc hwc=>Zgr (s0:=n0.Arcs) (f1_1:=n0) wc (a5.mono hwc) (a6.mono hwc) (a5.mono hwc) (hwc.hb (cs:=[iV n0.N,iV n0.S,iV n0.T,.slice a2 a3 a4]) Zh) e4) ?_;rintro _ _ ⟨rfl,rfl⟩;refine TO.not Za ?_;refine aN Za ?_;refine Zo (aT [3] rfl) ?_;refine T.ret ?_;obtain rfl:=ret1 H;exact Ye Za (Res.tmp rfl) Zf ⟨rfl,rfl⟩
theorem Zlt {n0:Net}{a1:Arc}{a2:Option Addr}{a3 a4:Nat}(w:World)(a5:RS w [] Zu 3 a2 a3 a4 n0.Arcs){r0:Bool}(H:Z5w n0 a1=some r0):Fnc Tryz.prog 89 #[.agg #[iV n0.N,iV n0.S,iV n0.T,.slice a2 a3 a4],.agg #[iV a1.fr,iV a1.to,iV a1.cap]] w [] (fun v N=>v=.bool r0∧N=[]):=by
 unfold Z5w at H;refine Fnc.enter (vs:=[.agg #[iV n0.N,iV n0.S,iV n0.T,.slice a2 a3 a4],.agg #[iV a1.fr,iV a1.to,iV a1.cap]]) Tryz.func89 rfl rfl (Inv.refl w) ?_;refine sR Y3 rfl ?_;refine Xz Za ?_;intro b1;refine Xz Za ?_;intro b3;refine aN Za ?_;refine sR Y4 rfl ?_;refine Zs Za Np ?_;refine Zt Za Wn Zh rfl ?_;refine Zr Zl ?_;refine aN Za ?_;refine T.ret ?_;obtain rfl:=ret1 H;exact Ye Za (Res.tmp rfl) Zf ⟨rfl,rfl⟩
theorem Zhi {a0:Arc}{c2:Net}{a8 a7 a3 a4:Nat}{a2:Option Addr}(w:World)(a5:HB w [] a8 [.func (.func 89) #[] #[]])(a6:RS w [] Zu 3 a2 a3 a4 c2.Arcs)(a9:HB w [] a7 [iV c2.N,iV c2.S,iV c2.T,.slice a2 a3 a4]){r0:Bool}(H:Z6m a0 c2=some r0):Fnc Tryz.prog 134 #[.agg #[iV a0.fr,iV a0.to,iV a0.cap],pV a8,pV a7] w [] (fun v N=>v=.bool r0∧N=[]):=by
 unfold Z6m at H;refine Fnc.enter (vs:=[.agg #[iV a0.fr,iV a0.to,iV a0.cap],pV a8,pV a7]) Tryz.func134 rfl rfl (Inv.refl w) ?_;refine sR Y2 rfl ?_;refine Xz Za ?_;intro b1;refine aN Za ?_;refine Zi ?_;obtain ⟨r3,e4,H⟩:=Zm H;refine rG Y6 rfl ?_;refine Vz a5 Zb Zdh ?_;refine Zd4 a9 Zb Yy ?_;refine Xj Za Jf Zh rfl ?_;refine Jo Zh3 Zb (fun wc hwc=>Zlt (n0:=c2) (a1:=a0) wc (a6.mono hwc) e4) ?_;rintro _ _ ⟨rfl,rfl⟩;refine TO.not Za ?_;refine aN Za ?_;refine Zo (aT [4] rfl) ?_;refine T.ret ?_;obtain rfl:=ret1 H;exact Ye Za (Res.tmp rfl) Zf ⟨rfl,rfl⟩
theorem Zho {s0:List Arc}{f1_1:Net}{b6 a6:Option Addr}{b7 b8 a3 a2 a5 a4:Nat}(w:World)(b9:RS w [] Zu 3 b6 b7 b8 s0)(a7:HB w [] a3 [.func (.func 89) #[] #[]])(a9:RS w [] Zu 3 a6 a5 a4 f1_1.Arcs)(a8:HB w [] a2 [iV f1_1.N,iV f1_1.S,iV f1_1.T,.slice a6 a5 a4]){r0:Int}(H:Z7l s0 f1_1=some r0):Fnc Tryz.prog 182 #[.slice b6 b7 b8,.func (.func 134) #[] #[pV a3,pV a2]] w [] (fun v N=>v=iV r0∧N=[]):=by
 unfold Z7l at H;refine Fnc.enter (vs:=[.slice b6 b7 b8,.func (.func 134) #[] #[pV a3,pV a2]]) Tryz.func182 rfl rfl (Inv.refl w) ?_;refine sR Y1 rfl ?_;refine aN Za ?_;refine Zi ?_;refine sR Y3 rfl ?_;refine Zc Za ?_;refine Yt (xs:=s0) b9.len Zb Xv ?_;refine Zc Za ?_;refine dN ?_;refine Wf (fun (u8:Unit)=>Z84=some r0) (fun (u8:Unit)=>[]) (fun (u8:Unit)=>[]) ?_ ?_
 ·
  refine T.block ?_;obtain ⟨d1,d2,d0⟩:=Zm H;refine Z2r (fun (c4:Nat) (x1:Int)=>Xd (fun s=>Z3m s0 f1_1 s) c4 x1=some d1) (fun (c4:Nat) (x1:Int)=>[(0,.slice b6 b7 b8),(1,.func (.func 134) #[] #[pV a3,pV a2]),(7,iV (s0.length:Int)),(8,iV x1)]) (fun (c4:Nat) (x1:Int)=>[]) (fun (c4:Nat) (x1:Int)=>c4) Xf 0 d2 (aF rfl) Zf ?_;rintro c4 x1 H;obtain ⟨d3,d4,rfl,H,c9⟩:=Ub H;have H:Z3m s0 f1_1 x1=some d4:=H;unfold Z3m at H;refine sR Y1 rfl ?_;refine Zr Zl ?_;refine dS ?_;rcases Zq H with ⟨g2,H⟩ | ⟨g2,H⟩
  ·
   refine Yx rfl g2 ?_;refine T.skip ?_;refine Yb ?_;refine Zi ?_;refine T.block ?_;refine sR Y2 rfl ?_;refine Zc Za ?_;refine aN Za ?_;refine Zi ?_;obtain ⟨g3,H⟩:=Zx H;obtain ⟨r4,e5,H⟩:=Zm H;refine rG Y6 rfl ?_;refine Zc Za ?_;refine Zc Za ?_;refine Zc Za ?_;refine Xy b9 g3 Zb Xv Wt ?_;refine Gi (cs:=[iV ((s0.getD x1.toNat default).fr),iV ((s0.getD x1.toNat default).to),iV ((s0.getD x1.toNat default).cap)]) default b9 g3 Zb Jf ?_;refine Jo Zea Zb (fun wc hwc=>Zhi (a0:=(s0.getD x1.toNat default)) (c2:=f1_1) wc (a7.mono hwc) (a9.mono hwc) (a8.mono hwc) e5) ?_;rintro _ _ ⟨rfl,rfl⟩;refine dN ?_;rcases Zq H with ⟨g6,H⟩ | ⟨g6,H⟩
   ·refine Yz rfl g6 ?_;refine sR Y2 rfl ?_;refine Zc Za ?_;refine aN Za ?_;refine Zo (aT [4] rfl) ?_;refine T.ret ?_;refine Xc ?_;refine Yc ?_;have H:=Wi H c9▸d0;refine Yc ?_;refine Xc ?_;refine Yc ?_;obtain rfl:=ret1 H;exact Ye Za (Res.tmp rfl) Zf ⟨rfl,rfl⟩
   ·refine Xl rfl (Bool.eq_false_iff.2 g6) ?_;refine T.skip ?_;refine Yv ?_;refine Yb ?_;refine Zo (aT [0,1,7,8] rfl) ?_;obtain ⟨g7,H⟩:=Zx H;refine rG Y2 rfl ?_;refine Xt g7 Zb ?_;refine Zc Za ?_;refine Zj ?_;have H:=Wu H c9;exact Z07 d3 (x1+1) H (Nat.lt_succ_self _) (aF rfl) Zf
  ·refine Yu rfl g2 ?_;refine T.exit ?_;refine Xk ?_;have H:=Wi H c9▸d0;refine Xk ?_;refine Vr ?_;exact Xa () H Z00 Zf
 ·rintro u8 H;unfold Z84 at H;refine sR Y1 rfl ?_;refine aN Za ?_;refine T.ret ?_;obtain rfl:=ret1 H;exact Ye Za (Res.tmp rfl) Zf ⟨rfl,rfl⟩
theorem Zil {s0:List Arc}{f1_1:Net}{b6 a4:Option Addr}{b7 b8 a6 a5 a3 a2:Nat}(w:World)(b9:RS w [] Zu 3 b6 b7 b8 s0)(a7:HB w [] a6 [.func (.func 89) #[] #[]])(a9:RS w [] Zu 3 a4 a3 a2 f1_1.Arcs)(a8:HB w [] a5 [iV f1_1.N,iV f1_1.S,iV f1_1.T,.slice a4 a3 a2]){r0:Bool}(H:Z6r s0 f1_1=some r0):Fnc Tryz.prog 133 #[.slice b6 b7 b8,.func (.func 134) #[] #[pV a6,pV a5]] w [] (fun v N=>v=.bool r0∧N=[]):=by
 unfold Z6r at H;refine Fnc.enter (vs:=[.slice b6 b7 b8,.func (.func 134) #[] #[pV a6,pV a5]]) Tryz.func133 rfl rfl (Inv.refl w) ?_;refine sR Y1 rfl ?_;refine aN Za ?_;refine Zi ?_;obtain ⟨r1,e2,H⟩:=Zm H;refine rG Y5 rfl ?_;refine Zc Za ?_;refine Zc Za ?_;refine Zw Zdd Za (fun wc hwc=>Zho (s0:=s0) (f1_1:=f1_1) wc (b9.mono hwc) (a7.mono hwc) (a9.mono hwc) (a8.mono hwc) e2) ?_;rintro _ _ ⟨rfl,rfl⟩;refine Zr Zl ?_;refine aN Za ?_;refine T.ret ?_;obtain rfl:=ret1 H;exact Ye Za (Res.tmp rfl) Zf ⟨rfl,rfl⟩
theorem Zjn {n0:Net}{a2:Option Addr}{a3 a4 a7:Nat}(w:World)(a5:RS w [] Zu 3 a2 a3 a4 n0.Arcs)(a6:HB w [] a7 [.func (.func 89) #[] #[]]){r0:Bool}(H:Z44 n0=some r0):Fnc Tryz.prog 132 #[.agg #[iV n0.N,iV n0.S,iV n0.T,.slice a2 a3 a4],pV a7] w [] (fun v N=>v=.bool r0∧N=[]):=by
 unfold Z44 at H;refine Fnc.enter (vs:=[.agg #[iV n0.N,iV n0.S,iV n0.T,.slice a2 a3 a4],pV a7]) Tryz.func132 rfl rfl (Inv.refl w) ?_;refine sR Y2 rfl ?_;refine Xz Za ?_;intro b1;refine aN Za ?_;refine Zi ?_;obtain ⟨r3,e4,H⟩:=Zm H;refine rG Y6 rfl ?_;refine Zs Za Wz ?_;refine Zt Za Vk Zh rfl ?_;refine TO.makeFunc Zb ?_;refine Zw Zbk Za (fun wc hwc=>Zil (s0:=n0.Arcs) (f1_1:=n0) wc (a5.mono hwc) (a6.mono hwc) (a5.mono hwc) (hwc.hb (cs:=[iV n0.N,iV n0.S,iV n0.T,.slice a2 a3 a4]) Zh) e4) ?_;rintro _ _ ⟨rfl,rfl⟩;refine TO.not Za ?_;refine aN Za ?_;refine Zo (aT [3] rfl) ?_;refine T.ret ?_;obtain rfl:=ret1 H;exact Ye Za (Res.tmp rfl) Zf ⟨rfl,rfl⟩
theorem Zjd {n0:Net}{a4:Option Addr}{a5 a6:Nat}(w:World)(a7:RS w [] Zu 3 a4 a5 a6 n0.Arcs){r0:Int}{r1:Bool}(H:Z2a n0=some (r0,r1)):Fnc Tryz.prog 91 #[.agg #[iV n0.N,iV n0.S,iV n0.T,.slice a4 a5 a6]] w [] (fun v N=>v=.tuple #[iV r0,.bool r1]∧N=[]):=by
 unfold Z2a at H;refine Fnc.enter (vs:=[.agg #[iV n0.N,iV n0.S,iV n0.T,.slice a4 a5 a6]]) Tryz.func91 rfl rfl (Inv.refl w) ?_;refine sR Y3 rfl ?_;refine Xz Za ?_;intro b1;refine Zy Za ?_;refine aN Za ?_;refine sR Y1 rfl ?_;refine aN Za ?_;refine Zi ?_;refine sR Y4 rfl ?_;refine Zs Za Wz ?_;refine Zt Za Vk Zh rfl ?_;refine Yt (xs:=n0.Arcs) a7.len Zb Xv ?_;refine Zc Za ?_;refine dN ?_;refine Wf (fun (a3:Int)=>Z4d a3=some (r0,r1)) (fun (a3:Int)=>[(4,iV a3)]) (fun (a3:Int)=>[]) ?_ ?_
 ·
  refine T.block ?_;obtain ⟨c9,d0,b9⟩:=Zm H;refine Rt (fun (a8:Nat) (a2 x4:Int)=>Xd (fun s=>Z36 n0 s.1 s.2) a8 (a2,x4)=some c9) (fun (a8:Nat) (a2 x4:Int)=>[(4,iV a2),(8,.slice a4 a5 a6),(9,iV (n0.Arcs.length:Int)),(10,iV x4)]) (fun (a8:Nat) (a2 x4:Int)=>[]) (fun (a8:Nat) (a2 x4:Int)=>a8) Xf 4611686018427387904 0 d0 (aF rfl) Zf ?_;rintro a8 a2 x4 H;obtain ⟨d1,c4,rfl,H,b6⟩:=Ub H;have H:Z36 n0 a2 x4=some c4:=H;unfold Z36 at H;refine sR Y1 rfl ?_;refine Zr Zl ?_;refine dS ?_;rcases Zq H with ⟨g5,H⟩ | ⟨g5,H⟩
  ·
   refine Yx rfl g5 ?_;refine T.skip ?_;refine Yb ?_;refine Zi ?_;refine T.block ?_;obtain ⟨g6,H⟩:=Zx H;refine sR Y4 rfl ?_;refine Xy a7 g6 Zb Xv Wt ?_;refine Gi (cs:=[iV ((n0.Arcs.getD x4.toNat default).fr),iV ((n0.Arcs.getD x4.toNat default).to),iV ((n0.Arcs.getD x4.toNat default).cap)]) default a7 g6 Zb Jf ?_;refine Wb Zk Jr ?_;intro b7;refine Xx Za Ze Wt Zk ?_;refine dS ?_;refine Zi ?_;refine Wf (fun (a9:Bool)=>Z26 n0 a2 x4 a9=some c4) (fun (a9:Bool)=>[(4,iV a2),(6,pV b7),(8,.slice a4 a5 a6),(9,iV (n0.Arcs.length:Int)),(10,iV x4),(22,.bool a9)]) (fun (a9:Bool)=>[(eC b7 #[iV ((n0.Arcs.getD x4.toNat default).fr),iV ((n0.Arcs.getD x4.toNat default).to),iV ((n0.Arcs.getD x4.toNat default).cap)] 64)]) ?_ ?_
   ·
    rcases Zq H with ⟨g9,H⟩ | ⟨g9,H⟩
    ·refine rG Y9 rfl ?_;refine Zs Za Np ?_;refine Zt Za Wn Zh rfl ?_;refine Zr Zl ?_;refine Zc Za ?_;refine Ya (t:=17) (b':=true) rfl (decide_eq_true g9) ?_;refine Zg Za ?_;refine Zg Za ?_;refine Zg Za ?_;refine Zg Za ?_;refine Yi Zb ?_;refine Zj ?_;exact Xa true H (aF rfl) (Zd Ze Zf)
    ·refine rG Y9 rfl ?_;refine Zs Za Np ?_;refine Zt Za Wn Zh rfl ?_;refine Zr Zl ?_;refine Zc Za ?_;refine Ya (t:=17) (b':=false) rfl (decide_eq_false g9) ?_;refine Zs Za Np ?_;refine Zt Za Wn Zh rfl ?_;refine Zc Za ?_;refine Zr Zl ?_;refine Yl Zb ?_;refine Zj ?_;exact Xa (decide (a2<((n0.Arcs.getD x4.toNat default).cap))) H (aF rfl) (Zd Ze Zf)
   ·
    rintro a9 H;unfold Z26 at H;rcases Zq H with ⟨b8,H⟩ | ⟨b8,H⟩
    ·refine Yz rfl b8 ?_;refine sR Y2 rfl ?_;refine Zy Za ?_;refine aN Za ?_;refine T.ret ?_;refine Yc ?_;refine Xc ?_;refine Yc ?_;have H:=Wi H b6▸b9;refine Yc ?_;refine Xc ?_;refine Yc ?_;obtain ⟨rfl,rfl⟩:=ret2 H;exact Xe Za (Res.tmp rfl) (Res.tmp rfl) Zf ⟨rfl,rfl⟩
    ·refine Xl rfl (Bool.eq_false_iff.2 b8) ?_;refine T.skip ?_;refine Yb ?_;obtain ⟨d2,H⟩:=Zx H;refine rG Y5 rfl ?_;refine Zc Za ?_;refine Zs Za Np ?_;refine Zt Za Wn Zh rfl ?_;refine Lk d2 Zb ?_;refine Zy Za ?_;refine Zj ?_;refine Yv ?_;refine Yb ?_;obtain ⟨d3,H⟩:=Zx H;refine rG Y2 rfl ?_;refine Xt d3 Zb ?_;refine Zc Za ?_;refine Zj ?_;have H:=Wu H b6;exact La d1 (a2 - ((n0.Arcs.getD x4.toNat default).cap)) (x4+1) H (Nat.lt_succ_self _) (aF rfl) Zf
  ·refine Yu rfl g5 ?_;refine T.exit ?_;refine Xk ?_;have H:=Wi H b6▸b9;refine Xk ?_;refine Vr ?_;exact Xa a2 H (aF rfl) Zf
 ·rintro a3 H;unfold Z4d at H;obtain ⟨d4,H⟩:=Zx H;refine sR Y4 rfl ?_;refine Zc Za ?_;refine Lk d4 Zb ?_;refine Zy Za ?_;refine aN Za ?_;refine T.ret ?_;obtain ⟨rfl,rfl⟩:=ret2 H;exact Xe Za (Res.tmp rfl) (Res.tmp rfl) Zf ⟨rfl,rfl⟩
theorem Zj4 {n0:Net}{a2:Option Addr}{a3 a4:Nat}(w:World)(a5:RS w [] Zu 3 a2 a3 a4 n0.Arcs){r0:Bool}(H:Z79 n0=some r0):Fnc Tryz.prog 90 #[.agg #[iV n0.N,iV n0.S,iV n0.T,.slice a2 a3 a4]] w [] (fun v N=>v=.bool r0∧N=[]):=by
 unfold Z79 at H;refine Fnc.enter (vs:=[.agg #[iV n0.N,iV n0.S,iV n0.T,.slice a2 a3 a4]]) Tryz.func90 rfl rfl (Inv.refl w) ?_;refine sR Y2 rfl ?_;refine Xz Za ?_;intro b1;refine aN Za ?_;refine Zi ?_;obtain ⟨⟨r3,r4⟩,e5,H⟩:=Zm H;refine rG Y7 rfl ?_;refine Xj Za Yy Zh rfl ?_;refine Zw Zgs Za (fun wc hwc=>Zjd (n0:=n0) wc (a5.mono hwc) e5) ?_;rintro _ _ ⟨rfl,rfl⟩;refine Zc Za ?_;refine TO.extract Zb ?_;refine TO.extract Zb ?_;refine Zy Za ?_;refine aN Za ?_;refine Zo (aT [4] rfl) ?_;refine sR Y2 rfl ?_;refine Zc Za ?_;refine aN Za ?_;refine T.ret ?_;obtain rfl:=ret1 H;exact Ye Za (Res.tmp rfl) Zf ⟨rfl,rfl⟩
theorem Lh {n0:Net}{a3:Option Addr}{a4 a5:Nat}(w:World)(a2:RS w [] Zu 3 a3 a4 a5 n0.Arcs){r0:Int}(H:Gl n0=some r0):Fnc Tryz.prog 24 #[.agg #[iV n0.N,iV n0.S,iV n0.T,.slice a3 a4 a5]] w [] (fun v N=>v=iV r0∧N=[]):=by
 unfold Gl at H;refine Fnc.enter (vs:=[.agg #[iV n0.N,iV n0.S,iV n0.T,.slice a3 a4 a5]]) Tryz.func24 rfl rfl (Inv.refl w) ?_;refine sR Y2 rfl ?_;refine Xz Za ?_;intro b1;refine aN Za ?_;refine Zi ?_;refine Zi ?_;obtain ⟨⟨⟩,e3,H⟩:=Zm H;refine rG Y2 rfl ?_;refine Zw Zjv Za (fun wc hwc=>Zgo  wc  e3) ?_;rintro _ _ ⟨b4,b5,rfl,rfl⟩;refine Zc Za ?_;refine dN ?_;refine Wf (fun (a6:Unit)=>Z4l=some r0) (fun (a6:Unit)=>[]) (fun (a6:Unit)=>[]) ?_ ?_
 ·
  refine T.block ?_;refine Zdt ?_;refine RT.round ?_;refine sR Y1 rfl ?_;refine Jz (b:=true) Zl (by first | decide | rfl) ?_;refine dS ?_;refine Yz rfl rfl ?_;refine T.skip ?_;refine Yb ?_;refine Zi ?_;refine T.block ?_;refine sR Y3 rfl ?_;refine Z1z (vs:=[.func (.func 83) #[] #[],iV 10]) Zb Z1y Z1x (by decide) rfl ?_;refine Wb Zk Z1r ?_;intro b8;refine Xx Za Ze Z19 Zk ?_;refine dS ?_;obtain ⟨d4,c4,H⟩:=Zm H;refine rG Y5 rfl ?_;refine Zs Za Z14 ?_;refine Zt Za Z23 Zh rfl ?_;refine Xj Za Yy Un rfl ?_;refine Jo Zjb Zb (fun wc hwc=>Zfk (n0:=n0) wc (a2.mono hwc) c4) ?_;rintro _ _ ⟨rfl,rfl⟩;refine TO.not Za ?_;refine dN ?_;refine Zo (aT [1,5,6,4,13] rfl) ?_;rcases Zq H with ⟨a7,H⟩ | ⟨a7,H⟩
  ·refine Yz rfl a7 ?_;refine sR Y3 rfl ?_;refine Zs Za Z0z ?_;refine Zt Za Jq Zh rfl ?_;refine aN Za ?_;refine T.ret ?_;refine Xc ?_;refine Yc ?_;refine Yc ?_;refine Xc ?_;refine Yc ?_;obtain rfl:=ret1 H;exact Ye Za (Res.tmp rfl) Zf ⟨rfl,rfl⟩
  ·
   refine Xl rfl (Bool.eq_false_iff.2 a7) ?_;refine T.skip ?_;refine Yv ?_;refine Yb ?_;refine rG Y2 rfl ?_;refine Nu (r:=1) (by decide) Zb ?_;refine Zc Za ?_;refine Zj ?_;refine X.round ?_;refine RT.round ?_;refine sR Y1 rfl ?_;refine Jz (b:=true) Zl (by first | decide | rfl) ?_;refine dS ?_;refine Yz rfl rfl ?_;refine T.skip ?_;refine Yb ?_;refine Zi ?_;refine T.block ?_;refine sR Y3 rfl ?_;refine Z1z (vs:=[.func (.func 84) #[] #[],iV 11]) Zb Z1y Z1x (by decide) rfl ?_;refine Wb Zk Z1r ?_;intro d5;refine Xx Za Ze Z19 Zk ?_;refine dS ?_;obtain ⟨d6,c9,H⟩:=Zm H;refine rG Y5 rfl ?_;refine Zs Za Z14 ?_;refine Zt Za Z23 Zh rfl ?_;refine Xj Za Yy Vo rfl ?_;refine Jo Zjw Zb (fun wc hwc=>Zi3 (n0:=n0) wc (a2.mono hwc) c9) ?_;rintro _ _ ⟨rfl,rfl⟩;refine TO.not Za ?_;refine dN ?_;rcases Zq H with ⟨a8,H⟩ | ⟨a8,H⟩
   ·refine Yz rfl a8 ?_;refine sR Y3 rfl ?_;refine Zs Za Z0z ?_;refine Zt Za Jq Zh rfl ?_;refine aN Za ?_;refine Zo (aT [2] rfl) ?_;refine T.ret ?_;refine Xc ?_;refine Yc ?_;refine Yc ?_;refine Xc ?_;refine Yc ?_;obtain rfl:=ret1 H;exact Ye Za (Res.tmp rfl) Zf ⟨rfl,rfl⟩
   ·
    refine Xl rfl (Bool.eq_false_iff.2 a8) ?_;refine T.skip ?_;refine Yv ?_;refine Yb ?_;refine Zo (aT [1,5,6] rfl) ?_;refine rG Y2 rfl ?_;refine Nu (r:=2) (by decide) Zb ?_;refine Zc Za ?_;refine Zj ?_;refine X.round ?_;refine RT.round ?_;refine sR Y1 rfl ?_;refine Jz (b:=true) Zl (by first | decide | rfl) ?_;refine dS ?_;refine Yz rfl rfl ?_;refine T.skip ?_;refine Yb ?_;refine Zi ?_;refine T.block ?_;refine sR Y3 rfl ?_;refine Z1z (vs:=[.func (.func 85) #[] #[],iV 12]) Zb Z1y Z1x (by decide) rfl ?_;refine Wb Zk Z1r ?_;intro d7;refine Xx Za Ze Z19 Zk ?_;refine dS ?_;obtain ⟨d8,d0,H⟩:=Zm H;refine rG Y5 rfl ?_;refine Zs Za Z14 ?_;refine Zt Za Z23 Zh rfl ?_;refine Xj Za Yy Vl rfl ?_;refine Jo Zij Zb (fun wc hwc=>Ziu (n0:=n0) wc (a2.mono hwc) d0) ?_;rintro _ _ ⟨rfl,rfl⟩;refine TO.not Za ?_;refine dN ?_;rcases Zq H with ⟨a9,H⟩ | ⟨a9,H⟩
    ·refine Yz rfl a9 ?_;refine sR Y3 rfl ?_;refine Zs Za Z0z ?_;refine Zt Za Jq Zh rfl ?_;refine aN Za ?_;refine Zo (aT [2] rfl) ?_;refine T.ret ?_;refine Xc ?_;refine Yc ?_;refine Yc ?_;refine Xc ?_;refine Yc ?_;obtain rfl:=ret1 H;exact Ye Za (Res.tmp rfl) Zf ⟨rfl,rfl⟩
    ·
     refine Xl rfl (Bool.eq_false_iff.2 a9) ?_;refine T.skip ?_;refine Yv ?_;refine Yb ?_;refine Zo (aT [1,5,6] rfl) ?_;refine rG Y2 rfl ?_;refine Nu (r:=3) (by decide) Zb ?_;refine Zc Za ?_;refine Zj ?_;refine X.round ?_;refine RT.round ?_;refine sR Y1 rfl ?_;refine Jz (b:=true) Zl (by first | decide | rfl) ?_;refine dS ?_;refine Yz rfl rfl ?_;refine T.skip ?_;refine Yb ?_;refine Zi ?_;refine T.block ?_;refine sR Y3 rfl ?_;refine Z1z (vs:=[.func (.func 132) #[] #[pV b4],iV 13]) Zb Z1y Z1x (by decide) rfl ?_;refine Wb Zk Z1r ?_;intro d9;refine Xx Za Ze Z19 Zk ?_;refine dS ?_;obtain ⟨e1,d1,H⟩:=Zm H;refine rG Y5 rfl ?_;refine Zs Za Z14 ?_;refine Zt Za Z23 Zh rfl ?_;refine Xj Za Yy mm6 rfl ?_;refine Jo Zeg Zb (fun wc hwc=>Zl1 (n0:=n0) wc (a2.mono hwc) (hwc.hb (cs:=[.func (.func 88) #[] #[]]) Vo) d1) ?_;rintro _ _ ⟨rfl,rfl⟩;refine TO.not Za ?_;refine dN ?_;rcases Zq H with ⟨b6,H⟩ | ⟨b6,H⟩
     ·refine Yz rfl b6 ?_;refine sR Y3 rfl ?_;refine Zs Za Z0z ?_;refine Zt Za Jq Zh rfl ?_;refine aN Za ?_;refine Zo (aT [2] rfl) ?_;refine T.ret ?_;refine Xc ?_;refine Yc ?_;refine Yc ?_;refine Xc ?_;refine Yc ?_;obtain rfl:=ret1 H;exact Ye Za (Res.tmp rfl) Zf ⟨rfl,rfl⟩
     ·
      refine Xl rfl (Bool.eq_false_iff.2 b6) ?_;refine T.skip ?_;refine Yv ?_;refine Yb ?_;refine Zo (aT [1,5,6] rfl) ?_;refine rG Y2 rfl ?_;refine Nu (r:=4) (by decide) Zb ?_;refine Zc Za ?_;refine Zj ?_;refine X.round ?_;refine RT.round ?_;refine sR Y1 rfl ?_;refine Jz (b:=true) Zl (by first | decide | rfl) ?_;refine dS ?_;refine Yz rfl rfl ?_;refine T.skip ?_;refine Yb ?_;refine Zi ?_;refine T.block ?_;refine sR Y3 rfl ?_;refine Z1z (vs:=[.func (.func 132) #[] #[pV b5],iV 14]) Zb Z1y Z1x (by decide) rfl ?_;refine Wb Zk Z1r ?_;intro e2;refine Xx Za Ze Z19 Zk ?_;refine dS ?_;obtain ⟨e4,d2,H⟩:=Zm H;refine rG Y5 rfl ?_;refine Zs Za Z14 ?_;refine Zt Za Z23 Zh rfl ?_;refine Xj Za Yy mm7 rfl ?_;refine Jo Zeg Zb (fun wc hwc=>Zjn (n0:=n0) wc (a2.mono hwc) (hwc.hb (cs:=[.func (.func 89) #[] #[]]) mm6) d2) ?_;rintro _ _ ⟨rfl,rfl⟩;refine TO.not Za ?_;refine dN ?_;rcases Zq H with ⟨b7,H⟩ | ⟨b7,H⟩
      ·refine Yz rfl b7 ?_;refine sR Y3 rfl ?_;refine Zs Za Z0z ?_;refine Zt Za Jq Zh rfl ?_;refine aN Za ?_;refine Zo (aT [2] rfl) ?_;refine T.ret ?_;refine Xc ?_;refine Yc ?_;refine Yc ?_;refine Xc ?_;refine Yc ?_;obtain rfl:=ret1 H;exact Ye Za (Res.tmp rfl) Zf ⟨rfl,rfl⟩
      ·
       refine Xl rfl (Bool.eq_false_iff.2 b7) ?_;refine T.skip ?_;refine Yv ?_;refine Yb ?_;refine Zo (aT [1,5,6] rfl) ?_;refine rG Y2 rfl ?_;refine Nu (r:=5) (by decide) Zb ?_;refine Zc Za ?_;refine Zj ?_;refine X.round ?_;refine RT.round ?_;refine sR Y1 rfl ?_;refine Jz (b:=true) Zl (by first | decide | rfl) ?_;refine dS ?_;refine Yz rfl rfl ?_;refine T.skip ?_;refine Yb ?_;refine Zi ?_;refine T.block ?_;refine sR Y3 rfl ?_;refine Z1z (vs:=[.func (.func 90) #[] #[],iV 15]) Zb Z1y Z1x (by decide) rfl ?_;refine Wb Zk Z1r ?_;intro b33;refine Xx Za Ze Z19 Zk ?_;refine dS ?_;obtain ⟨e5,d3,H⟩:=Zm H;refine rG Y5 rfl ?_;refine Zs Za Z14 ?_;refine Zt Za Z23 Zh rfl ?_;refine Xj Za Yy Us rfl ?_;refine Jo Zjm Zb (fun wc hwc=>Zj4 (n0:=n0) wc (a2.mono hwc) d3) ?_;rintro _ _ ⟨rfl,rfl⟩;refine TO.not Za ?_;refine dN ?_;rcases Zq H with ⟨b9,H⟩ | ⟨b9,H⟩
       ·refine Yz rfl b9 ?_;refine sR Y3 rfl ?_;refine Zs Za Z0z ?_;refine Zt Za Jq Zh rfl ?_;refine aN Za ?_;refine Zo (aT [2] rfl) ?_;refine T.ret ?_;refine Xc ?_;refine Yc ?_;refine Yc ?_;refine Xc ?_;refine Yc ?_;obtain rfl:=ret1 H;exact Ye Za (Res.tmp rfl) Zf ⟨rfl,rfl⟩
       ·refine Xl rfl (Bool.eq_false_iff.2 b9) ?_;refine T.skip ?_;refine Yv ?_;refine Yb ?_;refine Zo (aT [1,5,6] rfl) ?_;refine rG Y2 rfl ?_;refine Nu (r:=6) (by decide) Zb ?_;refine Zc Za ?_;refine Zj ?_;refine X.round ?_;refine RT.round ?_;refine sR Y1 rfl ?_;refine Jz (b:=false) Zl (by first | decide | rfl) ?_;refine dS ?_;refine Xl rfl rfl ?_;refine T.exit ?_;refine Xk ?_;refine Xk ?_;refine Vr ?_;exact Xa () H Z00 Zf
 ·rintro a6 H;unfold Z4l at H;refine sR Y1 rfl ?_;refine aN Za ?_;refine T.ret ?_;obtain rfl:=ret1 H;exact Ye Za (Res.tmp rfl) Zf ⟨rfl,rfl⟩
end Go.Proofs.YtddknfpolkkbjaaGreatDoor.Ax
namespace Go.Proofs.YtddknfpolkkbjaaGreatDoor.Ax
open Go Go.Acq Go.RowKit Go.Proofs
set_option maxHeartbeats 8000000
set_option maxRecDepth 20000
end Go.Proofs.YtddknfpolkkbjaaGreatDoor.Ax
