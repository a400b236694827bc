/- Texts of this claim, one behind the other. -/
import Derived.Test.YtcopaajoahfilaaGreatA5
import Derived.Test.YtcopaajoahfilaaGreatA2
set_option linter.unusedVariables false
set_option linter.unusedSimpArgs false
namespace Go.Acq
open Go
section
variable {Xe : Int → Prop} {K R : Nat} {σ τ : AS} {k : Nat}
theorem Z04 (hV:∀ i,i≠k→τ.V i=σ.V i)(hS:τ.S=σ.S)(N:Pl→Prop)(hd:∀ j i,N (.dq j i)→j<K→τ.T j≤(i:Int)→(i:Int)<τ.E j→σ.T j≤(i:Int)∧(i:Int)<σ.E j)
    (hh:N (.hold k)→∀ v,(τ.V k).held=some v→(σ.V k).held=some v)(hw:N (.wake k)→∀ v,(τ.V k).woken=some v→(σ.V k).woken=some v)(hp:N (.pg k)→∀ v,(τ.V k).popped=some v→(σ.V k).popped=some v) :
    ∀ q,N q→∀ v,τ.val K R q=some v→σ.val K R q=some v:=by
  intro q hq v hv
  cases q with
  | dq j i =>
    simp only [AS.val] at hv ⊢
    split at hv
    · rename_i c
      have:=hd j i hq c.1 c.2.1 c.2.2
      rw [if_pos ⟨c.1,this.1,this.2⟩,←hS];exact hv
    ·cases hv
  | hold j =>
    simp only [AS.val] at hv ⊢
    split at hv
    · rename_i c
      rw [if_pos c]
      by_cases hj:j=k
      ·subst hj;exact hh hq v hv
      ·rw [←hV j hj];exact hv
    ·cases hv
  | wake j =>
    simp only [AS.val] at hv ⊢
    split at hv
    · rename_i c
      rw [if_pos c]
      by_cases hj:j=k
      ·subst hj;exact hw hq v hv
      ·rw [←hV j hj];exact hv
    ·cases hv
  | pg j =>
    simp only [AS.val] at hv ⊢
    split at hv
    · rename_i c
      rw [if_pos c]
      by_cases hj:j=k
      ·subst hj;exact hp hq v hv
      ·rw [←hV j hj];exact hv
    ·cases hv
theorem AI.move (h:AI Xe K R σ)(hF:τ.F=σ.F){a b:Pl}(hab:a≠b)(h1:∀ v,τ.val K R b=some v→σ.val K R a=some v)(h2:τ.val K R a=none)(h3:∀ q,q≠b→∀ v,τ.val K R q=some v→σ.val K R q=some v) :
    (∀ p q v,τ.val K R p=some v→τ.val K R q=some v→p=q)∧(∀ p v,τ.val K R p=some v→Xe v∧τ.F v.toNat=1) :=
  h.moved hF (Jb a b) (Zgj _ _) fun q v hq=>by
    unfold Jb
    by_cases c1:q=a
    ·rw [c1,h2] at hq;cases hq
    · rw [if_neg c1]
      by_cases c2:q=b
      ·rw [if_pos c2];rw [c2] at hq;exact h1 v hq
      ·rw [if_neg c2];exact h3 q c2 v hq
theorem AI.more (h:AI Xe K R σ){b:Pl}{x:Int}(hx:Xe x)(hF0:σ.F x.toNat=0)(hF:τ.F=upd σ.F x.toNat 1)(h1:∀ v,τ.val K R b=some v→v=x)(h3:∀ q,q≠b→∀ v,τ.val K R q=some v→σ.val K R q=some v) :
    (∀ p q v,τ.val K R p=some v→τ.val K R q=some v→p=q)∧(∀ p v,τ.val K R p=some v→Xe v∧τ.F v.toNat=1):=by
  have hne:∀ q v,σ.val K R q=some v→v.toNat≠x.toNat:=fun q v hq e=>by have:=(h.flg q v hq).2;rw [e,hF0] at this;omega
  refine ⟨fun p q v hp hq=>?_,fun p v hp=>?_⟩
  · by_cases c1 : p = b
    · by_cases c2 : q = b
      ·rw [c1,c2]
      · subst c1
        have:=hne q v (h3 q c2 v hq)
        rw [h1 v hp] at this;exact absurd rfl this
    · by_cases c2 : q = b
      · subst c2
        have:=hne p v (h3 p c1 v hp)
        rw [h1 v hq] at this;exact absurd rfl this
      ·exact h.inj p q v (h3 p c1 v hp) (h3 q c2 v hq)
  · rw [hF]
    by_cases c1:p=b
    ·subst c1;rw [h1 v hp];exact ⟨hx,Ul _ _ _⟩
    · have hs := h3 p c1 v hp
      rw [Us (hne p v hs)];exact h.flg p v hs
theorem AI.less (h:AI Xe K R σ)(hnn:∀ v,Xe v→0≤v){a:Pl}{x:Int}(ha:σ.val K R a=some x)(hF:τ.F=upd σ.F x.toNat 0)(h2:τ.val K R a=none)(h3:∀ q v,τ.val K R q=some v→σ.val K R q=some v) :
    (∀ p q v,τ.val K R p=some v→τ.val K R q=some v→p=q)∧(∀ p v,τ.val K R p=some v→Xe v∧τ.F v.toNat=1):=by
  refine ⟨fun p q v hp hq=>h.inj p q v (h3 p v hp) (h3 q v hq),fun p v hp=>?_⟩
  have hs:=h3 p v hp
  have hf:=h.flg p v hs
  rw [hF,Us (fun e=>?_)]
  ·exact hf
  have hv:v=x:=by have h1:=hnn v hf.1;have h2':=hnn x (h.flg a x ha).1;omega
  subst hv
  have:=h.inj p a v hs ha
  subst this
  rw [h2] at hp;cases hp
theorem pl_ne1 {k i j:Nat}:Pl.dq k i≠Pl.hold j:=fun e=>by cases e
theorem pl_ne2 {k i j:Nat}:Pl.dq k i≠Pl.pg j:=fun e=>by cases e
theorem pl_ne3 {k j:Nat}:Pl.pg k≠Pl.hold j:=fun e=>by cases e
theorem pl_ne4 {k i j:Nat}:Pl.wake j≠Pl.dq k i:=fun e=>by cases e
theorem AI.last (h:AI Xe K R σ)(hk:k<K){b t x:Int}{g:Bool}(hv:σ.V k=.take 4 b t x g)(hc:σ.T k=t):AI Xe K R ⟨σ.F,upd σ.T k (t+1),σ.B,σ.S,upd σ.V k (.take 5 b t x true)⟩:=by
  have hw:=h.each k hk
  rw [hv] at hw
  simp only [Yw] at hw
  obtain ⟨-,w2,-,w4,-,-⟩:=hw
  obtain ⟨w5,w6,w7,w8⟩:=w4 trivial
  have hBk:=w2 (by omega)
  have hEk:σ.E k=b+1:=by unfold AS.E Wx;rw [hv];simp
  have hsh:=h.shape k hk
  obtain ⟨τ,hτ⟩:∃ τ:AS,τ=⟨σ.F,upd σ.T k (t+1),σ.B,σ.S,upd σ.V k (.take 5 b t x true)⟩:=⟨_,rfl⟩
  have eV:∀ i,i≠k→τ.V i=σ.V i:=fun i hi=>by rw [hτ];exact Us hi
  have eVk:τ.V k=.take 5 b t x true:=by rw [hτ];exact Ul _ _ _
  have eB:τ.B=σ.B:=by rw [hτ]
  have eT:∀ i,i≠k→τ.T i=σ.T i:=fun i hi=>by rw [hτ];exact Us hi
  have eTk:τ.T k=t+1:=by rw [hτ];exact Ul _ _ _
  have eS:τ.S=σ.S:=by rw [hτ]
  have eF:τ.F=σ.F:=by rw [hτ]
  have eE:∀ i,τ.E i=σ.E i:=fun i=>by
    by_cases hi:i=k
    ·subst hi;rw [hEk];unfold AS.E Wx;rw [eVk];simp
    ·unfold AS.E;rw [eV i hi,eB]
  rw [←hτ]
  have hm:=h.move (τ:=τ) eF (a:=.dq k b.toNat) (b:=.pg k) pl_ne2 (fun v hq=>by
      simp only [AS.val] at hq ⊢
      rw [if_pos hk,eVk] at hq
      simp only [Vw.popped] at hq
      rw [if_pos ⟨trivial,trivial⟩] at hq
      rw [if_pos ⟨hk,by omega,by omega⟩,←w8];exact hq) (by
      simp only [AS.val]
      rw [if_neg (by rw [eTk];omega)])
    (Z04 eV eS (fun q=>q≠.pg k) (fun j i _ hj h1 h2=>by
      rw [eE] at h2
      by_cases hjk:j=k
      ·subst hjk;rw [eTk] at h1;omega
      ·rw [eT j hjk] at h1;exact ⟨h1,h2⟩) (fun _ v hq=>(by rw [eVk] at hq;cases hq)) (fun _ v hq=>(by rw [eVk] at hq;cases hq)) (fun hn=>absurd rfl hn))
  refine ⟨hm.1,hm.2,by rw [eF];exact h.f01,fun i hi=>?_,fun i hi=>?_⟩
  · rw [eE]
    by_cases hik:i=k
    ·subst hik;rw [eTk];omega
    ·rw [eT i hik];exact h.shape i hi
  · by_cases hik : i = k
    · subst hik
      rw [eVk]
      simp only [Yw]
      rw [eB,eTk]
      exact ⟨fun e=>by omega,fun _=>hBk,fun e=>by omega,fun e=>by omega,fun _=>by omega,by omega⟩
    rw [eV i hik]
    have ho:=h.each i hi
    refine Z2e ho (by rw [eB]) (fun j _=>?_) hi (fun b' t' x' g' e hb=>?_) (fun _ _ _ _ _=>eT i hik) (by rw [eS]) (fun _ _ _ _ _=>by rw [eS]) (fun p j t' x' e hj hp ht=>?_) (fun j hj y hy=>?_)
    · by_cases hjk : j = k
      ·subst hjk;rw [eTk];omega
      ·rw [eT j hjk];omega
    · rw [e] at ho
      simp only [Yw] at ho
      rw [eT i hik];exact ((ho.2.2.1 trivial).2.2 hb).1
    · rw [e] at ho
      simp only [Yw] at ho
      rw [eE]
      by_cases hjk:j=k
      ·subst hjk;rw [eTk] at ht;have:=(ho.2.1 (by omega)).2;omega
      ·rw [eT j hjk] at ht;exact ⟨ht,ho.2.2.1 hp ht⟩
    · by_cases hjk : j = k
      ·subst hjk;rw [eVk] at hy;cases hy
      ·rw [eV j hjk] at hy;exact .inl hy
theorem AI.got (h:AI Xe K R σ)(hk:k<K){b t x:Int}(hv:σ.V k=.take 5 b t x true):AI Xe K R (σ.go k (b+1) (.hold x)):=by
  have hEk:σ.E k=b+1:=by unfold AS.E Wx;rw [hv];simp
  obtain ⟨τ,hτ⟩:∃ τ:AS,τ=σ.go k (b+1) (.hold x):=⟨_,rfl⟩
  have eV:∀ i,i≠k→τ.V i=σ.V i:=fun i hi=>by rw [hτ];exact go_V hi
  have eVk:τ.V k=.hold x:=by rw [hτ];exact Rn
  have eB:∀ i,i≠k→τ.B i=σ.B i:=fun i hi=>by rw [hτ];exact Gw hi
  have eT:τ.T=σ.T:=by rw [hτ];rfl
  have eS:τ.S=σ.S:=by rw [hτ];rfl
  have eF:τ.F=σ.F:=by rw [hτ];rfl
  have eE:∀ i,τ.E i=σ.E i:=fun i=>by rw [hτ];exact go_E (by rw [hEk];rfl) i
  rw [←hτ]
  have hm:=h.move (τ:=τ) eF (a:=.pg k) (b:=.hold k) pl_ne3 (fun v hq=>by
      simp only [AS.val] at hq ⊢
      rw [if_pos hk,eVk] at hq
      rw [if_pos hk,hv];exact hq) (by
      simp only [AS.val]
      rw [if_pos hk,eVk];rfl)
    (Z04 eV eS (fun q=>q≠.hold k) (fun j i _ hj h1 h2=>by rw [eE] at h2;rw [eT] at h1;exact ⟨h1,h2⟩) (fun hn=>absurd rfl hn) (fun _ v hq=>(by rw [eVk] at hq;cases hq)) (fun _ v hq=>(by rw [eVk] at hq;cases hq)))
  refine ⟨hm.1,hm.2,by rw [eF];exact h.f01,fun i hi=>by rw [eE,eT];exact h.shape i hi,fun i hi=>?_⟩
  by_cases hik:i=k
  ·subst hik;rw [eVk];trivial
  rw [eV i hik]
  have ho:=h.each i hi
  refine Z2e ho (eB i hik) (fun j _=>by rw [eT];omega) hi (fun b' t' x' g' e hb=>?_) (fun _ _ _ _ _=>by rw [eT]) (by rw [eS]) (fun _ _ _ _ _=>by rw [eS]) (fun p j t' x' e hj hp ht=>?_) (fun j hj y hy=>?_)
  · rw [e] at ho
    simp only [Yw] at ho
    rw [eT];exact ((ho.2.2.1 trivial).2.2 hb).1
  · rw [e] at ho
    simp only [Yw] at ho
    rw [eT] at ht
    rw [eE];exact ⟨ht,ho.2.2.1 hp ht⟩
  · by_cases hjk : j = k
    ·subst hjk;rw [eVk] at hy;cases hy
    ·rw [eV j hjk] at hy;exact .inl hy
theorem AI.rob (h:AI Xe K R σ)(hk:k<K){j:Nat}{t x:Int}(hv:σ.V k=.steal j 3 t x)(hc:σ.T j=t):AI Xe K R ⟨σ.F,upd σ.T j (t+1),σ.B,σ.S,upd σ.V k (.hold x)⟩:=by
  have hw:=h.each k hk
  rw [hv] at hw
  simp only [Yw] at hw
  obtain ⟨hj,w2,w3,w4,-⟩:=hw
  have w5:=w3 (by omega) hc.symm
  have w6:=w4 trivial hc.symm
  have w7:=w2 (by omega)
  have hth:(σ.V k).thief j=some t:=by rw [hv];simp [Vw.thief]
  obtain ⟨τ,hτ⟩:∃ τ:AS,τ=⟨σ.F,upd σ.T j (t+1),σ.B,σ.S,upd σ.V k (.hold x)⟩:=⟨_,rfl⟩
  have eV:∀ i,i≠k→τ.V i=σ.V i:=fun i hi=>by rw [hτ];exact Us hi
  have eVk:τ.V k=.hold x:=by rw [hτ];exact Ul _ _ _
  have eB:τ.B=σ.B:=by rw [hτ]
  have eT:∀ i,i≠j→τ.T i=σ.T i:=fun i hi=>by rw [hτ];exact Us hi
  have eTj:τ.T j=t+1:=by rw [hτ];exact Ul _ _ _
  have eS:τ.S=σ.S:=by rw [hτ]
  have eF:τ.F=σ.F:=by rw [hτ]
  have eE:∀ i,τ.E i=σ.E i:=fun i=>by
    by_cases hi:i=k
    ·subst hi;unfold AS.E;rw [eVk,hv,eB];rfl
    ·unfold AS.E;rw [eV i hi,eB]
  rw [←hτ]
  have hm:=h.move (τ:=τ) eF (a:=.dq j t.toNat) (b:=.hold k) pl_ne1 (fun v hq=>by
      simp only [AS.val] at hq ⊢
      rw [if_pos hk,eVk] at hq
      rw [if_pos ⟨hj,by omega,by omega⟩,←w6];exact hq) (by
      simp only [AS.val]
      rw [if_neg (by rw [eTj];omega)])
    (Z04 eV eS (fun q=>q≠.hold k) (fun i q _ hi h1 h2=>by
      rw [eE] at h2
      by_cases hjk:i=j
      ·subst hjk;rw [eTj] at h1;exact ⟨by omega,h2⟩
      ·rw [eT i hjk] at h1;exact ⟨h1,h2⟩) (fun hn=>absurd rfl hn) (fun _ v hq=>(by rw [eVk] at hq;cases hq)) (fun _ v hq=>(by rw [eVk] at hq;cases hq)))
  refine ⟨hm.1,hm.2,by rw [eF];exact h.f01,fun i hi=>?_,fun i hi=>?_⟩
  · have := h.shape i hi
    rw [eE]
    by_cases hij:i=j
    ·subst hij;rw [eTj];omega
    ·rw [eT i hij];exact this
  · by_cases hik : i = k
    ·subst hik;rw [eVk];trivial
    rw [eV i hik]
    have ho:=h.each i hi
    refine Z2e ho (by rw [eB]) (fun q _=>?_) hi (fun b' t' x' g' e hb=>?_) (fun b' t' x' g' e=>?_) (by rw [eS]) (fun _ _ _ _ _=>by rw [eS]) (fun p q t' x' e hq hp ht=>?_) (fun q hq y hy=>?_)
    · by_cases hqj : q = j
      ·subst hqj;rw [eTj];omega
      ·rw [eT q hqj];omega
    · rw [e] at ho
      simp only [Yw] at ho
      have ho3:=(ho.2.2.1 trivial).2.2 hb
      by_cases hij:i=j
      ·subst hij;rw [eTj];have:=ho3.2 k hk t hth;omega
      ·rw [eT i hij];exact ho3.1
    · by_cases hij : i = j
      · subst hij
        rw [e] at ho
        simp only [Yw] at ho
        have h5:=ho.2.2.2.2.1 trivial
        have hEi:σ.E i=b'+1:=by unfold AS.E Wx;rw [e];simp
        omega
      ·exact eT i hij
    · rw [e] at ho
      simp only [Yw] at ho
      rw [eE]
      by_cases hqj:q=j
      ·subst hqj;rw [eTj] at ht;have:=(ho.2.1 (by omega)).2;omega
      ·rw [eT q hqj] at ht;exact ⟨ht,ho.2.2.1 hp ht⟩
    · by_cases hqk : q = k
      ·subst hqk;rw [eVk] at hy;cases hy
      ·rw [eV q hqk] at hy;exact .inl hy
theorem mod_ne {R:Nat}{i b:Nat}(h1:i<b)(h2:b<i+R):i%R≠b%R:=fun e=>by
 have h3:=Nat.sub_mod_eq_zero_of_mod_eq e.symm
 rw [Nat.mod_eq_of_lt (by omega)] at h3
 omega
theorem AI.write (h:AI Xe K R σ)(hk:k<K){u v b t:Int}(hv:σ.V k=.put u v 2 b t):AI Xe K R ⟨σ.F,σ.T,σ.B,upd σ.S k (upd (σ.S k) (b.toNat%R) v),upd σ.V k (.put u v 3 b t)⟩:=by
 have hw:=h.each k hk
 rw [hv] at hw
 simp only [Yw] at hw
 obtain ⟨w1,w2,-,-⟩:=hw
 have hb:=w1 (by omega)
 obtain ⟨w3,w4⟩:=w2 (by omega)
 have hEk:σ.E k=σ.B k:=by unfold AS.E Wx;rw [hv]
 have hsh:=h.shape k hk
 obtain ⟨τ,hτ⟩:∃ τ:AS,τ=⟨σ.F,σ.T,σ.B,upd σ.S k (upd (σ.S k) (b.toNat%R) v),upd σ.V k (.put u v 3 b t)⟩:=⟨_,rfl⟩
 have eV:∀ i,i≠k→τ.V i=σ.V i:=fun i hi=>by rw [hτ];exact Us hi
 have eVk:τ.V k=.put u v 3 b t:=by rw [hτ];exact Ul _ _ _
 have eB:τ.B=σ.B:=by rw [hτ]
 have eT:τ.T=σ.T:=by rw [hτ]
 have eS:∀ i,i≠k→τ.S i=σ.S i:=fun i hi=>by rw [hτ];exact Us hi
 have eSk:∀ q,q≠b.toNat%R→τ.S k q=σ.S k q:=fun q hq=>by rw [hτ];show upd σ.S k _ k q=_;rw [Ul,Us hq]
 have eSb:τ.S k (b.toNat%R)=v:=by rw [hτ];show upd σ.S k _ k _=_;rw [Ul,Ul]
 have eF:τ.F=σ.F:=by rw [hτ]
 have eE:∀ i,τ.E i=σ.E i:=fun i=>by
  by_cases hi:i=k
  ·subst hi;rw [hEk];unfold AS.E Wx;rw [eVk,eB]
  ·unfold AS.E;rw [eV i hi,eB]
 rw [←hτ]
 have hval:∀ p,τ.val K R p=σ.val K R p:=fun p=>by
  cases p with
  | dq j i =>
   simp only [AS.val]
   rw [eT,eE]
   split
   ·
    rename_i c
    by_cases hj:j=k
    ·
     subst hj
     rw [eSk _ (mod_ne (by omega) (by omega))]
    ·rw [eS j hj]
   ·rfl
  | hold j =>
   simp only [AS.val]
   by_cases hj:j=k
   ·subst hj;rw [eVk,hv];rfl
   ·rw [eV j hj]
  | wake j =>
   simp only [AS.val]
   by_cases hj:j=k
   ·subst hj;rw [eVk,hv];rfl
   ·rw [eV j hj]
  | pg j =>
   simp only [AS.val]
   by_cases hj:j=k
   ·subst hj;rw [eVk,hv];rfl
   ·rw [eV j hj]
 refine ⟨fun p q v hp hq=>h.inj p q v (by rw [←hval];exact hp) (by rw [←hval];exact hq),fun p v hp=>by rw [eF];exact h.flg p v (by rw [←hval];exact hp),by rw [eF];exact h.f01,fun i hi=>by rw [eE,eT];exact h.shape i hi,fun i hi=>?_⟩
 by_cases hik:i=k
 ·
  subst hik
  rw [eVk]
  simp only [Yw]
  rw [eB,eT]
  exact ⟨fun _=>hb,fun _=>⟨w3,w4⟩,fun _=>eSb,by omega⟩
 rw [eV i hik]
 have ho:=h.each i hi
 refine Z2e ho (by rw [eB]) (fun q _=>by rw [eT];omega) hi (fun b' t' x' g' e hb=>?_) (fun _ _ _ _ _=>by rw [eT]) (eS i hik) (fun j t' x' e ht=>?_) (fun p j t' x' e hj hp ht=>?_) (fun q hq y hy=>?_)
 ·
  rw [e] at ho
  simp only [Yw] at ho
  rw [eT];exact ((ho.2.2.1 trivial).2.2 hb).1
 ·
  rw [e] at ho
  simp only [Yw] at ho
  by_cases hjk:j=k
  ·
   subst hjk
   have h1:=ho.2.1 (by omega)
   have h2:=ho.2.2.1 (by omega) ht
   exact eSk _ (mod_ne (by omega) (by omega))
  ·rw [eS j hjk]
 ·
  rw [e] at ho
  simp only [Yw] at ho
  rw [eT] at ht
  rw [eE];exact ⟨ht,ho.2.2.1 hp ht⟩
 ·
  by_cases hqk:q=k
  ·subst hqk;rw [eVk] at hy;cases hy
  ·rw [eV q hqk] at hy;exact .inl hy
theorem Z7w (h:AI Xe K R σ)(hV:∀ i,i≠k→τ.V i=σ.V i)(hVk:∀ i,(τ.V k).thief i=none)(hB:∀ i,i≠k→τ.B i=σ.B i)(hT:τ.T=σ.T)(hS:τ.S=σ.S)(hE:∀ i,i<K→σ.E i≤τ.E i){i:Nat}(hi:i<K)(hik:i≠k):Yw K R τ i (τ.V i):=by
 rw [hV i hik]
 have ho:=h.each i hi
 refine Z2e ho (hB i hik) (fun q _=>by rw [hT];omega) hi (fun b' t' x' g' e hb=>?_) (fun _ _ _ _ _=>by rw [hT]) (by rw [hS]) (fun _ _ _ _ _=>by rw [hS]) (fun p j t' x' e hj hp ht=>?_) (fun q hq y hy=>?_)
 ·
  rw [e] at ho
  simp only [Yw] at ho
  rw [hT];exact ((ho.2.2.1 trivial).2.2 hb).1
 ·
  rw [e] at ho
  simp only [Yw] at ho
  rw [hT] at ht
  have:=hE j hj
  have:=ho.2.2.1 hp ht
  exact ⟨ht,by omega⟩
 ·
  by_cases hqk:q=k
  ·subst hqk;rw [hVk] at hy;cases hy
  ·rw [hV q hqk] at hy;exact .inl hy
theorem AI.put (h:AI Xe K R σ)(hk:k<K){u v b t:Int}(hv:σ.V k=.put u v 3 b t):AI Xe K R (σ.go k (b+1) (.hold u)):=by
  have hw:=h.each k hk
  rw [hv] at hw
  simp only [Yw] at hw
  obtain ⟨w1,w2,w5,-⟩:=hw
  have hb:=w1 (by omega)
  obtain ⟨w3,w4⟩:=w2 (by omega)
  have w6:=w5 trivial
  have hEk:σ.E k=σ.B k:=by unfold AS.E Wx;rw [hv]
  have hsh:=h.shape k hk
  obtain ⟨τ,hτ⟩:∃ τ:AS,τ=σ.go k (b+1) (.hold u):=⟨_,rfl⟩
  have eV:∀ i,i≠k→τ.V i=σ.V i:=fun i hi=>by rw [hτ];exact go_V hi
  have eVk:τ.V k=.hold u:=by rw [hτ];exact Rn
  have eB:∀ i,i≠k→τ.B i=σ.B i:=fun i hi=>by rw [hτ];exact Gw hi
  have eBk:τ.B k=b+1:=by rw [hτ];exact Jo
  have eT:τ.T=σ.T:=by rw [hτ];rfl
  have eS:τ.S=σ.S:=by rw [hτ];rfl
  have eF:τ.F=σ.F:=by rw [hτ];rfl
  have eE:∀ i,i≠k→τ.E i=σ.E i:=fun i hi=>by unfold AS.E;rw [eV i hi,eB i hi]
  have eEk:τ.E k=b+1:=by unfold AS.E Wx;rw [eVk,eBk]
  rw [←hτ]
  have hm:=h.move (τ:=τ) eF (a:=.wake k) (b:=.dq k b.toNat) pl_ne4 (fun y hq=>by
      simp only [AS.val] at hq ⊢
      split at hq
      · rw [eS, w6] at hq
        rw [if_pos hk,hv];exact hq
      ·cases hq) (by
      simp only [AS.val]
      rw [if_pos hk,eVk];rfl)
    (Z04 eV eS (fun q=>q≠.dq k b.toNat) (fun j i hn hj h1 h2=>by
      rw [eT] at h1
      by_cases hjk:j=k
      · subst hjk
        rw [eEk] at h2
        have:i≠b.toNat:=fun e=>hn (by rw [e])
        exact ⟨h1,by omega⟩
      ·rw [eE j hjk] at h2;exact ⟨h1,h2⟩) (fun _ y hq=>by rw [eVk] at hq;rw [hv];exact hq) (fun _ y hq=>(by rw [eVk] at hq;cases hq)) (fun _ y hq=>(by rw [eVk] at hq;cases hq)))
  refine ⟨hm.1,hm.2,by rw [eF];exact h.f01,fun i hi=>?_,fun i hi=>?_⟩
  · have := h.shape i hi
    rw [eT]
    by_cases hik:i=k
    ·subst hik;rw [eEk];omega
    ·rw [eE i hik];exact this
  · by_cases hik : i = k
    ·subst hik;rw [eVk];trivial
    refine Z7w h eV (fun i=>by rw [eVk];rfl) eB eT eS (fun j hj=>?_) hi hik
    by_cases hjk:j=k
    ·subst hjk;rw [eEk];omega
    ·rw [eE j hjk];omega
theorem AI.drop (h:AI Xe K R σ)(hk:k<K){u v b t:Int}{p:Nat}(hv:σ.V k=.put u v p b t):AI Xe K R (σ.go k (σ.B k) (.hold u)):=by
 obtain ⟨τ,hτ⟩:∃ τ:AS,τ=σ.go k (σ.B k) (.hold u):=⟨_,rfl⟩
 have eV:∀ i,i≠k→τ.V i=σ.V i:=fun i hi=>by rw [hτ];exact go_V hi
 have eVk:τ.V k=.hold u:=by rw [hτ];exact Rn
 have eB:∀ i,i≠k→τ.B i=σ.B i:=fun i hi=>by rw [hτ];exact Gw hi
 have eT:τ.T=σ.T:=by rw [hτ];rfl
 have eS:τ.S=σ.S:=by rw [hτ];rfl
 have eF:τ.F=σ.F:=by rw [hτ];rfl
 have eE:∀ i,τ.E i=σ.E i:=fun i=>by rw [hτ];exact go_E (by unfold AS.E Wx;rw [hv]) i
 rw [←hτ]
 have hs:=Z04 (K:=K) (R:=R) eV eS (fun _=>True) (fun j i _ hj h1 h2=>by rw [eT] at h1;rw [eE] at h2;exact ⟨h1,h2⟩) (fun _ y hq=>by rw [eVk] at hq;rw [hv];exact hq) (fun _ y hq=>(by rw [eVk] at hq;cases hq)) (fun _ y hq=>(by rw [eVk] at hq;cases hq))
 have hm:=h.moved (σ':=τ) eF id (fun _ _ e=>e) (fun q v hq=>hs q trivial v hq)
 refine ⟨hm.1,hm.2,by rw [eF];exact h.f01,fun i hi=>by rw [eE,eT];exact h.shape i hi,fun i hi=>?_⟩
 by_cases hik:i=k
 ·subst hik;rw [eVk];trivial
 exact Z7w h eV (fun i=>by rw [eVk];rfl) eB eT eS (fun j hj=>by rw [eE];omega) hi hik
theorem AI.claim (h:AI Xe K R σ)(hk:k<K){x:Int}{w:Vw}(hx:Xe x)(hF0:σ.F x.toNat=0)(hc:(∃ u,σ.V k=.hold u∧w=.up u x)∨(σ.V k=.idle∧w=.hold x)):AI Xe K R ⟨upd σ.F x.toNat 1,σ.T,σ.B,σ.S,upd σ.V k w⟩:=by
 obtain ⟨τ,hτ⟩:∃ τ:AS,τ=⟨upd σ.F x.toNat 1,σ.T,σ.B,σ.S,upd σ.V k w⟩:=⟨_,rfl⟩
 have eV:∀ i,i≠k→τ.V i=σ.V i:=fun i hi=>by rw [hτ];exact Us hi
 have eVk:τ.V k=w:=by rw [hτ];exact Ul _ _ _
 have eB:τ.B=σ.B:=by rw [hτ]
 have eT:τ.T=σ.T:=by rw [hτ]
 have eS:τ.S=σ.S:=by rw [hτ]
 have eF:τ.F=upd σ.F x.toNat 1:=by rw [hτ]
 have eE:∀ i,τ.E i=σ.E i:=fun i=>by
  by_cases hi:i=k
  ·
   subst hi;unfold AS.E Wx;rw [eVk,eB]
   rcases hc with ⟨u,hv,rfl⟩ | ⟨hv,rfl⟩ <;> rw [hv]
  ·unfold AS.E;rw [eV i hi,eB]
 have hf:∀ v,τ.F v=0∨τ.F v=1:=fun v=>by
  rw [eF]
  by_cases c:v=x.toNat
  ·subst c;rw [Ul];exact .inr rfl
  ·rw [Us c];exact h.f01 v
 have hth:∀ i,(τ.V k).thief i=none:=fun i=>by
  rw [eVk]
  rcases hc with ⟨u,hv,rfl⟩ | ⟨hv,rfl⟩ <;> rfl
 rw [←hτ]
 have hm:(∀ p q v,τ.val K R p=some v→τ.val K R q=some v→p=q)∧(∀ p v,τ.val K R p=some v→Xe v∧τ.F v.toNat=1):=by
  rcases hc with ⟨u,hv,rfl⟩ | ⟨hv,rfl⟩
  ·
   exact h.more (τ:=τ) (b:=.wake k) hx hF0 eF (fun v hq=>by
    simp only [AS.val] at hq
    rw [if_pos hk,eVk] at hq
    injection hq with hq;exact hq.symm)
    (Z04 eV eS (fun q=>q≠.wake k) (fun j i _ hj h1 h2=>by rw [eT] at h1;rw [eE] at h2;exact ⟨h1,h2⟩) (fun _ y hq=>by rw [eVk] at hq;rw [hv];exact hq) (fun hn=>absurd rfl hn) (fun _ y hq=>(by rw [eVk] at hq;cases hq)))
  ·
   exact h.more (τ:=τ) (b:=.hold k) hx hF0 eF (fun v hq=>by
    simp only [AS.val] at hq
    rw [if_pos hk,eVk] at hq
    injection hq with hq;exact hq.symm)
    (Z04 eV eS (fun q=>q≠.hold k) (fun j i _ hj h1 h2=>by rw [eT] at h1;rw [eE] at h2;exact ⟨h1,h2⟩) (fun hn=>absurd rfl hn) (fun _ y hq=>(by rw [eVk] at hq;cases hq)) (fun _ y hq=>(by rw [eVk] at hq;cases hq)))
 refine ⟨hm.1,hm.2,hf,fun i hi=>by rw [eE,eT];exact h.shape i hi,fun i hi=>?_⟩
 by_cases hik:i=k
 ·
  subst hik;rw [eVk]
  rcases hc with ⟨u,hv,rfl⟩ | ⟨hv,rfl⟩ <;> trivial
 exact Z7w h eV hth (fun i _=>by rw [eB]) eT eS (fun j hj=>by rw [eE];omega) hi hik
theorem AI.free (h:AI Xe K R σ)(hnn:∀ v,Xe v→0≤v)(hk:k<K){u:Int}(hv:σ.V k=.hold u):AI Xe K R ⟨upd σ.F u.toNat 0,σ.T,σ.B,σ.S,upd σ.V k .idle⟩:=by
 obtain ⟨τ,hτ⟩:∃ τ:AS,τ=⟨upd σ.F u.toNat 0,σ.T,σ.B,σ.S,upd σ.V k .idle⟩:=⟨_,rfl⟩
 have eV:∀ i,i≠k→τ.V i=σ.V i:=fun i hi=>by rw [hτ];exact Us hi
 have eVk:τ.V k=.idle:=by rw [hτ];exact Ul _ _ _
 have eB:τ.B=σ.B:=by rw [hτ]
 have eT:τ.T=σ.T:=by rw [hτ]
 have eS:τ.S=σ.S:=by rw [hτ]
 have eF:τ.F=upd σ.F u.toNat 0:=by rw [hτ]
 have eE:∀ i,τ.E i=σ.E i:=fun i=>by
  by_cases hi:i=k
  ·subst hi;unfold AS.E Wx;rw [eVk,eB,hv]
  ·unfold AS.E;rw [eV i hi,eB]
 rw [←hτ]
 have hm:=h.less (τ:=τ) hnn (a:=.hold k) (x:=u) (by simp only [AS.val];rw [if_pos hk,hv];rfl) eF (by simp only [AS.val];rw [if_pos hk,eVk];rfl)
  (fun q v hq=>Z04 (K:=K) (R:=R) eV eS (fun _=>True) (fun j i _ hj h1 h2=>by rw [eT] at h1;rw [eE] at h2;exact ⟨h1,h2⟩) (fun _ y hq=>(by rw [eVk] at hq;cases hq)) (fun _ y hq=>(by rw [eVk] at hq;cases hq)) (fun _ y hq=>(by rw [eVk] at hq;cases hq)) q trivial v hq)
 refine ⟨hm.1,hm.2,fun v=>?_,fun i hi=>by rw [eE,eT];exact h.shape i hi,fun i hi=>?_⟩
 ·
  rw [eF]
  by_cases c:v=u.toNat
  ·subst c;rw [Ul];exact .inl rfl
  ·rw [Us c];exact h.f01 v
 ·
  by_cases hik:i=k
  ·subst hik;rw [eVk];trivial
  exact Z7w h eV (fun i=>by rw [eVk];rfl) (fun i _=>by rw [eB]) eT eS (fun j hj=>by rw [eE];omega) hi hik
end
end Go.Acq
namespace Go.Acq
open Go
section bank
variable {l : List Int} {i d v old : Int} {q : Nat}
theorem Uu (e:i=q)(h:q<l.length):Vl ⟨l⟩ i=some (l.getD q 0):=by
 subst e
 have h1:inb (q:Int) l.length:=by constructor <;> omega
 unfold Vl Lc Z98
 simp only [if_pos h1,if_neg (show ¬((q:Int)<0) by omega),if_neg (show ¬((l.length:Int)≤(q:Int)) by omega),Xb h1,Int.toNat_natCast]
 rfl
theorem Kk (e:i=q)(h:q<l.length):Ka ⟨l⟩ i v=some ⟨l.set q v⟩:=by
 subst e
 have h1:inb (q:Int) l.length:=by constructor <;> omega
 unfold Ka Lc Z85
 simp only [if_pos h1,if_neg (show ¬((q:Int)<0) by omega),if_neg (show ¬((l.length:Int)≤(q:Int)) by omega),Xb h1,Int.toNat_natCast]
 rfl
theorem Gx (e:i=q)(h:q<l.length):∃ x,Jr ⟨l⟩ i d=some (x,⟨l.set q x⟩):=by
 subst e
 have h1:inb (q:Int) l.length:=by constructor <;> omega
 unfold Jr Lc Z8b
 simp only [if_pos h1,if_neg (show ¬((q:Int)<0) by omega),if_neg (show ¬((l.length:Int)≤(q:Int)) by omega),Xb h1,Int.toNat_natCast]
 exact ⟨_,rfl⟩
theorem b_CAS (e:i=q)(h:q<l.length):Z16 ⟨l⟩ i old v=some (decide (l.getD q 0=old),⟨l.set q (if l.getD q 0=old then v else l.getD q 0)⟩):=by
 subst e
 have h1:inb (q:Int) l.length:=by constructor <;> omega
 unfold Z16 Lc Z89
 simp only [if_pos h1,if_neg (show ¬((q:Int)<0) by omega),if_neg (show ¬((l.length:Int)≤(q:Int)) by omega),Xb h1,Int.toNat_natCast]
 rfl
end bank
def Yi (m L R k:Nat):Nat:=L+3*m+4+k*(R+2)
theorem Rw {m L R i k p q:Nat}(hp:p<R+2)(hq:q<R+2)(h:Yi m L R i+p=Yi m L R k+q):i=k∧p=q:=by
 unfold Yi at h
 have h1:i*(R+2)+p=k*(R+2)+q:=by omega
 have h2:(i*(R+2)+p) / (R+2)=i:=by rw [Nat.mul_comm,Nat.mul_add_div (by omega),Nat.div_eq_of_lt hp,Nat.add_zero]
 have h3:(k*(R+2)+q) / (R+2)=k:=by rw [Nat.mul_comm,Nat.mul_add_div (by omega),Nat.div_eq_of_lt hq,Nat.add_zero]
 rw [h1,h3] at h2
 subst h2
 exact ⟨rfl,by omega⟩
theorem Ub {m L R k K p:Nat}(hk:k<K)(hp:p<R+2):L+3*m+4≤Yi m L R k+p∧Yi m L R k+p<L+3*m+4+K*(R+2):=by
 unfold Yi
 have:(k+1)*(R+2)≤K*(R+2):=Nat.mul_le_mul_right _ hk
 rw [Nat.succ_mul] at this
 omega
def Yy (m L K R:Nat):Layout:=⟨m,L,K,R,0,L,L+m,L+2*m,L+3*m,L+3*m+1,L+3*m+2,L+3*m+3,L+3*m+4,(L+3*m+4+K*(R+2):Nat)⟩
def vw (w:WorkerWorker):Vw :=
  if w.at_=0 then .take w.pop.part.at_.toNat w.pop.part.b w.pop.part.t w.pop.part.x w.pop.part.got
  else if w.at_=1 then .steal w.steal.part.w.toNat w.steal.part.at_.toNat w.steal.part.t w.steal.part.x
  else if w.at_=13 then .up w.u w.v
  else if w.at_=14 then .put w.u w.v w.put.part.at_.toNat w.put.part.b w.put.part.t
  else if (4≤w.at_∧w.at_≤18)∨w.at_=22 then .hold w.u else .idle
def cF (m L:Nat)(l:List Int)(v:Nat):Int:=if v<m then l.getD (L+2*m+v) 0 else 0
def cT (m L R:Nat)(l:List Int)(k:Nat):Int:=l.getD (Yi m L R k) 0
def cB (m L R:Nat)(l:List Int)(k:Nat):Int:=l.getD (Yi m L R k+1) 0
def cS (m L R:Nat)(l:List Int)(k q:Nat):Int:=if q<R then l.getD (Yi m L R k+2+q) 0 else 0
def Xa (m L R:Nat)(l:List Int)(ws:List WorkerWorker):AS:=⟨cF m L l,cT m L R l,cB m L R l,cS m L R l,fun k=>vw (ws.getD k default)⟩
section
variable {m L R k : Nat} {l : List Int} {x : Int}
theorem Ki {a:Nat}(h1:a<L+3*m+4)(h2:a<L+2*m∨L+3*m≤a):cF m L (l.set a x)=cF m L l∧cT m L R (l.set a x)=cT m L R l∧cB m L R (l.set a x)=cB m L R l∧cS m L R (l.set a x)=cS m L R l:=by
 refine ⟨funext fun v=>?_,funext fun k=>?_,funext fun k=>?_,funext fun k=>funext fun q=>?_⟩
 ·
  unfold cF;split
  ·rw [Xw (by omega)]
  ·rfl
 ·unfold cT;rw [Xw (by unfold Yi;omega)]
 ·unfold cB;rw [Xw (by unfold Yi;omega)]
 ·
  unfold cS;split
  ·rw [Xw (by unfold Yi;omega)]
  ·rfl
theorem set_F {v:Nat}(hv:v<m)(hl:L+2*m+v<l.length):cF m L (l.set (L+2*m+v) x)=upd (cF m L l) v x∧cT m L R (l.set (L+2*m+v) x)=cT m L R l∧cB m L R (l.set (L+2*m+v) x)=cB m L R l∧cS m L R (l.set (L+2*m+v) x)=cS m L R l:=by
 refine ⟨funext fun u=>?_,funext fun k=>?_,funext fun k=>?_,funext fun k=>funext fun q=>?_⟩
 ·
  unfold upd
  by_cases hu:u=v
  ·subst hu;rw [if_pos rfl];unfold cF;rw [if_pos hv,Rq hl]
  ·
   rw [if_neg hu];unfold cF;split
   ·rw [Xw (by omega)]
   ·rfl
 ·unfold cT;rw [Xw (by unfold Yi;omega)]
 ·unfold cB;rw [Xw (by unfold Yi;omega)]
 ·
  unfold cS;split
  ·rw [Xw (by unfold Yi;omega)]
  ·rfl
theorem set_T (hl:Yi m L R k<l.length):cF m L (l.set (Yi m L R k) x)=cF m L l∧cT m L R (l.set (Yi m L R k) x)=upd (cT m L R l) k x∧cB m L R (l.set (Yi m L R k) x)=cB m L R l∧cS m L R (l.set (Yi m L R k) x)=cS m L R l:=by
 refine ⟨funext fun u=>?_,funext fun j=>?_,funext fun j=>?_,funext fun j=>funext fun q=>?_⟩
 ·
  unfold cF;split
  ·rw [Xw (by unfold Yi;omega)]
  ·rfl
 ·
  unfold upd
  by_cases hj:j=k
  ·subst hj;rw [if_pos rfl];unfold cT;rw [Rq hl]
  ·rw [if_neg hj];unfold cT;rw [Xw (fun e=>hj (Rw (p:=0) (q:=0) (by omega) (by omega) (by omega:Yi m L R j+0=Yi m L R k+0)).1)]
 ·unfold cB;rw [Xw (fun e=>by have:=(Rw (p:=0) (q:=1) (by omega) (by omega) (by omega:Yi m L R k+0=Yi m L R j+1)).2;omega)]
 ·
  unfold cS;split
  ·rw [Xw (fun e=>by have:=(Rw (p:=0) (q:=2+q) (by omega) (by omega) (by omega:Yi m L R k+0=Yi m L R j+(2+q))).2;omega)]
  ·rfl
theorem Z20 (hl:Yi m L R k+1<l.length):cF m L (l.set (Yi m L R k+1) x)=cF m L l∧cT m L R (l.set (Yi m L R k+1) x)=cT m L R l∧cB m L R (l.set (Yi m L R k+1) x)=upd (cB m L R l) k x∧cS m L R (l.set (Yi m L R k+1) x)=cS m L R l:=by
 refine ⟨funext fun u=>?_,funext fun j=>?_,funext fun j=>?_,funext fun j=>funext fun q=>?_⟩
 ·
  unfold cF;split
  ·rw [Xw (by unfold Yi;omega)]
  ·rfl
 ·unfold cT;rw [Xw (fun e=>by have:=(Rw (p:=1) (q:=0) (by omega) (by omega) (by omega:Yi m L R k+1=Yi m L R j+0)).2;omega)]
 ·
  unfold upd
  by_cases hj:j=k
  ·subst hj;rw [if_pos rfl];unfold cB;rw [Rq hl]
  ·rw [if_neg hj];unfold cB;rw [Xw (fun e=>hj (Rw (p:=1) (q:=1) (by omega) (by omega) e.symm).1)]
 ·
  unfold cS;split
  ·rw [Xw (fun e=>by have:=(Rw (p:=1) (q:=2+q) (by omega) (by omega) (by omega:Yi m L R k+1=Yi m L R j+(2+q))).2;omega)]
  ·rfl
theorem set_S {s:Nat}(hs:s<R)(hl:Yi m L R k+2+s<l.length):cF m L (l.set (Yi m L R k+2+s) x)=cF m L l∧cT m L R (l.set (Yi m L R k+2+s) x)=cT m L R l∧cB m L R (l.set (Yi m L R k+2+s) x)=cB m L R l∧cS m L R (l.set (Yi m L R k+2+s) x)=upd (cS m L R l) k (upd (cS m L R l k) s x):=by
 refine ⟨funext fun u=>?_,funext fun j=>?_,funext fun j=>?_,funext fun j=>funext fun q=>?_⟩
 ·
  unfold cF;split
  ·rw [Xw (by unfold Yi;omega)]
  ·rfl
 ·unfold cT;rw [Xw (fun e=>by have:=(Rw (p:=2+s) (q:=0) (by omega) (by omega) (by omega:Yi m L R k+(2+s)=Yi m L R j+0)).2;omega)]
 ·unfold cB;rw [Xw (fun e=>by have:=(Rw (p:=2+s) (q:=1) (by omega) (by omega) (by omega:Yi m L R k+(2+s)=Yi m L R j+1)).2;omega)]
 ·
  unfold upd
  by_cases hj:j=k
  ·
   subst hj
   rw [if_pos rfl]
   by_cases hq:q=s
   ·subst hq;rw [if_pos rfl];unfold cS;rw [if_pos hs,Rq hl]
   ·
    rw [if_neg hq];unfold cS;split
    ·rw [Xw (by omega)]
    ·rfl
  ·
   rw [if_neg hj];unfold cS;split
   ·rw [Xw (fun e=>hj (Rw (p:=2+s) (q:=2+q) (by omega) (by omega) (by omega:Yi m L R k+(2+s)=Yi m L R j+(2+q))).1.symm)]
   ·rfl
theorem conc_V {ws:List WorkerWorker}{w:WorkerWorker}(hk:k<ws.length):(fun j=>vw ((ws.set k w).getD j default))=upd (fun j=>vw (ws.getD j default)) k (vw w):=by
 funext j
 unfold upd
 by_cases hj:j=k
 ·subst hj;rw [if_pos rfl,Rq hk]
 ·rw [if_neg hj,Xw (fun e=>hj e.symm)]
end
end Go.Acq
namespace Go.Acq
open Go
structure Dm (m L K R:Nat):Prop where
  hm:2≤m∧m≤7
  hL:L≤28
  hK:1≤K∧K≤5
  hR:m≤R∧R≤8
  pow:∃ e,R=2^e
theorem band_mod {R e:Nat}(hR:R=2^e)(h8:R≤8)(h1:1≤R){x:Nat}(hx:x<4611686018427387904):band .i64 (x:Int) ((R:Int)-1)=((x%R:Nat):Int):=by
 have h2:(BitVec.ofInt 64 (x:Int) &&& BitVec.ofInt 64 ((R:Int)-1)).toNat=x%R:=by
  rw [show ((R:Int)-1)=((R-1:Nat):Int) by omega,BitVec.toNat_and,BitVec.ofInt_natCast,BitVec.ofInt_natCast,BitVec.toNat_ofNat,BitVec.toNat_ofNat,Nat.mod_eq_of_lt (show x<2^64 by omega),Nat.mod_eq_of_lt (show R-1<2^64 by omega),hR,Nat.and_two_pow_sub_one_eq_mod]
 unfold band
 have e:IntKind.bits .i64=64:=rfl
 have hlt:x%R<R:=Nat.mod_lt _ h1
 rw [e,Nf (by omega) (by omega),h2]
section
variable {m L K R k : Nat}
theorem Dm.off (d:Dm m L K R)(hk:k<K):k*(R+2)≤40:=by
 have h1:=d.hK
 have h2:=d.hR
 exact Nat.le_trans (Nat.mul_le_mul (show k≤4 by omega) (show R+2≤10 by omega)) (by omega)
theorem Z0h (d:Dm m L K R)(hk:k<K):Jk (Yy m L K R) (k:Int)=some ((Yi m L R k:Nat):Int):=by
 have ho:=d.off hk
 have h1:=d.hm
 have h2:=d.hR
 have h3:=d.hL
 have e:(k:Int)*((R:Int)+2)=((k*(R+2):Nat):Int):=by rw [Int.natCast_mul,Int.natCast_add];rfl
 unfold Jk Yy
 simp only
 rw [e,Xb ⟨by omega,by omega⟩,Xb ⟨by omega,by omega⟩,Xb ⟨by omega,by omega⟩]
 congr 1
theorem Zg3 (d:Dm m L K R)(hk:k<K):Yi m L R k≤100:=by
 have ho:=d.off hk
 have h1:=d.hm
 have h3:=d.hL
 unfold Yi;omega
theorem Nx (d:Dm m L K R)(hk:k<K):Kl (Yy m L K R) (k:Int)=some ((Yi m L R k+1:Nat):Int):=by
 have:=Zg3 d hk
 unfold Kl
 rw [Z0h d hk,Option.bind_some,Xb ⟨by omega,by omega⟩]
 rfl
theorem Z4n (d:Dm m L K R)(hk:k<K){a:Int}(h0:0≤a)(h1:a<4611686018427387904):Gk (Yy m L K R) (k:Int) a=some ((Yi m L R k+2+a.toNat%R:Nat):Int):=by
 have:=Zg3 d hk
 obtain ⟨e,he⟩:=d.pow
 have h2:=d.hR
 have h3:=d.hm
 have hb:=band_mod he h2.2 (by omega) (x:=a.toNat) (by omega)
 rw [show ((a.toNat:Nat):Int)=a by omega] at hb
 have hlt:a.toNat%R<R:=Nat.mod_lt _ (by omega)
 unfold Gk
 rw [Z0h d hk,Option.bind_some,Xb ⟨by omega,by omega⟩]
 have hr:(Yy m L K R).Room=R:=rfl
 rw [hr,Xb ⟨by omega,by omega⟩,hb,Xb ⟨by omega,by omega⟩]
 congr 1
end
def Xe (m:Nat)(c:Csr)(v:Int):Prop:=0≤v∧v<m∧v≠c.S∧v≠c.T
structure Wv (c:Csr)(m L K R:Nat)(t:Int)(k:Nat)(w:WorkerWorker):Prop where
  hc:w.c=c
  hl:w.l=Yy m L K R
  hid:w.id=k
  hlim:1≤w.limit
  hlifts:0≤w.lifts∧w.lifts≤t
  hat:0≤w.at_∧w.at_≤25
  hlow:0≤w.low∧w.low≤m
  hfrom:0≤w.from_∧w.from_≤K
  hu:(4≤w.at_∧w.at_≤20)∨w.at_=22→Xe m c w.u
  hv:12≤w.at_∧w.at_≤14→Xe m c w.v
  ha:w.at_=6∨w.at_=7→∃ a u:Nat,w.a=a∧w.u=u∧fs c u≤a∧a<fs c (u+1)
  htg:6≤w.at_∧w.at_≤11→w.target=-1∧w.at_≤7∨∃ g:Nat,w.target=g∧g<L
  hholds:w.holds=true↔(4≤w.at_∧w.at_≤18)∨w.at_=22
  hwakes:w.wakes=true↔w.at_=13∨w.at_=14
  htake:w.at_=0→w.pop.part.l=Yy m L K R∧w.pop.part.w=k∧0≤w.pop.part.at_∧w.pop.part.at_≤5∧w.pop.part.done=false∧(w.pop.part.at_≠5→w.pop.part.got=false)
  hsteal:w.at_=1→w.steal.part.l=Yy m L K R∧0≤w.steal.part.w∧w.steal.part.w<K∧0≤w.steal.part.at_∧w.steal.part.at_≤3∧w.steal.part.done=false∧w.from_<K
  hput:w.at_=14→w.put.part.l=Yy m L K R∧w.put.part.w=k∧w.put.v=w.v∧0≤w.put.part.at_∧w.put.part.at_≤3∧w.put.part.done=false
  harr:w.at_=24→w.arrive.l=Yy m L K R∧0≤w.arrive.next∧w.arrive.next≤4
structure Bv (m L K R:Nat)(t:Int)(l:List Int):Prop where
  len:l.length=L+3*m+4+K*(R+2)
  hh:∀ v,v<m→0≤l.getD (L+m+v) 0∧l.getD (L+m+v) 0≤m
  bot:∀ k,k<K→-t-8≤cB m L R l k∧cB m L R l k≤t+8
  top:∀ k,k<K→0≤cT m L R l k∧cT m L R l k≤t+8
structure Gi (c:Csr)(m L K R:Nat)(t:Int)(l:List Int)(ws:List WorkerWorker):Prop where
  bv:Bv m L K R t l
  n:ws.length=K
  wv:∀ k,k<K→Wv c m L K R t k (ws.getD k default)
  ai:AI (Xe m c) K R (Xa m L R l ws)
end Go.Acq
namespace Go.Acq
open Go
section
variable {c : Csr} {m L K R k : Nat} {t : Int} {l l' : List Int} {ws : List WorkerWorker} {w w' : WorkerWorker}
theorem Wv.up (h:Wv c m L K R t k w):Wv c m L K R (t+1) k w:=⟨h.hc,h.hl,h.hid,h.hlim,by have:=h.hlifts;omega,h.hat,h.hlow,h.hfrom,h.hu,h.hv,h.ha,h.htg,h.hholds,h.hwakes,h.htake,h.hsteal,h.hput,h.harr⟩
structure Brings (c:Csr)(m L K R:Nat)(t:Int)(k:Nat)(l l':List Int)(ws:List WorkerWorker)(w':WorkerWorker)(σ':AS):Prop where
  wv:Wv c m L K R (t+1) k w'
  len:l'.length=l.length
  hh:∀ v,v<m→0≤l'.getD (L+m+v) 0∧l'.getD (L+m+v) 0≤m
  F:cF m L l'=σ'.F
  T:cT m L R l'=σ'.T
  B:cB m L R l'=σ'.B
  S:cS m L R l'=σ'.S
  V:upd (fun j=>vw (ws.getD j default)) k (vw w')=σ'.V
  ai:AI (Xe m c) K R σ'
  bot:-(t+1)-8≤σ'.B k∧σ'.B k≤t+1+8
  bot':∀ j,j≠k→σ'.B j=cB m L R l j
  top:∀ j,j<K→0≤σ'.T j∧σ'.T j≤cT m L R l j+1
theorem Gi.step (g:Gi c m L K R t l ws)(hk:k<K){σ':AS}(b:Brings c m L K R t k l l' ws w' σ'):Gi c m L K R (t+1) l' (ws.set k w'):=by
 have hc:Xa m L R l' (ws.set k w')=σ':=by
  unfold Xa
  rw [conc_V (by rw [g.n];exact hk),b.F,b.T,b.B,b.S,b.V]
 refine ⟨⟨by rw [b.len];exact g.bv.len,b.hh,fun j hj=>?_,fun j hj=>?_⟩,by rw [List.length_set];exact g.n,fun j hj=>?_,by rw [hc];exact b.ai⟩
 ·
  rw [b.B]
  by_cases h:j=k
  ·subst h;exact b.bot
  ·rw [b.bot' j h];have:=g.bv.bot j hj;omega
 ·rw [b.T];have:=b.top j hj;have:=g.bv.top j hj;omega
 ·
  by_cases h:j=k
  ·subst h;rw [Rq (by rw [g.n];exact hj)];exact b.wv
  ·rw [Xw (fun e=>h e.symm)];exact (g.wv j hj).up
theorem Gi.same (g:Gi c m L K R t l ws)(hk:k<K)(hw:Wv c m L K R (t+1) k w')(hlen:l'.length=l.length)(hh:∀ v,v<m→0≤l'.getD (L+m+v) 0∧l'.getD (L+m+v) 0≤m)
    (h:cF m L l'=cF m L l∧cT m L R l'=cT m L R l∧cB m L R l'=cB m L R l∧cS m L R l'=cS m L R l)(hv:vw w'=vw (ws.getD k default)):Gi c m L K R (t+1) l' (ws.set k w') :=
  g.step hk (σ':=Xa m L R l ws) ⟨hw,hlen,hh,h.1,h.2.1,h.2.2.1,h.2.2.2,by
    funext j
    unfold upd Xa
    simp only
    split
    ·rename_i e;rw [e,hv]
    ·rfl,g.ai,by have:=g.bv.bot k hk;show -(t+1)-8≤cB m L R l k∧_;show _∧cB m L R l k≤_;omega,fun _ _=>rfl,fun j hj=>by have:=g.bv.top j hj;show 0≤cT m L R l j∧cT m L R l j≤_;omega⟩
theorem Gi.goes (g:Gi c m L K R t l ws)(hk:k<K){B':Int}(hw:Wv c m L K R (t+1) k w')(hlen:l'.length=l.length)(hh:∀ v,v<m→0≤l'.getD (L+m+v) 0∧l'.getD (L+m+v) 0≤m)
    (h:cF m L l'=cF m L l∧cT m L R l'=cT m L R l∧cB m L R l'=upd (cB m L R l) k B'∧cS m L R l'=cS m L R l)(hB:-(t+1)-8≤B'∧B'≤t+1+8)
    (h1:(vw w').held=(vw (ws.getD k default)).held)(h2:(vw w').woken=(vw (ws.getD k default)).woken)(h3:(vw w').popped=(vw (ws.getD k default)).popped)(h4:Wx B' (vw w')=(Xa m L R l ws).E k)
    (h5:∀ j,j<K→j≠k→∀ y,(vw w').thief j=some y→(vw (ws.getD k default)).thief j=some y∨y<cB m L R l j)(h6:Yw K R ((Xa m L R l ws).go k B' (vw w')) k (vw w')):Gi c m L K R (t+1) l' (ws.set k w') :=
  g.step hk (σ':=(Xa m L R l ws).go k B' (vw w')) ⟨hw,hlen,hh,h.1,h.2.1,h.2.2.1,h.2.2.2,rfl,g.ai.go hk h1 h2 h3 h4 h5 h6,by rw [Jo];exact hB,fun j hj=>Gw hj,fun j hj=>by have:=g.bv.top j hj;show 0≤cT m L R l j∧cT m L R l j≤_;omega⟩
theorem Z34 {α:Type}(f:Nat→α)(k:Nat):upd f k (f k)=f:=by
 funext j;unfold upd;split
 ·rename_i e;rw [e]
 ·rfl
theorem Zg9 (hl:w.l=Yy m L K R)(hlen:l.length=L+3*m+4+K*(R+2))(a:CountAsked)(ha:a.o.done=false) :
    Z1o a w.l ⟨l⟩=some (true,⟨⟨true,decide (l.getD (L+3*m+1) 0≠0)⟩⟩):=by
  unfold Z1o Z6y Zb4
  rw [hl,Uu (q:=L+3*m+1) (by unfold Yy;simp) (by omega),ha]
  rfl
theorem p_look (g:Gi c m L K R t l ws)(d:Dm m L K R)(hk:k<K)(ha:(ws.getD k default).at_=2):Ok (Xf (ws.getD k default) ⟨l⟩) (fun r=>Gi c m L K R (t+1) r.2.2.l (ws.set k r.2.1)):=by
 have h:=g.wv k hk
 have hlen:=g.bv.len
 have hs:=fun w' (hw:Wv c m L K R (t+1) k w') hv=>g.same hk (l':=l) hw rfl g.bv.hh ⟨rfl,rfl,rfl,rfl⟩ hv
 generalize hw:ws.getD k default=w at *
 have hl:=h.hl
 have hlim:=h.hlim
 have hvw:vw w=.idle:=by unfold vw;simp [ha]
 unfold Xf Xm Wp
 have hl0:decide (w.limit=0)=false:=by simp;omega
 simp only [ha,hl0,Bool.false_eq_true,if_false,if_true,Option.bind_some,Int.reduceEq,decide_false]
 unfold Z7z Z2a
 simp only [Option.bind_some]
 rw [show w.l=({ w with has:=false }:WorkerWorker).l from rfl,Zg9 (w:={ w with has:=false }) hl hlen _ rfl]
 simp only [Option.bind_some,Z2h,Z0a,Z2x]
 obtain ⟨h1,h2,h3,h4,h5,h6,h7,h8,h9,h10,h11,h12,h13,h14,h15,h16,h17,h18⟩:=h
 have hho:w.holds=false:=by
  cases e:w.holds with
  | false=>rfl
  | true=>have:=h13.1 e;omega
 have hwa:w.wakes=false:=by
  cases e:w.wakes with
  | false=>rfl
  | true=>have:=h14.1 e;omega
 by_cases hq:l.getD (L+3*m+1) 0≠0
 ·
  rw [if_pos (decide_eq_true hq)]
  simp only [Option.bind_some,hl0,Bool.false_eq_true,if_false]
  refine Ok.some.2 (hs _ ?_ ?_)
  ·constructor <;> first | assumption | (simp only [hho,hwa];omega) | (simp [hho,hwa,h2];done) | (simp [hho,hwa,h2];omega)
  ·rw [hvw];unfold vw;simp
 ·
  rw [if_neg (by simpa using hq)]
  simp only [Option.bind_some,hl0,Bool.false_eq_true,if_false]
  refine Ok.some.2 (hs _ ?_ ?_)
  ·constructor <;> first | assumption | (simp only [hho,hwa];omega) | (simp [hho,hwa,h2];done) | (simp [hho,hwa,h2];omega)
  ·rw [hvw];unfold vw;simp
theorem Gi.take0 (g:Gi c m L K R t l ws)(hk:k<K)(hw:Wv c m L K R (t+1) k w')(hlen:l'.length=l.length)(hh:∀ v,v<m→0≤l'.getD (L+m+v) 0∧l'.getD (L+m+v) 0≤m)
    (h:cF m L l'=cF m L l∧cT m L R l'=cT m L R l∧cB m L R l'=cB m L R l∧cS m L R l'=cS m L R l)(hv:vw (ws.getD k default)=.idle)(hv':∃ b t x,vw w'=.take 0 b t x false):Gi c m L K R (t+1) l' (ws.set k w'):=by
  obtain ⟨b,t',x,hv'⟩:=hv'
  have hb:=g.bv.bot k hk
  refine g.goes hk (B':=cB m L R l k) hw hlen hh ⟨h.1,h.2.1,by rw [Z34];exact h.2.2.1,h.2.2.2⟩ ⟨by omega,by omega⟩ ?_ ?_ ?_ ?_ ?_ ?_
  ·rw [hv,hv'];rfl
  ·rw [hv,hv'];rfl
  ·rw [hv,hv'];simp [Vw.popped]
  ·rw [hv'];unfold AS.E Wx Xa;simp only [hv];simp
  ·rw [hv'];intro j _ _ y hy;cases hy
  ·rw [hv'];simp [Yw]
theorem s_Zero (hl:w.l=Yy m L K R)(hlen:l.length=L+3*m+4+K*(R+2))(a:CountZero)(ha:a.o.done=false) :
    Z5t a w.l ⟨l⟩=some (true,⟨⟨true,decide (l.getD (L+3*m) 0=0)⟩⟩):=by
  unfold Z5t Z97 Z6z
  rw [hl,Uu (q:=L+3*m) (by unfold Yy;simp) (by omega),ha]
  rfl
theorem s_Down (hl:w.l=Yy m L K R)(hlen:l.length=L+3*m+4+K*(R+2)):∃ x,Z3k w ⟨l⟩=some ⟨l.set (L+3*m) x⟩:=by
 obtain ⟨x,hx⟩:=Gx (l:=l) (i:=w.l.Pending) (d:=-1) (q:=L+3*m) (by rw [hl];unfold Yy;simp) (by omega)
 refine ⟨x,?_⟩
 unfold Z3k Z8u Z2t Z9g Zav Z21
 simp only [Option.bind_some,hx]
 rfl
theorem p_rest (g:Gi c m L K R t l ws)(d:Dm m L K R)(hk:k<K)(ha:(ws.getD k default).at_=3):Ok (Xf (ws.getD k default) ⟨l⟩) (fun r=>Gi c m L K R (t+1) r.2.2.l (ws.set k r.2.1)):=by
 have h:=g.wv k hk
 have hlen:=g.bv.len
 have hbh:=g.bv.hh
 have hs:=fun w' l' (hw:Wv c m L K R (t+1) k w') e1 e2 e3 hv=>g.same hk (l':=l') hw e1 e2 e3 hv
 have h0:=fun w' l' (hw:Wv c m L K R (t+1) k w') e1 e2 e3 e4 e5=>g.take0 hk (l':=l') hw e1 e2 e3 e4 e5
 generalize hw:ws.getD k default=w at *
 have hl:=h.hl
 have hlim:=h.hlim
 have hvw:vw w=.idle:=by unfold vw;simp [ha]
 have hl0:decide (w.limit=0)=false:=by simp;omega
 obtain ⟨h1,h2,h3,h4,h5,h6,h7,h8,h9,h10,h11,h12,h13,h14,h15,h16,h17,h18⟩:=h
 have hho:w.holds=false:=by
  cases e:w.holds with
  | false=>rfl
  | true=>have:=h13.1 e;omega
 have hwa:w.wakes=false:=by
  cases e:w.wakes with
  | false=>rfl
  | true=>have:=h14.1 e;omega
 unfold Xf Xm Wp
 simp only [ha,hl0,Bool.false_eq_true,if_false,if_true,Option.bind_some,Int.reduceEq,decide_false]
 unfold Z95 Z8i
 simp only [Option.bind_some]
 rw [show w.l=({ w with has:=false }:WorkerWorker).l from rfl,s_Zero (w:={ w with has:=false }) hl hlen _ rfl]
 simp only [Option.bind_some,Z9p,Z0a,Z2x,Z0o,Z3i]
 by_cases hq:l.getD (L+3*m) 0=0
 ·
  rw [if_pos (decide_eq_true hq)]
  simp only [Option.bind_some,hl0,Bool.false_eq_true,if_false]
  refine Ok.some.2 (hs _ l ?_ rfl hbh ⟨rfl,rfl,rfl,rfl⟩ ?_)
  ·constructor <;> first | assumption | (simp only [hho,hwa];omega) | (simp [hho,hwa,h2,h3];done) | (simp [hho,hwa,h2,h3];omega)
  ·rw [hvw];unfold vw;simp
 ·
  rw [if_neg (by simpa using hq)]
  simp only [Option.bind_some,hl0,Bool.false_eq_true,if_false]
  refine Ok.some.2 (h0 _ l ?_ rfl hbh ⟨rfl,rfl,rfl,rfl⟩ hvw ?_)
  ·constructor <;> first | assumption | (simp only [hho,hwa];omega) | (simp [hho,hwa,h2,h3];done) | (simp [hho,hwa,h2,h3];omega)
  ·unfold vw;simp
theorem p_down (g:Gi c m L K R t l ws)(d:Dm m L K R)(hk:k<K)(ha:(ws.getD k default).at_=21):Ok (Xf (ws.getD k default) ⟨l⟩) (fun r=>Gi c m L K R (t+1) r.2.2.l (ws.set k r.2.1)):=by
 have h:=g.wv k hk
 have hlen:=g.bv.len
 have hbh:=g.bv.hh
 have hs:=fun w' l' (hw:Wv c m L K R (t+1) k w') e1 e2 e3 hv=>g.same hk (l':=l') hw e1 e2 e3 hv
 have h0:=fun w' l' (hw:Wv c m L K R (t+1) k w') e1 e2 e3 e4 e5=>g.take0 hk (l':=l') hw e1 e2 e3 e4 e5
 generalize hw:ws.getD k default=w at *
 have hl:=h.hl
 have hlim:=h.hlim
 have hvw:vw w=.idle:=by unfold vw;simp [ha]
 have hl0:decide (w.limit=0)=false:=by simp;omega
 obtain ⟨h1,h2,h3,h4,h5,h6,h7,h8,h9,h10,h11,h12,h13,h14,h15,h16,h17,h18⟩:=h
 have hho:w.holds=false:=by
  cases e:w.holds with
  | false=>rfl
  | true=>have:=h13.1 e;omega
 have hwa:w.wakes=false:=by
  cases e:w.wakes with
  | false=>rfl
  | true=>have:=h14.1 e;omega
 unfold Xf Xm Wp
 simp only [ha,hl0,Bool.false_eq_true,if_false,if_true,Option.bind_some,Int.reduceEq,decide_false]
 obtain ⟨x,hx⟩:=s_Down (w:={ w with at_:=21,has:=false }) (l:=l) hl hlen
 unfold Zaz
 simp only [hx,Option.bind_some,Z0o,Z3i,hl0,Bool.false_eq_true,if_false]
 refine Ok.some.2 (h0 _ (l.set (L+3*m) x) ?_ (by rw [List.length_set]) (fun v hv=>by rw [Xw (by omega)];exact hbh v hv) (Ki (by omega) (by omega)) hvw ?_)
 ·constructor <;> first | assumption | (simp only [hho,hwa];omega) | (simp [hho,hwa,h2,h3];done) | (simp [hho,hwa,h2,h3];omega)
 ·unfold vw;simp
theorem p_fall (g:Gi c m L K R t l ws)(d:Dm m L K R)(hk:k<K)(ha:(ws.getD k default).at_=23):Ok (Xf (ws.getD k default) ⟨l⟩) (fun r=>Gi c m L K R (t+1) r.2.2.l (ws.set k r.2.1)):=by
 have h:=g.wv k hk
 have hlen:=g.bv.len
 have hbh:=g.bv.hh
 have hs:=fun w' l' (hw:Wv c m L K R (t+1) k w') e1 e2 e3 hv=>g.same hk (l':=l') hw e1 e2 e3 hv
 have h0:=fun w' l' (hw:Wv c m L K R (t+1) k w') e1 e2 e3 e4 e5=>g.take0 hk (l':=l') hw e1 e2 e3 e4 e5
 generalize hw:ws.getD k default=w at *
 have hl:=h.hl
 have hlim:=h.hlim
 have hvw:vw w=.idle:=by unfold vw;simp [ha]
 have hl0:decide (w.limit=0)=false:=by simp;omega
 obtain ⟨h1,h2,h3,h4,h5,h6,h7,h8,h9,h10,h11,h12,h13,h14,h15,h16,h17,h18⟩:=h
 have hho:w.holds=false:=by
  cases e:w.holds with
  | false=>rfl
  | true=>have:=h13.1 e;omega
 have hwa:w.wakes=false:=by
  cases e:w.wakes with
  | false=>rfl
  | true=>have:=h14.1 e;omega
 unfold Xf Xm Wp
 simp only [ha,hl0,Bool.false_eq_true,if_false,if_true,Option.bind_some,Int.reduceEq,decide_false]
 obtain ⟨x,hx⟩:=s_Down (w:={ w with at_:=23,has:=false }) (l:=l) hl hlen
 unfold Zak
 simp only [hx,Option.bind_some,Z0a,Z2x,hl0,Bool.false_eq_true,if_false]
 refine Ok.some.2 (hs _ (l.set (L+3*m) x) ?_ (by rw [List.length_set]) (fun v hv=>by rw [Xw (by omega)];exact hbh v hv) (Ki (by omega) (by omega)) ?_)
 ·constructor <;> first | assumption | (simp only [hho,hwa];omega) | (simp [hho,hwa,h2,h3];done) | (simp [hho,hwa,h2,h3];omega)
 ·rw [hvw];unfold vw;simp
theorem p_again (g:Gi c m L K R t l ws)(d:Dm m L K R)(hk:k<K)(ha:(ws.getD k default).at_=19):Ok (Xf (ws.getD k default) ⟨l⟩) (fun r=>Gi c m L K R (t+1) r.2.2.l (ws.set k r.2.1)):=by
 have h:=g.wv k hk
 have hlen:=g.bv.len
 have hbh:=g.bv.hh
 have hdm:=d.hm
 have hdL:=d.hL
 have hs:=fun w' l' (hw:Wv c m L K R (t+1) k w') e1 e2 e3 hv=>g.same hk (l':=l') hw e1 e2 e3 hv
 generalize hw:ws.getD k default=w at *
 have hl:=h.hl
 have hlim:=h.hlim
 have hl0:decide (w.limit=0)=false:=by simp;omega
 obtain ⟨h1,h2,h3,h4,h5,h6,h7,h8,h9,h10,h11,h12,h13,h14,h15,h16,h17,h18⟩:=h
 have hho:w.holds=false:=by
  cases e:w.holds with
  | false=>rfl
  | true=>have:=h13.1 e;omega
 have hwa:w.wakes=false:=by
  cases e:w.wakes with
  | false=>rfl
  | true=>have:=h14.1 e;omega
 have hvw:vw w=.idle:=by unfold vw;simp [ha]
 have hU:Xe m c w.u:=h9 (by omega)
 obtain ⟨un,hun⟩:∃ un:Nat,w.u=un:=⟨w.u.toNat,by have:=hU.1;omega⟩
 have hum:un<m:=by have:=hU.2.1;omega
 unfold Xf Xm Wp
 simp only [ha,hl0,Bool.false_eq_true,if_false,if_true,Option.bind_some,Int.reduceEq,decide_false]
 unfold Z9i Jg
 rw [Xb (by constructor <;> simp only [hl,Yy,hun] <;> omega),Uu (q:=L+un) (by simp only [hl,Yy,hun];omega) (by omega),Option.bind_some]
 by_cases c1:0<l.getD (L+un) 0
 ·
  rw [if_pos c1]
  by_cases c2:w.h<w.c.N
  ·
   rw [if_pos (decide_eq_true c2)]
   ·
    simp only [Option.bind_some,hl0,Bool.false_eq_true,if_false,if_true,Int.reduceEq,decide_false]
    refine Ok.some.2 (hs _ l ?_ rfl hbh ⟨rfl,rfl,rfl,rfl⟩ ?_)
    ·constructor <;> first | assumption | (simp only [hho,hwa];omega) | (simp [hho,hwa,h2,h3,hU];done) | (simp [hho,hwa,h2,h3];omega)
    ·rw [hvw];unfold vw;simp
  ·
   rw [if_neg (by simpa using c2)]
   ·
    simp only [Option.bind_some,hl0,Bool.false_eq_true,if_false,if_true,Int.reduceEq,decide_false]
    refine Ok.some.2 (hs _ l ?_ rfl hbh ⟨rfl,rfl,rfl,rfl⟩ ?_)
    ·constructor <;> first | assumption | (simp only [hho,hwa];omega) | (simp [hho,hwa,h2,h3,hU];done) | (simp [hho,hwa,h2,h3];omega)
    ·rw [hvw];unfold vw;simp
 ·
  rw [if_neg c1]
  ·
   simp only [Option.bind_some,hl0,Bool.false_eq_true,if_false,if_true,Int.reduceEq,decide_false]
   refine Ok.some.2 (hs _ l ?_ rfl hbh ⟨rfl,rfl,rfl,rfl⟩ ?_)
   ·constructor <;> first | assumption | (simp only [hho,hwa];omega) | (simp [hho,hwa,h2,h3,hU];done) | (simp [hho,hwa,h2,h3];omega)
   ·rw [hvw];unfold vw;simp
theorem p_height (g:Gi c m L K R t l ws)(d:Dm m L K R)(hk:k<K)(ha:(ws.getD k default).at_=4):Ok (Xf (ws.getD k default) ⟨l⟩) (fun r=>Gi c m L K R (t+1) r.2.2.l (ws.set k r.2.1)):=by
 have h:=g.wv k hk
 have hlen:=g.bv.len
 have hbh:=g.bv.hh
 have hdm:=d.hm
 have hdL:=d.hL
 have hs:=fun w' l' (hw:Wv c m L K R (t+1) k w') e1 e2 e3 hv=>g.same hk (l':=l') hw e1 e2 e3 hv
 generalize hw:ws.getD k default=w at *
 have hl:=h.hl
 have hlim:=h.hlim
 have hl0:decide (w.limit=0)=false:=by simp;omega
 obtain ⟨h1,h2,h3,h4,h5,h6,h7,h8,h9,h10,h11,h12,h13,h14,h15,h16,h17,h18⟩:=h
 have hho:w.holds=true:=h13.2 (by omega)
 have hwa:w.wakes=false:=by
  cases e:w.wakes with
  | false=>rfl
  | true=>have:=h14.1 e;omega
 have hvw:vw w=.hold w.u:=by unfold vw;simp [ha]
 have hU:Xe m c w.u:=h9 (by omega)
 obtain ⟨un,hun⟩:∃ un:Nat,w.u=un:=⟨w.u.toNat,by have:=hU.1;omega⟩
 have hum:un<m:=by have:=hU.2.1;omega
 unfold Xf Xm Wp
 simp only [ha,hl0,Bool.false_eq_true,if_false,if_true,Option.bind_some,Int.reduceEq,decide_false]
 unfold Z7v Jg
 rw [Xb (by constructor <;> simp only [hl,Yy,hun] <;> omega),Uu (q:=L+m+un) (by simp only [hl,Yy,hun];omega) (by omega),Option.bind_some]
 by_cases c2:w.c.N≤l.getD (L+m+un) 0
 ·
  rw [if_pos (decide_eq_true c2)]
  ·
   simp only [Option.bind_some,hl0,Bool.false_eq_true,if_false,if_true,Int.reduceEq,decide_false]
   refine Ok.some.2 (hs _ l ?_ rfl hbh ⟨rfl,rfl,rfl,rfl⟩ ?_)
   ·constructor <;> first | assumption | (simp only [hho,hwa];omega) | (simp [hho,hwa,h2,h3,hU];done) | (simp [hho,hwa,h2,h3];omega)
   ·rw [hvw];unfold vw;simp
 ·
  rw [if_neg (by simpa using c2)]
  ·
   simp only [Option.bind_some,hl0,Bool.false_eq_true,if_false,if_true,Int.reduceEq,decide_false]
   refine Ok.some.2 (hs _ l ?_ rfl hbh ⟨rfl,rfl,rfl,rfl⟩ ?_)
   ·constructor <;> first | assumption | (simp only [hho,hwa];omega) | (simp [hho,hwa,h2,h3,hU];done) | (simp [hho,hwa,h2,h3];omega)
   ·rw [hvw];unfold vw;simp
end
end Go.Acq
namespace Go.Acq
open Go
section
variable {n : Net} {c : Csr} {m L K R k un : Nat} {t : Int} {l l' : List Int} {ws : List WorkerWorker} {w w' : WorkerWorker}
theorem Zdb (r:Row n m L c)(hc:w.c=c)(hun:w.u=un)(hum:un<m)(hm:m≤7) :
    Z1b w=some (if fs c un=fs c (un+1) then { w with at_:=18,a:=(fs c un:Nat),target:=-1 } else { w with at_:=6,a:=(fs c un:Nat),target:=-1 }):=by
  have hf:=r.first.1
  have hln:=r.lens.1
  unfold Z1b
  rw [hc,hun,Xb (by constructor <;> omega),Xb (by constructor <;> omega),Xb (by constructor <;> omega),Int.toNat_natCast,show ((un:Int)+1).toNat=un+1 by omega,(hf un (by omega)).1,(hf (un+1) (by omega)).1]
  by_cases h:fs c un=fs c (un+1)
  ·rw [if_pos h,if_pos (by omega)]
  ·rw [if_neg h,if_neg (by omega)]
theorem Z8c (r:Row n m L c)(hc:w.c=c)(hun:w.u=un)(hum:un<m)(hm:m≤7){a:Nat}(ha:w.a=a)(ha2:a<L)(hL:L≤28) :
    Z1z w=some (if a+1<fs c (un+1) then { w with at_:=6,a:=(a:Int)+1 } else if w.target<0 then { w with at_:=18,a:=(a:Int)+1 } else if w.low<w.h then { w with at_:=8,a:=(a:Int)+1 } else { w with at_:=15,a:=(a:Int)+1 }):=by
  have hf:=r.first.1
  have hln:=r.lens.1
  unfold Z1z
  rw [hc,hun,ha,Xb (by constructor <;> omega),Xb (by constructor <;> omega),Xb (by constructor <;> omega),show ((un:Int)+1).toNat=un+1 by omega,(hf (un+1) (by omega)).1]
  by_cases h:a+1<fs c (un+1)
  ·rw [if_pos h,if_pos (by omega)]
  · rw [if_neg h, if_neg (by omega)]
    split
    ·rfl
    ·split <;> rfl
theorem p_excess (r:Row n m L c)(g:Gi c m L K R t l ws)(d:Dm m L K R)(hk:k<K)(ha:(ws.getD k default).at_=5):Ok (Xf (ws.getD k default) ⟨l⟩) (fun r=>Gi c m L K R (t+1) r.2.2.l (ws.set k r.2.1)):=by
 have h:=g.wv k hk
 have hlen:=g.bv.len
 have hbh:=g.bv.hh
 have hdm:=d.hm
 have hdL:=d.hL
 have hs:=fun w' l' (hw:Wv c m L K R (t+1) k w') e1 e2 e3 hv=>g.same hk (l':=l') hw e1 e2 e3 hv
 generalize hw:ws.getD k default=w at *
 have hl:=h.hl
 have hlim:=h.hlim
 have hl0:decide (w.limit=0)=false:=by simp;omega
 obtain ⟨h1,h2,h3,h4,h5,h6,h7,h8,h9,h10,h11,h12,h13,h14,h15,h16,h17,h18⟩:=h
 have hho:w.holds=true:=h13.2 (by omega)
 have hwa:w.wakes=false:=by
  cases e:w.wakes with
  | false=>rfl
  | true=>have:=h14.1 e;omega
 have hvw:vw w=.hold w.u:=by unfold vw;simp [ha]
 have hU:Xe m c w.u:=h9 (by omega)
 obtain ⟨un,hun⟩:∃ un:Nat,w.u=un:=⟨w.u.toNat,by have:=hU.1;omega⟩
 have hum:un<m:=by have:=hU.2.1;omega
 unfold Xf Xm Wp
 simp only [ha,hl0,Bool.false_eq_true,if_false,if_true,Option.bind_some,Int.reduceEq,decide_false]
 unfold Zaw
 have hfu:=(r.first.2.2.2 un hum).1
 rw [Xb (by constructor <;> simp only [hl,Yy,hun] <;> omega),Uu (q:=L+un) (by simp only [hl,Yy,hun];omega) (by omega),Option.bind_some]
 by_cases c2:l.getD (L+un) 0≤0
 ·
  rw [if_pos c2]
  ·
   simp only [Option.bind_some,hl0,Bool.false_eq_true,if_false,if_true,Int.reduceEq,decide_false]
   refine Ok.some.2 (hs _ l ?_ rfl hbh ⟨rfl,rfl,rfl,rfl⟩ ?_)
   ·constructor <;> first | assumption | (simp only [hho,hwa];omega) | (simp [hho,hwa,h2,h3,hU];done) | (simp [hho,hwa,h2,h3];omega)
   ·rw [hvw];unfold vw;simp
 ·
  rw [if_neg c2,Zdb (w:={ w with at_:=5,has:=false,e:=l.getD (L+un) 0 }) r h1 hun hum hdm.2]
  by_cases c3:fs c un=fs c (un+1)
  ·
   rw [if_pos c3]
   ·
    simp only [Option.bind_some,hl0,Bool.false_eq_true,if_false,if_true,Int.reduceEq,decide_false]
    refine Ok.some.2 (hs _ l ?_ rfl hbh ⟨rfl,rfl,rfl,rfl⟩ ?_)
    ·constructor <;> first | assumption | (simp only [hho,hwa];omega) | (simp [hho,hwa,h2,h3,hU];done) | (simp [hho,hwa,h2,h3];omega)
    ·rw [hvw];unfold vw;simp
  ·
   rw [if_neg c3]
   ·
    simp only [Option.bind_some,hl0,Bool.false_eq_true,if_false,if_true,Int.reduceEq,decide_false]
    refine Ok.some.2 (hs _ l ?_ rfl hbh ⟨rfl,rfl,rfl,rfl⟩ ?_)
    ·constructor <;> first | assumption | exact fun _=>⟨fs c un,un,rfl,hun,Nat.le_refl _,by omega⟩ | exact fun _=>.inl ⟨rfl,by simp⟩ | (simp only [hho,hwa];omega) | (simp [hho,hwa,h2,h3,hU];done) | (simp [hho,hwa,h2,h3];omega)
    ·rw [hvw];unfold vw;simp
theorem s_AskedB (hl:w.l=Yy m L K R)(hlen:l.length=L+3*m+4+K*(R+2)):Z1o (CountAsked.mk (CountOnce.mk false false)) w.l ⟨l⟩=some (true,⟨⟨true,decide (l.getD (L+3*m+1) 0≠0)⟩⟩):=Zg9 hl hlen _ rfl
theorem p_turn (r:Row n m L c)(g:Gi c m L K R t l ws)(d:Dm m L K R)(hk:k<K)(ha:(ws.getD k default).at_=17):Ok (Xf (ws.getD k default) ⟨l⟩) (fun r=>Gi c m L K R (t+1) r.2.2.l (ws.set k r.2.1)):=by
 have h:=g.wv k hk
 have hlen:=g.bv.len
 have hbh:=g.bv.hh
 have hdm:=d.hm
 have hdL:=d.hL
 have hs:=fun w' l' (hw:Wv c m L K R (t+1) k w') e1 e2 e3 hv=>g.same hk (l':=l') hw e1 e2 e3 hv
 generalize hw:ws.getD k default=w at *
 have hl:=h.hl
 have hlim:=h.hlim
 have hl0:decide (w.limit=0)=false:=by simp;omega
 obtain ⟨h1,h2,h3,h4,h5,h6,h7,h8,h9,h10,h11,h12,h13,h14,h15,h16,h17,h18⟩:=h
 have hho:w.holds=true:=h13.2 (by omega)
 have hwa:w.wakes=false:=by
  cases e:w.wakes with
  | false=>rfl
  | true=>have:=h14.1 e;omega
 have hvw:vw w=.hold w.u:=by unfold vw;simp [ha]
 have hU:Xe m c w.u:=h9 (by omega)
 obtain ⟨un,hun⟩:∃ un:Nat,w.u=un:=⟨w.u.toNat,by have:=hU.1;omega⟩
 have hum:un<m:=by have:=hU.2.1;omega
 unfold Xf Xm Wp
 simp only [ha,hl0,Bool.false_eq_true,if_false,if_true,Option.bind_some,Int.reduceEq,decide_false]
 unfold Z82 Z2a Z66
 have hfu:=(r.first.2.2.2 un hum).1
 simp only [Option.bind_some]
 rw [s_AskedB (w:={ w with at_:=17,has:=false }) hl hlen]
 simp only [Option.bind_some,Z2h]
 rw [Zdb (w:={ w with at_:=17,has:=false }) r h1 hun hum hdm.2]
 by_cases c1:l.getD (L+3*m+1) 0≠0
 ·
  rw [if_pos (decide_eq_true c1)]
  ·
   simp only [Option.bind_some,hl0,Bool.false_eq_true,if_false,if_true,Int.reduceEq,decide_false]
   refine Ok.some.2 (hs _ l ?_ rfl hbh ⟨rfl,rfl,rfl,rfl⟩ ?_)
   ·constructor <;> first | assumption | (simp only [hho,hwa];omega) | (simp [hho,hwa,h2,h3,hU];done) | (simp [hho,hwa,h2,h3];omega)
   ·rw [hvw];unfold vw;simp
 ·
  rw [if_neg (by simpa using c1)]
  have hfree:Ok (Option.bind (some ({ w with at_:=18,has:=false }:WorkerWorker)) fun r122=>Option.bind (some (decide (r122.at_=25))) fun r124=>some (r124,({ w with at_:=r122.at_,has:=false,a:=r122.a,target:=r122.target }:WorkerWorker),(⟨l⟩:CellsBank))) (fun r=>Gi c m L K R (t+1) r.2.2.l (ws.set k r.2.1)):=by
   ·
    simp only [Option.bind_some,hl0,Bool.false_eq_true,if_false,if_true,Int.reduceEq,decide_false]
    refine Ok.some.2 (hs _ l ?_ rfl hbh ⟨rfl,rfl,rfl,rfl⟩ ?_)
    ·constructor <;> first | assumption | (simp only [hho,hwa];omega) | (simp [hho,hwa,h2,h3,hU];done) | (simp [hho,hwa,h2,h3];omega)
    ·rw [hvw];unfold vw;simp
  by_cases c2:w.c.N≤w.h
  ·
   rw [if_pos c2]
   simp only [if_true,hl0,Bool.false_eq_true,if_false]
   exact hfree
  ·
   rw [if_neg c2]
   by_cases c3:w.e=0
   ·
    rw [if_pos (decide_eq_true c3)]
    try simp only [hl0,Bool.false_eq_true,if_false]
    exact hfree
   ·
    rw [if_neg (by simpa using c3)]
    by_cases c4:fs c un=fs c (un+1)
    ·
     rw [if_pos c4]
     ·
      simp only [Option.bind_some,hl0,Bool.false_eq_true,if_false,if_true,Int.reduceEq,decide_false]
      refine Ok.some.2 (hs _ l ?_ rfl hbh ⟨rfl,rfl,rfl,rfl⟩ ?_)
      ·constructor <;> first | assumption | (simp only [hho,hwa];omega) | (simp [hho,hwa,h2,h3,hU];done) | (simp [hho,hwa,h2,h3];omega)
      ·rw [hvw];unfold vw;simp
    ·
     rw [if_neg c4]
     ·
      simp only [Option.bind_some,hl0,Bool.false_eq_true,if_false,if_true,Int.reduceEq,decide_false]
      refine Ok.some.2 (hs _ l ?_ rfl hbh ⟨rfl,rfl,rfl,rfl⟩ ?_)
      ·constructor <;> first | assumption | exact fun _=>⟨fs c un,un,rfl,hun,Nat.le_refl _,by omega⟩ | exact fun _=>.inl ⟨rfl,by simp⟩ | (simp only [hho,hwa];omega) | (simp [hho,hwa,h2,h3,hU];done) | (simp [hho,hwa,h2,h3];omega)
      ·rw [hvw];unfold vw;simp
end
end Go.Acq
namespace Go.Acq
open Go
section
variable {n : Net} {c : Csr} {m L K R k un : Nat} {t : Int} {l l' : List Int} {ws : List WorkerWorker} {w w' : WorkerWorker}
theorem p_left (r:Row n m L c)(g:Gi c m L K R t l ws)(d:Dm m L K R)(hk:k<K)(ha:(ws.getD k default).at_=6):Ok (Xf (ws.getD k default) ⟨l⟩) (fun r=>Gi c m L K R (t+1) r.2.2.l (ws.set k r.2.1)):=by
 have h:=g.wv k hk
 have hlen:=g.bv.len
 have hbh:=g.bv.hh
 have hdm:=d.hm
 have hdL:=d.hL
 have hs:=fun w' l' (hw:Wv c m L K R (t+1) k w') e1 e2 e3 hv=>g.same hk (l':=l') hw e1 e2 e3 hv
 generalize hw:ws.getD k default=w at *
 have hl:=h.hl
 have hlim:=h.hlim
 have hl0:decide (w.limit=0)=false:=by simp;omega
 obtain ⟨h1,h2,h3,h4,h5,h6,h7,h8,h9,h10,h11,h12,h13,h14,h15,h16,h17,h18⟩:=h
 have hho:w.holds=true:=h13.2 (by omega)
 have hwa:w.wakes=false:=by
  cases e:w.wakes with
  | false=>rfl
  | true=>have:=h14.1 e;omega
 have hvw:vw w=.hold w.u:=by unfold vw;simp [ha]
 have hU:Xe m c w.u:=h9 (by omega)
 obtain ⟨un,hun⟩:∃ un:Nat,w.u=un:=⟨w.u.toNat,by have:=hU.1;omega⟩
 have hum:un<m:=by have:=hU.2.1;omega
 obtain ⟨a,u',haa,hu',hfa,hfb⟩:=h11 (by omega)
 obtain rfl:u'=un:=by omega
 have haL:a<L:=by have:=(r.first.2.2.2 u' hum).2;omega
 have tg:w.target=-1∨∃ g:Nat,w.target=g∧g<L:=(h12 (by omega)).imp (fun h=>h.1) id
 unfold Xf Xm Wp
 simp only [ha,hl0,Bool.false_eq_true,if_false,if_true,Option.bind_some,Int.reduceEq,decide_false]
 unfold Zas
 rw [Xb (by constructor <;> simp only [hl,Yy,haa] <;> omega),Uu (q:=a) (by simp only [hl,Yy,haa];omega) (by omega),Option.bind_some]
 by_cases c2:0<l.getD a 0
 ·
  rw [if_pos c2]
  ·
   simp only [Option.bind_some,hl0,Bool.false_eq_true,if_false,if_true,Int.reduceEq,decide_false]
   refine Ok.some.2 (hs _ l ?_ rfl hbh ⟨rfl,rfl,rfl,rfl⟩ ?_)
   ·constructor <;> first | assumption | exact fun _=>⟨a,u',haa,hun,hfa,hfb⟩ | exact fun _=>tg.imp (fun h=>⟨h,by simp⟩) id | (simp only [hho,hwa];omega) | (simp [hho,hwa,h2,h3,hU];done) | (simp [hho,hwa,h2,h3];omega)
   ·rw [hvw];unfold vw;simp
 ·
  rw [if_neg c2,Z8c (w:={ w with at_:=6,has:=false,d:=l.getD a 0 }) r h1 hun hum hdm.2 haa haL hdL]
  by_cases c3:a+1<fs c (u'+1)
  ·
   rw [if_pos c3]
   ·
    simp only [Option.bind_some,hl0,Bool.false_eq_true,if_false,if_true,Int.reduceEq,decide_false]
    refine Ok.some.2 (hs _ l ?_ rfl hbh ⟨rfl,rfl,rfl,rfl⟩ ?_)
    ·constructor <;> first | assumption | exact fun _=>⟨a+1,u',by simp,hun,by omega,by omega⟩ | exact fun _=>tg.imp (fun h=>⟨h,by simp⟩) id | (simp only [hho,hwa];omega) | (simp [hho,hwa,h2,h3,hU];done) | (simp [hho,hwa,h2,h3];omega)
    ·rw [hvw];unfold vw;simp
  ·
   rw [if_neg c3]
   by_cases c4:w.target<0
   ·
    rw [if_pos c4]
    ·
     simp only [Option.bind_some,hl0,Bool.false_eq_true,if_false,if_true,Int.reduceEq,decide_false]
     refine Ok.some.2 (hs _ l ?_ rfl hbh ⟨rfl,rfl,rfl,rfl⟩ ?_)
     ·constructor <;> first | assumption | (simp only [hho,hwa];omega) | (simp [hho,hwa,h2,h3,hU];done) | (simp [hho,hwa,h2,h3];omega)
     ·rw [hvw];unfold vw;simp
   ·
    rw [if_neg c4]
    by_cases c5:w.low<w.h
    ·
     rw [if_pos c5]
     ·
      simp only [Option.bind_some,hl0,Bool.false_eq_true,if_false,if_true,Int.reduceEq,decide_false]
      refine Ok.some.2 (hs _ l ?_ rfl hbh ⟨rfl,rfl,rfl,rfl⟩ ?_)
      ·constructor <;> first | assumption | exact fun _=>.inr (by rcases tg with h | h;exact absurd h (by omega);exact h) | (simp only [hho,hwa];omega) | (simp [hho,hwa,h2,h3,hU];done) | (simp [hho,hwa,h2,h3];omega)
      ·rw [hvw];unfold vw;simp
    ·
     rw [if_neg c5]
     ·
      simp only [Option.bind_some,hl0,Bool.false_eq_true,if_false,if_true,Int.reduceEq,decide_false]
      refine Ok.some.2 (hs _ l ?_ rfl hbh ⟨rfl,rfl,rfl,rfl⟩ ?_)
      ·constructor <;> first | assumption | (simp only [hho,hwa];omega) | (simp [hho,hwa,h2,h3,hU];done) | (simp [hho,hwa,h2,h3];omega)
      ·rw [hvw];unfold vw;simp
end
end Go.Acq
namespace Go.Acq
open Go
section
variable {n : Net} {c : Csr} {m L K R k un : Nat} {t : Int} {l l' : List Int} {ws : List WorkerWorker} {w w' : WorkerWorker}
theorem p_push (r:Row n m L c)(g:Gi c m L K R t l ws)(d:Dm m L K R)(hk:k<K)(ha:(ws.getD k default).at_=8):Ok (Xf (ws.getD k default) ⟨l⟩) (fun r=>Gi c m L K R (t+1) r.2.2.l (ws.set k r.2.1)):=by
 have h:=g.wv k hk
 have hlen:=g.bv.len
 have hbh:=g.bv.hh
 have hdm:=d.hm
 have hdL:=d.hL
 have hs:=fun w' l' (hw:Wv c m L K R (t+1) k w') e1 e2 e3 hv=>g.same hk (l':=l') hw e1 e2 e3 hv
 generalize hw:ws.getD k default=w at *
 have hl:=h.hl
 have hlim:=h.hlim
 have hl0:decide (w.limit=0)=false:=by simp;omega
 obtain ⟨h1,h2,h3,h4,h5,h6,h7,h8,h9,h10,h11,h12,h13,h14,h15,h16,h17,h18⟩:=h
 have hho:w.holds=true:=h13.2 (by omega)
 have hwa:w.wakes=false:=by
  cases e:w.wakes with
  | false=>rfl
  | true=>have:=h14.1 e;omega
 have hvw:vw w=.hold w.u:=by unfold vw;simp [ha]
 have hU:Xe m c w.u:=h9 (by omega)
 obtain ⟨un,hun⟩:∃ un:Nat,w.u=un:=⟨w.u.toNat,by have:=hU.1;omega⟩
 have hum:un<m:=by have:=hU.2.1;omega
 obtain ⟨gn,htgn,hgL⟩:∃ g:Nat,w.target=g∧g<L:=by
  rcases h12 (by omega) with h | h
  ·omega
  ·exact h
 unfold Xf Xm Wp
 simp only [ha,hl0,Bool.false_eq_true,if_false,if_true,Option.bind_some,Int.reduceEq,decide_false]
 unfold Z8e Z35
 obtain ⟨x,hx⟩:=Gx (l:=l) (i:=w.l.Res+w.target) (d:=Rc .i64 (min w.e w.room)) (q:=gn) (by simp only [hl,Yy,htgn];omega) (by omega)
 rw [Xb (by constructor <;> simp only [hl,Yy,htgn] <;> omega),hx,Option.bind_some]
 ·
  simp only [Option.bind_some,hl0,Bool.false_eq_true,if_false,if_true,Int.reduceEq,decide_false]
  refine Ok.some.2 (hs _ (l.set (gn) x) ?_ (by rw [List.length_set]) (fun v hv=>by rw [Xw (by omega)];exact hbh v hv) (Ki (by omega) (by omega)) ?_)
  ·constructor <;> first | assumption | exact fun _=>.inr ⟨gn,htgn,hgL⟩ | (simp only [hho,hwa];omega) | (simp [hho,hwa,h2,h3,hU];done) | (simp [hho,hwa,h2,h3];omega)
  ·rw [hvw];unfold vw;simp
theorem p_back (r:Row n m L c)(g:Gi c m L K R t l ws)(d:Dm m L K R)(hk:k<K)(ha:(ws.getD k default).at_=9):Ok (Xf (ws.getD k default) ⟨l⟩) (fun r=>Gi c m L K R (t+1) r.2.2.l (ws.set k r.2.1)):=by
 have h:=g.wv k hk
 have hlen:=g.bv.len
 have hbh:=g.bv.hh
 have hdm:=d.hm
 have hdL:=d.hL
 have hs:=fun w' l' (hw:Wv c m L K R (t+1) k w') e1 e2 e3 hv=>g.same hk (l':=l') hw e1 e2 e3 hv
 generalize hw:ws.getD k default=w at *
 have hl:=h.hl
 have hlim:=h.hlim
 have hl0:decide (w.limit=0)=false:=by simp;omega
 obtain ⟨h1,h2,h3,h4,h5,h6,h7,h8,h9,h10,h11,h12,h13,h14,h15,h16,h17,h18⟩:=h
 have hho:w.holds=true:=h13.2 (by omega)
 have hwa:w.wakes=false:=by
  cases e:w.wakes with
  | false=>rfl
  | true=>have:=h14.1 e;omega
 have hvw:vw w=.hold w.u:=by unfold vw;simp [ha]
 have hU:Xe m c w.u:=h9 (by omega)
 obtain ⟨un,hun⟩:∃ un:Nat,w.u=un:=⟨w.u.toNat,by have:=hU.1;omega⟩
 have hum:un<m:=by have:=hU.2.1;omega
 obtain ⟨gn,htgn,hgL⟩:∃ g:Nat,w.target=g∧g<L:=by
  rcases h12 (by omega) with h | h
  ·omega
  ·exact h
 unfold Xf Xm Wp
 simp only [ha,hl0,Bool.false_eq_true,if_false,if_true,Option.bind_some,Int.reduceEq,decide_false]
 unfold Zbd
 have hrv:=r.rev hgL
 have hln:=r.lens
 have e1:w.c.Rev.getD w.target.toNat 0=((rv c gn:Nat):Int):=by rw [h1,htgn,Int.toNat_natCast];exact hrv.1
 obtain ⟨x,hx⟩:=Gx (l:=l) (i:=w.l.Res+(w.c.Rev.getD w.target.toNat 0)) (d:=w.d) (q:=rv c gn) (by rw [e1];simp only [hl,Yy];omega) (by omega)
 rw [Xb (by rw [h1,htgn];constructor <;> omega),Xb (by rw [e1];constructor <;> simp only [hl,Yy] <;> omega),hx,Option.bind_some]
 ·
  simp only [Option.bind_some,hl0,Bool.false_eq_true,if_false,if_true,Int.reduceEq,decide_false]
  refine Ok.some.2 (hs _ (l.set (rv c gn) x) ?_ (by rw [List.length_set]) (fun v hv=>by rw [Xw (by omega)];exact hbh v hv) (Ki (by omega) (by omega)) ?_)
  ·constructor <;> first | assumption | exact fun _=>.inr ⟨gn,htgn,hgL⟩ | (simp only [hho,hwa];omega) | (simp [hho,hwa,h2,h3,hU];done) | (simp [hho,hwa,h2,h3];omega)
  ·rw [hvw];unfold vw;simp
theorem p_from (g:Gi c m L K R t l ws)(d:Dm m L K R)(hk:k<K)(ha:(ws.getD k default).at_=10):Ok (Xf (ws.getD k default) ⟨l⟩) (fun r=>Gi c m L K R (t+1) r.2.2.l (ws.set k r.2.1)):=by
 have h:=g.wv k hk
 have hlen:=g.bv.len
 have hbh:=g.bv.hh
 have hdm:=d.hm
 have hdL:=d.hL
 have hs:=fun w' l' (hw:Wv c m L K R (t+1) k w') e1 e2 e3 hv=>g.same hk (l':=l') hw e1 e2 e3 hv
 generalize hw:ws.getD k default=w at *
 have hl:=h.hl
 have hlim:=h.hlim
 have hl0:decide (w.limit=0)=false:=by simp;omega
 obtain ⟨h1,h2,h3,h4,h5,h6,h7,h8,h9,h10,h11,h12,h13,h14,h15,h16,h17,h18⟩:=h
 have hho:w.holds=true:=h13.2 (by omega)
 have hwa:w.wakes=false:=by
  cases e:w.wakes with
  | false=>rfl
  | true=>have:=h14.1 e;omega
 have hvw:vw w=.hold w.u:=by unfold vw;simp [ha]
 have hU:Xe m c w.u:=h9 (by omega)
 obtain ⟨un,hun⟩:∃ un:Nat,w.u=un:=⟨w.u.toNat,by have:=hU.1;omega⟩
 have hum:un<m:=by have:=hU.2.1;omega
 obtain ⟨gn,htgn,hgL⟩:∃ g:Nat,w.target=g∧g<L:=by
  rcases h12 (by omega) with h | h
  ·omega
  ·exact h
 unfold Xf Xm Wp
 simp only [ha,hl0,Bool.false_eq_true,if_false,if_true,Option.bind_some,Int.reduceEq,decide_false]
 unfold Z8m
 obtain ⟨x,hx⟩:=Gx (l:=l) (i:=w.l.Ex+w.u) (d:=Rc .i64 w.d) (q:=L+un) (by simp only [hl,Yy,hun];omega) (by omega)
 rw [Xb (by constructor <;> simp only [hl,Yy,hun] <;> omega),hx,Option.bind_some]
 ·
  simp only [Option.bind_some,hl0,Bool.false_eq_true,if_false,if_true,Int.reduceEq,decide_false]
  refine Ok.some.2 (hs _ (l.set (L+un) x) ?_ (by rw [List.length_set]) (fun v hv=>by rw [Xw (by omega)];exact hbh v hv) (Ki (by omega) (by omega)) ?_)
  ·constructor <;> first | assumption | exact fun _=>.inr ⟨gn,htgn,hgL⟩ | (simp only [hho,hwa];omega) | (simp [hho,hwa,h2,h3,hU];done) | (simp [hho,hwa,h2,h3];omega)
  ·rw [hvw];unfold vw;simp
theorem p_to (r:Row n m L c)(g:Gi c m L K R t l ws)(d:Dm m L K R)(hk:k<K)(ha:(ws.getD k default).at_=11):Ok (Xf (ws.getD k default) ⟨l⟩) (fun r=>Gi c m L K R (t+1) r.2.2.l (ws.set k r.2.1)):=by
 have h:=g.wv k hk
 have hlen:=g.bv.len
 have hbh:=g.bv.hh
 have hdm:=d.hm
 have hdL:=d.hL
 have hs:=fun w' l' (hw:Wv c m L K R (t+1) k w') e1 e2 e3 hv=>g.same hk (l':=l') hw e1 e2 e3 hv
 generalize hw:ws.getD k default=w at *
 have hl:=h.hl
 have hlim:=h.hlim
 have hl0:decide (w.limit=0)=false:=by simp;omega
 obtain ⟨h1,h2,h3,h4,h5,h6,h7,h8,h9,h10,h11,h12,h13,h14,h15,h16,h17,h18⟩:=h
 have hho:w.holds=true:=h13.2 (by omega)
 have hwa:w.wakes=false:=by
  cases e:w.wakes with
  | false=>rfl
  | true=>have:=h14.1 e;omega
 have hvw:vw w=.hold w.u:=by unfold vw;simp [ha]
 have hU:Xe m c w.u:=h9 (by omega)
 obtain ⟨un,hun⟩:∃ un:Nat,w.u=un:=⟨w.u.toNat,by have:=hU.1;omega⟩
 have hum:un<m:=by have:=hU.2.1;omega
 obtain ⟨gn,htgn,hgL⟩:∃ g:Nat,w.target=g∧g<L:=by
  rcases h12 (by omega) with h | h
  ·omega
  ·exact h
 unfold Xf Xm Wp
 simp only [ha,hl0,Bool.false_eq_true,if_false,if_true,Option.bind_some,Int.reduceEq,decide_false]
 unfold Z9u Jg
 have hhd:=r.head hgL
 have hln:=r.lens
 have e1:w.c.Head.getD w.target.toNat 0=((hd c gn:Nat):Int):=by rw [h1,htgn,Int.toNat_natCast];exact hhd.1
 obtain ⟨x,hx⟩:=Gx (l:=l) (i:=w.l.Ex+((hd c gn:Nat):Int)) (d:=w.d) (q:=L+hd c gn) (by simp only [hl,Yy];omega) (by omega)
 simp only [e1]
 rw [Xb (by rw [h1,htgn];constructor <;> omega),Xb (by constructor <;> simp only [hl,Yy] <;> omega),hx,Option.bind_some]
 simp only [h1,if_true]
 by_cases c1:((hd c gn:Nat):Int)=c.S
 ·
  rw [if_pos c1]
  ·
   simp only [Option.bind_some,hl0,Bool.false_eq_true,if_false,if_true,Int.reduceEq,decide_false]
   refine Ok.some.2 (hs _ (l.set (L+hd c gn) x) ?_ (by rw [List.length_set]) (fun v hv=>by rw [Xw (by omega)];exact hbh v hv) (Ki (by omega) (by omega)) ?_)
   ·constructor <;> first | assumption | (simp only [hho,hwa];omega) | (simp [hho,hwa,h2,h3,hU];done) | (simp [hho,hwa,h2,h3];omega)
   ·rw [hvw];unfold vw;simp
 ·
  rw [if_neg c1]
  by_cases c2:((hd c gn:Nat):Int)=c.T
  ·
   rw [if_pos c2]
   ·
    simp only [Option.bind_some,hl0,Bool.false_eq_true,if_false,if_true,Int.reduceEq,decide_false]
    refine Ok.some.2 (hs _ (l.set (L+hd c gn) x) ?_ (by rw [List.length_set]) (fun v hv=>by rw [Xw (by omega)];exact hbh v hv) (Ki (by omega) (by omega)) ?_)
    ·constructor <;> first | assumption | (simp only [hho,hwa];omega) | (simp [hho,hwa,h2,h3,hU];done) | (simp [hho,hwa,h2,h3];omega)
    ·rw [hvw];unfold vw;simp
  ·
   rw [if_neg c2]
   have hV:Xe m c ((hd c gn:Nat):Int):=⟨by omega,by omega,c1,c2⟩
   by_cases c3:x≠w.d
   ·
    rw [if_pos (decide_eq_true c3)]
    ·
     simp only [Option.bind_some,hl0,Bool.false_eq_true,if_false,if_true,Int.reduceEq,decide_false]
     refine Ok.some.2 (hs _ (l.set (L+hd c gn) x) ?_ (by rw [List.length_set]) (fun v hv=>by rw [Xw (by omega)];exact hbh v hv) (Ki (by omega) (by omega)) ?_)
     ·constructor <;> first | assumption | exact fun _=>hV | (simp only [hho,hwa];omega) | (simp [hho,hwa,h2,h3,hU];done) | (simp [hho,hwa,h2,h3];omega)
     ·rw [hvw];unfold vw;simp
   ·
    rw [if_neg (by simpa using c3)]
    ·
     simp only [Option.bind_some,hl0,Bool.false_eq_true,if_false,if_true,Int.reduceEq,decide_false]
     refine Ok.some.2 (hs _ (l.set (L+hd c gn) x) ?_ (by rw [List.length_set]) (fun v hv=>by rw [Xw (by omega)];exact hbh v hv) (Ki (by omega) (by omega)) ?_)
     ·constructor <;> first | assumption | exact fun _=>hV | (simp only [hho,hwa];omega) | (simp [hho,hwa,h2,h3,hU];done) | (simp [hho,hwa,h2,h3];omega)
     ·rw [hvw];unfold vw;simp
theorem p_ask (g:Gi c m L K R t l ws)(d:Dm m L K R)(hk:k<K)(ha:(ws.getD k default).at_=16):Ok (Xf (ws.getD k default) ⟨l⟩) (fun r=>Gi c m L K R (t+1) r.2.2.l (ws.set k r.2.1)):=by
 have h:=g.wv k hk
 have hlen:=g.bv.len
 have hbh:=g.bv.hh
 have hdm:=d.hm
 have hdL:=d.hL
 have hs:=fun w' l' (hw:Wv c m L K R (t+1) k w') e1 e2 e3 hv=>g.same hk (l':=l') hw e1 e2 e3 hv
 generalize hw:ws.getD k default=w at *
 have hl:=h.hl
 have hlim:=h.hlim
 have hl0:decide (w.limit=0)=false:=by simp;omega
 obtain ⟨h1,h2,h3,h4,h5,h6,h7,h8,h9,h10,h11,h12,h13,h14,h15,h16,h17,h18⟩:=h
 have hho:w.holds=true:=h13.2 (by omega)
 have hwa:w.wakes=false:=by
  cases e:w.wakes with
  | false=>rfl
  | true=>have:=h14.1 e;omega
 have hvw:vw w=.hold w.u:=by unfold vw;simp [ha]
 have hU:Xe m c w.u:=h9 (by omega)
 obtain ⟨un,hun⟩:∃ un:Nat,w.u=un:=⟨w.u.toNat,by have:=hU.1;omega⟩
 have hum:un<m:=by have:=hU.2.1;omega
 unfold Xf Xm Wp
 simp only [ha,hl0,Bool.false_eq_true,if_false,if_true,Option.bind_some,Int.reduceEq,decide_false]
 unfold Zbc Z8f Z8z Z74 Zb6
 have hst:=Kk (l:=l) (i:=w.l.Ask) (v:=1) (q:=L+3*m+1) (by simp only [hl,Yy];omega) (by omega)
 simp only [Option.bind_some,hst,Bool.not_false,if_true]
 ·
  try simp only [Option.bind_some,hl0,Bool.false_eq_true,if_false,if_true,Int.reduceEq,decide_false]
  refine Ok.some.2 (hs _ (l.set (L+3*m+1) 1) ?_ (by rw [List.length_set]) (fun v hv=>by rw [Xw (by omega)];exact hbh v hv) (Ki (by omega) (by omega)) ?_)
  ·constructor <;> first | assumption | (simp only [hho,hwa];omega) | (simp [hho,hwa,h2,h3,hU];done) | (simp [hho,hwa,h2,h3];omega)
  ·rw [hvw];unfold vw;simp
end
end Go.Acq
namespace Go.Acq
open Go
section
variable {n : Net} {c : Csr} {m L K R k un : Nat} {t : Int} {l l' : List Int} {ws : List WorkerWorker} {w w' : WorkerWorker}
theorem p_lift (r:Row n m L c)(ht:t≤1000000)(g:Gi c m L K R t l ws)(d:Dm m L K R)(hk:k<K)(ha:(ws.getD k default).at_=15):Ok (Xf (ws.getD k default) ⟨l⟩) (fun r=>Gi c m L K R (t+1) r.2.2.l (ws.set k r.2.1)):=by
 have h:=g.wv k hk
 have hlen:=g.bv.len
 have hbh:=g.bv.hh
 have hdm:=d.hm
 have hdL:=d.hL
 have hs:=fun w' l' (hw:Wv c m L K R (t+1) k w') e1 e2 e3 hv=>g.same hk (l':=l') hw e1 e2 e3 hv
 generalize hw:ws.getD k default=w at *
 have hl:=h.hl
 have hlim:=h.hlim
 have hl0:decide (w.limit=0)=false:=by simp;omega
 obtain ⟨h1,h2,h3,h4,h5,h6,h7,h8,h9,h10,h11,h12,h13,h14,h15,h16,h17,h18⟩:=h
 have hho:w.holds=true:=h13.2 (by omega)
 have hwa:w.wakes=false:=by
  cases e:w.wakes with
  | false=>rfl
  | true=>have:=h14.1 e;omega
 have hvw:vw w=.hold w.u:=by unfold vw;simp [ha]
 have hU:Xe m c w.u:=h9 (by omega)
 obtain ⟨un,hun⟩:∃ un:Nat,w.u=un:=⟨w.u.toNat,by have:=hU.1;omega⟩
 have hum:un<m:=by have:=hU.2.1;omega
 unfold Xf Xm Wp
 simp only [ha,hl0,Bool.false_eq_true,if_false,if_true,Option.bind_some,Int.reduceEq,decide_false]
 unfold Z6r Jg Z35
 have hN:w.c.N=m:=by rw [h1];exact r.is.hN
 have hst:=Kk (l:=l) (i:=w.l.H+w.u) (v:=min (w.low+1) w.c.N) (q:=L+m+un) (by simp only [hl,Yy,hun];omega) (by omega)
 obtain ⟨x,hx⟩:∃ x,x=min (w.low+1) w.c.N:=⟨_,rfl⟩
 have hx0:0≤x∧x≤m:=by rw [hx,hN];omega
 rw [Xb (by constructor <;> simp only <;> omega),Xb (by constructor <;> simp only [hl,Yy,hun] <;> omega),hst,Option.bind_some]
 simp only [←hx,Option.bind_some]
 rw [Xb (by constructor <;> omega)]
 have hb2:∀ v,v<m→0≤(l.set (L+m+un) x).getD (L+m+v) 0∧(l.set (L+m+un) x).getD (L+m+v) 0≤m:=fun v hv=>by
  rw [lset]
  split
  ·exact hx0
  ·exact hbh v hv
 by_cases c1:w.lifts+1=w.limit
 ·
  rw [if_pos (decide_eq_true c1)]
  ·
   simp only [Option.bind_some,hl0,Bool.false_eq_true,if_false,if_true,Int.reduceEq,decide_false]
   refine Ok.some.2 (hs _ (l.set (L+m+un) x) ?_ (by rw [List.length_set]) hb2 (Ki (by omega) (by omega)) ?_)
   ·constructor <;> first | assumption | (simp only [hho,hwa];omega) | (simp [hho,hwa,h2,h3,hU];done) | (simp [hho,hwa,h2,h3];omega)
   ·rw [hvw];unfold vw;simp
 ·
  rw [if_neg (by simpa using c1)]
  ·
   simp only [Option.bind_some,hl0,Bool.false_eq_true,if_false,if_true,Int.reduceEq,decide_false]
   refine Ok.some.2 (hs _ (l.set (L+m+un) x) ?_ (by rw [List.length_set]) hb2 (Ki (by omega) (by omega)) ?_)
   ·constructor <;> first | assumption | (simp only [hho,hwa];omega) | (simp [hho,hwa,h2,h3,hU];done) | (simp [hho,hwa,h2,h3];omega)
   ·rw [hvw];unfold vw;simp
theorem p_low (r:Row n m L c)(g:Gi c m L K R t l ws)(d:Dm m L K R)(hk:k<K)(ha:(ws.getD k default).at_=7):Ok (Xf (ws.getD k default) ⟨l⟩) (fun r=>Gi c m L K R (t+1) r.2.2.l (ws.set k r.2.1)):=by
 have h:=g.wv k hk
 have hlen:=g.bv.len
 have hbh:=g.bv.hh
 have hdm:=d.hm
 have hdL:=d.hL
 have hs:=fun w' l' (hw:Wv c m L K R (t+1) k w') e1 e2 e3 hv=>g.same hk (l':=l') hw e1 e2 e3 hv
 generalize hw:ws.getD k default=w at *
 have hl:=h.hl
 have hlim:=h.hlim
 have hl0:decide (w.limit=0)=false:=by simp;omega
 obtain ⟨h1,h2,h3,h4,h5,h6,h7,h8,h9,h10,h11,h12,h13,h14,h15,h16,h17,h18⟩:=h
 have hho:w.holds=true:=h13.2 (by omega)
 have hwa:w.wakes=false:=by
  cases e:w.wakes with
  | false=>rfl
  | true=>have:=h14.1 e;omega
 have hvw:vw w=.hold w.u:=by unfold vw;simp [ha]
 have hU:Xe m c w.u:=h9 (by omega)
 obtain ⟨un,hun⟩:∃ un:Nat,w.u=un:=⟨w.u.toNat,by have:=hU.1;omega⟩
 have hum:un<m:=by have:=hU.2.1;omega
 obtain ⟨a,u',haa,hu',hfa,hfb⟩:=h11 (by omega)
 obtain rfl:u'=un:=by omega
 have haL:a<L:=by have:=(r.first.2.2.2 u' hum).2;omega
 have tg:w.target=-1∨∃ g:Nat,w.target=g∧g<L:=(h12 (by omega)).imp (fun h=>h.1) id
 unfold Xf Xm Wp
 simp only [ha,hl0,Bool.false_eq_true,if_false,if_true,Option.bind_some,Int.reduceEq,decide_false]
 unfold Z8a
 have hhd:=r.head haL
 have hln:=r.lens
 have e1:w.c.Head.getD w.a.toNat 0=((hd c a:Nat):Int):=by rw [h1,haa,Int.toNat_natCast];exact hhd.1
 have hx4:=hbh (hd c a) hhd.2
 have tg2:w.a=-1∨∃ g:Nat,w.a=g∧g<L:=.inr ⟨a,haa,haL⟩
 simp only [e1]
 rw [Xb (by rw [h1,haa];constructor <;> omega),Xb (by constructor <;> simp only [hl,Yy] <;> omega),Uu (q:=L+m+hd c a) (by simp only [hl,Yy];omega) (by omega),Option.bind_some]
 unfold Z5s
 by_cases c1:w.target<0
 ·
  rw [if_pos c1,if_pos rfl]
  unfold Z0s
  rw [Z8c (w:={ w with at_:=7,has:=false,target:=w.a,room:=w.d,low:=l.getD (L+m+hd c a) 0 }) r h1 hun hum hdm.2 haa haL hdL]
  by_cases c3:a+1<fs c (u'+1)
  ·
   rw [if_pos c3]
   ·
    simp only [Option.bind_some,hl0,Bool.false_eq_true,if_false,if_true,Int.reduceEq,decide_false]
    refine Ok.some.2 (hs _ l ?_ rfl hbh ⟨rfl,rfl,rfl,rfl⟩ ?_)
    ·constructor <;> first | assumption | exact hx4 | exact fun _=>⟨a+1,u',by simp,hun,by omega,by omega⟩ | exact fun _=>tg2.imp (fun h=>⟨h,by simp⟩) id | (simp only [hho,hwa];omega) | (simp [hho,hwa,h2,h3,hU];done) | (simp [hho,hwa,h2,h3];omega)
    ·rw [hvw];unfold vw;simp
  ·
   rw [if_neg c3]
   by_cases c4:w.a<0
   ·
    rw [if_pos c4]
    ·
     simp only [Option.bind_some,hl0,Bool.false_eq_true,if_false,if_true,Int.reduceEq,decide_false]
     refine Ok.some.2 (hs _ l ?_ rfl hbh ⟨rfl,rfl,rfl,rfl⟩ ?_)
     ·constructor <;> first | assumption | exact hx4 | (simp only [hho,hwa];omega) | (simp [hho,hwa,h2,h3,hU];done) | (simp [hho,hwa,h2,h3];omega)
     ·rw [hvw];unfold vw;simp
   ·
    rw [if_neg c4]
    by_cases c5:l.getD (L+m+hd c a) 0<w.h
    ·
     rw [if_pos c5]
     ·
      simp only [Option.bind_some,hl0,Bool.false_eq_true,if_false,if_true,Int.reduceEq,decide_false]
      refine Ok.some.2 (hs _ l ?_ rfl hbh ⟨rfl,rfl,rfl,rfl⟩ ?_)
      ·constructor <;> first | assumption | exact hx4 | exact fun _=>.inr (by rcases tg2 with h | h;exact absurd h (by omega);exact h) | (simp only [hho,hwa];omega) | (simp [hho,hwa,h2,h3,hU];done) | (simp [hho,hwa,h2,h3];omega)
      ·rw [hvw];unfold vw;simp
    ·
     rw [if_neg c5]
     ·
      simp only [Option.bind_some,hl0,Bool.false_eq_true,if_false,if_true,Int.reduceEq,decide_false]
      refine Ok.some.2 (hs _ l ?_ rfl hbh ⟨rfl,rfl,rfl,rfl⟩ ?_)
      ·constructor <;> first | assumption | exact hx4 | (simp only [hho,hwa];omega) | (simp [hho,hwa,h2,h3,hU];done) | (simp [hho,hwa,h2,h3];omega)
      ·rw [hvw];unfold vw;simp
 ·
  rw [if_neg c1]
  by_cases c2:l.getD (L+m+hd c a) 0<w.low
  ·
   rw [if_pos (decide_eq_true c2)]
   unfold Z0s
   rw [Z8c (w:={ w with at_:=7,has:=false,target:=w.a,room:=w.d,low:=l.getD (L+m+hd c a) 0 }) r h1 hun hum hdm.2 haa haL hdL]
   by_cases c3:a+1<fs c (u'+1)
   ·
    rw [if_pos c3]
    ·
     simp only [Option.bind_some,hl0,Bool.false_eq_true,if_false,if_true,Int.reduceEq,decide_false]
     refine Ok.some.2 (hs _ l ?_ rfl hbh ⟨rfl,rfl,rfl,rfl⟩ ?_)
     ·constructor <;> first | assumption | exact hx4 | exact fun _=>⟨a+1,u',by simp,hun,by omega,by omega⟩ | exact fun _=>tg2.imp (fun h=>⟨h,by simp⟩) id | (simp only [hho,hwa];omega) | (simp [hho,hwa,h2,h3,hU];done) | (simp [hho,hwa,h2,h3];omega)
     ·rw [hvw];unfold vw;simp
   ·
    rw [if_neg c3]
    by_cases c4:w.a<0
    ·
     rw [if_pos c4]
     ·
      simp only [Option.bind_some,hl0,Bool.false_eq_true,if_false,if_true,Int.reduceEq,decide_false]
      refine Ok.some.2 (hs _ l ?_ rfl hbh ⟨rfl,rfl,rfl,rfl⟩ ?_)
      ·constructor <;> first | assumption | exact hx4 | (simp only [hho,hwa];omega) | (simp [hho,hwa,h2,h3,hU];done) | (simp [hho,hwa,h2,h3];omega)
      ·rw [hvw];unfold vw;simp
    ·
     rw [if_neg c4]
     by_cases c5:l.getD (L+m+hd c a) 0<w.h
     ·
      rw [if_pos c5]
      ·
       simp only [Option.bind_some,hl0,Bool.false_eq_true,if_false,if_true,Int.reduceEq,decide_false]
       refine Ok.some.2 (hs _ l ?_ rfl hbh ⟨rfl,rfl,rfl,rfl⟩ ?_)
       ·constructor <;> first | assumption | exact hx4 | exact fun _=>.inr (by rcases tg2 with h | h;exact absurd h (by omega);exact h) | (simp only [hho,hwa];omega) | (simp [hho,hwa,h2,h3,hU];done) | (simp [hho,hwa,h2,h3];omega)
       ·rw [hvw];unfold vw;simp
     ·
      rw [if_neg c5]
      ·
       simp only [Option.bind_some,hl0,Bool.false_eq_true,if_false,if_true,Int.reduceEq,decide_false]
       refine Ok.some.2 (hs _ l ?_ rfl hbh ⟨rfl,rfl,rfl,rfl⟩ ?_)
       ·constructor <;> first | assumption | exact hx4 | (simp only [hho,hwa];omega) | (simp [hho,hwa,h2,h3,hU];done) | (simp [hho,hwa,h2,h3];omega)
       ·rw [hvw];unfold vw;simp
  ·
   rw [if_neg (by simpa using c2)]
   unfold Z0s
   rw [Z8c (w:={ w with at_:=7,has:=false }) r h1 hun hum hdm.2 haa haL hdL]
   by_cases c3:a+1<fs c (u'+1)
   ·
    rw [if_pos c3]
    ·
     simp only [Option.bind_some,hl0,Bool.false_eq_true,if_false,if_true,Int.reduceEq,decide_false]
     refine Ok.some.2 (hs _ l ?_ rfl hbh ⟨rfl,rfl,rfl,rfl⟩ ?_)
     ·constructor <;> first | assumption | exact hx4 | exact fun _=>⟨a+1,u',by simp,hun,by omega,by omega⟩ | exact fun _=>tg.imp (fun h=>⟨h,by simp⟩) id | (simp only [hho,hwa];omega) | (simp [hho,hwa,h2,h3,hU];done) | (simp [hho,hwa,h2,h3];omega)
     ·rw [hvw];unfold vw;simp
   ·
    rw [if_neg c3]
    by_cases c4:w.target<0
    ·
     rw [if_pos c4]
     ·
      simp only [Option.bind_some,hl0,Bool.false_eq_true,if_false,if_true,Int.reduceEq,decide_false]
      refine Ok.some.2 (hs _ l ?_ rfl hbh ⟨rfl,rfl,rfl,rfl⟩ ?_)
      ·constructor <;> first | assumption | exact hx4 | (simp only [hho,hwa];omega) | (simp [hho,hwa,h2,h3,hU];done) | (simp [hho,hwa,h2,h3];omega)
      ·rw [hvw];unfold vw;simp
    ·
     rw [if_neg c4]
     by_cases c5:w.low<w.h
     ·
      rw [if_pos c5]
      ·
       simp only [Option.bind_some,hl0,Bool.false_eq_true,if_false,if_true,Int.reduceEq,decide_false]
       refine Ok.some.2 (hs _ l ?_ rfl hbh ⟨rfl,rfl,rfl,rfl⟩ ?_)
       ·constructor <;> first | assumption | exact hx4 | exact fun _=>.inr (by rcases tg with h | h;exact absurd h (by omega);exact h) | (simp only [hho,hwa];omega) | (simp [hho,hwa,h2,h3,hU];done) | (simp [hho,hwa,h2,h3];omega)
       ·rw [hvw];unfold vw;simp
     ·
      rw [if_neg c5]
      ·
       simp only [Option.bind_some,hl0,Bool.false_eq_true,if_false,if_true,Int.reduceEq,decide_false]
       refine Ok.some.2 (hs _ l ?_ rfl hbh ⟨rfl,rfl,rfl,rfl⟩ ?_)
       ·constructor <;> first | assumption | exact hx4 | (simp only [hho,hwa];omega) | (simp [hho,hwa,h2,h3,hU];done) | (simp [hho,hwa,h2,h3];omega)
       ·rw [hvw];unfold vw;simp
end
end Go.Acq
namespace Go.Acq
open Go
section
variable {n : Net} {c : Csr} {m L K R k un vn : Nat} {t : Int} {l l' : List Int} {ws : List WorkerWorker} {w w' : WorkerWorker}
theorem conc_F (l:List Int)(ws:List WorkerWorker){v:Nat}(hv:v<m):(Xa m L R l ws).F v=l.getD (L+2*m+v) 0:=by show cF m L l v=_;unfold cF;rw [if_pos hv]
theorem Gi.claims (g:Gi c m L K R t l ws)(hk:k<K)(hv:vn<m)(hok:Xe m c (vn:Int))(h0:l.getD (L+2*m+vn) 0=0)(hw:Wv c m L K R (t+1) k w')
    (hc:(∃ u,vw (ws.getD k default)=.hold u∧vw w'=.up u (vn:Int))∨(vw (ws.getD k default)=.idle∧vw w'=.hold (vn:Int))):Gi c m L K R (t+1) (l.set (L+2*m+vn) 1) (ws.set k w'):=by
  have hs:=set_F (R:=R) (x:=1) hv (l:=l) (L:=L) (by rw [g.bv.len];omega)
  have hb:=g.bv.bot k hk
  refine g.step hk (σ':=⟨upd (Xa m L R l ws).F vn 1,(Xa m L R l ws).T,(Xa m L R l ws).B,(Xa m L R l ws).S,upd (Xa m L R l ws).V k (vw w')⟩) ⟨hw,by rw [List.length_set],fun v hv=>by rw [Xw (by omega)];exact g.bv.hh v hv,hs.1,hs.2.1,hs.2.2.1,hs.2.2.2,rfl,?_,⟨?_,?_⟩,fun _ _=>rfl,fun j hj=>?_⟩
  · have := g.ai.claim hk (x := (vn : Int)) (w := vw w') hok (by rw [Int.toNat_natCast, conc_F l ws hv]; exact h0) hc
    rw [Int.toNat_natCast] at this
    exact this
  ·show _≤cB m L R l k;omega
  ·show cB m L R l k≤_;omega
  ·have:=g.bv.top j hj;show 0≤cT m L R l j∧cT m L R l j≤_;omega
theorem Gi.frees (g:Gi c m L K R t l ws)(hk:k<K)(hu:un<m)(hw:Wv c m L K R (t+1) k w')(hv:vw (ws.getD k default)=.hold (un:Int))(hv':vw w'=.idle):Gi c m L K R (t+1) (l.set (L+2*m+un) 0) (ws.set k w'):=by
 have hs:=set_F (R:=R) (x:=0) hu (l:=l) (L:=L) (by rw [g.bv.len];omega)
 have hb:=g.bv.bot k hk
 refine g.step hk (σ':=⟨upd (Xa m L R l ws).F un 0,(Xa m L R l ws).T,(Xa m L R l ws).B,(Xa m L R l ws).S,upd (Xa m L R l ws).V k .idle⟩) ⟨hw,by rw [List.length_set],fun v hv=>by rw [Xw (by omega)];exact g.bv.hh v hv,hs.1,hs.2.1,hs.2.2.1,hs.2.2.2,by rw [hv'];rfl,?_,⟨?_,?_⟩,fun _ _=>rfl,fun j hj=>?_⟩
 ·
  have:=g.ai.free (fun v h=>h.1) hk (u:=(un:Int)) hv
  rw [Int.toNat_natCast] at this
  exact this
 ·show _≤cB m L R l k;omega
 ·show cB m L R l k≤_;omega
 ·have:=g.bv.top j hj;show 0≤cT m L R l j∧cT m L R l j≤_;omega
theorem Zgt {l:List Int}{q:Nat}:l.set q (l.getD q 0)=l:=by
 apply List.ext_getElem?
 intro i
 rw [List.getElem?_set]
 split
 ·
  rename_i e;subst e
  split
  ·rename_i h;rw [List.getD_eq_getElem?_getD,List.getElem?_eq_getElem h];rfl
  ·rename_i h;rw [List.getElem?_eq_none (by omega)]
 ·rfl
theorem Zhj (hl:w.l=Yy m L K R)(hlen:l.length=L+3*m+4+K*(R+2)){x:Int}(hx:x=vn)(hv:vn<m)(hm:m≤7)(hL:L≤28){β:Type}(F:FlagsClaim→Bool×FlagsClaim×CellsBank→Option β) :
    (Option.bind (Z3r w.l x) fun r4=>Option.bind (Z23 r4 ⟨l⟩) fun r=>F r4 r)=F ⟨⟨((L+2*m+vn:Nat):Int),false⟩,false⟩ (true,⟨⟨((L+2*m+vn:Nat):Int),true⟩,decide (l.getD (L+2*m+vn) 0=0)⟩,⟨l.set (L+2*m+vn) (if l.getD (L+2*m+vn) 0=0 then 1 else l.getD (L+2*m+vn) 0)⟩):=by
  subst hx
  have e:w.l.Flag+(vn:Int)=((L+2*m+vn:Nat):Int):=by simp only [hl,Yy];omega
  unfold Z3r
  rw [e,Xb (by constructor <;> omega),Option.bind_some]
  unfold Z23 Z9m
  simp only [Option.bind_some,Bool.not_false,if_true]
  rw [b_CAS (q:=L+2*m+vn) rfl (by omega)]
  rfl
theorem p_claim (g:Gi c m L K R t l ws)(d:Dm m L K R)(hk:k<K)(ha:(ws.getD k default).at_=12):Ok (Xf (ws.getD k default) ⟨l⟩) (fun r=>Gi c m L K R (t+1) r.2.2.l (ws.set k r.2.1)):=by
 have h:=g.wv k hk
 have hlen:=g.bv.len
 have hbh:=g.bv.hh
 have hdm:=d.hm
 have hdL:=d.hL
 have hs:=fun w' l' (hw:Wv c m L K R (t+1) k w') e1 e2 e3 hv=>g.same hk (l':=l') hw e1 e2 e3 hv
 have hcl:=fun vn w' hv hok h0 (hw:Wv c m L K R (t+1) k w') hc=>g.claims hk (vn:=vn) hv hok h0 hw hc
 have hfr:=fun un w' hu (hw:Wv c m L K R (t+1) k w') hv hv'=>g.frees hk (un:=un) hu hw hv hv'
 generalize hw:ws.getD k default=w at *
 have hl:=h.hl
 have hlim:=h.hlim
 have hl0:decide (w.limit=0)=false:=by simp;omega
 obtain ⟨h1,h2,h3,h4,h5,h6,h7,h8,h9,h10,h11,h12,h13,h14,h15,h16,h17,h18⟩:=h
 have hho:w.holds=true:=h13.2 (by omega)
 have hwa:w.wakes=false:=by
  cases e:w.wakes with
  | false=>rfl
  | true=>have:=h14.1 e;omega
 have hvw:vw w=.hold w.u:=by unfold vw;simp [ha]
 have hU:Xe m c w.u:=h9 (by omega)
 obtain ⟨un,hun⟩:∃ un:Nat,w.u=un:=⟨w.u.toNat,by have:=hU.1;omega⟩
 have hum:un<m:=by have:=hU.2.1;omega
 have hV:Xe m c w.v:=h10 (by omega)
 obtain ⟨vn,hvn⟩:∃ vn:Nat,w.v=vn:=⟨w.v.toNat,by have:=hV.1;omega⟩
 have hvm:vn<m:=by have:=hV.2.1;omega
 unfold Xf Xm Wp
 simp only [ha,hl0,Bool.false_eq_true,if_false,if_true,Option.bind_some,Int.reduceEq,decide_false]
 unfold Z6q Jg Z24
 rw [Zhj (w:={ w with at_:=12,has:=false }) hl hlen hvn hvm hdm.2 hdL]
 simp only [Option.bind_some]
 by_cases c1:l.getD (L+2*m+vn) 0=0
 ·
  rw [if_pos (decide_eq_true c1),if_pos c1]
  simp only [Option.bind_some,hl0,Bool.false_eq_true,if_false,if_true,Int.reduceEq,decide_false,c1,decide_true]
  refine Ok.some.2 (hcl vn _ hvm (by rw [←hvn];exact hV) c1 ?_ (.inl ⟨w.u,hvw,?_⟩))
  ·constructor <;> first | assumption | (simp [hho,hwa,h2,h3,hU,hV];done) | (simp [hho,hwa,h2,h3];omega)
  ·unfold vw;simp [hvn]
 ·
  rw [if_neg (by simpa using c1),if_neg c1,Zgt]
  simp only [Option.bind_some,hl0,Bool.false_eq_true,if_false,if_true,Int.reduceEq,decide_false,decide_eq_false c1]
  refine Ok.some.2 (hs _ l ?_ rfl hbh ⟨rfl,rfl,rfl,rfl⟩ ?_)
  ·constructor <;> first | assumption | (simp [hho,hwa,h2,h3,hU,hV];done) | (simp [hho,hwa,h2,h3];omega)
  ·rw [hvw];unfold vw;simp
theorem p_free (g:Gi c m L K R t l ws)(d:Dm m L K R)(hk:k<K)(ha:(ws.getD k default).at_=18):Ok (Xf (ws.getD k default) ⟨l⟩) (fun r=>Gi c m L K R (t+1) r.2.2.l (ws.set k r.2.1)):=by
 have h:=g.wv k hk
 have hlen:=g.bv.len
 have hbh:=g.bv.hh
 have hdm:=d.hm
 have hdL:=d.hL
 have hs:=fun w' l' (hw:Wv c m L K R (t+1) k w') e1 e2 e3 hv=>g.same hk (l':=l') hw e1 e2 e3 hv
 have hcl:=fun vn w' hv hok h0 (hw:Wv c m L K R (t+1) k w') hc=>g.claims hk (vn:=vn) hv hok h0 hw hc
 have hfr:=fun un w' hu (hw:Wv c m L K R (t+1) k w') hv hv'=>g.frees hk (un:=un) hu hw hv hv'
 generalize hw:ws.getD k default=w at *
 have hl:=h.hl
 have hlim:=h.hlim
 have hl0:decide (w.limit=0)=false:=by simp;omega
 obtain ⟨h1,h2,h3,h4,h5,h6,h7,h8,h9,h10,h11,h12,h13,h14,h15,h16,h17,h18⟩:=h
 have hho:w.holds=true:=h13.2 (by omega)
 have hwa:w.wakes=false:=by
  cases e:w.wakes with
  | false=>rfl
  | true=>have:=h14.1 e;omega
 have hvw:vw w=.hold w.u:=by unfold vw;simp [ha]
 have hU:Xe m c w.u:=h9 (by omega)
 obtain ⟨un,hun⟩:∃ un:Nat,w.u=un:=⟨w.u.toNat,by have:=hU.1;omega⟩
 have hum:un<m:=by have:=hU.2.1;omega
 unfold Xf Xm Wp
 simp only [ha,hl0,Bool.false_eq_true,if_false,if_true,Option.bind_some,Int.reduceEq,decide_false]
 unfold Za9 Z3a Z57 Z49 Z4w
 have e:w.l.Flag+w.u=((L+2*m+un:Nat):Int):=by simp only [hl,Yy,hun];omega
 simp only [e]
 have hst:=Kk (l:=l) (v:=0) (q:=L+2*m+un) rfl (by omega)
 rw [Xb (by constructor <;> omega)]
 simp only [Option.bind_some,hst,hl0,Bool.false_eq_true,if_false,if_true,Int.reduceEq,decide_false,Bool.not_false]
 refine Ok.some.2 (hfr un _ hum ?_ (by rw [hvw,hun]) ?_)
 ·constructor <;> first | assumption | (simp only [hho,hwa];omega) | (simp [hho,hwa,h2,h3,hU];done) | (simp [hho,hwa,h2,h3];omega)
 ·unfold vw;simp
theorem p_drop (g:Gi c m L K R t l ws)(d:Dm m L K R)(hk:k<K)(ha:(ws.getD k default).at_=22):Ok (Xf (ws.getD k default) ⟨l⟩) (fun r=>Gi c m L K R (t+1) r.2.2.l (ws.set k r.2.1)):=by
 have h:=g.wv k hk
 have hlen:=g.bv.len
 have hbh:=g.bv.hh
 have hdm:=d.hm
 have hdL:=d.hL
 have hs:=fun w' l' (hw:Wv c m L K R (t+1) k w') e1 e2 e3 hv=>g.same hk (l':=l') hw e1 e2 e3 hv
 have hcl:=fun vn w' hv hok h0 (hw:Wv c m L K R (t+1) k w') hc=>g.claims hk (vn:=vn) hv hok h0 hw hc
 have hfr:=fun un w' hu (hw:Wv c m L K R (t+1) k w') hv hv'=>g.frees hk (un:=un) hu hw hv hv'
 generalize hw:ws.getD k default=w at *
 have hl:=h.hl
 have hlim:=h.hlim
 have hl0:decide (w.limit=0)=false:=by simp;omega
 obtain ⟨h1,h2,h3,h4,h5,h6,h7,h8,h9,h10,h11,h12,h13,h14,h15,h16,h17,h18⟩:=h
 have hho:w.holds=true:=h13.2 (by omega)
 have hwa:w.wakes=false:=by
  cases e:w.wakes with
  | false=>rfl
  | true=>have:=h14.1 e;omega
 have hvw:vw w=.hold w.u:=by unfold vw;simp [ha]
 have hU:Xe m c w.u:=h9 (by omega)
 obtain ⟨un,hun⟩:∃ un:Nat,w.u=un:=⟨w.u.toNat,by have:=hU.1;omega⟩
 have hum:un<m:=by have:=hU.2.1;omega
 unfold Xf Xm Wp
 simp only [ha,hl0,Bool.false_eq_true,if_false,if_true,Option.bind_some,Int.reduceEq,decide_false]
 unfold Z9z Z3a Z57 Z49 Z4w
 have e:w.l.Flag+w.u=((L+2*m+un:Nat):Int):=by simp only [hl,Yy,hun];omega
 simp only [e]
 have hst:=Kk (l:=l) (v:=0) (q:=L+2*m+un) rfl (by omega)
 rw [Xb (by constructor <;> omega)]
 simp only [Option.bind_some,hst,hl0,Bool.false_eq_true,if_false,if_true,Int.reduceEq,decide_false,Bool.not_false]
 refine Ok.some.2 (hfr un _ hum ?_ (by rw [hvw,hun]) ?_)
 ·constructor <;> first | assumption | (simp only [hho,hwa];omega) | (simp [hho,hwa,h2,h3,hU];done) | (simp [hho,hwa,h2,h3];omega)
 ·unfold vw;simp
end
end Go.Acq
namespace Go.Acq
open Go
section
variable {n : Net} {c : Csr} {m L K R k un vn : Nat} {t : Int} {l l' : List Int} {ws : List WorkerWorker} {w w' : WorkerWorker}
theorem Zkn (r:Row n m L c)(g:Gi c m L K R t l ws)(d:Dm m L K R)(hk:k<K)(ha:(ws.getD k default).at_=20):Ok (Xf (ws.getD k default) ⟨l⟩) (fun r=>Gi c m L K R (t+1) r.2.2.l (ws.set k r.2.1)):=by
 have h:=g.wv k hk
 have hlen:=g.bv.len
 have hbh:=g.bv.hh
 have hdm:=d.hm
 have hdL:=d.hL
 have hs:=fun w' l' (hw:Wv c m L K R (t+1) k w') e1 e2 e3 hv=>g.same hk (l':=l') hw e1 e2 e3 hv
 have hcl:=fun vn w' hv hok h0 (hw:Wv c m L K R (t+1) k w') hc=>g.claims hk (vn:=vn) hv hok h0 hw hc
 generalize hw:ws.getD k default=w at *
 have hl:=h.hl
 have hlim:=h.hlim
 have hl0:decide (w.limit=0)=false:=by simp;omega
 obtain ⟨h1,h2,h3,h4,h5,h6,h7,h8,h9,h10,h11,h12,h13,h14,h15,h16,h17,h18⟩:=h
 have hho:w.holds=false:=by
  cases e:w.holds with
  | false=>rfl
  | true=>have:=h13.1 e;omega
 have hwa:w.wakes=false:=by
  cases e:w.wakes with
  | false=>rfl
  | true=>have:=h14.1 e;omega
 have hvw:vw w=.idle:=by unfold vw;simp [ha]
 have hU:Xe m c w.u:=h9 (by omega)
 obtain ⟨un,hun⟩:∃ un:Nat,w.u=un:=⟨w.u.toNat,by have:=hU.1;omega⟩
 have hum:un<m:=by have:=hU.2.1;omega
 unfold Xf Xm Wp
 simp only [ha,hl0,Bool.false_eq_true,if_false,if_true,Option.bind_some,Int.reduceEq,decide_false]
 unfold Z71 Z24
 have hfu:=(r.first.2.2.2 un hum).1
 rw [Zhj (w:={ w with at_:=20,has:=false }) hl hlen hun hum hdm.2 hdL]
 simp only [Option.bind_some]
 by_cases c1:l.getD (L+2*m+un) 0=0
 ·
  rw [if_pos (decide_eq_true c1),if_pos c1]
  simp only [c1,decide_true]
  rw [Zdb (w:={ w with at_:=20,has:=false,holds:=true }) r h1 hun hum hdm.2]
  by_cases c3:fs c un=fs c (un+1)
  ·
   rw [if_pos c3]
   simp only [Option.bind_some,hl0,Bool.false_eq_true,if_false,if_true,Int.reduceEq,decide_false]
   refine Ok.some.2 (hcl un _ hum (by rw [←hun];exact hU) c1 ?_ (.inr ⟨hvw,?_⟩))
   ·constructor <;> first | assumption | (simp only [hho,hwa];omega) | (simp [hho,hwa,h2,h3,hU];done) | (simp [hho,hwa,h2,h3];omega)
   ·unfold vw;simp [hun]
  ·
   rw [if_neg c3]
   simp only [Option.bind_some,hl0,Bool.false_eq_true,if_false,if_true,Int.reduceEq,decide_false]
   refine Ok.some.2 (hcl un _ hum (by rw [←hun];exact hU) c1 ?_ (.inr ⟨hvw,?_⟩))
   ·constructor <;> first | assumption | exact fun _=>⟨fs c un,un,rfl,hun,Nat.le_refl _,by omega⟩ | exact fun _=>.inl ⟨rfl,by simp⟩ | (simp only [hho,hwa];omega) | (simp [hho,hwa,h2,h3,hU];done) | (simp [hho,hwa,h2,h3];omega)
   ·unfold vw;simp [hun]
 ·
  rw [if_neg (by simpa using c1),if_neg c1,Zgt]
  simp only [Option.bind_some,hl0,Bool.false_eq_true,if_false,if_true,Int.reduceEq,decide_false,decide_eq_false c1]
  refine Ok.some.2 (hs _ l ?_ rfl hbh ⟨rfl,rfl,rfl,rfl⟩ ?_)
  ·constructor <;> first | assumption | (simp only [hho,hwa];omega) | (simp [hho,hwa,h2,h3,hU];done) | (simp [hho,hwa,h2,h3];omega)
  ·rw [hvw];unfold vw;simp
theorem p_arrive (g:Gi c m L K R t l ws)(d:Dm m L K R)(hk:k<K)(ha:(ws.getD k default).at_=24):Ok (Xf (ws.getD k default) ⟨l⟩) (fun r=>Gi c m L K R (t+1) r.2.2.l (ws.set k r.2.1)):=by
 have h:=g.wv k hk
 have hlen:=g.bv.len
 have hbh:=g.bv.hh
 have hdm:=d.hm
 have hdL:=d.hL
 have hs:=fun w' l' (hw:Wv c m L K R (t+1) k w') e1 e2 e3 hv=>g.same hk (l':=l') hw e1 e2 e3 hv
 generalize hw:ws.getD k default=w at *
 have hl:=h.hl
 have hlim:=h.hlim
 have hl0:decide (w.limit=0)=false:=by simp;omega
 obtain ⟨h1,h2,h3,h4,h5,h6,h7,h8,h9,h10,h11,h12,h13,h14,h15,h16,h17,h18⟩:=h
 have hho:w.holds=false:=by
  cases e:w.holds with
  | false=>rfl
  | true=>have:=h13.1 e;omega
 have hwa:w.wakes=false:=by
  cases e:w.wakes with
  | false=>rfl
  | true=>have:=h14.1 e;omega
 have hvw:vw w=.idle:=by unfold vw;simp [ha]
 obtain ⟨ar1,ar2,ar3⟩:=h18 ha
 unfold Xf Xm Wp
 simp only [ha,hl0,Bool.false_eq_true,if_false,if_true,Option.bind_some,Int.reduceEq,decide_false]
 unfold Z8k Z9f
 have hld:=Uu (l:=l) (i:=w.arrive.l.Sense) (q:=L+3*m+3) (by simp only [ar1,Yy];omega) (by omega)
 obtain ⟨x,hx⟩:=Gx (l:=l) (i:=w.arrive.l.Count) (d:=-1) (q:=L+3*m+2) (by simp only [ar1,Yy];omega) (by omega)
 have hst1:=Kk (l:=l) (i:=w.arrive.l.Count) (v:=w.arrive.l.Workers) (q:=L+3*m+2) (by simp only [ar1,Yy];omega) (by omega)
 have hst2:=Kk (l:=l) (i:=w.arrive.l.Sense) (v:=w.arrive.own) (q:=L+3*m+3) (by simp only [ar1,Yy];omega) (by omega)
 unfold Z7h Zat Zam Z79 Z75
 rcases (show w.arrive.next=0∨w.arrive.next=1∨w.arrive.next=2∨w.arrive.next=3∨w.arrive.next=4 by omega) with e | e | e | e | e
 ·
  simp only [e,hld,hx,hst1,hst2,Option.bind_some,hl0,Bool.false_eq_true,if_false,if_true,Int.reduceEq,decide_false,ne_eq,not_false_eq_true,decide_true,not_true_eq_false]
  by_cases c1:l.getD (L+3*m+3) 0=0
  ·
   rw [if_neg (by simpa using c1)]
   try simp only [e,hld,hx,hst1,hst2,Option.bind_some,hl0,Bool.false_eq_true,if_false,if_true,Int.reduceEq,decide_false,ne_eq,not_false_eq_true,decide_true,not_true_eq_false]
   refine Ok.some.2 (hs _ l ?_ rfl hbh ⟨rfl,rfl,rfl,rfl⟩ ?_)
   ·constructor <;> first | assumption | (simp only [hho,hwa];omega) | (simp [hho,hwa,h2,h3,ar1];done) | (simp [hho,hwa,h2,h3];omega)
   ·rw [hvw];unfold vw;simp
  ·
   rw [if_pos (by simpa using c1)]
   try simp only [e,hld,hx,hst1,hst2,Option.bind_some,hl0,Bool.false_eq_true,if_false,if_true,Int.reduceEq,decide_false,ne_eq,not_false_eq_true,decide_true,not_true_eq_false]
   refine Ok.some.2 (hs _ l ?_ rfl hbh ⟨rfl,rfl,rfl,rfl⟩ ?_)
   ·constructor <;> first | assumption | (simp only [hho,hwa];omega) | (simp [hho,hwa,h2,h3,ar1];done) | (simp [hho,hwa,h2,h3];omega)
   ·rw [hvw];unfold vw;simp
 ·
  simp only [e,hld,hx,hst1,hst2,Option.bind_some,hl0,Bool.false_eq_true,if_false,if_true,Int.reduceEq,decide_false,ne_eq,not_false_eq_true,decide_true,not_true_eq_false]
  by_cases c1:x=0
  ·
   rw [if_pos c1]
   try simp only [e,hld,hx,hst1,hst2,Option.bind_some,hl0,Bool.false_eq_true,if_false,if_true,Int.reduceEq,decide_false,ne_eq,not_false_eq_true,decide_true,not_true_eq_false]
   refine Ok.some.2 (hs _ (l.set (L+3*m+2) x) ?_ (by rw [List.length_set]) (fun v hv=>by rw [Xw (by omega)];exact hbh v hv) (Ki (by omega) (by omega)) ?_)
   ·constructor <;> first | assumption | (simp only [hho,hwa];omega) | (simp [hho,hwa,h2,h3,ar1];done) | (simp [hho,hwa,h2,h3];omega)
   ·rw [hvw];unfold vw;simp
  ·
   rw [if_neg c1]
   try simp only [e,hld,hx,hst1,hst2,Option.bind_some,hl0,Bool.false_eq_true,if_false,if_true,Int.reduceEq,decide_false,ne_eq,not_false_eq_true,decide_true,not_true_eq_false]
   refine Ok.some.2 (hs _ (l.set (L+3*m+2) x) ?_ (by rw [List.length_set]) (fun v hv=>by rw [Xw (by omega)];exact hbh v hv) (Ki (by omega) (by omega)) ?_)
   ·constructor <;> first | assumption | (simp only [hho,hwa];omega) | (simp [hho,hwa,h2,h3,ar1];done) | (simp [hho,hwa,h2,h3];omega)
   ·rw [hvw];unfold vw;simp
 ·
  simp only [e,hld,hx,hst1,hst2,Option.bind_some,hl0,Bool.false_eq_true,if_false,if_true,Int.reduceEq,decide_false,ne_eq,not_false_eq_true,decide_true,not_true_eq_false]
  refine Ok.some.2 (hs _ (l.set (L+3*m+2) w.arrive.l.Workers) ?_ (by rw [List.length_set]) (fun v hv=>by rw [Xw (by omega)];exact hbh v hv) (Ki (by omega) (by omega)) ?_)
  ·constructor <;> first | assumption | (simp only [hho,hwa];omega) | (simp [hho,hwa,h2,h3,ar1];done) | (simp [hho,hwa,h2,h3];omega)
  ·rw [hvw];unfold vw;simp
 ·
  simp only [e,hld,hx,hst1,hst2,Option.bind_some,hl0,Bool.false_eq_true,if_false,if_true,Int.reduceEq,decide_false,ne_eq,not_false_eq_true,decide_true,not_true_eq_false]
  refine Ok.some.2 (hs _ (l.set (L+3*m+3) w.arrive.own) ?_ (by rw [List.length_set]) (fun v hv=>by rw [Xw (by omega)];exact hbh v hv) (Ki (by omega) (by omega)) ?_)
  ·constructor <;> first | assumption | (simp only [hho,hwa];omega) | (simp [hho,hwa,h2,h3,ar1];done) | (simp [hho,hwa,h2,h3];omega)
  ·rw [hvw];unfold vw;simp
 ·
  simp only [e,hld,hx,hst1,hst2,Option.bind_some,hl0,Bool.false_eq_true,if_false,if_true,Int.reduceEq,decide_false,ne_eq,not_false_eq_true,decide_true,not_true_eq_false]
  by_cases c1:l.getD (L+3*m+3) 0=w.arrive.own
  ·
   rw [if_pos c1]
   try simp only [e,hld,hx,hst1,hst2,Option.bind_some,hl0,Bool.false_eq_true,if_false,if_true,Int.reduceEq,decide_false,ne_eq,not_false_eq_true,decide_true,not_true_eq_false]
   refine Ok.some.2 (hs _ l ?_ rfl hbh ⟨rfl,rfl,rfl,rfl⟩ ?_)
   ·constructor <;> first | assumption | (simp only [hho,hwa];omega) | (simp [hho,hwa,h2,h3,ar1];done) | (simp [hho,hwa,h2,h3];omega)
   ·rw [hvw];unfold vw;simp
  ·
   rw [if_neg c1]
   try simp only [e,hld,hx,hst1,hst2,Option.bind_some,hl0,Bool.false_eq_true,if_false,if_true,Int.reduceEq,decide_false,ne_eq,not_false_eq_true,decide_true,not_true_eq_false]
   refine Ok.some.2 (hs _ l ?_ rfl hbh ⟨rfl,rfl,rfl,rfl⟩ ?_)
   ·constructor <;> first | assumption | (simp only [hho,hwa];omega) | (simp [hho,hwa,h2,h3,ar1];done) | (simp [hho,hwa,h2,h3];omega)
   ·rw [hvw];unfold vw;simp
end
end Go.Acq
namespace Go.Acq
open Go
section
variable {n : Net} {c : Csr} {m L K R k un vn : Nat} {t : Int} {l l' : List Int} {ws : List WorkerWorker} {w w' : WorkerWorker}
theorem Gi.goesB (g:Gi c m L K R t l ws)(hk:k<K)(hw:Wv c m L K R (t+1) k w')(hlen:l'.length=l.length)(hh:∀ v,v<m→0≤l'.getD (L+m+v) 0∧l'.getD (L+m+v) 0≤m)
    (h:cF m L l'=cF m L l∧cT m L R l'=cT m L R l∧cB m L R l'=cB m L R l∧cS m L R l'=cS m L R l){v v':Vw}(hv:vw (ws.getD k default)=v)(hv':vw w'=v')
    (h1:v'.held=v.held)(h2:v'.woken=v.woken)(h3:v'.popped=v.popped)(h4:Wx (cB m L R l k) v'=Wx (cB m L R l k) v)
    (h5:∀ j,j<K→j≠k→∀ y,v'.thief j=some y→v.thief j=some y∨y<cB m L R l j)(h6:Yw K R ((Xa m L R l ws).go k (cB m L R l k) v') k v'):Gi c m L K R (t+1) l' (ws.set k w'):=by
  have hb:=g.bv.bot k hk
  subst hv;subst hv'
  exact g.goes hk (B':=cB m L R l k) hw hlen hh ⟨h.1,h.2.1,by rw [Z34];exact h.2.2.1,h.2.2.2⟩ ⟨by omega,by omega⟩ h1 h2 h3 h4 h5 h6
theorem p_up (g:Gi c m L K R t l ws)(d:Dm m L K R)(hk:k<K)(ha:(ws.getD k default).at_=13):Ok (Xf (ws.getD k default) ⟨l⟩) (fun r=>Gi c m L K R (t+1) r.2.2.l (ws.set k r.2.1)):=by
 have h:=g.wv k hk
 have hlen:=g.bv.len
 have hbh:=g.bv.hh
 have hdm:=d.hm
 have hdL:=d.hL
 have hs:=fun w' l' (hw:Wv c m L K R (t+1) k w') e1 e2 e3 hv=>g.same hk (l':=l') hw e1 e2 e3 hv
 have hgb:=fun w' l' (hw:Wv c m L K R (t+1) k w') e1 e2 e3 v v' hv hv' h1 h2 h3 h4 h5 h6=>g.goesB hk (l':=l') hw e1 e2 e3 (v:=v) (v':=v') hv hv' h1 h2 h3 h4 h5 h6
 generalize hw:ws.getD k default=w at *
 have hl:=h.hl
 have hlim:=h.hlim
 have hl0:decide (w.limit=0)=false:=by simp;omega
 obtain ⟨h1,h2,h3,h4,h5,h6,h7,h8,h9,h10,h11,h12,h13,h14,h15,h16,h17,h18⟩:=h
 have hho:w.holds=true:=h13.2 (by omega)
 have hwa:w.wakes=true:=h14.2 (by omega)
 have hvw:vw w=.up w.u w.v:=by unfold vw;simp [ha]
 have hU:Xe m c w.u:=h9 (by omega)
 obtain ⟨un,hun⟩:∃ un:Nat,w.u=un:=⟨w.u.toNat,by have:=hU.1;omega⟩
 have hum:un<m:=by have:=hU.2.1;omega
 have hV:Xe m c w.v:=h10 (by omega)
 obtain ⟨vn,hvn⟩:∃ vn:Nat,w.v=vn:=⟨w.v.toNat,by have:=hV.1;omega⟩
 have hvm:vn<m:=by have:=hV.2.1;omega
 unfold Xf Xm Wp
 simp only [ha,hl0,Bool.false_eq_true,if_false,if_true,Option.bind_some,Int.reduceEq,decide_false]
 unfold Z8v Z70 Z2t Z7t Z7a Z21 Z7d
 obtain ⟨x,hx⟩:=Gx (l:=l) (i:=w.l.Pending) (d:=1) (q:=L+3*m) (by simp only [hl,Yy];omega) (by omega)
 simp only [Option.bind_some,hx,hl0,Bool.false_eq_true,if_false,if_true,Int.reduceEq,decide_false,Bool.not_false]
 refine Ok.some.2 (hgb _ (l.set (L+3*m) x) ?_ (by rw [List.length_set]) (fun v hv=>by rw [Xw (by omega)];exact hbh v hv) (Ki (by omega) (by omega)) _ (.put w.u w.v 0 0 0) hvw ?_ rfl rfl rfl rfl (fun _ _ _ _ h=>by cases h) (by simp [Yw]))
 ·constructor <;> first | assumption | (simp only [hho,hwa];omega) | (simp [hho,hwa,h2,h3,hU,hV];done) | (simp [hho,hwa,h2,h3];omega)
 ·unfold vw;simp
end
end Go.Acq
namespace Go.Acq
open Go
section
variable {n : Net} {c : Csr} {m L K R k un vn : Nat} {t : Int} {l l' : List Int} {ws : List WorkerWorker} {w w' : WorkerWorker}
theorem p_put0 (g:Gi c m L K R t l ws)(d:Dm m L K R)(hk:k<K)(ha:(ws.getD k default).at_=14)(e:(ws.getD k default).put.part.at_=0):Ok (Xf (ws.getD k default) ⟨l⟩) (fun r=>Gi c m L K R (t+1) r.2.2.l (ws.set k r.2.1)):=by
 have h:=g.wv k hk
 have hlen:=g.bv.len
 have hbh:=g.bv.hh
 have hdm:=d.hm
 have hdL:=d.hL
 have hs:=fun w' l' (hw:Wv c m L K R (t+1) k w') e1 e2 e3 hv=>g.same hk (l':=l') hw e1 e2 e3 hv
 have hgb:=fun w' l' (hw:Wv c m L K R (t+1) k w') e1 e2 e3 v v' hv hv' h1 h2 h3 h4 h5 h6=>g.goesB hk (l':=l') hw e1 e2 e3 (v:=v) (v':=v') hv hv' h1 h2 h3 h4 h5 h6
 generalize hw:ws.getD k default=w at *
 have hl:=h.hl
 have hlim:=h.hlim
 have hl0:decide (w.limit=0)=false:=by simp;omega
 obtain ⟨h1,h2,h3,h4,h5,h6,h7,h8,h9,h10,h11,h12,h13,h14,h15,h16,h17,h18⟩:=h
 have hho:w.holds=true:=h13.2 (by omega)
 have hwa:w.wakes=true:=h14.2 (by omega)
 have hvw:vw w=.put w.u w.v w.put.part.at_.toNat w.put.part.b w.put.part.t:=by unfold vw;simp [ha]
 have hU:Xe m c w.u:=h9 (by omega)
 obtain ⟨un,hun⟩:∃ un:Nat,w.u=un:=⟨w.u.toNat,by have:=hU.1;omega⟩
 have hum:un<m:=by have:=hU.2.1;omega
 have hV:Xe m c w.v:=h10 (by omega)
 obtain ⟨p1,p2,p3,p4,p5,p6⟩:=h17 ha
 unfold Xf Xm Wp
 simp only [ha,hl0,Bool.false_eq_true,if_false,if_true,Option.bind_some,Int.reduceEq,decide_false]
 have hkb:Kl w.put.part.l w.put.part.w=some ((Yi m L R k+1:Nat):Int):=by rw [p1,p2];exact Nx d hk
 have hin:=Ub (m:=m) (L:=L) (R:=R) hk (p:=1) (by omega)
 have hlb:=Uu (l:=l) (q:=Yi m L R k+1) rfl (by omega)
 unfold Z0t Z1f Z1r Zb7 Z9q Z2i
 simp only [p6,e,hkb,hlb,Option.bind_some,hl0,Bool.false_eq_true,if_false,if_true,Int.reduceEq,Int.reduceLT,Int.reduceLE,Int.reduceAdd,Int.reduceSub,decide_false]
 rw [Xb (by constructor <;> omega),Xb (by constructor <;> omega)]
 simp only [p6,e,hkb,hlb,Option.bind_some,hl0,Bool.false_eq_true,if_false,if_true,Int.reduceEq,Int.reduceLT,Int.reduceLE,Int.reduceAdd,Int.reduceSub,decide_false]
 refine Ok.some.2 (hgb _ l ?_ rfl hbh ⟨rfl,rfl,rfl,rfl⟩ _ (.put w.u w.v 1 (cB m L R l k) w.put.part.t) hvw ?_ rfl rfl rfl rfl (fun _ _ _ _ h=>by cases h) (by simp [Yw,Jo]))
 ·constructor <;> first | assumption | (simp only [hho,hwa];omega) | (simp [hho,hwa,h2,h3,hU,hV,p1,p2,p3];done) | (simp [hho,hwa,h2,h3];omega)
 ·unfold vw;simp [cB]
theorem Gi.drops (g:Gi c m L K R t l ws)(hk:k<K){u v b t':Int}{p:Nat}(hv:vw (ws.getD k default)=.put u v p b t')(hw:Wv c m L K R (t+1) k w')(hv':vw w'=.hold u):Gi c m L K R (t+1) l (ws.set k w'):=by
 have hb:=g.bv.bot k hk
 refine g.step hk (σ':=(Xa m L R l ws).go k ((Xa m L R l ws).B k) (.hold u)) ⟨hw,rfl,g.bv.hh,rfl,rfl,?_,rfl,by rw [hv'];rfl,g.ai.drop hk hv,?_,fun j hj=>Gw hj,fun j hj=>?_⟩
 ·show _=upd (cB m L R l) k (cB m L R l k);rw [Z34]
 ·rw [Jo];show _≤cB m L R l k∧cB m L R l k≤_;omega
 ·have:=g.bv.top j hj;show 0≤cT m L R l j∧cT m L R l j≤_;omega
theorem p_put1 (ht:t≤1000000)(g:Gi c m L K R t l ws)(d:Dm m L K R)(hk:k<K)(ha:(ws.getD k default).at_=14)(e:(ws.getD k default).put.part.at_=1):Ok (Xf (ws.getD k default) ⟨l⟩) (fun r=>Gi c m L K R (t+1) r.2.2.l (ws.set k r.2.1)):=by
 have h:=g.wv k hk
 have hlen:=g.bv.len
 have hbh:=g.bv.hh
 have hdm:=d.hm
 have hdL:=d.hL
 have hs:=fun w' l' (hw:Wv c m L K R (t+1) k w') e1 e2 e3 hv=>g.same hk (l':=l') hw e1 e2 e3 hv
 have hgb:=fun w' l' (hw:Wv c m L K R (t+1) k w') e1 e2 e3 v v' hv hv' h1 h2 h3 h4 h5 h6=>g.goesB hk (l':=l') hw e1 e2 e3 (v:=v) (v':=v') hv hv' h1 h2 h3 h4 h5 h6
 have hdr:=fun w' u v p b τ hv (hw:Wv c m L K R (t+1) k w') hv'=>g.drops hk (u:=u) (v:=v) (p:=p) (b:=b) (t':=τ) hv hw hv'
 have hok:Yw K R (Xa m L R l ws) k (vw (ws.getD k default)):=g.ai.each k hk
 have hbt:=g.bv.bot k hk
 have htp:=g.bv.top k hk
 generalize hw:ws.getD k default=w at *
 have hl:=h.hl
 have hlim:=h.hlim
 have hl0:decide (w.limit=0)=false:=by simp;omega
 obtain ⟨h1,h2,h3,h4,h5,h6,h7,h8,h9,h10,h11,h12,h13,h14,h15,h16,h17,h18⟩:=h
 have hho:w.holds=true:=h13.2 (by omega)
 have hwa:w.wakes=true:=h14.2 (by omega)
 have hvw:vw w=.put w.u w.v w.put.part.at_.toNat w.put.part.b w.put.part.t:=by unfold vw;simp [ha]
 have hU:Xe m c w.u:=h9 (by omega)
 obtain ⟨un,hun⟩:∃ un:Nat,w.u=un:=⟨w.u.toNat,by have:=hU.1;omega⟩
 have hum:un<m:=by have:=hU.2.1;omega
 have hV:Xe m c w.v:=h10 (by omega)
 obtain ⟨p1,p2,p3,p4,p5,p6⟩:=h17 ha
 rw [hvw,e] at hok
 have hbB:w.put.part.b=cB m L R l k:=by simp only [Yw] at hok;exact hok.1 (by decide)
 have hR:w.put.part.l.Room=R:=by rw [p1];rfl
 unfold Xf Xm Wp
 simp only [ha,hl0,Bool.false_eq_true,if_false,if_true,Option.bind_some,Int.reduceEq,decide_false]
 have hkt:Jk w.put.part.l w.put.part.w=some ((Yi m L R k:Nat):Int):=by rw [p1,p2];exact Z0h d hk
 have hin:=Ub (m:=m) (L:=L) (R:=R) hk (p:=0) (by omega)
 have hlt:=Uu (l:=l) (q:=Yi m L R k) rfl (by omega)
 unfold Z0t Z1f Z1r Zb8 Z9n Z8g Z2l
 simp only [p6,e,hkt,hlt,Option.bind_some,hl0,Bool.false_eq_true,if_false,if_true,Int.reduceEq,Int.reduceLT,Int.reduceLE,Int.reduceAdd,Int.reduceSub,decide_false]
 rw [Xb (by constructor <;> omega),Xb (by constructor <;> omega)]
 simp only [p6,e,hkt,hlt,Option.bind_some,hl0,Bool.false_eq_true,if_false,if_true,Int.reduceEq,Int.reduceLT,Int.reduceLE,Int.reduceAdd,Int.reduceSub,decide_false]
 have hT:cT m L R l k=l.getD (Yi m L R k) 0:=rfl
 rw [Xb (by constructor <;> omega)]
 by_cases c1:w.put.part.l.Room≤w.put.part.b-l.getD (Yi m L R k) 0
 ·
  rw [if_pos c1]
  simp only [p6,e,hkt,hlt,Option.bind_some,hl0,Bool.false_eq_true,if_false,if_true,Int.reduceEq,Int.reduceLT,Int.reduceLE,Int.reduceAdd,Int.reduceSub,decide_false]
  refine Ok.some.2 (hdr _ w.u w.v 1 w.put.part.b w.put.part.t (by rw [hvw,e];rfl) ?_ ?_)
  ·constructor <;> first | assumption | (simp only [hho,hwa];omega) | (simp [hho,hwa,h2,h3,hU,hV,p1,p2,p3];done) | (simp [hho,hwa,h2,h3];omega)
  ·unfold vw;simp
 ·
  rw [if_neg c1]
  simp only [p6,e,hkt,hlt,Option.bind_some,hl0,Bool.false_eq_true,if_false,if_true,Int.reduceEq,Int.reduceLT,Int.reduceLE,Int.reduceAdd,Int.reduceSub,decide_false]
  refine Ok.some.2 (hgb _ l ?_ rfl hbh ⟨rfl,rfl,rfl,rfl⟩ _ (.put w.u w.v 2 w.put.part.b (cT m L R l k)) hvw ?_ rfl rfl rfl rfl (fun _ _ _ _ h=>by cases h) ?_)
  ·constructor <;> first | assumption | (simp only [hho,hwa];omega) | (simp [hho,hwa,h2,h3,hU,hV,p1,p2,p3];done) | (simp [hho,hwa,h2,h3];omega)
  ·unfold vw;simp [cT]
  ·simp only [Yw,Jo];exact ⟨fun _=>hbB,fun _=>⟨by rw [hT];omega,Int.le_refl _⟩,fun h=>by omega,by omega⟩
end
end Go.Acq
namespace Go.Acq
open Go
section
variable {n : Net} {c : Csr} {m L K R k un vn : Nat} {t : Int} {l l' : List Int} {ws : List WorkerWorker} {w w' : WorkerWorker}
theorem Gi.writes (g:Gi c m L K R t l ws)(d:Dm m L K R)(hk:k<K){u v b t':Int}(hv:vw (ws.getD k default)=.put u v 2 b t')(hw:Wv c m L K R (t+1) k w')(hv':vw w'=.put u v 3 b t'):Gi c m L K R (t+1) (l.set (Yi m L R k+2+b.toNat%R) v) (ws.set k w'):=by
 have hb:=g.bv.bot k hk
 have hdm:=d.hm
 have hdR:=d.hR
 have hlt:b.toNat%R<R:=Nat.mod_lt _ (by omega)
 have hin:=Ub (m:=m) (L:=L) (R:=R) hk (p:=2+b.toNat%R) (by omega)
 have hs:=set_S (m:=m) (L:=L) (R:=R) (k:=k) (l:=l) (x:=v) hlt (by rw [g.bv.len];omega)
 refine g.step hk (σ':=⟨(Xa m L R l ws).F,(Xa m L R l ws).T,(Xa m L R l ws).B,upd (Xa m L R l ws).S k (upd ((Xa m L R l ws).S k) (b.toNat%R) v),upd (Xa m L R l ws).V k (.put u v 3 b t')⟩) ⟨hw,by rw [List.length_set],fun v hv=>by rw [Xw (by omega)];exact g.bv.hh v hv,hs.1,hs.2.1,hs.2.2.1,hs.2.2.2,by rw [hv'];rfl,g.ai.write hk hv,⟨?_,?_⟩,fun _ _=>rfl,fun j hj=>?_⟩
 ·show _≤cB m L R l k;omega
 ·show cB m L R l k≤_;omega
 ·have:=g.bv.top j hj;show 0≤cT m L R l j∧cT m L R l j≤_;omega
theorem Gi.puts (g:Gi c m L K R t l ws)(hk:k<K){u v b t':Int}(hv:vw (ws.getD k default)=.put u v 3 b t')(hw:Wv c m L K R (t+1) k w')(hv':vw w'=.hold u):Gi c m L K R (t+1) (l.set (Yi m L R k+1) (b+1)) (ws.set k w'):=by
 have hb:=g.bv.bot k hk
 have hok:Yw K R (Xa m L R l ws) k (vw (ws.getD k default)):=g.ai.each k hk
 rw [hv] at hok
 simp only [Yw] at hok
 have hbB:b=cB m L R l k:=hok.1 (by decide)
 have hin:=Ub (m:=m) (L:=L) (R:=R) hk (p:=1) (by omega)
 have hs:=Z20 (m:=m) (L:=L) (R:=R) (k:=k) (l:=l) (x:=b+1) (by rw [g.bv.len];omega)
 refine g.step hk (σ':=(Xa m L R l ws).go k (b+1) (.hold u)) ⟨hw,by rw [List.length_set],fun v hv=>by rw [Xw (by omega)];exact g.bv.hh v hv,hs.1,hs.2.1,hs.2.2.1,hs.2.2.2,by rw [hv'];rfl,g.ai.put hk hv,?_,fun j hj=>Gw hj,fun j hj=>?_⟩
 ·rw [Jo];omega
 ·have:=g.bv.top j hj;show 0≤cT m L R l j∧cT m L R l j≤_;omega
theorem p_put2 (ht:t≤1000000)(g:Gi c m L K R t l ws)(d:Dm m L K R)(hk:k<K)(ha:(ws.getD k default).at_=14)(e:(ws.getD k default).put.part.at_=2):Ok (Xf (ws.getD k default) ⟨l⟩) (fun r=>Gi c m L K R (t+1) r.2.2.l (ws.set k r.2.1)):=by
 have h:=g.wv k hk
 have hlen:=g.bv.len
 have hbh:=g.bv.hh
 have hdm:=d.hm
 have hdL:=d.hL
 have hs_:=fun w' l' (hw:Wv c m L K R (t+1) k w') e1 e2 e3 hv=>g.same hk (l':=l') hw e1 e2 e3 hv
 have hwr:=fun w' u v b τ hv (hw:Wv c m L K R (t+1) k w') hv'=>g.writes d hk (u:=u) (v:=v) (b:=b) (t':=τ) hv hw hv'
 have hpu:=fun w' u v b τ hv (hw:Wv c m L K R (t+1) k w') hv'=>g.puts hk (u:=u) (v:=v) (b:=b) (t':=τ) hv hw hv'
 have hok:Yw K R (Xa m L R l ws) k (vw (ws.getD k default)):=g.ai.each k hk
 have hsh:=g.ai.shape k hk
 have hbt:=g.bv.bot k hk
 generalize hw:ws.getD k default=w at hwr hpu hok h ha e ⊢
 have hl:=h.hl
 have hlim:=h.hlim
 have hl0:decide (w.limit=0)=false:=by simp;omega
 obtain ⟨h1,h2,h3,h4,h5,h6,h7,h8,h9,h10,h11,h12,h13,h14,h15,h16,h17,h18⟩:=h
 have hho:w.holds=true:=h13.2 (by omega)
 have hwa:w.wakes=true:=h14.2 (by omega)
 have hvw:vw w=.put w.u w.v w.put.part.at_.toNat w.put.part.b w.put.part.t:=by unfold vw;simp [ha]
 have hU:Xe m c w.u:=h9 (by omega)
 obtain ⟨un,hun⟩:∃ un:Nat,w.u=un:=⟨w.u.toNat,by have:=hU.1;omega⟩
 have hum:un<m:=by have:=hU.2.1;omega
 have hV:Xe m c w.v:=h10 (by omega)
 obtain ⟨p1,p2,p3,p4,p5,p6⟩:=h17 ha
 rw [hvw,e] at hok
 have hbB:w.put.part.b=cB m L R l k:=by simp only [Yw] at hok;exact hok.1 (by decide)
 have hE:(Xa m L R l ws).E k=cB m L R l k:=by show Wx (cB m L R l k) (vw (ws.getD k default))=_;rw [hw,hvw];rfl
 have hb0:0≤w.put.part.b:=by have h1:=hsh.1;have h2:=hsh.2.1;rw [hE] at h2;have:0≤cT m L R l k:=h1;have:cT m L R l k≤cB m L R l k:=h2;omega
 unfold Xf Xm Wp
 simp only [ha,hl0,Bool.false_eq_true,if_false,if_true,Option.bind_some,Int.reduceEq,decide_false]
 have hsl:Gk w.put.part.l w.put.part.w w.put.part.b=some ((Yi m L R k+2+w.put.part.b.toNat%R:Nat):Int):=by rw [p1,p2];exact Z4n d hk hb0 (by omega)
 have hlt:w.put.part.b.toNat%R<R:=Nat.mod_lt _ (by have:=d.hR;omega)
 have hin:=Ub (m:=m) (L:=L) (R:=R) hk (p:=2+w.put.part.b.toNat%R) (by omega)
 have hst:=Kk (l:=l) (v:=w.put.v) (q:=Yi m L R k+2+w.put.part.b.toNat%R) rfl (by omega)
 unfold Z0t Z1f Z1r Z8o Z7r
 simp only [p6,e,hst,hsl,Option.bind_some,hl0,Bool.false_eq_true,if_false,if_true,Int.reduceEq,Int.reduceLT,Int.reduceLE,Int.reduceAdd,Int.reduceSub,decide_false]
 rw [Xb (by constructor <;> omega),Xb (by constructor <;> omega)]
 simp only [p6,e,hst,hsl,Option.bind_some,hl0,Bool.false_eq_true,if_false,if_true,Int.reduceEq,Int.reduceLT,Int.reduceLE,Int.reduceAdd,Int.reduceSub,decide_false]
 rw [p3]
 refine Ok.some.2 (hwr _ w.u w.v w.put.part.b w.put.part.t (by rw [hvw,e];rfl) ?_ ?_)
 ·constructor <;> first | assumption | (simp only [hho,hwa];omega) | (simp [hho,hwa,h2,h3,hU,hV,p1,p2,p3];done) | (simp [hho,hwa,h2,h3];omega)
 ·unfold vw;simp
theorem p_put3 (ht:t≤1000000)(g:Gi c m L K R t l ws)(d:Dm m L K R)(hk:k<K)(ha:(ws.getD k default).at_=14)(e:(ws.getD k default).put.part.at_=3):Ok (Xf (ws.getD k default) ⟨l⟩) (fun r=>Gi c m L K R (t+1) r.2.2.l (ws.set k r.2.1)):=by
 have h:=g.wv k hk
 have hlen:=g.bv.len
 have hbh:=g.bv.hh
 have hdm:=d.hm
 have hdL:=d.hL
 have hs_:=fun w' l' (hw:Wv c m L K R (t+1) k w') e1 e2 e3 hv=>g.same hk (l':=l') hw e1 e2 e3 hv
 have hwr:=fun w' u v b τ hv (hw:Wv c m L K R (t+1) k w') hv'=>g.writes d hk (u:=u) (v:=v) (b:=b) (t':=τ) hv hw hv'
 have hpu:=fun w' u v b τ hv (hw:Wv c m L K R (t+1) k w') hv'=>g.puts hk (u:=u) (v:=v) (b:=b) (t':=τ) hv hw hv'
 have hok:Yw K R (Xa m L R l ws) k (vw (ws.getD k default)):=g.ai.each k hk
 have hsh:=g.ai.shape k hk
 have hbt:=g.bv.bot k hk
 generalize hw:ws.getD k default=w at hwr hpu hok h ha e ⊢
 have hl:=h.hl
 have hlim:=h.hlim
 have hl0:decide (w.limit=0)=false:=by simp;omega
 obtain ⟨h1,h2,h3,h4,h5,h6,h7,h8,h9,h10,h11,h12,h13,h14,h15,h16,h17,h18⟩:=h
 have hho:w.holds=true:=h13.2 (by omega)
 have hwa:w.wakes=true:=h14.2 (by omega)
 have hvw:vw w=.put w.u w.v w.put.part.at_.toNat w.put.part.b w.put.part.t:=by unfold vw;simp [ha]
 have hU:Xe m c w.u:=h9 (by omega)
 obtain ⟨un,hun⟩:∃ un:Nat,w.u=un:=⟨w.u.toNat,by have:=hU.1;omega⟩
 have hum:un<m:=by have:=hU.2.1;omega
 have hV:Xe m c w.v:=h10 (by omega)
 obtain ⟨p1,p2,p3,p4,p5,p6⟩:=h17 ha
 rw [hvw,e] at hok
 have hbB:w.put.part.b=cB m L R l k:=by simp only [Yw] at hok;exact hok.1 (by decide)
 have hE:(Xa m L R l ws).E k=cB m L R l k:=by show Wx (cB m L R l k) (vw (ws.getD k default))=_;rw [hw,hvw];rfl
 have hb0:0≤w.put.part.b:=by have h1:=hsh.1;have h2:=hsh.2.1;rw [hE] at h2;have:0≤cT m L R l k:=h1;have:cT m L R l k≤cB m L R l k:=h2;omega
 unfold Xf Xm Wp
 simp only [ha,hl0,Bool.false_eq_true,if_false,if_true,Option.bind_some,Int.reduceEq,decide_false]
 have hkb:Kl w.put.part.l w.put.part.w=some ((Yi m L R k+1:Nat):Int):=by rw [p1,p2];exact Nx d hk
 have hin:=Ub (m:=m) (L:=L) (R:=R) hk (p:=1) (by omega)
 have hst:=Kk (l:=l) (v:=w.put.part.b+1) (q:=Yi m L R k+1) rfl (by omega)
 unfold Z0t Z1f Z1r Z8n Z2i Z2l
 simp only [p6,e,hst,hkb,Option.bind_some,hl0,Bool.false_eq_true,if_false,if_true,Int.reduceEq,Int.reduceLT,Int.reduceLE,Int.reduceAdd,Int.reduceSub,decide_false]
 rw [Xb (by constructor <;> omega),Xb (by constructor <;> omega)]
 simp only [p6,e,hst,hkb,Option.bind_some,hl0,Bool.false_eq_true,if_false,if_true,Int.reduceEq,Int.reduceLT,Int.reduceLE,Int.reduceAdd,Int.reduceSub,decide_false]
 rw [Xb (by constructor <;> omega)]
 simp only [p6,e,hst,hkb,Option.bind_some,hl0,Bool.false_eq_true,if_false,if_true,Int.reduceEq,Int.reduceLT,Int.reduceLE,Int.reduceAdd,Int.reduceSub,decide_false]
 refine Ok.some.2 (hpu _ w.u w.v w.put.part.b w.put.part.t (by rw [hvw,e];rfl) ?_ ?_)
 ·constructor <;> first | assumption | (simp only [hho,hwa];omega) | (simp [hho,hwa,h2,h3,hU,hV,p1,p2,p3];done) | (simp [hho,hwa,h2,h3];omega)
 ·unfold vw;simp
end
end Go.Acq
namespace Go.Acq
open Go
section
variable {n : Net} {c : Csr} {m L K R k j : Nat} {t : Int} {l l' : List Int} {ws : List WorkerWorker} {w w' : WorkerWorker}
theorem Gi.goesV (g:Gi c m L K R t l ws)(hk:k<K){B':Int}(hw:Wv c m L K R (t+1) k w')(hlen:l'.length=l.length)(hh:∀ v,v<m→0≤l'.getD (L+m+v) 0∧l'.getD (L+m+v) 0≤m)
    (h:cF m L l'=cF m L l∧cT m L R l'=cT m L R l∧cB m L R l'=upd (cB m L R l) k B'∧cS m L R l'=cS m L R l)(hB:-(t+1)-8≤B'∧B'≤t+1+8){v v':Vw}(hv:vw (ws.getD k default)=v)(hv':vw w'=v')
    (h1:v'.held=v.held)(h2:v'.woken=v.woken)(h3:v'.popped=v.popped)(h4:Wx B' v'=Wx (cB m L R l k) v)
    (h5:∀ j,j<K→j≠k→∀ y,v'.thief j=some y→v.thief j=some y∨y<cB m L R l j)(h6:Yw K R ((Xa m L R l ws).go k B' v') k v'):Gi c m L K R (t+1) l' (ws.set k w'):=by
  subst hv;subst hv'
  exact g.goes hk hw hlen hh h hB h1 h2 h3 h4 h5 h6
theorem Jz (g:Gi c m L K R t l ws)(q:Nat)(h:q<L+m∨L+m+m≤q)(x:Int):∀ v,v<m→0≤(l.set q x).getD (L+m+v) 0∧(l.set q x).getD (L+m+v) 0≤m:=fun v hv=>by
 rw [Xw (by omega)];exact g.bv.hh v hv
theorem Gi.pops (g:Gi c m L K R t l ws)(hk:k<K){b t' x:Int}{q:Bool}(hv:vw (ws.getD k default)=.take 3 b t' x q)(htb:t'<b)(hw:Xe m c (cS m L R l k (b.toNat%R))→Wv c m L K R (t+1) k w')(hv':vw w'=.hold (cS m L R l k (b.toNat%R))):Gi c m L K R (t+1) l (ws.set k w'):=by
 have hb:=g.bv.bot k hk
 have ai:=g.ai.pop hk hv htb
 have hU:=(ai.flg (.hold k) (cS m L R l k (b.toNat%R)) (by simp only [AS.val,if_pos hk,Rn];rfl)).1
 refine g.step hk (σ':=(Xa m L R l ws).go k ((Xa m L R l ws).B k) (.hold (cS m L R l k (b.toNat%R)))) ⟨hw hU,rfl,g.bv.hh,rfl,rfl,?_,rfl,by rw [hv'];rfl,ai,?_,fun j hj=>Gw hj,fun j hj=>?_⟩
 ·show _=upd (cB m L R l) k (cB m L R l k);rw [Z34]
 ·rw [Jo];show _≤cB m L R l k∧cB m L R l k≤_;omega
 ·have:=g.bv.top j hj;show 0≤cT m L R l j∧cT m L R l j≤_;omega
theorem Gi.lasts (g:Gi c m L K R t l ws)(hk:k<K){b t' x:Int}{q:Bool}(hv:vw (ws.getD k default)=.take 4 b t' x q)(hc:cT m L R l k=t')(hw:Wv c m L K R (t+1) k w')(hv':vw w'=.take 5 b t' x true):Gi c m L K R (t+1) (l.set (Yi m L R k) (t'+1)) (ws.set k w'):=by
 have hb:=g.bv.bot k hk
 have htp:=g.bv.top k hk
 have hin:=Ub (m:=m) (L:=L) (R:=R) hk (p:=0) (by omega)
 have hs:=set_T (m:=m) (L:=L) (R:=R) (k:=k) (l:=l) (x:=t'+1) (by rw [g.bv.len];omega)
 refine g.step hk (σ':=⟨(Xa m L R l ws).F,upd (Xa m L R l ws).T k (t'+1),(Xa m L R l ws).B,(Xa m L R l ws).S,upd (Xa m L R l ws).V k (.take 5 b t' x true)⟩) ⟨hw,by rw [List.length_set],Jz g _ (by omega) _,hs.1,hs.2.1,hs.2.2.1,hs.2.2.2,by rw [hv'];rfl,g.ai.last hk hv hc,?_,fun j hj=>rfl,fun j hj=>?_⟩
 ·show _≤cB m L R l k∧cB m L R l k≤_;omega
 ·
  have:=g.bv.top j hj
  show 0≤upd (cT m L R l) k (t'+1) j∧upd (cT m L R l) k (t'+1) j≤_
  by_cases c1:j=k
  ·subst c1;rw [Ul];omega
  ·rw [Us c1];omega
theorem Gi.gots (g:Gi c m L K R t l ws)(hk:k<K){b t' x:Int}(hv:vw (ws.getD k default)=.take 5 b t' x true)(hw:Xe m c x→Wv c m L K R (t+1) k w')(hv':vw w'=.hold x):Gi c m L K R (t+1) (l.set (Yi m L R k+1) (b+1)) (ws.set k w'):=by
 have hb:=g.bv.bot k hk
 have hok:Yw K R (Xa m L R l ws) k (vw (ws.getD k default)):=g.ai.each k hk
 rw [hv] at hok
 simp only [Yw] at hok
 have hbB:cB m L R l k=b:=hok.2.1 (by decide)
 have hU:=(g.ai.flg (.pg k) x (by simp only [AS.val,if_pos hk];show (vw (ws.getD k default)).popped=_;rw [hv];simp [Vw.popped])).1
 have hin:=Ub (m:=m) (L:=L) (R:=R) hk (p:=1) (by omega)
 have hs:=Z20 (m:=m) (L:=L) (R:=R) (k:=k) (l:=l) (x:=b+1) (by rw [g.bv.len];omega)
 refine g.step hk (σ':=(Xa m L R l ws).go k (b+1) (.hold x)) ⟨hw hU,by rw [List.length_set],Jz g _ (by omega) _,hs.1,hs.2.1,hs.2.2.1,hs.2.2.2,by rw [hv'];rfl,g.ai.got hk hv,?_,fun j hj=>Gw hj,fun j hj=>?_⟩
 ·rw [Jo];omega
 ·have:=g.bv.top j hj;show 0≤cT m L R l j∧cT m L R l j≤_;omega
theorem Gi.robs (g:Gi c m L K R t l ws)(hk:k<K)(hj:j<K){t' x:Int}(hv:vw (ws.getD k default)=.steal j 3 t' x)(hc:cT m L R l j=t')(hw:Xe m c x→Wv c m L K R (t+1) k w')(hv':vw w'=.hold x):Gi c m L K R (t+1) (l.set (Yi m L R j) (t'+1)) (ws.set k w'):=by
 have hb:=g.bv.bot k hk
 have htp:=g.bv.top j hj
 have hin:=Ub (m:=m) (L:=L) (R:=R) hj (p:=0) (by omega)
 have hs:=set_T (m:=m) (L:=L) (R:=R) (k:=j) (l:=l) (x:=t'+1) (by rw [g.bv.len];omega)
 have ai:=g.ai.rob hk hv hc
 have hU:=(ai.flg (.hold k) x (by simp only [AS.val,if_pos hk,Ul];rfl)).1
 refine g.step hk (σ':=⟨(Xa m L R l ws).F,upd (Xa m L R l ws).T j (t'+1),(Xa m L R l ws).B,(Xa m L R l ws).S,upd (Xa m L R l ws).V k (.hold x)⟩) ⟨hw hU,by rw [List.length_set],Jz g _ (by omega) _,hs.1,hs.2.1,hs.2.2.1,hs.2.2.2,by rw [hv'];rfl,ai,?_,fun j hj=>rfl,fun i hi=>?_⟩
 ·show _≤cB m L R l k∧cB m L R l k≤_;omega
 ·
  have:=g.bv.top i hi
  show 0≤upd (cT m L R l) j (t'+1) i∧upd (cT m L R l) j (t'+1) i≤_
  by_cases c1:i=j
  ·subst c1;rw [Ul];omega
  ·rw [Us c1];omega
theorem s_rob (d:Dm m L K R)(hk:k<K)(hl:w.l=Yy m L K R)(hid:w.id=k){k1:Int}(h0:0≤k1)(h1:k1≤K) :
    Z01 w k1=some { w with at_:=2,from_:=k1 }∨k1<K∧∃ j:Nat,j<K∧Z01 w k1=some { w with at_:=1,steal:=⟨⟨Yy m L K R,j,0,0,0,0,false,false⟩,false⟩,from_:=k1 }:=by
  have hK:=d.hK
  have hW:w.l.Workers=K:=by rw [hl];rfl
  unfold Z01
  rw [hW,hid]
  by_cases hc:(K:Int)≤k1
  ·rw [if_pos hc];exact .inl rfl
  · rw [if_neg hc, Xb (by constructor <;> omega), Xb (by omega)]
    refine .inr ⟨by omega,((k+k1.toNat)%K),Nat.mod_lt _ (by omega),?_⟩
    have e1:((k:Int)+k1).tmod K=(((k+k1.toNat)%K:Nat):Int):=by
      rw [show (k:Int)+k1=((k+k1.toNat:Nat):Int) by omega,Int.ofNat_tmod]
    rw [e1]
    unfold Z7o
    rw [hl]
    rfl
theorem Zaa (d:Dm m L K R)(hk:k<K)(hl:w.l=Yy m L K R)(hid:w.id=k){k1:Int}(h0:0≤k1)(h1:k1≤K) :
    Ok (Z01 w k1) (fun x=>x={ w with at_:=2,from_:=k1 }∨k1<K∧∃ j:Nat,j<K∧x={ w with at_:=1,steal:=⟨⟨Yy m L K R,j,0,0,0,0,false,false⟩,false⟩,from_:=k1 }):=by
  rcases s_rob d hk hl hid h0 h1 with h | ⟨h2,j,hj,h⟩
  ·rw [h];exact Ok.some.2 (.inl rfl)
  ·rw [h];exact Ok.some.2 (.inr ⟨h2,j,hj,rfl⟩)
end
end Go.Acq
namespace Go.Acq
open Go
section
variable {n : Net} {c : Csr} {m L K R k : Nat} {t : Int} {l l' : List Int} {ws : List WorkerWorker} {w w' : WorkerWorker}
theorem p_take0 (ht:t≤1000000)(g:Gi c m L K R t l ws)(d:Dm m L K R)(hk:k<K)(ha:(ws.getD k default).at_=0)(e:(ws.getD k default).pop.part.at_=0):Ok (Xf (ws.getD k default) ⟨l⟩) (fun r=>Gi c m L K R (t+1) r.2.2.l (ws.set k r.2.1)):=by
 have h:=g.wv k hk
 have hlen:=g.bv.len
 have hbh:=g.bv.hh
 have hdm:=d.hm
 have hdL:=d.hL
 have hdK:=d.hK
 have hdR:=d.hR
 have hss:=fun q h x=>Jz g q h x
 have hgv:=fun w' l' B' (hw:Wv c m L K R (t+1) k w') e1 e2 e3 e4 v v' hv hv' h1 h2 h3 h4 h5 h6=>g.goesV hk (l':=l') (B':=B') hw e1 e2 e3 e4 (v:=v) (v':=v') hv hv' h1 h2 h3 h4 h5 h6
 have hgb:=fun w' l' (hw:Wv c m L K R (t+1) k w') e1 e2 e3 v v' hv hv' h1 h2 h3 h4 h5 h6=>g.goesB hk (l':=l') hw e1 e2 e3 (v:=v) (v':=v') hv hv' h1 h2 h3 h4 h5 h6
 have hpo:=fun w' b τ x q hv htb hw' hv'=>g.pops hk (w':=w') (b:=b) (t':=τ) (x:=x) (q:=q) hv htb hw' hv'
 have hla:=fun w' b τ x q hv hc hw' hv'=>g.lasts hk (w':=w') (b:=b) (t':=τ) (x:=x) (q:=q) hv hc hw' hv'
 have hgt:=fun w' b τ x hv hw' hv'=>g.gots hk (w':=w') (b:=b) (t':=τ) (x:=x) hv hw' hv'
 have heach:=g.ai.each
 have hok:Yw K R (Xa m L R l ws) k (vw (ws.getD k default)):=g.ai.each k hk
 have hbt:=g.bv.bot
 have htp:=g.bv.top
 have hshp:=g.ai.shape
 generalize hw:ws.getD k default=w at hgv hgb hpo hla hgt hok h ha e ⊢
 have hl:=h.hl
 have hlim:=h.hlim
 have hl0:decide (w.limit=0)=false:=by simp;omega
 obtain ⟨h1,h2,h3,h4,h5,h6,h7,h8,h9,h10,h11,h12,h13,h14,h15,h16,h17,h18⟩:=h
 have hho:w.holds=false:=by
  cases e:w.holds with
  | false=>rfl
  | true=>have:=h13.1 e;omega
 have hwa:w.wakes=false:=by
  cases e:w.wakes with
  | false=>rfl
  | true=>have:=h14.1 e;omega
 obtain ⟨p1,p2,p3,p4,p5,p6⟩:=h15 ha
 have hvw:vw w=.take 0 w.pop.part.b w.pop.part.t w.pop.part.x w.pop.part.got:=by unfold vw;simp [ha,e]
 rw [hvw] at hok
 have hbk:=hbt k hk
 have htk:=htp k hk
 have hgot:w.pop.part.got=false:=p6 (by omega)
 unfold Xf Xm Wp
 simp only [ha,hl0,Bool.false_eq_true,if_false,if_true,Option.bind_some,Int.reduceEq,decide_false]
 have hkb:Kl w.pop.part.l w.pop.part.w=some ((Yi m L R k+1:Nat):Int):=by rw [p1,p2];exact Nx d hk
 have hin:=Ub (m:=m) (L:=L) (R:=R) hk (p:=1) (by omega)
 have hlb:=Uu (l:=l) (q:=Yi m L R k+1) rfl (by omega)
 have hB:cB m L R l k=l.getD (Yi m L R k+1) 0:=rfl
 unfold Rt Lw Rr Zb9 Z86 Lx
 simp only [p5,e,hkb,hlb,Option.bind_some,hl0,Bool.false_eq_true,Bool.not_false,Bool.not_true,if_false,if_true,Int.reduceEq,Int.reduceLT,Int.reduceLE,Int.reduceAdd,Int.reduceSub,decide_false]
 rw [Xb (by constructor <;> omega),Xb (by constructor <;> omega)]
 simp only [p5,e,hkb,hlb,Option.bind_some,hl0,Bool.false_eq_true,Bool.not_false,Bool.not_true,if_false,if_true,Int.reduceEq,Int.reduceLT,Int.reduceLE,Int.reduceAdd,Int.reduceSub,decide_false]
 rw [Xb (by constructor <;> omega)]
 simp only [p5,e,hkb,hlb,Option.bind_some,hl0,Bool.false_eq_true,Bool.not_false,Bool.not_true,if_false,if_true,Int.reduceEq,Int.reduceLT,Int.reduceLE,Int.reduceAdd,Int.reduceSub,decide_false]
 refine Ok.some.2 (hgb _ l ?_ rfl hbh ⟨rfl,rfl,rfl,rfl⟩ _ (.take 1 (cB m L R l k-1) w.pop.part.t w.pop.part.x w.pop.part.got) hvw ?_ rfl rfl (by simp [Vw.popped]) (by simp [Wx]) (fun _ _ _ _ h=>by cases h) (by simp [Yw,Jo]))
 ·constructor <;> first | assumption | (simp only [hho,hwa];omega) | (simp [hho,hwa,h2,h3,p1,p2,p5,hgot,e];done) | (simp [hho,hwa,h2,h3];omega) | (intro _;simp [hho,hwa,h2,h3,p1,p2,p5,hgot,e];omega)
 ·unfold vw;simp [cB]
theorem p_take1 (ht:t≤1000000)(g:Gi c m L K R t l ws)(d:Dm m L K R)(hk:k<K)(ha:(ws.getD k default).at_=0)(e:(ws.getD k default).pop.part.at_=1):Ok (Xf (ws.getD k default) ⟨l⟩) (fun r=>Gi c m L K R (t+1) r.2.2.l (ws.set k r.2.1)):=by
 have h:=g.wv k hk
 have hlen:=g.bv.len
 have hbh:=g.bv.hh
 have hdm:=d.hm
 have hdL:=d.hL
 have hdK:=d.hK
 have hdR:=d.hR
 have hss:=fun q h x=>Jz g q h x
 have hgv:=fun w' l' B' (hw:Wv c m L K R (t+1) k w') e1 e2 e3 e4 v v' hv hv' h1 h2 h3 h4 h5 h6=>g.goesV hk (l':=l') (B':=B') hw e1 e2 e3 e4 (v:=v) (v':=v') hv hv' h1 h2 h3 h4 h5 h6
 have hgb:=fun w' l' (hw:Wv c m L K R (t+1) k w') e1 e2 e3 v v' hv hv' h1 h2 h3 h4 h5 h6=>g.goesB hk (l':=l') hw e1 e2 e3 (v:=v) (v':=v') hv hv' h1 h2 h3 h4 h5 h6
 have hpo:=fun w' b τ x q hv htb hw' hv'=>g.pops hk (w':=w') (b:=b) (t':=τ) (x:=x) (q:=q) hv htb hw' hv'
 have hla:=fun w' b τ x q hv hc hw' hv'=>g.lasts hk (w':=w') (b:=b) (t':=τ) (x:=x) (q:=q) hv hc hw' hv'
 have hgt:=fun w' b τ x hv hw' hv'=>g.gots hk (w':=w') (b:=b) (t':=τ) (x:=x) hv hw' hv'
 have heach:=g.ai.each
 have hok:Yw K R (Xa m L R l ws) k (vw (ws.getD k default)):=g.ai.each k hk
 have hbt:=g.bv.bot
 have htp:=g.bv.top
 have hshp:=g.ai.shape
 generalize hw:ws.getD k default=w at hgv hgb hpo hla hgt hok h ha e ⊢
 have hl:=h.hl
 have hlim:=h.hlim
 have hl0:decide (w.limit=0)=false:=by simp;omega
 obtain ⟨h1,h2,h3,h4,h5,h6,h7,h8,h9,h10,h11,h12,h13,h14,h15,h16,h17,h18⟩:=h
 have hho:w.holds=false:=by
  cases e:w.holds with
  | false=>rfl
  | true=>have:=h13.1 e;omega
 have hwa:w.wakes=false:=by
  cases e:w.wakes with
  | false=>rfl
  | true=>have:=h14.1 e;omega
 obtain ⟨p1,p2,p3,p4,p5,p6⟩:=h15 ha
 have hvw:vw w=.take 1 w.pop.part.b w.pop.part.t w.pop.part.x w.pop.part.got:=by unfold vw;simp [ha,e]
 rw [hvw] at hok
 have hbk:=hbt k hk
 have htk:=htp k hk
 have hgot:w.pop.part.got=false:=p6 (by omega)
 have hbB:w.pop.part.b=cB m L R l k-1:=by simp only [Yw] at hok;exact hok.1 trivial
 unfold Xf Xm Wp
 simp only [ha,hl0,Bool.false_eq_true,if_false,if_true,Option.bind_some,Int.reduceEq,decide_false]
 have hkb:Kl w.pop.part.l w.pop.part.w=some ((Yi m L R k+1:Nat):Int):=by rw [p1,p2];exact Nx d hk
 have hin:=Ub (m:=m) (L:=L) (R:=R) hk (p:=1) (by omega)
 have hst:=Kk (l:=l) (v:=w.pop.part.b) (q:=Yi m L R k+1) rfl (by omega)
 have hs:=Z20 (m:=m) (L:=L) (R:=R) (k:=k) (l:=l) (x:=w.pop.part.b) (by omega)
 unfold Rt Lw Rr Zb0 Lx
 simp only [p5,e,hkb,hst,Option.bind_some,hl0,Bool.false_eq_true,Bool.not_false,Bool.not_true,if_false,if_true,Int.reduceEq,Int.reduceLT,Int.reduceLE,Int.reduceAdd,Int.reduceSub,decide_false]
 rw [Xb (by constructor <;> omega),Xb (by constructor <;> omega)]
 simp only [p5,e,hkb,hst,Option.bind_some,hl0,Bool.false_eq_true,Bool.not_false,Bool.not_true,if_false,if_true,Int.reduceEq,Int.reduceLT,Int.reduceLE,Int.reduceAdd,Int.reduceSub,decide_false]
 refine Ok.some.2 (hgv _ _ w.pop.part.b ?_ (by rw [List.length_set]) (hss _ (by omega) _) hs ⟨by omega,by omega⟩ _ (.take 2 w.pop.part.b w.pop.part.t w.pop.part.x w.pop.part.got) hvw ?_ rfl rfl (by simp [Vw.popped]) (by simp [Wx] <;> omega) (fun _ _ _ _ h=>by cases h) (by simp [Yw,Jo]))
 ·constructor <;> first | assumption | (simp only [hho,hwa];omega) | (simp [hho,hwa,h2,h3,p1,p2,p5,hgot,e];done) | (simp [hho,hwa,h2,h3];omega) | (intro _;simp [hho,hwa,h2,h3,p1,p2,p5,hgot,e];omega)
 ·unfold vw;simp
theorem p_take2 (ht:t≤1000000)(g:Gi c m L K R t l ws)(d:Dm m L K R)(hk:k<K)(ha:(ws.getD k default).at_=0)(e:(ws.getD k default).pop.part.at_=2):Ok (Xf (ws.getD k default) ⟨l⟩) (fun r=>Gi c m L K R (t+1) r.2.2.l (ws.set k r.2.1)):=by
 have h:=g.wv k hk
 have hlen:=g.bv.len
 have hbh:=g.bv.hh
 have hdm:=d.hm
 have hdL:=d.hL
 have hdK:=d.hK
 have hdR:=d.hR
 have hss:=fun q h x=>Jz g q h x
 have hgv:=fun w' l' B' (hw:Wv c m L K R (t+1) k w') e1 e2 e3 e4 v v' hv hv' h1 h2 h3 h4 h5 h6=>g.goesV hk (l':=l') (B':=B') hw e1 e2 e3 e4 (v:=v) (v':=v') hv hv' h1 h2 h3 h4 h5 h6
 have hgb:=fun w' l' (hw:Wv c m L K R (t+1) k w') e1 e2 e3 v v' hv hv' h1 h2 h3 h4 h5 h6=>g.goesB hk (l':=l') hw e1 e2 e3 (v:=v) (v':=v') hv hv' h1 h2 h3 h4 h5 h6
 have hpo:=fun w' b τ x q hv htb hw' hv'=>g.pops hk (w':=w') (b:=b) (t':=τ) (x:=x) (q:=q) hv htb hw' hv'
 have hla:=fun w' b τ x q hv hc hw' hv'=>g.lasts hk (w':=w') (b:=b) (t':=τ) (x:=x) (q:=q) hv hc hw' hv'
 have hgt:=fun w' b τ x hv hw' hv'=>g.gots hk (w':=w') (b:=b) (t':=τ) (x:=x) hv hw' hv'
 have heach:=g.ai.each
 have hok:Yw K R (Xa m L R l ws) k (vw (ws.getD k default)):=g.ai.each k hk
 have hbt:=g.bv.bot
 have htp:=g.bv.top
 have hshp:=g.ai.shape
 generalize hw:ws.getD k default=w at hgv hgb hpo hla hgt hok h ha e ⊢
 have hl:=h.hl
 have hlim:=h.hlim
 have hl0:decide (w.limit=0)=false:=by simp;omega
 obtain ⟨h1,h2,h3,h4,h5,h6,h7,h8,h9,h10,h11,h12,h13,h14,h15,h16,h17,h18⟩:=h
 have hho:w.holds=false:=by
  cases e:w.holds with
  | false=>rfl
  | true=>have:=h13.1 e;omega
 have hwa:w.wakes=false:=by
  cases e:w.wakes with
  | false=>rfl
  | true=>have:=h14.1 e;omega
 obtain ⟨p1,p2,p3,p4,p5,p6⟩:=h15 ha
 have hvw:vw w=.take 2 w.pop.part.b w.pop.part.t w.pop.part.x w.pop.part.got:=by unfold vw;simp [ha,e]
 rw [hvw] at hok
 have hbk:=hbt k hk
 have htk:=htp k hk
 have hgot:w.pop.part.got=false:=p6 (by omega)
 have hbB:cB m L R l k=w.pop.part.b:=by simp only [Yw] at hok;exact hok.2.1 (by decide)
 unfold Xf Xm Wp
 simp only [ha,hl0,Bool.false_eq_true,if_false,if_true,Option.bind_some,Int.reduceEq,decide_false]
 have hkt:Jk w.pop.part.l w.pop.part.w=some ((Yi m L R k:Nat):Int):=by rw [p1,p2];exact Z0h d hk
 have hin0:=Ub (m:=m) (L:=L) (R:=R) hk (p:=0) (by omega)
 have hlt:=Uu (l:=l) (q:=Yi m L R k) rfl (by omega)
 unfold Rt Lw Rr Zad Z8y Z3v
 simp only [p5,e,hkt,hlt,Option.bind_some,hl0,Bool.false_eq_true,Bool.not_false,Bool.not_true,if_false,if_true,Int.reduceEq,Int.reduceLT,Int.reduceLE,Int.reduceAdd,Int.reduceSub,decide_false]
 rw [Xb (by constructor <;> omega),Xb (by constructor <;> omega)]
 simp only [p5,e,hkt,hlt,Option.bind_some,hl0,Bool.false_eq_true,Bool.not_false,Bool.not_true,if_false,if_true,Int.reduceEq,Int.reduceLT,Int.reduceLE,Int.reduceAdd,Int.reduceSub,decide_false]
 have hE:(Xa m L R l ws).E k=w.pop.part.b+1:=by show Wx (cB m L R l k) (vw (ws.getD k default))=_;rw [hw,hvw];rfl
 have hsk:=hshp k hk
 rw [hE] at hsk
 refine Ok.some.2 (hgb _ l ?_ rfl hbh ⟨rfl,rfl,rfl,rfl⟩ _ (.take 3 w.pop.part.b (cT m L R l k) w.pop.part.x w.pop.part.got) hvw ?_ rfl rfl (by simp [Vw.popped]) (by simp [Wx]) (fun _ _ _ _ h=>by cases h) ?_)
 ·constructor <;> first | assumption | (simp only [hho,hwa];omega) | (simp [hho,hwa,h2,h3,p1,p2,p5,hgot,e];done) | (simp [hho,hwa,h2,h3];omega) | (intro _;simp [hho,hwa,h2,h3,p1,p2,p5,hgot,e];omega)
 ·unfold vw;simp [cT]
 ·
  simp only [Yw,Jo]
  refine ⟨fun h=>by omega,fun _=>hbB,fun _=>⟨htk.1,Int.le_refl _,fun hlt=>⟨?_,fun j hj y hy=>?_⟩⟩,fun h=>by omega,fun h=>by omega,by omega⟩
  ·show cT m L R l k≤_;omega
  ·
   by_cases hjk:j=k
   ·subst hjk;rw [Rn] at hy;cases hy
   ·
    rw [go_V hjk] at hy
    obtain ⟨p,x,hv,hp⟩:=thief_st hy
    have ho:=heach j hj
    rw [hv] at ho
    simp only [Yw] at ho
    have h1:=(ho.2.1 (by omega)).2
    have h2:y≤cT m L R l k:=h1
    omega
end
end Go.Acq
namespace Go.Acq
open Go
section
variable {n : Net} {c : Csr} {m L K R k : Nat} {t : Int} {l l' : List Int} {ws : List WorkerWorker} {w w' : WorkerWorker}
theorem p_take3 (ht:t≤1000000)(g:Gi c m L K R t l ws)(d:Dm m L K R)(hk:k<K)(ha:(ws.getD k default).at_=0)(e:(ws.getD k default).pop.part.at_=3):Ok (Xf (ws.getD k default) ⟨l⟩) (fun r=>Gi c m L K R (t+1) r.2.2.l (ws.set k r.2.1)):=by
 have h:=g.wv k hk
 have hlen:=g.bv.len
 have hbh:=g.bv.hh
 have hdm:=d.hm
 have hdL:=d.hL
 have hdK:=d.hK
 have hdR:=d.hR
 have hss:=fun q h x=>Jz g q h x
 have hgv:=fun w' l' B' (hw:Wv c m L K R (t+1) k w') e1 e2 e3 e4 v v' hv hv' h1 h2 h3 h4 h5 h6=>g.goesV hk (l':=l') (B':=B') hw e1 e2 e3 e4 (v:=v) (v':=v') hv hv' h1 h2 h3 h4 h5 h6
 have hgb:=fun w' l' (hw:Wv c m L K R (t+1) k w') e1 e2 e3 v v' hv hv' h1 h2 h3 h4 h5 h6=>g.goesB hk (l':=l') hw e1 e2 e3 (v:=v) (v':=v') hv hv' h1 h2 h3 h4 h5 h6
 have hpo:=fun w' b τ x q hv htb hw' hv'=>g.pops hk (w':=w') (b:=b) (t':=τ) (x:=x) (q:=q) hv htb hw' hv'
 have hla:=fun w' b τ x q hv hc hw' hv'=>g.lasts hk (w':=w') (b:=b) (t':=τ) (x:=x) (q:=q) hv hc hw' hv'
 have hgt:=fun w' b τ x hv hw' hv'=>g.gots hk (w':=w') (b:=b) (t':=τ) (x:=x) hv hw' hv'
 have heach:=g.ai.each
 have hok:Yw K R (Xa m L R l ws) k (vw (ws.getD k default)):=g.ai.each k hk
 have hbt:=g.bv.bot
 have htp:=g.bv.top
 have hshp:=g.ai.shape
 generalize hw:ws.getD k default=w at hgv hgb hpo hla hgt hok h ha e ⊢
 have hl:=h.hl
 have hlim:=h.hlim
 have hl0:decide (w.limit=0)=false:=by simp;omega
 obtain ⟨h1,h2,h3,h4,h5,h6,h7,h8,h9,h10,h11,h12,h13,h14,h15,h16,h17,h18⟩:=h
 have hho:w.holds=false:=by
  cases e:w.holds with
  | false=>rfl
  | true=>have:=h13.1 e;omega
 have hwa:w.wakes=false:=by
  cases e:w.wakes with
  | false=>rfl
  | true=>have:=h14.1 e;omega
 obtain ⟨p1,p2,p3,p4,p5,p6⟩:=h15 ha
 have hvw:vw w=.take 3 w.pop.part.b w.pop.part.t w.pop.part.x w.pop.part.got:=by unfold vw;simp [ha,e]
 rw [hvw] at hok
 have hbk:=hbt k hk
 have htk:=htp k hk
 have hgot:w.pop.part.got=false:=p6 (by omega)
 simp only [Yw] at hok
 have hbB:cB m L R l k=w.pop.part.b:=hok.2.1 (by decide)
 obtain ⟨ht0,htT,-⟩:=hok.2.2.1 trivial
 have htT:w.pop.part.t≤cT m L R l k:=htT
 unfold Xf Xm Wp
 simp only [ha,hl0,Bool.false_eq_true,if_false,if_true,Option.bind_some,Int.reduceEq,decide_false]
 have hkb:Kl w.pop.part.l w.pop.part.w=some ((Yi m L R k+1:Nat):Int):=by rw [p1,p2];exact Nx d hk
 have hin:=Ub (m:=m) (L:=L) (R:=R) hk (p:=1) (by omega)
 have hst:=Kk (l:=l) (v:=w.pop.part.b+1) (q:=Yi m L R k+1) rfl (by omega)
 have hs:=Z20 (m:=m) (L:=L) (R:=R) (k:=k) (l:=l) (x:=w.pop.part.b+1) (by omega)
 unfold Rt Lw Rr Z94 Z2j Lx Z9h Z9a
 simp only [p5,e,hkb,hst,Option.bind_some,hl0,Bool.false_eq_true,Bool.not_false,Bool.not_true,if_false,if_true,Int.reduceEq,Int.reduceLT,Int.reduceLE,Int.reduceAdd,Int.reduceSub,decide_false]
 rw [Xb (by constructor <;> omega),Xb (by constructor <;> omega)]
 simp only [p5,e,hkb,hst,Option.bind_some,hl0,Bool.false_eq_true,Bool.not_false,Bool.not_true,if_false,if_true,Int.reduceEq,Int.reduceLT,Int.reduceLE,Int.reduceAdd,Int.reduceSub,decide_false]
 by_cases c1:w.pop.part.b<w.pop.part.t
 ·
  rw [if_pos c1]
  rw [Xb (by constructor <;> omega)]
  simp only [p5,e,hkb,hst,Option.bind_some,hl0,Bool.false_eq_true,Bool.not_false,Bool.not_true,if_false,if_true,Int.reduceEq,Int.reduceLT,Int.reduceLE,Int.reduceAdd,Int.reduceSub,decide_false]
  unfold Z2d Z2f Z0q
  simp only [hgot,Option.bind_some,hl0,Bool.false_eq_true,Bool.not_false,Bool.not_true,if_false,if_true,Int.reduceEq,Int.reduceLT,Int.reduceLE,Int.reduceAdd,Int.reduceSub,decide_false]
  refine Ok.bind.2 (Ok.bind.2 (Ok.mono (Zaa d hk (by exact hl) (by exact h3) (by omega) (by omega)) ?_))
  rintro r (hr | ⟨hk1,jj,hj,hr⟩)
  ·
   subst hr
   simp only [Option.bind_some,hl0,Bool.false_eq_true,Bool.not_false,Bool.not_true,if_false,if_true,Int.reduceEq,Int.reduceLT,Int.reduceLE,Int.reduceAdd,Int.reduceSub,decide_false]
   refine Ok.some.2 ?_
   try simp only [Option.bind_some,hl0,Bool.false_eq_true,Bool.not_false,Bool.not_true,if_false,if_true,Int.reduceEq,Int.reduceLT,Int.reduceLE,Int.reduceAdd,Int.reduceSub,decide_false]
   refine Ok.some.2 (hgv _ _ (w.pop.part.b+1) ?_ (by rw [List.length_set]) (hss _ (by omega) _) hs ⟨by omega,by omega⟩ _ .idle hvw ?_ rfl rfl (by simp [Vw.popped]) (by simp [Wx] <;> omega) (fun _ _ _ _ h=>by cases h) trivial)
   ·constructor <;> first | assumption | (simp only [hho,hwa];omega) | (simp [hho,hwa,h2,h3,p1,p2,p5,hgot,e];done) | (simp [hho,hwa,h2,h3];omega) | (intro _;simp [hho,hwa,h2,h3,p1,p2,p5,hgot,e];omega)
   ·unfold vw;simp
  ·
   subst hr
   simp only [Option.bind_some,hl0,Bool.false_eq_true,Bool.not_false,Bool.not_true,if_false,if_true,Int.reduceEq,Int.reduceLT,Int.reduceLE,Int.reduceAdd,Int.reduceSub,decide_false]
   refine Ok.some.2 ?_
   try simp only [Option.bind_some,hl0,Bool.false_eq_true,Bool.not_false,Bool.not_true,if_false,if_true,Int.reduceEq,Int.reduceLT,Int.reduceLE,Int.reduceAdd,Int.reduceSub,decide_false]
   refine Ok.some.2 (hgv _ _ (w.pop.part.b+1) ?_ (by rw [List.length_set]) (hss _ (by omega) _) hs ⟨by omega,by omega⟩ _ (.steal jj 0 0 0) hvw ?_ rfl rfl (by simp [Vw.popped]) (by simp [Wx] <;> omega) (fun _ _ _ _ h=>by simp [Vw.thief] at h) (by simp [Yw];exact hj))
   ·constructor <;> first | assumption | (simp only [hho,hwa];omega) | (simp [hho,hwa,h2,h3,p1,p2,p5,hgot,e];done) | (simp [hho,hwa,h2,h3];omega) | (intro _;simp [hho,hwa,h2,h3,p1,p2,p5,hgot,e];omega)
   ·unfold vw;simp
 ·
  rw [if_neg c1]
  have hlt:w.pop.part.b.toNat%R<R:=Nat.mod_lt _ (by omega)
  have hin2:=Ub (m:=m) (L:=L) (R:=R) hk (p:=2+w.pop.part.b.toNat%R) (by omega)
  have hsl:Gk w.pop.part.l w.pop.part.w w.pop.part.b=some ((Yi m L R k+2+w.pop.part.b.toNat%R:Nat):Int):=by rw [p1,p2];exact Z4n d hk (by omega) (by omega)
  have hls:=Uu (l:=l) (q:=Yi m L R k+2+w.pop.part.b.toNat%R) rfl (by omega)
  have hS:cS m L R l k (w.pop.part.b.toNat%R)=l.getD (Yi m L R k+2+w.pop.part.b.toNat%R) 0:=by unfold cS;rw [if_pos hlt]
  simp only [hsl,hls,Option.bind_some,hl0,Bool.false_eq_true,Bool.not_false,Bool.not_true,if_false,if_true,Int.reduceEq,Int.reduceLT,Int.reduceLE,Int.reduceAdd,Int.reduceSub,decide_false]
  by_cases c2:w.pop.part.t<w.pop.part.b
  ·
   rw [if_pos c2]
   simp only [Option.bind_some,hl0,Bool.false_eq_true,Bool.not_false,Bool.not_true,if_false,if_true,Int.reduceEq,Int.reduceLT,Int.reduceLE,Int.reduceAdd,Int.reduceSub,decide_false]
   unfold Z2d Z2f Z0q Z1q
   simp only [Option.bind_some,hl0,Bool.false_eq_true,Bool.not_false,Bool.not_true,if_false,if_true,Int.reduceEq,Int.reduceLT,Int.reduceLE,Int.reduceAdd,Int.reduceSub,decide_false]
   rw [←hS]
   refine Ok.some.2 (hpo _ w.pop.part.b w.pop.part.t w.pop.part.x w.pop.part.got hvw c2 (fun hU=>?_) ?_)
   ·constructor <;> first | assumption | (simp only [hho,hwa];omega) | (simp [hho,hwa,h2,h3,p1,p2,p5,hgot,hU];done) | (simp [hho,hwa,h2,h3];omega) | (intro _;simp [hho,hwa,h2,h3,p1,p2,p5,hgot,e];omega)
   ·unfold vw;simp
  ·
   rw [if_neg c2]
   simp only [p5,Option.bind_some,hl0,Bool.false_eq_true,Bool.not_false,Bool.not_true,if_false,if_true,Int.reduceEq,Int.reduceLT,Int.reduceLE,Int.reduceAdd,Int.reduceSub,decide_false]
   refine Ok.some.2 (hgb _ l ?_ rfl hbh ⟨rfl,rfl,rfl,rfl⟩ _ (.take 4 w.pop.part.b w.pop.part.t (cS m L R l k (w.pop.part.b.toNat%R)) w.pop.part.got) hvw ?_ rfl rfl (by simp [Vw.popped]) (by simp [Wx]) (fun _ _ _ _ h=>by cases h) ?_)
   ·constructor <;> first | assumption | (simp only [hho,hwa];omega) | (simp [hho,hwa,h2,h3,p1,p2,p5,hgot,e];done) | (simp [hho,hwa,h2,h3];omega) | (intro _;simp [hho,hwa,h2,h3,p1,p2,p5,hgot,e];omega)
   ·unfold vw;simp [hS]
   ·
    simp only [Yw,Jo]
    exact ⟨fun h=>by omega,fun _=>hbB,fun h=>by omega,fun _=>⟨by omega,htT,by omega,rfl⟩,fun h=>by omega,by omega⟩
theorem p_take4 (ht:t≤1000000)(g:Gi c m L K R t l ws)(d:Dm m L K R)(hk:k<K)(ha:(ws.getD k default).at_=0)(e:(ws.getD k default).pop.part.at_=4):Ok (Xf (ws.getD k default) ⟨l⟩) (fun r=>Gi c m L K R (t+1) r.2.2.l (ws.set k r.2.1)):=by
 have h:=g.wv k hk
 have hlen:=g.bv.len
 have hbh:=g.bv.hh
 have hdm:=d.hm
 have hdL:=d.hL
 have hdK:=d.hK
 have hdR:=d.hR
 have hss:=fun q h x=>Jz g q h x
 have hgv:=fun w' l' B' (hw:Wv c m L K R (t+1) k w') e1 e2 e3 e4 v v' hv hv' h1 h2 h3 h4 h5 h6=>g.goesV hk (l':=l') (B':=B') hw e1 e2 e3 e4 (v:=v) (v':=v') hv hv' h1 h2 h3 h4 h5 h6
 have hgb:=fun w' l' (hw:Wv c m L K R (t+1) k w') e1 e2 e3 v v' hv hv' h1 h2 h3 h4 h5 h6=>g.goesB hk (l':=l') hw e1 e2 e3 (v:=v) (v':=v') hv hv' h1 h2 h3 h4 h5 h6
 have hpo:=fun w' b τ x q hv htb hw' hv'=>g.pops hk (w':=w') (b:=b) (t':=τ) (x:=x) (q:=q) hv htb hw' hv'
 have hla:=fun w' b τ x q hv hc hw' hv'=>g.lasts hk (w':=w') (b:=b) (t':=τ) (x:=x) (q:=q) hv hc hw' hv'
 have hgt:=fun w' b τ x hv hw' hv'=>g.gots hk (w':=w') (b:=b) (t':=τ) (x:=x) hv hw' hv'
 have heach:=g.ai.each
 have hok:Yw K R (Xa m L R l ws) k (vw (ws.getD k default)):=g.ai.each k hk
 have hbt:=g.bv.bot
 have htp:=g.bv.top
 have hshp:=g.ai.shape
 generalize hw:ws.getD k default=w at hgv hgb hpo hla hgt hok h ha e ⊢
 have hl:=h.hl
 have hlim:=h.hlim
 have hl0:decide (w.limit=0)=false:=by simp;omega
 obtain ⟨h1,h2,h3,h4,h5,h6,h7,h8,h9,h10,h11,h12,h13,h14,h15,h16,h17,h18⟩:=h
 have hho:w.holds=false:=by
  cases e:w.holds with
  | false=>rfl
  | true=>have:=h13.1 e;omega
 have hwa:w.wakes=false:=by
  cases e:w.wakes with
  | false=>rfl
  | true=>have:=h14.1 e;omega
 obtain ⟨p1,p2,p3,p4,p5,p6⟩:=h15 ha
 have hvw:vw w=.take 4 w.pop.part.b w.pop.part.t w.pop.part.x w.pop.part.got:=by unfold vw;simp [ha,e]
 rw [hvw] at hok
 have hbk:=hbt k hk
 have htk:=htp k hk
 have hgot:w.pop.part.got=false:=p6 (by omega)
 simp only [Yw] at hok
 have hbB:cB m L R l k=w.pop.part.b:=hok.2.1 (by decide)
 obtain ⟨htb,htT,hb0,hx⟩:=hok.2.2.2.1 trivial
 have htT:w.pop.part.t≤cT m L R l k:=htT
 have hE:(Xa m L R l ws).E k=w.pop.part.b+1:=by show Wx (cB m L R l k) (vw (ws.getD k default))=_;rw [hw,hvw];rfl
 have hsk:=hshp k hk
 rw [hE] at hsk
 have hsk2:cT m L R l k≤w.pop.part.b+1:=hsk.2.1
 have hT:cT m L R l k=l.getD (Yi m L R k) 0:=rfl
 unfold Xf Xm Wp
 simp only [ha,hl0,Bool.false_eq_true,if_false,if_true,Option.bind_some,Int.reduceEq,decide_false]
 have hkt:Jk w.pop.part.l w.pop.part.w=some ((Yi m L R k:Nat):Int):=by rw [p1,p2];exact Z0h d hk
 have hin0:=Ub (m:=m) (L:=L) (R:=R) hk (p:=0) (by omega)
 have hcas:=b_CAS (l:=l) (old:=w.pop.part.t) (v:=w.pop.part.t+1) (q:=Yi m L R k) rfl (by omega)
 unfold Rt Lw Rr Z7s Z3v
 simp only [p5,e,hkt,hcas,Option.bind_some,hl0,Bool.false_eq_true,Bool.not_false,Bool.not_true,if_false,if_true,Int.reduceEq,Int.reduceLT,Int.reduceLE,Int.reduceAdd,Int.reduceSub,decide_false]
 rw [Xb (by constructor <;> omega),Xb (by constructor <;> omega)]
 simp only [p5,e,hkt,hcas,Option.bind_some,hl0,Bool.false_eq_true,Bool.not_false,Bool.not_true,if_false,if_true,Int.reduceEq,Int.reduceLT,Int.reduceLE,Int.reduceAdd,Int.reduceSub,decide_false]
 rw [Xb (by constructor <;> omega)]
 simp only [p5,e,hkt,hcas,Option.bind_some,hl0,Bool.false_eq_true,Bool.not_false,Bool.not_true,if_false,if_true,Int.reduceEq,Int.reduceLT,Int.reduceLE,Int.reduceAdd,Int.reduceSub,decide_false]
 by_cases c1:l.getD (Yi m L R k) 0=w.pop.part.t
 ·
  simp only [decide_eq_true c1,if_pos c1]
  refine Ok.some.2 (hla _ w.pop.part.b w.pop.part.t w.pop.part.x w.pop.part.got hvw (by rw [hT];exact c1) ?_ ?_)
  ·constructor <;> first | assumption | (simp only [hho,hwa];omega) | (simp [hho,hwa,h2,h3,p1,p2,p5,hgot,e];done) | (simp [hho,hwa,h2,h3];omega) | (intro _;simp [hho,hwa,h2,h3,p1,p2,p5,hgot,e];omega)
  ·unfold vw;simp
 ·
  simp only [decide_eq_false c1,if_neg c1]
  have hs:=set_T (m:=m) (L:=L) (R:=R) (k:=k) (l:=l) (x:=l.getD (Yi m L R k) 0) (by omega)
  rw [←hT,Z34] at hs
  refine Ok.some.2 (hgb _ _ ?_ (by rw [List.length_set]) (hss _ (by omega) _) hs _ (.take 5 w.pop.part.b w.pop.part.t w.pop.part.x false) hvw ?_ rfl rfl (by simp [Vw.popped]) (by simp [Wx]) (fun _ _ _ _ h=>by cases h) ?_)
  ·constructor <;> first | assumption | (simp only [hho,hwa];omega) | (simp [hho,hwa,h2,h3,p1,p2,p5,hgot,e];done) | (simp [hho,hwa,h2,h3];omega) | (intro _;simp [hho,hwa,h2,h3,p1,p2,p5,hgot,e];omega)
  ·unfold vw;simp
  ·
   simp only [Yw,Jo]
   exact ⟨fun h=>by omega,fun _=>hbB,fun h=>by omega,fun h=>by omega,fun _=>(show cT m L R l k=w.pop.part.b+1 by omega),by omega⟩
theorem p_take5 (ht:t≤1000000)(g:Gi c m L K R t l ws)(d:Dm m L K R)(hk:k<K)(ha:(ws.getD k default).at_=0)(e:(ws.getD k default).pop.part.at_=5):Ok (Xf (ws.getD k default) ⟨l⟩) (fun r=>Gi c m L K R (t+1) r.2.2.l (ws.set k r.2.1)):=by
 have h:=g.wv k hk
 have hlen:=g.bv.len
 have hbh:=g.bv.hh
 have hdm:=d.hm
 have hdL:=d.hL
 have hdK:=d.hK
 have hdR:=d.hR
 have hss:=fun q h x=>Jz g q h x
 have hgv:=fun w' l' B' (hw:Wv c m L K R (t+1) k w') e1 e2 e3 e4 v v' hv hv' h1 h2 h3 h4 h5 h6=>g.goesV hk (l':=l') (B':=B') hw e1 e2 e3 e4 (v:=v) (v':=v') hv hv' h1 h2 h3 h4 h5 h6
 have hgb:=fun w' l' (hw:Wv c m L K R (t+1) k w') e1 e2 e3 v v' hv hv' h1 h2 h3 h4 h5 h6=>g.goesB hk (l':=l') hw e1 e2 e3 (v:=v) (v':=v') hv hv' h1 h2 h3 h4 h5 h6
 have hpo:=fun w' b τ x q hv htb hw' hv'=>g.pops hk (w':=w') (b:=b) (t':=τ) (x:=x) (q:=q) hv htb hw' hv'
 have hla:=fun w' b τ x q hv hc hw' hv'=>g.lasts hk (w':=w') (b:=b) (t':=τ) (x:=x) (q:=q) hv hc hw' hv'
 have hgt:=fun w' b τ x hv hw' hv'=>g.gots hk (w':=w') (b:=b) (t':=τ) (x:=x) hv hw' hv'
 have heach:=g.ai.each
 have hok:Yw K R (Xa m L R l ws) k (vw (ws.getD k default)):=g.ai.each k hk
 have hbt:=g.bv.bot
 have htp:=g.bv.top
 have hshp:=g.ai.shape
 generalize hw:ws.getD k default=w at hgv hgb hpo hla hgt hok h ha e ⊢
 have hl:=h.hl
 have hlim:=h.hlim
 have hl0:decide (w.limit=0)=false:=by simp;omega
 obtain ⟨h1,h2,h3,h4,h5,h6,h7,h8,h9,h10,h11,h12,h13,h14,h15,h16,h17,h18⟩:=h
 have hho:w.holds=false:=by
  cases e:w.holds with
  | false=>rfl
  | true=>have:=h13.1 e;omega
 have hwa:w.wakes=false:=by
  cases e:w.wakes with
  | false=>rfl
  | true=>have:=h14.1 e;omega
 obtain ⟨p1,p2,p3,p4,p5,p6⟩:=h15 ha
 have hvw:vw w=.take 5 w.pop.part.b w.pop.part.t w.pop.part.x w.pop.part.got:=by unfold vw;simp [ha,e]
 rw [hvw] at hok
 have hbk:=hbt k hk
 have htk:=htp k hk
 simp only [Yw] at hok
 have hbB:cB m L R l k=w.pop.part.b:=hok.2.1 (by decide)
 unfold Xf Xm Wp
 simp only [ha,hl0,Bool.false_eq_true,if_false,if_true,Option.bind_some,Int.reduceEq,decide_false]
 have hkb:Kl w.pop.part.l w.pop.part.w=some ((Yi m L R k+1:Nat):Int):=by rw [p1,p2];exact Nx d hk
 have hin:=Ub (m:=m) (L:=L) (R:=R) hk (p:=1) (by omega)
 have hst:=Kk (l:=l) (v:=w.pop.part.b+1) (q:=Yi m L R k+1) rfl (by omega)
 have hs:=Z20 (m:=m) (L:=L) (R:=R) (k:=k) (l:=l) (x:=w.pop.part.b+1) (by omega)
 unfold Rt Lw Rr Z2j Lx
 simp only [p5,e,hkb,hst,Option.bind_some,hl0,Bool.false_eq_true,Bool.not_false,Bool.not_true,if_false,if_true,Int.reduceEq,Int.reduceLT,Int.reduceLE,Int.reduceAdd,Int.reduceSub,decide_false]
 rw [Xb (by constructor <;> omega),Xb (by constructor <;> omega)]
 simp only [p5,e,hkb,hst,Option.bind_some,hl0,Bool.false_eq_true,Bool.not_false,Bool.not_true,if_false,if_true,Int.reduceEq,Int.reduceLT,Int.reduceLE,Int.reduceAdd,Int.reduceSub,decide_false]
 rw [Xb (by constructor <;> omega)]
 simp only [p5,e,hkb,hst,Option.bind_some,hl0,Bool.false_eq_true,Bool.not_false,Bool.not_true,if_false,if_true,Int.reduceEq,Int.reduceLT,Int.reduceLE,Int.reduceAdd,Int.reduceSub,decide_false]
 unfold Z2d Z2f Z0q Z1q
 simp only [Option.bind_some,hl0,Bool.false_eq_true,Bool.not_false,Bool.not_true,if_false,if_true,Int.reduceEq,Int.reduceLT,Int.reduceLE,Int.reduceAdd,Int.reduceSub,decide_false]
 cases hg:w.pop.part.got with
 | true =>
  simp only [Option.bind_some,hl0,Bool.false_eq_true,Bool.not_false,Bool.not_true,if_false,if_true,Int.reduceEq,Int.reduceLT,Int.reduceLE,Int.reduceAdd,Int.reduceSub,decide_false]
  rw [hg] at hvw
  refine Ok.some.2 (hgt _ w.pop.part.b w.pop.part.t w.pop.part.x hvw (fun hU=>?_) ?_)
  ·constructor <;> first | assumption | (simp only [hho,hwa];omega) | (simp [hho,hwa,h2,h3,hU];done) | (simp [hho,hwa,h2,h3];omega) | (intro _;simp [hho,hwa,h2,h3,p1,p2];omega)
  ·unfold vw;simp
 | false =>
  simp only [Option.bind_some,hl0,Bool.false_eq_true,Bool.not_false,Bool.not_true,if_false,if_true,Int.reduceEq,Int.reduceLT,Int.reduceLE,Int.reduceAdd,Int.reduceSub,decide_false]
  rw [hg] at hvw
  refine Ok.bind.2 (Ok.bind.2 (Ok.mono (Zaa d hk (by exact hl) (by exact h3) (by omega) (by omega)) ?_))
  rintro r (hr | ⟨hk1,jj,hj,hr⟩)
  ·
   subst hr
   simp only [Option.bind_some,hl0,Bool.false_eq_true,Bool.not_false,Bool.not_true,if_false,if_true,Int.reduceEq,Int.reduceLT,Int.reduceLE,Int.reduceAdd,Int.reduceSub,decide_false]
   refine Ok.some.2 ?_
   try simp only [Option.bind_some,hl0,Bool.false_eq_true,Bool.not_false,Bool.not_true,if_false,if_true,Int.reduceEq,Int.reduceLT,Int.reduceLE,Int.reduceAdd,Int.reduceSub,decide_false]
   refine Ok.some.2 (hgv _ _ (w.pop.part.b+1) ?_ (by rw [List.length_set]) (hss _ (by omega) _) hs ⟨by omega,by omega⟩ _ .idle hvw ?_ rfl rfl (by simp [Vw.popped]) (by simp [Wx] <;> omega) (fun _ _ _ _ h=>by cases h) trivial)
   ·constructor <;> first | assumption | (simp only [hho,hwa];omega) | (simp [hho,hwa,h2,h3,p1,p2];done) | (simp [hho,hwa,h2,h3];omega) | (intro _;simp [hho,hwa,h2,h3,p1,p2];omega)
   ·unfold vw;simp
  ·
   subst hr
   simp only [Option.bind_some,hl0,Bool.false_eq_true,Bool.not_false,Bool.not_true,if_false,if_true,Int.reduceEq,Int.reduceLT,Int.reduceLE,Int.reduceAdd,Int.reduceSub,decide_false]
   refine Ok.some.2 ?_
   try simp only [Option.bind_some,hl0,Bool.false_eq_true,Bool.not_false,Bool.not_true,if_false,if_true,Int.reduceEq,Int.reduceLT,Int.reduceLE,Int.reduceAdd,Int.reduceSub,decide_false]
   refine Ok.some.2 (hgv _ _ (w.pop.part.b+1) ?_ (by rw [List.length_set]) (hss _ (by omega) _) hs ⟨by omega,by omega⟩ _ (.steal jj 0 0 0) hvw ?_ rfl rfl (by simp [Vw.popped]) (by simp [Wx] <;> omega) (fun _ _ _ _ h=>by simp [Vw.thief] at h) (by simp [Yw];exact hj))
   ·constructor <;> first | assumption | (simp only [hho,hwa];omega) | (simp [hho,hwa,h2,h3,p1,p2];done) | (simp [hho,hwa,h2,h3];omega) | (intro _;simp [hho,hwa,h2,h3,p1,p2];omega)
   ·unfold vw;simp
end
end Go.Acq
namespace Go.Acq
open Go
section
variable {n : Net} {c : Csr} {m L K R k : Nat} {t : Int} {l l' : List Int} {ws : List WorkerWorker} {w w' : WorkerWorker}
theorem p_steal0 (ht:t≤1000000)(g:Gi c m L K R t l ws)(d:Dm m L K R)(hk:k<K)(ha:(ws.getD k default).at_=1)(e:(ws.getD k default).steal.part.at_=0):Ok (Xf (ws.getD k default) ⟨l⟩) (fun r=>Gi c m L K R (t+1) r.2.2.l (ws.set k r.2.1)):=by
 have h:=g.wv k hk
 have hlen:=g.bv.len
 have hbh:=g.bv.hh
 have hdm:=d.hm
 have hdL:=d.hL
 have hdK:=d.hK
 have hdR:=d.hR
 have hss:=fun q h x=>Jz g q h x
 have hgv:=fun w' l' B' (hw:Wv c m L K R (t+1) k w') e1 e2 e3 e4 v v' hv hv' h1 h2 h3 h4 h5 h6=>g.goesV hk (l':=l') (B':=B') hw e1 e2 e3 e4 (v:=v) (v':=v') hv hv' h1 h2 h3 h4 h5 h6
 have hgb:=fun w' l' (hw:Wv c m L K R (t+1) k w') e1 e2 e3 v v' hv hv' h1 h2 h3 h4 h5 h6=>g.goesB hk (l':=l') hw e1 e2 e3 (v:=v) (v':=v') hv hv' h1 h2 h3 h4 h5 h6
 have hro:=fun w' j τ x hj hv hc hw' hv'=>g.robs hk (j:=j) (w':=w') (t':=τ) (x:=x) hj hv hc hw' hv'
 have heach:=g.ai.each
 have hok:Yw K R (Xa m L R l ws) k (vw (ws.getD k default)):=g.ai.each k hk
 have hbt:=g.bv.bot
 have htp:=g.bv.top
 have hshp:=g.ai.shape
 generalize hw:ws.getD k default=w at hgv hgb hro hok h ha e ⊢
 have hl:=h.hl
 have hlim:=h.hlim
 have hl0:decide (w.limit=0)=false:=by simp;omega
 obtain ⟨h1,h2,h3,h4,h5,h6,h7,h8,h9,h10,h11,h12,h13,h14,h15,h16,h17,h18⟩:=h
 have hho:w.holds=false:=by
  cases e:w.holds with
  | false=>rfl
  | true=>have:=h13.1 e;omega
 have hwa:w.wakes=false:=by
  cases e:w.wakes with
  | false=>rfl
  | true=>have:=h14.1 e;omega
 obtain ⟨p1,p2,p3,p4,p5,p6,p7⟩:=h16 ha
 obtain ⟨j,hj⟩:∃ j:Nat,w.steal.part.w=j:=⟨w.steal.part.w.toNat,by omega⟩
 have hjK:j<K:=by omega
 have hvw:vw w=.steal j 0 w.steal.part.t w.steal.part.x:=by unfold vw;simp [ha,e,hj]
 rw [hvw] at hok
 have hbk:=hbt k hk
 have htk:=htp j hjK
 have hbj:=hbt j hjK
 unfold Xf Xm Wp
 simp only [ha,hl0,Bool.false_eq_true,if_false,if_true,Option.bind_some,Int.reduceEq,decide_false]
 have hkt:Jk w.steal.part.l w.steal.part.w=some ((Yi m L R j:Nat):Int):=by rw [p1,hj];exact Z0h d hjK
 have hin0:=Ub (m:=m) (L:=L) (R:=R) hjK (p:=0) (by omega)
 have hlt:=Uu (l:=l) (q:=Yi m L R j) rfl (by omega)
 unfold Z1p Z12 Z17 Zag Za5 Z22
 simp only [p6,e,hkt,hlt,Option.bind_some,hl0,Bool.false_eq_true,Bool.not_false,Bool.not_true,if_false,if_true,Int.reduceEq,Int.reduceLT,Int.reduceLE,Int.reduceAdd,Int.reduceSub,decide_false]
 rw [Xb (by constructor <;> omega),Xb (by constructor <;> omega)]
 simp only [p6,e,hkt,hlt,Option.bind_some,hl0,Bool.false_eq_true,Bool.not_false,Bool.not_true,if_false,if_true,Int.reduceEq,Int.reduceLT,Int.reduceLE,Int.reduceAdd,Int.reduceSub,decide_false]
 refine Ok.some.2 (hgb _ l ?_ rfl hbh ⟨rfl,rfl,rfl,rfl⟩ _ (.steal j 1 (cT m L R l j) w.steal.part.x) hvw ?_ rfl rfl rfl rfl (fun _ _ _ _ h=>by simp [Vw.thief] at h) ?_)
 ·constructor <;> first | assumption | (simp only [hho,hwa];omega) | (simp [hho,hwa,h2,h3,p1,p2,p3,p7];done) | (simp [hho,hwa,h2,h3];omega) | (intro _;simp [hho,hwa,h2,h3,p1,p2,p3,p7];omega)
 ·unfold vw;simp [cT,hj]
 ·
  simp only [Yw]
  exact ⟨hjK,fun _=>⟨htk.1,Int.le_refl _⟩,fun h=>by omega,fun h=>by omega,by omega⟩
theorem p_steal1 (ht:t≤1000000)(g:Gi c m L K R t l ws)(d:Dm m L K R)(hk:k<K)(ha:(ws.getD k default).at_=1)(e:(ws.getD k default).steal.part.at_=1):Ok (Xf (ws.getD k default) ⟨l⟩) (fun r=>Gi c m L K R (t+1) r.2.2.l (ws.set k r.2.1)):=by
 have h:=g.wv k hk
 have hlen:=g.bv.len
 have hbh:=g.bv.hh
 have hdm:=d.hm
 have hdL:=d.hL
 have hdK:=d.hK
 have hdR:=d.hR
 have hss:=fun q h x=>Jz g q h x
 have hgv:=fun w' l' B' (hw:Wv c m L K R (t+1) k w') e1 e2 e3 e4 v v' hv hv' h1 h2 h3 h4 h5 h6=>g.goesV hk (l':=l') (B':=B') hw e1 e2 e3 e4 (v:=v) (v':=v') hv hv' h1 h2 h3 h4 h5 h6
 have hgb:=fun w' l' (hw:Wv c m L K R (t+1) k w') e1 e2 e3 v v' hv hv' h1 h2 h3 h4 h5 h6=>g.goesB hk (l':=l') hw e1 e2 e3 (v:=v) (v':=v') hv hv' h1 h2 h3 h4 h5 h6
 have hro:=fun w' j τ x hj hv hc hw' hv'=>g.robs hk (j:=j) (w':=w') (t':=τ) (x:=x) hj hv hc hw' hv'
 have heach:=g.ai.each
 have hok:Yw K R (Xa m L R l ws) k (vw (ws.getD k default)):=g.ai.each k hk
 have hbt:=g.bv.bot
 have htp:=g.bv.top
 have hshp:=g.ai.shape
 generalize hw:ws.getD k default=w at hgv hgb hro hok h ha e ⊢
 have hl:=h.hl
 have hlim:=h.hlim
 have hl0:decide (w.limit=0)=false:=by simp;omega
 obtain ⟨h1,h2,h3,h4,h5,h6,h7,h8,h9,h10,h11,h12,h13,h14,h15,h16,h17,h18⟩:=h
 have hho:w.holds=false:=by
  cases e:w.holds with
  | false=>rfl
  | true=>have:=h13.1 e;omega
 have hwa:w.wakes=false:=by
  cases e:w.wakes with
  | false=>rfl
  | true=>have:=h14.1 e;omega
 obtain ⟨p1,p2,p3,p4,p5,p6,p7⟩:=h16 ha
 obtain ⟨j,hj⟩:∃ j:Nat,w.steal.part.w=j:=⟨w.steal.part.w.toNat,by omega⟩
 have hjK:j<K:=by omega
 have hvw:vw w=.steal j 1 w.steal.part.t w.steal.part.x:=by unfold vw;simp [ha,e,hj]
 rw [hvw] at hok
 have hbk:=hbt k hk
 have htk:=htp j hjK
 have hbj:=hbt j hjK
 simp only [Yw] at hok
 have ht1:=hok.2.1 (by decide)
 have hB:cB m L R l j=l.getD (Yi m L R j+1) 0:=rfl
 unfold Xf Xm Wp
 simp only [ha,hl0,Bool.false_eq_true,if_false,if_true,Option.bind_some,Int.reduceEq,decide_false]
 have hkb:Kl w.steal.part.l w.steal.part.w=some ((Yi m L R j+1:Nat):Int):=by rw [p1,hj];exact Nx d hjK
 have hin:=Ub (m:=m) (L:=L) (R:=R) hjK (p:=1) (by omega)
 have hlb:=Uu (l:=l) (q:=Yi m L R j+1) rfl (by omega)
 unfold Z1p Z12 Z17 Zba Zb5 Z9e Z2v
 simp only [p6,e,hkb,hlb,Option.bind_some,hl0,Bool.false_eq_true,Bool.not_false,Bool.not_true,if_false,if_true,Int.reduceEq,Int.reduceLT,Int.reduceLE,Int.reduceAdd,Int.reduceSub,decide_false]
 rw [Xb (by constructor <;> omega),Xb (by constructor <;> omega)]
 simp only [p6,e,hkb,hlb,Option.bind_some,hl0,Bool.false_eq_true,Bool.not_false,Bool.not_true,if_false,if_true,Int.reduceEq,Int.reduceLT,Int.reduceLE,Int.reduceAdd,Int.reduceSub,decide_false]
 by_cases c1:l.getD (Yi m L R j+1) 0≤w.steal.part.t
 ·
  rw [if_pos c1]
  simp only [p6,Option.bind_some,hl0,Bool.false_eq_true,Bool.not_false,Bool.not_true,if_false,if_true,Int.reduceEq,Int.reduceLT,Int.reduceLE,Int.reduceAdd,Int.reduceSub,decide_false]
  unfold Z2r Z1v Z11
  simp only [Option.bind_some,hl0,Bool.false_eq_true,Bool.not_false,Bool.not_true,if_false,if_true,Int.reduceEq,Int.reduceLT,Int.reduceLE,Int.reduceAdd,Int.reduceSub,decide_false]
  rw [Xb (by constructor <;> omega)]
  refine Ok.bind.2 (Ok.bind.2 (Ok.mono (Zaa d hk (by exact hl) (by exact h3) (by omega) (by omega)) ?_))
  rintro r (hr | ⟨hk1,jj,hjj,hr⟩)
  ·
   subst hr
   simp only [Option.bind_some,hl0,Bool.false_eq_true,Bool.not_false,Bool.not_true,if_false,if_true,Int.reduceEq,Int.reduceLT,Int.reduceLE,Int.reduceAdd,Int.reduceSub,decide_false]
   refine Ok.some.2 ?_
   try simp only [Option.bind_some,hl0,Bool.false_eq_true,Bool.not_false,Bool.not_true,if_false,if_true,Int.reduceEq,Int.reduceLT,Int.reduceLE,Int.reduceAdd,Int.reduceSub,decide_false]
   refine Ok.some.2 (hgb _ _ ?_ rfl hbh ⟨rfl,rfl,rfl,rfl⟩ _ .idle hvw ?_ rfl rfl rfl rfl (fun _ _ _ _ h=>by cases h) trivial)
   ·constructor <;> first | assumption | (simp only [hho,hwa];omega) | (simp [hho,hwa,h2,h3,p1,p2,p3,p7];done) | (simp [hho,hwa,h2,h3];omega) | (intro _;simp [hho,hwa,h2,h3,p1,p2,p3,p7];omega)
   ·unfold vw;simp
  ·
   subst hr
   simp only [Option.bind_some,hl0,Bool.false_eq_true,Bool.not_false,Bool.not_true,if_false,if_true,Int.reduceEq,Int.reduceLT,Int.reduceLE,Int.reduceAdd,Int.reduceSub,decide_false]
   refine Ok.some.2 ?_
   try simp only [Option.bind_some,hl0,Bool.false_eq_true,Bool.not_false,Bool.not_true,if_false,if_true,Int.reduceEq,Int.reduceLT,Int.reduceLE,Int.reduceAdd,Int.reduceSub,decide_false]
   refine Ok.some.2 (hgb _ _ ?_ rfl hbh ⟨rfl,rfl,rfl,rfl⟩ _ (.steal jj 0 0 0) hvw ?_ rfl rfl rfl rfl (fun _ _ _ _ h=>by simp [Vw.thief] at h) (by simp [Yw];exact hjj))
   ·constructor <;> first | assumption | (simp only [hho,hwa];omega) | (simp [hho,hwa,h2,h3,hjj,hk1,p1,p2,p3,p7];done) | (simp [hho,hwa,h2,h3];omega) | (intro _;simp [hho,hwa,h2,h3,p1,p2,p3,p7];omega)
   ·unfold vw;simp
 ·
  rw [if_neg c1]
  simp only [p6,Option.bind_some,hl0,Bool.false_eq_true,Bool.not_false,Bool.not_true,if_false,if_true,Int.reduceEq,Int.reduceLT,Int.reduceLE,Int.reduceAdd,Int.reduceSub,decide_false]
  have hEj:cB m L R l j≤(Xa m L R l ws).E j:=by
   have ho:=heach j hjK
   show cB m L R l j≤Wx (cB m L R l j) (vw (ws.getD j default))
   have ho:Yw K R (Xa m L R l ws) j (vw (ws.getD j default)):=ho
   cases hv:vw (ws.getD j default) with
   | take p b t x g =>
    rw [hv] at ho
    simp only [Yw] at ho
    simp only [Wx]
    split
    ·
     have h9:cB m L R l j=b:=ho.2.1 (by assumption)
     omega
    ·exact Int.le_refl _
   | _=>exact Int.le_refl _
  have hE4:Wx (cB m L R l k) (Vw.steal j 2 w.steal.part.t w.steal.part.x)=(Xa m L R l ws).E k:=by
   show _=Wx (cB m L R l k) (vw (ws.getD k default));rw [hw,hvw];rfl
  refine Ok.some.2 (hgb _ l ?_ rfl hbh ⟨rfl,rfl,rfl,rfl⟩ _ (.steal j 2 w.steal.part.t w.steal.part.x) hvw ?_ rfl rfl rfl rfl (fun i hi hik y hy=>.inr ?_) ?_)
  ·constructor <;> first | assumption | (simp only [hho,hwa];omega) | (simp [hho,hwa,h2,h3,p1,p2,p3,p7];done) | (simp [hho,hwa,h2,h3];omega) | (intro _;simp [hho,hwa,h2,h3,p1,p2,p3,p7];omega)
  ·unfold vw;simp [hj]
  ·
   simp only [Vw.thief] at hy
   split at hy
   ·
    rename_i c2
    injection hy with hy
    rw [←c2.1,←hy]
    omega
   ·cases hy
  ·
   simp only [Yw]
   rw [go_E hE4]
   exact ⟨hjK,fun _=>ht1,fun _ _=>by omega,fun h=>by omega,by omega⟩
theorem p_steal2 (ht:t≤1000000)(g:Gi c m L K R t l ws)(d:Dm m L K R)(hk:k<K)(ha:(ws.getD k default).at_=1)(e:(ws.getD k default).steal.part.at_=2):Ok (Xf (ws.getD k default) ⟨l⟩) (fun r=>Gi c m L K R (t+1) r.2.2.l (ws.set k r.2.1)):=by
 have h:=g.wv k hk
 have hlen:=g.bv.len
 have hbh:=g.bv.hh
 have hdm:=d.hm
 have hdL:=d.hL
 have hdK:=d.hK
 have hdR:=d.hR
 have hss:=fun q h x=>Jz g q h x
 have hgv:=fun w' l' B' (hw:Wv c m L K R (t+1) k w') e1 e2 e3 e4 v v' hv hv' h1 h2 h3 h4 h5 h6=>g.goesV hk (l':=l') (B':=B') hw e1 e2 e3 e4 (v:=v) (v':=v') hv hv' h1 h2 h3 h4 h5 h6
 have hgb:=fun w' l' (hw:Wv c m L K R (t+1) k w') e1 e2 e3 v v' hv hv' h1 h2 h3 h4 h5 h6=>g.goesB hk (l':=l') hw e1 e2 e3 (v:=v) (v':=v') hv hv' h1 h2 h3 h4 h5 h6
 have hro:=fun w' j τ x hj hv hc hw' hv'=>g.robs hk (j:=j) (w':=w') (t':=τ) (x:=x) hj hv hc hw' hv'
 have heach:=g.ai.each
 have hok:Yw K R (Xa m L R l ws) k (vw (ws.getD k default)):=g.ai.each k hk
 have hbt:=g.bv.bot
 have htp:=g.bv.top
 have hshp:=g.ai.shape
 generalize hw:ws.getD k default=w at hgv hgb hro hok h ha e ⊢
 have hl:=h.hl
 have hlim:=h.hlim
 have hl0:decide (w.limit=0)=false:=by simp;omega
 obtain ⟨h1,h2,h3,h4,h5,h6,h7,h8,h9,h10,h11,h12,h13,h14,h15,h16,h17,h18⟩:=h
 have hho:w.holds=false:=by
  cases e:w.holds with
  | false=>rfl
  | true=>have:=h13.1 e;omega
 have hwa:w.wakes=false:=by
  cases e:w.wakes with
  | false=>rfl
  | true=>have:=h14.1 e;omega
 obtain ⟨p1,p2,p3,p4,p5,p6,p7⟩:=h16 ha
 obtain ⟨j,hj⟩:∃ j:Nat,w.steal.part.w=j:=⟨w.steal.part.w.toNat,by omega⟩
 have hjK:j<K:=by omega
 have hvw:vw w=.steal j 2 w.steal.part.t w.steal.part.x:=by unfold vw;simp [ha,e,hj]
 rw [hvw] at hok
 have hbk:=hbt k hk
 have htk:=htp j hjK
 have hbj:=hbt j hjK
 simp only [Yw] at hok
 have ht1:=hok.2.1 (by decide)
 have ht2:w.steal.part.t≤cT m L R l j:=ht1.2
 unfold Xf Xm Wp
 simp only [ha,hl0,Bool.false_eq_true,if_false,if_true,Option.bind_some,Int.reduceEq,decide_false]
 have hlt:w.steal.part.t.toNat%R<R:=Nat.mod_lt _ (by omega)
 have hin2:=Ub (m:=m) (L:=L) (R:=R) hjK (p:=2+w.steal.part.t.toNat%R) (by omega)
 have hsl:Gk w.steal.part.l w.steal.part.w w.steal.part.t=some ((Yi m L R j+2+w.steal.part.t.toNat%R:Nat):Int):=by rw [p1,hj];exact Z4n d hjK (by omega) (by omega)
 have hls:=Uu (l:=l) (q:=Yi m L R j+2+w.steal.part.t.toNat%R) rfl (by omega)
 have hS:cS m L R l j (w.steal.part.t.toNat%R)=l.getD (Yi m L R j+2+w.steal.part.t.toNat%R) 0:=by unfold cS;rw [if_pos hlt]
 have hE4:Wx (cB m L R l k) (Vw.steal j 3 w.steal.part.t (cS m L R l j (w.steal.part.t.toNat%R)))=(Xa m L R l ws).E k:=by
  show _=Wx (cB m L R l k) (vw (ws.getD k default));rw [hw,hvw];rfl
 unfold Z1p Z12 Z17 Z78 Zai
 simp only [p6,e,hsl,hls,Option.bind_some,hl0,Bool.false_eq_true,Bool.not_false,Bool.not_true,if_false,if_true,Int.reduceEq,Int.reduceLT,Int.reduceLE,Int.reduceAdd,Int.reduceSub,decide_false]
 rw [Xb (by constructor <;> omega),Xb (by constructor <;> omega)]
 simp only [p6,e,hsl,hls,Option.bind_some,hl0,Bool.false_eq_true,Bool.not_false,Bool.not_true,if_false,if_true,Int.reduceEq,Int.reduceLT,Int.reduceLE,Int.reduceAdd,Int.reduceSub,decide_false]
 refine Ok.some.2 (hgb _ l ?_ rfl hbh ⟨rfl,rfl,rfl,rfl⟩ _ (.steal j 3 w.steal.part.t (cS m L R l j (w.steal.part.t.toNat%R))) hvw ?_ rfl rfl rfl rfl (fun i hi hik y hy=>.inl (by simpa [Vw.thief] using hy)) ?_)
 ·constructor <;> first | assumption | (simp only [hho,hwa];omega) | (simp [hho,hwa,h2,h3,p1,p2,p3,p7];done) | (simp [hho,hwa,h2,h3];omega) | (intro _;simp [hho,hwa,h2,h3,p1,p2,p3,p7];omega)
 ·unfold vw;simp [hS,hj]
 ·
  simp only [Yw]
  rw [go_E hE4]
  exact ⟨hjK,fun _=>ht1,fun _ h=>hok.2.2.1 (by decide) h,fun _ _=>rfl,by omega⟩
theorem p_steal3 (ht:t≤1000000)(g:Gi c m L K R t l ws)(d:Dm m L K R)(hk:k<K)(ha:(ws.getD k default).at_=1)(e:(ws.getD k default).steal.part.at_=3):Ok (Xf (ws.getD k default) ⟨l⟩) (fun r=>Gi c m L K R (t+1) r.2.2.l (ws.set k r.2.1)):=by
 have h:=g.wv k hk
 have hlen:=g.bv.len
 have hbh:=g.bv.hh
 have hdm:=d.hm
 have hdL:=d.hL
 have hdK:=d.hK
 have hdR:=d.hR
 have hss:=fun q h x=>Jz g q h x
 have hgv:=fun w' l' B' (hw:Wv c m L K R (t+1) k w') e1 e2 e3 e4 v v' hv hv' h1 h2 h3 h4 h5 h6=>g.goesV hk (l':=l') (B':=B') hw e1 e2 e3 e4 (v:=v) (v':=v') hv hv' h1 h2 h3 h4 h5 h6
 have hgb:=fun w' l' (hw:Wv c m L K R (t+1) k w') e1 e2 e3 v v' hv hv' h1 h2 h3 h4 h5 h6=>g.goesB hk (l':=l') hw e1 e2 e3 (v:=v) (v':=v') hv hv' h1 h2 h3 h4 h5 h6
 have hro:=fun w' j τ x hj hv hc hw' hv'=>g.robs hk (j:=j) (w':=w') (t':=τ) (x:=x) hj hv hc hw' hv'
 have heach:=g.ai.each
 have hok:Yw K R (Xa m L R l ws) k (vw (ws.getD k default)):=g.ai.each k hk
 have hbt:=g.bv.bot
 have htp:=g.bv.top
 have hshp:=g.ai.shape
 generalize hw:ws.getD k default=w at hgv hgb hro hok h ha e ⊢
 have hl:=h.hl
 have hlim:=h.hlim
 have hl0:decide (w.limit=0)=false:=by simp;omega
 obtain ⟨h1,h2,h3,h4,h5,h6,h7,h8,h9,h10,h11,h12,h13,h14,h15,h16,h17,h18⟩:=h
 have hho:w.holds=false:=by
  cases e:w.holds with
  | false=>rfl
  | true=>have:=h13.1 e;omega
 have hwa:w.wakes=false:=by
  cases e:w.wakes with
  | false=>rfl
  | true=>have:=h14.1 e;omega
 obtain ⟨p1,p2,p3,p4,p5,p6,p7⟩:=h16 ha
 obtain ⟨j,hj⟩:∃ j:Nat,w.steal.part.w=j:=⟨w.steal.part.w.toNat,by omega⟩
 have hjK:j<K:=by omega
 have hvw:vw w=.steal j 3 w.steal.part.t w.steal.part.x:=by unfold vw;simp [ha,e,hj]
 rw [hvw] at hok
 have hbk:=hbt k hk
 have htk:=htp j hjK
 have hbj:=hbt j hjK
 simp only [Yw] at hok
 have ht1:=hok.2.1 (by decide)
 have ht2:w.steal.part.t≤cT m L R l j:=ht1.2
 have hT:cT m L R l j=l.getD (Yi m L R j) 0:=rfl
 unfold Xf Xm Wp
 simp only [ha,hl0,Bool.false_eq_true,if_false,if_true,Option.bind_some,Int.reduceEq,decide_false]
 have hkt:Jk w.steal.part.l w.steal.part.w=some ((Yi m L R j:Nat):Int):=by rw [p1,hj];exact Z0h d hjK
 have hin0:=Ub (m:=m) (L:=L) (R:=R) hjK (p:=0) (by omega)
 have hcas:=b_CAS (l:=l) (old:=w.steal.part.t) (v:=w.steal.part.t+1) (q:=Yi m L R j) rfl (by omega)
 unfold Z1p Z12 Z17 Z9t Z22 Z2v
 simp only [p6,e,hkt,hcas,Option.bind_some,hl0,Bool.false_eq_true,Bool.not_false,Bool.not_true,if_false,if_true,Int.reduceEq,Int.reduceLT,Int.reduceLE,Int.reduceAdd,Int.reduceSub,decide_false]
 rw [Xb (by constructor <;> omega),Xb (by constructor <;> omega)]
 simp only [p6,e,hkt,hcas,Option.bind_some,hl0,Bool.false_eq_true,Bool.not_false,Bool.not_true,if_false,if_true,Int.reduceEq,Int.reduceLT,Int.reduceLE,Int.reduceAdd,Int.reduceSub,decide_false]
 rw [Xb (by constructor <;> omega)]
 simp only [p6,e,hkt,hcas,Option.bind_some,hl0,Bool.false_eq_true,Bool.not_false,Bool.not_true,if_false,if_true,Int.reduceEq,Int.reduceLT,Int.reduceLE,Int.reduceAdd,Int.reduceSub,decide_false]
 by_cases c1:l.getD (Yi m L R j) 0=w.steal.part.t
 ·
  simp only [decide_eq_true c1,if_pos c1]
  unfold Z2r Z1v Z11 Z1q
  simp only [Option.bind_some,hl0,Bool.false_eq_true,Bool.not_false,Bool.not_true,if_false,if_true,Int.reduceEq,Int.reduceLT,Int.reduceLE,Int.reduceAdd,Int.reduceSub,decide_false]
  refine Ok.some.2 (hro _ j w.steal.part.t w.steal.part.x hjK hvw (by rw [hT];exact c1) (fun hU=>?_) ?_)
  ·constructor <;> first | assumption | (simp only [hho,hwa];omega) | (simp [hho,hwa,h2,h3,hU];done) | (simp [hho,hwa,h2,h3];omega) | (intro _;simp [hho,hwa,h2,h3,p1,p2,p3,p7];omega)
  ·unfold vw;simp
 ·
  simp only [decide_eq_false c1,if_neg c1]
  have hs:=set_T (m:=m) (L:=L) (R:=R) (k:=j) (l:=l) (x:=l.getD (Yi m L R j) 0) (by omega)
  rw [←hT,Z34] at hs
  unfold Z2r Z1v Z11
  simp only [Option.bind_some,hl0,Bool.false_eq_true,Bool.not_false,Bool.not_true,if_false,if_true,Int.reduceEq,Int.reduceLT,Int.reduceLE,Int.reduceAdd,Int.reduceSub,decide_false]
  rw [Xb (by constructor <;> omega)]
  refine Ok.bind.2 (Ok.bind.2 (Ok.mono (Zaa d hk (by exact hl) (by exact h3) (by omega) (by omega)) ?_))
  rintro r (hr | ⟨hk1,jj,hjj,hr⟩)
  ·
   subst hr
   simp only [Option.bind_some,hl0,Bool.false_eq_true,Bool.not_false,Bool.not_true,if_false,if_true,Int.reduceEq,Int.reduceLT,Int.reduceLE,Int.reduceAdd,Int.reduceSub,decide_false]
   refine Ok.some.2 ?_
   try simp only [Option.bind_some,hl0,Bool.false_eq_true,Bool.not_false,Bool.not_true,if_false,if_true,Int.reduceEq,Int.reduceLT,Int.reduceLE,Int.reduceAdd,Int.reduceSub,decide_false]
   refine Ok.some.2 (hgb _ _ ?_ (by rw [List.length_set]) (hss _ (by omega) _) hs _ .idle hvw ?_ rfl rfl rfl rfl (fun _ _ _ _ h=>by cases h) trivial)
   ·constructor <;> first | assumption | (simp only [hho,hwa];omega) | (simp [hho,hwa,h2,h3,p1,p2,p3,p7];done) | (simp [hho,hwa,h2,h3];omega) | (intro _;simp [hho,hwa,h2,h3,p1,p2,p3,p7];omega)
   ·unfold vw;simp
  ·
   subst hr
   simp only [Option.bind_some,hl0,Bool.false_eq_true,Bool.not_false,Bool.not_true,if_false,if_true,Int.reduceEq,Int.reduceLT,Int.reduceLE,Int.reduceAdd,Int.reduceSub,decide_false]
   refine Ok.some.2 ?_
   try simp only [Option.bind_some,hl0,Bool.false_eq_true,Bool.not_false,Bool.not_true,if_false,if_true,Int.reduceEq,Int.reduceLT,Int.reduceLE,Int.reduceAdd,Int.reduceSub,decide_false]
   refine Ok.some.2 (hgb _ _ ?_ (by rw [List.length_set]) (hss _ (by omega) _) hs _ (.steal jj 0 0 0) hvw ?_ rfl rfl rfl rfl (fun _ _ _ _ h=>by simp [Vw.thief] at h) (by simp [Yw];exact hjj))
   ·constructor <;> first | assumption | (simp only [hho,hwa];omega) | (simp [hho,hwa,h2,h3,hjj,hk1,p1,p2,p3,p7];done) | (simp [hho,hwa,h2,h3];omega) | (intro _;simp [hho,hwa,h2,h3,p1,p2,p3,p7];omega)
   ·unfold vw;simp
end
end Go.Acq
namespace Go.Acq
open Go
section
variable {n : Net} {c : Csr} {m L K R k : Nat} {t : Int} {l : List Int} {ws : List WorkerWorker} {w : WorkerWorker}
theorem Gi.later (g:Gi c m L K R t l ws):Gi c m L K R (t+1) l ws :=
 ⟨⟨g.bv.len,g.bv.hh,fun k hk=>by have:=g.bv.bot k hk;omega,fun k hk=>by have:=g.bv.top k hk;omega⟩,g.n,fun k hk=>(g.wv k hk).up,g.ai⟩
theorem p_Step (r:Row n m L c)(ht:t≤1000000)(g:Gi c m L K R t l ws)(d:Dm m L K R)(hk:k<K)(ha:(ws.getD k default).at_≠25):Ok (Xf (ws.getD k default) ⟨l⟩) (fun r=>Gi c m L K R (t+1) r.2.2.l (ws.set k r.2.1)):=by
 have h:=g.wv k hk
 have hat:=h.hat
 by_cases a0:(ws.getD k default).at_=0
 ·
  have q:=h.htake a0
  by_cases b0:(ws.getD k default).pop.part.at_=0
  ·exact p_take0 ht g d hk a0 b0
  by_cases b1:(ws.getD k default).pop.part.at_=1
  ·exact p_take1 ht g d hk a0 b1
  by_cases b2:(ws.getD k default).pop.part.at_=2
  ·exact p_take2 ht g d hk a0 b2
  by_cases b3:(ws.getD k default).pop.part.at_=3
  ·exact p_take3 ht g d hk a0 b3
  by_cases b4:(ws.getD k default).pop.part.at_=4
  ·exact p_take4 ht g d hk a0 b4
  exact p_take5 ht g d hk a0 (by omega)
 by_cases a1:(ws.getD k default).at_=1
 ·
  have q:=h.hsteal a1
  by_cases b0:(ws.getD k default).steal.part.at_=0
  ·exact p_steal0 ht g d hk a1 b0
  by_cases b1:(ws.getD k default).steal.part.at_=1
  ·exact p_steal1 ht g d hk a1 b1
  by_cases b2:(ws.getD k default).steal.part.at_=2
  ·exact p_steal2 ht g d hk a1 b2
  exact p_steal3 ht g d hk a1 (by omega)
 by_cases a14:(ws.getD k default).at_=14
 ·
  have q:=h.hput a14
  by_cases b0:(ws.getD k default).put.part.at_=0
  ·exact p_put0 g d hk a14 b0
  by_cases b1:(ws.getD k default).put.part.at_=1
  ·exact p_put1 ht g d hk a14 b1
  by_cases b2:(ws.getD k default).put.part.at_=2
  ·exact p_put2 ht g d hk a14 b2
  exact p_put3 ht g d hk a14 (by omega)
 by_cases a2:(ws.getD k default).at_=2
 ·exact p_look g d hk a2
 by_cases a3:(ws.getD k default).at_=3
 ·exact p_rest g d hk a3
 by_cases a4:(ws.getD k default).at_=4
 ·exact p_height g d hk a4
 by_cases a5:(ws.getD k default).at_=5
 ·exact p_excess r g d hk a5
 by_cases a6:(ws.getD k default).at_=6
 ·exact p_left r g d hk a6
 by_cases a7:(ws.getD k default).at_=7
 ·exact p_low r g d hk a7
 by_cases a8:(ws.getD k default).at_=8
 ·exact p_push r g d hk a8
 by_cases a9:(ws.getD k default).at_=9
 ·exact p_back r g d hk a9
 by_cases a10:(ws.getD k default).at_=10
 ·exact p_from g d hk a10
 by_cases a11:(ws.getD k default).at_=11
 ·exact p_to r g d hk a11
 by_cases a12:(ws.getD k default).at_=12
 ·exact p_claim g d hk a12
 by_cases a13:(ws.getD k default).at_=13
 ·exact p_up g d hk a13
 by_cases a15:(ws.getD k default).at_=15
 ·exact p_lift r ht g d hk a15
 by_cases a16:(ws.getD k default).at_=16
 ·exact p_ask g d hk a16
 by_cases a17:(ws.getD k default).at_=17
 ·exact p_turn r g d hk a17
 by_cases a18:(ws.getD k default).at_=18
 ·exact p_free g d hk a18
 by_cases a19:(ws.getD k default).at_=19
 ·exact p_again g d hk a19
 by_cases a20:(ws.getD k default).at_=20
 ·exact Zkn r g d hk a20
 by_cases a21:(ws.getD k default).at_=21
 ·exact p_down g d hk a21
 by_cases a22:(ws.getD k default).at_=22
 ·exact p_drop g d hk a22
 by_cases a23:(ws.getD k default).at_=23
 ·exact p_fall g d hk a23
 exact p_arrive g d hk (by omega)
theorem eqW (h:w.c=c):({ w with c:=({ c with N:=w.c.N,S:=w.c.S,T:=w.c.T }:Csr) }:WorkerWorker)=w:=by
 subst h;rfl
theorem Zei (h:1≤w.limit):Xm w=some (decide (w.at_=25)):=by
 unfold Xm Wp
 rw [decide_eq_false (show ¬w.limit=0 by omega)]
 rfl
structure Mn (σ:AS)(K R m:Nat)(vis:Pl→Prop)(many:List Int):Prop where
  len:many.length=m
  at_:∀ v:Nat,v<m→many.getD v 0=0∨many.getD v 0=1∧∃ p,vis p∧σ.val K R p=some (v:Int)
theorem Mn.mono {σ:AS}{vis vis':Pl→Prop}{many:List Int}(h:Mn σ K R m vis many)(hv:∀ p,vis p→vis' p):Mn σ K R m vis' many :=
 ⟨h.len,fun v hm=>(h.at_ v hm).imp id fun ⟨e,p,hp,q⟩=>⟨e,p,hv p hp,q⟩⟩
theorem Mn.add {σ:AS}{vis:Pl→Prop}{many:List Int}{p:Pl}{u:Nat}(ai:AI (Xe m c) K R σ)(h:Mn σ K R m vis many)(hp:¬vis p)(hu:σ.val K R p=some (u:Int))(hm:u<m) :
    many.getD u 0=0∧Mn σ K R m (fun q=>vis q∨q=p) (many.set u (many.getD u 0+1)):=by
  have h0:many.getD u 0=0:=by
    rcases h.at_ u hm with e | ⟨-,q,hq,e⟩
    ·exact e
    ·exact absurd (ai.inj q p _ e hu▸hq) hp
  refine ⟨h0,by rw [List.length_set];exact h.len,fun v hv=>?_⟩
  by_cases e:u=v
  · subst e
    rw [Rq (by rw [h.len];exact hm),h0]
    exact .inr ⟨rfl,p,.inr rfl,hu⟩
  · rw [Xw e]
    exact (h.at_ v hv).imp id fun ⟨e,q,hq,e2⟩=>⟨e,q,.inl hq,e2⟩
theorem Zgd {c2:Acequialaw16Phase}{xs:List Int}{pl:Nat→Pl}{vis:Pl→Prop}{many:List Int}(g:Gi c m L K R t l ws)(d:Dm m L K R)(hN:n.N=m)(hL:c2.L=Yy m L K R)(hB:c2.B=⟨l⟩)
    (hv:∀ q,q<xs.length→(Xa m L R l ws).val K R (pl q)=some (xs.getD q 0))(hi:∀ p q,p<q→q<xs.length→pl p≠pl q)(hn:∀ q,q<xs.length→¬vis (pl q))(hx:xs.length≤100)(h:Mn (Xa m L R l ws) K R m vis many) :
    Ok (Xz (fun s=>Z13 n c2 xs s.1 s.2) Xo (many,0)) (fun o=>∃ many',o=.inr many'∧Mn (Xa m L R l ws) K R m (fun p=>vis p∨∃ q,q<xs.length∧p=pl q) many'):=by
  have hdm:=d.hm
  have hdL:=d.hL
  have hlen:=g.bv.len
  refine Jj (fun s=>∃ i:Nat,s.2=i∧i≤xs.length∧Mn (Xa m L R l ws) K R m (fun p=>vis p∨∃ q,q<i∧p=pl q) s.1) (fun s=>(xs.length-s.2).toNat) ⟨0,rfl,by omega,h.mono fun p hp=>.inl hp⟩ (by unfold Xo;simp only;omega) ?_
  rintro ⟨mn,x⟩ ⟨i,e1,hi2,hM⟩ P next exit
  simp only at e1 hM next ⊢
  subst e1
  unfold Z13
  refine Ok.ite.2 ⟨fun hlt=>?_,fun hge=>Ok.some.2 (exit _ ⟨mn,rfl,hM.mono fun p hp=>hp.imp id fun ⟨q,hq,e⟩=>⟨q,by omega,e⟩⟩)⟩
  have hlt':i<xs.length:=by omega
  have hval:=hv i hlt'
  obtain ⟨hU,hF⟩:=g.ai.flg _ _ hval
  obtain ⟨hu0,hum,-,-⟩:=hU
  obtain ⟨u,hu⟩:∃ u:Nat,xs.getD i 0=u:=⟨(xs.getD i 0).toNat,by omega⟩
  rw [hu] at hval hF hu0 hum
  have hum':u<m:=by omega
  have hF':l.getD (L+2*m+u) 0=1:=by
    have:cF m L l u=1:=hF
    unfold cF at this
    rw [if_pos hum'] at this;exact this
  have hld:=Uu (l:=l) (i:=c2.L.Flag+(u:Int)) (q:=L+2*m+u) (by rw [hL];unfold Yy;simp only;omega) (by omega)
  have hnv:¬(vis (pl i)∨∃ q,q<i∧pl i=pl q):=by
    rintro (h | ⟨q,hq,e⟩)
    ·exact hn i hlt' h
    ·exact hi q i hq hlt' e.symm
  obtain ⟨z0,hA⟩:=hM.add g.ai hnv hval hum'
  have hml:=hM.len
  simp only [Int.toNat_natCast,hu,hN,hB,hld]
  refine Ok.gd.2 ⟨by constructor <;> omega,Ok.ite.2 ⟨fun h=>absurd h (by omega),fun _=>Ok.ite.2 ⟨fun h=>absurd h (by omega),fun _=>Ok.gd.2 ⟨by rw [hL];unfold Yy;simp only;constructor <;> omega,Ok.bind.2 (Ok.some.2 (Ok.ite.2 ⟨fun h=>absurd hF' h,fun _=>Ok.gd.2 ⟨by constructor <;> omega,Ok.gd.2 ⟨by rw [z0];constructor <;> omega,Ok.gd.2 ⟨by constructor <;> omega,Ok.gd.2 ⟨by constructor <;> omega,Ok.some.2 (next _ ⟨i+1,by simp,by omega,hA.mono ?_⟩ (by simp only;omega))⟩⟩⟩⟩⟩))⟩⟩⟩⟩
  rintro p ((hp | ⟨q,hq,e⟩) | e)
  ·exact .inl hp
  ·exact .inr ⟨q,by omega,e⟩
  ·exact .inr ⟨i,by omega,e⟩
end
end Go.Acq
namespace Go.Acq
open Go
section
variable {n : Net} {c : Csr} {m L K R k : Nat} {t : Int} {l : List Int} {ws : List WorkerWorker} {w : WorkerWorker}
def Nk (w:WorkerWorker):List Int:=(if w.holds=true then [w.u] else [])++(if w.wakes=true then [w.v] else [])
theorem s_Holds (h:1≤w.limit):Z40 w=some (Nk w):=by
 unfold Z40 Wp Z4s Nk
 rw [decide_eq_false (show ¬w.limit=0 by omega)]
 simp only [Option.bind_some,Bool.false_eq_true,if_false]
 cases w.holds <;> cases w.wakes <;> simp [gd,apok]
theorem E_ge (g:Gi c m L K R t l ws)(hk:k<K):cB m L R l k≤(Xa m L R l ws).E k:=by
 show cB m L R l k≤Wx (cB m L R l k) (vw (ws.getD k default))
 have ho:Yw K R (Xa m L R l ws) k (vw (ws.getD k default)):=g.ai.each k hk
 cases hv:vw (ws.getD k default) with
 | take p b t x g =>
  rw [hv] at ho
  simp only [Yw] at ho
  simp only [Wx]
  split
  ·
   have h9:cB m L R l k=b:=ho.2.1 (by assumption)
   omega
  ·exact Int.le_refl _
 | _=>exact Int.le_refl _
theorem s_Held (g:Gi c m L K R t l ws)(d:Dm m L K R)(ht:t≤1000000)(hk:k<K):Ok (Z44 (Yy m L K R) k ⟨l⟩) (fun xs=>∃ T0:Nat,cT m L R l k=T0∧xs.length≤R∧∀ q,q<xs.length→((T0+q:Nat):Int)<(Xa m L R l ws).E k∧xs.getD q 0=cS m L R l k ((T0+q)%R)):=by
 have hdm:=d.hm
 have hdL:=d.hL
 have hdR:=d.hR
 have hlen:=g.bv.len
 have htp:=g.bv.top k hk
 have hbt:=g.bv.bot k hk
 have hE:=E_ge g hk
 have hT:cT m L R l k=l.getD (Yi m L R k) 0:=rfl
 have hB:cB m L R l k=l.getD (Yi m L R k+1) 0:=rfl
 have hin:=Ub (m:=m) (L:=L) (R:=R) hk (p:=0) (by omega)
 have hin1:=Ub (m:=m) (L:=L) (R:=R) hk (p:=1) (by omega)
 obtain ⟨T0,hT0⟩:∃ T0:Nat,cT m L R l k=T0:=⟨(cT m L R l k).toNat,by omega⟩
 unfold Z44
 refine Ok.bind.2 (Wn (Z0h d hk) (Ok.bind.2 (Wn (Uu (q:=Yi m L R k) rfl (by omega)) (Ok.bind.2 ?_))))
 rw [←hT,hT0]
 refine Jj (fun s=>∃ j:Nat,s.2=((T0+j:Nat):Int)∧s.1.length=j∧j≤R∧∀ q,q<j→((T0+q:Nat):Int)<(Xa m L R l ws).E k∧s.1.getD q 0=cS m L R l k ((T0+q)%R)) (fun s=>(cB m L R l k-s.2).toNat) ⟨0,rfl,rfl,by omega,fun q hq=>by omega⟩ (by unfold Xo;simp only;omega) ?_
 rintro ⟨out,x⟩ ⟨j,e1,e2,hj,hv⟩ P next exit
 simp only at e1 e2 hv next ⊢
 subst e1
 have fin:P (.inr out):=exit _ (by unfold Zaq;exact Ok.some.2 ⟨T0,rfl,by omega,fun q hq=>hv q (by omega)⟩)
 unfold Z55
 refine Ok.bind.2 (Wn (Nx d hk) (Ok.bind.2 (Wn (Uu (q:=Yi m L R k+1) rfl (by omega)) (Ok.ite.2 ⟨fun hlt=>Ok.ite.2 ⟨fun hr=>?_,fun _=>Ok.some.2 fin⟩,fun _=>Ok.some.2 fin⟩))))
 rw [←hB] at hlt
 have hr':j<R:=by
  have:(Yy m L K R).Room=R:=rfl
  rw [this,e2] at hr;omega
 have hm:=Nat.mod_lt (T0+j) (show 0<R by omega)
 have hin2:=Ub (m:=m) (L:=L) (R:=R) hk (p:=2+(T0+j)%R) (by omega)
 have hsl:=Z4n d hk (a:=((T0+j:Nat):Int)) (by omega) (by omega)
 rw [Int.toNat_natCast] at hsl
 refine Ok.bind.2 (Wn hsl (Ok.bind.2 (Wn (Uu (q:=Yi m L R k+2+(T0+j)%R) rfl (by omega)) (Ok.gd.2 ⟨by simp only [List.length_append,List.length_cons,List.length_nil];constructor <;> omega,Ok.gd.2 ⟨by constructor <;> omega,Ok.some.2 (next _ ⟨j+1,by simp only;omega,by simp [e2],by omega,fun q hq=>?_⟩ (by simp only;omega))⟩⟩))))
 simp only
 by_cases c1:q<j
 ·
  have:=hv q c1
  refine ⟨this.1,?_⟩
  rw [←this.2]
  simp only [List.getD_eq_getElem?_getD,List.getElem?_append_left (show q<out.length by omega)]
 ·
  have hqj:q=j:=by omega
  subst hqj
  refine ⟨by omega,?_⟩
  rw [List.getD_eq_getElem?_getD,List.getElem?_append_right (by omega),e2]
  simp only [Nat.sub_self]
  unfold cS
  rw [if_pos hm]
  rfl
def visW (i:Nat):Pl→Prop
  | .dq k _=>k<i
  | .hold k=>k<i
  | .wake k=>k<i
  | .pg _=>False
theorem s4_eq:@Z59=@Z13:=rfl
theorem held_of (h:Wv c m L K R t k w)(hh:w.holds=true):(vw w).held=some w.u:=by
 have h1:=h.hholds.1 hh
 unfold vw
 rw [if_neg (by omega),if_neg (by omega)]
 by_cases c1:w.at_=13
 ·rw [if_pos c1];rfl
 rw [if_neg c1]
 by_cases c2:w.at_=14
 ·rw [if_pos c2];rfl
 rw [if_neg c2,if_pos (by omega)];rfl
theorem Zgu (h:Wv c m L K R t k w)(hh:w.wakes=true):w.holds=true∧(vw w).woken=some w.v:=by
 have h1:=h.hwakes.1 hh
 refine ⟨h.hholds.2 (by omega),?_⟩
 unfold vw
 rw [if_neg (by omega),if_neg (by omega)]
 by_cases c1:w.at_=13
 ·rw [if_pos c1];rfl
 rw [if_neg c1,if_pos (by omega)];rfl
theorem s_each {c2:Acequialaw16Phase}{k0:Int}(g:Gi c m L K R t l ws)(d:Dm m L K R)(ht:t≤1000000)(hN:n.N=m)(hS:n.S=c.S)(hT:n.T=c.T)(hL:c2.L=Yy m L K R)(hB:c2.B=⟨l⟩)(hW:c2.W=ws):Z5m k0 n c2=some true:=by
 have hdm:=d.hm
 have hdK:=d.hK
 have hdR:=d.hR
 have hn:=g.n
 refine Z25 ?_
 unfold Z5m
 refine Ok.gd.2 ⟨by rw [hN];constructor <;> omega,Ok.bind.2 ?_⟩
 rw [hN,Int.toNat_natCast]
 refine Jj (fun s=>∃ i:Nat,s.2=i∧i≤K∧Mn (Xa m L R l ws) K R m (visW i) s.1) (fun s=>(K-s.2).toNat) ⟨0,rfl,by omega,by simp,fun v hv=>.inl (by rw [Z7f])⟩ (by unfold Xo;simp only;omega) ?_
 rintro ⟨mn,x⟩ ⟨i,e1,hi,hM⟩ P next exit
 simp only at e1 hM next ⊢
 subst e1
 unfold Z4e
 rw [hW,hn]
 refine Ok.ite.2 ⟨fun hlt=>?_,fun hge=>Ok.some.2 (exit _ ?_)⟩
 ·
  have hiK:i<K:=by omega
  have hwv:=g.wv i hiK
  have hge:Km ws (i:Int)=some (ws.getD i default):=by
   unfold Km;rw [if_pos ⟨by omega,by rw [hn];omega⟩,Int.toNat_natCast]
  have hV:(Xa m L R l ws).V i=vw (ws.getD i default):=rfl
  refine Ok.gd.2 ⟨by constructor <;> omega,Ok.bind.2 (Wn hge (Ok.bind.2 (Wn (s_Holds hwv.hlim) (Ok.bind.2 (Ok.mono (Zgd (pl:=fun q=>if q=0 then .hold i else .wake i) g d hN hL hB ?_ ?_ ?_ ?_ hM) ?_)))))⟩
  ·
   intro q hq
   cases ho:(ws.getD i default).holds with
   | true =>
    have hh:=held_of hwv ho
    cases hwk:(ws.getD i default).wakes with
    | true =>
     have e:Nk (ws.getD i default)=[(ws.getD i default).u,(ws.getD i default).v]:=by unfold Nk;rw [ho,hwk];rfl
     rw [e] at hq ⊢
     have hq2:q<2:=hq
     by_cases hq0:q=0
     ·
      subst hq0
      rw [if_pos rfl]
      simp only [AS.val,if_pos hiK,hV]
      exact hh
     ·
      have hq1:q=1:=by omega
      subst hq1
      rw [if_neg (by decide)]
      simp only [AS.val,if_pos hiK,hV]
      exact (Zgu hwv hwk).2
    | false =>
     have e:Nk (ws.getD i default)=[(ws.getD i default).u]:=by unfold Nk;rw [ho,hwk];rfl
     rw [e] at hq ⊢
     have hq2:q<1:=hq
     have hq0:q=0:=by omega
     subst hq0
     rw [if_pos rfl]
     simp only [AS.val,if_pos hiK,hV]
     exact hh
   | false =>
    cases hwk:(ws.getD i default).wakes with
    | true=>have:=(Zgu hwv hwk).1;rw [ho] at this;cases this
    | false =>
     have e:Nk (ws.getD i default)=[]:=by unfold Nk;rw [ho,hwk];rfl
     rw [e] at hq
     exact absurd hq (Nat.not_lt_zero _)
  ·
   intro p q hpq hq e
   have hl2:(Nk (ws.getD i default)).length≤2:=by unfold Nk;split <;> split <;> simp
   rw [if_pos (by omega),if_neg (by omega)] at e
   cases e
  ·
   intro q hq hv
   split at hv <;> exact absurd hv (Nat.lt_irrefl _)
  ·unfold Nk;split <;> split <;> simp
  rintro o ⟨mn1,rfl,hM1⟩
  simp only
  unfold Z6o
  rw [hL,hB]
  refine Ok.bind.2 (Ok.mono (s_Held g d ht hiK) ?_)
  rintro xs ⟨T0,hT0,hxl,hx⟩
  rw [s4_eq]
  refine Ok.bind.2 (Ok.mono (Zgd (pl:=fun q=>.dq i (T0+q)) g d hN hL hB ?_ ?_ ?_ (by omega) hM1) ?_)
  ·
   intro q hq
   obtain ⟨h1,h2⟩:=hx q hq
   have hTT:(Xa m L R l ws).T i=(T0:Int):=hT0
   simp only [AS.val]
   rw [if_pos ⟨hiK,by rw [hTT];omega,h1⟩,h2];rfl
  ·
   intro p q hpq hq e
   injection e with e1 e2
   omega
  ·
   rintro q hq (hv | ⟨j,hj,e⟩)
   ·exact absurd hv (Nat.lt_irrefl _)
   ·split at e <;> cases e
  rintro o ⟨mn2,rfl,hM2⟩
  simp only
  unfold Z6t
  refine Ok.gd.2 ⟨by constructor <;> omega,Ok.some.2 (next _ ⟨i+1,by simp,by omega,hM2.mono ?_⟩ (by simp only;omega))⟩
  rintro p ((hv | ⟨q,hq,e⟩) | ⟨q,hq,e⟩)
  ·
   cases p with
   | pg k=>exact hv
   | _=>exact Nat.lt_succ_of_lt hv
  ·split at e <;> subst e <;> exact Nat.lt_succ_self _
  ·subst e;exact Nat.lt_succ_self _
 ·
  have hml:=hM.len
  show Ok (Z62 n mn) _
  unfold Z62
  refine Ok.bind.2 (Jj (fun s=>∃ v:Nat,s=v∧v≤m) (fun s=>(m-s).toNat) ⟨0,rfl,by omega⟩ (by unfold Xo;omega) ?_)
  rintro x ⟨v,rfl,hv⟩ P next exit
  unfold Z5l
  rw [hml]
  simp only [Int.toNat_natCast]
  refine Ok.ite.2 ⟨fun hlt=>Ok.gd.2 ⟨by constructor <;> omega,?_⟩,fun _=>Ok.some.2 (exit _ (by simp only;unfold Z7q;exact Ok.some.2 rfl))⟩
  have nx:Ok (gd (i64ok ((v:Int)+1)) (some (Sum.inl ((v:Int)+1)))) P:=Ok.gd.2 ⟨by constructor <;> omega,Ok.some.2 (next _ ⟨v+1,by simp,by omega⟩ (by omega))⟩
  rcases hM.at_ v (by omega) with e | ⟨e,p,hp,hval⟩
  ·exact Ok.ite.2 ⟨fun h=>absurd h (by rw [e];decide),fun _=>Ok.ite.2 ⟨fun h=>absurd h (by rw [e];decide),fun _=>nx⟩⟩
  ·
   have hU:=(g.ai.flg p _ hval).1
   rw [hS,hT]
   exact Ok.ite.2 ⟨fun h=>absurd h (by rw [e];decide),fun _=>Ok.ite.2 ⟨fun _=>Ok.ite.2 ⟨fun h=>absurd h hU.2.2.1,fun _=>Ok.ite.2 ⟨fun h=>absurd h hU.2.2.2,fun _=>nx⟩⟩,fun _=>nx⟩⟩
end
end Go.Acq
namespace Go.Acq
open Go
section
variable {n : Net} {c : Csr} {m L K R k : Nat} {t : Int} {l : List Int} {ws : List WorkerWorker} {w : WorkerWorker}
theorem Z4z {α:Type}[Inhabited α]:∀ {l:List α} {k:Nat},l.set k (l.getD k default)=l
 | [],_=>rfl
 | _::_,0=>rfl
 | a::l,k+1=>by
  have:=Z4z (l:=l) (k:=k)
  simp only [List.set_cons_succ,List.getD_cons_succ,this]
theorem Zgb {α:Type}[Inhabited α]{l:List α}{k:Nat}(h:k<l.length):Km l (k:Int)=some (l.getD k default):=by
 unfold Km;rw [if_pos ⟨by omega,by omega⟩,Int.toNat_natCast]
theorem natGi {i:Nat}(h:Gi c m L K R ((i:Int)+1) l ws):Gi c m L K R ((i+1:Nat):Int) l ws:=by rw [Int.natCast_add];exact h
theorem mu6 {i:Nat}(h:i<6000):((6000:Int)-((i:Int)+1)).toNat<((6000:Int)-(i:Int)).toNat:=by omega
theorem s_Play {p0 p1:Acequialaw16Phase}{picks:List Int}(r:Row n m L c)(d:Dm m L K R)(hC:p0.C=c)(hL:p1.L=Yy m L K R)(hS:n.S=c.S)(hT:n.T=c.T)(hp:∀ x,x∈picks→u8ok x)(hpl:picks.length≤1000)(g:Gi c m L K R 0 p0.B.l p0.W) :
    Ok (Z5x p0 picks 6000 n p1) (fun x=>x.1=true):=by
  have hdm:=d.hm
  have hdK:=d.hK
  unfold Z5x
  refine Ok.bind.2 (Jj (fun s=>∃ i:Nat,s.2.1=i∧i≤6000∧Gi c m L K R i s.1 s.2.2) (fun s=>(6000-s.2.1).toNat) ⟨0,rfl,by omega,g⟩ (by unfold Xo;simp only;omega) ?_)
  rintro ⟨l,x,ws⟩ ⟨i,e1,hi,hg⟩ P next exit
  simp only at e1 hg next ⊢
  subst e1
  have hn:=hg.n
  have yes:∀ ws',P (.inr (.inl (true,⟨l⟩,ws'))):=fun ws'=>exit _ (Ok.some.2 rfl)
  have done:P (.inr (.inr (l,ws))):=exit _ (by show Ok (Z9l l ws) _;exact Ok.some.2 rfl)
  have j2:i<6000→∀ k:Nat,k<K→Ok (Z3j p0 n p1 l i ws k) P:=fun hi6 k hk=>by
    have hwv:=hg.wv k hk
    have hgw:=Zgb (l:=ws) (k:=k) (by omega)
    unfold Z3j
    rw [hgw,Option.bind_some,hC,eqW hwv.hc,Zei hwv.hlim]
    refine Ok.gd.2 ⟨by rw [hn];constructor <;> omega,?_⟩
    rw [Option.bind_some,Int.toNat_natCast,Z4z]
    refine Ok.ite.2 ⟨fun hd=>?_,fun hd=>?_⟩
    · -- it is done: are all?
      refine Ok.bind.2 (Jj (fun s=>∃ q:Nat,s.2.1=q∧q≤K∧s.2.2=ws) (fun s=>(K-s.2.1).toNat) ⟨0,rfl,by omega,rfl⟩ (by unfold Xo;simp only;omega) ?_)
      rintro ⟨al,x,ws2⟩ ⟨q,e1,hq,e2⟩ P2 next2 exit2
      simp only at e1 e2 next2 ⊢
      subst e1
      subst e2
      unfold Z4g
      rw [hC,eqW hwv.hc,Int.toNat_natCast,Z4z,hn]
      refine Ok.ite.2 ⟨fun hlt=>Ok.gd.2 ⟨by constructor <;> omega,?_⟩,fun _=>Ok.some.2 (exit2 _ ?_)⟩
      · have hqK : q < K := by omega
        have hwq:=hg.wv q hqK
        rw [Zgb (l:=ws2) (k:=q) (by omega),Option.bind_some,eqW hwq.hc,Zei hwq.hlim,Int.toNat_natCast,Z4z]
        refine Ok.ite.2 ⟨fun _=>Ok.bind.2 (Ok.some.2 (Ok.gd.2 ⟨by constructor <;> omega,Ok.some.2 (next2 _ ⟨q+1,by simp,by omega,rfl⟩ (by simp only;omega))⟩)),fun _=>Ok.gd.2 ⟨by constructor <;> omega,Ok.some.2 (next2 _ ⟨q+1,by simp,by omega,rfl⟩ (by simp only;omega))⟩⟩
      · show Ok (Z6a l i al ws2) P
        unfold Z6a Z3b
        exact Ok.ite.2 ⟨fun _=>Ok.some.2 (yes _),fun _=>Ok.gd.2 ⟨by constructor <;> omega,Ok.some.2 (next _ ⟨i+1,by simp,by omega,natGi hg.later⟩ (mu6 hi6))⟩⟩
    · -- a step
      have hat:(ws.getD k default).at_≠25:=fun e=>hd (decide_eq_true e)
      unfold Z7k
      rw [hC,eqW hwv.hc,Int.toNat_natCast,Z4z,hgw,Option.bind_some,eqW hwv.hc]
      refine Ok.gd.2 ⟨by rw [hn];constructor <;> omega,Ok.bind.2 (Ok.mono (p_Step r (by omega) hg d hk hat) ?_)⟩
      rintro ⟨b,w',b'⟩ hg'
      simp only at hg' ⊢
      have hwc:w'.c=c:=by have:=(hg'.wv k hk).hc;rwa [Rq (by omega)] at this
      rw [eqW hwc]
      have he:=s_each (n:=n) (k0:=(k:Int)) (c2:=Acequialaw16Phase.mk { c with N:=p1.C.N,S:=p1.C.S,T:=p1.C.T } p1.L b' (ws.set k w') p0.Dealt) hg' d (by omega) r.hm hS hT hL rfl rfl
      refine Ok.bind.2 (Wn he (Ok.ite.2 ⟨fun h=>(by simp at h),fun _=>?_⟩))
      unfold Z3b
      exact Ok.gd.2 ⟨by constructor <;> omega,Ok.some.2 (next _ ⟨i+1,by simp,by omega,natGi hg'⟩ (mu6 hi6))⟩
  unfold Z54
  rw [hn]
  refine Ok.ite.2 ⟨fun hlt=>Ok.gd.2 ⟨by omega,Ok.ite.2 ⟨fun hlp=>?_,fun _=>?_⟩⟩,fun _=>Ok.some.2 done⟩
  · have hb := hp (picks.getD i 0) (Z6g (by omega) 0)
    have hb2:0≤picks.getD i 0∧picks.getD i 0≤255:=hb
    obtain ⟨q,hq⟩:∃ q:Nat,picks.getD i 0=q:=⟨(picks.getD i 0).toNat,by omega⟩
    refine Ok.gd.2 ⟨by constructor <;> omega,?_⟩
    rw [Int.toNat_natCast,hq,←Int.ofNat_tmod]
    exact Ok.gd.2 ⟨by constructor <;> omega,Ok.gd.2 ⟨by omega,j2 (by omega) _ (Nat.mod_lt _ (by omega))⟩⟩
  · rw [← Int.ofNat_tmod]
    exact j2 (by omega) _ (Nat.mod_lt _ (by omega))
end
end Go.Acq
namespace Go.Acq
open Go
theorem s_room8 {m:Nat}(h:2≤m∧m≤7):∃ R:Nat,m≤R∧R≤8∧(∃ e,R=2^e)∧Z39 m=some (R:Int):=by
 obtain ⟨x,e,hx⟩:Ok (Z39 m) (fun x=>(m:Int)≤x∧(x=1∨x=2∨x=4∨x=8)):=by
  unfold Z39
  refine Ok.bind.2 (Jj (fun x=>x=1∨x=2∨x=4∨x=8) (fun x=>((m:Int)-x).toNat) (.inl rfl) (by unfold Xo;omega) ?_)
  rintro x hI P next exit
  unfold Z52
  refine Ok.ite.2 ⟨fun h1=>Ok.gd.2 ⟨by constructor <;> omega,Ok.some.2 (next _ (by omega) (by omega))⟩,fun h1=>Ok.some.2 (exit _ (by unfold Zac;exact Ok.some.2 ⟨by omega,hI⟩))⟩
 obtain ⟨hm,hx⟩:=hx
 refine ⟨x.toNat,by omega,by omega,?_,by rw [e,show ((x.toNat:Nat):Int)=x by omega]⟩
 rcases hx with rfl | rfl | rfl | rfl
 ·exact ⟨0,rfl⟩
 ·exact ⟨1,rfl⟩
 ·exact ⟨2,rfl⟩
 ·exact ⟨3,rfl⟩
theorem Rm {a s:Int}{L:Layout}(h:L.Size=s)(h0:0≤s)(h1:s≤1000000)(h2:0≤a)(h3:a≤1000000):Gg a L=some (s,⟨L.Verts,L.Arcs,L.Workers,L.Room,L.Res,L.Ex,L.H,L.Flag,L.Pending,L.Ask,L.Count,L.Sense,L.Deques,s+a⟩):=by
 unfold Gg
 rw [h,Xb (by constructor <;> omega),Xb (by constructor <;> omega),show s+a-a=s by omega]
theorem mulK {K R:Nat}(hK:K≤5)(hR:R≤8):K*(R+2)≤50:=Nat.le_trans (Nat.mul_le_mul hK (show R+2≤10 by omega)) (by omega)
theorem s_PlanK {m L K:Nat}(hm:2≤m∧m≤7)(hL:L≤28)(hK:1≤K∧K≤5):∃ R:Nat,Dm m L K R∧Z5e m L K=some (Yy m L K R,0):=by
 obtain ⟨R,h1,h2,h3,e⟩:=s_room8 hm
 have hq:=mulK hK.2 h2
 obtain ⟨q,hqe⟩:∃ q,K*(R+2)=q:=⟨_,rfl⟩
 have e2:(K:Int)*((R:Int)+2)=(q:Int):=by rw [←hqe,Int.natCast_mul,Int.natCast_add];rfl
 have hlay:Yy m L K R=⟨m,L,K,R,0,L,L+m,L+2*m,L+3*m,L+3*m+1,L+3*m+2,L+3*m+3,L+3*m+4,(L+3*m+4+q:Nat)⟩:=by unfold Yy;rw [hqe]
 refine ⟨R,⟨hm,hL,hK,⟨h1,h2⟩,h3⟩,Z25 ?_⟩
 rw [hlay]
 unfold Z5e Z4p Z3x Z60 Z4c Z4x
 simp only [if_neg (show ¬((m:Int)<0) by omega),decide_eq_false (show ¬(4096<(m:Int)) by omega),decide_eq_false (show ¬((L:Int)<0) by omega),decide_eq_false (show ¬(32768<(L:Int)) by omega),decide_eq_false (show ¬((K:Int)<1) by omega),decide_eq_false (show ¬(64<(K:Int)) by omega),Bool.false_eq_true,if_false]
 rw [hqe] at hq
 refine Ok.bind.2 (Wn e ?_)
 simp only [e2]
 refine Ok.bind.2 (Wn (Rm rfl (by clear e2 hqe hlay;simp only;omega) (by clear e2 hqe hlay;simp only;omega) (by clear e2 hqe hlay;omega) (by clear e2 hqe hlay;omega)) ?_)
 refine Ok.bind.2 (Wn (Rm rfl (by clear e2 hqe hlay;simp only;omega) (by clear e2 hqe hlay;simp only;omega) (by clear e2 hqe hlay;omega) (by clear e2 hqe hlay;omega)) ?_)
 refine Ok.bind.2 (Wn (Rm rfl (by clear e2 hqe hlay;simp only;omega) (by clear e2 hqe hlay;simp only;omega) (by clear e2 hqe hlay;omega) (by clear e2 hqe hlay;omega)) ?_)
 refine Ok.bind.2 (Wn (Rm rfl (by clear e2 hqe hlay;simp only;omega) (by clear e2 hqe hlay;simp only;omega) (by clear e2 hqe hlay;omega) (by clear e2 hqe hlay;omega)) ?_)
 refine Ok.bind.2 (Wn (Rm rfl (by clear e2 hqe hlay;simp only;omega) (by clear e2 hqe hlay;simp only;omega) (by clear e2 hqe hlay;omega) (by clear e2 hqe hlay;omega)) ?_)
 refine Ok.bind.2 (Wn (Rm rfl (by clear e2 hqe hlay;simp only;omega) (by clear e2 hqe hlay;simp only;omega) (by clear e2 hqe hlay;omega) (by clear e2 hqe hlay;omega)) ?_)
 refine Ok.bind.2 (Wn (Rm rfl (by clear e2 hqe hlay;simp only;omega) (by clear e2 hqe hlay;simp only;omega) (by clear e2 hqe hlay;omega) (by clear e2 hqe hlay;omega)) ?_)
 refine Ok.bind.2 (Wn (Rm rfl (by clear e2 hqe hlay;simp only;omega) (by clear e2 hqe hlay;simp only;omega) (by clear e2 hqe hlay;omega) (by clear e2 hqe hlay;omega)) ?_)
 refine Ok.gd.2 ⟨by clear e2 hqe hlay;constructor <;> omega,Ok.gd.2 ⟨by clear e2 hqe hlay;constructor <;> omega,?_⟩⟩
 refine Ok.bind.2 (Wn (Rm rfl (by clear e2 hqe hlay;simp only;omega) (by clear e2 hqe hlay;simp only;omega) (by clear e2 hqe hlay;omega) (by clear e2 hqe hlay;omega)) ?_)
 refine Ok.some.2 ?_
 clear e2 hqe hlay
 simp only [Prod.mk.injEq,Layout.mk.injEq,and_true,true_and]
 refine ⟨?_,?_,?_,?_,?_,?_,?_,?_,?_⟩ <;> omega
theorem s_cNew {k:Nat}(h1:k≤524288):Z5q k=some (⟨List.replicate k 0⟩,0):=by
 unfold Z5q Z69
 rw [if_neg (by omega),decide_eq_false (by omega),if_neg (by simp),Xb (by constructor <;> omega)]
 simp
theorem Zcl:∀ k:Nat,Vn (fun _=>(1:Int)) k=k
 | 0=>rfl
 | k+1=>by rw [Vn,Zcl k];simp
def newW (c:Csr)(l:Layout)(k:Nat)(lim:Int):WorkerWorker:=WorkerWorker.mk c l k lim 0 (DequePop.mk (DequePart.mk l k 0 0 0 0 false false)) (DequeSteal.mk (DequePart.mk (Layout.mk 0 0 0 0 0 0 0 0 0 0 0 0 0 0) 0 0 0 0 0 false false) false) (DequePush.mk (DequePart.mk (Layout.mk 0 0 0 0 0 0 0 0 0 0 0 0 0 0) 0 0 0 0 0 false false) 0) (BarrierArrive.mk (Layout.mk 0 0 0 0 0 0 0 0 0 0 0 0 0 0) 0 0 false) 0 0 0 0 0 false false 0 (Evt.mk 0 0 0 0 0 0 0) false 0 0 0 0 0
section row
variable {n : Net} {m L K R k : Nat} {c : Csr}
theorem Row.small (r:Row n m L c):L≤2*n.Arcs.length:=by
 have h:=posSum r.he (fun _=>1)
 rw [r.hL,Zcl] at h
 have h2:Vn (fun i=>if (n.Arcs.getD i default).fr=(n.Arcs.getD i default).to then (0:Int) else 1+1) n.Arcs.length≤Vn (fun _=>1+1) n.Arcs.length:=Zhb fun i hi=>by split <;> omega
 have h3:=Z92 (fun _=>1) (fun _=>1) n.Arcs.length
 rw [Zcl] at h3
 omega
theorem s_newW {lim:Int}(hN:c.N=m)(hl:c.Head.length=L)(hk:k<K)(h1:1≤lim):Z4y c (Yy m L K R) k lim=some (newW c (Yy m L K R) k lim,0):=by
 have e1:(Yy m L K R).Verts=c.N:=by rw [hN];rfl
 have e2:(Yy m L K R).Arcs=(c.Head.length:Int):=by rw [hl];rfl
 have e3:¬((Yy m L K R).Workers≤(k:Int)):=by show ¬((K:Int)≤k);omega
 unfold Z4y Z6j Z6h Z5k Z5b Z0o Z3i
 simp only [e1,e2,ne_eq,not_true_eq_false,if_false,decide_false,Bool.false_eq_true,decide_eq_false (show ¬((k:Int)<0) by omega),decide_eq_false e3,decide_eq_false (show ¬(lim<1) by omega),Option.bind_some]
 rfl
theorem newW_wv {lim:Int}(d:Dm m L K R)(hk:k<K)(h1:1≤lim):Wv c m L K R 0 k (newW c (Yy m L K R) k lim):=by
 unfold newW
 constructor <;> first | rfl | assumption | (simp;done) | (simp;omega)
def Gc (m L R:Nat)(l:List Int):AS:=⟨cF m L l,cT m L R l,cB m L R l,cS m L R l,fun _=>.take 0 0 0 0 false⟩
structure Dl (c:Csr)(m L K R v:Nat)(l:List Int):Prop where
  len:l.length=L+3*m+4+K*(R+2)
  hh:∀ u,u<m→0≤l.getD (L+m+u) 0∧l.getD (L+m+u) 0≤m
  top:∀ k,k<K→cT m L R l k=0
  bot:∀ k,k<K→0≤cB m L R l k∧cB m L R l k≤v
  fl:∀ u,v≤u→cF m L l u=0
  ai:AI (Xe m c) K R (Gc m L R l)
theorem Dl.up {v:Nat}{l:List Int}(h:Dl c m L K R v l):Dl c m L K R (v+1) l:=⟨h.len,h.hh,h.top,fun k hk=>by have:=h.bot k hk;omega,fun u hu=>h.fl u (by omega),h.ai⟩
theorem Dl.zero {l:List Int}(d:Dm m L K R)(hlen:l.length=L+3*m+4+K*(R+2))(hh:∀ u,u<m→0≤l.getD (L+m+u) 0∧l.getD (L+m+u) 0≤m)(h0:∀ q,L+2*m≤q→l.getD q 0=0):Dl c m L K R 0 l:=by
 have hT:∀ k,cT m L R l k=0:=fun k=>h0 _ (by unfold Yi;omega)
 have hB:∀ k,cB m L R l k=0:=fun k=>h0 _ (by unfold Yi;omega)
 have hF:∀ u,cF m L l u=0:=fun u=>by
  unfold cF;split
  ·exact h0 _ (by omega)
  ·rfl
 have hv:∀ p,(Gc m L R l).val K R p=none:=fun p=>by
  cases p with
  | dq k i =>
   simp only [AS.val]
   rw [if_neg]
   rintro ⟨-,h1,h2⟩
   have h1:cT m L R l k≤(i:Int):=h1
   have h2:(i:Int)<cB m L R l k:=h2
   rw [hB] at h2;omega
  | hold k=>simp only [AS.val];split <;> rfl
  | wake k=>simp only [AS.val];split <;> rfl
  | pg k=>simp only [AS.val];split <;> rfl
 refine ⟨hlen,hh,fun k _=>hT k,fun k _=>by rw [hB];omega,fun u _=>hF u,⟨fun p q v hp=>(by rw [hv] at hp;cases hp),fun p v hp=>(by rw [hv] at hp;cases hp),fun v=>.inl (hF _),fun k _=>?_,fun k _=>by simp [Gc,Yw]⟩⟩
 show 0≤cT m L R l k∧cT m L R l k≤cB m L R l k∧cB m L R l k≤cT m L R l k+R
 rw [hT,hB];omega
theorem Dl.deal {v:Nat}{l:List Int}(d:Dm m L K R)(h:Dl c m L K R v l)(hk:k<K)(hv:v<m)(hU:Xe m c v) :
    Dl c m L K R (v+1) (((l.set (Yi m L R k+2+(cB m L R l k).toNat%R) v).set (Yi m L R k+1) (cB m L R l k+1)).set (L+2*m+v) 1):=by
  have hdR:=d.hR
  have hlt:(cB m L R l k).toNat%R<R:=Nat.mod_lt _ (by omega)
  have hb:=h.bot k hk
  have hin:=Ub (m:=m) (L:=L) (R:=R) hk (p:=2+(cB m L R l k).toNat%R) (by omega)
  have hin1:=Ub (m:=m) (L:=L) (R:=R) hk (p:=1) (by omega)
  have hlen:=h.len
  obtain ⟨b,hbe⟩:∃ b:Nat,cB m L R l k=b:=⟨(cB m L R l k).toNat,by omega⟩
  have hbR:b%R=b:=Nat.mod_eq_of_lt (by omega)
  rw [hbe,Int.toNat_natCast] at hlt hin ⊢
  have s1:=set_S (m:=m) (L:=L) (R:=R) (k:=k) (l:=l) (x:=(v:Int)) hlt (by omega)
  obtain ⟨l1,e1⟩:∃ l1,l.set (Yi m L R k+2+b%R) (v:Int)=l1:=⟨_,rfl⟩
  rw [e1] at s1 ⊢
  have n1:l1.length=l.length:=by rw [←e1,List.length_set]
  have s2:=Z20 (m:=m) (L:=L) (R:=R) (k:=k) (l:=l1) (x:=(b:Int)+1) (by omega)
  obtain ⟨l2,e2⟩:∃ l2,l1.set (Yi m L R k+1) ((b:Int)+1)=l2:=⟨_,rfl⟩
  rw [e2] at s2 ⊢
  have n2:l2.length=l.length:=by rw [←e2,List.length_set];exact n1
  have s3:=set_F (m:=m) (L:=L) (R:=R) (l:=l2) (x:=(1:Int)) hv (by omega)
  obtain ⟨l3,e3⟩:∃ l3,l2.set (L+2*m+v) (1:Int)=l3:=⟨_,rfl⟩
  rw [e3] at s3 ⊢
  have n3:l3.length=l.length:=by rw [←e3,List.length_set];exact n2
  have eF:cF m L l3=upd (cF m L l) v 1:=by rw [s3.1,s2.1,s1.1]
  have eT:cT m L R l3=cT m L R l:=by rw [s3.2.1,s2.2.1,s1.2.1]
  have eB:cB m L R l3=upd (cB m L R l) k ((b:Int)+1):=by rw [s3.2.2.1,s2.2.2.1,s1.2.2.1]
  have eS:cS m L R l3=upd (cS m L R l) k (upd (cS m L R l k) (b%R) v):=by rw [s3.2.2.2,s2.2.2.2,s1.2.2.2]
  have bB:∀ j,j≠k→cB m L R l3 j=cB m L R l j:=fun j hj=>by rw [eB,Us hj]
  have bBk:cB m L R l3 k=(b:Int)+1:=by rw [eB,Ul]
  have hval:∀ p,p≠.dq k b→∀ u,(Gc m L R l3).val K R p=some u→(Gc m L R l).val K R p=some u:=fun p hp u hu=>by
    cases p with
    | dq j i =>
      simp only [AS.val] at hu ⊢
      split at hu
      · rename_i c1
        obtain ⟨c1,c2,c3⟩:=c1
        have c2:cT m L R l3 j≤(i:Int):=c2
        have c3:(i:Int)<cB m L R l3 j:=c3
        rw [eT] at c2
        have hu:some (cS m L R l3 j (i%R))=some u:=hu
        by_cases hj:j=k
        · subst hj
          have hib:i≠b:=fun e=>hp (by rw [e])
          rw [bBk] at c3
          rw [if_pos ⟨c1,c2,show (i:Int)<cB m L R l j by omega⟩]
          rw [eS,Ul,Us (by rw [hbR,Nat.mod_eq_of_lt (by omega)];exact hib)] at hu
          exact hu
        · rw [bB j hj] at c3
          rw [if_pos ⟨c1,c2,c3⟩]
          rw [eS,Us hj] at hu
          exact hu
      ·cases hu
    | hold j=>simp only [AS.val] at hu;split at hu <;> cases hu
    | wake j=>simp only [AS.val] at hu;split at hu <;> cases hu
    | pg j=>simp only [AS.val] at hu;split at hu <;> first | cases hu | (simp [Gc,Vw.popped] at hu)
  have hm:=h.ai.more (τ:=Gc m L R l3) (b:=.dq k b) (x:=(v:Int)) hU (by show cF m L l _=0;rw [Int.toNat_natCast];exact h.fl v (Nat.le_refl _)) (by show cF m L l3=upd (cF m L l) _ 1;rw [Int.toNat_natCast];exact eF) (fun u hu=>by
    simp only [AS.val] at hu
    split at hu
    · have hu : some (cS m L R l3 k (b % R)) = some u := hu
      rw [eS,Ul,Ul] at hu
      injection hu with hu;exact hu.symm
    ·cases hu) hval
  refine ⟨by rw [n3];exact hlen,fun u hu=>?_,fun j hj=>by rw [eT];exact h.top j hj,fun j hj=>?_,fun u hu=>?_,⟨hm.1,hm.2,fun u=>?_,fun j hj=>?_,fun j _=>by simp [Gc,Yw]⟩⟩
  ·rw [←e3,Xw (by omega),←e2,Xw (by omega),←e1,Xw (by omega)];exact h.hh u hu
  · by_cases hjk : j = k
    ·subst hjk;rw [bBk];omega
    ·rw [bB j hjk];have:=h.bot j hj;omega
  ·rw [eF,Us (by omega)];exact h.fl u (by omega)
  · show cF m L l3 u = 0 ∨ cF m L l3 u = 1
    rw [eF]
    by_cases c1:u=v
    ·subst c1;rw [Ul];exact .inr rfl
    ·rw [Us c1];exact h.ai.f01 u
  · show 0 ≤ cT m L R l3 j ∧ cT m L R l3 j ≤ cB m L R l3 j ∧ cB m L R l3 j ≤ cT m L R l3 j + R
    have h1:=h.top j hj
    have h2:=h.bot j hj
    rw [eT,h1]
    by_cases hjk:j=k
    ·subst hjk;rw [bBk];omega
    ·rw [bB j hjk];omega
theorem Dl.other {v q:Nat}{l:List Int}{x:Int}(h:Dl c m L K R v l)(h1:L+3*m≤q)(h2:q<L+3*m+4):Dl c m L K R v (l.set q x):=by
 have s:=Ki (m:=m) (L:=L) (R:=R) (l:=l) (x:=x) h2 (.inr h1)
 refine ⟨by rw [List.length_set];exact h.len,fun u hu=>by rw [Xw (by omega)];exact h.hh u hu,fun k hk=>by rw [s.2.1];exact h.top k hk,fun k hk=>by rw [s.2.2.1];exact h.bot k hk,fun u hu=>by rw [s.1];exact h.fl u hu,?_⟩
 have:Gc m L R (l.set q x)=Gc m L R l:=by unfold Gc;rw [s.1,s.2.1,s.2.2.1,s.2.2.2]
 rw [this];exact h.ai
theorem Dl.gi {lim:Int}{l:List Int}{ws:List WorkerWorker}(d:Dm m L K R)(h:Dl c m L K R m l)(h1:1≤lim)(hn:ws.length=K)(hw:∀ k,k<K→ws.getD k default=newW c (Yy m L K R) k lim):Gi c m L K R 0 l ws:=by
 have hdm:=d.hm
 have hV:∀ k,k<K→(Xa m L R l ws).V k=.take 0 0 0 0 false:=fun k hk=>by show vw (ws.getD k default)=_;rw [hw k hk];rfl
 have hE:∀ k,k<K→(Xa m L R l ws).E k=(Gc m L R l).E k:=fun k hk=>by unfold AS.E;rw [hV k hk];rfl
 have hval:∀ p,(Xa m L R l ws).val K R p=(Gc m L R l).val K R p:=fun p=>by
  cases p with
  | dq j i =>
   simp only [AS.val]
   by_cases hj:j<K
   ·rw [hE j hj];rfl
   ·rw [if_neg (fun c=>hj c.1),if_neg (fun c=>hj c.1)]
  | hold j=>simp only [AS.val];split <;> first | rfl | (rename_i hj;rw [hV j hj];rfl)
  | wake j=>simp only [AS.val];split <;> first | rfl | (rename_i hj;rw [hV j hj];rfl)
  | pg j=>simp only [AS.val];split <;> first | rfl | (rename_i hj;rw [hV j hj];rfl)
 refine ⟨⟨h.len,h.hh,fun k hk=>by have:=h.bot k hk;omega,fun k hk=>by rw [h.top k hk];omega⟩,hn,fun k hk=>by rw [hw k hk];exact newW_wv d hk h1,⟨fun p q v hp hq=>h.ai.inj p q v (by rw [←hval];exact hp) (by rw [←hval];exact hq),fun p v hp=>h.ai.flg p v (by rw [←hval];exact hp),h.ai.f01,fun k hk=>by rw [hE k hk];exact h.ai.shape k hk,fun k hk=>by rw [hV k hk];simp [Yw]⟩⟩
end row
end Go.Acq
namespace Go.Acq
open Go
section
variable {n : Net} {m L K R k : Nat} {c : Csr}
structure Zb (N z:Nat)(l:List Int):Prop where
  len:l.length=N
  nul:∀ q,z≤q→l.getD q 0=0
theorem Zb.set {N z q:Nat}{l:List Int}{x:Int}(h:Zb N z l)(hq:q<z):Zb N z (l.set q x):=⟨by rw [List.length_set];exact h.len,fun p hp=>by rw [Xw (by omega)];exact h.nul p hp⟩
theorem s_deal {v N:Nat}{zs dl:List Int}{P:(List Int×List Int×Int)⊕(List Int×List Int)→Prop}(d:Dm m L K R)(hNN:L+3*m+4+K*(R+2)=N)(hd:Dl c m L K R v zs)(hvm:v<m)(hU:Xe m c v)(hdl:dl.length≤v)
    (hP:∀ zs',Dl c m L K R (v+1) zs'→P (.inl (zs',dl++[(v:Int)],(v:Int)+1))):Ok (Nh K (Yy m L K R) zs dl v true) P:=by
  have hK:=d.hK
  have hdR:=d.hR
  have hdm:=d.hm
  have hdL:=d.hL
  have bl:=hd.len
  rw [hNN] at bl
  have hfl:(Yy m L K R).Flag=(L:Int)+2*m:=rfl
  unfold Nh
  rw [if_pos rfl,←Int.ofNat_tmod]
  obtain ⟨k,hk⟩:∃ k,dl.length%K=k:=⟨_,rfl⟩
  have hkK:k<K:=by rw [←hk];exact Nat.mod_lt _ (by omega)
  rw [hk]
  have hb:=hd.bot k hkK
  have hB:cB m L R zs k=zs.getD (Yi m L R k+1) 0:=rfl
  have hlt:(cB m L R zs k).toNat%R<R:=Nat.mod_lt _ (by omega)
  have hin:=Ub (m:=m) (L:=L) (R:=R) hkK (p:=2+(cB m L R zs k).toNat%R) (by omega)
  have hin1:=Ub (m:=m) (L:=L) (R:=R) hkK (p:=1) (by omega)
  rw [hNN] at hin hin1
  have w1:=Uu (l:=zs) (i:=((Yi m L R k+1:Nat):Int)) (q:=Yi m L R k+1) rfl (by omega)
  have w2:=Z4n d hkK (a:=cB m L R zs k) (by omega) (by omega)
  have w3:=Kk (l:=zs) (i:=((Yi m L R k+2+(cB m L R zs k).toNat%R:Nat):Int)) (q:=Yi m L R k+2+(cB m L R zs k).toNat%R) (v:=(v:Int)) rfl (by omega)
  have w4:=Kk (l:=zs.set (Yi m L R k+2+(cB m L R zs k).toNat%R) v) (i:=((Yi m L R k+1:Nat):Int)) (q:=Yi m L R k+1) (v:=cB m L R zs k+1) rfl (by rw [List.length_set];omega)
  have w5:=Kk (l:=(zs.set (Yi m L R k+2+(cB m L R zs k).toNat%R) v).set (Yi m L R k+1) (cB m L R zs k+1)) (i:=(Yy m L K R).Flag+v) (q:=L+2*m+v) (v:=1) (by rw [hfl];omega) (by simp only [List.length_set];omega)
  rw [←hB] at w1
  have hD:=hd.deal d hkK hvm hU
  clear hin hin1 hlt
  refine Ok.gd.2 ⟨by omega,Ok.bind.2 (Wn (Nx d hkK) (Ok.bind.2 (Wn w1 (Ok.bind.2 (Wn w2 (Ok.bind.2 (Wn w3 (Ok.bind.2 (Wn (Nx d hkK) ?_)))))))))⟩
  refine Ok.gd.2 ⟨by constructor <;> omega,Ok.bind.2 (Wn w4 ?_)⟩
  rw [hfl] at w5 ⊢
  refine Ok.gd.2 ⟨by constructor <;> omega,Ok.bind.2 (Wn w5 ?_)⟩
  refine Ok.gd.2 ⟨by simp only [List.length_append,List.length_cons,List.length_nil];constructor <;> omega,Ok.gd.2 ⟨by constructor <;> omega,Ok.some.2 (hP _ hD)⟩⟩
theorem Zly {v:Nat}{zs dl:List Int}{P:(List Int×List Int×Int)⊕(List Int×List Int)→Prop}(hvm:v≤7)(hP:P (.inl (zs,dl,(v:Int)+1))):Ok (Nh K (Yy m L K R) zs dl v false) P:=by
 unfold Nh
 exact Ok.ite.2 ⟨fun h=>(by cases h),fun _=>Ok.gd.2 ⟨by constructor <;> omega,Ok.some.2 hP⟩⟩
theorem s_dealt {ys:List Int}(r:Row n m L c)(d:Dm m L K R)(d0:Dl c m L K R 0 ys) :
    Ok (Xz (fun s=>Z38 n K (Yy m L K R) s.1 s.2.1 s.2.2) Xo (ys,[],0)) (fun o=>Dl c m L K R m o.1∧o.2.length≤m):=by
  have hdm:=d.hm
  have hdL:=d.hL
  obtain ⟨⟨S,hS,hcS,hSm⟩,⟨T,hT,hcT,hTm⟩,hne,hN⟩:=r.ends
  have hex:(Yy m L K R).Ex=(L:Int):=rfl
  refine Jj (fun s=>∃ v:Nat,s.2.2=v∧v≤m∧Dl c m L K R v s.1∧s.2.1.length≤v) (fun s=>(m-s.2.2).toNat) ⟨0,rfl,by omega,d0,by simp⟩ (by unfold Xo;simp only;omega) ?_
  rintro ⟨zs,dl,z⟩ ⟨v,e1,hvm,hd,hdl⟩ P next exit
  simp only at e1 hd hdl next ⊢
  subst e1
  have bl:=hd.len
  have no:v<m→Ok (Nh K (Yy m L K R) zs dl v false) P:=fun hvm'=>Zly (by omega) (next _ ⟨v+1,by simp,by omega,hd.up,by simp only;omega⟩ (by simp only;omega))
  have go:v<m→v≠S→v≠T→∀ b,Ok (Nh K (Yy m L K R) zs dl v b) P:=fun hvm' hvS hvT b=>by
    cases b with
    | false=>exact no hvm'
    | true=>exact s_deal d rfl hd hvm' ⟨by omega,by omega,by omega,by omega⟩ hdl (fun zs' h'=>next _ ⟨v+1,by simp,by omega,h',by simp only [List.length_append,List.length_cons,List.length_nil];omega⟩ (by simp only;omega))
  unfold Z38
  rw [r.hm,hS,hT,hex]
  refine Ok.ite.2 ⟨fun h=>Ok.ite.2 ⟨fun h1=>Ok.ite.2 ⟨fun h2=>Ok.gd.2 ⟨by constructor <;> omega,Ok.bind.2 (Wn (Uu (q:=L+v) (by omega) (by omega)) (go (by omega) (by omega) (by omega) _))⟩,fun _=>no (by omega)⟩,fun _=>no (by omega)⟩,fun h=>Ok.some.2 (exit _ ⟨(by have e:v=m:=(by omega);exact e▸hd),by simp only;omega⟩)⟩
theorem s_caps {N:Nat}{ys:List Int}{lay:Layout}(r:Row n m L c)(hL:L≤28)(hN:L+m≤N)(hres:lay.Res=0)(h0:Zb N (L+m) ys):Ok (Xz (fun s=>Z27 c lay s.1 s.2) Xo (ys,0)) (Zb N (L+m)):=by
 obtain ⟨lf,lh,lr,lc,-,-⟩:=r.lens
 have bd:=r.bd
 refine Jj (fun s=>∃ k:Nat,s.2=k∧k≤L∧Zb N (L+m) s.1) (fun s=>(L-s.2).toNat) ⟨0,rfl,by omega,h0⟩ (by unfold Xo;simp only;omega) ?_
 rintro ⟨xs,x⟩ ⟨k,e1,hk,hz⟩ P next exit
 simp only at e1 hz next ⊢
 subst e1
 have hzl:=hz.len
 unfold Z27
 rw [lc,hres]
 refine Ok.ite.2 ⟨fun h=>?_,fun h=>Ok.some.2 (exit _ hz)⟩
 obtain ⟨y,hy⟩:=Gx (l:=xs) (i:=(0:Int)+k) (d:=c.Cap.getD (k:Int).toNat 0) (q:=k) (by omega) (by omega)
 exact Ok.gd.2 ⟨by constructor <;> omega,Ok.gd.2 ⟨by constructor <;> omega,Ok.bind.2 (Wn hy (Ok.gd.2 ⟨by constructor <;> omega,Ok.some.2 (next _ ⟨k+1,by simp,by omega,hz.set (by omega)⟩ (by simp only;omega))⟩))⟩⟩
theorem s_outS {N:Nat}{ys:List Int}{lay:Layout}{i0:Int}{S:Nat}(r:Row n m L c)(hL:L≤28)(hN:L+m≤N)(hres:lay.Res=0)(hex:lay.Ex=(L:Int))(hS:n.S=S)(hSm:S<m)(hi:i0=(fs c S:Nat))(h0:Zb N (L+m) ys):Ok (Xz (fun s=>Z1u n c lay s.1 s.2) Xo (ys,i0)) (Zb N (L+m)):=by
 subst hi
 obtain ⟨lf,lh,lr,lc,-,-⟩:=r.lens
 have bd:=r.bd
 have f0:=(r.first.1 S (by omega)).1
 have f1:=(r.first.1 (S+1) (by omega)).1
 have f3:=r.first.2.2.2 S hSm
 refine Jj (fun s=>∃ a:Nat,s.2=a∧fs c S≤a∧a≤fs c (S+1)∧Zb N (L+m) s.1) (fun s=>(fs c (S+1)-s.2).toNat) ⟨fs c S,rfl,by omega,by omega,h0⟩ (by unfold Xo;simp only;omega) ?_
 rintro ⟨ys,y⟩ ⟨a,e1,ha1,ha2,ho⟩ P next exit
 simp only at e1 ho next ⊢
 subst e1
 have hyl:=ho.len
 unfold Z1u
 rw [hS,lf,show (S:Int)+1=((S+1:Nat):Int) by omega]
 simp only [Int.toNat_natCast,f1,lc,lr,lh,hres,hex]
 refine Ok.gd.2 ⟨by constructor <;> omega,Ok.gd.2 ⟨by constructor <;> omega,Ok.ite.2 ⟨fun h=>?_,fun h=>Ok.some.2 (exit _ ho)⟩⟩⟩
 have hak:a<L:=by omega
 have k1:=r.rev hak
 have k3:=r.head hak
 simp only [k1.1,k3.1]
 have q1:=Kk (l:=ys) (i:=(0:Int)+a) (q:=a) (v:=0) (by omega) (by omega)
 obtain ⟨y1,q2⟩:=Gx (l:=ys.set a 0) (i:=(0:Int)+(rv c a:Nat)) (q:=rv c a) (d:=c.Cap.getD a 0) (by omega) (by rw [List.length_set];omega)
 obtain ⟨y2,q3⟩:=Gx (l:=(ys.set a 0).set (rv c a) y1) (i:=(L:Int)+S) (q:=L+S) (d:=Rc .i64 (c.Cap.getD a 0)) (by omega) (by simp only [List.length_set];omega)
 obtain ⟨y3,q4⟩:=Gx (l:=((ys.set a 0).set (rv c a) y1).set (L+S) y2) (i:=(L:Int)+(hd c a:Nat)) (q:=L+hd c a) (d:=c.Cap.getD a 0) (by omega) (by simp only [List.length_set];omega)
 exact Ok.gd.2 ⟨by constructor <;> omega,Ok.gd.2 ⟨by constructor <;> omega,Ok.bind.2 (Wn q1 (Ok.gd.2 ⟨by constructor <;> omega,Ok.gd.2 ⟨by constructor <;> omega,Ok.bind.2 (Wn q2 (Ok.gd.2 ⟨by constructor <;> omega,Ok.bind.2 (Wn q3 (Ok.gd.2 ⟨by constructor <;> omega,Ok.gd.2 ⟨by constructor <;> omega,Ok.bind.2 (Wn q4 (Ok.gd.2 ⟨by constructor <;> omega,Ok.some.2 (next _ ⟨a+1,by simp,by omega,by omega,(((ho.set (by omega)).set (by omega)).set (by omega)).set (by omega)⟩ (by simp only;omega))⟩))⟩⟩))⟩))⟩⟩))⟩⟩
theorem s_crewN {lim:Int}(d:Dm m L K R)(hN:c.N=m)(lh:c.Head.length=L)(hl1:1≤lim):Ok (Xz (fun s=>Z3f K lim c (Yy m L K R) s.1 s.2) Xo (0,([]:List WorkerWorker))) (fun ws=>ws.length=K∧∀ j,j<K→ws.getD j default=newW c (Yy m L K R) j lim):=by
  have hK:=d.hK
  refine Jj (fun s=>∃ k:Nat,s.1=k∧k≤K∧s.2.length=k∧∀ j,j<k→s.2.getD j default=newW c (Yy m L K R) j lim) (fun s=>(K-s.1).toNat) ⟨0,rfl,by omega,rfl,fun j hj=>by omega⟩ (by unfold Xo;simp only;omega) ?_
  rintro ⟨x,ws⟩ ⟨k,e1,hk,hwl,hw⟩ P next exit
  simp only at e1 hwl hw next ⊢
  subst e1
  unfold Z3f
  refine Ok.ite.2 ⟨fun h => ?_, fun h => Ok.some.2 (exit _ (by have ek : k = K := by omega
                                                               subst ek;exact ⟨hwl,hw⟩))⟩
  have hkK:k<K:=by omega
  refine Ok.bind.2 (Wn (s_newW hN lh hkK hl1) ?_)
  simp only
  rw [eqW (show (newW c (Yy m L K R) k lim).c=c from rfl)]
  refine Ok.ite.2 ⟨fun h=>absurd rfl h,fun _=>Ok.gd.2 ⟨by constructor <;> omega,Ok.gd.2 ⟨by constructor <;> omega,Ok.some.2 (next _ ⟨k+1,by simp,by omega,by simp [hwl],fun j hj=>?_⟩ (by simp only;omega))⟩⟩⟩
  simp only
  by_cases c1:j<k
  · rw [← hw j c1]
    simp only [List.getD_eq_getElem?_getD,List.getElem?_append_left (show j<ws.length by omega)]
  · have : j = k := by omega
    subst this
    rw [List.getD_eq_getElem?_getD,List.getElem?_append_right (by omega),hwl]
    simp
theorem s_BeginK {lim:Int}(hr:Made n 7 14)(hm:n.N=m)(hK:1≤K∧K≤5)(hl1:1≤lim):Ok (Z3n n K lim) (fun x=>x.2=true∧∃ c L R,Row n m L c∧Dm m L K R∧x.1.C=c∧x.1.L=Yy m L K R∧Gi c m L K R 0 x.1.B.l x.1.W):=by
  have hv:=hr.verts
  have ha:=hr.arcs
  have he:=hr.ends
  unfold Z3n
  refine Ok.bind.2 (Ok.mono (s_Make hm hr.check (by omega)) ?_)
  rintro ⟨c,e⟩ ⟨hc,h0⟩
  simp only at hc h0 ⊢
  subst h0
  obtain ⟨L,hL⟩:∃ L,Xq n.Arcs m=L:=⟨_,rfl⟩
  have r:Row n m L c:=⟨hc,hr.check,hm,hL⟩
  have hsm:=r.small
  obtain ⟨lf,lh,lr,lc,-,-⟩:=r.lens
  obtain ⟨⟨S,hS,hcS,hSm⟩,⟨T,hT,hcT,hTm⟩,hne,hN⟩:=r.ends
  have f0:=(r.first.1 S (by omega)).1
  obtain ⟨R,d,hP⟩:=s_PlanK (m:=m) (L:=L) (K:=K) (by omega) (by omega) hK
  have hdR:=d.hR
  have hq:=mulK hK.2 hdR.2
  obtain ⟨N,hNN⟩:∃ N,L+3*m+4+K*(R+2)=N:=⟨_,rfl⟩
  have hN5:N≤1000:=by omega
  have hN6:L+3*m+4≤N:=by omega
  clear hq
  rw [hN,lh]
  refine Ok.bind.2 (Wn hP ?_)
  have hsz:(Yy m L K R).Size=(N:Int):=by rw [←hNN];rfl
  simp only [hsz]
  refine Ok.bind.2 (Wn (s_cNew (k:=N) (by omega)) ?_)
  simp only
  refine Ok.ite.2 ⟨fun h=>absurd rfl h,fun _=>?_⟩
  unfold Z5h Z6c Z3y Z5a
  simp only [ne_eq,not_true_eq_false,decide_false,Bool.false_eq_true,if_false]
  rw [lf,hm]
  refine Ok.gd.2 ⟨by constructor <;> omega,Ok.ite.2 ⟨fun h=>absurd (of_decide_eq_true h) (by simp),fun _=>Ok.ite.2 ⟨fun h=>absurd (of_decide_eq_true h) (by simp [Yy]),fun _=>?_⟩⟩⟩
  refine Ok.bind.2 (Ok.mono (s_caps (N:=N) r (by omega) (by omega) rfl ⟨by simp,fun q _=>by rw [Z7f]⟩) fun xs hz=>?_)
  unfold Z9v
  rw [hS,lf]
  simp only [Int.toNat_natCast]
  refine Ok.gd.2 ⟨by constructor <;> omega,Ok.bind.2 (Ok.mono (s_outS (N:=N) r (by omega) (by omega) rfl rfl hS hSm f0 hz) fun ys ho=>?_)⟩
  have hyl:=ho.len
  unfold Z7p
  rw [hS,hm,show (Yy m L K R).H=(L:Int)+m from rfl]
  refine Ok.gd.2 ⟨by constructor <;> omega,Ok.bind.2 (Wn (Kk (q:=L+m+S) (by omega) (by omega)) ?_)⟩
  simp only
  have d0:Dl c m L K R 0 (ys.set (L+m+S) (m:Int)):=Dl.zero d (by rw [List.length_set,hNN];exact hyl) (fun u hu=>by
      rw [lset];split
      ·omega
      ·rw [ho.nul _ (by omega)];omega) (fun q hq=>by rw [Xw (by omega)];exact ho.nul _ (by omega))
  refine Ok.bind.2 (Ok.mono (s_dealt r d d0) ?_)
  rintro ⟨zs,dl⟩ ⟨hd,hdl⟩
  simp only at hd hdl ⊢
  have bl:=hd.len
  rw [hNN] at bl
  unfold Zap
  have w1:=Kk (l:=zs) (i:=(Yy m L K R).Pending) (q:=L+3*m) (v:=(dl.length:Int)) (by show (L:Int)+3*m=_;omega) (by omega)
  have w2:=Kk (l:=zs.set (L+3*m) (dl.length:Int)) (i:=(Yy m L K R).Count) (q:=L+3*m+2) (v:=(K:Int)) (by show (L:Int)+3*m+2=_;omega) (by rw [List.length_set];omega)
  refine Ok.bind.2 (Wn w1 (Ok.bind.2 (Wn w2 ?_)))
  have s2:=(hd.other (q:=L+3*m) (x:=(dl.length:Int)) (by omega) (by omega)).other (q:=L+3*m+2) (x:=(K:Int)) (by omega) (by omega)
  refine Ok.bind.2 (Ok.mono (s_crewN d hN lh hl1) ?_)
  rintro ws ⟨hwl,hw⟩
  unfold Zb2
  exact Ok.some.2 ⟨rfl,c,L,R,r,d,rfl,rfl,s2.gi d hl1 hwl hw⟩
end
end Go.Acq
namespace Go.Acq
open Go
def hfr (n:Net)(h:Hop):Int:=if h.Back=true then (n.Arcs.getD h.Arc.toNat default).to else (n.Arcs.getD h.Arc.toNat default).fr
def hok (n:Net)(h:Hop):Prop:=0≤h.Arc∧h.Arc<n.Arcs.length
end Go.Acq
namespace Go.Acq
open Go
def fits (n:Net)(f:List Int)(i:Nat)(c d:Int):Prop:=0≤f.getD i 0+d*c∧f.getD i 0+d*c≤(n.Arcs.getD i default).cap
def limit (n:Net)(f:List Int)(x:Int×Int):Int :=
  if 0<x.2 then ((n.Arcs.getD x.1.toNat default).cap-f.getD x.1.toNat 0).tdiv x.2 else if x.2<0 then (f.getD x.1.toNat 0).tdiv (-x.2) else 4611686018427387904
end Go.Acq
namespace Go.Acq
open Go
end Go.Acq
namespace Go.Acq
open Go
structure ByteRow (l:List Int):Prop where
  row:∀ x,x∈l→u8ok x
  len:l.length≤9223372036854775807
def one (a b:Int):Int:=if a=b then 1 else 0
end Go.Acq
namespace Go.Acq
open Go
theorem Zkc:Zae=some true:=by decide +kernel
theorem p_WorkerOwns {n:Net}{w lim:Int}{picks:List Int}(hn:NetIn n)(hw:u8ok w)(hl:u8ok lim)(hp:ByteRow picks):Z6v n w lim picks=some true:=by
 have hl0:0≤lim∧lim≤255:=hl
 have hw0:0≤w∧w≤255:=hw
 have b1:=Int.tmod_lt_of_pos lim (show (0:Int)<40 by omega)
 have b2:=Int.tmod_nonneg 40 hl0.1
 have b3:=Int.tmod_lt_of_pos w (show (0:Int)<5 by omega)
 have b4:=Int.tmod_nonneg 5 hw0.1
 have hpl:=hp.len
 refine Z25 ?_
 unfold Z6v Z76
 refine Ok.bind.2 (Ok.bind.2 (Ok.mono (s_Some hn (by omega) (by omega) (by omega) (by omega)) fun q hr=>?_))
 obtain ⟨m,hm,hso⟩:=hr.nat
 obtain ⟨K,hK⟩:∃ K:Nat,1+w.tmod 5=K:=⟨(1+w.tmod 5).toNat,by omega⟩
 rw [hK]
 refine Ok.gd.2 ⟨by constructor <;> omega,Ok.gd.2 ⟨by constructor <;> omega,Ok.gd.2 ⟨by constructor <;> omega,Ok.gd.2 ⟨by constructor <;> omega,Ok.bind.2 (Ok.mono (s_BeginK (K:=K) hr hm (by omega) (by omega)) ?_)⟩⟩⟩⟩
 rintro ⟨p,ok⟩ ⟨h1,c,L,R,r,d,hC,hL,hg⟩
 simp only at h1 hC hL hg ⊢
 subst h1
 obtain ⟨⟨S,hS,hcS,-⟩,⟨T,hT,hcT,-⟩,-,-⟩:=r.ends
 refine Ok.some.2 ?_
 simp only [Bool.not_true,Bool.false_eq_true,if_false]
 obtain ⟨q1,hq1⟩:∃ q1:Nat,min (picks.length:Int) 1000=q1:=⟨(min (picks.length:Int) 1000).toNat,by omega⟩
 rw [hq1,Int.toNat_natCast]
 refine Ok.gd.2 ⟨by omega,Ok.bind.2 (Ok.mono (s_Play r d hC hL (by rw [hS,hcS]) (by rw [hT,hcT]) (fun x hx=>hp.row x (List.mem_of_mem_take hx)) (by rw [List.length_take];omega) hg) ?_)⟩
 rintro ⟨b,b',w'⟩ hb
 simp only at hb ⊢
 subst hb
 exact Ok.ite.2 ⟨fun _=>Ok.bind.2 (Wn Zkc (Ok.some.2 rfl)),fun h=>(by simp at h)⟩
end Go.Acq
