/-
  Plain laws: what a computation returns, and loops that build lists.
  Plain laws: loops over lists, loops that set one place after the other, increasing lists.
  Attractors: the positions from which the others can force a breach in some number of moves; and the queue that finds these numbers.
-/
import Derived.Test.YtlpmnmbebkdocaaGreatDoorTC06
namespace Go.Proofs.YtlpmnmbebkdocaaGreatDoor
set_option linter.unusedSimpArgs false
set_option linter.unusedVariables false
def Ret {α:Type} (x:Option α) (Q:α→Prop):Prop:=∃ r,x=some r∧Q r
theorem Ret.some {α:Type} {a:α} {Q:α→Prop} (h:Q a):Ret (Option.some a) Q:=⟨a,rfl,h⟩
theorem Ret.bind {α β:Type} {x:Option α} {f:α→Option β} {P:α→Prop} {Q:β→Prop} (hx:Ret x P) (hf:∀ v,P v→Ret (f v) Q):Ret (x.bind f) Q:=by
  obtain ⟨v,rfl,hv⟩:=hx
  exact hf v hv
theorem Ret.bindE {α β:Type} {x:Option α} {f:α→Option β} {v:α} {Q:β→Prop} (hx:x=Option.some v) (hf:Ret (f v) Q):Ret (x.bind f) Q:=by
  subst hx;exact hf
theorem Ret.ite {α:Type} {b:Bool} {x y:Option α} {Q:α→Prop} (h1:b=true→Ret x Q) (h2:b=false→Ret y Q):Ret (bif b then x else y) Q:=by
  cases b
  · exact h2 rfl
  · exact h1 rfl
theorem Ret.mono {α:Type} {x:Option α} {P Q:α→Prop} (h:Ret x P) (hq:∀ r,P r→Q r):Ret x Q:=by
  obtain ⟨r,h1,h2⟩:=h;exact ⟨r,h1,hq r h2⟩
theorem Ret.eq {α:Type} {x:Option α} {a:α} (h:Ret x (· = a)):x=Option.some a:=by obtain ⟨r,h1,rfl⟩:=h;exact h1
theorem Ret.of {α:Type} {x:Option α} {a:α} (h:x=Option.some a):Ret x (· = a):=⟨a,h,rfl⟩
theorem Ret.forL {σ ρ:Type} {f:Nat→σ→Option (σ ⊕ ρ)} {n:Nat} {s0:σ} {Q:σ ⊕ ρ→Prop} (Inv:Nat→σ→Prop) (hn:n < 4611686018427387904) (h0:Inv 0 s0)
    (step:∀ (i:Nat) (s:σ),i < n→Inv i s→Ret (f i s) (Z6 (Inv (i+1)) fun r=>Q (.inr r))) (hQ:∀ s,Inv n s→Q (.inl s)):Ret (forR (n:Int) f s0) Q:=by
  obtain ⟨o,h1,h2⟩:=wV (n:=n) (s0:=s0) (f:=f) Inv (fun r=>Q (.inr r)) hn h0 step
  refine ⟨o,h1,?_⟩
  cases o with
  | inl s=>exact hQ s h2
  | inr r=>exact h2
theorem Ret.iter {σ ρ:Type} {f:σ→Option (σ ⊕ ρ)} {s0:σ} {Q:ρ→Prop} (Inv:σ→Prop) (m:σ→Nat) (h0:Inv s0)
    (step:∀ s,Inv s→Ret (f s) (Z6 (fun s'=>Inv s'∧m s' < m s) Q)):Ret (Go.Proofs.YtlpmnmbebkdocaaGreatDoor.iter f s0) Q:=Yl (f:=f) Inv Q m step s0 h0
theorem Ret.idx {α:Type} {l:List α} {n:Int} {Q:α→Prop} (h0:0≤n) (h1:n < l.length) (h:∀ hi:n.toNat < l.length,Q l[n.toNat]):Ret (ze l n) Q:=by
  obtain ⟨hi,e⟩:=jd h0 h1
  exact ⟨_,e,h hi⟩
theorem jB {α:Type} {by_:Nat} {l m:List α} (h:(l.length+m.length)*by_≤140737488355328):zO by_ l m=some (l++m):=by unfold zO;rw [if_pos h]
def goL {α σ ρ:Type} (F:α→σ→Option (σ ⊕ ρ)):List α→σ→Option (σ ⊕ ρ)
  | [],s=>some (.inl s)
  | x::r,s=>match F x s with
    | none=>none
    | some (.inr y)=>some (.inr y)
    | some (.inl s')=>goL F r s'
theorem Q0 {α σ ρ:Type} {f:Nat→σ→Option (σ ⊕ ρ)} {F:α→σ→Option (σ ⊕ ρ)}:∀ (l:List α) (i:Nat) (s:σ),(∀ (j:Nat) (hj:j < l.length) (s:σ),f (i+j) s=F l[j] s)→forFrom f i l.length s=goL F l s
  | [],i,s,h=>rfl
  | x::r,i,s,h=>by
    have h0:=h 0 (by simp) s
    simp only [Nat.add_zero,List.getElem_cons_zero] at h0
    simp only [List.length_cons,forFrom,goL,h0]
    have ih:∀ s',forFrom f (i+1) r.length s'=goL F r s':=fun s'=>Q0 r (i+1) s' (f:=f) (F:=F) fun j hj s=>by
      have:=h (j+1) (by simpa using hj) s
      simp only [List.getElem_cons_succ] at this
      rw [←this];congr 1;omega
    cases F x s with
    | none=>rfl
    | some o=>
      cases o with
      | inl s'=>exact ih s'
      | inr y=>rfl
theorem zd0 {α σ ρ:Type} {f:Nat→σ→Option (σ ⊕ ρ)} {F:α→σ→Option (σ ⊕ ρ)} (l:List α) (hl:l.length < 4611686018427387904) (h:∀ (j:Nat) (hj:j < l.length) (s:σ),f j s=F l[j] s) (s:σ):forR (l.length:Int) f s=goL F l s:=by
  rw [ZR (by omega)]
  have:=Q0 l 0 s (f:=f) (F:=F) (fun j hj s=>by rw [Nat.zero_add];exact h j hj s)
  simpa using this
def kj (n:Int):Int→List Int→Bool
  | _,[]=>true
  | a,x::r=>(!decide (x≤a) && !decide (n≤x))&&kj n x r
def zcy:Int→List Int→Int
  | a,[]=>a
  | _,x::r=>zcy x r
theorem zgM (n:Int) (l:List Int) (hl:l.length < 4611686018427387904) (a:Int):forR (σ:=Int) (ρ:=Unit) (l.length:Int) (fun i1 s1=>(Option.bind (ze l (i1:Int)) fun e1=>(Option.bind (bif decide (e1≤s1) then some true else some (decide (n≤e1))) fun v1=>(bif v1 then some (.inr ()) else some (.inl e1))))) a=some (bif kj n a l then .inl (zcy a l) else .inr ()):=by
  rw [zd0 (F:=fun x s=>bif (decide (x≤s)||decide (n≤x)) then some (.inr ()) else some (.inl x)) l hl (fun j hj s=>by
    simp only [qq,List.getElem?_eq_getElem hj,ZaI,zn,Bool.cond_true_left])]
  clear hl
  induction l generalizing a with
  | nil=>rfl
  | cons x r ih=>
    simp only [goL,kj,zcy]
    cases decide (x≤a)<;>cases decide (n≤x)<;>simp [ih]
theorem Ym {n:Int}:∀ {a:Int} {l:List Int},kj n a l=true→(∀ x∈l,a < x∧x < n)∧l.Pairwise (· < ·)
  | a,[],_=>⟨fun x hx=>(by cases hx),List.Pairwise.nil⟩
  | a,x::r,h=>by
    simp only [kj,Bool.and_eq_true,Bool.not_eq_true',decide_eq_false_iff_not] at h
    obtain ⟨⟨h1,h2⟩,h3⟩:=h
    obtain ⟨h4,h5⟩:=Ym h3
    refine ⟨fun y hy => ?_,List.pairwise_cons.2 ⟨fun y hy=>(h4 y hy).1,h5⟩⟩
    rcases List.mem_cons.1 hy with rfl | hy
    · exact ⟨by omega,by omega⟩
    · have:=h4 y hy;exact ⟨by omega,this.2⟩
theorem zaf {n:Int}:∀ {a:Int} {l:List Int},kj n a l=true→(l.length:Int)≤0∨a+l.length < n
  | a,[],_=>.inl (by simp)
  | a,x::r,h=>by
    simp only [kj,Bool.and_eq_true,Bool.not_eq_true',decide_eq_false_iff_not] at h
    obtain ⟨⟨h1,h2⟩,h3⟩:=h
    rcases zaf h3 with h4 | h4
    · simp only [List.length_cons];omega
    · simp only [List.length_cons];omega
theorem zd1 {l:List Int} (h:l.Pairwise (· < ·)):l.Nodup:=h.imp fun h=>by omega
structure Gm where
  n:Nat
  own:Nat→Bool
  lost:Nat→Bool
  succ:Nat→List Nat
def Attr (G:Gm):Nat→Nat→Prop
  | 0,i=>G.lost i=true
  | k+1,i=>G.lost i=true∨(G.own i=true∧∀ t∈G.succ i,Attr G k t)∨(G.own i=false∧∃ t∈G.succ i,Attr G k t)
theorem Attr.zero {G:Gm} {i:Nat} (h:G.lost i=true):∀ k,Attr G k i
  | 0=>h
  | k+1=>.inl h
theorem Attr.succ1 {G:Gm}:∀ {k i:Nat},Attr G k i→Attr G (k+1) i
  | 0,i,h=>.inl h
  | k+1,i,h=>by
    rcases h with h | ⟨h1,h2⟩ | ⟨h1,t,h2,h3⟩
    · exact .inl h
    · exact .inr (.inl ⟨h1,fun t ht=>(h2 t ht).succ1⟩)
    · exact .inr (.inr ⟨h1,t,h2,h3.succ1⟩)
theorem Attr.mono {G:Gm} {k k' i:Nat} (hk:k≤k') (h:Attr G k i):Attr G k' i:=by
  induction hk with
  | refl=>exact h
  | step _ ih=>exact ih.succ1
def yq (G:Gm) (r:Nat→Int):Prop:=∀ i,i < G.n → -1≤r i∧∀ k:Nat,(r i ≠ -1∧r i≤k)↔Attr G k i
structure RankEq (G:Gm) (r:Nat→Int):Prop where
  ge:∀ i,i < G.n → -1≤r i
  zero:∀ i,i < G.n→(G.lost i=true↔r i=0)
  ownS:∀ i,i < G.n→G.own i=true→G.lost i=false→r i ≠ -1→(∀ t∈G.succ i,r t ≠ -1∧r t+1≤r i)∧((G.succ i=[]∧r i=1)∨∃ t∈G.succ i,r i=r t+1)
  ownU:∀ i,i < G.n→G.own i=true→G.lost i=false→r i = -1→∃ t∈G.succ i,r t = -1
  othS:∀ i,i < G.n→G.own i=false→G.lost i=false→r i ≠ -1→(∃ t∈G.succ i,r t ≠ -1∧r i=r t+1)∧∀ t∈G.succ i,r t ≠ -1→r i≤r t+1
  othU:∀ i,i < G.n→G.own i=false→G.lost i=false→r i = -1→∀ t∈G.succ i,r t = -1
theorem RankEq.to {G:Gm} {r:Nat→Int} (hcl:∀ i,i < G.n→∀ t∈G.succ i,t < G.n) (h:RankEq G r):∀ (k i:Nat),i < G.n→r i ≠ -1→r i≤k→Attr G k i
  | 0,i,hi,h1,h2=>(h.zero i hi).2 (by have:=h.ge i hi;omega)
  | k+1,i,hi,h1,h2=>by
    cases hl:G.lost i with
    | true=>exact Attr.zero hl _
    | false=>
      cases ho:G.own i with
      | true=>
        refine .inr (.inl ⟨ho,fun t ht => ?_⟩)
        obtain ⟨h3,h4⟩:=(h.ownS i hi ho hl h1).1 t ht
        exact RankEq.to hcl h k t (hcl i hi t ht) h3 (by omega)
      | false=>
        obtain ⟨⟨t,ht,h3,h4⟩,_⟩:=h.othS i hi ho hl h1
        exact .inr (.inr ⟨ho,t,ht,RankEq.to hcl h k t (hcl i hi t ht) h3 (by omega)⟩)
theorem RankEq.from {G:Gm} {r:Nat→Int} (hcl:∀ i,i < G.n→∀ t∈G.succ i,t < G.n) (h:RankEq G r):∀ (k i:Nat),i < G.n→Attr G k i→r i ≠ -1∧r i≤k
  | 0,i,hi,h1=>by have:=(h.zero i hi).1 h1;omega
  | k+1,i,hi,h1=>by
    cases hl:G.lost i with
    | true=>have:=(h.zero i hi).1 hl;omega
    | false=>
      rcases h1 with h1 | ⟨ho,h2⟩ | ⟨ho,t,ht,h2⟩
      · rw [hl] at h1;cases h1
      · have hn:r i ≠ -1:=fun e=>by
          obtain ⟨t,ht,h3⟩:=h.ownU i hi ho hl e
          exact (RankEq.from hcl h k t (hcl i hi t ht) (h2 t ht)).1 h3
        refine ⟨hn,?_⟩
        rcases (h.ownS i hi ho hl hn).2 with ⟨_,h3⟩ | ⟨t,ht,h3⟩
        · omega
        · have:=(RankEq.from hcl h k t (hcl i hi t ht) (h2 t ht)).2;omega
      · obtain ⟨h3,h4⟩:=RankEq.from hcl h k t (hcl i hi t ht) h2
        have hn:r i ≠ -1:=fun e=>h3 (h.othU i hi ho hl e t ht)
        exact ⟨hn,by have:=(h.othS i hi ho hl hn).2 t ht h3;omega⟩
theorem RankEq.ok {G:Gm} {r:Nat→Int} (hcl:∀ i,i < G.n→∀ t∈G.succ i,t < G.n) (h:RankEq G r):yq G r:=fun i hi=>
  ⟨h.ge i hi,fun k=>⟨fun ⟨h1,h2⟩=>h.to hcl k i hi h1 h2,fun h1=>h.from hcl k i hi h1⟩⟩
def upd {α:Type} (f:Nat→α) (i:Nat) (x:α):Nat→α:=fun j=>if j=i then x else f j
theorem qg {α:Type} (f:Nat→α) (i:Nat) (x:α):upd f i x i=x:=if_pos rfl
theorem zN {α:Type} {f:Nat→α} {i j:Nat} {x:α} (h:j≠i):upd f i x j=f j:=if_neg h
theorem Qs {p q:Nat→Bool} {t:Nat}:∀ {l:List Nat},(∀ x,q x=true→p x=true)→t∈l→p t=true→q t=false→l.countP q < l.countP p
  | x::l,hqp,ht,hp,hq=>by
    have hle:l.countP q≤l.countP p:=List.countP_mono_left fun x _=>hqp x
    rcases List.mem_cons.1 ht with rfl | ht
    · rw [List.countP_cons_of_neg (by simp [hq]),List.countP_cons_of_pos hp];omega
    · have:=Qs hqp ht hp hq
      by_cases h:q x=true
      · rw [List.countP_cons_of_pos h,List.countP_cons_of_pos (hqp x h)];omega
      · rw [List.countP_cons_of_neg h]
        by_cases h2:p x=true
        · rw [List.countP_cons_of_pos h2];omega
        · rw [List.countP_cons_of_neg h2];exact this
def vr (P:List Nat) (t:Nat):Bool := !(P.contains t)
theorem vt {P:List Nat} {t:Nat}:vr P t=true↔t ∉ P:=by simp [vr]
theorem Z7 {P:List Nat} {u:Nat} (hu:u ∉ P):∀ l:List Nat,l.countP (vr P)=l.countP (vr (P++[u]))+l.count u
  | []=>rfl
  | x::l=>by
    have ih:=Z7 hu l
    by_cases hx:x=u
    · subst hx
      rw [List.countP_cons_of_pos (vt.2 hu),List.countP_cons_of_neg (by simp [vr]),List.count_cons_self];omega
    · rw [List.count_cons_of_ne hx]
      by_cases hp:x∈P
      · rw [List.countP_cons_of_neg (by simp [vr,hp]),List.countP_cons_of_neg (by simp [vr,hp])];exact ih
      · rw [List.countP_cons_of_pos (vt.2 hp),List.countP_cons_of_pos (vt.2 (by simp [hp,hx]))];omega
structure Core (G:Gm) (r o:Nat→Int) (K P:List Nat) (c:Nat→Nat):Prop where
  nd:K.Nodup
  lt:∀ x∈K,x < G.n
  mem:∀ i,i < G.n→(i∈K↔r i ≠ -1)
  ge:∀ i,i < G.n → -1≤r i
  mono:K.Pairwise (fun a b=>r a≤r b)
  op:∀ i,i < G.n→o i+c i=((G.succ i).countP (vr P):Int)
  zero:∀ i,i < G.n→(G.lost i=true↔r i=0)
  ownS:∀ i,i < G.n→G.own i=true→G.lost i=false→r i ≠ -1→o i=0∧(∀ t∈G.succ i,r t ≠ -1∧r t+1≤r i)∧((G.succ i=[]∧r i=1)∨∃ t∈G.succ i,r i=r t+1)
  ownU:∀ i,i < G.n→G.own i=true→G.lost i=false→r i = -1→o i≠0
  othS:∀ i,i < G.n→G.own i=false→G.lost i=false→r i ≠ -1→(∃ t∈G.succ i,r t ≠ -1∧r i=r t+1)∧∀ t∈G.succ i,r t ≠ -1→r i≤r t+1
  othU:∀ i,i < G.n→G.own i=false→G.lost i=false→r i = -1→(∀ t∈G.succ i,t ∉ P)∧c i=0
structure BInv (G:Gm) (r o:Nat→Int) (P Q:List Nat):Prop where
  core:Core G r o (P++Q) P fun _=>0
  top:∀ q Q',Q=q::Q'→∀ x∈P++Q,r x≤r q+1
structure EInv (G:Gm) (r o:Nat→Int) (P:List Nat) (u:Nat) (Q:List Nat) (c:Nat→Nat):Prop where
  core:Core G r o (P++u::Q) P c
  top:∀ x∈P++u::Q,r x≤r u+1
  le:∀ i,i < G.n→c i≤(G.succ i).count u
theorem BInv.enter {G:Gm} {r o:Nat→Int} {P Q:List Nat} {u:Nat} (h:BInv G r o P (u::Q)):EInv G r o P u Q fun _=>0:=
  ⟨h.core,h.top u Q rfl,fun _ _=>Nat.zero_le _⟩
theorem Core.split {G:Gm} {r o:Nat→Int} {P Q:List Nat} {u:Nat} {c:Nat→Nat} (h:Core G r o (P++u::Q) P c):u ∉ P∧u < G.n∧r u ≠ -1∧(∀ x∈P,r x≤r u)∧(∀ x∈Q,r u≤r x):=by
  have hu:u∈P++u::Q:=by simp
  obtain ⟨h1,h2,h3⟩:=List.pairwise_append.1 h.mono
  refine ⟨fun hp => ?_,h.lt u hu,(h.mem u (h.lt u hu)).1 hu,fun x hx=>h3 x hx u (by simp),(List.pairwise_cons.1 h2).1⟩
  exact (List.nodup_append.1 h.nd).2.2 u hp u (by simp) rfl
theorem EInv.leave {G:Gm} {r o:Nat→Int} {P Q:List Nat} {u:Nat} {c:Nat→Nat} (h:EInv G r o P u Q c) (hc:∀ i,i < G.n→c i=(G.succ i).count u):BInv G r o (P++[u]) Q:=by
  obtain ⟨hu,hun,hru,hP,hQ⟩:=h.core.split
  have hl:P++[u]++Q=P++u::Q:=by simp
  refine ⟨?_,fun q Q' hq x hx => ?_⟩
  · rw [hl]
    have C:=h.core
    refine {C with op:=fun i hi => ?_,othU:=fun i hi ho hlo hr => ?_}
    · have:=C.op i hi
      rw [Z7 hu,hc i hi] at this
      omega
    · obtain ⟨h1,h2⟩:=C.othU i hi ho hlo hr
      refine ⟨fun t ht hp => ?_,rfl⟩
      rcases List.mem_append.1 hp with hp | hp
      · exact h1 t ht hp
      · have:t=u:=by simpa using hp
        subst this
        have:=hc i hi
        rw [h2] at this
        exact List.count_eq_zero.1 this.symm ht
  · rw [hl] at hx
    have h1:=h.top x hx
    have h2:=hQ q (by rw [hq];simp)
    omega
theorem EInv.room {G:Gm} {r o:Nat→Int} {P Q:List Nat} {u:Nat} {c:Nat→Nat} (h:EInv G r o P u Q c) {i:Nat} (hi:i < G.n) (hc:c i < (G.succ i).count u):0 < o i:=by
  have h1:=h.core.op i hi
  rw [Z7 h.core.split.1] at h1
  omega
theorem EInv.skip {G:Gm} {r o:Nat→Int} {P Q:List Nat} {u:Nat} {c:Nat→Nat} (h:EInv G r o P u Q c) {i:Nat} (hi:i < G.n) (hc:c i < (G.succ i).count u) (hs:r i ≠ -1∨(G.own i=true∧o i - 1≠0)) :
    EInv G r (upd o i (o i - 1)) P u Q (upd c i (c i+1)):=by
  have hroom:=h.room hi hc
  have C:=h.core
  refine ⟨{C with op:=fun j hj => ?_,ownS:=fun j hj ho hl hr => ?_,ownU:=fun j hj ho hl hr => ?_,othU:=fun j hj ho hl hr => ?_},h.top,fun j hj => ?_⟩
  · by_cases e:j=i
    · subst e;rw [qg,qg];have:=C.op j hj;omega
    · rw [zN e,zN e];exact C.op j hj
  · obtain ⟨h1,h2⟩:=C.ownS j hj ho hl hr
    by_cases e:j=i
    · subst e;omega
    · rw [zN e];exact ⟨h1,h2⟩
  · by_cases e:j=i
    · subst e;rw [qg]
      rcases hs with hs | ⟨_,hs⟩
      · exact absurd hr hs
      · exact hs
    · rw [zN e];exact C.ownU j hj ho hl hr
  · by_cases e:j=i
    · subst e
      rcases hs with hs | ⟨hs,_⟩
      · exact absurd hr hs
      · rw [ho] at hs;cases hs
    · rw [zN e];exact C.othU j hj ho hl hr
  · by_cases e:j=i
    · subst e;rw [qg];exact hc
    · rw [zN e];exact h.le j hj
theorem EInv.settle {G:Gm} (hcl:∀ i,i < G.n→∀ t∈G.succ i,t < G.n) {r o:Nat→Int} {P Q:List Nat} {u:Nat} {c:Nat→Nat} (h:EInv G r o P u Q c) {i:Nat} (hi:i < G.n) (hc:c i < (G.succ i).count u) (hr:r i = -1) (hs:G.own i=false∨o i - 1=0) :
    EInv G (upd r i (r u+1)) (upd o i (o i - 1)) P u (Q++[i]) (upd c i (c i+1)):=by
  have hroom:=h.room hi hc
  obtain ⟨hu,hun,hru,hP,hQ⟩:=h.core.split
  have C:=h.core
  have hru0:0≤r u:=by have:=C.ge u hun;omega
  have hne:∀ x∈P++u::Q,x≠i:=fun x hx e=>by subst e;exact (C.mem x hi).1 hx hr
  have hui:u≠i:=hne u (by simp)
  have hl:P++u::(Q++[i])=(P++u::Q)++[i]:=by simp
  have hnl:G.lost i=false:=by
    cases hx:G.lost i with
    | false=>rfl
    | true=>have:=(C.zero i hi).1 hx;omega
  have hmem:u∈G.succ i:=List.count_pos_iff.1 (by omega)
  refine ⟨?_,?_,?_⟩
  · rw [hl]
    refine ⟨?_,?_,?_,?_,?_,?_,?_,?_,?_,?_,?_⟩
    · exact List.nodup_append.2 ⟨C.nd,by simp,fun a ha b hb=>by have:b=i:=by simpa using hb
                                                                subst this;exact hne a ha⟩
    · intro x hx
      rcases List.mem_append.1 hx with hx | hx
      · exact C.lt x hx
      · have:x=i:=by simpa using hx
        subst this;exact hi
    · intro j hj
      by_cases e:j=i
      · subst e;rw [qg];simp;omega
      · rw [zN e,←C.mem j hj];simp [e]
    · intro j hj
      by_cases e:j=i
      · subst e;rw [qg];omega
      · rw [zN e];exact C.ge j hj
    · refine List.pairwise_append.2 ⟨C.mono.imp_of_mem fun {a b} ha hb hab=>by rw [zN (hne a ha),zN (hne b hb)];exact hab,by simp,fun a ha b hb => ?_⟩
      have:b=i:=by simpa using hb
      subst this
      rw [qg,zN (hne a ha)];exact h.top a ha
    · intro j hj
      by_cases e:j=i
      · subst e;rw [qg,qg];have:=C.op j hj;omega
      · rw [zN e,zN e];exact C.op j hj
    · intro j hj
      by_cases e:j=i
      · subst e;rw [qg,hnl];constructor
        · intro hx;cases hx
        · intro hx;omega
      · rw [zN e];exact C.zero j hj
    · intro j hj ho hlo hrj
      by_cases e:j=i
      · subst e
        rw [qg] at hrj
        have ho1:o j - 1=0:=by
          rcases hs with hs | hs
          · rw [ho] at hs;cases hs
          · exact hs
        rw [qg,qg]
        have hop:=C.op j hj
        have hall:∀ t∈G.succ j,t∈P∨t=u:=fun t ht=>by
          by_cases htp:t∈P
          · exact .inl htp
          · by_cases htu:t=u
            · exact .inr htu
            · exfalso
              have hst:=Qs (p:=vr P) (q:=fun x=>x == u) (fun x hx=>by have:x=u:=by simpa using hx
                                                                      subst this;exact vt.2 hu) ht (vt.2 htp) (by simp [htu])
              have:(G.succ j).countP (fun x=>x == u)=(G.succ j).count u:=rfl
              omega
        refine ⟨ho1,fun t ht => ?_,.inr ⟨u,hmem,by rw [zN hui]⟩⟩
        have htn:t≠j:=by
          rcases hall t ht with h1 | h1
          · exact hne t (by simp [h1])
          · rw [h1];exact hui
        rw [zN htn]
        rcases hall t ht with h1 | h1
        · exact ⟨(C.mem t (C.lt t (by simp [h1]))).1 (by simp [h1]),by have:=hP t h1;omega⟩
        · rw [h1];exact ⟨hru,by omega⟩
      · rw [zN e] at hrj
        rw [zN e,zN e]
        obtain ⟨h1,h2,h3⟩:=C.ownS j hj ho hlo hrj
        refine ⟨h1,fun t ht => ?_,?_⟩
        · have htn:t≠i:=fun e2=>by rw [e2] at ht;exact (h2 i ht).1 hr
          rw [zN htn];exact h2 t ht
        · rcases h3 with h3 | ⟨t,ht,h3⟩
          · exact .inl h3
          · have htn:t≠i:=fun e2=>by rw [e2] at ht;exact (h2 i ht).1 hr
            exact .inr ⟨t,ht,by rw [zN htn];exact h3⟩
    · intro j hj ho hlo hrj
      by_cases e:j=i
      · subst e;rw [qg] at hrj;omega
      · rw [zN e] at hrj;rw [zN e];exact C.ownU j hj ho hlo hrj
    · intro j hj ho hlo hrj
      by_cases e:j=i
      · subst e
        rw [qg]
        refine ⟨⟨u,hmem,by rw [zN hui];exact hru,by rw [zN hui]⟩,fun t ht htr => ?_⟩
        by_cases e2:t=j
        · subst e2;rw [qg];omega
        · rw [zN e2] at htr ⊢
          obtain ⟨h1,_⟩:=C.othU j hj ho hlo hr
          have htk:=(C.mem t (hcl j hj t ht)).2 htr
          rcases List.mem_append.1 htk with h4 | h4
          · exact absurd h4 (h1 t ht)
          · rcases List.mem_cons.1 h4 with h4 | h4
            · rw [h4];omega
            · have:=hQ t h4;omega
      · rw [zN e] at hrj
        rw [zN e]
        obtain ⟨⟨t,ht,h1,h2⟩,h3⟩:=C.othS j hj ho hlo hrj
        have hj1:=h.top j ((C.mem j hj).2 hrj)
        refine ⟨?_,fun t ht htr => ?_⟩
        · have htn:t≠i:=fun e2=>by rw [e2] at h1;exact h1 hr
          exact ⟨t,ht,by rw [zN htn];exact h1,by rw [zN htn];exact h2⟩
        · by_cases e2:t=i
          · subst e2;rw [qg];omega
          · rw [zN e2] at htr ⊢; exact h3 t ht htr
    · intro j hj ho hlo hrj
      by_cases e:j=i
      · subst e;rw [qg] at hrj;omega
      · rw [zN e] at hrj;rw [zN e];exact C.othU j hj ho hlo hrj
  · rw [hl,zN hui]
    intro x hx
    rcases List.mem_append.1 hx with hx | hx
    · rw [zN (hne x hx)];exact h.top x hx
    · have:x=i:=by simpa using hx
      subst this;rw [qg];omega
  · intro j hj
    by_cases e:j=i
    · subst e;rw [qg];exact hc
    · rw [zN e];exact h.le j hj
theorem BInv.done {G:Gm} {r o:Nat→Int} {P:List Nat} (hcl:∀ i,i < G.n→∀ t∈G.succ i,t < G.n) (h:BInv G r o P []):RankEq G r:=by
  have C:=h.core
  rw [List.append_nil] at C
  refine ⟨C.ge,C.zero,fun i hi ho hl hr=>(C.ownS i hi ho hl hr).2,fun i hi ho hl hr => ?_,C.othS,fun i hi ho hl hr t ht => ?_⟩
  · have h1:=C.ownU i hi ho hl hr
    have h2:=C.op i hi
    have h3:0 < (G.succ i).countP (vr P):=by omega
    obtain ⟨t,ht,h4⟩:=List.countP_pos_iff.1 h3
    refine ⟨t,ht,?_⟩
    by_cases e:r t = -1
    · exact e
    · exact absurd ((C.mem t (hcl i hi t ht)).2 e) (vt.1 h4)
  · by_cases e:r t = -1
    · exact e
    · exact absurd ((C.mem t (hcl i hi t ht)).2 e) ((C.othU i hi ho hl hr).1 t ht)
end Go.Proofs.YtlpmnmbebkdocaaGreatDoor
