/-
  region.Safe and strategy's functions, told by positions.
  strategy.Advise: what it returns.
  Traces; what one step does when a party follows the advice.
  StrategyKeeps: the advice keeps the party safe.
  strategy.Follow: what it returns.
  Views and beliefs: what happened stays possible.
  What 'slices.BinarySearch' and 'contract.Part' come to.
  States of parts of a contract: a step of the contract is a step of each part.
  What is left to do grows less with each own act.
  Trees of clauses: what 'root', 'join' and 'gather' of package contract come to.
  What 'contract.Components' and the law's 'part' come to.
  What 'contract.Components' and 'contract.Linked' come to.
  Games of parts of a contract: a position is safe exactly if all parts are safe in it.
-/
import Derived.Test.YtgpojcfkanjabaaGreatDoorAS13
import Derived.Test.YtgpojcfkanjabaaGreatDoorAS12
import Derived.Test.YtgpojcfkanjabaaGreatDoorAS07
open List renaming getElem?_eq_getElem → ua, getElem?_eq_some_iff → ub, getElem_mem → uc, getElem_of_mem → ud, getD_eq_getElem?_getD → ue, getElem?_eq_none → ug, take_succ_eq_append_getElem → uh, mem_of_getElem? → uj, getElem?_mapIdx → uk, ext_getElem? → uo, getElem?_map → ut, getElem?_set_self → uv, take_of_length_le → uw, length_mapIdx → ux, find?_eq_some_iff_getElem → uy, all_eq_true → uz, take_append_of_le_length → uA, mem_singleton → uD, getElem?_set → uE, nodup_cons → uH, length_singleton → uI, getElem?_set_ne → uJ, filter_sublist → uL, map_congr_left → uM, map_cons → uN, find?_eq_none → uO, length_append → uP, getElem?_drop → uQ, filter_append → uR, mem_map → uS, append_assoc → uT, any_eq_true → uW, range_succ → uX, take_take → uY, take_zero → uZ, range → u0, mem_cons → u4, Pairwise → u5
open Option renaming map_some → uq, map_eq_some_iff → uG, getD_some → uV, bind → u7
open Bool renaming and_eq_true → ui, not_eq_true' → un, or_eq_false_iff → uB, not_eq_true → uF
open Nat renaming lt_or_ge → ur, le_refl → uu, strongRecOn → uC, lt_succ_self → uU, sub_self → u6
open Int renaming toNat_natCast → um, toNat_of_nonneg → uK
open Sum renaming elim_inl → ul
namespace Go.Proofs.YtgpojcfkanjabaaGreatDoor
open Go.RowKit
set_option linter.unusedSimpArgs false
set_option linter.unusedVariables false
set_option maxRecDepth 100000
section
open Classical in
noncomputable def zK (c:ay) (zw:Int) (q:aK):Bool:=decide (jG c zw q)
theorem jJ {c:ay} {zw:Int} {q:aK}:zK c zw q=true↔jG c zw q:=by unfold zK;simp
theorem vK {c:ay} {zw:Int} {q:aK} (h:jG c zw q):qa c q.state zw=false:=by
 cases e:qa c q.state zw with
 | false=>rfl
 | true=>exact absurd e (h 0)
theorem zfw {c:ay} {zw:Int} (l:List Int) (f:Int→aK) (h:∀ m∈l,¬ jG c zw (f m)):∃ k,∀ m∈l,dw c zw k (f m):=by
 induction l with
 | nil=>exact ⟨0,fun m hm=>by cases hm⟩
 | cons x l ih=>
  obtain ⟨k,hk⟩:=ih fun m hm=>h m (List.mem_cons_of_mem _ hm)
  have hx:=h x List.mem_cons_self
  obtain ⟨k2,hk2⟩:∃ k,dw c zw k (f x):=Classical.not_forall_not.1 hx
  refine ⟨k+k2,fun m hm => ?_⟩
  rcases u4.1 hm with rfl | hm
  ·exact hk2.mono (by omega)
  ·exact (hk m hm).mono (by omega)
theorem ZX {c:ay} {zw:Int} {q:aK} (ho:q.own=true):jG c zw q↔qa c q.state zw=false∧∃ m∈zr c zw q,jG c zw (target c q m):=by
 constructor
 ·intro h
  refine ⟨vK h,?_⟩
  apply Classical.byContradiction
  intro hn
  obtain ⟨k,hk⟩:=zfw (zr c zw q) (target c q) (fun m hm hs=>hn ⟨m,hm,hs⟩)
  exact h (k+1) (.inr (.inl ⟨ho,hk⟩))
 ·rintro ⟨h1,m,hm,h2⟩ k hk
  cases k with
  | zero=>
   have hk:qa c q.state zw=true:=hk
   rw [h1] at hk;cases hk
  | succ k=>
   rcases hk with hk | ⟨_,hk⟩ | ⟨hk,_⟩
   ·rw [h1] at hk;cases hk
   ·exact h2 k (hk m hm)
   ·rw [ho] at hk;cases hk
theorem Vi {c:ay} {zw:Int} {q:aK} (ho:q.own=false):jG c zw q↔qa c q.state zw=false∧∀ m∈zr c zw q,jG c zw (target c q m):=by
 constructor
 ·intro h
  exact ⟨vK h,fun m hm k hk=>h (k+1) (.inr (.inr ⟨ho,m,hm,hk⟩))⟩
 ·rintro ⟨h1,h2⟩ k hk
  cases k with
  | zero=>
   have hk:qa c q.state zw=true:=hk
   rw [h1] at hk;cases hk
  | succ k=>
   rcases hk with hk | ⟨hk,_⟩ | ⟨_,m,hm,hk⟩
   ·rw [h1] at hk;cases hk
   ·rw [ho] at hk;cases hk
   ·exact h2 m hm k hk
theorem WM {c:ay} {zw:Int} (W:aK→Prop) (h1:∀ q,W q→qa c q.state zw=false) (h2:∀ q,W q→q.own=true→∃ m∈zr c zw q,W (target c q m)) (h3:∀ q,W q→q.own=false→∀ m∈zr c zw q,W (target c q m)):∀ q,W q→jG c zw q:=by
 intro q hq k
 induction k generalizing q with
 | zero=>
  intro h
  have h:qa c q.state zw=true:=h
  rw [h1 q hq] at h;cases h
 | succ k ih=>
  rintro (h | ⟨ho,h⟩ | ⟨ho,m,hm,h⟩)
  ·rw [h1 q hq] at h;cases h
  ·obtain ⟨m,hm,hw⟩:=h2 q hq ho
   exact ih _ hw (h m hm)
  ·exact ih _ (h3 q hq ho m hm) h
section
variable {c:ay} {zw:Int} {p:aK} {a:cx}
theorem LG (hc:c.Ok) (A:bQ c zw p a):XC c a=some (a.aW.map (zK c zw)):=by
 refine aq.eq ?_
 have hn:a.aW.length≤1500:=A.F.inv.len
 unfold XC
 refine aq.bind (zhu hc A) ?_
 rintro r ⟨hl,hr,_⟩
 have hmk:eD 1 (r.length:Int)=some a.aW.length:=by rw [hl];exact Q8 hn (by omega)
 refine aq.az hmk ?_
 refine aq.bind (P:=fun o:List Bool ⊕ Unit=>o=.inl (a.aW.map (zK c zw))) (aq.cP (fun i s=>s.length=a.aW.length∧∀ j,j < i→s[j]?=(a.aW.map (zK c zw))[j]?) (by omega) ⟨by simp,fun j hj=>by omega⟩ (fun i s hi hs => ?_) (fun s hs => ?_)) ?_
 ·have hi':i < a.aW.length:=by omega
  refine aq.az (zq (yf hi)) ?_
  refine aq.az (zF hi') ?_
  refine aq.az (ua (show i < s.length by omega)) ?_
  refine aq.some ⟨by simp [hs.1],fun j hj => ?_⟩
  by_cases e:j=i
  ·subst e
   rw [uv (by omega),ut,ua hi']
   simp only [uq,Option.some.injEq]
   have h1:=(zmQ A hr hi').safe
   cases h2:zK c zw a.aW[j] with
   | true=>rw [h1.2 (jJ.1 h2)];rfl
   | false=>
    refine beq_eq_false_iff_ne.2 fun e => ?_
    rw [jJ.2 (h1.1 e)] at h2;cases h2
  ·rw [uJ (Ne.symm e)];exact hs.2 j (by omega)
 ·have e:s=a.aW.map (zK c zw):=uo fun j=>by
   by_cases h:j < r.length
   ·exact hs.2 j h
   ·rw [ug (by omega),ug (by simp;omega)]
  rw [e]
 ·rintro _ rfl
  simp only [ul]
  refine aq.az (wn (by simp)) ?_
  exact aq.some rfl
noncomputable def qI (c:ay) (zw:Int) (q:aK):Int:=
 bif q.own&&zK c zw q then ((zr c zw q).find? fun m=>zK c zw (target c q m)).getD (-2) else -2
theorem Ko (A:bQ c zw p a) {i:Nat} (hi:i < a.aW.length):zf (a.aW.map (zK c zw)) (i:Int)=some (zK c zw a.aW[i]):=zq (by rw [ut,ua hi];rfl)
theorem zkJ (A:bQ c zw p a) {i:Nat} (hi:i < a.aW.length) {T:List bC} (hT:a.bK[i]?=some T) {m:bC} (hm:m∈T):zf (a.aW.map (zK c zw)) m.to=some (zK c zw (target c a.aW[i] m.step)):=by
 obtain ⟨_,t2,t3,t4⟩:=A.tgt hi hT hm
 have:=Ko A t3
 rw [uK t2,t4] at this
 exact this
theorem zdH (hc:c.Ok) (A:bQ c zw p a):Qk a (a.aW.map (zK c zw))=some (a.aW.map (qI c zw)):=by
 refine aq.eq ?_
 have hn:a.aW.length≤1500:=A.F.inv.len
 unfold Qk
 refine aq.az (Q8 hn (by omega)) ?_
 refine aq.bind (P:=fun o:List Int ⊕ Unit=>o=.inl (a.aW.map (qI c zw))) (aq.cP (fun i s=>s.length=a.aW.length∧∀ j,j < i→s[j]?=(a.aW.map (qI c zw))[j]?) (by omega) ⟨by simp,fun j hj=>by omega⟩ (fun i s hi hs => ?_) (fun s hs => ?_)) ?_
 ·obtain ⟨T,hT,hst,_⟩:=A.mv hi
  have CH:=A.len hc hi hT
  have EU:∀ x:Int,x=qI c zw a.aW[i]→(s.set i x).length=a.aW.length∧∀ j,j < i+1→(s.set i x)[j]?=(a.aW.map (qI c zw))[j]?:=fun x hx=>by
   refine ⟨by simp [hs.1],fun j hj => ?_⟩
   by_cases e:j=i
   ·subst e
    rw [uv (by omega),ut,ua hi,hx];rfl
   ·rw [uJ (Ne.symm e)];exact hs.2 j (by omega)
  refine aq.bind (P:=fun s2:List Int=>∃ x,x=qI c zw a.aW[i]∧s2=s.set i x) ?_ (fun s2 h=>by obtain ⟨x,h1,rfl⟩:=h;exact aq.some (EU x h1))
  refine aq.az (zq (ua hi)) ?_
  refine aq.az (zF hi) ?_
  refine aq.az (ua (show i < s.length by omega)) ?_
  refine aq.az (v := !(a.aW[i].own&&zK c zw a.aW[i])) ?_ ?_
  ·rw [Ko A hi]
   cases a.aW[i].own<;>cases zK c zw a.aW[i]<;>rfl
  refine aq.ite (fun h=>aq.some ⟨-2,?_,rfl⟩) (fun h => ?_)
  ·unfold qI
   have:(a.aW[i].own&&zK c zw a.aW[i])=false:=by
    cases hx:(a.aW[i].own&&zK c zw a.aW[i]) with
    | false=>rfl
    | true=>rw [hx] at h;cases h
   rw [this];rfl
  ·have hos:(a.aW[i].own&&zK c zw a.aW[i])=true:=by
    cases hx:(a.aW[i].own&&zK c zw a.aW[i]) with
    | true=>rfl
    | false=>rw [hx] at h;cases h
   have fy:qI c zw a.aW[i]=((T.map (·.step)).find? fun m=>zK c zw (target c a.aW[i] m)).getD (-2):=by
    unfold qI;rw [hos,hst];rfl
   refine aq.az (zq hT) ?_
   refine aq.bind (P:=fun o:Unit ⊕ List Int=>(o=.inl ()∧∀ m∈T,zK c zw (target c a.aW[i] m.step)=false)∨∃ x,x=qI c zw a.aW[i]∧o=.inr (s.set i x))
    (aq.cP (fun k _=>∀ (j:Nat) (hj:j < T.length),j < k→zK c zw (target c a.aW[i] T[j].step)=false) (by omega) (fun j _ hj=>by omega) (fun k _ hk hk2 => ?_) (fun _ h=>.inl ⟨rfl,fun m hm=>by obtain ⟨j,hj,rfl⟩:=ud hm;exact h j hj hj⟩)) ?_
   ·refine aq.az (zq (ua hk)) ?_
    refine aq.az (zkJ A hi hT (uc hk)) ?_
    refine aq.ite (fun EV => ?_) (fun EV=>aq.some fun j hj hjk => ?_)
    ·refine aq.az (zF hi) ?_
     refine aq.az (uv (show i < s.length by omega)) ?_
     refine aq.some (.inr ⟨T[k].step,?_,by rw [List.set_set]⟩)
     rw [fy]
     have hf:(T.map (·.step)).find? (fun m=>zK c zw (target c a.aW[i] m))=some T[k].step:=by
      have Du:T.find? ((fun m=>zK c zw (target c a.aW[i] m))∘fun x=>x.step)=some T[k]:=by
       refine uy.2 ⟨EV,k,hk,rfl,fun j hj => ?_⟩
       have:=hk2 j (by omega) hj
       simp only [Function.comp_apply,this,Bool.not_false]
      rw [List.find?_map,Du];rfl
     rw [hf];rfl
    ·by_cases e:j=k
     ·subst e;exact EV
     ·exact hk2 j hj (by omega)
   ·rintro _ (⟨rfl,h⟩ | ⟨x,h1,rfl⟩)
    ·refine aq.some ⟨-2,?_,rfl⟩
     rw [fy,uO.2 (fun m hm => ?_)]
     ·rfl
     ·obtain ⟨t,ht,rfl⟩:=uS.1 hm
      simp [h t ht]
    ·exact aq.some ⟨x,h1,rfl⟩
 ·have e:s=a.aW.map (qI c zw):=uo fun j=>by
   by_cases h:j < a.aW.length
   ·exact hs.2 j h
   ·rw [ug (by omega),ug (by simp;omega)]
  rw [e]
 ·rintro _ rfl
  simp only [ul]
  refine aq.az (wn (by simp)) ?_
  exact aq.some rfl
end
end
section
def eZ (s:ak):aK:={state:=s,own:=true}
def Br (s:ak):aK:={state:=s,own:=false}
section
variable {c:ay} {zw:Int} {p:aK} {a:cx}
theorem WN (hc:c.Ok) (A:bQ c zw p a) {i:Nat} (hi:i < a.aW.length) (x:Int):aq (kJ a (i:Int) x) (fun r=>(x∈zr c zw a.aW[i]∧r.2=true∧∃ j,∃ hj:j < a.aW.length,r.1=(j:Int)∧a.aW[j]=target c a.aW[i] x)∨(x ∉ zr c zw a.aW[i]∧r=(0,false))):=by
 obtain ⟨T,hT,hst,_⟩:=A.mv hi
 have CH:=A.len hc hi hT
 unfold kJ
 refine aq.az (zq hT) ?_
 refine aq.bind (P:=fun o:Unit ⊕ Int=>(∃ m∈T,m.step=x∧o=.inr m.to)∨(o=.inl ()∧∀ m∈T,m.step≠x)) (aq.cP (fun k _=>∀ (j:Nat) (hj:j < T.length),j < k→T[j].step≠x) (by omega) (fun j _ hj=>by omega) (fun k _ hk hk2 => ?_) (fun _ h=>.inr ⟨rfl,fun m hm=>by obtain ⟨j,hj,rfl⟩:=ud hm;exact h j hj hj⟩)) ?_
 ·refine aq.az (zq (ua hk)) ?_
  refine aq.ite (fun h=>aq.some (.inl ⟨_,uc hk,by simpa using h,rfl⟩)) (fun h=>aq.some fun j hj hjk => ?_)
  by_cases e:j=k
  ·subst e;simpa using h
  ·exact hk2 j hj (by omega)
 ·rintro _ (⟨m,hm,e,rfl⟩ | ⟨rfl,h⟩)
  ·obtain ⟨t1,t2,t3,t4⟩:=A.tgt hi hT hm
   rw [e] at t1 t4
   exact aq.some (.inl ⟨t1,rfl,m.to.toNat,t3,(uK t2).symm,t4⟩)
  ·refine aq.some (.inr ⟨fun hx => ?_,rfl⟩)
   rw [←hst] at hx
   obtain ⟨m,hm,e⟩:=uS.1 hx
   exact h m hm e
theorem zjb {q:aK} (ho:q.own=true):(-2:Int)∈zr c zw q:=zZ.2 (.inl ⟨ho,rfl⟩)
theorem LH {q:aK} (ho:q.own=false) (hd:q.state.day < c.bl):(-1:Int)∈zr c zw q:=zZ.2 (.inr (.inl ⟨hd,ho,rfl⟩))
end
end
section
noncomputable def cB (c:ay) (s0:ak) (l:List Int):ak:=l.foldl (fun s x=>zO c s x) s0
theorem xc (c:ay) (s0:ak) (l:List Int) (x:Int):cB c s0 (l++[x])=zO c (cB c s0 l) x:=by unfold cB;rw [List.foldl_append];rfl
structure cT (c:ay) (P:ak→Prop) (s0:ak) (l:List Int):Prop where
 first:P s0
 step:∀ (k:Nat) (hk:k < l.length),(cB c s0 (l.take k)).day < c.bl ∧ -1≤l[k]∧l[k] < c.aJ.length∧P (cB c s0 (l.take (k+1)))
section
variable {c:ay} {P:ak→Prop} {s0:ak} {l:List Int}
theorem cT.nil (h:P s0):cT c P s0 []:=⟨h,fun k hk=>by simp at hk⟩
theorem cT.snoc (h:cT c P s0 l) {x:Int} (hd:(cB c s0 l).day < c.bl) (h0 : -1≤x) (h1:x < c.aJ.length) (hP:P (zO c (cB c s0 l) x)):cT c P s0 (l++[x]):=by
 refine ⟨h.first,fun k hk => ?_⟩
 rw [uP] at hk
 simp only [List.length_cons,List.length_nil] at hk
 by_cases e:k=l.length
 ·subst e
  have e1:(l++[x]).take l.length=l:=by simp
  have e2:(l++[x]).take (l.length+1)=l++[x]:=uw (by simp)
  rw [e1,e2,xc]
  simp only [List.getElem_append_right (uu _),u6,List.getElem_cons_zero]
  exact ⟨hd,h0,h1,hP⟩
 ·have hk2:k < l.length:=by omega
  rw [uA (by omega),uA (by omega),List.getElem_append_left hk2]
  exact h.step k hk2
theorem cT.take (h:cT c P s0 l) (n:Nat):cT c P s0 (l.take n):=by
 refine ⟨h.first,fun k hk => ?_⟩
 rw [List.length_take] at hk
 have h1:=h.step k (by omega)
 rw [uY,uY,show min k n=k by omega,show min (k+1) n=k+1 by omega,List.getElem_take]
 exact h1
theorem cT.all (h:cT c P s0 l):∀ k,k≤l.length→P (cB c s0 (l.take k))
 | 0,_=>by rw [uZ];exact h.first
 | k+1,hk=>(h.step k (by omega)).2.2.2
theorem cT.vs (hc:c.Ok) (hv:VS c s0) (h:cT c P s0 l):∀ k,k≤l.length→VS c (cB c s0 (l.take k))
 | 0,_=>by rw [uZ];exact hv
 | k+1,hk=>by
  obtain ⟨a1,a2,a3,_⟩:=h.step k (by omega)
  have h2:=cT.vs hc hv h k (by omega)
  rw [uh (by omega),xc]
  exact (jf hc h2 a2 a3 a1).2.1
theorem cT.Bt (hc:c.Ok) (hv:VS c s0) (h:cT c P s0 l):VS c (cB c s0 l):=by
 have:=h.vs hc hv l.length (uu _)
 rwa [List.take_length] at this
end
def ve (c:ay) (s:ak) (x:Int):Int:=if x = -1 then -1 else match c.aJ[x.toNat]? with
 | some a=>jT s.aE a
 | none => -1
theorem LI {c:ay} {s:ak} (hv:VS c s) {x:Int} (h0 : -1≤x) (h1:x < c.aJ.length):QY c s x=some (ve c s x):=by
 unfold QY ve
 by_cases e:x = -1
 ·subst e;rfl
 ·obtain ⟨i,rfl⟩:∃ i:Nat,x=(i:Int):=⟨x.toNat,by omega⟩
  have hi:i < c.aJ.length:=by omega
  have av:=YA hv.cv (ua hi)
  have hr:=av.bM
  have sX:=hv.lh
  rw [beq_eq_false_iff_ne.2 e,if_neg e,ck,zq (ua hi),um,ua hi]
  simp only [aX,jT]
  cases hz:(c.aJ[i].bM == -1) with
  | true=>rfl
  | false=>
   have gL:c.aJ[i].bM ≠ -1:=by simpa using hz
   obtain ⟨h2,h3⟩:=qE (l:=s.aE) (n:=c.aJ[i].bM) (by omega) (by omega)
   simp only [ck,h3,aX]
   rw [ua h2];rfl
section
variable {c:ay} {zw:Int} {p:aK} {a:cx}
theorem LJ (hc:c.Ok) (A:bQ c zw p a) {s:ak} {j:Nat} (hj:j < a.aW.length) (hs:a.aW[j]=eZ s) (hd:s.day < c.bl) {x:Int} (h0 : -1≤x) (h1:x < c.aJ.length) {l:List Int} (hl:l.length≤5000) :
  aq (ZN x l (j:Int) c a zw) (fun r=>r.1=l++[x]∧∃ j2,∃ hj2:j2 < a.aW.length,r.2=(j2:Int)∧a.aW[j2]=eZ (zO c s x)):=by
 have hv:VS c s:=by have:=A.F.inv.vs _ (uc hj);rw [hs] at this;exact this
 have pW:=A.p0
 unfold ZN
 refine aq.az (xt (by simp;omega)) ?_
 refine aq.bind (P:=fun v:Int=>∃ o:Bool,(o=(ve c s x == zw))∧∃ j1,∃ fS:j1 < a.aW.length,v=(j1:Int)∧a.aW[j1]={state:=s,own:=o}) ?_ ?_
 ·refine aq.az (zq (ua hj)) ?_
  rw [hs]
  refine aq.az (LI hv h0 h1) ?_
  refine aq.ite (fun h=>aq.some ⟨true,h.symm,j,hj,rfl,hs⟩) (fun h => ?_)
  refine aq.bind (WN hc A hj (-2)) ?_
  intro r hr
  obtain ⟨_,_,j1,fS,g1,g2⟩:=hr.resolve_right (fun h=>by rw [hs] at h;exact h.1 (zjb rfl))
  rw [hs,kl] at g2
  exact aq.some ⟨false,h.symm,j1,fS,g1,g2⟩
 ·rintro _ ⟨o,ho,j1,fS,rfl,h2⟩
  refine aq.bind (WN hc A fS x) ?_
  rintro r (⟨g1,g2,j2,hj2,g3,g4⟩ | ⟨g1,rfl⟩)
  ·rw [h2,xV c _ h0] at g4
   refine aq.ite (fun _=>aq.some ⟨rfl,j2,hj2,g3,g4⟩) (fun h=>by rw [g2] at h;cases h)
  ·refine aq.ite (fun h=>by cases h) (fun _=>aq.some ⟨rfl,j,hj,rfl,?_⟩)
   rw [h2] at g1
   by_cases e:x = -1
   ·exfalso
    subst e
    have:ve c s (-1) = -1:=by unfold ve;rw [if_pos rfl]
    rw [this,beq_eq_false_iff_ne.2 (by omega)] at ho
    subst ho
    exact g1 (LH rfl hd)
   ·obtain ⟨i,rfl⟩:∃ i:Nat,x=(i:Int):=⟨x.toNat,by omega⟩
    have hi:i < c.aJ.length:=by omega
    cases mW:wZ (zO c s i) s with
    | true=>rw [hs,kK.1 mW]
    | false=>
     exfalso
     refine g1 (zZ.2 (.inr (.inr ⟨hd,i,hi,?_,rfl⟩)))
     have rz:ve c s (i:Int)=jT s.aE c.aJ[i]:=by
      unfold ve;rw [if_neg (by omega),um,ua hi]
     rw [rz] at ho
     simp only [l7,ua hi,mW]
     rw [ho];simp
end
end
section
section
variable {c:ay} {zw:Int} {p:aK} {a:cx}
theorem LK {q:aK} (ho:q.own=true) (hs:zK c zw q=true):qI c zw q∈zr c zw q∧zK c zw (target c q (qI c zw q))=true∧∀ m∈zr c zw q,zK c zw (target c q m)=true→qI c zw q≤m:=by
 obtain ⟨_,m0,hm0,hs0⟩:=(ZX ho).1 (jJ.1 hs)
 have fy:qI c zw q=((zr c zw q).find? fun m=>zK c zw (target c q m)).getD (-2):=by unfold qI;rw [ho,hs];rfl
 cases hf:(zr c zw q).find? (fun m=>zK c zw (target c q m)) with
 | none=>
  have:=uO.1 hf m0 hm0
  rw [jJ.2 hs0] at this
  exact absurd rfl this
 | some x=>
  rw [hf] at fy
  have fy:qI c zw q=x:=fy
  obtain ⟨h1,i,hi,h2,h3⟩:=uy.1 hf
  rw [fy]
  refine ⟨by rw [←h2];exact uc hi,h1,fun m hm mW => ?_⟩
  obtain ⟨j,hj,rfl⟩:=ud hm
  by_cases e:j < i
  ·have:=h3 j e
   rw [mW] at this;cases this
  ·by_cases e2:j=i
   ·subst e2;omega
   ·have:=List.pairwise_iff_getElem.1 (zhk c zw q) i j hi hj (by omega)
    omega
end
end
section
inductive pG (c:ay) (zw:Int) (s0:ak):List Int→List Int→Prop where
 | stop {l:List Int} (h:qI c zw (eZ (cB c s0 l)) = -2):pG c zw s0 l l
 | go {l l2:List Int} (h:qI c zw (eZ (cB c s0 l)) ≠ -2) (t:pG c zw s0 (l++[qI c zw (eZ (cB c s0 l))]) l2):pG c zw s0 l l2
inductive Fw (c:ay) (zw:Int) (s0:ak):List Int→List Int→List Int→Prop where
 | done {l:List Int}:Fw c zw s0 [] l l
 | stop {o:Int} {os l:List Int} (h:(cB c s0 l).day=c.bl):Fw c zw s0 (o::os) l l
 | own {o:Int} {os l l1 l2:List Int} (h:(cB c s0 l).day≠c.bl) (ha:pG c zw s0 l l1) (hd:ve c (cB c s0 l1) o=zw) (t:Fw c zw s0 os l1 l2):Fw c zw s0 (o::os) l l2
 | LL {o:Int} {os l l1 l2:List Int} (h:(cB c s0 l).day≠c.bl) (ha:pG c zw s0 l l1) (hd:ve c (cB c s0 l1) o≠zw) (t:Fw c zw s0 os (l1++[o]) l2):Fw c zw s0 (o::os) l l2
section
variable {c:ay} {zw:Int} {s0:ak} {a:cx}
theorem LM (hc:c.Ok) {s:ak} (hv:VS c s) (h:qI c zw (eZ s) ≠ -2):0≤qI c zw (eZ s)∧qI c zw (eZ s) < c.aJ.length∧s.day < c.bl∧zK c zw (eZ s)=true∧zK c zw (eZ (zO c s (qI c zw (eZ s))))=true∧(zO c s (qI c zw (eZ s))).day=s.day:=by
 have hs:zK c zw (eZ s)=true:=by
  cases e:zK c zw (eZ s) with
  | true=>rfl
  | false=>exact absurd (by unfold qI;rw [e,Bool.and_false];rfl) h
 obtain ⟨h1,h2,_⟩:=LK (c:=c) (zw:=zw) (q:=eZ s) rfl hs
 generalize qI c zw (eZ s)=x at *
 rcases zZ.1 h1 with ⟨_,e⟩ | ⟨_,e,_⟩ | ⟨hd,i,hi,_,e⟩
 ·exact absurd e h
 ·cases e
 ·subst e
  rw [xV c _ (by omega)] at h2
  have hd:s.day < c.bl:=hd
  refine ⟨by omega,by omega,hd,hs,h2,?_⟩
  obtain ⟨_,_,_,ha⟩:=jf hc hv (a:=(i:Int)) (by omega) (by omega) hd
  rcases ha i c.aJ[i] rfl (ua hi) with ⟨_,_,e⟩ | ⟨_,e,_⟩
  ·rw [e]
  ·exact e
abbrev Any (s:ak):Prop:=True
theorem zfx (hc:c.Ok) (zw:Int) (cX:List Int) (o7:cX.length < 4611686018427387904):aq (JH c zw cX) (fun r=>(r.2≠0∧r.1=[])∨(r.2=0∧∃ s0 a,qy c=some (s0,0)∧vG c zw=some (a,0)∧bQ c zw (eZ s0) a∧VS c s0∧cT c Any s0 r.1∧Fw c zw s0 cX [] r.1∧r.1.length≤4000∧∀ x∈cX,-1≤x∧x < c.aJ.length)):=by
 unfold JH
 obtain ⟨⟨a,e⟩,hB,hR⟩:=zkI hc zw
 refine aq.az hB ?_
 refine aq.ite (fun _=>aq.some (.inl ⟨by simp,rfl⟩)) (fun dU => ?_)
 refine aq.bind (P:=fun o:Unit ⊕ Unit=>o=.inr ()∨(o=.inl ()∧∀ x∈cX,-1≤x∧x < c.aJ.length)) (aq.cP (fun i _=>∀ (j:Nat) (hj:j < cX.length),j < i → -1≤cX[j]∧cX[j] < c.aJ.length) o7 (fun j _ h=>by omega) (fun i _ hi h => ?_) (fun _ h=>.inr ⟨rfl,fun x hx=>by obtain ⟨j,hj,rfl⟩:=ud hx;exact h j hj hj⟩)) ?_
 ·refine aq.az (zq (ua hi)) ?_
  refine aq.az (v:=(decide (cX[i] < -1)||decide ((c.aJ.length:Int)≤cX[i]))) (by cases decide (cX[i] < -1)<;>rfl) ?_
  refine aq.ite (fun _=>aq.some (.inl rfl)) (fun hq=>aq.some fun j hj hji => ?_)
  simp only [uB,decide_eq_false_iff_not] at hq
  by_cases e2:j=i
  ·subst e2;omega
  ·exact h j hj (by omega)
 rintro _ (rfl | ⟨rfl,Bu⟩)
 ·exact aq.some (.inl ⟨by simp,rfl⟩)
 simp only [ul]
 rcases hR with ⟨he,_⟩ | ⟨he,s0,hst,gl,A⟩
 ·simp only at he
  refine aq.az (v:=true) (by rw [show (((a,e):cx×Int).2 == 0)=false from beq_eq_false_iff_ne.2 he];rfl) ?_
  exact aq.ite (fun _=>aq.some (.inl ⟨by simp,rfl⟩)) (fun h=>by cases h)
 simp only at he A
 subst he
 refine aq.az (v:=decide (4000 < (cX.length:Int))) rfl ?_
 refine aq.ite (fun _=>aq.some (.inl ⟨by simp,rfl⟩)) (fun _ => ?_)
 refine aq.az (LG hc A) ?_
 refine aq.az (zdH hc A) ?_
 have Bv:∀ (j:Nat) (hj:j < a.aW.length),zf (a.aW.map (qI c zw)) (j:Int)=some (qI c zw a.aW[j]):=fun j hj=>zq (by rw [ut,ua hj];rfl)
 have hp:=A.pos
 have Bw:a.aW[0]=eZ s0:=by have:=A.F.first;rw [ua hp] at this;exact Option.some.inj this
 refine aq.bind (P:=fun o:List Int ⊕ Unit=>(∃ l,o=.inl l∧cT c Any s0 l∧Fw c zw s0 cX [] l∧l.length≤4000)∨o=.inr ()) ?_ ?_
 ·refine aq.bind (P:=fun o:(List Int×Int) ⊕ (List Int ⊕ Unit)=>(∃ x,o=.inl x∧cT c Any s0 x.1∧Fw c zw s0 cX [] x.1∧x.1.length≤4000)∨(∃ l,o=.inr (.inl l)∧cT c Any s0 l∧Fw c zw s0 cX [] l∧l.length≤4000)∨o=.inr (.inr ()))
   (aq.cP (fun i x=>cT c Any s0 x.1∧x.1.length≤4000∧(∃ j,∃ hj:j < a.aW.length,x.2=(j:Int)∧a.aW[j]=eZ (cB c s0 x.1))∧∀ l2,Fw c zw s0 (cX.drop i) x.1 l2→Fw c zw s0 cX [] l2) o7
    ⟨.nil trivial,by simp,⟨0,hp,rfl,Bw⟩,fun l2 h=>h⟩ (fun i x hi hx => ?_) (fun x hx => ?_)) ?_
  ·obtain ⟨l,eP⟩:=x
   obtain ⟨ht,hl,⟨j,hj,hat,Bx⟩,rM⟩:=hx
   simp only at ht hl hat Bx rM ⊢
   subst hat
   have oT:cX.drop i=cX[i]::cX.drop (i+1):=List.drop_eq_getElem_cons hi
   have hvl:=ht.Bt hc gl
   refine aq.az (zq (ua hi)) ?_
   refine aq.az (zq (ua hj)) ?_
   rw [Bx]
   refine aq.ite (fun h => ?_) (fun h => ?_)
   ·have gB:(cB c s0 l).day=c.bl:=by simpa [eZ] using h
    exact aq.some (.inr (.inl ⟨l,rfl,ht,rM l (by rw [oT];exact .stop gB),hl⟩))
   have gB:(cB c s0 l).day≠c.bl:=by
    intro e
    have h:((cB c s0 l).day == c.bl)=false:=h
    rw [e,beq_self_eq_true] at h;cases h
   have lJ:(cB c s0 l).day < c.bl:=by have:=hvl.day;omega
   refine aq.bind (P:=fun v:List Int×Int=>cT c Any s0 v.1∧v.1.length≤4001∧(∃ j,∃ hj:j < a.aW.length,v.2=(j:Int)∧a.aW[j]=eZ (cB c s0 v.1))∧(cB c s0 v.1).day < c.bl∧(pG c zw s0 l v.1∨4000 < v.1.length)) ?_ ?_
   ·refine aq.bind (P:=fun v:List Int×Int=>cT c Any s0 v.1∧v.1.length≤4001∧(∃ j,∃ hj:j < a.aW.length,v.2=(j:Int)∧a.aW[j]=eZ (cB c s0 v.1))∧(cB c s0 v.1).day < c.bl∧(pG c zw s0 l v.1∨4000 < v.1.length))
     (aq.iter (fun v:List Int×Int=>cT c Any s0 v.1∧v.1.length≤4001∧(∃ j,∃ hj:j < a.aW.length,v.2=(j:Int)∧a.aW[j]=eZ (cB c s0 v.1))∧(cB c s0 v.1).day < c.bl∧∀ l2,pG c zw s0 v.1 l2→pG c zw s0 l l2) (fun v=>5000 - v.1.length)
      ⟨ht,by show l.length≤4001;omega,⟨j,hj,rfl,Bx⟩,lJ,fun l2 h=>h⟩ (fun v hv => ?_)) (fun v hv=>aq.some hv)
    obtain ⟨l1,at1⟩:=v
    obtain ⟨ht1,fK,⟨j1,fS,oU,iY⟩,iF,fy⟩:=hv
    simp only at ht1 fK oU iY iF fy ⊢
    subst oU
    have lB:=ht1.Bt hc gl
    have hI:=Bv j1 fS
    rw [iY] at hI
    refine aq.az (v:=(!(qI c zw (eZ (cB c s0 l1)) == -2)&&decide ((l1.length:Int)≤4000))) ?_ ?_
    ·rw [hI]
     simp only [aX]
     cases (qI c zw (eZ (cB c s0 l1)) == -2)<;>rfl
    refine aq.ite (fun hq => ?_) (fun hq=>aq.some ⟨ht1,fK,⟨j1,fS,rfl,iY⟩,iF,?_⟩)
    ·simp only [ui,un,beq_eq_false_iff_ne,decide_eq_true_eq] at hq
     obtain ⟨b0,b1,_,_,_,b2⟩:=LM hc lB hq.1
     refine aq.az hI ?_
     refine aq.bind (LJ hc A fS iY iF (by omega) b1 (by omega)) ?_
     rintro ⟨l3,at3⟩ ⟨g1,j3,EW,g2,g3⟩
     simp only at g1 g2 g3
     subst g1 g2
     refine aq.some ⟨⟨ht1.snoc iF (by omega) b1 trivial,by show (l1++[_]).length≤4001;simp;omega,⟨j3,EW,rfl,by rw [xc];exact g3⟩,by rw [xc,b2];exact iF,fun l2 h=>fy l2 (.go hq.1 h)⟩,by show 5000 - (l1++[_]).length < 5000 - l1.length;simp;omega⟩
    ·by_cases e:qI c zw (eZ (cB c s0 l1)) = -2
     ·exact .inl (fy l1 (.stop e))
     ·right
      rw [beq_eq_false_iff_ne.2 e] at hq
      have:¬ ((l1.length:Int)≤4000):=fun h=>by rw [decide_eq_true h] at hq;cases hq
      show 4000 < l1.length
      omega
   rintro ⟨l1,at1⟩ ⟨ht1,fK,⟨j1,fS,oU,iY⟩,iF,fy⟩
   simp only at ht1 fK oU iY iF fy ⊢
   subst oU
   have lB:=ht1.Bt hc gl
   have ho:=Bu _ (uc hi)
   refine aq.bind (P:=fun v:List Int×Int=>cT c Any s0 v.1∧(∃ j,∃ hj:j < a.aW.length,v.2=(j:Int)∧a.aW[j]=eZ (cB c s0 v.1))∧(4000 < v.1.length∨∀ l2,Fw c zw s0 (cX.drop (i+1)) v.1 l2→Fw c zw s0 (cX.drop i) l l2)) ?_ ?_
   ·refine aq.az (zq (ua fS)) ?_
    rw [iY]
    refine aq.az (LI lB ho.1 ho.2) ?_
    refine aq.ite (fun hq=>aq.some ⟨ht1,⟨j1,fS,rfl,iY⟩,?_⟩) (fun hq => ?_)
    ·rcases fy with h | h
     ·exact .inr fun l2 h2=>by rw [oT];exact .own gB h (by simpa using hq) h2
     ·exact .inl h
    ·refine aq.bind (LJ hc A fS iY iF ho.1 ho.2 (by omega)) ?_
     rintro ⟨l3,at3⟩ ⟨g1,j3,EW,g2,g3⟩
     simp only at g1 g2 g3
     subst g1 g2
     refine aq.some ⟨ht1.snoc iF ho.1 ho.2 trivial,⟨j3,EW,rfl,by rw [xc];exact g3⟩,?_⟩
     rcases fy with h | h
     ·exact .inr fun l2 h2=>by rw [oT];exact .LL gB h (by simpa using hq) h2
     ·exact .inl (by show 4000 < (l1++[_]).length;simp;omega)
   rintro ⟨l2,at2⟩ ⟨ht2,hp2,rN⟩
   simp only at ht2 hp2 rN ⊢
   refine aq.ite (fun _=>aq.some (.inr (.inr rfl))) (fun hq => ?_)
   have hq:=of_decide_eq_false hq
   refine aq.some ⟨ht2,by show l2.length≤4000;omega,hp2,fun l4 h4=>rM l4 ?_⟩
   rcases rN with h | h
   ·omega
   ·exact h l4 h4
  ·obtain ⟨ht,hl,_,rM⟩:=hx
   refine .inl ⟨x,rfl,ht,rM x.1 ?_,hl⟩
   rw [List.drop_length];exact .done
  ·rintro _ (⟨x,rfl,h⟩ | ⟨l,rfl,h⟩ | rfl)
   ·exact aq.some (.inl ⟨x.1,rfl,h⟩)
   ·exact aq.some (.inl ⟨l,rfl,h⟩)
   ·exact aq.some (.inr rfl)
 ·rintro _ (⟨l,rfl,h1,h2,h3⟩ | rfl)
  ·exact aq.some (.inr ⟨rfl,s0,a,hst,hB,A,gl,h1,h2,h3,Bu⟩)
  ·exact aq.some (.inl ⟨by simp,rfl⟩)
end
end
section
section
variable {c:ay} {p:Int} {s0:ak} {l:List Int}
def xd (c:ay) (p:Int) (s:ak) (x:Int):Bool:=x == -1||(match c.aJ[x.toNat]? with | some a=>xj s.aE p a | none=>false)
theorem LN {s:ak} {i:Nat} {a:bq} (ha:c.aJ[i]?=some a):xd c p s (i:Int)=xj s.aE p a:=by
 unfold xd
 rw [um,ha,beq_eq_false_iff_ne.2 (show (i:Int) ≠ -1 by omega),Bool.false_or]
noncomputable def vw (c:ay) (p:Int) (s0:ak) (l:List Int):Nat→List Int
 | 0=>[]
 | n+1=>vw c p s0 l n++(if xd c p (cB c s0 (l.take n)) (l[n]?.getD 0) then [l[n]?.getD 0] else [])
theorem EX:∀ n,(vw c p s0 l n).length≤n
 | 0=>uu _
 | n+1=>by
  have:=EX n
  simp only [vw,uP]
  split<;>simp<;>omega
theorem EY:∀ (n d:Nat),∃ t,vw c p s0 l (n+d)=vw c p s0 l n++t
 | n,0=>⟨[],by simp⟩
 | n,d+1=>by
  obtain ⟨t,h⟩:=EY n d
  exact ⟨t++_,by rw [←Nat.add_assoc,vw,h,uT]⟩
theorem LO (hc:c.Ok) {s:ak} (hv:VS c s) {x:Int} (h0 : -1≤x) (h1:x < c.aJ.length) (hp:0≤p∧p < c.aR) (hne:x ≠ -1):yD c s p x=some (xd c p s x)∧Zk c s p x=some (xd c p s x):=by
 obtain ⟨i,rfl⟩:∃ i:Nat,x=(i:Int):=⟨x.toNat,by omega⟩
 have ha:=ua (show i < c.aJ.length by omega)
 rw [LN ha]
 exact ⟨I2 hc hv ha hp,I1 hv ha p⟩
theorem LP (hc:c.Ok) {A:List ak} (hA:∀ x∈A,nY c p A x) {s:ak} (hv:VS c s) (hs:s∈A) (hd:s.day < c.bl) {x:Int} (h0 : -1≤x) (h1:x < c.aJ.length) (fA:xd c p s x=false):zO c s x∈A:=by
 have hne:x ≠ -1:=fun e=>by rw [e] at fA;simp [xd] at fA
 obtain ⟨i,rfl⟩:∃ i:Nat,x=(i:Int):=⟨x.toNat,by omega⟩
 have ha:=ua (show i < c.aJ.length by omega)
 rw [LN ha] at fA
 by_cases hn:∃ j,nO c s j i
 ·obtain ⟨j,hn⟩:=hn
  exact hA s hs hd i _ j ha hn fA
 ·rw [zdE hc hv ha hd fA fun j h=>hn ⟨j,h⟩]
  exact hs
theorem LQ (hc:c.Ok) (hv:VS c s0) (ht:cT c Any s0 l) {A:List ak} (hA:∀ x∈A,nY c p A x):∀ (d n:Nat),l.length=n+d→cB c s0 (l.take n)∈A→(vw c p s0 l n).length < (vw c p s0 l l.length).length →
  ∃ m,∃ hm:m < l.length,vw c p s0 l m=vw c p s0 l n∧cB c s0 (l.take m)∈A∧xd c p (cB c s0 (l.take m)) l[m]=true
 | 0,n,h,_,hlt=>by
  rw [h] at hlt
  simp at hlt
 | d+1,n,h,hs,hlt=>by
  have hn:n < l.length:=by omega
  have eg:l[n]?.getD 0=l[n]:=by rw [ua hn];rfl
  cases fA:xd c p (cB c s0 (l.take n)) l[n] with
  | true=>exact ⟨n,hn,rfl,hs,fA⟩
  | false=>
   obtain ⟨a1,a2,a3,_⟩:=ht.step n hn
   have h1:=LP hc hA (ht.vs hc hv n (by omega)) hs a1 a2 a3 fA
   rw [←xc,←uh hn] at h1
   have e:vw c p s0 l (n+1)=vw c p s0 l n:=by rw [vw,eg,fA];simp
   obtain ⟨m,hm,g1,g2,g3⟩:=LQ hc hv ht hA d (n+1) (by omega) h1 (by rw [e];exact hlt)
   exact ⟨m,hm,g1.trans e,g2,g3⟩
theorem LR (hc:c.Ok) (hv:VS c s0) (ht:cT c Any s0 l) {A:List ak} (hA:∀ x∈A,nY c p A x):∀ (d n:Nat),l.length=n+d→cB c s0 (l.take n)∈A→(vw c p s0 l n).length=(vw c p s0 l l.length).length→cB c s0 l∈A
 | 0,n,h,hs,_=>by
  rw [uw (by omega)] at hs
  exact hs
 | d+1,n,h,hs,he=>by
  have hn:n < l.length:=by omega
  have eg:l[n]?.getD 0=l[n]:=by rw [ua hn];rfl
  obtain ⟨t,ht2⟩:=EY (c:=c) (p:=p) (s0:=s0) (l:=l) (n+1) d
  rw [show n+1+d=l.length by omega] at ht2
  cases fA:xd c p (cB c s0 (l.take n)) l[n] with
  | true=>
   rw [ht2,vw,eg,fA] at he
   simp at he
  | false=>
   obtain ⟨a1,a2,a3,_⟩:=ht.step n hn
   have h1:=LP hc hA (ht.vs hc hv n (by omega)) hs a1 a2 a3 fA
   rw [←xc,←uh hn] at h1
   have e:vw c p s0 l (n+1)=vw c p s0 l n:=by rw [vw,eg,fA];simp
   exact LR hc hv ht hA d (n+1) (by omega) h1 (by rw [e];exact he)
theorem zjc (hc:c.Ok) (hst:qy c=some (s0,0)) (hv:VS c s0) (ht:cT c Any s0 l) (hl:l.length≤4000) (hp:0≤p∧p < c.aR):kH c l p=some (vw c p s0 l l.length,0):=by
 refine aq.eq ?_
 unfold kH
 refine aq.az (v:=(vw c p s0 l l.length,0)) ?_ (aq.some rfl)
 refine aq.eq ?_
 unfold QW
 refine aq.az hst ?_
 refine aq.ite (fun _ => ?_) (fun h=>by cases h)
 refine aq.az (v:=false) ?_ ?_
 ·have e:Wd [p] c=some false:=by
   refine aq.eq ?_
   unfold Wd
   refine aq.az (v := -1) ?_ (aq.some rfl)
   refine aq.eq ?_
   unfold Cl
   refine aq.bind (P:=fun o:Unit ⊕ Int=>o=.inl ()) (aq.cP (n:=1) (fun _ _=>True) (by omega) trivial (fun k _ hk _ => ?_) (fun _ _=>rfl)) ?_
   ·obtain rfl:k=0:=by omega
    refine aq.az (v:=0) rfl ?_
    refine aq.az (v:=p) rfl ?_
    refine aq.az (v:=false) ?_ (aq.some trivial)
    unfold V9
    rw [decide_eq_false (show ¬ p < 0 by omega),decide_eq_false (show ¬ c.aR≤p by omega)]
    rfl
   ·rintro _ rfl
    exact aq.some rfl
  rw [e];rfl
 refine aq.ite (fun h=>by cases h) (fun _ => ?_)
 refine aq.ite (fun h=>by have:=of_decide_eq_true h;omega) (fun _ => ?_)
 refine aq.az (v:=(vw c p s0 l l.length,0)) ?_ (aq.some rfl)
 refine aq.eq ?_
 unfold QV
 refine aq.az (v:=(.inl (vw c p s0 l l.length):List Int ⊕ Int)) ?_ (aq.some rfl)
 refine aq.eq ?_
 refine aq.az (v:=()) rfl ?_
 refine aq.az hst ?_
 refine aq.ite (fun _ => ?_) (fun h=>by cases h)
 refine aq.bind (P:=fun o:(List Int×Int×List Int×List Bool×List aj) ⊕ ((Int×List Int) ⊕ List Int)=>∃ x,o=.inl x∧x.1=vw c p s0 l l.length)
  (aq.cP (fun i x=>x=(vw c p s0 l i,(cB c s0 (l.take i)).day,(cB c s0 (l.take i)).aE,(cB c s0 (l.take i)).used,(cB c s0 (l.take i)).aI)) (by omega) (by simp [cB,vw]) (fun i x hi hx => ?_) (fun x hx=>⟨x,rfl,by rw [hx]⟩)) ?_
 ·subst hx
  obtain ⟨a1,a2,a3,_⟩:=ht.step i hi
  have LS:=ht.vs hc hv i (by omega)
  have eg:l[i]?.getD 0=l[i]:=by rw [ua hi];rfl
  refine aq.az (zq (ua hi)) ?_
  refine aq.az (jf hc LS a2 a3 a1).1 ?_
  have hvl:=EX (c:=c) (p:=p) (s0:=s0) (l:=l) i
  refine aq.az (v:=.inl (vw c p s0 l (i+1))) ?_ ?_
  ·refine aq.eq ?_
   refine aq.ite (fun _ => ?_) (fun h=>by cases h)
   refine aq.az (v:=xd c p (cB c s0 (l.take i)) l[i]) ?_ ?_
   ·cases hx:(l[i] == -1) with
    | true=>rw [beq_iff_eq.1 hx];rfl
    | false=>
     have hne:=beq_eq_false_iff_ne.1 hx
     have e:=(LO (p:=p) hc LS a2 a3 hp hne).2
     have e3:QU (cB c s0 (l.take i)).day (cB c s0 (l.take i)).aE (cB c s0 (l.take i)).used (cB c s0 (l.take i)).aI l[i] [p] c=some (xd c p (cB c s0 (l.take i)) l[i]):=by
      refine aq.eq ?_
      unfold QU
      refine aq.az (v:=xd c p (cB c s0 (l.take i)) l[i]) ?_ (aq.some rfl)
      refine aq.eq ?_
      unfold Cn
      refine aq.az (v:=if xd c p (cB c s0 (l.take i)) l[i] then 0 else -1) ?_ (aq.some (by cases xd c p (cB c s0 (l.take i)) l[i]<;>rfl))
      refine aq.eq ?_
      unfold Cm
      refine aq.bind (P:=fun o:Unit ⊕ Int=>o=if xd c p (cB c s0 (l.take i)) l[i] then .inr 0 else .inl ()) (aq.cP (n:=1) (fun n _=>n=0∨xd c p (cB c s0 (l.take i)) l[i]=false) (by omega) (.inl rfl) (fun k _ hk _ => ?_) (fun _ h=>by rcases h with h | h<;>simp_all)) ?_
      ·obtain rfl:k=0:=by omega
       refine aq.az (v:=0) rfl ?_
       refine aq.az (v:=p) rfl ?_
       refine aq.az (v:=xd c p (cB c s0 (l.take i)) l[i]) ?_ ?_
       ·unfold Yh
        rw [show ({day:=(cB c s0 (l.take i)).day,aE:=(cB c s0 (l.take i)).aE,used:=(cB c s0 (l.take i)).used,aI:=(cB c s0 (l.take i)).aI}:ak)=cB c s0 (l.take i) from rfl,e]
        rfl
       ·refine aq.ite (fun h=>aq.some ?_) (fun h=>aq.some (.inr h))
        show _=_
        rw [h];rfl
      ·rintro _ rfl
       cases xd c p (cB c s0 (l.take i)) l[i]<;>exact aq.some rfl
     rw [e3]
     rfl
   ·rw [vw,eg]
    refine aq.ite (fun h => ?_) (fun h=>aq.some ?_)
    ·refine aq.az (xt (by simp only [uI];omega)) (aq.some ?_)
     rw [h];rfl
    ·rw [h];simp
  ·have e:zO c (cB c s0 (l.take i)) l[i]=cB c s0 (l.take (i+1)):=by rw [uh hi,xc]
   simp only [ul]
   refine aq.ite (fun _=>aq.some ?_) (fun h=>by cases h)
   show (_,_)=_
   rw [e]
 rintro _ ⟨x,rfl,hx⟩
 exact aq.some (by rw [hx])
structure gZ (c:ay) (p:Int) (A:List ak):Prop where
 len:A.length≤300
 vs:∀ x∈A,VS c x
 tW:∀ x∈A,nY c p A x
theorem zhz (hc:c.Ok) (hst:qy c=some (s0,0)) (hv:VS c s0) (hp:0≤p∧p < c.aR):aq (yE c p) (fun r=>r.2=3∨(r.2=0∧r.1.zw=p∧gZ c p r.1.states∧s0∈r.1.states)):=by
 unfold yE
 refine aq.az hst ?_
 refine aq.az (v:=false) ?_ ?_
 ·show (bif decide (p < 0) then some true else some (decide (c.aR≤p)))=some false
  rw [decide_eq_false (show ¬ p < 0 by omega),decide_eq_false (show ¬ c.aR≤p by omega)]
  rfl
 refine aq.ite (fun h=>by cases h) (fun _ => ?_)
 rw [zdG]
 refine aq.bind (WL hc hv.cv hp (l:=[s0]) (fun x hx=>by rw [uD.1 hx];exact hv) (by simp)) ?_
 rintro ⟨r,e⟩ (⟨h,_⟩ | ⟨h,h1,h2,h3,h4⟩)<;>simp only at h<;>subst h
 ·exact aq.some (.inl rfl)
 ·exact aq.some (.inr ⟨rfl,rfl,⟨h1,h2,h4⟩,h3 s0 (by simp)⟩)
theorem zhA (hc:c.Ok) (hv:(zI c).1=0) (hp:0≤p∧p < c.aR) {A:List ak} (hA:gZ c p A) {s:ak} (hs:s∈A) {x:Int} (h0 : -1≤x) (h1:x < c.aJ.length) (hd:s.day < c.bl) (fA:xd c p s x=true) :
  aq (yF c {zw:=p,states:=A} x) (fun r=>r.2=3∨(r.2=0∧r.1.zw=p∧gZ c p r.1.states∧zO c s x∈r.1.states)):=by
 have hlen:=hA.len
 unfold yF
 dsimp only
 refine aq.az (v:=false) ?_ ?_
 ·cases hx:(x == -1) with
  | true=>rfl
  | false=>
   have hne:=beq_eq_false_iff_ne.1 hx
   rw [decide_eq_false (show ¬ x < 0 by omega),decide_eq_false (show ¬ (c.aJ.length:Int)≤x by omega)]
   rfl
 refine aq.ite (fun h=>by cases h) (fun _ => ?_)
 refine aq.bind (P:=fun o:List ak ⊕ Unit=>∃ nx,o=.inl nx∧nx.length≤A.length∧(∀ y∈nx,VS c y)∧zO c s x∈nx)
  (aq.cP (fun n nx=>nx.length≤n∧(∀ y∈nx,VS c y)∧∀ m,m < n→∀ hm:m < A.length,A[m]=s→zO c s x∈nx) (by omega) ⟨uu _,fun y hy=>(by cases hy),fun m hm=>(by omega)⟩ (fun n nx hn hx => ?_)
   (fun nx hx=>⟨nx,rfl,hx.1,hx.2.1,by obtain ⟨m,hm,em⟩:=ud hs;exact hx.2.2 m hm hm em⟩)) ?_
 ·obtain ⟨g1,g2,g3⟩:=hx
  have LU:=hA.vs _ (uc hn)
  refine aq.bind (P:=fun v:List ak=>v.length≤n+1∧(∀ y∈v,VS c y)∧∀ m,m < n+1→∀ hm:m < A.length,A[m]=s→zO c s x∈v) ?_ (fun v h=>aq.some h)
  refine aq.az (zq (ua hn)) ?_
  refine aq.az (v:=decide (c.bl≤A[n].day) || !xd c p A[n] x) ?_ ?_
  ·cases hdd:decide (c.bl≤A[n].day) with
   | true=>rfl
   | false=>
    cases hx:(x == -1) with
    | true=>rw [beq_iff_eq.1 hx];rfl
    | false=>
     have hne:=beq_eq_false_iff_ne.1 hx
     simp only [ck]
     rw [(LO (p:=p) hc LU h0 h1 hp hne).1]
     rfl
  refine aq.ite (fun h=>aq.some ⟨by omega,g2,fun m hm hml e => ?_⟩) (fun h => ?_)
  ·rcases ur m n with q | q
   ·exact g3 m q hml e
   ·obtain rfl:m=n:=by omega
    rw [e,fA,decide_eq_false (show ¬ c.bl≤s.day by omega)] at h
    cases h
  ·simp only [uB,decide_eq_false_iff_not] at h
   obtain ⟨st,sv,-⟩:=jf hc LU h0 h1 (by omega)
   refine aq.az st ?_
   refine aq.ite (fun _ => ?_) (fun h=>by cases h)
   refine aq.az (xt (by simp only [uI];omega)) (aq.some ⟨by simp;omega,fun y hy => ?_,fun m hm hml e => ?_⟩)
   ·rcases List.mem_append.1 hy with hy | hy
    ·exact g2 y hy
    ·rw [uD.1 hy];exact sv
   ·rcases ur m n with q | q
    ·exact List.mem_append_left _ (g3 m q hml e)
    ·obtain rfl:m=n:=by omega
     rw [e]
     simp
 rintro _ ⟨nx,rfl,g1,g2,g3⟩
 simp only [ul]
 refine aq.ite (fun h => ?_) (fun _ => ?_)
 ·have h:=beq_iff_eq.1 h
  rw [List.eq_nil_of_length_eq_zero (by omega:nx.length=0)] at g3
  cases g3
 refine aq.bind (WL hc hv hp g2 (by omega)) ?_
 rintro ⟨r,e⟩ (⟨h,_⟩ | ⟨h,h1,h2,h3,h4⟩)<;>simp only at h<;>subst h
 ·exact aq.some (.inl rfl)
 ·exact aq.some (.inr ⟨rfl,rfl,⟨h1,h2,h4⟩,h3 _ g3⟩)
theorem zhB (hc:c.Ok) (hst:qy c=some (s0,0)) (hv:VS c s0) (ht:cT c Any s0 l) (hl:l.length≤4000) (hp:0≤p∧p < c.aR) :
  aq (vF c p (vw c p s0 l l.length)) (fun r=>r.2=3∨(r.2=0∧r.1.zw=p∧gZ c p r.1.states∧cB c s0 l∈r.1.states)):=by
 have hvl:=EX (c:=c) (p:=p) (s0:=s0) (l:=l) l.length
 unfold vF
 refine aq.bind (zhz hc hst hv hp) ?_
 rintro ⟨⟨b1,b2⟩,e⟩ (h | ⟨h,h2,h3,h4⟩)<;>simp only at h<;>subst h
 ·refine aq.ite (fun h=>by cases h) (fun _=>aq.some (.inl rfl))
 simp only at h2 h3 h4
 subst h2
 refine aq.ite (fun _ => ?_) (fun h=>by cases h)
 refine aq.ite (fun h=>by have:=of_decide_eq_true h;omega) (fun _ => ?_)
 refine aq.bind (P:=fun o:(Int×List ak) ⊕ Int=>o=.inr 3∨∃ A,o=.inl (b1,A)∧gZ c b1 A∧cB c s0 l∈A)
  (aq.cP (fun k b=>∃ A n,b=(b1,A)∧gZ c b1 A∧n≤l.length∧(vw c b1 s0 l n).length=k∧cB c s0 (l.take n)∈A) (by omega) ⟨b2,0,rfl,h3,Nat.zero_le _,rfl,h4⟩ (fun k b hk hb => ?_) (fun b hb => ?_)) ?_
 ·obtain ⟨A,n,rfl,g1,g2,g3,g4⟩:=hb
  obtain ⟨m,hm,m1,m2,m3⟩:=LQ hc hv ht g1.tW (l.length - n) n (by omega) g4 (by omega)
  have eg:l[m]?.getD 0=l[m]:=by rw [ua hm];rfl
  have e1:vw c b1 s0 l (m+1)=vw c b1 s0 l n++[l[m]]:=by rw [vw,eg,m3,m1];rfl
  obtain ⟨t,e2⟩:=EY (c:=c) (p:=b1) (s0:=s0) (l:=l) (m+1) (l.length - (m+1))
  rw [show m+1+(l.length - (m+1))=l.length by omega,e1] at e2
  have e3:(vw c b1 s0 l l.length)[k]?=some l[m]:=by rw [e2,uT,←g3];simp
  refine aq.az (zq e3) ?_
  obtain ⟨a1,a2,a3,_⟩:=ht.step m hm
  refine aq.bind (zhA hc hv.cv hp g1 m2 a2 a3 a1 m3) ?_
  rintro ⟨⟨q1,q2⟩,e⟩ (h | ⟨h,f2,f3,f4⟩)<;>simp only at h<;>subst h
  ·refine aq.ite (fun h=>by cases h) (fun _=>aq.some (.inl rfl))
  ·simp only at f2 f3 f4
   subst f2
   refine aq.ite (fun _=>aq.some ⟨q2,m+1,rfl,f3,by omega,by rw [e1];simp [g3],?_⟩) (fun h=>by cases h)
   rw [uh hm,xc]
   exact f4
 ·obtain ⟨A,n,rfl,g1,g2,g3,g4⟩:=hb
  exact .inr ⟨A,rfl,g1,LR hc hv ht g1.tW (l.length - n) n (by omega) g4 g3⟩
 rintro _ (rfl | ⟨A,rfl,g1,g2⟩)
 ·exact aq.some (.inl rfl)
 ·exact aq.some (.inr ⟨rfl,rfl,g1,g2⟩)
theorem zfy (hc:c.Ok) {o:Int} {A:List ak} (hA:gZ c o A) (ho:0≤o∧o < c.aR) (hp:0≤p∧p < c.aR) {s:ak} (hs:s∈A) (hl:qa c s p=false):aq (ZO c {zw:=o,states:=A} p) (fun r=>r≠3):=by
 have hlen:=hA.len
 obtain ⟨q,hq,eq⟩:=ud hs
 have Ci:∀ y∈A,yI c y p=some (qa c y p):=fun y hy=>zi7 hc (hA.vs y hy) hp.1 hp.2
 unfold ZO
 dsimp only
 refine aq.az (v:=false) ?_ ?_
 ·refine aq.eq ?_
  refine aq.az (v:=true) ?_ ?_
  ·refine aq.eq ?_
   unfold JF
   dsimp only
   refine aq.az (v:=false) ?_ ?_
   ·show (bif decide (o < 0) then some true else (bif decide (c.aR≤o) then some true else (bif ((A.length:Int) == 0) then some true else some (decide (300 < (A.length:Int))))))=some false
    rw [decide_eq_false (show ¬ o < 0 by omega),decide_eq_false (show ¬ c.aR≤o by omega),beq_eq_false_iff_ne.2 (show (A.length:Int)≠0 by omega),decide_eq_false (show ¬ 300 < (A.length:Int) by omega)]
    rfl
   refine aq.ite (fun h=>by cases h) (fun _ => ?_)
   refine aq.bind (P:=fun o:Unit ⊕ Unit=>o=.inl ()) (aq.cP (fun _ _=>True) (by omega) trivial (fun k _ hk _ => ?_) (fun _ _=>rfl)) ?_
   ·refine aq.az (zq (ua hk)) ?_
    refine aq.az (wm c _ hc) ?_
    rw [ZS (hA.vs _ (uc hk))]
    exact aq.some trivial
   ·rintro _ rfl
    exact aq.some rfl
  ·refine aq.ite (fun _ => ?_) (fun h=>by cases h)
   rw [decide_eq_false (show ¬ p < 0 by omega),decide_eq_false (show ¬ c.aR≤p by omega)]
   exact aq.some rfl
 refine aq.ite (fun h=>by cases h) (fun _ => ?_)
 refine aq.bind (P:=fun r:Int=>r≠3) ?_ (fun r h=>aq.some h)
 have h0:0 < A.length:=by omega
 unfold Yv
 refine aq.az (zq (i:=0) (ua h0)) ?_
 refine aq.az (v:=if qa c A[0] p then 3 else 2) ?_ ?_
 ·unfold Ys
  rw [Ci _ (uc h0)]
  cases qa c A[0] p<;>rfl
 refine aq.az (v:=A.drop 1) (by unfold yr;rw [if_pos ⟨by omega,by omega,by omega⟩];simp) ?_
 refine aq.bind (P:=fun o:Unit ⊕ Unit=>o=.inr ()∨(o=.inl ()∧qa c A[0] p=false)) (aq.cP (fun n _=>∀ m,m < n+1→∀ hm:m < A.length,qa c A[m] p=qa c A[0] p) (by simp;omega) (fun m hm hml=>by obtain rfl:m=0:=(by omega);rfl) (fun n _ hn h => ?_)
  (fun _ h=>.inr ⟨rfl,by rw [←h q (by simp;omega) hq,eq,hl]⟩)) ?_
 ·have hn1:n+1 < A.length:=by simp at hn;omega
  refine aq.az (zq (e:=A[n+1]) (by rw [uQ,Nat.add_comm,ua hn1])) ?_
  refine aq.az (v:=if qa c A[n+1] p then 3 else 2) ?_ ?_
  ·unfold Yu
   rw [Ci _ (uc hn1)]
   cases qa c A[n+1] p<;>rfl
  refine aq.ite (fun e=>aq.some fun m hm hml => ?_) (fun _=>aq.some (.inl rfl))
  rcases ur m (n+1) with g | g
  ·exact h m g hml
  ·obtain rfl:m=n+1:=by omega
   have e:=beq_iff_eq.1 e
   cases h1:qa c A[n+1] p<;>cases h2:qa c A[0] p<;>rw [h1,h2] at e<;>first | rfl | (simp at e)
 rintro _ (rfl | ⟨rfl,h⟩)
 ·exact aq.some (by decide)
 ·rw [h]
  exact aq.some (by decide)
end
end
def EZ:ay:={aR:=0,aE:=[],bI:=[],aJ:=[],aA:=[],bl:=0,off:=[]}
def yg (l:List Int) (s:bk):Option bk:=(jE l s.clause).map fun p=>({clause:=p,is:=s.is}:bk)
def JL (c:ay) (l:List Int) (i:Int):Option aS:=(zf c.aA i).bind fun k=>(aM (yg l) k.start).map fun st=>({k with start:=st}:aS)
noncomputable def YH (c:ay) (l:List Int):ay×Int:=
 bif (zI c).1 == 0 then bif wH c.aA.length (-1) l then (match aM (JL c l) l with
  | some ks=>(({c with aA:=ks}:ay),0)
  | none=>(EZ,1)) else (EZ,1) else (EZ,1)
theorem zmR (c:ay) (l:List Int) (ho:c.off.length < 4611686018427387904) (hst:∀ k∈c.aA,k.start.length < 4611686018427387904) (hl:l.length < 4611686018427387904):XA c l=some (YH c l):=by
 unfold XA YH
 rw [Kf c ho hst]
 simp only [aX]
 cases hv:((zI c).1 == 0) with
 | false=>rfl
 | true=>
  have sm:=ql ho (by simpa using hv)
  simp only [cg]
  rw [Ef c.aA.length l hl (-1)]
  simp only [aX]
  cases hi:wH c.aA.length (-1) l with
  | false=>rfl
  | true=>
   obtain ⟨hr,hp⟩:=kD hi
   have hlen:l.length≤400:=by
    have:=ZF hi;have:=sm.aA;omega
   have e1:=sm.aE
   have e2:=sm.bI
   have e3:=sm.aJ
   have e4:=sm.off
   simp only [cg,ul]
   rw [ju (by omega),ju (by omega),ju (by omega),ju (by omega)]
   have hmk:eD 136 (l.length:Int)=some l.length:=by
    unfold eD;rw [if_pos (by omega)];simp
   simp only [aX,hmk]
   rw [HO l (JL c l) _ () (by simp) (by omega) (fun i hi' ks hks=>by
    have hx:=hr l[i] (uc hi')
    obtain ⟨hci,eci⟩:=qE (l:=c.aA) (n:=l[i]) (by omega) (by omega)
    simp only [zV,ua hi',aX,eci,JL]
    have tL:=sm.start _ (uc hci)
    rw [ju (by omega)]
    simp only [aX]
    generalize hk:c.aA[l[i].toNat]=k at tL ⊢
    rw [HO k.start (yg l) k.start () rfl (by omega) (fun i3 LV ks3 E6=>by
     have hg:(ks3++k.start.drop i3)[i3]?=some k.start[i3]:=by
      rw [List.getElem?_append_right (by omega),E6,u6,uQ];simp [LV]
     obtain ⟨r,sG,lg⟩:=QZ l k.start[i3].clause hp hl
     simp only [zF LV,aX,hg,sG,yg]
     cases hpos:jE l k.start[i3].clause with
     | none=>rfl
     | some p=>rw [lg p hpos];rfl)]
    simp only [aX]
    cases hm:aM (yg l) k.start with
    | none=>rfl
    | some st=>
     have Al:=jO hm
     simp only [ul,zF hi',aX,uq]
     have hg:(ks++(List.replicate l.length ({kind:=0,bM:=0,act:=0,need:=0,start:=[],after:=0,br:=0,b9:=false,final:=false,aT:=0,resume:=0,value:=({num:=0,den:=0}:bu),unit:=0,to:=0,bH:=false}:aS)).drop i)[i]?.isSome=true:=by
      simp [hks,hi'];omega
     obtain ⟨z,hz⟩:=Option.isSome_iff_exists.1 hg
     rw [hz]
     simp only [aX]
     rw [uw (by omega)])]
   simp only [aX]
   cases hm:aM (JL c l) l with
   | none=>rfl
   | some ks=>
    simp only [ul]
    first
     | rw [uw (by rw [jO hm];exact uu _)]
     | (unfold dQ;rw [dif_pos (jO hm).symm];rfl)
structure bJ (c:ay) (l:List Int) (ks:List aS):Prop where
 valid:(zI c).1=0
 inc:wH c.aA.length (-1) l=true
 sel:aM (JL c l) l=some ks
theorem bJ.eq {c:ay} {l:List Int} {ks:List aS} (h:bJ c l ks):YH c l=(({c with aA:=ks}:ay),0):=by
 unfold YH
 rw [h.valid,h.inc,h.sel];rfl
theorem LW {c:ay} {l:List Int} {i:Int} {k':aS} (h:JL c l i=some k'):∃ k st,0≤i∧c.aA[i.toNat]?=some k∧aM (yg l) k.start=some st∧k'=({k with start:=st}:aS):=by
 unfold JL at h
 obtain ⟨k,h1,h2⟩:=xh h
 obtain ⟨h3,h4,_⟩:=Xi h1
 rw [uG] at h2
 obtain ⟨st,h5,h6⟩:=h2
 exact ⟨k,st,h3,h4,h5,h6.symm⟩
theorem JM {l:List Int} {s s':bk} (h:yg l s=some s'):∃ p,jE l s.clause=some p∧s'=({clause:=p,is:=s.is}:bk):=by
 unfold yg at h
 rw [uG] at h
 obtain ⟨p,h1,h2⟩:=h
 exact ⟨p,h1,h2.symm⟩
theorem bJ.ok {c:ay} {l:List Int} {ks:List aS} (ho:c.off.length < 4611686018427387904) (h:bJ c l ks):zI ({c with aA:=ks}:ay)=(0,-1):=by
 have sm:=ql ho h.valid
 obtain ⟨v1,v2,v3,_⟩:=wl h.valid
 obtain ⟨hr,hp⟩:=kD h.inc
 have eX:=jO h.sel
 have hlen:=ZF h.inc
 have dZ:=sm.aA
 refine zhe ?_ v2 ?_
 ·simp only [yJ,uB,decide_eq_false_iff_not] at v1 ⊢
  refine ⟨v1.1,v1.2.1,v1.2.2.1,v1.2.2.2.1,v1.2.2.2.2.1,by omega⟩
 ·intro j hj
  have hj:j < ks.length:=hj
  obtain ⟨k',h1,h2⟩:=yx h.sel j l[j] (ua (by omega))
  obtain ⟨k,st,h3,h4,h5,rfl⟩:=LW h1
  have hold:=v3 l[j].toNat (ub.1 h4).1
  simp only [nB,h4] at hold
  simp only [nB,h2]
  simp only [vH,ui] at hold ⊢
  obtain ⟨a1,⟨a2,a3⟩,a4,a5,a6⟩:=hold
  refine ⟨a1,⟨a2,by rw [jO h5];exact a3⟩,?_,a5,a6⟩
  refine uz.2 fun s' hs' => ?_
  obtain ⟨q,hq,e⟩:=ud hs'
  have nN:q < k.start.length:=by rw [←jO h5];exact hq
  obtain ⟨b,h6,h7⟩:=yx h5 q k.start[q] (ua nN)
  rw [ua hq] at h7
  cases h7
  obtain ⟨p,h8,h9⟩:=JM h6
  have hold:=uz.1 a4 k.start[q] (uc nN)
  obtain ⟨p1,p2⟩:=XI h8
  have p3:=(ub.1 p2).1
  rw [←e,h9]
  simp only [Wi,ui,un,decide_eq_false_iff_not,beq_eq_false_iff_ne] at hold ⊢
  refine ⟨by omega,by omega,fun Bx => ?_,hold.2.2.2⟩
  subst Bx
  simp only [um] at p2
  rw [ua (by omega)] at p2
  have p4:=Option.some.inj p2
  exact hold.2.2.1 (by omega)
section
abbrev cp (c:ay) (ks:List aS):ay:={c with aA:=ks}
def gD (P:List Int) (ms:List aj):List aj:=P.map fun i=>ms[i.toNat]?.getD default
def rs (P:List Int) (s:ak):ak:={s with aI:=gD P s.aI}
theorem E7 {a b:ak} (h1:a.day=b.day) (h2:a.aE=b.aE) (h3:a.used=b.used) (h4:a.aI=b.aI):a=b:=by
 cases a;cases b;simp only at h1 h2 h3 h4;subst h1 h2 h3 h4;rfl
theorem Vj {α β:Type} {g:α→Option β} {l:List α} {m:List β} (h:aM g l=some m):(∀ y∈m,∃ x∈l,g x=some y)∧∀ x∈l,∃ y∈m,g x=some y:=by
 have hl:=jO h
 refine ⟨fun y hy => ?_,fun x hx => ?_⟩
 ·obtain ⟨i,hi,rfl⟩:=ud hy
  obtain ⟨b,h1,h2⟩:=yx h i l[i] (ua (by omega))
  rw [ua hi] at h2
  cases h2
  exact ⟨_,uc (by omega),h1⟩
 ·obtain ⟨i,hi,rfl⟩:=ud hx
  obtain ⟨b,h1,h2⟩:=yx h i l[i] (ua hi)
  exact ⟨b,uj h2,h1⟩
theorem zhC {α β:Type} {g:α→Option β} {l:List α} {m:List β} (h:aM g l=some m) {f:β→Bool} {f':α→Bool} (hf:∀ x y,x∈l→g x=some y→f y=f' x):m.all f=l.all f':=by
 obtain ⟨h1,h2⟩:=Vj h
 rw [Bool.eq_iff_iff,uz,uz]
 constructor
 ·intro hm x hx
  obtain ⟨y,hy,e⟩:=h2 x hx
  rw [←hf x y hx e];exact hm y hy
 ·intro hm y hy
  obtain ⟨x,hx,e⟩:=h1 y hy
  rw [hf x y hx e];exact hm x hx
structure Pos (c:ay) (P:List Int) (ks:List aS):Prop where
 len:ks.length=P.length
 gJ:∀ x∈P,0≤x∧x < c.aA.length
 at_:∀ (p:Nat),p < P.length→∃ (i:Nat) (k:aS) (st:List bk),P[p]?=some (i:Int)∧c.aA[i]?=some k∧aM (yg P) k.start=some st∧ks[p]?=some ({k with start:=st}:aS)
theorem bJ.pos {c:ay} {P:List Int} {ks:List aS} (h:bJ c P ks):Pos c P ks:=by
 obtain ⟨hr,hp⟩:=kD h.inc
 refine ⟨jO h.sel,fun x hx=>by have:=hr x hx;omega,fun p hp => ?_⟩
 obtain ⟨k',h1,h2⟩:=yx h.sel p P[p] (ua hp)
 obtain ⟨k,st,h3,h4,h5,rfl⟩:=LW h1
 refine ⟨P[p].toNat,k,st,?_,h4,h5,h2⟩
 rw [ua hp];congr 1;omega
section
variable {c:ay} {P:List Int} {ks:List aS}
theorem Wn (ms:List aj):(gD P ms).length=P.length:=by simp [gD]
theorem xW {ms:List aj} {p i:Nat} (hp:P[p]?=some (i:Int)) (hi:i < ms.length):(gD P ms)[p]?=ms[i]?:=by
 unfold gD
 rw [ut,hp]
 simp [hi]
theorem XO (h:Pos c P ks) {ms:List aj} (hl:ms.length=c.aA.length) {x y:bk} (hx:yg P x=some y):jF (gD P ms) y=jF ms x∧y.is=x.is∧P[y.clause.toNat]?=some (x.clause.toNat:Int):=by
 obtain ⟨q,h1,rfl⟩:=JM hx
 obtain ⟨q0,q1⟩:=XI h1
 have hr:=h.gJ _ (uj q1)
 have e:x.clause=(x.clause.toNat:Int):=by omega
 have q2:P[q.toNat]?=some (x.clause.toNat:Int):=by rw [q1];congr 1
 refine ⟨?_,rfl,q2⟩
 have e1:zf (gD P ms) q=zf ms x.clause:=by
  unfold zf
  rw [if_pos q0,if_pos hr.1,xW q2 (by omega)]
 unfold jF
 simp only [e1]
theorem zfz (h:Pos c P ks) {ms:List aj} (hl:ms.length=c.aA.length) {p i:Nat} (hp:P[p]?=some (i:Int)):jv ks (gD P ms) p=jv c.aA ms i:=by
 obtain ⟨hlt,_⟩:=ub.1 hp
 obtain ⟨i',k,st,h1,h2,h3,h4⟩:=h.at_ p hlt
 rw [hp] at h1
 have e:i=i':=by have:=Option.some.inj h1;omega
 subst e
 have hi:=(ub.1 h2).1
 unfold jv
 rw [h4,h2,xW hp (by omega),ua (by omega:i < ms.length)]
 simp only
 rw [zhC h3 (f':=jF ms) fun x y _ hxy=>(XO h hl hxy).1]
theorem Qq (h:Pos c P ks) {ms:List aj} (hl:ms.length=c.aA.length):∀ (n p i:Nat),P[p]?=some (i:Int)→(ZT ks (gD P ms) n p↔ZT c.aA ms n i)
 | 0,p,i,hp=>Iff.rfl
 | n+1,p,i,hp=>by
  obtain ⟨hlt,_⟩:=ub.1 hp
  obtain ⟨i',k,st,h1,h2,h3,h4⟩:=h.at_ p hlt
  rw [hp] at h1
  have e:i=i':=by have:=Option.some.inj h1;omega
  subst e
  have hi:=(ub.1 h2).1
  obtain ⟨m1,m2⟩:=Vj h3
  simp only [ZT,h4,h2,xW hp (by omega:i < ms.length)]
  constructor
  ·rintro ⟨k',m,e1,e2,e3,e4,e5⟩
   cases e1
   refine ⟨k,m,rfl,e2,e3,e4,fun x hx => ?_⟩
   obtain ⟨y,hy,hxy⟩:=m2 x hx
   obtain ⟨g1,g2,g3⟩:=XO h hl hxy
   rcases e5 y hy with g | ⟨g,g'⟩
   ·exact .inl (by rw [←g1];exact g)
   ·exact .inr ⟨by rw [←g2];exact g,(Qq h hl n _ _ g3).1 g'⟩
  ·rintro ⟨k',m,e1,e2,e3,e4,e5⟩
   cases e1
   refine ⟨_,m,rfl,e2,e3,e4,fun y hy => ?_⟩
   obtain ⟨x,hx,hxy⟩:=m1 y hy
   obtain ⟨g1,g2,g3⟩:=XO h hl hxy
   rcases e5 x hx with g | ⟨g,g'⟩
   ·exact .inl (by rw [g1];exact g)
   ·exact .inr ⟨by rw [g2];exact g,(Qq h hl n _ _ g3).2 g'⟩
theorem zjd (h:Pos c P ks) {ms:List aj} (hl:ms.length=c.aA.length) {p i:Nat} (hp:P[p]?=some (i:Int)):pF ks (gD P ms) p↔pF c.aA ms i:=
 ⟨fun ⟨n,hn⟩=>⟨n,(Qq h hl n p i hp).1 hn⟩,fun ⟨n,hn⟩=>⟨n,(Qq h hl n p i hp).2 hn⟩⟩
theorem YI (h:Pos c P ks) {hs:List Int} {ms r r':List aj} (hl:ms.length=c.aA.length) (S:dH c hs ms r) (S':dH (cp c ks) hs (gD P ms) r'):r'=gD P r:=by
 have hl':r'.length=P.length:=S'.ok.1.trans h.len
 refine uo fun p => ?_
 by_cases hp:p < P.length
 ·obtain ⟨i,k,st,h1,h2,h3,h4⟩:=h.at_ p hp
  have hi:=(ub.1 h2).1
  have him:i < ms.length:=by omega
  have hm:=ua him
  have hr:=S.ok.1
  rw [xW h1 (by omega:i < r.length)]
  have hs1:=S.IQ i k _ h2 hm
  have hs2:=S'.IQ p _ ms[i] h4 (by rw [xW h1 him];exact hm)
  have e:=zjd h hl h1
  rcases hs1 with ⟨a1,a2⟩ | ⟨a1,a2⟩
  ·rcases hs2 with ⟨b1,b2⟩ | ⟨b1,b2⟩
   ·rw [a2,b2]
   ·exact absurd (e.1 b1) a1
  ·rcases hs2 with ⟨b1,b2⟩ | ⟨b1,b2⟩
   ·exact absurd (e.2 a1) b1
   ·rw [a2,b2];rfl
 ·rw [ug (by omega),ug (by rw [Wn];omega)]
theorem km (h:Pos c P ks) (F:aS→aj→aj) (hF:∀ (k:aS) (st:List bk) (m:aj),F ({k with start:=st}:aS) m=F k m) {ms:List aj} (hl:ms.length=c.aA.length):gD P (ms.mapIdx (eR c F))=(gD P ms).mapIdx (eR (cp c ks) F):=by
 refine uo fun p => ?_
 rw [uk]
 by_cases hp:p < P.length
 ·obtain ⟨i,k,st,h1,h2,h3,h4⟩:=h.at_ p hp
  have hi:=(ub.1 h2).1
  rw [xW h1 (by rw [ux];omega),xW h1 (by omega:i < ms.length),uk,ua (by omega:i < ms.length)]
  simp only [uq,eR,h2]
  have h4':(cp c ks).aA[p]?=some ({k with start:=st}:aS):=h4
  rw [h4']
  simp only [hF]
 ·rw [ug (by rw [Wn];omega),ug (by rw [Wn];omega)];rfl
theorem zje (h:Pos c P ks) (act:Int) (a:bq) (hs:List Int) {ms:List aj} (hl:ms.length=c.aA.length):gD P (iq c act a hs ms)=iq (cp c ks) act a hs (gD P ms):=by
 have e1:gD P (eN c act ms)=eN (cp c ks) act (gD P ms):=km h _ (fun k st m=>rfl) hl
 have l1:(eN c act ms).length=c.aA.length:=by unfold eN;rw [ux];exact hl
 have e2:gD P (ec c act a hs ms)=ec (cp c ks) act a hs (gD P ms):=by
  unfold ec
  rw [km h _ (fun k st m=>rfl) l1,e1]
 have l2:(ec c act a hs ms).length=c.aA.length:=by unfold ec;rw [ux];exact l1
 unfold iq
 cases (a.kind == 3) with
 | false=>exact e2
 | true=>
  simp only [cg]
  rw [km h _ (fun k st m=>rfl) l2,e2]
theorem zkK (act:Int) (a:bq) (hs:List Int) {ms:List aj}:(iq c act a hs ms).length=ms.length:=by
 unfold iq ec eN
 cases (a.kind == 3)<;>simp
theorem bJ.By (hc:c.Ok) (h:bJ c P ks):(cp c ks).Ok:=by
 have hpos:=h.pos
 have sm:=ql (hc.off.lt (by omega)) h.valid
 have dZ:=sm.aA
 have hlen:=ZF h.inc
 refine {hc with aA:=⟨?_,fun k' hk' => ?_⟩}
 ·have:=hpos.len
  have hr:(54400:Nat)≤reachBytes:=by decide
  have:ks.length≤400:=by omega
  have:ks.length*136≤54400:=by omega
  first | omega | exact Nat.le_trans (by omega) hr
 ·obtain ⟨p,hp,rfl⟩:=ud hk'
  obtain ⟨i,k,st,h1,h2,h3,h4⟩:=hpos.at_ p (by rw [←hpos.len];exact hp)
  rw [ua hp] at h4
  rw [Option.some.inj h4]
  have hk:=hc.aA.2 k (uj h2)
  have hs8:=sm.start k (uj h2)
  refine {hk with start:=⟨?_,fun y hy => ?_⟩}
  ·rw [jO h3];exact hk.start.1
  ·obtain ⟨x,hx,hxy⟩:=(Vj h3).1 y hy
   obtain ⟨q,g1,rfl⟩:=JM hxy
   obtain ⟨q0,q1⟩:=XI g1
   have hq:=(ub.1 q1).1
   refine ⟨?_,(hk.start.2 x hx).is⟩
   unfold dW
   have e1:IntKind.i64.min = -9223372036854775808:=by decide
   have e2:IntKind.i64.max=9223372036854775807:=by decide
   rw [e1,e2]
   simp only
   omega
theorem Kp (hc:c.Ok) (h:bJ c P ks) {s:ak} (hv:VS c s):VS (cp c ks) (rs P s):=by
 have hp:=h.pos
 refine ⟨by rw [h.ok (hc.off.lt (by omega))],hv.day,hv.lh,hv.lu,?_,hv.hold,hv.used,fun p k' m hk hm => ?_,fun p hlt => ?_⟩
 ·show (gD P s.aI).length=ks.length
  rw [Wn,hp.len]
 ·have hlt:p < ks.length:=(ub.1 hk).1
  obtain ⟨i,k,st,h1,h2,h3,h4⟩:=hp.at_ p (by rw [←hp.len];exact hlt)
  have hk:ks[p]?=some k':=hk
  rw [h4] at hk
  cases hk
  have hi:=(ub.1 h2).1
  have sY:=hv.lm
  have hm:(gD P s.aI)[p]?=some m:=hm
  rw [xW h1 (by omega)] at hm
  exact hv.tQ i k m h2 hm
 ·have hlt:p < ks.length:=hlt
  obtain ⟨i,k,st,h1,h2,h3,h4⟩:=hp.at_ p (by rw [←hp.len];exact hlt)
  show jv ks (gD P s.aI) p=false
  rw [zfz hp hv.lm h1]
  exact hv.Be i (ub.1 h2).1
theorem kN (hc:c.Ok) (h:bJ c P ks) {s:ak} (hv:VS c s) {a:Int} (h1 : -1≤a) (h2:a < c.aJ.length) (hd:s.day < c.bl):zO (cp c ks) (rs P s) a=rs P (zO c s a):=by
 have hp:=h.pos
 obtain ⟨_,_,t1,a1⟩:=jf hc hv h1 h2 hd
 obtain ⟨_,_,t2,a2⟩:=jf (h.By hc) (Kp hc h hv) h1 h2 hd
 rcases Int.lt_or_le a 0 with hneg | hpos
 ·obtain ⟨x1,x2,x3,x4⟩:=t1 (by omega)
  obtain ⟨y1,y2,y3,y4⟩:=t2 (by omega)
  refine E7 (y1.trans (by rw [show (rs P (zO c s a)).day=(zO c s a).day from rfl,x1];rfl)) (y2.trans x2.symm) (y3.trans x3.symm) ?_
  refine YI hp (by rw [ux];exact hv.lm) x4 ?_
  have e:=km hp (ki (jE c.off s.day).isSome) (fun k st m=>rfl) hv.lm
  rw [e]
  exact y4
 ·have ha:c.aJ[a.toNat]?=some c.aJ[a.toNat]:=ua (by omega)
  have g1:=a1 a.toNat _ (by omega) ha
  have g2:=a2 a.toNat _ (by omega) ha
  rcases g1 with ⟨x1,x2,x3⟩ | ⟨x1,x2,x3,x4,x5⟩
  ·rcases g2 with ⟨y1,y2,y3⟩ | ⟨y1,_⟩
   ·rw [x3,y3]
   ·have y1:c.aJ[a.toNat].kind=1∨s.used[a.toNat]?=some false:=y1
    rw [x2] at y1
    simp [x1] at y1
  ·rcases g2 with ⟨y1,y2,y3⟩ | ⟨y1,y2,y3,y4,y5⟩
   ·have y2:s.used[a.toNat]?=some true:=y2
    rw [y2] at x1
    simp [y1] at x1
   ·refine E7 (y2.trans x2.symm) (y3.trans x3.symm) (y4.trans x4.symm) ?_
    refine YI hp (by rw [zkK];exact hv.lm) x5 ?_
    rw [zje hp _ _ _ hv.lm]
    exact y5
end
end
def XP (f:Nat→Nat):Nat→Nat
 | 0=>0
 | n+1=>XP f n+f n
theorem Kq {f g:Nat→Nat}:∀ {n:Nat},(∀ i,i < n→f i≤g i)→XP f n≤XP g n
 | 0,_=>uu _
 | n+1,h=>by
  have:=Kq (f:=f) (g:=g) (n:=n) fun i hi=>h i (by omega)
  have:=h n (by omega)
  simp only [XP];omega
theorem LX {f g:Nat→Nat}:∀ {n:Nat},(∀ i,i < n→f i≤g i)→∀ i,i < n→f i < g i→XP f n < XP g n
 | 0,_,i,hi,_=>by omega
 | n+1,h,i,hi,hlt=>by
  have h1:=h n (by omega)
  simp only [XP]
  by_cases hin:i < n
  ·have:=LX (f:=f) (g:=g) (n:=n) (fun i hi=>h i (by omega)) i hin hlt
   omega
  ·obtain rfl:i=n:=by omega
   have:=Kq (f:=f) (g:=g) (n:=i) fun j hj=>h j (by omega)
   omega
def iL (m:aj):Nat:=bif m.aN == 0 then 9 else bif qM m then (9 - m.got).toNat else 0
def Vk (ms:List aj) (i:Nat):Nat:=match ms[i]? with | some m=>iL m | none=>0
def CL (us:List Bool):Nat:=us.countP (fun u=>!u)
def todo (c:ay) (s:ak):Nat:=XP (Vk s.aI) c.aA.length+CL s.used
theorem zjf {c:ay} {i:Nat} {k:aS} {m:aj} {act bG:Int} (kv:KV c i k) (h:jw c.aR k m=true):kP act bG k m=m∨iL (kP act bG k m) < iL m:=by
 unfold kP
 cases hr:qM m with
 | false=>exact .inl rfl
 | true=>
  obtain ⟨rv,hb,hs⟩:=wF kv h hr
  have h0:(m.aN == 0)=false:=beq_eq_false_iff_ne.2 (by omega)
  have hp:iL m=(9 - m.got).toNat:=by simp only [iL,h0,hr,ck,cg]
  have hg:=rv.got
  have hn:=kv.need
  have hend:∀ (st:Int) (m':aj),st=3∨st=4→iL (ZU st m')=0:=by
   intro st m' hst
   rcases hst with rfl | rfl<;>rfl
  simp only [cg]
  cases h1:(k.act == act&&(k.kind == 4||m.bw == bG)) with
  | false=>exact .inl rfl
  | true=>
   simp only [cg,CA]
   cases h2:(k.kind == 1) with
   | true=>
    simp only [cg,Cz]
    refine .inr ?_
    cases h3:(m.got+1 == k.need) with
    | true=>simp only [cg];rw [hend 3 _ (.inl rfl),hp];omega
    | false=>
     have:iL {m with got:=m.got+1}=(9 - (m.got+1)).toNat:=by
      have hr':qM {m with got:=m.got+1}=true:=hr
      simp only [iL,h0,hr',ck,cg]
     simp only [ck];rw [this,hp];omega
   | false=>
    simp only [ck]
    cases h3:(k.kind == 2) with
    | true=>
     simp only [cg]
     cases m.bN with
     | true=>exact .inl rfl
     | false=>refine .inr ?_;simp only [ck];rw [hend 4 _ (.inr rfl),hp];omega
    | false=>refine .inr ?_;simp only [ck];rw [hend 3 _ (.inl rfl),hp];omega
theorem zhD (a:bq) (k:aS) (m:aj):iL (Za a k m)=iL m:=by
 unfold Za
 cases hr:qM m with
 | false=>rfl
 | true=>
  simp only [cg]
  cases (!(k.kind == 4)&&k.bM == a.dh) with
  | false=>rfl
  | true=>rfl
theorem zjg {c:ay} {s r:ak} {j:Nat} {a:bq} (hc:c.Ok) (hv:VS c s) (hr:VS c r) (ha:c.aJ[j]?=some a) (oO:a.bM ≠ -1) (h:EB c j a s r) (hne:r≠s):todo c r < todo c s:=by
 have ho:=hc.off.lt (by omega:0 < 8)
 have sY:=hv.lm
 have hlr:=hr.lm
 rcases h with ⟨_,_,e⟩ | ⟨hk,gB,A4,LY,hst⟩
 ·exact absurd e hne
 ·have s9:∀ (i:Nat) (k:aS) (m:aj),c.aA[i]?=some k→wO j k m=m:=by
   intro i k m hk
   have kv:=xI ho hv.cv hk
   have nat_ne:∀ x:Int,vo c.aJ x=true→(j:Int)≠x:=by
    intro x hx e
    subst e
    simp only [vo,zq ha,ui,beq_iff_eq] at hx
    exact oO hx.2
   have hp:(j:Int)≠k.aT∧(j:Int)≠k.resume:=by
    rcases kv.aT with h | h
    ·omega
    ·exact ⟨nat_ne _ h.1,nat_ne _ h.2⟩
   unfold wO
   rw [beq_eq_false_iff_ne.2 hp.1,beq_eq_false_iff_ne.2 hp.2]
   cases qM m<;>rfl
  have h1:eN c j s.aI=s.aI:=by
   refine uo fun i => ?_
   unfold eN
   rw [uk]
   cases hi:s.aI[i]? with
   | none=>rfl
   | some m=>
    have:=(ub.1 hi).1
    have hk:=ua (show i < c.aA.length by omega)
    simp only [uq,eR,hk]
    rw [s9 i _ m hk]
  have Bz:∀ (i:Nat) (m:aj),s.aI[i]?=some m→∃ m2,(ec c j a s.aE s.aI)[i]?=some m2∧(m2=m∨iL m2 < iL m):=by
   intro i m hi
   have:=(ub.1 hi).1
   have hk:=ua (show i < c.aA.length by omega)
   refine ⟨kP j (jT s.aE a) c.aA[i] m,?_,zjf (xI ho hv.cv hk) (hv.tQ i _ m hk hi)⟩
   unfold ec
   rw [h1,uk,hi]
   simp only [uq,eR,hk]
  have E8:∀ (i:Nat) (m:aj),s.aI[i]?=some m→∃ m3,(iq c j a s.aE s.aI)[i]?=some m3∧iL m3≤iL m:=by
   intro i m hi
   obtain ⟨m2,h2,h3⟩:=Bz i m hi
   have hle:iL m2≤iL m:=by rcases h3 with rfl | h;exact uu _;omega
   unfold iq
   cases a.kind == 3 with
   | false=>exact ⟨m2,h2,hle⟩
   | true=>
    have:=(ub.1 hi).1
    have hk:=ua (show i < c.aA.length by omega)
    refine ⟨Za a c.aA[i] m2,?_,by rw [zhD];exact hle⟩
    simp only [cg]
    rw [uk,h2]
    simp only [uq,eR,hk]
  have hstart:∀ (i:Nat) (m3:aj),(iq c j a s.aE s.aI)[i]?=some m3→i < c.aA.length→Vk r.aI i=iL m3:=by
   intro i m3 h3 hi
   have hi':=ua (show i < r.aI.length by omega)
   simp only [Vk,hi']
   rcases hst.rel i m3 _ h3 hi' with h | ⟨h0,k,b,_,h⟩
   ·rw [h]
   ·rw [h]
    have:(m3.aN == 0)=true:=beq_iff_eq.2 h0
    simp only [iL,this,cg];rfl
  have hle:∀ i,i < c.aA.length→Vk r.aI i≤Vk s.aI i:=by
   intro i hi
   have hi':=ua (show i < s.aI.length by omega)
   obtain ⟨m3,h3,h4⟩:=E8 i _ hi'
   rw [hstart i m3 h3 hi]
   simp only [Vk,hi'];exact h4
  by_cases E9:a.kind=1
  ·
   have hk1:(a.kind == 1)=true:=beq_iff_eq.2 E9
   have gA:(a.kind == 3)=false:=beq_eq_false_iff_ne.2 (by omega)
   have e1:r.aE=s.aE:=by rw [A4];simp only [hs3,hk1,cg]
   have e2:r.used=s.used:=by rw [LY];simp only [lG,hk1,cg]
   have e3:iq c j a s.aE s.aI=ec c j a s.aE s.aI:=by simp only [iq,gA,ck]
   by_cases hall:∀ (i:Nat) (m:aj),s.aI[i]?=some m→(ec c j a s.aE s.aI)[i]?=some m
   ·exfalso
    have e4:ec c j a s.aE s.aI=s.aI:=by
     refine uo fun i => ?_
     cases hi:s.aI[i]? with
     | some m=>exact hall i m hi
     | none=>
      unfold ec
      rw [h1,uk,hi];rfl
    have e5:r.aI=s.aI:=by
     rw [e3,e4] at hst
     exact hst.same hv.Be
    apply hne
    cases r;cases s
    simp only at gB e1 e2 e5
    subst gB;subst e1;subst e2;subst e5;rfl
   ·have:∃ (i:Nat) (m:aj),s.aI[i]?=some m∧¬ (ec c j a s.aE s.aI)[i]?=some m:=by
     apply Classical.byContradiction
     intro hn
     apply hall
     intro i m hi
     apply Classical.byContradiction
     intro h2
     exact hn ⟨i,m,hi,h2⟩
    obtain ⟨i,m,hi,h2⟩:=this
    have hi':=(ub.1 hi).1
    obtain ⟨m2,h3,h4⟩:=Bz i m hi
    have hlt:iL m2 < iL m:=by
     rcases h4 with rfl | h
     ·exact absurd h3 h2
     ·exact h
    have:=LX hle i (by omega) (by
     rw [hstart i m2 (by rw [e3];exact h3) (by omega)]
     simp only [Vk,hi];exact hlt)
    unfold todo;rw [e2];omega
  ·have hk1:(a.kind == 1)=false:=beq_eq_false_iff_ne.2 E9
   have hfree:=hk.resolve_left E9
   have:=Kq hle
   have hf:CL r.used < CL s.used:=by
    rw [LY]
    simp only [lG,hk1,ck]
    obtain ⟨hj,e⟩:=ub.1 hfree
    unfold CL
    rw [List.countP_set hj]
    have hp:0 < s.used.countP (fun u=>!u):=List.countP_pos_iff.2 ⟨_,uc hj,by simp [e]⟩
    simp only [e]
    simp
    omega
   unfold todo;omega
def up (above:List Int) (i:Nat):Nat:=(above.getD i 0).toNat
structure UF (n:Nat) (above:List Int):Prop where
 len:above.length=400
 le:∀ i,i < n→0≤above.getD i 0∧above.getD i 0≤(i:Int)
 l9:n≤400
def rt (above:List Int):Nat→Nat→Nat
 | 0,i=>i
 | k+1,i=>if up above i=i then i else rt above k (up above i)
def root (above:List Int) (i:Nat):Nat:=rt above (i+1) i
theorem UF.iM {n:Nat} {above:List Int} (h:UF n above) {i:Nat} (hi:i < n):up above i≤i:=by
 have:=h.le i hi;unfold up;omega
theorem UF.rt_eq {n:Nat} {above:List Int} (h:UF n above):∀ (k k' i:Nat),i < n→i < k→i < k'→rt above k i=rt above k' i
 | 0,_,i,_,h1,_=>by omega
 | _,0,i,_,_,h1=>by omega
 | k+1,k'+1,i,hi,h1,h2=>by
  simp only [rt]
  split
  ·rfl
  ·have:=h.iM hi
   exact h.rt_eq k k' (up above i) (by omega) (by omega) (by omega)
theorem UF.root_eq {n:Nat} {above:List Int} (h:UF n above) {i:Nat} (hi:i < n):root above i=if up above i=i then i else root above (up above i):=by
 show (if up above i=i then i else rt above i (up above i))=_
 have hu:=h.iM hi
 split
 ·rfl
 ·exact h.rt_eq i (up above i+1) (up above i) (by omega) (by omega) (by omega)
theorem UF.fJ {n:Nat} {above:List Int} (h:UF n above):∀ (i:Nat),i < n→root above i≤i:=by
 intro i
 induction i using uC with
 | _ i ih=>
  intro hi
  rw [h.root_eq hi]
  have hu:=h.iM hi
  split
  ·exact uu _
  ·have:=ih (up above i) (by omega) (by omega);omega
theorem UF.iZ {n:Nat} {above:List Int} (h:UF n above):∀ (i:Nat),i < n→up above (root above i)=root above i:=by
 intro i
 induction i using uC with
 | _ i ih=>
  intro hi
  rw [h.root_eq hi]
  have hu:=h.iM hi
  split
  ·assumption
  ·exact ih (up above i) (by omega) (by omega)
theorem UF.fe {n:Nat} {above:List Int} (h:UF n above) {i:Nat} (hi:i < n):root above (root above i)=root above i:=by
 have h1:=h.iZ i hi
 have h2:=h.fJ i hi
 rw [h.root_eq (i:=root above i) (by omega),if_pos h1]
theorem LZ {above:List Int} {k i:Nat} {v:Int} (hk:k < above.length):up (above.set k v) i=if i=k then v.toNat else up above i:=by
 unfold up
 rw [ue,ue,uE]
 by_cases h:k=i
 ·subst h;simp [hk]
 ·rw [if_neg h,if_neg (fun e=>h e.symm)]
theorem UF.set {n:Nat} {above:List Int} (h:UF n above) {k:Nat} {v:Int} (hv:0≤v) (sj:v≤k):UF n (above.set k v):=by
 refine ⟨by simp [h.len],fun i hi => ?_,h.l9⟩
 rw [ue,uE]
 by_cases e:k=i
 ·subst e
  rw [if_pos rfl]
  have:=h.l9
  rw [if_pos (by rw [h.len];omega)]
  exact ⟨hv,sj⟩
 ·rw [if_neg e,←ue]
  exact h.le i hi
theorem UF.oV {n:Nat} {above:List Int} (h:UF n above) {k:Nat} (hk:k < n):UF n (above.set k (root above k:Int))∧∀ i,i < n→root (above.set k (root above k:Int)) i=root above i:=by
 have hle:=h.fJ k hk
 have h':UF n (above.set k (root above k:Int)):=h.set (by omega) (by omega)
 refine ⟨h',fun i => ?_⟩
 have eX:k < above.length:=by rw [h.len];have:=h.l9;omega
 induction i using uC with
 | _ i ih=>
  intro hi
  rw [h'.root_eq hi,LZ eX]
  by_cases e:i=k
  ·subst e
   rw [if_pos rfl]
   simp only [um]
   split
   ·rename_i e2;exact e2.symm
   ·have:root above i < i:=by omega
    rw [ih (root above i) this (by omega),h.fe hi]
  ·rw [if_neg e,h.root_eq hi]
   have hu:=h.iM hi
   split
   ·rfl
   ·exact ih (up above i) (by omega) (by omega)
theorem UF.join {n:Nat} {above:List Int} (h:UF n above) {a b:Nat} (ha:a < n) (hb:b≤a) (o8:root above a=a) (hrb:root above b=b):UF n (above.set a (b:Int))∧∀ i,i < n→root (above.set a (b:Int)) i=if root above i=a then b else root above i:=by
 have h':UF n (above.set a (b:Int)):=h.set (by omega) (by omega)
 refine ⟨h',fun i => ?_⟩
 have eX:a < above.length:=by rw [h.len];have:=h.l9;omega
 have hua:up above a=a:=by have:=h.iZ a ha;rw [o8] at this;exact this
 have hub:up above b=b:=by have:=h.iZ b (by omega);rw [hrb] at this;exact this
 induction i using uC with
 | _ i ih=>
  intro hi
  rw [h'.root_eq hi,LZ eX]
  by_cases e:i=a
  ·subst e
   rw [if_pos rfl,o8,if_pos rfl]
   simp only [um]
   split
   ·rename_i e2;exact e2.symm
   ·rw [ih b (by omega) (by omega),hrb]
    split
    ·rfl
    ·rfl
  ·rw [if_neg e]
   have hu:=h.iM hi
   split
   ·rename_i e2
    have:root above i=i:=by rw [h.root_eq hi,if_pos e2]
    rw [this,if_neg e]
   ·rename_i e2
    have:root above i=root above (up above i):=by rw [h.root_eq hi,if_neg e2]
    rw [this]
    exact ih (up above i) (by omega) (by omega)
theorem Zo {above:List Int} {k:Nat} (hk:k < above.length):above[k]?=some (above.getD k 0):=by
 rw [ue,ua hk];rfl
structure nD (n:Nat) (above bR:List Int):Prop where
 uf:UF n bR
 eq:∀ i,i < n→root bR i=root above i
theorem Fa {n:Nat}:∀ (k i:Nat) (above:List Int),UF n above→i < n→i < k→∃ bR,xU k (i:Int) above=some ((root above i:Int),bR)∧nD n above bR
 | 0,i,above,_,_,h=>by omega
 | k+1,i,above,h,hi,hik=>by
  have oW:=h.l9
  have hl:=h.len
  have hle:=h.le i hi
  simp only [xU]
  unfold We
  have e1:zl 400 (i:Int)=some i:=zF (by omega)
  simp only [e1,aX,Zo (show i < above.length by omega)]
  by_cases e:above.getD i 0=(i:Int)
  ·have hb:(above.getD i 0 == (i:Int))=true:=by rw [e];simp
   rw [hb]
   simp only [cg,aX,Zo (show i < above.length by omega)]
   have hr:root above i=i:=by rw [h.root_eq hi,if_pos (by unfold up;omega)]
   exact ⟨above,by rw [hr,e],h,fun _ _=>rfl⟩
  ·have hb:(above.getD i 0 == (i:Int))=false:=beq_eq_false_iff_ne.2 e
   rw [hb]
   simp only [ck,aX]
   have bz:above.getD i 0=(up above i:Int):=by unfold up;omega
   have Fb:up above i < i:=by unfold up;omega
   obtain ⟨a1,h1,h2⟩:=Fa k (up above i) above h (by omega) (by omega)
   have L4:root above i=root above (up above i):=by rw [h.root_eq hi,if_neg (by omega)]
   have fK:=h2.uf.len
   rw [bz,h1]
   simp only [aX,Zo (show i < a1.length by omega)]
   have gh:root a1 i=root above (up above i):=by rw [h2.eq i hi,L4]
   obtain ⟨c1,c2⟩:=h2.uf.oV hi
   rw [gh] at c1 c2
   rw [uv (by omega)]
   simp only [aX]
   exact ⟨_,by rw [L4],c1,fun j hj=>by rw [c2 j hj,h2.eq j hj]⟩
theorem zjh {n i:Nat} {above:List Int} (h:UF n above) (hi:i < n):wd (i:Int) above=xU (i+1) (i:Int) above:=by
 obtain ⟨a1,h1,h2⟩:=Fa (i+1) i above h hi (uU _)
 have key:∀ (k k' i:Nat) (above:List Int),UF n above→i < n→i < k→i < k'→xU k (i:Int) above=xU k' (i:Int) above:=by
  intro k
  induction k with
  | zero=>intro k' i above _ _ h;omega
  | succ k ih=>
   intro k' i above h hi h1 h2
   cases k' with
   | zero=>omega
   | succ k'=>
    have oW:=h.l9
    have hl:=h.len
    have hle:=h.le i hi
    simp only [xU]
    unfold We
    have e1:zl 400 (i:Int)=some i:=zF (by omega)
    simp only [e1,aX,Zo (show i < above.length by omega)]
    cases hb:(above.getD i 0 == (i:Int)) with
    | true=>rfl
    | false=>
     have e:=beq_eq_false_iff_ne.1 hb
     have bz:above.getD i 0=(up above i:Int):=by unfold up;omega
     have Fb:up above i < i:=by unfold up;omega
     simp only [ck]
     rw [bz,ih k' (up above i) above h (by omega) (by omega) (by omega)]
 rw [h1]
 unfold wd
 exact O3 (i+1) fun k' hk=>by rw [key k' (i+1) i above h hi (by omega) (by omega)];exact h1
theorem XQ {n i:Nat} {above:List Int} (h:UF n above) (hi:i < n):∃ bR,wd (i:Int) above=some ((root above i:Int),bR)∧nD n above bR:=by
 rw [zjh h hi]
 exact Fa (i+1) i above h hi (uU _)
theorem zmS {n i j:Nat} {above:List Int} (h:UF n above) (hi:i < n) (hj:j < n):∃ bR,ke (i:Int) (j:Int) above=some bR∧UF n bR∧root bR i=root bR j∧(∀ x y,x < n→y < n→root above x=root above y→root bR x=root bR y)∧∀ x y,x < n→y < n→root bR x=root bR y→root above x=root above y∨((root above x=root above i∨root above x=root above j)∧(root above y=root above i∨root above y=root above j)):=by
 unfold ke
 obtain ⟨a1,e1,s1⟩:=XQ h hi
 obtain ⟨a2,e2,s2⟩:=XQ s1.uf hj
 obtain ⟨a3,e3,s3⟩:=XQ s2.uf hi
 obtain ⟨a4,e4,s4⟩:=XQ s3.uf hj
 have r2:root a1 j=root above j:=s1.eq j hj
 have r3:root a2 i=root above i:=by rw [s2.eq i hi,s1.eq i hi]
 have r4:root a3 j=root above j:=by rw [s3.eq j hj,s2.eq j hj,r2]
 have heq:∀ x,x < n→root a4 x=root above x:=fun x hx=>by rw [s4.eq x hx,s3.eq x hx,s2.eq x hx,s1.eq x hx]
 rw [r2] at e2
 rw [r3] at e3
 rw [r4] at e4
 simp only [e1,aX,e2,e3,e4]
 have hli:=h.fJ i hi
 have hlj:=h.fJ j hj
 have oW:=h.l9
 have RU:=s4.uf.len
 have CM:root a4 (root above i)=root above i:=by rw [heq _ (by omega),h.fe hi]
 have L5:root a4 (root above j)=root above j:=by rw [heq _ (by omega),h.fe hj]
 have main:∀ a b:Nat,a < n→b≤a→root a4 a=a→root a4 b=b→(a=root above i∧b=root above j∨a=root above j∧b=root above i) →
   ∃ bR,(u7 (zl 400 (a:Int)) fun k1=>u7 (a4[k1]?) fun e1=>some (a4.set k1 (b:Int)))=some bR∧UF n bR∧root bR i=root bR j∧(∀ x y,x < n→y < n→root above x=root above y→root bR x=root bR y)∧∀ x y,x < n→y < n→root bR x=root bR y→root above x=root above y∨((root above x=root above i∨root above x=root above j)∧(root above y=root above i∨root above y=root above j)):=fun a b ha hb ra rb hc=>by
  obtain ⟨u1,u2⟩:=s4.uf.join ha hb ra rb
  refine ⟨_,by rw [zF (by omega)];simp only [Option.bind_some,Zo (show a < a4.length by omega)],u1,?_,fun x y hx hy hxy => ?_,fun x y hx hy hxy => ?_⟩
  ·rw [u2 i hi,u2 j hj,heq i hi,heq j hj]
   rcases hc with ⟨c1,c2⟩ | ⟨c1,c2⟩
   ·rw [if_pos c1.symm]
    split
    ·rfl
    ·exact c2
   ·rw [if_pos c1.symm]
    split
    ·rfl
    ·exact c2.symm
  ·rw [u2 x hx,u2 y hy,heq x hx,heq y hy,hxy]
  ·rw [u2 x hx,u2 y hy,heq x hx,heq y hy] at hxy
   by_cases e1:root above x=a
   ·rw [if_pos e1] at hxy
    by_cases e2:root above y=a
    ·exact .inl (e1.trans e2.symm)
    ·rw [if_neg e2] at hxy
     right
     rcases hc with ⟨c1,c2⟩ | ⟨c1,c2⟩
     ·exact ⟨.inl (by omega),.inr (by omega)⟩
     ·exact ⟨.inr (by omega),.inl (by omega)⟩
   ·rw [if_neg e1] at hxy
    by_cases e2:root above y=a
    ·rw [if_pos e2] at hxy
     right
     rcases hc with ⟨c1,c2⟩ | ⟨c1,c2⟩
     ·exact ⟨.inr (by omega),.inl (by omega)⟩
     ·exact ⟨.inl (by omega),.inr (by omega)⟩
    ·rw [if_neg e2] at hxy
     exact .inl hxy
 by_cases hlt:root above i < root above j
 ·rw [if_pos (by omega),if_neg (by omega)]
  exact main _ _ (by omega) (by omega) L5 CM (.inr ⟨rfl,rfl⟩)
 ·rw [if_neg (by omega)]
  by_cases ir:root above j < root above i
  ·rw [if_pos (by omega)]
   exact main _ _ (by omega) (by omega) CM L5 (.inl ⟨rfl,rfl⟩)
  ·have:root above i=root above j:=by omega
   rw [if_neg (by omega)]
   exact main _ _ (by omega) (by omega) CM CM (.inl ⟨rfl,this⟩)
structure ld (n:Nat) (ρ:Nat→Nat):Prop where
 le:∀ x,x < n→ρ x≤x
 idem:∀ x,x < n→ρ (ρ x)=ρ x
def j6 (ρ:Nat→Nat) (i:Nat):List Nat:=(u0 i).filter (fun x=>ρ x == x)
def wq (ρ:Nat→Nat) (r i:Nat):List Int:=((u0 i).filter (fun x=>ρ x == r)).map fun x:Nat=>(x:Int)
def qx (ρ:Nat→Nat) (i:Nat):List (List Int):=(j6 ρ i).map fun r=>wq ρ r i
theorem Qy (ρ:Nat→Nat) (i:Nat):j6 ρ (i+1)=if ρ i=i then j6 ρ i++[i] else j6 ρ i:=by
 unfold j6
 rw [uX,uR]
 by_cases h:ρ i=i<;>simp [h]
theorem Qr (ρ:Nat→Nat) (r i:Nat):wq ρ r (i+1)=if ρ i=r then wq ρ r i++[(i:Int)] else wq ρ r i:=by
 unfold wq
 rw [uX,uR]
 by_cases h:ρ i=r<;>simp [h]
theorem Zd {ρ:Nat→Nat} {i r:Nat}:r∈j6 ρ i↔r < i∧ρ r=r:=by simp [j6]
theorem wt {ρ:Nat→Nat} {r i:Nat} {x:Int}:x∈wq ρ r i↔0≤x∧x < i∧ρ x.toNat=r:=by
 simp only [wq,uS,List.mem_filter,List.mem_range,beq_iff_eq]
 constructor
 ·rintro ⟨y,⟨h1,h2⟩,rfl⟩;exact ⟨by omega,by omega,by simpa using h2⟩
 ·rintro ⟨h1,h2,h3⟩;exact ⟨x.toNat,⟨by omega,h3⟩,by omega⟩
theorem zc1 (ρ:Nat→Nat) (i:Nat):(j6 ρ i).Nodup:=List.Pairwise.sublist uL List.nodup_range
theorem L6 {ρ:Nat→Nat} {r:Nat} (hr:ρ r=r):∀ {i:Nat},r < i→(j6 ρ i)[(j6 ρ r).length]?=some r
 | 0,h=>by omega
 | i+1,h=>by
  rw [Qy]
  rcases ur r i with h1 | h1
  ·have ih:=L6 hr h1
   split
   ·rw [List.getElem?_append_left (ub.1 ih).1];exact ih
   ·exact ih
  ·obtain rfl:r=i:=by omega
   rw [if_pos hr];simp
theorem map_set {α β:Type} {f g:α→β} {v:β}:∀ {l:List α} {p:Nat} {r:α},l.Nodup→l[p]?=some r→g r=v→(∀ x∈l,x≠r→g x=f x)→(l.map f).set p v=l.map g
 | [],p,r,_,h,_,_=>by simp at h
 | x::l,0,r,hn,h,hv,hg=>by
  simp at h
  subst h
  simp only [uN,List.set_cons_zero,hv]
  congr 1
  refine uM fun y hy=>(hg y (by simp [hy]) fun e => ?_).symm
  subst e
  exact (uH.1 hn).1 hy
 | x::l,p+1,r,hn,h,hv,hg=>by
  simp only [List.getElem?_cons_succ] at h
  simp only [uN,List.set_cons_succ]
  rw [map_set (uH.1 hn).2 h hv (fun y hy=>hg y (by simp [hy]))]
  rw [hg x (by simp) (fun e=>by subst e;exact (uH.1 hn).1 (uj h))]
theorem wG {β:Type} (a b:Int) (v:β):∀ es:List (Int×β),zm a (zN b v es)=if a=b then some v else zm a es
 | []=>by simp only [zN,zm]
 | (k,w)::r=>by
  have ih:=wG a b v r
  simp only [zN]
  by_cases h:b=k
  ·subst h
   simp only [if_pos,zm]
   by_cases h2:a=b
   ·simp [h2]
   ·simp [h2]
  ·rw [if_neg h]
   simp only [zm,ih]
   by_cases h2:a=k
   ·subst h2;rw [if_pos rfl,if_neg (fun e=>h e.symm),if_pos rfl]
   ·rw [if_neg h2,if_neg h2]
structure BA (n:Nat) (above:List Int) (i:Nat) (s:List (List Int)×List (Int×Int)×List Int):Prop where
 same:nD n above s.2.2
 parts:s.1=qx (root above) i
 places:∀ r:Nat,r < i→root above r=r→zm (r:Int) s.2.1=some ((j6 (root above) r).length:Int)
theorem L7 {n:Nat} {above:List Int} (h:UF n above):ld n (root above):=⟨h.fJ,fun _ hx=>h.fe hx⟩
theorem zfA {n i:Nat} {ρ:Nat→Nat} (R:ld n ρ) (hi:i < n) (h:ρ i=i):qx ρ (i+1)=qx ρ i++[[(i:Int)]]:=by
 unfold qx
 rw [Qy,if_pos h,List.map_append]
 congr 1
 ·refine uM fun r hr => ?_
  rw [Zd] at hr
  rw [Qr,if_neg (by omega)]
 ·simp only [uN,List.map_nil]
  rw [Qr,if_pos h]
  have:wq ρ i i=[]:=List.eq_nil_iff_forall_not_mem.2 fun x hx=>by
   rw [wt] at hx
   have:=R.le x.toNat (by omega)
   omega
  rw [this];rfl
theorem zfB {n i:Nat} {ρ:Nat→Nat} (R:ld n ρ) (hi:i < n) (h:ρ i≠i):(qx ρ i)[(j6 ρ (ρ i)).length]?=some (wq ρ (ρ i) i)∧qx ρ (i+1)=(qx ρ i).set (j6 ρ (ρ i)).length (wq ρ (ρ i) i++[(i:Int)]):=by
 have hle:=R.le i hi
 have hat:=L6 (ρ:=ρ) (R.idem i hi) (i:=i) (by omega)
 refine ⟨by unfold qx;rw [ut,hat];rfl,?_⟩
 unfold qx
 rw [Qy,if_neg h]
 refine (map_set (zc1 ρ i) hat ?_ fun r hr hne => ?_).symm
 ·show wq ρ (ρ i) (i+1)=_
  rw [Qr,if_pos rfl]
 ·show wq ρ r (i+1)=_
  rw [Qr,if_neg (fun e=>hne e.symm)]
theorem zji {n:Nat} {above:List Int} (h:UF n above):∃ ab,yG (n:Int) above=some (qx (root above) n,ab):=by
 have oW:=h.l9
 have R:=L7 h
 unfold yG
 have hg:decide ((n:Int)≤1000000000000)=true:=by simp only [decide_eq_true_eq];omega
 rw [hg]
 simp only [cg]
 have:aq (aH (σ:=List (List Int)×List (Int×Int)×List Int) (ρ:=Unit) (n:Int) kO ([],[],above)) (fun o=>match o with | .inl s=>BA n above n s | .inr _=>False):=by
  refine aq.cP (BA n above) (by omega) ⟨⟨h,fun _ _=>rfl⟩,rfl,fun r hr=>by omega⟩ ?_ (fun s hs=>hs)
  rintro i ⟨Ls,es,ab⟩ hi ⟨g1,g2,g3⟩
  simp only at g1 g2 g3
  unfold kO
  obtain ⟨L8,e1,e2⟩:=XQ g1.uf hi
  rw [g1.eq i hi] at e1
  have hsame:nD n above L8:=⟨e2.uf,fun j hj=>by rw [e2.eq j hj,g1.eq j hj]⟩
  simp only [e1,aX]
  have hle:=R.le i hi
  by_cases he:root above i=i
  ·have hb:((root above i:Int) == (i:Int))=true:=by rw [he];simp
   rw [hb]
   refine aq.some ⟨hsame,?_,fun r hr tC => ?_⟩
   ·show Ls++[[(i:Int)]]=_
    rw [zfA R hi he,g2]
   ·show zm (r:Int) (zN (i:Int) (Ls.length:Int) es)=_
    rw [wG]
    split
    ·rename_i e3
     obtain rfl:r=i:=by omega
     rw [g2];simp [qx]
    ·exact g3 r (by omega) tC
  ·have hb:((root above i:Int) == (i:Int))=false:=by rw [beq_eq_false_iff_ne];omega
   rw [hb]
   obtain ⟨o1,o2⟩:=zfB R hi he
   have dK:=g3 (root above i) (by omega) (R.idem i hi)
   simp only [ck,dK,uV]
   rw [zV,g2,o1]
   simp only [aX,um]
   exact aq.some ⟨hsame,o2.symm,fun r hr tC=>g3 r (by
    rcases ur r i with h5 | h5
    ·exact h5
    ·obtain rfl:r=i:=by omega
     exact absurd tC he) tC⟩
 obtain ⟨o,h1,h2⟩:=this
 rw [h1]
 cases o with
 | inl s=>exact ⟨s.2.2,by simp only [aX,ul];rw [←h2.parts]⟩
 | inr _=>exact h2.elim
def jU (k:aS):List Int:=if k.aT = -1 then [k.act] else [k.act,k.aT,k.resume]
theorem zhG (k:aS):Qj k=some (jU k):=by
 unfold Qj jU
 by_cases h:k.aT = -1
 ·simp [h]
 ·rw [if_neg h,beq_eq_false_iff_ne.2 h];rfl
theorem zhH (k:aS):(jU k).length≤3:=by unfold jU;split<;>simp
def wu (l:List bq):Bool:=l.any fun a=>!(a.kind == 1)
theorem zok (l:List bq) (hl:l.length < 4611686018427387904):Yn l=some (wu l):=by
 unfold Yn Cp
 rw [wB (fun j=>match l[j]? with | some a=>a.kind == 1 | none=>true) (fun j=>(j:Int)) hl (fun j hj=>by
  simp only [zV,ua hj,aX,Co]
  cases (l[j].kind == 1)<;>rfl)]
 cases hf:(u0 l.length).find? (fun j=>!(match l[j]? with | some a=>a.kind == 1 | none=>true)) with
 | none=>
  have:wu l=false:=by
   unfold wu
   rw [List.any_eq_false]
   intro a ha
   obtain ⟨j,hj,rfl⟩:=ud ha
   have:=kB hf j hj
   simp only [ua hj] at this
   simp [this]
  rw [this];rfl
 | some k=>
  obtain ⟨h2,h1,_⟩:=kC hf
  have:wu l=true:=by
   unfold wu
   rw [uW]
   simp only [ua h2] at h1
   exact ⟨l[k],uc h2,by rw [h1];rfl⟩
  rw [this]
  simp only [aX,Sum.elim_inr]
  have:decide ((0:Int)≤(k:Int))=true:=decide_eq_true (by omega)
  first | rfl | (rw [this])
structure Mg (n:Nat) (a b:List Int):Prop where
 uf:UF n b
 eq:∀ x y,x < n→y < n→root a x=root a y→root b x=root b y
theorem Mg.refl {n:Nat} {a:List Int} (h:UF n a):Mg n a a:=⟨h,fun _ _ _ _ e=>e⟩
theorem Mg.trans {n:Nat} {a b c:List Int} (h:Mg n a b) (h':Mg n b c):Mg n a c:=⟨h'.uf,fun x y hx hy e=>h'.eq x y hx hy (h.eq x y hx hy e)⟩
structure L9 (E:Nat→Nat→Prop):Prop where
 refl:∀ x,E x x
 symm:∀ x y,E x y→E y x
 trans:∀ x y z,E x y→E y z→E x z
def UE (n:Nat) (E:Nat→Nat→Prop) (a:List Int):Prop:=∀ x y,x < n→y < n→root a x=root a y→E x y
theorem Fc {n i j:Nat} {above:List Int} (h:UF n above) (hi:i < n) (hj:j < n):aq (ke (i:Int) (j:Int) above) fun b=>Mg n above b∧root b i=root b j∧∀ E,L9 E→E i j→UE n E above→UE n E b:=by
 obtain ⟨b,h1,h2,h3,h4,h5⟩:=zmS h hi hj
 refine ⟨b,h1,⟨h2,h4⟩,h3,fun E hE hij hU x y hx hy hxy => ?_⟩
 rcases h5 x y hx hy hxy with e | ⟨e1,e2⟩
 ·exact hU x y hx hy e
 ·have hx':E x i:=e1.elim (fun e=>hU x i hx hi e) (fun e=>hE.trans _ _ _ (hU x j hx hj e) (hE.symm _ _ hij))
  have hy':E y i:=e2.elim (fun e=>hU y i hy hi e) (fun e=>hE.trans _ _ _ (hU y j hy hj e) (hE.symm _ _ hij))
  exact hE.trans _ _ _ hx' (hE.symm _ _ hy')
structure mX (c:ay) (E:Nat→Nat→Prop):Prop where
 CN:L9 E
 start:∀ (i:Nat) (k:aS),c.aA[i]?=some k→∀ s∈k.start,E i s.clause.toNat
 nP:∀ (i j:Nat) (k q:aS) (a:Int),c.aA[i]?=some k→c.aA[j]?=some q→a∈jU k→a∈jU q→E i j
 whole:wu c.aJ=true→∀ i j,i < c.aA.length→j < c.aA.length→E i j
structure rO (c:ay) (n:Nat) (us:List (Int×Int)):Prop where
 gJ:∀ a u,zm a us=some u→0≤u∧u < n
 use:∀ a u,zm a us=some u→∃ q,c.aA[u.toNat]?=some q∧a∈jU q
structure rP (n:Nat) (k:aS) (i:Nat) (ab:List Int) (us:List (Int×Int)):Prop where
 start:∀ s∈k.start,root ab i=root ab s.clause.toNat
 nP:∀ a∈jU k,∃ u:Nat,zm a us=some (u:Int)∧u < n∧root ab u=root ab i
structure td (c:ay) (m:Nat) (s:List Int×List (Int×Int)):Prop where
 uf:UF c.aA.length s.1
 Ma:rO c c.aA.length s.2
 whole:wu c.aJ=true→∀ i,i < m→root s.1 0=root s.1 i
 least:∀ E,mX c E→UE c.aA.length E s.1
 Mb:∀ (i:Nat) (k:aS),i < m→c.aA[i]?=some k→rP c.aA.length k i s.1 s.2
structure dN (c:ay) (ρ:Nat→Nat):Prop where
 whole:wu c.aJ=true→∀ i j,i < c.aA.length→j < c.aA.length→ρ i=ρ j
 least:∀ E,mX c E→∀ i j,i < c.aA.length→j < c.aA.length→ρ i=ρ j→E i j
 fn:ld c.aA.length ρ
 start:∀ (i:Nat) (k:aS),c.aA[i]?=some k→∀ s∈k.start,ρ i=ρ s.clause.toNat
 nP:∀ (i j:Nat) (k q:aS) (a:Int),c.aA[i]?=some k→c.aA[j]?=some q→a∈jU k→a∈jU q→ρ i=ρ j
theorem zkL {n:Nat} {s:List Int} (h:UF n s) (hs:∀ i,i < n→s.getD i 0=(i:Int)):∀ i,i < n→root s i=i:=fun i hi=>by
 rw [h.root_eq hi,if_pos]
 unfold up
 rw [hs i hi];simp
theorem zc3 (c:ay) (ho:c.off.length < 4611686018427387904) (hst:∀ k∈c.aA,k.start.length < 4611686018427387904) (hv:(zI c).1=0) :
  ∃ ρ,dN c ρ∧jR c=some (qx ρ c.aA.length):=by
 have sm:=ql ho hv
 have oW:=sm.aA
 have rI:=sm.aJ
 suffices hh:aq (jR c) (fun l=>∃ ρ,dN c ρ∧l=qx ρ c.aA.length) by
  obtain ⟨l,h1,ρ,h2,rfl⟩:=hh
  exact ⟨ρ,h2,h1⟩
 unfold jR
 rw [Kf c ho hst]
 simp only [aX,hv,beq_self_eq_true,cg]
 refine aq.bind (P:=fun o=>match o with | .inl s=>UF c.aA.length s∧∀ i,i < c.aA.length→root s i=i | .inr _=>False) ?_ ?_
 ·refine aq.cP (fun m s=>s.length=400∧∀ i,i < m→s.getD i 0=(i:Int)) (by omega) ⟨by simp,fun i hi=>by omega⟩ ?_ ?_
  ·rintro i s hi ⟨h1,h2⟩
   rw [zF (by omega)]
   simp only [aX,Zo (show i < s.length by omega)]
   refine aq.some ⟨by simp [h1],fun j hj => ?_⟩
   rw [ue,uE]
   by_cases e:i=j
   ·subst e;rw [if_pos rfl,if_pos (by omega)];rfl
   ·rw [if_neg e,←ue];exact h2 j (by omega)
  ·rintro s ⟨h1,h2⟩
   have hu:UF c.aA.length s:=⟨h1,fun i hi=>by rw [h2 i hi];omega,oW⟩
   exact ⟨hu,zkL hu h2⟩
 ·rintro (s1 | s1) h0
  case inr=>exact h0.elim
  obtain ⟨h0,Mc⟩:UF c.aA.length s1∧∀ i,i < c.aA.length→root s1 i=i:=h0
  simp only [ul,zok c.aJ (by omega),aX]
  refine aq.bind (P:=fun o=>match o with | .inl s=>td c c.aA.length s | .inr _=>False) ?_ ?_
  ·refine aq.cP (td c) (by omega) ⟨h0,⟨fun a u h=>(by cases h),fun a u h=>(by cases h)⟩,fun _ i hi=>by omega,fun E hE x y hx hy h=>(by rw [Mc x hx,Mc y hy] at h;rw [h];exact hE.CN.refl y),fun i k hi=>by omega⟩ ?_ (fun s hs=>hs)
   rintro i ⟨ab,us⟩ hi ⟨i1,i2,i4,i5,i3⟩
   simp only at i1 i2 i3 i4 i5
   have hk:=ua hi
   have hs8:=sm.start _ (uc hi)
   simp only [zV,hk,aX]
   refine aq.bind (P:=fun b=>Mg c.aA.length ab b∧(wu c.aJ=true→root b 0=root b i)∧∀ E,mX c E→UE c.aA.length E b) ?_ ?_
   ·cases hwh:wu c.aJ with
    | false=>exact aq.some ⟨.refl i1,fun h=>(by cases h),i5⟩
    | true=>
     have:=Fc (i:=0) i1 (by omega) hi
     refine aq.bind this fun b hb=>aq.some ⟨hb.1,fun _=>hb.2.1,fun E hE=>hb.2.2 E hE.CN (hE.whole hwh 0 i (by omega) hi) (i5 E hE)⟩
   ·rintro v1 ⟨lB,sj,ER⟩
    refine aq.bind (P:=fun o=>match o with | .inl b=>Mg c.aA.length v1 b∧(∀ E,mX c E→UE c.aA.length E b)∧∀ s∈c.aA[i].start,root b i=root b s.clause.toNat | .inr _=>False) ?_ ?_
    ·refine aq.cP (fun m b=>Mg c.aA.length v1 b∧(∀ E,mX c E→UE c.aA.length E b)∧∀ (q:Nat) (hq:q < c.aA[i].start.length),q < m→root b i=root b c.aA[i].start[q].clause.toNat) (by omega) ⟨.refl lB.uf,ER,fun q hq h=>by omega⟩ ?_ ?_
     ·rintro q b hq ⟨b1,b3,b2⟩
      have hcd:=sm.cond i _ hk _ (uc hq)
      simp only [zV,ua hq,aX]
      have e:c.aA[i].start[q].clause=(c.aA[i].start[q].clause.toNat:Int):=by omega
      have hj:c.aA[i].start[q].clause.toNat < c.aA.length:=by omega
      rw [e]
      refine aq.bind (Fc b1.uf hi hj) fun b' hb'=>aq.some ⟨b1.trans hb'.1,fun E hE=>hb'.2.2 E hE.CN (hE.start i _ hk _ (uc hq)) (b3 E hE),fun q' nN hlt => ?_⟩
      rcases ur q' q with h | h
      ·have hcd':=sm.cond i _ hk _ (uc nN)
       exact hb'.1.eq _ _ hi (by omega) (b2 q' nN h)
      ·obtain rfl:q'=q:=by omega
       exact hb'.2.1
     ·rintro b ⟨b1,b3,b2⟩
      refine ⟨b1,b3,fun s hs => ?_⟩
      obtain ⟨q,hq,e⟩:=ud hs
      rw [←e];exact b2 q hq hq
    ·rintro (b | b) hb
     case inr=>exact hb.elim
     obtain ⟨b1,b3,b2⟩:=hb
     have b0:=lB.trans b1
     simp only [ul,zhG,aX]
     have rV:=zhH c.aA[i]
     refine aq.bind (P:=fun o=>match o with | .inl s=>td c (i+1) s | .inr _=>False) ?_ ?_
     ·refine aq.cP (fun m s=>Mg c.aA.length b s.1∧rO c c.aA.length s.2∧(∀ E,mX c E→UE c.aA.length E s.1)∧(∀ a u,zm a us=some u→zm a s.2=some u)∧∀ (q:Nat) (hq:q < (jU c.aA[i]).length),q < m→∃ u:Nat,zm (jU c.aA[i])[q] s.2=some (u:Int)∧u < c.aA.length∧root s.1 u=root s.1 i) (by omega) ⟨.refl b1.uf,i2,b3,fun _ _ h=>h,fun q hq h=>by omega⟩ ?_ ?_
      ·rintro q ⟨d,ws⟩ hq ⟨d1,d2,d5,d3,d4⟩
       simp only at d1 d2 d3 d4 d5
       simp only [zV,ua hq,aX]
       cases hm:zm (jU c.aA[i])[q] ws with
       | some u=>
        have hu:=d2.gJ _ _ hm
        obtain ⟨kq,hkq,haq⟩:=d2.use _ _ hm
        simp only [Option.isSome_some,cg,uV]
        have e:u=(u.toNat:Int):=by omega
        rw [e]
        have:=Fc (i:=u.toNat) d1.uf (by omega) hi
        refine aq.bind (P:=fun r:List Int×List (Int×Int)=>r.2=ws∧Mg c.aA.length d r.1∧(∀ E,mX c E→UE c.aA.length E r.1)∧root r.1 u.toNat=root r.1 i) (aq.bind this fun b' hb'=>aq.some ⟨rfl,hb'.1,fun E hE=>hb'.2.2 E hE.CN (hE.nP _ _ _ _ _ hkq hk haq (uc hq)) (d5 E hE),hb'.2.1⟩) ?_
        rintro ⟨d',ws'⟩ ⟨rfl,g1,g3,g2⟩
        refine aq.some ⟨d1.trans g1,d2,g3,d3,fun q' nN hlt => ?_⟩
        rcases ur q' q with h | h
        ·obtain ⟨u',f1,f2,f3⟩:=d4 q' nN h
         exact ⟨u',f1,f2,g1.eq _ _ f2 hi f3⟩
        ·obtain rfl:q'=q:=by omega
         exact ⟨u.toNat,by rw [←e];exact hm,by omega,g2⟩
       | none=>
        simp only [Option.isSome_none,ck,aX]
        refine aq.some ⟨d1,⟨fun a u hu => ?_,fun a u hu => ?_⟩,d5,fun a u hu => ?_,fun q' nN hlt => ?_⟩
        ·rw [wG] at hu
         split at hu
         ·cases hu;omega
         ·exact d2.gJ a u hu
        ·rw [wG] at hu
         split at hu
         ·rename_i e
          cases hu
          exact ⟨c.aA[i],by rw [um];exact hk,by rw [e];exact uc hq⟩
         ·exact d2.use a u hu
        ·show zm a (zN (jU c.aA[i])[q] (i:Int) ws)=some u
         rw [wG]
         split
         ·rename_i e;rw [e] at hu;rw [d3 _ _ hu] at hm;cases hm
         ·exact d3 a u hu
        ·show ∃ u:Nat,zm (jU c.aA[i])[q'] (zN (jU c.aA[i])[q] (i:Int) ws)=some (u:Int)∧u < c.aA.length∧root d u=root d i
         rw [wG]
         split
         ·exact ⟨i,rfl,hi,rfl⟩
         ·rename_i hne
          rcases ur q' q with h | h
          ·exact d4 q' nN h
          ·obtain rfl:q'=q:=by omega
           exact absurd rfl hne
      ·rintro ⟨d,ws⟩ ⟨d1,d2,d5,d3,d4⟩
       simp only at d1 d2 d3 d4 d5
       refine ⟨d1.uf,d2,fun hw j hj => ?_,d5,fun j k hj hkj => ?_⟩
       ·have Md:0 < c.aA.length:=by omega
        rcases ur j i with h | h
        ·exact (b0.trans d1).eq _ _ Md (by omega) (i4 hw j h)
        ·obtain rfl:j=i:=by omega
         exact (b1.trans d1).eq _ _ Md hi (sj hw)
       show rP c.aA.length k j d ws
       rcases ur j i with h | h
       ·have hj':j < c.aA.length:=by omega
        obtain ⟨g1,g2⟩:=i3 j k h hkj
        have M:=b0.trans d1
        refine ⟨fun s hs => ?_,fun a ha => ?_⟩
        ·have hcd:=sm.cond j k hkj s hs
         exact M.eq _ _ hj' (by omega) (g1 s hs)
        ·obtain ⟨u,f1,f2,f3⟩:=g2 a ha
         exact ⟨u,d3 _ _ f1,f2,M.eq _ _ f2 hj' f3⟩
       ·obtain rfl:j=i:=by omega
        rw [hk] at hkj
        cases hkj
        refine ⟨fun s hs => ?_,fun a ha => ?_⟩
        ·have hcd:=sm.cond j _ hk s hs
         exact d1.eq _ _ hi (by omega) (b2 s hs)
        ·obtain ⟨q,hq,e⟩:=ud ha
         rw [←e]
         exact d4 q hq hq
     ·rintro (s | s) hs
      ·exact aq.some hs
      ·exact hs.elim
  ·rintro (s | s) hs
   case inr=>exact hs.elim
   obtain ⟨c1,c2,c4,c5,c3⟩:=hs
   obtain ⟨L8,e⟩:=zji c1
   simp only [ul,e,aX]
   refine aq.some ⟨root s.1,⟨fun hw i j hi hj=>(c4 hw i hi).symm.trans (c4 hw j hj),fun E hE i j hi hj h=>c5 E hE i j hi hj h,L7 c1,fun i k hk=>(c3 i k (ub.1 hk).1 hk).start,fun i j k q a hk hq ha hb => ?_⟩,rfl⟩
   obtain ⟨u,f1,f2,f3⟩:=(c3 i k (ub.1 hk).1 hk).nP a ha
   obtain ⟨u',g1,g2,g3⟩:=(c3 j q (ub.1 hq).1 hq).nP a hb
   rw [f1] at g1
   have:u=u':=by have:=Option.some.inj g1;omega
   subst this
   rw [←f3,←g3]
section
def pp (P:List Int) (p:aK):aK:={state:=rs P p.state,own:=p.own}
section
variable {c:ay} {ρ:Nat→Nat}
abbrev prt (c:ay) (ρ:Nat→Nat) (r:Nat):List Int:=wq ρ r c.aA.length
theorem zjj (ρ:Nat→Nat) (r n:Nat):(wq ρ r n).Pairwise (· < ·):=by
 unfold wq
 rw [List.pairwise_map]
 exact (List.Pairwise.sublist uL List.pairwise_lt_range).imp fun h=>by omega
theorem XR (hc:c.Ok) (hv:(zI c).1=0) (R:dN c ρ) (r:Nat):∃ ks,bJ c (prt c ρ r) ks:=by
 have ho:=hc.off.lt (by omega:0 < 8)
 have sm:=ql ho hv
 obtain ⟨ks,hks⟩:=Qe (g:=JL c (prt c ρ r)) (l:=prt c ρ r) (fun x hx=>by
  obtain ⟨x0,x1,x2⟩:=wt.1 hx
  have hk:=ua (show x.toNat < c.aA.length by omega)
  obtain ⟨st,hst⟩:=Qe (g:=yg (prt c ρ r)) (l:=c.aA[x.toNat].start) (fun y hy=>by
   have hcd:=sm.cond _ _ hk y hy
   have hm:y.clause∈prt c ρ r:=wt.2 ⟨by omega,by omega,by rw [←x2];exact (R.start _ _ hk y hy).symm⟩
   unfold yg jE
   rw [if_pos hm]
   exact ⟨_,rfl⟩)
  refine ⟨({c.aA[x.toNat] with start:=st}:aS),?_⟩
  unfold JL
  have e:zf c.aA x=some c.aA[x.toNat]:=(qE x0 (by omega)).2
  rw [e]
  simp only [aX,hst,uq])
 exact ⟨ks,hv,HP (fun x hx=>by obtain ⟨x0,x1,_⟩:=wt.1 hx;omega) (zjj ρ r _),hks⟩
theorem Me (hc:c.Ok) {s:ak} (hv:VS c s) {i:Nat} {a:bq} (ha:c.aJ[i]?=some a) (h1:a.kind=1) {P:List Int} {ks:List aS} (h:bJ c P ks) (hd:s.day < c.bl) (hn:∀ x∈P,∀ k,c.aA[x.toNat]?=some k→(i:Int) ∉ jU k):rs P (zO c s i)=rs P s:=by
 have ho:=hc.off.lt (by omega:0 < 8)
 have hia:=(ub.1 ha).1
 have tX:=h.pos
 have Ao:=Kp hc h hv
 rw [←kN hc h hv (by omega) (by omega) hd]
 obtain ⟨_,_,_,ap⟩:=jf (h.By hc) Ao (a:=(i:Int)) (by omega) (by show (i:Int) < c.aJ.length;omega) hd
 rcases ap i a rfl ha with ⟨g1,_⟩ | ⟨_,g2,g3,g4,g5⟩
 ·exact absurd h1 g1
 ·have hk1:(a.kind == 1)=true:=beq_iff_eq.2 h1
  have gA:(a.kind == 3)=false:=beq_eq_false_iff_ne.2 (by omega)
  have hno:∀ (p:Nat) (k:aS),(cp c ks).aA[p]?=some k→(i:Int)≠k.act∧(i:Int)≠k.aT∧(i:Int)≠k.resume:=by
   intro p k' hk'
   have hk':ks[p]?=some k':=hk'
   have hp:p < P.length:=by rw [←tX.len];exact (ub.1 hk').1
   obtain ⟨x,k,st,e1,e2,e3,e4⟩:=tX.at_ p hp
   rw [e4] at hk'
   cases hk'
   have:=hn (x:Int) (uj e1) k (by simpa using e2)
   have kv:=xI ho hv.cv e2
   unfold jU at this
   by_cases hps:k.aT = -1
   ·rw [if_pos hps] at this
    have hr:k.resume = -1:=by
     rcases kv.aT with g | g
     ·exact g.2
     ·exfalso
      have:=g.1
      rw [hps] at this
      simp [vo,zf] at this
    simp only [uD] at this
    exact ⟨this,by simp only;omega,by simp only;omega⟩
   ·rw [if_neg hps] at this
    simp only [u4,List.not_mem_nil,or_false,not_or] at this
    exact this
  have em:∀ (ms:List aj) (F:aS→aj→aj),(∀ (p:Nat) (k:aS) (m:aj),(cp c ks).aA[p]?=some k→F k m=m)→ms.mapIdx (eR (cp c ks) F)=ms:=by
   intro ms F hF
   refine uo fun p => ?_
   rw [uk]
   cases hp:ms[p]? with
   | none=>rfl
   | some m=>
    simp only [uq,eR]
    cases hk:(cp c ks).aA[p]? with
    | none=>rfl
    | some k=>simp only [hF p k m hk]
  have e3:iq (cp c ks) i a (rs P s).aE (rs P s).aI=(rs P s).aI:=by
   unfold iq ec eN
   rw [gA,ck,em _ _ fun p k m hk => ?_,em _ _ fun p k m hk => ?_]
   ·obtain ⟨n1,n2,n3⟩:=hno p k hk
    unfold wO
    rw [beq_eq_false_iff_ne.2 n2,beq_eq_false_iff_ne.2 n3]
    cases qM m<;>rfl
   ·obtain ⟨n1,n2,n3⟩:=hno p k hk
    unfold kP
    rw [beq_eq_false_iff_ne.2 (Ne.symm n1)]
    cases qM m<;>rfl
  refine E7 g2 (g3.trans (by unfold hs3;rw [hk1];rfl)) (g4.trans (by unfold lG;rw [hk1];rfl)) ?_
  rw [e3] at g5
  exact g5.same Ao.Be
theorem zkM (hc:c.Ok) (R:dN c ρ) {s:ak} (hv:VS c s) {i:Nat} (hi:i < c.aJ.length) (hd:s.day < c.bl) {r r':Nat} (hr:r < c.aA.length) (hr':r' < c.aA.length) (er:ρ r=r) (CO:ρ r'=r') (hne:r≠r') (h:rs (prt c ρ r) (zO c s i)≠rs (prt c ρ r) s):rs (prt c ρ r') (zO c s i)=rs (prt c ρ r') s:=by
 have ha:=ua hi
 by_cases h1:c.aJ[i].kind=1
 ·obtain ⟨ks,hk⟩:=XR hc hv.cv R r
  obtain ⟨ks',hk'⟩:=XR hc hv.cv R r'
  refine Me hc hv ha h1 hk' hd fun x hx k tS hin => ?_
  refine h (Me hc hv ha h1 hk hd fun y hy k2 hky Fe => ?_)
  obtain ⟨_,_,x2⟩:=wt.1 hx
  obtain ⟨_,_,y2⟩:=wt.1 hy
  exact hne (by rw [←x2,←y2];exact R.nP _ _ _ _ _ hky tS Fe hin)
 ·exfalso
  refine hne ?_
  rw [←er,←CO]
  refine R.whole ?_ r r' hr hr'
  unfold wu
  rw [uW]
  exact ⟨_,uc hi,by simp [h1]⟩
theorem XS {s:ak} (hv:VS c s) {P:List Int} {ks:List aS} (h:bJ c P ks) {zw:Int}:qa (cp c ks) (rs P s) zw=true↔∃ (i:Nat) (k:aS) (m:aj),(i:Int)∈P∧c.aA[i]?=some k∧s.aI[i]?=some m∧k.final=true∧m.aN=4∧m.bw=zw:=by
 have tX:=h.pos
 have sY:=hv.lm
 rw [Qp]
 constructor
 ·rintro ⟨p,k',m,hk',hm,g⟩
  have hk':ks[p]?=some k':=hk'
  have hp:p < P.length:=by rw [←tX.len];exact (ub.1 hk').1
  obtain ⟨x,k,st,e1,e2,e3,e4⟩:=tX.at_ p hp
  rw [e4] at hk'
  cases hk'
  have hm:(gD P s.aI)[p]?=some m:=hm
  rw [xW e1 (by have:=(ub.1 e2).1;omega)] at hm
  exact ⟨x,k,m,uj e1,e2,hm,g⟩
 ·rintro ⟨x,k,m,hx,hk,hm,g⟩
  obtain ⟨p,hp,e⟩:=ud hx
  obtain ⟨x',k2,st,e1,e2,e3,e4⟩:=tX.at_ p hp
  rw [ua hp,e] at e1
  have:x=x':=by have:=Option.some.inj e1;omega
  subst this
  rw [hk] at e2
  cases e2
  refine ⟨p,_,m,e4,?_,g⟩
  show (gD P s.aI)[p]?=some m
  rw [xW (by rw [ua hp,e]) (ub.1 hm).1]
  exact hm
theorem zfC (hc:c.Ok) (R:dN c ρ) {s:ak} (hv:VS c s) {zw:Int}:qa c s zw=true↔∃ r ks,r < c.aA.length∧ρ r=r∧bJ c (prt c ρ r) ks∧qa (cp c ks) (rs (prt c ρ r) s) zw=true:=by
 constructor
 ·intro h
  obtain ⟨x,k,m,hk,hm,g⟩:=Qp.1 h
  have hx:=(ub.1 hk).1
  obtain ⟨ks,hks⟩:=XR hc hv.cv R (ρ x)
  exact ⟨ρ x,ks,by have:=R.fn.le x hx;omega,R.fn.idem x hx,hks,(XS hv hks).2 ⟨x,k,m,wt.2 ⟨by omega,by omega,by simp⟩,hk,hm,g⟩⟩
 ·rintro ⟨r,ks,_,_,hks,h⟩
  obtain ⟨x,k,m,_,hk,hm,g⟩:=(XS hv hks).1 h
  exact Qp.2 ⟨x,k,m,hk,hm,g⟩
theorem Zp {a b:ak}:wZ a b=false↔a≠b:=by
 rw [←uF,kK]
theorem Zq (hc:c.Ok) {P:List Int} {ks:List aS} (h:bJ c P ks) {zw:Int} {p:aK} (hv:VS c p.state) {m:Int} (hm:m∈zr (cp c ks) zw (pp P p)):m∈zr c zw p∧target (cp c ks) (pp P p) m=pp P (target c p m):=by
 rcases zZ.1 hm with ⟨h1,rfl⟩ | ⟨h1,h2,rfl⟩ | ⟨h1,i,h2,h3,rfl⟩
 ·exact ⟨zZ.2 (.inl ⟨h1,rfl⟩),by simp [target,pp]⟩
 ·refine ⟨zZ.2 (.inr (.inl ⟨h1,h2,rfl⟩)),?_⟩
  have h2':(0:Int) < c.aJ.length∨True:=.inr trivial
  have e:=kN hc h hv (a := -1) (by omega) (by omega) h1
  simp only [target,pp]
  rw [if_neg (by omega),if_neg (by omega),e]
 ·have h2:i < c.aJ.length:=h2
  have e:=kN hc h hv (a:=(i:Int)) (by omega) (by omega) h1
  refine ⟨zZ.2 (.inr (.inr ⟨h1,i,h2,?_,rfl⟩)),?_⟩
  ·have ha:=ua h2
   have ha':(cp c ks).aJ[i]?=some c.aJ[i]:=ha
   simp only [l7,ha',ui,un,Zp] at h3
   simp only [l7,ha,ui,un,Zp]
   refine ⟨h3.1,fun e2=>h3.2 ?_⟩
   show zO (cp c ks) (rs P p.state) i=rs P p.state
   rw [e,e2]
  ·simp only [target,pp]
   rw [if_neg (by omega),if_neg (by omega),e]
theorem Kr (hc:c.Ok) {P:List Int} {ks:List aS} (h:bJ c P ks) {zw:Int} {p:aK} (hv:VS c p.state) {m:Int} (hm:m∈zr c zw p):(m∈zr (cp c ks) zw (pp P p)∧target (cp c ks) (pp P p) m=pp P (target c p m))∨((∃ i:Nat,m=(i:Int)∧i < c.aJ.length)∧p.state.day < c.bl∧rs P (zO c p.state m)=rs P p.state):=by
 rcases zZ.1 hm with ⟨h1,rfl⟩ | ⟨h1,h2,rfl⟩ | ⟨h1,i,h2,h3,rfl⟩
 ·exact .inl (have g:(-2:Int)∈zr (cp c ks) zw (pp P p):=zZ.2 (.inl ⟨h1,rfl⟩);⟨g,(Zq hc h hv g).2⟩)
 ·exact .inl (have g:(-1:Int)∈zr (cp c ks) zw (pp P p):=zZ.2 (.inr (.inl ⟨h1,h2,rfl⟩));⟨g,(Zq hc h hv g).2⟩)
 ·have e:=kN hc h hv (a:=(i:Int)) (by omega) (by omega) h1
  by_cases hs:rs P (zO c p.state i)=rs P p.state
  ·exact .inr ⟨⟨i,rfl,h2⟩,h1,hs⟩
  ·left
   have ha:=ua h2
   have ha':(cp c ks).aJ[i]?=some c.aJ[i]:=ha
   have g:(i:Int)∈zr (cp c ks) zw (pp P p):=by
    refine zZ.2 (.inr (.inr ⟨h1,i,h2,?_,rfl⟩))
    simp only [l7,ha,ui,un,Zp] at h3
    simp only [l7,ha',ui,un,Zp]
    refine ⟨h3.1,fun e2=>hs ?_⟩
    rw [←e];exact e2
   exact ⟨g,(Zq hc h hv g).2⟩
theorem yL {P:List Int} {p:aK} {i:Nat} (h:rs P (zO c p.state i)=rs P p.state):pp P (target c p (i:Int))={state:=rs P p.state,own:=true}:=by
 simp only [target,pp]
 rw [if_neg (by omega)]
 simp only [h]
theorem wv (hc:c.Ok) {zw:Int} {p:aK} (hv:VS c p.state) {m:Int} (hm:m∈zr c zw p):VS c (target c p m).state:=by
 rcases zfv hm with ⟨rfl,_⟩ | ⟨h1,h2,h3⟩
 ·rw [kl];exact hv
 ·rw [xV c p h1];exact (jf hc hv h1 h2 h3).2.1
theorem Mf (hc:c.Ok) {zw:Int} (p:aK) (hv:VS c p.state) (hd:p.state.day < c.bl) (pW:0≤zw) (ho:p.own=true) {i:Nat} (hi:i < c.aJ.length) (hm:(i:Int)∈zr c zw p):todo c (zO c p.state i) < todo c p.state:=by
 have ha:=ua hi
 obtain ⟨_,sj,_,ap⟩:=jf hc hv (a:=(i:Int)) (by omega) (by omega) hd
 rcases zZ.1 hm with ⟨_,h2⟩ | ⟨_,_,h2⟩ | ⟨_,j,hj,h3,h2⟩
 ·omega
 ·omega
 ·have:i=j:=by omega
  subst this
  simp only [l7,ha,ui,un,Zp,beq_iff_eq,ho] at h3
  refine zjg hc hv sj ha (fun hr => ?_) (ap i _ rfl ha) h3.2
  have h4:=h3.1
  simp only [jT,hr] at h4
  have h4:(-1:Int)=zw:=by simpa using h4
  omega
theorem zhI {zw:Int} {s:ak} (h:jG c zw {state:=s,own:=false}):jG c zw {state:=s,own:=true}:=
 (ZX rfl).2 ⟨vK (q:={state:=s,own:=false}) h,-2,zZ.2 (.inl ⟨rfl,rfl⟩),h⟩
theorem zfD (hc:c.Ok) (hcv:(zI c).1=0) (R:dN c ρ) {zw:Int}:∀ p:aK,(VS c p.state∧∀ r ks,r < c.aA.length→ρ r=r→bJ c (prt c ρ r) ks→jG (cp c ks) zw (pp (prt c ρ r) p))→jG c zw p:=by
 refine WM _ ?_ ?_ ?_
 ·rintro p ⟨hv,hs⟩
  rw [←uF]
  intro h
  obtain ⟨r,ks,hr,er,hks,h2⟩:=(zfC hc R hv).1 h
  have:=vK (hs r ks hr er hks)
  have:qa (cp c ks) (rs (prt c ρ r) p.state) zw=false:=this
  rw [h2] at this;cases this
 ·rintro p ⟨hv,hs⟩ ho
  by_cases hall:∀ r ks,r < c.aA.length→ρ r=r→bJ c (prt c ρ r) ks→jG (cp c ks) zw {state:=rs (prt c ρ r) p.state,own:=false}
  ·refine ⟨-2,zZ.2 (.inl ⟨ho,rfl⟩),?_,fun r ks hr er hks => ?_⟩
   ·rw [kl];exact hv
   ·have:=hall r ks hr er hks
    simpa [target,pp] using this
  ·simp only [Classical.not_forall] at hall
   obtain ⟨r,ks,hr,er,hks,hno⟩:=hall
   obtain ⟨_,m,hm,mW⟩:=(ZX (show (pp (prt c ρ r) p).own=true from ho)).1 (hs r ks hr er hks)
   obtain ⟨g1,g2⟩:=Zq hc hks hv hm
   refine ⟨m,g1,wv hc hv g1,fun r' ks' hr' CO oX => ?_⟩
   rcases zZ.1 hm with ⟨_,rfl⟩ | ⟨_,h2,rfl⟩ | ⟨h1,i,h2,h3,rfl⟩
   ·exact absurd mW hno
   ·have:p.own=false:=h2
    rw [ho] at this;cases this
   ·by_cases e:r=r'
    ·subst e
     have:ks=ks':=by
      have:=hks.sel.symm.trans oX.sel
      exact Option.some.inj this
     subst this
     rw [←g2];exact mW
    ·have h2:i < c.aJ.length:=h2
     have hch:rs (prt c ρ r) (zO c p.state i)≠rs (prt c ρ r) p.state:=by
      rw [←kN hc hks hv (by omega) (by omega) h1]
      have ha:=ua h2
      have ha':(cp c ks).aJ[i]?=some c.aJ[i]:=ha
      simp only [l7,ha',ui,un,Zp] at h3
      exact h3.2
     rw [yL (zkM hc R hv h2 h1 hr hr' er CO e hch)]
     have:=hs r' ks' hr' CO oX
     simp only [pp,ho] at this
     exact this
 ·rintro p ⟨hv,hs⟩ ho m hm
  refine ⟨wv hc hv hm,fun r ks hr er hks => ?_⟩
  have Ff:=hs r ks hr er hks
  rcases Kr hc hks hv hm with ⟨g1,g2⟩ | ⟨⟨i,rfl,hi⟩,_,g⟩
  ·rw [←g2]
   exact ((Vi (show (pp (prt c ρ r) p).own=false from ho)).1 Ff).2 m g1
  ·rw [yL g]
   simp only [pp,ho] at Ff
   exact zhI Ff
theorem zhJ (hc:c.Ok) {P:List Int} {ks:List aS} (h:bJ c P ks) {zw:Int} (pW:0≤zw):∀ q:aK,(∃ p,VS c p.state∧jG c zw p∧pp P p=q)→jG (cp c ks) zw q:=by
 refine WM _ ?_ ?_ ?_
 ·rintro q ⟨p,hv,hs,rfl⟩
  rw [←uF]
  intro hl
  obtain ⟨x,k,m,_,hk,hm,g⟩:=(XS hv h).1 hl
  have:=vK hs
  rw [Qp.2 ⟨x,k,m,hk,hm,g⟩] at this
  cases this
 ·rintro q ⟨p,hv,hs,rfl⟩ ho
  have key:∀ (n:Nat) (p':aK),todo c p'.state≤n→VS c p'.state→jG c zw p'→p'.own=true→pp P p'=pp P p→∃ m∈zr (cp c ks) zw (pp P p),∃ p2,VS c p2.state∧jG c zw p2∧pp P p2=target (cp c ks) (pp P p) m:=by
   intro n
   induction n with
   | zero=>
    intro p' hn nC hs' ho' e
    obtain ⟨_,m,hm,mW⟩:=(ZX ho').1 hs'
    rw [←e]
    rcases Kr hc h nC hm with ⟨g1,g2⟩ | ⟨⟨i,rfl,hi⟩,hd,g⟩
    ·exact ⟨m,g1,_,wv hc nC hm,mW,g2.symm⟩
    ·exfalso
     have hl:=Mf hc p' nC hd pW ho' hi hm
     omega
   | succ n ih=>
    intro p' hn nC hs' ho' e
    obtain ⟨_,m,hm,mW⟩:=(ZX ho').1 hs'
    rcases Kr hc h nC hm with ⟨g1,g2⟩ | ⟨⟨i,rfl,hi⟩,hd,g⟩
    ·rw [←e]
     exact ⟨m,g1,_,wv hc nC hm,mW,g2.symm⟩
    ·have hl:=Mf hc p' nC hd pW ho' hi hm
     refine ih (target c p' (i:Int)) ?_ (wv hc nC hm) mW ?_ ?_
     ·rw [xV c p' (by omega)];simp only;omega
     ·rw [xV c p' (by omega)]
     ·rw [yL g,←e]
      simp only [pp,ho']
  obtain ⟨m,hm,p2,g⟩:=key _ p (uu _) hv hs ho rfl
  exact ⟨m,hm,p2,g⟩
 ·rintro q ⟨p,hv,hs,rfl⟩ ho m hm
  obtain ⟨g1,g2⟩:=Zq hc h hv hm
  exact ⟨target c p m,wv hc hv g1,((Vi (show p.own=false from ho)).1 hs).2 m g1,g2.symm⟩
end
end
end Go.Proofs.YtgpojcfkanjabaaGreatDoor
