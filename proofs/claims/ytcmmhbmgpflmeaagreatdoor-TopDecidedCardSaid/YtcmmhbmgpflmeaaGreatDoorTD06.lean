/-
  Plans: what a function computes, told so that the kernel can hold it against the function's code. A plan that the kernel has checked is a walk.
  Plans: code against a plan, and that a plan that is checked is a walk.
  Plans: what is live, whole functions, and the parts that printed plans are made of.
  Plans: the parts that printed plans are made of.
  Plans for an object whose cells are slices that grow.
  A map whose values are slices that grow: the tips have names of a range of their own, behind a mark in the list of objects.
  Plans for a map whose values are slices that grow: the reading of a trace.
  Plans for a map whose values are slices that grow: its regions.
-/
import Derived.Test.YtcmmhbmgpflmeaaGreatDoorTD05
open List renaming getElem?_eq_some_iff → ub, getElem?_append_right → ue, getElem?_set_self → ug, length_map → ui, getElem?_set_ne → ul, getElem?_append_left → un, contains_iff_mem → uo, cons_append → uq, mem_cons → ut, mem_of_getElem? → uu, getD_eq_getElem?_getD → uv, replicate → uw, set_cons_succ → ux, length_append → uy, mem_append → uD, mem_filter → uE, mem_append_right → uF, mem_append_left → uG, getElem?_map → uJ, range' → uL, append_nil → uM, nil_append → uN, mem_map → uP
open Option renaming bind → ud, map_eq_some_iff → uh, none_or → uk, some_or → uI, map_some → uO
open Bool renaming and_eq_true → um, or_eq_true → uC
open Nat renaming le_of_ble_eq_true → ua, lor → uc, le_refl → uf, eq_of_beq_eq_true → uj, beq → ur, blt → uz, ble → uA, blt_eq → uB, le_succ → uH, sub_self → uK, beq_refl → uQ
namespace Go.Proofs.YtcmmhbmgpflmeaaGreatDoor
open Go.RowKit
set_option linter.unusedSimpArgs false
set_option linter.unusedVariables false
section
inductive Tree:Type 1 where
 | tt
 | bad (why:Nat)
 | step (t:Tree)
 | all (β:Type) (f:β→Tree)
 | and (a b:Tree)
 | eq (β:Type) (a b:β) (t:Tree)
def Tree.Ok:Tree→Prop
 | .tt=>True
 | .bad _=>False
 | .step t=>t.Ok
 | .all _ f=>∀ v,(f v).Ok
 | .and a b=>a.Ok∧b.Ok
 | .eq _ a b t=>a=b∧t.Ok
def Tree.norm:Tree→Tree
 | .tt=>.tt
 | .bad _=>.tt
 | .step t=>.step t.norm
 | .all β f=>.all β fun v=>(f v).norm
 | .and a b=>.and a.norm b.norm
 | .eq β a _ t=>.eq β a a t.norm
theorem Tree.ok:∀ {t:Tree},t=t.norm→t.Ok:=by
 intro t
 induction t with
 | tt=>exact fun _=>trivial
 | bad _=>intro h;cases h
 | step t ih=>intro h;simp only [Tree.norm,Tree.step.injEq] at h;exact ih h
 | all β f ih=>
  intro h v
  simp only [Tree.norm,Tree.all.injEq,heq_eq_eq,true_and] at h
  exact ih v (congrFun h v)
 | and a b iha ihb=>intro h;simp only [Tree.norm,Tree.and.injEq] at h;exact ⟨iha h.1,ihb h.2⟩
 | eq β a b t ih=>intro h;simp only [Tree.norm,Tree.eq.injEq,heq_eq_eq,true_and] at h;exact ⟨h.1.symm,ih h.2⟩
abbrev G3:=List fA×List Prop
abbrev zV:=List (Nat×G3)
def bu (Φ:zV):Prop:=∀ k f,zc Φ k=some f→dz f.2
structure Spec (β:Type) where
 ks:List Nat
 ov:β→List (Nat×AV)
 hs:List Nat
 oh:β→List (Nat×aI)
 nx:Nat
 Ci:∀ b,cx nx (oh b)
 ns:β→Option (List (List Int))
def Vg (hs:List Nat):List (Nat×aI)→List (Nat×aI)
 | []=>[]
 | (k,o)::r=>match ur k qk with
  | true=>[]
  | false=>match hs.contains k with
   | true=>(k,o)::Vg hs r
   | false=>Vg hs r
def QG:Option (List (List Int))→List (Nat×aI)
 | Option.none=>[]
 | some Ls=>qN Ls
abbrev Spec.k {β:Type} (ks:List Nat) (ov:β→List (Nat×AV)) (hs:List Nat) (oh:β→List (Nat×aI)) (nx:Nat) (Ci:∀ b,cx nx (oh b)):Spec β:=⟨ks,ov,hs,oh,nx,Ci,fun _=>Option.none⟩
def Spec.st {β:Type} (sp:Spec β) (st:St) (b:β):St:=⟨sp.ov b++qg sp.ks st.env,sp.oh b++(Vg sp.hs st.heap++QG (sp.ns b)),sp.nx⟩
def Spec.fy {β:Type} (sp:Spec β) (st:St) (idx:Nat) (n:Int) (b:β):St:=⟨(idx,vI n)::(sp.ov b++qg sp.ks st.env),sp.oh b++(Vg sp.hs st.heap++QG (sp.ns b)),sp.nx⟩
structure eV where
 to:St→St
 T:St→Tree→Tree
 ok:∀ st t,(T st t).Ok→t.Ok∧ct st (to st)∧st.next≤(to st).next
structure lW (β:Type) where
 x:Option β
 T:cH→St→(β→St→Tree)→Tree
 ok:∀ (C:bY) (nt:Fr) (c:cH) (st:St) (k:β→St→Tree) (K:Exit→St→Prop) (b:β),x=some b→(T c st k).Ok→(∀ s,(k b s).Ok→K .normal s)→dF C nt c K st
inductive aE:Type→Type 1 where
 | ret {α:Type} (a:α):aE α
 | fin {α:Type} (ids:List Nat) (V:AV) (cj:List (Nat×aI)) (iv:IV) (h:DF [V] cj [iv]) (a:α):aE α
 | s6 {α:Type} (x y:AV) (h:nL x y) (a:α):aE α
 | none {α:Type}:aE α
 | bind {α β:Type} (x:Option β) (F:β→zV) (h:∀ v,x=some v→bu (F v)) (k:β→aE α):aE α
 | ite {α:Type} (key:Nat) (b:Bool) (p q:aE α):aE α
 | fact {α:Type} (key:Nat) (o:List fA) (ps:List Prop) (h:dz ps) (p:aE α):aE α
 | use {α:Type} (j key:Nat) (p:aE α):aE α
 | case {α β γ:Type} (o:β ⊕ γ) (p:β→aE α) (q:γ→aE α):aE α
 | cut {α β:Type} (n:Nat) (sp:Spec β) (p:aE β) (k:β→aE α):aE α
 | dK {α β γ:Type} (n:Nat) (sp:Spec β) (p:aE (β ⊕ γ)) (k:β ⊕ γ→aE α):aE α
 | aG {α σ ρ:Type} (key idx:Nat) (n:Int) (s0:σ) (sp:Spec σ) (body:Nat→σ→aE (σ ⊕ ρ)) (k:σ ⊕ ρ→aE α):aE α
 | iter {α σ ρ:Type} (s0:σ) (sp:Spec σ) (body:σ→aE (σ ⊕ ρ)) (k:ρ→aE α):aE α
 | cE {α:Type} (n:Nat) (ws:List eV) (p:aE α):aE α
 | aD {α:Type} (n:Nat) (p:aE α):aE α
 | pp {α β:Type} (n:Nat) (m:lW β) (k:β→aE α):aE α
 | oH {α:Type} (key:Nat) (n:Int) (len i:Nat) (h:uz i len=true) (p q:aE α):aE α
noncomputable def aE.run {α:Type} (p:aE α):Option α:=aE.rec (motive:=fun α _=>Option α)
 (fun a=>some a) (fun _ _ _ _ _ a=>some a) (fun _ _ _ a=>some a) Option.none
 (fun x _ _ _ ih=>ud x ih) (fun _ b _ _ iL lX=>bif b then iL else lX) (fun _ _ _ _ _ ih=>ih) (fun _ _ _ ih=>ih)
 (fun o _ _ iL lX=>Sum.elim iL lX o) (fun _ _ _ _ iL s7=>ud iL s7) (fun _ _ _ _ iL s7=>ud iL s7)
 (fun _ _ n s0 _ _ _ ihb s7=>ud (Go.Proofs.YtcmmhbmgpflmeaaGreatDoor.aG n ihb s0) s7)
 (fun s0 _ _ _ ihb s7=>ud (Go.Proofs.YtcmmhbmgpflmeaaGreatDoor.iter ihb s0) s7) (fun _ _ _ ih=>ih) (fun _ _ ih=>ih) (fun _ m _ ih=>ud m.x ih) (fun _ n _ i _ _ _ iL lX=>bif n == (i:Int) then iL else lX) p
noncomputable def settle {α:Type} (p:aE α) (Φ:zV) (k:zV→aE α→Tree):Tree:=aE.rec (motive:=fun α _=>zV→(zV→aE α→Tree)→Tree)
 (fun a Φ k=>k Φ (.ret a)) (fun ids V cj iv h a Φ k=>k Φ (.fin ids V cj iv h a)) (fun x y h a Φ k=>k Φ (.s6 x y h a)) (fun Φ k=>.tt)
 (fun {_ β} x F h _ ih Φ k=>.all β fun v=>ih v (F v++Φ) k)
 (fun key b _ _ iL lX Φ k=>.and (iL ((key,([.g true],[b=true]))::(key+1,([.g false],[(!b)=false]))::Φ) k) (lX ((key,([.g false],[b=false]))::(key+1,([.g true],[(!b)=true]))::Φ) k))
 (fun key o ps h _ ih Φ k=>ih ((key,(o,ps))::Φ) k) (fun j key p _ Φ k=>k Φ (.use j key p))
 (fun o _ _ iL lX Φ k=>match o with
  | .inl a=>iL a Φ k
  | .inr b=>lX b Φ k)
 (fun n sp p kk _ _ Φ k=>k Φ (.cut n sp p kk)) (fun n sp p kk _ _ Φ k=>k Φ (.dK n sp p kk))
 (fun key idx n s0 sp body kk _ _ Φ k=>k Φ (.aG key idx n s0 sp body kk)) (fun s0 sp body kk _ _ Φ k=>k Φ (.iter s0 sp body kk))
 (fun n ws p _ Φ k=>k Φ (.cE n ws p)) (fun n p _ Φ k=>k Φ (.aD n p)) (fun n m kk _ Φ k=>k Φ (.pp n m kk))
 (fun key n len i _ _ _ iL lX Φ k=>.and (iL ((key,([.k i],[XA n 0 len i]))::Φ) k) (lX Φ k)) p Φ k
theorem bu.add {Φ:zV} (h:bu Φ) {key:Nat} {f:G3} (hf:dz f.2):bu ((key,f)::Φ):=fun k g hg=>by
 simp only [zc] at hg
 split at hg
 ·cases hg;exact hf
 ·exact h k g hg
theorem G4 {α:Type}:∀ {l m:List (Nat×α)} {k:Nat} {x:α},zc (l++m) k=some x→zc l k=some x∨zc m k=some x
 | [],m,k,x,h=>.inr h
 | (k',y)::l,m,k,x,h=>by
  simp only [uq,zc] at h ⊢
  split at h
  ·rename_i e;rw [if_pos e];exact .inl h
  ·rename_i e;rw [if_neg e];exact G4 h
theorem bu.app {Φ Ψ:zV} (h:bu Φ) (h':bu Ψ):bu (Φ++Ψ):=fun k f hf=>(G4 hf).elim (h k f) (h' k f)
theorem bu.nil:bu []:=fun _ _ h=>by cases h
theorem jh {α:Type} (p:aE α):∀ {Φ:zV} {k:zV→aE α→Tree} {r:α},bu Φ→(settle p Φ k).Ok→p.run=some r→∃ Φ' p',bu Φ'∧p'.run=some r∧(k Φ' p').Ok:=by
 induction p with
 | ret a=>exact fun hΦ hk hr=>⟨_,_,hΦ,hr,hk⟩
 | fin ids V cj iv h a=>exact fun hΦ hk hr=>⟨_,_,hΦ,hr,hk⟩
 | s6 x y h a=>exact fun hΦ hk hr=>⟨_,_,hΦ,hr,hk⟩
 | none=>intro Φ k r hΦ hk hr;cases hr
 | bind x F h kk ih=>
  intro Φ k r hΦ hk hr
  obtain ⟨v,h1,h2⟩:=Xw hr
  exact ih v ((h v h1).app hΦ) (hk v) h2
 | ite key b p q iL lX=>
  intro Φ k r hΦ hk hr
  have hr':(bif b then p.run else q.run)=some r:=hr
  cases b with
  | true=>exact iL ((hΦ.add (f:=([.g false],[(!true)=false])) (.cons rfl .nil)).add (f:=([.g true],[true=true])) (.cons rfl .nil)) hk.1 hr'
  | false=>exact lX ((hΦ.add (f:=([.g true],[(!false)=true])) (.cons rfl .nil)).add (f:=([.g false],[false=false])) (.cons rfl .nil)) hk.2 hr'
 | fact key o ps h p ih=>exact fun hΦ hk hr=>ih (hΦ.add (f:=(o,ps)) h) hk hr
 | use j key p ih=>exact fun hΦ hk hr=>⟨_,_,hΦ,hr,hk⟩
 | case o p q iL lX=>
  intro Φ k r hΦ hk hr
  cases o with
  | inl a=>exact iL a hΦ hk hr
  | inr b=>exact lX b hΦ hk hr
 | cut n sp p kk _ _=>exact fun hΦ hk hr=>⟨_,_,hΦ,hr,hk⟩
 | dK n sp p kk _ _=>exact fun hΦ hk hr=>⟨_,_,hΦ,hr,hk⟩
 | aG key idx n s0 sp body kk _ _=>exact fun hΦ hk hr=>⟨_,_,hΦ,hr,hk⟩
 | iter s0 sp body kk _ _=>exact fun hΦ hk hr=>⟨_,_,hΦ,hr,hk⟩
 | cE n ws p ih=>exact fun hΦ hk hr=>⟨_,_,hΦ,hr,hk⟩
 | aD n p ih=>exact fun hΦ hk hr=>⟨_,_,hΦ,hr,hk⟩
 | pp n m kk ih=>exact fun hΦ hk hr=>⟨_,_,hΦ,hr,hk⟩
 | oH key n len i hi p q iL lX=>
  intro Φ k r hΦ hk hr
  have hr':(bif n == (i:Int) then p.run else q.run)=some r:=hr
  have hlt:i < len:=by simpa [uB] using hi
  by_cases e:n=(i:Int)
  ·rw [show (n == (i:Int))=true by simp [e]] at hr'
   exact iL (hΦ.add (f:=([.k i],[XA n 0 len i])) (.cons ⟨by omega,by omega,by omega⟩ .nil)) hk.1 hr'
  ·rw [show (n == (i:Int))=false by simp [e]] at hr'
   exact lX hΦ hk.2 hr'
def aE.used {α:Type} (p:aE α) (j:Nat):Option (Nat×aE α):=match p with
 | .use j' key q=>match ur j' j with
  | true=>some (key,q)
  | false=>Option.none
 | _=>Option.none
theorem Wq {α:Type} {p q:aE α} {j key:Nat} (h:p.used j=some (key,q)):q.run=p.run:=by
 unfold aE.used at h
 split at h
 ·split at h
  ·cases h;rfl
  ·cases h
 ·cases h
abbrev YT:=(l id:Nat)→(args:List AV)→(heap:List (Nat×aI))→(next:Nat)→(α:Type)→zV→aE α→(AV→List (Nat×aI)→Nat→zV→aE α→Tree)→Tree
def rL:YT:=fun _ _ _ _ _ _ _ _ _=>.bad 1183
def Cj (C:bY) (Yt:YT):Prop:=∀ (l id:Nat) (args:List AV) (heap:List (Nat×aI)) (next:Nat) (α:Type) (Φ:zV) (p:aE α) (k:AV→List (Nat×aI)→Nat→zV→aE α→Tree) (r:α) (KK:AV→List (Nat×aI)→Nat→Prop),bu Φ→p.run=some r→(Yt l id args heap next α Φ p k).Ok →
 (∀ v h n Φ' p',bu Φ'→p'.run=some r→(k v h n Φ' p').Ok→KK v h n)→C.Y l id args heap next KK
theorem Vh (C:bY):Cj C rL:=fun _ _ _ _ _ _ _ _ _ _ _ _ _ h _=>h.elim
def Yk (op:dc) (st:St):Option (Nat×Nat×List AV):=match op with
 | .call f args=>match zd st.env f with
  | .eI l id=>some (l,id,args.map (zd st.env))
  | _=>Option.none
 | _=>Option.none
theorem Oo {op:dc} {st:St} {l id:Nat} {args:List AV} (h:Yk op st=some (l,id,args)):∃ f cJ,op=.call f cJ∧zd st.env f=.eI l id∧args=cJ.map (zd st.env):=by
 unfold Yk at h
 split at h
 ·split at h
  ·rename_i e;cases h;exact ⟨_,_,rfl,e,rfl⟩
  ·cases h
 ·cases h
section
variable (C:Ctx)
def Bd (dr:Option (List Nat)) (op:dc) (X:Nat) (st:St):St:=match dr with
 | Option.none=>st
 | some _=>match gp op with
  | true=>⟨st.env,st.heap,X⟩
  | false=>st
def Ck {α:Type} (dr:Option (List Nat)) (X:Nat) (dst:Option Nat) (j:Nat) (W R:List (Nat×Nat)) (D:List Nat) (st:St) (r:AV) (aQ:List (Nat×aI)) (rd:List Nat) (d:Nat) (next:List (Nat×Nat)→List (Nat×Nat)→List Nat→St→Nat→zV→aE α→Tree) (Φ:zV) (q:aE α):Tree:=match dr with
 | Option.none=>next W R (Cc D dst) (st.oC dst r aQ d) X Φ q
 | some ord=>match jx ord j W R (zQ aQ) rd with
  | true=>next (qD j (zQ aQ) W) (qD j rd R) (Cc D dst) (st.after dst r aQ) (X+d) Φ q
  | false=>.bad 1215
def DS {α:Type} (dr:Option (List Nat)) (X:Nat) (it:bh) (j:Nat) (W R:List (Nat×Nat)) (D:List Nat) (st:St) (Φ:zV) (p:aE α) (next:List (Nat×Nat)→List (Nat×Nat)→List Nat→St→Nat→zV→aE α→Tree):Tree:=match p.used j with
 | Option.none=>match ic C it.op [] D (Bd dr it.op X st) with
  | some (r,aQ,rd,_,[],d)=>Ck dr X it.dst j W R D st r aQ rd d next Φ p
  | _=>.bad 1209
 | some (key,q)=>match zc Φ key with
  | Option.none=>.bad 1211
  | some (o,ps)=>match ic C it.op o D (Bd dr it.op X st) with
   | some (r,aQ,rd,_,ps',d)=>.eq (List Prop) ps' ps (Ck dr X it.dst j W R D st r aQ rd d next Φ q)
   | Option.none=>.bad 1216
def DT {α:Type} (gd:Option (Nat×Bool)) (j:Nat) (D:List Nat) (st:St) (Φ:zV) (p:aE α) (next:Bool→List Nat→St→zV→aE α→Tree):Tree:=match Va gd [] D st with
 | some (b,_,[],D',bF)=>next b D' bF Φ p
 | some (_,_,_::_,_,_)=>.bad 1221
 | Option.none=>match p.used j with
  | Option.none=>.bad 1223
  | some (key,q)=>match zc Φ key with
   | Option.none=>.bad 1225
   | some (o,ps)=>match Va gd o D st with
    | some (b,_,ps',D',bF)=>.eq (List Prop) ps' ps (next b D' bF Φ q)
    | Option.none=>.bad 1228
noncomputable def DU {α:Type} (Yt:YT) (dr:Option (List Nat)) (X:Nat) (it:bh) (j:Nat) (W R:List (Nat×Nat)) (D:List Nat) (st:St) (Φ:zV) (p:aE α) (next:List (Nat×Nat)→List (Nat×Nat)→List Nat→St→Nat→zV→aE α→Tree):Tree:=match Yk it.op st with
 | Option.none=>DS C dr X it j W R D st Φ p next
 | some (l,id,args)=>match dr with
  | Option.none=>Yt l id args st.heap st.next α Φ p fun r heap nx Φ p=>next W R (Cc D it.dst) (St.put {env:=st.env,heap:=heap,next:=nx+1} it.dst r) X Φ p
  | some _=>.bad 1234
noncomputable def QH {α:Type} (Yt:YT) (dr:Option (List Nat)):List bh→Nat→Nat→List (Nat×Nat)→List (Nat×Nat)→List Nat→St→zV→aE α→(St→zV→aE α→Tree)→Tree
 | [],_,X,_,_,_,st,Φ,p,k=>k (match dr with
  | Option.none=>st
  | some _=>⟨st.env,st.heap,X⟩) Φ p
 | it::rest,j,X,W,R,D,st,Φ,p,k=>settle p Φ fun Φ p=>DT it.guard j D st Φ p fun b D st Φ p=>match b with
  | false=>QH Yt dr rest (j+1) X W R (Cc D it.dst) (st.after it.dst .undef []) Φ p k
  | true=>settle p Φ fun Φ p=>DU C Yt dr X it j W R D st Φ p fun W R D st X Φ p=>QH Yt dr rest (j+1) X W R D st Φ p k
end
section
variable {C:Ctx}
theorem G5 {α:Type} {gd:Option (Nat×Bool)} {j:Nat} {D:List Nat} {st:St} {Φ:zV} {p:aE α} {next:Bool→List Nat→St→zV→aE α→Tree} {r:α} (hΦ:bu Φ) (hr:p.run=some r) (h:(DT gd j D st Φ p next).Ok) :
  ∃ b D' q,qc st.env gd=some b∧q.run=some r∧(next b D' st Φ q).Ok:=by
 unfold DT at h
 split at h
 ·rename_i b _ D' bF hg
  obtain ⟨rfl,h1⟩:=X8 hg .nil
  exact ⟨b,D',p,h1,hr,h⟩
 ·exact h.elim
 ·split at h
  ·exact h.elim
  ·rename_i key q hu
   split at h
   ·exact h.elim
   ·rename_i o ps hk
    split at h
    ·rename_i b _ ps' D' bF hg
     obtain ⟨h1,h2⟩:=h
     subst h1
     obtain ⟨rfl,h3⟩:=X8 hg (hΦ _ _ hk)
     exact ⟨b,D',q,h3,(Wq hu).trans hr,h2⟩
    ·exact h.elim
theorem G6 {α:Type} {dr:Option (List Nat)} {X:Nat} {it:bh} {j:Nat} {W R:List (Nat×Nat)} {D:List Nat} {st:St} {Φ:zV} {p:aE α} {next:List (Nat×Nat)→List (Nat×Nat)→List Nat→St→Nat→zV→aE α→Tree} {r:α} (hΦ:bu Φ) (hr:p.run=some r) (h:(DS C dr X it j W R D st Φ p next).Ok) :
  ∃ o x aQ rd o' ps d q,ic C it.op o D (Bd dr it.op X st)=some (x,aQ,rd,o',ps,d)∧dz ps∧q.run=some r∧(Ck dr X it.dst j W R D st x aQ rd d next Φ q).Ok:=by
 unfold DS at h
 split at h
 ·split at h
  ·rename_i x aQ rd o' d hop
   exact ⟨[],x,aQ,rd,o',[],d,p,hop,.nil,hr,h⟩
  ·exact h.elim
 ·rename_i key q hu
  split at h
  ·exact h.elim
  ·rename_i o ps hk
   split at h
   ·rename_i x aQ rd o' ps' d hop
    obtain ⟨h1,h2⟩:=h
    subst h1
    exact ⟨o,x,aQ,rd,o',ps',d,q,hop,hΦ _ _ hk,(Wq hu).trans hr,h2⟩
   ·exact h.elim
theorem QJ {C:bY} {Yt:YT} (hY:Cj C Yt) {α:Type} {r:α} {K:St→Prop} {k:St→zV→aE α→Tree} (hK:∀ st Φ p,bu Φ→p.run=some r→(k st Φ p).Ok→K st):∀ (items:List bh) (j X:Nat) (W R:List (Nat×Nat)) (D:List Nat) (st:St) (Φ:zV) (p:aE α),
  bu Φ→p.run=some r→(QH C Yt Option.none items j X W R D st Φ p k).Ok→oA C items K st
 | [],j,X,W,R,D,st,Φ,p,hΦ,hr,h=>hK st Φ p hΦ hr h
 | it::rest,j,X,W,R,D,st,Φ,p,hΦ,hr,h=>by
  simp only [QH] at h
  obtain ⟨Φ1,p1,iT,cq,h1⟩:=jh p hΦ h hr
  obtain ⟨b,D2,p2,hg,cg,h2⟩:=G5 iT cq h1
  refine NM hg (fun hb => ?_) (fun hb => ?_)
  ·subst hb
   obtain ⟨Φ3,p3,lY,eB,h3⟩:=jh p2 iT h2 cg
   unfold DU at h3
   split at h3
   ·obtain ⟨o,x,aQ,rd,o',ps,d,q,e1,e2,e4,e5⟩:=G6 lY eB h3
    exact NL e1 e2 (QJ hY hK rest _ _ _ _ _ _ _ _ lY e4 e5)
   ·rename_i l id args Oq
    obtain ⟨f,cJ,hop,hf,rfl⟩:=Oo Oq
    rw [hop]
    simp only [cw,hf,W5]
    exact hY _ _ _ _ _ _ _ _ _ _ _ lY eB h3 (fun v h n Φ' p' a1 a2 a3=>QJ hY hK rest _ _ _ _ _ _ _ _ a1 a2 a3)
  ·subst hb
   exact QJ hY hK rest _ _ _ _ _ _ _ _ iT cg h2
theorem Ot {op:dc} {cB o':List fA} {D:List Nat} {st:St} {X:Nat} {r:AV} {aQ:List (Nat×aI)} {rd:List Nat} {ps:List Prop} {d:Nat} {ord:List Nat} {dst:Option Nat} {gd:Option (Nat×Bool)} (hg:qc st.env gd=some true) (h:ic C op cB D (Bd (some ord) op X st)=some (r,aQ,rd,o',ps,d)) (hp:dz ps) :
  nw C ⟨dst,op,gd⟩ st ⟨dst,r,aQ,rd,uL X d⟩:=by
 unfold Bd at h
 simp only at h
 split at h
 ·rename_i hc
  cases op<;>first | (cases hc;done) | skip
  rename_i f args
  simp only [nw,hg]
  simp only [ic] at h
  unfold DG at h
  split at h
  ·rename_i f' first bC hf
   have hf':zd st.env f=.func f' first bC:=hf
   simp only [hf']
   split at h
   ·split at h
    ·rename_i dH hiv
     split at h
     ·rename_i hm;cases h;exact dJ.pure (d:=5) hp.one hm hiv
     ·cases h
    ·cases h
   ·split at h
    ·rename_i cj ho
     split at h
     ·rename_i hm
      cases h
      cases hp with
      | cons h1 h2=>exact dJ.A6 (d:=5) h1 ho (Kb ho) h2.one hm
     ·cases h
    ·cases h
   ·split at h
    ·rename_i cj ho
     split at h
     ·rename_i hm
      cases h
      exact dJ.dA hp.one hm ho
     ·cases h
    ·cases h
   ·cases h
  ·cases h
 ·rename_i hc
  obtain ⟨e,hr,rfl⟩:=GK hc h hp
  cases op<;>first | (cases hc;done) | (simp only [nw,hg];exact ⟨e,hr,rfl⟩)
theorem G7 {Yt:YT} {α:Type} {r:α} {K:St→Prop} {ord:List Nat} {k:St→zV→aE α→Tree} (hK:∀ st Φ p,bu Φ→p.run=some r→(k st Φ p).Ok→K st):∀ (items:List bh) (X:Nat) (W R:List (Nat×Nat)) (D:List Nat) (st:St) (Φ:zV) (p:aE α) (pre:List Rec),
  bu Φ→p.run=some r→(QH C Yt (some ord) items pre.length X W R D st Φ p k).Ok →
  (∀ (i:Nat) (ri:Rec) (x:Nat),pre[i]?=some ri→x∈zQ ri.aQ→(i,x)∈W)→(∀ (i:Nat) (ri:Rec) (x:Nat),pre[i]?=some ri→x∈ri.rd→(i,x)∈R) →
  (∀ (i j:Nat) (ri rj:Rec),pre[i]?=some ri→pre[j]?=some rj→i < j→j9 ri rj=true→dV ord i j=true) →
  ∃ recs bF M,ZM C items st recs bF∧(∀ (i j:Nat) (ri rj:Rec),(pre++recs)[i]?=some ri→(pre++recs)[j]?=some rj→i < j→j9 ri rj=true→dV ord i j=true)∧X≤M ∧
   (∀ rc∈recs,∀ i∈rc.ex,X≤i∧i < M)∧(∀ (k l:Nat) (rk rl:Rec) (i:Nat),recs[k]?=some rk→recs[l]?=some rl→i∈rk.ex→i∈rl.ex→k=l)∧K ⟨bF.env,bF.heap,M⟩
 | [],X,W,R,D,st,Φ,p,pre,hΦ,hr,h,hW,hR,hp=>⟨[],st,X,rfl,by simpa using hp,uf _,by simp,by simp,hK _ Φ p hΦ hr h⟩
 | it::rest,X,W,R,D,st,Φ,p,pre,hΦ,hr,h,hW,hR,hp=>by
  simp only [QH] at h
  obtain ⟨Φ1,p1,iT,cq,h1⟩:=jh p hΦ h hr
  obtain ⟨b,D2,p2,hg,cg,h2⟩:=G5 iT cq h1
  obtain ⟨rc,d,W',R',D',q,Φ',fe,iD,hex,hok,nX,G8,Ou,hq,mJ⟩:∃ (rc:Rec) (d:Nat) (W' R':List (Nat×Nat)) (D':List Nat) (q:aE α) (Φ':zV),rc.dst=it.dst∧nw C it st rc∧rc.ex=uL X d∧jx ord pre.length W R (zQ rc.aQ) rc.rd=true ∧
    (∀ p∈qD pre.length (zQ rc.aQ) W,p∈W')∧(∀ p∈qD pre.length rc.rd R,p∈R')∧bu Φ'∧q.run=some r ∧
    (QH C Yt (some ord) rest (pre.length+1) (X+d) W' R' D' (st.after it.dst rc.r rc.aQ) Φ' q k).Ok:=by
   cases b with
   | false=>
    refine ⟨⟨it.dst,.undef,[],[],[]⟩,0,W,R,_,p2,Φ1,rfl,?_,rfl,NN _ _ _ _,fun p hp=>by simpa [qD,zQ] using hp,fun p hp=>by simpa [qD] using hp,iT,cg,h2⟩
    simp only [nw,hg,and_self]
   | true=>
    obtain ⟨Φ3,p3,lY,eB,h3⟩:=jh p2 iT h2 cg
    unfold DU at h3
    split at h3
    case h_2=>exact h3.elim
    obtain ⟨o,x,aQ,rd,o',ps,d,q,e1,e2,e4,e5⟩:=G6 lY eB h3
    unfold Ck at e5
    simp only at e5
    split at e5
    ·rename_i hok
     exact ⟨⟨it.dst,x,aQ,rd,uL X d⟩,d,_,_,_,q,Φ3,rfl,Ot hg e1 e2,rfl,hok,fun p hp=>hp,fun p hp=>hp,lY,e4,e5⟩
    ·exact e5.elim
  have hlen:(pre++[rc]).length=pre.length+1:=by simp
  have split:∀ (i:Nat) (ri:Rec),(pre++[rc])[i]?=some ri→pre[i]?=some ri∨(i=pre.length∧ri=rc):=fun i ri hi=>by
   rw [List.getElem?_append] at hi
   split at hi
   ·exact .inl hi
   ·rename_i hge
    rcases Nat.eq_or_lt_of_le (Nat.le_of_not_lt hge) with e | e
    ·rw [←e] at hi;simp at hi;exact .inr ⟨e.symm,hi.symm⟩
    ·have:i - pre.length≠0:=by omega
     obtain ⟨m,hm⟩:=Nat.exists_eq_succ_of_ne_zero this
     rw [hm] at hi;simp at hi
  obtain ⟨recs,bF,M,h4,h5,h6,h7,h8,h9⟩:=G7 hK rest (X+d) W' R' D' (st.after it.dst rc.r rc.aQ) Φ' q (pre++[rc]) Ou hq (by rw [hlen];exact mJ)
   (fun i ri x hi hx=>by
    rcases split i ri hi with hi | ⟨rfl,rfl⟩
    ·exact nX _ (uF _ (hW i ri x hi hx))
    ·exact nX _ (uG _ (uP.2 ⟨x,hx,rfl⟩)))
   (fun i ri x hi hx=>by
    rcases split i ri hi with hi | ⟨rfl,rfl⟩
    ·exact G8 _ (uF _ (hR i ri x hi hx))
    ·exact G8 _ (uG _ (uP.2 ⟨x,hx,rfl⟩)))
   (fun i j ri rj hi hj hlt hc=>by
    rcases split j rj hj with hj | ⟨rfl,rfl⟩
    ·rcases split i ri hi with hi | ⟨rfl,rfl⟩
     ·exact hp i j ri rj hi hj hlt hc
     ·have:=(ub.1 hj).1;omega
    ·rcases split i ri hi with hi | ⟨rfl,rfl⟩
     ·simp only [jx,um,List.all_eq_true] at hok
      simp only [j9,uC,List.any_eq_true] at hc
      rcases hc with ⟨x,hx,hc⟩ | ⟨x,hx,hc⟩
      ·have:=hok.1 (i,x) (hW i ri x hi hx)
       simp only [uC,Bool.not_eq_true',Bool.or_eq_false_iff] at this
       rcases this with ⟨h7,h8⟩ | h7
       ·simp only [h7,h8] at hc;simp at hc
       ·exact h7
      ·have:=hok.2 x hx (i,x) (hR i ri x hi (by simpa using hc))
       simpa using this
     ·omega)
  have s8:∀ i,i∈rc.ex→X≤i∧i < X+d:=fun i hi=>by rw [hex,List.mem_range'_1] at hi;omega
  refine ⟨rc::recs,bF,M,⟨fe,iD,h4⟩,?_,by omega,fun r' hr' i hi => ?_,fun k l rk rl i hk hl hik rF => ?_,h9⟩
  ·simpa using h5
  ·rcases ut.1 hr' with rfl | hr'
   ·have:=s8 i hi;omega
   ·have:=h7 r' hr' i hi;omega
  ·cases k with
   | zero=>
    simp at hk
    subst hk
    cases l with
    | zero=>rfl
    | succ l=>
     have h10:=h7 rl (uu (by simpa using hl)) i rF
     have:=s8 i hik
     omega
   | succ k=>
    cases l with
    | zero=>
     simp at hl
     subst hl
     have h10:=h7 rk (uu (by simpa using hk)) i hik
     have:=s8 i rF
     omega
    | succ l=>rw [h8 k l rk rl i (by simpa using hk) (by simpa using hl) hik rF]
theorem Ov {C:bY} {nt:Fr} {Yt:YT} {α:Type} {r:α} {K:Exit→St→Prop} {ord:List Nat} {ks:Option (List Nat)} {k:St→zV→aE α→Tree} (hK:∀ st Φ p,bu Φ→p.run=some r→(k st Φ p).Ok→K .normal (st.keep ks)) {items:List bh} {st:St} {Φ:zV} {p:aE α}
  (hΦ:bu Φ) (hr:p.run=some r) (h:(QH C Yt (some ord) items 0 (st.next+items.length) [] [] [] st Φ p k).Ok):dF C nt (.region true ord items ks) K st:=by
 obtain ⟨recs,bF,M,h1,h2,h3,h4,h5,h6⟩:=G7 (C:=C) (K:=fun st=>K .normal (st.keep ks)) hK items (st.next+items.length) [] [] [] st Φ p [] hΦ hr h (by simp) (by simp) (by simp)
 have hl:=Qw h1
 obtain ⟨_,_,hn⟩:=Wm items st recs bF 0 (fun _=>true) h1 (fun _ _=>rfl)
 exact Wn h1 (Wo (by simpa using h2)) ⟨fun k rc i hk hi=>by rw [hl];exact (h4 rc (uu hk) i hi).1,h5⟩ M (by omega) (fun rc hrc i hi=>(h4 rc hrc i hi).2) h6
end
def Vi (m:Nat) (env:List (Nat×AV)) (t:Tree):List (Nat×AV)→Tree
 | []=>t
 | (k,b)::l=>match zc env k with
  | some a=>match zS m b with
   | true=>.eq AV a b (Vi m env t l)
   | false=>.bad 1340
  | Option.none=>.bad 1341
def Cl (m:Nat) (heap:List (Nat×aI)) (t:Tree):List (Nat×aI)→Tree
 | []=>t
 | (k,b)::l=>match zc heap k with
  | some a=>match Yi m b&&decide (k < m) with
   | true=>.eq aI a b (Cl m heap t l)
   | false=>.bad 1347
  | Option.none=>.bad 1348
def Cm (heap:List (Nat×aI)) (t:Tree):List (Nat×aI)→Tree
 | []=>t
 | (k,b)::l=>match zc heap k with
  | some a=>.eq aI a b (Cm heap t l)
  | Option.none=>.bad 1353
theorem Wr {m:Nat} {env:List (Nat×AV)} {t:Tree}:∀ {l:List (Nat×AV)},(Vi m env t l).Ok→t.Ok∧∀ p∈l,zc env p.1=some p.2∧zS m p.2=true
 | [],h=>⟨h,fun p hp=>by cases hp⟩
 | (k,b)::l,h=>by
  simp only [Vi] at h
  split at h
  ·rename_i a ha
   split at h
   ·rename_i hb
    obtain ⟨rfl,h2⟩:=h
    obtain ⟨h3,h4⟩:=Wr h2
    refine ⟨h3,fun p hp => ?_⟩
    rcases ut.1 hp with rfl | hp
    ·exact ⟨ha,hb⟩
    ·exact h4 p hp
   ·exact h.elim
  ·exact h.elim
theorem G9 {m:Nat} {heap:List (Nat×aI)} {t:Tree}:∀ {l:List (Nat×aI)},(Cl m heap t l).Ok→t.Ok∧∀ p∈l,zc heap p.1=some p.2∧p.1 < m∧zY m p.2
 | [],h=>⟨h,fun p hp=>by cases hp⟩
 | (k,b)::l,h=>by
  simp only [Cl] at h
  split at h
  ·rename_i a ha
   split at h
   ·rename_i hb
    simp only [um,decide_eq_true_eq] at hb
    obtain ⟨rfl,h2⟩:=h
    obtain ⟨h3,h4⟩:=G9 h2
    refine ⟨h3,fun p hp => ?_⟩
    rcases ut.1 hp with rfl | hp
    ·exact ⟨ha,hb.2,kz hb.1⟩
    ·exact h4 p hp
   ·exact h.elim
  ·exact h.elim
theorem He {heap:List (Nat×aI)} {t:Tree}:∀ {l:List (Nat×aI)},(Cm heap t l).Ok→t.Ok∧∀ p∈l,zc heap p.1=some p.2
 | [],h=>⟨h,fun p hp=>by cases hp⟩
 | (k,b)::l,h=>by
  simp only [Cm] at h
  split at h
  ·rename_i a ha
   obtain ⟨rfl,h2⟩:=h
   obtain ⟨h3,h4⟩:=He h2
   refine ⟨h3,fun p hp => ?_⟩
   rcases ut.1 hp with rfl | hp
   ·exact ha
   ·exact h4 p hp
  ·exact h.elim
def QK (nx:Nat) (ov e0:List (Nat×AV)) (oh h0:List (Nat×aI)) (st:St) (t:Tree):Tree:=match uA nx st.next with
 | true=>Vi nx st.env (Vi nx st.env (Cm st.heap (Cl nx st.heap t h0) oh) e0) ov
 | false=>.bad 1405
def Vj (nx:Nat) (heap:List (Nat×aI)) (t:Tree):Option (List (List Int))→Tree
 | Option.none=>t
 | some Ls=>match uA 2000000 nx&&xd heap with
  | true=>.eq (List (Nat×aI)) (wx heap) (qN Ls) t
  | false=>.bad 1406
theorem Ow {nx:Nat} {heap:List (Nat×aI)} {t:Tree}:∀ {o:Option (List (List Int))},(Vj nx heap t o).Ok→t.Ok∧∀ p∈QG o,zc heap p.1=some p.2∧p.1 < nx∧zY nx p.2
 | Option.none,h=>⟨h,fun p hp=>by cases hp⟩
 | some Ls,h=>by
  unfold Vj at h
  simp only at h
  split at h
  ·rename_i e
   simp only [um] at e
   obtain ⟨h1,h2⟩:=h
   refine ⟨h2,fun p hp => ?_⟩
   obtain ⟨a1,a2,a3⟩:=Om h1 e.2 p hp
   exact ⟨a1,Nat.lt_of_lt_of_le a2 (ua e.1),a3 nx⟩
  ·exact h.elim
theorem Kj {nx:Nat} {ov e0:List (Nat×AV)} {oh h0:List (Nat×aI)} {st:St} {t:Tree} {o:Option (List (List Int))} (hb:cx nx oh) (h:(QK nx ov e0 oh h0 st (Vj nx st.heap t o)).Ok):t.Ok∧nx≤st.next∧(∀ p∈ov++e0,zc st.env p.1=some p.2∧zS nx p.2=true)∧∀ p∈oh++(h0++QG o),zc st.heap p.1=some p.2∧p.1 < nx∧zY nx p.2:=by
 unfold QK at h
 split at h
 ·rename_i hn
  obtain ⟨h1,a1⟩:=Wr h
  obtain ⟨h2,a2⟩:=Wr h1
  obtain ⟨h3,a3⟩:=He h2
  obtain ⟨h4,a4⟩:=G9 h3
  obtain ⟨h5,a5⟩:=Ow h4
  refine ⟨h5,ua hn,fun p hp => ?_,fun p hp => ?_⟩
  ·rcases uD.1 hp with hp | hp
   ·exact a1 p hp
   ·exact a2 p hp
  ·rcases uD.1 hp with hp | hp
   ·exact ⟨a3 p hp,hb.all p hp⟩
   ·rcases uD.1 hp with hp | hp
    ·exact a4 p hp
    ·exact a5 p hp
 ·exact h.elim
theorem Ws {nx:Nat} {ov e0:List (Nat×AV)} {oh h0:List (Nat×aI)} {st:St} {t:Tree} {o:Option (List (List Int))} (hb:cx nx oh) (h:(QK nx ov e0 oh h0 st (Vj nx st.heap t o)).Ok):t.Ok∧ct st ⟨ov++e0,oh++(h0++QG o),nx⟩:=by
 obtain ⟨h1,h2,h3,h4⟩:=Kj hb h
 exact ⟨h1,Ya h2 h3 h4⟩
def Spec.cE {β:Type} (sp:Spec β) (cL st:St) (b:β) (t:Tree):Tree:=QK sp.nx (sp.ov b) (qg sp.ks cL.env) (sp.oh b) (Vg sp.hs cL.heap) st (Vj sp.nx st.heap t (sp.ns b))
theorem Spec.gU {β:Type} {sp:Spec β} {cL st:St} {b:β} {t:Tree} (h:(sp.cE cL st b t).Ok):t.Ok∧ct st (sp.st cL b):=Ws (sp.Ci b) h
def Spec.ny {β:Type} (sp:Spec β) (cL st:St) (idx:Nat) (v:AV) (b:β) (t:Tree):Tree:=match zc st.env idx with
 | some a=>.eq AV a v (sp.cE cL st b t)
 | Option.none=>.bad 1430
theorem Spec.lZ {β:Type} {sp:Spec β} {cL st:St} {idx:Nat} {n:Int} {v:AV} {b:β} {t:Tree} (hv:v=vI n) (h:(sp.ny cL st idx v b t).Ok):t.Ok∧ct st (sp.fy cL idx n b):=by
 unfold Spec.ny at h
 split at h
 ·rename_i a ha
  obtain ⟨rfl,h1⟩:=h
  obtain ⟨h4,hn,a1,a3⟩:=Kj (sp.Ci b) h1
  refine ⟨h4,Ya hn (fun p hp => ?_) a3⟩
  rcases ut.1 hp with rfl | hp
  ·exact ⟨by rw [ha,hv],rfl⟩
  ·exact a1 p hp
 ·exact h.elim
end
section
def aE.dec {α:Type} (p:aE α):aE α:=match p with
 | .cut (n+1) sp q k=>.cut n sp q k
 | .dK (n+1) sp q k=>.dK n sp q k
 | .cE (n+1) w q=>.cE n w q
 | .pp (n+1) m q=>.pp n m q
 | p=>p
theorem XC {α:Type} (p:aE α):p.dec.run=p.run:=by
 unfold aE.dec;split<;>rfl
def aE.enter {α:Type} (p:aE α):aE α:=match p with
 | .aD 0 q=>q
 | .aD (n+1) q=>.aD n q
 | p=>p
theorem Kk {α:Type} (p:aE α):p.enter.run=p.run:=by
 unfold aE.enter;split<;>rfl
abbrev KT (α:Type):=Exit→St→zV→aE α→Tree
abbrev CT:=(α:Type)→St→zV→aE α→KT α→Tree
noncomputable def Hf {β:Type} (sp:Spec β) (cL:St):KT β:=fun e s Φ q=>match e with
 | .normal=>settle q Φ fun _ q=>match q with
  | .ret b=>sp.cE cL s b .tt
  | _=>.bad 2034
 | _=>.bad 2035
noncomputable def Hg {α β γ:Type} (sp:Spec β) (cL:St) (kk:β ⊕ γ→aE α) (k:KT α):KT (β ⊕ γ):=fun e s Φ q=>settle q Φ fun Φ q=>match e with
 | .normal=>match q with
  | .ret (.inl b)=>sp.cE cL s b .tt
  | _=>.bad 2039
 | e=>match q with
  | .ret (.inr c)=>k e s Φ (kk (.inr c))
  | _=>.bad 2042
noncomputable def Zb (go:CT):CT:=fun α st Φ p k=>.step (settle p Φ fun Φ p=>match p with
 | .cut (β:=β) 0 sp q kk=>match uA st.next sp.nx with
  | true=>.and (go β st Φ q (Hf sp st)) (.all β fun b=>k .normal (sp.st st b) Φ (kk b))
  | false=>.bad 2048
 | .dK (β:=β) (γ:=γ) 0 sp q kk=>match uA st.next sp.nx with
  | true=>.and (go (β ⊕ γ) st Φ q (Hg sp st kk k)) (.all β fun b=>k .normal (sp.st st b) Φ (kk (.inl b)))
  | false=>.bad 2051
 | p=>go α st Φ p k)
def DV:List eV→St→(St→Tree)→Tree
 | [],st,f=>f st
 | w::ws,st,f=>w.T st (DV ws (w.to st) f)
noncomputable def jq (go:CT):CT:=fun α st Φ p k=>settle p Φ fun Φ p=>match p with
 | .cE 0 ws q=>DV ws st fun st=>go α st Φ q k
 | p=>go α st Φ p k
noncomputable def DW {α σ ρ:Type} (kk:ρ→aE α) (W:St→σ→Tree) (k:KT α):KT (σ ⊕ ρ):=fun e s Φ q=>settle q Φ fun Φ q=>match e with
 | .normal=>match q with
  | .ret (.inl s')=>W s s'
  | _=>.bad 2063
 | e=>match q with
  | .ret (.inr y)=>k e s Φ (kk y)
  | _=>.bad 2066
noncomputable def Hh (c:cH) (go:CT):CT:=fun α st Φ p k=>settle p Φ fun Φ p=>match p with
 | .pp 0 m kk=>m.T c st fun b s=>k .normal s Φ (kk b)
 | p=>go α st Φ p k
variable (C:Ctx)
abbrev GT:=Bool→YT→CT
noncomputable def lJ (gN:bD→List Nat→GT→GT→CT):cH→GT
 | .skip=>fun pl Yt=>jq <| Zb <| jq fun α st Φ p k=>k .normal st Φ p
 | .region d o items ks=>fun pl Yt=>Hh (.region d o items ks) <| jq <| Zb <| jq fun α st Φ p k=>QH C Yt (match d with | true=>some o | false=>Option.none) items 0 (st.next+items.length) [] [] [] st Φ p.enter fun s Φ p=>k .normal (s.keep ks) Φ p
 | .seq x y=>fun pl Yt=>jq <| Zb <| jq fun α st Φ p k=>lJ gN x pl Yt α st Φ p.dec fun e s Φ q=>match e with
  | .normal=>lJ gN y pl Yt α s Φ q k
  | e=>k e s Φ q
 | .cond c x y=>fun pl Yt=>jq <| Zb <| jq fun α st Φ p k=>match zd st.env c with
  | .ak (.bool b)=>match p.used 999 with
   | some (key,q)=>match zc Φ key with
    | some ([.g true],ps)=>.eq (List Prop) ps [b=true] (lJ gN x pl Yt α st Φ q k)
    | some ([.g false],ps)=>.eq (List Prop) ps [b=false] (lJ gN y pl Yt α st Φ q k)
    | _=>.bad 2083
   | Option.none=>match b with
    | true=>lJ gN x pl Yt α st Φ p k
    | false=>lJ gN y pl Yt α st Φ p k
  | _=>.bad 2087
 | .block id x=>fun pl Yt=>jq <| Zb <| jq fun α st Φ p k=>lJ gN x pl Yt α st Φ p.dec fun e s Φ q=>match e with
  | .exit i=>match ur i id with
   | true=>k .normal s Φ q
   | false=>k (.exit i) s Φ q
  | e=>k e s Φ q
 | .scope x=>fun pl Yt=>jq <| Zb <| jq fun α st Φ p k=>match pl with
  | true=>lJ gN x pl Yt α st Φ p.dec fun e s Φ q=>match e with
   | .goto _=>.bad 2095
   | e=>k e s Φ q
  | false=>.bad 2097
 | .exit id=>fun pl Yt=>jq <| Zb <| jq fun α st Φ p k=>k (.exit id) st Φ p
 | .ret=>fun pl Yt=>jq <| Zb <| jq fun α st Φ p k=>k .ret st Φ p
 | .range f ps x y=>fun pl Yt=>jq <| Zb <| jq fun α st Φ p k=>match pl with
  | true=>gN f ps (lJ gN x) (lJ gN y) α st Φ p.dec k
  | false=>.bad 2102
 | .loop x=>fun pl Yt=>jq <| Zb <| jq fun α st Φ p k=>match p with
  | .aG (σ:=σ) (ρ:=ρ) key idx n s0 sp body kk=>match ur sp.nx st.next with
   | true=>.and (sp.ny st st idx (vI 0) s0 .tt) (.and
    (.all Nat fun i=>.all σ fun s=>lJ gN x pl Yt (σ ⊕ ρ) (sp.fy st idx (i:Int) s) ((key,([.g true],[decide ((i:Int) < n)=true]))::(key+1,([.g false],[(!decide ((i:Int) < n))=false]))::Φ) (body i s) (DW (fun y=>kk (.inr y)) (fun bF s'=>sp.ny st bF idx (vI (IntKind.i64.wrap ((i:Int)+1))) s' .tt) k))
    (.all Nat fun i=>.all σ fun s=>lJ gN x pl Yt α (sp.fy st idx (i:Int) s) ((key,([.g false],[decide ((i:Int) < n)=false]))::(key+1,([.g true],[(!decide ((i:Int) < n))=true]))::Φ) (kk (.inl s)) fun e s Φ q=>match e with
     | .normal=>.bad 2108
     | e=>k e s Φ q))
   | false=>.bad 2110
  | .iter (σ:=σ) (ρ:=ρ) s0 sp body kk=>match ur sp.nx st.next with
   | true=>.and (sp.cE st st s0 .tt) (.all σ fun s=>lJ gN x pl Yt (σ ⊕ ρ) (sp.st st s) Φ (body s) (DW kk (fun bF s'=>sp.cE st bF s' .tt) k))
   | false=>.bad 2113
  | _=>.bad 2114
variable {C:bY} {nt:Fr}
def ZA (C:bY) (nt:Fr) (c:cH) (go:CT):Prop:=∀ {α:Type} {r:α} (st:St) (Φ:zV) (p:aE α) (k:KT α) (K:Exit→St→Prop),bu Φ→p.run=some r→(go α st Φ p k).Ok →
 (∀ e s Φ q,bu Φ→q.run=some r→(k e s Φ q).Ok→K e s)→dF C nt c K st
theorem yi {x:cH} {K:Exit→St→Prop} {st:St} (ST:St) (hn:st.next≤ST.next) (hK:K .normal ST) (hx:dF C nt x (kW (fun s=>ct s ST) K) st):dF C nt x K st:=by
 intro code hc g a w R hI
 refine Code.wpIn_mono ?_ (hx code hc g a w R hI)
 rintro e a' w' ⟨bF,g',hk,R',E'⟩
 cases e with
 | normal=>
  obtain ⟨g2,R2,Di⟩:=hk C nt g' a' w' R'
  exact ⟨ST,g2,hK,R2,Di g st w hn E'⟩
 | _=>exact ⟨bF,g',hk,R',E'⟩
theorem jr {c:cH} {go:CT} (h:ZA C nt c go):ZA C nt c (Zb go):=by
 intro α r st Φ p k K hΦ hr hok hk
 obtain ⟨Φ1,p1,iT,cq,h1⟩:=jh p hΦ hok hr
 split at h1
 ·rename_i β sp q kk
  split at h1
  ·rename_i hn
   obtain ⟨b,sX,gJ⟩:=Xw (show ud q.run (fun b=>(kk b).run)=some r from cq)
   refine yi (sp.st st b) (ua hn) (hk _ _ _ _ iT gJ (h1.2 b)) ?_
   refine h st Φ1 q (Hf sp st) _ iT sX h1.1 ?_
   intro e s Φ2 q2 gO cg h2
   cases e with
   | normal=>
    obtain ⟨Φ3,q3,lY,eB,h3⟩:=jh q2 gO h2 cg
    split at h3
    ·cases eB;exact (Spec.gU h3).2
    ·exact h3.elim
   | _=>exact h2.elim
  ·exact h1.elim
 ·rename_i β γ sp q kk
  split at h1
  ·rename_i hn
   obtain ⟨d,o8,hd2⟩:=Xw (show ud q.run (fun b=>(kk b).run)=some r from cq)
   have key:∀ (e:Exit) (s:St) (Φ2:zV) (q2:aE (β ⊕ γ)),bu Φ2→q2.run=some d→(Hg sp st kk k e s Φ2 q2).Ok→(∃ b,d=.inl b∧e=.normal∧ct s (sp.st st b))∨(e≠.normal∧(∃ y,d=.inr y)∧K e s):=by
    intro e s Φ2 q2 gO cg h2
    obtain ⟨Φ3,q3,lY,eB,h3⟩:=jh q2 gO h2 cg
    split at h3
    ·split at h3
     ·rename_i b;exact .inl ⟨b,(Option.some.inj eB).symm,rfl,(Spec.gU h3).2⟩
     ·exact h3.elim
    ·rename_i hne
     split at h3
     ·rename_i y
      have:d=.inr y:=(Option.some.inj eB).symm
      subst this
      exact .inr ⟨hne,⟨y,rfl⟩,hk _ _ _ _ lY hd2 h3⟩
     ·exact h3.elim
   cases d with
   | inl b=>
    refine yi (sp.st st b) (ua hn) (hk _ _ _ _ iT hd2 (h1.2 b)) ?_
    refine h st Φ1 q _ _ iT o8 h1.1 ?_
    intro e s Φ2 q2 gO cg h2
    rcases key e s Φ2 q2 gO cg h2 with ⟨b',e1,rfl,e3⟩ | ⟨_,⟨y,e1⟩,_⟩
    ·cases e1;exact e3
    ·cases e1
   | inr y=>
    refine h st Φ1 q _ _ iT o8 h1.1 ?_
    intro e s Φ2 q2 gO cg h2
    rcases key e s Φ2 q2 gO cg h2 with ⟨b',e1,_,_⟩ | ⟨_,_,e3⟩
    ·cases e1
    ·exact e3
  ·exact h1.elim
 ·exact h st Φ1 p1 k K iT cq h1 hk
theorem Hi {c:cH} {K:Exit→St→Prop} {f:St→Tree}:∀ (ws:List eV) (st:St),(DV ws st f).Ok→(∀ bF,(f bF).Ok→dF C nt c K bF)→dF C nt c K st
 | [],st,h,hf=>hf st h
 | w::ws,st,h,hf=>by
  obtain ⟨h1,h2,h3⟩:=w.ok _ _ h
  exact F7 h2 h3 (Hi ws _ h1 hf)
theorem zT {c:cH} {go:CT} (h:ZA C nt c go):ZA C nt c (jq go):=by
 intro α r st Φ p k K hΦ hr hok hk
 obtain ⟨Φ1,p1,iT,cq,h1⟩:=jh p hΦ hok hr
 split at h1
 ·rename_i ws q
  exact Hi ws st h1 fun bF h2=>h bF Φ1 q k K iT cq h2 hk
 ·exact h _ _ _ k K iT cq h1 hk
theorem Ox {c:cH} {go:CT} (h:ZA C nt c go):ZA C nt c (Hh c go):=by
 intro α r st Φ p k K hΦ hr hc hk
 obtain ⟨Φ1,p1,iT,cq,h1⟩:=jh p hΦ hc hr
 split at h1
 ·rename_i m kk
  have DX:ud m.x (fun b=>(kk b).run)=some r:=cq
  obtain ⟨b,hb,cg⟩:=Xw DX
  exact m.ok C nt c st _ K b hb h1 fun s hs=>hk _ _ _ _ iT cg hs
 ·exact h st Φ1 _ k K iT cq h1 hk
theorem Hj {α σ ρ:Type} {kk:ρ→aE α} {W:St→σ→Tree} {k:KT α} {o:σ ⊕ ρ} {e:Exit} {s:St} {Φ:zV} {q:aE (σ ⊕ ρ)} (hΦ:bu Φ) (hr:q.run=some o) (h:(DW kk W k e s Φ q).Ok) :
  (e=.normal∧∃ s',o=.inl s'∧(W s s').Ok)∨(e≠.normal∧∃ y Φ',o=.inr y∧bu Φ'∧(k e s Φ' (kk y)).Ok):=by
 obtain ⟨Φ3,q3,lY,eB,h3⟩:=jh q hΦ h hr
 split at h3
 ·split at h3
  ·rename_i s';exact .inl ⟨rfl,s',(Option.some.inj eB).symm,h3⟩
  ·exact h3.elim
 ·rename_i hne
  split at h3
  ·rename_i y;exact .inr ⟨hne,y,Φ3,(Option.some.inj eB).symm,lY,h3⟩
  ·exact h3.elim
def DY (C:Ctx) (c:cH) (go:GT):Prop:=∀ (ro:Option Nat) (eY:Option (Gh×St×World)) Y ym yk (pl:Bool) (Yt:YT) (nt:Fr),(pl=true→ro=none)→Cj ⟨C,ro,eY,Y,ym,yk⟩ Yt→ZA ⟨C,ro,eY,Y,ym,yk⟩ nt c (go pl Yt)
def DZ (C:Ctx) (gN:bD→List Nat→GT→GT→CT):Prop:=∀ (f:bD) (ps:List Nat) (x y:cH) (gx gy:GT),DY C x gx→DY C y gy →
 ∀ (eY:Option (Gh×St×World)) Y ym yk (nt:Fr),ZA ⟨C,none,eY,Y,ym,yk⟩ nt (.range f ps x y) (gN f ps gx gy)
theorem qG {C:Ctx} {gN:bD→List Nat→GT→GT→CT} (hG:DZ C gN):∀ c:cH,DY C c (lJ C gN c)
 | .skip=>fun ro eY Y ym yk pl Yt nt eD hY=>zT <| jr <| zT fun st Φ p k K hΦ hr h hk=>F0 (hk _ _ _ _ hΦ hr h)
 | .region d o items ks=>fun ro eY Y ym yk pl Yt nt eD hY=>Ox <| zT <| jr <| zT fun st Φ p k K hΦ hr h hk=>by
  cases d with
  | false=>exact Nq (QJ hY (K:=Qy ks K) (fun s Φ q h1 h2 h3=>hk _ _ _ _ h1 h2 h3) items 0 _ [] [] [] st Φ p.enter hΦ ((Kk p).trans hr) h)
  | true=>exact Ov (fun s Φ q h1 h2 h3=>hk _ _ _ _ h1 h2 h3) hΦ ((Kk p).trans hr) h
 | .seq x y=>fun ro eY Y ym yk pl Yt nt eD hY=>zT <| jr <| zT fun st Φ p k K hΦ hr h hk=>by
  refine F4 (qG hG x ro eY Y ym yk pl Yt nt eD hY st Φ p.dec _ _ hΦ ((XC p).trans hr) h ?_)
  intro e s Φ2 q2 gO cg h2
  cases e with
  | normal=>exact qG hG y ro eY Y ym yk pl Yt nt eD hY s Φ2 q2 k K gO cg h2 hk
  | _=>exact hk _ _ _ _ gO cg h2
 | .cond c x y=>fun ro eY Y ym yk pl Yt nt eD hY=>zT <| jr <| zT fun st Φ p k K hΦ hr h hk=>by
  split at h
  ·rename_i b hc
   split at h
   ·rename_i key q hu
    have hq:=(Wq hu).trans hr
    split at h
    ·rename_i ps hf
     obtain ⟨h1,h2⟩:=h
     have hb:b=true:=by have:=hΦ _ _ hf;simp only [h1] at this;exact this.one
     exact yc b hc (fun _=>qG hG x ro eY Y ym yk pl Yt nt eD hY st Φ q k K hΦ hq h2 hk) (fun e=>by rw [hb] at e;cases e)
    ·rename_i ps hf
     obtain ⟨h1,h2⟩:=h
     have hb:b=false:=by have:=hΦ _ _ hf;simp only [h1] at this;exact this.one
     exact yc b hc (fun e=>by rw [hb] at e;cases e) (fun _=>qG hG y ro eY Y ym yk pl Yt nt eD hY st Φ q k K hΦ hq h2 hk)
    ·exact h.elim
   ·split at h
    ·exact yc true hc (fun _=>qG hG x ro eY Y ym yk pl Yt nt eD hY st Φ p k K hΦ hr h hk) (fun e=>by cases e)
    ·exact yc false hc (fun e=>by cases e) (fun _=>qG hG y ro eY Y ym yk pl Yt nt eD hY st Φ p k K hΦ hr h hk)
  ·exact h.elim
 | .block id x=>fun ro eY Y ym yk pl Yt nt eD hY=>zT <| jr <| zT fun st Φ p k K hΦ hr h hk=>by
  refine Y5 (qG hG x ro eY Y ym yk pl Yt nt eD hY st Φ p.dec _ _ hΦ ((XC p).trans hr) h ?_)
  intro e s Φ2 q2 gO cg h2
  cases e with
  | exit i=>
   have h2:(match ur i id with
    | true=>k .normal s Φ2 q2
    | false=>k (.exit i) s Φ2 q2).Ok:=h2
   simp only [vi]
   cases hb:ur i id with
   | true=>rw [hb] at h2;rw [if_pos (uj hb)];exact hk _ _ _ _ gO cg h2
   | false=>
    rw [hb] at h2
    rw [if_neg (fun e=>by subst e;rw [uQ] at hb;cases hb)]
    exact hk _ _ _ _ gO cg h2
  | _=>exact hk _ _ _ _ gO cg h2
 | .scope x=>fun ro eY Y ym yk pl Yt nt eD hY=>zT <| jr <| zT fun st Φ p k K hΦ hr h hk=>by
  split at h
  ·refine Y6 (eD rfl) (qG hG x ro eY Y ym yk true Yt nt eD hY st Φ p.dec _ _ hΦ ((XC p).trans hr) h ?_)
   intro e s Φ2 q2 gO cg h2
   cases e with
   | goto l=>exact h2.elim
   | _=>exact hk _ _ _ _ gO cg h2
  ·exact h.elim
 | .range f ps x y=>fun ro eY Y ym yk pl Yt nt eD hY=>zT <| jr <| zT fun st Φ p k K hΦ hr h hk=>by
  split at h
  ·have:=eD rfl
   subst this
   exact hG f ps x y _ _ (qG hG x) (qG hG y) eY Y ym yk nt st Φ p.dec k K hΦ ((XC p).trans hr) h hk
  ·exact h.elim
 | .exit id=>fun ro eY Y ym yk pl Yt nt eD hY=>zT <| jr <| zT fun st Φ p k K hΦ hr h hk=>F5 (hk _ _ _ _ hΦ hr h)
 | .ret=>fun ro eY Y ym yk pl Yt nt eD hY=>zT <| jr <| zT fun st Φ p k K hΦ hr h hk=>F6 (hk _ _ _ _ hΦ hr h)
 | .loop x=>fun ro eY Y ym yk pl Yt nt eD hY=>zT <| jr <| zT fun {α} {r} st Φ p k K hΦ hr h hk=>by
  split at h
  ·rename_i σ ρ key idx n s0 sp body kk
   split at h
   ·rename_i nY
    have nY:sp.nx=st.next:=uj nY
    obtain ⟨h1,h2,h3⟩:=h
    obtain ⟨out,ho,hq⟩:=Xw (show ud (aG n (fun i s=>(body i s).run) s0) (fun o=>(kk o).run)=some r from hr)
    refine Nr ho (fun i s=>(sp.fy st idx (i:Int) s).env) (fun i s=>(sp.fy st idx (i:Int) s).heap) ?_ ?_ ?_
    ·have:=(Spec.lZ (n:=((0:Nat):Int)) rfl h1).2
     simp only [Spec.fy,nY] at this ⊢
     exact this
    ·intro i s o hi hw hb
     have hst:(⟨(sp.fy st idx (i:Int) s).env,(sp.fy st idx (i:Int) s).heap,st.next⟩:St)=sp.fy st idx (i:Int) s:=by simp only [Spec.fy,nY]
     rw [hst]
     refine qG hG x ro eY Y ym yk pl Yt nt eD hY _ _ (body i s) _ _ ((hΦ.add (f:=([.g false],[(!decide ((i:Int) < n))=false])) (.cons (by rw [decide_eq_true hi];rfl) .nil)).add (f:=([.g true],[decide ((i:Int) < n)=true])) (.cons (decide_eq_true hi) .nil)) hb (h2 i s) ?_
     intro e s2 Φ2 q2 gO cg h4
     rcases Hj gO cg h4 with ⟨rfl,s',rfl,h5⟩ | ⟨hne,y,Φ3,rfl,lY,h5⟩
     ·refine ⟨s',rfl,?_⟩
      have:=(Spec.lZ (n:=((i+1:Nat):Int)) (by rw [hw];rfl) h5).2
      simp only [Spec.fy,nY] at this ⊢
      exact this
     ·have:∀ (K':Exit→St→Prop),(∃ y',(Sum.inr y:σ ⊕ ρ)=.inr y'∧(out=.inr y'→K e s2))→B8 (fun s=>⟨(sp.fy st idx ((i+1:Nat):Int) s).env,(sp.fy st idx ((i+1:Nat):Int) s).heap,st.next⟩) K out (.inr y) e s2:=fun _ hh=>by
       cases e with
       | normal=>exact absurd rfl hne
       | _=>exact hh
      refine this K ⟨y,rfl,fun hout => ?_⟩
      subst hout
      exact hk _ _ _ _ lY hq h5
    ·intro m s hm hout
     subst hout
     have hst:(⟨(sp.fy st idx (m:Int) s).env,(sp.fy st idx (m:Int) s).heap,st.next⟩:St)=sp.fy st idx (m:Int) s:=by simp only [Spec.fy,nY]
     rw [hst]
     refine qG hG x ro eY Y ym yk pl Yt nt eD hY _ _ (kk (.inl s)) _ _ ((hΦ.add (f:=([.g true],[(!decide ((m:Int) < n))=true])) (.cons (by rw [decide_eq_false hm];rfl) .nil)).add (f:=([.g false],[decide ((m:Int) < n)=false])) (.cons (decide_eq_false hm) .nil)) hq (h3 m s) ?_
     intro e s2 Φ2 q2 gO cg h4
     cases e with
     | normal=>exact h4.elim
     | _=>exact hk _ _ _ _ gO cg h4
   ·exact h.elim
  ·rename_i σ ρ s0 sp body kk
   split at h
   ·rename_i nY
    have nY:sp.nx=st.next:=uj nY
    obtain ⟨h1,h2⟩:=h
    obtain ⟨out,ho,hq⟩:=Xw (show ud (iter (fun s=>(body s).run) s0) (fun o=>(kk o).run)=some r from hr)
    have hst:∀ s,(⟨(sp.st st s).env,(sp.st st s).heap,st.next⟩:St)=sp.st st s:=fun s=>by simp only [Spec.st,nY]
    refine Nt ho (fun s=>(sp.st st s).env) (fun s=>(sp.st st s).heap) ?_ ?_
    ·rw [hst];exact (Spec.gU h1).2
    ·intro s o hb
     rw [hst]
     refine qG hG x ro eY Y ym yk pl Yt nt eD hY _ _ (body s) _ _ hΦ hb (h2 s) ?_
     intro e s2 Φ2 q2 gO cg h4
     rcases Hj gO cg h4 with ⟨rfl,s',rfl,h5⟩ | ⟨hne,y,Φ3,rfl,lY,h5⟩
     ·refine ⟨s',rfl,?_⟩
      show ct s2 ⟨(sp.st st s').env,(sp.st st s').heap,st.next⟩
      rw [hst];exact (Spec.gU h5).2
     ·have:(∃ y',(Sum.inr y:σ ⊕ ρ)=.inr y'∧((Sum.inr out:σ ⊕ ρ)=.inr y'→K e s2))→B8 (fun s=>⟨(sp.st st s).env,(sp.st st s).heap,st.next⟩) K (.inr out) (.inr y) e s2:=fun hh=>by
       cases e with
       | normal=>exact absurd rfl hne
       | _=>exact hh
      refine this ⟨y,rfl,fun hout => ?_⟩
      cases hout
      exact hk _ _ _ _ lY hq h5
   ·exact h.elim
  ·exact h.elim
end
section
def XD (n:Nat):Nat:=Nat.shiftLeft 1 n
def Hl (m n:Nat):Bool:=ur (Nat.land 1 (Nat.shiftRight m n)) 1
def Z2:bD→Nat
 | .t n=>XD n
 | .c _=>0
 | .m n _=>XD n
def Wt:List bD→Nat
 | []=>0
 | x::r=>uc (Z2 x) (Wt r)
def Yl (it:bh):Nat:=match it.guard with
 | none=>Wt (zK it.op)
 | some (t,_)=>uc (XD t) (Wt (zK it.op))
def Oy (m n:Nat):Nat:=match Hl m n with
 | true=>Nat.sub m (XD n)
 | false=>m
def JK (out:Nat):List bh→Nat
 | []=>out
 | it::rest=>match it.guard,it.dst with
  | none,some d=>uc (Yl it) (Oy (JK out rest) d)
  | _,_=>uc (Yl it) (JK out rest)
def Ho:List bh→Nat
 | []=>0
 | it::rest=>uc (Yl it) (Ho rest)
def wQ:cH→Nat
 | .region _ _ items _=>Ho items
 | .seq x y=>uc (wQ x) (wQ y)
 | .cond c x y=>uc (Z2 c) (uc (wQ x) (wQ y))
 | .block _ x | .loop x | .scope x=>wQ x
 | .range f _ x y=>uc (Z2 f) (uc (wQ x) (wQ y))
 | _=>0
def Hp (ex:List (Nat×Nat)) (id:Nat):Nat:=match ex with
 | []=>0
 | (k,v)::r=>match ur k id with
  | true=>v
  | false=>Hp r id
def Cn:List (Nat×Nat)→Nat
 | []=>0
 | (_,v)::r=>uc v (Cn r)
def Wu (ret:Nat):cH→Nat→List (Nat×Nat)→Nat
 | .skip,out,_=>out
 | .region _ _ items _,out,_=>JK out items
 | .seq x y,out,ex=>Wu ret x (Wu ret y out ex) ex
 | .cond c x y,out,ex=>uc (Z2 c) (uc (Wu ret x out ex) (Wu ret y out ex))
 | .block id x,out,ex=>Wu ret x out ((id,out)::ex)
 | .loop x,out,ex=>uc ret (uc (wQ x) (Cn ex))
 | .scope x,out,ex=>Wu ret x out ex
 | .exit id,_,ex=>Hp ex id
 | .ret,_,_=>ret
 | .range f _ x y,out,ex=>uc (uc ret out) (uc (Z2 f) (uc (uc (wQ x) (wQ y)) (Cn ex)))
def Wv (m:Nat):Nat→List Nat
 | 0=>[]
 | n+1=>match Hl m n with
  | true=>n::Wv m n
  | false=>Wv m n
def fT (nt ret:Nat):cH→Nat→List (Nat×Nat)→cH
 | .skip,_,_=>.skip
 | .region d o items _,out,_=>.region d o items (some (Wv out nt))
 | .seq x y,out,ex=>.seq (fT nt ret x (Wu ret y out ex) ex) (fT nt ret y out ex)
 | .cond c x y,out,ex=>.cond c (fT nt ret x out ex) (fT nt ret y out ex)
 | .block id x,out,ex=>.block id (fT nt ret x out ((id,out)::ex))
 | .loop x,out,ex=>.loop (fT nt ret x (uc ret (uc (wQ x) (Cn ex))) ex)
 | .scope x,out,ex=>.scope (fT nt ret x out ex)
 | .exit id,_,_=>.exit id
 | .ret,_,_=>.ret
 | .range f ps x y,out,ex=>.range f ps (fT nt ret x (wQ y) ex) (fT nt ret y 0 ex)
theorem jN (nt ret:Nat):∀ (c:cH) (out:Nat) (ex:List (Nat×Nat)),(fT nt ret c out ex).erase=c.erase
 | .skip,_,_=>rfl
 | .region _ _ _ _,_,_=>rfl
 | .seq x y,out,ex=>by simp only [fT,cH.erase,jN nt ret x,jN nt ret y]
 | .cond c x y,out,ex=>by simp only [fT,cH.erase,jN nt ret x,jN nt ret y]
 | .block id x,out,ex=>by simp only [fT,cH.erase,jN nt ret x]
 | .loop x,out,ex=>by simp only [fT,cH.erase,jN nt ret x]
 | .scope x,out,ex=>by simp only [fT,cH.erase,jN nt ret x]
 | .exit id,_,_=>rfl
 | .ret,_,_=>rfl
 | .range f ps x y,out,ex=>by simp only [fT,cH.erase,jN nt ret x,jN nt ret y]
theorem js (C:Ctx) (nt:Nat):∀ (code:Code) (ac:cH),comp C nt code=some ac→ac.erase=ac
 | .skip,ac,h=>by simp only [comp] at h;cases h;rfl
 | .region _ ops draw,ac,h=>by
  simp only [comp] at h
  split at h
  ·split at h
   ·split at h
    ·cases h;rfl
    ·cases h
   ·cases h;rfl
  ·cases h
 | .seq a b,ac,h=>by
  simp only [comp] at h
  split at h
  ·rename_i x y hx hy;cases h;simp only [cH.erase,js C nt a x hx,js C nt b y hy]
  ·cases h
 | .cond c a b,ac,h=>by
  simp only [comp] at h
  split at h
  ·rename_i x y hx hy;cases h;simp only [cH.erase,js C nt a x hx,js C nt b y hy]
  ·cases h
 | .block id a,ac,h=>by
  simp only [comp] at h
  split at h
  ·rename_i x hx;cases h;simp only [cH.erase,js C nt a x hx]
  ·cases h
 | .loop a,ac,h=>by
  simp only [comp] at h
  split at h
  ·rename_i x hx;cases h;simp only [cH.erase,js C nt a x hx]
  ·cases h
 | .scope a,ac,h=>by
  simp only [comp] at h
  split at h
  ·rename_i x hx;cases h;simp only [cH.erase,js C nt a x hx]
  ·cases h
 | .label _,ac,h=>by simp only [comp] at h;cases h;rfl
 | .exit id,ac,h=>by simp only [comp] at h;cases h;rfl
 | .ret,ac,h=>by simp only [comp] at h;cases h;rfl
 | .rangeFunc _ ps a b,ac,h=>by
  simp only [comp] at h
  split at h
  ·split at h
   ·rename_i x y hx hy;cases h;simp only [cH.erase,js C nt a x hx,js C nt b y hy]
   ·cases h
  ·cases h
 | .goto _,ac,h=>by simp only [comp] at h;cases h
 | .refuse _,ac,h=>by simp only [comp] at h;cases h
theorem K5 {C:Ctx} {f:Nat} {F:dM} (h:qM C f=some F):F.erase=F:=by
 unfold qM at h
 split at h
 ·split at h
  ·split at h
   ·rename_i ac rs hac sw
    split at h
    ·cases h
    ·cases h;simp only [dM.erase,js C _ _ _ hac]
   ·cases h
  ·cases h
 ·cases h
def XE:List dR→Nat
 | []=>0
 | .tmp t::r=>uc (XD t) (XE r)
 | .cell t _ _::r=>uc (XD t) (XE r)
def dM.fT (F:dM):dM:={F with body:=Go.Proofs.YtcmmhbmgpflmeaaGreatDoor.fT F.nt (XE F.results) F.body (XE F.results) []}
theorem Ww {C:Ctx} {f:Nat} {F:dM} (h:qM C f=some F):qM C f=some F.fT.erase:=by
 rw [h]
 have:=K5 h
 simp only [dM.erase] at this
 simp only [dM.fT,dM.erase,jN]
 rw [this]
def Hq:bD→List Nat→GT→GT→CT:=fun _ _ _ _ _ _ _ _ _=>.bad 3161
theorem Oz (C:Ctx):DZ C Hq:=fun _ _ _ _ _ _ _ _ _ _ _ _ _ {_} {_} _ _ _ _ _ _ _ h _=>h.elim
def Vk (o:Option aI) (o':aI) (t:Tree):Tree:=match o with
 | some x=>.eq aI x o' t
 | none=>.bad 3167
theorem Wx {o:Option aI} {o':aI} {t:Tree} (h:(Vk o o' t).Ok):o=some o'∧t.Ok:=by
 unfold Vk at h
 split at h
 ·obtain ⟨rfl,h2⟩:=h;exact ⟨rfl,h2⟩
 ·exact h.elim
noncomputable def OA {α:Type} (dO L:Nat) (R:LoopState→Option Code→Loop) (k:AV→List (Nat×aI)→Nat→zV→aE α→Tree):KT α:=fun e s Φ q=>Vk (zc s.heap dO) (.lp L R .busy none) (match e with
 | .normal=>k (.ak (.bool true)) (zs s.heap dO (.lp L R .ready none)) (s.next+1) Φ q
 | .ret=>k (.ak (.bool false)) (zs s.heap dO (.lp L R .done (some .ret))) (s.next+1) Φ q
 | .exit id=>k (.ak (.bool false)) (zs s.heap dO (.lp L R .done (some (.exit id)))) (s.next+1) Φ q
 | _=>.bad 3178)
noncomputable def Hr (env:List (Nat×AV)) (dO L:Nat) (R:LoopState→Option Code→Loop) (ps:List Nat) (gx gy:GT):YT:=fun l id args heap next α Φ p k=>
 .eq (Nat×Nat) (l,id) (L,dO) (match ur args.length ps.length with
  | true=>Vk (zc heap dO) (.lp L R .ready none) (gx false rL α ⟨Ch ps args env,heap,next⟩ Φ p fun e s Φ q=>match e with
   | .normal=>Vk (zc s.heap dO) (.lp L R .ready none) (gy false rL α ⟨s.env,zs s.heap dO (.lp L R .busy none),s.next+1⟩ Φ q (OA dO L R k))
   | _=>.bad 3183)
  | false=>.bad 3184)
noncomputable def Co {α:Type} (env:List (Nat×AV)) (dO L:Nat) (R:LoopState→Option Code→Loop) (rs:List dR) (k:KT α) (s:St) (Φ:zV) (q:aE α):Tree:=match jI rs s with
 | some _=>match zc s.heap dO with
  | some (.lp L' R' .ready none)=>.eq aI (.lp L' R' .ready none) (.lp L R .ready none) (k .normal ⟨env,zs s.heap dO (.lp L R .exhausted none),s.next+1⟩ Φ q)
  | some (.lp L' R' .done (some .ret))=>.eq aI (.lp L' R' .done (some .ret)) (.lp L R .done (some .ret)) (k .ret ⟨env,zs s.heap dO (.lp L R .exhausted (some .ret)),s.next+1⟩ Φ q)
  | some (.lp L' R' .done (some (.exit id)))=>.eq aI (.lp L' R' .done (some (.exit id))) (.lp L R .done (some (.exit id))) (k (.exit id) ⟨env,zs s.heap dO (.lp L R .exhausted (some (.exit id))),s.next+1⟩ Φ q)
  | _=>.bad 3190
 | none=>.bad 3191
noncomputable def D0 (C:Ctx):bD→List Nat→GT→GT→CT:=fun f ps gx gy α st Φ p k=>match zd st.env f with
 | .func gf [] bC=>match qM C gf with
  | some F=>match uA (bC.length+1) F.nt with
   | true=>.all Nat fun L=>.all (LoopState→Option Code→Loop) fun R=>lJ C Hq F.fT.body true (Hr st.env st.next L R ps gx gy) α ⟨ju 0 (.eI L st.next::bC),zs st.heap st.next (.lp L R .ready none),st.next+1⟩ Φ p fun e s Φ q=>match e with
    | .ret=>Co st.env st.next L R F.results k s Φ q
    | .normal=>Co st.env st.next L R F.results k s Φ q
    | _=>.bad 3198
   | false=>.bad 3199
  | none=>.bad 3200
 | _=>.bad 3201
theorem Hs {α:Type} {env:List (Nat×AV)} {dO L:Nat} {R:LoopState→Option Code→Loop} {rs:List dR} {k:KT α} {s:St} {Φ:zV} {q:aE α} {K:Exit→St→Prop} (h:(Co env dO L R rs k s Φ q).Ok) (hk:∀ e s,(k e s Φ q).Ok→K e s) :
  ∃ r,jI rs s=some r∧GV env dO L R K s.heap s.next:=by
 unfold Co at h
 split at h
 ·rename_i r hr
  refine ⟨r,hr,?_⟩
  split at h
  ·rename_i ho;obtain ⟨h1,h2⟩:=h;rw [h1] at ho;exact .inl ⟨ho,hk _ _ h2⟩
  ·rename_i ho;obtain ⟨h1,h2⟩:=h;rw [h1] at ho;exact .inr (.inl ⟨ho,hk _ _ h2⟩)
  ·rename_i id ho;obtain ⟨h1,h2⟩:=h;rw [h1] at ho;exact .inr (.inr ⟨id,ho,hk _ _ h2⟩)
  ·exact h.elim
 ·exact h.elim
theorem Ht (C:Ctx):DZ C (D0 C):=by
 intro f ps x y gx gy hx hy eY Y ym yk nt α r st Φ p k K hΦ hr h hk
 unfold D0 at h
 split at h
 ·rename_i gf bC hf
  split at h
  ·rename_i F hF
   split at h
   ·rename_i hn
    refine Of (C:=⟨C,none,eY,Y,ym,yk⟩) rfl hf (F:=F.fT) (Ww hF) (ua hn) ?_
    intro L R Be Hu Hv B
    have OB:Cj ⟨C,none,Be,Z0 ⟨C,none,eY,Y,ym,yk⟩ nt st.env st.next L R ps x y,Hu,Hv⟩ (Hr st.env st.next L R ps gx gy):=by
     intro l id args heap next β Ψ q kk r' KK hΨ hr' h1 hkk
     obtain ⟨e1,h2⟩:=h1
     cases e1
     split at h2
     ·rename_i hlen
      obtain ⟨e2,h3⟩:=Wx h2
      refine ⟨rfl,rfl,uj hlen,e2,?_⟩
      refine hx (some L) none Aa _ _ false rL nt (fun h=>by cases h) (Vh _) _ Ψ q _ _ hΨ hr' h3 ?_
      intro e s Ψ2 q2 OC cg h4
      cases e with
      | normal=>
       obtain ⟨e3,h5⟩:=Wx h4
       refine ⟨e3,?_⟩
       refine hy (some L) none Aa _ _ false rL nt (fun h=>by cases h) (Vh _) _ Ψ2 q2 _ _ OC cg h5 ?_
       intro e s3 Ψ3 q3 D1 eB h6
       obtain ⟨e4,h7⟩:=Wx h6
       cases e with
       | normal=>exact ⟨e4,hkk _ _ _ _ _ D1 eB h7⟩
       | ret=>exact ⟨e4,hkk _ _ _ _ _ D1 eB h7⟩
       | exit id=>exact ⟨e4,hkk _ _ _ _ _ D1 eB h7⟩
       | _=>exact h7.elim
      | _=>exact h4.elim
     ·exact h2.elim
    refine qG (Oz C) F.fT.body none Be _ Hu Hv true _ ⟨F.fT.nt,B⟩ (fun _=>rfl) OB _ Φ p _ _ hΦ hr (h L R) ?_
    intro e s Φ2 q2 gO cg h2
    cases e with
    | ret=>obtain ⟨r2,h3,h4⟩:=Hs (K:=K) h2 (fun e s h=>hk e s _ _ gO cg h);exact ⟨.inl rfl,r2,h3,h4⟩
    | normal=>obtain ⟨r2,h3,h4⟩:=Hs (K:=K) h2 (fun e s h=>hk e s _ _ gO cg h);exact ⟨.inr rfl,r2,h3,h4⟩
    | _=>exact h2.elim
   ·exact h.elim
  ·exact h.elim
 ·exact h.elim
variable (C:Ctx)
noncomputable def Z3 {α:Type} (f:Nat) (args:List AV) (heap:List (Nat×aI)) (m:Nat) (p:aE α) (D3:List dR→KT α):Tree:=match qM C f with
 | some F=>match uA args.length F.nt with
  | true=>lJ C (D0 C) F.fT.body true rL α ⟨ju 0 args,heap,m⟩ [] p (D3 F.results)
  | false=>.bad 3266
 | none=>.bad 3267
noncomputable def Cp {α:Type} (iv:α→IV) (rs:List dR) (s:St):aE α→Tree
 | .ret a=>.eq (Option IV) ((jI rs s).bind (zJ (zc s.heap) 5)) (some (iv a)) .tt
 | .fin ids V cj x h a=>match wt s.heap ids with
  | some rM=>.eq (List (Nat×aI)) rM cj (.eq (Option AV) (jI rs s) (some V) (.eq IV x (iv a) .tt))
  | Option.none=>.bad 3273
 | _=>.bad 3274
noncomputable def Hw {α:Type} (iv:α→IV) (rs:List dR):KT α:=fun e s Φ q=>settle q Φ fun Φ q=>match e with
 | .ret=>Cp iv rs s q
 | .normal=>Cp iv rs s q
 | _=>.bad 3278
noncomputable def Cq {α:Type} (R:α→AV) (H:α→List (Nat×aI)) (n:Nat) (rs:List dR) (s:St):aE α→Tree
 | .ret a=>match jI rs s with
  | some x=>.eq AV x (R a) (QK n [(0,R a)] [] (H a) [] ⟨[(0,R a)],s.heap,s.next⟩ .tt)
  | Option.none=>.bad 3283
 | .s6 x y h a=>match jI rs s with
  | some x'=>.eq AV x' x (.eq AV y (R a) (QK n [(0,R a)] [] (H a) [] ⟨[(0,R a)],s.heap,s.next⟩ .tt))
  | Option.none=>.bad 3286
 | _=>.bad 3287
noncomputable def Hx {α:Type} (R:α→AV) (H:α→List (Nat×aI)) (n:Nat) (rs:List dR):KT α:=fun e s Φ q=>settle q Φ fun Φ q=>match e with
 | .ret=>Cq R H n rs s q
 | .normal=>Cq R H n rs s q
 | _=>.bad 3291
variable {C:Ctx}
theorem Hy {α:Type} {iv:α→IV} {rs:List dR} {s:St} {q:aE α} {r:α} (hr:q.run=some r) (h:(Cp iv rs s q).Ok):JD (Yd 5 (iv r)) s.heap s.next (jI rs s):=by
 unfold Cp at h
 split at h
 ·cases hr
  have h1:=h.1
  cases h2:jI rs s with
  | none=>rw [h2] at h1;cases h1
  | some x=>rw [h2] at h1;exact h1
 ·rename_i ids V cj x hs a
  cases hr
  split at h
  ·rename_i rM ho
   obtain ⟨rfl,h2,rfl,_⟩:=h
   rw [h2]
   have:=QB (QC ho) hs
   simp only [aY] at this
   split at this
   ·rename_i b hb;cases this;exact hb
   ·cases this
  ·exact h.elim
 ·exact h.elim
theorem aE.pure {f:Nat} {α:Type} {args:List IV} {iv:α→IV} (p:aE α) (h:Z3 C f (args.map .ak) [] 0 p (Hw iv)=(Z3 C f (args.map .ak) [] 0 p (Hw iv)).norm) {r:α} (hr:p.run=some r):aO C f args (iv r):=by
 have hk:=Tree.ok h
 unfold Z3 at hk
 split at hk
 ·rename_i F hF
  split at hk
  ·rename_i hn
   refine aO.start (F:=F.fT) (Ww hF) 5 (by have:=ua hn;rw [ui] at this;exact this) (fun B => ?_)
   refine qG (Ht C) F.fT.body Option.none Option.none Aa _ _ true rL _ (fun _=>rfl) (Vh _) _ [] p _ _ (fun k f hf=>by cases hf) hr hk ?_
   intro e s Φ q hΦ cg h2
   obtain ⟨Φ3,q3,lY,eB,h3⟩:=jh q hΦ h2 cg
   cases e with
   | ret=>exact Hy eB h3
   | normal=>exact Hy eB h3
   | _=>exact h3.elim
  ·exact hk.elim
 ·exact hk.elim
theorem Hz {α:Type} {R:α→AV} {H:α→List (Nat×aI)} {n:Nat} (hb:∀ a,cx n (H a)) {rs:List dR} {s:St} {q:aE α} {r:α} (hr:q.run=some r) (h:(Cq R H n rs s q).Ok):∃ x,jI rs s=some x∧ct ⟨[(0,x)],s.heap,s.next⟩ ⟨[(0,R r)],H r,n⟩:=by
 unfold Cq at h
 split at h
 ·cases hr
  split at h
  ·rename_i x hx
   obtain ⟨rfl,h1⟩:=h
   have:=(Ws (o:=Option.none) (t:=.tt) (hb _) h1).2
   simp only [uM,uN,QG] at this
   exact ⟨_,hx,this⟩
  ·exact h.elim
 ·rename_i x y hl a
  cases hr
  split at h
  ·rename_i x' hx
   obtain ⟨rfl,rfl,h1⟩:=h
   have hn:n≤s.next:=by
    unfold QK at h1
    split at h1
    ·rename_i hn;exact ua hn
    ·exact h1.elim
   have:=(Ws (o:=Option.none) (t:=.tt) (hb _) h1).2
   simp only [uM,uN,QG] at this
   exact ⟨_,hx,(N6 hl).andThen this hn⟩
  ·exact h.elim
 ·exact h.elim
theorem aE.dA {f:Nat} {α:Type} {args:List AV} {heap:List (Nat×aI)} {m d:Nat} {R:α→AV} {H:α→List (Nat×aI)} (p:aE α) (b0:cx m heap) (b1:∀ a,cx (m+d) (H a)) (k0:(args.all (zS m)&&XB m heap)=true) (k1:∀ a,(zS (m+d) (R a)&&XB m (H a))=true)
  (h:Z3 C f args heap m p (Hx R H (m+d))=(Z3 C f args heap m p (Hx R H (m+d))).norm) {r:α} (hr:p.run=some r):dD C f args heap m (R r) (H r) d:=by
 have hk:=Tree.ok h
 have k0:=k0;rw [um] at k0
 have k1:=k1 r;rw [um] at k1
 unfold Z3 at hk
 split at hk
 ·rename_i F hF
  split at hk
  ·rename_i hn
   refine dD.start (F:=F.fT) (Ww hF) (ua hn) b0 (b1 r) k0.1 k1.1 k0.2 k1.2 (fun B => ?_)
   refine qG (Ht C) F.fT.body Option.none Option.none Aa _ _ true rL _ (fun _=>rfl) (Vh _) _ [] p _ _ (fun k f hf=>by cases hf) hr hk ?_
   intro e s Φ q hΦ cg h2
   obtain ⟨Φ3,q3,lY,eB,h3⟩:=jh q hΦ h2 cg
   cases e with
   | ret=>exact Hz b1 eB h3
   | normal=>exact Hz b1 eB h3
   | _=>exact h3.elim
  ·exact hk.elim
 ·exact hk.elim
end
section
section
variable {α β:Type}
def aE.us:List (Nat×Nat)→aE α→aE α
 | [],p=>p
 | (j,k)::l,p=>.use j k (aE.us l p)
abbrev aE.sel (key:Nat) (p:aE α):aE α:=.use 999 key p
theorem bu.c1 {key:Nat} {o:List fA} {p:Prop} (h:p) {Φ:zV} (t:bu Φ):bu ((key,(o,[p]))::Φ):=t.add (.cons h .nil)
theorem bu.c2 {key:Nat} {o:List fA} {p q:Prop} (h:p) (h':q) {Φ:zV} (t:bu Φ):bu ((key,(o,[p,q]))::Φ):=t.add (.cons h (.cons h' .nil))
abbrev aE.b1 (key:Nat) (x:Option β) (o:β→fA) {p:β→Prop} (h:∀ v,x=some v→p v) (k:β→aE α):aE α:=
 .bind x (fun v=>[(key,([o v],[p v]))]) (fun v hv=>.c1 (h v hv) .nil) k
abbrev aE.u1 (j key:Nat) (x:Option β) (o:β→fA) {p:β→Prop} (h:∀ v,x=some v→p v) (k:β→aE α):aE α:=
 .bind x (fun v=>[(key,([o v],[p v]))]) (fun v hv=>.c1 (h v hv) .nil) fun v=>.use j key (k v)
abbrev aE.f1 (key:Nat) (o:fA) {p:Prop} (h:p) (q:aE α):aE α:=.fact key [o] [p] (.cons h .nil) q
abbrev aE.ix (key:Nat) (row:β→List IV) (l:List β) (n:Int) (k:β→aE α):aE α:=
 aE.b1 key (zf l n) (fun e=>.r (row e)) (fun e h=>NP row h) k
abbrev aE.ln (key:Nat) (row:β→List IV) (l:List β) (q:aE α):aE α:=aE.f1 key (.n (l.length:Int)) (NO row l) q
abbrev aE.call {C:Ctx} {f:Nat} {dH:List IV} {x:Option β} {iv:β→IV} (key:Nat) (t:∀ r,x=some r→aO C f dH (iv r)) (k:β→aE α):aE α:=
 aE.b1 key x (fun r=>.v (iv r)) t k
abbrev Spec.e {β:Type} (ks:List Nat) (ov:β→List (Nat×AV)) (hs:List Nat) (nx:Nat):Spec β:=⟨ks,ov,hs,fun _=>[],nx,fun _=>.nil,fun _=>Option.none⟩
end
def OD (id sz:Nat) (l m:List (List AV)) (hle:er l m):eV where
 to st:=⟨st.env,zs st.heap id (.af sz m),st.next⟩
 T st t:=.eq (Option aI) (zc st.heap id) (some (.af sz l)) t
 ok st t h:=⟨h.2,N4 id sz l m h.1 hle,uf _⟩
def Bf (t0 sz:Nat):eV where
 to st:={env:=zs st.env t0 (.aX st.next []),heap:=qb st.heap st.next (.bf sz 0),next:=st.next+1}
 T st t:=.eq (Option AV) (zc st.env t0) (some .nil) t
 ok st t h:=⟨h.2,MZ h.1,uH _⟩
def XF (id sz' r j:Nat):eV where
 to st:=match zc st.heap id with
  | some (.af sz af)=>⟨st.env,zs (qb st.heap st.next (.bf sz' 0)) id (.af sz (af.set r ((af.getD r []).set j (.aX st.next [])))),st.next+1⟩
  | _=>st
 T st t:=match zc st.heap id with
  | some (.af sz af)=>match af[r]? with
   | some row=>.eq (Option AV) row[j]? (some .nil) t
   | none=>.bad 4074
  | _=>.bad 4075
 ok st t h:=by
  split at h
  ·rename_i sz af ho
   split at h
   ·rename_i row hr
    obtain ⟨h1,h2⟩:=h
    simp only [ho]
    have:af.getD r []=row:=by rw [uv,hr];rfl
    rw [this]
    exact ⟨h2,N7 id sz sz' af r j row ho hr h1,uH _⟩
   ·exact h.elim
  ·exact h.elim
def OE {α:Type} (t id r j i sz':Nat) (f:α→List IV) (l:List α):eV where
 to st:=match zc st.heap id with
  | some (.af sz af)=>⟨st.env,zs (zs (qb st.heap st.next (.bf sz' l.length)) i .dead) id (.af sz (af.set r ((af.getD r []).set j (.aX st.next (l.map f))))),st.next+1⟩
  | _=>st
 T st tr:=match zc st.env t with
  | some (.ptr id' a0 b0)=>.eq Nat id' id (match zc st.heap id with
   | some (.af sz af)=>match af[r]? with
    | some row=>.eq (Option AV) row[j]? (some (.Zag i 0 l.length)) (.eq (Option aI) (zc st.heap i) (some (.af sz' (za f l))) (match ur i id with
     | true=>.bad 4098
     | false=>tr))
    | none=>.bad 4100
   | _=>.bad 4101)
  | _=>.bad 4102
 ok st tr h:=by
  split at h
  ·rename_i id' a0 b0 ht
   obtain ⟨h0,h⟩:=h
   subst h0
   split at h
   ·rename_i sz af ho
    split at h
    ·rename_i row hr
     obtain ⟨h1,h2,h3⟩:=h
     split at h3
     ·exact h3.elim
     ·rename_i hne
      simp only [ho]
      have:af.getD r []=row:=by rw [uv,hr];rfl
      rw [this]
      have hw:=N9 (st:=st) t a0 b0 id' sz i sz' af r j row (l.map f) ht ho hr (by rw [h1,ui]) (by rw [h2,Ke]) (fun e=>by subst e;rw [uQ] at hne;cases hne)
      rw [ui] at hw
      exact ⟨h3,hw,uH _⟩
    ·exact h.elim
   ·exact h.elim
  ·exact h.elim
def OG {α:Type} (t i sz':Nat) (f:α→List IV) (l:List α):eV where
 to st:=⟨zs st.env t (.aX st.next (l.map f)),zs (qb st.heap st.next (.bf sz' l.length)) i .dead,st.next+1⟩
 T st tr:=.eq (Option AV) (zc st.env t) (some (.Zag i 0 l.length)) (.eq (Option aI) (zc st.heap i) (some (.af sz' (za f l))) tr)
 ok st tr h:=by
  obtain ⟨h1,h2,h3⟩:=h
  have hw:=Ob (st:=st) t i sz' (l.map f) (by rw [h1,ui]) (by rw [h2,Ke])
  rw [ui] at hw
  exact ⟨h3,hw,uH _⟩
def ec (a b:Nat):Option (PLift (a=b)):=if h:a=b then some ⟨h⟩ else none
theorem aE.aF {α:Type} {p:aE α} {d:Option α} {r:α} (h:d=some r) (e:d=p.run):p.run=some r:=e ▸ h
end
def OH (P n:Nat):eV where
 to st:=⟨st.env,zs st.heap P (.af 1 (qA zi (uw n [])))++qN (uw n []),2000000⟩
 T st t:=.eq (Option aI) (zc st.heap P) (some (.af 1 (uw n [.nil]))) (match uA st.next qk with
  | true=>t
  | false=>.bad 5015)
 ok st t h:=by
  obtain ⟨h1,h2⟩:=h
  split at h2
  ·rename_i hn
   have hn:=ua hn
   have hm:qk=999999:=rfl
   exact ⟨h2,On P n h1 hn,by show st.next≤2000000;omega⟩
  ·exact h2.elim
def vp (Ls:List (List Int)) (n:Nat) (to i:Int):Option (List (List Int)):=
 if 0≤to∧to < n∧to < 1000000 then match Ls[to.toNat]? with
  | some L=>if (L.length+1)*8≤140737488355328 then some (Ls.set to.toNat (L++[i])) else none
  | none=>none
 else none
def yV:List bh:=[⟨some 65,.fP (.t 8),none⟩,⟨some 66,.iW 1 (.t 13),none⟩,⟨some 67,.load false 1 (.t 66),none⟩,⟨some 68,.fP (.t 8),none⟩,⟨some 69,.iW 1 (.t 13),none⟩,⟨some 70,.load false 1 (.t 69),none⟩,
 ⟨some 71,.idx 1 (.t 68) (.t 70),none⟩,⟨some 72,.load false 1 (.t 71),none⟩,⟨some 73,.fP (.t 10),none⟩,⟨some 74,.dy 1 [.ak (.int .i64 0)] 1 [(0,.t 73)],none⟩,⟨some 75,.app 1 8 (.t 72) (.t 74),none⟩,⟨some 76,.idx 1 (.t 65) (.t 67),none⟩,⟨none,.store 1 (.t 76) (.t 75),none⟩]
def Z4:List Nat:=[0,0,2,0,0,16,56,120,0,256,1016,2047,4095]
def OI (ks:List Nat):cH:=.region true Z4 yV (some ks)
def Z5 (st:St) (ks:List Nat) (P:Nat) (Ls:List (List Int)):St:=⟨qg (ks.filter fun k=>uz k 65) st.env,zs (jJ st.heap) P (.af 1 (qA zi Ls))++qN Ls,st.next+13⟩
theorem zy {C:bY} {ord:List Nat} {K:St→Prop} {dst:Option Nat} {op:dc} {rest:List bh} {j:Nat} {W R:List (Nat×Nat)} {st:St} (r:AV) (aQ:List (Nat×aI)) (hc:(match op with | .call _ _=>true | _=>false)=false)
  (he:ap op (zd st.env) (zc st.heap) st.next=some (r,aQ)) (hk:jx ord j W R (zQ aQ) (zq op (zd st.env))=true)
  (hn:nK C ord K rest (j+1) (qD j (zQ aQ) W) (qD j (zq op (zd st.env)) R) (St.after st dst r aQ)):nK C ord K (⟨dst,op,none⟩::rest) j W R st:=by
 rw [Nl,Nn]
 have e:∀ KD,ei C KD st op=qB KD (zq op (zd st.env)) (ap op (zd st.env) (zc st.heap) st.next):=fun KD=>by
  cases op<;>first | rfl | exact Bool.noConfusion hc
 rw [e,he]
 exact ⟨hk,hn⟩
theorem xn (ks:List Nat):∀ (env:List (Nat×AV)) (t:Nat),zc (qg ks env) t=if ks.contains t then zc env t else none
 | [],t=>by simp [qg,zc]
 | (k,v)::r,t=>by
  have ih:=xn ks r t
  simp only [qg,List.filter_cons] at ih ⊢
  by_cases hk:ks.contains k=true
  ·rw [if_pos hk]
   simp only [zc]
   by_cases e:k=t
   ·subst e;rw [if_pos rfl,if_pos rfl,if_pos hk]
   ·rw [if_neg e,if_neg e];exact ih
  ·rw [if_neg hk,ih]
   by_cases e:k=t
   ·subst e;rw [if_neg hk,if_neg hk]
   ·simp only [zc];rw [if_neg e]
set_option maxHeartbeats 1000000 in
theorem OJ {C:bY} {nt:Fr} {st:St} {P n M:Nat} {i to:Int} {a:AV} {Ls HA:List (List Int)} {ks:List Nat} {K:Exit→St→Prop}
  (e8:zc st.env 8=some (.Zag P 0 n)) (s9:zc st.env 13=some (.ptr M 0 0)) (dW:zc st.env 10=some (vI i)) (hN:oG st.heap P Ls) (hM:zc st.heap M=some (.af 2 [[a,vI to]]))
  (hlt:∀ j o,zc st.heap j=some o→j < st.next) (ha:vp Ls n to i=some HA) (h:K .normal (Z5 st ks P HA)):dF C nt (OI ks) K st:=by
 obtain ⟨env,heap,N⟩:=st
 simp only at e8 s9 dW hN hM hlt
 unfold vp at ha
 split at ha
 case isFalse=>cases ha
 rename_i hto
 obtain ⟨t0,t1,t2⟩:=hto
 split at ha
 case h_2=>cases ha
 rename_i L hL
 split at ha
 case isFalse=>cases ha
 rename_i hsz
 cases ha
 obtain ⟨k,hk⟩:∃ k:Nat,to=(k:Int):=⟨to.toNat,by omega⟩
 subst hk
 simp only [Int.toNat_natCast] at hL h
 have td:k < 1000000:=by omega
 have hkn:k < n:=by omega
 have hq:=hN.bf hL td
 have hnb:zi+k < 2000000:=by simp only [zi];omega
 have hrow:(qA zi Ls)[k]?=some [.aX (zi+k) (L.map zb)]:=by rw [yU,hL,uO,ww hnb]
 have hPN:=hlt _ _ hN.obj
 have OK:=hlt _ _ hM
 have HB:=hlt _ _ hq
 have hPM:P≠M:=fun e=>by have:=hN.obj;rw [e,hM] at this;simp at this
 have D4:zi+k≠P:=fun e=>by have:=hN.obj;rw [←e,hq] at this;cases this
 have D5:zi+k≠M:=fun e=>by rw [e] at hq;rw [hM] at hq;cases hq
 refine yi (Z5 ⟨env,heap,N⟩ ks P (Ls.set k (L++[i]))) (by simp [Z5]) h ?_
 refine Ye ?_
 have lk:Qx yV=false:=rfl
 rw [lk]
 show nK C _ _ yV 0 [] [] _
 unfold yV
 refine zy (.Zag P 0 n) [] rfl (by simp [ap,zd,e8]) rfl ?_
 refine zy (.ptr M 0 1) [] rfl (by simp [St.after,St.put,zl,ap,zd,ze,s9,hM]) rfl ?_
 refine zy (vI (k:Int)) [] rfl (by simp [St.after,St.put,zl,ap,zd,ze,hM]) rfl ?_
 refine zy (.Zag P 0 n) [] rfl (by simp [St.after,St.put,zl,ap,zd,ze,e8]) rfl ?_
 refine zy (.ptr M 0 1) [] rfl (by simp [St.after,St.put,zl,ap,zd,ze,s9,hM]) rfl ?_
 refine zy (vI (k:Int)) [] rfl (by simp [St.after,St.put,zl,ap,zd,ze,hM]) rfl ?_
 refine zy (.ptr P k 0) [] rfl (by simp [St.after,St.put,zl,ap,zd,ze,hN.obj,vI,hkn]) rfl ?_
 refine zy (.aX (zi+k) (L.map zb)) [] rfl (by simp [St.after,St.put,zl,ap,zd,ze,hN.obj,hrow]) rfl ?_
 refine zy (vI i) [] rfl (by simp [St.after,St.put,zl,ap,zd,ze,dW]) rfl ?_
 have n1:N+9≠P:=by omega
 have n2:N+9≠M:=by omega
 have n3:N+9≠zi+k:=by omega
 have ev8:∀ x,zc (zs env 65 x) 8=some (.Zag P 0 n):=fun x=>by rw [ze,if_neg (by omega)];exact e8
 refine zy (.Zag (N+9) 0 1) [(N+9,.af 1 [[vI i]])] rfl (by simp [St.after,St.put,zl,ap,zd,ze,aY,cellsOf,vI,ja,qJ]) ?_ ?_
 ·simp [jx,zQ,zq,qx,qD,zK,ql,zd,St.after,St.put,zl,ze,e8,s9,dW,vI,Ne.symm n1,Ne.symm n2]
 refine zy (.aX (zi+k) (L.map zb++[zb i])) [(zi+k,.bf 1 ((L.map zb).length+1))] rfl ?_ ?_ ?_
 ·simp [St.after,St.put,zl,ap,zd,ze,zF,kS,jU,hq,n3,aY,qY,vI,zb,hsz]
 ·simp [jx,zQ,zq,qx,qD,zK,ql,zd,St.after,St.put,zl,ze,e8,s9,dW,vI,dV,Z4,Ne.symm D4,Ne.symm D5,n3]
 refine zy (.ptr P k 0) [] rfl ?_ ?_ ?_
 ·simp [St.after,St.put,zl,ap,zd,ze,zF,D4,n1,hN.obj,vI,hkn]
 ·simp [jx,zQ,zq,qx,qD,zK,ql,zd,St.after,St.put,zl,ze,e8,s9,dW,vI,dV,Z4]
 refine zy .undef [(P,.af 1 ((qA zi Ls).set k [.aX (zi+k) (L.map zb++[zb i])]))] rfl ?_ ?_ ?_
 ·simp [St.after,St.put,zl,ap,zd,ze,zF,D4,n1,hN.obj,hrow,cellsOf,qJ]
 ·simp [jx,zQ,zq,qx,qD,zK,ql,zd,St.after,St.put,zl,ze,e8,s9,dW,vI,dV,Z4]
 show ct ⟨qg ks (zs (zs (zs (zs (zs (zs (zs (zs (zs (zs (zs (zs env 65 _) 66 _) 67 _) 68 _) 69 _) 70 _) 71 _) 72 _) 73 _) 74 _) 75 _) 76 _),qb (qb (qb heap (N+9) _) (zi+k) _) P _,N+13⟩ (Z5 ⟨env,heap,N⟩ ks P (Ls.set k (L++[i])))
 refine G1 (fun t x hx => ?_) fun j o hj => ?_
 ·rw [xn] at hx
  split at hx
  ·rename_i hc
   rw [uo,uE] at hc
   have ht:t < 65:=by simpa [uB] using hc.2
   rw [xn,if_pos (by simpa using hc.1)]
   simp only [ze]
   rw [if_neg (by omega),if_neg (by omega),if_neg (by omega),if_neg (by omega),if_neg (by omega),if_neg (by omega),if_neg (by omega),if_neg (by omega),if_neg (by omega),if_neg (by omega),if_neg (by omega),if_neg (by omega)]
   exact hx
  ·cases hx
 have fS:(qA zi Ls).set k [.aX (zi+k) (L.map zb++[zb i])]=qA zi (Ls.set k (L++[i])):=by
  rw [←Kg Ls zi k (L++[i]),ww hnb];simp
 simp only [Z5] at hj
 rw [xy,ze] at hj
 simp only [zF]
 by_cases D6:P=j
 ·rw [if_pos D6] at hj
  rw [if_pos D6,fS];exact hj
 ·rw [if_neg D6] at hj ⊢
  have keep:∀ o',zc heap j=some o'→j≠zi+k→(if zi+k=j then some (aI.bf 1 ((L.map zb).length+1)) else if N+9=j then some (.af 1 [[vI i]]) else zc heap j)=some o':=fun o' h1 h2=>by
   rw [if_neg (fun e=>h2 e.symm),if_neg (fun e=>by have:=hlt _ _ h1;omega)];exact h1
  cases e:zc (jJ heap) j with
  | some o'=>
   rw [e,uI] at hj
   cases hj
   have:=yh hN.out e
   refine keep _ (by rw [xh,e];rfl) (fun e2 => ?_)
   simp only [zi,qk] at this e2 hnb
   omega
  | none=>
   rw [e,uk,jM] at hj
   split at hj
   ·rename_i ej
    cases hj
    refine keep _ ?_ (by rw [ej];simp only [qk,zi];omega)
    rw [xh,e,hN.tail,uk,jM,if_pos ej]
   ·split at hj
    ·rename_i ej
     by_cases rN:j=zi+k
     ·subst rN
      rw [show zi+k - zi=k by omega,ug (ub.1 hL).1] at hj
      simp only [uO,Option.some.injEq] at hj
      subst hj
      rw [if_pos rfl];simp
     ·rw [ul (by omega)] at hj
      obtain ⟨L2,OL,rfl⟩:=uh.1 hj
      refine keep _ ?_ rN
      have:=hN.bf OL (by have:=ej.2;simp only [zi];omega)
      rw [show zi+(j - zi)=j by omega] at this
      exact this
    ·cases hj
theorem Ym {C:bY} {nt:Fr} {c:cH} {K:Exit→St→Prop} {st:St} (h:∀ g a w,Rel C nt g st a w→dF C nt c K st):dF C nt c K st:=fun code hc g a w R I=>h g a w R code hc g a w R I
def OM (P n M:Nat) (i to:Int) (a:AV) (Ls:List (List Int)):lW (List (List Int)) where
 x:=vp Ls n to i
 T c st k:=match c with
  | .region true o items (some ks)=>.eq (List Nat) o Z4 (.eq (List bh) items yV (.eq (Option AV) (zc st.env 8) (some (.Zag P 0 n)) (.eq (Option AV) (zc st.env 13) (some (.ptr M 0 0)) (.eq (Option AV) (zc st.env 10) (some (vI i))
   (.eq (Option aI) (zc st.heap P) (some (.af 1 (qA zi Ls))) (.eq (Option aI) (zc st.heap M) (some (.af 2 [[a,vI to]])) (.eq (List (Nat×aI)) (wx st.heap) (qN Ls)
   (match xd st.heap with
   | true=>.all (List (List Int)) fun b=>k b (Z5 st ks P b)
   | false=>.bad 5110))))))))
  | _=>.bad 5111
 ok C nt c st k K b hb hT hK:=by
  split at hT
  ·rename_i o items ks
   obtain ⟨rfl,rfl,h8,D7,h10,hP,hM,ht,h1⟩:=hT
   split at h1
   ·rename_i ho
    refine Ym fun g a' w R => ?_
    exact OJ h8 D7 h10 ⟨hP,ht,ho⟩ hM (fun j o hj=>R.heap.key j o hj) hb (hK _ (h1 b))
   ·exact h1.elim
  ·exact hT.elim
def jn (ms:List (Int×List Int)):List (List Int):=ms.map (·.2)++uw (1000 - ms.length) []
def wH (ms:List (Int×List Int)) (k i:Int):Option (List (Int×List Int)):=
 if ms.length < 1000∧(((zr k ms).getD []).length+1)*8≤140737488355328 then some (zO k ((zr k ms).getD []++[i]) ms) else none
theorem yI {b:Nat} (h:b < 2000000) (L:List Int):j6 b L=.aX b (L.map zb):=by
 have:uz b 2000000=true:=by simpa [uB] using h
 simp [j6,this]
theorem xC:∀ (ms:List (Int×List Int)) (b:Nat),(zD b ms).length=ms.length
 | [],_=>rfl
 | (k,L)::r,b=>by simp [zD,xC r]
theorem Kl:∀ (ms:List (Int×List Int)) (b j:Nat),(zD b ms)[j]?=(ms[j]?).map fun e=>(.int .i64 e.1,j6 (b+j) e.2)
 | [],b,j=>by simp [zD]
 | (k,L)::r,b,0=>by simp [zD]
 | (k,L)::r,b,j+1=>by
  simp only [zD,List.getElem?_cons_succ]
  rw [Kl r (b+1) j,show b+1+j=b+(j+1) by omega]
theorem JL:∀ (ms:List (Int×List Int)) (b:Nat) (k:Int) (L:List Int),zD b (ms++[(k,L)])=zD b ms++[(.int .i64 k,j6 (b+ms.length) L)]
 | [],b,k,L=>by simp [zD]
 | (k',L')::r,b,k,L=>by
  simp only [uq,zD,List.length_cons]
  rw [JL r (b+1) k L,show b+1+r.length=b+(r.length+1) by omega]
theorem Km:∀ (ms:List (Int×List Int)) (b j:Nat) (k:Int) (L:List Int),(zD b ms).set j (.int .i64 k,j6 (b+j) L)=zD b (ms.set j (k,L))
 | [],b,j,k,L=>by simp [zD]
 | (k',L')::r,b,0,k,L=>by simp [zD]
 | (k',L')::r,b,j+1,k,L=>by
  simp only [zD,ux]
  rw [←Km r (b+1) j k L,show b+1+j=b+(j+1) by omega]
theorem wy (k:Int):∀ (ms:List (Int×List Int)) (b:Nat),xf (.int .i64 k) (zD b ms)=true
 | [],_=>rfl
 | (k',L)::r,b=>by
  have ih:=wy k r (b+1)
  simp only [xf,zD,List.all_cons] at ih ⊢
  rw [ih];simp [qR]
theorem HC {k:Int}:∀ {ms:List (Int×List Int)} {L:List Int},zr k ms=some L→∃ j,ms[j]?=some (k,L)∧(∀ b,zW (.int .i64 k) (zD b ms)=some (j6 (b+j) L))∧(∀ b v,qj (.int .i64 k) v (zD b ms)=(zD b ms).set j (.int .i64 k,v))∧∀ M,zO k M ms=ms.set j (k,M)
 | [],L,h=>by cases h
 | (k',L')::r,L,h=>by
  simp only [zr] at h
  split at h
  ·rename_i e
   subst e
   cases h
   exact ⟨0,rfl,fun b=>by simp [zD,zW,qR],fun b v=>by simp [zD,qj,qR],fun M=>by simp [zO]⟩
  ·rename_i e
   obtain ⟨j,h1,h2,h3,h4⟩:=HC h
   refine ⟨j+1,by simpa using h1,fun b => ?_,fun b v => ?_,fun M => ?_⟩
   ·simp only [zD,zW,qR,if_true,beq_eq_false_iff_ne.2 e]
    rw [h2 (b+1),show b+1+j=b+(j+1) by omega]
   ·simp only [zD,qj,qR,if_true,beq_eq_false_iff_ne.2 e,ux]
    rw [h3 (b+1) v]
   ·simp only [zO,if_neg e,h4 M,ux]
theorem HD {k:Int}:∀ {ms:List (Int×List Int)},zr k ms=none→(∀ b,zW (.int .i64 k) (zD b ms)=none)∧(∀ b v,qj (.int .i64 k) v (zD b ms)=zD b ms++[(.int .i64 k,v)])∧∀ M,zO k M ms=ms++[(k,M)]
 | [],_=>⟨fun _=>rfl,fun _ _=>rfl,fun _=>rfl⟩
 | (k',L')::r,h=>by
  simp only [zr] at h
  split at h
  ·cases h
  ·rename_i e
   obtain ⟨h2,h3,h4⟩:=HD h
   refine ⟨fun b => ?_,fun b v => ?_,fun M => ?_⟩
   ·simp only [zD,zW,qR,if_true,beq_eq_false_iff_ne.2 e]
    exact h2 (b+1)
   ·simp only [zD,qj,qR,if_true,beq_eq_false_iff_ne.2 e,uq]
    rw [h3 (b+1) v]
   ·simp only [zO,if_neg e,h4 M,uq]
theorem wW {ms:List (Int×List Int)} {j:Nat}:(jn ms)[j]?=if j < ms.length then (ms[j]?).map (·.2) else if j < 1000 then some [] else none:=by
 unfold jn
 by_cases h:j < ms.length
 ·rw [if_pos h,un (by simpa using h),uJ]
 ·rw [if_neg h,ue (by simpa using h),List.getElem?_replicate,ui]
  by_cases h2:j < 1000
  ·rw [if_pos h2,if_pos (by omega)]
  ·rw [if_neg h2,if_neg (by omega)]
theorem ON {ms:List (Int×List Int)} (h:ms.length < 1000) (k:Int) (L:List Int):jn (ms++[(k,L)])=(jn ms).set ms.length L:=by
 refine List.ext_getElem? fun j => ?_
 rw [wW]
 by_cases e:j=ms.length
 ·subst e
  rw [if_pos (by simp),ue (uf _),uK]
  rw [ug (by simp [jn];omega)];rfl
 ·rw [ul (fun h=>e h.symm),wW,uy]
  by_cases h1:j < ms.length
  ·rw [if_pos h1,if_pos (by simp;omega),un h1]
  ·rw [if_neg h1,if_neg (by simp;omega)]
theorem OO {ms:List (Int×List Int)} {j:Nat} (h:j < ms.length) (k:Int) (L:List Int):jn (ms.set j (k,L))=(jn ms).set j L:=by
 unfold jn
 rw [List.map_set,List.length_set,List.set_append_left _ _ (by simpa using h)]
theorem OP {env:List (Nat×AV)} {heap:List (Nat×aI)} {next:Nat} (hn:next≤qk) :
  ct ⟨env,heap,next⟩ ⟨env,heap++qN (jn []),2000000⟩:=by
 intro C nt g a w R
 obtain ⟨RE,R⟩:=R
 simp only at RE R
 have hmk:qk=999999:=rfl
 have hnb:zi=1000000:=rfl
 have hg:∀ j o,zc (heap++qN (jn [])) j=some o→(j < next∧zc heap j=some o)∨(j=qk∧o=.dead)∨(zi≤j∧j < 2000000∧o=.bf 1 0):=fun j o h=>by
  rw [xy] at h
  cases h2:zc heap j with
  | some o'=>rw [h2,uI] at h;cases h;exact .inl ⟨R.key _ _ h2,rfl⟩
  | none=>
   rw [h2,uk,jM] at h
   split at h
   ·rename_i e3;cases h;exact .inr (.inl ⟨e3,rfl⟩)
   ·split at h
    ·rename_i e3
     rw [wW] at h
     simp only [List.length_nil,Nat.not_lt_zero,if_false] at h
     split at h
     ·cases h;exact .inr (.inr ⟨e3.1,e3.2,rfl⟩)
     ·cases h
    ·cases h
 have E:b9 g (zc heap) (· < next) w g (zc (heap++qN (jn []))) (· < 2000000) w:={b9.refl g (zc heap) (· < next) w with
  next:=fun i hi=>by have hi:i < next:=hi;show i < 2000000;omega
  ep:=fun i b hb _ _ _ _=>.inl hb
  cI:=fun i hb _ _ _ _=>.inl hb
  af:=fun i hi s r h1=>by
   rcases hg i _ h1 with ⟨_,e2⟩ | ⟨_,e2⟩ | ⟨_,_,e2⟩
   ·exact ⟨r,e2,rfl⟩
   ·cases e2
   ·cases e2
  cV:=fun i hi s l h1=>by
   have hi:i < next:=hi
   rcases hg i _ h1 with ⟨_,e2⟩ | ⟨_,e2⟩ | ⟨e1,_,_⟩
   ·exact ⟨l,e2,uf _⟩
   ·cases e2
   ·omega
  maps:=fun i _ es h1=>by
   rcases hg i _ h1 with ⟨_,e2⟩ | ⟨_,e2⟩ | ⟨_,_,e2⟩
   ·exact ⟨es,e2⟩
   ·cases e2
   ·cases e2
  fH:=fun i _ ll RR s pe h1=>by
   rcases hg i _ h1 with ⟨_,e2⟩ | ⟨_,e2⟩ | ⟨_,_,e2⟩
   ·exact ⟨s,pe,e2⟩
   ·cases e2
   ·cases e2}
 refine ⟨g,⟨⟨RE.size,RE.defers,fun t x hx=>(RE.slot t x hx).mono E⟩,⟨R.inj,fun i b h1=>⟨(R.lt i b h1).1,E.next _ (R.lt i b h1).2⟩,fun i o h1 => ?_,fun i b o h1 h2 => ?_,fun i s l h1 h2 => ?_,R.ed,R.fix.eS E⟩⟩,fun g0 cL w0 hm E0=>E0.trans E⟩
 ·show i < 2000000
  rcases hg i o h1 with ⟨e1,_⟩ | ⟨e1,_⟩ | ⟨_,e1,_⟩<;>omega
 ·rcases hg i o h2 with ⟨_,e2⟩ | ⟨e1,_⟩ | ⟨e1,_,_⟩
  ·exact (R.obj i b o h1 e2).keep E rfl rfl
  ·have h5:i < next:=(R.lt i b h1).2
   omega
  ·have h5:i < next:=(R.lt i b h1).2
   omega
 ·rcases hg i _ h1 with ⟨_,e2⟩ | ⟨_,e2⟩ | ⟨_,_,e2⟩
  ·exact R.cP i s l e2 h2
  ·cases e2
  ·cases e2;rfl
theorem OQ {env env':List (Nat×AV)} {H H':List (Nat×aI)} {n W A:Nat} {ms:List (Int×List Int)} {k i:Int} (he:∀ t x,zc env' t=some x→zc env t=some x)
  (hl:ms.length < 1000) (hW:zc H W=some (.map (zD zi ms++[(.int .i64 k,.aX A [zb i])]))) (hA:zc H A=some (.bf 1 1)) (hm:zc H (zi+ms.length)=some (.bf 1 0)) (Bg:A≠W) (th:zi+ms.length≠W) (Bh:A≠zi+ms.length)
  (hH:∀ j o,zc H' j=some o→(j=W∧o=.map (zD zi (ms++[(k,[i])])))∨(j=zi+ms.length∧o=.bf 1 1)∨(j≠W∧j≠zi+ms.length∧j≠A∧zc H j=some o)) :
  ct ⟨env,H,n⟩ ⟨env',H',n⟩:=by
 intro C nt g a w R
 obtain ⟨RE,R⟩:=R
 simp only at RE R
 generalize HE:zi+ms.length=m at hm th Bh hH
 have D8:m < 2000000:=by rw [←HE];simp only [zi];omega
 have nX:∀ o,zc H' W=some o→o=.map (zD zi (ms++[(k,[i])])):=fun o h=>by
  rcases hH W o h with ⟨_,e⟩ | ⟨e,_⟩ | ⟨e,_⟩
  ·exact e
  ·exact absurd e.symm th
  ·exact absurd rfl e
 have hm':∀ o,zc H' m=some o→o=.bf 1 1:=fun o h=>by
  rcases hH m o h with ⟨e,_⟩ | ⟨_,e⟩ | ⟨_,e,_⟩
  ·exact absurd e th
  ·exact e
  ·exact absurd rfl e
 have HF:∀ o,zc H' A=some o→False:=fun o h=>by
  rcases hH A o h with ⟨e,_⟩ | ⟨e,_⟩ | ⟨_,_,e,_⟩
  ·exact Bg e
  ·exact Bh e
  ·exact e rfl
 have hel:∀ j o,j≠W→j≠m→zc H' j=some o→j≠A∧zc H j=some o:=fun j o h1 h2 h=>by
  rcases hH j o h with ⟨e,_⟩ | ⟨e,_⟩ | ⟨_,_,e1,e2⟩
  ·exact absurd e h1
  ·exact absurd e h2
  ·exact ⟨e1,e2⟩
 let g':Gh:=⟨fun j=>if j=m then g.ρ A else if j=A then none else g.ρ j,g.Z⟩
 have Cr:g'.ρ m=g.ρ A:=if_pos rfl
 have Ai:∀ j,j≠m→j≠A→g'.ρ j=g.ρ j:=fun j h1 h2=>by
  show (if j=m then g.ρ A else if j=A then none else g.ρ j)=_
  rw [if_neg h1,if_neg h2]
 have Cs:∀ j b,g'.ρ j=some b→(j=m∧g.ρ A=some b)∨(j≠m∧j≠A∧g.ρ j=some b):=fun j b h=>by
  by_cases h1:j=m
  ·subst h1;exact .inl ⟨rfl,by rw [←Cr];exact h⟩
  ·by_cases h2:j=A
   ·have:g'.ρ j=none:=by
     show (if j=m then g.ρ A else if j=A then none else g.ρ j)=_
     rw [if_neg h1,if_pos h2]
    rw [this] at h;cases h
   ·exact .inr ⟨h1,h2,by rw [←Ai j h1 h2];exact h⟩
 have hown:∀ b,wq g' b→wq g b:=fun b ⟨j,hj⟩=>by
  rcases Cs j b hj with ⟨_,e⟩ | ⟨_,_,e⟩
  ·exact ⟨A,e⟩
  ·exact ⟨j,e⟩
 have E:b9 g (zc H) (· < n) w g' (zc H') (· < n) w:={b9.refl g (zc H) (· < n) w with
  old:=fun b _ _=>⟨rfl,rfl⟩
  own:=fun b h=>.inl (hown b h)
  ep:=fun j b hb o ho hd _=>by
   by_cases h1:j=m
   ·subst h1
    rw [hm' o ho]
    exact .inr ⟨1,0,1,1,hm,rfl,by omega⟩
   ·have h2:j≠A:=fun e=>HF o (e ▸ ho)
    exact .inl (by rw [Ai j h1 h2];exact hb)
  cI:=fun j hb _ o ho hd=>by
   by_cases h1:j=m
   ·subst h1
    rw [hm' o ho]
    exact .inr ⟨1,0,1,1,hm,rfl,by omega⟩
   ·have h2:j≠A:=fun e=>HF o (e ▸ ho)
    exact .inl (by rw [Ai j h1 h2];exact hb)
  af:=fun j _ s r h=>by
   by_cases h1:j=W
   ·subst h1;cases nX _ h
   ·by_cases h2:j=m
    ·subst h2;cases hm' _ h
    ·exact ⟨r,(hel j _ h1 h2 h).2,rfl⟩
  cV:=fun j _ s l h=>by
   by_cases h1:j=W
   ·subst h1;cases nX _ h
   ·by_cases h2:j=m
    ·subst h2;cases hm' _ h;exact ⟨0,hm,by omega⟩
    ·exact ⟨l,(hel j _ h1 h2 h).2,uf _⟩
  maps:=fun j _ es h=>by
   by_cases h1:j=W
   ·subst h1;exact ⟨_,hW⟩
   ·by_cases h2:j=m
    ·subst h2;cases hm' _ h
    ·exact ⟨es,(hel j _ h1 h2 h).2⟩
  fH:=fun j _ ll RR s pe h=>by
   by_cases h1:j=W
   ·subst h1;cases nX _ h
   ·by_cases h2:j=m
    ·subst h2;cases hm' _ h
    ·exact ⟨s,pe,(hel j _ h1 h2 h).2⟩}
 refine ⟨g',⟨⟨RE.size,RE.defers.sub hown,fun t x hx=>(RE.slot t x (he t x hx)).mono E⟩,⟨fun x y b hx hy => ?_,fun x b hx => ?_,fun x o hx => ?_,fun x b o hx ho => ?_,fun x s l hx h0 => ?_,R.ed,R.fix.eS E⟩⟩,fun g0 cL w0 hm E0=>E0.trans E⟩
 ·rcases Cs x b hx with ⟨e1,e2⟩ | ⟨e1,e2,e3⟩<;>rcases Cs y b hy with ⟨f1,f2⟩ | ⟨f1,f2,f3⟩
  ·rw [e1,f1]
  ·exact absurd (R.inj _ _ _ f3 e2) f2
  ·exact absurd (R.inj _ _ _ e3 f2) e2
  ·exact R.inj _ _ _ e3 f3
 ·rcases Cs x b hx with ⟨e1,e2⟩ | ⟨e1,e2,e3⟩
  ·exact ⟨(R.lt _ _ e2).1,by rw [e1];exact R.key _ _ hm⟩
  ·exact R.lt _ _ e3
 ·by_cases h1:x=W
  ·rw [h1];exact R.key _ _ hW
  ·by_cases h2:x=m
   ·rw [h2];exact R.key _ _ hm
   ·exact R.key _ _ (hel x o h1 h2 hx).2
 ·by_cases h1:x=W
  ·subst h1
   rw [nX o ho]
   have hx':g.ρ x=some b:=by rw [←Ai x (fun e=>th e.symm) (fun e=>Bg e.symm)];exact hx
   have hro:=R.obj _ b _ hx' hW
   simp only [dx] at hro ⊢
   obtain ⟨a1,cG,clock,a2,a3,a4⟩:=hro
   refine ⟨a1,cG,clock,a2,by rw [a3,JL,uy,uy];rfl,fun q kk xx hq => ?_⟩
   rw [JL] at hq
   by_cases OR:q < ms.length
   ·have sD:(zD zi ms++[((.int .i64 k:IV),AV.aX A [zb i])])[q]?=some (kk,xx):=by
     rw [un (by rw [xC];exact OR)] at hq ⊢
     exact hq
    obtain ⟨e,b1,b2,b3⟩:=a4 q kk xx sD
    exact ⟨e,b1,b2,b3.mono E⟩
   ·rw [ue (by rw [xC];omega)] at hq
    have OS:q=ms.length:=by
     have:=(ub.1 hq).1
     simp only [List.length_singleton,xC] at this
     omega
    subst OS
    rw [xC,uK,HE,yI D8] at hq
    simp only [List.getElem?_cons_zero,Option.some.injEq,Prod.mk.injEq] at hq
    obtain ⟨rfl,rfl⟩:=hq
    obtain ⟨e,b1,b2,b3⟩:=a4 ms.length (.int .i64 k) (.aX A [zb i]) (by rw [ue (by rw [xC];exact uf _),xC,uK];rfl)
    refine ⟨e,b1,b2,?_⟩
    cases b3 with
    | aX _ _ _ hr hid ht=>
     refine .aX _ _ _ (hr.mono E.cr E.cell) (R.key _ _ hm) fun sz len hg => ?_
     cases hm' _ hg
     obtain ⟨c1,c2,c3⟩:=ht 1 1 hA
     refine ⟨c1,c2,fun hlen => ?_⟩
     rcases c3 rfl with ⟨d1,_⟩ | ⟨bb,cap,cc,ee,d1,d2,d3,d4⟩
     ·have:=R.cP _ _ _ hA d1
      omega
     ·exact .inr ⟨bb,cap,cc,ee,by rw [Cr];exact d1,d2,d3,d4⟩
  ·by_cases h2:x=m
   ·rw [h2] at hx ho
    rw [hm' o ho]
    rw [Cr] at hx
    exact (R.obj _ b _ hx hA).keep E rfl rfl
   ·obtain ⟨h3,h4⟩:=hel x o h1 h2 ho
    exact (R.obj x b o (by rw [←Ai x h2 h3];exact hx) h4).keep E rfl rfl
 ·by_cases h1:x=W
  ·rw [h1] at hx;cases nX _ hx
  ·by_cases h2:x=m
   ·rw [h2] at hx h0
    cases hm' _ hx
    rw [Cr] at h0
    have:=R.cP _ _ _ hA h0
    omega
   ·obtain ⟨h3,h4⟩:=hel x _ h1 h2 hx
    exact R.cP x s l h4 (by rw [←Ai x h2 h3];exact h0)
theorem OT {env:List (Nat×AV)} {H:List (Nat×aI)} {n W:Nat} {ms:List (Int×List Int)} (hW:zc H W=some (.map (zD zi ms))) :
  ct ⟨env,H,n⟩ ⟨env,zs (jJ H) W (.map (zg IV.i64 (fun L:List Int=>IV.slice (L.map zb)) ms)),n⟩:=by
 intro C nt g a w R
 obtain ⟨RE,R⟩:=R
 simp only at RE R
 have hg:∀ j o,zc (zs (jJ H) W (.map (zg IV.i64 (fun L:List Int=>IV.slice (L.map zb)) ms))) j=some o→(j=W∧o=.map (zg IV.i64 (fun L:List Int=>IV.slice (L.map zb)) ms))∨(j≠W∧zc H j=some o):=fun j o h=>by
  rw [ze] at h
  by_cases e:W=j
  ·rw [if_pos e] at h;cases h;exact .inl ⟨e.symm,rfl⟩
  ·rw [if_neg e] at h
   exact .inr ⟨fun e2=>e e2.symm,by rw [xh,h];rfl⟩
 have E:b9 g (zc H) (· < n) w g (zc (zs (jJ H) W (.map (zg IV.i64 (fun L:List Int=>IV.slice (L.map zb)) ms)))) (· < n) w:={b9.refl g (zc H) (· < n) w with
  ep:=fun i b hb _ _ _ _=>.inl hb
  cI:=fun i hb _ _ _ _=>.inl hb
  af:=fun i hi s r h1=>by
   rcases hg i _ h1 with ⟨_,e2⟩ | ⟨_,e2⟩
   ·cases e2
   ·exact ⟨r,e2,rfl⟩
  cV:=fun i hi s l h1=>by
   rcases hg i _ h1 with ⟨_,e2⟩ | ⟨_,e2⟩
   ·cases e2
   ·exact ⟨l,e2,uf _⟩
  maps:=fun i _ es h1=>by
   rcases hg i _ h1 with ⟨e1,e2⟩ | ⟨_,e2⟩
   ·subst e1;exact ⟨_,hW⟩
   ·exact ⟨es,e2⟩
  fH:=fun i _ ll RR s pe h1=>by
   rcases hg i _ h1 with ⟨_,e2⟩ | ⟨_,e2⟩
   ·cases e2
   ·exact ⟨s,pe,e2⟩}
 refine ⟨g,⟨⟨RE.size,RE.defers,fun t x hx=>(RE.slot t x hx).mono E⟩,⟨R.inj,R.lt,fun i o h1 => ?_,fun i b o h1 h2 => ?_,fun i s l h1 h2 => ?_,R.ed,R.fix.eS E⟩⟩,fun g0 cL w0 hm E0=>E0.trans E⟩
 ·rcases hg i o h1 with ⟨e1,_⟩ | ⟨_,e2⟩
  ·subst e1;exact R.key _ _ hW
  ·exact R.key _ _ e2
 ·rcases hg i o h2 with ⟨e1,e2⟩ | ⟨_,e2⟩
  ·subst e1 e2
   have hro:=R.obj _ b _ h1 hW
   simp only [dx] at hro ⊢
   obtain ⟨a1,cG,clock,a2,a3,a4⟩:=hro
   refine ⟨a1,cG,clock,a2,by rw [a3,xC];simp [zg],fun q kk xx hq => ?_⟩
   simp only [zg,uJ] at hq
   obtain ⟨e0,OU,hq⟩:=uh.1 hq
   cases hq
   obtain ⟨e,b1,b2,b3⟩:=a4 q (.int .i64 e0.1) (j6 (zi+q) e0.2) (by rw [Kl,OU];rfl)
   refine ⟨e,b1,b2,?_⟩
   have b4:=b3.mono E
   unfold j6 at b4
   cases hb:uz (zi+q) 2000000 with
   | true=>
    rw [hb,bL] at b4
    cases b4 with
    | aX _ _ _ hr hid ht=>exact .ak _ _ hr
   | false=>rw [hb,bM] at b4;exact b4
  ·exact (R.obj i b o h1 e2).keep E rfl rfl
 ·rcases hg i _ h1 with ⟨_,e2⟩ | ⟨_,e2⟩
  ·cases e2
  ·exact R.cP i s l e2 h2
section
def IV.ls (L:List Int):IV:=.slice (L.map zb)
theorem Z6 {heap:List (Nat×aI)} {Ls:List (List Int)} (ht:wx heap=qN Ls) (ho:xd heap=true) {k:Nat} {L:List Int} (hL:Ls[k]?=some L) (hk:k < 1000000):zc heap (zi+k)=some (.bf 1 L.length):=by
 rw [xh]
 cases e:zc (jJ heap) (zi+k) with
 | some o=>have:=yh ho e;simp only [zi,qk] at this;omega
 | none=>
  rw [uk,ht,jM,if_neg (by simp only [zi,qk];omega),if_pos (by simp only [zi];omega),show zi+k - zi=k by omega,hL];rfl
structure pS (heap:List (Nat×aI)) (W:Nat) (ms:List (Int×List Int)):Prop where
 obj:zc heap W=some (.map (zD zi ms))
 tail:wx heap=qN (jn ms)
 out:xd heap=true
def OV (W:Nat):eV where
 to st:=⟨st.env,st.heap++qN (jn []),2000000⟩
 T st t:=match uA st.next qk with
  | true=>t
  | false=>.bad 6001
 ok st t h:=by
  split at h
  ·rename_i hn
   have hn:=ua hn
   have hm:qk=999999:=rfl
   exact ⟨h,OP hn,by show st.next≤2000000;omega⟩
  ·exact h.elim
def OW (W:Nat) (ms:List (Int×List Int)):eV where
 to st:=⟨st.env,zs (jJ st.heap) W (.map (zg IV.i64 IV.ls ms)),st.next⟩
 T st t:=.eq (Option aI) (zc st.heap W) (some (.map (zD zi ms))) t
 ok st t h:=⟨h.2,OT h.1,uf _⟩
theorem HG {env env':List (Nat×AV)} {heap:List (Nat×aI)} {n:Nat} (he:∀ t x,zc env' t=some x→∃ y,zc env t=some y∧lq y x):ct ⟨env,heap,n⟩ ⟨env',heap,n⟩:=by
 intro C nt g a w R
 obtain ⟨RE,R⟩:=R
 refine ⟨g,⟨⟨RE.size,RE.defers,fun t x hx => ?_⟩,R⟩,fun g0 cL w0 hm E0=>E0⟩
 obtain ⟨y,h1,h2⟩:=he t x hx
 exact h2.rv (RE.slot t y h1)
def HH (t:Nat) (id:Nat) (af:List (List IV)):eV where
 to st:=⟨zs st.env t (.ak (.slice af)),st.heap,st.next⟩
 T st u:=.eq (Option AV) (zc st.env t) (some (.aX id af)) u
 ok st u h:=⟨h.2,HG fun t' x hx=>by
  rw [ze] at hx
  split at hx
  ·rename_i e;subst e;cases hx;exact ⟨_,h.1,.bf _ _⟩
  ·exact ⟨x,hx,.refl _⟩,uf _⟩
def ZB (lo inc:Nat) (st:St) (ks:List Nat) (W:Nat) (ms:List (Int×List Int)):St:=
 ⟨qg (ks.filter fun k=>uz k lo) st.env,zs (jJ st.heap) W (.map (zD zi ms))++qN (jn ms),st.next+inc⟩
theorem HI {ks:List Nat} {lo:Nat} {env fK:List (Nat×AV)} (hF:∀ t,t < lo→zc fK t=zc env t):∀ t x,zc (qg (ks.filter fun k=>uz k lo) env) t=some x→zc (qg ks fK) t=some x:=fun t x hx=>by
 rw [xn] at hx
 split at hx
 ·rename_i hc
  rw [uo,uE] at hc
  have ht:t < lo:=by simpa [uB] using hc.2
  rw [xn,if_pos (by simpa using hc.1),hF t ht]
  exact hx
 ·cases hx
section
variable {env fK:List (Nat×AV)} {heap:List (Nat×aI)} {N M lo W B:Nat} {ms:List (Int×List Int)} {k i:Int} {ks:List Nat} {o:aI}
theorem Kn {ms':List (Int×List Int)} (j:Nat) (x:aI) (h:zc (zs (jJ heap) W (.map (zD zi ms'))++qN (jn ms')) j=some x) (hT:wx heap=qN (jn ms)) (hO:xd heap=true) :
  (j=W∧x=.map (zD zi ms'))∨(j≠W∧zc (jJ heap) j=some x∧zc heap j=some x∧(j < qk∨2000000≤j))∨(j≠W∧zc (jJ heap) j=none∧j=qk∧x=.dead∧zc heap j=some .dead) ∨
   (j≠W∧zc (jJ heap) j=none∧zi≤j∧j < 2000000∧∃ L,(jn ms')[j - zi]?=some L∧x=.bf 1 L.length):=by
 rw [xy,ze] at h
 by_cases tj:W=j
 ·rw [if_pos tj] at h;cases h;exact .inl ⟨tj.symm,rfl⟩
 ·rw [if_neg tj] at h
  right
  cases e:zc (jJ heap) j with
  | some o'=>
   rw [e,uI] at h
   cases h
   exact .inl ⟨fun e=>tj e.symm,rfl,by rw [xh,e];rfl,yh hO e⟩
  | none=>
   rw [e,uk,jM] at h
   right
   split at h
   ·rename_i ej
    cases h
    exact .inl ⟨fun e=>tj e.symm,rfl,ej,rfl,by rw [xh,e,hT,uk,jM,if_pos ej]⟩
   ·split at h
    ·rename_i ej
     obtain ⟨L,h1,h2⟩:=uh.1 h
     exact .inr ⟨fun e=>tj e.symm,rfl,ej.1,ej.2,L,h1,h2.symm⟩
    ·cases h
theorem Ko {j:Nat} {L:List Int} (hM:pS heap W ms) (hj:ms[j]?=some (k,L)) (h9:ms.length < 1000) (hB:∀ x,zc heap B=some x→False) (hF:∀ t,t < lo→zc fK t=zc env t) :
  ct ⟨qg ks fK,qb (qb (qb heap B o) (zi+j) (.bf 1 (L.length+1))) W (.map ((zD zi ms).set j (.int .i64 k,.aX (zi+j) (L.map zb++[zb i])))),M⟩
   ⟨qg (ks.filter fun k=>uz k lo) env,zs (jJ heap) W (.map (zD zi (ms.set j (k,L++[i]))))++qN (jn (ms.set j (k,L++[i]))),M⟩:=by
 have hjl:=(ub.1 hj).1
 have hnb:zi+j < 2000000:=by simp only [zi];omega
 refine G1 (HI hF) fun q x hq => ?_
 have fS:(zD zi ms).set j (.int .i64 k,.aX (zi+j) (L.map zb++[zb i]))=zD zi (ms.set j (k,L++[i])):=by
  rw [←Km,yI hnb];simp
 have rO:=Z6 hM.tail hM.out (k:=j) (L:=L) (by rw [wW,if_pos hjl,hj];rfl) (by omega)
 have tj:zi+j≠W:=fun e=>by rw [e,hM.obj] at rO;cases rO
 simp only [zF]
 rcases Kn q x hq hM.tail hM.out with ⟨e1,e2⟩ | ⟨e1,e2,e3,e4⟩ | ⟨e1,_,e2,e3,e4⟩ | ⟨e1,_,e2,e3,L2,e4,e5⟩
 ·rw [if_pos e1.symm,fS,e2]
 ·rw [if_neg (fun e=>e1 e.symm),if_neg (fun e=>by have h1:zi=1000000:=rfl;have h2:qk=999999:=rfl;omega),if_neg (show ¬ B=q from fun e=>hB x (by rw [e];exact e3))]
  exact e3
 ·rw [if_neg (fun e=>e1 e.symm),if_neg (fun e=>by have h1:zi=1000000:=rfl;have h2:qk=999999:=rfl;omega),if_neg (show ¬ B=q from fun e=>hB _ (by rw [e];exact e4)),e3]
  exact e4
 ·rw [if_neg (fun e=>e1 e.symm)]
  rw [OO hjl] at e4
  by_cases rN:q=zi+j
  ·subst rN
   rw [show zi+j - zi=j by omega,ug (by simp [jn];omega)] at e4
   cases e4
   rw [if_pos rfl,e5];simp
  ·rw [ul (by omega)] at e4
   have:=Z6 hM.tail hM.out e4 (by have h1:zi=1000000:=rfl;omega)
   rw [show zi+(q - zi)=q by omega] at this
   rw [if_neg (fun e=>rN e.symm),if_neg (show ¬ B=q from fun e=>hB _ (by rw [e];exact this)),e5]
   exact this
theorem Kp {A:Nat} (hM:pS heap W ms) (h9:ms.length < 1000) (hB:∀ x,zc heap B=some x→False) (hA:∀ x,zc heap A=some x→False) (hAB:A≠B) (hF:∀ t,t < lo→zc fK t=zc env t) :
  ct ⟨qg ks fK,qb (qb (qb heap B o) A (.bf 1 1)) W (.map (zD zi ms++[(.int .i64 k,.aX A [zb i])])),M⟩
   ⟨qg (ks.filter fun k=>uz k lo) env,zs (jJ heap) W (.map (zD zi (ms++[(k,[i])])))++qN (jn (ms++[(k,[i])])),M⟩:=by
 have rO:=Z6 hM.tail hM.out (k:=ms.length) (L:=[]) (by rw [wW,if_neg (by omega),if_pos h9]) (by omega)
 have th:zi+ms.length≠W:=fun e=>by rw [e,hM.obj] at rO;cases rO
 have Bh:A≠zi+ms.length:=fun e=>hA _ (e ▸ rO)
 have OX:B≠zi+ms.length:=fun e=>hB _ (e ▸ rO)
 have Bg:A≠W:=fun e=>hA _ (e ▸ hM.obj)
 refine OQ (HI hF) h9 (by rw [zF,if_pos rfl]) (by rw [zF,if_neg (fun e=>Bg e.symm),zF,if_pos rfl]) (by rw [zF,if_neg (fun e=>th e.symm),zF,if_neg Bh,zF,if_neg OX];exact rO) Bg th Bh fun q x hq => ?_
 have key:∀ y,q≠W→q≠zi+ms.length→zc heap q=some y→x=y→(q=W∧x=.map (zD zi (ms++[(k,[i])])))∨(q=zi+ms.length∧x=.bf 1 1)∨(q≠W∧q≠zi+ms.length∧q≠A∧zc (qb (qb (qb heap B o) A (.bf 1 1)) W (.map (zD zi ms++[(.int .i64 k,.aX A [zb i])]))) q=some x):=fun y h1 h2 h3 h4=>by
  refine .inr (.inr ⟨h1,h2,fun e=>hA _ (e ▸ h3),?_⟩)
  rw [zF,if_neg (fun e=>h1 e.symm),zF,if_neg (show ¬ A=q from fun e=>hA _ (by rw [e];exact h3)),zF,if_neg (show ¬ B=q from fun e=>hB _ (by rw [e];exact h3)),h4]
  exact h3
 rcases Kn q x hq hM.tail hM.out with ⟨e1,e2⟩ | ⟨e1,e2,e3,e4⟩ | ⟨e1,_,e2,e3,e4⟩ | ⟨e1,_,e2,e3,L2,e4,e5⟩
 ·exact .inl ⟨e1,e2⟩
 ·exact key _ e1 (fun e=>by have h1:zi=1000000:=rfl;have h2:qk=999999:=rfl;omega) e3 rfl
 ·exact key _ e1 (fun e=>by have h1:zi=1000000:=rfl;have h2:qk=999999:=rfl;omega) e4 e3
 ·rw [ON h9] at e4
  by_cases rN:q=zi+ms.length
  ·subst rN
   rw [show zi+ms.length - zi=ms.length by omega,ug (by simp [jn];omega)] at e4
   cases e4
   exact .inr (.inl ⟨rfl,e5⟩)
  ·rw [ul (by omega)] at e4
   have:=Z6 hM.tail hM.out e4 (by have h1:zi=1000000:=rfl;omega)
   rw [show zi+(q - zi)=q by omega] at this
   exact key _ e1 rN this e5
end
end
section
theorem Wa {ms ms':List (Int×List Int)} {k i:Int} (h:wH ms k i=some ms'):ms.length < 1000∧((∃ (j:Nat) (L:List Int),ms[j]?=some (k,L)∧(L.length+1)*8≤140737488355328∧zW (.int .i64 k) (zD zi ms)=some (j6 (zi+j) L)∧(∀ v,qj (.int .i64 k) v (zD zi ms)=(zD zi ms).set j (.int .i64 k,v))∧ms'=ms.set j (k,L++[i])) ∨
  (zW (.int .i64 k) (zD zi ms)=none∧(∀ v,qj (.int .i64 k) v (zD zi ms)=zD zi ms++[(.int .i64 k,v)])∧ms'=ms++[(k,[i])])):=by
 unfold wH at h
 split at h
 case isFalse=>cases h
 rename_i hc
 obtain ⟨h9,hsz⟩:=hc
 cases h
 refine ⟨h9,?_⟩
 cases hg:zr k ms with
 | some L=>
  obtain ⟨j,h1,h2,h3,h4⟩:=HC hg
  rw [hg] at hsz
  exact .inl ⟨j,L,h1,hsz,h2 zi,h3 zi,by rw [h4];rfl⟩
 | none=>
  obtain ⟨h2,h3,h4⟩:=HD hg
  exact .inr ⟨h2 zi,h3 zi,by rw [h4];rfl⟩
def yW:List bh:=[⟨some 72,.fP (.t 3),none⟩,⟨some 73,.mz (.t 72),none⟩,⟨some 74,.iW 12 (.t 73),none⟩,⟨some 75,.load false 1 (.t 74),none⟩,⟨some 76,.fP (.t 3),none⟩,⟨some 77,.mz (.t 76),none⟩,⟨some 78,.iW 12 (.t 77),none⟩,⟨some 79,.load false 1 (.t 78),none⟩,
 ⟨some 80,.look false .nil false (.t 79) (.c (.ak (.int .i64 (-1)))),none⟩,⟨some 81,.fP (.t 5),none⟩,⟨some 82,.dy 1 [.ak (.int .i64 0)] 1 [(0,.t 81)],none⟩,⟨some 83,.app 1 8 (.t 80) (.t 82),none⟩,⟨none,.upd false (.t 75) (.c (.ak (.int .i64 (-1)))) (.t 83),none⟩]
def kJ:List Nat:=[0,1,3,7,0,16,48,112,240,0,512,2032,4095]
def yX:List bh:=[⟨some 91,.fP (.t 3),none⟩,⟨some 92,.mz (.t 91),none⟩,⟨some 93,.iW 12 (.t 92),none⟩,⟨some 94,.load false 1 (.t 93),none⟩,⟨some 95,.iW 0 (.t 8),none⟩,⟨some 96,.load false 1 (.t 95),none⟩,⟨some 97,.fP (.t 3),none⟩,⟨some 98,.mz (.t 97),none⟩,⟨some 99,.iW 12 (.t 98),none⟩,⟨some 100,.load false 1 (.t 99),none⟩,
 ⟨some 101,.iW 0 (.t 8),none⟩,⟨some 102,.load false 1 (.t 101),none⟩,⟨some 103,.look false .nil false (.t 100) (.t 102),none⟩,⟨some 104,.fP (.t 5),none⟩,⟨some 105,.dy 1 [.ak (.int .i64 0)] 1 [(0,.t 104)],none⟩,⟨some 106,.app 1 8 (.t 103) (.t 105),none⟩,⟨none,.upd false (.t 94) (.t 96) (.t 106),none⟩]
def kK:List Nat:=[0,1,3,7,0,16,0,64,192,448,0,1024,4032,0,8192,32704,65535]
section
variable {C:bY} {nt:Fr} {st:St} {R W M:Nat} {row:List AV} {i k:Int} {a:AV} {ms ms':List (Int×List Int)} {ks:List Nat} {K:Exit→St→Prop}
set_option maxHeartbeats 2000000 in
theorem OY (e3:zc st.env 3=some (.ptr R 0 0)) (e5:zc st.env 5=some (vI i)) (hR:zc st.heap R=some (.af 15 [row])) (hrow:row[12]?=some (.map W)) (hM:pS st.heap W ms)
  (hlt:∀ j o,zc st.heap j=some o→j < st.next) (ha:wH ms (-1) i=some ms') (h:K .normal (ZB 72 13 st ks W ms')):dF C nt (.region true kJ yW (some ks)) K st:=by
 obtain ⟨env,heap,N⟩:=st
 simp only at e3 e5 hR hM hlt
 obtain ⟨h9,hc⟩:=Wa ha
 have OZ:=hlt _ _ hR
 have O0:=hlt _ _ hM.obj
 have O1:R≠W:=fun e=>by have:=hM.obj;rw [←e,hR] at this;cases this
 refine yi (ZB 72 13 ⟨env,heap,N⟩ ks W ms') (by simp [ZB]) h ?_
 refine Ye ?_
 have lk:Qx yW=false:=rfl
 rw [lk]
 show nK C _ _ yW 0 [] [] _
 unfold yW
 refine zy (.ptr R 0 0) [] rfl (by simp [ap,zd,e3]) rfl ?_
 refine zy (.ptr R 0 0) [] rfl (by simp [St.after,St.put,zl,ap,zd,ze,hR]) rfl ?_
 refine zy (.ptr R 0 12) [] rfl (by simp [St.after,St.put,zl,ap,zd,ze,hR]) rfl ?_
 refine zy (.map W) [] rfl (by simp [St.after,St.put,zl,ap,zd,ze,hR,hrow]) rfl ?_
 refine zy (.ptr R 0 0) [] rfl (by simp [St.after,St.put,zl,ap,zd,ze,e3]) rfl ?_
 refine zy (.ptr R 0 0) [] rfl (by simp [St.after,St.put,zl,ap,zd,ze,hR]) rfl ?_
 refine zy (.ptr R 0 12) [] rfl (by simp [St.after,St.put,zl,ap,zd,ze,hR]) rfl ?_
 refine zy (.map W) [] rfl (by simp [St.after,St.put,zl,ap,zd,ze,hR,hrow]) rfl ?_
 rcases hc with ⟨j,L,c1,c2,c3,c4,rfl⟩ | ⟨c3,c4,rfl⟩
 ·have hjl:=(ub.1 c1).1
  have hnb:zi+j < 2000000:=by simp only [zi];omega
  have hq:=Z6 hM.tail hM.out (k:=j) (L:=L) (by rw [wW,if_pos hjl,c1];rfl) (by omega)
  have HB:=hlt _ _ hq
  have D9:zi+j≠R:=fun e=>by rw [e,hR] at hq;cases hq
  have Bi:zi+j≠W:=fun e=>by rw [e,hM.obj] at hq;cases hq
  refine zy (.aX (zi+j) (L.map zb)) [] rfl (by simp [St.after,St.put,zl,ap,zd,ze,jf,hM.obj,jD,wy,c3,yI hnb]) rfl ?_
  refine zy (vI i) [] rfl (by simp [St.after,St.put,zl,ap,zd,ze,e5]) rfl ?_
  have n1:N+10≠R:=by omega
  have n2:N+10≠W:=by omega
  have n3:N+10≠zi+j:=by omega
  refine zy (.Zag (N+10) 0 1) [(N+10,.af 1 [[vI i]])] rfl (by simp [St.after,St.put,zl,ap,zd,ze,aY,cellsOf,vI,ja,qJ]) ?_ ?_
  ·simp [jx,zQ,zq,qx,qD,zK,ql,zd,St.after,St.put,zl,ze,e3,e5,vI,Ne.symm n1,Ne.symm n2,Ne.symm n3]
  refine zy (.aX (zi+j) (L.map zb++[zb i])) [(zi+j,.bf 1 (L.length+1))] rfl ?_ ?_ ?_
  ·simp [St.after,St.put,zl,ap,zd,ze,zF,kS,jU,hq,n3,aY,qY,vI,zb,c2]
  ·simp [jx,zQ,zq,qx,qD,zK,ql,zd,St.after,St.put,zl,ze,e3,e5,vI,dV,kJ,Ne.symm D9,Ne.symm Bi,n3,Ne.symm n3]
  refine zy .undef [(W,.map ((zD zi ms).set j (.int .i64 (-1),.aX (zi+j) (L.map zb++[zb i]))))] rfl ?_ ?_ ?_
  ·simp [St.after,St.put,zl,ap,zd,ze,zF,Bi,n2,hM.obj,jD,wy,c4,jV]
  ·simp [jx,zQ,zq,qx,qD,zK,ql,zd,St.after,St.put,zl,ze,e3,e5,vI,dV,kJ]
  refine Ko (lo:=72) hM c1 h9 (fun x hx=>by have:=hlt _ _ hx;omega) fun t ht => ?_
  simp only [St.after,St.put,ze]
  repeat rw [if_neg (by omega)]
 ·refine zy .nil [] rfl (by simp [St.after,St.put,zl,ap,zd,ze,jf,hM.obj,jD,wy,c3]) rfl ?_
  refine zy (vI i) [] rfl (by simp [St.after,St.put,zl,ap,zd,ze,e5]) rfl ?_
  have n1:N+10≠R:=by omega
  have n2:N+10≠W:=by omega
  have m1:N+11≠R:=by omega
  have m2:N+11≠W:=by omega
  refine zy (.Zag (N+10) 0 1) [(N+10,.af 1 [[vI i]])] rfl (by simp [St.after,St.put,zl,ap,zd,ze,aY,cellsOf,vI,ja,qJ]) ?_ ?_
  ·simp [jx,zQ,zq,qx,qD,zK,ql,zd,St.after,St.put,zl,ze,e3,e5,vI,Ne.symm n1,Ne.symm n2]
  refine zy (.aX (N+11) [zb i]) [(N+11,.bf 1 1)] rfl ?_ ?_ ?_
  ·simp [St.after,St.put,zl,ap,zd,ze,zF,kS,jU,aY,qY,vI,zb]
  ·simp [jx,zQ,zq,qx,qD,zK,ql,zd,St.after,St.put,zl,ze,e3,e5,vI,dV,kJ,Ne.symm m1,Ne.symm m2]
  refine zy .undef [(W,.map (zD zi ms++[(.int .i64 (-1),.aX (N+11) [zb i])]))] rfl ?_ ?_ ?_
  ·simp [St.after,St.put,zl,ap,zd,ze,zF,m2,n2,hM.obj,jD,wy,c4,jV]
  ·simp [jx,zQ,zq,qx,qD,zK,ql,zd,St.after,St.put,zl,ze,e3,e5,vI,dV,kJ]
  refine Kp (lo:=72) hM h9 (fun x hx=>by have:=hlt _ _ hx;omega) (fun x hx=>by have:=hlt _ _ hx;omega) (by omega) fun t ht => ?_
  simp only [St.after,St.put,ze]
  repeat rw [if_neg (by omega)]
set_option maxHeartbeats 2000000 in
theorem O3 (e3:zc st.env 3=some (.ptr R 0 0)) (e5:zc st.env 5=some (vI i)) (e8:zc st.env 8=some (.ptr M 0 0)) (pq:zc st.heap M=some (.af 2 [[vI k,a]])) (hR:zc st.heap R=some (.af 15 [row])) (hrow:row[12]?=some (.map W)) (hM:pS st.heap W ms)
  (hlt:∀ j o,zc st.heap j=some o→j < st.next) (ha:wH ms k i=some ms') (h:K .normal (ZB 91 17 st ks W ms')):dF C nt (.region true kK yX (some ks)) K st:=by
 obtain ⟨env,heap,N⟩:=st
 simp only at e3 e5 e8 pq hR hM hlt
 obtain ⟨h9,hc⟩:=Wa ha
 have OZ:=hlt _ _ hR
 have O0:=hlt _ _ hM.obj
 have OK:=hlt _ _ pq
 have hMW:M≠W:=fun e=>by have:=hM.obj;rw [←e,pq] at this;cases this
 have O1:R≠W:=fun e=>by have:=hM.obj;rw [←e,hR] at this;cases this
 refine yi (ZB 91 17 ⟨env,heap,N⟩ ks W ms') (by simp [ZB]) h ?_
 refine Ye ?_
 have lk:Qx yX=false:=rfl
 rw [lk]
 show nK C _ _ yX 0 [] [] _
 unfold yX
 refine zy (.ptr R 0 0) [] rfl (by simp [ap,zd,e3]) rfl ?_
 refine zy (.ptr R 0 0) [] rfl (by simp [St.after,St.put,zl,ap,zd,ze,hR]) rfl ?_
 refine zy (.ptr R 0 12) [] rfl (by simp [St.after,St.put,zl,ap,zd,ze,hR]) rfl ?_
 refine zy (.map W) [] rfl (by simp [St.after,St.put,zl,ap,zd,ze,hR,hrow]) rfl ?_
 refine zy (.ptr M 0 0) [] rfl (by simp [St.after,St.put,zl,ap,zd,ze,e8,pq]) rfl ?_
 refine zy (vI k) [] rfl (by simp [St.after,St.put,zl,ap,zd,ze,pq]) rfl ?_
 refine zy (.ptr R 0 0) [] rfl (by simp [St.after,St.put,zl,ap,zd,ze,e3]) rfl ?_
 refine zy (.ptr R 0 0) [] rfl (by simp [St.after,St.put,zl,ap,zd,ze,hR]) rfl ?_
 refine zy (.ptr R 0 12) [] rfl (by simp [St.after,St.put,zl,ap,zd,ze,hR]) rfl ?_
 refine zy (.map W) [] rfl (by simp [St.after,St.put,zl,ap,zd,ze,hR,hrow]) rfl ?_
 refine zy (.ptr M 0 0) [] rfl (by simp [St.after,St.put,zl,ap,zd,ze,e8,pq]) rfl ?_
 refine zy (vI k) [] rfl (by simp [St.after,St.put,zl,ap,zd,ze,pq]) rfl ?_
 rcases hc with ⟨j,L,c1,c2,c3,c4,rfl⟩ | ⟨c3,c4,rfl⟩
 ·have hjl:=(ub.1 c1).1
  have hnb:zi+j < 2000000:=by simp only [zi];omega
  have hq:=Z6 hM.tail hM.out (k:=j) (L:=L) (by rw [wW,if_pos hjl,c1];rfl) (by omega)
  have HB:=hlt _ _ hq
  have D5:zi+j≠M:=fun e=>by rw [e,pq] at hq;cases hq
  have D9:zi+j≠R:=fun e=>by rw [e,hR] at hq;cases hq
  have Bi:zi+j≠W:=fun e=>by rw [e,hM.obj] at hq;cases hq
  refine zy (.aX (zi+j) (L.map zb)) [] rfl (by simp [St.after,St.put,zl,ap,zd,ze,jf,hM.obj,vI,jD,wy,c3,yI hnb]) rfl ?_
  refine zy (vI i) [] rfl (by simp [St.after,St.put,zl,ap,zd,ze,e5]) rfl ?_
  have n1:N+14≠R:=by omega
  have n5:N+14≠M:=by omega
  have n2:N+14≠W:=by omega
  have n3:N+14≠zi+j:=by omega
  refine zy (.Zag (N+14) 0 1) [(N+14,.af 1 [[vI i]])] rfl (by simp [St.after,St.put,zl,ap,zd,ze,aY,cellsOf,vI,ja,qJ]) ?_ ?_
  ·simp [jx,zQ,zq,qx,qD,zK,ql,zd,St.after,St.put,zl,ze,e3,e5,e8,vI,Ne.symm n1,Ne.symm n2,Ne.symm n5,Ne.symm n3]
  refine zy (.aX (zi+j) (L.map zb++[zb i])) [(zi+j,.bf 1 (L.length+1))] rfl ?_ ?_ ?_
  ·simp [St.after,St.put,zl,ap,zd,ze,zF,kS,jU,hq,n3,aY,qY,vI,zb,c2]
  ·simp [jx,zQ,zq,qx,qD,zK,ql,zd,St.after,St.put,zl,ze,e3,e5,e8,vI,dV,kK,Ne.symm D9,Ne.symm Bi,Ne.symm D5,n3,Ne.symm n3]
  refine zy .undef [(W,.map ((zD zi ms).set j (.int .i64 k,.aX (zi+j) (L.map zb++[zb i]))))] rfl ?_ ?_ ?_
  ·simp [St.after,St.put,zl,ap,zd,ze,zF,Bi,n2,hM.obj,vI,jD,wy,c4,jV]
  ·simp [jx,zQ,zq,qx,qD,zK,ql,zd,St.after,St.put,zl,ze,e3,e5,e8,vI,dV,kK]
  refine Ko (lo:=91) hM c1 h9 (fun x hx=>by have:=hlt _ _ hx;omega) fun t ht => ?_
  simp only [St.after,St.put,ze]
  repeat rw [if_neg (by omega)]
 ·refine zy .nil [] rfl (by simp [St.after,St.put,zl,ap,zd,ze,jf,hM.obj,vI,jD,wy,c3]) rfl ?_
  refine zy (vI i) [] rfl (by simp [St.after,St.put,zl,ap,zd,ze,e5]) rfl ?_
  have n1:N+14≠R:=by omega
  have n5:N+14≠M:=by omega
  have n2:N+14≠W:=by omega
  have m1:N+15≠R:=by omega
  have m5:N+15≠M:=by omega
  have m2:N+15≠W:=by omega
  refine zy (.Zag (N+14) 0 1) [(N+14,.af 1 [[vI i]])] rfl (by simp [St.after,St.put,zl,ap,zd,ze,aY,cellsOf,vI,ja,qJ]) ?_ ?_
  ·simp [jx,zQ,zq,qx,qD,zK,ql,zd,St.after,St.put,zl,ze,e3,e5,e8,vI,Ne.symm n1,Ne.symm n2,Ne.symm n5]
  refine zy (.aX (N+15) [zb i]) [(N+15,.bf 1 1)] rfl ?_ ?_ ?_
  ·simp [St.after,St.put,zl,ap,zd,ze,zF,kS,jU,aY,qY,vI,zb]
  ·simp [jx,zQ,zq,qx,qD,zK,ql,zd,St.after,St.put,zl,ze,e3,e5,e8,vI,dV,kK,Ne.symm m1,Ne.symm m2,Ne.symm m5]
  refine zy .undef [(W,.map (zD zi ms++[(.int .i64 k,.aX (N+15) [zb i])]))] rfl ?_ ?_ ?_
  ·simp [St.after,St.put,zl,ap,zd,ze,zF,m2,n2,hM.obj,vI,jD,wy,c4,jV]
  ·simp [jx,zQ,zq,qx,qD,zK,ql,zd,St.after,St.put,zl,ze,e3,e5,e8,vI,dV,kK]
  refine Kp (lo:=91) hM h9 (fun x hx=>by have:=hlt _ _ hx;omega) (fun x hx=>by have:=hlt _ _ hx;omega) (by omega) fun t ht => ?_
  simp only [St.after,St.put,ze]
  repeat rw [if_neg (by omega)]
def JM:List bh:=[⟨some 15,.fP (.t 0),none⟩,⟨some 16,.mz (.t 15),none⟩,⟨some 17,.iW 12 (.t 16),none⟩,⟨some 18,.load false 1 (.t 17),none⟩,⟨some 19,.fP (.t 1),none⟩,⟨some 20,.fP (.t 4),none⟩,⟨some 21,.idx 1 (.t 19) (.t 20),none⟩,⟨some 22,.load false 1 (.t 21),none⟩,
 ⟨some 23,.look false .nil false (.t 18) (.t 22),none⟩,⟨some 24,.len (.t 23),none⟩,⟨some 25,.fP (.c (.ak (.int .i64 0))),none⟩]
def HJ:List Nat:=[0,1,3,7,0,0,48,112,255,511,0]
def Z7 (es:List (Int×List Int)) (l:List Int) (n:Int):Option (List Int):=(zf l n).map fun k=>(zr k es).getD []
def JN (st:St) (ks:List Nat) (b:List Int):St:=⟨qg (ks.filter fun k=>uz k 15||uA 23 k) (zs (zs (zs st.env 23 (.ak (.slice (b.map zb)))) 24 (vI (b.length:Int))) 25 (vI 0)),st.heap,st.next+11⟩
set_option maxHeartbeats 2000000 in
theorem O5 {es:List (Int×List Int)} {l:List Int} {q:Nat} {n:Int} {b:List Int} (e0:zc st.env 0=some (.ptr R 0 0)) (e1:zc st.env 1=some (.aX q (l.map zb))) (e4:zc st.env 4=some (vI n)) (hR:zc st.heap R=some (.af 15 [row])) (hrow:row[12]?=some (.map W)) (hW:zc st.heap W=some (.map (zg IV.i64 IV.ls es)))
  (ha:Z7 es l n=some b) (h:K .normal (JN st ks b)):dF C nt (.region true HJ JM (some ks)) K st:=by
 obtain ⟨env,heap,N⟩:=st
 simp only at e0 e1 e4 hR hW
 obtain ⟨k,hk,rfl⟩:=uh.1 ha
 obtain ⟨k0,k1,k2,_⟩:=Y9 hk
 refine yi (JN ⟨env,heap,N⟩ ks ((zr k es).getD [])) (by simp [JN]) h ?_
 refine Gj ?_
 unfold JM
 refine zy (.ptr R 0 0) [] rfl (by simp [ap,zd,e0]) rfl ?_
 refine zy (.ptr R 0 0) [] rfl (by simp [St.after,St.put,zl,ap,zd,ze,hR]) rfl ?_
 refine zy (.ptr R 0 12) [] rfl (by simp [St.after,St.put,zl,ap,zd,ze,hR]) rfl ?_
 refine zy (.map W) [] rfl (by simp [St.after,St.put,zl,ap,zd,ze,hR,hrow]) rfl ?_
 refine zy (.aX q (l.map zb)) [] rfl (by simp [St.after,St.put,zl,ap,zd,ze,e1]) rfl ?_
 refine zy (vI n) [] rfl (by simp [St.after,St.put,zl,ap,zd,ze,e4]) rfl ?_
 refine zy (.cD (zb k)) [] rfl (by simp [St.after,St.put,zl,ap,zd,ze,vI,k0,k1,zb]) rfl ?_
 refine zy (vI k) [] rfl (by simp [St.after,St.put,zl,ap,zd,ze,zb,vI]) rfl ?_
 have fin:∀ y,lq y (.ak (.slice (((zr k es).getD []).map zb)))→∀ fK,(∀ t,t < 15→zc fK t=zc env t)→zc fK 23=some y→zc fK 24=some (vI (((zr k es).getD []).length:Int))→zc fK 25=some (vI 0)→(∀ t,25 < t→zc fK t=zc env t) →
   ct ⟨qg ks fK,heap,N+11⟩ (JN ⟨env,heap,N⟩ ks ((zr k es).getD [])):=fun y hy fK f1 f2 f3 f4 f5=>by
  refine HG fun t x hx => ?_
  rw [xn] at hx
  split at hx
  ·rename_i hc
   rw [uo,uE] at hc
   have ht:t < 15∨23≤t:=by
    have:=hc.2
    simp only [uC] at this
    rcases this with g | g
    ·exact .inl (by simpa [uB] using g)
    ·exact .inr (ua g)
   rw [xn,if_pos (by simpa using hc.1)]
   simp only [ze] at hx
   by_cases t25:25=t
   ·subst t25;rw [if_pos rfl] at hx;cases hx;exact ⟨_,f4,.refl _⟩
   rw [if_neg t25] at hx
   by_cases t24:24=t
   ·subst t24;rw [if_pos rfl] at hx;cases hx;exact ⟨_,f3,.refl _⟩
   rw [if_neg t24] at hx
   by_cases t23:23=t
   ·subst t23;rw [if_pos rfl] at hx;cases hx;exact ⟨_,f2,hy⟩
   rw [if_neg t23] at hx
   rcases ht with ht | ht
   ·exact ⟨x,by rw [f1 t ht];exact hx,.refl _⟩
   ·exact ⟨x,by rw [f5 t (by omega)];exact hx,.refl _⟩
  ·cases hx
 cases hg:zr k es with
 | some L=>
  refine zy (.ak (IV.ls L)) [] rfl (by simp [St.after,St.put,zl,ap,zd,ze,jf,hW,vI,jD,QE,ko,hg]) rfl ?_
  refine zy (vI (L.length:Int)) [] rfl (by simp [St.after,St.put,zl,ap,zd,ze,xR,IV.ls,vI]) rfl ?_
  refine zy (vI 0) [] rfl (by simp [ap,zd,vI]) rfl ?_
  rw [hg] at fin
  refine fin (.ak (IV.ls L)) (.refl _) _ (fun t ht => ?_) ?_ ?_ ?_ fun t ht => ?_
  ·simp only [St.after,St.put,ze];repeat rw [if_neg (by omega)]
  ·simp [St.after,St.put,ze]
  ·simp [St.after,St.put,ze]
  ·simp [St.after,St.put,ze]
  ·simp only [St.after,St.put,ze];repeat rw [if_neg (by omega)]
 | none=>
  refine zy .nil [] rfl (by simp [St.after,St.put,zl,ap,zd,ze,jf,hW,vI,jD,QE,ko,hg]) rfl ?_
  refine zy (vI 0) [] rfl (by simp [St.after,St.put,zl,ap,zd,ze,xR,IV.ls,vI]) rfl ?_
  refine zy (vI 0) [] rfl (by simp [ap,zd,vI]) rfl ?_
  rw [hg] at fin
  refine fin .nil .nil _ (fun t ht => ?_) ?_ ?_ ?_ fun t ht => ?_
  ·simp only [St.after,St.put,ze];repeat rw [if_neg (by omega)]
  ·simp [St.after,St.put,ze]
  ·simp [St.after,St.put,ze]
  ·simp [St.after,St.put,ze]
  ·simp only [St.after,St.put,ze];repeat rw [if_neg (by omega)]
end
def O6 (R W:Nat) (row:List AV) (i:Int) (ms:List (Int×List Int)):lW (List (Int×List Int)) where
 x:=wH ms (-1) i
 T c st k:=match c with
  | .region true o items (some ks)=>.eq (List Nat) o kJ (.eq (List bh) items yW (.eq (Option AV) (zc st.env 3) (some (.ptr R 0 0)) (.eq (Option AV) (zc st.env 5) (some (vI i)) (.eq (Option aI) (zc st.heap R) (some (.af 15 [row])) (.eq (Option AV) row[12]? (some (.map W))
   (.eq (Option aI) (zc st.heap W) (some (.map (zD zi ms))) (.eq (List (Nat×aI)) (wx st.heap) (qN (jn ms))
   (match xd st.heap with
   | true=>.all (List (Int×List Int)) fun b=>k b (ZB 72 13 st ks W b)
   | false=>.bad 6110))))))))
  | _=>.bad 6111
 ok C nt c st k K b hb hT hK:=by
  split at hT
  ·rename_i o items ks
   obtain ⟨rfl,rfl,h3,h5,hR,hr,hW,ht,h1⟩:=hT
   split at h1
   ·rename_i ho
    refine Ym fun g a' w R' => ?_
    exact OY h3 h5 hR hr ⟨hW,ht,ho⟩ (fun j o hj=>R'.heap.key j o hj) hb (hK _ (h1 b))
   ·exact h1.elim
  ·exact hT.elim
def O7 (R W M:Nat) (row:List AV) (k i:Int) (a:AV) (ms:List (Int×List Int)):lW (List (Int×List Int)) where
 x:=wH ms k i
 T c st kk:=match c with
  | .region true o items (some ks)=>.eq (List Nat) o kK (.eq (List bh) items yX (.eq (Option AV) (zc st.env 3) (some (.ptr R 0 0)) (.eq (Option AV) (zc st.env 5) (some (vI i)) (.eq (Option AV) (zc st.env 8) (some (.ptr M 0 0)) (.eq (Option aI) (zc st.heap M) (some (.af 2 [[vI k,a]]))
   (.eq (Option aI) (zc st.heap R) (some (.af 15 [row])) (.eq (Option AV) row[12]? (some (.map W))
   (.eq (Option aI) (zc st.heap W) (some (.map (zD zi ms))) (.eq (List (Nat×aI)) (wx st.heap) (qN (jn ms))
   (match xd st.heap with
   | true=>.all (List (Int×List Int)) fun b=>kk b (ZB 91 17 st ks W b)
   | false=>.bad 6112))))))))))
  | _=>.bad 6113
 ok C nt c st kk K b hb hT hK:=by
  split at hT
  ·rename_i o items ks
   obtain ⟨rfl,rfl,h3,h5,h8,pq,hR,hr,hW,ht,h1⟩:=hT
   split at h1
   ·rename_i ho
    refine Ym fun g a' w R' => ?_
    exact O3 h3 h5 h8 pq hR hr ⟨hW,ht,ho⟩ (fun j o hj=>R'.heap.key j o hj) hb (hK _ (h1 b))
   ·exact h1.elim
  ·exact hT.elim
def HK (R W q:Nat) (row:List AV) (n:Int) (l:List Int) (es:List (Int×List Int)):lW (List Int) where
 x:=Z7 es l n
 T c st k:=match c with
  | .region true o items (some ks)=>.eq (List Nat) o HJ (.eq (List bh) items JM (.eq (Option AV) (zc st.env 0) (some (.ptr R 0 0)) (.eq (Option AV) (zc st.env 1) (some (.aX q (l.map zb))) (.eq (Option AV) (zc st.env 4) (some (vI n)) (.eq (Option aI) (zc st.heap R) (some (.af 15 [row])) (.eq (Option AV) row[12]? (some (.map W))
   (.eq (Option aI) (zc st.heap W) (some (.map (zg IV.i64 IV.ls es))) (.all (List Int) fun b=>k b (JN st ks b)))))))))
  | _=>.bad 6114
 ok C nt c st k K b hb hT hK:=by
  split at hT
  ·rename_i o items ks
   obtain ⟨rfl,rfl,h0,h1,h4,hR,hr,hW,h9⟩:=hT
   exact O5 h0 h1 h4 hR hr hW hb (hK _ (h9 b))
  ·exact hT.elim
end
end Go.Proofs.YtcmmhbmgpflmeaaGreatDoor
