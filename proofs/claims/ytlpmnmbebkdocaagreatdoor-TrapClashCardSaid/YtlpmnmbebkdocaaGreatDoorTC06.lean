/-
  Plans: what a function computes, told so that the kernel can hold it against the function's code. A plan that the kernel has checked is a walk.
  Plans: code against a plan, and that a plan that is checked is a walk.
  Plans: what is live, whole functions, and the parts that printed plans are made of.
  Plans: the parts that printed plans are made of.
  Plans for an object whose cells are slices that grow.
  Data of the program's types.
  The table of the library that the program reads: what is known of it while the program runs.
  The program's functions, by the numbers that plans have for them.
  From the readings of a row's arguments to the abstract machine's data: whatever plain data is handed in (numbers, truth values, texts, slices and structures of these) is data of the abstract machine, of its type; and a law that is proved of all such data is the row's contract.
  A law that holds of all plain data of its types is the row's contract: whatever the arguments, the call returns true, and each argument reads as it read before.
  From data of the abstract machine to typed data.
  From readings to the data of this program's types.
  Plain laws about loops, searches and elements of lists.
-/
import Derived.Test.YtlpmnmbebkdocaaGreatDoorTC05
import Derived.Test.YtlpmnmbebkdocaaGreatDoorChecked
import Derived.Lib.ItoaMem
import Derived.Lib.LaidTab
import Derived.KernelRfl
import Derived.Test.YtlpmnmbebkdocaaGreatDoorTC03
import Derived.ProofKit
import Derived.SizedLaws
import Derived.Carry
import Derived.OpenShut
import Derived.Test.YtlpmnmbebkdocaaGreatDoorTC04
namespace Go.Proofs.YtlpmnmbebkdocaaGreatDoor
open Go.RowKit
set_option linter.unusedSimpArgs false
set_option linter.unusedVariables false
section
inductive Tree:Type 1 where
  | tt
  | bad (why:Nat)
  | step (t:Tree)
  | all (β:Type) (f:β→Tree)
  | and (a b:Tree)
  | eq (β:Type) (a b:β) (t:Tree)
def Tree.Ok:Tree→Prop
  | .tt=>True
  | .bad _=>False
  | .step t=>t.Ok
  | .all _ f=>∀ v,(f v).Ok
  | .and a b=>a.Ok∧b.Ok
  | .eq _ a b t=>a=b∧t.Ok
def Tree.norm:Tree→Tree
  | .tt=>.tt
  | .bad _=>.tt
  | .step t=>.step t.norm
  | .all β f=>.all β fun v=>(f v).norm
  | .and a b=>.and a.norm b.norm
  | .eq β a _ t=>.eq β a a t.norm
theorem Tree.ok:∀ {t:Tree},t=t.norm→t.Ok:=by
  intro t
  induction t with
  | tt=>exact fun _=>trivial
  | bad _=>intro h;cases h
  | step t ih=>intro h;simp only [Tree.norm,Tree.step.injEq] at h;exact ih h
  | all β f ih=>
    intro h v
    simp only [Tree.norm,Tree.all.injEq,heq_eq_eq,true_and] at h
    exact ih v (congrFun h v)
  | and a b iha ihb=>intro h;simp only [Tree.norm,Tree.and.injEq] at h;exact ⟨iha h.1,ihb h.2⟩
  | eq β a b t ih=>intro h;simp only [Tree.norm,Tree.eq.injEq,heq_eq_eq,true_and] at h;exact ⟨h.1.symm,ih h.2⟩
abbrev zii:=List Orc×List Prop
abbrev zI:=List (Nat×zii)
def FactsOk (Φ:zI):Prop:=∀ k f,za Φ k=some f→AllP f.2
structure Spec (β:Type) where
  ks:List Nat
  ov:β→List (Nat×AV)
  hs:List Nat
  oh:β→List (Nat×Zaf)
  nx:Nat
  bel:∀ b,Belows nx (oh b)
  ns:β→Option (List (List Int))
def Wm (hs:List Nat):List (Nat×Zaf)→List (Nat×Zaf)
  | []=>[]
  | (k,o)::r=>match Nat.beq k qI with
    | true=>[]
    | false=>match hs.contains k with
      | true=>(k,o)::Wm hs r
      | false=>Wm hs r
def Z0:Option (List (List Int))→List (Nat×Zaf)
  | Option.none=>[]
  | some Ls=>xA Ls
abbrev Spec.k {β:Type} (ks:List Nat) (ov:β→List (Nat×AV)) (hs:List Nat) (oh:β→List (Nat×Zaf)) (nx:Nat) (bel:∀ b,Belows nx (oh b)):Spec β:=⟨ks,ov,hs,oh,nx,bel,fun _=>Option.none⟩
def Spec.st {β:Type} (sp:Spec β) (st:St) (b:β):St:=⟨sp.ov b++qw sp.ks st.env,sp.oh b++(Wm sp.hs st.heap++Z0 (sp.ns b)),sp.nx⟩
def Spec.sti {β:Type} (sp:Spec β) (st:St) (idx:Nat) (n:Int) (b:β):St:=⟨(idx,vI n)::(sp.ov b++qw sp.ks st.env),sp.oh b++(Wm sp.hs st.heap++Z0 (sp.ns b)),sp.nx⟩
structure WStep where
  to:St→St
  T:St→Tree→Tree
  ok:∀ st t,(T st t).Ok→t.Ok∧Weak st (to st)∧st.next≤(to st).next
structure MStep (β:Type) where
  x:Option β
  T:ZaG→St→(β→St→Tree)→Tree
  ok:∀ (C:CtxY) (nt:Fr) (c:ZaG) (st:St) (k:β→St→Tree) (K:Exit→St→Prop) (b:β),x=some b→(T c st k).Ok→(∀ s,(k b s).Ok→K .normal s)→awp C nt c K st
inductive Zad:Type→Type 1 where
  | ret {α:Type} (a:α):Zad α
  | fin {α:Type} (ids:List Nat) (V:AV) (objs:List (Nat×Zaf)) (iv:IV) (h:zce [V] objs [iv]) (a:α):Zad α
  | finL {α:Type} (x y:AV) (h:LeV2 x y) (a:α):Zad α
  | none {α:Type}:Zad α
  | bind {α β:Type} (x:Option β) (F:β→zI) (h:∀ v,x=some v→FactsOk (F v)) (k:β→Zad α):Zad α
  | ite {α:Type} (key:Nat) (b:Bool) (p q:Zad α):Zad α
  | fact {α:Type} (key:Nat) (o:List Orc) (ps:List Prop) (h:AllP ps) (p:Zad α):Zad α
  | use {α:Type} (j key:Nat) (p:Zad α):Zad α
  | case {α β γ:Type} (o:β ⊕ γ) (p:β→Zad α) (q:γ→Zad α):Zad α
  | cut {α β:Type} (n:Nat) (sp:Spec β) (p:Zad β) (k:β→Zad α):Zad α
  | cutO {α β γ:Type} (n:Nat) (sp:Spec β) (p:Zad (β ⊕ γ)) (k:β ⊕ γ→Zad α):Zad α
  | forR {α σ ρ:Type} (key idx:Nat) (n:Int) (s0:σ) (sp:Spec σ) (body:Nat→σ→Zad (σ ⊕ ρ)) (k:σ ⊕ ρ→Zad α):Zad α
  | iter {α σ ρ:Type} (s0:σ) (sp:Spec σ) (body:σ→Zad (σ ⊕ ρ)) (k:ρ→Zad α):Zad α
  | weak {α:Type} (n:Nat) (ws:List WStep) (p:Zad α):Zad α
  | reg {α:Type} (n:Nat) (p:Zad α):Zad α
  | man {α β:Type} (n:Nat) (m:MStep β) (k:β→Zad α):Zad α
  | swt {α:Type} (key:Nat) (n:Int) (len i:Nat) (h:Nat.blt i len=true) (p q:Zad α):Zad α
noncomputable def Zad.run {α:Type} (p:Zad α):Option α:=Zad.rec (motive:=fun α _=>Option α)
  (fun a=>some a) (fun _ _ _ _ _ a=>some a) (fun _ _ _ a=>some a) Option.none
  (fun x _ _ _ ih=>Option.bind x ih) (fun _ b _ _ ihp ihq=>bif b then ihp else ihq) (fun _ _ _ _ _ ih=>ih) (fun _ _ _ ih=>ih)
  (fun o _ _ ihp ihq=>Sum.elim ihp ihq o) (fun _ _ _ _ ihp ihk=>Option.bind ihp ihk) (fun _ _ _ _ ihp ihk=>Option.bind ihp ihk)
  (fun _ _ n s0 _ _ _ ihb ihk=>Option.bind (Go.Proofs.YtlpmnmbebkdocaaGreatDoor.forR n ihb s0) ihk)
  (fun s0 _ _ _ ihb ihk=>Option.bind (Go.Proofs.YtlpmnmbebkdocaaGreatDoor.iter ihb s0) ihk) (fun _ _ _ ih=>ih) (fun _ _ ih=>ih) (fun _ m _ ih=>Option.bind m.x ih) (fun _ n _ i _ _ _ ihp ihq=>bif n == (i:Int) then ihp else ihq) p
noncomputable def settle {α:Type} (p:Zad α) (Φ:zI) (k:zI→Zad α→Tree):Tree:=Zad.rec (motive:=fun α _=>zI→(zI→Zad α→Tree)→Tree)
  (fun a Φ k=>k Φ (.ret a)) (fun ids V objs iv h a Φ k=>k Φ (.fin ids V objs iv h a)) (fun x y h a Φ k=>k Φ (.finL x y h a)) (fun Φ k=>.tt)
  (fun {_ β} x F h _ ih Φ k=>.all β fun v=>ih v (F v++Φ) k)
  (fun key b _ _ ihp ihq Φ k=>.and (ihp ((key,([.g true],[b=true]))::(key+1,([.g false],[(!b)=false]))::Φ) k) (ihq ((key,([.g false],[b=false]))::(key+1,([.g true],[(!b)=true]))::Φ) k))
  (fun key o ps h _ ih Φ k=>ih ((key,(o,ps))::Φ) k) (fun j key p _ Φ k=>k Φ (.use j key p))
  (fun o _ _ ihp ihq Φ k=>match o with
    | .inl a=>ihp a Φ k
    | .inr b=>ihq b Φ k)
  (fun n sp p kk _ _ Φ k=>k Φ (.cut n sp p kk)) (fun n sp p kk _ _ Φ k=>k Φ (.cutO n sp p kk))
  (fun key idx n s0 sp body kk _ _ Φ k=>k Φ (.forR key idx n s0 sp body kk)) (fun s0 sp body kk _ _ Φ k=>k Φ (.iter s0 sp body kk))
  (fun n ws p _ Φ k=>k Φ (.weak n ws p)) (fun n p _ Φ k=>k Φ (.reg n p)) (fun n m kk _ Φ k=>k Φ (.man n m kk))
  (fun key n len i _ _ _ ihp ihq Φ k=>.and (ihp ((key,([.k i],[JE n 0 len i]))::Φ) k) (ihq Φ k)) p Φ k
theorem FactsOk.add {Φ:zI} (h:FactsOk Φ) {key:Nat} {f:zii} (hf:AllP f.2):FactsOk ((key,f)::Φ):=fun k g hg=>by
  simp only [za] at hg
  split at hg
  · cases hg;exact hf
  · exact h k g hg
theorem KX {α:Type}:∀ {l m:List (Nat×α)} {k:Nat} {x:α},za (l++m) k=some x→za l k=some x∨za m k=some x
  | [],m,k,x,h=>.inr h
  | (k',y)::l,m,k,x,h=>by
    simp only [List.cons_append,za] at h ⊢
    split at h
    · rename_i e;rw [if_pos e];exact .inl h
    · rename_i e;rw [if_neg e];exact KX h
theorem FactsOk.app {Φ Ψ:zI} (h:FactsOk Φ) (h':FactsOk Ψ):FactsOk (Φ++Ψ):=fun k f hf=>(KX hf).elim (h k f) (h' k f)
theorem FactsOk.nil:FactsOk []:=fun _ _ h=>by cases h
theorem qN {α:Type} (p:Zad α):∀ {Φ:zI} {k:zI→Zad α→Tree} {r:α},FactsOk Φ→(settle p Φ k).Ok→p.run=some r→∃ Φ' p',FactsOk Φ'∧p'.run=some r∧(k Φ' p').Ok:=by
  induction p with
  | ret a=>exact fun hΦ hk hr=>⟨_,_,hΦ,hr,hk⟩
  | fin ids V objs iv h a=>exact fun hΦ hk hr=>⟨_,_,hΦ,hr,hk⟩
  | finL x y h a=>exact fun hΦ hk hr=>⟨_,_,hΦ,hr,hk⟩
  | none=>intro Φ k r hΦ hk hr;cases hr
  | bind x F h kk ih=>
    intro Φ k r hΦ hk hr
    obtain ⟨v,h1,h2⟩:=jQ hr
    exact ih v ((h v h1).app hΦ) (hk v) h2
  | ite key b p q ihp ihq=>
    intro Φ k r hΦ hk hr
    have hr':(bif b then p.run else q.run)=some r:=hr
    cases b with
    | true=>exact ihp ((hΦ.add (f:=([.g false],[(!true)=false])) (.cons rfl .nil)).add (f:=([.g true],[true=true])) (.cons rfl .nil)) hk.1 hr'
    | false=>exact ihq ((hΦ.add (f:=([.g true],[(!false)=true])) (.cons rfl .nil)).add (f:=([.g false],[false=false])) (.cons rfl .nil)) hk.2 hr'
  | fact key o ps h p ih=>exact fun hΦ hk hr=>ih (hΦ.add (f:=(o,ps)) h) hk hr
  | use j key p ih=>exact fun hΦ hk hr=>⟨_,_,hΦ,hr,hk⟩
  | case o p q ihp ihq=>
    intro Φ k r hΦ hk hr
    cases o with
    | inl a=>exact ihp a hΦ hk hr
    | inr b=>exact ihq b hΦ hk hr
  | cut n sp p kk _ _=>exact fun hΦ hk hr=>⟨_,_,hΦ,hr,hk⟩
  | cutO n sp p kk _ _=>exact fun hΦ hk hr=>⟨_,_,hΦ,hr,hk⟩
  | forR key idx n s0 sp body kk _ _=>exact fun hΦ hk hr=>⟨_,_,hΦ,hr,hk⟩
  | iter s0 sp body kk _ _=>exact fun hΦ hk hr=>⟨_,_,hΦ,hr,hk⟩
  | weak n ws p ih=>exact fun hΦ hk hr=>⟨_,_,hΦ,hr,hk⟩
  | reg n p ih=>exact fun hΦ hk hr=>⟨_,_,hΦ,hr,hk⟩
  | man n m kk ih=>exact fun hΦ hk hr=>⟨_,_,hΦ,hr,hk⟩
  | swt key n len i hi p q ihp ihq=>
    intro Φ k r hΦ hk hr
    have hr':(bif n == (i:Int) then p.run else q.run)=some r:=hr
    have hlt:i < len:=by simpa [Nat.blt_eq] using hi
    by_cases e:n=(i:Int)
    · rw [show (n == (i:Int))=true by simp [e]] at hr'
      exact ihp (hΦ.add (f:=([.k i],[JE n 0 len i])) (.cons ⟨by omega,by omega,by omega⟩ .nil)) hk.1 hr'
    · rw [show (n == (i:Int))=false by simp [e]] at hr'
      exact ihq hΦ hk.2 hr'
def Zad.used {α:Type} (p:Zad α) (j:Nat):Option (Nat×Zad α):=match p with
  | .use j' key q=>match Nat.beq j' j with
    | true=>some (key,q)
    | false=>Option.none
  | _=>Option.none
theorem Xr {α:Type} {p q:Zad α} {j key:Nat} (h:p.used j=some (key,q)):q.run=p.run:=by
  unfold Zad.used at h
  split at h
  · split at h
    · cases h;rfl
    · cases h
  · cases h
abbrev YT:=(l id:Nat)→(args:List AV)→(heap:List (Nat×Zaf))→(next:Nat)→(α:Type)→zI→Zad α→(AV→List (Nat×Zaf)→Nat→zI→Zad α→Tree)→Tree
def noT:YT:=fun _ _ _ _ _ _ _ _ _=>.bad 1183
def zcl (C:CtxY) (Yt:YT):Prop:=∀ (l id:Nat) (args:List AV) (heap:List (Nat×Zaf)) (next:Nat) (α:Type) (Φ:zI) (p:Zad α) (k:AV→List (Nat×Zaf)→Nat→zI→Zad α→Tree) (r:α) (KK:AV→List (Nat×Zaf)→Nat→Prop),FactsOk Φ→p.run=some r→(Yt l id args heap next α Φ p k).Ok →
  (∀ v h n Φ' p',FactsOk Φ'→p'.run=some r→(k v h n Φ' p').Ok→KK v h n)→C.Y l id args heap next KK
theorem Wn (C:CtxY):zcl C noT:=fun _ _ _ _ _ _ _ _ _ _ _ _ _ h _=>h.elim
def Vp (op:AOp) (st:St):Option (Nat×Nat×List AV):=match op with
  | .call f args=>match zd st.env f with
    | .yld l id=>some (l,id,args.map (zd st.env))
    | _=>Option.none
  | _=>Option.none
theorem KY {op:AOp} {st:St} {l id:Nat} {args:List AV} (h:Vp op st=some (l,id,args)):∃ f ags,op=.call f ags∧zd st.env f=.yld l id∧args=ags.map (zd st.env):=by
  unfold Vp at h
  split at h
  · split at h
    · rename_i e;cases h;exact ⟨_,_,rfl,e,rfl⟩
    · cases h
  · cases h
section
variable (C:Ctx)
def stX (dr:Option (List Nat)) (op:AOp) (X:Nat) (st:St):St:=match dr with
  | Option.none=>st
  | some _=>match isCall op with
    | true=>⟨st.env,st.heap,X⟩
    | false=>st
def zcm {α:Type} (dr:Option (List Nat)) (X:Nat) (dst:Option Nat) (j:Nat) (W R:List (Nat×Nat)) (D:List Nat) (st:St) (r:AV) (ups:List (Nat×Zaf)) (rd:List Nat) (d:Nat) (next:List (Nat×Nat)→List (Nat×Nat)→List Nat→St→Nat→zI→Zad α→Tree) (Φ:zI) (q:Zad α):Tree:=match dr with
  | Option.none=>next W R (JF D dst) (st.afterD dst r ups d) X Φ q
  | some ord=>match wm ord j W R (z1 ups) rd with
    | true=>next (qT j (z1 ups) W) (qT j rd R) (JF D dst) (st.after dst r ups) (X+d) Φ q
    | false=>.bad 1215
def zcn {α:Type} (dr:Option (List Nat)) (X:Nat) (it:AItem) (j:Nat) (W R:List (Nat×Nat)) (D:List Nat) (st:St) (Φ:zI) (p:Zad α) (next:List (Nat×Nat)→List (Nat×Nat)→List Nat→St→Nat→zI→Zad α→Tree):Tree:=match p.used j with
  | Option.none=>match opX C it.op [] D (stX dr it.op X st) with
    | some (r,ups,rd,_,[],d)=>zcm dr X it.dst j W R D st r ups rd d next Φ p
    | _=>.bad 1209
  | some (key,q)=>match za Φ key with
    | Option.none=>.bad 1211
    | some (o,ps)=>match opX C it.op o D (stX dr it.op X st) with
      | some (r,ups,rd,_,ps',d)=>.eq (List Prop) ps' ps (zcm dr X it.dst j W R D st r ups rd d next Φ q)
      | Option.none=>.bad 1216
def zfw {α:Type} (gd:Option (Nat×Bool)) (j:Nat) (D:List Nat) (st:St) (Φ:zI) (p:Zad α) (next:Bool→List Nat→St→zI→Zad α→Tree):Tree:=match QR gd [] D st with
  | some (b,_,[],D',st')=>next b D' st' Φ p
  | some (_,_,_::_,_,_)=>.bad 1221
  | Option.none=>match p.used j with
    | Option.none=>.bad 1223
    | some (key,q)=>match za Φ key with
      | Option.none=>.bad 1225
      | some (o,ps)=>match QR gd o D st with
        | some (b,_,ps',D',st')=>.eq (List Prop) ps' ps (next b D' st' Φ q)
        | Option.none=>.bad 1228
noncomputable def zfx {α:Type} (Yt:YT) (dr:Option (List Nat)) (X:Nat) (it:AItem) (j:Nat) (W R:List (Nat×Nat)) (D:List Nat) (st:St) (Φ:zI) (p:Zad α) (next:List (Nat×Nat)→List (Nat×Nat)→List Nat→St→Nat→zI→Zad α→Tree):Tree:=match Vp it.op st with
  | Option.none=>zcn C dr X it j W R D st Φ p next
  | some (l,id,args)=>match dr with
    | Option.none=>Yt l id args st.heap st.next α Φ p fun r heap nx Φ p=>next W R (JF D it.dst) (St.put {env:=st.env,heap:=heap,next:=nx+1} it.dst r) X Φ p
    | some _=>.bad 1234
noncomputable def Z2 {α:Type} (Yt:YT) (dr:Option (List Nat)):List AItem→Nat→Nat→List (Nat×Nat)→List (Nat×Nat)→List Nat→St→zI→Zad α→(St→zI→Zad α→Tree)→Tree
  | [],_,X,_,_,_,st,Φ,p,k=>k (match dr with
    | Option.none=>st
    | some _=>⟨st.env,st.heap,X⟩) Φ p
  | it::rest,j,X,W,R,D,st,Φ,p,k=>settle p Φ fun Φ p=>zfw it.guard j D st Φ p fun b D st Φ p=>match b with
    | false=>Z2 Yt dr rest (j+1) X W R (JF D it.dst) (st.after it.dst .undef []) Φ p k
    | true=>settle p Φ fun Φ p=>zfx C Yt dr X it j W R D st Φ p fun W R D st X Φ p=>Z2 Yt dr rest (j+1) X W R D st Φ p k
end
section
variable {C:Ctx}
theorem zbv {α:Type} {gd:Option (Nat×Bool)} {j:Nat} {D:List Nat} {st:St} {Φ:zI} {p:Zad α} {next:Bool→List Nat→St→zI→Zad α→Tree} {r:α} (hΦ:FactsOk Φ) (hr:p.run=some r) (h:(zfw gd j D st Φ p next).Ok) :
    ∃ b D' q,zQ st.env gd=some b∧q.run=some r∧(next b D' st Φ q).Ok:=by
  unfold zfw at h
  split at h
  · rename_i b _ D' st' hg
    obtain ⟨rfl,h1⟩:=vW hg .nil
    exact ⟨b,D',p,h1,hr,h⟩
  · exact h.elim
  · split at h
    · exact h.elim
    · rename_i key q hu
      split at h
      · exact h.elim
      · rename_i o ps hk
        split at h
        · rename_i b _ ps' D' st' hg
          obtain ⟨h1,h2⟩:=h
          subst h1
          obtain ⟨rfl,h3⟩:=vW hg (hΦ _ _ hk)
          exact ⟨b,D',q,h3,(Xr hu).trans hr,h2⟩
        · exact h.elim
theorem KZ {α:Type} {dr:Option (List Nat)} {X:Nat} {it:AItem} {j:Nat} {W R:List (Nat×Nat)} {D:List Nat} {st:St} {Φ:zI} {p:Zad α} {next:List (Nat×Nat)→List (Nat×Nat)→List Nat→St→Nat→zI→Zad α→Tree} {r:α} (hΦ:FactsOk Φ) (hr:p.run=some r) (h:(zcn C dr X it j W R D st Φ p next).Ok) :
    ∃ o x ups rd o' ps d q,opX C it.op o D (stX dr it.op X st)=some (x,ups,rd,o',ps,d)∧AllP ps∧q.run=some r∧(zcm dr X it.dst j W R D st x ups rd d next Φ q).Ok:=by
  unfold zcn at h
  split at h
  · split at h
    · rename_i x ups rd o' d hop
      exact ⟨[],x,ups,rd,o',[],d,p,hop,.nil,hr,h⟩
    · exact h.elim
  · rename_i key q hu
    split at h
    · exact h.elim
    · rename_i o ps hk
      split at h
      · rename_i x ups rd o' ps' d hop
        obtain ⟨h1,h2⟩:=h
        subst h1
        exact ⟨o,x,ups,rd,o',ps',d,q,hop,hΦ _ _ hk,(Xr hu).trans hr,h2⟩
      · exact h.elim
theorem Z3 {C:CtxY} {Yt:YT} (hY:zcl C Yt) {α:Type} {r:α} {K:St→Prop} {k:St→zI→Zad α→Tree} (hK:∀ st Φ p,FactsOk Φ→p.run=some r→(k st Φ p).Ok→K st):∀ (items:List AItem) (j X:Nat) (W R:List (Nat×Nat)) (D:List Nat) (st:St) (Φ:zI) (p:Zad α),
    FactsOk Φ→p.run=some r→(Z2 C Yt Option.none items j X W R D st Φ p k).Ok→evl C items K st
  | [],j,X,W,R,D,st,Φ,p,hΦ,hr,h=>hK st Φ p hΦ hr h
  | it::rest,j,X,W,R,D,st,Φ,p,hΦ,hr,h=>by
    simp only [Z2] at h
    obtain ⟨Φ1,p1,hΦ1,hr1,h1⟩:=qN p hΦ h hr
    obtain ⟨b,D2,p2,hg,hr2,h2⟩:=zbv hΦ1 hr1 h1
    refine Vk hg (fun hb => ?_) (fun hb => ?_)
    · subst hb
      obtain ⟨Φ3,p3,hΦ3,hr3,h3⟩:=qN p2 hΦ1 h2 hr2
      unfold zfx at h3
      split at h3
      · obtain ⟨o,x,ups,rd,o',ps,d,q,e1,e2,e4,e5⟩:=KZ hΦ3 hr3 h3
        exact zdJ e1 e2 (Z3 hY hK rest _ _ _ _ _ _ _ _ hΦ3 e4 e5)
      · rename_i l id args hyo
        obtain ⟨f,ags,hop,hf,rfl⟩:=KY hyo
        rw [hop]
        simp only [evOp,hf,X4]
        exact hY _ _ _ _ _ _ _ _ _ _ _ hΦ3 hr3 h3 (fun v h n Φ' p' a1 a2 a3=>Z3 hY hK rest _ _ _ _ _ _ _ _ a1 a2 a3)
    · subst hb
      exact Z3 hY hK rest _ _ _ _ _ _ _ _ hΦ1 hr2 h2
theorem zg8 {op:AOp} {orc o':List Orc} {D:List Nat} {st:St} {X:Nat} {r:AV} {ups:List (Nat×Zaf)} {rd:List Nat} {ps:List Prop} {d:Nat} {ord:List Nat} {dst:Option Nat} {gd:Option (Nat×Bool)} (hg:zQ st.env gd=some true) (h:opX C op orc D (stX (some ord) op X st)=some (r,ups,rd,o',ps,d)) (hp:AllP ps) :
    EvD C ⟨dst,op,gd⟩ st ⟨dst,r,ups,rd,List.range' X d⟩:=by
  unfold stX at h
  simp only at h
  split at h
  · rename_i hc
    cases op<;>first | (cases hc;done) | skip
    rename_i f args
    simp only [EvD,hg]
    simp only [opX] at h
    unfold zcg at h
    split at h
    · rename_i f' first caps hf
      have hf':zd st.env f=.func f' first caps:=hf
      simp only [hf']
      split at h
      · split at h
        · rename_i ivs hiv
          split at h
          · rename_i hm;cases h;exact LCall.pure (d:=5) hp.one hm hiv
          · cases h
        · cases h
      · split at h
        · rename_i objs ho
          split at h
          · rename_i hm
            cases h
            cases hp with
            | cons h1 h2=>exact LCall.snapS (d:=5) h1 ho (V6 ho) h2.one hm
          · cases h
        · cases h
      · split at h
        · rename_i objs ho
          split at h
          · rename_i hm
            cases h
            exact LCall.det hp.one hm ho
          · cases h
        · cases h
      · cases h
    · cases h
  · rename_i hc
    obtain ⟨e,hr,rfl⟩:=KI hc h hp
    cases op<;>first | (cases hc;done) | (simp only [EvD,hg];exact ⟨e,hr,rfl⟩)
theorem K0 {Yt:YT} {α:Type} {r:α} {K:St→Prop} {ord:List Nat} {k:St→zI→Zad α→Tree} (hK:∀ st Φ p,FactsOk Φ→p.run=some r→(k st Φ p).Ok→K st):∀ (items:List AItem) (X:Nat) (W R:List (Nat×Nat)) (D:List Nat) (st:St) (Φ:zI) (p:Zad α) (pre:List Rec),
    FactsOk Φ→p.run=some r→(Z2 C Yt (some ord) items pre.length X W R D st Φ p k).Ok →
    (∀ (i:Nat) (ri:Rec) (x:Nat),pre[i]?=some ri→x∈z1 ri.ups→(i,x)∈W)→(∀ (i:Nat) (ri:Rec) (x:Nat),pre[i]?=some ri→x∈ri.rd→(i,x)∈R) →
    (∀ (i j:Nat) (ri rj:Rec),pre[i]?=some ri→pre[j]?=some rj→i < j→jz ri rj=true→bef ord i j=true) →
    ∃ recs st' M,Za C items st recs st'∧(∀ (i j:Nat) (ri rj:Rec),(pre++recs)[i]?=some ri→(pre++recs)[j]?=some rj→i < j→jz ri rj=true→bef ord i j=true)∧X≤M ∧
      (∀ rc∈recs,∀ i∈rc.ex,X≤i∧i < M)∧(∀ (k l:Nat) (rk rl:Rec) (i:Nat),recs[k]?=some rk→recs[l]?=some rl→i∈rk.ex→i∈rl.ex→k=l)∧K ⟨st'.env,st'.heap,M⟩
  | [],X,W,R,D,st,Φ,p,pre,hΦ,hr,h,hW,hR,hp=>⟨[],st,X,rfl,by simpa using hp,Nat.le_refl _,by simp,by simp,hK _ Φ p hΦ hr h⟩
  | it::rest,X,W,R,D,st,Φ,p,pre,hΦ,hr,h,hW,hR,hp=>by
    simp only [Z2] at h
    obtain ⟨Φ1,p1,hΦ1,hr1,h1⟩:=qN p hΦ h hr
    obtain ⟨b,D2,p2,hg,hr2,h2⟩:=zbv hΦ1 hr1 h1
    obtain ⟨rc,d,W',R',D',q,Φ',hdst,hev,hex,hok,hW',hR',hΦ',hq,hgo⟩:∃ (rc:Rec) (d:Nat) (W' R':List (Nat×Nat)) (D':List Nat) (q:Zad α) (Φ':zI),rc.dst=it.dst∧EvD C it st rc∧rc.ex=List.range' X d∧wm ord pre.length W R (z1 rc.ups) rc.rd=true ∧
        (∀ p∈qT pre.length (z1 rc.ups) W,p∈W')∧(∀ p∈qT pre.length rc.rd R,p∈R')∧FactsOk Φ'∧q.run=some r ∧
        (Z2 C Yt (some ord) rest (pre.length+1) (X+d) W' R' D' (st.after it.dst rc.r rc.ups) Φ' q k).Ok:=by
      cases b with
      | false=>
        refine ⟨⟨it.dst,.undef,[],[],[]⟩,0,W,R,_,p2,Φ1,rfl,?_,rfl,zfh _ _ _ _,fun p hp=>by simpa [qT,z1] using hp,fun p hp=>by simpa [qT] using hp,hΦ1,hr2,h2⟩
        simp only [EvD,hg,and_self]
      | true=>
        obtain ⟨Φ3,p3,hΦ3,hr3,h3⟩:=qN p2 hΦ1 h2 hr2
        unfold zfx at h3
        split at h3
        case h_2=>exact h3.elim
        obtain ⟨o,x,ups,rd,o',ps,d,q,e1,e2,e4,e5⟩:=KZ hΦ3 hr3 h3
        unfold zcm at e5
        simp only at e5
        split at e5
        · rename_i hok
          exact ⟨⟨it.dst,x,ups,rd,List.range' X d⟩,d,_,_,_,q,Φ3,rfl,zg8 hg e1 e2,rfl,hok,fun p hp=>hp,fun p hp=>hp,hΦ3,e4,e5⟩
        · exact e5.elim
    have hlen:(pre++[rc]).length=pre.length+1:=by simp
    have split:∀ (i:Nat) (ri:Rec),(pre++[rc])[i]?=some ri→pre[i]?=some ri∨(i=pre.length∧ri=rc):=fun i ri hi=>by
      rw [List.getElem?_append] at hi
      split at hi
      · exact .inl hi
      · rename_i hge
        rcases Nat.eq_or_lt_of_le (Nat.le_of_not_lt hge) with e | e
        · rw [←e] at hi;simp at hi;exact .inr ⟨e.symm,hi.symm⟩
        · have:i - pre.length≠0:=by omega
          obtain ⟨m,hm⟩:=Nat.exists_eq_succ_of_ne_zero this
          rw [hm] at hi;simp at hi
    obtain ⟨recs,st',M,h4,h5,h6,h7,h8,h9⟩:=K0 hK rest (X+d) W' R' D' (st.after it.dst rc.r rc.ups) Φ' q (pre++[rc]) hΦ' hq (by rw [hlen];exact hgo)
      (fun i ri x hi hx=>by
        rcases split i ri hi with hi | ⟨rfl,rfl⟩
        · exact hW' _ (List.mem_append_right _ (hW i ri x hi hx))
        · exact hW' _ (List.mem_append_left _ (List.mem_map.2 ⟨x,hx,rfl⟩)))
      (fun i ri x hi hx=>by
        rcases split i ri hi with hi | ⟨rfl,rfl⟩
        · exact hR' _ (List.mem_append_right _ (hR i ri x hi hx))
        · exact hR' _ (List.mem_append_left _ (List.mem_map.2 ⟨x,hx,rfl⟩)))
      (fun i j ri rj hi hj hlt hc=>by
        rcases split j rj hj with hj | ⟨rfl,rfl⟩
        · rcases split i ri hi with hi | ⟨rfl,rfl⟩
          · exact hp i j ri rj hi hj hlt hc
          · have:=(List.getElem?_eq_some_iff.1 hj).1;omega
        · rcases split i ri hi with hi | ⟨rfl,rfl⟩
          · simp only [wm,Bool.and_eq_true,List.all_eq_true] at hok
            simp only [jz,Bool.or_eq_true,List.any_eq_true] at hc
            rcases hc with ⟨x,hx,hc⟩ | ⟨x,hx,hc⟩
            · have:=hok.1 (i,x) (hW i ri x hi hx)
              simp only [Bool.or_eq_true,Bool.not_eq_true',Bool.or_eq_false_iff] at this
              rcases this with ⟨h7,h8⟩ | h7
              · simp only [h7,h8] at hc;simp at hc
              · exact h7
            · have:=hok.2 x hx (i,x) (hR i ri x hi (by simpa using hc))
              simpa using this
          · omega)
    have hexm:∀ i,i∈rc.ex→X≤i∧i < X+d:=fun i hi=>by rw [hex,List.mem_range'_1] at hi;omega
    refine ⟨rc::recs,st',M,⟨hdst,hev,h4⟩,?_,by omega,fun r' hr' i hi => ?_,fun k l rk rl i hk hl hik hil => ?_,h9⟩
    · simpa using h5
    · rcases List.mem_cons.1 hr' with rfl | hr'
      · have:=hexm i hi;omega
      · have:=h7 r' hr' i hi;omega
    · cases k with
      | zero=>
        simp at hk
        subst hk
        cases l with
        | zero=>rfl
        | succ l=>
          have h10:=h7 rl (List.mem_of_getElem? (by simpa using hl)) i hil
          have:=hexm i hik
          omega
      | succ k=>
        cases l with
        | zero=>
          simp at hl
          subst hl
          have h10:=h7 rk (List.mem_of_getElem? (by simpa using hk)) i hik
          have:=hexm i hil
          omega
        | succ l=>rw [h8 k l rk rl i (by simpa using hk) (by simpa using hl) hik hil]
theorem zdT {C:CtxY} {nt:Fr} {Yt:YT} {α:Type} {r:α} {K:Exit→St→Prop} {ord:List Nat} {ks:Option (List Nat)} {k:St→zI→Zad α→Tree} (hK:∀ st Φ p,FactsOk Φ→p.run=some r→(k st Φ p).Ok→K .normal (st.keep ks)) {items:List AItem} {st:St} {Φ:zI} {p:Zad α}
    (hΦ:FactsOk Φ) (hr:p.run=some r) (h:(Z2 C Yt (some ord) items 0 (st.next+items.length) [] [] [] st Φ p k).Ok):awp C nt (.region true ord items ks) K st:=by
  obtain ⟨recs,st',M,h1,h2,h3,h4,h5,h6⟩:=K0 (C:=C) (K:=fun st=>K .normal (st.keep ks)) hK items (st.next+items.length) [] [] [] st Φ p [] hΦ hr h (by simp) (by simp) (by simp)
  have hl:=ZO h1
  obtain ⟨_,_,hn⟩:=Xn items st recs st' 0 (fun _=>true) h1 (fun _ _=>rfl)
  exact Xo h1 (Xp (by simpa using h2)) ⟨fun k rc i hk hi=>by rw [hl];exact (h4 rc (List.mem_of_getElem? hk) i hi).1,h5⟩ M (by omega) (fun rc hrc i hi=>(h4 rc hrc i hi).2) h6
end
def Wo (m:Nat) (env:List (Nat×AV)) (t:Tree):List (Nat×AV)→Tree
  | []=>t
  | (k,b)::l=>match za env k with
    | some a=>match zL m b with
      | true=>.eq AV a b (Wo m env t l)
      | false=>.bad 1340
    | Option.none=>.bad 1341
def Y0 (m:Nat) (heap:List (Nat×Zaf)) (t:Tree):List (Nat×Zaf)→Tree
  | []=>t
  | (k,b)::l=>match za heap k with
    | some a=>match Vm m b&&decide (k < m) with
      | true=>.eq Zaf a b (Y0 m heap t l)
      | false=>.bad 1347
    | Option.none=>.bad 1348
def Y1 (heap:List (Nat×Zaf)) (t:Tree):List (Nat×Zaf)→Tree
  | []=>t
  | (k,b)::l=>match za heap k with
    | some a=>.eq Zaf a b (Y1 heap t l)
    | Option.none=>.bad 1353
theorem Xs {m:Nat} {env:List (Nat×AV)} {t:Tree}:∀ {l:List (Nat×AV)},(Wo m env t l).Ok→t.Ok∧∀ p∈l,za env p.1=some p.2∧zL m p.2=true
  | [],h=>⟨h,fun p hp=>by cases hp⟩
  | (k,b)::l,h=>by
    simp only [Wo] at h
    split at h
    · rename_i a ha
      split at h
      · rename_i hb
        obtain ⟨rfl,h2⟩:=h
        obtain ⟨h3,h4⟩:=Xs h2
        refine ⟨h3,fun p hp => ?_⟩
        rcases List.mem_cons.1 hp with rfl | hp
        · exact ⟨ha,hb⟩
        · exact h4 p hp
      · exact h.elim
    · exact h.elim
theorem K5 {m:Nat} {heap:List (Nat×Zaf)} {t:Tree}:∀ {l:List (Nat×Zaf)},(Y0 m heap t l).Ok→t.Ok∧∀ p∈l,za heap p.1=some p.2∧p.1 < m∧zM m p.2
  | [],h=>⟨h,fun p hp=>by cases hp⟩
  | (k,b)::l,h=>by
    simp only [Y0] at h
    split at h
    · rename_i a ha
      split at h
      · rename_i hb
        simp only [Bool.and_eq_true,decide_eq_true_eq] at hb
        obtain ⟨rfl,h2⟩:=h
        obtain ⟨h3,h4⟩:=K5 h2
        refine ⟨h3,fun p hp => ?_⟩
        rcases List.mem_cons.1 hp with rfl | hp
        · exact ⟨ha,hb.2,yI hb.1⟩
        · exact h4 p hp
      · exact h.elim
    · exact h.elim
theorem K6 {heap:List (Nat×Zaf)} {t:Tree}:∀ {l:List (Nat×Zaf)},(Y1 heap t l).Ok→t.Ok∧∀ p∈l,za heap p.1=some p.2
  | [],h=>⟨h,fun p hp=>by cases hp⟩
  | (k,b)::l,h=>by
    simp only [Y1] at h
    split at h
    · rename_i a ha
      obtain ⟨rfl,h2⟩:=h
      obtain ⟨h3,h4⟩:=K6 h2
      refine ⟨h3,fun p hp => ?_⟩
      rcases List.mem_cons.1 hp with rfl | hp
      · exact ha
      · exact h4 p hp
    · exact h.elim
def Z4 (nx:Nat) (ov e0:List (Nat×AV)) (oh h0:List (Nat×Zaf)) (st:St) (t:Tree):Tree:=match Nat.ble nx st.next with
  | true=>Wo nx st.env (Wo nx st.env (Y1 st.heap (Y0 nx st.heap t h0) oh) e0) ov
  | false=>.bad 1405
def Wp (nx:Nat) (heap:List (Nat×Zaf)) (t:Tree):Option (List (List Int))→Tree
  | Option.none=>t
  | some Ls=>match Nat.ble 2000000 nx&&vp heap with
    | true=>.eq (List (Nat×Zaf)) (kM heap) (xA Ls) t
    | false=>.bad 1406
theorem zfy {nx:Nat} {heap:List (Nat×Zaf)} {t:Tree}:∀ {o:Option (List (List Int))},(Wp nx heap t o).Ok→t.Ok∧∀ p∈Z0 o,za heap p.1=some p.2∧p.1 < nx∧zM nx p.2
  | Option.none,h=>⟨h,fun p hp=>by cases hp⟩
  | some Ls,h=>by
    unfold Wp at h
    simp only at h
    split at h
    · rename_i e
      simp only [Bool.and_eq_true] at e
      obtain ⟨h1,h2⟩:=h
      refine ⟨h2,fun p hp => ?_⟩
      obtain ⟨a1,a2,a3⟩:=zdR h1 e.2 p hp
      exact ⟨a1,Nat.lt_of_lt_of_le a2 (Nat.le_of_ble_eq_true e.1),a3 nx⟩
    · exact h.elim
theorem Yf {nx:Nat} {ov e0:List (Nat×AV)} {oh h0:List (Nat×Zaf)} {st:St} {t:Tree} {o:Option (List (List Int))} (hb:Belows nx oh) (h:(Z4 nx ov e0 oh h0 st (Wp nx st.heap t o)).Ok):t.Ok∧nx≤st.next∧(∀ p∈ov++e0,za st.env p.1=some p.2∧zL nx p.2=true)∧∀ p∈oh++(h0++Z0 o),za st.heap p.1=some p.2∧p.1 < nx∧zM nx p.2:=by
  unfold Z4 at h
  split at h
  · rename_i hn
    obtain ⟨h1,a1⟩:=Xs h
    obtain ⟨h2,a2⟩:=Xs h1
    obtain ⟨h3,a3⟩:=K6 h2
    obtain ⟨h4,a4⟩:=K5 h3
    obtain ⟨h5,a5⟩:=zfy h4
    refine ⟨h5,Nat.le_of_ble_eq_true hn,fun p hp => ?_,fun p hp => ?_⟩
    · rcases List.mem_append.1 hp with hp | hp
      · exact a1 p hp
      · exact a2 p hp
    · rcases List.mem_append.1 hp with hp | hp
      · exact ⟨a3 p hp,hb.all p hp⟩
      · rcases List.mem_append.1 hp with hp | hp
        · exact a4 p hp
        · exact a5 p hp
  · exact h.elim
theorem Xt {nx:Nat} {ov e0:List (Nat×AV)} {oh h0:List (Nat×Zaf)} {st:St} {t:Tree} {o:Option (List (List Int))} (hb:Belows nx oh) (h:(Z4 nx ov e0 oh h0 st (Wp nx st.heap t o)).Ok):t.Ok∧Weak st ⟨ov++e0,oh++(h0++Z0 o),nx⟩:=by
  obtain ⟨h1,h2,h3,h4⟩:=Yf hb h
  exact ⟨h1,Jz h2 h3 h4⟩
def Spec.weak {β:Type} (sp:Spec β) (st0 st:St) (b:β) (t:Tree):Tree:=Z4 sp.nx (sp.ov b) (qw sp.ks st0.env) (sp.oh b) (Wm sp.hs st0.heap) st (Wp sp.nx st.heap t (sp.ns b))
theorem Spec.weak_ok {β:Type} {sp:Spec β} {st0 st:St} {b:β} {t:Tree} (h:(sp.weak st0 st b t).Ok):t.Ok∧Weak st (sp.st st0 b):=Xt (sp.bel b) h
def Spec.weaki {β:Type} (sp:Spec β) (st0 st:St) (idx:Nat) (v:AV) (b:β) (t:Tree):Tree:=match za st.env idx with
  | some a=>.eq AV a v (sp.weak st0 st b t)
  | Option.none=>.bad 1430
theorem Spec.weaki_ok {β:Type} {sp:Spec β} {st0 st:St} {idx:Nat} {n:Int} {v:AV} {b:β} {t:Tree} (hv:v=vI n) (h:(sp.weaki st0 st idx v b t).Ok):t.Ok∧Weak st (sp.sti st0 idx n b):=by
  unfold Spec.weaki at h
  split at h
  · rename_i a ha
    obtain ⟨rfl,h1⟩:=h
    obtain ⟨h4,hn,a1,a3⟩:=Yf (sp.bel b) h1
    refine ⟨h4,Jz hn (fun p hp => ?_) a3⟩
    rcases List.mem_cons.1 hp with rfl | hp
    · exact ⟨by rw [ha,hv],rfl⟩
    · exact a1 p hp
  · exact h.elim
end
section
def Zad.dec {α:Type} (p:Zad α):Zad α:=match p with
  | .cut (n+1) sp q k=>.cut n sp q k
  | .cutO (n+1) sp q k=>.cutO n sp q k
  | .weak (n+1) w q=>.weak n w q
  | .man (n+1) m q=>.man n m q
  | p=>p
theorem JJ {α:Type} (p:Zad α):p.dec.run=p.run:=by
  unfold Zad.dec;split<;>rfl
def Zad.enter {α:Type} (p:Zad α):Zad α:=match p with
  | .reg 0 q=>q
  | .reg (n+1) q=>.reg n q
  | p=>p
theorem Yg {α:Type} (p:Zad α):p.enter.run=p.run:=by
  unfold Zad.enter;split<;>rfl
abbrev KT (α:Type):=Exit→St→zI→Zad α→Tree
abbrev CT:=(α:Type)→St→zI→Zad α→KT α→Tree
noncomputable def zij {β:Type} (sp:Spec β) (st0:St):KT β:=fun e s Φ q=>match e with
  | .normal=>settle q Φ fun _ q=>match q with
    | .ret b=>sp.weak st0 s b .tt
    | _=>.bad 2034
  | _=>.bad 2035
noncomputable def zgI {α β γ:Type} (sp:Spec β) (st0:St) (kk:β ⊕ γ→Zad α) (k:KT α):KT (β ⊕ γ):=fun e s Φ q=>settle q Φ fun Φ q=>match e with
  | .normal=>match q with
    | .ret (.inl b)=>sp.weak st0 s b .tt
    | _=>.bad 2039
  | e=>match q with
    | .ret (.inr c)=>k e s Φ (kk (.inr c))
    | _=>.bad 2042
noncomputable def ki (go:CT):CT:=fun α st Φ p k=>.step (settle p Φ fun Φ p=>match p with
  | .cut (β:=β) 0 sp q kk=>match Nat.ble st.next sp.nx with
    | true=>.and (go β st Φ q (zij sp st)) (.all β fun b=>k .normal (sp.st st b) Φ (kk b))
    | false=>.bad 2048
  | .cutO (β:=β) (γ:=γ) 0 sp q kk=>match Nat.ble st.next sp.nx with
    | true=>.and (go (β ⊕ γ) st Φ q (zgI sp st kk k)) (.all β fun b=>k .normal (sp.st st b) Φ (kk (.inl b)))
    | false=>.bad 2051
  | p=>go α st Φ p k)
def zco:List WStep→St→(St→Tree)→Tree
  | [],st,f=>f st
  | w::ws,st,f=>w.T st (zco ws (w.to st) f)
noncomputable def qU (go:CT):CT:=fun α st Φ p k=>settle p Φ fun Φ p=>match p with
  | .weak 0 ws q=>zco ws st fun st=>go α st Φ q k
  | p=>go α st Φ p k
noncomputable def zcp {α σ ρ:Type} (kk:ρ→Zad α) (W:St→σ→Tree) (k:KT α):KT (σ ⊕ ρ):=fun e s Φ q=>settle q Φ fun Φ q=>match e with
  | .normal=>match q with
    | .ret (.inl s')=>W s s'
    | _=>.bad 2063
  | e=>match q with
    | .ret (.inr y)=>k e s Φ (kk y)
    | _=>.bad 2066
noncomputable def zik (c:ZaG) (go:CT):CT:=fun α st Φ p k=>settle p Φ fun Φ p=>match p with
  | .man 0 m kk=>m.T c st fun b s=>k .normal s Φ (kk b)
  | p=>go α st Φ p k
variable (C:Ctx)
abbrev GT:=Bool→YT→CT
noncomputable def chk (rng:Opd→List Nat→GT→GT→CT):ZaG→GT
  | .skip=>fun pl Yt=>qU <| ki <| qU fun α st Φ p k=>k .normal st Φ p
  | .region d o items ks=>fun pl Yt=>zik (.region d o items ks) <| qU <| ki <| qU fun α st Φ p k=>Z2 C Yt (match d with | true=>some o | false=>Option.none) items 0 (st.next+items.length) [] [] [] st Φ p.enter fun s Φ p=>k .normal (s.keep ks) Φ p
  | .seq x y=>fun pl Yt=>qU <| ki <| qU fun α st Φ p k=>chk rng x pl Yt α st Φ p.dec fun e s Φ q=>match e with
    | .normal=>chk rng y pl Yt α s Φ q k
    | e=>k e s Φ q
  | .cond c x y=>fun pl Yt=>qU <| ki <| qU fun α st Φ p k=>match zd st.env c with
    | .imm (.bool b)=>match p.used 999 with
      | some (key,q)=>match za Φ key with
        | some ([.g true],ps)=>.eq (List Prop) ps [b=true] (chk rng x pl Yt α st Φ q k)
        | some ([.g false],ps)=>.eq (List Prop) ps [b=false] (chk rng y pl Yt α st Φ q k)
        | _=>.bad 2083
      | Option.none=>match b with
        | true=>chk rng x pl Yt α st Φ p k
        | false=>chk rng y pl Yt α st Φ p k
    | _=>.bad 2087
  | .block id x=>fun pl Yt=>qU <| ki <| qU fun α st Φ p k=>chk rng x pl Yt α st Φ p.dec fun e s Φ q=>match e with
    | .exit i=>match Nat.beq i id with
      | true=>k .normal s Φ q
      | false=>k (.exit i) s Φ q
    | e=>k e s Φ q
  | .scope x=>fun pl Yt=>qU <| ki <| qU fun α st Φ p k=>match pl with
    | true=>chk rng x pl Yt α st Φ p.dec fun e s Φ q=>match e with
      | .goto _=>.bad 2095
      | e=>k e s Φ q
    | false=>.bad 2097
  | .exit id=>fun pl Yt=>qU <| ki <| qU fun α st Φ p k=>k (.exit id) st Φ p
  | .ret=>fun pl Yt=>qU <| ki <| qU fun α st Φ p k=>k .ret st Φ p
  | .range f ps x y=>fun pl Yt=>qU <| ki <| qU fun α st Φ p k=>match pl with
    | true=>rng f ps (chk rng x) (chk rng y) α st Φ p.dec k
    | false=>.bad 2102
  | .loop x=>fun pl Yt=>qU <| ki <| qU fun α st Φ p k=>match p with
    | .forR (σ:=σ) (ρ:=ρ) key idx n s0 sp body kk=>match Nat.beq sp.nx st.next with
      | true=>.and (sp.weaki st st idx (vI 0) s0 .tt) (.and
        (.all Nat fun i=>.all σ fun s=>chk rng x pl Yt (σ ⊕ ρ) (sp.sti st idx (i:Int) s) ((key,([.g true],[decide ((i:Int) < n)=true]))::(key+1,([.g false],[(!decide ((i:Int) < n))=false]))::Φ) (body i s) (zcp (fun y=>kk (.inr y)) (fun st' s'=>sp.weaki st st' idx (vI (IntKind.i64.wrap ((i:Int)+1))) s' .tt) k))
        (.all Nat fun i=>.all σ fun s=>chk rng x pl Yt α (sp.sti st idx (i:Int) s) ((key,([.g false],[decide ((i:Int) < n)=false]))::(key+1,([.g true],[(!decide ((i:Int) < n))=true]))::Φ) (kk (.inl s)) fun e s Φ q=>match e with
          | .normal=>.bad 2108
          | e=>k e s Φ q))
      | false=>.bad 2110
    | .iter (σ:=σ) (ρ:=ρ) s0 sp body kk=>match Nat.beq sp.nx st.next with
      | true=>.and (sp.weak st st s0 .tt) (.all σ fun s=>chk rng x pl Yt (σ ⊕ ρ) (sp.st st s) Φ (body s) (zcp kk (fun st' s'=>sp.weak st st' s' .tt) k))
      | false=>.bad 2113
    | _=>.bad 2114
variable {C:CtxY} {nt:Fr}
def kN (C:CtxY) (nt:Fr) (c:ZaG) (go:CT):Prop:=∀ {α:Type} {r:α} (st:St) (Φ:zI) (p:Zad α) (k:KT α) (K:Exit→St→Prop),FactsOk Φ→p.run=some r→(go α st Φ p k).Ok →
  (∀ e s Φ q,FactsOk Φ→q.run=some r→(k e s Φ q).Ok→K e s)→awp C nt c K st
theorem Xu {x:ZaG} {K:Exit→St→Prop} {st:St} (ST:St) (hn:st.next≤ST.next) (hK:K .normal ST) (hx:awp C nt x (yD (fun s=>Weak s ST) K) st):awp C nt x K st:=by
  intro code hc g a w R hI
  refine Code.wpIn_mono ?_ (hx code hc g a w R hI)
  rintro e a' w' ⟨st',g',hk,R',E'⟩
  cases e with
  | normal=>
    obtain ⟨g2,R2,hE2⟩:=hk C nt g' a' w' R'
    exact ⟨ST,g2,hK,R2,hE2 g st w hn E'⟩
  | _=>exact ⟨st',g',hk,R',E'⟩
theorem qV {c:ZaG} {go:CT} (h:kN C nt c go):kN C nt c (ki go):=by
  intro α r st Φ p k K hΦ hr hok hk
  obtain ⟨Φ1,p1,hΦ1,hr1,h1⟩:=qN p hΦ hok hr
  split at h1
  · rename_i β sp q kk
    split at h1
    · rename_i hn
      obtain ⟨b,hb1,hb2⟩:=jQ (show Option.bind q.run (fun b=>(kk b).run)=some r from hr1)
      refine Xu (sp.st st b) (Nat.le_of_ble_eq_true hn) (hk _ _ _ _ hΦ1 hb2 (h1.2 b)) ?_
      refine h st Φ1 q (zij sp st) _ hΦ1 hb1 h1.1 ?_
      intro e s Φ2 q2 hΦ2 hr2 h2
      cases e with
      | normal=>
        obtain ⟨Φ3,q3,hΦ3,hr3,h3⟩:=qN q2 hΦ2 h2 hr2
        split at h3
        · cases hr3;exact (Spec.weak_ok h3).2
        · exact h3.elim
      | _=>exact h2.elim
    · exact h1.elim
  · rename_i β γ sp q kk
    split at h1
    · rename_i hn
      obtain ⟨d,hd1,hd2⟩:=jQ (show Option.bind q.run (fun b=>(kk b).run)=some r from hr1)
      have key:∀ (e:Exit) (s:St) (Φ2:zI) (q2:Zad (β ⊕ γ)),FactsOk Φ2→q2.run=some d→(zgI sp st kk k e s Φ2 q2).Ok→(∃ b,d=.inl b∧e=.normal∧Weak s (sp.st st b))∨(e≠.normal∧(∃ y,d=.inr y)∧K e s):=by
        intro e s Φ2 q2 hΦ2 hr2 h2
        obtain ⟨Φ3,q3,hΦ3,hr3,h3⟩:=qN q2 hΦ2 h2 hr2
        split at h3
        · split at h3
          · rename_i b;exact .inl ⟨b,(Option.some.inj hr3).symm,rfl,(Spec.weak_ok h3).2⟩
          · exact h3.elim
        · rename_i hne
          split at h3
          · rename_i y
            have:d=.inr y:=(Option.some.inj hr3).symm
            subst this
            exact .inr ⟨hne,⟨y,rfl⟩,hk _ _ _ _ hΦ3 hd2 h3⟩
          · exact h3.elim
      cases d with
      | inl b=>
        refine Xu (sp.st st b) (Nat.le_of_ble_eq_true hn) (hk _ _ _ _ hΦ1 hd2 (h1.2 b)) ?_
        refine h st Φ1 q _ _ hΦ1 hd1 h1.1 ?_
        intro e s Φ2 q2 hΦ2 hr2 h2
        rcases key e s Φ2 q2 hΦ2 hr2 h2 with ⟨b',e1,rfl,e3⟩ | ⟨_,⟨y,e1⟩,_⟩
        · cases e1;exact e3
        · cases e1
      | inr y=>
        refine h st Φ1 q _ _ hΦ1 hd1 h1.1 ?_
        intro e s Φ2 q2 hΦ2 hr2 h2
        rcases key e s Φ2 q2 hΦ2 hr2 h2 with ⟨b',e1,_,_⟩ | ⟨_,_,e3⟩
        · cases e1
        · exact e3
    · exact h1.elim
  · exact h st Φ1 p1 k K hΦ1 hr1 h1 hk
theorem K7 {c:ZaG} {K:Exit→St→Prop} {f:St→Tree}:∀ (ws:List WStep) (st:St),(zco ws st f).Ok→(∀ st',(f st').Ok→awp C nt c K st')→awp C nt c K st
  | [],st,h,hf=>hf st h
  | w::ws,st,h,hf=>by
    obtain ⟨h1,h2,h3⟩:=w.ok _ _ h
    exact Xl h2 h3 (K7 ws _ h1 hf)
theorem zG {c:ZaG} {go:CT} (h:kN C nt c go):kN C nt c (qU go):=by
  intro α r st Φ p k K hΦ hr hok hk
  obtain ⟨Φ1,p1,hΦ1,hr1,h1⟩:=qN p hΦ hok hr
  split at h1
  · rename_i ws q
    exact K7 ws st h1 fun st' h2=>h st' Φ1 q k K hΦ1 hr1 h2 hk
  · exact h _ _ _ k K hΦ1 hr1 h1 hk
theorem zcq {c:ZaG} {go:CT} (h:kN C nt c go):kN C nt c (zik c go):=by
  intro α r st Φ p k K hΦ hr hc hk
  obtain ⟨Φ1,p1,hΦ1,hr1,h1⟩:=qN p hΦ hc hr
  split at h1
  · rename_i m kk
    have hr1':Option.bind m.x (fun b=>(kk b).run)=some r:=hr1
    obtain ⟨b,hb,hr2⟩:=jQ hr1'
    exact m.ok C nt c st _ K b hb h1 fun s hs=>hk _ _ _ _ hΦ1 hr2 hs
  · exact h st Φ1 _ k K hΦ1 hr1 h1 hk
theorem K8 {α σ ρ:Type} {kk:ρ→Zad α} {W:St→σ→Tree} {k:KT α} {o:σ ⊕ ρ} {e:Exit} {s:St} {Φ:zI} {q:Zad (σ ⊕ ρ)} (hΦ:FactsOk Φ) (hr:q.run=some o) (h:(zcp kk W k e s Φ q).Ok) :
    (e=.normal∧∃ s',o=.inl s'∧(W s s').Ok)∨(e≠.normal∧∃ y Φ',o=.inr y∧FactsOk Φ'∧(k e s Φ' (kk y)).Ok):=by
  obtain ⟨Φ3,q3,hΦ3,hr3,h3⟩:=qN q hΦ h hr
  split at h3
  · split at h3
    · rename_i s';exact .inl ⟨rfl,s',(Option.some.inj hr3).symm,h3⟩
    · exact h3.elim
  · rename_i hne
    split at h3
    · rename_i y;exact .inr ⟨hne,y,Φ3,(Option.some.inj hr3).symm,hΦ3,h3⟩
    · exact h3.elim
def K9 (C:Ctx) (c:ZaG) (go:GT):Prop:=∀ (ro:Option Nat) (at0:Option (Gh×St×World)) Y ym yk (pl:Bool) (Yt:YT) (nt:Fr),(pl=true→ro=none)→zcl ⟨C,ro,at0,Y,ym,yk⟩ Yt→kN ⟨C,ro,at0,Y,ym,yk⟩ nt c (go pl Yt)
def zcr (C:Ctx) (rng:Opd→List Nat→GT→GT→CT):Prop:=∀ (f:Opd) (ps:List Nat) (x y:ZaG) (gx gy:GT),K9 C x gx→K9 C y gy →
  ∀ (at0:Option (Gh×St×World)) Y ym yk (nt:Fr),kN ⟨C,none,at0,Y,ym,yk⟩ nt (.range f ps x y) (rng f ps gx gy)
theorem qp {C:Ctx} {rng:Opd→List Nat→GT→GT→CT} (hG:zcr C rng):∀ c:ZaG,K9 C c (chk C rng c)
  | .skip=>fun ro at0 Y ym yk pl Yt nt hpl hY=>zG <| qV <| zG fun st Φ p k K hΦ hr h hk=>Xj (hk _ _ _ _ hΦ hr h)
  | .region d o items ks=>fun ro at0 Y ym yk pl Yt nt hpl hY=>zcq <| zG <| qV <| zG fun st Φ p k K hΦ hr h hk=>by
    cases d with
    | false=>exact JA (Z3 hY (K:=ZP ks K) (fun s Φ q h1 h2 h3=>hk _ _ _ _ h1 h2 h3) items 0 _ [] [] [] st Φ p.enter hΦ ((Yg p).trans hr) h)
    | true=>exact zdT (fun s Φ q h1 h2 h3=>hk _ _ _ _ h1 h2 h3) hΦ ((Yg p).trans hr) h
  | .seq x y=>fun ro at0 Y ym yk pl Yt nt hpl hY=>zG <| qV <| zG fun st Φ p k K hΦ hr h hk=>by
    refine xn (qp hG x ro at0 Y ym yk pl Yt nt hpl hY st Φ p.dec _ _ hΦ ((JJ p).trans hr) h ?_)
    intro e s Φ2 q2 hΦ2 hr2 h2
    cases e with
    | normal=>exact qp hG y ro at0 Y ym yk pl Yt nt hpl hY s Φ2 q2 k K hΦ2 hr2 h2 hk
    | _=>exact hk _ _ _ _ hΦ2 hr2 h2
  | .cond c x y=>fun ro at0 Y ym yk pl Yt nt hpl hY=>zG <| qV <| zG fun st Φ p k K hΦ hr h hk=>by
    split at h
    · rename_i b hc
      split at h
      · rename_i key q hu
        have hq:=(Xr hu).trans hr
        split at h
        · rename_i ps hf
          obtain ⟨h1,h2⟩:=h
          have hb:b=true:=by have:=hΦ _ _ hf;simp only [h1] at this;exact this.one
          exact wl b hc (fun _=>qp hG x ro at0 Y ym yk pl Yt nt hpl hY st Φ q k K hΦ hq h2 hk) (fun e=>by rw [hb] at e;cases e)
        · rename_i ps hf
          obtain ⟨h1,h2⟩:=h
          have hb:b=false:=by have:=hΦ _ _ hf;simp only [h1] at this;exact this.one
          exact wl b hc (fun e=>by rw [hb] at e;cases e) (fun _=>qp hG y ro at0 Y ym yk pl Yt nt hpl hY st Φ q k K hΦ hq h2 hk)
        · exact h.elim
      · split at h
        · exact wl true hc (fun _=>qp hG x ro at0 Y ym yk pl Yt nt hpl hY st Φ p k K hΦ hr h hk) (fun e=>by cases e)
        · exact wl false hc (fun e=>by cases e) (fun _=>qp hG y ro at0 Y ym yk pl Yt nt hpl hY st Φ p k K hΦ hr h hk)
    · exact h.elim
  | .block id x=>fun ro at0 Y ym yk pl Yt nt hpl hY=>zG <| qV <| zG fun st Φ p k K hΦ hr h hk=>by
    refine kI (qp hG x ro at0 Y ym yk pl Yt nt hpl hY st Φ p.dec _ _ hΦ ((JJ p).trans hr) h ?_)
    intro e s Φ2 q2 hΦ2 hr2 h2
    cases e with
    | exit i=>
      have h2:(match Nat.beq i id with
        | true=>k .normal s Φ2 q2
        | false=>k (.exit i) s Φ2 q2).Ok:=h2
      simp only [xo]
      cases hb:Nat.beq i id with
      | true=>rw [hb] at h2;rw [if_pos (Nat.eq_of_beq_eq_true hb)];exact hk _ _ _ _ hΦ2 hr2 h2
      | false=>
        rw [hb] at h2
        rw [if_neg (fun e=>by subst e;rw [Nat.beq_refl] at hb;cases hb)]
        exact hk _ _ _ _ hΦ2 hr2 h2
    | _=>exact hk _ _ _ _ hΦ2 hr2 h2
  | .scope x=>fun ro at0 Y ym yk pl Yt nt hpl hY=>zG <| qV <| zG fun st Φ p k K hΦ hr h hk=>by
    split at h
    · refine V0 (hpl rfl) (qp hG x ro at0 Y ym yk true Yt nt hpl hY st Φ p.dec _ _ hΦ ((JJ p).trans hr) h ?_)
      intro e s Φ2 q2 hΦ2 hr2 h2
      cases e with
      | goto l=>exact h2.elim
      | _=>exact hk _ _ _ _ hΦ2 hr2 h2
    · exact h.elim
  | .range f ps x y=>fun ro at0 Y ym yk pl Yt nt hpl hY=>zG <| qV <| zG fun st Φ p k K hΦ hr h hk=>by
    split at h
    · have:=hpl rfl
      subst this
      exact hG f ps x y _ _ (qp hG x) (qp hG y) at0 Y ym yk nt st Φ p.dec k K hΦ ((JJ p).trans hr) h hk
    · exact h.elim
  | .exit id=>fun ro at0 Y ym yk pl Yt nt hpl hY=>zG <| qV <| zG fun st Φ p k K hΦ hr h hk=>Xk (hk _ _ _ _ hΦ hr h)
  | .ret=>fun ro at0 Y ym yk pl Yt nt hpl hY=>zG <| qV <| zG fun st Φ p k K hΦ hr h hk=>Vb (hk _ _ _ _ hΦ hr h)
  | .loop x=>fun ro at0 Y ym yk pl Yt nt hpl hY=>zG <| qV <| zG fun {α} {r} st Φ p k K hΦ hr h hk=>by
    split at h
    · rename_i σ ρ key idx n s0 sp body kk
      split at h
      · rename_i hnx
        have hnx:sp.nx=st.next:=Nat.eq_of_beq_eq_true hnx
        obtain ⟨h1,h2,h3⟩:=h
        obtain ⟨out,ho,hq⟩:=jQ (show Option.bind (forR n (fun i s=>(body i s).run) s0) (fun o=>(kk o).run)=some r from hr)
        refine ze9 ho (fun i s=>(sp.sti st idx (i:Int) s).env) (fun i s=>(sp.sti st idx (i:Int) s).heap) ?_ ?_ ?_
        · have:=(Spec.weaki_ok (n:=((0:Nat):Int)) rfl h1).2
          simp only [Spec.sti,hnx] at this ⊢
          exact this
        · intro i s o hi hw hb
          have hst:(⟨(sp.sti st idx (i:Int) s).env,(sp.sti st idx (i:Int) s).heap,st.next⟩:St)=sp.sti st idx (i:Int) s:=by simp only [Spec.sti,hnx]
          rw [hst]
          refine qp hG x ro at0 Y ym yk pl Yt nt hpl hY _ _ (body i s) _ _ ((hΦ.add (f:=([.g false],[(!decide ((i:Int) < n))=false])) (.cons (by rw [decide_eq_true hi];rfl) .nil)).add (f:=([.g true],[decide ((i:Int) < n)=true])) (.cons (decide_eq_true hi) .nil)) hb (h2 i s) ?_
          intro e s2 Φ2 q2 hΦ2 hr2 h4
          rcases K8 hΦ2 hr2 h4 with ⟨rfl,s',rfl,h5⟩ | ⟨hne,y,Φ3,rfl,hΦ3,h5⟩
          · refine ⟨s',rfl,?_⟩
            have:=(Spec.weaki_ok (n:=((i+1:Nat):Int)) (by rw [hw];rfl) h5).2
            simp only [Spec.sti,hnx] at this ⊢
            exact this
          · have:∀ (K':Exit→St→Prop),(∃ y',(Sum.inr y:σ ⊕ ρ)=.inr y'∧(out=.inr y'→K e s2))→YU (fun s=>⟨(sp.sti st idx ((i+1:Nat):Int) s).env,(sp.sti st idx ((i+1:Nat):Int) s).heap,st.next⟩) K out (.inr y) e s2:=fun _ hh=>by
              cases e with
              | normal=>exact absurd rfl hne
              | _=>exact hh
            refine this K ⟨y,rfl,fun hout => ?_⟩
            subst hout
            exact hk _ _ _ _ hΦ3 hq h5
        · intro m s hm hout
          subst hout
          have hst:(⟨(sp.sti st idx (m:Int) s).env,(sp.sti st idx (m:Int) s).heap,st.next⟩:St)=sp.sti st idx (m:Int) s:=by simp only [Spec.sti,hnx]
          rw [hst]
          refine qp hG x ro at0 Y ym yk pl Yt nt hpl hY _ _ (kk (.inl s)) _ _ ((hΦ.add (f:=([.g true],[(!decide ((m:Int) < n))=true])) (.cons (by rw [decide_eq_false hm];rfl) .nil)).add (f:=([.g false],[decide ((m:Int) < n)=false])) (.cons (decide_eq_false hm) .nil)) hq (h3 m s) ?_
          intro e s2 Φ2 q2 hΦ2 hr2 h4
          cases e with
          | normal=>exact h4.elim
          | _=>exact hk _ _ _ _ hΦ2 hr2 h4
      · exact h.elim
    · rename_i σ ρ s0 sp body kk
      split at h
      · rename_i hnx
        have hnx:sp.nx=st.next:=Nat.eq_of_beq_eq_true hnx
        obtain ⟨h1,h2⟩:=h
        obtain ⟨out,ho,hq⟩:=jQ (show Option.bind (iter (fun s=>(body s).run) s0) (fun o=>(kk o).run)=some r from hr)
        have hst:∀ s,(⟨(sp.st st s).env,(sp.st st s).heap,st.next⟩:St)=sp.st st s:=fun s=>by simp only [Spec.st,hnx]
        refine zfa ho (fun s=>(sp.st st s).env) (fun s=>(sp.st st s).heap) ?_ ?_
        · rw [hst];exact (Spec.weak_ok h1).2
        · intro s o hb
          rw [hst]
          refine qp hG x ro at0 Y ym yk pl Yt nt hpl hY _ _ (body s) _ _ hΦ hb (h2 s) ?_
          intro e s2 Φ2 q2 hΦ2 hr2 h4
          rcases K8 hΦ2 hr2 h4 with ⟨rfl,s',rfl,h5⟩ | ⟨hne,y,Φ3,rfl,hΦ3,h5⟩
          · refine ⟨s',rfl,?_⟩
            show Weak s2 ⟨(sp.st st s').env,(sp.st st s').heap,st.next⟩
            rw [hst];exact (Spec.weak_ok h5).2
          · have:(∃ y',(Sum.inr y:σ ⊕ ρ)=.inr y'∧((Sum.inr out:σ ⊕ ρ)=.inr y'→K e s2))→YU (fun s=>⟨(sp.st st s).env,(sp.st st s).heap,st.next⟩) K (.inr out) (.inr y) e s2:=fun hh=>by
              cases e with
              | normal=>exact absurd rfl hne
              | _=>exact hh
            refine this ⟨y,rfl,fun hout => ?_⟩
            cases hout
            exact hk _ _ _ _ hΦ3 hq h5
      · exact h.elim
    · exact h.elim
end
section
def JK (n:Nat):Nat:=Nat.shiftLeft 1 n
def zdU (m n:Nat):Bool:=Nat.beq (Nat.land 1 (Nat.shiftRight m n)) 1
def Zp:Opd→Nat
  | .t n=>JK n
  | .c _=>0
  | .m n _=>JK n
def Xv:List Opd→Nat
  | []=>0
  | x::r=>Nat.lor (Zp x) (Xv r)
def Vq (it:AItem):Nat:=match it.guard with
  | none=>Xv (zW it.op)
  | some (t,_)=>Nat.lor (JK t) (Xv (zW it.op))
def zg9 (m n:Nat):Nat:=match zdU m n with
  | true=>Nat.sub m (JK n)
  | false=>m
def QY (out:Nat):List AItem→Nat
  | []=>out
  | it::rest=>match it.guard,it.dst with
    | none,some d=>Nat.lor (Vq it) (zg9 (QY out rest) d)
    | _,_=>Nat.lor (Vq it) (QY out rest)
def zgJ:List AItem→Nat
  | []=>0
  | it::rest=>Nat.lor (Vq it) (zgJ rest)
def wb:ZaG→Nat
  | .region _ _ items _=>zgJ items
  | .seq x y=>Nat.lor (wb x) (wb y)
  | .cond c x y=>Nat.lor (Zp c) (Nat.lor (wb x) (wb y))
  | .block _ x | .loop x | .scope x=>wb x
  | .range f _ x y=>Nat.lor (Zp f) (Nat.lor (wb x) (wb y))
  | _=>0
def zgK (ex:List (Nat×Nat)) (id:Nat):Nat:=match ex with
  | []=>0
  | (k,v)::r=>match Nat.beq k id with
    | true=>v
    | false=>zgK r id
def Y2:List (Nat×Nat)→Nat
  | []=>0
  | (_,v)::r=>Nat.lor v (Y2 r)
def Xw (ret:Nat):ZaG→Nat→List (Nat×Nat)→Nat
  | .skip,out,_=>out
  | .region _ _ items _,out,_=>QY out items
  | .seq x y,out,ex=>Xw ret x (Xw ret y out ex) ex
  | .cond c x y,out,ex=>Nat.lor (Zp c) (Nat.lor (Xw ret x out ex) (Xw ret y out ex))
  | .block id x,out,ex=>Xw ret x out ((id,out)::ex)
  | .loop x,out,ex=>Nat.lor ret (Nat.lor (wb x) (Y2 ex))
  | .scope x,out,ex=>Xw ret x out ex
  | .exit id,_,ex=>zgK ex id
  | .ret,_,_=>ret
  | .range f _ x y,out,ex=>Nat.lor (Nat.lor ret out) (Nat.lor (Zp f) (Nat.lor (Nat.lor (wb x) (wb y)) (Y2 ex)))
def Xx (m:Nat):Nat→List Nat
  | 0=>[]
  | n+1=>match zdU m n with
    | true=>n::Xx m n
    | false=>Xx m n
def ann (nt ret:Nat):ZaG→Nat→List (Nat×Nat)→ZaG
  | .skip,_,_=>.skip
  | .region d o items _,out,_=>.region d o items (some (Xx out nt))
  | .seq x y,out,ex=>.seq (ann nt ret x (Xw ret y out ex) ex) (ann nt ret y out ex)
  | .cond c x y,out,ex=>.cond c (ann nt ret x out ex) (ann nt ret y out ex)
  | .block id x,out,ex=>.block id (ann nt ret x out ((id,out)::ex))
  | .loop x,out,ex=>.loop (ann nt ret x (Nat.lor ret (Nat.lor (wb x) (Y2 ex))) ex)
  | .scope x,out,ex=>.scope (ann nt ret x out ex)
  | .exit id,_,_=>.exit id
  | .ret,_,_=>.ret
  | .range f ps x y,out,ex=>.range f ps (ann nt ret x (wb y) ex) (ann nt ret y 0 ex)
theorem jo (nt ret:Nat):∀ (c:ZaG) (out:Nat) (ex:List (Nat×Nat)),(ann nt ret c out ex).erase=c.erase
  | .skip,_,_=>rfl
  | .region _ _ _ _,_,_=>rfl
  | .seq x y,out,ex=>by simp only [ann,ZaG.erase,jo nt ret x,jo nt ret y]
  | .cond c x y,out,ex=>by simp only [ann,ZaG.erase,jo nt ret x,jo nt ret y]
  | .block id x,out,ex=>by simp only [ann,ZaG.erase,jo nt ret x]
  | .loop x,out,ex=>by simp only [ann,ZaG.erase,jo nt ret x]
  | .scope x,out,ex=>by simp only [ann,ZaG.erase,jo nt ret x]
  | .exit id,_,_=>rfl
  | .ret,_,_=>rfl
  | .range f ps x y,out,ex=>by simp only [ann,ZaG.erase,jo nt ret x,jo nt ret y]
theorem qW (C:Ctx) (nt:Nat):∀ (code:Code) (ac:ZaG),comp C nt code=some ac→ac.erase=ac
  | .skip,ac,h=>by simp only [comp] at h;cases h;rfl
  | .region _ ops draw,ac,h=>by
    simp only [comp] at h
    split at h
    · split at h
      · split at h
        · cases h;rfl
        · cases h
      · cases h;rfl
    · cases h
  | .seq a b,ac,h=>by
    simp only [comp] at h
    split at h
    · rename_i x y hx hy;cases h;simp only [ZaG.erase,qW C nt a x hx,qW C nt b y hy]
    · cases h
  | .cond c a b,ac,h=>by
    simp only [comp] at h
    split at h
    · rename_i x y hx hy;cases h;simp only [ZaG.erase,qW C nt a x hx,qW C nt b y hy]
    · cases h
  | .block id a,ac,h=>by
    simp only [comp] at h
    split at h
    · rename_i x hx;cases h;simp only [ZaG.erase,qW C nt a x hx]
    · cases h
  | .loop a,ac,h=>by
    simp only [comp] at h
    split at h
    · rename_i x hx;cases h;simp only [ZaG.erase,qW C nt a x hx]
    · cases h
  | .scope a,ac,h=>by
    simp only [comp] at h
    split at h
    · rename_i x hx;cases h;simp only [ZaG.erase,qW C nt a x hx]
    · cases h
  | .label _,ac,h=>by simp only [comp] at h;cases h;rfl
  | .exit id,ac,h=>by simp only [comp] at h;cases h;rfl
  | .ret,ac,h=>by simp only [comp] at h;cases h;rfl
  | .rangeFunc _ ps a b,ac,h=>by
    simp only [comp] at h
    split at h
    · split at h
      · rename_i x y hx hy;cases h;simp only [ZaG.erase,qW C nt a x hx,qW C nt b y hy]
      · cases h
    · cases h
  | .goto _,ac,h=>by simp only [comp] at h;cases h
  | .refuse _,ac,h=>by simp only [comp] at h;cases h
theorem YK {C:Ctx} {f:Nat} {F:AFun} (h:qt C f=some F):F.erase=F:=by
  unfold qt at h
  split at h
  · split at h
    · split at h
      · rename_i ac rs hac hrs
        split at h
        · cases h
        · cases h;simp only [AFun.erase,qW C _ _ _ hac]
      · cases h
    · cases h
  · cases h
def JL:List ARes→Nat
  | []=>0
  | .tmp t::r=>Nat.lor (JK t) (JL r)
  | .cell t _ _::r=>Nat.lor (JK t) (JL r)
def AFun.ann (F:AFun):AFun:={F with body:=Go.Proofs.YtlpmnmbebkdocaaGreatDoor.ann F.nt (JL F.results) F.body (JL F.results) []}
theorem Xy {C:Ctx} {f:Nat} {F:AFun} (h:qt C f=some F):qt C f=some F.ann.erase:=by
  rw [h]
  have:=YK h
  simp only [AFun.erase] at this
  simp only [AFun.ann,AFun.erase,jo]
  rw [this]
def noR:Opd→List Nat→GT→GT→CT:=fun _ _ _ _ _ _ _ _ _=>.bad 3161
theorem zil (C:Ctx):zcr C noR:=fun _ _ _ _ _ _ _ _ _ _ _ _ _ {_} {_} _ _ _ _ _ _ _ h _=>h.elim
def Wq (o:Option Zaf) (o':Zaf) (t:Tree):Tree:=match o with
  | some x=>.eq Zaf x o' t
  | none=>.bad 3167
theorem Xz {o:Option Zaf} {o':Zaf} {t:Tree} (h:(Wq o o' t).Ok):o=some o'∧t.Ok:=by
  unfold Wq at h
  split at h
  · obtain ⟨rfl,h2⟩:=h;exact ⟨rfl,h2⟩
  · exact h.elim
noncomputable def zim {α:Type} (idl L:Nat) (R:LoopState→Option Code→Loop) (k:AV→List (Nat×Zaf)→Nat→zI→Zad α→Tree):KT α:=fun e s Φ q=>Wq (za s.heap idl) (.lp L R .busy none) (match e with
  | .normal=>k (.imm (.bool true)) (zj s.heap idl (.lp L R .ready none)) (s.next+1) Φ q
  | .ret=>k (.imm (.bool false)) (zj s.heap idl (.lp L R .done (some .ret))) (s.next+1) Φ q
  | .exit id=>k (.imm (.bool false)) (zj s.heap idl (.lp L R .done (some (.exit id)))) (s.next+1) Φ q
  | _=>.bad 3178)
noncomputable def zdV (env:List (Nat×AV)) (idl L:Nat) (R:LoopState→Option Code→Loop) (ps:List Nat) (gx gy:GT):YT:=fun l id args heap next α Φ p k=>
  .eq (Nat×Nat) (l,id) (L,idl) (match Nat.beq args.length ps.length with
    | true=>Wq (za heap idl) (.lp L R .ready none) (gx false noT α ⟨YZ ps args env,heap,next⟩ Φ p fun e s Φ q=>match e with
      | .normal=>Wq (za s.heap idl) (.lp L R .ready none) (gy false noT α ⟨s.env,zj s.heap idl (.lp L R .busy none),s.next+1⟩ Φ q (zim idl L R k))
      | _=>.bad 3183)
    | false=>.bad 3184)
noncomputable def Y3 {α:Type} (env:List (Nat×AV)) (idl L:Nat) (R:LoopState→Option Code→Loop) (rs:List ARes) (k:KT α) (s:St) (Φ:zI) (q:Zad α):Tree:=match qO rs s with
  | some _=>match za s.heap idl with
    | some (.lp L' R' .ready none)=>.eq Zaf (.lp L' R' .ready none) (.lp L R .ready none) (k .normal ⟨env,zj s.heap idl (.lp L R .exhausted none),s.next+1⟩ Φ q)
    | some (.lp L' R' .done (some .ret))=>.eq Zaf (.lp L' R' .done (some .ret)) (.lp L R .done (some .ret)) (k .ret ⟨env,zj s.heap idl (.lp L R .exhausted (some .ret)),s.next+1⟩ Φ q)
    | some (.lp L' R' .done (some (.exit id)))=>.eq Zaf (.lp L' R' .done (some (.exit id))) (.lp L R .done (some (.exit id))) (k (.exit id) ⟨env,zj s.heap idl (.lp L R .exhausted (some (.exit id))),s.next+1⟩ Φ q)
    | _=>.bad 3190
  | none=>.bad 3191
noncomputable def zfz (C:Ctx):Opd→List Nat→GT→GT→CT:=fun f ps gx gy α st Φ p k=>match zd st.env f with
  | .func gf [] caps=>match qt C gf with
    | some F=>match Nat.ble (caps.length+1) F.nt with
      | true=>.all Nat fun L=>.all (LoopState→Option Code→Loop) fun R=>chk C noR F.ann.body true (zdV st.env st.next L R ps gx gy) α ⟨qY 0 (.yld L st.next::caps),zj st.heap st.next (.lp L R .ready none),st.next+1⟩ Φ p fun e s Φ q=>match e with
        | .ret=>Y3 st.env st.next L R F.results k s Φ q
        | .normal=>Y3 st.env st.next L R F.results k s Φ q
        | _=>.bad 3198
      | false=>.bad 3199
    | none=>.bad 3200
  | _=>.bad 3201
theorem zaa {α:Type} {env:List (Nat×AV)} {idl L:Nat} {R:LoopState→Option Code→Loop} {rs:List ARes} {k:KT α} {s:St} {Φ:zI} {q:Zad α} {K:Exit→St→Prop} (h:(Y3 env idl L R rs k s Φ q).Ok) (hk:∀ e s,(k e s Φ q).Ok→K e s) :
    ∃ r,qO rs s=some r∧zgH env idl L R K s.heap s.next:=by
  unfold Y3 at h
  split at h
  · rename_i r hr
    refine ⟨r,hr,?_⟩
    split at h
    · rename_i ho;obtain ⟨h1,h2⟩:=h;rw [h1] at ho;exact .inl ⟨ho,hk _ _ h2⟩
    · rename_i ho;obtain ⟨h1,h2⟩:=h;rw [h1] at ho;exact .inr (.inl ⟨ho,hk _ _ h2⟩)
    · rename_i id ho;obtain ⟨h1,h2⟩:=h;rw [h1] at ho;exact .inr (.inr ⟨id,ho,hk _ _ h2⟩)
    · exact h.elim
  · exact h.elim
theorem zbw (C:Ctx):zcr C (zfz C):=by
  intro f ps x y gx gy hx hy at0 Y ym yk nt α r st Φ p k K hΦ hr h hk
  unfold zfz at h
  split at h
  · rename_i gf caps hf
    split at h
    · rename_i F hF
      split at h
      · rename_i hn
        refine zdQ (C:=⟨C,none,at0,Y,ym,yk⟩) rfl hf (F:=F.ann) (Xy hF) (Nat.le_of_ble_eq_true hn) ?_
        intro L R at0' ym' yk' B
        have hYt:zcl ⟨C,none,at0',Zo ⟨C,none,at0,Y,ym,yk⟩ nt st.env st.next L R ps x y,ym',yk'⟩ (zdV st.env st.next L R ps gx gy):=by
          intro l id args heap next β Ψ q kk r' KK hΨ hr' h1 hkk
          obtain ⟨e1,h2⟩:=h1
          cases e1
          split at h2
          · rename_i hlen
            obtain ⟨e2,h3⟩:=Xz h2
            refine ⟨rfl,rfl,Nat.eq_of_beq_eq_true hlen,e2,?_⟩
            refine hx (some L) none noY _ _ false noT nt (fun h=>by cases h) (Wn _) _ Ψ q _ _ hΨ hr' h3 ?_
            intro e s Ψ2 q2 hΨ2 hr2 h4
            cases e with
            | normal=>
              obtain ⟨e3,h5⟩:=Xz h4
              refine ⟨e3,?_⟩
              refine hy (some L) none noY _ _ false noT nt (fun h=>by cases h) (Wn _) _ Ψ2 q2 _ _ hΨ2 hr2 h5 ?_
              intro e s3 Ψ3 q3 hΨ3 hr3 h6
              obtain ⟨e4,h7⟩:=Xz h6
              cases e with
              | normal=>exact ⟨e4,hkk _ _ _ _ _ hΨ3 hr3 h7⟩
              | ret=>exact ⟨e4,hkk _ _ _ _ _ hΨ3 hr3 h7⟩
              | exit id=>exact ⟨e4,hkk _ _ _ _ _ hΨ3 hr3 h7⟩
              | _=>exact h7.elim
            | _=>exact h4.elim
          · exact h2.elim
        refine qp (zil C) F.ann.body none at0' _ ym' yk' true _ ⟨F.ann.nt,B⟩ (fun _=>rfl) hYt _ Φ p _ _ hΦ hr (h L R) ?_
        intro e s Φ2 q2 hΦ2 hr2 h2
        cases e with
        | ret=>obtain ⟨r2,h3,h4⟩:=zaa (K:=K) h2 (fun e s h=>hk e s _ _ hΦ2 hr2 h);exact ⟨.inl rfl,r2,h3,h4⟩
        | normal=>obtain ⟨r2,h3,h4⟩:=zaa (K:=K) h2 (fun e s h=>hk e s _ _ hΦ2 hr2 h);exact ⟨.inr rfl,r2,h3,h4⟩
        | _=>exact h2.elim
      · exact h.elim
    · exact h.elim
  · exact h.elim
variable (C:Ctx)
noncomputable def Zq {α:Type} (f:Nat) (args:List AV) (heap:List (Nat×Zaf)) (m:Nat) (p:Zad α) (kend:List ARes→KT α):Tree:=match qt C f with
  | some F=>match Nat.ble args.length F.nt with
    | true=>chk C (zfz C) F.ann.body true noT α ⟨qY 0 args,heap,m⟩ [] p (kend F.results)
    | false=>.bad 3266
  | none=>.bad 3267
noncomputable def zcs {α:Type} (iv:α→IV) (rs:List ARes) (s:St):Zad α→Tree
  | .ret a=>.eq (Option IV) ((qO rs s).bind (zx (za s.heap) 5)) (some (iv a)) .tt
  | .fin ids V objs x h a=>match xx s.heap ids with
    | some objs'=>.eq (List (Nat×Zaf)) objs' objs (.eq (Option AV) (qO rs s) (some V) (.eq IV x (iv a) .tt))
    | Option.none=>.bad 3273
  | _=>.bad 3274
noncomputable def zgL {α:Type} (iv:α→IV) (rs:List ARes):KT α:=fun e s Φ q=>settle q Φ fun Φ q=>match e with
  | .ret=>zcs iv rs s q
  | .normal=>zcs iv rs s q
  | _=>.bad 3278
noncomputable def zct {α:Type} (R:α→AV) (H:α→List (Nat×Zaf)) (n:Nat) (rs:List ARes) (s:St):Zad α→Tree
  | .ret a=>match qO rs s with
    | some x=>.eq AV x (R a) (Z4 n [(0,R a)] [] (H a) [] ⟨[(0,R a)],s.heap,s.next⟩ .tt)
    | Option.none=>.bad 3283
  | .finL x y h a=>match qO rs s with
    | some x'=>.eq AV x' x (.eq AV y (R a) (Z4 n [(0,R a)] [] (H a) [] ⟨[(0,R a)],s.heap,s.next⟩ .tt))
    | Option.none=>.bad 3286
  | _=>.bad 3287
noncomputable def zin {α:Type} (R:α→AV) (H:α→List (Nat×Zaf)) (n:Nat) (rs:List ARes):KT α:=fun e s Φ q=>settle q Φ fun Φ q=>match e with
  | .ret=>zct R H n rs s q
  | .normal=>zct R H n rs s q
  | _=>.bad 3291
variable {C:Ctx}
theorem zbx {α:Type} {iv:α→IV} {rs:List ARes} {s:St} {q:Zad α} {r:α} (hr:q.run=some r) (h:(zcs iv rs s q).Ok):ZQ (QQ 5 (iv r)) s.heap s.next (qO rs s):=by
  unfold zcs at h
  split at h
  · cases hr
    have h1:=h.1
    cases h2:qO rs s with
    | none=>rw [h2] at h1;cases h1
    | some x=>rw [h2] at h1;exact h1
  · rename_i ids V objs x hs a
    cases hr
    split at h
    · rename_i objs' ho
      obtain ⟨rfl,h2,rfl,_⟩:=h
      rw [h2]
      have:=ZU (ZV ho) hs
      simp only [mapO] at this
      split at this
      · rename_i b hb;cases this;exact hb
      · cases this
    · exact h.elim
  · exact h.elim
theorem Zad.pure {f:Nat} {α:Type} {args:List IV} {iv:α→IV} (p:Zad α) (h:Zq C f (args.map .imm) [] 0 p (zgL iv)=(Zq C f (args.map .imm) [] 0 p (zgL iv)).norm) {r:α} (hr:p.run=some r):APure C f args (iv r):=by
  have hk:=Tree.ok h
  unfold Zq at hk
  split at hk
  · rename_i F hF
    split at hk
    · rename_i hn
      refine APure.start (F:=F.ann) (Xy hF) 5 (by have:=Nat.le_of_ble_eq_true hn;rw [List.length_map] at this;exact this) (fun B => ?_)
      refine qp (zbw C) F.ann.body Option.none Option.none noY _ _ true noT _ (fun _=>rfl) (Wn _) _ [] p _ _ (fun k f hf=>by cases hf) hr hk ?_
      intro e s Φ q hΦ hr2 h2
      obtain ⟨Φ3,q3,hΦ3,hr3,h3⟩:=qN q hΦ h2 hr2
      cases e with
      | ret=>exact zbx hr3 h3
      | normal=>exact zbx hr3 h3
      | _=>exact h3.elim
    · exact hk.elim
  · exact hk.elim
theorem zby {α:Type} {R:α→AV} {H:α→List (Nat×Zaf)} {n:Nat} (hb:∀ a,Belows n (H a)) {rs:List ARes} {s:St} {q:Zad α} {r:α} (hr:q.run=some r) (h:(zct R H n rs s q).Ok):∃ x,qO rs s=some x∧Weak ⟨[(0,x)],s.heap,s.next⟩ ⟨[(0,R r)],H r,n⟩:=by
  unfold zct at h
  split at h
  · cases hr
    split at h
    · rename_i x hx
      obtain ⟨rfl,h1⟩:=h
      have:=(Xt (o:=Option.none) (t:=.tt) (hb _) h1).2
      simp only [List.append_nil,List.nil_append,Z0] at this
      exact ⟨_,hx,this⟩
    · exact h.elim
  · rename_i x y hl a
    cases hr
    split at h
    · rename_i x' hx
      obtain ⟨rfl,rfl,h1⟩:=h
      have hn:n≤s.next:=by
        unfold Z4 at h1
        split at h1
        · rename_i hn;exact Nat.le_of_ble_eq_true hn
        · exact h1.elim
      have:=(Xt (o:=Option.none) (t:=.tt) (hb _) h1).2
      simp only [List.append_nil,List.nil_append,Z0] at this
      exact ⟨_,hx,(zg7 hl).andThen this hn⟩
    · exact h.elim
  · exact h.elim
theorem Zad.det {f:Nat} {α:Type} {args:List AV} {heap:List (Nat×Zaf)} {m d:Nat} {R:α→AV} {H:α→List (Nat×Zaf)} (p:Zad α) (b0:Belows m heap) (b1:∀ a,Belows (m+d) (H a)) (k0:(args.all (zL m)&&JH m heap)=true) (k1:∀ a,(zL (m+d) (R a)&&JH m (H a))=true)
    (h:Zq C f args heap m p (zin R H (m+d))=(Zq C f args heap m p (zin R H (m+d))).norm) {r:α} (hr:p.run=some r):DOk C f args heap m (R r) (H r) d:=by
  have hk:=Tree.ok h
  have k0:=k0;rw [Bool.and_eq_true] at k0
  have k1:=k1 r;rw [Bool.and_eq_true] at k1
  unfold Zq at hk
  split at hk
  · rename_i F hF
    split at hk
    · rename_i hn
      refine DOk.start (F:=F.ann) (Xy hF) (Nat.le_of_ble_eq_true hn) b0 (b1 r) k0.1 k1.1 k0.2 k1.2 (fun B => ?_)
      refine qp (zbw C) F.ann.body Option.none Option.none noY _ _ true noT _ (fun _=>rfl) (Wn _) _ [] p _ _ (fun k f hf=>by cases hf) hr hk ?_
      intro e s Φ q hΦ hr2 h2
      obtain ⟨Φ3,q3,hΦ3,hr3,h3⟩:=qN q hΦ h2 hr2
      cases e with
      | ret=>exact zby b1 hr3 h3
      | normal=>exact zby b1 hr3 h3
      | _=>exact h3.elim
    · exact hk.elim
  · exact hk.elim
end
section
section
variable {α β:Type}
def Zad.us:List (Nat×Nat)→Zad α→Zad α
  | [],p=>p
  | (j,k)::l,p=>.use j k (Zad.us l p)
abbrev Zad.sel (key:Nat) (p:Zad α):Zad α:=.use 999 key p
theorem FactsOk.c1 {key:Nat} {o:List Orc} {p:Prop} (h:p) {Φ:zI} (t:FactsOk Φ):FactsOk ((key,(o,[p]))::Φ):=t.add (.cons h .nil)
theorem FactsOk.c2 {key:Nat} {o:List Orc} {p q:Prop} (h:p) (h':q) {Φ:zI} (t:FactsOk Φ):FactsOk ((key,(o,[p,q]))::Φ):=t.add (.cons h (.cons h' .nil))
abbrev Zad.b1 (key:Nat) (x:Option β) (o:β→Orc) {p:β→Prop} (h:∀ v,x=some v→p v) (k:β→Zad α):Zad α:=
  .bind x (fun v=>[(key,([o v],[p v]))]) (fun v hv=>.c1 (h v hv) .nil) k
abbrev Zad.u1 (j key:Nat) (x:Option β) (o:β→Orc) {p:β→Prop} (h:∀ v,x=some v→p v) (k:β→Zad α):Zad α:=
  .bind x (fun v=>[(key,([o v],[p v]))]) (fun v hv=>.c1 (h v hv) .nil) fun v=>.use j key (k v)
abbrev Zad.f1 (key:Nat) (o:Orc) {p:Prop} (h:p) (q:Zad α):Zad α:=.fact key [o] [p] (.cons h .nil) q
abbrev Zad.ix (key:Nat) (row:β→List IV) (l:List β) (n:Int) (k:β→Zad α):Zad α:=
  Zad.b1 key (ze l n) (fun e=>.r (row e)) (fun e h=>zfj row h) k
abbrev Zad.ln (key:Nat) (row:β→List IV) (l:List β) (q:Zad α):Zad α:=Zad.f1 key (.n (l.length:Int)) (zfi row l) q
abbrev Zad.call {C:Ctx} {f:Nat} {ivs:List IV} {x:Option β} {iv:β→IV} (key:Nat) (t:∀ r,x=some r→APure C f ivs (iv r)) (k:β→Zad α):Zad α:=
  Zad.b1 key x (fun r=>.v (iv r)) t k
abbrev Spec.e {β:Type} (ks:List Nat) (ov:β→List (Nat×AV)) (hs:List Nat) (nx:Nat):Spec β:=⟨ks,ov,hs,fun _=>[],nx,fun _=>.nil,fun _=>Option.none⟩
end
def zfA (P:Prop) (t:Tree):List Prop→Tree
  | []=>t
  | p::r=>.eq Prop p P (zfA P t r)
theorem zbz {P:Prop} (hP:P) {t:Tree}:∀ {l:List Prop},(zfA P t l).Ok→t.Ok∧AllP l
  | [],h=>⟨h,.nil⟩
  | p::r,h=>by
    obtain ⟨rfl,h2⟩:=h
    obtain ⟨h3,h4⟩:=zbz hP h2
    exact ⟨h3,.cons hP h4⟩
def zmh (id sz len:Nat) (all rows:List (List IV)) (ks:List Nat) (rowsV:List (List AV)) (hrows:all.map (fun r=>r.map AV.imm)=rowsV) (hD:(all.drop 0).take len=rows):WStep where
  to st:=⟨KR id rows st.env,ZX id rows ks st.heap,st.next⟩
  T st t:=.eq (Option Zaf) (za st.heap id) (some (.rows sz rowsV)) (zfA (0=0∧len=len) t (KN id 0 len st.env++KO id 0 len ks st.heap))
  ok st t h:=by
    obtain ⟨h1,h2⟩:=h
    obtain ⟨h3,h4⟩:=zbz ⟨rfl,rfl⟩ h2
    exact ⟨h3,za3 id sz 0 len all rows ks rowsV h1 hrows hD h4,Nat.le_refl _⟩
abbrev vY {α:Type} (id sz:Nat) (ks:List Nat) (f:α→List IV) (l:List α):WStep:=zmh id sz l.length (l.map f) (l.map f) ks (zb f l) (QX f l) (zg6 f l)
def zcu (id sz:Nat) (l m:List (List AV)) (hle:RowsLe l m):WStep where
  to st:=⟨st.env,zj st.heap id (.rows sz m),st.next⟩
  T st t:=.eq (Option Zaf) (za st.heap id) (some (.rows sz l)) t
  ok st t h:=⟨h.2,zfr id sz l m h.1 hle,Nat.le_refl _⟩
def zio (t0 sz:Nat):WStep where
  to st:={env:=zj st.env t0 (.Zas st.next []),heap:=zJ st.heap st.next (.tip sz 0),next:=st.next+1}
  T st t:=.eq (Option AV) (za st.env t0) (some .nil) t
  ok st t h:=⟨h.2,ze2 h.1,Nat.le_succ _⟩
def Wr (id sz' r j:Nat):WStep where
  to st:=match za st.heap id with
    | some (.rows sz rows)=>⟨st.env,zj (zJ st.heap st.next (.tip sz' 0)) id (.rows sz (rows.set r ((rows.getD r []).set j (.Zas st.next [])))),st.next+1⟩
    | _=>st
  T st t:=match za st.heap id with
    | some (.rows sz rows)=>match rows[r]? with
      | some row=>.eq (Option AV) row[j]? (some .nil) t
      | none=>.bad 4074
    | _=>.bad 4075
  ok st t h:=by
    split at h
    · rename_i sz rows ho
      split at h
      · rename_i row hr
        obtain ⟨h1,h2⟩:=h
        simp only [ho]
        have:rows.getD r []=row:=by rw [List.getD_eq_getElem?_getD,hr];rfl
        rw [this]
        exact ⟨h2,zdN id sz sz' rows r j row ho hr h1,Nat.le_succ _⟩
      · exact h.elim
    · exact h.elim
def zkf {α:Type} (t id r j i sz':Nat) (f:α→List IV) (l:List α):WStep where
  to st:=match za st.heap id with
    | some (.rows sz rows)=>⟨st.env,zj (zj (zJ st.heap st.next (.tip sz' l.length)) i .dead) id (.rows sz (rows.set r ((rows.getD r []).set j (.Zas st.next (l.map f))))),st.next+1⟩
    | _=>st
  T st tr:=match za st.env t with
    | some (.ptr id' a0 b0)=>.eq Nat id' id (match za st.heap id with
      | some (.rows sz rows)=>match rows[r]? with
        | some row=>.eq (Option AV) row[j]? (some (.Zal i 0 l.length)) (.eq (Option Zaf) (za st.heap i) (some (.rows sz' (zb f l))) (match Nat.beq i id with
          | true=>.bad 4098
          | false=>tr))
        | none=>.bad 4100
      | _=>.bad 4101)
    | _=>.bad 4102
  ok st tr h:=by
    split at h
    · rename_i id' a0 b0 ht
      obtain ⟨h0,h⟩:=h
      subst h0
      split at h
      · rename_i sz rows ho
        split at h
        · rename_i row hr
          obtain ⟨h1,h2,h3⟩:=h
          split at h3
          · exact h3.elim
          · rename_i hne
            simp only [ho]
            have:rows.getD r []=row:=by rw [List.getD_eq_getElem?_getD,hr];rfl
            rw [this]
            have hw:=zdO (st:=st) t a0 b0 id' sz i sz' rows r j row (l.map f) ht ho hr (by rw [h1,List.length_map]) (by rw [h2,QX]) (fun e=>by subst e;rw [Nat.beq_refl] at hne;cases hne)
            rw [List.length_map] at hw
            exact ⟨h3,hw,Nat.le_succ _⟩
        · exact h.elim
      · exact h.elim
    · exact h.elim
def zkg {α:Type} (t i sz':Nat) (f:α→List IV) (l:List α):WStep where
  to st:=⟨zj st.env t (.Zas st.next (l.map f)),zj (zJ st.heap st.next (.tip sz' l.length)) i .dead,st.next+1⟩
  T st tr:=.eq (Option AV) (za st.env t) (some (.Zal i 0 l.length)) (.eq (Option Zaf) (za st.heap i) (some (.rows sz' (zb f l))) tr)
  ok st tr h:=by
    obtain ⟨h1,h2,h3⟩:=h
    have hw:=zdP (st:=st) t i sz' (l.map f) (by rw [h1,List.length_map]) (by rw [h2,QX])
    rw [List.length_map] at hw
    exact ⟨h3,hw,Nat.le_succ _⟩
def eqN (a b:Nat):Option (PLift (a=b)):=if h:a=b then some ⟨h⟩ else none
theorem Zad.run_of {α:Type} {p:Zad α} {d:Option α} {r:α} (h:d=some r) (e:d=p.run):p.run=some r:=e ▸ h
end
def zkh (P n:Nat):WStep where
  to st:=⟨st.env,zj st.heap P (.rows 1 (qi zy (List.replicate n [])))++xA (List.replicate n []),2000000⟩
  T st t:=.eq (Option Zaf) (za st.heap P) (some (.rows 1 (List.replicate n [.nil]))) (match Nat.ble st.next qI with
    | true=>t
    | false=>.bad 5015)
  ok st t h:=by
    obtain ⟨h1,h2⟩:=h
    split at h2
    · rename_i hn
      have hn:=Nat.le_of_ble_eq_true hn
      have hm:qI=999999:=rfl
      exact ⟨h2,zdS P n h1 hn,by show st.next≤2000000;omega⟩
    · exact h2.elim
def wA (Ls:List (List Int)) (n:Nat) (to i:Int):Option (List (List Int)):=
  if 0≤to∧to < n∧to < 1000000 then match Ls[to.toNat]? with
    | some L=>if (L.length+1)*8≤140737488355328 then some (Ls.set to.toNat (L++[i])) else none
    | none=>none
  else none
def yp:List AItem:=[⟨some 65,.mov (.t 8),none⟩,⟨some 66,.fld 1 (.t 13),none⟩,⟨some 67,.load false 1 (.t 66),none⟩,⟨some 68,.mov (.t 8),none⟩,⟨some 69,.fld 1 (.t 13),none⟩,⟨some 70,.load false 1 (.t 69),none⟩,
  ⟨some 71,.idx 1 (.t 68) (.t 70),none⟩,⟨some 72,.load false 1 (.t 71),none⟩,⟨some 73,.mov (.t 10),none⟩,⟨some 74,.bslice 1 [.imm (.int .i64 0)] 1 [(0,.t 73)],none⟩,⟨some 75,.app 1 8 (.t 72) (.t 74),none⟩,⟨some 76,.idx 1 (.t 65) (.t 67),none⟩,⟨none,.store 1 (.t 76) (.t 75),none⟩]
def Zr:List Nat:=[0,0,2,0,0,16,56,120,0,256,1016,2047,4095]
def zfB (ks:List Nat):ZaG:=.region true Zr yp (some ks)
def Zs (st:St) (ks:List Nat) (P:Nat) (Ls:List (List Int)):St:=⟨qw (ks.filter fun k=>Nat.blt k 65) st.env,zj (kh st.heap) P (.rows 1 (qi zy Ls))++xA Ls,st.next+13⟩
theorem jT {C:CtxY} {ord:List Nat} {K:St→Prop} {dst:Option Nat} {op:AOp} {rest:List AItem} {j:Nat} {W R:List (Nat×Nat)} {st:St} (r:AV) (ups:List (Nat×Zaf)) (hc:(match op with | .call _ _=>true | _=>false)=false)
    (he:evalOp op (zd st.env) (za st.heap) st.next=some (r,ups)) (hk:wm ord j W R (z1 ups) (zg op (zd st.env))=true)
    (hn:evd C ord K rest (j+1) (qT j (z1 ups) W) (qT j (zg op (zd st.env)) R) (St.after st dst r ups)):evd C ord K (⟨dst,op,none⟩::rest) j W R st:=by
  rw [ze6,ze7]
  have e:∀ KD,dOp C KD st op=qk KD (zg op (zd st.env)) (evalOp op (zd st.env) (za st.heap) st.next):=fun KD=>by
    cases op<;>first | rfl | exact Bool.noConfusion hc
  rw [e,he]
  exact ⟨hk,hn⟩
theorem Zc (ks:List Nat):∀ (env:List (Nat×AV)) (t:Nat),za (qw ks env) t=if ks.contains t then za env t else none
  | [],t=>by simp [qw,za]
  | (k,v)::r,t=>by
    have ih:=Zc ks r t
    simp only [qw,List.filter_cons] at ih ⊢
    by_cases hk:ks.contains k=true
    · rw [if_pos hk]
      simp only [za]
      by_cases e:k=t
      · subst e;rw [if_pos rfl,if_pos rfl,if_pos hk]
      · rw [if_neg e,if_neg e];exact ih
    · rw [if_neg hk,ih]
      by_cases e:k=t
      · subst e;rw [if_neg hk,if_neg hk]
      · simp only [za];rw [if_neg e]
set_option maxHeartbeats 1000000 in
theorem zdW {C:CtxY} {nt:Fr} {st:St} {P n M:Nat} {i to:Int} {a:AV} {Ls Ls':List (List Int)} {ks:List Nat} {K:Exit→St→Prop}
    (e8:za st.env 8=some (.Zal P 0 n)) (e13:za st.env 13=some (.ptr M 0 0)) (e10:za st.env 10=some (vI i)) (hN:NestH st.heap P Ls) (hM:za st.heap M=some (.rows 2 [[a,vI to]]))
    (hlt:∀ j o,za st.heap j=some o→j < st.next) (ha:wA Ls n to i=some Ls') (h:K .normal (Zs st ks P Ls')):awp C nt (zfB ks) K st:=by
  obtain ⟨env,heap,N⟩:=st
  simp only at e8 e13 e10 hN hM hlt
  unfold wA at ha
  split at ha
  case isFalse=>cases ha
  rename_i hto
  obtain ⟨t0,t1,t2⟩:=hto
  split at ha
  case h_2=>cases ha
  rename_i L hL
  split at ha
  case isFalse=>cases ha
  rename_i hsz
  cases ha
  obtain ⟨k,hk⟩:∃ k:Nat,to=(k:Int):=⟨to.toNat,by omega⟩
  subst hk
  simp only [Int.toNat_natCast] at hL h
  have hk6:k < 1000000:=by omega
  have hkn:k < n:=by omega
  have hq:=hN.tip hL hk6
  have hnb:zy+k < 2000000:=by simp only [zy];omega
  have hrow:(qi zy Ls)[k]?=some [.Zas (zy+k) (L.map zc)]:=by rw [yn,hL,Option.map_some,xO hnb]
  have hPN:=hlt _ _ hN.obj
  have hMN:=hlt _ _ hM
  have hqN:=hlt _ _ hq
  have hPM:P≠M:=fun e=>by have:=hN.obj;rw [e,hM] at this;simp at this
  have hqP:zy+k≠P:=fun e=>by have:=hN.obj;rw [←e,hq] at this;cases this
  have hqM:zy+k≠M:=fun e=>by rw [e] at hq;rw [hM] at hq;cases hq
  refine Xu (Zs ⟨env,heap,N⟩ ks P (Ls.set k (L++[i]))) (by simp [Zs]) h ?_
  refine zg2 ?_
  have lk:X3 yp=false:=rfl
  rw [lk]
  show evd C _ _ yp 0 [] [] _
  unfold yp
  refine jT (.Zal P 0 n) [] rfl (by simp [evalOp,zd,e8]) rfl ?_
  refine jT (.ptr M 0 1) [] rfl (by simp [St.after,St.put,zC,evalOp,zd,zo,e13,hM]) rfl ?_
  refine jT (vI (k:Int)) [] rfl (by simp [St.after,St.put,zC,evalOp,zd,zo,hM]) rfl ?_
  refine jT (.Zal P 0 n) [] rfl (by simp [St.after,St.put,zC,evalOp,zd,zo,e8]) rfl ?_
  refine jT (.ptr M 0 1) [] rfl (by simp [St.after,St.put,zC,evalOp,zd,zo,e13,hM]) rfl ?_
  refine jT (vI (k:Int)) [] rfl (by simp [St.after,St.put,zC,evalOp,zd,zo,hM]) rfl ?_
  refine jT (.ptr P k 0) [] rfl (by simp [St.after,St.put,zC,evalOp,zd,zo,hN.obj,vI,hkn]) rfl ?_
  refine jT (.Zas (zy+k) (L.map zc)) [] rfl (by simp [St.after,St.put,zC,evalOp,zd,zo,hN.obj,hrow]) rfl ?_
  refine jT (vI i) [] rfl (by simp [St.after,St.put,zC,evalOp,zd,zo,e10]) rfl ?_
  have n1:N+9≠P:=by omega
  have n2:N+9≠M:=by omega
  have n3:N+9≠zy+k:=by omega
  have ev8:∀ x,za (zj env 65 x) 8=some (.Zal P 0 n):=fun x=>by rw [zo,if_neg (by omega)];exact e8
  refine jT (.Zal (N+9) 0 1) [(N+9,.rows 1 [[vI i]])] rfl (by simp [St.after,St.put,zC,evalOp,zd,zo,mapO,cellsOf,vI,jK,qQ]) ?_ ?_
  · simp [wm,z1,zg,xF,qT,zW,qK,zd,St.after,St.put,zC,zo,e8,e13,e10,vI,Ne.symm n1,Ne.symm n2]
  refine jT (.Zas (zy+k) (L.map zc++[zc i])) [(zy+k,.tip 1 ((L.map zc).length+1))] rfl ?_ ?_ ?_
  · simp [St.after,St.put,zC,evalOp,zd,zo,z6,Xh,xB,hq,n3,mapO,jk,vI,zc,hsz]
  · simp [wm,z1,zg,xF,qT,zW,qK,zd,St.after,St.put,zC,zo,e8,e13,e10,vI,bef,Zr,Ne.symm hqP,Ne.symm hqM,n3]
  refine jT (.ptr P k 0) [] rfl ?_ ?_ ?_
  · simp [St.after,St.put,zC,evalOp,zd,zo,z6,hqP,n1,hN.obj,vI,hkn]
  · simp [wm,z1,zg,xF,qT,zW,qK,zd,St.after,St.put,zC,zo,e8,e13,e10,vI,bef,Zr]
  refine jT .undef [(P,.rows 1 ((qi zy Ls).set k [.Zas (zy+k) (L.map zc++[zc i])]))] rfl ?_ ?_ ?_
  · simp [St.after,St.put,zC,evalOp,zd,zo,z6,hqP,n1,hN.obj,hrow,cellsOf,qQ]
  · simp [wm,z1,zg,xF,qT,zW,qK,zd,St.after,St.put,zC,zo,e8,e13,e10,vI,bef,Zr]
  show Weak ⟨qw ks (zj (zj (zj (zj (zj (zj (zj (zj (zj (zj (zj (zj env 65 _) 66 _) 67 _) 68 _) 69 _) 70 _) 71 _) 72 _) 73 _) 74 _) 75 _) 76 _),zJ (zJ (zJ heap (N+9) _) (zy+k) _) P _,N+13⟩ (Zs ⟨env,heap,N⟩ ks P (Ls.set k (L++[i])))
  refine zfv (fun t x hx => ?_) fun j o hj => ?_
  · rw [Zc] at hx
    split at hx
    · rename_i hc
      rw [List.contains_iff_mem,List.mem_filter] at hc
      have ht:t < 65:=by simpa [Nat.blt_eq] using hc.2
      rw [Zc,if_pos (by simpa using hc.1)]
      simp only [zo]
      rw [if_neg (by omega),if_neg (by omega),if_neg (by omega),if_neg (by omega),if_neg (by omega),if_neg (by omega),if_neg (by omega),if_neg (by omega),if_neg (by omega),if_neg (by omega),if_neg (by omega),if_neg (by omega)]
      exact hx
    · cases hx
  have hset:(qi zy Ls).set k [.Zas (zy+k) (L.map zc++[zc i])]=qi zy (Ls.set k (L++[i])):=by
    rw [←Yc Ls zy k (L++[i]),xO hnb];simp
  simp only [Zs] at hj
  rw [wU,zo] at hj
  simp only [z6]
  by_cases hPj:P=j
  · rw [if_pos hPj] at hj
    rw [if_pos hPj,hset];exact hj
  · rw [if_neg hPj] at hj ⊢
    have keep:∀ o',za heap j=some o'→j≠zy+k→(if zy+k=j then some (Zaf.tip 1 ((L.map zc).length+1)) else if N+9=j then some (.rows 1 [[vI i]]) else za heap j)=some o':=fun o' h1 h2=>by
      rw [if_neg (fun e=>h2 e.symm),if_neg (fun e=>by have:=hlt _ _ h1;omega)];exact h1
    cases e:za (kh heap) j with
    | some o'=>
      rw [e,Option.some_or] at hj
      cases hj
      have:=ZZ hN.out e
      refine keep _ (by rw [yo,e];rfl) (fun e2 => ?_)
      simp only [zy,qI] at this e2 hnb
      omega
    | none=>
      rw [e,Option.none_or,wz] at hj
      split at hj
      · rename_i ej
        cases hj
        refine keep _ ?_ (by rw [ej];simp only [qI,zy];omega)
        rw [yo,e,hN.tail,Option.none_or,wz,if_pos ej]
      · split at hj
        · rename_i ej
          by_cases ejk:j=zy+k
          · subst ejk
            rw [show zy+k - zy=k by omega,List.getElem?_set_self (List.getElem?_eq_some_iff.1 hL).1] at hj
            simp only [Option.map_some,Option.some.injEq] at hj
            subst hj
            rw [if_pos rfl];simp
          · rw [List.getElem?_set_ne (by omega)] at hj
            obtain ⟨L2,hL2,rfl⟩:=Option.map_eq_some_iff.1 hj
            refine keep _ ?_ ejk
            have:=hN.tip hL2 (by have:=ej.2;simp only [zy];omega)
            rw [show zy+(j - zy)=j by omega] at this
            exact this
        · cases hj
theorem zha {C:CtxY} {nt:Fr} {c:ZaG} {K:Exit→St→Prop} {st:St} (h:∀ g a w,Rel C nt g st a w→awp C nt c K st):awp C nt c K st:=fun code hc g a w R I=>h g a w R code hc g a w R I
def zki (P n M:Nat) (i to:Int) (a:AV) (Ls:List (List Int)):MStep (List (List Int)) where
  x:=wA Ls n to i
  T c st k:=match c with
    | .region true o items (some ks)=>.eq (List Nat) o Zr (.eq (List AItem) items yp (.eq (Option AV) (za st.env 8) (some (.Zal P 0 n)) (.eq (Option AV) (za st.env 13) (some (.ptr M 0 0)) (.eq (Option AV) (za st.env 10) (some (vI i))
      (.eq (Option Zaf) (za st.heap P) (some (.rows 1 (qi zy Ls))) (.eq (Option Zaf) (za st.heap M) (some (.rows 2 [[a,vI to]])) (.eq (List (Nat×Zaf)) (kM st.heap) (xA Ls)
      (match vp st.heap with
      | true=>.all (List (List Int)) fun b=>k b (Zs st ks P b)
      | false=>.bad 5110))))))))
    | _=>.bad 5111
  ok C nt c st k K b hb hT hK:=by
    split at hT
    · rename_i o items ks
      obtain ⟨rfl,rfl,h8,h13,h10,hP,hM,ht,h1⟩:=hT
      split at h1
      · rename_i ho
        refine zha fun g a' w R => ?_
        exact zdW h8 h13 h10 ⟨hP,ht,ho⟩ hM (fun j o hj=>R.heap.key j o hj) hb (hK _ (h1 b))
      · exact h1.elim
    · exact hT.elim
end Go.Proofs.YtlpmnmbebkdocaaGreatDoor
namespace Go.Proofs.YtlpmnmbebkdocaaGreatDoor
open Go.RowKit
set_option linter.unusedSimpArgs false
set_option linter.unusedVariables false
set_option maxRecDepth 100000
section
structure Ratio where
  num:Int
  den:Int
  deriving Inhabited,DecidableEq
def Ratio.row (x:Ratio):List IV:=[.int .i64 x.num,.int .i64 x.den]
def Ratio.iv (x:Ratio):IV:=.agg x.row
structure ZaD where
  name:ByteArray
  kind:Int
  base:Int
  factor:Ratio
  deriving Inhabited,DecidableEq
def ZaD.row (x:ZaD):List IV:=[.str x.name,.int .i64 x.kind,.int .i64 x.base,.int .i64 x.factor.num,.int .i64 x.factor.den]
def ZaD.iv (x:ZaD):IV:=.agg x.row
structure Zaq where
  kind:Int
  Zap:Int
  give:Int
  to:Int
  unit:Int
  lot:Ratio
  deriving Inhabited,DecidableEq
def Zaq.row (x:Zaq):List IV:=[.int .i64 x.kind,.int .i64 x.Zap,.int .i64 x.give,.int .i64 x.to,.int .i64 x.unit,.int .i64 x.lot.num,.int .i64 x.lot.den]
def Zaq.iv (x:Zaq):IV:=.agg x.row
structure CondT where
  clause:Int
  is:Int
  deriving Inhabited,DecidableEq
def CondT.row (x:CondT):List IV:=[.int .i64 x.clause,.int .i64 x.is]
def CondT.iv (x:CondT):IV:=.agg x.row
structure Zan where
  kind:Int
  Zap:Int
  act:Int
  need:Int
  start:List CondT
  after:Int
  Zay:Int
  ZaE:Bool
  final:Bool
  pause:Int
  ZaC:Int
  value:Ratio
  unit:Int
  to:Int
  ZaB:Bool
  deriving Inhabited,DecidableEq
def Zan.row (x:Zan):List IV:=[.int .i64 x.kind,.int .i64 x.Zap,.int .i64 x.act,.int .i64 x.need,.slice (List.map CondT.row x.start),.int .i64 x.after,.int .i64 x.Zay,.bool x.ZaE,.bool x.final,.int .i64 x.pause,.int .i64 x.ZaC,.int .i64 x.value.num,.int .i64 x.value.den,.int .i64 x.unit,.int .i64 x.to,.bool x.ZaB]
def Zan.iv (x:Zan):IV:=.agg x.row
structure Zab where
  Zao:Int
  Zae:List Int
  Zav:List ZaD
  Zai:List Zaq
  Zag:List Zan
  Zat:Int
  off:List Int
  deriving Inhabited,DecidableEq
def Zab.row (x:Zab):List IV:=[.int .i64 x.Zao,.slice (List.map zc x.Zae),.slice (List.map ZaD.row x.Zav),.slice (List.map Zaq.row x.Zai),.slice (List.map Zan.row x.Zag),.int .i64 x.Zat,.slice (List.map zc x.off)]
def Zab.iv (x:Zab):IV:=.agg x.row
structure zw where
  Zam:Int
  left:Int
  got:Int
  Zau:Int
  ZaA:Bool
  deriving Inhabited,DecidableEq
def zw.row (x:zw):List IV:=[.int .i64 x.Zam,.int .i64 x.left,.int .i64 x.got,.int .i64 x.Zau,.bool x.ZaA]
def zw.iv (x:zw):IV:=.agg x.row
structure Zac where
  day:Int
  Zae:List Int
  used:List Bool
  Zaj:List zw
  deriving Inhabited,DecidableEq
def Zac.row (x:Zac):List IV:=[.int .i64 x.day,.slice (List.map zc x.Zae),.slice (List.map zh x.used),.slice (List.map zw.row x.Zaj)]
def Zac.iv (x:Zac):IV:=.agg x.row
structure Zah where
  state:Zac
  own:Bool
  deriving Inhabited,DecidableEq
def Zah.row (x:Zah):List IV:=[.int .i64 x.state.day,.slice (List.map zc x.state.Zae),.slice (List.map zh x.state.used),.slice (List.map zw.row x.state.Zaj),.bool x.own]
def Zah.iv (x:Zah):IV:=.agg x.row
structure Zar where
  step:Int
  to:Int
  deriving Inhabited,DecidableEq
def Zar.row (x:Zar):List IV:=[.int .i64 x.step,.int .i64 x.to]
def Zar.iv (x:Zar):IV:=.agg x.row
structure ZaF where
  Zaa:Int
  Zaw:List Zah
  moves:List (List Zar)
  deriving Inhabited,DecidableEq
def ZaF.row (x:ZaF):List IV:=[.int .i64 x.Zaa,.slice (List.map Zah.row x.Zaw),.slice (List.map (qE Zar.row) x.moves)]
def ZaF.iv (x:ZaF):IV:=.agg x.row
structure AdviceT where
  safe:Bool
  move:Int
  wait:Int
  deriving Inhabited,DecidableEq
def AdviceT.row (x:AdviceT):List IV:=[.bool x.safe,.int .i64 x.move,.int .i64 x.wait]
def AdviceT.iv (x:AdviceT):IV:=.agg x.row
structure Zak where
  kind:Int
  Zaa:Int
  clause:Int
  other:Int
  Zaz:List Int
  deriving Inhabited,DecidableEq
def Zak.row (x:Zak):List IV:=[.int .i64 x.kind,.int .i64 x.Zaa,.int .i64 x.clause,.int .i64 x.other,.slice (List.map zc x.Zaz)]
def Zak.iv (x:Zak):IV:=.agg x.row
structure Zax where
  from_:Int
  step:Int
  deriving Inhabited,DecidableEq
def Zax.row (x:Zax):List IV:=[.int .i64 x.from_,.int .i64 x.step]
def Zax.iv (x:Zax):IV:=.agg x.row
attribute [simp] Ratio.row ZaD.row Zaq.row CondT.row Zan.row Zab.row zw.row Zac.row Zah.row Zar.row ZaF.row AdviceT.row Zak.row Zax.row
end
end Go.Proofs.YtlpmnmbebkdocaaGreatDoor
namespace Go.Proofs.YtlpmnmbebkdocaaGreatDoor
open Go.RowKit
def xP : String := "internal/strconv.uint64pow10"
noncomputable def zcv:Tabs where
  p w:=Lib.TabIs Tryz.prog w xP .u64 Lib.pow10Tab
  n:=(Tryz.prog.globalNamed xP).getD 0+1
  ok w w' h hp:=by
    unfold Lib.TabIs World.var? at *
    cases hg:Tryz.prog.globalNamed xP with
    | none=>rw [hg] at hp;cases hp
    | some g=>
      rw [hg] at hp
      simp only [ZaI] at hp ⊢
      have:=h g (by rw [hg];simp)
      rw [this];exact hp
theorem zcw {w:World} (h:zcv.p w):zcv.n≤w.heap.size:=by
  have h':w.var? Tryz.prog xP=some (Lib.pow10Tab.map fun z=>Value.int .u64 z).toArray:=h
  unfold World.var? at h'
  show (Tryz.prog.globalNamed xP).getD 0+1≤_
  cases hg:Tryz.prog.globalNamed xP with
  | none=>rw [hg] at h';cases h'
  | some g=>
    rw [hg] at h'
    simp only [ZaI] at h'
    split at h'
    · rename_i h2
      have:=(Array.getElem?_eq_some_iff.1 h2).1
      simp only [Option.getD_some];omega
    · cases h'
end Go.Proofs.YtlpmnmbebkdocaaGreatDoor
namespace Go.Proofs.YtlpmnmbebkdocaaGreatDoor
open Go.RowKit
set_option linter.unusedSimpArgs false
set_option linter.unusedVariables false
set_option maxRecDepth 100000
noncomputable def C0:Ctx:=⟨Tryz.prog,[0,0,0,0,0,0,0,0,15,0,0,0,0,18,0,91,0,0,0,41,42,0,0,0,0,49,0,0,0,45,46,47,48,50,43,126,127,128,101,0,81,82,83,84,85,86,87,88,0,0,0,90,135,136,124,125,149,143,144,145,61,99,134,98,100,103,102,137,105,44,60,104,0,30,53,0,34,94,95,131,93,77,121,123,0,0,0,0,0,0,0,0,0,27,40,0,0,13,23,132,17,22,59,62,89,138,97,133,142,152,159,155,156,160,157,154,153,158,161,162,163,129,130,147,148,146,122,0,0,0,0,0,0,65,110,111,109,112,31,107,108,24,26,0,0,0,0,0,0,0,0,0,0,54,20,56,0,55,96,57,58,0,0,0,0,0,0,25,0,0,0,0,0,0,0,0,92,51,39,80,21,19,52,0,3,4,11,38,37,16,12,14,29,68,66,67,114,69,116,70,117,71,76,75,120,118,119,140,150,151,113,115,139,141,0,0,0,0,0,0,0,0,0,0,0,0,0,0,0,0,0,0,0,0,0,0,0,0,0,0,0,0,0,0,0,0,0,0,0,0,0,0,0,0,0,0,0,0,0,0,0,0,0,0,0,0,0,79,0,0,0,0,0,0,0,0,0,0,0,0,0,0,0,0,0,0,0,0,0,0,0,0,0,0,0,0,0,0,0,0,0,0,0,0,0,0,0,0,10,8,7,5,9,6,36,28,63,64,35,32,106,78,33,73,72,74],zcv,[]⟩
def zhb:List AItem:=[⟨some 4,.mov (.c (.nil)),none⟩]
def zhc:List AItem:=[⟨some 5,.mov (.c (.nil)),none⟩]
def zhd:List AItem:=[⟨some 6,.mov (.t 1),none⟩,
  ⟨some 7,.bin .neq (.t 6) (.c (.imm (.int .i64 0))),none⟩]
def Vr:List AItem:=[⟨some 8,.mov (.t 5),none⟩,
  ⟨some 9,.mov (.t 0),none⟩,
  ⟨some 10,.mov (.t 1),none⟩,
  ⟨some 11,.look false (.imm (.agg [.int .i64 0,.int .i64 0])) false (.t 9) (.t 10),none⟩,
  ⟨some 12,.cut false 1 1 (.t 11),none⟩,
  ⟨some 13,.bslice 1 [.imm (.int .i64 0)] 1 [(0,.t 12)],none⟩,
  ⟨some 14,.app 1 8 (.t 8) (.t 13),none⟩,
  ⟨some 5,.mov (.t 14),none⟩]
def zhe:List AItem:=[⟨some 15,.mov (.t 0),none⟩,
  ⟨some 16,.mov (.t 1),none⟩,
  ⟨some 17,.look false (.imm (.agg [.int .i64 0,.int .i64 0])) false (.t 15) (.t 16),none⟩,
  ⟨some 18,.cut false 0 1 (.t 17),none⟩,
  ⟨some 1,.mov (.t 18),none⟩]
def Vs:List AItem:=[⟨some 19,.mov (.t 5),none⟩,
  ⟨some 20,.call (.c (.func 213 [] [])) [.t 19],none⟩]
def zhf:List AItem:=[⟨some 21,.mov (.t 5),none⟩,
  ⟨some 4,.mov (.t 21),none⟩]
def Y4:AFun:=⟨22,[.tmp 4],(
.seq (.region false [] zhb (some [0,1])) (
.seq (.region false [] zhc (some [0,1,5])) (
.seq (.block 0 (.loop (.seq (.seq (.region false [] zhd (some [0,1,5,7])) (
.cond (.t 7) (.skip) (.exit 0))) (
.block 1 (.seq (.region false [] Vr (some [0,1,5])) (
.region false [] zhe (some [0,1,5]))))))) (
.seq (.region false [] Vs (some [5])) (
.seq (.region false [] zhf (some [4])) (
.ret))))))⟩
theorem zkj:qt C0 206=some Y4.erase:=by kernel_rfl
end Go.Proofs.YtlpmnmbebkdocaaGreatDoor
namespace Go.Proofs.YtlpmnmbebkdocaaGreatDoor
open Go.RowKit Go.ChangeShapes Go.WideShapes
set_option linter.unusedSimpArgs false
set_option linter.unusedVariables false
section
inductive CTy where
  | bool
  | int (k:IntKind)
  | str
  | slice (by_:Nat) (row:List CTy)
inductive HasC:CTy→IV→Prop where
  | bool (b:Bool):HasC .bool (.bool b)
  | int (k:IntKind) (n:Int) (h:k.min≤n∧n≤k.max):HasC (.int k) (.int k n)
  | str (s:ByteArray) (h:s.size≤reachBytes):HasC .str (.str s)
  | slice (by_:Nat) (tys:List CTy) (rows:List (List IV)) (hl:rows.length*by_≤reachBytes) (hr:∀ row∈rows,row.length=tys.length)
      (hc:∀ row∈rows,∀ (i:Nat) (t:CTy) (c:IV),tys[i]?=some t→row[i]?=some c→HasC t c):HasC (.slice by_ tys) (.slice rows)
def HasCs (tys:List CTy) (row:List IV):Prop:=row.length=tys.length∧∀ (i:Nat) (t:CTy) (c:IV),tys[i]?=some t→row[i]?=some c→HasC t c
def Zt (P:Program) (f:TypeId→Option (List CTy)):Nat→List Field→Option (List CTy)
  | _,[]=>some []
  | off,x::r=>if x.offset=off then match f x.type with
      | some a=>if a.length=P.cellsOf x.type then match Zt P f (off+a.length) r with
          | some b=>some (a++b)
          | none=>none
        else none
      | none=>none
    else none
def XA (P:Program):Nat→TypeId→Option (List CTy)
  | 0,_=>none
  | n+1,t=>match P.underlying t with
    | some .bool=>some [.bool]
    | some (.int k)=>some [.int k]
    | some .string=>some [.str]
    | some (.slice e)=>match XA P n e with
      | some r=>if r.length=P.cellsOf e∧0 < r.length then some [.slice (P.bytesOf e) r] else none
      | none=>none
    | some (.struct fs)=>match Zt P (XA P n) 0 fs.toList with
      | some r=>if r.length=P.cellsOf t then some r else none
      | none=>none
    | _=>none
def zOf (w:World) (b:Nat):Nat:=match w.heap[b]? with
  | some (.cells c _ _)=>c.size
  | _=>0
theorem ziq {w:World} {b:Nat} (h:0 < zOf w b):b < w.heap.size:=by
  unfold zOf at h
  split at h
  · rename_i c t f e;exact (Array.getElem?_eq_some_iff.1 e).1
  · omega
theorem zdX {w:World} {b off:Nat} {s:Option Nat} {v:Value} (h:w.cell? ⟨b,off,s⟩=some v):s=none∧off < zOf w b:=by
  unfold World.cell? at h
  unfold zOf
  simp only at h
  split at h
  · rename_i c t f e
    rw [e]
    cases s with
    | some _=>simp at h
    | none=>simp at h;exact ⟨rfl,(Array.getElem?_eq_some_iff.1 h).1⟩
  · cases h
theorem Vt {α β:Type} {f:α→Option β}:∀ {l:List α} {ys:List β},l.mapM f=some ys→ys.length=l.length∧∀ (i:Nat) (x:α),l[i]?=some x→∃ y,ys[i]?=some y∧f x=some y
  | [],ys,h=>by
    simp at h;subst h;exact ⟨rfl,fun i x hx=>by simp at hx⟩
  | a::l,ys,h=>by
    rw [List.mapM_cons] at h
    simp only [Option.bind_eq_bind,Option.bind_eq_some_iff,Option.pure_def,Option.some.injEq] at h
    obtain ⟨y,hy,r,hr,rfl⟩:=h
    obtain ⟨h1,h2⟩:=Vt hr
    refine ⟨by simp [h1],fun i x hx => ?_⟩
    cases i with
    | zero=>simp at hx;subst hx;exact ⟨y,rfl,hy⟩
    | succ i=>exact h2 i x (by simpa using hx)
theorem RCs.app {Z:Nat→Nat} {w:World} {a b:List IV} {x y:List Value} (h1:RCs Z w a x) (h2:RCs Z w b y):RCs Z w (a++b) (x++y):=by
  refine ⟨by simp [h1.1,h2.1],fun j c u hc hu => ?_⟩
  rcases Nat.lt_or_ge j a.length with h | h
  · rw [List.getElem?_append_left h] at hc
    rw [List.getElem?_append_left (by rw [←h1.1];exact h)] at hu
    exact h1.2 j c u hc hu
  · rw [List.getElem?_append_right h] at hc
    rw [List.getElem?_append_right (by rw [←h1.1];exact h),←h1.1] at hu
    exact h2.2 _ c u hc hu
theorem HasCs.app {a b:List CTy} {x y:List IV} (h1:HasCs a x) (h2:HasCs b y):HasCs (a++b) (x++y):=by
  refine ⟨by simp [h1.1,h2.1],fun j c u hc hu => ?_⟩
  rcases Nat.lt_or_ge j a.length with h | h
  · rw [List.getElem?_append_left h] at hc
    rw [List.getElem?_append_left (by rw [h1.1];exact h)] at hu
    exact h1.2 j c u hc hu
  · rw [List.getElem?_append_right h] at hc
    rw [List.getElem?_append_right (by rw [h1.1];exact h),h1.1] at hu
    exact h2.2 _ c u hc hu
theorem RCs.one {Z:Nat→Nat} {w:World} {a:IV} {x:Value} (h:RI Z w a x):RCs Z w [a] [x]:=⟨rfl,fun j c u hc hu=>by
  cases j with
  | zero=>simp at hc hu;subst hc;subst hu;exact h
  | succ j=>simp at hc⟩
theorem HasCs.one {t:CTy} {a:IV} (h:HasC t a):HasCs [t] [a]:=⟨rfl,fun j c u hc hu=>by
  cases j with
  | zero=>simp at hc hu;subst hc;subst hu;exact h
  | succ j=>simp at hc⟩
section
variable {H:Type} {enc:TypeId×Value→H} {P:Program} {w:World}
def Got (w:World) (tys:List CTy) (cs:List Value):Prop:=∃ row,RCs (zOf w) w row cs∧HasCs tys row∧∀ v∈cs,v.oneCell'=true
theorem Ws {fuel:Nat} {f:TypeId→Option (List CTy)} {cs:List Value}
    (ih:∀ t cs d ps tys,f t=some tys→DataW.trod enc P w 0 (fun _=>true) true fuel t cs=some (d,ps)→(d.weights P t).all (· ≤ reachBytes)=true→Got w tys cs) :
    ∀ (fs:List Field) (off:Nat) (xs:List (DataW H×List MemPlace)) (r:List CTy),Zt P f off fs=some r →
      (fs.mapM fun x=>DataW.trod enc P w 0 (fun _=>true) true fuel x.type ((cs.drop x.offset).take (P.cellsOf x.type)))=some xs →
      (DataW.weightsEach P (fs.map (·.type)) (xs.map (·.1))).all (· ≤ reachBytes)=true→Got w r ((cs.drop off).take r.length)
  | [],off,xs,r,h1,h2,h3=>by
    simp only [Zt,Option.some.injEq] at h1
    subst h1
    exact ⟨[],⟨by simp,fun j c u hc=>by simp at hc⟩,⟨rfl,fun j c u hc=>by simp at hc⟩,fun v hv=>by simp at hv⟩
  | x::fs,off,xs,r,h1,h2,h3=>by
    simp only [Zt] at h1
    split at h1
    case isFalse=>cases h1
    rename_i hoff
    split at h1
    case h_2=>cases h1
    rename_i a ha
    split at h1
    case isFalse=>cases h1
    rename_i hlen
    split at h1
    case h_2=>cases h1
    rename_i b hb
    cases h1
    rw [List.mapM_cons] at h2
    simp only [Option.bind_eq_bind,Option.bind_eq_some_iff,Option.pure_def,Option.some.injEq] at h2
    obtain ⟨y,hy,ys,hys,rfl⟩:=h2
    simp only [List.map_cons,DataW.weightsEach,List.all_append,Bool.and_eq_true] at h3
    obtain ⟨r1,g1,g2,g3⟩:=ih _ _ _ _ _ ha hy h3.1
    obtain ⟨r2,k1,k2,k3⟩:=Ws ih fs (off+a.length) ys b hb hys h3.2
    rw [←hlen,hoff] at g1 g3
    have hsplit:(cs.drop off).take (a++b).length=(cs.drop off).take a.length++(cs.drop (off+a.length)).take b.length:=by
      rw [List.length_append,List.take_add,List.drop_drop]
    refine ⟨r1++r2,?_,g2.app k2,?_⟩
    · rw [hsplit];exact g1.app k1
    · rw [hsplit];intro v hv
      rcases List.mem_append.1 hv with hv | hv
      · exact g3 v hv
      · exact k3 v hv
theorem Xc {e:TypeId}:∀ {l:List (DataW H)},(DataW.weightsAll P e l).all (· ≤ reachBytes)=true→∀ d∈l,(d.weights P e).all (· ≤ reachBytes)=true
  | [],_,d,hd=>by cases hd
  | x::l,h,d,hd=>by
    simp only [DataW.weightsAll,List.all_append,Bool.and_eq_true] at h
    rcases List.mem_cons.1 hd with rfl | hd
    · exact h.1
    · exact Xc h.2 d hd
theorem zab {a:Addr} {n:Nat} {cs:List Value} (h:w.cells? 0 a n=some cs):cs.length=n∧∀ j v,cs[j]?=some v→w.cell? (a.add j)=some v:=by
  unfold World.cells? at h
  rw [if_pos (Nat.zero_le _)] at h
  obtain ⟨h1,h2⟩:=Vt h
  refine ⟨by simpa using h1,fun j v hv => ?_⟩
  have hj:j < n:=by
    have:=(List.getElem?_eq_some_iff.1 hv).1
    simpa [h1] using this
  obtain ⟨y,hy,e⟩:=h2 j j (by simp [hj])
  rw [hv] at hy;cases hy;exact e
theorem zdY {a:Addr} {len cap sz by_:Nat} {r:List CTy} (hr:r.length=sz) (hpos:0 < sz) (hcap:len≤cap) (hb:len*by_≤reachBytes)
    (hel:∀ i,i < len→∃ cs,w.cells? 0 (a.add (i*sz)) sz=some cs∧Got w r cs):Got w [.slice by_ r] [.slice (some a) len cap]:=by
  have hrow:∀ i:Nat,∃ row:List IV,i < len→∃ cs,w.cells? 0 (a.add (i*sz)) sz=some cs∧RCs (zOf w) w row cs∧HasCs r row∧∀ v∈cs,v.oneCell'=true:=fun i=>by
    by_cases hi:i < len
    · obtain ⟨cs,h1,row,h2,h3,h4⟩:=hel i hi
      exact ⟨row,fun _=>⟨cs,h1,h2,h3,h4⟩⟩
    · exact ⟨[],fun h=>absurd h hi⟩
  obtain ⟨R,hR⟩:=Classical.axiomOfChoice hrow
  have hget:∀ (i:Nat) (row:List IV),((List.range len).map R)[i]?=some row→i < len∧row=R i:=fun i row h=>by
    simp only [List.getElem?_map,Option.map_eq_some_iff] at h
    obtain ⟨k,hk,rfl⟩:=h
    obtain ⟨h1,h2⟩:=List.getElem?_eq_some_iff.1 hk
    simp at h1 h2
    subst h2
    exact ⟨h1,rfl⟩
  have hmem:∀ row∈(List.range len).map R,HasCs r row:=fun row h=>by
    obtain ⟨i,hi⟩:=List.mem_iff_getElem?.1 h
    obtain ⟨h1,rfl⟩:=hget i row hi
    obtain ⟨cs,_,_,h2,_⟩:=hR i h1
    exact h2
  refine ⟨[.slice ((List.range len).map R)],.one ?_,.one (.slice _ _ _ (by simpa using hb) (fun row h=>(hmem row h).1) (fun row h=>(hmem row h).2)),fun v hv=>by simp at hv;subst hv;rfl⟩
  rcases Nat.eq_zero_or_pos len with h0 | h0
  · subst h0;exact .empty a cap
  · obtain ⟨b,off,spot⟩:=a
    have hs:spot=none:=by
      obtain ⟨cs,h1,_⟩:=hR 0 h0
      obtain ⟨h2,h3⟩:=zab h1
      have hc:=h3 0 _ (List.getElem?_eq_getElem (by omega))
      rw [Nat.zero_mul] at hc
      exact (zdX (s:=spot) (off:=off) hc).1
    subst hs
    have hcell:∀ (i:Nat) (row:List IV) (j:Nat) (c:IV),((List.range len).map R)[i]?=some row→row[j]?=some c→∃ v,w.cell? ⟨b,off+i*sz+j,none⟩=some v∧v.oneCell'=true∧RI (zOf w) w c v:=fun i row j c hi hj=>by
      obtain ⟨h1,rfl⟩:=hget i row hi
      obtain ⟨cs,h2,h3,h4,h5⟩:=hR i h1
      obtain ⟨h6,h7⟩:=zab h2
      have hjl:j < cs.length:=by rw [←h3.1];exact (List.getElem?_eq_some_iff.1 hj).1
      have hcs:=List.getElem?_eq_getElem hjl
      exact ⟨cs[j],by have:=h7 j _ hcs;rwa [qD,qD] at this,h5 _ (List.getElem_mem hjl),h3.2 j c _ hj hcs⟩
    have:=RI.slice (Z:=zOf w) (w:=w) ((List.range len).map R) b off cap sz (fun i j=>(w.cell? ⟨b,off+i*sz+j,none⟩).getD undef) (by simpa using hcap)
      (fun i row hi=>by obtain ⟨h1,rfl⟩:=hget i row hi;obtain ⟨_,_,_,h2,_⟩:=hR i h1;rw [h2.1,hr])
      (fun i row j c hi hj=>by obtain ⟨v,h1,_⟩:=hcell i row j c hi hj;exact (zdX h1).2)
      (fun i row j c hi hj=>by obtain ⟨v,h1,h2,_⟩:=hcell i row j c hi hj;rw [h1];exact ⟨rfl,h2⟩)
      (fun i row j c hi hj=>by obtain ⟨v,h1,h2,h3⟩:=hcell i row j c hi hj;rw [h1];exact h3)
    simpa using this
theorem Z5:∀ (n fuel:Nat) (t:TypeId) (cs:List Value) (d:DataW H) (ps:List MemPlace) (tys:List CTy),XA P n t=some tys→DataW.trod enc P w 0 (fun _=>true) true fuel t cs=some (d,ps) →
    (d.weights P t).all (· ≤ reachBytes)=true→Got w tys cs
  | 0,_,_,_,_,_,_,h,_,_=>by simp [XA] at h
  | n+1,0,_,_,_,_,_,_,h,_=>by simp [DataW.trod] at h
  | n+1,fuel+1,t,cs,d,ps,tys,h,ht,hw=>by
    simp only [XA] at h
    split at h
    · rename_i hu
      cases h
      simp only [DataW.trod,hu] at ht
      split at ht<;>first | (simp_all;done) | skip
      all_goals first
        | (rename_i b _;exact ⟨[.bool b],.one (.bool b),.one (.bool b),fun v hv=>by simp at hv;subst hv;rfl⟩)
        | skip
    · rename_i k hu
      cases h
      simp only [DataW.trod,hu] at ht
      split at ht<;>first | (simp_all;done) | skip
      all_goals
        rename_i k1 k' m e1
        cases e1
        split at ht
        case isFalse=>cases ht
        rename_i hk
        obtain ⟨rfl,hwf⟩:=hk
        exact ⟨[.int _ m],.one (.int _ m),.one (.int _ m (by simpa [Lit.wf] using hwf)),fun v hv=>by simp at hv;subst hv;rfl⟩
    · rename_i hu
      cases h
      simp only [DataW.trod,hu] at ht
      split at ht<;>first | (simp_all;done) | skip
      all_goals
        rename_i s _
        split at ht
        case isFalse=>cases ht
        cases ht
        refine ⟨[.str s],.one (.str s),.one (.str s ?_),fun v hv=>by simp at hv;subst hv;rfl⟩
        simpa [DataW.weights] using hw
    · rename_i e hu
      split at h
      case h_2=>cases h
      rename_i r hr
      split at h
      case isFalse=>cases h
      rename_i hlen
      cases h
      simp only [DataW.trod,hu] at ht
      split at ht<;>first | (simp_all;done) | skip
      · cases ht
        exact ⟨[.slice []],.one .nil,.one (.slice _ _ _ (by simp) (fun row h=>by simp at h) (fun row h=>by simp at h)),fun v hv=>by simp at hv;subst hv;rfl⟩
      · rename_i e' a len cap e1
        cases e1
        split at ht
        case isFalse=>cases ht
        rename_i hcond
        simp only [Option.bind_eq_some_iff,Option.map_eq_some_iff] at ht
        obtain ⟨elems,hel,rest,hrest,heq⟩:=ht
        simp only [Prod.mk.injEq] at heq
        obtain ⟨rfl,_⟩:=heq
        simp only [DataW.weights,hu,List.all_cons,List.all_append,Bool.and_eq_true,decide_eq_true_eq] at hw
        obtain ⟨hw1,hw2,hw3⟩:=hw
        obtain ⟨hl,hat⟩:=Vt hel
        simp only [List.length_range,List.length_map] at hl hw1
        refine zdY hlen.1 (by omega) hcond.2.1 (Nat.le_trans (Nat.mul_le_mul_right _ (by omega)) hw1) fun i hi => ?_
        obtain ⟨y,hy1,hy2⟩:=hat i i (by simp [hi])
        simp only [Option.bind_eq_some_iff] at hy2
        obtain ⟨cs',hc1,hc2⟩:=hy2
        exact ⟨cs',hc1,Z5 n fuel e cs' y.1 y.2 r hr hc2 (Xc hw2 _ (List.mem_map.2 ⟨y,List.mem_of_getElem? hy1,rfl⟩))⟩
    · rename_i fs hu
      split at h
      case h_2=>cases h
      rename_i r0 hr
      split at h
      case isFalse=>cases h
      rename_i hlen
      obtain rfl:r0=tys:=Option.some.inj h
      simp only [DataW.trod,hu] at ht
      split at ht
      case isFalse=>cases ht
      rename_i hcl
      simp only [Option.map_eq_some_iff] at ht
      obtain ⟨xs,hxs,heq⟩:=ht
      simp only [Prod.mk.injEq] at heq
      obtain ⟨rfl,_⟩:=heq
      simp only [DataW.weights,hu] at hw
      have:=Ws (fun t cs d ps tys h1 h2 h3=>Z5 n fuel t cs d ps tys h1 h2 h3) fs.toList 0 xs r0 hr hxs hw
      rw [hlen,←hcl,List.drop_zero,List.take_length] at this
      exact this
    · cases h
end
end
section
def zac (P:Program) (t:TypeId):Option (Bool×List CTy):=match P.underlying t with
  | some (.struct _)=>match XA P 12 t with
    | some r=>some (true,r)
    | none=>none
  | some (.array _ _)=>none
  | _=>match XA P 12 t with
    | some r=>some (false,r)
    | none=>none
def zdZ:Bool×List CTy→IV→Prop
  | (true,tys),x=>∃ row,x=.agg row∧HasCs tys row
  | (false,tys),x=>HasCs tys [x]
def JM:List (Bool×List CTy)→List IV→Prop
  | [],[]=>True
  | a::tas,x::xs=>zdZ a x∧JM tas xs
  | _,_=>False
section
variable {H:Type} {enc:TypeId×Value→H} {P:Program} {w:World}
theorem zfC {base:Nat} {t:TypeId} {v:Value} {d:DataW H} {ps:List MemPlace} {a:Bool×List CTy} (ha:zac P t=some a) (hval:Value.okWide P w .any base t v)
    (h:DataW.Trod enc P w 0 (fun _=>true) true t v d ps) (hw:(d.weights P t).all (· ≤ reachBytes)=true):∃ x,RI (zOf w) w x v∧zdZ a x:=by
  obtain ⟨fuel,hf⟩:=h
  unfold zac at ha
  split at ha
  · rename_i fs hu
    split at ha
    case h_2=>cases ha
    rename_i r hr
    cases ha
    simp only [Value.okWide,hu] at hval
    obtain ⟨cs,rfl,_,_⟩:=hval
    obtain ⟨row,h1,h2,h3⟩:=Z5 12 fuel t _ d ps r hr hf hw
    refine ⟨.agg row,?_,row,rfl,h2⟩
    have:=RI.agg (Z:=zOf w) (w:=w) row cs.toList (by simpa [Value.cells] using h1.1) (fun v hv=>h3 v (by simpa [Value.cells] using hv)) (fun i c v hc hv=>h1.2 i c v hc (by simpa [Value.cells] using hv))
    simpa using this
  · cases ha
  · rename_i hns hna
    split at ha
    case h_2=>cases ha
    rename_i r hr
    cases ha
    have hone:v.oneCell'=true:=by
      have hc:Cell.okWide P w .any base t v:=by
        unfold Value.okWide at hval
        split at hval
        · rename_i fs hu;exact absurd hu (hns fs)
        · rename_i k e hu;exact absurd hu (hna k e)
        · exact hval
      cases v<;>first | rfl | (exfalso;revert hc;unfold Cell.okWide Cell.ok;cases P.underlying t with
        | none=>simp
        | some u=>cases u<;>simp)
    have hcs:v.cells.toList=[v]:=by cases v<;>first | rfl | simp [Value.oneCell'] at hone
    obtain ⟨row,h1,h2,h3⟩:=Z5 12 fuel t _ d ps r hr hf hw
    rw [hcs] at h1
    obtain ⟨x,rfl⟩:∃ x,row=[x]:=List.length_eq_one_iff.1 (by simpa using h1.1)
    exact ⟨x,h1.2 0 x v rfl rfl,h2⟩
theorem Yh {base:Nat}:∀ {ts:List TypeId} {vs:List Value} {ds:List (DataW H)} {ps:List MemPlace} {tas:List (Bool×List CTy)},mapO (zac P) ts=some tas →
    (∀ (j:Nat) t v,ts[j]?=some t→vs[j]?=some v→Value.okWide P w .any base t v)→DataW.TrodAll enc P w 0 (fun _=>true) true ts vs ds ps→(DataW.weightsEach P ts ds).all (· ≤ reachBytes)=true →
    ∃ ivs,RCs (zOf w) w ivs vs∧JM tas ivs
  | [],vs,ds,ps,tas,ha,hval,h,hw=>by
    obtain ⟨rfl,rfl,rfl⟩:=trodAll_nil h
    simp [mapO] at ha;subst ha
    exact ⟨[],⟨rfl,fun j c u hc=>by simp at hc⟩,trivial⟩
  | t::ts,vs,ds,ps,tas,ha,hval,h,hw=>by
    obtain ⟨v,vs1,d,ds1,a,b,rfl,rfl,rfl,h1,h2⟩:=trodAll_cons h
    simp only [mapO] at ha
    split at ha
    case h_2=>cases ha
    rename_i a1 ha1
    split at ha
    case h_2=>cases ha
    rename_i as1 has1
    cases ha
    simp only [DataW.weightsEach,List.all_append,Bool.and_eq_true] at hw
    obtain ⟨x,g1,g2⟩:=zfC ha1 (hval 0 t v rfl rfl) h1 hw.1
    obtain ⟨xs,g3,g4⟩:=Yh has1 (fun j t v hj hv=>hval (j+1) t v (by simpa using hj) (by simpa using hv)) h2 hw.2
    exact ⟨x::xs,RCs.app (.one g1) g3,g2,g4⟩
theorem za4 {ts:List TypeId}:∀ {vs:List Value} {ds:List (DataW H)} {ps:List MemPlace},DataW.TrodAll enc P w 0 (fun _=>true) true ts vs ds ps→ds.length=ts.length:=by
  induction ts with
  | nil=>intro vs ds ps h;obtain ⟨rfl,rfl,rfl⟩:=trodAll_nil h;rfl
  | cons t ts ih=>
    intro vs ds ps h
    obtain ⟨v,vs1,d,ds1,a,b,rfl,rfl,rfl,h1,h2⟩:=trodAll_cons h
    simp [ih h2]
theorem Yi {W':World} (hl:laidOutB P=true) (hb:Below w.heap.size w W'):∀ {ts:List TypeId} {vs:List Value} {ds:List (DataW H)} {ps:List MemPlace},(∀ t∈ts,P.readableRec t=true∧t < P.types.size) →
    DataW.TrodAll enc P w 0 (fun _=>true) true ts vs ds ps→∀ sp:Nat→Bool,(∀ p∈ps,p.block < w.heap.size∧sp p.block=true)→DataW.TrodAll enc P W' 0 sp true ts vs ds ps
  | [],vs,ds,ps,hr,h,sp,hlt=>by
    obtain ⟨rfl,rfl,rfl⟩:=trodAll_nil h;rfl
  | t::ts,vs,ds,ps,hr,h,sp,hlt=>by
    obtain ⟨v,vs1,d,ds1,a,b,rfl,rfl,rfl,h1,h2⟩:=trodAll_cons h
    have ht:=hr t (List.mem_cons_self ..)
    exact ⟨a,b,WideElems.Trod_stays hl ht.1 ht.2 h1 (fun x hx=>hb.same (hlt x (List.mem_append_left _ hx)).1) (fun x hx=>(hlt x (List.mem_append_left _ hx)).2),
      Yi hl hb (fun t ht=>hr t (List.mem_cons_of_mem _ ht)) h2 sp (fun p hp=>hlt p (List.mem_append_right _ hp)),rfl⟩
end
theorem zcx {H:Type} {enc:TypeId×Value→H} {P:Program} {f:Func} {s:ChangeSpec} {apart fresh handsOn again:Bool} {W W':World} {args:Array Value} {v:Value} {ds:List (DataW H)} {before:List MemPlace}
    (hW:DataW.Whole enc P f.params.toList s.vars apart W args.toList ds [] before)
    (hres:∀ (b:Nat) (sp:Nat→Bool) (hd:Bool),DataW.TrodAll enc P W' b sp hd f.resultTypes.toList (v.resultList f.resultTypes.size) (s.fn H (ds++[])).results [])
    (hargs:∀ sp:Nat→Bool,(∀ p∈before,sp p.block=true)→DataW.TrodAll enc P W' 0 sp true f.params.toList args.toList (s.fn H (ds++[])).args before)
    (hvars:∀ sp:Nat→Bool,DataW.TrodVars enc P W' sp s.vars (s.fn H (ds++[])).vars [])
    (hk:Below W.heap.size W W')
    (hok:∀ (j:Nat) (t:TypeId) (r:Value),f.resultTypes[j]?=some t→(v.resultList f.resultTypes.size)[j]?=some r→Value.okWide P W' .any 0 t r) :
    s.post enc P f apart fresh handsOn again W args v W':=by
  have hlt:∀ p∈before,p.block < W.heap.size:=fun p hp=>hW.lt p hp
  have hold:∀ p∈before,(fun b=>decide (b < W.heap.size)) p.block=true:=fun p hp=>by simpa using hlt p hp
  refine ⟨ds,[],before,[],before,[],hW,hres _ _ _,hargs _ hold,hvars _,hk.frame _,fun _ => ?_⟩
  obtain ⟨_,_,_,_,_,hz,hn⟩:=hW
  refine ⟨hok,_,_,([]++before)++[],⟨[]++before,[],trodAll_append (hargs _ (fun _ _=>rfl)) (hres _ _ _),hvars _,rfl,?_,?_⟩,?_⟩
  · intro b off hp
    have hp':MemPlace.cell b off∈before:=by simpa using hp
    rw [hk.frozen (p:=⟨b,off,none⟩) (hlt _ hp')]
    exact hz b off hp'
  · intro ha
    simpa using hn ha
  · intro p hp _
    simpa using hp
theorem zad {H:Type} {enc:TypeId×Value→H} {Cx:Ctx} {f:FuncId} {fn:Func} {s:ChangeSpec} {tb:TypeId} {tas:List (Bool×List CTy)} {apart fresh handsOn again:Bool} (n:Nat) (hn:Cx.fnum n=f)
    (has:mapO (zac Cx.P) fn.params.toList=some tas) (hres:fn.resultTypes = #[tb]) (htb:Cx.P.underlying tb=some .bool) (hvars:s.vars=[])
    (hsp:∀ ds:List (DataW H),ds.length=fn.params.toList.length→s.fn H (ds++[])={results:=[.lit (.bool true)],args:=ds})
    (hlaid:laidOutB Cx.P=true) (hread:(fn.params.toList.all fun t=>Cx.P.readableRec t&&decide (t < Cx.P.types.size))=true)
    (hlaw:∀ ivs,JM tas ivs→APure Cx n ivs (.bool true))
    (W:World) (hft:Cx.tabs.p W∧Cx.tabs.n≤W.heap.size)
    (base:Nat) (args:Array Value) (ds gs:List (DataW H)) (before:List MemPlace)
    (hval:∀ (j:Nat) t v,fn.params[j]?=some t→args[j]?=some v→Value.okWide Cx.P W .any base t v)
    (hW:DataW.Whole enc Cx.P fn.params.toList s.vars apart W args.toList ds gs before)
    (hwt:(DataW.weightsEach Cx.P (fn.params.toList++s.plain.varTypes Cx.P) (ds++gs)).all (· ≤ reachBytes)=true) :
    Calls Cx.P f args W fun e W'=>∃ v,e=.returned v∧s.post enc Cx.P fn apart fresh handsOn again W args v W':=by
  have hW':=hW
  obtain ⟨p,q,hA,hV,rfl,hfz,hnd⟩:=hW
  rw [hvars] at hV
  obtain ⟨rfl,rfl⟩:=trodVars_none hV
  have hvt:s.plain.varTypes Cx.P=[]:=by
    have:s.plain.vars=[]:=hvars
    simp [DataSpec.varTypes,this]
  rw [hvt,List.append_nil,List.append_nil] at hwt
  obtain ⟨ivs,h1,h2⟩:=Yh has (fun j t v hj hv=>hval j t v (by simpa using hj) (by simpa using hv)) hA hwt
  subst hn
  have hcall:=(hlaw ivs h2).2 (zOf W) W args.toList (fun b hb=>ziq hb) hft h1
  simp only [Array.toArray_toList] at hcall
  refine hcall.mono fun e W' ⟨v,Z',he,hr,_,_,hbel⟩ => ?_
  subst he
  cases hr
  have hlt:∀ x∈p++[],x.block < W.heap.size:=fun x hx=>by simpa using hW'.lt x hx
  have hspec:=hsp ds (za4 hA)
  simp only [List.append_nil] at hW' hlt
  refine ⟨_,rfl,zcx hW' ?_ ?_ ?_ hbel ?_⟩
  · intro b sp hd
    rw [hspec,hres]
    exact trodAll_cons_mk (shut_bool htb _) trodAll_mk0
  · intro sp hsp'
    rw [hspec]
    exact Yi hlaid hbel (fun t ht=>by have:=List.all_eq_true.1 hread t ht;simpa using this) hA sp (fun x hx=>⟨hlt x hx,hsp' x hx⟩)
  · intro sp
    rw [hspec,hvars];rfl
  · exact ok_one hres rfl (okWide_bool_mk htb _)
end
end Go.Proofs.YtlpmnmbebkdocaaGreatDoor
namespace Go.Proofs.YtlpmnmbebkdocaaGreatDoor
open Go.RowKit
set_option linter.unusedVariables false
def InK (k:IntKind) (n:Int):Prop:=k.min≤n∧n≤k.max
def LOk {α:Type} (by_:Nat) (Ok:α→Prop) (l:List α):Prop:=l.length*by_≤reachBytes∧∀ x∈l,Ok x
theorem zf {t:CTy} {ts:List CTy} {row:List IV} (h:HasCs (t::ts) row):∃ c r,row=c::r∧HasC t c∧HasCs ts r:=by
  obtain ⟨hl,hc⟩:=h
  cases row with
  | nil=>simp at hl
  | cons c r=>exact ⟨c,r,rfl,hc 0 t c rfl rfl,by simpa using hl,fun i u d hu hd=>hc (i+1) u d (by simpa using hu) (by simpa using hd)⟩
theorem qG {row:List IV} (h:HasCs [] row):row=[]:=List.eq_nil_of_length_eq_zero h.1
theorem zp {k:IntKind} {x:IV} (h:HasC (.int k) x):∃ n,x=.int k n∧InK k n:=by cases h;exact ⟨_,rfl,by assumption⟩
theorem xI {x:IV} (h:HasC .bool x):∃ b,x=.bool b:=by cases h;exact ⟨_,rfl⟩
theorem zfD {x:IV} (h:HasC .str x):∃ s,x=.str s∧s.size≤reachBytes:=by cases h;exact ⟨_,rfl,by assumption⟩
theorem Yj {α:Type} {f:α→List IV} {Ok:α→Prop} {tys:List CTy} (ho:∀ {row:List IV},HasCs tys row→∃ x,row=f x∧Ok x) :
    ∀ rows:List (List IV),(∀ row∈rows,HasCs tys row)→∃ l:List α,rows=l.map f∧∀ x∈l,Ok x
  | [],_=>⟨[],rfl,fun x hx=>by cases hx⟩
  | row::rows,h=>by
    obtain ⟨x,rfl,hx⟩:=ho (h row (List.mem_cons_self ..))
    obtain ⟨l,rfl,hl⟩:=Yj ho rows fun r hr=>h r (List.mem_cons_of_mem _ hr)
    exact ⟨x::l,rfl,fun y hy=>by
      rcases List.mem_cons.1 hy with rfl | hy
      · exact hx
      · exact hl y hy⟩
theorem qc {α:Type} {f:α→List IV} {Ok:α→Prop} {tys:List CTy} {by_:Nat} {x:IV} (ho:∀ {row:List IV},HasCs tys row→∃ x,row=f x∧Ok x) (h:HasC (.slice by_ tys) x) :
    ∃ l:List α,x=.slice (l.map f)∧LOk by_ Ok l:=by
  cases h with
  | slice _ _ rows hl hr hc=>
    obtain ⟨l,rfl,hk⟩:=Yj ho rows fun row h=>⟨hr row h,hc row h⟩
    exact ⟨l,rfl,by simpa using hl,hk⟩
theorem vq {row:List IV} (h:HasCs [.int .i64] row):∃ x:Int,row=zc x∧InK .i64 x:=by
  obtain ⟨c,_,rfl,h0,h⟩:=zf h
  obtain rfl:=qG h
  obtain ⟨n,rfl,k⟩:=zp h0
  exact ⟨n,rfl,k⟩
theorem Wt {row:List IV} (h:HasCs [.bool] row):∃ x:Bool,row=zh x∧True:=by
  obtain ⟨c,_,rfl,h0,h⟩:=zf h
  obtain rfl:=qG h
  obtain ⟨n,rfl⟩:=xI h0
  exact ⟨n,rfl,trivial⟩
theorem za5 {α:Type} {f:α→List IV} {Ok:α→Prop} {tys:List CTy} {by_:Nat} (ho:∀ {row:List IV},HasCs tys row→∃ x,row=f x∧Ok x) {row:List IV} (h:HasCs [.slice by_ tys] row) :
    ∃ x:List α,row=qE f x∧LOk by_ Ok x:=by
  obtain ⟨c,_,rfl,h0,h⟩:=zf h
  obtain rfl:=qG h
  obtain ⟨l,rfl,k⟩:=qc ho h0
  exact ⟨l,rfl,k⟩
def Ratio.tys:List CTy:=[.int .i64,.int .i64]
structure Ratio.Ok (x:Ratio):Prop where
  num:InK .i64 x.num
  den:InK .i64 x.den
theorem Ratio.opn {row:List IV} (h:HasCs Ratio.tys row):∃ x:Ratio,row=Ratio.row x∧Ratio.Ok x:=by
  obtain ⟨c0,_,rfl,h0,h⟩:=zf h
  obtain ⟨c1,_,rfl,h1,h⟩:=zf h
  obtain rfl:=qG h
  obtain ⟨v0,rfl,k0⟩:=zp h0
  obtain ⟨v1,rfl,k1⟩:=zp h1
  exact ⟨⟨v0,v1⟩,rfl,⟨k0,k1⟩⟩
def ZaD.tys:List CTy:=[.str,.int .i64,.int .i64,.int .i64,.int .i64]
structure ZaD.Ok (x:ZaD):Prop where
  name:x.name.size≤reachBytes
  kind:InK .i64 x.kind
  base:InK .i64 x.base
  factor:Ratio.Ok x.factor
theorem ZaD.opn {row:List IV} (h:HasCs ZaD.tys row):∃ x:ZaD,row=ZaD.row x∧ZaD.Ok x:=by
  obtain ⟨c0,_,rfl,h0,h⟩:=zf h
  obtain ⟨c1,_,rfl,h1,h⟩:=zf h
  obtain ⟨c2,_,rfl,h2,h⟩:=zf h
  obtain ⟨c3,_,rfl,h3,h⟩:=zf h
  obtain ⟨c4,_,rfl,h4,h⟩:=zf h
  obtain rfl:=qG h
  obtain ⟨v0,rfl,k0⟩:=zfD h0
  obtain ⟨v1,rfl,k1⟩:=zp h1
  obtain ⟨v2,rfl,k2⟩:=zp h2
  obtain ⟨v3,rfl,k3⟩:=zp h3
  obtain ⟨v4,rfl,k4⟩:=zp h4
  exact ⟨⟨v0,v1,v2,⟨v3,v4⟩⟩,rfl,⟨k0,k1,k2,⟨k3,k4⟩⟩⟩
def Zaq.tys:List CTy:=[.int .i64,.int .i64,.int .i64,.int .i64,.int .i64,.int .i64,.int .i64]
structure Zaq.Ok (x:Zaq):Prop where
  kind:InK .i64 x.kind
  Zap:InK .i64 x.Zap
  give:InK .i64 x.give
  to:InK .i64 x.to
  unit:InK .i64 x.unit
  lot:Ratio.Ok x.lot
theorem Zaq.opn {row:List IV} (h:HasCs Zaq.tys row):∃ x:Zaq,row=Zaq.row x∧Zaq.Ok x:=by
  obtain ⟨c0,_,rfl,h0,h⟩:=zf h
  obtain ⟨c1,_,rfl,h1,h⟩:=zf h
  obtain ⟨c2,_,rfl,h2,h⟩:=zf h
  obtain ⟨c3,_,rfl,h3,h⟩:=zf h
  obtain ⟨c4,_,rfl,h4,h⟩:=zf h
  obtain ⟨c5,_,rfl,h5,h⟩:=zf h
  obtain ⟨c6,_,rfl,h6,h⟩:=zf h
  obtain rfl:=qG h
  obtain ⟨v0,rfl,k0⟩:=zp h0
  obtain ⟨v1,rfl,k1⟩:=zp h1
  obtain ⟨v2,rfl,k2⟩:=zp h2
  obtain ⟨v3,rfl,k3⟩:=zp h3
  obtain ⟨v4,rfl,k4⟩:=zp h4
  obtain ⟨v5,rfl,k5⟩:=zp h5
  obtain ⟨v6,rfl,k6⟩:=zp h6
  exact ⟨⟨v0,v1,v2,v3,v4,⟨v5,v6⟩⟩,rfl,⟨k0,k1,k2,k3,k4,⟨k5,k6⟩⟩⟩
def CondT.tys:List CTy:=[.int .i64,.int .i64]
structure CondT.Ok (x:CondT):Prop where
  clause:InK .i64 x.clause
  is:InK .i64 x.is
theorem CondT.opn {row:List IV} (h:HasCs CondT.tys row):∃ x:CondT,row=CondT.row x∧CondT.Ok x:=by
  obtain ⟨c0,_,rfl,h0,h⟩:=zf h
  obtain ⟨c1,_,rfl,h1,h⟩:=zf h
  obtain rfl:=qG h
  obtain ⟨v0,rfl,k0⟩:=zp h0
  obtain ⟨v1,rfl,k1⟩:=zp h1
  exact ⟨⟨v0,v1⟩,rfl,⟨k0,k1⟩⟩
def Zan.tys:List CTy:=[.int .i64,.int .i64,.int .i64,.int .i64,.slice 16 CondT.tys,.int .i64,.int .i64,.bool,.bool,.int .i64,.int .i64,.int .i64,.int .i64,.int .i64,.int .i64,.bool]
structure Zan.Ok (x:Zan):Prop where
  kind:InK .i64 x.kind
  Zap:InK .i64 x.Zap
  act:InK .i64 x.act
  need:InK .i64 x.need
  start:LOk 16 CondT.Ok x.start
  after:InK .i64 x.after
  Zay:InK .i64 x.Zay
  pause:InK .i64 x.pause
  ZaC:InK .i64 x.ZaC
  value:Ratio.Ok x.value
  unit:InK .i64 x.unit
  to:InK .i64 x.to
theorem Zan.opn {row:List IV} (h:HasCs Zan.tys row):∃ x:Zan,row=Zan.row x∧Zan.Ok x:=by
  obtain ⟨c0,_,rfl,h0,h⟩:=zf h
  obtain ⟨c1,_,rfl,h1,h⟩:=zf h
  obtain ⟨c2,_,rfl,h2,h⟩:=zf h
  obtain ⟨c3,_,rfl,h3,h⟩:=zf h
  obtain ⟨c4,_,rfl,h4,h⟩:=zf h
  obtain ⟨c5,_,rfl,h5,h⟩:=zf h
  obtain ⟨c6,_,rfl,h6,h⟩:=zf h
  obtain ⟨c7,_,rfl,h7,h⟩:=zf h
  obtain ⟨c8,_,rfl,h8,h⟩:=zf h
  obtain ⟨c9,_,rfl,h9,h⟩:=zf h
  obtain ⟨c10,_,rfl,h10,h⟩:=zf h
  obtain ⟨c11,_,rfl,h11,h⟩:=zf h
  obtain ⟨c12,_,rfl,h12,h⟩:=zf h
  obtain ⟨c13,_,rfl,h13,h⟩:=zf h
  obtain ⟨c14,_,rfl,h14,h⟩:=zf h
  obtain ⟨c15,_,rfl,h15,h⟩:=zf h
  obtain rfl:=qG h
  obtain ⟨v0,rfl,k0⟩:=zp h0
  obtain ⟨v1,rfl,k1⟩:=zp h1
  obtain ⟨v2,rfl,k2⟩:=zp h2
  obtain ⟨v3,rfl,k3⟩:=zp h3
  obtain ⟨v4,rfl,k4⟩:=qc @CondT.opn h4
  obtain ⟨v5,rfl,k5⟩:=zp h5
  obtain ⟨v6,rfl,k6⟩:=zp h6
  obtain ⟨v7,rfl⟩:=xI h7
  obtain ⟨v8,rfl⟩:=xI h8
  obtain ⟨v9,rfl,k9⟩:=zp h9
  obtain ⟨v10,rfl,k10⟩:=zp h10
  obtain ⟨v11,rfl,k11⟩:=zp h11
  obtain ⟨v12,rfl,k12⟩:=zp h12
  obtain ⟨v13,rfl,k13⟩:=zp h13
  obtain ⟨v14,rfl,k14⟩:=zp h14
  obtain ⟨v15,rfl⟩:=xI h15
  exact ⟨⟨v0,v1,v2,v3,v4,v5,v6,v7,v8,v9,v10,⟨v11,v12⟩,v13,v14,v15⟩,rfl,⟨k0,k1,k2,k3,k4,k5,k6,k9,k10,⟨k11,k12⟩,k13,k14⟩⟩
def Zab.tys:List CTy:=[.int .i64,.slice 8 [.int .i64],.slice 48 ZaD.tys,.slice 56 Zaq.tys,.slice 136 Zan.tys,.int .i64,.slice 8 [.int .i64]]
structure Zab.Ok (x:Zab):Prop where
  Zao:InK .i64 x.Zao
  Zae:LOk 8 (fun x:Int=>InK .i64 x) x.Zae
  Zav:LOk 48 ZaD.Ok x.Zav
  Zai:LOk 56 Zaq.Ok x.Zai
  Zag:LOk 136 Zan.Ok x.Zag
  Zat:InK .i64 x.Zat
  off:LOk 8 (fun x:Int=>InK .i64 x) x.off
theorem Zab.opn {row:List IV} (h:HasCs Zab.tys row):∃ x:Zab,row=Zab.row x∧Zab.Ok x:=by
  obtain ⟨c0,_,rfl,h0,h⟩:=zf h
  obtain ⟨c1,_,rfl,h1,h⟩:=zf h
  obtain ⟨c2,_,rfl,h2,h⟩:=zf h
  obtain ⟨c3,_,rfl,h3,h⟩:=zf h
  obtain ⟨c4,_,rfl,h4,h⟩:=zf h
  obtain ⟨c5,_,rfl,h5,h⟩:=zf h
  obtain ⟨c6,_,rfl,h6,h⟩:=zf h
  obtain rfl:=qG h
  obtain ⟨v0,rfl,k0⟩:=zp h0
  obtain ⟨v1,rfl,k1⟩:=qc vq h1
  obtain ⟨v2,rfl,k2⟩:=qc @ZaD.opn h2
  obtain ⟨v3,rfl,k3⟩:=qc @Zaq.opn h3
  obtain ⟨v4,rfl,k4⟩:=qc @Zan.opn h4
  obtain ⟨v5,rfl,k5⟩:=zp h5
  obtain ⟨v6,rfl,k6⟩:=qc vq h6
  exact ⟨⟨v0,v1,v2,v3,v4,v5,v6⟩,rfl,⟨k0,k1,k2,k3,k4,k5,k6⟩⟩
def zw.tys:List CTy:=[.int .i64,.int .i64,.int .i64,.int .i64,.bool]
structure zw.Ok (x:zw):Prop where
  Zam:InK .i64 x.Zam
  left:InK .i64 x.left
  got:InK .i64 x.got
  Zau:InK .i64 x.Zau
theorem zw.opn {row:List IV} (h:HasCs zw.tys row):∃ x:zw,row=zw.row x∧zw.Ok x:=by
  obtain ⟨c0,_,rfl,h0,h⟩:=zf h
  obtain ⟨c1,_,rfl,h1,h⟩:=zf h
  obtain ⟨c2,_,rfl,h2,h⟩:=zf h
  obtain ⟨c3,_,rfl,h3,h⟩:=zf h
  obtain ⟨c4,_,rfl,h4,h⟩:=zf h
  obtain rfl:=qG h
  obtain ⟨v0,rfl,k0⟩:=zp h0
  obtain ⟨v1,rfl,k1⟩:=zp h1
  obtain ⟨v2,rfl,k2⟩:=zp h2
  obtain ⟨v3,rfl,k3⟩:=zp h3
  obtain ⟨v4,rfl⟩:=xI h4
  exact ⟨⟨v0,v1,v2,v3,v4⟩,rfl,⟨k0,k1,k2,k3⟩⟩
def Zac.tys:List CTy:=[.int .i64,.slice 8 [.int .i64],.slice 1 [.bool],.slice 40 zw.tys]
structure Zac.Ok (x:Zac):Prop where
  day:InK .i64 x.day
  Zae:LOk 8 (fun x:Int=>InK .i64 x) x.Zae
  used:LOk 1 (fun x:Bool=>True) x.used
  Zaj:LOk 40 zw.Ok x.Zaj
theorem Zac.opn {row:List IV} (h:HasCs Zac.tys row):∃ x:Zac,row=Zac.row x∧Zac.Ok x:=by
  obtain ⟨c0,_,rfl,h0,h⟩:=zf h
  obtain ⟨c1,_,rfl,h1,h⟩:=zf h
  obtain ⟨c2,_,rfl,h2,h⟩:=zf h
  obtain ⟨c3,_,rfl,h3,h⟩:=zf h
  obtain rfl:=qG h
  obtain ⟨v0,rfl,k0⟩:=zp h0
  obtain ⟨v1,rfl,k1⟩:=qc vq h1
  obtain ⟨v2,rfl,k2⟩:=qc Wt h2
  obtain ⟨v3,rfl,k3⟩:=qc @zw.opn h3
  exact ⟨⟨v0,v1,v2,v3⟩,rfl,⟨k0,k1,k2,k3⟩⟩
def Zah.tys:List CTy:=[.int .i64,.slice 8 [.int .i64],.slice 1 [.bool],.slice 40 zw.tys,.bool]
structure Zah.Ok (x:Zah):Prop where
  state:Zac.Ok x.state
theorem Zah.opn {row:List IV} (h:HasCs Zah.tys row):∃ x:Zah,row=Zah.row x∧Zah.Ok x:=by
  obtain ⟨c0,_,rfl,h0,h⟩:=zf h
  obtain ⟨c1,_,rfl,h1,h⟩:=zf h
  obtain ⟨c2,_,rfl,h2,h⟩:=zf h
  obtain ⟨c3,_,rfl,h3,h⟩:=zf h
  obtain ⟨c4,_,rfl,h4,h⟩:=zf h
  obtain rfl:=qG h
  obtain ⟨v0,rfl,k0⟩:=zp h0
  obtain ⟨v1,rfl,k1⟩:=qc vq h1
  obtain ⟨v2,rfl,k2⟩:=qc Wt h2
  obtain ⟨v3,rfl,k3⟩:=qc @zw.opn h3
  obtain ⟨v4,rfl⟩:=xI h4
  exact ⟨⟨⟨v0,v1,v2,v3⟩,v4⟩,rfl,⟨⟨k0,k1,k2,k3⟩⟩⟩
def Zar.tys:List CTy:=[.int .i64,.int .i64]
structure Zar.Ok (x:Zar):Prop where
  step:InK .i64 x.step
  to:InK .i64 x.to
theorem Zar.opn {row:List IV} (h:HasCs Zar.tys row):∃ x:Zar,row=Zar.row x∧Zar.Ok x:=by
  obtain ⟨c0,_,rfl,h0,h⟩:=zf h
  obtain ⟨c1,_,rfl,h1,h⟩:=zf h
  obtain rfl:=qG h
  obtain ⟨v0,rfl,k0⟩:=zp h0
  obtain ⟨v1,rfl,k1⟩:=zp h1
  exact ⟨⟨v0,v1⟩,rfl,⟨k0,k1⟩⟩
def ZaF.tys:List CTy:=[.int .i64,.slice 88 Zah.tys,.slice 24 [.slice 16 Zar.tys]]
structure ZaF.Ok (x:ZaF):Prop where
  Zaa:InK .i64 x.Zaa
  Zaw:LOk 88 Zah.Ok x.Zaw
  moves:LOk 24 (fun x:List Zar=>LOk 16 Zar.Ok x) x.moves
theorem ZaF.opn {row:List IV} (h:HasCs ZaF.tys row):∃ x:ZaF,row=ZaF.row x∧ZaF.Ok x:=by
  obtain ⟨c0,_,rfl,h0,h⟩:=zf h
  obtain ⟨c1,_,rfl,h1,h⟩:=zf h
  obtain ⟨c2,_,rfl,h2,h⟩:=zf h
  obtain rfl:=qG h
  obtain ⟨v0,rfl,k0⟩:=zp h0
  obtain ⟨v1,rfl,k1⟩:=qc @Zah.opn h1
  obtain ⟨v2,rfl,k2⟩:=qc (za5 (by_:=16) @Zar.opn) h2
  exact ⟨⟨v0,v1,v2⟩,rfl,⟨k0,k1,k2⟩⟩
def AdviceT.tys:List CTy:=[.bool,.int .i64,.int .i64]
structure AdviceT.Ok (x:AdviceT):Prop where
  move:InK .i64 x.move
  wait:InK .i64 x.wait
theorem AdviceT.opn {row:List IV} (h:HasCs AdviceT.tys row):∃ x:AdviceT,row=AdviceT.row x∧AdviceT.Ok x:=by
  obtain ⟨c0,_,rfl,h0,h⟩:=zf h
  obtain ⟨c1,_,rfl,h1,h⟩:=zf h
  obtain ⟨c2,_,rfl,h2,h⟩:=zf h
  obtain rfl:=qG h
  obtain ⟨v0,rfl⟩:=xI h0
  obtain ⟨v1,rfl,k1⟩:=zp h1
  obtain ⟨v2,rfl,k2⟩:=zp h2
  exact ⟨⟨v0,v1,v2⟩,rfl,⟨k1,k2⟩⟩
def Zak.tys:List CTy:=[.int .i64,.int .i64,.int .i64,.int .i64,.slice 8 [.int .i64]]
structure Zak.Ok (x:Zak):Prop where
  kind:InK .i64 x.kind
  Zaa:InK .i64 x.Zaa
  clause:InK .i64 x.clause
  other:InK .i64 x.other
  Zaz:LOk 8 (fun x:Int=>InK .i64 x) x.Zaz
theorem Zak.opn {row:List IV} (h:HasCs Zak.tys row):∃ x:Zak,row=Zak.row x∧Zak.Ok x:=by
  obtain ⟨c0,_,rfl,h0,h⟩:=zf h
  obtain ⟨c1,_,rfl,h1,h⟩:=zf h
  obtain ⟨c2,_,rfl,h2,h⟩:=zf h
  obtain ⟨c3,_,rfl,h3,h⟩:=zf h
  obtain ⟨c4,_,rfl,h4,h⟩:=zf h
  obtain rfl:=qG h
  obtain ⟨v0,rfl,k0⟩:=zp h0
  obtain ⟨v1,rfl,k1⟩:=zp h1
  obtain ⟨v2,rfl,k2⟩:=zp h2
  obtain ⟨v3,rfl,k3⟩:=zp h3
  obtain ⟨v4,rfl,k4⟩:=qc vq h4
  exact ⟨⟨v0,v1,v2,v3,v4⟩,rfl,⟨k0,k1,k2,k3,k4⟩⟩
def Zax.tys:List CTy:=[.int .i64,.int .i64]
structure Zax.Ok (x:Zax):Prop where
  from_:InK .i64 x.from_
  step:InK .i64 x.step
theorem Zax.opn {row:List IV} (h:HasCs Zax.tys row):∃ x:Zax,row=Zax.row x∧Zax.Ok x:=by
  obtain ⟨c0,_,rfl,h0,h⟩:=zf h
  obtain ⟨c1,_,rfl,h1,h⟩:=zf h
  obtain rfl:=qG h
  obtain ⟨v0,rfl,k0⟩:=zp h0
  obtain ⟨v1,rfl,k1⟩:=zp h1
  exact ⟨⟨v0,v1⟩,rfl,⟨k0,k1⟩⟩
end Go.Proofs.YtlpmnmbebkdocaaGreatDoor
namespace Go.Proofs.YtlpmnmbebkdocaaGreatDoor
set_option linter.unusedSimpArgs false
set_option linter.unusedVariables false
def Z6 {σ ρ:Type} (A:σ→Prop) (Q:ρ→Prop):σ ⊕ ρ→Prop
  | .inl s=>A s
  | .inr r=>Q r
theorem QZ {σ ρ:Type} {f:Nat→σ→Option (σ ⊕ ρ)} {Inv:Nat→σ→Prop} {Q:ρ→Prop} (n:Nat)
    (step:∀ (i:Nat) (s:σ),i < n→Inv i s→∃ o,f i s=some o∧Z6 (Inv (i+1)) Q o) :
    ∀ (k i:Nat) (s:σ),i+k=n→Inv i s→∃ o,forFrom f i k s=some o∧Z6 (Inv n) Q o
  | 0,i,s,h,hi=>⟨.inl s,rfl,by obtain rfl:i=n:=by omega
                               exact hi⟩
  | k+1,i,s,h,hi=>by
    obtain ⟨o,h1,h2⟩:=step i s (by omega) hi
    simp only [forFrom,h1]
    cases o with
    | inl s'=>exact QZ n step k (i+1) s' (by omega) h2
    | inr r=>exact ⟨.inr r,rfl,h2⟩
theorem Yk {σ ρ:Type} {f:Nat→σ→Option (σ ⊕ ρ)} {n:Int} {s0:σ} (Inv:Nat→σ→Prop) (Q:ρ→Prop) (hn:n < 4611686018427387904)
    (h0:Inv 0 s0) (step:∀ (i:Nat) (s:σ),(i:Int) < n→Inv i s→∃ o,f i s=some o∧Z6 (Inv (i+1)) Q o) :
    ∃ o,forR n f s0=some o∧Z6 (Inv n.toNat) Q o:=by
  rw [ZR hn]
  exact QZ n.toNat (fun i s hi=>step i s (by omega)) n.toNat 0 s0 (by omega) h0
theorem wV {σ ρ:Type} {f:Nat→σ→Option (σ ⊕ ρ)} {n:Nat} {s0:σ} (Inv:Nat→σ→Prop) (Q:ρ→Prop) (hn:n < 4611686018427387904)
    (h0:Inv 0 s0) (step:∀ (i:Nat) (s:σ),i < n→Inv i s→∃ o,f i s=some o∧Z6 (Inv (i+1)) Q o) :
    ∃ o,forR (n:Int) f s0=some o∧Z6 (Inv n) Q o:=by
  have:=Yk (n:=(n:Int)) Inv Q (by omega) h0 (fun i s hi=>step i s (by omega))
  simpa using this
theorem Yl {σ ρ:Type} {f:σ→Option (σ ⊕ ρ)} (Inv:σ→Prop) (Q:ρ→Prop) (m:σ→Nat)
    (step:∀ s,Inv s→∃ o,f s=some o∧Z6 (fun s'=>Inv s'∧m s' < m s) Q o):∀ s0,Inv s0→∃ r,iter f s0=some r∧Q r:=by
  have key:∀ (k:Nat) (s:σ),m s < k→Inv s→∃ r,iter f s=some r∧Q r:=by
    intro k
    induction k with
    | zero=>intro s h;omega
    | succ k ih=>
      intro s hk hs
      obtain ⟨o,h1,h2⟩:=step s hs
      rw [zg3,h1]
      cases o with
      | inl s'=>exact ih s' (by have:=h2.2;omega) h2.1
      | inr r=>exact ⟨r,rfl,h2⟩
  exact fun s0 h=>key _ s0 (Nat.lt_succ_self _) h
theorem Qr {ρ:Type} {f:Nat→Unit→Option (Unit ⊕ ρ)} {p:Nat→Bool} {g:Nat→ρ}:∀ (k i:Nat),(∀ j,i≤j→j < i+k→f j ()=some (bif p j then .inl () else .inr (g j))) →
    forFrom f i k ()=some (match (List.range' i k).find? (fun j=>!p j) with | none=>.inl () | some j=>.inr (g j))
  | 0,i,h=>rfl
  | k+1,i,h=>by
    simp only [forFrom,h i (Nat.le_refl _) (by omega),List.range'_succ,List.find?_cons]
    cases hp:p i with
    | true=>
      simp only [cond_true,Bool.not_true]
      exact Qr k (i+1) fun j h1 h2=>h j (by omega) (by omega)
    | false=>simp
theorem jn {ρ:Type} {f:Nat→Unit→Option (Unit ⊕ ρ)} {n:Nat} (p:Nat→Bool) (g:Nat→ρ) (hn:n < 4611686018427387904) (h:∀ j,j < n→f j ()=some (bif p j then .inl () else .inr (g j))) :
    forR (n:Int) f ()=some (match (List.range n).find? (fun j=>!p j) with | none=>.inl () | some j=>.inr (g j)):=by
  rw [ZR (by omega)]
  have:=Qr (f:=f) (p:=p) (g:=g) n 0 (fun j _ h2=>h j (by omega))
  simpa [List.range_eq_range'] using this
theorem wB {n:Nat} {p:Nat→Bool} (h:(List.range n).find? (fun j=>!p j)=none):∀ j,j < n→p j=true:=fun j hj=>by
  have:=List.find?_eq_none.1 h j (List.mem_range.2 hj)
  simpa using this
theorem Xd {q:Nat→Bool}:∀ (k a i:Nat),(List.range' a k).find? q=some i→i < a+k∧a≤i∧q i=true∧∀ j,a≤j→j < i→q j=false
  | 0,a,i,h=>by simp at h
  | k+1,a,i,h=>by
    rw [List.range'_succ,List.find?_cons] at h
    split at h
    · rename_i hq
      cases h
      exact ⟨by omega,Nat.le_refl _,hq,fun j h1 h2=>by omega⟩
    · rename_i hq
      obtain ⟨h1,h2,h3,h4⟩:=Xd k (a+1) i h
      exact ⟨by omega,by omega,h3,fun j h5 h6=>by
        rcases Nat.eq_or_lt_of_le h5 with h7 | h7
        · subst h7;exact hq
        · exact h4 j (by omega) h6⟩
theorem wC {n i:Nat} {p:Nat→Bool} (h:(List.range n).find? (fun j=>!p j)=some i):i < n∧p i=false∧∀ j,j < i→p j=true:=by
  rw [List.range_eq_range'] at h
  obtain ⟨h1,_,h2,h3⟩:=Xd n 0 i h
  exact ⟨by omega,by simpa using h2,fun j hj=>by simpa using h3 j (Nat.zero_le _) hj⟩
theorem zn {α:Type} (b:Bool) (x y:α):(bif b then some x else some y)=some (bif b then x else y):=by cases b<;>rfl
theorem zl {α:Type} {l:List α} {i:Nat} {e:α} (h:l[i]?=some e):ze l (i:Int)=some e:=by
  unfold ze;rw [if_pos (by omega)];simpa using h
theorem qq {α:Type} (l:List α) (i:Nat):ze l (i:Int)=l[i]?:=by
  unfold ze;rw [if_pos (by omega)];simp
theorem jd {α:Type} {l:List α} {n:Int} (h0:0≤n) (h1:n < l.length):∃ h:n.toNat < l.length,ze l n=some l[n.toNat]:=by
  have h:n.toNat < l.length:=by omega
  exact ⟨h,by unfold ze;rw [if_pos h0];exact List.getElem?_eq_getElem h⟩
theorem zae {α:Type} {l:List α} {n:Int} (h:¬ (0≤n∧n < l.length)):ze l n=none:=by
  unfold ze
  split
  · exact List.getElem?_eq_none (by omega)
  · rfl
theorem zbA {len:Nat} {n:Int} (h0:0≤n) (h1:n < len):zk len n=some n.toNat:=by unfold zk;rw [if_pos ⟨h0,h1⟩]
theorem zU {len i:Nat} (h:i < len):zk len (i:Int)=some i:=by unfold zk;rw [if_pos ⟨by omega,by omega⟩];simp
end Go.Proofs.YtlpmnmbebkdocaaGreatDoor
