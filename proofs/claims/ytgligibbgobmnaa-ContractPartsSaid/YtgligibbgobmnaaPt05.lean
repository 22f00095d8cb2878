/-
  Plans: what a function computes, told so that the kernel can hold it against the function's code. A plan that the kernel has checked is a walk.
  Plans: code against a plan, and that a plan that is checked is a walk.
  Plans: what is live, whole functions, and the parts that printed plans are made of.
  Plans: the parts that printed plans are made of.
  Data of the program's types.
  The program's functions, by the numbers that plans have for them.
  Functions of the program: what they compute, and plans of their code that the kernel checks (printed by a program of ours).
-/
import Derived.Test.YtgligibbgobmnaaPt04
import Derived.Test.YtgligibbgobmnaaChecked
import Derived.KernelRfl
namespace Go.Proofs.Ytgligibbgobmnaa
open Go.RowKit
set_option linter.unusedVariables false
set_option linter.unusedSimpArgs false

inductive Tree : Type 1 where
  | tt
  | bad
  | step (t : Tree)
  | all (β : Type) (f : β → Tree)
  | and (a b : Tree)
  | eq (β : Type) (a b : β) (t : Tree)

def Tree.Ok : Tree → Prop
  | .tt => True
  | .bad => False
  | .step t => t.Ok
  | .all _ f => ∀ v, (f v).Ok
  | .and a b => a.Ok ∧ b.Ok
  | .eq _ a b t => a = b ∧ t.Ok

def Tree.norm : Tree → Tree
  | .tt => .tt
  | .bad => .tt
  | .step t => .step t.norm
  | .all β f => .all β fun v => (f v).norm
  | .and a b => .and a.norm b.norm
  | .eq β a _ t => .eq β a a t.norm

theorem Tree.ok : ∀ {t : Tree}, t = t.norm → t.Ok := by
  intro t
  induction t with
  | tt => exact fun _ => trivial
  | bad => intro h; cases h
  | step t ih => intro h; simp only [Tree.norm, Tree.step.injEq] at h; exact ih h
  | all β f ih =>
    intro h v
    simp only [Tree.norm, Tree.all.injEq, heq_eq_eq, true_and] at h
    exact ih v (congrFun h v)
  | and a b iha ihb => intro h; simp only [Tree.norm, Tree.and.injEq] at h; exact ⟨iha h.1, ihb h.2⟩
  | eq β a b t ih => intro h; simp only [Tree.norm, Tree.eq.injEq, heq_eq_eq, true_and] at h; exact ⟨h.1.symm, ih h.2⟩

abbrev Fact := List Orc × List Prop
abbrev Facts := List (Nat × Fact)
def FactsOk (Φ : Facts) : Prop := ∀ k f, alGet Φ k = some f → AllP f.2

structure Spec (β : Type) where
  ks : List Nat
  ov : β → List (Nat × AV)
  hs : List Nat
  oh : β → List (Nat × AObj)
  nx : Nat
  bel : ∀ b, Belows nx (oh b)

def keepH (hs : List Nat) (heap : List (Nat × AObj)) : List (Nat × AObj) := heap.filter fun p => hs.contains p.1
def Spec.st {β : Type} (sp : Spec β) (st : St) (b : β) : St := ⟨sp.ov b ++ keepEnv sp.ks st.env, sp.oh b ++ keepH sp.hs st.heap, sp.nx⟩
def Spec.sti {β : Type} (sp : Spec β) (st : St) (idx : Nat) (n : Int) (b : β) : St := ⟨(idx, vI n) :: (sp.ov b ++ keepEnv sp.ks st.env), sp.oh b ++ keepH sp.hs st.heap, sp.nx⟩

structure WStep where
  to : St → St
  T : St → Tree → Tree
  ok : ∀ st t, (T st t).Ok → t.Ok ∧ Weak st (to st) ∧ st.next ≤ (to st).next

inductive Plan : Type → Type 1 where
  | ret {α : Type} (a : α) : Plan α
  | fin {α : Type} (ids : List Nat) (V : AV) (objs : List (Nat × AObj)) (iv : IV) (h : SnapP [V] objs [iv]) (a : α) : Plan α
  | finL {α : Type} (x y : AV) (h : LeV2 x y) (a : α) : Plan α
  | none {α : Type} : Plan α
  | bind {α β : Type} (x : Option β) (F : β → Facts) (h : ∀ v, x = some v → FactsOk (F v)) (k : β → Plan α) : Plan α
  | ite {α : Type} (key : Nat) (b : Bool) (p q : Plan α) : Plan α
  | fact {α : Type} (key : Nat) (o : List Orc) (ps : List Prop) (h : AllP ps) (p : Plan α) : Plan α
  | use {α : Type} (j key : Nat) (p : Plan α) : Plan α
  | case {α β γ : Type} (o : β ⊕ γ) (p : β → Plan α) (q : γ → Plan α) : Plan α
  | cut {α β : Type} (n : Nat) (sp : Spec β) (p : Plan β) (k : β → Plan α) : Plan α
  | cutO {α β γ : Type} (n : Nat) (sp : Spec β) (p : Plan (β ⊕ γ)) (k : β ⊕ γ → Plan α) : Plan α
  | forR {α σ ρ : Type} (key idx : Nat) (n : Int) (s0 : σ) (sp : Spec σ) (body : Nat → σ → Plan (σ ⊕ ρ)) (k : σ ⊕ ρ → Plan α) : Plan α
  | iter {α σ ρ : Type} (s0 : σ) (sp : Spec σ) (body : σ → Plan (σ ⊕ ρ)) (k : ρ → Plan α) : Plan α
  | weak {α : Type} (n : Nat) (ws : List WStep) (p : Plan α) : Plan α
  | reg {α : Type} (n : Nat) (p : Plan α) : Plan α

noncomputable def Plan.run {α : Type} (p : Plan α) : Option α := Plan.rec (motive := fun α _ => Option α)
  (fun a => some a) (fun _ _ _ _ _ a => some a) (fun _ _ _ a => some a) Option.none
  (fun x _ _ _ ih => Option.bind x ih) (fun _ b _ _ ihp ihq => bif b then ihp else ihq) (fun _ _ _ _ _ ih => ih) (fun _ _ _ ih => ih)
  (fun o _ _ ihp ihq => Sum.elim ihp ihq o) (fun _ _ _ _ ihp ihk => Option.bind ihp ihk) (fun _ _ _ _ ihp ihk => Option.bind ihp ihk)
  (fun _ _ n s0 _ _ _ ihb ihk => Option.bind (Go.Proofs.Ytgligibbgobmnaa.forR n ihb s0) ihk)
  (fun s0 _ _ _ ihb ihk => Option.bind (Go.Proofs.Ytgligibbgobmnaa.iter ihb s0) ihk) (fun _ _ _ ih => ih) (fun _ _ ih => ih) p

noncomputable def settle {α : Type} (p : Plan α) (Φ : Facts) (k : Facts → Plan α → Tree) : Tree := Plan.rec (motive := fun α _ => Facts → (Facts → Plan α → Tree) → Tree)
  (fun a Φ k => k Φ (.ret a)) (fun ids V objs iv h a Φ k => k Φ (.fin ids V objs iv h a)) (fun x y h a Φ k => k Φ (.finL x y h a)) (fun Φ k => .tt)
  (fun {_ β} x F h _ ih Φ k => .all β fun v => ih v (F v ++ Φ) k)
  (fun key b _ _ ihp ihq Φ k => .and (ihp ((key, ([.g true], [b = true])) :: (key + 1, ([.g false], [(!b) = false])) :: Φ) k) (ihq ((key, ([.g false], [b = false])) :: (key + 1, ([.g true], [(!b) = true])) :: Φ) k))
  (fun key o ps h _ ih Φ k => ih ((key, (o, ps)) :: Φ) k) (fun j key p _ Φ k => k Φ (.use j key p))
  (fun o _ _ ihp ihq Φ k => match o with
    | .inl a => ihp a Φ k
    | .inr b => ihq b Φ k)
  (fun n sp p kk _ _ Φ k => k Φ (.cut n sp p kk)) (fun n sp p kk _ _ Φ k => k Φ (.cutO n sp p kk))
  (fun key idx n s0 sp body kk _ _ Φ k => k Φ (.forR key idx n s0 sp body kk)) (fun s0 sp body kk _ _ Φ k => k Φ (.iter s0 sp body kk))
  (fun n ws p _ Φ k => k Φ (.weak n ws p)) (fun n p _ Φ k => k Φ (.reg n p)) p Φ k

theorem FactsOk.add {Φ : Facts} (h : FactsOk Φ) {key : Nat} {f : Fact} (hf : AllP f.2) : FactsOk ((key, f) :: Φ) := fun k g hg => by
  simp only [alGet] at hg
  split at hg
  · cases hg; exact hf
  · exact h k g hg

theorem alGet_or {α : Type} : ∀ {l m : List (Nat × α)} {k : Nat} {x : α}, alGet (l ++ m) k = some x → alGet l k = some x ∨ alGet m k = some x
  | [], m, k, x, h => .inr h
  | (k', y) :: l, m, k, x, h => by
    simp only [List.cons_append, alGet] at h ⊢
    split at h
    · rename_i e; rw [if_pos e]; exact .inl h
    · rename_i e; rw [if_neg e]; exact alGet_or h
theorem FactsOk.app {Φ Ψ : Facts} (h : FactsOk Φ) (h' : FactsOk Ψ) : FactsOk (Φ ++ Ψ) := fun k f hf => (alGet_or hf).elim (h k f) (h' k f)
theorem FactsOk.nil : FactsOk [] := fun _ _ h => by cases h

theorem settle_ok {α : Type} (p : Plan α) : ∀ {Φ : Facts} {k : Facts → Plan α → Tree} {r : α}, FactsOk Φ → (settle p Φ k).Ok → p.run = some r → ∃ Φ' p', FactsOk Φ' ∧ p'.run = some r ∧ (k Φ' p').Ok := by
  induction p with
  | ret a => exact fun hΦ hk hr => ⟨_, _, hΦ, hr, hk⟩
  | fin ids V objs iv h a => exact fun hΦ hk hr => ⟨_, _, hΦ, hr, hk⟩
  | finL x y h a => exact fun hΦ hk hr => ⟨_, _, hΦ, hr, hk⟩
  | none => intro Φ k r hΦ hk hr; cases hr
  | bind x F h kk ih =>
    intro Φ k r hΦ hk hr
    obtain ⟨v, h1, h2⟩ := obind hr
    exact ih v ((h v h1).app hΦ) (hk v) h2
  | ite key b p q ihp ihq =>
    intro Φ k r hΦ hk hr
    have hr' : (bif b then p.run else q.run) = some r := hr
    cases b with
    | true => exact ihp ((hΦ.add (f := ([.g false], [(!true) = false])) (.cons rfl .nil)).add (f := ([.g true], [true = true])) (.cons rfl .nil)) hk.1 hr'
    | false => exact ihq ((hΦ.add (f := ([.g true], [(!false) = true])) (.cons rfl .nil)).add (f := ([.g false], [false = false])) (.cons rfl .nil)) hk.2 hr'
  | fact key o ps h p ih => exact fun hΦ hk hr => ih (hΦ.add (f := (o, ps)) h) hk hr
  | use j key p ih => exact fun hΦ hk hr => ⟨_, _, hΦ, hr, hk⟩
  | case o p q ihp ihq =>
    intro Φ k r hΦ hk hr
    cases o with
    | inl a => exact ihp a hΦ hk hr
    | inr b => exact ihq b hΦ hk hr
  | cut n sp p kk _ _ => exact fun hΦ hk hr => ⟨_, _, hΦ, hr, hk⟩
  | cutO n sp p kk _ _ => exact fun hΦ hk hr => ⟨_, _, hΦ, hr, hk⟩
  | forR key idx n s0 sp body kk _ _ => exact fun hΦ hk hr => ⟨_, _, hΦ, hr, hk⟩
  | iter s0 sp body kk _ _ => exact fun hΦ hk hr => ⟨_, _, hΦ, hr, hk⟩
  | weak n ws p ih => exact fun hΦ hk hr => ⟨_, _, hΦ, hr, hk⟩
  | reg n p ih => exact fun hΦ hk hr => ⟨_, _, hΦ, hr, hk⟩

def Plan.used {α : Type} (p : Plan α) (j : Nat) : Option (Nat × Plan α) := match p with
  | .use j' key q => match Nat.beq j' j with
    | true => some (key, q)
    | false => Option.none
  | _ => Option.none

theorem used_run {α : Type} {p q : Plan α} {j key : Nat} (h : p.used j = some (key, q)) : q.run = p.run := by
  unfold Plan.used at h
  split at h
  · split at h
    · cases h; rfl
    · cases h
  · cases h

section
variable (C : Ctx)

def chkOp {α : Type} (dr : Option (List Nat)) (it : AItem) (j : Nat) (W R : List (Nat × Nat)) (D : List Nat) (st : St) (Φ : Facts) (p : Plan α) (next : List (Nat × Nat) → List (Nat × Nat) → List Nat → St → Facts → Plan α → Tree) : Tree := match p.used j with
  | Option.none => match opX C it.op [] D st with
    | some (r, ups, rd, _, [], d) => match ordX dr j W R ups rd d with
      | true => next (addAt j (upIds ups) W) (addAt j rd R) (dropD D it.dst) (st.afterD it.dst r ups d) Φ p
      | false => .bad
    | _ => .bad
  | some (key, q) => match alGet Φ key with
    | Option.none => .bad
    | some (o, ps) => match opX C it.op o D st with
      | some (r, ups, rd, _, ps', d) => .eq (List Prop) ps' ps (match ordX dr j W R ups rd d with
        | true => next (addAt j (upIds ups) W) (addAt j rd R) (dropD D it.dst) (st.afterD it.dst r ups d) Φ q
        | false => .bad)
      | Option.none => .bad

def chkG {α : Type} (gd : Option (Nat × Bool)) (j : Nat) (D : List Nat) (st : St) (Φ : Facts) (p : Plan α) (next : Bool → List Nat → St → Facts → Plan α → Tree) : Tree := match guardX gd [] D st with
  | some (b, _, [], D', st') => next b D' st' Φ p
  | some (_, _, _ :: _, _, _) => .bad
  | Option.none => match p.used j with
    | Option.none => .bad
    | some (key, q) => match alGet Φ key with
      | Option.none => .bad
      | some (o, ps) => match guardX gd o D st with
        | some (b, _, ps', D', st') => .eq (List Prop) ps' ps (next b D' st' Φ q)
        | Option.none => .bad

noncomputable def chkI {α : Type} (dr : Option (List Nat)) : List AItem → Nat → List (Nat × Nat) → List (Nat × Nat) → List Nat → St → Facts → Plan α → (St → Facts → Plan α → Tree) → Tree
  | [], _, _, _, _, st, Φ, p, k => k st Φ p
  | it :: rest, j, W, R, D, st, Φ, p, k => settle p Φ fun Φ p => chkG it.guard j D st Φ p fun b D st Φ p => match b with
    | false => chkI dr rest (j + 1) W R (dropD D it.dst) (st.after it.dst .undef []) Φ p k
    | true => settle p Φ fun Φ p => chkOp C dr it j W R D st Φ p fun W R D st Φ p => chkI dr rest (j + 1) W R D st Φ p k
end

section
variable {C : Ctx}

theorem chkG_ok {α : Type} {gd : Option (Nat × Bool)} {j : Nat} {D : List Nat} {st : St} {Φ : Facts} {p : Plan α} {next : Bool → List Nat → St → Facts → Plan α → Tree} {r : α} (hΦ : FactsOk Φ) (hr : p.run = some r) (h : (chkG gd j D st Φ p next).Ok) :
    ∃ b D' q, guardOf st.env gd = some b ∧ q.run = some r ∧ (next b D' st Φ q).Ok := by
  unfold chkG at h
  split at h
  · rename_i b _ D' st' hg
    obtain ⟨rfl, h1⟩ := guardX_some hg .nil
    exact ⟨b, D', p, h1, hr, h⟩
  · exact h.elim
  · split at h
    · exact h.elim
    · rename_i key q hu
      split at h
      · exact h.elim
      · rename_i o ps hk
        split at h
        · rename_i b _ ps' D' st' hg
          obtain ⟨h1, h2⟩ := h
          subst h1
          obtain ⟨rfl, h3⟩ := guardX_some hg (hΦ _ _ hk)
          exact ⟨b, D', q, h3, (used_run hu).trans hr, h2⟩
        · exact h.elim

theorem chkOp_ok {α : Type} {dr : Option (List Nat)} {it : AItem} {j : Nat} {W R : List (Nat × Nat)} {D : List Nat} {st : St} {Φ : Facts} {p : Plan α} {next : List (Nat × Nat) → List (Nat × Nat) → List Nat → St → Facts → Plan α → Tree} {r : α} (hΦ : FactsOk Φ) (hr : p.run = some r) (h : (chkOp C dr it j W R D st Φ p next).Ok) :
    ∃ o x ups rd o' ps d D' q, opX C it.op o D st = some (x, ups, rd, o', ps, d) ∧ AllP ps ∧ ordX dr j W R ups rd d = true ∧ q.run = some r ∧ (next (addAt j (upIds ups) W) (addAt j rd R) D' (st.afterD it.dst x ups d) Φ q).Ok := by
  unfold chkOp at h
  split at h
  · split at h
    · rename_i x ups rd o' d hop
      split at h
      · rename_i ho; exact ⟨[], x, ups, rd, o', [], d, _, p, hop, .nil, ho, hr, h⟩
      · exact h.elim
    · exact h.elim
  · rename_i key q hu
    split at h
    · exact h.elim
    · rename_i o ps hk
      split at h
      · rename_i x ups rd o' ps' d hop
        obtain ⟨h1, h2⟩ := h
        subst h1
        split at h2
        · rename_i ho; exact ⟨o, x, ups, rd, o', ps', d, _, q, hop, hΦ _ _ hk, ho, (used_run hu).trans hr, h2⟩
        · exact h2.elim
      · exact h.elim

theorem chkI_evl {α : Type} {r : α} {K : St → Prop} {k : St → Facts → Plan α → Tree} (hK : ∀ st Φ p, FactsOk Φ → p.run = some r → (k st Φ p).Ok → K st) : ∀ (items : List AItem) (j : Nat) (W R : List (Nat × Nat)) (D : List Nat) (st : St) (Φ : Facts) (p : Plan α),
    FactsOk Φ → p.run = some r → (chkI C Option.none items j W R D st Φ p k).Ok → evl C items K st
  | [], j, W, R, D, st, Φ, p, hΦ, hr, h => hK st Φ p hΦ hr h
  | it :: rest, j, W, R, D, st, Φ, p, hΦ, hr, h => by
    simp only [chkI] at h
    obtain ⟨Φ1, p1, hΦ1, hr1, h1⟩ := settle_ok p hΦ h hr
    obtain ⟨b, D2, p2, hg, hr2, h2⟩ := chkG_ok hΦ1 hr1 h1
    refine evIt_of hg (fun hb => ?_) (fun hb => ?_)
    · subst hb
      obtain ⟨Φ3, p3, hΦ3, hr3, h3⟩ := settle_ok p2 hΦ1 h2 hr2
      obtain ⟨o, x, ups, rd, o', ps, d, D', q, e1, e2, e3, e4, e5⟩ := chkOp_ok hΦ3 hr3 h3
      exact opX_ev e1 e2 (chkI_evl hK rest _ _ _ _ _ _ _ hΦ3 e4 e5)
    · subst hb
      exact chkI_evl hK rest _ _ _ _ _ _ _ hΦ1 hr2 h2

theorem chkI_evd {α : Type} {r : α} {K : St → Prop} {ord : List Nat} {k : St → Facts → Plan α → Tree} (hK : ∀ st Φ p, FactsOk Φ → p.run = some r → (k st Φ p).Ok → K st) : ∀ (items : List AItem) (j : Nat) (W R : List (Nat × Nat)) (D : List Nat) (st : St) (Φ : Facts) (p : Plan α),
    FactsOk Φ → p.run = some r → (chkI C (some ord) items j W R D st Φ p k).Ok → evd C ord K items j W R st
  | [], j, W, R, D, st, Φ, p, hΦ, hr, h => hK st Φ p hΦ hr h
  | it :: rest, j, W, R, D, st, Φ, p, hΦ, hr, h => by
    simp only [chkI] at h
    obtain ⟨Φ1, p1, hΦ1, hr1, h1⟩ := settle_ok p hΦ h hr
    obtain ⟨b, D2, p2, hg, hr2, h2⟩ := chkG_ok hΦ1 hr1 h1
    refine dIt_of hg (fun hb => ?_) (fun hb => ?_)
    · subst hb
      obtain ⟨Φ3, p3, hΦ3, hr3, h3⟩ := settle_ok p2 hΦ1 h2 hr2
      obtain ⟨o, x, ups, rd, o', ps, d, D', q, e1, e2, e3, e4, e5⟩ := chkOp_ok hΦ3 hr3 h3
      simp only [ordX, Bool.and_eq_true, beq_iff_eq] at e3
      obtain ⟨rfl, hok⟩ := e3
      exact opX_d e1 rfl e2 ⟨hok, chkI_evd hK rest _ _ _ _ _ _ _ hΦ3 e4 e5⟩
    · subst hb
      exact ⟨okAt_nil _ _ _ _, chkI_evd hK rest _ _ _ _ _ _ _ hΦ1 hr2 h2⟩
end

def weakE (m : Nat) (env : List (Nat × AV)) (t : Tree) : List (Nat × AV) → Tree
  | [] => t
  | (k, b) :: l => match alGet env k with
    | some a => match avBelow m b with
      | true => .eq AV a b (weakE m env t l)
      | false => .bad
    | Option.none => .bad
def weakH (m : Nat) (heap : List (Nat × AObj)) (t : Tree) : List (Nat × AObj) → Tree
  | [] => t
  | (k, b) :: l => match alGet heap k with
    | some a => match objB m b && decide (k < m) with
      | true => .eq AObj a b (weakH m heap t l)
      | false => .bad
    | Option.none => .bad
def weakO (heap : List (Nat × AObj)) (t : Tree) : List (Nat × AObj) → Tree
  | [] => t
  | (k, b) :: l => match alGet heap k with
    | some a => .eq AObj a b (weakO heap t l)
    | Option.none => .bad

theorem weakE_ok {m : Nat} {env : List (Nat × AV)} {t : Tree} : ∀ {l : List (Nat × AV)}, (weakE m env t l).Ok → t.Ok ∧ ∀ p ∈ l, alGet env p.1 = some p.2 ∧ avBelow m p.2 = true
  | [], h => ⟨h, fun p hp => by cases hp⟩
  | (k, b) :: l, h => by
    simp only [weakE] at h
    split at h
    · rename_i a ha
      split at h
      · rename_i hb
        obtain ⟨rfl, h2⟩ := h
        obtain ⟨h3, h4⟩ := weakE_ok h2
        refine ⟨h3, fun p hp => ?_⟩
        rcases List.mem_cons.1 hp with rfl | hp
        · exact ⟨ha, hb⟩
        · exact h4 p hp
      · exact h.elim
    · exact h.elim
theorem weakH_ok {m : Nat} {heap : List (Nat × AObj)} {t : Tree} : ∀ {l : List (Nat × AObj)}, (weakH m heap t l).Ok → t.Ok ∧ ∀ p ∈ l, alGet heap p.1 = some p.2 ∧ p.1 < m ∧ objBelow m p.2
  | [], h => ⟨h, fun p hp => by cases hp⟩
  | (k, b) :: l, h => by
    simp only [weakH] at h
    split at h
    · rename_i a ha
      split at h
      · rename_i hb
        simp only [Bool.and_eq_true, decide_eq_true_eq] at hb
        obtain ⟨rfl, h2⟩ := h
        obtain ⟨h3, h4⟩ := weakH_ok h2
        refine ⟨h3, fun p hp => ?_⟩
        rcases List.mem_cons.1 hp with rfl | hp
        · exact ⟨ha, hb.2, objB_below hb.1⟩
        · exact h4 p hp
      · exact h.elim
    · exact h.elim
theorem weakO_ok {heap : List (Nat × AObj)} {t : Tree} : ∀ {l : List (Nat × AObj)}, (weakO heap t l).Ok → t.Ok ∧ ∀ p ∈ l, alGet heap p.1 = some p.2
  | [], h => ⟨h, fun p hp => by cases hp⟩
  | (k, b) :: l, h => by
    simp only [weakO] at h
    split at h
    · rename_i a ha
      obtain ⟨rfl, h2⟩ := h
      obtain ⟨h3, h4⟩ := weakO_ok h2
      refine ⟨h3, fun p hp => ?_⟩
      rcases List.mem_cons.1 hp with rfl | hp
      · exact ha
      · exact h4 p hp
    · exact h.elim

def weakT (nx : Nat) (ov e0 : List (Nat × AV)) (oh h0 : List (Nat × AObj)) (st : St) (t : Tree) : Tree := match Nat.ble nx st.next with
  | true => weakE nx st.env (weakE nx st.env (weakO st.heap (weakH nx st.heap t h0) oh) e0) ov
  | false => .bad

theorem weakT_ok {nx : Nat} {ov e0 : List (Nat × AV)} {oh h0 : List (Nat × AObj)} {st : St} {t : Tree} (hb : Belows nx oh) (h : (weakT nx ov e0 oh h0 st t).Ok) : t.Ok ∧ Weak st ⟨ov ++ e0, oh ++ h0, nx⟩ := by
  unfold weakT at h
  split at h
  · rename_i hn
    obtain ⟨h1, a1⟩ := weakE_ok h
    obtain ⟨h2, a2⟩ := weakE_ok h1
    obtain ⟨h3, a3⟩ := weakO_ok h2
    obtain ⟨h4, a4⟩ := weakH_ok h3
    refine ⟨h4, weak_of (Nat.le_of_ble_eq_true hn) (fun p hp => ?_) (fun p hp => ?_)⟩
    · rcases List.mem_append.1 hp with hp | hp
      · exact a1 p hp
      · exact a2 p hp
    · rcases List.mem_append.1 hp with hp | hp
      · exact ⟨a3 p hp, hb.all p hp⟩
      · exact a4 p hp
  · exact h.elim

def Spec.weak {β : Type} (sp : Spec β) (st0 st : St) (b : β) (t : Tree) : Tree := weakT sp.nx (sp.ov b) (keepEnv sp.ks st0.env) (sp.oh b) (keepH sp.hs st0.heap) st t
theorem Spec.weak_ok {β : Type} {sp : Spec β} {st0 st : St} {b : β} {t : Tree} (h : (sp.weak st0 st b t).Ok) : t.Ok ∧ Weak st (sp.st st0 b) := weakT_ok (sp.bel b) h

def Spec.weaki {β : Type} (sp : Spec β) (st0 st : St) (idx : Nat) (v : AV) (b : β) (t : Tree) : Tree := match alGet st.env idx with
  | some a => .eq AV a v (sp.weak st0 st b t)
  | Option.none => .bad
theorem Spec.weaki_ok {β : Type} {sp : Spec β} {st0 st : St} {idx : Nat} {n : Int} {v : AV} {b : β} {t : Tree} (hv : v = vI n) (h : (sp.weaki st0 st idx v b t).Ok) : t.Ok ∧ Weak st (sp.sti st0 idx n b) := by
  unfold Spec.weaki at h
  split at h
  · rename_i a ha
    obtain ⟨rfl, h1⟩ := h
    have hn : sp.nx ≤ st.next := by
      unfold Spec.weak weakT at h1
      split at h1
      · rename_i hn; exact Nat.le_of_ble_eq_true hn
      · exact h1.elim
    unfold Spec.weak weakT at h1
    split at h1
    · obtain ⟨h1, a1⟩ := weakE_ok h1
      obtain ⟨h2, a2⟩ := weakE_ok h1
      obtain ⟨h3, a3⟩ := weakO_ok h2
      obtain ⟨h4, a4⟩ := weakH_ok h3
      refine ⟨h4, weak_of hn (fun p hp => ?_) (fun p hp => ?_)⟩
      · rcases List.mem_cons.1 hp with rfl | hp
        · exact ⟨by rw [ha, hv], rfl⟩
        rcases List.mem_append.1 hp with hp | hp
        · exact a1 p hp
        · exact a2 p hp
      · rcases List.mem_append.1 hp with hp | hp
        · exact ⟨a3 p hp, (sp.bel b).all p hp⟩
        · exact a4 p hp
    · exact h1.elim
  · exact h.elim
end Go.Proofs.Ytgligibbgobmnaa
namespace Go.Proofs.Ytgligibbgobmnaa
open Go.RowKit
set_option linter.unusedVariables false
set_option linter.unusedSimpArgs false

def Plan.dec {α : Type} (p : Plan α) : Plan α := match p with
  | .cut (n + 1) sp q k => .cut n sp q k
  | .cutO (n + 1) sp q k => .cutO n sp q k
  | .weak (n + 1) w q => .weak n w q
  | p => p
theorem dec_run {α : Type} (p : Plan α) : p.dec.run = p.run := by
  unfold Plan.dec; split <;> rfl

def Plan.enter {α : Type} (p : Plan α) : Plan α := match p with
  | .reg 0 q => q
  | .reg (n + 1) q => .reg n q
  | p => p
theorem enter_run {α : Type} (p : Plan α) : p.enter.run = p.run := by
  unfold Plan.enter; split <;> rfl

abbrev KT (α : Type) := Exit → St → Facts → Plan α → Tree
abbrev CT := (α : Type) → St → Facts → Plan α → KT α → Tree

noncomputable def cutK {β : Type} (sp : Spec β) (st0 : St) : KT β := fun e s Φ q => match e with
  | .normal => settle q Φ fun _ q => match q with
    | .ret b => sp.weak st0 s b .tt
    | _ => .bad
  | _ => .bad
noncomputable def cutKO {α β γ : Type} (sp : Spec β) (st0 : St) (kk : β ⊕ γ → Plan α) (k : KT α) : KT (β ⊕ γ) := fun e s Φ q => settle q Φ fun Φ q => match e with
  | .normal => match q with
    | .ret (.inl b) => sp.weak st0 s b .tt
    | _ => .bad
  | e => match q with
    | .ret (.inr c) => k e s Φ (kk (.inr c))
    | _ => .bad

noncomputable def cutW (go : CT) : CT := fun α st Φ p k => .step (settle p Φ fun Φ p => match p with
  | .cut (β := β) 0 sp q kk => match Nat.ble st.next sp.nx with
    | true => .and (go β st Φ q (cutK sp st)) (.all β fun b => k .normal (sp.st st b) Φ (kk b))
    | false => .bad
  | .cutO (β := β) (γ := γ) 0 sp q kk => match Nat.ble st.next sp.nx with
    | true => .and (go (β ⊕ γ) st Φ q (cutKO sp st kk k)) (.all β fun b => k .normal (sp.st st b) Φ (kk (.inl b)))
    | false => .bad
  | p => go α st Φ p k)
def weaks : List WStep → St → (St → Tree) → Tree
  | [], st, f => f st
  | w :: ws, st, f => w.T st (weaks ws (w.to st) f)
noncomputable def weakW (go : CT) : CT := fun α st Φ p k => settle p Φ fun Φ p => match p with
  | .weak 0 ws q => weaks ws st fun st => go α st Φ q k
  | p => go α st Φ p k

noncomputable def loopK {α σ ρ : Type} (kk : ρ → Plan α) (W : St → σ → Tree) (k : KT α) : KT (σ ⊕ ρ) := fun e s Φ q => settle q Φ fun Φ q => match e with
  | .normal => match q with
    | .ret (.inl s') => W s s'
    | _ => .bad
  | e => match q with
    | .ret (.inr y) => k e s Φ (kk y)
    | _ => .bad

variable (C : Ctx)

noncomputable def chk : ACode → CT
  | .skip => weakW <| cutW <| weakW fun α st Φ p k => k .normal st Φ p
  | .region d o items ks => weakW <| cutW <| weakW fun α st Φ p k => chkI C (match d with | true => some o | false => Option.none) items 0 [] [] [] st Φ p.enter fun s Φ p => k .normal (s.keep ks) Φ p
  | .seq x y => weakW <| cutW <| weakW fun α st Φ p k => chk x α st Φ p.dec fun e s Φ q => match e with
    | .normal => chk y α s Φ q k
    | e => k e s Φ q
  | .cond c x y => weakW <| cutW <| weakW fun α st Φ p k => match evEnv st.env c with
    | .imm (.bool b) => match p.used 999 with
      | some (key, q) => match alGet Φ key with
        | some ([.g true], ps) => .eq (List Prop) ps [b = true] (chk x α st Φ q k)
        | some ([.g false], ps) => .eq (List Prop) ps [b = false] (chk y α st Φ q k)
        | _ => .bad
      | Option.none => match b with
        | true => chk x α st Φ p k
        | false => chk y α st Φ p k
    | _ => .bad
  | .block id x => weakW <| cutW <| weakW fun α st Φ p k => chk x α st Φ p.dec fun e s Φ q => match e with
    | .exit i => match Nat.beq i id with
      | true => k .normal s Φ q
      | false => k (.exit i) s Φ q
    | e => k e s Φ q
  | .scope x => weakW <| cutW <| weakW fun α st Φ p k => chk x α st Φ p.dec fun e s Φ q => match e with
    | .goto _ => .bad
    | e => k e s Φ q
  | .exit id => weakW <| cutW <| weakW fun α st Φ p k => k (.exit id) st Φ p
  | .ret => weakW <| cutW <| weakW fun α st Φ p k => k .ret st Φ p
  | .loop x => weakW <| cutW <| weakW fun α st Φ p k => match p with
    | .forR (σ := σ) (ρ := ρ) key idx n s0 sp body kk => match Nat.beq sp.nx st.next with
      | true => .and (sp.weaki st st idx (vI 0) s0 .tt) (.and
        (.all Nat fun i => .all σ fun s => chk x (σ ⊕ ρ) (sp.sti st idx (i : Int) s) ((key, ([.g true], [decide ((i : Int) < n) = true])) :: (key + 1, ([.g false], [(!decide ((i : Int) < n)) = false])) :: Φ) (body i s) (loopK (fun y => kk (.inr y)) (fun st' s' => sp.weaki st st' idx (vI (IntKind.i64.wrap ((i : Int) + 1))) s' .tt) k))
        (.all Nat fun i => .all σ fun s => chk x α (sp.sti st idx (i : Int) s) ((key, ([.g false], [decide ((i : Int) < n) = false])) :: (key + 1, ([.g true], [(!decide ((i : Int) < n)) = true])) :: Φ) (kk (.inl s)) fun e s Φ q => match e with
          | .normal => .bad
          | e => k e s Φ q))
      | false => .bad
    | .iter (σ := σ) (ρ := ρ) s0 sp body kk => match Nat.beq sp.nx st.next with
      | true => .and (sp.weak st st s0 .tt) (.all σ fun s => chk x (σ ⊕ ρ) (sp.st st s) Φ (body s) (loopK kk (fun st' s' => sp.weak st st' s' .tt) k))
      | false => .bad
    | _ => .bad

variable {C : Ctx} {nt : Nat}

def Sound (C : Ctx) (nt : Nat) (c : ACode) (go : CT) : Prop := ∀ {α : Type} {r : α} (st : St) (Φ : Facts) (p : Plan α) (k : KT α) (K : Exit → St → Prop), FactsOk Φ → p.run = some r → (go α st Φ p k).Ok →
  (∀ e s Φ q, FactsOk Φ → q.run = some r → (k e s Φ q).Ok → K e s) → awp C nt c K st

theorem awp_post {x : ACode} {K : Exit → St → Prop} {st : St} (ST : St) (hn : st.next ≤ ST.next) (hK : K .normal ST) (hx : awp C nt x (Then (fun s => Weak s ST) K) st) : awp C nt x K st := by
  intro code hc g a w R
  refine Code.wp_mono ?_ (hx code hc g a w R)
  rintro e a' w' ⟨st', g', hk, R', E'⟩
  cases e with
  | normal =>
    obtain ⟨g2, R2, hE2⟩ := hk C nt g' a' w' R'
    exact ⟨ST, g2, hK, R2, hE2 g st w hn E'⟩
  | _ => exact ⟨st', g', hk, R', E'⟩

theorem cutW_sound {c : ACode} {go : CT} (h : Sound C nt c go) : Sound C nt c (cutW go) := by
  intro α r st Φ p k K hΦ hr hok hk
  obtain ⟨Φ1, p1, hΦ1, hr1, h1⟩ := settle_ok p hΦ hok hr
  split at h1
  · rename_i β sp q kk
    split at h1
    · rename_i hn
      obtain ⟨b, hb1, hb2⟩ := obind (show Option.bind q.run (fun b => (kk b).run) = some r from hr1)
      refine awp_post (sp.st st b) (Nat.le_of_ble_eq_true hn) (hk _ _ _ _ hΦ1 hb2 (h1.2 b)) ?_
      refine h st Φ1 q (cutK sp st) _ hΦ1 hb1 h1.1 ?_
      intro e s Φ2 q2 hΦ2 hr2 h2
      cases e with
      | normal =>
        obtain ⟨Φ3, q3, hΦ3, hr3, h3⟩ := settle_ok q2 hΦ2 h2 hr2
        split at h3
        · cases hr3; exact (Spec.weak_ok h3).2
        · exact h3.elim
      | _ => exact h2.elim
    · exact h1.elim
  · rename_i β γ sp q kk
    split at h1
    · rename_i hn
      obtain ⟨d, hd1, hd2⟩ := obind (show Option.bind q.run (fun b => (kk b).run) = some r from hr1)
      have key : ∀ (e : Exit) (s : St) (Φ2 : Facts) (q2 : Plan (β ⊕ γ)), FactsOk Φ2 → q2.run = some d → (cutKO sp st kk k e s Φ2 q2).Ok → (∃ b, d = .inl b ∧ e = .normal ∧ Weak s (sp.st st b)) ∨ (e ≠ .normal ∧ (∃ y, d = .inr y) ∧ K e s) := by
        intro e s Φ2 q2 hΦ2 hr2 h2
        obtain ⟨Φ3, q3, hΦ3, hr3, h3⟩ := settle_ok q2 hΦ2 h2 hr2
        split at h3
        · split at h3
          · rename_i b; exact .inl ⟨b, (Option.some.inj hr3).symm, rfl, (Spec.weak_ok h3).2⟩
          · exact h3.elim
        · rename_i hne
          split at h3
          · rename_i y
            have : d = .inr y := (Option.some.inj hr3).symm
            subst this
            exact .inr ⟨hne, ⟨y, rfl⟩, hk _ _ _ _ hΦ3 hd2 h3⟩
          · exact h3.elim
      cases d with
      | inl b =>
        refine awp_post (sp.st st b) (Nat.le_of_ble_eq_true hn) (hk _ _ _ _ hΦ1 hd2 (h1.2 b)) ?_
        refine h st Φ1 q _ _ hΦ1 hd1 h1.1 ?_
        intro e s Φ2 q2 hΦ2 hr2 h2
        rcases key e s Φ2 q2 hΦ2 hr2 h2 with ⟨b', e1, rfl, e3⟩ | ⟨_, ⟨y, e1⟩, _⟩
        · cases e1; exact e3
        · cases e1
      | inr y =>
        refine h st Φ1 q _ _ hΦ1 hd1 h1.1 ?_
        intro e s Φ2 q2 hΦ2 hr2 h2
        rcases key e s Φ2 q2 hΦ2 hr2 h2 with ⟨b', e1, _, _⟩ | ⟨_, _, e3⟩
        · cases e1
        · exact e3
    · exact h1.elim
  · exact h st Φ1 p1 k K hΦ1 hr1 h1 hk

theorem weaks_ok {c : ACode} {K : Exit → St → Prop} {f : St → Tree} : ∀ (ws : List WStep) (st : St), (weaks ws st f).Ok → (∀ st', (f st').Ok → awp C nt c K st') → awp C nt c K st
  | [], st, h, hf => hf st h
  | w :: ws, st, h, hf => by
    obtain ⟨h1, h2, h3⟩ := w.ok _ _ h
    exact awp_weak h2 h3 (weaks_ok ws _ h1 hf)

theorem weakW_sound {c : ACode} {go : CT} (h : Sound C nt c go) : Sound C nt c (weakW go) := by
  intro α r st Φ p k K hΦ hr hok hk
  obtain ⟨Φ1, p1, hΦ1, hr1, h1⟩ := settle_ok p hΦ hok hr
  split at h1
  · rename_i ws q
    exact weaks_ok ws st h1 fun st' h2 => h st' Φ1 q k K hΦ1 hr1 h2 hk
  · exact h _ _ _ k K hΦ1 hr1 h1 hk

theorem loopK_ok {α σ ρ : Type} {kk : ρ → Plan α} {W : St → σ → Tree} {k : KT α} {o : σ ⊕ ρ} {e : Exit} {s : St} {Φ : Facts} {q : Plan (σ ⊕ ρ)} (hΦ : FactsOk Φ) (hr : q.run = some o) (h : (loopK kk W k e s Φ q).Ok) :
    (e = .normal ∧ ∃ s', o = .inl s' ∧ (W s s').Ok) ∨ (e ≠ .normal ∧ ∃ y Φ', o = .inr y ∧ FactsOk Φ' ∧ (k e s Φ' (kk y)).Ok) := by
  obtain ⟨Φ3, q3, hΦ3, hr3, h3⟩ := settle_ok q hΦ h hr
  split at h3
  · split at h3
    · rename_i s'; exact .inl ⟨rfl, s', (Option.some.inj hr3).symm, h3⟩
    · exact h3.elim
  · rename_i hne
    split at h3
    · rename_i y; exact .inr ⟨hne, y, Φ3, (Option.some.inj hr3).symm, hΦ3, h3⟩
    · exact h3.elim

theorem chk_sound : ∀ c : ACode, Sound C nt c (chk C c)
  | .skip => weakW_sound <| cutW_sound <| weakW_sound fun st Φ p k K hΦ hr h hk => awp_skip (hk _ _ _ _ hΦ hr h)
  | .region d o items ks => weakW_sound <| cutW_sound <| weakW_sound fun st Φ p k K hΦ hr h hk => by
    cases d with
    | false => exact awp_reg (chkI_evl (K := Kept ks K) (fun s Φ q h1 h2 h3 => hk _ _ _ _ h1 h2 h3) items 0 [] [] [] st Φ p.enter hΦ ((enter_run p).trans hr) h)
    | true => exact awp_evd (chkI_evd (fun s Φ q h1 h2 h3 => hk _ _ _ _ h1 h2 h3) items 0 [] [] [] st Φ p.enter hΦ ((enter_run p).trans hr) h)
  | .seq x y => weakW_sound <| cutW_sound <| weakW_sound fun st Φ p k K hΦ hr h hk => by
    refine awp_seq (chk_sound x st Φ p.dec _ _ hΦ ((dec_run p).trans hr) h ?_)
    intro e s Φ2 q2 hΦ2 hr2 h2
    cases e with
    | normal => exact chk_sound y s Φ2 q2 k K hΦ2 hr2 h2 hk
    | _ => exact hk _ _ _ _ hΦ2 hr2 h2
  | .cond c x y => weakW_sound <| cutW_sound <| weakW_sound fun st Φ p k K hΦ hr h hk => by
    split at h
    · rename_i b hc
      split at h
      · rename_i key q hu
        have hq := (used_run hu).trans hr
        split at h
        · rename_i ps hf
          obtain ⟨h1, h2⟩ := h
          have hb : b = true := by have := hΦ _ _ hf; simp only [h1] at this; exact this.one
          exact awp_cond b hc (fun _ => chk_sound x st Φ q k K hΦ hq h2 hk) (fun e => by rw [hb] at e; cases e)
        · rename_i ps hf
          obtain ⟨h1, h2⟩ := h
          have hb : b = false := by have := hΦ _ _ hf; simp only [h1] at this; exact this.one
          exact awp_cond b hc (fun e => by rw [hb] at e; cases e) (fun _ => chk_sound y st Φ q k K hΦ hq h2 hk)
        · exact h.elim
      · split at h
        · exact awp_cond true hc (fun _ => chk_sound x st Φ p k K hΦ hr h hk) (fun e => by cases e)
        · exact awp_cond false hc (fun e => by cases e) (fun _ => chk_sound y st Φ p k K hΦ hr h hk)
    · exact h.elim
  | .block id x => weakW_sound <| cutW_sound <| weakW_sound fun st Φ p k K hΦ hr h hk => by
    refine awp_block (chk_sound x st Φ p.dec _ _ hΦ ((dec_run p).trans hr) h ?_)
    intro e s Φ2 q2 hΦ2 hr2 h2
    cases e with
    | exit i =>
      have h2 : (match Nat.beq i id with
        | true => k .normal s Φ2 q2
        | false => k (.exit i) s Φ2 q2).Ok := h2
      simp only [InBlock]
      cases hb : Nat.beq i id with
      | true => rw [hb] at h2; rw [if_pos (Nat.eq_of_beq_eq_true hb)]; exact hk _ _ _ _ hΦ2 hr2 h2
      | false =>
        rw [hb] at h2
        rw [if_neg (fun e => by subst e; rw [Nat.beq_refl] at hb; cases hb)]
        exact hk _ _ _ _ hΦ2 hr2 h2
    | _ => exact hk _ _ _ _ hΦ2 hr2 h2
  | .scope x => weakW_sound <| cutW_sound <| weakW_sound fun st Φ p k K hΦ hr h hk => by
    refine awp_scope (chk_sound x st Φ p.dec _ _ hΦ ((dec_run p).trans hr) h ?_)
    intro e s Φ2 q2 hΦ2 hr2 h2
    cases e with
    | goto l => exact h2.elim
    | _ => exact hk _ _ _ _ hΦ2 hr2 h2
  | .exit id => weakW_sound <| cutW_sound <| weakW_sound fun st Φ p k K hΦ hr h hk => awp_exit (hk _ _ _ _ hΦ hr h)
  | .ret => weakW_sound <| cutW_sound <| weakW_sound fun st Φ p k K hΦ hr h hk => awp_ret (hk _ _ _ _ hΦ hr h)
  | .loop x => weakW_sound <| cutW_sound <| weakW_sound fun {α} {r} st Φ p k K hΦ hr h hk => by
    split at h
    · rename_i σ ρ key idx n s0 sp body kk
      split at h
      · rename_i hnx
        have hnx : sp.nx = st.next := Nat.eq_of_beq_eq_true hnx
        obtain ⟨h1, h2, h3⟩ := h
        obtain ⟨out, ho, hq⟩ := obind (show Option.bind (forR n (fun i s => (body i s).run) s0) (fun o => (kk o).run) = some r from hr)
        refine awp_forR ho (fun i s => (sp.sti st idx (i : Int) s).env) (fun i s => (sp.sti st idx (i : Int) s).heap) ?_ ?_ ?_
        · have := (Spec.weaki_ok (n := ((0 : Nat) : Int)) rfl h1).2
          simp only [Spec.sti, hnx] at this ⊢
          exact this
        · intro i s o hi hw hb
          have hst : (⟨(sp.sti st idx (i : Int) s).env, (sp.sti st idx (i : Int) s).heap, st.next⟩ : St) = sp.sti st idx (i : Int) s := by simp only [Spec.sti, hnx]
          rw [hst]
          refine chk_sound x _ _ (body i s) _ _ ((hΦ.add (f := ([.g false], [(!decide ((i : Int) < n)) = false])) (.cons (by rw [decide_eq_true hi]; rfl) .nil)).add (f := ([.g true], [decide ((i : Int) < n) = true])) (.cons (decide_eq_true hi) .nil)) hb (h2 i s) ?_
          intro e s2 Φ2 q2 hΦ2 hr2 h4
          rcases loopK_ok hΦ2 hr2 h4 with ⟨rfl, s', rfl, h5⟩ | ⟨hne, y, Φ3, rfl, hΦ3, h5⟩
          · refine ⟨s', rfl, ?_⟩
            have := (Spec.weaki_ok (n := ((i + 1 : Nat) : Int)) (by rw [hw]; rfl) h5).2
            simp only [Spec.sti, hnx] at this ⊢
            exact this
          · have : ∀ (K' : Exit → St → Prop), (∃ y', (Sum.inr y : σ ⊕ ρ) = .inr y' ∧ (out = .inr y' → K e s2)) → LoopK (fun s => ⟨(sp.sti st idx ((i + 1 : Nat) : Int) s).env, (sp.sti st idx ((i + 1 : Nat) : Int) s).heap, st.next⟩) K out (.inr y) e s2 := fun _ hh => by
              cases e with
              | normal => exact absurd rfl hne
              | _ => exact hh
            refine this K ⟨y, rfl, fun hout => ?_⟩
            subst hout
            exact hk _ _ _ _ hΦ3 hq h5
        · intro m s hm hout
          subst hout
          have hst : (⟨(sp.sti st idx (m : Int) s).env, (sp.sti st idx (m : Int) s).heap, st.next⟩ : St) = sp.sti st idx (m : Int) s := by simp only [Spec.sti, hnx]
          rw [hst]
          refine chk_sound x _ _ (kk (.inl s)) _ _ ((hΦ.add (f := ([.g true], [(!decide ((m : Int) < n)) = true])) (.cons (by rw [decide_eq_false hm]; rfl) .nil)).add (f := ([.g false], [decide ((m : Int) < n) = false])) (.cons (decide_eq_false hm) .nil)) hq (h3 m s) ?_
          intro e s2 Φ2 q2 hΦ2 hr2 h4
          cases e with
          | normal => exact h4.elim
          | _ => exact hk _ _ _ _ hΦ2 hr2 h4
      · exact h.elim
    · rename_i σ ρ s0 sp body kk
      split at h
      · rename_i hnx
        have hnx : sp.nx = st.next := Nat.eq_of_beq_eq_true hnx
        obtain ⟨h1, h2⟩ := h
        obtain ⟨out, ho, hq⟩ := obind (show Option.bind (iter (fun s => (body s).run) s0) (fun o => (kk o).run) = some r from hr)
        have hst : ∀ s, (⟨(sp.st st s).env, (sp.st st s).heap, st.next⟩ : St) = sp.st st s := fun s => by simp only [Spec.st, hnx]
        refine awp_iter ho (fun s => (sp.st st s).env) (fun s => (sp.st st s).heap) ?_ ?_
        · rw [hst]; exact (Spec.weak_ok h1).2
        · intro s o hb
          rw [hst]
          refine chk_sound x _ _ (body s) _ _ hΦ hb (h2 s) ?_
          intro e s2 Φ2 q2 hΦ2 hr2 h4
          rcases loopK_ok hΦ2 hr2 h4 with ⟨rfl, s', rfl, h5⟩ | ⟨hne, y, Φ3, rfl, hΦ3, h5⟩
          · refine ⟨s', rfl, ?_⟩
            show Weak s2 ⟨(sp.st st s').env, (sp.st st s').heap, st.next⟩
            rw [hst]; exact (Spec.weak_ok h5).2
          · have : (∃ y', (Sum.inr y : σ ⊕ ρ) = .inr y' ∧ ((Sum.inr out : σ ⊕ ρ) = .inr y' → K e s2)) → LoopK (fun s => ⟨(sp.st st s).env, (sp.st st s).heap, st.next⟩) K (.inr out) (.inr y) e s2 := fun hh => by
              cases e with
              | normal => exact absurd rfl hne
              | _ => exact hh
            refine this ⟨y, rfl, fun hout => ?_⟩
            cases hout
            exact hk _ _ _ _ hΦ3 hq h5
      · exact h.elim
    · exact h.elim
end Go.Proofs.Ytgligibbgobmnaa
namespace Go.Proofs.Ytgligibbgobmnaa
open Go.RowKit
set_option linter.unusedVariables false
set_option linter.unusedSimpArgs false

/-! What is live (sets of slots as numbers). -/
def bitOf (n : Nat) : Nat := Nat.shiftLeft 1 n
def hasBit (m n : Nat) : Bool := Nat.beq (Nat.land 1 (Nat.shiftRight m n)) 1
def opdMask : Opd → Nat
  | .t n => bitOf n
  | .c _ => 0
def opdsMask : List Opd → Nat
  | [] => 0
  | x :: r => Nat.lor (opdMask x) (opdsMask r)
def useMask (it : AItem) : Nat := match it.guard with
  | none => opdsMask (opOpds it.op)
  | some (t, _) => Nat.lor (bitOf t) (opdsMask (opOpds it.op))
def without (m n : Nat) : Nat := match hasBit m n with
  | true => Nat.sub m (bitOf n)
  | false => m
def liveItems (out : Nat) : List AItem → Nat
  | [] => out
  | it :: rest => match it.guard, it.dst with
    | none, some d => Nat.lor (useMask it) (without (liveItems out rest) d)
    | _, _ => Nat.lor (useMask it) (liveItems out rest)
def usesI : List AItem → Nat
  | [] => 0
  | it :: rest => Nat.lor (useMask it) (usesI rest)
def usesC : ACode → Nat
  | .region _ _ items _ => usesI items
  | .seq x y => Nat.lor (usesC x) (usesC y)
  | .cond c x y => Nat.lor (opdMask c) (Nat.lor (usesC x) (usesC y))
  | .block _ x | .loop x | .scope x => usesC x
  | _ => 0
def exGet (ex : List (Nat × Nat)) (id : Nat) : Nat := match ex with
  | [] => 0
  | (k, v) :: r => match Nat.beq k id with
    | true => v
    | false => exGet r id
def exAll : List (Nat × Nat) → Nat
  | [] => 0
  | (_, v) :: r => Nat.lor v (exAll r)
def lvIn (ret : Nat) : ACode → Nat → List (Nat × Nat) → Nat
  | .skip, out, _ => out
  | .region _ _ items _, out, _ => liveItems out items
  | .seq x y, out, ex => lvIn ret x (lvIn ret y out ex) ex
  | .cond c x y, out, ex => Nat.lor (opdMask c) (Nat.lor (lvIn ret x out ex) (lvIn ret y out ex))
  | .block id x, out, ex => lvIn ret x out ((id, out) :: ex)
  | .loop x, out, ex => Nat.lor ret (Nat.lor (usesC x) (exAll ex))
  | .scope x, out, ex => lvIn ret x out ex
  | .exit id, _, ex => exGet ex id
  | .ret, _, _ => ret
def maskList (m : Nat) : Nat → List Nat
  | 0 => []
  | n + 1 => match hasBit m n with
    | true => n :: maskList m n
    | false => maskList m n
def ann (nt ret : Nat) : ACode → Nat → List (Nat × Nat) → ACode
  | .skip, _, _ => .skip
  | .region d o items _, out, _ => .region d o items (some (maskList out nt))
  | .seq x y, out, ex => .seq (ann nt ret x (lvIn ret y out ex) ex) (ann nt ret y out ex)
  | .cond c x y, out, ex => .cond c (ann nt ret x out ex) (ann nt ret y out ex)
  | .block id x, out, ex => .block id (ann nt ret x out ((id, out) :: ex))
  | .loop x, out, ex => .loop (ann nt ret x (Nat.lor ret (Nat.lor (usesC x) (exAll ex))) ex)
  | .scope x, out, ex => .scope (ann nt ret x out ex)
  | .exit id, _, _ => .exit id
  | .ret, _, _ => .ret
theorem ann_erase (nt ret : Nat) : ∀ (c : ACode) (out : Nat) (ex : List (Nat × Nat)), (ann nt ret c out ex).erase = c.erase
  | .skip, _, _ => rfl
  | .region _ _ _ _, _, _ => rfl
  | .seq x y, out, ex => by simp only [ann, ACode.erase, ann_erase nt ret x, ann_erase nt ret y]
  | .cond c x y, out, ex => by simp only [ann, ACode.erase, ann_erase nt ret x, ann_erase nt ret y]
  | .block id x, out, ex => by simp only [ann, ACode.erase, ann_erase nt ret x]
  | .loop x, out, ex => by simp only [ann, ACode.erase, ann_erase nt ret x]
  | .scope x, out, ex => by simp only [ann, ACode.erase, ann_erase nt ret x]
  | .exit id, _, _ => rfl
  | .ret, _, _ => rfl

theorem comp_erase (C : Ctx) (nt : Nat) : ∀ (code : Code) (ac : ACode), comp C nt code = some ac → ac.erase = ac
  | .skip, ac, h => by simp only [comp] at h; cases h; rfl
  | .region _ ops draw, ac, h => by
    simp only [comp] at h
    split at h
    · split at h
      · split at h
        · cases h; rfl
        · cases h
      · cases h; rfl
    · cases h
  | .seq a b, ac, h => by
    simp only [comp] at h
    split at h
    · rename_i x y hx hy; cases h; simp only [ACode.erase, comp_erase C nt a x hx, comp_erase C nt b y hy]
    · cases h
  | .cond c a b, ac, h => by
    simp only [comp] at h
    split at h
    · rename_i x y hx hy; cases h; simp only [ACode.erase, comp_erase C nt a x hx, comp_erase C nt b y hy]
    · cases h
  | .block id a, ac, h => by
    simp only [comp] at h
    split at h
    · rename_i x hx; cases h; simp only [ACode.erase, comp_erase C nt a x hx]
    · cases h
  | .loop a, ac, h => by
    simp only [comp] at h
    split at h
    · rename_i x hx; cases h; simp only [ACode.erase, comp_erase C nt a x hx]
    · cases h
  | .scope a, ac, h => by
    simp only [comp] at h
    split at h
    · rename_i x hx; cases h; simp only [ACode.erase, comp_erase C nt a x hx]
    · cases h
  | .label _, ac, h => by simp only [comp] at h; cases h; rfl
  | .exit id, ac, h => by simp only [comp] at h; cases h; rfl
  | .ret, ac, h => by simp only [comp] at h; cases h; rfl
  | .rangeFunc .., ac, h => by simp only [comp] at h; cases h
  | .goto _, ac, h => by simp only [comp] at h; cases h
  | .refuse _, ac, h => by simp only [comp] at h; cases h
theorem compFun_erase {C : Ctx} {f : Nat} {F : AFun} (h : compFun C f = some F) : F.erase = F := by
  unfold compFun at h
  split at h
  · split at h
    · split at h
      · rename_i ac rs hac hrs
        split at h
        · cases h
        · cases h; simp only [AFun.erase, comp_erase C _ _ _ hac]
      · cases h
    · cases h
  · cases h

def resMask : List ARes → Nat
  | [] => 0
  | .tmp t :: r => Nat.lor (bitOf t) (resMask r)
  | .cell t _ _ :: r => Nat.lor (bitOf t) (resMask r)
def AFun.ann (F : AFun) : AFun := { F with body := Go.Proofs.Ytgligibbgobmnaa.ann F.nt (resMask F.results) F.body (resMask F.results) [] }
theorem ann_comp {C : Ctx} {f : Nat} {F : AFun} (h : compFun C f = some F) : compFun C f = some F.ann.erase := by
  rw [h]
  have := compFun_erase h
  simp only [AFun.erase] at this
  simp only [AFun.ann, AFun.erase, ann_erase]
  rw [this]

/-! Whole functions. -/
variable (C : Ctx)
noncomputable def chkFun {α : Type} (f : Nat) (args : List AV) (heap : List (Nat × AObj)) (m : Nat) (p : Plan α) (kend : List ARes → KT α) : Tree := match compFun C f with
  | some F => match Nat.ble args.length F.nt with
    | true => chk C F.ann.body α ⟨argEnv 0 args, heap, m⟩ [] p (kend F.results)
    | false => .bad
  | none => .bad

noncomputable def endP {α : Type} (iv : α → IV) (rs : List ARes) (s : St) : Plan α → Tree
  | .ret a => .eq (Option IV) ((resOf rs s).bind (toIV (alGet s.heap) 5)) (some (iv a)) .tt
  | .fin ids V objs x h a => match objsX s.heap ids with
    | some objs' => .eq (List (Nat × AObj)) objs' objs (.eq (Option AV) (resOf rs s) (some V) (.eq IV x (iv a) .tt))
    | Option.none => .bad
  | _ => .bad
noncomputable def kPure {α : Type} (iv : α → IV) (rs : List ARes) : KT α := fun e s Φ q => settle q Φ fun Φ q => match e with
  | .ret => endP iv rs s q
  | .normal => endP iv rs s q
  | _ => .bad

noncomputable def endD {α : Type} (R : α → AV) (H : α → List (Nat × AObj)) (n : Nat) (rs : List ARes) (s : St) : Plan α → Tree
  | .ret a => match resOf rs s with
    | some x => .eq AV x (R a) (weakT n [(0, R a)] [] (H a) [] ⟨[(0, R a)], s.heap, s.next⟩ .tt)
    | Option.none => .bad
  | .finL x y h a => match resOf rs s with
    | some x' => .eq AV x' x (.eq AV y (R a) (weakT n [(0, R a)] [] (H a) [] ⟨[(0, R a)], s.heap, s.next⟩ .tt))
    | Option.none => .bad
  | _ => .bad
noncomputable def kDet {α : Type} (R : α → AV) (H : α → List (Nat × AObj)) (n : Nat) (rs : List ARes) : KT α := fun e s Φ q => settle q Φ fun Φ q => match e with
  | .ret => endD R H n rs s q
  | .normal => endD R H n rs s q
  | _ => .bad

variable {C : Ctx}
theorem endP_ok {α : Type} {iv : α → IV} {rs : List ARes} {s : St} {q : Plan α} {r : α} (hr : q.run = some r) (h : (endP iv rs s q).Ok) : EndK (IsIV 5 (iv r)) s.heap s.next (resOf rs s) := by
  unfold endP at h
  split at h
  · cases hr
    have h1 := h.1
    cases h2 : resOf rs s with
    | none => rw [h2] at h1; cases h1
    | some x => rw [h2] at h1; exact h1
  · rename_i ids V objs x hs a
    cases hr
    split at h
    · rename_i objs' ho
      obtain ⟨rfl, h2, rfl, _⟩ := h
      rw [h2]
      have := mapO_sub (alGet_objs ho) hs
      simp only [mapO] at this
      split at this
      · rename_i b hb; cases this; exact hb
      · cases this
    · exact h.elim
  · exact h.elim

theorem Plan.pure {f : Nat} {α : Type} {args : List IV} {iv : α → IV} (p : Plan α) (h : chkFun C f (args.map .imm) [] 0 p (kPure iv) = (chkFun C f (args.map .imm) [] 0 p (kPure iv)).norm) {r : α} (hr : p.run = some r) : APure C f args (iv r) := by
  have hk := Tree.ok h
  unfold chkFun at hk
  split at hk
  · rename_i F hF
    split at hk
    · rename_i hn
      refine APure.start (F := F.ann) (ann_comp hF) 5 (by have := Nat.le_of_ble_eq_true hn; rw [List.length_map] at this; exact this) ?_
      refine chk_sound F.ann.body _ [] p _ _ (fun k f hf => by cases hf) hr hk ?_
      intro e s Φ q hΦ hr2 h2
      obtain ⟨Φ3, q3, hΦ3, hr3, h3⟩ := settle_ok q hΦ h2 hr2
      cases e with
      | ret => exact endP_ok hr3 h3
      | normal => exact endP_ok hr3 h3
      | _ => exact h3.elim
    · exact hk.elim
  · exact hk.elim

theorem endD_ok {α : Type} {R : α → AV} {H : α → List (Nat × AObj)} {n : Nat} (hb : ∀ a, Belows n (H a)) {rs : List ARes} {s : St} {q : Plan α} {r : α} (hr : q.run = some r) (h : (endD R H n rs s q).Ok) : ∃ x, resOf rs s = some x ∧ Weak ⟨[(0, x)], s.heap, s.next⟩ ⟨[(0, R r)], H r, n⟩ := by
  unfold endD at h
  split at h
  · cases hr
    split at h
    · rename_i x hx
      obtain ⟨rfl, h1⟩ := h
      have := (weakT_ok (hb _) h1).2
      simp only [List.append_nil] at this
      exact ⟨_, hx, this⟩
    · exact h.elim
  · rename_i x y hl a
    cases hr
    split at h
    · rename_i x' hx
      obtain ⟨rfl, rfl, h1⟩ := h
      have hn : n ≤ s.next := by
        unfold weakT at h1
        split at h1
        · rename_i hn; exact Nat.le_of_ble_eq_true hn
        · exact h1.elim
      have := (weakT_ok (hb _) h1).2
      simp only [List.append_nil] at this
      exact ⟨_, hx, (weak_le hl).andThen this hn⟩
    · exact h.elim
  · exact h.elim

theorem Plan.det {f : Nat} {α : Type} {args : List AV} {heap : List (Nat × AObj)} {m d : Nat} {R : α → AV} {H : α → List (Nat × AObj)} (p : Plan α) (b0 : Belows m heap) (b1 : ∀ a, Belows (m + d) (H a)) (k0 : (args.all (avBelow m) && KeysB m heap) = true) (k1 : ∀ a, (avBelow (m + d) (R a) && KeysB m (H a)) = true)
    (h : chkFun C f args heap m p (kDet R H (m + d)) = (chkFun C f args heap m p (kDet R H (m + d))).norm) {r : α} (hr : p.run = some r) : DOk C f args heap m (R r) (H r) d := by
  have hk := Tree.ok h
  have k0 := k0; rw [Bool.and_eq_true] at k0
  have k1 := k1 r; rw [Bool.and_eq_true] at k1
  unfold chkFun at hk
  split at hk
  · rename_i F hF
    split at hk
    · rename_i hn
      refine DOk.start (F := F.ann) (ann_comp hF) (Nat.le_of_ble_eq_true hn) b0 (b1 r) k0.1 k1.1 k0.2 k1.2 ?_
      refine chk_sound F.ann.body _ [] p _ _ (fun k f hf => by cases hf) hr hk ?_
      intro e s Φ q hΦ hr2 h2
      obtain ⟨Φ3, q3, hΦ3, hr3, h3⟩ := settle_ok q hΦ h2 hr2
      cases e with
      | ret => exact endD_ok b1 hr3 h3
      | normal => exact endD_ok b1 hr3 h3
      | _ => exact h3.elim
    · exact hk.elim
  · exact hk.elim
end Go.Proofs.Ytgligibbgobmnaa
namespace Go.Proofs.Ytgligibbgobmnaa
open Go.RowKit
set_option linter.unusedVariables false
set_option linter.unusedSimpArgs false

section
variable {α β : Type}
def Plan.us : List (Nat × Nat) → Plan α → Plan α
  | [], p => p
  | (j, k) :: l, p => .use j k (Plan.us l p)
abbrev Plan.sel (key : Nat) (p : Plan α) : Plan α := .use 999 key p
theorem FactsOk.c1 {key : Nat} {o : List Orc} {p : Prop} (h : p) {Φ : Facts} (t : FactsOk Φ) : FactsOk ((key, (o, [p])) :: Φ) := t.add (.cons h .nil)
theorem FactsOk.c2 {key : Nat} {o : List Orc} {p q : Prop} (h : p) (h' : q) {Φ : Facts} (t : FactsOk Φ) : FactsOk ((key, (o, [p, q])) :: Φ) := t.add (.cons h (.cons h' .nil))
abbrev Plan.b1 (key : Nat) (x : Option β) (o : β → Orc) {p : β → Prop} (h : ∀ v, x = some v → p v) (k : β → Plan α) : Plan α :=
  .bind x (fun v => [(key, ([o v], [p v]))]) (fun v hv => .c1 (h v hv) .nil) k
abbrev Plan.u1 (j key : Nat) (x : Option β) (o : β → Orc) {p : β → Prop} (h : ∀ v, x = some v → p v) (k : β → Plan α) : Plan α :=
  .bind x (fun v => [(key, ([o v], [p v]))]) (fun v hv => .c1 (h v hv) .nil) fun v => .use j key (k v)
abbrev Plan.f1 (key : Nat) (o : Orc) {p : Prop} (h : p) (q : Plan α) : Plan α := .fact key [o] [p] (.cons h .nil) q
abbrev Plan.ix (key : Nat) (row : β → List IV) (l : List β) (n : Int) (k : β → Plan α) : Plan α :=
  Plan.b1 key (idxI l n) (fun e => .r (row e)) (fun e h => idx_side row h) k
abbrev Plan.ln (key : Nat) (row : β → List IV) (l : List β) (q : Plan α) : Plan α := Plan.f1 key (.n (l.length : Int)) (len_side row l) q
abbrev Plan.call {C : Ctx} {f : Nat} {ivs : List IV} {x : Option β} {iv : β → IV} (key : Nat) (t : ∀ r, x = some r → APure C f ivs (iv r)) (k : β → Plan α) : Plan α :=
  Plan.b1 key x (fun r => .v (iv r)) t k
abbrev Spec.e {β : Type} (ks : List Nat) (ov : β → List (Nat × AV)) (hs : List Nat) (nx : Nat) : Spec β := ⟨ks, ov, hs, fun _ => [], nx, fun _ => .nil⟩
end

def allT (P : Prop) (t : Tree) : List Prop → Tree
  | [] => t
  | p :: r => .eq Prop p P (allT P t r)
theorem allT_ok {P : Prop} (hP : P) {t : Tree} : ∀ {l : List Prop}, (allT P t l).Ok → t.Ok ∧ AllP l
  | [], h => ⟨h, .nil⟩
  | p :: r, h => by
    obtain ⟨rfl, h2⟩ := h
    obtain ⟨h3, h4⟩ := allT_ok hP h2
    exact ⟨h3, .cons hP h4⟩

def wFrz (id sz len : Nat) (all rows : List (List IV)) (ks : List Nat) (rowsV : List (List AV)) (hrows : all.map (fun r => r.map AV.imm) = rowsV) (hD : (all.drop 0).take len = rows) : WStep where
  to st := ⟨frzE id rows st.env, frzH id rows ks st.heap, st.next⟩
  T st t := .eq (Option AObj) (alGet st.heap id) (some (.rows sz rowsV)) (allT (0 = 0 ∧ len = len) t (occE id 0 len st.env ++ occH id 0 len ks st.heap))
  ok st t h := by
    obtain ⟨h1, h2⟩ := h
    obtain ⟨h3, h4⟩ := allT_ok ⟨rfl, rfl⟩ h2
    exact ⟨h3, weak_freeze id sz 0 len all rows ks rowsV h1 hrows hD h4, Nat.le_refl _⟩
abbrev wFrzA {α : Type} (id sz : Nat) (ks : List Nat) (f : α → List IV) (l : List α) : WStep := wFrz id sz l.length (l.map f) (l.map f) ks (rowsA f l) (imm_rowsA f l) (frz_all f l)
abbrev wFrzT {α : Type} (id sz : Nat) (ks : List Nat) (f : α → List IV) (l : List α) (n : Nat) : WStep := wFrz id sz n (l.map f) ((l.take n).map f) ks (rowsA f l) (imm_rowsA f l) (frz_take f l n)

def wZero {α : Type} (id sz k : Nat) (row : List AV) (f : α → List IV) (z : α) (hle : RowLe row (rowA (f z))) : WStep where
  to st := ⟨st.env, alSet st.heap id (.rows sz (rowsA f (List.replicate k z))), st.next⟩
  T st t := .eq (Option AObj) (alGet st.heap id) (some (.rows sz (List.replicate k row))) t
  ok st t h := ⟨h.2, weak_zero id sz k row f z h.1 hle, Nat.le_refl _⟩
def wNil (t0 sz : Nat) : WStep where
  to st := { env := alSet st.env t0 (.gslice st.next []), heap := alSet st.heap st.next (.tip sz 0), next := st.next + 1 }
  T st t := .eq (Option AV) (alGet st.env t0) (some .nil) t
  ok st t h := ⟨h.2, weak_nil h.1, Nat.le_succ _⟩
theorem Plan.run_of {α : Type} {p : Plan α} {d : Option α} {r : α} (h : d = some r) (e : d = p.run) : p.run = some r := e ▸ h
end Go.Proofs.Ytgligibbgobmnaa
namespace Go.Proofs.Ytgligibbgobmnaa
open Go.RowKit
set_option linter.unusedVariables false
set_option linter.unusedSimpArgs false
set_option maxRecDepth 100000

structure Ratio where
  num : Int
  den : Int
  deriving Inhabited, DecidableEq

def Ratio.row (x : Ratio) : List IV := [.int .i64 x.num, .int .i64 x.den]
def Ratio.iv (x : Ratio) : IV := .agg x.row

structure UnitT where
  name : ByteArray
  kind : Int
  base : Int
  factor : Ratio
  deriving Inhabited, DecidableEq

def UnitT.row (x : UnitT) : List IV := [.str x.name, .int .i64 x.kind, .int .i64 x.base, .int .i64 x.factor.num, .int .i64 x.factor.den]
def UnitT.iv (x : UnitT) : IV := .agg x.row

structure ActT where
  kind : Int
  role : Int
  give : Int
  to : Int
  unit : Int
  lot : Ratio
  deriving Inhabited, DecidableEq

def ActT.row (x : ActT) : List IV := [.int .i64 x.kind, .int .i64 x.role, .int .i64 x.give, .int .i64 x.to, .int .i64 x.unit, .int .i64 x.lot.num, .int .i64 x.lot.den]
def ActT.iv (x : ActT) : IV := .agg x.row

structure CondT where
  clause : Int
  is : Int
  deriving Inhabited, DecidableEq

def CondT.row (x : CondT) : List IV := [.int .i64 x.clause, .int .i64 x.is]
def CondT.iv (x : CondT) : IV := .agg x.row

structure ClauseT where
  kind : Int
  role : Int
  act : Int
  need : Int
  start : List CondT
  after : Int
  grace : Int
  business : Bool
  final : Bool
  pause : Int
  resume : Int
  value : Ratio
  unit : Int
  to : Int
  waived : Bool
  deriving Inhabited, DecidableEq

def ClauseT.row (x : ClauseT) : List IV := [.int .i64 x.kind, .int .i64 x.role, .int .i64 x.act, .int .i64 x.need, .slice (List.map CondT.row x.start), .int .i64 x.after, .int .i64 x.grace, .bool x.business, .bool x.final, .int .i64 x.pause, .int .i64 x.resume, .int .i64 x.value.num, .int .i64 x.value.den, .int .i64 x.unit, .int .i64 x.to, .bool x.waived]
def ClauseT.iv (x : ClauseT) : IV := .agg x.row

structure ContractT where
  parties : Int
  holders : List Int
  units : List UnitT
  acts : List ActT
  clauses : List ClauseT
  days : Int
  off : List Int
  deriving Inhabited, DecidableEq

def ContractT.row (x : ContractT) : List IV := [.int .i64 x.parties, .slice (List.map rowI x.holders), .slice (List.map UnitT.row x.units), .slice (List.map ActT.row x.acts), .slice (List.map ClauseT.row x.clauses), .int .i64 x.days, .slice (List.map rowI x.off)]
def ContractT.iv (x : ContractT) : IV := .agg x.row

attribute [simp] Ratio.row UnitT.row ActT.row CondT.row ClauseT.row ContractT.row

end Go.Proofs.Ytgligibbgobmnaa
namespace Go.Proofs.Ytgligibbgobmnaa
open Go.RowKit
set_option linter.unusedVariables false
set_option linter.unusedSimpArgs false
set_option maxRecDepth 100000

noncomputable def C0 : Ctx := ⟨Try.prog, [3, 4, 5, 6, 7, 8, 9, 10, 11, 12, 13, 14, 15, 16, 17, 18, 19, 20, 21, 22, 23, 24, 25, 26, 27, 28, 29, 30, 31, 32, 33, 34, 35, 36, 37, 38, 39, 40, 41, 42, 43, 44, 45, 46, 47, 48, 49, 50, 51, 52, 53, 54, 55, 56, 57, 58, 59, 60, 61, 62]⟩
def ri33_0 : List AItem := [⟨some 4, .mov (.c (.nil)), none⟩]
def ri33_1 : List AItem := [⟨some 5, .mov (.c (.nil)), none⟩]
def ri33_2 : List AItem := [⟨some 9, .mkmap, none⟩,
  ⟨some 6, .mov (.t 9), none⟩]
def ri33_3 : List AItem := [⟨some 10, .mov (.t 0), none⟩,
  ⟨some 11, .mov (.c (.imm (.int .i64 0))), none⟩]
def ri33_4 : List AItem := [⟨some 12, .bin .lss (.t 11) (.t 10), none⟩]
def ri33_5 : List AItem := [⟨some 13, .mov (.t 11), none⟩,
  ⟨some 7, .mov (.t 13), none⟩]
def ri33_6 : List AItem := [⟨some 14, .mov (.t 1), none⟩,
  ⟨some 15, .mov (.t 7), none⟩,
  ⟨some 16, .call (.t 14) [.t 15], none⟩,
  ⟨some 8, .mov (.t 16), none⟩]
def ri33_7 : List AItem := [⟨some 17, .mov (.t 8), none⟩,
  ⟨some 18, .mov (.t 7), none⟩,
  ⟨some 19, .bin .eql (.t 17) (.t 18), none⟩]
def ri33_8 : List AItem := [⟨some 20, .mov (.t 6), none⟩,
  ⟨some 21, .mov (.t 7), none⟩,
  ⟨some 22, .mov (.t 5), none⟩,
  ⟨some 23, .len (.t 22), none⟩,
  ⟨none, .upd false (.t 20) (.t 21) (.t 23), none⟩]
def ri33_9 : List AItem := [⟨some 24, .mov (.t 5), none⟩,
  ⟨some 25, .bslice 1 [.nil] 1 [(0, .c (.nil))], none⟩,
  ⟨some 26, .app 1 24 (.t 24) (.t 25), none⟩,
  ⟨some 5, .mov (.t 26), none⟩]
def ri33_10 : List AItem := [⟨some 27, .mov (.t 5), none⟩,
  ⟨some 28, .mov (.t 6), none⟩,
  ⟨some 29, .mov (.t 8), none⟩,
  ⟨some 30, .look false (.imm (.int .i64 0)) false (.t 28) (.t 29), none⟩,
  ⟨some 31, .mov (.t 5), none⟩,
  ⟨some 32, .mov (.t 6), none⟩,
  ⟨some 33, .mov (.t 8), none⟩,
  ⟨some 34, .look false (.imm (.int .i64 0)) false (.t 32) (.t 33), none⟩,
  ⟨some 35, .idx 1 (.t 31) (.t 34), none⟩,
  ⟨some 36, .load false 1 (.t 35), none⟩,
  ⟨some 37, .mov (.t 7), none⟩,
  ⟨some 38, .bslice 1 [.imm (.int .i64 0)] 1 [(0, .t 37)], none⟩,
  ⟨some 39, .app 1 8 (.t 36) (.t 38), none⟩,
  ⟨some 40, .idx 1 (.t 27) (.t 30), none⟩,
  ⟨none, .store 1 (.t 40) (.t 39), none⟩]
def ri33_11 : List AItem := [⟨some 41, .bin .add (.t 11) (.c (.imm (.int .i64 1))), none⟩,
  ⟨some 11, .mov (.t 41), none⟩]
def ri33_12 : List AItem := [⟨some 42, .mov (.t 5), none⟩,
  ⟨some 4, .mov (.t 42), none⟩]
def af33 : AFun := ⟨43, [.tmp 4], (
.seq (.region false [] ri33_0 (some [0, 1])) (
.seq (.region false [] ri33_1 (some [0, 1, 5])) (
.seq (.region false [] ri33_2 (some [0, 1, 5, 6])) (
.seq (.seq (.region false [] ri33_3 (some [1, 5, 6, 10, 11])) (
.block 0 (.loop (.seq (.region false [] ri33_4 (some [1, 5, 6, 10, 11, 12])) (
.seq (.cond (.t 12) (.skip) (.exit 0)) (
.seq (.block 1 (.seq (.region false [] ri33_5 (some [1, 5, 6, 7, 10, 11])) (
.seq (.region false [] ri33_6 (some [1, 5, 6, 7, 8, 10, 11])) (
.seq (.seq (.region false [] ri33_7 (some [1, 5, 6, 7, 8, 10, 11, 19])) (
.cond (.t 19) (.seq (.region false [] ri33_8 (some [1, 5, 6, 7, 8, 10, 11])) (
.region false [] ri33_9 (some [1, 5, 6, 7, 8, 10, 11]))) (.skip))) (
.region true [0, 0, 0, 6, 0, 0, 0, 96, 240, 496, 0, 1024, 4080, 8191, 16383] ri33_10 (some [1, 5, 6, 10, 11])))))) (
.region false [] ri33_11 (some [1, 5, 6, 10, 11])))))))) (
.seq (.region false [] ri33_12 (some [4])) (
.ret))))))⟩
theorem hA33 : compFun C0 33 = some af33.erase := by kernel_rfl

end Go.Proofs.Ytgligibbgobmnaa
namespace Go.Proofs.Ytgligibbgobmnaa
open Go.RowKit
set_option linter.unusedVariables false
set_option linter.unusedSimpArgs false
set_option maxRecDepth 100000

noncomputable def d_held (c : ContractT) : Option Bool :=
  (Option.bind (forR (σ := Unit) (ρ := Unit) (c.holders.length : Int) (fun i1 s1 => (Option.bind (α := Unit ⊕ Unit) (Option.bind (forR (σ := Unit) (ρ := Unit) c.parties (fun i2 s2 => (Option.bind (idxI c.holders (i1 : Int)) fun e1 => (bif (e1 == (i2 : Int)) then some (.inr ()) else some (.inl ())))) ()) (Sum.elim (fun (s2 : Unit) => some (.inr ())) (fun (y1 : Unit) => some (.inl ())))) (Sum.elim (fun (v1 : Unit) => some (.inl ())) (fun (y2 : Unit) => some (.inr ()))))) ()) (Sum.elim (fun (s1 : Unit) => some true) (fun (y3 : Unit) => some false)))
noncomputable def p_held (c : ContractT) : Plan Bool :=
  .reg 1 (.ln 28 rowI c.holders (.use 2 28 (.forR (σ := Unit) (ρ := Unit) 20 8 (c.holders.length : Int) () (.e [1, 7] (fun _ => []) [0] 6) (fun i1 s1 => .sel 20 (.cutO (β := Unit) (γ := Unit) 1 (.e [1, 7, 8] (fun _ => []) [0] 12) (.forR (σ := Unit) (ρ := Unit) 22 13 c.parties () (.e [1, 7, 8, 3, 12] (fun _ => []) [0] 12) (fun i2 s2 => .sel 22 (.reg 1 (.ix 26 rowI c.holders (i1 : Int) fun e1 => .use 3 26 (.ite 24 (e1 == (i2 : Int)) (.sel 24 (.ret (.inr ()))) (.sel 24 (.ret (.inl ()))))))) fun os2 => .case os2 (fun s2 => .sel 22 (.ret (.inr ()))) fun y1 => .ret (.inl ())) fun o_v1 => .case o_v1 (fun v1 => .ret (.inl ())) fun y2 => .ret (.inr ()))) fun os1 => .case os1 (fun s1 => .sel 20 (.ret true)) fun y3 => .ret false)))
theorem t_held (c : ContractT) (res : Bool) (hd : d_held c = some res) : APure C0 40 [.agg (ContractT.row c)] (.bool res) :=
  Plan.pure (iv := fun res => .bool res) (p_held c) (by kernel_rfl) (Plan.run_of hd (by kernel_rfl))

noncomputable def d_magnitude (n : Int) : Option Int :=
  (bif decide (n < 0) then some (IntKind.u64.wrap ((IntKind.u64.wrap (IntKind.i64.wrap (0 - (IntKind.i64.wrap (n + 1))))) + 1)) else some (IntKind.u64.wrap n))
noncomputable def p_magnitude (n : Int) : Plan Int :=
  .ite 52 (decide (n < 0)) (.sel 52 (.ret (IntKind.u64.wrap ((IntKind.u64.wrap (IntKind.i64.wrap (0 - (IntKind.i64.wrap (n + 1))))) + 1)))) (.sel 52 (.ret (IntKind.u64.wrap n)))
theorem t_magnitude (n : Int) (res : Int) (hd : d_magnitude n = some res) : APure C0 59 [.int .i64 n] (.int .u64 res) :=
  Plan.pure (iv := fun res => .int .u64 res) (p_magnitude n) (by kernel_rfl) (Plan.run_of hd (by kernel_rfl))

noncomputable def d_divisor (l : List Int) : Option Int :=
  (Option.bind (forR (σ := Int) (ρ := Unit) (l.length : Int) (fun i1 s1 => (Option.bind (Option.bind (idxI l (i1 : Int)) fun e1 => (Option.bind (iter (σ := Int × Int) (ρ := Int) (fun s2 => (bif (s2.2 == 0) then some (.inr s2.1) else (Option.bind (remI .u64 s2.1 s2.2) fun e2 => some (.inl (s2.2, e2))))) (s1, e1)) (fun (y1 : Int) => some y1))) fun (v1 : Int) => some (.inl v1))) 0) (Sum.elim (fun (s1 : Int) => some s1) (fun _ => none)))
noncomputable def p_divisor (l : List Int) : Plan Int :=
  .reg 2 (.ln 64 (rowK .u64) l (.use 1 64 (.forR (σ := Int) (ρ := Unit) 54 8 (l.length : Int) 0 (.e [6, 7] (fun s1 => [(3, .imm (.int .u64 s1))]) [] 5) (fun i1 s1 => .sel 54 (.cut (β := Int) 1 (.e [6, 7, 8] (fun v1 => [(3, .imm (.int .u64 v1))]) [] 9) (.reg 0 (.ix 60 (rowK .u64) l (i1 : Int) fun e1 => .use 0 60 (.iter (σ := Int × Int) (ρ := Int) (s1, e1) (.e [6, 7, 8] (fun s2 => [(3, .imm (.int .u64 s2.1)), (5, .imm (.int .u64 s2.2))]) [] 9) (fun s2 => .ite 58 (s2.2 == 0) (.sel 59 (.ret (.inr s2.1))) (.sel 59 (.reg 0 (.b1 62 (remI .u64 s2.1 s2.2) (fun e2 => .v (.int .u64 e2)) (fun e2 he2 => (rem_side he2)) fun e2 => .use 3 62 (.ret (.inl (s2.2, e2))))))) fun y1 => .ret y1))) fun v1 => .ret (.inl v1))) fun os1 => .case os1 (fun s1 => .sel 54 (.ret s1)) fun _ => .none)))
theorem t_divisor (l : List Int) (res : Int) (hd : d_divisor l = some res) : APure C0 58 [.slice (List.map (rowK .u64) l)] (.int .u64 res) :=
  Plan.pure (iv := fun res => .int .u64 res) (p_divisor l) (by kernel_rfl) (Plan.run_of hd (by kernel_rfl))

noncomputable def d_ratioValid (r : Ratio) : Option Bool :=
  (Option.bind (bif decide (r.den < 1) then some true else (bif decide (1000000 < r.den) then some true else (bif decide (r.num < (-1000000000000)) then some true else some (decide (1000000000000 < r.num))))) fun v1 => (bif v1 then some false else (Option.bind (d_magnitude r.num) fun r1 => (Option.bind (d_magnitude r.den) fun r2 => (Option.bind (d_divisor [r1, r2]) fun r3 => some (r3 == 1))))))
noncomputable def p_ratioValid (r : Ratio) : Plan Bool :=
  .cut (β := Bool) 3 (.e [1] (fun v1 => [(20, vB v1)]) [0] 20) (.reg 0 (.ite 44 (decide (r.den < 1)) (.use 4 44 (.f1 68 (.g true) (rfl : true = true) (.use 9 68 (.f1 66 (.g true) (rfl : true = true) (.use 14 66 (.ret true)))))) (.ite 46 (decide (1000000 < r.den)) (.us [(4, 44), (9, 46)] (.f1 70 (.g true) (rfl : true = true) (.use 14 70 (.ret true)))) (.ite 48 (decide (r.num < (-1000000000000))) (.us [(4, 44), (9, 46), (14, 48)] (.ret true)) (.us [(4, 44), (9, 46), (14, 48)] (.ret (decide (1000000000000 < r.num)))))))) fun v1 => .ite 50 v1 (.sel 50 (.ret false)) (.sel 50 (.reg 0 (.call 72 (t_magnitude r.num) fun r1 => .call 74 (t_magnitude r.den) fun r2 => .bind (d_divisor [r1, r2]) (fun r3 => [(76, ([.w [26] [.slice (List.map (rowK .u64) [r1, r2])] (.int .u64 r3)], _))]) (fun r3 hr3 => (.c2 (t_divisor [r1, r2] r3 hr3) (snap_of [.mslice 26 0 2] [(26, .rows 1 [[.imm (.int .u64 r1)], [.imm (.int .u64 r2)]])] [.slice (List.map (rowK .u64) [r1, r2])] (by kernel_rfl)) .nil)) fun r3 => .us [(2, 72), (5, 74), (7, 76)] (.ret (r3 == 1)))))
theorem t_ratioValid (r : Ratio) (res : Bool) (hd : d_ratioValid r = some res) : APure C0 55 [.agg (Ratio.row r)] (.bool res) :=
  Plan.pure (iv := fun res => .bool res) (p_ratioValid r) (by kernel_rfl) (Plan.run_of hd (by kernel_rfl))

noncomputable def d_isIndex (t : List UnitT) (i : Int) : Option Bool :=
  (Option.bind (bif decide (0 ≤ i) then some (decide (i < (t.length : Int))) else some false) fun v1 => some v1)
noncomputable def p_isIndex (t : List UnitT) (i : Int) : Plan Bool :=
  .cut (β := Bool) 2 (.e [] (fun v1 => [(4, vB v1)]) [] 10) (.reg 0 (.ite 86 (decide (0 ≤ i)) (.use 3 86 (.ln 88 UnitT.row t (.use 5 88 (.ret (decide (i < (t.length : Int))))))) (.use 3 86 (.ret false)))) fun v1 => .ret v1
theorem t_isIndex (t : List UnitT) (i : Int) (res : Bool) (hd : d_isIndex t i = some res) : APure C0 57 [.slice (List.map UnitT.row t), .int .i64 i] (.bool res) :=
  Plan.pure (iv := fun res => .bool res) (p_isIndex t i) (by kernel_rfl) (Plan.run_of hd (by kernel_rfl))

noncomputable def d_unitValid (t : List UnitT) (i : Int) : Option Bool :=
  (Option.bind (idxI t i) fun e1 => (Option.bind (bif decide (20 ≤ i) then some true else some (e1.name.toList == (⟨#[]⟩ : ByteArray).toList)) fun v1 => (bif v1 then some false else (Option.bind (slcI t 0 i) fun e2 => (Option.bind (forR (σ := Unit) (ρ := Unit) (e2.length : Int) (fun i1 s1 => (Option.bind (idxI e2 (i1 : Int)) fun e3 => (bif (e3.name.toList == e1.name.toList) then some (.inr ()) else some (.inl ())))) ()) (Sum.elim (fun (s1 : Unit) => (Option.bind (bif (e1.kind == 1) then (Option.bind (d_ratioValid e1.factor) fun r1 => (bif r1 then some (decide (e1.factor.num ≤ 0)) else some true)) else (bif (e1.kind == 2) then (Option.bind (d_ratioValid e1.factor) fun r2 => (bif r2 then some (decide (e1.factor.num ≤ 0)) else some true)) else some true)) fun v2 => (bif v2 then some false else (Option.bind (Option.bind (d_isIndex t e1.base) fun r3 => (bif r3 then (Option.bind (idxI t e1.base) fun e4 => (bif (e4.kind == e1.kind) then some (!(e4.base == e1.base)) else some true)) else some true)) fun v3 => (bif v3 then some false else (Option.bind (bif (e1.base == i) then some ((e1.factor.num == 1) && ((e1.factor.den == 1) && true)) else some true) fun v4 => some v4)))))) (fun (y1 : Unit) => some false)))))))
noncomputable def p_unitValid (t : List UnitT) (i : Int) : Plan Bool :=
  .reg 1 (.ix 98 UnitT.row t i fun e1 => .use 2 98 (.cut (β := Bool) 2 (.e [0, 1, 5] (fun v1 => [(18, vB v1)]) [5] 14) (.reg 0 (.ite 34 (decide (20 ≤ i)) (.use 3 34 (.ret true)) (.use 3 34 (.ret (e1.name.toList == (⟨#[]⟩ : ByteArray).toList))))) fun v1 => .ite 36 v1 (.sel 36 (.ret false)) (.sel 36 (.reg 0 (.b1 100 (slcI t 0 i) (fun e2 => .s (List.map UnitT.row e2)) (fun e2 he2 => (slc_side UnitT.row 5 (fun _ => rfl) he2)) fun e2 => .use 2 100 (.ln 120 UnitT.row e2 (.use 3 120 (.forR (σ := Unit) (ρ := Unit) 38 23 (e2.length : Int) () (.e [0, 1, 5, 21, 22] (fun _ => []) [5] 19) (fun i1 s1 => .sel 38 (.reg 0 (.ix 102 UnitT.row e2 (i1 : Int) fun e3 => .use 0 102 (.ite 40 (e3.name.toList == e1.name.toList) (.sel 40 (.ret (.inr ()))) (.sel 40 (.ret (.inl ()))))))) fun os1 => .case os1 (fun s1 => .sel 38 (.cut (β := Bool) 2 (.e [0, 1, 5] (fun v2 => [(52, vB v2)]) [5] 40) (.reg 0 (.ite 42 (e1.kind == 1) (.call 104 (t_ratioValid e1.factor) fun r1 => .ite 78 r1 (.use 4 43 (.f1 106 (.g false) (rfl : false = false) (.us [(9, 106), (11, 104), (15, 79)] (.ret (decide (e1.factor.num ≤ 0)))))) (.use 4 43 (.f1 108 (.g false) (rfl : false = false) (.us [(9, 108), (11, 104), (15, 79)] (.ret true))))) (.ite 80 (e1.kind == 2) (.call 110 (t_ratioValid e1.factor) fun r2 => .ite 82 r2 (.us [(4, 43), (9, 81), (11, 110), (15, 83)] (.ret (decide (e1.factor.num ≤ 0)))) (.us [(4, 43), (9, 81), (11, 110), (15, 83)] (.ret true))) (.us [(4, 43), (9, 81)] (.f1 112 (.g true) (rfl : true = true) (.use 15 112 (.ret true))))))) fun v2 => .ite 84 v2 (.sel 84 (.ret false)) (.sel 84 (.cut (β := Bool) 2 (.e [1, 5] (fun v3 => [(79, vB v3)]) [5] 67) (.reg 0 (.call 114 (t_isIndex t e1.base) fun r3 => .ite 90 r3 (.ix 116 UnitT.row t e1.base fun e4 => .ite 92 (e4.kind == e1.kind) (.us [(3, 114), (6, 91), (9, 116), (17, 93), (20, 116)] (.ret (!(e4.base == e1.base)))) (.us [(3, 114), (6, 91), (9, 116), (17, 93)] (.ret true))) (.us [(3, 114), (6, 91)] (.f1 118 (.g true) (rfl : true = true) (.use 17 118 (.ret true)))))) fun v3 => .ite 94 v3 (.sel 94 (.ret false)) (.sel 94 (.cut (β := Bool) 1 (.e [] (fun v4 => [(4, vB v4)]) [5] 78) (.reg 0 (.ite 96 (e1.base == i) (.use 5 97 (.ret ((e1.factor.num == 1) && ((e1.factor.den == 1) && true)))) (.use 5 97 (.ret true)))) fun v4 => .ret v4)))))) fun y1 => .ret false))))))))
theorem t_unitValid (t : List UnitT) (i : Int) (res : Bool) (hd : d_unitValid t i = some res) : APure C0 54 [.slice (List.map UnitT.row t), .int .i64 i] (.bool res) :=
  Plan.pure (iv := fun res => .bool res) (p_unitValid t i) (by kernel_rfl) (Plan.run_of hd (by kernel_rfl))

noncomputable def d_quantityValid (units : List UnitT) : Option (Int × Bool) :=
  (Option.bind (forR (σ := Unit) (ρ := Int) (units.length : Int) (fun i1 s1 => (Option.bind (d_unitValid units (i1 : Int)) fun r1 => (bif r1 then some (.inl ()) else some (.inr (i1 : Int))))) ()) (Sum.elim (fun (s1 : Unit) => some ((-1), true)) (fun (y1 : Int) => some (y1, false))))
noncomputable def p_quantityValid (units : List UnitT) : Plan (Int × Bool) :=
  .reg 1 (.ln 126 UnitT.row units (.use 1 126 (.forR (σ := Unit) (ρ := Int) 32 7 (units.length : Int) () (.e [0, 6] (fun _ => []) [] 5) (fun i1 s1 => .sel 32 (.reg 1 (.call 124 (t_unitValid units (i1 : Int)) fun r1 => .use 2 124 (.ite 122 r1 (.sel 123 (.ret (.inl ()))) (.sel 123 (.ret (.inr (i1 : Int)))))))) fun os1 => .case os1 (fun s1 => .sel 32 (.ret ((-1), true))) fun y1 => .ret (y1, false))))
theorem t_quantityValid (units : List UnitT) (res : Int × Bool) (hd : d_quantityValid units = some res) : APure C0 41 [.slice (List.map UnitT.row units)] (.tuple [.int .i64 res.1, .bool res.2]) :=
  Plan.pure (iv := fun res => .tuple [.int .i64 res.1, .bool res.2]) (p_quantityValid units) (by kernel_rfl) (Plan.run_of hd (by kernel_rfl))

noncomputable def d_movable (c : ContractT) (role : Int) : Option Bool :=
  (Option.bind (bif decide (0 ≤ role) then some (decide (role < (c.holders.length : Int))) else some false) fun v1 => some v1)
noncomputable def p_movable (c : ContractT) (role : Int) : Plan Bool :=
  .cut (β := Bool) 2 (.e [] (fun v1 => [(4, vB v1)]) [0] 12) (.reg 0 (.ite 132 (decide (0 ≤ role)) (.use 3 132 (.ln 134 rowI c.holders (.use 6 134 (.ret (decide (role < (c.holders.length : Int))))))) (.use 3 132 (.ret false)))) fun v1 => .ret v1
theorem t_movable (c : ContractT) (role : Int) (res : Bool) (hd : d_movable c role = some res) : APure C0 47 [.agg (ContractT.row c), .int .i64 role] (.bool res) :=
  Plan.pure (iv := fun res => .bool res) (p_movable c role) (by kernel_rfl) (Plan.run_of hd (by kernel_rfl))

noncomputable def d_none  : Option Ratio :=
  some ({ num := 0, den := 1 } : Ratio)
noncomputable def p_none  : Plan Ratio :=
  .ret ({ num := 0, den := 1 } : Ratio)
theorem t_none  (res : Ratio) (hd : d_none  = some res) : APure C0 45 [] (.agg (Ratio.row res)) :=
  Plan.pure (iv := fun res => .agg (Ratio.row res)) (p_none ) (by kernel_rfl) (Plan.run_of hd (by kernel_rfl))

noncomputable def d_positive (r : Ratio) : Option Bool :=
  (Option.bind (bif decide (0 < r.num) then (Option.bind (d_ratioValid r) fun r1 => some r1) else some false) fun v1 => some v1)
noncomputable def p_positive (r : Ratio) : Plan Bool :=
  .cut (β := Bool) 2 (.e [] (fun v1 => [(2, vB v1)]) [0] 10) (.reg 0 (.ite 166 (decide (0 < r.num)) (.call 168 (t_ratioValid r) fun r1 => .us [(4, 166), (5, 168)] (.ret r1)) (.use 4 166 (.ret false)))) fun v1 => .ret v1
theorem t_positive (r : Ratio) (res : Bool) (hd : d_positive r = some res) : APure C0 46 [.agg (Ratio.row r)] (.bool res) :=
  Plan.pure (iv := fun res => .bool res) (p_positive r) (by kernel_rfl) (Plan.run_of hd (by kernel_rfl))

noncomputable def d_validAct (c : ContractT) (a : ActT) : Option Bool :=
  (Option.bind (d_movable c a.role) fun r1 => (bif r1 then (bif (a.kind == 1) then (Option.bind (bif (a.give == 0) then (bif (a.to == (-1)) then some false else (Option.bind (d_movable c a.to) fun r5 => some (!r5))) else some true) fun v2 => (bif v2 then some false else (bif (a.unit == (-1)) then (Option.bind (d_none) fun r6 => some ((a.lot.num == r6.num) && ((a.lot.den == r6.den) && true))) else (Option.bind (bif decide (0 ≤ a.unit) then (bif decide (a.unit < (c.units.length : Int)) then (Option.bind (d_positive a.lot) fun r7 => some r7) else some false) else some false) fun v3 => some v3)))) else (Option.bind (bif (a.kind == 2) then some (a.kind == 2) else some (a.kind == 3)) fun (v4 : Bool) => (bif v4 then (Option.bind (Option.bind (d_movable c a.give) fun r8 => (bif r8 then (bif decide (0 ≤ a.to) then (bif decide (a.to < c.parties) then (bif (a.unit == (-1)) then (Option.bind (d_none) fun r9 => some ((a.lot.num == r9.num) && ((a.lot.den == r9.den) && true))) else some false) else some false) else some false) else some false)) fun v5 => some v5) else some false))) else (Option.bind (bif (a.kind == 1) then (bif (a.role == (-1)) then (bif (a.give == 0) then (bif (a.to == (-1)) then (bif (a.unit == (-1)) then (Option.bind (d_none) fun r2 => some ((a.lot.num == r2.num) && ((a.lot.den == r2.den) && true))) else some false) else (Option.bind (d_movable c a.to) fun r3 => (bif r3 then (bif (a.unit == (-1)) then (Option.bind (d_none) fun r4 => some ((a.lot.num == r4.num) && ((a.lot.den == r4.den) && true))) else some false) else some false))) else some false) else some false) else some false) fun v1 => some v1)))
noncomputable def p_validAct (c : ContractT) (a : ActT) : Plan Bool :=
  .reg 1 (.call 182 (t_movable c a.role) fun r1 => .use 3 182 (.ite 136 r1 (.sel 137 (.ite 152 (a.kind == 1) (.sel 152 (.cut (β := Bool) 2 (.e [2, 3] (fun v2 => [(63, vB v2)]) [0, 1] 27) (.reg 0 (.ite 154 (a.give == 0) (.ite 156 (a.to == (-1)) (.us [(4, 155), (8, 157)] (.ret false)) (.call 214 (t_movable c a.to) fun r5 => .us [(4, 155), (8, 157), (11, 214)] (.ret (!r5)))) (.use 4 155 (.ret true)))) fun v2 => .ite 158 v2 (.sel 158 (.ret false)) (.sel 158 (.ite 160 (a.unit == (-1)) (.sel 160 (.reg 0 (.call 216 t_none fun r6 => .use 2 216 (.ret ((a.lot.num == r6.num) && ((a.lot.den == r6.den) && true)))))) (.sel 160 (.cut (β := Bool) 1 (.e [] (fun v3 => [(4, vB v3)]) [0, 1] 47) (.reg 0 (.ite 162 (decide (0 ≤ a.unit)) (.ite 164 (decide (a.unit < (c.units.length : Int))) (.call 218 (t_positive a.lot) fun r7 => .use 4 162 (.ln 220 UnitT.row c.units (.us [(8, 220), (12, 164), (14, 218)] (.ret r7)))) (.use 4 162 (.ln 222 UnitT.row c.units (.us [(8, 222), (12, 164)] (.ret false))))) (.use 4 162 (.f1 224 (.g false) (rfl : false = false) (.use 12 224 (.ret false)))))) fun v3 => .ret v3)))))) (.sel 152 (.cut (β := Bool) 1 (.e [2, 3] (fun v4 => [(87, vB v4)]) [0, 1] 14) (.ite 170 (a.kind == 2) (.sel 170 (.ret (a.kind == 2))) (.sel 170 (.ret (a.kind == 3)))) fun v4 => .ite 172 v4 (.sel 172 (.cut (β := Bool) 1 (.e [] (fun v5 => [(4, vB v5)]) [0, 1] 42) (.reg 0 (.call 226 (t_movable c a.give) fun r8 => .ite 174 r8 (.ite 176 (decide (0 ≤ a.to)) (.ite 178 (decide (a.to < c.parties)) (.ite 180 (a.unit == (-1)) (.call 228 t_none fun r9 => .us [(3, 226), (5, 174), (10, 176), (17, 178), (22, 180), (24, 228)] (.ret ((a.lot.num == r9.num) && ((a.lot.den == r9.den) && true)))) (.us [(3, 226), (5, 174), (10, 176), (17, 178), (22, 180)] (.ret false))) (.us [(3, 226), (5, 174), (10, 176), (17, 178)] (.f1 230 (.g false) (rfl : false = false) (.use 22 230 (.ret false))))) (.us [(3, 226), (5, 174), (10, 176)] (.f1 234 (.g false) (rfl : false = false) (.use 17 234 (.f1 232 (.g false) (rfl : false = false) (.use 22 232 (.ret false))))))) (.us [(3, 226), (5, 174)] (.f1 240 (.g false) (rfl : false = false) (.use 10 240 (.f1 238 (.g false) (rfl : false = false) (.use 17 238 (.f1 236 (.g false) (rfl : false = false) (.use 22 236 (.ret false)))))))))) fun v5 => .ret v5)) (.sel 172 (.ret false)))))) (.sel 137 (.cut (β := Bool) 1 (.e [] (fun v1 => [(4, vB v1)]) [0, 1] 44) (.reg 0 (.ite 138 (a.kind == 1) (.ite 140 (a.role == (-1)) (.ite 142 (a.give == 0) (.ite 144 (a.to == (-1)) (.ite 146 (a.unit == (-1)) (.call 184 t_none fun r2 => .us [(4, 138), (9, 140), (14, 142), (18, 144)] (.f1 186 (.g true) (rfl : true = true) (.us [(25, 186), (30, 146), (32, 184)] (.ret ((a.lot.num == r2.num) && ((a.lot.den == r2.den) && true)))))) (.us [(4, 138), (9, 140), (14, 142), (18, 144)] (.f1 188 (.g true) (rfl : true = true) (.us [(25, 188), (30, 146)] (.ret false))))) (.call 190 (t_movable c a.to) fun r3 => .ite 148 r3 (.ite 150 (a.unit == (-1)) (.call 192 t_none fun r4 => .us [(4, 138), (9, 140), (14, 142), (18, 144), (21, 190), (25, 148), (30, 150), (32, 192)] (.ret ((a.lot.num == r4.num) && ((a.lot.den == r4.den) && true)))) (.us [(4, 138), (9, 140), (14, 142), (18, 144), (21, 190), (25, 148), (30, 150)] (.ret false))) (.us [(4, 138), (9, 140), (14, 142), (18, 144), (21, 190), (25, 148)] (.f1 194 (.g false) (rfl : false = false) (.use 30 194 (.ret false)))))) (.us [(4, 138), (9, 140), (14, 142)] (.f1 198 (.g false) (rfl : false = false) (.use 25 198 (.f1 196 (.g false) (rfl : false = false) (.use 30 196 (.ret false))))))) (.us [(4, 138), (9, 140)] (.f1 204 (.g false) (rfl : false = false) (.use 14 204 (.f1 202 (.g false) (rfl : false = false) (.use 25 202 (.f1 200 (.g false) (rfl : false = false) (.use 30 200 (.ret false))))))))) (.use 4 138 (.f1 212 (.g false) (rfl : false = false) (.use 9 212 (.f1 210 (.g false) (rfl : false = false) (.use 14 210 (.f1 208 (.g false) (rfl : false = false) (.use 25 208 (.f1 206 (.g false) (rfl : false = false) (.use 30 206 (.ret false)))))))))))) fun v1 => .ret v1))))
theorem t_validAct (c : ContractT) (a : ActT) (res : Bool) (hd : d_validAct c a = some res) : APure C0 42 [.agg (ContractT.row c), .agg (ActT.row a)] (.bool res) :=
  Plan.pure (iv := fun res => .bool res) (p_validAct c a) (by kernel_rfl) (Plan.run_of hd (by kernel_rfl))

noncomputable def d_framed (c : ContractT) : Option Bool :=
  (Option.bind (bif decide (c.parties < 1) then some true else (bif decide (c.days < 1) then some true else (bif ((c.holders.length : Int) == 0) then some true else (Option.bind (d_held c) fun r1 => some (!r1))))) fun v1 => (bif v1 then some false else (Option.bind (d_quantityValid c.units) fun r2 => (bif r2.2 then (Option.bind (forR (σ := Unit) (ρ := Unit) (c.acts.length : Int) (fun i1 s1 => (Option.bind (idxI c.acts (i1 : Int)) fun e1 => (Option.bind (d_validAct c e1) fun r3 => (bif r3 then some (.inl ()) else some (.inr ()))))) ()) (Sum.elim (fun (s1 : Unit) => (Option.bind (forR (σ := Int) (ρ := Unit) (c.off.length : Int) (fun i2 s2 => (Option.bind (idxI c.off (i2 : Int)) fun e2 => (Option.bind (bif decide (e2 ≤ s2) then some true else some (decide (c.days ≤ e2))) fun v2 => (bif v2 then some (.inr ()) else some (.inl e2))))) (-1)) (Sum.elim (fun (s2 : Int) => some true) (fun (y2 : Unit) => some false)))) (fun (y1 : Unit) => some false))) else some false))))
noncomputable def p_framed (c : ContractT) : Plan Bool :=
  .cut (β := Bool) 3 (.e [1] (fun v1 => [(28, vB v1)]) [0] 21) (.reg 0 (.ite 14 (decide (c.parties < 1)) (.use 4 14 (.f1 252 (.g true) (rfl : true = true) (.use 9 252 (.f1 250 (.g true) (rfl : true = true) (.use 15 250 (.ret true)))))) (.ite 16 (decide (c.days < 1)) (.us [(4, 14), (9, 16)] (.f1 254 (.g true) (rfl : true = true) (.use 15 254 (.ret true)))) (.ite 18 ((c.holders.length : Int) == 0) (.us [(4, 14), (9, 16)] (.ln 256 rowI c.holders (.us [(11, 256), (15, 18)] (.ret true)))) (.call 258 (t_held c) fun r1 => .us [(4, 14), (9, 16)] (.ln 260 rowI c.holders (.us [(11, 260), (15, 18), (16, 258)] (.ret (!r1))))))))) fun v1 => .ite 30 v1 (.sel 30 (.ret false)) (.sel 30 (.reg 0 (.call 262 (t_quantityValid c.units) fun r2 => .use 2 262 (.ite 128 r2.2 (.sel 129 (.reg 0 (.ln 272 ActT.row c.acts (.use 2 272 (.forR (σ := Unit) (ρ := Unit) 130 40 (c.acts.length : Int) () (.e [1, 38, 39] (fun _ => []) [0] 35) (fun i1 s1 => .sel 130 (.reg 0 (.ix 264 ActT.row c.acts (i1 : Int) fun e1 => .use 0 264 (.reg 0 (.call 266 (t_validAct c e1) fun r3 => .use 2 266 (.ite 242 r3 (.sel 243 (.ret (.inl ()))) (.sel 243 (.ret (.inr ()))))))))) fun os1 => .case os1 (fun s1 => .sel 130 (.reg 1 (.ln 270 rowI c.off (.use 2 270 (.forR (σ := Int) (ρ := Unit) 244 52 (c.off.length : Int) (-1) (.e [1, 50, 51] (fun s2 => [(7, vI s2)]) [0] 41) (fun i2 s2 => .sel 244 (.reg 0 (.ix 268 rowI c.off (i2 : Int) fun e2 => .use 0 268 (.cut (β := Bool) 2 (.e [1, 50, 51, 52, 9] (fun v2 => [(64, vB v2)]) [0] 54) (.reg 0 (.ite 246 (decide (e2 ≤ s2)) (.use 4 246 (.ret true)) (.use 4 246 (.ret (decide (c.days ≤ e2)))))) fun v2 => .ite 248 v2 (.sel 248 (.ret (.inr ()))) (.sel 248 (.ret (.inl e2))))))) fun os2 => .case os2 (fun s2 => .sel 244 (.ret true)) fun y2 => .ret false))))) fun y1 => .ret false))))) (.sel 129 (.ret false))))))
theorem t_framed (c : ContractT) (res : Bool) (hd : d_framed c = some res) : APure C0 19 [.agg (ContractT.row c)] (.bool res) :=
  Plan.pure (iv := fun res => .bool res) (p_framed c) (by kernel_rfl) (Plan.run_of hd (by kernel_rfl))

noncomputable def d_natural (c : ContractT) (act : Int) : Option Bool :=
  (Option.bind (bif decide (0 ≤ act) then (bif decide (act < (c.acts.length : Int)) then (Option.bind (idxI c.acts act) fun e1 => (bif (e1.kind == 1) then some (e1.role == (-1)) else some false)) else some false) else some false) fun v1 => some v1)
noncomputable def p_natural (c : ContractT) (act : Int) : Plan Bool :=
  .cut (β := Bool) 2 (.e [] (fun v1 => [(4, vB v1)]) [0] 30) (.reg 0 (.ite 296 (decide (0 ≤ act)) (.ite 298 (decide (act < (c.acts.length : Int))) (.ix 302 ActT.row c.acts act fun e1 => .ite 300 (e1.kind == 1) (.use 3 296 (.ln 304 ActT.row c.acts (.us [(6, 304), (10, 298), (13, 302), (19, 300), (22, 302)] (.ret (e1.role == (-1)))))) (.use 3 296 (.ln 306 ActT.row c.acts (.us [(6, 306), (10, 298), (13, 302), (19, 300)] (.ret false))))) (.use 3 296 (.ln 310 ActT.row c.acts (.us [(6, 310), (10, 298)] (.f1 308 (.g false) (rfl : false = false) (.use 19 308 (.ret false))))))) (.use 3 296 (.f1 314 (.g false) (rfl : false = false) (.use 10 314 (.f1 312 (.g false) (rfl : false = false) (.use 19 312 (.ret false)))))))) fun v1 => .ret v1
theorem t_natural (c : ContractT) (act : Int) (res : Bool) (hd : d_natural c act = some res) : APure C0 44 [.agg (ContractT.row c), .int .i64 act] (.bool res) :=
  Plan.pure (iv := fun res => .bool res) (p_natural c act) (by kernel_rfl) (Plan.run_of hd (by kernel_rfl))

noncomputable def d_validKind (c : ContractT) (k : ClauseT) : Option Bool :=
  (bif (k.kind == 4) then (Option.bind (bif (k.role == (-1)) then (bif (k.need == 1) then (bif (k.grace == 0) then some (!k.final) else some false) else some false) else some false) fun v1 => some v1) else (Option.bind (Option.bind (d_movable c k.role) fun r1 => (bif r1 then (Option.bind (d_natural c k.act) fun r2 => some r2) else some true)) fun v2 => (bif v2 then some false else (bif (k.kind == 1) then (Option.bind (bif decide (1 ≤ k.need) then (bif decide (k.need ≤ 9) then (bif decide (0 ≤ k.grace) then some (decide (k.grace ≤ 400)) else some false) else some false) else some false) fun v3 => some v3) else (bif (k.kind == 2) then (Option.bind (bif (k.need == 1) then some (k.grace == 0) else some false) fun v4 => some v4) else (bif (k.kind == 3) then (Option.bind (bif (k.need == 1) then (bif (k.grace == 0) then some (!k.final) else some false) else some false) fun v5 => some v5) else some false))))))
noncomputable def p_validKind (c : ContractT) (k : ClauseT) : Plan Bool :=
  .ite 286 (k.kind == 4) (.sel 286 (.cut (β := Bool) 1 (.e [] (fun v1 => [(4, vB v1)]) [0, 1] 25) (.reg 0 (.ite 288 (k.role == (-1)) (.ite 290 (k.need == 1) (.ite 292 (k.grace == 0) (.us [(4, 288), (9, 290), (14, 292)] (.ret (!k.final))) (.us [(4, 288), (9, 290), (14, 292)] (.ret false))) (.us [(4, 288), (9, 290)] (.f1 336 (.g false) (rfl : false = false) (.use 14 336 (.ret false))))) (.use 4 288 (.f1 340 (.g false) (rfl : false = false) (.use 9 340 (.f1 338 (.g false) (rfl : false = false) (.use 14 338 (.ret false)))))))) fun v1 => .ret v1)) (.sel 286 (.cut (β := Bool) 2 (.e [3] (fun v2 => [(36, vB v2)]) [0, 1] 17) (.reg 0 (.call 342 (t_movable c k.role) fun r1 => .ite 294 r1 (.call 344 (t_natural c k.act) fun r2 => .us [(3, 342), (6, 295), (9, 344)] (.ret r2)) (.us [(3, 342), (6, 295)] (.ret true)))) fun v2 => .ite 316 v2 (.sel 316 (.ret false)) (.sel 316 (.ite 318 (k.kind == 1) (.sel 318 (.cut (β := Bool) 1 (.e [] (fun v3 => [(4, vB v3)]) [0, 1] 40) (.reg 0 (.ite 320 (decide (1 ≤ k.need)) (.ite 322 (decide (k.need ≤ 9)) (.ite 324 (decide (0 ≤ k.grace)) (.us [(4, 320), (9, 322), (14, 324)] (.ret (decide (k.grace ≤ 400)))) (.us [(4, 320), (9, 322), (14, 324)] (.ret false))) (.us [(4, 320), (9, 322)] (.f1 346 (.g false) (rfl : false = false) (.use 14 346 (.ret false))))) (.use 4 320 (.f1 350 (.g false) (rfl : false = false) (.use 9 350 (.f1 348 (.g false) (rfl : false = false) (.use 14 348 (.ret false)))))))) fun v3 => .ret v3)) (.sel 318 (.ite 326 (k.kind == 2) (.sel 326 (.cut (β := Bool) 1 (.e [] (fun v4 => [(4, vB v4)]) [0, 1] 32) (.reg 0 (.ite 328 (k.need == 1) (.use 4 328 (.ret (k.grace == 0))) (.use 4 328 (.ret false)))) fun v4 => .ret v4)) (.sel 326 (.ite 330 (k.kind == 3) (.sel 330 (.cut (β := Bool) 1 (.e [] (fun v5 => [(4, vB v5)]) [0, 1] 39) (.reg 0 (.ite 332 (k.need == 1) (.ite 334 (k.grace == 0) (.us [(4, 332), (9, 334)] (.ret (!k.final))) (.us [(4, 332), (9, 334)] (.ret false))) (.use 4 332 (.f1 352 (.g false) (rfl : false = false) (.use 9 352 (.ret false)))))) fun v5 => .ret v5)) (.sel 330 (.ret false))))))))))
theorem t_validKind (c : ContractT) (k : ClauseT) (res : Bool) (hd : d_validKind c k = some res) : APure C0 43 [.agg (ContractT.row c), .agg (ClauseT.row k)] (.bool res) :=
  Plan.pure (iv := fun res => .bool res) (p_validKind c k) (by kernel_rfl) (Plan.run_of hd (by kernel_rfl))

noncomputable def d_validClause (c : ContractT) (i : Int) : Option Bool :=
  (Option.bind (idxI c.clauses i) fun e1 => (Option.bind (bif decide (e1.act < 0) then some true else (bif decide ((c.acts.length : Int) ≤ e1.act) then some true else (bif decide (e1.after < 1) then some true else some (decide (400 < e1.after))))) fun v1 => (bif v1 then some false else (Option.bind (Option.bind (d_validKind c e1) fun r1 => (bif r1 then some (decide (8 < (e1.start.length : Int))) else some true)) fun v2 => (bif v2 then some false else (Option.bind (forR (σ := Unit) (ρ := Unit) (e1.start.length : Int) (fun i1 s1 => (Option.bind (idxI e1.start (i1 : Int)) fun e2 => (Option.bind (bif decide (e2.clause < 0) then some true else (bif decide ((c.clauses.length : Int) ≤ e2.clause) then some true else (bif (e2.clause == i) then some true else (bif decide (e2.is < 1) then some true else some (decide (4 < e2.is)))))) fun v3 => (bif v3 then some (.inr ()) else some (.inl ()))))) ()) (Sum.elim (fun (s1 : Unit) => (Option.bind (α := Unit ⊕ Unit) (Option.bind (bif (e1.pause == (-1)) then some (!(e1.resume == (-1))) else some true) fun v4 => (bif v4 then (Option.bind (bif (e1.pause == e1.resume) then some true else (Option.bind (d_natural c e1.pause) fun r2 => (bif r2 then (Option.bind (d_natural c e1.resume) fun r3 => some (!r3)) else some true))) fun v5 => (bif v5 then some (.inr ()) else some (.inl ()))) else some (.inl ()))) (Sum.elim (fun (v6 : Unit) => (bif (e1.unit == (-1)) then (Option.bind (Option.bind (d_none) fun r4 => (bif ((e1.value.num == r4.num) && ((e1.value.den == r4.den) && true)) then some (e1.to == (-1)) else some false)) fun v7 => some v7) else (Option.bind (bif (e1.kind == 1) then (bif decide (0 ≤ e1.unit) then (bif decide (e1.unit < (c.units.length : Int)) then (Option.bind (idxI c.units e1.unit) fun e3 => (bif (e3.kind == 2) then (Option.bind (d_positive e1.value) fun r5 => (bif r5 then (Option.bind (d_movable c e1.to) fun r6 => some r6) else some false)) else some false)) else some false) else some false) else (bif (e1.kind == 2) then (bif decide (0 ≤ e1.unit) then (bif decide (e1.unit < (c.units.length : Int)) then (Option.bind (idxI c.units e1.unit) fun e4 => (bif (e4.kind == 2) then (Option.bind (d_positive e1.value) fun r7 => (bif r7 then (Option.bind (d_movable c e1.to) fun r8 => some r8) else some false)) else some false)) else some false) else some false) else some false)) fun v8 => some v8))) (fun (y2 : Unit) => some false)))) (fun (y1 : Unit) => some false))))))))
noncomputable def p_validClause (c : ContractT) (i : Int) : Plan Bool :=
  .reg 1 (.ix 404 ClauseT.row c.clauses i fun e1 => .use 3 404 (.cut (β := Bool) 2 (.e [1, 2, 5] (fun v1 => [(33, vB v1)]) [0, 7] 30) (.reg 0 (.ite 278 (decide (e1.act < 0)) (.use 4 278 (.f1 408 (.g true) (rfl : true = true) (.use 12 408 (.f1 406 (.g true) (rfl : true = true) (.use 17 406 (.ret true)))))) (.ite 280 (decide ((c.acts.length : Int) ≤ e1.act)) (.use 4 278 (.ln 412 ActT.row c.acts (.us [(8, 412), (12, 280)] (.f1 410 (.g true) (rfl : true = true) (.use 17 410 (.ret true)))))) (.ite 282 (decide (e1.after < 1)) (.use 4 278 (.ln 414 ActT.row c.acts (.us [(8, 414), (12, 280), (17, 282)] (.ret true)))) (.use 4 278 (.ln 416 ActT.row c.acts (.us [(8, 416), (12, 280), (17, 282)] (.ret (decide (400 < e1.after)))))))))) fun v1 => .ite 284 v1 (.sel 284 (.ret false)) (.sel 284 (.cut (β := Bool) 2 (.e [1, 2, 5] (fun v2 => [(43, vB v2)]) [0, 7] 40) (.reg 0 (.call 418 (t_validKind c e1) fun r1 => .ite 354 r1 (.us [(2, 418), (5, 355)] (.ln 420 CondT.row e1.start (.use 7 420 (.ret (decide (8 < (e1.start.length : Int))))))) (.us [(2, 418), (5, 355)] (.ret true)))) fun v2 => .ite 356 v2 (.sel 356 (.ret false)) (.sel 356 (.reg 0 (.ln 522 CondT.row e1.start (.use 2 522 (.forR (σ := Unit) (ρ := Unit) 358 47 (e1.start.length : Int) () (.e [1, 2, 5, 45, 46] (fun _ => []) [0, 7] 44) (fun i1 s1 => .sel 358 (.reg 0 (.ix 422 CondT.row e1.start (i1 : Int) fun e2 => .use 0 422 (.cut (β := Bool) 1 (.e [1, 2, 5, 45, 46, 47] (fun v3 => [(77, vB v3)]) [0, 7, 47] 76) (.reg 0 (.ite 360 (decide (e2.clause < 0)) (.use 4 360 (.f1 428 (.g true) (rfl : true = true) (.use 12 428 (.f1 426 (.g true) (rfl : true = true) (.use 18 426 (.f1 424 (.g true) (rfl : true = true) (.use 23 424 (.ret true)))))))) (.ite 362 (decide ((c.clauses.length : Int) ≤ e2.clause)) (.use 4 360 (.ln 434 ClauseT.row c.clauses (.us [(8, 434), (12, 362)] (.f1 432 (.g true) (rfl : true = true) (.use 18 432 (.f1 430 (.g true) (rfl : true = true) (.use 23 430 (.ret true)))))))) (.ite 364 (e2.clause == i) (.use 4 360 (.ln 438 ClauseT.row c.clauses (.us [(8, 438), (12, 362), (18, 364)] (.f1 436 (.g true) (rfl : true = true) (.use 23 436 (.ret true)))))) (.ite 366 (decide (e2.is < 1)) (.use 4 360 (.ln 440 ClauseT.row c.clauses (.us [(8, 440), (12, 362), (18, 364), (23, 366)] (.ret true)))) (.use 4 360 (.ln 442 ClauseT.row c.clauses (.us [(8, 442), (12, 362), (18, 364), (23, 366)] (.ret (decide (4 < e2.is))))))))))) fun v3 => .ite 368 v3 (.sel 368 (.ret (.inr ()))) (.sel 368 (.ret (.inl ()))))))) fun os1 => .case os1 (fun s1 => .sel 358 (.cutO (β := Unit) (γ := Unit) 1 (.e [2, 5] (fun _ => []) [0, 7] 53) (.cut (β := Bool) 1 (.e [2, 5] (fun v4 => [(86, vB v4)]) [0, 7] 53) (.reg 0 (.ite 370 (e1.pause == (-1)) (.use 4 371 (.ret (!(e1.resume == (-1))))) (.use 4 371 (.ret true)))) fun v4 => .ite 372 v4 (.sel 372 (.cut (β := Bool) 1 (.e [2, 5] (fun v5 => [(105, vB v5)]) [0, 7] 72) (.reg 0 (.ite 374 (e1.pause == e1.resume) (.use 6 374 (.f1 516 (.g true) (rfl : true = true) (.use 13 516 (.ret true)))) (.call 518 (t_natural c e1.pause) fun r2 => .ite 376 r2 (.call 520 (t_natural c e1.resume) fun r3 => .us [(6, 374), (9, 518), (13, 377), (16, 520)] (.ret (!r3))) (.us [(6, 374), (9, 518), (13, 377)] (.ret true))))) fun v5 => .ite 378 v5 (.sel 378 (.ret (.inr ()))) (.sel 378 (.ret (.inl ()))))) (.sel 372 (.ret (.inl ())))) fun o_v6 => .case o_v6 (fun v6 => .ite 380 (e1.unit == (-1)) (.sel 380 (.cut (β := Bool) 1 (.e [] (fun v7 => [(4, vB v7)]) [0, 7] 66) (.reg 0 (.call 444 t_none fun r4 => .ite 382 ((e1.value.num == r4.num) && ((e1.value.den == r4.den) && true)) (.us [(2, 444), (5, 382)] (.ret (e1.to == (-1)))) (.us [(2, 444), (5, 382)] (.ret false)))) fun v7 => .ret v7)) (.sel 380 (.cut (β := Bool) 1 (.e [] (fun v8 => [(4, vB v8)]) [0, 7] 99) (.reg 0 (.ite 384 (e1.kind == 1) (.ite 386 (decide (0 ≤ e1.unit)) (.ite 388 (decide (e1.unit < (c.units.length : Int))) (.ix 446 UnitT.row c.units e1.unit fun e3 => .ite 390 (e3.kind == 2) (.call 448 (t_positive e1.value) fun r5 => .ite 392 r5 (.call 450 (t_movable c e1.to) fun r6 => .use 4 384 (.f1 454 (.g true) (rfl : true = true) (.us [(9, 454), (14, 386)] (.ln 452 UnitT.row c.units (.us [(18, 452), (22, 388), (26, 446), (32, 390), (34, 448), (37, 392), (40, 450)] (.ret r6)))))) (.use 4 384 (.f1 458 (.g true) (rfl : true = true) (.us [(9, 458), (14, 386)] (.ln 456 UnitT.row c.units (.us [(18, 456), (22, 388), (26, 446), (32, 390), (34, 448), (37, 392)] (.ret false))))))) (.use 4 384 (.f1 464 (.g true) (rfl : true = true) (.us [(9, 464), (14, 386)] (.ln 462 UnitT.row c.units (.us [(18, 462), (22, 388), (26, 446), (32, 390)] (.f1 460 (.g false) (rfl : false = false) (.use 37 460 (.ret false))))))))) (.use 4 384 (.f1 472 (.g true) (rfl : true = true) (.us [(9, 472), (14, 386)] (.ln 470 UnitT.row c.units (.us [(18, 470), (22, 388)] (.f1 468 (.g false) (rfl : false = false) (.use 32 468 (.f1 466 (.g false) (rfl : false = false) (.use 37 466 (.ret false))))))))))) (.use 4 384 (.f1 480 (.g true) (rfl : true = true) (.us [(9, 480), (14, 386)] (.f1 478 (.g false) (rfl : false = false) (.use 22 478 (.f1 476 (.g false) (rfl : false = false) (.use 32 476 (.f1 474 (.g false) (rfl : false = false) (.use 37 474 (.ret false))))))))))) (.ite 394 (e1.kind == 2) (.ite 396 (decide (0 ≤ e1.unit)) (.ite 398 (decide (e1.unit < (c.units.length : Int))) (.ix 482 UnitT.row c.units e1.unit fun e4 => .ite 400 (e4.kind == 2) (.call 484 (t_positive e1.value) fun r7 => .ite 402 r7 (.call 486 (t_movable c e1.to) fun r8 => .us [(4, 384), (9, 394), (14, 396)] (.ln 488 UnitT.row c.units (.us [(18, 488), (22, 398), (26, 482), (32, 400), (34, 484), (37, 402), (40, 486)] (.ret r8)))) (.us [(4, 384), (9, 394), (14, 396)] (.ln 490 UnitT.row c.units (.us [(18, 490), (22, 398), (26, 482), (32, 400), (34, 484), (37, 402)] (.ret false))))) (.us [(4, 384), (9, 394), (14, 396)] (.ln 494 UnitT.row c.units (.us [(18, 494), (22, 398), (26, 482), (32, 400)] (.f1 492 (.g false) (rfl : false = false) (.use 37 492 (.ret false))))))) (.us [(4, 384), (9, 394), (14, 396)] (.ln 500 UnitT.row c.units (.us [(18, 500), (22, 398)] (.f1 498 (.g false) (rfl : false = false) (.use 32 498 (.f1 496 (.g false) (rfl : false = false) (.use 37 496 (.ret false))))))))) (.us [(4, 384), (9, 394), (14, 396)] (.f1 506 (.g false) (rfl : false = false) (.use 22 506 (.f1 504 (.g false) (rfl : false = false) (.use 32 504 (.f1 502 (.g false) (rfl : false = false) (.use 37 502 (.ret false))))))))) (.us [(4, 384), (9, 394)] (.f1 514 (.g false) (rfl : false = false) (.use 14 514 (.f1 512 (.g false) (rfl : false = false) (.use 22 512 (.f1 510 (.g false) (rfl : false = false) (.use 32 510 (.f1 508 (.g false) (rfl : false = false) (.use 37 508 (.ret false))))))))))))) fun v8 => .ret v8))) fun y2 => .ret false)) fun y1 => .ret false)))))))))
theorem t_validClause (c : ContractT) (i : Int) (res : Bool) (hd : d_validClause c i = some res) : APure C0 20 [.agg (ContractT.row c), .int .i64 i] (.bool res) :=
  Plan.pure (iv := fun res => .bool res) (p_validClause c i) (by kernel_rfl) (Plan.run_of hd (by kernel_rfl))

noncomputable def d_Valid (c : ContractT) : Option (Int × Int) :=
  (Option.bind (bif decide (12 < c.parties) then some true else (bif decide (2000 < c.days) then some true else (bif decide (12 < (c.holders.length : Int)) then some true else (bif decide (20 < (c.units.length : Int)) then some true else (bif decide (60 < (c.acts.length : Int)) then some true else some (decide (400 < (c.clauses.length : Int)))))))) fun v1 => (bif v1 then some (3, (-1)) else (Option.bind (d_framed c) fun r1 => (bif r1 then (Option.bind (forR (σ := Unit) (ρ := Int) (c.clauses.length : Int) (fun i1 s1 => (Option.bind (d_validClause c (i1 : Int)) fun r2 => (bif r2 then some (.inl ()) else some (.inr (i1 : Int))))) ()) (Sum.elim (fun (s1 : Unit) => some (0, (-1))) (fun (y1 : Int) => some (1, y1)))) else some (1, (-1))))))
noncomputable def p_Valid (c : ContractT) : Plan (Int × Int) :=
  .cut (β := Bool) 3 (.e [1] (fun v1 => [(36, vB v1)]) [0] 35) (.reg 0 (.ite 2 (decide (12 < c.parties)) (.use 4 2 (.f1 532 (.g true) (rfl : true = true) (.use 9 532 (.f1 530 (.g true) (rfl : true = true) (.use 15 530 (.f1 528 (.g true) (rfl : true = true) (.use 21 528 (.f1 526 (.g true) (rfl : true = true) (.use 27 526 (.ret true)))))))))) (.ite 4 (decide (2000 < c.days)) (.us [(4, 2), (9, 4)] (.f1 538 (.g true) (rfl : true = true) (.use 15 538 (.f1 536 (.g true) (rfl : true = true) (.use 21 536 (.f1 534 (.g true) (rfl : true = true) (.use 27 534 (.ret true)))))))) (.ite 6 (decide (12 < (c.holders.length : Int))) (.us [(4, 2), (9, 4)] (.ln 544 rowI c.holders (.us [(11, 544), (15, 6)] (.f1 542 (.g true) (rfl : true = true) (.use 21 542 (.f1 540 (.g true) (rfl : true = true) (.use 27 540 (.ret true)))))))) (.ite 8 (decide (20 < (c.units.length : Int))) (.us [(4, 2), (9, 4)] (.ln 550 rowI c.holders (.us [(11, 550), (15, 6)] (.ln 548 UnitT.row c.units (.us [(17, 548), (21, 8)] (.f1 546 (.g true) (rfl : true = true) (.use 27 546 (.ret true)))))))) (.ite 10 (decide (60 < (c.acts.length : Int))) (.us [(4, 2), (9, 4)] (.ln 556 rowI c.holders (.us [(11, 556), (15, 6)] (.ln 554 UnitT.row c.units (.us [(17, 554), (21, 8)] (.ln 552 ActT.row c.acts (.us [(23, 552), (27, 10)] (.ret true)))))))) (.us [(4, 2), (9, 4)] (.ln 564 rowI c.holders (.us [(11, 564), (15, 6)] (.ln 562 UnitT.row c.units (.us [(17, 562), (21, 8)] (.ln 560 ActT.row c.acts (.us [(23, 560), (27, 10)] (.ln 558 ClauseT.row c.clauses (.use 29 558 (.ret (decide (400 < (c.clauses.length : Int))))))))))))))))))) fun v1 => .ite 12 v1 (.sel 12 (.ret (3, (-1)))) (.sel 12 (.reg 0 (.call 566 (t_framed c) fun r1 => .use 1 566 (.ite 274 r1 (.sel 275 (.reg 0 (.ln 570 ClauseT.row c.clauses (.use 2 570 (.forR (σ := Unit) (ρ := Int) 276 43 (c.clauses.length : Int) () (.e [1, 42] (fun _ => []) [0] 42) (fun i1 s1 => .sel 276 (.reg 1 (.call 568 (t_validClause c (i1 : Int)) fun r2 => .use 2 568 (.ite 524 r2 (.sel 525 (.ret (.inl ()))) (.sel 525 (.ret (.inr (i1 : Int)))))))) fun os1 => .case os1 (fun s1 => .sel 276 (.ret (0, (-1)))) fun y1 => .ret (1, y1)))))) (.sel 275 (.ret (1, (-1))))))))
theorem t_Valid (c : ContractT) (res : Int × Int) (hd : d_Valid c = some res) : APure C0 8 [.agg (ContractT.row c)] (.tuple [.int .i64 res.1, .int .i64 res.2]) :=
  Plan.pure (iv := fun res => .tuple [.int .i64 res.1, .int .i64 res.2]) (p_Valid c) (by kernel_rfl) (Plan.run_of hd (by kernel_rfl))

noncomputable def d_Few (c : ContractT) (n : Int) : Option Bool :=
  (Option.bind (bif decide (13 < (c.holders.length : Int)) then some true else (bif decide (21 < (c.units.length : Int)) then some true else (bif decide (61 < (c.acts.length : Int)) then some true else (bif decide (n < (c.clauses.length : Int)) then some true else some (decide (100 < (c.off.length : Int))))))) fun v1 => (bif v1 then some false else (Option.bind (forR (σ := Unit) (ρ := Unit) (c.units.length : Int) (fun i1 s1 => (Option.bind (idxI c.units (i1 : Int)) fun e1 => (bif decide (60 < (e1.name.size : Int)) then some (.inr ()) else some (.inl ())))) ()) (Sum.elim (fun (s1 : Unit) => (Option.bind (forR (σ := Unit) (ρ := Unit) (c.clauses.length : Int) (fun i2 s2 => (Option.bind (idxI c.clauses (i2 : Int)) fun e2 => (bif decide (10 < (e2.start.length : Int)) then some (.inr ()) else some (.inl ())))) ()) (Sum.elim (fun (s2 : Unit) => some true) (fun (y2 : Unit) => some false)))) (fun (y1 : Unit) => some false)))))
noncomputable def p_Few (c : ContractT) (n : Int) : Plan Bool :=
  .cut (β := Bool) 3 (.e [2] (fun v1 => [(35, vB v1)]) [0] 31) (.reg 0 (.ite 572 (decide (13 < (c.holders.length : Int))) (.ln 596 rowI c.holders (.us [(2, 596), (5, 572)] (.f1 594 (.g true) (rfl : true = true) (.use 11 594 (.f1 592 (.g true) (rfl : true = true) (.use 17 592 (.f1 590 (.g true) (rfl : true = true) (.use 24 590 (.ret true))))))))) (.ite 574 (decide (21 < (c.units.length : Int))) (.ln 604 rowI c.holders (.us [(2, 604), (5, 572)] (.ln 602 UnitT.row c.units (.us [(7, 602), (11, 574)] (.f1 600 (.g true) (rfl : true = true) (.use 17 600 (.f1 598 (.g true) (rfl : true = true) (.use 24 598 (.ret true))))))))) (.ite 576 (decide (61 < (c.acts.length : Int))) (.ln 612 rowI c.holders (.us [(2, 612), (5, 572)] (.ln 610 UnitT.row c.units (.us [(7, 610), (11, 574)] (.ln 608 ActT.row c.acts (.us [(13, 608), (17, 576)] (.f1 606 (.g true) (rfl : true = true) (.use 24 606 (.ret true))))))))) (.ite 578 (decide (n < (c.clauses.length : Int))) (.ln 620 rowI c.holders (.us [(2, 620), (5, 572)] (.ln 618 UnitT.row c.units (.us [(7, 618), (11, 574)] (.ln 616 ActT.row c.acts (.us [(13, 616), (17, 576)] (.ln 614 ClauseT.row c.clauses (.us [(19, 614), (24, 578)] (.ret true))))))))) (.ln 630 rowI c.holders (.us [(2, 630), (5, 572)] (.ln 628 UnitT.row c.units (.us [(7, 628), (11, 574)] (.ln 626 ActT.row c.acts (.us [(13, 626), (17, 576)] (.ln 624 ClauseT.row c.clauses (.us [(19, 624), (24, 578)] (.ln 622 rowI c.off (.use 26 622 (.ret (decide (100 < (c.off.length : Int))))))))))))))))))) fun v1 => .ite 580 v1 (.sel 580 (.ret false)) (.sel 580 (.forR (σ := Unit) (ρ := Unit) 582 5 (c.units.length : Int) () (.e [2] (fun _ => []) [0] 32) (fun i1 s1 => .reg 0 (.ln 634 UnitT.row c.units (.use 3 634 (.sel 582 (.reg 0 (.ix 632 UnitT.row c.units (i1 : Int) fun e1 => .use 3 632 (.ite 584 (decide (60 < (e1.name.size : Int))) (.sel 584 (.ret (.inr ()))) (.sel 584 (.ret (.inl ())))))))))) fun os1 => .case os1 (fun s1 => .reg 0 (.ln 644 UnitT.row c.units (.use 3 644 (.sel 582 (.forR (σ := Unit) (ρ := Unit) 586 6 (c.clauses.length : Int) () (.e [2] (fun _ => []) [0] 38) (fun i2 s2 => .reg 0 (.ln 640 ClauseT.row c.clauses (.use 3 640 (.sel 586 (.reg 0 (.ix 636 ClauseT.row c.clauses (i2 : Int) fun e2 => .use 3 636 (.ln 638 CondT.row e2.start (.use 6 638 (.ite 588 (decide (10 < (e2.start.length : Int))) (.sel 588 (.ret (.inr ()))) (.sel 588 (.ret (.inl ())))))))))))) fun os2 => .case os2 (fun s2 => .reg 0 (.ln 642 ClauseT.row c.clauses (.use 3 642 (.sel 586 (.ret true))))) fun y2 => .ret false))))) fun y1 => .ret false))
theorem t_Few (c : ContractT) (n : Int) (res : Bool) (hd : d_Few c n = some res) : APure C0 7 [.agg (ContractT.row c), .int .i64 n] (.bool res) :=
  Plan.pure (iv := fun res => .bool res) (p_Few c n) (by kernel_rfl) (Plan.run_of hd (by kernel_rfl))

noncomputable def d_Ints (a : List Int) (b : List Int) : Option Bool :=
  (bif ((a.length : Int) == (b.length : Int)) then (Option.bind (forR (σ := Unit) (ρ := Unit) (a.length : Int) (fun i1 s1 => (Option.bind (idxI a (i1 : Int)) fun e1 => (Option.bind (idxI b (i1 : Int)) fun e2 => (bif (e1 == e2) then some (.inl ()) else some (.inr ()))))) ()) (Sum.elim (fun (s1 : Unit) => some true) (fun (y1 : Unit) => some false))) else some false)
noncomputable def p_Ints (a : List Int) (b : List Int) : Plan Bool :=
  .reg 1 (.ln 666 rowI a (.use 1 666 (.ln 664 rowI b (.use 3 664 (.ite 650 ((a.length : Int) == (b.length : Int)) (.sel 651 (.forR (σ := Unit) (ρ := Unit) 652 5 (a.length : Int) () (.e [0, 1] (fun _ => []) [] 7) (fun i1 s1 => .reg 0 (.ln 660 rowI a (.use 2 660 (.sel 652 (.reg 0 (.ix 656 rowI a (i1 : Int) fun e1 => .ix 658 rowI b (i1 : Int) fun e2 => .us [(2, 656), (6, 658)] (.ite 654 (e1 == e2) (.sel 655 (.ret (.inl ()))) (.sel 655 (.ret (.inr ())))))))))) fun os1 => .case os1 (fun s1 => .reg 0 (.ln 662 rowI a (.use 2 662 (.sel 652 (.ret true))))) fun y1 => .ret false)) (.sel 651 (.ret false)))))))
theorem t_Ints (a : List Int) (b : List Int) (res : Bool) (hd : d_Ints a b = some res) : APure C0 18 [.slice (List.map rowI a), .slice (List.map rowI b)] (.bool res) :=
  Plan.pure (iv := fun res => .bool res) (p_Ints a b) (by kernel_rfl) (Plan.run_of hd (by kernel_rfl))

noncomputable def d_part (l : List (List Int)) (i : Int) : Option Int :=
  (Option.bind (forR (σ := Unit) (ρ := Int) (l.length : Int) (fun i1 s1 => (Option.bind (α := Unit ⊕ Unit) (Option.bind (iter (σ := Int) (ρ := Unit ⊕ Unit) (fun s2 => (Option.bind (idxI l (i1 : Int)) fun e1 => (bif decide (s2 < (e1.length : Int)) then (Option.bind (idxI l (i1 : Int)) fun e2 => (Option.bind (idxI e2 s2) fun e3 => (bif (e3 == i) then some (.inr (.inr ())) else some (.inl (IntKind.i64.wrap (s2 + 1)))))) else some (.inr (.inl ()))))) 0) (Sum.elim (fun (y1 : Unit) => some (.inl ())) (fun (y2 : Unit) => some (.inr ())))) (Sum.elim (fun (v1 : Unit) => some (.inl ())) (fun (y3 : Unit) => some (.inr (i1 : Int)))))) ()) (Sum.elim (fun (s1 : Unit) => some (-1)) (fun (y4 : Int) => some y4)))
noncomputable def p_part (l : List (List Int)) (i : Int) : Plan Int :=
  .forR (σ := Unit) (ρ := Int) 926 5 (l.length : Int) () (.e [0, 1] (fun _ => []) [] 2) (fun i1 s1 => .reg 0 (.ln 942 (rowL rowI) l (.use 2 942 (.sel 926 (.cutO (β := Unit) (γ := Unit) 1 (.e [0, 1, 5] (fun _ => []) [] 7) (.iter (σ := Int) (ρ := Unit ⊕ Unit) 0 (.e [0, 1, 5] (fun s2 => [(6, vI s2)]) [] 7) (fun s2 => .reg 0 (.ix 934 (rowL rowI) l (i1 : Int) fun e1 => .use 3 934 (.ln 940 rowI e1 (.use 5 940 (.ite 930 (decide (s2 < (e1.length : Int))) (.sel 930 (.reg 0 (.ix 936 (rowL rowI) l (i1 : Int) fun e2 => .ix 938 rowI e2 s2 fun e3 => .us [(2, 936), (5, 938)] (.ite 932 (e3 == i) (.sel 932 (.ret (.inr (.inr ())))) (.sel 932 (.ret (.inl (IntKind.i64.wrap (s2 + 1))))))))) (.sel 930 (.ret (.inr (.inl ()))))))))) fun os2 => .case os2 (fun y1 => .ret (.inl ())) fun y2 => .ret (.inr ())) fun o_v1 => .case o_v1 (fun v1 => .ret (.inl ())) fun y3 => .ret (.inr (i1 : Int))))))) fun os1 => .case os1 (fun s1 => .reg 0 (.ln 944 (rowL rowI) l (.use 2 944 (.sel 926 (.ret (-1)))))) fun y4 => .ret y4
theorem t_part (l : List (List Int)) (i : Int) (res : Int) (hd : d_part l i = some res) : APure C0 14 [.slice (List.map (rowL rowI) l), .int .i64 i] (.int .i64 res) :=
  Plan.pure (iv := fun res => .int .i64 res) (p_part l i) (by kernel_rfl) (Plan.run_of hd (by kernel_rfl))

noncomputable def d_numbers (k : ClauseT) : Option (List Int) :=
  (bif (k.pause == (-1)) then some [k.act] else some [k.act, k.pause, k.resume])
noncomputable def p_numbers (k : ClauseT) : Plan (List Int) :=
  .ite 946 (k.pause == (-1)) (.sel 946 (.ret [k.act])) (.sel 946 (.ret [k.act, k.pause, k.resume]))
theorem t_numbers (k : ClauseT) (res : List Int) (hd : d_numbers k = some res) : APure C0 25 [.agg (ClauseT.row k)] (.slice (List.map rowI res)) :=
  Plan.pure (iv := fun res => .slice (List.map rowI res)) (p_numbers k) (by kernel_rfl) (Plan.run_of hd (by kernel_rfl))

noncomputable def d_Index (l : List Int) (v : Int) : Option Int :=
  (Option.bind (forR (σ := Unit) (ρ := Int) (l.length : Int) (fun i1 s1 => (Option.bind (idxI l (i1 : Int)) fun e1 => (bif (v == e1) then some (.inr (i1 : Int)) else some (.inl ())))) ()) (Sum.elim (fun (s1 : Unit) => some (-1)) (fun (y1 : Int) => some y1)))
noncomputable def p_Index (l : List Int) (v : Int) : Plan Int :=
  .reg 1 (.ln 954 rowI l (.use 1 954 (.forR (σ := Unit) (ρ := Int) 948 8 (l.length : Int) () (.e [0, 1, 7] (fun _ => []) [] 4) (fun i1 s1 => .sel 948 (.reg 1 (.ix 952 rowI l (i1 : Int) fun e1 => .use 3 952 (.ite 950 (v == e1) (.sel 950 (.ret (.inr (i1 : Int)))) (.sel 950 (.ret (.inl ()))))))) fun os1 => .case os1 (fun s1 => .sel 948 (.ret (-1))) fun y1 => .ret y1)))
theorem t_Index (l : List Int) (v : Int) (res : Int) (hd : d_Index l v = some res) : APure C0 50 [.slice (List.map rowI l), .int .i64 v] (.int .i64 res) :=
  Plan.pure (iv := fun res => .int .i64 res) (p_Index l v) (by kernel_rfl) (Plan.run_of hd (by kernel_rfl))

noncomputable def d_Contains (l : List Int) (v : Int) : Option Bool :=
  (Option.bind (d_Index l v) fun r1 => some (decide (0 ≤ r1)))
noncomputable def p_Contains (l : List Int) (v : Int) : Plan Bool :=
  .reg 1 (.call 956 (t_Index l v) fun r1 => .use 2 956 (.ret (decide (0 ≤ r1))))
theorem t_Contains (l : List Int) (v : Int) (res : Bool) (hd : d_Contains l v = some res) : APure C0 28 [.slice (List.map rowI l), .int .i64 v] (.bool res) :=
  Plan.pure (iv := fun res => .bool res) (p_Contains l v) (by kernel_rfl) (Plan.run_of hd (by kernel_rfl))

noncomputable def d_isNaN2 (x : Int) : Option Bool :=
  some (!(x == x))
noncomputable def p_isNaN2 (x : Int) : Plan Bool :=
  .ret (!(x == x))
theorem t_isNaN2 (x : Int) (res : Bool) (hd : d_isNaN2 x = some res) : APure C0 56 [.int .i64 x] (.bool res) :=
  Plan.pure (iv := fun res => .bool res) (p_isNaN2 x) (by kernel_rfl) (Plan.run_of hd (by kernel_rfl))

noncomputable def d_less (x : Int) (y : Int) : Option Bool :=
  (Option.bind (Option.bind (d_isNaN2 x) fun r1 => (bif r1 then (Option.bind (d_isNaN2 y) fun r2 => (bif r2 then some (decide (x < y)) else some true)) else some (decide (x < y)))) fun v1 => some v1)
noncomputable def p_less (x : Int) (y : Int) : Plan Bool :=
  .cut (β := Bool) 2 (.e [] (fun v1 => [(4, vB v1)]) [] 14) (.reg 0 (.call 966 (t_isNaN2 x) fun r1 => .ite 962 r1 (.call 968 (t_isNaN2 y) fun r2 => .ite 964 r2 (.us [(1, 966), (3, 962), (4, 968), (8, 965)] (.ret (decide (x < y)))) (.us [(1, 966), (3, 962), (4, 968), (8, 965)] (.ret true))) (.us [(1, 966), (3, 962)] (.f1 970 (.g false) (rfl : false = false) (.use 8 970 (.ret (decide (x < y)))))))) fun v1 => .ret v1
theorem t_less (x : Int) (y : Int) (res : Bool) (hd : d_less x y = some res) : APure C0 52 [.int .i64 x, .int .i64 y] (.bool res) :=
  Plan.pure (iv := fun res => .bool res) (p_less x y) (by kernel_rfl) (Plan.run_of hd (by kernel_rfl))

noncomputable def d_isNaN (x : Int) : Option Bool :=
  some (!(x == x))
noncomputable def p_isNaN (x : Int) : Plan Bool :=
  .ret (!(x == x))
theorem t_isNaN (x : Int) (res : Bool) (hd : d_isNaN x = some res) : APure C0 53 [.int .i64 x] (.bool res) :=
  Plan.pure (iv := fun res => .bool res) (p_isNaN x) (by kernel_rfl) (Plan.run_of hd (by kernel_rfl))

noncomputable def d_BinarySearch (l : List Int) (v : Int) : Option (Int × Bool) :=
  (Option.bind (Option.bind (iter (σ := Int × Int) (ρ := Int) (fun s1 => (bif decide (s1.1 < s1.2) then (Option.bind (shrI .u64 .u64 (IntKind.u64.wrap (IntKind.i64.wrap (s1.1 + s1.2))) 1) fun e1 => (Option.bind (idxI l (IntKind.i64.wrap e1)) fun e2 => (Option.bind (d_less e2 v) fun r1 => (bif r1 then some (.inl ((IntKind.i64.wrap ((IntKind.i64.wrap e1) + 1)), s1.2)) else some (.inl (s1.1, (IntKind.i64.wrap e1))))))) else some (.inr s1.1))) (0, (l.length : Int))) (fun (y1 : Int) => some y1)) fun (v1 : Int) => (Option.bind (bif decide (v1 < (l.length : Int)) then (Option.bind (idxI l v1) fun e3 => (bif (e3 == v) then some true else (Option.bind (d_isNaN e3) fun r2 => (bif r2 then (Option.bind (d_isNaN v) fun r3 => some r3) else some false)))) else some false) fun v2 => some (v1, v2)))
noncomputable def p_BinarySearch (l : List Int) (v : Int) : Plan (Int × Bool) :=
  .reg 1 (.ln 992 rowI l (.use 1 992 (.cut (β := Int) 2 (.e [0, 1, 6] (fun v1 => [(7, vI v1)]) [] 8) (.iter (σ := Int × Int) (ρ := Int) (0, (l.length : Int)) (.e [0, 1, 6] (fun s1 => [(7, vI s1.1), (8, vI s1.2)]) [] 8) (fun s1 => .ite 960 (decide (s1.1 < s1.2)) (.sel 960 (.reg 0 (.b1 980 (shrI .u64 .u64 (IntKind.u64.wrap (IntKind.i64.wrap (s1.1 + s1.2))) 1) (fun e1 => .v (.int .u64 e1)) (fun e1 he1 => (shr_side he1)) fun e1 => .use 4 980 (.reg 0 (.ix 982 rowI l (IntKind.i64.wrap e1) fun e2 => .call 984 (t_less e2 v) fun r1 => .us [(2, 982), (5, 984)] (.ite 972 r1 (.sel 972 (.ret (.inl ((IntKind.i64.wrap ((IntKind.i64.wrap e1) + 1)), s1.2)))) (.sel 972 (.ret (.inl (s1.1, (IntKind.i64.wrap e1))))))))))) (.sel 960 (.ret (.inr s1.1)))) fun y1 => .ret y1) fun v1 => .cut (β := Bool) 1 (.e [] (fun v2 => [(4, vI v1), (5, vB v2)]) [] 33) (.reg 0 (.ite 974 (decide (v1 < (l.length : Int))) (.ix 986 rowI l v1 fun e3 => .ite 976 (e3 == v) (.us [(5, 974), (7, 986), (12, 976)] (.ret true)) (.call 988 (t_isNaN e3) fun r2 => .ite 978 r2 (.call 990 (t_isNaN v) fun r3 => .us [(5, 974), (7, 986), (12, 976), (14, 986), (16, 988), (18, 978), (19, 990)] (.ret r3)) (.us [(5, 974), (7, 986), (12, 976), (14, 986), (16, 988), (18, 978)] (.ret false)))) (.use 5 974 (.ret false)))) fun v2 => .ret (v1, v2))))
theorem t_BinarySearch (l : List Int) (v : Int) (res : Int × Bool) (hd : d_BinarySearch l v = some res) : APure C0 38 [.slice (List.map rowI l), .int .i64 v] (.tuple [.int .i64 res.1, .bool res.2]) :=
  Plan.pure (iv := fun res => .tuple [.int .i64 res.1, .bool res.2]) (p_BinarySearch l v) (by kernel_rfl) (Plan.run_of hd (by kernel_rfl))

noncomputable def d_24a (p1 : CondT) (p2 : Int) : Option Unit :=
  some ()
noncomputable def p_24a (p1 : CondT) (p2 : Int) : Plan Unit :=
  .ret ()
theorem t_24a (p1 : CondT) (p2 : Int) (res : Unit) (hd : d_24a p1 p2 = some res) : DOk C0 24 [.imm (.agg [.int .i64 p1.clause, .int .i64 p1.is]), .ptr 0 0 0] [(0, .rows 1 [[vI p2]])] 1 (vB (p1.clause == p2)) [(0, .rows 1 [[vI p2]])] 0 :=
  Plan.det (R := fun res => vB (p1.clause == p2)) (H := fun res => [(0, .rows 1 [[vI p2]])]) (p_24a p1 p2) (.exp rfl rfl .nil) (fun _ => (.exp rfl rfl .nil)) (by kernel_rfl) (fun _ => by kernel_rfl) (by kernel_rfl) (Plan.run_of hd (by kernel_rfl))

noncomputable def d_48a (p1 : List CondT) (p2 : Int) : Option Int :=
  (Option.bind (forR (σ := Unit) (ρ := Int) (p1.length : Int) (fun i1 s1 => (Option.bind (idxI p1 (i1 : Int)) fun e1 => (Option.bind (d_24a e1 p2) fun r1 => (bif (e1.clause == p2) then some (.inr (i1 : Int)) else some (.inl ()))))) ()) (Sum.elim (fun (s1 : Unit) => some (-1)) (fun (y1 : Int) => some y1)))
noncomputable def p_48a (p1 : List CondT) (p2 : Int) : Plan Int :=
  .reg 1 (.ln 1014 CondT.row p1 (.use 1 1014 (.forR (σ := Unit) (ρ := Int) 1006 8 (p1.length : Int) () (.e [0, 1, 7] (fun _ => []) [0] 5) (fun i1 s1 => .sel 1006 (.reg 1 (.ix 1010 CondT.row p1 (i1 : Int) fun e1 => .b1 1012 (d_24a e1 p2) (fun r1 => .c [0] 1 (vB (e1.clause == p2)) [] 0) (fun r1 hr1 => (call_side (t_24a e1 p2 r1 hr1) [0] 13 (.drop rfl rfl .nil) (rhR rhN) rhN)) fun r1 => .us [(3, 1010), (5, 1012)] (.ite 1008 (e1.clause == p2) (.sel 1008 (.ret (.inr (i1 : Int)))) (.sel 1008 (.ret (.inl ()))))))) fun os1 => .case os1 (fun s1 => .sel 1006 (.ret (-1))) fun y1 => .ret y1)))
theorem t_48a (p1 : List CondT) (p2 : Int) (res : Int) (hd : d_48a p1 p2 = some res) : DOk C0 48 [.imm (.slice (List.map CondT.row p1)), .func 24 [] [.ptr 0 0 0]] [(0, .rows 1 [[vI p2]])] 1 (vI res) [(0, .rows 1 [[vI p2]])] 0 :=
  Plan.det (R := fun res => vI res) (H := fun res => [(0, .rows 1 [[vI p2]])]) (p_48a p1 p2) (.exp rfl rfl .nil) (fun _ => (.exp rfl rfl .nil)) (by kernel_rfl) (fun _ => by kernel_rfl) (by kernel_rfl) (Plan.run_of hd (by kernel_rfl))

noncomputable def d_23a (p1 : List CondT) (p2 : Int) : Option Bool :=
  (Option.bind (d_48a p1 p2) fun r1 => some (decide (0 ≤ r1)))
noncomputable def p_23a (p1 : List CondT) (p2 : Int) : Plan Bool :=
  .reg 1 (.b1 1016 (d_48a p1 p2) (fun r1 => .c [0] 1 (vI r1) [] 0) (fun r1 hr1 => (call_side (t_48a p1 p2 r1 hr1) [0] 4 (.drop rfl rfl .nil) (rhR rhN) rhN)) fun r1 => .use 2 1016 (.ret (decide (0 ≤ r1))))
theorem t_23a (p1 : List CondT) (p2 : Int) (res : Bool) (hd : d_23a p1 p2 = some res) : DOk C0 23 [.imm (.slice (List.map CondT.row p1)), .func 24 [] [.ptr 0 0 0]] [(0, .rows 1 [[vI p2]])] 1 (vB res) [(0, .rows 1 [[vI p2]])] 0 :=
  Plan.det (R := fun res => vB res) (H := fun res => [(0, .rows 1 [[vI p2]])]) (p_23a p1 p2) (.exp rfl rfl .nil) (fun _ => (.exp rfl rfl .nil)) (by kernel_rfl) (fun _ => by kernel_rfl) (by kernel_rfl) (Plan.run_of hd (by kernel_rfl))

noncomputable def d_22a (p1 : Int) (p2 : Int) (p3 : ContractT) : Option Bool :=
  (Option.bind (idxI p3.clauses p1) fun e1 => (Option.bind (d_23a e1.start p2) fun r1 => some r1))
noncomputable def p_22a (p1 : Int) (p2 : Int) (p3 : ContractT) : Plan Bool :=
  .reg 1 (.ix 1018 ClauseT.row p3.clauses p1 fun e1 => .b1 1020 (d_23a e1.start p2) (fun r1 => .c [1] 1 (vB r1) [] 0) (fun r1 hr1 => (call_side (t_23a e1.start p2 r1 hr1) [1] 10 (.drop rfl rfl .nil) (rhR rhN) rhN)) fun r1 => .us [(3, 1018), (7, 1020)] (.ret r1))
theorem t_22a (p1 : Int) (p2 : Int) (p3 : ContractT) (res : Bool) (hd : d_22a p1 p2 p3 = some res) : DOk C0 22 [vI p1, vI p2, .ptr 0 0 0] [(0, .rows 7 [rowA (ContractT.row p3)])] 1 (vB res) [(0, .rows 7 [rowA (ContractT.row p3)])] 0 :=
  Plan.det (R := fun res => vB res) (H := fun res => [(0, .rows 7 [rowA (ContractT.row p3)])]) (p_22a p1 p2 p3) (.exp rfl rfl .nil) (fun _ => (.exp rfl rfl .nil)) (by kernel_rfl) (fun _ => by kernel_rfl) (by kernel_rfl) (Plan.run_of hd (by kernel_rfl))

noncomputable def d_27a (p1 : Int) (p2 : List Int) : Option Bool :=
  (Option.bind (d_Contains p2 p1) fun r1 => some r1)
noncomputable def p_27a (p1 : Int) (p2 : List Int) : Plan Bool :=
  .reg 1 (.call 1028 (t_Contains p2 p1) fun r1 => .use 2 1028 (.ret r1))
theorem t_27a (p1 : Int) (p2 : List Int) (res : Bool) (hd : d_27a p1 p2 = some res) : DOk C0 27 [vI p1, .ptr 0 0 0] [(0, .rows 1 [[.imm (.slice (List.map rowI p2))]])] 1 (vB res) [(0, .rows 1 [[.imm (.slice (List.map rowI p2))]])] 0 :=
  Plan.det (R := fun res => vB res) (H := fun res => [(0, .rows 1 [[.imm (.slice (List.map rowI p2))]])]) (p_27a p1 p2) (.exp rfl rfl .nil) (fun _ => (.exp rfl rfl .nil)) (by kernel_rfl) (fun _ => by kernel_rfl) (by kernel_rfl) (Plan.run_of hd (by kernel_rfl))

noncomputable def d_49a (p1 : List Int) (p2 : List Int) : Option Int :=
  (Option.bind (forR (σ := Unit) (ρ := Int) (p1.length : Int) (fun i1 s1 => (Option.bind (idxI p1 (i1 : Int)) fun e1 => (Option.bind (d_27a e1 p2) fun r1 => (bif r1 then some (.inr (i1 : Int)) else some (.inl ()))))) ()) (Sum.elim (fun (s1 : Unit) => some (-1)) (fun (y1 : Int) => some y1)))
noncomputable def p_49a (p1 : List Int) (p2 : List Int) : Plan Int :=
  .reg 1 (.ln 1036 rowI p1 (.use 1 1036 (.forR (σ := Unit) (ρ := Int) 1026 8 (p1.length : Int) () (.e [0, 1, 7] (fun _ => []) [0] 5) (fun i1 s1 => .sel 1026 (.reg 1 (.ix 1032 rowI p1 (i1 : Int) fun e1 => .b1 1034 (d_27a e1 p2) (fun r1 => .c [0] 1 (vB r1) [] 0) (fun r1 hr1 => (call_side (t_27a e1 p2 r1 hr1) [0] 13 (.drop rfl rfl .nil) (rhR rhN) rhN)) fun r1 => .us [(3, 1032), (5, 1034)] (.ite 1030 r1 (.sel 1030 (.ret (.inr (i1 : Int)))) (.sel 1030 (.ret (.inl ()))))))) fun os1 => .case os1 (fun s1 => .sel 1026 (.ret (-1))) fun y1 => .ret y1)))
theorem t_49a (p1 : List Int) (p2 : List Int) (res : Int) (hd : d_49a p1 p2 = some res) : DOk C0 49 [.imm (.slice (List.map rowI p1)), .func 27 [] [.ptr 0 0 0]] [(0, .rows 1 [[.imm (.slice (List.map rowI p2))]])] 1 (vI res) [(0, .rows 1 [[.imm (.slice (List.map rowI p2))]])] 0 :=
  Plan.det (R := fun res => vI res) (H := fun res => [(0, .rows 1 [[.imm (.slice (List.map rowI p2))]])]) (p_49a p1 p2) (.exp rfl rfl .nil) (fun _ => (.exp rfl rfl .nil)) (by kernel_rfl) (fun _ => by kernel_rfl) (by kernel_rfl) (Plan.run_of hd (by kernel_rfl))

noncomputable def d_26a (p1 : List Int) (p2 : List Int) : Option Bool :=
  (Option.bind (d_49a p1 p2) fun r1 => some (decide (0 ≤ r1)))
noncomputable def p_26a (p1 : List Int) (p2 : List Int) : Plan Bool :=
  .reg 1 (.b1 1038 (d_49a p1 p2) (fun r1 => .c [0] 1 (vI r1) [] 0) (fun r1 hr1 => (call_side (t_49a p1 p2 r1 hr1) [0] 4 (.drop rfl rfl .nil) (rhR rhN) rhN)) fun r1 => .use 2 1038 (.ret (decide (0 ≤ r1))))
theorem t_26a (p1 : List Int) (p2 : List Int) (res : Bool) (hd : d_26a p1 p2 = some res) : DOk C0 26 [.imm (.slice (List.map rowI p1)), .func 27 [] [.ptr 0 0 0]] [(0, .rows 1 [[.imm (.slice (List.map rowI p2))]])] 1 (vB res) [(0, .rows 1 [[.imm (.slice (List.map rowI p2))]])] 0 :=
  Plan.det (R := fun res => vB res) (H := fun res => [(0, .rows 1 [[.imm (.slice (List.map rowI p2))]])]) (p_26a p1 p2) (.exp rfl rfl .nil) (fun _ => (.exp rfl rfl .nil)) (by kernel_rfl) (fun _ => by kernel_rfl) (by kernel_rfl) (Plan.run_of hd (by kernel_rfl))

noncomputable def d_Linked (c : ContractT) (i : Int) (j : Int) : Option Bool :=
  (Option.bind (bif (i == j) then some true else (bif decide (i < 0) then some true else (bif decide (j < 0) then some true else (bif decide ((c.clauses.length : Int) ≤ i) then some true else some (decide ((c.clauses.length : Int) ≤ j)))))) fun v1 => (bif v1 then some false else (Option.bind (d_Valid c) fun r1 => (bif (r1.1 == 0) then (Option.bind (Option.bind (d_22a i j c) fun r2 => (bif r2 then some true else (Option.bind (d_22a j i c) fun r3 => some r3))) fun v2 => (bif v2 then some true else (Option.bind (idxI c.clauses j) fun e1 => (Option.bind (d_numbers e1) fun r4 => (Option.bind (idxI c.clauses i) fun e2 => (Option.bind (d_numbers e2) fun r5 => (Option.bind (d_26a r5 r4) fun r6 => some r6))))))) else some false))))
noncomputable def p_Linked (c : ContractT) (i : Int) (j : Int) : Plan Bool :=
  .cut (β := Bool) 3 (.e [1, 2, 3] (fun v1 => [(35, vB v1)]) [0] 27) (.reg 0 (.ite 994 (i == j) (.use 4 994 (.f1 1044 (.g true) (rfl : true = true) (.use 8 1044 (.f1 1042 (.g true) (rfl : true = true) (.use 12 1042 (.f1 1040 (.g true) (rfl : true = true) (.use 19 1040 (.ret true)))))))) (.ite 996 (decide (i < 0)) (.us [(4, 994), (8, 996)] (.f1 1048 (.g true) (rfl : true = true) (.use 12 1048 (.f1 1046 (.g true) (rfl : true = true) (.use 19 1046 (.ret true)))))) (.ite 998 (decide (j < 0)) (.us [(4, 994), (8, 996), (12, 998)] (.f1 1050 (.g true) (rfl : true = true) (.use 19 1050 (.ret true)))) (.ite 1000 (decide ((c.clauses.length : Int) ≤ i)) (.us [(4, 994), (8, 996), (12, 998)] (.ln 1052 ClauseT.row c.clauses (.us [(15, 1052), (19, 1000)] (.ret true)))) (.us [(4, 994), (8, 996), (12, 998)] (.ln 1056 ClauseT.row c.clauses (.us [(15, 1056), (19, 1000)] (.ln 1054 ClauseT.row c.clauses (.use 22 1054 (.ret (decide ((c.clauses.length : Int) ≤ j))))))))))))) fun v1 => .ite 1002 v1 (.sel 1002 (.ret false)) (.sel 1002 (.reg 0 (.call 1058 (t_Valid c) fun r1 => .use 1 1058 (.ite 1004 (r1.1 == 0) (.sel 1005 (.cut (β := Bool) 3 (.e [1, 2, 3] (fun v2 => [(53, vB v2)]) [0] 48) (.reg 0 (.b1 1060 (d_22a i j c) (fun r2 => .c [0] 1 (vB r2) [] 0) (fun r2 hr2 => (call_side (t_22a i j c r2 hr2) [0] 41 (.drop rfl rfl .nil) (rhR rhN) rhN)) fun r2 => .ite 1022 r2 (.us [(3, 1060), (5, 1022)] (.ret true)) (.b1 1062 (d_22a j i c) (fun r3 => .c [0] 1 (vB r3) [] 0) (fun r3 hr3 => (call_side (t_22a j i c r3 hr3) [0] 46 (.drop rfl rfl .nil) (rhR rhN) rhN)) fun r3 => .us [(3, 1060), (5, 1022), (8, 1062)] (.ret r3)))) fun v2 => .ite 1024 v2 (.sel 1024 (.ret true)) (.sel 1024 (.reg 0 (.ix 1064 ClauseT.row c.clauses j fun e1 => .call 1066 (t_numbers e1) fun r4 => .us [(3, 1064), (5, 1066)] (.reg 0 (.ix 1068 ClauseT.row c.clauses i fun e2 => .call 1070 (t_numbers e2) fun r5 => .b1 1072 (d_26a r5 r4) (fun r6 => .c [54] 1 (vB r6) [] 0) (fun r6 hr6 => (call_side (t_26a r5 r4 r6 hr6) [54] 63 (.drop rfl rfl .nil) (rhR rhN) rhN)) fun r6 => .us [(3, 1068), (5, 1070), (7, 1072)] (.ret r6)))))))) (.sel 1005 (.ret false))))))
theorem t_Linked (c : ContractT) (i : Int) (j : Int) (res : Bool) (hd : d_Linked c i j = some res) : APure C0 12 [.agg (ContractT.row c), .int .i64 i, .int .i64 j] (.bool res) :=
  Plan.pure (iv := fun res => .bool res) (p_Linked c i j) (by kernel_rfl) (Plan.run_of hd (by kernel_rfl))

theorem t_clone34 {α : Type} (f : α → List IV) (hf : ∀ x, (f x).length = 1) {l e : List α} (h : cloneI 8 l = some e) : DOk C0 34 [.imm (.slice (List.map f l))] [] 0 (.mslice 7 0 e.length) [(7, .rows 1 (rowsA f e))] 8 :=
  clone_ok (zero := [.imm (.int .i64 0)]) (show compFun C0 34 = some (afClone 1 8 [.imm (.int .i64 0)]).erase by kernel_rfl) f hf h

theorem t_clone35 {α : Type} (f : α → List IV) (hf : ∀ x, (f x).length = 5) {l e : List α} (h : cloneI 48 l = some e) : DOk C0 35 [.imm (.slice (List.map f l))] [] 0 (.mslice 7 0 e.length) [(7, .rows 5 (rowsA f e))] 8 :=
  clone_ok (zero := [.imm (.str ⟨#[]⟩), .imm (.int .i64 0), .imm (.int .i64 0), .imm (.int .i64 0), .imm (.int .i64 0)]) (show compFun C0 35 = some (afClone 5 48 [.imm (.str ⟨#[]⟩), .imm (.int .i64 0), .imm (.int .i64 0), .imm (.int .i64 0), .imm (.int .i64 0)]).erase by kernel_rfl) f hf h

theorem t_clone36 {α : Type} (f : α → List IV) (hf : ∀ x, (f x).length = 7) {l e : List α} (h : cloneI 56 l = some e) : DOk C0 36 [.imm (.slice (List.map f l))] [] 0 (.mslice 7 0 e.length) [(7, .rows 7 (rowsA f e))] 8 :=
  clone_ok (zero := [.imm (.int .i64 0), .imm (.int .i64 0), .imm (.int .i64 0), .imm (.int .i64 0), .imm (.int .i64 0), .imm (.int .i64 0), .imm (.int .i64 0)]) (show compFun C0 36 = some (afClone 7 56 [.imm (.int .i64 0), .imm (.int .i64 0), .imm (.int .i64 0), .imm (.int .i64 0), .imm (.int .i64 0), .imm (.int .i64 0), .imm (.int .i64 0)]).erase by kernel_rfl) f hf h

theorem t_clone37 {α : Type} (f : α → List IV) (hf : ∀ x, (f x).length = 2) {l e : List α} (h : cloneI 16 l = some e) : DOk C0 37 [.imm (.slice (List.map f l))] [] 0 (.mslice 7 0 e.length) [(7, .rows 2 (rowsA f e))] 8 :=
  clone_ok (zero := [.imm (.int .i64 0), .imm (.int .i64 0)]) (show compFun C0 37 = some (afClone 2 16 [.imm (.int .i64 0), .imm (.int .i64 0)]).erase by kernel_rfl) f hf h

noncomputable def d_Part (c : ContractT) (clauses : List Int) : Option (ContractT × Int) :=
  (Option.bind (d_Valid c) fun r1 => (bif (r1.1 == 0) then (Option.bind (forR (σ := Int) (ρ := Unit) (clauses.length : Int) (fun i1 s1 => (Option.bind (idxI clauses (i1 : Int)) fun e1 => (Option.bind (bif decide (e1 ≤ s1) then some true else some (decide ((c.clauses.length : Int) ≤ e1))) fun v1 => (bif v1 then some (.inr ()) else some (.inl e1))))) (-1)) (Sum.elim (fun (s1 : Int) => (Option.bind (cloneI 8 c.holders) fun e2 => (Option.bind (cloneI 48 c.units) fun e3 => (Option.bind (cloneI 56 c.acts) fun e4 => (Option.bind (cloneI 8 c.off) fun e5 => (Option.bind (mkN 136 (clauses.length : Int)) fun k1 => (Option.bind (forR (σ := (List ClauseT)) (ρ := Unit) (clauses.length : Int) (fun i2 s2 => (Option.bind (idxI clauses (i2 : Int)) fun e6 => (Option.bind (idxI c.clauses e6) fun e7 => (Option.bind (cloneI 16 e7.start) fun e8 => (Option.bind (forR (σ := (List CondT)) (ρ := Unit) (e8.length : Int) (fun i3 s3 => (Option.bind (idxN e8.length (i3 : Int)) fun k2 => (Option.bind (s3[k2]?) fun e9 => (Option.bind (d_BinarySearch clauses e9.clause) fun r2 => (bif r2.2 then (Option.bind (idxN e8.length (i3 : Int)) fun k3 => (Option.bind (s3[k3]?) fun e10 => some (.inl (s3.set k3 ({ clause := r2.1, is := e10.is } : CondT))))) else some (.inr ())))))) e8) (Sum.elim (fun (s3 : (List CondT)) => (Option.bind (idxN k1 (i2 : Int)) fun k4 => (Option.bind (s2[k4]?) fun e11 => some (.inl (s2.set k4 ({ e7 with start := List.take e8.length s3 } : ClauseT)))))) (fun (y2 : Unit) => some (.inr ())))))))) (List.replicate k1 ({ kind := 0, role := 0, act := 0, need := 0, start := [], after := 0, grace := 0, business := false, final := false, pause := 0, resume := 0, value := ({ num := 0, den := 0 } : Ratio), unit := 0, to := 0, waived := false } : ClauseT))) (Sum.elim (fun (s2 : (List ClauseT)) => some (({ parties := c.parties, holders := e2, units := e3, acts := e4, clauses := List.take k1 s2, days := c.days, off := e5 } : ContractT), 0)) (fun (y3 : Unit) => some (({ parties := 0, holders := [], units := [], acts := [], clauses := [], days := 0, off := [] } : ContractT), 1)))))))))) (fun (y1 : Unit) => some (({ parties := 0, holders := [], units := [], acts := [], clauses := [], days := 0, off := [] } : ContractT), 1)))) else some (({ parties := 0, holders := [], units := [], acts := [], clauses := [], days := 0, off := [] } : ContractT), 1)))
noncomputable def p_Part (c : ContractT) (clauses : List Int) : Plan (ContractT × Int) :=
  .reg 1 (.call 1096 (t_Valid c) fun r1 => .use 1 1096 (.ite 1074 (r1.1 == 0) (.sel 1075 (.reg 1 (.ln 1136 rowI clauses (.use 1 1136 (.forR (σ := Int) (ρ := Unit) 1076 28 (clauses.length : Int) (-1) (.e [1, 2, 4, 26, 27] (fun s1 => [(8, vI s1)]) [0, 1] 16) (fun i1 s1 => .sel 1076 (.reg 0 (.ix 1098 rowI clauses (i1 : Int) fun e1 => .use 0 1098 (.cut (β := Bool) 2 (.e [1, 2, 4, 26, 27, 28, 10] (fun v1 => [(41, vB v1)]) [0, 1] 30) (.reg 0 (.ite 1078 (decide (e1 ≤ s1)) (.use 4 1078 (.ret true)) (.use 4 1078 (.ln 1100 ClauseT.row c.clauses (.use 7 1100 (.ret (decide ((c.clauses.length : Int) ≤ e1)))))))) fun v1 => .ite 1080 v1 (.sel 1080 (.ret (.inr ()))) (.sel 1080 (.ret (.inl e1))))))) fun os1 => .case os1 (fun s1 => .sel 1076 (.reg 1 (.b1 1102 (cloneI 8 c.holders) (fun e2 => .c [] 0 (.mslice 29 0 e2.length) [(29, .rows 1 (rowsA rowI e2))] 8) (fun e2 he2 => (call_side (t_clone34 rowI (fun _ => rfl) he2) [] 22 (.keep .nil) rhN (rhI rhN))) fun e2 => .use 2 1102 (.reg 0 (.b1 1104 (cloneI 48 c.units) (fun e3 => .c [] 0 (.mslice 42 0 e3.length) [(42, .rows 5 (rowsA UnitT.row e3))] 8) (fun e3 he3 => (call_side (t_clone35 UnitT.row (fun _ => rfl) he3) [] 35 (.keep .nil) rhN (rhI rhN))) fun e3 => .use 2 1104 (.reg 0 (.b1 1106 (cloneI 56 c.acts) (fun e4 => .c [] 0 (.mslice 55 0 e4.length) [(55, .rows 7 (rowsA ActT.row e4))] 8) (fun e4 he4 => (call_side (t_clone36 ActT.row (fun _ => rfl) he4) [] 48 (.keep .nil) rhN (rhI rhN))) fun e4 => .use 2 1106 (.reg 0 (.b1 1108 (cloneI 8 c.off) (fun e5 => .c [] 0 (.mslice 68 0 e5.length) [(68, .rows 1 (rowsA rowI e5))] 8) (fun e5 he5 => (call_side (t_clone34 rowI (fun _ => rfl) he5) [] 61 (.keep .nil) rhN (rhI rhN))) fun e5 => .use 2 1108 (.reg 0 (.b1 1110 (mkN 136 (clauses.length : Int)) (fun k1 => .m k1 (List.replicate k1 [vI 0, vI 0, vI 0, vI 0, .nil, vI 0, vI 0, vB false, vB false, vI 0, vI 0, vI 0, vI 0, vI 0, vI 0, vB false])) (fun k1 hk1 => (mks_side0 [vI 0, vI 0, vI 0, vI 0, .nil, vI 0, vI 0, vB false, vB false, vI 0, vI 0, vI 0, vI 0, vI 0, vI 0, vB false] hk1)) fun k1 => .ln 1134 rowI clauses (.us [(1, 1134), (2, 1110)] (.weak 0 [wZero 74 16 k1 [vI 0, vI 0, vI 0, vI 0, .nil, vI 0, vI 0, vB false, vB false, vI 0, vI 0, vI 0, vI 0, vI 0, vI 0, vB false] ClauseT.row ({ kind := 0, role := 0, act := 0, need := 0, start := [], after := 0, grace := 0, business := false, final := false, pause := 0, resume := 0, value := ({ num := 0, den := 0 } : Ratio), unit := 0, to := 0, waived := false } : ClauseT) (.cons (.refl _) (.cons (.refl _) (.cons (.refl _) (.cons (.refl _) (.cons .nil (.cons (.refl _) (.cons (.refl _) (.cons (.refl _) (.cons (.refl _) (.cons (.refl _) (.cons (.refl _) (.cons (.refl _) (.cons (.refl _) (.cons (.refl _) (.cons (.refl _) (.cons (.refl _) .nil))))))))))))))))] (.reg 0 (.ln 1132 rowI clauses (.use 1 1132 (.forR (σ := (List ClauseT)) (ρ := Unit) 1082 68 (clauses.length : Int) (List.replicate k1 ({ kind := 0, role := 0, act := 0, need := 0, start := [], after := 0, grace := 0, business := false, final := false, pause := 0, resume := 0, value := ({ num := 0, den := 0 } : Ratio), unit := 0, to := 0, waived := false } : ClauseT)) (⟨[1, 2, 4, 11, 66, 67], fun _ => [], [0, 1, 18], fun s2 => [(29, .rows 1 (rowsA rowI e2)), (42, .rows 5 (rowsA UnitT.row e3)), (55, .rows 7 (rowsA ActT.row e4)), (68, .rows 1 (rowsA rowI e5)), (74, .rows 16 (rowsA ClauseT.row s2))], 80, fun _ => (.rows rfl (.rows rfl (.rows rfl (.rows rfl (.rows rfl .nil)))))⟩) (fun i2 s2 => .sel 1082 (.reg 0 (.ix 1112 rowI clauses (i2 : Int) fun e6 => .use 1 1112 (.reg 0 (.ix 1114 ClauseT.row c.clauses e6 fun e7 => .use 3 1114 (.reg 0 (.b1 1116 (cloneI 16 e7.start) (fun e8 => .c [] 0 (.mslice 102 0 e8.length) [(102, .rows 2 (rowsA CondT.row e8))] 8) (fun e8 he8 => (call_side (t_clone37 CondT.row (fun _ => rfl) he8) [] 95 (.keep .nil) rhN (rhI rhN))) fun e8 => .use 2 1116 (.forR (σ := (List CondT)) (ρ := Unit) 1090 85 (e8.length : Int) e8 (⟨[1, 2, 4, 11, 66, 67, 68, 12, 14, 84], fun _ => [], [0, 1, 18, 91], fun s3 => [(29, .rows 1 (rowsA rowI e2)), (42, .rows 5 (rowsA UnitT.row e3)), (55, .rows 7 (rowsA ActT.row e4)), (68, .rows 1 (rowsA rowI e5)), (74, .rows 16 (rowsA ClauseT.row s2)), (102, .rows 2 (rowsA CondT.row s3))], 110, fun _ => (.rows rfl (.rows rfl (.rows rfl (.rows rfl (.rows rfl (.rows rfl .nil))))))⟩) (fun i3 s3 => .sel 1090 (.reg 1 (.b1 1118 (idxN e8.length (i3 : Int)) (fun k2 => .k k2) (fun k2 hk2 => (midx_side hk2)) fun k2 => .b1 1120 (s3[k2]?) (fun e9 => .ar (rowA (CondT.row e9))) (fun e9 he9 => (row_side CondT.row he9)) fun e9 => .call 1122 (t_BinarySearch clauses e9.clause) fun r2 => .us [(4, 1118), (6, 1120), (7, 1122)] (.ite 1094 r2.2 (.sel 1095 (.reg 0 (.b1 1124 (idxN e8.length (i3 : Int)) (fun k3 => .k k3) (fun k3 hk3 => (midx_side hk3)) fun k3 => .b1 1126 (s3[k3]?) (fun e10 => .aw (rowA (CondT.row e10)) (rowsA CondT.row (s3.set k3 ({ clause := r2.1, is := e10.is } : CondT)))) (fun e10 he10 => (sto_side CondT.row ({ clause := r2.1, is := e10.is } : CondT) he10)) fun e10 => .us [(4, 1124), (6, 1126)] (.ret (.inl (s3.set k3 ({ clause := r2.1, is := e10.is } : CondT))))))) (.sel 1095 (.ret (.inr ()))))))) fun os3 => .case os3 (fun s3 => .sel 1090 (.weak 0 [wFrzT 102 2 [91] CondT.row s3 e8.length] (.reg 0 (.b1 1128 (idxN k1 (i2 : Int)) (fun k4 => .k k4) (fun k4 hk4 => (midx_side hk4)) fun k4 => .b1 1130 (s2[k4]?) (fun e11 => .aw (rowA (ClauseT.row e11)) (rowsA ClauseT.row (s2.set k4 ({ e7 with start := List.take e8.length s3 } : ClauseT)))) (fun e11 he11 => (sto_side ClauseT.row ({ e7 with start := List.take e8.length s3 } : ClauseT) he11)) fun e11 => .us [(4, 1128), (5, 1130)] (.ret (.inl (s2.set k4 ({ e7 with start := List.take e8.length s3 } : ClauseT)))))))) fun y2 => .ret (.inr ()))))))))) fun os2 => .case os2 (fun s2 => .sel 1082 (.weak 1 [wFrzT 74 16 [1, 18] ClauseT.row s2 k1] (.fin [29, 42, 55, 68] (.tuple [.agg [vI c.parties, .mslice 29 0 e2.length, .mslice 42 0 e3.length, .mslice 55 0 e4.length, .imm (.slice (List.map ClauseT.row (List.take k1 s2))), vI c.days, .mslice 68 0 e5.length], vI 0]) [(29, .rows 1 (rowsA rowI e2)), (42, .rows 5 (rowsA UnitT.row e3)), (55, .rows 7 (rowsA ActT.row e4)), (68, .rows 1 (rowsA rowI e5))] (.tuple [.agg (ContractT.row ((({ parties := c.parties, holders := e2, units := e3, acts := e4, clauses := List.take k1 s2, days := c.days, off := e5 } : ContractT), 0).1)), .int .i64 ((({ parties := c.parties, holders := e2, units := e3, acts := e4, clauses := List.take k1 s2, days := c.days, off := e5 } : ContractT), 0).2)]) (snap_of _ _ _ (snapC (snapT (snapC (snapA (snapC (snapI _) (snapC (snapO rowI 29 1 e2 rfl) (snapC (snapO UnitT.row 42 5 e3 rfl) (snapC (snapO ActT.row 55 7 e4 rfl) (snapC (snapI _) (snapC (snapI _) (snapC (snapO rowI 68 1 e5 rfl) snapN)))))))) (snapC (snapI _) snapN))) snapN)) (({ parties := c.parties, holders := e2, units := e3, acts := e4, clauses := List.take k1 s2, days := c.days, off := e5 } : ContractT), 0)))) fun y3 => .ret (({ parties := 0, holders := [], units := [], acts := [], clauses := [], days := 0, off := [] } : ContractT), 1)))))))))))))))))) fun y1 => .ret (({ parties := 0, holders := [], units := [], acts := [], clauses := [], days := 0, off := [] } : ContractT), 1)))))) (.sel 1075 (.ret (({ parties := 0, holders := [], units := [], acts := [], clauses := [], days := 0, off := [] } : ContractT), 1)))))
theorem t_Part (c : ContractT) (clauses : List Int) (res : ContractT × Int) (hd : d_Part c clauses = some res) : APure C0 15 [.agg (ContractT.row c), .slice (List.map rowI clauses)] (.tuple [.agg (ContractT.row res.1), .int .i64 res.2]) :=
  Plan.pure (iv := fun res => .tuple [.agg (ContractT.row res.1), .int .i64 res.2]) (p_Part c clauses) (by kernel_rfl) (Plan.run_of hd (by kernel_rfl))

noncomputable def d_32a (p1 : ActT) : Option Unit :=
  some ()
noncomputable def p_32a (p1 : ActT) : Plan Unit :=
  .ret ()
theorem t_32a (p1 : ActT) (res : Unit) (hd : d_32a p1 = some res) : DOk C0 32 [.imm (.agg [.int .i64 p1.kind, .int .i64 p1.role, .int .i64 p1.give, .int .i64 p1.to, .int .i64 p1.unit, .int .i64 p1.lot.num, .int .i64 p1.lot.den])] [] 0 (vB (!(p1.kind == 1))) [] 0 :=
  Plan.det (R := fun res => vB (!(p1.kind == 1))) (H := fun res => []) (p_32a p1) .nil (fun _ => .nil) (by kernel_rfl) (fun _ => by kernel_rfl) (by kernel_rfl) (Plan.run_of hd (by kernel_rfl))

noncomputable def d_51a (p1 : List ActT) : Option Int :=
  (Option.bind (forR (σ := Unit) (ρ := Int) (p1.length : Int) (fun i1 s1 => (Option.bind (idxI p1 (i1 : Int)) fun e1 => (Option.bind (d_32a e1) fun r1 => (bif (e1.kind == 1) then some (.inl ()) else some (.inr (i1 : Int)))))) ()) (Sum.elim (fun (s1 : Unit) => some (-1)) (fun (y1 : Int) => some y1)))
noncomputable def p_51a (p1 : List ActT) : Plan Int :=
  .reg 1 (.ln 1150 ActT.row p1 (.use 1 1150 (.forR (σ := Unit) (ρ := Int) 1142 8 (p1.length : Int) () (.e [0, 1, 7] (fun _ => []) [] 4) (fun i1 s1 => .sel 1142 (.reg 1 (.ix 1146 ActT.row p1 (i1 : Int) fun e1 => .b1 1148 (d_32a e1) (fun r1 => .c [] 0 (vB (!(e1.kind == 1))) [] 0) (fun r1 hr1 => (call_side (t_32a e1 r1 hr1) [] 12 .nil rhN rhN)) fun r1 => .us [(3, 1146), (5, 1148)] (.ite 1144 (e1.kind == 1) (.sel 1145 (.ret (.inl ()))) (.sel 1145 (.ret (.inr (i1 : Int)))))))) fun os1 => .case os1 (fun s1 => .sel 1142 (.ret (-1))) fun y1 => .ret y1)))
theorem t_51a (p1 : List ActT) (res : Int) (hd : d_51a p1 = some res) : DOk C0 51 [.imm (.slice (List.map ActT.row p1)), .func 32 [] []] [] 0 (vI res) [] 0 :=
  Plan.det (R := fun res => vI res) (H := fun res => []) (p_51a p1) .nil (fun _ => .nil) (by kernel_rfl) (fun _ => by kernel_rfl) (by kernel_rfl) (Plan.run_of hd (by kernel_rfl))

noncomputable def d_31a (p1 : List ActT) : Option Bool :=
  (Option.bind (d_51a p1) fun r1 => some (decide (0 ≤ r1)))
noncomputable def p_31a (p1 : List ActT) : Plan Bool :=
  .reg 1 (.b1 1152 (d_51a p1) (fun r1 => .c [] 0 (vI r1) [] 0) (fun r1 hr1 => (call_side (t_51a p1 r1 hr1) [] 3 .nil rhN rhN)) fun r1 => .use 2 1152 (.ret (decide (0 ≤ r1))))
theorem t_31a (p1 : List ActT) (res : Bool) (hd : d_31a p1 = some res) : DOk C0 31 [.imm (.slice (List.map ActT.row p1)), .func 32 [] []] [] 0 (vB res) [] 0 :=
  Plan.det (R := fun res => vB res) (H := fun res => []) (p_31a p1) .nil (fun _ => .nil) (by kernel_rfl) (fun _ => by kernel_rfl) (by kernel_rfl) (Plan.run_of hd (by kernel_rfl))

noncomputable def d_29a_s (rec : Int → (List Int) → Option (Int × (List Int))) (p1 : Int) (p2 : List Int) : Option (Int × (List Int)) :=
  (Option.bind (Option.bind (idxN 400 p1) fun k1 => (Option.bind (p2[k1]?) fun e1 => (bif (e1 == p1) then some p2 else (Option.bind (idxN 400 p1) fun k2 => (Option.bind (p2[k2]?) fun e2 => (Option.bind (rec e2 p2) fun r1 => (Option.bind (r1.2[k2]?) fun e3 => some (r1.2.set k2 r1.1)))))))) fun (v1 : (List Int)) => (Option.bind (idxN 400 p1) fun k3 => (Option.bind (v1[k3]?) fun e4 => some (e4, v1))))
noncomputable def p_29a_s (rec : Int → (List Int) → Option (Int × (List Int))) (hrec : ∀ (p1 : Int) (p2 : List Int) (res : Int × (List Int)), rec p1 p2 = some res → DOk C0 29 [vI p1, .ptr 0 0 0, .ptr 1 0 0] [(0, .rows 1 (rowsA rowI p2)), (1, .rows 1 [[.func 29 [] [.ptr 0 0 0, .ptr 1 0 0]]])] 2 (vI res.1) [(0, .rows 1 (rowsA rowI res.2)), (1, .rows 1 [[.func 29 [] [.ptr 0 0 0, .ptr 1 0 0]]])] 0) (p1 : Int) (p2 : List Int) : Plan (Int × (List Int)) :=
  .cut (β := (List Int)) 2 (⟨[0, 1], fun _ => [], [1], fun v1 => [(0, .rows 1 (rowsA rowI v1))], 8, fun _ => (.rows rfl .nil)⟩) (.reg 0 (.b1 1160 (idxN 400 p1) (fun k1 => .k k1) (fun k1 hk1 => (midx_side hk1)) fun k1 => .b1 1162 (p2[k1]?) (fun e1 => .ar (rowA (rowI e1))) (fun e1 he1 => (row_side rowI he1)) fun e1 => .us [(1, 1160), (2, 1162)] (.ite 1158 (e1 == p1) (.sel 1159 (.ret p2)) (.sel 1159 (.reg 0 (.b1 1164 (idxN 400 p1) (fun k2 => .k k2) (fun k2 hk2 => (midx_side hk2)) fun k2 => .b1 1166 (p2[k2]?) (fun e2 => .ar (rowA (rowI e2))) (fun e2 he2 => (row_side rowI he2)) fun e2 => .b1 1168 (rec e2 p2) (fun r1 => .c [0, 1] 2 (vI r1.1) [(0, .rows 1 (rowsA rowI r1.2))] 0) (fun r1 hr1 => (call_side (hrec e2 p2 r1 hr1) [0, 1] 13 (.keep (.drop rfl rfl .nil)) (rhI (rhR rhN)) (rhI rhN))) fun r1 => .b1 1170 (r1.2[k2]?) (fun e3 => .aw (rowA (rowI e3)) (rowsA rowI (r1.2.set k2 r1.1))) (fun e3 he3 => (sto_side rowI r1.1 he3)) fun e3 => .us [(3, 1164), (4, 1166), (5, 1168), (6, 1164), (7, 1170)] (.ret (r1.2.set k2 r1.1)))))))) fun v1 => .reg 0 (.b1 1172 (idxN 400 p1) (fun k3 => .k k3) (fun k3 hk3 => (midx_side hk3)) fun k3 => .b1 1174 (v1[k3]?) (fun e4 => .ar (rowA (rowI e4))) (fun e4 he4 => (row_side rowI he4)) fun e4 => .us [(1, 1172), (2, 1174)] (.ret (e4, v1)))
theorem t_29a_s (rec : Int → (List Int) → Option (Int × (List Int))) (hrec : ∀ (p1 : Int) (p2 : List Int) (res : Int × (List Int)), rec p1 p2 = some res → DOk C0 29 [vI p1, .ptr 0 0 0, .ptr 1 0 0] [(0, .rows 1 (rowsA rowI p2)), (1, .rows 1 [[.func 29 [] [.ptr 0 0 0, .ptr 1 0 0]]])] 2 (vI res.1) [(0, .rows 1 (rowsA rowI res.2)), (1, .rows 1 [[.func 29 [] [.ptr 0 0 0, .ptr 1 0 0]]])] 0) (p1 : Int) (p2 : List Int) (res : Int × (List Int)) (hd : d_29a_s rec p1 p2 = some res) : DOk C0 29 [vI p1, .ptr 0 0 0, .ptr 1 0 0] [(0, .rows 1 (rowsA rowI p2)), (1, .rows 1 [[.func 29 [] [.ptr 0 0 0, .ptr 1 0 0]]])] 2 (vI res.1) [(0, .rows 1 (rowsA rowI res.2)), (1, .rows 1 [[.func 29 [] [.ptr 0 0 0, .ptr 1 0 0]]])] 0 :=
  Plan.det (R := fun res => vI res.1) (H := fun res => [(0, .rows 1 (rowsA rowI res.2)), (1, .rows 1 [[.func 29 [] [.ptr 0 0 0, .ptr 1 0 0]]])]) (p_29a_s rec hrec p1 p2) (.rows rfl (.exp rfl rfl .nil)) (fun _ => (.rows rfl (.exp rfl rfl .nil))) (by kernel_rfl) (fun _ => by kernel_rfl) (by kernel_rfl) (Plan.run_of hd (by kernel_rfl))

noncomputable def d_29a_n : Nat → Int → (List Int) → Option (Int × (List Int))
  | 0 => fun _ _ => none
  | k + 1 => d_29a_s (d_29a_n k)
noncomputable def d_29a (p1 : Int) (p2 : List Int) : Option (Int × (List Int)) := lim fun k => d_29a_n k p1 p2
theorem t_29a_n : ∀ (k : Nat) (p1 : Int) (p2 : List Int) (res : Int × (List Int)), d_29a_n k p1 p2 = some res → DOk C0 29 [vI p1, .ptr 0 0 0, .ptr 1 0 0] [(0, .rows 1 (rowsA rowI p2)), (1, .rows 1 [[.func 29 [] [.ptr 0 0 0, .ptr 1 0 0]]])] 2 (vI res.1) [(0, .rows 1 (rowsA rowI res.2)), (1, .rows 1 [[.func 29 [] [.ptr 0 0 0, .ptr 1 0 0]]])] 0
  | 0 => fun p1 p2 res h => by cases h
  | k + 1 => fun p1 p2 res h => t_29a_s (d_29a_n k) (t_29a_n k) p1 p2 res h
theorem t_29a (p1 : Int) (p2 : List Int) (res : Int × (List Int)) (hd : d_29a p1 p2 = some res) : DOk C0 29 [vI p1, .ptr 0 0 0, .ptr 1 0 0] [(0, .rows 1 (rowsA rowI p2)), (1, .rows 1 [[.func 29 [] [.ptr 0 0 0, .ptr 1 0 0]]])] 2 (vI res.1) [(0, .rows 1 (rowsA rowI res.2)), (1, .rows 1 [[.func 29 [] [.ptr 0 0 0, .ptr 1 0 0]]])] 0 := by
  obtain ⟨k, hk⟩ := lim_some hd
  exact t_29a_n k p1 p2 res hk

noncomputable def d_30a (p1 : Int) (p2 : Int) (p3 : List Int) : Option (List Int) :=
  (Option.bind (d_29a p1 p3) fun r1 => (Option.bind (d_29a p2 r1.2) fun r2 => (Option.bind (d_29a p1 r2.2) fun r3 => (Option.bind (d_29a p2 r3.2) fun r4 => (Option.bind (idxN 400 (if r3.1 < r4.1 then r4.1 else r3.1)) fun k1 => (Option.bind (r4.2[k1]?) fun e1 => some (r4.2.set k1 (if r2.1 < r1.1 then r2.1 else r1.1))))))))
noncomputable def p_30a (p1 : Int) (p2 : Int) (p3 : List Int) : Plan (List Int) :=
  .reg 0 (.b1 1176 (d_29a p1 p3) (fun r1 => .c [1, 0] 2 (vI r1.1) [(1, .rows 1 (rowsA rowI r1.2))] 0) (fun r1 hr1 => (call_side (t_29a p1 p3 r1 hr1) [1, 0] 4 (.keep (.drop rfl rfl .nil)) (rhI (rhR rhN)) (rhI rhN))) fun r1 => .b1 1178 (d_29a p2 r1.2) (fun r2 => .c [1, 0] 2 (vI r2.1) [(1, .rows 1 (rowsA rowI r2.2))] 0) (fun r2 hr2 => (call_side (t_29a p2 r1.2 r2 hr2) [1, 0] 7 (.keep (.drop rfl rfl .nil)) (rhI (rhR rhN)) (rhI rhN))) fun r2 => .b1 1180 (d_29a p1 r2.2) (fun r3 => .c [1, 0] 2 (vI r3.1) [(1, .rows 1 (rowsA rowI r3.2))] 0) (fun r3 hr3 => (call_side (t_29a p1 r2.2 r3 hr3) [1, 0] 11 (.keep (.drop rfl rfl .nil)) (rhI (rhR rhN)) (rhI rhN))) fun r3 => .b1 1182 (d_29a p2 r3.2) (fun r4 => .c [1, 0] 2 (vI r4.1) [(1, .rows 1 (rowsA rowI r4.2))] 0) (fun r4 hr4 => (call_side (t_29a p2 r3.2 r4 hr4) [1, 0] 14 (.keep (.drop rfl rfl .nil)) (rhI (rhR rhN)) (rhI rhN))) fun r4 => .us [(2, 1176), (5, 1178), (9, 1180), (12, 1182)] (.reg 0 (.b1 1184 (idxN 400 (if r3.1 < r4.1 then r4.1 else r3.1)) (fun k1 => .k k1) (fun k1 hk1 => (midx_side hk1)) fun k1 => .b1 1186 (r4.2[k1]?) (fun e1 => .aw (rowA (rowI e1)) (rowsA rowI (r4.2.set k1 (if r2.1 < r1.1 then r2.1 else r1.1)))) (fun e1 he1 => (sto_side rowI (if r2.1 < r1.1 then r2.1 else r1.1) he1)) fun e1 => .us [(2, 1184), (3, 1186)] (.ret (r4.2.set k1 (if r2.1 < r1.1 then r2.1 else r1.1))))))
theorem t_30a (p1 : Int) (p2 : Int) (p3 : List Int) (res : (List Int)) (hd : d_30a p1 p2 p3 = some res) : DOk C0 30 [vI p1, vI p2, .ptr 0 0 0, .ptr 1 0 0] [(0, .rows 1 [[.func 29 [] [.ptr 1 0 0, .ptr 0 0 0]]]), (1, .rows 1 (rowsA rowI p3))] 2 (.tuple []) [(0, .rows 1 [[.func 29 [] [.ptr 1 0 0, .ptr 0 0 0]]]), (1, .rows 1 (rowsA rowI res))] 0 :=
  Plan.det (R := fun res => .tuple []) (H := fun res => [(0, .rows 1 [[.func 29 [] [.ptr 1 0 0, .ptr 0 0 0]]]), (1, .rows 1 (rowsA rowI res))]) (p_30a p1 p2 p3) (.exp rfl rfl (.rows rfl .nil)) (fun _ => (.exp rfl rfl (.rows rfl .nil))) (by kernel_rfl) (fun _ => by kernel_rfl) (by kernel_rfl) (Plan.run_of hd (by kernel_rfl))

end Go.Proofs.Ytgligibbgobmnaa
