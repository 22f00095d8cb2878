/-
  Plans: what a function computes, told so that the kernel can hold it against the function's code. A plan that the kernel has checked is a walk.
  Plans: code against a plan, and that a plan that is checked is a walk.
  Plans: what is live, whole functions, and the parts that printed plans are made of.
  Plans: the parts that printed plans are made of.
  Data of the program's types.
  The program's functions, by the numbers that plans have for them.
-/
import Derived.Test.YtgligibbgobmnaaAg04
import Derived.Test.YtgligibbgobmnaaChecked
import Derived.KernelRfl
namespace Go.Proofs.Ytgligibbgobmnaa
open Go.RowKit
set_option linter.unusedVariables false
set_option linter.unusedSimpArgs false

inductive Tree : Type 1 where
  | tt
  | bad
  | step (t : Tree)
  | all (β : Type) (f : β → Tree)
  | and (a b : Tree)
  | eq (β : Type) (a b : β) (t : Tree)

def Tree.Ok : Tree → Prop
  | .tt => True
  | .bad => False
  | .step t => t.Ok
  | .all _ f => ∀ v, (f v).Ok
  | .and a b => a.Ok ∧ b.Ok
  | .eq _ a b t => a = b ∧ t.Ok

def Tree.norm : Tree → Tree
  | .tt => .tt
  | .bad => .tt
  | .step t => .step t.norm
  | .all β f => .all β fun v => (f v).norm
  | .and a b => .and a.norm b.norm
  | .eq β a _ t => .eq β a a t.norm

theorem Tree.ok : ∀ {t : Tree}, t = t.norm → t.Ok := by
  intro t
  induction t with
  | tt => exact fun _ => trivial
  | bad => intro h; cases h
  | step t ih => intro h; simp only [Tree.norm, Tree.step.injEq] at h; exact ih h
  | all β f ih =>
    intro h v
    simp only [Tree.norm, Tree.all.injEq, heq_eq_eq, true_and] at h
    exact ih v (congrFun h v)
  | and a b iha ihb => intro h; simp only [Tree.norm, Tree.and.injEq] at h; exact ⟨iha h.1, ihb h.2⟩
  | eq β a b t ih => intro h; simp only [Tree.norm, Tree.eq.injEq, heq_eq_eq, true_and] at h; exact ⟨h.1.symm, ih h.2⟩

abbrev Fact := List Orc × List Prop
abbrev Facts := List (Nat × Fact)
def FactsOk (Φ : Facts) : Prop := ∀ k f, alGet Φ k = some f → AllP f.2

structure Spec (β : Type) where
  ks : List Nat
  ov : β → List (Nat × AV)
  hs : List Nat
  oh : β → List (Nat × AObj)
  nx : Nat
  bel : ∀ b, Belows nx (oh b)

def keepH (hs : List Nat) (heap : List (Nat × AObj)) : List (Nat × AObj) := heap.filter fun p => hs.contains p.1
def Spec.st {β : Type} (sp : Spec β) (st : St) (b : β) : St := ⟨sp.ov b ++ keepEnv sp.ks st.env, sp.oh b ++ keepH sp.hs st.heap, sp.nx⟩
def Spec.sti {β : Type} (sp : Spec β) (st : St) (idx : Nat) (n : Int) (b : β) : St := ⟨(idx, vI n) :: (sp.ov b ++ keepEnv sp.ks st.env), sp.oh b ++ keepH sp.hs st.heap, sp.nx⟩

structure WStep where
  to : St → St
  T : St → Tree → Tree
  ok : ∀ st t, (T st t).Ok → t.Ok ∧ Weak st (to st) ∧ st.next ≤ (to st).next

inductive Plan : Type → Type 1 where
  | ret {α : Type} (a : α) : Plan α
  | fin {α : Type} (ids : List Nat) (V : AV) (objs : List (Nat × AObj)) (iv : IV) (h : SnapP [V] objs [iv]) (a : α) : Plan α
  | finL {α : Type} (x y : AV) (h : LeV2 x y) (a : α) : Plan α
  | none {α : Type} : Plan α
  | bind {α β : Type} (x : Option β) (F : β → Facts) (h : ∀ v, x = some v → FactsOk (F v)) (k : β → Plan α) : Plan α
  | ite {α : Type} (key : Nat) (b : Bool) (p q : Plan α) : Plan α
  | fact {α : Type} (key : Nat) (o : List Orc) (ps : List Prop) (h : AllP ps) (p : Plan α) : Plan α
  | use {α : Type} (j key : Nat) (p : Plan α) : Plan α
  | case {α β γ : Type} (o : β ⊕ γ) (p : β → Plan α) (q : γ → Plan α) : Plan α
  | cut {α β : Type} (n : Nat) (sp : Spec β) (p : Plan β) (k : β → Plan α) : Plan α
  | cutO {α β γ : Type} (n : Nat) (sp : Spec β) (p : Plan (β ⊕ γ)) (k : β ⊕ γ → Plan α) : Plan α
  | forR {α σ ρ : Type} (key idx : Nat) (n : Int) (s0 : σ) (sp : Spec σ) (body : Nat → σ → Plan (σ ⊕ ρ)) (k : σ ⊕ ρ → Plan α) : Plan α
  | iter {α σ ρ : Type} (s0 : σ) (sp : Spec σ) (body : σ → Plan (σ ⊕ ρ)) (k : ρ → Plan α) : Plan α
  | weak {α : Type} (n : Nat) (ws : List WStep) (p : Plan α) : Plan α
  | reg {α : Type} (n : Nat) (p : Plan α) : Plan α

noncomputable def Plan.run {α : Type} (p : Plan α) : Option α := Plan.rec (motive := fun α _ => Option α)
  (fun a => some a) (fun _ _ _ _ _ a => some a) (fun _ _ _ a => some a) Option.none
  (fun x _ _ _ ih => Option.bind x ih) (fun _ b _ _ ihp ihq => bif b then ihp else ihq) (fun _ _ _ _ _ ih => ih) (fun _ _ _ ih => ih)
  (fun o _ _ ihp ihq => Sum.elim ihp ihq o) (fun _ _ _ _ ihp ihk => Option.bind ihp ihk) (fun _ _ _ _ ihp ihk => Option.bind ihp ihk)
  (fun _ _ n s0 _ _ _ ihb ihk => Option.bind (Go.Proofs.Ytgligibbgobmnaa.forR n ihb s0) ihk)
  (fun s0 _ _ _ ihb ihk => Option.bind (Go.Proofs.Ytgligibbgobmnaa.iter ihb s0) ihk) (fun _ _ _ ih => ih) (fun _ _ ih => ih) p

noncomputable def settle {α : Type} (p : Plan α) (Φ : Facts) (k : Facts → Plan α → Tree) : Tree := Plan.rec (motive := fun α _ => Facts → (Facts → Plan α → Tree) → Tree)
  (fun a Φ k => k Φ (.ret a)) (fun ids V objs iv h a Φ k => k Φ (.fin ids V objs iv h a)) (fun x y h a Φ k => k Φ (.finL x y h a)) (fun Φ k => .tt)
  (fun {_ β} x F h _ ih Φ k => .all β fun v => ih v (F v ++ Φ) k)
  (fun key b _ _ ihp ihq Φ k => .and (ihp ((key, ([.g true], [b = true])) :: (key + 1, ([.g false], [(!b) = false])) :: Φ) k) (ihq ((key, ([.g false], [b = false])) :: (key + 1, ([.g true], [(!b) = true])) :: Φ) k))
  (fun key o ps h _ ih Φ k => ih ((key, (o, ps)) :: Φ) k) (fun j key p _ Φ k => k Φ (.use j key p))
  (fun o _ _ ihp ihq Φ k => match o with
    | .inl a => ihp a Φ k
    | .inr b => ihq b Φ k)
  (fun n sp p kk _ _ Φ k => k Φ (.cut n sp p kk)) (fun n sp p kk _ _ Φ k => k Φ (.cutO n sp p kk))
  (fun key idx n s0 sp body kk _ _ Φ k => k Φ (.forR key idx n s0 sp body kk)) (fun s0 sp body kk _ _ Φ k => k Φ (.iter s0 sp body kk))
  (fun n ws p _ Φ k => k Φ (.weak n ws p)) (fun n p _ Φ k => k Φ (.reg n p)) p Φ k

theorem FactsOk.add {Φ : Facts} (h : FactsOk Φ) {key : Nat} {f : Fact} (hf : AllP f.2) : FactsOk ((key, f) :: Φ) := fun k g hg => by
  simp only [alGet] at hg
  split at hg
  · cases hg; exact hf
  · exact h k g hg

theorem alGet_or {α : Type} : ∀ {l m : List (Nat × α)} {k : Nat} {x : α}, alGet (l ++ m) k = some x → alGet l k = some x ∨ alGet m k = some x
  | [], m, k, x, h => .inr h
  | (k', y) :: l, m, k, x, h => by
    simp only [List.cons_append, alGet] at h ⊢
    split at h
    · rename_i e; rw [if_pos e]; exact .inl h
    · rename_i e; rw [if_neg e]; exact alGet_or h
theorem FactsOk.app {Φ Ψ : Facts} (h : FactsOk Φ) (h' : FactsOk Ψ) : FactsOk (Φ ++ Ψ) := fun k f hf => (alGet_or hf).elim (h k f) (h' k f)
theorem FactsOk.nil : FactsOk [] := fun _ _ h => by cases h

theorem settle_ok {α : Type} (p : Plan α) : ∀ {Φ : Facts} {k : Facts → Plan α → Tree} {r : α}, FactsOk Φ → (settle p Φ k).Ok → p.run = some r → ∃ Φ' p', FactsOk Φ' ∧ p'.run = some r ∧ (k Φ' p').Ok := by
  induction p with
  | ret a => exact fun hΦ hk hr => ⟨_, _, hΦ, hr, hk⟩
  | fin ids V objs iv h a => exact fun hΦ hk hr => ⟨_, _, hΦ, hr, hk⟩
  | finL x y h a => exact fun hΦ hk hr => ⟨_, _, hΦ, hr, hk⟩
  | none => intro Φ k r hΦ hk hr; cases hr
  | bind x F h kk ih =>
    intro Φ k r hΦ hk hr
    obtain ⟨v, h1, h2⟩ := obind hr
    exact ih v ((h v h1).app hΦ) (hk v) h2
  | ite key b p q ihp ihq =>
    intro Φ k r hΦ hk hr
    have hr' : (bif b then p.run else q.run) = some r := hr
    cases b with
    | true => exact ihp ((hΦ.add (f := ([.g false], [(!true) = false])) (.cons rfl .nil)).add (f := ([.g true], [true = true])) (.cons rfl .nil)) hk.1 hr'
    | false => exact ihq ((hΦ.add (f := ([.g true], [(!false) = true])) (.cons rfl .nil)).add (f := ([.g false], [false = false])) (.cons rfl .nil)) hk.2 hr'
  | fact key o ps h p ih => exact fun hΦ hk hr => ih (hΦ.add (f := (o, ps)) h) hk hr
  | use j key p ih => exact fun hΦ hk hr => ⟨_, _, hΦ, hr, hk⟩
  | case o p q ihp ihq =>
    intro Φ k r hΦ hk hr
    cases o with
    | inl a => exact ihp a hΦ hk hr
    | inr b => exact ihq b hΦ hk hr
  | cut n sp p kk _ _ => exact fun hΦ hk hr => ⟨_, _, hΦ, hr, hk⟩
  | cutO n sp p kk _ _ => exact fun hΦ hk hr => ⟨_, _, hΦ, hr, hk⟩
  | forR key idx n s0 sp body kk _ _ => exact fun hΦ hk hr => ⟨_, _, hΦ, hr, hk⟩
  | iter s0 sp body kk _ _ => exact fun hΦ hk hr => ⟨_, _, hΦ, hr, hk⟩
  | weak n ws p ih => exact fun hΦ hk hr => ⟨_, _, hΦ, hr, hk⟩
  | reg n p ih => exact fun hΦ hk hr => ⟨_, _, hΦ, hr, hk⟩

def Plan.used {α : Type} (p : Plan α) (j : Nat) : Option (Nat × Plan α) := match p with
  | .use j' key q => match Nat.beq j' j with
    | true => some (key, q)
    | false => Option.none
  | _ => Option.none

theorem used_run {α : Type} {p q : Plan α} {j key : Nat} (h : p.used j = some (key, q)) : q.run = p.run := by
  unfold Plan.used at h
  split at h
  · split at h
    · cases h; rfl
    · cases h
  · cases h

section
variable (C : Ctx)

def chkOp {α : Type} (dr : Option (List Nat)) (it : AItem) (j : Nat) (W R : List (Nat × Nat)) (D : List Nat) (st : St) (Φ : Facts) (p : Plan α) (next : List (Nat × Nat) → List (Nat × Nat) → List Nat → St → Facts → Plan α → Tree) : Tree := match p.used j with
  | Option.none => match opX C it.op [] D st with
    | some (r, ups, rd, _, [], d) => match ordX dr j W R ups rd d with
      | true => next (addAt j (upIds ups) W) (addAt j rd R) (dropD D it.dst) (st.afterD it.dst r ups d) Φ p
      | false => .bad
    | _ => .bad
  | some (key, q) => match alGet Φ key with
    | Option.none => .bad
    | some (o, ps) => match opX C it.op o D st with
      | some (r, ups, rd, _, ps', d) => .eq (List Prop) ps' ps (match ordX dr j W R ups rd d with
        | true => next (addAt j (upIds ups) W) (addAt j rd R) (dropD D it.dst) (st.afterD it.dst r ups d) Φ q
        | false => .bad)
      | Option.none => .bad

def chkG {α : Type} (gd : Option (Nat × Bool)) (j : Nat) (D : List Nat) (st : St) (Φ : Facts) (p : Plan α) (next : Bool → List Nat → St → Facts → Plan α → Tree) : Tree := match guardX gd [] D st with
  | some (b, _, [], D', st') => next b D' st' Φ p
  | some (_, _, _ :: _, _, _) => .bad
  | Option.none => match p.used j with
    | Option.none => .bad
    | some (key, q) => match alGet Φ key with
      | Option.none => .bad
      | some (o, ps) => match guardX gd o D st with
        | some (b, _, ps', D', st') => .eq (List Prop) ps' ps (next b D' st' Φ q)
        | Option.none => .bad

noncomputable def chkI {α : Type} (dr : Option (List Nat)) : List AItem → Nat → List (Nat × Nat) → List (Nat × Nat) → List Nat → St → Facts → Plan α → (St → Facts → Plan α → Tree) → Tree
  | [], _, _, _, _, st, Φ, p, k => k st Φ p
  | it :: rest, j, W, R, D, st, Φ, p, k => settle p Φ fun Φ p => chkG it.guard j D st Φ p fun b D st Φ p => match b with
    | false => chkI dr rest (j + 1) W R (dropD D it.dst) (st.after it.dst .undef []) Φ p k
    | true => settle p Φ fun Φ p => chkOp C dr it j W R D st Φ p fun W R D st Φ p => chkI dr rest (j + 1) W R D st Φ p k
end

section
variable {C : Ctx}

theorem chkG_ok {α : Type} {gd : Option (Nat × Bool)} {j : Nat} {D : List Nat} {st : St} {Φ : Facts} {p : Plan α} {next : Bool → List Nat → St → Facts → Plan α → Tree} {r : α} (hΦ : FactsOk Φ) (hr : p.run = some r) (h : (chkG gd j D st Φ p next).Ok) :
    ∃ b D' q, guardOf st.env gd = some b ∧ q.run = some r ∧ (next b D' st Φ q).Ok := by
  unfold chkG at h
  split at h
  · rename_i b _ D' st' hg
    obtain ⟨rfl, h1⟩ := guardX_some hg .nil
    exact ⟨b, D', p, h1, hr, h⟩
  · exact h.elim
  · split at h
    · exact h.elim
    · rename_i key q hu
      split at h
      · exact h.elim
      · rename_i o ps hk
        split at h
        · rename_i b _ ps' D' st' hg
          obtain ⟨h1, h2⟩ := h
          subst h1
          obtain ⟨rfl, h3⟩ := guardX_some hg (hΦ _ _ hk)
          exact ⟨b, D', q, h3, (used_run hu).trans hr, h2⟩
        · exact h.elim

theorem chkOp_ok {α : Type} {dr : Option (List Nat)} {it : AItem} {j : Nat} {W R : List (Nat × Nat)} {D : List Nat} {st : St} {Φ : Facts} {p : Plan α} {next : List (Nat × Nat) → List (Nat × Nat) → List Nat → St → Facts → Plan α → Tree} {r : α} (hΦ : FactsOk Φ) (hr : p.run = some r) (h : (chkOp C dr it j W R D st Φ p next).Ok) :
    ∃ o x ups rd o' ps d D' q, opX C it.op o D st = some (x, ups, rd, o', ps, d) ∧ AllP ps ∧ ordX dr j W R ups rd d = true ∧ q.run = some r ∧ (next (addAt j (upIds ups) W) (addAt j rd R) D' (st.afterD it.dst x ups d) Φ q).Ok := by
  unfold chkOp at h
  split at h
  · split at h
    · rename_i x ups rd o' d hop
      split at h
      · rename_i ho; exact ⟨[], x, ups, rd, o', [], d, _, p, hop, .nil, ho, hr, h⟩
      · exact h.elim
    · exact h.elim
  · rename_i key q hu
    split at h
    · exact h.elim
    · rename_i o ps hk
      split at h
      · rename_i x ups rd o' ps' d hop
        obtain ⟨h1, h2⟩ := h
        subst h1
        split at h2
        · rename_i ho; exact ⟨o, x, ups, rd, o', ps', d, _, q, hop, hΦ _ _ hk, ho, (used_run hu).trans hr, h2⟩
        · exact h2.elim
      · exact h.elim

theorem chkI_evl {α : Type} {r : α} {K : St → Prop} {k : St → Facts → Plan α → Tree} (hK : ∀ st Φ p, FactsOk Φ → p.run = some r → (k st Φ p).Ok → K st) : ∀ (items : List AItem) (j : Nat) (W R : List (Nat × Nat)) (D : List Nat) (st : St) (Φ : Facts) (p : Plan α),
    FactsOk Φ → p.run = some r → (chkI C Option.none items j W R D st Φ p k).Ok → evl C items K st
  | [], j, W, R, D, st, Φ, p, hΦ, hr, h => hK st Φ p hΦ hr h
  | it :: rest, j, W, R, D, st, Φ, p, hΦ, hr, h => by
    simp only [chkI] at h
    obtain ⟨Φ1, p1, hΦ1, hr1, h1⟩ := settle_ok p hΦ h hr
    obtain ⟨b, D2, p2, hg, hr2, h2⟩ := chkG_ok hΦ1 hr1 h1
    refine evIt_of hg (fun hb => ?_) (fun hb => ?_)
    · subst hb
      obtain ⟨Φ3, p3, hΦ3, hr3, h3⟩ := settle_ok p2 hΦ1 h2 hr2
      obtain ⟨o, x, ups, rd, o', ps, d, D', q, e1, e2, e3, e4, e5⟩ := chkOp_ok hΦ3 hr3 h3
      exact opX_ev e1 e2 (chkI_evl hK rest _ _ _ _ _ _ _ hΦ3 e4 e5)
    · subst hb
      exact chkI_evl hK rest _ _ _ _ _ _ _ hΦ1 hr2 h2

theorem chkI_evd {α : Type} {r : α} {K : St → Prop} {ord : List Nat} {k : St → Facts → Plan α → Tree} (hK : ∀ st Φ p, FactsOk Φ → p.run = some r → (k st Φ p).Ok → K st) : ∀ (items : List AItem) (j : Nat) (W R : List (Nat × Nat)) (D : List Nat) (st : St) (Φ : Facts) (p : Plan α),
    FactsOk Φ → p.run = some r → (chkI C (some ord) items j W R D st Φ p k).Ok → evd C ord K items j W R st
  | [], j, W, R, D, st, Φ, p, hΦ, hr, h => hK st Φ p hΦ hr h
  | it :: rest, j, W, R, D, st, Φ, p, hΦ, hr, h => by
    simp only [chkI] at h
    obtain ⟨Φ1, p1, hΦ1, hr1, h1⟩ := settle_ok p hΦ h hr
    obtain ⟨b, D2, p2, hg, hr2, h2⟩ := chkG_ok hΦ1 hr1 h1
    refine dIt_of hg (fun hb => ?_) (fun hb => ?_)
    · subst hb
      obtain ⟨Φ3, p3, hΦ3, hr3, h3⟩ := settle_ok p2 hΦ1 h2 hr2
      obtain ⟨o, x, ups, rd, o', ps, d, D', q, e1, e2, e3, e4, e5⟩ := chkOp_ok hΦ3 hr3 h3
      simp only [ordX, Bool.and_eq_true, beq_iff_eq] at e3
      obtain ⟨rfl, hok⟩ := e3
      exact opX_d e1 rfl e2 ⟨hok, chkI_evd hK rest _ _ _ _ _ _ _ hΦ3 e4 e5⟩
    · subst hb
      exact ⟨okAt_nil _ _ _ _, chkI_evd hK rest _ _ _ _ _ _ _ hΦ1 hr2 h2⟩
end

def weakE (m : Nat) (env : List (Nat × AV)) (t : Tree) : List (Nat × AV) → Tree
  | [] => t
  | (k, b) :: l => match alGet env k with
    | some a => match avBelow m b with
      | true => .eq AV a b (weakE m env t l)
      | false => .bad
    | Option.none => .bad
def weakH (m : Nat) (heap : List (Nat × AObj)) (t : Tree) : List (Nat × AObj) → Tree
  | [] => t
  | (k, b) :: l => match alGet heap k with
    | some a => match objB m b && decide (k < m) with
      | true => .eq AObj a b (weakH m heap t l)
      | false => .bad
    | Option.none => .bad
def weakO (heap : List (Nat × AObj)) (t : Tree) : List (Nat × AObj) → Tree
  | [] => t
  | (k, b) :: l => match alGet heap k with
    | some a => .eq AObj a b (weakO heap t l)
    | Option.none => .bad

theorem weakE_ok {m : Nat} {env : List (Nat × AV)} {t : Tree} : ∀ {l : List (Nat × AV)}, (weakE m env t l).Ok → t.Ok ∧ ∀ p ∈ l, alGet env p.1 = some p.2 ∧ avBelow m p.2 = true
  | [], h => ⟨h, fun p hp => by cases hp⟩
  | (k, b) :: l, h => by
    simp only [weakE] at h
    split at h
    · rename_i a ha
      split at h
      · rename_i hb
        obtain ⟨rfl, h2⟩ := h
        obtain ⟨h3, h4⟩ := weakE_ok h2
        refine ⟨h3, fun p hp => ?_⟩
        rcases List.mem_cons.1 hp with rfl | hp
        · exact ⟨ha, hb⟩
        · exact h4 p hp
      · exact h.elim
    · exact h.elim
theorem weakH_ok {m : Nat} {heap : List (Nat × AObj)} {t : Tree} : ∀ {l : List (Nat × AObj)}, (weakH m heap t l).Ok → t.Ok ∧ ∀ p ∈ l, alGet heap p.1 = some p.2 ∧ p.1 < m ∧ objBelow m p.2
  | [], h => ⟨h, fun p hp => by cases hp⟩
  | (k, b) :: l, h => by
    simp only [weakH] at h
    split at h
    · rename_i a ha
      split at h
      · rename_i hb
        simp only [Bool.and_eq_true, decide_eq_true_eq] at hb
        obtain ⟨rfl, h2⟩ := h
        obtain ⟨h3, h4⟩ := weakH_ok h2
        refine ⟨h3, fun p hp => ?_⟩
        rcases List.mem_cons.1 hp with rfl | hp
        · exact ⟨ha, hb.2, objB_below hb.1⟩
        · exact h4 p hp
      · exact h.elim
    · exact h.elim
theorem weakO_ok {heap : List (Nat × AObj)} {t : Tree} : ∀ {l : List (Nat × AObj)}, (weakO heap t l).Ok → t.Ok ∧ ∀ p ∈ l, alGet heap p.1 = some p.2
  | [], h => ⟨h, fun p hp => by cases hp⟩
  | (k, b) :: l, h => by
    simp only [weakO] at h
    split at h
    · rename_i a ha
      obtain ⟨rfl, h2⟩ := h
      obtain ⟨h3, h4⟩ := weakO_ok h2
      refine ⟨h3, fun p hp => ?_⟩
      rcases List.mem_cons.1 hp with rfl | hp
      · exact ha
      · exact h4 p hp
    · exact h.elim

def weakT (nx : Nat) (ov e0 : List (Nat × AV)) (oh h0 : List (Nat × AObj)) (st : St) (t : Tree) : Tree := match Nat.ble nx st.next with
  | true => weakE nx st.env (weakE nx st.env (weakO st.heap (weakH nx st.heap t h0) oh) e0) ov
  | false => .bad

theorem weakT_ok {nx : Nat} {ov e0 : List (Nat × AV)} {oh h0 : List (Nat × AObj)} {st : St} {t : Tree} (hb : Belows nx oh) (h : (weakT nx ov e0 oh h0 st t).Ok) : t.Ok ∧ Weak st ⟨ov ++ e0, oh ++ h0, nx⟩ := by
  unfold weakT at h
  split at h
  · rename_i hn
    obtain ⟨h1, a1⟩ := weakE_ok h
    obtain ⟨h2, a2⟩ := weakE_ok h1
    obtain ⟨h3, a3⟩ := weakO_ok h2
    obtain ⟨h4, a4⟩ := weakH_ok h3
    refine ⟨h4, weak_of (Nat.le_of_ble_eq_true hn) (fun p hp => ?_) (fun p hp => ?_)⟩
    · rcases List.mem_append.1 hp with hp | hp
      · exact a1 p hp
      · exact a2 p hp
    · rcases List.mem_append.1 hp with hp | hp
      · exact ⟨a3 p hp, hb.all p hp⟩
      · exact a4 p hp
  · exact h.elim

def Spec.weak {β : Type} (sp : Spec β) (st0 st : St) (b : β) (t : Tree) : Tree := weakT sp.nx (sp.ov b) (keepEnv sp.ks st0.env) (sp.oh b) (keepH sp.hs st0.heap) st t
theorem Spec.weak_ok {β : Type} {sp : Spec β} {st0 st : St} {b : β} {t : Tree} (h : (sp.weak st0 st b t).Ok) : t.Ok ∧ Weak st (sp.st st0 b) := weakT_ok (sp.bel b) h

def Spec.weaki {β : Type} (sp : Spec β) (st0 st : St) (idx : Nat) (v : AV) (b : β) (t : Tree) : Tree := match alGet st.env idx with
  | some a => .eq AV a v (sp.weak st0 st b t)
  | Option.none => .bad
theorem Spec.weaki_ok {β : Type} {sp : Spec β} {st0 st : St} {idx : Nat} {n : Int} {v : AV} {b : β} {t : Tree} (hv : v = vI n) (h : (sp.weaki st0 st idx v b t).Ok) : t.Ok ∧ Weak st (sp.sti st0 idx n b) := by
  unfold Spec.weaki at h
  split at h
  · rename_i a ha
    obtain ⟨rfl, h1⟩ := h
    have hn : sp.nx ≤ st.next := by
      unfold Spec.weak weakT at h1
      split at h1
      · rename_i hn; exact Nat.le_of_ble_eq_true hn
      · exact h1.elim
    unfold Spec.weak weakT at h1
    split at h1
    · obtain ⟨h1, a1⟩ := weakE_ok h1
      obtain ⟨h2, a2⟩ := weakE_ok h1
      obtain ⟨h3, a3⟩ := weakO_ok h2
      obtain ⟨h4, a4⟩ := weakH_ok h3
      refine ⟨h4, weak_of hn (fun p hp => ?_) (fun p hp => ?_)⟩
      · rcases List.mem_cons.1 hp with rfl | hp
        · exact ⟨by rw [ha, hv], rfl⟩
        rcases List.mem_append.1 hp with hp | hp
        · exact a1 p hp
        · exact a2 p hp
      · rcases List.mem_append.1 hp with hp | hp
        · exact ⟨a3 p hp, (sp.bel b).all p hp⟩
        · exact a4 p hp
    · exact h1.elim
  · exact h.elim
end Go.Proofs.Ytgligibbgobmnaa
namespace Go.Proofs.Ytgligibbgobmnaa
open Go.RowKit
set_option linter.unusedVariables false
set_option linter.unusedSimpArgs false

def Plan.dec {α : Type} (p : Plan α) : Plan α := match p with
  | .cut (n + 1) sp q k => .cut n sp q k
  | .cutO (n + 1) sp q k => .cutO n sp q k
  | .weak (n + 1) w q => .weak n w q
  | p => p
theorem dec_run {α : Type} (p : Plan α) : p.dec.run = p.run := by
  unfold Plan.dec; split <;> rfl

def Plan.enter {α : Type} (p : Plan α) : Plan α := match p with
  | .reg 0 q => q
  | .reg (n + 1) q => .reg n q
  | p => p
theorem enter_run {α : Type} (p : Plan α) : p.enter.run = p.run := by
  unfold Plan.enter; split <;> rfl

abbrev KT (α : Type) := Exit → St → Facts → Plan α → Tree
abbrev CT := (α : Type) → St → Facts → Plan α → KT α → Tree

noncomputable def cutK {β : Type} (sp : Spec β) (st0 : St) : KT β := fun e s Φ q => match e with
  | .normal => settle q Φ fun _ q => match q with
    | .ret b => sp.weak st0 s b .tt
    | _ => .bad
  | _ => .bad
noncomputable def cutKO {α β γ : Type} (sp : Spec β) (st0 : St) (kk : β ⊕ γ → Plan α) (k : KT α) : KT (β ⊕ γ) := fun e s Φ q => settle q Φ fun Φ q => match e with
  | .normal => match q with
    | .ret (.inl b) => sp.weak st0 s b .tt
    | _ => .bad
  | e => match q with
    | .ret (.inr c) => k e s Φ (kk (.inr c))
    | _ => .bad

noncomputable def cutW (go : CT) : CT := fun α st Φ p k => .step (settle p Φ fun Φ p => match p with
  | .cut (β := β) 0 sp q kk => match Nat.ble st.next sp.nx with
    | true => .and (go β st Φ q (cutK sp st)) (.all β fun b => k .normal (sp.st st b) Φ (kk b))
    | false => .bad
  | .cutO (β := β) (γ := γ) 0 sp q kk => match Nat.ble st.next sp.nx with
    | true => .and (go (β ⊕ γ) st Φ q (cutKO sp st kk k)) (.all β fun b => k .normal (sp.st st b) Φ (kk (.inl b)))
    | false => .bad
  | p => go α st Φ p k)
def weaks : List WStep → St → (St → Tree) → Tree
  | [], st, f => f st
  | w :: ws, st, f => w.T st (weaks ws (w.to st) f)
noncomputable def weakW (go : CT) : CT := fun α st Φ p k => settle p Φ fun Φ p => match p with
  | .weak 0 ws q => weaks ws st fun st => go α st Φ q k
  | p => go α st Φ p k

noncomputable def loopK {α σ ρ : Type} (kk : ρ → Plan α) (W : St → σ → Tree) (k : KT α) : KT (σ ⊕ ρ) := fun e s Φ q => settle q Φ fun Φ q => match e with
  | .normal => match q with
    | .ret (.inl s') => W s s'
    | _ => .bad
  | e => match q with
    | .ret (.inr y) => k e s Φ (kk y)
    | _ => .bad

variable (C : Ctx)

noncomputable def chk : ACode → CT
  | .skip => weakW <| cutW <| weakW fun α st Φ p k => k .normal st Φ p
  | .region d o items ks => weakW <| cutW <| weakW fun α st Φ p k => chkI C (match d with | true => some o | false => Option.none) items 0 [] [] [] st Φ p.enter fun s Φ p => k .normal (s.keep ks) Φ p
  | .seq x y => weakW <| cutW <| weakW fun α st Φ p k => chk x α st Φ p.dec fun e s Φ q => match e with
    | .normal => chk y α s Φ q k
    | e => k e s Φ q
  | .cond c x y => weakW <| cutW <| weakW fun α st Φ p k => match evEnv st.env c with
    | .imm (.bool b) => match p.used 999 with
      | some (key, q) => match alGet Φ key with
        | some ([.g true], ps) => .eq (List Prop) ps [b = true] (chk x α st Φ q k)
        | some ([.g false], ps) => .eq (List Prop) ps [b = false] (chk y α st Φ q k)
        | _ => .bad
      | Option.none => match b with
        | true => chk x α st Φ p k
        | false => chk y α st Φ p k
    | _ => .bad
  | .block id x => weakW <| cutW <| weakW fun α st Φ p k => chk x α st Φ p.dec fun e s Φ q => match e with
    | .exit i => match Nat.beq i id with
      | true => k .normal s Φ q
      | false => k (.exit i) s Φ q
    | e => k e s Φ q
  | .scope x => weakW <| cutW <| weakW fun α st Φ p k => chk x α st Φ p.dec fun e s Φ q => match e with
    | .goto _ => .bad
    | e => k e s Φ q
  | .exit id => weakW <| cutW <| weakW fun α st Φ p k => k (.exit id) st Φ p
  | .ret => weakW <| cutW <| weakW fun α st Φ p k => k .ret st Φ p
  | .loop x => weakW <| cutW <| weakW fun α st Φ p k => match p with
    | .forR (σ := σ) (ρ := ρ) key idx n s0 sp body kk => match Nat.beq sp.nx st.next with
      | true => .and (sp.weaki st st idx (vI 0) s0 .tt) (.and
        (.all Nat fun i => .all σ fun s => chk x (σ ⊕ ρ) (sp.sti st idx (i : Int) s) ((key, ([.g true], [decide ((i : Int) < n) = true])) :: (key + 1, ([.g false], [(!decide ((i : Int) < n)) = false])) :: Φ) (body i s) (loopK (fun y => kk (.inr y)) (fun st' s' => sp.weaki st st' idx (vI (IntKind.i64.wrap ((i : Int) + 1))) s' .tt) k))
        (.all Nat fun i => .all σ fun s => chk x α (sp.sti st idx (i : Int) s) ((key, ([.g false], [decide ((i : Int) < n) = false])) :: (key + 1, ([.g true], [(!decide ((i : Int) < n)) = true])) :: Φ) (kk (.inl s)) fun e s Φ q => match e with
          | .normal => .bad
          | e => k e s Φ q))
      | false => .bad
    | .iter (σ := σ) (ρ := ρ) s0 sp body kk => match Nat.beq sp.nx st.next with
      | true => .and (sp.weak st st s0 .tt) (.all σ fun s => chk x (σ ⊕ ρ) (sp.st st s) Φ (body s) (loopK kk (fun st' s' => sp.weak st st' s' .tt) k))
      | false => .bad
    | _ => .bad

variable {C : Ctx} {nt : Nat}

def Sound (C : Ctx) (nt : Nat) (c : ACode) (go : CT) : Prop := ∀ {α : Type} {r : α} (st : St) (Φ : Facts) (p : Plan α) (k : KT α) (K : Exit → St → Prop), FactsOk Φ → p.run = some r → (go α st Φ p k).Ok →
  (∀ e s Φ q, FactsOk Φ → q.run = some r → (k e s Φ q).Ok → K e s) → awp C nt c K st

theorem awp_post {x : ACode} {K : Exit → St → Prop} {st : St} (ST : St) (hn : st.next ≤ ST.next) (hK : K .normal ST) (hx : awp C nt x (Then (fun s => Weak s ST) K) st) : awp C nt x K st := by
  intro code hc g a w R
  refine Code.wp_mono ?_ (hx code hc g a w R)
  rintro e a' w' ⟨st', g', hk, R', E'⟩
  cases e with
  | normal =>
    obtain ⟨g2, R2, hE2⟩ := hk C nt g' a' w' R'
    exact ⟨ST, g2, hK, R2, hE2 g st w hn E'⟩
  | _ => exact ⟨st', g', hk, R', E'⟩

theorem cutW_sound {c : ACode} {go : CT} (h : Sound C nt c go) : Sound C nt c (cutW go) := by
  intro α r st Φ p k K hΦ hr hok hk
  obtain ⟨Φ1, p1, hΦ1, hr1, h1⟩ := settle_ok p hΦ hok hr
  split at h1
  · rename_i β sp q kk
    split at h1
    · rename_i hn
      obtain ⟨b, hb1, hb2⟩ := obind (show Option.bind q.run (fun b => (kk b).run) = some r from hr1)
      refine awp_post (sp.st st b) (Nat.le_of_ble_eq_true hn) (hk _ _ _ _ hΦ1 hb2 (h1.2 b)) ?_
      refine h st Φ1 q (cutK sp st) _ hΦ1 hb1 h1.1 ?_
      intro e s Φ2 q2 hΦ2 hr2 h2
      cases e with
      | normal =>
        obtain ⟨Φ3, q3, hΦ3, hr3, h3⟩ := settle_ok q2 hΦ2 h2 hr2
        split at h3
        · cases hr3; exact (Spec.weak_ok h3).2
        · exact h3.elim
      | _ => exact h2.elim
    · exact h1.elim
  · rename_i β γ sp q kk
    split at h1
    · rename_i hn
      obtain ⟨d, hd1, hd2⟩ := obind (show Option.bind q.run (fun b => (kk b).run) = some r from hr1)
      have key : ∀ (e : Exit) (s : St) (Φ2 : Facts) (q2 : Plan (β ⊕ γ)), FactsOk Φ2 → q2.run = some d → (cutKO sp st kk k e s Φ2 q2).Ok → (∃ b, d = .inl b ∧ e = .normal ∧ Weak s (sp.st st b)) ∨ (e ≠ .normal ∧ (∃ y, d = .inr y) ∧ K e s) := by
        intro e s Φ2 q2 hΦ2 hr2 h2
        obtain ⟨Φ3, q3, hΦ3, hr3, h3⟩ := settle_ok q2 hΦ2 h2 hr2
        split at h3
        · split at h3
          · rename_i b; exact .inl ⟨b, (Option.some.inj hr3).symm, rfl, (Spec.weak_ok h3).2⟩
          · exact h3.elim
        · rename_i hne
          split at h3
          · rename_i y
            have : d = .inr y := (Option.some.inj hr3).symm
            subst this
            exact .inr ⟨hne, ⟨y, rfl⟩, hk _ _ _ _ hΦ3 hd2 h3⟩
          · exact h3.elim
      cases d with
      | inl b =>
        refine awp_post (sp.st st b) (Nat.le_of_ble_eq_true hn) (hk _ _ _ _ hΦ1 hd2 (h1.2 b)) ?_
        refine h st Φ1 q _ _ hΦ1 hd1 h1.1 ?_
        intro e s Φ2 q2 hΦ2 hr2 h2
        rcases key e s Φ2 q2 hΦ2 hr2 h2 with ⟨b', e1, rfl, e3⟩ | ⟨_, ⟨y, e1⟩, _⟩
        · cases e1; exact e3
        · cases e1
      | inr y =>
        refine h st Φ1 q _ _ hΦ1 hd1 h1.1 ?_
        intro e s Φ2 q2 hΦ2 hr2 h2
        rcases key e s Φ2 q2 hΦ2 hr2 h2 with ⟨b', e1, _, _⟩ | ⟨_, _, e3⟩
        · cases e1
        · exact e3
    · exact h1.elim
  · exact h st Φ1 p1 k K hΦ1 hr1 h1 hk

theorem weaks_ok {c : ACode} {K : Exit → St → Prop} {f : St → Tree} : ∀ (ws : List WStep) (st : St), (weaks ws st f).Ok → (∀ st', (f st').Ok → awp C nt c K st') → awp C nt c K st
  | [], st, h, hf => hf st h
  | w :: ws, st, h, hf => by
    obtain ⟨h1, h2, h3⟩ := w.ok _ _ h
    exact awp_weak h2 h3 (weaks_ok ws _ h1 hf)

theorem weakW_sound {c : ACode} {go : CT} (h : Sound C nt c go) : Sound C nt c (weakW go) := by
  intro α r st Φ p k K hΦ hr hok hk
  obtain ⟨Φ1, p1, hΦ1, hr1, h1⟩ := settle_ok p hΦ hok hr
  split at h1
  · rename_i ws q
    exact weaks_ok ws st h1 fun st' h2 => h st' Φ1 q k K hΦ1 hr1 h2 hk
  · exact h _ _ _ k K hΦ1 hr1 h1 hk

theorem loopK_ok {α σ ρ : Type} {kk : ρ → Plan α} {W : St → σ → Tree} {k : KT α} {o : σ ⊕ ρ} {e : Exit} {s : St} {Φ : Facts} {q : Plan (σ ⊕ ρ)} (hΦ : FactsOk Φ) (hr : q.run = some o) (h : (loopK kk W k e s Φ q).Ok) :
    (e = .normal ∧ ∃ s', o = .inl s' ∧ (W s s').Ok) ∨ (e ≠ .normal ∧ ∃ y Φ', o = .inr y ∧ FactsOk Φ' ∧ (k e s Φ' (kk y)).Ok) := by
  obtain ⟨Φ3, q3, hΦ3, hr3, h3⟩ := settle_ok q hΦ h hr
  split at h3
  · split at h3
    · rename_i s'; exact .inl ⟨rfl, s', (Option.some.inj hr3).symm, h3⟩
    · exact h3.elim
  · rename_i hne
    split at h3
    · rename_i y; exact .inr ⟨hne, y, Φ3, (Option.some.inj hr3).symm, hΦ3, h3⟩
    · exact h3.elim

theorem chk_sound : ∀ c : ACode, Sound C nt c (chk C c)
  | .skip => weakW_sound <| cutW_sound <| weakW_sound fun st Φ p k K hΦ hr h hk => awp_skip (hk _ _ _ _ hΦ hr h)
  | .region d o items ks => weakW_sound <| cutW_sound <| weakW_sound fun st Φ p k K hΦ hr h hk => by
    cases d with
    | false => exact awp_reg (chkI_evl (K := Kept ks K) (fun s Φ q h1 h2 h3 => hk _ _ _ _ h1 h2 h3) items 0 [] [] [] st Φ p.enter hΦ ((enter_run p).trans hr) h)
    | true => exact awp_evd (chkI_evd (fun s Φ q h1 h2 h3 => hk _ _ _ _ h1 h2 h3) items 0 [] [] [] st Φ p.enter hΦ ((enter_run p).trans hr) h)
  | .seq x y => weakW_sound <| cutW_sound <| weakW_sound fun st Φ p k K hΦ hr h hk => by
    refine awp_seq (chk_sound x st Φ p.dec _ _ hΦ ((dec_run p).trans hr) h ?_)
    intro e s Φ2 q2 hΦ2 hr2 h2
    cases e with
    | normal => exact chk_sound y s Φ2 q2 k K hΦ2 hr2 h2 hk
    | _ => exact hk _ _ _ _ hΦ2 hr2 h2
  | .cond c x y => weakW_sound <| cutW_sound <| weakW_sound fun st Φ p k K hΦ hr h hk => by
    split at h
    · rename_i b hc
      split at h
      · rename_i key q hu
        have hq := (used_run hu).trans hr
        split at h
        · rename_i ps hf
          obtain ⟨h1, h2⟩ := h
          have hb : b = true := by have := hΦ _ _ hf; simp only [h1] at this; exact this.one
          exact awp_cond b hc (fun _ => chk_sound x st Φ q k K hΦ hq h2 hk) (fun e => by rw [hb] at e; cases e)
        · rename_i ps hf
          obtain ⟨h1, h2⟩ := h
          have hb : b = false := by have := hΦ _ _ hf; simp only [h1] at this; exact this.one
          exact awp_cond b hc (fun e => by rw [hb] at e; cases e) (fun _ => chk_sound y st Φ q k K hΦ hq h2 hk)
        · exact h.elim
      · split at h
        · exact awp_cond true hc (fun _ => chk_sound x st Φ p k K hΦ hr h hk) (fun e => by cases e)
        · exact awp_cond false hc (fun e => by cases e) (fun _ => chk_sound y st Φ p k K hΦ hr h hk)
    · exact h.elim
  | .block id x => weakW_sound <| cutW_sound <| weakW_sound fun st Φ p k K hΦ hr h hk => by
    refine awp_block (chk_sound x st Φ p.dec _ _ hΦ ((dec_run p).trans hr) h ?_)
    intro e s Φ2 q2 hΦ2 hr2 h2
    cases e with
    | exit i =>
      have h2 : (match Nat.beq i id with
        | true => k .normal s Φ2 q2
        | false => k (.exit i) s Φ2 q2).Ok := h2
      simp only [InBlock]
      cases hb : Nat.beq i id with
      | true => rw [hb] at h2; rw [if_pos (Nat.eq_of_beq_eq_true hb)]; exact hk _ _ _ _ hΦ2 hr2 h2
      | false =>
        rw [hb] at h2
        rw [if_neg (fun e => by subst e; rw [Nat.beq_refl] at hb; cases hb)]
        exact hk _ _ _ _ hΦ2 hr2 h2
    | _ => exact hk _ _ _ _ hΦ2 hr2 h2
  | .scope x => weakW_sound <| cutW_sound <| weakW_sound fun st Φ p k K hΦ hr h hk => by
    refine awp_scope (chk_sound x st Φ p.dec _ _ hΦ ((dec_run p).trans hr) h ?_)
    intro e s Φ2 q2 hΦ2 hr2 h2
    cases e with
    | goto l => exact h2.elim
    | _ => exact hk _ _ _ _ hΦ2 hr2 h2
  | .exit id => weakW_sound <| cutW_sound <| weakW_sound fun st Φ p k K hΦ hr h hk => awp_exit (hk _ _ _ _ hΦ hr h)
  | .ret => weakW_sound <| cutW_sound <| weakW_sound fun st Φ p k K hΦ hr h hk => awp_ret (hk _ _ _ _ hΦ hr h)
  | .loop x => weakW_sound <| cutW_sound <| weakW_sound fun {α} {r} st Φ p k K hΦ hr h hk => by
    split at h
    · rename_i σ ρ key idx n s0 sp body kk
      split at h
      · rename_i hnx
        have hnx : sp.nx = st.next := Nat.eq_of_beq_eq_true hnx
        obtain ⟨h1, h2, h3⟩ := h
        obtain ⟨out, ho, hq⟩ := obind (show Option.bind (forR n (fun i s => (body i s).run) s0) (fun o => (kk o).run) = some r from hr)
        refine awp_forR ho (fun i s => (sp.sti st idx (i : Int) s).env) (fun i s => (sp.sti st idx (i : Int) s).heap) ?_ ?_ ?_
        · have := (Spec.weaki_ok (n := ((0 : Nat) : Int)) rfl h1).2
          simp only [Spec.sti, hnx] at this ⊢
          exact this
        · intro i s o hi hw hb
          have hst : (⟨(sp.sti st idx (i : Int) s).env, (sp.sti st idx (i : Int) s).heap, st.next⟩ : St) = sp.sti st idx (i : Int) s := by simp only [Spec.sti, hnx]
          rw [hst]
          refine chk_sound x _ _ (body i s) _ _ ((hΦ.add (f := ([.g false], [(!decide ((i : Int) < n)) = false])) (.cons (by rw [decide_eq_true hi]; rfl) .nil)).add (f := ([.g true], [decide ((i : Int) < n) = true])) (.cons (decide_eq_true hi) .nil)) hb (h2 i s) ?_
          intro e s2 Φ2 q2 hΦ2 hr2 h4
          rcases loopK_ok hΦ2 hr2 h4 with ⟨rfl, s', rfl, h5⟩ | ⟨hne, y, Φ3, rfl, hΦ3, h5⟩
          · refine ⟨s', rfl, ?_⟩
            have := (Spec.weaki_ok (n := ((i + 1 : Nat) : Int)) (by rw [hw]; rfl) h5).2
            simp only [Spec.sti, hnx] at this ⊢
            exact this
          · have : ∀ (K' : Exit → St → Prop), (∃ y', (Sum.inr y : σ ⊕ ρ) = .inr y' ∧ (out = .inr y' → K e s2)) → LoopK (fun s => ⟨(sp.sti st idx ((i + 1 : Nat) : Int) s).env, (sp.sti st idx ((i + 1 : Nat) : Int) s).heap, st.next⟩) K out (.inr y) e s2 := fun _ hh => by
              cases e with
              | normal => exact absurd rfl hne
              | _ => exact hh
            refine this K ⟨y, rfl, fun hout => ?_⟩
            subst hout
            exact hk _ _ _ _ hΦ3 hq h5
        · intro m s hm hout
          subst hout
          have hst : (⟨(sp.sti st idx (m : Int) s).env, (sp.sti st idx (m : Int) s).heap, st.next⟩ : St) = sp.sti st idx (m : Int) s := by simp only [Spec.sti, hnx]
          rw [hst]
          refine chk_sound x _ _ (kk (.inl s)) _ _ ((hΦ.add (f := ([.g true], [(!decide ((m : Int) < n)) = true])) (.cons (by rw [decide_eq_false hm]; rfl) .nil)).add (f := ([.g false], [decide ((m : Int) < n) = false])) (.cons (decide_eq_false hm) .nil)) hq (h3 m s) ?_
          intro e s2 Φ2 q2 hΦ2 hr2 h4
          cases e with
          | normal => exact h4.elim
          | _ => exact hk _ _ _ _ hΦ2 hr2 h4
      · exact h.elim
    · rename_i σ ρ s0 sp body kk
      split at h
      · rename_i hnx
        have hnx : sp.nx = st.next := Nat.eq_of_beq_eq_true hnx
        obtain ⟨h1, h2⟩ := h
        obtain ⟨out, ho, hq⟩ := obind (show Option.bind (iter (fun s => (body s).run) s0) (fun o => (kk o).run) = some r from hr)
        have hst : ∀ s, (⟨(sp.st st s).env, (sp.st st s).heap, st.next⟩ : St) = sp.st st s := fun s => by simp only [Spec.st, hnx]
        refine awp_iter ho (fun s => (sp.st st s).env) (fun s => (sp.st st s).heap) ?_ ?_
        · rw [hst]; exact (Spec.weak_ok h1).2
        · intro s o hb
          rw [hst]
          refine chk_sound x _ _ (body s) _ _ hΦ hb (h2 s) ?_
          intro e s2 Φ2 q2 hΦ2 hr2 h4
          rcases loopK_ok hΦ2 hr2 h4 with ⟨rfl, s', rfl, h5⟩ | ⟨hne, y, Φ3, rfl, hΦ3, h5⟩
          · refine ⟨s', rfl, ?_⟩
            show Weak s2 ⟨(sp.st st s').env, (sp.st st s').heap, st.next⟩
            rw [hst]; exact (Spec.weak_ok h5).2
          · have : (∃ y', (Sum.inr y : σ ⊕ ρ) = .inr y' ∧ ((Sum.inr out : σ ⊕ ρ) = .inr y' → K e s2)) → LoopK (fun s => ⟨(sp.st st s).env, (sp.st st s).heap, st.next⟩) K (.inr out) (.inr y) e s2 := fun hh => by
              cases e with
              | normal => exact absurd rfl hne
              | _ => exact hh
            refine this ⟨y, rfl, fun hout => ?_⟩
            cases hout
            exact hk _ _ _ _ hΦ3 hq h5
      · exact h.elim
    · exact h.elim
end Go.Proofs.Ytgligibbgobmnaa
namespace Go.Proofs.Ytgligibbgobmnaa
open Go.RowKit
set_option linter.unusedVariables false
set_option linter.unusedSimpArgs false

/-! What is live (sets of slots as numbers). -/
def bitOf (n : Nat) : Nat := Nat.shiftLeft 1 n
def hasBit (m n : Nat) : Bool := Nat.beq (Nat.land 1 (Nat.shiftRight m n)) 1
def opdMask : Opd → Nat
  | .t n => bitOf n
  | .c _ => 0
def opdsMask : List Opd → Nat
  | [] => 0
  | x :: r => Nat.lor (opdMask x) (opdsMask r)
def useMask (it : AItem) : Nat := match it.guard with
  | none => opdsMask (opOpds it.op)
  | some (t, _) => Nat.lor (bitOf t) (opdsMask (opOpds it.op))
def without (m n : Nat) : Nat := match hasBit m n with
  | true => Nat.sub m (bitOf n)
  | false => m
def liveItems (out : Nat) : List AItem → Nat
  | [] => out
  | it :: rest => match it.guard, it.dst with
    | none, some d => Nat.lor (useMask it) (without (liveItems out rest) d)
    | _, _ => Nat.lor (useMask it) (liveItems out rest)
def usesI : List AItem → Nat
  | [] => 0
  | it :: rest => Nat.lor (useMask it) (usesI rest)
def usesC : ACode → Nat
  | .region _ _ items _ => usesI items
  | .seq x y => Nat.lor (usesC x) (usesC y)
  | .cond c x y => Nat.lor (opdMask c) (Nat.lor (usesC x) (usesC y))
  | .block _ x | .loop x | .scope x => usesC x
  | _ => 0
def exGet (ex : List (Nat × Nat)) (id : Nat) : Nat := match ex with
  | [] => 0
  | (k, v) :: r => match Nat.beq k id with
    | true => v
    | false => exGet r id
def exAll : List (Nat × Nat) → Nat
  | [] => 0
  | (_, v) :: r => Nat.lor v (exAll r)
def lvIn (ret : Nat) : ACode → Nat → List (Nat × Nat) → Nat
  | .skip, out, _ => out
  | .region _ _ items _, out, _ => liveItems out items
  | .seq x y, out, ex => lvIn ret x (lvIn ret y out ex) ex
  | .cond c x y, out, ex => Nat.lor (opdMask c) (Nat.lor (lvIn ret x out ex) (lvIn ret y out ex))
  | .block id x, out, ex => lvIn ret x out ((id, out) :: ex)
  | .loop x, out, ex => Nat.lor ret (Nat.lor (usesC x) (exAll ex))
  | .scope x, out, ex => lvIn ret x out ex
  | .exit id, _, ex => exGet ex id
  | .ret, _, _ => ret
def maskList (m : Nat) : Nat → List Nat
  | 0 => []
  | n + 1 => match hasBit m n with
    | true => n :: maskList m n
    | false => maskList m n
def ann (nt ret : Nat) : ACode → Nat → List (Nat × Nat) → ACode
  | .skip, _, _ => .skip
  | .region d o items _, out, _ => .region d o items (some (maskList out nt))
  | .seq x y, out, ex => .seq (ann nt ret x (lvIn ret y out ex) ex) (ann nt ret y out ex)
  | .cond c x y, out, ex => .cond c (ann nt ret x out ex) (ann nt ret y out ex)
  | .block id x, out, ex => .block id (ann nt ret x out ((id, out) :: ex))
  | .loop x, out, ex => .loop (ann nt ret x (Nat.lor ret (Nat.lor (usesC x) (exAll ex))) ex)
  | .scope x, out, ex => .scope (ann nt ret x out ex)
  | .exit id, _, _ => .exit id
  | .ret, _, _ => .ret
theorem ann_erase (nt ret : Nat) : ∀ (c : ACode) (out : Nat) (ex : List (Nat × Nat)), (ann nt ret c out ex).erase = c.erase
  | .skip, _, _ => rfl
  | .region _ _ _ _, _, _ => rfl
  | .seq x y, out, ex => by simp only [ann, ACode.erase, ann_erase nt ret x, ann_erase nt ret y]
  | .cond c x y, out, ex => by simp only [ann, ACode.erase, ann_erase nt ret x, ann_erase nt ret y]
  | .block id x, out, ex => by simp only [ann, ACode.erase, ann_erase nt ret x]
  | .loop x, out, ex => by simp only [ann, ACode.erase, ann_erase nt ret x]
  | .scope x, out, ex => by simp only [ann, ACode.erase, ann_erase nt ret x]
  | .exit id, _, _ => rfl
  | .ret, _, _ => rfl

theorem comp_erase (C : Ctx) (nt : Nat) : ∀ (code : Code) (ac : ACode), comp C nt code = some ac → ac.erase = ac
  | .skip, ac, h => by simp only [comp] at h; cases h; rfl
  | .region _ ops draw, ac, h => by
    simp only [comp] at h
    split at h
    · split at h
      · split at h
        · cases h; rfl
        · cases h
      · cases h; rfl
    · cases h
  | .seq a b, ac, h => by
    simp only [comp] at h
    split at h
    · rename_i x y hx hy; cases h; simp only [ACode.erase, comp_erase C nt a x hx, comp_erase C nt b y hy]
    · cases h
  | .cond c a b, ac, h => by
    simp only [comp] at h
    split at h
    · rename_i x y hx hy; cases h; simp only [ACode.erase, comp_erase C nt a x hx, comp_erase C nt b y hy]
    · cases h
  | .block id a, ac, h => by
    simp only [comp] at h
    split at h
    · rename_i x hx; cases h; simp only [ACode.erase, comp_erase C nt a x hx]
    · cases h
  | .loop a, ac, h => by
    simp only [comp] at h
    split at h
    · rename_i x hx; cases h; simp only [ACode.erase, comp_erase C nt a x hx]
    · cases h
  | .scope a, ac, h => by
    simp only [comp] at h
    split at h
    · rename_i x hx; cases h; simp only [ACode.erase, comp_erase C nt a x hx]
    · cases h
  | .label _, ac, h => by simp only [comp] at h; cases h; rfl
  | .exit id, ac, h => by simp only [comp] at h; cases h; rfl
  | .ret, ac, h => by simp only [comp] at h; cases h; rfl
  | .rangeFunc .., ac, h => by simp only [comp] at h; cases h
  | .goto _, ac, h => by simp only [comp] at h; cases h
  | .refuse _, ac, h => by simp only [comp] at h; cases h
theorem compFun_erase {C : Ctx} {f : Nat} {F : AFun} (h : compFun C f = some F) : F.erase = F := by
  unfold compFun at h
  split at h
  · split at h
    · split at h
      · rename_i ac rs hac hrs
        split at h
        · cases h
        · cases h; simp only [AFun.erase, comp_erase C _ _ _ hac]
      · cases h
    · cases h
  · cases h

def resMask : List ARes → Nat
  | [] => 0
  | .tmp t :: r => Nat.lor (bitOf t) (resMask r)
  | .cell t _ _ :: r => Nat.lor (bitOf t) (resMask r)
def AFun.ann (F : AFun) : AFun := { F with body := Go.Proofs.Ytgligibbgobmnaa.ann F.nt (resMask F.results) F.body (resMask F.results) [] }
theorem ann_comp {C : Ctx} {f : Nat} {F : AFun} (h : compFun C f = some F) : compFun C f = some F.ann.erase := by
  rw [h]
  have := compFun_erase h
  simp only [AFun.erase] at this
  simp only [AFun.ann, AFun.erase, ann_erase]
  rw [this]

/-! Whole functions. -/
variable (C : Ctx)
noncomputable def chkFun {α : Type} (f : Nat) (args : List AV) (heap : List (Nat × AObj)) (m : Nat) (p : Plan α) (kend : List ARes → KT α) : Tree := match compFun C f with
  | some F => match Nat.ble args.length F.nt with
    | true => chk C F.ann.body α ⟨argEnv 0 args, heap, m⟩ [] p (kend F.results)
    | false => .bad
  | none => .bad

noncomputable def endP {α : Type} (iv : α → IV) (rs : List ARes) (s : St) : Plan α → Tree
  | .ret a => .eq (Option IV) ((resOf rs s).bind (toIV (alGet s.heap) 5)) (some (iv a)) .tt
  | .fin ids V objs x h a => match objsX s.heap ids with
    | some objs' => .eq (List (Nat × AObj)) objs' objs (.eq (Option AV) (resOf rs s) (some V) (.eq IV x (iv a) .tt))
    | Option.none => .bad
  | _ => .bad
noncomputable def kPure {α : Type} (iv : α → IV) (rs : List ARes) : KT α := fun e s Φ q => settle q Φ fun Φ q => match e with
  | .ret => endP iv rs s q
  | .normal => endP iv rs s q
  | _ => .bad

noncomputable def endD {α : Type} (R : α → AV) (H : α → List (Nat × AObj)) (n : Nat) (rs : List ARes) (s : St) : Plan α → Tree
  | .ret a => match resOf rs s with
    | some x => .eq AV x (R a) (weakT n [(0, R a)] [] (H a) [] ⟨[(0, R a)], s.heap, s.next⟩ .tt)
    | Option.none => .bad
  | .finL x y h a => match resOf rs s with
    | some x' => .eq AV x' x (.eq AV y (R a) (weakT n [(0, R a)] [] (H a) [] ⟨[(0, R a)], s.heap, s.next⟩ .tt))
    | Option.none => .bad
  | _ => .bad
noncomputable def kDet {α : Type} (R : α → AV) (H : α → List (Nat × AObj)) (n : Nat) (rs : List ARes) : KT α := fun e s Φ q => settle q Φ fun Φ q => match e with
  | .ret => endD R H n rs s q
  | .normal => endD R H n rs s q
  | _ => .bad

variable {C : Ctx}
theorem endP_ok {α : Type} {iv : α → IV} {rs : List ARes} {s : St} {q : Plan α} {r : α} (hr : q.run = some r) (h : (endP iv rs s q).Ok) : EndK (IsIV 5 (iv r)) s.heap s.next (resOf rs s) := by
  unfold endP at h
  split at h
  · cases hr
    have h1 := h.1
    cases h2 : resOf rs s with
    | none => rw [h2] at h1; cases h1
    | some x => rw [h2] at h1; exact h1
  · rename_i ids V objs x hs a
    cases hr
    split at h
    · rename_i objs' ho
      obtain ⟨rfl, h2, rfl, _⟩ := h
      rw [h2]
      have := mapO_sub (alGet_objs ho) hs
      simp only [mapO] at this
      split at this
      · rename_i b hb; cases this; exact hb
      · cases this
    · exact h.elim
  · exact h.elim

theorem Plan.pure {f : Nat} {α : Type} {args : List IV} {iv : α → IV} (p : Plan α) (h : chkFun C f (args.map .imm) [] 0 p (kPure iv) = (chkFun C f (args.map .imm) [] 0 p (kPure iv)).norm) {r : α} (hr : p.run = some r) : APure C f args (iv r) := by
  have hk := Tree.ok h
  unfold chkFun at hk
  split at hk
  · rename_i F hF
    split at hk
    · rename_i hn
      refine APure.start (F := F.ann) (ann_comp hF) 5 (by have := Nat.le_of_ble_eq_true hn; rw [List.length_map] at this; exact this) ?_
      refine chk_sound F.ann.body _ [] p _ _ (fun k f hf => by cases hf) hr hk ?_
      intro e s Φ q hΦ hr2 h2
      obtain ⟨Φ3, q3, hΦ3, hr3, h3⟩ := settle_ok q hΦ h2 hr2
      cases e with
      | ret => exact endP_ok hr3 h3
      | normal => exact endP_ok hr3 h3
      | _ => exact h3.elim
    · exact hk.elim
  · exact hk.elim

theorem endD_ok {α : Type} {R : α → AV} {H : α → List (Nat × AObj)} {n : Nat} (hb : ∀ a, Belows n (H a)) {rs : List ARes} {s : St} {q : Plan α} {r : α} (hr : q.run = some r) (h : (endD R H n rs s q).Ok) : ∃ x, resOf rs s = some x ∧ Weak ⟨[(0, x)], s.heap, s.next⟩ ⟨[(0, R r)], H r, n⟩ := by
  unfold endD at h
  split at h
  · cases hr
    split at h
    · rename_i x hx
      obtain ⟨rfl, h1⟩ := h
      have := (weakT_ok (hb _) h1).2
      simp only [List.append_nil] at this
      exact ⟨_, hx, this⟩
    · exact h.elim
  · rename_i x y hl a
    cases hr
    split at h
    · rename_i x' hx
      obtain ⟨rfl, rfl, h1⟩ := h
      have hn : n ≤ s.next := by
        unfold weakT at h1
        split at h1
        · rename_i hn; exact Nat.le_of_ble_eq_true hn
        · exact h1.elim
      have := (weakT_ok (hb _) h1).2
      simp only [List.append_nil] at this
      exact ⟨_, hx, (weak_le hl).andThen this hn⟩
    · exact h.elim
  · exact h.elim

theorem Plan.det {f : Nat} {α : Type} {args : List AV} {heap : List (Nat × AObj)} {m d : Nat} {R : α → AV} {H : α → List (Nat × AObj)} (p : Plan α) (b0 : Belows m heap) (b1 : ∀ a, Belows (m + d) (H a)) (k0 : (args.all (avBelow m) && KeysB m heap) = true) (k1 : ∀ a, (avBelow (m + d) (R a) && KeysB m (H a)) = true)
    (h : chkFun C f args heap m p (kDet R H (m + d)) = (chkFun C f args heap m p (kDet R H (m + d))).norm) {r : α} (hr : p.run = some r) : DOk C f args heap m (R r) (H r) d := by
  have hk := Tree.ok h
  have k0 := k0; rw [Bool.and_eq_true] at k0
  have k1 := k1 r; rw [Bool.and_eq_true] at k1
  unfold chkFun at hk
  split at hk
  · rename_i F hF
    split at hk
    · rename_i hn
      refine DOk.start (F := F.ann) (ann_comp hF) (Nat.le_of_ble_eq_true hn) b0 (b1 r) k0.1 k1.1 k0.2 k1.2 ?_
      refine chk_sound F.ann.body _ [] p _ _ (fun k f hf => by cases hf) hr hk ?_
      intro e s Φ q hΦ hr2 h2
      obtain ⟨Φ3, q3, hΦ3, hr3, h3⟩ := settle_ok q hΦ h2 hr2
      cases e with
      | ret => exact endD_ok b1 hr3 h3
      | normal => exact endD_ok b1 hr3 h3
      | _ => exact h3.elim
    · exact hk.elim
  · exact hk.elim
end Go.Proofs.Ytgligibbgobmnaa
namespace Go.Proofs.Ytgligibbgobmnaa
open Go.RowKit
set_option linter.unusedVariables false
set_option linter.unusedSimpArgs false

section
variable {α β : Type}
def Plan.us : List (Nat × Nat) → Plan α → Plan α
  | [], p => p
  | (j, k) :: l, p => .use j k (Plan.us l p)
abbrev Plan.sel (key : Nat) (p : Plan α) : Plan α := .use 999 key p
theorem FactsOk.c1 {key : Nat} {o : List Orc} {p : Prop} (h : p) {Φ : Facts} (t : FactsOk Φ) : FactsOk ((key, (o, [p])) :: Φ) := t.add (.cons h .nil)
theorem FactsOk.c2 {key : Nat} {o : List Orc} {p q : Prop} (h : p) (h' : q) {Φ : Facts} (t : FactsOk Φ) : FactsOk ((key, (o, [p, q])) :: Φ) := t.add (.cons h (.cons h' .nil))
abbrev Plan.b1 (key : Nat) (x : Option β) (o : β → Orc) {p : β → Prop} (h : ∀ v, x = some v → p v) (k : β → Plan α) : Plan α :=
  .bind x (fun v => [(key, ([o v], [p v]))]) (fun v hv => .c1 (h v hv) .nil) k
abbrev Plan.u1 (j key : Nat) (x : Option β) (o : β → Orc) {p : β → Prop} (h : ∀ v, x = some v → p v) (k : β → Plan α) : Plan α :=
  .bind x (fun v => [(key, ([o v], [p v]))]) (fun v hv => .c1 (h v hv) .nil) fun v => .use j key (k v)
abbrev Plan.f1 (key : Nat) (o : Orc) {p : Prop} (h : p) (q : Plan α) : Plan α := .fact key [o] [p] (.cons h .nil) q
abbrev Plan.ix (key : Nat) (row : β → List IV) (l : List β) (n : Int) (k : β → Plan α) : Plan α :=
  Plan.b1 key (idxI l n) (fun e => .r (row e)) (fun e h => idx_side row h) k
abbrev Plan.ln (key : Nat) (row : β → List IV) (l : List β) (q : Plan α) : Plan α := Plan.f1 key (.n (l.length : Int)) (len_side row l) q
abbrev Plan.call {C : Ctx} {f : Nat} {ivs : List IV} {x : Option β} {iv : β → IV} (key : Nat) (t : ∀ r, x = some r → APure C f ivs (iv r)) (k : β → Plan α) : Plan α :=
  Plan.b1 key x (fun r => .v (iv r)) t k
abbrev Spec.e {β : Type} (ks : List Nat) (ov : β → List (Nat × AV)) (hs : List Nat) (nx : Nat) : Spec β := ⟨ks, ov, hs, fun _ => [], nx, fun _ => .nil⟩
end

def allT (P : Prop) (t : Tree) : List Prop → Tree
  | [] => t
  | p :: r => .eq Prop p P (allT P t r)
theorem allT_ok {P : Prop} (hP : P) {t : Tree} : ∀ {l : List Prop}, (allT P t l).Ok → t.Ok ∧ AllP l
  | [], h => ⟨h, .nil⟩
  | p :: r, h => by
    obtain ⟨rfl, h2⟩ := h
    obtain ⟨h3, h4⟩ := allT_ok hP h2
    exact ⟨h3, .cons hP h4⟩

def wFrz (id sz len : Nat) (all rows : List (List IV)) (ks : List Nat) (rowsV : List (List AV)) (hrows : all.map (fun r => r.map AV.imm) = rowsV) (hD : (all.drop 0).take len = rows) : WStep where
  to st := ⟨frzE id rows st.env, frzH id rows ks st.heap, st.next⟩
  T st t := .eq (Option AObj) (alGet st.heap id) (some (.rows sz rowsV)) (allT (0 = 0 ∧ len = len) t (occE id 0 len st.env ++ occH id 0 len ks st.heap))
  ok st t h := by
    obtain ⟨h1, h2⟩ := h
    obtain ⟨h3, h4⟩ := allT_ok ⟨rfl, rfl⟩ h2
    exact ⟨h3, weak_freeze id sz 0 len all rows ks rowsV h1 hrows hD h4, Nat.le_refl _⟩
abbrev wFrzA {α : Type} (id sz : Nat) (ks : List Nat) (f : α → List IV) (l : List α) : WStep := wFrz id sz l.length (l.map f) (l.map f) ks (rowsA f l) (imm_rowsA f l) (frz_all f l)
abbrev wFrzT {α : Type} (id sz : Nat) (ks : List Nat) (f : α → List IV) (l : List α) (n : Nat) : WStep := wFrz id sz n (l.map f) ((l.take n).map f) ks (rowsA f l) (imm_rowsA f l) (frz_take f l n)

def wZero {α : Type} (id sz k : Nat) (row : List AV) (f : α → List IV) (z : α) (hle : RowLe row (rowA (f z))) : WStep where
  to st := ⟨st.env, alSet st.heap id (.rows sz (rowsA f (List.replicate k z))), st.next⟩
  T st t := .eq (Option AObj) (alGet st.heap id) (some (.rows sz (List.replicate k row))) t
  ok st t h := ⟨h.2, weak_zero id sz k row f z h.1 hle, Nat.le_refl _⟩
def wNil (t0 sz : Nat) : WStep where
  to st := { env := alSet st.env t0 (.gslice st.next []), heap := alSet st.heap st.next (.tip sz 0), next := st.next + 1 }
  T st t := .eq (Option AV) (alGet st.env t0) (some .nil) t
  ok st t h := ⟨h.2, weak_nil h.1, Nat.le_succ _⟩
theorem Plan.run_of {α : Type} {p : Plan α} {d : Option α} {r : α} (h : d = some r) (e : d = p.run) : p.run = some r := e ▸ h
end Go.Proofs.Ytgligibbgobmnaa
namespace Go.Proofs.Ytgligibbgobmnaa
open Go.RowKit
set_option linter.unusedVariables false
set_option linter.unusedSimpArgs false
set_option maxRecDepth 100000

structure Ratio where
  num : Int
  den : Int
  deriving Inhabited, DecidableEq

def Ratio.row (x : Ratio) : List IV := [.int .i64 x.num, .int .i64 x.den]
def Ratio.iv (x : Ratio) : IV := .agg x.row

structure UnitT where
  name : ByteArray
  kind : Int
  base : Int
  factor : Ratio
  deriving Inhabited, DecidableEq

def UnitT.row (x : UnitT) : List IV := [.str x.name, .int .i64 x.kind, .int .i64 x.base, .int .i64 x.factor.num, .int .i64 x.factor.den]
def UnitT.iv (x : UnitT) : IV := .agg x.row

structure ActT where
  kind : Int
  role : Int
  give : Int
  to : Int
  unit : Int
  lot : Ratio
  deriving Inhabited, DecidableEq

def ActT.row (x : ActT) : List IV := [.int .i64 x.kind, .int .i64 x.role, .int .i64 x.give, .int .i64 x.to, .int .i64 x.unit, .int .i64 x.lot.num, .int .i64 x.lot.den]
def ActT.iv (x : ActT) : IV := .agg x.row

structure CondT where
  clause : Int
  is : Int
  deriving Inhabited, DecidableEq

def CondT.row (x : CondT) : List IV := [.int .i64 x.clause, .int .i64 x.is]
def CondT.iv (x : CondT) : IV := .agg x.row

structure ClauseT where
  kind : Int
  role : Int
  act : Int
  need : Int
  start : List CondT
  after : Int
  grace : Int
  business : Bool
  final : Bool
  pause : Int
  resume : Int
  value : Ratio
  unit : Int
  to : Int
  waived : Bool
  deriving Inhabited, DecidableEq

def ClauseT.row (x : ClauseT) : List IV := [.int .i64 x.kind, .int .i64 x.role, .int .i64 x.act, .int .i64 x.need, .slice (List.map CondT.row x.start), .int .i64 x.after, .int .i64 x.grace, .bool x.business, .bool x.final, .int .i64 x.pause, .int .i64 x.resume, .int .i64 x.value.num, .int .i64 x.value.den, .int .i64 x.unit, .int .i64 x.to, .bool x.waived]
def ClauseT.iv (x : ClauseT) : IV := .agg x.row

structure ContractT where
  parties : Int
  holders : List Int
  units : List UnitT
  acts : List ActT
  clauses : List ClauseT
  days : Int
  off : List Int
  deriving Inhabited, DecidableEq

def ContractT.row (x : ContractT) : List IV := [.int .i64 x.parties, .slice (List.map rowI x.holders), .slice (List.map UnitT.row x.units), .slice (List.map ActT.row x.acts), .slice (List.map ClauseT.row x.clauses), .int .i64 x.days, .slice (List.map rowI x.off)]
def ContractT.iv (x : ContractT) : IV := .agg x.row

attribute [simp] Ratio.row UnitT.row ActT.row CondT.row ClauseT.row ContractT.row

end Go.Proofs.Ytgligibbgobmnaa
namespace Go.Proofs.Ytgligibbgobmnaa
open Go.RowKit
set_option linter.unusedVariables false
set_option linter.unusedSimpArgs false
set_option maxRecDepth 100000

noncomputable def C0 : Ctx := ⟨Try.prog, [3, 4, 5, 6, 7, 8, 9, 10, 11, 12, 13, 14, 15, 16, 17, 18, 19, 20, 21, 22, 23, 24, 25, 26, 27, 28, 29, 30, 31, 32, 33, 34, 35, 36, 37, 38, 39, 40, 41, 42, 43, 44, 45, 46, 47, 48, 49, 50, 51, 52, 53, 54, 55, 56, 57, 58, 59, 60, 61, 62]⟩
def ri33_0 : List AItem := [⟨some 4, .mov (.c (.nil)), none⟩]
def ri33_1 : List AItem := [⟨some 5, .mov (.c (.nil)), none⟩]
def ri33_2 : List AItem := [⟨some 9, .mkmap, none⟩,
  ⟨some 6, .mov (.t 9), none⟩]
def ri33_3 : List AItem := [⟨some 10, .mov (.t 0), none⟩,
  ⟨some 11, .mov (.c (.imm (.int .i64 0))), none⟩]
def ri33_4 : List AItem := [⟨some 12, .bin .lss (.t 11) (.t 10), none⟩]
def ri33_5 : List AItem := [⟨some 13, .mov (.t 11), none⟩,
  ⟨some 7, .mov (.t 13), none⟩]
def ri33_6 : List AItem := [⟨some 14, .mov (.t 1), none⟩,
  ⟨some 15, .mov (.t 7), none⟩,
  ⟨some 16, .call (.t 14) [.t 15], none⟩,
  ⟨some 8, .mov (.t 16), none⟩]
def ri33_7 : List AItem := [⟨some 17, .mov (.t 8), none⟩,
  ⟨some 18, .mov (.t 7), none⟩,
  ⟨some 19, .bin .eql (.t 17) (.t 18), none⟩]
def ri33_8 : List AItem := [⟨some 20, .mov (.t 6), none⟩,
  ⟨some 21, .mov (.t 7), none⟩,
  ⟨some 22, .mov (.t 5), none⟩,
  ⟨some 23, .len (.t 22), none⟩,
  ⟨none, .upd false (.t 20) (.t 21) (.t 23), none⟩]
def ri33_9 : List AItem := [⟨some 24, .mov (.t 5), none⟩,
  ⟨some 25, .bslice 1 [.nil] 1 [(0, .c (.nil))], none⟩,
  ⟨some 26, .app 1 24 (.t 24) (.t 25), none⟩,
  ⟨some 5, .mov (.t 26), none⟩]
def ri33_10 : List AItem := [⟨some 27, .mov (.t 5), none⟩,
  ⟨some 28, .mov (.t 6), none⟩,
  ⟨some 29, .mov (.t 8), none⟩,
  ⟨some 30, .look false (.imm (.int .i64 0)) false (.t 28) (.t 29), none⟩,
  ⟨some 31, .mov (.t 5), none⟩,
  ⟨some 32, .mov (.t 6), none⟩,
  ⟨some 33, .mov (.t 8), none⟩,
  ⟨some 34, .look false (.imm (.int .i64 0)) false (.t 32) (.t 33), none⟩,
  ⟨some 35, .idx 1 (.t 31) (.t 34), none⟩,
  ⟨some 36, .load false 1 (.t 35), none⟩,
  ⟨some 37, .mov (.t 7), none⟩,
  ⟨some 38, .bslice 1 [.imm (.int .i64 0)] 1 [(0, .t 37)], none⟩,
  ⟨some 39, .app 1 8 (.t 36) (.t 38), none⟩,
  ⟨some 40, .idx 1 (.t 27) (.t 30), none⟩,
  ⟨none, .store 1 (.t 40) (.t 39), none⟩]
def ri33_11 : List AItem := [⟨some 41, .bin .add (.t 11) (.c (.imm (.int .i64 1))), none⟩,
  ⟨some 11, .mov (.t 41), none⟩]
def ri33_12 : List AItem := [⟨some 42, .mov (.t 5), none⟩,
  ⟨some 4, .mov (.t 42), none⟩]
def af33 : AFun := ⟨43, [.tmp 4], (
.seq (.region false [] ri33_0 (some [0, 1])) (
.seq (.region false [] ri33_1 (some [0, 1, 5])) (
.seq (.region false [] ri33_2 (some [0, 1, 5, 6])) (
.seq (.seq (.region false [] ri33_3 (some [1, 5, 6, 10, 11])) (
.block 0 (.loop (.seq (.region false [] ri33_4 (some [1, 5, 6, 10, 11, 12])) (
.seq (.cond (.t 12) (.skip) (.exit 0)) (
.seq (.block 1 (.seq (.region false [] ri33_5 (some [1, 5, 6, 7, 10, 11])) (
.seq (.region false [] ri33_6 (some [1, 5, 6, 7, 8, 10, 11])) (
.seq (.seq (.region false [] ri33_7 (some [1, 5, 6, 7, 8, 10, 11, 19])) (
.cond (.t 19) (.seq (.region false [] ri33_8 (some [1, 5, 6, 7, 8, 10, 11])) (
.region false [] ri33_9 (some [1, 5, 6, 7, 8, 10, 11]))) (.skip))) (
.region true [0, 0, 0, 6, 0, 0, 0, 96, 240, 496, 0, 1024, 4080, 8191, 16383] ri33_10 (some [1, 5, 6, 10, 11])))))) (
.region false [] ri33_11 (some [1, 5, 6, 10, 11])))))))) (
.seq (.region false [] ri33_12 (some [4])) (
.ret))))))⟩
theorem hA33 : compFun C0 33 = some af33.erase := by kernel_rfl

end Go.Proofs.Ytgligibbgobmnaa
