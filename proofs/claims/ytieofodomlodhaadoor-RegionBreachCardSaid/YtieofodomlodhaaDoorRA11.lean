/-
  'RegionBreach': for every input the call returns true, and each argument reads afterwards as it read before.
  The tables of the library that the rows list: from the row's condition to what the contracts ask; the witness.
  RegionBreach: a breach is never left.
  The fixed example of the laws of layer 19: 'head' returns true. Printed by mkheads.py.
  Functions of the program as the kernel reckons them: with fuel, and texts of small numbers. Printed by mkheads.py.
-/
import Derived.Test.YtieofodomlodhaaDoorRA10
import Derived.Test.YtieofodomlodhaaDoorRows
import Derived.Test.YtieofodomlodhaaDoorRA09
import Derived.LaidLaws
import Derived.LaidSub
import Derived.Deep.DeepLaidRun
import Derived.Lib.LaidTab
import Derived.JoinedOf
import Derived.Test.YtieofodomlodhaaDoorRA06
import Derived.Test.YtieofodomlodhaaDoorTie
import Derived.Test.YtieofodomlodhaaDoorCards
import Derived.SevenTiedAt
namespace Go.Proofs.YtieofodomlodhaaDoor
set_option linter.unusedVariables false
set_option linter.unusedSimpArgs false
set_option maxRecDepth 100000

def Le {α : Type} (x y : Option α) : Prop := ∀ r, x = some r → y = some r
theorem Le.refl {α : Type} (x : Option α) : Le x x := fun _ h => h
theorem Le.bind {α β : Type} {x y : Option α} {f g : α → Option β} (h : Le x y) (hf : ∀ a, Le (f a) (g a)) : Le (x.bind f) (y.bind g) := fun r hr => by
  obtain ⟨a, h1, h2⟩ := Option.bind_eq_some_iff.1 hr
  rw [h a h1]; exact hf a r h2
theorem Le.cond {α : Type} (b : Bool) {x y x' y' : Option α} (h1 : Le x x') (h2 : Le y y') : Le (bif b then x else y) (bif b then x' else y') := by
  cases b
  · exact h2
  · exact h1
theorem Le.elim {α β γ : Type} {f f' : α → Option γ} {g g' : β → Option γ} (h1 : ∀ a, Le (f a) (f' a)) (h2 : ∀ a, Le (g a) (g' a)) (o : α ⊕ β) : Le (Sum.elim f g o) (Sum.elim f' g' o) := by
  cases o
  · exact h1 _
  · exact h2 _
theorem Le.forFrom {σ ρ : Type} {f g : Nat → σ → Option (σ ⊕ ρ)} (h : ∀ i s, Le (f i s) (g i s)) : ∀ (k i : Nat) (s : σ), Le (forFrom f i k s) (forFrom g i k s)
  | 0, i, s => Le.refl _
  | k + 1, i, s => fun r hr => by
    simp only [Go.Proofs.YtieofodomlodhaaDoor.forFrom] at hr ⊢
    split at hr
    · cases hr
    · rename_i e; rw [h i s _ e]; exact hr
    · rename_i e; rw [h i s _ e]; exact Le.forFrom h k (i + 1) _ r hr
theorem Le.forR {σ ρ : Type} {f g : Nat → σ → Option (σ ⊕ ρ)} (h : ∀ i s, Le (f i s) (g i s)) (n : Int) (s : σ) : Le (forR n f s) (forR n g s) := fun r hr => by
  obtain ⟨h1, h2⟩ := forR_some hr
  rw [forR_pos h1]; exact Le.forFrom h _ _ _ r h2
theorem Le.iterN {σ ρ : Type} {f g : σ → Option (σ ⊕ ρ)} (h : ∀ s, Le (f s) (g s)) : ∀ (k : Nat) (s : σ), Le (Go.Proofs.YtieofodomlodhaaDoor.iterN f k s) (Go.Proofs.YtieofodomlodhaaDoor.iterN g k s)
  | 0, s => Le.refl _
  | k + 1, s => fun r hr => by
    simp only [Go.Proofs.YtieofodomlodhaaDoor.iterN] at hr ⊢
    split at hr
    · cases hr
    · rename_i e; rw [h s _ e]; exact hr
    · rename_i e; rw [h s _ e]; exact Le.iterN h k _ r hr
theorem Le.iter {σ ρ : Type} {f g : σ → Option (σ ⊕ ρ)} (h : ∀ s, Le (f s) (g s)) (k : Nat) (s : σ) : Le (Go.Proofs.YtieofodomlodhaaDoor.iterN f k s) (Go.Proofs.YtieofodomlodhaaDoor.iter g s) := fun r hr => iter_some.2 ⟨k, Le.iterN h k s r hr⟩

/-! ### Texts of small numbers -/
def edig : Nat → Nat → List UInt8
  | 0, u => []
  | f + 1, u => if u < 10 then [UInt8.ofNat (48 + u)] else edig f (u / 10) ++ [UInt8.ofNat (48 + u % 10)]
theorem edig_eq : ∀ (f u : Nat), u < 10 ^ (f + 1) → edig (f + 1) u = Lib.decDigits u
  | 0, u, h => by
    rw [Lib.decDigits]
    simp only [edig]
    rw [if_pos (by omega), dif_pos (by omega)]
  | f + 1, u, h => by
    rw [Lib.decDigits, edig]
    by_cases hu : u < 10
    · rw [if_pos hu, dif_pos hu]
    · rw [if_neg hu, dif_neg hu, edig_eq f (u / 10) (by rw [Nat.pow_succ] at h; omega)]
def smallI (n : Int) : Bool := decide (-1000 < n) && decide (n < 1000)
def itoaE (n : Int) : List UInt8 := if n < 0 then 45 :: edig 4 n.natAbs else edig 4 n.toNat
theorem itoaE_eq {n : Int} (h : smallI n = true) : itoaE n = Lib.itoa n := by
  simp only [smallI, Bool.and_eq_true, decide_eq_true_eq] at h
  unfold itoaE Lib.itoa
  rw [edig_eq 3 n.natAbs (by omega), edig_eq 3 n.toNat (by omega)]
def numE (n : Int) : List UInt8 := itoaE n ++ [32]
theorem numE_eq {n : Int} (h : smallI n = true) : numE n = numT n := by unfold numE numT; rw [itoaE_eq h]
def markE (m : MarkT) : List UInt8 := numE m.status ++ numE m.left ++ numE m.got ++ numE m.bearer ++ flagT m.paused
def smallM (m : MarkT) : Bool := smallI m.status && (smallI m.left && (smallI m.got && smallI m.bearer))
def textE (p : PosT) : List UInt8 := flagT p.own ++ numE p.state.day ++ p.state.holders.flatMap numE ++ p.state.used.flatMap flagT ++ p.state.marks.flatMap markE
def smallP (p : PosT) : Bool := smallI p.state.day && (p.state.holders.all smallI && p.state.marks.all smallM)
theorem flatMap_cong {α β : Type} {f g : α → List β} : ∀ {l : List α}, (∀ a ∈ l, f a = g a) → l.flatMap f = l.flatMap g
  | [], _ => rfl
  | a :: l, h => by rw [List.flatMap_cons, List.flatMap_cons, h a List.mem_cons_self, flatMap_cong fun b hb => h b (List.mem_cons_of_mem _ hb)]
theorem textE_eq {p : PosT} (h : smallP p = true) : textE p = textL p := by
  simp only [smallP, Bool.and_eq_true, List.all_eq_true] at h
  unfold textE textL
  rw [numE_eq h.1, flatMap_cong (f := numE) (g := numT) (fun a ha => numE_eq (h.2.1 a ha)), flatMap_cong (f := markE) (g := markT) (fun a ha => by
    have := h.2.2 a ha
    simp only [smallM, Bool.and_eq_true] at this
    show numE a.status ++ numE a.left ++ numE a.got ++ numE a.bearer ++ flagT a.paused = numT a.status ++ numT a.left ++ numT a.got ++ numT a.bearer ++ flagT a.paused
    rw [numE_eq this.1, numE_eq this.2.1, numE_eq this.2.2.1, numE_eq this.2.2.2])]
theorem small_in {n : Int} (h : smallI n = true) : inI64 n = true := by
  simp only [smallI, inI64, Bool.and_eq_true, decide_eq_true_eq] at h ⊢
  omega
def e_text (p : PosT) : Option ByteArray := bif smallP p && decide ((textE p).length ≤ 1000000000) then some ⟨(textE p).toArray⟩ else none
theorem le_text (p : PosT) : Le (e_text p) (d_text p) := fun r h => by
  unfold e_text at h
  cases hq : (smallP p && decide ((textE p).length ≤ 1000000000)) with
  | false => rw [hq] at h; cases h
  | true =>
    rw [hq] at h
    simp only [Bool.and_eq_true, decide_eq_true_eq] at hq
    have e := textE_eq hq.1
    unfold d_text
    rw [if_pos, ← e]
    · exact h
    · have h1 := hq.1
      simp only [smallP, Bool.and_eq_true, List.all_eq_true] at h1
      simp only [okP, Bool.and_eq_true, decide_eq_true_eq, List.all_eq_true]
      refine ⟨⟨⟨small_in h1.1, fun x hx => small_in (h1.2.1 x hx)⟩, fun m hm => ?_⟩, by rw [← e]; exact hq.2⟩
      have := h1.2.2 m hm
      simp only [smallM, Bool.and_eq_true] at this
      exact ⟨⟨⟨small_in this.1, small_in this.2.1⟩, small_in this.2.2.1⟩, small_in this.2.2.2⟩

noncomputable def e_69a (p1 : ContractT) (p2 : Int) (p3 : List Int) (p4 : Nat) (p5 : List Bool) (p6 : Nat) (p7 : List MarkT) (p8 : Nat) : Option ((List MarkT)) :=
  (Option.bind (iterN (σ := Bool × (List MarkT)) (ρ := (List MarkT)) (fun s1 => (bif s1.1 then (Option.bind (forR (σ := Bool × (List MarkT)) (ρ := Unit) (p1.clauses.length : Int) (fun i2 s2 => (Option.bind (Option.bind (idxI p1.clauses (i2 : Int)) fun e1 => (Option.bind (eqN p4 p3.length) fun g1 => (Option.bind (eqN p6 p5.length) fun g2 => (Option.bind (eqN p8 s2.2.length) fun g3 => (Option.bind (d_ready p1 ({ day := p2, holders := p3, used := p5, marks := s2.2 } : StateT) (i2 : Int)) fun r1 => (bif r1 then (Option.bind (bif (e1.kind == 4) then some (-1) else (Option.bind (idxN p4 e1.role) fun k1 => (Option.bind (p3[k1]?) fun e2 => some e2))) fun (v1 : Int) => (Option.bind (idxN p8 (i2 : Int)) fun k2 => (Option.bind (s2.2[k2]?) fun e3 => some (true, (s2.2.set k2 ({ status := 1, left := e1.after, got := 0, bearer := v1, paused := false } : MarkT)))))) else some (s2.1, s2.2))))))) fun (v2 : Bool × (List MarkT)) => some (.inl (v2.1, v2.2)))) (false, s1.2)) (Sum.elim (fun (s2 : Bool × (List MarkT)) => some (.inl (s2.1, s2.2))) (fun _ => none))) else some (.inr s1.2))) 40 (true, p7)) (fun (y1 : (List MarkT)) => some y1))
theorem le_69a (p1 : ContractT) (p2 : Int) (p3 : List Int) (p4 : Nat) (p5 : List Bool) (p6 : Nat) (p7 : List MarkT) (p8 : Nat) : Le (e_69a p1 p2 p3 p4 p5 p6 p7 p8) (d_69a p1 p2 p3 p4 p5 p6 p7 p8) := by
  unfold e_69a d_69a
  repeat' (first | with_reducible exact Le.refl _ | with_reducible refine Le.bind ?_ (fun _ => ?_) | with_reducible refine Le.cond _ ?_ ?_ | with_reducible refine Le.forR (fun _ _ => ?_) _ _ | with_reducible refine Le.iter (fun _ => ?_) _ _ | with_reducible refine Le.elim (fun _ => ?_) (fun _ => ?_) _)

noncomputable def e_Start (c : ContractT) : Option (StateT × Int) :=
  (Option.bind (d_Valid c) fun r1 => (bif (r1.1 == 0) then (Option.bind (cloneI 8 c.holders) fun e1 => (Option.bind (mkN 1 (c.acts.length : Int)) fun k1 => (Option.bind (mkN 40 (c.clauses.length : Int)) fun k2 => (Option.bind (forR (σ := (List MarkT)) (ρ := Unit) (c.clauses.length : Int) (fun i1 s1 => (Option.bind (Option.bind (idxI c.clauses (i1 : Int)) fun e2 => (Option.bind (idxN k2 (i1 : Int)) fun k3 => (Option.bind (s1[k3]?) fun e3 => (bif e2.waived then (Option.bind (idxN k2 (i1 : Int)) fun k4 => (Option.bind ((s1.set k3 ({ status := 0, left := 0, got := 0, bearer := (-1), paused := false } : MarkT))[k4]?) fun e4 => some ((s1.set k3 ({ status := 0, left := 0, got := 0, bearer := (-1), paused := false } : MarkT)).set k4 ({ e4 with status := 5 } : MarkT)))) else some (s1.set k3 ({ status := 0, left := 0, got := 0, bearer := (-1), paused := false } : MarkT)))))) fun (v1 : (List MarkT)) => some (.inl v1))) (List.replicate k2 ({ status := 0, left := 0, got := 0, bearer := 0, paused := false } : MarkT))) (Sum.elim (fun (s1 : (List MarkT)) => (Option.bind (e_69a c 0 e1 e1.length (List.replicate k1 false) k1 s1 k2) fun r2 => (Option.bind (eqN k1 (List.replicate k1 false).length) fun g1 => (Option.bind (eqN k2 r2.length) fun g2 => some (({ day := 0, holders := e1, used := (List.replicate k1 false), marks := r2 } : StateT), 0))))) (fun _ => none)))))) else some (({ day := 0, holders := [], used := [], marks := [] } : StateT), 1)))
theorem le_Start (c : ContractT) : Le (e_Start c) (d_Start c) := by
  unfold e_Start d_Start
  repeat' (first | with_reducible exact Le.refl _ | with_reducible exact le_69a _ _ _ _ _ _ _ _ | with_reducible refine Le.bind ?_ (fun _ => ?_) | with_reducible refine Le.cond _ ?_ ?_ | with_reducible refine Le.forR (fun _ _ => ?_) _ _ | with_reducible refine Le.iter (fun _ => ?_) _ _ | with_reducible refine Le.elim (fun _ => ?_) (fun _ => ?_) _)

noncomputable def e_BinarySearch (l : List Int) (v : Int) : Option (Int × Bool) :=
  (Option.bind (Option.bind (iterN (σ := Int × Int) (ρ := Int) (fun s1 => (bif decide (s1.1 < s1.2) then (Option.bind (shrI .u64 .u64 (IntKind.u64.wrap (IntKind.i64.wrap (s1.1 + s1.2))) 1) fun e1 => (Option.bind (idxI l (IntKind.i64.wrap e1)) fun e2 => (Option.bind (d_less e2 v) fun r1 => (bif r1 then some (.inl ((IntKind.i64.wrap ((IntKind.i64.wrap e1) + 1)), s1.2)) else some (.inl (s1.1, (IntKind.i64.wrap e1))))))) else some (.inr s1.1))) 40 (0, (l.length : Int))) (fun (y1 : Int) => some y1)) fun (v1 : Int) => (Option.bind (bif decide (v1 < (l.length : Int)) then (Option.bind (idxI l v1) fun e3 => (bif (e3 == v) then some true else (Option.bind (d_isNaN e3) fun r2 => (bif r2 then (Option.bind (d_isNaN v) fun r3 => some r3) else some false)))) else some false) fun v2 => some (v1, v2)))
theorem le_BinarySearch (l : List Int) (v : Int) : Le (e_BinarySearch l v) (d_BinarySearch l v) := by
  unfold e_BinarySearch d_BinarySearch
  repeat' (first | with_reducible exact Le.refl _ | with_reducible refine Le.bind ?_ (fun _ => ?_) | with_reducible refine Le.cond _ ?_ ?_ | with_reducible refine Le.forR (fun _ _ => ?_) _ _ | with_reducible refine Le.iter (fun _ => ?_) _ _ | with_reducible refine Le.elim (fun _ => ?_) (fun _ => ?_) _)

noncomputable def e_70a (p1 : ContractT) (p2 : Int) (p3 : List Int) (p4 : Nat) (p5 : List Bool) (p6 : Nat) (p7 : List MarkT) (p8 : Nat) : Option ((List MarkT)) :=
  (Option.bind (e_BinarySearch p1.off p2) fun r1 => (Option.bind (Option.bind (d_66a p1 p2 p3 p4 p5 p6 p7 p8) fun r2 => (Option.bind (forR (σ := (List MarkT)) (ρ := (List MarkT)) (p8 : Int) (fun i1 s1 => (Option.bind (Option.bind (idxN p8 (i1 : Int)) fun k1 => (Option.bind (s1[k1]?) fun e1 => (Option.bind (d_running e1) fun r3 => (bif r3 then (Option.bind (Option.bind (idxI p1.clauses (i1 : Int)) fun e2 => (Option.bind (Option.bind (idxN p8 (i1 : Int)) fun k2 => (Option.bind (s1[k2]?) fun e3 => (bif e3.paused then some true else (bif e2.business then some r1.2 else some false)))) fun v1 => (bif v1 then some s1 else (Option.bind (idxN p8 (i1 : Int)) fun k3 => (Option.bind (s1[k3]?) fun e4 => (Option.bind (idxN p8 (i1 : Int)) fun k4 => (Option.bind ((s1.set k3 ({ e4 with left := (IntKind.i64.wrap (e4.left - 1)) } : MarkT))[k4]?) fun e5 => (bif (e5.left == 0) then (Option.bind (bif (e2.kind == (0 : Int)) then none else (bif (e2.kind == (1 : Int)) then (Option.bind (d_63a (i1 : Int) p1 p2 p3 p4 p5 p6 (s1.set k3 ({ e4 with left := (IntKind.i64.wrap (e4.left - 1)) } : MarkT)) p8) fun r7 => some r7) else (bif (e2.kind == (2 : Int)) then (Option.bind (d_61a (i1 : Int) p1 p2 p3 p4 p5 p6 (s1.set k3 ({ e4 with left := (IntKind.i64.wrap (e4.left - 1)) } : MarkT)) p8) fun r6 => some r6) else (bif (e2.kind == (3 : Int)) then (Option.bind (d_64a (i1 : Int) p1 p2 p3 p4 p5 p6 (s1.set k3 ({ e4 with left := (IntKind.i64.wrap (e4.left - 1)) } : MarkT)) p8) fun r5 => some r5) else (bif (e2.kind == (4 : Int)) then (Option.bind (d_64a (i1 : Int) p1 p2 p3 p4 p5 p6 (s1.set k3 ({ e4 with left := (IntKind.i64.wrap (e4.left - 1)) } : MarkT)) p8) fun r4 => some r4) else none))))) fun v2 => some v2) else some (s1.set k3 ({ e4 with left := (IntKind.i64.wrap (e4.left - 1)) } : MarkT)))))))))) fun (v3 : (List MarkT)) => some ((!true), v3)) else some (false, s1))))) fun (v4 : Bool × (List MarkT)) => (bif v4.1 then some (.inr v4.2) else some (.inl v4.2)))) p7) (Sum.elim (fun (s1 : (List MarkT)) => some s1) (fun (y1 : (List MarkT)) => some y1)))) fun (v5 : (List MarkT)) => (Option.bind (e_69a p1 (IntKind.i64.wrap (p2 + 1)) p3 p4 p5 p6 v5 p8) fun r8 => some r8)))
theorem le_70a (p1 : ContractT) (p2 : Int) (p3 : List Int) (p4 : Nat) (p5 : List Bool) (p6 : Nat) (p7 : List MarkT) (p8 : Nat) : Le (e_70a p1 p2 p3 p4 p5 p6 p7 p8) (d_70a p1 p2 p3 p4 p5 p6 p7 p8) := by
  unfold e_70a d_70a
  repeat' (first | with_reducible exact Le.refl _ | with_reducible exact le_BinarySearch _ _ | with_reducible exact le_69a _ _ _ _ _ _ _ _ | with_reducible refine Le.bind ?_ (fun _ => ?_) | with_reducible refine Le.cond _ ?_ ?_ | with_reducible refine Le.forR (fun _ _ => ?_) _ _ | with_reducible refine Le.iter (fun _ => ?_) _ _ | with_reducible refine Le.elim (fun _ => ?_) (fun _ => ?_) _)

noncomputable def e_60a (p1 : Int) (p2 : ContractT) (p3 : Int) (p4 : List Int) (p5 : Nat) (p6 : List Bool) (p7 : Nat) (p8 : List MarkT) (p9 : Nat) : Option ((List Int) × (List Bool) × (List MarkT)) :=
  (Option.bind (idxI p2.acts p1) fun e1 => (Option.bind (bif (e1.kind == 1) then some false else (Option.bind (idxN p7 p1) fun k1 => (Option.bind (p6[k1]?) fun e2 => some e2))) fun v1 => (bif v1 then some (p4, p6, p8) else (Option.bind (Option.bind (d_66a p2 p3 p4 p5 p6 p7 p8 p9) fun r1 => (Option.bind (forR (σ := (List MarkT)) (ρ := (List MarkT)) (p9 : Int) (fun i1 s1 => (Option.bind (Option.bind (idxN p9 (i1 : Int)) fun k2 => (Option.bind (s1[k2]?) fun e3 => (Option.bind (d_running e3) fun r2 => (bif r2 then (Option.bind (Option.bind (idxI p2.clauses (i1 : Int)) fun e4 => (bif (p1 == e4.pause) then (Option.bind (idxN p9 (i1 : Int)) fun k3 => (Option.bind (s1[k3]?) fun e5 => some (s1.set k3 ({ e5 with paused := true } : MarkT)))) else (Option.bind (idxI p2.clauses (i1 : Int)) fun e6 => (bif (p1 == e6.resume) then (Option.bind (idxN p9 (i1 : Int)) fun k4 => (Option.bind (s1[k4]?) fun e7 => some (s1.set k4 ({ e7 with paused := false } : MarkT)))) else some s1)))) fun (v2 : (List MarkT)) => some ((!true), v2)) else some (false, s1))))) fun (v3 : Bool × (List MarkT)) => (bif v3.1 then some (.inr v3.2) else some (.inl v3.2)))) p8) (Sum.elim (fun (s1 : (List MarkT)) => some s1) (fun (y1 : (List MarkT)) => some y1)))) fun (v4 : (List MarkT)) => (Option.bind (eqN p5 p4.length) fun g1 => (Option.bind (eqN p7 p6.length) fun g2 => (Option.bind (eqN p9 v4.length) fun g3 => (Option.bind (d_doer p2 ({ day := p3, holders := p4, used := p6, marks := v4 } : StateT) p1) fun r3 => (Option.bind (Option.bind (d_66a p2 p3 p4 p5 p6 p7 v4 p9) fun r4 => (Option.bind (forR (σ := (List MarkT)) (ρ := (List MarkT)) (p9 : Int) (fun i2 s2 => (Option.bind (Option.bind (idxN p9 (i2 : Int)) fun k5 => (Option.bind (s2[k5]?) fun e8 => (Option.bind (d_running e8) fun r5 => (bif r5 then (Option.bind (Option.bind (idxI p2.clauses (i2 : Int)) fun e9 => (Option.bind (bif (e9.act == p1) then (bif (e9.kind == 4) then some true else (Option.bind (idxN p9 (i2 : Int)) fun k6 => (Option.bind (s2[k6]?) fun e10 => some (e10.bearer == r3)))) else some false) fun v5 => (bif v5 then (Option.bind (bif (e9.kind == (0 : Int)) then none else (bif (e9.kind == (1 : Int)) then (Option.bind (d_65a (i2 : Int) p2 p3 p4 p5 p6 p7 s2 p9) fun r9 => some r9) else (bif (e9.kind == (2 : Int)) then (Option.bind (d_71a (i2 : Int) p2 p3 p4 p5 p6 p7 s2 p9) fun r8 => some r8) else (bif (e9.kind == (3 : Int)) then (Option.bind (d_61a (i2 : Int) p2 p3 p4 p5 p6 p7 s2 p9) fun r7 => some r7) else (bif (e9.kind == (4 : Int)) then (Option.bind (d_61a (i2 : Int) p2 p3 p4 p5 p6 p7 s2 p9) fun r6 => some r6) else none))))) fun v6 => some v6) else some s2))) fun (v7 : (List MarkT)) => some ((!true), v7)) else some (false, s2))))) fun (v8 : Bool × (List MarkT)) => (bif v8.1 then some (.inr v8.2) else some (.inl v8.2)))) v4) (Sum.elim (fun (s2 : (List MarkT)) => some s2) (fun (y2 : (List MarkT)) => some y2)))) fun (v9 : (List MarkT)) => (Option.bind (bif (e1.kind == 1) then some (p4, p6, v9) else (Option.bind (d_68a p1 p2 p3 p4 p5 p6 p7 v9 p9) fun r10 => some (r10.1, r10.2.1, r10.2.2))) fun (v10 : (List Int) × (List Bool) × (List MarkT)) => (Option.bind (e_69a p2 p3 v10.1 p5 v10.2.1 p7 v10.2.2 p9) fun r11 => some (v10.1, v10.2.1, r11))))))))))))
theorem le_60a (p1 : Int) (p2 : ContractT) (p3 : Int) (p4 : List Int) (p5 : Nat) (p6 : List Bool) (p7 : Nat) (p8 : List MarkT) (p9 : Nat) : Le (e_60a p1 p2 p3 p4 p5 p6 p7 p8 p9) (d_60a p1 p2 p3 p4 p5 p6 p7 p8 p9) := by
  unfold e_60a d_60a
  repeat' (first | with_reducible exact Le.refl _ | with_reducible exact le_69a _ _ _ _ _ _ _ _ | with_reducible refine Le.bind ?_ (fun _ => ?_) | with_reducible refine Le.cond _ ?_ ?_ | with_reducible refine Le.forR (fun _ _ => ?_) _ _ | with_reducible refine Le.iter (fun _ => ?_) _ _ | with_reducible refine Le.elim (fun _ => ?_) (fun _ => ?_) _)

noncomputable def e_Step (c : ContractT) (s : StateT) (step : Int) : Option (StateT × Int) :=
  (Option.bind (Option.bind (d_ValidS c s) fun r1 => (bif r1 then (bif decide (step < (-1)) then some true else some (decide ((c.acts.length : Int) ≤ step))) else some true)) fun v1 => (bif v1 then some (({ day := 0, holders := [], used := [], marks := [] } : StateT), 1) else (bif (s.day == c.days) then some (({ day := 0, holders := [], used := [], marks := [] } : StateT), 13) else (Option.bind (mkN 8 (s.holders.length : Int)) fun k1 => (Option.bind (mkN 1 (s.used.length : Int)) fun k2 => (Option.bind (mkN 40 (s.marks.length : Int)) fun k3 => (Option.bind (copyI (α := Int) k1 (List.replicate k1 0) s.holders) fun e1 => (Option.bind (copyI (α := Bool) k2 (List.replicate k2 false) s.used) fun e2 => (Option.bind (copyI (α := MarkT) k3 (List.replicate k3 ({ status := 0, left := 0, got := 0, bearer := 0, paused := false } : MarkT)) s.marks) fun e3 => (Option.bind (bif (step == (-1)) then (Option.bind (e_70a c s.day e1 k1 e2 k2 e3 k3) fun r2 => some (e1, e2, r2, (IntKind.i64.wrap (s.day + 1)))) else (Option.bind (e_60a step c s.day e1 k1 e2 k2 e3 k3) fun r3 => some (r3.1, r3.2.1, r3.2.2, s.day))) fun (v2 : (List Int) × (List Bool) × (List MarkT) × Int) => (Option.bind (eqN k1 v2.1.length) fun g1 => (Option.bind (eqN k2 v2.2.1.length) fun g2 => (Option.bind (eqN k3 v2.2.2.1.length) fun g3 => some (({ day := v2.2.2.2, holders := v2.1, used := v2.2.1, marks := v2.2.2.1 } : StateT), 0))))))))))))))
theorem le_Step (c : ContractT) (s : StateT) (step : Int) : Le (e_Step c s step) (d_Step c s step) := by
  unfold e_Step d_Step
  repeat' (first | with_reducible exact Le.refl _ | with_reducible exact le_70a _ _ _ _ _ _ _ _ | with_reducible exact le_60a _ _ _ _ _ _ _ _ _ | with_reducible refine Le.bind ?_ (fun _ => ?_) | with_reducible refine Le.cond _ ?_ ?_ | with_reducible refine Le.forR (fun _ _ => ?_) _ _ | with_reducible refine Le.iter (fun _ => ?_) _ _ | with_reducible refine Le.elim (fun _ => ?_) (fun _ => ?_) _)

noncomputable def e_From (c : ContractT) (party : Int) (p : PosT) : Option (ArenaT × Int) :=
  (Option.bind (d_playable c party p) fun r1 => (bif r1 then (Option.bind (d_copied p.state) fun r2 => (Option.bind (e_text p) fun r3 => (Option.bind (α := ((List PosT) × (List (List MoveT))) ⊕ Unit) (Option.bind (iterN (σ := Int × (List PosT) × (List (List MoveT)) × (List (ByteArray × Int))) (ρ := ((List PosT) × (List (List MoveT))) ⊕ Unit) (fun s1 => (bif decide (s1.1 < (s1.2.1.length : Int)) then (Option.bind (α := ((List PosT) × (List (ByteArray × Int)) × (List MoveT)) ⊕ Unit) (Option.bind (idxI s1.2.1 s1.1) fun e1 => (Option.bind (d_78b c party e1) fun r4 => (Option.bind (α := ((List PosT) × (List (ByteArray × Int)) × (List MoveT)) ⊕ (Unit ⊕ ((List PosT) × (List (ByteArray × Int)) × (List MoveT)))) (bif e1.own then (Option.bind (d_copied e1.state) fun r5 => (Option.bind (e_text ({ state := r5, own := false } : PosT)) fun r6 => (Option.bind (α := (Int × (List PosT) × (List (ByteArray × Int))) ⊕ Unit) (bif ((mget r6 s1.2.2.2).isSome) then some (.inl (((mget r6 s1.2.2.2).getD 0), s1.2.1, s1.2.2.2)) else (bif ((s1.2.1.length : Int) == 1500) then some (.inr ()) else (Option.bind (appI (α := PosT) 88 s1.2.1 [({ state := r5, own := false } : PosT)]) fun e2 => some (.inl ((s1.2.1.length : Int), e2, (mset r6 (s1.2.1.length : Int) s1.2.2.2)))))) (Sum.elim (fun (v1 : Int × (List PosT) × (List (ByteArray × Int))) => (Option.bind (appI (α := MoveT) 16 [] [({ step := (-2), to := v1.1 } : MoveT)]) fun e3 => (bif decide (c.days ≤ e1.state.day) then some (.inr (.inr (v1.2.1, v1.2.2, e3))) else some (.inl (v1.2.1, v1.2.2, e3))))) (fun (y1 : Unit) => some (.inr (.inl ()))))))) else (bif decide (c.days ≤ e1.state.day) then some (.inr (.inr (s1.2.1, s1.2.2.2, []))) else some (.inl (s1.2.1, s1.2.2.2, [])))) (Sum.elim (fun (v2 : (List PosT) × (List (ByteArray × Int)) × (List MoveT)) => (Option.bind (α := ((List PosT) × (List (ByteArray × Int)) × (List MoveT)) ⊕ Unit) (bif e1.own then some (.inl (v2.1, v2.2.1, v2.2.2)) else (Option.bind (e_Step c e1.state (-1)) fun r7 => (Option.bind (e_text ({ state := r7.1, own := true } : PosT)) fun r8 => (Option.bind (α := (Int × (List PosT) × (List (ByteArray × Int))) ⊕ Unit) (bif ((mget r8 v2.2.1).isSome) then some (.inl (((mget r8 v2.2.1).getD 0), v2.1, v2.2.1)) else (bif ((v2.1.length : Int) == 1500) then some (.inr ()) else (Option.bind (appI (α := PosT) 88 v2.1 [({ state := r7.1, own := true } : PosT)]) fun e4 => some (.inl ((v2.1.length : Int), e4, (mset r8 (v2.1.length : Int) v2.2.1)))))) (Sum.elim (fun (v3 : Int × (List PosT) × (List (ByteArray × Int))) => (Option.bind (appI (α := MoveT) 16 v2.2.2 [({ step := (-1), to := v3.1 } : MoveT)]) fun e5 => some (.inl (v3.2.1, v3.2.2, e5)))) (fun (y4 : Unit) => some (.inr ()))))))) (Sum.elim (fun (v4 : (List PosT) × (List (ByteArray × Int)) × (List MoveT)) => (Option.bind (forR (σ := (List PosT) × (List (ByteArray × Int)) × (List MoveT)) (ρ := (List PosT) × (List (ByteArray × Int)) × (List MoveT)) (c.acts.length : Int) (fun i2 s2 => (Option.bind (α := ((List PosT) × (List (ByteArray × Int)) × (List MoveT)) ⊕ Unit) (Option.bind (idxI c.acts (i2 : Int)) fun e6 => (Option.bind (bif (e6.role == (-1)) then some (-1) else (Option.bind (idxI e1.state.holders e6.role) fun e7 => some e7)) fun (v5 : Int) => (bif ((v5 == party) == e1.own) then (Option.bind (e_Step c e1.state (i2 : Int)) fun r9 => (Option.bind (d_SameS r9.1 e1.state) fun r10 => (bif r10 then some (.inl (s2.1, s2.2.1, s2.2.2)) else (Option.bind (e_text ({ state := r9.1, own := true } : PosT)) fun r11 => (Option.bind (α := (Int × (List PosT) × (List (ByteArray × Int))) ⊕ Unit) (bif ((mget r11 s2.2.1).isSome) then some (.inl (((mget r11 s2.2.1).getD 0), s2.1, s2.2.1)) else (bif ((s2.1.length : Int) == 1500) then some (.inr ()) else (Option.bind (appI (α := PosT) 88 s2.1 [({ state := r9.1, own := true } : PosT)]) fun e8 => some (.inl ((s2.1.length : Int), e8, (mset r11 (s2.1.length : Int) s2.2.1)))))) (Sum.elim (fun (v6 : Int × (List PosT) × (List (ByteArray × Int))) => (Option.bind (appI (α := MoveT) 16 s2.2.2 [({ step := (i2 : Int), to := v6.1 } : MoveT)]) fun e9 => some (.inl (v6.2.1, v6.2.2, e9)))) (fun (y6 : Unit) => some (.inr ())))))))) else some (.inl (s2.1, s2.2.1, s2.2.2))))) (Sum.elim (fun (v7 : (List PosT) × (List (ByteArray × Int)) × (List MoveT)) => some (.inl (v7.1, v7.2.1, v7.2.2))) (fun (y7 : Unit) => some (.inr (s2.1, s2.2.1, s2.2.2)))))) (v4.1, v4.2.1, v4.2.2)) (Sum.elim (fun (s2 : (List PosT) × (List (ByteArray × Int)) × (List MoveT)) => some (.inl (s2.1, s2.2.1, s2.2.2))) (fun (y8 : (List PosT) × (List (ByteArray × Int)) × (List MoveT)) => some (.inr ()))))) (fun (y5 : Unit) => some (.inr ()))))) (Sum.elim (fun (y2 : Unit) => some (.inr ())) (fun (y3 : (List PosT) × (List (ByteArray × Int)) × (List MoveT)) => some (.inl (y3.1, y3.2.1, y3.2.2)))))))) (Sum.elim (fun (v8 : (List PosT) × (List (ByteArray × Int)) × (List MoveT)) => (Option.bind (appI (α := List MoveT) 24 s1.2.2.1 [v8.2.2]) fun e10 => some (.inl ((IntKind.i64.wrap (s1.1 + 1)), v8.1, e10, v8.2.1)))) (fun (y9 : Unit) => some (.inr (.inr ()))))) else some (.inr (.inl (s1.2.1, s1.2.2.1))))) 40 (0, [({ state := r2, own := p.own } : PosT)], [], (mset r3 0 []))) (Sum.elim (fun (y10 : (List PosT) × (List (List MoveT))) => some (.inl (y10.1, y10.2))) (fun (y11 : Unit) => some (.inr ())))) (Sum.elim (fun (v9 : (List PosT) × (List (List MoveT))) => some (({ party := party, positions := v9.1, moves := v9.2 } : ArenaT), 0)) (fun (y12 : Unit) => some (({ party := 0, positions := [], moves := [] } : ArenaT), 3)))))) else some (({ party := 0, positions := [], moves := [] } : ArenaT), 1)))
theorem le_From (c : ContractT) (party : Int) (p : PosT) : Le (e_From c party p) (d_From c party p) := by
  unfold e_From d_From
  repeat' (first | with_reducible exact Le.refl _ | with_reducible exact le_text _ | with_reducible exact le_Step _ _ _ | with_reducible refine Le.bind ?_ (fun _ => ?_) | with_reducible refine Le.cond _ ?_ ?_ | with_reducible refine Le.forR (fun _ _ => ?_) _ _ | with_reducible refine Le.iter (fun _ => ?_) _ _ | with_reducible refine Le.elim (fun _ => ?_) (fun _ => ?_) _)

noncomputable def e_Build (c : ContractT) (party : Int) : Option (ArenaT × Int) :=
  (Option.bind (e_Start c) fun r1 => (bif (r1.2 == 0) then (Option.bind (e_From c party ({ state := r1.1, own := true } : PosT)) fun r2 => some (r2.1, r2.2)) else some (({ party := 0, positions := [], moves := [] } : ArenaT), r1.2)))
theorem le_Build (c : ContractT) (party : Int) : Le (e_Build c party) (d_Build c party) := by
  unfold e_Build d_Build
  repeat' (first | with_reducible exact Le.refl _ | with_reducible exact le_Start _ | with_reducible exact le_From _ _ _ | with_reducible refine Le.bind ?_ (fun _ => ?_) | with_reducible refine Le.cond _ ?_ ?_ | with_reducible refine Le.forR (fun _ _ => ?_) _ _ | with_reducible refine Le.iter (fun _ => ?_) _ _ | with_reducible refine Le.elim (fun _ => ?_) (fun _ => ?_) _)

end Go.Proofs.YtieofodomlodhaaDoor
namespace Go.Proofs.YtieofodomlodhaaDoor
set_option linter.unusedVariables false
set_option linter.unusedSimpArgs false
set_option maxRecDepth 100000

noncomputable def e_Ranks (c : ContractT) (a : ArenaT) : Option (List Int) :=
  (Option.bind (d_wellFormed c a) fun r1 => (bif r1 then (Option.bind (mkN 8 (a.positions.length : Int)) fun k1 => (Option.bind (mkN 8 (a.positions.length : Int)) fun k2 => (Option.bind (mkN 24 (a.positions.length : Int)) fun k3 => (Option.bind (forR (σ := (List Int) × (List Int) × (List (List Int)) × (List Int)) (ρ := Unit) (a.positions.length : Int) (fun i1 s1 => (Option.bind (Option.bind (idxI a.positions (i1 : Int)) fun e1 => (Option.bind (idxI a.moves (i1 : Int)) fun e2 => (Option.bind (idxN k1 (i1 : Int)) fun k4 => (Option.bind (s1.1[k4]?) fun e3 => (Option.bind (idxN k2 (i1 : Int)) fun k5 => (Option.bind (s1.2.1[k5]?) fun e4 => (Option.bind (idxI a.moves (i1 : Int)) fun e5 => (Option.bind (forR (σ := (List (List Int))) (ρ := Unit) (e5.length : Int) (fun i2 s2 => (Option.bind (idxI e5 (i2 : Int)) fun e6 => (Option.bind (nestApp s2 k3 e6.to (i1 : Int)) fun v1 => some (.inl v1)))) s1.2.2.1) (Sum.elim (fun (s2 : (List (List Int))) => (Option.bind (d_lost c e1.state a.party) fun r2 => (bif r2 then (Option.bind (idxN k1 (i1 : Int)) fun k6 => (Option.bind ((s1.1.set k4 (-1))[k6]?) fun e7 => (Option.bind (d_136b (i1 : Int) s1.2.2.2 0) fun r3 => some (((s1.1.set k4 (-1)).set k6 0), (s1.2.1.set k5 (e2.length : Int)), s2, r3)))) else some ((s1.1.set k4 (-1)), (s1.2.1.set k5 (e2.length : Int)), s2, s1.2.2.2)))) (fun _ => none)))))))))) fun (v2 : (List Int) × (List Int) × (List (List Int)) × (List Int)) => some (.inl (v2.1, v2.2.1, v2.2.2.1, v2.2.2.2)))) ((List.replicate k1 0), (List.replicate k2 0), (List.replicate k3 []), [])) (Sum.elim (fun (s1 : (List Int) × (List Int) × (List (List Int)) × (List Int)) => (Option.bind (forR (σ := (List Int) × (List Int)) (ρ := Unit) (a.positions.length : Int) (fun i3 s3 => (Option.bind (Option.bind (idxI a.positions (i3 : Int)) fun e8 => (Option.bind (bif e8.own then (Option.bind (idxN k2 (i3 : Int)) fun k7 => (Option.bind (s1.2.1[k7]?) fun e9 => (bif (e9 == 0) then (Option.bind (idxN k1 (i3 : Int)) fun k8 => (Option.bind (s3.1[k8]?) fun e10 => some (e10 == (-1)))) else some false))) else some false) fun v3 => (bif v3 then (Option.bind (d_134a (i3 : Int) 1 s3.1 k1 s3.2 0) fun r4 => some (r4.2, r4.1)) else some (s3.1, s3.2)))) fun (v4 : (List Int) × (List Int)) => some (.inl (v4.1, v4.2)))) (s1.1, s1.2.2.2)) (Sum.elim (fun (s3 : (List Int) × (List Int)) => (Option.bind (Option.bind (d_137a s3.2 0) fun r5 => (Option.bind (iterN (σ := Int × Bool × (List Int) × (List Int) × (List Int) × Int) (ρ := (List Int)) (fun s4 => (bif s4.2.1 then (Option.bind (idxN k3 s4.1) fun k9 => (Option.bind (s1.2.2.1[k9]?) fun e11 => (Option.bind (forR (σ := (List Int) × (List Int) × (List Int)) (ρ := Unit) (e11.length : Int) (fun i5 s5 => (Option.bind (idxI e11 (i5 : Int)) fun e12 => (Option.bind (d_135a e12 s4.1 s5.2.1 k2 s5.1 k1 a s5.2.2 s4.2.2.2.2.2) fun r6 => some (.inl (r6.2.1, r6.1, r6.2.2))))) (s4.2.2.1, s4.2.2.2.1, s4.2.2.2.2.1)) (Sum.elim (fun (s5 : (List Int) × (List Int) × (List Int)) => (Option.bind (d_137a s5.2.2 s4.2.2.2.2.2) fun r7 => some (.inl (r7.1, r7.2.1, s5.1, s5.2.1, s5.2.2, r7.2.2)))) (fun _ => none))))) else some (.inr s4.2.2.1))) 40 (r5.1, r5.2.1, s3.1, s1.2.1, s3.2, r5.2.2)) (fun (y1 : (List Int)) => some y1))) fun (v5 : (List Int)) => (Option.bind (eqN k1 v5.length) fun g1 => some v5))) (fun _ => none)))) (fun _ => none)))))) else some []))
theorem le_Ranks (c : ContractT) (a : ArenaT) : Le (e_Ranks c a) (d_Ranks c a) := by
  unfold e_Ranks d_Ranks
  repeat' (first | with_reducible exact Le.refl _ | with_reducible refine Le.bind ?_ (fun _ => ?_) | with_reducible refine Le.cond _ ?_ ?_ | with_reducible refine Le.forR (fun _ _ => ?_) _ _ | with_reducible refine Le.iter (fun _ => ?_) _ _ | with_reducible refine Le.elim (fun _ => ?_) (fun _ => ?_) _)

noncomputable def e_Safe (c : ContractT) (a : ArenaT) : Option (List Bool) :=
  (Option.bind (e_Ranks c a) fun r1 => (Option.bind (mkN 1 (r1.length : Int)) fun k1 => (Option.bind (forR (σ := (List Bool)) (ρ := Unit) (r1.length : Int) (fun i1 s1 => (Option.bind (idxI r1 (i1 : Int)) fun e1 => (Option.bind (idxN k1 (i1 : Int)) fun k2 => (Option.bind (s1[k2]?) fun e2 => some (.inl (s1.set k2 (e1 == (-1)))))))) (List.replicate k1 false)) (Sum.elim (fun (s1 : (List Bool)) => (Option.bind (eqN k1 s1.length) fun g1 => some s1)) (fun _ => none)))))
theorem le_Safe (c : ContractT) (a : ArenaT) : Le (e_Safe c a) (d_Safe c a) := by
  unfold e_Safe d_Safe
  repeat' (first | with_reducible exact Le.refl _ | with_reducible exact le_Ranks _ _ | with_reducible refine Le.bind ?_ (fun _ => ?_) | with_reducible refine Le.cond _ ?_ ?_ | with_reducible refine Le.forR (fun _ _ => ?_) _ _ | with_reducible refine Le.iter (fun _ => ?_) _ _ | with_reducible refine Le.elim (fun _ => ?_) (fun _ => ?_) _)

noncomputable def e_head19 : Option (Bool) :=
  (Option.bind (d_example19) fun r1 => (Option.bind (e_Build r1 0) fun r2 => (Option.bind (e_Ranks r1 r2.1) fun r3 => (Option.bind (e_Safe r1 r2.1) fun r4 => (Option.bind (e_Build r1 1) fun r5 => (Option.bind (e_Ranks r1 r5.1) fun r6 => (Option.bind (bif ((r3.length : Int) == 8) then (bif ((r4.length : Int) == 8) then (Option.bind (e_Safe r1 ({ r2.1 with party := 2 } : ArenaT)) fun r7 => (bif ((r7.length : Int) == 0) then some ((r6.length : Int) == 0) else some true)) else some true) else some true) fun v1 => (bif v1 then some false else (Option.bind (bif (r2.2 == 0) then (bif (r5.2 == 0) then (Option.bind (idxI r3 0) fun e1 => (bif (e1 == (-1)) then (Option.bind (idxI r3 1) fun e2 => (bif (e2 == 1) then (Option.bind (idxI r3 2) fun e3 => (bif (e3 == (-1)) then (Option.bind (idxI r3 3) fun e4 => (bif (e4 == 0) then (Option.bind (idxI r3 5) fun e5 => (bif (e5 == 0) then (Option.bind (idxI r4 0) fun e6 => (bif e6 then (Option.bind (idxI r4 1) fun e7 => (bif e7 then some false else (Option.bind (idxI r4 2) fun e8 => (bif e8 then (Option.bind (idxI r4 3) fun e9 => (bif e9 then some false else (Option.bind (idxI r6 0) fun e10 => some (e10 == (-1))))) else some false)))) else some false)) else some false)) else some false)) else some false)) else some false)) else some false)) else some false) else some false) fun v2 => some v2)))))))))
theorem le_head19 : Le e_head19 d_head19 := by
  unfold e_head19 d_head19
  repeat' (first | with_reducible exact Le.refl _ | with_reducible exact le_Build _ _ | with_reducible exact le_Ranks _ _ | with_reducible exact le_Safe _ _ | with_reducible refine Le.bind ?_ (fun _ => ?_) | with_reducible refine Le.cond _ ?_ ?_ | with_reducible refine Le.elim (fun _ => ?_) (fun _ => ?_) _)

theorem s_head19 : d_head19 = some true := le_head19 true (by kernel_rfl)

end Go.Proofs.YtieofodomlodhaaDoor
namespace Go.Proofs.YtieofodomlodhaaDoor
open Go.RowKit
set_option linter.unusedVariables false
set_option linter.unusedSimpArgs false
set_option maxRecDepth 100000

section
variable {c : ContractT} {party : Int} {p : PosT} {a : ArenaT}

theorem ArOk.lost (A : ArOk c party p a) {i : Nat} (hi : i < a.positions.length) : (gm c a).lost i = lostB c a.positions[i].state party := by
  show (match a.positions[i]? with | some q => lostB c q.state a.party | none => false) = _
  rw [List.getElem?_eq_getElem hi, A.pa]
theorem ArOk.own (A : ArOk c party p a) {i : Nat} (hi : i < a.positions.length) : (gm c a).own i = a.positions[i].own := by
  show (match a.positions[i]? with | some q => q.own | none => false) = _
  rw [List.getElem?_eq_getElem hi]
theorem ArOk.tgt (A : ArOk c party p a) {i : Nat} (hi : i < a.positions.length) {T : List MoveT} (hT : a.moves[i]? = some T) {m : MoveT} (hm : m ∈ T) :
    m.step ∈ movesL c party a.positions[i] ∧ 0 ≤ m.to ∧ ∃ h : m.to.toNat < a.positions.length, a.positions[m.to.toNat] = target c a.positions[i] m.step := by
  obtain ⟨T', h1, h2, h3⟩ := A.mv hi
  rw [hT] at h1; cases h1
  obtain ⟨h4, h5⟩ := h3 m hm
  obtain ⟨h6, h7⟩ := List.getElem?_eq_some_iff.1 h5
  exact ⟨by rw [← h2]; exact List.mem_map.2 ⟨m, hm, rfl⟩, h4, h6, h7⟩

theorem rank_zero {G : Gm} {r : Nat → Int} (h : RankOk G r) {i : Nat} (hi : i < G.n) : r i = 0 ↔ G.lost i = true := by
  have h0 := (h i hi).2 0
  have h1 := (h i hi).1
  constructor
  · intro e; exact h0.1 ⟨by omega, by omega⟩
  · intro e; have := h0.2 e; omega
end

theorem m_RegionBreach (c : ContractT) (party : Int) (hc : ContractT.Ok c) (hparty : InK .i64 party) : d_RegionBreach c party = some true := by
  refine Ret.eq ?_
  unfold d_RegionBreach
  refine Ret.bindE s_head19 ?_
  refine Ret.bindE (s_Tame hc) ?_
  refine Ret.ite (fun _ => ?_) (fun _ => Ret.some rfl)
  refine Ret.bind (build_r hc party) ?_
  rintro ⟨a, e⟩ hB
  rcases hB with ⟨he, ha⟩ | ⟨he, s0, _, _, A⟩
  · simp only at he ha
    subst ha
    refine Ret.bindE (ranks_arena0 c) ?_
    rw [show (((arena0, e) : ArenaT × Int).2 == 0) = false from beq_eq_false_iff_ne.2 he]
    exact Ret.bindE (v := true) rfl (Ret.some rfl)
  · simp only at he A
    subst he
    refine Ret.bind (ranks_ret hc A) ?_
    rintro r ⟨hl, hr⟩
    have hl : r.length = a.positions.length := hl
    have hr : RankOk (gm c a) (at_ r) := hr
    have hn : a.positions.length ≤ 1500 := A.F.inv.len
    have hm := A.F.len
    refine Ret.ite (fun _ => ?_) (fun h => by cases h)
    refine Ret.bindE (v := false) (by simp [hl, hm]) ?_
    refine Ret.ite (fun h => by cases h) (fun _ => ?_)
    refine Ret.bind (P := fun o : Unit ⊕ Unit => o = .inl ()) (Ret.forL (fun _ _ => True) (by omega) trivial (fun i s hi _ => ?_) (fun _ _ => rfl)) ?_
    · have hi' : i < a.positions.length := by omega
      obtain ⟨T, hT, _⟩ := A.mv hi'
      have hTl := A.len hc hi' hT
      refine Ret.bind (P := fun o : Unit ⊕ Unit => o = .inl ()) ?_ (fun o ho => by subst ho; exact Ret.some trivial)
      refine Ret.bind (P := fun o : Unit ⊕ Unit => o = .inl ()) (Ret.iter (fun k : Int => 0 ≤ k ∧ k ≤ T.length) (fun k => (T.length - k).toNat) ⟨by omega, by omega⟩ (fun k hk => ?_)) (fun o ho => by subst ho; exact Ret.some rfl)
      refine Ret.bindE (idxI_at hT) ?_
      refine Ret.ite (fun h => ?_) (fun _ => Ret.some rfl)
      have hk2 : k < T.length := of_decide_eq_true h
      obtain ⟨hkl, hke⟩ := idxI_lt hk.1 hk2
      obtain ⟨t1, t2, t3, t4⟩ := A.tgt hi' hT (List.getElem_mem hkl)
      have hri : r[i]? = some (at_ r i) := at_of (by omega)
      refine Ret.bindE (v := false) ?_ ?_
      · rw [idxI_at hri]
        simp only [Option.bind_some]
        cases hz : (at_ r i == 0) with
        | false => rfl
        | true =>
          have hz' : at_ r i = 0 := by simpa using hz
          have hlo := (rank_zero hr (i := i) hi').1 hz'
          rw [A.lost hi'] at hlo
          have hlt := lost_move hc (A.F.inv.vs _ (List.getElem_mem hi')) t1 hlo
          rw [← t4, ← A.lost t3] at hlt
          have hrt := (rank_zero hr (i := T[k.toNat].to.toNat) t3).2 hlt
          have hto : idxI r T[k.toNat].to = some 0 := by
            have := idxI_at (l := r) (i := T[k.toNat].to.toNat) (at_of (by omega))
            rw [Int.toNat_of_nonneg t2, hrt] at this; exact this
          rw [cond_true, idxI_at hT]
          simp only [Option.bind_some, hke, hto]
          rfl
      · refine Ret.ite (fun h => by cases h) (fun _ => ?_)
        rw [wrap_i64 (by omega) (by omega)]
        exact Ret.some ⟨⟨by omega, by omega⟩, by omega⟩
    · rintro _ rfl
      exact Ret.some rfl

end Go.Proofs.YtieofodomlodhaaDoor
namespace Go.Proofs.YtieofodomlodhaaDoor
open Go.ChangeShapes Go.WideShapes Go.RowKit
set_option maxRecDepth 100000

abbrev laidL : List (String × DataW Unit) := [("math/bits.deBruijn32tab", Rows.laid_math_bits_deBruijn32tab), ("math/bits.deBruijn64tab", Rows.laid_math_bits_deBruijn64tab), ("internal/strconv.uint64pow10", Rows.laid_internal_strconv_uint64pow10)]

theorem pow_data : (laidL.filter fun x => x.1 == powName) = [(powName, Lib.tabData .u64 Lib.pow10Tab)] := by kernel_rfl
theorem tabs_of_laid {W : World} (h : laidMet Tryd.prog laidL W) : C0.tabs.p W ∧ C0.tabs.n ≤ W.heap.size := by
  have h1 := h.filter (fun x => x.1 == powName)
  rw [pow_data] at h1
  have h2 : C0.tabs.p W := Lib.tabIs_of_head (g := 0) (t := ((Tryd.prog.globals[0]?).map (·.type)).getD 0) (e := 146) (n := 20)
    (by kernel_rfl) (by kernel_rfl) (by kernel_rfl) (by kernel_rfl) (by kernel_rfl) (by kernel_rfl) h1
  exact ⟨h2, tabs0_size h2⟩

def cellsD : DataW Unit → Array Value
  | .agg ds => (ds.map fun d => match d with | .lit (.int k n) => Value.int k n | _ => Value.bool false).toArray
  | _ => #[]
def setTab (w : World) (g : Nat) (d : DataW Unit) : World := { w with heap := w.heap.modify g fun | .cells _ t f => .cells (cellsD d) t f | o => o }
noncomputable def laidWorld (os : Os) : World :=
  setTab (setTab (setTab (World.holding Tryd.prog os ⟨#[], #[], []⟩) 1 Rows.laid_math_bits_deBruijn32tab) 2 Rows.laid_math_bits_deBruijn64tab) 0 Rows.laid_internal_strconv_uint64pow10

theorem laidWorld_met (os : Os) (args : Array Value) : laidMet Tryd.prog laidL ((laidWorld os).forCall (fun _ _ => 0) ⟨#[], args, []⟩).memory :=
  laidMet_of_run3 8 (by kernel_rfl) (by kernel_rfl) (by kernel_rfl)

end Go.Proofs.YtieofodomlodhaaDoor
namespace Go.Proofs.YtieofodomlodhaaDoor.LRegionBreach
open Go.ChangeShapes Go.WideShapes Go.ChangeAt Go.RowKit
set_option linter.unusedVariables false
set_option maxRecDepth 100000

theorem all (ivs : List IV) (h : HasArgs [(true, ContractT.tys), (false, [.int .i64])] ivs) : APure C0 128 ivs (.bool true) := by
  match ivs, h with
  | [x0, x1], ⟨a0, a1, _⟩ =>
    obtain ⟨row0, rfl, r0⟩ := a0
    obtain ⟨c, rfl, ok_c⟩ := ContractT.opn r0
    obtain ⟨c1, _, e1, k1, n1⟩ := hcs_cons a1
    cases e1
    obtain ⟨party, rfl, ok_party⟩ := hasC_int k1
    exact t_RegionBreach c party true (m_RegionBreach c party ok_c ok_party)

theorem own : ownKnob Tryd.prog.godebug = none := by kernel_rfl
theorem laid : laidOutB Tryd.prog = true := by kernel_rfl
theorem args : mapO (argC Tryd.prog) Tryd.f4.params.toList = some [(true, ContractT.tys), (false, [.int .i64])] := by kernel_rfl

theorem lifted (os : Os) (started : os.Started) (H : Type) (enc : TypeId × Value → H) :
    ReturnsInHanded {} Tryd.checked os 4 .any (fun w args => (Rows.regionBreachSpec.pre enc Tryd.prog Tryd.f4 [] false w args ∧ laidMet Tryd.prog laidL w) ∧ sizedMet enc Tryd.prog Tryd.f4 (OpenSpec.ofChange Rows.regionBreachSpec) false w args) (Rows.regionBreachSpec.post enc Tryd.prog Tryd.f4 false true false false) := by
  refine returnsInHanded_of_change_and (C := Tryd.checked) (X := fun w _ => laidMet Tryd.prog laidL w) (fun _ _ _ hh h => h.of_heap hh) own started (by kernel_rfl) Tryd.func4
    (ChangeSpec.witness_at (enc := enc) (C := Tryd.checked) (os := os) (X := fun w _ => laidMet Tryd.prog laidL w) false (laidWorld os) #[.agg #[.int .i64 0, .slice none 0 0, .slice none 0 0, .slice none 0 0, .slice none 0 0, .int .i64 0, .slice none 0 0], .int .i64 0] 8 rfl (by kernel_rfl) (by kernel_rfl) (by kernel_rfl) (by kernel_rfl) (by kernel_rfl) (laidWorld_met os _)) ?_
  intro W base args ds gs before hval hW _ hwt hL _
  exact law_contract (Cx := C0) (tb := 4) 128 rfl LRegionBreach.args rfl (by kernel_rfl) rfl
    (fun ds h => by match ds, h with | [_, _], _ => rfl) LRegionBreach.laid (by kernel_rfl) LRegionBreach.all W (tabs_of_laid hL) base args ds gs before hval hW hwt

theorem said : Rows.RegionBreachSaid :=
  OpenClaim.holds_of_wide 4 Tryd.f4 rfl rfl rfl rfl rfl rfl rfl ⟨rfl, rfl, rfl, rfl, rfl⟩ rfl rfl rfl rfl rfl (by kernel_rfl) Tryd.func4 (by kernel_rfl)
    (of_decide_eq_true (by kernel_rfl)) (by unfold Func.isWrapper; first | (rw [if_pos (by decide +kernel)]; kernel_rfl) | (rw [if_neg (by decide +kernel)]; exact ⟨rfl, rfl⟩))
    (fun os started H enc _ => lifted os started H enc)
theorem holds : Rows.RegionBreachCardSaid :=
  Claim7.holds_tied_plain_at .later [] [.data, .data, .data] true (true, "e89dc7465a2370576dc6e1636aed3ee2ef5394029eca9d42a3f8aa6ce1937d5c") false
    said (fun _ h => by cases h) (by kernel_rfl) (fun _ h => by cases h) regionBreach_row_tie rfl ⟨rfl, rfl⟩ (by kernel_rfl) rfl
    (fun f fn hf hfn => by
      obtain rfl : f = 4 := Option.some.inj ((show Tryd.prog.funcNamed "estoppel/estoppellaw19.RegionBreach" = some 4 by kernel_rfl).symm.trans hf) |>.symm
      obtain rfl : fn = Tryd.f4 := (Option.some.inj (Tryd.func4.symm.trans hfn)).symm
      refine ⟨by kernel_rfl, fun j t ht => ?_⟩
      have hall : (Tryd.f4.params.toList.all fun t => !(Tryd.prog.wantsStandIn t)) = true := by kernel_rfl
      have := List.all_eq_true.1 hall t (by rw [Array.mem_toList_iff]; exact Array.mem_of_getElem? ht)
      have h2 : Tryd.prog.wantsStandIn t = false := by simpa using this
      exact h2)
    (by kernel_rfl)
end Go.Proofs.YtieofodomlodhaaDoor.LRegionBreach

namespace Go.Proofs.YtieofodomlodhaaDoor
theorem regionBreach_holds : Rows.RegionBreachCardSaid := LRegionBreach.holds
end Go.Proofs.YtieofodomlodhaaDoor
