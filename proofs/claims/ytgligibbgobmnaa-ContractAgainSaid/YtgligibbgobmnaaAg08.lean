/-
  'ContractAgain': for every input the call returns true, and each argument reads afterwards as it read before.
  The law 'ContractAgain', of what the functions come to.
  What 'slices.BinarySearch' and 'contract.Part' come to.
  Plain laws: loops over lists, loops that set one place after the other, increasing lists.
  Plain laws: what a computation returns, and loops that build lists.
  Laws that the statements of layer 13 share: 'Few', and sizes of arguments.
  The laws' fixed examples: 'head' returns true.
  What 'contract.Valid' comes to.
  Plain laws about loops, searches and elements of lists.
  From readings to the data of this program's types.
-/
import Derived.Test.YtgligibbgobmnaaAg07
import Derived.Test.YtgligibbgobmnaaAg05
import Derived.Test.YtgligibbgobmnaaAg04
import Derived.Test.YtgligibbgobmnaaRows
import Derived.JoinedOf
namespace Go.Proofs.Ytgligibbgobmnaa
open Go.RowKit
set_option linter.unusedVariables false

def Ratio.tys : List CTy := [.int .i64, .int .i64]
structure Ratio.Ok (x : Ratio) : Prop where
  num : InK .i64 x.num
  den : InK .i64 x.den
theorem Ratio.opn {row : List IV} (h : HasCs Ratio.tys row) : ∃ x : Ratio, row = Ratio.row x ∧ Ratio.Ok x := by
  obtain ⟨c0, _, rfl, h0, h⟩ := hcs_cons h
  obtain ⟨c1, _, rfl, h1, h⟩ := hcs_cons h
  obtain rfl := hcs_nil h
  obtain ⟨v0, rfl, k0⟩ := hasC_int h0
  obtain ⟨v1, rfl, k1⟩ := hasC_int h1
  exact ⟨⟨v0, v1⟩, rfl, ⟨k0, k1⟩⟩

def UnitT.tys : List CTy := [.str, .int .i64, .int .i64, .int .i64, .int .i64]
structure UnitT.Ok (x : UnitT) : Prop where
  name : x.name.size ≤ reachBytes
  kind : InK .i64 x.kind
  base : InK .i64 x.base
  factor : Ratio.Ok x.factor
theorem UnitT.opn {row : List IV} (h : HasCs UnitT.tys row) : ∃ x : UnitT, row = UnitT.row x ∧ UnitT.Ok x := by
  obtain ⟨c0, _, rfl, h0, h⟩ := hcs_cons h
  obtain ⟨c1, _, rfl, h1, h⟩ := hcs_cons h
  obtain ⟨c2, _, rfl, h2, h⟩ := hcs_cons h
  obtain ⟨c3, _, rfl, h3, h⟩ := hcs_cons h
  obtain ⟨c4, _, rfl, h4, h⟩ := hcs_cons h
  obtain rfl := hcs_nil h
  obtain ⟨v0, rfl, k0⟩ := hasC_str h0
  obtain ⟨v1, rfl, k1⟩ := hasC_int h1
  obtain ⟨v2, rfl, k2⟩ := hasC_int h2
  obtain ⟨v3, rfl, k3⟩ := hasC_int h3
  obtain ⟨v4, rfl, k4⟩ := hasC_int h4
  exact ⟨⟨v0, v1, v2, ⟨v3, v4⟩⟩, rfl, ⟨k0, k1, k2, ⟨k3, k4⟩⟩⟩

def ActT.tys : List CTy := [.int .i64, .int .i64, .int .i64, .int .i64, .int .i64, .int .i64, .int .i64]
structure ActT.Ok (x : ActT) : Prop where
  kind : InK .i64 x.kind
  role : InK .i64 x.role
  give : InK .i64 x.give
  to : InK .i64 x.to
  unit : InK .i64 x.unit
  lot : Ratio.Ok x.lot
theorem ActT.opn {row : List IV} (h : HasCs ActT.tys row) : ∃ x : ActT, row = ActT.row x ∧ ActT.Ok x := by
  obtain ⟨c0, _, rfl, h0, h⟩ := hcs_cons h
  obtain ⟨c1, _, rfl, h1, h⟩ := hcs_cons h
  obtain ⟨c2, _, rfl, h2, h⟩ := hcs_cons h
  obtain ⟨c3, _, rfl, h3, h⟩ := hcs_cons h
  obtain ⟨c4, _, rfl, h4, h⟩ := hcs_cons h
  obtain ⟨c5, _, rfl, h5, h⟩ := hcs_cons h
  obtain ⟨c6, _, rfl, h6, h⟩ := hcs_cons h
  obtain rfl := hcs_nil h
  obtain ⟨v0, rfl, k0⟩ := hasC_int h0
  obtain ⟨v1, rfl, k1⟩ := hasC_int h1
  obtain ⟨v2, rfl, k2⟩ := hasC_int h2
  obtain ⟨v3, rfl, k3⟩ := hasC_int h3
  obtain ⟨v4, rfl, k4⟩ := hasC_int h4
  obtain ⟨v5, rfl, k5⟩ := hasC_int h5
  obtain ⟨v6, rfl, k6⟩ := hasC_int h6
  exact ⟨⟨v0, v1, v2, v3, v4, ⟨v5, v6⟩⟩, rfl, ⟨k0, k1, k2, k3, k4, ⟨k5, k6⟩⟩⟩

def CondT.tys : List CTy := [.int .i64, .int .i64]
structure CondT.Ok (x : CondT) : Prop where
  clause : InK .i64 x.clause
  is : InK .i64 x.is
theorem CondT.opn {row : List IV} (h : HasCs CondT.tys row) : ∃ x : CondT, row = CondT.row x ∧ CondT.Ok x := by
  obtain ⟨c0, _, rfl, h0, h⟩ := hcs_cons h
  obtain ⟨c1, _, rfl, h1, h⟩ := hcs_cons h
  obtain rfl := hcs_nil h
  obtain ⟨v0, rfl, k0⟩ := hasC_int h0
  obtain ⟨v1, rfl, k1⟩ := hasC_int h1
  exact ⟨⟨v0, v1⟩, rfl, ⟨k0, k1⟩⟩

def ClauseT.tys : List CTy := [.int .i64, .int .i64, .int .i64, .int .i64, .slice 16 CondT.tys, .int .i64, .int .i64, .bool, .bool, .int .i64, .int .i64, .int .i64, .int .i64, .int .i64, .int .i64, .bool]
structure ClauseT.Ok (x : ClauseT) : Prop where
  kind : InK .i64 x.kind
  role : InK .i64 x.role
  act : InK .i64 x.act
  need : InK .i64 x.need
  start : LOk 16 CondT.Ok x.start
  after : InK .i64 x.after
  grace : InK .i64 x.grace
  pause : InK .i64 x.pause
  resume : InK .i64 x.resume
  value : Ratio.Ok x.value
  unit : InK .i64 x.unit
  to : InK .i64 x.to
theorem ClauseT.opn {row : List IV} (h : HasCs ClauseT.tys row) : ∃ x : ClauseT, row = ClauseT.row x ∧ ClauseT.Ok x := by
  obtain ⟨c0, _, rfl, h0, h⟩ := hcs_cons h
  obtain ⟨c1, _, rfl, h1, h⟩ := hcs_cons h
  obtain ⟨c2, _, rfl, h2, h⟩ := hcs_cons h
  obtain ⟨c3, _, rfl, h3, h⟩ := hcs_cons h
  obtain ⟨c4, _, rfl, h4, h⟩ := hcs_cons h
  obtain ⟨c5, _, rfl, h5, h⟩ := hcs_cons h
  obtain ⟨c6, _, rfl, h6, h⟩ := hcs_cons h
  obtain ⟨c7, _, rfl, h7, h⟩ := hcs_cons h
  obtain ⟨c8, _, rfl, h8, h⟩ := hcs_cons h
  obtain ⟨c9, _, rfl, h9, h⟩ := hcs_cons h
  obtain ⟨c10, _, rfl, h10, h⟩ := hcs_cons h
  obtain ⟨c11, _, rfl, h11, h⟩ := hcs_cons h
  obtain ⟨c12, _, rfl, h12, h⟩ := hcs_cons h
  obtain ⟨c13, _, rfl, h13, h⟩ := hcs_cons h
  obtain ⟨c14, _, rfl, h14, h⟩ := hcs_cons h
  obtain ⟨c15, _, rfl, h15, h⟩ := hcs_cons h
  obtain rfl := hcs_nil h
  obtain ⟨v0, rfl, k0⟩ := hasC_int h0
  obtain ⟨v1, rfl, k1⟩ := hasC_int h1
  obtain ⟨v2, rfl, k2⟩ := hasC_int h2
  obtain ⟨v3, rfl, k3⟩ := hasC_int h3
  obtain ⟨v4, rfl, k4⟩ := hasC_slice @CondT.opn h4
  obtain ⟨v5, rfl, k5⟩ := hasC_int h5
  obtain ⟨v6, rfl, k6⟩ := hasC_int h6
  obtain ⟨v7, rfl⟩ := hasC_bool h7
  obtain ⟨v8, rfl⟩ := hasC_bool h8
  obtain ⟨v9, rfl, k9⟩ := hasC_int h9
  obtain ⟨v10, rfl, k10⟩ := hasC_int h10
  obtain ⟨v11, rfl, k11⟩ := hasC_int h11
  obtain ⟨v12, rfl, k12⟩ := hasC_int h12
  obtain ⟨v13, rfl, k13⟩ := hasC_int h13
  obtain ⟨v14, rfl, k14⟩ := hasC_int h14
  obtain ⟨v15, rfl⟩ := hasC_bool h15
  exact ⟨⟨v0, v1, v2, v3, v4, v5, v6, v7, v8, v9, v10, ⟨v11, v12⟩, v13, v14, v15⟩, rfl, ⟨k0, k1, k2, k3, k4, k5, k6, k9, k10, ⟨k11, k12⟩, k13, k14⟩⟩

def ContractT.tys : List CTy := [.int .i64, .slice 8 [.int .i64], .slice 48 UnitT.tys, .slice 56 ActT.tys, .slice 136 ClauseT.tys, .int .i64, .slice 8 [.int .i64]]
structure ContractT.Ok (x : ContractT) : Prop where
  parties : InK .i64 x.parties
  holders : LOk 8 (fun x : Int => InK .i64 x) x.holders
  units : LOk 48 UnitT.Ok x.units
  acts : LOk 56 ActT.Ok x.acts
  clauses : LOk 136 ClauseT.Ok x.clauses
  days : InK .i64 x.days
  off : LOk 8 (fun x : Int => InK .i64 x) x.off
theorem ContractT.opn {row : List IV} (h : HasCs ContractT.tys row) : ∃ x : ContractT, row = ContractT.row x ∧ ContractT.Ok x := by
  obtain ⟨c0, _, rfl, h0, h⟩ := hcs_cons h
  obtain ⟨c1, _, rfl, h1, h⟩ := hcs_cons h
  obtain ⟨c2, _, rfl, h2, h⟩ := hcs_cons h
  obtain ⟨c3, _, rfl, h3, h⟩ := hcs_cons h
  obtain ⟨c4, _, rfl, h4, h⟩ := hcs_cons h
  obtain ⟨c5, _, rfl, h5, h⟩ := hcs_cons h
  obtain ⟨c6, _, rfl, h6, h⟩ := hcs_cons h
  obtain rfl := hcs_nil h
  obtain ⟨v0, rfl, k0⟩ := hasC_int h0
  obtain ⟨v1, rfl, k1⟩ := hasC_slice open_i64 h1
  obtain ⟨v2, rfl, k2⟩ := hasC_slice @UnitT.opn h2
  obtain ⟨v3, rfl, k3⟩ := hasC_slice @ActT.opn h3
  obtain ⟨v4, rfl, k4⟩ := hasC_slice @ClauseT.opn h4
  obtain ⟨v5, rfl, k5⟩ := hasC_int h5
  obtain ⟨v6, rfl, k6⟩ := hasC_slice open_i64 h6
  exact ⟨⟨v0, v1, v2, v3, v4, v5, v6⟩, rfl, ⟨k0, k1, k2, k3, k4, k5, k6⟩⟩

end Go.Proofs.Ytgligibbgobmnaa
namespace Go.Proofs.Ytgligibbgobmnaa
set_option linter.unusedVariables false
set_option linter.unusedSimpArgs false

def OutP {σ ρ : Type} (A : σ → Prop) (Q : ρ → Prop) : σ ⊕ ρ → Prop
  | .inl s => A s
  | .inr r => Q r

theorem forFrom_rule {σ ρ : Type} {f : Nat → σ → Option (σ ⊕ ρ)} {Inv : Nat → σ → Prop} {Q : ρ → Prop} (n : Nat)
    (step : ∀ (i : Nat) (s : σ), i < n → Inv i s → ∃ o, f i s = some o ∧ OutP (Inv (i + 1)) Q o) :
    ∀ (k i : Nat) (s : σ), i + k = n → Inv i s → ∃ o, forFrom f i k s = some o ∧ OutP (Inv n) Q o
  | 0, i, s, h, hi => ⟨.inl s, rfl, by obtain rfl : i = n := by omega
                                       exact hi⟩
  | k + 1, i, s, h, hi => by
    obtain ⟨o, h1, h2⟩ := step i s (by omega) hi
    simp only [forFrom, h1]
    cases o with
    | inl s' => exact forFrom_rule n step k (i + 1) s' (by omega) h2
    | inr r => exact ⟨.inr r, rfl, h2⟩

theorem forR_rule {σ ρ : Type} {f : Nat → σ → Option (σ ⊕ ρ)} {n : Int} {s0 : σ} (Inv : Nat → σ → Prop) (Q : ρ → Prop) (hn : n < 4611686018427387904)
    (h0 : Inv 0 s0) (step : ∀ (i : Nat) (s : σ), (i : Int) < n → Inv i s → ∃ o, f i s = some o ∧ OutP (Inv (i + 1)) Q o) :
    ∃ o, forR n f s0 = some o ∧ OutP (Inv n.toNat) Q o := by
  rw [forR_pos hn]
  exact forFrom_rule n.toNat (fun i s hi => step i s (by omega)) n.toNat 0 s0 (by omega) h0

theorem forR_ruleL {σ ρ : Type} {f : Nat → σ → Option (σ ⊕ ρ)} {n : Nat} {s0 : σ} (Inv : Nat → σ → Prop) (Q : ρ → Prop) (hn : n < 4611686018427387904)
    (h0 : Inv 0 s0) (step : ∀ (i : Nat) (s : σ), i < n → Inv i s → ∃ o, f i s = some o ∧ OutP (Inv (i + 1)) Q o) :
    ∃ o, forR (n : Int) f s0 = some o ∧ OutP (Inv n) Q o := by
  have := forR_rule (n := (n : Int)) Inv Q (by omega) h0 (fun i s hi => step i s (by omega))
  simpa using this

theorem iter_rule {σ ρ : Type} {f : σ → Option (σ ⊕ ρ)} (Inv : σ → Prop) (Q : ρ → Prop) (m : σ → Nat)
    (step : ∀ s, Inv s → ∃ o, f s = some o ∧ OutP (fun s' => Inv s' ∧ m s' < m s) Q o) : ∀ s0, Inv s0 → ∃ r, iter f s0 = some r ∧ Q r := by
  have key : ∀ (k : Nat) (s : σ), m s < k → Inv s → ∃ r, iter f s = some r ∧ Q r := by
    intro k
    induction k with
    | zero => intro s h; omega
    | succ k ih =>
      intro s hk hs
      obtain ⟨o, h1, h2⟩ := step s hs
      rw [iter_eq, h1]
      cases o with
      | inl s' => exact ih s' (by have := h2.2; omega) h2.1
      | inr r => exact ⟨r, rfl, h2⟩
  exact fun s0 h => key _ s0 (Nat.lt_succ_self _) h

theorem forFrom_first {ρ : Type} {f : Nat → Unit → Option (Unit ⊕ ρ)} {p : Nat → Bool} {g : Nat → ρ} : ∀ (k i : Nat), (∀ j, i ≤ j → j < i + k → f j () = some (bif p j then .inl () else .inr (g j))) →
    forFrom f i k () = some (match (List.range' i k).find? (fun j => !p j) with | none => .inl () | some j => .inr (g j))
  | 0, i, h => rfl
  | k + 1, i, h => by
    simp only [forFrom, h i (Nat.le_refl _) (by omega), List.range'_succ, List.find?_cons]
    cases hp : p i with
    | true =>
      simp only [cond_true, Bool.not_true]
      exact forFrom_first k (i + 1) fun j h1 h2 => h j (by omega) (by omega)
    | false => simp

theorem forR_first {ρ : Type} {f : Nat → Unit → Option (Unit ⊕ ρ)} {n : Nat} (p : Nat → Bool) (g : Nat → ρ) (hn : n < 4611686018427387904) (h : ∀ j, j < n → f j () = some (bif p j then .inl () else .inr (g j))) :
    forR (n : Int) f () = some (match (List.range n).find? (fun j => !p j) with | none => .inl () | some j => .inr (g j)) := by
  rw [forR_pos (by omega)]
  have := forFrom_first (f := f) (p := p) (g := g) n 0 (fun j _ h2 => h j (by omega))
  simpa [List.range_eq_range'] using this

theorem find_none {n : Nat} {p : Nat → Bool} (h : (List.range n).find? (fun j => !p j) = none) : ∀ j, j < n → p j = true := fun j hj => by
  have := List.find?_eq_none.1 h j (List.mem_range.2 hj)
  simpa using this
theorem find_none_of {n : Nat} {p : Nat → Bool} (h : ∀ j, j < n → p j = true) : (List.range n).find? (fun j => !p j) = none :=
  List.find?_eq_none.2 fun j hj => by simp [h j (List.mem_range.1 hj)]
theorem find_range' {q : Nat → Bool} : ∀ (k a i : Nat), (List.range' a k).find? q = some i → i < a + k ∧ a ≤ i ∧ q i = true ∧ ∀ j, a ≤ j → j < i → q j = false
  | 0, a, i, h => by simp at h
  | k + 1, a, i, h => by
    rw [List.range'_succ, List.find?_cons] at h
    split at h
    · rename_i hq
      cases h
      exact ⟨by omega, Nat.le_refl _, hq, fun j h1 h2 => by omega⟩
    · rename_i hq
      obtain ⟨h1, h2, h3, h4⟩ := find_range' k (a + 1) i h
      exact ⟨by omega, by omega, h3, fun j h5 h6 => by
        rcases Nat.eq_or_lt_of_le h5 with h7 | h7
        · subst h7; exact hq
        · exact h4 j (by omega) h6⟩
theorem find_some {n i : Nat} {p : Nat → Bool} (h : (List.range n).find? (fun j => !p j) = some i) : i < n ∧ p i = false ∧ ∀ j, j < i → p j = true := by
  rw [List.range_eq_range'] at h
  obtain ⟨h1, _, h2, h3⟩ := find_range' n 0 i h
  exact ⟨by omega, by simpa using h2, fun j hj => by simpa using h3 j (Nat.zero_le _) hj⟩
theorem cond_some {α : Type} (b : Bool) (x y : α) : (bif b then some x else some y) = some (bif b then x else y) := by cases b <;> rfl
theorem idxI_at {α : Type} {l : List α} {i : Nat} {e : α} (h : l[i]? = some e) : idxI l (i : Int) = some e := by
  unfold idxI; rw [if_pos (by omega)]; simpa using h
theorem idxI_nat' {α : Type} (l : List α) (i : Nat) : idxI l (i : Int) = l[i]? := by
  unfold idxI; rw [if_pos (by omega)]; simp
theorem idxI_lt {α : Type} {l : List α} {n : Int} (h0 : 0 ≤ n) (h1 : n < l.length) : ∃ h : n.toNat < l.length, idxI l n = some l[n.toNat] := by
  have h : n.toNat < l.length := by omega
  exact ⟨h, by unfold idxI; rw [if_pos h0]; exact List.getElem?_eq_getElem h⟩
theorem idxI_neg {α : Type} {l : List α} {n : Int} (h : ¬ (0 ≤ n ∧ n < l.length)) : idxI l n = none := by
  unfold idxI
  split
  · exact List.getElem?_eq_none (by omega)
  · rfl
theorem idxN_nat {len i : Nat} (h : i < len) : idxN len (i : Int) = some i := by unfold idxN; rw [if_pos ⟨by omega, by omega⟩]; simp
end Go.Proofs.Ytgligibbgobmnaa
namespace Go.Proofs.Ytgligibbgobmnaa
set_option linter.unusedVariables false
set_option linter.unusedSimpArgs false
set_option maxRecDepth 100000

theorem gcd_total (a b : Int) : ∃ r, iter (σ := Int × Int) (ρ := Int) (fun s2 => (bif (s2.2 == 0) then some (.inr s2.1) else (Option.bind (remI .u64 s2.1 s2.2) fun e2 => some (.inl (s2.2, e2))))) (a, b) = some r := by
  have := iter_rule (f := fun s2 : Int × Int => (bif (s2.2 == 0) then some (.inr s2.1) else (Option.bind (remI .u64 s2.1 s2.2) fun e2 => some (.inl (s2.2, e2))))) (fun _ => True) (fun _ : Int => True) (fun s => s.2.natAbs) (fun s _ => by
    by_cases h : s.2 = 0
    · exact ⟨.inr s.1, by simp [h], trivial⟩
    · refine ⟨.inl (s.2, s.1.tmod s.2), by simp [beq_eq_false_iff_ne.2 h, h, remI], trivial, ?_⟩
      show (s.1.tmod s.2).natAbs < s.2.natAbs
      rw [Int.natAbs_tmod]
      exact Nat.mod_lt _ (by omega)) (a, b) trivial
  obtain ⟨r, h, _⟩ := this
  exact ⟨r, h⟩

theorem divisor_total (l : List Int) (hl : l.length < 1000) : ∃ r, d_divisor l = some r := by
  unfold d_divisor
  obtain ⟨o, h1, h2⟩ := forR_ruleL (n := l.length) (s0 := (0 : Int)) (f := (fun i1 s1 => (Option.bind (Option.bind (idxI l (i1 : Int)) fun e1 => (Option.bind (iter (σ := Int × Int) (ρ := Int) (fun s2 => (bif (s2.2 == 0) then some (.inr s2.1) else (Option.bind (remI .u64 s2.1 s2.2) fun e2 => some (.inl (s2.2, e2))))) (s1, e1)) (fun (y1 : Int) => some y1))) fun (v1 : Int) => some (.inl v1)))) (fun _ _ => True) (fun _ : Unit => False) (by omega) trivial (fun i s hi _ => by
    obtain ⟨r, hr⟩ := gcd_total s l[i]
    exact ⟨.inl r, by simp only [idxI_nat', List.getElem?_eq_getElem hi, Option.bind_some, hr], trivial⟩)
  rw [h1]
  cases o with
  | inl s => exact ⟨s, rfl⟩
  | inr r => exact h2.elim

theorem magnitude_total (n : Int) : ∃ r, d_magnitude n = some r := by
  unfold d_magnitude; simp only [cond_some]; exact ⟨_, rfl⟩

noncomputable def rvB (r : Ratio) : Bool := (d_ratioValid r).getD false
theorem s_ratioValid (r : Ratio) : d_ratioValid r = some (rvB r) := by
  have : ∃ b, d_ratioValid r = some b := by
    unfold d_ratioValid
    obtain ⟨a, ha⟩ := magnitude_total r.num
    obtain ⟨b, hb⟩ := magnitude_total r.den
    obtain ⟨g, hg⟩ := divisor_total [a, b] (by simp)
    simp only [ha, hb, hg, cond_some, Option.bind_some]
    exact ⟨_, rfl⟩
  obtain ⟨b, hb⟩ := this
  unfold rvB; rw [hb]; rfl

def snd0 (x : Option (Int × Bool)) : Bool := (x.getD (0, false)).2
theorem snd0_of {x : Option (Int × Bool)} {r : Int × Bool} (h : x = some r) : x = some (r.1, snd0 x) := by subst h; rfl
noncomputable def quB (l : List UnitT) : Bool := snd0 (d_quantityValid l)
theorem unitValid_total (t : List UnitT) (i : Nat) (hi : i < t.length) (ht : t.length < 1000) : ∃ b, d_unitValid t i = some b := by
  unfold d_unitValid
  have hs : slcI t 0 (i : Int) = some (t.take i) := by
    unfold slcI; rw [if_pos ⟨by omega, by omega, by omega⟩]; simp
  have hf : forR (σ := Unit) (ρ := Unit) ((t.take i).length : Int) (fun i1 s1 => (Option.bind (idxI (t.take i) (i1 : Int)) fun e3 => (bif (e3.name.toList == t[i].name.toList) then some (.inr ()) else some (.inl ())))) () = some (match (List.range (t.take i).length).find? (fun j => !(match (t.take i)[j]? with | some e => !(e.name.toList == t[i].name.toList) | none => true)) with | none => .inl () | some j => .inr ()) := by
    refine forR_first _ (fun _ => ()) (by simp; omega) (fun j hj => ?_)
    simp only [idxI_nat', List.getElem?_eq_getElem hj, Option.bind_some]
    cases ((t.take i)[j].name.toList == t[i].name.toList) <;> rfl
  rw [idxI_at (List.getElem?_eq_getElem hi)]
  simp only [Option.bind_some]
  rw [hs]
  simp only [Option.bind_some]
  rw [hf]
  simp only [s_ratioValid, cond_some, Option.bind_some, d_isIndex]
  split
  all_goals simp only [Sum.elim_inl, Sum.elim_inr, cond_some]
  · by_cases hb : 0 ≤ t[i].base ∧ t[i].base < t.length
    · obtain ⟨h1, h2⟩ := idxI_lt hb.1 hb.2
      simp only [h2, Option.bind_some, cond_some]
      exact ⟨_, rfl⟩
    · by_cases h1 : 0 ≤ t[i].base
      · have : ¬ t[i].base < t.length := fun h => hb ⟨h1, h⟩
        simp only [h1, this, decide_true, decide_false, cond_true, cond_false, Option.bind_some, cond_some]
        exact ⟨_, rfl⟩
      · simp only [h1, decide_false, cond_false, Option.bind_some, cond_some]
        exact ⟨_, rfl⟩
  · exact ⟨_, rfl⟩

theorem s_quantityValid (l : List UnitT) (hl : l.length < 1000) : ∃ k, d_quantityValid l = some (k, quB l) := by
  have : ∃ r, d_quantityValid l = some r := by
    unfold d_quantityValid
    obtain ⟨o, h1, h2⟩ := forR_ruleL (n := l.length) (s0 := ()) (f := (fun i1 s1 => (Option.bind (d_unitValid l (i1 : Int)) fun r1 => (bif r1 then some (.inl ()) else some (.inr (i1 : Int)))))) (fun _ _ => True) (fun _ : Int => True) (by omega) trivial (fun i s hi _ => by
      obtain ⟨b, hb⟩ := unitValid_total l i hi hl
      cases b with
      | true => exact ⟨.inl (), by simp [hb], trivial⟩
      | false => exact ⟨.inr i, by simp [hb], trivial⟩)
    rw [h1]
    cases o with
    | inl s => exact ⟨_, rfl⟩
    | inr r => exact ⟨_, rfl⟩
  obtain ⟨r, hr⟩ := this
  exact ⟨r.1, snd0_of hr⟩

def movB (nh : Nat) (r : Int) : Bool := decide (0 ≤ r) && decide (r < nh)
theorem s_movable (c : ContractT) (r : Int) : d_movable c r = some (movB c.holders.length r) := by
  simp only [d_movable, cond_some, Option.bind_some, movB, Bool.cond_false_right]
noncomputable def posB (r : Ratio) : Bool := decide (0 < r.num) && rvB r
theorem s_positive (r : Ratio) : d_positive r = some (posB r) := by
  simp only [d_positive, s_ratioValid, cond_some, Option.bind_some, posB, Bool.cond_false_right]
def noneB (r : Ratio) : Bool := r.num == 0 && (r.den == 1 && true)
noncomputable def actB (nh nu : Nat) (parties : Int) (a : ActT) : Bool :=
  bif movB nh a.role then
    (bif a.kind == 1 then (a.give == 0 && (a.to == -1 || movB nh a.to)) && (bif a.unit == -1 then noneB a.lot else (decide (0 ≤ a.unit) && (decide (a.unit < nu) && posB a.lot)))
    else (a.kind == 2 || a.kind == 3) && (movB nh a.give && (decide (0 ≤ a.to) && (decide (a.to < parties) && (a.unit == -1 && noneB a.lot)))))
  else a.kind == 1 && (a.role == -1 && (a.give == 0 && ((a.to == -1 || movB nh a.to) && (a.unit == -1 && noneB a.lot))))
theorem s_validAct (c : ContractT) (a : ActT) : d_validAct c a = some (actB c.holders.length c.units.length c.parties a) := by
  simp only [d_validAct, s_movable, s_positive, d_none, Option.bind_some, cond_some, actB, noneB]
  cases movB c.holders.length a.role <;> cases (a.kind == 1) <;> cases (a.give == 0) <;> cases (a.to == -1) <;> cases (movB c.holders.length a.to) <;> cases (a.unit == -1) <;>
    simp only [cond_true, cond_false, Bool.not_true, Bool.not_false, Option.bind_some, Bool.true_or, Bool.false_or, Bool.true_and, Bool.false_and, cond_some, Bool.cond_false_right, Bool.cond_self, Bool.and_false] <;>
    first | rfl | (cases (a.role == -1) <;> rfl) | (cases (a.kind == 2) <;> rfl)

def heldB (parties : Int) (hs : List Int) : Bool := hs.all fun h => decide (0 ≤ h) && decide (h < parties)
theorem s_held (c : ContractT) (hp : c.parties < 4611686018427387904) (hl : c.holders.length < 4611686018427387904) : d_held c = some (heldB c.parties c.holders) := by
  unfold d_held
  have hin : ∀ (i : Nat) (hi : i < c.holders.length), (Option.bind (α := Unit ⊕ Unit) (Option.bind (forR (σ := Unit) (ρ := Unit) c.parties (fun i2 s2 => (Option.bind (idxI c.holders (i : Int)) fun e1 => (bif (e1 == (i2 : Int)) then some (.inr ()) else some (.inl ())))) ()) (Sum.elim (fun (s2 : Unit) => some (.inr ())) (fun (y1 : Unit) => some (.inl ())))) (Sum.elim (fun (v1 : Unit) => some (.inl ())) (fun (y2 : Unit) => some (.inr ())))) =
      some (bif decide (0 ≤ c.holders[i]) && decide (c.holders[i] < c.parties) then (.inl () : Unit ⊕ Unit) else .inr ()) := fun i hi => by
    obtain ⟨o, h1, h2⟩ := forR_rule (n := c.parties) (s0 := ()) (f := (fun i2 s2 => (Option.bind (idxI c.holders (i : Int)) fun e1 => (bif (e1 == (i2 : Int)) then some (.inr ()) else some (.inl ()))))) (fun k _ => ∀ j : Nat, j < k → c.holders[i] ≠ (j : Int)) (fun _ : Unit => 0 ≤ c.holders[i] ∧ c.holders[i] < c.parties) hp (fun j hj => by omega) (fun k s hk hI => by
      simp only [idxI_nat', List.getElem?_eq_getElem hi, Option.bind_some]
      by_cases he : c.holders[i] = (k : Int)
      · exact ⟨.inr (), by simp [he], by show 0 ≤ c.holders[i] ∧ c.holders[i] < c.parties; omega⟩
      · refine ⟨.inl (), by rw [beq_eq_false_iff_ne.2 he]; rfl, fun j hj => ?_⟩
        rcases Nat.lt_or_ge j k with h | h
        · exact hI j h
        · obtain rfl : j = k := by omega
          exact he)
    rw [h1]
    cases o with
    | inl s =>
      have : ¬ (0 ≤ c.holders[i] ∧ c.holders[i] < c.parties) := fun h => h2 c.holders[i].toNat (by omega) (by omega)
      have hb : (decide (0 ≤ c.holders[i]) && decide (c.holders[i] < c.parties)) = false := by
        rw [Bool.eq_false_iff]; simp only [ne_eq, Bool.and_eq_true, decide_eq_true_eq]; exact this
      rw [hb]; rfl
    | inr r =>
      have hb : (decide (0 ≤ c.holders[i]) && decide (c.holders[i] < c.parties)) = true := by
        simp only [Bool.and_eq_true, decide_eq_true_eq]; exact h2
      rw [hb]; rfl
  rw [forR_first (fun i => match c.holders[i]? with | some h => decide (0 ≤ h) && decide (h < c.parties) | none => true) (fun _ => ()) hl (fun i hi => by
    rw [hin i hi]; simp only [List.getElem?_eq_getElem hi])]
  cases hf : (List.range c.holders.length).find? (fun j => !(match c.holders[j]? with | some h => decide (0 ≤ h) && decide (h < c.parties) | none => true)) with
  | none =>
    simp only [Option.bind_some, Sum.elim_inl]
    have : heldB c.parties c.holders = true := List.all_eq_true.2 fun h hh => by
      obtain ⟨i, hi, rfl⟩ := List.getElem_of_mem hh
      have := find_none hf i hi
      simpa only [List.getElem?_eq_getElem hi] using this
    rw [this]
  | some k =>
    simp only [Option.bind_some, Sum.elim_inr]
    obtain ⟨h1, h2, _⟩ := find_some hf
    have : heldB c.parties c.holders = false := by
      rw [Bool.eq_false_iff]
      intro h
      have := List.all_eq_true.1 h c.holders[k] (List.getElem_mem h1)
      simp only [List.getElem?_eq_getElem h1] at h2
      rw [h2] at this; cases this
    rw [this]

noncomputable def offB (days : Int) (off : List Int) : Bool := ((Option.bind (forR (σ := Int) (ρ := Unit) (off.length : Int) (fun i2 s2 => (Option.bind (idxI off (i2 : Int)) fun e2 => (Option.bind (bif decide (e2 ≤ s2) then some true else some (decide (days ≤ e2))) fun v2 => (bif v2 then some (.inr ()) else some (.inl e2))))) (-1)) (Sum.elim (fun (s2 : Int) => some true) (fun (y2 : Unit) => some false)))).getD false
theorem s_off (days : Int) (off : List Int) (hl : off.length < 4611686018427387904) : (Option.bind (forR (σ := Int) (ρ := Unit) (off.length : Int) (fun i2 s2 => (Option.bind (idxI off (i2 : Int)) fun e2 => (Option.bind (bif decide (e2 ≤ s2) then some true else some (decide (days ≤ e2))) fun v2 => (bif v2 then some (.inr ()) else some (.inl e2))))) (-1)) (Sum.elim (fun (s2 : Int) => some true) (fun (y2 : Unit) => some false))) = some (offB days off) := by
  obtain ⟨o, h1, h2⟩ := forR_ruleL (n := off.length) (s0 := (-1 : Int)) (f := (fun i2 s2 => (Option.bind (idxI off (i2 : Int)) fun e2 => (Option.bind (bif decide (e2 ≤ s2) then some true else some (decide (days ≤ e2))) fun v2 => (bif v2 then some (.inr ()) else some (.inl e2)))))) (fun _ _ => True) (fun _ : Unit => True) hl trivial (fun i s hi _ => by
    simp only [idxI_nat', List.getElem?_eq_getElem hi, Option.bind_some, cond_some]
    cases (bif decide (off[i] ≤ s) then true else decide (days ≤ off[i])) with
    | true => exact ⟨.inr (), rfl, trivial⟩
    | false => exact ⟨.inl _, rfl, trivial⟩)
  unfold offB
  rw [h1]
  cases o <;> rfl

noncomputable def framedB (c : ContractT) : Bool :=
  !(decide (c.parties < 1)) && (!(decide (c.days < 1)) && (!((c.holders.length : Int) == 0) && (heldB c.parties c.holders && (quB c.units && (c.acts.all (actB c.holders.length c.units.length c.parties) && offB c.days c.off)))))

theorem forR_all {α : Type} {l : List α} {f : Nat → Unit → Option (Unit ⊕ Unit)} (p : α → Bool) (hl : l.length < 4611686018427387904) (h : ∀ (i : Nat) (hi : i < l.length), f i () = some (bif p l[i] then .inl () else .inr ())) :
    forR (l.length : Int) f () = some (bif l.all p then .inl () else .inr ()) := by
  rw [forR_first (fun i => match l[i]? with | some x => p x | none => true) (fun _ => ()) hl (fun i hi => by rw [h i hi]; simp only [List.getElem?_eq_getElem hi])]
  cases hf : (List.range l.length).find? (fun j => !(match l[j]? with | some x => p x | none => true)) with
  | none =>
    have : l.all p = true := List.all_eq_true.2 fun x hx => by
      obtain ⟨i, hi, rfl⟩ := List.getElem_of_mem hx
      have := find_none hf i hi
      simpa only [List.getElem?_eq_getElem hi] using this
    rw [this]; rfl
  | some k =>
    obtain ⟨h1, h2, _⟩ := find_some hf
    have : l.all p = false := by
      rw [Bool.eq_false_iff]
      intro h
      have := List.all_eq_true.1 h l[k] (List.getElem_mem h1)
      simp only [List.getElem?_eq_getElem h1] at h2
      rw [h2] at this; cases this
    rw [this]; rfl

theorem s_framed (c : ContractT) (hp : c.parties < 4611686018427387904) (hh : c.holders.length < 4611686018427387904) (hu : c.units.length < 1000) (ha : c.acts.length < 1000) (ho : c.off.length < 4611686018427387904) : d_framed c = some (framedB c) := by
  unfold d_framed
  obtain ⟨k, hk⟩ := s_quantityValid c.units hu
  have hacts := forR_all (l := c.acts) (f := (fun i1 s1 => (Option.bind (idxI c.acts (i1 : Int)) fun e1 => (Option.bind (d_validAct c e1) fun r3 => (bif r3 then some (.inl ()) else some (.inr ())))))) (actB c.holders.length c.units.length c.parties) (by omega) (fun i hi => by
    simp only [idxI_nat', List.getElem?_eq_getElem hi, Option.bind_some, s_validAct, cond_some])
  rw [s_held c hp hh, hk]
  simp only [Option.bind_some]
  rw [hacts]
  simp only [Option.bind_some]
  rw [s_off c.days c.off ho]
  simp only [Option.bind_some, cond_some, framedB]
  cases decide (c.parties < 1) <;> cases decide (c.days < 1) <;> cases ((c.holders.length : Int) == 0) <;> cases heldB c.parties c.holders <;> cases quB c.units <;> cases c.acts.all (actB c.holders.length c.units.length c.parties) <;>
    simp only [cond_true, cond_false, Bool.not_true, Bool.not_false, Option.bind_some, Bool.true_and, Bool.false_and, Sum.elim_inl, Sum.elim_inr]

def natB (acts : List ActT) (a : Int) : Bool := match idxI acts a with
  | some e => e.kind == 1 && e.role == -1
  | none => false
theorem s_natural (c : ContractT) (a : Int) : d_natural c a = some (natB c.acts a) := by
  unfold d_natural natB
  by_cases h : 0 ≤ a ∧ a < c.acts.length
  · obtain ⟨h1, h2⟩ := idxI_lt h.1 h.2
    simp only [h2, h.1, h.2, decide_true, cond_true, Option.bind_some, cond_some, Bool.cond_false_right]
  · rw [idxI_neg h]
    by_cases h1 : 0 ≤ a
    · have : ¬ a < c.acts.length := fun h2 => h ⟨h1, h2⟩
      simp only [h1, this, decide_true, decide_false, cond_true, cond_false, Option.bind_some]
    · simp only [h1, decide_false, cond_false, Option.bind_some]

def kindB (nh : Nat) (acts : List ActT) (k : ClauseT) : Bool :=
  bif k.kind == 4 then k.role == -1 && (k.need == 1 && (k.grace == 0 && !k.final))
  else (movB nh k.role && !natB acts k.act) && (bif k.kind == 1 then decide (1 ≤ k.need) && (decide (k.need ≤ 9) && (decide (0 ≤ k.grace) && decide (k.grace ≤ 400)))
    else bif k.kind == 2 then k.need == 1 && k.grace == 0 else k.kind == 3 && (k.need == 1 && (k.grace == 0 && !k.final)))
theorem s_validKind (c : ContractT) (k : ClauseT) : d_validKind c k = some (kindB c.holders.length c.acts k) := by
  simp only [d_validKind, s_movable, s_natural, Option.bind_some, cond_some, kindB]
  cases (k.kind == 4) <;> cases movB c.holders.length k.role <;> cases natB c.acts k.act <;> cases (k.kind == 1) <;> cases (k.kind == 2) <;> cases (k.kind == 3) <;>
    simp only [cond_true, cond_false, Bool.not_true, Bool.not_false, Option.bind_some, Bool.true_and, Bool.false_and, Bool.and_false, Bool.cond_false_right, cond_some]

def condB (n : Nat) (i : Int) (s : CondT) : Bool := !(decide (s.clause < 0)) && (!(decide ((n : Int) ≤ s.clause)) && (!(s.clause == i) && (!(decide (s.is < 1)) && !(decide (4 < s.is)))))
noncomputable def moneyB (nh : Nat) (units : List UnitT) (k : ClauseT) : Bool :=
  (k.kind == 1 || k.kind == 2) && ((match idxI units k.unit with | some u => u.kind == 2 | none => false) && (posB k.value && movB nh k.to))
def pauseB (acts : List ActT) (k : ClauseT) : Bool := (k.pause == -1 && k.resume == -1) || (!(k.pause == k.resume) && (natB acts k.pause && natB acts k.resume))
noncomputable def clauseB (nh : Nat) (units : List UnitT) (acts : List ActT) (n : Nat) (i : Int) (k : ClauseT) : Bool :=
  (!(decide (k.act < 0)) && (!(decide ((acts.length : Int) ≤ k.act)) && (!(decide (k.after < 1)) && !(decide (400 < k.after))))) &&
  ((kindB nh acts k && !(decide (8 < (k.start.length : Int)))) &&
  (k.start.all (condB n i) &&
  (pauseB acts k &&
  (bif k.unit == -1 then noneB k.value && k.to == -1 else moneyB nh units k))))
theorem s_validClause (c : ContractT) (i : Nat) (k : ClauseT) (hk : c.clauses[i]? = some k) (hs : k.start.length < 4611686018427387904) : d_validClause c i = some (clauseB c.holders.length c.units c.acts c.clauses.length i k) := by
  unfold d_validClause
  have hst := forR_all (l := k.start) (f := (fun i1 s1 => (Option.bind (idxI k.start (i1 : Int)) fun e2 => (Option.bind (bif decide (e2.clause < 0) then some true else (bif decide ((c.clauses.length : Int) ≤ e2.clause) then some true else (bif (e2.clause == (i : Int)) then some true else (bif decide (e2.is < 1) then some true else some (decide (4 < e2.is)))))) fun v3 => (bif v3 then some (.inr ()) else some (.inl ())))))) (condB c.clauses.length i) hs (fun j hj => by
    simp only [idxI_nat', List.getElem?_eq_getElem hj, Option.bind_some, cond_some, condB]
    cases decide (k.start[j].clause < 0) <;> cases decide ((c.clauses.length : Int) ≤ k.start[j].clause) <;> cases (k.start[j].clause == (i : Int)) <;> cases decide (k.start[j].is < 1) <;> cases decide (4 < k.start[j].is) <;> rfl)
  have hu : (bif decide (0 ≤ k.unit) then (bif decide (k.unit < (c.units.length : Int)) then (Option.bind (idxI c.units k.unit) fun e3 => (bif (e3.kind == 2) then (Option.bind (d_positive k.value) fun r5 => (bif r5 then (Option.bind (d_movable c k.to) fun r6 => some r6) else some false)) else some false)) else some false) else some false) =
      some ((match idxI c.units k.unit with | some u => u.kind == 2 | none => false) && (posB k.value && movB c.holders.length k.to)) := by
    by_cases h : 0 ≤ k.unit ∧ k.unit < c.units.length
    · obtain ⟨h1, h2⟩ := idxI_lt h.1 h.2
      simp only [h2, h.1, h.2, decide_true, cond_true, Option.bind_some, cond_some, Bool.cond_false_right, s_positive, s_movable]
    · rw [idxI_neg h]
      by_cases h1 : 0 ≤ k.unit
      · have : ¬ k.unit < c.units.length := fun h2 => h ⟨h1, h2⟩
        simp only [h1, this, decide_true, decide_false, cond_true, cond_false, Bool.false_and]
      · simp only [h1, decide_false, cond_false, Bool.false_and]
  have hp : (Option.bind (bif (k.pause == (-1)) then some (!(k.resume == (-1))) else some true) fun v4 => (bif v4 then (Option.bind (bif (k.pause == k.resume) then some true else (Option.bind (d_natural c k.pause) fun r2 => (bif r2 then (Option.bind (d_natural c k.resume) fun r3 => some (!r3)) else some true))) fun v5 => (bif v5 then some (.inr ()) else some (.inl ()))) else some (.inl ()))) =
      some (bif pauseB c.acts k then (.inl () : Unit ⊕ Unit) else .inr ()) := by
    simp only [s_natural, pauseB, cond_some, Option.bind_some]
    cases (k.pause == -1) <;> cases (k.resume == -1) <;> cases (k.pause == k.resume) <;> cases natB c.acts k.pause <;> cases natB c.acts k.resume <;> rfl
  rw [idxI_at hk]
  simp only [Option.bind_some]
  rw [hst]
  simp only [Option.bind_some]
  rw [hp, hu]
  simp only [Option.bind_some, s_validKind, d_none, cond_some, clauseB, moneyB, noneB]
  cases decide (k.act < 0) <;> simp only [cond_true, cond_false, Bool.not_true, Bool.not_false, Bool.true_and, Bool.false_and, Option.bind_some]
  cases decide ((c.acts.length : Int) ≤ k.act) <;> simp only [cond_true, cond_false, Bool.not_true, Bool.not_false, Bool.true_and, Bool.false_and, Option.bind_some]
  cases decide (k.after < 1) <;> simp only [cond_true, cond_false, Bool.not_true, Bool.not_false, Bool.true_and, Bool.false_and, Option.bind_some]
  cases decide (400 < k.after) <;> simp only [cond_true, cond_false, Bool.not_true, Bool.not_false, Bool.true_and, Bool.false_and, Option.bind_some]
  cases kindB c.holders.length c.acts k <;> simp only [cond_true, cond_false, Bool.not_true, Bool.not_false, Bool.true_and, Bool.false_and, Option.bind_some]
  cases decide (8 < (k.start.length : Int)) <;> simp only [cond_true, cond_false, Bool.not_true, Bool.not_false, Bool.true_and, Bool.false_and, Option.bind_some]
  cases k.start.all (condB c.clauses.length i) <;> simp only [cond_true, cond_false, Bool.not_true, Bool.not_false, Bool.true_and, Bool.false_and, Option.bind_some, Sum.elim_inl, Sum.elim_inr]
  cases pauseB c.acts k <;> simp only [cond_true, cond_false, Bool.true_and, Bool.false_and, Sum.elim_inl, Sum.elim_inr]
  cases (k.kind == 1) <;> cases (k.kind == 2) <;> simp only [cond_true, cond_false, Bool.cond_false_right, Bool.true_or, Bool.or_true, Bool.or_self, Bool.true_and, Bool.false_and]

def limB (c : ContractT) : Bool := decide (12 < c.parties) || (decide (2000 < c.days) || (decide (12 < (c.holders.length : Int)) || (decide (20 < (c.units.length : Int)) || (decide (60 < (c.acts.length : Int)) || decide (400 < (c.clauses.length : Int))))))
noncomputable def clB (c : ContractT) (i : Nat) : Bool := match c.clauses[i]? with
  | some k => clauseB c.holders.length c.units c.acts c.clauses.length i k
  | none => true
noncomputable def validR (c : ContractT) : Int × Int :=
  bif limB c then (3, -1) else bif framedB c then (match (List.range c.clauses.length).find? (fun j => !clB c j) with | none => (0, -1) | some j => (1, (j : Int))) else (1, -1)

theorem s_Valid (c : ContractT) (ho : c.off.length < 4611686018427387904) (hs : ∀ k ∈ c.clauses, k.start.length < 4611686018427387904) : d_Valid c = some (validR c) := by
  unfold d_Valid validR
  simp only [cond_some, Bool.cond_true_left, Option.bind_some]
  show (bif limB c then _ else _) = _
  cases hlim : limB c with
  | true => rfl
  | false =>
    simp only [limB, Bool.or_eq_false_iff, decide_eq_false_iff_not] at hlim
    obtain ⟨h1, h2, h3, h4, h5, h6⟩ := hlim
    simp only [cond_false, s_framed c (by omega) (by omega) (by omega) (by omega) ho, Option.bind_some]
    cases framedB c with
    | false => rfl
    | true =>
      simp only [cond_true]
      rw [forR_first (fun i => clB c i) (fun i => (i : Int)) (by omega) (fun i hi => by
        rw [s_validClause c i c.clauses[i] (List.getElem?_eq_getElem hi) (hs _ (List.getElem_mem hi))]
        simp only [Option.bind_some, clB, List.getElem?_eq_getElem hi, cond_some])]
      cases (List.range c.clauses.length).find? (fun j => !clB c j) <;> rfl

end Go.Proofs.Ytgligibbgobmnaa
namespace Go.Proofs.Ytgligibbgobmnaa
set_option linter.unusedVariables false
set_option linter.unusedSimpArgs false
set_option maxRecDepth 100000

def Le {α : Type} (x y : Option α) : Prop := ∀ r, x = some r → y = some r
theorem Le.refl {α : Type} (x : Option α) : Le x x := fun _ h => h
theorem Le.bind {α β : Type} {x y : Option α} {f g : α → Option β} (h : Le x y) (hf : ∀ a, Le (f a) (g a)) : Le (x.bind f) (y.bind g) := fun r hr => by
  obtain ⟨a, h1, h2⟩ := Option.bind_eq_some_iff.1 hr
  rw [h a h1]; exact hf a r h2
theorem Le.cond {α : Type} (b : Bool) {x y x' y' : Option α} (h1 : Le x x') (h2 : Le y y') : Le (bif b then x else y) (bif b then x' else y') := by
  cases b
  · exact h2
  · exact h1
theorem Le.elim {α β γ : Type} {f f' : α → Option γ} {g g' : β → Option γ} (h1 : ∀ a, Le (f a) (f' a)) (h2 : ∀ a, Le (g a) (g' a)) (o : α ⊕ β) : Le (Sum.elim f g o) (Sum.elim f' g' o) := by
  cases o
  · exact h1 _
  · exact h2 _
theorem Le.forFrom {σ ρ : Type} {f g : Nat → σ → Option (σ ⊕ ρ)} (h : ∀ i s, Le (f i s) (g i s)) : ∀ (k i : Nat) (s : σ), Le (forFrom f i k s) (forFrom g i k s)
  | 0, i, s => Le.refl _
  | k + 1, i, s => fun r hr => by
    simp only [Go.Proofs.Ytgligibbgobmnaa.forFrom] at hr ⊢
    split at hr
    · cases hr
    · rename_i e; rw [h i s _ e]; exact hr
    · rename_i e; rw [h i s _ e]; exact Le.forFrom h k (i + 1) _ r hr
theorem Le.forR {σ ρ : Type} {f g : Nat → σ → Option (σ ⊕ ρ)} (h : ∀ i s, Le (f i s) (g i s)) (n : Int) (s : σ) : Le (forR n f s) (forR n g s) := fun r hr => by
  obtain ⟨h1, h2⟩ := forR_some hr
  rw [forR_pos h1]; exact Le.forFrom h _ _ _ r h2
theorem Le.iter {σ ρ : Type} {f : σ → Option (σ ⊕ ρ)} (k : Nat) (s : σ) : Le (iterN f k s) (iter f s) := fun r hr => iter_some.2 ⟨k, hr⟩

theorem rec29_mono {f g : Int → List Int → Option (Int × List Int)} (h : ∀ a b, Le (f a b) (g a b)) (p : Int) (q : List Int) : Le (d_29a_s f p q) (d_29a_s g p q) := by
  unfold d_29a_s
  refine Le.bind (Le.bind (Le.refl _) fun k => Le.bind (Le.refl _) fun e => Le.cond _ (Le.refl _) (Le.bind (Le.refl _) fun k => Le.bind (Le.refl _) fun e => Le.bind (h _ _) fun r => Le.refl _)) fun v => Le.refl _
theorem rec29_succ : ∀ (k : Nat) (p : Int) (q : List Int), Le (d_29a_n k p q) (d_29a_n (k + 1) p q)
  | 0, p, q => fun r h => by cases h
  | k + 1, p, q => rec29_mono (rec29_succ k) p q
theorem rec29_le {k k' : Nat} (h : k ≤ k') (p : Int) (q : List Int) : Le (d_29a_n k p q) (d_29a_n k' p q) := by
  induction h with
  | refl => exact Le.refl _
  | step _ ih => exact fun r hr => rec29_succ _ p q r (ih r hr)
theorem le_29a (k : Nat) (p : Int) (q : List Int) : Le (d_29a_n k p q) (d_29a p q) := fun r h => lim_of k fun k' hk => rec29_le hk p q r h

noncomputable def e_30a (p1 : Int) (p2 : Int) (p3 : List Int) : Option ((List Int)) :=
  (Option.bind (d_29a_n 12 p1 p3) fun r1 => (Option.bind (d_29a_n 12 p2 r1.2) fun r2 => (Option.bind (d_29a_n 12 p1 r2.2) fun r3 => (Option.bind (d_29a_n 12 p2 r3.2) fun r4 => (Option.bind (idxN 400 (if r3.1 < r4.1 then r4.1 else r3.1)) fun k1 => (Option.bind (r4.2[k1]?) fun e1 => some (r4.2.set k1 (if r2.1 < r1.1 then r2.1 else r1.1))))))))
theorem le_30a (p1 : Int) (p2 : Int) (p3 : List Int) : Le (e_30a p1 p2 p3) (d_30a p1 p2 p3) := by
  unfold e_30a d_30a
  repeat' (first | with_reducible exact Le.refl _ | with_reducible exact le_29a _ _ _ | with_reducible refine Le.bind ?_ (fun _ => ?_) | with_reducible refine Le.cond _ ?_ ?_ | with_reducible refine Le.forR (fun _ _ => ?_) _ _ | with_reducible refine Le.elim (fun _ => ?_) (fun _ => ?_) _)

noncomputable def e_gather_step (i : Nat) (s : List (List Int) × List (Int × Int) × List Int) : Option ((List (List Int) × List (Int × Int) × List Int) ⊕ Unit) :=
  Option.bind (d_29a_n 12 (i : Int) s.2.2) fun r =>
    bif r.1 == (i : Int) then some (.inl (s.1 ++ [[(i : Int)]], mset (i : Int) (s.1.length : Int) s.2.1, r.2))
    else Option.bind (idxI s.1 ((mget r.1 s.2.1).getD 0)) fun l => some (.inl (s.1.set ((mget r.1 s.2.1).getD 0).toNat (l ++ [(i : Int)]), s.2.1, r.2))
noncomputable def e_gather (n : Int) (above : List Int) : Option (List (List Int) × List Int) :=
  bif decide (n ≤ 1000000000000) then Option.bind (forR (σ := List (List Int) × List (Int × Int) × List Int) (ρ := Unit) n e_gather_step ([], [], above)) (Sum.elim (fun s => some (s.1, s.2.2)) (fun _ => none)) else none
theorem le_gather_step (i : Nat) (s : List (List Int) × List (Int × Int) × List Int) : Le (e_gather_step i s) (d_gather_step i s) := Le.bind (le_29a _ _ _) fun r => Le.refl _
theorem le_gather (n : Int) (above : List Int) : Le (e_gather n above) (d_gather n above) := Le.cond _ (Le.bind (Le.forR le_gather_step _ _) fun o => Le.refl _) (Le.refl _)

noncomputable def e_13a (p1 : Int) (p2 : List Int) (p3 : List ActT) (p4 : List ClauseT) (p5 : Int) : Option ((List (List Int))) :=
  (Option.bind (d_Valid ({ parties := p1, holders := p2, units := [], acts := p3, clauses := p4, days := p5, off := [] } : ContractT)) fun r1 => (bif (r1.1 == 0) then (Option.bind (forR (σ := (List Int)) (ρ := Unit) (p4.length : Int) (fun i1 s1 => (Option.bind (idxN 400 (i1 : Int)) fun k1 => (Option.bind (s1[k1]?) fun e1 => some (.inl (s1.set k1 (i1 : Int)))))) (List.replicate 400 0)) (Sum.elim (fun (s1 : (List Int)) => (Option.bind (d_31a p3) fun r2 => (Option.bind (forR (σ := (List Int) × (List (Int × Int))) (ρ := Unit) (p4.length : Int) (fun i2 s2 => (Option.bind (idxN p4.length (i2 : Int)) fun k2 => (Option.bind (p4[k2]?) fun e2 => (Option.bind (bif r2 then (Option.bind (e_30a 0 (i2 : Int) s2.1) fun r3 => some r3) else some s2.1) fun (v1 : (List Int)) => (Option.bind (forR (σ := (List Int)) (ρ := Unit) (e2.start.length : Int) (fun i3 s3 => (Option.bind (idxI e2.start (i3 : Int)) fun e3 => (Option.bind (e_30a (i2 : Int) e3.clause s3) fun r4 => some (.inl r4)))) v1) (Sum.elim (fun (s3 : (List Int)) => (Option.bind (d_numbers e2) fun r5 => (Option.bind (forR (σ := (List Int) × (List (Int × Int))) (ρ := Unit) (r5.length : Int) (fun i4 s4 => (Option.bind (Option.bind (idxI r5 (i4 : Int)) fun e4 => (bif (mget e4 s4.2).isSome then (Option.bind (e_30a ((mget e4 s4.2).getD 0) (i2 : Int) s4.1) fun r6 => some (r6, s4.2)) else some (s4.1, (mset e4 (i2 : Int) s4.2)))) fun (v2 : (List Int) × (List (Int × Int))) => some (.inl (v2.1, v2.2)))) (s3, s2.2)) (Sum.elim (fun (s4 : (List Int) × (List (Int × Int))) => some (.inl (s4.1, s4.2))) (fun _ => none))))) (fun _ => none))))))) (s1, [])) (Sum.elim (fun (s2 : (List Int) × (List (Int × Int))) => (Option.bind (e_gather (p4.length : Int) s2.1) fun r7 => some r7.1)) (fun _ => none))))) (fun _ => none))) else some []))
theorem le_13a (p1 : Int) (p2 : List Int) (p3 : List ActT) (p4 : List ClauseT) (p5 : Int) : Le (e_13a p1 p2 p3 p4 p5) (d_13a p1 p2 p3 p4 p5) := by
  unfold e_13a d_13a
  repeat' (first | with_reducible exact le_gather _ _ | with_reducible exact Le.refl _ | with_reducible exact le_29a _ _ _ | with_reducible exact le_30a _ _ _ | with_reducible refine Le.bind ?_ (fun _ => ?_) | with_reducible refine Le.cond _ ?_ ?_ | with_reducible refine Le.forR (fun _ _ => ?_) _ _ | with_reducible refine Le.elim (fun _ => ?_) (fun _ => ?_) _)

noncomputable def e_BinarySearch (l : List Int) (v : Int) : Option (Int × Bool) :=
  (Option.bind (Option.bind (iterN (σ := Int × Int) (ρ := Int) (fun s1 => (bif decide (s1.1 < s1.2) then (Option.bind (shrI .u64 .u64 (IntKind.u64.wrap (IntKind.i64.wrap (s1.1 + s1.2))) 1) fun e1 => (Option.bind (idxI l (IntKind.i64.wrap e1)) fun e2 => (Option.bind (d_less e2 v) fun r1 => (bif r1 then some (.inl ((IntKind.i64.wrap ((IntKind.i64.wrap e1) + 1)), s1.2)) else some (.inl (s1.1, (IntKind.i64.wrap e1))))))) else some (.inr s1.1))) 12 (0, (l.length : Int))) (fun (y1 : Int) => some y1)) fun (v1 : Int) => (Option.bind (bif decide (v1 < (l.length : Int)) then (Option.bind (idxI l v1) fun e3 => (bif (e3 == v) then some true else (Option.bind (d_isNaN e3) fun r2 => (bif r2 then (Option.bind (d_isNaN v) fun r3 => some r3) else some false)))) else some false) fun v2 => some (v1, v2)))
theorem le_BinarySearch (l : List Int) (v : Int) : Le (e_BinarySearch l v) (d_BinarySearch l v) := by
  unfold e_BinarySearch d_BinarySearch
  repeat' (first | with_reducible exact Le.refl _ | with_reducible exact Le.refl _ | with_reducible exact Le.iter _ _ | with_reducible refine Le.bind ?_ (fun _ => ?_) | with_reducible refine Le.cond _ ?_ ?_ | with_reducible refine Le.forR (fun _ _ => ?_) _ _ | with_reducible refine Le.elim (fun _ => ?_) (fun _ => ?_) _)

noncomputable def e_15b (p1 : Int) (p2 : List Int) (p3 : List ActT) (p4 : List ClauseT) (p5 : Int) (p6 : List Int) : Option (Int × (List Int) × (List ActT) × (List ClauseT) × Int × Int) :=
  (Option.bind (d_Valid ({ parties := p1, holders := p2, units := [], acts := p3, clauses := p4, days := p5, off := [] } : ContractT)) fun r1 => (bif (r1.1 == 0) then (Option.bind (forR (σ := Int) (ρ := Unit) (p6.length : Int) (fun i1 s1 => (Option.bind (idxN p6.length (i1 : Int)) fun k1 => (Option.bind (p6[k1]?) fun e1 => (Option.bind (bif decide (e1 ≤ s1) then some true else some (decide ((p4.length : Int) ≤ e1))) fun v1 => (bif v1 then some (.inr ()) else some (.inl e1)))))) (-1)) (Sum.elim (fun (s1 : Int) => (Option.bind (cloneI 8 p2) fun e2 => (Option.bind (d_35a) fun r2 => (Option.bind (cloneI 56 p3) fun e3 => (Option.bind (d_34a) fun r3 => (Option.bind (mkN 136 (p6.length : Int)) fun k2 => (Option.bind (forR (σ := (List ClauseT)) (ρ := Unit) (p6.length : Int) (fun i2 s2 => (Option.bind (idxN p6.length (i2 : Int)) fun k3 => (Option.bind (p6[k3]?) fun e4 => (Option.bind (idxN p4.length e4) fun k4 => (Option.bind (p4[k4]?) fun e5 => (Option.bind (cloneI 16 e5.start) fun e6 => (Option.bind (forR (σ := (List CondT)) (ρ := Unit) (e6.length : Int) (fun i3 s3 => (Option.bind (idxN e6.length (i3 : Int)) fun k5 => (Option.bind (s3[k5]?) fun e7 => (Option.bind (e_BinarySearch p6 e7.clause) fun r4 => (bif r4.2 then (Option.bind (idxN e6.length (i3 : Int)) fun k6 => (Option.bind (s3[k6]?) fun e8 => some (.inl (s3.set k6 ({ clause := r4.1, is := e8.is } : CondT))))) else some (.inr ())))))) e6) (Sum.elim (fun (s3 : (List CondT)) => (Option.bind (idxN k2 (i2 : Int)) fun k7 => (Option.bind (s2[k7]?) fun e9 => some (.inl (s2.set k7 ({ e5 with start := List.take e6.length s3 } : ClauseT)))))) (fun (y2 : Unit) => some (.inr ())))))))))) (List.replicate k2 ({ kind := 0, role := 0, act := 0, need := 0, start := [], after := 0, grace := 0, business := false, final := false, pause := 0, resume := 0, value := ({ num := 0, den := 0 } : Ratio), unit := 0, to := 0, waived := false } : ClauseT))) (Sum.elim (fun (s2 : (List ClauseT)) => some (p1, e2, e3, List.take k2 s2, p5, 0)) (fun (y3 : Unit) => some (0, [], [], [], 0, 1)))))))))) (fun (y1 : Unit) => some (0, [], [], [], 0, 1)))) else some (0, [], [], [], 0, 1)))
theorem le_15b (p1 : Int) (p2 : List Int) (p3 : List ActT) (p4 : List ClauseT) (p5 : Int) (p6 : List Int) : Le (e_15b p1 p2 p3 p4 p5 p6) (d_15b p1 p2 p3 p4 p5 p6) := by
  unfold e_15b d_15b
  repeat' (first | with_reducible exact Le.refl _ | with_reducible exact Le.refl _ | with_reducible exact le_BinarySearch _ _ | with_reducible refine Le.bind ?_ (fun _ => ?_) | with_reducible refine Le.cond _ ?_ ?_ | with_reducible refine Le.forR (fun _ _ => ?_) _ _ | with_reducible refine Le.elim (fun _ => ?_) (fun _ => ?_) _)

theorem bindOf {α β : Type} {x : Option α} {f : α → Option β} {a : α} {r : β} (h : x = some a) (h2 : f a = some r) : x.bind f = some r := by rw [h]; exact h2

def ex0 : List ActT := [⟨1, 0, 0, -1, -1, ⟨0, 1⟩⟩, ⟨1, 0, 0, -1, -1, ⟨0, 1⟩⟩]
theorem s_head : d_head = some true := by
  unfold d_head
  refine bindOf (a := (ex0, 0, 1, 0, 1, 0, 1)) (by kernel_rfl) ?_
  refine bindOf (a := (0, -1)) (by kernel_rfl) ?_
  refine bindOf (a := [[0], [1, 2]]) (le_13a _ _ _ _ _ _ (by kernel_rfl)) ?_
  refine bindOf (a := (1, [0], ex0, [⟨2, 0, 1, 1, [], 3, 0, false, false, -1, -1, ⟨0, 1⟩, -1, -1, false⟩, ⟨3, 0, 1, 1, [], 3, 0, false, false, -1, -1, ⟨0, 1⟩, -1, -1, false⟩], 9, 0)) (le_15b _ _ _ _ _ _ _ (by kernel_rfl)) ?_
  refine bindOf (a := (0, [], [], [], 0, 1)) (le_15b _ _ _ _ _ _ _ (by kernel_rfl)) ?_
  refine bindOf (a := [[0, 1, 2]]) (le_13a _ _ _ _ _ _ (by kernel_rfl)) ?_
  refine bindOf (a := (1, 2)) (by kernel_rfl) ?_
  refine bindOf (a := (3, -1)) (by kernel_rfl) ?_
  kernel_rfl

end Go.Proofs.Ytgligibbgobmnaa
namespace Go.Proofs.Ytgligibbgobmnaa
open Go.RowKit
set_option linter.unusedVariables false
set_option linter.unusedSimpArgs false
set_option maxRecDepth 100000

theorem LOk.lt {α : Type} {n : Nat} {p : α → Prop} {l : List α} (h : LOk n p l) (hn : 0 < n) : l.length < 4611686018427387904 := by
  have h1 := h.1
  have h2 : reachBytes ≤ 140737488355328 := by decide +kernel
  have := Nat.le_mul_of_pos_right l.length hn
  omega

def fewB (c : ContractT) (n : Int) : Bool :=
  !(decide (13 < (c.holders.length : Int)) || (decide (21 < (c.units.length : Int)) || (decide (61 < (c.acts.length : Int)) || (decide (n < (c.clauses.length : Int)) || decide (100 < (c.off.length : Int)))))) &&
  (c.units.all (fun u => !decide (60 < (u.name.size : Int))) && c.clauses.all (fun k => !decide (10 < (k.start.length : Int))))

theorem s_Few (c : ContractT) (n : Int) (hu : c.units.length < 4611686018427387904) (hc : c.clauses.length < 4611686018427387904) : d_Few c n = some (fewB c n) := by
  unfold d_Few fewB
  rw [forR_all (l := c.units) (fun u => !decide (60 < (u.name.size : Int))) hu (fun i hi => by
    simp only [idxI_nat', List.getElem?_eq_getElem hi, Option.bind_some]
    cases decide (60 < (c.units[i].name.size : Int)) <;> rfl)]
  rw [forR_all (l := c.clauses) (fun k => !decide (10 < (k.start.length : Int))) hc (fun i hi => by
    simp only [idxI_nat', List.getElem?_eq_getElem hi, Option.bind_some]
    cases decide (10 < (c.clauses[i].start.length : Int)) <;> rfl)]
  simp only [cond_some, Bool.cond_true_left, Option.bind_some]
  cases (decide (13 < (c.holders.length : Int)) || (decide (21 < (c.units.length : Int)) || (decide (61 < (c.acts.length : Int)) || (decide (n < (c.clauses.length : Int)) || decide (100 < (c.off.length : Int)))))) <;>
    cases c.units.all (fun u => !decide (60 < (u.name.size : Int))) <;> cases c.clauses.all (fun k => !decide (10 < (k.start.length : Int))) <;> rfl

structure FewP (c : ContractT) (n : Int) : Prop where
  nh : c.holders.length ≤ 13
  nu : c.units.length ≤ 21
  na : c.acts.length ≤ 61
  nc : c.clauses.length ≤ n
  no : c.off.length ≤ 100
  ns : ∀ k ∈ c.clauses, k.start.length ≤ 10

theorem ContractT.Ok.valid {c : ContractT} (hc : c.Ok) : d_Valid c = some (validR c) :=
  s_Valid c (hc.off.lt (by omega)) (fun k hk => (hc.clauses.2 k hk).start.lt (by omega))
theorem ContractT.Ok.few {c : ContractT} (hc : c.Ok) (n : Int) : d_Few c n = some (fewB c n) :=
  s_Few c n (hc.units.lt (by omega)) (hc.clauses.lt (by omega))

inductive ValidIs (c : ContractT) : Int × Int → Prop where
  | lim (h : limB c = true) : ValidIs c (3, -1)
  | frame (h : limB c = false) (hf : framedB c = false) : ValidIs c (1, -1)
  | bad (h : limB c = false) (hf : framedB c = true) (i : Nat) (hi : i < c.clauses.length) (hb : clB c i = false) (hl : ∀ j, j < i → clB c j = true) : ValidIs c (1, (i : Int))
  | ok (h : limB c = false) (hf : framedB c = true) (ha : ∀ j, j < c.clauses.length → clB c j = true) : ValidIs c (0, -1)

theorem valid_is (c : ContractT) : ValidIs c (validR c) := by
  unfold validR
  cases h : limB c with
  | true => exact .lim h
  | false =>
    simp only [cond_false]
    cases hf : framedB c with
    | false => exact .frame h hf
    | true =>
      simp only [cond_true]
      cases hq : (List.range c.clauses.length).find? (fun j => !clB c j) with
      | none => exact .ok h hf (find_none hq)
      | some j => obtain ⟨h1, h2, h3⟩ := find_some hq; exact .bad h hf j h1 h2 h3

theorem validR_ok {c : ContractT} (h : (validR c).1 = 0) : limB c = false ∧ framedB c = true ∧ (∀ j, j < c.clauses.length → clB c j = true) ∧ validR c = (0, -1) := by
  have hv := valid_is c
  generalize hr : validR c = r at h hv ⊢
  cases hv with
  | lim _ => simp at h
  | frame _ _ => simp at h
  | bad _ _ i _ _ _ => simp at h
  | ok a b d => exact ⟨a, b, d, rfl⟩
theorem validR_of {c : ContractT} (h : limB c = false) (hf : framedB c = true) (ha : ∀ j, j < c.clauses.length → clB c j = true) : validR c = (0, -1) := by
  unfold validR; rw [h, hf, find_none_of ha]; rfl
end Go.Proofs.Ytgligibbgobmnaa
namespace Go.Proofs.Ytgligibbgobmnaa
set_option linter.unusedVariables false
set_option linter.unusedSimpArgs false

def Ret {α : Type} (x : Option α) (Q : α → Prop) : Prop := ∃ r, x = some r ∧ Q r
theorem Ret.some {α : Type} {a : α} {Q : α → Prop} (h : Q a) : Ret (Option.some a) Q := ⟨a, rfl, h⟩
theorem Ret.bind {α β : Type} {x : Option α} {f : α → Option β} {P : α → Prop} {Q : β → Prop} (hx : Ret x P) (hf : ∀ v, P v → Ret (f v) Q) : Ret (x.bind f) Q := by
  obtain ⟨v, rfl, hv⟩ := hx
  exact hf v hv
theorem Ret.ite {α : Type} {b : Bool} {x y : Option α} {Q : α → Prop} (h1 : b = true → Ret x Q) (h2 : b = false → Ret y Q) : Ret (bif b then x else y) Q := by
  cases b
  · exact h2 rfl
  · exact h1 rfl
theorem Ret.mono {α : Type} {x : Option α} {P Q : α → Prop} (h : Ret x P) (hq : ∀ r, P r → Q r) : Ret x Q := by
  obtain ⟨r, h1, h2⟩ := h; exact ⟨r, h1, hq r h2⟩
theorem Ret.eq {α : Type} {x : Option α} {a : α} (h : Ret x (· = a)) : x = Option.some a := by obtain ⟨r, h1, rfl⟩ := h; exact h1
theorem Ret.of {α : Type} {x : Option α} {a : α} (h : x = Option.some a) : Ret x (· = a) := ⟨a, h, rfl⟩
theorem Ret.iter {σ ρ : Type} {f : σ → Option (σ ⊕ ρ)} {s0 : σ} {Q : ρ → Prop} (Inv : σ → Prop) (m : σ → Nat) (h0 : Inv s0)
    (step : ∀ s, Inv s → Ret (f s) (OutP (fun s' => Inv s' ∧ m s' < m s) Q)) : Ret (Go.Proofs.Ytgligibbgobmnaa.iter f s0) Q := iter_rule (f := f) Inv Q m step s0 h0
theorem Ret.idx {α : Type} {l : List α} {n : Int} {Q : α → Prop} (h0 : 0 ≤ n) (h1 : n < l.length) (h : ∀ hi : n.toNat < l.length, Q l[n.toNat]) : Ret (idxI l n) Q := by
  obtain ⟨hi, e⟩ := idxI_lt h0 h1
  exact ⟨_, e, h hi⟩

theorem forFrom_map {σ ρ α β : Type} {f : Nat → σ → Option (σ ⊕ ρ)} (l : List α) (g : α → β) (st : List β → σ) (h : ∀ (i : Nat) (hi : i < l.length), f i (st ((l.take i).map g)) = some (.inl (st ((l.take i).map g ++ [g l[i]])))) :
    ∀ (k i : Nat), i + k = l.length → forFrom f i k (st ((l.take i).map g)) = some (.inl (st (l.map g)))
  | 0, i, hk => by simp only [forFrom]; rw [List.take_of_length_le (by omega)]
  | k + 1, i, hk => by
    have hi : i < l.length := by omega
    have e : (l.take (i + 1)).map g = (l.take i).map g ++ [g l[i]] := by rw [List.take_succ_eq_append_getElem hi, List.map_append]; rfl
    simp only [forFrom, h i hi]
    rw [← e]
    exact forFrom_map l g st h k (i + 1) (by omega)
theorem forR_map {σ ρ α β : Type} {f : Nat → σ → Option (σ ⊕ ρ)} (l : List α) (g : α → β) (st : List β → σ) (hl : l.length < 4611686018427387904) (h : ∀ (i : Nat) (hi : i < l.length), f i (st ((l.take i).map g)) = some (.inl (st ((l.take i).map g ++ [g l[i]])))) {s0 : σ} (h0 : s0 = st []) :
    forR (l.length : Int) f s0 = some (.inl (st (l.map g))) := by
  rw [forR_pos (by omega), h0]
  have := forFrom_map l g st h l.length 0 (by omega)
  simpa using this
theorem appI_of {α : Type} {by_ : Nat} {l m : List α} (h : (l.length + m.length) * by_ ≤ 140737488355328) : appI by_ l m = some (l ++ m) := by unfold appI; rw [if_pos h]
end Go.Proofs.Ytgligibbgobmnaa
namespace Go.Proofs.Ytgligibbgobmnaa
set_option linter.unusedVariables false
set_option linter.unusedSimpArgs false

def goL {α σ ρ : Type} (F : α → σ → Option (σ ⊕ ρ)) : List α → σ → Option (σ ⊕ ρ)
  | [], s => some (.inl s)
  | x :: r, s => match F x s with
    | none => none
    | some (.inr y) => some (.inr y)
    | some (.inl s') => goL F r s'
theorem forFrom_list {α σ ρ : Type} {f : Nat → σ → Option (σ ⊕ ρ)} {F : α → σ → Option (σ ⊕ ρ)} : ∀ (l : List α) (i : Nat) (s : σ), (∀ (j : Nat) (hj : j < l.length) (s : σ), f (i + j) s = F l[j] s) → forFrom f i l.length s = goL F l s
  | [], i, s, h => rfl
  | x :: r, i, s, h => by
    have h0 := h 0 (by simp) s
    simp only [Nat.add_zero, List.getElem_cons_zero] at h0
    simp only [List.length_cons, forFrom, goL, h0]
    have ih : ∀ s', forFrom f (i + 1) r.length s' = goL F r s' := fun s' => forFrom_list r (i + 1) s' (f := f) (F := F) fun j hj s => by
      have := h (j + 1) (by simpa using hj) s
      simp only [List.getElem_cons_succ] at this
      rw [← this]; congr 1; omega
    cases F x s with
    | none => rfl
    | some o =>
      cases o with
      | inl s' => exact ih s'
      | inr y => rfl
theorem forR_list {α σ ρ : Type} {f : Nat → σ → Option (σ ⊕ ρ)} {F : α → σ → Option (σ ⊕ ρ)} (l : List α) (hl : l.length < 4611686018427387904) (h : ∀ (j : Nat) (hj : j < l.length) (s : σ), f j s = F l[j] s) (s : σ) : forR (l.length : Int) f s = goL F l s := by
  rw [forR_pos (by omega)]
  have := forFrom_list l 0 s (f := f) (F := F) (fun j hj s => by rw [Nat.zero_add]; exact h j hj s)
  simpa using this

theorem mapO_take {α β : Type} {g : α → Option β} {l : List α} {i : Nat} (hi : i < l.length) {ks : List β} (h : mapO g (l.take i) = some ks) : mapO g (l.take (i + 1)) = (g l[i]).map fun b => ks ++ [b] := by
  have app : ∀ (a b : List α), mapO g (a ++ b) = (mapO g a).bind fun x => (mapO g b).map fun y => x ++ y := by
    intro a
    induction a with
    | nil => intro b; simp [mapO]
    | cons x a ih =>
      intro b
      simp only [List.cons_append, mapO, ih]
      cases g x with
      | none => rfl
      | some y =>
        cases mapO g a with
        | none => rfl
        | some ys => cases mapO g b <;> rfl
  rw [List.take_succ_eq_append_getElem hi, app, h]
  simp only [Option.bind_some, mapO]
  cases g l[i] <;> rfl
theorem mapO_len {α β : Type} {g : α → Option β} : ∀ {l : List α} {ks : List β}, mapO g l = some ks → ks.length = l.length
  | [], ks, h => by cases h; rfl
  | x :: l, ks, h => by
    simp only [mapO] at h
    split at h
    · split at h
      · rename_i bs hb; cases h; simp [mapO_len hb]
      · cases h
    · cases h
theorem mapO_at {α β : Type} {g : α → Option β} : ∀ {l : List α} {ks : List β}, mapO g l = some ks → ∀ (i : Nat) (x : α), l[i]? = some x → ∃ b, g x = some b ∧ ks[i]? = some b
  | [], ks, h, i, x, hi => by simp at hi
  | y :: l, ks, h, i, x, hi => by
    simp only [mapO] at h
    split at h
    · rename_i b hb
      split at h
      · rename_i bs hbs
        cases h
        cases i with
        | zero => simp at hi; subst hi; exact ⟨b, hb, rfl⟩
        | succ i => exact mapO_at hbs i x (by simpa using hi)
      · cases h
    · cases h
theorem mapO_some {α β : Type} {g : α → Option β} : ∀ {l : List α}, (∀ x ∈ l, ∃ b, g x = some b) → ∃ ks, mapO g l = some ks
  | [], _ => ⟨[], rfl⟩
  | x :: l, h => by
    obtain ⟨b, hb⟩ := h x (by simp)
    obtain ⟨ks, hk⟩ := mapO_some (l := l) (fun y hy => h y (by simp [hy]))
    exact ⟨b :: ks, by simp only [mapO, hb, hk]⟩
theorem mapO_none_take {α β : Type} {g : α → Option β} {l : List α} {i : Nat} (h : mapO g (l.take i) = none) : mapO g l = none := by
  cases hl : mapO g l with
  | none => rfl
  | some ks =>
    obtain ⟨ks', hk⟩ := mapO_some (g := g) (l := l.take i) (fun x hx => by
      obtain ⟨j, hj, e⟩ := List.getElem_of_mem (List.mem_of_mem_take hx)
      obtain ⟨b, hb, _⟩ := mapO_at hl j x (by rw [← e]; exact List.getElem?_eq_getElem hj)
      exact ⟨b, hb⟩)
    rw [hk] at h; cases h

theorem forR_sets {α β ρ : Type} {f : Nat → List β → Option (List β ⊕ ρ)} (l : List α) (g : α → Option β) (s0 : List β) (u : ρ) (hlen : s0.length = l.length) (hl : l.length < 4611686018427387904)
    (h : ∀ (i : Nat) (hi : i < l.length) (ks : List β), ks.length = i → f i (ks ++ s0.drop i) = some (match g l[i] with | some b => .inl ((ks ++ s0.drop i).set i b) | none => .inr u)) :
    forR (l.length : Int) f s0 = some (match mapO g l with | some ks => .inl ks | none => .inr u) := by
  obtain ⟨o, h1, h2⟩ := forR_ruleL (n := l.length) (s0 := s0) (f := f) (fun i s => ∃ ks, mapO g (l.take i) = some ks ∧ s = ks ++ s0.drop i) (fun r => r = u ∧ mapO g l = none) hl ⟨[], rfl, rfl⟩ (fun i s hi hI => by
    obtain ⟨ks, hk, rfl⟩ := hI
    have hkl : ks.length = i := by rw [mapO_len hk, List.length_take]; omega
    have e := mapO_take hi hk
    rw [h i hi ks hkl]
    cases hg : g l[i] with
    | none =>
      rw [hg] at e
      exact ⟨.inr u, rfl, rfl, mapO_none_take e⟩
    | some b =>
      rw [hg] at e
      refine ⟨_, rfl, ks ++ [b], e, ?_⟩
      have hd : i < s0.length := by omega
      rw [List.drop_eq_getElem_cons hd, List.set_append_right _ _ (by omega), hkl, Nat.sub_self, List.set_cons_zero]
      simp)
  rw [h1]
  cases o with
  | inl s =>
    obtain ⟨ks, hk, rfl⟩ := h2
    rw [List.take_length] at hk
    rw [hk, List.drop_eq_nil_of_le (by omega), List.append_nil]
  | inr r =>
    obtain ⟨rfl, hn⟩ := h2
    rw [hn]

def incB (n : Int) : Int → List Int → Bool
  | _, [] => true
  | a, x :: r => (!decide (x ≤ a) && !decide (n ≤ x)) && incB n x r
def lastI : Int → List Int → Int
  | a, [] => a
  | _, x :: r => lastI x r
theorem s_inc (n : Int) (l : List Int) (hl : l.length < 4611686018427387904) (a : Int) : forR (σ := Int) (ρ := Unit) (l.length : Int) (fun i1 s1 => (Option.bind (idxI l (i1 : Int)) fun e1 => (Option.bind (bif decide (e1 ≤ s1) then some true else some (decide (n ≤ e1))) fun v1 => (bif v1 then some (.inr ()) else some (.inl e1))))) a = some (bif incB n a l then .inl (lastI a l) else .inr ()) := by
  rw [forR_list (F := fun x s => bif (decide (x ≤ s) || decide (n ≤ x)) then some (.inr ()) else some (.inl x)) l hl (fun j hj s => by
    simp only [idxI_nat', List.getElem?_eq_getElem hj, Option.bind_some, cond_some, Bool.cond_true_left])]
  clear hl
  induction l generalizing a with
  | nil => rfl
  | cons x r ih =>
    simp only [goL, incB, lastI]
    cases decide (x ≤ a) <;> cases decide (n ≤ x) <;> simp [ih]
theorem incB_spec {n : Int} : ∀ {a : Int} {l : List Int}, incB n a l = true → (∀ x ∈ l, a < x ∧ x < n) ∧ l.Pairwise (· < ·)
  | a, [], _ => ⟨fun x hx => (by cases hx), List.Pairwise.nil⟩
  | a, x :: r, h => by
    simp only [incB, Bool.and_eq_true, Bool.not_eq_true', decide_eq_false_iff_not] at h
    obtain ⟨⟨h1, h2⟩, h3⟩ := h
    obtain ⟨h4, h5⟩ := incB_spec h3
    refine ⟨fun y hy => ?_, List.pairwise_cons.2 ⟨fun y hy => (h4 y hy).1, h5⟩⟩
    rcases List.mem_cons.1 hy with rfl | hy
    · exact ⟨by omega, by omega⟩
    · have := h4 y hy; exact ⟨by omega, this.2⟩
theorem incB_of {n : Int} : ∀ {a : Int} {l : List Int}, (∀ x ∈ l, a < x ∧ x < n) → l.Pairwise (· < ·) → incB n a l = true
  | a, [], _, _ => rfl
  | a, x :: r, h, hp => by
    have h1 := h x (by simp)
    obtain ⟨h2, h3⟩ := List.pairwise_cons.1 hp
    simp only [incB, Bool.and_eq_true, Bool.not_eq_true', decide_eq_false_iff_not]
    exact ⟨⟨by omega, by omega⟩, incB_of (fun y hy => ⟨h2 y hy, (h y (by simp [hy])).2⟩) h3⟩
theorem incB_len {n : Int} : ∀ {a : Int} {l : List Int}, incB n a l = true → (l.length : Int) ≤ 0 ∨ a + l.length < n
  | a, [], _ => .inl (by simp)
  | a, x :: r, h => by
    simp only [incB, Bool.and_eq_true, Bool.not_eq_true', decide_eq_false_iff_not] at h
    obtain ⟨⟨h1, h2⟩, h3⟩ := h
    rcases incB_len h3 with h4 | h4
    · simp only [List.length_cons]; omega
    · simp only [List.length_cons]; omega
theorem inc_nodup {l : List Int} (h : l.Pairwise (· < ·)) : l.Nodup := h.imp fun h => by omega
end Go.Proofs.Ytgligibbgobmnaa
namespace Go.Proofs.Ytgligibbgobmnaa
open Go.RowKit
set_option linter.unusedVariables false
set_option linter.unusedSimpArgs false
set_option maxRecDepth 100000

theorem s_less (x y : Int) : d_less x y = some (decide (x < y)) := by
  simp [d_less, d_isNaN2]

theorem s_half {a b : Int} (h0 : 0 ≤ a) (h1 : a ≤ b) (h2 : b < 4611686018427387904) : shrI .u64 .u64 (IntKind.u64.wrap (IntKind.i64.wrap (a + b))) 1 = some ((a + b) / 2) := by
  rw [wrap_i64 (by omega) (by omega), wrap_u64 (by omega) (by omega)]
  unfold shrI
  rw [if_neg (by omega)]
  have : (2 : Int) ^ (min (1 : Int).toNat IntKind.u64.bits) = 2 := by decide
  rw [this, Int.fdiv_eq_ediv_of_nonneg _ (by omega)]

def posI (l : List Int) (v : Int) : Option Int := if v ∈ l then some (l.idxOf v : Int) else none
theorem idxOf_eq {l : List Int} (hn : l.Nodup) {i : Nat} (hi : i < l.length) : l.idxOf l[i] = i := by
  have h1 : l.idxOf l[i] < l.length := List.idxOf_lt_length_iff.2 (List.getElem_mem hi)
  have h2 := List.getElem_idxOf h1
  exact (List.getElem?_inj h1 hn).1 (by rw [List.getElem?_eq_getElem h1, List.getElem?_eq_getElem hi, h2])
theorem posI_some {l : List Int} {v p : Int} (h : posI l v = some p) : 0 ≤ p ∧ l[p.toNat]? = some v := by
  unfold posI at h
  split at h
  · rename_i hm
    cases h
    have h1 : l.idxOf v < l.length := List.idxOf_lt_length_iff.2 hm
    exact ⟨by omega, by simp only [Int.toNat_natCast]; rw [List.getElem?_eq_getElem h1, List.getElem_idxOf h1]⟩
  · cases h
theorem posI_at {l : List Int} (hn : l.Nodup) {i : Nat} {v : Int} (h : l[i]? = some v) : posI l v = some (i : Int) := by
  obtain ⟨hi, rfl⟩ := List.getElem?_eq_some_iff.1 h
  unfold posI
  rw [if_pos (List.getElem_mem hi), idxOf_eq hn hi]

theorem s_BinarySearch (l : List Int) (v : Int) (hs : l.Pairwise (· < ·)) (hl : l.length < 4611686018427387904) : ∃ r : Int, d_BinarySearch l v = some (r, (posI l v).isSome) ∧ ∀ p, posI l v = some p → r = p := by
  have hp := List.pairwise_iff_getElem.1 hs
  unfold d_BinarySearch
  have hit : Ret (iter (σ := Int × Int) (ρ := Int) (fun s1 => (bif decide (s1.1 < s1.2) then (Option.bind (shrI .u64 .u64 (IntKind.u64.wrap (IntKind.i64.wrap (s1.1 + s1.2))) 1) fun e1 => (Option.bind (idxI l (IntKind.i64.wrap e1)) fun e2 => (Option.bind (d_less e2 v) fun r1 => (bif r1 then some (.inl ((IntKind.i64.wrap ((IntKind.i64.wrap e1) + 1)), s1.2)) else some (.inl (s1.1, (IntKind.i64.wrap e1))))))) else some (.inr s1.1))) (0, (l.length : Int)))
      (fun r => 0 ≤ r ∧ r ≤ l.length ∧ (∀ (j : Nat) (hj : j < l.length), (j : Int) < r → l[j] < v) ∧ (∀ (j : Nat) (hj : j < l.length), r ≤ (j : Int) → v ≤ l[j])) := by
    refine Ret.iter (fun s => 0 ≤ s.1 ∧ s.1 ≤ s.2 ∧ s.2 ≤ l.length ∧ (∀ (j : Nat) (hj : j < l.length), (j : Int) < s.1 → l[j] < v) ∧ (∀ (j : Nat) (hj : j < l.length), s.2 ≤ (j : Int) → v ≤ l[j])) (fun s => (s.2 - s.1).toNat) ⟨by simp, by simp, by simp, fun j hj h => by simp only at h; omega, fun j hj h => by simp only at h; omega⟩ ?_
    rintro ⟨lo, hi⟩ ⟨h1, h2, h3, h4, h5⟩
    simp only at h1 h2 h3 h4 h5 ⊢
    refine Ret.ite (fun hb => ?_) (fun hb => ?_)
    · have hlt := of_decide_eq_true hb
      rw [s_half h1 h2 (by omega)]
      simp only [Option.bind_some]
      have hm1 : lo ≤ (lo + hi) / 2 := by omega
      have hm2 : (lo + hi) / 2 < hi := by omega
      generalize (lo + hi) / 2 = m at hm1 hm2 ⊢
      rw [wrap_i64 (by omega) (by omega)]
      obtain ⟨hi', e⟩ := idxI_lt (l := l) (n := m) (by omega) (by omega)
      rw [e, wrap_i64 (by omega) (by omega)]
      simp only [Option.bind_some, s_less]
      refine Ret.ite (fun hb2 => ?_) (fun hb2 => ?_)
      · have hv := of_decide_eq_true hb2
        refine Ret.some ⟨⟨by show 0 ≤ m + 1; omega, by show m + 1 ≤ hi; omega, h3, fun j hj hjm => ?_, h5⟩, by show (hi - (m + 1)).toNat < (hi - lo).toNat; omega⟩
        have hjm : (j : Int) < m + 1 := hjm
        rcases Nat.lt_or_ge j m.toNat with h | h
        · have := hp j m.toNat hj hi' h; omega
        · obtain rfl : j = m.toNat := by omega
          exact hv
      · have hv : ¬ l[m.toNat] < v := of_decide_eq_false hb2
        refine Ret.some ⟨⟨h1, by show lo ≤ m; omega, by show m ≤ (l.length : Int); omega, h4, fun j hj hjm => ?_⟩, by show (m - lo).toNat < (hi - lo).toNat; omega⟩
        have hjm : m ≤ (j : Int) := hjm
        rcases Nat.lt_or_ge m.toNat j with h | h
        · have := hp m.toNat j hi' hj h; omega
        · obtain rfl : j = m.toNat := by omega
          omega
    · have hlt : ¬ lo < hi := of_decide_eq_false hb
      have : lo = hi := by omega
      subst this
      exact Ret.some ⟨h1, h3, h4, h5⟩
  obtain ⟨r, hr, hr0, hr1, hr2, hr3⟩ := hit
  rw [hr]
  simp only [Option.bind_some]
  by_cases hlt : r < (l.length : Int)
  · obtain ⟨hi', e⟩ := idxI_lt (l := l) (n := r) hr0 hlt
    simp only [hlt, decide_true, cond_true, e, Option.bind_some]
    by_cases hv : l[r.toNat] = v
    · have hpos : posI l v = some (r.toNat : Int) := posI_at (inc_nodup hs) (by rw [List.getElem?_eq_getElem hi', hv])
      refine ⟨r, by simp [hv, hpos], fun p hp => ?_⟩
      rw [hpos] at hp; cases hp; omega
    · have hn : posI l v = none := by
        unfold posI
        rw [if_neg]
        intro hm
        obtain ⟨j, hj, e2⟩ := List.getElem_of_mem hm
        rcases Nat.lt_trichotomy j r.toNat with h | h | h
        · have := hr2 j hj (by omega); omega
        · subst h; exact hv e2
        · have h6 := hp r.toNat j hi' hj h
          have h7 := hr3 r.toNat hi' (by omega)
          omega
      refine ⟨r, ?_, fun p hp => by rw [hn] at hp; cases hp⟩
      rw [hn]
      have : (l[r.toNat] == v) = false := beq_eq_false_iff_ne.2 hv
      simp [this, d_isNaN]
  · have hn : posI l v = none := by
      unfold posI
      rw [if_neg]
      intro hm
      obtain ⟨j, hj, e2⟩ := List.getElem_of_mem hm
      have := hr2 j hj (by omega); omega
    refine ⟨r, ?_, fun p hp => by rw [hn] at hp; cases hp⟩
    rw [hn]
    simp [hlt]

def emptyC : ContractT := { parties := 0, holders := [], units := [], acts := [], clauses := [], days := 0, off := [] }
def condP (l : List Int) (s : CondT) : Option CondT := (posI l s.clause).map fun p => ({ clause := p, is := s.is } : CondT)
def selK (c : ContractT) (l : List Int) (i : Int) : Option ClauseT := (idxI c.clauses i).bind fun k => (mapO (condP l) k.start).map fun st => ({ k with start := st } : ClauseT)
noncomputable def partR (c : ContractT) (l : List Int) : ContractT × Int :=
  bif (validR c).1 == 0 then bif incB c.clauses.length (-1) l then (match mapO (selK c l) l with
    | some ks => (({ c with clauses := ks } : ContractT), 0)
    | none => (emptyC, 1)) else (emptyC, 1) else (emptyC, 1)

theorem off_len {days : Int} {off : List Int} (hl : off.length < 4611686018427387904) (h : offB days off = true) : (off.length : Int) ≤ days ∨ off.length = 0 := by
  have e : offB days off = incB days (-1) off := by
    unfold offB
    rw [s_inc days off hl (-1)]
    cases incB days (-1) off <;> rfl
  rw [e] at h
  rcases incB_len h with h1 | h1 <;> omega

structure Small (c : ContractT) : Prop where
  parties : 1 ≤ c.parties ∧ c.parties ≤ 12
  days : 1 ≤ c.days ∧ c.days ≤ 2000
  holders : c.holders.length ≤ 12
  units : c.units.length ≤ 20
  acts : c.acts.length ≤ 60
  clauses : c.clauses.length ≤ 400
  off : c.off.length ≤ 2000
  start : ∀ k ∈ c.clauses, k.start.length ≤ 8
  cond : ∀ (i : Nat) (k : ClauseT), c.clauses[i]? = some k → ∀ s ∈ k.start, 0 ≤ s.clause ∧ s.clause < c.clauses.length ∧ s.clause ≠ (i : Int)

theorem small_of {c : ContractT} (ho : c.off.length < 4611686018427387904) (h : (validR c).1 = 0) : Small c := by
  obtain ⟨h1, h2, h3, _⟩ := validR_ok h
  simp only [limB, Bool.or_eq_false_iff, decide_eq_false_iff_not] at h1
  obtain ⟨a1, a2, a3, a4, a5, a6⟩ := h1
  simp only [framedB, Bool.and_eq_true, Bool.not_eq_true', decide_eq_false_iff_not] at h2
  obtain ⟨b1, b2, b3, b4, b5, b6, b7⟩ := h2
  have hcl : ∀ (i : Nat) (k : ClauseT), c.clauses[i]? = some k → clauseB c.holders.length c.units c.acts c.clauses.length i k = true := fun i k hk => by
    have := h3 i (List.getElem?_eq_some_iff.1 hk).1
    simp only [clB, hk] at this
    exact this
  refine ⟨⟨by omega, by omega⟩, ⟨by omega, by omega⟩, by omega, by omega, by omega, by omega, ?_, fun k hk => ?_, fun i k hk s hs => ?_⟩
  · rcases off_len ho b7 with h | h <;> omega
  · obtain ⟨i, hi, e⟩ := List.getElem_of_mem hk
    have := hcl i k (by rw [← e]; exact List.getElem?_eq_getElem hi)
    simp only [clauseB, Bool.and_eq_true, Bool.not_eq_true', decide_eq_false_iff_not] at this
    omega
  · have := hcl i k hk
    simp only [clauseB, Bool.and_eq_true] at this
    have := List.all_eq_true.1 this.2.2.1 s hs
    simp only [condB, Bool.and_eq_true, Bool.not_eq_true', decide_eq_false_iff_not, beq_eq_false_iff_ne] at this
    exact ⟨by omega, by omega, this.2.2.1⟩

theorem cloneI_of {α : Type} {by_ : Nat} {l : List α} (h : l.length * by_ ≤ 140737488355328) : cloneI by_ l = some l := by unfold cloneI; rw [if_pos h]

theorem s_Part (c : ContractT) (l : List Int) (ho : c.off.length < 4611686018427387904) (hst : ∀ k ∈ c.clauses, k.start.length < 4611686018427387904) (hl : l.length < 4611686018427387904) : d_Part c l = some (partR c l) := by
  unfold d_Part partR
  rw [s_Valid c ho hst]
  simp only [Option.bind_some]
  cases hv : ((validR c).1 == 0) with
  | false => rfl
  | true =>
    have sm := small_of ho (by simpa using hv)
    simp only [cond_true]
    rw [s_inc c.clauses.length l hl (-1)]
    simp only [Option.bind_some]
    cases hi : incB c.clauses.length (-1) l with
    | false => rfl
    | true =>
      obtain ⟨hr, hp⟩ := incB_spec hi
      have hlen : l.length ≤ 400 := by
        have := incB_len hi; have := sm.clauses; omega
      have e1 := sm.holders
      have e2 := sm.units
      have e3 := sm.acts
      have e4 := sm.off
      simp only [cond_true, Sum.elim_inl]
      rw [cloneI_of (by omega), cloneI_of (by omega), cloneI_of (by omega), cloneI_of (by omega)]
      have hmk : mkN 136 (l.length : Int) = some l.length := by
        unfold mkN; rw [if_pos (by omega)]; simp
      simp only [Option.bind_some, hmk]
      rw [forR_sets l (selK c l) _ () (by simp) (by omega) (fun i hi' ks hks => by
        have hx := hr l[i] (List.getElem_mem hi')
        obtain ⟨hci, eci⟩ := idxI_lt (l := c.clauses) (n := l[i]) (by omega) (by omega)
        simp only [idxI_nat', List.getElem?_eq_getElem hi', Option.bind_some, eci, selK]
        have hsl := sm.start _ (List.getElem_mem hci)
        rw [cloneI_of (by omega)]
        simp only [Option.bind_some]
        generalize hk : c.clauses[l[i].toNat] = k at hsl ⊢
        rw [forR_sets k.start (condP l) k.start () rfl (by omega) (fun i3 hi3 ks3 hks3 => by
          have hg : (ks3 ++ k.start.drop i3)[i3]? = some k.start[i3] := by
            rw [List.getElem?_append_right (by omega), hks3, Nat.sub_self, List.getElem?_drop]; simp [hi3]
          obtain ⟨r, hb1, hb2⟩ := s_BinarySearch l k.start[i3].clause hp hl
          simp only [idxN_nat hi3, Option.bind_some, hg, hb1, condP]
          cases hpos : posI l k.start[i3].clause with
          | none => rfl
          | some p => rw [hb2 p hpos]; rfl)]
        simp only [Option.bind_some]
        cases hm : mapO (condP l) k.start with
        | none => rfl
        | some st =>
          have hst' := mapO_len hm
          simp only [Sum.elim_inl, idxN_nat hi', Option.bind_some, Option.map_some]
          have hg : (ks ++ (List.replicate l.length ({ kind := 0, role := 0, act := 0, need := 0, start := [], after := 0, grace := 0, business := false, final := false, pause := 0, resume := 0, value := ({ num := 0, den := 0 } : Ratio), unit := 0, to := 0, waived := false } : ClauseT)).drop i)[i]?.isSome = true := by
            simp [hks, hi']; omega
          obtain ⟨z, hz⟩ := Option.isSome_iff_exists.1 hg
          rw [hz]
          simp only [Option.bind_some]
          rw [List.take_of_length_le (by omega)])]
      simp only [Option.bind_some]
      cases hm : mapO (selK c l) l with
      | none => rfl
      | some ks =>
        simp only [Sum.elim_inl]
        rw [List.take_of_length_le (by rw [mapO_len hm]; exact Nat.le_refl _)]

structure PartOk (c : ContractT) (l : List Int) (ks : List ClauseT) : Prop where
  valid : (validR c).1 = 0
  inc : incB c.clauses.length (-1) l = true
  sel : mapO (selK c l) l = some ks

theorem part_cases (c : ContractT) (l : List Int) : partR c l = (emptyC, 1) ∨ ∃ ks, PartOk c l ks ∧ partR c l = (({ c with clauses := ks } : ContractT), 0) := by
  unfold partR
  cases hv : ((validR c).1 == 0) with
  | false => exact .inl rfl
  | true =>
    cases hi : incB c.clauses.length (-1) l with
    | false => exact .inl rfl
    | true =>
      simp only [cond_true]
      cases hm : mapO (selK c l) l with
      | none => exact .inl rfl
      | some ks => exact .inr ⟨ks, ⟨by simpa using hv, hi, hm⟩, rfl⟩
theorem PartOk.eq {c : ContractT} {l : List Int} {ks : List ClauseT} (h : PartOk c l ks) : partR c l = (({ c with clauses := ks } : ContractT), 0) := by
  unfold partR
  rw [h.valid, h.inc, h.sel]; rfl

theorem selK_some {c : ContractT} {l : List Int} {i : Int} {k' : ClauseT} (h : selK c l i = some k') : ∃ k st, 0 ≤ i ∧ c.clauses[i.toNat]? = some k ∧ mapO (condP l) k.start = some st ∧ k' = ({ k with start := st } : ClauseT) := by
  unfold selK at h
  obtain ⟨k, h1, h2⟩ := obind h
  obtain ⟨h3, h4, _⟩ := idxI_some h1
  rw [Option.map_eq_some_iff] at h2
  obtain ⟨st, h5, h6⟩ := h2
  exact ⟨k, st, h3, h4, h5, h6.symm⟩
theorem condP_some {l : List Int} {s s' : CondT} (h : condP l s = some s') : ∃ p, posI l s.clause = some p ∧ s' = ({ clause := p, is := s.is } : CondT) := by
  unfold condP at h
  rw [Option.map_eq_some_iff] at h
  obtain ⟨p, h1, h2⟩ := h
  exact ⟨p, h1, h2.symm⟩

theorem PartOk.ok {c : ContractT} {l : List Int} {ks : List ClauseT} (ho : c.off.length < 4611686018427387904) (h : PartOk c l ks) : validR ({ c with clauses := ks } : ContractT) = (0, -1) := by
  have sm := small_of ho h.valid
  obtain ⟨v1, v2, v3, _⟩ := validR_ok h.valid
  obtain ⟨hr, hp⟩ := incB_spec h.inc
  have hkl := mapO_len h.sel
  have hlen := incB_len h.inc
  have hcl := sm.clauses
  refine validR_of ?_ v2 ?_
  · simp only [limB, Bool.or_eq_false_iff, decide_eq_false_iff_not] at v1 ⊢
    refine ⟨v1.1, v1.2.1, v1.2.2.1, v1.2.2.2.1, v1.2.2.2.2.1, by omega⟩
  · intro j hj
    have hj : j < ks.length := hj
    obtain ⟨k', h1, h2⟩ := mapO_at h.sel j l[j] (List.getElem?_eq_getElem (by omega))
    obtain ⟨k, st, h3, h4, h5, rfl⟩ := selK_some h1
    have hold := v3 l[j].toNat (List.getElem?_eq_some_iff.1 h4).1
    simp only [clB, h4] at hold
    simp only [clB, h2]
    simp only [clauseB, Bool.and_eq_true] at hold ⊢
    obtain ⟨a1, ⟨a2, a3⟩, a4, a5, a6⟩ := hold
    refine ⟨a1, ⟨a2, by rw [mapO_len h5]; exact a3⟩, ?_, a5, a6⟩
    refine List.all_eq_true.2 fun s' hs' => ?_
    obtain ⟨q, hq, e⟩ := List.getElem_of_mem hs'
    have hq' : q < k.start.length := by rw [← mapO_len h5]; exact hq
    obtain ⟨b, h6, h7⟩ := mapO_at h5 q k.start[q] (List.getElem?_eq_getElem hq')
    rw [List.getElem?_eq_getElem hq] at h7
    cases h7
    obtain ⟨p, h8, h9⟩ := condP_some h6
    have hold := List.all_eq_true.1 a4 k.start[q] (List.getElem_mem hq')
    obtain ⟨p1, p2⟩ := posI_some h8
    have p3 := (List.getElem?_eq_some_iff.1 p2).1
    rw [← e, h9]
    simp only [condB, Bool.and_eq_true, Bool.not_eq_true', decide_eq_false_iff_not, beq_eq_false_iff_ne] at hold ⊢
    refine ⟨by omega, by omega, fun hpj => ?_, hold.2.2.2⟩
    subst hpj
    simp only [Int.toNat_natCast] at p2
    rw [List.getElem?_eq_getElem (by omega)] at p2
    have p4 := Option.some.inj p2
    exact hold.2.2.1 (by omega)
end Go.Proofs.Ytgligibbgobmnaa
namespace Go.Proofs.Ytgligibbgobmnaa
open Go.RowKit
set_option linter.unusedVariables false
set_option linter.unusedSimpArgs false
set_option maxRecDepth 100000

theorem forR_true {f : Nat → Unit → Option (Unit ⊕ Unit)} {n : Nat} (hn : n < 4611686018427387904) (h : ∀ j, j < n → f j () = some (.inl ())) : forR (n : Int) f () = some (.inl ()) := by
  rw [forR_first (fun _ => true) (fun _ => ()) hn (fun j hj => by rw [h j hj]; rfl), find_none_of (fun _ _ => rfl)]
theorem ints_refl (a : List Int) (h : a.length < 4611686018427387904) : d_Ints a a = some true := by
  unfold d_Ints
  rw [forR_true h (fun j hj => by simp only [idxI_nat', List.getElem?_eq_getElem hj, Option.bind_some, beq_self_eq_true, cond_true])]
  simp
theorem clauses_refl (a : ClauseT) (h : a.start.length < 4611686018427387904) : d_Clauses a a = some true := by
  unfold d_Clauses
  rw [forR_true h (fun j hj => by simp only [idxI_nat', List.getElem?_eq_getElem hj, Option.bind_some, beq_self_eq_true, cond_true, Bool.and_self])]
  simp
theorem same_refl (a : ContractT) (h1 : a.holders.length < 4611686018427387904) (h2 : a.off.length < 4611686018427387904) (h3 : a.units.length < 4611686018427387904) (h4 : a.acts.length < 4611686018427387904) (h5 : a.clauses.length < 4611686018427387904) (h6 : ∀ k ∈ a.clauses, k.start.length < 4611686018427387904) : d_Same a a = some true := by
  unfold d_Same
  rw [ints_refl _ h1, ints_refl _ h2]
  rw [forR_true h3 (fun j hj => by simp [idxI_nat', List.getElem?_eq_getElem hj, ba_dec])]
  rw [forR_true h4 (fun j hj => by simp only [idxI_nat', List.getElem?_eq_getElem hj, Option.bind_some, beq_self_eq_true, cond_true, Bool.and_self])]
  rw [forR_true h5 (fun j hj => by simp only [idxI_nat', List.getElem?_eq_getElem hj, Option.bind_some, clauses_refl _ (h6 _ (List.getElem_mem hj)), cond_true])]
  simp

theorem mapO_eq {α β : Type} {g : α → Option β} : ∀ {l : List α} {ks : List β}, ks.length = l.length → (∀ (i : Nat) (x : α), l[i]? = some x → ∃ b, g x = some b ∧ ks[i]? = some b) → mapO g l = some ks
  | [], ks, h, _ => by simp at h; subst h; rfl
  | x :: l, [], h, _ => by simp at h
  | x :: l, k :: ks, h, hg => by
    obtain ⟨b, h1, h2⟩ := hg 0 x rfl
    have : k = b := by simpa using h2
    subst this
    have := mapO_eq (g := g) (l := l) (ks := ks) (by simpa using h) (fun i y hy => by
      have := hg (i + 1) y (by simpa using hy)
      simpa using this)
    simp only [mapO, h1, this]

theorem PartOk.starts {c : ContractT} {l : List Int} {ks : List ClauseT} (ho : c.off.length < 4611686018427387904) (h : PartOk c l ks) : ∀ k ∈ ks, k.start.length ≤ 8 := fun k' hk' => by
  have sm := small_of ho h.valid
  have hkl := mapO_len h.sel
  obtain ⟨j, hj, e⟩ := List.getElem_of_mem hk'
  obtain ⟨b, h1, h2⟩ := mapO_at h.sel j _ (List.getElem?_eq_getElem (by omega))
  rw [List.getElem?_eq_getElem hj] at h2
  cases h2
  obtain ⟨k, st, _, h4, h5, h6⟩ := selK_some h1
  rw [← e, h6]
  have := sm.start k (List.mem_of_getElem? h4)
  have := mapO_len h5
  show st.length ≤ 8
  omega

theorem PartOk.comp {c : ContractT} {first second : List Int} {ks ks2 : List ClauseT} (h1 : PartOk c first ks) (h2 : PartOk ({ c with clauses := ks } : ContractT) second ks2) : PartOk c (second.map fun j => first.getD j.toNat 0) ks2 := by
  obtain ⟨r1, p1⟩ := incB_spec h1.inc
  obtain ⟨r2, p2⟩ := incB_spec h2.inc
  have l1 := mapO_len h1.sel
  have l2 := mapO_len h2.sel
  have r2 : ∀ x ∈ second, -1 < x ∧ x < ks.length := r2
  have hp2 := List.pairwise_iff_getElem.1 p2
  have hp1 := List.pairwise_iff_getElem.1 p1
  have hg : ∀ (j : Nat) (hj : j < second.length), ∃ hm : second[j].toNat < first.length, (second.map fun j => first.getD j.toNat 0)[j]? = some first[second[j].toNat] := fun j hj => by
    have := r2 second[j] (List.getElem_mem hj)
    have hm : second[j].toNat < first.length := by omega
    refine ⟨hm, ?_⟩
    rw [List.getElem?_map, List.getElem?_eq_getElem hj]
    simp [List.getD_eq_getElem?_getD, List.getElem?_eq_getElem hm]
  have hinc : (second.map fun j => first.getD j.toNat 0).Pairwise (· < ·) := List.pairwise_iff_getElem.2 fun i j hi hj hij => by
    have hi' : i < second.length := by simpa using hi
    have hj' : j < second.length := by simpa using hj
    obtain ⟨m1, e1⟩ := hg i hi'
    obtain ⟨m2, e2⟩ := hg j hj'
    rw [List.getElem?_eq_getElem hi] at e1
    rw [List.getElem?_eq_getElem hj] at e2
    rw [Option.some.inj e1, Option.some.inj e2]
    have h := hp2 i j hi' hj' hij
    have := r2 second[i] (List.getElem_mem hi')
    exact hp1 _ _ m1 m2 (by omega)
  refine ⟨h1.valid, incB_of (fun x hx => ?_) hinc, mapO_eq (by rw [l2]; simp) fun j x hx => ?_⟩
  · obtain ⟨j, hj, e⟩ := List.getElem_of_mem hx
    obtain ⟨m, e1⟩ := hg j (by simpa using hj)
    rw [List.getElem?_eq_getElem hj] at e1
    rw [← e, Option.some.inj e1]
    exact r1 _ (List.getElem_mem m)
  · have hj : j < second.length := by have := (List.getElem?_eq_some_iff.1 hx).1; simpa using this
    obtain ⟨m, e1⟩ := hg j hj
    rw [hx] at e1
    cases e1
    obtain ⟨b, a1, a2⟩ := mapO_at h2.sel j second[j] (List.getElem?_eq_getElem hj)
    obtain ⟨kk, st2, _, a4, a5, rfl⟩ := selK_some a1
    have a4 : ks[second[j].toNat]? = some kk := a4
    obtain ⟨b, b1, b2⟩ := mapO_at h1.sel second[j].toNat first[second[j].toNat] (List.getElem?_eq_getElem m)
    rw [a4] at b2
    cases b2
    obtain ⟨k, st1, b3, b4, b5, b6⟩ := selK_some b1
    refine ⟨_, ?_, a2⟩
    unfold selK
    have e2 : idxI c.clauses first[second[j].toNat] = some k := by unfold idxI; rw [if_pos b3]; exact b4
    have hst : mapO (condP (second.map fun j => first.getD j.toNat 0)) k.start = some st2 := by
      subst b6
      have a5 : mapO (condP second) st1 = some st2 := a5
      refine mapO_eq (by rw [mapO_len a5, mapO_len b5]) fun q s hs => ?_
      obtain ⟨s1, c1, c2⟩ := mapO_at b5 q s hs
      obtain ⟨s2, c3, c4⟩ := mapO_at a5 q s1 c2
      obtain ⟨pp1, d1, rfl⟩ := condP_some c1
      obtain ⟨pp2, d2, rfl⟩ := condP_some c3
      refine ⟨_, ?_, c4⟩
      obtain ⟨f1, f2⟩ := posI_some d1
      obtain ⟨f3, f4⟩ := posI_some d2
      obtain ⟨f5, f6⟩ := List.getElem?_eq_some_iff.1 f4
      obtain ⟨_, e3⟩ := hg pp2.toNat f5
      have f6 : second[pp2.toNat] = pp1 := f6
      have hpos : posI (second.map fun j => first.getD j.toNat 0) s.clause = some (pp2.toNat : Int) := posI_at (inc_nodup hinc) (by
        rw [e3, ← f2, ← List.getElem?_eq_getElem]; congr 1; rw [f6])
      unfold condP
      rw [hpos]
      simp only [Option.map_some, Option.some.injEq, CondT.mk.injEq, and_true]
      omega
    rw [e2]
    simp only [Option.bind_some, hst, Option.map_some, b6]

theorem m_ContractAgain (c : ContractT) (first second : List Int) (hc : c.Ok) (hf : LOk 8 (fun x : Int => InK .i64 x) first) (hs : LOk 8 (fun x : Int => InK .i64 x) second) : d_ContractAgain c first second = some true := by
  have ho := hc.off.lt (by omega)
  have hf' := hf.lt (by omega)
  have hs' := hs.lt (by omega)
  unfold d_ContractAgain
  rw [s_head, hc.few 60, s_Part c first ho (fun k hk => (hc.clauses.2 k hk).start.lt (by omega)) hf']
  simp only [Option.bind_some]
  cases hfew : fewB c 60 with
  | false => rfl
  | true =>
    simp only [cond_true, cond_some, Option.bind_some]
    by_cases h1 : 60 < (first.length : Int)
    · simp [h1]
    by_cases h2 : 60 < (second.length : Int)
    · simp [h1, h2]
    simp only [h1, h2, decide_false, cond_false]
    rcases part_cases c first with e | ⟨ks, hpo, e⟩
    · rw [e]
      simp only
      rw [s_Part emptyC second (by decide) (fun k hk => by cases hk) hs']
      rfl
    · rw [e]
      simp only
      have hst := hpo.starts ho
      rw [s_Part ({ c with clauses := ks } : ContractT) second ho (fun k hk => by have := hst k hk; omega) hs']
      simp only [Option.bind_some, beq_self_eq_true, cond_true]
      rcases part_cases ({ c with clauses := ks } : ContractT) second with e2 | ⟨ks2, hpo2, e2⟩
      · rw [e2]; rfl
      · rw [e2]
        simp only [beq_self_eq_true, Bool.not_true, cond_false]
        obtain ⟨r2, _⟩ := incB_spec hpo2.inc
        have l1 := mapO_len hpo.sel
        have r2 : ∀ x ∈ second, -1 < x ∧ x < ks.length := r2
        rw [forR_map (s0 := ([] : List Int)) second (fun j => first.getD j.toNat 0) (fun acc => acc) (by omega) (fun i hi => by
          have hx := r2 second[i] (List.getElem_mem hi)
          obtain ⟨hm, em⟩ := idxI_lt (l := first) (n := second[i]) (by omega) (by omega)
          have b1 : decide (second[i] < 0) = false := by simp only [decide_eq_false_iff_not]; omega
          have b2 : decide ((first.length : Int) ≤ second[i]) = false := by simp only [decide_eq_false_iff_not]; omega
          simp only [idxI_nat', List.getElem?_eq_getElem hi, Option.bind_some, b1, b2, cond_false, em]
          rw [appI_of (by simp only [List.length_map, List.length_take, List.length_cons, List.length_nil]; omega)]
          simp [List.getD_eq_getElem?_getD, List.getElem?_eq_getElem hm]) rfl]
        simp only [Option.bind_some, Sum.elim_inl]
        have hcomp := hpo.comp hpo2
        have sm := small_of ho hpo.valid
        have hst2 := hcomp.starts ho
        have hlen2 := mapO_len hcomp.sel
        rw [s_Part c _ ho (fun k hk => (hc.clauses.2 k hk).start.lt (by omega)) (by simp; omega), hcomp.eq]
        simp only [Option.bind_some, beq_self_eq_true, cond_true]
        rw [same_refl ({ c with clauses := ks2 } : ContractT) (by have := sm.holders; show c.holders.length < _; omega) ho (by have := sm.units; show c.units.length < _; omega) (by have := sm.acts; show c.acts.length < _; omega) (by show ks2.length < _; rw [hlen2]; simp; omega) (fun k hk => by have := hst2 k hk; omega)]
        rfl
end Go.Proofs.Ytgligibbgobmnaa
namespace Go.Proofs.Ytgligibbgobmnaa.LContractAgain
open Go.ChangeShapes Go.WideShapes Go.ChangeAt Go.RowKit
set_option linter.unusedVariables false
set_option maxRecDepth 100000

theorem all (ivs : List IV) (h : HasArgs [(true, ContractT.tys), (false, [.slice 8 [.int .i64]]), (false, [.slice 8 [.int .i64]])] ivs) : APure C0 4 ivs (.bool true) := by
  match ivs, h with
  | [x0, x1, x2], ⟨a0, a1, a2, _⟩ =>
    obtain ⟨row0, rfl, r0⟩ := a0
    obtain ⟨c, rfl, ok_c⟩ := ContractT.opn r0
    obtain ⟨c1, _, e1, k1, n1⟩ := hcs_cons a1
    cases e1
    obtain ⟨first, rfl, ok_first⟩ := hasC_slice open_i64 k1
    obtain ⟨c2, _, e2, k2, n2⟩ := hcs_cons a2
    cases e2
    obtain ⟨second, rfl, ok_second⟩ := hasC_slice open_i64 k2
    exact t_ContractAgain c first second true (m_ContractAgain c first second ok_c ok_first ok_second)

theorem own : ownKnob Try.prog.godebug = none := by kernel_rfl
theorem laid : laidOutB Try.prog = true := by kernel_rfl
theorem args : mapO (argC Try.prog) Try.f7.params.toList = some [(true, ContractT.tys), (false, [.slice 8 [.int .i64]]), (false, [.slice 8 [.int .i64]])] := by kernel_rfl

theorem lifted (os : Os) (started : os.Started) (H : Type) (enc : TypeId × Value → H) :
    ReturnsInHanded {} Try.checked os 7 .any (Rows.contractAgainSpec.pre6 enc Try.prog Try.f7 Rows.contractAgainRow.domain false) (Rows.contractAgainSpec.post enc Try.prog Try.f7 false true false false) := by
  refine returnsInHanded_of_change_sized (C := Try.checked) own started (by kernel_rfl) Try.func7
    (ChangeSpec.witness6 (enc := enc) (C := Try.checked) false ⟨#[], #[.agg #[.int .i64 0, .slice none 0 0, .slice none 0 0, .slice none 0 0, .slice none 0 0, .int .i64 0, .slice none 0 0], .slice none 0 0, .slice none 0 0], []⟩ 8 (by kernel_rfl) (by kernel_rfl) (by kernel_rfl) (by kernel_rfl)) ?_
  intro W base args ds gs before hval hW _ hwt _
  exact law_contract (Cx := C0) (tb := 4) 4 rfl LContractAgain.args rfl (by kernel_rfl) rfl
    (fun ds h => by match ds, h with | [_, _, _], _ => rfl) LContractAgain.laid (by kernel_rfl) LContractAgain.all W base args ds gs before hval hW hwt

theorem holds : Rows.ContractAgainSaid :=
  OpenClaim.holds_of_wide 7 Try.f7 rfl rfl rfl rfl rfl rfl rfl ⟨rfl, rfl, rfl, rfl, rfl⟩ rfl rfl rfl rfl rfl (by kernel_rfl) Try.func7 (by kernel_rfl)
    (of_decide_eq_true (by kernel_rfl)) (by unfold Func.isWrapper; first | (rw [if_pos (by decide +kernel)]; kernel_rfl) | (rw [if_neg (by decide +kernel)]; exact ⟨rfl, rfl⟩))
    (fun os started H enc _ => lifted os started H enc)
end Go.Proofs.Ytgligibbgobmnaa.LContractAgain

namespace Go.Proofs.Ytgligibbgobmnaa
theorem contractAgain_holds : Rows.ContractAgainSaid := LContractAgain.holds
end Go.Proofs.Ytgligibbgobmnaa
