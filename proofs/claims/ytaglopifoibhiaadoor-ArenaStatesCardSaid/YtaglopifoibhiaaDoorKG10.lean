/-
  'ArenaStates': for every input the call returns true, and each argument reads afterwards as it read before.
  The law 'ArenaStates'.
  'arena.Reach': what it returns.
  The law 'ArenaTraces'.
  The law 'ArenaParts'.
  'system.Start', 'arena.Build', 'Index'.
  'arena.From': what it returns.
  A search through positions, breadth first: what is known of it.
  The fixed example of the laws: 'head' returns true. Printed by mkhead18.py.
  The text of a position tells it from every other position of the same contract.
  'arena.After'; 'Few', 'Tame', 'Doer'.
  'arena.Moves' and 'arena.After': what they return.
  'system.Step': what it returns.
  What an act does.
  What 'system.Step' does.
-/
import Derived.Test.YtaglopifoibhiaaDoorKG09
import Derived.Test.YtaglopifoibhiaaDoorKG06
import Derived.Test.YtaglopifoibhiaaDoorRows
import Derived.JoinedOf
import Derived.Test.YtaglopifoibhiaaDoorTie
import Derived.Test.YtaglopifoibhiaaDoorCards
import Derived.SevenTiedAt
namespace Go.Proofs.YtaglopifoibhiaaDoor
open Go.RowKit
set_option linter.unusedVariables false
set_option linter.unusedSimpArgs false
set_option maxRecDepth 100000

def runN (m : MarkT) : Bool := m.status == 1 || m.status == 2
theorem s_running (m : MarkT) : d_running m = some (runN m) := by
  simp only [d_running, cond_some, Option.bind_some, runN]; cases (m.status == 1) <;> rfl
def endM (st : Int) (m : MarkT) : MarkT := { m with status := st, left := 0, paused := false }
def tickK (free : Bool) (k : ClauseT) (m : MarkT) : MarkT :=
  bif runN m then (bif m.paused || (k.business && free) then m else
    bif m.left - 1 == 0 then (bif k.kind == 1 then (bif m.status == 1 && decide (0 < k.grace) then { m with status := 2, left := k.grace } else endM 4 m) else bif k.kind == 2 then endM 3 m else endM 5 m)
    else { m with left := m.left - 1 }) else m
def atK (c : ContractT) (F : ClauseT → MarkT → MarkT) (i : Nat) (m : MarkT) : MarkT := match c.clauses[i]? with | some k => F k m | none => m

structure RunV (c : ContractT) (k : ClauseT) (m : MarkT) : Prop where
  waived : k.waived = false
  left : 1 ≤ m.left ∧ m.left ≤ 400
  paused : m.paused = true → k.pause ≠ -1
  got : m.got = 0 ∨ (k.kind = 1 ∧ 0 ≤ m.got ∧ m.got < k.need)
  bearer : (k.kind = 4 ∧ m.bearer = -1) ∨ (k.kind ≠ 4 ∧ 0 ≤ m.bearer ∧ m.bearer < c.parties)
theorem runB_iff {p : Int} {k : ClauseT} {m : MarkT} : runB p k m = true ↔ k.waived = false ∧ 1 ≤ m.left ∧ (m.paused = true → k.pause ≠ -1) ∧ (m.got = 0 ∨ (k.kind = 1 ∧ 0 ≤ m.got ∧ m.got < k.need)) ∧ ((k.kind = 4 ∧ m.bearer = -1) ∨ (k.kind ≠ 4 ∧ 0 ≤ m.bearer ∧ m.bearer < p)) := by
  simp only [runB, Bool.and_eq_true, Bool.not_eq_true', Bool.or_eq_false_iff, decide_eq_false_iff_not, Bool.or_eq_true, beq_iff_eq]
  have e1 : (m.paused && k.pause == -1) = false ↔ (m.paused = true → k.pause ≠ -1) := by cases m.paused <;> simp
  have e2 : (bif k.kind == 4 then m.bearer == -1 else decide (0 ≤ m.bearer) && decide (m.bearer < p)) = true ↔ ((k.kind = 4 ∧ m.bearer = -1) ∨ (k.kind ≠ 4 ∧ 0 ≤ m.bearer ∧ m.bearer < p)) := by
    cases h : (k.kind == 4) with
    | true => have := beq_iff_eq.1 h; simp [this]
    | false => have := beq_eq_false_iff_ne.1 h; simp [this]
  rw [e1, e2]
  constructor
  · rintro ⟨⟨a, b, d⟩, e, f⟩; exact ⟨a, by omega, d, by omega, f⟩
  · rintro ⟨a, b, d, e, f⟩; exact ⟨⟨a, by omega, d⟩, by omega, f⟩
theorem mrkB_iff {p : Int} {k : ClauseT} {m : MarkT} : mrkB p k m = true ↔ (m.status = 0 ∧ k.waived = false ∧ idleB m = true) ∨ (m.status = 1 ∧ m.left ≤ k.after ∧ runB p k m = true) ∨ (m.status = 2 ∧ k.kind = 1 ∧ m.left ≤ k.grace ∧ runB p k m = true) ∨ ((m.status = 3 ∨ m.status = 4 ∨ m.status = 5) ∧ endB p m = true) := by
  unfold mrkB
  by_cases h0 : m.status = 0
  · simp [h0]
  by_cases h1 : m.status = 1
  · simp [h1]
  by_cases h2 : m.status = 2
  · simp [h2]
  have e0 : (m.status == 0) = false := beq_eq_false_iff_ne.2 h0
  have e1 : (m.status == 1) = false := beq_eq_false_iff_ne.2 h1
  have e2 : (m.status == 2) = false := beq_eq_false_iff_ne.2 h2
  simp [e0, e1, e2, h0, h1, h2]
theorem runV_of {c : ContractT} {i : Nat} {k : ClauseT} {m : MarkT} (kv : KV c i k) (h : mrkB c.parties k m = true) (hr : runN m = true) : RunV c k m ∧ runB c.parties k m = true ∧ (m.status = 1 ∧ m.left ≤ k.after ∨ m.status = 2 ∧ k.kind = 1 ∧ m.left ≤ k.grace) := by
  simp only [runN, Bool.or_eq_true, beq_iff_eq] at hr
  have ha := kv.after
  have hg := kv.grace
  rcases mrkB_iff.1 h with ⟨h0, _⟩ | ⟨h0, h1, h2⟩ | ⟨h0, h1, h2, h3⟩ | ⟨h0, _⟩
  · omega
  · obtain ⟨a, b, d, e, f⟩ := runB_iff.1 h2
    exact ⟨⟨a, ⟨b, by omega⟩, d, e, f⟩, h2, .inl ⟨h0, h1⟩⟩
  · obtain ⟨a, b, d, e, f⟩ := runB_iff.1 h3
    exact ⟨⟨a, ⟨b, by omega⟩, d, e, f⟩, h3, .inr ⟨h0, h1, h2⟩⟩
  · omega
theorem mrk_end {c : ContractT} {i : Nat} {k : ClauseT} {m : MarkT} {st : Int} (kv : KV c i k) (rv : RunV c k m) (hp : 0 < c.parties) (hst : st = 3 ∨ st = 4 ∨ st = 5) : mrkB c.parties k (endM st m) = true := by
  refine mrkB_iff.2 (.inr (.inr (.inr ⟨hst, ?_⟩)))
  have h1 := rv.got
  have h2 := rv.bearer
  have h3 := kv.need
  have e1 : decide (0 ≤ m.got) = true := decide_eq_true (by omega)
  have e2 : decide (m.got ≤ 9) = true := decide_eq_true (by omega)
  have e3 : decide (-1 ≤ m.bearer) = true := decide_eq_true (by omega)
  have e4 : decide (m.bearer < c.parties) = true := decide_eq_true (by omega)
  show ((0 : Int) == 0 && (decide (0 ≤ m.got) && (decide (m.got ≤ 9) && (decide (-1 ≤ m.bearer) && (decide (m.bearer < c.parties) && !false))))) = true
  rw [e1, e2, e3, e4]; rfl
theorem mrk_run {c : ContractT} {k : ClauseT} {m : MarkT} (h : (m.status = 1 ∧ m.left ≤ k.after) ∨ (m.status = 2 ∧ k.kind = 1 ∧ m.left ≤ k.grace)) (hr : runB c.parties k m = true) : mrkB c.parties k m = true := by
  rcases h with ⟨h0, h1⟩ | ⟨h0, h1, h2⟩
  · exact mrkB_iff.2 (.inr (.inl ⟨h0, h1, hr⟩))
  · exact mrkB_iff.2 (.inr (.inr (.inl ⟨h0, h1, h2, hr⟩)))

theorem MOk.mapIdx {c : ContractT} {ms : List MarkT} (F : ClauseT → MarkT → MarkT) (h : MOk c ms) (hF : ∀ (i : Nat) (k : ClauseT) (m : MarkT), c.clauses[i]? = some k → mrkB c.parties k m = true → mrkB c.parties k (F k m) = true) : MOk c (ms.mapIdx (atK c F)) := by
  refine ⟨by simpa using h.1, fun i k m hk hm => ?_⟩
  rw [List.getElem?_mapIdx] at hm
  obtain ⟨m0, h0, rfl⟩ := Option.map_eq_some_iff.1 hm
  simp only [atK, hk]
  exact hF i k m0 hk (h.2 i k m0 hk h0)

theorem mrk_tick {c : ContractT} {i : Nat} {k : ClauseT} {m : MarkT} (free : Bool) (kv : KV c i k) (hp : 0 < c.parties) (h : mrkB c.parties k m = true) : mrkB c.parties k (tickK free k m) = true := by
  unfold tickK
  cases hr : runN m with
  | false => exact h
  | true =>
    obtain ⟨rv, hb, hs⟩ := runV_of kv h hr
    simp only [cond_true]
    cases hp1 : (m.paused || (k.business && free)) with
    | true => exact h
    | false =>
      simp only [cond_false]
      have hl := rv.left
      obtain ⟨b1, b2, b3, b4, b5⟩ := runB_iff.1 hb
      cases hz : (m.left - 1 == 0) with
      | false =>
        have := beq_eq_false_iff_ne.1 hz
        refine mrk_run ?_ (runB_iff.2 ⟨b1, ?_, b3, b4, b5⟩)
        · simp only [cond_false]; omega
        · simp only [cond_false]; omega
      | true =>
        simp only [cond_true]
        cases h1 : (k.kind == 1) with
        | false =>
          cases h2 : (k.kind == 2) with
          | true => exact mrk_end kv rv hp (by omega)
          | false => exact mrk_end kv rv hp (by omega)
        | true =>
          simp only [cond_true]
          cases h3 : (m.status == 1 && decide (0 < k.grace)) with
          | false => exact mrk_end kv rv hp (by omega)
          | true =>
            simp only [Bool.and_eq_true, beq_iff_eq, decide_eq_true_eq] at h3
            exact mrk_run (.inr ⟨rfl, beq_iff_eq.1 h1, Int.le_refl _⟩) (runB_iff.2 ⟨b1, by simp only [cond_true]; omega, b3, b4, b5⟩)

theorem set_self {α : Type} {s : List α} {i : Nat} {m : α} (h : s[i]? = some m) : s.set i m = s := by
  obtain ⟨hi, rfl⟩ := List.getElem?_eq_some_iff.1 h
  exact List.set_getElem_self hi
theorem get_set {α : Type} {s : List α} {i : Nat} {m x : α} (h : s[i]? = some m) : (s.set i x)[i]? = some x := by
  have := (List.getElem?_eq_some_iff.1 h).1
  simp [this]

theorem s_end (i : Nat) (st : Int) (c : ContractT) (p4 : Int) (p5 : List Int) (p6 : Nat) (p7 : List Bool) (p8 : Nat) (ms : List MarkT) (n : Nat) (m : MarkT) (hi : i < n) (hm : ms[i]? = some m) : d_62a i st c p4 p5 p6 p7 p8 ms n = some (ms.set i (endM st m)) := by
  unfold d_62a
  simp only [idxN_nat hi, Option.bind_some, hm, List.set_set, endM]

theorem tick_eq (c : ContractT) (day : Int) (hs : List Int) (us : List Bool) (ms : List MarkT) (ho : c.off.length < 4611686018427387904) (hv : (validR c).1 = 0) (hm : MOk c ms) (hday : 0 ≤ day ∧ day ≤ 2000) :
    d_70a c day hs hs.length us us.length ms ms.length = startO c (day + 1) hs us (ms.mapIdx (atK c (tickK (posI c.off day).isSome))) := by
  have sm := small_of ho hv
  have hcl := sm.clauses
  have hl := hm.1
  unfold d_70a
  obtain ⟨r, hr, _⟩ := s_BinarySearch c.off day (off_of ho hv) ho
  rw [hr]
  simp only [Option.bind_some, d_66a]
  rw [forR_mapIdx ms (atK c (tickK (posI c.off day).isSome)) (by omega) ?_]
  · simp only [Option.bind_some, Sum.elim_inl]
    rw [wrap_i64 (by omega) (by omega)]
    unfold startO
    rw [List.length_mapIdx]
    generalize d_69a _ _ _ _ _ _ _ _ = x
    cases x <;> rfl
  · intro i m s h1 h2 h3
    have hi : i < ms.length := (List.getElem?_eq_some_iff.1 h1).1
    have hic : i < c.clauses.length := by omega
    have hk := List.getElem?_eq_getElem hic
    have kv := kv_of ho hv hk
    have hmk := hm.2 i _ _ hk h1
    simp only [idxN_nat hi, Option.bind_some, h3, s_running, atK, hk]
    generalize c.clauses[i] = k at hk kv hmk
    cases hrn : runN m with
    | false => simp only [cond_false, Option.bind_some, tickK, hrn, set_self h3]
    | true =>
      obtain ⟨rv, hb, hst⟩ := runV_of kv hmk hrn
      have hleft := rv.left
      simp only [cond_true, idxI_at hk, Option.bind_some, tickK, hrn, cond_some]
      have epb : (bif m.paused then true else bif k.business then (posI c.off day).isSome else false) = (m.paused || (k.business && (posI c.off day).isSome)) := by cases m.paused <;> cases k.business <;> rfl
      rw [epb]
      cases hp1 : (m.paused || (k.business && (posI c.off day).isSome)) with
      | true => simp only [cond_true, Option.bind_some, Bool.not_true, cond_false, set_self h3]
      | false =>
        rw [wrap_i64 (show -9223372036854775808 ≤ m.left - 1 by omega) (by omega)]
        simp only [cond_false, Option.bind_some, get_set h3]
        cases hz : (m.left - 1 == 0) with
        | false => simp only [cond_false, Option.bind_some, Bool.not_true]
        | true =>
          have hz' := beq_iff_eq.1 hz
          have hk0 : (k.kind == 0) = false := beq_eq_false_iff_ne.2 (by have := kv.kind; omega)
          simp only [cond_true, hk0, cond_false, d_63a, d_61a, d_64a, idxN_nat hi, Option.bind_some, get_set h3, idxI_at hk, cond_some]
          rw [s_end i 4 _ _ _ _ _ _ _ _ _ hi (get_set h3), s_end i 3 _ _ _ _ _ _ _ _ _ hi (get_set h3), s_end i 5 _ _ _ _ _ _ _ _ _ hi (get_set h3)]
          simp only [Option.bind_some, List.set_set, endM, hz']
          cases h1 : (k.kind == 1) with
          | true =>
            simp only [cond_true]
            have e3 : (bif m.status == 1 then decide (0 < k.grace) else false) = (m.status == 1 && decide (0 < k.grace)) := by cases (m.status == 1) <;> rfl
            rw [e3]
            cases h4 : (m.status == 1 && decide (0 < k.grace)) <;> simp
          | false =>
            cases h2 : (k.kind == 2) with
            | true => simp
            | false =>
              cases h3 : (k.kind == 3) with
              | true => simp
              | false =>
                have h4 : (k.kind == 4) = true := beq_iff_eq.2 (by have := kv.kind; have := beq_eq_false_iff_ne.1 h1; have := beq_eq_false_iff_ne.1 h2; have := beq_eq_false_iff_ne.1 h3; omega)
                simp [h4]
end Go.Proofs.YtaglopifoibhiaaDoor
namespace Go.Proofs.YtaglopifoibhiaaDoor
open Go.RowKit
set_option linter.unusedVariables false
set_option linter.unusedSimpArgs false
set_option maxRecDepth 100000

def pauseK (act : Int) (k : ClauseT) (m : MarkT) : MarkT :=
  bif runN m then (bif act == k.pause then { m with paused := true } else bif act == k.resume then { m with paused := false } else m) else m
def perfK (k : ClauseT) (m : MarkT) : MarkT := bif m.got + 1 == k.need then endM 3 { m with got := m.got + 1 } else { m with got := m.got + 1 }
def effK (k : ClauseT) (m : MarkT) : MarkT := bif k.kind == 1 then perfK k m else bif k.kind == 2 then (bif m.paused then m else endM 4 m) else endM 3 m
def actK (act by_ : Int) (k : ClauseT) (m : MarkT) : MarkT := bif runN m then (bif k.act == act && (k.kind == 4 || m.bearer == by_) then effK k m else m) else m
def moveK (a : ActT) (k : ClauseT) (m : MarkT) : MarkT := bif runN m then (bif !(k.kind == 4) && k.role == a.give then { m with bearer := a.to } else m) else m
def doerI (hs : List Int) (a : ActT) : Int := bif a.role == -1 then -1 else hs[a.role.toNat]?.getD 0

theorem s_doer (c : ContractT) (s : StateT) (i : Nat) (a : ActT) (ha : c.acts[i]? = some a) (h : a.role = -1 ∨ (0 ≤ a.role ∧ a.role < s.holders.length)) : d_doer c s i = some (doerI s.holders a) := by
  unfold d_doer doerI
  simp only [idxI_at ha, Option.bind_some]
  cases hr : (a.role == -1) with
  | true => rfl
  | false =>
    have h1 := beq_eq_false_iff_ne.1 hr
    obtain ⟨h2, h3⟩ := idxI_lt (l := s.holders) (n := a.role) (by omega) (by omega)
    simp only [cond_false, h3, Option.bind_some, List.getElem?_eq_getElem h2, Option.getD_some]

theorem mrk_pause {c : ContractT} {i : Nat} {k : ClauseT} {m : MarkT} {act : Int} (ha : 0 ≤ act) (kv : KV c i k) (h : mrkB c.parties k m = true) : mrkB c.parties k (pauseK act k m) = true := by
  unfold pauseK
  cases hr : runN m with
  | false => exact h
  | true =>
    obtain ⟨rv, hb, hs⟩ := runV_of kv h hr
    obtain ⟨b1, b2, b3, b4, b5⟩ := runB_iff.1 hb
    simp only [cond_true]
    cases h1 : (act == k.pause) with
    | true => exact mrk_run hs (runB_iff.2 ⟨b1, b2, fun _ => by have := beq_iff_eq.1 h1; omega, b4, b5⟩)
    | false =>
      cases h2 : (act == k.resume) with
      | true => exact mrk_run hs (runB_iff.2 ⟨b1, b2, fun h => absurd (show false = true from h) (by decide), b4, b5⟩)
      | false => exact h
theorem mrk_act {c : ContractT} {i : Nat} {k : ClauseT} {m : MarkT} {act by_ : Int} (hp : 0 < c.parties) (kv : KV c i k) (h : mrkB c.parties k m = true) : mrkB c.parties k (actK act by_ k m) = true := by
  unfold actK
  cases hr : runN m with
  | false => exact h
  | true =>
    obtain ⟨rv, hb, hs⟩ := runV_of kv h hr
    obtain ⟨b1, b2, b3, b4, b5⟩ := runB_iff.1 hb
    simp only [cond_true]
    cases h1 : (k.act == act && (k.kind == 4 || m.bearer == by_)) with
    | false => exact h
    | true =>
      simp only [cond_true, effK]
      have hn := kv.need
      cases h2 : (k.kind == 1) with
      | true =>
        have hk := beq_iff_eq.1 h2
        simp only [cond_true, perfK]
        cases h3 : (m.got + 1 == k.need) with
        | true =>
          have h3' := beq_iff_eq.1 h3
          refine mrkB_iff.2 (.inr (.inr (.inr ⟨.inl rfl, ?_⟩)))
          have e1 : decide (0 ≤ m.got + 1) = true := decide_eq_true (by omega)
          have e2 : decide (m.got + 1 ≤ 9) = true := decide_eq_true (by omega)
          have e3 : decide (-1 ≤ m.bearer) = true := decide_eq_true (by omega)
          have e4 : decide (m.bearer < c.parties) = true := decide_eq_true (by omega)
          show ((0 : Int) == 0 && (decide (0 ≤ m.got + 1) && (decide (m.got + 1 ≤ 9) && (decide (-1 ≤ m.bearer) && (decide (m.bearer < c.parties) && !false))))) = true
          rw [e1, e2, e3, e4]; rfl
        | false =>
          have h3' := beq_eq_false_iff_ne.1 h3
          refine mrk_run hs (runB_iff.2 ⟨b1, b2, b3, .inr ⟨hk, ?_, ?_⟩, b5⟩)
          · show 0 ≤ m.got + 1; omega
          · show m.got + 1 < k.need; omega
      | false =>
        simp only [cond_false]
        cases h3 : (k.kind == 2) with
        | true =>
          simp only [cond_true]
          cases m.paused with
          | true => exact h
          | false => exact mrk_end kv rv hp (by omega)
        | false => exact mrk_end kv rv hp (by omega)
theorem mrk_move {c : ContractT} {i : Nat} {k : ClauseT} {m : MarkT} {a : ActT} (kv : KV c i k) (ht : 0 ≤ a.to ∧ a.to < c.parties) (h : mrkB c.parties k m = true) : mrkB c.parties k (moveK a k m) = true := by
  unfold moveK
  cases hr : runN m with
  | false => exact h
  | true =>
    obtain ⟨rv, hb, hs⟩ := runV_of kv h hr
    obtain ⟨b1, b2, b3, b4, b5⟩ := runB_iff.1 hb
    simp only [cond_true]
    cases h1 : (!(k.kind == 4) && k.role == a.give) with
    | false => exact h
    | true =>
      simp only [Bool.and_eq_true, Bool.not_eq_true', beq_eq_false_iff_ne] at h1
      exact mrk_run hs (runB_iff.2 ⟨b1, b2, b3, b4, .inr ⟨h1.1, ht.1, ht.2⟩⟩)

def ms1 (c : ContractT) (act : Int) (ms : List MarkT) : List MarkT := ms.mapIdx (atK c (pauseK act))
def ms2 (c : ContractT) (act : Int) (a : ActT) (hs : List Int) (ms : List MarkT) : List MarkT := (ms1 c act ms).mapIdx (atK c (actK act (doerI hs a)))
def ms3 (c : ContractT) (act : Int) (a : ActT) (hs : List Int) (ms : List MarkT) : List MarkT := bif a.kind == 3 then (ms2 c act a hs ms).mapIdx (atK c (moveK a)) else ms2 c act a hs ms
def hs3 (a : ActT) (hs : List Int) : List Int := bif a.kind == 1 then hs else hs.set a.give.toNat a.to
def us3 (i : Nat) (a : ActT) (us : List Bool) : List Bool := bif a.kind == 1 then us else us.set i true

theorem ms1_ok {c : ContractT} {act : Int} {ms : List MarkT} (ho : c.off.length < 4611686018427387904) (hv : (validR c).1 = 0) (ha : 0 ≤ act) (hm : MOk c ms) : MOk c (ms1 c act ms) :=
  hm.mapIdx _ fun i k m hk h => mrk_pause ha (kv_of ho hv hk) h
theorem ms2_ok {c : ContractT} {act : Int} {a : ActT} {hs : List Int} {ms : List MarkT} (ho : c.off.length < 4611686018427387904) (hv : (validR c).1 = 0) (ha : 0 ≤ act) (hm : MOk c ms) : MOk c (ms2 c act a hs ms) :=
  (ms1_ok ho hv ha hm).mapIdx _ fun i k m hk h => mrk_act (by have := (small_of ho hv).parties; omega) (kv_of ho hv hk) h
theorem ms3_ok {c : ContractT} {act : Int} {a : ActT} {hs : List Int} {ms : List MarkT} (ho : c.off.length < 4611686018427387904) (hv : (validR c).1 = 0) (ha : 0 ≤ act) (av : AV2 c a) (hm : MOk c ms) : MOk c (ms3 c act a hs ms) := by
  unfold ms3
  cases h3 : (a.kind == 3) with
  | false => exact ms2_ok ho hv ha hm
  | true =>
    refine (ms2_ok ho hv ha hm).mapIdx _ fun i k m hk h => mrk_move (kv_of ho hv hk) ?_ h
    have := beq_iff_eq.1 h3
    have := av.kind
    omega

theorem act_eq (c : ContractT) (day : Int) (hs : List Int) (us : List Bool) (ms : List MarkT) (i : Nat) (a : ActT) (ho : c.off.length < 4611686018427387904) (hv : (validR c).1 = 0) (hh : hs.length = c.holders.length) (hu : us.length = c.acts.length)
    (ha : c.acts[i]? = some a) (hm : MOk c ms) :
    d_60a i c day hs hs.length us us.length ms ms.length = (bif !(a.kind == 1) && us[i]?.getD false then some (hs, us, ms) else
      (startO c day (hs3 a hs) (us3 i a us) (ms3 c i a hs ms)).bind fun r => some (hs3 a hs, us3 i a us, r)) := by
  have sm := small_of ho hv
  have hcl := sm.clauses
  have hl := hm.1
  have av := av_of hv ha
  have hia : i < c.acts.length := (List.getElem?_eq_some_iff.1 ha).1
  have hiu : i < us.length := by omega
  unfold d_60a
  have eU : (bif a.kind == 1 then some false else (Option.bind (idxN us.length (i : Int)) fun k1 => (Option.bind (us[k1]?) fun e2 => some e2))) = some (!(a.kind == 1) && us[i]?.getD false) := by
    simp only [idxN_nat hiu, Option.bind_some, List.getElem?_eq_getElem hiu, Option.getD_some]
    cases (a.kind == 1) <;> rfl
  simp only [idxI_at ha, Option.bind_some]
  rw [eU]
  simp only [Option.bind_some]
  cases hearly : (!(a.kind == 1) && us[i]?.getD false) with
  | true => rfl
  | false =>
    simp only [cond_false, d_66a, Option.bind_some]
    rw [forR_mapIdx ms (atK c (pauseK i)) (by omega) ?p1]
    case p1 =>
      intro j m s h1 h2 h3
      have hj : j < ms.length := (List.getElem?_eq_some_iff.1 h1).1
      have hk := List.getElem?_eq_getElem (show j < c.clauses.length by omega)
      simp only [idxN_nat hj, Option.bind_some, h3, s_running, atK, hk, pauseK]
      generalize c.clauses[j] = k at hk
      cases hrn : runN m with
      | false => simp only [cond_false, Option.bind_some, set_self h3]
      | true =>
        simp only [cond_true, idxI_at hk, Option.bind_some]
        cases ((i : Int) == k.pause) with
        | true => simp only [cond_true, Option.bind_some, Bool.not_true, cond_false]
        | false =>
          simp only [cond_false]
          cases ((i : Int) == k.resume) with
          | true => simp only [cond_true, Option.bind_some, Bool.not_true, cond_false]
          | false => simp only [cond_false, Option.bind_some, Bool.not_true, set_self h3]
    simp only [Option.bind_some, Sum.elim_inl]
    show Option.bind (eqN hs.length hs.length) _ = _
    simp only [eqN_self, Option.bind_some, eqN_of (show ms.length = (ms.mapIdx (atK c (pauseK (i : Int)))).length by simp)]
    rw [s_doer c _ i a ha (by have := av.role; simp only; omega)]
    simp only [Option.bind_some]
    have m1ok := ms1_ok (act := (i : Int)) ho hv (by omega) hm
    have hlen1 : (ms.length : Int) = ((ms1 c i ms).length : Int) := by simp [ms1]
    show Option.bind (Option.bind (forR (ms.length : Int) _ (ms1 c i ms)) _) _ = _
    rw [hlen1]
    rw [forR_mapIdx (ms1 c i ms) (atK c (actK i (doerI hs a))) (by simp [ms1]; omega) ?p2]
    case p2 =>
      intro j m s h1 h2 h3
      have hj1 : j < (ms1 c i ms).length := (List.getElem?_eq_some_iff.1 h1).1
      have hj : j < ms.length := by simpa [ms1] using hj1
      have hk := List.getElem?_eq_getElem (show j < c.clauses.length by omega)
      have kv := kv_of ho hv hk
      have hmk := m1ok.2 j _ _ hk h1
      simp only [idxN_nat hj, Option.bind_some, h3, s_running, atK, hk, actK]
      generalize c.clauses[j] = k at hk kv hmk
      cases hrn : runN m with
      | false => simp only [cond_false, Option.bind_some, set_self h3]
      | true =>
        obtain ⟨rv, hb, hst⟩ := runV_of kv hmk hrn
        simp only [cond_true, idxI_at hk, Option.bind_some]
        have eT : (bif k.act == (i : Int) then (bif k.kind == 4 then some true else some (m.bearer == doerI hs a)) else some false) = some (k.act == (i : Int) && (k.kind == 4 || m.bearer == doerI hs a)) := by
          cases (k.act == (i : Int)) <;> cases (k.kind == 4) <;> rfl
        rw [eT]
        simp only [Option.bind_some]
        cases (k.act == (i : Int) && (k.kind == 4 || m.bearer == doerI hs a)) with
        | false => simp only [cond_false, Option.bind_some, Bool.not_true, set_self h3]
        | true =>
          have hgot := rv.got
          have hneed := kv.need
          have hk0 : (k.kind == 0) = false := beq_eq_false_iff_ne.2 (by have := kv.kind; omega)
          simp only [cond_true, hk0, cond_false, d_65a, d_71a, d_61a, idxN_nat hj, Option.bind_some, h3, get_set h3, idxI_at hk, effK, perfK]
          rw [wrap_i64 (show -9223372036854775808 ≤ m.got + 1 by omega) (by omega)]
          rw [s_end j 3 _ _ _ _ _ _ _ _ _ hj h3, s_end j 3 _ _ _ _ _ _ _ _ _ hj (get_set h3), s_end j 4 _ _ _ _ _ _ _ _ _ hj h3]
          simp only [Option.bind_some, List.set_set]
          cases e1 : (k.kind == 1) with
          | true => cases (m.got + 1 == k.need) <;> simp
          | false =>
            cases e2 : (k.kind == 2) with
            | true => cases m.paused <;> simp [set_self h3]
            | false =>
              cases e3 : (k.kind == 3) with
              | true => simp
              | false =>
                have h4 : (k.kind == 4) = true := beq_iff_eq.2 (by have := kv.kind; have := beq_eq_false_iff_ne.1 e1; have := beq_eq_false_iff_ne.1 e2; have := beq_eq_false_iff_ne.1 e3; omega)
                simp [h4]
    simp only [Option.bind_some, Sum.elim_inl]
    show Option.bind (bif a.kind == 1 then some (hs, us, ms2 c i a hs ms) else _) _ = _
    have m2ok := ms2_ok (act := (i : Int)) (a := a) (hs := hs) ho hv (by omega) hm
    cases h1 : (a.kind == 1) with
    | true =>
      have h3 : (a.kind == 3) = false := beq_eq_false_iff_ne.2 (by have := beq_iff_eq.1 h1; omega)
      simp only [cond_true, Option.bind_some, hs3, us3, ms3, h1, h3, cond_false]
      unfold startO
      rw [show (ms2 c i a hs ms).length = ms.length by simp [ms2, ms1]]

    | false =>
      have hak := av.kind.resolve_left (beq_eq_false_iff_ne.1 h1)
      have hg : a.give.toNat < hs.length := by omega
      simp only [cond_false, d_68a, idxI_at ha, Option.bind_some]
      rw [idxN_lt (show 0 ≤ a.give by omega) (by omega), idxN_nat hiu]
      simp only [Option.bind_some, List.getElem?_eq_getElem hg, List.getElem?_eq_getElem hiu, d_66a, hs3, us3, ms3, h1, cond_false]
      cases h3 : (a.kind == 3) with
      | false =>
        simp only [cond_false, Option.bind_some]
        unfold startO
        rw [show (ms2 c i a hs ms).length = ms.length by simp [ms2, ms1], List.length_set, List.length_set]
        rfl
      | true =>
        simp only [cond_true]
        have hlen2 : (ms.length : Int) = ((ms2 c i a hs ms).length : Int) := by simp [ms2, ms1]
        rw [hlen2, show List.mapIdx (atK c (actK (i : Int) (doerI hs a))) (ms1 c i ms) = ms2 c i a hs ms from rfl]
        rw [forR_mapIdx (ms2 c i a hs ms) (atK c (moveK a)) (by simp [ms2, ms1]; omega) ?p3]
        case p3 =>
          intro j m s h1 h2 h3
          have hj1 : j < (ms2 c i a hs ms).length := (List.getElem?_eq_some_iff.1 h1).1
          have hj : j < ms.length := by simpa [ms2, ms1] using hj1
          have hk := List.getElem?_eq_getElem (show j < c.clauses.length by omega)
          simp only [idxN_nat hj, Option.bind_some, h3, s_running, atK, hk, moveK]
          generalize c.clauses[j] = k at hk
          cases hrn : runN m with
          | false => simp only [cond_false, Option.bind_some, set_self h3]
          | true =>
            simp only [cond_true, idxI_at hk, Option.bind_some]
            cases (k.kind == 4) with
            | true => simp only [cond_true, Option.bind_some, Bool.not_true, Bool.false_and, cond_false, set_self h3]
            | false =>
              simp only [cond_false, Option.bind_some, Bool.not_false, Bool.true_and]
              cases (k.role == a.give) with
              | true => simp only [cond_true, Option.bind_some, Bool.not_true, cond_false]
              | false => simp only [cond_false, Option.bind_some, Bool.not_true, set_self h3]
        simp only [Option.bind_some, Sum.elim_inl]
        unfold startO
        rw [show ((ms2 c i a hs ms).mapIdx (atK c (moveK a))).length = ms.length by simp [ms2, ms1], List.length_set, List.length_set]
end Go.Proofs.YtaglopifoibhiaaDoor
namespace Go.Proofs.YtaglopifoibhiaaDoor
open Go.RowKit
set_option linter.unusedVariables false
set_option linter.unusedSimpArgs false
set_option maxRecDepth 100000

def noS : StateT := { day := 0, holders := [], used := [], marks := [] }
def ActP (c : ContractT) (i : Nat) (a : ActT) (s r : StateT) : Prop :=
  (a.kind ≠ 1 ∧ s.used[i]? = some true ∧ r = s) ∨ ((a.kind = 1 ∨ s.used[i]? = some false) ∧ r.day = s.day ∧ r.holders = hs3 a s.holders ∧ r.used = us3 i a s.used ∧ StartP c (ms3 c i a s.holders s.marks) r.marks)
def TickP (c : ContractT) (s r : StateT) : Prop := r.day = s.day + 1 ∧ r.holders = s.holders ∧ r.used = s.used ∧ StartP c (s.marks.mapIdx (atK c (tickK (posI c.off s.day).isSome))) r.marks

theorem mkN_of {b n : Nat} (h : n < 1000) (hb : b ≤ 1000) : mkN b (n : Int) = some n := by
  unfold mkN
  have : n * b ≤ 1000 * 1000 := Nat.mul_le_mul (by omega) hb
  rw [if_pos ⟨by omega, by omega, by omega⟩]; simp
theorem copyI_of {α : Type} {l d : List α} {k : Nat} (h : k = d.length) (h2 : l.length = k) : copyI k d l = some l := by unfold copyI; rw [if_pos ⟨h, h2⟩]

theorem mem_set {α : Type} {l : List α} {i : Nat} {x y : α} (h : y ∈ l.set i x) : y ∈ l ∨ y = x := List.mem_or_eq_of_mem_set h

theorem step_ret {c : ContractT} {s : StateT} {a : Int} (hc : c.Ok) (hv : VS c s) (h1 : -1 ≤ a) (h2 : a < c.acts.length) (hd : s.day < c.days) :
    Ret (d_Step c s a) (fun r => r.2 = 0 ∧ VS c r.1 ∧ (a = -1 → TickP c s r.1) ∧ (∀ (i : Nat) (x : ActT), a = (i : Int) → c.acts[i]? = some x → ActP c i x s r.1)) := by
  have ho := hc.off.lt (by omega : 0 < 8)
  have sm := small_of ho hv.cv
  have s1 := sm.holders
  have s2 := sm.acts
  have s3 := sm.clauses
  have sd := sm.days
  have hlh := hv.lh
  have hlu := hv.lu
  have hlm := hv.lm
  have hday := hv.day
  have hmo : MOk c s.marks := ⟨hlm, fun i k m hk hm => hv.mrk i k m hk hm⟩
  unfold d_Step
  have e1 : decide (a < -1) = false := decide_eq_false (by omega)
  have e2 : decide ((c.acts.length : Int) ≤ a) = false := decide_eq_false (by omega)
  refine Ret.bindE (v := false) (by rw [s_ValidS c s hc, vsB_of hv, e1, e2]; rfl) ?_
  refine Ret.ite (fun h => by cases h) (fun _ => ?_)
  refine Ret.ite (fun h => absurd (beq_iff_eq.1 h) (by omega)) (fun _ => ?_)
  refine Ret.bindE (mkN_of (show s.holders.length < 1000 by omega) (by omega)) ?_
  refine Ret.bindE (mkN_of (show s.used.length < 1000 by omega) (by omega)) ?_
  refine Ret.bindE (mkN_of (show s.marks.length < 1000 by omega) (by omega)) ?_
  refine Ret.bindE (copyI_of (by simp) rfl) ?_
  refine Ret.bindE (copyI_of (by simp) rfl) ?_
  refine Ret.bindE (copyI_of (by simp) rfl) ?_
  cases ht : (a == (-1 : Int)) with
  | true =>
    have ha := beq_iff_eq.1 ht
    simp only [cond_true]
    rw [tick_eq c s.day s.holders s.used s.marks ho hv.cv hmo (by omega)]
    have hmo2 : MOk c (s.marks.mapIdx (atK c (tickK (posI c.off s.day).isSome))) := hmo.mapIdx _ fun i k m hk h => mrk_tick _ (kv_of ho hv.cv hk) (by have := sm.parties; omega) h
    refine Ret.bind (P := fun v : List Int × List Bool × List MarkT × Int => v.1 = s.holders ∧ v.2.1 = s.used ∧ v.2.2.2 = s.day + 1 ∧ StartP c (s.marks.mapIdx (atK c (tickK (posI c.off s.day).isSome))) v.2.2.1)
      (Ret.bind (start_ret c (s.day + 1) s.holders s.used _ ho hv.cv hlh hv.hold hmo2) fun r hr => Ret.some ⟨rfl, rfl, wrap_i64 (by omega) (by omega), hr⟩) ?_
    rintro ⟨v1, v2, v3, v4⟩ ⟨q1, q2, q3, q4⟩
    simp only at q1 q2 q3 q4
    subst q1; subst q2; subst q3
    have hl3 : s.marks.length = v3.length := by have := q4.ok.1; omega
    simp only [eqN_self, eqN_of hl3, Option.bind_some]
    refine Ret.some ⟨rfl, ⟨hv.cv, ⟨by show 0 ≤ s.day + 1; omega, by show s.day + 1 ≤ c.days; omega⟩, hlh, hlu, q4.ok.1, hv.hold, hv.used, q4.ok.2, q4.nr⟩, fun _ => ⟨rfl, rfl, rfl, q4⟩, fun i x hi => by omega⟩
  | false =>
    have ha := beq_eq_false_iff_ne.1 ht
    obtain ⟨i, rfl⟩ : ∃ i : Nat, a = (i : Int) := ⟨a.toNat, by omega⟩
    have hi : i < c.acts.length := by omega
    have hx := List.getElem?_eq_getElem hi
    generalize c.acts[i] = x at hx
    have av := av_of hv.cv hx
    simp only [cond_false]
    rw [act_eq c s.day s.holders s.used s.marks i x ho hv.cv hlh hlu hx hmo]
    have hiu : i < s.used.length := by omega
    cases hearly : (!(x.kind == 1) && s.used[i]?.getD false) with
    | true =>
      simp only [cond_true, Option.bind_some, eqN_self]
      refine Ret.some ⟨rfl, hv, fun h => by omega, fun j y hj hy => ?_⟩
      obtain rfl : i = j := by omega
      rw [hx] at hy; cases hy
      simp only [Bool.and_eq_true, Bool.not_eq_true', beq_eq_false_iff_ne, List.getElem?_eq_getElem hiu, Option.getD_some] at hearly
      exact .inl ⟨hearly.1, by rw [List.getElem?_eq_getElem hiu, hearly.2], rfl⟩
    | false =>
      simp only [cond_false]
      have hkd := av.kind
      have hh3 : (hs3 x s.holders).length = c.holders.length := by unfold hs3; cases (x.kind == 1) <;> simp [hlh]
      have hu3 : (us3 i x s.used).length = c.acts.length := by unfold us3; cases (x.kind == 1) <;> simp [hlu]
      have hb3 : ∀ h ∈ hs3 x s.holders, 0 ≤ h ∧ h < c.parties := by
        unfold hs3
        cases hk1 : (x.kind == 1) with
        | true => exact hv.hold
        | false =>
          intro h hh
          have := hkd.resolve_left (beq_eq_false_iff_ne.1 hk1)
          rcases mem_set hh with h' | h'
          · exact hv.hold h h'
          · omega
      have hus3 : ∀ (j : Nat) (y : ActT), c.acts[j]? = some y → (us3 i x s.used)[j]? = some true → y.kind ≠ 1 := by
        unfold us3
        cases hk1 : (x.kind == 1) with
        | true => exact hv.used
        | false =>
          intro j y hy hj
          simp only [cond_false] at hj
          rw [List.getElem?_set] at hj
          by_cases hij : i = j
          · subst hij
            rw [hx] at hy; cases hy
            exact beq_eq_false_iff_ne.1 hk1
          · rw [if_neg hij] at hj; exact hv.used j y hy hj
      refine Ret.bind (P := fun v : List Int × List Bool × List MarkT × Int => v.1 = hs3 x s.holders ∧ v.2.1 = us3 i x s.used ∧ v.2.2.2 = s.day ∧ StartP c (ms3 c i x s.holders s.marks) v.2.2.1)
        (Ret.bind (P := fun v : List Int × List Bool × List MarkT => v.1 = hs3 x s.holders ∧ v.2.1 = us3 i x s.used ∧ StartP c (ms3 c i x s.holders s.marks) v.2.2) (Ret.bind (start_ret c s.day _ (us3 i x s.used) _ ho hv.cv hh3 hb3 (ms3_ok ho hv.cv (by omega) av hmo)) fun r hr => Ret.some ⟨rfl, rfl, hr⟩) fun v hv' => Ret.some ⟨hv'.1, hv'.2.1, rfl, hv'.2.2⟩) ?_
      rintro ⟨v1, v2, v3, v4⟩ ⟨q1, q2, q3, q4⟩
      simp only at q1 q2 q3 q4
      subst q1; subst q2; subst q3
      have hl3 : s.marks.length = v3.length := by have := q4.ok.1; omega
      simp only [eqN_of (show s.holders.length = (hs3 x s.holders).length by omega), eqN_of (show s.used.length = (us3 i x s.used).length by omega), eqN_of hl3, Option.bind_some]
      refine Ret.some ⟨rfl, ⟨hv.cv, hday, hh3, hu3, q4.ok.1, hb3, hus3, q4.ok.2, q4.nr⟩, fun h => by omega, fun j y hj hy => ?_⟩
      obtain rfl : i = j := by omega
      rw [hx] at hy; cases hy
      refine .inr ⟨?_, rfl, rfl, rfl, q4⟩
      simp only [Bool.and_eq_false_iff, Bool.not_eq_false', beq_iff_eq, List.getElem?_eq_getElem hiu, Option.getD_some] at hearly
      rcases hearly with h | h
      · exact .inl h
      · exact .inr (by rw [List.getElem?_eq_getElem hiu, h])
end Go.Proofs.YtaglopifoibhiaaDoor
namespace Go.Proofs.YtaglopifoibhiaaDoor
open Go.RowKit
set_option linter.unusedVariables false
set_option linter.unusedSimpArgs false
set_option maxRecDepth 100000

noncomputable def stepS (c : ContractT) (s : StateT) (a : Int) : StateT := ((d_Step c s a).getD (noS, 1)).1
theorem step_ok {c : ContractT} {s : StateT} {a : Int} (hc : c.Ok) (hv : VS c s) (h1 : -1 ≤ a) (h2 : a < c.acts.length) (hd : s.day < c.days) :
    d_Step c s a = some (stepS c s a, 0) ∧ VS c (stepS c s a) ∧ (a = -1 → TickP c s (stepS c s a)) ∧ (∀ (i : Nat) (x : ActT), a = (i : Int) → c.acts[i]? = some x → ActP c i x s (stepS c s a)) := by
  obtain ⟨⟨r1, r2⟩, e, h⟩ := step_ret hc hv h1 h2 hd
  have e2 : stepS c s a = r1 := by unfold stepS; rw [e]; rfl
  rw [e2, e]
  obtain ⟨h0, h⟩ := h
  simp only at h0 h
  subst h0
  exact ⟨rfl, h⟩

theorem eq_loop {α : Type} [BEq α] [LawfulBEq α] {f : Nat → Unit → Option (Unit ⊕ Unit)} (a b : List α) (hl : a.length = b.length) (ha : a.length < 4611686018427387904) (h : ∀ (i : Nat) (h1 : i < a.length) (h2 : i < b.length), f i () = some (bif a[i] == b[i] then .inl () else .inr ())) :
    forR (a.length : Int) f () = some (bif a == b then .inl () else .inr ()) := by
  rw [forR_allN (fun i => a[i]? == b[i]?) ha (fun i hi => by
    rw [h i hi (by omega), List.getElem?_eq_getElem hi, List.getElem?_eq_getElem (show i < b.length by omega)]
    show _ = some (bif (some a[i] == some b[i]) then _ else _)
    rfl)]
  congr 2
  rw [Bool.eq_iff_iff, List.all_eq_true]
  constructor
  · intro hh
    rw [beq_iff_eq]
    refine List.ext_getElem? fun i => ?_
    by_cases hi : i < a.length
    · exact beq_iff_eq.1 (hh i (List.mem_range.2 hi))
    · rw [List.getElem?_eq_none (by omega), List.getElem?_eq_none (by omega)]
  · intro hh i _
    rw [beq_iff_eq.1 hh]; exact beq_self_eq_true _

theorem len_beq {α : Type} (a b : List α) : ((a.length : Int) == (b.length : Int)) = decide (a.length = b.length) := by
  by_cases h : a.length = b.length
  · simp [h]
  · simp only [h, decide_false]; exact beq_eq_false_iff_ne.2 (by omega)

theorem s_EqI (a b : List Int) (ha : a.length < 4611686018427387904) : d_EqI a b = some (a == b) := by
  unfold d_EqI
  rw [len_beq]
  by_cases h : a.length = b.length
  · simp only [h, decide_true, cond_true]
    rw [← h, eq_loop a b h ha (fun i h1 h2 => by
      simp only [idxI_nat', List.getElem?_eq_getElem h1, List.getElem?_eq_getElem h2, Option.bind_some, cond_some])]
    cases (a == b) <;> rfl
  · simp only [h, decide_false, cond_false]
    have : a ≠ b := fun e => h (by rw [e])
    rw [beq_eq_false_iff_ne.2 this]
theorem s_EqB (a b : List Bool) (ha : a.length < 4611686018427387904) : d_EqB a b = some (a == b) := by
  unfold d_EqB
  rw [len_beq]
  by_cases h : a.length = b.length
  · simp only [h, decide_true, cond_true]
    rw [← h, eq_loop a b h ha (fun i h1 h2 => by
      simp only [idxI_nat', List.getElem?_eq_getElem h1, List.getElem?_eq_getElem h2, Option.bind_some, cond_some])]
    cases (a == b) <;> rfl
  · simp only [h, decide_false, cond_false]
    have : a ≠ b := fun e => h (by rw [e])
    rw [beq_eq_false_iff_ne.2 this]

instance : BEq MarkT := ⟨fun a b => (a.status == b.status) && ((a.left == b.left) && ((a.got == b.got) && ((a.bearer == b.bearer) && ((a.paused == b.paused) && true))))⟩
instance : LawfulBEq MarkT where
  eq_of_beq {a b} h := by
    have h' : ((a.status == b.status) && ((a.left == b.left) && ((a.got == b.got) && ((a.bearer == b.bearer) && ((a.paused == b.paused) && true))))) = true := h
    simp only [Bool.and_eq_true, beq_iff_eq, and_true] at h'
    obtain ⟨h1, h2, h3, h4, h5⟩ := h'
    cases a; cases b; simp_all
  rfl {a} := by
    show ((a.status == a.status) && ((a.left == a.left) && ((a.got == a.got) && ((a.bearer == a.bearer) && ((a.paused == a.paused) && true))))) = true
    simp
theorem s_EqM (a b : List MarkT) (ha : a.length < 4611686018427387904) : d_EqM a b = some (a == b) := by
  unfold d_EqM
  rw [len_beq]
  by_cases h : a.length = b.length
  · simp only [h, decide_true, cond_true]
    rw [← h, eq_loop a b h ha (fun i h1 h2 => by
      simp only [idxI_nat', List.getElem?_eq_getElem h1, List.getElem?_eq_getElem h2, Option.bind_some, cond_some]; rfl)]
    cases (a == b) <;> rfl
  · simp only [h, decide_false, cond_false]
    have : a ≠ b := fun e => h (by rw [e])
    rw [beq_eq_false_iff_ne.2 this]

def sameB (a b : StateT) : Bool := a.day == b.day && (a.holders == b.holders && (a.used == b.used && a.marks == b.marks))
theorem sameB_iff {a b : StateT} : sameB a b = true ↔ a = b := by
  unfold sameB
  simp only [Bool.and_eq_true, beq_iff_eq]
  constructor
  · rintro ⟨h1, h2, h3, h4⟩
    cases a; cases b; simp_all
  · rintro rfl; exact ⟨rfl, rfl, rfl, rfl⟩
theorem s_SameS (a b : StateT) (h1 : a.holders.length < 4611686018427387904) (h2 : a.used.length < 4611686018427387904) (h3 : a.marks.length < 4611686018427387904) : d_SameS a b = some (sameB a b) := by
  unfold d_SameS sameB
  rw [s_EqI _ _ h1, s_EqB _ _ h2, s_EqM _ _ h3]
  simp only [Option.bind_some, cond_some, Bool.cond_false_right]

theorem VS.few {c : ContractT} {s : StateT} (hc : c.Ok) (h : VS c s) : s.holders.length ≤ 12 ∧ s.used.length ≤ 60 ∧ s.marks.length ≤ 400 := by
  have sm := small_of (hc.off.lt (by omega)) h.cv
  have := sm.holders
  have := sm.acts
  have := sm.clauses
  have := h.lh
  have := h.lu
  have := h.lm
  omega
theorem s_copied {c : ContractT} {s : StateT} (hc : c.Ok) (h : VS c s) : d_copied s = some s := by
  have := h.few hc
  unfold d_copied
  rw [cloneI_of (by omega), cloneI_of (by omega), cloneI_of (by omega)]
  rfl

noncomputable def playB (c : ContractT) (party : Int) (s : StateT) : Bool := decide (0 ≤ party) && (decide (party < c.parties) && vsB c s)
theorem s_playable {c : ContractT} (hc : c.Ok) (party : Int) (p : PosT) : d_playable c party p = some (playB c party p.state) := by
  unfold d_playable playB
  rw [s_ValidS c _ hc]
  simp only [Option.bind_some, cond_some, Bool.cond_false_right]
theorem playB_iff {c : ContractT} {party : Int} {s : StateT} : playB c party s = true ↔ 0 ≤ party ∧ party < c.parties ∧ VS c s := by
  simp only [playB, Bool.and_eq_true, decide_eq_true_eq]
  exact ⟨fun ⟨a, b, d⟩ => ⟨a, b, vs_of d⟩, fun ⟨a, b, d⟩ => ⟨a, b, vsB_of d⟩⟩

noncomputable def mvB (c : ContractT) (party : Int) (p : PosT) (i : Nat) : Bool := match c.acts[i]? with
  | some a => ((doerI p.state.holders a == party) == p.own) && !sameB (stepS c p.state i) p.state
  | none => false
noncomputable def actsL (c : ContractT) (party : Int) (p : PosT) (n : Nat) : List Int := ((List.range n).filter (mvB c party p)).map fun i : Nat => (i : Int)
noncomputable def movesL (c : ContractT) (party : Int) (p : PosT) : List Int :=
  (bif p.own then [-2] else []) ++ (bif decide (c.days ≤ p.state.day) then [] else (bif p.own then [] else [-1]) ++ actsL c party p c.acts.length)
noncomputable def target (c : ContractT) (p : PosT) (move : Int) : PosT := if move = -2 then { state := p.state, own := false } else { state := stepS c p.state move, own := true }

theorem actsL_succ (c : ContractT) (party : Int) (p : PosT) (n : Nat) : actsL c party p (n + 1) = actsL c party p n ++ (bif mvB c party p n then [(n : Int)] else []) := by
  unfold actsL
  rw [List.range_succ, List.filter_append, List.map_append]
  congr 1
  cases h : mvB c party p n <;> simp [h]
theorem actsL_len (c : ContractT) (party : Int) (p : PosT) (n : Nat) : (actsL c party p n).length ≤ n := by
  unfold actsL
  rw [List.length_map]
  have := List.length_filter_le (mvB c party p) (List.range n)
  simpa using this

theorem doer_idx {c : ContractT} {s : StateT} {a : ActT} (hv : VS c s) (av : AV2 c a) : (bif a.role == (-1) then some (-1) else (Option.bind (idxI s.holders a.role) fun e2 => some e2)) = some (doerI s.holders a) := by
  unfold doerI
  cases hr : (a.role == (-1 : Int)) with
  | true => rfl
  | false =>
    have h1 := beq_eq_false_iff_ne.1 hr
    have := av.role
    have := hv.lh
    obtain ⟨h2, h3⟩ := idxI_lt (l := s.holders) (n := a.role) (by omega) (by omega)
    rw [h3, List.getElem?_eq_getElem h2]; rfl

end Go.Proofs.YtaglopifoibhiaaDoor
namespace Go.Proofs.YtaglopifoibhiaaDoor
open Go.RowKit
set_option linter.unusedVariables false
set_option linter.unusedSimpArgs false
set_option maxRecDepth 100000

theorem mem_acts {c : ContractT} {party : Int} {p : PosT} {n : Nat} {x : Int} : x ∈ actsL c party p n ↔ ∃ i : Nat, i < n ∧ mvB c party p i = true ∧ x = (i : Int) := by
  unfold actsL
  simp only [List.mem_map, List.mem_filter, List.mem_range]
  constructor
  · rintro ⟨i, ⟨a, b⟩, rfl⟩; exact ⟨i, a, b, rfl⟩
  · rintro ⟨i, a, b, rfl⟩; exact ⟨i, ⟨a, b⟩, rfl⟩
theorem mem_moves {c : ContractT} {party : Int} {p : PosT} {x : Int} : x ∈ movesL c party p ↔ (p.own = true ∧ x = -2) ∨ (p.state.day < c.days ∧ p.own = false ∧ x = -1) ∨ (p.state.day < c.days ∧ ∃ i : Nat, i < c.acts.length ∧ mvB c party p i = true ∧ x = (i : Int)) := by
  unfold movesL
  by_cases hd : c.days ≤ p.state.day
  · have : ¬ p.state.day < c.days := by omega
    simp only [hd, decide_true, cond_true, List.append_nil, this, false_and, or_false]
    cases p.own <;> simp
  · have : p.state.day < c.days := by omega
    simp only [hd, decide_false, cond_false, List.mem_append, mem_acts, this, true_and]
    cases p.own <;> simp
/-! ### Sizes -/
def smallB (c : ContractT) (n : Int) : Bool :=
  !(decide (20 < (c.holders.length : Int)) || (decide (30 < (c.units.length : Int)) || (decide (70 < (c.acts.length : Int)) || (decide (n < (c.clauses.length : Int)) || decide (100 < (c.off.length : Int)))))) && c.clauses.all (fun k => !decide (20 < (k.start.length : Int)))
theorem s_Small15 (c : ContractT) (n : Int) (hc : c.clauses.length < 4611686018427387904) : d_Small15 c n = some (smallB c n) := by
  unfold d_Small15 smallB
  rw [forR_all (l := c.clauses) (fun k => !decide (20 < (k.start.length : Int))) hc (fun i hi => by
    simp only [idxI_nat', List.getElem?_eq_getElem hi, Option.bind_some]
    cases decide (20 < (c.clauses[i].start.length : Int)) <;> rfl)]
  simp only [cond_some, Option.bind_some, Bool.cond_true_left]
  cases (decide (20 < (c.holders.length : Int)) || (decide (30 < (c.units.length : Int)) || (decide (70 < (c.acts.length : Int)) || (decide (n < (c.clauses.length : Int)) || decide (100 < (c.off.length : Int)))))) <;>
    cases c.clauses.all (fun k => !decide (20 < (k.start.length : Int))) <;> rfl
def tameB (c : ContractT) : Bool := smallB c 6 && (decide ((c.acts.length : Int) ≤ 8) && decide (c.days ≤ 20))
theorem s_Tame {c : ContractT} (hc : c.Ok) : d_Tame c = some (tameB c) := by
  unfold d_Tame tameB
  rw [s_Small15 c 6 (hc.clauses.lt (by omega))]
  simp only [cond_some, Option.bind_some, Bool.cond_false_right]

end Go.Proofs.YtaglopifoibhiaaDoor
namespace Go.Proofs.YtaglopifoibhiaaDoor
open Go.RowKit
set_option linter.unusedVariables false
set_option linter.unusedSimpArgs false
set_option maxRecDepth 100000

theorem digit_toNat {d : Nat} (h : d < 10) : (UInt8.ofNat (48 + d)).toNat = 48 + d := by
  rw [UInt8.toNat_ofNat']; omega
theorem dec_bytes : ∀ (u : Nat), ∀ b ∈ Lib.decDigits u, 48 ≤ b.toNat ∧ b.toNat ≤ 57 := by
  intro u
  induction u using Nat.strongRecOn with
  | _ u ih =>
    intro b hb
    rw [Lib.decDigits] at hb
    by_cases h : u < 10
    · rw [dif_pos h] at hb
      simp only [List.mem_singleton] at hb
      subst hb
      rw [digit_toNat h]; omega
    · rw [dif_neg h] at hb
      rcases List.mem_append.1 hb with hb | hb
      · exact ih (u / 10) (by omega) b hb
      · simp only [List.mem_singleton] at hb
        subst hb
        rw [digit_toNat (by omega)]; omega
def decode (l : List UInt8) : Nat := l.foldl (fun a b => a * 10 + (b.toNat - 48)) 0
theorem decode_dec : ∀ (u : Nat), decode (Lib.decDigits u) = u := by
  intro u
  induction u using Nat.strongRecOn with
  | _ u ih =>
    rw [Lib.decDigits]
    by_cases h : u < 10
    · rw [dif_pos h]
      simp only [decode, List.foldl_cons, List.foldl_nil, digit_toNat h]; omega
    · rw [dif_neg h]
      have := ih (u / 10) (by omega)
      unfold decode at this ⊢
      rw [List.foldl_append, this]
      simp only [List.foldl_cons, List.foldl_nil, digit_toNat (show u % 10 < 10 by omega)]; omega
theorem itoa_inj {a b : Int} (h : Lib.itoa a = Lib.itoa b) : a = b := by
  have key : ∀ (u v : Nat), 45 :: Lib.decDigits u = Lib.decDigits v → False := by
    intro u v h
    have := dec_bytes v 45 (by rw [← h]; exact List.mem_cons_self)
    have e : (45 : UInt8).toNat = 45 := rfl
    omega
  unfold Lib.itoa at h
  by_cases ha : a < 0
  · by_cases hb : b < 0
    · rw [if_pos ha, if_pos hb] at h
      have h1 := congrArg decode (List.cons.inj h).2
      rw [decode_dec, decode_dec] at h1
      omega
    · rw [if_pos ha, if_neg hb] at h
      exact (key _ _ h).elim
  · by_cases hb : b < 0
    · rw [if_neg ha, if_pos hb] at h
      exact (key _ _ h.symm).elim
    · rw [if_neg ha, if_neg hb] at h
      have h1 := congrArg decode h
      rw [decode_dec, decode_dec] at h1
      omega
theorem itoa_no32 (n : Int) : ∀ b ∈ Lib.itoa n, b ≠ 32 := by
  intro b hb e
  subst e
  have e : (32 : UInt8).toNat = 32 := rfl
  unfold Lib.itoa at hb
  split at hb
  · rcases List.mem_cons.1 hb with h | h
    · exact absurd h (by decide)
    · have := dec_bytes _ _ h; omega
  · have := dec_bytes _ _ hb; omega

def PI {α : Type} (f : α → List UInt8) : Prop := ∀ (a b : α) (xs ys : List UInt8), f a ++ xs = f b ++ ys → a = b ∧ xs = ys
theorem split32 : ∀ {a b xs ys : List UInt8}, (∀ x ∈ a, x ≠ 32) → (∀ x ∈ b, x ≠ 32) → a ++ 32 :: xs = b ++ 32 :: ys → a = b ∧ xs = ys
  | [], [], xs, ys, _, _, h => ⟨rfl, (List.cons.inj h).2⟩
  | [], y :: b, xs, ys, _, hb, h => absurd (List.cons.inj h).1.symm (hb y List.mem_cons_self)
  | x :: a, [], xs, ys, ha, _, h => absurd (List.cons.inj h).1 (ha x List.mem_cons_self)
  | x :: a, y :: b, xs, ys, ha, hb, h => by
    obtain ⟨h1, h2⟩ := List.cons.inj h
    obtain ⟨h3, h4⟩ := split32 (a := a) (b := b) (fun z hz => ha z (List.mem_cons_of_mem _ hz)) (fun z hz => hb z (List.mem_cons_of_mem _ hz)) h2
    exact ⟨by rw [h1, h3], h4⟩
theorem pi_num : PI numT := fun a b xs ys h => by
  unfold numT at h
  rw [List.append_assoc, List.append_assoc] at h
  obtain ⟨h1, h2⟩ := split32 (itoa_no32 a) (itoa_no32 b) h
  exact ⟨itoa_inj h1, h2⟩
theorem pi_flag : PI flagT := fun a b xs ys h => by
  unfold flagT at h
  obtain ⟨h1, h2⟩ := List.cons.inj h
  refine ⟨?_, h2⟩
  cases a <;> cases b <;> first | rfl | exact absurd h1 (by decide)
theorem pi_mark : PI markT := fun a b xs ys h => by
  unfold markT at h
  simp only [List.append_assoc] at h
  obtain ⟨h1, h⟩ := pi_num _ _ _ _ h
  obtain ⟨h2, h⟩ := pi_num _ _ _ _ h
  obtain ⟨h3, h⟩ := pi_num _ _ _ _ h
  obtain ⟨h4, h⟩ := pi_num _ _ _ _ h
  obtain ⟨h5, h6⟩ := pi_flag _ _ _ _ h
  refine ⟨?_, h6⟩
  clear h6 h
  cases a; cases b
  simp only at h1 h2 h3 h4 h5
  subst h1; subst h2; subst h3; subst h4; subst h5
  rfl
theorem pi_list {α : Type} {f : α → List UInt8} (hf : PI f) : ∀ {l m : List α} {xs ys : List UInt8}, l.length = m.length → l.flatMap f ++ xs = m.flatMap f ++ ys → l = m ∧ xs = ys
  | [], [], _, _, _, h => ⟨rfl, h⟩
  | [], _ :: _, _, _, hl, _ => by simp at hl
  | _ :: _, [], _, _, hl, _ => by simp at hl
  | a :: l, b :: m, xs, ys, hl, h => by
    rw [List.flatMap_cons, List.flatMap_cons, List.append_assoc, List.append_assoc] at h
    obtain ⟨h1, h⟩ := hf _ _ _ _ h
    obtain ⟨h2, h⟩ := pi_list hf (by simpa using hl) h
    exact ⟨by rw [h1, h2], h⟩

theorem text_inj {c : ContractT} {p q : PosT} (hp : VS c p.state) (hq : VS c q.state) (h : textL p = textL q) : p = q := by
  unfold textL at h
  simp only [List.append_assoc] at h
  obtain ⟨h1, h⟩ := pi_flag _ _ _ _ h
  obtain ⟨h2, h⟩ := pi_num _ _ _ _ h
  obtain ⟨h3, h⟩ := pi_list pi_num (by rw [hp.lh, hq.lh]) h
  obtain ⟨h4, h⟩ := pi_list pi_flag (by rw [hp.lu, hq.lu]) h
  have h5 := (pi_list (l := p.state.marks) (m := q.state.marks) (xs := []) (ys := []) pi_mark (by rw [hp.lm, hq.lm]) (by rw [List.append_nil, List.append_nil]; exact h)).1
  clear h
  obtain ⟨⟨d, hs, us, ms⟩, o⟩ := p
  obtain ⟨⟨d', hs', us', ms'⟩, o'⟩ := q
  simp only at h1 h2 h3 h4 h5
  subst h1; subst h2; subst h3; subst h4; subst h5; rfl

theorem flat_len {α : Type} {f : α → List UInt8} {b : Nat} : ∀ {l : List α}, (∀ a ∈ l, (f a).length ≤ b) → (l.flatMap f).length ≤ l.length * b
  | [], _ => by simp
  | a :: l, h => by
    have h1 := h a List.mem_cons_self
    have h2 := flat_len (f := f) (b := b) (l := l) fun x hx => h x (List.mem_cons_of_mem _ hx)
    rw [List.flatMap_cons, List.length_append, List.length_cons, Nat.succ_mul]; omega

theorem mrk_in {c : ContractT} {i : Nat} {k : ClauseT} {m : MarkT} (kv : KV c i k) (hp : c.parties ≤ 12) (h : mrkB c.parties k m = true) : (0 ≤ m.status ∧ m.status ≤ 5) ∧ (0 ≤ m.left ∧ m.left ≤ 400) ∧ (0 ≤ m.got ∧ m.got ≤ 9) ∧ (-1 ≤ m.bearer ∧ m.bearer ≤ 12) := by
  have hn := kv.need
  rcases mrkB_iff.1 h with ⟨h0, _, h1⟩ | ⟨h0, h1, h2⟩ | ⟨h0, h1, h2, h3⟩ | ⟨h0, h1⟩
  · simp only [idleB, Bool.and_eq_true, beq_iff_eq] at h1
    omega
  · have hr : runN m = true := by simp [runN, h0]
    obtain ⟨rv, _, _⟩ := runV_of kv h hr
    have := rv.left; have := rv.got; have := rv.bearer
    omega
  · have hr : runN m = true := by simp [runN, h0]
    obtain ⟨rv, _, _⟩ := runV_of kv h hr
    have := rv.left; have := rv.got; have := rv.bearer
    omega
  · simp only [endB, Bool.and_eq_true, beq_iff_eq, decide_eq_true_eq] at h1
    omega

theorem inI64_of {n : Int} (h0 : -1000000 ≤ n) (h1 : n ≤ 1000000) : inI64 n = true := by
  simp only [inI64, Bool.and_eq_true, decide_eq_true_eq]; omega
theorem num_len {n : Int} (h0 : -1000000 ≤ n) (h1 : n ≤ 1000000) : (numT n).length ≤ 22 := by
  have := Lib.itoa_length_le n (by omega) (by omega)
  simp only [numT, List.length_append, List.length_cons, List.length_nil]; omega

def txt (p : PosT) : ByteArray := ⟨(textL p).toArray⟩
theorem txt_inj {c : ContractT} {p q : PosT} (hp : VS c p.state) (hq : VS c q.state) (h : txt p = txt q) : p = q := by
  refine text_inj hp hq ?_
  unfold txt at h
  have h2 := congrArg (fun b : ByteArray => b.data.toList) h
  simpa using h2
theorem s_text {c : ContractT} (hc : c.Ok) {p : PosT} (hp : VS c p.state) : d_text p = some (txt p) := by
  have ho := hc.off.lt (by omega : 0 < 8)
  have sm := small_of ho hp.cv
  have hpa := sm.parties
  have hda := sm.days
  have hday := hp.day
  have hf := hp.few hc
  have hh : ∀ h ∈ p.state.holders, -1000000 ≤ h ∧ h ≤ 1000000 := fun h hh => by have := hp.hold h hh; omega
  have hm : ∀ m ∈ p.state.marks, (0 ≤ m.status ∧ m.status ≤ 5) ∧ (0 ≤ m.left ∧ m.left ≤ 400) ∧ (0 ≤ m.got ∧ m.got ≤ 9) ∧ (-1 ≤ m.bearer ∧ m.bearer ≤ 12) := fun m hm => by
    obtain ⟨i, hi, rfl⟩ := List.getElem_of_mem hm
    have hk := List.getElem?_eq_getElem (show i < c.clauses.length by have := hp.lm; omega)
    exact mrk_in (kv_of ho hp.cv hk) (by omega) (hp.mrk i _ _ hk (List.getElem?_eq_getElem hi))
  have hlen : (textL p).length ≤ 1000000000 := by
    have h1 := num_len (n := p.state.day) (by omega) (by omega)
    have h2 := flat_len (f := numT) (b := 22) (l := p.state.holders) fun h hh' => num_len (hh h hh').1 (hh h hh').2
    have h3 := flat_len (f := flagT) (b := 1) (l := p.state.used) fun _ _ => by simp [flagT]
    have h4 := flat_len (f := markT) (b := 89) (l := p.state.marks) fun m hm' => by
      have := hm m hm'
      have a1 := num_len (n := m.status) (by omega) (by omega)
      have a2 := num_len (n := m.left) (by omega) (by omega)
      have a3 := num_len (n := m.got) (by omega) (by omega)
      have a4 := num_len (n := m.bearer) (by omega) (by omega)
      simp only [markT, flagT, List.length_append, List.length_cons, List.length_nil]; omega
    simp only [textL, List.length_append]
    have : (flagT p.own).length = 1 := rfl
    omega
  have hok : okP p = true := by
    simp only [okP, Bool.and_eq_true, decide_eq_true_eq, List.all_eq_true]
    refine ⟨⟨⟨inI64_of (by omega) (by omega), fun x hx => inI64_of (hh x hx).1 (hh x hx).2⟩, fun m hm' => ?_⟩, hlen⟩
    have := hm m hm'
    exact ⟨⟨⟨inI64_of (by omega) (by omega), inI64_of (by omega) (by omega)⟩, inI64_of (by omega) (by omega)⟩, inI64_of (by omega) (by omega)⟩
  unfold d_text txt
  rw [if_pos hok]
end Go.Proofs.YtaglopifoibhiaaDoor
namespace Go.Proofs.YtaglopifoibhiaaDoor
set_option linter.unusedVariables false
set_option linter.unusedSimpArgs false
set_option maxRecDepth 100000

def Le {α : Type} (x y : Option α) : Prop := ∀ r, x = some r → y = some r
theorem Le.refl {α : Type} (x : Option α) : Le x x := fun _ h => h
theorem Le.bind {α β : Type} {x y : Option α} {f g : α → Option β} (h : Le x y) (hf : ∀ a, Le (f a) (g a)) : Le (x.bind f) (y.bind g) := fun r hr => by
  obtain ⟨a, h1, h2⟩ := Option.bind_eq_some_iff.1 hr
  rw [h a h1]; exact hf a r h2
theorem Le.cond {α : Type} (b : Bool) {x y x' y' : Option α} (h1 : Le x x') (h2 : Le y y') : Le (bif b then x else y) (bif b then x' else y') := by
  cases b
  · exact h2
  · exact h1
theorem Le.elim {α β γ : Type} {f f' : α → Option γ} {g g' : β → Option γ} (h1 : ∀ a, Le (f a) (f' a)) (h2 : ∀ a, Le (g a) (g' a)) (o : α ⊕ β) : Le (Sum.elim f g o) (Sum.elim f' g' o) := by
  cases o
  · exact h1 _
  · exact h2 _
theorem Le.forFrom {σ ρ : Type} {f g : Nat → σ → Option (σ ⊕ ρ)} (h : ∀ i s, Le (f i s) (g i s)) : ∀ (k i : Nat) (s : σ), Le (forFrom f i k s) (forFrom g i k s)
  | 0, i, s => Le.refl _
  | k + 1, i, s => fun r hr => by
    simp only [Go.Proofs.YtaglopifoibhiaaDoor.forFrom] at hr ⊢
    split at hr
    · cases hr
    · rename_i e; rw [h i s _ e]; exact hr
    · rename_i e; rw [h i s _ e]; exact Le.forFrom h k (i + 1) _ r hr
theorem Le.forR {σ ρ : Type} {f g : Nat → σ → Option (σ ⊕ ρ)} (h : ∀ i s, Le (f i s) (g i s)) (n : Int) (s : σ) : Le (forR n f s) (forR n g s) := fun r hr => by
  obtain ⟨h1, h2⟩ := forR_some hr
  rw [forR_pos h1]; exact Le.forFrom h _ _ _ r h2
theorem Le.iterN {σ ρ : Type} {f g : σ → Option (σ ⊕ ρ)} (h : ∀ s, Le (f s) (g s)) : ∀ (k : Nat) (s : σ), Le (Go.Proofs.YtaglopifoibhiaaDoor.iterN f k s) (Go.Proofs.YtaglopifoibhiaaDoor.iterN g k s)
  | 0, s => Le.refl _
  | k + 1, s => fun r hr => by
    simp only [Go.Proofs.YtaglopifoibhiaaDoor.iterN] at hr ⊢
    split at hr
    · cases hr
    · rename_i e; rw [h s _ e]; exact hr
    · rename_i e; rw [h s _ e]; exact Le.iterN h k _ r hr
theorem Le.iter {σ ρ : Type} {f g : σ → Option (σ ⊕ ρ)} (h : ∀ s, Le (f s) (g s)) (k : Nat) (s : σ) : Le (Go.Proofs.YtaglopifoibhiaaDoor.iterN f k s) (Go.Proofs.YtaglopifoibhiaaDoor.iter g s) := fun r hr => iter_some.2 ⟨k, Le.iterN h k s r hr⟩

/-! ### Texts of small numbers -/
def edig : Nat → Nat → List UInt8
  | 0, u => []
  | f + 1, u => if u < 10 then [UInt8.ofNat (48 + u)] else edig f (u / 10) ++ [UInt8.ofNat (48 + u % 10)]
theorem edig_eq : ∀ (f u : Nat), u < 10 ^ (f + 1) → edig (f + 1) u = Lib.decDigits u
  | 0, u, h => by
    rw [Lib.decDigits]
    simp only [edig]
    rw [if_pos (by omega), dif_pos (by omega)]
  | f + 1, u, h => by
    rw [Lib.decDigits, edig]
    by_cases hu : u < 10
    · rw [if_pos hu, dif_pos hu]
    · rw [if_neg hu, dif_neg hu, edig_eq f (u / 10) (by rw [Nat.pow_succ] at h; omega)]
def smallI (n : Int) : Bool := decide (-1000 < n) && decide (n < 1000)
def itoaE (n : Int) : List UInt8 := if n < 0 then 45 :: edig 4 n.natAbs else edig 4 n.toNat
theorem itoaE_eq {n : Int} (h : smallI n = true) : itoaE n = Lib.itoa n := by
  simp only [smallI, Bool.and_eq_true, decide_eq_true_eq] at h
  unfold itoaE Lib.itoa
  rw [edig_eq 3 n.natAbs (by omega), edig_eq 3 n.toNat (by omega)]
def numE (n : Int) : List UInt8 := itoaE n ++ [32]
theorem numE_eq {n : Int} (h : smallI n = true) : numE n = numT n := by unfold numE numT; rw [itoaE_eq h]
def markE (m : MarkT) : List UInt8 := numE m.status ++ numE m.left ++ numE m.got ++ numE m.bearer ++ flagT m.paused
def smallM (m : MarkT) : Bool := smallI m.status && (smallI m.left && (smallI m.got && smallI m.bearer))
def textE (p : PosT) : List UInt8 := flagT p.own ++ numE p.state.day ++ p.state.holders.flatMap numE ++ p.state.used.flatMap flagT ++ p.state.marks.flatMap markE
def smallP (p : PosT) : Bool := smallI p.state.day && (p.state.holders.all smallI && p.state.marks.all smallM)
theorem flatMap_cong {α β : Type} {f g : α → List β} : ∀ {l : List α}, (∀ a ∈ l, f a = g a) → l.flatMap f = l.flatMap g
  | [], _ => rfl
  | a :: l, h => by rw [List.flatMap_cons, List.flatMap_cons, h a List.mem_cons_self, flatMap_cong fun b hb => h b (List.mem_cons_of_mem _ hb)]
theorem textE_eq {p : PosT} (h : smallP p = true) : textE p = textL p := by
  simp only [smallP, Bool.and_eq_true, List.all_eq_true] at h
  unfold textE textL
  rw [numE_eq h.1, flatMap_cong (f := numE) (g := numT) (fun a ha => numE_eq (h.2.1 a ha)), flatMap_cong (f := markE) (g := markT) (fun a ha => by
    have := h.2.2 a ha
    simp only [smallM, Bool.and_eq_true] at this
    show numE a.status ++ numE a.left ++ numE a.got ++ numE a.bearer ++ flagT a.paused = numT a.status ++ numT a.left ++ numT a.got ++ numT a.bearer ++ flagT a.paused
    rw [numE_eq this.1, numE_eq this.2.1, numE_eq this.2.2.1, numE_eq this.2.2.2])]
theorem small_in {n : Int} (h : smallI n = true) : inI64 n = true := by
  simp only [smallI, inI64, Bool.and_eq_true, decide_eq_true_eq] at h ⊢
  omega
def e_text (p : PosT) : Option ByteArray := bif smallP p && decide ((textE p).length ≤ 1000000000) then some ⟨(textE p).toArray⟩ else none
theorem le_text (p : PosT) : Le (e_text p) (d_text p) := fun r h => by
  unfold e_text at h
  cases hq : (smallP p && decide ((textE p).length ≤ 1000000000)) with
  | false => rw [hq] at h; cases h
  | true =>
    rw [hq] at h
    simp only [Bool.and_eq_true, decide_eq_true_eq] at hq
    have e := textE_eq hq.1
    unfold d_text
    rw [if_pos, ← e]
    · exact h
    · have h1 := hq.1
      simp only [smallP, Bool.and_eq_true, List.all_eq_true] at h1
      simp only [okP, Bool.and_eq_true, decide_eq_true_eq, List.all_eq_true]
      refine ⟨⟨⟨small_in h1.1, fun x hx => small_in (h1.2.1 x hx)⟩, fun m hm => ?_⟩, by rw [← e]; exact hq.2⟩
      have := h1.2.2 m hm
      simp only [smallM, Bool.and_eq_true] at this
      exact ⟨⟨⟨small_in this.1, small_in this.2.1⟩, small_in this.2.2.1⟩, small_in this.2.2.2⟩

noncomputable def e_69a (p1 : ContractT) (p2 : Int) (p3 : List Int) (p4 : Nat) (p5 : List Bool) (p6 : Nat) (p7 : List MarkT) (p8 : Nat) : Option ((List MarkT)) :=
  (Option.bind (iterN (σ := Bool × (List MarkT)) (ρ := (List MarkT)) (fun s1 => (bif s1.1 then (Option.bind (forR (σ := Bool × (List MarkT)) (ρ := Unit) (p1.clauses.length : Int) (fun i2 s2 => (Option.bind (Option.bind (idxI p1.clauses (i2 : Int)) fun e1 => (Option.bind (eqN p4 p3.length) fun g1 => (Option.bind (eqN p6 p5.length) fun g2 => (Option.bind (eqN p8 s2.2.length) fun g3 => (Option.bind (d_ready p1 ({ day := p2, holders := p3, used := p5, marks := s2.2 } : StateT) (i2 : Int)) fun r1 => (bif r1 then (Option.bind (bif (e1.kind == 4) then some (-1) else (Option.bind (idxN p4 e1.role) fun k1 => (Option.bind (p3[k1]?) fun e2 => some e2))) fun (v1 : Int) => (Option.bind (idxN p8 (i2 : Int)) fun k2 => (Option.bind (s2.2[k2]?) fun e3 => some (true, (s2.2.set k2 ({ status := 1, left := e1.after, got := 0, bearer := v1, paused := false } : MarkT)))))) else some (s2.1, s2.2))))))) fun (v2 : Bool × (List MarkT)) => some (.inl (v2.1, v2.2)))) (false, s1.2)) (Sum.elim (fun (s2 : Bool × (List MarkT)) => some (.inl (s2.1, s2.2))) (fun _ => none))) else some (.inr s1.2))) 40 (true, p7)) (fun (y1 : (List MarkT)) => some y1))
theorem le_69a (p1 : ContractT) (p2 : Int) (p3 : List Int) (p4 : Nat) (p5 : List Bool) (p6 : Nat) (p7 : List MarkT) (p8 : Nat) : Le (e_69a p1 p2 p3 p4 p5 p6 p7 p8) (d_69a p1 p2 p3 p4 p5 p6 p7 p8) := by
  unfold e_69a d_69a
  repeat' (first | with_reducible exact Le.refl _ | with_reducible refine Le.bind ?_ (fun _ => ?_) | with_reducible refine Le.cond _ ?_ ?_ | with_reducible refine Le.forR (fun _ _ => ?_) _ _ | with_reducible refine Le.iter (fun _ => ?_) _ _ | with_reducible refine Le.elim (fun _ => ?_) (fun _ => ?_) _)

noncomputable def e_Start (c : ContractT) : Option (StateT × Int) :=
  (Option.bind (d_Valid c) fun r1 => (bif (r1.1 == 0) then (Option.bind (cloneI 8 c.holders) fun e1 => (Option.bind (mkN 1 (c.acts.length : Int)) fun k1 => (Option.bind (mkN 40 (c.clauses.length : Int)) fun k2 => (Option.bind (forR (σ := (List MarkT)) (ρ := Unit) (c.clauses.length : Int) (fun i1 s1 => (Option.bind (Option.bind (idxI c.clauses (i1 : Int)) fun e2 => (Option.bind (idxN k2 (i1 : Int)) fun k3 => (Option.bind (s1[k3]?) fun e3 => (bif e2.waived then (Option.bind (idxN k2 (i1 : Int)) fun k4 => (Option.bind ((s1.set k3 ({ status := 0, left := 0, got := 0, bearer := (-1), paused := false } : MarkT))[k4]?) fun e4 => some ((s1.set k3 ({ status := 0, left := 0, got := 0, bearer := (-1), paused := false } : MarkT)).set k4 ({ e4 with status := 5 } : MarkT)))) else some (s1.set k3 ({ status := 0, left := 0, got := 0, bearer := (-1), paused := false } : MarkT)))))) fun (v1 : (List MarkT)) => some (.inl v1))) (List.replicate k2 ({ status := 0, left := 0, got := 0, bearer := 0, paused := false } : MarkT))) (Sum.elim (fun (s1 : (List MarkT)) => (Option.bind (e_69a c 0 e1 e1.length (List.replicate k1 false) k1 s1 k2) fun r2 => (Option.bind (eqN k1 (List.replicate k1 false).length) fun g1 => (Option.bind (eqN k2 r2.length) fun g2 => some (({ day := 0, holders := e1, used := (List.replicate k1 false), marks := r2 } : StateT), 0))))) (fun _ => none)))))) else some (({ day := 0, holders := [], used := [], marks := [] } : StateT), 1)))
theorem le_Start (c : ContractT) : Le (e_Start c) (d_Start c) := by
  unfold e_Start d_Start
  repeat' (first | with_reducible exact Le.refl _ | with_reducible exact le_69a _ _ _ _ _ _ _ _ | with_reducible refine Le.bind ?_ (fun _ => ?_) | with_reducible refine Le.cond _ ?_ ?_ | with_reducible refine Le.forR (fun _ _ => ?_) _ _ | with_reducible refine Le.iter (fun _ => ?_) _ _ | with_reducible refine Le.elim (fun _ => ?_) (fun _ => ?_) _)

noncomputable def e_BinarySearch (l : List Int) (v : Int) : Option (Int × Bool) :=
  (Option.bind (Option.bind (iterN (σ := Int × Int) (ρ := Int) (fun s1 => (bif decide (s1.1 < s1.2) then (Option.bind (shrI .u64 .u64 (IntKind.u64.wrap (IntKind.i64.wrap (s1.1 + s1.2))) 1) fun e1 => (Option.bind (idxI l (IntKind.i64.wrap e1)) fun e2 => (Option.bind (d_less e2 v) fun r1 => (bif r1 then some (.inl ((IntKind.i64.wrap ((IntKind.i64.wrap e1) + 1)), s1.2)) else some (.inl (s1.1, (IntKind.i64.wrap e1))))))) else some (.inr s1.1))) 40 (0, (l.length : Int))) (fun (y1 : Int) => some y1)) fun (v1 : Int) => (Option.bind (bif decide (v1 < (l.length : Int)) then (Option.bind (idxI l v1) fun e3 => (bif (e3 == v) then some true else (Option.bind (d_isNaN e3) fun r2 => (bif r2 then (Option.bind (d_isNaN v) fun r3 => some r3) else some false)))) else some false) fun v2 => some (v1, v2)))
theorem le_BinarySearch (l : List Int) (v : Int) : Le (e_BinarySearch l v) (d_BinarySearch l v) := by
  unfold e_BinarySearch d_BinarySearch
  repeat' (first | with_reducible exact Le.refl _ | with_reducible refine Le.bind ?_ (fun _ => ?_) | with_reducible refine Le.cond _ ?_ ?_ | with_reducible refine Le.forR (fun _ _ => ?_) _ _ | with_reducible refine Le.iter (fun _ => ?_) _ _ | with_reducible refine Le.elim (fun _ => ?_) (fun _ => ?_) _)

noncomputable def e_70a (p1 : ContractT) (p2 : Int) (p3 : List Int) (p4 : Nat) (p5 : List Bool) (p6 : Nat) (p7 : List MarkT) (p8 : Nat) : Option ((List MarkT)) :=
  (Option.bind (e_BinarySearch p1.off p2) fun r1 => (Option.bind (Option.bind (d_66a p1 p2 p3 p4 p5 p6 p7 p8) fun r2 => (Option.bind (forR (σ := (List MarkT)) (ρ := (List MarkT)) (p8 : Int) (fun i1 s1 => (Option.bind (Option.bind (idxN p8 (i1 : Int)) fun k1 => (Option.bind (s1[k1]?) fun e1 => (Option.bind (d_running e1) fun r3 => (bif r3 then (Option.bind (Option.bind (idxI p1.clauses (i1 : Int)) fun e2 => (Option.bind (Option.bind (idxN p8 (i1 : Int)) fun k2 => (Option.bind (s1[k2]?) fun e3 => (bif e3.paused then some true else (bif e2.business then some r1.2 else some false)))) fun v1 => (bif v1 then some s1 else (Option.bind (idxN p8 (i1 : Int)) fun k3 => (Option.bind (s1[k3]?) fun e4 => (Option.bind (idxN p8 (i1 : Int)) fun k4 => (Option.bind ((s1.set k3 ({ e4 with left := (IntKind.i64.wrap (e4.left - 1)) } : MarkT))[k4]?) fun e5 => (bif (e5.left == 0) then (Option.bind (bif (e2.kind == (0 : Int)) then none else (bif (e2.kind == (1 : Int)) then (Option.bind (d_63a (i1 : Int) p1 p2 p3 p4 p5 p6 (s1.set k3 ({ e4 with left := (IntKind.i64.wrap (e4.left - 1)) } : MarkT)) p8) fun r7 => some r7) else (bif (e2.kind == (2 : Int)) then (Option.bind (d_61a (i1 : Int) p1 p2 p3 p4 p5 p6 (s1.set k3 ({ e4 with left := (IntKind.i64.wrap (e4.left - 1)) } : MarkT)) p8) fun r6 => some r6) else (bif (e2.kind == (3 : Int)) then (Option.bind (d_64a (i1 : Int) p1 p2 p3 p4 p5 p6 (s1.set k3 ({ e4 with left := (IntKind.i64.wrap (e4.left - 1)) } : MarkT)) p8) fun r5 => some r5) else (bif (e2.kind == (4 : Int)) then (Option.bind (d_64a (i1 : Int) p1 p2 p3 p4 p5 p6 (s1.set k3 ({ e4 with left := (IntKind.i64.wrap (e4.left - 1)) } : MarkT)) p8) fun r4 => some r4) else none))))) fun v2 => some v2) else some (s1.set k3 ({ e4 with left := (IntKind.i64.wrap (e4.left - 1)) } : MarkT)))))))))) fun (v3 : (List MarkT)) => some ((!true), v3)) else some (false, s1))))) fun (v4 : Bool × (List MarkT)) => (bif v4.1 then some (.inr v4.2) else some (.inl v4.2)))) p7) (Sum.elim (fun (s1 : (List MarkT)) => some s1) (fun (y1 : (List MarkT)) => some y1)))) fun (v5 : (List MarkT)) => (Option.bind (e_69a p1 (IntKind.i64.wrap (p2 + 1)) p3 p4 p5 p6 v5 p8) fun r8 => some r8)))
theorem le_70a (p1 : ContractT) (p2 : Int) (p3 : List Int) (p4 : Nat) (p5 : List Bool) (p6 : Nat) (p7 : List MarkT) (p8 : Nat) : Le (e_70a p1 p2 p3 p4 p5 p6 p7 p8) (d_70a p1 p2 p3 p4 p5 p6 p7 p8) := by
  unfold e_70a d_70a
  repeat' (first | with_reducible exact Le.refl _ | with_reducible exact le_BinarySearch _ _ | with_reducible exact le_69a _ _ _ _ _ _ _ _ | with_reducible refine Le.bind ?_ (fun _ => ?_) | with_reducible refine Le.cond _ ?_ ?_ | with_reducible refine Le.forR (fun _ _ => ?_) _ _ | with_reducible refine Le.iter (fun _ => ?_) _ _ | with_reducible refine Le.elim (fun _ => ?_) (fun _ => ?_) _)

noncomputable def e_60a (p1 : Int) (p2 : ContractT) (p3 : Int) (p4 : List Int) (p5 : Nat) (p6 : List Bool) (p7 : Nat) (p8 : List MarkT) (p9 : Nat) : Option ((List Int) × (List Bool) × (List MarkT)) :=
  (Option.bind (idxI p2.acts p1) fun e1 => (Option.bind (bif (e1.kind == 1) then some false else (Option.bind (idxN p7 p1) fun k1 => (Option.bind (p6[k1]?) fun e2 => some e2))) fun v1 => (bif v1 then some (p4, p6, p8) else (Option.bind (Option.bind (d_66a p2 p3 p4 p5 p6 p7 p8 p9) fun r1 => (Option.bind (forR (σ := (List MarkT)) (ρ := (List MarkT)) (p9 : Int) (fun i1 s1 => (Option.bind (Option.bind (idxN p9 (i1 : Int)) fun k2 => (Option.bind (s1[k2]?) fun e3 => (Option.bind (d_running e3) fun r2 => (bif r2 then (Option.bind (Option.bind (idxI p2.clauses (i1 : Int)) fun e4 => (bif (p1 == e4.pause) then (Option.bind (idxN p9 (i1 : Int)) fun k3 => (Option.bind (s1[k3]?) fun e5 => some (s1.set k3 ({ e5 with paused := true } : MarkT)))) else (Option.bind (idxI p2.clauses (i1 : Int)) fun e6 => (bif (p1 == e6.resume) then (Option.bind (idxN p9 (i1 : Int)) fun k4 => (Option.bind (s1[k4]?) fun e7 => some (s1.set k4 ({ e7 with paused := false } : MarkT)))) else some s1)))) fun (v2 : (List MarkT)) => some ((!true), v2)) else some (false, s1))))) fun (v3 : Bool × (List MarkT)) => (bif v3.1 then some (.inr v3.2) else some (.inl v3.2)))) p8) (Sum.elim (fun (s1 : (List MarkT)) => some s1) (fun (y1 : (List MarkT)) => some y1)))) fun (v4 : (List MarkT)) => (Option.bind (eqN p5 p4.length) fun g1 => (Option.bind (eqN p7 p6.length) fun g2 => (Option.bind (eqN p9 v4.length) fun g3 => (Option.bind (d_doer p2 ({ day := p3, holders := p4, used := p6, marks := v4 } : StateT) p1) fun r3 => (Option.bind (Option.bind (d_66a p2 p3 p4 p5 p6 p7 v4 p9) fun r4 => (Option.bind (forR (σ := (List MarkT)) (ρ := (List MarkT)) (p9 : Int) (fun i2 s2 => (Option.bind (Option.bind (idxN p9 (i2 : Int)) fun k5 => (Option.bind (s2[k5]?) fun e8 => (Option.bind (d_running e8) fun r5 => (bif r5 then (Option.bind (Option.bind (idxI p2.clauses (i2 : Int)) fun e9 => (Option.bind (bif (e9.act == p1) then (bif (e9.kind == 4) then some true else (Option.bind (idxN p9 (i2 : Int)) fun k6 => (Option.bind (s2[k6]?) fun e10 => some (e10.bearer == r3)))) else some false) fun v5 => (bif v5 then (Option.bind (bif (e9.kind == (0 : Int)) then none else (bif (e9.kind == (1 : Int)) then (Option.bind (d_65a (i2 : Int) p2 p3 p4 p5 p6 p7 s2 p9) fun r9 => some r9) else (bif (e9.kind == (2 : Int)) then (Option.bind (d_71a (i2 : Int) p2 p3 p4 p5 p6 p7 s2 p9) fun r8 => some r8) else (bif (e9.kind == (3 : Int)) then (Option.bind (d_61a (i2 : Int) p2 p3 p4 p5 p6 p7 s2 p9) fun r7 => some r7) else (bif (e9.kind == (4 : Int)) then (Option.bind (d_61a (i2 : Int) p2 p3 p4 p5 p6 p7 s2 p9) fun r6 => some r6) else none))))) fun v6 => some v6) else some s2))) fun (v7 : (List MarkT)) => some ((!true), v7)) else some (false, s2))))) fun (v8 : Bool × (List MarkT)) => (bif v8.1 then some (.inr v8.2) else some (.inl v8.2)))) v4) (Sum.elim (fun (s2 : (List MarkT)) => some s2) (fun (y2 : (List MarkT)) => some y2)))) fun (v9 : (List MarkT)) => (Option.bind (bif (e1.kind == 1) then some (p4, p6, v9) else (Option.bind (d_68a p1 p2 p3 p4 p5 p6 p7 v9 p9) fun r10 => some (r10.1, r10.2.1, r10.2.2))) fun (v10 : (List Int) × (List Bool) × (List MarkT)) => (Option.bind (e_69a p2 p3 v10.1 p5 v10.2.1 p7 v10.2.2 p9) fun r11 => some (v10.1, v10.2.1, r11))))))))))))
theorem le_60a (p1 : Int) (p2 : ContractT) (p3 : Int) (p4 : List Int) (p5 : Nat) (p6 : List Bool) (p7 : Nat) (p8 : List MarkT) (p9 : Nat) : Le (e_60a p1 p2 p3 p4 p5 p6 p7 p8 p9) (d_60a p1 p2 p3 p4 p5 p6 p7 p8 p9) := by
  unfold e_60a d_60a
  repeat' (first | with_reducible exact Le.refl _ | with_reducible exact le_69a _ _ _ _ _ _ _ _ | with_reducible refine Le.bind ?_ (fun _ => ?_) | with_reducible refine Le.cond _ ?_ ?_ | with_reducible refine Le.forR (fun _ _ => ?_) _ _ | with_reducible refine Le.iter (fun _ => ?_) _ _ | with_reducible refine Le.elim (fun _ => ?_) (fun _ => ?_) _)

noncomputable def e_Step (c : ContractT) (s : StateT) (step : Int) : Option (StateT × Int) :=
  (Option.bind (Option.bind (d_ValidS c s) fun r1 => (bif r1 then (bif decide (step < (-1)) then some true else some (decide ((c.acts.length : Int) ≤ step))) else some true)) fun v1 => (bif v1 then some (({ day := 0, holders := [], used := [], marks := [] } : StateT), 1) else (bif (s.day == c.days) then some (({ day := 0, holders := [], used := [], marks := [] } : StateT), 13) else (Option.bind (mkN 8 (s.holders.length : Int)) fun k1 => (Option.bind (mkN 1 (s.used.length : Int)) fun k2 => (Option.bind (mkN 40 (s.marks.length : Int)) fun k3 => (Option.bind (copyI (α := Int) k1 (List.replicate k1 0) s.holders) fun e1 => (Option.bind (copyI (α := Bool) k2 (List.replicate k2 false) s.used) fun e2 => (Option.bind (copyI (α := MarkT) k3 (List.replicate k3 ({ status := 0, left := 0, got := 0, bearer := 0, paused := false } : MarkT)) s.marks) fun e3 => (Option.bind (bif (step == (-1)) then (Option.bind (e_70a c s.day e1 k1 e2 k2 e3 k3) fun r2 => some (e1, e2, r2, (IntKind.i64.wrap (s.day + 1)))) else (Option.bind (e_60a step c s.day e1 k1 e2 k2 e3 k3) fun r3 => some (r3.1, r3.2.1, r3.2.2, s.day))) fun (v2 : (List Int) × (List Bool) × (List MarkT) × Int) => (Option.bind (eqN k1 v2.1.length) fun g1 => (Option.bind (eqN k2 v2.2.1.length) fun g2 => (Option.bind (eqN k3 v2.2.2.1.length) fun g3 => some (({ day := v2.2.2.2, holders := v2.1, used := v2.2.1, marks := v2.2.2.1 } : StateT), 0))))))))))))))
theorem le_Step (c : ContractT) (s : StateT) (step : Int) : Le (e_Step c s step) (d_Step c s step) := by
  unfold e_Step d_Step
  repeat' (first | with_reducible exact Le.refl _ | with_reducible exact le_70a _ _ _ _ _ _ _ _ | with_reducible exact le_60a _ _ _ _ _ _ _ _ _ | with_reducible refine Le.bind ?_ (fun _ => ?_) | with_reducible refine Le.cond _ ?_ ?_ | with_reducible refine Le.forR (fun _ _ => ?_) _ _ | with_reducible refine Le.iter (fun _ => ?_) _ _ | with_reducible refine Le.elim (fun _ => ?_) (fun _ => ?_) _)

noncomputable def e_From (c : ContractT) (party : Int) (p : PosT) : Option (ArenaT × Int) :=
  (Option.bind (d_playable c party p) fun r1 => (bif r1 then (Option.bind (d_copied p.state) fun r2 => (Option.bind (e_text p) fun r3 => (Option.bind (α := ((List PosT) × (List (List MoveT))) ⊕ Unit) (Option.bind (iterN (σ := Int × (List PosT) × (List (List MoveT)) × (List (ByteArray × Int))) (ρ := ((List PosT) × (List (List MoveT))) ⊕ Unit) (fun s1 => (bif decide (s1.1 < (s1.2.1.length : Int)) then (Option.bind (α := ((List PosT) × (List (ByteArray × Int)) × (List MoveT)) ⊕ Unit) (Option.bind (idxI s1.2.1 s1.1) fun e1 => (Option.bind (d_78b c party e1) fun r4 => (Option.bind (α := ((List PosT) × (List (ByteArray × Int)) × (List MoveT)) ⊕ (Unit ⊕ ((List PosT) × (List (ByteArray × Int)) × (List MoveT)))) (bif e1.own then (Option.bind (d_copied e1.state) fun r5 => (Option.bind (e_text ({ state := r5, own := false } : PosT)) fun r6 => (Option.bind (α := (Int × (List PosT) × (List (ByteArray × Int))) ⊕ Unit) (bif ((mget r6 s1.2.2.2).isSome) then some (.inl (((mget r6 s1.2.2.2).getD 0), s1.2.1, s1.2.2.2)) else (bif ((s1.2.1.length : Int) == 1500) then some (.inr ()) else (Option.bind (appI (α := PosT) 88 s1.2.1 [({ state := r5, own := false } : PosT)]) fun e2 => some (.inl ((s1.2.1.length : Int), e2, (mset r6 (s1.2.1.length : Int) s1.2.2.2)))))) (Sum.elim (fun (v1 : Int × (List PosT) × (List (ByteArray × Int))) => (Option.bind (appI (α := MoveT) 16 [] [({ step := (-2), to := v1.1 } : MoveT)]) fun e3 => (bif decide (c.days ≤ e1.state.day) then some (.inr (.inr (v1.2.1, v1.2.2, e3))) else some (.inl (v1.2.1, v1.2.2, e3))))) (fun (y1 : Unit) => some (.inr (.inl ()))))))) else (bif decide (c.days ≤ e1.state.day) then some (.inr (.inr (s1.2.1, s1.2.2.2, []))) else some (.inl (s1.2.1, s1.2.2.2, [])))) (Sum.elim (fun (v2 : (List PosT) × (List (ByteArray × Int)) × (List MoveT)) => (Option.bind (α := ((List PosT) × (List (ByteArray × Int)) × (List MoveT)) ⊕ Unit) (bif e1.own then some (.inl (v2.1, v2.2.1, v2.2.2)) else (Option.bind (e_Step c e1.state (-1)) fun r7 => (Option.bind (e_text ({ state := r7.1, own := true } : PosT)) fun r8 => (Option.bind (α := (Int × (List PosT) × (List (ByteArray × Int))) ⊕ Unit) (bif ((mget r8 v2.2.1).isSome) then some (.inl (((mget r8 v2.2.1).getD 0), v2.1, v2.2.1)) else (bif ((v2.1.length : Int) == 1500) then some (.inr ()) else (Option.bind (appI (α := PosT) 88 v2.1 [({ state := r7.1, own := true } : PosT)]) fun e4 => some (.inl ((v2.1.length : Int), e4, (mset r8 (v2.1.length : Int) v2.2.1)))))) (Sum.elim (fun (v3 : Int × (List PosT) × (List (ByteArray × Int))) => (Option.bind (appI (α := MoveT) 16 v2.2.2 [({ step := (-1), to := v3.1 } : MoveT)]) fun e5 => some (.inl (v3.2.1, v3.2.2, e5)))) (fun (y4 : Unit) => some (.inr ()))))))) (Sum.elim (fun (v4 : (List PosT) × (List (ByteArray × Int)) × (List MoveT)) => (Option.bind (forR (σ := (List PosT) × (List (ByteArray × Int)) × (List MoveT)) (ρ := (List PosT) × (List (ByteArray × Int)) × (List MoveT)) (c.acts.length : Int) (fun i2 s2 => (Option.bind (α := ((List PosT) × (List (ByteArray × Int)) × (List MoveT)) ⊕ Unit) (Option.bind (idxI c.acts (i2 : Int)) fun e6 => (Option.bind (bif (e6.role == (-1)) then some (-1) else (Option.bind (idxI e1.state.holders e6.role) fun e7 => some e7)) fun (v5 : Int) => (bif ((v5 == party) == e1.own) then (Option.bind (e_Step c e1.state (i2 : Int)) fun r9 => (Option.bind (d_SameS r9.1 e1.state) fun r10 => (bif r10 then some (.inl (s2.1, s2.2.1, s2.2.2)) else (Option.bind (e_text ({ state := r9.1, own := true } : PosT)) fun r11 => (Option.bind (α := (Int × (List PosT) × (List (ByteArray × Int))) ⊕ Unit) (bif ((mget r11 s2.2.1).isSome) then some (.inl (((mget r11 s2.2.1).getD 0), s2.1, s2.2.1)) else (bif ((s2.1.length : Int) == 1500) then some (.inr ()) else (Option.bind (appI (α := PosT) 88 s2.1 [({ state := r9.1, own := true } : PosT)]) fun e8 => some (.inl ((s2.1.length : Int), e8, (mset r11 (s2.1.length : Int) s2.2.1)))))) (Sum.elim (fun (v6 : Int × (List PosT) × (List (ByteArray × Int))) => (Option.bind (appI (α := MoveT) 16 s2.2.2 [({ step := (i2 : Int), to := v6.1 } : MoveT)]) fun e9 => some (.inl (v6.2.1, v6.2.2, e9)))) (fun (y6 : Unit) => some (.inr ())))))))) else some (.inl (s2.1, s2.2.1, s2.2.2))))) (Sum.elim (fun (v7 : (List PosT) × (List (ByteArray × Int)) × (List MoveT)) => some (.inl (v7.1, v7.2.1, v7.2.2))) (fun (y7 : Unit) => some (.inr (s2.1, s2.2.1, s2.2.2)))))) (v4.1, v4.2.1, v4.2.2)) (Sum.elim (fun (s2 : (List PosT) × (List (ByteArray × Int)) × (List MoveT)) => some (.inl (s2.1, s2.2.1, s2.2.2))) (fun (y8 : (List PosT) × (List (ByteArray × Int)) × (List MoveT)) => some (.inr ()))))) (fun (y5 : Unit) => some (.inr ()))))) (Sum.elim (fun (y2 : Unit) => some (.inr ())) (fun (y3 : (List PosT) × (List (ByteArray × Int)) × (List MoveT)) => some (.inl (y3.1, y3.2.1, y3.2.2)))))))) (Sum.elim (fun (v8 : (List PosT) × (List (ByteArray × Int)) × (List MoveT)) => (Option.bind (appI (α := List MoveT) 24 s1.2.2.1 [v8.2.2]) fun e10 => some (.inl ((IntKind.i64.wrap (s1.1 + 1)), v8.1, e10, v8.2.1)))) (fun (y9 : Unit) => some (.inr (.inr ()))))) else some (.inr (.inl (s1.2.1, s1.2.2.1))))) 40 (0, [({ state := r2, own := p.own } : PosT)], [], (mset r3 0 []))) (Sum.elim (fun (y10 : (List PosT) × (List (List MoveT))) => some (.inl (y10.1, y10.2))) (fun (y11 : Unit) => some (.inr ())))) (Sum.elim (fun (v9 : (List PosT) × (List (List MoveT))) => some (({ party := party, positions := v9.1, moves := v9.2 } : ArenaT), 0)) (fun (y12 : Unit) => some (({ party := 0, positions := [], moves := [] } : ArenaT), 3)))))) else some (({ party := 0, positions := [], moves := [] } : ArenaT), 1)))
theorem le_From (c : ContractT) (party : Int) (p : PosT) : Le (e_From c party p) (d_From c party p) := by
  unfold e_From d_From
  repeat' (first | with_reducible exact Le.refl _ | with_reducible exact le_text _ | with_reducible exact le_Step _ _ _ | with_reducible refine Le.bind ?_ (fun _ => ?_) | with_reducible refine Le.cond _ ?_ ?_ | with_reducible refine Le.forR (fun _ _ => ?_) _ _ | with_reducible refine Le.iter (fun _ => ?_) _ _ | with_reducible refine Le.elim (fun _ => ?_) (fun _ => ?_) _)

noncomputable def e_Build (c : ContractT) (party : Int) : Option (ArenaT × Int) :=
  (Option.bind (e_Start c) fun r1 => (bif (r1.2 == 0) then (Option.bind (e_From c party ({ state := r1.1, own := true } : PosT)) fun r2 => some (r2.1, r2.2)) else some (({ party := 0, positions := [], moves := [] } : ArenaT), r1.2)))
theorem le_Build (c : ContractT) (party : Int) : Le (e_Build c party) (d_Build c party) := by
  unfold e_Build d_Build
  repeat' (first | with_reducible exact Le.refl _ | with_reducible exact le_Start _ | with_reducible exact le_From _ _ _ | with_reducible refine Le.bind ?_ (fun _ => ?_) | with_reducible refine Le.cond _ ?_ ?_ | with_reducible refine Le.forR (fun _ _ => ?_) _ _ | with_reducible refine Le.iter (fun _ => ?_) _ _ | with_reducible refine Le.elim (fun _ => ?_) (fun _ => ?_) _)

noncomputable def e_Reach (c : ContractT) : Option ((List StateT) × Int) :=
  (Option.bind (e_Start c) fun r1 => (bif (r1.2 == 0) then (Option.bind (e_text ({ state := r1.1, own := false } : PosT)) fun r2 => (Option.bind (α := (List StateT) ⊕ Unit) (Option.bind (iterN (σ := (List StateT) × Int × (List (ByteArray × Bool))) (ρ := (List StateT) ⊕ Unit) (fun s1 => (bif decide (s1.2.1 < (s1.1.length : Int)) then (Option.bind (α := ((List StateT) × (List (ByteArray × Bool))) ⊕ Unit) (Option.bind (idxI s1.1 s1.2.1) fun e1 => (bif (e1.day == c.days) then some (.inl (s1.1, s1.2.2)) else (Option.bind (iterN (σ := (List StateT) × Int × (List (ByteArray × Bool))) (ρ := ((List StateT) × (List (ByteArray × Bool))) ⊕ Unit) (fun s2 => (bif decide (s2.2.1 < (c.acts.length : Int)) then (Option.bind (α := ((List StateT) × (List (ByteArray × Bool))) ⊕ Unit) (Option.bind (idxI s2.1 s1.2.1) fun e2 => (Option.bind (e_Step c e2 s2.2.1) fun r3 => (Option.bind (e_text ({ state := r3.1, own := false } : PosT)) fun r4 => (bif ((mget r4 s2.2.2).getD false) then some (.inl (s2.1, s2.2.2)) else (bif ((s2.1.length : Int) == 1500) then some (.inr ()) else (Option.bind (appI (α := StateT) 80 s2.1 [r3.1]) fun e3 => some (.inl (e3, (mset r4 true s2.2.2))))))))) (Sum.elim (fun (v1 : (List StateT) × (List (ByteArray × Bool))) => some (.inl (v1.1, (IntKind.i64.wrap (s2.2.1 + 1)), v1.2))) (fun (y1 : Unit) => some (.inr (.inr ()))))) else some (.inr (.inl (s2.1, s2.2.2))))) 40 (s1.1, (-1), s1.2.2)) (Sum.elim (fun (y2 : (List StateT) × (List (ByteArray × Bool))) => some (.inl (y2.1, y2.2))) (fun (y3 : Unit) => some (.inr ())))))) (Sum.elim (fun (v2 : (List StateT) × (List (ByteArray × Bool))) => some (.inl (v2.1, (IntKind.i64.wrap (s1.2.1 + 1)), v2.2))) (fun (y4 : Unit) => some (.inr (.inr ()))))) else some (.inr (.inl s1.1)))) 40 ([r1.1], 0, (mset r2 true []))) (Sum.elim (fun (y5 : (List StateT)) => some (.inl y5)) (fun (y6 : Unit) => some (.inr ())))) (Sum.elim (fun (v3 : (List StateT)) => some (v3, 0)) (fun (y7 : Unit) => some ([], 3))))) else some ([], r1.2)))
theorem le_Reach (c : ContractT) : Le (e_Reach c) (d_Reach c) := by
  unfold e_Reach d_Reach
  repeat' (first | with_reducible exact Le.refl _ | with_reducible exact le_Start _ | with_reducible exact le_text _ | with_reducible exact le_Step _ _ _ | with_reducible refine Le.bind ?_ (fun _ => ?_) | with_reducible refine Le.cond _ ?_ ?_ | with_reducible refine Le.forR (fun _ _ => ?_) _ _ | with_reducible refine Le.iter (fun _ => ?_) _ _ | with_reducible refine Le.elim (fun _ => ?_) (fun _ => ?_) _)

noncomputable def e_head18 : Option (Bool) :=
  (Option.bind (d_sample) fun r1 => (Option.bind (e_Build r1 0) fun r2 => (Option.bind (e_Build r1 1) fun r3 => (Option.bind (e_Reach r1) fun r4 => (Option.bind (e_Build r1 2) fun r5 => (Option.bind (bif (r2.2 == 0) then (bif (r3.2 == 0) then (bif (r4.2 == 0) then (bif (r5.2 == 1) then (bif ((r2.1.positions.length : Int) == 8) then (bif ((r2.1.moves.length : Int) == 8) then (Option.bind (idxI r2.1.moves 0) fun e1 => (bif ((e1.length : Int) == 2) then (Option.bind (idxI r2.1.moves 1) fun e2 => (bif ((e2.length : Int) == 1) then (Option.bind (idxI r2.1.moves 5) fun e3 => some (!((e3.length : Int) == 0))) else some true)) else some true)) else some true) else some true) else some true) else some true) else some true) else some true) fun v1 => (bif v1 then some false else (Option.bind (Option.bind (idxI r2.1.moves 0) fun e4 => (Option.bind (idxI e4 0) fun e5 => (bif ((e5.step == (-2)) && ((e5.to == 1) && true)) then (Option.bind (idxI e4 1) fun e6 => (bif ((e6.step == 0) && ((e6.to == 2) && true)) then (Option.bind (idxI r2.1.moves 1) fun e7 => (Option.bind (idxI e7 0) fun e8 => some ((e8.step == (-1)) && ((e8.to == 3) && true)))) else some false)) else some false))) fun v2 => (Option.bind (bif v2 then (Option.bind (idxI r2.1.positions 3) fun e9 => (Option.bind (idxI e9.state.marks 0) fun e10 => (bif (e10.status == 4) then (Option.bind (idxI r2.1.positions 6) fun e11 => (Option.bind (idxI e11.state.marks 0) fun e12 => (bif (e12.status == 3) then (bif ((r3.1.positions.length : Int) == 8) then some ((r4.1.length : Int) == 4) else some false) else some false))) else some false))) else some false) fun v3 => some v3)))))))))
theorem le_head18 : Le e_head18 d_head18 := by
  unfold e_head18 d_head18
  repeat' (first | with_reducible exact Le.refl _ | with_reducible exact le_Build _ _ | with_reducible exact le_Reach _ | with_reducible refine Le.bind ?_ (fun _ => ?_) | with_reducible refine Le.cond _ ?_ ?_ | with_reducible refine Le.elim (fun _ => ?_) (fun _ => ?_) _)

theorem s_head18 : d_head18 = some true := le_head18 true (by kernel_rfl)
end Go.Proofs.YtaglopifoibhiaaDoor
namespace Go.Proofs.YtaglopifoibhiaaDoor
open Go.RowKit
set_option linter.unusedVariables false
set_option linter.unusedSimpArgs false
set_option maxRecDepth 100000

instance : BEq PosT := ⟨fun a b => a.own == b.own && sameB a.state b.state⟩
instance : LawfulBEq PosT where
  eq_of_beq {a b} h := by
    have h' : (a.own == b.own && sameB a.state b.state) = true := h
    simp only [Bool.and_eq_true, beq_iff_eq, sameB_iff] at h'
    obtain ⟨h1, h2⟩ := h'
    cases a; cases b; simp_all
  rfl {a} := by
    show (a.own == a.own && sameB a.state a.state) = true
    simp [sameB_iff.2 rfl]
noncomputable instance : DecidableEq PosT := fun a b => if h : (a == b) = true then isTrue (eq_of_beq h) else isFalse fun e => h (beq_iff_eq.2 e)

def posIdx (q : PosT) (L : List PosT) : Option Int := if q ∈ L then some (L.idxOf q : Int) else none
def visit (L : List PosT) (q : PosT) : Option (Int × List PosT) := if q ∈ L then some ((L.idxOf q : Int), L) else if L.length = 1500 then none else some ((L.length : Int), L ++ [q])
def visF (L : List PosT) (F : List (ByteArray × Int)) (q : PosT) : List (ByteArray × Int) := if q ∈ L then F else mset (txt q) (L.length : Int) F
def FRel (c : ContractT) (F : List (ByteArray × Int)) (L : List PosT) : Prop := ∀ q : PosT, VS c q.state → mget (txt q) F = posIdx q L

theorem mget_mset_self {α β : Type} [DecidableEq α] (k : α) (v : β) : ∀ l : List (α × β), mget k (mset k v l) = some v
  | [] => by simp [mset, mget]
  | (k', v') :: r => by
    unfold mset
    split
    · simp [mget]
    · rename_i h; simp only [mget, h, if_false]; exact mget_mset_self k v r
theorem mget_mset_ne {α β : Type} [DecidableEq α] {k k2 : α} (v : β) (h : k2 ≠ k) : ∀ l : List (α × β), mget k2 (mset k v l) = mget k2 l
  | [] => by simp [mset, mget, h]
  | (k', v') :: r => by
    unfold mset
    split
    · rename_i e; subst e; simp only [mget, h, if_false]
    · by_cases h2 : k2 = k'
      · simp only [mget, h2, if_true]
      · simp only [mget, h2, if_false]; exact mget_mset_ne v h r

theorem posIdx_snoc {q q' : PosT} {L : List PosT} (hq : q ∉ L) : posIdx q' (L ++ [q]) = if q' = q then some (L.length : Int) else posIdx q' L := by
  unfold posIdx
  by_cases h : q' = q
  · subst h
    rw [if_pos (by simp), if_pos rfl, List.idxOf_append, if_neg hq]
    simp
  · rw [if_neg h]
    by_cases hm : q' ∈ L
    · rw [if_pos (by simp [hm]), if_pos hm, List.idxOf_append, if_pos hm]
    · rw [if_neg (by simp [hm, h]), if_neg hm]
theorem FRel.visit {c : ContractT} {F : List (ByteArray × Int)} {L L' : List PosT} {q : PosT} {to : Int} (h : FRel c F L) (hq : VS c q.state) (hv : visit L q = some (to, L')) : FRel c (visF L F q) L' := by
  unfold Go.Proofs.YtaglopifoibhiaaDoor.visit at hv
  unfold visF
  by_cases hm : q ∈ L
  · rw [if_pos hm] at hv ⊢; cases hv; exact h
  · rw [if_neg hm] at hv ⊢
    split at hv
    · cases hv
    · cases hv
      intro q' hq'
      rw [posIdx_snoc hm]
      by_cases e : q' = q
      · subst e; rw [mget_mset_self, if_pos rfl]
      · rw [mget_mset_ne _ (fun h2 => e (txt_inj hq' hq h2)), if_neg e, h q' hq']

theorem visit_eq {c : ContractT} {F : List (ByteArray × Int)} {L : List PosT} {q : PosT} (h : FRel c F L) (hq : VS c q.state) (hl : L.length ≤ 1500) :
    (bif ((mget (txt q) F).isSome) then some (.inl (((mget (txt q) F).getD 0), L, F)) else (bif ((L.length : Int) == 1500) then some (.inr ()) else (Option.bind (appI (α := PosT) 88 L [q]) fun e2 => some (.inl ((L.length : Int), e2, (mset (txt q) (L.length : Int) F)))))) =
      some (match visit L q with | some (to, L') => (.inl (to, L', visF L F q) : (Int × (List PosT) × (List (ByteArray × Int))) ⊕ Unit) | none => .inr ()) := by
  rw [h q hq]
  unfold posIdx visit visF
  by_cases hm : q ∈ L
  · simp only [hm, if_true, Option.isSome_some, cond_true, Option.getD_some]
  · simp only [hm, if_false, Option.isSome_none, cond_false]
    by_cases h2 : L.length = 1500
    · have : ((L.length : Int) == 1500) = true := beq_iff_eq.2 (by omega)
      simp only [h2, if_true]; rfl
    · have : ((L.length : Int) == 1500) = false := beq_eq_false_iff_ne.2 (by omega)
      simp only [h2, if_false, this, cond_false]
      rw [appI_of (by simp; omega)]; rfl

/-! ### One position's moves -/
noncomputable def proc (c : ContractT) (e : PosT) : List Int → List PosT × List MoveT → Option (List PosT × List MoveT)
  | [], s => some s
  | m :: ms, (L, K) => match visit L (target c e m) with
    | none => none
    | some (to, L') => proc c e ms (L', K ++ [{ step := m, to := to }])
theorem proc_append (c : ContractT) (e : PosT) : ∀ (a b : List Int) (s : List PosT × List MoveT), proc c e (a ++ b) s = (proc c e a s).bind (proc c e b)
  | [], b, s => rfl
  | m :: a, b, (L, K) => by
    simp only [List.cons_append, proc]
    cases visit L (target c e m) with
    | none => rfl
    | some x => exact proc_append c e a b _

def chkL : Nat → List MoveT → Option Nat
  | n, [] => some n
  | n, t :: r => if 0 ≤ t.to ∧ t.to ≤ (n : Int) then chkL (if t.to = (n : Int) then n + 1 else n) r else none
def chkAll : Nat → Nat → List (List MoveT) → Option Nat
  | i, n, [] => some n
  | i, n, l :: r => if i < n then (chkL n l).bind fun n' => chkAll (i + 1) n' r else none
theorem chkAll_snoc (l : List MoveT) : ∀ (M : List (List MoveT)) (i n : Nat), chkAll i n (M ++ [l]) = (chkAll i n M).bind fun n' => if i + M.length < n' then chkL n' l else none
  | [], i, n => by
    simp only [List.nil_append, chkAll, Option.bind_some, List.length_nil, Nat.add_zero]
    split
    · cases chkL n l <;> rfl
    · rfl
  | x :: M, i, n => by
    simp only [List.cons_append, chkAll, List.length_cons]
    split
    · cases chkL n x with
      | none => rfl
      | some n' =>
        simp only [Option.bind_some]
        rw [chkAll_snoc l M (i + 1) n', show i + 1 + M.length = i + (M.length + 1) by omega]
    · rfl

inductive Rch (c : ContractT) (party : Int) (p0 : PosT) : PosT → Prop where
  | base : Rch c party p0 p0
  | step {q : PosT} {m : Int} (h : Rch c party p0 q) (hm : m ∈ movesL c party q) : Rch c party p0 (target c q m)

theorem target_vs {c : ContractT} (hc : c.Ok) {party : Int} {e : PosT} {m : Int} (he : VS c e.state) (hm : m ∈ movesL c party e) : VS c (target c e m).state := by
  unfold target
  by_cases h2 : m = -2
  · rw [if_pos h2]; exact he
  · rw [if_neg h2]
    rcases mem_moves.1 hm with h | ⟨hd, _, rfl⟩ | ⟨hd, i, hi, _, rfl⟩
    · exact absurd h.2 h2
    · exact (step_ok hc he (by omega) (by omega) hd).2.1
    · exact (step_ok hc he (by omega) (by omega) hd).2.1

structure PInv (c : ContractT) (party : Int) (p0 : PosT) (L : List PosT) : Prop where
  vs : ∀ q ∈ L, VS c q.state
  nd : L.Nodup
  rch : ∀ q ∈ L, Rch c party p0 q
  len : L.length ≤ 1500

theorem visit_inv {c : ContractT} {party : Int} {p0 q : PosT} {L L' : List PosT} {to : Int} (h : PInv c party p0 L) (hq : VS c q.state) (hr : Rch c party p0 q) (hv : visit L q = some (to, L')) :
    PInv c party p0 L' ∧ (∃ r, L' = L ++ r) ∧ 0 ≤ to ∧ L'[to.toNat]? = some q ∧ to ≤ (L.length : Int) ∧ L'.length = (if to = (L.length : Int) then L.length + 1 else L.length) := by
  unfold visit at hv
  by_cases hm : q ∈ L
  · rw [if_pos hm] at hv; cases hv
    have hi := List.idxOf_lt_length_iff.2 hm
    refine ⟨h, ⟨[], by simp⟩, by omega, ?_, by omega, by rw [if_neg (by omega)]⟩
    rw [Int.toNat_natCast, List.getElem?_eq_getElem hi, List.getElem_idxOf hi]
  · rw [if_neg hm] at hv
    split at hv
    · cases hv
    · rename_i hl
      cases hv
      have hlen := h.len
      refine ⟨⟨fun x hx => ?_, ?_, fun x hx => ?_, by simp; omega⟩, ⟨[q], rfl⟩, by omega, by simp, Int.le_refl _, by simp⟩
      · rcases List.mem_append.1 hx with hx | hx
        · exact h.vs x hx
        · rw [List.mem_singleton.1 hx]; exact hq
      · exact List.nodup_append.2 ⟨h.nd, by simp, fun a ha b hb => by rw [List.mem_singleton.1 hb]; exact fun e => hm (e ▸ ha)⟩
      · rcases List.mem_append.1 hx with hx | hx
        · exact h.rch x hx
        · rw [List.mem_singleton.1 hx]; exact hr
theorem visit_none {L : List PosT} {q : PosT} (hv : visit L q = none) : L.length = 1500 := by
  unfold visit at hv
  split at hv
  · cases hv
  · split at hv
    · rename_i h; exact h
    · cases hv

def MvOk (c : ContractT) (party : Int) (L : List PosT) (e : PosT) (ms : List Int) (T : List MoveT) : Prop := T.map (·.step) = ms ∧ ∀ t ∈ T, 0 ≤ t.to ∧ L[t.to.toNat]? = some (target c e t.step)
theorem get_app {α : Type} {L r : List α} {i : Nat} {x : α} (h : L[i]? = some x) : (L ++ r)[i]? = some x := by
  rw [List.getElem?_append_left (List.getElem?_eq_some_iff.1 h).1]; exact h
theorem MvOk.app {c : ContractT} {party : Int} {L : List PosT} {e : PosT} {ms : List Int} {T : List MoveT} (h : MvOk c party L e ms T) (r : List PosT) : MvOk c party (L ++ r) e ms T :=
  ⟨h.1, fun t ht => ⟨(h.2 t ht).1, get_app (h.2 t ht).2⟩⟩

theorem proc_inv {c : ContractT} (hc : c.Ok) {party : Int} {p0 e : PosT} (he : VS c e.state) (hr : Rch c party p0 e) : ∀ (ms : List Int) (L L' : List PosT) (K K' : List MoveT), (∀ m ∈ ms, m ∈ movesL c party e) → PInv c party p0 L → proc c e ms (L, K) = some (L', K') →
    PInv c party p0 L' ∧ (∃ r, L' = L ++ r) ∧ ∃ T, K' = K ++ T ∧ MvOk c party L' e ms T ∧ chkL L.length T = some L'.length
  | [], L, L', K, K', _, h, hp => by
    cases hp
    exact ⟨h, ⟨[], by simp⟩, [], by simp, ⟨rfl, fun t ht => by cases ht⟩, rfl⟩
  | m :: ms, L, L', K, K', hms, h, hp => by
    simp only [proc] at hp
    have hm := hms m List.mem_cons_self
    cases hv : visit L (target c e m) with
    | none => rw [hv] at hp; cases hp
    | some x =>
      obtain ⟨to, L1⟩ := x
      rw [hv] at hp
      obtain ⟨h1, ⟨r1, e1⟩, t0, tq, tl, tn⟩ := visit_inv h (target_vs hc he hm) (.step hr hm) hv
      obtain ⟨h2, ⟨r2, e2⟩, T, eT, hT, hch⟩ := proc_inv hc he hr ms L1 L' _ K' (fun x hx => hms x (List.mem_cons_of_mem _ hx)) h1 hp
      refine ⟨h2, ⟨r1 ++ r2, by rw [e2, e1, List.append_assoc]⟩, { step := m, to := to } :: T, by rw [eT]; simp, ⟨by simp [hT.1], fun t ht => ?_⟩, ?_⟩
      · rcases List.mem_cons.1 ht with rfl | ht
        · exact ⟨t0, by rw [e2]; exact get_app tq⟩
        · exact hT.2 t ht
      · simp only [chkL]
        rw [if_pos ⟨t0, tl⟩, ← tn]; exact hch
theorem proc_none {c : ContractT} (hc : c.Ok) {party : Int} {p0 e : PosT} (he : VS c e.state) (hr : Rch c party p0 e) : ∀ (ms : List Int) (L : List PosT) (K : List MoveT), (∀ m ∈ ms, m ∈ movesL c party e) → PInv c party p0 L → proc c e ms (L, K) = none →
    ∃ L1, PInv c party p0 L1 ∧ L1.length = 1500
  | [], L, K, _, h, hp => by cases hp
  | m :: ms, L, K, hms, h, hp => by
    simp only [proc] at hp
    have hm := hms m List.mem_cons_self
    cases hv : visit L (target c e m) with
    | none => exact ⟨L, h, visit_none hv⟩
    | some x =>
      obtain ⟨to, L1⟩ := x
      rw [hv] at hp
      obtain ⟨h1, _⟩ := visit_inv h (target_vs hc he hm) (.step hr hm) hv
      exact proc_none hc he hr ms L1 _ (fun x hx => hms x (List.mem_cons_of_mem _ hx)) h1 hp
end Go.Proofs.YtaglopifoibhiaaDoor
namespace Go.Proofs.YtaglopifoibhiaaDoor
open Go.RowKit
set_option linter.unusedVariables false
set_option linter.unusedSimpArgs false
set_option maxRecDepth 100000

abbrev XT : Type := (List PosT) × (List (ByteArray × Int)) × (List MoveT)
def GotP (c : ContractT) (party : Int) (p0 e : PosT) (L0 : List PosT) (ms : List Int) (x : XT) : Prop := proc c e ms (L0, []) = some (x.1, x.2.2) ∧ FRel c x.2.1 x.1

theorem moves_len {c : ContractT} (hc : c.Ok) {party : Int} {e : PosT} (he : VS c e.state) : (movesL c party e).length ≤ 62 := by
  have sm := small_of (hc.off.lt (by omega)) he.cv
  have sa := sm.acts
  have := actsL_len c party e c.acts.length
  unfold movesL
  cases e.own <;> cases decide (c.days ≤ e.state.day) <;> simp <;> omega

theorem GotP.facts {c : ContractT} (hc : c.Ok) {party : Int} {p0 e : PosT} {L0 : List PosT} {ms : List Int} {x : XT} (he : VS c e.state) (hr : Rch c party p0 e) (hP : PInv c party p0 L0) (hms : ∀ m ∈ ms, m ∈ movesL c party e) (h : GotP c party p0 e L0 ms x) :
    PInv c party p0 x.1 ∧ x.2.2.length = ms.length := by
  obtain ⟨h1, _, T, eT, hT, _⟩ := proc_inv hc he hr ms L0 x.1 [] x.2.2 hms hP h.1
  refine ⟨h1, ?_⟩
  rw [eT, List.nil_append, ← hT.1, List.length_map]

theorem one_move {c : ContractT} (hc : c.Ok) {party : Int} {p0 e : PosT} {L0 : List PosT} {ms : List Int} {m : Int} {L : List PosT} {F : List (ByteArray × Int)} {K : List MoveT} {q : PosT} (he : VS c e.state) (hr : Rch c party p0 e) (hP : PInv c party p0 L0) (hms : ∀ x ∈ ms, x ∈ movesL c party e) (hm : m ∈ movesL c party e) (hlen : ms.length ≤ 100)
    (hq : q = target c e m) (h : GotP c party p0 e L0 ms (L, F, K)) {β : Type} {k : Int × (List PosT) × (List (ByteArray × Int)) → Option β} {z : Option β} {Q : β → Prop}
    (hk : ∀ (to : Int) (L' : List PosT) (F' : List (ByteArray × Int)), GotP c party p0 e L0 (ms ++ [m]) (L', F', K ++ [{ step := m, to := to }]) → appI (α := MoveT) 16 K [({ step := m, to := to } : MoveT)] = some (K ++ [{ step := m, to := to }]) → Ret (k (to, L', F')) Q)
    (hz : proc c e (ms ++ [m]) (L0, []) = none → Ret z Q) :
    Ret (Option.bind (d_text q) fun r => (Option.bind (α := (Int × (List PosT) × (List (ByteArray × Int))) ⊕ Unit) (bif ((mget r F).isSome) then some (.inl (((mget r F).getD 0), L, F)) else (bif ((L.length : Int) == 1500) then some (.inr ()) else (Option.bind (appI (α := PosT) 88 L [q]) fun e2 => some (.inl ((L.length : Int), e2, (mset r (L.length : Int) F)))))) (Sum.elim k (fun _ => z)))) Q := by
  obtain ⟨hPI, hKl⟩ := h.facts hc he hr hP hms
  have hvq : VS c q.state := by rw [hq]; exact target_vs hc he hm
  refine Ret.bindE (s_text hc hvq) ?_
  refine Ret.bindE (visit_eq h.2 hvq hPI.len) ?_
  have happ : proc c e (ms ++ [m]) (L0, []) = (match visit L q with | none => none | some (to, L') => some (L', K ++ [{ step := m, to := to }])) := by
    rw [proc_append, h.1]
    simp only [Option.bind_some, proc, hq]
    all_goals (cases visit L (target c e m) <;> rfl)
  cases hv : visit L q with
  | none =>
    rw [hv] at happ
    exact hz happ
  | some x =>
    obtain ⟨to, L'⟩ := x
    rw [hv] at happ
    refine hk to L' (visF L F q) ⟨happ, FRel.visit h.2 hvq hv⟩ (appI_of ?_)
    simp only at hKl
    rw [hKl]; simp; omega

theorem acts_split (c : ContractT) (party : Int) (p : PosT) {m n : Nat} (h : m ≤ n) : ∃ r, actsL c party p n = actsL c party p m ++ r := by
  induction h with
  | refl => exact ⟨[], by simp⟩
  | step _ ih =>
    obtain ⟨r, hr⟩ := ih
    rw [actsL_succ, hr]
    exact ⟨_, List.append_assoc _ _ _⟩
theorem proc_none_app {c : ContractT} {e : PosT} {a b : List Int} {s : List PosT × List MoveT} (h : proc c e a s = none) : proc c e (a ++ b) s = none := by rw [proc_append, h]; rfl

structure FromOk (c : ContractT) (party : Int) (p : PosT) (L : List PosT) (M : List (List MoveT)) : Prop where
  inv : PInv c party p L
  first : L[0]? = some p
  len : M.length = L.length
  mv : ∀ (j : Nat) (T : List MoveT) (e : PosT), M[j]? = some T → L[j]? = some e → MvOk c party L e (movesL c party e) T
  chk : chkAll 0 1 M = some L.length
def Many (c : ContractT) (party : Int) (p : PosT) : Prop := ∃ L1, PInv c party p L1 ∧ L1.length = 1500

structure FInv (c : ContractT) (party : Int) (p : PosT) (s : Int × (List PosT) × (List (List MoveT)) × (List (ByteArray × Int))) : Prop where
  i : s.1 = (s.2.2.1.length : Int)
  le : s.2.2.1.length ≤ s.2.1.length
  inv : PInv c party p s.2.1
  rel : FRel c s.2.2.2 s.2.1
  first : s.2.1[0]? = some p
  mv : ∀ (j : Nat) (T : List MoveT) (e : PosT), s.2.2.1[j]? = some T → s.2.1[j]? = some e → MvOk c party s.2.1 e (movesL c party e) T
  chk : chkAll 0 1 s.2.2.1 = some s.2.1.length

theorem from_ret {c : ContractT} (hc : c.Ok) {party : Int} {p : PosT} (hpl : playB c party p.state = true) :
    Ret (d_From c party p) (fun r => (r.2 = 0 ∧ r.1.party = party ∧ FromOk c party p r.1.positions r.1.moves) ∨ (r.2 = 3 ∧ Many c party p)) := by
  obtain ⟨hp0, hp1, hv⟩ := playB_iff.1 hpl
  have sm := small_of (hc.off.lt (by omega)) hv.cv
  have sa := sm.acts
  unfold d_From
  refine Ret.bindE (by rw [s_playable hc, hpl]) ?_
  refine Ret.ite (fun _ => ?_) (fun h => by cases h)
  refine Ret.bindE (s_copied hc hv) ?_
  refine Ret.bindE (s_text hc hv) ?_
  refine Ret.bind (P := fun o : ((List PosT) × (List (List MoveT))) ⊕ Unit => (∃ L M, o = .inl (L, M) ∧ FromOk c party p L M) ∨ (o = .inr () ∧ Many c party p)) ?_ ?_
  · refine Ret.bind (P := fun o : ((List PosT) × (List (List MoveT))) ⊕ Unit => (∃ L M, o = .inl (L, M) ∧ FromOk c party p L M) ∨ (o = .inr () ∧ Many c party p)) (Ret.iter (FInv c party p) (fun s => (1501 - s.1).toNat) ?_ ?_) ?_
    · refine ⟨rfl, by simp, ⟨fun q hq => ?_, by simp, fun q hq => ?_, by simp⟩, ?_, rfl, fun j T e h => by simp at h, rfl⟩
      · rw [List.mem_singleton.1 hq]; exact hv
      · rw [List.mem_singleton.1 hq]; exact .base
      · intro q hq
        simp only [mset, mget, posIdx, List.mem_singleton]
        by_cases e : q = { state := p.state, own := p.own }
        · subst e
          simp [List.idxOf_cons, txt]
        · have e2 : txt q ≠ txt p := fun h => e (txt_inj hq hv h)
          rw [if_neg e2, if_neg e]
    · rintro ⟨i, L, M, F⟩ ⟨hi, hle, hinv, hrel, hfst, hmv, hchk⟩
      simp only at hi hle hinv hrel hfst hmv hchk ⊢
      subst hi
      have hlen := hinv.len
      refine Ret.ite (fun hlt => ?_) (fun hge => ?_)
      · have hlt := of_decide_eq_true hlt
        have hML : M.length < L.length := by omega
        have heq := List.getElem?_eq_getElem hML
        have hme := List.getElem_mem hML
        have he := hinv.vs _ hme
        have hr := hinv.rch _ hme
        generalize L[M.length] = e at heq he hr
        have hmlen := moves_len hc (party := party) he
        refine Ret.bind (P := fun o : XT ⊕ Unit => (∃ x, o = .inl x ∧ GotP c party p e L (movesL c party e) x) ∨ (o = .inr () ∧ proc c e (movesL c party e) (L, []) = none)) ?_ ?_
        · refine Ret.bindE (idxI_at heq) ?_
          refine Ret.bindE (x := d_78b c party e) (v := ()) rfl ?_
          -- the pass
          refine Ret.bind (P := fun o : XT ⊕ (Unit ⊕ XT) => (∃ x, o = .inl x ∧ e.state.day < c.days ∧ GotP c party p e L (bif e.own then [-2] else []) x) ∨ (o = .inr (.inl ()) ∧ proc c e (bif e.own then [-2] else []) (L, []) = none) ∨ (∃ x, o = .inr (.inr x) ∧ c.days ≤ e.state.day ∧ GotP c party p e L (bif e.own then [-2] else []) x)) ?_ ?_
          · have hbase : GotP c party p e L [] (L, F, []) := ⟨rfl, hrel⟩
            cases ho : e.own with
            | false =>
              simp only [cond_false]
              refine Ret.ite (fun hd => Ret.some (.inr (.inr ⟨_, rfl, of_decide_eq_true hd, hbase⟩))) (fun hd => Ret.some (.inl ⟨_, rfl, by have := of_decide_eq_false hd; omega, hbase⟩))
            | true =>
              simp only [cond_true]
              refine Ret.bindE (s_copied hc he) ?_
              have hm2 : (-2 : Int) ∈ movesL c party e := mem_moves.2 (.inl ⟨ho, rfl⟩)
              refine one_move hc he hr hinv (fun x hx => by cases hx) hm2 (by simp) (by unfold target; rw [if_pos rfl]) hbase (fun to L' F' hg ha => ?_) (fun hz => Ret.some (.inr (.inl ⟨rfl, hz⟩)))
              refine Ret.bindE ha ?_
              refine Ret.ite (fun hd => Ret.some (.inr (.inr ⟨_, rfl, of_decide_eq_true hd, hg⟩))) (fun hd => Ret.some (.inl ⟨_, rfl, by have := of_decide_eq_false hd; omega, hg⟩))
          · rintro o (⟨⟨L1, F1, K1⟩, rfl, hd, hg⟩ | ⟨rfl, hn⟩ | ⟨⟨L1, F1, K1⟩, rfl, hd, hg⟩)
            · -- there is time left: the tick
              have hmv0 : movesL c party e = (bif e.own then [-2] else [-1]) ++ actsL c party e c.acts.length := by
                unfold movesL
                rw [decide_eq_false (show ¬ c.days ≤ e.state.day by omega)]
                cases e.own <;> rfl
              refine Ret.bind (P := fun o : XT ⊕ Unit => (∃ x, o = .inl x ∧ GotP c party p e L (bif e.own then [-2] else [-1]) x) ∨ (o = .inr () ∧ proc c e (bif e.own then [-2] else [-1]) (L, []) = none)) ?_ ?_
              · cases ho : e.own with
                | true => rw [ho] at hg; exact Ret.some (.inl ⟨_, rfl, hg⟩)
                | false =>
                  rw [ho] at hg
                  simp only [cond_false] at hg ⊢
                  obtain ⟨est, _⟩ := step_ok (a := -1) hc he (by omega) (by omega) hd
                  refine Ret.bindE est ?_
                  have hm1 : (-1 : Int) ∈ movesL c party e := mem_moves.2 (.inr (.inl ⟨hd, ho, rfl⟩))
                  refine one_move hc he hr hinv (fun x hx => by cases hx) hm1 (by simp) (by unfold target; rw [if_neg (by omega)]) hg (fun to L' F' hg ha => ?_) (fun hz => Ret.some (.inr ⟨rfl, hz⟩))
                  refine Ret.bindE ha ?_
                  exact Ret.some (.inl ⟨_, rfl, hg⟩)
              · rintro o (⟨⟨L2, F2, K2⟩, rfl, hg2⟩ | ⟨rfl, hn⟩)
                · -- the acts
                  refine Ret.bind (P := fun o : XT ⊕ XT => (∃ x, o = .inl x ∧ GotP c party p e L (movesL c party e) x) ∨ (∃ x, o = .inr x ∧ proc c e (movesL c party e) (L, []) = none)) ?_ ?_
                  · have hsub : ∀ i, i ≤ c.acts.length → ∀ x ∈ (bif e.own then [-2] else [-1]) ++ actsL c party e i, x ∈ movesL c party e := by
                      intro i hi x hx
                      rw [hmv0]
                      obtain ⟨r, hr'⟩ := acts_split c party e hi
                      rw [hr']
                      rcases List.mem_append.1 hx with h | h
                      · exact List.mem_append.2 (.inl h)
                      · exact List.mem_append.2 (.inr (List.mem_append.2 (.inl h)))
                    refine Ret.forL (n := c.acts.length) (fun i s => GotP c party p e L ((bif e.own then [-2] else [-1]) ++ actsL c party e i) s) (by omega) ?_ ?_ (fun s hs => .inl ⟨s, rfl, by rw [hmv0]; exact hs⟩)
                    · show GotP c party p e L ((bif e.own then [-2] else [-1]) ++ actsL c party e 0) (L2, F2, K2)
                      have : actsL c party e 0 = [] := rfl
                      rw [this, List.append_nil]; exact hg2
                    · rintro i ⟨L3, F3, K3⟩ hi hg3
                      simp only
                      have hx := List.getElem?_eq_getElem hi
                      have av := av_of hv.cv hx
                      have hmvb : mvB c party e i = (((doerI e.state.holders c.acts[i] == party) == e.own) && !sameB (stepS c e.state i) e.state) := by simp only [mvB, hx]
                      have hlenA := actsL_len c party e i
                      refine Ret.bind (P := fun o : XT ⊕ Unit => (∃ x, o = .inl x ∧ GotP c party p e L ((bif e.own then [-2] else [-1]) ++ actsL c party e (i + 1)) x) ∨ (o = .inr () ∧ proc c e ((bif e.own then [-2] else [-1]) ++ actsL c party e (i + 1)) (L, []) = none)) ?_ ?_
                      · refine Ret.bindE (idxI_at hx) ?_
                        refine Ret.bindE (doer_idx he av) ?_
                        refine Ret.ite (fun hq => ?_) (fun hq => ?_)
                        · obtain ⟨est, hvs, _⟩ := step_ok (a := (i : Int)) hc he (by omega) (by omega) hd
                          have hfew := hvs.few hc
                          refine Ret.bindE est ?_
                          refine Ret.bindE (s_SameS (stepS c e.state i) e.state (by omega) (by omega) (by omega)) ?_
                          refine Ret.ite (fun hs => Ret.some (.inl ⟨_, rfl, ?_⟩)) (fun hs => ?_)
                          · rw [actsL_succ, hmvb, hq, hs]
                            simpa using hg3
                          · have hb : mvB c party e i = true := by rw [hmvb, hq, hs]; rfl
                            have hmi : (i : Int) ∈ movesL c party e := mem_moves.2 (.inr (.inr ⟨hd, i, hi, hb, rfl⟩))
                            have hact : actsL c party e (i + 1) = actsL c party e i ++ [(i : Int)] := by rw [actsL_succ, hb]; rfl
                            rw [hact, ← List.append_assoc]
                            refine one_move hc he hr hinv (hsub i (by omega)) hmi (by cases e.own <;> simp <;> omega) (by unfold target; rw [if_neg (by omega)]) hg3 (fun to L' F' hg ha => ?_) (fun hz => Ret.some (.inr ⟨rfl, hz⟩))
                            refine Ret.bindE ha ?_
                            exact Ret.some (.inl ⟨_, rfl, hg⟩)
                        · refine Ret.some (.inl ⟨_, rfl, ?_⟩)
                          rw [actsL_succ, hmvb, hq]
                          simpa using hg3
                      · rintro o (⟨x, rfl, hgx⟩ | ⟨rfl, hn⟩)
                        · exact Ret.some hgx
                        · refine Ret.some (.inr ⟨_, rfl, ?_⟩)
                          rw [hmv0]
                          obtain ⟨r, hr'⟩ := acts_split c party e (show i + 1 ≤ c.acts.length by omega)
                          rw [hr', ← List.append_assoc]
                          exact proc_none_app hn
                  · rintro o (⟨x, rfl, hgx⟩ | ⟨x, rfl, hn⟩)
                    · exact Ret.some (.inl ⟨_, rfl, hgx⟩)
                    · exact Ret.some (.inr ⟨rfl, hn⟩)
                · refine Ret.some (.inr ⟨rfl, ?_⟩)
                  rw [hmv0]; exact proc_none_app hn
            · refine Ret.some (.inr ⟨rfl, ?_⟩)
              unfold movesL; exact proc_none_app hn
            · refine Ret.some (.inl ⟨_, rfl, ?_⟩)
              have : movesL c party e = (bif e.own then [-2] else []) := by
                unfold movesL
                rw [decide_eq_true hd]
                simp
              rw [this]; exact hg
        · rintro o (⟨⟨L', F', K'⟩, rfl, hg⟩ | ⟨rfl, hn⟩)
          · obtain ⟨h1, ⟨r1, e1⟩, T, eT, hT, hch⟩ := proc_inv hc he hr (movesL c party e) L L' [] K' (fun m hm => hm) hinv hg.1
            simp only [List.nil_append] at eT
            subst eT
            simp only [Sum.elim_inl]
            refine Ret.bindE (appI_of (by simp; omega)) ?_
            rw [wrap_i64 (by omega) (by omega)]
            refine Ret.some ⟨⟨by simp, ?_, h1, hg.2, by show L'[0]? = some p; rw [e1]; exact get_app hfst, ?_, ?_⟩, ?_⟩
            · show (M ++ [K']).length ≤ L'.length
              rw [e1]; simp; omega
            · show ∀ (j : Nat) (T : List MoveT) (e : PosT), (M ++ [K'])[j]? = some T → L'[j]? = some e → MvOk c party L' e (movesL c party e) T
              intro j T e' hj he'
              by_cases hjm : j < M.length
              · rw [List.getElem?_append_left hjm] at hj
                have hjL : L[j]? = some e' := by
                  rw [e1, List.getElem?_append_left (by omega)] at he'; exact he'
                rw [e1]
                exact (hmv j T e' hj hjL).app r1
              · have hj2 : j = M.length := by
                  have := (List.getElem?_eq_some_iff.1 hj).1
                  simp at this; omega
                subst hj2
                rw [List.getElem?_append_right (Nat.le_refl _)] at hj
                simp at hj
                subst hj
                have : L'[M.length]? = some e := by rw [e1]; exact get_app heq
                rw [this] at he'; cases he'
                exact hT
            · show chkAll 0 1 (M ++ [K']) = some L'.length
              rw [chkAll_snoc, hchk]
              simp only [Option.bind_some, Nat.zero_add]
              rw [if_pos hML]; exact hch
            · show (1501 - ((M.length : Int) + 1)).toNat < (1501 - (M.length : Int)).toNat
              omega
          · obtain ⟨L1, h1, h2⟩ := proc_none hc he hr (movesL c party e) L [] (fun m hm => hm) hinv hn
            exact Ret.some (.inr ⟨rfl, L1, h1, h2⟩)
      · have hge := of_decide_eq_false hge
        exact Ret.some (.inl ⟨L, M, rfl, hinv, hfst, by omega, hmv, hchk⟩)
    · rintro o (⟨L, M, rfl, h⟩ | ⟨rfl, h⟩)
      · exact Ret.some (.inl ⟨L, M, rfl, h⟩)
      · exact Ret.some (.inr ⟨rfl, h⟩)
  · rintro o (⟨L, M, rfl, h⟩ | ⟨rfl, h⟩)
    · exact Ret.some (.inl ⟨rfl, rfl, h⟩)
    · exact Ret.some (.inr ⟨rfl, h⟩)
end Go.Proofs.YtaglopifoibhiaaDoor
namespace Go.Proofs.YtaglopifoibhiaaDoor
open Go.RowKit
set_option linter.unusedVariables false
set_option linter.unusedSimpArgs false
set_option maxRecDepth 100000

def initK (k : ClauseT) (m : MarkT) : MarkT := bif k.waived then { status := 5, left := 0, got := 0, bearer := -1, paused := false } else { status := 0, left := 0, got := 0, bearer := -1, paused := false }
def mark0 : MarkT := { status := 0, left := 0, got := 0, bearer := 0, paused := false }

theorem Start_bad {c : ContractT} (hc : c.Ok) (h : (validR c).1 ≠ 0) : d_Start c = some (noS, 1) := by
  unfold d_Start
  rw [hc.valid]
  have : ((validR c).1 == 0) = false := beq_eq_false_iff_ne.2 h
  simp only [Option.bind_some, this, cond_false]; rfl

theorem Start_ret {c : ContractT} (hc : c.Ok) (hv : (validR c).1 = 0) : Ret (d_Start c) (fun r => r.2 = 0 ∧ VS c r.1) := by
  have ho := hc.off.lt (by omega : 0 < 8)
  have sm := small_of ho hv
  have s1 := sm.holders
  have s2 := sm.acts
  have s3 := sm.clauses
  have s4 := sm.parties
  have s5 := sm.days
  unfold d_Start
  refine Ret.bindE hc.valid ?_
  refine Ret.ite (fun _ => ?_) (fun h => absurd hv (beq_eq_false_iff_ne.1 h))
  refine Ret.bindE (cloneI_of (by omega)) ?_
  refine Ret.bindE (mkN_of (show c.acts.length < 1000 by omega) (by omega)) ?_
  refine Ret.bindE (mkN_of (show c.clauses.length < 1000 by omega) (by omega)) ?_
  have hok0 : MOk c ((List.replicate c.clauses.length mark0).mapIdx (atK c initK)) := by
    refine ⟨by simp, fun i k m hk hm => ?_⟩
    rw [List.getElem?_mapIdx] at hm
    obtain ⟨m0, _, rfl⟩ := Option.map_eq_some_iff.1 hm
    simp only [atK, hk, initK]
    have e4 : decide (-1 < c.parties) = true := decide_eq_true (by omega)
    cases hw : k.waived with
    | true =>
      show mrkB c.parties k { status := 5, left := 0, got := 0, bearer := -1, paused := false } = true
      refine mrkB_iff.2 (.inr (.inr (.inr ⟨.inr (.inr rfl), ?_⟩)))
      show ((0 : Int) == 0 && (decide ((0 : Int) ≤ 0) && (decide ((0 : Int) ≤ 9) && (decide ((-1 : Int) ≤ -1) && (decide (-1 < c.parties) && !false))))) = true
      rw [e4]; rfl
    | false => exact mrkB_iff.2 (.inl ⟨rfl, hw, rfl⟩)
  refine Ret.bind (P := fun o : List MarkT ⊕ Unit => o = .inl ((List.replicate c.clauses.length mark0).mapIdx (atK c initK))) ?_ ?_
  · refine Ret.of ?_
    have hl : (c.clauses.length : Int) = ((List.replicate c.clauses.length mark0).length : Int) := by simp
    show forR (c.clauses.length : Int) _ (List.replicate c.clauses.length mark0) = _
    conv => lhs; arg 1; rw [hl]
    refine forR_mapIdx (List.replicate c.clauses.length mark0) (atK c initK) (by simp; omega) ?_
    intro i m s h1 h2 h3
    have hi : i < c.clauses.length := by simpa using (List.getElem?_eq_some_iff.1 h1).1
    have hk := List.getElem?_eq_getElem hi
    simp only [idxI_at hk, Option.bind_some, idxN_nat hi, h3, get_set h3, atK, hk, initK, List.set_set]
    cases c.clauses[i].waived <;> rfl
  · rintro o rfl
    simp only [Sum.elim_inl]
    have hs := start_ret c 0 c.holders (List.replicate c.acts.length false) _ ho hv rfl (held_of hv) hok0
    unfold startO at hs
    rw [List.length_replicate, show ((List.replicate c.clauses.length mark0).mapIdx (atK c initK)).length = c.clauses.length by simp] at hs
    refine Ret.bind hs fun r hr => ?_
    refine Ret.bindE (eqN_of (by simp)) ?_
    refine Ret.bindE (eqN_of hr.ok.1.symm) ?_
    refine Ret.some ⟨rfl, hv, ⟨by show (0 : Int) ≤ 0; omega, by show (0 : Int) ≤ c.days; omega⟩, rfl, by simp, hr.ok.1, held_of hv, ?_, hr.ok.2, hr.nr⟩
    intro i a _ hu
    simp only [List.getElem?_replicate] at hu
    split at hu
    · cases hu
    · cases hu

def arena0 : ArenaT := { party := 0, positions := [], moves := [] }
theorem From_bad {c : ContractT} (hc : c.Ok) {party : Int} {p : PosT} (h : playB c party p.state = false) : d_From c party p = some (arena0, 1) := by
  unfold d_From
  rw [s_playable hc, h]; rfl

def BuildP (c : ContractT) (party : Int) (r : ArenaT × Int) : Prop :=
  r.2 ≠ 0 ∨ (r.2 = 0 ∧ ∃ s0, d_Start c = some (s0, 0) ∧ VS c s0 ∧ 0 ≤ party ∧ party < c.parties ∧ r.1.party = party ∧ FromOk c party { state := s0, own := true } r.1.positions r.1.moves)
theorem build_ret {c : ContractT} (hc : c.Ok) (party : Int) : Ret (d_Build c party) (BuildP c party) := by
  unfold d_Build
  by_cases hv : (validR c).1 = 0
  · obtain ⟨⟨s0, e0⟩, hst, h0, hvs⟩ := Start_ret hc hv
    simp only at h0 hvs
    subst h0
    refine Ret.bindE hst ?_
    refine Ret.ite (fun _ => ?_) (fun h => by cases h)
    cases hpl : playB c party s0 with
    | false =>
      refine Ret.bindE (From_bad hc (p := { state := s0, own := true }) hpl) ?_
      exact Ret.some (.inl (by simp))
    | true =>
      obtain ⟨h1, h2, _⟩ := playB_iff.1 hpl
      refine Ret.bind (from_ret hc (p := { state := s0, own := true }) hpl) ?_
      rintro ⟨a, e⟩ (⟨h3, h4, h5⟩ | ⟨h3, _⟩)
      · exact Ret.some (.inr ⟨h3, s0, hst, hvs, h1, h2, h4, h5⟩)
      · simp only at h3
        exact Ret.some (.inl (by show e ≠ 0; omega))
  · refine Ret.bindE (Start_bad hc hv) ?_
    exact Ret.some (.inl (by simp))

/-! ### Index -/
theorem s_Same15 (a b : StateT) (h1 : a.holders.length < 4611686018427387904) (h2 : a.used.length < 4611686018427387904) (h3 : a.marks.length < 4611686018427387904) : d_Same15 a b = some (sameB a b) := by
  unfold d_Same15 sameB
  simp only [len_beq]
  by_cases e1 : a.day = b.day
  · by_cases e2 : a.holders.length = b.holders.length
    · by_cases e3 : a.used.length = b.used.length
      · by_cases e4 : a.marks.length = b.marks.length
        · simp only [e1, beq_self_eq_true, cond_true, e2, e3, e4, decide_true, Bool.not_true, Option.bind_some, cond_false, Bool.true_and]
          rw [← e2, ← e3, ← e4]
          rw [eq_loop a.holders b.holders e2 h1 (fun i h1 h2 => by
            simp only [idxI_nat', List.getElem?_eq_getElem h1, List.getElem?_eq_getElem h2, Option.bind_some, cond_some])]
          rw [eq_loop a.used b.used e3 h2 (fun i h1 h2 => by
            simp only [idxI_nat', List.getElem?_eq_getElem h1, List.getElem?_eq_getElem h2, Option.bind_some, cond_some])]
          rw [eq_loop a.marks b.marks e4 h3 (fun i h1 h2 => by
            simp only [idxI_nat', List.getElem?_eq_getElem h1, List.getElem?_eq_getElem h2, Option.bind_some, cond_some]; rfl)]
          cases (a.holders == b.holders) <;> cases (a.used == b.used) <;> cases (a.marks == b.marks) <;> rfl
        · have : (a.marks == b.marks) = false := beq_eq_false_iff_ne.2 fun e => e4 (by rw [e])
          simp only [e1, beq_self_eq_true, cond_true, e2, e3, e4, decide_true, decide_false, Bool.not_false, Option.bind_some, this, Bool.and_false]
      · have : (a.used == b.used) = false := beq_eq_false_iff_ne.2 fun e => e3 (by rw [e])
        simp only [e1, beq_self_eq_true, cond_true, e2, e3, decide_true, decide_false, cond_false, Option.bind_some, this, Bool.and_false, Bool.false_and]
    · have : (a.holders == b.holders) = false := beq_eq_false_iff_ne.2 fun e => e2 (by rw [e])
      simp only [e1, beq_self_eq_true, cond_true, e2, decide_false, cond_false, Option.bind_some, this, Bool.and_false, Bool.false_and]
  · simp only [beq_eq_false_iff_ne.2 e1, cond_false, Option.bind_some, cond_true, Bool.false_and]
theorem s_Equal18 (a b : PosT) (h1 : a.state.holders.length < 4611686018427387904) (h2 : a.state.used.length < 4611686018427387904) (h3 : a.state.marks.length < 4611686018427387904) : d_Equal18 a b = some (a == b) := by
  unfold d_Equal18
  rw [s_Same15 _ _ h1 h2 h3]
  simp only [Option.bind_some, cond_some, Bool.cond_false_right]
  rfl
def idxP (L : List PosT) (q : PosT) : Int := if q ∈ L then (L.idxOf q : Int) else -1
theorem s_Index {c : ContractT} (hc : c.Ok) {L : List PosT} (hL : ∀ q ∈ L, VS c q.state) (hl : L.length ≤ 1500) (q : PosT) : d_Index18 L q = some (idxP L q) := by
  unfold d_Index18 idxP
  rw [forR_first (fun i => !(match L[i]? with | some x => x == q | none => false)) (fun i => (i : Int)) (by omega) (fun i hi => by
    have hf := (hL _ (List.getElem_mem hi)).few hc
    simp only [idxI_nat', List.getElem?_eq_getElem hi, Option.bind_some]
    rw [s_Equal18 _ _ (by omega) (by omega) (by omega)]
    simp only [Option.bind_some]
    cases (L[i] == q) <;> rfl)]
  cases hf : (List.range L.length).find? (fun j => !(!(match L[j]? with | some x => x == q | none => false))) with
  | none =>
    have h := find_none hf
    rw [if_neg]
    · rfl
    · intro hm
      obtain ⟨i, hi, e⟩ := List.getElem_of_mem hm
      have := h i hi
      simp only [List.getElem?_eq_getElem hi, e, beq_self_eq_true] at this
      cases this
  | some k =>
    obtain ⟨h1, h2, h3⟩ := find_some hf
    simp only [List.getElem?_eq_getElem h1, Bool.not_eq_false', beq_iff_eq] at h2
    have hm : q ∈ L := by rw [← h2]; exact List.getElem_mem h1
    rw [if_pos hm]
    have hi := List.idxOf_lt_length_iff.2 hm
    have : L.idxOf q = k := by
      rcases Nat.lt_trichotomy (L.idxOf q) k with h | h | h
      · have := h3 _ h
        simp only [List.getElem?_eq_getElem hi, List.getElem_idxOf hi, beq_self_eq_true] at this
        cases this
      · exact h
      · have := List.not_of_lt_findIdx (p := (· == q)) (xs := L) (i := k) h
        simp [h2] at this
    rw [this]; rfl
end Go.Proofs.YtaglopifoibhiaaDoor
namespace Go.Proofs.YtaglopifoibhiaaDoor
open Go.RowKit
set_option linter.unusedVariables false
set_option linter.unusedSimpArgs false
set_option maxRecDepth 100000

theorem nodup_le {α : Type} [BEq α] [LawfulBEq α] : ∀ {L1 L2 : List α}, L1.Nodup → (∀ x ∈ L1, x ∈ L2) → L1.length ≤ L2.length
  | [], L2, _, _ => by simp
  | a :: l, L2, h, hs => by
    obtain ⟨ha, hl⟩ := List.nodup_cons.1 h
    have hm := hs a List.mem_cons_self
    have ih := nodup_le (L1 := l) (L2 := L2.erase a) hl fun x hx => (List.mem_erase_of_ne (by rintro rfl; exact ha hx)).2 (hs x (List.mem_cons_of_mem _ hx))
    rw [List.length_erase_of_mem hm] at ih
    have : 0 < L2.length := List.length_pos_of_mem hm
    simp only [List.length_cons]; omega

theorem FromOk.closed {c : ContractT} {party : Int} {p : PosT} {L : List PosT} {M : List (List MoveT)} (F : FromOk c party p L M) {q : PosT} (hq : q ∈ L) {m : Int} (hm : m ∈ movesL c party q) : target c q m ∈ L := by
  obtain ⟨j, hj, e⟩ := List.getElem_of_mem hq
  have hjM : j < M.length := by rw [F.len]; exact hj
  have h := F.mv j M[j] q (List.getElem?_eq_getElem hjM) (by rw [List.getElem?_eq_getElem hj, e])
  rw [← h.1] at hm
  obtain ⟨t, ht, rfl⟩ := List.mem_map.1 hm
  exact List.mem_of_getElem? (h.2 t ht).2
theorem FromOk.rch {c : ContractT} {party : Int} {p : PosT} {L : List PosT} {M : List (List MoveT)} (F : FromOk c party p L M) {q x : PosT} (hq : q ∈ L) (h : Rch c party q x) : x ∈ L := by
  induction h with
  | base => exact hq
  | step _ hm ih => exact F.closed ih hm

end Go.Proofs.YtaglopifoibhiaaDoor
namespace Go.Proofs.YtaglopifoibhiaaDoor
open Go.RowKit
set_option linter.unusedVariables false
set_option linter.unusedSimpArgs false
set_option maxRecDepth 100000

theorem pass_in {c : ContractT} {party : Int} {p : PosT} {L : List PosT} {M : List (List MoveT)} (F : FromOk c party p L M) {s : StateT} (h : ({ state := s, own := true } : PosT) ∈ L) : ({ state := s, own := false } : PosT) ∈ L := by
  have hm : (-2 : Int) ∈ movesL c party { state := s, own := true } := mem_moves.2 (.inl ⟨rfl, rfl⟩)
  have := F.closed h hm
  unfold target at this
  rw [if_pos rfl] at this
  exact this
theorem step_in {c : ContractT} (hc : c.Ok) {party : Int} {p : PosT} {L : List PosT} {M : List (List MoveT)} (F : FromOk c party p L M) {s : StateT} (h : ({ state := s, own := true } : PosT) ∈ L) {a : Int} (h1 : -1 ≤ a) (h2 : a < c.acts.length) (hd : s.day < c.days) :
    ({ state := stepS c s a, own := true } : PosT) ∈ L := by
  have hf := pass_in F h
  by_cases ha : a = -1
  · subst ha
    have hm : (-1 : Int) ∈ movesL c party { state := s, own := false } := mem_moves.2 (.inr (.inl ⟨hd, rfl, rfl⟩))
    have := F.closed hf hm
    unfold target at this
    rw [if_neg (by omega)] at this
    exact this
  · obtain ⟨i, rfl⟩ : ∃ i : Nat, a = (i : Int) := ⟨a.toNat, by omega⟩
    have hi : i < c.acts.length := by omega
    have hx := List.getElem?_eq_getElem hi
    cases hsm : sameB (stepS c s i) s with
    | true => rw [sameB_iff.1 hsm]; exact h
    | false =>
      have hin : ∀ o : Bool, ({ state := s, own := o } : PosT) ∈ L → ((doerI s.holders c.acts[i] == party) == o) = true → ({ state := stepS c s i, own := true } : PosT) ∈ L := by
        intro o ho hq
        have hm : (i : Int) ∈ movesL c party { state := s, own := o } := mem_moves.2 (.inr (.inr ⟨hd, i, hi, by simp only [mvB, hx, hq, hsm]; rfl, rfl⟩))
        have := F.closed ho hm
        unfold target at this
        rw [if_neg (by omega)] at this
        exact this
      cases hq : (doerI s.holders c.acts[i] == party) with
      | true => exact hin true h (by rw [hq]; rfl)
      | false => exact hin false hf (by rw [hq]; rfl)
theorem idxP_in {L : List PosT} {q : PosT} (h : q ∈ L) : ¬ idxP L q < 0 := by unfold idxP; rw [if_pos h]; omega

end Go.Proofs.YtaglopifoibhiaaDoor
namespace Go.Proofs.YtaglopifoibhiaaDoor
open Go.RowKit
set_option linter.unusedVariables false
set_option linter.unusedSimpArgs false
set_option maxRecDepth 100000

instance : BEq StateT := ⟨sameB⟩
instance : LawfulBEq StateT where
  eq_of_beq {a b} h := sameB_iff.1 h
  rfl {a} := sameB_iff.2 rfl

inductive SR (c : ContractT) (s0 : StateT) : StateT → Prop where
  | base : SR c s0 s0
  | step {s : StateT} {a : Int} (h : SR c s0 s) (h1 : -1 ≤ a) (h2 : a < c.acts.length) (hd : s.day < c.days) : SR c s0 (stepS c s a)

def txS (s : StateT) : ByteArray := txt { state := s, own := false }
def SRel (c : ContractT) (F : List (ByteArray × Bool)) (L : List StateT) : Prop := ∀ q : StateT, VS c q → ((mget (txS q) F).getD false = true ↔ q ∈ L)
structure SInv (c : ContractT) (s0 : StateT) (L : List StateT) : Prop where
  vs : ∀ q ∈ L, VS c q
  nd : L.Nodup
  rch : ∀ q ∈ L, SR c s0 q
  len : L.length ≤ 1500
def Done (c : ContractT) (L : List StateT) (s : StateT) (n : Int) : Prop := s.day < c.days → ∀ a : Int, -1 ≤ a → a < n → stepS c s a ∈ L
theorem Done.app {c : ContractT} {L : List StateT} {s : StateT} {n : Int} (h : Done c L s n) (r : List StateT) : Done c (L ++ r) s n := fun hd a h1 h2 => List.mem_append.2 (.inl (h hd a h1 h2))

structure ReachOk (c : ContractT) (s0 : StateT) (L : List StateT) : Prop where
  inv : SInv c s0 L
  first : s0 ∈ L
  done : ∀ s ∈ L, Done c L s c.acts.length
def ManyS (c : ContractT) (s0 : StateT) : Prop := ∃ L, SInv c s0 L ∧ L.length = 1500

structure RInv (c : ContractT) (s0 : StateT) (L : List StateT) (i : Int) (F : List (ByteArray × Bool)) : Prop where
  inv : SInv c s0 L
  rel : SRel c F L
  first : s0 ∈ L
  le : 0 ≤ i ∧ i ≤ (L.length : Int)
  done : ∀ (j : Nat) (s : StateT), (j : Int) < i → L[j]? = some s → Done c L s c.acts.length

theorem reach_ret {c : ContractT} (hc : c.Ok) {s0 : StateT} (hst : d_Start c = some (s0, 0)) (hv : VS c s0) :
    Ret (d_Reach c) (fun r => (r.2 = 0 ∧ ReachOk c s0 r.1) ∨ ManyS c s0) := by
  have sm := small_of (hc.off.lt (by omega)) hv.cv
  have sa := sm.acts
  unfold d_Reach
  refine Ret.bindE hst ?_
  refine Ret.ite (fun _ => ?_) (fun h => by cases h)
  refine Ret.bindE (s_text hc (p := { state := s0, own := false }) hv) ?_
  refine Ret.bind (P := fun o : (List StateT) ⊕ Unit => (∃ L, o = .inl L ∧ ReachOk c s0 L) ∨ (o = .inr () ∧ ManyS c s0)) ?_ ?_
  · refine Ret.bind (P := fun o : (List StateT) ⊕ Unit => (∃ L, o = .inl L ∧ ReachOk c s0 L) ∨ (o = .inr () ∧ ManyS c s0)) (Ret.iter (fun s : (List StateT) × Int × (List (ByteArray × Bool)) => RInv c s0 s.1 s.2.1 s.2.2) (fun s => (1501 - s.2.1).toNat) ?_ ?_) ?_
    · refine ⟨⟨fun q hq => ?_, by simp, fun q hq => ?_, by simp⟩, fun q hq => ?_, by simp, ⟨by simp, by simp⟩, fun j s hj => by simp only at hj; omega⟩
      · rw [List.mem_singleton.1 hq]; exact hv
      · rw [List.mem_singleton.1 hq]; exact .base
      · simp only [mset, mget, List.mem_singleton]
        by_cases e : q = s0
        · subst e
          simp [txS]
        · have e2 : txS q ≠ txt { state := s0, own := false } := fun h => e (by have := txt_inj (p := { state := q, own := false }) (q := { state := s0, own := false }) hq hv h; exact congrArg PosT.state this)
          rw [if_neg e2]
          simp [e]
    · rintro ⟨L, i, F⟩ ⟨hinv, hrel, hfst, hle, hdone⟩
      simp only at hinv hrel hfst hle hdone ⊢
      have hlen := hinv.len
      refine Ret.ite (fun hlt => ?_) (fun hge => ?_)
      · have hlt := of_decide_eq_true hlt
        obtain ⟨hi, hie⟩ := idxI_lt hle.1 hlt
        have hme := List.getElem_mem hi
        have hget := List.getElem?_eq_getElem hi
        have hve := hinv.vs _ hme
        have hre := hinv.rch _ hme
        generalize he : L[i.toNat] = e at hie hme hget hve hre
        refine Ret.bind (P := fun o : ((List StateT) × (List (ByteArray × Bool))) ⊕ Unit => (∃ L' F', o = .inl (L', F') ∧ SInv c s0 L' ∧ SRel c F' L' ∧ (∃ r, L' = L ++ r) ∧ Done c L' e c.acts.length) ∨ (o = .inr () ∧ ManyS c s0)) ?_ ?_
        · refine Ret.bindE hie ?_
          refine Ret.ite (fun hd => ?_) (fun hd => ?_)
          · have hd := beq_iff_eq.1 hd
            exact Ret.some (.inl ⟨L, F, rfl, hinv, hrel, ⟨[], by simp⟩, fun h => by omega⟩)
          · have hd := beq_eq_false_iff_ne.1 hd
            have hday := hve.day
            have hd2 : e.day < c.days := by omega
            refine Ret.bind (P := fun o : ((List StateT) × (List (ByteArray × Bool))) ⊕ Unit => (∃ L' F', o = .inl (L', F') ∧ SInv c s0 L' ∧ SRel c F' L' ∧ (∃ r, L' = L ++ r) ∧ Done c L' e c.acts.length) ∨ (o = .inr () ∧ ManyS c s0))
              (Ret.iter (fun s : (List StateT) × Int × (List (ByteArray × Bool)) => SInv c s0 s.1 ∧ SRel c s.2.2 s.1 ∧ (∃ r, s.1 = L ++ r) ∧ (-1 ≤ s.2.1 ∧ s.2.1 ≤ (c.acts.length : Int)) ∧ Done c s.1 e s.2.1) (fun s => ((c.acts.length : Int) + 1 - s.2.1).toNat) ⟨hinv, hrel, ⟨[], by simp⟩, ⟨by simp, by show (-1 : Int) ≤ _; omega⟩, fun _ a h1 h2 => by simp only at h2; omega⟩ ?_) ?_
            · rintro ⟨L2, a, F2⟩ ⟨hinv2, hrel2, ⟨r2, hr2⟩, ha, hdo⟩
              simp only at hinv2 hrel2 hr2 ha hdo ⊢
              have hlen2 := hinv2.len
              refine Ret.ite (fun hlt2 => ?_) (fun hge2 => ?_)
              · have hlt2 := of_decide_eq_true hlt2
                obtain ⟨est, hvs, _⟩ := step_ok hc hve ha.1 hlt2 hd2
                have hrs : SR c s0 (stepS c e a) := .step hre ha.1 hlt2 hd2
                refine Ret.bind (P := fun o : ((List StateT) × (List (ByteArray × Bool))) ⊕ Unit => (∃ L' F', o = .inl (L', F') ∧ SInv c s0 L' ∧ SRel c F' L' ∧ (∃ r, L' = L ++ r) ∧ Done c L' e (a + 1)) ∨ (o = .inr () ∧ ManyS c s0)) ?_ ?_
                · have hget2 : idxI L2 i = some e := by
                    unfold idxI; rw [if_pos hle.1, hr2]; exact get_app hget
                  refine Ret.bindE hget2 ?_
                  refine Ret.bindE est ?_
                  refine Ret.bindE (s_text hc (p := { state := stepS c e a, own := false }) hvs) ?_
                  have hdn : ∀ L' : List StateT, (∃ r, L' = L2 ++ r) → stepS c e a ∈ L' → Done c L' e (a + 1) := by
                    rintro L' ⟨r, rfl⟩ hin _ b hb1 hb2
                    by_cases hba : b = a
                    · subst hba; exact hin
                    · exact List.mem_append.2 (.inl (hdo hd2 b hb1 (by omega)))
                  have hrq := hrel2 (stepS c e a) hvs
                  generalize stepS c e a = q at hrq hvs hrs hdn
                  refine Ret.ite (fun hfound => ?_) (fun hnew => ?_)
                  · have hin := hrq.1 hfound
                    exact Ret.some (.inl ⟨L2, F2, rfl, hinv2, hrel2, ⟨r2, hr2⟩, hdn L2 ⟨[], by simp⟩ hin⟩)
                  · have hnin : q ∉ L2 := fun h => by
                      have := hrq.2 h
                      have hnew' : (mget (txS q) F2).getD false = false := hnew
                      rw [hnew'] at this; cases this
                    refine Ret.ite (fun hfull => ?_) (fun hroom => ?_)
                    · have := beq_iff_eq.1 hfull
                      exact Ret.some (.inr ⟨rfl, L2, hinv2, by omega⟩)
                    · have := beq_eq_false_iff_ne.1 hroom
                      refine Ret.bindE (appI_of (by simp; omega)) ?_
                      refine Ret.some (.inl ⟨_, _, rfl, ⟨fun x hx => ?_, ?_, fun x hx => ?_, by simp; omega⟩, fun x hx => ?_, ⟨r2 ++ [q], by rw [hr2, List.append_assoc]⟩, hdn _ ⟨[q], rfl⟩ (by simp)⟩)
                      · rcases List.mem_append.1 hx with hx | hx
                        · exact hinv2.vs x hx
                        · rw [List.mem_singleton.1 hx]; exact hvs
                      · exact List.nodup_append.2 ⟨hinv2.nd, by simp, fun a ha b hb => by rw [List.mem_singleton.1 hb]; intro e; subst e; exact hnin ha⟩
                      · rcases List.mem_append.1 hx with hx | hx
                        · exact hinv2.rch x hx
                        · rw [List.mem_singleton.1 hx]; exact hrs
                      · by_cases hxq : x = q
                        · subst hxq
                          have : mget (txS x) (mset (txt { state := x, own := false }) true F2) = some true := mget_mset_self _ _ _
                          rw [this]; simp
                        · have hne : txS x ≠ txt { state := q, own := false } := fun h => hxq (by have := txt_inj (p := { state := x, own := false }) (q := { state := q, own := false }) hx hvs h; exact congrArg PosT.state this)
                          rw [mget_mset_ne _ hne, hrel2 x hx]
                          simp [hxq]
                · rintro o (⟨L', F', rfl, q1, q2, q3, q4⟩ | ⟨rfl, hm⟩)
                  · simp only [Sum.elim_inl]
                    rw [wrap_i64 (by omega) (by omega)]
                    refine Ret.some ⟨⟨q1, q2, q3, ⟨by show -1 ≤ a + 1; omega, by show a + 1 ≤ (c.acts.length : Int); omega⟩, q4⟩, ?_⟩
                    show ((c.acts.length : Int) + 1 - (a + 1)).toNat < ((c.acts.length : Int) + 1 - a).toNat
                    omega
                  · exact Ret.some (.inr ⟨rfl, hm⟩)
              · have hge2 := of_decide_eq_false hge2
                have : a = (c.acts.length : Int) := by omega
                subst this
                exact Ret.some (.inl ⟨L2, F2, rfl, hinv2, hrel2, ⟨r2, hr2⟩, hdo⟩)
            · rintro o (⟨L', F', rfl, h⟩ | ⟨rfl, h⟩)
              · exact Ret.some (.inl ⟨L', F', rfl, h⟩)
              · exact Ret.some (.inr ⟨rfl, h⟩)
        · rintro o (⟨L', F', rfl, q1, q2, ⟨r, q3⟩, q4⟩ | ⟨rfl, hm⟩)
          · simp only [Sum.elim_inl]
            rw [wrap_i64 (by omega) (by omega)]
            have hll : L.length ≤ L'.length := by rw [q3]; simp
            refine Ret.some ⟨⟨q1, q2, by show s0 ∈ L'; rw [q3]; exact List.mem_append.2 (.inl hfst), ⟨by show 0 ≤ i + 1; omega, by show i + 1 ≤ (L'.length : Int); omega⟩, ?_⟩, ?_⟩
            · intro j s hj hs
              have hj : (j : Int) < i + 1 := hj
              have hs : L'[j]? = some s := hs
              have hjL : L[j]? = some s := by
                rw [q3, List.getElem?_append_left (by omega)] at hs; exact hs
              by_cases hji : (j : Int) < i
              · show Done c L' s c.acts.length
                rw [q3]; exact (hdone j s hji hjL).app r
              · have : j = i.toNat := by omega
                subst this
                rw [hget] at hjL; cases hjL
                exact q4
            · show (1501 - (i + 1)).toNat < (1501 - i).toNat
              omega
          · exact Ret.some (.inr ⟨rfl, hm⟩)
      · have hge := of_decide_eq_false hge
        refine Ret.some (.inl ⟨L, rfl, hinv, hfst, fun s hs => ?_⟩)
        obtain ⟨j, hj, e⟩ := List.getElem_of_mem hs
        exact hdone j s (by omega) (by rw [List.getElem?_eq_getElem hj, e])
    · rintro o (⟨L, rfl, h⟩ | ⟨rfl, h⟩)
      · exact Ret.some (.inl ⟨L, rfl, h⟩)
      · exact Ret.some (.inr ⟨rfl, h⟩)
  · rintro o (⟨L, rfl, h⟩ | ⟨rfl, h⟩)
    · exact Ret.some (.inl ⟨rfl, h⟩)
    · exact Ret.some (.inr h)
end Go.Proofs.YtaglopifoibhiaaDoor
namespace Go.Proofs.YtaglopifoibhiaaDoor
open Go.RowKit
set_option linter.unusedVariables false
set_option linter.unusedSimpArgs false
set_option maxRecDepth 100000

def atT (o : Bool) (s : StateT) : PosT := { state := s, own := o }
theorem atT_inj {o : Bool} {a b : StateT} (h : atT o a = atT o b) : a = b := congrArg PosT.state h
theorem nodup_at (o : Bool) {R : List StateT} (h : R.Nodup) : (R.map (atT o)).Nodup :=
  List.Pairwise.map _ (R := fun a b => a ≠ b) (fun a b h e => h (atT_inj e)) h

theorem sr_in {c : ContractT} (hc : c.Ok) {party : Int} {s0 : StateT} {L : List PosT} {M : List (List MoveT)} (F : FromOk c party { state := s0, own := true } L M) {s : StateT} (h : SR c s0 s) : atT true s ∈ L := by
  induction h with
  | base => exact List.mem_of_getElem? F.first
  | step _ h1 h2 hd ih => exact step_in hc F ih h1 h2 hd
theorem rch_state {c : ContractT} {party : Int} {s0 : StateT} {R : List StateT} (hR : ReachOk c s0 R) {q : PosT} (h : Rch c party { state := s0, own := true } q) : q.state ∈ R := by
  induction h with
  | base => exact hR.first
  | @step q m _ hm ih =>
    unfold target
    by_cases h2 : m = -2
    · rw [if_pos h2]; exact ih
    · rw [if_neg h2]
      rcases mem_moves.1 hm with h | ⟨hd, _, rfl⟩ | ⟨hd, i, hi, _, rfl⟩
      · exact absurd h.2 h2
      · exact hR.done _ ih hd (-1) (by omega) (by omega)
      · exact hR.done _ ih hd (i : Int) (by omega) (by omega)

theorem reach_any {c : ContractT} (hc : c.Ok) : Ret (d_Reach c) (fun r => ∀ s0, d_Start c = some (s0, 0) → (r.2 = 0 ∧ ReachOk c s0 r.1) ∨ ManyS c s0) := by
  by_cases hv : (validR c).1 = 0
  · obtain ⟨⟨s0, e0⟩, hst, h0, hvs⟩ := Start_ret hc hv
    simp only at h0 hvs
    subst h0
    refine (reach_ret hc hst hvs).mono fun r hr s1 h1 => ?_
    rw [hst] at h1; cases h1
    exact hr
  · have hb := Start_bad hc hv
    refine ⟨([], 1), ?_, fun s0 h => ?_⟩
    · unfold d_Reach
      rw [hb]; rfl
    · rw [hb] at h; cases h

theorem m_ArenaStates (c : ContractT) (party : Int) (hc : ContractT.Ok c) (hparty : InK .i64 party) : d_ArenaStates c party = some true := by
  refine Ret.eq ?_
  unfold d_ArenaStates
  refine Ret.bindE s_head18 ?_
  refine Ret.bindE (s_Tame hc) ?_
  refine Ret.ite (fun _ => ?_) (fun _ => Ret.some rfl)
  refine Ret.bind (build_ret hc party) ?_
  rintro ⟨⟨pa, L, M⟩, e⟩ hB
  refine Ret.bind (reach_any hc) ?_
  rintro ⟨R, e4⟩ hRe
  simp only
  by_cases hbig : e ≠ 0 ∨ 300 < (L.length : Int)
  · refine Ret.bindE (v := true) ?_ (Ret.some rfl)
    rcases hbig with h | h
    · rw [beq_eq_false_iff_ne.2 h]; rfl
    · rw [decide_eq_true h]; cases (e == 0) <;> rfl
  · have he0 : e = 0 := by
      apply Classical.byContradiction; intro h; exact hbig (.inl h)
    have hL300 : (L.length : Int) ≤ 300 := by
      apply Int.not_lt.1; intro h; exact hbig (.inr h)
    rcases hB with h | ⟨_, s0, hst, hvs, hp0, hp1, hpa, F⟩
    · exact absurd he0 h
    · simp only at hpa F
      subst he0
      have hsub : ∀ R2, SInv c s0 R2 → ∀ x ∈ R2.map (atT true), x ∈ L := fun R2 h x hx => by
        obtain ⟨s, hs, rfl⟩ := List.mem_map.1 hx
        exact sr_in hc F (h.rch s hs)
      rcases hRe s0 hst with ⟨h0, hR⟩ | ⟨R2, h2, h3⟩
      · simp only at h0 hR
        subst h0
        have hboth : ∀ x ∈ R.map (atT true) ++ R.map (atT false), x ∈ L := fun x hx => by
          rcases List.mem_append.1 hx with hx | hx
          · exact hsub R hR.inv x hx
          · obtain ⟨s, hs, rfl⟩ := List.mem_map.1 hx
            exact pass_in F (hsub R hR.inv _ (List.mem_map.2 ⟨s, hs, rfl⟩))
        have hnd : (R.map (atT true) ++ R.map (atT false)).Nodup := List.nodup_append.2 ⟨nodup_at _ hR.inv.nd, nodup_at _ hR.inv.nd, fun a ha b hb e => by
          obtain ⟨s, _, rfl⟩ := List.mem_map.1 ha
          obtain ⟨t, _, rfl⟩ := List.mem_map.1 hb
          have := congrArg PosT.own e
          cases this⟩
        have h1 := nodup_le hnd hboth
        have h2 := nodup_le (L2 := R.map (atT true) ++ R.map (atT false)) F.inv.nd fun x hx => by
          have := rch_state hR (F.inv.rch x hx)
          obtain ⟨s, o⟩ := x
          cases o with
          | true => exact List.mem_append.2 (.inl (List.mem_map.2 ⟨s, this, rfl⟩))
          | false => exact List.mem_append.2 (.inr (List.mem_map.2 ⟨s, this, rfl⟩))
        simp only [List.length_append, List.length_map] at h1 h2
        refine Ret.bindE (v := false) (by rw [decide_eq_false (by omega)]; rfl) ?_
        refine Ret.ite (fun h => by cases h) (fun _ => ?_)
        refine Ret.bindE (v := false) ?_ ?_
        · rw [wrap_i64 (by omega) (by omega), beq_iff_eq.2 (show 2 * (R.length : Int) = (L.length : Int) by omega)]; rfl
        refine Ret.ite (fun h => by cases h) (fun _ => ?_)
        refine Ret.bindE (v := (.inl () : Unit ⊕ Unit)) ?_ ?_
        rotate_left
        · exact Ret.some rfl
        rw [forR_allN (n := R.length) (fun _ => true) (by omega) (fun i hi => by
          have hix : ∀ q : PosT, d_Index18 L q = some (idxP L q) := fun q => s_Index hc F.inv.vs F.inv.len q
          have hm := List.getElem_mem hi
          rw [idxI_at (List.getElem?_eq_getElem hi)]
          simp only [Option.bind_some, hix]
          have ht : atT true R[i] ∈ L := hboth _ (List.mem_append.2 (.inl (List.mem_map.2 ⟨_, hm, rfl⟩)))
          have hf : atT false R[i] ∈ L := hboth _ (List.mem_append.2 (.inr (List.mem_map.2 ⟨_, hm, rfl⟩)))
          have ht2 : decide (idxP L { state := R[i], own := true } < 0) = false := decide_eq_false (idxP_in ht)
          have hf2 : decide (idxP L { state := R[i], own := false } < 0) = false := decide_eq_false (idxP_in hf)
          rw [ht2, hf2]; rfl)]
        have : (List.range R.length).all (fun _ => true) = true := List.all_eq_true.2 fun _ _ => rfl
        rw [this]; rfl
      · exfalso
        have := nodup_le (nodup_at true h2.nd) (hsub R2 h2)
        simp only [List.length_map] at this
        omega
end Go.Proofs.YtaglopifoibhiaaDoor
namespace Go.Proofs.YtaglopifoibhiaaDoor.LArenaStates
open Go.ChangeShapes Go.WideShapes Go.ChangeAt Go.RowKit
set_option linter.unusedVariables false
set_option maxRecDepth 100000

theorem all (ivs : List IV) (h : HasArgs [(true, ContractT.tys), (false, [.int .i64])] ivs) : APure C0 87 ivs (.bool true) := by
  match ivs, h with
  | [x0, x1], ⟨a0, a1, _⟩ =>
    obtain ⟨row0, rfl, r0⟩ := a0
    obtain ⟨c, rfl, ok_c⟩ := ContractT.opn r0
    obtain ⟨c1, _, e1, k1, n1⟩ := hcs_cons a1
    cases e1
    obtain ⟨party, rfl, ok_party⟩ := hasC_int k1
    exact t_ArenaStates c party true (m_ArenaStates c party ok_c ok_party)

theorem own : ownKnob Tryd.prog.godebug = none := by kernel_rfl
theorem laid : laidOutB Tryd.prog = true := by kernel_rfl
theorem args : mapO (argC Tryd.prog) Tryd.f4.params.toList = some [(true, ContractT.tys), (false, [.int .i64])] := by kernel_rfl

theorem lifted (os : Os) (started : os.Started) (H : Type) (enc : TypeId × Value → H) :
    ReturnsInHanded {} Tryd.checked os 4 .any (fun w args => (Rows.arenaStatesSpec.pre enc Tryd.prog Tryd.f4 [] false w args ∧ laidMet Tryd.prog laidL w) ∧ sizedMet enc Tryd.prog Tryd.f4 (OpenSpec.ofChange Rows.arenaStatesSpec) false w args) (Rows.arenaStatesSpec.post enc Tryd.prog Tryd.f4 false true false false) := by
  refine returnsInHanded_of_change_and (C := Tryd.checked) (X := fun w _ => laidMet Tryd.prog laidL w) (fun _ _ _ hh h => h.of_heap hh) own started (by kernel_rfl) Tryd.func4
    (ChangeSpec.witness_at (enc := enc) (C := Tryd.checked) (os := os) (X := fun w _ => laidMet Tryd.prog laidL w) false (laidWorld os) #[.agg #[.int .i64 0, .slice none 0 0, .slice none 0 0, .slice none 0 0, .slice none 0 0, .int .i64 0, .slice none 0 0], .int .i64 0] 8 rfl (by kernel_rfl) (by kernel_rfl) (by kernel_rfl) (by kernel_rfl) (by kernel_rfl) (laidWorld_met os _)) ?_
  intro W base args ds gs before hval hW _ hwt hL _
  exact law_contract (Cx := C0) (tb := 4) 87 rfl LArenaStates.args rfl (by kernel_rfl) rfl
    (fun ds h => by match ds, h with | [_, _], _ => rfl) LArenaStates.laid (by kernel_rfl) LArenaStates.all W (tabs_of_laid hL) base args ds gs before hval hW hwt

theorem said : Rows.ArenaStatesSaid :=
  OpenClaim.holds_of_wide 4 Tryd.f4 rfl rfl rfl rfl rfl rfl rfl ⟨rfl, rfl, rfl, rfl, rfl⟩ rfl rfl rfl rfl rfl (by kernel_rfl) Tryd.func4 (by kernel_rfl)
    (of_decide_eq_true (by kernel_rfl)) (by unfold Func.isWrapper; first | (rw [if_pos (by decide +kernel)]; kernel_rfl) | (rw [if_neg (by decide +kernel)]; exact ⟨rfl, rfl⟩))
    (fun os started H enc _ => lifted os started H enc)
theorem holds : Rows.ArenaStatesCardSaid :=
  Claim7.holds_tied_plain_at .later [] [.data, .data, .data] true (true, "276c8cf82d196e2d8316e5c16c6d7497c86e68577096c1d2bdbeadf6ee6e74e2") false
    said (fun _ h => by cases h) (by kernel_rfl) (fun _ h => by cases h) arenaStates_row_tie rfl ⟨rfl, rfl⟩ (by kernel_rfl) rfl
    (fun f fn hf hfn => by
      obtain rfl : f = 4 := Option.some.inj ((show Tryd.prog.funcNamed "estoppel/estoppellaw18.ArenaStates" = some 4 by kernel_rfl).symm.trans hf) |>.symm
      obtain rfl : fn = Tryd.f4 := (Option.some.inj (Tryd.func4.symm.trans hfn)).symm
      refine ⟨by kernel_rfl, fun j t ht => ?_⟩
      have hall : (Tryd.f4.params.toList.all fun t => !(Tryd.prog.wantsStandIn t)) = true := by kernel_rfl
      have := List.all_eq_true.1 hall t (by rw [Array.mem_toList_iff]; exact Array.mem_of_getElem? ht)
      have h2 : Tryd.prog.wantsStandIn t = false := by simpa using this
      exact h2)
    (by kernel_rfl)
end Go.Proofs.YtaglopifoibhiaaDoor.LArenaStates

namespace Go.Proofs.YtaglopifoibhiaaDoor
theorem arenaStates_holds : Rows.ArenaStatesCardSaid := LArenaStates.holds
end Go.Proofs.YtaglopifoibhiaaDoor
