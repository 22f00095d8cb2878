/-
  The abstract machine: entering a function.
  The abstract machine: forgetting slots, objects and names.
  The abstract machine: regions that draw their order. The text's order serves every order that the edges allow.
  The abstract machine: regions that draw their order, the theorem.
  The abstract machine: the rule for regions that draw their order.
  The abstract machine: calls in regions that draw their order, and such regions as a demand that can be worked off.
  The abstract machine: code as a demand that simp can work off: what is decided is run; what is not stands still.
  The abstract machine: counted loops, and small facts about numbers.
  The abstract machine: loops whose states are told by the slots that turn; lists.
  Denotations: small facts that printed proofs use.
  Denotations: rows of cells; what the printed proofs use.
-/
import Derived.Test.YtgligibbgobmnaaPt02
namespace Go.Proofs.Ytgligibbgobmnaa
open Go.RowKit
set_option linter.unusedVariables false
set_option linter.unusedSimpArgs false

def argEnv : Nat → List AV → List (Nat × AV)
  | _, [] => []
  | i, x :: xs => (i, x) :: argEnv (i + 1) xs

def resOne (st : St) : ARes → Option AV
  | .tmp t => alGet st.env t
  | .cell t ag n => match evalOp (.load ag n (.t t)) (evEnv st.env) (alGet st.heap) 0 with
    | some (r, _) => some r
    | none => none

def resOf (rs : List ARes) (st : St) : Option AV := match rs with
  | [r] => resOne st r
  | rs => match mapO (resOne st) rs with
    | some xs => some (.tuple xs)
    | none => none

section
variable {C : Ctx} {nt : Nat} {g g' : Gh} {h h' : Nat → Option AObj} {N N' : Nat → Prop} {st st' : St} {a : Act} {w w' : World}

theorem argEnv_get : ∀ (args : List AV) (i t : Nat) (x : AV), alGet (argEnv i args) t = some x → i ≤ t ∧ args[t - i]? = some x
  | [], i, t, x, h => by simp [argEnv, alGet] at h
  | y :: ys, i, t, x, h => by
    simp only [argEnv, alGet] at h
    split at h
    · rename_i e; subst e; cases h; simp
    · obtain ⟨h1, h2⟩ := argEnv_get ys (i + 1) t x h
      refine ⟨by omega, ?_⟩
      rw [show t - i = (t - (i + 1)) + 1 by omega]
      simpa using h2

theorem resOne_sound (R : Rel C nt g st a w) {rv : ResultVar} {ar : ARes} (hc : compRes C rv = some ar) {x : AV} (hx : resOne st ar = some x) :
    ∃ v, ((match rv with | .tmp t => pure (a.tmps.getD t undef) | .cell ad t => do loadVar t (← asAddr (a.tmps.getD ad undef)) : Sem Value)).run C.P w = .ok v w ∧ RV C g (alGet st.heap) (· < st.next) w x v := by
  cases rv with
  | tmp t =>
    simp only [compRes, Option.some.injEq] at hc
    subst hc
    exact ⟨_, rfl, R.env.slot t x hx⟩
  | cell ad t =>
    simp only [compRes] at hc
    split at hc
    · rename_i ag n h1 h2
      cases hc
      simp only [resOne] at hx
      split at hx
      · rename_i r ups he
        cases hx
        have hv : RV C g (alGet st.heap) (· < st.next) w (evEnv st.env (.t ad)) (a.tmps.getD ad undef) := rv_opd R (.tmp ad)
        obtain ⟨v, h3, _, h4⟩ := load_core h1 h2 R.heap hv he
        refine ⟨v, ?_, h4⟩
        have hsure : ∃ p, a.tmps.getD ad undef = .pointer (some p) := by
          generalize a.tmps.getD ad undef = q at h3
          cases q with
          | pointer p =>
            cases p with
            | none => simp [Instr.loadAt, Instr.sureAddr] at h3
            | some p => exact ⟨p, rfl⟩
          | _ => simp [Instr.loadAt, Instr.sureAddr] at h3
        obtain ⟨p, hp⟩ := hsure
        rw [hp] at h3
        show ((do loadVar t (← asAddr (a.tmps.getD ad undef)) : Sem Value)).run C.P w = .ok v w
        rw [hp]
        simpa [Instr.loadAt, Instr.sureAddr, asAddr] using h3
      · cases hx
    · cases hc

theorem results_sound (R : Rel C nt g st a w) {fn : Func} {rs : List ARes} (hc : mapO (compRes C) fn.results.toList = some rs) {x : AV} (hx : resOf rs st = some x) :
    ∃ v, (results fn a.tmps).run C.P w = .ok v w ∧ RV C g (alGet st.heap) (· < st.next) w x v := by
  obtain ⟨hl, hg⟩ := mapO_get hc
  have many : ∀ (l : List ResultVar) (rs : List ARes) (xs : List AV), mapO (compRes C) l = some rs → mapO (resOne st) rs = some xs →
      ∃ vs : List Value, (l.mapM (fun rv => (match rv with | .tmp t => pure (a.tmps.getD t undef) | .cell ad t => do loadVar t (← asAddr (a.tmps.getD ad undef)) : Sem Value))).run C.P w = .ok vs w ∧ vs.length = xs.length ∧
        ∀ (j : Nat) (y : AV) (u : Value), xs[j]? = some y → vs[j]? = some u → RV C g (alGet st.heap) (· < st.next) w y u := by
    intro l
    induction l with
    | nil =>
      intro rs xs h1 h2
      simp [mapO] at h1; subst h1
      simp [mapO] at h2; subst h2
      exact ⟨[], by simp, rfl, fun j y u hj => by simp at hj⟩
    | cons rv l ih =>
      intro rs xs h1 h2
      simp only [mapO] at h1
      split at h1
      · rename_i ar har
        split at h1
        · rename_i rs' hrs'
          cases h1
          simp only [mapO] at h2
          split at h2
          · rename_i y hy
            split at h2
            · rename_i ys hys
              cases h2
              obtain ⟨v, h3, h4⟩ := resOne_sound R har hy
              obtain ⟨vs, h5, h6, h7⟩ := ih rs' ys hrs' hys
              refine ⟨v :: vs, ?_, by simp [h6], fun j y' u hj hu => ?_⟩
              · simp only [List.mapM_cons, Sem.run_bind, h3, Result.andThen_ok, h5, Sem.run_pure]
              · cases j with
                | zero => simp at hj hu; subst hj; subst hu; exact h4
                | succ j => exact h7 j y' u (by simpa using hj) (by simpa using hu)
            · cases h2
          · cases h2
        · cases h1
      · cases h1
  have hrun : ∀ vs : List Value, (fn.results.toList.mapM (fun rv => (match rv with | .tmp t => pure (a.tmps.getD t undef) | .cell ad t => do loadVar t (← asAddr (a.tmps.getD ad undef)) : Sem Value))).run C.P w = .ok vs w →
      (results fn a.tmps).run C.P w = .ok (if h : vs.toArray.size = 1 then vs.toArray[0] else .tuple vs.toArray) w := fun vs hvs => by
    have key : ∀ (F : ResultVar → Sem Value), (∀ rv, F rv = (match rv with | .tmp t => pure (a.tmps.getD t undef) | .cell ad t => do loadVar t (← asAddr (a.tmps.getD ad undef)) : Sem Value)) → (fn.results.toList.mapM F).run C.P w = .ok vs w := fun F hF => by
      rw [funext hF]; exact hvs
    unfold results
    rw [Array.mapM_eq_mapM_toList]
    simp only [Sem.run_bind, Sem.run_map]
    rw [key _ (fun rv => by cases rv <;> rfl)]
    rfl
  unfold resOf at hx
  split at hx
  · rename_i ar
    have h1 : mapO (resOne st) [ar] = some [x] := by simp [mapO, hx]
    obtain ⟨vs, h2, h3, h4⟩ := many fn.results.toList [ar] [x] hc h1
    obtain ⟨v, rfl⟩ := List.length_eq_one_iff.1 h3
    exact ⟨v, by rw [hrun _ h2]; rfl, h4 0 x v rfl rfl⟩
  · rename_i hne
    split at hx
    · rename_i xs hxs
      cases hx
      obtain ⟨vs, h2, h3, h4⟩ := many fn.results.toList rs xs hc hxs
      have hxl := (mapO_get hxs).1
      have hn1 : ¬ vs.toArray.size = 1 := by
        intro hc1
        have : rs.length = 1 := by rw [← hxl, ← h3]; simpa using hc1
        obtain ⟨ar, rfl⟩ := List.length_eq_one_iff.1 this
        exact hne ar rfl
      exact ⟨.tuple vs.toArray, by rw [hrun _ h2, dif_neg hn1], .tuple xs vs h3.symm h4⟩
    · cases hx

theorem compFun_spec {f : Nat} {F : AFun} (hF : compFun C f = some F.erase) : ∃ fn code, C.P.funcs[C.fnum f]? = some fn ∧ fn.body = some code ∧ (fn.name == "runtime.NumGoroutine") = false ∧ fn.ntmps = F.nt ∧
    comp C F.nt code = some F.body.erase ∧ mapO (compRes C) fn.results.toList = some F.results := by
  unfold compFun at hF
  split at hF
  · rename_i fn hfn
    split at hF
    · rename_i code hcode
      split at hF
      · rename_i ac rs hac hrs
        split at hF
        · cases hF
        · rename_i hname
          simp only [Option.some.injEq, AFun.erase, AFun.mk.injEq] at hF
          obtain ⟨h1, h2, h3⟩ := hF
          subst h2
          subst h3
          exact ⟨fn, code, hfn, hcode, by simpa using hname, h1, by rw [← h1]; exact hac, hrs⟩
      · cases hF
    · cases hF
  · cases hF

def Ends (F : AFun) (K : AV → List (Nat × AObj) → Nat → Prop) : Exit → St → Prop := fun e st => (e = .ret ∨ e = .normal) ∧ ∃ r, resOf F.results st = some r ∧ K r st.heap st.next

theorem ACall.enter {f : Nat} {F : AFun} (hF : compFun C f = some F.erase) {args : List AV} {heap : List (Nat × AObj)} {next : Nat} {K : AV → List (Nat × AObj) → Nat → Prop} (hn : args.length ≤ F.nt)
    (h : awp C F.nt F.body (Ends F K) { env := argEnv 0 args, heap := heap, next := next }) : ACall C f args heap next K := by
  obtain ⟨fn, code, hfn, hcode, hname, hnt, hcomp, hres⟩ := compFun_spec hF
  refine ⟨⟨fn, hfn, by simp [hcode], hname⟩, fun g w vs R hv => ?_⟩
  refine calls_of_wp hfn hcode ?_
  have hsz : vs.length ≤ F.nt := by rw [← hv.1]; exact hn
  have R0 : Rel C F.nt g { env := argEnv 0 args, heap := heap, next := next } { tmps := vs.toArray ++ Array.replicate (fn.ntmps - vs.toArray.size) undef, defers := [] } w := by
    refine ⟨⟨by simp [hnt]; omega, rfl, fun t x hx => ?_⟩, R⟩
    obtain ⟨_, h2⟩ := argEnv_get args 0 t x hx
    simp only [Nat.sub_zero] at h2
    have hlt : t < vs.length := by rw [← hv.1]; exact (List.getElem?_eq_some_iff.1 h2).1
    have hget : (vs.toArray ++ Array.replicate (fn.ntmps - vs.toArray.size) undef).getD t undef = vs[t] := by
      simp [Array.getElem?_append, hlt]
    show RV C g (alGet heap) (· < next) w x ((vs.toArray ++ Array.replicate (fn.ntmps - vs.toArray.size) undef).getD t undef)
    rw [hget]
    exact hv.2 t x vs[t] h2 (by simp)
  refine Code.wp_mono ?_ (h code hcomp g _ w R0)
  rintro e a' w' ⟨st', g', ⟨he, r, hr, hK⟩, R', E⟩
  obtain ⟨v, h1, h2⟩ := results_sound R' hres hr
  rcases he with rfl | rfl
  · exact ⟨R'.env.defers, v, h1, v, r, st'.heap, st'.next, g', rfl, hK, E, R'.heap, h2⟩
  · exact ⟨R'.env.defers, v, h1, v, r, st'.heap, st'.next, g', rfl, hK, E, R'.heap, h2⟩

theorem APure.of {f : Nat} {args : List IV} {r : IV} {d : Nat} (hc : ACall C f (args.map .imm) [] 0 fun x heap _ => toIV (alGet heap) d x = some r) : APure C f args r := by
  refine ⟨hc.1, fun Z w vs hz hv => ?_⟩
  have R : RH C ⟨fun _ => none, Z⟩ (alGet []) (· < 0) w := ⟨fun i j b h => (by cases h), fun i b h => (by cases h), fun i o h => (by simp [alGet] at h), fun i b o h => (by cases h), fun i sz len h => (by simp [alGet] at h), hz⟩
  refine (hc.2 _ w vs R ⟨by simpa using hv.1, fun j x u hx hu => ?_⟩).mono ?_
  · simp only [List.getElem?_map, Option.map_eq_some_iff] at hx
    obtain ⟨y, hy, rfl⟩ := hx
    exact .imm _ _ (hv.2 j y u hy hu)
  · rintro e w' ⟨v, x, heap', next', g', rfl, hK, E, R', hx⟩
    have noOwn : ∀ b, ¬ Owned (⟨fun _ => none, Z⟩ : Gh) b := fun b ⟨i, hi⟩ => (by cases hi)
    let Z1 : Nat → Nat := fun b => if b < w.heap.size then Z b else match w'.heap[b]? with
      | some (.cells c _ _) => max (g'.Z b) c.size
      | _ => g'.Z b
    have hz1 : ∀ b, g'.Z b ≤ Z1 b := fun b => by
      show g'.Z b ≤ (if b < w.heap.size then Z b else match w'.heap[b]? with | some (.cells c _ _) => max (g'.Z b) c.size | _ => g'.Z b)
      split
      · rename_i hb; rw [(E.old b hb (noOwn b)).2]; exact Nat.le_refl _
      · split
        · exact Nat.le_max_left _ _
        · exact Nat.le_refl _
    have hO : ∀ i b sz rows, g'.ρ i = some b → alGet heap' i = some (.rows sz rows) → rows.length * sz ≤ Z1 b := fun i b sz rows hb ho => by
      obtain ⟨hz, c, e, hc, hlen, hcells⟩ := R'.obj i b _ hb ho
      have hnew : ¬ b < w.heap.size := by
        rcases E.own b ⟨i, hb⟩ with h | h
        · exact absurd h (noOwn b)
        · omega
      have hZ : Z1 b = max (g'.Z b) c.size := by
        show (if b < w.heap.size then Z b else match w'.heap[b]? with | some (.cells c _ _) => max (g'.Z b) c.size | _ => g'.Z b) = _
        rw [if_neg hnew, hc]
      rw [hZ]
      refine Nat.le_trans ?_ (Nat.le_max_right _ _)
      rcases Nat.eq_zero_or_pos (rows.length * sz) with h0 | h0
      · omega
      · have hs : 0 < sz := Nat.pos_of_ne_zero fun e => by subst e; simp at h0
        have hr : 0 < rows.length := Nat.pos_of_ne_zero fun e => by rw [e] at h0; simp at h0
        have hrow : rows[rows.length - 1]? = some (rows[rows.length - 1]'(by omega)) := by simp
        have hl := hlen _ _ hrow
        obtain ⟨cv, h3, _⟩ := hcells (rows.length - 1) _ (sz - 1) ((rows[rows.length - 1]'(by omega))[sz - 1]'(by omega)) hrow (by simp)
        have hlt := (Array.getElem?_eq_some_iff.1 h3).1
        have : (rows.length - 1) * sz + sz = rows.length * sz := by
          rw [← Nat.succ_mul]; congr 1; omega
        omega
    refine ⟨v, Z1, rfl, toIV_ri R' Z1 hz1 hO d _ _ _ hK hx, fun b hb => ?_, fun b hb => ?_, ⟨E.os, E.tape, E.output, E.size, fun k hk => (E.old k hk (noOwn k)).1⟩⟩
    · show (if b < w.heap.size then Z b else match w'.heap[b]? with | some (.cells c _ _) => max (g'.Z b) c.size | _ => g'.Z b) = Z b
      rw [if_pos hb]
    · rcases Nat.lt_or_ge b w'.heap.size with h | h
      · exact h
      · have hn : w'.heap[b]? = none := Array.getElem?_eq_none h
        have hb' : Z1 b = g'.Z b := by
          show (if b < w.heap.size then Z b else match w'.heap[b]? with | some (.cells c _ _) => max (g'.Z b) c.size | _ => g'.Z b) = _
          have := E.size
          rw [if_neg (by omega), hn]
        exact R'.zlt b (by omega)

end
end Go.Proofs.Ytgligibbgobmnaa
namespace Go.Proofs.Ytgligibbgobmnaa
open Go.RowKit
set_option linter.unusedVariables false
set_option linter.unusedSimpArgs false

def leafBelow (m : Nat) : AV → Bool
  | .gslice i _ => decide (i < m)
  | .ptr i _ _ => decide (i < m)
  | .mslice i _ _ => decide (i < m)
  | .map i => decide (i < m)
  | .func _ _ _ | .agg _ | .tuple _ => false
  | _ => true

def avB1 (m : Nat) : AV → Bool
  | .func _ first caps => first.all (leafBelow m) && caps.all (leafBelow m)
  | .agg cs => cs.all (leafBelow m)
  | .tuple cs => cs.all (leafBelow m)
  | x => leafBelow m x
def avBelow (m : Nat) : AV → Bool
  | .tuple cs => cs.all (avB1 m)
  | x => avB1 m x

def objBelow (m : Nat) : AObj → Prop
  | .rows _ rows => ∀ row ∈ rows, ∀ x ∈ row, avBelow m x = true
  | .tip _ _ => True
  | .map es => ∀ e ∈ es, avBelow m e.2 = true
  | .dead => True

section
variable {C : Ctx} {nt : Nat} {g g' : Gh} {h h' : Nat → Option AObj} {N N' : Nat → Prop} {st st' : St} {a : Act} {w w' : World} {m : Nat}

def Gh.below (g : Gh) (m : Nat) : Gh := ⟨fun i => if i < m then g.ρ i else none, g.Z⟩

theorem RV.leaf (hh : ∀ i o, h' i = some o → h i = some o) {x : AV} {v : Value} (hb : leafBelow m x = true) (hv : RV C g h N w x v) : RV C (g.below m) h' (· < m) w x v := by
  cases hv with
  | top v => exact .top v
  | undef => exact .undef
  | imm x v hr => exact .imm x v hr
  | nil => exact .nil
  | nnil a cap => exact .nnil a cap
  | gslice i rows v hr hid ht =>
    have him : i < m := by simpa [leafBelow] using hb
    refine .gslice i rows v hr him fun sz len hg => ?_
    obtain ⟨h1, h2, h3⟩ := ht sz len (hh i _ hg)
    refine ⟨h1, h2, fun e => ?_⟩
    simp only [Gh.below, if_pos him]
    exact h3 e
  | eptr cells b off cv hz hc hr => exact .eptr cells b off cv hz hc hr
  | ptr i row off v hid h1 hp =>
    have him : i < m := by simpa [leafBelow] using hb
    refine .ptr i row off v him h1 fun sz rows hg => ?_
    simp only [Gh.below, if_pos him]
    exact hp sz rows (hh i _ hg)
  | mslice i off len v hid h1 hp =>
    have him : i < m := by simpa [leafBelow] using hb
    refine .mslice i off len v him h1 fun sz rows hg => ?_
    simp only [Gh.below, if_pos him]
    exact hp sz rows (hh i _ hg)
  | map i v hid h1 hp =>
    have him : i < m := by simpa [leafBelow] using hb
    refine .map i v him h1 fun es hg => ?_
    simp only [Gh.below, if_pos him]
    exact hp es (hh i _ hg)
  | func => simp [leafBelow] at hb
  | agg => simp [leafBelow] at hb
  | tuple => simp [leafBelow] at hb

theorem RV.restrict1 (hh : ∀ i o, h' i = some o → h i = some o) {x : AV} {v : Value} (hb : avB1 m x = true) (hv : RV C g h N w x v) : RV C (g.below m) h' (· < m) w x v := by
  cases hv with
  | func f first caps vf vc hlf hlc hf hc =>
    simp only [avB1, Bool.and_eq_true, List.all_eq_true] at hb
    exact .func f first caps vf vc hlf hlc (fun i c v h1 h2 => (hf i c v h1 h2).leaf hh (hb.1 c (List.mem_of_getElem? h1))) (fun i c v h1 h2 => (hc i c v h1 h2).leaf hh (hb.2 c (List.mem_of_getElem? h1)))
  | agg cs vs hl h1 hr =>
    simp only [avB1, List.all_eq_true] at hb
    exact .agg cs vs hl h1 fun i c v h2 h3 => (hr i c v h2 h3).leaf hh (hb c (List.mem_of_getElem? h2))
  | tuple cs vs hl hr =>
    simp only [avB1, List.all_eq_true] at hb
    exact .tuple cs vs hl fun i c v h2 h3 => (hr i c v h2 h3).leaf hh (hb c (List.mem_of_getElem? h2))
  | top v => exact .top v
  | undef => exact .undef
  | imm x v hr => exact .imm x v hr
  | nil => exact .nil
  | nnil a cap => exact .nnil a cap
  | gslice i rows v hr hid ht => exact RV.leaf hh hb (.gslice i rows v hr hid ht)
  | eptr cells b off cv hz hc hr => exact .eptr cells b off cv hz hc hr
  | ptr i row off v hid h1 hp => exact RV.leaf hh hb (.ptr i row off v hid h1 hp)
  | mslice i off len v hid h1 hp => exact RV.leaf hh hb (.mslice i off len v hid h1 hp)
  | map i v hid h1 hp => exact RV.leaf hh hb (.map i v hid h1 hp)

theorem RV.restrict (hh : ∀ i o, h' i = some o → h i = some o) {x : AV} {v : Value} (hb : avBelow m x = true) (hv : RV C g h N w x v) : RV C (g.below m) h' (· < m) w x v := by
  cases hv with
  | tuple cs vs hl hr =>
    simp only [avBelow, List.all_eq_true] at hb
    exact .tuple cs vs hl fun i c v h2 h3 => (hr i c v h2 h3).restrict1 hh (hb c (List.mem_of_getElem? h2))
  | func f first caps vf vc hlf hlc hf hc => exact RV.restrict1 hh hb (.func f first caps vf vc hlf hlc hf hc)
  | agg cs vs hl h1 hr => exact RV.restrict1 hh hb (.agg cs vs hl h1 hr)
  | top v => exact .top v
  | undef => exact .undef
  | imm x v hr => exact .imm x v hr
  | nil => exact .nil
  | nnil a cap => exact .nnil a cap
  | gslice i rows v hr hid ht => exact RV.leaf hh hb (.gslice i rows v hr hid ht)
  | eptr cells b off cv hz hc hr => exact .eptr cells b off cv hz hc hr
  | ptr i row off v hid h1 hp => exact RV.leaf hh hb (.ptr i row off v hid h1 hp)
  | mslice i off len v hid h1 hp => exact RV.leaf hh hb (.mslice i off len v hid h1 hp)
  | map i v hid h1 hp => exact RV.leaf hh hb (.map i v hid h1 hp)

theorem RH.restrict (R : RH C g h N w) (hN : ∀ i, i < m → N i ∨ h' i = none) (hh : ∀ i o, h' i = some o → h i = some o ∧ i < m ∧ objBelow m o) : RH C (g.below m) h' (· < m) w := by
  have hh1 : ∀ i o, h' i = some o → h i = some o := fun i o ho => (hh i o ho).1
  have hr : ∀ i b, (g.below m).ρ i = some b → i < m ∧ g.ρ i = some b := fun i b hb => by
    simp only [Gh.below] at hb
    split at hb
    · rename_i him; exact ⟨him, hb⟩
    · cases hb
  refine ⟨fun i j b hi hj => R.inj i j b (hr i b hi).2 (hr j b hj).2, fun i b hb => ⟨(R.lt i b (hr i b hb).2).1, (hr i b hb).1⟩, fun i o ho => (hh i o ho).2.1, fun i b o hb ho => ?_, fun i sz len ho hn => ?_, R.zlt⟩
  · have H := R.obj i b o (hr i b hb).2 (hh1 i o ho)
    have hbel := (hh i o ho).2.2
    cases o with
    | rows sz rows =>
      obtain ⟨h0, c, e, h1, h2, h3⟩ := H
      refine ⟨h0, c, e, h1, h2, fun k row j x hk hj => ?_⟩
      obtain ⟨cv, h4, h5, h6⟩ := h3 k row j x hk hj
      exact ⟨cv, h4, h5, h6.restrict hh1 (hbel row (List.mem_of_getElem? hk) x (List.mem_of_getElem? hj))⟩
    | tip sz len => exact H
    | dead => trivial
    | map es =>
      obtain ⟨h0, ces, clock, h1, h2, h3⟩ := H
      refine ⟨h0, ces, clock, h1, h2, fun k kk x hk => ?_⟩
      obtain ⟨e, h4, h5, h6⟩ := h3 k kk x hk
      exact ⟨e, h4, h5, h6.restrict hh1 (hbel (kk, x) (List.mem_of_getElem? hk))⟩
  · have him := (hh i _ ho).2.1
    simp only [Gh.below, if_pos him] at hn
    exact R.tip0 i sz len (hh1 i _ ho) hn

theorem alGet_mem {α : Type} : ∀ {l : List (Nat × α)} {i : Nat} {x : α}, alGet l i = some x → (i, x) ∈ l
  | [], i, x, h => by simp [alGet] at h
  | (k, v) :: r, i, x, h => by
    simp only [alGet] at h
    split at h
    · rename_i e; subst e; cases h; exact List.mem_cons_self
    · exact List.mem_cons_of_mem _ (alGet_mem h)

theorem weak_of {st st' : St} (hn : st'.next ≤ st.next) (he : ∀ p ∈ st'.env, alGet st.env p.1 = some p.2 ∧ avBelow st'.next p.2 = true)
    (hh : ∀ p ∈ st'.heap, alGet st.heap p.1 = some p.2 ∧ p.1 < st'.next ∧ objBelow st'.next p.2) : Weak st st' := by
  intro C nt g a w R
  have hh' : ∀ i o, alGet st'.heap i = some o → alGet st.heap i = some o ∧ i < st'.next ∧ objBelow st'.next o := fun i o ho => hh (i, o) (alGet_mem ho)
  have hh1 : ∀ i o, alGet st'.heap i = some o → alGet st.heap i = some o := fun i o ho => (hh' i o ho).1
  refine ⟨g.below st'.next, ⟨⟨R.env.size, R.env.defers, fun t x hx => ?_⟩, R.heap.restrict (fun i hi => .inl (Nat.lt_of_lt_of_le hi hn)) hh'⟩, fun g0 st0 w0 hm E => ?_⟩
  · obtain ⟨h1, h2⟩ := he (t, x) (alGet_mem hx)
    exact (R.env.slot t x h1).restrict hh1 h2
  · have hr : ∀ i, i < st'.next → (g.below st'.next).ρ i = g.ρ i := fun i hi => by simp only [Gh.below, if_pos hi]
    exact {
      os := E.os
      tape := E.tape
      output := E.output
      size := E.size
      old := E.old
      own := fun b ⟨i, hi⟩ => by
        simp only [Gh.below] at hi
        split at hi
        · exact E.own b ⟨i, hi⟩
        · cases hi
      zmono := E.zmono
      cell := E.cell
      shape := E.shape
      next := fun i hi => Nat.lt_of_lt_of_le hi hm
      rho := fun i b hb o ho hnd hi => by
        rw [hr i (Nat.lt_of_lt_of_le hi hm)]
        exact E.rho i b hb o (hh1 i o ho) hnd hi
      rho0 := fun i hb hi o ho hnd => by
        rw [hr i (Nat.lt_of_lt_of_le hi hm)]
        exact E.rho0 i hb hi o (hh1 i o ho) hnd
      rows := fun i hi sz rows ho => E.rows i hi sz rows (hh1 i _ ho)
      tips := fun i hi sz len ho => E.tips i hi sz len (hh1 i _ ho)
      maps := fun i hi es ho => E.maps i hi es (hh1 i _ ho) }

theorem weak_nil {st : St} {t sz : Nat} (ht : alGet st.env t = some .nil) :
    Weak st { env := alSet st.env t (.gslice st.next []), heap := alSet st.heap st.next (.tip sz 0), next := st.next + 1 } := by
  intro C nt g a w R
  obtain ⟨g', E, H, hv⟩ := good_tip0 (id := st.next) R.heap (Nat.lt_irrefl _) sz
  rw [plus_lt] at E H hv
  have e1 : hup [(st.next, AObj.tip sz 0)] (alGet st.heap) = alGet (alSet st.heap st.next (.tip sz 0)) := by
    funext i; simp only [hup, alGet_alSet]
  rw [e1] at E H hv
  refine ⟨g', ⟨⟨R.env.size, R.env.defers, fun t' x hx => ?_⟩, H⟩, fun g0 st0 w0 hm E0 => E0.trans E⟩
  rw [alGet_alSet] at hx
  split at hx
  · rename_i e
    subst e
    cases hx
    have := R.env.slot t _ ht
    rw [rv_nil this]
    exact hv
  · exact (R.env.slot t' x hx).mono E

end
end Go.Proofs.Ytgligibbgobmnaa
namespace Go.Proofs.Ytgligibbgobmnaa
open Go.RowKit
set_option linter.unusedVariables false
set_option linter.unusedSimpArgs false

structure Rec where
  dst : Option Nat
  r : AV
  ups : List (Nat × AObj)
  rd : List Nat

def putF (f : Nat → Option AV) : Option Nat → AV → Nat → Option AV
  | none, _ => f
  | some d, x => fun t => if d = t then some x else f t

def slotF : List Rec → (Nat → Bool) → Nat → (Nat → Option AV) → Nat → Option AV
  | [], _, _, f => f
  | rc :: rs, L, k, f => slotF rs L (k + 1) (if L k then putF f rc.dst rc.r else f)

def heapF : List Rec → (Nat → Bool) → Nat → (Nat → Option AObj) → Nat → Option AObj
  | [], _, _, h => h
  | rc :: rs, L, k, h => heapF rs L (k + 1) (if L k then hup rc.ups h else h)

def upIds (ups : List (Nat × AObj)) : List Nat := ups.map (·.1)

theorem hup_notin : ∀ {ups : List (Nat × AObj)} {h : Nat → Option AObj} {i : Nat}, i ∉ upIds ups → hup ups h i = h i
  | [], _, _, _ => rfl
  | (k, o) :: r, h, i, hi => by
    simp only [upIds, List.map_cons, List.mem_cons, not_or] at hi
    simp only [hup]
    rw [if_neg (fun e => hi.1 e.symm)]
    exact hup_notin hi.2

theorem hup_in : ∀ {ups : List (Nat × AObj)} {h h' : Nat → Option AObj} {i : Nat}, i ∈ upIds ups → hup ups h i = hup ups h' i
  | [], _, _, _, hi => by simp [upIds] at hi
  | (k, o) :: r, h, h', i, hi => by
    simp only [hup]
    split
    · rfl
    · rename_i e
      simp only [upIds, List.map_cons, List.mem_cons] at hi
      rcases hi with hi | hi
      · exact absurd hi.symm e
      · exact hup_in hi

theorem slotF_congr {t : Nat} : ∀ (recs : List Rec) (L1 L2 : Nat → Bool) (k : Nat) (f1 f2 : Nat → Option AV), (∀ (j : Nat) (rc : Rec), recs[j]? = some rc → rc.dst = some t → L1 (k + j) = L2 (k + j)) → f1 t = f2 t →
    slotF recs L1 k f1 t = slotF recs L2 k f2 t
  | [], _, _, _, _, _, _, e => e
  | rc :: rs, L1, L2, k, f1, f2, hc, e => by
    refine slotF_congr rs L1 L2 (k + 1) _ _ (fun j rc' hj hd => by have := hc (j + 1) rc' (by simpa using hj) hd; rwa [show k + (j + 1) = k + 1 + j by omega] at this) ?_
    by_cases hd : rc.dst = some t
    · have := hc 0 rc rfl hd
      simp only [Nat.add_zero] at this
      rw [this]
      split
      · simp [hd, putF]
      · exact e
    · have hp : ∀ f : Nat → Option AV, putF f rc.dst rc.r t = f t := fun f => by
        cases hdd : rc.dst with
        | none => rfl
        | some d => simp only [putF]; rw [if_neg (fun e => hd (by rw [hdd, e]))]
      have h1 : (if L1 k then putF f1 rc.dst rc.r else f1) t = f1 t := by split <;> simp [hp]
      have h2 : (if L2 k then putF f2 rc.dst rc.r else f2) t = f2 t := by split <;> simp [hp]
      rw [h1, h2, e]

theorem heapF_congr {i : Nat} : ∀ (recs : List Rec) (L1 L2 : Nat → Bool) (k : Nat) (h1 h2 : Nat → Option AObj), (∀ (j : Nat) (rc : Rec), recs[j]? = some rc → i ∈ upIds rc.ups → L1 (k + j) = L2 (k + j)) → h1 i = h2 i →
    heapF recs L1 k h1 i = heapF recs L2 k h2 i
  | [], _, _, _, _, _, _, e => e
  | rc :: rs, L1, L2, k, h1, h2, hc, e => by
    refine heapF_congr rs L1 L2 (k + 1) _ _ (fun j rc' hj hd => by have := hc (j + 1) rc' (by simpa using hj) hd; rwa [show k + (j + 1) = k + 1 + j by omega] at this) ?_
    by_cases hd : i ∈ upIds rc.ups
    · have := hc 0 rc rfl hd
      simp only [Nat.add_zero] at this
      rw [this]
      split
      · exact hup_in hd
      · exact e
    · have h3 : (if L1 k then hup rc.ups h1 else h1) i = h1 i := by split <;> simp [hup_notin hd]
      have h4 : (if L2 k then hup rc.ups h2 else h2) i = h2 i := by split <;> simp [hup_notin hd]
      rw [h3, h4, e]

def setL (L : Nat → Bool) (i : Nat) : Nat → Bool := fun k => if k = i then true else L k

theorem setL_ne (L : Nat → Bool) {i k : Nat} (h : k ≠ i) : setL L i k = L k := by simp only [setL]; rw [if_neg h]

theorem setL_eq (L : Nat → Bool) (i : Nat) : setL L i i = true := by simp [setL]

theorem slotF_ins : ∀ (recs : List Rec) (L : Nat → Bool) (k i : Nat) (rc : Rec) (f : Nat → Option AV) (t : Nat), recs[i]? = some rc → (∀ (j : Nat) (rj : Rec) (d : Nat), recs[j]? = some rj → j ≠ i → rc.dst = some d → rj.dst ≠ some d) → L (k + i) = false →
    slotF recs (setL L (k + i)) k f t = putF (slotF recs L k f) rc.dst rc.r t
  | [], L, k, i, rc, f, t, hi, _, _ => by simp at hi
  | r0 :: rs, L, k, 0, rc, f, t, hi, hd, hL => by
    simp at hi
    subst hi
    simp only [Nat.add_zero] at hL ⊢
    simp only [slotF, setL_eq, if_true, hL, Bool.false_eq_true, if_false]
    cases hdst : r0.dst with
    | none => exact slotF_congr rs _ _ _ _ _ (fun j rc' hj _ => setL_ne _ (by omega)) rfl
    | some d =>
      simp only [putF]
      by_cases e : d = t
      · subst e
        rw [if_pos rfl]
        have : ∀ (rs : List Rec) (L : Nat → Bool) (k : Nat) (f : Nat → Option AV), (∀ (j : Nat) (rj : Rec), rs[j]? = some rj → rj.dst ≠ some d) → slotF rs L k f d = f d := by
          intro rs
          induction rs with
          | nil => intro L k f _; rfl
          | cons r1 rs ih =>
            intro L k f hn
            simp only [slotF]
            rw [ih _ _ _ (fun j rj hj => hn (j + 1) rj (by simpa using hj))]
            have h1 := hn 0 r1 rfl
            split
            · cases hd1 : r1.dst with
              | none => rfl
              | some d1 => simp only [putF]; rw [if_neg (fun e => h1 (by rw [hd1, e]))]
            · rfl
        rw [this _ _ _ _ (fun j rj hj => hd (j + 1) rj d (by simpa using hj) (by omega) hdst)]
        simp
      · rw [if_neg e]
        exact slotF_congr rs _ _ _ _ _ (fun j rc' hj _ => setL_ne _ (by omega)) (by simp [e])
  | r0 :: rs, L, k, i + 1, rc, f, t, hi, hd, hL => by
    simp only [slotF]
    have hk : setL L (k + (i + 1)) k = L k := setL_ne _ (by omega)
    rw [hk, show k + (i + 1) = k + 1 + i by omega]
    exact slotF_ins rs L (k + 1) i rc _ t (by simpa using hi) (fun j rj d hj hne => hd (j + 1) rj d (by simpa using hj) (by omega)) (by rw [show k + 1 + i = k + (i + 1) by omega]; exact hL)

theorem heapF_ins : ∀ (recs : List Rec) (L : Nat → Bool) (k i : Nat) (rc : Rec) (h : Nat → Option AObj) (x : Nat), recs[i]? = some rc →
    (∀ (j : Nat) (rj : Rec), recs[j]? = some rj → i < j → L (k + j) = true → ∀ y, y ∈ upIds rc.ups → y ∉ upIds rj.ups) → L (k + i) = false →
    heapF recs (setL L (k + i)) k h x = hup rc.ups (heapF recs L k h) x
  | [], L, k, i, rc, h, x, hi, _, _ => by simp at hi
  | r0 :: rs, L, k, 0, rc, h, x, hi, hd, hL => by
    simp at hi
    subst hi
    simp only [Nat.add_zero] at hL ⊢
    simp only [heapF, setL_eq, if_true, hL, Bool.false_eq_true, if_false]
    by_cases hx : x ∈ upIds r0.ups
    · have : ∀ (rs : List Rec) (L' : Nat → Bool) (k' : Nat) (h' : Nat → Option AObj), (∀ (j : Nat) (rj : Rec), rs[j]? = some rj → L' (k' + j) = true → x ∉ upIds rj.ups) → heapF rs L' k' h' x = h' x := by
        intro rs
        induction rs with
        | nil => intro L' k' h' _; rfl
        | cons r1 rs ih =>
          intro L' k' h' hn
          simp only [heapF]
          rw [ih _ _ _ (fun j rj hj hl => hn (j + 1) rj (by simpa using hj) (by rwa [show k' + (j + 1) = k' + 1 + j by omega]))]
          split
          · rename_i hl; exact hup_notin (hn 0 r1 rfl (by simpa using hl))
          · rfl
      rw [this _ _ _ _ (fun j rj hj hl => by
        rw [setL_ne _ (by omega)] at hl
        exact hd (j + 1) rj (by simpa using hj) (by omega) (by rwa [show k + (j + 1) = k + 1 + j by omega]) x hx)]
      exact hup_in hx
    · rw [hup_notin hx]
      exact heapF_congr rs _ _ _ _ _ (fun j rc' hj _ => setL_ne _ (by omega)) (by simp [hup_notin hx])
  | r0 :: rs, L, k, i + 1, rc, h, x, hi, hd, hL => by
    simp only [heapF]
    have hk : setL L (k + (i + 1)) k = L k := setL_ne _ (by omega)
    rw [hk, show k + (i + 1) = k + 1 + i by omega]
    exact heapF_ins rs L (k + 1) i rc _ x (by simpa using hi) (fun j rj hj hlt hl => hd (j + 1) rj (by simpa using hj) (by omega) (by rwa [show k + (j + 1) = k + 1 + j by omega])) (by rw [show k + 1 + i = k + (i + 1) by omega]; exact hL)

def topId : AV → List Nat
  | .gslice i _ => [i]
  | .ptr i _ _ => [i]
  | .mslice i _ _ => [i]
  | .map i => [i]
  | _ => []

def opOpds : AOp → List Opd
  | .mov x | .box _ x | .load _ _ x | .fld _ x | .not x | .neg x | .conv _ x | .len x | .lens x | .lenm x | .ext x _ | .mks _ _ _ x => [x]
  | .pick c a b => [c, a, b]
  | .alloc _ _ | .mkmap => []
  | .build _ ps => ps.map (·.2.2)
  | .bslice _ _ _ ps => ps.map (·.2)
  | .store _ x v | .idx _ x v | .idxa _ _ x v | .bin _ x v | .eqb _ x v | .eqs _ _ x v | .mm _ x v | .eqnil _ x v | .app _ _ x v => [x, v]
  | .mkf _ a b => a ++ b
  | .look _ _ _ m k => [m, k]
  | .upd _ m k v => [m, k, v]
  | .slc _ x lo hi => [x] ++ lo.toList ++ hi.toList
  | .call f args => f :: args

def readIds (op : AOp) (ev : Opd → AV) : List Nat := (opOpds op).flatMap fun x => topId (ev x)

theorem evalOp_agree {op : AOp} {ev : Opd → AV} {h h' : Nat → Option AObj} {id : Nat} (ha : ∀ i ∈ readIds op ev, h' i = h i) : evalOp op ev h' id = evalOp op ev h id := by
  have ht : ∀ x ∈ opOpds op, ∀ i ∈ topId (ev x), h' i = h i := fun x hx i hi => ha i (by simp only [readIds, List.mem_flatMap]; exact ⟨x, hx, hi⟩)
  have hro : ∀ x ∈ opOpds op, rowsOf h' (ev x) = rowsOf h (ev x) := fun x hx => by
    unfold rowsOf
    split <;> try rfl
    rename_i i off len e
    rw [ht x hx i (by rw [e]; simp [topId])]
  have hlo : ∀ x ∈ opOpds op, lenOfAV h' (ev x) = lenOfAV h (ev x) := fun x hx => by
    unfold lenOfAV
    split <;> try rfl
    rename_i i off len e
    rw [ht x hx i (by rw [e]; simp [topId])]
  cases op with
  | load ag n x =>
    simp only [evalOp]
    split <;> try rfl
    rename_i i r o e
    rw [ht x (by simp [opOpds]) i (by rw [e]; simp [topId])]
  | store n x v =>
    simp only [evalOp]
    split <;> try rfl
    rename_i i r o cs e _
    rw [ht x (by simp [opOpds]) i (by rw [e]; simp [topId])]
  | fld off x =>
    simp only [evalOp]
    split <;> try rfl
    rename_i i r o e
    rw [ht x (by simp [opOpds]) i (by rw [e]; simp [topId])]
  | idx sz x i =>
    simp only [evalOp]
    split <;> try rfl
    split <;> try rfl
    rename_i j off len e
    rw [ht x (by simp [opOpds]) j (by rw [e]; simp [topId])]
  | idxa n sz x i =>
    simp only [evalOp]
    split <;> try rfl
    rename_i k m j e1 e2
    rw [ht x (by simp [opOpds]) j (by rw [e2]; simp [topId])]
  | len x => simp only [evalOp, hlo x (by simp [opOpds])]
  | lenm x =>
    simp only [evalOp]
    split <;> try rfl
    rename_i i e
    rw [ht x (by simp [opOpds]) i (by rw [e]; simp [topId])]
  | look s z ok m k =>
    simp only [evalOp]
    split <;> try rfl
    rename_i i kv e1 e2
    rw [ht m (by simp [opOpds]) i (by rw [e1]; simp [topId])]
  | upd s m k v =>
    simp only [evalOp]
    split <;> try rfl
    rename_i i kv e1 e2
    rw [ht m (by simp [opOpds]) i (by rw [e1]; simp [topId])]
  | app sz by_ s x =>
    have hra : rowsAV h' (ev x) = rowsAV h (ev x) := by
      unfold rowsAV
      split
      · rename_i i off len e
        rw [ht x (by simp [opOpds]) i (by rw [e]; simp [topId])]
      · rw [hro x (by simp [opOpds])]
    simp only [evalOp]
    split
    · rename_i i off len e
      have := ht s (by simp [opOpds]) i (by rw [e]; simp [topId])
      simp only [appT, hra, this]
    · simp only [appF, hro x (by simp [opOpds])]
      split <;> try rfl
      split <;> try rfl
      split <;> try rfl
      rename_i i rows e2
      rw [ht s (by simp [opOpds]) i (by rw [e2]; simp [topId])]
  | _ => rfl

end Go.Proofs.Ytgligibbgobmnaa
namespace Go.Proofs.Ytgligibbgobmnaa
open Go.RowKit
set_option linter.unusedVariables false
set_option linter.unusedSimpArgs false

def LCall (C : Ctx) (f : Nat) (args : List AV) (h0 : Nat → Option AObj) (rd : List Nat) (r : AV) (ups : List (Nat × AObj)) : Prop := Callable C f ∧
  ∀ (g : Gh) (h : Nat → Option AObj) (N : Nat → Prop) (w : World) (vs : List Value), (∀ i ∈ rd, h i = h0 i) → RH C g h N w → RVs C g h N w args vs →
    Calls C.P (C.fnum f) vs.toArray w fun e w' => ∃ v g', e = .returned v ∧ Evo g h N w g' (hup ups h) N w' ∧ RH C g' (hup ups h) N w' ∧ RV C g' (hup ups h) N w' r v

def EvD (C : Ctx) (it : AItem) (st : St) (rc : Rec) : Prop :=
  match guardOf st.env it.guard with
  | some false => rc.r = .undef ∧ rc.ups = []
  | some true => match it.op with
    | .call f args => match evEnv st.env f with
      | .func f' first caps => LCall C f' (first ++ args.map (evEnv st.env) ++ caps) (alGet st.heap) rc.rd rc.r rc.ups
      | _ => False
    | op => evalOp op (evEnv st.env) (alGet st.heap) st.next = some (rc.r, rc.ups) ∧ rc.rd = readIds op (evEnv st.env)
  | none => False

def RunD (C : Ctx) : List AItem → St → List Rec → St → Prop
  | [], st, [], st' => st' = st
  | it :: its, st, rc :: recs, st' => rc.dst = it.dst ∧ EvD C it st rc ∧ RunD C its (st.after it.dst rc.r rc.ups) recs st'
  | _, _, _, _ => False

def clash (a b : Rec) : Bool := (upIds a.ups).any (fun i => b.rd.contains i || (upIds b.ups).contains i) || (upIds b.ups).any (fun i => a.rd.contains i)

def memOk (ord : List Nat) (recs : List Rec) : Bool :=
  (List.range recs.length).all fun j => match recs[j]? with
    | some rj => (upIds rj.ups).isEmpty && rj.rd.isEmpty || (List.range j).all fun i => match recs[i]? with
      | some ri => bef ord i j || !clash ri rj
      | none => true
    | none => true

section
variable {C : Ctx} {nt : Nat} {g g' : Gh} {st st' : St} {a : Act} {w w' : World}

theorem memOk_spec {ord : List Nat} {recs : List Rec} (hm : memOk ord recs = true) {i j : Nat} {ri rj : Rec} (hi : recs[i]? = some ri) (hj : recs[j]? = some rj) (hlt : i < j) (hc : clash ri rj = true) : bef ord i j = true := by
  unfold memOk at hm
  have hjl : j < recs.length := (List.getElem?_eq_some_iff.1 hj).1
  have h1 := List.all_eq_true.1 hm j (by simp [hjl])
  simp only [hj, Bool.or_eq_true, Bool.and_eq_true, List.isEmpty_iff] at h1
  rcases h1 with ⟨h2, h3⟩ | h1
  · simp [clash, h2, h3] at hc
  · have h2 := List.all_eq_true.1 h1 i (by simp [hlt])
    simp only [hi, Bool.or_eq_true, Bool.not_eq_true'] at h2
    rcases h2 with h2 | h2
    · exact h2
    · rw [hc] at h2; cases h2

theorem runD_len : ∀ {items : List AItem} {st : St} {recs : List Rec} {st' : St}, RunD C items st recs st' → recs.length = items.length
  | [], _, [], _, _ => rfl
  | [], _, _ :: _, _, h => h.elim
  | _ :: _, _, [], _, h => h.elim
  | it :: its, st, rc :: recs, st', h => by simp [runD_len h.2.2]

theorem alGet_after_env (st : St) (dst : Option Nat) (r : AV) (ups : List (Nat × AObj)) : alGet (st.after dst r ups).env = putF (alGet st.env) dst r := by
  cases dst with
  | none => rfl
  | some d => funext t; simp only [St.after, St.put, putF, alGet_alSet]

theorem alGet_after_heap (st : St) (dst : Option Nat) (r : AV) (ups : List (Nat × AObj)) : alGet (st.after dst r ups).heap = hup ups (alGet st.heap) := by
  cases dst <;> simp only [St.after, St.put, alGet_applyUps]

theorem next_after (st : St) (dst : Option Nat) (r : AV) (ups : List (Nat × AObj)) : (st.after dst r ups).next = st.next + 1 := by
  cases dst <;> rfl

theorem runD_at : ∀ (items : List AItem) (st : St) (recs : List Rec) (st' : St) (k : Nat), RunD C items st recs st' → ∀ (i : Nat) (it : AItem) (rc : Rec), items[i]? = some it → recs[i]? = some rc →
    ∃ sti, EvD C it sti rc ∧ rc.dst = it.dst ∧ alGet sti.env = slotF recs (fun j => decide (j < k + i)) k (alGet st.env) ∧ alGet sti.heap = heapF recs (fun j => decide (j < k + i)) k (alGet st.heap) ∧ sti.next = st.next + i
  | [], _, [], _, _, _, i, it, rc, hi, _ => by simp at hi
  | [], _, _ :: _, _, _, h, _, _, _, _, _ => h.elim
  | _ :: _, _, [], _, _, h, _, _, _, _, _ => h.elim
  | it0 :: its, st, rc0 :: recs, st', k, ⟨h1, h2, h3⟩, 0, it, rc, hi, hr => by
    simp at hi hr
    subst hi; subst hr
    refine ⟨st, h2, h1, ?_, ?_, rfl⟩
    · funext t
      have : slotF (rc0 :: recs) (fun j => decide (j < k + 0)) k (alGet st.env) t = slotF (rc0 :: recs) (fun _ => false) k (alGet st.env) t := slotF_congr _ _ _ _ _ _ (fun j rc _ _ => by simp) rfl
      rw [this]
      have : ∀ (l : List Rec) (k : Nat) (f : Nat → Option AV), slotF l (fun _ => false) k f = f := by
        intro l
        induction l with
        | nil => intro k f; rfl
        | cons r l ih => intro k f; simp [slotF, ih]
      rw [this]
    · funext t
      have : heapF (rc0 :: recs) (fun j => decide (j < k + 0)) k (alGet st.heap) t = heapF (rc0 :: recs) (fun _ => false) k (alGet st.heap) t := heapF_congr _ _ _ _ _ _ (fun j rc _ _ => by simp) rfl
      rw [this]
      have : ∀ (l : List Rec) (k : Nat) (f : Nat → Option AObj), heapF l (fun _ => false) k f = f := by
        intro l
        induction l with
        | nil => intro k f; rfl
        | cons r l ih => intro k f; simp [heapF, ih]
      rw [this]
  | it0 :: its, st, rc0 :: recs, st', k, ⟨h1, h2, h3⟩, i + 1, it, rc, hi, hr => by
    obtain ⟨sti, h4, h5, h6, h7, h8⟩ := runD_at its _ recs st' (k + 1) h3 i it rc (by simpa using hi) (by simpa using hr)
    refine ⟨sti, h4, h5, ?_, ?_, by rw [h8, next_after]; omega⟩
    · rw [h6, alGet_after_env, ← h1]
      simp only [slotF]
      rw [show k + 1 + i = k + (i + 1) by omega]
      simp
    · rw [h7, alGet_after_heap]
      simp only [heapF]
      rw [show k + 1 + i = k + (i + 1) by omega]
      simp

theorem runD_end : ∀ (items : List AItem) (st : St) (recs : List Rec) (st' : St) (k : Nat) (L : Nat → Bool), RunD C items st recs st' → (∀ j, j < items.length → L (k + j) = true) →
    alGet st'.env = slotF recs L k (alGet st.env) ∧ alGet st'.heap = heapF recs L k (alGet st.heap) ∧ st'.next = st.next + items.length
  | [], _, [], _, _, _, h, _ => by cases h; exact ⟨rfl, rfl, rfl⟩
  | [], _, _ :: _, _, _, _, h, _ => h.elim
  | _ :: _, _, [], _, _, _, h, _ => h.elim
  | it0 :: its, st, rc0 :: recs, st', k, L, ⟨h1, h2, h3⟩, hL => by
    obtain ⟨h4, h5, h6⟩ := runD_end its _ recs st' (k + 1) L h3 (fun j hj => by have := hL (j + 1) (by simp; omega); rwa [show k + (j + 1) = k + 1 + j by omega] at this)
    have h0 := hL 0 (by simp)
    simp only [Nat.add_zero] at h0
    refine ⟨?_, ?_, by rw [h6, next_after]; simp; omega⟩
    · rw [h4, alGet_after_env, ← h1]; simp only [slotF, h0, if_true]
    · rw [h5, alGet_after_heap]; simp only [heapF, h0, if_true]

/-! The edges. -/

theorem mask_testBit (acc : Array Nat) (i : Nat) : ∀ (l : List Edge) (s : Nat), (l.foldl (fun s e => if Region.binds .any e then s ||| 2 ^ e.on ||| acc.getD e.on 0 else s) s).testBit i = true →
    s.testBit i = true ∨ ∃ e ∈ l, Region.binds .any e = true ∧ (e.on = i ∨ (acc.getD e.on 0).testBit i = true) := by
  intro l
  induction l with
  | nil => intro s h; exact .inl h
  | cons e l ih =>
    intro s h
    simp only [List.foldl_cons] at h
    rcases ih _ h with h1 | ⟨e', he', h1⟩
    · split at h1
      · rename_i hb
        simp only [Nat.testBit_or, Bool.or_eq_true, Nat.testBit_two_pow, decide_eq_true_eq] at h1
        rcases h1 with (h1 | h1) | h1
        · exact .inl h1
        · exact .inr ⟨e, List.mem_cons_self, hb, .inl h1⟩
        · exact .inr ⟨e, List.mem_cons_self, hb, .inr h1⟩
      · exact .inl h1
    · exact .inr ⟨e', List.mem_cons_of_mem _ he', h1⟩

theorem before_aux : ∀ (l : List Oper) (acc : Array Nat), ∃ R : Array Nat, R = l.foldl (fun acc o => acc.push (o.after.foldl (fun s e => if Region.binds .any e then s ||| 2 ^ e.on ||| acc.getD e.on 0 else s) 0)) acc ∧
    (∀ j, j < acc.size → R.getD j 0 = acc.getD j 0) ∧
    ∀ (j : Nat) (o : Oper) (i : Nat), l[j]? = some o → (R.getD (acc.size + j) 0).testBit i = true → ∃ e ∈ o.after, Region.binds .any e = true ∧ (e.on = i ∨ (R.getD e.on 0).testBit i = true) := by
  intro l
  induction l with
  | nil => intro acc; exact ⟨acc, rfl, fun _ _ => rfl, fun j o i hj => by simp at hj⟩
  | cons o l ih =>
    intro acc
    obtain ⟨R, h1, h2, h3⟩ := ih (acc.push (o.after.foldl (fun s e => if Region.binds .any e then s ||| 2 ^ e.on ||| acc.getD e.on 0 else s) 0))
    refine ⟨R, h1, fun j hj => ?_, fun j o' i hj ht => ?_⟩
    · rw [h2 j (by simp; omega)]
      have hne : j ≠ acc.size := by omega
      simp [Array.getElem?_push, hne]
    · cases j with
      | zero =>
        simp at hj
        subst hj
        simp only [Nat.add_zero] at ht
        have hval : R.getD acc.size 0 = o.after.foldl (fun s e => if Region.binds .any e then s ||| 2 ^ e.on ||| acc.getD e.on 0 else s) 0 := by
          rw [h2 acc.size (by simp)]; simp
        rw [hval, ← Array.foldl_toList] at ht
        rcases mask_testBit acc i _ 0 ht with h4 | ⟨e, he, hb, h4⟩
        · simp at h4
        · refine ⟨e, by simpa using he, hb, ?_⟩
          rcases h4 with h4 | h4
          · exact .inl h4
          · refine .inr ?_
            rcases Nat.lt_or_ge e.on acc.size with hlt | hge
            · rw [h2 e.on (by simp; omega)]
              have hne : e.on ≠ acc.size := by omega
              simpa [Array.getElem?_push, hne] using h4
            · simp [Array.getElem?_eq_none hge] at h4
      | succ j =>
        refine h3 j o' i (by simpa using hj) ?_
        rw [← ht]
        congr 2
        simp; omega

theorem bef_step {ops : Array Oper} {i j : Nat} {o : Oper} (hj : ops[j]? = some o) (hb : bef (Region.before ops).toList i j = true) :
    ∃ e ∈ o.after, Region.binds .any e = true ∧ (e.on = i ∨ bef (Region.before ops).toList i e.on = true) := by
  obtain ⟨R, h1, _, h3⟩ := before_aux ops.toList #[]
  have hR : R = Region.before ops := by rw [h1]; unfold Region.before; rw [← Array.foldl_toList]
  have hconv : ∀ k, (Region.before ops).toList.getD k 0 = (Region.before ops).getD k 0 := fun k => by simp [List.getD, Array.getD_eq_getD_getElem?]
  unfold bef at hb ⊢
  rw [hconv] at hb
  obtain ⟨e, he, hbe, h4⟩ := h3 j o i (by simpa using hj) (by rw [hR]; simpa using hb)
  refine ⟨e, he, hbe, ?_⟩
  rcases h4 with h4 | h4
  · exact .inl h4
  · rw [hR] at h4; rw [hconv]; exact .inr h4

theorem drawOk_edges {ops : Array Oper} {ord : List Nat} (hd : drawOk ops ord = true) {i : Nat} {o : Oper} (hi : ops[i]? = some o) {e : Edge} (he : e ∈ o.after) (hb : Region.binds .any e = true) : e.on < i := by
  unfold drawOk at hd
  simp only [Bool.and_eq_true] at hd
  have hil : i < ops.size := (Array.getElem?_eq_some_iff.1 hi).1
  have h1 := List.all_eq_true.1 hd.1 i (by simp [hil])
  simp only [hi] at h1
  have h2 := Array.all_eq_true_iff_forall_mem.1 h1 e he
  simpa [hb] using h2

theorem drawOk_slots {ops : Array Oper} {ord : List Nat} (hd : drawOk ops ord = true) {i j : Nat} {oi oj : Oper} {d : Nat} (hi : ops[i]? = some oi) (hj : ops[j]? = some oj) (hdst : oi.dst = some d) (hne : i ≠ j) :
    oj.dst ≠ some d ∧ (d ∈ oj.looksAt ops → if i < j then bef ord i j = true else bef ord j i = true) := by
  unfold drawOk at hd
  simp only [Bool.and_eq_true] at hd
  have hil : i < ops.size := (Array.getElem?_eq_some_iff.1 hi).1
  have hjl : j < ops.size := (Array.getElem?_eq_some_iff.1 hj).1
  have h1 := List.all_eq_true.1 hd.2 i (by simp [hil])
  simp only [hi, hdst] at h1
  have h2 := List.all_eq_true.1 h1 j (by simp [hjl])
  simp only [hj, Bool.or_eq_true, beq_iff_eq, hne, false_or, Bool.and_eq_true, bne_iff_ne, ne_eq, Bool.not_eq_true'] at h2
  refine ⟨h2.1, fun hm => ?_⟩
  rcases h2.2 with h3 | h3
  · have : (oj.looksAt ops).contains d = true := by simpa using hm
    rw [this] at h3; cases h3
  · split
    · rename_i hlt; simpa [hlt] using h3
    · rename_i hlt; simpa [hlt] using h3

def Closed (ops : Array Oper) (listed : Array Bool) : Prop := ∀ (j : Nat) (o : Oper), ops[j]? = some o → listed.getD j false = true → ∀ e ∈ o.after, Region.binds .any e = true → listed.getD e.on false = true

theorem bef_listed {ops : Array Oper} {listed : Array Bool} (hd : drawOk ops (Region.before ops).toList = true) (hc : Closed ops listed) : ∀ (j i : Nat) (o : Oper), ops[j]? = some o →
    (∀ e ∈ o.after, Region.binds .any e = true → listed.getD e.on false = true) → bef (Region.before ops).toList i j = true → listed.getD i false = true := by
  intro j
  induction j using Nat.strongRecOn with
  | _ j ih =>
    intro i o hj ha hb
    obtain ⟨e, he, hbe, h1⟩ := bef_step hj hb
    have hl := ha e he hbe
    rcases h1 with rfl | h1
    · exact hl
    · have hlt := drawOk_edges hd hj he hbe
      have hjl : j < ops.size := (Array.getElem?_eq_some_iff.1 hj).1
      have hoe : ops[e.on]? = some (ops[e.on]'(by omega)) := by simp
      exact ih e.on hlt i _ hoe (fun e' he' hb' => hc e.on _ hoe hl e' he' hb') h1
end
end Go.Proofs.Ytgligibbgobmnaa
namespace Go.Proofs.Ytgligibbgobmnaa
open Go.RowKit
set_option linter.unusedVariables false
set_option linter.unusedSimpArgs false

section
variable {C : Ctx} {nt : Nat}

def NS (n0 : Nat) (L : Nat → Bool) : Nat → Prop := fun i => i < n0 ∨ ∃ k, L k = true ∧ i = n0 + k

def InvD (C : Ctx) (nt : Nat) (recs : List Rec) (g0 : Gh) (st : St) (w0 : World) (L : Nat → Bool) (a : Act) (w : World) : Prop :=
  ∃ g, RH C g (heapF recs L 0 (alGet st.heap)) (NS st.next L) w ∧ Evo g0 (alGet st.heap) (· < st.next) w0 g (heapF recs L 0 (alGet st.heap)) (NS st.next L) w ∧
    a.tmps.size = nt ∧ a.defers = [] ∧ ∀ t x, slotF recs L 0 (alGet st.env) t = some x → RV C g (heapF recs L 0 (alGet st.heap)) (NS st.next L) w x (a.tmps.getD t undef)

theorem ns_set (n0 : Nat) (L : Nat → Bool) (i : Nat) : NS n0 (setL L i) = plus (NS n0 L) (n0 + i) := by
  funext x
  simp only [NS, plus, eq_iff_iff]
  constructor
  · rintro (h | ⟨k, h1, rfl⟩)
    · exact .inl (.inl h)
    · by_cases e : k = i
      · subst e; exact .inr rfl
      · rw [setL_ne _ e] at h1; exact .inl (.inr ⟨k, h1, rfl⟩)
  · rintro ((h | ⟨k, h1, rfl⟩) | rfl)
    · exact .inl h
    · by_cases e : k = i
      · subst e; exact .inr ⟨k, setL_eq _ _, rfl⟩
      · exact .inr ⟨k, by rw [setL_ne _ e]; exact h1, rfl⟩
    · exact .inr ⟨i, setL_eq _ _, rfl⟩

theorem ns_fresh {n0 : Nat} {L : Nat → Bool} {i : Nat} (h : L i = false) : ¬ NS n0 L (n0 + i) := by
  rintro (h1 | ⟨k, h1, h2⟩)
  · omega
  · have : k = i := by omega
    subst this
    rw [h] at h1; cases h1

theorem invD_step {ops : Array Oper} {items : List AItem} {recs : List Rec} {st st' : St} {g0 : Gh} {w0 : World} (hm : mapO (compItem C nt ops) ops.toList = some items) (hrun : RunD C items st recs st')
    (hd : drawOk ops (Region.before ops).toList = true) (hmem : memOk (Region.before ops).toList recs = true) {listed : Array Bool} (hsz : listed.size = ops.size) (hcl : Closed ops listed)
    {i : Nat} (hi : i ∈ Region.ready .any ops listed) {a : Act} {w : World} (hI : InvD C nt recs g0 st w0 (fun k => listed.getD k false) a w) {Q : Exit → Act → World → Prop} {K : Act → World → Prop}
    (hK : ∀ a' w', InvD C nt recs g0 st w0 (fun k => (listed.setIfInBounds i true).getD k false) a' w' → K a' w') : wpOp C.P ops Q i K a w := by
  obtain ⟨hun, o, ho, hready⟩ := mem_ready.1 hi
  have hilt : i < ops.size := (Array.getElem?_eq_some_iff.1 ho).1
  have hLi : listed.getD i false = false := by
    have hlt : i < listed.size := by omega
    simp [hlt] at hun ⊢
    exact hun
  obtain ⟨hlen, hget⟩ := mapO_get hm
  obtain ⟨it, hit, hcomp⟩ := hget i o (by simpa using ho)
  have hrl := runD_len hrun
  have hlo : items.length = ops.size := by rw [hlen]; simp
  have hrlt : i < recs.length := by omega
  have hrc : recs[i]? = some recs[i] := by simp
  generalize hrcd : recs[i] = rc at hrc
  obtain ⟨hop, hdst, hdlt, hgd⟩ := compItem_spec hcomp
  obtain ⟨sti, hev, hrdst, henv, hheap, hnext⟩ := runD_at items st recs st' 0 hrun i it rc hit hrc
  simp only [Nat.zero_add] at henv hheap
  -- what is known of other operations
  have recDst : ∀ (j : Nat) (rj : Rec), recs[j]? = some rj → ∃ oj, ops[j]? = some oj ∧ rj.dst = oj.dst := fun j rj hj => by
    have hjl : j < recs.length := (List.getElem?_eq_some_iff.1 hj).1
    have hoj : ops[j]? = some (ops[j]'(by omega)) := by simp
    obtain ⟨itj, hitj, hcj⟩ := hget j (ops[j]'(by omega)) (by rw [Array.getElem?_toList]; exact hoj)
    obtain ⟨_, _, h3, _, _⟩ := runD_at items st recs st' 0 hrun j itj rj hitj hj
    exact ⟨_, hoj, by rw [h3]; exact (compItem_spec hcj).2.1⟩
  have listedOf : ∀ j, bef (Region.before ops).toList j i = true → listed.getD j false = true := fun j hb => bef_listed hd hcl i j o ho hready hb
  have notListed : ∀ j, i < j → j < ops.size → bef (Region.before ops).toList i j = true → listed.getD j false = false := fun j hlt hj hb => by
    cases hc : listed.getD j false with
    | false => rfl
    | true =>
      have hoj : ops[j]? = some (ops[j]'(by omega)) := by simp
      have := bef_listed hd hcl j i _ hoj (fun e he hbe => hcl j _ hoj hc e he hbe) hb
      rw [hLi] at this; cases this
  have agreeSlot : ∀ t, t ∈ o.looksAt ops → slotF recs (fun k => listed.getD k false) 0 (alGet st.env) t = alGet sti.env t := fun t ht => by
    rw [henv]
    refine slotF_congr _ _ _ _ _ _ (fun j rj hj hdj => ?_) rfl
    simp only [Nat.zero_add]
    obtain ⟨oj, hoj, hdoj⟩ := recDst j rj hj
    rw [hdoj] at hdj
    have hjl : j < ops.size := (Array.getElem?_eq_some_iff.1 hoj).1
    by_cases hji : j = i
    · subst hji; rw [hLi]; simp
    · have h2 := (drawOk_slots hd hoj ho hdj hji).2 ht
      split at h2
      · rename_i hlt; rw [listedOf j h2]; simp [hlt]
      · rename_i hge; rw [notListed j (by omega) hjl h2]; simp; omega
  have agreeHeap : ∀ x, x ∈ rc.rd → heapF recs (fun k => listed.getD k false) 0 (alGet st.heap) x = alGet sti.heap x := fun x hx => by
    rw [hheap]
    refine heapF_congr _ _ _ _ _ _ (fun j rj hj hup => ?_) rfl
    simp only [Nat.zero_add]
    have hjl : j < ops.size := by have := (List.getElem?_eq_some_iff.1 hj).1; omega
    by_cases hji : j = i
    · subst hji; rw [hLi]; simp
    · rcases Nat.lt_or_ge j i with hlt | hge
      · have hc : clash rj rc = true := by
          simp only [clash, Bool.or_eq_true, List.any_eq_true]
          exact .inl ⟨x, hup, .inl (by simpa using hx)⟩
        rw [listedOf j (memOk_spec hmem hj hrc hlt hc)]; simp [hlt]
      · have hlt : i < j := by omega
        have hc : clash rc rj = true := by
          simp only [clash, Bool.or_eq_true, List.any_eq_true]
          exact .inr ⟨x, hup, by simpa using hx⟩
        rw [notListed j hlt hjl (memOk_spec hmem hrc hj hlt hc)]; simp; omega
  obtain ⟨g, R, E, hts, hdf, hslots⟩ := hI
  -- the next invariant
  have hset : (fun k => (listed.setIfInBounds i true).getD k false) = setL (fun k => listed.getD k false) i := by
    funext k
    simp only [setL]
    by_cases e : k = i
    · subst e; rw [if_pos rfl]; have : k < listed.size := by omega
      simp [this]
    · rw [if_neg e]; exact getD_set_ne false (fun h => e h.symm)
  have hheap' : heapF recs (setL (fun k => listed.getD k false) i) 0 (alGet st.heap) = hup rc.ups (heapF recs (fun k => listed.getD k false) 0 (alGet st.heap)) := by
    funext x
    have := heapF_ins recs (fun k => listed.getD k false) 0 i rc (alGet st.heap) x hrc (fun j rj hj hlt hL y hy hy' => by
      simp only [Nat.zero_add] at hL
      have hjl : j < ops.size := by have := (List.getElem?_eq_some_iff.1 hj).1; omega
      have hc : clash rc rj = true := by
        simp only [clash, Bool.or_eq_true, List.any_eq_true]
        exact .inl ⟨y, hy, .inr (by simpa using hy')⟩
      rw [notListed j hlt hjl (memOk_spec hmem hrc hj hlt hc)] at hL
      cases hL) (by simpa using hLi)
    simpa using this
  have hslot' : ∀ t, slotF recs (setL (fun k => listed.getD k false) i) 0 (alGet st.env) t = putF (slotF recs (fun k => listed.getD k false) 0 (alGet st.env)) rc.dst rc.r t := fun t => by
    have := slotF_ins recs (fun k => listed.getD k false) 0 i rc (alGet st.env) t hrc (fun j rj d hj hne hdd => by
      obtain ⟨oj, hoj, hdoj⟩ := recDst j rj hj
      rw [hdoj]
      refine (drawOk_slots hd ho hoj ?_ (fun e => hne e.symm)).1
      rw [← hdd, hrdst, hdst]) (by simpa using hLi)
    simpa using this
  have finish : ∀ (v : Value) (w' : World) (g' : Gh), Evo g (heapF recs (fun k => listed.getD k false) 0 (alGet st.heap)) (NS st.next fun k => listed.getD k false) w g' (hup rc.ups (heapF recs (fun k => listed.getD k false) 0 (alGet st.heap))) (plus (NS st.next fun k => listed.getD k false) (st.next + i)) w' →
      RH C g' (hup rc.ups (heapF recs (fun k => listed.getD k false) 0 (alGet st.heap))) (plus (NS st.next fun k => listed.getD k false) (st.next + i)) w' →
      RV C g' (hup rc.ups (heapF recs (fun k => listed.getD k false) 0 (alGet st.heap))) (plus (NS st.next fun k => listed.getD k false) (st.next + i)) w' rc.r v → K (a.put o.dst v) w' := fun v w' g' E' R' hv => by
    refine hK _ _ ?_
    rw [hset]
    refine ⟨g', ?_, ?_, ?_, ?_, fun t x hx => ?_⟩
    · rw [hheap', ns_set]; exact R'
    · rw [hheap', ns_set]; exact E.trans E'
    · cases o.dst <;> simp [Act.put, hts]
    · cases o.dst <;> simp [Act.put, hdf]
    · rw [hheap', ns_set]
      rw [hslot', hrdst, hdst] at hx
      cases hdo : o.dst with
      | none =>
        rw [hdo] at hx
        simp only [putF] at hx
        exact (hslots t x hx).mono E'
      | some d =>
        rw [hdo] at hx
        simp only [putF] at hx
        rw [getD_put a d v t (by rw [hts]; exact hdlt d hdo)]
        split at hx
        · rename_i e; rw [if_pos e]; cases hx; exact hv
        · rename_i e; rw [if_neg e]; exact (hslots t x hx).mono E'
  have hfresh : ¬ NS st.next (fun k => listed.getD k false) (st.next + i) := ns_fresh hLi
  -- operands
  have slotRV : ∀ t, t ∈ o.looksAt ops → RV C g (heapF recs (fun k => listed.getD k false) 0 (alGet st.heap)) (NS st.next fun k => listed.getD k false) w ((alGet sti.env t).getD .top) (a.tmps.getD t undef) := fun t ht => by
    rw [← agreeSlot t ht]
    cases hs : slotF recs (fun k => listed.getD k false) 0 (alGet st.env) t with
    | none => exact .top _
    | some x => exact hslots t x hs
  have opdRV : ∀ x ∈ o.op.operands, RV C g (heapF recs (fun k => listed.getD k false) 0 (alGet st.heap)) (NS st.next fun k => listed.getD k false) w (evEnv sti.env (C.opd x)) (a.eval x) := fun x hx => by
    cases x with
    | tmp t =>
      refine slotRV t ?_
      simp only [Oper.looksAt, List.mem_append, List.mem_filterMap]
      exact .inl ⟨.tmp t, by simpa using hx, rfl⟩
    | const v => exact rv_const v
    | global gg => exact .top _
    | func f =>
      simp only [Ctx.opd]
      split
      · rename_i k hk
        have := RV.func (C := C) (g := g) (h := heapF recs (fun k => listed.getD k false) 0 (alGet st.heap)) (N := NS st.next fun k => listed.getD k false) (w := w) k [] [] [] [] rfl rfl (fun j c v hj => by simp at hj) (fun j c v hj => by simp at hj)
        rw [idxIn_fnum hk] at this
        exact this
      · exact .top _
  have wantedIs : ∀ b, guardOf sti.env it.guard = some b → Region.wanted o (yielded ops a.tmps) = b := fun b hg => by
    rcases hgd with ⟨h1, h2⟩ | ⟨j, want, t, h1, h2, h3, h4⟩
    · rw [h2] at hg
      simp only [guardOf, Option.some.injEq] at hg
      subst hg
      simp [Region.wanted, h1]
    · rw [h4] at hg
      simp only [guardOf] at hg
      simp only [Region.wanted, h1, yielded, h2, Option.bind_some]
      have hlt : t < a.tmps.size := by rw [hts]; exact h3
      have hv := slotRV t (by simp only [Oper.looksAt, List.mem_append]; exact .inr (by simp [h1, h2]))
      have hgett : a.tmps[t]? = some (a.tmps.getD t undef) := by simp [hlt]
      rw [hgett]
      split at hg
      · rename_i b' e
        rw [e] at hv
        cases hg
        rw [rv_bool hv]
        cases b' <;> cases want <;> rfl
      · rename_i e
        rw [e] at hv
        cases hg
        generalize a.tmps.getD t undef = u at hv
        cases hv
        cases want <;> rfl
      · cases hg
  unfold wpOp
  simp only [ho]
  unfold EvD at hev
  split at hev
  · rename_i hg
    rw [wantedIs false hg]
    simp only [Bool.false_eq_true, if_false]
    obtain ⟨h1, h2⟩ := hev
    have hE := Evo.add g (heapF recs (fun k => listed.getD k false) 0 (alGet st.heap)) (NS st.next fun k => listed.getD k false) w (st.next + i)
    refine finish undef w g ?_ ?_ ?_
    · rw [h2]; exact hE
    · rw [h2]; exact R.add _
    · rw [h1]; exact .undef
  · rename_i hg
    rw [wantedIs true hg]
    simp only [if_true]
    refine .inl ?_
    split at hev
    · rename_i f args hcall
      rw [hcall] at hop
      obtain ⟨fo, as, ts, hoo, rfl, rfl⟩ := compOp_call hop
      split at hev
      · rename_i f' first caps hfv
        obtain ⟨hcallable, hcalls⟩ := hev
        have hvf := opdRV fo (by simp [hoo, Op.operands, Call.operands])
        rw [hfv] at hvf
        generalize hval : a.eval fo = vfo at hvf
        cases hvf with
        | func _ _ _ vf vc hlf hlc hf1 hc1 =>
          have hrun' := run_call hoo hval hcallable w
          unfold Oper.wp
          rw [hrun']
          simp only [Oper.upon]
          have harr : vf.toArray ++ as.map a.eval ++ vc.toArray = (vf ++ as.toList.map a.eval ++ vc).toArray := by apply Array.ext'; simp
          rw [harr]
          have hrvs : RVs C g (heapF recs (fun k => listed.getD k false) 0 (alGet st.heap)) (NS st.next fun k => listed.getD k false) w (first ++ (as.toList.map C.opd).map (evEnv sti.env) ++ caps) (vf ++ as.toList.map a.eval ++ vc) := by
            refine ⟨by simp [hlf, hlc], fun j x u hj hu => ?_⟩
            rw [List.append_assoc, List.getElem?_append] at hj hu
            rw [hlf] at hj
            split at hj
            · rename_i hlt; rw [if_pos hlt] at hu; exact hf1 j x u hj hu
            · rename_i hlt
              rw [if_neg hlt] at hu
              rw [List.getElem?_append] at hj hu
              simp only [List.length_map] at hj hu
              split at hj
              · rename_i hlt2
                rw [if_pos hlt2] at hu
                simp only [List.getElem?_map, Option.map_eq_some_iff] at hj hu
                obtain ⟨o1, ⟨y, hy, rfl⟩, rfl⟩ := hj
                obtain ⟨z, hz, rfl⟩ := hu
                rw [hy] at hz
                cases hz
                exact opdRV y (by simp only [hoo, Op.operands, Call.operands]; simp; exact .inr (by simpa using List.mem_of_getElem? hy))
              · rename_i hlt2
                rw [if_neg hlt2] at hu
                exact hc1 _ x u hj hu
          refine (hcalls g _ _ w _ agreeHeap R hrvs).mono ?_
          rintro e w' ⟨v, g', rfl, E', R', hv⟩
          have hE := Evo.add g' (hup rc.ups (heapF recs (fun k => listed.getD k false) 0 (alGet st.heap))) (NS st.next fun k => listed.getD k false) w' (st.next + i)
          exact finish v w' g' (E'.trans hE) (R'.add _) (hv.mono hE)
      · exact hev.elim
    · rename_i hncall
      obtain ⟨hev1, hrd⟩ := hev
      have hev2 : evalOp it.op (evEnv sti.env) (heapF recs (fun k => listed.getD k false) 0 (alGet st.heap)) (st.next + i) = some (rc.r, rc.ups) := by
        rw [evalOp_agree (h := alGet sti.heap) (fun x hx => agreeHeap x (by rw [hrd]; exact hx)), ← hnext]
        exact hev1
      obtain ⟨v, w', hran, g', E', R', hv⟩ := op_sound hop g _ _ w (st.next + i) (evEnv sti.env) a.eval rc.r rc.ups R hfresh opdRV hev2
      unfold Oper.wp
      rcases hran with hran | ⟨hran, rfl⟩
      · rw [hran]; exact finish v w' g' E' R' hv
      · rw [hran]; exact finish undef w' g' E' R' hv
  · exact hev.elim

theorem getD_repl (n k : Nat) : (Array.replicate n false).getD k false = false := by
  rw [Array.getD_eq_getD_getElem?, Array.getElem?_replicate]
  split <;> rfl

theorem count_set {listed : Array Bool} {i : Nat} (h : i < listed.size) (hf : listed.getD i false = false) : ((listed.setIfInBounds i true).toList.countP (· == false)) + 1 = listed.toList.countP (· == false) := by
  have hl : i < listed.toList.length := by simpa using h
  have hv : listed.toList[i] = false := by simpa [h] using hf
  rw [Array.toList_setIfInBounds, List.countP_set hl]
  have hp : 0 < listed.toList.countP (· == false) := List.countP_pos_iff.2 ⟨listed.toList[i], List.getElem_mem hl, by simp [hv]⟩
  simp only [hv]
  have e1 : ((false == false) = true) := rfl
  have e2 : ¬ ((true == false) = true) := by simp
  rw [if_pos e1, if_neg e2]
  omega

theorem wpAny_inv {ops : Array Oper} {items : List AItem} {recs : List Rec} {st st' : St} {g0 : Gh} {w0 : World} (hm : mapO (compItem C nt ops) ops.toList = some items) (hrun : RunD C items st recs st')
    (hd : drawOk ops (Region.before ops).toList = true) (hmem : memOk (Region.before ops).toList recs = true) {Q : Exit → Act → World → Prop}
    (hQ : ∀ (L : Nat → Bool) a w, (∀ k, L k = decide (k < ops.size)) → InvD C nt recs g0 st w0 L a w → Q .normal a w) :
    ∀ (fuel : Nat) (listed : Array Bool) (a : Act) (w : World), listed.size = ops.size → Closed ops listed → listed.toList.countP (· == false) ≤ fuel → InvD C nt recs g0 st w0 (fun k => listed.getD k false) a w →
      wpAny C.P .any ops Q fuel listed a w := by
  have done : ∀ (listed : Array Bool) (a : Act) (w : World), listed.size = ops.size → (∀ k, k < ops.size → listed.getD k false = true) → InvD C nt recs g0 st w0 (fun k => listed.getD k false) a w → Q .normal a w := fun listed a w hsz hall hI =>
    hQ _ a w (fun k => by
      by_cases hk : k < ops.size
      · rw [hall k hk]; simp [hk]
      · have : ¬ k < listed.size := by omega
        simp [hk, this]) hI
  have allOf : ∀ (listed : Array Bool), listed.size = ops.size → Closed ops listed → Region.ready .any ops listed = [] → ∀ k, k < ops.size → listed.getD k false = true := fun listed hsz hcl hr k => by
    induction k using Nat.strongRecOn with
    | _ k ih =>
      intro hk
      cases hc : listed.getD k false with
      | true => rfl
      | false =>
        have hok : ops[k]? = some (ops[k]'(by omega)) := by simp
        have : k ∈ Region.ready .any ops listed := by
          rw [mem_ready]
          refine ⟨?_, _, hok, fun e he hb => ih e.on (drawOk_edges hd hok he hb) (by have := drawOk_edges hd hok he hb; omega)⟩
          have hlt : k < listed.size := by omega
          simp [hlt] at hc ⊢
          exact hc
        rw [hr] at this
        cases this
  intro fuel
  induction fuel with
  | zero =>
    intro listed a w hsz hcl hcount hI
    have hall : ∀ k, k < ops.size → listed.getD k false = true := fun k hk => by
      cases hc : listed.getD k false with
      | true => rfl
      | false =>
        have hlt : k < listed.toList.length := by simp; omega
        have hv : listed.toList[k] = false := by
          have hlt' : k < listed.size := by omega
          simpa [hlt'] using hc
        have : 0 < listed.toList.countP (· == false) := List.countP_pos_iff.2 ⟨listed.toList[k], List.getElem_mem hlt, by simp [hv]⟩
        omega
    refine ⟨?_, done listed a w hsz hall hI⟩
    rw [List.eq_nil_iff_forall_not_mem]
    intro k hk
    obtain ⟨hun, o, ho, _⟩ := mem_ready.1 hk
    have hkl : k < ops.size := (Array.getElem?_eq_some_iff.1 ho).1
    have := hall k hkl
    have hlt : k < listed.size := by omega
    simp [hlt] at hun this
    rw [hun] at this
    cases this
  | succ fuel ih =>
    intro listed a w hsz hcl hcount hI
    refine ⟨fun hr => done listed a w hsz (allOf listed hsz hcl hr) hI, fun i hi => ?_⟩
    obtain ⟨hun, o, ho, hready⟩ := mem_ready.1 hi
    have hil : i < ops.size := (Array.getElem?_eq_some_iff.1 ho).1
    have hLi : listed.getD i false = false := by
      have hlt : i < listed.size := by omega
      simp [hlt] at hun ⊢
      exact hun
    refine invD_step hm hrun hd hmem hsz hcl hi hI fun a' w' hI' => ih _ a' w' (by simpa using hsz) ?_ ?_ hI'
    · intro j oj hoj hl e he hb
      by_cases hji : j = i
      · subst hji
        rw [ho] at hoj
        cases hoj
        exact getD_set_true (hready e he hb)
      · rw [getD_set_ne false (fun h => hji h.symm)] at hl
        exact getD_set_true (hcl j oj hoj hl e he hb)
    · have := count_set (listed := listed) (by omega) hLi
      omega

theorem awp_draw {ord : List Nat} {items : List AItem} {ks : Option (List Nat)} {K : Exit → St → Prop} {st st' : St} {recs : List Rec} (hrun : RunD C items st recs st') (hmem : memOk ord recs = true) (hK : K .normal (st'.keep ks)) :
    awp C nt (.region true ord items ks) K st := by
  intro code hc g a w R
  obtain ⟨id, ops, rfl, hm, hdraw⟩ := comp_region hc
  obtain ⟨hmix, rfl, hd⟩ := hdraw rfl
  obtain ⟨hlen, _⟩ := mapO_get hm
  have hlo : items.length = ops.size := by rw [hlen]; simp
  refine wp_region_any hmix (wpAny_inv (g0 := g) (w0 := w) hm hrun hd hmem ?_ ops.size _ a w.drew (by simp) ?_ (by simp [List.countP_replicate]) ?_)
  · intro L a' w' hL hI
    obtain ⟨g', R', E', hts, hdf, hslots⟩ := hI
    obtain ⟨h1, h2, h3⟩ := runD_end items st recs st' 0 L hrun (fun j hj => by rw [hL]; simp; omega)
    have hN : NS st.next L = (· < st'.next) := by
      funext x
      simp only [NS, eq_iff_iff, h3]
      constructor
      · rintro (h | ⟨k, hk, rfl⟩)
        · omega
        · rw [hL] at hk; simp at hk; omega
      · intro h
        by_cases hx : x < st.next
        · exact .inl hx
        · exact .inr ⟨x - st.next, by rw [hL]; simp; omega, by omega⟩
    rw [hN, ← h2] at R' E' hslots
    rw [← h1] at hslots
    have Rel' : Rel C nt g' st' a' w' := ⟨⟨hts, hdf, hslots⟩, R'⟩
    exact ⟨st'.keep ks, g', hK, Rel'.keep ks, by cases ks <;> exact E'⟩
  · intro j o ho hl
    rw [getD_repl] at hl; cases hl
  · have hN : NS st.next (fun k => (Array.replicate ops.size false).getD k false) = (· < st.next) := by
      funext x
      simp only [NS, eq_iff_iff]
      constructor
      · rintro (h | ⟨k, hk, rfl⟩)
        · exact h
        · rw [getD_repl] at hk; cases hk
      · exact .inl
    have hL : (fun k => (Array.replicate ops.size false).getD k false) = fun _ => false := by funext k; exact getD_repl _ _
    have hs : ∀ (l : List Rec) (k : Nat) (f : Nat → Option AV), slotF l (fun _ => false) k f = f := by
      intro l
      induction l with
      | nil => intro k f; rfl
      | cons r l ih => intro k f; simp [slotF, ih]
    have hh : ∀ (l : List Rec) (k : Nat) (f : Nat → Option AObj), heapF l (fun _ => false) k f = f := by
      intro l
      induction l with
      | nil => intro k f; rfl
      | cons r l ih => intro k f; simp [heapF, ih]
    have hE := Evo.drew g (alGet st.heap) (· < st.next) w
    rw [hL] at hN
    rw [hL]
    refine ⟨g, ?_, ?_, R.env.size, R.env.defers, fun t x hx => ?_⟩
    · rw [hh, hN]; exact R.heap.drew
    · rw [hh, hN]; exact hE
    · rw [hs] at hx
      rw [hh, hN]
      exact (R.env.slot t x hx).mono hE
end
end Go.Proofs.Ytgligibbgobmnaa
namespace Go.Proofs.Ytgligibbgobmnaa
open Go.RowKit
set_option linter.unusedVariables false
set_option linter.unusedSimpArgs false

theorem mapO_congr {α β : Type} {f f' : α → Option β} : ∀ {l : List α}, (∀ x ∈ l, f' x = f x) → mapO f' l = mapO f l
  | [], _ => rfl
  | a :: r, h => by
    simp only [mapO]
    rw [h a List.mem_cons_self, mapO_congr (l := r) fun x hx => h x (List.mem_cons_of_mem _ hx)]

def mutIds (h : Nat → Option AObj) : Nat → AV → List Nat
  | 0, _ => []
  | d + 1, x => match x with
    | .agg cs => cs.flatMap (mutIds h d)
    | .tuple cs => cs.flatMap (mutIds h d)
    | .mslice id off len => id :: match h id with
      | some (.rows _ rows) => ((rows.drop off).take len).flatMap fun row => row.flatMap (mutIds h d)
      | _ => []
    | _ => []

theorem toIV_agree {h h' : Nat → Option AObj} : ∀ (d : Nat) (x : AV), (∀ i ∈ mutIds h d x, h' i = h i) → toIV h' d x = toIV h d x := by
  intro d
  induction d with
  | zero => intro x _; rfl
  | succ d ih =>
    intro x hi
    cases x with
    | agg cs =>
      simp only [toIV]
      rw [mapO_congr fun c hc => ih c fun i hm => hi i (by simp only [mutIds, List.mem_flatMap]; exact ⟨c, hc, hm⟩)]
    | tuple cs =>
      simp only [toIV]
      rw [mapO_congr fun c hc => ih c fun i hm => hi i (by simp only [mutIds, List.mem_flatMap]; exact ⟨c, hc, hm⟩)]
    | mslice id off len =>
      simp only [toIV]
      rw [hi id (by simp [mutIds])]
      split
      · rename_i sz rows ho
        split
        · rw [mapO_congr fun row hrow => mapO_congr fun c hc => ih c fun i hm => hi i (by
            simp only [mutIds, ho, List.mem_cons, List.mem_flatMap]
            exact .inr ⟨row, hrow, c, hc, hm⟩)]
        · rfl
      · rfl
    | _ => rfl

theorem noMut_ids {h : Nat → Option AObj} : ∀ (d : Nat) (x : AV), noMut d x = true → mutIds h d x = [] := by
  intro d
  induction d with
  | zero => intro x _; rfl
  | succ d ih =>
    intro x hx
    cases x with
    | agg cs =>
      simp only [noMut, List.all_eq_true] at hx
      simp only [mutIds, List.flatMap_eq_nil_iff]
      exact fun c hc => ih c (hx c hc)
    | tuple cs =>
      simp only [noMut, List.all_eq_true] at hx
      simp only [mutIds, List.flatMap_eq_nil_iff]
      exact fun c hc => ih c (hx c hc)
    | mslice id off len => simp [noMut] at hx
    | _ => rfl

section
variable {C : Ctx} {nt : Nat} {f : Nat} {args : List AV} {h0 : Nat → Option AObj} {d : Nat} {ivs : List IV} {r : IV}

theorem LCall.pure (hp : APure C f ivs r) (hm : (args.all (noMut d)) = true) (hx : mapO (toIV h0 d) args = some ivs) : LCall C f args h0 [] (.imm r) [] := by
  refine ⟨hp.1, fun g h N w vs _ R hv => ?_⟩
  have hx' : mapO (toIV h d) args = some ivs := by
    rw [mapO_congr fun x hxm => toIV_agree (h := h0) d x fun i hi => ?_]
    · exact hx
    · rw [noMut_ids d x (List.all_eq_true.1 hm x hxm)] at hi; cases hi
  obtain ⟨h1, h2⟩ := mapO_get hx'
  refine (hp.2 g.Z w vs R.zlt ⟨by rw [h1]; exact hv.1, fun j c u hc hu => ?_⟩).mono ?_
  · have hlt : j < args.length := by rw [← h1]; exact (List.getElem?_eq_some_iff.1 hc).1
    obtain ⟨c', h3, h4⟩ := h2 j args[j] (by simp)
    rw [hc] at h3
    cases h3
    exact toIV_imm d _ _ _ (List.all_eq_true.1 hm _ (List.getElem_mem hlt)) h4 (hv.2 j args[j] u (by simp) hu)
  · rintro e w' ⟨v, Z', rfl, hr, hZ, hlt, hB⟩
    exact ⟨v, ⟨g.ρ, Z'⟩, rfl, evo_below R hB hZ, rh_below R hB hZ hlt, .imm _ _ hr⟩

theorem LCall.snap (hp : APure C f ivs r) (hx : mapO (toIV h0 d) args = some ivs) (hf : flatIV r = true) : LCall C f args h0 (args.flatMap (mutIds h0 d)) (.imm r) [] := by
  refine ⟨hp.1, fun g h N w vs hag R hv => ?_⟩
  have hx' : mapO (toIV h d) args = some ivs := by
    rw [mapO_congr fun x hxm => toIV_agree (h := h0) d x fun i hi => hag i (List.mem_flatMap.2 ⟨x, hxm, hi⟩)]
    exact hx
  obtain ⟨h1, h2⟩ := mapO_get hx'
  let Z1 : Nat → Nat := fun b => match w.heap[b]? with
    | some (.cells c _ _) => max (g.Z b) c.size
    | _ => g.Z b
  have hz1 : ∀ b, g.Z b ≤ Z1 b := fun b => by
    show g.Z b ≤ (match w.heap[b]? with | some (.cells c _ _) => max (g.Z b) c.size | _ => g.Z b)
    split
    · exact Nat.le_max_left _ _
    · exact Nat.le_refl _
  have hlt1 : ∀ b, 0 < Z1 b → b < w.heap.size := fun b hb => by
    rcases Nat.lt_or_ge b w.heap.size with h | h
    · exact h
    · have hn : w.heap[b]? = none := Array.getElem?_eq_none h
      have : Z1 b = g.Z b := by show (match w.heap[b]? with | some (.cells c _ _) => max (g.Z b) c.size | _ => g.Z b) = g.Z b; rw [hn]
      exact R.zlt b (by omega)
  have hO : ∀ i b sz rows, g.ρ i = some b → h i = some (.rows sz rows) → rows.length * sz ≤ Z1 b := fun i b sz rows hb ho => by
    obtain ⟨hz, c, e, hc, hlen, hcells⟩ := R.obj i b _ hb ho
    have hZ : Z1 b = max (g.Z b) c.size := by show (match w.heap[b]? with | some (.cells c _ _) => max (g.Z b) c.size | _ => g.Z b) = _; rw [hc]
    rw [hZ]
    refine Nat.le_trans ?_ (Nat.le_max_right _ _)
    rcases Nat.eq_zero_or_pos (rows.length * sz) with h0 | h0
    · omega
    · have hs : 0 < sz := Nat.pos_of_ne_zero fun e => by subst e; simp at h0
      have hr : 0 < rows.length := Nat.pos_of_ne_zero fun e => by rw [e] at h0; simp at h0
      have hrow : rows[rows.length - 1]? = some (rows[rows.length - 1]'(by omega)) := by simp
      have hl := hlen _ _ hrow
      obtain ⟨cv, h3, _⟩ := hcells (rows.length - 1) _ (sz - 1) ((rows[rows.length - 1]'(by omega))[sz - 1]'(by omega)) hrow (by simp)
      have hlt := (Array.getElem?_eq_some_iff.1 h3).1
      have : (rows.length - 1) * sz + sz = rows.length * sz := by
        rw [← Nat.succ_mul]; congr 1; omega
      omega
  refine (hp.2 Z1 w vs hlt1 ⟨by rw [h1]; exact hv.1, fun j c u hc hu => ?_⟩).mono ?_
  · have hlt : j < args.length := by rw [← h1]; exact (List.getElem?_eq_some_iff.1 hc).1
    obtain ⟨c', h3, h4⟩ := h2 j args[j] (by simp)
    rw [hc] at h3
    cases h3
    exact toIV_ri R Z1 hz1 hO d _ _ _ h4 (hv.2 j args[j] u (by simp) hu)
  · rintro e w' ⟨v, Z', rfl, hr, hZ, hlt, hB⟩
    exact ⟨v, g, rfl, evo_below (Z' := g.Z) R hB (fun _ _ => rfl), rh_below (Z' := g.Z) R hB (fun _ _ => rfl) (fun b hb => Nat.lt_of_lt_of_le (R.zlt b hb) hB.size), .imm _ _ (ri_flat hf hr)⟩

end

def DCall (C : Ctx) (f : Nat) (args : List AV) (heap : List (Nat × AObj)) (KD : List Nat → AV → List (Nat × AObj) → Prop) : Prop := ∃ rd r ups, LCall C f args (alGet heap) rd r ups ∧ KD rd r ups

theorem DCall.pure {C : Ctx} {f : Nat} {args : List AV} {heap : List (Nat × AObj)} {d : Nat} {ivs : List IV} {r : IV} {KD : List Nat → AV → List (Nat × AObj) → Prop} (hp : APure C f ivs r) (hm : (args.all (noMut d)) = true) (hx : mapO (toIV (alGet heap) d) args = some ivs)
    (hK : KD [] (.imm r) []) : DCall C f args heap KD := ⟨_, _, _, LCall.pure hp hm hx, hK⟩

theorem DCall.snap {C : Ctx} {f : Nat} {args : List AV} {heap : List (Nat × AObj)} {d : Nat} {ivs : List IV} {r : IV} {KD : List Nat → AV → List (Nat × AObj) → Prop} (hp : APure C f ivs r) (hx : mapO (toIV (alGet heap) d) args = some ivs) (hf : flatIV r = true)
    (hK : KD (args.flatMap (mutIds (alGet heap) d)) (.imm r) []) : DCall C f args heap KD := ⟨_, _, _, LCall.snap hp hx hf, hK⟩

def okAt (ord : List Nat) (j : Nat) (W R : List (Nat × Nat)) (us rd : List Nat) : Bool :=
  (W.all fun p => !(us.contains p.2 || rd.contains p.2) || bef ord p.1 j) && us.all fun x => R.all fun p => !(p.2 == x) || bef ord p.1 j

def addAt (j : Nat) (l : List Nat) (W : List (Nat × Nat)) : List (Nat × Nat) := l.map (fun x => (j, x)) ++ W

def dNext (ord : List Nat) (j : Nat) (W R : List (Nat × Nat)) (dst : Option Nat) (st : St) (next : Nat → List (Nat × Nat) → List (Nat × Nat) → St → Prop) : List Nat → AV → List (Nat × AObj) → Prop :=
  fun rd r ups => okAt ord j W R (upIds ups) rd = true ∧ next (j + 1) (addAt j (upIds ups) W) (addAt j rd R) (st.after dst r ups)

def rNext (dst : Option Nat) (st : St) (next : St → Prop) : List Nat → AV → List (Nat × AObj) → Prop := fun rd r ups => ups = [] ∧ next (st.after dst r [])

def dRes (KD : List Nat → AV → List (Nat × AObj) → Prop) (rd : List Nat) : Option (AV × List (Nat × AObj)) → Prop
  | some (r, ups) => KD rd r ups
  | none => False

def dCall (C : Ctx) (KD : List Nat → AV → List (Nat × AObj) → Prop) (heap : List (Nat × AObj)) (args : List AV) : AV → Prop
  | .func f first caps => DCall C f (first ++ args ++ caps) heap KD
  | _ => False

def dOp (C : Ctx) (KD : List Nat → AV → List (Nat × AObj) → Prop) (st : St) : AOp → Prop
  | .call f args => dCall C KD st.heap (args.map (evEnv st.env)) (evEnv st.env f)
  | op => dRes KD (readIds op (evEnv st.env)) (evalOp op (evEnv st.env) (alGet st.heap) st.next)

def dG (C : Ctx) (op : AOp) (KD : List Nat → AV → List (Nat × AObj) → Prop) (st : St) : Bool → Prop
  | true => dOp C KD st op
  | false => KD [] .undef []

def dGV (C : Ctx) (op : AOp) (KD : List Nat → AV → List (Nat × AObj) → Prop) (st : St) (want : Bool) : AV → Prop
  | .imm (.bool b) => dG C op KD st (b == want)
  | .undef => dG C op KD st false
  | _ => False

def dIt (C : Ctx) (it : AItem) (KD : List Nat → AV → List (Nat × AObj) → Prop) (st : St) : Prop := match it.guard with
  | none => dOp C KD st it.op
  | some (t, want) => dGV C it.op KD st want ((alGet st.env t).getD .top)

def evd (C : Ctx) (ord : List Nat) (K : St → Prop) : List AItem → Nat → List (Nat × Nat) → List (Nat × Nat) → St → Prop
  | [], _, _, _, st => K st
  | it :: rest, j, W, R, st => dIt C it (dNext ord j W R it.dst st (evd C ord K rest)) st

def evr (C : Ctx) (K : St → Prop) : List AItem → St → Prop
  | [], st => K st
  | it :: rest, st => dIt C it (rNext it.dst st (evr C K rest)) st

section
variable {C : Ctx} {nt : Nat}

theorem dIt_rec {it : AItem} {KD : List Nat → AV → List (Nat × AObj) → Prop} {st : St} (h : dIt C it KD st) : ∃ rc : Rec, rc.dst = it.dst ∧ EvD C it st rc ∧ KD rc.rd rc.r rc.ups := by
  have op : ∀ {g}, guardOf st.env it.guard = some true → g = it.guard → dOp C KD st it.op → ∃ rc : Rec, rc.dst = it.dst ∧ EvD C it st rc ∧ KD rc.rd rc.r rc.ups := fun hg _ ho => by
    obtain ⟨dst, op, gd⟩ := it
    simp only at ho hg
    cases op
    case call f args =>
      simp only [dOp, dCall] at ho
      split at ho
      · rename_i f' first caps hf
        obtain ⟨rd, r, ups, hl, hk⟩ := ho
        refine ⟨⟨dst, r, ups, rd⟩, rfl, ?_, hk⟩
        simp only [EvD, hg, hf]
        exact hl
      · exact ho.elim
    all_goals
      simp only [dOp, dRes] at ho
      split at ho
      · rename_i r ups hev
        refine ⟨⟨dst, r, ups, _⟩, rfl, ?_, ho⟩
        simp only [EvD, hg]
        exact ⟨hev, rfl⟩
      · exact ho.elim
  have off : guardOf st.env it.guard = some false → KD [] .undef [] → ∃ rc : Rec, rc.dst = it.dst ∧ EvD C it st rc ∧ KD rc.rd rc.r rc.ups := fun hg ho => by
    refine ⟨⟨it.dst, .undef, [], []⟩, rfl, ?_, ho⟩
    simp only [EvD, hg, and_self]
  unfold dIt at h
  split at h
  · rename_i hg; exact op (by rw [hg]; rfl) hg.symm h
  · rename_i t want hg
    unfold dGV at h
    split at h
    · rename_i b hb
      cases hbw : (b == want) with
      | true => rw [hbw] at h; exact op (by rw [hg]; simp only [guardOf, hb, hbw]) hg.symm h
      | false => rw [hbw] at h; exact off (by rw [hg]; simp only [guardOf, hb, hbw]) h
    · rename_i hb; exact off (by rw [hg]; simp only [guardOf, hb]) h
    · exact h.elim

theorem memOk_of {ord : List Nat} {recs : List Rec} (h : ∀ (i j : Nat) (ri rj : Rec), recs[i]? = some ri → recs[j]? = some rj → i < j → clash ri rj = true → bef ord i j = true) : memOk ord recs = true := by
  unfold memOk
  refine List.all_eq_true.2 fun j hj => ?_
  split
  · rename_i rj hrj
    refine Bool.or_eq_true_iff.2 (.inr (List.all_eq_true.2 fun i hi => ?_))
    simp at hi
    split
    · rename_i ri hri
      cases hc : clash ri rj with
      | true => simp [h i j ri rj hri hrj hi hc]
      | false => simp
    · rfl
  · rfl

theorem evd_run {ord : List Nat} {K : St → Prop} : ∀ (items : List AItem) (W R : List (Nat × Nat)) (st : St) (pre : List Rec), evd C ord K items pre.length W R st →
    (∀ (i : Nat) (ri : Rec) (x : Nat), pre[i]? = some ri → x ∈ upIds ri.ups → (i, x) ∈ W) → (∀ (i : Nat) (ri : Rec) (x : Nat), pre[i]? = some ri → x ∈ ri.rd → (i, x) ∈ R) →
    (∀ (i j : Nat) (ri rj : Rec), pre[i]? = some ri → pre[j]? = some rj → i < j → clash ri rj = true → bef ord i j = true) →
    ∃ recs st', RunD C items st recs st' ∧ (∀ (i j : Nat) (ri rj : Rec), (pre ++ recs)[i]? = some ri → (pre ++ recs)[j]? = some rj → i < j → clash ri rj = true → bef ord i j = true) ∧ K st'
  | [], W, R, st, pre, h, hW, hR, hp => ⟨[], st, rfl, by simpa using hp, h⟩
  | it :: rest, W, R, st, pre, h, hW, hR, hp => by
    obtain ⟨rc, h1, h2, hok, h3⟩ := dIt_rec h
    have hlen : (pre ++ [rc]).length = pre.length + 1 := by simp
    have split : ∀ (i : Nat) (ri : Rec), (pre ++ [rc])[i]? = some ri → pre[i]? = some ri ∨ (i = pre.length ∧ ri = rc) := fun i ri hi => by
      rw [List.getElem?_append] at hi
      split at hi
      · exact .inl hi
      · rename_i hge
        rcases Nat.eq_or_lt_of_le (Nat.le_of_not_lt hge) with e | e
        · rw [← e] at hi; simp at hi; exact .inr ⟨e.symm, hi.symm⟩
        · have : i - pre.length ≠ 0 := by omega
          obtain ⟨m, hm⟩ := Nat.exists_eq_succ_of_ne_zero this
          rw [hm] at hi; simp at hi
    obtain ⟨recs, st', h4, h5, h6⟩ := evd_run rest (addAt pre.length (upIds rc.ups) W) (addAt pre.length rc.rd R) (st.after it.dst rc.r rc.ups) (pre ++ [rc]) (by rw [hlen]; exact h3)
      (fun i ri x hi hx => by
        rcases split i ri hi with hi | ⟨rfl, rfl⟩
        · exact List.mem_append_right _ (hW i ri x hi hx)
        · exact List.mem_append_left _ (List.mem_map.2 ⟨x, hx, rfl⟩))
      (fun i ri x hi hx => by
        rcases split i ri hi with hi | ⟨rfl, rfl⟩
        · exact List.mem_append_right _ (hR i ri x hi hx)
        · exact List.mem_append_left _ (List.mem_map.2 ⟨x, hx, rfl⟩))
      (fun i j ri rj hi hj hlt hc => by
        rcases split j rj hj with hj | ⟨rfl, rfl⟩
        · rcases split i ri hi with hi | ⟨rfl, rfl⟩
          · exact hp i j ri rj hi hj hlt hc
          · have := (List.getElem?_eq_some_iff.1 hj).1; omega
        · rcases split i ri hi with hi | ⟨rfl, rfl⟩
          · simp only [okAt, Bool.and_eq_true, List.all_eq_true] at hok
            simp only [clash, Bool.or_eq_true, List.any_eq_true] at hc
            rcases hc with ⟨x, hx, hc⟩ | ⟨x, hx, hc⟩
            · have := hok.1 (i, x) (hW i ri x hi hx)
              simp only [Bool.or_eq_true, Bool.not_eq_true', Bool.or_eq_false_iff] at this
              rcases this with ⟨h7, h8⟩ | h7
              · simp only [h7, h8] at hc; simp at hc
              · exact h7
            · have := hok.2 x hx (i, x) (hR i ri x hi (by simpa using hc))
              simpa using this
          · omega)
    refine ⟨rc :: recs, st', ⟨h1, h2, h4⟩, ?_, h6⟩
    simpa using h5

theorem evr_run {K : St → Prop} : ∀ (items : List AItem) (st : St), evr C K items st → ∃ recs st', RunD C items st recs st' ∧ (∀ rc ∈ recs, rc.ups = []) ∧ K st'
  | [], st, h => ⟨[], st, rfl, by simp, h⟩
  | it :: rest, st, h => by
    obtain ⟨rc, h1, h2, hu, h3⟩ := dIt_rec h
    obtain ⟨recs, st', h4, h5, h6⟩ := evr_run rest _ h3
    refine ⟨rc :: recs, st', ⟨h1, h2, by rw [hu]; exact h4⟩, fun r hr => ?_, h6⟩
    rcases List.mem_cons.1 hr with rfl | hr
    · exact hu
    · exact h5 r hr

def looks (items : List AItem) : Bool := items.all fun it => match it.op with
  | .alloc _ _ | .box _ _ | .bslice _ _ _ _ | .store _ _ _ | .mkmap | .upd _ _ _ _ | .mks _ _ _ _ | .app _ _ _ _ => false
  | _ => true

theorem awp_evd {ord : List Nat} {items : List AItem} {ks : Option (List Nat)} {K : Exit → St → Prop} {st : St} (h : evd C ord (fun st' => K .normal (st'.keep ks)) items 0 [] [] st) : awp C nt (.region true ord items ks) K st := by
  obtain ⟨recs, st', h1, h2, h3⟩ := evd_run (ord := ord) items [] [] st [] h (by simp) (by simp) (by simp)
  exact awp_draw h1 (memOk_of (by simpa using h2)) h3

theorem awp_evr {ord : List Nat} {items : List AItem} {ks : Option (List Nat)} {K : Exit → St → Prop} {st : St} (h : evr C (fun st' => K .normal (st'.keep ks)) items st) : awp C nt (.region true ord items ks) K st := by
  obtain ⟨recs, st', h1, h2, h3⟩ := evr_run items st h
  refine awp_draw h1 (memOk_of fun i j ri rj hi hj hlt hc => ?_) h3
  simp [clash, upIds, h2 ri (List.mem_of_getElem? hi), h2 rj (List.mem_of_getElem? hj)] at hc

end
end Go.Proofs.Ytgligibbgobmnaa
namespace Go.Proofs.Ytgligibbgobmnaa
open Go.RowKit
set_option linter.unusedVariables false
set_option linter.unusedSimpArgs false

def evAfter (dst : Option Nat) (env : List (Nat × AV)) (K : St → Prop) : AV → List (Nat × AObj) → Nat → Prop := fun r heap' next' => K (St.put { env := env, heap := heap', next := next' + 1 } dst r)

def evRes (dst : Option Nat) (K : St → Prop) (st : St) : Option (AV × List (Nat × AObj)) → Prop
  | some (r, ups) => K (st.after dst r ups)
  | none => False

def evCall (C : Ctx) (dst : Option Nat) (K : St → Prop) (st : St) (args : List AV) : AV → Prop
  | .func f first caps => ACall C f (first ++ args ++ caps) st.heap st.next (evAfter dst st.env K)
  | _ => False

def evOp (C : Ctx) (dst : Option Nat) (K : St → Prop) (st : St) : AOp → Prop
  | .call f args => evCall C dst K st (args.map (evEnv st.env)) (evEnv st.env f)
  | op => evRes dst K st (evalOp op (evEnv st.env) (alGet st.heap) st.next)

def evG (C : Ctx) (dst : Option Nat) (op : AOp) (K : St → Prop) (st : St) : Bool → Prop
  | true => evOp C dst K st op
  | false => K (st.after dst .undef [])

def evGV (C : Ctx) (dst : Option Nat) (op : AOp) (K : St → Prop) (st : St) (want : Bool) : AV → Prop
  | .imm (.bool b) => evG C dst op K st (b == want)
  | .undef => evG C dst op K st false
  | _ => False

def evIt (C : Ctx) (it : AItem) (K : St → Prop) (st : St) : Prop := match it.guard with
  | none => evOp C it.dst K st it.op
  | some (t, want) => evGV C it.dst it.op K st want ((alGet st.env t).getD .top)

theorem evOp_eq (C : Ctx) (dst : Option Nat) (op : AOp) (g : Option (Nat × Bool)) (K : St → Prop) (st : St) (hg : guardOf st.env g = some true) : evItem C ⟨dst, op, g⟩ st K = evOp C dst K st op := by
  unfold evItem
  rw [hg]
  cases op
  case call f args =>
    simp only [evOp]
    cases evEnv st.env f <;> rfl
  all_goals
    simp only [evOp]
    generalize evalOp _ _ _ _ = r
    rcases r with _ | ⟨r, ups⟩ <;> rfl

theorem evIt_eq (C : Ctx) (it : AItem) (K : St → Prop) (st : St) (h : evIt C it K st) : evItem C it st K := by
  obtain ⟨dst, op, g⟩ := it
  unfold evIt at h
  split at h
  · rename_i hg
    simp only at hg
    subst hg
    rw [evOp_eq C dst op none K st rfl]
    exact h
  · rename_i t want hg
    simp only at hg
    subst hg
    unfold evGV at h
    split at h
    · rename_i b hb
      cases hbw : (b == want) with
      | true =>
        rw [hbw] at h
        rw [evOp_eq C dst op _ K st (by simp only [guardOf, hb, hbw])]
        exact h
      | false =>
        rw [hbw] at h
        unfold evItem
        simp only [guardOf, hb, hbw]
        exact h
    · rename_i hb
      unfold evItem
      simp only [guardOf, hb]
      exact h
    · exact h.elim

def evl (C : Ctx) : List AItem → (St → Prop) → St → Prop
  | [], K, st => K st
  | it :: rest, K, st => evIt C it (evl C rest K) st

theorem evl_evs (C : Ctx) : ∀ (l : List AItem) (K : St → Prop) (st : St), evl C l K st → evs C l K st
  | [], K, st, h => h
  | it :: rest, K, st, h => by
    have : evl C rest K = evl C rest K := rfl
    have h1 := evIt_eq C it _ st h
    simp only [evs]
    unfold evItem at h1 ⊢
    split
    · rename_i hg; rw [hg] at h1; exact evl_evs C rest K _ h1
    · rename_i hg
      rw [hg] at h1
      simp only at h1
      split
      · rename_i f args hop
        rw [hop] at h1
        simp only at h1
        split
        · rename_i hf
          rw [hf] at h1
          exact ACall.mono (fun r h n hk => evl_evs C rest K _ hk) h1
        · rename_i hf
          split at h1
          · rename_i f' first caps hff; exact absurd hff (hf _ _ _)
          · exact h1
      · rename_i hop
        split at h1
        · rename_i f args h3; exact absurd h3 (hop _ _)
        · split
          · rename_i r ups hev; rw [hev] at h1; exact evl_evs C rest K _ h1
          · rename_i hev; rw [hev] at h1; exact h1
    · rename_i hg; rw [hg] at h1; exact h1

def wpC (b : AV) (x y : St → Prop) (st : St) : Prop := match b with
  | .imm (.bool true) => x st
  | .imm (.bool false) => y st
  | _ => False

def Kept (ks : Option (List Nat)) (K : Exit → St → Prop) : St → Prop := fun st => K .normal (st.keep ks)

def wpD (C : Ctx) (b : Bool) (ord : List Nat) (items : List AItem) (K : St → Prop) (st : St) : Prop := match b with
  | true => evr C K items st
  | false => evd C ord K items 0 [] [] st

def wpx (C : Ctx) (nt : Nat) : ACode → (Exit → St → Prop) → St → Prop
  | .skip, K, st => K .normal st
  | .region false _ items ks, K, st => evl C items (Kept ks K) st
  | .region true ord items ks, K, st => wpD C (looks items) ord items (Kept ks K) st
  | .seq x y, K, st => wpx C nt x (Then (wpx C nt y K) K) st
  | .cond c x y, K, st => wpC (evEnv st.env c) (wpx C nt x K) (wpx C nt y K) st
  | .block id x, K, st => wpx C nt x (InBlock id K) st
  | .loop x, K, st => awp C nt (.loop x) K st
  | .scope x, K, st => wpx C nt x (InScope K) st
  | .exit id, K, st => K (.exit id) st
  | .ret, K, st => K .ret st

theorem wpx_awp {C : Ctx} {nt : Nat} : ∀ {c : ACode} {K : Exit → St → Prop} {st : St}, wpx C nt c K st → awp C nt c K st
  | .skip, K, st, h => awp_skip h
  | .region false _ items ks, K, st, h => awp_region (evl_evs C items _ st h)
  | .region true ord items ks, K, st, h => by
    simp only [wpx, wpD] at h
    split at h
    · exact awp_evr h
    · exact awp_evd h
  | .seq x y, K, st, h => by
    have h1 : awp C nt x (Then (wpx C nt y K) K) st := wpx_awp (c := x) h
    refine awp_seq (awp_mono (fun e st' hk => ?_) h1)
    cases e with
    | normal => exact wpx_awp (c := y) hk
    | _ => exact hk
  | .cond c x y, K, st, h => by
    simp only [wpx, wpC] at h
    split at h
    · rename_i hb; exact awp_cond true hb (fun _ => wpx_awp h) (fun h => by cases h)
    · rename_i hb; exact awp_cond false hb (fun h => by cases h) (fun _ => wpx_awp h)
    · exact h.elim
  | .block id x, K, st, h => awp_block (wpx_awp (c := x) h)
  | .loop x, K, st, h => h
  | .scope x, K, st, h => awp_scope (wpx_awp (c := x) h)
  | .exit id, K, st, h => awp_exit h
  | .ret, K, st, h => awp_ret h

section
variable {C : Ctx} {nt : Nat} {env : List (Nat × AV)} {heap : List (Nat × AObj)} {next : Nat} {dst : Option Nat} {K : St → Prop} {KE : Exit → St → Prop} {st : St}

@[simp] theorem wpx_skip : wpx C nt .skip KE st = KE .normal st := rfl
@[simp] theorem wpx_region (o : List Nat) (items : List AItem) (ks : Option (List Nat)) : wpx C nt (.region false o items ks) KE st = evl C items (Kept ks KE) st := rfl
@[simp] theorem wpx_draw (o : List Nat) (items : List AItem) (ks : Option (List Nat)) : wpx C nt (.region true o items ks) KE st = wpD C (looks items) o items (Kept ks KE) st := rfl
@[simp] theorem wpD_true (o : List Nat) (items : List AItem) : wpD C true o items K st = evr C K items st := rfl
@[simp] theorem wpD_false (o : List Nat) (items : List AItem) : wpD C false o items K st = evd C o K items 0 [] [] st := rfl
@[simp] theorem wpx_seq (x y : ACode) : wpx C nt (.seq x y) KE st = wpx C nt x (Then (wpx C nt y KE) KE) st := rfl
@[simp] theorem wpx_cond (c : Opd) (x y : ACode) : wpx C nt (.cond c x y) KE st = wpC (evEnv st.env c) (wpx C nt x KE) (wpx C nt y KE) st := rfl
@[simp] theorem wpx_block (id : Nat) (x : ACode) : wpx C nt (.block id x) KE st = wpx C nt x (InBlock id KE) st := rfl
@[simp] theorem wpx_scope (x : ACode) : wpx C nt (.scope x) KE st = wpx C nt x (InScope KE) st := rfl
@[simp] theorem wpx_exit (id : Nat) : wpx C nt (.exit id) KE st = KE (.exit id) st := rfl
@[simp] theorem wpx_ret : wpx C nt .ret KE st = KE .ret st := rfl
@[simp] theorem wpC_true (x y : St → Prop) : wpC (.imm (.bool true)) x y st = x st := rfl
@[simp] theorem wpC_false (x y : St → Prop) : wpC (.imm (.bool false)) x y st = y st := rfl
@[simp] theorem Then_normal (n : St → Prop) : Then n KE .normal st = n st := rfl
@[simp] theorem Then_exit (n : St → Prop) (id : Nat) : Then n KE (.exit id) st = KE (.exit id) st := rfl
@[simp] theorem Then_ret (n : St → Prop) : Then n KE .ret st = KE .ret st := rfl
@[simp] theorem InBlock_normal (id : Nat) : InBlock id KE .normal st = KE .normal st := rfl
@[simp] theorem InBlock_ret (id : Nat) : InBlock id KE .ret st = KE .ret st := rfl
@[simp] theorem InBlock_exit (id id' : Nat) : InBlock id KE (.exit id') st = if id' = id then KE .normal st else KE (.exit id') st := rfl
@[simp] theorem InScope_normal : InScope KE .normal st = KE .normal st := rfl
@[simp] theorem InScope_exit (id : Nat) : InScope KE (.exit id) st = KE (.exit id) st := rfl
@[simp] theorem InScope_ret : InScope KE .ret st = KE .ret st := rfl
@[simp] theorem Kept_some (ks : List Nat) : Kept (some ks) KE ⟨env, heap, next⟩ = KE .normal ⟨keepEnv ks env, heap, next⟩ := rfl
@[simp] theorem Kept_none : Kept none KE st = KE .normal st := rfl
@[simp] theorem keepEnv_nil (ks : List Nat) : keepEnv ks [] = [] := rfl
@[simp] theorem keepEnv_cons (ks : List Nat) (k : Nat) (v : AV) (r : List (Nat × AV)) : keepEnv ks ((k, v) :: r) = bif ks.contains k then (k, v) :: keepEnv ks r else keepEnv ks r := by
  simp only [keepEnv, List.filter_cons]; cases ks.contains k <;> rfl
@[simp] theorem evl_nil : evl C [] K st = K st := rfl
@[simp] theorem evl_cons (it : AItem) (r : List AItem) : evl C (it :: r) K st = evIt C it (evl C r K) st := rfl
@[simp] theorem evIt_none (op : AOp) : evIt C ⟨dst, op, none⟩ K st = evOp C dst K st op := rfl
@[simp] theorem evIt_some (op : AOp) (t : Nat) (want : Bool) : evIt C ⟨dst, op, some (t, want)⟩ K st = evGV C dst op K st want ((alGet st.env t).getD .top) := rfl
@[simp] theorem evGV_undef (op : AOp) (want : Bool) : evGV C dst op K st want .undef = K (st.after dst .undef []) := rfl
@[simp] theorem evGV_bool (op : AOp) (b : Bool) : evGV C dst op K st true (.imm (.bool b)) = evG C dst op K st b := by simp [evGV]
@[simp] theorem evGV_boolf (op : AOp) (b : Bool) : evGV C dst op K st false (.imm (.bool b)) = evG C dst op K st (!b) := by cases b <;> rfl
@[simp] theorem evG_true (op : AOp) : evG C dst op K st true = evOp C dst K st op := rfl
@[simp] theorem evG_false (op : AOp) : evG C dst op K st false = K (st.after dst .undef []) := rfl
@[simp] theorem evRes_some (r : AV) (ups : List (Nat × AObj)) : evRes dst K st (some (r, ups)) = K (st.after dst r ups) := rfl
@[simp] theorem evRes_none : evRes dst K st none = False := rfl
@[simp] theorem evOp_call (f : Opd) (args : List Opd) : evOp C dst K ⟨env, heap, next⟩ (.call f args) = evCall C dst K ⟨env, heap, next⟩ (args.map (evEnv env)) (evEnv env f) := rfl
@[simp] theorem evCall_func (args : List AV) (f : Nat) (first caps : List AV) : evCall C dst K ⟨env, heap, next⟩ args (.func f first caps) = ACall C f (first ++ args ++ caps) heap next (evAfter dst env K) := rfl
@[simp] theorem evAfter_some (d : Nat) (r : AV) (heap' : List (Nat × AObj)) (next' : Nat) : evAfter (some d) env K r heap' next' = K ⟨alSet env d r, heap', next' + 1⟩ := rfl
@[simp] theorem evAfter_none (r : AV) (heap' : List (Nat × AObj)) (next' : Nat) : evAfter none env K r heap' next' = K ⟨env, heap', next' + 1⟩ := rfl
@[simp] theorem after_some (d : Nat) (r : AV) (ups : List (Nat × AObj)) : St.after ⟨env, heap, next⟩ (some d) r ups = ⟨alSet env d r, applyUps ups heap, next + 1⟩ := rfl
@[simp] theorem after_none (r : AV) (ups : List (Nat × AObj)) : St.after ⟨env, heap, next⟩ none r ups = ⟨env, applyUps ups heap, next + 1⟩ := rfl
@[simp] theorem applyUps_nil : applyUps [] heap = heap := rfl
@[simp] theorem applyUps_cons (k : Nat) (o : AObj) (r : List (Nat × AObj)) : applyUps ((k, o) :: r) heap = alSet (applyUps r heap) k o := rfl
@[simp] theorem alGet_nil {α : Type} (i : Nat) : alGet ([] : List (Nat × α)) i = none := rfl
@[simp] theorem alGet_cons {α : Type} (k i : Nat) (v : α) (r : List (Nat × α)) : alGet ((k, v) :: r) i = if k = i then some v else alGet r i := rfl
@[simp] theorem alSet_nil {α : Type} (i : Nat) (v : α) : alSet [] i v = [(i, v)] := rfl
@[simp] theorem alSet_cons {α : Type} (k i : Nat) (v u : α) (r : List (Nat × α)) : alSet ((k, v) :: r) i u = if k = i then (i, u) :: r else (k, v) :: alSet r i u := rfl
@[simp] theorem evEnv_t (n : Nat) : evEnv env (.t n) = (alGet env n).getD .top := rfl
@[simp] theorem evEnv_c (x : AV) : evEnv env (.c x) = x := rfl
@[simp] theorem argEnv_nil (i : Nat) : argEnv i [] = [] := rfl
@[simp] theorem argEnv_cons (i : Nat) (x : AV) (xs : List AV) : argEnv i (x :: xs) = (i, x) :: argEnv (i + 1) xs := rfl
@[simp] theorem mapO_nil {α β : Type} (f : α → Option β) : mapO f [] = some [] := rfl
@[simp] theorem mapO_cons {α β : Type} (f : α → Option β) (a : α) (r : List α) : mapO f (a :: r) = match f a with
    | some b => match mapO f r with
      | some bs => some (b :: bs)
      | none => none
    | none => none := rfl

def EndK (KA : AV → List (Nat × AObj) → Nat → Prop) (heap : List (Nat × AObj)) (next : Nat) : Option AV → Prop
  | some r => KA r heap next
  | none => False

def EndsR (rs : List ARes) (KA : AV → List (Nat × AObj) → Nat → Prop) : Exit → St → Prop
  | .ret, st | .normal, st => EndK KA st.heap st.next (resOf rs st)
  | _, _ => False

theorem ACall.run {f : Nat} {F : AFun} (hF : compFun C f = some F.erase) {args : List AV} {KA : AV → List (Nat × AObj) → Nat → Prop} (hn : args.length ≤ F.nt)
    (h : wpx C F.nt F.body (EndsR F.results KA) { env := argEnv 0 args, heap := heap, next := next }) : ACall C f args heap next KA := ACall.enter hF hn (awp_mono (fun e st hk => by
      have key : ∀ {o : Option AV}, EndK KA st.heap st.next o → ∃ r, o = some r ∧ KA r st.heap st.next := fun {o} ho => by
        cases o with
        | none => exact ho.elim
        | some r => exact ⟨r, rfl, ho⟩
      cases e with
      | ret => exact ⟨.inl rfl, key hk⟩
      | normal => exact ⟨.inr rfl, key hk⟩
      | _ => exact hk.elim) (wpx_awp h))

def IsIV (d : Nat) (r : IV) : AV → List (Nat × AObj) → Nat → Prop := fun x heap _ => toIV (alGet heap) d x = some r
@[simp] theorem IsIV_eq (d : Nat) (r : IV) (x : AV) : IsIV d r x heap next = (toIV (alGet heap) d x = some r) := rfl

theorem APure.run {f : Nat} {F : AFun} (hF : compFun C f = some F.erase) {args : List IV} {r : IV} (d : Nat) (hn : args.length ≤ F.nt)
    (h : wpx C F.nt F.body (EndsR F.results (IsIV d r)) { env := argEnv 0 (args.map .imm), heap := [], next := 0 }) : APure C f args r := APure.of (d := d) (ACall.run hF (by simpa using hn) h)

variable {KA : AV → List (Nat × AObj) → Nat → Prop}
@[simp] theorem EndsR_ret (rs : List ARes) : EndsR rs KA .ret ⟨env, heap, next⟩ = EndK KA heap next (resOf rs ⟨env, heap, next⟩) := rfl
@[simp] theorem EndsR_normal (rs : List ARes) : EndsR rs KA .normal ⟨env, heap, next⟩ = EndK KA heap next (resOf rs ⟨env, heap, next⟩) := rfl
@[simp] theorem EndK_some (r : AV) : EndK KA heap next (some r) = KA r heap next := rfl
@[simp] theorem EndK_none : EndK KA heap next none = False := rfl
@[simp] theorem resOf_one (r : ARes) : resOf [r] st = resOne st r := rfl
@[simp] theorem resOf_nil : resOf [] st = some (.tuple []) := rfl
@[simp] theorem resOf_two (r s : ARes) (l : List ARes) : resOf (r :: s :: l) st = match mapO (resOne st) (r :: s :: l) with
    | some xs => some (.tuple xs)
    | none => none := rfl
@[simp] theorem resOne_tmp (t : Nat) : resOne ⟨env, heap, next⟩ (.tmp t) = alGet env t := rfl
@[simp] theorem resOne_cell (t n : Nat) (ag : Bool) : resOne ⟨env, heap, next⟩ (.cell t ag n) = match evalOp (.load ag n (.t t)) (evEnv env) (alGet heap) 0 with
    | some (r, _) => some r
    | none => none := rfl

@[simp] theorem evOp_mov (x : Opd) : evOp C dst K ⟨env, heap, next⟩ (.mov x) = evRes dst K ⟨env, heap, next⟩ (evalOp (.mov x) (evEnv env) (alGet heap) next) := rfl
@[simp] theorem evOp_pick (c a b : Opd) : evOp C dst K ⟨env, heap, next⟩ (.pick c a b) = evRes dst K ⟨env, heap, next⟩ (evalOp (.pick c a b) (evEnv env) (alGet heap) next) := rfl
@[simp] theorem evOp_alloc (sz : Nat) (rows : List (List AV)) : evOp C dst K ⟨env, heap, next⟩ (.alloc sz rows) = evRes dst K ⟨env, heap, next⟩ (evalOp (.alloc sz rows) (evEnv env) (alGet heap) next) := rfl
@[simp] theorem evOp_box (sz : Nat) (x : Opd) : evOp C dst K ⟨env, heap, next⟩ (.box sz x) = evRes dst K ⟨env, heap, next⟩ (evalOp (.box sz x) (evEnv env) (alGet heap) next) := rfl
@[simp] theorem evOp_build (zero : List AV) (parts : List (Nat × Nat × Opd)) : evOp C dst K ⟨env, heap, next⟩ (.build zero parts) = evRes dst K ⟨env, heap, next⟩ (evalOp (.build zero parts) (evEnv env) (alGet heap) next) := rfl
@[simp] theorem evOp_bslice (sz : Nat) (zero : List AV) (len : Nat) (parts : List (Nat × Opd)) : evOp C dst K ⟨env, heap, next⟩ (.bslice sz zero len parts) = evRes dst K ⟨env, heap, next⟩ (evalOp (.bslice sz zero len parts) (evEnv env) (alGet heap) next) := rfl
@[simp] theorem evOp_load (agg : Bool) (n : Nat) (x : Opd) : evOp C dst K ⟨env, heap, next⟩ (.load agg n x) = evRes dst K ⟨env, heap, next⟩ (evalOp (.load agg n x) (evEnv env) (alGet heap) next) := rfl
@[simp] theorem evOp_store (n : Nat) (x v : Opd) : evOp C dst K ⟨env, heap, next⟩ (.store n x v) = evRes dst K ⟨env, heap, next⟩ (evalOp (.store n x v) (evEnv env) (alGet heap) next) := rfl
@[simp] theorem evOp_fld (off : Nat) (x : Opd) : evOp C dst K ⟨env, heap, next⟩ (.fld off x) = evRes dst K ⟨env, heap, next⟩ (evalOp (.fld off x) (evEnv env) (alGet heap) next) := rfl
@[simp] theorem evOp_idx (sz : Nat) (x i : Opd) : evOp C dst K ⟨env, heap, next⟩ (.idx sz x i) = evRes dst K ⟨env, heap, next⟩ (evalOp (.idx sz x i) (evEnv env) (alGet heap) next) := rfl
@[simp] theorem evOp_idxa (len sz : Nat) (x i : Opd) : evOp C dst K ⟨env, heap, next⟩ (.idxa len sz x i) = evRes dst K ⟨env, heap, next⟩ (evalOp (.idxa len sz x i) (evEnv env) (alGet heap) next) := rfl
@[simp] theorem evOp_bin (op : BinOp) (x y : Opd) : evOp C dst K ⟨env, heap, next⟩ (.bin op x y) = evRes dst K ⟨env, heap, next⟩ (evalOp (.bin op x y) (evEnv env) (alGet heap) next) := rfl
@[simp] theorem evOp_eqb (neg : Bool) (x y : Opd) : evOp C dst K ⟨env, heap, next⟩ (.eqb neg x y) = evRes dst K ⟨env, heap, next⟩ (evalOp (.eqb neg x y) (evEnv env) (alGet heap) next) := rfl
@[simp] theorem evOp_eqs (neg : Bool) (ks : List Nat) (x y : Opd) : evOp C dst K ⟨env, heap, next⟩ (.eqs neg ks x y) = evRes dst K ⟨env, heap, next⟩ (evalOp (.eqs neg ks x y) (evEnv env) (alGet heap) next) := rfl
@[simp] theorem evOp_eqnil (neg : Bool) (x y : Opd) : evOp C dst K ⟨env, heap, next⟩ (.eqnil neg x y) = evRes dst K ⟨env, heap, next⟩ (evalOp (.eqnil neg x y) (evEnv env) (alGet heap) next) := rfl
@[simp] theorem evOp_not (x : Opd) : evOp C dst K ⟨env, heap, next⟩ (.not x) = evRes dst K ⟨env, heap, next⟩ (evalOp (.not x) (evEnv env) (alGet heap) next) := rfl
@[simp] theorem evOp_neg (x : Opd) : evOp C dst K ⟨env, heap, next⟩ (.neg x) = evRes dst K ⟨env, heap, next⟩ (evalOp (.neg x) (evEnv env) (alGet heap) next) := rfl
@[simp] theorem evOp_conv (k : IntKind) (x : Opd) : evOp C dst K ⟨env, heap, next⟩ (.conv k x) = evRes dst K ⟨env, heap, next⟩ (evalOp (.conv k x) (evEnv env) (alGet heap) next) := rfl
@[simp] theorem evOp_len (x : Opd) : evOp C dst K ⟨env, heap, next⟩ (.len x) = evRes dst K ⟨env, heap, next⟩ (evalOp (.len x) (evEnv env) (alGet heap) next) := rfl
@[simp] theorem evOp_lens (x : Opd) : evOp C dst K ⟨env, heap, next⟩ (.lens x) = evRes dst K ⟨env, heap, next⟩ (evalOp (.lens x) (evEnv env) (alGet heap) next) := rfl
@[simp] theorem evOp_lenm (x : Opd) : evOp C dst K ⟨env, heap, next⟩ (.lenm x) = evRes dst K ⟨env, heap, next⟩ (evalOp (.lenm x) (evEnv env) (alGet heap) next) := rfl
@[simp] theorem evOp_mm (max : Bool) (x y : Opd) : evOp C dst K ⟨env, heap, next⟩ (.mm max x y) = evRes dst K ⟨env, heap, next⟩ (evalOp (.mm max x y) (evEnv env) (alGet heap) next) := rfl
@[simp] theorem evOp_app (sz by_ : Nat) (s x : Opd) : evOp C dst K ⟨env, heap, next⟩ (.app sz by_ s x) = evRes dst K ⟨env, heap, next⟩ (evalOp (.app sz by_ s x) (evEnv env) (alGet heap) next) := rfl
@[simp] theorem evOp_ext (x : Opd) (i : Nat) : evOp C dst K ⟨env, heap, next⟩ (.ext x i) = evRes dst K ⟨env, heap, next⟩ (evalOp (.ext x i) (evEnv env) (alGet heap) next) := rfl
@[simp] theorem evOp_mkf (f : Nat) (first caps : List Opd) : evOp C dst K ⟨env, heap, next⟩ (.mkf f first caps) = evRes dst K ⟨env, heap, next⟩ (evalOp (.mkf f first caps) (evEnv env) (alGet heap) next) := rfl
@[simp] theorem evOp_mkmap  : evOp C dst K ⟨env, heap, next⟩ (.mkmap) = evRes dst K ⟨env, heap, next⟩ (evalOp (.mkmap) (evEnv env) (alGet heap) next) := rfl
@[simp] theorem evOp_look (str : Bool) (zero : AV) (ok : Bool) (m k : Opd) : evOp C dst K ⟨env, heap, next⟩ (.look str zero ok m k) = evRes dst K ⟨env, heap, next⟩ (evalOp (.look str zero ok m k) (evEnv env) (alGet heap) next) := rfl
@[simp] theorem evOp_upd (str : Bool) (m k v : Opd) : evOp C dst K ⟨env, heap, next⟩ (.upd str m k v) = evRes dst K ⟨env, heap, next⟩ (evalOp (.upd str m k v) (evEnv env) (alGet heap) next) := rfl
@[simp] theorem evOp_mks (sz by_ : Nat) (zero : List AV) (n : Opd) : evOp C dst K ⟨env, heap, next⟩ (.mks sz by_ zero n) = evRes dst K ⟨env, heap, next⟩ (evalOp (.mks sz by_ zero n) (evEnv env) (alGet heap) next) := rfl
@[simp] theorem evOp_slc (sz : Nat) (x : Opd) (lo hi : Option Opd) : evOp C dst K ⟨env, heap, next⟩ (.slc sz x lo hi) = evRes dst K ⟨env, heap, next⟩ (evalOp (.slc sz x lo hi) (evEnv env) (alGet heap) next) := rfl
end

section
variable {C : Ctx} {nt : Nat} {env : List (Nat × AV)} {heap : List (Nat × AObj)} {next : Nat} {dst : Option Nat} {K : St → Prop} {KD : List Nat → AV → List (Nat × AObj) → Prop} {st : St}

@[simp] theorem evd_nil (ord : List Nat) (j : Nat) (W R : List (Nat × Nat)) : evd C ord K [] j W R st = K st := rfl
@[simp] theorem evd_cons (ord : List Nat) (it : AItem) (r : List AItem) (j : Nat) (W R : List (Nat × Nat)) : evd C ord K (it :: r) j W R st = dIt C it (dNext ord j W R it.dst st (evd C ord K r)) st := rfl
@[simp] theorem evr_nil : evr C K [] st = K st := rfl
@[simp] theorem evr_cons (it : AItem) (r : List AItem) : evr C K (it :: r) st = dIt C it (rNext it.dst st (evr C K r)) st := rfl
@[simp] theorem dIt_none (op : AOp) : dIt C ⟨dst, op, none⟩ KD st = dOp C KD st op := rfl
@[simp] theorem dIt_some (op : AOp) (t : Nat) (want : Bool) : dIt C ⟨dst, op, some (t, want)⟩ KD st = dGV C op KD st want ((alGet st.env t).getD .top) := rfl
@[simp] theorem dGV_undef (op : AOp) (want : Bool) : dGV C op KD st want .undef = KD [] .undef [] := rfl
@[simp] theorem dGV_bool (op : AOp) (b : Bool) : dGV C op KD st true (.imm (.bool b)) = dG C op KD st b := by simp [dGV]
@[simp] theorem dGV_boolf (op : AOp) (b : Bool) : dGV C op KD st false (.imm (.bool b)) = dG C op KD st (!b) := by cases b <;> rfl
@[simp] theorem dG_true (op : AOp) : dG C op KD st true = dOp C KD st op := rfl
@[simp] theorem dG_false (op : AOp) : dG C op KD st false = KD [] .undef [] := rfl
@[simp] theorem dRes_some (rd : List Nat) (r : AV) (ups : List (Nat × AObj)) : dRes KD rd (some (r, ups)) = KD rd r ups := rfl
@[simp] theorem dRes_none (rd : List Nat) : dRes KD rd none = False := rfl
@[simp] theorem dNext_eq (ord : List Nat) (j : Nat) (W R : List (Nat × Nat)) (nx : Nat → List (Nat × Nat) → List (Nat × Nat) → St → Prop) (rd : List Nat) (r : AV) (ups : List (Nat × AObj)) :
    dNext ord j W R dst st nx rd r ups = (okAt ord j W R (upIds ups) rd = true ∧ nx (j + 1) (addAt j (upIds ups) W) (addAt j rd R) (st.after dst r ups)) := rfl
@[simp] theorem rNext_nil (nx : St → Prop) (rd : List Nat) (r : AV) : rNext dst st nx rd r [] = nx (st.after dst r []) := by simp [rNext]
@[simp] theorem dOp_call (f : Opd) (args : List Opd) : dOp C KD ⟨env, heap, next⟩ (.call f args) = dCall C KD heap (args.map (evEnv env)) (evEnv env f) := rfl
@[simp] theorem dCall_func (args : List AV) (f : Nat) (first caps : List AV) : dCall C KD heap args (.func f first caps) = DCall C f (first ++ args ++ caps) heap KD := rfl

@[simp] theorem dOp_mov (x : Opd) : dOp C KD ⟨env, heap, next⟩ (.mov x) = dRes KD (readIds (.mov x) (evEnv env)) (evalOp (.mov x) (evEnv env) (alGet heap) next) := rfl
@[simp] theorem dOp_pick (c a b : Opd) : dOp C KD ⟨env, heap, next⟩ (.pick c a b) = dRes KD (readIds (.pick c a b) (evEnv env)) (evalOp (.pick c a b) (evEnv env) (alGet heap) next) := rfl
@[simp] theorem dOp_alloc (sz : Nat) (rows : List (List AV)) : dOp C KD ⟨env, heap, next⟩ (.alloc sz rows) = dRes KD (readIds (.alloc sz rows) (evEnv env)) (evalOp (.alloc sz rows) (evEnv env) (alGet heap) next) := rfl
@[simp] theorem dOp_box (sz : Nat) (x : Opd) : dOp C KD ⟨env, heap, next⟩ (.box sz x) = dRes KD (readIds (.box sz x) (evEnv env)) (evalOp (.box sz x) (evEnv env) (alGet heap) next) := rfl
@[simp] theorem dOp_build (zero : List AV) (parts : List (Nat × Nat × Opd)) : dOp C KD ⟨env, heap, next⟩ (.build zero parts) = dRes KD (readIds (.build zero parts) (evEnv env)) (evalOp (.build zero parts) (evEnv env) (alGet heap) next) := rfl
@[simp] theorem dOp_bslice (sz : Nat) (zero : List AV) (len : Nat) (parts : List (Nat × Opd)) : dOp C KD ⟨env, heap, next⟩ (.bslice sz zero len parts) = dRes KD (readIds (.bslice sz zero len parts) (evEnv env)) (evalOp (.bslice sz zero len parts) (evEnv env) (alGet heap) next) := rfl
@[simp] theorem dOp_load (agg : Bool) (n : Nat) (x : Opd) : dOp C KD ⟨env, heap, next⟩ (.load agg n x) = dRes KD (readIds (.load agg n x) (evEnv env)) (evalOp (.load agg n x) (evEnv env) (alGet heap) next) := rfl
@[simp] theorem dOp_store (n : Nat) (x v : Opd) : dOp C KD ⟨env, heap, next⟩ (.store n x v) = dRes KD (readIds (.store n x v) (evEnv env)) (evalOp (.store n x v) (evEnv env) (alGet heap) next) := rfl
@[simp] theorem dOp_fld (off : Nat) (x : Opd) : dOp C KD ⟨env, heap, next⟩ (.fld off x) = dRes KD (readIds (.fld off x) (evEnv env)) (evalOp (.fld off x) (evEnv env) (alGet heap) next) := rfl
@[simp] theorem dOp_idx (sz : Nat) (x i : Opd) : dOp C KD ⟨env, heap, next⟩ (.idx sz x i) = dRes KD (readIds (.idx sz x i) (evEnv env)) (evalOp (.idx sz x i) (evEnv env) (alGet heap) next) := rfl
@[simp] theorem dOp_idxa (len sz : Nat) (x i : Opd) : dOp C KD ⟨env, heap, next⟩ (.idxa len sz x i) = dRes KD (readIds (.idxa len sz x i) (evEnv env)) (evalOp (.idxa len sz x i) (evEnv env) (alGet heap) next) := rfl
@[simp] theorem dOp_bin (op : BinOp) (x y : Opd) : dOp C KD ⟨env, heap, next⟩ (.bin op x y) = dRes KD (readIds (.bin op x y) (evEnv env)) (evalOp (.bin op x y) (evEnv env) (alGet heap) next) := rfl
@[simp] theorem dOp_eqb (neg : Bool) (x y : Opd) : dOp C KD ⟨env, heap, next⟩ (.eqb neg x y) = dRes KD (readIds (.eqb neg x y) (evEnv env)) (evalOp (.eqb neg x y) (evEnv env) (alGet heap) next) := rfl
@[simp] theorem dOp_eqs (neg : Bool) (ks : List Nat) (x y : Opd) : dOp C KD ⟨env, heap, next⟩ (.eqs neg ks x y) = dRes KD (readIds (.eqs neg ks x y) (evEnv env)) (evalOp (.eqs neg ks x y) (evEnv env) (alGet heap) next) := rfl
@[simp] theorem dOp_eqnil (neg : Bool) (x y : Opd) : dOp C KD ⟨env, heap, next⟩ (.eqnil neg x y) = dRes KD (readIds (.eqnil neg x y) (evEnv env)) (evalOp (.eqnil neg x y) (evEnv env) (alGet heap) next) := rfl
@[simp] theorem dOp_not (x : Opd) : dOp C KD ⟨env, heap, next⟩ (.not x) = dRes KD (readIds (.not x) (evEnv env)) (evalOp (.not x) (evEnv env) (alGet heap) next) := rfl
@[simp] theorem dOp_neg (x : Opd) : dOp C KD ⟨env, heap, next⟩ (.neg x) = dRes KD (readIds (.neg x) (evEnv env)) (evalOp (.neg x) (evEnv env) (alGet heap) next) := rfl
@[simp] theorem dOp_conv (k : IntKind) (x : Opd) : dOp C KD ⟨env, heap, next⟩ (.conv k x) = dRes KD (readIds (.conv k x) (evEnv env)) (evalOp (.conv k x) (evEnv env) (alGet heap) next) := rfl
@[simp] theorem dOp_len (x : Opd) : dOp C KD ⟨env, heap, next⟩ (.len x) = dRes KD (readIds (.len x) (evEnv env)) (evalOp (.len x) (evEnv env) (alGet heap) next) := rfl
@[simp] theorem dOp_lens (x : Opd) : dOp C KD ⟨env, heap, next⟩ (.lens x) = dRes KD (readIds (.lens x) (evEnv env)) (evalOp (.lens x) (evEnv env) (alGet heap) next) := rfl
@[simp] theorem dOp_lenm (x : Opd) : dOp C KD ⟨env, heap, next⟩ (.lenm x) = dRes KD (readIds (.lenm x) (evEnv env)) (evalOp (.lenm x) (evEnv env) (alGet heap) next) := rfl
@[simp] theorem dOp_mm (max : Bool) (x y : Opd) : dOp C KD ⟨env, heap, next⟩ (.mm max x y) = dRes KD (readIds (.mm max x y) (evEnv env)) (evalOp (.mm max x y) (evEnv env) (alGet heap) next) := rfl
@[simp] theorem dOp_app (sz by_ : Nat) (s x : Opd) : dOp C KD ⟨env, heap, next⟩ (.app sz by_ s x) = dRes KD (readIds (.app sz by_ s x) (evEnv env)) (evalOp (.app sz by_ s x) (evEnv env) (alGet heap) next) := rfl
@[simp] theorem dOp_ext (x : Opd) (i : Nat) : dOp C KD ⟨env, heap, next⟩ (.ext x i) = dRes KD (readIds (.ext x i) (evEnv env)) (evalOp (.ext x i) (evEnv env) (alGet heap) next) := rfl
@[simp] theorem dOp_mkf (f : Nat) (first caps : List Opd) : dOp C KD ⟨env, heap, next⟩ (.mkf f first caps) = dRes KD (readIds (.mkf f first caps) (evEnv env)) (evalOp (.mkf f first caps) (evEnv env) (alGet heap) next) := rfl
@[simp] theorem dOp_mkmap  : dOp C KD ⟨env, heap, next⟩ (.mkmap) = dRes KD (readIds (.mkmap) (evEnv env)) (evalOp (.mkmap) (evEnv env) (alGet heap) next) := rfl
@[simp] theorem dOp_look (str : Bool) (zero : AV) (ok : Bool) (m k : Opd) : dOp C KD ⟨env, heap, next⟩ (.look str zero ok m k) = dRes KD (readIds (.look str zero ok m k) (evEnv env)) (evalOp (.look str zero ok m k) (evEnv env) (alGet heap) next) := rfl
@[simp] theorem dOp_upd (str : Bool) (m k v : Opd) : dOp C KD ⟨env, heap, next⟩ (.upd str m k v) = dRes KD (readIds (.upd str m k v) (evEnv env)) (evalOp (.upd str m k v) (evEnv env) (alGet heap) next) := rfl
@[simp] theorem dOp_mks (sz by_ : Nat) (zero : List AV) (n : Opd) : dOp C KD ⟨env, heap, next⟩ (.mks sz by_ zero n) = dRes KD (readIds (.mks sz by_ zero n) (evEnv env)) (evalOp (.mks sz by_ zero n) (evEnv env) (alGet heap) next) := rfl
@[simp] theorem dOp_slc (sz : Nat) (x : Opd) (lo hi : Option Opd) : dOp C KD ⟨env, heap, next⟩ (.slc sz x lo hi) = dRes KD (readIds (.slc sz x lo hi) (evEnv env)) (evalOp (.slc sz x lo hi) (evEnv env) (alGet heap) next) := rfl
end

end Go.Proofs.Ytgligibbgobmnaa
namespace Go.Proofs.Ytgligibbgobmnaa
open Go.RowKit
set_option linter.unusedVariables false
set_option linter.unusedSimpArgs false

section
variable {C : Ctx} {nt : Nat} {x : ACode} {K : Exit → St → Prop} {st : St}

end

@[simp] theorem forall_mem_nil' {α : Type} {p : α → Prop} : (∀ x ∈ ([] : List α), p x) = True := by simp

theorem wrap_i64 {x : Int} (h1 : -9223372036854775808 ≤ x) (h2 : x < 9223372036854775808) : IntKind.i64.wrap x = x := by
  simp [IntKind.wrap, IntKind.bits, IntKind.signed, Int.bmod_def]
  omega

theorem wrap_u64 {x : Int} (h1 : 0 ≤ x) (h2 : x < 18446744073709551616) : IntKind.u64.wrap x = x := by
  simp [IntKind.wrap, IntKind.bits, IntKind.signed]
  omega

end Go.Proofs.Ytgligibbgobmnaa
namespace Go.Proofs.Ytgligibbgobmnaa
open Go.RowKit
set_option linter.unusedVariables false
set_option linter.unusedSimpArgs false

def setAll {α : Type} : List (Nat × α) → List (Nat × α) → List (Nat × α)
  | [], l => l
  | (k, v) :: r, l => setAll r (alSet l k v)

@[simp] theorem setAll_nil {α : Type} (l : List (Nat × α)) : setAll [] l = l := rfl
@[simp] theorem setAll_cons {α : Type} (k : Nat) (v : α) (r l : List (Nat × α)) : setAll ((k, v) :: r) l = setAll r (alSet l k v) := rfl

section
variable {C : Ctx} {nt : Nat} {x : ACode} {K : Exit → St → Prop}

end

end Go.Proofs.Ytgligibbgobmnaa
namespace Go.Proofs.Ytgligibbgobmnaa
open Go.RowKit
set_option linter.unusedVariables false
set_option linter.unusedSimpArgs false

theorem obind {α β : Type} {x : Option α} {f : α → Option β} {r : β} (h : x.bind f = some r) : ∃ a, x = some a ∧ f a = some r := Option.bind_eq_some_iff.1 h

def idxI {α : Type} (l : List α) (n : Int) : Option α := if 0 ≤ n then l[n.toNat]? else none

theorem idxI_some {α : Type} {l : List α} {n : Int} {e : α} (h : idxI l n = some e) : 0 ≤ n ∧ l[n.toNat]? = some e ∧ n.toNat < l.length ∧ n < l.length ∧ ∃ h : n.toNat < l.length, l[n.toNat] = e := by
  unfold idxI at h; split at h
  · obtain ⟨h1, h2⟩ := List.getElem?_eq_some_iff.1 h
    exact ⟨‹_›, h, h1, by omega, h1, h2⟩
  · cases h

theorem grd {α : Type} {b : Bool} {x y : Option α} {r : α} (h : (bif b then x else y) = some r) : (b = true ∧ x = some r) ∨ (b = false ∧ y = some r) := by
  cases b
  · exact .inr ⟨rfl, h⟩
  · exact .inl ⟨rfl, h⟩

theorem awp_reg {C : Ctx} {nt : Nat} {o : List Nat} {items : List AItem} {ks : Option (List Nat)} {K : Exit → St → Prop} {st : St} (h : evl C items (Kept ks K) st) : awp C nt (.region false o items ks) K st :=
  awp_region (evl_evs C items _ st h)
theorem awp_drw {C : Ctx} {nt : Nat} {o : List Nat} {items : List AItem} {ks : Option (List Nat)} {K : Exit → St → Prop} {st : St} (h : wpD C (looks items) o items (Kept ks K) st) : awp C nt (.region true o items ks) K st :=
  wpx_awp h
theorem awp_if {C : Ctx} {nt : Nat} {c : Opd} {x y : ACode} {K : Exit → St → Prop} {st : St} (b : Bool) (hc : evEnv st.env c = .imm (.bool b)) (h1 : b = true → awp C nt x K st) (h2 : b = false → awp C nt y K st) : awp C nt (.cond c x y) K st :=
  awp_cond b hc h1 h2
theorem inb_eq {id : Nat} {K : Exit → St → Prop} {st : St} (h : K .normal st) : InBlock id K (.exit id) st := by
  simp only [InBlock_exit, if_true]; exact h
/-! Counted loops. -/
def forFrom {σ ρ : Type} (f : Nat → σ → Option (σ ⊕ ρ)) : Nat → Nat → σ → Option (σ ⊕ ρ)
  | _, 0, s => some (.inl s)
  | i, k + 1, s => match f i s with
    | none => none
    | some (.inr r) => some (.inr r)
    | some (.inl s') => forFrom f (i + 1) k s'

def forR {σ ρ : Type} (n : Int) (f : Nat → σ → Option (σ ⊕ ρ)) (s : σ) : Option (σ ⊕ ρ) := bif Nat.blt n.toNat 4611686018427387904 then forFrom f 0 n.toNat s else none
theorem forR_pos {σ ρ : Type} {n : Int} {f : Nat → σ → Option (σ ⊕ ρ)} {s : σ} (hn : n < 4611686018427387904) : forR n f s = forFrom f 0 n.toNat s := by
  have : Nat.blt n.toNat 4611686018427387904 = true := by simp only [Nat.blt_eq]; omega
  unfold forR; rw [this]; rfl
theorem forR_some {σ ρ : Type} {n : Int} {f : Nat → σ → Option (σ ⊕ ρ)} {s : σ} {o : σ ⊕ ρ} (h : forR n f s = some o) : n < 4611686018427387904 ∧ forFrom f 0 n.toNat s = some o := by
  unfold forR at h
  cases hb : Nat.blt n.toNat 4611686018427387904 with
  | true => rw [hb] at h; simp only [Nat.blt_eq] at hb; exact ⟨by omega, h⟩
  | false => rw [hb] at h; cases h

def LoopK {σ ρ : Type} (W : σ → St) (K : Exit → St → Prop) (out : σ ⊕ ρ) (o : σ ⊕ ρ) : Exit → St → Prop
  | .normal, st => ∃ s', o = .inl s' ∧ Weak st (W s')
  | e, st => ∃ y, o = .inr y ∧ (out = .inr y → K e st)

theorem awp_forR {C : Ctx} {nt : Nat} {x : ACode} {K : Exit → St → Prop} {st : St} {σ ρ : Type} {n : Int} {f : Nat → σ → Option (σ ⊕ ρ)} {s0 : σ} {out : σ ⊕ ρ} (hl : forR n f s0 = some out)
    (E : Nat → σ → List (Nat × AV)) (H : Nat → σ → List (Nat × AObj)) (h0 : Weak st ⟨E 0 s0, H 0 s0, st.next⟩)
    (body : ∀ (i : Nat) (s : σ) (o : σ ⊕ ρ), (i : Int) < n → IntKind.i64.wrap ((i : Int) + 1) = (i : Int) + 1 → f i s = some o → awp C nt x (LoopK (fun s => ⟨E (i + 1) s, H (i + 1) s, st.next⟩) K out o) ⟨E i s, H i s, st.next⟩)
    (last : ∀ (m : Nat) (s : σ), ¬ (m : Int) < n → out = .inl s → awp C nt x (Then (fun _ => False) K) ⟨E m s, H m s, st.next⟩) : awp C nt (.loop x) K st := by
  obtain ⟨hn, hl⟩ := forR_some hl
  refine awp_loop (ι := { p : Nat × σ // p.1 ≤ n.toNat ∧ forFrom f p.1 (n.toNat - p.1) p.2 = some out }) (fun p => ⟨E p.1.1 p.1.2, H p.1.1 p.1.2, st.next⟩) (fun p => n.toNat - p.1.1) ⟨(0, s0), Nat.zero_le _, hl⟩ (fun _ => Nat.le_refl _) h0 (Nat.le_refl _) ?_
  rintro ⟨⟨i, s⟩, hi, hf⟩
  simp only at hi hf
  rcases Nat.lt_or_ge i n.toNat with h | h
  · obtain ⟨k, hk⟩ : ∃ k, n.toNat - i = k + 1 := ⟨n.toNat - i - 1, by omega⟩
    rw [hk] at hf
    simp only [forFrom] at hf
    split at hf
    · cases hf
    · rename_i r hr
      cases hf
      refine awp_mono ?_ (body i s _ (by omega) (wrap_i64 (by omega) (by omega)) hr)
      intro e st' hK
      cases e with
      | normal => obtain ⟨s', h1, _⟩ := hK; cases h1
      | _ => obtain ⟨y, h1, h2⟩ := hK; cases h1; exact h2 rfl
    · rename_i s' hr
      refine awp_mono ?_ (body i s _ (by omega) (wrap_i64 (by omega) (by omega)) hr)
      intro e st' hK
      cases e with
      | normal =>
        obtain ⟨s'', h1, h2⟩ := hK
        cases h1
        exact ⟨⟨(i + 1, s'), h, by simp only; rw [show n.toNat - (i + 1) = k by omega]; exact hf⟩, by simp only; omega, h2⟩
      | _ => obtain ⟨y, h1, h2⟩ := hK; cases h1
  · obtain rfl : i = n.toNat := by omega
    simp only [Nat.sub_self, forFrom, Option.some.injEq] at hf
    refine awp_mono ?_ (last n.toNat s (by omega) hf.symm)
    intro e st' hK
    cases e with
    | normal => exact hK.elim
    | _ => exact hK

/-! Loops of any kind. -/
def iterN {σ ρ : Type} (f : σ → Option (σ ⊕ ρ)) : Nat → σ → Option ρ
  | 0, _ => none
  | k + 1, s => match f s with
    | none => none
    | some (.inr r) => some r
    | some (.inl s') => iterN f k s'

theorem iterN_mono {σ ρ : Type} {f : σ → Option (σ ⊕ ρ)} : ∀ {k : Nat} {s : σ} {r : ρ}, iterN f k s = some r → ∀ {k' : Nat}, k ≤ k' → iterN f k' s = some r
  | 0, _, _, h, _, _ => by cases h
  | k + 1, s, r, h, k', hk => by
    obtain ⟨m, rfl⟩ : ∃ m, k' = m + 1 := ⟨k' - 1, by omega⟩
    simp only [iterN] at h ⊢
    split at h
    · cases h
    · exact h
    · exact iterN_mono h (by omega)

open Classical in
noncomputable def iter {σ ρ : Type} (f : σ → Option (σ ⊕ ρ)) (s : σ) : Option ρ := if h : ∃ r, ∃ k, iterN f k s = some r then some h.choose else none

theorem iter_some {σ ρ : Type} {f : σ → Option (σ ⊕ ρ)} {s : σ} {r : ρ} : iter f s = some r ↔ ∃ k, iterN f k s = some r := by
  unfold iter
  split
  · rename_i h
    obtain ⟨k, hk⟩ := h.choose_spec
    simp only [Option.some.injEq]
    constructor
    · intro e; exact ⟨k, by rw [← e]; exact hk⟩
    · rintro ⟨k', hk'⟩
      have h1 := iterN_mono hk (Nat.le_max_left k k')
      have h2 := iterN_mono hk' (Nat.le_max_right k k')
      rw [h1] at h2; exact Option.some.inj h2
  · rename_i h
    constructor
    · intro e; cases e
    · rintro ⟨k, hk⟩; exact absurd ⟨r, k, hk⟩ h

theorem iter_eq {σ ρ : Type} (f : σ → Option (σ ⊕ ρ)) (s : σ) : iter f s = match f s with
    | none => none
    | some (.inr r) => some r
    | some (.inl s') => iter f s' := by
  apply Option.ext
  intro r
  rw [iter_some]
  constructor
  · rintro ⟨k, hk⟩
    cases k with
    | zero => cases hk
    | succ k =>
      simp only [iterN] at hk
      split at hk
      · cases hk
      · exact hk
      · exact iter_some.2 ⟨k, hk⟩
  · intro h
    split at h
    · cases h
    · rename_i e; exact ⟨1, by simp only [iterN, e]; exact h⟩
    · rename_i e
      obtain ⟨k, hk⟩ := iter_some.1 h
      exact ⟨k + 1, by simp only [iterN, e]; exact hk⟩

theorem awp_iter {C : Ctx} {nt : Nat} {x : ACode} {K : Exit → St → Prop} {st : St} {σ ρ : Type} {f : σ → Option (σ ⊕ ρ)} {s0 : σ} {out : ρ} (hl : iter f s0 = some out)
    (E : σ → List (Nat × AV)) (H : σ → List (Nat × AObj)) (h0 : Weak st ⟨E s0, H s0, st.next⟩)
    (body : ∀ (s : σ) (o : σ ⊕ ρ), f s = some o → awp C nt x (LoopK (fun s => ⟨E s, H s, st.next⟩) K (.inr out) o) ⟨E s, H s, st.next⟩) : awp C nt (.loop x) K st := by
  obtain ⟨k, hk⟩ := iter_some.1 hl
  refine awp_loop (ι := { p : Nat × σ // iterN f p.1 p.2 = some out }) (fun p => ⟨E p.1.2, H p.1.2, st.next⟩) (fun p => p.1.1) ⟨(k, s0), hk⟩ (fun _ => Nat.le_refl _) h0 (Nat.le_refl _) ?_
  rintro ⟨⟨i, s⟩, hf⟩
  simp only at hf
  cases i with
  | zero => cases hf
  | succ i =>
    simp only [iterN] at hf
    split at hf
    · cases hf
    · rename_i r hr
      cases hf
      refine awp_mono ?_ (body s _ hr)
      intro e st' hK
      cases e with
      | normal => obtain ⟨s', h1, _⟩ := hK; cases h1
      | _ => obtain ⟨y, h1, h2⟩ := hK; cases h1; exact h2 rfl
    · rename_i s' hr
      refine awp_mono ?_ (body s _ hr)
      intro e st' hK
      cases e with
      | normal => obtain ⟨s'', h1, h2⟩ := hK; cases h1; exact ⟨⟨(i, s'), hf⟩, by simp only; omega, h2⟩
      | _ => obtain ⟨y, h1, h2⟩ := hK; cases h1

theorem APure.start {C : Ctx} {f : Nat} {F : AFun} (hF : compFun C f = some F.erase) {args : List IV} {r : IV} (d : Nat) (hn : args.length ≤ F.nt)
    (h : awp C F.nt F.body (EndsR F.results (IsIV d r)) { env := argEnv 0 (args.map .imm), heap := [], next := 0 }) : APure C f args r := APure.of (d := d) (ACall.enter hF (by simpa using hn) (awp_mono (fun e st hk => by
      have key : ∀ {o : Option AV}, EndK (IsIV d r) st.heap st.next o → ∃ x, o = some x ∧ IsIV d r x st.heap st.next := fun {o} ho => by
        cases o with
        | none => exact ho.elim
        | some x => exact ⟨x, rfl, ho⟩
      cases e with
      | ret => exact ⟨.inl rfl, key hk⟩
      | normal => exact ⟨.inr rfl, key hk⟩
      | _ => exact hk.elim) h))

end Go.Proofs.Ytgligibbgobmnaa
namespace Go.Proofs.Ytgligibbgobmnaa
open Go.RowKit
set_option linter.unusedVariables false
set_option linter.unusedSimpArgs false

def rowI (n : Int) : List IV := [.int .i64 n]
def rowK (k : IntKind) (n : Int) : List IV := [.int k n]
def rowB (b : Bool) : List IV := [.bool b]
def rowS (s : ByteArray) : List IV := [.str s]
def rowL {α : Type} (f : α → List IV) (l : List α) : List IV := [.slice (l.map f)]
def rowA (r : List IV) : List AV := r.map .imm
abbrev vI (n : Int) : AV := .imm (.int .i64 n)
abbrev vB (b : Bool) : AV := .imm (.bool b)

theorem cond_t {α : Type} {b : Bool} {x y r : α} (g : b = true) (h : (bif b then x else y) = r) : x = r := by subst g; exact h
theorem cond_f {α : Type} {b : Bool} {x y r : α} (g : b = false) (h : (bif b then x else y) = r) : y = r := by subst g; exact h
theorem awp_ifT {C : Ctx} {nt : Nat} {c : Opd} {x y : ACode} {K : Exit → St → Prop} {st : St} (hc : evEnv st.env c = .imm (.bool true)) (h1 : awp C nt x K st) : awp C nt (.cond c x y) K st :=
  awp_cond true hc (fun _ => h1) (fun h => by cases h)
theorem awp_ifF {C : Ctx} {nt : Nat} {c : Opd} {x y : ACode} {K : Exit → St → Prop} {st : St} (hc : evEnv st.env c = .imm (.bool false)) (h1 : awp C nt y K st) : awp C nt (.cond c x y) K st :=
  awp_cond false hc (fun h => by cases h) (fun _ => h1)

theorem then_x {n : St → Prop} {K : Exit → St → Prop} {id : Nat} {st : St} (h : K (.exit id) st) : Then n K (.exit id) st := h
theorem then_n {n : St → Prop} {K : Exit → St → Prop} {st : St} (h : n st) : Then n K .normal st := h
theorem inb_n {id : Nat} {K : Exit → St → Prop} {st : St} (h : K .normal st) : InBlock id K .normal st := h
def slcI {α : Type} (l : List α) (a b : Int) : Option (List α) := if 0 ≤ a ∧ a ≤ b ∧ b ≤ (l.length : Int) then some ((l.take b.toNat).drop a.toNat) else none
theorem slcI_some {α : Type} {l : List α} {a b : Int} {e : List α} (h : slcI l a b = some e) : 0 ≤ a ∧ a ≤ b ∧ b ≤ (l.length : Int) ∧ (l.take b.toNat).drop a.toNat = e := by
  unfold slcI at h; split at h
  · rename_i hh; exact ⟨hh.1, hh.2.1, hh.2.2, Option.some.inj h⟩
  · cases h
def remI (k : IntKind) (a b : Int) : Option Int := if b = 0 then none else some (a.tmod b)
theorem remI_some {k : IntKind} {a b e : Int} (h : remI k a b = some e) : ¬ b = 0 ∧ a.tmod b = e := by
  unfold remI at h; split at h
  · cases h
  · exact ⟨‹_›, Option.some.inj h⟩

attribute [simp] bne evalOp cellsOf binIV lenOfAV looks toIV noMut putCells fillCells fillRows aggIV leafIV cellsEq cellEqK rowsOf rowsAV okAt addAt upIds readIds opOpds topId bef Nat.testBit mutIds avBelow avB1 leafBelow objBelow
attribute [simp] rowI rowK rowB rowS rowL rowA

end Go.Proofs.Ytgligibbgobmnaa
