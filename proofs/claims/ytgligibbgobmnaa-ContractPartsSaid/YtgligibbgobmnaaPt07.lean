/-
  'ContractParts': for every input the call returns true, and each argument reads afterwards as it read before.
  The law 'ContractParts', of what the functions come to.
  What 'contract.Components' and 'contract.Linked' come to.
  What 'contract.Components' and the law's 'part' come to.
  What 'slices.BinarySearch' and 'contract.Part' come to.
  Trees of clauses: what 'root', 'join' and 'gather' of package contract come to.
  Plain laws: loops over lists, loops that set one place after the other, increasing lists.
  Plain laws: what a computation returns, and loops that build lists.
  Laws that the statements of layer 13 share: 'Few', and sizes of arguments.
  The laws' fixed examples: 'head' returns true.
  What 'contract.Valid' comes to.
  Plain laws about loops, searches and elements of lists.
  From readings to the data of this program's types.
  From data of the abstract machine to typed data.
  A law that holds of all plain data of its types is the row's contract: whatever the arguments, the call returns true, and each argument reads as it read before.
-/
import Derived.Test.YtgligibbgobmnaaPt06
import Derived.OpenShut
import Derived.Test.YtgligibbgobmnaaPt03
import Derived.Test.YtgligibbgobmnaaPt05
import Derived.Test.YtgligibbgobmnaaPt04
import Derived.Test.YtgligibbgobmnaaRows
import Derived.JoinedOf
namespace Go.Proofs.Ytgligibbgobmnaa
open Go.RowKit Go.ChangeShapes Go.WideShapes
set_option linter.unusedVariables false
set_option linter.unusedSimpArgs false

def argC (P : Program) (t : TypeId) : Option (Bool × List CTy) := match P.underlying t with
  | some (.struct _) => match ctys P 12 t with
    | some r => some (true, r)
    | none => none
  | some (.array _ _) => none
  | _ => match ctys P 12 t with
    | some r => some (false, r)
    | none => none

def HasArg : Bool × List CTy → IV → Prop
  | (true, tys), x => ∃ row, x = .agg row ∧ HasCs tys row
  | (false, tys), x => HasCs tys [x]

def HasArgs : List (Bool × List CTy) → List IV → Prop
  | [], [] => True
  | a :: tas, x :: xs => HasArg a x ∧ HasArgs tas xs
  | _, _ => False

section
variable {H : Type} {enc : TypeId × Value → H} {P : Program} {w : World}

theorem arg_open {base : Nat} {t : TypeId} {v : Value} {d : DataW H} {ps : List MemPlace} {a : Bool × List CTy} (ha : argC P t = some a) (hval : Value.okWide P w .any base t v)
    (h : DataW.Trod enc P w 0 (fun _ => true) true t v d ps) (hw : (d.weights P t).all (· ≤ reachBytes) = true) : ∃ x, RI (zOf w) w x v ∧ HasArg a x := by
  obtain ⟨fuel, hf⟩ := h
  unfold argC at ha
  split at ha
  · rename_i fs hu
    split at ha
    case h_2 => cases ha
    rename_i r hr
    cases ha
    simp only [Value.okWide, hu] at hval
    obtain ⟨cs, rfl, _, _⟩ := hval
    obtain ⟨row, h1, h2, h3⟩ := trod_got 12 fuel t _ d ps r hr hf hw
    refine ⟨.agg row, ?_, row, rfl, h2⟩
    have := RI.agg (Z := zOf w) (w := w) row cs.toList (by simpa [Value.cells] using h1.1) (fun v hv => h3 v (by simpa [Value.cells] using hv)) (fun i c v hc hv => h1.2 i c v hc (by simpa [Value.cells] using hv))
    simpa using this
  · cases ha
  · rename_i hns hna
    split at ha
    case h_2 => cases ha
    rename_i r hr
    cases ha
    have hone : v.oneCell' = true := by
      have hc : Cell.okWide P w .any base t v := by
        unfold Value.okWide at hval
        split at hval
        · rename_i fs hu; exact absurd hu (hns fs)
        · rename_i k e hu; exact absurd hu (hna k e)
        · exact hval
      cases v <;> first | rfl | (exfalso; revert hc; unfold Cell.okWide Cell.ok; cases P.underlying t with
        | none => simp
        | some u => cases u <;> simp)
    have hcs : v.cells.toList = [v] := by cases v <;> first | rfl | simp [Value.oneCell'] at hone
    obtain ⟨row, h1, h2, h3⟩ := trod_got 12 fuel t _ d ps r hr hf hw
    rw [hcs] at h1
    obtain ⟨x, rfl⟩ : ∃ x, row = [x] := List.length_eq_one_iff.1 (by simpa using h1.1)
    exact ⟨x, h1.2 0 x v rfl rfl, h2⟩

theorem args_open {base : Nat} : ∀ {ts : List TypeId} {vs : List Value} {ds : List (DataW H)} {ps : List MemPlace} {tas : List (Bool × List CTy)}, mapO (argC P) ts = some tas →
    (∀ (j : Nat) t v, ts[j]? = some t → vs[j]? = some v → Value.okWide P w .any base t v) → DataW.TrodAll enc P w 0 (fun _ => true) true ts vs ds ps → (DataW.weightsEach P ts ds).all (· ≤ reachBytes) = true →
    ∃ ivs, RCs (zOf w) w ivs vs ∧ HasArgs tas ivs
  | [], vs, ds, ps, tas, ha, hval, h, hw => by
    obtain ⟨rfl, rfl, rfl⟩ := trodAll_nil h
    simp [mapO] at ha; subst ha
    exact ⟨[], ⟨rfl, fun j c u hc => by simp at hc⟩, trivial⟩
  | t :: ts, vs, ds, ps, tas, ha, hval, h, hw => by
    obtain ⟨v, vs1, d, ds1, a, b, rfl, rfl, rfl, h1, h2⟩ := trodAll_cons h
    simp only [mapO] at ha
    split at ha
    case h_2 => cases ha
    rename_i a1 ha1
    split at ha
    case h_2 => cases ha
    rename_i as1 has1
    cases ha
    simp only [DataW.weightsEach, List.all_append, Bool.and_eq_true] at hw
    obtain ⟨x, g1, g2⟩ := arg_open ha1 (hval 0 t v rfl rfl) h1 hw.1
    obtain ⟨xs, g3, g4⟩ := args_open has1 (fun j t v hj hv => hval (j + 1) t v (by simpa using hj) (by simpa using hv)) h2 hw.2
    exact ⟨x :: xs, RCs.app (.one g1) g3, g2, g4⟩

theorem trodAll_len {ts : List TypeId} : ∀ {vs : List Value} {ds : List (DataW H)} {ps : List MemPlace}, DataW.TrodAll enc P w 0 (fun _ => true) true ts vs ds ps → ds.length = ts.length := by
  induction ts with
  | nil => intro vs ds ps h; obtain ⟨rfl, rfl, rfl⟩ := trodAll_nil h; rfl
  | cons t ts ih =>
    intro vs ds ps h
    obtain ⟨v, vs1, d, ds1, a, b, rfl, rfl, rfl, h1, h2⟩ := trodAll_cons h
    simp [ih h2]

theorem below_all {W' : World} (hl : laidOutB P = true) (hb : Below w.heap.size w W') : ∀ {ts : List TypeId} {vs : List Value} {ds : List (DataW H)} {ps : List MemPlace}, (∀ t ∈ ts, P.readableRec t = true ∧ t < P.types.size) →
    DataW.TrodAll enc P w 0 (fun _ => true) true ts vs ds ps → ∀ sp : Nat → Bool, (∀ p ∈ ps, p.block < w.heap.size ∧ sp p.block = true) → DataW.TrodAll enc P W' 0 sp true ts vs ds ps
  | [], vs, ds, ps, hr, h, sp, hlt => by
    obtain ⟨rfl, rfl, rfl⟩ := trodAll_nil h; rfl
  | t :: ts, vs, ds, ps, hr, h, sp, hlt => by
    obtain ⟨v, vs1, d, ds1, a, b, rfl, rfl, rfl, h1, h2⟩ := trodAll_cons h
    have ht := hr t (List.mem_cons_self ..)
    exact ⟨a, b, WideElems.Trod_stays hl ht.1 ht.2 h1 (fun x hx => hb.same (hlt x (List.mem_append_left _ hx)).1) (fun x hx => (hlt x (List.mem_append_left _ hx)).2),
      below_all hl hb (fun t ht => hr t (List.mem_cons_of_mem _ ht)) h2 sp (fun p hp => hlt p (List.mem_append_right _ hp)), rfl⟩
end

theorem post_below {H : Type} {enc : TypeId × Value → H} {P : Program} {f : Func} {s : ChangeSpec} {apart fresh handsOn again : Bool} {W W' : World} {args : Array Value} {v : Value} {ds : List (DataW H)} {before : List MemPlace}
    (hW : DataW.Whole enc P f.params.toList s.vars apart W args.toList ds [] before)
    (hres : ∀ (b : Nat) (sp : Nat → Bool) (hd : Bool), DataW.TrodAll enc P W' b sp hd f.resultTypes.toList (v.resultList f.resultTypes.size) (s.fn H (ds ++ [])).results [])
    (hargs : ∀ sp : Nat → Bool, (∀ p ∈ before, sp p.block = true) → DataW.TrodAll enc P W' 0 sp true f.params.toList args.toList (s.fn H (ds ++ [])).args before)
    (hvars : ∀ sp : Nat → Bool, DataW.TrodVars enc P W' sp s.vars (s.fn H (ds ++ [])).vars [])
    (hk : Below W.heap.size W W')
    (hok : ∀ (j : Nat) (t : TypeId) (r : Value), f.resultTypes[j]? = some t → (v.resultList f.resultTypes.size)[j]? = some r → Value.okWide P W' .any 0 t r) :
    s.post enc P f apart fresh handsOn again W args v W' := by
  have hlt : ∀ p ∈ before, p.block < W.heap.size := fun p hp => hW.lt p hp
  have hold : ∀ p ∈ before, (fun b => decide (b < W.heap.size)) p.block = true := fun p hp => by simpa using hlt p hp
  refine ⟨ds, [], before, [], before, [], hW, hres _ _ _, hargs _ hold, hvars _, hk.frame _, fun _ => ?_⟩
  obtain ⟨_, _, _, _, _, hz, hn⟩ := hW
  refine ⟨hok, _, _, ([] ++ before) ++ [], ⟨[] ++ before, [], trodAll_append (hargs _ (fun _ _ => rfl)) (hres _ _ _), hvars _, rfl, ?_, ?_⟩, ?_⟩
  · intro b off hp
    have hp' : MemPlace.cell b off ∈ before := by simpa using hp
    rw [hk.frozen (p := ⟨b, off, none⟩) (hlt _ hp')]
    exact hz b off hp'
  · intro ha
    simpa using hn ha
  · intro p hp _
    simpa using hp

theorem law_contract {H : Type} {enc : TypeId × Value → H} {Cx : Ctx} {f : FuncId} {fn : Func} {s : ChangeSpec} {tb : TypeId} {tas : List (Bool × List CTy)} {apart fresh handsOn again : Bool} (n : Nat) (hn : Cx.fnum n = f)
    (has : mapO (argC Cx.P) fn.params.toList = some tas) (hres : fn.resultTypes = #[tb]) (htb : Cx.P.underlying tb = some .bool) (hvars : s.vars = [])
    (hsp : ∀ ds : List (DataW H), ds.length = fn.params.toList.length → s.fn H (ds ++ []) = { results := [.lit (.bool true)], args := ds })
    (hlaid : laidOutB Cx.P = true) (hread : (fn.params.toList.all fun t => Cx.P.readableRec t && decide (t < Cx.P.types.size)) = true)
    (hlaw : ∀ ivs, HasArgs tas ivs → APure Cx n ivs (.bool true))
    (W : World) (base : Nat) (args : Array Value) (ds gs : List (DataW H)) (before : List MemPlace)
    (hval : ∀ (j : Nat) t v, fn.params[j]? = some t → args[j]? = some v → Value.okWide Cx.P W .any base t v)
    (hW : DataW.Whole enc Cx.P fn.params.toList s.vars apart W args.toList ds gs before)
    (hwt : (DataW.weightsEach Cx.P (fn.params.toList ++ s.plain.varTypes Cx.P) (ds ++ gs)).all (· ≤ reachBytes) = true) :
    Calls Cx.P f args W fun e W' => ∃ v, e = .returned v ∧ s.post enc Cx.P fn apart fresh handsOn again W args v W' := by
  have hW' := hW
  obtain ⟨p, q, hA, hV, rfl, hfz, hnd⟩ := hW
  rw [hvars] at hV
  obtain ⟨rfl, rfl⟩ := trodVars_none hV
  have hvt : s.plain.varTypes Cx.P = [] := by
    have : s.plain.vars = [] := hvars
    simp [DataSpec.varTypes, this]
  rw [hvt, List.append_nil, List.append_nil] at hwt
  obtain ⟨ivs, h1, h2⟩ := args_open has (fun j t v hj hv => hval j t v (by simpa using hj) (by simpa using hv)) hA hwt
  subst hn
  have hcall := (hlaw ivs h2).2 (zOf W) W args.toList (fun b hb => zOf_lt hb) h1
  simp only [Array.toArray_toList] at hcall
  refine hcall.mono fun e W' ⟨v, Z', he, hr, _, _, hbel⟩ => ?_
  subst he
  cases hr
  have hlt : ∀ x ∈ p ++ [], x.block < W.heap.size := fun x hx => by simpa using hW'.lt x hx
  have hspec := hsp ds (trodAll_len hA)
  simp only [List.append_nil] at hW' hlt
  refine ⟨_, rfl, post_below hW' ?_ ?_ ?_ hbel ?_⟩
  · intro b sp hd
    rw [hspec, hres]
    exact trodAll_cons_mk (shut_bool htb _) trodAll_mk0
  · intro sp hsp'
    rw [hspec]
    exact below_all hlaid hbel (fun t ht => by have := List.all_eq_true.1 hread t ht; simpa using this) hA sp (fun x hx => ⟨hlt x hx, hsp' x hx⟩)
  · intro sp
    rw [hspec, hvars]; rfl
  · exact ok_one hres rfl (okWide_bool_mk htb _)

end Go.Proofs.Ytgligibbgobmnaa
namespace Go.Proofs.Ytgligibbgobmnaa
open Go.RowKit
set_option linter.unusedVariables false

def InK (k : IntKind) (n : Int) : Prop := k.min ≤ n ∧ n ≤ k.max
def LOk {α : Type} (by_ : Nat) (Ok : α → Prop) (l : List α) : Prop := l.length * by_ ≤ reachBytes ∧ ∀ x ∈ l, Ok x

theorem hcs_cons {t : CTy} {ts : List CTy} {row : List IV} (h : HasCs (t :: ts) row) : ∃ c r, row = c :: r ∧ HasC t c ∧ HasCs ts r := by
  obtain ⟨hl, hc⟩ := h
  cases row with
  | nil => simp at hl
  | cons c r => exact ⟨c, r, rfl, hc 0 t c rfl rfl, by simpa using hl, fun i u d hu hd => hc (i + 1) u d (by simpa using hu) (by simpa using hd)⟩
theorem hcs_nil {row : List IV} (h : HasCs [] row) : row = [] := List.eq_nil_of_length_eq_zero h.1
theorem hasC_int {k : IntKind} {x : IV} (h : HasC (.int k) x) : ∃ n, x = .int k n ∧ InK k n := by cases h; exact ⟨_, rfl, by assumption⟩
theorem hasC_bool {x : IV} (h : HasC .bool x) : ∃ b, x = .bool b := by cases h; exact ⟨_, rfl⟩
theorem hasC_str {x : IV} (h : HasC .str x) : ∃ s, x = .str s ∧ s.size ≤ reachBytes := by cases h; exact ⟨_, rfl, by assumption⟩

theorem rows_open {α : Type} {f : α → List IV} {Ok : α → Prop} {tys : List CTy} (ho : ∀ {row : List IV}, HasCs tys row → ∃ x, row = f x ∧ Ok x) :
    ∀ rows : List (List IV), (∀ row ∈ rows, HasCs tys row) → ∃ l : List α, rows = l.map f ∧ ∀ x ∈ l, Ok x
  | [], _ => ⟨[], rfl, fun x hx => by cases hx⟩
  | row :: rows, h => by
    obtain ⟨x, rfl, hx⟩ := ho (h row (List.mem_cons_self ..))
    obtain ⟨l, rfl, hl⟩ := rows_open ho rows fun r hr => h r (List.mem_cons_of_mem _ hr)
    exact ⟨x :: l, rfl, fun y hy => by
      rcases List.mem_cons.1 hy with rfl | hy
      · exact hx
      · exact hl y hy⟩

theorem hasC_slice {α : Type} {f : α → List IV} {Ok : α → Prop} {tys : List CTy} {by_ : Nat} {x : IV} (ho : ∀ {row : List IV}, HasCs tys row → ∃ x, row = f x ∧ Ok x) (h : HasC (.slice by_ tys) x) :
    ∃ l : List α, x = .slice (l.map f) ∧ LOk by_ Ok l := by
  cases h with
  | slice _ _ rows hl hr hc =>
    obtain ⟨l, rfl, hk⟩ := rows_open ho rows fun row h => ⟨hr row h, hc row h⟩
    exact ⟨l, rfl, by simpa using hl, hk⟩

theorem open_i64 {row : List IV} (h : HasCs [.int .i64] row) : ∃ x : Int, row = rowI x ∧ InK .i64 x := by
  obtain ⟨c, _, rfl, h0, h⟩ := hcs_cons h
  obtain rfl := hcs_nil h
  obtain ⟨n, rfl, k⟩ := hasC_int h0
  exact ⟨n, rfl, k⟩
end Go.Proofs.Ytgligibbgobmnaa
namespace Go.Proofs.Ytgligibbgobmnaa
open Go.RowKit
set_option linter.unusedVariables false

def Ratio.tys : List CTy := [.int .i64, .int .i64]
structure Ratio.Ok (x : Ratio) : Prop where
  num : InK .i64 x.num
  den : InK .i64 x.den
theorem Ratio.opn {row : List IV} (h : HasCs Ratio.tys row) : ∃ x : Ratio, row = Ratio.row x ∧ Ratio.Ok x := by
  obtain ⟨c0, _, rfl, h0, h⟩ := hcs_cons h
  obtain ⟨c1, _, rfl, h1, h⟩ := hcs_cons h
  obtain rfl := hcs_nil h
  obtain ⟨v0, rfl, k0⟩ := hasC_int h0
  obtain ⟨v1, rfl, k1⟩ := hasC_int h1
  exact ⟨⟨v0, v1⟩, rfl, ⟨k0, k1⟩⟩

def UnitT.tys : List CTy := [.str, .int .i64, .int .i64, .int .i64, .int .i64]
structure UnitT.Ok (x : UnitT) : Prop where
  name : x.name.size ≤ reachBytes
  kind : InK .i64 x.kind
  base : InK .i64 x.base
  factor : Ratio.Ok x.factor
theorem UnitT.opn {row : List IV} (h : HasCs UnitT.tys row) : ∃ x : UnitT, row = UnitT.row x ∧ UnitT.Ok x := by
  obtain ⟨c0, _, rfl, h0, h⟩ := hcs_cons h
  obtain ⟨c1, _, rfl, h1, h⟩ := hcs_cons h
  obtain ⟨c2, _, rfl, h2, h⟩ := hcs_cons h
  obtain ⟨c3, _, rfl, h3, h⟩ := hcs_cons h
  obtain ⟨c4, _, rfl, h4, h⟩ := hcs_cons h
  obtain rfl := hcs_nil h
  obtain ⟨v0, rfl, k0⟩ := hasC_str h0
  obtain ⟨v1, rfl, k1⟩ := hasC_int h1
  obtain ⟨v2, rfl, k2⟩ := hasC_int h2
  obtain ⟨v3, rfl, k3⟩ := hasC_int h3
  obtain ⟨v4, rfl, k4⟩ := hasC_int h4
  exact ⟨⟨v0, v1, v2, ⟨v3, v4⟩⟩, rfl, ⟨k0, k1, k2, ⟨k3, k4⟩⟩⟩

def ActT.tys : List CTy := [.int .i64, .int .i64, .int .i64, .int .i64, .int .i64, .int .i64, .int .i64]
structure ActT.Ok (x : ActT) : Prop where
  kind : InK .i64 x.kind
  role : InK .i64 x.role
  give : InK .i64 x.give
  to : InK .i64 x.to
  unit : InK .i64 x.unit
  lot : Ratio.Ok x.lot
theorem ActT.opn {row : List IV} (h : HasCs ActT.tys row) : ∃ x : ActT, row = ActT.row x ∧ ActT.Ok x := by
  obtain ⟨c0, _, rfl, h0, h⟩ := hcs_cons h
  obtain ⟨c1, _, rfl, h1, h⟩ := hcs_cons h
  obtain ⟨c2, _, rfl, h2, h⟩ := hcs_cons h
  obtain ⟨c3, _, rfl, h3, h⟩ := hcs_cons h
  obtain ⟨c4, _, rfl, h4, h⟩ := hcs_cons h
  obtain ⟨c5, _, rfl, h5, h⟩ := hcs_cons h
  obtain ⟨c6, _, rfl, h6, h⟩ := hcs_cons h
  obtain rfl := hcs_nil h
  obtain ⟨v0, rfl, k0⟩ := hasC_int h0
  obtain ⟨v1, rfl, k1⟩ := hasC_int h1
  obtain ⟨v2, rfl, k2⟩ := hasC_int h2
  obtain ⟨v3, rfl, k3⟩ := hasC_int h3
  obtain ⟨v4, rfl, k4⟩ := hasC_int h4
  obtain ⟨v5, rfl, k5⟩ := hasC_int h5
  obtain ⟨v6, rfl, k6⟩ := hasC_int h6
  exact ⟨⟨v0, v1, v2, v3, v4, ⟨v5, v6⟩⟩, rfl, ⟨k0, k1, k2, k3, k4, ⟨k5, k6⟩⟩⟩

def CondT.tys : List CTy := [.int .i64, .int .i64]
structure CondT.Ok (x : CondT) : Prop where
  clause : InK .i64 x.clause
  is : InK .i64 x.is
theorem CondT.opn {row : List IV} (h : HasCs CondT.tys row) : ∃ x : CondT, row = CondT.row x ∧ CondT.Ok x := by
  obtain ⟨c0, _, rfl, h0, h⟩ := hcs_cons h
  obtain ⟨c1, _, rfl, h1, h⟩ := hcs_cons h
  obtain rfl := hcs_nil h
  obtain ⟨v0, rfl, k0⟩ := hasC_int h0
  obtain ⟨v1, rfl, k1⟩ := hasC_int h1
  exact ⟨⟨v0, v1⟩, rfl, ⟨k0, k1⟩⟩

def ClauseT.tys : List CTy := [.int .i64, .int .i64, .int .i64, .int .i64, .slice 16 CondT.tys, .int .i64, .int .i64, .bool, .bool, .int .i64, .int .i64, .int .i64, .int .i64, .int .i64, .int .i64, .bool]
structure ClauseT.Ok (x : ClauseT) : Prop where
  kind : InK .i64 x.kind
  role : InK .i64 x.role
  act : InK .i64 x.act
  need : InK .i64 x.need
  start : LOk 16 CondT.Ok x.start
  after : InK .i64 x.after
  grace : InK .i64 x.grace
  pause : InK .i64 x.pause
  resume : InK .i64 x.resume
  value : Ratio.Ok x.value
  unit : InK .i64 x.unit
  to : InK .i64 x.to
theorem ClauseT.opn {row : List IV} (h : HasCs ClauseT.tys row) : ∃ x : ClauseT, row = ClauseT.row x ∧ ClauseT.Ok x := by
  obtain ⟨c0, _, rfl, h0, h⟩ := hcs_cons h
  obtain ⟨c1, _, rfl, h1, h⟩ := hcs_cons h
  obtain ⟨c2, _, rfl, h2, h⟩ := hcs_cons h
  obtain ⟨c3, _, rfl, h3, h⟩ := hcs_cons h
  obtain ⟨c4, _, rfl, h4, h⟩ := hcs_cons h
  obtain ⟨c5, _, rfl, h5, h⟩ := hcs_cons h
  obtain ⟨c6, _, rfl, h6, h⟩ := hcs_cons h
  obtain ⟨c7, _, rfl, h7, h⟩ := hcs_cons h
  obtain ⟨c8, _, rfl, h8, h⟩ := hcs_cons h
  obtain ⟨c9, _, rfl, h9, h⟩ := hcs_cons h
  obtain ⟨c10, _, rfl, h10, h⟩ := hcs_cons h
  obtain ⟨c11, _, rfl, h11, h⟩ := hcs_cons h
  obtain ⟨c12, _, rfl, h12, h⟩ := hcs_cons h
  obtain ⟨c13, _, rfl, h13, h⟩ := hcs_cons h
  obtain ⟨c14, _, rfl, h14, h⟩ := hcs_cons h
  obtain ⟨c15, _, rfl, h15, h⟩ := hcs_cons h
  obtain rfl := hcs_nil h
  obtain ⟨v0, rfl, k0⟩ := hasC_int h0
  obtain ⟨v1, rfl, k1⟩ := hasC_int h1
  obtain ⟨v2, rfl, k2⟩ := hasC_int h2
  obtain ⟨v3, rfl, k3⟩ := hasC_int h3
  obtain ⟨v4, rfl, k4⟩ := hasC_slice @CondT.opn h4
  obtain ⟨v5, rfl, k5⟩ := hasC_int h5
  obtain ⟨v6, rfl, k6⟩ := hasC_int h6
  obtain ⟨v7, rfl⟩ := hasC_bool h7
  obtain ⟨v8, rfl⟩ := hasC_bool h8
  obtain ⟨v9, rfl, k9⟩ := hasC_int h9
  obtain ⟨v10, rfl, k10⟩ := hasC_int h10
  obtain ⟨v11, rfl, k11⟩ := hasC_int h11
  obtain ⟨v12, rfl, k12⟩ := hasC_int h12
  obtain ⟨v13, rfl, k13⟩ := hasC_int h13
  obtain ⟨v14, rfl, k14⟩ := hasC_int h14
  obtain ⟨v15, rfl⟩ := hasC_bool h15
  exact ⟨⟨v0, v1, v2, v3, v4, v5, v6, v7, v8, v9, v10, ⟨v11, v12⟩, v13, v14, v15⟩, rfl, ⟨k0, k1, k2, k3, k4, k5, k6, k9, k10, ⟨k11, k12⟩, k13, k14⟩⟩

def ContractT.tys : List CTy := [.int .i64, .slice 8 [.int .i64], .slice 48 UnitT.tys, .slice 56 ActT.tys, .slice 136 ClauseT.tys, .int .i64, .slice 8 [.int .i64]]
structure ContractT.Ok (x : ContractT) : Prop where
  parties : InK .i64 x.parties
  holders : LOk 8 (fun x : Int => InK .i64 x) x.holders
  units : LOk 48 UnitT.Ok x.units
  acts : LOk 56 ActT.Ok x.acts
  clauses : LOk 136 ClauseT.Ok x.clauses
  days : InK .i64 x.days
  off : LOk 8 (fun x : Int => InK .i64 x) x.off
theorem ContractT.opn {row : List IV} (h : HasCs ContractT.tys row) : ∃ x : ContractT, row = ContractT.row x ∧ ContractT.Ok x := by
  obtain ⟨c0, _, rfl, h0, h⟩ := hcs_cons h
  obtain ⟨c1, _, rfl, h1, h⟩ := hcs_cons h
  obtain ⟨c2, _, rfl, h2, h⟩ := hcs_cons h
  obtain ⟨c3, _, rfl, h3, h⟩ := hcs_cons h
  obtain ⟨c4, _, rfl, h4, h⟩ := hcs_cons h
  obtain ⟨c5, _, rfl, h5, h⟩ := hcs_cons h
  obtain ⟨c6, _, rfl, h6, h⟩ := hcs_cons h
  obtain rfl := hcs_nil h
  obtain ⟨v0, rfl, k0⟩ := hasC_int h0
  obtain ⟨v1, rfl, k1⟩ := hasC_slice open_i64 h1
  obtain ⟨v2, rfl, k2⟩ := hasC_slice @UnitT.opn h2
  obtain ⟨v3, rfl, k3⟩ := hasC_slice @ActT.opn h3
  obtain ⟨v4, rfl, k4⟩ := hasC_slice @ClauseT.opn h4
  obtain ⟨v5, rfl, k5⟩ := hasC_int h5
  obtain ⟨v6, rfl, k6⟩ := hasC_slice open_i64 h6
  exact ⟨⟨v0, v1, v2, v3, v4, v5, v6⟩, rfl, ⟨k0, k1, k2, k3, k4, k5, k6⟩⟩

end Go.Proofs.Ytgligibbgobmnaa
namespace Go.Proofs.Ytgligibbgobmnaa
set_option linter.unusedVariables false
set_option linter.unusedSimpArgs false

def OutP {σ ρ : Type} (A : σ → Prop) (Q : ρ → Prop) : σ ⊕ ρ → Prop
  | .inl s => A s
  | .inr r => Q r

theorem forFrom_rule {σ ρ : Type} {f : Nat → σ → Option (σ ⊕ ρ)} {Inv : Nat → σ → Prop} {Q : ρ → Prop} (n : Nat)
    (step : ∀ (i : Nat) (s : σ), i < n → Inv i s → ∃ o, f i s = some o ∧ OutP (Inv (i + 1)) Q o) :
    ∀ (k i : Nat) (s : σ), i + k = n → Inv i s → ∃ o, forFrom f i k s = some o ∧ OutP (Inv n) Q o
  | 0, i, s, h, hi => ⟨.inl s, rfl, by obtain rfl : i = n := by omega
                                       exact hi⟩
  | k + 1, i, s, h, hi => by
    obtain ⟨o, h1, h2⟩ := step i s (by omega) hi
    simp only [forFrom, h1]
    cases o with
    | inl s' => exact forFrom_rule n step k (i + 1) s' (by omega) h2
    | inr r => exact ⟨.inr r, rfl, h2⟩

theorem forR_rule {σ ρ : Type} {f : Nat → σ → Option (σ ⊕ ρ)} {n : Int} {s0 : σ} (Inv : Nat → σ → Prop) (Q : ρ → Prop) (hn : n < 4611686018427387904)
    (h0 : Inv 0 s0) (step : ∀ (i : Nat) (s : σ), (i : Int) < n → Inv i s → ∃ o, f i s = some o ∧ OutP (Inv (i + 1)) Q o) :
    ∃ o, forR n f s0 = some o ∧ OutP (Inv n.toNat) Q o := by
  rw [forR_pos hn]
  exact forFrom_rule n.toNat (fun i s hi => step i s (by omega)) n.toNat 0 s0 (by omega) h0

theorem forR_ruleL {σ ρ : Type} {f : Nat → σ → Option (σ ⊕ ρ)} {n : Nat} {s0 : σ} (Inv : Nat → σ → Prop) (Q : ρ → Prop) (hn : n < 4611686018427387904)
    (h0 : Inv 0 s0) (step : ∀ (i : Nat) (s : σ), i < n → Inv i s → ∃ o, f i s = some o ∧ OutP (Inv (i + 1)) Q o) :
    ∃ o, forR (n : Int) f s0 = some o ∧ OutP (Inv n) Q o := by
  have := forR_rule (n := (n : Int)) Inv Q (by omega) h0 (fun i s hi => step i s (by omega))
  simpa using this

theorem iter_rule {σ ρ : Type} {f : σ → Option (σ ⊕ ρ)} (Inv : σ → Prop) (Q : ρ → Prop) (m : σ → Nat)
    (step : ∀ s, Inv s → ∃ o, f s = some o ∧ OutP (fun s' => Inv s' ∧ m s' < m s) Q o) : ∀ s0, Inv s0 → ∃ r, iter f s0 = some r ∧ Q r := by
  have key : ∀ (k : Nat) (s : σ), m s < k → Inv s → ∃ r, iter f s = some r ∧ Q r := by
    intro k
    induction k with
    | zero => intro s h; omega
    | succ k ih =>
      intro s hk hs
      obtain ⟨o, h1, h2⟩ := step s hs
      rw [iter_eq, h1]
      cases o with
      | inl s' => exact ih s' (by have := h2.2; omega) h2.1
      | inr r => exact ⟨r, rfl, h2⟩
  exact fun s0 h => key _ s0 (Nat.lt_succ_self _) h

theorem forFrom_first {ρ : Type} {f : Nat → Unit → Option (Unit ⊕ ρ)} {p : Nat → Bool} {g : Nat → ρ} : ∀ (k i : Nat), (∀ j, i ≤ j → j < i + k → f j () = some (bif p j then .inl () else .inr (g j))) →
    forFrom f i k () = some (match (List.range' i k).find? (fun j => !p j) with | none => .inl () | some j => .inr (g j))
  | 0, i, h => rfl
  | k + 1, i, h => by
    simp only [forFrom, h i (Nat.le_refl _) (by omega), List.range'_succ, List.find?_cons]
    cases hp : p i with
    | true =>
      simp only [cond_true, Bool.not_true]
      exact forFrom_first k (i + 1) fun j h1 h2 => h j (by omega) (by omega)
    | false => simp

theorem forR_first {ρ : Type} {f : Nat → Unit → Option (Unit ⊕ ρ)} {n : Nat} (p : Nat → Bool) (g : Nat → ρ) (hn : n < 4611686018427387904) (h : ∀ j, j < n → f j () = some (bif p j then .inl () else .inr (g j))) :
    forR (n : Int) f () = some (match (List.range n).find? (fun j => !p j) with | none => .inl () | some j => .inr (g j)) := by
  rw [forR_pos (by omega)]
  have := forFrom_first (f := f) (p := p) (g := g) n 0 (fun j _ h2 => h j (by omega))
  simpa [List.range_eq_range'] using this

theorem find_none {n : Nat} {p : Nat → Bool} (h : (List.range n).find? (fun j => !p j) = none) : ∀ j, j < n → p j = true := fun j hj => by
  have := List.find?_eq_none.1 h j (List.mem_range.2 hj)
  simpa using this
theorem find_none_of {n : Nat} {p : Nat → Bool} (h : ∀ j, j < n → p j = true) : (List.range n).find? (fun j => !p j) = none :=
  List.find?_eq_none.2 fun j hj => by simp [h j (List.mem_range.1 hj)]
theorem find_range' {q : Nat → Bool} : ∀ (k a i : Nat), (List.range' a k).find? q = some i → i < a + k ∧ a ≤ i ∧ q i = true ∧ ∀ j, a ≤ j → j < i → q j = false
  | 0, a, i, h => by simp at h
  | k + 1, a, i, h => by
    rw [List.range'_succ, List.find?_cons] at h
    split at h
    · rename_i hq
      cases h
      exact ⟨by omega, Nat.le_refl _, hq, fun j h1 h2 => by omega⟩
    · rename_i hq
      obtain ⟨h1, h2, h3, h4⟩ := find_range' k (a + 1) i h
      exact ⟨by omega, by omega, h3, fun j h5 h6 => by
        rcases Nat.eq_or_lt_of_le h5 with h7 | h7
        · subst h7; exact hq
        · exact h4 j (by omega) h6⟩
theorem find_some {n i : Nat} {p : Nat → Bool} (h : (List.range n).find? (fun j => !p j) = some i) : i < n ∧ p i = false ∧ ∀ j, j < i → p j = true := by
  rw [List.range_eq_range'] at h
  obtain ⟨h1, _, h2, h3⟩ := find_range' n 0 i h
  exact ⟨by omega, by simpa using h2, fun j hj => by simpa using h3 j (Nat.zero_le _) hj⟩
theorem find_some_of {n i : Nat} {p : Nat → Bool} (h1 : i < n) (h2 : p i = false) (h3 : ∀ j, j < i → p j = true) : (List.range n).find? (fun j => !p j) = some i := by
  cases h : (List.range n).find? (fun j => !p j) with
  | none => have := find_none h i h1; rw [h2] at this; cases this
  | some k =>
    obtain ⟨k1, k2, k3⟩ := find_some h
    rcases Nat.lt_trichotomy k i with hlt | rfl | hgt
    · rw [h3 k hlt] at k2; cases k2
    · rfl
    · rw [k3 i hgt] at h2; cases h2
theorem cond_some {α : Type} (b : Bool) (x y : α) : (bif b then some x else some y) = some (bif b then x else y) := by cases b <;> rfl
theorem idxI_at {α : Type} {l : List α} {i : Nat} {e : α} (h : l[i]? = some e) : idxI l (i : Int) = some e := by
  unfold idxI; rw [if_pos (by omega)]; simpa using h
theorem idxI_nat' {α : Type} (l : List α) (i : Nat) : idxI l (i : Int) = l[i]? := by
  unfold idxI; rw [if_pos (by omega)]; simp
theorem idxI_lt {α : Type} {l : List α} {n : Int} (h0 : 0 ≤ n) (h1 : n < l.length) : ∃ h : n.toNat < l.length, idxI l n = some l[n.toNat] := by
  have h : n.toNat < l.length := by omega
  exact ⟨h, by unfold idxI; rw [if_pos h0]; exact List.getElem?_eq_getElem h⟩
theorem idxI_neg {α : Type} {l : List α} {n : Int} (h : ¬ (0 ≤ n ∧ n < l.length)) : idxI l n = none := by
  unfold idxI
  split
  · exact List.getElem?_eq_none (by omega)
  · rfl
theorem idxN_lt {len : Nat} {n : Int} (h0 : 0 ≤ n) (h1 : n < len) : idxN len n = some n.toNat := by unfold idxN; rw [if_pos ⟨h0, h1⟩]
theorem idxN_nat {len i : Nat} (h : i < len) : idxN len (i : Int) = some i := by unfold idxN; rw [if_pos ⟨by omega, by omega⟩]; simp
end Go.Proofs.Ytgligibbgobmnaa
namespace Go.Proofs.Ytgligibbgobmnaa
set_option linter.unusedVariables false
set_option linter.unusedSimpArgs false
set_option maxRecDepth 100000

theorem gcd_total (a b : Int) : ∃ r, iter (σ := Int × Int) (ρ := Int) (fun s2 => (bif (s2.2 == 0) then some (.inr s2.1) else (Option.bind (remI .u64 s2.1 s2.2) fun e2 => some (.inl (s2.2, e2))))) (a, b) = some r := by
  have := iter_rule (f := fun s2 : Int × Int => (bif (s2.2 == 0) then some (.inr s2.1) else (Option.bind (remI .u64 s2.1 s2.2) fun e2 => some (.inl (s2.2, e2))))) (fun _ => True) (fun _ : Int => True) (fun s => s.2.natAbs) (fun s _ => by
    by_cases h : s.2 = 0
    · exact ⟨.inr s.1, by simp [h], trivial⟩
    · refine ⟨.inl (s.2, s.1.tmod s.2), by simp [beq_eq_false_iff_ne.2 h, h, remI], trivial, ?_⟩
      show (s.1.tmod s.2).natAbs < s.2.natAbs
      rw [Int.natAbs_tmod]
      exact Nat.mod_lt _ (by omega)) (a, b) trivial
  obtain ⟨r, h, _⟩ := this
  exact ⟨r, h⟩

theorem divisor_total (l : List Int) (hl : l.length < 1000) : ∃ r, d_divisor l = some r := by
  unfold d_divisor
  obtain ⟨o, h1, h2⟩ := forR_ruleL (n := l.length) (s0 := (0 : Int)) (f := (fun i1 s1 => (Option.bind (Option.bind (idxI l (i1 : Int)) fun e1 => (Option.bind (iter (σ := Int × Int) (ρ := Int) (fun s2 => (bif (s2.2 == 0) then some (.inr s2.1) else (Option.bind (remI .u64 s2.1 s2.2) fun e2 => some (.inl (s2.2, e2))))) (s1, e1)) (fun (y1 : Int) => some y1))) fun (v1 : Int) => some (.inl v1)))) (fun _ _ => True) (fun _ : Unit => False) (by omega) trivial (fun i s hi _ => by
    obtain ⟨r, hr⟩ := gcd_total s l[i]
    exact ⟨.inl r, by simp only [idxI_nat', List.getElem?_eq_getElem hi, Option.bind_some, hr], trivial⟩)
  rw [h1]
  cases o with
  | inl s => exact ⟨s, rfl⟩
  | inr r => exact h2.elim

theorem magnitude_total (n : Int) : ∃ r, d_magnitude n = some r := by
  unfold d_magnitude; simp only [cond_some]; exact ⟨_, rfl⟩

noncomputable def rvB (r : Ratio) : Bool := (d_ratioValid r).getD false
theorem s_ratioValid (r : Ratio) : d_ratioValid r = some (rvB r) := by
  have : ∃ b, d_ratioValid r = some b := by
    unfold d_ratioValid
    obtain ⟨a, ha⟩ := magnitude_total r.num
    obtain ⟨b, hb⟩ := magnitude_total r.den
    obtain ⟨g, hg⟩ := divisor_total [a, b] (by simp)
    simp only [ha, hb, hg, cond_some, Option.bind_some]
    exact ⟨_, rfl⟩
  obtain ⟨b, hb⟩ := this
  unfold rvB; rw [hb]; rfl

def snd0 (x : Option (Int × Bool)) : Bool := (x.getD (0, false)).2
theorem snd0_of {x : Option (Int × Bool)} {r : Int × Bool} (h : x = some r) : x = some (r.1, snd0 x) := by subst h; rfl
noncomputable def quB (l : List UnitT) : Bool := snd0 (d_quantityValid l)
theorem unitValid_total (t : List UnitT) (i : Nat) (hi : i < t.length) (ht : t.length < 1000) : ∃ b, d_unitValid t i = some b := by
  unfold d_unitValid
  have hs : slcI t 0 (i : Int) = some (t.take i) := by
    unfold slcI; rw [if_pos ⟨by omega, by omega, by omega⟩]; simp
  have hf : forR (σ := Unit) (ρ := Unit) ((t.take i).length : Int) (fun i1 s1 => (Option.bind (idxI (t.take i) (i1 : Int)) fun e3 => (bif (e3.name.toList == t[i].name.toList) then some (.inr ()) else some (.inl ())))) () = some (match (List.range (t.take i).length).find? (fun j => !(match (t.take i)[j]? with | some e => !(e.name.toList == t[i].name.toList) | none => true)) with | none => .inl () | some j => .inr ()) := by
    refine forR_first _ (fun _ => ()) (by simp; omega) (fun j hj => ?_)
    simp only [idxI_nat', List.getElem?_eq_getElem hj, Option.bind_some]
    cases ((t.take i)[j].name.toList == t[i].name.toList) <;> rfl
  rw [idxI_at (List.getElem?_eq_getElem hi)]
  simp only [Option.bind_some]
  rw [hs]
  simp only [Option.bind_some]
  rw [hf]
  simp only [s_ratioValid, cond_some, Option.bind_some, d_isIndex]
  split
  all_goals simp only [Sum.elim_inl, Sum.elim_inr, cond_some]
  · by_cases hb : 0 ≤ t[i].base ∧ t[i].base < t.length
    · obtain ⟨h1, h2⟩ := idxI_lt hb.1 hb.2
      simp only [h2, Option.bind_some, cond_some]
      exact ⟨_, rfl⟩
    · by_cases h1 : 0 ≤ t[i].base
      · have : ¬ t[i].base < t.length := fun h => hb ⟨h1, h⟩
        simp only [h1, this, decide_true, decide_false, cond_true, cond_false, Option.bind_some, cond_some]
        exact ⟨_, rfl⟩
      · simp only [h1, decide_false, cond_false, Option.bind_some, cond_some]
        exact ⟨_, rfl⟩
  · exact ⟨_, rfl⟩

theorem s_quantityValid (l : List UnitT) (hl : l.length < 1000) : ∃ k, d_quantityValid l = some (k, quB l) := by
  have : ∃ r, d_quantityValid l = some r := by
    unfold d_quantityValid
    obtain ⟨o, h1, h2⟩ := forR_ruleL (n := l.length) (s0 := ()) (f := (fun i1 s1 => (Option.bind (d_unitValid l (i1 : Int)) fun r1 => (bif r1 then some (.inl ()) else some (.inr (i1 : Int)))))) (fun _ _ => True) (fun _ : Int => True) (by omega) trivial (fun i s hi _ => by
      obtain ⟨b, hb⟩ := unitValid_total l i hi hl
      cases b with
      | true => exact ⟨.inl (), by simp [hb], trivial⟩
      | false => exact ⟨.inr i, by simp [hb], trivial⟩)
    rw [h1]
    cases o with
    | inl s => exact ⟨_, rfl⟩
    | inr r => exact ⟨_, rfl⟩
  obtain ⟨r, hr⟩ := this
  exact ⟨r.1, snd0_of hr⟩

def movB (nh : Nat) (r : Int) : Bool := decide (0 ≤ r) && decide (r < nh)
theorem s_movable (c : ContractT) (r : Int) : d_movable c r = some (movB c.holders.length r) := by
  simp only [d_movable, cond_some, Option.bind_some, movB, Bool.cond_false_right]
noncomputable def posB (r : Ratio) : Bool := decide (0 < r.num) && rvB r
theorem s_positive (r : Ratio) : d_positive r = some (posB r) := by
  simp only [d_positive, s_ratioValid, cond_some, Option.bind_some, posB, Bool.cond_false_right]
def noneB (r : Ratio) : Bool := r.num == 0 && (r.den == 1 && true)
noncomputable def actB (nh nu : Nat) (parties : Int) (a : ActT) : Bool :=
  bif movB nh a.role then
    (bif a.kind == 1 then (a.give == 0 && (a.to == -1 || movB nh a.to)) && (bif a.unit == -1 then noneB a.lot else (decide (0 ≤ a.unit) && (decide (a.unit < nu) && posB a.lot)))
    else (a.kind == 2 || a.kind == 3) && (movB nh a.give && (decide (0 ≤ a.to) && (decide (a.to < parties) && (a.unit == -1 && noneB a.lot)))))
  else a.kind == 1 && (a.role == -1 && (a.give == 0 && ((a.to == -1 || movB nh a.to) && (a.unit == -1 && noneB a.lot))))
theorem s_validAct (c : ContractT) (a : ActT) : d_validAct c a = some (actB c.holders.length c.units.length c.parties a) := by
  simp only [d_validAct, s_movable, s_positive, d_none, Option.bind_some, cond_some, actB, noneB]
  cases movB c.holders.length a.role <;> cases (a.kind == 1) <;> cases (a.give == 0) <;> cases (a.to == -1) <;> cases (movB c.holders.length a.to) <;> cases (a.unit == -1) <;>
    simp only [cond_true, cond_false, Bool.not_true, Bool.not_false, Option.bind_some, Bool.true_or, Bool.false_or, Bool.true_and, Bool.false_and, cond_some, Bool.cond_false_right, Bool.cond_self, Bool.and_false] <;>
    first | rfl | (cases (a.role == -1) <;> rfl) | (cases (a.kind == 2) <;> rfl)

def heldB (parties : Int) (hs : List Int) : Bool := hs.all fun h => decide (0 ≤ h) && decide (h < parties)
theorem s_held (c : ContractT) (hp : c.parties < 4611686018427387904) (hl : c.holders.length < 4611686018427387904) : d_held c = some (heldB c.parties c.holders) := by
  unfold d_held
  have hin : ∀ (i : Nat) (hi : i < c.holders.length), (Option.bind (α := Unit ⊕ Unit) (Option.bind (forR (σ := Unit) (ρ := Unit) c.parties (fun i2 s2 => (Option.bind (idxI c.holders (i : Int)) fun e1 => (bif (e1 == (i2 : Int)) then some (.inr ()) else some (.inl ())))) ()) (Sum.elim (fun (s2 : Unit) => some (.inr ())) (fun (y1 : Unit) => some (.inl ())))) (Sum.elim (fun (v1 : Unit) => some (.inl ())) (fun (y2 : Unit) => some (.inr ())))) =
      some (bif decide (0 ≤ c.holders[i]) && decide (c.holders[i] < c.parties) then (.inl () : Unit ⊕ Unit) else .inr ()) := fun i hi => by
    obtain ⟨o, h1, h2⟩ := forR_rule (n := c.parties) (s0 := ()) (f := (fun i2 s2 => (Option.bind (idxI c.holders (i : Int)) fun e1 => (bif (e1 == (i2 : Int)) then some (.inr ()) else some (.inl ()))))) (fun k _ => ∀ j : Nat, j < k → c.holders[i] ≠ (j : Int)) (fun _ : Unit => 0 ≤ c.holders[i] ∧ c.holders[i] < c.parties) hp (fun j hj => by omega) (fun k s hk hI => by
      simp only [idxI_nat', List.getElem?_eq_getElem hi, Option.bind_some]
      by_cases he : c.holders[i] = (k : Int)
      · exact ⟨.inr (), by simp [he], by show 0 ≤ c.holders[i] ∧ c.holders[i] < c.parties; omega⟩
      · refine ⟨.inl (), by rw [beq_eq_false_iff_ne.2 he]; rfl, fun j hj => ?_⟩
        rcases Nat.lt_or_ge j k with h | h
        · exact hI j h
        · obtain rfl : j = k := by omega
          exact he)
    rw [h1]
    cases o with
    | inl s =>
      have : ¬ (0 ≤ c.holders[i] ∧ c.holders[i] < c.parties) := fun h => h2 c.holders[i].toNat (by omega) (by omega)
      have hb : (decide (0 ≤ c.holders[i]) && decide (c.holders[i] < c.parties)) = false := by
        rw [Bool.eq_false_iff]; simp only [ne_eq, Bool.and_eq_true, decide_eq_true_eq]; exact this
      rw [hb]; rfl
    | inr r =>
      have hb : (decide (0 ≤ c.holders[i]) && decide (c.holders[i] < c.parties)) = true := by
        simp only [Bool.and_eq_true, decide_eq_true_eq]; exact h2
      rw [hb]; rfl
  rw [forR_first (fun i => match c.holders[i]? with | some h => decide (0 ≤ h) && decide (h < c.parties) | none => true) (fun _ => ()) hl (fun i hi => by
    rw [hin i hi]; simp only [List.getElem?_eq_getElem hi])]
  cases hf : (List.range c.holders.length).find? (fun j => !(match c.holders[j]? with | some h => decide (0 ≤ h) && decide (h < c.parties) | none => true)) with
  | none =>
    simp only [Option.bind_some, Sum.elim_inl]
    have : heldB c.parties c.holders = true := List.all_eq_true.2 fun h hh => by
      obtain ⟨i, hi, rfl⟩ := List.getElem_of_mem hh
      have := find_none hf i hi
      simpa only [List.getElem?_eq_getElem hi] using this
    rw [this]
  | some k =>
    simp only [Option.bind_some, Sum.elim_inr]
    obtain ⟨h1, h2, _⟩ := find_some hf
    have : heldB c.parties c.holders = false := by
      rw [Bool.eq_false_iff]
      intro h
      have := List.all_eq_true.1 h c.holders[k] (List.getElem_mem h1)
      simp only [List.getElem?_eq_getElem h1] at h2
      rw [h2] at this; cases this
    rw [this]

noncomputable def offB (days : Int) (off : List Int) : Bool := ((Option.bind (forR (σ := Int) (ρ := Unit) (off.length : Int) (fun i2 s2 => (Option.bind (idxI off (i2 : Int)) fun e2 => (Option.bind (bif decide (e2 ≤ s2) then some true else some (decide (days ≤ e2))) fun v2 => (bif v2 then some (.inr ()) else some (.inl e2))))) (-1)) (Sum.elim (fun (s2 : Int) => some true) (fun (y2 : Unit) => some false)))).getD false
theorem s_off (days : Int) (off : List Int) (hl : off.length < 4611686018427387904) : (Option.bind (forR (σ := Int) (ρ := Unit) (off.length : Int) (fun i2 s2 => (Option.bind (idxI off (i2 : Int)) fun e2 => (Option.bind (bif decide (e2 ≤ s2) then some true else some (decide (days ≤ e2))) fun v2 => (bif v2 then some (.inr ()) else some (.inl e2))))) (-1)) (Sum.elim (fun (s2 : Int) => some true) (fun (y2 : Unit) => some false))) = some (offB days off) := by
  obtain ⟨o, h1, h2⟩ := forR_ruleL (n := off.length) (s0 := (-1 : Int)) (f := (fun i2 s2 => (Option.bind (idxI off (i2 : Int)) fun e2 => (Option.bind (bif decide (e2 ≤ s2) then some true else some (decide (days ≤ e2))) fun v2 => (bif v2 then some (.inr ()) else some (.inl e2)))))) (fun _ _ => True) (fun _ : Unit => True) hl trivial (fun i s hi _ => by
    simp only [idxI_nat', List.getElem?_eq_getElem hi, Option.bind_some, cond_some]
    cases (bif decide (off[i] ≤ s) then true else decide (days ≤ off[i])) with
    | true => exact ⟨.inr (), rfl, trivial⟩
    | false => exact ⟨.inl _, rfl, trivial⟩)
  unfold offB
  rw [h1]
  cases o <;> rfl

noncomputable def framedB (c : ContractT) : Bool :=
  !(decide (c.parties < 1)) && (!(decide (c.days < 1)) && (!((c.holders.length : Int) == 0) && (heldB c.parties c.holders && (quB c.units && (c.acts.all (actB c.holders.length c.units.length c.parties) && offB c.days c.off)))))

theorem forR_all {α : Type} {l : List α} {f : Nat → Unit → Option (Unit ⊕ Unit)} (p : α → Bool) (hl : l.length < 4611686018427387904) (h : ∀ (i : Nat) (hi : i < l.length), f i () = some (bif p l[i] then .inl () else .inr ())) :
    forR (l.length : Int) f () = some (bif l.all p then .inl () else .inr ()) := by
  rw [forR_first (fun i => match l[i]? with | some x => p x | none => true) (fun _ => ()) hl (fun i hi => by rw [h i hi]; simp only [List.getElem?_eq_getElem hi])]
  cases hf : (List.range l.length).find? (fun j => !(match l[j]? with | some x => p x | none => true)) with
  | none =>
    have : l.all p = true := List.all_eq_true.2 fun x hx => by
      obtain ⟨i, hi, rfl⟩ := List.getElem_of_mem hx
      have := find_none hf i hi
      simpa only [List.getElem?_eq_getElem hi] using this
    rw [this]; rfl
  | some k =>
    obtain ⟨h1, h2, _⟩ := find_some hf
    have : l.all p = false := by
      rw [Bool.eq_false_iff]
      intro h
      have := List.all_eq_true.1 h l[k] (List.getElem_mem h1)
      simp only [List.getElem?_eq_getElem h1] at h2
      rw [h2] at this; cases this
    rw [this]; rfl

theorem s_framed (c : ContractT) (hp : c.parties < 4611686018427387904) (hh : c.holders.length < 4611686018427387904) (hu : c.units.length < 1000) (ha : c.acts.length < 1000) (ho : c.off.length < 4611686018427387904) : d_framed c = some (framedB c) := by
  unfold d_framed
  obtain ⟨k, hk⟩ := s_quantityValid c.units hu
  have hacts := forR_all (l := c.acts) (f := (fun i1 s1 => (Option.bind (idxI c.acts (i1 : Int)) fun e1 => (Option.bind (d_validAct c e1) fun r3 => (bif r3 then some (.inl ()) else some (.inr ())))))) (actB c.holders.length c.units.length c.parties) (by omega) (fun i hi => by
    simp only [idxI_nat', List.getElem?_eq_getElem hi, Option.bind_some, s_validAct, cond_some])
  rw [s_held c hp hh, hk]
  simp only [Option.bind_some]
  rw [hacts]
  simp only [Option.bind_some]
  rw [s_off c.days c.off ho]
  simp only [Option.bind_some, cond_some, framedB]
  cases decide (c.parties < 1) <;> cases decide (c.days < 1) <;> cases ((c.holders.length : Int) == 0) <;> cases heldB c.parties c.holders <;> cases quB c.units <;> cases c.acts.all (actB c.holders.length c.units.length c.parties) <;>
    simp only [cond_true, cond_false, Bool.not_true, Bool.not_false, Option.bind_some, Bool.true_and, Bool.false_and, Sum.elim_inl, Sum.elim_inr]

def natB (acts : List ActT) (a : Int) : Bool := match idxI acts a with
  | some e => e.kind == 1 && e.role == -1
  | none => false
theorem s_natural (c : ContractT) (a : Int) : d_natural c a = some (natB c.acts a) := by
  unfold d_natural natB
  by_cases h : 0 ≤ a ∧ a < c.acts.length
  · obtain ⟨h1, h2⟩ := idxI_lt h.1 h.2
    simp only [h2, h.1, h.2, decide_true, cond_true, Option.bind_some, cond_some, Bool.cond_false_right]
  · rw [idxI_neg h]
    by_cases h1 : 0 ≤ a
    · have : ¬ a < c.acts.length := fun h2 => h ⟨h1, h2⟩
      simp only [h1, this, decide_true, decide_false, cond_true, cond_false, Option.bind_some]
    · simp only [h1, decide_false, cond_false, Option.bind_some]

def kindB (nh : Nat) (acts : List ActT) (k : ClauseT) : Bool :=
  bif k.kind == 4 then k.role == -1 && (k.need == 1 && (k.grace == 0 && !k.final))
  else (movB nh k.role && !natB acts k.act) && (bif k.kind == 1 then decide (1 ≤ k.need) && (decide (k.need ≤ 9) && (decide (0 ≤ k.grace) && decide (k.grace ≤ 400)))
    else bif k.kind == 2 then k.need == 1 && k.grace == 0 else k.kind == 3 && (k.need == 1 && (k.grace == 0 && !k.final)))
theorem s_validKind (c : ContractT) (k : ClauseT) : d_validKind c k = some (kindB c.holders.length c.acts k) := by
  simp only [d_validKind, s_movable, s_natural, Option.bind_some, cond_some, kindB]
  cases (k.kind == 4) <;> cases movB c.holders.length k.role <;> cases natB c.acts k.act <;> cases (k.kind == 1) <;> cases (k.kind == 2) <;> cases (k.kind == 3) <;>
    simp only [cond_true, cond_false, Bool.not_true, Bool.not_false, Option.bind_some, Bool.true_and, Bool.false_and, Bool.and_false, Bool.cond_false_right, cond_some]

def condB (n : Nat) (i : Int) (s : CondT) : Bool := !(decide (s.clause < 0)) && (!(decide ((n : Int) ≤ s.clause)) && (!(s.clause == i) && (!(decide (s.is < 1)) && !(decide (4 < s.is)))))
noncomputable def moneyB (nh : Nat) (units : List UnitT) (k : ClauseT) : Bool :=
  (k.kind == 1 || k.kind == 2) && ((match idxI units k.unit with | some u => u.kind == 2 | none => false) && (posB k.value && movB nh k.to))
def pauseB (acts : List ActT) (k : ClauseT) : Bool := (k.pause == -1 && k.resume == -1) || (!(k.pause == k.resume) && (natB acts k.pause && natB acts k.resume))
noncomputable def clauseB (nh : Nat) (units : List UnitT) (acts : List ActT) (n : Nat) (i : Int) (k : ClauseT) : Bool :=
  (!(decide (k.act < 0)) && (!(decide ((acts.length : Int) ≤ k.act)) && (!(decide (k.after < 1)) && !(decide (400 < k.after))))) &&
  ((kindB nh acts k && !(decide (8 < (k.start.length : Int)))) &&
  (k.start.all (condB n i) &&
  (pauseB acts k &&
  (bif k.unit == -1 then noneB k.value && k.to == -1 else moneyB nh units k))))
theorem s_validClause (c : ContractT) (i : Nat) (k : ClauseT) (hk : c.clauses[i]? = some k) (hs : k.start.length < 4611686018427387904) : d_validClause c i = some (clauseB c.holders.length c.units c.acts c.clauses.length i k) := by
  unfold d_validClause
  have hst := forR_all (l := k.start) (f := (fun i1 s1 => (Option.bind (idxI k.start (i1 : Int)) fun e2 => (Option.bind (bif decide (e2.clause < 0) then some true else (bif decide ((c.clauses.length : Int) ≤ e2.clause) then some true else (bif (e2.clause == (i : Int)) then some true else (bif decide (e2.is < 1) then some true else some (decide (4 < e2.is)))))) fun v3 => (bif v3 then some (.inr ()) else some (.inl ())))))) (condB c.clauses.length i) hs (fun j hj => by
    simp only [idxI_nat', List.getElem?_eq_getElem hj, Option.bind_some, cond_some, condB]
    cases decide (k.start[j].clause < 0) <;> cases decide ((c.clauses.length : Int) ≤ k.start[j].clause) <;> cases (k.start[j].clause == (i : Int)) <;> cases decide (k.start[j].is < 1) <;> cases decide (4 < k.start[j].is) <;> rfl)
  have hu : (bif decide (0 ≤ k.unit) then (bif decide (k.unit < (c.units.length : Int)) then (Option.bind (idxI c.units k.unit) fun e3 => (bif (e3.kind == 2) then (Option.bind (d_positive k.value) fun r5 => (bif r5 then (Option.bind (d_movable c k.to) fun r6 => some r6) else some false)) else some false)) else some false) else some false) =
      some ((match idxI c.units k.unit with | some u => u.kind == 2 | none => false) && (posB k.value && movB c.holders.length k.to)) := by
    by_cases h : 0 ≤ k.unit ∧ k.unit < c.units.length
    · obtain ⟨h1, h2⟩ := idxI_lt h.1 h.2
      simp only [h2, h.1, h.2, decide_true, cond_true, Option.bind_some, cond_some, Bool.cond_false_right, s_positive, s_movable]
    · rw [idxI_neg h]
      by_cases h1 : 0 ≤ k.unit
      · have : ¬ k.unit < c.units.length := fun h2 => h ⟨h1, h2⟩
        simp only [h1, this, decide_true, decide_false, cond_true, cond_false, Bool.false_and]
      · simp only [h1, decide_false, cond_false, Bool.false_and]
  have hp : (Option.bind (bif (k.pause == (-1)) then some (!(k.resume == (-1))) else some true) fun v4 => (bif v4 then (Option.bind (bif (k.pause == k.resume) then some true else (Option.bind (d_natural c k.pause) fun r2 => (bif r2 then (Option.bind (d_natural c k.resume) fun r3 => some (!r3)) else some true))) fun v5 => (bif v5 then some (.inr ()) else some (.inl ()))) else some (.inl ()))) =
      some (bif pauseB c.acts k then (.inl () : Unit ⊕ Unit) else .inr ()) := by
    simp only [s_natural, pauseB, cond_some, Option.bind_some]
    cases (k.pause == -1) <;> cases (k.resume == -1) <;> cases (k.pause == k.resume) <;> cases natB c.acts k.pause <;> cases natB c.acts k.resume <;> rfl
  rw [idxI_at hk]
  simp only [Option.bind_some]
  rw [hst]
  simp only [Option.bind_some]
  rw [hp, hu]
  simp only [Option.bind_some, s_validKind, d_none, cond_some, clauseB, moneyB, noneB]
  cases decide (k.act < 0) <;> simp only [cond_true, cond_false, Bool.not_true, Bool.not_false, Bool.true_and, Bool.false_and, Option.bind_some]
  cases decide ((c.acts.length : Int) ≤ k.act) <;> simp only [cond_true, cond_false, Bool.not_true, Bool.not_false, Bool.true_and, Bool.false_and, Option.bind_some]
  cases decide (k.after < 1) <;> simp only [cond_true, cond_false, Bool.not_true, Bool.not_false, Bool.true_and, Bool.false_and, Option.bind_some]
  cases decide (400 < k.after) <;> simp only [cond_true, cond_false, Bool.not_true, Bool.not_false, Bool.true_and, Bool.false_and, Option.bind_some]
  cases kindB c.holders.length c.acts k <;> simp only [cond_true, cond_false, Bool.not_true, Bool.not_false, Bool.true_and, Bool.false_and, Option.bind_some]
  cases decide (8 < (k.start.length : Int)) <;> simp only [cond_true, cond_false, Bool.not_true, Bool.not_false, Bool.true_and, Bool.false_and, Option.bind_some]
  cases k.start.all (condB c.clauses.length i) <;> simp only [cond_true, cond_false, Bool.not_true, Bool.not_false, Bool.true_and, Bool.false_and, Option.bind_some, Sum.elim_inl, Sum.elim_inr]
  cases pauseB c.acts k <;> simp only [cond_true, cond_false, Bool.true_and, Bool.false_and, Sum.elim_inl, Sum.elim_inr]
  cases (k.kind == 1) <;> cases (k.kind == 2) <;> simp only [cond_true, cond_false, Bool.cond_false_right, Bool.true_or, Bool.or_true, Bool.or_self, Bool.true_and, Bool.false_and]

def limB (c : ContractT) : Bool := decide (12 < c.parties) || (decide (2000 < c.days) || (decide (12 < (c.holders.length : Int)) || (decide (20 < (c.units.length : Int)) || (decide (60 < (c.acts.length : Int)) || decide (400 < (c.clauses.length : Int))))))
noncomputable def clB (c : ContractT) (i : Nat) : Bool := match c.clauses[i]? with
  | some k => clauseB c.holders.length c.units c.acts c.clauses.length i k
  | none => true
noncomputable def validR (c : ContractT) : Int × Int :=
  bif limB c then (3, -1) else bif framedB c then (match (List.range c.clauses.length).find? (fun j => !clB c j) with | none => (0, -1) | some j => (1, (j : Int))) else (1, -1)

theorem s_Valid (c : ContractT) (ho : c.off.length < 4611686018427387904) (hs : ∀ k ∈ c.clauses, k.start.length < 4611686018427387904) : d_Valid c = some (validR c) := by
  unfold d_Valid validR
  simp only [cond_some, Bool.cond_true_left, Option.bind_some]
  show (bif limB c then _ else _) = _
  cases hlim : limB c with
  | true => rfl
  | false =>
    simp only [limB, Bool.or_eq_false_iff, decide_eq_false_iff_not] at hlim
    obtain ⟨h1, h2, h3, h4, h5, h6⟩ := hlim
    simp only [cond_false, s_framed c (by omega) (by omega) (by omega) (by omega) ho, Option.bind_some]
    cases framedB c with
    | false => rfl
    | true =>
      simp only [cond_true]
      rw [forR_first (fun i => clB c i) (fun i => (i : Int)) (by omega) (fun i hi => by
        rw [s_validClause c i c.clauses[i] (List.getElem?_eq_getElem hi) (hs _ (List.getElem_mem hi))]
        simp only [Option.bind_some, clB, List.getElem?_eq_getElem hi, cond_some])]
      cases (List.range c.clauses.length).find? (fun j => !clB c j) <;> rfl

end Go.Proofs.Ytgligibbgobmnaa
namespace Go.Proofs.Ytgligibbgobmnaa
set_option linter.unusedVariables false
set_option linter.unusedSimpArgs false
set_option maxRecDepth 100000

def Le {α : Type} (x y : Option α) : Prop := ∀ r, x = some r → y = some r
theorem Le.refl {α : Type} (x : Option α) : Le x x := fun _ h => h
theorem Le.bind {α β : Type} {x y : Option α} {f g : α → Option β} (h : Le x y) (hf : ∀ a, Le (f a) (g a)) : Le (x.bind f) (y.bind g) := fun r hr => by
  obtain ⟨a, h1, h2⟩ := Option.bind_eq_some_iff.1 hr
  rw [h a h1]; exact hf a r h2
theorem Le.cond {α : Type} (b : Bool) {x y x' y' : Option α} (h1 : Le x x') (h2 : Le y y') : Le (bif b then x else y) (bif b then x' else y') := by
  cases b
  · exact h2
  · exact h1
theorem Le.elim {α β γ : Type} {f f' : α → Option γ} {g g' : β → Option γ} (h1 : ∀ a, Le (f a) (f' a)) (h2 : ∀ a, Le (g a) (g' a)) (o : α ⊕ β) : Le (Sum.elim f g o) (Sum.elim f' g' o) := by
  cases o
  · exact h1 _
  · exact h2 _
theorem Le.forFrom {σ ρ : Type} {f g : Nat → σ → Option (σ ⊕ ρ)} (h : ∀ i s, Le (f i s) (g i s)) : ∀ (k i : Nat) (s : σ), Le (forFrom f i k s) (forFrom g i k s)
  | 0, i, s => Le.refl _
  | k + 1, i, s => fun r hr => by
    simp only [Go.Proofs.Ytgligibbgobmnaa.forFrom] at hr ⊢
    split at hr
    · cases hr
    · rename_i e; rw [h i s _ e]; exact hr
    · rename_i e; rw [h i s _ e]; exact Le.forFrom h k (i + 1) _ r hr
theorem Le.forR {σ ρ : Type} {f g : Nat → σ → Option (σ ⊕ ρ)} (h : ∀ i s, Le (f i s) (g i s)) (n : Int) (s : σ) : Le (forR n f s) (forR n g s) := fun r hr => by
  obtain ⟨h1, h2⟩ := forR_some hr
  rw [forR_pos h1]; exact Le.forFrom h _ _ _ r h2
theorem Le.iter {σ ρ : Type} {f : σ → Option (σ ⊕ ρ)} (k : Nat) (s : σ) : Le (iterN f k s) (iter f s) := fun r hr => iter_some.2 ⟨k, hr⟩

theorem rec29_mono {f g : Int → List Int → Option (Int × List Int)} (h : ∀ a b, Le (f a b) (g a b)) (p : Int) (q : List Int) : Le (d_29a_s f p q) (d_29a_s g p q) := by
  unfold d_29a_s
  refine Le.bind (Le.bind (Le.refl _) fun k => Le.bind (Le.refl _) fun e => Le.cond _ (Le.refl _) (Le.bind (Le.refl _) fun k => Le.bind (Le.refl _) fun e => Le.bind (h _ _) fun r => Le.refl _)) fun v => Le.refl _
theorem rec29_succ : ∀ (k : Nat) (p : Int) (q : List Int), Le (d_29a_n k p q) (d_29a_n (k + 1) p q)
  | 0, p, q => fun r h => by cases h
  | k + 1, p, q => rec29_mono (rec29_succ k) p q
theorem rec29_le {k k' : Nat} (h : k ≤ k') (p : Int) (q : List Int) : Le (d_29a_n k p q) (d_29a_n k' p q) := by
  induction h with
  | refl => exact Le.refl _
  | step _ ih => exact fun r hr => rec29_succ _ p q r (ih r hr)
theorem le_29a (k : Nat) (p : Int) (q : List Int) : Le (d_29a_n k p q) (d_29a p q) := fun r h => lim_of k fun k' hk => rec29_le hk p q r h

noncomputable def e_30a (p1 : Int) (p2 : Int) (p3 : List Int) : Option ((List Int)) :=
  (Option.bind (d_29a_n 12 p1 p3) fun r1 => (Option.bind (d_29a_n 12 p2 r1.2) fun r2 => (Option.bind (d_29a_n 12 p1 r2.2) fun r3 => (Option.bind (d_29a_n 12 p2 r3.2) fun r4 => (Option.bind (idxN 400 (if r3.1 < r4.1 then r4.1 else r3.1)) fun k1 => (Option.bind (r4.2[k1]?) fun e1 => some (r4.2.set k1 (if r2.1 < r1.1 then r2.1 else r1.1))))))))
theorem le_30a (p1 : Int) (p2 : Int) (p3 : List Int) : Le (e_30a p1 p2 p3) (d_30a p1 p2 p3) := by
  unfold e_30a d_30a
  repeat' (first | with_reducible exact Le.refl _ | with_reducible exact le_29a _ _ _ | with_reducible refine Le.bind ?_ (fun _ => ?_) | with_reducible refine Le.cond _ ?_ ?_ | with_reducible refine Le.forR (fun _ _ => ?_) _ _ | with_reducible refine Le.elim (fun _ => ?_) (fun _ => ?_) _)

noncomputable def e_gather_step (i : Nat) (s : List (List Int) × List (Int × Int) × List Int) : Option ((List (List Int) × List (Int × Int) × List Int) ⊕ Unit) :=
  Option.bind (d_29a_n 12 (i : Int) s.2.2) fun r =>
    bif r.1 == (i : Int) then some (.inl (s.1 ++ [[(i : Int)]], mset (i : Int) (s.1.length : Int) s.2.1, r.2))
    else Option.bind (idxI s.1 ((mget r.1 s.2.1).getD 0)) fun l => some (.inl (s.1.set ((mget r.1 s.2.1).getD 0).toNat (l ++ [(i : Int)]), s.2.1, r.2))
noncomputable def e_gather (n : Int) (above : List Int) : Option (List (List Int) × List Int) :=
  bif decide (n ≤ 1000000000000) then Option.bind (forR (σ := List (List Int) × List (Int × Int) × List Int) (ρ := Unit) n e_gather_step ([], [], above)) (Sum.elim (fun s => some (s.1, s.2.2)) (fun _ => none)) else none
theorem le_gather_step (i : Nat) (s : List (List Int) × List (Int × Int) × List Int) : Le (e_gather_step i s) (d_gather_step i s) := Le.bind (le_29a _ _ _) fun r => Le.refl _
theorem le_gather (n : Int) (above : List Int) : Le (e_gather n above) (d_gather n above) := Le.cond _ (Le.bind (Le.forR le_gather_step _ _) fun o => Le.refl _) (Le.refl _)

noncomputable def e_13a (p1 : Int) (p2 : List Int) (p3 : List ActT) (p4 : List ClauseT) (p5 : Int) : Option ((List (List Int))) :=
  (Option.bind (d_Valid ({ parties := p1, holders := p2, units := [], acts := p3, clauses := p4, days := p5, off := [] } : ContractT)) fun r1 => (bif (r1.1 == 0) then (Option.bind (forR (σ := (List Int)) (ρ := Unit) (p4.length : Int) (fun i1 s1 => (Option.bind (idxN 400 (i1 : Int)) fun k1 => (Option.bind (s1[k1]?) fun e1 => some (.inl (s1.set k1 (i1 : Int)))))) (List.replicate 400 0)) (Sum.elim (fun (s1 : (List Int)) => (Option.bind (d_31a p3) fun r2 => (Option.bind (forR (σ := (List Int) × (List (Int × Int))) (ρ := Unit) (p4.length : Int) (fun i2 s2 => (Option.bind (idxN p4.length (i2 : Int)) fun k2 => (Option.bind (p4[k2]?) fun e2 => (Option.bind (bif r2 then (Option.bind (e_30a 0 (i2 : Int) s2.1) fun r3 => some r3) else some s2.1) fun (v1 : (List Int)) => (Option.bind (forR (σ := (List Int)) (ρ := Unit) (e2.start.length : Int) (fun i3 s3 => (Option.bind (idxI e2.start (i3 : Int)) fun e3 => (Option.bind (e_30a (i2 : Int) e3.clause s3) fun r4 => some (.inl r4)))) v1) (Sum.elim (fun (s3 : (List Int)) => (Option.bind (d_numbers e2) fun r5 => (Option.bind (forR (σ := (List Int) × (List (Int × Int))) (ρ := Unit) (r5.length : Int) (fun i4 s4 => (Option.bind (Option.bind (idxI r5 (i4 : Int)) fun e4 => (bif (mget e4 s4.2).isSome then (Option.bind (e_30a ((mget e4 s4.2).getD 0) (i2 : Int) s4.1) fun r6 => some (r6, s4.2)) else some (s4.1, (mset e4 (i2 : Int) s4.2)))) fun (v2 : (List Int) × (List (Int × Int))) => some (.inl (v2.1, v2.2)))) (s3, s2.2)) (Sum.elim (fun (s4 : (List Int) × (List (Int × Int))) => some (.inl (s4.1, s4.2))) (fun _ => none))))) (fun _ => none))))))) (s1, [])) (Sum.elim (fun (s2 : (List Int) × (List (Int × Int))) => (Option.bind (e_gather (p4.length : Int) s2.1) fun r7 => some r7.1)) (fun _ => none))))) (fun _ => none))) else some []))
theorem le_13a (p1 : Int) (p2 : List Int) (p3 : List ActT) (p4 : List ClauseT) (p5 : Int) : Le (e_13a p1 p2 p3 p4 p5) (d_13a p1 p2 p3 p4 p5) := by
  unfold e_13a d_13a
  repeat' (first | with_reducible exact le_gather _ _ | with_reducible exact Le.refl _ | with_reducible exact le_29a _ _ _ | with_reducible exact le_30a _ _ _ | with_reducible refine Le.bind ?_ (fun _ => ?_) | with_reducible refine Le.cond _ ?_ ?_ | with_reducible refine Le.forR (fun _ _ => ?_) _ _ | with_reducible refine Le.elim (fun _ => ?_) (fun _ => ?_) _)

noncomputable def e_BinarySearch (l : List Int) (v : Int) : Option (Int × Bool) :=
  (Option.bind (Option.bind (iterN (σ := Int × Int) (ρ := Int) (fun s1 => (bif decide (s1.1 < s1.2) then (Option.bind (shrI .u64 .u64 (IntKind.u64.wrap (IntKind.i64.wrap (s1.1 + s1.2))) 1) fun e1 => (Option.bind (idxI l (IntKind.i64.wrap e1)) fun e2 => (Option.bind (d_less e2 v) fun r1 => (bif r1 then some (.inl ((IntKind.i64.wrap ((IntKind.i64.wrap e1) + 1)), s1.2)) else some (.inl (s1.1, (IntKind.i64.wrap e1))))))) else some (.inr s1.1))) 12 (0, (l.length : Int))) (fun (y1 : Int) => some y1)) fun (v1 : Int) => (Option.bind (bif decide (v1 < (l.length : Int)) then (Option.bind (idxI l v1) fun e3 => (bif (e3 == v) then some true else (Option.bind (d_isNaN e3) fun r2 => (bif r2 then (Option.bind (d_isNaN v) fun r3 => some r3) else some false)))) else some false) fun v2 => some (v1, v2)))
theorem le_BinarySearch (l : List Int) (v : Int) : Le (e_BinarySearch l v) (d_BinarySearch l v) := by
  unfold e_BinarySearch d_BinarySearch
  repeat' (first | with_reducible exact Le.refl _ | with_reducible exact Le.refl _ | with_reducible exact Le.iter _ _ | with_reducible refine Le.bind ?_ (fun _ => ?_) | with_reducible refine Le.cond _ ?_ ?_ | with_reducible refine Le.forR (fun _ _ => ?_) _ _ | with_reducible refine Le.elim (fun _ => ?_) (fun _ => ?_) _)

noncomputable def e_15b (p1 : Int) (p2 : List Int) (p3 : List ActT) (p4 : List ClauseT) (p5 : Int) (p6 : List Int) : Option (Int × (List Int) × (List ActT) × (List ClauseT) × Int × Int) :=
  (Option.bind (d_Valid ({ parties := p1, holders := p2, units := [], acts := p3, clauses := p4, days := p5, off := [] } : ContractT)) fun r1 => (bif (r1.1 == 0) then (Option.bind (forR (σ := Int) (ρ := Unit) (p6.length : Int) (fun i1 s1 => (Option.bind (idxN p6.length (i1 : Int)) fun k1 => (Option.bind (p6[k1]?) fun e1 => (Option.bind (bif decide (e1 ≤ s1) then some true else some (decide ((p4.length : Int) ≤ e1))) fun v1 => (bif v1 then some (.inr ()) else some (.inl e1)))))) (-1)) (Sum.elim (fun (s1 : Int) => (Option.bind (cloneI 8 p2) fun e2 => (Option.bind (d_35a) fun r2 => (Option.bind (cloneI 56 p3) fun e3 => (Option.bind (d_34a) fun r3 => (Option.bind (mkN 136 (p6.length : Int)) fun k2 => (Option.bind (forR (σ := (List ClauseT)) (ρ := Unit) (p6.length : Int) (fun i2 s2 => (Option.bind (idxN p6.length (i2 : Int)) fun k3 => (Option.bind (p6[k3]?) fun e4 => (Option.bind (idxN p4.length e4) fun k4 => (Option.bind (p4[k4]?) fun e5 => (Option.bind (cloneI 16 e5.start) fun e6 => (Option.bind (forR (σ := (List CondT)) (ρ := Unit) (e6.length : Int) (fun i3 s3 => (Option.bind (idxN e6.length (i3 : Int)) fun k5 => (Option.bind (s3[k5]?) fun e7 => (Option.bind (e_BinarySearch p6 e7.clause) fun r4 => (bif r4.2 then (Option.bind (idxN e6.length (i3 : Int)) fun k6 => (Option.bind (s3[k6]?) fun e8 => some (.inl (s3.set k6 ({ clause := r4.1, is := e8.is } : CondT))))) else some (.inr ())))))) e6) (Sum.elim (fun (s3 : (List CondT)) => (Option.bind (idxN k2 (i2 : Int)) fun k7 => (Option.bind (s2[k7]?) fun e9 => some (.inl (s2.set k7 ({ e5 with start := List.take e6.length s3 } : ClauseT)))))) (fun (y2 : Unit) => some (.inr ())))))))))) (List.replicate k2 ({ kind := 0, role := 0, act := 0, need := 0, start := [], after := 0, grace := 0, business := false, final := false, pause := 0, resume := 0, value := ({ num := 0, den := 0 } : Ratio), unit := 0, to := 0, waived := false } : ClauseT))) (Sum.elim (fun (s2 : (List ClauseT)) => some (p1, e2, e3, List.take k2 s2, p5, 0)) (fun (y3 : Unit) => some (0, [], [], [], 0, 1)))))))))) (fun (y1 : Unit) => some (0, [], [], [], 0, 1)))) else some (0, [], [], [], 0, 1)))
theorem le_15b (p1 : Int) (p2 : List Int) (p3 : List ActT) (p4 : List ClauseT) (p5 : Int) (p6 : List Int) : Le (e_15b p1 p2 p3 p4 p5 p6) (d_15b p1 p2 p3 p4 p5 p6) := by
  unfold e_15b d_15b
  repeat' (first | with_reducible exact Le.refl _ | with_reducible exact Le.refl _ | with_reducible exact le_BinarySearch _ _ | with_reducible refine Le.bind ?_ (fun _ => ?_) | with_reducible refine Le.cond _ ?_ ?_ | with_reducible refine Le.forR (fun _ _ => ?_) _ _ | with_reducible refine Le.elim (fun _ => ?_) (fun _ => ?_) _)

theorem bindOf {α β : Type} {x : Option α} {f : α → Option β} {a : α} {r : β} (h : x = some a) (h2 : f a = some r) : x.bind f = some r := by rw [h]; exact h2

def ex0 : List ActT := [⟨1, 0, 0, -1, -1, ⟨0, 1⟩⟩, ⟨1, 0, 0, -1, -1, ⟨0, 1⟩⟩]
theorem s_head : d_head = some true := by
  unfold d_head
  refine bindOf (a := (ex0, 0, 1, 0, 1, 0, 1)) (by kernel_rfl) ?_
  refine bindOf (a := (0, -1)) (by kernel_rfl) ?_
  refine bindOf (a := [[0], [1, 2]]) (le_13a _ _ _ _ _ _ (by kernel_rfl)) ?_
  refine bindOf (a := (1, [0], ex0, [⟨2, 0, 1, 1, [], 3, 0, false, false, -1, -1, ⟨0, 1⟩, -1, -1, false⟩, ⟨3, 0, 1, 1, [], 3, 0, false, false, -1, -1, ⟨0, 1⟩, -1, -1, false⟩], 9, 0)) (le_15b _ _ _ _ _ _ _ (by kernel_rfl)) ?_
  refine bindOf (a := (0, [], [], [], 0, 1)) (le_15b _ _ _ _ _ _ _ (by kernel_rfl)) ?_
  refine bindOf (a := [[0, 1, 2]]) (le_13a _ _ _ _ _ _ (by kernel_rfl)) ?_
  refine bindOf (a := (1, 2)) (by kernel_rfl) ?_
  refine bindOf (a := (3, -1)) (by kernel_rfl) ?_
  kernel_rfl

end Go.Proofs.Ytgligibbgobmnaa
namespace Go.Proofs.Ytgligibbgobmnaa
open Go.RowKit
set_option linter.unusedVariables false
set_option linter.unusedSimpArgs false
set_option maxRecDepth 100000

theorem LOk.lt {α : Type} {n : Nat} {p : α → Prop} {l : List α} (h : LOk n p l) (hn : 0 < n) : l.length < 4611686018427387904 := by
  have h1 := h.1
  have h2 : reachBytes ≤ 140737488355328 := by decide +kernel
  have := Nat.le_mul_of_pos_right l.length hn
  omega

def fewB (c : ContractT) (n : Int) : Bool :=
  !(decide (13 < (c.holders.length : Int)) || (decide (21 < (c.units.length : Int)) || (decide (61 < (c.acts.length : Int)) || (decide (n < (c.clauses.length : Int)) || decide (100 < (c.off.length : Int)))))) &&
  (c.units.all (fun u => !decide (60 < (u.name.size : Int))) && c.clauses.all (fun k => !decide (10 < (k.start.length : Int))))

theorem s_Few (c : ContractT) (n : Int) (hu : c.units.length < 4611686018427387904) (hc : c.clauses.length < 4611686018427387904) : d_Few c n = some (fewB c n) := by
  unfold d_Few fewB
  rw [forR_all (l := c.units) (fun u => !decide (60 < (u.name.size : Int))) hu (fun i hi => by
    simp only [idxI_nat', List.getElem?_eq_getElem hi, Option.bind_some]
    cases decide (60 < (c.units[i].name.size : Int)) <;> rfl)]
  rw [forR_all (l := c.clauses) (fun k => !decide (10 < (k.start.length : Int))) hc (fun i hi => by
    simp only [idxI_nat', List.getElem?_eq_getElem hi, Option.bind_some]
    cases decide (10 < (c.clauses[i].start.length : Int)) <;> rfl)]
  simp only [cond_some, Bool.cond_true_left, Option.bind_some]
  cases (decide (13 < (c.holders.length : Int)) || (decide (21 < (c.units.length : Int)) || (decide (61 < (c.acts.length : Int)) || (decide (n < (c.clauses.length : Int)) || decide (100 < (c.off.length : Int)))))) <;>
    cases c.units.all (fun u => !decide (60 < (u.name.size : Int))) <;> cases c.clauses.all (fun k => !decide (10 < (k.start.length : Int))) <;> rfl

structure FewP (c : ContractT) (n : Int) : Prop where
  nh : c.holders.length ≤ 13
  nu : c.units.length ≤ 21
  na : c.acts.length ≤ 61
  nc : c.clauses.length ≤ n
  no : c.off.length ≤ 100
  ns : ∀ k ∈ c.clauses, k.start.length ≤ 10

theorem fewB_true {c : ContractT} {n : Int} (h : fewB c n = true) : FewP c n := by
  simp only [fewB, Bool.and_eq_true, Bool.not_eq_true', Bool.or_eq_false_iff, decide_eq_false_iff_not, List.all_eq_true] at h
  obtain ⟨⟨h1, h2, h3, h4, h5⟩, _, h6⟩ := h
  exact ⟨by omega, by omega, by omega, by omega, by omega, fun k hk => by have := h6 k hk; omega⟩

theorem ContractT.Ok.valid {c : ContractT} (hc : c.Ok) : d_Valid c = some (validR c) :=
  s_Valid c (hc.off.lt (by omega)) (fun k hk => (hc.clauses.2 k hk).start.lt (by omega))
theorem ContractT.Ok.few {c : ContractT} (hc : c.Ok) (n : Int) : d_Few c n = some (fewB c n) :=
  s_Few c n (hc.units.lt (by omega)) (hc.clauses.lt (by omega))

inductive ValidIs (c : ContractT) : Int × Int → Prop where
  | lim (h : limB c = true) : ValidIs c (3, -1)
  | frame (h : limB c = false) (hf : framedB c = false) : ValidIs c (1, -1)
  | bad (h : limB c = false) (hf : framedB c = true) (i : Nat) (hi : i < c.clauses.length) (hb : clB c i = false) (hl : ∀ j, j < i → clB c j = true) : ValidIs c (1, (i : Int))
  | ok (h : limB c = false) (hf : framedB c = true) (ha : ∀ j, j < c.clauses.length → clB c j = true) : ValidIs c (0, -1)

theorem valid_is (c : ContractT) : ValidIs c (validR c) := by
  unfold validR
  cases h : limB c with
  | true => exact .lim h
  | false =>
    simp only [cond_false]
    cases hf : framedB c with
    | false => exact .frame h hf
    | true =>
      simp only [cond_true]
      cases hq : (List.range c.clauses.length).find? (fun j => !clB c j) with
      | none => exact .ok h hf (find_none hq)
      | some j => obtain ⟨h1, h2, h3⟩ := find_some hq; exact .bad h hf j h1 h2 h3

theorem validR_ok {c : ContractT} (h : (validR c).1 = 0) : limB c = false ∧ framedB c = true ∧ (∀ j, j < c.clauses.length → clB c j = true) ∧ validR c = (0, -1) := by
  have hv := valid_is c
  generalize hr : validR c = r at h hv ⊢
  cases hv with
  | lim _ => simp at h
  | frame _ _ => simp at h
  | bad _ _ i _ _ _ => simp at h
  | ok a b d => exact ⟨a, b, d, rfl⟩
theorem validR_of {c : ContractT} (h : limB c = false) (hf : framedB c = true) (ha : ∀ j, j < c.clauses.length → clB c j = true) : validR c = (0, -1) := by
  unfold validR; rw [h, hf, find_none_of ha]; rfl
end Go.Proofs.Ytgligibbgobmnaa
namespace Go.Proofs.Ytgligibbgobmnaa
set_option linter.unusedVariables false
set_option linter.unusedSimpArgs false

def Ret {α : Type} (x : Option α) (Q : α → Prop) : Prop := ∃ r, x = some r ∧ Q r
theorem Ret.some {α : Type} {a : α} {Q : α → Prop} (h : Q a) : Ret (Option.some a) Q := ⟨a, rfl, h⟩
theorem Ret.bind {α β : Type} {x : Option α} {f : α → Option β} {P : α → Prop} {Q : β → Prop} (hx : Ret x P) (hf : ∀ v, P v → Ret (f v) Q) : Ret (x.bind f) Q := by
  obtain ⟨v, rfl, hv⟩ := hx
  exact hf v hv
theorem Ret.ite {α : Type} {b : Bool} {x y : Option α} {Q : α → Prop} (h1 : b = true → Ret x Q) (h2 : b = false → Ret y Q) : Ret (bif b then x else y) Q := by
  cases b
  · exact h2 rfl
  · exact h1 rfl
theorem Ret.mono {α : Type} {x : Option α} {P Q : α → Prop} (h : Ret x P) (hq : ∀ r, P r → Q r) : Ret x Q := by
  obtain ⟨r, h1, h2⟩ := h; exact ⟨r, h1, hq r h2⟩
theorem Ret.eq {α : Type} {x : Option α} {a : α} (h : Ret x (· = a)) : x = Option.some a := by obtain ⟨r, h1, rfl⟩ := h; exact h1
theorem Ret.of {α : Type} {x : Option α} {a : α} (h : x = Option.some a) : Ret x (· = a) := ⟨a, h, rfl⟩
theorem Ret.forL {σ ρ : Type} {f : Nat → σ → Option (σ ⊕ ρ)} {n : Nat} {s0 : σ} {Q : σ ⊕ ρ → Prop} (Inv : Nat → σ → Prop) (hn : n < 4611686018427387904) (h0 : Inv 0 s0)
    (step : ∀ (i : Nat) (s : σ), i < n → Inv i s → Ret (f i s) (OutP (Inv (i + 1)) fun r => Q (.inr r))) (hQ : ∀ s, Inv n s → Q (.inl s)) : Ret (forR (n : Int) f s0) Q := by
  obtain ⟨o, h1, h2⟩ := forR_ruleL (n := n) (s0 := s0) (f := f) Inv (fun r => Q (.inr r)) hn h0 step
  refine ⟨o, h1, ?_⟩
  cases o with
  | inl s => exact hQ s h2
  | inr r => exact h2
theorem Ret.iter {σ ρ : Type} {f : σ → Option (σ ⊕ ρ)} {s0 : σ} {Q : ρ → Prop} (Inv : σ → Prop) (m : σ → Nat) (h0 : Inv s0)
    (step : ∀ s, Inv s → Ret (f s) (OutP (fun s' => Inv s' ∧ m s' < m s) Q)) : Ret (Go.Proofs.Ytgligibbgobmnaa.iter f s0) Q := iter_rule (f := f) Inv Q m step s0 h0
theorem Ret.idx {α : Type} {l : List α} {n : Int} {Q : α → Prop} (h0 : 0 ≤ n) (h1 : n < l.length) (h : ∀ hi : n.toNat < l.length, Q l[n.toNat]) : Ret (idxI l n) Q := by
  obtain ⟨hi, e⟩ := idxI_lt h0 h1
  exact ⟨_, e, h hi⟩

theorem appI_of {α : Type} {by_ : Nat} {l m : List α} (h : (l.length + m.length) * by_ ≤ 140737488355328) : appI by_ l m = some (l ++ m) := by unfold appI; rw [if_pos h]
end Go.Proofs.Ytgligibbgobmnaa
namespace Go.Proofs.Ytgligibbgobmnaa
set_option linter.unusedVariables false
set_option linter.unusedSimpArgs false

def goL {α σ ρ : Type} (F : α → σ → Option (σ ⊕ ρ)) : List α → σ → Option (σ ⊕ ρ)
  | [], s => some (.inl s)
  | x :: r, s => match F x s with
    | none => none
    | some (.inr y) => some (.inr y)
    | some (.inl s') => goL F r s'
theorem forFrom_list {α σ ρ : Type} {f : Nat → σ → Option (σ ⊕ ρ)} {F : α → σ → Option (σ ⊕ ρ)} : ∀ (l : List α) (i : Nat) (s : σ), (∀ (j : Nat) (hj : j < l.length) (s : σ), f (i + j) s = F l[j] s) → forFrom f i l.length s = goL F l s
  | [], i, s, h => rfl
  | x :: r, i, s, h => by
    have h0 := h 0 (by simp) s
    simp only [Nat.add_zero, List.getElem_cons_zero] at h0
    simp only [List.length_cons, forFrom, goL, h0]
    have ih : ∀ s', forFrom f (i + 1) r.length s' = goL F r s' := fun s' => forFrom_list r (i + 1) s' (f := f) (F := F) fun j hj s => by
      have := h (j + 1) (by simpa using hj) s
      simp only [List.getElem_cons_succ] at this
      rw [← this]; congr 1; omega
    cases F x s with
    | none => rfl
    | some o =>
      cases o with
      | inl s' => exact ih s'
      | inr y => rfl
theorem forR_list {α σ ρ : Type} {f : Nat → σ → Option (σ ⊕ ρ)} {F : α → σ → Option (σ ⊕ ρ)} (l : List α) (hl : l.length < 4611686018427387904) (h : ∀ (j : Nat) (hj : j < l.length) (s : σ), f j s = F l[j] s) (s : σ) : forR (l.length : Int) f s = goL F l s := by
  rw [forR_pos (by omega)]
  have := forFrom_list l 0 s (f := f) (F := F) (fun j hj s => by rw [Nat.zero_add]; exact h j hj s)
  simpa using this

theorem mapO_take {α β : Type} {g : α → Option β} {l : List α} {i : Nat} (hi : i < l.length) {ks : List β} (h : mapO g (l.take i) = some ks) : mapO g (l.take (i + 1)) = (g l[i]).map fun b => ks ++ [b] := by
  have app : ∀ (a b : List α), mapO g (a ++ b) = (mapO g a).bind fun x => (mapO g b).map fun y => x ++ y := by
    intro a
    induction a with
    | nil => intro b; simp [mapO]
    | cons x a ih =>
      intro b
      simp only [List.cons_append, mapO, ih]
      cases g x with
      | none => rfl
      | some y =>
        cases mapO g a with
        | none => rfl
        | some ys => cases mapO g b <;> rfl
  rw [List.take_succ_eq_append_getElem hi, app, h]
  simp only [Option.bind_some, mapO]
  cases g l[i] <;> rfl
theorem mapO_len {α β : Type} {g : α → Option β} : ∀ {l : List α} {ks : List β}, mapO g l = some ks → ks.length = l.length
  | [], ks, h => by cases h; rfl
  | x :: l, ks, h => by
    simp only [mapO] at h
    split at h
    · split at h
      · rename_i bs hb; cases h; simp [mapO_len hb]
      · cases h
    · cases h
theorem mapO_at {α β : Type} {g : α → Option β} : ∀ {l : List α} {ks : List β}, mapO g l = some ks → ∀ (i : Nat) (x : α), l[i]? = some x → ∃ b, g x = some b ∧ ks[i]? = some b
  | [], ks, h, i, x, hi => by simp at hi
  | y :: l, ks, h, i, x, hi => by
    simp only [mapO] at h
    split at h
    · rename_i b hb
      split at h
      · rename_i bs hbs
        cases h
        cases i with
        | zero => simp at hi; subst hi; exact ⟨b, hb, rfl⟩
        | succ i => exact mapO_at hbs i x (by simpa using hi)
      · cases h
    · cases h
theorem mapO_some {α β : Type} {g : α → Option β} : ∀ {l : List α}, (∀ x ∈ l, ∃ b, g x = some b) → ∃ ks, mapO g l = some ks
  | [], _ => ⟨[], rfl⟩
  | x :: l, h => by
    obtain ⟨b, hb⟩ := h x (by simp)
    obtain ⟨ks, hk⟩ := mapO_some (l := l) (fun y hy => h y (by simp [hy]))
    exact ⟨b :: ks, by simp only [mapO, hb, hk]⟩
theorem mapO_none_take {α β : Type} {g : α → Option β} {l : List α} {i : Nat} (h : mapO g (l.take i) = none) : mapO g l = none := by
  cases hl : mapO g l with
  | none => rfl
  | some ks =>
    obtain ⟨ks', hk⟩ := mapO_some (g := g) (l := l.take i) (fun x hx => by
      obtain ⟨j, hj, e⟩ := List.getElem_of_mem (List.mem_of_mem_take hx)
      obtain ⟨b, hb, _⟩ := mapO_at hl j x (by rw [← e]; exact List.getElem?_eq_getElem hj)
      exact ⟨b, hb⟩)
    rw [hk] at h; cases h

theorem forR_sets {α β ρ : Type} {f : Nat → List β → Option (List β ⊕ ρ)} (l : List α) (g : α → Option β) (s0 : List β) (u : ρ) (hlen : s0.length = l.length) (hl : l.length < 4611686018427387904)
    (h : ∀ (i : Nat) (hi : i < l.length) (ks : List β), ks.length = i → f i (ks ++ s0.drop i) = some (match g l[i] with | some b => .inl ((ks ++ s0.drop i).set i b) | none => .inr u)) :
    forR (l.length : Int) f s0 = some (match mapO g l with | some ks => .inl ks | none => .inr u) := by
  obtain ⟨o, h1, h2⟩ := forR_ruleL (n := l.length) (s0 := s0) (f := f) (fun i s => ∃ ks, mapO g (l.take i) = some ks ∧ s = ks ++ s0.drop i) (fun r => r = u ∧ mapO g l = none) hl ⟨[], rfl, rfl⟩ (fun i s hi hI => by
    obtain ⟨ks, hk, rfl⟩ := hI
    have hkl : ks.length = i := by rw [mapO_len hk, List.length_take]; omega
    have e := mapO_take hi hk
    rw [h i hi ks hkl]
    cases hg : g l[i] with
    | none =>
      rw [hg] at e
      exact ⟨.inr u, rfl, rfl, mapO_none_take e⟩
    | some b =>
      rw [hg] at e
      refine ⟨_, rfl, ks ++ [b], e, ?_⟩
      have hd : i < s0.length := by omega
      rw [List.drop_eq_getElem_cons hd, List.set_append_right _ _ (by omega), hkl, Nat.sub_self, List.set_cons_zero]
      simp)
  rw [h1]
  cases o with
  | inl s =>
    obtain ⟨ks, hk, rfl⟩ := h2
    rw [List.take_length] at hk
    rw [hk, List.drop_eq_nil_of_le (by omega), List.append_nil]
  | inr r =>
    obtain ⟨rfl, hn⟩ := h2
    rw [hn]

def incB (n : Int) : Int → List Int → Bool
  | _, [] => true
  | a, x :: r => (!decide (x ≤ a) && !decide (n ≤ x)) && incB n x r
def lastI : Int → List Int → Int
  | a, [] => a
  | _, x :: r => lastI x r
theorem s_inc (n : Int) (l : List Int) (hl : l.length < 4611686018427387904) (a : Int) : forR (σ := Int) (ρ := Unit) (l.length : Int) (fun i1 s1 => (Option.bind (idxI l (i1 : Int)) fun e1 => (Option.bind (bif decide (e1 ≤ s1) then some true else some (decide (n ≤ e1))) fun v1 => (bif v1 then some (.inr ()) else some (.inl e1))))) a = some (bif incB n a l then .inl (lastI a l) else .inr ()) := by
  rw [forR_list (F := fun x s => bif (decide (x ≤ s) || decide (n ≤ x)) then some (.inr ()) else some (.inl x)) l hl (fun j hj s => by
    simp only [idxI_nat', List.getElem?_eq_getElem hj, Option.bind_some, cond_some, Bool.cond_true_left])]
  clear hl
  induction l generalizing a with
  | nil => rfl
  | cons x r ih =>
    simp only [goL, incB, lastI]
    cases decide (x ≤ a) <;> cases decide (n ≤ x) <;> simp [ih]
theorem incB_spec {n : Int} : ∀ {a : Int} {l : List Int}, incB n a l = true → (∀ x ∈ l, a < x ∧ x < n) ∧ l.Pairwise (· < ·)
  | a, [], _ => ⟨fun x hx => (by cases hx), List.Pairwise.nil⟩
  | a, x :: r, h => by
    simp only [incB, Bool.and_eq_true, Bool.not_eq_true', decide_eq_false_iff_not] at h
    obtain ⟨⟨h1, h2⟩, h3⟩ := h
    obtain ⟨h4, h5⟩ := incB_spec h3
    refine ⟨fun y hy => ?_, List.pairwise_cons.2 ⟨fun y hy => (h4 y hy).1, h5⟩⟩
    rcases List.mem_cons.1 hy with rfl | hy
    · exact ⟨by omega, by omega⟩
    · have := h4 y hy; exact ⟨by omega, this.2⟩
theorem incB_of {n : Int} : ∀ {a : Int} {l : List Int}, (∀ x ∈ l, a < x ∧ x < n) → l.Pairwise (· < ·) → incB n a l = true
  | a, [], _, _ => rfl
  | a, x :: r, h, hp => by
    have h1 := h x (by simp)
    obtain ⟨h2, h3⟩ := List.pairwise_cons.1 hp
    simp only [incB, Bool.and_eq_true, Bool.not_eq_true', decide_eq_false_iff_not]
    exact ⟨⟨by omega, by omega⟩, incB_of (fun y hy => ⟨h2 y hy, (h y (by simp [hy])).2⟩) h3⟩
theorem incB_len {n : Int} : ∀ {a : Int} {l : List Int}, incB n a l = true → (l.length : Int) ≤ 0 ∨ a + l.length < n
  | a, [], _ => .inl (by simp)
  | a, x :: r, h => by
    simp only [incB, Bool.and_eq_true, Bool.not_eq_true', decide_eq_false_iff_not] at h
    obtain ⟨⟨h1, h2⟩, h3⟩ := h
    rcases incB_len h3 with h4 | h4
    · simp only [List.length_cons]; omega
    · simp only [List.length_cons]; omega
theorem inc_nodup {l : List Int} (h : l.Pairwise (· < ·)) : l.Nodup := h.imp fun h => by omega
end Go.Proofs.Ytgligibbgobmnaa
namespace Go.Proofs.Ytgligibbgobmnaa
open Go.RowKit
set_option linter.unusedVariables false
set_option linter.unusedSimpArgs false
set_option maxRecDepth 100000

def up (above : List Int) (i : Nat) : Nat := (above.getD i 0).toNat
structure UF (n : Nat) (above : List Int) : Prop where
  len : above.length = 400
  le : ∀ i, i < n → 0 ≤ above.getD i 0 ∧ above.getD i 0 ≤ (i : Int)
  n400 : n ≤ 400

def rt (above : List Int) : Nat → Nat → Nat
  | 0, i => i
  | k + 1, i => if up above i = i then i else rt above k (up above i)
def root (above : List Int) (i : Nat) : Nat := rt above (i + 1) i

theorem UF.up_le {n : Nat} {above : List Int} (h : UF n above) {i : Nat} (hi : i < n) : up above i ≤ i := by
  have := h.le i hi; unfold up; omega
theorem UF.rt_eq {n : Nat} {above : List Int} (h : UF n above) : ∀ (k k' i : Nat), i < n → i < k → i < k' → rt above k i = rt above k' i
  | 0, _, i, _, h1, _ => by omega
  | _, 0, i, _, _, h1 => by omega
  | k + 1, k' + 1, i, hi, h1, h2 => by
    simp only [rt]
    split
    · rfl
    · have := h.up_le hi
      exact h.rt_eq k k' (up above i) (by omega) (by omega) (by omega)
theorem UF.root_eq {n : Nat} {above : List Int} (h : UF n above) {i : Nat} (hi : i < n) : root above i = if up above i = i then i else root above (up above i) := by
  show (if up above i = i then i else rt above i (up above i)) = _
  have hu := h.up_le hi
  split
  · rfl
  · exact h.rt_eq i (up above i + 1) (up above i) (by omega) (by omega) (by omega)
theorem UF.root_le {n : Nat} {above : List Int} (h : UF n above) : ∀ (i : Nat), i < n → root above i ≤ i := by
  intro i
  induction i using Nat.strongRecOn with
  | _ i ih =>
    intro hi
    rw [h.root_eq hi]
    have hu := h.up_le hi
    split
    · exact Nat.le_refl _
    · have := ih (up above i) (by omega) (by omega); omega
theorem UF.root_up {n : Nat} {above : List Int} (h : UF n above) : ∀ (i : Nat), i < n → up above (root above i) = root above i := by
  intro i
  induction i using Nat.strongRecOn with
  | _ i ih =>
    intro hi
    rw [h.root_eq hi]
    have hu := h.up_le hi
    split
    · assumption
    · exact ih (up above i) (by omega) (by omega)
theorem UF.root_root {n : Nat} {above : List Int} (h : UF n above) {i : Nat} (hi : i < n) : root above (root above i) = root above i := by
  have h1 := h.root_up i hi
  have h2 := h.root_le i hi
  rw [h.root_eq (i := root above i) (by omega), if_pos h1]

theorem up_set {above : List Int} {k i : Nat} {v : Int} (hk : k < above.length) : up (above.set k v) i = if i = k then v.toNat else up above i := by
  unfold up
  rw [List.getD_eq_getElem?_getD, List.getD_eq_getElem?_getD, List.getElem?_set]
  by_cases h : k = i
  · subst h; simp [hk]
  · rw [if_neg h, if_neg (fun e => h e.symm)]
theorem UF.set {n : Nat} {above : List Int} (h : UF n above) {k : Nat} {v : Int} (hv : 0 ≤ v) (hv2 : v ≤ k) : UF n (above.set k v) := by
  refine ⟨by simp [h.len], fun i hi => ?_, h.n400⟩
  rw [List.getD_eq_getElem?_getD, List.getElem?_set]
  by_cases e : k = i
  · subst e
    rw [if_pos rfl]
    have := h.n400
    rw [if_pos (by rw [h.len]; omega)]
    exact ⟨hv, hv2⟩
  · rw [if_neg e, ← List.getD_eq_getElem?_getD]
    exact h.le i hi

theorem UF.compress {n : Nat} {above : List Int} (h : UF n above) {k : Nat} (hk : k < n) : UF n (above.set k (root above k : Int)) ∧ ∀ i, i < n → root (above.set k (root above k : Int)) i = root above i := by
  have hle := h.root_le k hk
  have h' : UF n (above.set k (root above k : Int)) := h.set (by omega) (by omega)
  refine ⟨h', fun i => ?_⟩
  have hkl : k < above.length := by rw [h.len]; have := h.n400; omega
  induction i using Nat.strongRecOn with
  | _ i ih =>
    intro hi
    rw [h'.root_eq hi, up_set hkl]
    by_cases e : i = k
    · subst e
      rw [if_pos rfl]
      simp only [Int.toNat_natCast]
      split
      · rename_i e2; exact e2.symm
      · have : root above i < i := by omega
        rw [ih (root above i) this (by omega), h.root_root hi]
    · rw [if_neg e, h.root_eq hi]
      have hu := h.up_le hi
      split
      · rfl
      · exact ih (up above i) (by omega) (by omega)

theorem UF.join {n : Nat} {above : List Int} (h : UF n above) {a b : Nat} (ha : a < n) (hb : b ≤ a) (hra : root above a = a) (hrb : root above b = b) : UF n (above.set a (b : Int)) ∧ ∀ i, i < n → root (above.set a (b : Int)) i = if root above i = a then b else root above i := by
  have h' : UF n (above.set a (b : Int)) := h.set (by omega) (by omega)
  refine ⟨h', fun i => ?_⟩
  have hkl : a < above.length := by rw [h.len]; have := h.n400; omega
  have hua : up above a = a := by have := h.root_up a ha; rw [hra] at this; exact this
  have hub : up above b = b := by have := h.root_up b (by omega); rw [hrb] at this; exact this
  induction i using Nat.strongRecOn with
  | _ i ih =>
    intro hi
    rw [h'.root_eq hi, up_set hkl]
    by_cases e : i = a
    · subst e
      rw [if_pos rfl, hra, if_pos rfl]
      simp only [Int.toNat_natCast]
      split
      · rename_i e2; exact e2.symm
      · rw [ih b (by omega) (by omega), hrb]
        split
        · rfl
        · rfl
    · rw [if_neg e]
      have hu := h.up_le hi
      split
      · rename_i e2
        have : root above i = i := by rw [h.root_eq hi, if_pos e2]
        rw [this, if_neg e]
      · rename_i e2
        have : root above i = root above (up above i) := by rw [h.root_eq hi, if_neg e2]
        rw [this]
        exact ih (up above i) (by omega) (by omega)

theorem getD_at {above : List Int} {k : Nat} (hk : k < above.length) : above[k]? = some (above.getD k 0) := by
  rw [List.getD_eq_getElem?_getD, List.getElem?_eq_getElem hk]; rfl

structure SameR (n : Nat) (above above' : List Int) : Prop where
  uf : UF n above'
  eq : ∀ i, i < n → root above' i = root above i

theorem root_n {n : Nat} : ∀ (k i : Nat) (above : List Int), UF n above → i < n → i < k → ∃ above', d_29a_n k (i : Int) above = some ((root above i : Int), above') ∧ SameR n above above'
  | 0, i, above, _, _, h => by omega
  | k + 1, i, above, h, hi, hik => by
    have h400 := h.n400
    have hl := h.len
    have hle := h.le i hi
    simp only [d_29a_n]
    unfold d_29a_s
    have e1 : idxN 400 (i : Int) = some i := idxN_nat (by omega)
    simp only [e1, Option.bind_some, getD_at (show i < above.length by omega)]
    by_cases e : above.getD i 0 = (i : Int)
    · have hb : (above.getD i 0 == (i : Int)) = true := by rw [e]; simp
      rw [hb]
      simp only [cond_true, Option.bind_some, getD_at (show i < above.length by omega)]
      have hr : root above i = i := by rw [h.root_eq hi, if_pos (by unfold up; omega)]
      exact ⟨above, by rw [hr, e], h, fun _ _ => rfl⟩
    · have hb : (above.getD i 0 == (i : Int)) = false := beq_eq_false_iff_ne.2 e
      rw [hb]
      simp only [cond_false, Option.bind_some]
      have hup : above.getD i 0 = (up above i : Int) := by unfold up; omega
      have hult : up above i < i := by unfold up; omega
      obtain ⟨a1, h1, h2⟩ := root_n k (up above i) above h (by omega) (by omega)
      have hre : root above i = root above (up above i) := by rw [h.root_eq hi, if_neg (by omega)]
      have hl1 := h2.uf.len
      rw [hup, h1]
      simp only [Option.bind_some, getD_at (show i < a1.length by omega)]
      have hri : root a1 i = root above (up above i) := by rw [h2.eq i hi, hre]
      obtain ⟨c1, c2⟩ := h2.uf.compress hi
      rw [hri] at c1 c2
      rw [List.getElem?_set_self (by omega)]
      simp only [Option.bind_some]
      exact ⟨_, by rw [hre], c1, fun j hj => by rw [c2 j hj, h2.eq j hj]⟩

theorem s_root {n i : Nat} {above : List Int} (h : UF n above) (hi : i < n) : ∃ above', d_29a (i : Int) above = some ((root above i : Int), above') ∧ SameR n above above' := by
  obtain ⟨a1, h1, h2⟩ := root_n (i + 1) i above h hi (Nat.lt_succ_self _)
  have key : ∀ (k k' i : Nat) (above : List Int), UF n above → i < n → i < k → i < k' → d_29a_n k (i : Int) above = d_29a_n k' (i : Int) above := by
    intro k
    induction k with
    | zero => intro k' i above _ _ h; omega
    | succ k ih =>
      intro k' i above h hi h1 h2
      cases k' with
      | zero => omega
      | succ k' =>
        have h400 := h.n400
        have hl := h.len
        have hle := h.le i hi
        simp only [d_29a_n]
        unfold d_29a_s
        have e1 : idxN 400 (i : Int) = some i := idxN_nat (by omega)
        simp only [e1, Option.bind_some, getD_at (show i < above.length by omega)]
        cases hb : (above.getD i 0 == (i : Int)) with
        | true => rfl
        | false =>
          have e := beq_eq_false_iff_ne.1 hb
          have hup : above.getD i 0 = (up above i : Int) := by unfold up; omega
          have hult : up above i < i := by unfold up; omega
          simp only [cond_false]
          rw [hup, ih k' (up above i) above h (by omega) (by omega) (by omega)]
  refine ⟨a1, ?_, h2⟩
  unfold d_29a
  exact lim_of (i + 1) fun k' hk => by rw [key k' (i + 1) i above h hi (by omega) (by omega)]; exact h1

theorem s_join {n i j : Nat} {above : List Int} (h : UF n above) (hi : i < n) (hj : j < n) : ∃ above', d_30a (i : Int) (j : Int) above = some above' ∧ UF n above' ∧ root above' i = root above' j ∧ ∀ x y, x < n → y < n → root above x = root above y → root above' x = root above' y := by
  unfold d_30a
  obtain ⟨a1, e1, s1⟩ := s_root h hi
  obtain ⟨a2, e2, s2⟩ := s_root s1.uf hj
  obtain ⟨a3, e3, s3⟩ := s_root s2.uf hi
  obtain ⟨a4, e4, s4⟩ := s_root s3.uf hj
  have r2 : root a1 j = root above j := s1.eq j hj
  have r3 : root a2 i = root above i := by rw [s2.eq i hi, s1.eq i hi]
  have r4 : root a3 j = root above j := by rw [s3.eq j hj, s2.eq j hj, r2]
  have heq : ∀ x, x < n → root a4 x = root above x := fun x hx => by rw [s4.eq x hx, s3.eq x hx, s2.eq x hx, s1.eq x hx]
  rw [r2] at e2
  rw [r3] at e3
  rw [r4] at e4
  simp only [e1, Option.bind_some, e2, e3, e4]
  have hli := h.root_le i hi
  have hlj := h.root_le j hj
  have h400 := h.n400
  have hl4 := s4.uf.len
  have rri : root a4 (root above i) = root above i := by rw [heq _ (by omega), h.root_root hi]
  have rrj : root a4 (root above j) = root above j := by rw [heq _ (by omega), h.root_root hj]
  have main : ∀ a b : Nat, a < n → b ≤ a → root a4 a = a → root a4 b = b → (a = root above i ∧ b = root above j ∨ a = root above j ∧ b = root above i) →
      ∃ above', (Option.bind (idxN 400 (a : Int)) fun k1 => Option.bind (a4[k1]?) fun e1 => some (a4.set k1 (b : Int))) = some above' ∧ UF n above' ∧ root above' i = root above' j ∧ ∀ x y, x < n → y < n → root above x = root above y → root above' x = root above' y := fun a b ha hb ra rb hc => by
    obtain ⟨u1, u2⟩ := s4.uf.join ha hb ra rb
    refine ⟨_, by rw [idxN_nat (by omega)]; simp only [Option.bind_some, getD_at (show a < a4.length by omega)], u1, ?_, fun x y hx hy hxy => ?_⟩
    · rw [u2 i hi, u2 j hj, heq i hi, heq j hj]
      rcases hc with ⟨c1, c2⟩ | ⟨c1, c2⟩
      · rw [if_pos c1.symm]
        split
        · rfl
        · exact c2
      · rw [if_pos c1.symm]
        split
        · rfl
        · exact c2.symm
    · rw [u2 x hx, u2 y hy, heq x hx, heq y hy, hxy]
  by_cases hlt : root above i < root above j
  · rw [if_pos (by omega), if_neg (by omega)]
    exact main _ _ (by omega) (by omega) rrj rri (.inr ⟨rfl, rfl⟩)
  · rw [if_neg (by omega)]
    by_cases hlt2 : root above j < root above i
    · rw [if_pos (by omega)]
      exact main _ _ (by omega) (by omega) rri rrj (.inl ⟨rfl, rfl⟩)
    · have : root above i = root above j := by omega
      rw [if_neg (by omega)]
      exact main _ _ (by omega) (by omega) rri rri (.inl ⟨rfl, this⟩)
end Go.Proofs.Ytgligibbgobmnaa
namespace Go.Proofs.Ytgligibbgobmnaa
open Go.RowKit
set_option linter.unusedVariables false
set_option linter.unusedSimpArgs false
set_option maxRecDepth 100000

theorem s_less (x y : Int) : d_less x y = some (decide (x < y)) := by
  simp [d_less, d_isNaN2]

theorem s_half {a b : Int} (h0 : 0 ≤ a) (h1 : a ≤ b) (h2 : b < 4611686018427387904) : shrI .u64 .u64 (IntKind.u64.wrap (IntKind.i64.wrap (a + b))) 1 = some ((a + b) / 2) := by
  rw [wrap_i64 (by omega) (by omega), wrap_u64 (by omega) (by omega)]
  unfold shrI
  rw [if_neg (by omega)]
  have : (2 : Int) ^ (min (1 : Int).toNat IntKind.u64.bits) = 2 := by decide
  rw [this, Int.fdiv_eq_ediv_of_nonneg _ (by omega)]

def posI (l : List Int) (v : Int) : Option Int := if v ∈ l then some (l.idxOf v : Int) else none
theorem idxOf_eq {l : List Int} (hn : l.Nodup) {i : Nat} (hi : i < l.length) : l.idxOf l[i] = i := by
  have h1 : l.idxOf l[i] < l.length := List.idxOf_lt_length_iff.2 (List.getElem_mem hi)
  have h2 := List.getElem_idxOf h1
  exact (List.getElem?_inj h1 hn).1 (by rw [List.getElem?_eq_getElem h1, List.getElem?_eq_getElem hi, h2])
theorem posI_some {l : List Int} {v p : Int} (h : posI l v = some p) : 0 ≤ p ∧ l[p.toNat]? = some v := by
  unfold posI at h
  split at h
  · rename_i hm
    cases h
    have h1 : l.idxOf v < l.length := List.idxOf_lt_length_iff.2 hm
    exact ⟨by omega, by simp only [Int.toNat_natCast]; rw [List.getElem?_eq_getElem h1, List.getElem_idxOf h1]⟩
  · cases h
theorem posI_at {l : List Int} (hn : l.Nodup) {i : Nat} {v : Int} (h : l[i]? = some v) : posI l v = some (i : Int) := by
  obtain ⟨hi, rfl⟩ := List.getElem?_eq_some_iff.1 h
  unfold posI
  rw [if_pos (List.getElem_mem hi), idxOf_eq hn hi]

theorem s_BinarySearch (l : List Int) (v : Int) (hs : l.Pairwise (· < ·)) (hl : l.length < 4611686018427387904) : ∃ r : Int, d_BinarySearch l v = some (r, (posI l v).isSome) ∧ ∀ p, posI l v = some p → r = p := by
  have hp := List.pairwise_iff_getElem.1 hs
  unfold d_BinarySearch
  have hit : Ret (iter (σ := Int × Int) (ρ := Int) (fun s1 => (bif decide (s1.1 < s1.2) then (Option.bind (shrI .u64 .u64 (IntKind.u64.wrap (IntKind.i64.wrap (s1.1 + s1.2))) 1) fun e1 => (Option.bind (idxI l (IntKind.i64.wrap e1)) fun e2 => (Option.bind (d_less e2 v) fun r1 => (bif r1 then some (.inl ((IntKind.i64.wrap ((IntKind.i64.wrap e1) + 1)), s1.2)) else some (.inl (s1.1, (IntKind.i64.wrap e1))))))) else some (.inr s1.1))) (0, (l.length : Int)))
      (fun r => 0 ≤ r ∧ r ≤ l.length ∧ (∀ (j : Nat) (hj : j < l.length), (j : Int) < r → l[j] < v) ∧ (∀ (j : Nat) (hj : j < l.length), r ≤ (j : Int) → v ≤ l[j])) := by
    refine Ret.iter (fun s => 0 ≤ s.1 ∧ s.1 ≤ s.2 ∧ s.2 ≤ l.length ∧ (∀ (j : Nat) (hj : j < l.length), (j : Int) < s.1 → l[j] < v) ∧ (∀ (j : Nat) (hj : j < l.length), s.2 ≤ (j : Int) → v ≤ l[j])) (fun s => (s.2 - s.1).toNat) ⟨by simp, by simp, by simp, fun j hj h => by simp only at h; omega, fun j hj h => by simp only at h; omega⟩ ?_
    rintro ⟨lo, hi⟩ ⟨h1, h2, h3, h4, h5⟩
    simp only at h1 h2 h3 h4 h5 ⊢
    refine Ret.ite (fun hb => ?_) (fun hb => ?_)
    · have hlt := of_decide_eq_true hb
      rw [s_half h1 h2 (by omega)]
      simp only [Option.bind_some]
      have hm1 : lo ≤ (lo + hi) / 2 := by omega
      have hm2 : (lo + hi) / 2 < hi := by omega
      generalize (lo + hi) / 2 = m at hm1 hm2 ⊢
      rw [wrap_i64 (by omega) (by omega)]
      obtain ⟨hi', e⟩ := idxI_lt (l := l) (n := m) (by omega) (by omega)
      rw [e, wrap_i64 (by omega) (by omega)]
      simp only [Option.bind_some, s_less]
      refine Ret.ite (fun hb2 => ?_) (fun hb2 => ?_)
      · have hv := of_decide_eq_true hb2
        refine Ret.some ⟨⟨by show 0 ≤ m + 1; omega, by show m + 1 ≤ hi; omega, h3, fun j hj hjm => ?_, h5⟩, by show (hi - (m + 1)).toNat < (hi - lo).toNat; omega⟩
        have hjm : (j : Int) < m + 1 := hjm
        rcases Nat.lt_or_ge j m.toNat with h | h
        · have := hp j m.toNat hj hi' h; omega
        · obtain rfl : j = m.toNat := by omega
          exact hv
      · have hv : ¬ l[m.toNat] < v := of_decide_eq_false hb2
        refine Ret.some ⟨⟨h1, by show lo ≤ m; omega, by show m ≤ (l.length : Int); omega, h4, fun j hj hjm => ?_⟩, by show (m - lo).toNat < (hi - lo).toNat; omega⟩
        have hjm : m ≤ (j : Int) := hjm
        rcases Nat.lt_or_ge m.toNat j with h | h
        · have := hp m.toNat j hi' hj h; omega
        · obtain rfl : j = m.toNat := by omega
          omega
    · have hlt : ¬ lo < hi := of_decide_eq_false hb
      have : lo = hi := by omega
      subst this
      exact Ret.some ⟨h1, h3, h4, h5⟩
  obtain ⟨r, hr, hr0, hr1, hr2, hr3⟩ := hit
  rw [hr]
  simp only [Option.bind_some]
  by_cases hlt : r < (l.length : Int)
  · obtain ⟨hi', e⟩ := idxI_lt (l := l) (n := r) hr0 hlt
    simp only [hlt, decide_true, cond_true, e, Option.bind_some]
    by_cases hv : l[r.toNat] = v
    · have hpos : posI l v = some (r.toNat : Int) := posI_at (inc_nodup hs) (by rw [List.getElem?_eq_getElem hi', hv])
      refine ⟨r, by simp [hv, hpos], fun p hp => ?_⟩
      rw [hpos] at hp; cases hp; omega
    · have hn : posI l v = none := by
        unfold posI
        rw [if_neg]
        intro hm
        obtain ⟨j, hj, e2⟩ := List.getElem_of_mem hm
        rcases Nat.lt_trichotomy j r.toNat with h | h | h
        · have := hr2 j hj (by omega); omega
        · subst h; exact hv e2
        · have h6 := hp r.toNat j hi' hj h
          have h7 := hr3 r.toNat hi' (by omega)
          omega
      refine ⟨r, ?_, fun p hp => by rw [hn] at hp; cases hp⟩
      rw [hn]
      have : (l[r.toNat] == v) = false := beq_eq_false_iff_ne.2 hv
      simp [this, d_isNaN]
  · have hn : posI l v = none := by
      unfold posI
      rw [if_neg]
      intro hm
      obtain ⟨j, hj, e2⟩ := List.getElem_of_mem hm
      have := hr2 j hj (by omega); omega
    refine ⟨r, ?_, fun p hp => by rw [hn] at hp; cases hp⟩
    rw [hn]
    simp [hlt]

def emptyC : ContractT := { parties := 0, holders := [], units := [], acts := [], clauses := [], days := 0, off := [] }
def condP (l : List Int) (s : CondT) : Option CondT := (posI l s.clause).map fun p => ({ clause := p, is := s.is } : CondT)
def selK (c : ContractT) (l : List Int) (i : Int) : Option ClauseT := (idxI c.clauses i).bind fun k => (mapO (condP l) k.start).map fun st => ({ k with start := st } : ClauseT)
noncomputable def partR (c : ContractT) (l : List Int) : ContractT × Int :=
  bif (validR c).1 == 0 then bif incB c.clauses.length (-1) l then (match mapO (selK c l) l with
    | some ks => (({ c with clauses := ks } : ContractT), 0)
    | none => (emptyC, 1)) else (emptyC, 1) else (emptyC, 1)

theorem off_len {days : Int} {off : List Int} (hl : off.length < 4611686018427387904) (h : offB days off = true) : (off.length : Int) ≤ days ∨ off.length = 0 := by
  have e : offB days off = incB days (-1) off := by
    unfold offB
    rw [s_inc days off hl (-1)]
    cases incB days (-1) off <;> rfl
  rw [e] at h
  rcases incB_len h with h1 | h1 <;> omega

structure Small (c : ContractT) : Prop where
  parties : 1 ≤ c.parties ∧ c.parties ≤ 12
  days : 1 ≤ c.days ∧ c.days ≤ 2000
  holders : c.holders.length ≤ 12
  units : c.units.length ≤ 20
  acts : c.acts.length ≤ 60
  clauses : c.clauses.length ≤ 400
  off : c.off.length ≤ 2000
  start : ∀ k ∈ c.clauses, k.start.length ≤ 8
  cond : ∀ (i : Nat) (k : ClauseT), c.clauses[i]? = some k → ∀ s ∈ k.start, 0 ≤ s.clause ∧ s.clause < c.clauses.length ∧ s.clause ≠ (i : Int)

theorem small_of {c : ContractT} (ho : c.off.length < 4611686018427387904) (h : (validR c).1 = 0) : Small c := by
  obtain ⟨h1, h2, h3, _⟩ := validR_ok h
  simp only [limB, Bool.or_eq_false_iff, decide_eq_false_iff_not] at h1
  obtain ⟨a1, a2, a3, a4, a5, a6⟩ := h1
  simp only [framedB, Bool.and_eq_true, Bool.not_eq_true', decide_eq_false_iff_not] at h2
  obtain ⟨b1, b2, b3, b4, b5, b6, b7⟩ := h2
  have hcl : ∀ (i : Nat) (k : ClauseT), c.clauses[i]? = some k → clauseB c.holders.length c.units c.acts c.clauses.length i k = true := fun i k hk => by
    have := h3 i (List.getElem?_eq_some_iff.1 hk).1
    simp only [clB, hk] at this
    exact this
  refine ⟨⟨by omega, by omega⟩, ⟨by omega, by omega⟩, by omega, by omega, by omega, by omega, ?_, fun k hk => ?_, fun i k hk s hs => ?_⟩
  · rcases off_len ho b7 with h | h <;> omega
  · obtain ⟨i, hi, e⟩ := List.getElem_of_mem hk
    have := hcl i k (by rw [← e]; exact List.getElem?_eq_getElem hi)
    simp only [clauseB, Bool.and_eq_true, Bool.not_eq_true', decide_eq_false_iff_not] at this
    omega
  · have := hcl i k hk
    simp only [clauseB, Bool.and_eq_true] at this
    have := List.all_eq_true.1 this.2.2.1 s hs
    simp only [condB, Bool.and_eq_true, Bool.not_eq_true', decide_eq_false_iff_not, beq_eq_false_iff_ne] at this
    exact ⟨by omega, by omega, this.2.2.1⟩

theorem cloneI_of {α : Type} {by_ : Nat} {l : List α} (h : l.length * by_ ≤ 140737488355328) : cloneI by_ l = some l := by unfold cloneI; rw [if_pos h]

theorem s_Part (c : ContractT) (l : List Int) (ho : c.off.length < 4611686018427387904) (hst : ∀ k ∈ c.clauses, k.start.length < 4611686018427387904) (hl : l.length < 4611686018427387904) : d_Part c l = some (partR c l) := by
  unfold d_Part partR
  rw [s_Valid c ho hst]
  simp only [Option.bind_some]
  cases hv : ((validR c).1 == 0) with
  | false => rfl
  | true =>
    have sm := small_of ho (by simpa using hv)
    simp only [cond_true]
    rw [s_inc c.clauses.length l hl (-1)]
    simp only [Option.bind_some]
    cases hi : incB c.clauses.length (-1) l with
    | false => rfl
    | true =>
      obtain ⟨hr, hp⟩ := incB_spec hi
      have hlen : l.length ≤ 400 := by
        have := incB_len hi; have := sm.clauses; omega
      have e1 := sm.holders
      have e2 := sm.units
      have e3 := sm.acts
      have e4 := sm.off
      simp only [cond_true, Sum.elim_inl]
      rw [cloneI_of (by omega), cloneI_of (by omega), cloneI_of (by omega), cloneI_of (by omega)]
      have hmk : mkN 136 (l.length : Int) = some l.length := by
        unfold mkN; rw [if_pos (by omega)]; simp
      simp only [Option.bind_some, hmk]
      rw [forR_sets l (selK c l) _ () (by simp) (by omega) (fun i hi' ks hks => by
        have hx := hr l[i] (List.getElem_mem hi')
        obtain ⟨hci, eci⟩ := idxI_lt (l := c.clauses) (n := l[i]) (by omega) (by omega)
        simp only [idxI_nat', List.getElem?_eq_getElem hi', Option.bind_some, eci, selK]
        have hsl := sm.start _ (List.getElem_mem hci)
        rw [cloneI_of (by omega)]
        simp only [Option.bind_some]
        generalize hk : c.clauses[l[i].toNat] = k at hsl ⊢
        rw [forR_sets k.start (condP l) k.start () rfl (by omega) (fun i3 hi3 ks3 hks3 => by
          have hg : (ks3 ++ k.start.drop i3)[i3]? = some k.start[i3] := by
            rw [List.getElem?_append_right (by omega), hks3, Nat.sub_self, List.getElem?_drop]; simp [hi3]
          obtain ⟨r, hb1, hb2⟩ := s_BinarySearch l k.start[i3].clause hp hl
          simp only [idxN_nat hi3, Option.bind_some, hg, hb1, condP]
          cases hpos : posI l k.start[i3].clause with
          | none => rfl
          | some p => rw [hb2 p hpos]; rfl)]
        simp only [Option.bind_some]
        cases hm : mapO (condP l) k.start with
        | none => rfl
        | some st =>
          have hst' := mapO_len hm
          simp only [Sum.elim_inl, idxN_nat hi', Option.bind_some, Option.map_some]
          have hg : (ks ++ (List.replicate l.length ({ kind := 0, role := 0, act := 0, need := 0, start := [], after := 0, grace := 0, business := false, final := false, pause := 0, resume := 0, value := ({ num := 0, den := 0 } : Ratio), unit := 0, to := 0, waived := false } : ClauseT)).drop i)[i]?.isSome = true := by
            simp [hks, hi']; omega
          obtain ⟨z, hz⟩ := Option.isSome_iff_exists.1 hg
          rw [hz]
          simp only [Option.bind_some]
          rw [List.take_of_length_le (by omega)])]
      simp only [Option.bind_some]
      cases hm : mapO (selK c l) l with
      | none => rfl
      | some ks =>
        simp only [Sum.elim_inl]
        rw [List.take_of_length_le (by rw [mapO_len hm]; exact Nat.le_refl _)]

structure PartOk (c : ContractT) (l : List Int) (ks : List ClauseT) : Prop where
  valid : (validR c).1 = 0
  inc : incB c.clauses.length (-1) l = true
  sel : mapO (selK c l) l = some ks

theorem PartOk.eq {c : ContractT} {l : List Int} {ks : List ClauseT} (h : PartOk c l ks) : partR c l = (({ c with clauses := ks } : ContractT), 0) := by
  unfold partR
  rw [h.valid, h.inc, h.sel]; rfl

theorem selK_some {c : ContractT} {l : List Int} {i : Int} {k' : ClauseT} (h : selK c l i = some k') : ∃ k st, 0 ≤ i ∧ c.clauses[i.toNat]? = some k ∧ mapO (condP l) k.start = some st ∧ k' = ({ k with start := st } : ClauseT) := by
  unfold selK at h
  obtain ⟨k, h1, h2⟩ := obind h
  obtain ⟨h3, h4, _⟩ := idxI_some h1
  rw [Option.map_eq_some_iff] at h2
  obtain ⟨st, h5, h6⟩ := h2
  exact ⟨k, st, h3, h4, h5, h6.symm⟩
theorem condP_some {l : List Int} {s s' : CondT} (h : condP l s = some s') : ∃ p, posI l s.clause = some p ∧ s' = ({ clause := p, is := s.is } : CondT) := by
  unfold condP at h
  rw [Option.map_eq_some_iff] at h
  obtain ⟨p, h1, h2⟩ := h
  exact ⟨p, h1, h2.symm⟩

theorem PartOk.ok {c : ContractT} {l : List Int} {ks : List ClauseT} (ho : c.off.length < 4611686018427387904) (h : PartOk c l ks) : validR ({ c with clauses := ks } : ContractT) = (0, -1) := by
  have sm := small_of ho h.valid
  obtain ⟨v1, v2, v3, _⟩ := validR_ok h.valid
  obtain ⟨hr, hp⟩ := incB_spec h.inc
  have hkl := mapO_len h.sel
  have hlen := incB_len h.inc
  have hcl := sm.clauses
  refine validR_of ?_ v2 ?_
  · simp only [limB, Bool.or_eq_false_iff, decide_eq_false_iff_not] at v1 ⊢
    refine ⟨v1.1, v1.2.1, v1.2.2.1, v1.2.2.2.1, v1.2.2.2.2.1, by omega⟩
  · intro j hj
    have hj : j < ks.length := hj
    obtain ⟨k', h1, h2⟩ := mapO_at h.sel j l[j] (List.getElem?_eq_getElem (by omega))
    obtain ⟨k, st, h3, h4, h5, rfl⟩ := selK_some h1
    have hold := v3 l[j].toNat (List.getElem?_eq_some_iff.1 h4).1
    simp only [clB, h4] at hold
    simp only [clB, h2]
    simp only [clauseB, Bool.and_eq_true] at hold ⊢
    obtain ⟨a1, ⟨a2, a3⟩, a4, a5, a6⟩ := hold
    refine ⟨a1, ⟨a2, by rw [mapO_len h5]; exact a3⟩, ?_, a5, a6⟩
    refine List.all_eq_true.2 fun s' hs' => ?_
    obtain ⟨q, hq, e⟩ := List.getElem_of_mem hs'
    have hq' : q < k.start.length := by rw [← mapO_len h5]; exact hq
    obtain ⟨b, h6, h7⟩ := mapO_at h5 q k.start[q] (List.getElem?_eq_getElem hq')
    rw [List.getElem?_eq_getElem hq] at h7
    cases h7
    obtain ⟨p, h8, h9⟩ := condP_some h6
    have hold := List.all_eq_true.1 a4 k.start[q] (List.getElem_mem hq')
    obtain ⟨p1, p2⟩ := posI_some h8
    have p3 := (List.getElem?_eq_some_iff.1 p2).1
    rw [← e, h9]
    simp only [condB, Bool.and_eq_true, Bool.not_eq_true', decide_eq_false_iff_not, beq_eq_false_iff_ne] at hold ⊢
    refine ⟨by omega, by omega, fun hpj => ?_, hold.2.2.2⟩
    subst hpj
    simp only [Int.toNat_natCast] at p2
    rw [List.getElem?_eq_getElem (by omega)] at p2
    have p4 := Option.some.inj p2
    exact hold.2.2.1 (by omega)
end Go.Proofs.Ytgligibbgobmnaa
namespace Go.Proofs.Ytgligibbgobmnaa
open Go.RowKit
set_option linter.unusedVariables false
set_option linter.unusedSimpArgs false
set_option maxRecDepth 100000

/-! Parts by roots. -/
structure RootFn (n : Nat) (ρ : Nat → Nat) : Prop where
  le : ∀ x, x < n → ρ x ≤ x
  idem : ∀ x, x < n → ρ (ρ x) = ρ x
def rootsB (ρ : Nat → Nat) (i : Nat) : List Nat := (List.range i).filter (fun x => ρ x == x)
def memb (ρ : Nat → Nat) (r i : Nat) : List Int := ((List.range i).filter (fun x => ρ x == r)).map fun x : Nat => (x : Int)
def partsL (ρ : Nat → Nat) (i : Nat) : List (List Int) := (rootsB ρ i).map fun r => memb ρ r i

theorem rootsB_succ (ρ : Nat → Nat) (i : Nat) : rootsB ρ (i + 1) = if ρ i = i then rootsB ρ i ++ [i] else rootsB ρ i := by
  unfold rootsB
  rw [List.range_succ, List.filter_append]
  by_cases h : ρ i = i <;> simp [h]
theorem memb_succ (ρ : Nat → Nat) (r i : Nat) : memb ρ r (i + 1) = if ρ i = r then memb ρ r i ++ [(i : Int)] else memb ρ r i := by
  unfold memb
  rw [List.range_succ, List.filter_append]
  by_cases h : ρ i = r <;> simp [h]
theorem rootsB_mem {ρ : Nat → Nat} {i r : Nat} : r ∈ rootsB ρ i ↔ r < i ∧ ρ r = r := by simp [rootsB]
theorem memb_mem {ρ : Nat → Nat} {r i : Nat} {x : Int} : x ∈ memb ρ r i ↔ 0 ≤ x ∧ x < i ∧ ρ x.toNat = r := by
  simp only [memb, List.mem_map, List.mem_filter, List.mem_range, beq_iff_eq]
  constructor
  · rintro ⟨y, ⟨h1, h2⟩, rfl⟩; exact ⟨by omega, by omega, by simpa using h2⟩
  · rintro ⟨h1, h2, h3⟩; exact ⟨x.toNat, ⟨by omega, h3⟩, by omega⟩
theorem rootsB_nodup (ρ : Nat → Nat) (i : Nat) : (rootsB ρ i).Nodup := List.Pairwise.sublist List.filter_sublist List.nodup_range
theorem rootsB_inc (ρ : Nat → Nat) (i : Nat) : (rootsB ρ i).Pairwise (· < ·) := List.Pairwise.sublist List.filter_sublist List.pairwise_lt_range
theorem rootsB_at {ρ : Nat → Nat} {r : Nat} (hr : ρ r = r) : ∀ {i : Nat}, r < i → (rootsB ρ i)[(rootsB ρ r).length]? = some r
  | 0, h => by omega
  | i + 1, h => by
    rw [rootsB_succ]
    rcases Nat.lt_or_ge r i with h1 | h1
    · have ih := rootsB_at hr h1
      split
      · rw [List.getElem?_append_left (List.getElem?_eq_some_iff.1 ih).1]; exact ih
      · exact ih
    · obtain rfl : r = i := by omega
      rw [if_pos hr]; simp

theorem map_set {α β : Type} {f g : α → β} {v : β} : ∀ {l : List α} {p : Nat} {r : α}, l.Nodup → l[p]? = some r → g r = v → (∀ x ∈ l, x ≠ r → g x = f x) → (l.map f).set p v = l.map g
  | [], p, r, _, h, _, _ => by simp at h
  | x :: l, 0, r, hn, h, hv, hg => by
    simp at h
    subst h
    simp only [List.map_cons, List.set_cons_zero, hv]
    congr 1
    refine List.map_congr_left fun y hy => (hg y (by simp [hy]) fun e => ?_).symm
    subst e
    exact (List.nodup_cons.1 hn).1 hy
  | x :: l, p + 1, r, hn, h, hv, hg => by
    simp only [List.getElem?_cons_succ] at h
    simp only [List.map_cons, List.set_cons_succ]
    rw [map_set (List.nodup_cons.1 hn).2 h hv (fun y hy => hg y (by simp [hy]))]
    rw [hg x (by simp) (fun e => by subst e; exact (List.nodup_cons.1 hn).1 (List.mem_of_getElem? h))]

theorem mget_msetI {β : Type} (a b : Int) (v : β) : ∀ es : List (Int × β), mget a (mset b v es) = if a = b then some v else mget a es
  | [] => by simp only [mset, mget]
  | (k, w) :: r => by
    have ih := mget_msetI a b v r
    simp only [mset]
    by_cases h : b = k
    · subst h
      simp only [if_pos, mget]
      by_cases h2 : a = b
      · simp [h2]
      · simp [h2]
    · rw [if_neg h]
      simp only [mget, ih]
      by_cases h2 : a = k
      · subst h2; rw [if_pos rfl, if_neg (fun e => h e.symm), if_pos rfl]
      · rw [if_neg h2, if_neg h2]

structure GInv (n : Nat) (above : List Int) (i : Nat) (s : List (List Int) × List (Int × Int) × List Int) : Prop where
  same : SameR n above s.2.2
  parts : s.1 = partsL (root above) i
  places : ∀ r : Nat, r < i → root above r = r → mget (r : Int) s.2.1 = some ((rootsB (root above) r).length : Int)

theorem rootFn {n : Nat} {above : List Int} (h : UF n above) : RootFn n (root above) := ⟨h.root_le, fun _ hx => h.root_root hx⟩

theorem partsL_new {n i : Nat} {ρ : Nat → Nat} (R : RootFn n ρ) (hi : i < n) (h : ρ i = i) : partsL ρ (i + 1) = partsL ρ i ++ [[(i : Int)]] := by
  unfold partsL
  rw [rootsB_succ, if_pos h, List.map_append]
  congr 1
  · refine List.map_congr_left fun r hr => ?_
    rw [rootsB_mem] at hr
    rw [memb_succ, if_neg (by omega)]
  · simp only [List.map_cons, List.map_nil]
    rw [memb_succ, if_pos h]
    have : memb ρ i i = [] := List.eq_nil_iff_forall_not_mem.2 fun x hx => by
      rw [memb_mem] at hx
      have := R.le x.toNat (by omega)
      omega
    rw [this]; rfl
theorem partsL_old {n i : Nat} {ρ : Nat → Nat} (R : RootFn n ρ) (hi : i < n) (h : ρ i ≠ i) : (partsL ρ i)[(rootsB ρ (ρ i)).length]? = some (memb ρ (ρ i) i) ∧ partsL ρ (i + 1) = (partsL ρ i).set (rootsB ρ (ρ i)).length (memb ρ (ρ i) i ++ [(i : Int)]) := by
  have hle := R.le i hi
  have hat := rootsB_at (ρ := ρ) (R.idem i hi) (i := i) (by omega)
  refine ⟨by unfold partsL; rw [List.getElem?_map, hat]; rfl, ?_⟩
  unfold partsL
  rw [rootsB_succ, if_neg h]
  refine (map_set (rootsB_nodup ρ i) hat ?_ fun r hr hne => ?_).symm
  · show memb ρ (ρ i) (i + 1) = _
    rw [memb_succ, if_pos rfl]
  · show memb ρ r (i + 1) = _
    rw [memb_succ, if_neg (fun e => hne e.symm)]

theorem s_gather {n : Nat} {above : List Int} (h : UF n above) : ∃ ab, d_gather (n : Int) above = some (partsL (root above) n, ab) := by
  have h400 := h.n400
  have R := rootFn h
  unfold d_gather
  have hg : decide ((n : Int) ≤ 1000000000000) = true := by simp only [decide_eq_true_eq]; omega
  rw [hg]
  simp only [cond_true]
  have : Ret (forR (σ := List (List Int) × List (Int × Int) × List Int) (ρ := Unit) (n : Int) d_gather_step ([], [], above)) (fun o => match o with | .inl s => GInv n above n s | .inr _ => False) := by
    refine Ret.forL (GInv n above) (by omega) ⟨⟨h, fun _ _ => rfl⟩, rfl, fun r hr => by omega⟩ ?_ (fun s hs => hs)
    rintro i ⟨Ls, es, ab⟩ hi ⟨g1, g2, g3⟩
    simp only at g1 g2 g3
    unfold d_gather_step
    obtain ⟨ab', e1, e2⟩ := s_root g1.uf hi
    rw [g1.eq i hi] at e1
    have hsame : SameR n above ab' := ⟨e2.uf, fun j hj => by rw [e2.eq j hj, g1.eq j hj]⟩
    simp only [e1, Option.bind_some]
    have hle := R.le i hi
    by_cases he : root above i = i
    · have hb : ((root above i : Int) == (i : Int)) = true := by rw [he]; simp
      rw [hb]
      refine Ret.some ⟨hsame, ?_, fun r hr hrr => ?_⟩
      · show Ls ++ [[(i : Int)]] = _
        rw [partsL_new R hi he, g2]
      · show mget (r : Int) (mset (i : Int) (Ls.length : Int) es) = _
        rw [mget_msetI]
        split
        · rename_i e3
          obtain rfl : r = i := by omega
          rw [g2]; simp [partsL]
        · exact g3 r (by omega) hrr
    · have hb : ((root above i : Int) == (i : Int)) = false := by rw [beq_eq_false_iff_ne]; omega
      rw [hb]
      obtain ⟨o1, o2⟩ := partsL_old R hi he
      have hpl := g3 (root above i) (by omega) (R.idem i hi)
      simp only [cond_false, hpl, Option.getD_some]
      rw [idxI_nat', g2, o1]
      simp only [Option.bind_some, Int.toNat_natCast]
      exact Ret.some ⟨hsame, o2.symm, fun r hr hrr => g3 r (by
        rcases Nat.lt_or_ge r i with h5 | h5
        · exact h5
        · obtain rfl : r = i := by omega
          exact absurd hrr he) hrr⟩
  obtain ⟨o, h1, h2⟩ := this
  rw [h1]
  cases o with
  | inl s => exact ⟨s.2.2, by simp only [Option.bind_some, Sum.elim_inl]; rw [← h2.parts]⟩
  | inr _ => exact h2.elim

/-! 'part' of the law. -/
def notIn (l : List (List Int)) (x : Int) (k : Nat) : Bool := match l[k]? with
  | some L => !L.contains x
  | none => true
theorem s_lpart (l : List (List Int)) (x : Int) (hl : l.length < 4611686018427387904) (hL : ∀ L ∈ l, L.length < 4611686018427387904) : d_part l x = some (match (List.range l.length).find? (fun k => !notIn l x k) with | none => -1 | some k => (k : Int)) := by
  unfold d_part
  rw [forR_first (notIn l x) (fun k => (k : Int)) hl (fun k hk => by
    have hit : Ret (iter (σ := Int) (ρ := Unit ⊕ Unit) (fun s2 => (Option.bind (idxI l (k : Int)) fun e1 => (bif decide (s2 < (e1.length : Int)) then (Option.bind (idxI l (k : Int)) fun e2 => (Option.bind (idxI e2 s2) fun e3 => (bif (e3 == x) then some (.inr (.inr ())) else some (.inl (IntKind.i64.wrap (s2 + 1)))))) else some (.inr (.inl ()))))) 0)
        (fun y => (y = .inl () ∧ l[k].contains x = false) ∨ (y = .inr () ∧ l[k].contains x = true)) := by
      have hLk := hL _ (List.getElem_mem hk)
      refine Ret.iter (fun s => 0 ≤ s ∧ s ≤ l[k].length ∧ ∀ (j : Nat) (hj : j < l[k].length), (j : Int) < s → l[k][j] ≠ x) (fun s => (l[k].length - s).toNat) ⟨by omega, by omega, fun j hj h => by omega⟩ ?_
      rintro s ⟨h1, h2, h3⟩
      simp only [idxI_nat', List.getElem?_eq_getElem hk, Option.bind_some]
      refine Ret.ite (fun hb => ?_) (fun hb => ?_)
      · have hlt := of_decide_eq_true hb
        obtain ⟨hj, ej⟩ := idxI_lt (l := l[k]) (n := s) h1 hlt
        rw [ej]
        simp only [Option.bind_some]
        cases hb2 : (l[k][s.toNat] == x)
        case true =>
          refine Ret.some (.inr ⟨rfl, ?_⟩)
          rw [List.contains_iff_mem]
          have : l[k][s.toNat] = x := by simpa using hb2
          rw [← this]; exact List.getElem_mem hj
        case false =>
          have hne2 := beq_eq_false_iff_ne.1 hb2
          simp only [cond_false]
          rw [wrap_i64 (by omega) (by omega)]
          refine Ret.some ⟨⟨by omega, by omega, fun j hj' hjs => ?_⟩, by omega⟩
          rcases Int.lt_or_le (j : Int) s with h | h
          · exact h3 j hj' h
          · obtain rfl : j = s.toNat := by omega
            exact hne2
      · have hge : ¬ s < l[k].length := of_decide_eq_false hb
        refine Ret.some (.inl ⟨rfl, ?_⟩)
        rw [Bool.eq_false_iff]
        intro hm
        rw [List.contains_iff_mem] at hm
        obtain ⟨j, hj, e⟩ := List.getElem_of_mem hm
        exact h3 j hj (by omega) e
    obtain ⟨y, e1, e2⟩ := hit
    rw [e1]
    simp only [notIn, List.getElem?_eq_getElem hk]
    rcases e2 with ⟨rfl, e3⟩ | ⟨rfl, e3⟩
    · rw [e3]; rfl
    · rw [e3]; rfl)]
  cases (List.range l.length).find? (fun k => !notIn l x k) <;> rfl

theorem s_part_of {n : Nat} {ρ : Nat → Nat} (R : RootFn n ρ) (hn : n ≤ 400) {i : Nat} (hi : i < n) : d_part (partsL ρ n) (i : Int) = some ((rootsB ρ (ρ i)).length : Int) := by
  have hlen : ∀ m, (rootsB ρ m).length ≤ m := fun m => by
    have := List.length_filter_le (fun x => ρ x == x) (List.range m); simp only [List.length_range] at this; exact this
  have hml : ∀ r, (memb ρ r n).length ≤ n := fun r => by
    have := List.length_filter_le (fun x => ρ x == r) (List.range n); simp only [List.length_range] at this; simp only [memb, List.length_map]; exact this
  have hle := R.le i hi
  have hat := rootsB_at (ρ := ρ) (R.idem i hi) (i := n) (by omega)
  have hk0 := (List.getElem?_eq_some_iff.1 hat).1
  rw [s_lpart _ _ (by simp only [partsL, List.length_map]; have := hlen n; omega) (fun L hL => by
    simp only [partsL, List.mem_map] at hL
    obtain ⟨r, _, rfl⟩ := hL
    have := hml r; omega)]
  rw [find_some_of (p := notIn (partsL ρ n) (i : Int)) (i := (rootsB ρ (ρ i)).length) (by simpa [partsL] using hk0) (by
    simp only [notIn, partsL, List.getElem?_map, hat, Option.map_some]
    rw [Bool.not_eq_false', List.contains_iff_mem, memb_mem]
    exact ⟨by omega, by omega, by simp⟩) (fun j hj => by
    simp only [notIn, partsL, List.getElem?_map]
    rw [List.getElem?_eq_getElem (by omega)]
    simp only [Option.map_some]
    rw [Bool.not_eq_true', Bool.eq_false_iff]
    intro hm
    rw [List.contains_iff_mem, memb_mem] at hm
    have e : (rootsB ρ n)[j]? = (rootsB ρ n)[(rootsB ρ (ρ i)).length]? := by
      rw [hat, List.getElem?_eq_getElem (by omega), ← hm.2.2]; simp
    have := (List.getElem?_inj (by omega) (rootsB_nodup ρ n)).1 e
    omega)]
end Go.Proofs.Ytgligibbgobmnaa
namespace Go.Proofs.Ytgligibbgobmnaa
open Go.RowKit
set_option linter.unusedVariables false
set_option linter.unusedSimpArgs false
set_option maxRecDepth 100000

def numsK (k : ClauseT) : List Int := if k.pause = -1 then [k.act] else [k.act, k.pause, k.resume]
theorem s_numbers (k : ClauseT) : d_numbers k = some (numsK k) := by
  unfold d_numbers numsK
  by_cases h : k.pause = -1
  · simp [h]
  · rw [if_neg h, beq_eq_false_iff_ne.2 h]; rfl
theorem numsK_len (k : ClauseT) : (numsK k).length ≤ 3 := by unfold numsK; split <;> simp

theorem s_31a (l : List ActT) (hl : l.length < 4611686018427387904) : ∃ b, d_31a l = some b := by
  unfold d_31a d_51a
  rw [forR_first (fun j => match l[j]? with | some a => a.kind == 1 | none => true) (fun j => (j : Int)) hl (fun j hj => by
    simp only [idxI_nat', List.getElem?_eq_getElem hj, Option.bind_some, d_32a]
    cases (l[j].kind == 1) <;> rfl)]
  cases (List.range l.length).find? (fun j => !(match l[j]? with | some a => a.kind == 1 | none => true)) <;> exact ⟨_, rfl⟩

structure Mg (n : Nat) (a b : List Int) : Prop where
  uf : UF n b
  eq : ∀ x y, x < n → y < n → root a x = root a y → root b x = root b y
theorem Mg.refl {n : Nat} {a : List Int} (h : UF n a) : Mg n a a := ⟨h, fun _ _ _ _ e => e⟩
theorem Mg.trans {n : Nat} {a b c : List Int} (h : Mg n a b) (h' : Mg n b c) : Mg n a c := ⟨h'.uf, fun x y hx hy e => h'.eq x y hx hy (h.eq x y hx hy e)⟩
theorem r_join {n i j : Nat} {above : List Int} (h : UF n above) (hi : i < n) (hj : j < n) : Ret (d_30a (i : Int) (j : Int) above) fun b => Mg n above b ∧ root b i = root b j := by
  obtain ⟨b, h1, h2, h3, h4⟩ := s_join h hi hj
  exact ⟨b, h1, ⟨h2, h4⟩, h3⟩

structure Users (n : Nat) (us : List (Int × Int)) : Prop where
  rng : ∀ a u, mget a us = some u → 0 ≤ u ∧ u < n
structure Hangs (n : Nat) (k : ClauseT) (i : Nat) (ab : List Int) (us : List (Int × Int)) : Prop where
  start : ∀ s ∈ k.start, root ab i = root ab s.clause.toNat
  nums : ∀ a ∈ numsK k, ∃ u : Nat, mget a us = some (u : Int) ∧ u < n ∧ root ab u = root ab i
structure CInv (c : ContractT) (m : Nat) (s : List Int × List (Int × Int)) : Prop where
  uf : UF c.clauses.length s.1
  users : Users c.clauses.length s.2
  hangs : ∀ (i : Nat) (k : ClauseT), i < m → c.clauses[i]? = some k → Hangs c.clauses.length k i s.1 s.2

structure RootsOf (c : ContractT) (ρ : Nat → Nat) : Prop where
  fn : RootFn c.clauses.length ρ
  start : ∀ (i : Nat) (k : ClauseT), c.clauses[i]? = some k → ∀ s ∈ k.start, ρ i = ρ s.clause.toNat
  nums : ∀ (i j : Nat) (k q : ClauseT) (a : Int), c.clauses[i]? = some k → c.clauses[j]? = some q → a ∈ numsK k → a ∈ numsK q → ρ i = ρ j

theorem s_Components (c : ContractT) (ho : c.off.length < 4611686018427387904) (hst : ∀ k ∈ c.clauses, k.start.length < 4611686018427387904) (hv : (validR c).1 = 0) :
    ∃ ρ, RootsOf c ρ ∧ d_Components c = some (partsL ρ c.clauses.length) := by
  have sm := small_of ho hv
  have h400 := sm.clauses
  have hacts := sm.acts
  suffices hh : Ret (d_Components c) (fun l => ∃ ρ, RootsOf c ρ ∧ l = partsL ρ c.clauses.length) by
    obtain ⟨l, h1, ρ, h2, rfl⟩ := hh
    exact ⟨ρ, h2, h1⟩
  unfold d_Components
  rw [s_Valid c ho hst]
  simp only [Option.bind_some, hv, beq_self_eq_true, cond_true]
  refine Ret.bind (P := fun o => match o with | .inl s => UF c.clauses.length s | .inr _ => False) ?_ ?_
  · refine Ret.forL (fun m s => s.length = 400 ∧ ∀ i, i < m → s.getD i 0 = (i : Int)) (by omega) ⟨by simp, fun i hi => by omega⟩ ?_ ?_
    · rintro i s hi ⟨h1, h2⟩
      rw [idxN_nat (by omega)]
      simp only [Option.bind_some, getD_at (show i < s.length by omega)]
      refine Ret.some ⟨by simp [h1], fun j hj => ?_⟩
      rw [List.getD_eq_getElem?_getD, List.getElem?_set]
      by_cases e : i = j
      · subst e; rw [if_pos rfl, if_pos (by omega)]; rfl
      · rw [if_neg e, ← List.getD_eq_getElem?_getD]; exact h2 j (by omega)
    · rintro s ⟨h1, h2⟩
      exact ⟨h1, fun i hi => by rw [h2 i hi]; omega, h400⟩
  · rintro (s1 | s1) h0
    case inr => exact h0.elim
    have h0 : UF c.clauses.length s1 := h0
    obtain ⟨whole, ew⟩ := s_31a c.acts (by omega)
    simp only [Sum.elim_inl, ew, Option.bind_some]
    refine Ret.bind (P := fun o => match o with | .inl s => CInv c c.clauses.length s | .inr _ => False) ?_ ?_
    · refine Ret.forL (CInv c) (by omega) ⟨h0, ⟨fun a u h => by cases h⟩, fun i k hi => by omega⟩ ?_ (fun s hs => hs)
      rintro i ⟨ab, us⟩ hi ⟨i1, i2, i3⟩
      simp only at i1 i2 i3
      have hk := List.getElem?_eq_getElem hi
      have hs8 := sm.start _ (List.getElem_mem hi)
      simp only [idxI_nat', hk, Option.bind_some]
      refine Ret.bind (P := fun b => Mg c.clauses.length ab b) ?_ ?_
      · cases whole with
        | false => exact Ret.some (.refl i1)
        | true =>
          have := r_join (i := 0) i1 (by omega) hi
          refine Ret.bind this fun b hb => Ret.some hb.1
      · intro v1 hv1
        refine Ret.bind (P := fun o => match o with | .inl b => Mg c.clauses.length ab b ∧ ∀ s ∈ c.clauses[i].start, root b i = root b s.clause.toNat | .inr _ => False) ?_ ?_
        · refine Ret.forL (fun m b => Mg c.clauses.length ab b ∧ ∀ (q : Nat) (hq : q < c.clauses[i].start.length), q < m → root b i = root b c.clauses[i].start[q].clause.toNat) (by omega) ⟨hv1, fun q hq h => by omega⟩ ?_ ?_
          · rintro q b hq ⟨b1, b2⟩
            have hcd := sm.cond i _ hk _ (List.getElem_mem hq)
            simp only [idxI_nat', List.getElem?_eq_getElem hq, Option.bind_some]
            have e : c.clauses[i].start[q].clause = (c.clauses[i].start[q].clause.toNat : Int) := by omega
            have hj : c.clauses[i].start[q].clause.toNat < c.clauses.length := by omega
            rw [e]
            refine Ret.bind (r_join b1.uf hi hj) fun b' hb' => Ret.some ⟨b1.trans hb'.1, fun q' hq' hlt => ?_⟩
            rcases Nat.lt_or_ge q' q with h | h
            · have hcd' := sm.cond i _ hk _ (List.getElem_mem hq')
              exact hb'.1.eq _ _ hi (by omega) (b2 q' hq' h)
            · obtain rfl : q' = q := by omega
              exact hb'.2
          · rintro b ⟨b1, b2⟩
            refine ⟨b1, fun s hs => ?_⟩
            obtain ⟨q, hq, e⟩ := List.getElem_of_mem hs
            rw [← e]; exact b2 q hq hq
        · rintro (b | b) hb
          case inr => exact hb.elim
          obtain ⟨b1, b2⟩ := hb
          simp only [Sum.elim_inl, s_numbers, Option.bind_some]
          have hn3 := numsK_len c.clauses[i]
          refine Ret.bind (P := fun o => match o with | .inl s => CInv c (i + 1) s | .inr _ => False) ?_ ?_
          · refine Ret.forL (fun m s => Mg c.clauses.length b s.1 ∧ Users c.clauses.length s.2 ∧ (∀ a u, mget a us = some u → mget a s.2 = some u) ∧ ∀ (q : Nat) (hq : q < (numsK c.clauses[i]).length), q < m → ∃ u : Nat, mget (numsK c.clauses[i])[q] s.2 = some (u : Int) ∧ u < c.clauses.length ∧ root s.1 u = root s.1 i) (by omega) ⟨.refl b1.uf, i2, fun _ _ h => h, fun q hq h => by omega⟩ ?_ ?_
            · rintro q ⟨d, ws⟩ hq ⟨d1, d2, d3, d4⟩
              simp only at d1 d2 d3 d4
              simp only [idxI_nat', List.getElem?_eq_getElem hq, Option.bind_some]
              cases hm : mget (numsK c.clauses[i])[q] ws with
              | some u =>
                have hu := d2.rng _ _ hm
                simp only [Option.isSome_some, cond_true, Option.getD_some]
                have e : u = (u.toNat : Int) := by omega
                rw [e]
                have := r_join (i := u.toNat) d1.uf (by omega) hi
                refine Ret.bind (P := fun r : List Int × List (Int × Int) => r.2 = ws ∧ Mg c.clauses.length d r.1 ∧ root r.1 u.toNat = root r.1 i) (Ret.bind this fun b' hb' => Ret.some ⟨rfl, hb'.1, hb'.2⟩) ?_
                rintro ⟨d', ws'⟩ ⟨rfl, g1, g2⟩
                refine Ret.some ⟨d1.trans g1, d2, d3, fun q' hq' hlt => ?_⟩
                rcases Nat.lt_or_ge q' q with h | h
                · obtain ⟨u', f1, f2, f3⟩ := d4 q' hq' h
                  exact ⟨u', f1, f2, g1.eq _ _ f2 hi f3⟩
                · obtain rfl : q' = q := by omega
                  exact ⟨u.toNat, by rw [← e]; exact hm, by omega, g2⟩
              | none =>
                simp only [Option.isSome_none, cond_false, Option.bind_some]
                refine Ret.some ⟨d1, ⟨fun a u hu => ?_⟩, fun a u hu => ?_, fun q' hq' hlt => ?_⟩
                · rw [mget_msetI] at hu
                  split at hu
                  · cases hu; omega
                  · exact d2.rng a u hu
                · show mget a (mset (numsK c.clauses[i])[q] (i : Int) ws) = some u
                  rw [mget_msetI]
                  split
                  · rename_i e; rw [e] at hu; rw [d3 _ _ hu] at hm; cases hm
                  · exact d3 a u hu
                · show ∃ u : Nat, mget (numsK c.clauses[i])[q'] (mset (numsK c.clauses[i])[q] (i : Int) ws) = some (u : Int) ∧ u < c.clauses.length ∧ root d u = root d i
                  rw [mget_msetI]
                  split
                  · exact ⟨i, rfl, hi, rfl⟩
                  · rename_i hne
                    rcases Nat.lt_or_ge q' q with h | h
                    · exact d4 q' hq' h
                    · obtain rfl : q' = q := by omega
                      exact absurd rfl hne
            · rintro ⟨d, ws⟩ ⟨d1, d2, d3, d4⟩
              simp only at d1 d2 d3 d4
              refine ⟨d1.uf, d2, fun j k hj hkj => ?_⟩
              show Hangs c.clauses.length k j d ws
              rcases Nat.lt_or_ge j i with h | h
              · have hj' : j < c.clauses.length := by omega
                obtain ⟨g1, g2⟩ := i3 j k h hkj
                have M := b1.trans d1
                refine ⟨fun s hs => ?_, fun a ha => ?_⟩
                · have hcd := sm.cond j k hkj s hs
                  exact M.eq _ _ hj' (by omega) (g1 s hs)
                · obtain ⟨u, f1, f2, f3⟩ := g2 a ha
                  exact ⟨u, d3 _ _ f1, f2, M.eq _ _ f2 hj' f3⟩
              · obtain rfl : j = i := by omega
                rw [hk] at hkj
                cases hkj
                refine ⟨fun s hs => ?_, fun a ha => ?_⟩
                · have hcd := sm.cond j _ hk s hs
                  exact d1.eq _ _ hi (by omega) (b2 s hs)
                · obtain ⟨q, hq, e⟩ := List.getElem_of_mem ha
                  rw [← e]
                  exact d4 q hq hq
          · rintro (s | s) hs
            · exact Ret.some hs
            · exact hs.elim
    · rintro (s | s) hs
      case inr => exact hs.elim
      obtain ⟨c1, c2, c3⟩ := hs
      obtain ⟨ab', e⟩ := s_gather c1
      simp only [Sum.elim_inl, e, Option.bind_some]
      refine Ret.some ⟨root s.1, ⟨rootFn c1, fun i k hk => (c3 i k (List.getElem?_eq_some_iff.1 hk).1 hk).start, fun i j k q a hk hq ha hb => ?_⟩, rfl⟩
      obtain ⟨u, f1, f2, f3⟩ := (c3 i k (List.getElem?_eq_some_iff.1 hk).1 hk).nums a ha
      obtain ⟨u', g1, g2, g3⟩ := (c3 j q (List.getElem?_eq_some_iff.1 hq).1 hq).nums a hb
      rw [f1] at g1
      have : u = u' := by have := Option.some.inj g1; omega
      subst this
      rw [← f3, ← g3]

/-! Linked. -/
end Go.Proofs.Ytgligibbgobmnaa
namespace Go.Proofs.Ytgligibbgobmnaa
open Go.RowKit
set_option linter.unusedVariables false
set_option linter.unusedSimpArgs false
set_option maxRecDepth 100000

theorem castL_inc {p : Nat → Bool} {n : Nat} : (((List.range n).filter p).map fun x : Nat => (x : Int)).Pairwise (· < ·) := by
  rw [List.pairwise_map]
  exact (List.Pairwise.sublist List.filter_sublist List.pairwise_lt_range).imp fun h => by omega

theorem memb_head {n r : Nat} {ρ : Nat → Nat} (R : RootFn n ρ) (hr : r < n) (h : ρ r = r) : (memb ρ r n)[0]? = some (r : Int) := by
  have hm : (r : Int) ∈ memb ρ r n := memb_mem.2 ⟨by omega, by omega, by simpa using h⟩
  obtain ⟨q, hq, e⟩ := List.getElem_of_mem hm
  have hp := List.pairwise_iff_getElem.1 (castL_inc (p := fun x => ρ x == r) (n := n))
  have h0 : 0 < (memb ρ r n).length := by omega
  have hm0 := List.getElem_mem h0
  rw [memb_mem] at hm0
  have hle := R.le (memb ρ r n)[0].toNat (by omega)
  rw [hm0.2.2] at hle
  rcases Nat.eq_zero_or_pos q with h1 | h1
  · subst h1; rw [List.getElem?_eq_getElem h0, e]
  · have := hp 0 q h0 hq h1
    have e' : (memb ρ r n)[q] = (r : Int) := e
    have this : (memb ρ r n)[0] < (memb ρ r n)[q] := this
    omega

theorem getD_set' {s : List Int} {k i : Nat} {v : Int} (hk : k < s.length) : (s.set k v).getD i 0 = if i = k then v else s.getD i 0 := by
  rw [List.getD_eq_getElem?_getD, List.getD_eq_getElem?_getD, List.getElem?_set]
  by_cases h : k = i
  · subst h; simp [hk]
  · rw [if_neg h, if_neg (fun e => h e.symm)]

theorem m_ContractParts (c : ContractT) (choice : Int) (hc : c.Ok) (hch : InK .u64 choice) : d_ContractParts c choice = some true := by
  have ho := hc.off.lt (by omega)
  have hst : ∀ k ∈ c.clauses, k.start.length < 4611686018427387904 := fun k hk => (hc.clauses.2 k hk).start.lt (by omega)
  unfold d_ContractParts
  rw [s_head, hc.few 60, hc.valid]
  simp only [Option.bind_some]
  cases hfew : fewB c 60 with
  | false => rfl
  | true =>
    have hn60 := (fewB_true hfew).nc
    simp only [cond_true]
    cases hv : ((validR c).1 == 0) with
    | false =>
      have : d_Components c = some [] := by
        unfold d_Components; rw [hc.valid]; simp only [Option.bind_some, hv, cond_false]
      rw [this]; rfl
    | true =>
      have hv0 : (validR c).1 = 0 := by simpa using hv
      have sm := small_of ho hv0
      obtain ⟨ρ, R, e⟩ := s_Components c ho hst hv0
      have F := R.fn
      rw [e]
      have hmk : mkN 8 (c.clauses.length : Int) = some c.clauses.length := by unfold mkN; rw [if_pos (by omega)]; simp
      simp only [Option.bind_some, cond_true, hmk]
      have hlen : ∀ m, (rootsB ρ m).length ≤ m := fun m => by
        have := List.length_filter_le (fun x => ρ x == x) (List.range m); simp only [List.length_range] at this; exact this
      have hml : ∀ r, (memb ρ r c.clauses.length).length ≤ c.clauses.length := fun r => by
        have := List.length_filter_le (fun x => ρ x == r) (List.range c.clauses.length); simp only [List.length_range] at this; simp only [memb, List.length_map]; exact this
      have hpl : (partsL ρ c.clauses.length).length = (rootsB ρ c.clauses.length).length := by simp [partsL]
      have hrl := hlen c.clauses.length
      -- the number of a clause's part
      have hidx : ∀ i, i < c.clauses.length → (rootsB ρ c.clauses.length)[(rootsB ρ (ρ i)).length]? = some (ρ i) := fun i hi => rootsB_at (F.idem i hi) (by have := F.le i hi; omega)
      refine Ret.eq (Ret.bind (P := fun o => match o with
        | .inl s => s.length = c.clauses.length ∧ ∀ i, i < c.clauses.length → s.getD i 0 = 1
        | .inr _ => False) ?_ ?_)
      · refine Ret.forL (fun k s => s.length = c.clauses.length ∧ ∀ i, i < c.clauses.length → s.getD i 0 = if (rootsB ρ (ρ i)).length < k then 1 else 0) (by omega) ⟨by simp, fun i hi => by simp [List.getD_eq_getElem?_getD, hi]⟩ ?_ ?_
        · rintro k s hk ⟨t1, t2⟩
          have hk' : k < (rootsB ρ c.clauses.length).length := by omega
          have hgr : (partsL ρ c.clauses.length)[k]? = some (memb ρ (rootsB ρ c.clauses.length)[k] c.clauses.length) := by
            unfold partsL; rw [List.getElem?_map, List.getElem?_eq_getElem hk']; rfl
          have hrt := rootsB_mem.1 (List.getElem_mem hk')
          have hhd := memb_head F hrt.1 hrt.2
          generalize hr : (rootsB ρ c.clauses.length)[k] = r at hgr hrt hhd
          have h0 := (List.getElem?_eq_some_iff.1 hhd).1
          have hLl := hml r
          have hLinc := castL_inc (p := fun x => ρ x == r) (n := c.clauses.length)
          have hLp : ∀ (i j : Nat) (hi : i < (memb ρ r c.clauses.length).length) (hj : j < (memb ρ r c.clauses.length).length), i < j → (memb ρ r c.clauses.length)[i] < (memb ρ r c.clauses.length)[j] := List.pairwise_iff_getElem.1 hLinc
          have hne0 : (((memb ρ r c.clauses.length).length : Int) == 0) = false := by rw [beq_eq_false_iff_ne]; omega
          refine Ret.bind (P := fun o => match o with
            | .inl s' => s'.length = c.clauses.length ∧ ∀ i, i < c.clauses.length → s'.getD i 0 = if (rootsB ρ (ρ i)).length < k + 1 then 1 else 0
            | .inr _ => False) ?_ ?_
          · simp only [idxI_nat', hgr, Option.bind_some, hne0, cond_false]
            refine Ret.bind (P := fun b => b = false) ?_ ?_
            · refine Ret.ite (fun hb => ?_) (fun hb => Ret.some rfl)
              have hk0 : 0 < k := by have := of_decide_eq_true hb; omega
              have ew : IntKind.i64.wrap ((k : Int) - 1) = ((k - 1 : Nat) : Int) := by rw [wrap_i64 (by omega) (by omega)]; omega
              rw [ew, if_neg (by omega)]
              have hk1 : k - 1 < (rootsB ρ c.clauses.length).length := by omega
              have hgr1 : (partsL ρ c.clauses.length)[k - 1]? = some (memb ρ (rootsB ρ c.clauses.length)[k - 1] c.clauses.length) := by
                unfold partsL; rw [List.getElem?_map, List.getElem?_eq_getElem hk1]; rfl
              have hrt1 := rootsB_mem.1 (List.getElem_mem hk1)
              have hhd1 := memb_head F hrt1.1 hrt1.2
              have hlt := List.pairwise_iff_getElem.1 (rootsB_inc ρ c.clauses.length) (k - 1) k hk1 hk' (by omega)
              rw [hr] at hlt
              have z0 : ∀ l : List Int, idxI l 0 = l[0]? := fun l => by unfold idxI; rw [if_pos (Int.le_refl 0)]; rfl
              simp only [idxI_nat', hgr1, Option.bind_some, z0, hhd, hhd1]
              refine Ret.some ?_
              simp only [decide_eq_false_iff_not]; omega
            · rintro b rfl
              simp only [cond_false]
              refine Ret.bind (P := fun o => match o with
                | .inl s' => s'.length = c.clauses.length ∧ ∀ i, i < c.clauses.length → s'.getD i 0 = if (rootsB ρ (ρ i)).length < k + 1 then 1 else 0
                | .inr _ => False) ?_ (by
                  rintro (o | o) h
                  · exact Ret.some h
                  · exact h.elim)
              refine Ret.iter (fun st => 0 ≤ st.1 ∧ st.1 ≤ (memb ρ r c.clauses.length).length ∧ st.2.length = c.clauses.length ∧ ∀ i, i < c.clauses.length → st.2.getD i 0 = if (rootsB ρ (ρ i)).length < k ∨ (i : Int) ∈ (memb ρ r c.clauses.length).take st.1.toNat then 1 else 0) (fun st => ((memb ρ r c.clauses.length).length - st.1).toNat) ⟨by omega, by omega, t1, fun i hi => by rw [t2 i hi]; simp⟩ ?_
              rintro ⟨m, s'⟩ ⟨m1, m2, m3, m4⟩
              simp only at m1 m2 m3 m4
              simp only [idxI_nat', hgr, Option.bind_some]
              refine Ret.ite (fun hb => ?_) (fun hb => ?_)
              · have hlt := of_decide_eq_true hb
                obtain ⟨hm, em⟩ := idxI_lt (l := memb ρ r c.clauses.length) (n := m) m1 hlt
                have hxm := memb_mem.1 (List.getElem_mem hm)
                simp only [em, Option.bind_some]
                refine Ret.bind (P := fun b => b = false) ?_ ?_
                · have b1 : decide ((memb ρ r c.clauses.length)[m.toNat] < 0) = false := by simp only [decide_eq_false_iff_not]; omega
                  have b2 : decide ((c.clauses.length : Int) ≤ (memb ρ r c.clauses.length)[m.toNat]) = false := by simp only [decide_eq_false_iff_not]; omega
                  rw [b1, b2]
                  simp only [cond_false]
                  refine Ret.ite (fun hb2 => ?_) (fun hb2 => Ret.some rfl)
                  have hm0 : 0 < m := of_decide_eq_true hb2
                  have ew : IntKind.i64.wrap (m - 1) = ((m.toNat - 1 : Nat) : Int) := by rw [wrap_i64 (by omega) (by omega)]; omega
                  rw [ew, if_neg (by omega)]
                  have hm1 : m.toNat - 1 < (memb ρ r c.clauses.length).length := by omega
                  simp only [idxI_nat', List.getElem?_eq_getElem hm1, Option.bind_some]
                  have := hLp (m.toNat - 1) m.toNat hm1 hm (by omega)
                  refine Ret.some ?_
                  simp only [decide_eq_false_iff_not]; omega
                · rintro b rfl
                  simp only [cond_false]
                  rw [idxN_lt hxm.1 (by omega)]
                  have hxi : (memb ρ r c.clauses.length)[m.toNat].toNat < s'.length := by omega
                  simp only [Option.bind_some, getD_at hxi]
                  have hx0 := m4 (memb ρ r c.clauses.length)[m.toNat].toNat (by omega)
                  have hpr : (rootsB ρ (ρ (memb ρ r c.clauses.length)[m.toNat].toNat)).length = k := by
                    have h1 := hidx (memb ρ r c.clauses.length)[m.toNat].toNat (by omega)
                    rw [hxm.2.2] at h1 ⊢
                    have : (rootsB ρ c.clauses.length)[(rootsB ρ r).length]? = (rootsB ρ c.clauses.length)[k]? := by rw [h1, List.getElem?_eq_getElem hk', hr]
                    exact (List.getElem?_inj (List.getElem?_eq_some_iff.1 h1).1 (rootsB_nodup _ _)).1 this
                  have hnot : ¬ ((rootsB ρ (ρ (memb ρ r c.clauses.length)[m.toNat].toNat)).length < k ∨ ((memb ρ r c.clauses.length)[m.toNat].toNat : Int) ∈ (memb ρ r c.clauses.length).take m.toNat) := by
                    rintro (h | h)
                    · omega
                    · obtain ⟨q, hq, eq⟩ := List.getElem_of_mem h
                      rw [List.length_take] at hq
                      rw [List.getElem_take] at eq
                      have := hLp q m.toNat (by omega) hm (by omega)
                      omega
                  rw [if_neg hnot] at hx0
                  rw [hx0, wrap_i64 (by omega) (by omega), wrap_i64 (by omega) (by omega)]
                  refine Ret.some ⟨⟨by omega, by omega, by simp [m3], fun i hi => ?_⟩, by omega⟩
                  rw [getD_set' hxi]
                  have htk : (memb ρ r c.clauses.length).take (m + 1).toNat = (memb ρ r c.clauses.length).take m.toNat ++ [(memb ρ r c.clauses.length)[m.toNat]] := by
                    rw [show (m + 1).toNat = m.toNat + 1 by omega, List.take_succ_eq_append_getElem hm]
                  simp only [htk, List.mem_append, List.mem_singleton]
                  by_cases hie : i = (memb ρ r c.clauses.length)[m.toNat].toNat
                  · rw [if_pos hie, if_pos (.inr (.inr (by omega)))]; rfl
                  · rw [if_neg hie, m4 i hi]
                    have : ¬ ((i : Int) = (memb ρ r c.clauses.length)[m.toNat]) := by omega
                    simp only [this, or_false]
              · have hge : ¬ m < (memb ρ r c.clauses.length).length := of_decide_eq_false hb
                have hmm : m.toNat = (memb ρ r c.clauses.length).length := by omega
                refine Ret.some ⟨m3, fun i hi => ?_⟩
                rw [m4 i hi, hmm, List.take_length]
                have h1 := hidx i hi
                have key : (i : Int) ∈ memb ρ r c.clauses.length ↔ (rootsB ρ (ρ i)).length = k := by
                  rw [memb_mem]
                  constructor
                  · rintro ⟨_, _, h3⟩
                    have h3 : ρ i = r := by simpa using h3
                    have : (rootsB ρ c.clauses.length)[(rootsB ρ (ρ i)).length]? = (rootsB ρ c.clauses.length)[k]? := by rw [h1, List.getElem?_eq_getElem hk', hr, h3]
                    exact (List.getElem?_inj (List.getElem?_eq_some_iff.1 h1).1 (rootsB_nodup _ _)).1 this
                  · intro h3
                    rw [h3, List.getElem?_eq_getElem hk', hr] at h1
                    exact ⟨by omega, by omega, by have := Option.some.inj h1; simp [this]⟩
                by_cases h5 : (rootsB ρ (ρ i)).length < k
                · rw [if_pos (.inl h5), if_pos (by omega)]
                · by_cases h6 : (rootsB ρ (ρ i)).length = k
                  · rw [if_pos (.inr (key.2 h6)), if_pos (by omega)]
                  · rw [if_neg (fun h => h.elim h5 (fun h => h6 (key.1 h))), if_neg (by omega)]
          · rintro (o | o) h
            · exact Ret.some h
            · exact h.elim
        · rintro s ⟨t1, t2⟩
          refine ⟨t1, fun i hi => ?_⟩
          rw [t2 i hi]
          have := (List.getElem?_eq_some_iff.1 (hidx i hi)).1
          rw [if_pos (by omega)]
      · rintro (s | s) hs
        case inr => exact hs.elim
        obtain ⟨t1, t2⟩ := hs
        simp only [Sum.elim_inl]
        obtain ⟨bit, hbit⟩ : ∃ bit : Nat → Bool, ∀ q : Nat, q < 1000 → ∀ (s3 : List Int) (i : Nat), i < 1000 → s3.length ≤ i → (Option.bind (remI .u64 (IntKind.u64.wrap (q : Int)) 64) fun e12 => (Option.bind (shrI .u64 .u64 choice e12) fun e13 => (bif ((IntKind.u64.wrap ((BitVec.ofInt IntKind.u64.bits e13 &&& BitVec.ofInt IntKind.u64.bits 1).toNat)) == 1) then (Option.bind (appI (α := Int) 8 s3 [(i : Int)]) fun e14 => some (.inl e14 : List Int ⊕ Unit)) else some (.inl s3)))) = some (.inl (if bit q then s3 ++ [(i : Int)] else s3)) := by
          refine ⟨fun q => (IntKind.u64.wrap ((BitVec.ofInt IntKind.u64.bits (choice.fdiv (2 ^ (min ((q : Int).tmod 64).toNat IntKind.u64.bits))) &&& BitVec.ofInt IntKind.u64.bits 1).toNat)) == 1, fun q hq s3 i hi hs3 => ?_⟩
          rw [wrap_u64 (by omega) (by omega)]
          have h64 : 0 ≤ (q : Int).tmod 64 := Int.tmod_nonneg _ (by omega)
          simp only [remI, shrI]
          rw [if_neg (by omega)]
          simp only [Option.bind_some]
          rw [if_neg (by omega)]
          simp only [Option.bind_some]
          rw [appI_of (by simp only [List.length_cons, List.length_nil]; omega)]
          simp only [Option.bind_some]
          split <;> rename_i hh
          · rw [hh]; rfl
          · rw [Bool.not_eq_true] at hh; rw [hh]; rfl
        refine Ret.bind (P := fun o => match o with
          | .inl s3 => s3 = ((List.range c.clauses.length).filter fun i => bit (rootsB ρ (ρ i)).length).map fun x : Nat => (x : Int)
          | .inr _ => False) ?_ ?_
        · refine Ret.forL (fun i s3 => s3 = ((List.range i).filter fun i => bit (rootsB ρ (ρ i)).length).map fun x : Nat => (x : Int)) (by omega) rfl ?_ (fun s3 h => h)
          rintro i s3 hi rfl
          refine Ret.bind (P := fun o => match o with
            | .inl s' => s' = ((List.range (i + 1)).filter fun i => bit (rootsB ρ (ρ i)).length).map fun x : Nat => (x : Int)
            | .inr _ => False) ?_ (by
              rintro (o | o) h
              · exact Ret.some h
              · exact h.elim)
          have hpn := (List.getElem?_eq_some_iff.1 (hidx i hi)).1
          rw [s_part_of F (by omega) hi]
          simp only [Option.bind_some]
          rw [idxN_nat hi]
          simp only [Option.bind_some, getD_at (show i < s.length by omega), t2 i hi, beq_self_eq_true, cond_true]
          have hneg : decide (((rootsB ρ (ρ i)).length : Int) < 0) = false := by simp only [decide_eq_false_iff_not]; omega
          rw [hneg]
          simp only [cond_false]
          rw [hbit _ (by omega) _ i (by omega) (by rw [List.length_map]; have := List.length_filter_le (fun i => bit (rootsB ρ (ρ i)).length) (List.range i); simp only [List.length_range] at this; exact this)]
          refine Ret.some ?_
          show _ = _
          rw [List.range_succ, List.filter_append, List.map_append]
          cases hb : bit (rootsB ρ (ρ i)).length <;> simp [hb]
        · rintro (s3 | s3) hs3
          case inr => exact hs3.elim
          have hs3 : s3 = _ := hs3
          have hmem : ∀ x : Int, x ∈ s3 ↔ 0 ≤ x ∧ x < c.clauses.length ∧ bit (rootsB ρ (ρ x.toNat)).length = true := fun x => by
            rw [hs3]
            simp only [List.mem_map, List.mem_filter, List.mem_range]
            constructor
            · rintro ⟨y, ⟨h1, h2⟩, rfl⟩; exact ⟨by omega, by omega, by simpa using h2⟩
            · rintro ⟨h1, h2, h3⟩; exact ⟨x.toNat, ⟨by omega, h3⟩, by omega⟩
          have hinc : s3.Pairwise (· < ·) := by rw [hs3]; exact castL_inc
          have hl3 : s3.length ≤ c.clauses.length := by
            rw [hs3, List.length_map]
            have := List.length_filter_le (fun i => bit (rootsB ρ (ρ i)).length) (List.range c.clauses.length)
            simp only [List.length_range] at this; exact this
          obtain ⟨ks, hks⟩ : ∃ ks, mapO (selK c s3) s3 = some ks := mapO_some (g := selK c s3) fun y hy => by
            obtain ⟨y1, y2, y3⟩ := (hmem y).1 hy
            obtain ⟨hi, ei⟩ := idxI_lt (l := c.clauses) (n := y) y1 y2
            obtain ⟨st, hst'⟩ : ∃ st, mapO (condP s3) c.clauses[y.toNat].start = some st := mapO_some (g := condP s3) fun t ht => by
              have hcd := sm.cond y.toNat _ (List.getElem?_eq_getElem hi) t ht
              have hrt := R.start y.toNat _ (List.getElem?_eq_getElem hi) t ht
              have hm : t.clause ∈ s3 := (hmem _).2 ⟨hcd.1, hcd.2.1, by rw [← hrt]; exact y3⟩
              exact ⟨_, by unfold condP posI; rw [if_pos hm]; rfl⟩
            exact ⟨_, by unfold selK; rw [ei]; simp only [Option.bind_some, hst']; rfl⟩
          have hpo : PartOk c s3 ks := ⟨hv0, incB_of (fun x hx => by have := (hmem x).1 hx; omega) hinc, hks⟩
          have hkl := mapO_len hks
          simp only [Sum.elim_inl]
          rw [s_Part c s3 ho hst (by omega), hpo.eq]
          simp only [Option.bind_some]
          have hks_st : ∀ k ∈ ks, k.start.length ≤ 8 := fun k' hk' => by
            obtain ⟨j, hj, e⟩ := List.getElem_of_mem hk'
            obtain ⟨b, h1, h2⟩ := mapO_at hks j _ (List.getElem?_eq_getElem (by omega))
            rw [List.getElem?_eq_getElem hj] at h2
            cases h2
            obtain ⟨k, st, _, h4, h5, h6⟩ := selK_some h1
            rw [← e, h6]
            have := sm.start k (List.mem_of_getElem? h4)
            have := mapO_len h5
            show st.length ≤ 8
            omega
          rw [s_Valid ({ c with clauses := ks } : ContractT) ho (fun k hk => by have := hks_st k hk; omega), hpo.ok ho]
          simp only [Option.bind_some, hkl, beq_self_eq_true, cond_true]
          exact Ret.some rfl
end Go.Proofs.Ytgligibbgobmnaa
namespace Go.Proofs.Ytgligibbgobmnaa.LContractParts
open Go.ChangeShapes Go.WideShapes Go.ChangeAt Go.RowKit
set_option linter.unusedVariables false
set_option maxRecDepth 100000

theorem all (ivs : List IV) (h : HasArgs [(true, ContractT.tys), (false, [.int .u64])] ivs) : APure C0 3 ivs (.bool true) := by
  match ivs, h with
  | [x0, x1], ⟨a0, a1, _⟩ =>
    obtain ⟨row0, rfl, r0⟩ := a0
    obtain ⟨c, rfl, ok_c⟩ := ContractT.opn r0
    obtain ⟨c1, _, e1, k1, n1⟩ := hcs_cons a1
    cases e1
    obtain ⟨choice, rfl, ok_choice⟩ := hasC_int k1
    exact t_ContractParts c choice true (m_ContractParts c choice ok_c ok_choice)

theorem own : ownKnob Try.prog.godebug = none := by kernel_rfl
theorem laid : laidOutB Try.prog = true := by kernel_rfl
theorem args : mapO (argC Try.prog) Try.f6.params.toList = some [(true, ContractT.tys), (false, [.int .u64])] := by kernel_rfl

theorem lifted (os : Os) (started : os.Started) (H : Type) (enc : TypeId × Value → H) :
    ReturnsInHanded {} Try.checked os 6 .any (Rows.contractPartsSpec.pre6 enc Try.prog Try.f6 Rows.contractPartsRow.domain false) (Rows.contractPartsSpec.post enc Try.prog Try.f6 false true false false) := by
  refine returnsInHanded_of_change_sized (C := Try.checked) own started (by kernel_rfl) Try.func6
    (ChangeSpec.witness6 (enc := enc) (C := Try.checked) false ⟨#[], #[.agg #[.int .i64 0, .slice none 0 0, .slice none 0 0, .slice none 0 0, .slice none 0 0, .int .i64 0, .slice none 0 0], .int .u64 0], []⟩ 8 (by kernel_rfl) (by kernel_rfl) (by kernel_rfl) (by kernel_rfl)) ?_
  intro W base args ds gs before hval hW _ hwt _
  exact law_contract (Cx := C0) (tb := 4) 3 rfl LContractParts.args rfl (by kernel_rfl) rfl
    (fun ds h => by match ds, h with | [_, _], _ => rfl) LContractParts.laid (by kernel_rfl) LContractParts.all W base args ds gs before hval hW hwt

theorem holds : Rows.ContractPartsSaid :=
  OpenClaim.holds_of_wide 6 Try.f6 rfl rfl rfl rfl rfl rfl rfl ⟨rfl, rfl, rfl, rfl, rfl⟩ rfl rfl rfl rfl rfl (by kernel_rfl) Try.func6 (by kernel_rfl)
    (of_decide_eq_true (by kernel_rfl)) (by unfold Func.isWrapper; first | (rw [if_pos (by decide +kernel)]; kernel_rfl) | (rw [if_neg (by decide +kernel)]; exact ⟨rfl, rfl⟩))
    (fun os started H enc _ => lifted os started H enc)
end Go.Proofs.Ytgligibbgobmnaa.LContractParts

namespace Go.Proofs.Ytgligibbgobmnaa
theorem contractParts_holds : Rows.ContractPartsSaid := LContractParts.holds
end Go.Proofs.Ytgligibbgobmnaa
