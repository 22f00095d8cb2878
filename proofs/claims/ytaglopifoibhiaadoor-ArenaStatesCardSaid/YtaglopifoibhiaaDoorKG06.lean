/-
  A law that holds of all plain data of its types is the row's contract: whatever the arguments, the call returns true, and each argument reads as it read before.
  From data of the abstract machine to typed data.
  From readings to the data of this program's types.
  Plain laws about loops, searches and elements of lists.
  Plain laws: what a computation returns, and loops that build lists.
  Plain laws: loops over lists, loops that set one place after the other, increasing lists.
  The tables of the library that the rows list: from the row's condition to what the contracts ask; the witness.
-/
import Derived.Test.YtaglopifoibhiaaDoorKG05
import Derived.OpenShut
import Derived.Test.YtaglopifoibhiaaDoorKG04
import Derived.Test.YtaglopifoibhiaaDoorRows
import Derived.LaidLaws
import Derived.LaidSub
import Derived.Deep.DeepLaidRun
import Derived.Lib.LaidTab
import Derived.JoinedOf
namespace Go.Proofs.YtaglopifoibhiaaDoor
open Go.RowKit Go.ChangeShapes Go.WideShapes
set_option linter.unusedVariables false
set_option linter.unusedSimpArgs false

def argC (P : Program) (t : TypeId) : Option (Bool × List CTy) := match P.underlying t with
  | some (.struct _) => match ctys P 12 t with
    | some r => some (true, r)
    | none => none
  | some (.array _ _) => none
  | _ => match ctys P 12 t with
    | some r => some (false, r)
    | none => none

def HasArg : Bool × List CTy → IV → Prop
  | (true, tys), x => ∃ row, x = .agg row ∧ HasCs tys row
  | (false, tys), x => HasCs tys [x]

def HasArgs : List (Bool × List CTy) → List IV → Prop
  | [], [] => True
  | a :: tas, x :: xs => HasArg a x ∧ HasArgs tas xs
  | _, _ => False

section
variable {H : Type} {enc : TypeId × Value → H} {P : Program} {w : World}

theorem arg_open {base : Nat} {t : TypeId} {v : Value} {d : DataW H} {ps : List MemPlace} {a : Bool × List CTy} (ha : argC P t = some a) (hval : Value.okWide P w .any base t v)
    (h : DataW.Trod enc P w 0 (fun _ => true) true t v d ps) (hw : (d.weights P t).all (· ≤ reachBytes) = true) : ∃ x, RI (zOf w) w x v ∧ HasArg a x := by
  obtain ⟨fuel, hf⟩ := h
  unfold argC at ha
  split at ha
  · rename_i fs hu
    split at ha
    case h_2 => cases ha
    rename_i r hr
    cases ha
    simp only [Value.okWide, hu] at hval
    obtain ⟨cs, rfl, _, _⟩ := hval
    obtain ⟨row, h1, h2, h3⟩ := trod_got 12 fuel t _ d ps r hr hf hw
    refine ⟨.agg row, ?_, row, rfl, h2⟩
    have := RI.agg (Z := zOf w) (w := w) row cs.toList (by simpa [Value.cells] using h1.1) (fun v hv => h3 v (by simpa [Value.cells] using hv)) (fun i c v hc hv => h1.2 i c v hc (by simpa [Value.cells] using hv))
    simpa using this
  · cases ha
  · rename_i hns hna
    split at ha
    case h_2 => cases ha
    rename_i r hr
    cases ha
    have hone : v.oneCell' = true := by
      have hc : Cell.okWide P w .any base t v := by
        unfold Value.okWide at hval
        split at hval
        · rename_i fs hu; exact absurd hu (hns fs)
        · rename_i k e hu; exact absurd hu (hna k e)
        · exact hval
      cases v <;> first | rfl | (exfalso; revert hc; unfold Cell.okWide Cell.ok; cases P.underlying t with
        | none => simp
        | some u => cases u <;> simp)
    have hcs : v.cells.toList = [v] := by cases v <;> first | rfl | simp [Value.oneCell'] at hone
    obtain ⟨row, h1, h2, h3⟩ := trod_got 12 fuel t _ d ps r hr hf hw
    rw [hcs] at h1
    obtain ⟨x, rfl⟩ : ∃ x, row = [x] := List.length_eq_one_iff.1 (by simpa using h1.1)
    exact ⟨x, h1.2 0 x v rfl rfl, h2⟩

theorem args_open {base : Nat} : ∀ {ts : List TypeId} {vs : List Value} {ds : List (DataW H)} {ps : List MemPlace} {tas : List (Bool × List CTy)}, mapO (argC P) ts = some tas →
    (∀ (j : Nat) t v, ts[j]? = some t → vs[j]? = some v → Value.okWide P w .any base t v) → DataW.TrodAll enc P w 0 (fun _ => true) true ts vs ds ps → (DataW.weightsEach P ts ds).all (· ≤ reachBytes) = true →
    ∃ ivs, RCs (zOf w) w ivs vs ∧ HasArgs tas ivs
  | [], vs, ds, ps, tas, ha, hval, h, hw => by
    obtain ⟨rfl, rfl, rfl⟩ := trodAll_nil h
    simp [mapO] at ha; subst ha
    exact ⟨[], ⟨rfl, fun j c u hc => by simp at hc⟩, trivial⟩
  | t :: ts, vs, ds, ps, tas, ha, hval, h, hw => by
    obtain ⟨v, vs1, d, ds1, a, b, rfl, rfl, rfl, h1, h2⟩ := trodAll_cons h
    simp only [mapO] at ha
    split at ha
    case h_2 => cases ha
    rename_i a1 ha1
    split at ha
    case h_2 => cases ha
    rename_i as1 has1
    cases ha
    simp only [DataW.weightsEach, List.all_append, Bool.and_eq_true] at hw
    obtain ⟨x, g1, g2⟩ := arg_open ha1 (hval 0 t v rfl rfl) h1 hw.1
    obtain ⟨xs, g3, g4⟩ := args_open has1 (fun j t v hj hv => hval (j + 1) t v (by simpa using hj) (by simpa using hv)) h2 hw.2
    exact ⟨x :: xs, RCs.app (.one g1) g3, g2, g4⟩

theorem trodAll_len {ts : List TypeId} : ∀ {vs : List Value} {ds : List (DataW H)} {ps : List MemPlace}, DataW.TrodAll enc P w 0 (fun _ => true) true ts vs ds ps → ds.length = ts.length := by
  induction ts with
  | nil => intro vs ds ps h; obtain ⟨rfl, rfl, rfl⟩ := trodAll_nil h; rfl
  | cons t ts ih =>
    intro vs ds ps h
    obtain ⟨v, vs1, d, ds1, a, b, rfl, rfl, rfl, h1, h2⟩ := trodAll_cons h
    simp [ih h2]

theorem below_all {W' : World} (hl : laidOutB P = true) (hb : Below w.heap.size w W') : ∀ {ts : List TypeId} {vs : List Value} {ds : List (DataW H)} {ps : List MemPlace}, (∀ t ∈ ts, P.readableRec t = true ∧ t < P.types.size) →
    DataW.TrodAll enc P w 0 (fun _ => true) true ts vs ds ps → ∀ sp : Nat → Bool, (∀ p ∈ ps, p.block < w.heap.size ∧ sp p.block = true) → DataW.TrodAll enc P W' 0 sp true ts vs ds ps
  | [], vs, ds, ps, hr, h, sp, hlt => by
    obtain ⟨rfl, rfl, rfl⟩ := trodAll_nil h; rfl
  | t :: ts, vs, ds, ps, hr, h, sp, hlt => by
    obtain ⟨v, vs1, d, ds1, a, b, rfl, rfl, rfl, h1, h2⟩ := trodAll_cons h
    have ht := hr t (List.mem_cons_self ..)
    exact ⟨a, b, WideElems.Trod_stays hl ht.1 ht.2 h1 (fun x hx => hb.same (hlt x (List.mem_append_left _ hx)).1) (fun x hx => (hlt x (List.mem_append_left _ hx)).2),
      below_all hl hb (fun t ht => hr t (List.mem_cons_of_mem _ ht)) h2 sp (fun p hp => hlt p (List.mem_append_right _ hp)), rfl⟩
end

theorem post_below {H : Type} {enc : TypeId × Value → H} {P : Program} {f : Func} {s : ChangeSpec} {apart fresh handsOn again : Bool} {W W' : World} {args : Array Value} {v : Value} {ds : List (DataW H)} {before : List MemPlace}
    (hW : DataW.Whole enc P f.params.toList s.vars apart W args.toList ds [] before)
    (hres : ∀ (b : Nat) (sp : Nat → Bool) (hd : Bool), DataW.TrodAll enc P W' b sp hd f.resultTypes.toList (v.resultList f.resultTypes.size) (s.fn H (ds ++ [])).results [])
    (hargs : ∀ sp : Nat → Bool, (∀ p ∈ before, sp p.block = true) → DataW.TrodAll enc P W' 0 sp true f.params.toList args.toList (s.fn H (ds ++ [])).args before)
    (hvars : ∀ sp : Nat → Bool, DataW.TrodVars enc P W' sp s.vars (s.fn H (ds ++ [])).vars [])
    (hk : Below W.heap.size W W')
    (hok : ∀ (j : Nat) (t : TypeId) (r : Value), f.resultTypes[j]? = some t → (v.resultList f.resultTypes.size)[j]? = some r → Value.okWide P W' .any 0 t r) :
    s.post enc P f apart fresh handsOn again W args v W' := by
  have hlt : ∀ p ∈ before, p.block < W.heap.size := fun p hp => hW.lt p hp
  have hold : ∀ p ∈ before, (fun b => decide (b < W.heap.size)) p.block = true := fun p hp => by simpa using hlt p hp
  refine ⟨ds, [], before, [], before, [], hW, hres _ _ _, hargs _ hold, hvars _, hk.frame _, fun _ => ?_⟩
  obtain ⟨_, _, _, _, _, hz, hn⟩ := hW
  refine ⟨hok, _, _, ([] ++ before) ++ [], ⟨[] ++ before, [], trodAll_append (hargs _ (fun _ _ => rfl)) (hres _ _ _), hvars _, rfl, ?_, ?_⟩, ?_⟩
  · intro b off hp
    have hp' : MemPlace.cell b off ∈ before := by simpa using hp
    rw [hk.frozen (p := ⟨b, off, none⟩) (hlt _ hp')]
    exact hz b off hp'
  · intro ha
    simpa using hn ha
  · intro p hp _
    simpa using hp

theorem law_contract {H : Type} {enc : TypeId × Value → H} {Cx : Ctx} {f : FuncId} {fn : Func} {s : ChangeSpec} {tb : TypeId} {tas : List (Bool × List CTy)} {apart fresh handsOn again : Bool} (n : Nat) (hn : Cx.fnum n = f)
    (has : mapO (argC Cx.P) fn.params.toList = some tas) (hres : fn.resultTypes = #[tb]) (htb : Cx.P.underlying tb = some .bool) (hvars : s.vars = [])
    (hsp : ∀ ds : List (DataW H), ds.length = fn.params.toList.length → s.fn H (ds ++ []) = { results := [.lit (.bool true)], args := ds })
    (hlaid : laidOutB Cx.P = true) (hread : (fn.params.toList.all fun t => Cx.P.readableRec t && decide (t < Cx.P.types.size)) = true)
    (hlaw : ∀ ivs, HasArgs tas ivs → APure Cx n ivs (.bool true))
    (W : World) (hft : Cx.tabs.p W ∧ Cx.tabs.n ≤ W.heap.size)
    (base : Nat) (args : Array Value) (ds gs : List (DataW H)) (before : List MemPlace)
    (hval : ∀ (j : Nat) t v, fn.params[j]? = some t → args[j]? = some v → Value.okWide Cx.P W .any base t v)
    (hW : DataW.Whole enc Cx.P fn.params.toList s.vars apart W args.toList ds gs before)
    (hwt : (DataW.weightsEach Cx.P (fn.params.toList ++ s.plain.varTypes Cx.P) (ds ++ gs)).all (· ≤ reachBytes) = true) :
    Calls Cx.P f args W fun e W' => ∃ v, e = .returned v ∧ s.post enc Cx.P fn apart fresh handsOn again W args v W' := by
  have hW' := hW
  obtain ⟨p, q, hA, hV, rfl, hfz, hnd⟩ := hW
  rw [hvars] at hV
  obtain ⟨rfl, rfl⟩ := trodVars_none hV
  have hvt : s.plain.varTypes Cx.P = [] := by
    have : s.plain.vars = [] := hvars
    simp [DataSpec.varTypes, this]
  rw [hvt, List.append_nil, List.append_nil] at hwt
  obtain ⟨ivs, h1, h2⟩ := args_open has (fun j t v hj hv => hval j t v (by simpa using hj) (by simpa using hv)) hA hwt
  subst hn
  have hcall := (hlaw ivs h2).2 (zOf W) W args.toList (fun b hb => zOf_lt hb) hft h1
  simp only [Array.toArray_toList] at hcall
  refine hcall.mono fun e W' ⟨v, Z', he, hr, _, _, hbel⟩ => ?_
  subst he
  cases hr
  have hlt : ∀ x ∈ p ++ [], x.block < W.heap.size := fun x hx => by simpa using hW'.lt x hx
  have hspec := hsp ds (trodAll_len hA)
  simp only [List.append_nil] at hW' hlt
  refine ⟨_, rfl, post_below hW' ?_ ?_ ?_ hbel ?_⟩
  · intro b sp hd
    rw [hspec, hres]
    exact trodAll_cons_mk (shut_bool htb _) trodAll_mk0
  · intro sp hsp'
    rw [hspec]
    exact below_all hlaid hbel (fun t ht => by have := List.all_eq_true.1 hread t ht; simpa using this) hA sp (fun x hx => ⟨hlt x hx, hsp' x hx⟩)
  · intro sp
    rw [hspec, hvars]; rfl
  · exact ok_one hres rfl (okWide_bool_mk htb _)

end Go.Proofs.YtaglopifoibhiaaDoor
namespace Go.Proofs.YtaglopifoibhiaaDoor
open Go.RowKit
set_option linter.unusedVariables false

def InK (k : IntKind) (n : Int) : Prop := k.min ≤ n ∧ n ≤ k.max
def LOk {α : Type} (by_ : Nat) (Ok : α → Prop) (l : List α) : Prop := l.length * by_ ≤ reachBytes ∧ ∀ x ∈ l, Ok x

theorem hcs_cons {t : CTy} {ts : List CTy} {row : List IV} (h : HasCs (t :: ts) row) : ∃ c r, row = c :: r ∧ HasC t c ∧ HasCs ts r := by
  obtain ⟨hl, hc⟩ := h
  cases row with
  | nil => simp at hl
  | cons c r => exact ⟨c, r, rfl, hc 0 t c rfl rfl, by simpa using hl, fun i u d hu hd => hc (i + 1) u d (by simpa using hu) (by simpa using hd)⟩
theorem hcs_nil {row : List IV} (h : HasCs [] row) : row = [] := List.eq_nil_of_length_eq_zero h.1
theorem hasC_int {k : IntKind} {x : IV} (h : HasC (.int k) x) : ∃ n, x = .int k n ∧ InK k n := by cases h; exact ⟨_, rfl, by assumption⟩
theorem hasC_bool {x : IV} (h : HasC .bool x) : ∃ b, x = .bool b := by cases h; exact ⟨_, rfl⟩
theorem hasC_str {x : IV} (h : HasC .str x) : ∃ s, x = .str s ∧ s.size ≤ reachBytes := by cases h; exact ⟨_, rfl, by assumption⟩

theorem rows_open {α : Type} {f : α → List IV} {Ok : α → Prop} {tys : List CTy} (ho : ∀ {row : List IV}, HasCs tys row → ∃ x, row = f x ∧ Ok x) :
    ∀ rows : List (List IV), (∀ row ∈ rows, HasCs tys row) → ∃ l : List α, rows = l.map f ∧ ∀ x ∈ l, Ok x
  | [], _ => ⟨[], rfl, fun x hx => by cases hx⟩
  | row :: rows, h => by
    obtain ⟨x, rfl, hx⟩ := ho (h row (List.mem_cons_self ..))
    obtain ⟨l, rfl, hl⟩ := rows_open ho rows fun r hr => h r (List.mem_cons_of_mem _ hr)
    exact ⟨x :: l, rfl, fun y hy => by
      rcases List.mem_cons.1 hy with rfl | hy
      · exact hx
      · exact hl y hy⟩

theorem hasC_slice {α : Type} {f : α → List IV} {Ok : α → Prop} {tys : List CTy} {by_ : Nat} {x : IV} (ho : ∀ {row : List IV}, HasCs tys row → ∃ x, row = f x ∧ Ok x) (h : HasC (.slice by_ tys) x) :
    ∃ l : List α, x = .slice (l.map f) ∧ LOk by_ Ok l := by
  cases h with
  | slice _ _ rows hl hr hc =>
    obtain ⟨l, rfl, hk⟩ := rows_open ho rows fun row h => ⟨hr row h, hc row h⟩
    exact ⟨l, rfl, by simpa using hl, hk⟩

theorem open_i64 {row : List IV} (h : HasCs [.int .i64] row) : ∃ x : Int, row = rowI x ∧ InK .i64 x := by
  obtain ⟨c, _, rfl, h0, h⟩ := hcs_cons h
  obtain rfl := hcs_nil h
  obtain ⟨n, rfl, k⟩ := hasC_int h0
  exact ⟨n, rfl, k⟩
theorem open_bool1 {row : List IV} (h : HasCs [.bool] row) : ∃ x : Bool, row = rowB x ∧ True := by
  obtain ⟨c, _, rfl, h0, h⟩ := hcs_cons h
  obtain rfl := hcs_nil h
  obtain ⟨n, rfl⟩ := hasC_bool h0
  exact ⟨n, rfl, trivial⟩
theorem open_slice1 {α : Type} {f : α → List IV} {Ok : α → Prop} {tys : List CTy} {by_ : Nat} (ho : ∀ {row : List IV}, HasCs tys row → ∃ x, row = f x ∧ Ok x) {row : List IV} (h : HasCs [.slice by_ tys] row) :
    ∃ x : List α, row = rowL f x ∧ LOk by_ Ok x := by
  obtain ⟨c, _, rfl, h0, h⟩ := hcs_cons h
  obtain rfl := hcs_nil h
  obtain ⟨l, rfl, k⟩ := hasC_slice ho h0
  exact ⟨l, rfl, k⟩
end Go.Proofs.YtaglopifoibhiaaDoor
namespace Go.Proofs.YtaglopifoibhiaaDoor
open Go.RowKit
set_option linter.unusedVariables false

def Ratio.tys : List CTy := [.int .i64, .int .i64]
structure Ratio.Ok (x : Ratio) : Prop where
  num : InK .i64 x.num
  den : InK .i64 x.den
theorem Ratio.opn {row : List IV} (h : HasCs Ratio.tys row) : ∃ x : Ratio, row = Ratio.row x ∧ Ratio.Ok x := by
  obtain ⟨c0, _, rfl, h0, h⟩ := hcs_cons h
  obtain ⟨c1, _, rfl, h1, h⟩ := hcs_cons h
  obtain rfl := hcs_nil h
  obtain ⟨v0, rfl, k0⟩ := hasC_int h0
  obtain ⟨v1, rfl, k1⟩ := hasC_int h1
  exact ⟨⟨v0, v1⟩, rfl, ⟨k0, k1⟩⟩

def UnitT.tys : List CTy := [.str, .int .i64, .int .i64, .int .i64, .int .i64]
structure UnitT.Ok (x : UnitT) : Prop where
  name : x.name.size ≤ reachBytes
  kind : InK .i64 x.kind
  base : InK .i64 x.base
  factor : Ratio.Ok x.factor
theorem UnitT.opn {row : List IV} (h : HasCs UnitT.tys row) : ∃ x : UnitT, row = UnitT.row x ∧ UnitT.Ok x := by
  obtain ⟨c0, _, rfl, h0, h⟩ := hcs_cons h
  obtain ⟨c1, _, rfl, h1, h⟩ := hcs_cons h
  obtain ⟨c2, _, rfl, h2, h⟩ := hcs_cons h
  obtain ⟨c3, _, rfl, h3, h⟩ := hcs_cons h
  obtain ⟨c4, _, rfl, h4, h⟩ := hcs_cons h
  obtain rfl := hcs_nil h
  obtain ⟨v0, rfl, k0⟩ := hasC_str h0
  obtain ⟨v1, rfl, k1⟩ := hasC_int h1
  obtain ⟨v2, rfl, k2⟩ := hasC_int h2
  obtain ⟨v3, rfl, k3⟩ := hasC_int h3
  obtain ⟨v4, rfl, k4⟩ := hasC_int h4
  exact ⟨⟨v0, v1, v2, ⟨v3, v4⟩⟩, rfl, ⟨k0, k1, k2, ⟨k3, k4⟩⟩⟩

def ActT.tys : List CTy := [.int .i64, .int .i64, .int .i64, .int .i64, .int .i64, .int .i64, .int .i64]
structure ActT.Ok (x : ActT) : Prop where
  kind : InK .i64 x.kind
  role : InK .i64 x.role
  give : InK .i64 x.give
  to : InK .i64 x.to
  unit : InK .i64 x.unit
  lot : Ratio.Ok x.lot
theorem ActT.opn {row : List IV} (h : HasCs ActT.tys row) : ∃ x : ActT, row = ActT.row x ∧ ActT.Ok x := by
  obtain ⟨c0, _, rfl, h0, h⟩ := hcs_cons h
  obtain ⟨c1, _, rfl, h1, h⟩ := hcs_cons h
  obtain ⟨c2, _, rfl, h2, h⟩ := hcs_cons h
  obtain ⟨c3, _, rfl, h3, h⟩ := hcs_cons h
  obtain ⟨c4, _, rfl, h4, h⟩ := hcs_cons h
  obtain ⟨c5, _, rfl, h5, h⟩ := hcs_cons h
  obtain ⟨c6, _, rfl, h6, h⟩ := hcs_cons h
  obtain rfl := hcs_nil h
  obtain ⟨v0, rfl, k0⟩ := hasC_int h0
  obtain ⟨v1, rfl, k1⟩ := hasC_int h1
  obtain ⟨v2, rfl, k2⟩ := hasC_int h2
  obtain ⟨v3, rfl, k3⟩ := hasC_int h3
  obtain ⟨v4, rfl, k4⟩ := hasC_int h4
  obtain ⟨v5, rfl, k5⟩ := hasC_int h5
  obtain ⟨v6, rfl, k6⟩ := hasC_int h6
  exact ⟨⟨v0, v1, v2, v3, v4, ⟨v5, v6⟩⟩, rfl, ⟨k0, k1, k2, k3, k4, ⟨k5, k6⟩⟩⟩

def CondT.tys : List CTy := [.int .i64, .int .i64]
structure CondT.Ok (x : CondT) : Prop where
  clause : InK .i64 x.clause
  is : InK .i64 x.is
theorem CondT.opn {row : List IV} (h : HasCs CondT.tys row) : ∃ x : CondT, row = CondT.row x ∧ CondT.Ok x := by
  obtain ⟨c0, _, rfl, h0, h⟩ := hcs_cons h
  obtain ⟨c1, _, rfl, h1, h⟩ := hcs_cons h
  obtain rfl := hcs_nil h
  obtain ⟨v0, rfl, k0⟩ := hasC_int h0
  obtain ⟨v1, rfl, k1⟩ := hasC_int h1
  exact ⟨⟨v0, v1⟩, rfl, ⟨k0, k1⟩⟩

def ClauseT.tys : List CTy := [.int .i64, .int .i64, .int .i64, .int .i64, .slice 16 CondT.tys, .int .i64, .int .i64, .bool, .bool, .int .i64, .int .i64, .int .i64, .int .i64, .int .i64, .int .i64, .bool]
structure ClauseT.Ok (x : ClauseT) : Prop where
  kind : InK .i64 x.kind
  role : InK .i64 x.role
  act : InK .i64 x.act
  need : InK .i64 x.need
  start : LOk 16 CondT.Ok x.start
  after : InK .i64 x.after
  grace : InK .i64 x.grace
  pause : InK .i64 x.pause
  resume : InK .i64 x.resume
  value : Ratio.Ok x.value
  unit : InK .i64 x.unit
  to : InK .i64 x.to
theorem ClauseT.opn {row : List IV} (h : HasCs ClauseT.tys row) : ∃ x : ClauseT, row = ClauseT.row x ∧ ClauseT.Ok x := by
  obtain ⟨c0, _, rfl, h0, h⟩ := hcs_cons h
  obtain ⟨c1, _, rfl, h1, h⟩ := hcs_cons h
  obtain ⟨c2, _, rfl, h2, h⟩ := hcs_cons h
  obtain ⟨c3, _, rfl, h3, h⟩ := hcs_cons h
  obtain ⟨c4, _, rfl, h4, h⟩ := hcs_cons h
  obtain ⟨c5, _, rfl, h5, h⟩ := hcs_cons h
  obtain ⟨c6, _, rfl, h6, h⟩ := hcs_cons h
  obtain ⟨c7, _, rfl, h7, h⟩ := hcs_cons h
  obtain ⟨c8, _, rfl, h8, h⟩ := hcs_cons h
  obtain ⟨c9, _, rfl, h9, h⟩ := hcs_cons h
  obtain ⟨c10, _, rfl, h10, h⟩ := hcs_cons h
  obtain ⟨c11, _, rfl, h11, h⟩ := hcs_cons h
  obtain ⟨c12, _, rfl, h12, h⟩ := hcs_cons h
  obtain ⟨c13, _, rfl, h13, h⟩ := hcs_cons h
  obtain ⟨c14, _, rfl, h14, h⟩ := hcs_cons h
  obtain ⟨c15, _, rfl, h15, h⟩ := hcs_cons h
  obtain rfl := hcs_nil h
  obtain ⟨v0, rfl, k0⟩ := hasC_int h0
  obtain ⟨v1, rfl, k1⟩ := hasC_int h1
  obtain ⟨v2, rfl, k2⟩ := hasC_int h2
  obtain ⟨v3, rfl, k3⟩ := hasC_int h3
  obtain ⟨v4, rfl, k4⟩ := hasC_slice @CondT.opn h4
  obtain ⟨v5, rfl, k5⟩ := hasC_int h5
  obtain ⟨v6, rfl, k6⟩ := hasC_int h6
  obtain ⟨v7, rfl⟩ := hasC_bool h7
  obtain ⟨v8, rfl⟩ := hasC_bool h8
  obtain ⟨v9, rfl, k9⟩ := hasC_int h9
  obtain ⟨v10, rfl, k10⟩ := hasC_int h10
  obtain ⟨v11, rfl, k11⟩ := hasC_int h11
  obtain ⟨v12, rfl, k12⟩ := hasC_int h12
  obtain ⟨v13, rfl, k13⟩ := hasC_int h13
  obtain ⟨v14, rfl, k14⟩ := hasC_int h14
  obtain ⟨v15, rfl⟩ := hasC_bool h15
  exact ⟨⟨v0, v1, v2, v3, v4, v5, v6, v7, v8, v9, v10, ⟨v11, v12⟩, v13, v14, v15⟩, rfl, ⟨k0, k1, k2, k3, k4, k5, k6, k9, k10, ⟨k11, k12⟩, k13, k14⟩⟩

def ContractT.tys : List CTy := [.int .i64, .slice 8 [.int .i64], .slice 48 UnitT.tys, .slice 56 ActT.tys, .slice 136 ClauseT.tys, .int .i64, .slice 8 [.int .i64]]
structure ContractT.Ok (x : ContractT) : Prop where
  parties : InK .i64 x.parties
  holders : LOk 8 (fun x : Int => InK .i64 x) x.holders
  units : LOk 48 UnitT.Ok x.units
  acts : LOk 56 ActT.Ok x.acts
  clauses : LOk 136 ClauseT.Ok x.clauses
  days : InK .i64 x.days
  off : LOk 8 (fun x : Int => InK .i64 x) x.off
theorem ContractT.opn {row : List IV} (h : HasCs ContractT.tys row) : ∃ x : ContractT, row = ContractT.row x ∧ ContractT.Ok x := by
  obtain ⟨c0, _, rfl, h0, h⟩ := hcs_cons h
  obtain ⟨c1, _, rfl, h1, h⟩ := hcs_cons h
  obtain ⟨c2, _, rfl, h2, h⟩ := hcs_cons h
  obtain ⟨c3, _, rfl, h3, h⟩ := hcs_cons h
  obtain ⟨c4, _, rfl, h4, h⟩ := hcs_cons h
  obtain ⟨c5, _, rfl, h5, h⟩ := hcs_cons h
  obtain ⟨c6, _, rfl, h6, h⟩ := hcs_cons h
  obtain rfl := hcs_nil h
  obtain ⟨v0, rfl, k0⟩ := hasC_int h0
  obtain ⟨v1, rfl, k1⟩ := hasC_slice open_i64 h1
  obtain ⟨v2, rfl, k2⟩ := hasC_slice @UnitT.opn h2
  obtain ⟨v3, rfl, k3⟩ := hasC_slice @ActT.opn h3
  obtain ⟨v4, rfl, k4⟩ := hasC_slice @ClauseT.opn h4
  obtain ⟨v5, rfl, k5⟩ := hasC_int h5
  obtain ⟨v6, rfl, k6⟩ := hasC_slice open_i64 h6
  exact ⟨⟨v0, v1, v2, v3, v4, v5, v6⟩, rfl, ⟨k0, k1, k2, k3, k4, k5, k6⟩⟩

def MarkT.tys : List CTy := [.int .i64, .int .i64, .int .i64, .int .i64, .bool]
structure MarkT.Ok (x : MarkT) : Prop where
  status : InK .i64 x.status
  left : InK .i64 x.left
  got : InK .i64 x.got
  bearer : InK .i64 x.bearer
theorem MarkT.opn {row : List IV} (h : HasCs MarkT.tys row) : ∃ x : MarkT, row = MarkT.row x ∧ MarkT.Ok x := by
  obtain ⟨c0, _, rfl, h0, h⟩ := hcs_cons h
  obtain ⟨c1, _, rfl, h1, h⟩ := hcs_cons h
  obtain ⟨c2, _, rfl, h2, h⟩ := hcs_cons h
  obtain ⟨c3, _, rfl, h3, h⟩ := hcs_cons h
  obtain ⟨c4, _, rfl, h4, h⟩ := hcs_cons h
  obtain rfl := hcs_nil h
  obtain ⟨v0, rfl, k0⟩ := hasC_int h0
  obtain ⟨v1, rfl, k1⟩ := hasC_int h1
  obtain ⟨v2, rfl, k2⟩ := hasC_int h2
  obtain ⟨v3, rfl, k3⟩ := hasC_int h3
  obtain ⟨v4, rfl⟩ := hasC_bool h4
  exact ⟨⟨v0, v1, v2, v3, v4⟩, rfl, ⟨k0, k1, k2, k3⟩⟩

def StateT.tys : List CTy := [.int .i64, .slice 8 [.int .i64], .slice 1 [.bool], .slice 40 MarkT.tys]
structure StateT.Ok (x : StateT) : Prop where
  day : InK .i64 x.day
  holders : LOk 8 (fun x : Int => InK .i64 x) x.holders
  used : LOk 1 (fun x : Bool => True) x.used
  marks : LOk 40 MarkT.Ok x.marks
theorem StateT.opn {row : List IV} (h : HasCs StateT.tys row) : ∃ x : StateT, row = StateT.row x ∧ StateT.Ok x := by
  obtain ⟨c0, _, rfl, h0, h⟩ := hcs_cons h
  obtain ⟨c1, _, rfl, h1, h⟩ := hcs_cons h
  obtain ⟨c2, _, rfl, h2, h⟩ := hcs_cons h
  obtain ⟨c3, _, rfl, h3, h⟩ := hcs_cons h
  obtain rfl := hcs_nil h
  obtain ⟨v0, rfl, k0⟩ := hasC_int h0
  obtain ⟨v1, rfl, k1⟩ := hasC_slice open_i64 h1
  obtain ⟨v2, rfl, k2⟩ := hasC_slice open_bool1 h2
  obtain ⟨v3, rfl, k3⟩ := hasC_slice @MarkT.opn h3
  exact ⟨⟨v0, v1, v2, v3⟩, rfl, ⟨k0, k1, k2, k3⟩⟩

def PosT.tys : List CTy := [.int .i64, .slice 8 [.int .i64], .slice 1 [.bool], .slice 40 MarkT.tys, .bool]
structure PosT.Ok (x : PosT) : Prop where
  state : StateT.Ok x.state
theorem PosT.opn {row : List IV} (h : HasCs PosT.tys row) : ∃ x : PosT, row = PosT.row x ∧ PosT.Ok x := by
  obtain ⟨c0, _, rfl, h0, h⟩ := hcs_cons h
  obtain ⟨c1, _, rfl, h1, h⟩ := hcs_cons h
  obtain ⟨c2, _, rfl, h2, h⟩ := hcs_cons h
  obtain ⟨c3, _, rfl, h3, h⟩ := hcs_cons h
  obtain ⟨c4, _, rfl, h4, h⟩ := hcs_cons h
  obtain rfl := hcs_nil h
  obtain ⟨v0, rfl, k0⟩ := hasC_int h0
  obtain ⟨v1, rfl, k1⟩ := hasC_slice open_i64 h1
  obtain ⟨v2, rfl, k2⟩ := hasC_slice open_bool1 h2
  obtain ⟨v3, rfl, k3⟩ := hasC_slice @MarkT.opn h3
  obtain ⟨v4, rfl⟩ := hasC_bool h4
  exact ⟨⟨⟨v0, v1, v2, v3⟩, v4⟩, rfl, ⟨⟨k0, k1, k2, k3⟩⟩⟩

def MoveT.tys : List CTy := [.int .i64, .int .i64]
structure MoveT.Ok (x : MoveT) : Prop where
  step : InK .i64 x.step
  to : InK .i64 x.to
theorem MoveT.opn {row : List IV} (h : HasCs MoveT.tys row) : ∃ x : MoveT, row = MoveT.row x ∧ MoveT.Ok x := by
  obtain ⟨c0, _, rfl, h0, h⟩ := hcs_cons h
  obtain ⟨c1, _, rfl, h1, h⟩ := hcs_cons h
  obtain rfl := hcs_nil h
  obtain ⟨v0, rfl, k0⟩ := hasC_int h0
  obtain ⟨v1, rfl, k1⟩ := hasC_int h1
  exact ⟨⟨v0, v1⟩, rfl, ⟨k0, k1⟩⟩

def ArenaT.tys : List CTy := [.int .i64, .slice 88 PosT.tys, .slice 24 [.slice 16 MoveT.tys]]
structure ArenaT.Ok (x : ArenaT) : Prop where
  party : InK .i64 x.party
  positions : LOk 88 PosT.Ok x.positions
  moves : LOk 24 (fun x : List MoveT => LOk 16 MoveT.Ok x) x.moves
theorem ArenaT.opn {row : List IV} (h : HasCs ArenaT.tys row) : ∃ x : ArenaT, row = ArenaT.row x ∧ ArenaT.Ok x := by
  obtain ⟨c0, _, rfl, h0, h⟩ := hcs_cons h
  obtain ⟨c1, _, rfl, h1, h⟩ := hcs_cons h
  obtain ⟨c2, _, rfl, h2, h⟩ := hcs_cons h
  obtain rfl := hcs_nil h
  obtain ⟨v0, rfl, k0⟩ := hasC_int h0
  obtain ⟨v1, rfl, k1⟩ := hasC_slice @PosT.opn h1
  obtain ⟨v2, rfl, k2⟩ := hasC_slice (open_slice1 (by_ := 16) @MoveT.opn) h2
  exact ⟨⟨v0, v1, v2⟩, rfl, ⟨k0, k1, k2⟩⟩

end Go.Proofs.YtaglopifoibhiaaDoor
namespace Go.Proofs.YtaglopifoibhiaaDoor
set_option linter.unusedVariables false
set_option linter.unusedSimpArgs false

def OutP {σ ρ : Type} (A : σ → Prop) (Q : ρ → Prop) : σ ⊕ ρ → Prop
  | .inl s => A s
  | .inr r => Q r

theorem forFrom_rule {σ ρ : Type} {f : Nat → σ → Option (σ ⊕ ρ)} {Inv : Nat → σ → Prop} {Q : ρ → Prop} (n : Nat)
    (step : ∀ (i : Nat) (s : σ), i < n → Inv i s → ∃ o, f i s = some o ∧ OutP (Inv (i + 1)) Q o) :
    ∀ (k i : Nat) (s : σ), i + k = n → Inv i s → ∃ o, forFrom f i k s = some o ∧ OutP (Inv n) Q o
  | 0, i, s, h, hi => ⟨.inl s, rfl, by obtain rfl : i = n := by omega
                                       exact hi⟩
  | k + 1, i, s, h, hi => by
    obtain ⟨o, h1, h2⟩ := step i s (by omega) hi
    simp only [forFrom, h1]
    cases o with
    | inl s' => exact forFrom_rule n step k (i + 1) s' (by omega) h2
    | inr r => exact ⟨.inr r, rfl, h2⟩

theorem forR_rule {σ ρ : Type} {f : Nat → σ → Option (σ ⊕ ρ)} {n : Int} {s0 : σ} (Inv : Nat → σ → Prop) (Q : ρ → Prop) (hn : n < 4611686018427387904)
    (h0 : Inv 0 s0) (step : ∀ (i : Nat) (s : σ), (i : Int) < n → Inv i s → ∃ o, f i s = some o ∧ OutP (Inv (i + 1)) Q o) :
    ∃ o, forR n f s0 = some o ∧ OutP (Inv n.toNat) Q o := by
  rw [forR_pos hn]
  exact forFrom_rule n.toNat (fun i s hi => step i s (by omega)) n.toNat 0 s0 (by omega) h0

theorem forR_ruleL {σ ρ : Type} {f : Nat → σ → Option (σ ⊕ ρ)} {n : Nat} {s0 : σ} (Inv : Nat → σ → Prop) (Q : ρ → Prop) (hn : n < 4611686018427387904)
    (h0 : Inv 0 s0) (step : ∀ (i : Nat) (s : σ), i < n → Inv i s → ∃ o, f i s = some o ∧ OutP (Inv (i + 1)) Q o) :
    ∃ o, forR (n : Int) f s0 = some o ∧ OutP (Inv n) Q o := by
  have := forR_rule (n := (n : Int)) Inv Q (by omega) h0 (fun i s hi => step i s (by omega))
  simpa using this

theorem iter_rule {σ ρ : Type} {f : σ → Option (σ ⊕ ρ)} (Inv : σ → Prop) (Q : ρ → Prop) (m : σ → Nat)
    (step : ∀ s, Inv s → ∃ o, f s = some o ∧ OutP (fun s' => Inv s' ∧ m s' < m s) Q o) : ∀ s0, Inv s0 → ∃ r, iter f s0 = some r ∧ Q r := by
  have key : ∀ (k : Nat) (s : σ), m s < k → Inv s → ∃ r, iter f s = some r ∧ Q r := by
    intro k
    induction k with
    | zero => intro s h; omega
    | succ k ih =>
      intro s hk hs
      obtain ⟨o, h1, h2⟩ := step s hs
      rw [iter_eq, h1]
      cases o with
      | inl s' => exact ih s' (by have := h2.2; omega) h2.1
      | inr r => exact ⟨r, rfl, h2⟩
  exact fun s0 h => key _ s0 (Nat.lt_succ_self _) h

theorem forFrom_first {ρ : Type} {f : Nat → Unit → Option (Unit ⊕ ρ)} {p : Nat → Bool} {g : Nat → ρ} : ∀ (k i : Nat), (∀ j, i ≤ j → j < i + k → f j () = some (bif p j then .inl () else .inr (g j))) →
    forFrom f i k () = some (match (List.range' i k).find? (fun j => !p j) with | none => .inl () | some j => .inr (g j))
  | 0, i, h => rfl
  | k + 1, i, h => by
    simp only [forFrom, h i (Nat.le_refl _) (by omega), List.range'_succ, List.find?_cons]
    cases hp : p i with
    | true =>
      simp only [cond_true, Bool.not_true]
      exact forFrom_first k (i + 1) fun j h1 h2 => h j (by omega) (by omega)
    | false => simp

theorem forR_first {ρ : Type} {f : Nat → Unit → Option (Unit ⊕ ρ)} {n : Nat} (p : Nat → Bool) (g : Nat → ρ) (hn : n < 4611686018427387904) (h : ∀ j, j < n → f j () = some (bif p j then .inl () else .inr (g j))) :
    forR (n : Int) f () = some (match (List.range n).find? (fun j => !p j) with | none => .inl () | some j => .inr (g j)) := by
  rw [forR_pos (by omega)]
  have := forFrom_first (f := f) (p := p) (g := g) n 0 (fun j _ h2 => h j (by omega))
  simpa [List.range_eq_range'] using this

theorem find_none {n : Nat} {p : Nat → Bool} (h : (List.range n).find? (fun j => !p j) = none) : ∀ j, j < n → p j = true := fun j hj => by
  have := List.find?_eq_none.1 h j (List.mem_range.2 hj)
  simpa using this
theorem find_range' {q : Nat → Bool} : ∀ (k a i : Nat), (List.range' a k).find? q = some i → i < a + k ∧ a ≤ i ∧ q i = true ∧ ∀ j, a ≤ j → j < i → q j = false
  | 0, a, i, h => by simp at h
  | k + 1, a, i, h => by
    rw [List.range'_succ, List.find?_cons] at h
    split at h
    · rename_i hq
      cases h
      exact ⟨by omega, Nat.le_refl _, hq, fun j h1 h2 => by omega⟩
    · rename_i hq
      obtain ⟨h1, h2, h3, h4⟩ := find_range' k (a + 1) i h
      exact ⟨by omega, by omega, h3, fun j h5 h6 => by
        rcases Nat.eq_or_lt_of_le h5 with h7 | h7
        · subst h7; exact hq
        · exact h4 j (by omega) h6⟩
theorem find_some {n i : Nat} {p : Nat → Bool} (h : (List.range n).find? (fun j => !p j) = some i) : i < n ∧ p i = false ∧ ∀ j, j < i → p j = true := by
  rw [List.range_eq_range'] at h
  obtain ⟨h1, _, h2, h3⟩ := find_range' n 0 i h
  exact ⟨by omega, by simpa using h2, fun j hj => by simpa using h3 j (Nat.zero_le _) hj⟩
theorem cond_some {α : Type} (b : Bool) (x y : α) : (bif b then some x else some y) = some (bif b then x else y) := by cases b <;> rfl
theorem idxI_at {α : Type} {l : List α} {i : Nat} {e : α} (h : l[i]? = some e) : idxI l (i : Int) = some e := by
  unfold idxI; rw [if_pos (by omega)]; simpa using h
theorem idxI_nat' {α : Type} (l : List α) (i : Nat) : idxI l (i : Int) = l[i]? := by
  unfold idxI; rw [if_pos (by omega)]; simp
theorem idxI_lt {α : Type} {l : List α} {n : Int} (h0 : 0 ≤ n) (h1 : n < l.length) : ∃ h : n.toNat < l.length, idxI l n = some l[n.toNat] := by
  have h : n.toNat < l.length := by omega
  exact ⟨h, by unfold idxI; rw [if_pos h0]; exact List.getElem?_eq_getElem h⟩
theorem idxI_neg {α : Type} {l : List α} {n : Int} (h : ¬ (0 ≤ n ∧ n < l.length)) : idxI l n = none := by
  unfold idxI
  split
  · exact List.getElem?_eq_none (by omega)
  · rfl
theorem idxN_lt {len : Nat} {n : Int} (h0 : 0 ≤ n) (h1 : n < len) : idxN len n = some n.toNat := by unfold idxN; rw [if_pos ⟨h0, h1⟩]
theorem idxN_nat {len i : Nat} (h : i < len) : idxN len (i : Int) = some i := by unfold idxN; rw [if_pos ⟨by omega, by omega⟩]; simp
end Go.Proofs.YtaglopifoibhiaaDoor
namespace Go.Proofs.YtaglopifoibhiaaDoor
set_option linter.unusedVariables false
set_option linter.unusedSimpArgs false

def Ret {α : Type} (x : Option α) (Q : α → Prop) : Prop := ∃ r, x = some r ∧ Q r
theorem Ret.some {α : Type} {a : α} {Q : α → Prop} (h : Q a) : Ret (Option.some a) Q := ⟨a, rfl, h⟩
theorem Ret.bind {α β : Type} {x : Option α} {f : α → Option β} {P : α → Prop} {Q : β → Prop} (hx : Ret x P) (hf : ∀ v, P v → Ret (f v) Q) : Ret (x.bind f) Q := by
  obtain ⟨v, rfl, hv⟩ := hx
  exact hf v hv
theorem Ret.bindE {α β : Type} {x : Option α} {f : α → Option β} {v : α} {Q : β → Prop} (hx : x = Option.some v) (hf : Ret (f v) Q) : Ret (x.bind f) Q := by
  subst hx; exact hf
theorem Ret.ite {α : Type} {b : Bool} {x y : Option α} {Q : α → Prop} (h1 : b = true → Ret x Q) (h2 : b = false → Ret y Q) : Ret (bif b then x else y) Q := by
  cases b
  · exact h2 rfl
  · exact h1 rfl
theorem Ret.mono {α : Type} {x : Option α} {P Q : α → Prop} (h : Ret x P) (hq : ∀ r, P r → Q r) : Ret x Q := by
  obtain ⟨r, h1, h2⟩ := h; exact ⟨r, h1, hq r h2⟩
theorem Ret.eq {α : Type} {x : Option α} {a : α} (h : Ret x (· = a)) : x = Option.some a := by obtain ⟨r, h1, rfl⟩ := h; exact h1
theorem Ret.of {α : Type} {x : Option α} {a : α} (h : x = Option.some a) : Ret x (· = a) := ⟨a, h, rfl⟩
theorem Ret.forL {σ ρ : Type} {f : Nat → σ → Option (σ ⊕ ρ)} {n : Nat} {s0 : σ} {Q : σ ⊕ ρ → Prop} (Inv : Nat → σ → Prop) (hn : n < 4611686018427387904) (h0 : Inv 0 s0)
    (step : ∀ (i : Nat) (s : σ), i < n → Inv i s → Ret (f i s) (OutP (Inv (i + 1)) fun r => Q (.inr r))) (hQ : ∀ s, Inv n s → Q (.inl s)) : Ret (forR (n : Int) f s0) Q := by
  obtain ⟨o, h1, h2⟩ := forR_ruleL (n := n) (s0 := s0) (f := f) Inv (fun r => Q (.inr r)) hn h0 step
  refine ⟨o, h1, ?_⟩
  cases o with
  | inl s => exact hQ s h2
  | inr r => exact h2
theorem Ret.iter {σ ρ : Type} {f : σ → Option (σ ⊕ ρ)} {s0 : σ} {Q : ρ → Prop} (Inv : σ → Prop) (m : σ → Nat) (h0 : Inv s0)
    (step : ∀ s, Inv s → Ret (f s) (OutP (fun s' => Inv s' ∧ m s' < m s) Q)) : Ret (Go.Proofs.YtaglopifoibhiaaDoor.iter f s0) Q := iter_rule (f := f) Inv Q m step s0 h0
theorem Ret.idx {α : Type} {l : List α} {n : Int} {Q : α → Prop} (h0 : 0 ≤ n) (h1 : n < l.length) (h : ∀ hi : n.toNat < l.length, Q l[n.toNat]) : Ret (idxI l n) Q := by
  obtain ⟨hi, e⟩ := idxI_lt h0 h1
  exact ⟨_, e, h hi⟩

theorem appI_of {α : Type} {by_ : Nat} {l m : List α} (h : (l.length + m.length) * by_ ≤ 140737488355328) : appI by_ l m = some (l ++ m) := by unfold appI; rw [if_pos h]
end Go.Proofs.YtaglopifoibhiaaDoor
namespace Go.Proofs.YtaglopifoibhiaaDoor
set_option linter.unusedVariables false
set_option linter.unusedSimpArgs false

def goL {α σ ρ : Type} (F : α → σ → Option (σ ⊕ ρ)) : List α → σ → Option (σ ⊕ ρ)
  | [], s => some (.inl s)
  | x :: r, s => match F x s with
    | none => none
    | some (.inr y) => some (.inr y)
    | some (.inl s') => goL F r s'
theorem forFrom_list {α σ ρ : Type} {f : Nat → σ → Option (σ ⊕ ρ)} {F : α → σ → Option (σ ⊕ ρ)} : ∀ (l : List α) (i : Nat) (s : σ), (∀ (j : Nat) (hj : j < l.length) (s : σ), f (i + j) s = F l[j] s) → forFrom f i l.length s = goL F l s
  | [], i, s, h => rfl
  | x :: r, i, s, h => by
    have h0 := h 0 (by simp) s
    simp only [Nat.add_zero, List.getElem_cons_zero] at h0
    simp only [List.length_cons, forFrom, goL, h0]
    have ih : ∀ s', forFrom f (i + 1) r.length s' = goL F r s' := fun s' => forFrom_list r (i + 1) s' (f := f) (F := F) fun j hj s => by
      have := h (j + 1) (by simpa using hj) s
      simp only [List.getElem_cons_succ] at this
      rw [← this]; congr 1; omega
    cases F x s with
    | none => rfl
    | some o =>
      cases o with
      | inl s' => exact ih s'
      | inr y => rfl
theorem forR_list {α σ ρ : Type} {f : Nat → σ → Option (σ ⊕ ρ)} {F : α → σ → Option (σ ⊕ ρ)} (l : List α) (hl : l.length < 4611686018427387904) (h : ∀ (j : Nat) (hj : j < l.length) (s : σ), f j s = F l[j] s) (s : σ) : forR (l.length : Int) f s = goL F l s := by
  rw [forR_pos (by omega)]
  have := forFrom_list l 0 s (f := f) (F := F) (fun j hj s => by rw [Nat.zero_add]; exact h j hj s)
  simpa using this

def incB (n : Int) : Int → List Int → Bool
  | _, [] => true
  | a, x :: r => (!decide (x ≤ a) && !decide (n ≤ x)) && incB n x r
def lastI : Int → List Int → Int
  | a, [] => a
  | _, x :: r => lastI x r
theorem s_inc (n : Int) (l : List Int) (hl : l.length < 4611686018427387904) (a : Int) : forR (σ := Int) (ρ := Unit) (l.length : Int) (fun i1 s1 => (Option.bind (idxI l (i1 : Int)) fun e1 => (Option.bind (bif decide (e1 ≤ s1) then some true else some (decide (n ≤ e1))) fun v1 => (bif v1 then some (.inr ()) else some (.inl e1))))) a = some (bif incB n a l then .inl (lastI a l) else .inr ()) := by
  rw [forR_list (F := fun x s => bif (decide (x ≤ s) || decide (n ≤ x)) then some (.inr ()) else some (.inl x)) l hl (fun j hj s => by
    simp only [idxI_nat', List.getElem?_eq_getElem hj, Option.bind_some, cond_some, Bool.cond_true_left])]
  clear hl
  induction l generalizing a with
  | nil => rfl
  | cons x r ih =>
    simp only [goL, incB, lastI]
    cases decide (x ≤ a) <;> cases decide (n ≤ x) <;> simp [ih]
theorem incB_spec {n : Int} : ∀ {a : Int} {l : List Int}, incB n a l = true → (∀ x ∈ l, a < x ∧ x < n) ∧ l.Pairwise (· < ·)
  | a, [], _ => ⟨fun x hx => (by cases hx), List.Pairwise.nil⟩
  | a, x :: r, h => by
    simp only [incB, Bool.and_eq_true, Bool.not_eq_true', decide_eq_false_iff_not] at h
    obtain ⟨⟨h1, h2⟩, h3⟩ := h
    obtain ⟨h4, h5⟩ := incB_spec h3
    refine ⟨fun y hy => ?_, List.pairwise_cons.2 ⟨fun y hy => (h4 y hy).1, h5⟩⟩
    rcases List.mem_cons.1 hy with rfl | hy
    · exact ⟨by omega, by omega⟩
    · have := h4 y hy; exact ⟨by omega, this.2⟩
theorem incB_len {n : Int} : ∀ {a : Int} {l : List Int}, incB n a l = true → (l.length : Int) ≤ 0 ∨ a + l.length < n
  | a, [], _ => .inl (by simp)
  | a, x :: r, h => by
    simp only [incB, Bool.and_eq_true, Bool.not_eq_true', decide_eq_false_iff_not] at h
    obtain ⟨⟨h1, h2⟩, h3⟩ := h
    rcases incB_len h3 with h4 | h4
    · simp only [List.length_cons]; omega
    · simp only [List.length_cons]; omega
theorem inc_nodup {l : List Int} (h : l.Pairwise (· < ·)) : l.Nodup := h.imp fun h => by omega
end Go.Proofs.YtaglopifoibhiaaDoor
namespace Go.Proofs.YtaglopifoibhiaaDoor
open Go.ChangeShapes Go.WideShapes Go.RowKit
set_option maxRecDepth 100000

abbrev laidL : List (String × DataW Unit) := [("math/bits.deBruijn32tab", Rows.laid_math_bits_deBruijn32tab), ("math/bits.deBruijn64tab", Rows.laid_math_bits_deBruijn64tab), ("internal/strconv.uint64pow10", Rows.laid_internal_strconv_uint64pow10)]

theorem pow_data : (laidL.filter fun x => x.1 == powName) = [(powName, Lib.tabData .u64 Lib.pow10Tab)] := by kernel_rfl
theorem tabs_of_laid {W : World} (h : laidMet Tryd.prog laidL W) : C0.tabs.p W ∧ C0.tabs.n ≤ W.heap.size := by
  have h1 := h.filter (fun x => x.1 == powName)
  rw [pow_data] at h1
  have h2 : C0.tabs.p W := Lib.tabIs_of_head (g := 0) (t := ((Tryd.prog.globals[0]?).map (·.type)).getD 0) (e := 127) (n := 20)
    (by kernel_rfl) (by kernel_rfl) (by kernel_rfl) (by kernel_rfl) (by kernel_rfl) (by kernel_rfl) h1
  exact ⟨h2, tabs0_size h2⟩

def cellsD : DataW Unit → Array Value
  | .agg ds => (ds.map fun d => match d with | .lit (.int k n) => Value.int k n | _ => Value.bool false).toArray
  | _ => #[]
def setTab (w : World) (g : Nat) (d : DataW Unit) : World := { w with heap := w.heap.modify g fun | .cells _ t f => .cells (cellsD d) t f | o => o }
noncomputable def laidWorld (os : Os) : World :=
  setTab (setTab (setTab (World.holding Tryd.prog os ⟨#[], #[], []⟩) 1 Rows.laid_math_bits_deBruijn32tab) 2 Rows.laid_math_bits_deBruijn64tab) 0 Rows.laid_internal_strconv_uint64pow10

theorem laidWorld_met (os : Os) (args : Array Value) : laidMet Tryd.prog laidL ((laidWorld os).forCall (fun _ _ => 0) ⟨#[], args, []⟩).memory :=
  laidMet_of_run3 8 (by kernel_rfl) (by kernel_rfl) (by kernel_rfl)

end Go.Proofs.YtaglopifoibhiaaDoor
