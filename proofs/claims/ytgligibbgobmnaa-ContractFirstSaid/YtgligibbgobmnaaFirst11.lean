/-
  'ContractFirst': for every input the call returns true, and each argument reads afterwards as it read before.
  The law 'ContractFirst', of what the functions come to.
  Laws that the statements of layer 13 share: 'Few', and sizes of arguments.
  The laws' fixed examples: 'head' returns true.
  What 'contract.Valid' comes to.
  Plain laws about loops, searches and elements of lists.
  The program's functions are the abstract code.
  From readings to the data of this program's types.
  From data of the abstract machine to typed data.
  A law that holds of all plain data of its types is the row's contract: whatever the arguments, the call returns true, and each argument reads as it read before.
  From the readings of a row's arguments to the abstract machine's data: whatever plain data is handed in (numbers, truth values, texts, slices and structures of these) is data of the abstract machine, of its type; and a law that is proved of all such data is the row's contract.
-/
import Derived.Test.YtgligibbgobmnaaFirst02
import Derived.ProofKit
import Derived.SizedLaws
import Derived.Carry
import Derived.OpenShut
import Derived.Test.YtgligibbgobmnaaFirst03
import Derived.Test.YtgligibbgobmnaaFirst04
import Derived.Test.YtgligibbgobmnaaFirst05
import Derived.Test.YtgligibbgobmnaaChecked
import Derived.KernelRfl
import Derived.Test.YtgligibbgobmnaaFirst06
import Derived.Test.YtgligibbgobmnaaFirst10
import Derived.Test.YtgligibbgobmnaaRows
import Derived.JoinedOf
namespace Go.Proofs.Ytgligibbgobmnaa
open Go.RowKit Go.ChangeShapes Go.WideShapes
set_option linter.unusedVariables false
set_option linter.unusedSimpArgs false

inductive CTy where
  | bool
  | int (k : IntKind)
  | str
  | slice (by_ : Nat) (row : List CTy)

inductive HasC : CTy → IV → Prop where
  | bool (b : Bool) : HasC .bool (.bool b)
  | int (k : IntKind) (n : Int) (h : k.min ≤ n ∧ n ≤ k.max) : HasC (.int k) (.int k n)
  | str (s : ByteArray) (h : s.size ≤ reachBytes) : HasC .str (.str s)
  | slice (by_ : Nat) (tys : List CTy) (rows : List (List IV)) (hl : rows.length * by_ ≤ reachBytes) (hr : ∀ row ∈ rows, row.length = tys.length)
      (hc : ∀ row ∈ rows, ∀ (i : Nat) (t : CTy) (c : IV), tys[i]? = some t → row[i]? = some c → HasC t c) : HasC (.slice by_ tys) (.slice rows)

def HasCs (tys : List CTy) (row : List IV) : Prop := row.length = tys.length ∧ ∀ (i : Nat) (t : CTy) (c : IV), tys[i]? = some t → row[i]? = some c → HasC t c

def fieldsC (P : Program) (f : TypeId → Option (List CTy)) : Nat → List Field → Option (List CTy)
  | _, [] => some []
  | off, x :: r => if x.offset = off then match f x.type with
      | some a => if a.length = P.cellsOf x.type then match fieldsC P f (off + a.length) r with
          | some b => some (a ++ b)
          | none => none
        else none
      | none => none
    else none

def ctys (P : Program) : Nat → TypeId → Option (List CTy)
  | 0, _ => none
  | n + 1, t => match P.underlying t with
    | some .bool => some [.bool]
    | some (.int k) => some [.int k]
    | some .string => some [.str]
    | some (.slice e) => match ctys P n e with
      | some r => if r.length = P.cellsOf e ∧ 0 < r.length then some [.slice (P.bytesOf e) r] else none
      | none => none
    | some (.struct fs) => match fieldsC P (ctys P n) 0 fs.toList with
      | some r => if r.length = P.cellsOf t then some r else none
      | none => none
    | _ => none

def zOf (w : World) (b : Nat) : Nat := match w.heap[b]? with
  | some (.cells c _ _) => c.size
  | _ => 0

theorem zOf_lt {w : World} {b : Nat} (h : 0 < zOf w b) : b < w.heap.size := by
  unfold zOf at h
  split at h
  · rename_i c t f e; exact (Array.getElem?_eq_some_iff.1 e).1
  · omega

theorem cell_z {w : World} {b off : Nat} {s : Option Nat} {v : Value} (h : w.cell? ⟨b, off, s⟩ = some v) : s = none ∧ off < zOf w b := by
  unfold World.cell? at h
  unfold zOf
  simp only at h
  split at h
  · rename_i c t f e
    rw [e]
    cases s with
    | some _ => simp at h
    | none => simp at h; exact ⟨rfl, (Array.getElem?_eq_some_iff.1 h).1⟩
  · cases h

theorem mapM_at {α β : Type} {f : α → Option β} : ∀ {l : List α} {ys : List β}, l.mapM f = some ys → ys.length = l.length ∧ ∀ (i : Nat) (x : α), l[i]? = some x → ∃ y, ys[i]? = some y ∧ f x = some y
  | [], ys, h => by
    simp at h; subst h; exact ⟨rfl, fun i x hx => by simp at hx⟩
  | a :: l, ys, h => by
    rw [List.mapM_cons] at h
    simp only [Option.bind_eq_bind, Option.bind_eq_some_iff, Option.pure_def, Option.some.injEq] at h
    obtain ⟨y, hy, r, hr, rfl⟩ := h
    obtain ⟨h1, h2⟩ := mapM_at hr
    refine ⟨by simp [h1], fun i x hx => ?_⟩
    cases i with
    | zero => simp at hx; subst hx; exact ⟨y, rfl, hy⟩
    | succ i => exact h2 i x (by simpa using hx)

theorem RCs.app {Z : Nat → Nat} {w : World} {a b : List IV} {x y : List Value} (h1 : RCs Z w a x) (h2 : RCs Z w b y) : RCs Z w (a ++ b) (x ++ y) := by
  refine ⟨by simp [h1.1, h2.1], fun j c u hc hu => ?_⟩
  rcases Nat.lt_or_ge j a.length with h | h
  · rw [List.getElem?_append_left h] at hc
    rw [List.getElem?_append_left (by rw [← h1.1]; exact h)] at hu
    exact h1.2 j c u hc hu
  · rw [List.getElem?_append_right h] at hc
    rw [List.getElem?_append_right (by rw [← h1.1]; exact h), ← h1.1] at hu
    exact h2.2 _ c u hc hu

theorem HasCs.app {a b : List CTy} {x y : List IV} (h1 : HasCs a x) (h2 : HasCs b y) : HasCs (a ++ b) (x ++ y) := by
  refine ⟨by simp [h1.1, h2.1], fun j c u hc hu => ?_⟩
  rcases Nat.lt_or_ge j a.length with h | h
  · rw [List.getElem?_append_left h] at hc
    rw [List.getElem?_append_left (by rw [h1.1]; exact h)] at hu
    exact h1.2 j c u hc hu
  · rw [List.getElem?_append_right h] at hc
    rw [List.getElem?_append_right (by rw [h1.1]; exact h), h1.1] at hu
    exact h2.2 _ c u hc hu

theorem RCs.one {Z : Nat → Nat} {w : World} {a : IV} {x : Value} (h : RI Z w a x) : RCs Z w [a] [x] := ⟨rfl, fun j c u hc hu => by
  cases j with
  | zero => simp at hc hu; subst hc; subst hu; exact h
  | succ j => simp at hc⟩
theorem HasCs.one {t : CTy} {a : IV} (h : HasC t a) : HasCs [t] [a] := ⟨rfl, fun j c u hc hu => by
  cases j with
  | zero => simp at hc hu; subst hc; subst hu; exact h
  | succ j => simp at hc⟩

section
variable {H : Type} {enc : TypeId × Value → H} {P : Program} {w : World}

def Got (w : World) (tys : List CTy) (cs : List Value) : Prop := ∃ row, RCs (zOf w) w row cs ∧ HasCs tys row ∧ ∀ v ∈ cs, v.oneCell' = true

theorem got_fields {fuel : Nat} {f : TypeId → Option (List CTy)} {cs : List Value}
    (ih : ∀ t cs d ps tys, f t = some tys → DataW.trod enc P w 0 (fun _ => true) true fuel t cs = some (d, ps) → (d.weights P t).all (· ≤ reachBytes) = true → Got w tys cs) :
    ∀ (fs : List Field) (off : Nat) (xs : List (DataW H × List MemPlace)) (r : List CTy), fieldsC P f off fs = some r →
      (fs.mapM fun x => DataW.trod enc P w 0 (fun _ => true) true fuel x.type ((cs.drop x.offset).take (P.cellsOf x.type))) = some xs →
      (DataW.weightsEach P (fs.map (·.type)) (xs.map (·.1))).all (· ≤ reachBytes) = true → Got w r ((cs.drop off).take r.length)
  | [], off, xs, r, h1, h2, h3 => by
    simp only [fieldsC, Option.some.injEq] at h1
    subst h1
    exact ⟨[], ⟨by simp, fun j c u hc => by simp at hc⟩, ⟨rfl, fun j c u hc => by simp at hc⟩, fun v hv => by simp at hv⟩
  | x :: fs, off, xs, r, h1, h2, h3 => by
    simp only [fieldsC] at h1
    split at h1
    case isFalse => cases h1
    rename_i hoff
    split at h1
    case h_2 => cases h1
    rename_i a ha
    split at h1
    case isFalse => cases h1
    rename_i hlen
    split at h1
    case h_2 => cases h1
    rename_i b hb
    cases h1
    rw [List.mapM_cons] at h2
    simp only [Option.bind_eq_bind, Option.bind_eq_some_iff, Option.pure_def, Option.some.injEq] at h2
    obtain ⟨y, hy, ys, hys, rfl⟩ := h2
    simp only [List.map_cons, DataW.weightsEach, List.all_append, Bool.and_eq_true] at h3
    obtain ⟨r1, g1, g2, g3⟩ := ih _ _ _ _ _ ha hy h3.1
    obtain ⟨r2, k1, k2, k3⟩ := got_fields ih fs (off + a.length) ys b hb hys h3.2
    rw [← hlen, hoff] at g1 g3
    have hsplit : (cs.drop off).take (a ++ b).length = (cs.drop off).take a.length ++ (cs.drop (off + a.length)).take b.length := by
      rw [List.length_append, List.take_add, List.drop_drop]
    refine ⟨r1 ++ r2, ?_, g2.app k2, ?_⟩
    · rw [hsplit]; exact g1.app k1
    · rw [hsplit]; intro v hv
      rcases List.mem_append.1 hv with hv | hv
      · exact g3 v hv
      · exact k3 v hv

theorem weights_all {e : TypeId} : ∀ {l : List (DataW H)}, (DataW.weightsAll P e l).all (· ≤ reachBytes) = true → ∀ d ∈ l, (d.weights P e).all (· ≤ reachBytes) = true
  | [], _, d, hd => by cases hd
  | x :: l, h, d, hd => by
    simp only [DataW.weightsAll, List.all_append, Bool.and_eq_true] at h
    rcases List.mem_cons.1 hd with rfl | hd
    · exact h.1
    · exact weights_all h.2 d hd

theorem cells_at {a : Addr} {n : Nat} {cs : List Value} (h : w.cells? 0 a n = some cs) : cs.length = n ∧ ∀ j v, cs[j]? = some v → w.cell? (a.add j) = some v := by
  unfold World.cells? at h
  rw [if_pos (Nat.zero_le _)] at h
  obtain ⟨h1, h2⟩ := mapM_at h
  refine ⟨by simpa using h1, fun j v hv => ?_⟩
  have hj : j < n := by
    have := (List.getElem?_eq_some_iff.1 hv).1
    simpa [h1] using this
  obtain ⟨y, hy, e⟩ := h2 j j (by simp [hj])
  rw [hv] at hy; cases hy; exact e

theorem got_slice {a : Addr} {len cap sz by_ : Nat} {r : List CTy} (hr : r.length = sz) (hpos : 0 < sz) (hcap : len ≤ cap) (hb : len * by_ ≤ reachBytes)
    (hel : ∀ i, i < len → ∃ cs, w.cells? 0 (a.add (i * sz)) sz = some cs ∧ Got w r cs) : Got w [.slice by_ r] [.slice (some a) len cap] := by
  have hrow : ∀ i : Nat, ∃ row : List IV, i < len → ∃ cs, w.cells? 0 (a.add (i * sz)) sz = some cs ∧ RCs (zOf w) w row cs ∧ HasCs r row ∧ ∀ v ∈ cs, v.oneCell' = true := fun i => by
    by_cases hi : i < len
    · obtain ⟨cs, h1, row, h2, h3, h4⟩ := hel i hi
      exact ⟨row, fun _ => ⟨cs, h1, h2, h3, h4⟩⟩
    · exact ⟨[], fun h => absurd h hi⟩
  obtain ⟨R, hR⟩ := Classical.axiomOfChoice hrow
  have hget : ∀ (i : Nat) (row : List IV), ((List.range len).map R)[i]? = some row → i < len ∧ row = R i := fun i row h => by
    simp only [List.getElem?_map, Option.map_eq_some_iff] at h
    obtain ⟨k, hk, rfl⟩ := h
    obtain ⟨h1, h2⟩ := List.getElem?_eq_some_iff.1 hk
    simp at h1 h2
    subst h2
    exact ⟨h1, rfl⟩
  have hmem : ∀ row ∈ (List.range len).map R, HasCs r row := fun row h => by
    obtain ⟨i, hi⟩ := List.mem_iff_getElem?.1 h
    obtain ⟨h1, rfl⟩ := hget i row hi
    obtain ⟨cs, _, _, h2, _⟩ := hR i h1
    exact h2
  refine ⟨[.slice ((List.range len).map R)], .one ?_, .one (.slice _ _ _ (by simpa using hb) (fun row h => (hmem row h).1) (fun row h => (hmem row h).2)), fun v hv => by simp at hv; subst hv; rfl⟩
  rcases Nat.eq_zero_or_pos len with h0 | h0
  · subst h0; exact .empty a cap
  · obtain ⟨b, off, spot⟩ := a
    have hs : spot = none := by
      obtain ⟨cs, h1, _⟩ := hR 0 h0
      obtain ⟨h2, h3⟩ := cells_at h1
      have hc := h3 0 _ (List.getElem?_eq_getElem (by omega))
      rw [Nat.zero_mul] at hc
      exact (cell_z (s := spot) (off := off) hc).1
    subst hs
    have hcell : ∀ (i : Nat) (row : List IV) (j : Nat) (c : IV), ((List.range len).map R)[i]? = some row → row[j]? = some c → ∃ v, w.cell? ⟨b, off + i * sz + j, none⟩ = some v ∧ v.oneCell' = true ∧ RI (zOf w) w c v := fun i row j c hi hj => by
      obtain ⟨h1, rfl⟩ := hget i row hi
      obtain ⟨cs, h2, h3, h4, h5⟩ := hR i h1
      obtain ⟨h6, h7⟩ := cells_at h2
      have hjl : j < cs.length := by rw [← h3.1]; exact (List.getElem?_eq_some_iff.1 hj).1
      have hcs := List.getElem?_eq_getElem hjl
      exact ⟨cs[j], by have := h7 j _ hcs; rwa [addr_add, addr_add] at this, h5 _ (List.getElem_mem hjl), h3.2 j c _ hj hcs⟩
    have := RI.slice (Z := zOf w) (w := w) ((List.range len).map R) b off cap sz (fun i j => (w.cell? ⟨b, off + i * sz + j, none⟩).getD undef) (by simpa using hcap)
      (fun i row hi => by obtain ⟨h1, rfl⟩ := hget i row hi; obtain ⟨_, _, _, h2, _⟩ := hR i h1; rw [h2.1, hr])
      (fun i row j c hi hj => by obtain ⟨v, h1, _⟩ := hcell i row j c hi hj; exact (cell_z h1).2)
      (fun i row j c hi hj => by obtain ⟨v, h1, h2, _⟩ := hcell i row j c hi hj; rw [h1]; exact ⟨rfl, h2⟩)
      (fun i row j c hi hj => by obtain ⟨v, h1, h2, h3⟩ := hcell i row j c hi hj; rw [h1]; exact h3)
    simpa using this

theorem trod_got : ∀ (n fuel : Nat) (t : TypeId) (cs : List Value) (d : DataW H) (ps : List MemPlace) (tys : List CTy), ctys P n t = some tys → DataW.trod enc P w 0 (fun _ => true) true fuel t cs = some (d, ps) →
    (d.weights P t).all (· ≤ reachBytes) = true → Got w tys cs
  | 0, _, _, _, _, _, _, h, _, _ => by simp [ctys] at h
  | n + 1, 0, _, _, _, _, _, _, h, _ => by simp [DataW.trod] at h
  | n + 1, fuel + 1, t, cs, d, ps, tys, h, ht, hw => by
    simp only [ctys] at h
    split at h
    · rename_i hu
      cases h
      simp only [DataW.trod, hu] at ht
      split at ht <;> first | (simp_all; done) | skip
      all_goals first
        | (rename_i b _; exact ⟨[.bool b], .one (.bool b), .one (.bool b), fun v hv => by simp at hv; subst hv; rfl⟩)
        | skip
    · rename_i k hu
      cases h
      simp only [DataW.trod, hu] at ht
      split at ht <;> first | (simp_all; done) | skip
      all_goals
        rename_i k1 k' m e1
        cases e1
        split at ht
        case isFalse => cases ht
        rename_i hk
        obtain ⟨rfl, hwf⟩ := hk
        exact ⟨[.int _ m], .one (.int _ m), .one (.int _ m (by simpa [Lit.wf] using hwf)), fun v hv => by simp at hv; subst hv; rfl⟩
    · rename_i hu
      cases h
      simp only [DataW.trod, hu] at ht
      split at ht <;> first | (simp_all; done) | skip
      all_goals
        rename_i s _
        split at ht
        case isFalse => cases ht
        cases ht
        refine ⟨[.str s], .one (.str s), .one (.str s ?_), fun v hv => by simp at hv; subst hv; rfl⟩
        simpa [DataW.weights] using hw
    · rename_i e hu
      split at h
      case h_2 => cases h
      rename_i r hr
      split at h
      case isFalse => cases h
      rename_i hlen
      cases h
      simp only [DataW.trod, hu] at ht
      split at ht <;> first | (simp_all; done) | skip
      · cases ht
        exact ⟨[.slice []], .one .nil, .one (.slice _ _ _ (by simp) (fun row h => by simp at h) (fun row h => by simp at h)), fun v hv => by simp at hv; subst hv; rfl⟩
      · rename_i e' a len cap e1
        cases e1
        split at ht
        case isFalse => cases ht
        rename_i hcond
        simp only [Option.bind_eq_some_iff, Option.map_eq_some_iff] at ht
        obtain ⟨elems, hel, rest, hrest, heq⟩ := ht
        simp only [Prod.mk.injEq] at heq
        obtain ⟨rfl, _⟩ := heq
        simp only [DataW.weights, hu, List.all_cons, List.all_append, Bool.and_eq_true, decide_eq_true_eq] at hw
        obtain ⟨hw1, hw2, hw3⟩ := hw
        obtain ⟨hl, hat⟩ := mapM_at hel
        simp only [List.length_range, List.length_map] at hl hw1
        refine got_slice hlen.1 (by omega) hcond.2.1 (Nat.le_trans (Nat.mul_le_mul_right _ (by omega)) hw1) fun i hi => ?_
        obtain ⟨y, hy1, hy2⟩ := hat i i (by simp [hi])
        simp only [Option.bind_eq_some_iff] at hy2
        obtain ⟨cs', hc1, hc2⟩ := hy2
        exact ⟨cs', hc1, trod_got n fuel e cs' y.1 y.2 r hr hc2 (weights_all hw2 _ (List.mem_map.2 ⟨y, List.mem_of_getElem? hy1, rfl⟩))⟩
    · rename_i fs hu
      split at h
      case h_2 => cases h
      rename_i r0 hr
      split at h
      case isFalse => cases h
      rename_i hlen
      obtain rfl : r0 = tys := Option.some.inj h
      simp only [DataW.trod, hu] at ht
      split at ht
      case isFalse => cases ht
      rename_i hcl
      simp only [Option.map_eq_some_iff] at ht
      obtain ⟨xs, hxs, heq⟩ := ht
      simp only [Prod.mk.injEq] at heq
      obtain ⟨rfl, _⟩ := heq
      simp only [DataW.weights, hu] at hw
      have := got_fields (fun t cs d ps tys h1 h2 h3 => trod_got n fuel t cs d ps tys h1 h2 h3) fs.toList 0 xs r0 hr hxs hw
      rw [hlen, ← hcl, List.drop_zero, List.take_length] at this
      exact this
    · cases h

end
end Go.Proofs.Ytgligibbgobmnaa
namespace Go.Proofs.Ytgligibbgobmnaa
open Go.RowKit Go.ChangeShapes Go.WideShapes
set_option linter.unusedVariables false
set_option linter.unusedSimpArgs false

def argC (P : Program) (t : TypeId) : Option (Bool × List CTy) := match P.underlying t with
  | some (.struct _) => match ctys P 12 t with
    | some r => some (true, r)
    | none => none
  | some (.array _ _) => none
  | _ => match ctys P 12 t with
    | some r => some (false, r)
    | none => none

def HasArg : Bool × List CTy → IV → Prop
  | (true, tys), x => ∃ row, x = .agg row ∧ HasCs tys row
  | (false, tys), x => HasCs tys [x]

def HasArgs : List (Bool × List CTy) → List IV → Prop
  | [], [] => True
  | a :: tas, x :: xs => HasArg a x ∧ HasArgs tas xs
  | _, _ => False

section
variable {H : Type} {enc : TypeId × Value → H} {P : Program} {w : World}

theorem arg_open {base : Nat} {t : TypeId} {v : Value} {d : DataW H} {ps : List MemPlace} {a : Bool × List CTy} (ha : argC P t = some a) (hval : Value.okWide P w .any base t v)
    (h : DataW.Trod enc P w 0 (fun _ => true) true t v d ps) (hw : (d.weights P t).all (· ≤ reachBytes) = true) : ∃ x, RI (zOf w) w x v ∧ HasArg a x := by
  obtain ⟨fuel, hf⟩ := h
  unfold argC at ha
  split at ha
  · rename_i fs hu
    split at ha
    case h_2 => cases ha
    rename_i r hr
    cases ha
    simp only [Value.okWide, hu] at hval
    obtain ⟨cs, rfl, _, _⟩ := hval
    obtain ⟨row, h1, h2, h3⟩ := trod_got 12 fuel t _ d ps r hr hf hw
    refine ⟨.agg row, ?_, row, rfl, h2⟩
    have := RI.agg (Z := zOf w) (w := w) row cs.toList (by simpa [Value.cells] using h1.1) (fun v hv => h3 v (by simpa [Value.cells] using hv)) (fun i c v hc hv => h1.2 i c v hc (by simpa [Value.cells] using hv))
    simpa using this
  · cases ha
  · rename_i hns hna
    split at ha
    case h_2 => cases ha
    rename_i r hr
    cases ha
    have hone : v.oneCell' = true := by
      have hc : Cell.okWide P w .any base t v := by
        unfold Value.okWide at hval
        split at hval
        · rename_i fs hu; exact absurd hu (hns fs)
        · rename_i k e hu; exact absurd hu (hna k e)
        · exact hval
      cases v <;> first | rfl | (exfalso; revert hc; unfold Cell.okWide Cell.ok; cases P.underlying t with
        | none => simp
        | some u => cases u <;> simp)
    have hcs : v.cells.toList = [v] := by cases v <;> first | rfl | simp [Value.oneCell'] at hone
    obtain ⟨row, h1, h2, h3⟩ := trod_got 12 fuel t _ d ps r hr hf hw
    rw [hcs] at h1
    obtain ⟨x, rfl⟩ : ∃ x, row = [x] := List.length_eq_one_iff.1 (by simpa using h1.1)
    exact ⟨x, h1.2 0 x v rfl rfl, h2⟩

theorem args_open {base : Nat} : ∀ {ts : List TypeId} {vs : List Value} {ds : List (DataW H)} {ps : List MemPlace} {tas : List (Bool × List CTy)}, mapO (argC P) ts = some tas →
    (∀ (j : Nat) t v, ts[j]? = some t → vs[j]? = some v → Value.okWide P w .any base t v) → DataW.TrodAll enc P w 0 (fun _ => true) true ts vs ds ps → (DataW.weightsEach P ts ds).all (· ≤ reachBytes) = true →
    ∃ ivs, RCs (zOf w) w ivs vs ∧ HasArgs tas ivs
  | [], vs, ds, ps, tas, ha, hval, h, hw => by
    obtain ⟨rfl, rfl, rfl⟩ := trodAll_nil h
    simp [mapO] at ha; subst ha
    exact ⟨[], ⟨rfl, fun j c u hc => by simp at hc⟩, trivial⟩
  | t :: ts, vs, ds, ps, tas, ha, hval, h, hw => by
    obtain ⟨v, vs1, d, ds1, a, b, rfl, rfl, rfl, h1, h2⟩ := trodAll_cons h
    simp only [mapO] at ha
    split at ha
    case h_2 => cases ha
    rename_i a1 ha1
    split at ha
    case h_2 => cases ha
    rename_i as1 has1
    cases ha
    simp only [DataW.weightsEach, List.all_append, Bool.and_eq_true] at hw
    obtain ⟨x, g1, g2⟩ := arg_open ha1 (hval 0 t v rfl rfl) h1 hw.1
    obtain ⟨xs, g3, g4⟩ := args_open has1 (fun j t v hj hv => hval (j + 1) t v (by simpa using hj) (by simpa using hv)) h2 hw.2
    exact ⟨x :: xs, RCs.app (.one g1) g3, g2, g4⟩

theorem trodAll_len {ts : List TypeId} : ∀ {vs : List Value} {ds : List (DataW H)} {ps : List MemPlace}, DataW.TrodAll enc P w 0 (fun _ => true) true ts vs ds ps → ds.length = ts.length := by
  induction ts with
  | nil => intro vs ds ps h; obtain ⟨rfl, rfl, rfl⟩ := trodAll_nil h; rfl
  | cons t ts ih =>
    intro vs ds ps h
    obtain ⟨v, vs1, d, ds1, a, b, rfl, rfl, rfl, h1, h2⟩ := trodAll_cons h
    simp [ih h2]

theorem below_all {W' : World} (hl : laidOutB P = true) (hb : Below w.heap.size w W') : ∀ {ts : List TypeId} {vs : List Value} {ds : List (DataW H)} {ps : List MemPlace}, (∀ t ∈ ts, P.readableRec t = true ∧ t < P.types.size) →
    DataW.TrodAll enc P w 0 (fun _ => true) true ts vs ds ps → ∀ sp : Nat → Bool, (∀ p ∈ ps, p.block < w.heap.size ∧ sp p.block = true) → DataW.TrodAll enc P W' 0 sp true ts vs ds ps
  | [], vs, ds, ps, hr, h, sp, hlt => by
    obtain ⟨rfl, rfl, rfl⟩ := trodAll_nil h; rfl
  | t :: ts, vs, ds, ps, hr, h, sp, hlt => by
    obtain ⟨v, vs1, d, ds1, a, b, rfl, rfl, rfl, h1, h2⟩ := trodAll_cons h
    have ht := hr t (List.mem_cons_self ..)
    exact ⟨a, b, WideElems.Trod_stays hl ht.1 ht.2 h1 (fun x hx => hb.same (hlt x (List.mem_append_left _ hx)).1) (fun x hx => (hlt x (List.mem_append_left _ hx)).2),
      below_all hl hb (fun t ht => hr t (List.mem_cons_of_mem _ ht)) h2 sp (fun p hp => hlt p (List.mem_append_right _ hp)), rfl⟩
end

theorem post_below {H : Type} {enc : TypeId × Value → H} {P : Program} {f : Func} {s : ChangeSpec} {apart fresh handsOn again : Bool} {W W' : World} {args : Array Value} {v : Value} {ds : List (DataW H)} {before : List MemPlace}
    (hW : DataW.Whole enc P f.params.toList s.vars apart W args.toList ds [] before)
    (hres : ∀ (b : Nat) (sp : Nat → Bool) (hd : Bool), DataW.TrodAll enc P W' b sp hd f.resultTypes.toList (v.resultList f.resultTypes.size) (s.fn H (ds ++ [])).results [])
    (hargs : ∀ sp : Nat → Bool, (∀ p ∈ before, sp p.block = true) → DataW.TrodAll enc P W' 0 sp true f.params.toList args.toList (s.fn H (ds ++ [])).args before)
    (hvars : ∀ sp : Nat → Bool, DataW.TrodVars enc P W' sp s.vars (s.fn H (ds ++ [])).vars [])
    (hk : Below W.heap.size W W')
    (hok : ∀ (j : Nat) (t : TypeId) (r : Value), f.resultTypes[j]? = some t → (v.resultList f.resultTypes.size)[j]? = some r → Value.okWide P W' .any 0 t r) :
    s.post enc P f apart fresh handsOn again W args v W' := by
  have hlt : ∀ p ∈ before, p.block < W.heap.size := fun p hp => hW.lt p hp
  have hold : ∀ p ∈ before, (fun b => decide (b < W.heap.size)) p.block = true := fun p hp => by simpa using hlt p hp
  refine ⟨ds, [], before, [], before, [], hW, hres _ _ _, hargs _ hold, hvars _, hk.frame _, fun _ => ?_⟩
  obtain ⟨_, _, _, _, _, hz, hn⟩ := hW
  refine ⟨hok, _, _, ([] ++ before) ++ [], ⟨[] ++ before, [], trodAll_append (hargs _ (fun _ _ => rfl)) (hres _ _ _), hvars _, rfl, ?_, ?_⟩, ?_⟩
  · intro b off hp
    have hp' : MemPlace.cell b off ∈ before := by simpa using hp
    rw [hk.frozen (p := ⟨b, off, none⟩) (hlt _ hp')]
    exact hz b off hp'
  · intro ha
    simpa using hn ha
  · intro p hp _
    simpa using hp

theorem law_contract {H : Type} {enc : TypeId × Value → H} {Cx : Ctx} {f : FuncId} {fn : Func} {s : ChangeSpec} {tb : TypeId} {tas : List (Bool × List CTy)} {apart fresh handsOn again : Bool} (n : Nat) (hn : Cx.fnum n = f)
    (has : mapO (argC Cx.P) fn.params.toList = some tas) (hres : fn.resultTypes = #[tb]) (htb : Cx.P.underlying tb = some .bool) (hvars : s.vars = [])
    (hsp : ∀ ds : List (DataW H), ds.length = fn.params.toList.length → s.fn H (ds ++ []) = { results := [.lit (.bool true)], args := ds })
    (hlaid : laidOutB Cx.P = true) (hread : (fn.params.toList.all fun t => Cx.P.readableRec t && decide (t < Cx.P.types.size)) = true)
    (hlaw : ∀ ivs, HasArgs tas ivs → APure Cx n ivs (.bool true))
    (W : World) (base : Nat) (args : Array Value) (ds gs : List (DataW H)) (before : List MemPlace)
    (hval : ∀ (j : Nat) t v, fn.params[j]? = some t → args[j]? = some v → Value.okWide Cx.P W .any base t v)
    (hW : DataW.Whole enc Cx.P fn.params.toList s.vars apart W args.toList ds gs before)
    (hwt : (DataW.weightsEach Cx.P (fn.params.toList ++ s.plain.varTypes Cx.P) (ds ++ gs)).all (· ≤ reachBytes) = true) :
    Calls Cx.P f args W fun e W' => ∃ v, e = .returned v ∧ s.post enc Cx.P fn apart fresh handsOn again W args v W' := by
  have hW' := hW
  obtain ⟨p, q, hA, hV, rfl, hfz, hnd⟩ := hW
  rw [hvars] at hV
  obtain ⟨rfl, rfl⟩ := trodVars_none hV
  have hvt : s.plain.varTypes Cx.P = [] := by
    have : s.plain.vars = [] := hvars
    simp [DataSpec.varTypes, this]
  rw [hvt, List.append_nil, List.append_nil] at hwt
  obtain ⟨ivs, h1, h2⟩ := args_open has (fun j t v hj hv => hval j t v (by simpa using hj) (by simpa using hv)) hA hwt
  subst hn
  have hcall := (hlaw ivs h2).2 (zOf W) W args.toList (fun b hb => zOf_lt hb) h1
  simp only [Array.toArray_toList] at hcall
  refine hcall.mono fun e W' ⟨v, Z', he, hr, _, _, hbel⟩ => ?_
  subst he
  cases hr
  have hlt : ∀ x ∈ p ++ [], x.block < W.heap.size := fun x hx => by simpa using hW'.lt x hx
  have hspec := hsp ds (trodAll_len hA)
  simp only [List.append_nil] at hW' hlt
  refine ⟨_, rfl, post_below hW' ?_ ?_ ?_ hbel ?_⟩
  · intro b sp hd
    rw [hspec, hres]
    exact trodAll_cons_mk (shut_bool htb _) trodAll_mk0
  · intro sp hsp'
    rw [hspec]
    exact below_all hlaid hbel (fun t ht => by have := List.all_eq_true.1 hread t ht; simpa using this) hA sp (fun x hx => ⟨hlt x hx, hsp' x hx⟩)
  · intro sp
    rw [hspec, hvars]; rfl
  · exact ok_one hres rfl (okWide_bool_mk htb _)

end Go.Proofs.Ytgligibbgobmnaa
namespace Go.Proofs.Ytgligibbgobmnaa
open Go.RowKit
set_option linter.unusedVariables false

def InK (k : IntKind) (n : Int) : Prop := k.min ≤ n ∧ n ≤ k.max
def LOk {α : Type} (by_ : Nat) (Ok : α → Prop) (l : List α) : Prop := l.length * by_ ≤ reachBytes ∧ ∀ x ∈ l, Ok x

theorem hcs_cons {t : CTy} {ts : List CTy} {row : List IV} (h : HasCs (t :: ts) row) : ∃ c r, row = c :: r ∧ HasC t c ∧ HasCs ts r := by
  obtain ⟨hl, hc⟩ := h
  cases row with
  | nil => simp at hl
  | cons c r => exact ⟨c, r, rfl, hc 0 t c rfl rfl, by simpa using hl, fun i u d hu hd => hc (i + 1) u d (by simpa using hu) (by simpa using hd)⟩
theorem hcs_nil {row : List IV} (h : HasCs [] row) : row = [] := List.eq_nil_of_length_eq_zero h.1
theorem hasC_int {k : IntKind} {x : IV} (h : HasC (.int k) x) : ∃ n, x = .int k n ∧ InK k n := by cases h; exact ⟨_, rfl, by assumption⟩
theorem hasC_bool {x : IV} (h : HasC .bool x) : ∃ b, x = .bool b := by cases h; exact ⟨_, rfl⟩
theorem hasC_str {x : IV} (h : HasC .str x) : ∃ s, x = .str s ∧ s.size ≤ reachBytes := by cases h; exact ⟨_, rfl, by assumption⟩

theorem rows_open {α : Type} {f : α → List IV} {Ok : α → Prop} {tys : List CTy} (ho : ∀ {row : List IV}, HasCs tys row → ∃ x, row = f x ∧ Ok x) :
    ∀ rows : List (List IV), (∀ row ∈ rows, HasCs tys row) → ∃ l : List α, rows = l.map f ∧ ∀ x ∈ l, Ok x
  | [], _ => ⟨[], rfl, fun x hx => by cases hx⟩
  | row :: rows, h => by
    obtain ⟨x, rfl, hx⟩ := ho (h row (List.mem_cons_self ..))
    obtain ⟨l, rfl, hl⟩ := rows_open ho rows fun r hr => h r (List.mem_cons_of_mem _ hr)
    exact ⟨x :: l, rfl, fun y hy => by
      rcases List.mem_cons.1 hy with rfl | hy
      · exact hx
      · exact hl y hy⟩

theorem hasC_slice {α : Type} {f : α → List IV} {Ok : α → Prop} {tys : List CTy} {by_ : Nat} {x : IV} (ho : ∀ {row : List IV}, HasCs tys row → ∃ x, row = f x ∧ Ok x) (h : HasC (.slice by_ tys) x) :
    ∃ l : List α, x = .slice (l.map f) ∧ LOk by_ Ok l := by
  cases h with
  | slice _ _ rows hl hr hc =>
    obtain ⟨l, rfl, hk⟩ := rows_open ho rows fun row h => ⟨hr row h, hc row h⟩
    exact ⟨l, rfl, by simpa using hl, hk⟩

theorem open_i64 {row : List IV} (h : HasCs [.int .i64] row) : ∃ x : Int, row = rowI x ∧ InK .i64 x := by
  obtain ⟨c, _, rfl, h0, h⟩ := hcs_cons h
  obtain rfl := hcs_nil h
  obtain ⟨n, rfl, k⟩ := hasC_int h0
  exact ⟨n, rfl, k⟩
end Go.Proofs.Ytgligibbgobmnaa
namespace Go.Proofs.Ytgligibbgobmnaa
open Go.RowKit
set_option linter.unusedVariables false

def Ratio.tys : List CTy := [.int .i64, .int .i64]
structure Ratio.Ok (x : Ratio) : Prop where
  num : InK .i64 x.num
  den : InK .i64 x.den
theorem Ratio.opn {row : List IV} (h : HasCs Ratio.tys row) : ∃ x : Ratio, row = Ratio.row x ∧ Ratio.Ok x := by
  obtain ⟨c0, _, rfl, h0, h⟩ := hcs_cons h
  obtain ⟨c1, _, rfl, h1, h⟩ := hcs_cons h
  obtain rfl := hcs_nil h
  obtain ⟨v0, rfl, k0⟩ := hasC_int h0
  obtain ⟨v1, rfl, k1⟩ := hasC_int h1
  exact ⟨⟨v0, v1⟩, rfl, ⟨k0, k1⟩⟩

def UnitT.tys : List CTy := [.str, .int .i64, .int .i64, .int .i64, .int .i64]
structure UnitT.Ok (x : UnitT) : Prop where
  name : x.name.size ≤ reachBytes
  kind : InK .i64 x.kind
  base : InK .i64 x.base
  factor : Ratio.Ok x.factor
theorem UnitT.opn {row : List IV} (h : HasCs UnitT.tys row) : ∃ x : UnitT, row = UnitT.row x ∧ UnitT.Ok x := by
  obtain ⟨c0, _, rfl, h0, h⟩ := hcs_cons h
  obtain ⟨c1, _, rfl, h1, h⟩ := hcs_cons h
  obtain ⟨c2, _, rfl, h2, h⟩ := hcs_cons h
  obtain ⟨c3, _, rfl, h3, h⟩ := hcs_cons h
  obtain ⟨c4, _, rfl, h4, h⟩ := hcs_cons h
  obtain rfl := hcs_nil h
  obtain ⟨v0, rfl, k0⟩ := hasC_str h0
  obtain ⟨v1, rfl, k1⟩ := hasC_int h1
  obtain ⟨v2, rfl, k2⟩ := hasC_int h2
  obtain ⟨v3, rfl, k3⟩ := hasC_int h3
  obtain ⟨v4, rfl, k4⟩ := hasC_int h4
  exact ⟨⟨v0, v1, v2, ⟨v3, v4⟩⟩, rfl, ⟨k0, k1, k2, ⟨k3, k4⟩⟩⟩

def ActT.tys : List CTy := [.int .i64, .int .i64, .int .i64, .int .i64, .int .i64, .int .i64, .int .i64]
structure ActT.Ok (x : ActT) : Prop where
  kind : InK .i64 x.kind
  role : InK .i64 x.role
  give : InK .i64 x.give
  to : InK .i64 x.to
  unit : InK .i64 x.unit
  lot : Ratio.Ok x.lot
theorem ActT.opn {row : List IV} (h : HasCs ActT.tys row) : ∃ x : ActT, row = ActT.row x ∧ ActT.Ok x := by
  obtain ⟨c0, _, rfl, h0, h⟩ := hcs_cons h
  obtain ⟨c1, _, rfl, h1, h⟩ := hcs_cons h
  obtain ⟨c2, _, rfl, h2, h⟩ := hcs_cons h
  obtain ⟨c3, _, rfl, h3, h⟩ := hcs_cons h
  obtain ⟨c4, _, rfl, h4, h⟩ := hcs_cons h
  obtain ⟨c5, _, rfl, h5, h⟩ := hcs_cons h
  obtain ⟨c6, _, rfl, h6, h⟩ := hcs_cons h
  obtain rfl := hcs_nil h
  obtain ⟨v0, rfl, k0⟩ := hasC_int h0
  obtain ⟨v1, rfl, k1⟩ := hasC_int h1
  obtain ⟨v2, rfl, k2⟩ := hasC_int h2
  obtain ⟨v3, rfl, k3⟩ := hasC_int h3
  obtain ⟨v4, rfl, k4⟩ := hasC_int h4
  obtain ⟨v5, rfl, k5⟩ := hasC_int h5
  obtain ⟨v6, rfl, k6⟩ := hasC_int h6
  exact ⟨⟨v0, v1, v2, v3, v4, ⟨v5, v6⟩⟩, rfl, ⟨k0, k1, k2, k3, k4, ⟨k5, k6⟩⟩⟩

def CondT.tys : List CTy := [.int .i64, .int .i64]
structure CondT.Ok (x : CondT) : Prop where
  clause : InK .i64 x.clause
  is : InK .i64 x.is
theorem CondT.opn {row : List IV} (h : HasCs CondT.tys row) : ∃ x : CondT, row = CondT.row x ∧ CondT.Ok x := by
  obtain ⟨c0, _, rfl, h0, h⟩ := hcs_cons h
  obtain ⟨c1, _, rfl, h1, h⟩ := hcs_cons h
  obtain rfl := hcs_nil h
  obtain ⟨v0, rfl, k0⟩ := hasC_int h0
  obtain ⟨v1, rfl, k1⟩ := hasC_int h1
  exact ⟨⟨v0, v1⟩, rfl, ⟨k0, k1⟩⟩

def ClauseT.tys : List CTy := [.int .i64, .int .i64, .int .i64, .int .i64, .slice 16 CondT.tys, .int .i64, .int .i64, .bool, .bool, .int .i64, .int .i64, .int .i64, .int .i64, .int .i64, .int .i64, .bool]
structure ClauseT.Ok (x : ClauseT) : Prop where
  kind : InK .i64 x.kind
  role : InK .i64 x.role
  act : InK .i64 x.act
  need : InK .i64 x.need
  start : LOk 16 CondT.Ok x.start
  after : InK .i64 x.after
  grace : InK .i64 x.grace
  pause : InK .i64 x.pause
  resume : InK .i64 x.resume
  value : Ratio.Ok x.value
  unit : InK .i64 x.unit
  to : InK .i64 x.to
theorem ClauseT.opn {row : List IV} (h : HasCs ClauseT.tys row) : ∃ x : ClauseT, row = ClauseT.row x ∧ ClauseT.Ok x := by
  obtain ⟨c0, _, rfl, h0, h⟩ := hcs_cons h
  obtain ⟨c1, _, rfl, h1, h⟩ := hcs_cons h
  obtain ⟨c2, _, rfl, h2, h⟩ := hcs_cons h
  obtain ⟨c3, _, rfl, h3, h⟩ := hcs_cons h
  obtain ⟨c4, _, rfl, h4, h⟩ := hcs_cons h
  obtain ⟨c5, _, rfl, h5, h⟩ := hcs_cons h
  obtain ⟨c6, _, rfl, h6, h⟩ := hcs_cons h
  obtain ⟨c7, _, rfl, h7, h⟩ := hcs_cons h
  obtain ⟨c8, _, rfl, h8, h⟩ := hcs_cons h
  obtain ⟨c9, _, rfl, h9, h⟩ := hcs_cons h
  obtain ⟨c10, _, rfl, h10, h⟩ := hcs_cons h
  obtain ⟨c11, _, rfl, h11, h⟩ := hcs_cons h
  obtain ⟨c12, _, rfl, h12, h⟩ := hcs_cons h
  obtain ⟨c13, _, rfl, h13, h⟩ := hcs_cons h
  obtain ⟨c14, _, rfl, h14, h⟩ := hcs_cons h
  obtain ⟨c15, _, rfl, h15, h⟩ := hcs_cons h
  obtain rfl := hcs_nil h
  obtain ⟨v0, rfl, k0⟩ := hasC_int h0
  obtain ⟨v1, rfl, k1⟩ := hasC_int h1
  obtain ⟨v2, rfl, k2⟩ := hasC_int h2
  obtain ⟨v3, rfl, k3⟩ := hasC_int h3
  obtain ⟨v4, rfl, k4⟩ := hasC_slice @CondT.opn h4
  obtain ⟨v5, rfl, k5⟩ := hasC_int h5
  obtain ⟨v6, rfl, k6⟩ := hasC_int h6
  obtain ⟨v7, rfl⟩ := hasC_bool h7
  obtain ⟨v8, rfl⟩ := hasC_bool h8
  obtain ⟨v9, rfl, k9⟩ := hasC_int h9
  obtain ⟨v10, rfl, k10⟩ := hasC_int h10
  obtain ⟨v11, rfl, k11⟩ := hasC_int h11
  obtain ⟨v12, rfl, k12⟩ := hasC_int h12
  obtain ⟨v13, rfl, k13⟩ := hasC_int h13
  obtain ⟨v14, rfl, k14⟩ := hasC_int h14
  obtain ⟨v15, rfl⟩ := hasC_bool h15
  exact ⟨⟨v0, v1, v2, v3, v4, v5, v6, v7, v8, v9, v10, ⟨v11, v12⟩, v13, v14, v15⟩, rfl, ⟨k0, k1, k2, k3, k4, k5, k6, k9, k10, ⟨k11, k12⟩, k13, k14⟩⟩

def ContractT.tys : List CTy := [.int .i64, .slice 8 [.int .i64], .slice 48 UnitT.tys, .slice 56 ActT.tys, .slice 136 ClauseT.tys, .int .i64, .slice 8 [.int .i64]]
structure ContractT.Ok (x : ContractT) : Prop where
  parties : InK .i64 x.parties
  holders : LOk 8 (fun x : Int => InK .i64 x) x.holders
  units : LOk 48 UnitT.Ok x.units
  acts : LOk 56 ActT.Ok x.acts
  clauses : LOk 136 ClauseT.Ok x.clauses
  days : InK .i64 x.days
  off : LOk 8 (fun x : Int => InK .i64 x) x.off
theorem ContractT.opn {row : List IV} (h : HasCs ContractT.tys row) : ∃ x : ContractT, row = ContractT.row x ∧ ContractT.Ok x := by
  obtain ⟨c0, _, rfl, h0, h⟩ := hcs_cons h
  obtain ⟨c1, _, rfl, h1, h⟩ := hcs_cons h
  obtain ⟨c2, _, rfl, h2, h⟩ := hcs_cons h
  obtain ⟨c3, _, rfl, h3, h⟩ := hcs_cons h
  obtain ⟨c4, _, rfl, h4, h⟩ := hcs_cons h
  obtain ⟨c5, _, rfl, h5, h⟩ := hcs_cons h
  obtain ⟨c6, _, rfl, h6, h⟩ := hcs_cons h
  obtain rfl := hcs_nil h
  obtain ⟨v0, rfl, k0⟩ := hasC_int h0
  obtain ⟨v1, rfl, k1⟩ := hasC_slice open_i64 h1
  obtain ⟨v2, rfl, k2⟩ := hasC_slice @UnitT.opn h2
  obtain ⟨v3, rfl, k3⟩ := hasC_slice @ActT.opn h3
  obtain ⟨v4, rfl, k4⟩ := hasC_slice @ClauseT.opn h4
  obtain ⟨v5, rfl, k5⟩ := hasC_int h5
  obtain ⟨v6, rfl, k6⟩ := hasC_slice open_i64 h6
  exact ⟨⟨v0, v1, v2, v3, v4, v5, v6⟩, rfl, ⟨k0, k1, k2, k3, k4, k5, k6⟩⟩

end Go.Proofs.Ytgligibbgobmnaa
namespace Go.Proofs.Ytgligibbgobmnaa
set_option maxRecDepth 100000

noncomputable def C0 : Ctx := ⟨Try.prog, [3, 4, 5, 6, 7, 8, 9, 10, 11, 12, 13, 14, 15, 16, 17, 18, 19, 20, 21, 22, 23, 24, 25, 26, 27, 28, 29, 30, 31, 32, 33, 34, 35, 36, 37, 38, 39, 40, 41, 42, 43, 44, 45, 46, 47, 48, 49, 50, 51, 52, 53, 54, 55, 56, 57, 58, 59, 60, 61, 62]⟩

theorem hasA40 : compFun C0 40 = some af40.erase := by kernel_rfl
theorem hasA59 : compFun C0 59 = some af59.erase := by kernel_rfl
theorem hasA58 : compFun C0 58 = some af58.erase := by kernel_rfl
theorem hasA55 : compFun C0 55 = some af55.erase := by kernel_rfl
theorem hasA57 : compFun C0 57 = some af57.erase := by kernel_rfl
theorem hasA54 : compFun C0 54 = some af54.erase := by kernel_rfl
theorem hasA41 : compFun C0 41 = some af41.erase := by kernel_rfl
theorem hasA47 : compFun C0 47 = some af47.erase := by kernel_rfl
theorem hasA45 : compFun C0 45 = some af45.erase := by kernel_rfl
theorem hasA46 : compFun C0 46 = some af46.erase := by kernel_rfl
theorem hasA42 : compFun C0 42 = some af42.erase := by kernel_rfl
theorem hasA19 : compFun C0 19 = some af19.erase := by kernel_rfl
theorem hasA44 : compFun C0 44 = some af44.erase := by kernel_rfl
theorem hasA43 : compFun C0 43 = some af43.erase := by kernel_rfl
theorem hasA20 : compFun C0 20 = some af20.erase := by kernel_rfl
theorem hasA8 : compFun C0 8 = some af8.erase := by kernel_rfl
theorem hasA7 : compFun C0 7 = some af7.erase := by kernel_rfl
theorem hasA18 : compFun C0 18 = some af18.erase := by kernel_rfl
theorem hasA25 : compFun C0 25 = some af25.erase := by kernel_rfl
theorem hasA50 : compFun C0 50 = some af50.erase := by kernel_rfl
theorem hasA28 : compFun C0 28 = some af28.erase := by kernel_rfl
theorem hasA56 : compFun C0 56 = some af56.erase := by kernel_rfl
theorem hasA52 : compFun C0 52 = some af52.erase := by kernel_rfl
theorem hasA53 : compFun C0 53 = some af53.erase := by kernel_rfl
theorem hasA38 : compFun C0 38 = some af38.erase := by kernel_rfl
theorem hasA24 : compFun C0 24 = some af24.erase := by kernel_rfl
theorem hasA48 : compFun C0 48 = some af48.erase := by kernel_rfl
theorem hasA23 : compFun C0 23 = some af23.erase := by kernel_rfl
theorem hasA22 : compFun C0 22 = some af22.erase := by kernel_rfl
theorem hasA27 : compFun C0 27 = some af27.erase := by kernel_rfl
theorem hasA49 : compFun C0 49 = some af49.erase := by kernel_rfl
theorem hasA26 : compFun C0 26 = some af26.erase := by kernel_rfl
theorem hasA12 : compFun C0 12 = some af12.erase := by kernel_rfl
theorem hasA34 : compFun C0 34 = some af34.erase := by kernel_rfl
theorem hasA35 : compFun C0 35 = some af35.erase := by kernel_rfl
theorem hasA36 : compFun C0 36 = some af36.erase := by kernel_rfl
theorem hasA37 : compFun C0 37 = some af37.erase := by kernel_rfl
theorem hasA15 : compFun C0 15 = some af15.erase := by kernel_rfl
theorem hasA32 : compFun C0 32 = some af32.erase := by kernel_rfl
theorem hasA51 : compFun C0 51 = some af51.erase := by kernel_rfl
theorem hasA31 : compFun C0 31 = some af31.erase := by kernel_rfl
theorem hasA29 : compFun C0 29 = some af29.erase := by kernel_rfl
theorem hasA30 : compFun C0 30 = some af30.erase := by kernel_rfl
theorem hasA33 : compFun C0 33 = some af33.erase := by kernel_rfl
theorem hasA13 : compFun C0 13 = some af13.erase := by kernel_rfl
theorem hasA21 : compFun C0 21 = some af21.erase := by kernel_rfl
theorem hasA9 : compFun C0 9 = some af9.erase := by kernel_rfl
theorem hasA17 : compFun C0 17 = some af17.erase := by kernel_rfl
theorem hasA6 : compFun C0 6 = some af6.erase := by kernel_rfl
theorem hasA0 : compFun C0 0 = some af0.erase := by kernel_rfl
theorem hasA : HasA C0 := ⟨hasA40, hasA59, hasA58, hasA55, hasA57, hasA54, hasA41, hasA47, hasA45, hasA46, hasA42, hasA19, hasA44, hasA43, hasA20, hasA8, hasA7, hasA18, hasA25, hasA50, hasA28, hasA56, hasA52, hasA53, hasA38, hasA24, hasA48, hasA23, hasA22, hasA27, hasA49, hasA26, hasA12, hasA34, hasA35, hasA36, hasA37, hasA15, hasA32, hasA51, hasA31, hasA29, hasA30, hasA33, hasA13, hasA21, hasA9, hasA17, hasA6, hasA0⟩

end Go.Proofs.Ytgligibbgobmnaa
namespace Go.Proofs.Ytgligibbgobmnaa
set_option linter.unusedVariables false
set_option linter.unusedSimpArgs false

def OutP {σ ρ : Type} (A : σ → Prop) (Q : ρ → Prop) : σ ⊕ ρ → Prop
  | .inl s => A s
  | .inr r => Q r

theorem forFrom_rule {σ ρ : Type} {f : Nat → σ → Option (σ ⊕ ρ)} {Inv : Nat → σ → Prop} {Q : ρ → Prop} (n : Nat)
    (step : ∀ (i : Nat) (s : σ), i < n → Inv i s → ∃ o, f i s = some o ∧ OutP (Inv (i + 1)) Q o) :
    ∀ (k i : Nat) (s : σ), i + k = n → Inv i s → ∃ o, forFrom f i k s = some o ∧ OutP (Inv n) Q o
  | 0, i, s, h, hi => ⟨.inl s, rfl, by obtain rfl : i = n := by omega
                                       exact hi⟩
  | k + 1, i, s, h, hi => by
    obtain ⟨o, h1, h2⟩ := step i s (by omega) hi
    simp only [forFrom, h1]
    cases o with
    | inl s' => exact forFrom_rule n step k (i + 1) s' (by omega) h2
    | inr r => exact ⟨.inr r, rfl, h2⟩

theorem forR_rule {σ ρ : Type} {f : Nat → σ → Option (σ ⊕ ρ)} {n : Int} {s0 : σ} (Inv : Nat → σ → Prop) (Q : ρ → Prop) (hn : n < 4611686018427387904)
    (h0 : Inv 0 s0) (step : ∀ (i : Nat) (s : σ), (i : Int) < n → Inv i s → ∃ o, f i s = some o ∧ OutP (Inv (i + 1)) Q o) :
    ∃ o, forR n f s0 = some o ∧ OutP (Inv n.toNat) Q o := by
  rw [forR_pos hn]
  exact forFrom_rule n.toNat (fun i s hi => step i s (by omega)) n.toNat 0 s0 (by omega) h0

theorem forR_ruleL {σ ρ : Type} {f : Nat → σ → Option (σ ⊕ ρ)} {n : Nat} {s0 : σ} (Inv : Nat → σ → Prop) (Q : ρ → Prop) (hn : n < 4611686018427387904)
    (h0 : Inv 0 s0) (step : ∀ (i : Nat) (s : σ), i < n → Inv i s → ∃ o, f i s = some o ∧ OutP (Inv (i + 1)) Q o) :
    ∃ o, forR (n : Int) f s0 = some o ∧ OutP (Inv n) Q o := by
  have := forR_rule (n := (n : Int)) Inv Q (by omega) h0 (fun i s hi => step i s (by omega))
  simpa using this

theorem iter_rule {σ ρ : Type} {f : σ → Option (σ ⊕ ρ)} (Inv : σ → Prop) (Q : ρ → Prop) (m : σ → Nat)
    (step : ∀ s, Inv s → ∃ o, f s = some o ∧ OutP (fun s' => Inv s' ∧ m s' < m s) Q o) : ∀ s0, Inv s0 → ∃ r, iter f s0 = some r ∧ Q r := by
  have key : ∀ (k : Nat) (s : σ), m s < k → Inv s → ∃ r, iter f s = some r ∧ Q r := by
    intro k
    induction k with
    | zero => intro s h; omega
    | succ k ih =>
      intro s hk hs
      obtain ⟨o, h1, h2⟩ := step s hs
      rw [iter_eq, h1]
      cases o with
      | inl s' => exact ih s' (by have := h2.2; omega) h2.1
      | inr r => exact ⟨r, rfl, h2⟩
  exact fun s0 h => key _ s0 (Nat.lt_succ_self _) h

theorem forFrom_first {ρ : Type} {f : Nat → Unit → Option (Unit ⊕ ρ)} {p : Nat → Bool} {g : Nat → ρ} : ∀ (k i : Nat), (∀ j, i ≤ j → j < i + k → f j () = some (bif p j then .inl () else .inr (g j))) →
    forFrom f i k () = some (match (List.range' i k).find? (fun j => !p j) with | none => .inl () | some j => .inr (g j))
  | 0, i, h => rfl
  | k + 1, i, h => by
    simp only [forFrom, h i (Nat.le_refl _) (by omega), List.range'_succ, List.find?_cons]
    cases hp : p i with
    | true =>
      simp only [cond_true, Bool.not_true]
      exact forFrom_first k (i + 1) fun j h1 h2 => h j (by omega) (by omega)
    | false => simp

theorem forR_first {ρ : Type} {f : Nat → Unit → Option (Unit ⊕ ρ)} {n : Nat} (p : Nat → Bool) (g : Nat → ρ) (hn : n < 4611686018427387904) (h : ∀ j, j < n → f j () = some (bif p j then .inl () else .inr (g j))) :
    forR (n : Int) f () = some (match (List.range n).find? (fun j => !p j) with | none => .inl () | some j => .inr (g j)) := by
  rw [forR_pos (by omega)]
  have := forFrom_first (f := f) (p := p) (g := g) n 0 (fun j _ h2 => h j (by omega))
  simpa [List.range_eq_range'] using this

theorem find_none {n : Nat} {p : Nat → Bool} (h : (List.range n).find? (fun j => !p j) = none) : ∀ j, j < n → p j = true := fun j hj => by
  have := List.find?_eq_none.1 h j (List.mem_range.2 hj)
  simpa using this
theorem find_range' {q : Nat → Bool} : ∀ (k a i : Nat), (List.range' a k).find? q = some i → i < a + k ∧ a ≤ i ∧ q i = true ∧ ∀ j, a ≤ j → j < i → q j = false
  | 0, a, i, h => by simp at h
  | k + 1, a, i, h => by
    rw [List.range'_succ, List.find?_cons] at h
    split at h
    · rename_i hq
      cases h
      exact ⟨by omega, Nat.le_refl _, hq, fun j h1 h2 => by omega⟩
    · rename_i hq
      obtain ⟨h1, h2, h3, h4⟩ := find_range' k (a + 1) i h
      exact ⟨by omega, by omega, h3, fun j h5 h6 => by
        rcases Nat.eq_or_lt_of_le h5 with h7 | h7
        · subst h7; exact hq
        · exact h4 j (by omega) h6⟩
theorem find_some {n i : Nat} {p : Nat → Bool} (h : (List.range n).find? (fun j => !p j) = some i) : i < n ∧ p i = false ∧ ∀ j, j < i → p j = true := by
  rw [List.range_eq_range'] at h
  obtain ⟨h1, _, h2, h3⟩ := find_range' n 0 i h
  exact ⟨by omega, by simpa using h2, fun j hj => by simpa using h3 j (Nat.zero_le _) hj⟩
theorem cond_some {α : Type} (b : Bool) (x y : α) : (bif b then some x else some y) = some (bif b then x else y) := by cases b <;> rfl
theorem idxI_at {α : Type} {l : List α} {i : Nat} {e : α} (h : l[i]? = some e) : idxI l (i : Int) = some e := by
  unfold idxI; rw [if_pos (by omega)]; simpa using h
theorem idxI_nat' {α : Type} (l : List α) (i : Nat) : idxI l (i : Int) = l[i]? := by
  unfold idxI; rw [if_pos (by omega)]; simp
theorem idxI_lt {α : Type} {l : List α} {n : Int} (h0 : 0 ≤ n) (h1 : n < l.length) : ∃ h : n.toNat < l.length, idxI l n = some l[n.toNat] := by
  have h : n.toNat < l.length := by omega
  exact ⟨h, by unfold idxI; rw [if_pos h0]; exact List.getElem?_eq_getElem h⟩
theorem idxI_neg {α : Type} {l : List α} {n : Int} (h : ¬ (0 ≤ n ∧ n < l.length)) : idxI l n = none := by
  unfold idxI
  split
  · exact List.getElem?_eq_none (by omega)
  · rfl
theorem idxN_nat {len i : Nat} (h : i < len) : idxN len (i : Int) = some i := by unfold idxN; rw [if_pos ⟨by omega, by omega⟩]; simp
end Go.Proofs.Ytgligibbgobmnaa
namespace Go.Proofs.Ytgligibbgobmnaa
set_option linter.unusedVariables false
set_option linter.unusedSimpArgs false
set_option maxRecDepth 100000

theorem gcd_total (a b : Int) : ∃ r, iter (σ := Int × Int) (ρ := Int) (fun s2 => (bif (s2.2 == 0) then some (.inr s2.1) else (Option.bind (remI .u64 s2.1 s2.2) fun e2 => some (.inl (s2.2, e2))))) (a, b) = some r := by
  have := iter_rule (f := fun s2 : Int × Int => (bif (s2.2 == 0) then some (.inr s2.1) else (Option.bind (remI .u64 s2.1 s2.2) fun e2 => some (.inl (s2.2, e2))))) (fun _ => True) (fun _ : Int => True) (fun s => s.2.natAbs) (fun s _ => by
    by_cases h : s.2 = 0
    · exact ⟨.inr s.1, by simp [h], trivial⟩
    · refine ⟨.inl (s.2, s.1.tmod s.2), by simp [beq_eq_false_iff_ne.2 h, h, remI], trivial, ?_⟩
      show (s.1.tmod s.2).natAbs < s.2.natAbs
      rw [Int.natAbs_tmod]
      exact Nat.mod_lt _ (by omega)) (a, b) trivial
  obtain ⟨r, h, _⟩ := this
  exact ⟨r, h⟩

theorem divisor_total (l : List Int) (hl : l.length < 1000) : ∃ r, d_divisor l = some r := by
  unfold d_divisor
  obtain ⟨o, h1, h2⟩ := forR_ruleL (n := l.length) (s0 := (0 : Int)) (f := (fun i1 s1 => (Option.bind (Option.bind (idxI l (i1 : Int)) fun e1 => (Option.bind (iter (σ := Int × Int) (ρ := Int) (fun s2 => (bif (s2.2 == 0) then some (.inr s2.1) else (Option.bind (remI .u64 s2.1 s2.2) fun e2 => some (.inl (s2.2, e2))))) (s1, e1)) (fun (y1 : Int) => some y1))) fun (v1 : Int) => some (.inl v1)))) (fun _ _ => True) (fun _ : Unit => False) (by omega) trivial (fun i s hi _ => by
    obtain ⟨r, hr⟩ := gcd_total s l[i]
    exact ⟨.inl r, by simp only [idxI_nat', List.getElem?_eq_getElem hi, Option.bind_some, hr], trivial⟩)
  rw [h1]
  cases o with
  | inl s => exact ⟨s, rfl⟩
  | inr r => exact h2.elim

theorem magnitude_total (n : Int) : ∃ r, d_magnitude n = some r := by
  unfold d_magnitude; simp only [cond_some]; exact ⟨_, rfl⟩

noncomputable def rvB (r : Ratio) : Bool := (d_ratioValid r).getD false
theorem s_ratioValid (r : Ratio) : d_ratioValid r = some (rvB r) := by
  have : ∃ b, d_ratioValid r = some b := by
    unfold d_ratioValid
    obtain ⟨a, ha⟩ := magnitude_total r.num
    obtain ⟨b, hb⟩ := magnitude_total r.den
    obtain ⟨g, hg⟩ := divisor_total [a, b] (by simp)
    simp only [ha, hb, hg, cond_some, Option.bind_some]
    exact ⟨_, rfl⟩
  obtain ⟨b, hb⟩ := this
  unfold rvB; rw [hb]; rfl

def snd0 (x : Option (Int × Bool)) : Bool := (x.getD (0, false)).2
theorem snd0_of {x : Option (Int × Bool)} {r : Int × Bool} (h : x = some r) : x = some (r.1, snd0 x) := by subst h; rfl
noncomputable def quB (l : List UnitT) : Bool := snd0 (d_quantityValid l)
theorem unitValid_total (t : List UnitT) (i : Nat) (hi : i < t.length) (ht : t.length < 1000) : ∃ b, d_unitValid t i = some b := by
  unfold d_unitValid
  have hs : slcI t 0 (i : Int) = some (t.take i) := by
    unfold slcI; rw [if_pos ⟨by omega, by omega, by omega⟩]; simp
  have hf : forR (σ := Unit) (ρ := Unit) ((t.take i).length : Int) (fun i1 s1 => (Option.bind (idxI (t.take i) (i1 : Int)) fun e3 => (bif (e3.name.toList == t[i].name.toList) then some (.inr ()) else some (.inl ())))) () = some (match (List.range (t.take i).length).find? (fun j => !(match (t.take i)[j]? with | some e => !(e.name.toList == t[i].name.toList) | none => true)) with | none => .inl () | some j => .inr ()) := by
    refine forR_first _ (fun _ => ()) (by simp; omega) (fun j hj => ?_)
    simp only [idxI_nat', List.getElem?_eq_getElem hj, Option.bind_some]
    cases ((t.take i)[j].name.toList == t[i].name.toList) <;> rfl
  rw [idxI_at (List.getElem?_eq_getElem hi)]
  simp only [Option.bind_some]
  rw [hs]
  simp only [Option.bind_some]
  rw [hf]
  simp only [s_ratioValid, cond_some, Option.bind_some, d_isIndex]
  split
  all_goals simp only [Sum.elim_inl, Sum.elim_inr, cond_some]
  · by_cases hb : 0 ≤ t[i].base ∧ t[i].base < t.length
    · obtain ⟨h1, h2⟩ := idxI_lt hb.1 hb.2
      simp only [h2, Option.bind_some, cond_some]
      exact ⟨_, rfl⟩
    · by_cases h1 : 0 ≤ t[i].base
      · have : ¬ t[i].base < t.length := fun h => hb ⟨h1, h⟩
        simp only [h1, this, decide_true, decide_false, cond_true, cond_false, Option.bind_some, cond_some]
        exact ⟨_, rfl⟩
      · simp only [h1, decide_false, cond_false, Option.bind_some, cond_some]
        exact ⟨_, rfl⟩
  · exact ⟨_, rfl⟩

theorem s_quantityValid (l : List UnitT) (hl : l.length < 1000) : ∃ k, d_quantityValid l = some (k, quB l) := by
  have : ∃ r, d_quantityValid l = some r := by
    unfold d_quantityValid
    obtain ⟨o, h1, h2⟩ := forR_ruleL (n := l.length) (s0 := ()) (f := (fun i1 s1 => (Option.bind (d_unitValid l (i1 : Int)) fun r1 => (bif r1 then some (.inl ()) else some (.inr (i1 : Int)))))) (fun _ _ => True) (fun _ : Int => True) (by omega) trivial (fun i s hi _ => by
      obtain ⟨b, hb⟩ := unitValid_total l i hi hl
      cases b with
      | true => exact ⟨.inl (), by simp [hb], trivial⟩
      | false => exact ⟨.inr i, by simp [hb], trivial⟩)
    rw [h1]
    cases o with
    | inl s => exact ⟨_, rfl⟩
    | inr r => exact ⟨_, rfl⟩
  obtain ⟨r, hr⟩ := this
  exact ⟨r.1, snd0_of hr⟩

def movB (nh : Nat) (r : Int) : Bool := decide (0 ≤ r) && decide (r < nh)
theorem s_movable (c : ContractT) (r : Int) : d_movable c r = some (movB c.holders.length r) := by
  simp only [d_movable, cond_some, Option.bind_some, movB, Bool.cond_false_right]
noncomputable def posB (r : Ratio) : Bool := decide (0 < r.num) && rvB r
theorem s_positive (r : Ratio) : d_positive r = some (posB r) := by
  simp only [d_positive, s_ratioValid, cond_some, Option.bind_some, posB, Bool.cond_false_right]
def noneB (r : Ratio) : Bool := r.num == 0 && (r.den == 1 && true)
noncomputable def actB (nh nu : Nat) (parties : Int) (a : ActT) : Bool :=
  bif movB nh a.role then
    (bif a.kind == 1 then (a.give == 0 && (a.to == -1 || movB nh a.to)) && (bif a.unit == -1 then noneB a.lot else (decide (0 ≤ a.unit) && (decide (a.unit < nu) && posB a.lot)))
    else (a.kind == 2 || a.kind == 3) && (movB nh a.give && (decide (0 ≤ a.to) && (decide (a.to < parties) && (a.unit == -1 && noneB a.lot)))))
  else a.kind == 1 && (a.role == -1 && (a.give == 0 && ((a.to == -1 || movB nh a.to) && (a.unit == -1 && noneB a.lot))))
theorem s_validAct (c : ContractT) (a : ActT) : d_validAct c a = some (actB c.holders.length c.units.length c.parties a) := by
  simp only [d_validAct, s_movable, s_positive, d_none, Option.bind_some, cond_some, actB, noneB]
  cases movB c.holders.length a.role <;> cases (a.kind == 1) <;> cases (a.give == 0) <;> cases (a.to == -1) <;> cases (movB c.holders.length a.to) <;> cases (a.unit == -1) <;>
    simp only [cond_true, cond_false, Bool.not_true, Bool.not_false, Option.bind_some, Bool.true_or, Bool.false_or, Bool.true_and, Bool.false_and, cond_some, Bool.cond_false_right, Bool.cond_self, Bool.and_false] <;>
    first | rfl | (cases (a.role == -1) <;> rfl) | (cases (a.kind == 2) <;> rfl)

def heldB (parties : Int) (hs : List Int) : Bool := hs.all fun h => decide (0 ≤ h) && decide (h < parties)
theorem s_held (c : ContractT) (hp : c.parties < 4611686018427387904) (hl : c.holders.length < 4611686018427387904) : d_held c = some (heldB c.parties c.holders) := by
  unfold d_held
  have hin : ∀ (i : Nat) (hi : i < c.holders.length), (Option.bind (α := Unit ⊕ Unit) (Option.bind (forR (σ := Unit) (ρ := Unit) c.parties (fun i2 s2 => (Option.bind (idxI c.holders (i : Int)) fun e1 => (bif (e1 == (i2 : Int)) then some (.inr ()) else some (.inl ())))) ()) (Sum.elim (fun (s2 : Unit) => some (.inr ())) (fun (y1 : Unit) => some (.inl ())))) (Sum.elim (fun (v1 : Unit) => some (.inl ())) (fun (y2 : Unit) => some (.inr ())))) =
      some (bif decide (0 ≤ c.holders[i]) && decide (c.holders[i] < c.parties) then (.inl () : Unit ⊕ Unit) else .inr ()) := fun i hi => by
    obtain ⟨o, h1, h2⟩ := forR_rule (n := c.parties) (s0 := ()) (f := (fun i2 s2 => (Option.bind (idxI c.holders (i : Int)) fun e1 => (bif (e1 == (i2 : Int)) then some (.inr ()) else some (.inl ()))))) (fun k _ => ∀ j : Nat, j < k → c.holders[i] ≠ (j : Int)) (fun _ : Unit => 0 ≤ c.holders[i] ∧ c.holders[i] < c.parties) hp (fun j hj => by omega) (fun k s hk hI => by
      simp only [idxI_nat', List.getElem?_eq_getElem hi, Option.bind_some]
      by_cases he : c.holders[i] = (k : Int)
      · exact ⟨.inr (), by simp [he], by show 0 ≤ c.holders[i] ∧ c.holders[i] < c.parties; omega⟩
      · refine ⟨.inl (), by rw [beq_eq_false_iff_ne.2 he]; rfl, fun j hj => ?_⟩
        rcases Nat.lt_or_ge j k with h | h
        · exact hI j h
        · obtain rfl : j = k := by omega
          exact he)
    rw [h1]
    cases o with
    | inl s =>
      have : ¬ (0 ≤ c.holders[i] ∧ c.holders[i] < c.parties) := fun h => h2 c.holders[i].toNat (by omega) (by omega)
      have hb : (decide (0 ≤ c.holders[i]) && decide (c.holders[i] < c.parties)) = false := by
        rw [Bool.eq_false_iff]; simp only [ne_eq, Bool.and_eq_true, decide_eq_true_eq]; exact this
      rw [hb]; rfl
    | inr r =>
      have hb : (decide (0 ≤ c.holders[i]) && decide (c.holders[i] < c.parties)) = true := by
        simp only [Bool.and_eq_true, decide_eq_true_eq]; exact h2
      rw [hb]; rfl
  rw [forR_first (fun i => match c.holders[i]? with | some h => decide (0 ≤ h) && decide (h < c.parties) | none => true) (fun _ => ()) hl (fun i hi => by
    rw [hin i hi]; simp only [List.getElem?_eq_getElem hi])]
  cases hf : (List.range c.holders.length).find? (fun j => !(match c.holders[j]? with | some h => decide (0 ≤ h) && decide (h < c.parties) | none => true)) with
  | none =>
    simp only [Option.bind_some, Sum.elim_inl]
    have : heldB c.parties c.holders = true := List.all_eq_true.2 fun h hh => by
      obtain ⟨i, hi, rfl⟩ := List.getElem_of_mem hh
      have := find_none hf i hi
      simpa only [List.getElem?_eq_getElem hi] using this
    rw [this]
  | some k =>
    simp only [Option.bind_some, Sum.elim_inr]
    obtain ⟨h1, h2, _⟩ := find_some hf
    have : heldB c.parties c.holders = false := by
      rw [Bool.eq_false_iff]
      intro h
      have := List.all_eq_true.1 h c.holders[k] (List.getElem_mem h1)
      simp only [List.getElem?_eq_getElem h1] at h2
      rw [h2] at this; cases this
    rw [this]

noncomputable def offB (days : Int) (off : List Int) : Bool := ((Option.bind (forR (σ := Int) (ρ := Unit) (off.length : Int) (fun i2 s2 => (Option.bind (idxI off (i2 : Int)) fun e2 => (Option.bind (bif decide (e2 ≤ s2) then some true else some (decide (days ≤ e2))) fun v2 => (bif v2 then some (.inr ()) else some (.inl e2))))) (-1)) (Sum.elim (fun (s2 : Int) => some true) (fun (y2 : Unit) => some false)))).getD false
theorem s_off (days : Int) (off : List Int) (hl : off.length < 4611686018427387904) : (Option.bind (forR (σ := Int) (ρ := Unit) (off.length : Int) (fun i2 s2 => (Option.bind (idxI off (i2 : Int)) fun e2 => (Option.bind (bif decide (e2 ≤ s2) then some true else some (decide (days ≤ e2))) fun v2 => (bif v2 then some (.inr ()) else some (.inl e2))))) (-1)) (Sum.elim (fun (s2 : Int) => some true) (fun (y2 : Unit) => some false))) = some (offB days off) := by
  obtain ⟨o, h1, h2⟩ := forR_ruleL (n := off.length) (s0 := (-1 : Int)) (f := (fun i2 s2 => (Option.bind (idxI off (i2 : Int)) fun e2 => (Option.bind (bif decide (e2 ≤ s2) then some true else some (decide (days ≤ e2))) fun v2 => (bif v2 then some (.inr ()) else some (.inl e2)))))) (fun _ _ => True) (fun _ : Unit => True) hl trivial (fun i s hi _ => by
    simp only [idxI_nat', List.getElem?_eq_getElem hi, Option.bind_some, cond_some]
    cases (bif decide (off[i] ≤ s) then true else decide (days ≤ off[i])) with
    | true => exact ⟨.inr (), rfl, trivial⟩
    | false => exact ⟨.inl _, rfl, trivial⟩)
  unfold offB
  rw [h1]
  cases o <;> rfl

noncomputable def framedB (c : ContractT) : Bool :=
  !(decide (c.parties < 1)) && (!(decide (c.days < 1)) && (!((c.holders.length : Int) == 0) && (heldB c.parties c.holders && (quB c.units && (c.acts.all (actB c.holders.length c.units.length c.parties) && offB c.days c.off)))))

theorem forR_all {α : Type} {l : List α} {f : Nat → Unit → Option (Unit ⊕ Unit)} (p : α → Bool) (hl : l.length < 4611686018427387904) (h : ∀ (i : Nat) (hi : i < l.length), f i () = some (bif p l[i] then .inl () else .inr ())) :
    forR (l.length : Int) f () = some (bif l.all p then .inl () else .inr ()) := by
  rw [forR_first (fun i => match l[i]? with | some x => p x | none => true) (fun _ => ()) hl (fun i hi => by rw [h i hi]; simp only [List.getElem?_eq_getElem hi])]
  cases hf : (List.range l.length).find? (fun j => !(match l[j]? with | some x => p x | none => true)) with
  | none =>
    have : l.all p = true := List.all_eq_true.2 fun x hx => by
      obtain ⟨i, hi, rfl⟩ := List.getElem_of_mem hx
      have := find_none hf i hi
      simpa only [List.getElem?_eq_getElem hi] using this
    rw [this]; rfl
  | some k =>
    obtain ⟨h1, h2, _⟩ := find_some hf
    have : l.all p = false := by
      rw [Bool.eq_false_iff]
      intro h
      have := List.all_eq_true.1 h l[k] (List.getElem_mem h1)
      simp only [List.getElem?_eq_getElem h1] at h2
      rw [h2] at this; cases this
    rw [this]; rfl

theorem s_framed (c : ContractT) (hp : c.parties < 4611686018427387904) (hh : c.holders.length < 4611686018427387904) (hu : c.units.length < 1000) (ha : c.acts.length < 1000) (ho : c.off.length < 4611686018427387904) : d_framed c = some (framedB c) := by
  unfold d_framed
  obtain ⟨k, hk⟩ := s_quantityValid c.units hu
  have hacts := forR_all (l := c.acts) (f := (fun i1 s1 => (Option.bind (idxI c.acts (i1 : Int)) fun e1 => (Option.bind (d_validAct c e1) fun r3 => (bif r3 then some (.inl ()) else some (.inr ())))))) (actB c.holders.length c.units.length c.parties) (by omega) (fun i hi => by
    simp only [idxI_nat', List.getElem?_eq_getElem hi, Option.bind_some, s_validAct, cond_some])
  rw [s_held c hp hh, hk]
  simp only [Option.bind_some]
  rw [hacts]
  simp only [Option.bind_some]
  rw [s_off c.days c.off ho]
  simp only [Option.bind_some, cond_some, framedB]
  cases decide (c.parties < 1) <;> cases decide (c.days < 1) <;> cases ((c.holders.length : Int) == 0) <;> cases heldB c.parties c.holders <;> cases quB c.units <;> cases c.acts.all (actB c.holders.length c.units.length c.parties) <;>
    simp only [cond_true, cond_false, Bool.not_true, Bool.not_false, Option.bind_some, Bool.true_and, Bool.false_and, Sum.elim_inl, Sum.elim_inr]

def natB (acts : List ActT) (a : Int) : Bool := match idxI acts a with
  | some e => e.kind == 1 && e.role == -1
  | none => false
theorem s_natural (c : ContractT) (a : Int) : d_natural c a = some (natB c.acts a) := by
  unfold d_natural natB
  by_cases h : 0 ≤ a ∧ a < c.acts.length
  · obtain ⟨h1, h2⟩ := idxI_lt h.1 h.2
    simp only [h2, h.1, h.2, decide_true, cond_true, Option.bind_some, cond_some, Bool.cond_false_right]
  · rw [idxI_neg h]
    by_cases h1 : 0 ≤ a
    · have : ¬ a < c.acts.length := fun h2 => h ⟨h1, h2⟩
      simp only [h1, this, decide_true, decide_false, cond_true, cond_false, Option.bind_some]
    · simp only [h1, decide_false, cond_false, Option.bind_some]

def kindB (nh : Nat) (acts : List ActT) (k : ClauseT) : Bool :=
  bif k.kind == 4 then k.role == -1 && (k.need == 1 && (k.grace == 0 && !k.final))
  else (movB nh k.role && !natB acts k.act) && (bif k.kind == 1 then decide (1 ≤ k.need) && (decide (k.need ≤ 9) && (decide (0 ≤ k.grace) && decide (k.grace ≤ 400)))
    else bif k.kind == 2 then k.need == 1 && k.grace == 0 else k.kind == 3 && (k.need == 1 && (k.grace == 0 && !k.final)))
theorem s_validKind (c : ContractT) (k : ClauseT) : d_validKind c k = some (kindB c.holders.length c.acts k) := by
  simp only [d_validKind, s_movable, s_natural, Option.bind_some, cond_some, kindB]
  cases (k.kind == 4) <;> cases movB c.holders.length k.role <;> cases natB c.acts k.act <;> cases (k.kind == 1) <;> cases (k.kind == 2) <;> cases (k.kind == 3) <;>
    simp only [cond_true, cond_false, Bool.not_true, Bool.not_false, Option.bind_some, Bool.true_and, Bool.false_and, Bool.and_false, Bool.cond_false_right, cond_some]

def condB (n : Nat) (i : Int) (s : CondT) : Bool := !(decide (s.clause < 0)) && (!(decide ((n : Int) ≤ s.clause)) && (!(s.clause == i) && (!(decide (s.is < 1)) && !(decide (4 < s.is)))))
noncomputable def moneyB (nh : Nat) (units : List UnitT) (k : ClauseT) : Bool :=
  (k.kind == 1 || k.kind == 2) && ((match idxI units k.unit with | some u => u.kind == 2 | none => false) && (posB k.value && movB nh k.to))
def pauseB (acts : List ActT) (k : ClauseT) : Bool := (k.pause == -1 && k.resume == -1) || (!(k.pause == k.resume) && (natB acts k.pause && natB acts k.resume))
noncomputable def clauseB (nh : Nat) (units : List UnitT) (acts : List ActT) (n : Nat) (i : Int) (k : ClauseT) : Bool :=
  (!(decide (k.act < 0)) && (!(decide ((acts.length : Int) ≤ k.act)) && (!(decide (k.after < 1)) && !(decide (400 < k.after))))) &&
  ((kindB nh acts k && !(decide (8 < (k.start.length : Int)))) &&
  (k.start.all (condB n i) &&
  (pauseB acts k &&
  (bif k.unit == -1 then noneB k.value && k.to == -1 else moneyB nh units k))))
theorem s_validClause (c : ContractT) (i : Nat) (k : ClauseT) (hk : c.clauses[i]? = some k) (hs : k.start.length < 4611686018427387904) : d_validClause c i = some (clauseB c.holders.length c.units c.acts c.clauses.length i k) := by
  unfold d_validClause
  have hst := forR_all (l := k.start) (f := (fun i1 s1 => (Option.bind (idxI k.start (i1 : Int)) fun e2 => (Option.bind (bif decide (e2.clause < 0) then some true else (bif decide ((c.clauses.length : Int) ≤ e2.clause) then some true else (bif (e2.clause == (i : Int)) then some true else (bif decide (e2.is < 1) then some true else some (decide (4 < e2.is)))))) fun v3 => (bif v3 then some (.inr ()) else some (.inl ())))))) (condB c.clauses.length i) hs (fun j hj => by
    simp only [idxI_nat', List.getElem?_eq_getElem hj, Option.bind_some, cond_some, condB]
    cases decide (k.start[j].clause < 0) <;> cases decide ((c.clauses.length : Int) ≤ k.start[j].clause) <;> cases (k.start[j].clause == (i : Int)) <;> cases decide (k.start[j].is < 1) <;> cases decide (4 < k.start[j].is) <;> rfl)
  have hu : (bif decide (0 ≤ k.unit) then (bif decide (k.unit < (c.units.length : Int)) then (Option.bind (idxI c.units k.unit) fun e3 => (bif (e3.kind == 2) then (Option.bind (d_positive k.value) fun r5 => (bif r5 then (Option.bind (d_movable c k.to) fun r6 => some r6) else some false)) else some false)) else some false) else some false) =
      some ((match idxI c.units k.unit with | some u => u.kind == 2 | none => false) && (posB k.value && movB c.holders.length k.to)) := by
    by_cases h : 0 ≤ k.unit ∧ k.unit < c.units.length
    · obtain ⟨h1, h2⟩ := idxI_lt h.1 h.2
      simp only [h2, h.1, h.2, decide_true, cond_true, Option.bind_some, cond_some, Bool.cond_false_right, s_positive, s_movable]
    · rw [idxI_neg h]
      by_cases h1 : 0 ≤ k.unit
      · have : ¬ k.unit < c.units.length := fun h2 => h ⟨h1, h2⟩
        simp only [h1, this, decide_true, decide_false, cond_true, cond_false, Bool.false_and]
      · simp only [h1, decide_false, cond_false, Bool.false_and]
  have hp : (Option.bind (bif (k.pause == (-1)) then some (!(k.resume == (-1))) else some true) fun v4 => (bif v4 then (Option.bind (bif (k.pause == k.resume) then some true else (Option.bind (d_natural c k.pause) fun r2 => (bif r2 then (Option.bind (d_natural c k.resume) fun r3 => some (!r3)) else some true))) fun v5 => (bif v5 then some (.inr ()) else some (.inl ()))) else some (.inl ()))) =
      some (bif pauseB c.acts k then (.inl () : Unit ⊕ Unit) else .inr ()) := by
    simp only [s_natural, pauseB, cond_some, Option.bind_some]
    cases (k.pause == -1) <;> cases (k.resume == -1) <;> cases (k.pause == k.resume) <;> cases natB c.acts k.pause <;> cases natB c.acts k.resume <;> rfl
  rw [idxI_at hk]
  simp only [Option.bind_some]
  rw [hst]
  simp only [Option.bind_some]
  rw [hp, hu]
  simp only [Option.bind_some, s_validKind, d_none, cond_some, clauseB, moneyB, noneB]
  cases decide (k.act < 0) <;> simp only [cond_true, cond_false, Bool.not_true, Bool.not_false, Bool.true_and, Bool.false_and, Option.bind_some]
  cases decide ((c.acts.length : Int) ≤ k.act) <;> simp only [cond_true, cond_false, Bool.not_true, Bool.not_false, Bool.true_and, Bool.false_and, Option.bind_some]
  cases decide (k.after < 1) <;> simp only [cond_true, cond_false, Bool.not_true, Bool.not_false, Bool.true_and, Bool.false_and, Option.bind_some]
  cases decide (400 < k.after) <;> simp only [cond_true, cond_false, Bool.not_true, Bool.not_false, Bool.true_and, Bool.false_and, Option.bind_some]
  cases kindB c.holders.length c.acts k <;> simp only [cond_true, cond_false, Bool.not_true, Bool.not_false, Bool.true_and, Bool.false_and, Option.bind_some]
  cases decide (8 < (k.start.length : Int)) <;> simp only [cond_true, cond_false, Bool.not_true, Bool.not_false, Bool.true_and, Bool.false_and, Option.bind_some]
  cases k.start.all (condB c.clauses.length i) <;> simp only [cond_true, cond_false, Bool.not_true, Bool.not_false, Bool.true_and, Bool.false_and, Option.bind_some, Sum.elim_inl, Sum.elim_inr]
  cases pauseB c.acts k <;> simp only [cond_true, cond_false, Bool.true_and, Bool.false_and, Sum.elim_inl, Sum.elim_inr]
  cases (k.kind == 1) <;> cases (k.kind == 2) <;> simp only [cond_true, cond_false, Bool.cond_false_right, Bool.true_or, Bool.or_true, Bool.or_self, Bool.true_and, Bool.false_and]

def limB (c : ContractT) : Bool := decide (12 < c.parties) || (decide (2000 < c.days) || (decide (12 < (c.holders.length : Int)) || (decide (20 < (c.units.length : Int)) || (decide (60 < (c.acts.length : Int)) || decide (400 < (c.clauses.length : Int))))))
noncomputable def clB (c : ContractT) (i : Nat) : Bool := match c.clauses[i]? with
  | some k => clauseB c.holders.length c.units c.acts c.clauses.length i k
  | none => true
noncomputable def validR (c : ContractT) : Int × Int :=
  bif limB c then (3, -1) else bif framedB c then (match (List.range c.clauses.length).find? (fun j => !clB c j) with | none => (0, -1) | some j => (1, (j : Int))) else (1, -1)

theorem s_Valid (c : ContractT) (ho : c.off.length < 4611686018427387904) (hs : ∀ k ∈ c.clauses, k.start.length < 4611686018427387904) : d_Valid c = some (validR c) := by
  unfold d_Valid validR
  simp only [cond_some, Bool.cond_true_left, Option.bind_some]
  show (bif limB c then _ else _) = _
  cases hlim : limB c with
  | true => rfl
  | false =>
    simp only [limB, Bool.or_eq_false_iff, decide_eq_false_iff_not] at hlim
    obtain ⟨h1, h2, h3, h4, h5, h6⟩ := hlim
    simp only [cond_false, s_framed c (by omega) (by omega) (by omega) (by omega) ho, Option.bind_some]
    cases framedB c with
    | false => rfl
    | true =>
      simp only [cond_true]
      rw [forR_first (fun i => clB c i) (fun i => (i : Int)) (by omega) (fun i hi => by
        rw [s_validClause c i c.clauses[i] (List.getElem?_eq_getElem hi) (hs _ (List.getElem_mem hi))]
        simp only [Option.bind_some, clB, List.getElem?_eq_getElem hi, cond_some])]
      cases (List.range c.clauses.length).find? (fun j => !clB c j) <;> rfl

end Go.Proofs.Ytgligibbgobmnaa
namespace Go.Proofs.Ytgligibbgobmnaa
set_option linter.unusedVariables false
set_option linter.unusedSimpArgs false
set_option maxRecDepth 100000

def Le {α : Type} (x y : Option α) : Prop := ∀ r, x = some r → y = some r
theorem Le.refl {α : Type} (x : Option α) : Le x x := fun _ h => h
theorem Le.bind {α β : Type} {x y : Option α} {f g : α → Option β} (h : Le x y) (hf : ∀ a, Le (f a) (g a)) : Le (x.bind f) (y.bind g) := fun r hr => by
  obtain ⟨a, h1, h2⟩ := Option.bind_eq_some_iff.1 hr
  rw [h a h1]; exact hf a r h2
theorem Le.cond {α : Type} (b : Bool) {x y x' y' : Option α} (h1 : Le x x') (h2 : Le y y') : Le (bif b then x else y) (bif b then x' else y') := by
  cases b
  · exact h2
  · exact h1
theorem Le.elim {α β γ : Type} {f f' : α → Option γ} {g g' : β → Option γ} (h1 : ∀ a, Le (f a) (f' a)) (h2 : ∀ a, Le (g a) (g' a)) (o : α ⊕ β) : Le (Sum.elim f g o) (Sum.elim f' g' o) := by
  cases o
  · exact h1 _
  · exact h2 _
theorem Le.forFrom {σ ρ : Type} {f g : Nat → σ → Option (σ ⊕ ρ)} (h : ∀ i s, Le (f i s) (g i s)) : ∀ (k i : Nat) (s : σ), Le (forFrom f i k s) (forFrom g i k s)
  | 0, i, s => Le.refl _
  | k + 1, i, s => fun r hr => by
    simp only [Go.Proofs.Ytgligibbgobmnaa.forFrom] at hr ⊢
    split at hr
    · cases hr
    · rename_i e; rw [h i s _ e]; exact hr
    · rename_i e; rw [h i s _ e]; exact Le.forFrom h k (i + 1) _ r hr
theorem Le.forR {σ ρ : Type} {f g : Nat → σ → Option (σ ⊕ ρ)} (h : ∀ i s, Le (f i s) (g i s)) (n : Int) (s : σ) : Le (forR n f s) (forR n g s) := fun r hr => by
  obtain ⟨h1, h2⟩ := forR_some hr
  rw [forR_pos h1]; exact Le.forFrom h _ _ _ r h2
theorem Le.iter {σ ρ : Type} {f : σ → Option (σ ⊕ ρ)} (k : Nat) (s : σ) : Le (iterN f k s) (iter f s) := fun r hr => iter_some.2 ⟨k, hr⟩

theorem rec29_mono {f g : Int → List Int → Option (Int × List Int)} (h : ∀ a b, Le (f a b) (g a b)) (p : Int) (q : List Int) : Le (d_29a_s f p q) (d_29a_s g p q) := by
  unfold d_29a_s
  refine Le.bind (Le.bind (Le.refl _) fun k => Le.bind (Le.refl _) fun e => Le.cond _ (Le.refl _) (Le.bind (Le.refl _) fun k => Le.bind (Le.refl _) fun e => Le.bind (h _ _) fun r => Le.refl _)) fun v => Le.refl _
theorem rec29_succ : ∀ (k : Nat) (p : Int) (q : List Int), Le (d_29a_n k p q) (d_29a_n (k + 1) p q)
  | 0, p, q => fun r h => by cases h
  | k + 1, p, q => rec29_mono (rec29_succ k) p q
theorem rec29_le {k k' : Nat} (h : k ≤ k') (p : Int) (q : List Int) : Le (d_29a_n k p q) (d_29a_n k' p q) := by
  induction h with
  | refl => exact Le.refl _
  | step _ ih => exact fun r hr => rec29_succ _ p q r (ih r hr)
theorem le_29a (k : Nat) (p : Int) (q : List Int) : Le (d_29a_n k p q) (d_29a p q) := fun r h => lim_of k fun k' hk => rec29_le hk p q r h

noncomputable def e_30a (p1 : Int) (p2 : Int) (p3 : List Int) : Option ((List Int)) :=
  (Option.bind (d_29a_n 12 p1 p3) fun r1 => (Option.bind (d_29a_n 12 p2 r1.2) fun r2 => (Option.bind (d_29a_n 12 p1 r2.2) fun r3 => (Option.bind (d_29a_n 12 p2 r3.2) fun r4 => (Option.bind (idxN 400 (if r3.1 < r4.1 then r4.1 else r3.1)) fun k1 => (Option.bind (r4.2[k1]?) fun e1 => some (r4.2.set k1 (if r2.1 < r1.1 then r2.1 else r1.1))))))))
theorem le_30a (p1 : Int) (p2 : Int) (p3 : List Int) : Le (e_30a p1 p2 p3) (d_30a p1 p2 p3) := by
  unfold e_30a d_30a
  repeat' (first | with_reducible exact Le.refl _ | with_reducible exact le_29a _ _ _ | with_reducible refine Le.bind ?_ (fun _ => ?_) | with_reducible refine Le.cond _ ?_ ?_ | with_reducible refine Le.forR (fun _ _ => ?_) _ _ | with_reducible refine Le.elim (fun _ => ?_) (fun _ => ?_) _)

noncomputable def e_gather_step (i : Nat) (s : List (List Int) × List (Int × Int) × List Int) : Option ((List (List Int) × List (Int × Int) × List Int) ⊕ Unit) :=
  Option.bind (d_29a_n 12 (i : Int) s.2.2) fun r =>
    bif r.1 == (i : Int) then some (.inl (s.1 ++ [[(i : Int)]], mset (i : Int) (s.1.length : Int) s.2.1, r.2))
    else Option.bind (idxI s.1 ((mget r.1 s.2.1).getD 0)) fun l => some (.inl (s.1.set ((mget r.1 s.2.1).getD 0).toNat (l ++ [(i : Int)]), s.2.1, r.2))
noncomputable def e_gather (n : Int) (above : List Int) : Option (List (List Int) × List Int) :=
  bif decide (n ≤ 1000000000000) then Option.bind (forR (σ := List (List Int) × List (Int × Int) × List Int) (ρ := Unit) n e_gather_step ([], [], above)) (Sum.elim (fun s => some (s.1, s.2.2)) (fun _ => none)) else none
theorem le_gather_step (i : Nat) (s : List (List Int) × List (Int × Int) × List Int) : Le (e_gather_step i s) (d_gather_step i s) := Le.bind (le_29a _ _ _) fun r => Le.refl _
theorem le_gather (n : Int) (above : List Int) : Le (e_gather n above) (d_gather n above) := Le.cond _ (Le.bind (Le.forR le_gather_step _ _) fun o => Le.refl _) (Le.refl _)

noncomputable def e_13a (p1 : Int) (p2 : List Int) (p3 : List ActT) (p4 : List ClauseT) (p5 : Int) : Option ((List (List Int))) :=
  (Option.bind (d_Valid ({ parties := p1, holders := p2, units := [], acts := p3, clauses := p4, days := p5, off := [] } : ContractT)) fun r1 => (bif (r1.1 == 0) then (Option.bind (forR (σ := (List Int)) (ρ := Unit) (p4.length : Int) (fun i1 s1 => (Option.bind (idxN 400 (i1 : Int)) fun k1 => (Option.bind (s1[k1]?) fun e1 => some (.inl (s1.set k1 (i1 : Int)))))) (List.replicate 400 0)) (Sum.elim (fun (s1 : (List Int)) => (Option.bind (d_31a p3) fun r2 => (Option.bind (forR (σ := (List Int) × (List (Int × Int))) (ρ := Unit) (p4.length : Int) (fun i2 s2 => (Option.bind (idxN p4.length (i2 : Int)) fun k2 => (Option.bind (p4[k2]?) fun e2 => (Option.bind (bif r2 then (Option.bind (e_30a 0 (i2 : Int) s2.1) fun r3 => some r3) else some s2.1) fun (v1 : (List Int)) => (Option.bind (forR (σ := (List Int)) (ρ := Unit) (e2.start.length : Int) (fun i3 s3 => (Option.bind (idxI e2.start (i3 : Int)) fun e3 => (Option.bind (e_30a (i2 : Int) e3.clause s3) fun r4 => some (.inl r4)))) v1) (Sum.elim (fun (s3 : (List Int)) => (Option.bind (d_numbers e2) fun r5 => (Option.bind (forR (σ := (List Int) × (List (Int × Int))) (ρ := Unit) (r5.length : Int) (fun i4 s4 => (Option.bind (Option.bind (idxI r5 (i4 : Int)) fun e4 => (bif (mget e4 s4.2).isSome then (Option.bind (e_30a ((mget e4 s4.2).getD 0) (i2 : Int) s4.1) fun r6 => some (r6, s4.2)) else some (s4.1, (mset e4 (i2 : Int) s4.2)))) fun (v2 : (List Int) × (List (Int × Int))) => some (.inl (v2.1, v2.2)))) (s3, s2.2)) (Sum.elim (fun (s4 : (List Int) × (List (Int × Int))) => some (.inl (s4.1, s4.2))) (fun _ => none))))) (fun _ => none))))))) (s1, [])) (Sum.elim (fun (s2 : (List Int) × (List (Int × Int))) => (Option.bind (e_gather (p4.length : Int) s2.1) fun r7 => some r7.1)) (fun _ => none))))) (fun _ => none))) else some []))
theorem le_13a (p1 : Int) (p2 : List Int) (p3 : List ActT) (p4 : List ClauseT) (p5 : Int) : Le (e_13a p1 p2 p3 p4 p5) (d_13a p1 p2 p3 p4 p5) := by
  unfold e_13a d_13a
  repeat' (first | with_reducible exact le_gather _ _ | with_reducible exact Le.refl _ | with_reducible exact le_29a _ _ _ | with_reducible exact le_30a _ _ _ | with_reducible refine Le.bind ?_ (fun _ => ?_) | with_reducible refine Le.cond _ ?_ ?_ | with_reducible refine Le.forR (fun _ _ => ?_) _ _ | with_reducible refine Le.elim (fun _ => ?_) (fun _ => ?_) _)

noncomputable def e_BinarySearch (l : List Int) (v : Int) : Option (Int × Bool) :=
  (Option.bind (Option.bind (iterN (σ := Int × Int) (ρ := Int) (fun s1 => (bif decide (s1.1 < s1.2) then (Option.bind (shrI .u64 .u64 (IntKind.u64.wrap (IntKind.i64.wrap (s1.1 + s1.2))) 1) fun e1 => (Option.bind (idxI l (IntKind.i64.wrap e1)) fun e2 => (Option.bind (d_less e2 v) fun r1 => (bif r1 then some (.inl ((IntKind.i64.wrap ((IntKind.i64.wrap e1) + 1)), s1.2)) else some (.inl (s1.1, (IntKind.i64.wrap e1))))))) else some (.inr s1.1))) 12 (0, (l.length : Int))) (fun (y1 : Int) => some y1)) fun (v1 : Int) => (Option.bind (bif decide (v1 < (l.length : Int)) then (Option.bind (idxI l v1) fun e3 => (bif (e3 == v) then some true else (Option.bind (d_isNaN e3) fun r2 => (bif r2 then (Option.bind (d_isNaN v) fun r3 => some r3) else some false)))) else some false) fun v2 => some (v1, v2)))
theorem le_BinarySearch (l : List Int) (v : Int) : Le (e_BinarySearch l v) (d_BinarySearch l v) := by
  unfold e_BinarySearch d_BinarySearch
  repeat' (first | with_reducible exact Le.refl _ | with_reducible exact Le.refl _ | with_reducible exact Le.iter _ _ | with_reducible refine Le.bind ?_ (fun _ => ?_) | with_reducible refine Le.cond _ ?_ ?_ | with_reducible refine Le.forR (fun _ _ => ?_) _ _ | with_reducible refine Le.elim (fun _ => ?_) (fun _ => ?_) _)

noncomputable def e_15b (p1 : Int) (p2 : List Int) (p3 : List ActT) (p4 : List ClauseT) (p5 : Int) (p6 : List Int) : Option (Int × (List Int) × (List ActT) × (List ClauseT) × Int × Int) :=
  (Option.bind (d_Valid ({ parties := p1, holders := p2, units := [], acts := p3, clauses := p4, days := p5, off := [] } : ContractT)) fun r1 => (bif (r1.1 == 0) then (Option.bind (forR (σ := Int) (ρ := Unit) (p6.length : Int) (fun i1 s1 => (Option.bind (idxN p6.length (i1 : Int)) fun k1 => (Option.bind (p6[k1]?) fun e1 => (Option.bind (bif decide (e1 ≤ s1) then some true else some (decide ((p4.length : Int) ≤ e1))) fun v1 => (bif v1 then some (.inr ()) else some (.inl e1)))))) (-1)) (Sum.elim (fun (s1 : Int) => (Option.bind (cloneI 8 p2) fun e2 => (Option.bind (d_35a) fun r2 => (Option.bind (cloneI 56 p3) fun e3 => (Option.bind (d_34a) fun r3 => (Option.bind (mkN 136 (p6.length : Int)) fun k2 => (Option.bind (forR (σ := (List ClauseT)) (ρ := Unit) (p6.length : Int) (fun i2 s2 => (Option.bind (idxN p6.length (i2 : Int)) fun k3 => (Option.bind (p6[k3]?) fun e4 => (Option.bind (idxN p4.length e4) fun k4 => (Option.bind (p4[k4]?) fun e5 => (Option.bind (cloneI 16 e5.start) fun e6 => (Option.bind (forR (σ := (List CondT)) (ρ := Unit) (e6.length : Int) (fun i3 s3 => (Option.bind (idxN e6.length (i3 : Int)) fun k5 => (Option.bind (s3[k5]?) fun e7 => (Option.bind (e_BinarySearch p6 e7.clause) fun r4 => (bif r4.2 then (Option.bind (idxN e6.length (i3 : Int)) fun k6 => (Option.bind (s3[k6]?) fun e8 => some (.inl (s3.set k6 ({ clause := r4.1, is := e8.is } : CondT))))) else some (.inr ())))))) e6) (Sum.elim (fun (s3 : (List CondT)) => (Option.bind (idxN k2 (i2 : Int)) fun k7 => (Option.bind (s2[k7]?) fun e9 => some (.inl (s2.set k7 ({ e5 with start := List.take e6.length s3 } : ClauseT)))))) (fun (y2 : Unit) => some (.inr ())))))))))) (List.replicate k2 ({ kind := 0, role := 0, act := 0, need := 0, start := [], after := 0, grace := 0, business := false, final := false, pause := 0, resume := 0, value := ({ num := 0, den := 0 } : Ratio), unit := 0, to := 0, waived := false } : ClauseT))) (Sum.elim (fun (s2 : (List ClauseT)) => some (p1, e2, e3, List.take k2 s2, p5, 0)) (fun (y3 : Unit) => some (0, [], [], [], 0, 1)))))))))) (fun (y1 : Unit) => some (0, [], [], [], 0, 1)))) else some (0, [], [], [], 0, 1)))
theorem le_15b (p1 : Int) (p2 : List Int) (p3 : List ActT) (p4 : List ClauseT) (p5 : Int) (p6 : List Int) : Le (e_15b p1 p2 p3 p4 p5 p6) (d_15b p1 p2 p3 p4 p5 p6) := by
  unfold e_15b d_15b
  repeat' (first | with_reducible exact Le.refl _ | with_reducible exact Le.refl _ | with_reducible exact le_BinarySearch _ _ | with_reducible refine Le.bind ?_ (fun _ => ?_) | with_reducible refine Le.cond _ ?_ ?_ | with_reducible refine Le.forR (fun _ _ => ?_) _ _ | with_reducible refine Le.elim (fun _ => ?_) (fun _ => ?_) _)

theorem bindOf {α β : Type} {x : Option α} {f : α → Option β} {a : α} {r : β} (h : x = some a) (h2 : f a = some r) : x.bind f = some r := by rw [h]; exact h2

def ex0 : List ActT := [⟨1, 0, 0, -1, -1, ⟨0, 1⟩⟩, ⟨1, 0, 0, -1, -1, ⟨0, 1⟩⟩]
theorem s_head : d_head = some true := by
  unfold d_head
  refine bindOf (a := (ex0, 0, 1, 0, 1, 0, 1)) (by kernel_rfl) ?_
  refine bindOf (a := (0, -1)) (by kernel_rfl) ?_
  refine bindOf (a := [[0], [1, 2]]) (le_13a _ _ _ _ _ _ (by kernel_rfl)) ?_
  refine bindOf (a := (1, [0], ex0, [⟨2, 0, 1, 1, [], 3, 0, false, false, -1, -1, ⟨0, 1⟩, -1, -1, false⟩, ⟨3, 0, 1, 1, [], 3, 0, false, false, -1, -1, ⟨0, 1⟩, -1, -1, false⟩], 9, 0)) (le_15b _ _ _ _ _ _ _ (by kernel_rfl)) ?_
  refine bindOf (a := (0, [], [], [], 0, 1)) (le_15b _ _ _ _ _ _ _ (by kernel_rfl)) ?_
  refine bindOf (a := [[0, 1, 2]]) (le_13a _ _ _ _ _ _ (by kernel_rfl)) ?_
  refine bindOf (a := (1, 2)) (by kernel_rfl) ?_
  refine bindOf (a := (3, -1)) (by kernel_rfl) ?_
  kernel_rfl

end Go.Proofs.Ytgligibbgobmnaa
namespace Go.Proofs.Ytgligibbgobmnaa
open Go.RowKit
set_option linter.unusedVariables false
set_option linter.unusedSimpArgs false
set_option maxRecDepth 100000

theorem LOk.lt {α : Type} {n : Nat} {p : α → Prop} {l : List α} (h : LOk n p l) (hn : 0 < n) : l.length < 4611686018427387904 := by
  have h1 := h.1
  have h2 : reachBytes ≤ 140737488355328 := by decide +kernel
  have := Nat.le_mul_of_pos_right l.length hn
  omega

def fewB (c : ContractT) (n : Int) : Bool :=
  !(decide (13 < (c.holders.length : Int)) || (decide (21 < (c.units.length : Int)) || (decide (61 < (c.acts.length : Int)) || (decide (n < (c.clauses.length : Int)) || decide (100 < (c.off.length : Int)))))) &&
  (c.units.all (fun u => !decide (60 < (u.name.size : Int))) && c.clauses.all (fun k => !decide (10 < (k.start.length : Int))))

theorem s_Few (c : ContractT) (n : Int) (hu : c.units.length < 4611686018427387904) (hc : c.clauses.length < 4611686018427387904) : d_Few c n = some (fewB c n) := by
  unfold d_Few fewB
  rw [forR_all (l := c.units) (fun u => !decide (60 < (u.name.size : Int))) hu (fun i hi => by
    simp only [idxI_nat', List.getElem?_eq_getElem hi, Option.bind_some]
    cases decide (60 < (c.units[i].name.size : Int)) <;> rfl)]
  rw [forR_all (l := c.clauses) (fun k => !decide (10 < (k.start.length : Int))) hc (fun i hi => by
    simp only [idxI_nat', List.getElem?_eq_getElem hi, Option.bind_some]
    cases decide (10 < (c.clauses[i].start.length : Int)) <;> rfl)]
  simp only [cond_some, Bool.cond_true_left, Option.bind_some]
  cases (decide (13 < (c.holders.length : Int)) || (decide (21 < (c.units.length : Int)) || (decide (61 < (c.acts.length : Int)) || (decide (n < (c.clauses.length : Int)) || decide (100 < (c.off.length : Int)))))) <;>
    cases c.units.all (fun u => !decide (60 < (u.name.size : Int))) <;> cases c.clauses.all (fun k => !decide (10 < (k.start.length : Int))) <;> rfl

structure FewP (c : ContractT) (n : Int) : Prop where
  nh : c.holders.length ≤ 13
  nu : c.units.length ≤ 21
  na : c.acts.length ≤ 61
  nc : c.clauses.length ≤ n
  no : c.off.length ≤ 100
  ns : ∀ k ∈ c.clauses, k.start.length ≤ 10

theorem fewB_true {c : ContractT} {n : Int} (h : fewB c n = true) : FewP c n := by
  simp only [fewB, Bool.and_eq_true, Bool.not_eq_true', Bool.or_eq_false_iff, decide_eq_false_iff_not, List.all_eq_true] at h
  obtain ⟨⟨h1, h2, h3, h4, h5⟩, _, h6⟩ := h
  exact ⟨by omega, by omega, by omega, by omega, by omega, fun k hk => by have := h6 k hk; omega⟩

theorem ContractT.Ok.valid {c : ContractT} (hc : c.Ok) : d_Valid c = some (validR c) :=
  s_Valid c (hc.off.lt (by omega)) (fun k hk => (hc.clauses.2 k hk).start.lt (by omega))
theorem ContractT.Ok.few {c : ContractT} (hc : c.Ok) (n : Int) : d_Few c n = some (fewB c n) :=
  s_Few c n (hc.units.lt (by omega)) (hc.clauses.lt (by omega))

inductive ValidIs (c : ContractT) : Int × Int → Prop where
  | lim (h : limB c = true) : ValidIs c (3, -1)
  | frame (h : limB c = false) (hf : framedB c = false) : ValidIs c (1, -1)
  | bad (h : limB c = false) (hf : framedB c = true) (i : Nat) (hi : i < c.clauses.length) (hb : clB c i = false) (hl : ∀ j, j < i → clB c j = true) : ValidIs c (1, (i : Int))
  | ok (h : limB c = false) (hf : framedB c = true) (ha : ∀ j, j < c.clauses.length → clB c j = true) : ValidIs c (0, -1)

theorem valid_is (c : ContractT) : ValidIs c (validR c) := by
  unfold validR
  cases h : limB c with
  | true => exact .lim h
  | false =>
    simp only [cond_false]
    cases hf : framedB c with
    | false => exact .frame h hf
    | true =>
      simp only [cond_true]
      cases hq : (List.range c.clauses.length).find? (fun j => !clB c j) with
      | none => exact .ok h hf (find_none hq)
      | some j => obtain ⟨h1, h2, h3⟩ := find_some hq; exact .bad h hf j h1 h2 h3

end Go.Proofs.Ytgligibbgobmnaa
namespace Go.Proofs.Ytgligibbgobmnaa
open Go.RowKit
set_option linter.unusedVariables false
set_option linter.unusedSimpArgs false
set_option maxRecDepth 100000

def watchK : ClauseT := { kind := 4, role := -1, act := 0, need := 1, start := [], after := 3, grace := 0, business := false, final := false, pause := -1, resume := -1, value := { num := 0, den := 1 }, unit := -1, to := -1, waived := false }

theorem watch_ok (nh : Nat) (units : List UnitT) (acts : List ActT) (n : Nat) (i : Int) (ha : acts ≠ []) : clauseB nh units acts n i watchK = true := by
  have hl : (0 : Int) < acts.length := by
    cases acts with
    | nil => exact absurd rfl ha
    | cons _ _ => simp only [List.length_cons]; omega
  have h1 : decide ((acts.length : Int) ≤ 0) = false := by simp only [decide_eq_false_iff_not]; omega
  simp only [clauseB, watchK, kindB, pauseB, noneB, List.all_nil, List.length_nil, h1]
  simp [ha]

theorem m_ContractFirst (c : ContractT) (hc : c.Ok) : d_ContractFirst c = some true := by
  unfold d_ContractFirst
  rw [s_head, hc.few 60, hc.valid]
  simp only [Option.bind_some]
  cases hfew : fewB c 60 with
  | false => rfl
  | true =>
    have few := fewB_true hfew
    simp only [cond_true, cond_some]
    have hv := valid_is c
    generalize validR c = r at hv ⊢
    cases hv with
    | lim _ => rfl
    | frame _ _ => rfl
    | ok _ _ _ => rfl
    | bad hlim hf i hi hb hl =>
      have hi0 : decide ((i : Int) < 0) = false := by simp only [decide_eq_false_iff_not]; omega
      simp only [hi0, cond_false, Option.bind_some, show ((1 : Int) == 0) = false from rfl, show ((1 : Int) == 1) = true from rfl, cond_true, Bool.false_eq_true]
      by_cases hacts : c.acts = []
      · have hle : decide ((-1 : Int) ≤ (i : Int)) = true := by simp only [decide_eq_true_eq]; omega
        simp only [hacts, List.length_nil, hle]; rfl
      · have hal : ((c.acts.length : Int) == 0) = false := by
          rw [beq_eq_false_iff_ne]
          intro h
          exact hacts (List.length_eq_zero_iff.1 (by omega))
        have hne : c.clauses ≠ [] := fun h => by rw [h] at hi; simp at hi
        have hap : appM (α := ClauseT) 136 [] c.clauses = some c.clauses := by
          unfold appM
          have h0 : reachBytes ≤ 140737488355328 := by decide +kernel
          have h1 := hc.clauses.1
          rw [if_pos ⟨hne, by simp only [List.length_nil, Nat.zero_add]; omega⟩, List.nil_append]
        have hlt : decide ((c.clauses.length : Int) ≤ (i : Int)) = false := by simp only [decide_eq_false_iff_not]; omega
        rw [hal, hap]
        simp only [cond_false, hlt, Option.bind_some, idxN_nat hi, List.getElem?_eq_getElem hi, d_9a, d_zero]
        rw [List.getElem?_eq_getElem (by simpa using hi)]
        simp only [Option.bind_some, List.getElem_set_self, List.set_set]
        show (Option.bind (d_Valid ({ c with clauses := c.clauses.set i watchK } : ContractT)) _) = some true
        rw [s_Valid ({ c with clauses := c.clauses.set i watchK } : ContractT) (hc.off.lt (by omega)) (fun k hk => by
          rcases List.mem_or_eq_of_mem_set hk with h | h
          · exact (hc.clauses.2 k h).start.lt (by omega)
          · subst h; decide)]
        simp only [Option.bind_some]
        have hlim' : limB ({ c with clauses := c.clauses.set i watchK } : ContractT) = false := by
          rw [← hlim]; simp only [limB, List.length_set]
        have hf' : framedB ({ c with clauses := c.clauses.set i watchK } : ContractT) = true := hf
        have hcl : ∀ j, j ≤ i → clB ({ c with clauses := c.clauses.set i watchK } : ContractT) j = true := fun j hj => by
          rcases Nat.lt_or_ge j i with h | h
          · have := hl j h
            simp only [clB, List.length_set, List.getElem?_set, if_neg (Nat.ne_of_gt h)] at this ⊢
            exact this
          · obtain rfl : j = i := by omega
            simp only [clB, List.length_set, List.getElem?_set, if_pos, hi]
            exact watch_ok _ _ _ _ _ hacts
        have hv' := valid_is ({ c with clauses := c.clauses.set i watchK } : ContractT)
        generalize validR ({ c with clauses := c.clauses.set i watchK } : ContractT) = r at hv' ⊢
        cases hv' with
        | lim h => rw [hlim'] at h; cases h
        | frame _ h => rw [hf'] at h; cases h
        | ok _ _ _ => rfl
        | bad _ _ k hk hkb _ =>
          have hik : i < k := by
            rcases Nat.lt_or_ge i k with h | h
            · exact h
            · rw [hcl k h] at hkb; cases hkb
          have h1 : decide ((i : Int) < (k : Int)) = true := by simp only [decide_eq_true_eq]; omega
          have h2 : decide ((k : Int) < (c.clauses.length : Int)) = true := by simp only [List.length_set] at hk; simp only [decide_eq_true_eq]; omega
          simp only [h1, h2]; rfl
end Go.Proofs.Ytgligibbgobmnaa
namespace Go.Proofs.Ytgligibbgobmnaa.LContractFirst
open Go.ChangeShapes Go.WideShapes Go.ChangeAt Go.RowKit
set_option linter.unusedVariables false
set_option maxRecDepth 100000

theorem all (ivs : List IV) (h : HasArgs [(true, ContractT.tys)] ivs) : APure C0 0 ivs (.bool true) := by
  match ivs, h with
  | [x0], ⟨a0, _⟩ =>
    obtain ⟨row0, rfl, r0⟩ := a0
    obtain ⟨c, rfl, ok_c⟩ := ContractT.opn r0
    exact t_ContractFirst hasA c true (m_ContractFirst c ok_c)

theorem own : ownKnob Try.prog.godebug = none := by kernel_rfl
theorem laid : laidOutB Try.prog = true := by kernel_rfl
theorem args : mapO (argC Try.prog) Try.f3.params.toList = some [(true, ContractT.tys)] := by kernel_rfl

theorem lifted (os : Os) (started : os.Started) (H : Type) (enc : TypeId × Value → H) :
    ReturnsInHanded {} Try.checked os 3 .any (Rows.contractFirstSpec.pre6 enc Try.prog Try.f3 Rows.contractFirstRow.domain false) (Rows.contractFirstSpec.post enc Try.prog Try.f3 false true false false) := by
  refine returnsInHanded_of_change_sized (C := Try.checked) own started (by kernel_rfl) Try.func3
    (ChangeSpec.witness6 (enc := enc) (C := Try.checked) false ⟨#[], #[.agg #[.int .i64 0, .slice none 0 0, .slice none 0 0, .slice none 0 0, .slice none 0 0, .int .i64 0, .slice none 0 0]], []⟩ 8 (by kernel_rfl) (by kernel_rfl) (by kernel_rfl) (by kernel_rfl)) ?_
  intro W base args ds gs before hval hW _ hwt _
  exact law_contract (Cx := C0) (tb := 4) 0 rfl LContractFirst.args rfl (by kernel_rfl) rfl
    (fun ds h => by match ds, h with | [_], _ => rfl) LContractFirst.laid (by kernel_rfl) LContractFirst.all W base args ds gs before hval hW hwt

theorem holds : Rows.ContractFirstSaid :=
  OpenClaim.holds_of_wide 3 Try.f3 rfl rfl rfl rfl rfl rfl rfl ⟨rfl, rfl, rfl, rfl, rfl⟩ rfl rfl rfl rfl rfl (by kernel_rfl) Try.func3 (by kernel_rfl)
    (of_decide_eq_true (by kernel_rfl)) (by unfold Func.isWrapper; first | (rw [if_pos (by decide +kernel)]; kernel_rfl) | (rw [if_neg (by decide +kernel)]; exact ⟨rfl, rfl⟩))
    (fun os started H enc _ => lifted os started H enc)
end Go.Proofs.Ytgligibbgobmnaa.LContractFirst

namespace Go.Proofs.Ytgligibbgobmnaa
theorem contractFirst_holds : Rows.ContractFirstSaid := LContractFirst.holds
end Go.Proofs.Ytgligibbgobmnaa
