/-
  Functions of the program: what they compute, and plans of their code that the kernel checks (printed by a program of ours).
  From the readings of a row's arguments to the abstract machine's data: whatever plain data is handed in (numbers, truth values, texts, slices and structures of these) is data of the abstract machine, of its type; and a law that is proved of all such data is the row's contract.
-/
import Derived.Test.YtgligibbgobmnaaPt05
import Derived.Test.YtgligibbgobmnaaPt02
import Derived.ProofKit
import Derived.SizedLaws
import Derived.Carry
namespace Go.Proofs.Ytgligibbgobmnaa
open Go.RowKit
set_option linter.unusedVariables false
set_option linter.unusedSimpArgs false
set_option maxRecDepth 100000

noncomputable def d_gather_step (i : Nat) (s : List (List Int) × List (Int × Int) × List Int) : Option ((List (List Int) × List (Int × Int) × List Int) ⊕ Unit) :=
  Option.bind (d_29a (i : Int) s.2.2) fun r =>
    bif r.1 == (i : Int) then some (.inl (s.1 ++ [[(i : Int)]], mset (i : Int) (s.1.length : Int) s.2.1, r.2))
    else Option.bind (idxI s.1 ((mget r.1 s.2.1).getD 0)) fun l => some (.inl (s.1.set ((mget r.1 s.2.1).getD 0).toNat (l ++ [(i : Int)]), s.2.1, r.2))
abbrev F29 : AV := .func 29 [] [.ptr 0 0 0, .ptr 1 0 0]
structure GCtx where
  heap : List (Nat × AObj)
  N : Nat
  P : Nat
  qs : List Nat

structure GOk (i : Nat) (s : List (List Int) × List (Int × Int) × List Int) (c : GCtx) : Prop where
  nest : NestOk c.heap c.N c.P c.qs s.1
  min : 9 ≤ c.N
  lt : ∀ j o, alGet c.heap j = some o → j < c.N
  p0 : c.P ≠ 0
  p1 : c.P ≠ 1
  h0 : alGet c.heap 0 = some (.rows 1 (rowsA rowI s.2.2))
  h1 : alGet c.heap 1 = some (.rows 1 [[F29]])
  h4 : alGet c.heap 4 = some (.map (entsA IV.i64 IV.i64 s.2.1))
  len : s.1.length ≤ i
  lens : ∀ (k : Nat) (L : List Int), s.1[k]? = some L → L.length ≤ i

def GS (n : Int) (i : Nat) (s : List (List Int) × List (Int × Int) × List Int) (c : GCtx) : St :=
  ⟨[(1, F29), (5, .mslice c.P 0 s.1.length), (6, .map 4), (10, vI n), (11, vI (i : Int))], c.heap, c.N⟩

theorem g_call {nt : Nat} (i : Int) (above : List Int) (r : Int × List Int) (hr : d_29a i above = some r) (x5 x6 x10 : AV) (heap : List (Nat × AObj)) (N : Nat) (hN : 9 ≤ N)
    (h0 : alGet heap 0 = some (.rows 1 (rowsA rowI above))) (h1 : alGet heap 1 = some (.rows 1 [[F29]])) (P : Exit → St → Prop)
    (h : P .normal ⟨[(1, F29), (5, x5), (6, x6), (10, x10), (11, vI i), (7, vI i), (8, vI r.1)], alSet heap 0 (.rows 1 (rowsA rowI r.2)), N + 4⟩) :
    awp C0 nt (.region false [] ri33_6 (some [1, 5, 6, 7, 8, 10, 11])) P ⟨[(1, F29), (5, x5), (6, x6), (10, x10), (11, vI i), (7, vI i)], heap, N⟩ := by
  refine awp_reg ?_
  have hd := t_29a i above r hr
  simp only [ri33_6, evl_cons, evl_nil, evIt_none, evOp_mov, evalOp, evEnv_t, alGet_cons, alGet_nil, reduceIte, Option.getD_some, evRes_some, after_some, applyUps_nil, alSet_cons, alSet_nil, evOp_call, List.map_cons, List.map_nil, evCall_func, List.nil_append, List.append_nil, List.cons_append, evAfter_some, Nat.reduceEqDiff, if_false]
  refine ACall.det (l := [0, 1]) (call_side hd [0, 1] (N + 1 + 1) (.keep (.drop rfl rfl .nil)) (rhI (rhR rhN)) (rhI rhN)) ?_ ?_ ?_
  · simp only [phiOkB, nodupB, List.length_cons, List.length_nil, List.all_cons, List.all_nil]
    simp; try omega
  · simp only [objsX, h0, h1]
    rfl
  · simp only [evAfter, St.put, evRes_some, after_some, applyUps_nil, alSet_cons, alSet_nil, Nat.reduceEqDiff, if_false, reduceIte, alGet_cons, Option.getD_some, Kept_some, applyUps_cons]
    simp [keepEnv, List.filter, phi, rnAV]
    exact h

theorem dstep {C : Ctx} {ord : List Nat} {K : St → Prop} {dst : Option Nat} {op : AOp} {rest : List AItem} {j : Nat} {W R : List (Nat × Nat)} {env : List (Nat × AV)} {heap : List (Nat × AObj)} {next : Nat} (r : AV) (ups : List (Nat × AObj)) (hc : (match op with | .call _ _ => true | _ => false) = false)
    (he : evalOp op (evEnv env) (alGet heap) next = some (r, ups)) (hk : okAt ord j W R (upIds ups) (readIds op (evEnv env)) = true)
    (hn : evd C ord K rest (j + 1) (addAt j (upIds ups) W) (addAt j (readIds op (evEnv env)) R) (St.after ⟨env, heap, next⟩ dst r ups)) : evd C ord K (⟨dst, op, none⟩ :: rest) j W R ⟨env, heap, next⟩ := by
  rw [evd_cons, dIt_none]
  have e : ∀ KD, dOp C KD ⟨env, heap, next⟩ op = dRes KD (readIds op (evEnv env)) (evalOp op (evEnv env) (alGet heap) next) := fun KD => by
    cases op <;> first | rfl | exact Bool.noConfusion hc
  rw [e, he]
  exact ⟨hk, hn⟩

theorem ev_idxM {ev : Opd → AV} {h : Nat → Option AObj} {id Q k p : Nat} {a b : Opd} {rows : List (List AV)} (hb : ev b = vI (p : Int)) (ha : ev a = .mslice Q 0 k) (hQ : h Q = some (.rows 1 rows)) (hp : p < k) : evalOp (.idx 1 a b) ev h id = some (.ptr Q p 0, []) := by
  have i2 : (p : Int) < (k : Int) := by omega
  simp [evalOp, hb, ha, vI, hQ, i2]
theorem ev_loadM {ev : Opd → AV} {h : Nat → Option AObj} {id Q p : Nat} {a : Opd} {v : AV} {rows : List (List AV)} (ha : ev a = .ptr Q p 0) (hQ : h Q = some (.rows 1 rows)) (hr : rows[p]? = some [v]) : evalOp (.load false 1 a) ev h id = some (v, []) := by
  simp [evalOp, ha, hQ, hr]
theorem ev_appG {ev : Opd → AV} {h : Nat → Option AObj} {id q B : Nat} {a b : Opd} {v : IV} {rows : List (List IV)} (ha : ev a = .gslice q rows) (hb : ev b = .mslice B 0 1) (hB : h B = some (.rows 1 [[.imm v]])) (hq : h q = some (.tip 1 rows.length)) (hl : (rows.length + 1) * 8 ≤ 140737488355328) :
    evalOp (.app 1 8 a b) ev h id = some (.gslice q (rows ++ [[v]]), [(q, .tip 1 (rows.length + 1))]) := by
  simp [evalOp, ha, hb, appF, rowsOf, hB, hq, hl, mapO, leafIV]
theorem ev_storeM {ev : Opd → AV} {h : Nat → Option AObj} {id Q p q : Nat} {a b : Opd} {L : List (List IV)} {x : AV} {rows : List (List AV)} (ha : ev a = .ptr Q p 0) (hb : ev b = .gslice q L) (hQ : h Q = some (.rows 1 rows)) (hr : rows[p]? = some [x]) : evalOp (.store 1 a b) ev h id = some (.undef, [(Q, .rows 1 (rows.set p [.gslice q L]))]) := by
  simp [evalOp, ha, hb, hQ, hr, cellsOf, putCells]

set_option maxHeartbeats 4000000 in
theorem g_draw {C : Ctx} {nt : Nat} (i r : Int) (x1 x10 : AV) (heap : List (Nat × AObj)) (N Q k p q : Nat) (es : List (Int × Int)) (rows : List (List AV)) (L : List Int) (hk : k = rows.length)
    (hlt : ∀ j o, alGet heap j = some o → j < N) (hQ : alGet heap Q = some (.rows 1 rows)) (h4 : alGet heap 4 = some (.map (entsA IV.i64 IV.i64 es))) (hp : (mget r es).getD 0 = (p : Int)) (hrow : rows[p]? = some [.gslice q (L.map rowI)]) (hq : alGet heap q = some (.tip 1 L.length)) (hL : (L.length + 1) * 8 ≤ 140737488355328)
    (P : Exit → St → Prop)
    (h : P .normal ⟨[(1, x1), (5, .mslice Q 0 k), (6, .map 4), (10, x10), (11, vI i)], alSet (alSet (alSet heap (N + 11) (.rows 1 [[vI i]])) q (.tip 1 (L.length + 1))) Q (.rows 1 (rows.set p [.gslice q ((L ++ [i]).map rowI)])), N + 15⟩) :
    awp C nt (.region true [0, 0, 0, 6, 0, 0, 0, 96, 240, 496, 0, 1024, 4080, 8191, 16383] ri33_10 (some [1, 5, 6, 10, 11])) P ⟨[(1, x1), (5, .mslice Q 0 k), (6, .map 4), (10, x10), (11, vI i), (7, vI i), (8, vI r)], heap, N⟩ := by
  refine awp_drw ?_
  have e1 : Q < N := hlt _ _ hQ
  have e2 : q < N := hlt _ _ hq
  have e3 : Q ≠ q := fun e => by rw [e, hq] at hQ; cases hQ
  have e4 : Q ≠ 4 := fun e => by rw [e, h4] at hQ; cases hQ
  have e5 : q ≠ 4 := fun e => by rw [e, h4] at hq; cases hq
  have e6 : (4 : Nat) < N := hlt _ _ h4
  have hpk : p < k := by rw [hk]; exact (List.getElem?_eq_some_iff.1 hrow).1
  have lk : looks ri33_10 = false := rfl
  rw [lk]
  have hf : (match findEntry (.int .i64 r) (entsA IV.i64 IV.i64 es) with | some x => x | none => vI 0) = vI (p : Int) := by
    rw [findEntry_int]
    cases hm : mget r es with
    | none => rw [hm] at hp; simp only [Option.map_none]; rw [← hp]; rfl
    | some v => rw [hm] at hp; simp only [Option.map_some]; rw [← hp]; rfl
  have hlook : ∀ (ev : Opd → AV) (h : Nat → Option AObj) (id : Nat) (a b : Opd), ev a = .map 4 → ev b = vI r → h 4 = some (.map (entsA IV.i64 IV.i64 es)) → evalOp (.look false (.imm (.int .i64 0)) false a b) ev h id = some (vI (p : Int), []) := by
    intro ev h id a b ha hb hh
    simp only [evalOp, ha, hb, vI, hh, keysOk_int, keyIs]
    rw [findEntry_int]
    cases hm : mget r es with
    | none => rw [hm] at hp; simp only [Option.map_none]; simp at hp; simp [← hp]
    | some v => rw [hm] at hp; simp only [Option.map_some]; simp at hp; simp [← hp, IV.i64]
  show evd C _ (Kept _ P) ri33_10 0 [] [] _
  unfold ri33_10
  refine dstep _ _ rfl rfl rfl ?_
  refine dstep _ _ rfl rfl rfl ?_
  refine dstep _ _ rfl rfl rfl ?_
  refine dstep _ _ rfl (hlook _ _ _ _ _ rfl rfl h4) rfl ?_
  refine dstep _ _ rfl rfl rfl ?_
  refine dstep _ _ rfl rfl rfl ?_
  refine dstep _ _ rfl rfl rfl ?_
  refine dstep _ _ rfl (hlook _ _ _ _ _ rfl rfl h4) rfl ?_
  refine dstep _ _ rfl (ev_idxM rfl rfl hQ hpk) rfl ?_
  refine dstep _ _ rfl (ev_loadM rfl hQ hrow) rfl ?_
  refine dstep _ _ rfl rfl rfl ?_
  have n1 : N + 11 ≠ Q := by omega
  have n2 : N + 11 ≠ q := by omega
  have n3 : N + 11 ≠ 4 := by omega
  have hQ1 : alGet (alSet heap (N + 11) (.rows 1 [[vI i]])) Q = some (.rows 1 rows) := by rw [alGet_alSet, if_neg n1]; exact hQ
  have hq1 : alGet (alSet heap (N + 11) (.rows 1 [[vI i]])) q = some (.tip 1 (L.map rowI).length) := by rw [alGet_alSet, if_neg n2, List.length_map]; exact hq
  have hB : alGet (alSet heap (N + 11) (.rows 1 [[vI i]])) (N + 11) = some (.rows 1 [[vI i]]) := by rw [alGet_alSet, if_pos rfl]
  show evd C _ _ _ 11 [] [(9, Q), (8, Q), (7, 4), (5, 4), (4, Q), (3, 4), (1, 4), (0, Q)] ⟨[(1, x1), (5, .mslice Q 0 k), (6, .map 4), (10, x10), (11, vI i), (7, vI i), (8, vI r), (27, .mslice Q 0 k), (28, .map 4), (29, vI r), (30, vI (p : Int)), (31, .mslice Q 0 k), (32, .map 4), (33, vI r), (34, vI (p : Int)), (35, .ptr Q p 0), (36, .gslice q (L.map rowI)), (37, vI i)], heap, N + 11⟩
  have m1 : Q ≠ N + 11 := by omega
  have m2 : q ≠ N + 11 := by omega
  have m3 : 4 ≠ N + 11 := by omega
  have e3' : ¬ q = Q := fun e => e3 e.symm
  refine dstep (.mslice (N + 11) 0 1) [(N + 11, .rows 1 [[vI i]])] rfl rfl ?_ ?_
  · simp [okAt, upIds, m1, m3]
  show evd C _ _ _ 12 [(11, N + 11)] [(9, Q), (8, Q), (7, 4), (5, 4), (4, Q), (3, 4), (1, 4), (0, Q)] ⟨[(1, x1), (5, .mslice Q 0 k), (6, .map 4), (10, x10), (11, vI i), (7, vI i), (8, vI r), (27, .mslice Q 0 k), (28, .map 4), (29, vI r), (30, vI (p : Int)), (31, .mslice Q 0 k), (32, .map 4), (33, vI r), (34, vI (p : Int)), (35, .ptr Q p 0), (36, .gslice q (L.map rowI)), (37, vI i), (38, .mslice (N + 11) 0 1)], (alSet heap (N + 11) (.rows 1 [[vI i]])), N + 12⟩
  refine dstep (.gslice q (L.map rowI ++ [rowI i])) [(q, .tip 1 ((L.map rowI).length + 1))] rfl (ev_appG rfl rfl hB hq1 (by simpa using hL)) ?_ ?_
  · simp [okAt, upIds, bef, e3, e5, Ne.symm e5, m2]
  show evd C _ _ _ 13 [(12, q), (11, N + 11)] _ ⟨[(1, x1), (5, .mslice Q 0 k), (6, .map 4), (10, x10), (11, vI i), (7, vI i), (8, vI r), (27, .mslice Q 0 k), (28, .map 4), (29, vI r), (30, vI (p : Int)), (31, .mslice Q 0 k), (32, .map 4), (33, vI r), (34, vI (p : Int)), (35, .ptr Q p 0), (36, .gslice q (L.map rowI)), (37, vI i), (38, .mslice (N + 11) 0 1), (39, .gslice q (L.map rowI ++ [rowI i]))], (alSet (alSet heap (N + 11) (.rows 1 [[vI i]])) q (.tip 1 ((L.map rowI).length + 1))), N + 13⟩
  have hQ2 : alGet (alSet (alSet heap (N + 11) (.rows 1 [[vI i]])) q (.tip 1 ((L.map rowI).length + 1))) Q = some (.rows 1 rows) := by rw [alGet_alSet, if_neg e3']; exact hQ1
  refine dstep (.ptr Q p 0) [] rfl (ev_idxM rfl rfl hQ2 hpk) ?_ ?_
  · simp [okAt, upIds, bef]
  show evd C _ _ _ 14 [(12, q), (11, N + 11)] _ ⟨[(1, x1), (5, .mslice Q 0 k), (6, .map 4), (10, x10), (11, vI i), (7, vI i), (8, vI r), (27, .mslice Q 0 k), (28, .map 4), (29, vI r), (30, vI (p : Int)), (31, .mslice Q 0 k), (32, .map 4), (33, vI r), (34, vI (p : Int)), (35, .ptr Q p 0), (36, .gslice q (L.map rowI)), (37, vI i), (38, .mslice (N + 11) 0 1), (39, .gslice q (L.map rowI ++ [rowI i])), (40, .ptr Q p 0)], (alSet (alSet heap (N + 11) (.rows 1 [[vI i]])) q (.tip 1 ((L.map rowI).length + 1))), N + 14⟩
  refine dstep .undef _ rfl (ev_storeM rfl rfl hQ2 hrow) ?_ ?_
  · simp [okAt, upIds, bef]
  show Kept _ P ⟨[(1, x1), (5, .mslice Q 0 k), (6, .map 4), (10, x10), (11, vI i), (7, vI i), (8, vI r), (27, .mslice Q 0 k), (28, .map 4), (29, vI r), (30, vI (p : Int)), (31, .mslice Q 0 k), (32, .map 4), (33, vI r), (34, vI (p : Int)), (35, .ptr Q p 0), (36, .gslice q (L.map rowI)), (37, vI i), (38, .mslice (N + 11) 0 1), (39, .gslice q (L.map rowI ++ [rowI i])), (40, .ptr Q p 0)], alSet (alSet (alSet heap (N + 11) (.rows 1 [[vI i]])) q (.tip 1 ((L.map rowI).length + 1))) Q (.rows 1 (rows.set p [.gslice q (L.map rowI ++ [rowI i])])), N + 15⟩
  rw [Kept_some]
  rw [List.map_append, List.length_map] at *
  exact h

theorem estep {C : Ctx} {K : St → Prop} {dst : Option Nat} {op : AOp} {rest : List AItem} {env : List (Nat × AV)} {heap : List (Nat × AObj)} {next : Nat} (r : AV) (ups : List (Nat × AObj)) (hc : (match op with | .call _ _ => true | _ => false) = false)
    (he : evalOp op (evEnv env) (alGet heap) next = some (r, ups)) (hn : evl C rest K (St.after ⟨env, heap, next⟩ dst r ups)) : evl C (⟨dst, op, none⟩ :: rest) K ⟨env, heap, next⟩ := by
  rw [evl_cons, evIt_none]
  have e : ∀ K, evOp C dst K ⟨env, heap, next⟩ op = evRes dst K ⟨env, heap, next⟩ (evalOp op (evEnv env) (alGet heap) next) := fun KD => by
    cases op <;> first | rfl | exact Bool.noConfusion hc
  rw [e, he]
  exact hn

theorem weak_env {env env' : List (Nat × AV)} {heap : List (Nat × AObj)} {N : Nat} (h : ∀ t x, alGet env' t = some x → alGet env t = some x) : Weak ⟨env, heap, N⟩ ⟨env', heap, N⟩ := fun C nt g a w R =>
  ⟨g, ⟨⟨R.env.size, R.env.defers, fun t x hx => R.env.slot t x (h t x hx)⟩, R.heap⟩, fun _ _ _ _ E => E⟩
theorem alGet_app {α : Type} : ∀ (l m : List (Nat × α)) (t : Nat) (x : α), alGet l t = some x → alGet (l ++ m) t = some x
  | [], m, t, x, h => by cases h
  | (k, v) :: l, m, t, x, h => by
    simp only [List.cons_append, alGet] at h ⊢
    split
    · rename_i e; rw [if_pos e] at h; exact h
    · rename_i e; rw [if_neg e] at h; exact alGet_app l m t x h
theorem weak_envA (env ext : List (Nat × AV)) (heap : List (Nat × AObj)) (N : Nat) : Weak ⟨env ++ ext, heap, N⟩ ⟨env, heap, N⟩ := weak_env fun t x h => alGet_app env ext t x h
theorem g_inc {C : Ctx} {nt : Nat} (x1 x5 x6 x10 : AV) (i : Int) (heap : List (Nat × AObj)) (N : Nat) (P : Exit → St → Prop) (h : P .normal ⟨[(1, x1), (5, x5), (6, x6), (10, x10), (11, vI (IntKind.i64.wrap (i + 1)))], heap, N + 2⟩) :
    awp C nt (.region false [] ri33_11 (some [1, 5, 6, 10, 11])) P ⟨[(1, x1), (5, x5), (6, x6), (10, x10), (11, vI i)], heap, N⟩ := reg_fast [] .nil h (by kernel_rfl)
theorem mget_mset (k : Int) (v : Int) : ∀ es : List (Int × Int), mget k (mset k v es) = some v
  | [] => by simp [mset, mget]
  | (k', v') :: r => by
    have ih := mget_mset k v r
    by_cases e : k = k'
    · simp only [mset, if_pos e, mget, if_true]
    · simp only [mset, if_neg e, mget]; exact ih
theorem ev_updM {ev : Opd → AV} {h : Nat → Option AObj} {id M : Nat} {a b c : Opd} {i v : Int} {es : List (Int × Int)} (ha : ev a = .map M) (hb : ev b = vI i) (hc : ev c = vI v) (hM : h M = some (.map (entsA IV.i64 IV.i64 es))) :
    evalOp (.upd false a b c) ev h id = some (.undef, [(M, .map (entsA IV.i64 IV.i64 (mset i v es)))]) := by
  have := (upd_side IV.i64 i v es).2
  simp only [evalOp, ha, hb, hc, hM, vI, keysOk_int, keyIs]
  simp only [IV.i64] at this ⊢
  simp [this]
theorem ev_lenM {ev : Opd → AV} {h : Nat → Option AObj} {id Q k sz : Nat} {a : Opd} {rows : List (List AV)} (ha : ev a = .mslice Q 0 k) (hQ : h Q = some (.rows sz rows)) : evalOp (.len a) ev h id = some (vI (k : Int), []) := by
  simp [evalOp, ha, lenOfAV, hQ]
theorem ev_appM {ev : Opd → AV} {h : Nat → Option AObj} {id Q B k : Nat} {a b : Opd} {v : AV} {rows : List (List AV)} (ha : ev a = .mslice Q 0 k) (hb : ev b = .mslice B 0 1) (hB : h B = some (.rows 1 [[v]])) (hQ : h Q = some (.rows 1 rows)) (hk : k = rows.length) (hl : (k + 1) * 24 ≤ 140737488355328) :
    evalOp (.app 1 24 a b) ev h id = some (.mslice id 0 (k + 1), [(id, .rows 1 (rows ++ [[v]])), (Q, .dead)]) := by
  subst hk
  simp [evalOp, ha, hb, appT, rowsAV, hB, hQ, hl]

theorem g_upd {C : Ctx} {nt : Nat} (i r : Int) (x1 x10 x11 x19 : AV) (heap : List (Nat × AObj)) (N Q k : Nat) (es : List (Int × Int)) (rows : List (List AV)) (hQ : alGet heap Q = some (.rows 1 rows)) (h4 : alGet heap 4 = some (.map (entsA IV.i64 IV.i64 es))) (P : Exit → St → Prop)
    (h : P .normal ⟨[(1, x1), (5, .mslice Q 0 k), (6, .map 4), (10, x10), (11, x11), (7, vI i), (8, vI r)], alSet heap 4 (.map (entsA IV.i64 IV.i64 (mset i (k : Int) es))), N + 5⟩) :
    awp C nt (.region false [] ri33_8 (some [1, 5, 6, 7, 8, 10, 11])) P ⟨[(1, x1), (5, .mslice Q 0 k), (6, .map 4), (10, x10), (11, x11), (7, vI i), (8, vI r), (19, x19)], heap, N⟩ := by
  refine awp_reg ?_
  unfold ri33_8
  refine estep _ _ rfl rfl ?_
  refine estep _ _ rfl rfl ?_
  refine estep _ _ rfl rfl ?_
  refine estep (vI (k : Int)) [] rfl (ev_lenM rfl hQ) ?_
  refine estep _ _ rfl (ev_updM rfl rfl rfl h4) ?_
  exact h

theorem g_app {C : Ctx} {nt : Nat} (x1 x6 x7 x8 x10 x11 : AV) (heap : List (Nat × AObj)) (N Q k : Nat) (rows : List (List AV)) (hk : k = rows.length) (hQN : Q < N) (hQ : alGet heap Q = some (.rows 1 rows)) (hl : (k + 1) * 24 ≤ 140737488355328) (P : Exit → St → Prop)
    (h : P .normal ⟨[(1, x1), (5, .mslice (N + 2) 0 (k + 1)), (6, x6), (10, x10), (11, x11), (7, x7), (8, x8)], alSet (alSet (alSet heap (N + 1) (.rows 1 [[.nil]])) Q .dead) (N + 2) (.rows 1 (rows ++ [[.nil]])), N + 4⟩) :
    awp C nt (.region false [] ri33_9 (some [1, 5, 6, 7, 8, 10, 11])) P ⟨[(1, x1), (5, .mslice Q 0 k), (6, x6), (10, x10), (11, x11), (7, x7), (8, x8)], heap, N⟩ := by
  refine awp_reg ?_
  unfold ri33_9
  refine estep _ _ rfl rfl ?_
  refine estep (.mslice (N + 1) 0 1) [(N + 1, .rows 1 [[.nil]])] rfl rfl ?_
  have hB : alGet (alSet heap (N + 1) (.rows 1 [[.nil]])) (N + 1) = some (.rows 1 [[.nil]]) := by rw [alGet_alSet, if_pos rfl]
  have hQ1 : alGet (alSet heap (N + 1) (.rows 1 [[.nil]])) Q = some (.rows 1 rows) := by rw [alGet_alSet, if_neg (by omega)]; exact hQ
  refine estep _ _ rfl (ev_appM rfl rfl hB hQ1 hk hl) ?_
  refine estep _ _ rfl rfl ?_
  exact h

noncomputable def d_gather (n : Int) (above : List Int) : Option (List (List Int) × List Int) :=
  bif decide (n ≤ 1000000000000) then Option.bind (forR (σ := List (List Int) × List (Int × Int) × List Int) (ρ := Unit) n d_gather_step ([], [], above)) (Sum.elim (fun s => some (s.1, s.2.2)) (fun _ => none)) else none

theorem gok_draw {i : Nat} {Ls : List (List Int)} {es : List (Int × Int)} {above : List Int} {heap : List (Nat × AObj)} {N P : Nat} {qs : List Nat}
    (hN : NestOk heap N P qs Ls) (hmin : 9 ≤ N) (hlt : ∀ j o, alGet heap j = some o → j < N) (p0 : P ≠ 0) (p1 : P ≠ 1) (h0 : alGet heap 0 = some (.rows 1 (rowsA rowI above))) (h1 : alGet heap 1 = some (.rows 1 [[F29]])) (h4 : alGet heap 4 = some (.map (entsA IV.i64 IV.i64 es)))
    (hlen : Ls.length ≤ i + 1) (hlens : ∀ (k : Nat) (L : List Int), Ls[k]? = some L → L.length ≤ i) {p q : Nat} {L : List Int} (hL : Ls[p]? = some L) (hq : qs[p]? = some q) :
    GOk (i + 1) (Ls.set p (L ++ [(i : Int)]), es, above) ⟨alSet (alSet (alSet heap (N + 11) (.rows 1 [[vI (i : Int)]])) q (.tip 1 (L.length + 1))) P (.rows 1 ((tipRows qs Ls).set p [.gslice q ((L ++ [(i : Int)]).map rowI)])), N + 17, P, qs⟩ := by
  have ht := hN.tip p q L hq hL
  have hqP : q ≠ P := fun e => by rw [e, hN.obj] at ht; cases ht
  have hPN : P < N := hlt _ _ hN.obj
  have hqN : q < N := hlt _ _ ht
  have hE : ∀ j, j ≠ P → j ≠ q → (alGet heap j).isSome = true → alGet (alSet (alSet (alSet heap (N + 11) (.rows 1 [[vI (i : Int)]])) q (.tip 1 (L.length + 1))) P (.rows 1 ((tipRows qs Ls).set p [.gslice q ((L ++ [(i : Int)]).map rowI)]))) j = alGet heap j := fun j a b c => by
    obtain ⟨o, ho⟩ := Option.isSome_iff_exists.1 c
    have := hlt j o ho
    rw [alGet_alSet, if_neg (Ne.symm a), alGet_alSet, if_neg (Ne.symm b), alGet_alSet, if_neg (by omega)]
  refine ⟨hN.grow hq (by rw [alGet_alSet, if_pos rfl, tipRows_set qs Ls p q _ hq]) (by rw [alGet_alSet, if_neg (Ne.symm hqP), alGet_alSet, if_pos rfl]; simp) hE, by show 9 ≤ N + 17; omega, fun j o ho => ?_, p0, p1, ?_, ?_, ?_, by simpa using hlen, fun k' L' h' => ?_⟩
  · show j < N + 17
    simp only [alGet_alSet] at ho
    split at ho
    · omega
    · split at ho
      · omega
      · split at ho
        · omega
        · have := hlt j o ho; omega
  · simp only; rw [hE 0 (Ne.symm p0) (fun e => by rw [← e, h0] at ht; cases ht) (by rw [h0]; rfl)]; exact h0
  · simp only; rw [hE 1 (Ne.symm p1) (fun e => by rw [← e, h1] at ht; cases ht) (by rw [h1]; rfl)]; exact h1
  · simp only; rw [hE 4 (fun e => by have := hN.obj; rw [← e, h4] at this; cases this) (fun e => by rw [← e, h4] at ht; cases ht) (by rw [h4]; rfl)]; exact h4
  · simp only at h'
    by_cases e : k' = p
    · subst e
      have hlt' := (List.getElem?_eq_some_iff.1 hL).1
      rw [List.getElem?_set_self hlt'] at h'
      cases h'
      have := hlens k' L hL
      simp; omega
    · rw [List.getElem?_set_ne (Ne.symm e)] at h'
      have := hlens k' L' h'
      omega

theorem NestOk.push {heap heap' : List (Nat × AObj)} {N N' P P' q : Nat} {qs : List Nat} {Ls : List (List Int)} (h : NestOk heap N P qs Ls) (hlt : ∀ j o, alGet heap j = some o → j < q) (hP : alGet heap' P' = some (.rows 1 (tipRows (qs ++ [q]) (Ls ++ [[]])))) (hq : alGet heap' q = some (.tip 1 0))
    (hE : ∀ (k q' : Nat), qs[k]? = some q' → (alGet heap q').isSome = true → alGet heap' q' = alGet heap q') : NestOk heap' N' P' (qs ++ [q]) (Ls ++ [[]]) := by
  have hold : ∀ (k q' : Nat), qs[k]? = some q' → q' < q := fun k q' hk => by
    have hl : k < Ls.length := by rw [← h.len]; exact (List.getElem?_eq_some_iff.1 hk).1
    exact hlt q' _ (h.tip k q' Ls[k] hk (by simp))
  refine ⟨hP, fun k q' L h1 h2 => ?_, by simp [h.len], fun i j q' h1 h2 => ?_⟩
  · rcases Nat.lt_or_ge k qs.length with hk | hk
    · rw [List.getElem?_append_left hk] at h1
      rw [List.getElem?_append_left (by rw [← h.len]; exact hk)] at h2
      have := h.tip k q' L h1 h2
      rw [hE k q' h1 (by rw [this]; rfl)]; exact this
    · rw [List.getElem?_append_right hk] at h1
      rw [List.getElem?_append_right (by rw [← h.len]; exact hk)] at h2
      rw [← h.len] at h2
      cases hd : k - qs.length with
      | zero => rw [hd] at h1 h2; simp at h1 h2; subst h1 h2; exact hq
      | succ n => rw [hd] at h1; simp at h1
  · have key : ∀ k, (qs ++ [q])[k]? = some q' → (k < qs.length ∧ qs[k]? = some q') ∨ (k = qs.length ∧ q' = q) := fun k hk => by
      rcases Nat.lt_or_ge k qs.length with hlt | hge
      · rw [List.getElem?_append_left hlt] at hk; exact .inl ⟨hlt, hk⟩
      · rw [List.getElem?_append_right hge] at hk
        cases hd : k - qs.length with
        | zero => rw [hd] at hk; simp at hk; exact .inr ⟨by omega, hk.symm⟩
        | succ n => rw [hd] at hk; simp at hk
    rcases key i h1 with ⟨a1, a2⟩ | ⟨a1, a2⟩ <;> rcases key j h2 with ⟨b1, b2⟩ | ⟨b1, b2⟩
    · exact h.nd i j q' a2 b2
    · have := hold i q' a2; omega
    · have := hold j q' b2; omega
    · omega

theorem NestOk.frame {heap : List (Nat × AObj)} {N N' P : Nat} {qs : List Nat} {Ls : List (List Int)} (h : NestOk heap N P qs Ls) (x : Nat) (hx : x ≠ P) (hx2 : ∀ sz len, alGet heap x ≠ some (.tip sz len)) (o : AObj) : NestOk (alSet heap x o) N' P qs Ls :=
  ⟨by rw [alGet_alSet, if_neg hx]; exact h.obj, fun k q L h1 h2 => by
    have := h.tip k q L h1 h2
    rw [alGet_alSet, if_neg (fun e => hx2 _ _ (by rw [e]; exact this))]; exact this, h.len, h.nd⟩

theorem lt_alSet {heap : List (Nat × AObj)} {N N' x : Nat} {o : AObj} (h : ∀ j o, alGet heap j = some o → j < N) (hN : N ≤ N') (hx : x < N') : ∀ j o', alGet (alSet heap x o) j = some o' → j < N' := fun j o' hj => by
  rw [alGet_alSet] at hj
  split at hj
  · omega
  · have := h j o' hj; omega

theorem g_end {heap : List (Nat × AObj)} {N P : Nat} {qs : List Nat} {Ls : List (List Int)} {above : List Int} (h : NestOk heap N P qs Ls) (hmin : 9 ≤ N) (hlt : ∀ j o, alGet heap j = some o → j < N) (p0 : P ≠ 0) (p1 : P ≠ 1) (h0 : alGet heap 0 = some (.rows 1 (rowsA rowI above))) (h1 : alGet heap 1 = some (.rows 1 [[F29]])) :
    Weak ⟨[(0, .mslice P 0 Ls.length)], heap, N⟩ ⟨[(0, .imm (.slice (List.map (rowL rowI) Ls)))], [(0, .rows 1 (rowsA rowI above)), (1, .rows 1 [[F29]])], 2⟩ := by
  have w1 := weak_les (st := ⟨[(0, .mslice P 0 Ls.length)], heap, N⟩) P 1 (tipRows qs Ls) (rowsA (rowL rowI) Ls) h.obj (tipRows_le qs Ls h.len)
  have w2 := weak_freeze (st := ⟨[(0, .mslice P 0 Ls.length)], alSet heap P (.rows 1 (rowsA (rowL rowI) Ls)), N⟩) P 1 0 Ls.length (List.map (rowL rowI) Ls) (List.map (rowL rowI) Ls) [] _ (by simp only; rw [alGet_alSet, if_pos rfl]) (imm_rowsA _ _) (frz_all _ _) (by
    have e1 : ∀ hp : List (Nat × AObj), occH P 0 Ls.length [] hp = [] := fun hp => by
      induction hp with
      | nil => rfl
      | cons a l ih => obtain ⟨k, o⟩ := a; simp only [occH, ih]; simp
    rw [e1]
    simp only [List.append_nil, occE, occAV, occLeaf, if_pos]
    exact .cons (by simp) .nil)
  have w3 := (Weak.andThen w1 w2 (Nat.le_refl _))
  refine Weak.andThen w3 (weak_of (by simp only; omega) ?_ ?_) (by simp only; omega)
  · intro p hp
    simp only [List.mem_cons, List.not_mem_nil, or_false] at hp
    subst hp
    exact ⟨by simp [frzE, frzAV, frzLeaf], rfl⟩
  · intro p hp
    simp only [List.mem_cons, List.not_mem_nil, or_false] at hp
    rcases hp with rfl | rfl
    · refine ⟨?_, by simp, rowsA_below _ _ _ _⟩
      simp only [alGet_frzH, alGet_alSet, if_neg p0, h0, Option.map_some, if_neg (Ne.symm p0)]
      simp
    · refine ⟨?_, by simp, objB_below (by kernel_rfl)⟩
      simp only [alGet_frzH, alGet_alSet, if_neg p1, h1, Option.map_some, if_neg (Ne.symm p1)]
      simp

set_option maxHeartbeats 4000000 in
theorem t_gather  (p1 : Int) (p2 : List Int) (res : List (List Int) × List Int) (hd : d_gather p1 p2 = some res) : DOk C0 33 [vI p1, .func 29 [] [.ptr 0 0 0, .ptr 1 0 0]] [(0, .rows 1 (rowsA rowI p2)), (1, .rows 1 [[.func 29 [] [.ptr 0 0 0, .ptr 1 0 0]]])] 2 (.imm (.slice (List.map (rowL rowI) res.1))) [(0, .rows 1 (rowsA rowI res.2)), (1, .rows 1 [[.func 29 [] [.ptr 0 0 0, .ptr 1 0 0]]])] 0 := by
  unfold d_gather at hd
  rcases grd hd with ⟨hn, hd⟩ | ⟨_, hd⟩
  case inr => cases hd
  have hn : p1 ≤ 1000000000000 := of_decide_eq_true hn
  obtain ⟨o, hl, hd⟩ := obind hd
  refine DOk.start hA33 (by simp [af33]) (.rows (by rfl) (.exp (by rfl) (by kernel_rfl) .nil)) (.rows (by rfl) (.exp (by rfl) (by kernel_rfl) .nil)) (by kernel_rfl) (by kernel_rfl) (by kernel_rfl) (by kernel_rfl) ?_
  show awp C0 _ af33.body (EndsD af33.results _ _ _) ⟨[(0, vI p1), (1, F29)], [(0, .rows 1 (rowsA rowI p2)), (1, .rows 1 [[F29]])], 2⟩
  refine awp_seq ?_
  refine reg_fast (st' := ⟨[(0, vI p1), (1, F29)], [(0, .rows 1 (rowsA rowI p2)), (1, .rows 1 [[F29]])], 3⟩) [] .nil ?_ (by kernel_rfl)
  refine then_n ?_
  refine awp_seq ?_
  refine reg_fast (st' := ⟨[(0, vI p1), (1, F29), (5, .nil)], [(0, .rows 1 (rowsA rowI p2)), (1, .rows 1 [[F29]])], 4⟩) [] .nil ?_ (by kernel_rfl)
  refine then_n ?_
  refine awp_seq ?_
  refine reg_fast (st' := ⟨[(0, vI p1), (1, F29), (5, .nil), (6, .map 4)], [(0, .rows 1 (rowsA rowI p2)), (1, .rows 1 [[F29]]), (4, .map [])], 6⟩) [] .nil ?_ (by kernel_rfl)
  refine then_n ?_
  refine awp_seq ?_
  refine awp_seq ?_
  refine reg_fast (st' := ⟨[(1, F29), (5, .nil), (6, .map 4), (10, vI p1), (11, vI 0)], [(0, .rows 1 (rowsA rowI p2)), (1, .rows 1 [[F29]]), (4, .map [])], 8⟩) [] .nil ?_ (by kernel_rfl)
  refine then_n ?_
  refine awp_block ?_
  refine awp_weak (weak_nilM (t := 5) 1 rfl) (by simp) ?_
  show awp C0 _ _ _ ⟨[(1, F29), (5, .mslice 8 0 0), (6, .map 4), (10, vI p1), (11, vI 0)], [(0, .rows 1 (rowsA rowI p2)), (1, .rows 1 [[F29]]), (4, .map []), (8, .rows 1 [])], 9⟩
  refine awp_forG hl GOk (GS p1) (fun i s c hok => hok.min) ⟨[(0, .rows 1 (rowsA rowI p2)), (1, .rows 1 [[F29]]), (4, .map []), (8, .rows 1 [])], 9, 8, []⟩ ?_ rfl (Weak.refl _) ?_ ?_
  · refine ⟨⟨rfl, fun k q L h1 => by simp at h1, rfl, fun i j q h1 => by simp at h1⟩, by simp, fun j o h => ?_, by simp, by simp, rfl, rfl, rfl, by simp, fun k L h => by simp at h⟩
    simp only [alGet] at h
    show j < 9
    repeat (split at h; omega)
    cases h
  · rintro i ⟨Ls, es, above⟩ ⟨heap, N, P, qs⟩ o hok hi hw hs
    obtain ⟨r, hr, hs⟩ := obind hs
    simp only at hr hs
    show awp C0 _ _ _ ⟨[(1, F29), (5, .mslice P 0 Ls.length), (6, .map 4), (10, vI p1), (11, vI (i : Int))], heap, N⟩
    refine awp_seq ?_
    refine reg_fast (st' := ⟨[(1, F29), (5, .mslice P 0 Ls.length), (6, .map 4), (10, vI p1), (11, vI (i : Int)), (12, vB (decide ((i : Int) < p1)))], heap, N + 1⟩) [] .nil ?_ (by kernel_rfl)
    refine then_n ?_
    refine awp_seq ?_
    refine awp_ifT (by simp [*]) ?_
    refine awp_skip ?_
    refine then_n ?_
    refine awp_seq ?_
    refine awp_block ?_
    refine awp_seq ?_
    refine reg_fast (st' := ⟨[(1, F29), (5, .mslice P 0 Ls.length), (6, .map 4), (10, vI p1), (11, vI (i : Int)), (7, vI (i : Int))], heap, N + 3⟩) [] .nil ?_ (by kernel_rfl)
    refine then_n ?_
    refine awp_seq ?_
    have hmin := hok.min
    simp only at hmin
    refine g_call (i : Int) above r hr _ _ _ heap (N + 3) (by omega) hok.h0 hok.h1 _ ?_
    refine then_n ?_
    refine awp_seq ?_
    refine awp_seq ?_
    refine reg_fast (st' := ⟨[(1, F29), (5, .mslice P 0 Ls.length), (6, .map 4), (10, vI p1), (11, vI (i : Int)), (7, vI (i : Int)), (8, vI r.1), (19, vB (r.1 == (i : Int)))], alSet heap 0 (.rows 1 (rowsA rowI r.2)), N + 10⟩) [] .nil ?_ (by kernel_rfl)
    refine then_n ?_
    have hnest0 : NestOk (alSet heap 0 (.rows 1 (rowsA rowI r.2))) (N + 10) P qs Ls := hok.nest.frame 0 (Ne.symm hok.p0) (fun sz len e => by have := hok.h0; simp only at this; rw [this] at e; cases e) _
    have hlt0 : ∀ j o, alGet (alSet heap 0 (.rows 1 (rowsA rowI r.2))) j = some o → j < N + 10 := lt_alSet hok.lt (by simp only; omega) (by omega)
    have hPN : P < N := hok.lt _ _ hok.nest.obj
    have P4 : P ≠ 4 := fun e => by have h1 := hok.nest.obj; have h2 := hok.h4; simp only at h1 h2; rw [e, h2] at h1; cases h1
    have g0 : alGet (alSet heap 0 (.rows 1 (rowsA rowI r.2))) 0 = some (.rows 1 (rowsA rowI r.2)) := by rw [alGet_alSet, if_pos rfl]
    have g1 : alGet (alSet heap 0 (.rows 1 (rowsA rowI r.2))) 1 = some (.rows 1 [[F29]]) := by rw [alGet_alSet, if_neg (by omega)]; exact hok.h1
    have g4 : alGet (alSet heap 0 (.rows 1 (rowsA rowI r.2))) 4 = some (.map (entsA IV.i64 IV.i64 es)) := by rw [alGet_alSet, if_neg (by omega)]; exact hok.h4
    have hlen := hok.len
    have hlens := hok.lens
    simp only at hlen hlens
    have hp0 := hok.p0
    have hp1 := hok.p1
    simp only at hp0 hp1
    generalize alSet heap 0 (.rows 1 (rowsA rowI r.2)) = heap0 at *
    have hrl := tipRows_len hnest0.len
    refine awp_if (r.1 == (i : Int)) rfl (fun g => ?_) (fun g => ?_)
    · replace hs := cond_t g hs
      cases hs
      have gi : r.1 = (i : Int) := by simpa using g
      rw [gi]
      refine awp_seq ?_
      refine g_upd (i : Int) (i : Int) _ _ _ _ heap0 (N + 10) P Ls.length es (tipRows qs Ls) hnest0.obj g4 _ ?_
      refine then_n ?_
      have hP1 : alGet (alSet heap0 4 (.map (entsA IV.i64 IV.i64 (mset (i : Int) (Ls.length : Int) es)))) P = some (.rows 1 (tipRows qs Ls)) := by rw [alGet_alSet, if_neg (Ne.symm P4)]; exact hnest0.obj
      refine g_app _ _ _ _ _ _ _ (N + 15) P Ls.length (tipRows qs Ls) hrl.symm (by omega) hP1 (by omega) _ ?_
      refine then_n ?_
      refine awp_weak (weak_nilO (N + 17) 1 1 (tipRows qs Ls ++ [[.nil]]) Ls.length 0 [.nil] (by simp only; rw [alGet_alSet, if_pos rfl]) (by rw [← hrl]; simp) rfl) (by simp) ?_
      have erow : (tipRows qs Ls ++ [[AV.nil]]).set Ls.length ([AV.nil].set 0 (.gslice (N + 19) [])) = tipRows (qs ++ [N + 19]) (Ls ++ [[]]) := by
        rw [tipRows_app qs Ls (N + 19) [] hnest0.len, ← hrl]
        simp
      simp only
      rw [show N + 15 + 4 = N + 19 from rfl, show N + 15 + 2 = N + 17 from rfl, show N + 15 + 1 = N + 16 from rfl, erow]
      generalize hH : alSet (alSet (alSet (alSet (alSet (alSet heap0 4 (.map (entsA IV.i64 IV.i64 (mset (i : Int) (Ls.length : Int) es)))) (N + 16) (.rows 1 [[.nil]])) P .dead) (N + 17) (.rows 1 (tipRows qs Ls ++ [[.nil]]))) (N + 19) (.tip 1 0)) (N + 17) (.rows 1 (tipRows (qs ++ [N + 19]) (Ls ++ [[]]))) = heap4
      have ag : ∀ j, alGet heap4 j = if N + 17 = j then some (.rows 1 (tipRows (qs ++ [N + 19]) (Ls ++ [[]]))) else if N + 19 = j then some (.tip 1 0) else if P = j then some .dead else if N + 16 = j then some (.rows 1 [[.nil]]) else if 4 = j then some (.map (entsA IV.i64 IV.i64 (mset (i : Int) (Ls.length : Int) es))) else alGet heap0 j := fun j => by
        rw [← hH]
        simp only [alGet_alSet]
        split
        · rfl
        · split
          · rfl
          · rfl
      have n4 : NestOk heap4 (N + 20) (N + 17) (qs ++ [N + 19]) (Ls ++ [[]]) := hnest0.push (fun j o h => by have := hlt0 j o h; omega) (by rw [ag, if_pos rfl]) (by rw [ag, if_neg (by omega), if_pos rfl]) (fun k q' hk ho => by
        obtain ⟨o', ho'⟩ := Option.isSome_iff_exists.1 ho
        have hq' := hlt0 _ _ ho'
        have hl : k < Ls.length := by rw [← hnest0.len]; exact (List.getElem?_eq_some_iff.1 hk).1
        have ht := hnest0.tip k q' Ls[k] hk (by simp)
        rw [ag, if_neg (by omega), if_neg (by omega), if_neg (fun e => by rw [← e, hnest0.obj] at ht; cases ht), if_neg (by omega), if_neg (fun e => by rw [← e, g4] at ht; cases ht)])
      have lt4 : ∀ j o, alGet heap4 j = some o → j < N + 20 := by
        rw [← hH]
        exact lt_alSet (lt_alSet (lt_alSet (lt_alSet (lt_alSet (lt_alSet hlt0 (N' := N + 20) (by omega) (by omega)) (Nat.le_refl _) (by omega)) (Nat.le_refl _) (by omega)) (Nat.le_refl _) (by omega)) (Nat.le_refl _) (by omega)) (Nat.le_refl _) (by omega)
      have k0 : alGet heap4 0 = some (.rows 1 (rowsA rowI r.2)) := by rw [ag, if_neg (by omega), if_neg (by omega), if_neg hp0, if_neg (by omega), if_neg (by omega)]; exact g0
      have k1 : alGet heap4 1 = some (.rows 1 [[F29]]) := by rw [ag, if_neg (by omega), if_neg (by omega), if_neg hp1, if_neg (by omega), if_neg (by omega)]; exact g1
      have k4 : alGet heap4 4 = some (.map (entsA IV.i64 IV.i64 (mset (i : Int) (Ls.length : Int) es))) := by rw [ag, if_neg (by omega), if_neg (by omega), if_neg P4, if_neg (by omega), if_pos rfl]
      have hr4 : (tipRows (qs ++ [N + 19]) (Ls ++ [[]]))[Ls.length]? = some [.gslice (N + 19) (([] : List Int).map rowI)] := tipRows_get (by rw [← hnest0.len]; simp) (by simp)
      refine g_draw (i : Int) (i : Int) _ _ heap4 (N + 20) (N + 17) (Ls.length + 1) Ls.length (N + 19) _ _ [] (by rw [tipRows_len n4.len]; simp) lt4 n4.obj k4 (by rw [mget_mset]; rfl) hr4 (by rw [ag, if_neg (by omega), if_pos rfl]; rfl) (by simp) _ ?_
      refine inb_n ?_
      refine then_n ?_
      refine g_inc _ _ _ _ _ _ _ _ ?_
      rw [hw]
      have G := gok_draw (p := Ls.length) (q := N + 19) (L := []) n4 (by omega) lt4 (by omega) (by omega) k0 k1 k4 (by simp; omega) (fun k L hk => by
        rcases Nat.lt_or_ge k Ls.length with hlt | hge
        · rw [List.getElem?_append_left hlt] at hk; exact hlens k L hk
        · rw [List.getElem?_append_right hge] at hk
          cases hd : k - Ls.length with
          | zero => rw [hd] at hk; simp at hk; subst hk; simp
          | succ n => rw [hd] at hk; simp at hk) (by simp) (by rw [← hnest0.len]; simp)
      have eL : (Ls ++ [([] : List Int)]).set Ls.length ([] ++ [(i : Int)]) = Ls ++ [[(i : Int)]] := by simp
      rw [eL] at G
      refine ⟨_, _, rfl, G, ?_⟩
      have hc : ((i : Int) + 1) = ((i + 1 : Nat) : Int) := rfl
      rw [hc]
      simp only [GS, List.length_set, List.length_append, List.length_cons, List.length_nil]
      exact Weak.refl _
    · replace hs := cond_f g hs
      obtain ⟨L, hL, hs⟩ := obind hs
      cases hs
      obtain ⟨z0, z1, z2, z3, _⟩ := idxI_some hL
      refine awp_skip ?_
      refine then_n ?_
      have hql : ((mget r.1 es).getD 0).toNat < qs.length := by rw [hnest0.len]; exact z2
      have hq1 : qs[((mget r.1 es).getD 0).toNat]? = some qs[((mget r.1 es).getD 0).toNat] := by simp
      have hLl := hlens _ _ z1
      refine awp_weak (weak_envA [(1, F29), (5, .mslice P 0 Ls.length), (6, .map 4), (10, vI p1), (11, vI (i : Int)), (7, vI (i : Int)), (8, vI r.1)] [(19, vB (r.1 == (i : Int)))] heap0 (N + 10)) (Nat.le_refl _) ?_
      refine g_draw (i : Int) r.1 _ _ heap0 (N + 10) P Ls.length ((mget r.1 es).getD 0).toNat qs[((mget r.1 es).getD 0).toNat] es _ L hrl.symm hlt0 hnest0.obj g4 (by omega) (tipRows_get hq1 z1) (hnest0.tip _ _ _ hq1 z1) (by omega) _ ?_
      refine inb_n ?_
      refine then_n ?_
      refine g_inc _ _ _ _ _ _ _ _ ?_
      rw [hw]
      have G := gok_draw hnest0 (by omega) hlt0 hp0 hp1 g0 g1 g4 (by omega) hlens z1 hq1
      refine ⟨_, _, rfl, G, ?_⟩
      have hc : ((i : Int) + 1) = ((i + 1 : Nat) : Int) := rfl
      rw [hc]
      simp only [GS, List.length_set, List.length_append, List.length_cons, List.length_nil]
      exact Weak.refl _
  · rintro m ⟨Ls, es, above⟩ ⟨heap, N, P, qs⟩ hok hm ho
    subst ho
    have ee := Option.some.inj hd; subst ee
    show awp C0 _ _ _ ⟨[(1, F29), (5, .mslice P 0 Ls.length), (6, .map 4), (10, vI p1), (11, vI (m : Int))], heap, N⟩
    refine awp_seq ?_
    refine reg_fast (st' := ⟨[(1, F29), (5, .mslice P 0 Ls.length), (6, .map 4), (10, vI p1), (11, vI (m : Int)), (12, vB (decide ((m : Int) < p1)))], heap, N + 1⟩) [] .nil ?_ (by kernel_rfl)
    refine then_n ?_
    refine awp_seq ?_
    refine awp_ifF (by simp [*]) ?_
    refine awp_exit ?_
    refine then_x ?_
    refine then_x ?_
    refine inb_eq ?_
    refine then_n ?_
    refine awp_seq ?_
    refine reg_fast (st' := ⟨[(4, .mslice P 0 Ls.length)], heap, N + 3⟩) [] .nil ?_ (by kernel_rfl)
    refine then_n ?_
    refine awp_ret ?_
    have hlt := hok.lt
    have hmin := hok.min
    simp only at hlt hmin
    exact ⟨_, rfl, g_end (N := N + 3) ⟨hok.nest.obj, hok.nest.tip, hok.nest.len, hok.nest.nd⟩ (by omega) (fun j o h => by have := hlt j o h; omega) hok.p0 hok.p1 hok.h0 hok.h1⟩

noncomputable def d_Components (c : ContractT) : Option (List (List Int)) :=
  (Option.bind (d_Valid c) fun r1 => (bif (r1.1 == 0) then (Option.bind (forR (σ := (List Int)) (ρ := Unit) (c.clauses.length : Int) (fun i1 s1 => (Option.bind (idxN 400 (i1 : Int)) fun k1 => (Option.bind (s1[k1]?) fun e1 => some (.inl (s1.set k1 (i1 : Int)))))) (List.replicate 400 0)) (Sum.elim (fun (s1 : (List Int)) => (Option.bind (d_31a c.acts) fun r2 => (Option.bind (forR (σ := (List Int) × (List (Int × Int))) (ρ := Unit) (c.clauses.length : Int) (fun i2 s2 => (Option.bind (idxI c.clauses (i2 : Int)) fun e2 => (Option.bind (bif r2 then (Option.bind (d_30a 0 (i2 : Int) s2.1) fun r3 => some r3) else some s2.1) fun (v1 : (List Int)) => (Option.bind (forR (σ := (List Int)) (ρ := Unit) (e2.start.length : Int) (fun i3 s3 => (Option.bind (idxI e2.start (i3 : Int)) fun e3 => (Option.bind (d_30a (i2 : Int) e3.clause s3) fun r4 => some (.inl r4)))) v1) (Sum.elim (fun (s3 : (List Int)) => (Option.bind (d_numbers e2) fun r5 => (Option.bind (forR (σ := (List Int) × (List (Int × Int))) (ρ := Unit) (r5.length : Int) (fun i4 s4 => (Option.bind (Option.bind (idxI r5 (i4 : Int)) fun e4 => (bif (mget e4 s4.2).isSome then (Option.bind (d_30a ((mget e4 s4.2).getD 0) (i2 : Int) s4.1) fun r6 => some (r6, s4.2)) else some (s4.1, (mset e4 (i2 : Int) s4.2)))) fun (v2 : (List Int) × (List (Int × Int))) => some (.inl (v2.1, v2.2)))) (s3, s2.2)) (Sum.elim (fun (s4 : (List Int) × (List (Int × Int))) => some (.inl (s4.1, s4.2))) (fun _ => none))))) (fun _ => none)))))) (s1, [])) (Sum.elim (fun (s2 : (List Int) × (List (Int × Int))) => (Option.bind (d_gather (c.clauses.length : Int) s2.1) fun r7 => some r7.1)) (fun _ => none))))) (fun _ => none))) else some []))
noncomputable def p_Components (c : ContractT) : Plan (List (List Int)) :=
  .reg 1 (.call 1206 (t_Valid c) fun r1 => .use 1 1206 (.ite 1138 (r1.1 == 0) (.sel 1139 (.reg 1 (.ln 1242 ClauseT.row c.clauses (.use 2 1242 (.forR (σ := (List Int)) (ρ := Unit) 1140 29 (c.clauses.length : Int) (List.replicate 400 0) (⟨[1, 5, 28], fun _ => [], [0], fun s1 => [(11, .rows 1 (rowsA rowI s1))], 16, fun _ => (.rows rfl .nil)⟩) (fun i1 s1 => .sel 1140 (.reg 1 (.b1 1208 (idxN 400 (i1 : Int)) (fun k1 => .k k1) (fun k1 hk1 => (midx_side hk1)) fun k1 => .b1 1210 (s1[k1]?) (fun e1 => .aw (rowA (rowI e1)) (rowsA rowI (s1.set k1 (i1 : Int)))) (fun e1 he1 => (sto_side rowI (i1 : Int) he1)) fun e1 => .us [(2, 1208), (3, 1210)] (.ret (.inl (s1.set k1 (i1 : Int))))))) fun os1 => .case os1 (fun s1 => .sel 1140 (.reg 3 (.b1 1212 (d_31a c.acts) (fun r2 => .c [] 0 (vB r2) [] 0) (fun r2 hr2 => (call_side (t_31a c.acts r2 hr2) [] 24 .nil rhN rhN)) fun r2 => .use 2 1212 (.reg 1 (.ln 1240 ClauseT.row c.clauses (.use 2 1240 (.forR (σ := (List Int) × (List (Int × Int))) (ρ := Unit) 1154 45 (c.clauses.length : Int) (s1, []) (⟨[1, 7, 8, 9, 10, 43, 44], fun _ => [], [0, 17], fun s2 => [(11, .rows 1 (rowsA rowI s2.1)), (26, .map (entsA IV.i64 IV.i64 s2.2))], 32, fun _ => (.rows rfl (.ents rfl .nil))⟩) (fun i2 s2 => .sel 1154 (.reg 0 (.ix 1214 ClauseT.row c.clauses (i2 : Int) fun e2 => .use 1 1214 (.cut (β := (List Int)) 1 (⟨[1, 7, 8, 9, 10, 43, 44, 45, 12, 11], fun _ => [], [0, 17, 36], fun v1 => [(11, .rows 1 (rowsA rowI v1)), (26, .map (entsA IV.i64 IV.i64 s2.2))], 40, fun _ => (.rows rfl (.ents rfl .nil))⟩) (.ite 1196 r2 (.sel 1196 (.reg 0 (.b1 1216 (d_30a 0 (i2 : Int) s2.1) (fun r3 => .c [17, 11] 2 (.tuple []) [(11, .rows 1 (rowsA rowI r3))] 0) (fun r3 hr3 => (call_side (t_30a 0 (i2 : Int) s2.1 r3 hr3) [17, 11] 42 (.drop rfl rfl (.keep .nil)) (rhR (rhI rhN)) (rhI rhN))) fun r3 => .use 2 1216 (.ret r3)))) (.sel 1196 (.ret s2.1))) fun v1 => .reg 0 (.ln 1234 CondT.row e2.start (.use 2 1234 (.forR (σ := (List Int)) (ρ := Unit) 1198 57 (e2.start.length : Int) v1 (⟨[1, 7, 8, 9, 10, 43, 44, 45, 12, 11, 55, 56], fun _ => [], [0, 17, 36], fun s3 => [(11, .rows 1 (rowsA rowI s3)), (26, .map (entsA IV.i64 IV.i64 s2.2))], 44, fun _ => (.rows rfl (.ents rfl .nil))⟩) (fun i3 s3 => .sel 1198 (.reg 0 (.ix 1218 CondT.row e2.start (i3 : Int) fun e3 => .use 0 1218 (.reg 0 (.b1 1220 (d_30a (i2 : Int) e3.clause s3) (fun r4 => .c [17, 11] 2 (.tuple []) [(11, .rows 1 (rowsA rowI r4))] 0) (fun r4 hr4 => (call_side (t_30a (i2 : Int) e3.clause s3 r4 hr4) [17, 11] 53 (.drop rfl rfl (.keep .nil)) (rhR (rhI rhN)) (rhI rhN))) fun r4 => .use 4 1220 (.ret (.inl r4))))))) fun os3 => .case os3 (fun s3 => .sel 1198 (.reg 0 (.call 1222 (t_numbers e2) fun r5 => .use 1 1222 (.ln 1232 rowI r5 (.use 2 1232 (.forR (σ := (List Int) × (List (Int × Int))) (ρ := Unit) 1200 70 (r5.length : Int) (s3, s2.2) (⟨[1, 7, 8, 9, 10, 43, 44, 45, 11, 68, 69], fun _ => [], [0, 17], fun s4 => [(11, .rows 1 (rowsA rowI s4.1)), (26, .map (entsA IV.i64 IV.i64 s4.2))], 49, fun _ => (.rows rfl (.ents rfl .nil))⟩) (fun i4 s4 => .sel 1200 (.cut (β := (List Int) × (List (Int × Int))) 1 (⟨[1, 7, 8, 9, 10, 43, 44, 45, 11, 68, 69, 70], fun _ => [], [0, 17], fun v2 => [(11, .rows 1 (rowsA rowI v2.1)), (26, .map (entsA IV.i64 IV.i64 v2.2))], 66, fun _ => (.rows rfl (.ents rfl .nil))⟩) (.reg 0 (.ix 1224 rowI r5 (i4 : Int) fun e4 => .use 0 1224 (.reg 0 (.f1 1230 (.l (vI ((mget e4 s4.2).getD 0)) ((mget e4 s4.2).isSome)) (look_side IV.i64 0 e4 s4.2) (.use 2 1230 (.ite 1204 ((mget e4 s4.2).isSome) (.sel 1204 (.reg 0 (.b1 1226 (d_30a ((mget e4 s4.2).getD 0) (i2 : Int) s4.1) (fun r6 => .c [17, 11] 2 (.tuple []) [(11, .rows 1 (rowsA rowI r6))] 0) (fun r6 hr6 => (call_side (t_30a ((mget e4 s4.2).getD 0) (i2 : Int) s4.1 r6 hr6) [17, 11] 65 (.drop rfl rfl (.keep .nil)) (rhR (rhI rhN)) (rhI rhN))) fun r6 => .use 3 1226 (.ret (r6, s4.2))))) (.sel 1204 (.reg 0 (.f1 1228 (.u (entsA IV.i64 IV.i64 (mset e4 (i2 : Int) s4.2))) (upd_side IV.i64 e4 (i2 : Int) s4.2) (.use 3 1228 (.ret (s4.1, (mset e4 (i2 : Int) s4.2))))))))))))) fun v2 => .ret (.inl (v2.1, v2.2)))) fun os4 => .case os4 (fun s4 => .sel 1200 (.ret (.inl (s4.1, s4.2)))) fun _ => .none)))))) fun _ => .none))))))) fun os2 => .case os2 (fun s2 => .sel 1154 (.reg 0 (.b1 1236 (d_gather (c.clauses.length : Int) s2.1) (fun r7 => .c [11, 17] 2 (.imm (.slice (List.map (rowL rowI) r7.1))) [(11, .rows 1 (rowsA rowI r7.2))] 0) (fun r7 hr7 => (call_side (t_gather (c.clauses.length : Int) s2.1 r7 hr7) [11, 17] 37 (.keep (.drop rfl rfl .nil)) (rhI (rhR rhN)) (rhI rhN))) fun r7 => .ln 1238 ClauseT.row c.clauses (.us [(2, 1238), (4, 1236)] (.ret r7.1))))) fun _ => .none))))))) fun _ => .none))))) (.sel 1139 (.ret []))))
theorem t_Components (c : ContractT) (res : List (List Int)) (hd : d_Components c = some res) : APure C0 13 [.agg (ContractT.row c)] (.slice (List.map (rowL rowI) res)) :=
  Plan.pure (iv := fun res => .slice (List.map (rowL rowI) res)) (p_Components c) (by kernel_rfl) (Plan.run_of hd (by kernel_rfl))

noncomputable def d_zero  : Option Ratio :=
  some ({ num := 0, den := 1 } : Ratio)
noncomputable def p_zero  : Plan Ratio :=
  .ret ({ num := 0, den := 1 } : Ratio)
theorem t_zero  (res : Ratio) (hd : d_zero  = some res) : APure C0 21 [] (.agg (Ratio.row res)) :=
  Plan.pure (iv := fun res => .agg (Ratio.row res)) (p_zero ) (by kernel_rfl) (Plan.run_of hd (by kernel_rfl))

noncomputable def d_9a (p1 : Int) (p2 : Int) : Option (Int × Int) :=
  (Option.bind (d_zero) fun r1 => some (r1.num, r1.den))
noncomputable def p_9a (p1 : Int) (p2 : Int) : Plan (Int × Int) :=
  .reg 1 (.call 1244 t_zero fun r1 => .use 3 1244 (.finL (.agg [vI p1, vI 0, vI p2, vI 1, .nil, vI 3, vI 0, vB false, vB false, vI (-1), vI (-1), vI r1.num, vI r1.den, vI (-1), vI (-1), vB false]) (.agg ([vI p1, vI 0, vI p2, vI 1, .imm (.slice (List.map CondT.row [])), vI 3, vI 0, vB false, vB false, vI (-1), vI (-1), vI r1.num, vI r1.den, vI (-1), vI (-1), vB false])) (.one (.agg (.cons (.refl _) (.cons (.refl _) (.cons (.refl _) (.cons (.refl _) (.cons .nil (.cons (.refl _) (.cons (.refl _) (.cons (.refl _) (.cons (.refl _) (.cons (.refl _) (.cons (.refl _) (.cons (.refl _) (.cons (.refl _) (.cons (.refl _) (.cons (.refl _) (.cons (.refl _) .nil)))))))))))))))))) (r1.num, r1.den)))
theorem t_9a (p1 : Int) (p2 : Int) (res : Int × Int) (hd : d_9a p1 p2 = some res) : DOk C0 9 [vI p1, vI p2, .nil] [] 0 (.agg ([vI p1, vI 0, vI p2, vI 1, .imm (.slice (List.map CondT.row [])), vI 3, vI 0, vB false, vB false, vI (-1), vI (-1), vI res.1, vI res.2, vI (-1), vI (-1), vB false])) [] 0 :=
  Plan.det (R := fun res => .agg ([vI p1, vI 0, vI p2, vI 1, .imm (.slice (List.map CondT.row [])), vI 3, vI 0, vB false, vB false, vI (-1), vI (-1), vI res.1, vI res.2, vI (-1), vI (-1), vB false])) (H := fun res => []) (p_9a p1 p2) .nil (fun _ => .nil) (by kernel_rfl) (fun _ => by kernel_rfl) (by kernel_rfl) (Plan.run_of hd (by kernel_rfl))

noncomputable def d_17a  : Option ((List ActT) × Int × Int × Int × Int × Int × Int) :=
  (Option.bind (d_zero) fun r1 => (Option.bind (d_zero) fun r2 => (Option.bind (d_9a 1 0) fun r3 => (Option.bind (d_9a 2 1) fun r4 => (Option.bind (d_9a 3 1) fun r5 => some ([({ kind := 1, role := 0, give := 0, to := (-1), unit := (-1), lot := r1 } : ActT), ({ kind := 1, role := 0, give := 0, to := (-1), unit := (-1), lot := r2 } : ActT)], r3.1, r3.2, r4.1, r4.2, r5.1, r5.2))))))
noncomputable def p_17a  : Plan ((List ActT) × Int × Int × Int × Int × Int × Int) :=
  .reg 1 (.call 1246 t_zero fun r1 => .call 1248 t_zero fun r2 => .b1 1250 (d_9a 1 0) (fun r3 => .c [] 0 (.agg ([vI 1, vI 0, vI 0, vI 1, .imm (.slice (List.map CondT.row [])), vI 3, vI 0, vB false, vB false, vI (-1), vI (-1), vI r3.1, vI r3.2, vI (-1), vI (-1), vB false])) [] 0) (fun r3 hr3 => (call_side (t_9a 1 0 r3 hr3) [] 7 .nil rhN rhN)) fun r3 => .b1 1252 (d_9a 2 1) (fun r4 => .c [] 0 (.agg ([vI 2, vI 0, vI 1, vI 1, .imm (.slice (List.map CondT.row [])), vI 3, vI 0, vB false, vB false, vI (-1), vI (-1), vI r4.1, vI r4.2, vI (-1), vI (-1), vB false])) [] 0) (fun r4 hr4 => (call_side (t_9a 2 1 r4 hr4) [] 8 .nil rhN rhN)) fun r4 => .b1 1254 (d_9a 3 1) (fun r5 => .c [] 0 (.agg ([vI 3, vI 0, vI 1, vI 1, .imm (.slice (List.map CondT.row [])), vI 3, vI 0, vB false, vB false, vI (-1), vI (-1), vI r5.1, vI r5.2, vI (-1), vI (-1), vB false])) [] 0) (fun r5 hr5 => (call_side (t_9a 3 1 r5 hr5) [] 9 .nil rhN rhN)) fun r5 => .us [(1, 1246), (3, 1248), (6, 1250), (7, 1252), (8, 1254)] (.weak 0 [wFrzA 1 1 [0] rowI [0], wFrzA 6 7 [0] ActT.row [({ kind := 1, role := 0, give := 0, to := (-1), unit := (-1), lot := r1 } : ActT), ({ kind := 1, role := 0, give := 0, to := (-1), unit := (-1), lot := r2 } : ActT)]] (.ret ([({ kind := 1, role := 0, give := 0, to := (-1), unit := (-1), lot := r1 } : ActT), ({ kind := 1, role := 0, give := 0, to := (-1), unit := (-1), lot := r2 } : ActT)], r3.1, r3.2, r4.1, r4.2, r5.1, r5.2))))
theorem t_17a  (res : (List ActT) × Int × Int × Int × Int × Int × Int) (hd : d_17a  = some res) : DOk C0 17 [] [] 0 (.agg ([vI 1, .imm (.slice (List.map rowI [0])), .nil, .imm (.slice (List.map ActT.row res.1)), .mslice 10 0 3, vI 9, .nil])) [(10, .rows 16 [[vI 1, vI 0, vI 0, vI 1, .imm (.slice (List.map CondT.row [])), vI 3, vI 0, vB false, vB false, vI (-1), vI (-1), vI res.2.1, vI res.2.2.1, vI (-1), vI (-1), vB false], [vI 2, vI 0, vI 1, vI 1, .imm (.slice (List.map CondT.row [])), vI 3, vI 0, vB false, vB false, vI (-1), vI (-1), vI res.2.2.2.1, vI res.2.2.2.2.1, vI (-1), vI (-1), vB false], [vI 3, vI 0, vI 1, vI 1, .imm (.slice (List.map CondT.row [])), vI 3, vI 0, vB false, vB false, vI (-1), vI (-1), vI res.2.2.2.2.2.1, vI res.2.2.2.2.2.2, vI (-1), vI (-1), vB false]])] 11 :=
  Plan.det (R := fun res => .agg ([vI 1, .imm (.slice (List.map rowI [0])), .nil, .imm (.slice (List.map ActT.row res.1)), .mslice 10 0 3, vI 9, .nil])) (H := fun res => [(10, .rows 16 [[vI 1, vI 0, vI 0, vI 1, .imm (.slice (List.map CondT.row [])), vI 3, vI 0, vB false, vB false, vI (-1), vI (-1), vI res.2.1, vI res.2.2.1, vI (-1), vI (-1), vB false], [vI 2, vI 0, vI 1, vI 1, .imm (.slice (List.map CondT.row [])), vI 3, vI 0, vB false, vB false, vI (-1), vI (-1), vI res.2.2.2.1, vI res.2.2.2.2.1, vI (-1), vI (-1), vB false], [vI 3, vI 0, vI 1, vI 1, .imm (.slice (List.map CondT.row [])), vI 3, vI 0, vB false, vB false, vI (-1), vI (-1), vI res.2.2.2.2.2.1, vI res.2.2.2.2.2.2, vI (-1), vI (-1), vB false]])]) (p_17a ) .nil (fun _ => (.exp rfl rfl .nil)) (by kernel_rfl) (fun _ => by kernel_rfl) (by kernel_rfl) (Plan.run_of hd (by kernel_rfl))

noncomputable def d_13a (p1 : Int) (p2 : List Int) (p3 : List ActT) (p4 : List ClauseT) (p5 : Int) : Option (List (List Int)) :=
  (Option.bind (d_Valid ({ parties := p1, holders := p2, units := [], acts := p3, clauses := p4, days := p5, off := [] } : ContractT)) fun r1 => (bif (r1.1 == 0) then (Option.bind (forR (σ := (List Int)) (ρ := Unit) (p4.length : Int) (fun i1 s1 => (Option.bind (idxN 400 (i1 : Int)) fun k1 => (Option.bind (s1[k1]?) fun e1 => some (.inl (s1.set k1 (i1 : Int)))))) (List.replicate 400 0)) (Sum.elim (fun (s1 : (List Int)) => (Option.bind (d_31a p3) fun r2 => (Option.bind (forR (σ := (List Int) × (List (Int × Int))) (ρ := Unit) (p4.length : Int) (fun i2 s2 => (Option.bind (idxN p4.length (i2 : Int)) fun k2 => (Option.bind (p4[k2]?) fun e2 => (Option.bind (bif r2 then (Option.bind (d_30a 0 (i2 : Int) s2.1) fun r3 => some r3) else some s2.1) fun (v1 : (List Int)) => (Option.bind (forR (σ := (List Int)) (ρ := Unit) (e2.start.length : Int) (fun i3 s3 => (Option.bind (idxI e2.start (i3 : Int)) fun e3 => (Option.bind (d_30a (i2 : Int) e3.clause s3) fun r4 => some (.inl r4)))) v1) (Sum.elim (fun (s3 : (List Int)) => (Option.bind (d_numbers e2) fun r5 => (Option.bind (forR (σ := (List Int) × (List (Int × Int))) (ρ := Unit) (r5.length : Int) (fun i4 s4 => (Option.bind (Option.bind (idxI r5 (i4 : Int)) fun e4 => (bif (mget e4 s4.2).isSome then (Option.bind (d_30a ((mget e4 s4.2).getD 0) (i2 : Int) s4.1) fun r6 => some (r6, s4.2)) else some (s4.1, (mset e4 (i2 : Int) s4.2)))) fun (v2 : (List Int) × (List (Int × Int))) => some (.inl (v2.1, v2.2)))) (s3, s2.2)) (Sum.elim (fun (s4 : (List Int) × (List (Int × Int))) => some (.inl (s4.1, s4.2))) (fun _ => none))))) (fun _ => none))))))) (s1, [])) (Sum.elim (fun (s2 : (List Int) × (List (Int × Int))) => (Option.bind (d_gather (p4.length : Int) s2.1) fun r7 => some r7.1)) (fun _ => none))))) (fun _ => none))) else some []))
noncomputable def p_13a (p1 : Int) (p2 : List Int) (p3 : List ActT) (p4 : List ClauseT) (p5 : Int) : Plan (List (List Int)) :=
  .reg 1 (.bind (d_Valid ({ parties := p1, holders := p2, units := [], acts := p3, clauses := p4, days := p5, off := [] } : ContractT)) (fun r1 => [(1282, ([.w [0] [.agg (ContractT.row ({ parties := p1, holders := p2, units := [], acts := p3, clauses := p4, days := p5, off := [] } : ContractT))] (.tuple [.int .i64 r1.1, .int .i64 r1.2])], _))]) (fun r1 hr1 => (.c2 (t_Valid ({ parties := p1, holders := p2, units := [], acts := p3, clauses := p4, days := p5, off := [] } : ContractT) r1 hr1) (snap_of [.agg [vI p1, .imm (.slice (List.map rowI p2)), .nil, .imm (.slice (List.map ActT.row p3)), .mslice 0 0 p4.length, vI p5, .nil]] [(0, .rows 16 (rowsA ClauseT.row p4))] [.agg (ContractT.row ({ parties := p1, holders := p2, units := [], acts := p3, clauses := p4, days := p5, off := [] } : ContractT))] (snapC (snapA (snapC (snapI _) (snapC (snapI _) (snapC rfl (snapC (snapI _) (snapC (snapO ClauseT.row 0 16 p4 rfl) (snapC (snapI _) (snapC rfl snapN)))))))) snapN)) .nil)) fun r1 => .use 1 1282 (.ite 1256 (r1.1 == 0) (.sel 1257 (.forR (σ := (List Int)) (ρ := Unit) 1258 29 (p4.length : Int) (List.replicate 400 0) (⟨[1, 5, 28], fun _ => [], [1], fun s1 => [(0, .rows 16 (rowsA ClauseT.row p4)), (12, .rows 1 (rowsA rowI s1))], 17, fun _ => (.rows rfl (.rows rfl .nil))⟩) (fun i1 s1 => .sel 1258 (.reg 1 (.b1 1284 (idxN 400 (i1 : Int)) (fun k1 => .k k1) (fun k1 hk1 => (midx_side hk1)) fun k1 => .b1 1286 (s1[k1]?) (fun e1 => .aw (rowA (rowI e1)) (rowsA rowI (s1.set k1 (i1 : Int)))) (fun e1 he1 => (sto_side rowI (i1 : Int) he1)) fun e1 => .us [(2, 1284), (3, 1286)] (.ret (.inl (s1.set k1 (i1 : Int))))))) fun os1 => .case os1 (fun s1 => .sel 1258 (.reg 3 (.b1 1288 (d_31a p3) (fun r2 => .c [] 0 (vB r2) [] 0) (fun r2 hr2 => (call_side (t_31a p3 r2 hr2) [] 25 .nil rhN rhN)) fun r2 => .use 2 1288 (.forR (σ := (List Int) × (List (Int × Int))) (ρ := Unit) 1260 45 (p4.length : Int) (s1, []) (⟨[1, 7, 8, 9, 10, 43, 44], fun _ => [], [1, 18], fun s2 => [(0, .rows 16 (rowsA ClauseT.row p4)), (12, .rows 1 (rowsA rowI s2.1)), (27, .map (entsA IV.i64 IV.i64 s2.2))], 33, fun _ => (.rows rfl (.rows rfl (.ents rfl .nil)))⟩) (fun i2 s2 => .sel 1260 (.reg 0 (.b1 1290 (idxN p4.length (i2 : Int)) (fun k2 => .k k2) (fun k2 hk2 => (midx_side hk2)) fun k2 => .b1 1292 (p4[k2]?) (fun e2 => .ar (rowA (ClauseT.row e2))) (fun e2 he2 => (row_side ClauseT.row he2)) fun e2 => .us [(1, 1290), (2, 1292)] (.cut (β := (List Int)) 1 (⟨[1, 7, 8, 9, 10, 43, 44, 45, 12, 11], fun _ => [], [1, 18, 37], fun v1 => [(0, .rows 16 (rowsA ClauseT.row p4)), (12, .rows 1 (rowsA rowI v1)), (27, .map (entsA IV.i64 IV.i64 s2.2))], 41, fun _ => (.rows rfl (.rows rfl (.ents rfl .nil)))⟩) (.ite 1272 r2 (.sel 1272 (.reg 0 (.b1 1294 (d_30a 0 (i2 : Int) s2.1) (fun r3 => .c [18, 12] 2 (.tuple []) [(12, .rows 1 (rowsA rowI r3))] 0) (fun r3 hr3 => (call_side (t_30a 0 (i2 : Int) s2.1 r3 hr3) [18, 12] 43 (.drop rfl rfl (.keep .nil)) (rhR (rhI rhN)) (rhI rhN))) fun r3 => .use 2 1294 (.ret r3)))) (.sel 1272 (.ret s2.1))) fun v1 => .reg 0 (.ln 1312 CondT.row e2.start (.use 2 1312 (.forR (σ := (List Int)) (ρ := Unit) 1274 57 (e2.start.length : Int) v1 (⟨[1, 7, 8, 9, 10, 43, 44, 45, 12, 11, 55, 56], fun _ => [], [1, 18, 37], fun s3 => [(0, .rows 16 (rowsA ClauseT.row p4)), (12, .rows 1 (rowsA rowI s3)), (27, .map (entsA IV.i64 IV.i64 s2.2))], 45, fun _ => (.rows rfl (.rows rfl (.ents rfl .nil)))⟩) (fun i3 s3 => .sel 1274 (.reg 0 (.ix 1296 CondT.row e2.start (i3 : Int) fun e3 => .use 0 1296 (.reg 0 (.b1 1298 (d_30a (i2 : Int) e3.clause s3) (fun r4 => .c [18, 12] 2 (.tuple []) [(12, .rows 1 (rowsA rowI r4))] 0) (fun r4 hr4 => (call_side (t_30a (i2 : Int) e3.clause s3 r4 hr4) [18, 12] 54 (.drop rfl rfl (.keep .nil)) (rhR (rhI rhN)) (rhI rhN))) fun r4 => .use 4 1298 (.ret (.inl r4))))))) fun os3 => .case os3 (fun s3 => .sel 1274 (.reg 0 (.call 1300 (t_numbers e2) fun r5 => .use 1 1300 (.ln 1310 rowI r5 (.use 2 1310 (.forR (σ := (List Int) × (List (Int × Int))) (ρ := Unit) 1276 70 (r5.length : Int) (s3, s2.2) (⟨[1, 7, 8, 9, 10, 43, 44, 45, 11, 68, 69], fun _ => [], [1, 18], fun s4 => [(0, .rows 16 (rowsA ClauseT.row p4)), (12, .rows 1 (rowsA rowI s4.1)), (27, .map (entsA IV.i64 IV.i64 s4.2))], 50, fun _ => (.rows rfl (.rows rfl (.ents rfl .nil)))⟩) (fun i4 s4 => .sel 1276 (.cut (β := (List Int) × (List (Int × Int))) 1 (⟨[1, 7, 8, 9, 10, 43, 44, 45, 11, 68, 69, 70], fun _ => [], [1, 18], fun v2 => [(0, .rows 16 (rowsA ClauseT.row p4)), (12, .rows 1 (rowsA rowI v2.1)), (27, .map (entsA IV.i64 IV.i64 v2.2))], 67, fun _ => (.rows rfl (.rows rfl (.ents rfl .nil)))⟩) (.reg 0 (.ix 1302 rowI r5 (i4 : Int) fun e4 => .use 0 1302 (.reg 0 (.f1 1308 (.l (vI ((mget e4 s4.2).getD 0)) ((mget e4 s4.2).isSome)) (look_side IV.i64 0 e4 s4.2) (.use 2 1308 (.ite 1280 ((mget e4 s4.2).isSome) (.sel 1280 (.reg 0 (.b1 1304 (d_30a ((mget e4 s4.2).getD 0) (i2 : Int) s4.1) (fun r6 => .c [18, 12] 2 (.tuple []) [(12, .rows 1 (rowsA rowI r6))] 0) (fun r6 hr6 => (call_side (t_30a ((mget e4 s4.2).getD 0) (i2 : Int) s4.1 r6 hr6) [18, 12] 66 (.drop rfl rfl (.keep .nil)) (rhR (rhI rhN)) (rhI rhN))) fun r6 => .use 3 1304 (.ret (r6, s4.2))))) (.sel 1280 (.reg 0 (.f1 1306 (.u (entsA IV.i64 IV.i64 (mset e4 (i2 : Int) s4.2))) (upd_side IV.i64 e4 (i2 : Int) s4.2) (.use 3 1306 (.ret (s4.1, (mset e4 (i2 : Int) s4.2))))))))))))) fun v2 => .ret (.inl (v2.1, v2.2)))) fun os4 => .case os4 (fun s4 => .sel 1276 (.ret (.inl (s4.1, s4.2)))) fun _ => .none)))))) fun _ => .none))))))) fun os2 => .case os2 (fun s2 => .sel 1260 (.reg 0 (.b1 1314 (d_gather (p4.length : Int) s2.1) (fun r7 => .c [12, 18] 2 (.imm (.slice (List.map (rowL rowI) r7.1))) [(12, .rows 1 (rowsA rowI r7.2))] 0) (fun r7 hr7 => (call_side (t_gather (p4.length : Int) s2.1 r7 hr7) [12, 18] 38 (.keep (.drop rfl rfl .nil)) (rhI (rhR rhN)) (rhI rhN))) fun r7 => .use 4 1314 (.ret r7.1)))) fun _ => .none)))) fun _ => .none)) (.sel 1257 (.finL .nil (.imm (.slice (List.map (rowL rowI) []))) (.one .nil) []))))
theorem t_13a (p1 : Int) (p2 : List Int) (p3 : List ActT) (p4 : List ClauseT) (p5 : Int) (res : (List (List Int))) (hd : d_13a p1 p2 p3 p4 p5 = some res) : DOk C0 13 [.agg [vI p1, .imm (.slice (List.map rowI p2)), .nil, .imm (.slice (List.map ActT.row p3)), .mslice 0 0 p4.length, vI p5, .nil]] [(0, .rows 16 (rowsA ClauseT.row p4))] 1 (.imm (.slice (List.map (rowL rowI) res))) [(0, .rows 16 (rowsA ClauseT.row p4))] 0 :=
  Plan.det (R := fun res => .imm (.slice (List.map (rowL rowI) res))) (H := fun res => [(0, .rows 16 (rowsA ClauseT.row p4))]) (p_13a p1 p2 p3 p4 p5) (.rows rfl .nil) (fun _ => (.rows rfl .nil)) (by kernel_rfl) (fun _ => by kernel_rfl) (by kernel_rfl) (Plan.run_of hd (by kernel_rfl))

noncomputable def d_35a  : Option Unit :=
  some ()
noncomputable def p_35a  : Plan Unit :=
  .ret ()
theorem t_35a  (res : Unit) (hd : d_35a  = some res) : DOk C0 35 [.nil] [] 0 (.nil) [] 0 :=
  Plan.det (R := fun res => .nil) (H := fun res => []) (p_35a ) .nil (fun _ => .nil) (by kernel_rfl) (fun _ => by kernel_rfl) (by kernel_rfl) (Plan.run_of hd (by kernel_rfl))

noncomputable def d_34a  : Option Unit :=
  some ()
noncomputable def p_34a  : Plan Unit :=
  .ret ()
theorem t_34a  (res : Unit) (hd : d_34a  = some res) : DOk C0 34 [.nil] [] 0 (.nil) [] 0 :=
  Plan.det (R := fun res => .nil) (H := fun res => []) (p_34a ) .nil (fun _ => .nil) (by kernel_rfl) (fun _ => by kernel_rfl) (by kernel_rfl) (Plan.run_of hd (by kernel_rfl))

noncomputable def d_15b (p1 : Int) (p2 : List Int) (p3 : List ActT) (p4 : List ClauseT) (p5 : Int) (p6 : List Int) : Option (Int × (List Int) × (List ActT) × (List ClauseT) × Int × Int) :=
  (Option.bind (d_Valid ({ parties := p1, holders := p2, units := [], acts := p3, clauses := p4, days := p5, off := [] } : ContractT)) fun r1 => (bif (r1.1 == 0) then (Option.bind (forR (σ := Int) (ρ := Unit) (p6.length : Int) (fun i1 s1 => (Option.bind (idxN p6.length (i1 : Int)) fun k1 => (Option.bind (p6[k1]?) fun e1 => (Option.bind (bif decide (e1 ≤ s1) then some true else some (decide ((p4.length : Int) ≤ e1))) fun v1 => (bif v1 then some (.inr ()) else some (.inl e1)))))) (-1)) (Sum.elim (fun (s1 : Int) => (Option.bind (cloneI 8 p2) fun e2 => (Option.bind (d_35a) fun r2 => (Option.bind (cloneI 56 p3) fun e3 => (Option.bind (d_34a) fun r3 => (Option.bind (mkN 136 (p6.length : Int)) fun k2 => (Option.bind (forR (σ := (List ClauseT)) (ρ := Unit) (p6.length : Int) (fun i2 s2 => (Option.bind (idxN p6.length (i2 : Int)) fun k3 => (Option.bind (p6[k3]?) fun e4 => (Option.bind (idxN p4.length e4) fun k4 => (Option.bind (p4[k4]?) fun e5 => (Option.bind (cloneI 16 e5.start) fun e6 => (Option.bind (forR (σ := (List CondT)) (ρ := Unit) (e6.length : Int) (fun i3 s3 => (Option.bind (idxN e6.length (i3 : Int)) fun k5 => (Option.bind (s3[k5]?) fun e7 => (Option.bind (d_BinarySearch p6 e7.clause) fun r4 => (bif r4.2 then (Option.bind (idxN e6.length (i3 : Int)) fun k6 => (Option.bind (s3[k6]?) fun e8 => some (.inl (s3.set k6 ({ clause := r4.1, is := e8.is } : CondT))))) else some (.inr ())))))) e6) (Sum.elim (fun (s3 : (List CondT)) => (Option.bind (idxN k2 (i2 : Int)) fun k7 => (Option.bind (s2[k7]?) fun e9 => some (.inl (s2.set k7 ({ e5 with start := List.take e6.length s3 } : ClauseT)))))) (fun (y2 : Unit) => some (.inr ())))))))))) (List.replicate k2 ({ kind := 0, role := 0, act := 0, need := 0, start := [], after := 0, grace := 0, business := false, final := false, pause := 0, resume := 0, value := ({ num := 0, den := 0 } : Ratio), unit := 0, to := 0, waived := false } : ClauseT))) (Sum.elim (fun (s2 : (List ClauseT)) => some (p1, e2, e3, List.take k2 s2, p5, 0)) (fun (y3 : Unit) => some (0, [], [], [], 0, 1)))))))))) (fun (y1 : Unit) => some (0, [], [], [], 0, 1)))) else some (0, [], [], [], 0, 1)))
noncomputable def p_15b (p1 : Int) (p2 : List Int) (p3 : List ActT) (p4 : List ClauseT) (p5 : Int) (p6 : List Int) : Plan (Int × (List Int) × (List ActT) × (List ClauseT) × Int × Int) :=
  .reg 1 (.bind (d_Valid ({ parties := p1, holders := p2, units := [], acts := p3, clauses := p4, days := p5, off := [] } : ContractT)) (fun r1 => [(1360, ([.w [0] [.agg (ContractT.row ({ parties := p1, holders := p2, units := [], acts := p3, clauses := p4, days := p5, off := [] } : ContractT))] (.tuple [.int .i64 r1.1, .int .i64 r1.2])], _))]) (fun r1 hr1 => (.c2 (t_Valid ({ parties := p1, holders := p2, units := [], acts := p3, clauses := p4, days := p5, off := [] } : ContractT) r1 hr1) (snap_of [.agg [vI p1, .imm (.slice (List.map rowI p2)), .nil, .imm (.slice (List.map ActT.row p3)), .mslice 0 0 p4.length, vI p5, .nil]] [(0, .rows 16 (rowsA ClauseT.row p4))] [.agg (ContractT.row ({ parties := p1, holders := p2, units := [], acts := p3, clauses := p4, days := p5, off := [] } : ContractT))] (snapC (snapA (snapC (snapI _) (snapC (snapI _) (snapC rfl (snapC (snapI _) (snapC (snapO ClauseT.row 0 16 p4 rfl) (snapC (snapI _) (snapC rfl snapN)))))))) snapN)) .nil)) fun r1 => .use 1 1360 (.ite 1338 (r1.1 == 0) (.sel 1339 (.forR (σ := Int) (ρ := Unit) 1340 28 (p6.length : Int) (-1) (⟨[1, 2, 4, 26, 27], fun s1 => [(8, vI s1)], [2, 3], fun _ => [(0, .rows 16 (rowsA ClauseT.row p4)), (1, .rows 1 (rowsA rowI p6))], 18, fun _ => (.rows rfl (.rows rfl .nil))⟩) (fun i1 s1 => .sel 1340 (.reg 0 (.b1 1362 (idxN p6.length (i1 : Int)) (fun k1 => .k k1) (fun k1 hk1 => (midx_side hk1)) fun k1 => .b1 1364 (p6[k1]?) (fun e1 => .ar (rowA (rowI e1))) (fun e1 he1 => (row_side rowI he1)) fun e1 => .us [(0, 1362), (1, 1364)] (.cut (β := Bool) 2 (⟨[1, 2, 4, 26, 27, 28, 10], fun v1 => [(41, vB v1)], [2, 3], fun _ => [(0, .rows 16 (rowsA ClauseT.row p4)), (1, .rows 1 (rowsA rowI p6))], 32, fun _ => (.rows rfl (.rows rfl .nil))⟩) (.reg 0 (.ite 1342 (decide (e1 ≤ s1)) (.use 4 1342 (.ret true)) (.use 4 1342 (.ret (decide ((p4.length : Int) ≤ e1)))))) fun v1 => .ite 1344 v1 (.sel 1344 (.ret (.inr ()))) (.sel 1344 (.ret (.inl e1))))))) fun os1 => .case os1 (fun s1 => .sel 1340 (.reg 1 (.b1 1366 (cloneI 8 p2) (fun e2 => .c [] 0 (.mslice 31 0 e2.length) [(31, .rows 1 (rowsA rowI e2))] 8) (fun e2 he2 => (call_side (t_clone34 rowI (fun _ => rfl) he2) [] 24 (.keep .nil) rhN (rhI rhN))) fun e2 => .use 2 1366 (.reg 0 (.b1 1368 (d_35a) (fun r2 => .c [] 0 (.nil) [] 0) (fun r2 hr2 => (call_side (t_35a r2 hr2) [] 37 .nil rhN rhN)) fun r2 => .use 2 1368 (.reg 0 (.b1 1370 (cloneI 56 p3) (fun e3 => .c [] 0 (.mslice 49 0 e3.length) [(49, .rows 7 (rowsA ActT.row e3))] 8) (fun e3 he3 => (call_side (t_clone36 ActT.row (fun _ => rfl) he3) [] 42 (.keep .nil) rhN (rhI rhN))) fun e3 => .use 2 1370 (.reg 0 (.b1 1372 (d_34a) (fun r3 => .c [] 0 (.nil) [] 0) (fun r3 hr3 => (call_side (t_34a r3 hr3) [] 55 .nil rhN rhN)) fun r3 => .use 2 1372 (.reg 0 (.b1 1374 (mkN 136 (p6.length : Int)) (fun k2 => .m k2 (List.replicate k2 [vI 0, vI 0, vI 0, vI 0, .nil, vI 0, vI 0, vB false, vB false, vI 0, vI 0, vI 0, vI 0, vI 0, vI 0, vB false])) (fun k2 hk2 => (mks_side0 [vI 0, vI 0, vI 0, vI 0, .nil, vI 0, vI 0, vB false, vB false, vI 0, vI 0, vI 0, vI 0, vI 0, vI 0, vB false] hk2)) fun k2 => .use 2 1374 (.weak 0 [wZero 60 16 k2 [vI 0, vI 0, vI 0, vI 0, .nil, vI 0, vI 0, vB false, vB false, vI 0, vI 0, vI 0, vI 0, vI 0, vI 0, vB false] ClauseT.row ({ kind := 0, role := 0, act := 0, need := 0, start := [], after := 0, grace := 0, business := false, final := false, pause := 0, resume := 0, value := ({ num := 0, den := 0 } : Ratio), unit := 0, to := 0, waived := false } : ClauseT) (.cons (.refl _) (.cons (.refl _) (.cons (.refl _) (.cons (.refl _) (.cons .nil (.cons (.refl _) (.cons (.refl _) (.cons (.refl _) (.cons (.refl _) (.cons (.refl _) (.cons (.refl _) (.cons (.refl _) (.cons (.refl _) (.cons (.refl _) (.cons (.refl _) (.cons (.refl _) .nil))))))))))))))))] (.forR (σ := (List ClauseT)) (ρ := Unit) 1346 68 (p6.length : Int) (List.replicate k2 ({ kind := 0, role := 0, act := 0, need := 0, start := [], after := 0, grace := 0, business := false, final := false, pause := 0, resume := 0, value := ({ num := 0, den := 0 } : Ratio), unit := 0, to := 0, waived := false } : ClauseT)) (⟨[1, 2, 4, 11, 66, 67], fun _ => [], [2, 3, 20], fun s2 => [(0, .rows 16 (rowsA ClauseT.row p4)), (1, .rows 1 (rowsA rowI p6)), (31, .rows 1 (rowsA rowI e2)), (49, .rows 7 (rowsA ActT.row e3)), (60, .rows 16 (rowsA ClauseT.row s2))], 66, fun _ => (.rows rfl (.rows rfl (.rows rfl (.rows rfl (.rows rfl .nil)))))⟩) (fun i2 s2 => .sel 1346 (.reg 0 (.b1 1376 (idxN p6.length (i2 : Int)) (fun k3 => .k k3) (fun k3 hk3 => (midx_side hk3)) fun k3 => .b1 1378 (p6[k3]?) (fun e4 => .ar (rowA (rowI e4))) (fun e4 he4 => (row_side rowI he4)) fun e4 => .us [(1, 1376), (2, 1378)] (.reg 0 (.b1 1380 (idxN p4.length e4) (fun k4 => .k k4) (fun k4 hk4 => (midx_side hk4)) fun k4 => .b1 1382 (p4[k4]?) (fun e5 => .ar (rowA (ClauseT.row e5))) (fun e5 he5 => (row_side ClauseT.row he5)) fun e5 => .us [(3, 1380), (4, 1382)] (.reg 0 (.b1 1384 (cloneI 16 e5.start) (fun e6 => .c [] 0 (.mslice 88 0 e6.length) [(88, .rows 2 (rowsA CondT.row e6))] 8) (fun e6 he6 => (call_side (t_clone37 CondT.row (fun _ => rfl) he6) [] 81 (.keep .nil) rhN (rhI rhN))) fun e6 => .use 2 1384 (.forR (σ := (List CondT)) (ρ := Unit) 1354 85 (e6.length : Int) e6 (⟨[1, 2, 4, 11, 66, 67, 68, 12, 14, 84], fun _ => [], [2, 3, 20, 77], fun s3 => [(0, .rows 16 (rowsA ClauseT.row p4)), (1, .rows 1 (rowsA rowI p6)), (31, .rows 1 (rowsA rowI e2)), (49, .rows 7 (rowsA ActT.row e3)), (60, .rows 16 (rowsA ClauseT.row s2)), (88, .rows 2 (rowsA CondT.row s3))], 96, fun _ => (.rows rfl (.rows rfl (.rows rfl (.rows rfl (.rows rfl (.rows rfl .nil))))))⟩) (fun i3 s3 => .sel 1354 (.reg 1 (.b1 1386 (idxN e6.length (i3 : Int)) (fun k5 => .k k5) (fun k5 hk5 => (midx_side hk5)) fun k5 => .b1 1388 (s3[k5]?) (fun e7 => .ar (rowA (CondT.row e7))) (fun e7 he7 => (row_side CondT.row he7)) fun e7 => .bind (d_BinarySearch p6 e7.clause) (fun r4 => [(1390, ([.w [1] [.slice (List.map rowI p6), .int .i64 e7.clause] (.tuple [.int .i64 r4.1, .bool r4.2])], _))]) (fun r4 hr4 => (.c2 (t_BinarySearch p6 e7.clause r4 hr4) (snap_of [.mslice 1 0 p6.length, vI e7.clause] [(1, .rows 1 (rowsA rowI p6))] [.slice (List.map rowI p6), .int .i64 e7.clause] (snapC (snapO rowI 1 1 p6 rfl) (snapC (snapI _) snapN))) .nil)) fun r4 => .us [(4, 1386), (6, 1388), (7, 1390)] (.ite 1358 r4.2 (.sel 1359 (.reg 0 (.b1 1392 (idxN e6.length (i3 : Int)) (fun k6 => .k k6) (fun k6 hk6 => (midx_side hk6)) fun k6 => .b1 1394 (s3[k6]?) (fun e8 => .aw (rowA (CondT.row e8)) (rowsA CondT.row (s3.set k6 ({ clause := r4.1, is := e8.is } : CondT)))) (fun e8 he8 => (sto_side CondT.row ({ clause := r4.1, is := e8.is } : CondT) he8)) fun e8 => .us [(4, 1392), (6, 1394)] (.ret (.inl (s3.set k6 ({ clause := r4.1, is := e8.is } : CondT))))))) (.sel 1359 (.ret (.inr ()))))))) fun os3 => .case os3 (fun s3 => .sel 1354 (.weak 0 [wFrzT 88 2 [77] CondT.row s3 e6.length] (.reg 0 (.b1 1396 (idxN k2 (i2 : Int)) (fun k7 => .k k7) (fun k7 hk7 => (midx_side hk7)) fun k7 => .b1 1398 (s2[k7]?) (fun e9 => .aw (rowA (ClauseT.row e9)) (rowsA ClauseT.row (s2.set k7 ({ e5 with start := List.take e6.length s3 } : ClauseT)))) (fun e9 he9 => (sto_side ClauseT.row ({ e5 with start := List.take e6.length s3 } : ClauseT) he9)) fun e9 => .us [(4, 1396), (5, 1398)] (.ret (.inl (s2.set k7 ({ e5 with start := List.take e6.length s3 } : ClauseT)))))))) fun y2 => .ret (.inr ()))))))))) fun os2 => .case os2 (fun s2 => .sel 1346 (.weak 1 [wFrzA 31 1 [3, 20] rowI e2, wFrzA 49 7 [3, 20] ActT.row e3, wFrzT 60 16 [3, 20] ClauseT.row s2 k2] (.finL (.tuple [.agg [vI p1, .imm (.slice (List.map rowI e2)), .nil, .imm (.slice (List.map ActT.row e3)), .imm (.slice (List.map ClauseT.row (List.take k2 s2))), vI p5, .nil], vI 0]) (.tuple [.agg ([vI p1, .imm (.slice (List.map rowI e2)), .imm (.slice (List.map UnitT.row [])), .imm (.slice (List.map ActT.row e3)), .imm (.slice (List.map ClauseT.row (List.take k2 s2))), vI p5, .imm (.slice (List.map rowI []))]), vI 0]) (.tup (.cons (.agg (.cons (.refl _) (.cons (.refl _) (.cons .nil (.cons (.refl _) (.cons (.refl _) (.cons (.refl _) (.cons .nil .nil)))))))) (.cons (.refl _) .nil))) (p1, e2, e3, List.take k2 s2, p5, 0)))) fun y3 => .finL (.tuple [.agg [vI 0, .nil, .nil, .nil, .nil, vI 0, .nil], vI 1]) (.tuple [.agg ([vI 0, .imm (.slice (List.map rowI [])), .imm (.slice (List.map UnitT.row [])), .imm (.slice (List.map ActT.row [])), .imm (.slice (List.map ClauseT.row [])), vI 0, .imm (.slice (List.map rowI []))]), vI 1]) (.tup (.cons (.agg (.cons (.refl _) (.cons .nil (.cons .nil (.cons .nil (.cons .nil (.cons (.refl _) (.cons .nil .nil)))))))) (.cons (.refl _) .nil))) (0, [], [], [], 0, 1)))))))))))))) fun y1 => .finL (.tuple [.agg [vI 0, .nil, .nil, .nil, .nil, vI 0, .nil], vI 1]) (.tuple [.agg ([vI 0, .imm (.slice (List.map rowI [])), .imm (.slice (List.map UnitT.row [])), .imm (.slice (List.map ActT.row [])), .imm (.slice (List.map ClauseT.row [])), vI 0, .imm (.slice (List.map rowI []))]), vI 1]) (.tup (.cons (.agg (.cons (.refl _) (.cons .nil (.cons .nil (.cons .nil (.cons .nil (.cons (.refl _) (.cons .nil .nil)))))))) (.cons (.refl _) .nil))) (0, [], [], [], 0, 1))) (.sel 1339 (.finL (.tuple [.agg [vI 0, .nil, .nil, .nil, .nil, vI 0, .nil], vI 1]) (.tuple [.agg ([vI 0, .imm (.slice (List.map rowI [])), .imm (.slice (List.map UnitT.row [])), .imm (.slice (List.map ActT.row [])), .imm (.slice (List.map ClauseT.row [])), vI 0, .imm (.slice (List.map rowI []))]), vI 1]) (.tup (.cons (.agg (.cons (.refl _) (.cons .nil (.cons .nil (.cons .nil (.cons .nil (.cons (.refl _) (.cons .nil .nil)))))))) (.cons (.refl _) .nil))) (0, [], [], [], 0, 1)))))
theorem t_15b (p1 : Int) (p2 : List Int) (p3 : List ActT) (p4 : List ClauseT) (p5 : Int) (p6 : List Int) (res : Int × (List Int) × (List ActT) × (List ClauseT) × Int × Int) (hd : d_15b p1 p2 p3 p4 p5 p6 = some res) : DOk C0 15 [.agg [vI p1, .imm (.slice (List.map rowI p2)), .nil, .imm (.slice (List.map ActT.row p3)), .mslice 0 0 p4.length, vI p5, .nil], .mslice 1 0 p6.length] [(0, .rows 16 (rowsA ClauseT.row p4)), (1, .rows 1 (rowsA rowI p6))] 2 (.tuple [.agg ([vI res.1, .imm (.slice (List.map rowI res.2.1)), .imm (.slice (List.map UnitT.row [])), .imm (.slice (List.map ActT.row res.2.2.1)), .imm (.slice (List.map ClauseT.row res.2.2.2.1)), vI res.2.2.2.2.1, .imm (.slice (List.map rowI []))]), vI res.2.2.2.2.2]) [(0, .rows 16 (rowsA ClauseT.row p4)), (1, .rows 1 (rowsA rowI p6))] 0 :=
  Plan.det (R := fun res => .tuple [.agg ([vI res.1, .imm (.slice (List.map rowI res.2.1)), .imm (.slice (List.map UnitT.row [])), .imm (.slice (List.map ActT.row res.2.2.1)), .imm (.slice (List.map ClauseT.row res.2.2.2.1)), vI res.2.2.2.2.1, .imm (.slice (List.map rowI []))]), vI res.2.2.2.2.2]) (H := fun res => [(0, .rows 16 (rowsA ClauseT.row p4)), (1, .rows 1 (rowsA rowI p6))]) (p_15b p1 p2 p3 p4 p5 p6) (.rows rfl (.rows rfl .nil)) (fun _ => (.rows rfl (.rows rfl .nil))) (by kernel_rfl) (fun _ => by kernel_rfl) (by kernel_rfl) (Plan.run_of hd (by kernel_rfl))

end Go.Proofs.Ytgligibbgobmnaa
namespace Go.Proofs.Ytgligibbgobmnaa
open Go.RowKit
set_option linter.unusedVariables false
set_option linter.unusedSimpArgs false
set_option maxRecDepth 100000

noncomputable def d_head  : Option Bool :=
  (Option.bind (d_17a) fun r1 => (Option.bind (d_Valid ({ parties := 1, holders := [0], units := [], acts := r1.1, clauses := [({ kind := 1, role := 0, act := 0, need := 1, start := [], after := 3, grace := 0, business := false, final := false, pause := (-1), resume := (-1), value := ({ num := r1.2.1, den := r1.2.2.1 } : Ratio), unit := (-1), to := (-1), waived := false } : ClauseT), ({ kind := 2, role := 0, act := 1, need := 1, start := [], after := 3, grace := 0, business := false, final := false, pause := (-1), resume := (-1), value := ({ num := r1.2.2.2.1, den := r1.2.2.2.2.1 } : Ratio), unit := (-1), to := (-1), waived := false } : ClauseT), ({ kind := 3, role := 0, act := 1, need := 1, start := [], after := 3, grace := 0, business := false, final := false, pause := (-1), resume := (-1), value := ({ num := r1.2.2.2.2.2.1, den := r1.2.2.2.2.2.2 } : Ratio), unit := (-1), to := (-1), waived := false } : ClauseT)], days := 9, off := [] } : ContractT)) fun r2 => (Option.bind (d_13a 1 [0] r1.1 ([({ kind := 1, role := 0, act := 0, need := 1, start := [], after := 3, grace := 0, business := false, final := false, pause := (-1), resume := (-1), value := ({ num := r1.2.1, den := r1.2.2.1 } : Ratio), unit := (-1), to := (-1), waived := false } : ClauseT), ({ kind := 2, role := 0, act := 1, need := 1, start := [], after := 3, grace := 0, business := false, final := false, pause := (-1), resume := (-1), value := ({ num := r1.2.2.2.1, den := r1.2.2.2.2.1 } : Ratio), unit := (-1), to := (-1), waived := false } : ClauseT), ({ kind := 3, role := 0, act := 1, need := 1, start := [], after := 3, grace := 0, business := false, final := false, pause := (-1), resume := (-1), value := ({ num := r1.2.2.2.2.2.1, den := r1.2.2.2.2.2.2 } : Ratio), unit := (-1), to := (-1), waived := false } : ClauseT)]) 9) fun r3 => (Option.bind (d_15b 1 [0] r1.1 ([({ kind := 1, role := 0, act := 0, need := 1, start := [], after := 3, grace := 0, business := false, final := false, pause := (-1), resume := (-1), value := ({ num := r1.2.1, den := r1.2.2.1 } : Ratio), unit := (-1), to := (-1), waived := false } : ClauseT), ({ kind := 2, role := 0, act := 1, need := 1, start := [], after := 3, grace := 0, business := false, final := false, pause := (-1), resume := (-1), value := ({ num := r1.2.2.2.1, den := r1.2.2.2.2.1 } : Ratio), unit := (-1), to := (-1), waived := false } : ClauseT), ({ kind := 3, role := 0, act := 1, need := 1, start := [], after := 3, grace := 0, business := false, final := false, pause := (-1), resume := (-1), value := ({ num := r1.2.2.2.2.2.1, den := r1.2.2.2.2.2.2 } : Ratio), unit := (-1), to := (-1), waived := false } : ClauseT)]) 9 [1, 2]) fun r4 => (Option.bind (d_15b 1 [0] r1.1 ([({ kind := 1, role := 0, act := 0, need := 1, start := [], after := 3, grace := 0, business := false, final := false, pause := (-1), resume := (-1), value := ({ num := r1.2.1, den := r1.2.2.1 } : Ratio), unit := (-1), to := (-1), waived := false } : ClauseT), ({ kind := 2, role := 0, act := 1, need := 1, start := [({ clause := 0, is := 2 } : CondT)], after := 3, grace := 0, business := false, final := false, pause := (-1), resume := (-1), value := ({ num := r1.2.2.2.1, den := r1.2.2.2.2.1 } : Ratio), unit := (-1), to := (-1), waived := false } : ClauseT), ({ kind := 3, role := 0, act := 1, need := 1, start := [], after := 3, grace := 0, business := false, final := false, pause := (-1), resume := (-1), value := ({ num := r1.2.2.2.2.2.1, den := r1.2.2.2.2.2.2 } : Ratio), unit := (-1), to := (-1), waived := false } : ClauseT)]) 9 [1]) fun r5 => (Option.bind (d_13a 1 [0] r1.1 ([({ kind := 1, role := 0, act := 0, need := 1, start := [], after := 3, grace := 0, business := false, final := false, pause := (-1), resume := (-1), value := ({ num := r1.2.1, den := r1.2.2.1 } : Ratio), unit := (-1), to := (-1), waived := false } : ClauseT), ({ kind := 2, role := 0, act := 1, need := 1, start := [({ clause := 0, is := 2 } : CondT)], after := 3, grace := 0, business := false, final := false, pause := (-1), resume := (-1), value := ({ num := r1.2.2.2.1, den := r1.2.2.2.2.1 } : Ratio), unit := (-1), to := (-1), waived := false } : ClauseT), ({ kind := 3, role := 0, act := 1, need := 1, start := [], after := 3, grace := 0, business := false, final := false, pause := (-1), resume := (-1), value := ({ num := r1.2.2.2.2.2.1, den := r1.2.2.2.2.2.2 } : Ratio), unit := (-1), to := (-1), waived := false } : ClauseT)]) 9) fun r6 => (Option.bind (d_Valid ({ parties := 1, holders := [0], units := [], acts := r1.1, clauses := [({ kind := 1, role := 0, act := 0, need := 1, start := [], after := 3, grace := 0, business := false, final := false, pause := (-1), resume := (-1), value := ({ num := r1.2.1, den := r1.2.2.1 } : Ratio), unit := (-1), to := (-1), waived := false } : ClauseT), ({ kind := 2, role := 0, act := 1, need := 1, start := [({ clause := 0, is := 2 } : CondT)], after := 3, grace := 0, business := false, final := false, pause := (-1), resume := (-1), value := ({ num := r1.2.2.2.1, den := r1.2.2.2.2.1 } : Ratio), unit := (-1), to := (-1), waived := false } : ClauseT), ({ kind := 3, role := 0, act := 1, need := 2, start := [], after := 3, grace := 0, business := false, final := false, pause := (-1), resume := (-1), value := ({ num := r1.2.2.2.2.2.1, den := r1.2.2.2.2.2.2 } : Ratio), unit := (-1), to := (-1), waived := false } : ClauseT)], days := 9, off := [] } : ContractT)) fun r7 => (Option.bind (d_Valid ({ parties := 1, holders := [0], units := [], acts := r1.1, clauses := [({ kind := 1, role := 0, act := 0, need := 1, start := [], after := 3, grace := 0, business := false, final := false, pause := (-1), resume := (-1), value := ({ num := r1.2.1, den := r1.2.2.1 } : Ratio), unit := (-1), to := (-1), waived := false } : ClauseT), ({ kind := 2, role := 0, act := 1, need := 1, start := [({ clause := 0, is := 2 } : CondT)], after := 3, grace := 0, business := false, final := false, pause := (-1), resume := (-1), value := ({ num := r1.2.2.2.1, den := r1.2.2.2.2.1 } : Ratio), unit := (-1), to := (-1), waived := false } : ClauseT), ({ kind := 3, role := 0, act := 1, need := 2, start := [], after := 3, grace := 0, business := false, final := false, pause := (-1), resume := (-1), value := ({ num := r1.2.2.2.2.2.1, den := r1.2.2.2.2.2.2 } : Ratio), unit := (-1), to := (-1), waived := false } : ClauseT)], days := 2001, off := [] } : ContractT)) fun r8 => (Option.bind (bif ((r3.length : Int) == 2) then (bif ((r6.length : Int) == 1) then some (!((r4.2.2.2.1.length : Int) == 2)) else some true) else some true) fun v1 => (bif v1 then some false else (Option.bind (bif (r2.1 == 0) then (bif (r2.2 == (-1)) then (Option.bind (idxI r3 0) fun e1 => (Option.bind (d_Ints e1 [0]) fun r9 => (bif r9 then (Option.bind (idxI r3 1) fun e2 => (Option.bind (d_Ints e2 [1, 2]) fun r10 => (bif r10 then (Option.bind (idxI r6 0) fun e3 => (Option.bind (d_Ints e3 [0, 1, 2]) fun r11 => (bif r11 then (bif (r4.2.2.2.2.2 == 0) then (Option.bind (idxI r4.2.2.2.1 0) fun e4 => some (e4.kind == 2)) else some false) else some false))) else some false))) else some false))) else some false) else some false) fun v2 => (Option.bind (bif v2 then (bif (r5.2.2.2.2.2 == 1) then (bif (r7.1 == 1) then (bif (r7.2 == 2) then (bif (r8.1 == 3) then (bif (r8.2 == (-1)) then (Option.bind (d_17a) fun r12 => (Option.bind (d_Linked ({ parties := 1, holders := [0], units := [], acts := r12.1, clauses := [({ kind := 1, role := 0, act := 0, need := 1, start := [], after := 3, grace := 0, business := false, final := false, pause := (-1), resume := (-1), value := ({ num := r12.2.1, den := r12.2.2.1 } : Ratio), unit := (-1), to := (-1), waived := false } : ClauseT), ({ kind := 2, role := 0, act := 1, need := 1, start := [], after := 3, grace := 0, business := false, final := false, pause := (-1), resume := (-1), value := ({ num := r12.2.2.2.1, den := r12.2.2.2.2.1 } : Ratio), unit := (-1), to := (-1), waived := false } : ClauseT), ({ kind := 3, role := 0, act := 1, need := 1, start := [], after := 3, grace := 0, business := false, final := false, pause := (-1), resume := (-1), value := ({ num := r12.2.2.2.2.2.1, den := r12.2.2.2.2.2.2 } : Ratio), unit := (-1), to := (-1), waived := false } : ClauseT)], days := 9, off := [] } : ContractT) 1 2) fun r13 => (bif r13 then (Option.bind (d_17a) fun r14 => (Option.bind (d_Linked ({ parties := 1, holders := [0], units := [], acts := r14.1, clauses := [({ kind := 1, role := 0, act := 0, need := 1, start := [], after := 3, grace := 0, business := false, final := false, pause := (-1), resume := (-1), value := ({ num := r14.2.1, den := r14.2.2.1 } : Ratio), unit := (-1), to := (-1), waived := false } : ClauseT), ({ kind := 2, role := 0, act := 1, need := 1, start := [], after := 3, grace := 0, business := false, final := false, pause := (-1), resume := (-1), value := ({ num := r14.2.2.2.1, den := r14.2.2.2.2.1 } : Ratio), unit := (-1), to := (-1), waived := false } : ClauseT), ({ kind := 3, role := 0, act := 1, need := 1, start := [], after := 3, grace := 0, business := false, final := false, pause := (-1), resume := (-1), value := ({ num := r14.2.2.2.2.2.1, den := r14.2.2.2.2.2.2 } : Ratio), unit := (-1), to := (-1), waived := false } : ClauseT)], days := 9, off := [] } : ContractT) 0 2) fun r15 => some (!r15))) else some false))) else some false) else some false) else some false) else some false) else some false) else some false) fun v3 => some v3))))))))))))
noncomputable def p_head  : Plan Bool :=
  .reg 1 (.b1 1432 (d_17a) (fun r1 => .c [] 0 (.agg ([vI 1, .imm (.slice (List.map rowI [0])), .nil, .imm (.slice (List.map ActT.row r1.1)), .mslice 11 0 3, vI 9, .nil])) [(11, .rows 16 [[vI 1, vI 0, vI 0, vI 1, .imm (.slice (List.map CondT.row [])), vI 3, vI 0, vB false, vB false, vI (-1), vI (-1), vI r1.2.1, vI r1.2.2.1, vI (-1), vI (-1), vB false], [vI 2, vI 0, vI 1, vI 1, .imm (.slice (List.map CondT.row [])), vI 3, vI 0, vB false, vB false, vI (-1), vI (-1), vI r1.2.2.2.1, vI r1.2.2.2.2.1, vI (-1), vI (-1), vB false], [vI 3, vI 0, vI 1, vI 1, .imm (.slice (List.map CondT.row [])), vI 3, vI 0, vB false, vB false, vI (-1), vI (-1), vI r1.2.2.2.2.2.1, vI r1.2.2.2.2.2.2, vI (-1), vI (-1), vB false]])] 11) (fun r1 hr1 => (call_side (t_17a r1 hr1) [] 1 (.keep .nil) rhN (rhR rhN))) fun r1 => .use 0 1432 (.reg 0 (.bind (d_Valid ({ parties := 1, holders := [0], units := [], acts := r1.1, clauses := [({ kind := 1, role := 0, act := 0, need := 1, start := [], after := 3, grace := 0, business := false, final := false, pause := (-1), resume := (-1), value := ({ num := r1.2.1, den := r1.2.2.1 } : Ratio), unit := (-1), to := (-1), waived := false } : ClauseT), ({ kind := 2, role := 0, act := 1, need := 1, start := [], after := 3, grace := 0, business := false, final := false, pause := (-1), resume := (-1), value := ({ num := r1.2.2.2.1, den := r1.2.2.2.2.1 } : Ratio), unit := (-1), to := (-1), waived := false } : ClauseT), ({ kind := 3, role := 0, act := 1, need := 1, start := [], after := 3, grace := 0, business := false, final := false, pause := (-1), resume := (-1), value := ({ num := r1.2.2.2.2.2.1, den := r1.2.2.2.2.2.2 } : Ratio), unit := (-1), to := (-1), waived := false } : ClauseT)], days := 9, off := [] } : ContractT)) (fun r2 => [(1434, ([.w [11] [.agg (ContractT.row ({ parties := 1, holders := [0], units := [], acts := r1.1, clauses := [({ kind := 1, role := 0, act := 0, need := 1, start := [], after := 3, grace := 0, business := false, final := false, pause := (-1), resume := (-1), value := ({ num := r1.2.1, den := r1.2.2.1 } : Ratio), unit := (-1), to := (-1), waived := false } : ClauseT), ({ kind := 2, role := 0, act := 1, need := 1, start := [], after := 3, grace := 0, business := false, final := false, pause := (-1), resume := (-1), value := ({ num := r1.2.2.2.1, den := r1.2.2.2.2.1 } : Ratio), unit := (-1), to := (-1), waived := false } : ClauseT), ({ kind := 3, role := 0, act := 1, need := 1, start := [], after := 3, grace := 0, business := false, final := false, pause := (-1), resume := (-1), value := ({ num := r1.2.2.2.2.2.1, den := r1.2.2.2.2.2.2 } : Ratio), unit := (-1), to := (-1), waived := false } : ClauseT)], days := 9, off := [] } : ContractT))] (.tuple [.int .i64 r2.1, .int .i64 r2.2])], _))]) (fun r2 hr2 => (.c2 (t_Valid ({ parties := 1, holders := [0], units := [], acts := r1.1, clauses := [({ kind := 1, role := 0, act := 0, need := 1, start := [], after := 3, grace := 0, business := false, final := false, pause := (-1), resume := (-1), value := ({ num := r1.2.1, den := r1.2.2.1 } : Ratio), unit := (-1), to := (-1), waived := false } : ClauseT), ({ kind := 2, role := 0, act := 1, need := 1, start := [], after := 3, grace := 0, business := false, final := false, pause := (-1), resume := (-1), value := ({ num := r1.2.2.2.1, den := r1.2.2.2.2.1 } : Ratio), unit := (-1), to := (-1), waived := false } : ClauseT), ({ kind := 3, role := 0, act := 1, need := 1, start := [], after := 3, grace := 0, business := false, final := false, pause := (-1), resume := (-1), value := ({ num := r1.2.2.2.2.2.1, den := r1.2.2.2.2.2.2 } : Ratio), unit := (-1), to := (-1), waived := false } : ClauseT)], days := 9, off := [] } : ContractT) r2 hr2) (snap_of [.agg ([vI 1, .imm (.slice (List.map rowI [0])), .nil, .imm (.slice (List.map ActT.row r1.1)), .mslice 11 0 3, vI 9, .nil])] [(11, .rows 16 [[vI 1, vI 0, vI 0, vI 1, .imm (.slice (List.map CondT.row [])), vI 3, vI 0, vB false, vB false, vI (-1), vI (-1), vI r1.2.1, vI r1.2.2.1, vI (-1), vI (-1), vB false], [vI 2, vI 0, vI 1, vI 1, .imm (.slice (List.map CondT.row [])), vI 3, vI 0, vB false, vB false, vI (-1), vI (-1), vI r1.2.2.2.1, vI r1.2.2.2.2.1, vI (-1), vI (-1), vB false], [vI 3, vI 0, vI 1, vI 1, .imm (.slice (List.map CondT.row [])), vI 3, vI 0, vB false, vB false, vI (-1), vI (-1), vI r1.2.2.2.2.2.1, vI r1.2.2.2.2.2.2, vI (-1), vI (-1), vB false]])] [.agg (ContractT.row ({ parties := 1, holders := [0], units := [], acts := r1.1, clauses := [({ kind := 1, role := 0, act := 0, need := 1, start := [], after := 3, grace := 0, business := false, final := false, pause := (-1), resume := (-1), value := ({ num := r1.2.1, den := r1.2.2.1 } : Ratio), unit := (-1), to := (-1), waived := false } : ClauseT), ({ kind := 2, role := 0, act := 1, need := 1, start := [], after := 3, grace := 0, business := false, final := false, pause := (-1), resume := (-1), value := ({ num := r1.2.2.2.1, den := r1.2.2.2.2.1 } : Ratio), unit := (-1), to := (-1), waived := false } : ClauseT), ({ kind := 3, role := 0, act := 1, need := 1, start := [], after := 3, grace := 0, business := false, final := false, pause := (-1), resume := (-1), value := ({ num := r1.2.2.2.2.2.1, den := r1.2.2.2.2.2.2 } : Ratio), unit := (-1), to := (-1), waived := false } : ClauseT)], days := 9, off := [] } : ContractT))] (by kernel_rfl)) .nil)) fun r2 => .use 1 1434 (.reg 0 (.b1 1436 (d_13a 1 [0] r1.1 ([({ kind := 1, role := 0, act := 0, need := 1, start := [], after := 3, grace := 0, business := false, final := false, pause := (-1), resume := (-1), value := ({ num := r1.2.1, den := r1.2.2.1 } : Ratio), unit := (-1), to := (-1), waived := false } : ClauseT), ({ kind := 2, role := 0, act := 1, need := 1, start := [], after := 3, grace := 0, business := false, final := false, pause := (-1), resume := (-1), value := ({ num := r1.2.2.2.1, den := r1.2.2.2.2.1 } : Ratio), unit := (-1), to := (-1), waived := false } : ClauseT), ({ kind := 3, role := 0, act := 1, need := 1, start := [], after := 3, grace := 0, business := false, final := false, pause := (-1), resume := (-1), value := ({ num := r1.2.2.2.2.2.1, den := r1.2.2.2.2.2.2 } : Ratio), unit := (-1), to := (-1), waived := false } : ClauseT)]) 9) (fun r3 => .c [11] 1 (.imm (.slice (List.map (rowL rowI) r3))) [] 0) (fun r3 hr3 => (call_side (t_13a 1 [0] r1.1 ([({ kind := 1, role := 0, act := 0, need := 1, start := [], after := 3, grace := 0, business := false, final := false, pause := (-1), resume := (-1), value := ({ num := r1.2.1, den := r1.2.2.1 } : Ratio), unit := (-1), to := (-1), waived := false } : ClauseT), ({ kind := 2, role := 0, act := 1, need := 1, start := [], after := 3, grace := 0, business := false, final := false, pause := (-1), resume := (-1), value := ({ num := r1.2.2.2.1, den := r1.2.2.2.2.1 } : Ratio), unit := (-1), to := (-1), waived := false } : ClauseT), ({ kind := 3, role := 0, act := 1, need := 1, start := [], after := 3, grace := 0, business := false, final := false, pause := (-1), resume := (-1), value := ({ num := r1.2.2.2.2.2.1, den := r1.2.2.2.2.2.2 } : Ratio), unit := (-1), to := (-1), waived := false } : ClauseT)]) 9 r3 hr3) [11] 23 (.drop rfl rfl .nil) (rhI rhN) rhN)) fun r3 => .use 1 1436 (.reg 0 (.b1 1438 (d_15b 1 [0] r1.1 ([({ kind := 1, role := 0, act := 0, need := 1, start := [], after := 3, grace := 0, business := false, final := false, pause := (-1), resume := (-1), value := ({ num := r1.2.1, den := r1.2.2.1 } : Ratio), unit := (-1), to := (-1), waived := false } : ClauseT), ({ kind := 2, role := 0, act := 1, need := 1, start := [], after := 3, grace := 0, business := false, final := false, pause := (-1), resume := (-1), value := ({ num := r1.2.2.2.1, den := r1.2.2.2.2.1 } : Ratio), unit := (-1), to := (-1), waived := false } : ClauseT), ({ kind := 3, role := 0, act := 1, need := 1, start := [], after := 3, grace := 0, business := false, final := false, pause := (-1), resume := (-1), value := ({ num := r1.2.2.2.2.2.1, den := r1.2.2.2.2.2.2 } : Ratio), unit := (-1), to := (-1), waived := false } : ClauseT)]) 9 [1, 2]) (fun r4 => .c [11, 26] 2 (.tuple [.agg ([vI r4.1, .imm (.slice (List.map rowI r4.2.1)), .imm (.slice (List.map UnitT.row [])), .imm (.slice (List.map ActT.row r4.2.2.1)), .imm (.slice (List.map ClauseT.row r4.2.2.2.1)), vI r4.2.2.2.2.1, .imm (.slice (List.map rowI []))]), vI r4.2.2.2.2.2]) [] 0) (fun r4 hr4 => (call_side (t_15b 1 [0] r1.1 ([({ kind := 1, role := 0, act := 0, need := 1, start := [], after := 3, grace := 0, business := false, final := false, pause := (-1), resume := (-1), value := ({ num := r1.2.1, den := r1.2.2.1 } : Ratio), unit := (-1), to := (-1), waived := false } : ClauseT), ({ kind := 2, role := 0, act := 1, need := 1, start := [], after := 3, grace := 0, business := false, final := false, pause := (-1), resume := (-1), value := ({ num := r1.2.2.2.1, den := r1.2.2.2.2.1 } : Ratio), unit := (-1), to := (-1), waived := false } : ClauseT), ({ kind := 3, role := 0, act := 1, need := 1, start := [], after := 3, grace := 0, business := false, final := false, pause := (-1), resume := (-1), value := ({ num := r1.2.2.2.2.2.1, den := r1.2.2.2.2.2.2 } : Ratio), unit := (-1), to := (-1), waived := false } : ClauseT)]) 9 [1, 2] r4 hr4) [11, 26] 27 (.drop rfl rfl (.drop rfl rfl .nil)) (rhI (rhI rhN)) rhN)) fun r4 => .use 2 1438 (.weak 2 [wFrzA 37 2 [11] CondT.row [({ clause := 0, is := 2 } : CondT)]] (.reg 0 (.b1 1440 (d_15b 1 [0] r1.1 ([({ kind := 1, role := 0, act := 0, need := 1, start := [], after := 3, grace := 0, business := false, final := false, pause := (-1), resume := (-1), value := ({ num := r1.2.1, den := r1.2.2.1 } : Ratio), unit := (-1), to := (-1), waived := false } : ClauseT), ({ kind := 2, role := 0, act := 1, need := 1, start := [({ clause := 0, is := 2 } : CondT)], after := 3, grace := 0, business := false, final := false, pause := (-1), resume := (-1), value := ({ num := r1.2.2.2.1, den := r1.2.2.2.2.1 } : Ratio), unit := (-1), to := (-1), waived := false } : ClauseT), ({ kind := 3, role := 0, act := 1, need := 1, start := [], after := 3, grace := 0, business := false, final := false, pause := (-1), resume := (-1), value := ({ num := r1.2.2.2.2.2.1, den := r1.2.2.2.2.2.2 } : Ratio), unit := (-1), to := (-1), waived := false } : ClauseT)]) 9 [1]) (fun r5 => .c [11, 42] 2 (.tuple [.agg ([vI r5.1, .imm (.slice (List.map rowI r5.2.1)), .imm (.slice (List.map UnitT.row [])), .imm (.slice (List.map ActT.row r5.2.2.1)), .imm (.slice (List.map ClauseT.row r5.2.2.2.1)), vI r5.2.2.2.2.1, .imm (.slice (List.map rowI []))]), vI r5.2.2.2.2.2]) [] 0) (fun r5 hr5 => (call_side (t_15b 1 [0] r1.1 ([({ kind := 1, role := 0, act := 0, need := 1, start := [], after := 3, grace := 0, business := false, final := false, pause := (-1), resume := (-1), value := ({ num := r1.2.1, den := r1.2.2.1 } : Ratio), unit := (-1), to := (-1), waived := false } : ClauseT), ({ kind := 2, role := 0, act := 1, need := 1, start := [({ clause := 0, is := 2 } : CondT)], after := 3, grace := 0, business := false, final := false, pause := (-1), resume := (-1), value := ({ num := r1.2.2.2.1, den := r1.2.2.2.2.1 } : Ratio), unit := (-1), to := (-1), waived := false } : ClauseT), ({ kind := 3, role := 0, act := 1, need := 1, start := [], after := 3, grace := 0, business := false, final := false, pause := (-1), resume := (-1), value := ({ num := r1.2.2.2.2.2.1, den := r1.2.2.2.2.2.2 } : Ratio), unit := (-1), to := (-1), waived := false } : ClauseT)]) 9 [1] r5 hr5) [11, 42] 43 (.drop rfl rfl (.drop rfl rfl .nil)) (rhI (rhI rhN)) rhN)) fun r5 => .use 2 1440 (.reg 0 (.b1 1442 (d_13a 1 [0] r1.1 ([({ kind := 1, role := 0, act := 0, need := 1, start := [], after := 3, grace := 0, business := false, final := false, pause := (-1), resume := (-1), value := ({ num := r1.2.1, den := r1.2.2.1 } : Ratio), unit := (-1), to := (-1), waived := false } : ClauseT), ({ kind := 2, role := 0, act := 1, need := 1, start := [({ clause := 0, is := 2 } : CondT)], after := 3, grace := 0, business := false, final := false, pause := (-1), resume := (-1), value := ({ num := r1.2.2.2.1, den := r1.2.2.2.2.1 } : Ratio), unit := (-1), to := (-1), waived := false } : ClauseT), ({ kind := 3, role := 0, act := 1, need := 1, start := [], after := 3, grace := 0, business := false, final := false, pause := (-1), resume := (-1), value := ({ num := r1.2.2.2.2.2.1, den := r1.2.2.2.2.2.2 } : Ratio), unit := (-1), to := (-1), waived := false } : ClauseT)]) 9) (fun r6 => .c [11] 1 (.imm (.slice (List.map (rowL rowI) r6))) [] 0) (fun r6 hr6 => (call_side (t_13a 1 [0] r1.1 ([({ kind := 1, role := 0, act := 0, need := 1, start := [], after := 3, grace := 0, business := false, final := false, pause := (-1), resume := (-1), value := ({ num := r1.2.1, den := r1.2.2.1 } : Ratio), unit := (-1), to := (-1), waived := false } : ClauseT), ({ kind := 2, role := 0, act := 1, need := 1, start := [({ clause := 0, is := 2 } : CondT)], after := 3, grace := 0, business := false, final := false, pause := (-1), resume := (-1), value := ({ num := r1.2.2.2.1, den := r1.2.2.2.2.1 } : Ratio), unit := (-1), to := (-1), waived := false } : ClauseT), ({ kind := 3, role := 0, act := 1, need := 1, start := [], after := 3, grace := 0, business := false, final := false, pause := (-1), resume := (-1), value := ({ num := r1.2.2.2.2.2.1, den := r1.2.2.2.2.2.2 } : Ratio), unit := (-1), to := (-1), waived := false } : ClauseT)]) 9 r6 hr6) [11] 51 (.drop rfl rfl .nil) (rhI rhN) rhN)) fun r6 => .use 1 1442 (.reg 1 (.bind (d_Valid ({ parties := 1, holders := [0], units := [], acts := r1.1, clauses := [({ kind := 1, role := 0, act := 0, need := 1, start := [], after := 3, grace := 0, business := false, final := false, pause := (-1), resume := (-1), value := ({ num := r1.2.1, den := r1.2.2.1 } : Ratio), unit := (-1), to := (-1), waived := false } : ClauseT), ({ kind := 2, role := 0, act := 1, need := 1, start := [({ clause := 0, is := 2 } : CondT)], after := 3, grace := 0, business := false, final := false, pause := (-1), resume := (-1), value := ({ num := r1.2.2.2.1, den := r1.2.2.2.2.1 } : Ratio), unit := (-1), to := (-1), waived := false } : ClauseT), ({ kind := 3, role := 0, act := 1, need := 2, start := [], after := 3, grace := 0, business := false, final := false, pause := (-1), resume := (-1), value := ({ num := r1.2.2.2.2.2.1, den := r1.2.2.2.2.2.2 } : Ratio), unit := (-1), to := (-1), waived := false } : ClauseT)], days := 9, off := [] } : ContractT)) (fun r7 => [(1444, ([.w [11] [.agg (ContractT.row ({ parties := 1, holders := [0], units := [], acts := r1.1, clauses := [({ kind := 1, role := 0, act := 0, need := 1, start := [], after := 3, grace := 0, business := false, final := false, pause := (-1), resume := (-1), value := ({ num := r1.2.1, den := r1.2.2.1 } : Ratio), unit := (-1), to := (-1), waived := false } : ClauseT), ({ kind := 2, role := 0, act := 1, need := 1, start := [({ clause := 0, is := 2 } : CondT)], after := 3, grace := 0, business := false, final := false, pause := (-1), resume := (-1), value := ({ num := r1.2.2.2.1, den := r1.2.2.2.2.1 } : Ratio), unit := (-1), to := (-1), waived := false } : ClauseT), ({ kind := 3, role := 0, act := 1, need := 2, start := [], after := 3, grace := 0, business := false, final := false, pause := (-1), resume := (-1), value := ({ num := r1.2.2.2.2.2.1, den := r1.2.2.2.2.2.2 } : Ratio), unit := (-1), to := (-1), waived := false } : ClauseT)], days := 9, off := [] } : ContractT))] (.tuple [.int .i64 r7.1, .int .i64 r7.2])], _))]) (fun r7 hr7 => (.c2 (t_Valid ({ parties := 1, holders := [0], units := [], acts := r1.1, clauses := [({ kind := 1, role := 0, act := 0, need := 1, start := [], after := 3, grace := 0, business := false, final := false, pause := (-1), resume := (-1), value := ({ num := r1.2.1, den := r1.2.2.1 } : Ratio), unit := (-1), to := (-1), waived := false } : ClauseT), ({ kind := 2, role := 0, act := 1, need := 1, start := [({ clause := 0, is := 2 } : CondT)], after := 3, grace := 0, business := false, final := false, pause := (-1), resume := (-1), value := ({ num := r1.2.2.2.1, den := r1.2.2.2.2.1 } : Ratio), unit := (-1), to := (-1), waived := false } : ClauseT), ({ kind := 3, role := 0, act := 1, need := 2, start := [], after := 3, grace := 0, business := false, final := false, pause := (-1), resume := (-1), value := ({ num := r1.2.2.2.2.2.1, den := r1.2.2.2.2.2.2 } : Ratio), unit := (-1), to := (-1), waived := false } : ClauseT)], days := 9, off := [] } : ContractT) r7 hr7) (snap_of [.agg ([vI 1, .imm (.slice (List.map rowI [0])), .nil, .imm (.slice (List.map ActT.row r1.1)), .mslice 11 0 3, vI 9, .nil])] [(11, .rows 16 [[vI 1, vI 0, vI 0, vI 1, .imm (.slice (List.map CondT.row [])), vI 3, vI 0, vB false, vB false, vI (-1), vI (-1), vI r1.2.1, vI r1.2.2.1, vI (-1), vI (-1), vB false], [vI 2, vI 0, vI 1, vI 1, .imm (.slice (List.map CondT.row [({ clause := 0, is := 2 } : CondT)])), vI 3, vI 0, vB false, vB false, vI (-1), vI (-1), vI r1.2.2.2.1, vI r1.2.2.2.2.1, vI (-1), vI (-1), vB false], [vI 3, vI 0, vI 1, vI 2, .imm (.slice (List.map CondT.row [])), vI 3, vI 0, vB false, vB false, vI (-1), vI (-1), vI r1.2.2.2.2.2.1, vI r1.2.2.2.2.2.2, vI (-1), vI (-1), vB false]])] [.agg (ContractT.row ({ parties := 1, holders := [0], units := [], acts := r1.1, clauses := [({ kind := 1, role := 0, act := 0, need := 1, start := [], after := 3, grace := 0, business := false, final := false, pause := (-1), resume := (-1), value := ({ num := r1.2.1, den := r1.2.2.1 } : Ratio), unit := (-1), to := (-1), waived := false } : ClauseT), ({ kind := 2, role := 0, act := 1, need := 1, start := [({ clause := 0, is := 2 } : CondT)], after := 3, grace := 0, business := false, final := false, pause := (-1), resume := (-1), value := ({ num := r1.2.2.2.1, den := r1.2.2.2.2.1 } : Ratio), unit := (-1), to := (-1), waived := false } : ClauseT), ({ kind := 3, role := 0, act := 1, need := 2, start := [], after := 3, grace := 0, business := false, final := false, pause := (-1), resume := (-1), value := ({ num := r1.2.2.2.2.2.1, den := r1.2.2.2.2.2.2 } : Ratio), unit := (-1), to := (-1), waived := false } : ClauseT)], days := 9, off := [] } : ContractT))] (by kernel_rfl)) .nil)) fun r7 => .use 1 1444 (.reg 1 (.bind (d_Valid ({ parties := 1, holders := [0], units := [], acts := r1.1, clauses := [({ kind := 1, role := 0, act := 0, need := 1, start := [], after := 3, grace := 0, business := false, final := false, pause := (-1), resume := (-1), value := ({ num := r1.2.1, den := r1.2.2.1 } : Ratio), unit := (-1), to := (-1), waived := false } : ClauseT), ({ kind := 2, role := 0, act := 1, need := 1, start := [({ clause := 0, is := 2 } : CondT)], after := 3, grace := 0, business := false, final := false, pause := (-1), resume := (-1), value := ({ num := r1.2.2.2.1, den := r1.2.2.2.2.1 } : Ratio), unit := (-1), to := (-1), waived := false } : ClauseT), ({ kind := 3, role := 0, act := 1, need := 2, start := [], after := 3, grace := 0, business := false, final := false, pause := (-1), resume := (-1), value := ({ num := r1.2.2.2.2.2.1, den := r1.2.2.2.2.2.2 } : Ratio), unit := (-1), to := (-1), waived := false } : ClauseT)], days := 2001, off := [] } : ContractT)) (fun r8 => [(1446, ([.w [11] [.agg (ContractT.row ({ parties := 1, holders := [0], units := [], acts := r1.1, clauses := [({ kind := 1, role := 0, act := 0, need := 1, start := [], after := 3, grace := 0, business := false, final := false, pause := (-1), resume := (-1), value := ({ num := r1.2.1, den := r1.2.2.1 } : Ratio), unit := (-1), to := (-1), waived := false } : ClauseT), ({ kind := 2, role := 0, act := 1, need := 1, start := [({ clause := 0, is := 2 } : CondT)], after := 3, grace := 0, business := false, final := false, pause := (-1), resume := (-1), value := ({ num := r1.2.2.2.1, den := r1.2.2.2.2.1 } : Ratio), unit := (-1), to := (-1), waived := false } : ClauseT), ({ kind := 3, role := 0, act := 1, need := 2, start := [], after := 3, grace := 0, business := false, final := false, pause := (-1), resume := (-1), value := ({ num := r1.2.2.2.2.2.1, den := r1.2.2.2.2.2.2 } : Ratio), unit := (-1), to := (-1), waived := false } : ClauseT)], days := 2001, off := [] } : ContractT))] (.tuple [.int .i64 r8.1, .int .i64 r8.2])], _))]) (fun r8 hr8 => (.c2 (t_Valid ({ parties := 1, holders := [0], units := [], acts := r1.1, clauses := [({ kind := 1, role := 0, act := 0, need := 1, start := [], after := 3, grace := 0, business := false, final := false, pause := (-1), resume := (-1), value := ({ num := r1.2.1, den := r1.2.2.1 } : Ratio), unit := (-1), to := (-1), waived := false } : ClauseT), ({ kind := 2, role := 0, act := 1, need := 1, start := [({ clause := 0, is := 2 } : CondT)], after := 3, grace := 0, business := false, final := false, pause := (-1), resume := (-1), value := ({ num := r1.2.2.2.1, den := r1.2.2.2.2.1 } : Ratio), unit := (-1), to := (-1), waived := false } : ClauseT), ({ kind := 3, role := 0, act := 1, need := 2, start := [], after := 3, grace := 0, business := false, final := false, pause := (-1), resume := (-1), value := ({ num := r1.2.2.2.2.2.1, den := r1.2.2.2.2.2.2 } : Ratio), unit := (-1), to := (-1), waived := false } : ClauseT)], days := 2001, off := [] } : ContractT) r8 hr8) (snap_of [.agg ([vI 1, .imm (.slice (List.map rowI [0])), .nil, .imm (.slice (List.map ActT.row r1.1)), .mslice 11 0 3, vI 2001, .nil])] [(11, .rows 16 [[vI 1, vI 0, vI 0, vI 1, .imm (.slice (List.map CondT.row [])), vI 3, vI 0, vB false, vB false, vI (-1), vI (-1), vI r1.2.1, vI r1.2.2.1, vI (-1), vI (-1), vB false], [vI 2, vI 0, vI 1, vI 1, .imm (.slice (List.map CondT.row [({ clause := 0, is := 2 } : CondT)])), vI 3, vI 0, vB false, vB false, vI (-1), vI (-1), vI r1.2.2.2.1, vI r1.2.2.2.2.1, vI (-1), vI (-1), vB false], [vI 3, vI 0, vI 1, vI 2, .imm (.slice (List.map CondT.row [])), vI 3, vI 0, vB false, vB false, vI (-1), vI (-1), vI r1.2.2.2.2.2.1, vI r1.2.2.2.2.2.2, vI (-1), vI (-1), vB false]])] [.agg (ContractT.row ({ parties := 1, holders := [0], units := [], acts := r1.1, clauses := [({ kind := 1, role := 0, act := 0, need := 1, start := [], after := 3, grace := 0, business := false, final := false, pause := (-1), resume := (-1), value := ({ num := r1.2.1, den := r1.2.2.1 } : Ratio), unit := (-1), to := (-1), waived := false } : ClauseT), ({ kind := 2, role := 0, act := 1, need := 1, start := [({ clause := 0, is := 2 } : CondT)], after := 3, grace := 0, business := false, final := false, pause := (-1), resume := (-1), value := ({ num := r1.2.2.2.1, den := r1.2.2.2.2.1 } : Ratio), unit := (-1), to := (-1), waived := false } : ClauseT), ({ kind := 3, role := 0, act := 1, need := 2, start := [], after := 3, grace := 0, business := false, final := false, pause := (-1), resume := (-1), value := ({ num := r1.2.2.2.2.2.1, den := r1.2.2.2.2.2.2 } : Ratio), unit := (-1), to := (-1), waived := false } : ClauseT)], days := 2001, off := [] } : ContractT))] (by kernel_rfl)) .nil)) fun r8 => .use 1 1446 (.cut (β := Bool) 2 (.e [2, 3, 4, 5, 6, 8, 9, 10, 11, 12, 13] (fun v1 => [(71, vB v1)]) [11, 13, 26, 31, 37, 42, 47] 88) (.reg 0 (.ite 1400 ((r3.length : Int) == 2) (.ite 1402 ((r6.length : Int) == 1) (.ln 1452 (rowL rowI) r3 (.us [(1, 1452), (4, 1401)] (.ln 1450 (rowL rowI) r6 (.us [(5, 1450), (9, 1403)] (.ln 1448 ClauseT.row r4.2.2.2.1 (.use 11 1448 (.ret (!((r4.2.2.2.1.length : Int) == 2))))))))) (.ln 1456 (rowL rowI) r3 (.us [(1, 1456), (4, 1401)] (.ln 1454 (rowL rowI) r6 (.us [(5, 1454), (9, 1403)] (.ret true)))))) (.ln 1460 (rowL rowI) r3 (.us [(1, 1460), (4, 1401)] (.f1 1458 (.g true) (rfl : true = true) (.use 9 1458 (.ret true))))))) fun v1 => .ite 1404 v1 (.sel 1404 (.ret false)) (.sel 1404 (.cut (β := Bool) 1 (.e [8, 10, 11, 12, 13] (fun v2 => [(14, vB v2)]) [] 128) (.reg 0 (.ite 1406 (r2.1 == 0) (.ite 1408 (r2.2 == (-1)) (.ix 1462 (rowL rowI) r3 0 fun e1 => .bind (d_Ints e1 [0]) (fun r9 => [(1464, ([.w [98] [.slice (List.map rowI e1), .slice (List.map rowI [0])] (.bool r9)], _))]) (fun r9 hr9 => (.c2 (t_Ints e1 [0] r9 hr9) (snap_of [.imm (.slice (List.map rowI e1)), .mslice 98 0 1] [(98, .rows 1 [[vI 0]])] [.slice (List.map rowI e1), .slice (List.map rowI [0])] (by kernel_rfl)) .nil)) fun r9 => .ite 1410 r9 (.ix 1466 (rowL rowI) r3 1 fun e2 => .bind (d_Ints e2 [1, 2]) (fun r10 => [(1468, ([.w [105] [.slice (List.map rowI e2), .slice (List.map rowI [1, 2])] (.bool r10)], _))]) (fun r10 hr10 => (.c2 (t_Ints e2 [1, 2] r10 hr10) (snap_of [.imm (.slice (List.map rowI e2)), .mslice 105 0 2] [(105, .rows 1 [[vI 1], [vI 2]])] [.slice (List.map rowI e2), .slice (List.map rowI [1, 2])] (by kernel_rfl)) .nil)) fun r10 => .ite 1412 r10 (.ix 1470 (rowL rowI) r6 0 fun e3 => .bind (d_Ints e3 [0, 1, 2]) (fun r11 => [(1472, ([.w [112] [.slice (List.map rowI e3), .slice (List.map rowI [0, 1, 2])] (.bool r11)], _))]) (fun r11 hr11 => (.c2 (t_Ints e3 [0, 1, 2] r11 hr11) (snap_of [.imm (.slice (List.map rowI e3)), .mslice 112 0 3] [(112, .rows 1 [[vI 0], [vI 1], [vI 2]])] [.slice (List.map rowI e3), .slice (List.map rowI [0, 1, 2])] (by kernel_rfl)) .nil)) fun r11 => .ite 1414 r11 (.ite 1416 (r4.2.2.2.2.2 == 0) (.ix 1474 ClauseT.row r4.2.2.2.1 0 fun e4 => .us [(3, 1406), (7, 1408), (8, 1462), (11, 1464), (14, 1410), (15, 1466), (18, 1468), (21, 1412), (22, 1470), (25, 1472), (28, 1414), (32, 1416), (34, 1474)] (.ret (e4.kind == 2))) (.us [(3, 1406), (7, 1408), (8, 1462), (11, 1464), (14, 1410), (15, 1466), (18, 1468), (21, 1412), (22, 1470), (25, 1472), (28, 1414), (32, 1416)] (.ret false))) (.us [(3, 1406), (7, 1408), (8, 1462), (11, 1464), (14, 1410), (15, 1466), (18, 1468), (21, 1412), (22, 1470), (25, 1472), (28, 1414)] (.f1 1476 (.g false) (rfl : false = false) (.use 32 1476 (.ret false))))) (.us [(3, 1406), (7, 1408), (8, 1462), (11, 1464), (14, 1410), (15, 1466), (18, 1468), (21, 1412)] (.f1 1480 (.g false) (rfl : false = false) (.use 28 1480 (.f1 1478 (.g false) (rfl : false = false) (.use 32 1478 (.ret false))))))) (.us [(3, 1406), (7, 1408), (8, 1462), (11, 1464), (14, 1410)] (.f1 1486 (.g false) (rfl : false = false) (.use 21 1486 (.f1 1484 (.g false) (rfl : false = false) (.use 28 1484 (.f1 1482 (.g false) (rfl : false = false) (.use 32 1482 (.ret false))))))))) (.us [(3, 1406), (7, 1408)] (.f1 1494 (.g false) (rfl : false = false) (.use 14 1494 (.f1 1492 (.g false) (rfl : false = false) (.use 21 1492 (.f1 1490 (.g false) (rfl : false = false) (.use 28 1490 (.f1 1488 (.g false) (rfl : false = false) (.use 32 1488 (.ret false))))))))))) (.use 3 1406 (.f1 1504 (.g false) (rfl : false = false) (.use 7 1504 (.f1 1502 (.g false) (rfl : false = false) (.use 14 1502 (.f1 1500 (.g false) (rfl : false = false) (.use 21 1500 (.f1 1498 (.g false) (rfl : false = false) (.use 28 1498 (.f1 1496 (.g false) (rfl : false = false) (.use 32 1496 (.ret false)))))))))))))) fun v2 => .cut (β := Bool) 1 (.e [] (fun v3 => [(0, vB v3)]) [] 159) (.reg 0 (.ite 1418 v2 (.ite 1420 (r5.2.2.2.2.2 == 1) (.ite 1422 (r7.1 == 1) (.ite 1424 (r7.2 == 2) (.ite 1426 (r8.1 == 3) (.ite 1428 (r8.2 == (-1)) (.b1 1506 (d_17a) (fun r12 => .c [] 0 (.agg ([vI 1, .imm (.slice (List.map rowI [0])), .nil, .imm (.slice (List.map ActT.row r12.1)), .mslice 160 0 3, vI 9, .nil])) [(160, .rows 16 [[vI 1, vI 0, vI 0, vI 1, .imm (.slice (List.map CondT.row [])), vI 3, vI 0, vB false, vB false, vI (-1), vI (-1), vI r12.2.1, vI r12.2.2.1, vI (-1), vI (-1), vB false], [vI 2, vI 0, vI 1, vI 1, .imm (.slice (List.map CondT.row [])), vI 3, vI 0, vB false, vB false, vI (-1), vI (-1), vI r12.2.2.2.1, vI r12.2.2.2.2.1, vI (-1), vI (-1), vB false], [vI 3, vI 0, vI 1, vI 1, .imm (.slice (List.map CondT.row [])), vI 3, vI 0, vB false, vB false, vI (-1), vI (-1), vI r12.2.2.2.2.2.1, vI r12.2.2.2.2.2.2, vI (-1), vI (-1), vB false]])] 11) (fun r12 hr12 => (call_side (t_17a r12 hr12) [] 150 (.keep .nil) rhN (rhR rhN))) fun r12 => .bind (d_Linked ({ parties := 1, holders := [0], units := [], acts := r12.1, clauses := [({ kind := 1, role := 0, act := 0, need := 1, start := [], after := 3, grace := 0, business := false, final := false, pause := (-1), resume := (-1), value := ({ num := r12.2.1, den := r12.2.2.1 } : Ratio), unit := (-1), to := (-1), waived := false } : ClauseT), ({ kind := 2, role := 0, act := 1, need := 1, start := [], after := 3, grace := 0, business := false, final := false, pause := (-1), resume := (-1), value := ({ num := r12.2.2.2.1, den := r12.2.2.2.2.1 } : Ratio), unit := (-1), to := (-1), waived := false } : ClauseT), ({ kind := 3, role := 0, act := 1, need := 1, start := [], after := 3, grace := 0, business := false, final := false, pause := (-1), resume := (-1), value := ({ num := r12.2.2.2.2.2.1, den := r12.2.2.2.2.2.2 } : Ratio), unit := (-1), to := (-1), waived := false } : ClauseT)], days := 9, off := [] } : ContractT) 1 2) (fun r13 => [(1508, ([.w [160] [.agg (ContractT.row ({ parties := 1, holders := [0], units := [], acts := r12.1, clauses := [({ kind := 1, role := 0, act := 0, need := 1, start := [], after := 3, grace := 0, business := false, final := false, pause := (-1), resume := (-1), value := ({ num := r12.2.1, den := r12.2.2.1 } : Ratio), unit := (-1), to := (-1), waived := false } : ClauseT), ({ kind := 2, role := 0, act := 1, need := 1, start := [], after := 3, grace := 0, business := false, final := false, pause := (-1), resume := (-1), value := ({ num := r12.2.2.2.1, den := r12.2.2.2.2.1 } : Ratio), unit := (-1), to := (-1), waived := false } : ClauseT), ({ kind := 3, role := 0, act := 1, need := 1, start := [], after := 3, grace := 0, business := false, final := false, pause := (-1), resume := (-1), value := ({ num := r12.2.2.2.2.2.1, den := r12.2.2.2.2.2.2 } : Ratio), unit := (-1), to := (-1), waived := false } : ClauseT)], days := 9, off := [] } : ContractT)), .int .i64 1, .int .i64 2] (.bool r13)], _))]) (fun r13 hr13 => (.c2 (t_Linked ({ parties := 1, holders := [0], units := [], acts := r12.1, clauses := [({ kind := 1, role := 0, act := 0, need := 1, start := [], after := 3, grace := 0, business := false, final := false, pause := (-1), resume := (-1), value := ({ num := r12.2.1, den := r12.2.2.1 } : Ratio), unit := (-1), to := (-1), waived := false } : ClauseT), ({ kind := 2, role := 0, act := 1, need := 1, start := [], after := 3, grace := 0, business := false, final := false, pause := (-1), resume := (-1), value := ({ num := r12.2.2.2.1, den := r12.2.2.2.2.1 } : Ratio), unit := (-1), to := (-1), waived := false } : ClauseT), ({ kind := 3, role := 0, act := 1, need := 1, start := [], after := 3, grace := 0, business := false, final := false, pause := (-1), resume := (-1), value := ({ num := r12.2.2.2.2.2.1, den := r12.2.2.2.2.2.2 } : Ratio), unit := (-1), to := (-1), waived := false } : ClauseT)], days := 9, off := [] } : ContractT) 1 2 r13 hr13) (snap_of [.agg ([vI 1, .imm (.slice (List.map rowI [0])), .nil, .imm (.slice (List.map ActT.row r12.1)), .mslice 160 0 3, vI 9, .nil]), vI 1, vI 2] [(160, .rows 16 [[vI 1, vI 0, vI 0, vI 1, .imm (.slice (List.map CondT.row [])), vI 3, vI 0, vB false, vB false, vI (-1), vI (-1), vI r12.2.1, vI r12.2.2.1, vI (-1), vI (-1), vB false], [vI 2, vI 0, vI 1, vI 1, .imm (.slice (List.map CondT.row [])), vI 3, vI 0, vB false, vB false, vI (-1), vI (-1), vI r12.2.2.2.1, vI r12.2.2.2.2.1, vI (-1), vI (-1), vB false], [vI 3, vI 0, vI 1, vI 1, .imm (.slice (List.map CondT.row [])), vI 3, vI 0, vB false, vB false, vI (-1), vI (-1), vI r12.2.2.2.2.2.1, vI r12.2.2.2.2.2.2, vI (-1), vI (-1), vB false]])] [.agg (ContractT.row ({ parties := 1, holders := [0], units := [], acts := r12.1, clauses := [({ kind := 1, role := 0, act := 0, need := 1, start := [], after := 3, grace := 0, business := false, final := false, pause := (-1), resume := (-1), value := ({ num := r12.2.1, den := r12.2.2.1 } : Ratio), unit := (-1), to := (-1), waived := false } : ClauseT), ({ kind := 2, role := 0, act := 1, need := 1, start := [], after := 3, grace := 0, business := false, final := false, pause := (-1), resume := (-1), value := ({ num := r12.2.2.2.1, den := r12.2.2.2.2.1 } : Ratio), unit := (-1), to := (-1), waived := false } : ClauseT), ({ kind := 3, role := 0, act := 1, need := 1, start := [], after := 3, grace := 0, business := false, final := false, pause := (-1), resume := (-1), value := ({ num := r12.2.2.2.2.2.1, den := r12.2.2.2.2.2.2 } : Ratio), unit := (-1), to := (-1), waived := false } : ClauseT)], days := 9, off := [] } : ContractT)), .int .i64 1, .int .i64 2] (by kernel_rfl)) .nil)) fun r13 => .ite 1430 r13 (.b1 1510 (d_17a) (fun r14 => .c [] 0 (.agg ([vI 1, .imm (.slice (List.map rowI [0])), .nil, .imm (.slice (List.map ActT.row r14.1)), .mslice 175 0 3, vI 9, .nil])) [(175, .rows 16 [[vI 1, vI 0, vI 0, vI 1, .imm (.slice (List.map CondT.row [])), vI 3, vI 0, vB false, vB false, vI (-1), vI (-1), vI r14.2.1, vI r14.2.2.1, vI (-1), vI (-1), vB false], [vI 2, vI 0, vI 1, vI 1, .imm (.slice (List.map CondT.row [])), vI 3, vI 0, vB false, vB false, vI (-1), vI (-1), vI r14.2.2.2.1, vI r14.2.2.2.2.1, vI (-1), vI (-1), vB false], [vI 3, vI 0, vI 1, vI 1, .imm (.slice (List.map CondT.row [])), vI 3, vI 0, vB false, vB false, vI (-1), vI (-1), vI r14.2.2.2.2.2.1, vI r14.2.2.2.2.2.2, vI (-1), vI (-1), vB false]])] 11) (fun r14 hr14 => (call_side (t_17a r14 hr14) [] 165 (.keep .nil) rhN (rhR rhN))) fun r14 => .bind (d_Linked ({ parties := 1, holders := [0], units := [], acts := r14.1, clauses := [({ kind := 1, role := 0, act := 0, need := 1, start := [], after := 3, grace := 0, business := false, final := false, pause := (-1), resume := (-1), value := ({ num := r14.2.1, den := r14.2.2.1 } : Ratio), unit := (-1), to := (-1), waived := false } : ClauseT), ({ kind := 2, role := 0, act := 1, need := 1, start := [], after := 3, grace := 0, business := false, final := false, pause := (-1), resume := (-1), value := ({ num := r14.2.2.2.1, den := r14.2.2.2.2.1 } : Ratio), unit := (-1), to := (-1), waived := false } : ClauseT), ({ kind := 3, role := 0, act := 1, need := 1, start := [], after := 3, grace := 0, business := false, final := false, pause := (-1), resume := (-1), value := ({ num := r14.2.2.2.2.2.1, den := r14.2.2.2.2.2.2 } : Ratio), unit := (-1), to := (-1), waived := false } : ClauseT)], days := 9, off := [] } : ContractT) 0 2) (fun r15 => [(1512, ([.w [175] [.agg (ContractT.row ({ parties := 1, holders := [0], units := [], acts := r14.1, clauses := [({ kind := 1, role := 0, act := 0, need := 1, start := [], after := 3, grace := 0, business := false, final := false, pause := (-1), resume := (-1), value := ({ num := r14.2.1, den := r14.2.2.1 } : Ratio), unit := (-1), to := (-1), waived := false } : ClauseT), ({ kind := 2, role := 0, act := 1, need := 1, start := [], after := 3, grace := 0, business := false, final := false, pause := (-1), resume := (-1), value := ({ num := r14.2.2.2.1, den := r14.2.2.2.2.1 } : Ratio), unit := (-1), to := (-1), waived := false } : ClauseT), ({ kind := 3, role := 0, act := 1, need := 1, start := [], after := 3, grace := 0, business := false, final := false, pause := (-1), resume := (-1), value := ({ num := r14.2.2.2.2.2.1, den := r14.2.2.2.2.2.2 } : Ratio), unit := (-1), to := (-1), waived := false } : ClauseT)], days := 9, off := [] } : ContractT)), .int .i64 0, .int .i64 2] (.bool r15)], _))]) (fun r15 hr15 => (.c2 (t_Linked ({ parties := 1, holders := [0], units := [], acts := r14.1, clauses := [({ kind := 1, role := 0, act := 0, need := 1, start := [], after := 3, grace := 0, business := false, final := false, pause := (-1), resume := (-1), value := ({ num := r14.2.1, den := r14.2.2.1 } : Ratio), unit := (-1), to := (-1), waived := false } : ClauseT), ({ kind := 2, role := 0, act := 1, need := 1, start := [], after := 3, grace := 0, business := false, final := false, pause := (-1), resume := (-1), value := ({ num := r14.2.2.2.1, den := r14.2.2.2.2.1 } : Ratio), unit := (-1), to := (-1), waived := false } : ClauseT), ({ kind := 3, role := 0, act := 1, need := 1, start := [], after := 3, grace := 0, business := false, final := false, pause := (-1), resume := (-1), value := ({ num := r14.2.2.2.2.2.1, den := r14.2.2.2.2.2.2 } : Ratio), unit := (-1), to := (-1), waived := false } : ClauseT)], days := 9, off := [] } : ContractT) 0 2 r15 hr15) (snap_of [.agg ([vI 1, .imm (.slice (List.map rowI [0])), .nil, .imm (.slice (List.map ActT.row r14.1)), .mslice 175 0 3, vI 9, .nil]), vI 0, vI 2] [(175, .rows 16 [[vI 1, vI 0, vI 0, vI 1, .imm (.slice (List.map CondT.row [])), vI 3, vI 0, vB false, vB false, vI (-1), vI (-1), vI r14.2.1, vI r14.2.2.1, vI (-1), vI (-1), vB false], [vI 2, vI 0, vI 1, vI 1, .imm (.slice (List.map CondT.row [])), vI 3, vI 0, vB false, vB false, vI (-1), vI (-1), vI r14.2.2.2.1, vI r14.2.2.2.2.1, vI (-1), vI (-1), vB false], [vI 3, vI 0, vI 1, vI 1, .imm (.slice (List.map CondT.row [])), vI 3, vI 0, vB false, vB false, vI (-1), vI (-1), vI r14.2.2.2.2.2.1, vI r14.2.2.2.2.2.2, vI (-1), vI (-1), vB false]])] [.agg (ContractT.row ({ parties := 1, holders := [0], units := [], acts := r14.1, clauses := [({ kind := 1, role := 0, act := 0, need := 1, start := [], after := 3, grace := 0, business := false, final := false, pause := (-1), resume := (-1), value := ({ num := r14.2.1, den := r14.2.2.1 } : Ratio), unit := (-1), to := (-1), waived := false } : ClauseT), ({ kind := 2, role := 0, act := 1, need := 1, start := [], after := 3, grace := 0, business := false, final := false, pause := (-1), resume := (-1), value := ({ num := r14.2.2.2.1, den := r14.2.2.2.2.1 } : Ratio), unit := (-1), to := (-1), waived := false } : ClauseT), ({ kind := 3, role := 0, act := 1, need := 1, start := [], after := 3, grace := 0, business := false, final := false, pause := (-1), resume := (-1), value := ({ num := r14.2.2.2.2.2.1, den := r14.2.2.2.2.2.2 } : Ratio), unit := (-1), to := (-1), waived := false } : ClauseT)], days := 9, off := [] } : ContractT)), .int .i64 0, .int .i64 2] (by kernel_rfl)) .nil)) fun r15 => .us [(2, 1418), (6, 1420), (10, 1422), (14, 1424), (18, 1426), (22, 1428), (22, 1506), (23, 1508), (26, 1430), (26, 1510), (27, 1512)] (.ret (!r15))) (.us [(2, 1418), (6, 1420), (10, 1422), (14, 1424), (18, 1426), (22, 1428), (22, 1506), (23, 1508), (26, 1430)] (.ret false))) (.us [(2, 1418), (6, 1420), (10, 1422), (14, 1424), (18, 1426), (22, 1428)] (.f1 1514 (.g false) (rfl : false = false) (.use 26 1514 (.ret false))))) (.us [(2, 1418), (6, 1420), (10, 1422), (14, 1424), (18, 1426)] (.f1 1518 (.g false) (rfl : false = false) (.use 22 1518 (.f1 1516 (.g false) (rfl : false = false) (.use 26 1516 (.ret false))))))) (.us [(2, 1418), (6, 1420), (10, 1422), (14, 1424)] (.f1 1524 (.g false) (rfl : false = false) (.use 18 1524 (.f1 1522 (.g false) (rfl : false = false) (.use 22 1522 (.f1 1520 (.g false) (rfl : false = false) (.use 26 1520 (.ret false))))))))) (.us [(2, 1418), (6, 1420), (10, 1422)] (.f1 1532 (.g false) (rfl : false = false) (.use 14 1532 (.f1 1530 (.g false) (rfl : false = false) (.use 18 1530 (.f1 1528 (.g false) (rfl : false = false) (.use 22 1528 (.f1 1526 (.g false) (rfl : false = false) (.use 26 1526 (.ret false))))))))))) (.us [(2, 1418), (6, 1420)] (.f1 1542 (.g false) (rfl : false = false) (.use 10 1542 (.f1 1540 (.g false) (rfl : false = false) (.use 14 1540 (.f1 1538 (.g false) (rfl : false = false) (.use 18 1538 (.f1 1536 (.g false) (rfl : false = false) (.use 22 1536 (.f1 1534 (.g false) (rfl : false = false) (.use 26 1534 (.ret false))))))))))))) (.use 2 1418 (.f1 1554 (.g false) (rfl : false = false) (.use 6 1554 (.f1 1552 (.g false) (rfl : false = false) (.use 10 1552 (.f1 1550 (.g false) (rfl : false = false) (.use 14 1550 (.f1 1548 (.g false) (rfl : false = false) (.use 18 1548 (.f1 1546 (.g false) (rfl : false = false) (.use 22 1546 (.f1 1544 (.g false) (rfl : false = false) (.use 26 1544 (.ret false)))))))))))))))) fun v3 => .ret v3)))))))))))))))))))
theorem t_head  (res : Bool) (hd : d_head  = some res) : APure C0 6 [] (.bool res) :=
  Plan.pure (iv := fun res => .bool res) (p_head ) (by kernel_rfl) (Plan.run_of hd (by kernel_rfl))

noncomputable def d_ContractParts (c : ContractT) (choice : Int) : Option Bool :=
  (Option.bind (d_head) fun r1 => (Option.bind (d_Few c 60) fun r2 => (bif r2 then (Option.bind (d_Valid c) fun r3 => (Option.bind (d_Components c) fun r4 => (bif (r3.1 == 0) then (Option.bind (mkN 8 (c.clauses.length : Int)) fun k1 => (Option.bind (forR (σ := (List Int)) (ρ := Unit) (r4.length : Int) (fun i1 s1 => (Option.bind (α := (List Int) ⊕ Unit) (Option.bind (Option.bind (idxI r4 (i1 : Int)) fun e1 => (bif ((e1.length : Int) == 0) then some true else (bif decide (0 < (i1 : Int)) then (Option.bind (idxI r4 (if (IntKind.i64.wrap ((i1 : Int) - 1)) < 0 then 0 else (IntKind.i64.wrap ((i1 : Int) - 1)))) fun e2 => (Option.bind (idxI e2 0) fun e3 => (Option.bind (idxI e1 0) fun e4 => some (decide (e4 ≤ e3))))) else some false))) fun v2 => (bif v2 then some (.inr ()) else (Option.bind (iter (σ := Int × (List Int)) (ρ := (List Int) ⊕ Unit) (fun s2 => (Option.bind (idxI r4 (i1 : Int)) fun e5 => (bif decide (s2.1 < (e5.length : Int)) then (Option.bind (idxI r4 (i1 : Int)) fun e6 => (Option.bind (idxI e6 s2.1) fun e7 => (Option.bind (bif decide (e7 < 0) then some true else (bif decide ((c.clauses.length : Int) ≤ e7) then some true else (bif decide (0 < s2.1) then (Option.bind (idxI r4 (i1 : Int)) fun e8 => (Option.bind (idxI e8 (if (IntKind.i64.wrap (s2.1 - 1)) < 0 then 0 else (IntKind.i64.wrap (s2.1 - 1)))) fun e9 => some (decide (e7 ≤ e9)))) else some false))) fun v3 => (bif v3 then some (.inr (.inr ())) else (Option.bind (idxN k1 e7) fun k2 => (Option.bind (s2.2[k2]?) fun e10 => some (.inl ((IntKind.i64.wrap (s2.1 + 1)), (s2.2.set k2 (IntKind.i64.wrap (e10 + 1))))))))))) else some (.inr (.inl s2.2))))) (0, s1)) (Sum.elim (fun (y1 : (List Int)) => some (.inl y1)) (fun (y2 : Unit) => some (.inr ())))))) (Sum.elim (fun (v4 : (List Int)) => some (.inl v4)) (fun (y3 : Unit) => some (.inr ()))))) (List.replicate k1 0)) (Sum.elim (fun (s1 : (List Int)) => (Option.bind (forR (σ := (List Int)) (ρ := Unit) (c.clauses.length : Int) (fun i3 s3 => (Option.bind (α := (List Int) ⊕ Unit) (Option.bind (d_part r4 (i3 : Int)) fun r5 => (Option.bind (Option.bind (idxN k1 (i3 : Int)) fun k3 => (Option.bind (s1[k3]?) fun e11 => (bif (e11 == 1) then some (decide (r5 < 0)) else some true))) fun v5 => (bif v5 then some (.inr ()) else (Option.bind (remI .u64 (IntKind.u64.wrap r5) 64) fun e12 => (Option.bind (shrI .u64 .u64 choice e12) fun e13 => (bif ((IntKind.u64.wrap ((BitVec.ofInt IntKind.u64.bits e13 &&& BitVec.ofInt IntKind.u64.bits 1).toNat)) == 1) then (Option.bind (appI (α := Int) 8 s3 [(i3 : Int)]) fun e14 => some (.inl e14)) else some (.inl s3))))))) (Sum.elim (fun (v6 : (List Int)) => some (.inl v6)) (fun (y5 : Unit) => some (.inr ()))))) []) (Sum.elim (fun (s3 : (List Int)) => (Option.bind (d_Part c s3) fun r6 => (Option.bind (d_Valid r6.1) fun r7 => (Option.bind (bif r1 then (bif (r6.2 == 0) then (bif (r7.1 == 0) then some ((r6.1.clauses.length : Int) == (s3.length : Int)) else some false) else some false) else some false) fun v7 => some v7)))) (fun (y6 : Unit) => some false)))) (fun (y4 : Unit) => some false)))) else (Option.bind (bif r1 then some ((r4.length : Int) == 0) else some false) fun v1 => some v1)))) else some r1)))
noncomputable def p_ContractParts (c : ContractT) (choice : Int) : Plan Bool :=
  .reg 1 (.call 1812 t_head fun r1 => .use 0 1812 (.reg 0 (.call 1814 (t_Few c 60) fun r2 => .use 1 1814 (.ite 1734 r2 (.sel 1735 (.reg 0 (.call 1816 (t_Valid c) fun r3 => .use 1 1816 (.reg 0 (.call 1818 (t_Components c) fun r4 => .use 1 1818 (.ite 1736 (r3.1 == 0) (.sel 1737 (.reg 0 (.b1 1822 (mkN 8 (c.clauses.length : Int)) (fun k1 => .m k1 (rowsA rowI (List.replicate k1 0))) (fun k1 hk1 => (mks_side rowI 0 hk1)) fun k1 => .ln 1898 ClauseT.row c.clauses (.us [(2, 1898), (3, 1822)] (.forR (σ := (List Int)) (ρ := Unit) 1740 10 (r4.length : Int) (List.replicate k1 0) (⟨[1, 2, 5, 8, 9], fun _ => [], [0], fun s1 => [(22, .rows 1 (rowsA rowI s1))], 25, fun _ => (.rows rfl .nil)⟩) (fun i1 s1 => .reg 0 (.ln 1864 (rowL rowI) r4 (.use 2 1864 (.sel 1740 (.cutO (β := (List Int)) (γ := Unit) 1 (⟨[1, 2, 5, 8, 9, 10], fun _ => [], [0], fun v4 => [(22, .rows 1 (rowsA rowI v4))], 57, fun _ => (.rows rfl .nil)⟩) (.cut (β := Bool) 3 (⟨[1, 2, 5, 8, 9, 10], fun v2 => [(76, vB v2)], [0], fun _ => [(22, .rows 1 (rowsA rowI s1))], 56, fun _ => (.rows rfl .nil)⟩) (.reg 0 (.ix 1824 (rowL rowI) r4 (i1 : Int) fun e1 => .ite 1770 ((e1.length : Int) == 0) (.use 2 1824 (.ln 1826 rowI e1 (.us [(4, 1826), (7, 1770)] (.ret true)))) (.ite 1772 (decide (0 < (i1 : Int))) (.ix 1828 (rowL rowI) r4 (if (IntKind.i64.wrap ((i1 : Int) - 1)) < 0 then 0 else (IntKind.i64.wrap ((i1 : Int) - 1))) fun e2 => .ix 1830 rowI e2 0 fun e3 => .ix 1832 rowI e1 0 fun e4 => .use 2 1824 (.ln 1834 rowI e1 (.us [(4, 1834), (7, 1770), (10, 1772), (14, 1828), (16, 1830), (20, 1824), (22, 1832)] (.ret (decide (e4 ≤ e3)))))) (.use 2 1824 (.ln 1836 rowI e1 (.us [(4, 1836), (7, 1770), (10, 1772)] (.ret false))))))) fun v2 => .ite 1774 v2 (.sel 1774 (.ret (.inr ()))) (.sel 1774 (.iter (σ := Int × (List Int)) (ρ := (List Int) ⊕ Unit) (0, s1) (⟨[1, 2, 5, 8, 9, 10], fun s2 => [(11, vI s2.1)], [0], fun s2 => [(22, .rows 1 (rowsA rowI s2.2))], 57, fun _ => (.rows rfl .nil)⟩) (fun s2 => .reg 0 (.ix 1838 (rowL rowI) r4 (i1 : Int) fun e5 => .use 3 1838 (.ln 1862 rowI e5 (.use 5 1862 (.ite 1788 (decide (s2.1 < (e5.length : Int))) (.sel 1788 (.reg 0 (.ix 1840 (rowL rowI) r4 (i1 : Int) fun e6 => .ix 1842 rowI e6 s2.1 fun e7 => .us [(2, 1840), (5, 1842)] (.cut (β := Bool) 2 (⟨[1, 2, 5, 8, 9, 10, 11, 12], fun v3 => [(118, vB v3)], [0], fun _ => [(22, .rows 1 (rowsA rowI s2.2))], 98, fun _ => (.rows rfl .nil)⟩) (.reg 0 (.ite 1790 (decide (e7 < 0)) (.use 3 1790 (.f1 1844 (.g true) (rfl : true = true) (.use 10 1844 (.ret true)))) (.ite 1792 (decide ((c.clauses.length : Int) ≤ e7)) (.use 3 1790 (.ln 1846 ClauseT.row c.clauses (.us [(6, 1846), (10, 1792)] (.ret true)))) (.ite 1794 (decide (0 < s2.1)) (.ix 1848 (rowL rowI) r4 (i1 : Int) fun e8 => .ix 1850 rowI e8 (if (IntKind.i64.wrap (s2.1 - 1)) < 0 then 0 else (IntKind.i64.wrap (s2.1 - 1))) fun e9 => .use 3 1790 (.ln 1852 ClauseT.row c.clauses (.us [(6, 1852), (10, 1792), (13, 1794), (15, 1848), (20, 1850)] (.ret (decide (e7 ≤ e9)))))) (.use 3 1790 (.ln 1854 ClauseT.row c.clauses (.us [(6, 1854), (10, 1792), (13, 1794)] (.ret false)))))))) fun v3 => .ite 1796 v3 (.sel 1796 (.ret (.inr (.inr ())))) (.sel 1796 (.reg 0 (.b1 1856 (idxN k1 e7) (fun k2 => .k k2) (fun k2 hk2 => (midx_side hk2)) fun k2 => .bind (s2.2[k2]?) (fun e10 => [(1858, ([.ar (rowA (rowI e10))], _)), (1860, ([.aw (rowA (rowI e10)) (rowsA rowI (s2.2.set k2 (IntKind.i64.wrap (e10 + 1))))], _))]) (fun e10 he10 => (.c1 (row_side rowI he10) (.c1 (sto_side rowI (IntKind.i64.wrap (e10 + 1)) he10) .nil))) fun e10 => .us [(2, 1856), (3, 1858), (5, 1856), (6, 1860)] (.ret (.inl ((IntKind.i64.wrap (s2.1 + 1)), (s2.2.set k2 (IntKind.i64.wrap (e10 + 1))))))))))))) (.sel 1788 (.ret (.inr (.inl s2.2))))))))) fun os2 => .case os2 (fun y1 => .ret (.inl y1)) fun y2 => .ret (.inr ())))) fun o_v4 => .case o_v4 (fun v4 => .ret (.inl v4)) fun y3 => .ret (.inr ())))))) fun os1 => .case os1 (fun s1 => .reg 0 (.ln 1896 (rowL rowI) r4 (.use 2 1896 (.sel 1740 (.weak 4 [wNil 13 1] (.forR (σ := (List Int)) (ρ := Unit) 1798 14 (c.clauses.length : Int) [] (⟨[1, 2, 5, 8, 9], fun s3 => [(13, .gslice 31 (List.map rowI s3))], [0], fun s3 => [(22, .rows 1 (rowsA rowI s1)), (31, .tip 1 s3.length)], 32, fun _ => (.rows rfl (.exp rfl rfl .nil))⟩) (fun i3 s3 => .reg 0 (.ln 1878 ClauseT.row c.clauses (.use 3 1878 (.sel 1798 (.cutO (β := (List Int)) (γ := Unit) 1 (⟨[1, 2, 5, 8, 9, 14], fun v6 => [(13, .gslice 31 (List.map rowI v6))], [0], fun v6 => [(22, .rows 1 (rowsA rowI s1)), (31, .tip 1 v6.length)], 57, fun _ => (.rows rfl (.exp rfl rfl .nil))⟩) (.reg 0 (.call 1866 (t_part r4 (i3 : Int)) fun r5 => .use 2 1866 (.cut (β := Bool) 2 (⟨[1, 2, 5, 8, 9, 13, 14, 15], fun v5 => [(143, vB v5)], [0, 31], fun _ => [(22, .rows 1 (rowsA rowI s1))], 50, fun _ => (.rows rfl .nil)⟩) (.reg 0 (.b1 1868 (idxN k1 (i3 : Int)) (fun k3 => .k k3) (fun k3 hk3 => (midx_side hk3)) fun k3 => .b1 1870 (s1[k3]?) (fun e11 => .ar (rowA (rowI e11))) (fun e11 he11 => (row_side rowI he11)) fun e11 => .ite 1800 (e11 == 1) (.us [(2, 1868), (3, 1870), (6, 1801)] (.ret (decide (r5 < 0)))) (.us [(2, 1868), (3, 1870), (6, 1801)] (.ret true)))) fun v5 => .ite 1802 v5 (.sel 1802 (.ret (.inr ()))) (.sel 1802 (.reg 0 (.b1 1872 (remI .u64 (IntKind.u64.wrap r5) 64) (fun e12 => .v (.int .u64 e12)) (fun e12 he12 => (rem_side he12)) fun e12 => .b1 1874 (shrI .u64 .u64 choice e12) (fun e13 => .v (.int .u64 e13)) (fun e13 he13 => (shr_side he13)) fun e13 => .us [(3, 1872), (4, 1874)] (.ite 1804 ((IntKind.u64.wrap ((BitVec.ofInt IntKind.u64.bits e13 &&& BitVec.ofInt IntKind.u64.bits 1).toNat)) == 1) (.sel 1804 (.reg 0 (.b1 1876 (appI (α := Int) 8 s3 [(i3 : Int)]) (fun e14 => .a (List.map rowI e14) e14.length) (fun e14 he14 => (app_side rowI 1 8 (fun _ => rfl) he14)) fun e14 => .use 3 1876 (.ret (.inl e14))))) (.sel 1804 (.ret (.inl s3)))))))))) fun o_v6 => .case o_v6 (fun v6 => .ret (.inl v6)) fun y5 => .ret (.inr ())))))) fun os3 => .case os3 (fun s3 => .reg 0 (.ln 1894 ClauseT.row c.clauses (.use 3 1894 (.sel 1798 (.reg 0 (.call 1880 (t_Part c s3) fun r6 => .use 2 1880 (.reg 0 (.call 1882 (t_Valid r6.1) fun r7 => .use 1 1882 (.cut (β := Bool) 1 (⟨[], fun v7 => [(4, vB v7)], [0, 31, 43], fun _ => [(22, .rows 1 (rowsA rowI s1))], 71, fun _ => (.rows rfl .nil)⟩) (.reg 0 (.ite 1806 r1 (.ite 1808 (r6.2 == 0) (.ite 1810 (r7.1 == 0) (.us [(2, 1806), (6, 1808), (10, 1810)] (.ln 1886 ClauseT.row r6.1.clauses (.use 12 1886 (.ln 1884 rowI s3 (.use 14 1884 (.ret ((r6.1.clauses.length : Int) == (s3.length : Int)))))))) (.us [(2, 1806), (6, 1808), (10, 1810)] (.ret false))) (.us [(2, 1806), (6, 1808)] (.f1 1888 (.g false) (rfl : false = false) (.use 10 1888 (.ret false))))) (.use 2 1806 (.f1 1892 (.g false) (rfl : false = false) (.use 6 1892 (.f1 1890 (.g false) (rfl : false = false) (.use 10 1890 (.ret false)))))))) fun v7 => .ret v7))))))))) fun y6 => .ret false)))))) fun y4 => .ret false))))) (.sel 1737 (.cut (β := Bool) 1 (.e [] (fun v1 => [(4, vB v1)]) [0] 26) (.reg 0 (.ite 1738 r1 (.use 2 1738 (.ln 1820 (rowL rowI) r4 (.use 3 1820 (.ret ((r4.length : Int) == 0))))) (.use 2 1738 (.ret false)))) fun v1 => .ret v1)))))))) (.sel 1735 (.ret r1))))))
theorem t_ContractParts (c : ContractT) (choice : Int) (res : Bool) (hd : d_ContractParts c choice = some res) : APure C0 3 [.agg (ContractT.row c), .int .u64 choice] (.bool res) :=
  Plan.pure (iv := fun res => .bool res) (p_ContractParts c choice) (by kernel_rfl) (Plan.run_of hd (by kernel_rfl))

end Go.Proofs.Ytgligibbgobmnaa
namespace Go.Proofs.Ytgligibbgobmnaa
open Go.RowKit Go.ChangeShapes Go.WideShapes
set_option linter.unusedVariables false
set_option linter.unusedSimpArgs false

inductive CTy where
  | bool
  | int (k : IntKind)
  | str
  | slice (by_ : Nat) (row : List CTy)

inductive HasC : CTy → IV → Prop where
  | bool (b : Bool) : HasC .bool (.bool b)
  | int (k : IntKind) (n : Int) (h : k.min ≤ n ∧ n ≤ k.max) : HasC (.int k) (.int k n)
  | str (s : ByteArray) (h : s.size ≤ reachBytes) : HasC .str (.str s)
  | slice (by_ : Nat) (tys : List CTy) (rows : List (List IV)) (hl : rows.length * by_ ≤ reachBytes) (hr : ∀ row ∈ rows, row.length = tys.length)
      (hc : ∀ row ∈ rows, ∀ (i : Nat) (t : CTy) (c : IV), tys[i]? = some t → row[i]? = some c → HasC t c) : HasC (.slice by_ tys) (.slice rows)

def HasCs (tys : List CTy) (row : List IV) : Prop := row.length = tys.length ∧ ∀ (i : Nat) (t : CTy) (c : IV), tys[i]? = some t → row[i]? = some c → HasC t c

def fieldsC (P : Program) (f : TypeId → Option (List CTy)) : Nat → List Field → Option (List CTy)
  | _, [] => some []
  | off, x :: r => if x.offset = off then match f x.type with
      | some a => if a.length = P.cellsOf x.type then match fieldsC P f (off + a.length) r with
          | some b => some (a ++ b)
          | none => none
        else none
      | none => none
    else none

def ctys (P : Program) : Nat → TypeId → Option (List CTy)
  | 0, _ => none
  | n + 1, t => match P.underlying t with
    | some .bool => some [.bool]
    | some (.int k) => some [.int k]
    | some .string => some [.str]
    | some (.slice e) => match ctys P n e with
      | some r => if r.length = P.cellsOf e ∧ 0 < r.length then some [.slice (P.bytesOf e) r] else none
      | none => none
    | some (.struct fs) => match fieldsC P (ctys P n) 0 fs.toList with
      | some r => if r.length = P.cellsOf t then some r else none
      | none => none
    | _ => none

def zOf (w : World) (b : Nat) : Nat := match w.heap[b]? with
  | some (.cells c _ _) => c.size
  | _ => 0

theorem zOf_lt {w : World} {b : Nat} (h : 0 < zOf w b) : b < w.heap.size := by
  unfold zOf at h
  split at h
  · rename_i c t f e; exact (Array.getElem?_eq_some_iff.1 e).1
  · omega

theorem cell_z {w : World} {b off : Nat} {s : Option Nat} {v : Value} (h : w.cell? ⟨b, off, s⟩ = some v) : s = none ∧ off < zOf w b := by
  unfold World.cell? at h
  unfold zOf
  simp only at h
  split at h
  · rename_i c t f e
    rw [e]
    cases s with
    | some _ => simp at h
    | none => simp at h; exact ⟨rfl, (Array.getElem?_eq_some_iff.1 h).1⟩
  · cases h

theorem mapM_at {α β : Type} {f : α → Option β} : ∀ {l : List α} {ys : List β}, l.mapM f = some ys → ys.length = l.length ∧ ∀ (i : Nat) (x : α), l[i]? = some x → ∃ y, ys[i]? = some y ∧ f x = some y
  | [], ys, h => by
    simp at h; subst h; exact ⟨rfl, fun i x hx => by simp at hx⟩
  | a :: l, ys, h => by
    rw [List.mapM_cons] at h
    simp only [Option.bind_eq_bind, Option.bind_eq_some_iff, Option.pure_def, Option.some.injEq] at h
    obtain ⟨y, hy, r, hr, rfl⟩ := h
    obtain ⟨h1, h2⟩ := mapM_at hr
    refine ⟨by simp [h1], fun i x hx => ?_⟩
    cases i with
    | zero => simp at hx; subst hx; exact ⟨y, rfl, hy⟩
    | succ i => exact h2 i x (by simpa using hx)

theorem RCs.app {Z : Nat → Nat} {w : World} {a b : List IV} {x y : List Value} (h1 : RCs Z w a x) (h2 : RCs Z w b y) : RCs Z w (a ++ b) (x ++ y) := by
  refine ⟨by simp [h1.1, h2.1], fun j c u hc hu => ?_⟩
  rcases Nat.lt_or_ge j a.length with h | h
  · rw [List.getElem?_append_left h] at hc
    rw [List.getElem?_append_left (by rw [← h1.1]; exact h)] at hu
    exact h1.2 j c u hc hu
  · rw [List.getElem?_append_right h] at hc
    rw [List.getElem?_append_right (by rw [← h1.1]; exact h), ← h1.1] at hu
    exact h2.2 _ c u hc hu

theorem HasCs.app {a b : List CTy} {x y : List IV} (h1 : HasCs a x) (h2 : HasCs b y) : HasCs (a ++ b) (x ++ y) := by
  refine ⟨by simp [h1.1, h2.1], fun j c u hc hu => ?_⟩
  rcases Nat.lt_or_ge j a.length with h | h
  · rw [List.getElem?_append_left h] at hc
    rw [List.getElem?_append_left (by rw [h1.1]; exact h)] at hu
    exact h1.2 j c u hc hu
  · rw [List.getElem?_append_right h] at hc
    rw [List.getElem?_append_right (by rw [h1.1]; exact h), h1.1] at hu
    exact h2.2 _ c u hc hu

theorem RCs.one {Z : Nat → Nat} {w : World} {a : IV} {x : Value} (h : RI Z w a x) : RCs Z w [a] [x] := ⟨rfl, fun j c u hc hu => by
  cases j with
  | zero => simp at hc hu; subst hc; subst hu; exact h
  | succ j => simp at hc⟩
theorem HasCs.one {t : CTy} {a : IV} (h : HasC t a) : HasCs [t] [a] := ⟨rfl, fun j c u hc hu => by
  cases j with
  | zero => simp at hc hu; subst hc; subst hu; exact h
  | succ j => simp at hc⟩

section
variable {H : Type} {enc : TypeId × Value → H} {P : Program} {w : World}

def Got (w : World) (tys : List CTy) (cs : List Value) : Prop := ∃ row, RCs (zOf w) w row cs ∧ HasCs tys row ∧ ∀ v ∈ cs, v.oneCell' = true

theorem got_fields {fuel : Nat} {f : TypeId → Option (List CTy)} {cs : List Value}
    (ih : ∀ t cs d ps tys, f t = some tys → DataW.trod enc P w 0 (fun _ => true) true fuel t cs = some (d, ps) → (d.weights P t).all (· ≤ reachBytes) = true → Got w tys cs) :
    ∀ (fs : List Field) (off : Nat) (xs : List (DataW H × List MemPlace)) (r : List CTy), fieldsC P f off fs = some r →
      (fs.mapM fun x => DataW.trod enc P w 0 (fun _ => true) true fuel x.type ((cs.drop x.offset).take (P.cellsOf x.type))) = some xs →
      (DataW.weightsEach P (fs.map (·.type)) (xs.map (·.1))).all (· ≤ reachBytes) = true → Got w r ((cs.drop off).take r.length)
  | [], off, xs, r, h1, h2, h3 => by
    simp only [fieldsC, Option.some.injEq] at h1
    subst h1
    exact ⟨[], ⟨by simp, fun j c u hc => by simp at hc⟩, ⟨rfl, fun j c u hc => by simp at hc⟩, fun v hv => by simp at hv⟩
  | x :: fs, off, xs, r, h1, h2, h3 => by
    simp only [fieldsC] at h1
    split at h1
    case isFalse => cases h1
    rename_i hoff
    split at h1
    case h_2 => cases h1
    rename_i a ha
    split at h1
    case isFalse => cases h1
    rename_i hlen
    split at h1
    case h_2 => cases h1
    rename_i b hb
    cases h1
    rw [List.mapM_cons] at h2
    simp only [Option.bind_eq_bind, Option.bind_eq_some_iff, Option.pure_def, Option.some.injEq] at h2
    obtain ⟨y, hy, ys, hys, rfl⟩ := h2
    simp only [List.map_cons, DataW.weightsEach, List.all_append, Bool.and_eq_true] at h3
    obtain ⟨r1, g1, g2, g3⟩ := ih _ _ _ _ _ ha hy h3.1
    obtain ⟨r2, k1, k2, k3⟩ := got_fields ih fs (off + a.length) ys b hb hys h3.2
    rw [← hlen, hoff] at g1 g3
    have hsplit : (cs.drop off).take (a ++ b).length = (cs.drop off).take a.length ++ (cs.drop (off + a.length)).take b.length := by
      rw [List.length_append, List.take_add, List.drop_drop]
    refine ⟨r1 ++ r2, ?_, g2.app k2, ?_⟩
    · rw [hsplit]; exact g1.app k1
    · rw [hsplit]; intro v hv
      rcases List.mem_append.1 hv with hv | hv
      · exact g3 v hv
      · exact k3 v hv

theorem weights_all {e : TypeId} : ∀ {l : List (DataW H)}, (DataW.weightsAll P e l).all (· ≤ reachBytes) = true → ∀ d ∈ l, (d.weights P e).all (· ≤ reachBytes) = true
  | [], _, d, hd => by cases hd
  | x :: l, h, d, hd => by
    simp only [DataW.weightsAll, List.all_append, Bool.and_eq_true] at h
    rcases List.mem_cons.1 hd with rfl | hd
    · exact h.1
    · exact weights_all h.2 d hd

theorem cells_at {a : Addr} {n : Nat} {cs : List Value} (h : w.cells? 0 a n = some cs) : cs.length = n ∧ ∀ j v, cs[j]? = some v → w.cell? (a.add j) = some v := by
  unfold World.cells? at h
  rw [if_pos (Nat.zero_le _)] at h
  obtain ⟨h1, h2⟩ := mapM_at h
  refine ⟨by simpa using h1, fun j v hv => ?_⟩
  have hj : j < n := by
    have := (List.getElem?_eq_some_iff.1 hv).1
    simpa [h1] using this
  obtain ⟨y, hy, e⟩ := h2 j j (by simp [hj])
  rw [hv] at hy; cases hy; exact e

theorem got_slice {a : Addr} {len cap sz by_ : Nat} {r : List CTy} (hr : r.length = sz) (hpos : 0 < sz) (hcap : len ≤ cap) (hb : len * by_ ≤ reachBytes)
    (hel : ∀ i, i < len → ∃ cs, w.cells? 0 (a.add (i * sz)) sz = some cs ∧ Got w r cs) : Got w [.slice by_ r] [.slice (some a) len cap] := by
  have hrow : ∀ i : Nat, ∃ row : List IV, i < len → ∃ cs, w.cells? 0 (a.add (i * sz)) sz = some cs ∧ RCs (zOf w) w row cs ∧ HasCs r row ∧ ∀ v ∈ cs, v.oneCell' = true := fun i => by
    by_cases hi : i < len
    · obtain ⟨cs, h1, row, h2, h3, h4⟩ := hel i hi
      exact ⟨row, fun _ => ⟨cs, h1, h2, h3, h4⟩⟩
    · exact ⟨[], fun h => absurd h hi⟩
  obtain ⟨R, hR⟩ := Classical.axiomOfChoice hrow
  have hget : ∀ (i : Nat) (row : List IV), ((List.range len).map R)[i]? = some row → i < len ∧ row = R i := fun i row h => by
    simp only [List.getElem?_map, Option.map_eq_some_iff] at h
    obtain ⟨k, hk, rfl⟩ := h
    obtain ⟨h1, h2⟩ := List.getElem?_eq_some_iff.1 hk
    simp at h1 h2
    subst h2
    exact ⟨h1, rfl⟩
  have hmem : ∀ row ∈ (List.range len).map R, HasCs r row := fun row h => by
    obtain ⟨i, hi⟩ := List.mem_iff_getElem?.1 h
    obtain ⟨h1, rfl⟩ := hget i row hi
    obtain ⟨cs, _, _, h2, _⟩ := hR i h1
    exact h2
  refine ⟨[.slice ((List.range len).map R)], .one ?_, .one (.slice _ _ _ (by simpa using hb) (fun row h => (hmem row h).1) (fun row h => (hmem row h).2)), fun v hv => by simp at hv; subst hv; rfl⟩
  rcases Nat.eq_zero_or_pos len with h0 | h0
  · subst h0; exact .empty a cap
  · obtain ⟨b, off, spot⟩ := a
    have hs : spot = none := by
      obtain ⟨cs, h1, _⟩ := hR 0 h0
      obtain ⟨h2, h3⟩ := cells_at h1
      have hc := h3 0 _ (List.getElem?_eq_getElem (by omega))
      rw [Nat.zero_mul] at hc
      exact (cell_z (s := spot) (off := off) hc).1
    subst hs
    have hcell : ∀ (i : Nat) (row : List IV) (j : Nat) (c : IV), ((List.range len).map R)[i]? = some row → row[j]? = some c → ∃ v, w.cell? ⟨b, off + i * sz + j, none⟩ = some v ∧ v.oneCell' = true ∧ RI (zOf w) w c v := fun i row j c hi hj => by
      obtain ⟨h1, rfl⟩ := hget i row hi
      obtain ⟨cs, h2, h3, h4, h5⟩ := hR i h1
      obtain ⟨h6, h7⟩ := cells_at h2
      have hjl : j < cs.length := by rw [← h3.1]; exact (List.getElem?_eq_some_iff.1 hj).1
      have hcs := List.getElem?_eq_getElem hjl
      exact ⟨cs[j], by have := h7 j _ hcs; rwa [addr_add, addr_add] at this, h5 _ (List.getElem_mem hjl), h3.2 j c _ hj hcs⟩
    have := RI.slice (Z := zOf w) (w := w) ((List.range len).map R) b off cap sz (fun i j => (w.cell? ⟨b, off + i * sz + j, none⟩).getD undef) (by simpa using hcap)
      (fun i row hi => by obtain ⟨h1, rfl⟩ := hget i row hi; obtain ⟨_, _, _, h2, _⟩ := hR i h1; rw [h2.1, hr])
      (fun i row j c hi hj => by obtain ⟨v, h1, _⟩ := hcell i row j c hi hj; exact (cell_z h1).2)
      (fun i row j c hi hj => by obtain ⟨v, h1, h2, _⟩ := hcell i row j c hi hj; rw [h1]; exact ⟨rfl, h2⟩)
      (fun i row j c hi hj => by obtain ⟨v, h1, h2, h3⟩ := hcell i row j c hi hj; rw [h1]; exact h3)
    simpa using this

theorem trod_got : ∀ (n fuel : Nat) (t : TypeId) (cs : List Value) (d : DataW H) (ps : List MemPlace) (tys : List CTy), ctys P n t = some tys → DataW.trod enc P w 0 (fun _ => true) true fuel t cs = some (d, ps) →
    (d.weights P t).all (· ≤ reachBytes) = true → Got w tys cs
  | 0, _, _, _, _, _, _, h, _, _ => by simp [ctys] at h
  | n + 1, 0, _, _, _, _, _, _, h, _ => by simp [DataW.trod] at h
  | n + 1, fuel + 1, t, cs, d, ps, tys, h, ht, hw => by
    simp only [ctys] at h
    split at h
    · rename_i hu
      cases h
      simp only [DataW.trod, hu] at ht
      split at ht <;> first | (simp_all; done) | skip
      all_goals first
        | (rename_i b _; exact ⟨[.bool b], .one (.bool b), .one (.bool b), fun v hv => by simp at hv; subst hv; rfl⟩)
        | skip
    · rename_i k hu
      cases h
      simp only [DataW.trod, hu] at ht
      split at ht <;> first | (simp_all; done) | skip
      all_goals
        rename_i k1 k' m e1
        cases e1
        split at ht
        case isFalse => cases ht
        rename_i hk
        obtain ⟨rfl, hwf⟩ := hk
        exact ⟨[.int _ m], .one (.int _ m), .one (.int _ m (by simpa [Lit.wf] using hwf)), fun v hv => by simp at hv; subst hv; rfl⟩
    · rename_i hu
      cases h
      simp only [DataW.trod, hu] at ht
      split at ht <;> first | (simp_all; done) | skip
      all_goals
        rename_i s _
        split at ht
        case isFalse => cases ht
        cases ht
        refine ⟨[.str s], .one (.str s), .one (.str s ?_), fun v hv => by simp at hv; subst hv; rfl⟩
        simpa [DataW.weights] using hw
    · rename_i e hu
      split at h
      case h_2 => cases h
      rename_i r hr
      split at h
      case isFalse => cases h
      rename_i hlen
      cases h
      simp only [DataW.trod, hu] at ht
      split at ht <;> first | (simp_all; done) | skip
      · cases ht
        exact ⟨[.slice []], .one .nil, .one (.slice _ _ _ (by simp) (fun row h => by simp at h) (fun row h => by simp at h)), fun v hv => by simp at hv; subst hv; rfl⟩
      · rename_i e' a len cap e1
        cases e1
        split at ht
        case isFalse => cases ht
        rename_i hcond
        simp only [Option.bind_eq_some_iff, Option.map_eq_some_iff] at ht
        obtain ⟨elems, hel, rest, hrest, heq⟩ := ht
        simp only [Prod.mk.injEq] at heq
        obtain ⟨rfl, _⟩ := heq
        simp only [DataW.weights, hu, List.all_cons, List.all_append, Bool.and_eq_true, decide_eq_true_eq] at hw
        obtain ⟨hw1, hw2, hw3⟩ := hw
        obtain ⟨hl, hat⟩ := mapM_at hel
        simp only [List.length_range, List.length_map] at hl hw1
        refine got_slice hlen.1 (by omega) hcond.2.1 (Nat.le_trans (Nat.mul_le_mul_right _ (by omega)) hw1) fun i hi => ?_
        obtain ⟨y, hy1, hy2⟩ := hat i i (by simp [hi])
        simp only [Option.bind_eq_some_iff] at hy2
        obtain ⟨cs', hc1, hc2⟩ := hy2
        exact ⟨cs', hc1, trod_got n fuel e cs' y.1 y.2 r hr hc2 (weights_all hw2 _ (List.mem_map.2 ⟨y, List.mem_of_getElem? hy1, rfl⟩))⟩
    · rename_i fs hu
      split at h
      case h_2 => cases h
      rename_i r0 hr
      split at h
      case isFalse => cases h
      rename_i hlen
      obtain rfl : r0 = tys := Option.some.inj h
      simp only [DataW.trod, hu] at ht
      split at ht
      case isFalse => cases ht
      rename_i hcl
      simp only [Option.map_eq_some_iff] at ht
      obtain ⟨xs, hxs, heq⟩ := ht
      simp only [Prod.mk.injEq] at heq
      obtain ⟨rfl, _⟩ := heq
      simp only [DataW.weights, hu] at hw
      have := got_fields (fun t cs d ps tys h1 h2 h3 => trod_got n fuel t cs d ps tys h1 h2 h3) fs.toList 0 xs r0 hr hxs hw
      rw [hlen, ← hcl, List.drop_zero, List.take_length] at this
      exact this
    · cases h

end
end Go.Proofs.Ytgligibbgobmnaa
