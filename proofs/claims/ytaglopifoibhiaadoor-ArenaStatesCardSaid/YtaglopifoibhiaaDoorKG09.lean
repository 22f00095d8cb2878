/-
  Functions of the program: what they compute, and plans of their code that the kernel checks (printed by a program of ours).
  What 'contract.Valid' comes to.
  What Valid says.
  What 'slices.BinarySearch' comes to; sizes of valid contracts.
  What 'system.Valid' comes to.
  What is known of a valid contract; what 'start' does.
-/
import Derived.Test.YtaglopifoibhiaaDoorKG08
import Derived.Test.YtaglopifoibhiaaDoorKG06
namespace Go.Proofs.YtaglopifoibhiaaDoor
open Go.RowKit
set_option linter.unusedVariables false
set_option linter.unusedSimpArgs false
set_option maxRecDepth 100000

noncomputable def d_68a (p1 : Int) (p2 : ContractT) (p3 : Int) (p4 : List Int) (p5 : Nat) (p6 : List Bool) (p7 : Nat) (p8 : List MarkT) (p9 : Nat) : Option ((List Int) × (List Bool) × (List MarkT)) :=
  (Option.bind (idxI p2.acts p1) fun e1 => (Option.bind (idxN p5 e1.give) fun k1 => (Option.bind (p4[k1]?) fun e2 => (Option.bind (idxN p7 p1) fun k2 => (Option.bind (p6[k2]?) fun e3 => (bif (e1.kind == 3) then (Option.bind (d_66a p2 p3 (p4.set k1 e1.to) p5 (p6.set k2 true) p7 p8 p9) fun r1 => (Option.bind (forR (σ := (List MarkT)) (ρ := (List MarkT)) (p9 : Int) (fun i1 s1 => (Option.bind (Option.bind (idxN p9 (i1 : Int)) fun k3 => (Option.bind (s1[k3]?) fun e4 => (Option.bind (d_running e4) fun r2 => (bif r2 then (Option.bind (Option.bind (idxI p2.clauses (i1 : Int)) fun e5 => (Option.bind (bif (e5.kind == 4) then some false else some (e5.role == e1.give)) fun v1 => (bif v1 then (Option.bind (idxN p9 (i1 : Int)) fun k4 => (Option.bind (s1[k4]?) fun e6 => some (s1.set k4 ({ e6 with bearer := e1.to } : MarkT)))) else some s1))) fun (v2 : (List MarkT)) => some ((!true), v2)) else some (false, s1))))) fun (v3 : Bool × (List MarkT)) => (bif v3.1 then some (.inr v3.2) else some (.inl v3.2)))) p8) (Sum.elim (fun (s1 : (List MarkT)) => some ((p4.set k1 e1.to), (p6.set k2 true), s1)) (fun (y1 : (List MarkT)) => some ((p4.set k1 e1.to), (p6.set k2 true), y1))))) else some ((p4.set k1 e1.to), (p6.set k2 true), p8)))))))
noncomputable def p_68a (p1 : Int) (p2 : ContractT) (p3 : Int) (p4 : List Int) (p5 : Nat) (p6 : List Bool) (p7 : Nat) (p8 : List MarkT) (p9 : Nat) : Plan ((List Int) × (List Bool) × (List MarkT)) :=
  .reg 1 (.ix 1172 ActT.row p2.acts p1 fun e1 => .use 6 1172 (.reg 0 (.b1 1174 (idxN p5 e1.give) (fun k1 => .k k1) (fun k1 hk1 => (midx_side hk1)) fun k1 => .b1 1176 (p4[k1]?) (fun e2 => .aw (rowA (rowI e2)) (rowsA rowI (p4.set k1 e1.to))) (fun e2 he2 => (sto_side rowI e1.to he2)) fun e2 => .us [(9, 1174), (10, 1176)] (.reg 0 (.b1 1178 (idxN p7 p1) (fun k2 => .k k2) (fun k2 hk2 => (midx_side hk2)) fun k2 => .b1 1180 (p6[k2]?) (fun e3 => .aw (rowA (rowB e3)) (rowsA rowB (p6.set k2 true))) (fun e3 he3 => (sto_side rowB true he3)) fun e3 => .us [(6, 1178), (7, 1180)] (.ite 1152 (e1.kind == 3) (.sel 1153 (.reg 0 (.b1 1182 (d_66a p2 p3 (p4.set k1 e1.to) p5 (p6.set k2 true) p7 p8 p9) (fun r1 => .c [0, 1, 2, 3] 4 (.func 67 [] [.ptr 38 0 0]) [(38, .rows 1 [[.ptr 0 0 0]])] 1) (fun r1 hr1 => (call_side (t_66a p2 p3 (p4.set k1 e1.to) p5 (p6.set k2 true) p7 p8 p9 r1 hr1) [0, 1, 2, 3] 38 (.drop rfl rfl (.drop rfl rfl (.drop rfl rfl (.drop rfl rfl (.keep .nil))))) (rhR (rhI (rhI (rhI rhN)))) (rhR rhN))) fun r1 => .use 1 1182 (.forR (σ := (List MarkT)) (ρ := (List MarkT)) 1154 10 (p9 : Int) p8 (⟨[0, 1, 9], fun _ => [], [0, 4, 13, 38, 40], fun s1 => [(1, .rows 1 (rowsA rowI (p4.set k1 e1.to))), (2, .rows 1 (rowsA rowB (p6.set k2 true))), (3, .rows 5 (rowsA MarkT.row s1))], 48, fun _ => (.rows rfl (.rows rfl (.rows rfl .nil)))⟩) (fun i1 s1 => .sel 1154 (.cut (β := Bool × (List MarkT)) 4 (⟨[0, 1, 9, 10], fun v3 => [(27, vB v3.1)], [0, 4, 13, 38, 40], fun v3 => [(1, .rows 1 (rowsA rowI (p4.set k1 e1.to))), (2, .rows 1 (rowsA rowB (p6.set k2 true))), (3, .rows 5 (rowsA MarkT.row v3.2))], 66, fun _ => (.rows rfl (.rows rfl (.rows rfl .nil)))⟩) (.reg 0 (.b1 1184 (idxN p9 (i1 : Int)) (fun k3 => .k k3) (fun k3 hk3 => (midx_side hk3)) fun k3 => .b1 1186 (s1[k3]?) (fun e4 => .ar (rowA (MarkT.row e4))) (fun e4 he4 => (row_side MarkT.row he4)) fun e4 => .call 1188 (t_running e4) fun r2 => .ite 1164 r2 (.us [(6, 1184), (7, 1186), (8, 1188), (10, 1164)] (.reg 0 (.cut (β := (List MarkT)) 0 (⟨[], fun _ => [], [0, 4, 13, 38, 40], fun v2 => [(1, .rows 1 (rowsA rowI (p4.set k1 e1.to))), (2, .rows 1 (rowsA rowB (p6.set k2 true))), (3, .rows 5 (rowsA MarkT.row v2))], 85, fun _ => (.rows rfl (.rows rfl (.rows rfl .nil)))⟩) (.reg 0 (.ix 1190 ClauseT.row p2.clauses (i1 : Int) fun e5 => .use 6 1190 (.cut (β := Bool) 1 (⟨[2, 4, 5], fun v1 => [(55, vB v1)], [0, 4, 13, 38, 40, 73], fun _ => [(1, .rows 1 (rowsA rowI (p4.set k1 e1.to))), (2, .rows 1 (rowsA rowB (p6.set k2 true))), (3, .rows 5 (rowsA MarkT.row s1))], 85, fun _ => (.rows rfl (.rows rfl (.rows rfl .nil)))⟩) (.reg 0 (.ite 1166 (e5.kind == 4) (.use 4 1167 (.ret false)) (.use 4 1167 (.ret (e5.role == e1.give))))) fun v1 => .ite 1168 v1 (.sel 1168 (.reg 0 (.b1 1192 (idxN p9 (i1 : Int)) (fun k4 => .k k4) (fun k4 hk4 => (midx_side hk4)) fun k4 => .b1 1194 (s1[k4]?) (fun e6 => .aw (rowA (MarkT.row e6)) (rowsA MarkT.row (s1.set k4 ({ e6 with bearer := e1.to } : MarkT)))) (fun e6 he6 => (sto_side MarkT.row ({ e6 with bearer := e1.to } : MarkT) he6)) fun e6 => .us [(8, 1192), (10, 1194)] (.ret (s1.set k4 ({ e6 with bearer := e1.to } : MarkT)))))) (.sel 1168 (.ret s1))))) fun v2 => .ret ((!true), v2)))) (.us [(6, 1184), (7, 1186), (8, 1188), (10, 1164)] (.ret (false, s1))))) fun v3 => .ite 1170 v3.1 (.sel 1170 (.ret (.inr v3.2))) (.sel 1170 (.ret (.inl v3.2))))) fun os1 => .case os1 (fun s1 => .sel 1154 (.ret ((p4.set k1 e1.to), (p6.set k2 true), s1))) fun y1 => .ret ((p4.set k1 e1.to), (p6.set k2 true), y1))))) (.sel 1153 (.ret ((p4.set k1 e1.to), (p6.set k2 true), p8)))))))))
theorem t_68a (p1 : Int) (p2 : ContractT) (p3 : Int) (p4 : List Int) (p5 : Nat) (p6 : List Bool) (p7 : Nat) (p8 : List MarkT) (p9 : Nat) (res : (List Int) × (List Bool) × (List MarkT)) (hd : d_68a p1 p2 p3 p4 p5 p6 p7 p8 p9 = some res) : DOk C0 68 [.ptr 0 0 0, vI p1] [(0, .rows 11 [[vI p2.parties, .imm (.slice (List.map rowI p2.holders)), .imm (.slice (List.map UnitT.row p2.units)), .imm (.slice (List.map ActT.row p2.acts)), .imm (.slice (List.map ClauseT.row p2.clauses)), vI p2.days, .imm (.slice (List.map rowI p2.off)), vI p3, .mslice 1 0 p5, .mslice 2 0 p7, .mslice 3 0 p9]]), (1, .rows 1 (rowsA rowI p4)), (2, .rows 1 (rowsA rowB p6)), (3, .rows 5 (rowsA MarkT.row p8))] 4 (.tuple []) [(0, .rows 11 [[vI p2.parties, .imm (.slice (List.map rowI p2.holders)), .imm (.slice (List.map UnitT.row p2.units)), .imm (.slice (List.map ActT.row p2.acts)), .imm (.slice (List.map ClauseT.row p2.clauses)), vI p2.days, .imm (.slice (List.map rowI p2.off)), vI p3, .mslice 1 0 p5, .mslice 2 0 p7, .mslice 3 0 p9]]), (1, .rows 1 (rowsA rowI res.1)), (2, .rows 1 (rowsA rowB res.2.1)), (3, .rows 5 (rowsA MarkT.row res.2.2))] 0 :=
  Plan.det (R := fun res => .tuple []) (H := fun res => [(0, .rows 11 [[vI p2.parties, .imm (.slice (List.map rowI p2.holders)), .imm (.slice (List.map UnitT.row p2.units)), .imm (.slice (List.map ActT.row p2.acts)), .imm (.slice (List.map ClauseT.row p2.clauses)), vI p2.days, .imm (.slice (List.map rowI p2.off)), vI p3, .mslice 1 0 p5, .mslice 2 0 p7, .mslice 3 0 p9]]), (1, .rows 1 (rowsA rowI res.1)), (2, .rows 1 (rowsA rowB res.2.1)), (3, .rows 5 (rowsA MarkT.row res.2.2))]) (p_68a p1 p2 p3 p4 p5 p6 p7 p8 p9) (.exp rfl rfl (.rows rfl (.rows rfl (.rows rfl .nil)))) (fun _ => (.exp rfl rfl (.rows rfl (.rows rfl (.rows rfl .nil))))) (by kernel_rfl) (fun _ => by kernel_rfl) (by kernel_rfl) (Plan.run_of hd (by kernel_rfl))

noncomputable def d_60a (p1 : Int) (p2 : ContractT) (p3 : Int) (p4 : List Int) (p5 : Nat) (p6 : List Bool) (p7 : Nat) (p8 : List MarkT) (p9 : Nat) : Option ((List Int) × (List Bool) × (List MarkT)) :=
  (Option.bind (idxI p2.acts p1) fun e1 => (Option.bind (bif (e1.kind == 1) then some false else (Option.bind (idxN p7 p1) fun k1 => (Option.bind (p6[k1]?) fun e2 => some e2))) fun v1 => (bif v1 then some (p4, p6, p8) else (Option.bind (Option.bind (d_66a p2 p3 p4 p5 p6 p7 p8 p9) fun r1 => (Option.bind (forR (σ := (List MarkT)) (ρ := (List MarkT)) (p9 : Int) (fun i1 s1 => (Option.bind (Option.bind (idxN p9 (i1 : Int)) fun k2 => (Option.bind (s1[k2]?) fun e3 => (Option.bind (d_running e3) fun r2 => (bif r2 then (Option.bind (Option.bind (idxI p2.clauses (i1 : Int)) fun e4 => (bif (p1 == e4.pause) then (Option.bind (idxN p9 (i1 : Int)) fun k3 => (Option.bind (s1[k3]?) fun e5 => some (s1.set k3 ({ e5 with paused := true } : MarkT)))) else (Option.bind (idxI p2.clauses (i1 : Int)) fun e6 => (bif (p1 == e6.resume) then (Option.bind (idxN p9 (i1 : Int)) fun k4 => (Option.bind (s1[k4]?) fun e7 => some (s1.set k4 ({ e7 with paused := false } : MarkT)))) else some s1)))) fun (v2 : (List MarkT)) => some ((!true), v2)) else some (false, s1))))) fun (v3 : Bool × (List MarkT)) => (bif v3.1 then some (.inr v3.2) else some (.inl v3.2)))) p8) (Sum.elim (fun (s1 : (List MarkT)) => some s1) (fun (y1 : (List MarkT)) => some y1)))) fun (v4 : (List MarkT)) => (Option.bind (eqN p5 p4.length) fun g1 => (Option.bind (eqN p7 p6.length) fun g2 => (Option.bind (eqN p9 v4.length) fun g3 => (Option.bind (d_doer p2 ({ day := p3, holders := p4, used := p6, marks := v4 } : StateT) p1) fun r3 => (Option.bind (Option.bind (d_66a p2 p3 p4 p5 p6 p7 v4 p9) fun r4 => (Option.bind (forR (σ := (List MarkT)) (ρ := (List MarkT)) (p9 : Int) (fun i2 s2 => (Option.bind (Option.bind (idxN p9 (i2 : Int)) fun k5 => (Option.bind (s2[k5]?) fun e8 => (Option.bind (d_running e8) fun r5 => (bif r5 then (Option.bind (Option.bind (idxI p2.clauses (i2 : Int)) fun e9 => (Option.bind (bif (e9.act == p1) then (bif (e9.kind == 4) then some true else (Option.bind (idxN p9 (i2 : Int)) fun k6 => (Option.bind (s2[k6]?) fun e10 => some (e10.bearer == r3)))) else some false) fun v5 => (bif v5 then (Option.bind (bif (e9.kind == (0 : Int)) then none else (bif (e9.kind == (1 : Int)) then (Option.bind (d_65a (i2 : Int) p2 p3 p4 p5 p6 p7 s2 p9) fun r9 => some r9) else (bif (e9.kind == (2 : Int)) then (Option.bind (d_71a (i2 : Int) p2 p3 p4 p5 p6 p7 s2 p9) fun r8 => some r8) else (bif (e9.kind == (3 : Int)) then (Option.bind (d_61a (i2 : Int) p2 p3 p4 p5 p6 p7 s2 p9) fun r7 => some r7) else (bif (e9.kind == (4 : Int)) then (Option.bind (d_61a (i2 : Int) p2 p3 p4 p5 p6 p7 s2 p9) fun r6 => some r6) else none))))) fun v6 => some v6) else some s2))) fun (v7 : (List MarkT)) => some ((!true), v7)) else some (false, s2))))) fun (v8 : Bool × (List MarkT)) => (bif v8.1 then some (.inr v8.2) else some (.inl v8.2)))) v4) (Sum.elim (fun (s2 : (List MarkT)) => some s2) (fun (y2 : (List MarkT)) => some y2)))) fun (v9 : (List MarkT)) => (Option.bind (bif (e1.kind == 1) then some (p4, p6, v9) else (Option.bind (d_68a p1 p2 p3 p4 p5 p6 p7 v9 p9) fun r10 => some (r10.1, r10.2.1, r10.2.2))) fun (v10 : (List Int) × (List Bool) × (List MarkT)) => (Option.bind (d_69a p2 p3 v10.1 p5 v10.2.1 p7 v10.2.2 p9) fun r11 => some (v10.1, v10.2.1, r11))))))))))))
noncomputable def p_60a (p1 : Int) (p2 : ContractT) (p3 : Int) (p4 : List Int) (p5 : Nat) (p6 : List Bool) (p7 : Nat) (p8 : List MarkT) (p9 : Nat) : Plan ((List Int) × (List Bool) × (List MarkT)) :=
  .reg 1 (.ix 1196 ActT.row p2.acts p1 fun e1 => .use 6 1196 (.cut (β := Bool) 2 (⟨[2, 3, 4], fun v1 => [(30, vB v1)], [0, 4, 5, 14], fun _ => [(1, .rows 1 (rowsA rowI p4)), (2, .rows 1 (rowsA rowB p6)), (3, .rows 5 (rowsA MarkT.row p8))], 29, fun _ => (.rows rfl (.rows rfl (.rows rfl .nil)))⟩) (.reg 0 (.ite 1054 (e1.kind == 1) (.use 4 1055 (.ret false)) (.b1 1198 (idxN p7 p1) (fun k1 => .k k1) (fun k1 hk1 => (midx_side hk1)) fun k1 => .b1 1200 (p6[k1]?) (fun e2 => .ar (rowA (rowB e2))) (fun e2 he2 => (row_side rowB he2)) fun e2 => .us [(4, 1055), (10, 1198), (11, 1200)] (.ret e2)))) fun v1 => .ite 1056 v1 (.sel 1056 (.ret (p4, p6, p8))) (.sel 1056 (.cut (β := (List MarkT)) 1 (⟨[2, 3, 4], fun _ => [], [0, 4, 5, 14], fun v4 => [(1, .rows 1 (rowsA rowI p4)), (2, .rows 1 (rowsA rowB p6)), (3, .rows 5 (rowsA MarkT.row v4))], 41, fun _ => (.rows rfl (.rows rfl (.rows rfl .nil)))⟩) (.reg 0 (.b1 1202 (d_66a p2 p3 p4 p5 p6 p7 p8 p9) (fun r1 => .c [0, 1, 2, 3] 4 (.func 67 [] [.ptr 30 0 0]) [(30, .rows 1 [[.ptr 0 0 0]])] 1) (fun r1 hr1 => (call_side (t_66a p2 p3 p4 p5 p6 p7 p8 p9 r1 hr1) [0, 1, 2, 3] 30 (.drop rfl rfl (.drop rfl rfl (.drop rfl rfl (.drop rfl rfl (.keep .nil))))) (rhR (rhI (rhI (rhI rhN)))) (rhR rhN))) fun r1 => .use 1 1202 (.forR (σ := (List MarkT)) (ρ := (List MarkT)) 1058 10 (p9 : Int) p8 (⟨[0, 1, 9], fun _ => [], [0, 4, 5, 14, 30, 32], fun s1 => [(1, .rows 1 (rowsA rowI p4)), (2, .rows 1 (rowsA rowB p6)), (3, .rows 5 (rowsA MarkT.row s1))], 40, fun _ => (.rows rfl (.rows rfl (.rows rfl .nil)))⟩) (fun i1 s1 => .sel 1058 (.cut (β := Bool × (List MarkT)) 4 (⟨[0, 1, 9, 10], fun v3 => [(27, vB v3.1)], [0, 4, 5, 14, 30, 32], fun v3 => [(1, .rows 1 (rowsA rowI p4)), (2, .rows 1 (rowsA rowB p6)), (3, .rows 5 (rowsA MarkT.row v3.2))], 58, fun _ => (.rows rfl (.rows rfl (.rows rfl .nil)))⟩) (.reg 0 (.b1 1204 (idxN p9 (i1 : Int)) (fun k2 => .k k2) (fun k2 hk2 => (midx_side hk2)) fun k2 => .b1 1206 (s1[k2]?) (fun e3 => .ar (rowA (MarkT.row e3))) (fun e3 he3 => (row_side MarkT.row he3)) fun e3 => .call 1208 (t_running e3) fun r2 => .ite 1068 r2 (.us [(6, 1204), (7, 1206), (8, 1208), (10, 1068)] (.reg 0 (.cut (β := (List MarkT)) 0 (⟨[], fun _ => [], [0, 4, 5, 14, 30, 32], fun v2 => [(1, .rows 1 (rowsA rowI p4)), (2, .rows 1 (rowsA rowB p6)), (3, .rows 5 (rowsA MarkT.row v2))], 78, fun _ => (.rows rfl (.rows rfl (.rows rfl .nil)))⟩) (.reg 1 (.ix 1210 ClauseT.row p2.clauses (i1 : Int) fun e4 => .use 6 1210 (.ite 1070 (p1 == e4.pause) (.sel 1070 (.reg 0 (.b1 1212 (idxN p9 (i1 : Int)) (fun k3 => .k k3) (fun k3 hk3 => (midx_side hk3)) fun k3 => .b1 1214 (s1[k3]?) (fun e5 => .aw (rowA (MarkT.row e5)) (rowsA MarkT.row (s1.set k3 ({ e5 with paused := true } : MarkT)))) (fun e5 he5 => (sto_side MarkT.row ({ e5 with paused := true } : MarkT) he5)) fun e5 => .us [(6, 1212), (8, 1214)] (.ret (s1.set k3 ({ e5 with paused := true } : MarkT)))))) (.sel 1070 (.reg 0 (.ix 1216 ClauseT.row p2.clauses (i1 : Int) fun e6 => .use 6 1216 (.ite 1072 (p1 == e6.resume) (.sel 1072 (.reg 0 (.b1 1218 (idxN p9 (i1 : Int)) (fun k4 => .k k4) (fun k4 hk4 => (midx_side hk4)) fun k4 => .b1 1220 (s1[k4]?) (fun e7 => .aw (rowA (MarkT.row e7)) (rowsA MarkT.row (s1.set k4 ({ e7 with paused := false } : MarkT)))) (fun e7 he7 => (sto_side MarkT.row ({ e7 with paused := false } : MarkT) he7)) fun e7 => .us [(6, 1218), (8, 1220)] (.ret (s1.set k4 ({ e7 with paused := false } : MarkT)))))) (.sel 1072 (.ret s1))))))))) fun v2 => .ret ((!true), v2)))) (.us [(6, 1204), (7, 1206), (8, 1208), (10, 1068)] (.ret (false, s1))))) fun v3 => .ite 1074 v3.1 (.sel 1074 (.ret (.inr v3.2))) (.sel 1074 (.ret (.inl v3.2))))) fun os1 => .case os1 (fun s1 => .sel 1058 (.ret s1)) fun y1 => .ret y1))) fun v4 => .reg 1 (.bind (eqN p5 p4.length) (fun _ => []) (fun _ _ => .nil) fun g1 => .bind (eqN p7 p6.length) (fun _ => []) (fun _ _ => .nil) fun g2 => .bind (eqN p9 v4.length) (fun _ => []) (fun _ _ => .nil) fun g3 => .bind (d_doer p2 ({ day := p3, holders := p4, used := p6, marks := v4 } : StateT) p1) (fun r3 => [(1222, ([.w [1, 2, 3] [.agg (ContractT.row p2), .agg (StateT.row ({ day := p3, holders := p4, used := p6, marks := v4 } : StateT)), .int .i64 p1] (.int .i64 r3)], _))]) (fun r3 hr3 => (.c2 (t_doer p2 ({ day := p3, holders := p4, used := p6, marks := v4 } : StateT) p1 r3 hr3) (snap_of [.agg (rowA (ContractT.row p2)), .agg [vI p3, .mslice 1 0 p5, .mslice 2 0 p7, .mslice 3 0 p9], vI p1] [(1, .rows 1 (rowsA rowI p4)), (2, .rows 1 (rowsA rowB p6)), (3, .rows 5 (rowsA MarkT.row v4))] [.agg (ContractT.row p2), .agg (StateT.row ({ day := p3, holders := p4, used := p6, marks := v4 } : StateT)), .int .i64 p1] (snapC (snapA (snapC (snapI _) (snapC (snapI _) (snapC (snapI _) (snapC (snapI _) (snapC (snapI _) (snapC (snapI _) (snapC (snapI _) snapN)))))))) (snapC (snapA (snapC (snapI _) (snapC (snapE rowI 1 1 p5 p4 g1.down rfl) (snapC (snapE rowB 2 1 p7 p6 g2.down rfl) (snapC (snapE MarkT.row 3 5 p9 v4 g3.down rfl) snapN))))) (snapC (snapI _) snapN)))) .nil)) fun r3 => .use 9 1222 (.cut (β := (List MarkT)) 1 (⟨[2, 3, 4], fun _ => [], [0, 4, 5, 14], fun v9 => [(1, .rows 1 (rowsA rowI p4)), (2, .rows 1 (rowsA rowB p6)), (3, .rows 5 (rowsA MarkT.row v9))], 68, fun _ => (.rows rfl (.rows rfl (.rows rfl .nil)))⟩) (.reg 0 (.b1 1224 (d_66a p2 p3 p4 p5 p6 p7 v4 p9) (fun r4 => .c [0, 1, 2, 3] 4 (.func 67 [] [.ptr 57 0 0]) [(57, .rows 1 [[.ptr 0 0 0]])] 1) (fun r4 hr4 => (call_side (t_66a p2 p3 p4 p5 p6 p7 v4 p9 r4 hr4) [0, 1, 2, 3] 57 (.drop rfl rfl (.drop rfl rfl (.drop rfl rfl (.drop rfl rfl (.keep .nil))))) (rhR (rhI (rhI (rhI rhN)))) (rhR rhN))) fun r4 => .use 1 1224 (.forR (σ := (List MarkT)) (ρ := (List MarkT)) 1084 10 (p9 : Int) v4 (⟨[0, 1, 9], fun _ => [], [0, 4, 5, 14, 42, 54, 57, 59], fun s2 => [(1, .rows 1 (rowsA rowI p4)), (2, .rows 1 (rowsA rowB p6)), (3, .rows 5 (rowsA MarkT.row s2))], 67, fun _ => (.rows rfl (.rows rfl (.rows rfl .nil)))⟩) (fun i2 s2 => .sel 1084 (.cut (β := Bool × (List MarkT)) 4 (⟨[0, 1, 9, 10], fun v8 => [(27, vB v8.1)], [0, 4, 5, 14, 42, 54, 57, 59], fun v8 => [(1, .rows 1 (rowsA rowI p4)), (2, .rows 1 (rowsA rowB p6)), (3, .rows 5 (rowsA MarkT.row v8.2))], 85, fun _ => (.rows rfl (.rows rfl (.rows rfl .nil)))⟩) (.reg 0 (.b1 1226 (idxN p9 (i2 : Int)) (fun k5 => .k k5) (fun k5 hk5 => (midx_side hk5)) fun k5 => .b1 1228 (s2[k5]?) (fun e8 => .ar (rowA (MarkT.row e8))) (fun e8 he8 => (row_side MarkT.row he8)) fun e8 => .call 1230 (t_running e8) fun r5 => .ite 1130 r5 (.us [(6, 1226), (7, 1228), (8, 1230), (10, 1130)] (.reg 0 (.cut (β := (List MarkT)) 0 (⟨[], fun _ => [], [0, 4, 5, 14, 42, 54, 57, 59], fun v7 => [(1, .rows 1 (rowsA rowI p4)), (2, .rows 1 (rowsA rowB p6)), (3, .rows 5 (rowsA MarkT.row v7))], 116, fun _ => (.rows rfl (.rows rfl (.rows rfl .nil)))⟩) (.reg 0 (.ix 1232 ClauseT.row p2.clauses (i2 : Int) fun e9 => .use 6 1232 (.cut (β := Bool) 1 (⟨[2, 6, 8, 9], fun v5 => [(116, vB v5)], [0, 4, 5, 14, 42, 54, 57, 59, 92], fun _ => [(1, .rows 1 (rowsA rowI p4)), (2, .rows 1 (rowsA rowB p6)), (3, .rows 5 (rowsA MarkT.row s2))], 116, fun _ => (.rows rfl (.rows rfl (.rows rfl .nil)))⟩) (.reg 0 (.ite 1132 (e9.act == p1) (.ite 1134 (e9.kind == 4) (.us [(5, 1132), (9, 1134)] (.ret true)) (.b1 1234 (idxN p9 (i2 : Int)) (fun k6 => .k k6) (fun k6 hk6 => (midx_side hk6)) fun k6 => .b1 1236 (s2[k6]?) (fun e10 => .ar (rowA (MarkT.row e10))) (fun e10 he10 => (row_side MarkT.row he10)) fun e10 => .us [(5, 1132), (9, 1134), (15, 1234), (17, 1236)] (.ret (e10.bearer == r3)))) (.use 5 1132 (.ret false)))) fun v5 => .ite 1136 v5 (.sel 1136 (.cut (β := (List MarkT)) 0 (⟨[], fun _ => [], [0, 4, 5, 14, 42, 54, 57, 59, 92], fun v6 => [(1, .rows 1 (rowsA rowI p4)), (2, .rows 1 (rowsA rowB p6)), (3, .rows 5 (rowsA MarkT.row v6))], 123, fun _ => (.rows rfl (.rows rfl (.rows rfl .nil)))⟩) (.reg 0 (.swt 1146 e9.kind 5 0 rfl (.none) (.swt 1144 e9.kind 5 1 rfl (.b1 1238 (d_65a (i2 : Int) p2 p3 p4 p5 p6 p7 s2 p9) (fun r9 => .c [0, 1, 2, 3] 4 (.tuple []) [(3, .rows 5 (rowsA MarkT.row r9))] 0) (fun r9 hr9 => (call_side (t_65a (i2 : Int) p2 p3 p4 p5 p6 p7 s2 p9 r9 hr9) [0, 1, 2, 3] 123 (.drop rfl rfl (.drop rfl rfl (.drop rfl rfl (.keep .nil)))) (rhR (rhI (rhI (rhI rhN)))) (rhI rhN))) fun r9 => .us [(2, 1144), (6, 1238)] (.ret r9)) (.swt 1142 e9.kind 5 2 rfl (.b1 1240 (d_71a (i2 : Int) p2 p3 p4 p5 p6 p7 s2 p9) (fun r8 => .c [0, 1, 2, 3] 4 (.tuple []) [(3, .rows 5 (rowsA MarkT.row r8))] 0) (fun r8 hr8 => (call_side (t_71a (i2 : Int) p2 p3 p4 p5 p6 p7 s2 p9 r8 hr8) [0, 1, 2, 3] 123 (.drop rfl rfl (.drop rfl rfl (.drop rfl rfl (.keep .nil)))) (rhR (rhI (rhI (rhI rhN)))) (rhI rhN))) fun r8 => .us [(2, 1142), (6, 1240)] (.ret r8)) (.swt 1140 e9.kind 5 3 rfl (.b1 1242 (d_61a (i2 : Int) p2 p3 p4 p5 p6 p7 s2 p9) (fun r7 => .c [0, 1, 2, 3] 4 (.tuple []) [(3, .rows 5 (rowsA MarkT.row r7))] 0) (fun r7 hr7 => (call_side (t_61a (i2 : Int) p2 p3 p4 p5 p6 p7 s2 p9 r7 hr7) [0, 1, 2, 3] 123 (.drop rfl rfl (.drop rfl rfl (.drop rfl rfl (.keep .nil)))) (rhR (rhI (rhI (rhI rhN)))) (rhI rhN))) fun r7 => .us [(2, 1140), (6, 1242)] (.ret r7)) (.swt 1138 e9.kind 5 4 rfl (.b1 1244 (d_61a (i2 : Int) p2 p3 p4 p5 p6 p7 s2 p9) (fun r6 => .c [0, 1, 2, 3] 4 (.tuple []) [(3, .rows 5 (rowsA MarkT.row r6))] 0) (fun r6 hr6 => (call_side (t_61a (i2 : Int) p2 p3 p4 p5 p6 p7 s2 p9 r6 hr6) [0, 1, 2, 3] 123 (.drop rfl rfl (.drop rfl rfl (.drop rfl rfl (.keep .nil)))) (rhR (rhI (rhI (rhI rhN)))) (rhI rhN))) fun r6 => .us [(2, 1138), (6, 1244)] (.ret r6)) (.none))))))) fun v6 => .ret v6)) (.sel 1136 (.ret s2))))) fun v7 => .ret ((!true), v7)))) (.us [(6, 1226), (7, 1228), (8, 1230), (10, 1130)] (.ret (false, s2))))) fun v8 => .ite 1148 v8.1 (.sel 1148 (.ret (.inr v8.2))) (.sel 1148 (.ret (.inl v8.2))))) fun os2 => .case os2 (fun s2 => .sel 1084 (.ret s2)) fun y2 => .ret y2))) fun v9 => .cut (β := (List Int) × (List Bool) × (List MarkT)) 1 (⟨[2], fun _ => [], [0, 4], fun v10 => [(1, .rows 1 (rowsA rowI v10.1)), (2, .rows 1 (rowsA rowB v10.2.1)), (3, .rows 5 (rowsA MarkT.row v10.2.2))], 71, fun _ => (.rows rfl (.rows rfl (.rows rfl .nil)))⟩) (.ite 1150 (e1.kind == 1) (.sel 1151 (.ret (p4, p6, v9))) (.sel 1151 (.reg 0 (.b1 1246 (d_68a p1 p2 p3 p4 p5 p6 p7 v9 p9) (fun r10 => .c [0, 1, 2, 3] 4 (.tuple []) [(1, .rows 1 (rowsA rowI r10.1)), (2, .rows 1 (rowsA rowB r10.2.1)), (3, .rows 5 (rowsA MarkT.row r10.2.2))] 0) (fun r10 hr10 => (call_side (t_68a p1 p2 p3 p4 p5 p6 p7 v9 p9 r10 hr10) [0, 1, 2, 3] 73 (.drop rfl rfl (.keep (.keep (.keep .nil)))) (rhR (rhI (rhI (rhI rhN)))) (rhI (rhI (rhI rhN))))) fun r10 => .use 2 1246 (.ret (r10.1, r10.2.1, r10.2.2)))))) fun v10 => .reg 0 (.b1 1248 (d_69a p2 p3 v10.1 p5 v10.2.1 p7 v10.2.2 p9) (fun r11 => .c [0, 1, 2, 3] 4 (.tuple []) [(3, .rows 5 (rowsA MarkT.row r11))] 0) (fun r11 hr11 => (call_side (t_69a p2 p3 v10.1 p5 v10.2.1 p7 v10.2.2 p9 r11 hr11) [0, 1, 2, 3] 72 (.drop rfl rfl (.drop rfl rfl (.drop rfl rfl (.keep .nil)))) (rhR (rhI (rhI (rhI rhN)))) (rhI rhN))) fun r11 => .use 1 1248 (.ret (v10.1, v10.2.1, r11)))))))))
theorem t_60a (p1 : Int) (p2 : ContractT) (p3 : Int) (p4 : List Int) (p5 : Nat) (p6 : List Bool) (p7 : Nat) (p8 : List MarkT) (p9 : Nat) (res : (List Int) × (List Bool) × (List MarkT)) (hd : d_60a p1 p2 p3 p4 p5 p6 p7 p8 p9 = some res) : DOk C0 60 [.ptr 0 0 0, vI p1] [(0, .rows 11 [[vI p2.parties, .imm (.slice (List.map rowI p2.holders)), .imm (.slice (List.map UnitT.row p2.units)), .imm (.slice (List.map ActT.row p2.acts)), .imm (.slice (List.map ClauseT.row p2.clauses)), vI p2.days, .imm (.slice (List.map rowI p2.off)), vI p3, .mslice 1 0 p5, .mslice 2 0 p7, .mslice 3 0 p9]]), (1, .rows 1 (rowsA rowI p4)), (2, .rows 1 (rowsA rowB p6)), (3, .rows 5 (rowsA MarkT.row p8))] 4 (.tuple []) [(0, .rows 11 [[vI p2.parties, .imm (.slice (List.map rowI p2.holders)), .imm (.slice (List.map UnitT.row p2.units)), .imm (.slice (List.map ActT.row p2.acts)), .imm (.slice (List.map ClauseT.row p2.clauses)), vI p2.days, .imm (.slice (List.map rowI p2.off)), vI p3, .mslice 1 0 p5, .mslice 2 0 p7, .mslice 3 0 p9]]), (1, .rows 1 (rowsA rowI res.1)), (2, .rows 1 (rowsA rowB res.2.1)), (3, .rows 5 (rowsA MarkT.row res.2.2))] 0 :=
  Plan.det (R := fun res => .tuple []) (H := fun res => [(0, .rows 11 [[vI p2.parties, .imm (.slice (List.map rowI p2.holders)), .imm (.slice (List.map UnitT.row p2.units)), .imm (.slice (List.map ActT.row p2.acts)), .imm (.slice (List.map ClauseT.row p2.clauses)), vI p2.days, .imm (.slice (List.map rowI p2.off)), vI p3, .mslice 1 0 p5, .mslice 2 0 p7, .mslice 3 0 p9]]), (1, .rows 1 (rowsA rowI res.1)), (2, .rows 1 (rowsA rowB res.2.1)), (3, .rows 5 (rowsA MarkT.row res.2.2))]) (p_60a p1 p2 p3 p4 p5 p6 p7 p8 p9) (.exp rfl rfl (.rows rfl (.rows rfl (.rows rfl .nil)))) (fun _ => (.exp rfl rfl (.rows rfl (.rows rfl (.rows rfl .nil))))) (by kernel_rfl) (fun _ => by kernel_rfl) (by kernel_rfl) (Plan.run_of hd (by kernel_rfl))

noncomputable def d_Step (c : ContractT) (s : StateT) (step : Int) : Option (StateT × Int) :=
  (Option.bind (Option.bind (d_ValidS c s) fun r1 => (bif r1 then (bif decide (step < (-1)) then some true else some (decide ((c.acts.length : Int) ≤ step))) else some true)) fun v1 => (bif v1 then some (({ day := 0, holders := [], used := [], marks := [] } : StateT), 1) else (bif (s.day == c.days) then some (({ day := 0, holders := [], used := [], marks := [] } : StateT), 13) else (Option.bind (mkN 8 (s.holders.length : Int)) fun k1 => (Option.bind (mkN 1 (s.used.length : Int)) fun k2 => (Option.bind (mkN 40 (s.marks.length : Int)) fun k3 => (Option.bind (copyI (α := Int) k1 (List.replicate k1 0) s.holders) fun e1 => (Option.bind (copyI (α := Bool) k2 (List.replicate k2 false) s.used) fun e2 => (Option.bind (copyI (α := MarkT) k3 (List.replicate k3 ({ status := 0, left := 0, got := 0, bearer := 0, paused := false } : MarkT)) s.marks) fun e3 => (Option.bind (bif (step == (-1)) then (Option.bind (d_70a c s.day e1 k1 e2 k2 e3 k3) fun r2 => some (e1, e2, r2, (IntKind.i64.wrap (s.day + 1)))) else (Option.bind (d_60a step c s.day e1 k1 e2 k2 e3 k3) fun r3 => some (r3.1, r3.2.1, r3.2.2, s.day))) fun (v2 : (List Int) × (List Bool) × (List MarkT) × Int) => (Option.bind (eqN k1 v2.1.length) fun g1 => (Option.bind (eqN k2 v2.2.1.length) fun g2 => (Option.bind (eqN k3 v2.2.2.1.length) fun g3 => some (({ day := v2.2.2.2, holders := v2.1, used := v2.2.1, marks := v2.2.2.1 } : StateT), 0))))))))))))))
noncomputable def p_Step (c : ContractT) (s : StateT) (step : Int) : Plan (StateT × Int) :=
  .cut (β := Bool) 3 (.e [2, 3, 4, 6] (fun v1 => [(23, vB v1)]) [0, 1, 2] 19) (.reg 0 (.call 1250 (t_ValidS c s) fun r1 => .ite 892 r1 (.ite 894 (decide (step < (-1))) (.us [(2, 1250), (5, 893), (9, 894)] (.ret true)) (.us [(2, 1250), (5, 893), (9, 894)] (.ln 1252 ActT.row c.acts (.use 12 1252 (.ret (decide ((c.acts.length : Int) ≤ step))))))) (.us [(2, 1250), (5, 893)] (.f1 1254 (.g true) (rfl : true = true) (.use 9 1254 (.ret true)))))) fun v1 => .ite 896 v1 (.sel 896 (.ret (({ day := 0, holders := [], used := [], marks := [] } : StateT), 1))) (.sel 896 (.ite 898 (s.day == c.days) (.sel 898 (.ret (({ day := 0, holders := [], used := [], marks := [] } : StateT), 13))) (.sel 898 (.reg 0 (.b1 1256 (mkN 8 (s.holders.length : Int)) (fun k1 => .m k1 (rowsA rowI (List.replicate k1 0))) (fun k1 hk1 => (mks_side rowI 0 hk1)) fun k1 => .b1 1258 (mkN 1 (s.used.length : Int)) (fun k2 => .m k2 (rowsA rowB (List.replicate k2 false))) (fun k2 hk2 => (mks_side rowB false hk2)) fun k2 => .b1 1260 (mkN 40 (s.marks.length : Int)) (fun k3 => .m k3 (rowsA MarkT.row (List.replicate k3 ({ status := 0, left := 0, got := 0, bearer := 0, paused := false } : MarkT)))) (fun k3 hk3 => (mks_side MarkT.row ({ status := 0, left := 0, got := 0, bearer := 0, paused := false } : MarkT) hk3)) fun k3 => .ln 1276 rowI s.holders (.us [(5, 1276), (6, 1256)] (.ln 1274 rowB s.used (.us [(9, 1274), (10, 1258)] (.ln 1272 MarkT.row s.marks (.us [(13, 1272), (14, 1260)] (.reg 0 (.b1 1262 (copyI (α := Int) k1 (List.replicate k1 0) s.holders) (fun e1 => .b (rowsA rowI e1) 0) (fun e1 he1 => (copy_side rowI 1 (fun _ => rfl) he1)) fun e1 => .use 7 1262 (.reg 0 (.b1 1264 (copyI (α := Bool) k2 (List.replicate k2 false) s.used) (fun e2 => .b (rowsA rowB e2) 0) (fun e2 he2 => (copy_side rowB 1 (fun _ => rfl) he2)) fun e2 => .use 7 1264 (.reg 0 (.b1 1266 (copyI (α := MarkT) k3 (List.replicate k3 ({ status := 0, left := 0, got := 0, bearer := 0, paused := false } : MarkT)) s.marks) (fun e3 => .b (rowsA MarkT.row e3) 0) (fun e3 he3 => (copy_side MarkT.row 5 (fun _ => rfl) he3)) fun e3 => .use 7 1266 (.cut (β := (List Int) × (List Bool) × (List MarkT) × Int) 1 (⟨[6, 8], fun _ => [], [2], fun v2 => [(30, .rows 1 (rowsA rowI v2.1)), (34, .rows 1 (rowsA rowB v2.2.1)), (38, .rows 5 (rowsA MarkT.row v2.2.2.1)), (41, .rows 11 [[vI c.parties, .imm (.slice (List.map rowI c.holders)), .imm (.slice (List.map UnitT.row c.units)), .imm (.slice (List.map ActT.row c.acts)), .imm (.slice (List.map ClauseT.row c.clauses)), vI c.days, .imm (.slice (List.map rowI c.off)), vI v2.2.2.2, .mslice 30 0 k1, .mslice 34 0 k2, .mslice 38 0 k3]])], 71, fun _ => (.rows rfl (.rows rfl (.rows rfl (.exp rfl rfl .nil))))⟩) (.ite 900 (step == (-1)) (.sel 900 (.reg 0 (.b1 1268 (d_70a c s.day e1 k1 e2 k2 e3 k3) (fun r2 => .c [41, 30, 34, 38] 4 (.tuple []) [(41, .rows 11 [[vI c.parties, .imm (.slice (List.map rowI c.holders)), .imm (.slice (List.map UnitT.row c.units)), .imm (.slice (List.map ActT.row c.acts)), .imm (.slice (List.map ClauseT.row c.clauses)), vI c.days, .imm (.slice (List.map rowI c.off)), vI (IntKind.i64.wrap (s.day + 1)), .mslice 30 0 k1, .mslice 34 0 k2, .mslice 38 0 k3]]), (38, .rows 5 (rowsA MarkT.row r2))] 0) (fun r2 hr2 => (call_side (t_70a c s.day e1 k1 e2 k2 e3 k3 r2 hr2) [41, 30, 34, 38] 70 (.keep (.drop rfl rfl (.drop rfl rfl (.keep .nil)))) (rhR (rhI (rhI (rhI rhN)))) (rhR (rhI rhN)))) fun r2 => .use 1 1268 (.ret (e1, e2, r2, (IntKind.i64.wrap (s.day + 1))))))) (.sel 900 (.reg 0 (.b1 1270 (d_60a step c s.day e1 k1 e2 k2 e3 k3) (fun r3 => .c [41, 30, 34, 38] 4 (.tuple []) [(30, .rows 1 (rowsA rowI r3.1)), (34, .rows 1 (rowsA rowB r3.2.1)), (38, .rows 5 (rowsA MarkT.row r3.2.2))] 0) (fun r3 hr3 => (call_side (t_60a step c s.day e1 k1 e2 k2 e3 k3 r3 hr3) [41, 30, 34, 38] 71 (.drop rfl rfl (.keep (.keep (.keep .nil)))) (rhR (rhI (rhI (rhI rhN)))) (rhI (rhI (rhI rhN))))) fun r3 => .use 2 1270 (.ret (r3.1, r3.2.1, r3.2.2, s.day)))))) fun v2 => .bind (eqN k1 v2.1.length) (fun _ => []) (fun _ _ => .nil) fun g4 => .bind (eqN k2 v2.2.1.length) (fun _ => []) (fun _ _ => .nil) fun g5 => .bind (eqN k3 v2.2.2.1.length) (fun _ => []) (fun _ _ => .nil) fun g6 => .fin [30, 34, 38] (.tuple [.agg [vI v2.2.2.2, .mslice 30 0 k1, .mslice 34 0 k2, .mslice 38 0 k3], vI 0]) [(30, .rows 1 (rowsA rowI v2.1)), (34, .rows 1 (rowsA rowB v2.2.1)), (38, .rows 5 (rowsA MarkT.row v2.2.2.1))] (.tuple [.agg (StateT.row ((({ day := v2.2.2.2, holders := v2.1, used := v2.2.1, marks := v2.2.2.1 } : StateT), 0).1)), .int .i64 ((({ day := v2.2.2.2, holders := v2.1, used := v2.2.1, marks := v2.2.2.1 } : StateT), 0).2)]) (snap_of _ _ _ (snapC (snapT (snapC (snapA (snapC (snapI _) (snapC (snapE rowI 30 1 k1 v2.1 g4.down rfl) (snapC (snapE rowB 34 1 k2 v2.2.1 g5.down rfl) (snapC (snapE MarkT.row 38 5 k3 v2.2.2.1 g6.down rfl) snapN))))) (snapC (snapI _) snapN))) snapN)) (({ day := v2.2.2.2, holders := v2.1, used := v2.2.1, marks := v2.2.2.1 } : StateT), 0))))))))))))))))))
theorem t_Step (c : ContractT) (s : StateT) (step : Int) (res : StateT × Int) (hd : d_Step c s step = some res) : APure C0 101 [.agg (ContractT.row c), .agg (StateT.row s), .int .i64 step] (.tuple [.agg (StateT.row res.1), .int .i64 res.2]) :=
  Plan.pure (iv := fun res => .tuple [.agg (StateT.row res.1), .int .i64 res.2]) (p_Step c s step) (by kernel_rfl) (Plan.run_of hd (by kernel_rfl))

noncomputable def d_EqI (a : List Int) (b : List Int) : Option Bool :=
  (bif ((a.length : Int) == (b.length : Int)) then (Option.bind (forR (σ := Unit) (ρ := Unit) (a.length : Int) (fun i1 s1 => (Option.bind (idxI a (i1 : Int)) fun e1 => (Option.bind (idxI b (i1 : Int)) fun e2 => (bif (e1 == e2) then some (.inl ()) else some (.inr ()))))) ()) (Sum.elim (fun (s1 : Unit) => some true) (fun (y1 : Unit) => some false))) else some false)
noncomputable def p_EqI (a : List Int) (b : List Int) : Plan Bool :=
  .reg 1 (.ln 1304 rowI a (.use 1 1304 (.ln 1302 rowI b (.use 3 1302 (.ite 1290 ((a.length : Int) == (b.length : Int)) (.sel 1291 (.reg 0 (.ln 1300 rowI a (.use 1 1300 (.forR (σ := Unit) (ρ := Unit) 1292 13 (a.length : Int) () (.e [0, 1, 12] (fun _ => []) [] 9) (fun i1 s1 => .sel 1292 (.reg 1 (.ix 1296 rowI a (i1 : Int) fun e1 => .ix 1298 rowI b (i1 : Int) fun e2 => .us [(2, 1296), (6, 1298)] (.ite 1294 (e1 == e2) (.sel 1295 (.ret (.inl ()))) (.sel 1295 (.ret (.inr ()))))))) fun os1 => .case os1 (fun s1 => .sel 1292 (.ret true)) fun y1 => .ret false))))) (.sel 1291 (.ret false)))))))
theorem t_EqI (a : List Int) (b : List Int) (res : Bool) (hd : d_EqI a b = some res) : APure C0 125 [.slice (List.map rowI a), .slice (List.map rowI b)] (.bool res) :=
  Plan.pure (iv := fun res => .bool res) (p_EqI a b) (by kernel_rfl) (Plan.run_of hd (by kernel_rfl))

noncomputable def d_EqB (a : List Bool) (b : List Bool) : Option Bool :=
  (bif ((a.length : Int) == (b.length : Int)) then (Option.bind (forR (σ := Unit) (ρ := Unit) (a.length : Int) (fun i1 s1 => (Option.bind (idxI a (i1 : Int)) fun e1 => (Option.bind (idxI b (i1 : Int)) fun e2 => (bif (e1 == e2) then some (.inl ()) else some (.inr ()))))) ()) (Sum.elim (fun (s1 : Unit) => some true) (fun (y1 : Unit) => some false))) else some false)
noncomputable def p_EqB (a : List Bool) (b : List Bool) : Plan Bool :=
  .reg 1 (.ln 1322 rowB a (.use 1 1322 (.ln 1320 rowB b (.use 3 1320 (.ite 1308 ((a.length : Int) == (b.length : Int)) (.sel 1309 (.reg 0 (.ln 1318 rowB a (.use 1 1318 (.forR (σ := Unit) (ρ := Unit) 1310 13 (a.length : Int) () (.e [0, 1, 12] (fun _ => []) [] 9) (fun i1 s1 => .sel 1310 (.reg 1 (.ix 1314 rowB a (i1 : Int) fun e1 => .ix 1316 rowB b (i1 : Int) fun e2 => .us [(2, 1314), (6, 1316)] (.ite 1312 (e1 == e2) (.sel 1313 (.ret (.inl ()))) (.sel 1313 (.ret (.inr ()))))))) fun os1 => .case os1 (fun s1 => .sel 1310 (.ret true)) fun y1 => .ret false))))) (.sel 1309 (.ret false)))))))
theorem t_EqB (a : List Bool) (b : List Bool) (res : Bool) (hd : d_EqB a b = some res) : APure C0 123 [.slice (List.map rowB a), .slice (List.map rowB b)] (.bool res) :=
  Plan.pure (iv := fun res => .bool res) (p_EqB a b) (by kernel_rfl) (Plan.run_of hd (by kernel_rfl))

noncomputable def d_EqM (a : List MarkT) (b : List MarkT) : Option Bool :=
  (bif ((a.length : Int) == (b.length : Int)) then (Option.bind (forR (σ := Unit) (ρ := Unit) (a.length : Int) (fun i1 s1 => (Option.bind (idxI a (i1 : Int)) fun e1 => (Option.bind (idxI b (i1 : Int)) fun e2 => (bif ((e1.status == e2.status) && ((e1.left == e2.left) && ((e1.got == e2.got) && ((e1.bearer == e2.bearer) && ((e1.paused == e2.paused) && true))))) then some (.inl ()) else some (.inr ()))))) ()) (Sum.elim (fun (s1 : Unit) => some true) (fun (y1 : Unit) => some false))) else some false)
noncomputable def p_EqM (a : List MarkT) (b : List MarkT) : Plan Bool :=
  .reg 1 (.ln 1340 MarkT.row a (.use 1 1340 (.ln 1338 MarkT.row b (.use 3 1338 (.ite 1326 ((a.length : Int) == (b.length : Int)) (.sel 1327 (.reg 0 (.ln 1336 MarkT.row a (.use 1 1336 (.forR (σ := Unit) (ρ := Unit) 1328 13 (a.length : Int) () (.e [0, 1, 12] (fun _ => []) [] 9) (fun i1 s1 => .sel 1328 (.reg 1 (.ix 1332 MarkT.row a (i1 : Int) fun e1 => .ix 1334 MarkT.row b (i1 : Int) fun e2 => .us [(2, 1332), (6, 1334)] (.ite 1330 ((e1.status == e2.status) && ((e1.left == e2.left) && ((e1.got == e2.got) && ((e1.bearer == e2.bearer) && ((e1.paused == e2.paused) && true))))) (.sel 1331 (.ret (.inl ()))) (.sel 1331 (.ret (.inr ()))))))) fun os1 => .case os1 (fun s1 => .sel 1328 (.ret true)) fun y1 => .ret false))))) (.sel 1327 (.ret false)))))))
theorem t_EqM (a : List MarkT) (b : List MarkT) (res : Bool) (hd : d_EqM a b = some res) : APure C0 124 [.slice (List.map MarkT.row a), .slice (List.map MarkT.row b)] (.bool res) :=
  Plan.pure (iv := fun res => .bool res) (p_EqM a b) (by kernel_rfl) (Plan.run_of hd (by kernel_rfl))

noncomputable def d_SameS (a : StateT) (b : StateT) : Option Bool :=
  (Option.bind (bif (a.day == b.day) then (Option.bind (d_EqI a.holders b.holders) fun r1 => (bif r1 then (Option.bind (d_EqB a.used b.used) fun r2 => (bif r2 then (Option.bind (d_EqM a.marks b.marks) fun r3 => some r3) else some false)) else some false)) else some false) fun v1 => some v1)
noncomputable def p_SameS (a : StateT) (b : StateT) : Plan Bool :=
  .cut (β := Bool) 2 (.e [] (fun v1 => [(4, vB v1)]) [0, 1] 30) (.reg 0 (.ite 1288 (a.day == b.day) (.call 1342 (t_EqI a.holders b.holders) fun r1 => .ite 1306 r1 (.call 1344 (t_EqB a.used b.used) fun r2 => .ite 1324 r2 (.call 1346 (t_EqM a.marks b.marks) fun r3 => .us [(6, 1288), (10, 1342), (13, 1306), (17, 1344), (20, 1324), (24, 1346)] (.ret r3)) (.us [(6, 1288), (10, 1342), (13, 1306), (17, 1344), (20, 1324)] (.ret false))) (.us [(6, 1288), (10, 1342), (13, 1306)] (.f1 1348 (.g false) (rfl : false = false) (.use 20 1348 (.ret false))))) (.use 6 1288 (.f1 1352 (.g false) (rfl : false = false) (.use 13 1352 (.f1 1350 (.g false) (rfl : false = false) (.use 20 1350 (.ret false)))))))) fun v1 => .ret v1
theorem t_SameS (a : StateT) (b : StateT) (res : Bool) (hd : d_SameS a b = some res) : APure C0 99 [.agg (StateT.row a), .agg (StateT.row b)] (.bool res) :=
  Plan.pure (iv := fun res => .bool res) (p_SameS a b) (by kernel_rfl) (Plan.run_of hd (by kernel_rfl))

noncomputable def d_From (c : ContractT) (party : Int) (p : PosT) : Option (ArenaT × Int) :=
  (Option.bind (d_playable c party p) fun r1 => (bif r1 then (Option.bind (d_copied p.state) fun r2 => (Option.bind (d_text p) fun r3 => (Option.bind (α := ((List PosT) × (List (List MoveT))) ⊕ Unit) (Option.bind (iter (σ := Int × (List PosT) × (List (List MoveT)) × (List (ByteArray × Int))) (ρ := ((List PosT) × (List (List MoveT))) ⊕ Unit) (fun s1 => (bif decide (s1.1 < (s1.2.1.length : Int)) then (Option.bind (α := ((List PosT) × (List (ByteArray × Int)) × (List MoveT)) ⊕ Unit) (Option.bind (idxI s1.2.1 s1.1) fun e1 => (Option.bind (d_78b c party e1) fun r4 => (Option.bind (α := ((List PosT) × (List (ByteArray × Int)) × (List MoveT)) ⊕ (Unit ⊕ ((List PosT) × (List (ByteArray × Int)) × (List MoveT)))) (bif e1.own then (Option.bind (d_copied e1.state) fun r5 => (Option.bind (d_text ({ state := r5, own := false } : PosT)) fun r6 => (Option.bind (α := (Int × (List PosT) × (List (ByteArray × Int))) ⊕ Unit) (bif ((mget r6 s1.2.2.2).isSome) then some (.inl (((mget r6 s1.2.2.2).getD 0), s1.2.1, s1.2.2.2)) else (bif ((s1.2.1.length : Int) == 1500) then some (.inr ()) else (Option.bind (appI (α := PosT) 88 s1.2.1 [({ state := r5, own := false } : PosT)]) fun e2 => some (.inl ((s1.2.1.length : Int), e2, (mset r6 (s1.2.1.length : Int) s1.2.2.2)))))) (Sum.elim (fun (v1 : Int × (List PosT) × (List (ByteArray × Int))) => (Option.bind (appI (α := MoveT) 16 [] [({ step := (-2), to := v1.1 } : MoveT)]) fun e3 => (bif decide (c.days ≤ e1.state.day) then some (.inr (.inr (v1.2.1, v1.2.2, e3))) else some (.inl (v1.2.1, v1.2.2, e3))))) (fun (y1 : Unit) => some (.inr (.inl ()))))))) else (bif decide (c.days ≤ e1.state.day) then some (.inr (.inr (s1.2.1, s1.2.2.2, []))) else some (.inl (s1.2.1, s1.2.2.2, [])))) (Sum.elim (fun (v2 : (List PosT) × (List (ByteArray × Int)) × (List MoveT)) => (Option.bind (α := ((List PosT) × (List (ByteArray × Int)) × (List MoveT)) ⊕ Unit) (bif e1.own then some (.inl (v2.1, v2.2.1, v2.2.2)) else (Option.bind (d_Step c e1.state (-1)) fun r7 => (Option.bind (d_text ({ state := r7.1, own := true } : PosT)) fun r8 => (Option.bind (α := (Int × (List PosT) × (List (ByteArray × Int))) ⊕ Unit) (bif ((mget r8 v2.2.1).isSome) then some (.inl (((mget r8 v2.2.1).getD 0), v2.1, v2.2.1)) else (bif ((v2.1.length : Int) == 1500) then some (.inr ()) else (Option.bind (appI (α := PosT) 88 v2.1 [({ state := r7.1, own := true } : PosT)]) fun e4 => some (.inl ((v2.1.length : Int), e4, (mset r8 (v2.1.length : Int) v2.2.1)))))) (Sum.elim (fun (v3 : Int × (List PosT) × (List (ByteArray × Int))) => (Option.bind (appI (α := MoveT) 16 v2.2.2 [({ step := (-1), to := v3.1 } : MoveT)]) fun e5 => some (.inl (v3.2.1, v3.2.2, e5)))) (fun (y4 : Unit) => some (.inr ()))))))) (Sum.elim (fun (v4 : (List PosT) × (List (ByteArray × Int)) × (List MoveT)) => (Option.bind (forR (σ := (List PosT) × (List (ByteArray × Int)) × (List MoveT)) (ρ := (List PosT) × (List (ByteArray × Int)) × (List MoveT)) (c.acts.length : Int) (fun i2 s2 => (Option.bind (α := ((List PosT) × (List (ByteArray × Int)) × (List MoveT)) ⊕ Unit) (Option.bind (idxI c.acts (i2 : Int)) fun e6 => (Option.bind (bif (e6.role == (-1)) then some (-1) else (Option.bind (idxI e1.state.holders e6.role) fun e7 => some e7)) fun (v5 : Int) => (bif ((v5 == party) == e1.own) then (Option.bind (d_Step c e1.state (i2 : Int)) fun r9 => (Option.bind (d_SameS r9.1 e1.state) fun r10 => (bif r10 then some (.inl (s2.1, s2.2.1, s2.2.2)) else (Option.bind (d_text ({ state := r9.1, own := true } : PosT)) fun r11 => (Option.bind (α := (Int × (List PosT) × (List (ByteArray × Int))) ⊕ Unit) (bif ((mget r11 s2.2.1).isSome) then some (.inl (((mget r11 s2.2.1).getD 0), s2.1, s2.2.1)) else (bif ((s2.1.length : Int) == 1500) then some (.inr ()) else (Option.bind (appI (α := PosT) 88 s2.1 [({ state := r9.1, own := true } : PosT)]) fun e8 => some (.inl ((s2.1.length : Int), e8, (mset r11 (s2.1.length : Int) s2.2.1)))))) (Sum.elim (fun (v6 : Int × (List PosT) × (List (ByteArray × Int))) => (Option.bind (appI (α := MoveT) 16 s2.2.2 [({ step := (i2 : Int), to := v6.1 } : MoveT)]) fun e9 => some (.inl (v6.2.1, v6.2.2, e9)))) (fun (y6 : Unit) => some (.inr ())))))))) else some (.inl (s2.1, s2.2.1, s2.2.2))))) (Sum.elim (fun (v7 : (List PosT) × (List (ByteArray × Int)) × (List MoveT)) => some (.inl (v7.1, v7.2.1, v7.2.2))) (fun (y7 : Unit) => some (.inr (s2.1, s2.2.1, s2.2.2)))))) (v4.1, v4.2.1, v4.2.2)) (Sum.elim (fun (s2 : (List PosT) × (List (ByteArray × Int)) × (List MoveT)) => some (.inl (s2.1, s2.2.1, s2.2.2))) (fun (y8 : (List PosT) × (List (ByteArray × Int)) × (List MoveT)) => some (.inr ()))))) (fun (y5 : Unit) => some (.inr ()))))) (Sum.elim (fun (y2 : Unit) => some (.inr ())) (fun (y3 : (List PosT) × (List (ByteArray × Int)) × (List MoveT)) => some (.inl (y3.1, y3.2.1, y3.2.2)))))))) (Sum.elim (fun (v8 : (List PosT) × (List (ByteArray × Int)) × (List MoveT)) => (Option.bind (appI (α := List MoveT) 24 s1.2.2.1 [v8.2.2]) fun e10 => some (.inl ((IntKind.i64.wrap (s1.1 + 1)), v8.1, e10, v8.2.1)))) (fun (y9 : Unit) => some (.inr (.inr ()))))) else some (.inr (.inl (s1.2.1, s1.2.2.1))))) (0, [({ state := r2, own := p.own } : PosT)], [], (mset r3 0 []))) (Sum.elim (fun (y10 : (List PosT) × (List (List MoveT))) => some (.inl (y10.1, y10.2))) (fun (y11 : Unit) => some (.inr ())))) (Sum.elim (fun (v9 : (List PosT) × (List (List MoveT))) => some (({ party := party, positions := v9.1, moves := v9.2 } : ArenaT), 0)) (fun (y12 : Unit) => some (({ party := 0, positions := [], moves := [] } : ArenaT), 3)))))) else some (({ party := 0, positions := [], moves := [] } : ArenaT), 1)))
noncomputable def p_From (c : ContractT) (party : Int) (p : PosT) : Plan (ArenaT × Int) :=
  .reg 1 (.call 1470 (t_playable c party p) fun r1 => .use 3 1470 (.ite 852 r1 (.sel 853 (.reg 0 (.call 1472 (t_copied p.state) fun r2 => .use 3 1472 (.reg 0 (.call 1474 (t_text p) fun r3 => .use 2 1474 (.f1 1540 (.u (entsA IV.str IV.i64 (mset r3 0 []))) (upd_sideS IV.i64 r3 0 []) (.use 3 1540 (.cutO (β := (List PosT) × (List (List MoveT))) (γ := Unit) 1 (⟨[6, 7, 8], fun _ => [], [2, 3], fun v9 => [(18, .rows 3 [[vI party, .gslice 29 (List.map PosT.row v9.1), .gslice 28 (List.map (rowL MoveT.row) v9.2)]]), (28, .tip 1 v9.2.length), (29, .tip 5 v9.1.length)], 30, fun _ => (.exp rfl rfl (.exp rfl rfl (.exp rfl rfl .nil)))⟩) (.weak 2 [wNilO 18 1 0 2, wTipO 8 18 0 1 16 5 PosT.row [({ state := r2, own := p.own } : PosT)]] (.iter (σ := Int × (List PosT) × (List (List MoveT)) × (List (ByteArray × Int))) (ρ := ((List PosT) × (List (List MoveT))) ⊕ Unit) (0, [({ state := r2, own := p.own } : PosT)], [], (mset r3 0 [])) (⟨[1, 3, 6, 7, 8, 9], fun s1 => [(10, vI s1.1)], [0, 2, 3, 25], fun s1 => [(18, .rows 3 [[vI party, .gslice 29 (List.map PosT.row s1.2.1), .gslice 28 (List.map (rowL MoveT.row) s1.2.2.1)]]), (20, .map (entsA IV.str IV.i64 s1.2.2.2)), (28, .tip 1 s1.2.2.1.length), (29, .tip 5 s1.2.1.length)], 30, fun _ => (.exp rfl rfl (.ents rfl (.exp rfl rfl (.exp rfl rfl .nil))))⟩) (fun s1 => .reg 0 (.ln 1538 PosT.row s1.2.1 (.use 3 1538 (.ite 1420 (decide (s1.1 < (s1.2.1.length : Int))) (.sel 1420 (.cutO (β := (List PosT) × (List (ByteArray × Int)) × (List MoveT)) (γ := Unit) 4 (⟨[1, 3, 6, 7, 8, 9, 10, 11], fun _ => [], [0, 2, 3, 25, 28], fun v8 => [(18, .rows 3 [[vI party, .gslice 29 (List.map PosT.row v8.1), .gslice 28 (List.map (rowL MoveT.row) s1.2.2.1)]]), (20, .map (entsA IV.str IV.i64 v8.2.1)), (29, .tip 5 v8.1.length), (35, .rows 1 [[.gslice 48 (List.map MoveT.row v8.2.2)]]), (48, .tip 2 v8.2.2.length)], 69, fun _ => (.exp rfl rfl (.ents rfl (.exp rfl rfl (.exp rfl rfl (.exp rfl rfl .nil)))))⟩) (.reg 0 (.ix 1478 PosT.row s1.2.1 s1.1 fun e1 => .b1 1480 (d_78b c party e1) (fun r4 => .c [] 0 (.func 79 [] [.ptr 46 0 0, .ptr 44 0 0, .ptr 45 0 0]) [(44, .rows 7 [rowA (ContractT.row c)]), (45, .rows 1 [[vI party]]), (46, .rows 5 [rowA (PosT.row e1)])] 3) (fun r4 hr4 => (call_side (t_78b c party e1 r4 hr4) [] 44 (.keep (.keep (.keep .nil))) rhN (rhR (rhR (rhR rhN))))) fun r4 => .us [(5, 1478), (7, 1480)] (.weak 2 [wNilO 35 2 0 0] (.cutO (β := (List PosT) × (List (ByteArray × Int)) × (List MoveT)) (γ := Unit ⊕ ((List PosT) × (List (ByteArray × Int)) × (List MoveT))) 1 (⟨[0, 1, 2, 3], fun _ => [], [0, 2, 3, 25, 28, 46, 45, 44, 47], fun v2 => [(18, .rows 3 [[vI party, .gslice 29 (List.map PosT.row v2.1), .gslice 28 (List.map (rowL MoveT.row) s1.2.2.1)]]), (20, .map (entsA IV.str IV.i64 v2.2.1)), (29, .tip 5 v2.1.length), (35, .rows 1 [[.gslice 48 (List.map MoveT.row v2.2.2)]]), (48, .tip 2 v2.2.2.length)], 68, fun _ => (.exp rfl rfl (.ents rfl (.exp rfl rfl (.exp rfl rfl (.exp rfl rfl .nil)))))⟩) (.reg 0 (.ite 1432 e1.own (.call 1518 (t_copied e1.state) fun r5 => .us [(3, 1432), (6, 1518)] (.reg 2 (.call 1520 (t_text ({ state := r5, own := false } : PosT)) fun r6 => .use 1 1520 (.reg 0 (.f1 1534 (.l (vI ((mget r6 s1.2.2.2).getD 0)) ((mget r6 s1.2.2.2).isSome)) (look_sideS IV.i64 0 r6 s1.2.2.2) (.use 2 1534 (.cutO (β := Int × (List PosT) × (List (ByteArray × Int))) (γ := Unit) 1 (⟨[11, 12], fun v1 => [(15, vI v1.1)], [0, 2, 3, 25, 28, 35, 46, 45, 44, 47, 48], fun v1 => [(18, .rows 3 [[vI party, .gslice 29 (List.map PosT.row v1.2.1), .gslice 28 (List.map (rowL MoveT.row) s1.2.2.1)]]), (20, .map (entsA IV.str IV.i64 v1.2.2)), (29, .tip 5 v1.2.1.length)], 74, fun _ => (.exp rfl rfl (.ents rfl (.exp rfl rfl .nil)))⟩) (.ite 1434 ((mget r6 s1.2.2.2).isSome) (.sel 1435 (.ret (.inl (((mget r6 s1.2.2.2).getD 0), s1.2.1, s1.2.2.2)))) (.sel 1435 (.reg 0 (.ln 1532 PosT.row s1.2.1 (.use 2 1532 (.ite 1436 ((s1.2.1.length : Int) == 1500) (.sel 1436 (.ret (.inr ()))) (.sel 1436 (.reg 0 (.f1 1530 (.u (entsA IV.str IV.i64 (mset r6 (s1.2.1.length : Int) s1.2.2.2))) (upd_sideS IV.i64 r6 (s1.2.1.length : Int) s1.2.2.2) (.use 3 1530 (.reg 0 (.b1 1528 (appI (α := PosT) 88 s1.2.1 [({ state := r5, own := false } : PosT)]) (fun e2 => .a (List.map PosT.row e2) e2.length) (fun e2 he2 => (app_side PosT.row 5 88 (fun _ => rfl) he2)) fun e2 => .use 4 1528 (.ret (.inl ((s1.2.1.length : Int), e2, (mset r6 (s1.2.1.length : Int) s1.2.2.2)))))))))))))))) fun o_v1 => .case o_v1 (fun v1 => .reg 0 (.b1 1524 (appI (α := MoveT) 16 [] [({ step := (-2), to := v1.1 } : MoveT)]) (fun e3 => .a (List.map MoveT.row e3) e3.length) (fun e3 he3 => (app_side MoveT.row 2 16 (fun _ => rfl) he3)) fun e3 => .use 5 1524 (.f1 1526 (.g false) (rfl : (!true) = false) (.use 12 1526 (.ite 1438 (decide (c.days ≤ e1.state.day)) (.sel 1438 (.ret (.inr (.inr (v1.2.1, v1.2.2, e3))))) (.sel 1438 (.ret (.inl (v1.2.1, v1.2.2, e3))))))))) fun y1 => .f1 1522 (.g true) (rfl : (!false) = true) (.use 12 1522 (.ret (.inr (.inl ()))))))))))) (.use 3 1432 (.f1 1536 (.g false) (rfl : false = false) (.use 12 1536 (.ite 1440 (decide (c.days ≤ e1.state.day)) (.sel 1440 (.ret (.inr (.inr (s1.2.1, s1.2.2.2, []))))) (.sel 1440 (.ret (.inl (s1.2.1, s1.2.2.2, [])))))))))) fun o_v2 => .case o_v2 (fun v2 => .cutO (β := (List PosT) × (List (ByteArray × Int)) × (List MoveT)) (γ := Unit) 1 (⟨[0, 1, 2, 3], fun _ => [], [0, 2, 3, 25, 28, 46, 45, 44, 47], fun v4 => [(18, .rows 3 [[vI party, .gslice 29 (List.map PosT.row v4.1), .gslice 28 (List.map (rowL MoveT.row) s1.2.2.1)]]), (20, .map (entsA IV.str IV.i64 v4.2.1)), (29, .tip 5 v4.1.length), (35, .rows 1 [[.gslice 48 (List.map MoveT.row v4.2.2)]]), (48, .tip 2 v4.2.2.length)], 71, fun _ => (.exp rfl rfl (.ents rfl (.exp rfl rfl (.exp rfl rfl (.exp rfl rfl .nil)))))⟩) (.ite 1442 e1.own (.sel 1443 (.ret (.inl (v2.1, v2.2.1, v2.2.2)))) (.sel 1443 (.reg 0 (.call 1504 (t_Step c e1.state (-1)) fun r7 => .use 3 1504 (.reg 0 (.reg 2 (.call 1506 (t_text ({ state := r7.1, own := true } : PosT)) fun r8 => .use 1 1506 (.reg 0 (.f1 1516 (.l (vI ((mget r8 v2.2.1).getD 0)) ((mget r8 v2.2.1).isSome)) (look_sideS IV.i64 0 r8 v2.2.1) (.use 2 1516 (.cutO (β := Int × (List PosT) × (List (ByteArray × Int))) (γ := Unit) 1 (⟨[11, 12], fun v3 => [(15, vI v3.1)], [0, 2, 3, 25, 28, 35, 46, 45, 44, 47, 48, 78], fun v3 => [(18, .rows 3 [[vI party, .gslice 29 (List.map PosT.row v3.2.1), .gslice 28 (List.map (rowL MoveT.row) s1.2.2.1)]]), (20, .map (entsA IV.str IV.i64 v3.2.2)), (29, .tip 5 v3.2.1.length)], 101, fun _ => (.exp rfl rfl (.ents rfl (.exp rfl rfl .nil)))⟩) (.ite 1444 ((mget r8 v2.2.1).isSome) (.sel 1445 (.ret (.inl (((mget r8 v2.2.1).getD 0), v2.1, v2.2.1)))) (.sel 1445 (.reg 0 (.ln 1514 PosT.row v2.1 (.use 2 1514 (.ite 1446 ((v2.1.length : Int) == 1500) (.sel 1446 (.ret (.inr ()))) (.sel 1446 (.reg 0 (.f1 1512 (.u (entsA IV.str IV.i64 (mset r8 (v2.1.length : Int) v2.2.1))) (upd_sideS IV.i64 r8 (v2.1.length : Int) v2.2.1) (.use 3 1512 (.reg 0 (.b1 1510 (appI (α := PosT) 88 v2.1 [({ state := r7.1, own := true } : PosT)]) (fun e4 => .a (List.map PosT.row e4) e4.length) (fun e4 he4 => (app_side PosT.row 5 88 (fun _ => rfl) he4)) fun e4 => .use 4 1510 (.ret (.inl ((v2.1.length : Int), e4, (mset r8 (v2.1.length : Int) v2.2.1)))))))))))))))) fun o_v3 => .case o_v3 (fun v3 => .reg 0 (.b1 1508 (appI (α := MoveT) 16 v2.2.2 [({ step := (-1), to := v3.1 } : MoveT)]) (fun e5 => .a (List.map MoveT.row e5) e5.length) (fun e5 he5 => (app_side MoveT.row 2 16 (fun _ => rfl) he5)) fun e5 => .use 5 1508 (.ret (.inl (v3.2.1, v3.2.2, e5))))) fun y4 => .ret (.inr ())))))))))))) fun o_v4 => .case o_v4 (fun v4 => .reg 0 (.ln 1502 ActT.row c.acts (.use 2 1502 (.forR (σ := (List PosT) × (List (ByteArray × Int)) × (List MoveT)) (ρ := (List PosT) × (List (ByteArray × Int)) × (List MoveT)) 1448 49 (c.acts.length : Int) (v4.1, v4.2.1, v4.2.2) (⟨[0, 1, 2, 3, 47, 48], fun _ => [], [0, 2, 3, 25, 28, 46, 45, 44, 47], fun s2 => [(18, .rows 3 [[vI party, .gslice 29 (List.map PosT.row s2.1), .gslice 28 (List.map (rowL MoveT.row) s1.2.2.1)]]), (20, .map (entsA IV.str IV.i64 s2.2.1)), (29, .tip 5 s2.1.length), (35, .rows 1 [[.gslice 48 (List.map MoveT.row s2.2.2)]]), (48, .tip 2 s2.2.2.length)], 75, fun _ => (.exp rfl rfl (.ents rfl (.exp rfl rfl (.exp rfl rfl (.exp rfl rfl .nil)))))⟩) (fun i2 s2 => .sel 1448 (.cutO (β := (List PosT) × (List (ByteArray × Int)) × (List MoveT)) (γ := Unit) 1 (⟨[0, 1, 2, 3, 47, 48, 49], fun _ => [], [0, 2, 3, 25, 28, 46, 45, 44, 47], fun v7 => [(18, .rows 3 [[vI party, .gslice 29 (List.map PosT.row v7.1), .gslice 28 (List.map (rowL MoveT.row) s1.2.2.1)]]), (20, .map (entsA IV.str IV.i64 v7.2.1)), (29, .tip 5 v7.1.length), (35, .rows 1 [[.gslice 48 (List.map MoveT.row v7.2.2)]]), (48, .tip 2 v7.2.2.length)], 92, fun _ => (.exp rfl rfl (.ents rfl (.exp rfl rfl (.exp rfl rfl (.exp rfl rfl .nil)))))⟩) (.reg 0 (.ix 1482 ActT.row c.acts (i2 : Int) fun e6 => .use 1 1482 (.cut (β := Int) 2 (⟨[0, 1, 2, 3, 47, 48, 49, 7], fun v5 => [(9, vI v5)], [0, 2, 3, 18, 25, 28, 29, 35, 46, 45, 44, 47, 48], fun _ => [(20, .map (entsA IV.str IV.i64 s2.2.1))], 86, fun _ => (.ents rfl .nil)⟩) (.ite 1460 (e6.role == (-1)) (.sel 1461 (.ret (-1))) (.sel 1461 (.reg 0 (.ix 1484 rowI e1.state.holders e6.role fun e7 => .use 5 1484 (.ret e7))))) fun v5 => .ite 1462 ((v5 == party) == e1.own) (.sel 1463 (.reg 0 (.call 1486 (t_Step c e1.state (i2 : Int)) fun r9 => .use 4 1486 (.reg 0 (.call 1488 (t_SameS r9.1 e1.state) fun r10 => .ite 1464 r10 (.us [(3, 1488), (6, 1465)] (.ret (.inl (s2.1, s2.2.1, s2.2.2)))) (.us [(3, 1488), (6, 1465)] (.reg 2 (.call 1490 (t_text ({ state := r9.1, own := true } : PosT)) fun r11 => .use 1 1490 (.reg 0 (.f1 1500 (.l (vI ((mget r11 s2.2.1).getD 0)) ((mget r11 s2.2.1).isSome)) (look_sideS IV.i64 0 r11 s2.2.1) (.use 2 1500 (.cutO (β := Int × (List PosT) × (List (ByteArray × Int))) (γ := Unit) 1 (⟨[11, 12], fun v6 => [(15, vI v6.1)], [0, 2, 3, 25, 28, 35, 46, 45, 44, 47, 48, 100], fun v6 => [(18, .rows 3 [[vI party, .gslice 29 (List.map PosT.row v6.2.1), .gslice 28 (List.map (rowL MoveT.row) s1.2.2.1)]]), (20, .map (entsA IV.str IV.i64 v6.2.2)), (29, .tip 5 v6.2.1.length)], 130, fun _ => (.exp rfl rfl (.ents rfl (.exp rfl rfl .nil)))⟩) (.ite 1466 ((mget r11 s2.2.1).isSome) (.sel 1467 (.ret (.inl (((mget r11 s2.2.1).getD 0), s2.1, s2.2.1)))) (.sel 1467 (.reg 0 (.ln 1498 PosT.row s2.1 (.use 2 1498 (.ite 1468 ((s2.1.length : Int) == 1500) (.sel 1468 (.ret (.inr ()))) (.sel 1468 (.reg 0 (.f1 1496 (.u (entsA IV.str IV.i64 (mset r11 (s2.1.length : Int) s2.2.1))) (upd_sideS IV.i64 r11 (s2.1.length : Int) s2.2.1) (.use 3 1496 (.reg 0 (.b1 1494 (appI (α := PosT) 88 s2.1 [({ state := r9.1, own := true } : PosT)]) (fun e8 => .a (List.map PosT.row e8) e8.length) (fun e8 he8 => (app_side PosT.row 5 88 (fun _ => rfl) he8)) fun e8 => .use 4 1494 (.ret (.inl ((s2.1.length : Int), e8, (mset r11 (s2.1.length : Int) s2.2.1)))))))))))))))) fun o_v6 => .case o_v6 (fun v6 => .reg 0 (.b1 1492 (appI (α := MoveT) 16 s2.2.2 [({ step := (i2 : Int), to := v6.1 } : MoveT)]) (fun e9 => .a (List.map MoveT.row e9) e9.length) (fun e9 he9 => (app_side MoveT.row 2 16 (fun _ => rfl) he9)) fun e9 => .use 5 1492 (.ret (.inl (v6.2.1, v6.2.2, e9))))) fun y6 => .ret (.inr ()))))))))))))) (.sel 1463 (.ret (.inl (s2.1, s2.2.1, s2.2.2))))))) fun o_v7 => .case o_v7 (fun v7 => .ret (.inl (v7.1, v7.2.1, v7.2.2))) fun y7 => .ret (.inr (s2.1, s2.2.1, s2.2.2)))) fun os2 => .case os2 (fun s2 => .sel 1448 (.ret (.inl (s2.1, s2.2.1, s2.2.2)))) fun y8 => .ret (.inr ()))))) fun y5 => .ret (.inr ())) fun zy2 => .case zy2 (fun y2 => .ret (.inr ())) fun y3 => .ret (.inl (y3.1, y3.2.1, y3.2.2)))))) fun o_v8 => .case o_v8 (fun v8 => .reg 0 (.b1 1476 (appI (α := List MoveT) 24 s1.2.2.1 [v8.2.2]) (fun e10 => .a (List.map (rowL MoveT.row) e10) e10.length) (fun e10 he10 => (app_side (rowL MoveT.row) 1 24 (fun _ => rfl) he10)) fun e10 => .use 4 1476 (.ret (.inl ((IntKind.i64.wrap (s1.1 + 1)), v8.1, e10, v8.2.1))))) fun y9 => .ret (.inr (.inr ())))) (.sel 1420 (.ret (.inr (.inl (s1.2.1, s1.2.2.1))))))))) fun os1 => .case os1 (fun y10 => .ret (.inl (y10.1, y10.2))) fun y11 => .ret (.inr ()))) fun o_v9 => .case o_v9 (fun v9 => .ret (({ party := party, positions := v9.1, moves := v9.2 } : ArenaT), 0)) fun y12 => .ret (({ party := 0, positions := [], moves := [] } : ArenaT), 3))))))))) (.sel 853 (.ret (({ party := 0, positions := [], moves := [] } : ArenaT), 1)))))
theorem t_From (c : ContractT) (party : Int) (p : PosT) (res : ArenaT × Int) (hd : d_From c party p = some res) : APure C0 74 [.agg (ContractT.row c), .int .i64 party, .agg (PosT.row p)] (.tuple [.agg (ArenaT.row res.1), .int .i64 res.2]) :=
  Plan.pure (iv := fun res => .tuple [.agg (ArenaT.row res.1), .int .i64 res.2]) (p_From c party p) (by kernel_rfl) (Plan.run_of hd (by kernel_rfl))

noncomputable def d_Build (c : ContractT) (party : Int) : Option (ArenaT × Int) :=
  (Option.bind (d_Start c) fun r1 => (bif (r1.2 == 0) then (Option.bind (d_From c party ({ state := r1.1, own := true } : PosT)) fun r2 => some (r2.1, r2.2)) else some (({ party := 0, positions := [], moves := [] } : ArenaT), r1.2)))
noncomputable def p_Build (c : ContractT) (party : Int) : Plan (ArenaT × Int) :=
  .reg 1 (.call 1542 (t_Start c) fun r1 => .use 1 1542 (.ite 674 (r1.2 == 0) (.sel 675 (.reg 0 (.call 1544 (t_From c party ({ state := r1.1, own := true } : PosT)) fun r2 => .use 4 1544 (.ret (r2.1, r2.2))))) (.sel 675 (.ret (({ party := 0, positions := [], moves := [] } : ArenaT), r1.2)))))
theorem t_Build (c : ContractT) (party : Int) (res : ArenaT × Int) (hd : d_Build c party = some res) : APure C0 73 [.agg (ContractT.row c), .int .i64 party] (.tuple [.agg (ArenaT.row res.1), .int .i64 res.2]) :=
  Plan.pure (iv := fun res => .tuple [.agg (ArenaT.row res.1), .int .i64 res.2]) (p_Build c party) (by kernel_rfl) (Plan.run_of hd (by kernel_rfl))

noncomputable def d_Reach (c : ContractT) : Option ((List StateT) × Int) :=
  (Option.bind (d_Start c) fun r1 => (bif (r1.2 == 0) then (Option.bind (d_text ({ state := r1.1, own := false } : PosT)) fun r2 => (Option.bind (α := (List StateT) ⊕ Unit) (Option.bind (iter (σ := (List StateT) × Int × (List (ByteArray × Bool))) (ρ := (List StateT) ⊕ Unit) (fun s1 => (bif decide (s1.2.1 < (s1.1.length : Int)) then (Option.bind (α := ((List StateT) × (List (ByteArray × Bool))) ⊕ Unit) (Option.bind (idxI s1.1 s1.2.1) fun e1 => (bif (e1.day == c.days) then some (.inl (s1.1, s1.2.2)) else (Option.bind (iter (σ := (List StateT) × Int × (List (ByteArray × Bool))) (ρ := ((List StateT) × (List (ByteArray × Bool))) ⊕ Unit) (fun s2 => (bif decide (s2.2.1 < (c.acts.length : Int)) then (Option.bind (α := ((List StateT) × (List (ByteArray × Bool))) ⊕ Unit) (Option.bind (idxI s2.1 s1.2.1) fun e2 => (Option.bind (d_Step c e2 s2.2.1) fun r3 => (Option.bind (d_text ({ state := r3.1, own := false } : PosT)) fun r4 => (bif ((mget r4 s2.2.2).getD false) then some (.inl (s2.1, s2.2.2)) else (bif ((s2.1.length : Int) == 1500) then some (.inr ()) else (Option.bind (appI (α := StateT) 80 s2.1 [r3.1]) fun e3 => some (.inl (e3, (mset r4 true s2.2.2))))))))) (Sum.elim (fun (v1 : (List StateT) × (List (ByteArray × Bool))) => some (.inl (v1.1, (IntKind.i64.wrap (s2.2.1 + 1)), v1.2))) (fun (y1 : Unit) => some (.inr (.inr ()))))) else some (.inr (.inl (s2.1, s2.2.2))))) (s1.1, (-1), s1.2.2)) (Sum.elim (fun (y2 : (List StateT) × (List (ByteArray × Bool))) => some (.inl (y2.1, y2.2))) (fun (y3 : Unit) => some (.inr ())))))) (Sum.elim (fun (v2 : (List StateT) × (List (ByteArray × Bool))) => some (.inl (v2.1, (IntKind.i64.wrap (s1.2.1 + 1)), v2.2))) (fun (y4 : Unit) => some (.inr (.inr ()))))) else some (.inr (.inl s1.1)))) ([r1.1], 0, (mset r2 true []))) (Sum.elim (fun (y5 : (List StateT)) => some (.inl y5)) (fun (y6 : Unit) => some (.inr ())))) (Sum.elim (fun (v3 : (List StateT)) => some (v3, 0)) (fun (y7 : Unit) => some ([], 3))))) else some ([], r1.2)))
noncomputable def p_Reach (c : ContractT) : Plan ((List StateT) × Int) :=
  .reg 1 (.call 1596 (t_Start c) fun r1 => .use 1 1596 (.ite 1546 (r1.2 == 0) (.sel 1547 (.reg 1 (.call 1598 (t_text ({ state := r1.1, own := false } : PosT)) fun r2 => .use 3 1598 (.f1 1620 (.u (entsA IV.str IV.bool (mset r2 true []))) (upd_sideS IV.bool r2 true []) (.use 4 1620 (.cutO (β := (List StateT)) (γ := Unit) 1 (⟨[], fun v3 => [(6, .gslice 24 (List.map StateT.row v3))], [], fun v3 => [(24, .tip 4 v3.length)], 25, fun _ => (.exp rfl rfl .nil)⟩) (.weak 2 [wTipE 6 14 4 StateT.row [r1.1]] (.iter (σ := (List StateT) × Int × (List (ByteArray × Bool))) (ρ := (List StateT) ⊕ Unit) ([r1.1], 0, (mset r2 true [])) (⟨[1, 7], fun s1 => [(6, .gslice 24 (List.map StateT.row s1.1)), (8, vI s1.2.1)], [0], fun s1 => [(16, .map (entsA IV.str IV.bool s1.2.2)), (24, .tip 4 s1.1.length)], 25, fun _ => (.ents rfl (.exp rfl rfl .nil))⟩) (fun s1 => .reg 0 (.ln 1618 StateT.row s1.1 (.use 2 1618 (.ite 1578 (decide (s1.2.1 < (s1.1.length : Int))) (.sel 1578 (.cutO (β := (List StateT) × (List (ByteArray × Bool))) (γ := Unit) 1 (⟨[1, 7, 8], fun v2 => [(6, .gslice 24 (List.map StateT.row v2.1))], [0], fun v2 => [(16, .map (entsA IV.str IV.bool v2.2)), (24, .tip 4 v2.1.length)], 37, fun _ => (.ents rfl (.exp rfl rfl .nil))⟩) (.reg 0 (.ix 1600 StateT.row s1.1 s1.2.1 fun e1 => .use 2 1600 (.ite 1580 (e1.day == c.days) (.sel 1580 (.ret (.inl (s1.1, s1.2.2)))) (.sel 1580 (.iter (σ := (List StateT) × Int × (List (ByteArray × Bool))) (ρ := ((List StateT) × (List (ByteArray × Bool))) ⊕ Unit) (s1.1, (-1), s1.2.2) (⟨[1, 7, 8], fun s2 => [(6, .gslice 24 (List.map StateT.row s2.1)), (9, vI s2.2.1)], [0], fun s2 => [(16, .map (entsA IV.str IV.bool s2.2.2)), (24, .tip 4 s2.1.length)], 38, fun _ => (.ents rfl (.exp rfl rfl .nil))⟩) (fun s2 => .reg 0 (.ln 1616 ActT.row c.acts (.use 3 1616 (.ite 1590 (decide (s2.2.1 < (c.acts.length : Int))) (.sel 1590 (.cutO (β := (List StateT) × (List (ByteArray × Bool))) (γ := Unit) 1 (⟨[1, 7, 8, 9], fun v1 => [(6, .gslice 24 (List.map StateT.row v1.1))], [0], fun v1 => [(16, .map (entsA IV.str IV.bool v1.2)), (24, .tip 4 v1.1.length)], 63, fun _ => (.ents rfl (.exp rfl rfl .nil))⟩) (.reg 0 (.ix 1602 StateT.row s2.1 s1.2.1 fun e2 => .call 1604 (t_Step c e2 s2.2.1) fun r3 => .us [(3, 1602), (6, 1604)] (.reg 0 (.call 1606 (t_text ({ state := r3.1, own := false } : PosT)) fun r4 => .use 2 1606 (.reg 0 (.f1 1614 (.l (vB ((mget r4 s2.2.2).getD false)) ((mget r4 s2.2.2).isSome)) (look_sideS IV.bool false r4 s2.2.2) (.use 2 1614 (.ite 1592 ((mget r4 s2.2.2).getD false) (.sel 1592 (.ret (.inl (s2.1, s2.2.2)))) (.sel 1592 (.reg 0 (.ln 1612 StateT.row s2.1 (.use 1 1612 (.ite 1594 ((s2.1.length : Int) == 1500) (.sel 1594 (.ret (.inr ()))) (.sel 1594 (.reg 0 (.f1 1610 (.u (entsA IV.str IV.bool (mset r4 true s2.2.2))) (upd_sideS IV.bool r4 true s2.2.2) (.use 2 1610 (.reg 0 (.b1 1608 (appI (α := StateT) 80 s2.1 [r3.1]) (fun e3 => .a (List.map StateT.row e3) e3.length) (fun e3 he3 => (app_side StateT.row 4 80 (fun _ => rfl) he3)) fun e3 => .use 3 1608 (.ret (.inl (e3, (mset r4 true s2.2.2))))))))))))))))))))))) fun o_v1 => .case o_v1 (fun v1 => .ret (.inl (v1.1, (IntKind.i64.wrap (s2.2.1 + 1)), v1.2))) fun y1 => .ret (.inr (.inr ())))) (.sel 1590 (.ret (.inr (.inl (s2.1, s2.2.2))))))))) fun os2 => .case os2 (fun y2 => .ret (.inl (y2.1, y2.2))) fun y3 => .ret (.inr ())))))) fun o_v2 => .case o_v2 (fun v2 => .ret (.inl (v2.1, (IntKind.i64.wrap (s1.2.1 + 1)), v2.2))) fun y4 => .ret (.inr (.inr ())))) (.sel 1578 (.ret (.inr (.inl s1.1)))))))) fun os1 => .case os1 (fun y5 => .ret (.inl y5)) fun y6 => .ret (.inr ()))) fun o_v3 => .case o_v3 (fun v3 => .ret (v3, 0)) fun y7 => .ret ([], 3))))))) (.sel 1547 (.ret ([], r1.2)))))
theorem t_Reach (c : ContractT) (res : (List StateT) × Int) (hd : d_Reach c = some res) : APure C0 76 [.agg (ContractT.row c)] (.tuple [.slice (List.map StateT.row res.1), .int .i64 res.2]) :=
  Plan.pure (iv := fun res => .tuple [.slice (List.map StateT.row res.1), .int .i64 res.2]) (p_Reach c) (by kernel_rfl) (Plan.run_of hd (by kernel_rfl))

noncomputable def d_head18  : Option Bool :=
  (Option.bind (d_sample) fun r1 => (Option.bind (d_Build r1 0) fun r2 => (Option.bind (d_Build r1 1) fun r3 => (Option.bind (d_Reach r1) fun r4 => (Option.bind (d_Build r1 2) fun r5 => (Option.bind (bif (r2.2 == 0) then (bif (r3.2 == 0) then (bif (r4.2 == 0) then (bif (r5.2 == 1) then (bif ((r2.1.positions.length : Int) == 8) then (bif ((r2.1.moves.length : Int) == 8) then (Option.bind (idxI r2.1.moves 0) fun e1 => (bif ((e1.length : Int) == 2) then (Option.bind (idxI r2.1.moves 1) fun e2 => (bif ((e2.length : Int) == 1) then (Option.bind (idxI r2.1.moves 5) fun e3 => some (!((e3.length : Int) == 0))) else some true)) else some true)) else some true) else some true) else some true) else some true) else some true) else some true) fun v1 => (bif v1 then some false else (Option.bind (Option.bind (idxI r2.1.moves 0) fun e4 => (Option.bind (idxI e4 0) fun e5 => (bif ((e5.step == (-2)) && ((e5.to == 1) && true)) then (Option.bind (idxI e4 1) fun e6 => (bif ((e6.step == 0) && ((e6.to == 2) && true)) then (Option.bind (idxI r2.1.moves 1) fun e7 => (Option.bind (idxI e7 0) fun e8 => some ((e8.step == (-1)) && ((e8.to == 3) && true)))) else some false)) else some false))) fun v2 => (Option.bind (bif v2 then (Option.bind (idxI r2.1.positions 3) fun e9 => (Option.bind (idxI e9.state.marks 0) fun e10 => (bif (e10.status == 4) then (Option.bind (idxI r2.1.positions 6) fun e11 => (Option.bind (idxI e11.state.marks 0) fun e12 => (bif (e12.status == 3) then (bif ((r3.1.positions.length : Int) == 8) then some ((r4.1.length : Int) == 4) else some false) else some false))) else some false))) else some false) fun v3 => some v3)))))))))
noncomputable def p_head18  : Plan Bool :=
  .reg 1 (.call 1652 t_sample fun r1 => .use 0 1652 (.reg 0 (.call 1654 (t_Build r1 0) fun r2 => .use 1 1654 (.reg 0 (.call 1656 (t_Build r1 1) fun r3 => .use 1 1656 (.reg 0 (.call 1658 (t_Reach r1) fun r4 => .use 1 1658 (.reg 0 (.call 1660 (t_Build r1 2) fun r5 => .use 1 1660 (.cut (β := Bool) 2 (.e [2, 4, 6] (fun v1 => [(81, vB v1)]) [2, 9, 17, 32] 85) (.reg 0 (.ite 1622 (r2.2 == 0) (.ite 1624 (r3.2 == 0) (.ite 1626 (r4.2 == 0) (.ite 1628 (r5.2 == 1) (.ite 1630 ((r2.1.positions.length : Int) == 8) (.ite 1632 ((r2.1.moves.length : Int) == 8) (.ix 1662 (rowL MoveT.row) r2.1.moves 0 fun e1 => .ite 1634 ((e1.length : Int) == 2) (.ix 1664 (rowL MoveT.row) r2.1.moves 1 fun e2 => .ite 1636 ((e2.length : Int) == 1) (.ix 1666 (rowL MoveT.row) r2.1.moves 5 fun e3 => .us [(3, 1623), (7, 1625), (11, 1627), (15, 1629)] (.ln 1676 PosT.row r2.1.positions (.us [(17, 1676), (21, 1631)] (.ln 1674 (rowL MoveT.row) r2.1.moves (.us [(23, 1674), (27, 1633), (29, 1662)] (.ln 1672 MoveT.row e1 (.us [(31, 1672), (35, 1635), (37, 1664)] (.ln 1670 MoveT.row e2 (.us [(39, 1670), (43, 1637), (45, 1666)] (.ln 1668 MoveT.row e3 (.use 47 1668 (.ret (!((e3.length : Int) == 0)))))))))))))) (.us [(3, 1623), (7, 1625), (11, 1627), (15, 1629)] (.ln 1684 PosT.row r2.1.positions (.us [(17, 1684), (21, 1631)] (.ln 1682 (rowL MoveT.row) r2.1.moves (.us [(23, 1682), (27, 1633), (29, 1662)] (.ln 1680 MoveT.row e1 (.us [(31, 1680), (35, 1635), (37, 1664)] (.ln 1678 MoveT.row e2 (.us [(39, 1678), (43, 1637)] (.ret true))))))))))) (.us [(3, 1623), (7, 1625), (11, 1627), (15, 1629)] (.ln 1692 PosT.row r2.1.positions (.us [(17, 1692), (21, 1631)] (.ln 1690 (rowL MoveT.row) r2.1.moves (.us [(23, 1690), (27, 1633), (29, 1662)] (.ln 1688 MoveT.row e1 (.us [(31, 1688), (35, 1635)] (.f1 1686 (.g true) (rfl : true = true) (.use 43 1686 (.ret true))))))))))) (.us [(3, 1623), (7, 1625), (11, 1627), (15, 1629)] (.ln 1700 PosT.row r2.1.positions (.us [(17, 1700), (21, 1631)] (.ln 1698 (rowL MoveT.row) r2.1.moves (.us [(23, 1698), (27, 1633)] (.f1 1696 (.g true) (rfl : true = true) (.use 35 1696 (.f1 1694 (.g true) (rfl : true = true) (.use 43 1694 (.ret true))))))))))) (.us [(3, 1623), (7, 1625), (11, 1627), (15, 1629)] (.ln 1708 PosT.row r2.1.positions (.us [(17, 1708), (21, 1631)] (.f1 1706 (.g true) (rfl : true = true) (.use 27 1706 (.f1 1704 (.g true) (rfl : true = true) (.use 35 1704 (.f1 1702 (.g true) (rfl : true = true) (.use 43 1702 (.ret true))))))))))) (.us [(3, 1623), (7, 1625), (11, 1627), (15, 1629)] (.f1 1716 (.g true) (rfl : true = true) (.use 21 1716 (.f1 1714 (.g true) (rfl : true = true) (.use 27 1714 (.f1 1712 (.g true) (rfl : true = true) (.use 35 1712 (.f1 1710 (.g true) (rfl : true = true) (.use 43 1710 (.ret true))))))))))) (.us [(3, 1623), (7, 1625), (11, 1627)] (.f1 1726 (.g true) (rfl : true = true) (.use 15 1726 (.f1 1724 (.g true) (rfl : true = true) (.use 21 1724 (.f1 1722 (.g true) (rfl : true = true) (.use 27 1722 (.f1 1720 (.g true) (rfl : true = true) (.use 35 1720 (.f1 1718 (.g true) (rfl : true = true) (.use 43 1718 (.ret true))))))))))))) (.us [(3, 1623), (7, 1625)] (.f1 1738 (.g true) (rfl : true = true) (.use 11 1738 (.f1 1736 (.g true) (rfl : true = true) (.use 15 1736 (.f1 1734 (.g true) (rfl : true = true) (.use 21 1734 (.f1 1732 (.g true) (rfl : true = true) (.use 27 1732 (.f1 1730 (.g true) (rfl : true = true) (.use 35 1730 (.f1 1728 (.g true) (rfl : true = true) (.use 43 1728 (.ret true))))))))))))))) (.use 3 1623 (.f1 1752 (.g true) (rfl : true = true) (.use 7 1752 (.f1 1750 (.g true) (rfl : true = true) (.use 11 1750 (.f1 1748 (.g true) (rfl : true = true) (.use 15 1748 (.f1 1746 (.g true) (rfl : true = true) (.use 21 1746 (.f1 1744 (.g true) (rfl : true = true) (.use 27 1744 (.f1 1742 (.g true) (rfl : true = true) (.use 35 1742 (.f1 1740 (.g true) (rfl : true = true) (.use 43 1740 (.ret true)))))))))))))))))) fun v1 => .ite 1638 v1 (.sel 1638 (.ret false)) (.sel 1638 (.cut (β := Bool) 1 (.e [2, 4, 6] (fun v2 => [(10, vB v2)]) [2, 9, 17, 32] 114) (.reg 0 (.ix 1754 (rowL MoveT.row) r2.1.moves 0 fun e4 => .ix 1756 MoveT.row e4 0 fun e5 => .ite 1640 ((e5.step == (-2)) && ((e5.to == 1) && true)) (.ix 1758 MoveT.row e4 1 fun e6 => .ite 1642 ((e6.step == 0) && ((e6.to == 2) && true)) (.ix 1760 (rowL MoveT.row) r2.1.moves 1 fun e7 => .ix 1762 MoveT.row e7 0 fun e8 => .us [(2, 1754), (4, 1756), (9, 1640), (11, 1754), (13, 1758), (19, 1642), (21, 1760), (23, 1762)] (.ret ((e8.step == (-1)) && ((e8.to == 3) && true)))) (.us [(2, 1754), (4, 1756), (9, 1640), (11, 1754), (13, 1758), (19, 1642)] (.ret false))) (.us [(2, 1754), (4, 1756), (9, 1640)] (.f1 1764 (.g false) (rfl : false = false) (.use 19 1764 (.ret false)))))) fun v2 => .cut (β := Bool) 1 (.e [] (fun v3 => [(0, vB v3)]) [2, 9, 17, 32] 151) (.reg 0 (.ite 1644 v2 (.ix 1766 PosT.row r2.1.positions 3 fun e9 => .ix 1768 MarkT.row e9.state.marks 0 fun e10 => .ite 1646 (e10.status == 4) (.ix 1770 PosT.row r2.1.positions 6 fun e11 => .ix 1772 MarkT.row e11.state.marks 0 fun e12 => .ite 1648 (e12.status == 3) (.ite 1650 ((r3.1.positions.length : Int) == 8) (.us [(2, 1644), (4, 1766), (8, 1768), (14, 1646), (16, 1770), (20, 1772), (26, 1648)] (.ln 1776 PosT.row r3.1.positions (.us [(28, 1776), (32, 1650)] (.ln 1774 StateT.row r4.1 (.use 33 1774 (.ret ((r4.1.length : Int) == 4))))))) (.us [(2, 1644), (4, 1766), (8, 1768), (14, 1646), (16, 1770), (20, 1772), (26, 1648)] (.ln 1778 PosT.row r3.1.positions (.us [(28, 1778), (32, 1650)] (.ret false))))) (.us [(2, 1644), (4, 1766), (8, 1768), (14, 1646), (16, 1770), (20, 1772), (26, 1648)] (.f1 1780 (.g false) (rfl : false = false) (.use 32 1780 (.ret false))))) (.us [(2, 1644), (4, 1766), (8, 1768), (14, 1646)] (.f1 1784 (.g false) (rfl : false = false) (.use 26 1784 (.f1 1782 (.g false) (rfl : false = false) (.use 32 1782 (.ret false))))))) (.use 2 1644 (.f1 1790 (.g false) (rfl : false = false) (.use 14 1790 (.f1 1788 (.g false) (rfl : false = false) (.use 26 1788 (.f1 1786 (.g false) (rfl : false = false) (.use 32 1786 (.ret false)))))))))) fun v3 => .ret v3))))))))))))
theorem t_head18  (res : Bool) (hd : d_head18  = some res) : APure C0 90 [] (.bool res) :=
  Plan.pure (iv := fun res => .bool res) (p_head18 ) (by kernel_rfl) (Plan.run_of hd (by kernel_rfl))

noncomputable def d_Small15 (c : ContractT) (n : Int) : Option Bool :=
  (Option.bind (bif decide (20 < (c.holders.length : Int)) then some true else (bif decide (30 < (c.units.length : Int)) then some true else (bif decide (70 < (c.acts.length : Int)) then some true else (bif decide (n < (c.clauses.length : Int)) then some true else some (decide (100 < (c.off.length : Int))))))) fun v1 => (bif v1 then some false else (Option.bind (forR (σ := Unit) (ρ := Unit) (c.clauses.length : Int) (fun i1 s1 => (Option.bind (idxI c.clauses (i1 : Int)) fun e1 => (bif decide (20 < (e1.start.length : Int)) then some (.inr ()) else some (.inl ())))) ()) (Sum.elim (fun (s1 : Unit) => some true) (fun (y1 : Unit) => some false)))))
noncomputable def p_Small15 (c : ContractT) (n : Int) : Plan Bool :=
  .cut (β := Bool) 3 (.e [2] (fun v1 => [(34, vB v1)]) [0] 31) (.reg 0 (.ite 1792 (decide (20 < (c.holders.length : Int))) (.ln 1812 rowI c.holders (.us [(2, 1812), (5, 1792)] (.f1 1810 (.g true) (rfl : true = true) (.use 11 1810 (.f1 1808 (.g true) (rfl : true = true) (.use 17 1808 (.f1 1806 (.g true) (rfl : true = true) (.use 24 1806 (.ret true))))))))) (.ite 1794 (decide (30 < (c.units.length : Int))) (.ln 1820 rowI c.holders (.us [(2, 1820), (5, 1792)] (.ln 1818 UnitT.row c.units (.us [(7, 1818), (11, 1794)] (.f1 1816 (.g true) (rfl : true = true) (.use 17 1816 (.f1 1814 (.g true) (rfl : true = true) (.use 24 1814 (.ret true))))))))) (.ite 1796 (decide (70 < (c.acts.length : Int))) (.ln 1828 rowI c.holders (.us [(2, 1828), (5, 1792)] (.ln 1826 UnitT.row c.units (.us [(7, 1826), (11, 1794)] (.ln 1824 ActT.row c.acts (.us [(13, 1824), (17, 1796)] (.f1 1822 (.g true) (rfl : true = true) (.use 24 1822 (.ret true))))))))) (.ite 1798 (decide (n < (c.clauses.length : Int))) (.ln 1836 rowI c.holders (.us [(2, 1836), (5, 1792)] (.ln 1834 UnitT.row c.units (.us [(7, 1834), (11, 1794)] (.ln 1832 ActT.row c.acts (.us [(13, 1832), (17, 1796)] (.ln 1830 ClauseT.row c.clauses (.us [(19, 1830), (24, 1798)] (.ret true))))))))) (.ln 1846 rowI c.holders (.us [(2, 1846), (5, 1792)] (.ln 1844 UnitT.row c.units (.us [(7, 1844), (11, 1794)] (.ln 1842 ActT.row c.acts (.us [(13, 1842), (17, 1796)] (.ln 1840 ClauseT.row c.clauses (.us [(19, 1840), (24, 1798)] (.ln 1838 rowI c.off (.use 26 1838 (.ret (decide (100 < (c.off.length : Int))))))))))))))))))) fun v1 => .ite 1800 v1 (.sel 1800 (.ret false)) (.sel 1800 (.forR (σ := Unit) (ρ := Unit) 1802 5 (c.clauses.length : Int) () (.e [2] (fun _ => []) [0] 32) (fun i1 s1 => .reg 0 (.ln 1852 ClauseT.row c.clauses (.use 3 1852 (.sel 1802 (.reg 0 (.ix 1848 ClauseT.row c.clauses (i1 : Int) fun e1 => .use 3 1848 (.ln 1850 CondT.row e1.start (.use 6 1850 (.ite 1804 (decide (20 < (e1.start.length : Int))) (.sel 1804 (.ret (.inr ()))) (.sel 1804 (.ret (.inl ())))))))))))) fun os1 => .case os1 (fun s1 => .reg 0 (.ln 1854 ClauseT.row c.clauses (.use 3 1854 (.sel 1802 (.ret true))))) fun y1 => .ret false))
theorem t_Small15 (c : ContractT) (n : Int) (res : Bool) (hd : d_Small15 c n = some res) : APure C0 94 [.agg (ContractT.row c), .int .i64 n] (.bool res) :=
  Plan.pure (iv := fun res => .bool res) (p_Small15 c n) (by kernel_rfl) (Plan.run_of hd (by kernel_rfl))

noncomputable def d_Tame (c : ContractT) : Option Bool :=
  (Option.bind (Option.bind (d_Small15 c 6) fun r1 => (bif r1 then (bif decide ((c.acts.length : Int) ≤ 8) then some (decide (c.days ≤ 20)) else some false) else some false)) fun v1 => some v1)
noncomputable def p_Tame (c : ContractT) : Plan Bool :=
  .cut (β := Bool) 2 (.e [] (fun v1 => [(2, vB v1)]) [0] 16) (.reg 0 (.call 1860 (t_Small15 c 6) fun r1 => .ite 1856 r1 (.ite 1858 (decide ((c.acts.length : Int) ≤ 8)) (.us [(1, 1860), (3, 1856)] (.ln 1862 ActT.row c.acts (.us [(5, 1862), (9, 1858)] (.ret (decide (c.days ≤ 20)))))) (.us [(1, 1860), (3, 1856)] (.ln 1864 ActT.row c.acts (.us [(5, 1864), (9, 1858)] (.ret false))))) (.us [(1, 1860), (3, 1856)] (.f1 1866 (.g false) (rfl : false = false) (.use 9 1866 (.ret false)))))) fun v1 => .ret v1
theorem t_Tame (c : ContractT) (res : Bool) (hd : d_Tame c = some res) : APure C0 97 [.agg (ContractT.row c)] (.bool res) :=
  Plan.pure (iv := fun res => .bool res) (p_Tame c) (by kernel_rfl) (Plan.run_of hd (by kernel_rfl))

noncomputable def d_Same15 (a : StateT) (b : StateT) : Option Bool :=
  (Option.bind (bif (a.day == b.day) then (bif ((a.holders.length : Int) == (b.holders.length : Int)) then (bif ((a.used.length : Int) == (b.used.length : Int)) then some (!((a.marks.length : Int) == (b.marks.length : Int))) else some true) else some true) else some true) fun v1 => (bif v1 then some false else (Option.bind (forR (σ := Unit) (ρ := Unit) (a.holders.length : Int) (fun i1 s1 => (Option.bind (idxI a.holders (i1 : Int)) fun e1 => (Option.bind (idxI b.holders (i1 : Int)) fun e2 => (bif (e1 == e2) then some (.inl ()) else some (.inr ()))))) ()) (Sum.elim (fun (s1 : Unit) => (Option.bind (forR (σ := Unit) (ρ := Unit) (a.used.length : Int) (fun i2 s2 => (Option.bind (idxI a.used (i2 : Int)) fun e3 => (Option.bind (idxI b.used (i2 : Int)) fun e4 => (bif (e3 == e4) then some (.inl ()) else some (.inr ()))))) ()) (Sum.elim (fun (s2 : Unit) => (Option.bind (forR (σ := Unit) (ρ := Unit) (a.marks.length : Int) (fun i3 s3 => (Option.bind (idxI a.marks (i3 : Int)) fun e5 => (Option.bind (idxI b.marks (i3 : Int)) fun e6 => (bif ((e5.status == e6.status) && ((e5.left == e6.left) && ((e5.got == e6.got) && ((e5.bearer == e6.bearer) && ((e5.paused == e6.paused) && true))))) then some (.inl ()) else some (.inr ()))))) ()) (Sum.elim (fun (s3 : Unit) => some true) (fun (y3 : Unit) => some false)))) (fun (y2 : Unit) => some false)))) (fun (y1 : Unit) => some false)))))
noncomputable def p_Same15 (a : StateT) (b : StateT) : Plan Bool :=
  .cut (β := Bool) 3 (.e [2, 3] (fun v1 => [(39, vB v1)]) [0, 1] 35) (.reg 0 (.ite 1888 (a.day == b.day) (.ite 1890 ((a.holders.length : Int) == (b.holders.length : Int)) (.ite 1892 ((a.used.length : Int) == (b.used.length : Int)) (.use 6 1889 (.ln 1918 rowI a.holders (.use 8 1918 (.ln 1916 rowI b.holders (.us [(11, 1916), (15, 1891)] (.ln 1914 rowB a.used (.use 17 1914 (.ln 1912 rowB b.used (.us [(20, 1912), (24, 1893)] (.ln 1910 MarkT.row a.marks (.use 26 1910 (.ln 1908 MarkT.row b.marks (.use 29 1908 (.ret (!((a.marks.length : Int) == (b.marks.length : Int))))))))))))))))) (.use 6 1889 (.ln 1926 rowI a.holders (.use 8 1926 (.ln 1924 rowI b.holders (.us [(11, 1924), (15, 1891)] (.ln 1922 rowB a.used (.use 17 1922 (.ln 1920 rowB b.used (.us [(20, 1920), (24, 1893)] (.ret true))))))))))) (.use 6 1889 (.ln 1932 rowI a.holders (.use 8 1932 (.ln 1930 rowI b.holders (.us [(11, 1930), (15, 1891)] (.f1 1928 (.g true) (rfl : true = true) (.use 24 1928 (.ret true))))))))) (.use 6 1889 (.f1 1936 (.g true) (rfl : true = true) (.use 15 1936 (.f1 1934 (.g true) (rfl : true = true) (.use 24 1934 (.ret true)))))))) fun v1 => .ite 1894 v1 (.sel 1894 (.ret false)) (.sel 1894 (.forR (σ := Unit) (ρ := Unit) 1896 5 (a.holders.length : Int) () (.e [2, 3] (fun _ => []) [0, 1] 36) (fun i1 s1 => .reg 0 (.ln 1942 rowI a.holders (.use 3 1942 (.sel 1896 (.reg 0 (.ix 1938 rowI a.holders (i1 : Int) fun e1 => .ix 1940 rowI b.holders (i1 : Int) fun e2 => .us [(3, 1938), (8, 1940)] (.ite 1898 (e1 == e2) (.sel 1899 (.ret (.inl ()))) (.sel 1899 (.ret (.inr ())))))))))) fun os1 => .case os1 (fun s1 => .reg 0 (.ln 1960 rowI a.holders (.use 3 1960 (.sel 1896 (.forR (σ := Unit) (ρ := Unit) 1900 6 (a.used.length : Int) () (.e [2, 3] (fun _ => []) [0, 1] 42) (fun i2 s2 => .reg 0 (.ln 1948 rowB a.used (.use 3 1948 (.sel 1900 (.reg 0 (.ix 1944 rowB a.used (i2 : Int) fun e3 => .ix 1946 rowB b.used (i2 : Int) fun e4 => .us [(3, 1944), (8, 1946)] (.ite 1902 (e3 == e4) (.sel 1903 (.ret (.inl ()))) (.sel 1903 (.ret (.inr ())))))))))) fun os2 => .case os2 (fun s2 => .reg 0 (.ln 1958 rowB a.used (.use 3 1958 (.sel 1900 (.forR (σ := Unit) (ρ := Unit) 1904 7 (a.marks.length : Int) () (.e [2, 3] (fun _ => []) [0, 1] 48) (fun i3 s3 => .reg 0 (.ln 1954 MarkT.row a.marks (.use 3 1954 (.sel 1904 (.reg 0 (.ix 1950 MarkT.row a.marks (i3 : Int) fun e5 => .ix 1952 MarkT.row b.marks (i3 : Int) fun e6 => .us [(3, 1950), (8, 1952)] (.ite 1906 ((e5.status == e6.status) && ((e5.left == e6.left) && ((e5.got == e6.got) && ((e5.bearer == e6.bearer) && ((e5.paused == e6.paused) && true))))) (.sel 1907 (.ret (.inl ()))) (.sel 1907 (.ret (.inr ())))))))))) fun os3 => .case os3 (fun s3 => .reg 0 (.ln 1956 MarkT.row a.marks (.use 3 1956 (.sel 1904 (.ret true))))) fun y3 => .ret false))))) fun y2 => .ret false))))) fun y1 => .ret false))
theorem t_Same15 (a : StateT) (b : StateT) (res : Bool) (hd : d_Same15 a b = some res) : APure C0 93 [.agg (StateT.row a), .agg (StateT.row b)] (.bool res) :=
  Plan.pure (iv := fun res => .bool res) (p_Same15 a b) (by kernel_rfl) (Plan.run_of hd (by kernel_rfl))

noncomputable def d_Equal18 (a : PosT) (b : PosT) : Option Bool :=
  (Option.bind (bif (a.own == b.own) then (Option.bind (d_Same15 a.state b.state) fun r1 => some r1) else some false) fun v1 => some v1)
noncomputable def p_Equal18 (a : PosT) (b : PosT) : Plan Bool :=
  .cut (β := Bool) 2 (.e [] (fun v1 => [(4, vB v1)]) [0, 1] 16) (.reg 0 (.ite 1886 (a.own == b.own) (.call 1962 (t_Same15 a.state b.state) fun r1 => .us [(6, 1886), (10, 1962)] (.ret r1)) (.use 6 1886 (.ret false)))) fun v1 => .ret v1
theorem t_Equal18 (a : PosT) (b : PosT) (res : Bool) (hd : d_Equal18 a b = some res) : APure C0 95 [.agg (PosT.row a), .agg (PosT.row b)] (.bool res) :=
  Plan.pure (iv := fun res => .bool res) (p_Equal18 a b) (by kernel_rfl) (Plan.run_of hd (by kernel_rfl))

noncomputable def d_Index18 (l : List PosT) (p : PosT) : Option Int :=
  (Option.bind (forR (σ := Unit) (ρ := Int) (l.length : Int) (fun i1 s1 => (Option.bind (idxI l (i1 : Int)) fun e1 => (Option.bind (d_Equal18 e1 p) fun r1 => (bif r1 then some (.inr (i1 : Int)) else some (.inl ()))))) ()) (Sum.elim (fun (s1 : Unit) => some (-1)) (fun (y1 : Int) => some y1)))
noncomputable def p_Index18 (l : List PosT) (p : PosT) : Plan Int :=
  .forR (σ := Unit) (ρ := Int) 1884 5 (l.length : Int) () (.e [0, 3] (fun _ => []) [0] 3) (fun i1 s1 => .reg 0 (.ln 1970 PosT.row l (.use 2 1970 (.sel 1884 (.reg 0 (.ix 1966 PosT.row l (i1 : Int) fun e1 => .call 1968 (t_Equal18 e1 p) fun r1 => .us [(2, 1966), (5, 1968)] (.ite 1964 r1 (.sel 1964 (.ret (.inr (i1 : Int)))) (.sel 1964 (.ret (.inl ())))))))))) fun os1 => .case os1 (fun s1 => .reg 0 (.ln 1972 PosT.row l (.use 2 1972 (.sel 1884 (.ret (-1)))))) fun y1 => .ret y1
theorem t_Index18 (l : List PosT) (p : PosT) (res : Int) (hd : d_Index18 l p = some res) : APure C0 96 [.slice (List.map PosT.row l), .agg (PosT.row p)] (.int .i64 res) :=
  Plan.pure (iv := fun res => .int .i64 res) (p_Index18 l p) (by kernel_rfl) (Plan.run_of hd (by kernel_rfl))

noncomputable def d_ArenaStates (c : ContractT) (party : Int) : Option Bool :=
  (Option.bind (d_head18) fun r1 => (Option.bind (d_Tame c) fun r2 => (bif r2 then (Option.bind (d_Build c party) fun r3 => (Option.bind (d_Reach c) fun r4 => (Option.bind (bif (r3.2 == 0) then some (decide (300 < (r3.1.positions.length : Int))) else some true) fun v1 => (bif v1 then some r1 else (Option.bind (bif (r4.2 == 0) then some (!((IntKind.i64.wrap (2 * (r4.1.length : Int))) == (r3.1.positions.length : Int))) else some true) fun v2 => (bif v2 then some false else (Option.bind (forR (σ := Unit) (ρ := Unit) (r4.1.length : Int) (fun i1 s1 => (Option.bind (Option.bind (idxI r4.1 (i1 : Int)) fun e1 => (Option.bind (d_Index18 r3.1.positions ({ state := e1, own := true } : PosT)) fun r5 => (bif decide (r5 < 0) then some true else (Option.bind (d_Index18 r3.1.positions ({ state := e1, own := false } : PosT)) fun r6 => some (decide (r6 < 0)))))) fun v3 => (bif v3 then some (.inr ()) else some (.inl ())))) ()) (Sum.elim (fun (s1 : Unit) => some r1) (fun (y1 : Unit) => some false))))))))) else some r1)))
noncomputable def p_ArenaStates (c : ContractT) (party : Int) : Plan Bool :=
  .reg 1 (.call 2378 t_head18 fun r1 => .use 0 2378 (.reg 0 (.call 2380 (t_Tame c) fun r2 => .use 1 2380 (.ite 2362 r2 (.sel 2363 (.reg 0 (.call 2382 (t_Build c party) fun r3 => .use 2 2382 (.reg 0 (.call 2384 (t_Reach c) fun r4 => .use 1 2384 (.cut (β := Bool) 2 (.e [5, 6, 8, 9] (fun v1 => [(34, vB v1)]) [0, 13] 31) (.reg 0 (.ite 2364 (r3.2 == 0) (.use 3 2365 (.ln 2386 PosT.row r3.1.positions (.use 5 2386 (.ret (decide (300 < (r3.1.positions.length : Int))))))) (.use 3 2365 (.ret true)))) fun v1 => .ite 2366 v1 (.sel 2366 (.ret r1)) (.sel 2366 (.cut (β := Bool) 2 (.e [5, 6, 8] (fun v2 => [(46, vB v2)]) [0, 13] 42) (.reg 0 (.ite 2368 (r4.2 == 0) (.use 3 2369 (.ln 2390 StateT.row r4.1 (.use 4 2390 (.ln 2388 PosT.row r3.1.positions (.use 8 2388 (.ret (!((IntKind.i64.wrap (2 * (r4.1.length : Int))) == (r3.1.positions.length : Int))))))))) (.use 3 2369 (.ret true)))) fun v2 => .ite 2370 v2 (.sel 2370 (.ret false)) (.sel 2370 (.forR (σ := Unit) (ρ := Unit) 2372 10 (r4.1.length : Int) () (.e [5, 6, 8] (fun _ => []) [13] 43) (fun i1 s1 => .reg 0 (.ln 2398 StateT.row r4.1 (.use 2 2398 (.sel 2372 (.cut (β := Bool) 3 (.e [5, 6, 8, 10] (fun v3 => [(72, vB v3)]) [13] 67) (.reg 0 (.ix 2392 StateT.row r4.1 (i1 : Int) fun e1 => .call 2394 (t_Index18 r3.1.positions ({ state := e1, own := true } : PosT)) fun r5 => .ite 2374 (decide (r5 < 0)) (.us [(4, 2392), (7, 2394), (10, 2374)] (.ret true)) (.call 2396 (t_Index18 r3.1.positions ({ state := e1, own := false } : PosT)) fun r6 => .us [(4, 2392), (7, 2394), (10, 2374), (14, 2392), (17, 2396)] (.ret (decide (r6 < 0)))))) fun v3 => .ite 2376 v3 (.sel 2376 (.ret (.inr ()))) (.sel 2376 (.ret (.inl ())))))))) fun os1 => .case os1 (fun s1 => .reg 0 (.ln 2400 StateT.row r4.1 (.use 2 2400 (.sel 2372 (.ret r1))))) fun y1 => .ret false)))))))))) (.sel 2363 (.ret r1))))))
theorem t_ArenaStates (c : ContractT) (party : Int) (res : Bool) (hd : d_ArenaStates c party = some res) : APure C0 87 [.agg (ContractT.row c), .int .i64 party] (.bool res) :=
  Plan.pure (iv := fun res => .bool res) (p_ArenaStates c party) (by kernel_rfl) (Plan.run_of hd (by kernel_rfl))

end Go.Proofs.YtaglopifoibhiaaDoor
namespace Go.Proofs.YtaglopifoibhiaaDoor
set_option linter.unusedVariables false
set_option linter.unusedSimpArgs false
set_option maxRecDepth 100000

theorem gcd_total (a b : Int) : ∃ r, iter (σ := Int × Int) (ρ := Int) (fun s2 => (bif (s2.2 == 0) then some (.inr s2.1) else (Option.bind (remI .u64 s2.1 s2.2) fun e2 => some (.inl (s2.2, e2))))) (a, b) = some r := by
  have := iter_rule (f := fun s2 : Int × Int => (bif (s2.2 == 0) then some (.inr s2.1) else (Option.bind (remI .u64 s2.1 s2.2) fun e2 => some (.inl (s2.2, e2))))) (fun _ => True) (fun _ : Int => True) (fun s => s.2.natAbs) (fun s _ => by
    by_cases h : s.2 = 0
    · exact ⟨.inr s.1, by simp [h], trivial⟩
    · refine ⟨.inl (s.2, s.1.tmod s.2), by simp [beq_eq_false_iff_ne.2 h, h, remI], trivial, ?_⟩
      show (s.1.tmod s.2).natAbs < s.2.natAbs
      rw [Int.natAbs_tmod]
      exact Nat.mod_lt _ (by omega)) (a, b) trivial
  obtain ⟨r, h, _⟩ := this
  exact ⟨r, h⟩

theorem divisor_total (l : List Int) (hl : l.length < 1000) : ∃ r, d_divisor l = some r := by
  unfold d_divisor
  obtain ⟨o, h1, h2⟩ := forR_ruleL (n := l.length) (s0 := (0 : Int)) (f := (fun i1 s1 => (Option.bind (Option.bind (idxI l (i1 : Int)) fun e1 => (Option.bind (iter (σ := Int × Int) (ρ := Int) (fun s2 => (bif (s2.2 == 0) then some (.inr s2.1) else (Option.bind (remI .u64 s2.1 s2.2) fun e2 => some (.inl (s2.2, e2))))) (s1, e1)) (fun (y1 : Int) => some y1))) fun (v1 : Int) => some (.inl v1)))) (fun _ _ => True) (fun _ : Unit => False) (by omega) trivial (fun i s hi _ => by
    obtain ⟨r, hr⟩ := gcd_total s l[i]
    exact ⟨.inl r, by simp only [idxI_nat', List.getElem?_eq_getElem hi, Option.bind_some, hr], trivial⟩)
  rw [h1]
  cases o with
  | inl s => exact ⟨s, rfl⟩
  | inr r => exact h2.elim

theorem magnitude_total (n : Int) : ∃ r, d_magnitude n = some r := by
  unfold d_magnitude; simp only [cond_some]; exact ⟨_, rfl⟩

noncomputable def rvB (r : Ratio) : Bool := (d_ratioValid r).getD false
theorem s_ratioValid (r : Ratio) : d_ratioValid r = some (rvB r) := by
  have : ∃ b, d_ratioValid r = some b := by
    unfold d_ratioValid
    obtain ⟨a, ha⟩ := magnitude_total r.num
    obtain ⟨b, hb⟩ := magnitude_total r.den
    obtain ⟨g, hg⟩ := divisor_total [a, b] (by simp)
    simp only [ha, hb, hg, cond_some, Option.bind_some]
    exact ⟨_, rfl⟩
  obtain ⟨b, hb⟩ := this
  unfold rvB; rw [hb]; rfl

def snd0 (x : Option (Int × Bool)) : Bool := (x.getD (0, false)).2
theorem snd0_of {x : Option (Int × Bool)} {r : Int × Bool} (h : x = some r) : x = some (r.1, snd0 x) := by subst h; rfl
noncomputable def quB (l : List UnitT) : Bool := snd0 (d_quantityValid l)
theorem unitValid_total (t : List UnitT) (i : Nat) (hi : i < t.length) (ht : t.length < 1000) : ∃ b, d_unitValid t i = some b := by
  unfold d_unitValid
  have hs : slcI t 0 (i : Int) = some (t.take i) := by
    unfold slcI; rw [if_pos ⟨by omega, by omega, by omega⟩]; simp
  have hf : forR (σ := Unit) (ρ := Unit) ((t.take i).length : Int) (fun i1 s1 => (Option.bind (idxI (t.take i) (i1 : Int)) fun e3 => (bif (e3.name.toList == t[i].name.toList) then some (.inr ()) else some (.inl ())))) () = some (match (List.range (t.take i).length).find? (fun j => !(match (t.take i)[j]? with | some e => !(e.name.toList == t[i].name.toList) | none => true)) with | none => .inl () | some j => .inr ()) := by
    refine forR_first _ (fun _ => ()) (by simp; omega) (fun j hj => ?_)
    simp only [idxI_nat', List.getElem?_eq_getElem hj, Option.bind_some]
    cases ((t.take i)[j].name.toList == t[i].name.toList) <;> rfl
  rw [idxI_at (List.getElem?_eq_getElem hi)]
  simp only [Option.bind_some]
  rw [hs]
  simp only [Option.bind_some]
  rw [hf]
  simp only [s_ratioValid, cond_some, Option.bind_some, d_isIndex]
  split
  all_goals simp only [Sum.elim_inl, Sum.elim_inr, cond_some]
  · by_cases hb : 0 ≤ t[i].base ∧ t[i].base < t.length
    · obtain ⟨h1, h2⟩ := idxI_lt hb.1 hb.2
      simp only [h2, Option.bind_some, cond_some]
      exact ⟨_, rfl⟩
    · by_cases h1 : 0 ≤ t[i].base
      · have : ¬ t[i].base < t.length := fun h => hb ⟨h1, h⟩
        simp only [h1, this, decide_true, decide_false, cond_true, cond_false, Option.bind_some, cond_some]
        exact ⟨_, rfl⟩
      · simp only [h1, decide_false, cond_false, Option.bind_some, cond_some]
        exact ⟨_, rfl⟩
  · exact ⟨_, rfl⟩

theorem s_quantityValid (l : List UnitT) (hl : l.length < 1000) : ∃ k, d_quantityValid l = some (k, quB l) := by
  have : ∃ r, d_quantityValid l = some r := by
    unfold d_quantityValid
    obtain ⟨o, h1, h2⟩ := forR_ruleL (n := l.length) (s0 := ()) (f := (fun i1 s1 => (Option.bind (d_unitValid l (i1 : Int)) fun r1 => (bif r1 then some (.inl ()) else some (.inr (i1 : Int)))))) (fun _ _ => True) (fun _ : Int => True) (by omega) trivial (fun i s hi _ => by
      obtain ⟨b, hb⟩ := unitValid_total l i hi hl
      cases b with
      | true => exact ⟨.inl (), by simp [hb], trivial⟩
      | false => exact ⟨.inr i, by simp [hb], trivial⟩)
    rw [h1]
    cases o with
    | inl s => exact ⟨_, rfl⟩
    | inr r => exact ⟨_, rfl⟩
  obtain ⟨r, hr⟩ := this
  exact ⟨r.1, snd0_of hr⟩

def movB (nh : Nat) (r : Int) : Bool := decide (0 ≤ r) && decide (r < nh)
theorem s_movable (c : ContractT) (r : Int) : d_movable c r = some (movB c.holders.length r) := by
  simp only [d_movable, cond_some, Option.bind_some, movB, Bool.cond_false_right]
noncomputable def posB (r : Ratio) : Bool := decide (0 < r.num) && rvB r
theorem s_positive (r : Ratio) : d_positive r = some (posB r) := by
  simp only [d_positive, s_ratioValid, cond_some, Option.bind_some, posB, Bool.cond_false_right]
def noneB (r : Ratio) : Bool := r.num == 0 && (r.den == 1 && true)
noncomputable def actB (nh nu : Nat) (parties : Int) (a : ActT) : Bool :=
  bif movB nh a.role then
    (bif a.kind == 1 then (a.give == 0 && (a.to == -1 || movB nh a.to)) && (bif a.unit == -1 then noneB a.lot else (decide (0 ≤ a.unit) && (decide (a.unit < nu) && posB a.lot)))
    else (a.kind == 2 || a.kind == 3) && (movB nh a.give && (decide (0 ≤ a.to) && (decide (a.to < parties) && (a.unit == -1 && noneB a.lot)))))
  else a.kind == 1 && (a.role == -1 && (a.give == 0 && ((a.to == -1 || movB nh a.to) && (a.unit == -1 && noneB a.lot))))
theorem s_validAct (c : ContractT) (a : ActT) : d_validAct c a = some (actB c.holders.length c.units.length c.parties a) := by
  simp only [d_validAct, s_movable, s_positive, d_none, Option.bind_some, cond_some, actB, noneB]
  cases movB c.holders.length a.role <;> cases (a.kind == 1) <;> cases (a.give == 0) <;> cases (a.to == -1) <;> cases (movB c.holders.length a.to) <;> cases (a.unit == -1) <;>
    simp only [cond_true, cond_false, Bool.not_true, Bool.not_false, Option.bind_some, Bool.true_or, Bool.false_or, Bool.true_and, Bool.false_and, cond_some, Bool.cond_false_right, Bool.cond_self, Bool.and_false] <;>
    first | rfl | (cases (a.role == -1) <;> rfl) | (cases (a.kind == 2) <;> rfl)

def heldB (parties : Int) (hs : List Int) : Bool := hs.all fun h => decide (0 ≤ h) && decide (h < parties)
theorem s_held (c : ContractT) (hp : c.parties < 4611686018427387904) (hl : c.holders.length < 4611686018427387904) : d_held c = some (heldB c.parties c.holders) := by
  unfold d_held
  have hin : ∀ (i : Nat) (hi : i < c.holders.length), (Option.bind (α := Unit ⊕ Unit) (Option.bind (forR (σ := Unit) (ρ := Unit) c.parties (fun i2 s2 => (Option.bind (idxI c.holders (i : Int)) fun e1 => (bif (e1 == (i2 : Int)) then some (.inr ()) else some (.inl ())))) ()) (Sum.elim (fun (s2 : Unit) => some (.inr ())) (fun (y1 : Unit) => some (.inl ())))) (Sum.elim (fun (v1 : Unit) => some (.inl ())) (fun (y2 : Unit) => some (.inr ())))) =
      some (bif decide (0 ≤ c.holders[i]) && decide (c.holders[i] < c.parties) then (.inl () : Unit ⊕ Unit) else .inr ()) := fun i hi => by
    obtain ⟨o, h1, h2⟩ := forR_rule (n := c.parties) (s0 := ()) (f := (fun i2 s2 => (Option.bind (idxI c.holders (i : Int)) fun e1 => (bif (e1 == (i2 : Int)) then some (.inr ()) else some (.inl ()))))) (fun k _ => ∀ j : Nat, j < k → c.holders[i] ≠ (j : Int)) (fun _ : Unit => 0 ≤ c.holders[i] ∧ c.holders[i] < c.parties) hp (fun j hj => by omega) (fun k s hk hI => by
      simp only [idxI_nat', List.getElem?_eq_getElem hi, Option.bind_some]
      by_cases he : c.holders[i] = (k : Int)
      · exact ⟨.inr (), by simp [he], by show 0 ≤ c.holders[i] ∧ c.holders[i] < c.parties; omega⟩
      · refine ⟨.inl (), by rw [beq_eq_false_iff_ne.2 he]; rfl, fun j hj => ?_⟩
        rcases Nat.lt_or_ge j k with h | h
        · exact hI j h
        · obtain rfl : j = k := by omega
          exact he)
    rw [h1]
    cases o with
    | inl s =>
      have : ¬ (0 ≤ c.holders[i] ∧ c.holders[i] < c.parties) := fun h => h2 c.holders[i].toNat (by omega) (by omega)
      have hb : (decide (0 ≤ c.holders[i]) && decide (c.holders[i] < c.parties)) = false := by
        rw [Bool.eq_false_iff]; simp only [ne_eq, Bool.and_eq_true, decide_eq_true_eq]; exact this
      rw [hb]; rfl
    | inr r =>
      have hb : (decide (0 ≤ c.holders[i]) && decide (c.holders[i] < c.parties)) = true := by
        simp only [Bool.and_eq_true, decide_eq_true_eq]; exact h2
      rw [hb]; rfl
  rw [forR_first (fun i => match c.holders[i]? with | some h => decide (0 ≤ h) && decide (h < c.parties) | none => true) (fun _ => ()) hl (fun i hi => by
    rw [hin i hi]; simp only [List.getElem?_eq_getElem hi])]
  cases hf : (List.range c.holders.length).find? (fun j => !(match c.holders[j]? with | some h => decide (0 ≤ h) && decide (h < c.parties) | none => true)) with
  | none =>
    simp only [Option.bind_some, Sum.elim_inl]
    have : heldB c.parties c.holders = true := List.all_eq_true.2 fun h hh => by
      obtain ⟨i, hi, rfl⟩ := List.getElem_of_mem hh
      have := find_none hf i hi
      simpa only [List.getElem?_eq_getElem hi] using this
    rw [this]
  | some k =>
    simp only [Option.bind_some, Sum.elim_inr]
    obtain ⟨h1, h2, _⟩ := find_some hf
    have : heldB c.parties c.holders = false := by
      rw [Bool.eq_false_iff]
      intro h
      have := List.all_eq_true.1 h c.holders[k] (List.getElem_mem h1)
      simp only [List.getElem?_eq_getElem h1] at h2
      rw [h2] at this; cases this
    rw [this]

noncomputable def offB (days : Int) (off : List Int) : Bool := ((Option.bind (forR (σ := Int) (ρ := Unit) (off.length : Int) (fun i2 s2 => (Option.bind (idxI off (i2 : Int)) fun e2 => (Option.bind (bif decide (e2 ≤ s2) then some true else some (decide (days ≤ e2))) fun v2 => (bif v2 then some (.inr ()) else some (.inl e2))))) (-1)) (Sum.elim (fun (s2 : Int) => some true) (fun (y2 : Unit) => some false)))).getD false
theorem s_off (days : Int) (off : List Int) (hl : off.length < 4611686018427387904) : (Option.bind (forR (σ := Int) (ρ := Unit) (off.length : Int) (fun i2 s2 => (Option.bind (idxI off (i2 : Int)) fun e2 => (Option.bind (bif decide (e2 ≤ s2) then some true else some (decide (days ≤ e2))) fun v2 => (bif v2 then some (.inr ()) else some (.inl e2))))) (-1)) (Sum.elim (fun (s2 : Int) => some true) (fun (y2 : Unit) => some false))) = some (offB days off) := by
  obtain ⟨o, h1, h2⟩ := forR_ruleL (n := off.length) (s0 := (-1 : Int)) (f := (fun i2 s2 => (Option.bind (idxI off (i2 : Int)) fun e2 => (Option.bind (bif decide (e2 ≤ s2) then some true else some (decide (days ≤ e2))) fun v2 => (bif v2 then some (.inr ()) else some (.inl e2)))))) (fun _ _ => True) (fun _ : Unit => True) hl trivial (fun i s hi _ => by
    simp only [idxI_nat', List.getElem?_eq_getElem hi, Option.bind_some, cond_some]
    cases (bif decide (off[i] ≤ s) then true else decide (days ≤ off[i])) with
    | true => exact ⟨.inr (), rfl, trivial⟩
    | false => exact ⟨.inl _, rfl, trivial⟩)
  unfold offB
  rw [h1]
  cases o <;> rfl

noncomputable def framedB (c : ContractT) : Bool :=
  !(decide (c.parties < 1)) && (!(decide (c.days < 1)) && (!((c.holders.length : Int) == 0) && (heldB c.parties c.holders && (quB c.units && (c.acts.all (actB c.holders.length c.units.length c.parties) && offB c.days c.off)))))

theorem forR_all {α : Type} {l : List α} {f : Nat → Unit → Option (Unit ⊕ Unit)} (p : α → Bool) (hl : l.length < 4611686018427387904) (h : ∀ (i : Nat) (hi : i < l.length), f i () = some (bif p l[i] then .inl () else .inr ())) :
    forR (l.length : Int) f () = some (bif l.all p then .inl () else .inr ()) := by
  rw [forR_first (fun i => match l[i]? with | some x => p x | none => true) (fun _ => ()) hl (fun i hi => by rw [h i hi]; simp only [List.getElem?_eq_getElem hi])]
  cases hf : (List.range l.length).find? (fun j => !(match l[j]? with | some x => p x | none => true)) with
  | none =>
    have : l.all p = true := List.all_eq_true.2 fun x hx => by
      obtain ⟨i, hi, rfl⟩ := List.getElem_of_mem hx
      have := find_none hf i hi
      simpa only [List.getElem?_eq_getElem hi] using this
    rw [this]; rfl
  | some k =>
    obtain ⟨h1, h2, _⟩ := find_some hf
    have : l.all p = false := by
      rw [Bool.eq_false_iff]
      intro h
      have := List.all_eq_true.1 h l[k] (List.getElem_mem h1)
      simp only [List.getElem?_eq_getElem h1] at h2
      rw [h2] at this; cases this
    rw [this]; rfl

theorem s_framed (c : ContractT) (hp : c.parties < 4611686018427387904) (hh : c.holders.length < 4611686018427387904) (hu : c.units.length < 1000) (ha : c.acts.length < 1000) (ho : c.off.length < 4611686018427387904) : d_framed c = some (framedB c) := by
  unfold d_framed
  obtain ⟨k, hk⟩ := s_quantityValid c.units hu
  have hacts := forR_all (l := c.acts) (f := (fun i1 s1 => (Option.bind (idxI c.acts (i1 : Int)) fun e1 => (Option.bind (d_validAct c e1) fun r3 => (bif r3 then some (.inl ()) else some (.inr ())))))) (actB c.holders.length c.units.length c.parties) (by omega) (fun i hi => by
    simp only [idxI_nat', List.getElem?_eq_getElem hi, Option.bind_some, s_validAct, cond_some])
  rw [s_held c hp hh, hk]
  simp only [Option.bind_some]
  rw [hacts]
  simp only [Option.bind_some]
  rw [s_off c.days c.off ho]
  simp only [Option.bind_some, cond_some, framedB]
  cases decide (c.parties < 1) <;> cases decide (c.days < 1) <;> cases ((c.holders.length : Int) == 0) <;> cases heldB c.parties c.holders <;> cases quB c.units <;> cases c.acts.all (actB c.holders.length c.units.length c.parties) <;>
    simp only [cond_true, cond_false, Bool.not_true, Bool.not_false, Option.bind_some, Bool.true_and, Bool.false_and, Sum.elim_inl, Sum.elim_inr]

def natB (acts : List ActT) (a : Int) : Bool := match idxI acts a with
  | some e => e.kind == 1 && e.role == -1
  | none => false
theorem s_natural (c : ContractT) (a : Int) : d_natural c a = some (natB c.acts a) := by
  unfold d_natural natB
  by_cases h : 0 ≤ a ∧ a < c.acts.length
  · obtain ⟨h1, h2⟩ := idxI_lt h.1 h.2
    simp only [h2, h.1, h.2, decide_true, cond_true, Option.bind_some, cond_some, Bool.cond_false_right]
  · rw [idxI_neg h]
    by_cases h1 : 0 ≤ a
    · have : ¬ a < c.acts.length := fun h2 => h ⟨h1, h2⟩
      simp only [h1, this, decide_true, decide_false, cond_true, cond_false, Option.bind_some]
    · simp only [h1, decide_false, cond_false, Option.bind_some]

def kindB (nh : Nat) (acts : List ActT) (k : ClauseT) : Bool :=
  bif k.kind == 4 then k.role == -1 && (k.need == 1 && (k.grace == 0 && !k.final))
  else (movB nh k.role && !natB acts k.act) && (bif k.kind == 1 then decide (1 ≤ k.need) && (decide (k.need ≤ 9) && (decide (0 ≤ k.grace) && decide (k.grace ≤ 400)))
    else bif k.kind == 2 then k.need == 1 && k.grace == 0 else k.kind == 3 && (k.need == 1 && (k.grace == 0 && !k.final)))
theorem s_validKind (c : ContractT) (k : ClauseT) : d_validKind c k = some (kindB c.holders.length c.acts k) := by
  simp only [d_validKind, s_movable, s_natural, Option.bind_some, cond_some, kindB]
  cases (k.kind == 4) <;> cases movB c.holders.length k.role <;> cases natB c.acts k.act <;> cases (k.kind == 1) <;> cases (k.kind == 2) <;> cases (k.kind == 3) <;>
    simp only [cond_true, cond_false, Bool.not_true, Bool.not_false, Option.bind_some, Bool.true_and, Bool.false_and, Bool.and_false, Bool.cond_false_right, cond_some]

def condB (n : Nat) (i : Int) (s : CondT) : Bool := !(decide (s.clause < 0)) && (!(decide ((n : Int) ≤ s.clause)) && (!(s.clause == i) && (!(decide (s.is < 1)) && !(decide (4 < s.is)))))
noncomputable def moneyB (nh : Nat) (units : List UnitT) (k : ClauseT) : Bool :=
  (k.kind == 1 || k.kind == 2) && ((match idxI units k.unit with | some u => u.kind == 2 | none => false) && (posB k.value && movB nh k.to))
def pauseB (acts : List ActT) (k : ClauseT) : Bool := (k.pause == -1 && k.resume == -1) || (!(k.pause == k.resume) && (natB acts k.pause && natB acts k.resume))
noncomputable def clauseB (nh : Nat) (units : List UnitT) (acts : List ActT) (n : Nat) (i : Int) (k : ClauseT) : Bool :=
  (!(decide (k.act < 0)) && (!(decide ((acts.length : Int) ≤ k.act)) && (!(decide (k.after < 1)) && !(decide (400 < k.after))))) &&
  ((kindB nh acts k && !(decide (8 < (k.start.length : Int)))) &&
  (k.start.all (condB n i) &&
  (pauseB acts k &&
  (bif k.unit == -1 then noneB k.value && k.to == -1 else moneyB nh units k))))
theorem s_validClause (c : ContractT) (i : Nat) (k : ClauseT) (hk : c.clauses[i]? = some k) (hs : k.start.length < 4611686018427387904) : d_validClause c i = some (clauseB c.holders.length c.units c.acts c.clauses.length i k) := by
  unfold d_validClause
  have hst := forR_all (l := k.start) (f := (fun i1 s1 => (Option.bind (idxI k.start (i1 : Int)) fun e2 => (Option.bind (bif decide (e2.clause < 0) then some true else (bif decide ((c.clauses.length : Int) ≤ e2.clause) then some true else (bif (e2.clause == (i : Int)) then some true else (bif decide (e2.is < 1) then some true else some (decide (4 < e2.is)))))) fun v3 => (bif v3 then some (.inr ()) else some (.inl ())))))) (condB c.clauses.length i) hs (fun j hj => by
    simp only [idxI_nat', List.getElem?_eq_getElem hj, Option.bind_some, cond_some, condB]
    cases decide (k.start[j].clause < 0) <;> cases decide ((c.clauses.length : Int) ≤ k.start[j].clause) <;> cases (k.start[j].clause == (i : Int)) <;> cases decide (k.start[j].is < 1) <;> cases decide (4 < k.start[j].is) <;> rfl)
  have hu : (bif decide (0 ≤ k.unit) then (bif decide (k.unit < (c.units.length : Int)) then (Option.bind (idxI c.units k.unit) fun e3 => (bif (e3.kind == 2) then (Option.bind (d_positive k.value) fun r5 => (bif r5 then (Option.bind (d_movable c k.to) fun r6 => some r6) else some false)) else some false)) else some false) else some false) =
      some ((match idxI c.units k.unit with | some u => u.kind == 2 | none => false) && (posB k.value && movB c.holders.length k.to)) := by
    by_cases h : 0 ≤ k.unit ∧ k.unit < c.units.length
    · obtain ⟨h1, h2⟩ := idxI_lt h.1 h.2
      simp only [h2, h.1, h.2, decide_true, cond_true, Option.bind_some, cond_some, Bool.cond_false_right, s_positive, s_movable]
    · rw [idxI_neg h]
      by_cases h1 : 0 ≤ k.unit
      · have : ¬ k.unit < c.units.length := fun h2 => h ⟨h1, h2⟩
        simp only [h1, this, decide_true, decide_false, cond_true, cond_false, Bool.false_and]
      · simp only [h1, decide_false, cond_false, Bool.false_and]
  have hp : (Option.bind (bif (k.pause == (-1)) then some (!(k.resume == (-1))) else some true) fun v4 => (bif v4 then (Option.bind (bif (k.pause == k.resume) then some true else (Option.bind (d_natural c k.pause) fun r2 => (bif r2 then (Option.bind (d_natural c k.resume) fun r3 => some (!r3)) else some true))) fun v5 => (bif v5 then some (.inr ()) else some (.inl ()))) else some (.inl ()))) =
      some (bif pauseB c.acts k then (.inl () : Unit ⊕ Unit) else .inr ()) := by
    simp only [s_natural, pauseB, cond_some, Option.bind_some]
    cases (k.pause == -1) <;> cases (k.resume == -1) <;> cases (k.pause == k.resume) <;> cases natB c.acts k.pause <;> cases natB c.acts k.resume <;> rfl
  rw [idxI_at hk]
  simp only [Option.bind_some]
  rw [hst]
  simp only [Option.bind_some]
  rw [hp, hu]
  simp only [Option.bind_some, s_validKind, d_none, cond_some, clauseB, moneyB, noneB]
  cases decide (k.act < 0) <;> simp only [cond_true, cond_false, Bool.not_true, Bool.not_false, Bool.true_and, Bool.false_and, Option.bind_some]
  cases decide ((c.acts.length : Int) ≤ k.act) <;> simp only [cond_true, cond_false, Bool.not_true, Bool.not_false, Bool.true_and, Bool.false_and, Option.bind_some]
  cases decide (k.after < 1) <;> simp only [cond_true, cond_false, Bool.not_true, Bool.not_false, Bool.true_and, Bool.false_and, Option.bind_some]
  cases decide (400 < k.after) <;> simp only [cond_true, cond_false, Bool.not_true, Bool.not_false, Bool.true_and, Bool.false_and, Option.bind_some]
  cases kindB c.holders.length c.acts k <;> simp only [cond_true, cond_false, Bool.not_true, Bool.not_false, Bool.true_and, Bool.false_and, Option.bind_some]
  cases decide (8 < (k.start.length : Int)) <;> simp only [cond_true, cond_false, Bool.not_true, Bool.not_false, Bool.true_and, Bool.false_and, Option.bind_some]
  cases k.start.all (condB c.clauses.length i) <;> simp only [cond_true, cond_false, Bool.not_true, Bool.not_false, Bool.true_and, Bool.false_and, Option.bind_some, Sum.elim_inl, Sum.elim_inr]
  cases pauseB c.acts k <;> simp only [cond_true, cond_false, Bool.true_and, Bool.false_and, Sum.elim_inl, Sum.elim_inr]
  cases (k.kind == 1) <;> cases (k.kind == 2) <;> simp only [cond_true, cond_false, Bool.cond_false_right, Bool.true_or, Bool.or_true, Bool.or_self, Bool.true_and, Bool.false_and]

def limB (c : ContractT) : Bool := decide (12 < c.parties) || (decide (2000 < c.days) || (decide (12 < (c.holders.length : Int)) || (decide (20 < (c.units.length : Int)) || (decide (60 < (c.acts.length : Int)) || decide (400 < (c.clauses.length : Int))))))
noncomputable def clB (c : ContractT) (i : Nat) : Bool := match c.clauses[i]? with
  | some k => clauseB c.holders.length c.units c.acts c.clauses.length i k
  | none => true
noncomputable def validR (c : ContractT) : Int × Int :=
  bif limB c then (3, -1) else bif framedB c then (match (List.range c.clauses.length).find? (fun j => !clB c j) with | none => (0, -1) | some j => (1, (j : Int))) else (1, -1)

theorem s_Valid (c : ContractT) (ho : c.off.length < 4611686018427387904) (hs : ∀ k ∈ c.clauses, k.start.length < 4611686018427387904) : d_Valid c = some (validR c) := by
  unfold d_Valid validR
  simp only [cond_some, Bool.cond_true_left, Option.bind_some]
  show (bif limB c then _ else _) = _
  cases hlim : limB c with
  | true => rfl
  | false =>
    simp only [limB, Bool.or_eq_false_iff, decide_eq_false_iff_not] at hlim
    obtain ⟨h1, h2, h3, h4, h5, h6⟩ := hlim
    simp only [cond_false, s_framed c (by omega) (by omega) (by omega) (by omega) ho, Option.bind_some]
    cases framedB c with
    | false => rfl
    | true =>
      simp only [cond_true]
      rw [forR_first (fun i => clB c i) (fun i => (i : Int)) (by omega) (fun i hi => by
        rw [s_validClause c i c.clauses[i] (List.getElem?_eq_getElem hi) (hs _ (List.getElem_mem hi))]
        simp only [Option.bind_some, clB, List.getElem?_eq_getElem hi, cond_some])]
      cases (List.range c.clauses.length).find? (fun j => !clB c j) <;> rfl

end Go.Proofs.YtaglopifoibhiaaDoor
namespace Go.Proofs.YtaglopifoibhiaaDoor
open Go.RowKit
set_option linter.unusedVariables false
set_option linter.unusedSimpArgs false
set_option maxRecDepth 100000

theorem LOk.lt {α : Type} {n : Nat} {p : α → Prop} {l : List α} (h : LOk n p l) (hn : 0 < n) : l.length < 4611686018427387904 := by
  have h1 := h.1
  have h2 : reachBytes ≤ 140737488355328 := by decide +kernel
  have := Nat.le_mul_of_pos_right l.length hn
  omega

theorem ContractT.Ok.valid {c : ContractT} (hc : c.Ok) : d_Valid c = some (validR c) :=
  s_Valid c (hc.off.lt (by omega)) (fun k hk => (hc.clauses.2 k hk).start.lt (by omega))
inductive ValidIs (c : ContractT) : Int × Int → Prop where
  | lim (h : limB c = true) : ValidIs c (3, -1)
  | frame (h : limB c = false) (hf : framedB c = false) : ValidIs c (1, -1)
  | bad (h : limB c = false) (hf : framedB c = true) (i : Nat) (hi : i < c.clauses.length) (hb : clB c i = false) (hl : ∀ j, j < i → clB c j = true) : ValidIs c (1, (i : Int))
  | ok (h : limB c = false) (hf : framedB c = true) (ha : ∀ j, j < c.clauses.length → clB c j = true) : ValidIs c (0, -1)

theorem valid_is (c : ContractT) : ValidIs c (validR c) := by
  unfold validR
  cases h : limB c with
  | true => exact .lim h
  | false =>
    simp only [cond_false]
    cases hf : framedB c with
    | false => exact .frame h hf
    | true =>
      simp only [cond_true]
      cases hq : (List.range c.clauses.length).find? (fun j => !clB c j) with
      | none => exact .ok h hf (find_none hq)
      | some j => obtain ⟨h1, h2, h3⟩ := find_some hq; exact .bad h hf j h1 h2 h3

theorem validR_ok {c : ContractT} (h : (validR c).1 = 0) : limB c = false ∧ framedB c = true ∧ (∀ j, j < c.clauses.length → clB c j = true) ∧ validR c = (0, -1) := by
  have hv := valid_is c
  generalize hr : validR c = r at h hv ⊢
  cases hv with
  | lim _ => simp at h
  | frame _ _ => simp at h
  | bad _ _ i _ _ _ => simp at h
  | ok a b d => exact ⟨a, b, d, rfl⟩
end Go.Proofs.YtaglopifoibhiaaDoor
namespace Go.Proofs.YtaglopifoibhiaaDoor
open Go.RowKit
set_option linter.unusedVariables false
set_option linter.unusedSimpArgs false
set_option maxRecDepth 100000

theorem s_less (x y : Int) : d_less x y = some (decide (x < y)) := by
  simp [d_less, d_isNaN2]

theorem s_half {a b : Int} (h0 : 0 ≤ a) (h1 : a ≤ b) (h2 : b < 4611686018427387904) : shrI .u64 .u64 (IntKind.u64.wrap (IntKind.i64.wrap (a + b))) 1 = some ((a + b) / 2) := by
  rw [wrap_i64 (by omega) (by omega), wrap_u64 (by omega) (by omega)]
  unfold shrI
  rw [if_neg (by omega)]
  have : (2 : Int) ^ (min (1 : Int).toNat IntKind.u64.bits) = 2 := by decide
  rw [this, Int.fdiv_eq_ediv_of_nonneg _ (by omega)]

def posI (l : List Int) (v : Int) : Option Int := if v ∈ l then some (l.idxOf v : Int) else none
theorem idxOf_eq {l : List Int} (hn : l.Nodup) {i : Nat} (hi : i < l.length) : l.idxOf l[i] = i := by
  have h1 : l.idxOf l[i] < l.length := List.idxOf_lt_length_iff.2 (List.getElem_mem hi)
  have h2 := List.getElem_idxOf h1
  exact (List.getElem?_inj h1 hn).1 (by rw [List.getElem?_eq_getElem h1, List.getElem?_eq_getElem hi, h2])
theorem posI_at {l : List Int} (hn : l.Nodup) {i : Nat} {v : Int} (h : l[i]? = some v) : posI l v = some (i : Int) := by
  obtain ⟨hi, rfl⟩ := List.getElem?_eq_some_iff.1 h
  unfold posI
  rw [if_pos (List.getElem_mem hi), idxOf_eq hn hi]

theorem s_BinarySearch (l : List Int) (v : Int) (hs : l.Pairwise (· < ·)) (hl : l.length < 4611686018427387904) : ∃ r : Int, d_BinarySearch l v = some (r, (posI l v).isSome) ∧ ∀ p, posI l v = some p → r = p := by
  have hp := List.pairwise_iff_getElem.1 hs
  unfold d_BinarySearch
  have hit : Ret (iter (σ := Int × Int) (ρ := Int) (fun s1 => (bif decide (s1.1 < s1.2) then (Option.bind (shrI .u64 .u64 (IntKind.u64.wrap (IntKind.i64.wrap (s1.1 + s1.2))) 1) fun e1 => (Option.bind (idxI l (IntKind.i64.wrap e1)) fun e2 => (Option.bind (d_less e2 v) fun r1 => (bif r1 then some (.inl ((IntKind.i64.wrap ((IntKind.i64.wrap e1) + 1)), s1.2)) else some (.inl (s1.1, (IntKind.i64.wrap e1))))))) else some (.inr s1.1))) (0, (l.length : Int)))
      (fun r => 0 ≤ r ∧ r ≤ l.length ∧ (∀ (j : Nat) (hj : j < l.length), (j : Int) < r → l[j] < v) ∧ (∀ (j : Nat) (hj : j < l.length), r ≤ (j : Int) → v ≤ l[j])) := by
    refine Ret.iter (fun s => 0 ≤ s.1 ∧ s.1 ≤ s.2 ∧ s.2 ≤ l.length ∧ (∀ (j : Nat) (hj : j < l.length), (j : Int) < s.1 → l[j] < v) ∧ (∀ (j : Nat) (hj : j < l.length), s.2 ≤ (j : Int) → v ≤ l[j])) (fun s => (s.2 - s.1).toNat) ⟨by simp, by simp, by simp, fun j hj h => by simp only at h; omega, fun j hj h => by simp only at h; omega⟩ ?_
    rintro ⟨lo, hi⟩ ⟨h1, h2, h3, h4, h5⟩
    simp only at h1 h2 h3 h4 h5 ⊢
    refine Ret.ite (fun hb => ?_) (fun hb => ?_)
    · have hlt := of_decide_eq_true hb
      rw [s_half h1 h2 (by omega)]
      simp only [Option.bind_some]
      have hm1 : lo ≤ (lo + hi) / 2 := by omega
      have hm2 : (lo + hi) / 2 < hi := by omega
      generalize (lo + hi) / 2 = m at hm1 hm2 ⊢
      rw [wrap_i64 (by omega) (by omega)]
      obtain ⟨hi', e⟩ := idxI_lt (l := l) (n := m) (by omega) (by omega)
      rw [e, wrap_i64 (by omega) (by omega)]
      simp only [Option.bind_some, s_less]
      refine Ret.ite (fun hb2 => ?_) (fun hb2 => ?_)
      · have hv := of_decide_eq_true hb2
        refine Ret.some ⟨⟨by show 0 ≤ m + 1; omega, by show m + 1 ≤ hi; omega, h3, fun j hj hjm => ?_, h5⟩, by show (hi - (m + 1)).toNat < (hi - lo).toNat; omega⟩
        have hjm : (j : Int) < m + 1 := hjm
        rcases Nat.lt_or_ge j m.toNat with h | h
        · have := hp j m.toNat hj hi' h; omega
        · obtain rfl : j = m.toNat := by omega
          exact hv
      · have hv : ¬ l[m.toNat] < v := of_decide_eq_false hb2
        refine Ret.some ⟨⟨h1, by show lo ≤ m; omega, by show m ≤ (l.length : Int); omega, h4, fun j hj hjm => ?_⟩, by show (m - lo).toNat < (hi - lo).toNat; omega⟩
        have hjm : m ≤ (j : Int) := hjm
        rcases Nat.lt_or_ge m.toNat j with h | h
        · have := hp m.toNat j hi' hj h; omega
        · obtain rfl : j = m.toNat := by omega
          omega
    · have hlt : ¬ lo < hi := of_decide_eq_false hb
      have : lo = hi := by omega
      subst this
      exact Ret.some ⟨h1, h3, h4, h5⟩
  obtain ⟨r, hr, hr0, hr1, hr2, hr3⟩ := hit
  rw [hr]
  simp only [Option.bind_some]
  by_cases hlt : r < (l.length : Int)
  · obtain ⟨hi', e⟩ := idxI_lt (l := l) (n := r) hr0 hlt
    simp only [hlt, decide_true, cond_true, e, Option.bind_some]
    by_cases hv : l[r.toNat] = v
    · have hpos : posI l v = some (r.toNat : Int) := posI_at (inc_nodup hs) (by rw [List.getElem?_eq_getElem hi', hv])
      refine ⟨r, by simp [hv, hpos], fun p hp => ?_⟩
      rw [hpos] at hp; cases hp; omega
    · have hn : posI l v = none := by
        unfold posI
        rw [if_neg]
        intro hm
        obtain ⟨j, hj, e2⟩ := List.getElem_of_mem hm
        rcases Nat.lt_trichotomy j r.toNat with h | h | h
        · have := hr2 j hj (by omega); omega
        · subst h; exact hv e2
        · have h6 := hp r.toNat j hi' hj h
          have h7 := hr3 r.toNat hi' (by omega)
          omega
      refine ⟨r, ?_, fun p hp => by rw [hn] at hp; cases hp⟩
      rw [hn]
      have : (l[r.toNat] == v) = false := beq_eq_false_iff_ne.2 hv
      simp [this, d_isNaN]
  · have hn : posI l v = none := by
      unfold posI
      rw [if_neg]
      intro hm
      obtain ⟨j, hj, e2⟩ := List.getElem_of_mem hm
      have := hr2 j hj (by omega); omega
    refine ⟨r, ?_, fun p hp => by rw [hn] at hp; cases hp⟩
    rw [hn]
    simp [hlt]

theorem off_len {days : Int} {off : List Int} (hl : off.length < 4611686018427387904) (h : offB days off = true) : (off.length : Int) ≤ days ∨ off.length = 0 := by
  have e : offB days off = incB days (-1) off := by
    unfold offB
    rw [s_inc days off hl (-1)]
    cases incB days (-1) off <;> rfl
  rw [e] at h
  rcases incB_len h with h1 | h1 <;> omega

structure Small (c : ContractT) : Prop where
  parties : 1 ≤ c.parties ∧ c.parties ≤ 12
  days : 1 ≤ c.days ∧ c.days ≤ 2000
  holders : c.holders.length ≤ 12
  units : c.units.length ≤ 20
  acts : c.acts.length ≤ 60
  clauses : c.clauses.length ≤ 400
  off : c.off.length ≤ 2000
  start : ∀ k ∈ c.clauses, k.start.length ≤ 8
  cond : ∀ (i : Nat) (k : ClauseT), c.clauses[i]? = some k → ∀ s ∈ k.start, 0 ≤ s.clause ∧ s.clause < c.clauses.length ∧ s.clause ≠ (i : Int)

theorem small_of {c : ContractT} (ho : c.off.length < 4611686018427387904) (h : (validR c).1 = 0) : Small c := by
  obtain ⟨h1, h2, h3, _⟩ := validR_ok h
  simp only [limB, Bool.or_eq_false_iff, decide_eq_false_iff_not] at h1
  obtain ⟨a1, a2, a3, a4, a5, a6⟩ := h1
  simp only [framedB, Bool.and_eq_true, Bool.not_eq_true', decide_eq_false_iff_not] at h2
  obtain ⟨b1, b2, b3, b4, b5, b6, b7⟩ := h2
  have hcl : ∀ (i : Nat) (k : ClauseT), c.clauses[i]? = some k → clauseB c.holders.length c.units c.acts c.clauses.length i k = true := fun i k hk => by
    have := h3 i (List.getElem?_eq_some_iff.1 hk).1
    simp only [clB, hk] at this
    exact this
  refine ⟨⟨by omega, by omega⟩, ⟨by omega, by omega⟩, by omega, by omega, by omega, by omega, ?_, fun k hk => ?_, fun i k hk s hs => ?_⟩
  · rcases off_len ho b7 with h | h <;> omega
  · obtain ⟨i, hi, e⟩ := List.getElem_of_mem hk
    have := hcl i k (by rw [← e]; exact List.getElem?_eq_getElem hi)
    simp only [clauseB, Bool.and_eq_true, Bool.not_eq_true', decide_eq_false_iff_not] at this
    omega
  · have := hcl i k hk
    simp only [clauseB, Bool.and_eq_true] at this
    have := List.all_eq_true.1 this.2.2.1 s hs
    simp only [condB, Bool.and_eq_true, Bool.not_eq_true', decide_eq_false_iff_not, beq_eq_false_iff_ne] at this
    exact ⟨by omega, by omega, this.2.2.1⟩

theorem cloneI_of {α : Type} {by_ : Nat} {l : List α} (h : l.length * by_ ≤ 140737488355328) : cloneI by_ l = some l := by unfold cloneI; rw [if_pos h]

end Go.Proofs.YtaglopifoibhiaaDoor
namespace Go.Proofs.YtaglopifoibhiaaDoor
open Go.RowKit
set_option linter.unusedVariables false
set_option linter.unusedSimpArgs false
set_option maxRecDepth 100000

theorem forR_allN {f : Nat → Unit → Option (Unit ⊕ Unit)} {n : Nat} (p : Nat → Bool) (hn : n < 4611686018427387904) (h : ∀ j, j < n → f j () = some (bif p j then .inl () else .inr ())) :
    forR (n : Int) f () = some (bif (List.range n).all p then .inl () else .inr ()) := by
  rw [forR_first p (fun _ => ()) hn h]
  cases hf : (List.range n).find? (fun j => !p j) with
  | none =>
    have : (List.range n).all p = true := List.all_eq_true.2 fun j hj => find_none hf j (List.mem_range.1 hj)
    rw [this]; rfl
  | some k =>
    obtain ⟨h1, h2, _⟩ := find_some hf
    have : (List.range n).all p = false := by
      rw [Bool.eq_false_iff]
      intro h
      have := List.all_eq_true.1 h k (List.mem_range.2 h1)
      rw [h2] at this; cases this
    rw [this]; rfl

theorem forR_mapIdx {α ρ : Type} {f : Nat → List α → Option (List α ⊕ ρ)} (s0 : List α) (F : Nat → α → α) (hl : s0.length < 4611686018427387904)
    (h : ∀ (i : Nat) (m : α) (s : List α), s0[i]? = some m → s.length = s0.length → s[i]? = some m → f i s = some (.inl (s.set i (F i m)))) :
    forR (s0.length : Int) f s0 = some (.inl (s0.mapIdx F)) := by
  obtain ⟨o, h1, h2⟩ := forR_ruleL (n := s0.length) (s0 := s0) (f := f) (fun i s => s.length = s0.length ∧ ∀ j, s[j]? = if j < i then (s0[j]?).map (F j) else s0[j]?) (fun _ => False) hl ⟨rfl, fun j => by simp⟩ (fun i s hi ⟨a, b⟩ => by
    have hs : s[i]? = some s0[i] := by rw [b i, if_neg (by omega), List.getElem?_eq_getElem hi]
    refine ⟨_, h i s0[i] s (List.getElem?_eq_getElem hi) a hs, by simpa using a, fun j => ?_⟩
    rw [List.getElem?_set]
    by_cases hij : i = j
    · subst hij
      rw [if_pos rfl, if_pos (by omega), if_pos (by omega), List.getElem?_eq_getElem hi]; rfl
    · rw [if_neg hij, b j]
      by_cases h3 : j < i
      · rw [if_pos h3, if_pos (by omega)]
      · rw [if_neg h3, if_neg (by omega)])
  rw [h1]
  cases o with
  | inr r => exact h2.elim
  | inl s =>
    obtain ⟨a, b⟩ := h2
    congr 2
    refine List.ext_getElem? fun j => ?_
    rw [b j, List.getElem?_mapIdx]
    by_cases hj : j < s0.length
    · rw [if_pos hj]
    · rw [if_neg hj, List.getElem?_eq_none (by omega)]; rfl

/-! ### Marks -/
def condM (marks : List MarkT) (s : CondT) : Bool := match idxI marks s.clause with
  | some m => bif s.is == 1 then !(m.status == 0) else bif s.is == 2 then m.status == 3 else bif s.is == 3 then m.status == 4 else bif s.is == 4 then m.status == 5 else false
  | none => false
def readyB (ks : List ClauseT) (marks : List MarkT) (i : Nat) : Bool := match ks[i]?, marks[i]? with
  | some k, some m => (m.status == 0 && !k.waived) && k.start.all (condM marks)
  | _, _ => false
def runB (parties : Int) (k : ClauseT) (m : MarkT) : Bool :=
  !(k.waived || (decide (m.left < 1) || (m.paused && k.pause == -1))) && (((m.got == 0) || (k.kind == 1 && !(decide (m.got < 0) || decide (k.need ≤ m.got)))) &&
    (bif k.kind == 4 then m.bearer == -1 else decide (0 ≤ m.bearer) && decide (m.bearer < parties)))
def idleB (m : MarkT) : Bool := (m.status == 0) && ((m.left == 0) && ((m.got == 0) && ((m.bearer == (-1)) && ((m.paused == false) && true))))
def endB (parties : Int) (m : MarkT) : Bool := (m.left == 0) && (decide (0 ≤ m.got) && (decide (m.got ≤ 9) && (decide ((-1) ≤ m.bearer) && (decide (m.bearer < parties) && !m.paused))))
def mrkB (parties : Int) (k : ClauseT) (m : MarkT) : Bool :=
  bif m.status == 0 then !k.waived && idleB m else bif m.status == 1 then decide (m.left ≤ k.after) && runB parties k m
  else bif m.status == 2 then k.kind == 1 && (decide (m.left ≤ k.grace) && runB parties k m) else (m.status == 3 || (m.status == 4 || m.status == 5)) && endB parties m

theorem s_validRun (c : ContractT) (k : ClauseT) (m : MarkT) : d_validRun c k m = some (runB c.parties k m) := by
  simp only [d_validRun, runB, cond_some, Option.bind_some]
  cases k.waived <;> cases decide (m.left < 1) <;> cases m.paused <;> cases (k.pause == -1) <;> cases (m.got == 0) <;> cases (k.kind == 1) <;> cases decide (m.got < 0) <;> cases decide (k.need ≤ m.got) <;> cases (k.kind == 4) <;> cases decide (0 ≤ m.bearer) <;> rfl
theorem s_validMark (c : ContractT) (i : Nat) (k : ClauseT) (m : MarkT) (hk : c.clauses[i]? = some k) : d_validMark c i m = some (mrkB c.parties k m) := by
  unfold d_validMark
  rw [idxI_at hk]
  simp only [Option.bind_some, s_validRun, cond_some, mrkB, idleB, endB]
  cases (m.status == 0)
  · cases (m.status == 1)
    · cases (m.status == 2)
      · cases (m.status == 3) <;> cases (m.status == 4) <;> cases (m.status == 5) <;> cases (m.left == 0) <;> cases decide (0 ≤ m.got) <;> cases decide (m.got ≤ 9) <;> cases decide ((-1) ≤ m.bearer) <;> cases decide (m.bearer < c.parties) <;> rfl
      · cases (k.kind == 1) <;> cases decide (m.left ≤ k.grace) <;> rfl
    · cases decide (m.left ≤ k.after) <;> rfl
  · cases k.waived <;> rfl

theorem s_ready (c : ContractT) (s : StateT) (i : Nat) (k : ClauseT) (m : MarkT) (hk : c.clauses[i]? = some k) (hm : s.marks[i]? = some m) (hst : k.start.length < 4611686018427387904)
    (hc : ∀ x ∈ k.start, 0 ≤ x.clause ∧ x.clause < s.marks.length) : d_ready c s i = some (readyB c.clauses s.marks i) := by
  unfold d_ready readyB
  rw [idxI_at hm, idxI_at hk, hk, hm]
  simp only [Option.bind_some]
  rw [forR_all (l := k.start) (condM s.marks) hst (fun j hj => by
    obtain ⟨h0, h1⟩ := hc _ (List.getElem_mem hj)
    obtain ⟨h2, h3⟩ := idxI_lt h0 h1
    simp only [idxI_nat', List.getElem?_eq_getElem hj, Option.bind_some, h3, condM, cond_some])]
  simp only [Option.bind_some, cond_some]
  cases (m.status == 0) <;> cases k.waived <;> cases k.start.all (condM s.marks) <;> rfl

def usedB (acts : List ActT) (used : List Bool) (i : Nat) : Bool := match acts[i]?, used[i]? with
  | some a, some u => !(u && a.kind == 1)
  | _, _ => false
def markIB (c : ContractT) (marks : List MarkT) (i : Nat) : Bool := match c.clauses[i]?, marks[i]? with
  | some k, some m => mrkB c.parties k m && !readyB c.clauses marks i
  | _, _ => false
noncomputable def vsB (c : ContractT) (s : StateT) : Bool :=
  ((validR c).1 == 0) && ((!(decide (s.day < 0)) && (!(decide (c.days < s.day)) && ((s.holders.length : Int) == c.holders.length && ((s.used.length : Int) == c.acts.length && (s.marks.length : Int) == c.clauses.length)))) &&
    (heldB c.parties s.holders && ((List.range s.used.length).all (usedB c.acts s.used) && (List.range s.marks.length).all (markIB c s.marks))))

theorem s_ValidS (c : ContractT) (s : StateT) (hc : c.Ok) : d_ValidS c s = some (vsB c s) := by
  unfold d_ValidS vsB
  rw [hc.valid]
  simp only [Option.bind_some]
  cases hv : ((validR c).1 == 0) with
  | false => rfl
  | true =>
    have sm := small_of (hc.off.lt (by omega)) (beq_iff_eq.1 hv)
    simp only [cond_true, cond_some, Option.bind_some, Bool.true_and]
    cases h1 : decide (s.day < 0) <;> cases h2 : decide (c.days < s.day) <;> cases h3 : ((s.holders.length : Int) == c.holders.length) <;> cases h4 : ((s.used.length : Int) == c.acts.length) <;> cases h5 : ((s.marks.length : Int) == c.clauses.length) <;> try rfl
    simp only [cond_true, cond_false, Bool.not_true, Bool.not_false, Bool.true_and]
    have e3 := beq_iff_eq.1 h3
    have e4 := beq_iff_eq.1 h4
    have e5 := beq_iff_eq.1 h5
    have := sm.holders
    have := sm.acts
    have := sm.clauses
    rw [forR_all (l := s.holders) (fun h => decide (0 ≤ h) && decide (h < c.parties)) (by omega) (fun j hj => by
      simp only [idxI_nat', List.getElem?_eq_getElem hj, Option.bind_some, cond_some]
      generalize s.holders[j] = h
      by_cases a : h < 0
      · have b : ¬ 0 ≤ h := by omega
        simp [a, b]
      · have b : 0 ≤ h := by omega
        by_cases d : h < c.parties
        · have d' : ¬ c.parties ≤ h := by omega
          simp [a, b, d, d']
        · have d' : c.parties ≤ h := by omega
          simp [a, b, d, d'])]
    rw [forR_allN (n := s.used.length) (usedB c.acts s.used) (by omega) (fun j hj => by
      have hj' : j < c.acts.length := by omega
      simp only [idxI_nat', List.getElem?_eq_getElem hj, List.getElem?_eq_getElem hj', Option.bind_some, cond_some, usedB]
      cases s.used[j] <;> cases (c.acts[j].kind == 1) <;> rfl)]
    rw [forR_allN (n := s.marks.length) (markIB c s.marks) (by omega) (fun j hj => by
      have hj' : j < c.clauses.length := by omega
      have hk := List.getElem?_eq_getElem hj'
      have hm := List.getElem?_eq_getElem hj
      simp only [idxI_nat', hm, Option.bind_some]
      rw [s_validMark c j _ _ hk, s_ready c s j _ _ hk hm (by have := sm.start _ (List.getElem_mem hj'); omega) (fun x hx => by have := sm.cond j _ hk x hx; omega)]
      simp only [Option.bind_some, markIB, hk, hm]
      cases mrkB c.parties c.clauses[j] s.marks[j] <;> cases readyB c.clauses s.marks j <;> rfl)]
    simp only [heldB, Option.bind_some]
    cases s.holders.all (fun h => decide (0 ≤ h) && decide (h < c.parties)) <;> cases (List.range s.used.length).all (usedB c.acts s.used) <;> cases (List.range s.marks.length).all (markIB c s.marks) <;> rfl

structure VS (c : ContractT) (s : StateT) : Prop where
  cv : (validR c).1 = 0
  day : 0 ≤ s.day ∧ s.day ≤ c.days
  lh : s.holders.length = c.holders.length
  lu : s.used.length = c.acts.length
  lm : s.marks.length = c.clauses.length
  hold : ∀ h ∈ s.holders, 0 ≤ h ∧ h < c.parties
  used : ∀ (i : Nat) (a : ActT), c.acts[i]? = some a → s.used[i]? = some true → a.kind ≠ 1
  mrk : ∀ (i : Nat) (k : ClauseT) (m : MarkT), c.clauses[i]? = some k → s.marks[i]? = some m → mrkB c.parties k m = true
  rdy : ∀ i, i < c.clauses.length → readyB c.clauses s.marks i = false

theorem vs_of {c : ContractT} {s : StateT} (h : vsB c s = true) : VS c s := by
  simp only [vsB, Bool.and_eq_true, Bool.not_eq_true', decide_eq_false_iff_not, beq_iff_eq, List.all_eq_true, List.mem_range, heldB, decide_eq_true_eq] at h
  obtain ⟨h1, ⟨h2, h3, h4, h5, h6⟩, h7, h8, h9⟩ := h
  refine ⟨h1, ⟨by omega, by omega⟩, by omega, by omega, by omega, fun x hx => h7 x hx, fun i a ha hu hk => ?_, fun i k m hk hm => ?_, fun i hi => ?_⟩
  · have := h8 i (by have := (List.getElem?_eq_some_iff.1 hu).1; exact this)
    simp only [usedB, ha, hu, hk] at this
    cases this
  · have := h9 i (List.getElem?_eq_some_iff.1 hm).1
    simp only [markIB, hk, hm, Bool.and_eq_true] at this
    exact this.1
  · have hi' : i < s.marks.length := by omega
    have := h9 i hi'
    simp only [markIB, List.getElem?_eq_getElem hi, List.getElem?_eq_getElem hi', Bool.and_eq_true, Bool.not_eq_true'] at this
    exact this.2
theorem vsB_of {c : ContractT} {s : StateT} (h : VS c s) : vsB c s = true := by
  have hd := h.day
  have h4 := h.lh
  have h5 := h.lu
  have h6 := h.lm
  simp only [vsB, Bool.and_eq_true, Bool.not_eq_true', decide_eq_false_iff_not, beq_iff_eq, List.all_eq_true, List.mem_range, heldB, decide_eq_true_eq]
  refine ⟨h.cv, ⟨by omega, by omega, by omega, by omega, by omega⟩, fun x hx => h.hold x hx, fun i hi => ?_, fun i hi => ?_⟩
  · have hi' : i < c.acts.length := by omega
    have ha := List.getElem?_eq_getElem hi'
    have hu := List.getElem?_eq_getElem hi
    simp only [usedB, ha, hu]
    cases hq : s.used[i] with
    | false => rfl
    | true =>
      have := h.used i _ ha (by rw [hu, hq])
      simp [this]
  · have hi' : i < c.clauses.length := by omega
    have ha := List.getElem?_eq_getElem hi'
    have hu := List.getElem?_eq_getElem hi
    simp only [markIB, ha, hu, Bool.and_eq_true, Bool.not_eq_true']
    exact ⟨h.mrk i _ _ ha hu, h.rdy i hi'⟩
end Go.Proofs.YtaglopifoibhiaaDoor
namespace Go.Proofs.YtaglopifoibhiaaDoor
open Go.RowKit
set_option linter.unusedVariables false
set_option linter.unusedSimpArgs false
set_option maxRecDepth 100000

structure KV (c : ContractT) (i : Nat) (k : ClauseT) : Prop where
  act : 0 ≤ k.act ∧ k.act < c.acts.length
  after : 1 ≤ k.after ∧ k.after ≤ 400
  kind : k.kind = 1 ∨ k.kind = 2 ∨ k.kind = 3 ∨ k.kind = 4
  role : k.kind = 4 ∨ (0 ≤ k.role ∧ k.role < c.holders.length)
  need : 1 ≤ k.need ∧ k.need ≤ 9
  grace : 0 ≤ k.grace ∧ k.grace ≤ 400
  start : k.start.length ≤ 8
  cond : ∀ s ∈ k.start, 0 ≤ s.clause ∧ s.clause < c.clauses.length
  pause : (k.pause = -1 ∧ k.resume = -1) ∨ (natB c.acts k.pause = true ∧ natB c.acts k.resume = true)
theorem kv_of {c : ContractT} (ho : c.off.length < 4611686018427387904) (h : (validR c).1 = 0) {i : Nat} {k : ClauseT} (hk : c.clauses[i]? = some k) : KV c i k := by
  have sm := small_of ho h
  obtain ⟨_, _, h3, _⟩ := validR_ok h
  have := h3 i (List.getElem?_eq_some_iff.1 hk).1
  simp only [clB, hk, clauseB, Bool.and_eq_true, Bool.not_eq_true', decide_eq_false_iff_not] at this
  obtain ⟨⟨a1, a2, a3, a4⟩, ⟨a5, a6⟩, a7, a8, _⟩ := this
  have hkd : (k.kind = 1 ∨ k.kind = 2 ∨ k.kind = 3 ∨ k.kind = 4) ∧ (k.kind = 4 ∨ (0 ≤ k.role ∧ k.role < c.holders.length)) ∧ (1 ≤ k.need ∧ k.need ≤ 9) ∧ (0 ≤ k.grace ∧ k.grace ≤ 400) := by
    unfold kindB at a5
    cases h4 : (k.kind == 4) with
    | true =>
      rw [h4] at a5
      simp only [cond_true, Bool.and_eq_true, beq_iff_eq] at a5
      have := beq_iff_eq.1 h4
      omega
    | false =>
      rw [h4] at a5
      simp only [cond_false, Bool.and_eq_true, movB, decide_eq_true_eq] at a5
      obtain ⟨⟨b1, _⟩, b2⟩ := a5
      cases h1 : (k.kind == 1) with
      | true =>
        rw [h1] at b2
        simp only [cond_true, Bool.and_eq_true, decide_eq_true_eq] at b2
        have := beq_iff_eq.1 h1
        omega
      | false =>
        rw [h1] at b2
        cases h2 : (k.kind == 2) with
        | true =>
          rw [h2] at b2
          simp only [cond_true, cond_false, Bool.and_eq_true, beq_iff_eq] at b2
          have := beq_iff_eq.1 h2
          omega
        | false =>
          rw [h2] at b2
          simp only [cond_false, Bool.and_eq_true, beq_iff_eq] at b2
          omega
  refine ⟨⟨by omega, by omega⟩, ⟨by omega, by omega⟩, hkd.1, hkd.2.1, hkd.2.2.1, hkd.2.2.2, by omega, fun s hs => ?_, ?_⟩
  · have := sm.cond i k hk s hs; omega
  · simp only [pauseB, Bool.or_eq_true, Bool.and_eq_true, beq_iff_eq, Bool.not_eq_true'] at a8
    rcases a8 with h | h
    · exact .inl h
    · exact .inr h.2

structure AV2 (c : ContractT) (a : ActT) : Prop where
  role : (a.role = -1 ∧ a.kind = 1) ∨ (0 ≤ a.role ∧ a.role < c.holders.length)
  kind : a.kind = 1 ∨ ((a.kind = 2 ∨ a.kind = 3) ∧ (0 ≤ a.give ∧ a.give < c.holders.length) ∧ (0 ≤ a.to ∧ a.to < c.parties))
theorem av_of {c : ContractT} (h : (validR c).1 = 0) {i : Nat} {a : ActT} (ha : c.acts[i]? = some a) : AV2 c a := by
  obtain ⟨_, h2, _, _⟩ := validR_ok h
  simp only [framedB, Bool.and_eq_true, Bool.not_eq_true', decide_eq_false_iff_not] at h2
  obtain ⟨_, _, _, _, _, b6, _⟩ := h2
  have := List.all_eq_true.1 b6 a (List.mem_of_getElem? ha)
  unfold actB at this
  cases hr : movB c.holders.length a.role with
  | true =>
    rw [hr] at this
    simp only [movB, Bool.and_eq_true, decide_eq_true_eq] at hr
    cases h1 : (a.kind == 1) with
    | true => exact ⟨.inr hr, .inl (beq_iff_eq.1 h1)⟩
    | false =>
      rw [h1] at this
      simp only [cond_true, cond_false, Bool.and_eq_true, Bool.or_eq_true, beq_iff_eq, movB, decide_eq_true_eq] at this
      exact ⟨.inr hr, .inr ⟨this.1, this.2.1, by omega⟩⟩
  | false =>
    rw [hr] at this
    simp only [cond_false, Bool.and_eq_true, beq_iff_eq] at this
    exact ⟨.inl ⟨this.2.1, this.1⟩, .inl this.1⟩
theorem held_of {c : ContractT} (h : (validR c).1 = 0) : ∀ x ∈ c.holders, 0 ≤ x ∧ x < c.parties := by
  obtain ⟨_, h2, _, _⟩ := validR_ok h
  simp only [framedB, Bool.and_eq_true] at h2
  have := h2.2.2.2.1
  simp only [heldB, List.all_eq_true, Bool.and_eq_true, decide_eq_true_eq] at this
  exact this
theorem off_of {c : ContractT} (ho : c.off.length < 4611686018427387904) (h : (validR c).1 = 0) : c.off.Pairwise (· < ·) := by
  obtain ⟨_, h2, _, _⟩ := validR_ok h
  simp only [framedB, Bool.and_eq_true] at h2
  have b7 := h2.2.2.2.2.2.2
  have e : offB c.days c.off = incB c.days (-1) c.off := by
    unfold offB
    rw [s_inc c.days c.off ho (-1)]
    cases incB c.days (-1) c.off <;> rfl
  rw [e] at b7
  exact (incB_spec b7).2

/-! ### start -/
def MOk (c : ContractT) (ms : List MarkT) : Prop := ms.length = c.clauses.length ∧ ∀ (i : Nat) (k : ClauseT) (m : MarkT), c.clauses[i]? = some k → ms[i]? = some m → mrkB c.parties k m = true
def NR (c : ContractT) (ms : List MarkT) : Prop := ∀ i, i < c.clauses.length → readyB c.clauses ms i = false
def begun (k : ClauseT) (b : Int) : MarkT := { status := 1, left := k.after, got := 0, bearer := b, paused := false }
def StR (c : ContractT) (ms ms' : List MarkT) : Prop := ∀ (i : Nat) (m m' : MarkT), ms[i]? = some m → ms'[i]? = some m' → m' = m ∨ (m.status = 0 ∧ ∃ k b, c.clauses[i]? = some k ∧ m' = begun k b)
def idleN (ms : List MarkT) : Nat := ms.countP (fun m => m.status == 0)
structure StartP (c : ContractT) (ms r : List MarkT) : Prop where
  ok : MOk c r
  nr : NR c r
  rel : StR c ms r
  same : NR c ms → r = ms

theorem idleN_set {ms : List MarkT} {i : Nat} {m m' : MarkT} (h : ms[i]? = some m) (h0 : m.status = 0) (h1 : m'.status ≠ 0) : idleN (ms.set i m') < idleN ms := by
  obtain ⟨hi, rfl⟩ := List.getElem?_eq_some_iff.1 h
  unfold idleN
  rw [List.countP_set hi]
  have hp : 0 < ms.countP (fun m => m.status == 0) := List.countP_pos_iff.2 ⟨_, List.getElem_mem hi, by simp [h0]⟩
  simp only [h0, beq_self_eq_true, if_true, beq_iff_eq, h1, if_false]
  omega

noncomputable def startO (c : ContractT) (day : Int) (hs : List Int) (us : List Bool) (ms : List MarkT) : Option (List MarkT) := d_69a c day hs hs.length us us.length ms ms.length

theorem eqN_self (n : Nat) : eqN n n = some ⟨rfl⟩ := by unfold eqN; rw [dif_pos rfl]
theorem eqN_of {a b : Nat} (h : a = b) : eqN a b = some ⟨h⟩ := by unfold eqN; rw [dif_pos h]

theorem start_ret (c : ContractT) (day : Int) (hs : List Int) (us : List Bool) (ms : List MarkT) (ho : c.off.length < 4611686018427387904) (hv : (validR c).1 = 0) (hh : hs.length = c.holders.length) (hb : ∀ h ∈ hs, 0 ≤ h ∧ h < c.parties) (hm : MOk c ms) :
    Ret (startO c day hs us ms) (StartP c ms) := by
  have sm := small_of ho hv
  have hcl := sm.clauses
  unfold startO d_69a
  refine Ret.bind (P := fun r => StartP c ms r) (Ret.iter (fun s => MOk c s.2 ∧ StR c ms s.2 ∧ (NR c ms → s.2 = ms) ∧ (s.1 = false → NR c s.2)) (fun s => 2 * idleN s.2 + (if s.1 then 1 else 0)) ⟨hm, fun i m m' h1 h2 => .inl (by simp only at h2; rw [h1] at h2; exact (Option.some.inj h2).symm), fun _ => rfl, fun h => by cases h⟩ ?_) (fun r hr => Ret.some hr)
  rintro ⟨b, ms1⟩ ⟨hok, hrel, hsame, hnr⟩
  cases b with
  | false => exact Ret.some ⟨hok, hnr rfl, hrel, hsame⟩
  | true =>
    simp only [cond_true]
    refine Ret.bind (P := fun o => ∃ s2 : Bool × List MarkT, o = .inl s2 ∧ MOk c s2.2 ∧ StR c ms s2.2 ∧ (NR c ms1 → s2.2 = ms1) ∧ (s2.1 = false → s2.2 = ms1 ∧ NR c ms1) ∧ (s2.1 = true → idleN s2.2 < idleN ms1))
      (Ret.forL (n := c.clauses.length) (fun i s => MOk c s.2 ∧ StR c ms s.2 ∧ (NR c ms1 → s.2 = ms1) ∧ (s.1 = false → s.2 = ms1 ∧ ∀ j, j < i → readyB c.clauses ms1 j = false) ∧ (s.1 = true → idleN s.2 < idleN ms1)) (by omega) ⟨hok, hrel, fun _ => rfl, fun _ => ⟨rfl, fun j hj => by omega⟩, fun h => by cases h⟩ ?_ (fun s h => ⟨s, rfl, h⟩)) ?_
    · rintro i ⟨b0, ms2⟩ hi ⟨ok2, rel2, same2, nr2, lt2⟩
      simp only at ok2 rel2 same2 nr2 lt2
      have hk := List.getElem?_eq_getElem hi
      have hl2 := ok2.1
      have hl0 := hm.1
      have hi2 : i < ms2.length := by omega
      have hm2 := List.getElem?_eq_getElem hi2
      have kv := kv_of ho hv hk
      have hmk := ok2.2 i _ _ hk hm2
      rw [idxI_at hk]
      simp only [Option.bind_some, eqN_self, eqN_of (show ms.length = ms2.length by omega)]
      rw [s_ready c _ i _ _ hk hm2 (by have := kv.start; omega) (fun x hx => by have := kv.cond x hx; simp only; omega)]
      simp only [Option.bind_some]
      cases hr : readyB c.clauses ms2 i with
      | false =>
        simp only [cond_false, Option.bind_some]
        refine Ret.some ⟨ok2, rel2, same2, fun hb => ⟨(nr2 hb).1, fun j hj => ?_⟩, lt2⟩
        rcases Nat.lt_or_ge j i with h | h
        · exact (nr2 hb).2 j h
        · obtain rfl : j = i := by omega
          rw [← (nr2 hb).1]; exact hr
      | true =>
        simp only [cond_true]
        have hr' := hr
        simp only [readyB, hk, hm2, Bool.and_eq_true, Bool.not_eq_true', beq_iff_eq] at hr'
        obtain ⟨⟨h0, hw⟩, _⟩ := hr'
        have hbear : Ret (bif (c.clauses[i].kind == 4) then some (-1) else (Option.bind (idxN hs.length c.clauses[i].role) fun k1 => (Option.bind (hs[k1]?) fun e2 => some e2))) (fun v => bif c.clauses[i].kind == 4 then v = -1 else 0 ≤ v ∧ v < c.parties) := by
          refine Ret.ite (fun h4 => Ret.some (by simp [h4])) (fun h4 => ?_)
          have h4' : c.clauses[i].kind ≠ 4 := beq_eq_false_iff_ne.1 h4
          have hro := kv.role.resolve_left h4'
          rw [idxN_lt hro.1 (by omega)]
          have hlt : c.clauses[i].role.toNat < hs.length := by omega
          simp only [Option.bind_some, List.getElem?_eq_getElem hlt]
          exact Ret.some (by rw [h4]; exact hb _ (List.getElem_mem hlt))
        refine Ret.bind (P := fun v : Bool × List MarkT => ∃ b, v = (true, ms2.set i (begun c.clauses[i] b)) ∧ (bif c.clauses[i].kind == 4 then b = -1 else 0 ≤ b ∧ b < c.parties)) (Ret.bind hbear fun v hv' => ?_) ?_
        · rw [idxN_nat (show i < ms.length by omega)]
          simp only [Option.bind_some, hm2]
          exact Ret.some ⟨v, rfl, hv'⟩
        · rintro _ ⟨b, rfl, hbv⟩
          have hnew : mrkB c.parties c.clauses[i] (begun c.clauses[i] b) = true := by
            simp only [mrkB, begun, runB, hw]
            have h1 := kv.after
            have : ¬ c.clauses[i].after < 1 := by omega
            cases h4 : (c.clauses[i].kind == 4) with
            | true => rw [h4] at hbv; simp only [cond_true] at hbv; subst hbv; simp [this]
            | false => rw [h4] at hbv; simp only [cond_false] at hbv; simp [this, hbv]
          refine Ret.some ⟨⟨by simpa using hl2, fun j k m hj hmj => ?_⟩, fun j m m' h1 h2 => ?_, fun hn => ?_, fun h => by simp at h, fun _ => ?_⟩
          · rw [List.getElem?_set] at hmj
            by_cases hij : i = j
            · subst hij
              rw [if_pos rfl, if_pos hi2] at hmj
              rw [hk] at hj
              cases hj; cases hmj; exact hnew
            · rw [if_neg hij] at hmj; exact ok2.2 j k m hj hmj
          · simp only at h2
            rw [List.getElem?_set] at h2
            by_cases hij : i = j
            · subst hij
              rw [if_pos rfl, if_pos hi2] at h2
              cases h2
              refine .inr ⟨?_, _, b, hk, rfl⟩
              rcases rel2 i m _ h1 hm2 with h | ⟨h, _⟩
              · rw [← h]; exact h0
              · exact h
            · rw [if_neg hij] at h2; exact rel2 j m m' h1 h2
          · have e := same2 hn
            have := hn i hi
            rw [← e, hr] at this
            cases this
          · have h3 := idleN_set (m' := begun c.clauses[i] b) hm2 h0 (by simp [begun])
            show idleN (ms2.set i (begun c.clauses[i] b)) < idleN ms1
            cases b0 with
            | true => have := lt2 rfl; omega
            | false => have e := (nr2 rfl).1; subst e; exact h3
    · rintro _ ⟨⟨b2, ms2⟩, rfl, ok2, rel2, same2, nr2, lt2⟩
      simp only at ok2 rel2 same2 nr2 lt2
      simp only [Sum.elim_inl]
      refine Ret.some ⟨⟨ok2, rel2, fun hn => ?_, fun hb2 => ?_⟩, ?_⟩
      · have e := hsame hn
        simp only at e
        subst e
        exact same2 hn
      · obtain ⟨e1, e2⟩ := nr2 hb2
        simp only; rw [e1]; exact e2
      · simp only
        cases b2 with
        | true => have := lt2 rfl; simp; omega
        | false => have := (nr2 rfl).1; subst this; simp
end Go.Proofs.YtaglopifoibhiaaDoor
