/-
  Functions of the program: what they compute, and plans of their code that the kernel checks (printed by a program of ours).
  What 'contract.Valid' comes to.
  What Valid says.
  What 'slices.BinarySearch' comes to; sizes of valid contracts.
  What 'system.Valid' comes to.
-/
import Derived.Test.YtieofodomlodhaaDoorRA08
import Derived.Test.YtieofodomlodhaaDoorRA06
namespace Go.Proofs.YtieofodomlodhaaDoor
open Go.RowKit
set_option linter.unusedVariables false
set_option linter.unusedSimpArgs false
set_option maxRecDepth 100000

noncomputable def d_68a (p1 : Int) (p2 : ContractT) (p3 : Int) (p4 : List Int) (p5 : Nat) (p6 : List Bool) (p7 : Nat) (p8 : List MarkT) (p9 : Nat) : Option ((List Int) × (List Bool) × (List MarkT)) :=
  (Option.bind (idxI p2.acts p1) fun e1 => (Option.bind (idxN p5 e1.give) fun k1 => (Option.bind (p4[k1]?) fun e2 => (Option.bind (idxN p7 p1) fun k2 => (Option.bind (p6[k2]?) fun e3 => (bif (e1.kind == 3) then (Option.bind (d_66a p2 p3 (p4.set k1 e1.to) p5 (p6.set k2 true) p7 p8 p9) fun r1 => (Option.bind (forR (σ := (List MarkT)) (ρ := (List MarkT)) (p9 : Int) (fun i1 s1 => (Option.bind (Option.bind (idxN p9 (i1 : Int)) fun k3 => (Option.bind (s1[k3]?) fun e4 => (Option.bind (d_running e4) fun r2 => (bif r2 then (Option.bind (Option.bind (idxI p2.clauses (i1 : Int)) fun e5 => (Option.bind (bif (e5.kind == 4) then some false else some (e5.role == e1.give)) fun v1 => (bif v1 then (Option.bind (idxN p9 (i1 : Int)) fun k4 => (Option.bind (s1[k4]?) fun e6 => some (s1.set k4 ({ e6 with bearer := e1.to } : MarkT)))) else some s1))) fun (v2 : (List MarkT)) => some ((!true), v2)) else some (false, s1))))) fun (v3 : Bool × (List MarkT)) => (bif v3.1 then some (.inr v3.2) else some (.inl v3.2)))) p8) (Sum.elim (fun (s1 : (List MarkT)) => some ((p4.set k1 e1.to), (p6.set k2 true), s1)) (fun (y1 : (List MarkT)) => some ((p4.set k1 e1.to), (p6.set k2 true), y1))))) else some ((p4.set k1 e1.to), (p6.set k2 true), p8)))))))
noncomputable def p_68a (p1 : Int) (p2 : ContractT) (p3 : Int) (p4 : List Int) (p5 : Nat) (p6 : List Bool) (p7 : Nat) (p8 : List MarkT) (p9 : Nat) : Plan ((List Int) × (List Bool) × (List MarkT)) :=
  .reg 1 (.ix 1172 ActT.row p2.acts p1 fun e1 => .use 6 1172 (.reg 0 (.b1 1174 (idxN p5 e1.give) (fun k1 => .k k1) (fun k1 hk1 => (midx_side hk1)) fun k1 => .b1 1176 (p4[k1]?) (fun e2 => .aw (rowA (rowI e2)) (rowsA rowI (p4.set k1 e1.to))) (fun e2 he2 => (sto_side rowI e1.to he2)) fun e2 => .us [(9, 1174), (10, 1176)] (.reg 0 (.b1 1178 (idxN p7 p1) (fun k2 => .k k2) (fun k2 hk2 => (midx_side hk2)) fun k2 => .b1 1180 (p6[k2]?) (fun e3 => .aw (rowA (rowB e3)) (rowsA rowB (p6.set k2 true))) (fun e3 he3 => (sto_side rowB true he3)) fun e3 => .us [(6, 1178), (7, 1180)] (.ite 1152 (e1.kind == 3) (.sel 1153 (.reg 0 (.b1 1182 (d_66a p2 p3 (p4.set k1 e1.to) p5 (p6.set k2 true) p7 p8 p9) (fun r1 => .c [0, 1, 2, 3] 4 (.func 67 [] [.ptr 38 0 0]) [(38, .rows 1 [[.ptr 0 0 0]])] 1) (fun r1 hr1 => (call_side (t_66a p2 p3 (p4.set k1 e1.to) p5 (p6.set k2 true) p7 p8 p9 r1 hr1) [0, 1, 2, 3] 38 (.drop rfl rfl (.drop rfl rfl (.drop rfl rfl (.drop rfl rfl (.keep .nil))))) (rhR (rhI (rhI (rhI rhN)))) (rhR rhN))) fun r1 => .use 1 1182 (.forR (σ := (List MarkT)) (ρ := (List MarkT)) 1154 10 (p9 : Int) p8 (.k [0, 1, 9] (fun _ => []) [0, 4, 13, 38, 40] (fun s1 => [(1, .rows 1 (rowsA rowI (p4.set k1 e1.to))), (2, .rows 1 (rowsA rowB (p6.set k2 true))), (3, .rows 5 (rowsA MarkT.row s1))]) 48 fun _ => (.rows rfl (.rows rfl (.rows rfl .nil)))) (fun i1 s1 => .sel 1154 (.cut (β := Bool × (List MarkT)) 4 (.k [0, 1, 9, 10] (fun v3 => [(27, vB v3.1)]) [0, 4, 13, 38, 40] (fun v3 => [(1, .rows 1 (rowsA rowI (p4.set k1 e1.to))), (2, .rows 1 (rowsA rowB (p6.set k2 true))), (3, .rows 5 (rowsA MarkT.row v3.2))]) 66 fun _ => (.rows rfl (.rows rfl (.rows rfl .nil)))) (.reg 0 (.b1 1184 (idxN p9 (i1 : Int)) (fun k3 => .k k3) (fun k3 hk3 => (midx_side hk3)) fun k3 => .b1 1186 (s1[k3]?) (fun e4 => .ar (rowA (MarkT.row e4))) (fun e4 he4 => (row_side MarkT.row he4)) fun e4 => .call 1188 (t_running e4) fun r2 => .ite 1164 r2 (.us [(6, 1184), (7, 1186), (8, 1188), (10, 1164)] (.reg 0 (.cut (β := (List MarkT)) 0 (.k [] (fun _ => []) [0, 4, 13, 38, 40] (fun v2 => [(1, .rows 1 (rowsA rowI (p4.set k1 e1.to))), (2, .rows 1 (rowsA rowB (p6.set k2 true))), (3, .rows 5 (rowsA MarkT.row v2))]) 85 fun _ => (.rows rfl (.rows rfl (.rows rfl .nil)))) (.reg 0 (.ix 1190 ClauseT.row p2.clauses (i1 : Int) fun e5 => .use 6 1190 (.cut (β := Bool) 1 (.k [2, 4, 5] (fun v1 => [(55, vB v1)]) [0, 4, 13, 38, 40, 73] (fun _ => [(1, .rows 1 (rowsA rowI (p4.set k1 e1.to))), (2, .rows 1 (rowsA rowB (p6.set k2 true))), (3, .rows 5 (rowsA MarkT.row s1))]) 85 fun _ => (.rows rfl (.rows rfl (.rows rfl .nil)))) (.reg 0 (.ite 1166 (e5.kind == 4) (.use 4 1167 (.ret false)) (.use 4 1167 (.ret (e5.role == e1.give))))) fun v1 => .ite 1168 v1 (.sel 1168 (.reg 0 (.b1 1192 (idxN p9 (i1 : Int)) (fun k4 => .k k4) (fun k4 hk4 => (midx_side hk4)) fun k4 => .b1 1194 (s1[k4]?) (fun e6 => .aw (rowA (MarkT.row e6)) (rowsA MarkT.row (s1.set k4 ({ e6 with bearer := e1.to } : MarkT)))) (fun e6 he6 => (sto_side MarkT.row ({ e6 with bearer := e1.to } : MarkT) he6)) fun e6 => .us [(8, 1192), (10, 1194)] (.ret (s1.set k4 ({ e6 with bearer := e1.to } : MarkT)))))) (.sel 1168 (.ret s1))))) fun v2 => .ret ((!true), v2)))) (.us [(6, 1184), (7, 1186), (8, 1188), (10, 1164)] (.ret (false, s1))))) fun v3 => .ite 1170 v3.1 (.sel 1170 (.ret (.inr v3.2))) (.sel 1170 (.ret (.inl v3.2))))) fun os1 => .case os1 (fun s1 => .sel 1154 (.ret ((p4.set k1 e1.to), (p6.set k2 true), s1))) fun y1 => .ret ((p4.set k1 e1.to), (p6.set k2 true), y1))))) (.sel 1153 (.ret ((p4.set k1 e1.to), (p6.set k2 true), p8)))))))))
theorem t_68a (p1 : Int) (p2 : ContractT) (p3 : Int) (p4 : List Int) (p5 : Nat) (p6 : List Bool) (p7 : Nat) (p8 : List MarkT) (p9 : Nat) (res : (List Int) × (List Bool) × (List MarkT)) (hd : d_68a p1 p2 p3 p4 p5 p6 p7 p8 p9 = some res) : DOk C0 68 [.ptr 0 0 0, vI p1] [(0, .rows 11 [[vI p2.parties, .imm (.slice (List.map rowI p2.holders)), .imm (.slice (List.map UnitT.row p2.units)), .imm (.slice (List.map ActT.row p2.acts)), .imm (.slice (List.map ClauseT.row p2.clauses)), vI p2.days, .imm (.slice (List.map rowI p2.off)), vI p3, .mslice 1 0 p5, .mslice 2 0 p7, .mslice 3 0 p9]]), (1, .rows 1 (rowsA rowI p4)), (2, .rows 1 (rowsA rowB p6)), (3, .rows 5 (rowsA MarkT.row p8))] 4 (.tuple []) [(0, .rows 11 [[vI p2.parties, .imm (.slice (List.map rowI p2.holders)), .imm (.slice (List.map UnitT.row p2.units)), .imm (.slice (List.map ActT.row p2.acts)), .imm (.slice (List.map ClauseT.row p2.clauses)), vI p2.days, .imm (.slice (List.map rowI p2.off)), vI p3, .mslice 1 0 p5, .mslice 2 0 p7, .mslice 3 0 p9]]), (1, .rows 1 (rowsA rowI res.1)), (2, .rows 1 (rowsA rowB res.2.1)), (3, .rows 5 (rowsA MarkT.row res.2.2))] 0 :=
  Plan.det (R := fun res => .tuple []) (H := fun res => [(0, .rows 11 [[vI p2.parties, .imm (.slice (List.map rowI p2.holders)), .imm (.slice (List.map UnitT.row p2.units)), .imm (.slice (List.map ActT.row p2.acts)), .imm (.slice (List.map ClauseT.row p2.clauses)), vI p2.days, .imm (.slice (List.map rowI p2.off)), vI p3, .mslice 1 0 p5, .mslice 2 0 p7, .mslice 3 0 p9]]), (1, .rows 1 (rowsA rowI res.1)), (2, .rows 1 (rowsA rowB res.2.1)), (3, .rows 5 (rowsA MarkT.row res.2.2))]) (p_68a p1 p2 p3 p4 p5 p6 p7 p8 p9) (.exp rfl rfl (.rows rfl (.rows rfl (.rows rfl .nil)))) (fun _ => (.exp rfl rfl (.rows rfl (.rows rfl (.rows rfl .nil))))) (by kernel_rfl) (fun _ => by kernel_rfl) (by kernel_rfl) (Plan.run_of hd (by kernel_rfl))

noncomputable def d_60a (p1 : Int) (p2 : ContractT) (p3 : Int) (p4 : List Int) (p5 : Nat) (p6 : List Bool) (p7 : Nat) (p8 : List MarkT) (p9 : Nat) : Option ((List Int) × (List Bool) × (List MarkT)) :=
  (Option.bind (idxI p2.acts p1) fun e1 => (Option.bind (bif (e1.kind == 1) then some false else (Option.bind (idxN p7 p1) fun k1 => (Option.bind (p6[k1]?) fun e2 => some e2))) fun v1 => (bif v1 then some (p4, p6, p8) else (Option.bind (Option.bind (d_66a p2 p3 p4 p5 p6 p7 p8 p9) fun r1 => (Option.bind (forR (σ := (List MarkT)) (ρ := (List MarkT)) (p9 : Int) (fun i1 s1 => (Option.bind (Option.bind (idxN p9 (i1 : Int)) fun k2 => (Option.bind (s1[k2]?) fun e3 => (Option.bind (d_running e3) fun r2 => (bif r2 then (Option.bind (Option.bind (idxI p2.clauses (i1 : Int)) fun e4 => (bif (p1 == e4.pause) then (Option.bind (idxN p9 (i1 : Int)) fun k3 => (Option.bind (s1[k3]?) fun e5 => some (s1.set k3 ({ e5 with paused := true } : MarkT)))) else (Option.bind (idxI p2.clauses (i1 : Int)) fun e6 => (bif (p1 == e6.resume) then (Option.bind (idxN p9 (i1 : Int)) fun k4 => (Option.bind (s1[k4]?) fun e7 => some (s1.set k4 ({ e7 with paused := false } : MarkT)))) else some s1)))) fun (v2 : (List MarkT)) => some ((!true), v2)) else some (false, s1))))) fun (v3 : Bool × (List MarkT)) => (bif v3.1 then some (.inr v3.2) else some (.inl v3.2)))) p8) (Sum.elim (fun (s1 : (List MarkT)) => some s1) (fun (y1 : (List MarkT)) => some y1)))) fun (v4 : (List MarkT)) => (Option.bind (eqN p5 p4.length) fun g1 => (Option.bind (eqN p7 p6.length) fun g2 => (Option.bind (eqN p9 v4.length) fun g3 => (Option.bind (d_doer p2 ({ day := p3, holders := p4, used := p6, marks := v4 } : StateT) p1) fun r3 => (Option.bind (Option.bind (d_66a p2 p3 p4 p5 p6 p7 v4 p9) fun r4 => (Option.bind (forR (σ := (List MarkT)) (ρ := (List MarkT)) (p9 : Int) (fun i2 s2 => (Option.bind (Option.bind (idxN p9 (i2 : Int)) fun k5 => (Option.bind (s2[k5]?) fun e8 => (Option.bind (d_running e8) fun r5 => (bif r5 then (Option.bind (Option.bind (idxI p2.clauses (i2 : Int)) fun e9 => (Option.bind (bif (e9.act == p1) then (bif (e9.kind == 4) then some true else (Option.bind (idxN p9 (i2 : Int)) fun k6 => (Option.bind (s2[k6]?) fun e10 => some (e10.bearer == r3)))) else some false) fun v5 => (bif v5 then (Option.bind (bif (e9.kind == (0 : Int)) then none else (bif (e9.kind == (1 : Int)) then (Option.bind (d_65a (i2 : Int) p2 p3 p4 p5 p6 p7 s2 p9) fun r9 => some r9) else (bif (e9.kind == (2 : Int)) then (Option.bind (d_71a (i2 : Int) p2 p3 p4 p5 p6 p7 s2 p9) fun r8 => some r8) else (bif (e9.kind == (3 : Int)) then (Option.bind (d_61a (i2 : Int) p2 p3 p4 p5 p6 p7 s2 p9) fun r7 => some r7) else (bif (e9.kind == (4 : Int)) then (Option.bind (d_61a (i2 : Int) p2 p3 p4 p5 p6 p7 s2 p9) fun r6 => some r6) else none))))) fun v6 => some v6) else some s2))) fun (v7 : (List MarkT)) => some ((!true), v7)) else some (false, s2))))) fun (v8 : Bool × (List MarkT)) => (bif v8.1 then some (.inr v8.2) else some (.inl v8.2)))) v4) (Sum.elim (fun (s2 : (List MarkT)) => some s2) (fun (y2 : (List MarkT)) => some y2)))) fun (v9 : (List MarkT)) => (Option.bind (bif (e1.kind == 1) then some (p4, p6, v9) else (Option.bind (d_68a p1 p2 p3 p4 p5 p6 p7 v9 p9) fun r10 => some (r10.1, r10.2.1, r10.2.2))) fun (v10 : (List Int) × (List Bool) × (List MarkT)) => (Option.bind (d_69a p2 p3 v10.1 p5 v10.2.1 p7 v10.2.2 p9) fun r11 => some (v10.1, v10.2.1, r11))))))))))))
noncomputable def p_60a (p1 : Int) (p2 : ContractT) (p3 : Int) (p4 : List Int) (p5 : Nat) (p6 : List Bool) (p7 : Nat) (p8 : List MarkT) (p9 : Nat) : Plan ((List Int) × (List Bool) × (List MarkT)) :=
  .reg 1 (.ix 1196 ActT.row p2.acts p1 fun e1 => .use 6 1196 (.cut (β := Bool) 2 (.k [2, 3, 4] (fun v1 => [(30, vB v1)]) [0, 4, 5, 14] (fun _ => [(1, .rows 1 (rowsA rowI p4)), (2, .rows 1 (rowsA rowB p6)), (3, .rows 5 (rowsA MarkT.row p8))]) 29 fun _ => (.rows rfl (.rows rfl (.rows rfl .nil)))) (.reg 0 (.ite 1054 (e1.kind == 1) (.use 4 1055 (.ret false)) (.b1 1198 (idxN p7 p1) (fun k1 => .k k1) (fun k1 hk1 => (midx_side hk1)) fun k1 => .b1 1200 (p6[k1]?) (fun e2 => .ar (rowA (rowB e2))) (fun e2 he2 => (row_side rowB he2)) fun e2 => .us [(4, 1055), (10, 1198), (11, 1200)] (.ret e2)))) fun v1 => .ite 1056 v1 (.sel 1056 (.ret (p4, p6, p8))) (.sel 1056 (.cut (β := (List MarkT)) 1 (.k [2, 3, 4] (fun _ => []) [0, 4, 5, 14] (fun v4 => [(1, .rows 1 (rowsA rowI p4)), (2, .rows 1 (rowsA rowB p6)), (3, .rows 5 (rowsA MarkT.row v4))]) 41 fun _ => (.rows rfl (.rows rfl (.rows rfl .nil)))) (.reg 0 (.b1 1202 (d_66a p2 p3 p4 p5 p6 p7 p8 p9) (fun r1 => .c [0, 1, 2, 3] 4 (.func 67 [] [.ptr 30 0 0]) [(30, .rows 1 [[.ptr 0 0 0]])] 1) (fun r1 hr1 => (call_side (t_66a p2 p3 p4 p5 p6 p7 p8 p9 r1 hr1) [0, 1, 2, 3] 30 (.drop rfl rfl (.drop rfl rfl (.drop rfl rfl (.drop rfl rfl (.keep .nil))))) (rhR (rhI (rhI (rhI rhN)))) (rhR rhN))) fun r1 => .use 1 1202 (.forR (σ := (List MarkT)) (ρ := (List MarkT)) 1058 10 (p9 : Int) p8 (.k [0, 1, 9] (fun _ => []) [0, 4, 5, 14, 30, 32] (fun s1 => [(1, .rows 1 (rowsA rowI p4)), (2, .rows 1 (rowsA rowB p6)), (3, .rows 5 (rowsA MarkT.row s1))]) 40 fun _ => (.rows rfl (.rows rfl (.rows rfl .nil)))) (fun i1 s1 => .sel 1058 (.cut (β := Bool × (List MarkT)) 4 (.k [0, 1, 9, 10] (fun v3 => [(27, vB v3.1)]) [0, 4, 5, 14, 30, 32] (fun v3 => [(1, .rows 1 (rowsA rowI p4)), (2, .rows 1 (rowsA rowB p6)), (3, .rows 5 (rowsA MarkT.row v3.2))]) 58 fun _ => (.rows rfl (.rows rfl (.rows rfl .nil)))) (.reg 0 (.b1 1204 (idxN p9 (i1 : Int)) (fun k2 => .k k2) (fun k2 hk2 => (midx_side hk2)) fun k2 => .b1 1206 (s1[k2]?) (fun e3 => .ar (rowA (MarkT.row e3))) (fun e3 he3 => (row_side MarkT.row he3)) fun e3 => .call 1208 (t_running e3) fun r2 => .ite 1068 r2 (.us [(6, 1204), (7, 1206), (8, 1208), (10, 1068)] (.reg 0 (.cut (β := (List MarkT)) 0 (.k [] (fun _ => []) [0, 4, 5, 14, 30, 32] (fun v2 => [(1, .rows 1 (rowsA rowI p4)), (2, .rows 1 (rowsA rowB p6)), (3, .rows 5 (rowsA MarkT.row v2))]) 78 fun _ => (.rows rfl (.rows rfl (.rows rfl .nil)))) (.reg 1 (.ix 1210 ClauseT.row p2.clauses (i1 : Int) fun e4 => .use 6 1210 (.ite 1070 (p1 == e4.pause) (.sel 1070 (.reg 0 (.b1 1212 (idxN p9 (i1 : Int)) (fun k3 => .k k3) (fun k3 hk3 => (midx_side hk3)) fun k3 => .b1 1214 (s1[k3]?) (fun e5 => .aw (rowA (MarkT.row e5)) (rowsA MarkT.row (s1.set k3 ({ e5 with paused := true } : MarkT)))) (fun e5 he5 => (sto_side MarkT.row ({ e5 with paused := true } : MarkT) he5)) fun e5 => .us [(6, 1212), (8, 1214)] (.ret (s1.set k3 ({ e5 with paused := true } : MarkT)))))) (.sel 1070 (.reg 0 (.ix 1216 ClauseT.row p2.clauses (i1 : Int) fun e6 => .use 6 1216 (.ite 1072 (p1 == e6.resume) (.sel 1072 (.reg 0 (.b1 1218 (idxN p9 (i1 : Int)) (fun k4 => .k k4) (fun k4 hk4 => (midx_side hk4)) fun k4 => .b1 1220 (s1[k4]?) (fun e7 => .aw (rowA (MarkT.row e7)) (rowsA MarkT.row (s1.set k4 ({ e7 with paused := false } : MarkT)))) (fun e7 he7 => (sto_side MarkT.row ({ e7 with paused := false } : MarkT) he7)) fun e7 => .us [(6, 1218), (8, 1220)] (.ret (s1.set k4 ({ e7 with paused := false } : MarkT)))))) (.sel 1072 (.ret s1))))))))) fun v2 => .ret ((!true), v2)))) (.us [(6, 1204), (7, 1206), (8, 1208), (10, 1068)] (.ret (false, s1))))) fun v3 => .ite 1074 v3.1 (.sel 1074 (.ret (.inr v3.2))) (.sel 1074 (.ret (.inl v3.2))))) fun os1 => .case os1 (fun s1 => .sel 1058 (.ret s1)) fun y1 => .ret y1))) fun v4 => .reg 1 (.bind (eqN p5 p4.length) (fun _ => []) (fun _ _ => .nil) fun g1 => .bind (eqN p7 p6.length) (fun _ => []) (fun _ _ => .nil) fun g2 => .bind (eqN p9 v4.length) (fun _ => []) (fun _ _ => .nil) fun g3 => .bind (d_doer p2 ({ day := p3, holders := p4, used := p6, marks := v4 } : StateT) p1) (fun r3 => [(1222, ([.w [1, 2, 3] [.agg (ContractT.row p2), .agg (StateT.row ({ day := p3, holders := p4, used := p6, marks := v4 } : StateT)), .int .i64 p1] (.int .i64 r3)], _))]) (fun r3 hr3 => (.c2 (t_doer p2 ({ day := p3, holders := p4, used := p6, marks := v4 } : StateT) p1 r3 hr3) (snap_of [.agg (rowA (ContractT.row p2)), .agg [vI p3, .mslice 1 0 p5, .mslice 2 0 p7, .mslice 3 0 p9], vI p1] [(1, .rows 1 (rowsA rowI p4)), (2, .rows 1 (rowsA rowB p6)), (3, .rows 5 (rowsA MarkT.row v4))] [.agg (ContractT.row p2), .agg (StateT.row ({ day := p3, holders := p4, used := p6, marks := v4 } : StateT)), .int .i64 p1] (snapC (snapA (snapC (snapI _) (snapC (snapI _) (snapC (snapI _) (snapC (snapI _) (snapC (snapI _) (snapC (snapI _) (snapC (snapI _) snapN)))))))) (snapC (snapA (snapC (snapI _) (snapC (snapE rowI 1 1 p5 p4 g1.down rfl) (snapC (snapE rowB 2 1 p7 p6 g2.down rfl) (snapC (snapE MarkT.row 3 5 p9 v4 g3.down rfl) snapN))))) (snapC (snapI _) snapN)))) .nil)) fun r3 => .use 9 1222 (.cut (β := (List MarkT)) 1 (.k [2, 3, 4] (fun _ => []) [0, 4, 5, 14] (fun v9 => [(1, .rows 1 (rowsA rowI p4)), (2, .rows 1 (rowsA rowB p6)), (3, .rows 5 (rowsA MarkT.row v9))]) 68 fun _ => (.rows rfl (.rows rfl (.rows rfl .nil)))) (.reg 0 (.b1 1224 (d_66a p2 p3 p4 p5 p6 p7 v4 p9) (fun r4 => .c [0, 1, 2, 3] 4 (.func 67 [] [.ptr 57 0 0]) [(57, .rows 1 [[.ptr 0 0 0]])] 1) (fun r4 hr4 => (call_side (t_66a p2 p3 p4 p5 p6 p7 v4 p9 r4 hr4) [0, 1, 2, 3] 57 (.drop rfl rfl (.drop rfl rfl (.drop rfl rfl (.drop rfl rfl (.keep .nil))))) (rhR (rhI (rhI (rhI rhN)))) (rhR rhN))) fun r4 => .use 1 1224 (.forR (σ := (List MarkT)) (ρ := (List MarkT)) 1084 10 (p9 : Int) v4 (.k [0, 1, 9] (fun _ => []) [0, 4, 5, 14, 42, 54, 57, 59] (fun s2 => [(1, .rows 1 (rowsA rowI p4)), (2, .rows 1 (rowsA rowB p6)), (3, .rows 5 (rowsA MarkT.row s2))]) 67 fun _ => (.rows rfl (.rows rfl (.rows rfl .nil)))) (fun i2 s2 => .sel 1084 (.cut (β := Bool × (List MarkT)) 4 (.k [0, 1, 9, 10] (fun v8 => [(27, vB v8.1)]) [0, 4, 5, 14, 42, 54, 57, 59] (fun v8 => [(1, .rows 1 (rowsA rowI p4)), (2, .rows 1 (rowsA rowB p6)), (3, .rows 5 (rowsA MarkT.row v8.2))]) 85 fun _ => (.rows rfl (.rows rfl (.rows rfl .nil)))) (.reg 0 (.b1 1226 (idxN p9 (i2 : Int)) (fun k5 => .k k5) (fun k5 hk5 => (midx_side hk5)) fun k5 => .b1 1228 (s2[k5]?) (fun e8 => .ar (rowA (MarkT.row e8))) (fun e8 he8 => (row_side MarkT.row he8)) fun e8 => .call 1230 (t_running e8) fun r5 => .ite 1130 r5 (.us [(6, 1226), (7, 1228), (8, 1230), (10, 1130)] (.reg 0 (.cut (β := (List MarkT)) 0 (.k [] (fun _ => []) [0, 4, 5, 14, 42, 54, 57, 59] (fun v7 => [(1, .rows 1 (rowsA rowI p4)), (2, .rows 1 (rowsA rowB p6)), (3, .rows 5 (rowsA MarkT.row v7))]) 116 fun _ => (.rows rfl (.rows rfl (.rows rfl .nil)))) (.reg 0 (.ix 1232 ClauseT.row p2.clauses (i2 : Int) fun e9 => .use 6 1232 (.cut (β := Bool) 1 (.k [2, 6, 8, 9] (fun v5 => [(116, vB v5)]) [0, 4, 5, 14, 42, 54, 57, 59, 92] (fun _ => [(1, .rows 1 (rowsA rowI p4)), (2, .rows 1 (rowsA rowB p6)), (3, .rows 5 (rowsA MarkT.row s2))]) 116 fun _ => (.rows rfl (.rows rfl (.rows rfl .nil)))) (.reg 0 (.ite 1132 (e9.act == p1) (.ite 1134 (e9.kind == 4) (.us [(5, 1132), (9, 1134)] (.ret true)) (.b1 1234 (idxN p9 (i2 : Int)) (fun k6 => .k k6) (fun k6 hk6 => (midx_side hk6)) fun k6 => .b1 1236 (s2[k6]?) (fun e10 => .ar (rowA (MarkT.row e10))) (fun e10 he10 => (row_side MarkT.row he10)) fun e10 => .us [(5, 1132), (9, 1134), (15, 1234), (17, 1236)] (.ret (e10.bearer == r3)))) (.use 5 1132 (.ret false)))) fun v5 => .ite 1136 v5 (.sel 1136 (.cut (β := (List MarkT)) 0 (.k [] (fun _ => []) [0, 4, 5, 14, 42, 54, 57, 59, 92] (fun v6 => [(1, .rows 1 (rowsA rowI p4)), (2, .rows 1 (rowsA rowB p6)), (3, .rows 5 (rowsA MarkT.row v6))]) 123 fun _ => (.rows rfl (.rows rfl (.rows rfl .nil)))) (.reg 0 (.swt 1146 e9.kind 5 0 rfl (.none) (.swt 1144 e9.kind 5 1 rfl (.b1 1238 (d_65a (i2 : Int) p2 p3 p4 p5 p6 p7 s2 p9) (fun r9 => .c [0, 1, 2, 3] 4 (.tuple []) [(3, .rows 5 (rowsA MarkT.row r9))] 0) (fun r9 hr9 => (call_side (t_65a (i2 : Int) p2 p3 p4 p5 p6 p7 s2 p9 r9 hr9) [0, 1, 2, 3] 123 (.drop rfl rfl (.drop rfl rfl (.drop rfl rfl (.keep .nil)))) (rhR (rhI (rhI (rhI rhN)))) (rhI rhN))) fun r9 => .us [(2, 1144), (6, 1238)] (.ret r9)) (.swt 1142 e9.kind 5 2 rfl (.b1 1240 (d_71a (i2 : Int) p2 p3 p4 p5 p6 p7 s2 p9) (fun r8 => .c [0, 1, 2, 3] 4 (.tuple []) [(3, .rows 5 (rowsA MarkT.row r8))] 0) (fun r8 hr8 => (call_side (t_71a (i2 : Int) p2 p3 p4 p5 p6 p7 s2 p9 r8 hr8) [0, 1, 2, 3] 123 (.drop rfl rfl (.drop rfl rfl (.drop rfl rfl (.keep .nil)))) (rhR (rhI (rhI (rhI rhN)))) (rhI rhN))) fun r8 => .us [(2, 1142), (6, 1240)] (.ret r8)) (.swt 1140 e9.kind 5 3 rfl (.b1 1242 (d_61a (i2 : Int) p2 p3 p4 p5 p6 p7 s2 p9) (fun r7 => .c [0, 1, 2, 3] 4 (.tuple []) [(3, .rows 5 (rowsA MarkT.row r7))] 0) (fun r7 hr7 => (call_side (t_61a (i2 : Int) p2 p3 p4 p5 p6 p7 s2 p9 r7 hr7) [0, 1, 2, 3] 123 (.drop rfl rfl (.drop rfl rfl (.drop rfl rfl (.keep .nil)))) (rhR (rhI (rhI (rhI rhN)))) (rhI rhN))) fun r7 => .us [(2, 1140), (6, 1242)] (.ret r7)) (.swt 1138 e9.kind 5 4 rfl (.b1 1244 (d_61a (i2 : Int) p2 p3 p4 p5 p6 p7 s2 p9) (fun r6 => .c [0, 1, 2, 3] 4 (.tuple []) [(3, .rows 5 (rowsA MarkT.row r6))] 0) (fun r6 hr6 => (call_side (t_61a (i2 : Int) p2 p3 p4 p5 p6 p7 s2 p9 r6 hr6) [0, 1, 2, 3] 123 (.drop rfl rfl (.drop rfl rfl (.drop rfl rfl (.keep .nil)))) (rhR (rhI (rhI (rhI rhN)))) (rhI rhN))) fun r6 => .us [(2, 1138), (6, 1244)] (.ret r6)) (.none))))))) fun v6 => .ret v6)) (.sel 1136 (.ret s2))))) fun v7 => .ret ((!true), v7)))) (.us [(6, 1226), (7, 1228), (8, 1230), (10, 1130)] (.ret (false, s2))))) fun v8 => .ite 1148 v8.1 (.sel 1148 (.ret (.inr v8.2))) (.sel 1148 (.ret (.inl v8.2))))) fun os2 => .case os2 (fun s2 => .sel 1084 (.ret s2)) fun y2 => .ret y2))) fun v9 => .cut (β := (List Int) × (List Bool) × (List MarkT)) 1 (.k [2] (fun _ => []) [0, 4] (fun v10 => [(1, .rows 1 (rowsA rowI v10.1)), (2, .rows 1 (rowsA rowB v10.2.1)), (3, .rows 5 (rowsA MarkT.row v10.2.2))]) 71 fun _ => (.rows rfl (.rows rfl (.rows rfl .nil)))) (.ite 1150 (e1.kind == 1) (.sel 1151 (.ret (p4, p6, v9))) (.sel 1151 (.reg 0 (.b1 1246 (d_68a p1 p2 p3 p4 p5 p6 p7 v9 p9) (fun r10 => .c [0, 1, 2, 3] 4 (.tuple []) [(1, .rows 1 (rowsA rowI r10.1)), (2, .rows 1 (rowsA rowB r10.2.1)), (3, .rows 5 (rowsA MarkT.row r10.2.2))] 0) (fun r10 hr10 => (call_side (t_68a p1 p2 p3 p4 p5 p6 p7 v9 p9 r10 hr10) [0, 1, 2, 3] 73 (.drop rfl rfl (.keep (.keep (.keep .nil)))) (rhR (rhI (rhI (rhI rhN)))) (rhI (rhI (rhI rhN))))) fun r10 => .use 2 1246 (.ret (r10.1, r10.2.1, r10.2.2)))))) fun v10 => .reg 0 (.b1 1248 (d_69a p2 p3 v10.1 p5 v10.2.1 p7 v10.2.2 p9) (fun r11 => .c [0, 1, 2, 3] 4 (.tuple []) [(3, .rows 5 (rowsA MarkT.row r11))] 0) (fun r11 hr11 => (call_side (t_69a p2 p3 v10.1 p5 v10.2.1 p7 v10.2.2 p9 r11 hr11) [0, 1, 2, 3] 72 (.drop rfl rfl (.drop rfl rfl (.drop rfl rfl (.keep .nil)))) (rhR (rhI (rhI (rhI rhN)))) (rhI rhN))) fun r11 => .use 1 1248 (.ret (v10.1, v10.2.1, r11)))))))))
theorem t_60a (p1 : Int) (p2 : ContractT) (p3 : Int) (p4 : List Int) (p5 : Nat) (p6 : List Bool) (p7 : Nat) (p8 : List MarkT) (p9 : Nat) (res : (List Int) × (List Bool) × (List MarkT)) (hd : d_60a p1 p2 p3 p4 p5 p6 p7 p8 p9 = some res) : DOk C0 60 [.ptr 0 0 0, vI p1] [(0, .rows 11 [[vI p2.parties, .imm (.slice (List.map rowI p2.holders)), .imm (.slice (List.map UnitT.row p2.units)), .imm (.slice (List.map ActT.row p2.acts)), .imm (.slice (List.map ClauseT.row p2.clauses)), vI p2.days, .imm (.slice (List.map rowI p2.off)), vI p3, .mslice 1 0 p5, .mslice 2 0 p7, .mslice 3 0 p9]]), (1, .rows 1 (rowsA rowI p4)), (2, .rows 1 (rowsA rowB p6)), (3, .rows 5 (rowsA MarkT.row p8))] 4 (.tuple []) [(0, .rows 11 [[vI p2.parties, .imm (.slice (List.map rowI p2.holders)), .imm (.slice (List.map UnitT.row p2.units)), .imm (.slice (List.map ActT.row p2.acts)), .imm (.slice (List.map ClauseT.row p2.clauses)), vI p2.days, .imm (.slice (List.map rowI p2.off)), vI p3, .mslice 1 0 p5, .mslice 2 0 p7, .mslice 3 0 p9]]), (1, .rows 1 (rowsA rowI res.1)), (2, .rows 1 (rowsA rowB res.2.1)), (3, .rows 5 (rowsA MarkT.row res.2.2))] 0 :=
  Plan.det (R := fun res => .tuple []) (H := fun res => [(0, .rows 11 [[vI p2.parties, .imm (.slice (List.map rowI p2.holders)), .imm (.slice (List.map UnitT.row p2.units)), .imm (.slice (List.map ActT.row p2.acts)), .imm (.slice (List.map ClauseT.row p2.clauses)), vI p2.days, .imm (.slice (List.map rowI p2.off)), vI p3, .mslice 1 0 p5, .mslice 2 0 p7, .mslice 3 0 p9]]), (1, .rows 1 (rowsA rowI res.1)), (2, .rows 1 (rowsA rowB res.2.1)), (3, .rows 5 (rowsA MarkT.row res.2.2))]) (p_60a p1 p2 p3 p4 p5 p6 p7 p8 p9) (.exp rfl rfl (.rows rfl (.rows rfl (.rows rfl .nil)))) (fun _ => (.exp rfl rfl (.rows rfl (.rows rfl (.rows rfl .nil))))) (by kernel_rfl) (fun _ => by kernel_rfl) (by kernel_rfl) (Plan.run_of hd (by kernel_rfl))

noncomputable def d_Step (c : ContractT) (s : StateT) (step : Int) : Option (StateT × Int) :=
  (Option.bind (Option.bind (d_ValidS c s) fun r1 => (bif r1 then (bif decide (step < (-1)) then some true else some (decide ((c.acts.length : Int) ≤ step))) else some true)) fun v1 => (bif v1 then some (({ day := 0, holders := [], used := [], marks := [] } : StateT), 1) else (bif (s.day == c.days) then some (({ day := 0, holders := [], used := [], marks := [] } : StateT), 13) else (Option.bind (mkN 8 (s.holders.length : Int)) fun k1 => (Option.bind (mkN 1 (s.used.length : Int)) fun k2 => (Option.bind (mkN 40 (s.marks.length : Int)) fun k3 => (Option.bind (copyI (α := Int) k1 (List.replicate k1 0) s.holders) fun e1 => (Option.bind (copyI (α := Bool) k2 (List.replicate k2 false) s.used) fun e2 => (Option.bind (copyI (α := MarkT) k3 (List.replicate k3 ({ status := 0, left := 0, got := 0, bearer := 0, paused := false } : MarkT)) s.marks) fun e3 => (Option.bind (bif (step == (-1)) then (Option.bind (d_70a c s.day e1 k1 e2 k2 e3 k3) fun r2 => some (e1, e2, r2, (IntKind.i64.wrap (s.day + 1)))) else (Option.bind (d_60a step c s.day e1 k1 e2 k2 e3 k3) fun r3 => some (r3.1, r3.2.1, r3.2.2, s.day))) fun (v2 : (List Int) × (List Bool) × (List MarkT) × Int) => (Option.bind (eqN k1 v2.1.length) fun g1 => (Option.bind (eqN k2 v2.2.1.length) fun g2 => (Option.bind (eqN k3 v2.2.2.1.length) fun g3 => some (({ day := v2.2.2.2, holders := v2.1, used := v2.2.1, marks := v2.2.2.1 } : StateT), 0))))))))))))))
noncomputable def p_Step (c : ContractT) (s : StateT) (step : Int) : Plan (StateT × Int) :=
  .cut (β := Bool) 3 (.e [2, 3, 4, 6] (fun v1 => [(23, vB v1)]) [0, 1, 2] 19) (.reg 0 (.call 1250 (t_ValidS c s) fun r1 => .ite 892 r1 (.ite 894 (decide (step < (-1))) (.us [(2, 1250), (5, 893), (9, 894)] (.ret true)) (.us [(2, 1250), (5, 893), (9, 894)] (.ln 1252 ActT.row c.acts (.use 12 1252 (.ret (decide ((c.acts.length : Int) ≤ step))))))) (.us [(2, 1250), (5, 893)] (.f1 1254 (.g true) (rfl : true = true) (.use 9 1254 (.ret true)))))) fun v1 => .ite 896 v1 (.sel 896 (.ret (({ day := 0, holders := [], used := [], marks := [] } : StateT), 1))) (.sel 896 (.ite 898 (s.day == c.days) (.sel 898 (.ret (({ day := 0, holders := [], used := [], marks := [] } : StateT), 13))) (.sel 898 (.reg 0 (.b1 1256 (mkN 8 (s.holders.length : Int)) (fun k1 => .m k1 (rowsA rowI (List.replicate k1 0))) (fun k1 hk1 => (mks_side rowI 0 hk1)) fun k1 => .b1 1258 (mkN 1 (s.used.length : Int)) (fun k2 => .m k2 (rowsA rowB (List.replicate k2 false))) (fun k2 hk2 => (mks_side rowB false hk2)) fun k2 => .b1 1260 (mkN 40 (s.marks.length : Int)) (fun k3 => .m k3 (rowsA MarkT.row (List.replicate k3 ({ status := 0, left := 0, got := 0, bearer := 0, paused := false } : MarkT)))) (fun k3 hk3 => (mks_side MarkT.row ({ status := 0, left := 0, got := 0, bearer := 0, paused := false } : MarkT) hk3)) fun k3 => .ln 1276 rowI s.holders (.us [(5, 1276), (6, 1256)] (.ln 1274 rowB s.used (.us [(9, 1274), (10, 1258)] (.ln 1272 MarkT.row s.marks (.us [(13, 1272), (14, 1260)] (.reg 0 (.b1 1262 (copyI (α := Int) k1 (List.replicate k1 0) s.holders) (fun e1 => .b (rowsA rowI e1) 0) (fun e1 he1 => (copy_side rowI 1 (fun _ => rfl) he1)) fun e1 => .use 7 1262 (.reg 0 (.b1 1264 (copyI (α := Bool) k2 (List.replicate k2 false) s.used) (fun e2 => .b (rowsA rowB e2) 0) (fun e2 he2 => (copy_side rowB 1 (fun _ => rfl) he2)) fun e2 => .use 7 1264 (.reg 0 (.b1 1266 (copyI (α := MarkT) k3 (List.replicate k3 ({ status := 0, left := 0, got := 0, bearer := 0, paused := false } : MarkT)) s.marks) (fun e3 => .b (rowsA MarkT.row e3) 0) (fun e3 he3 => (copy_side MarkT.row 5 (fun _ => rfl) he3)) fun e3 => .use 7 1266 (.cut (β := (List Int) × (List Bool) × (List MarkT) × Int) 1 (.k [6, 8] (fun _ => []) [2] (fun v2 => [(30, .rows 1 (rowsA rowI v2.1)), (34, .rows 1 (rowsA rowB v2.2.1)), (38, .rows 5 (rowsA MarkT.row v2.2.2.1)), (41, .rows 11 [[vI c.parties, .imm (.slice (List.map rowI c.holders)), .imm (.slice (List.map UnitT.row c.units)), .imm (.slice (List.map ActT.row c.acts)), .imm (.slice (List.map ClauseT.row c.clauses)), vI c.days, .imm (.slice (List.map rowI c.off)), vI v2.2.2.2, .mslice 30 0 k1, .mslice 34 0 k2, .mslice 38 0 k3]])]) 71 fun _ => (.rows rfl (.rows rfl (.rows rfl (.exp rfl rfl .nil))))) (.ite 900 (step == (-1)) (.sel 900 (.reg 0 (.b1 1268 (d_70a c s.day e1 k1 e2 k2 e3 k3) (fun r2 => .c [41, 30, 34, 38] 4 (.tuple []) [(41, .rows 11 [[vI c.parties, .imm (.slice (List.map rowI c.holders)), .imm (.slice (List.map UnitT.row c.units)), .imm (.slice (List.map ActT.row c.acts)), .imm (.slice (List.map ClauseT.row c.clauses)), vI c.days, .imm (.slice (List.map rowI c.off)), vI (IntKind.i64.wrap (s.day + 1)), .mslice 30 0 k1, .mslice 34 0 k2, .mslice 38 0 k3]]), (38, .rows 5 (rowsA MarkT.row r2))] 0) (fun r2 hr2 => (call_side (t_70a c s.day e1 k1 e2 k2 e3 k3 r2 hr2) [41, 30, 34, 38] 70 (.keep (.drop rfl rfl (.drop rfl rfl (.keep .nil)))) (rhR (rhI (rhI (rhI rhN)))) (rhR (rhI rhN)))) fun r2 => .use 1 1268 (.ret (e1, e2, r2, (IntKind.i64.wrap (s.day + 1))))))) (.sel 900 (.reg 0 (.b1 1270 (d_60a step c s.day e1 k1 e2 k2 e3 k3) (fun r3 => .c [41, 30, 34, 38] 4 (.tuple []) [(30, .rows 1 (rowsA rowI r3.1)), (34, .rows 1 (rowsA rowB r3.2.1)), (38, .rows 5 (rowsA MarkT.row r3.2.2))] 0) (fun r3 hr3 => (call_side (t_60a step c s.day e1 k1 e2 k2 e3 k3 r3 hr3) [41, 30, 34, 38] 71 (.drop rfl rfl (.keep (.keep (.keep .nil)))) (rhR (rhI (rhI (rhI rhN)))) (rhI (rhI (rhI rhN))))) fun r3 => .use 2 1270 (.ret (r3.1, r3.2.1, r3.2.2, s.day)))))) fun v2 => .bind (eqN k1 v2.1.length) (fun _ => []) (fun _ _ => .nil) fun g4 => .bind (eqN k2 v2.2.1.length) (fun _ => []) (fun _ _ => .nil) fun g5 => .bind (eqN k3 v2.2.2.1.length) (fun _ => []) (fun _ _ => .nil) fun g6 => .fin [30, 34, 38] (.tuple [.agg [vI v2.2.2.2, .mslice 30 0 k1, .mslice 34 0 k2, .mslice 38 0 k3], vI 0]) [(30, .rows 1 (rowsA rowI v2.1)), (34, .rows 1 (rowsA rowB v2.2.1)), (38, .rows 5 (rowsA MarkT.row v2.2.2.1))] (.tuple [.agg (StateT.row ((({ day := v2.2.2.2, holders := v2.1, used := v2.2.1, marks := v2.2.2.1 } : StateT), 0).1)), .int .i64 ((({ day := v2.2.2.2, holders := v2.1, used := v2.2.1, marks := v2.2.2.1 } : StateT), 0).2)]) (snap_of _ _ _ (snapC (snapT (snapC (snapA (snapC (snapI _) (snapC (snapE rowI 30 1 k1 v2.1 g4.down rfl) (snapC (snapE rowB 34 1 k2 v2.2.1 g5.down rfl) (snapC (snapE MarkT.row 38 5 k3 v2.2.2.1 g6.down rfl) snapN))))) (snapC (snapI _) snapN))) snapN)) (({ day := v2.2.2.2, holders := v2.1, used := v2.2.1, marks := v2.2.2.1 } : StateT), 0))))))))))))))))))
theorem t_Step (c : ContractT) (s : StateT) (step : Int) (res : StateT × Int) (hd : d_Step c s step = some res) : APure C0 101 [.agg (ContractT.row c), .agg (StateT.row s), .int .i64 step] (.tuple [.agg (StateT.row res.1), .int .i64 res.2]) :=
  Plan.pure (iv := fun res => .tuple [.agg (StateT.row res.1), .int .i64 res.2]) (p_Step c s step) (by kernel_rfl) (Plan.run_of hd (by kernel_rfl))

noncomputable def d_EqI (a : List Int) (b : List Int) : Option Bool :=
  (bif ((a.length : Int) == (b.length : Int)) then (Option.bind (forR (σ := Unit) (ρ := Unit) (a.length : Int) (fun i1 s1 => (Option.bind (idxI a (i1 : Int)) fun e1 => (Option.bind (idxI b (i1 : Int)) fun e2 => (bif (e1 == e2) then some (.inl ()) else some (.inr ()))))) ()) (Sum.elim (fun (s1 : Unit) => some true) (fun (y1 : Unit) => some false))) else some false)
noncomputable def p_EqI (a : List Int) (b : List Int) : Plan Bool :=
  .reg 1 (.ln 1304 rowI a (.use 1 1304 (.ln 1302 rowI b (.use 3 1302 (.ite 1290 ((a.length : Int) == (b.length : Int)) (.sel 1291 (.reg 0 (.ln 1300 rowI a (.use 1 1300 (.forR (σ := Unit) (ρ := Unit) 1292 13 (a.length : Int) () (.e [0, 1, 12] (fun _ => []) [] 9) (fun i1 s1 => .sel 1292 (.reg 1 (.ix 1296 rowI a (i1 : Int) fun e1 => .ix 1298 rowI b (i1 : Int) fun e2 => .us [(2, 1296), (6, 1298)] (.ite 1294 (e1 == e2) (.sel 1295 (.ret (.inl ()))) (.sel 1295 (.ret (.inr ()))))))) fun os1 => .case os1 (fun s1 => .sel 1292 (.ret true)) fun y1 => .ret false))))) (.sel 1291 (.ret false)))))))
theorem t_EqI (a : List Int) (b : List Int) (res : Bool) (hd : d_EqI a b = some res) : APure C0 125 [.slice (List.map rowI a), .slice (List.map rowI b)] (.bool res) :=
  Plan.pure (iv := fun res => .bool res) (p_EqI a b) (by kernel_rfl) (Plan.run_of hd (by kernel_rfl))

noncomputable def d_EqB (a : List Bool) (b : List Bool) : Option Bool :=
  (bif ((a.length : Int) == (b.length : Int)) then (Option.bind (forR (σ := Unit) (ρ := Unit) (a.length : Int) (fun i1 s1 => (Option.bind (idxI a (i1 : Int)) fun e1 => (Option.bind (idxI b (i1 : Int)) fun e2 => (bif (e1 == e2) then some (.inl ()) else some (.inr ()))))) ()) (Sum.elim (fun (s1 : Unit) => some true) (fun (y1 : Unit) => some false))) else some false)
noncomputable def p_EqB (a : List Bool) (b : List Bool) : Plan Bool :=
  .reg 1 (.ln 1322 rowB a (.use 1 1322 (.ln 1320 rowB b (.use 3 1320 (.ite 1308 ((a.length : Int) == (b.length : Int)) (.sel 1309 (.reg 0 (.ln 1318 rowB a (.use 1 1318 (.forR (σ := Unit) (ρ := Unit) 1310 13 (a.length : Int) () (.e [0, 1, 12] (fun _ => []) [] 9) (fun i1 s1 => .sel 1310 (.reg 1 (.ix 1314 rowB a (i1 : Int) fun e1 => .ix 1316 rowB b (i1 : Int) fun e2 => .us [(2, 1314), (6, 1316)] (.ite 1312 (e1 == e2) (.sel 1313 (.ret (.inl ()))) (.sel 1313 (.ret (.inr ()))))))) fun os1 => .case os1 (fun s1 => .sel 1310 (.ret true)) fun y1 => .ret false))))) (.sel 1309 (.ret false)))))))
theorem t_EqB (a : List Bool) (b : List Bool) (res : Bool) (hd : d_EqB a b = some res) : APure C0 123 [.slice (List.map rowB a), .slice (List.map rowB b)] (.bool res) :=
  Plan.pure (iv := fun res => .bool res) (p_EqB a b) (by kernel_rfl) (Plan.run_of hd (by kernel_rfl))

noncomputable def d_EqM (a : List MarkT) (b : List MarkT) : Option Bool :=
  (bif ((a.length : Int) == (b.length : Int)) then (Option.bind (forR (σ := Unit) (ρ := Unit) (a.length : Int) (fun i1 s1 => (Option.bind (idxI a (i1 : Int)) fun e1 => (Option.bind (idxI b (i1 : Int)) fun e2 => (bif ((e1.status == e2.status) && ((e1.left == e2.left) && ((e1.got == e2.got) && ((e1.bearer == e2.bearer) && ((e1.paused == e2.paused) && true))))) then some (.inl ()) else some (.inr ()))))) ()) (Sum.elim (fun (s1 : Unit) => some true) (fun (y1 : Unit) => some false))) else some false)
noncomputable def p_EqM (a : List MarkT) (b : List MarkT) : Plan Bool :=
  .reg 1 (.ln 1340 MarkT.row a (.use 1 1340 (.ln 1338 MarkT.row b (.use 3 1338 (.ite 1326 ((a.length : Int) == (b.length : Int)) (.sel 1327 (.reg 0 (.ln 1336 MarkT.row a (.use 1 1336 (.forR (σ := Unit) (ρ := Unit) 1328 13 (a.length : Int) () (.e [0, 1, 12] (fun _ => []) [] 9) (fun i1 s1 => .sel 1328 (.reg 1 (.ix 1332 MarkT.row a (i1 : Int) fun e1 => .ix 1334 MarkT.row b (i1 : Int) fun e2 => .us [(2, 1332), (6, 1334)] (.ite 1330 ((e1.status == e2.status) && ((e1.left == e2.left) && ((e1.got == e2.got) && ((e1.bearer == e2.bearer) && ((e1.paused == e2.paused) && true))))) (.sel 1331 (.ret (.inl ()))) (.sel 1331 (.ret (.inr ()))))))) fun os1 => .case os1 (fun s1 => .sel 1328 (.ret true)) fun y1 => .ret false))))) (.sel 1327 (.ret false)))))))
theorem t_EqM (a : List MarkT) (b : List MarkT) (res : Bool) (hd : d_EqM a b = some res) : APure C0 124 [.slice (List.map MarkT.row a), .slice (List.map MarkT.row b)] (.bool res) :=
  Plan.pure (iv := fun res => .bool res) (p_EqM a b) (by kernel_rfl) (Plan.run_of hd (by kernel_rfl))

noncomputable def d_SameS (a : StateT) (b : StateT) : Option Bool :=
  (Option.bind (bif (a.day == b.day) then (Option.bind (d_EqI a.holders b.holders) fun r1 => (bif r1 then (Option.bind (d_EqB a.used b.used) fun r2 => (bif r2 then (Option.bind (d_EqM a.marks b.marks) fun r3 => some r3) else some false)) else some false)) else some false) fun v1 => some v1)
noncomputable def p_SameS (a : StateT) (b : StateT) : Plan Bool :=
  .cut (β := Bool) 2 (.e [] (fun v1 => [(4, vB v1)]) [0, 1] 30) (.reg 0 (.ite 1288 (a.day == b.day) (.call 1342 (t_EqI a.holders b.holders) fun r1 => .ite 1306 r1 (.call 1344 (t_EqB a.used b.used) fun r2 => .ite 1324 r2 (.call 1346 (t_EqM a.marks b.marks) fun r3 => .us [(6, 1288), (10, 1342), (13, 1306), (17, 1344), (20, 1324), (24, 1346)] (.ret r3)) (.us [(6, 1288), (10, 1342), (13, 1306), (17, 1344), (20, 1324)] (.ret false))) (.us [(6, 1288), (10, 1342), (13, 1306)] (.f1 1348 (.g false) (rfl : false = false) (.use 20 1348 (.ret false))))) (.use 6 1288 (.f1 1352 (.g false) (rfl : false = false) (.use 13 1352 (.f1 1350 (.g false) (rfl : false = false) (.use 20 1350 (.ret false)))))))) fun v1 => .ret v1
theorem t_SameS (a : StateT) (b : StateT) (res : Bool) (hd : d_SameS a b = some res) : APure C0 99 [.agg (StateT.row a), .agg (StateT.row b)] (.bool res) :=
  Plan.pure (iv := fun res => .bool res) (p_SameS a b) (by kernel_rfl) (Plan.run_of hd (by kernel_rfl))

noncomputable def d_From (c : ContractT) (party : Int) (p : PosT) : Option (ArenaT × Int) :=
  (Option.bind (d_playable c party p) fun r1 => (bif r1 then (Option.bind (d_copied p.state) fun r2 => (Option.bind (d_text p) fun r3 => (Option.bind (α := ((List PosT) × (List (List MoveT))) ⊕ Unit) (Option.bind (iter (σ := Int × (List PosT) × (List (List MoveT)) × (List (ByteArray × Int))) (ρ := ((List PosT) × (List (List MoveT))) ⊕ Unit) (fun s1 => (bif decide (s1.1 < (s1.2.1.length : Int)) then (Option.bind (α := ((List PosT) × (List (ByteArray × Int)) × (List MoveT)) ⊕ Unit) (Option.bind (idxI s1.2.1 s1.1) fun e1 => (Option.bind (d_78b c party e1) fun r4 => (Option.bind (α := ((List PosT) × (List (ByteArray × Int)) × (List MoveT)) ⊕ (Unit ⊕ ((List PosT) × (List (ByteArray × Int)) × (List MoveT)))) (bif e1.own then (Option.bind (d_copied e1.state) fun r5 => (Option.bind (d_text ({ state := r5, own := false } : PosT)) fun r6 => (Option.bind (α := (Int × (List PosT) × (List (ByteArray × Int))) ⊕ Unit) (bif ((mget r6 s1.2.2.2).isSome) then some (.inl (((mget r6 s1.2.2.2).getD 0), s1.2.1, s1.2.2.2)) else (bif ((s1.2.1.length : Int) == 1500) then some (.inr ()) else (Option.bind (appI (α := PosT) 88 s1.2.1 [({ state := r5, own := false } : PosT)]) fun e2 => some (.inl ((s1.2.1.length : Int), e2, (mset r6 (s1.2.1.length : Int) s1.2.2.2)))))) (Sum.elim (fun (v1 : Int × (List PosT) × (List (ByteArray × Int))) => (Option.bind (appI (α := MoveT) 16 [] [({ step := (-2), to := v1.1 } : MoveT)]) fun e3 => (bif decide (c.days ≤ e1.state.day) then some (.inr (.inr (v1.2.1, v1.2.2, e3))) else some (.inl (v1.2.1, v1.2.2, e3))))) (fun (y1 : Unit) => some (.inr (.inl ()))))))) else (bif decide (c.days ≤ e1.state.day) then some (.inr (.inr (s1.2.1, s1.2.2.2, []))) else some (.inl (s1.2.1, s1.2.2.2, [])))) (Sum.elim (fun (v2 : (List PosT) × (List (ByteArray × Int)) × (List MoveT)) => (Option.bind (α := ((List PosT) × (List (ByteArray × Int)) × (List MoveT)) ⊕ Unit) (bif e1.own then some (.inl (v2.1, v2.2.1, v2.2.2)) else (Option.bind (d_Step c e1.state (-1)) fun r7 => (Option.bind (d_text ({ state := r7.1, own := true } : PosT)) fun r8 => (Option.bind (α := (Int × (List PosT) × (List (ByteArray × Int))) ⊕ Unit) (bif ((mget r8 v2.2.1).isSome) then some (.inl (((mget r8 v2.2.1).getD 0), v2.1, v2.2.1)) else (bif ((v2.1.length : Int) == 1500) then some (.inr ()) else (Option.bind (appI (α := PosT) 88 v2.1 [({ state := r7.1, own := true } : PosT)]) fun e4 => some (.inl ((v2.1.length : Int), e4, (mset r8 (v2.1.length : Int) v2.2.1)))))) (Sum.elim (fun (v3 : Int × (List PosT) × (List (ByteArray × Int))) => (Option.bind (appI (α := MoveT) 16 v2.2.2 [({ step := (-1), to := v3.1 } : MoveT)]) fun e5 => some (.inl (v3.2.1, v3.2.2, e5)))) (fun (y4 : Unit) => some (.inr ()))))))) (Sum.elim (fun (v4 : (List PosT) × (List (ByteArray × Int)) × (List MoveT)) => (Option.bind (forR (σ := (List PosT) × (List (ByteArray × Int)) × (List MoveT)) (ρ := (List PosT) × (List (ByteArray × Int)) × (List MoveT)) (c.acts.length : Int) (fun i2 s2 => (Option.bind (α := ((List PosT) × (List (ByteArray × Int)) × (List MoveT)) ⊕ Unit) (Option.bind (idxI c.acts (i2 : Int)) fun e6 => (Option.bind (bif (e6.role == (-1)) then some (-1) else (Option.bind (idxI e1.state.holders e6.role) fun e7 => some e7)) fun (v5 : Int) => (bif ((v5 == party) == e1.own) then (Option.bind (d_Step c e1.state (i2 : Int)) fun r9 => (Option.bind (d_SameS r9.1 e1.state) fun r10 => (bif r10 then some (.inl (s2.1, s2.2.1, s2.2.2)) else (Option.bind (d_text ({ state := r9.1, own := true } : PosT)) fun r11 => (Option.bind (α := (Int × (List PosT) × (List (ByteArray × Int))) ⊕ Unit) (bif ((mget r11 s2.2.1).isSome) then some (.inl (((mget r11 s2.2.1).getD 0), s2.1, s2.2.1)) else (bif ((s2.1.length : Int) == 1500) then some (.inr ()) else (Option.bind (appI (α := PosT) 88 s2.1 [({ state := r9.1, own := true } : PosT)]) fun e8 => some (.inl ((s2.1.length : Int), e8, (mset r11 (s2.1.length : Int) s2.2.1)))))) (Sum.elim (fun (v6 : Int × (List PosT) × (List (ByteArray × Int))) => (Option.bind (appI (α := MoveT) 16 s2.2.2 [({ step := (i2 : Int), to := v6.1 } : MoveT)]) fun e9 => some (.inl (v6.2.1, v6.2.2, e9)))) (fun (y6 : Unit) => some (.inr ())))))))) else some (.inl (s2.1, s2.2.1, s2.2.2))))) (Sum.elim (fun (v7 : (List PosT) × (List (ByteArray × Int)) × (List MoveT)) => some (.inl (v7.1, v7.2.1, v7.2.2))) (fun (y7 : Unit) => some (.inr (s2.1, s2.2.1, s2.2.2)))))) (v4.1, v4.2.1, v4.2.2)) (Sum.elim (fun (s2 : (List PosT) × (List (ByteArray × Int)) × (List MoveT)) => some (.inl (s2.1, s2.2.1, s2.2.2))) (fun (y8 : (List PosT) × (List (ByteArray × Int)) × (List MoveT)) => some (.inr ()))))) (fun (y5 : Unit) => some (.inr ()))))) (Sum.elim (fun (y2 : Unit) => some (.inr ())) (fun (y3 : (List PosT) × (List (ByteArray × Int)) × (List MoveT)) => some (.inl (y3.1, y3.2.1, y3.2.2)))))))) (Sum.elim (fun (v8 : (List PosT) × (List (ByteArray × Int)) × (List MoveT)) => (Option.bind (appI (α := List MoveT) 24 s1.2.2.1 [v8.2.2]) fun e10 => some (.inl ((IntKind.i64.wrap (s1.1 + 1)), v8.1, e10, v8.2.1)))) (fun (y9 : Unit) => some (.inr (.inr ()))))) else some (.inr (.inl (s1.2.1, s1.2.2.1))))) (0, [({ state := r2, own := p.own } : PosT)], [], (mset r3 0 []))) (Sum.elim (fun (y10 : (List PosT) × (List (List MoveT))) => some (.inl (y10.1, y10.2))) (fun (y11 : Unit) => some (.inr ())))) (Sum.elim (fun (v9 : (List PosT) × (List (List MoveT))) => some (({ party := party, positions := v9.1, moves := v9.2 } : ArenaT), 0)) (fun (y12 : Unit) => some (({ party := 0, positions := [], moves := [] } : ArenaT), 3)))))) else some (({ party := 0, positions := [], moves := [] } : ArenaT), 1)))
noncomputable def p_From (c : ContractT) (party : Int) (p : PosT) : Plan (ArenaT × Int) :=
  .reg 1 (.call 1470 (t_playable c party p) fun r1 => .use 3 1470 (.ite 852 r1 (.sel 853 (.reg 0 (.call 1472 (t_copied p.state) fun r2 => .use 3 1472 (.reg 0 (.call 1474 (t_text p) fun r3 => .use 2 1474 (.f1 1540 (.u (entsA IV.str IV.i64 (mset r3 0 []))) (upd_sideS IV.i64 r3 0 []) (.use 3 1540 (.cutO (β := (List PosT) × (List (List MoveT))) (γ := Unit) 1 (.k [6, 7, 8] (fun _ => []) [2, 3] (fun v9 => [(18, .rows 3 [[vI party, .gslice 29 (List.map PosT.row v9.1), .gslice 28 (List.map (rowL MoveT.row) v9.2)]]), (28, .tip 1 v9.2.length), (29, .tip 5 v9.1.length)]) 30 fun _ => (.exp rfl rfl (.exp rfl rfl (.exp rfl rfl .nil)))) (.weak 2 [wNilO 18 1 0 2, wTipO 8 18 0 1 16 5 PosT.row [({ state := r2, own := p.own } : PosT)]] (.iter (σ := Int × (List PosT) × (List (List MoveT)) × (List (ByteArray × Int))) (ρ := ((List PosT) × (List (List MoveT))) ⊕ Unit) (0, [({ state := r2, own := p.own } : PosT)], [], (mset r3 0 [])) (.k [1, 3, 6, 7, 8, 9] (fun s1 => [(10, vI s1.1)]) [0, 2, 3, 25] (fun s1 => [(18, .rows 3 [[vI party, .gslice 29 (List.map PosT.row s1.2.1), .gslice 28 (List.map (rowL MoveT.row) s1.2.2.1)]]), (20, .map (entsA IV.str IV.i64 s1.2.2.2)), (28, .tip 1 s1.2.2.1.length), (29, .tip 5 s1.2.1.length)]) 30 fun _ => (.exp rfl rfl (.ents rfl (.exp rfl rfl (.exp rfl rfl .nil))))) (fun s1 => .reg 0 (.ln 1538 PosT.row s1.2.1 (.use 3 1538 (.ite 1420 (decide (s1.1 < (s1.2.1.length : Int))) (.sel 1420 (.cutO (β := (List PosT) × (List (ByteArray × Int)) × (List MoveT)) (γ := Unit) 4 (.k [1, 3, 6, 7, 8, 9, 10, 11] (fun _ => []) [0, 2, 3, 25, 28] (fun v8 => [(18, .rows 3 [[vI party, .gslice 29 (List.map PosT.row v8.1), .gslice 28 (List.map (rowL MoveT.row) s1.2.2.1)]]), (20, .map (entsA IV.str IV.i64 v8.2.1)), (29, .tip 5 v8.1.length), (35, .rows 1 [[.gslice 48 (List.map MoveT.row v8.2.2)]]), (48, .tip 2 v8.2.2.length)]) 69 fun _ => (.exp rfl rfl (.ents rfl (.exp rfl rfl (.exp rfl rfl (.exp rfl rfl .nil)))))) (.reg 0 (.ix 1478 PosT.row s1.2.1 s1.1 fun e1 => .b1 1480 (d_78b c party e1) (fun r4 => .c [] 0 (.func 79 [] [.ptr 46 0 0, .ptr 44 0 0, .ptr 45 0 0]) [(44, .rows 7 [rowA (ContractT.row c)]), (45, .rows 1 [[vI party]]), (46, .rows 5 [rowA (PosT.row e1)])] 3) (fun r4 hr4 => (call_side (t_78b c party e1 r4 hr4) [] 44 (.keep (.keep (.keep .nil))) rhN (rhR (rhR (rhR rhN))))) fun r4 => .us [(5, 1478), (7, 1480)] (.weak 2 [wNilO 35 2 0 0] (.cutO (β := (List PosT) × (List (ByteArray × Int)) × (List MoveT)) (γ := Unit ⊕ ((List PosT) × (List (ByteArray × Int)) × (List MoveT))) 1 (.k [0, 1, 2, 3] (fun _ => []) [0, 2, 3, 25, 28, 46, 45, 44, 47] (fun v2 => [(18, .rows 3 [[vI party, .gslice 29 (List.map PosT.row v2.1), .gslice 28 (List.map (rowL MoveT.row) s1.2.2.1)]]), (20, .map (entsA IV.str IV.i64 v2.2.1)), (29, .tip 5 v2.1.length), (35, .rows 1 [[.gslice 48 (List.map MoveT.row v2.2.2)]]), (48, .tip 2 v2.2.2.length)]) 68 fun _ => (.exp rfl rfl (.ents rfl (.exp rfl rfl (.exp rfl rfl (.exp rfl rfl .nil)))))) (.reg 0 (.ite 1432 e1.own (.call 1518 (t_copied e1.state) fun r5 => .us [(3, 1432), (6, 1518)] (.reg 2 (.call 1520 (t_text ({ state := r5, own := false } : PosT)) fun r6 => .use 1 1520 (.reg 0 (.f1 1534 (.l (vI ((mget r6 s1.2.2.2).getD 0)) ((mget r6 s1.2.2.2).isSome)) (look_sideS IV.i64 0 r6 s1.2.2.2) (.use 2 1534 (.cutO (β := Int × (List PosT) × (List (ByteArray × Int))) (γ := Unit) 1 (.k [11, 12] (fun v1 => [(15, vI v1.1)]) [0, 2, 3, 25, 28, 35, 46, 45, 44, 47, 48] (fun v1 => [(18, .rows 3 [[vI party, .gslice 29 (List.map PosT.row v1.2.1), .gslice 28 (List.map (rowL MoveT.row) s1.2.2.1)]]), (20, .map (entsA IV.str IV.i64 v1.2.2)), (29, .tip 5 v1.2.1.length)]) 74 fun _ => (.exp rfl rfl (.ents rfl (.exp rfl rfl .nil)))) (.ite 1434 ((mget r6 s1.2.2.2).isSome) (.sel 1435 (.ret (.inl (((mget r6 s1.2.2.2).getD 0), s1.2.1, s1.2.2.2)))) (.sel 1435 (.reg 0 (.ln 1532 PosT.row s1.2.1 (.use 2 1532 (.ite 1436 ((s1.2.1.length : Int) == 1500) (.sel 1436 (.ret (.inr ()))) (.sel 1436 (.reg 0 (.f1 1530 (.u (entsA IV.str IV.i64 (mset r6 (s1.2.1.length : Int) s1.2.2.2))) (upd_sideS IV.i64 r6 (s1.2.1.length : Int) s1.2.2.2) (.use 3 1530 (.reg 0 (.b1 1528 (appI (α := PosT) 88 s1.2.1 [({ state := r5, own := false } : PosT)]) (fun e2 => .a (List.map PosT.row e2) e2.length) (fun e2 he2 => (app_side PosT.row 5 88 (fun _ => rfl) he2)) fun e2 => .use 4 1528 (.ret (.inl ((s1.2.1.length : Int), e2, (mset r6 (s1.2.1.length : Int) s1.2.2.2)))))))))))))))) fun o_v1 => .case o_v1 (fun v1 => .reg 0 (.b1 1524 (appI (α := MoveT) 16 [] [({ step := (-2), to := v1.1 } : MoveT)]) (fun e3 => .a (List.map MoveT.row e3) e3.length) (fun e3 he3 => (app_side MoveT.row 2 16 (fun _ => rfl) he3)) fun e3 => .use 5 1524 (.f1 1526 (.g false) (rfl : (!true) = false) (.use 12 1526 (.ite 1438 (decide (c.days ≤ e1.state.day)) (.sel 1438 (.ret (.inr (.inr (v1.2.1, v1.2.2, e3))))) (.sel 1438 (.ret (.inl (v1.2.1, v1.2.2, e3))))))))) fun y1 => .f1 1522 (.g true) (rfl : (!false) = true) (.use 12 1522 (.ret (.inr (.inl ()))))))))))) (.use 3 1432 (.f1 1536 (.g false) (rfl : false = false) (.use 12 1536 (.ite 1440 (decide (c.days ≤ e1.state.day)) (.sel 1440 (.ret (.inr (.inr (s1.2.1, s1.2.2.2, []))))) (.sel 1440 (.ret (.inl (s1.2.1, s1.2.2.2, [])))))))))) fun o_v2 => .case o_v2 (fun v2 => .cutO (β := (List PosT) × (List (ByteArray × Int)) × (List MoveT)) (γ := Unit) 1 (.k [0, 1, 2, 3] (fun _ => []) [0, 2, 3, 25, 28, 46, 45, 44, 47] (fun v4 => [(18, .rows 3 [[vI party, .gslice 29 (List.map PosT.row v4.1), .gslice 28 (List.map (rowL MoveT.row) s1.2.2.1)]]), (20, .map (entsA IV.str IV.i64 v4.2.1)), (29, .tip 5 v4.1.length), (35, .rows 1 [[.gslice 48 (List.map MoveT.row v4.2.2)]]), (48, .tip 2 v4.2.2.length)]) 71 fun _ => (.exp rfl rfl (.ents rfl (.exp rfl rfl (.exp rfl rfl (.exp rfl rfl .nil)))))) (.ite 1442 e1.own (.sel 1443 (.ret (.inl (v2.1, v2.2.1, v2.2.2)))) (.sel 1443 (.reg 0 (.call 1504 (t_Step c e1.state (-1)) fun r7 => .use 3 1504 (.reg 0 (.reg 2 (.call 1506 (t_text ({ state := r7.1, own := true } : PosT)) fun r8 => .use 1 1506 (.reg 0 (.f1 1516 (.l (vI ((mget r8 v2.2.1).getD 0)) ((mget r8 v2.2.1).isSome)) (look_sideS IV.i64 0 r8 v2.2.1) (.use 2 1516 (.cutO (β := Int × (List PosT) × (List (ByteArray × Int))) (γ := Unit) 1 (.k [11, 12] (fun v3 => [(15, vI v3.1)]) [0, 2, 3, 25, 28, 35, 46, 45, 44, 47, 48, 78] (fun v3 => [(18, .rows 3 [[vI party, .gslice 29 (List.map PosT.row v3.2.1), .gslice 28 (List.map (rowL MoveT.row) s1.2.2.1)]]), (20, .map (entsA IV.str IV.i64 v3.2.2)), (29, .tip 5 v3.2.1.length)]) 101 fun _ => (.exp rfl rfl (.ents rfl (.exp rfl rfl .nil)))) (.ite 1444 ((mget r8 v2.2.1).isSome) (.sel 1445 (.ret (.inl (((mget r8 v2.2.1).getD 0), v2.1, v2.2.1)))) (.sel 1445 (.reg 0 (.ln 1514 PosT.row v2.1 (.use 2 1514 (.ite 1446 ((v2.1.length : Int) == 1500) (.sel 1446 (.ret (.inr ()))) (.sel 1446 (.reg 0 (.f1 1512 (.u (entsA IV.str IV.i64 (mset r8 (v2.1.length : Int) v2.2.1))) (upd_sideS IV.i64 r8 (v2.1.length : Int) v2.2.1) (.use 3 1512 (.reg 0 (.b1 1510 (appI (α := PosT) 88 v2.1 [({ state := r7.1, own := true } : PosT)]) (fun e4 => .a (List.map PosT.row e4) e4.length) (fun e4 he4 => (app_side PosT.row 5 88 (fun _ => rfl) he4)) fun e4 => .use 4 1510 (.ret (.inl ((v2.1.length : Int), e4, (mset r8 (v2.1.length : Int) v2.2.1)))))))))))))))) fun o_v3 => .case o_v3 (fun v3 => .reg 0 (.b1 1508 (appI (α := MoveT) 16 v2.2.2 [({ step := (-1), to := v3.1 } : MoveT)]) (fun e5 => .a (List.map MoveT.row e5) e5.length) (fun e5 he5 => (app_side MoveT.row 2 16 (fun _ => rfl) he5)) fun e5 => .use 5 1508 (.ret (.inl (v3.2.1, v3.2.2, e5))))) fun y4 => .ret (.inr ())))))))))))) fun o_v4 => .case o_v4 (fun v4 => .reg 0 (.ln 1502 ActT.row c.acts (.use 2 1502 (.forR (σ := (List PosT) × (List (ByteArray × Int)) × (List MoveT)) (ρ := (List PosT) × (List (ByteArray × Int)) × (List MoveT)) 1448 49 (c.acts.length : Int) (v4.1, v4.2.1, v4.2.2) (.k [0, 1, 2, 3, 47, 48] (fun _ => []) [0, 2, 3, 25, 28, 46, 45, 44, 47] (fun s2 => [(18, .rows 3 [[vI party, .gslice 29 (List.map PosT.row s2.1), .gslice 28 (List.map (rowL MoveT.row) s1.2.2.1)]]), (20, .map (entsA IV.str IV.i64 s2.2.1)), (29, .tip 5 s2.1.length), (35, .rows 1 [[.gslice 48 (List.map MoveT.row s2.2.2)]]), (48, .tip 2 s2.2.2.length)]) 75 fun _ => (.exp rfl rfl (.ents rfl (.exp rfl rfl (.exp rfl rfl (.exp rfl rfl .nil)))))) (fun i2 s2 => .sel 1448 (.cutO (β := (List PosT) × (List (ByteArray × Int)) × (List MoveT)) (γ := Unit) 1 (.k [0, 1, 2, 3, 47, 48, 49] (fun _ => []) [0, 2, 3, 25, 28, 46, 45, 44, 47] (fun v7 => [(18, .rows 3 [[vI party, .gslice 29 (List.map PosT.row v7.1), .gslice 28 (List.map (rowL MoveT.row) s1.2.2.1)]]), (20, .map (entsA IV.str IV.i64 v7.2.1)), (29, .tip 5 v7.1.length), (35, .rows 1 [[.gslice 48 (List.map MoveT.row v7.2.2)]]), (48, .tip 2 v7.2.2.length)]) 92 fun _ => (.exp rfl rfl (.ents rfl (.exp rfl rfl (.exp rfl rfl (.exp rfl rfl .nil)))))) (.reg 0 (.ix 1482 ActT.row c.acts (i2 : Int) fun e6 => .use 1 1482 (.cut (β := Int) 2 (.k [0, 1, 2, 3, 47, 48, 49, 7] (fun v5 => [(9, vI v5)]) [0, 2, 3, 18, 25, 28, 29, 35, 46, 45, 44, 47, 48] (fun _ => [(20, .map (entsA IV.str IV.i64 s2.2.1))]) 86 fun _ => (.ents rfl .nil)) (.ite 1460 (e6.role == (-1)) (.sel 1461 (.ret (-1))) (.sel 1461 (.reg 0 (.ix 1484 rowI e1.state.holders e6.role fun e7 => .use 5 1484 (.ret e7))))) fun v5 => .ite 1462 ((v5 == party) == e1.own) (.sel 1463 (.reg 0 (.call 1486 (t_Step c e1.state (i2 : Int)) fun r9 => .use 4 1486 (.reg 0 (.call 1488 (t_SameS r9.1 e1.state) fun r10 => .ite 1464 r10 (.us [(3, 1488), (6, 1465)] (.ret (.inl (s2.1, s2.2.1, s2.2.2)))) (.us [(3, 1488), (6, 1465)] (.reg 2 (.call 1490 (t_text ({ state := r9.1, own := true } : PosT)) fun r11 => .use 1 1490 (.reg 0 (.f1 1500 (.l (vI ((mget r11 s2.2.1).getD 0)) ((mget r11 s2.2.1).isSome)) (look_sideS IV.i64 0 r11 s2.2.1) (.use 2 1500 (.cutO (β := Int × (List PosT) × (List (ByteArray × Int))) (γ := Unit) 1 (.k [11, 12] (fun v6 => [(15, vI v6.1)]) [0, 2, 3, 25, 28, 35, 46, 45, 44, 47, 48, 100] (fun v6 => [(18, .rows 3 [[vI party, .gslice 29 (List.map PosT.row v6.2.1), .gslice 28 (List.map (rowL MoveT.row) s1.2.2.1)]]), (20, .map (entsA IV.str IV.i64 v6.2.2)), (29, .tip 5 v6.2.1.length)]) 130 fun _ => (.exp rfl rfl (.ents rfl (.exp rfl rfl .nil)))) (.ite 1466 ((mget r11 s2.2.1).isSome) (.sel 1467 (.ret (.inl (((mget r11 s2.2.1).getD 0), s2.1, s2.2.1)))) (.sel 1467 (.reg 0 (.ln 1498 PosT.row s2.1 (.use 2 1498 (.ite 1468 ((s2.1.length : Int) == 1500) (.sel 1468 (.ret (.inr ()))) (.sel 1468 (.reg 0 (.f1 1496 (.u (entsA IV.str IV.i64 (mset r11 (s2.1.length : Int) s2.2.1))) (upd_sideS IV.i64 r11 (s2.1.length : Int) s2.2.1) (.use 3 1496 (.reg 0 (.b1 1494 (appI (α := PosT) 88 s2.1 [({ state := r9.1, own := true } : PosT)]) (fun e8 => .a (List.map PosT.row e8) e8.length) (fun e8 he8 => (app_side PosT.row 5 88 (fun _ => rfl) he8)) fun e8 => .use 4 1494 (.ret (.inl ((s2.1.length : Int), e8, (mset r11 (s2.1.length : Int) s2.2.1)))))))))))))))) fun o_v6 => .case o_v6 (fun v6 => .reg 0 (.b1 1492 (appI (α := MoveT) 16 s2.2.2 [({ step := (i2 : Int), to := v6.1 } : MoveT)]) (fun e9 => .a (List.map MoveT.row e9) e9.length) (fun e9 he9 => (app_side MoveT.row 2 16 (fun _ => rfl) he9)) fun e9 => .use 5 1492 (.ret (.inl (v6.2.1, v6.2.2, e9))))) fun y6 => .ret (.inr ()))))))))))))) (.sel 1463 (.ret (.inl (s2.1, s2.2.1, s2.2.2))))))) fun o_v7 => .case o_v7 (fun v7 => .ret (.inl (v7.1, v7.2.1, v7.2.2))) fun y7 => .ret (.inr (s2.1, s2.2.1, s2.2.2)))) fun os2 => .case os2 (fun s2 => .sel 1448 (.ret (.inl (s2.1, s2.2.1, s2.2.2)))) fun y8 => .ret (.inr ()))))) fun y5 => .ret (.inr ())) fun zy2 => .case zy2 (fun y2 => .ret (.inr ())) fun y3 => .ret (.inl (y3.1, y3.2.1, y3.2.2)))))) fun o_v8 => .case o_v8 (fun v8 => .reg 0 (.b1 1476 (appI (α := List MoveT) 24 s1.2.2.1 [v8.2.2]) (fun e10 => .a (List.map (rowL MoveT.row) e10) e10.length) (fun e10 he10 => (app_side (rowL MoveT.row) 1 24 (fun _ => rfl) he10)) fun e10 => .use 4 1476 (.ret (.inl ((IntKind.i64.wrap (s1.1 + 1)), v8.1, e10, v8.2.1))))) fun y9 => .ret (.inr (.inr ())))) (.sel 1420 (.ret (.inr (.inl (s1.2.1, s1.2.2.1))))))))) fun os1 => .case os1 (fun y10 => .ret (.inl (y10.1, y10.2))) fun y11 => .ret (.inr ()))) fun o_v9 => .case o_v9 (fun v9 => .ret (({ party := party, positions := v9.1, moves := v9.2 } : ArenaT), 0)) fun y12 => .ret (({ party := 0, positions := [], moves := [] } : ArenaT), 3))))))))) (.sel 853 (.ret (({ party := 0, positions := [], moves := [] } : ArenaT), 1)))))
theorem t_From (c : ContractT) (party : Int) (p : PosT) (res : ArenaT × Int) (hd : d_From c party p = some res) : APure C0 74 [.agg (ContractT.row c), .int .i64 party, .agg (PosT.row p)] (.tuple [.agg (ArenaT.row res.1), .int .i64 res.2]) :=
  Plan.pure (iv := fun res => .tuple [.agg (ArenaT.row res.1), .int .i64 res.2]) (p_From c party p) (by kernel_rfl) (Plan.run_of hd (by kernel_rfl))

noncomputable def d_Build (c : ContractT) (party : Int) : Option (ArenaT × Int) :=
  (Option.bind (d_Start c) fun r1 => (bif (r1.2 == 0) then (Option.bind (d_From c party ({ state := r1.1, own := true } : PosT)) fun r2 => some (r2.1, r2.2)) else some (({ party := 0, positions := [], moves := [] } : ArenaT), r1.2)))
noncomputable def p_Build (c : ContractT) (party : Int) : Plan (ArenaT × Int) :=
  .reg 1 (.call 1542 (t_Start c) fun r1 => .use 1 1542 (.ite 674 (r1.2 == 0) (.sel 675 (.reg 0 (.call 1544 (t_From c party ({ state := r1.1, own := true } : PosT)) fun r2 => .use 4 1544 (.ret (r2.1, r2.2))))) (.sel 675 (.ret (({ party := 0, positions := [], moves := [] } : ArenaT), r1.2)))))
theorem t_Build (c : ContractT) (party : Int) (res : ArenaT × Int) (hd : d_Build c party = some res) : APure C0 73 [.agg (ContractT.row c), .int .i64 party] (.tuple [.agg (ArenaT.row res.1), .int .i64 res.2]) :=
  Plan.pure (iv := fun res => .tuple [.agg (ArenaT.row res.1), .int .i64 res.2]) (p_Build c party) (by kernel_rfl) (Plan.run_of hd (by kernel_rfl))

noncomputable def d_wellFormed (c : ContractT) (a : ArenaT) : Option Bool :=
  (Option.bind (bif decide (a.party < 0) then some true else (bif decide (c.parties ≤ a.party) then some true else some (!((a.moves.length : Int) == (a.positions.length : Int))))) fun v1 => (bif v1 then some false else (Option.bind (forR (σ := Unit) (ρ := Unit) (a.positions.length : Int) (fun i1 s1 => (Option.bind (idxI a.positions (i1 : Int)) fun e1 => (Option.bind (idxI a.moves (i1 : Int)) fun e2 => (Option.bind (forR (σ := Unit) (ρ := Unit) (e2.length : Int) (fun i2 s2 => (Option.bind (idxI e2 (i2 : Int)) fun e3 => (Option.bind (bif decide (e3.to < 0) then some true else some (decide ((a.positions.length : Int) ≤ e3.to))) fun v2 => (bif v2 then some (.inr ()) else some (.inl ()))))) ()) (Sum.elim (fun (s2 : Unit) => (Option.bind (d_ValidS c e1.state) fun r1 => (bif r1 then some (.inl ()) else some (.inr ())))) (fun (y1 : Unit) => some (.inr ()))))))) ()) (Sum.elim (fun (s1 : Unit) => some true) (fun (y2 : Unit) => some false)))))
noncomputable def p_wellFormed (c : ContractT) (a : ArenaT) : Plan Bool :=
  .cut (β := Bool) 3 (.e [2, 3] (fun v1 => [(27, vB v1)]) [0, 1] 22) (.reg 0 (.ite 1546 (decide (a.party < 0)) (.use 4 1546 (.f1 1562 (.g true) (rfl : true = true) (.use 11 1562 (.ret true)))) (.ite 1548 (decide (c.parties ≤ a.party)) (.us [(4, 1546), (11, 1548)] (.ret true)) (.us [(4, 1546), (11, 1548)] (.ln 1566 (rowL MoveT.row) a.moves (.use 13 1566 (.ln 1564 PosT.row a.positions (.use 16 1564 (.ret (!((a.moves.length : Int) == (a.positions.length : Int)))))))))))) fun v1 => .ite 1550 v1 (.sel 1550 (.ret false)) (.sel 1550 (.reg 0 (.ln 1580 PosT.row a.positions (.use 2 1580 (.forR (σ := Unit) (ρ := Unit) 1552 31 (a.positions.length : Int) () (.e [2, 3, 29, 30] (fun _ => []) [0, 1] 26) (fun i1 s1 => .sel 1552 (.reg 0 (.ix 1568 PosT.row a.positions (i1 : Int) fun e1 => .use 1 1568 (.reg 0 (.ix 1570 (rowL MoveT.row) a.moves (i1 : Int) fun e2 => .use 3 1570 (.ln 1578 MoveT.row e2 (.use 5 1578 (.forR (σ := Unit) (ρ := Unit) 1554 42 (e2.length : Int) () (.e [2, 3, 29, 30, 31, 6, 40, 41] (fun _ => []) [0, 1, 30] 40) (fun i2 s2 => .sel 1554 (.reg 0 (.ix 1572 MoveT.row e2 (i2 : Int) fun e3 => .use 0 1572 (.cut (β := Bool) 1 (.e [2, 3, 29, 30, 31, 6, 40, 41, 42] (fun v2 => [(56, vB v2)]) [0, 1, 30, 43] 56) (.reg 0 (.ite 1556 (decide (e3.to < 0)) (.use 4 1556 (.ret true)) (.use 4 1556 (.ln 1574 PosT.row a.positions (.use 8 1574 (.ret (decide ((a.positions.length : Int) ≤ e3.to)))))))) fun v2 => .ite 1558 v2 (.sel 1558 (.ret (.inr ()))) (.sel 1558 (.ret (.inl ()))))))) fun os2 => .case os2 (fun s2 => .sel 1554 (.reg 0 (.call 1576 (t_ValidS c e1.state) fun r1 => .use 3 1576 (.ite 1560 r1 (.sel 1561 (.ret (.inl ()))) (.sel 1561 (.ret (.inr ()))))))) fun y1 => .ret (.inr ()))))))))) fun os1 => .case os1 (fun s1 => .sel 1552 (.ret true)) fun y2 => .ret false)))))
theorem t_wellFormed (c : ContractT) (a : ArenaT) (res : Bool) (hd : d_wellFormed c a = some res) : APure C0 139 [.agg (ContractT.row c), .agg (ArenaT.row a)] (.bool res) :=
  Plan.pure (iv := fun res => .bool res) (p_wellFormed c a) (by kernel_rfl) (Plan.run_of hd (by kernel_rfl))

noncomputable def d_lost (c : ContractT) (s : StateT) (party : Int) : Option Bool :=
  (Option.bind (forR (σ := Unit) (ρ := Unit) (s.marks.length : Int) (fun i1 s1 => (Option.bind (idxI s.marks (i1 : Int)) fun e1 => (Option.bind (Option.bind (idxI c.clauses (i1 : Int)) fun e2 => (bif e2.final then (bif (e1.status == 4) then some (e1.bearer == party) else some false) else some false)) fun v1 => (bif v1 then some (.inr ()) else some (.inl ()))))) ()) (Sum.elim (fun (s1 : Unit) => some false) (fun (y1 : Unit) => some true)))
noncomputable def p_lost (c : ContractT) (s : StateT) (party : Int) : Plan Bool :=
  .reg 1 (.ln 1602 MarkT.row s.marks (.use 2 1602 (.forR (σ := Unit) (ρ := Unit) 1588 12 (s.marks.length : Int) () (.e [2, 3, 10, 11] (fun _ => []) [0] 7) (fun i1 s1 => .sel 1588 (.reg 0 (.ix 1596 MarkT.row s.marks (i1 : Int) fun e1 => .use 1 1596 (.cut (β := Bool) 1 (.e [2, 3, 10, 11, 12] (fun v1 => [(33, vB v1)]) [0, 11] 31) (.reg 0 (.ix 1598 ClauseT.row c.clauses (i1 : Int) fun e2 => .ite 1590 e2.final (.ite 1592 (e1.status == 4) (.us [(3, 1598), (7, 1590), (12, 1592)] (.ret (e1.bearer == party))) (.us [(3, 1598), (7, 1590), (12, 1592)] (.ret false))) (.us [(3, 1598), (7, 1590)] (.f1 1600 (.g false) (rfl : false = false) (.use 12 1600 (.ret false)))))) fun v1 => .ite 1594 v1 (.sel 1594 (.ret (.inr ()))) (.sel 1594 (.ret (.inl ()))))))) fun os1 => .case os1 (fun s1 => .sel 1588 (.ret false)) fun y1 => .ret true)))
theorem t_lost (c : ContractT) (s : StateT) (party : Int) (res : Bool) (hd : d_lost c s party = some res) : APure C0 140 [.agg (ContractT.row c), .agg (StateT.row s), .int .i64 party] (.bool res) :=
  Plan.pure (iv := fun res => .bool res) (p_lost c s party) (by kernel_rfl) (Plan.run_of hd (by kernel_rfl))

noncomputable def d_136b (p1 : Int) (p2 : List Int) (p3 : Int) : Option (List Int) :=
  (Option.bind (appI (α := Int) 8 p2 [p1]) fun e1 => some e1)
noncomputable def p_136b (p1 : Int) (p2 : List Int) (p3 : Int) : Plan (List Int) :=
  .reg 0 (.b1 1612 (appI (α := Int) 8 p2 [p1]) (fun e1 => .a (List.map rowI e1) e1.length) (fun e1 he1 => (app_side rowI 1 8 (fun _ => rfl) he1)) fun e1 => .use 7 1612 (.ret e1))
theorem t_136b (p1 : Int) (p2 : List Int) (p3 : Int) (res : (List Int)) (hd : d_136b p1 p2 p3 = some res) : DOk C0 136 [.ptr 0 0 0, vI p1] [(0, .rows 2 [[.gslice 1 (List.map rowI p2), vI p3]]), (1, .tip 1 p2.length)] 2 (.tuple []) [(0, .rows 2 [[.gslice 1 (List.map rowI res), vI p3]]), (1, .tip 1 res.length)] 0 :=
  Plan.det (R := fun res => .tuple []) (H := fun res => [(0, .rows 2 [[.gslice 1 (List.map rowI res), vI p3]]), (1, .tip 1 res.length)]) (p_136b p1 p2 p3) (.exp rfl rfl (.exp rfl rfl .nil)) (fun _ => (.exp rfl rfl (.exp rfl rfl .nil))) (by kernel_rfl) (fun _ => by kernel_rfl) (by kernel_rfl) (Plan.run_of hd (by kernel_rfl))

noncomputable def d_134a (p1 : Int) (p2 : Int) (p3 : List Int) (p4 : Nat) (p5 : List Int) (p6 : Int) : Option ((List Int) × (List Int)) :=
  (Option.bind (idxN p4 p1) fun k1 => (Option.bind (p3[k1]?) fun e1 => (Option.bind (d_136b p1 p5 p6) fun r1 => some (r1, (p3.set k1 p2)))))
noncomputable def p_134a (p1 : Int) (p2 : Int) (p3 : List Int) (p4 : Nat) (p5 : List Int) (p6 : Int) : Plan ((List Int) × (List Int)) :=
  .reg 0 (.b1 1634 (idxN p4 p1) (fun k1 => .k k1) (fun k1 hk1 => (midx_side hk1)) fun k1 => .b1 1636 (p3[k1]?) (fun e1 => .aw (rowA (rowI e1)) (rowsA rowI (p3.set k1 p2))) (fun e1 he1 => (sto_side rowI p2 he1)) fun e1 => .us [(3, 1634), (4, 1636)] (.reg 0 (.b1 1638 (d_136b p1 p5 p6) (fun r1 => .c [1, 3] 2 (.tuple []) [(1, .rows 2 [[.gslice 3 (List.map rowI r1), vI p6]]), (3, .tip 1 r1.length)] 0) (fun r1 hr1 => (call_side (t_136b p1 p5 p6 r1 hr1) [1, 3] 10 (.keep (.keep .nil)) (rhR (rhR rhN)) (rhR (rhR rhN)))) fun r1 => .use 1 1638 (.ret (r1, (p3.set k1 p2))))))
theorem t_134a (p1 : Int) (p2 : Int) (p3 : List Int) (p4 : Nat) (p5 : List Int) (p6 : Int) (res : (List Int) × (List Int)) (hd : d_134a p1 p2 p3 p4 p5 p6 = some res) : DOk C0 134 [vI p1, vI p2, .ptr 0 0 0, .ptr 1 0 0] [(0, .rows 1 [[.mslice 2 0 p4]]), (1, .rows 2 [[.gslice 3 (List.map rowI p5), vI p6]]), (2, .rows 1 (rowsA rowI p3)), (3, .tip 1 p5.length)] 4 (.tuple []) [(0, .rows 1 [[.mslice 2 0 p4]]), (1, .rows 2 [[.gslice 3 (List.map rowI res.1), vI p6]]), (2, .rows 1 (rowsA rowI res.2)), (3, .tip 1 res.1.length)] 0 :=
  Plan.det (R := fun res => .tuple []) (H := fun res => [(0, .rows 1 [[.mslice 2 0 p4]]), (1, .rows 2 [[.gslice 3 (List.map rowI res.1), vI p6]]), (2, .rows 1 (rowsA rowI res.2)), (3, .tip 1 res.1.length)]) (p_134a p1 p2 p3 p4 p5 p6) (.exp rfl rfl (.exp rfl rfl (.rows rfl (.exp rfl rfl .nil)))) (fun _ => (.exp rfl rfl (.exp rfl rfl (.rows rfl (.exp rfl rfl .nil))))) (by kernel_rfl) (fun _ => by kernel_rfl) (by kernel_rfl) (Plan.run_of hd (by kernel_rfl))

noncomputable def d_137a (p1 : List Int) (p2 : Int) : Option (Int × Bool × Int) :=
  (bif (p2 == (p1.length : Int)) then some (0, false, p2) else (Option.bind (idxI p1 (IntKind.i64.wrap ((IntKind.i64.wrap (p2 + 1)) - 1))) fun e1 => some (e1, true, (IntKind.i64.wrap (p2 + 1)))))
noncomputable def p_137a (p1 : List Int) (p2 : Int) : Plan (Int × Bool × Int) :=
  .reg 1 (.ln 1650 rowI p1 (.use 8 1650 (.ite 1646 (p2 == (p1.length : Int)) (.sel 1646 (.ret (0, false, p2))) (.sel 1646 (.reg 1 (.ix 1648 rowI p1 (IntKind.i64.wrap ((IntKind.i64.wrap (p2 + 1)) - 1)) fun e1 => .use 9 1648 (.ret (e1, true, (IntKind.i64.wrap (p2 + 1))))))))))
theorem t_137a (p1 : List Int) (p2 : Int) (res : Int × Bool × Int) (hd : d_137a p1 p2 = some res) : DOk C0 137 [.ptr 0 0 0] [(0, .rows 2 [[.gslice 1 (List.map rowI p1), vI p2]]), (1, .tip 1 p1.length)] 2 (.tuple [vI res.1, vB res.2.1]) [(0, .rows 2 [[.gslice 1 (List.map rowI p1), vI res.2.2]]), (1, .tip 1 p1.length)] 0 :=
  Plan.det (R := fun res => .tuple [vI res.1, vB res.2.1]) (H := fun res => [(0, .rows 2 [[.gslice 1 (List.map rowI p1), vI res.2.2]]), (1, .tip 1 p1.length)]) (p_137a p1 p2) (.exp rfl rfl (.exp rfl rfl .nil)) (fun _ => (.exp rfl rfl (.exp rfl rfl .nil))) (by kernel_rfl) (fun _ => by kernel_rfl) (by kernel_rfl) (Plan.run_of hd (by kernel_rfl))

noncomputable def d_135a (p1 : Int) (p2 : Int) (p3 : List Int) (p4 : Nat) (p5 : List Int) (p6 : Nat) (p7 : ArenaT) (p8 : List Int) (p9 : Int) : Option ((List Int) × (List Int) × (List Int)) :=
  (Option.bind (idxN p4 p1) fun k1 => (Option.bind (p3[k1]?) fun e1 => (Option.bind (Option.bind (idxN p6 p1) fun k2 => (Option.bind (p5[k2]?) fun e2 => (bif (e2 == (-1)) then (Option.bind (idxI p7.positions p1) fun e3 => (bif e3.own then (Option.bind (idxN p4 p1) fun k3 => (Option.bind ((p3.set k1 (IntKind.i64.wrap (e1 - 1)))[k3]?) fun e4 => some (e4 == 0))) else some true)) else some false))) fun v1 => (bif v1 then (Option.bind (idxN p6 p2) fun k4 => (Option.bind (p5[k4]?) fun e5 => (Option.bind (d_134a p1 (IntKind.i64.wrap (e5 + 1)) p5 p6 p8 p9) fun r1 => some ((p3.set k1 (IntKind.i64.wrap (e1 - 1))), r1.2, r1.1)))) else some ((p3.set k1 (IntKind.i64.wrap (e1 - 1))), p5, p8)))))
noncomputable def p_135a (p1 : Int) (p2 : Int) (p3 : List Int) (p4 : Nat) (p5 : List Int) (p6 : Nat) (p7 : ArenaT) (p8 : List Int) (p9 : Int) : Plan ((List Int) × (List Int) × (List Int)) :=
  .reg 0 (.b1 1664 (idxN p4 p1) (fun k1 => .k k1) (fun k1 hk1 => (midx_side hk1)) fun k1 => .bind (p3[k1]?) (fun e1 => [(1666, ([.ar (rowA (rowI e1))], _)), (1668, ([.aw (rowA (rowI e1)) (rowsA rowI (p3.set k1 (IntKind.i64.wrap (e1 - 1))))], _))]) (fun e1 he1 => (.c1 (row_side rowI he1) (.c1 (sto_side rowI (IntKind.i64.wrap (e1 - 1)) he1) .nil))) fun e1 => .us [(2, 1664), (3, 1666), (5, 1664), (6, 1668)] (.cut (β := Bool) 1 (.k [0, 1, 3, 5] (fun v1 => [(34, vB v1)]) [0, 1, 2, 3, 6, 7] (fun _ => [(4, .rows 1 (rowsA rowI (p3.set k1 (IntKind.i64.wrap (e1 - 1))))), (5, .rows 1 (rowsA rowI p5))]) 36 fun _ => (.rows rfl (.rows rfl .nil))) (.reg 0 (.b1 1670 (idxN p6 p1) (fun k2 => .k k2) (fun k2 hk2 => (midx_side hk2)) fun k2 => .b1 1672 (p5[k2]?) (fun e2 => .ar (rowA (rowI e2))) (fun e2 he2 => (row_side rowI he2)) fun e2 => .ite 1658 (e2 == (-1)) (.ix 1674 PosT.row p7.positions p1 fun e3 => .ite 1660 e3.own (.b1 1676 (idxN p4 p1) (fun k3 => .k k3) (fun k3 hk3 => (midx_side hk3)) fun k3 => .b1 1678 ((p3.set k1 (IntKind.i64.wrap (e1 - 1)))[k3]?) (fun e4 => .ar (rowA (rowI e4))) (fun e4 he4 => (row_side rowI he4)) fun e4 => .us [(2, 1670), (3, 1672), (6, 1658), (9, 1674), (14, 1661), (16, 1676), (17, 1678)] (.ret (e4 == 0))) (.us [(2, 1670), (3, 1672), (6, 1658), (9, 1674), (14, 1661)] (.ret true))) (.us [(2, 1670), (3, 1672), (6, 1658)] (.ret false)))) fun v1 => .ite 1662 v1 (.sel 1662 (.reg 0 (.b1 1680 (idxN p6 p2) (fun k4 => .k k4) (fun k4 hk4 => (midx_side hk4)) fun k4 => .b1 1682 (p5[k4]?) (fun e5 => .ar (rowA (rowI e5))) (fun e5 he5 => (row_side rowI he5)) fun e5 => .b1 1684 (d_134a p1 (IntKind.i64.wrap (e5 + 1)) p5 p6 p8 p9) (fun r1 => .c [1, 6, 5, 7] 4 (.tuple []) [(6, .rows 2 [[.gslice 7 (List.map rowI r1.1), vI p9]]), (5, .rows 1 (rowsA rowI r1.2)), (7, .tip 1 r1.1.length)] 0) (fun r1 hr1 => (call_side (t_134a p1 (IntKind.i64.wrap (e5 + 1)) p5 p6 p8 p9 r1 hr1) [1, 6, 5, 7] 44 (.drop rfl rfl (.keep (.keep (.keep .nil)))) (rhR (rhR (rhI (rhR rhN)))) (rhR (rhI (rhR rhN))))) fun r1 => .us [(4, 1680), (5, 1682), (7, 1684)] (.ret ((p3.set k1 (IntKind.i64.wrap (e1 - 1))), r1.2, r1.1))))) (.sel 1662 (.ret ((p3.set k1 (IntKind.i64.wrap (e1 - 1))), p5, p8)))))
theorem t_135a (p1 : Int) (p2 : Int) (p3 : List Int) (p4 : Nat) (p5 : List Int) (p6 : Nat) (p7 : ArenaT) (p8 : List Int) (p9 : Int) (res : (List Int) × (List Int) × (List Int)) (hd : d_135a p1 p2 p3 p4 p5 p6 p7 p8 p9 = some res) : DOk C0 135 [vI p1, vI p2, .ptr 0 0 0, .ptr 1 0 0, .ptr 2 0 0, .ptr 3 0 0] [(0, .rows 1 [[.mslice 4 0 p4]]), (1, .rows 1 [[.mslice 5 0 p6]]), (2, .rows 3 [rowA (ArenaT.row p7)]), (3, .rows 1 [[.func 134 [] [.ptr 1 0 0, .ptr 6 0 0]]]), (4, .rows 1 (rowsA rowI p3)), (5, .rows 1 (rowsA rowI p5)), (6, .rows 2 [[.gslice 7 (List.map rowI p8), vI p9]]), (7, .tip 1 p8.length)] 8 (.tuple []) [(0, .rows 1 [[.mslice 4 0 p4]]), (1, .rows 1 [[.mslice 5 0 p6]]), (2, .rows 3 [rowA (ArenaT.row p7)]), (3, .rows 1 [[.func 134 [] [.ptr 1 0 0, .ptr 6 0 0]]]), (4, .rows 1 (rowsA rowI res.1)), (5, .rows 1 (rowsA rowI res.2.1)), (6, .rows 2 [[.gslice 7 (List.map rowI res.2.2), vI p9]]), (7, .tip 1 res.2.2.length)] 0 :=
  Plan.det (R := fun res => .tuple []) (H := fun res => [(0, .rows 1 [[.mslice 4 0 p4]]), (1, .rows 1 [[.mslice 5 0 p6]]), (2, .rows 3 [rowA (ArenaT.row p7)]), (3, .rows 1 [[.func 134 [] [.ptr 1 0 0, .ptr 6 0 0]]]), (4, .rows 1 (rowsA rowI res.1)), (5, .rows 1 (rowsA rowI res.2.1)), (6, .rows 2 [[.gslice 7 (List.map rowI res.2.2), vI p9]]), (7, .tip 1 res.2.2.length)]) (p_135a p1 p2 p3 p4 p5 p6 p7 p8 p9) (.exp rfl rfl (.exp rfl rfl (.exp rfl rfl (.exp rfl rfl (.rows rfl (.rows rfl (.exp rfl rfl (.exp rfl rfl .nil)))))))) (fun _ => (.exp rfl rfl (.exp rfl rfl (.exp rfl rfl (.exp rfl rfl (.rows rfl (.rows rfl (.exp rfl rfl (.exp rfl rfl .nil))))))))) (by kernel_rfl) (fun _ => by kernel_rfl) (by kernel_rfl) (Plan.run_of hd (by kernel_rfl))

noncomputable def d_Ranks (c : ContractT) (a : ArenaT) : Option (List Int) :=
  (Option.bind (d_wellFormed c a) fun r1 => (bif r1 then (Option.bind (mkN 8 (a.positions.length : Int)) fun k1 => (Option.bind (mkN 8 (a.positions.length : Int)) fun k2 => (Option.bind (mkN 24 (a.positions.length : Int)) fun k3 => (Option.bind (forR (σ := (List Int) × (List Int) × (List (List Int)) × (List Int)) (ρ := Unit) (a.positions.length : Int) (fun i1 s1 => (Option.bind (Option.bind (idxI a.positions (i1 : Int)) fun e1 => (Option.bind (idxI a.moves (i1 : Int)) fun e2 => (Option.bind (idxN k1 (i1 : Int)) fun k4 => (Option.bind (s1.1[k4]?) fun e3 => (Option.bind (idxN k2 (i1 : Int)) fun k5 => (Option.bind (s1.2.1[k5]?) fun e4 => (Option.bind (idxI a.moves (i1 : Int)) fun e5 => (Option.bind (forR (σ := (List (List Int))) (ρ := Unit) (e5.length : Int) (fun i2 s2 => (Option.bind (idxI e5 (i2 : Int)) fun e6 => (Option.bind (nestApp s2 k3 e6.to (i1 : Int)) fun v1 => some (.inl v1)))) s1.2.2.1) (Sum.elim (fun (s2 : (List (List Int))) => (Option.bind (d_lost c e1.state a.party) fun r2 => (bif r2 then (Option.bind (idxN k1 (i1 : Int)) fun k6 => (Option.bind ((s1.1.set k4 (-1))[k6]?) fun e7 => (Option.bind (d_136b (i1 : Int) s1.2.2.2 0) fun r3 => some (((s1.1.set k4 (-1)).set k6 0), (s1.2.1.set k5 (e2.length : Int)), s2, r3)))) else some ((s1.1.set k4 (-1)), (s1.2.1.set k5 (e2.length : Int)), s2, s1.2.2.2)))) (fun _ => none)))))))))) fun (v2 : (List Int) × (List Int) × (List (List Int)) × (List Int)) => some (.inl (v2.1, v2.2.1, v2.2.2.1, v2.2.2.2)))) ((List.replicate k1 0), (List.replicate k2 0), (List.replicate k3 []), [])) (Sum.elim (fun (s1 : (List Int) × (List Int) × (List (List Int)) × (List Int)) => (Option.bind (forR (σ := (List Int) × (List Int)) (ρ := Unit) (a.positions.length : Int) (fun i3 s3 => (Option.bind (Option.bind (idxI a.positions (i3 : Int)) fun e8 => (Option.bind (bif e8.own then (Option.bind (idxN k2 (i3 : Int)) fun k7 => (Option.bind (s1.2.1[k7]?) fun e9 => (bif (e9 == 0) then (Option.bind (idxN k1 (i3 : Int)) fun k8 => (Option.bind (s3.1[k8]?) fun e10 => some (e10 == (-1)))) else some false))) else some false) fun v3 => (bif v3 then (Option.bind (d_134a (i3 : Int) 1 s3.1 k1 s3.2 0) fun r4 => some (r4.2, r4.1)) else some (s3.1, s3.2)))) fun (v4 : (List Int) × (List Int)) => some (.inl (v4.1, v4.2)))) (s1.1, s1.2.2.2)) (Sum.elim (fun (s3 : (List Int) × (List Int)) => (Option.bind (Option.bind (d_137a s3.2 0) fun r5 => (Option.bind (iter (σ := Int × Bool × (List Int) × (List Int) × (List Int) × Int) (ρ := (List Int)) (fun s4 => (bif s4.2.1 then (Option.bind (idxN k3 s4.1) fun k9 => (Option.bind (s1.2.2.1[k9]?) fun e11 => (Option.bind (forR (σ := (List Int) × (List Int) × (List Int)) (ρ := Unit) (e11.length : Int) (fun i5 s5 => (Option.bind (idxI e11 (i5 : Int)) fun e12 => (Option.bind (d_135a e12 s4.1 s5.2.1 k2 s5.1 k1 a s5.2.2 s4.2.2.2.2.2) fun r6 => some (.inl (r6.2.1, r6.1, r6.2.2))))) (s4.2.2.1, s4.2.2.2.1, s4.2.2.2.2.1)) (Sum.elim (fun (s5 : (List Int) × (List Int) × (List Int)) => (Option.bind (d_137a s5.2.2 s4.2.2.2.2.2) fun r7 => some (.inl (r7.1, r7.2.1, s5.1, s5.2.1, s5.2.2, r7.2.2)))) (fun _ => none))))) else some (.inr s4.2.2.1))) (r5.1, r5.2.1, s3.1, s1.2.1, s3.2, r5.2.2)) (fun (y1 : (List Int)) => some y1))) fun (v5 : (List Int)) => (Option.bind (eqN k1 v5.length) fun g1 => some v5))) (fun _ => none)))) (fun _ => none)))))) else some []))
noncomputable def p_Ranks (c : ContractT) (a : ArenaT) : Plan (List Int) :=
  .reg 1 (.call 1690 (t_wellFormed c a) fun r1 => .use 2 1690 (.ite 1582 r1 (.sel 1583 (.reg 0 (.ln 1758 PosT.row a.positions (.use 2 1758 (.reg 0 (.b1 1692 (mkN 8 (a.positions.length : Int)) (fun k1 => .m k1 (rowsA rowI (List.replicate k1 0))) (fun k1 hk1 => (mks_side rowI 0 hk1)) fun k1 => .use 1 1692 (.reg 0 (.b1 1694 (mkN 8 (a.positions.length : Int)) (fun k2 => .m k2 (rowsA rowI (List.replicate k2 0))) (fun k2 hk2 => (mks_side rowI 0 hk2)) fun k2 => .use 1 1694 (.reg 0 (.b1 1696 (mkN 24 (a.positions.length : Int)) (fun k3 => .m k3 (List.replicate k3 [.nil])) (fun k3 hk3 => (mks_side0 [.nil] hk3)) fun k3 => .use 1 1696 (.weak 0 [wNest 20 k3] (.reg 1 (.ln 1756 PosT.row a.positions (.use 2 1756 (.weak 1 [wNilO 2000000 1 0 0] (.forR (σ := (List Int) × (List Int) × (List (List Int)) × (List Int)) (ρ := Unit) 1584 38 (a.positions.length : Int) ((List.replicate k1 0), (List.replicate k2 0), (List.replicate k3 []), []) (⟨[2, 3, 6, 7, 8, 9, 36, 37], fun _ => [], [0, 1, 13, 17], fun s1 => [(12, .rows 1 (rowsA rowI s1.1)), (16, .rows 1 (rowsA rowI s1.2.1)), (20, .rows 1 (rowsT nestB s1.2.2.1)), (2000000, .rows 2 [[.gslice 2000005 (List.map rowI s1.2.2.2), vI 0]]), (2000005, .tip 1 s1.2.2.2.length)], 2000006, fun _ => (.rows rfl (.rows rfl (.nest rfl rfl (.exp rfl rfl (.exp rfl rfl .nil))))), fun s1 => some s1.2.2.1⟩) (fun i1 s1 => .sel 1584 (.cut (β := (List Int) × (List Int) × (List (List Int)) × (List Int)) 1 (⟨[2, 3, 6, 7, 8, 9, 36, 37, 38], fun _ => [], [0, 1, 13, 17], fun v2 => [(12, .rows 1 (rowsA rowI v2.1)), (16, .rows 1 (rowsA rowI v2.2.1)), (20, .rows 1 (rowsT nestB v2.2.2.1)), (2000000, .rows 2 [[.gslice 2000005 (List.map rowI v2.2.2.2), vI 0]]), (2000005, .tip 1 v2.2.2.2.length)], 2000041, fun _ => (.rows rfl (.rows rfl (.nest rfl rfl (.exp rfl rfl (.exp rfl rfl .nil))))), fun v2 => some v2.2.2.1⟩) (.reg 0 (.ix 1698 PosT.row a.positions (i1 : Int) fun e1 => .use 1 1698 (.reg 0 (.ix 1700 (rowL MoveT.row) a.moves (i1 : Int) fun e2 => .b1 1702 (idxN k1 (i1 : Int)) (fun k4 => .k k4) (fun k4 hk4 => (midx_side hk4)) fun k4 => .b1 1704 (s1.1[k4]?) (fun e3 => .aw (rowA (rowI e3)) (rowsA rowI (s1.1.set k4 (-1)))) (fun e3 he3 => (sto_side rowI (-1) he3)) fun e3 => .b1 1706 (idxN k2 (i1 : Int)) (fun k5 => .k k5) (fun k5 hk5 => (midx_side hk5)) fun k5 => .b1 1708 (s1.2.1[k5]?) (fun e4 => .aw (rowA (rowI e4)) (rowsA rowI (s1.2.1.set k5 (e2.length : Int)))) (fun e4 he4 => (sto_side rowI (e2.length : Int) he4)) fun e4 => .use 7 1700 (.ln 1724 MoveT.row e2 (.us [(9, 1724), (10, 1702), (11, 1704), (12, 1706), (13, 1708)] (.reg 0 (.ix 1710 (rowL MoveT.row) a.moves (i1 : Int) fun e5 => .use 3 1710 (.ln 1722 MoveT.row e5 (.use 5 1722 (.forR (σ := (List (List Int))) (ρ := Unit) 1622 61 (e5.length : Int) s1.2.2.1 (⟨[2, 3, 6, 7, 8, 9, 36, 37, 38, 11, 10, 59, 60], fun _ => [], [0, 1, 13, 17, 2000000, 2000005, 2000010], fun s2 => [(12, .rows 1 (rowsA rowI (s1.1.set k4 (-1)))), (16, .rows 1 (rowsA rowI (s1.2.1.set k5 (e2.length : Int)))), (20, .rows 1 (rowsT nestB s2))], 2000034, fun _ => (.rows rfl (.rows rfl (.nest rfl rfl .nil))), fun s2 => some s2⟩) (fun i2 s2 => .sel 1622 (.reg 0 (.ix 1712 MoveT.row e5 (i2 : Int) fun e6 => .use 0 1712 (.man 0 (mNest 20 k3 2000037 (i1 : Int) e6.to (vI e6.step) s2) fun v1 => .ret (.inl v1))))) fun os2 => .case os2 (fun s2 => .sel 1622 (.reg 0 (.call 1714 (t_lost c e1.state a.party) fun r2 => .use 5 1714 (.ite 1624 r2 (.sel 1624 (.reg 0 (.b1 1716 (idxN k1 (i1 : Int)) (fun k6 => .k k6) (fun k6 hk6 => (midx_side hk6)) fun k6 => .b1 1718 ((s1.1.set k4 (-1))[k6]?) (fun e7 => .aw (rowA (rowI e7)) (rowsA rowI ((s1.1.set k4 (-1)).set k6 0))) (fun e7 he7 => (sto_side rowI 0 he7)) fun e7 => .us [(2, 1716), (3, 1718)] (.reg 0 (.b1 1720 (d_136b (i1 : Int) s1.2.2.2 0) (fun r3 => .c [2000000, 2000005] 2 (.tuple []) [(2000000, .rows 2 [[.gslice 2000005 (List.map rowI r3), vI 0]]), (2000005, .tip 1 r3.length)] 0) (fun r3 hr3 => (call_side (t_136b (i1 : Int) s1.2.2.2 0 r3 hr3) [2000000, 2000005] 2000046 (.keep (.keep .nil)) (rhR (rhR rhN)) (rhR (rhR rhN)))) fun r3 => .use 1 1720 (.ret (((s1.1.set k4 (-1)).set k6 0), (s1.2.1.set k5 (e2.length : Int)), s2, r3))))))) (.sel 1624 (.ret ((s1.1.set k4 (-1)), (s1.2.1.set k5 (e2.length : Int)), s2, s1.2.2.2))))))) fun _ => .none))))))))))) fun v2 => .ret (.inl (v2.1, v2.2.1, v2.2.2.1, v2.2.2.2)))) fun os1 => .case os1 (fun s1 => .sel 1584 (.reg 1 (.ln 1754 PosT.row a.positions (.use 2 1754 (.weak 1 [wLes 20 1 (rowsT nestB s1.2.2.1) (rowsA (rowL rowI) s1.2.2.1) (rowsT_le s1.2.2.1 nestB)] (.forR (σ := (List Int) × (List Int)) (ρ := Unit) 1626 94 (a.positions.length : Int) (s1.1, s1.2.2.2) (.k [3, 6, 7, 8, 9, 14, 92, 93] (fun _ => []) [1, 13, 17, 2000008] (fun s3 => [(12, .rows 1 (rowsA rowI s3.1)), (16, .rows 1 (rowsA rowI s1.2.1)), (20, .rows 1 (rowsA (rowL rowI) s1.2.2.1)), (2000000, .rows 2 [[.gslice 2000005 (List.map rowI s3.2), vI 0]]), (2000005, .tip 1 s3.2.length)]) 2000014 fun _ => (.rows rfl (.rows rfl (.rows rfl (.exp rfl rfl (.exp rfl rfl .nil)))))) (fun i3 s3 => .sel 1626 (.cut (β := (List Int) × (List Int)) 1 (.k [3, 6, 7, 8, 9, 14, 92, 93, 94] (fun _ => []) [1, 13, 17, 2000008] (fun v4 => [(12, .rows 1 (rowsA rowI v4.1)), (16, .rows 1 (rowsA rowI s1.2.1)), (20, .rows 1 (rowsA (rowL rowI) s1.2.2.1)), (2000000, .rows 2 [[.gslice 2000005 (List.map rowI v4.2), vI 0]]), (2000005, .tip 1 v4.2.length)]) 2000037 fun _ => (.rows rfl (.rows rfl (.rows rfl (.exp rfl rfl (.exp rfl rfl .nil)))))) (.reg 0 (.ix 1726 PosT.row a.positions (i3 : Int) fun e8 => .use 1 1726 (.cut (β := Bool) 1 (.k [3, 6, 7, 8, 9, 14, 92, 93, 94, 15] (fun v3 => [(114, vB v3)]) [1, 13, 17, 2000000, 2000005, 2000008, 2000018] (fun _ => [(12, .rows 1 (rowsA rowI s3.1)), (16, .rows 1 (rowsA rowI s1.2.1)), (20, .rows 1 (rowsA (rowL rowI) s1.2.2.1))]) 2000037 fun _ => (.rows rfl (.rows rfl (.rows rfl .nil)))) (.reg 0 (.ite 1640 e8.own (.b1 1728 (idxN k2 (i3 : Int)) (fun k7 => .k k7) (fun k7 hk7 => (midx_side hk7)) fun k7 => .b1 1730 (s1.2.1[k7]?) (fun e9 => .ar (rowA (rowI e9))) (fun e9 he9 => (row_side rowI he9)) fun e9 => .ite 1642 (e9 == 0) (.b1 1732 (idxN k1 (i3 : Int)) (fun k8 => .k k8) (fun k8 hk8 => (midx_side hk8)) fun k8 => .b1 1734 (s3.1[k8]?) (fun e10 => .ar (rowA (rowI e10))) (fun e10 he10 => (row_side rowI he10)) fun e10 => .us [(3, 1640), (5, 1728), (6, 1730), (10, 1642), (12, 1732), (13, 1734)] (.ret (e10 == (-1)))) (.us [(3, 1640), (5, 1728), (6, 1730), (10, 1642)] (.ret false))) (.use 3 1640 (.f1 1736 (.g false) (rfl : false = false) (.use 10 1736 (.ret false)))))) fun v3 => .ite 1644 v3 (.sel 1644 (.reg 0 (.b1 1738 (d_134a (i3 : Int) 1 s3.1 k1 s3.2 0) (fun r4 => .c [13, 2000000, 12, 2000005] 4 (.tuple []) [(2000000, .rows 2 [[.gslice 2000005 (List.map rowI r4.1), vI 0]]), (12, .rows 1 (rowsA rowI r4.2)), (2000005, .tip 1 r4.1.length)] 0) (fun r4 hr4 => (call_side (t_134a (i3 : Int) 1 s3.1 k1 s3.2 0 r4 hr4) [13, 2000000, 12, 2000005] 2000039 (.drop rfl rfl (.keep (.keep (.keep .nil)))) (rhR (rhR (rhI (rhR rhN)))) (rhR (rhI (rhR rhN))))) fun r4 => .use 2 1738 (.ret (r4.2, r4.1))))) (.sel 1644 (.ret (s3.1, s3.2)))))) fun v4 => .ret (.inl (v4.1, v4.2)))) fun os3 => .case os3 (fun s3 => .sel 1626 (.cut (β := (List Int)) 2 (.k [6] (fun _ => []) [13] (fun v5 => [(12, .rows 1 (rowsA rowI v5))]) 2000023 fun _ => (.rows rfl .nil)) (.reg 0 (.b1 1740 (d_137a s3.2 0) (fun r5 => .c [2000000, 2000005] 2 (.tuple [vI r5.1, vB r5.2.1]) [(2000000, .rows 2 [[.gslice 2000005 (List.map rowI s3.2), vI r5.2.2]])] 0) (fun r5 hr5 => (call_side (t_137a s3.2 0 r5 hr5) [2000000, 2000005] 2000017 (.keep (.drop rfl rfl .nil)) (rhR (rhR rhN)) (rhR rhN))) fun r5 => .use 0 1740 (.iter (σ := Int × Bool × (List Int) × (List Int) × (List Int) × Int) (ρ := (List Int)) (r5.1, r5.2.1, s3.1, s1.2.1, s3.2, r5.2.2) (.k [6, 8, 9, 17] (fun s4 => [(18, vI s4.1), (19, vB s4.2.1)]) [1, 13, 17, 2000008] (fun s4 => [(12, .rows 1 (rowsA rowI s4.2.2.1)), (16, .rows 1 (rowsA rowI s4.2.2.2.1)), (20, .rows 1 (rowsA (rowL rowI) s1.2.2.1)), (2000000, .rows 2 [[.gslice 2000005 (List.map rowI s4.2.2.2.2.1), vI s4.2.2.2.2.2]]), (2000005, .tip 1 s4.2.2.2.2.1.length)]) 2000023 fun _ => (.rows rfl (.rows rfl (.rows rfl (.exp rfl rfl (.exp rfl rfl .nil)))))) (fun s4 => .ite 1686 s4.2.1 (.sel 1686 (.reg 0 (.b1 1742 (idxN k3 s4.1) (fun k9 => .k k9) (fun k9 hk9 => (midx_side hk9)) fun k9 => .b1 1744 (s1.2.2.1[k9]?) (fun e11 => .ar (rowA (rowL rowI e11))) (fun e11 he11 => (row_side (rowL rowI) he11)) fun e11 => .us [(2, 1742), (3, 1744)] (.ln 1752 rowI e11 (.use 4 1752 (.forR (σ := (List Int) × (List Int) × (List Int)) (ρ := Unit) 1688 134 (e11.length : Int) (s4.2.2.1, s4.2.2.2.1, s4.2.2.2.2.1) (.k [6, 8, 9, 17, 18, 132, 133] (fun _ => []) [1, 13, 17, 2000008] (fun s5 => [(12, .rows 1 (rowsA rowI s5.1)), (16, .rows 1 (rowsA rowI s5.2.1)), (20, .rows 1 (rowsA (rowL rowI) s1.2.2.1)), (2000000, .rows 2 [[.gslice 2000005 (List.map rowI s5.2.2), vI s4.2.2.2.2.2]]), (2000005, .tip 1 s5.2.2.length)]) 2000030 fun _ => (.rows rfl (.rows rfl (.rows rfl (.exp rfl rfl (.exp rfl rfl .nil)))))) (fun i5 s5 => .sel 1688 (.reg 0 (.ix 1746 rowI e11 (i5 : Int) fun e12 => .use 0 1746 (.reg 0 (.b1 1748 (d_135a e12 s4.1 s5.2.1 k2 s5.1 k1 a s5.2.2 s4.2.2.2.2.2) (fun r6 => .c [17, 13, 1, 2000008, 16, 12, 2000000, 2000005] 8 (.tuple []) [(16, .rows 1 (rowsA rowI r6.1)), (12, .rows 1 (rowsA rowI r6.2.1)), (2000000, .rows 2 [[.gslice 2000005 (List.map rowI r6.2.2), vI s4.2.2.2.2.2]]), (2000005, .tip 1 r6.2.2.length)] 0) (fun r6 hr6 => (call_side (t_135a e12 s4.1 s5.2.1 k2 s5.1 k1 a s5.2.2 s4.2.2.2.2.2 r6 hr6) [17, 13, 1, 2000008, 16, 12, 2000000, 2000005] 2000037 (.drop rfl rfl (.drop rfl rfl (.drop rfl rfl (.drop rfl rfl (.keep (.keep (.keep (.keep .nil)))))))) (rhR (rhR (rhR (rhR (rhI (rhI (rhR (rhR rhN)))))))) (rhI (rhI (rhR (rhR rhN)))))) fun r6 => .use 3 1748 (.ret (.inl (r6.2.1, r6.1, r6.2.2)))))))) fun os5 => .case os5 (fun s5 => .sel 1688 (.reg 0 (.b1 1750 (d_137a s5.2.2 s4.2.2.2.2.2) (fun r7 => .c [2000000, 2000005] 2 (.tuple [vI r7.1, vB r7.2.1]) [(2000000, .rows 2 [[.gslice 2000005 (List.map rowI s5.2.2), vI r7.2.2]])] 0) (fun r7 hr7 => (call_side (t_137a s5.2.2 s4.2.2.2.2.2 r7 hr7) [2000000, 2000005] 2000031 (.keep (.drop rfl rfl .nil)) (rhR (rhR rhN)) (rhR rhN))) fun r7 => .use 0 1750 (.ret (.inl (r7.1, r7.2.1, s5.1, s5.2.1, s5.2.2, r7.2.2)))))) fun _ => .none)))))) (.sel 1686 (.ret (.inr s4.2.2.1)))) fun y1 => .ret y1))) fun v5 => .bind (eqN k1 v5.length) (fun _ => []) (fun _ _ => .nil) fun g2 => .fin [12] (.mslice 12 0 k1) [(12, .rows 1 (rowsA rowI v5))] (.slice (List.map rowI v5)) (snap_of _ _ _ (snapC (snapE rowI 12 1 k1 v5 g2.down rfl) snapN)) v5)) fun _ => .none)))))) fun _ => .none)))))))))))))))) (.sel 1583 (.ret []))))
theorem t_Ranks (c : ContractT) (a : ArenaT) (res : List Int) (hd : d_Ranks c a = some res) : APure C0 133 [.agg (ContractT.row c), .agg (ArenaT.row a)] (.slice (List.map rowI res)) :=
  Plan.pure (iv := fun res => .slice (List.map rowI res)) (p_Ranks c a) (by kernel_rfl) (Plan.run_of hd (by kernel_rfl))

noncomputable def d_Safe (c : ContractT) (a : ArenaT) : Option (List Bool) :=
  (Option.bind (d_Ranks c a) fun r1 => (Option.bind (mkN 1 (r1.length : Int)) fun k1 => (Option.bind (forR (σ := (List Bool)) (ρ := Unit) (r1.length : Int) (fun i1 s1 => (Option.bind (idxI r1 (i1 : Int)) fun e1 => (Option.bind (idxN k1 (i1 : Int)) fun k2 => (Option.bind (s1[k2]?) fun e2 => some (.inl (s1.set k2 (e1 == (-1)))))))) (List.replicate k1 false)) (Sum.elim (fun (s1 : (List Bool)) => (Option.bind (eqN k1 s1.length) fun g1 => some s1)) (fun _ => none)))))
noncomputable def p_Safe (c : ContractT) (a : ArenaT) : Plan (List Bool) :=
  .reg 1 (.call 1762 (t_Ranks c a) fun r1 => .use 2 1762 (.reg 0 (.b1 1764 (mkN 1 (r1.length : Int)) (fun k1 => .m k1 (rowsA rowB (List.replicate k1 false))) (fun k1 hk1 => (mks_side rowB false hk1)) fun k1 => .ln 1774 rowI r1 (.us [(1, 1774), (2, 1764)] (.reg 0 (.ln 1772 rowI r1 (.use 1 1772 (.forR (σ := (List Bool)) (ρ := Unit) 1760 17 (r1.length : Int) (List.replicate k1 false) (.k [6, 15, 16] (fun _ => []) [] (fun s1 => [(9, .rows 1 (rowsA rowB s1))]) 14 fun _ => (.rows rfl .nil)) (fun i1 s1 => .sel 1760 (.reg 0 (.ix 1766 rowI r1 (i1 : Int) fun e1 => .use 1 1766 (.reg 0 (.b1 1768 (idxN k1 (i1 : Int)) (fun k2 => .k k2) (fun k2 hk2 => (midx_side hk2)) fun k2 => .b1 1770 (s1[k2]?) (fun e2 => .aw (rowA (rowB e2)) (rowsA rowB (s1.set k2 (e1 == (-1))))) (fun e2 he2 => (sto_side rowB (e1 == (-1)) he2)) fun e2 => .us [(4, 1768), (5, 1770)] (.ret (.inl (s1.set k2 (e1 == (-1)))))))))) fun os1 => .case os1 (fun s1 => .sel 1760 (.bind (eqN k1 s1.length) (fun _ => []) (fun _ _ => .nil) fun g2 => .fin [9] (.mslice 9 0 k1) [(9, .rows 1 (rowsA rowB s1))] (.slice (List.map rowB s1)) (snap_of _ _ _ (snapC (snapE rowB 9 1 k1 s1 g2.down rfl) snapN)) s1)) fun _ => .none))))))))
theorem t_Safe (c : ContractT) (a : ArenaT) (res : List Bool) (hd : d_Safe c a = some res) : APure C0 138 [.agg (ContractT.row c), .agg (ArenaT.row a)] (.slice (List.map rowB res)) :=
  Plan.pure (iv := fun res => .slice (List.map rowB res)) (p_Safe c a) (by kernel_rfl) (Plan.run_of hd (by kernel_rfl))

noncomputable def d_head19  : Option Bool :=
  (Option.bind (d_example19) fun r1 => (Option.bind (d_Build r1 0) fun r2 => (Option.bind (d_Ranks r1 r2.1) fun r3 => (Option.bind (d_Safe r1 r2.1) fun r4 => (Option.bind (d_Build r1 1) fun r5 => (Option.bind (d_Ranks r1 r5.1) fun r6 => (Option.bind (bif ((r3.length : Int) == 8) then (bif ((r4.length : Int) == 8) then (Option.bind (d_Safe r1 ({ r2.1 with party := 2 } : ArenaT)) fun r7 => (bif ((r7.length : Int) == 0) then some ((r6.length : Int) == 0) else some true)) else some true) else some true) fun v1 => (bif v1 then some false else (Option.bind (bif (r2.2 == 0) then (bif (r5.2 == 0) then (Option.bind (idxI r3 0) fun e1 => (bif (e1 == (-1)) then (Option.bind (idxI r3 1) fun e2 => (bif (e2 == 1) then (Option.bind (idxI r3 2) fun e3 => (bif (e3 == (-1)) then (Option.bind (idxI r3 3) fun e4 => (bif (e4 == 0) then (Option.bind (idxI r3 5) fun e5 => (bif (e5 == 0) then (Option.bind (idxI r4 0) fun e6 => (bif e6 then (Option.bind (idxI r4 1) fun e7 => (bif e7 then some false else (Option.bind (idxI r4 2) fun e8 => (bif e8 then (Option.bind (idxI r4 3) fun e9 => (bif e9 then some false else (Option.bind (idxI r6 0) fun e10 => some (e10 == (-1))))) else some false)))) else some false)) else some false)) else some false)) else some false)) else some false)) else some false)) else some false) else some false) fun v2 => some v2)))))))))
noncomputable def p_head19  : Plan Bool :=
  .reg 1 (.call 1806 t_example19 fun r1 => .use 0 1806 (.reg 0 (.call 1808 (t_Build r1 0) fun r2 => .use 1 1808 (.reg 0 (.call 1810 (t_Ranks r1 r2.1) fun r3 => .use 2 1810 (.reg 0 (.call 1812 (t_Safe r1 r2.1) fun r4 => .use 2 1812 (.reg 0 (.call 1814 (t_Build r1 1) fun r5 => .use 1 1814 (.reg 0 (.call 1816 (t_Ranks r1 r5.1) fun r6 => .use 2 1816 (.cut (β := Bool) 3 (.e [3, 4, 5, 7, 8] (fun v1 => [(49, vB v1)]) [2, 9, 25] 54) (.reg 0 (.ite 1776 ((r3.length : Int) == 8) (.ite 1778 ((r4.length : Int) == 8) (.call 1818 (t_Safe r1 ({ r2.1 with party := 2 } : ArenaT)) fun r7 => .ite 1780 ((r7.length : Int) == 0) (.ln 1826 rowI r3 (.us [(1, 1826), (4, 1777)] (.ln 1824 rowB r4 (.us [(5, 1824), (9, 1779), (11, 1818)] (.ln 1822 rowB r7 (.us [(12, 1822), (16, 1781)] (.ln 1820 rowI r6 (.use 17 1820 (.ret ((r6.length : Int) == 0)))))))))) (.ln 1832 rowI r3 (.us [(1, 1832), (4, 1777)] (.ln 1830 rowB r4 (.us [(5, 1830), (9, 1779), (11, 1818)] (.ln 1828 rowB r7 (.us [(12, 1828), (16, 1781)] (.ret true)))))))) (.ln 1838 rowI r3 (.us [(1, 1838), (4, 1777)] (.ln 1836 rowB r4 (.us [(5, 1836), (9, 1779)] (.f1 1834 (.g true) (rfl : true = true) (.use 16 1834 (.ret true)))))))) (.ln 1844 rowI r3 (.us [(1, 1844), (4, 1777)] (.f1 1842 (.g true) (rfl : true = true) (.use 9 1842 (.f1 1840 (.g true) (rfl : true = true) (.use 16 1840 (.ret true))))))))) fun v1 => .ite 1782 v1 (.sel 1782 (.ret false)) (.sel 1782 (.cut (β := Bool) 1 (.e [] (fun v2 => [(0, vB v2)]) [2, 9, 25] 119) (.reg 0 (.ite 1784 (r2.2 == 0) (.ite 1786 (r5.2 == 0) (.ix 1846 rowI r3 0 fun e1 => .ite 1788 (e1 == (-1)) (.ix 1848 rowI r3 1 fun e2 => .ite 1790 (e2 == 1) (.ix 1850 rowI r3 2 fun e3 => .ite 1792 (e3 == (-1)) (.ix 1852 rowI r3 3 fun e4 => .ite 1794 (e4 == 0) (.ix 1854 rowI r3 5 fun e5 => .ite 1796 (e5 == 0) (.ix 1856 rowB r4 0 fun e6 => .ite 1798 e6 (.ix 1858 rowB r4 1 fun e7 => .ite 1800 e7 (.us [(3, 1784), (7, 1786), (8, 1846), (13, 1788), (14, 1848), (19, 1790), (20, 1850), (25, 1792), (26, 1852), (31, 1794), (32, 1854), (37, 1796), (38, 1856), (42, 1798), (43, 1858), (48, 1801)] (.f1 1862 (.g false) (rfl : false = false) (.use 53 1862 (.f1 1860 (.g false) (rfl : false = false) (.use 59 1860 (.ret false)))))) (.ix 1864 rowB r4 2 fun e8 => .ite 1802 e8 (.ix 1866 rowB r4 3 fun e9 => .ite 1804 e9 (.us [(3, 1784), (7, 1786), (8, 1846), (13, 1788), (14, 1848), (19, 1790), (20, 1850), (25, 1792), (26, 1852), (31, 1794), (32, 1854), (37, 1796), (38, 1856), (42, 1798), (43, 1858), (48, 1801), (49, 1864), (53, 1802), (54, 1866), (59, 1805)] (.ret false)) (.ix 1868 rowI r6 0 fun e10 => .us [(3, 1784), (7, 1786), (8, 1846), (13, 1788), (14, 1848), (19, 1790), (20, 1850), (25, 1792), (26, 1852), (31, 1794), (32, 1854), (37, 1796), (38, 1856), (42, 1798), (43, 1858), (48, 1801), (49, 1864), (53, 1802), (54, 1866), (59, 1805), (60, 1868)] (.ret (e10 == (-1))))) (.us [(3, 1784), (7, 1786), (8, 1846), (13, 1788), (14, 1848), (19, 1790), (20, 1850), (25, 1792), (26, 1852), (31, 1794), (32, 1854), (37, 1796), (38, 1856), (42, 1798), (43, 1858), (48, 1801), (49, 1864), (53, 1802)] (.f1 1870 (.g false) (rfl : false = false) (.use 59 1870 (.ret false)))))) (.us [(3, 1784), (7, 1786), (8, 1846), (13, 1788), (14, 1848), (19, 1790), (20, 1850), (25, 1792), (26, 1852), (31, 1794), (32, 1854), (37, 1796), (38, 1856), (42, 1798)] (.f1 1876 (.g false) (rfl : false = false) (.use 48 1876 (.f1 1874 (.g false) (rfl : false = false) (.use 53 1874 (.f1 1872 (.g false) (rfl : false = false) (.use 59 1872 (.ret false))))))))) (.us [(3, 1784), (7, 1786), (8, 1846), (13, 1788), (14, 1848), (19, 1790), (20, 1850), (25, 1792), (26, 1852), (31, 1794), (32, 1854), (37, 1796)] (.f1 1884 (.g false) (rfl : false = false) (.use 42 1884 (.f1 1882 (.g false) (rfl : false = false) (.use 48 1882 (.f1 1880 (.g false) (rfl : false = false) (.use 53 1880 (.f1 1878 (.g false) (rfl : false = false) (.use 59 1878 (.ret false))))))))))) (.us [(3, 1784), (7, 1786), (8, 1846), (13, 1788), (14, 1848), (19, 1790), (20, 1850), (25, 1792), (26, 1852), (31, 1794)] (.f1 1894 (.g false) (rfl : false = false) (.use 37 1894 (.f1 1892 (.g false) (rfl : false = false) (.use 42 1892 (.f1 1890 (.g false) (rfl : false = false) (.use 48 1890 (.f1 1888 (.g false) (rfl : false = false) (.use 53 1888 (.f1 1886 (.g false) (rfl : false = false) (.use 59 1886 (.ret false))))))))))))) (.us [(3, 1784), (7, 1786), (8, 1846), (13, 1788), (14, 1848), (19, 1790), (20, 1850), (25, 1792)] (.f1 1906 (.g false) (rfl : false = false) (.use 31 1906 (.f1 1904 (.g false) (rfl : false = false) (.use 37 1904 (.f1 1902 (.g false) (rfl : false = false) (.use 42 1902 (.f1 1900 (.g false) (rfl : false = false) (.use 48 1900 (.f1 1898 (.g false) (rfl : false = false) (.use 53 1898 (.f1 1896 (.g false) (rfl : false = false) (.use 59 1896 (.ret false))))))))))))))) (.us [(3, 1784), (7, 1786), (8, 1846), (13, 1788), (14, 1848), (19, 1790)] (.f1 1920 (.g false) (rfl : false = false) (.use 25 1920 (.f1 1918 (.g false) (rfl : false = false) (.use 31 1918 (.f1 1916 (.g false) (rfl : false = false) (.use 37 1916 (.f1 1914 (.g false) (rfl : false = false) (.use 42 1914 (.f1 1912 (.g false) (rfl : false = false) (.use 48 1912 (.f1 1910 (.g false) (rfl : false = false) (.use 53 1910 (.f1 1908 (.g false) (rfl : false = false) (.use 59 1908 (.ret false))))))))))))))))) (.us [(3, 1784), (7, 1786), (8, 1846), (13, 1788)] (.f1 1936 (.g false) (rfl : false = false) (.use 19 1936 (.f1 1934 (.g false) (rfl : false = false) (.use 25 1934 (.f1 1932 (.g false) (rfl : false = false) (.use 31 1932 (.f1 1930 (.g false) (rfl : false = false) (.use 37 1930 (.f1 1928 (.g false) (rfl : false = false) (.use 42 1928 (.f1 1926 (.g false) (rfl : false = false) (.use 48 1926 (.f1 1924 (.g false) (rfl : false = false) (.use 53 1924 (.f1 1922 (.g false) (rfl : false = false) (.use 59 1922 (.ret false))))))))))))))))))) (.us [(3, 1784), (7, 1786)] (.f1 1954 (.g false) (rfl : false = false) (.use 13 1954 (.f1 1952 (.g false) (rfl : false = false) (.use 19 1952 (.f1 1950 (.g false) (rfl : false = false) (.use 25 1950 (.f1 1948 (.g false) (rfl : false = false) (.use 31 1948 (.f1 1946 (.g false) (rfl : false = false) (.use 37 1946 (.f1 1944 (.g false) (rfl : false = false) (.use 42 1944 (.f1 1942 (.g false) (rfl : false = false) (.use 48 1942 (.f1 1940 (.g false) (rfl : false = false) (.use 53 1940 (.f1 1938 (.g false) (rfl : false = false) (.use 59 1938 (.ret false))))))))))))))))))))) (.use 3 1784 (.f1 1974 (.g false) (rfl : false = false) (.use 7 1974 (.f1 1972 (.g false) (rfl : false = false) (.use 13 1972 (.f1 1970 (.g false) (rfl : false = false) (.use 19 1970 (.f1 1968 (.g false) (rfl : false = false) (.use 25 1968 (.f1 1966 (.g false) (rfl : false = false) (.use 31 1966 (.f1 1964 (.g false) (rfl : false = false) (.use 37 1964 (.f1 1962 (.g false) (rfl : false = false) (.use 42 1962 (.f1 1960 (.g false) (rfl : false = false) (.use 48 1960 (.f1 1958 (.g false) (rfl : false = false) (.use 53 1958 (.f1 1956 (.g false) (rfl : false = false) (.use 59 1956 (.ret false)))))))))))))))))))))))) fun v2 => .ret v2))))))))))))))
theorem t_head19  (res : Bool) (hd : d_head19  = some res) : APure C0 131 [] (.bool res) :=
  Plan.pure (iv := fun res => .bool res) (p_head19 ) (by kernel_rfl) (Plan.run_of hd (by kernel_rfl))

noncomputable def d_Small15 (c : ContractT) (n : Int) : Option Bool :=
  (Option.bind (bif decide (20 < (c.holders.length : Int)) then some true else (bif decide (30 < (c.units.length : Int)) then some true else (bif decide (70 < (c.acts.length : Int)) then some true else (bif decide (n < (c.clauses.length : Int)) then some true else some (decide (100 < (c.off.length : Int))))))) fun v1 => (bif v1 then some false else (Option.bind (forR (σ := Unit) (ρ := Unit) (c.clauses.length : Int) (fun i1 s1 => (Option.bind (idxI c.clauses (i1 : Int)) fun e1 => (bif decide (20 < (e1.start.length : Int)) then some (.inr ()) else some (.inl ())))) ()) (Sum.elim (fun (s1 : Unit) => some true) (fun (y1 : Unit) => some false)))))
noncomputable def p_Small15 (c : ContractT) (n : Int) : Plan Bool :=
  .cut (β := Bool) 3 (.e [2] (fun v1 => [(34, vB v1)]) [0] 31) (.reg 0 (.ite 1976 (decide (20 < (c.holders.length : Int))) (.ln 1996 rowI c.holders (.us [(2, 1996), (5, 1976)] (.f1 1994 (.g true) (rfl : true = true) (.use 11 1994 (.f1 1992 (.g true) (rfl : true = true) (.use 17 1992 (.f1 1990 (.g true) (rfl : true = true) (.use 24 1990 (.ret true))))))))) (.ite 1978 (decide (30 < (c.units.length : Int))) (.ln 2004 rowI c.holders (.us [(2, 2004), (5, 1976)] (.ln 2002 UnitT.row c.units (.us [(7, 2002), (11, 1978)] (.f1 2000 (.g true) (rfl : true = true) (.use 17 2000 (.f1 1998 (.g true) (rfl : true = true) (.use 24 1998 (.ret true))))))))) (.ite 1980 (decide (70 < (c.acts.length : Int))) (.ln 2012 rowI c.holders (.us [(2, 2012), (5, 1976)] (.ln 2010 UnitT.row c.units (.us [(7, 2010), (11, 1978)] (.ln 2008 ActT.row c.acts (.us [(13, 2008), (17, 1980)] (.f1 2006 (.g true) (rfl : true = true) (.use 24 2006 (.ret true))))))))) (.ite 1982 (decide (n < (c.clauses.length : Int))) (.ln 2020 rowI c.holders (.us [(2, 2020), (5, 1976)] (.ln 2018 UnitT.row c.units (.us [(7, 2018), (11, 1978)] (.ln 2016 ActT.row c.acts (.us [(13, 2016), (17, 1980)] (.ln 2014 ClauseT.row c.clauses (.us [(19, 2014), (24, 1982)] (.ret true))))))))) (.ln 2030 rowI c.holders (.us [(2, 2030), (5, 1976)] (.ln 2028 UnitT.row c.units (.us [(7, 2028), (11, 1978)] (.ln 2026 ActT.row c.acts (.us [(13, 2026), (17, 1980)] (.ln 2024 ClauseT.row c.clauses (.us [(19, 2024), (24, 1982)] (.ln 2022 rowI c.off (.use 26 2022 (.ret (decide (100 < (c.off.length : Int))))))))))))))))))) fun v1 => .ite 1984 v1 (.sel 1984 (.ret false)) (.sel 1984 (.forR (σ := Unit) (ρ := Unit) 1986 5 (c.clauses.length : Int) () (.e [2] (fun _ => []) [0] 32) (fun i1 s1 => .reg 0 (.ln 2036 ClauseT.row c.clauses (.use 3 2036 (.sel 1986 (.reg 0 (.ix 2032 ClauseT.row c.clauses (i1 : Int) fun e1 => .use 3 2032 (.ln 2034 CondT.row e1.start (.use 6 2034 (.ite 1988 (decide (20 < (e1.start.length : Int))) (.sel 1988 (.ret (.inr ()))) (.sel 1988 (.ret (.inl ())))))))))))) fun os1 => .case os1 (fun s1 => .reg 0 (.ln 2038 ClauseT.row c.clauses (.use 3 2038 (.sel 1986 (.ret true))))) fun y1 => .ret false))
theorem t_Small15 (c : ContractT) (n : Int) (res : Bool) (hd : d_Small15 c n = some res) : APure C0 94 [.agg (ContractT.row c), .int .i64 n] (.bool res) :=
  Plan.pure (iv := fun res => .bool res) (p_Small15 c n) (by kernel_rfl) (Plan.run_of hd (by kernel_rfl))

noncomputable def d_Tame (c : ContractT) : Option Bool :=
  (Option.bind (Option.bind (d_Small15 c 6) fun r1 => (bif r1 then (bif decide ((c.acts.length : Int) ≤ 8) then some (decide (c.days ≤ 20)) else some false) else some false)) fun v1 => some v1)
noncomputable def p_Tame (c : ContractT) : Plan Bool :=
  .cut (β := Bool) 2 (.e [] (fun v1 => [(2, vB v1)]) [0] 16) (.reg 0 (.call 2044 (t_Small15 c 6) fun r1 => .ite 2040 r1 (.ite 2042 (decide ((c.acts.length : Int) ≤ 8)) (.us [(1, 2044), (3, 2040)] (.ln 2046 ActT.row c.acts (.us [(5, 2046), (9, 2042)] (.ret (decide (c.days ≤ 20)))))) (.us [(1, 2044), (3, 2040)] (.ln 2048 ActT.row c.acts (.us [(5, 2048), (9, 2042)] (.ret false))))) (.us [(1, 2044), (3, 2040)] (.f1 2050 (.g false) (rfl : false = false) (.use 9 2050 (.ret false)))))) fun v1 => .ret v1
theorem t_Tame (c : ContractT) (res : Bool) (hd : d_Tame c = some res) : APure C0 97 [.agg (ContractT.row c)] (.bool res) :=
  Plan.pure (iv := fun res => .bool res) (p_Tame c) (by kernel_rfl) (Plan.run_of hd (by kernel_rfl))

noncomputable def d_RegionBreach (c : ContractT) (party : Int) : Option Bool :=
  (Option.bind (d_head19) fun r1 => (Option.bind (d_Tame c) fun r2 => (bif r2 then (Option.bind (d_Build c party) fun r3 => (Option.bind (d_Ranks c r3.1) fun r4 => (bif (r3.2 == 0) then (Option.bind (bif ((r4.length : Int) == (r3.1.positions.length : Int)) then some (!((r3.1.moves.length : Int) == (r4.length : Int))) else some true) fun v2 => (bif v2 then some false else (Option.bind (forR (σ := Unit) (ρ := Unit) (r4.length : Int) (fun i1 s1 => (Option.bind (α := Unit ⊕ Unit) (Option.bind (iter (σ := Int) (ρ := Unit ⊕ Unit) (fun s2 => (Option.bind (idxI r3.1.moves (i1 : Int)) fun e1 => (bif decide (s2 < (e1.length : Int)) then (Option.bind (Option.bind (idxI r4 (i1 : Int)) fun e2 => (bif (e2 == 0) then (Option.bind (idxI r3.1.moves (i1 : Int)) fun e3 => (Option.bind (idxI e3 s2) fun e4 => (Option.bind (idxI r4 e4.to) fun e5 => some (!(e5 == 0))))) else some false)) fun v3 => (bif v3 then some (.inr (.inr ())) else some (.inl (IntKind.i64.wrap (s2 + 1))))) else some (.inr (.inl ()))))) 0) (Sum.elim (fun (y1 : Unit) => some (.inl ())) (fun (y2 : Unit) => some (.inr ())))) (Sum.elim (fun (v4 : Unit) => some (.inl ())) (fun (y3 : Unit) => some (.inr ()))))) ()) (Sum.elim (fun (s1 : Unit) => some r1) (fun (y4 : Unit) => some false))))) else (Option.bind (bif r1 then some ((r4.length : Int) == 0) else some false) fun v1 => some v1)))) else some r1)))
noncomputable def p_RegionBreach (c : ContractT) (party : Int) : Plan Bool :=
  .reg 1 (.call 2226 t_head19 fun r1 => .use 0 2226 (.reg 0 (.call 2228 (t_Tame c) fun r2 => .use 1 2228 (.ite 2206 r2 (.sel 2207 (.reg 0 (.call 2230 (t_Build c party) fun r3 => .use 2 2230 (.reg 0 (.call 2232 (t_Ranks c r3.1) fun r4 => .use 2 2232 (.ite 2208 (r3.2 == 0) (.sel 2209 (.cut (β := Bool) 2 (.e [5, 6, 8] (fun v2 => [(46, vB v2)]) [0, 13] 36) (.reg 0 (.ite 2212 ((r4.length : Int) == (r3.1.positions.length : Int)) (.ln 2242 rowI r4 (.use 1 2242 (.ln 2240 PosT.row r3.1.positions (.us [(4, 2240), (7, 2213)] (.ln 2238 (rowL MoveT.row) r3.1.moves (.use 9 2238 (.ln 2236 rowI r4 (.use 11 2236 (.ret (!((r3.1.moves.length : Int) == (r4.length : Int)))))))))))) (.ln 2246 rowI r4 (.use 1 2246 (.ln 2244 PosT.row r3.1.positions (.us [(4, 2244), (7, 2213)] (.ret true))))))) fun v2 => .ite 2214 v2 (.sel 2214 (.ret false)) (.sel 2214 (.forR (σ := Unit) (ρ := Unit) 2216 9 (r4.length : Int) () (.e [5, 6, 8] (fun _ => []) [13] 37) (fun i1 s1 => .reg 0 (.ln 2260 rowI r4 (.use 2 2260 (.sel 2216 (.cutO (β := Unit) (γ := Unit) 1 (.e [5, 6, 8, 9] (fun _ => []) [13] 42) (.iter (σ := Int) (ρ := Unit ⊕ Unit) 0 (.e [5, 6, 8, 9] (fun s2 => [(10, vI s2)]) [13] 42) (fun s2 => .reg 0 (.ix 2248 (rowL MoveT.row) r3.1.moves (i1 : Int) fun e1 => .use 4 2248 (.ln 2258 MoveT.row e1 (.use 6 2258 (.ite 2220 (decide (s2 < (e1.length : Int))) (.sel 2220 (.cut (β := Bool) 3 (.e [5, 6, 8, 9, 10] (fun v3 => [(82, vB v3)]) [13] 70) (.reg 0 (.ix 2250 rowI r4 (i1 : Int) fun e2 => .ite 2222 (e2 == 0) (.ix 2252 (rowL MoveT.row) r3.1.moves (i1 : Int) fun e3 => .ix 2254 MoveT.row e3 s2 fun e4 => .ix 2256 rowI r4 e4.to fun e5 => .us [(2, 2250), (6, 2222), (10, 2252), (13, 2254), (16, 2256)] (.ret (!(e5 == 0)))) (.us [(2, 2250), (6, 2222)] (.ret false)))) fun v3 => .ite 2224 v3 (.sel 2224 (.ret (.inr (.inr ())))) (.sel 2224 (.ret (.inl (IntKind.i64.wrap (s2 + 1))))))) (.sel 2220 (.ret (.inr (.inl ()))))))))) fun os2 => .case os2 (fun y1 => .ret (.inl ())) fun y2 => .ret (.inr ())) fun o_v4 => .case o_v4 (fun v4 => .ret (.inl ())) fun y3 => .ret (.inr ())))))) fun os1 => .case os1 (fun s1 => .reg 0 (.ln 2262 rowI r4 (.use 2 2262 (.sel 2216 (.ret r1))))) fun y4 => .ret false)))) (.sel 2209 (.cut (β := Bool) 1 (.e [] (fun v1 => [(4, vB v1)]) [0, 13] 29) (.reg 0 (.ite 2210 r1 (.use 2 2210 (.ln 2234 rowI r4 (.use 3 2234 (.ret ((r4.length : Int) == 0))))) (.use 2 2210 (.ret false)))) fun v1 => .ret v1)))))))) (.sel 2207 (.ret r1))))))
theorem t_RegionBreach (c : ContractT) (party : Int) (res : Bool) (hd : d_RegionBreach c party = some res) : APure C0 128 [.agg (ContractT.row c), .int .i64 party] (.bool res) :=
  Plan.pure (iv := fun res => .bool res) (p_RegionBreach c party) (by kernel_rfl) (Plan.run_of hd (by kernel_rfl))

end Go.Proofs.YtieofodomlodhaaDoor
namespace Go.Proofs.YtieofodomlodhaaDoor
set_option linter.unusedVariables false
set_option linter.unusedSimpArgs false
set_option maxRecDepth 100000

theorem gcd_total (a b : Int) : ∃ r, iter (σ := Int × Int) (ρ := Int) (fun s2 => (bif (s2.2 == 0) then some (.inr s2.1) else (Option.bind (remI .u64 s2.1 s2.2) fun e2 => some (.inl (s2.2, e2))))) (a, b) = some r := by
  have := iter_rule (f := fun s2 : Int × Int => (bif (s2.2 == 0) then some (.inr s2.1) else (Option.bind (remI .u64 s2.1 s2.2) fun e2 => some (.inl (s2.2, e2))))) (fun _ => True) (fun _ : Int => True) (fun s => s.2.natAbs) (fun s _ => by
    by_cases h : s.2 = 0
    · exact ⟨.inr s.1, by simp [h], trivial⟩
    · refine ⟨.inl (s.2, s.1.tmod s.2), by simp [beq_eq_false_iff_ne.2 h, h, remI], trivial, ?_⟩
      show (s.1.tmod s.2).natAbs < s.2.natAbs
      rw [Int.natAbs_tmod]
      exact Nat.mod_lt _ (by omega)) (a, b) trivial
  obtain ⟨r, h, _⟩ := this
  exact ⟨r, h⟩

theorem divisor_total (l : List Int) (hl : l.length < 1000) : ∃ r, d_divisor l = some r := by
  unfold d_divisor
  obtain ⟨o, h1, h2⟩ := forR_ruleL (n := l.length) (s0 := (0 : Int)) (f := (fun i1 s1 => (Option.bind (Option.bind (idxI l (i1 : Int)) fun e1 => (Option.bind (iter (σ := Int × Int) (ρ := Int) (fun s2 => (bif (s2.2 == 0) then some (.inr s2.1) else (Option.bind (remI .u64 s2.1 s2.2) fun e2 => some (.inl (s2.2, e2))))) (s1, e1)) (fun (y1 : Int) => some y1))) fun (v1 : Int) => some (.inl v1)))) (fun _ _ => True) (fun _ : Unit => False) (by omega) trivial (fun i s hi _ => by
    obtain ⟨r, hr⟩ := gcd_total s l[i]
    exact ⟨.inl r, by simp only [idxI_nat', List.getElem?_eq_getElem hi, Option.bind_some, hr], trivial⟩)
  rw [h1]
  cases o with
  | inl s => exact ⟨s, rfl⟩
  | inr r => exact h2.elim

theorem magnitude_total (n : Int) : ∃ r, d_magnitude n = some r := by
  unfold d_magnitude; simp only [cond_some]; exact ⟨_, rfl⟩

noncomputable def rvB (r : Ratio) : Bool := (d_ratioValid r).getD false
theorem s_ratioValid (r : Ratio) : d_ratioValid r = some (rvB r) := by
  have : ∃ b, d_ratioValid r = some b := by
    unfold d_ratioValid
    obtain ⟨a, ha⟩ := magnitude_total r.num
    obtain ⟨b, hb⟩ := magnitude_total r.den
    obtain ⟨g, hg⟩ := divisor_total [a, b] (by simp)
    simp only [ha, hb, hg, cond_some, Option.bind_some]
    exact ⟨_, rfl⟩
  obtain ⟨b, hb⟩ := this
  unfold rvB; rw [hb]; rfl

def snd0 (x : Option (Int × Bool)) : Bool := (x.getD (0, false)).2
theorem snd0_of {x : Option (Int × Bool)} {r : Int × Bool} (h : x = some r) : x = some (r.1, snd0 x) := by subst h; rfl
noncomputable def quB (l : List UnitT) : Bool := snd0 (d_quantityValid l)
theorem unitValid_total (t : List UnitT) (i : Nat) (hi : i < t.length) (ht : t.length < 1000) : ∃ b, d_unitValid t i = some b := by
  unfold d_unitValid
  have hs : slcI t 0 (i : Int) = some (t.take i) := by
    unfold slcI; rw [if_pos ⟨by omega, by omega, by omega⟩]; simp
  have hf : forR (σ := Unit) (ρ := Unit) ((t.take i).length : Int) (fun i1 s1 => (Option.bind (idxI (t.take i) (i1 : Int)) fun e3 => (bif (e3.name.toList == t[i].name.toList) then some (.inr ()) else some (.inl ())))) () = some (match (List.range (t.take i).length).find? (fun j => !(match (t.take i)[j]? with | some e => !(e.name.toList == t[i].name.toList) | none => true)) with | none => .inl () | some j => .inr ()) := by
    refine forR_first _ (fun _ => ()) (by simp; omega) (fun j hj => ?_)
    simp only [idxI_nat', List.getElem?_eq_getElem hj, Option.bind_some]
    cases ((t.take i)[j].name.toList == t[i].name.toList) <;> rfl
  rw [idxI_at (List.getElem?_eq_getElem hi)]
  simp only [Option.bind_some]
  rw [hs]
  simp only [Option.bind_some]
  rw [hf]
  simp only [s_ratioValid, cond_some, Option.bind_some, d_isIndex]
  split
  all_goals simp only [Sum.elim_inl, Sum.elim_inr, cond_some]
  · by_cases hb : 0 ≤ t[i].base ∧ t[i].base < t.length
    · obtain ⟨h1, h2⟩ := idxI_lt hb.1 hb.2
      simp only [h2, Option.bind_some, cond_some]
      exact ⟨_, rfl⟩
    · by_cases h1 : 0 ≤ t[i].base
      · have : ¬ t[i].base < t.length := fun h => hb ⟨h1, h⟩
        simp only [h1, this, decide_true, decide_false, cond_true, cond_false, Option.bind_some, cond_some]
        exact ⟨_, rfl⟩
      · simp only [h1, decide_false, cond_false, Option.bind_some, cond_some]
        exact ⟨_, rfl⟩
  · exact ⟨_, rfl⟩

theorem s_quantityValid (l : List UnitT) (hl : l.length < 1000) : ∃ k, d_quantityValid l = some (k, quB l) := by
  have : ∃ r, d_quantityValid l = some r := by
    unfold d_quantityValid
    obtain ⟨o, h1, h2⟩ := forR_ruleL (n := l.length) (s0 := ()) (f := (fun i1 s1 => (Option.bind (d_unitValid l (i1 : Int)) fun r1 => (bif r1 then some (.inl ()) else some (.inr (i1 : Int)))))) (fun _ _ => True) (fun _ : Int => True) (by omega) trivial (fun i s hi _ => by
      obtain ⟨b, hb⟩ := unitValid_total l i hi hl
      cases b with
      | true => exact ⟨.inl (), by simp [hb], trivial⟩
      | false => exact ⟨.inr i, by simp [hb], trivial⟩)
    rw [h1]
    cases o with
    | inl s => exact ⟨_, rfl⟩
    | inr r => exact ⟨_, rfl⟩
  obtain ⟨r, hr⟩ := this
  exact ⟨r.1, snd0_of hr⟩

def movB (nh : Nat) (r : Int) : Bool := decide (0 ≤ r) && decide (r < nh)
theorem s_movable (c : ContractT) (r : Int) : d_movable c r = some (movB c.holders.length r) := by
  simp only [d_movable, cond_some, Option.bind_some, movB, Bool.cond_false_right]
noncomputable def posB (r : Ratio) : Bool := decide (0 < r.num) && rvB r
theorem s_positive (r : Ratio) : d_positive r = some (posB r) := by
  simp only [d_positive, s_ratioValid, cond_some, Option.bind_some, posB, Bool.cond_false_right]
def noneB (r : Ratio) : Bool := r.num == 0 && (r.den == 1 && true)
noncomputable def actB (nh nu : Nat) (parties : Int) (a : ActT) : Bool :=
  bif movB nh a.role then
    (bif a.kind == 1 then (a.give == 0 && (a.to == -1 || movB nh a.to)) && (bif a.unit == -1 then noneB a.lot else (decide (0 ≤ a.unit) && (decide (a.unit < nu) && posB a.lot)))
    else (a.kind == 2 || a.kind == 3) && (movB nh a.give && (decide (0 ≤ a.to) && (decide (a.to < parties) && (a.unit == -1 && noneB a.lot)))))
  else a.kind == 1 && (a.role == -1 && (a.give == 0 && ((a.to == -1 || movB nh a.to) && (a.unit == -1 && noneB a.lot))))
theorem s_validAct (c : ContractT) (a : ActT) : d_validAct c a = some (actB c.holders.length c.units.length c.parties a) := by
  simp only [d_validAct, s_movable, s_positive, d_none, Option.bind_some, cond_some, actB, noneB]
  cases movB c.holders.length a.role <;> cases (a.kind == 1) <;> cases (a.give == 0) <;> cases (a.to == -1) <;> cases (movB c.holders.length a.to) <;> cases (a.unit == -1) <;>
    simp only [cond_true, cond_false, Bool.not_true, Bool.not_false, Option.bind_some, Bool.true_or, Bool.false_or, Bool.true_and, Bool.false_and, cond_some, Bool.cond_false_right, Bool.cond_self, Bool.and_false] <;>
    first | rfl | (cases (a.role == -1) <;> rfl) | (cases (a.kind == 2) <;> rfl)

def heldB (parties : Int) (hs : List Int) : Bool := hs.all fun h => decide (0 ≤ h) && decide (h < parties)
theorem s_held (c : ContractT) (hp : c.parties < 4611686018427387904) (hl : c.holders.length < 4611686018427387904) : d_held c = some (heldB c.parties c.holders) := by
  unfold d_held
  have hin : ∀ (i : Nat) (hi : i < c.holders.length), (Option.bind (α := Unit ⊕ Unit) (Option.bind (forR (σ := Unit) (ρ := Unit) c.parties (fun i2 s2 => (Option.bind (idxI c.holders (i : Int)) fun e1 => (bif (e1 == (i2 : Int)) then some (.inr ()) else some (.inl ())))) ()) (Sum.elim (fun (s2 : Unit) => some (.inr ())) (fun (y1 : Unit) => some (.inl ())))) (Sum.elim (fun (v1 : Unit) => some (.inl ())) (fun (y2 : Unit) => some (.inr ())))) =
      some (bif decide (0 ≤ c.holders[i]) && decide (c.holders[i] < c.parties) then (.inl () : Unit ⊕ Unit) else .inr ()) := fun i hi => by
    obtain ⟨o, h1, h2⟩ := forR_rule (n := c.parties) (s0 := ()) (f := (fun i2 s2 => (Option.bind (idxI c.holders (i : Int)) fun e1 => (bif (e1 == (i2 : Int)) then some (.inr ()) else some (.inl ()))))) (fun k _ => ∀ j : Nat, j < k → c.holders[i] ≠ (j : Int)) (fun _ : Unit => 0 ≤ c.holders[i] ∧ c.holders[i] < c.parties) hp (fun j hj => by omega) (fun k s hk hI => by
      simp only [idxI_nat', List.getElem?_eq_getElem hi, Option.bind_some]
      by_cases he : c.holders[i] = (k : Int)
      · exact ⟨.inr (), by simp [he], by show 0 ≤ c.holders[i] ∧ c.holders[i] < c.parties; omega⟩
      · refine ⟨.inl (), by rw [beq_eq_false_iff_ne.2 he]; rfl, fun j hj => ?_⟩
        rcases Nat.lt_or_ge j k with h | h
        · exact hI j h
        · obtain rfl : j = k := by omega
          exact he)
    rw [h1]
    cases o with
    | inl s =>
      have : ¬ (0 ≤ c.holders[i] ∧ c.holders[i] < c.parties) := fun h => h2 c.holders[i].toNat (by omega) (by omega)
      have hb : (decide (0 ≤ c.holders[i]) && decide (c.holders[i] < c.parties)) = false := by
        rw [Bool.eq_false_iff]; simp only [ne_eq, Bool.and_eq_true, decide_eq_true_eq]; exact this
      rw [hb]; rfl
    | inr r =>
      have hb : (decide (0 ≤ c.holders[i]) && decide (c.holders[i] < c.parties)) = true := by
        simp only [Bool.and_eq_true, decide_eq_true_eq]; exact h2
      rw [hb]; rfl
  rw [forR_first (fun i => match c.holders[i]? with | some h => decide (0 ≤ h) && decide (h < c.parties) | none => true) (fun _ => ()) hl (fun i hi => by
    rw [hin i hi]; simp only [List.getElem?_eq_getElem hi])]
  cases hf : (List.range c.holders.length).find? (fun j => !(match c.holders[j]? with | some h => decide (0 ≤ h) && decide (h < c.parties) | none => true)) with
  | none =>
    simp only [Option.bind_some, Sum.elim_inl]
    have : heldB c.parties c.holders = true := List.all_eq_true.2 fun h hh => by
      obtain ⟨i, hi, rfl⟩ := List.getElem_of_mem hh
      have := find_none hf i hi
      simpa only [List.getElem?_eq_getElem hi] using this
    rw [this]
  | some k =>
    simp only [Option.bind_some, Sum.elim_inr]
    obtain ⟨h1, h2, _⟩ := find_some hf
    have : heldB c.parties c.holders = false := by
      rw [Bool.eq_false_iff]
      intro h
      have := List.all_eq_true.1 h c.holders[k] (List.getElem_mem h1)
      simp only [List.getElem?_eq_getElem h1] at h2
      rw [h2] at this; cases this
    rw [this]

noncomputable def offB (days : Int) (off : List Int) : Bool := ((Option.bind (forR (σ := Int) (ρ := Unit) (off.length : Int) (fun i2 s2 => (Option.bind (idxI off (i2 : Int)) fun e2 => (Option.bind (bif decide (e2 ≤ s2) then some true else some (decide (days ≤ e2))) fun v2 => (bif v2 then some (.inr ()) else some (.inl e2))))) (-1)) (Sum.elim (fun (s2 : Int) => some true) (fun (y2 : Unit) => some false)))).getD false
theorem s_off (days : Int) (off : List Int) (hl : off.length < 4611686018427387904) : (Option.bind (forR (σ := Int) (ρ := Unit) (off.length : Int) (fun i2 s2 => (Option.bind (idxI off (i2 : Int)) fun e2 => (Option.bind (bif decide (e2 ≤ s2) then some true else some (decide (days ≤ e2))) fun v2 => (bif v2 then some (.inr ()) else some (.inl e2))))) (-1)) (Sum.elim (fun (s2 : Int) => some true) (fun (y2 : Unit) => some false))) = some (offB days off) := by
  obtain ⟨o, h1, h2⟩ := forR_ruleL (n := off.length) (s0 := (-1 : Int)) (f := (fun i2 s2 => (Option.bind (idxI off (i2 : Int)) fun e2 => (Option.bind (bif decide (e2 ≤ s2) then some true else some (decide (days ≤ e2))) fun v2 => (bif v2 then some (.inr ()) else some (.inl e2)))))) (fun _ _ => True) (fun _ : Unit => True) hl trivial (fun i s hi _ => by
    simp only [idxI_nat', List.getElem?_eq_getElem hi, Option.bind_some, cond_some]
    cases (bif decide (off[i] ≤ s) then true else decide (days ≤ off[i])) with
    | true => exact ⟨.inr (), rfl, trivial⟩
    | false => exact ⟨.inl _, rfl, trivial⟩)
  unfold offB
  rw [h1]
  cases o <;> rfl

noncomputable def framedB (c : ContractT) : Bool :=
  !(decide (c.parties < 1)) && (!(decide (c.days < 1)) && (!((c.holders.length : Int) == 0) && (heldB c.parties c.holders && (quB c.units && (c.acts.all (actB c.holders.length c.units.length c.parties) && offB c.days c.off)))))

theorem forR_all {α : Type} {l : List α} {f : Nat → Unit → Option (Unit ⊕ Unit)} (p : α → Bool) (hl : l.length < 4611686018427387904) (h : ∀ (i : Nat) (hi : i < l.length), f i () = some (bif p l[i] then .inl () else .inr ())) :
    forR (l.length : Int) f () = some (bif l.all p then .inl () else .inr ()) := by
  rw [forR_first (fun i => match l[i]? with | some x => p x | none => true) (fun _ => ()) hl (fun i hi => by rw [h i hi]; simp only [List.getElem?_eq_getElem hi])]
  cases hf : (List.range l.length).find? (fun j => !(match l[j]? with | some x => p x | none => true)) with
  | none =>
    have : l.all p = true := List.all_eq_true.2 fun x hx => by
      obtain ⟨i, hi, rfl⟩ := List.getElem_of_mem hx
      have := find_none hf i hi
      simpa only [List.getElem?_eq_getElem hi] using this
    rw [this]; rfl
  | some k =>
    obtain ⟨h1, h2, _⟩ := find_some hf
    have : l.all p = false := by
      rw [Bool.eq_false_iff]
      intro h
      have := List.all_eq_true.1 h l[k] (List.getElem_mem h1)
      simp only [List.getElem?_eq_getElem h1] at h2
      rw [h2] at this; cases this
    rw [this]; rfl

theorem s_framed (c : ContractT) (hp : c.parties < 4611686018427387904) (hh : c.holders.length < 4611686018427387904) (hu : c.units.length < 1000) (ha : c.acts.length < 1000) (ho : c.off.length < 4611686018427387904) : d_framed c = some (framedB c) := by
  unfold d_framed
  obtain ⟨k, hk⟩ := s_quantityValid c.units hu
  have hacts := forR_all (l := c.acts) (f := (fun i1 s1 => (Option.bind (idxI c.acts (i1 : Int)) fun e1 => (Option.bind (d_validAct c e1) fun r3 => (bif r3 then some (.inl ()) else some (.inr ())))))) (actB c.holders.length c.units.length c.parties) (by omega) (fun i hi => by
    simp only [idxI_nat', List.getElem?_eq_getElem hi, Option.bind_some, s_validAct, cond_some])
  rw [s_held c hp hh, hk]
  simp only [Option.bind_some]
  rw [hacts]
  simp only [Option.bind_some]
  rw [s_off c.days c.off ho]
  simp only [Option.bind_some, cond_some, framedB]
  cases decide (c.parties < 1) <;> cases decide (c.days < 1) <;> cases ((c.holders.length : Int) == 0) <;> cases heldB c.parties c.holders <;> cases quB c.units <;> cases c.acts.all (actB c.holders.length c.units.length c.parties) <;>
    simp only [cond_true, cond_false, Bool.not_true, Bool.not_false, Option.bind_some, Bool.true_and, Bool.false_and, Sum.elim_inl, Sum.elim_inr]

def natB (acts : List ActT) (a : Int) : Bool := match idxI acts a with
  | some e => e.kind == 1 && e.role == -1
  | none => false
theorem s_natural (c : ContractT) (a : Int) : d_natural c a = some (natB c.acts a) := by
  unfold d_natural natB
  by_cases h : 0 ≤ a ∧ a < c.acts.length
  · obtain ⟨h1, h2⟩ := idxI_lt h.1 h.2
    simp only [h2, h.1, h.2, decide_true, cond_true, Option.bind_some, cond_some, Bool.cond_false_right]
  · rw [idxI_neg h]
    by_cases h1 : 0 ≤ a
    · have : ¬ a < c.acts.length := fun h2 => h ⟨h1, h2⟩
      simp only [h1, this, decide_true, decide_false, cond_true, cond_false, Option.bind_some]
    · simp only [h1, decide_false, cond_false, Option.bind_some]

def kindB (nh : Nat) (acts : List ActT) (k : ClauseT) : Bool :=
  bif k.kind == 4 then k.role == -1 && (k.need == 1 && (k.grace == 0 && !k.final))
  else (movB nh k.role && !natB acts k.act) && (bif k.kind == 1 then decide (1 ≤ k.need) && (decide (k.need ≤ 9) && (decide (0 ≤ k.grace) && decide (k.grace ≤ 400)))
    else bif k.kind == 2 then k.need == 1 && k.grace == 0 else k.kind == 3 && (k.need == 1 && (k.grace == 0 && !k.final)))
theorem s_validKind (c : ContractT) (k : ClauseT) : d_validKind c k = some (kindB c.holders.length c.acts k) := by
  simp only [d_validKind, s_movable, s_natural, Option.bind_some, cond_some, kindB]
  cases (k.kind == 4) <;> cases movB c.holders.length k.role <;> cases natB c.acts k.act <;> cases (k.kind == 1) <;> cases (k.kind == 2) <;> cases (k.kind == 3) <;>
    simp only [cond_true, cond_false, Bool.not_true, Bool.not_false, Option.bind_some, Bool.true_and, Bool.false_and, Bool.and_false, Bool.cond_false_right, cond_some]

def condB (n : Nat) (i : Int) (s : CondT) : Bool := !(decide (s.clause < 0)) && (!(decide ((n : Int) ≤ s.clause)) && (!(s.clause == i) && (!(decide (s.is < 1)) && !(decide (4 < s.is)))))
noncomputable def moneyB (nh : Nat) (units : List UnitT) (k : ClauseT) : Bool :=
  (k.kind == 1 || k.kind == 2) && ((match idxI units k.unit with | some u => u.kind == 2 | none => false) && (posB k.value && movB nh k.to))
def pauseB (acts : List ActT) (k : ClauseT) : Bool := (k.pause == -1 && k.resume == -1) || (!(k.pause == k.resume) && (natB acts k.pause && natB acts k.resume))
noncomputable def clauseB (nh : Nat) (units : List UnitT) (acts : List ActT) (n : Nat) (i : Int) (k : ClauseT) : Bool :=
  (!(decide (k.act < 0)) && (!(decide ((acts.length : Int) ≤ k.act)) && (!(decide (k.after < 1)) && !(decide (400 < k.after))))) &&
  ((kindB nh acts k && !(decide (8 < (k.start.length : Int)))) &&
  (k.start.all (condB n i) &&
  (pauseB acts k &&
  (bif k.unit == -1 then noneB k.value && k.to == -1 else moneyB nh units k))))
theorem s_validClause (c : ContractT) (i : Nat) (k : ClauseT) (hk : c.clauses[i]? = some k) (hs : k.start.length < 4611686018427387904) : d_validClause c i = some (clauseB c.holders.length c.units c.acts c.clauses.length i k) := by
  unfold d_validClause
  have hst := forR_all (l := k.start) (f := (fun i1 s1 => (Option.bind (idxI k.start (i1 : Int)) fun e2 => (Option.bind (bif decide (e2.clause < 0) then some true else (bif decide ((c.clauses.length : Int) ≤ e2.clause) then some true else (bif (e2.clause == (i : Int)) then some true else (bif decide (e2.is < 1) then some true else some (decide (4 < e2.is)))))) fun v3 => (bif v3 then some (.inr ()) else some (.inl ())))))) (condB c.clauses.length i) hs (fun j hj => by
    simp only [idxI_nat', List.getElem?_eq_getElem hj, Option.bind_some, cond_some, condB]
    cases decide (k.start[j].clause < 0) <;> cases decide ((c.clauses.length : Int) ≤ k.start[j].clause) <;> cases (k.start[j].clause == (i : Int)) <;> cases decide (k.start[j].is < 1) <;> cases decide (4 < k.start[j].is) <;> rfl)
  have hu : (bif decide (0 ≤ k.unit) then (bif decide (k.unit < (c.units.length : Int)) then (Option.bind (idxI c.units k.unit) fun e3 => (bif (e3.kind == 2) then (Option.bind (d_positive k.value) fun r5 => (bif r5 then (Option.bind (d_movable c k.to) fun r6 => some r6) else some false)) else some false)) else some false) else some false) =
      some ((match idxI c.units k.unit with | some u => u.kind == 2 | none => false) && (posB k.value && movB c.holders.length k.to)) := by
    by_cases h : 0 ≤ k.unit ∧ k.unit < c.units.length
    · obtain ⟨h1, h2⟩ := idxI_lt h.1 h.2
      simp only [h2, h.1, h.2, decide_true, cond_true, Option.bind_some, cond_some, Bool.cond_false_right, s_positive, s_movable]
    · rw [idxI_neg h]
      by_cases h1 : 0 ≤ k.unit
      · have : ¬ k.unit < c.units.length := fun h2 => h ⟨h1, h2⟩
        simp only [h1, this, decide_true, decide_false, cond_true, cond_false, Bool.false_and]
      · simp only [h1, decide_false, cond_false, Bool.false_and]
  have hp : (Option.bind (bif (k.pause == (-1)) then some (!(k.resume == (-1))) else some true) fun v4 => (bif v4 then (Option.bind (bif (k.pause == k.resume) then some true else (Option.bind (d_natural c k.pause) fun r2 => (bif r2 then (Option.bind (d_natural c k.resume) fun r3 => some (!r3)) else some true))) fun v5 => (bif v5 then some (.inr ()) else some (.inl ()))) else some (.inl ()))) =
      some (bif pauseB c.acts k then (.inl () : Unit ⊕ Unit) else .inr ()) := by
    simp only [s_natural, pauseB, cond_some, Option.bind_some]
    cases (k.pause == -1) <;> cases (k.resume == -1) <;> cases (k.pause == k.resume) <;> cases natB c.acts k.pause <;> cases natB c.acts k.resume <;> rfl
  rw [idxI_at hk]
  simp only [Option.bind_some]
  rw [hst]
  simp only [Option.bind_some]
  rw [hp, hu]
  simp only [Option.bind_some, s_validKind, d_none, cond_some, clauseB, moneyB, noneB]
  cases decide (k.act < 0) <;> simp only [cond_true, cond_false, Bool.not_true, Bool.not_false, Bool.true_and, Bool.false_and, Option.bind_some]
  cases decide ((c.acts.length : Int) ≤ k.act) <;> simp only [cond_true, cond_false, Bool.not_true, Bool.not_false, Bool.true_and, Bool.false_and, Option.bind_some]
  cases decide (k.after < 1) <;> simp only [cond_true, cond_false, Bool.not_true, Bool.not_false, Bool.true_and, Bool.false_and, Option.bind_some]
  cases decide (400 < k.after) <;> simp only [cond_true, cond_false, Bool.not_true, Bool.not_false, Bool.true_and, Bool.false_and, Option.bind_some]
  cases kindB c.holders.length c.acts k <;> simp only [cond_true, cond_false, Bool.not_true, Bool.not_false, Bool.true_and, Bool.false_and, Option.bind_some]
  cases decide (8 < (k.start.length : Int)) <;> simp only [cond_true, cond_false, Bool.not_true, Bool.not_false, Bool.true_and, Bool.false_and, Option.bind_some]
  cases k.start.all (condB c.clauses.length i) <;> simp only [cond_true, cond_false, Bool.not_true, Bool.not_false, Bool.true_and, Bool.false_and, Option.bind_some, Sum.elim_inl, Sum.elim_inr]
  cases pauseB c.acts k <;> simp only [cond_true, cond_false, Bool.true_and, Bool.false_and, Sum.elim_inl, Sum.elim_inr]
  cases (k.kind == 1) <;> cases (k.kind == 2) <;> simp only [cond_true, cond_false, Bool.cond_false_right, Bool.true_or, Bool.or_true, Bool.or_self, Bool.true_and, Bool.false_and]

def limB (c : ContractT) : Bool := decide (12 < c.parties) || (decide (2000 < c.days) || (decide (12 < (c.holders.length : Int)) || (decide (20 < (c.units.length : Int)) || (decide (60 < (c.acts.length : Int)) || decide (400 < (c.clauses.length : Int))))))
noncomputable def clB (c : ContractT) (i : Nat) : Bool := match c.clauses[i]? with
  | some k => clauseB c.holders.length c.units c.acts c.clauses.length i k
  | none => true
noncomputable def validR (c : ContractT) : Int × Int :=
  bif limB c then (3, -1) else bif framedB c then (match (List.range c.clauses.length).find? (fun j => !clB c j) with | none => (0, -1) | some j => (1, (j : Int))) else (1, -1)

theorem s_Valid (c : ContractT) (ho : c.off.length < 4611686018427387904) (hs : ∀ k ∈ c.clauses, k.start.length < 4611686018427387904) : d_Valid c = some (validR c) := by
  unfold d_Valid validR
  simp only [cond_some, Bool.cond_true_left, Option.bind_some]
  show (bif limB c then _ else _) = _
  cases hlim : limB c with
  | true => rfl
  | false =>
    simp only [limB, Bool.or_eq_false_iff, decide_eq_false_iff_not] at hlim
    obtain ⟨h1, h2, h3, h4, h5, h6⟩ := hlim
    simp only [cond_false, s_framed c (by omega) (by omega) (by omega) (by omega) ho, Option.bind_some]
    cases framedB c with
    | false => rfl
    | true =>
      simp only [cond_true]
      rw [forR_first (fun i => clB c i) (fun i => (i : Int)) (by omega) (fun i hi => by
        rw [s_validClause c i c.clauses[i] (List.getElem?_eq_getElem hi) (hs _ (List.getElem_mem hi))]
        simp only [Option.bind_some, clB, List.getElem?_eq_getElem hi, cond_some])]
      cases (List.range c.clauses.length).find? (fun j => !clB c j) <;> rfl

end Go.Proofs.YtieofodomlodhaaDoor
namespace Go.Proofs.YtieofodomlodhaaDoor
open Go.RowKit
set_option linter.unusedVariables false
set_option linter.unusedSimpArgs false
set_option maxRecDepth 100000

theorem LOk.lt {α : Type} {n : Nat} {p : α → Prop} {l : List α} (h : LOk n p l) (hn : 0 < n) : l.length < 4611686018427387904 := by
  have h1 := h.1
  have h2 : reachBytes ≤ 140737488355328 := by decide +kernel
  have := Nat.le_mul_of_pos_right l.length hn
  omega

theorem ContractT.Ok.valid {c : ContractT} (hc : c.Ok) : d_Valid c = some (validR c) :=
  s_Valid c (hc.off.lt (by omega)) (fun k hk => (hc.clauses.2 k hk).start.lt (by omega))
inductive ValidIs (c : ContractT) : Int × Int → Prop where
  | lim (h : limB c = true) : ValidIs c (3, -1)
  | frame (h : limB c = false) (hf : framedB c = false) : ValidIs c (1, -1)
  | bad (h : limB c = false) (hf : framedB c = true) (i : Nat) (hi : i < c.clauses.length) (hb : clB c i = false) (hl : ∀ j, j < i → clB c j = true) : ValidIs c (1, (i : Int))
  | ok (h : limB c = false) (hf : framedB c = true) (ha : ∀ j, j < c.clauses.length → clB c j = true) : ValidIs c (0, -1)

theorem valid_is (c : ContractT) : ValidIs c (validR c) := by
  unfold validR
  cases h : limB c with
  | true => exact .lim h
  | false =>
    simp only [cond_false]
    cases hf : framedB c with
    | false => exact .frame h hf
    | true =>
      simp only [cond_true]
      cases hq : (List.range c.clauses.length).find? (fun j => !clB c j) with
      | none => exact .ok h hf (find_none hq)
      | some j => obtain ⟨h1, h2, h3⟩ := find_some hq; exact .bad h hf j h1 h2 h3

theorem validR_ok {c : ContractT} (h : (validR c).1 = 0) : limB c = false ∧ framedB c = true ∧ (∀ j, j < c.clauses.length → clB c j = true) ∧ validR c = (0, -1) := by
  have hv := valid_is c
  generalize hr : validR c = r at h hv ⊢
  cases hv with
  | lim _ => simp at h
  | frame _ _ => simp at h
  | bad _ _ i _ _ _ => simp at h
  | ok a b d => exact ⟨a, b, d, rfl⟩
end Go.Proofs.YtieofodomlodhaaDoor
namespace Go.Proofs.YtieofodomlodhaaDoor
open Go.RowKit
set_option linter.unusedVariables false
set_option linter.unusedSimpArgs false
set_option maxRecDepth 100000

theorem s_less (x y : Int) : d_less x y = some (decide (x < y)) := by
  simp [d_less, d_isNaN2]

theorem s_half {a b : Int} (h0 : 0 ≤ a) (h1 : a ≤ b) (h2 : b < 4611686018427387904) : shrI .u64 .u64 (IntKind.u64.wrap (IntKind.i64.wrap (a + b))) 1 = some ((a + b) / 2) := by
  rw [wrap_i64 (by omega) (by omega), wrap_u64 (by omega) (by omega)]
  unfold shrI
  rw [if_neg (by omega)]
  have : (2 : Int) ^ (min (1 : Int).toNat IntKind.u64.bits) = 2 := by decide
  rw [this, Int.fdiv_eq_ediv_of_nonneg _ (by omega)]

def posI (l : List Int) (v : Int) : Option Int := if v ∈ l then some (l.idxOf v : Int) else none
theorem idxOf_eq {l : List Int} (hn : l.Nodup) {i : Nat} (hi : i < l.length) : l.idxOf l[i] = i := by
  have h1 : l.idxOf l[i] < l.length := List.idxOf_lt_length_iff.2 (List.getElem_mem hi)
  have h2 := List.getElem_idxOf h1
  exact (List.getElem?_inj h1 hn).1 (by rw [List.getElem?_eq_getElem h1, List.getElem?_eq_getElem hi, h2])
theorem posI_at {l : List Int} (hn : l.Nodup) {i : Nat} {v : Int} (h : l[i]? = some v) : posI l v = some (i : Int) := by
  obtain ⟨hi, rfl⟩ := List.getElem?_eq_some_iff.1 h
  unfold posI
  rw [if_pos (List.getElem_mem hi), idxOf_eq hn hi]

theorem s_BinarySearch (l : List Int) (v : Int) (hs : l.Pairwise (· < ·)) (hl : l.length < 4611686018427387904) : ∃ r : Int, d_BinarySearch l v = some (r, (posI l v).isSome) ∧ ∀ p, posI l v = some p → r = p := by
  have hp := List.pairwise_iff_getElem.1 hs
  unfold d_BinarySearch
  have hit : Ret (iter (σ := Int × Int) (ρ := Int) (fun s1 => (bif decide (s1.1 < s1.2) then (Option.bind (shrI .u64 .u64 (IntKind.u64.wrap (IntKind.i64.wrap (s1.1 + s1.2))) 1) fun e1 => (Option.bind (idxI l (IntKind.i64.wrap e1)) fun e2 => (Option.bind (d_less e2 v) fun r1 => (bif r1 then some (.inl ((IntKind.i64.wrap ((IntKind.i64.wrap e1) + 1)), s1.2)) else some (.inl (s1.1, (IntKind.i64.wrap e1))))))) else some (.inr s1.1))) (0, (l.length : Int)))
      (fun r => 0 ≤ r ∧ r ≤ l.length ∧ (∀ (j : Nat) (hj : j < l.length), (j : Int) < r → l[j] < v) ∧ (∀ (j : Nat) (hj : j < l.length), r ≤ (j : Int) → v ≤ l[j])) := by
    refine Ret.iter (fun s => 0 ≤ s.1 ∧ s.1 ≤ s.2 ∧ s.2 ≤ l.length ∧ (∀ (j : Nat) (hj : j < l.length), (j : Int) < s.1 → l[j] < v) ∧ (∀ (j : Nat) (hj : j < l.length), s.2 ≤ (j : Int) → v ≤ l[j])) (fun s => (s.2 - s.1).toNat) ⟨by simp, by simp, by simp, fun j hj h => by simp only at h; omega, fun j hj h => by simp only at h; omega⟩ ?_
    rintro ⟨lo, hi⟩ ⟨h1, h2, h3, h4, h5⟩
    simp only at h1 h2 h3 h4 h5 ⊢
    refine Ret.ite (fun hb => ?_) (fun hb => ?_)
    · have hlt := of_decide_eq_true hb
      rw [s_half h1 h2 (by omega)]
      simp only [Option.bind_some]
      have hm1 : lo ≤ (lo + hi) / 2 := by omega
      have hm2 : (lo + hi) / 2 < hi := by omega
      generalize (lo + hi) / 2 = m at hm1 hm2 ⊢
      rw [wrap_i64 (by omega) (by omega)]
      obtain ⟨hi', e⟩ := idxI_lt (l := l) (n := m) (by omega) (by omega)
      rw [e, wrap_i64 (by omega) (by omega)]
      simp only [Option.bind_some, s_less]
      refine Ret.ite (fun hb2 => ?_) (fun hb2 => ?_)
      · have hv := of_decide_eq_true hb2
        refine Ret.some ⟨⟨by show 0 ≤ m + 1; omega, by show m + 1 ≤ hi; omega, h3, fun j hj hjm => ?_, h5⟩, by show (hi - (m + 1)).toNat < (hi - lo).toNat; omega⟩
        have hjm : (j : Int) < m + 1 := hjm
        rcases Nat.lt_or_ge j m.toNat with h | h
        · have := hp j m.toNat hj hi' h; omega
        · obtain rfl : j = m.toNat := by omega
          exact hv
      · have hv : ¬ l[m.toNat] < v := of_decide_eq_false hb2
        refine Ret.some ⟨⟨h1, by show lo ≤ m; omega, by show m ≤ (l.length : Int); omega, h4, fun j hj hjm => ?_⟩, by show (m - lo).toNat < (hi - lo).toNat; omega⟩
        have hjm : m ≤ (j : Int) := hjm
        rcases Nat.lt_or_ge m.toNat j with h | h
        · have := hp m.toNat j hi' hj h; omega
        · obtain rfl : j = m.toNat := by omega
          omega
    · have hlt : ¬ lo < hi := of_decide_eq_false hb
      have : lo = hi := by omega
      subst this
      exact Ret.some ⟨h1, h3, h4, h5⟩
  obtain ⟨r, hr, hr0, hr1, hr2, hr3⟩ := hit
  rw [hr]
  simp only [Option.bind_some]
  by_cases hlt : r < (l.length : Int)
  · obtain ⟨hi', e⟩ := idxI_lt (l := l) (n := r) hr0 hlt
    simp only [hlt, decide_true, cond_true, e, Option.bind_some]
    by_cases hv : l[r.toNat] = v
    · have hpos : posI l v = some (r.toNat : Int) := posI_at (inc_nodup hs) (by rw [List.getElem?_eq_getElem hi', hv])
      refine ⟨r, by simp [hv, hpos], fun p hp => ?_⟩
      rw [hpos] at hp; cases hp; omega
    · have hn : posI l v = none := by
        unfold posI
        rw [if_neg]
        intro hm
        obtain ⟨j, hj, e2⟩ := List.getElem_of_mem hm
        rcases Nat.lt_trichotomy j r.toNat with h | h | h
        · have := hr2 j hj (by omega); omega
        · subst h; exact hv e2
        · have h6 := hp r.toNat j hi' hj h
          have h7 := hr3 r.toNat hi' (by omega)
          omega
      refine ⟨r, ?_, fun p hp => by rw [hn] at hp; cases hp⟩
      rw [hn]
      have : (l[r.toNat] == v) = false := beq_eq_false_iff_ne.2 hv
      simp [this, d_isNaN]
  · have hn : posI l v = none := by
      unfold posI
      rw [if_neg]
      intro hm
      obtain ⟨j, hj, e2⟩ := List.getElem_of_mem hm
      have := hr2 j hj (by omega); omega
    refine ⟨r, ?_, fun p hp => by rw [hn] at hp; cases hp⟩
    rw [hn]
    simp [hlt]

theorem off_len {days : Int} {off : List Int} (hl : off.length < 4611686018427387904) (h : offB days off = true) : (off.length : Int) ≤ days ∨ off.length = 0 := by
  have e : offB days off = incB days (-1) off := by
    unfold offB
    rw [s_inc days off hl (-1)]
    cases incB days (-1) off <;> rfl
  rw [e] at h
  rcases incB_len h with h1 | h1 <;> omega

structure Small (c : ContractT) : Prop where
  parties : 1 ≤ c.parties ∧ c.parties ≤ 12
  days : 1 ≤ c.days ∧ c.days ≤ 2000
  holders : c.holders.length ≤ 12
  units : c.units.length ≤ 20
  acts : c.acts.length ≤ 60
  clauses : c.clauses.length ≤ 400
  off : c.off.length ≤ 2000
  start : ∀ k ∈ c.clauses, k.start.length ≤ 8
  cond : ∀ (i : Nat) (k : ClauseT), c.clauses[i]? = some k → ∀ s ∈ k.start, 0 ≤ s.clause ∧ s.clause < c.clauses.length ∧ s.clause ≠ (i : Int)

theorem small_of {c : ContractT} (ho : c.off.length < 4611686018427387904) (h : (validR c).1 = 0) : Small c := by
  obtain ⟨h1, h2, h3, _⟩ := validR_ok h
  simp only [limB, Bool.or_eq_false_iff, decide_eq_false_iff_not] at h1
  obtain ⟨a1, a2, a3, a4, a5, a6⟩ := h1
  simp only [framedB, Bool.and_eq_true, Bool.not_eq_true', decide_eq_false_iff_not] at h2
  obtain ⟨b1, b2, b3, b4, b5, b6, b7⟩ := h2
  have hcl : ∀ (i : Nat) (k : ClauseT), c.clauses[i]? = some k → clauseB c.holders.length c.units c.acts c.clauses.length i k = true := fun i k hk => by
    have := h3 i (List.getElem?_eq_some_iff.1 hk).1
    simp only [clB, hk] at this
    exact this
  refine ⟨⟨by omega, by omega⟩, ⟨by omega, by omega⟩, by omega, by omega, by omega, by omega, ?_, fun k hk => ?_, fun i k hk s hs => ?_⟩
  · rcases off_len ho b7 with h | h <;> omega
  · obtain ⟨i, hi, e⟩ := List.getElem_of_mem hk
    have := hcl i k (by rw [← e]; exact List.getElem?_eq_getElem hi)
    simp only [clauseB, Bool.and_eq_true, Bool.not_eq_true', decide_eq_false_iff_not] at this
    omega
  · have := hcl i k hk
    simp only [clauseB, Bool.and_eq_true] at this
    have := List.all_eq_true.1 this.2.2.1 s hs
    simp only [condB, Bool.and_eq_true, Bool.not_eq_true', decide_eq_false_iff_not, beq_eq_false_iff_ne] at this
    exact ⟨by omega, by omega, this.2.2.1⟩

theorem cloneI_of {α : Type} {by_ : Nat} {l : List α} (h : l.length * by_ ≤ 140737488355328) : cloneI by_ l = some l := by unfold cloneI; rw [if_pos h]

end Go.Proofs.YtieofodomlodhaaDoor
namespace Go.Proofs.YtieofodomlodhaaDoor
open Go.RowKit
set_option linter.unusedVariables false
set_option linter.unusedSimpArgs false
set_option maxRecDepth 100000

theorem forR_allN {f : Nat → Unit → Option (Unit ⊕ Unit)} {n : Nat} (p : Nat → Bool) (hn : n < 4611686018427387904) (h : ∀ j, j < n → f j () = some (bif p j then .inl () else .inr ())) :
    forR (n : Int) f () = some (bif (List.range n).all p then .inl () else .inr ()) := by
  rw [forR_first p (fun _ => ()) hn h]
  cases hf : (List.range n).find? (fun j => !p j) with
  | none =>
    have : (List.range n).all p = true := List.all_eq_true.2 fun j hj => find_none hf j (List.mem_range.1 hj)
    rw [this]; rfl
  | some k =>
    obtain ⟨h1, h2, _⟩ := find_some hf
    have : (List.range n).all p = false := by
      rw [Bool.eq_false_iff]
      intro h
      have := List.all_eq_true.1 h k (List.mem_range.2 h1)
      rw [h2] at this; cases this
    rw [this]; rfl

theorem forR_mapIdx {α ρ : Type} {f : Nat → List α → Option (List α ⊕ ρ)} (s0 : List α) (F : Nat → α → α) (hl : s0.length < 4611686018427387904)
    (h : ∀ (i : Nat) (m : α) (s : List α), s0[i]? = some m → s.length = s0.length → s[i]? = some m → f i s = some (.inl (s.set i (F i m)))) :
    forR (s0.length : Int) f s0 = some (.inl (s0.mapIdx F)) := by
  obtain ⟨o, h1, h2⟩ := forR_ruleL (n := s0.length) (s0 := s0) (f := f) (fun i s => s.length = s0.length ∧ ∀ j, s[j]? = if j < i then (s0[j]?).map (F j) else s0[j]?) (fun _ => False) hl ⟨rfl, fun j => by simp⟩ (fun i s hi ⟨a, b⟩ => by
    have hs : s[i]? = some s0[i] := by rw [b i, if_neg (by omega), List.getElem?_eq_getElem hi]
    refine ⟨_, h i s0[i] s (List.getElem?_eq_getElem hi) a hs, by simpa using a, fun j => ?_⟩
    rw [List.getElem?_set]
    by_cases hij : i = j
    · subst hij
      rw [if_pos rfl, if_pos (by omega), if_pos (by omega), List.getElem?_eq_getElem hi]; rfl
    · rw [if_neg hij, b j]
      by_cases h3 : j < i
      · rw [if_pos h3, if_pos (by omega)]
      · rw [if_neg h3, if_neg (by omega)])
  rw [h1]
  cases o with
  | inr r => exact h2.elim
  | inl s =>
    obtain ⟨a, b⟩ := h2
    congr 2
    refine List.ext_getElem? fun j => ?_
    rw [b j, List.getElem?_mapIdx]
    by_cases hj : j < s0.length
    · rw [if_pos hj]
    · rw [if_neg hj, List.getElem?_eq_none (by omega)]; rfl

/-! ### Marks -/
def condM (marks : List MarkT) (s : CondT) : Bool := match idxI marks s.clause with
  | some m => bif s.is == 1 then !(m.status == 0) else bif s.is == 2 then m.status == 3 else bif s.is == 3 then m.status == 4 else bif s.is == 4 then m.status == 5 else false
  | none => false
def readyB (ks : List ClauseT) (marks : List MarkT) (i : Nat) : Bool := match ks[i]?, marks[i]? with
  | some k, some m => (m.status == 0 && !k.waived) && k.start.all (condM marks)
  | _, _ => false
def runB (parties : Int) (k : ClauseT) (m : MarkT) : Bool :=
  !(k.waived || (decide (m.left < 1) || (m.paused && k.pause == -1))) && (((m.got == 0) || (k.kind == 1 && !(decide (m.got < 0) || decide (k.need ≤ m.got)))) &&
    (bif k.kind == 4 then m.bearer == -1 else decide (0 ≤ m.bearer) && decide (m.bearer < parties)))
def idleB (m : MarkT) : Bool := (m.status == 0) && ((m.left == 0) && ((m.got == 0) && ((m.bearer == (-1)) && ((m.paused == false) && true))))
def endB (parties : Int) (m : MarkT) : Bool := (m.left == 0) && (decide (0 ≤ m.got) && (decide (m.got ≤ 9) && (decide ((-1) ≤ m.bearer) && (decide (m.bearer < parties) && !m.paused))))
def mrkB (parties : Int) (k : ClauseT) (m : MarkT) : Bool :=
  bif m.status == 0 then !k.waived && idleB m else bif m.status == 1 then decide (m.left ≤ k.after) && runB parties k m
  else bif m.status == 2 then k.kind == 1 && (decide (m.left ≤ k.grace) && runB parties k m) else (m.status == 3 || (m.status == 4 || m.status == 5)) && endB parties m

theorem s_validRun (c : ContractT) (k : ClauseT) (m : MarkT) : d_validRun c k m = some (runB c.parties k m) := by
  simp only [d_validRun, runB, cond_some, Option.bind_some]
  cases k.waived <;> cases decide (m.left < 1) <;> cases m.paused <;> cases (k.pause == -1) <;> cases (m.got == 0) <;> cases (k.kind == 1) <;> cases decide (m.got < 0) <;> cases decide (k.need ≤ m.got) <;> cases (k.kind == 4) <;> cases decide (0 ≤ m.bearer) <;> rfl
theorem s_validMark (c : ContractT) (i : Nat) (k : ClauseT) (m : MarkT) (hk : c.clauses[i]? = some k) : d_validMark c i m = some (mrkB c.parties k m) := by
  unfold d_validMark
  rw [idxI_at hk]
  simp only [Option.bind_some, s_validRun, cond_some, mrkB, idleB, endB]
  cases (m.status == 0)
  · cases (m.status == 1)
    · cases (m.status == 2)
      · cases (m.status == 3) <;> cases (m.status == 4) <;> cases (m.status == 5) <;> cases (m.left == 0) <;> cases decide (0 ≤ m.got) <;> cases decide (m.got ≤ 9) <;> cases decide ((-1) ≤ m.bearer) <;> cases decide (m.bearer < c.parties) <;> rfl
      · cases (k.kind == 1) <;> cases decide (m.left ≤ k.grace) <;> rfl
    · cases decide (m.left ≤ k.after) <;> rfl
  · cases k.waived <;> rfl

theorem s_ready (c : ContractT) (s : StateT) (i : Nat) (k : ClauseT) (m : MarkT) (hk : c.clauses[i]? = some k) (hm : s.marks[i]? = some m) (hst : k.start.length < 4611686018427387904)
    (hc : ∀ x ∈ k.start, 0 ≤ x.clause ∧ x.clause < s.marks.length) : d_ready c s i = some (readyB c.clauses s.marks i) := by
  unfold d_ready readyB
  rw [idxI_at hm, idxI_at hk, hk, hm]
  simp only [Option.bind_some]
  rw [forR_all (l := k.start) (condM s.marks) hst (fun j hj => by
    obtain ⟨h0, h1⟩ := hc _ (List.getElem_mem hj)
    obtain ⟨h2, h3⟩ := idxI_lt h0 h1
    simp only [idxI_nat', List.getElem?_eq_getElem hj, Option.bind_some, h3, condM, cond_some])]
  simp only [Option.bind_some, cond_some]
  cases (m.status == 0) <;> cases k.waived <;> cases k.start.all (condM s.marks) <;> rfl

def usedB (acts : List ActT) (used : List Bool) (i : Nat) : Bool := match acts[i]?, used[i]? with
  | some a, some u => !(u && a.kind == 1)
  | _, _ => false
def markIB (c : ContractT) (marks : List MarkT) (i : Nat) : Bool := match c.clauses[i]?, marks[i]? with
  | some k, some m => mrkB c.parties k m && !readyB c.clauses marks i
  | _, _ => false
noncomputable def vsB (c : ContractT) (s : StateT) : Bool :=
  ((validR c).1 == 0) && ((!(decide (s.day < 0)) && (!(decide (c.days < s.day)) && ((s.holders.length : Int) == c.holders.length && ((s.used.length : Int) == c.acts.length && (s.marks.length : Int) == c.clauses.length)))) &&
    (heldB c.parties s.holders && ((List.range s.used.length).all (usedB c.acts s.used) && (List.range s.marks.length).all (markIB c s.marks))))

theorem s_ValidS (c : ContractT) (s : StateT) (hc : c.Ok) : d_ValidS c s = some (vsB c s) := by
  unfold d_ValidS vsB
  rw [hc.valid]
  simp only [Option.bind_some]
  cases hv : ((validR c).1 == 0) with
  | false => rfl
  | true =>
    have sm := small_of (hc.off.lt (by omega)) (beq_iff_eq.1 hv)
    simp only [cond_true, cond_some, Option.bind_some, Bool.true_and]
    cases h1 : decide (s.day < 0) <;> cases h2 : decide (c.days < s.day) <;> cases h3 : ((s.holders.length : Int) == c.holders.length) <;> cases h4 : ((s.used.length : Int) == c.acts.length) <;> cases h5 : ((s.marks.length : Int) == c.clauses.length) <;> try rfl
    simp only [cond_true, cond_false, Bool.not_true, Bool.not_false, Bool.true_and]
    have e3 := beq_iff_eq.1 h3
    have e4 := beq_iff_eq.1 h4
    have e5 := beq_iff_eq.1 h5
    have := sm.holders
    have := sm.acts
    have := sm.clauses
    rw [forR_all (l := s.holders) (fun h => decide (0 ≤ h) && decide (h < c.parties)) (by omega) (fun j hj => by
      simp only [idxI_nat', List.getElem?_eq_getElem hj, Option.bind_some, cond_some]
      generalize s.holders[j] = h
      by_cases a : h < 0
      · have b : ¬ 0 ≤ h := by omega
        simp [a, b]
      · have b : 0 ≤ h := by omega
        by_cases d : h < c.parties
        · have d' : ¬ c.parties ≤ h := by omega
          simp [a, b, d, d']
        · have d' : c.parties ≤ h := by omega
          simp [a, b, d, d'])]
    rw [forR_allN (n := s.used.length) (usedB c.acts s.used) (by omega) (fun j hj => by
      have hj' : j < c.acts.length := by omega
      simp only [idxI_nat', List.getElem?_eq_getElem hj, List.getElem?_eq_getElem hj', Option.bind_some, cond_some, usedB]
      cases s.used[j] <;> cases (c.acts[j].kind == 1) <;> rfl)]
    rw [forR_allN (n := s.marks.length) (markIB c s.marks) (by omega) (fun j hj => by
      have hj' : j < c.clauses.length := by omega
      have hk := List.getElem?_eq_getElem hj'
      have hm := List.getElem?_eq_getElem hj
      simp only [idxI_nat', hm, Option.bind_some]
      rw [s_validMark c j _ _ hk, s_ready c s j _ _ hk hm (by have := sm.start _ (List.getElem_mem hj'); omega) (fun x hx => by have := sm.cond j _ hk x hx; omega)]
      simp only [Option.bind_some, markIB, hk, hm]
      cases mrkB c.parties c.clauses[j] s.marks[j] <;> cases readyB c.clauses s.marks j <;> rfl)]
    simp only [heldB, Option.bind_some]
    cases s.holders.all (fun h => decide (0 ≤ h) && decide (h < c.parties)) <;> cases (List.range s.used.length).all (usedB c.acts s.used) <;> cases (List.range s.marks.length).all (markIB c s.marks) <;> rfl

structure VS (c : ContractT) (s : StateT) : Prop where
  cv : (validR c).1 = 0
  day : 0 ≤ s.day ∧ s.day ≤ c.days
  lh : s.holders.length = c.holders.length
  lu : s.used.length = c.acts.length
  lm : s.marks.length = c.clauses.length
  hold : ∀ h ∈ s.holders, 0 ≤ h ∧ h < c.parties
  used : ∀ (i : Nat) (a : ActT), c.acts[i]? = some a → s.used[i]? = some true → a.kind ≠ 1
  mrk : ∀ (i : Nat) (k : ClauseT) (m : MarkT), c.clauses[i]? = some k → s.marks[i]? = some m → mrkB c.parties k m = true
  rdy : ∀ i, i < c.clauses.length → readyB c.clauses s.marks i = false

theorem vs_of {c : ContractT} {s : StateT} (h : vsB c s = true) : VS c s := by
  simp only [vsB, Bool.and_eq_true, Bool.not_eq_true', decide_eq_false_iff_not, beq_iff_eq, List.all_eq_true, List.mem_range, heldB, decide_eq_true_eq] at h
  obtain ⟨h1, ⟨h2, h3, h4, h5, h6⟩, h7, h8, h9⟩ := h
  refine ⟨h1, ⟨by omega, by omega⟩, by omega, by omega, by omega, fun x hx => h7 x hx, fun i a ha hu hk => ?_, fun i k m hk hm => ?_, fun i hi => ?_⟩
  · have := h8 i (by have := (List.getElem?_eq_some_iff.1 hu).1; exact this)
    simp only [usedB, ha, hu, hk] at this
    cases this
  · have := h9 i (List.getElem?_eq_some_iff.1 hm).1
    simp only [markIB, hk, hm, Bool.and_eq_true] at this
    exact this.1
  · have hi' : i < s.marks.length := by omega
    have := h9 i hi'
    simp only [markIB, List.getElem?_eq_getElem hi, List.getElem?_eq_getElem hi', Bool.and_eq_true, Bool.not_eq_true'] at this
    exact this.2
theorem vsB_of {c : ContractT} {s : StateT} (h : VS c s) : vsB c s = true := by
  have hd := h.day
  have h4 := h.lh
  have h5 := h.lu
  have h6 := h.lm
  simp only [vsB, Bool.and_eq_true, Bool.not_eq_true', decide_eq_false_iff_not, beq_iff_eq, List.all_eq_true, List.mem_range, heldB, decide_eq_true_eq]
  refine ⟨h.cv, ⟨by omega, by omega, by omega, by omega, by omega⟩, fun x hx => h.hold x hx, fun i hi => ?_, fun i hi => ?_⟩
  · have hi' : i < c.acts.length := by omega
    have ha := List.getElem?_eq_getElem hi'
    have hu := List.getElem?_eq_getElem hi
    simp only [usedB, ha, hu]
    cases hq : s.used[i] with
    | false => rfl
    | true =>
      have := h.used i _ ha (by rw [hu, hq])
      simp [this]
  · have hi' : i < c.clauses.length := by omega
    have ha := List.getElem?_eq_getElem hi'
    have hu := List.getElem?_eq_getElem hi
    simp only [markIB, ha, hu, Bool.and_eq_true, Bool.not_eq_true']
    exact ⟨h.mrk i _ _ ha hu, h.rdy i hi'⟩
end Go.Proofs.YtieofodomlodhaaDoor
