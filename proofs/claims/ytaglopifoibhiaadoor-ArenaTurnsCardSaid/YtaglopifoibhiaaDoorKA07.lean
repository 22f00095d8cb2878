/-
  Functions of the program: what they compute, and plans of their code that the kernel checks (printed by a program of ours).
  From the readings of a row's arguments to the abstract machine's data: whatever plain data is handed in (numbers, truth values, texts, slices and structures of these) is data of the abstract machine, of its type; and a law that is proved of all such data is the row's contract.
  A law that holds of all plain data of its types is the row's contract: whatever the arguments, the call returns true, and each argument reads as it read before.
  From data of the abstract machine to typed data.
  From readings to the data of this program's types.
  Plain laws about loops, searches and elements of lists.
-/
import Derived.Test.YtaglopifoibhiaaDoorKA06
import Derived.Test.YtaglopifoibhiaaDoorKA02
import Derived.ProofKit
import Derived.SizedLaws
import Derived.Carry
import Derived.OpenShut
import Derived.Test.YtaglopifoibhiaaDoorKA04
import Derived.Test.YtaglopifoibhiaaDoorKA05
namespace Go.Proofs.YtaglopifoibhiaaDoor
open Go.RowKit
set_option linter.unusedVariables false
set_option linter.unusedSimpArgs false
set_option maxRecDepth 100000

noncomputable def d_68a (p1 : Int) (p2 : ContractT) (p3 : Int) (p4 : List Int) (p5 : Nat) (p6 : List Bool) (p7 : Nat) (p8 : List MarkT) (p9 : Nat) : Option ((List Int) × (List Bool) × (List MarkT)) :=
  (Option.bind (idxI p2.acts p1) fun e1 => (Option.bind (idxN p5 e1.give) fun k1 => (Option.bind (p4[k1]?) fun e2 => (Option.bind (idxN p7 p1) fun k2 => (Option.bind (p6[k2]?) fun e3 => (bif (e1.kind == 3) then (Option.bind (d_66a p2 p3 (p4.set k1 e1.to) p5 (p6.set k2 true) p7 p8 p9) fun r1 => (Option.bind (forR (σ := (List MarkT)) (ρ := (List MarkT)) (p9 : Int) (fun i1 s1 => (Option.bind (Option.bind (idxN p9 (i1 : Int)) fun k3 => (Option.bind (s1[k3]?) fun e4 => (Option.bind (d_running e4) fun r2 => (bif r2 then (Option.bind (Option.bind (idxI p2.clauses (i1 : Int)) fun e5 => (Option.bind (bif (e5.kind == 4) then some false else some (e5.role == e1.give)) fun v1 => (bif v1 then (Option.bind (idxN p9 (i1 : Int)) fun k4 => (Option.bind (s1[k4]?) fun e6 => some (s1.set k4 ({ e6 with bearer := e1.to } : MarkT)))) else some s1))) fun (v2 : (List MarkT)) => some ((!true), v2)) else some (false, s1))))) fun (v3 : Bool × (List MarkT)) => (bif v3.1 then some (.inr v3.2) else some (.inl v3.2)))) p8) (Sum.elim (fun (s1 : (List MarkT)) => some ((p4.set k1 e1.to), (p6.set k2 true), s1)) (fun (y1 : (List MarkT)) => some ((p4.set k1 e1.to), (p6.set k2 true), y1))))) else some ((p4.set k1 e1.to), (p6.set k2 true), p8)))))))
noncomputable def p_68a (p1 : Int) (p2 : ContractT) (p3 : Int) (p4 : List Int) (p5 : Nat) (p6 : List Bool) (p7 : Nat) (p8 : List MarkT) (p9 : Nat) : Plan ((List Int) × (List Bool) × (List MarkT)) :=
  .reg 1 (.ix 1172 ActT.row p2.acts p1 fun e1 => .use 6 1172 (.reg 0 (.b1 1174 (idxN p5 e1.give) (fun k1 => .k k1) (fun k1 hk1 => (midx_side hk1)) fun k1 => .b1 1176 (p4[k1]?) (fun e2 => .aw (rowA (rowI e2)) (rowsA rowI (p4.set k1 e1.to))) (fun e2 he2 => (sto_side rowI e1.to he2)) fun e2 => .us [(9, 1174), (10, 1176)] (.reg 0 (.b1 1178 (idxN p7 p1) (fun k2 => .k k2) (fun k2 hk2 => (midx_side hk2)) fun k2 => .b1 1180 (p6[k2]?) (fun e3 => .aw (rowA (rowB e3)) (rowsA rowB (p6.set k2 true))) (fun e3 he3 => (sto_side rowB true he3)) fun e3 => .us [(6, 1178), (7, 1180)] (.ite 1152 (e1.kind == 3) (.sel 1153 (.reg 0 (.b1 1182 (d_66a p2 p3 (p4.set k1 e1.to) p5 (p6.set k2 true) p7 p8 p9) (fun r1 => .c [0, 1, 2, 3] 4 (.func 67 [] [.ptr 38 0 0]) [(38, .rows 1 [[.ptr 0 0 0]])] 1) (fun r1 hr1 => (call_side (t_66a p2 p3 (p4.set k1 e1.to) p5 (p6.set k2 true) p7 p8 p9 r1 hr1) [0, 1, 2, 3] 38 (.drop rfl rfl (.drop rfl rfl (.drop rfl rfl (.drop rfl rfl (.keep .nil))))) (rhR (rhI (rhI (rhI rhN)))) (rhR rhN))) fun r1 => .use 1 1182 (.forR (σ := (List MarkT)) (ρ := (List MarkT)) 1154 10 (p9 : Int) p8 (⟨[0, 1, 9], fun _ => [], [0, 4, 13, 38, 40], fun s1 => [(1, .rows 1 (rowsA rowI (p4.set k1 e1.to))), (2, .rows 1 (rowsA rowB (p6.set k2 true))), (3, .rows 5 (rowsA MarkT.row s1))], 48, fun _ => (.rows rfl (.rows rfl (.rows rfl .nil)))⟩) (fun i1 s1 => .sel 1154 (.cut (β := Bool × (List MarkT)) 4 (⟨[0, 1, 9, 10], fun v3 => [(27, vB v3.1)], [0, 4, 13, 38, 40], fun v3 => [(1, .rows 1 (rowsA rowI (p4.set k1 e1.to))), (2, .rows 1 (rowsA rowB (p6.set k2 true))), (3, .rows 5 (rowsA MarkT.row v3.2))], 66, fun _ => (.rows rfl (.rows rfl (.rows rfl .nil)))⟩) (.reg 0 (.b1 1184 (idxN p9 (i1 : Int)) (fun k3 => .k k3) (fun k3 hk3 => (midx_side hk3)) fun k3 => .b1 1186 (s1[k3]?) (fun e4 => .ar (rowA (MarkT.row e4))) (fun e4 he4 => (row_side MarkT.row he4)) fun e4 => .call 1188 (t_running e4) fun r2 => .ite 1164 r2 (.us [(6, 1184), (7, 1186), (8, 1188), (10, 1164)] (.reg 0 (.cut (β := (List MarkT)) 0 (⟨[], fun _ => [], [0, 4, 13, 38, 40], fun v2 => [(1, .rows 1 (rowsA rowI (p4.set k1 e1.to))), (2, .rows 1 (rowsA rowB (p6.set k2 true))), (3, .rows 5 (rowsA MarkT.row v2))], 85, fun _ => (.rows rfl (.rows rfl (.rows rfl .nil)))⟩) (.reg 0 (.ix 1190 ClauseT.row p2.clauses (i1 : Int) fun e5 => .use 6 1190 (.cut (β := Bool) 1 (⟨[2, 4, 5], fun v1 => [(55, vB v1)], [0, 4, 13, 38, 40, 73], fun _ => [(1, .rows 1 (rowsA rowI (p4.set k1 e1.to))), (2, .rows 1 (rowsA rowB (p6.set k2 true))), (3, .rows 5 (rowsA MarkT.row s1))], 85, fun _ => (.rows rfl (.rows rfl (.rows rfl .nil)))⟩) (.reg 0 (.ite 1166 (e5.kind == 4) (.use 4 1167 (.ret false)) (.use 4 1167 (.ret (e5.role == e1.give))))) fun v1 => .ite 1168 v1 (.sel 1168 (.reg 0 (.b1 1192 (idxN p9 (i1 : Int)) (fun k4 => .k k4) (fun k4 hk4 => (midx_side hk4)) fun k4 => .b1 1194 (s1[k4]?) (fun e6 => .aw (rowA (MarkT.row e6)) (rowsA MarkT.row (s1.set k4 ({ e6 with bearer := e1.to } : MarkT)))) (fun e6 he6 => (sto_side MarkT.row ({ e6 with bearer := e1.to } : MarkT) he6)) fun e6 => .us [(8, 1192), (10, 1194)] (.ret (s1.set k4 ({ e6 with bearer := e1.to } : MarkT)))))) (.sel 1168 (.ret s1))))) fun v2 => .ret ((!true), v2)))) (.us [(6, 1184), (7, 1186), (8, 1188), (10, 1164)] (.ret (false, s1))))) fun v3 => .ite 1170 v3.1 (.sel 1170 (.ret (.inr v3.2))) (.sel 1170 (.ret (.inl v3.2))))) fun os1 => .case os1 (fun s1 => .sel 1154 (.ret ((p4.set k1 e1.to), (p6.set k2 true), s1))) fun y1 => .ret ((p4.set k1 e1.to), (p6.set k2 true), y1))))) (.sel 1153 (.ret ((p4.set k1 e1.to), (p6.set k2 true), p8)))))))))
theorem t_68a (p1 : Int) (p2 : ContractT) (p3 : Int) (p4 : List Int) (p5 : Nat) (p6 : List Bool) (p7 : Nat) (p8 : List MarkT) (p9 : Nat) (res : (List Int) × (List Bool) × (List MarkT)) (hd : d_68a p1 p2 p3 p4 p5 p6 p7 p8 p9 = some res) : DOk C0 68 [.ptr 0 0 0, vI p1] [(0, .rows 11 [[vI p2.parties, .imm (.slice (List.map rowI p2.holders)), .imm (.slice (List.map UnitT.row p2.units)), .imm (.slice (List.map ActT.row p2.acts)), .imm (.slice (List.map ClauseT.row p2.clauses)), vI p2.days, .imm (.slice (List.map rowI p2.off)), vI p3, .mslice 1 0 p5, .mslice 2 0 p7, .mslice 3 0 p9]]), (1, .rows 1 (rowsA rowI p4)), (2, .rows 1 (rowsA rowB p6)), (3, .rows 5 (rowsA MarkT.row p8))] 4 (.tuple []) [(0, .rows 11 [[vI p2.parties, .imm (.slice (List.map rowI p2.holders)), .imm (.slice (List.map UnitT.row p2.units)), .imm (.slice (List.map ActT.row p2.acts)), .imm (.slice (List.map ClauseT.row p2.clauses)), vI p2.days, .imm (.slice (List.map rowI p2.off)), vI p3, .mslice 1 0 p5, .mslice 2 0 p7, .mslice 3 0 p9]]), (1, .rows 1 (rowsA rowI res.1)), (2, .rows 1 (rowsA rowB res.2.1)), (3, .rows 5 (rowsA MarkT.row res.2.2))] 0 :=
  Plan.det (R := fun res => .tuple []) (H := fun res => [(0, .rows 11 [[vI p2.parties, .imm (.slice (List.map rowI p2.holders)), .imm (.slice (List.map UnitT.row p2.units)), .imm (.slice (List.map ActT.row p2.acts)), .imm (.slice (List.map ClauseT.row p2.clauses)), vI p2.days, .imm (.slice (List.map rowI p2.off)), vI p3, .mslice 1 0 p5, .mslice 2 0 p7, .mslice 3 0 p9]]), (1, .rows 1 (rowsA rowI res.1)), (2, .rows 1 (rowsA rowB res.2.1)), (3, .rows 5 (rowsA MarkT.row res.2.2))]) (p_68a p1 p2 p3 p4 p5 p6 p7 p8 p9) (.exp rfl rfl (.rows rfl (.rows rfl (.rows rfl .nil)))) (fun _ => (.exp rfl rfl (.rows rfl (.rows rfl (.rows rfl .nil))))) (by kernel_rfl) (fun _ => by kernel_rfl) (by kernel_rfl) (Plan.run_of hd (by kernel_rfl))

noncomputable def d_60a (p1 : Int) (p2 : ContractT) (p3 : Int) (p4 : List Int) (p5 : Nat) (p6 : List Bool) (p7 : Nat) (p8 : List MarkT) (p9 : Nat) : Option ((List Int) × (List Bool) × (List MarkT)) :=
  (Option.bind (idxI p2.acts p1) fun e1 => (Option.bind (bif (e1.kind == 1) then some false else (Option.bind (idxN p7 p1) fun k1 => (Option.bind (p6[k1]?) fun e2 => some e2))) fun v1 => (bif v1 then some (p4, p6, p8) else (Option.bind (Option.bind (d_66a p2 p3 p4 p5 p6 p7 p8 p9) fun r1 => (Option.bind (forR (σ := (List MarkT)) (ρ := (List MarkT)) (p9 : Int) (fun i1 s1 => (Option.bind (Option.bind (idxN p9 (i1 : Int)) fun k2 => (Option.bind (s1[k2]?) fun e3 => (Option.bind (d_running e3) fun r2 => (bif r2 then (Option.bind (Option.bind (idxI p2.clauses (i1 : Int)) fun e4 => (bif (p1 == e4.pause) then (Option.bind (idxN p9 (i1 : Int)) fun k3 => (Option.bind (s1[k3]?) fun e5 => some (s1.set k3 ({ e5 with paused := true } : MarkT)))) else (Option.bind (idxI p2.clauses (i1 : Int)) fun e6 => (bif (p1 == e6.resume) then (Option.bind (idxN p9 (i1 : Int)) fun k4 => (Option.bind (s1[k4]?) fun e7 => some (s1.set k4 ({ e7 with paused := false } : MarkT)))) else some s1)))) fun (v2 : (List MarkT)) => some ((!true), v2)) else some (false, s1))))) fun (v3 : Bool × (List MarkT)) => (bif v3.1 then some (.inr v3.2) else some (.inl v3.2)))) p8) (Sum.elim (fun (s1 : (List MarkT)) => some s1) (fun (y1 : (List MarkT)) => some y1)))) fun (v4 : (List MarkT)) => (Option.bind (eqN p5 p4.length) fun g1 => (Option.bind (eqN p7 p6.length) fun g2 => (Option.bind (eqN p9 v4.length) fun g3 => (Option.bind (d_doer p2 ({ day := p3, holders := p4, used := p6, marks := v4 } : StateT) p1) fun r3 => (Option.bind (Option.bind (d_66a p2 p3 p4 p5 p6 p7 v4 p9) fun r4 => (Option.bind (forR (σ := (List MarkT)) (ρ := (List MarkT)) (p9 : Int) (fun i2 s2 => (Option.bind (Option.bind (idxN p9 (i2 : Int)) fun k5 => (Option.bind (s2[k5]?) fun e8 => (Option.bind (d_running e8) fun r5 => (bif r5 then (Option.bind (Option.bind (idxI p2.clauses (i2 : Int)) fun e9 => (Option.bind (bif (e9.act == p1) then (bif (e9.kind == 4) then some true else (Option.bind (idxN p9 (i2 : Int)) fun k6 => (Option.bind (s2[k6]?) fun e10 => some (e10.bearer == r3)))) else some false) fun v5 => (bif v5 then (Option.bind (bif (e9.kind == (0 : Int)) then none else (bif (e9.kind == (1 : Int)) then (Option.bind (d_65a (i2 : Int) p2 p3 p4 p5 p6 p7 s2 p9) fun r9 => some r9) else (bif (e9.kind == (2 : Int)) then (Option.bind (d_71a (i2 : Int) p2 p3 p4 p5 p6 p7 s2 p9) fun r8 => some r8) else (bif (e9.kind == (3 : Int)) then (Option.bind (d_61a (i2 : Int) p2 p3 p4 p5 p6 p7 s2 p9) fun r7 => some r7) else (bif (e9.kind == (4 : Int)) then (Option.bind (d_61a (i2 : Int) p2 p3 p4 p5 p6 p7 s2 p9) fun r6 => some r6) else none))))) fun v6 => some v6) else some s2))) fun (v7 : (List MarkT)) => some ((!true), v7)) else some (false, s2))))) fun (v8 : Bool × (List MarkT)) => (bif v8.1 then some (.inr v8.2) else some (.inl v8.2)))) v4) (Sum.elim (fun (s2 : (List MarkT)) => some s2) (fun (y2 : (List MarkT)) => some y2)))) fun (v9 : (List MarkT)) => (Option.bind (bif (e1.kind == 1) then some (p4, p6, v9) else (Option.bind (d_68a p1 p2 p3 p4 p5 p6 p7 v9 p9) fun r10 => some (r10.1, r10.2.1, r10.2.2))) fun (v10 : (List Int) × (List Bool) × (List MarkT)) => (Option.bind (d_69a p2 p3 v10.1 p5 v10.2.1 p7 v10.2.2 p9) fun r11 => some (v10.1, v10.2.1, r11))))))))))))
noncomputable def p_60a (p1 : Int) (p2 : ContractT) (p3 : Int) (p4 : List Int) (p5 : Nat) (p6 : List Bool) (p7 : Nat) (p8 : List MarkT) (p9 : Nat) : Plan ((List Int) × (List Bool) × (List MarkT)) :=
  .reg 1 (.ix 1196 ActT.row p2.acts p1 fun e1 => .use 6 1196 (.cut (β := Bool) 2 (⟨[2, 3, 4], fun v1 => [(30, vB v1)], [0, 4, 5, 14], fun _ => [(1, .rows 1 (rowsA rowI p4)), (2, .rows 1 (rowsA rowB p6)), (3, .rows 5 (rowsA MarkT.row p8))], 29, fun _ => (.rows rfl (.rows rfl (.rows rfl .nil)))⟩) (.reg 0 (.ite 1054 (e1.kind == 1) (.use 4 1055 (.ret false)) (.b1 1198 (idxN p7 p1) (fun k1 => .k k1) (fun k1 hk1 => (midx_side hk1)) fun k1 => .b1 1200 (p6[k1]?) (fun e2 => .ar (rowA (rowB e2))) (fun e2 he2 => (row_side rowB he2)) fun e2 => .us [(4, 1055), (10, 1198), (11, 1200)] (.ret e2)))) fun v1 => .ite 1056 v1 (.sel 1056 (.ret (p4, p6, p8))) (.sel 1056 (.cut (β := (List MarkT)) 1 (⟨[2, 3, 4], fun _ => [], [0, 4, 5, 14], fun v4 => [(1, .rows 1 (rowsA rowI p4)), (2, .rows 1 (rowsA rowB p6)), (3, .rows 5 (rowsA MarkT.row v4))], 41, fun _ => (.rows rfl (.rows rfl (.rows rfl .nil)))⟩) (.reg 0 (.b1 1202 (d_66a p2 p3 p4 p5 p6 p7 p8 p9) (fun r1 => .c [0, 1, 2, 3] 4 (.func 67 [] [.ptr 30 0 0]) [(30, .rows 1 [[.ptr 0 0 0]])] 1) (fun r1 hr1 => (call_side (t_66a p2 p3 p4 p5 p6 p7 p8 p9 r1 hr1) [0, 1, 2, 3] 30 (.drop rfl rfl (.drop rfl rfl (.drop rfl rfl (.drop rfl rfl (.keep .nil))))) (rhR (rhI (rhI (rhI rhN)))) (rhR rhN))) fun r1 => .use 1 1202 (.forR (σ := (List MarkT)) (ρ := (List MarkT)) 1058 10 (p9 : Int) p8 (⟨[0, 1, 9], fun _ => [], [0, 4, 5, 14, 30, 32], fun s1 => [(1, .rows 1 (rowsA rowI p4)), (2, .rows 1 (rowsA rowB p6)), (3, .rows 5 (rowsA MarkT.row s1))], 40, fun _ => (.rows rfl (.rows rfl (.rows rfl .nil)))⟩) (fun i1 s1 => .sel 1058 (.cut (β := Bool × (List MarkT)) 4 (⟨[0, 1, 9, 10], fun v3 => [(27, vB v3.1)], [0, 4, 5, 14, 30, 32], fun v3 => [(1, .rows 1 (rowsA rowI p4)), (2, .rows 1 (rowsA rowB p6)), (3, .rows 5 (rowsA MarkT.row v3.2))], 58, fun _ => (.rows rfl (.rows rfl (.rows rfl .nil)))⟩) (.reg 0 (.b1 1204 (idxN p9 (i1 : Int)) (fun k2 => .k k2) (fun k2 hk2 => (midx_side hk2)) fun k2 => .b1 1206 (s1[k2]?) (fun e3 => .ar (rowA (MarkT.row e3))) (fun e3 he3 => (row_side MarkT.row he3)) fun e3 => .call 1208 (t_running e3) fun r2 => .ite 1068 r2 (.us [(6, 1204), (7, 1206), (8, 1208), (10, 1068)] (.reg 0 (.cut (β := (List MarkT)) 0 (⟨[], fun _ => [], [0, 4, 5, 14, 30, 32], fun v2 => [(1, .rows 1 (rowsA rowI p4)), (2, .rows 1 (rowsA rowB p6)), (3, .rows 5 (rowsA MarkT.row v2))], 78, fun _ => (.rows rfl (.rows rfl (.rows rfl .nil)))⟩) (.reg 1 (.ix 1210 ClauseT.row p2.clauses (i1 : Int) fun e4 => .use 6 1210 (.ite 1070 (p1 == e4.pause) (.sel 1070 (.reg 0 (.b1 1212 (idxN p9 (i1 : Int)) (fun k3 => .k k3) (fun k3 hk3 => (midx_side hk3)) fun k3 => .b1 1214 (s1[k3]?) (fun e5 => .aw (rowA (MarkT.row e5)) (rowsA MarkT.row (s1.set k3 ({ e5 with paused := true } : MarkT)))) (fun e5 he5 => (sto_side MarkT.row ({ e5 with paused := true } : MarkT) he5)) fun e5 => .us [(6, 1212), (8, 1214)] (.ret (s1.set k3 ({ e5 with paused := true } : MarkT)))))) (.sel 1070 (.reg 0 (.ix 1216 ClauseT.row p2.clauses (i1 : Int) fun e6 => .use 6 1216 (.ite 1072 (p1 == e6.resume) (.sel 1072 (.reg 0 (.b1 1218 (idxN p9 (i1 : Int)) (fun k4 => .k k4) (fun k4 hk4 => (midx_side hk4)) fun k4 => .b1 1220 (s1[k4]?) (fun e7 => .aw (rowA (MarkT.row e7)) (rowsA MarkT.row (s1.set k4 ({ e7 with paused := false } : MarkT)))) (fun e7 he7 => (sto_side MarkT.row ({ e7 with paused := false } : MarkT) he7)) fun e7 => .us [(6, 1218), (8, 1220)] (.ret (s1.set k4 ({ e7 with paused := false } : MarkT)))))) (.sel 1072 (.ret s1))))))))) fun v2 => .ret ((!true), v2)))) (.us [(6, 1204), (7, 1206), (8, 1208), (10, 1068)] (.ret (false, s1))))) fun v3 => .ite 1074 v3.1 (.sel 1074 (.ret (.inr v3.2))) (.sel 1074 (.ret (.inl v3.2))))) fun os1 => .case os1 (fun s1 => .sel 1058 (.ret s1)) fun y1 => .ret y1))) fun v4 => .reg 1 (.bind (eqN p5 p4.length) (fun _ => []) (fun _ _ => .nil) fun g1 => .bind (eqN p7 p6.length) (fun _ => []) (fun _ _ => .nil) fun g2 => .bind (eqN p9 v4.length) (fun _ => []) (fun _ _ => .nil) fun g3 => .bind (d_doer p2 ({ day := p3, holders := p4, used := p6, marks := v4 } : StateT) p1) (fun r3 => [(1222, ([.w [1, 2, 3] [.agg (ContractT.row p2), .agg (StateT.row ({ day := p3, holders := p4, used := p6, marks := v4 } : StateT)), .int .i64 p1] (.int .i64 r3)], _))]) (fun r3 hr3 => (.c2 (t_doer p2 ({ day := p3, holders := p4, used := p6, marks := v4 } : StateT) p1 r3 hr3) (snap_of [.agg (rowA (ContractT.row p2)), .agg [vI p3, .mslice 1 0 p5, .mslice 2 0 p7, .mslice 3 0 p9], vI p1] [(1, .rows 1 (rowsA rowI p4)), (2, .rows 1 (rowsA rowB p6)), (3, .rows 5 (rowsA MarkT.row v4))] [.agg (ContractT.row p2), .agg (StateT.row ({ day := p3, holders := p4, used := p6, marks := v4 } : StateT)), .int .i64 p1] (snapC (snapA (snapC (snapI _) (snapC (snapI _) (snapC (snapI _) (snapC (snapI _) (snapC (snapI _) (snapC (snapI _) (snapC (snapI _) snapN)))))))) (snapC (snapA (snapC (snapI _) (snapC (snapE rowI 1 1 p5 p4 g1.down rfl) (snapC (snapE rowB 2 1 p7 p6 g2.down rfl) (snapC (snapE MarkT.row 3 5 p9 v4 g3.down rfl) snapN))))) (snapC (snapI _) snapN)))) .nil)) fun r3 => .use 9 1222 (.cut (β := (List MarkT)) 1 (⟨[2, 3, 4], fun _ => [], [0, 4, 5, 14], fun v9 => [(1, .rows 1 (rowsA rowI p4)), (2, .rows 1 (rowsA rowB p6)), (3, .rows 5 (rowsA MarkT.row v9))], 68, fun _ => (.rows rfl (.rows rfl (.rows rfl .nil)))⟩) (.reg 0 (.b1 1224 (d_66a p2 p3 p4 p5 p6 p7 v4 p9) (fun r4 => .c [0, 1, 2, 3] 4 (.func 67 [] [.ptr 57 0 0]) [(57, .rows 1 [[.ptr 0 0 0]])] 1) (fun r4 hr4 => (call_side (t_66a p2 p3 p4 p5 p6 p7 v4 p9 r4 hr4) [0, 1, 2, 3] 57 (.drop rfl rfl (.drop rfl rfl (.drop rfl rfl (.drop rfl rfl (.keep .nil))))) (rhR (rhI (rhI (rhI rhN)))) (rhR rhN))) fun r4 => .use 1 1224 (.forR (σ := (List MarkT)) (ρ := (List MarkT)) 1084 10 (p9 : Int) v4 (⟨[0, 1, 9], fun _ => [], [0, 4, 5, 14, 42, 54, 57, 59], fun s2 => [(1, .rows 1 (rowsA rowI p4)), (2, .rows 1 (rowsA rowB p6)), (3, .rows 5 (rowsA MarkT.row s2))], 67, fun _ => (.rows rfl (.rows rfl (.rows rfl .nil)))⟩) (fun i2 s2 => .sel 1084 (.cut (β := Bool × (List MarkT)) 4 (⟨[0, 1, 9, 10], fun v8 => [(27, vB v8.1)], [0, 4, 5, 14, 42, 54, 57, 59], fun v8 => [(1, .rows 1 (rowsA rowI p4)), (2, .rows 1 (rowsA rowB p6)), (3, .rows 5 (rowsA MarkT.row v8.2))], 85, fun _ => (.rows rfl (.rows rfl (.rows rfl .nil)))⟩) (.reg 0 (.b1 1226 (idxN p9 (i2 : Int)) (fun k5 => .k k5) (fun k5 hk5 => (midx_side hk5)) fun k5 => .b1 1228 (s2[k5]?) (fun e8 => .ar (rowA (MarkT.row e8))) (fun e8 he8 => (row_side MarkT.row he8)) fun e8 => .call 1230 (t_running e8) fun r5 => .ite 1130 r5 (.us [(6, 1226), (7, 1228), (8, 1230), (10, 1130)] (.reg 0 (.cut (β := (List MarkT)) 0 (⟨[], fun _ => [], [0, 4, 5, 14, 42, 54, 57, 59], fun v7 => [(1, .rows 1 (rowsA rowI p4)), (2, .rows 1 (rowsA rowB p6)), (3, .rows 5 (rowsA MarkT.row v7))], 116, fun _ => (.rows rfl (.rows rfl (.rows rfl .nil)))⟩) (.reg 0 (.ix 1232 ClauseT.row p2.clauses (i2 : Int) fun e9 => .use 6 1232 (.cut (β := Bool) 1 (⟨[2, 6, 8, 9], fun v5 => [(116, vB v5)], [0, 4, 5, 14, 42, 54, 57, 59, 92], fun _ => [(1, .rows 1 (rowsA rowI p4)), (2, .rows 1 (rowsA rowB p6)), (3, .rows 5 (rowsA MarkT.row s2))], 116, fun _ => (.rows rfl (.rows rfl (.rows rfl .nil)))⟩) (.reg 0 (.ite 1132 (e9.act == p1) (.ite 1134 (e9.kind == 4) (.us [(5, 1132), (9, 1134)] (.ret true)) (.b1 1234 (idxN p9 (i2 : Int)) (fun k6 => .k k6) (fun k6 hk6 => (midx_side hk6)) fun k6 => .b1 1236 (s2[k6]?) (fun e10 => .ar (rowA (MarkT.row e10))) (fun e10 he10 => (row_side MarkT.row he10)) fun e10 => .us [(5, 1132), (9, 1134), (15, 1234), (17, 1236)] (.ret (e10.bearer == r3)))) (.use 5 1132 (.ret false)))) fun v5 => .ite 1136 v5 (.sel 1136 (.cut (β := (List MarkT)) 0 (⟨[], fun _ => [], [0, 4, 5, 14, 42, 54, 57, 59, 92], fun v6 => [(1, .rows 1 (rowsA rowI p4)), (2, .rows 1 (rowsA rowB p6)), (3, .rows 5 (rowsA MarkT.row v6))], 123, fun _ => (.rows rfl (.rows rfl (.rows rfl .nil)))⟩) (.reg 0 (.swt 1146 e9.kind 5 0 rfl (.none) (.swt 1144 e9.kind 5 1 rfl (.b1 1238 (d_65a (i2 : Int) p2 p3 p4 p5 p6 p7 s2 p9) (fun r9 => .c [0, 1, 2, 3] 4 (.tuple []) [(3, .rows 5 (rowsA MarkT.row r9))] 0) (fun r9 hr9 => (call_side (t_65a (i2 : Int) p2 p3 p4 p5 p6 p7 s2 p9 r9 hr9) [0, 1, 2, 3] 123 (.drop rfl rfl (.drop rfl rfl (.drop rfl rfl (.keep .nil)))) (rhR (rhI (rhI (rhI rhN)))) (rhI rhN))) fun r9 => .us [(2, 1144), (6, 1238)] (.ret r9)) (.swt 1142 e9.kind 5 2 rfl (.b1 1240 (d_71a (i2 : Int) p2 p3 p4 p5 p6 p7 s2 p9) (fun r8 => .c [0, 1, 2, 3] 4 (.tuple []) [(3, .rows 5 (rowsA MarkT.row r8))] 0) (fun r8 hr8 => (call_side (t_71a (i2 : Int) p2 p3 p4 p5 p6 p7 s2 p9 r8 hr8) [0, 1, 2, 3] 123 (.drop rfl rfl (.drop rfl rfl (.drop rfl rfl (.keep .nil)))) (rhR (rhI (rhI (rhI rhN)))) (rhI rhN))) fun r8 => .us [(2, 1142), (6, 1240)] (.ret r8)) (.swt 1140 e9.kind 5 3 rfl (.b1 1242 (d_61a (i2 : Int) p2 p3 p4 p5 p6 p7 s2 p9) (fun r7 => .c [0, 1, 2, 3] 4 (.tuple []) [(3, .rows 5 (rowsA MarkT.row r7))] 0) (fun r7 hr7 => (call_side (t_61a (i2 : Int) p2 p3 p4 p5 p6 p7 s2 p9 r7 hr7) [0, 1, 2, 3] 123 (.drop rfl rfl (.drop rfl rfl (.drop rfl rfl (.keep .nil)))) (rhR (rhI (rhI (rhI rhN)))) (rhI rhN))) fun r7 => .us [(2, 1140), (6, 1242)] (.ret r7)) (.swt 1138 e9.kind 5 4 rfl (.b1 1244 (d_61a (i2 : Int) p2 p3 p4 p5 p6 p7 s2 p9) (fun r6 => .c [0, 1, 2, 3] 4 (.tuple []) [(3, .rows 5 (rowsA MarkT.row r6))] 0) (fun r6 hr6 => (call_side (t_61a (i2 : Int) p2 p3 p4 p5 p6 p7 s2 p9 r6 hr6) [0, 1, 2, 3] 123 (.drop rfl rfl (.drop rfl rfl (.drop rfl rfl (.keep .nil)))) (rhR (rhI (rhI (rhI rhN)))) (rhI rhN))) fun r6 => .us [(2, 1138), (6, 1244)] (.ret r6)) (.none))))))) fun v6 => .ret v6)) (.sel 1136 (.ret s2))))) fun v7 => .ret ((!true), v7)))) (.us [(6, 1226), (7, 1228), (8, 1230), (10, 1130)] (.ret (false, s2))))) fun v8 => .ite 1148 v8.1 (.sel 1148 (.ret (.inr v8.2))) (.sel 1148 (.ret (.inl v8.2))))) fun os2 => .case os2 (fun s2 => .sel 1084 (.ret s2)) fun y2 => .ret y2))) fun v9 => .cut (β := (List Int) × (List Bool) × (List MarkT)) 1 (⟨[2], fun _ => [], [0, 4], fun v10 => [(1, .rows 1 (rowsA rowI v10.1)), (2, .rows 1 (rowsA rowB v10.2.1)), (3, .rows 5 (rowsA MarkT.row v10.2.2))], 71, fun _ => (.rows rfl (.rows rfl (.rows rfl .nil)))⟩) (.ite 1150 (e1.kind == 1) (.sel 1151 (.ret (p4, p6, v9))) (.sel 1151 (.reg 0 (.b1 1246 (d_68a p1 p2 p3 p4 p5 p6 p7 v9 p9) (fun r10 => .c [0, 1, 2, 3] 4 (.tuple []) [(1, .rows 1 (rowsA rowI r10.1)), (2, .rows 1 (rowsA rowB r10.2.1)), (3, .rows 5 (rowsA MarkT.row r10.2.2))] 0) (fun r10 hr10 => (call_side (t_68a p1 p2 p3 p4 p5 p6 p7 v9 p9 r10 hr10) [0, 1, 2, 3] 73 (.drop rfl rfl (.keep (.keep (.keep .nil)))) (rhR (rhI (rhI (rhI rhN)))) (rhI (rhI (rhI rhN))))) fun r10 => .use 2 1246 (.ret (r10.1, r10.2.1, r10.2.2)))))) fun v10 => .reg 0 (.b1 1248 (d_69a p2 p3 v10.1 p5 v10.2.1 p7 v10.2.2 p9) (fun r11 => .c [0, 1, 2, 3] 4 (.tuple []) [(3, .rows 5 (rowsA MarkT.row r11))] 0) (fun r11 hr11 => (call_side (t_69a p2 p3 v10.1 p5 v10.2.1 p7 v10.2.2 p9 r11 hr11) [0, 1, 2, 3] 72 (.drop rfl rfl (.drop rfl rfl (.drop rfl rfl (.keep .nil)))) (rhR (rhI (rhI (rhI rhN)))) (rhI rhN))) fun r11 => .use 1 1248 (.ret (v10.1, v10.2.1, r11)))))))))
theorem t_60a (p1 : Int) (p2 : ContractT) (p3 : Int) (p4 : List Int) (p5 : Nat) (p6 : List Bool) (p7 : Nat) (p8 : List MarkT) (p9 : Nat) (res : (List Int) × (List Bool) × (List MarkT)) (hd : d_60a p1 p2 p3 p4 p5 p6 p7 p8 p9 = some res) : DOk C0 60 [.ptr 0 0 0, vI p1] [(0, .rows 11 [[vI p2.parties, .imm (.slice (List.map rowI p2.holders)), .imm (.slice (List.map UnitT.row p2.units)), .imm (.slice (List.map ActT.row p2.acts)), .imm (.slice (List.map ClauseT.row p2.clauses)), vI p2.days, .imm (.slice (List.map rowI p2.off)), vI p3, .mslice 1 0 p5, .mslice 2 0 p7, .mslice 3 0 p9]]), (1, .rows 1 (rowsA rowI p4)), (2, .rows 1 (rowsA rowB p6)), (3, .rows 5 (rowsA MarkT.row p8))] 4 (.tuple []) [(0, .rows 11 [[vI p2.parties, .imm (.slice (List.map rowI p2.holders)), .imm (.slice (List.map UnitT.row p2.units)), .imm (.slice (List.map ActT.row p2.acts)), .imm (.slice (List.map ClauseT.row p2.clauses)), vI p2.days, .imm (.slice (List.map rowI p2.off)), vI p3, .mslice 1 0 p5, .mslice 2 0 p7, .mslice 3 0 p9]]), (1, .rows 1 (rowsA rowI res.1)), (2, .rows 1 (rowsA rowB res.2.1)), (3, .rows 5 (rowsA MarkT.row res.2.2))] 0 :=
  Plan.det (R := fun res => .tuple []) (H := fun res => [(0, .rows 11 [[vI p2.parties, .imm (.slice (List.map rowI p2.holders)), .imm (.slice (List.map UnitT.row p2.units)), .imm (.slice (List.map ActT.row p2.acts)), .imm (.slice (List.map ClauseT.row p2.clauses)), vI p2.days, .imm (.slice (List.map rowI p2.off)), vI p3, .mslice 1 0 p5, .mslice 2 0 p7, .mslice 3 0 p9]]), (1, .rows 1 (rowsA rowI res.1)), (2, .rows 1 (rowsA rowB res.2.1)), (3, .rows 5 (rowsA MarkT.row res.2.2))]) (p_60a p1 p2 p3 p4 p5 p6 p7 p8 p9) (.exp rfl rfl (.rows rfl (.rows rfl (.rows rfl .nil)))) (fun _ => (.exp rfl rfl (.rows rfl (.rows rfl (.rows rfl .nil))))) (by kernel_rfl) (fun _ => by kernel_rfl) (by kernel_rfl) (Plan.run_of hd (by kernel_rfl))

noncomputable def d_Step (c : ContractT) (s : StateT) (step : Int) : Option (StateT × Int) :=
  (Option.bind (Option.bind (d_ValidS c s) fun r1 => (bif r1 then (bif decide (step < (-1)) then some true else some (decide ((c.acts.length : Int) ≤ step))) else some true)) fun v1 => (bif v1 then some (({ day := 0, holders := [], used := [], marks := [] } : StateT), 1) else (bif (s.day == c.days) then some (({ day := 0, holders := [], used := [], marks := [] } : StateT), 13) else (Option.bind (mkN 8 (s.holders.length : Int)) fun k1 => (Option.bind (mkN 1 (s.used.length : Int)) fun k2 => (Option.bind (mkN 40 (s.marks.length : Int)) fun k3 => (Option.bind (copyI (α := Int) k1 (List.replicate k1 0) s.holders) fun e1 => (Option.bind (copyI (α := Bool) k2 (List.replicate k2 false) s.used) fun e2 => (Option.bind (copyI (α := MarkT) k3 (List.replicate k3 ({ status := 0, left := 0, got := 0, bearer := 0, paused := false } : MarkT)) s.marks) fun e3 => (Option.bind (bif (step == (-1)) then (Option.bind (d_70a c s.day e1 k1 e2 k2 e3 k3) fun r2 => some (e1, e2, r2, (IntKind.i64.wrap (s.day + 1)))) else (Option.bind (d_60a step c s.day e1 k1 e2 k2 e3 k3) fun r3 => some (r3.1, r3.2.1, r3.2.2, s.day))) fun (v2 : (List Int) × (List Bool) × (List MarkT) × Int) => (Option.bind (eqN k1 v2.1.length) fun g1 => (Option.bind (eqN k2 v2.2.1.length) fun g2 => (Option.bind (eqN k3 v2.2.2.1.length) fun g3 => some (({ day := v2.2.2.2, holders := v2.1, used := v2.2.1, marks := v2.2.2.1 } : StateT), 0))))))))))))))
noncomputable def p_Step (c : ContractT) (s : StateT) (step : Int) : Plan (StateT × Int) :=
  .cut (β := Bool) 3 (.e [2, 3, 4, 6] (fun v1 => [(23, vB v1)]) [0, 1, 2] 19) (.reg 0 (.call 1250 (t_ValidS c s) fun r1 => .ite 892 r1 (.ite 894 (decide (step < (-1))) (.us [(2, 1250), (5, 893), (9, 894)] (.ret true)) (.us [(2, 1250), (5, 893), (9, 894)] (.ln 1252 ActT.row c.acts (.use 12 1252 (.ret (decide ((c.acts.length : Int) ≤ step))))))) (.us [(2, 1250), (5, 893)] (.f1 1254 (.g true) (rfl : true = true) (.use 9 1254 (.ret true)))))) fun v1 => .ite 896 v1 (.sel 896 (.ret (({ day := 0, holders := [], used := [], marks := [] } : StateT), 1))) (.sel 896 (.ite 898 (s.day == c.days) (.sel 898 (.ret (({ day := 0, holders := [], used := [], marks := [] } : StateT), 13))) (.sel 898 (.reg 0 (.b1 1256 (mkN 8 (s.holders.length : Int)) (fun k1 => .m k1 (rowsA rowI (List.replicate k1 0))) (fun k1 hk1 => (mks_side rowI 0 hk1)) fun k1 => .b1 1258 (mkN 1 (s.used.length : Int)) (fun k2 => .m k2 (rowsA rowB (List.replicate k2 false))) (fun k2 hk2 => (mks_side rowB false hk2)) fun k2 => .b1 1260 (mkN 40 (s.marks.length : Int)) (fun k3 => .m k3 (rowsA MarkT.row (List.replicate k3 ({ status := 0, left := 0, got := 0, bearer := 0, paused := false } : MarkT)))) (fun k3 hk3 => (mks_side MarkT.row ({ status := 0, left := 0, got := 0, bearer := 0, paused := false } : MarkT) hk3)) fun k3 => .ln 1276 rowI s.holders (.us [(5, 1276), (6, 1256)] (.ln 1274 rowB s.used (.us [(9, 1274), (10, 1258)] (.ln 1272 MarkT.row s.marks (.us [(13, 1272), (14, 1260)] (.reg 0 (.b1 1262 (copyI (α := Int) k1 (List.replicate k1 0) s.holders) (fun e1 => .b (rowsA rowI e1) 0) (fun e1 he1 => (copy_side rowI 1 (fun _ => rfl) he1)) fun e1 => .use 7 1262 (.reg 0 (.b1 1264 (copyI (α := Bool) k2 (List.replicate k2 false) s.used) (fun e2 => .b (rowsA rowB e2) 0) (fun e2 he2 => (copy_side rowB 1 (fun _ => rfl) he2)) fun e2 => .use 7 1264 (.reg 0 (.b1 1266 (copyI (α := MarkT) k3 (List.replicate k3 ({ status := 0, left := 0, got := 0, bearer := 0, paused := false } : MarkT)) s.marks) (fun e3 => .b (rowsA MarkT.row e3) 0) (fun e3 he3 => (copy_side MarkT.row 5 (fun _ => rfl) he3)) fun e3 => .use 7 1266 (.cut (β := (List Int) × (List Bool) × (List MarkT) × Int) 1 (⟨[6, 8], fun _ => [], [2], fun v2 => [(30, .rows 1 (rowsA rowI v2.1)), (34, .rows 1 (rowsA rowB v2.2.1)), (38, .rows 5 (rowsA MarkT.row v2.2.2.1)), (41, .rows 11 [[vI c.parties, .imm (.slice (List.map rowI c.holders)), .imm (.slice (List.map UnitT.row c.units)), .imm (.slice (List.map ActT.row c.acts)), .imm (.slice (List.map ClauseT.row c.clauses)), vI c.days, .imm (.slice (List.map rowI c.off)), vI v2.2.2.2, .mslice 30 0 k1, .mslice 34 0 k2, .mslice 38 0 k3]])], 71, fun _ => (.rows rfl (.rows rfl (.rows rfl (.exp rfl rfl .nil))))⟩) (.ite 900 (step == (-1)) (.sel 900 (.reg 0 (.b1 1268 (d_70a c s.day e1 k1 e2 k2 e3 k3) (fun r2 => .c [41, 30, 34, 38] 4 (.tuple []) [(41, .rows 11 [[vI c.parties, .imm (.slice (List.map rowI c.holders)), .imm (.slice (List.map UnitT.row c.units)), .imm (.slice (List.map ActT.row c.acts)), .imm (.slice (List.map ClauseT.row c.clauses)), vI c.days, .imm (.slice (List.map rowI c.off)), vI (IntKind.i64.wrap (s.day + 1)), .mslice 30 0 k1, .mslice 34 0 k2, .mslice 38 0 k3]]), (38, .rows 5 (rowsA MarkT.row r2))] 0) (fun r2 hr2 => (call_side (t_70a c s.day e1 k1 e2 k2 e3 k3 r2 hr2) [41, 30, 34, 38] 70 (.keep (.drop rfl rfl (.drop rfl rfl (.keep .nil)))) (rhR (rhI (rhI (rhI rhN)))) (rhR (rhI rhN)))) fun r2 => .use 1 1268 (.ret (e1, e2, r2, (IntKind.i64.wrap (s.day + 1))))))) (.sel 900 (.reg 0 (.b1 1270 (d_60a step c s.day e1 k1 e2 k2 e3 k3) (fun r3 => .c [41, 30, 34, 38] 4 (.tuple []) [(30, .rows 1 (rowsA rowI r3.1)), (34, .rows 1 (rowsA rowB r3.2.1)), (38, .rows 5 (rowsA MarkT.row r3.2.2))] 0) (fun r3 hr3 => (call_side (t_60a step c s.day e1 k1 e2 k2 e3 k3 r3 hr3) [41, 30, 34, 38] 71 (.drop rfl rfl (.keep (.keep (.keep .nil)))) (rhR (rhI (rhI (rhI rhN)))) (rhI (rhI (rhI rhN))))) fun r3 => .use 2 1270 (.ret (r3.1, r3.2.1, r3.2.2, s.day)))))) fun v2 => .bind (eqN k1 v2.1.length) (fun _ => []) (fun _ _ => .nil) fun g4 => .bind (eqN k2 v2.2.1.length) (fun _ => []) (fun _ _ => .nil) fun g5 => .bind (eqN k3 v2.2.2.1.length) (fun _ => []) (fun _ _ => .nil) fun g6 => .fin [30, 34, 38] (.tuple [.agg [vI v2.2.2.2, .mslice 30 0 k1, .mslice 34 0 k2, .mslice 38 0 k3], vI 0]) [(30, .rows 1 (rowsA rowI v2.1)), (34, .rows 1 (rowsA rowB v2.2.1)), (38, .rows 5 (rowsA MarkT.row v2.2.2.1))] (.tuple [.agg (StateT.row ((({ day := v2.2.2.2, holders := v2.1, used := v2.2.1, marks := v2.2.2.1 } : StateT), 0).1)), .int .i64 ((({ day := v2.2.2.2, holders := v2.1, used := v2.2.1, marks := v2.2.2.1 } : StateT), 0).2)]) (snap_of _ _ _ (snapC (snapT (snapC (snapA (snapC (snapI _) (snapC (snapE rowI 30 1 k1 v2.1 g4.down rfl) (snapC (snapE rowB 34 1 k2 v2.2.1 g5.down rfl) (snapC (snapE MarkT.row 38 5 k3 v2.2.2.1 g6.down rfl) snapN))))) (snapC (snapI _) snapN))) snapN)) (({ day := v2.2.2.2, holders := v2.1, used := v2.2.1, marks := v2.2.2.1 } : StateT), 0))))))))))))))))))
theorem t_Step (c : ContractT) (s : StateT) (step : Int) (res : StateT × Int) (hd : d_Step c s step = some res) : APure C0 101 [.agg (ContractT.row c), .agg (StateT.row s), .int .i64 step] (.tuple [.agg (StateT.row res.1), .int .i64 res.2]) :=
  Plan.pure (iv := fun res => .tuple [.agg (StateT.row res.1), .int .i64 res.2]) (p_Step c s step) (by kernel_rfl) (Plan.run_of hd (by kernel_rfl))

noncomputable def d_EqI (a : List Int) (b : List Int) : Option Bool :=
  (bif ((a.length : Int) == (b.length : Int)) then (Option.bind (forR (σ := Unit) (ρ := Unit) (a.length : Int) (fun i1 s1 => (Option.bind (idxI a (i1 : Int)) fun e1 => (Option.bind (idxI b (i1 : Int)) fun e2 => (bif (e1 == e2) then some (.inl ()) else some (.inr ()))))) ()) (Sum.elim (fun (s1 : Unit) => some true) (fun (y1 : Unit) => some false))) else some false)
noncomputable def p_EqI (a : List Int) (b : List Int) : Plan Bool :=
  .reg 1 (.ln 1304 rowI a (.use 1 1304 (.ln 1302 rowI b (.use 3 1302 (.ite 1290 ((a.length : Int) == (b.length : Int)) (.sel 1291 (.reg 0 (.ln 1300 rowI a (.use 1 1300 (.forR (σ := Unit) (ρ := Unit) 1292 13 (a.length : Int) () (.e [0, 1, 12] (fun _ => []) [] 9) (fun i1 s1 => .sel 1292 (.reg 1 (.ix 1296 rowI a (i1 : Int) fun e1 => .ix 1298 rowI b (i1 : Int) fun e2 => .us [(2, 1296), (6, 1298)] (.ite 1294 (e1 == e2) (.sel 1295 (.ret (.inl ()))) (.sel 1295 (.ret (.inr ()))))))) fun os1 => .case os1 (fun s1 => .sel 1292 (.ret true)) fun y1 => .ret false))))) (.sel 1291 (.ret false)))))))
theorem t_EqI (a : List Int) (b : List Int) (res : Bool) (hd : d_EqI a b = some res) : APure C0 125 [.slice (List.map rowI a), .slice (List.map rowI b)] (.bool res) :=
  Plan.pure (iv := fun res => .bool res) (p_EqI a b) (by kernel_rfl) (Plan.run_of hd (by kernel_rfl))

noncomputable def d_EqB (a : List Bool) (b : List Bool) : Option Bool :=
  (bif ((a.length : Int) == (b.length : Int)) then (Option.bind (forR (σ := Unit) (ρ := Unit) (a.length : Int) (fun i1 s1 => (Option.bind (idxI a (i1 : Int)) fun e1 => (Option.bind (idxI b (i1 : Int)) fun e2 => (bif (e1 == e2) then some (.inl ()) else some (.inr ()))))) ()) (Sum.elim (fun (s1 : Unit) => some true) (fun (y1 : Unit) => some false))) else some false)
noncomputable def p_EqB (a : List Bool) (b : List Bool) : Plan Bool :=
  .reg 1 (.ln 1322 rowB a (.use 1 1322 (.ln 1320 rowB b (.use 3 1320 (.ite 1308 ((a.length : Int) == (b.length : Int)) (.sel 1309 (.reg 0 (.ln 1318 rowB a (.use 1 1318 (.forR (σ := Unit) (ρ := Unit) 1310 13 (a.length : Int) () (.e [0, 1, 12] (fun _ => []) [] 9) (fun i1 s1 => .sel 1310 (.reg 1 (.ix 1314 rowB a (i1 : Int) fun e1 => .ix 1316 rowB b (i1 : Int) fun e2 => .us [(2, 1314), (6, 1316)] (.ite 1312 (e1 == e2) (.sel 1313 (.ret (.inl ()))) (.sel 1313 (.ret (.inr ()))))))) fun os1 => .case os1 (fun s1 => .sel 1310 (.ret true)) fun y1 => .ret false))))) (.sel 1309 (.ret false)))))))
theorem t_EqB (a : List Bool) (b : List Bool) (res : Bool) (hd : d_EqB a b = some res) : APure C0 123 [.slice (List.map rowB a), .slice (List.map rowB b)] (.bool res) :=
  Plan.pure (iv := fun res => .bool res) (p_EqB a b) (by kernel_rfl) (Plan.run_of hd (by kernel_rfl))

noncomputable def d_EqM (a : List MarkT) (b : List MarkT) : Option Bool :=
  (bif ((a.length : Int) == (b.length : Int)) then (Option.bind (forR (σ := Unit) (ρ := Unit) (a.length : Int) (fun i1 s1 => (Option.bind (idxI a (i1 : Int)) fun e1 => (Option.bind (idxI b (i1 : Int)) fun e2 => (bif ((e1.status == e2.status) && ((e1.left == e2.left) && ((e1.got == e2.got) && ((e1.bearer == e2.bearer) && ((e1.paused == e2.paused) && true))))) then some (.inl ()) else some (.inr ()))))) ()) (Sum.elim (fun (s1 : Unit) => some true) (fun (y1 : Unit) => some false))) else some false)
noncomputable def p_EqM (a : List MarkT) (b : List MarkT) : Plan Bool :=
  .reg 1 (.ln 1340 MarkT.row a (.use 1 1340 (.ln 1338 MarkT.row b (.use 3 1338 (.ite 1326 ((a.length : Int) == (b.length : Int)) (.sel 1327 (.reg 0 (.ln 1336 MarkT.row a (.use 1 1336 (.forR (σ := Unit) (ρ := Unit) 1328 13 (a.length : Int) () (.e [0, 1, 12] (fun _ => []) [] 9) (fun i1 s1 => .sel 1328 (.reg 1 (.ix 1332 MarkT.row a (i1 : Int) fun e1 => .ix 1334 MarkT.row b (i1 : Int) fun e2 => .us [(2, 1332), (6, 1334)] (.ite 1330 ((e1.status == e2.status) && ((e1.left == e2.left) && ((e1.got == e2.got) && ((e1.bearer == e2.bearer) && ((e1.paused == e2.paused) && true))))) (.sel 1331 (.ret (.inl ()))) (.sel 1331 (.ret (.inr ()))))))) fun os1 => .case os1 (fun s1 => .sel 1328 (.ret true)) fun y1 => .ret false))))) (.sel 1327 (.ret false)))))))
theorem t_EqM (a : List MarkT) (b : List MarkT) (res : Bool) (hd : d_EqM a b = some res) : APure C0 124 [.slice (List.map MarkT.row a), .slice (List.map MarkT.row b)] (.bool res) :=
  Plan.pure (iv := fun res => .bool res) (p_EqM a b) (by kernel_rfl) (Plan.run_of hd (by kernel_rfl))

noncomputable def d_SameS (a : StateT) (b : StateT) : Option Bool :=
  (Option.bind (bif (a.day == b.day) then (Option.bind (d_EqI a.holders b.holders) fun r1 => (bif r1 then (Option.bind (d_EqB a.used b.used) fun r2 => (bif r2 then (Option.bind (d_EqM a.marks b.marks) fun r3 => some r3) else some false)) else some false)) else some false) fun v1 => some v1)
noncomputable def p_SameS (a : StateT) (b : StateT) : Plan Bool :=
  .cut (β := Bool) 2 (.e [] (fun v1 => [(4, vB v1)]) [0, 1] 30) (.reg 0 (.ite 1288 (a.day == b.day) (.call 1342 (t_EqI a.holders b.holders) fun r1 => .ite 1306 r1 (.call 1344 (t_EqB a.used b.used) fun r2 => .ite 1324 r2 (.call 1346 (t_EqM a.marks b.marks) fun r3 => .us [(6, 1288), (10, 1342), (13, 1306), (17, 1344), (20, 1324), (24, 1346)] (.ret r3)) (.us [(6, 1288), (10, 1342), (13, 1306), (17, 1344), (20, 1324)] (.ret false))) (.us [(6, 1288), (10, 1342), (13, 1306)] (.f1 1348 (.g false) (rfl : false = false) (.use 20 1348 (.ret false))))) (.use 6 1288 (.f1 1352 (.g false) (rfl : false = false) (.use 13 1352 (.f1 1350 (.g false) (rfl : false = false) (.use 20 1350 (.ret false)))))))) fun v1 => .ret v1
theorem t_SameS (a : StateT) (b : StateT) (res : Bool) (hd : d_SameS a b = some res) : APure C0 99 [.agg (StateT.row a), .agg (StateT.row b)] (.bool res) :=
  Plan.pure (iv := fun res => .bool res) (p_SameS a b) (by kernel_rfl) (Plan.run_of hd (by kernel_rfl))

noncomputable def d_From (c : ContractT) (party : Int) (p : PosT) : Option (ArenaT × Int) :=
  (Option.bind (d_playable c party p) fun r1 => (bif r1 then (Option.bind (d_copied p.state) fun r2 => (Option.bind (d_text p) fun r3 => (Option.bind (α := ((List PosT) × (List (List MoveT))) ⊕ Unit) (Option.bind (iter (σ := Int × (List PosT) × (List (List MoveT)) × (List (ByteArray × Int))) (ρ := ((List PosT) × (List (List MoveT))) ⊕ Unit) (fun s1 => (bif decide (s1.1 < (s1.2.1.length : Int)) then (Option.bind (α := ((List PosT) × (List (ByteArray × Int)) × (List MoveT)) ⊕ Unit) (Option.bind (idxI s1.2.1 s1.1) fun e1 => (Option.bind (d_78b c party e1) fun r4 => (Option.bind (α := ((List PosT) × (List (ByteArray × Int)) × (List MoveT)) ⊕ (Unit ⊕ ((List PosT) × (List (ByteArray × Int)) × (List MoveT)))) (bif e1.own then (Option.bind (d_copied e1.state) fun r5 => (Option.bind (d_text ({ state := r5, own := false } : PosT)) fun r6 => (Option.bind (α := (Int × (List PosT) × (List (ByteArray × Int))) ⊕ Unit) (bif ((mget r6 s1.2.2.2).isSome) then some (.inl (((mget r6 s1.2.2.2).getD 0), s1.2.1, s1.2.2.2)) else (bif ((s1.2.1.length : Int) == 1500) then some (.inr ()) else (Option.bind (appI (α := PosT) 88 s1.2.1 [({ state := r5, own := false } : PosT)]) fun e2 => some (.inl ((s1.2.1.length : Int), e2, (mset r6 (s1.2.1.length : Int) s1.2.2.2)))))) (Sum.elim (fun (v1 : Int × (List PosT) × (List (ByteArray × Int))) => (Option.bind (appI (α := MoveT) 16 [] [({ step := (-2), to := v1.1 } : MoveT)]) fun e3 => (bif decide (c.days ≤ e1.state.day) then some (.inr (.inr (v1.2.1, v1.2.2, e3))) else some (.inl (v1.2.1, v1.2.2, e3))))) (fun (y1 : Unit) => some (.inr (.inl ()))))))) else (bif decide (c.days ≤ e1.state.day) then some (.inr (.inr (s1.2.1, s1.2.2.2, []))) else some (.inl (s1.2.1, s1.2.2.2, [])))) (Sum.elim (fun (v2 : (List PosT) × (List (ByteArray × Int)) × (List MoveT)) => (Option.bind (α := ((List PosT) × (List (ByteArray × Int)) × (List MoveT)) ⊕ Unit) (bif e1.own then some (.inl (v2.1, v2.2.1, v2.2.2)) else (Option.bind (d_Step c e1.state (-1)) fun r7 => (Option.bind (d_text ({ state := r7.1, own := true } : PosT)) fun r8 => (Option.bind (α := (Int × (List PosT) × (List (ByteArray × Int))) ⊕ Unit) (bif ((mget r8 v2.2.1).isSome) then some (.inl (((mget r8 v2.2.1).getD 0), v2.1, v2.2.1)) else (bif ((v2.1.length : Int) == 1500) then some (.inr ()) else (Option.bind (appI (α := PosT) 88 v2.1 [({ state := r7.1, own := true } : PosT)]) fun e4 => some (.inl ((v2.1.length : Int), e4, (mset r8 (v2.1.length : Int) v2.2.1)))))) (Sum.elim (fun (v3 : Int × (List PosT) × (List (ByteArray × Int))) => (Option.bind (appI (α := MoveT) 16 v2.2.2 [({ step := (-1), to := v3.1 } : MoveT)]) fun e5 => some (.inl (v3.2.1, v3.2.2, e5)))) (fun (y4 : Unit) => some (.inr ()))))))) (Sum.elim (fun (v4 : (List PosT) × (List (ByteArray × Int)) × (List MoveT)) => (Option.bind (forR (σ := (List PosT) × (List (ByteArray × Int)) × (List MoveT)) (ρ := (List PosT) × (List (ByteArray × Int)) × (List MoveT)) (c.acts.length : Int) (fun i2 s2 => (Option.bind (α := ((List PosT) × (List (ByteArray × Int)) × (List MoveT)) ⊕ Unit) (Option.bind (idxI c.acts (i2 : Int)) fun e6 => (Option.bind (bif (e6.role == (-1)) then some (-1) else (Option.bind (idxI e1.state.holders e6.role) fun e7 => some e7)) fun (v5 : Int) => (bif ((v5 == party) == e1.own) then (Option.bind (d_Step c e1.state (i2 : Int)) fun r9 => (Option.bind (d_SameS r9.1 e1.state) fun r10 => (bif r10 then some (.inl (s2.1, s2.2.1, s2.2.2)) else (Option.bind (d_text ({ state := r9.1, own := true } : PosT)) fun r11 => (Option.bind (α := (Int × (List PosT) × (List (ByteArray × Int))) ⊕ Unit) (bif ((mget r11 s2.2.1).isSome) then some (.inl (((mget r11 s2.2.1).getD 0), s2.1, s2.2.1)) else (bif ((s2.1.length : Int) == 1500) then some (.inr ()) else (Option.bind (appI (α := PosT) 88 s2.1 [({ state := r9.1, own := true } : PosT)]) fun e8 => some (.inl ((s2.1.length : Int), e8, (mset r11 (s2.1.length : Int) s2.2.1)))))) (Sum.elim (fun (v6 : Int × (List PosT) × (List (ByteArray × Int))) => (Option.bind (appI (α := MoveT) 16 s2.2.2 [({ step := (i2 : Int), to := v6.1 } : MoveT)]) fun e9 => some (.inl (v6.2.1, v6.2.2, e9)))) (fun (y6 : Unit) => some (.inr ())))))))) else some (.inl (s2.1, s2.2.1, s2.2.2))))) (Sum.elim (fun (v7 : (List PosT) × (List (ByteArray × Int)) × (List MoveT)) => some (.inl (v7.1, v7.2.1, v7.2.2))) (fun (y7 : Unit) => some (.inr (s2.1, s2.2.1, s2.2.2)))))) (v4.1, v4.2.1, v4.2.2)) (Sum.elim (fun (s2 : (List PosT) × (List (ByteArray × Int)) × (List MoveT)) => some (.inl (s2.1, s2.2.1, s2.2.2))) (fun (y8 : (List PosT) × (List (ByteArray × Int)) × (List MoveT)) => some (.inr ()))))) (fun (y5 : Unit) => some (.inr ()))))) (Sum.elim (fun (y2 : Unit) => some (.inr ())) (fun (y3 : (List PosT) × (List (ByteArray × Int)) × (List MoveT)) => some (.inl (y3.1, y3.2.1, y3.2.2)))))))) (Sum.elim (fun (v8 : (List PosT) × (List (ByteArray × Int)) × (List MoveT)) => (Option.bind (appI (α := List MoveT) 24 s1.2.2.1 [v8.2.2]) fun e10 => some (.inl ((IntKind.i64.wrap (s1.1 + 1)), v8.1, e10, v8.2.1)))) (fun (y9 : Unit) => some (.inr (.inr ()))))) else some (.inr (.inl (s1.2.1, s1.2.2.1))))) (0, [({ state := r2, own := p.own } : PosT)], [], (mset r3 0 []))) (Sum.elim (fun (y10 : (List PosT) × (List (List MoveT))) => some (.inl (y10.1, y10.2))) (fun (y11 : Unit) => some (.inr ())))) (Sum.elim (fun (v9 : (List PosT) × (List (List MoveT))) => some (({ party := party, positions := v9.1, moves := v9.2 } : ArenaT), 0)) (fun (y12 : Unit) => some (({ party := 0, positions := [], moves := [] } : ArenaT), 3)))))) else some (({ party := 0, positions := [], moves := [] } : ArenaT), 1)))
noncomputable def p_From (c : ContractT) (party : Int) (p : PosT) : Plan (ArenaT × Int) :=
  .reg 1 (.call 1470 (t_playable c party p) fun r1 => .use 3 1470 (.ite 852 r1 (.sel 853 (.reg 0 (.call 1472 (t_copied p.state) fun r2 => .use 3 1472 (.reg 0 (.call 1474 (t_text p) fun r3 => .use 2 1474 (.f1 1540 (.u (entsA IV.str IV.i64 (mset r3 0 []))) (upd_sideS IV.i64 r3 0 []) (.use 3 1540 (.cutO (β := (List PosT) × (List (List MoveT))) (γ := Unit) 1 (⟨[6, 7, 8], fun _ => [], [2, 3], fun v9 => [(18, .rows 3 [[vI party, .gslice 29 (List.map PosT.row v9.1), .gslice 28 (List.map (rowL MoveT.row) v9.2)]]), (28, .tip 1 v9.2.length), (29, .tip 5 v9.1.length)], 30, fun _ => (.exp rfl rfl (.exp rfl rfl (.exp rfl rfl .nil)))⟩) (.weak 2 [wNilO 18 1 0 2, wTipO 8 18 0 1 16 5 PosT.row [({ state := r2, own := p.own } : PosT)]] (.iter (σ := Int × (List PosT) × (List (List MoveT)) × (List (ByteArray × Int))) (ρ := ((List PosT) × (List (List MoveT))) ⊕ Unit) (0, [({ state := r2, own := p.own } : PosT)], [], (mset r3 0 [])) (⟨[1, 3, 6, 7, 8, 9], fun s1 => [(10, vI s1.1)], [0, 2, 3, 25], fun s1 => [(18, .rows 3 [[vI party, .gslice 29 (List.map PosT.row s1.2.1), .gslice 28 (List.map (rowL MoveT.row) s1.2.2.1)]]), (20, .map (entsA IV.str IV.i64 s1.2.2.2)), (28, .tip 1 s1.2.2.1.length), (29, .tip 5 s1.2.1.length)], 30, fun _ => (.exp rfl rfl (.ents rfl (.exp rfl rfl (.exp rfl rfl .nil))))⟩) (fun s1 => .reg 0 (.ln 1538 PosT.row s1.2.1 (.use 3 1538 (.ite 1420 (decide (s1.1 < (s1.2.1.length : Int))) (.sel 1420 (.cutO (β := (List PosT) × (List (ByteArray × Int)) × (List MoveT)) (γ := Unit) 4 (⟨[1, 3, 6, 7, 8, 9, 10, 11], fun _ => [], [0, 2, 3, 25, 28], fun v8 => [(18, .rows 3 [[vI party, .gslice 29 (List.map PosT.row v8.1), .gslice 28 (List.map (rowL MoveT.row) s1.2.2.1)]]), (20, .map (entsA IV.str IV.i64 v8.2.1)), (29, .tip 5 v8.1.length), (35, .rows 1 [[.gslice 48 (List.map MoveT.row v8.2.2)]]), (48, .tip 2 v8.2.2.length)], 69, fun _ => (.exp rfl rfl (.ents rfl (.exp rfl rfl (.exp rfl rfl (.exp rfl rfl .nil)))))⟩) (.reg 0 (.ix 1478 PosT.row s1.2.1 s1.1 fun e1 => .b1 1480 (d_78b c party e1) (fun r4 => .c [] 0 (.func 79 [] [.ptr 46 0 0, .ptr 44 0 0, .ptr 45 0 0]) [(44, .rows 7 [rowA (ContractT.row c)]), (45, .rows 1 [[vI party]]), (46, .rows 5 [rowA (PosT.row e1)])] 3) (fun r4 hr4 => (call_side (t_78b c party e1 r4 hr4) [] 44 (.keep (.keep (.keep .nil))) rhN (rhR (rhR (rhR rhN))))) fun r4 => .us [(5, 1478), (7, 1480)] (.weak 2 [wNilO 35 2 0 0] (.cutO (β := (List PosT) × (List (ByteArray × Int)) × (List MoveT)) (γ := Unit ⊕ ((List PosT) × (List (ByteArray × Int)) × (List MoveT))) 1 (⟨[0, 1, 2, 3], fun _ => [], [0, 2, 3, 25, 28, 46, 45, 44, 47], fun v2 => [(18, .rows 3 [[vI party, .gslice 29 (List.map PosT.row v2.1), .gslice 28 (List.map (rowL MoveT.row) s1.2.2.1)]]), (20, .map (entsA IV.str IV.i64 v2.2.1)), (29, .tip 5 v2.1.length), (35, .rows 1 [[.gslice 48 (List.map MoveT.row v2.2.2)]]), (48, .tip 2 v2.2.2.length)], 68, fun _ => (.exp rfl rfl (.ents rfl (.exp rfl rfl (.exp rfl rfl (.exp rfl rfl .nil)))))⟩) (.reg 0 (.ite 1432 e1.own (.call 1518 (t_copied e1.state) fun r5 => .us [(3, 1432), (6, 1518)] (.reg 2 (.call 1520 (t_text ({ state := r5, own := false } : PosT)) fun r6 => .use 1 1520 (.reg 0 (.f1 1534 (.l (vI ((mget r6 s1.2.2.2).getD 0)) ((mget r6 s1.2.2.2).isSome)) (look_sideS IV.i64 0 r6 s1.2.2.2) (.use 2 1534 (.cutO (β := Int × (List PosT) × (List (ByteArray × Int))) (γ := Unit) 1 (⟨[11, 12], fun v1 => [(15, vI v1.1)], [0, 2, 3, 25, 28, 35, 46, 45, 44, 47, 48], fun v1 => [(18, .rows 3 [[vI party, .gslice 29 (List.map PosT.row v1.2.1), .gslice 28 (List.map (rowL MoveT.row) s1.2.2.1)]]), (20, .map (entsA IV.str IV.i64 v1.2.2)), (29, .tip 5 v1.2.1.length)], 74, fun _ => (.exp rfl rfl (.ents rfl (.exp rfl rfl .nil)))⟩) (.ite 1434 ((mget r6 s1.2.2.2).isSome) (.sel 1435 (.ret (.inl (((mget r6 s1.2.2.2).getD 0), s1.2.1, s1.2.2.2)))) (.sel 1435 (.reg 0 (.ln 1532 PosT.row s1.2.1 (.use 2 1532 (.ite 1436 ((s1.2.1.length : Int) == 1500) (.sel 1436 (.ret (.inr ()))) (.sel 1436 (.reg 0 (.f1 1530 (.u (entsA IV.str IV.i64 (mset r6 (s1.2.1.length : Int) s1.2.2.2))) (upd_sideS IV.i64 r6 (s1.2.1.length : Int) s1.2.2.2) (.use 3 1530 (.reg 0 (.b1 1528 (appI (α := PosT) 88 s1.2.1 [({ state := r5, own := false } : PosT)]) (fun e2 => .a (List.map PosT.row e2) e2.length) (fun e2 he2 => (app_side PosT.row 5 88 (fun _ => rfl) he2)) fun e2 => .use 4 1528 (.ret (.inl ((s1.2.1.length : Int), e2, (mset r6 (s1.2.1.length : Int) s1.2.2.2)))))))))))))))) fun o_v1 => .case o_v1 (fun v1 => .reg 0 (.b1 1524 (appI (α := MoveT) 16 [] [({ step := (-2), to := v1.1 } : MoveT)]) (fun e3 => .a (List.map MoveT.row e3) e3.length) (fun e3 he3 => (app_side MoveT.row 2 16 (fun _ => rfl) he3)) fun e3 => .use 5 1524 (.f1 1526 (.g false) (rfl : (!true) = false) (.use 12 1526 (.ite 1438 (decide (c.days ≤ e1.state.day)) (.sel 1438 (.ret (.inr (.inr (v1.2.1, v1.2.2, e3))))) (.sel 1438 (.ret (.inl (v1.2.1, v1.2.2, e3))))))))) fun y1 => .f1 1522 (.g true) (rfl : (!false) = true) (.use 12 1522 (.ret (.inr (.inl ()))))))))))) (.use 3 1432 (.f1 1536 (.g false) (rfl : false = false) (.use 12 1536 (.ite 1440 (decide (c.days ≤ e1.state.day)) (.sel 1440 (.ret (.inr (.inr (s1.2.1, s1.2.2.2, []))))) (.sel 1440 (.ret (.inl (s1.2.1, s1.2.2.2, [])))))))))) fun o_v2 => .case o_v2 (fun v2 => .cutO (β := (List PosT) × (List (ByteArray × Int)) × (List MoveT)) (γ := Unit) 1 (⟨[0, 1, 2, 3], fun _ => [], [0, 2, 3, 25, 28, 46, 45, 44, 47], fun v4 => [(18, .rows 3 [[vI party, .gslice 29 (List.map PosT.row v4.1), .gslice 28 (List.map (rowL MoveT.row) s1.2.2.1)]]), (20, .map (entsA IV.str IV.i64 v4.2.1)), (29, .tip 5 v4.1.length), (35, .rows 1 [[.gslice 48 (List.map MoveT.row v4.2.2)]]), (48, .tip 2 v4.2.2.length)], 71, fun _ => (.exp rfl rfl (.ents rfl (.exp rfl rfl (.exp rfl rfl (.exp rfl rfl .nil)))))⟩) (.ite 1442 e1.own (.sel 1443 (.ret (.inl (v2.1, v2.2.1, v2.2.2)))) (.sel 1443 (.reg 0 (.call 1504 (t_Step c e1.state (-1)) fun r7 => .use 3 1504 (.reg 0 (.reg 2 (.call 1506 (t_text ({ state := r7.1, own := true } : PosT)) fun r8 => .use 1 1506 (.reg 0 (.f1 1516 (.l (vI ((mget r8 v2.2.1).getD 0)) ((mget r8 v2.2.1).isSome)) (look_sideS IV.i64 0 r8 v2.2.1) (.use 2 1516 (.cutO (β := Int × (List PosT) × (List (ByteArray × Int))) (γ := Unit) 1 (⟨[11, 12], fun v3 => [(15, vI v3.1)], [0, 2, 3, 25, 28, 35, 46, 45, 44, 47, 48, 78], fun v3 => [(18, .rows 3 [[vI party, .gslice 29 (List.map PosT.row v3.2.1), .gslice 28 (List.map (rowL MoveT.row) s1.2.2.1)]]), (20, .map (entsA IV.str IV.i64 v3.2.2)), (29, .tip 5 v3.2.1.length)], 101, fun _ => (.exp rfl rfl (.ents rfl (.exp rfl rfl .nil)))⟩) (.ite 1444 ((mget r8 v2.2.1).isSome) (.sel 1445 (.ret (.inl (((mget r8 v2.2.1).getD 0), v2.1, v2.2.1)))) (.sel 1445 (.reg 0 (.ln 1514 PosT.row v2.1 (.use 2 1514 (.ite 1446 ((v2.1.length : Int) == 1500) (.sel 1446 (.ret (.inr ()))) (.sel 1446 (.reg 0 (.f1 1512 (.u (entsA IV.str IV.i64 (mset r8 (v2.1.length : Int) v2.2.1))) (upd_sideS IV.i64 r8 (v2.1.length : Int) v2.2.1) (.use 3 1512 (.reg 0 (.b1 1510 (appI (α := PosT) 88 v2.1 [({ state := r7.1, own := true } : PosT)]) (fun e4 => .a (List.map PosT.row e4) e4.length) (fun e4 he4 => (app_side PosT.row 5 88 (fun _ => rfl) he4)) fun e4 => .use 4 1510 (.ret (.inl ((v2.1.length : Int), e4, (mset r8 (v2.1.length : Int) v2.2.1)))))))))))))))) fun o_v3 => .case o_v3 (fun v3 => .reg 0 (.b1 1508 (appI (α := MoveT) 16 v2.2.2 [({ step := (-1), to := v3.1 } : MoveT)]) (fun e5 => .a (List.map MoveT.row e5) e5.length) (fun e5 he5 => (app_side MoveT.row 2 16 (fun _ => rfl) he5)) fun e5 => .use 5 1508 (.ret (.inl (v3.2.1, v3.2.2, e5))))) fun y4 => .ret (.inr ())))))))))))) fun o_v4 => .case o_v4 (fun v4 => .reg 0 (.ln 1502 ActT.row c.acts (.use 2 1502 (.forR (σ := (List PosT) × (List (ByteArray × Int)) × (List MoveT)) (ρ := (List PosT) × (List (ByteArray × Int)) × (List MoveT)) 1448 49 (c.acts.length : Int) (v4.1, v4.2.1, v4.2.2) (⟨[0, 1, 2, 3, 47, 48], fun _ => [], [0, 2, 3, 25, 28, 46, 45, 44, 47], fun s2 => [(18, .rows 3 [[vI party, .gslice 29 (List.map PosT.row s2.1), .gslice 28 (List.map (rowL MoveT.row) s1.2.2.1)]]), (20, .map (entsA IV.str IV.i64 s2.2.1)), (29, .tip 5 s2.1.length), (35, .rows 1 [[.gslice 48 (List.map MoveT.row s2.2.2)]]), (48, .tip 2 s2.2.2.length)], 75, fun _ => (.exp rfl rfl (.ents rfl (.exp rfl rfl (.exp rfl rfl (.exp rfl rfl .nil)))))⟩) (fun i2 s2 => .sel 1448 (.cutO (β := (List PosT) × (List (ByteArray × Int)) × (List MoveT)) (γ := Unit) 1 (⟨[0, 1, 2, 3, 47, 48, 49], fun _ => [], [0, 2, 3, 25, 28, 46, 45, 44, 47], fun v7 => [(18, .rows 3 [[vI party, .gslice 29 (List.map PosT.row v7.1), .gslice 28 (List.map (rowL MoveT.row) s1.2.2.1)]]), (20, .map (entsA IV.str IV.i64 v7.2.1)), (29, .tip 5 v7.1.length), (35, .rows 1 [[.gslice 48 (List.map MoveT.row v7.2.2)]]), (48, .tip 2 v7.2.2.length)], 92, fun _ => (.exp rfl rfl (.ents rfl (.exp rfl rfl (.exp rfl rfl (.exp rfl rfl .nil)))))⟩) (.reg 0 (.ix 1482 ActT.row c.acts (i2 : Int) fun e6 => .use 1 1482 (.cut (β := Int) 2 (⟨[0, 1, 2, 3, 47, 48, 49, 7], fun v5 => [(9, vI v5)], [0, 2, 3, 18, 25, 28, 29, 35, 46, 45, 44, 47, 48], fun _ => [(20, .map (entsA IV.str IV.i64 s2.2.1))], 86, fun _ => (.ents rfl .nil)⟩) (.ite 1460 (e6.role == (-1)) (.sel 1461 (.ret (-1))) (.sel 1461 (.reg 0 (.ix 1484 rowI e1.state.holders e6.role fun e7 => .use 5 1484 (.ret e7))))) fun v5 => .ite 1462 ((v5 == party) == e1.own) (.sel 1463 (.reg 0 (.call 1486 (t_Step c e1.state (i2 : Int)) fun r9 => .use 4 1486 (.reg 0 (.call 1488 (t_SameS r9.1 e1.state) fun r10 => .ite 1464 r10 (.us [(3, 1488), (6, 1465)] (.ret (.inl (s2.1, s2.2.1, s2.2.2)))) (.us [(3, 1488), (6, 1465)] (.reg 2 (.call 1490 (t_text ({ state := r9.1, own := true } : PosT)) fun r11 => .use 1 1490 (.reg 0 (.f1 1500 (.l (vI ((mget r11 s2.2.1).getD 0)) ((mget r11 s2.2.1).isSome)) (look_sideS IV.i64 0 r11 s2.2.1) (.use 2 1500 (.cutO (β := Int × (List PosT) × (List (ByteArray × Int))) (γ := Unit) 1 (⟨[11, 12], fun v6 => [(15, vI v6.1)], [0, 2, 3, 25, 28, 35, 46, 45, 44, 47, 48, 100], fun v6 => [(18, .rows 3 [[vI party, .gslice 29 (List.map PosT.row v6.2.1), .gslice 28 (List.map (rowL MoveT.row) s1.2.2.1)]]), (20, .map (entsA IV.str IV.i64 v6.2.2)), (29, .tip 5 v6.2.1.length)], 130, fun _ => (.exp rfl rfl (.ents rfl (.exp rfl rfl .nil)))⟩) (.ite 1466 ((mget r11 s2.2.1).isSome) (.sel 1467 (.ret (.inl (((mget r11 s2.2.1).getD 0), s2.1, s2.2.1)))) (.sel 1467 (.reg 0 (.ln 1498 PosT.row s2.1 (.use 2 1498 (.ite 1468 ((s2.1.length : Int) == 1500) (.sel 1468 (.ret (.inr ()))) (.sel 1468 (.reg 0 (.f1 1496 (.u (entsA IV.str IV.i64 (mset r11 (s2.1.length : Int) s2.2.1))) (upd_sideS IV.i64 r11 (s2.1.length : Int) s2.2.1) (.use 3 1496 (.reg 0 (.b1 1494 (appI (α := PosT) 88 s2.1 [({ state := r9.1, own := true } : PosT)]) (fun e8 => .a (List.map PosT.row e8) e8.length) (fun e8 he8 => (app_side PosT.row 5 88 (fun _ => rfl) he8)) fun e8 => .use 4 1494 (.ret (.inl ((s2.1.length : Int), e8, (mset r11 (s2.1.length : Int) s2.2.1)))))))))))))))) fun o_v6 => .case o_v6 (fun v6 => .reg 0 (.b1 1492 (appI (α := MoveT) 16 s2.2.2 [({ step := (i2 : Int), to := v6.1 } : MoveT)]) (fun e9 => .a (List.map MoveT.row e9) e9.length) (fun e9 he9 => (app_side MoveT.row 2 16 (fun _ => rfl) he9)) fun e9 => .use 5 1492 (.ret (.inl (v6.2.1, v6.2.2, e9))))) fun y6 => .ret (.inr ()))))))))))))) (.sel 1463 (.ret (.inl (s2.1, s2.2.1, s2.2.2))))))) fun o_v7 => .case o_v7 (fun v7 => .ret (.inl (v7.1, v7.2.1, v7.2.2))) fun y7 => .ret (.inr (s2.1, s2.2.1, s2.2.2)))) fun os2 => .case os2 (fun s2 => .sel 1448 (.ret (.inl (s2.1, s2.2.1, s2.2.2)))) fun y8 => .ret (.inr ()))))) fun y5 => .ret (.inr ())) fun zy2 => .case zy2 (fun y2 => .ret (.inr ())) fun y3 => .ret (.inl (y3.1, y3.2.1, y3.2.2)))))) fun o_v8 => .case o_v8 (fun v8 => .reg 0 (.b1 1476 (appI (α := List MoveT) 24 s1.2.2.1 [v8.2.2]) (fun e10 => .a (List.map (rowL MoveT.row) e10) e10.length) (fun e10 he10 => (app_side (rowL MoveT.row) 1 24 (fun _ => rfl) he10)) fun e10 => .use 4 1476 (.ret (.inl ((IntKind.i64.wrap (s1.1 + 1)), v8.1, e10, v8.2.1))))) fun y9 => .ret (.inr (.inr ())))) (.sel 1420 (.ret (.inr (.inl (s1.2.1, s1.2.2.1))))))))) fun os1 => .case os1 (fun y10 => .ret (.inl (y10.1, y10.2))) fun y11 => .ret (.inr ()))) fun o_v9 => .case o_v9 (fun v9 => .ret (({ party := party, positions := v9.1, moves := v9.2 } : ArenaT), 0)) fun y12 => .ret (({ party := 0, positions := [], moves := [] } : ArenaT), 3))))))))) (.sel 853 (.ret (({ party := 0, positions := [], moves := [] } : ArenaT), 1)))))
theorem t_From (c : ContractT) (party : Int) (p : PosT) (res : ArenaT × Int) (hd : d_From c party p = some res) : APure C0 74 [.agg (ContractT.row c), .int .i64 party, .agg (PosT.row p)] (.tuple [.agg (ArenaT.row res.1), .int .i64 res.2]) :=
  Plan.pure (iv := fun res => .tuple [.agg (ArenaT.row res.1), .int .i64 res.2]) (p_From c party p) (by kernel_rfl) (Plan.run_of hd (by kernel_rfl))

noncomputable def d_Build (c : ContractT) (party : Int) : Option (ArenaT × Int) :=
  (Option.bind (d_Start c) fun r1 => (bif (r1.2 == 0) then (Option.bind (d_From c party ({ state := r1.1, own := true } : PosT)) fun r2 => some (r2.1, r2.2)) else some (({ party := 0, positions := [], moves := [] } : ArenaT), r1.2)))
noncomputable def p_Build (c : ContractT) (party : Int) : Plan (ArenaT × Int) :=
  .reg 1 (.call 1542 (t_Start c) fun r1 => .use 1 1542 (.ite 674 (r1.2 == 0) (.sel 675 (.reg 0 (.call 1544 (t_From c party ({ state := r1.1, own := true } : PosT)) fun r2 => .use 4 1544 (.ret (r2.1, r2.2))))) (.sel 675 (.ret (({ party := 0, positions := [], moves := [] } : ArenaT), r1.2)))))
theorem t_Build (c : ContractT) (party : Int) (res : ArenaT × Int) (hd : d_Build c party = some res) : APure C0 73 [.agg (ContractT.row c), .int .i64 party] (.tuple [.agg (ArenaT.row res.1), .int .i64 res.2]) :=
  Plan.pure (iv := fun res => .tuple [.agg (ArenaT.row res.1), .int .i64 res.2]) (p_Build c party) (by kernel_rfl) (Plan.run_of hd (by kernel_rfl))

noncomputable def d_Reach (c : ContractT) : Option ((List StateT) × Int) :=
  (Option.bind (d_Start c) fun r1 => (bif (r1.2 == 0) then (Option.bind (d_text ({ state := r1.1, own := false } : PosT)) fun r2 => (Option.bind (α := (List StateT) ⊕ Unit) (Option.bind (iter (σ := (List StateT) × Int × (List (ByteArray × Bool))) (ρ := (List StateT) ⊕ Unit) (fun s1 => (bif decide (s1.2.1 < (s1.1.length : Int)) then (Option.bind (α := ((List StateT) × (List (ByteArray × Bool))) ⊕ Unit) (Option.bind (idxI s1.1 s1.2.1) fun e1 => (bif (e1.day == c.days) then some (.inl (s1.1, s1.2.2)) else (Option.bind (iter (σ := (List StateT) × Int × (List (ByteArray × Bool))) (ρ := ((List StateT) × (List (ByteArray × Bool))) ⊕ Unit) (fun s2 => (bif decide (s2.2.1 < (c.acts.length : Int)) then (Option.bind (α := ((List StateT) × (List (ByteArray × Bool))) ⊕ Unit) (Option.bind (idxI s2.1 s1.2.1) fun e2 => (Option.bind (d_Step c e2 s2.2.1) fun r3 => (Option.bind (d_text ({ state := r3.1, own := false } : PosT)) fun r4 => (bif ((mget r4 s2.2.2).getD false) then some (.inl (s2.1, s2.2.2)) else (bif ((s2.1.length : Int) == 1500) then some (.inr ()) else (Option.bind (appI (α := StateT) 80 s2.1 [r3.1]) fun e3 => some (.inl (e3, (mset r4 true s2.2.2))))))))) (Sum.elim (fun (v1 : (List StateT) × (List (ByteArray × Bool))) => some (.inl (v1.1, (IntKind.i64.wrap (s2.2.1 + 1)), v1.2))) (fun (y1 : Unit) => some (.inr (.inr ()))))) else some (.inr (.inl (s2.1, s2.2.2))))) (s1.1, (-1), s1.2.2)) (Sum.elim (fun (y2 : (List StateT) × (List (ByteArray × Bool))) => some (.inl (y2.1, y2.2))) (fun (y3 : Unit) => some (.inr ())))))) (Sum.elim (fun (v2 : (List StateT) × (List (ByteArray × Bool))) => some (.inl (v2.1, (IntKind.i64.wrap (s1.2.1 + 1)), v2.2))) (fun (y4 : Unit) => some (.inr (.inr ()))))) else some (.inr (.inl s1.1)))) ([r1.1], 0, (mset r2 true []))) (Sum.elim (fun (y5 : (List StateT)) => some (.inl y5)) (fun (y6 : Unit) => some (.inr ())))) (Sum.elim (fun (v3 : (List StateT)) => some (v3, 0)) (fun (y7 : Unit) => some ([], 3))))) else some ([], r1.2)))
noncomputable def p_Reach (c : ContractT) : Plan ((List StateT) × Int) :=
  .reg 1 (.call 1596 (t_Start c) fun r1 => .use 1 1596 (.ite 1546 (r1.2 == 0) (.sel 1547 (.reg 1 (.call 1598 (t_text ({ state := r1.1, own := false } : PosT)) fun r2 => .use 3 1598 (.f1 1620 (.u (entsA IV.str IV.bool (mset r2 true []))) (upd_sideS IV.bool r2 true []) (.use 4 1620 (.cutO (β := (List StateT)) (γ := Unit) 1 (⟨[], fun v3 => [(6, .gslice 24 (List.map StateT.row v3))], [], fun v3 => [(24, .tip 4 v3.length)], 25, fun _ => (.exp rfl rfl .nil)⟩) (.weak 2 [wTipE 6 14 4 StateT.row [r1.1]] (.iter (σ := (List StateT) × Int × (List (ByteArray × Bool))) (ρ := (List StateT) ⊕ Unit) ([r1.1], 0, (mset r2 true [])) (⟨[1, 7], fun s1 => [(6, .gslice 24 (List.map StateT.row s1.1)), (8, vI s1.2.1)], [0], fun s1 => [(16, .map (entsA IV.str IV.bool s1.2.2)), (24, .tip 4 s1.1.length)], 25, fun _ => (.ents rfl (.exp rfl rfl .nil))⟩) (fun s1 => .reg 0 (.ln 1618 StateT.row s1.1 (.use 2 1618 (.ite 1578 (decide (s1.2.1 < (s1.1.length : Int))) (.sel 1578 (.cutO (β := (List StateT) × (List (ByteArray × Bool))) (γ := Unit) 1 (⟨[1, 7, 8], fun v2 => [(6, .gslice 24 (List.map StateT.row v2.1))], [0], fun v2 => [(16, .map (entsA IV.str IV.bool v2.2)), (24, .tip 4 v2.1.length)], 37, fun _ => (.ents rfl (.exp rfl rfl .nil))⟩) (.reg 0 (.ix 1600 StateT.row s1.1 s1.2.1 fun e1 => .use 2 1600 (.ite 1580 (e1.day == c.days) (.sel 1580 (.ret (.inl (s1.1, s1.2.2)))) (.sel 1580 (.iter (σ := (List StateT) × Int × (List (ByteArray × Bool))) (ρ := ((List StateT) × (List (ByteArray × Bool))) ⊕ Unit) (s1.1, (-1), s1.2.2) (⟨[1, 7, 8], fun s2 => [(6, .gslice 24 (List.map StateT.row s2.1)), (9, vI s2.2.1)], [0], fun s2 => [(16, .map (entsA IV.str IV.bool s2.2.2)), (24, .tip 4 s2.1.length)], 38, fun _ => (.ents rfl (.exp rfl rfl .nil))⟩) (fun s2 => .reg 0 (.ln 1616 ActT.row c.acts (.use 3 1616 (.ite 1590 (decide (s2.2.1 < (c.acts.length : Int))) (.sel 1590 (.cutO (β := (List StateT) × (List (ByteArray × Bool))) (γ := Unit) 1 (⟨[1, 7, 8, 9], fun v1 => [(6, .gslice 24 (List.map StateT.row v1.1))], [0], fun v1 => [(16, .map (entsA IV.str IV.bool v1.2)), (24, .tip 4 v1.1.length)], 63, fun _ => (.ents rfl (.exp rfl rfl .nil))⟩) (.reg 0 (.ix 1602 StateT.row s2.1 s1.2.1 fun e2 => .call 1604 (t_Step c e2 s2.2.1) fun r3 => .us [(3, 1602), (6, 1604)] (.reg 0 (.call 1606 (t_text ({ state := r3.1, own := false } : PosT)) fun r4 => .use 2 1606 (.reg 0 (.f1 1614 (.l (vB ((mget r4 s2.2.2).getD false)) ((mget r4 s2.2.2).isSome)) (look_sideS IV.bool false r4 s2.2.2) (.use 2 1614 (.ite 1592 ((mget r4 s2.2.2).getD false) (.sel 1592 (.ret (.inl (s2.1, s2.2.2)))) (.sel 1592 (.reg 0 (.ln 1612 StateT.row s2.1 (.use 1 1612 (.ite 1594 ((s2.1.length : Int) == 1500) (.sel 1594 (.ret (.inr ()))) (.sel 1594 (.reg 0 (.f1 1610 (.u (entsA IV.str IV.bool (mset r4 true s2.2.2))) (upd_sideS IV.bool r4 true s2.2.2) (.use 2 1610 (.reg 0 (.b1 1608 (appI (α := StateT) 80 s2.1 [r3.1]) (fun e3 => .a (List.map StateT.row e3) e3.length) (fun e3 he3 => (app_side StateT.row 4 80 (fun _ => rfl) he3)) fun e3 => .use 3 1608 (.ret (.inl (e3, (mset r4 true s2.2.2))))))))))))))))))))))) fun o_v1 => .case o_v1 (fun v1 => .ret (.inl (v1.1, (IntKind.i64.wrap (s2.2.1 + 1)), v1.2))) fun y1 => .ret (.inr (.inr ())))) (.sel 1590 (.ret (.inr (.inl (s2.1, s2.2.2))))))))) fun os2 => .case os2 (fun y2 => .ret (.inl (y2.1, y2.2))) fun y3 => .ret (.inr ())))))) fun o_v2 => .case o_v2 (fun v2 => .ret (.inl (v2.1, (IntKind.i64.wrap (s1.2.1 + 1)), v2.2))) fun y4 => .ret (.inr (.inr ())))) (.sel 1578 (.ret (.inr (.inl s1.1)))))))) fun os1 => .case os1 (fun y5 => .ret (.inl y5)) fun y6 => .ret (.inr ()))) fun o_v3 => .case o_v3 (fun v3 => .ret (v3, 0)) fun y7 => .ret ([], 3))))))) (.sel 1547 (.ret ([], r1.2)))))
theorem t_Reach (c : ContractT) (res : (List StateT) × Int) (hd : d_Reach c = some res) : APure C0 76 [.agg (ContractT.row c)] (.tuple [.slice (List.map StateT.row res.1), .int .i64 res.2]) :=
  Plan.pure (iv := fun res => .tuple [.slice (List.map StateT.row res.1), .int .i64 res.2]) (p_Reach c) (by kernel_rfl) (Plan.run_of hd (by kernel_rfl))

noncomputable def d_head18  : Option Bool :=
  (Option.bind (d_sample) fun r1 => (Option.bind (d_Build r1 0) fun r2 => (Option.bind (d_Build r1 1) fun r3 => (Option.bind (d_Reach r1) fun r4 => (Option.bind (d_Build r1 2) fun r5 => (Option.bind (bif (r2.2 == 0) then (bif (r3.2 == 0) then (bif (r4.2 == 0) then (bif (r5.2 == 1) then (bif ((r2.1.positions.length : Int) == 8) then (bif ((r2.1.moves.length : Int) == 8) then (Option.bind (idxI r2.1.moves 0) fun e1 => (bif ((e1.length : Int) == 2) then (Option.bind (idxI r2.1.moves 1) fun e2 => (bif ((e2.length : Int) == 1) then (Option.bind (idxI r2.1.moves 5) fun e3 => some (!((e3.length : Int) == 0))) else some true)) else some true)) else some true) else some true) else some true) else some true) else some true) else some true) fun v1 => (bif v1 then some false else (Option.bind (Option.bind (idxI r2.1.moves 0) fun e4 => (Option.bind (idxI e4 0) fun e5 => (bif ((e5.step == (-2)) && ((e5.to == 1) && true)) then (Option.bind (idxI e4 1) fun e6 => (bif ((e6.step == 0) && ((e6.to == 2) && true)) then (Option.bind (idxI r2.1.moves 1) fun e7 => (Option.bind (idxI e7 0) fun e8 => some ((e8.step == (-1)) && ((e8.to == 3) && true)))) else some false)) else some false))) fun v2 => (Option.bind (bif v2 then (Option.bind (idxI r2.1.positions 3) fun e9 => (Option.bind (idxI e9.state.marks 0) fun e10 => (bif (e10.status == 4) then (Option.bind (idxI r2.1.positions 6) fun e11 => (Option.bind (idxI e11.state.marks 0) fun e12 => (bif (e12.status == 3) then (bif ((r3.1.positions.length : Int) == 8) then some ((r4.1.length : Int) == 4) else some false) else some false))) else some false))) else some false) fun v3 => some v3)))))))))
noncomputable def p_head18  : Plan Bool :=
  .reg 1 (.call 1652 t_sample fun r1 => .use 0 1652 (.reg 0 (.call 1654 (t_Build r1 0) fun r2 => .use 1 1654 (.reg 0 (.call 1656 (t_Build r1 1) fun r3 => .use 1 1656 (.reg 0 (.call 1658 (t_Reach r1) fun r4 => .use 1 1658 (.reg 0 (.call 1660 (t_Build r1 2) fun r5 => .use 1 1660 (.cut (β := Bool) 2 (.e [2, 4, 6] (fun v1 => [(81, vB v1)]) [2, 9, 17, 32] 85) (.reg 0 (.ite 1622 (r2.2 == 0) (.ite 1624 (r3.2 == 0) (.ite 1626 (r4.2 == 0) (.ite 1628 (r5.2 == 1) (.ite 1630 ((r2.1.positions.length : Int) == 8) (.ite 1632 ((r2.1.moves.length : Int) == 8) (.ix 1662 (rowL MoveT.row) r2.1.moves 0 fun e1 => .ite 1634 ((e1.length : Int) == 2) (.ix 1664 (rowL MoveT.row) r2.1.moves 1 fun e2 => .ite 1636 ((e2.length : Int) == 1) (.ix 1666 (rowL MoveT.row) r2.1.moves 5 fun e3 => .us [(3, 1623), (7, 1625), (11, 1627), (15, 1629)] (.ln 1676 PosT.row r2.1.positions (.us [(17, 1676), (21, 1631)] (.ln 1674 (rowL MoveT.row) r2.1.moves (.us [(23, 1674), (27, 1633), (29, 1662)] (.ln 1672 MoveT.row e1 (.us [(31, 1672), (35, 1635), (37, 1664)] (.ln 1670 MoveT.row e2 (.us [(39, 1670), (43, 1637), (45, 1666)] (.ln 1668 MoveT.row e3 (.use 47 1668 (.ret (!((e3.length : Int) == 0)))))))))))))) (.us [(3, 1623), (7, 1625), (11, 1627), (15, 1629)] (.ln 1684 PosT.row r2.1.positions (.us [(17, 1684), (21, 1631)] (.ln 1682 (rowL MoveT.row) r2.1.moves (.us [(23, 1682), (27, 1633), (29, 1662)] (.ln 1680 MoveT.row e1 (.us [(31, 1680), (35, 1635), (37, 1664)] (.ln 1678 MoveT.row e2 (.us [(39, 1678), (43, 1637)] (.ret true))))))))))) (.us [(3, 1623), (7, 1625), (11, 1627), (15, 1629)] (.ln 1692 PosT.row r2.1.positions (.us [(17, 1692), (21, 1631)] (.ln 1690 (rowL MoveT.row) r2.1.moves (.us [(23, 1690), (27, 1633), (29, 1662)] (.ln 1688 MoveT.row e1 (.us [(31, 1688), (35, 1635)] (.f1 1686 (.g true) (rfl : true = true) (.use 43 1686 (.ret true))))))))))) (.us [(3, 1623), (7, 1625), (11, 1627), (15, 1629)] (.ln 1700 PosT.row r2.1.positions (.us [(17, 1700), (21, 1631)] (.ln 1698 (rowL MoveT.row) r2.1.moves (.us [(23, 1698), (27, 1633)] (.f1 1696 (.g true) (rfl : true = true) (.use 35 1696 (.f1 1694 (.g true) (rfl : true = true) (.use 43 1694 (.ret true))))))))))) (.us [(3, 1623), (7, 1625), (11, 1627), (15, 1629)] (.ln 1708 PosT.row r2.1.positions (.us [(17, 1708), (21, 1631)] (.f1 1706 (.g true) (rfl : true = true) (.use 27 1706 (.f1 1704 (.g true) (rfl : true = true) (.use 35 1704 (.f1 1702 (.g true) (rfl : true = true) (.use 43 1702 (.ret true))))))))))) (.us [(3, 1623), (7, 1625), (11, 1627), (15, 1629)] (.f1 1716 (.g true) (rfl : true = true) (.use 21 1716 (.f1 1714 (.g true) (rfl : true = true) (.use 27 1714 (.f1 1712 (.g true) (rfl : true = true) (.use 35 1712 (.f1 1710 (.g true) (rfl : true = true) (.use 43 1710 (.ret true))))))))))) (.us [(3, 1623), (7, 1625), (11, 1627)] (.f1 1726 (.g true) (rfl : true = true) (.use 15 1726 (.f1 1724 (.g true) (rfl : true = true) (.use 21 1724 (.f1 1722 (.g true) (rfl : true = true) (.use 27 1722 (.f1 1720 (.g true) (rfl : true = true) (.use 35 1720 (.f1 1718 (.g true) (rfl : true = true) (.use 43 1718 (.ret true))))))))))))) (.us [(3, 1623), (7, 1625)] (.f1 1738 (.g true) (rfl : true = true) (.use 11 1738 (.f1 1736 (.g true) (rfl : true = true) (.use 15 1736 (.f1 1734 (.g true) (rfl : true = true) (.use 21 1734 (.f1 1732 (.g true) (rfl : true = true) (.use 27 1732 (.f1 1730 (.g true) (rfl : true = true) (.use 35 1730 (.f1 1728 (.g true) (rfl : true = true) (.use 43 1728 (.ret true))))))))))))))) (.use 3 1623 (.f1 1752 (.g true) (rfl : true = true) (.use 7 1752 (.f1 1750 (.g true) (rfl : true = true) (.use 11 1750 (.f1 1748 (.g true) (rfl : true = true) (.use 15 1748 (.f1 1746 (.g true) (rfl : true = true) (.use 21 1746 (.f1 1744 (.g true) (rfl : true = true) (.use 27 1744 (.f1 1742 (.g true) (rfl : true = true) (.use 35 1742 (.f1 1740 (.g true) (rfl : true = true) (.use 43 1740 (.ret true)))))))))))))))))) fun v1 => .ite 1638 v1 (.sel 1638 (.ret false)) (.sel 1638 (.cut (β := Bool) 1 (.e [2, 4, 6] (fun v2 => [(10, vB v2)]) [2, 9, 17, 32] 114) (.reg 0 (.ix 1754 (rowL MoveT.row) r2.1.moves 0 fun e4 => .ix 1756 MoveT.row e4 0 fun e5 => .ite 1640 ((e5.step == (-2)) && ((e5.to == 1) && true)) (.ix 1758 MoveT.row e4 1 fun e6 => .ite 1642 ((e6.step == 0) && ((e6.to == 2) && true)) (.ix 1760 (rowL MoveT.row) r2.1.moves 1 fun e7 => .ix 1762 MoveT.row e7 0 fun e8 => .us [(2, 1754), (4, 1756), (9, 1640), (11, 1754), (13, 1758), (19, 1642), (21, 1760), (23, 1762)] (.ret ((e8.step == (-1)) && ((e8.to == 3) && true)))) (.us [(2, 1754), (4, 1756), (9, 1640), (11, 1754), (13, 1758), (19, 1642)] (.ret false))) (.us [(2, 1754), (4, 1756), (9, 1640)] (.f1 1764 (.g false) (rfl : false = false) (.use 19 1764 (.ret false)))))) fun v2 => .cut (β := Bool) 1 (.e [] (fun v3 => [(0, vB v3)]) [2, 9, 17, 32] 151) (.reg 0 (.ite 1644 v2 (.ix 1766 PosT.row r2.1.positions 3 fun e9 => .ix 1768 MarkT.row e9.state.marks 0 fun e10 => .ite 1646 (e10.status == 4) (.ix 1770 PosT.row r2.1.positions 6 fun e11 => .ix 1772 MarkT.row e11.state.marks 0 fun e12 => .ite 1648 (e12.status == 3) (.ite 1650 ((r3.1.positions.length : Int) == 8) (.us [(2, 1644), (4, 1766), (8, 1768), (14, 1646), (16, 1770), (20, 1772), (26, 1648)] (.ln 1776 PosT.row r3.1.positions (.us [(28, 1776), (32, 1650)] (.ln 1774 StateT.row r4.1 (.use 33 1774 (.ret ((r4.1.length : Int) == 4))))))) (.us [(2, 1644), (4, 1766), (8, 1768), (14, 1646), (16, 1770), (20, 1772), (26, 1648)] (.ln 1778 PosT.row r3.1.positions (.us [(28, 1778), (32, 1650)] (.ret false))))) (.us [(2, 1644), (4, 1766), (8, 1768), (14, 1646), (16, 1770), (20, 1772), (26, 1648)] (.f1 1780 (.g false) (rfl : false = false) (.use 32 1780 (.ret false))))) (.us [(2, 1644), (4, 1766), (8, 1768), (14, 1646)] (.f1 1784 (.g false) (rfl : false = false) (.use 26 1784 (.f1 1782 (.g false) (rfl : false = false) (.use 32 1782 (.ret false))))))) (.use 2 1644 (.f1 1790 (.g false) (rfl : false = false) (.use 14 1790 (.f1 1788 (.g false) (rfl : false = false) (.use 26 1788 (.f1 1786 (.g false) (rfl : false = false) (.use 32 1786 (.ret false)))))))))) fun v3 => .ret v3))))))))))))
theorem t_head18  (res : Bool) (hd : d_head18  = some res) : APure C0 90 [] (.bool res) :=
  Plan.pure (iv := fun res => .bool res) (p_head18 ) (by kernel_rfl) (Plan.run_of hd (by kernel_rfl))

noncomputable def d_Small15 (c : ContractT) (n : Int) : Option Bool :=
  (Option.bind (bif decide (20 < (c.holders.length : Int)) then some true else (bif decide (30 < (c.units.length : Int)) then some true else (bif decide (70 < (c.acts.length : Int)) then some true else (bif decide (n < (c.clauses.length : Int)) then some true else some (decide (100 < (c.off.length : Int))))))) fun v1 => (bif v1 then some false else (Option.bind (forR (σ := Unit) (ρ := Unit) (c.clauses.length : Int) (fun i1 s1 => (Option.bind (idxI c.clauses (i1 : Int)) fun e1 => (bif decide (20 < (e1.start.length : Int)) then some (.inr ()) else some (.inl ())))) ()) (Sum.elim (fun (s1 : Unit) => some true) (fun (y1 : Unit) => some false)))))
noncomputable def p_Small15 (c : ContractT) (n : Int) : Plan Bool :=
  .cut (β := Bool) 3 (.e [2] (fun v1 => [(34, vB v1)]) [0] 31) (.reg 0 (.ite 1792 (decide (20 < (c.holders.length : Int))) (.ln 1812 rowI c.holders (.us [(2, 1812), (5, 1792)] (.f1 1810 (.g true) (rfl : true = true) (.use 11 1810 (.f1 1808 (.g true) (rfl : true = true) (.use 17 1808 (.f1 1806 (.g true) (rfl : true = true) (.use 24 1806 (.ret true))))))))) (.ite 1794 (decide (30 < (c.units.length : Int))) (.ln 1820 rowI c.holders (.us [(2, 1820), (5, 1792)] (.ln 1818 UnitT.row c.units (.us [(7, 1818), (11, 1794)] (.f1 1816 (.g true) (rfl : true = true) (.use 17 1816 (.f1 1814 (.g true) (rfl : true = true) (.use 24 1814 (.ret true))))))))) (.ite 1796 (decide (70 < (c.acts.length : Int))) (.ln 1828 rowI c.holders (.us [(2, 1828), (5, 1792)] (.ln 1826 UnitT.row c.units (.us [(7, 1826), (11, 1794)] (.ln 1824 ActT.row c.acts (.us [(13, 1824), (17, 1796)] (.f1 1822 (.g true) (rfl : true = true) (.use 24 1822 (.ret true))))))))) (.ite 1798 (decide (n < (c.clauses.length : Int))) (.ln 1836 rowI c.holders (.us [(2, 1836), (5, 1792)] (.ln 1834 UnitT.row c.units (.us [(7, 1834), (11, 1794)] (.ln 1832 ActT.row c.acts (.us [(13, 1832), (17, 1796)] (.ln 1830 ClauseT.row c.clauses (.us [(19, 1830), (24, 1798)] (.ret true))))))))) (.ln 1846 rowI c.holders (.us [(2, 1846), (5, 1792)] (.ln 1844 UnitT.row c.units (.us [(7, 1844), (11, 1794)] (.ln 1842 ActT.row c.acts (.us [(13, 1842), (17, 1796)] (.ln 1840 ClauseT.row c.clauses (.us [(19, 1840), (24, 1798)] (.ln 1838 rowI c.off (.use 26 1838 (.ret (decide (100 < (c.off.length : Int))))))))))))))))))) fun v1 => .ite 1800 v1 (.sel 1800 (.ret false)) (.sel 1800 (.forR (σ := Unit) (ρ := Unit) 1802 5 (c.clauses.length : Int) () (.e [2] (fun _ => []) [0] 32) (fun i1 s1 => .reg 0 (.ln 1852 ClauseT.row c.clauses (.use 3 1852 (.sel 1802 (.reg 0 (.ix 1848 ClauseT.row c.clauses (i1 : Int) fun e1 => .use 3 1848 (.ln 1850 CondT.row e1.start (.use 6 1850 (.ite 1804 (decide (20 < (e1.start.length : Int))) (.sel 1804 (.ret (.inr ()))) (.sel 1804 (.ret (.inl ())))))))))))) fun os1 => .case os1 (fun s1 => .reg 0 (.ln 1854 ClauseT.row c.clauses (.use 3 1854 (.sel 1802 (.ret true))))) fun y1 => .ret false))
theorem t_Small15 (c : ContractT) (n : Int) (res : Bool) (hd : d_Small15 c n = some res) : APure C0 94 [.agg (ContractT.row c), .int .i64 n] (.bool res) :=
  Plan.pure (iv := fun res => .bool res) (p_Small15 c n) (by kernel_rfl) (Plan.run_of hd (by kernel_rfl))

noncomputable def d_Tame (c : ContractT) : Option Bool :=
  (Option.bind (Option.bind (d_Small15 c 6) fun r1 => (bif r1 then (bif decide ((c.acts.length : Int) ≤ 8) then some (decide (c.days ≤ 20)) else some false) else some false)) fun v1 => some v1)
noncomputable def p_Tame (c : ContractT) : Plan Bool :=
  .cut (β := Bool) 2 (.e [] (fun v1 => [(2, vB v1)]) [0] 16) (.reg 0 (.call 1860 (t_Small15 c 6) fun r1 => .ite 1856 r1 (.ite 1858 (decide ((c.acts.length : Int) ≤ 8)) (.us [(1, 1860), (3, 1856)] (.ln 1862 ActT.row c.acts (.us [(5, 1862), (9, 1858)] (.ret (decide (c.days ≤ 20)))))) (.us [(1, 1860), (3, 1856)] (.ln 1864 ActT.row c.acts (.us [(5, 1864), (9, 1858)] (.ret false))))) (.us [(1, 1860), (3, 1856)] (.f1 1866 (.g false) (rfl : false = false) (.use 9 1866 (.ret false)))))) fun v1 => .ret v1
theorem t_Tame (c : ContractT) (res : Bool) (hd : d_Tame c = some res) : APure C0 97 [.agg (ContractT.row c)] (.bool res) :=
  Plan.pure (iv := fun res => .bool res) (p_Tame c) (by kernel_rfl) (Plan.run_of hd (by kernel_rfl))

noncomputable def d_Moves (c : ContractT) (party : Int) (p : PosT) : Option ((List Int) × Int) :=
  (Option.bind (d_playable c party p) fun r1 => (bif r1 then (Option.bind (Option.bind (d_78a c party p) fun r2 => (Option.bind (bif p.own then (Option.bind (d_copied p.state) fun r3 => (Option.bind (appI (α := Int) 8 [] [(-2)]) fun e1 => some e1)) else some []) fun (v1 : (List Int)) => (bif decide (c.days ≤ p.state.day) then some v1 else (Option.bind (bif p.own then some v1 else (Option.bind (d_Step c p.state (-1)) fun r4 => (Option.bind (appI (α := Int) 8 v1 [(-1)]) fun e2 => some e2))) fun (v2 : (List Int)) => (Option.bind (forR (σ := (List Int)) (ρ := (List Int)) (c.acts.length : Int) (fun i1 s1 => (Option.bind (α := (List Int) ⊕ (List Int)) (Option.bind (idxI c.acts (i1 : Int)) fun e3 => (Option.bind (bif (e3.role == (-1)) then some (-1) else (Option.bind (idxI p.state.holders e3.role) fun e4 => some e4)) fun (v3 : Int) => (bif ((v3 == party) == p.own) then (Option.bind (d_Step c p.state (i1 : Int)) fun r5 => (Option.bind (Option.bind (d_SameS r5.1 p.state) fun r6 => (bif r6 then some (false, s1) else (Option.bind (appI (α := Int) 8 s1 [(i1 : Int)]) fun e5 => some ((!true), e5)))) fun (v4 : Bool × (List Int)) => (bif v4.1 then some (.inr v4.2) else some (.inl v4.2)))) else some (.inl s1)))) (Sum.elim (fun (v5 : (List Int)) => some (.inl v5)) (fun (y1 : (List Int)) => some (.inr y1))))) v2) (Sum.elim (fun (s1 : (List Int)) => some s1) (fun (y2 : (List Int)) => some y2))))))) fun (v6 : (List Int)) => some (v6, 0)) else some ([], 1)))
noncomputable def p_Moves (c : ContractT) (party : Int) (p : PosT) : Plan ((List Int) × Int) :=
  .reg 1 (.call 2004 (t_playable c party p) fun r1 => .use 3 2004 (.ite 1976 r1 (.sel 1977 (.cut (β := (List Int)) 2 (⟨[8], fun _ => [], [], fun v6 => [(9, .rows 1 [[.gslice 18 (List.map rowI v6)]]), (18, .tip 1 v6.length)], 39, fun _ => (.exp rfl rfl (.exp rfl rfl .nil))⟩) (.reg 0 (.b1 2006 (d_78a c party p) (fun r2 => .c [] 0 (.func 79 [] [.ptr 15 0 0, .ptr 13 0 0, .ptr 14 0 0]) [(13, .rows 7 [rowA (ContractT.row c)]), (14, .rows 1 [[vI party]]), (15, .rows 5 [rowA (PosT.row p)])] 3) (fun r2 hr2 => (call_side (t_78a c party p r2 hr2) [] 13 (.keep (.keep (.keep .nil))) rhN (rhR (rhR (rhR rhN))))) fun r2 => .use 3 2006 (.weak 3 [wNilO 9 1 0 0] (.cut (β := (List Int)) 1 (⟨[0, 1, 2, 3], fun _ => [(30, vB (decide (c.days ≤ p.state.day)))], [15, 14, 13, 17], fun v1 => [(9, .rows 1 [[.gslice 18 (List.map rowI v1)]]), (18, .tip 1 v1.length)], 38, fun _ => (.exp rfl rfl (.exp rfl rfl .nil))⟩) (.reg 0 (.ite 1980 p.own (.call 2008 (t_copied p.state) fun r3 => .us [(3, 1980), (6, 2008)] (.reg 1 (.b1 2010 (appI (α := Int) 8 [] [(-2)]) (fun e1 => .a (List.map rowI e1) e1.length) (fun e1 he1 => (app_side rowI 1 8 (fun _ => rfl) he1)) fun e1 => .use 3 2010 (.f1 2012 (.g false) (rfl : (!true) = false) (.use 12 2012 (.ret e1)))))) (.use 3 1980 (.f1 2014 (.g false) (rfl : false = false) (.use 12 2014 (.ret [])))))) fun v1 => .ite 1982 (decide (c.days ≤ p.state.day)) (.sel 1982 (.ret v1)) (.sel 1982 (.cut (β := (List Int)) 1 (⟨[0, 1, 2, 3], fun _ => [], [15, 14, 13, 17], fun v2 => [(9, .rows 1 [[.gslice 18 (List.map rowI v2)]]), (18, .tip 1 v2.length)], 41, fun _ => (.exp rfl rfl (.exp rfl rfl .nil))⟩) (.ite 1984 p.own (.sel 1985 (.ret v1)) (.sel 1985 (.reg 0 (.call 2016 (t_Step c p.state (-1)) fun r4 => .use 3 2016 (.reg 0 (.reg 1 (.b1 2018 (appI (α := Int) 8 v1 [(-1)]) (fun e2 => .a (List.map rowI e2) e2.length) (fun e2 he2 => (app_side rowI 1 8 (fun _ => rfl) he2)) fun e2 => .use 3 2018 (.ret e2)))))))) fun v2 => .reg 0 (.ln 2030 ActT.row c.acts (.use 2 2030 (.forR (σ := (List Int)) (ρ := (List Int)) 1986 49 (c.acts.length : Int) v2 (⟨[0, 1, 2, 3, 47, 48], fun _ => [], [15, 14, 13, 17], fun s1 => [(9, .rows 1 [[.gslice 18 (List.map rowI s1)]]), (18, .tip 1 s1.length)], 45, fun _ => (.exp rfl rfl (.exp rfl rfl .nil))⟩) (fun i1 s1 => .sel 1986 (.cutO (β := (List Int)) (γ := (List Int)) 1 (⟨[0, 1, 2, 3, 47, 48, 49], fun _ => [], [15, 14, 13, 17], fun v5 => [(9, .rows 1 [[.gslice 18 (List.map rowI v5)]]), (18, .tip 1 v5.length)], 62, fun _ => (.exp rfl rfl (.exp rfl rfl .nil))⟩) (.reg 0 (.ix 2020 ActT.row c.acts (i1 : Int) fun e3 => .use 1 2020 (.cut (β := Int) 2 (.e [0, 1, 2, 3, 47, 48, 49, 7] (fun v3 => [(9, vI v3)]) [9, 15, 14, 13, 17, 18] 56) (.ite 1996 (e3.role == (-1)) (.sel 1997 (.ret (-1))) (.sel 1997 (.reg 0 (.ix 2022 rowI p.state.holders e3.role fun e4 => .use 5 2022 (.ret e4))))) fun v3 => .ite 1998 ((v3 == party) == p.own) (.sel 1999 (.reg 0 (.call 2024 (t_Step c p.state (i1 : Int)) fun r5 => .use 4 2024 (.cut (β := Bool × (List Int)) 1 (⟨[0, 1, 2, 3, 47, 48, 49], fun v4 => [(90, vB v4.1)], [15, 14, 13, 17], fun v4 => [(9, .rows 1 [[.gslice 18 (List.map rowI v4.2)]]), (18, .tip 1 v4.2.length)], 86, fun _ => (.exp rfl rfl (.exp rfl rfl .nil))⟩) (.reg 0 (.call 2026 (t_SameS r5.1 p.state) fun r6 => .ite 2000 r6 (.us [(3, 2026), (6, 2001)] (.ret (false, s1))) (.us [(3, 2026), (6, 2001)] (.reg 1 (.b1 2028 (appI (α := Int) 8 s1 [(i1 : Int)]) (fun e5 => .a (List.map rowI e5) e5.length) (fun e5 he5 => (app_side rowI 1 8 (fun _ => rfl) he5)) fun e5 => .use 3 2028 (.ret ((!true), e5))))))) fun v4 => .ite 2002 v4.1 (.sel 2002 (.ret (.inr v4.2))) (.sel 2002 (.ret (.inl v4.2))))))) (.sel 1999 (.ret (.inl s1)))))) fun o_v5 => .case o_v5 (fun v5 => .ret (.inl v5)) fun y1 => .ret (.inr y1))) fun os1 => .case os1 (fun s1 => .sel 1986 (.ret s1)) fun y2 => .ret y2))))))))) fun v6 => .ret (v6, 0))) (.sel 1977 (.ret ([], 1)))))
theorem t_Moves (c : ContractT) (party : Int) (p : PosT) (res : (List Int) × Int) (hd : d_Moves c party p = some res) : APure C0 75 [.agg (ContractT.row c), .int .i64 party, .agg (PosT.row p)] (.tuple [.slice (List.map rowI res.1), .int .i64 res.2]) :=
  Plan.pure (iv := fun res => .tuple [.slice (List.map rowI res.1), .int .i64 res.2]) (p_Moves c party p) (by kernel_rfl) (Plan.run_of hd (by kernel_rfl))

noncomputable def d_After (c : ContractT) (party : Int) (p : PosT) (move : Int) : Option (PosT × Int) :=
  (Option.bind (d_playable c party p) fun r1 => (bif r1 then (Option.bind (α := Unit ⊕ (Int × (List Int) × (List Bool) × (List MarkT) × Bool)) (Option.bind (d_78a c party p) fun r2 => (Option.bind (α := Unit ⊕ ((Int × (List Int) × (List Bool) × (List MarkT)) ⊕ Unit)) (bif p.own then (Option.bind (d_copied p.state) fun r3 => (bif ((-2) == move) then some (.inr (.inl (r3.day, r3.holders, r3.used, r3.marks))) else (bif decide (c.days ≤ p.state.day) then some (.inr (.inr ())) else some (.inl ())))) else (bif decide (c.days ≤ p.state.day) then some (.inr (.inr ())) else some (.inl ()))) (Sum.elim (fun (v1 : Unit) => (Option.bind (α := Unit ⊕ (Int × (List Int) × (List Bool) × (List MarkT))) (bif p.own then some (.inl ()) else (Option.bind (d_Step c p.state (-1)) fun r4 => (bif ((-1) == move) then some (.inr (r4.1.day, r4.1.holders, r4.1.used, r4.1.marks)) else some (.inl ())))) (Sum.elim (fun (v2 : Unit) => (Option.bind (forR (σ := Unit) (ρ := Int × (List Int) × (List Bool) × (List MarkT)) (c.acts.length : Int) (fun i1 s1 => (Option.bind (α := Unit ⊕ (Int × (List Int) × (List Bool) × (List MarkT))) (Option.bind (idxI c.acts (i1 : Int)) fun e1 => (Option.bind (bif (e1.role == (-1)) then some (-1) else (Option.bind (idxI p.state.holders e1.role) fun e2 => some e2)) fun (v3 : Int) => (bif ((v3 == party) == p.own) then (Option.bind (d_Step c p.state (i1 : Int)) fun r5 => (Option.bind (d_SameS r5.1 p.state) fun r6 => (bif r6 then some (.inl ()) else (bif ((i1 : Int) == move) then some (.inr (r5.1.day, r5.1.holders, r5.1.used, r5.1.marks)) else some (.inl ()))))) else some (.inl ())))) (Sum.elim (fun (v4 : Unit) => some (.inl ())) (fun (y4 : Int × (List Int) × (List Bool) × (List MarkT)) => some (.inr (y4.1, y4.2.1, y4.2.2.1, y4.2.2.2)))))) ()) (Sum.elim (fun (s1 : Unit) => some (.inl ())) (fun (y5 : Int × (List Int) × (List Bool) × (List MarkT)) => some (.inr (y5.1, y5.2.1, y5.2.2.1, y5.2.2.2, true)))))) (fun (y3 : Int × (List Int) × (List Bool) × (List MarkT)) => some (.inr (y3.1, y3.2.1, y3.2.2.1, y3.2.2.2, true)))))) (Sum.elim (fun (y1 : Int × (List Int) × (List Bool) × (List MarkT)) => some (.inr (y1.1, y1.2.1, y1.2.2.1, y1.2.2.2, false))) (fun (y2 : Unit) => some (.inl ())))))) (Sum.elim (fun (v5 : Unit) => some (({ state := ({ day := 0, holders := [], used := [], marks := [] } : StateT), own := false } : PosT), 13)) (fun (y6 : Int × (List Int) × (List Bool) × (List MarkT) × Bool) => some (({ state := ({ day := y6.1, holders := y6.2.1, used := y6.2.2.1, marks := y6.2.2.2.1 } : StateT), own := y6.2.2.2.2 } : PosT), 0)))) else some (({ state := ({ day := 0, holders := [], used := [], marks := [] } : StateT), own := false } : PosT), 1)))
noncomputable def p_After (c : ContractT) (party : Int) (p : PosT) (move : Int) : Plan (PosT × Int) :=
  .reg 1 (.call 2062 (t_playable c party p) fun r1 => .use 3 2062 (.ite 2038 r1 (.sel 2039 (.cutO (β := Unit) (γ := Int × (List Int) × (List Bool) × (List MarkT) × Bool) 1 (.e [8, 9] (fun _ => []) [3, 4] 38) (.reg 0 (.b1 2064 (d_78a c party p) (fun r2 => .c [] 0 (.func 79 [] [.ptr 15 0 0, .ptr 13 0 0, .ptr 14 0 0]) [(13, .rows 7 [rowA (ContractT.row c)]), (14, .rows 1 [[vI party]]), (15, .rows 5 [rowA (PosT.row p)])] 3) (fun r2 hr2 => (call_side (t_78a c party p r2 hr2) [] 13 (.keep (.keep (.keep .nil))) rhN (rhR (rhR (rhR rhN))))) fun r2 => .use 3 2064 (.cutO (β := Unit) (γ := (Int × (List Int) × (List Bool) × (List MarkT)) ⊕ Unit) 3 (.e [0, 1, 2, 3] (fun _ => []) [2, 3, 4, 15, 14, 13, 17] 37) (.reg 0 (.ite 2040 p.own (.call 2078 (t_copied p.state) fun r3 => .us [(3, 2040), (6, 2078)] (.ite 2042 ((-2) == move) (.sel 2042 (.f1 2080 (.g true) (rfl : (!false) = true) (.use 12 2080 (.ret (.inr (.inl (r3.day, r3.holders, r3.used, r3.marks))))))) (.sel 2042 (.f1 2082 (.g false) (rfl : (!true) = false) (.use 12 2082 (.ite 2044 (decide (c.days ≤ p.state.day)) (.sel 2044 (.ret (.inr (.inr ())))) (.sel 2044 (.ret (.inl ()))))))))) (.use 3 2040 (.f1 2084 (.g false) (rfl : false = false) (.use 12 2084 (.ite 2046 (decide (c.days ≤ p.state.day)) (.sel 2046 (.ret (.inr (.inr ())))) (.sel 2046 (.ret (.inl ()))))))))) fun o_v1 => .case o_v1 (fun v1 => .cutO (β := Unit) (γ := Int × (List Int) × (List Bool) × (List MarkT)) 1 (.e [0, 1, 2, 3] (fun _ => []) [2, 3, 4, 15, 14, 13, 17] 40) (.ite 2048 p.own (.sel 2049 (.ret (.inl ()))) (.sel 2049 (.reg 0 (.call 2076 (t_Step c p.state (-1)) fun r4 => .use 3 2076 (.reg 0 (.ite 2050 ((-1) == move) (.sel 2050 (.ret (.inr (r4.1.day, r4.1.holders, r4.1.used, r4.1.marks)))) (.sel 2050 (.ret (.inl ()))))))))) fun o_v2 => .case o_v2 (fun v2 => .reg 0 (.ln 2074 ActT.row c.acts (.use 2 2074 (.forR (σ := Unit) (ρ := Int × (List Int) × (List Bool) × (List MarkT)) 2052 49 (c.acts.length : Int) () (.e [0, 1, 2, 3, 47, 48] (fun _ => []) [2, 3, 4, 15, 14, 13, 17] 44) (fun i1 s1 => .sel 2052 (.cutO (β := Unit) (γ := Int × (List Int) × (List Bool) × (List MarkT)) 1 (.e [0, 1, 2, 3, 47, 48, 49] (fun _ => []) [2, 3, 4, 15, 14, 13, 17] 61) (.reg 0 (.ix 2066 ActT.row c.acts (i1 : Int) fun e1 => .use 1 2066 (.cut (β := Int) 2 (.e [0, 1, 2, 3, 47, 48, 49, 7] (fun v3 => [(9, vI v3)]) [2, 3, 4, 15, 14, 13, 17] 55) (.ite 2054 (e1.role == (-1)) (.sel 2055 (.ret (-1))) (.sel 2055 (.reg 0 (.ix 2068 rowI p.state.holders e1.role fun e2 => .use 5 2068 (.ret e2))))) fun v3 => .ite 2056 ((v3 == party) == p.own) (.sel 2057 (.reg 0 (.call 2070 (t_Step c p.state (i1 : Int)) fun r5 => .use 4 2070 (.reg 0 (.call 2072 (t_SameS r5.1 p.state) fun r6 => .ite 2058 r6 (.us [(3, 2072), (6, 2059)] (.ret (.inl ()))) (.us [(3, 2072), (6, 2059)] (.ite 2060 ((i1 : Int) == move) (.sel 2060 (.ret (.inr (r5.1.day, r5.1.holders, r5.1.used, r5.1.marks)))) (.sel 2060 (.ret (.inl ())))))))))) (.sel 2057 (.ret (.inl ())))))) fun o_v4 => .case o_v4 (fun v4 => .ret (.inl ())) fun y4 => .ret (.inr (y4.1, y4.2.1, y4.2.2.1, y4.2.2.2)))) fun os1 => .case os1 (fun s1 => .sel 2052 (.ret (.inl ()))) fun y5 => .ret (.inr (y5.1, y5.2.1, y5.2.2.1, y5.2.2.2, true)))))) fun y3 => .ret (.inr (y3.1, y3.2.1, y3.2.2.1, y3.2.2.2, true))) fun zy1 => .case zy1 (fun y1 => .ret (.inr (y1.1, y1.2.1, y1.2.2.1, y1.2.2.2, false))) fun y2 => .ret (.inl ())))) fun o_v5 => .case o_v5 (fun v5 => .ret (({ state := ({ day := 0, holders := [], used := [], marks := [] } : StateT), own := false } : PosT), 13)) fun y6 => .ret (({ state := ({ day := y6.1, holders := y6.2.1, used := y6.2.2.1, marks := y6.2.2.2.1 } : StateT), own := y6.2.2.2.2 } : PosT), 0))) (.sel 2039 (.ret (({ state := ({ day := 0, holders := [], used := [], marks := [] } : StateT), own := false } : PosT), 1)))))
theorem t_After (c : ContractT) (party : Int) (p : PosT) (move : Int) (res : PosT × Int) (hd : d_After c party p move = some res) : APure C0 72 [.agg (ContractT.row c), .int .i64 party, .agg (PosT.row p), .int .i64 move] (.tuple [.agg (PosT.row res.1), .int .i64 res.2]) :=
  Plan.pure (iv := fun res => .tuple [.agg (PosT.row res.1), .int .i64 res.2]) (p_After c party p move) (by kernel_rfl) (Plan.run_of hd (by kernel_rfl))

noncomputable def d_Few15 (s : StateT) : Option Bool :=
  (Option.bind (bif decide ((s.holders.length : Int) ≤ 20) then (bif decide ((s.used.length : Int) ≤ 70) then some (decide ((s.marks.length : Int) ≤ 60)) else some false) else some false) fun v1 => some v1)
noncomputable def p_Few15 (s : StateT) : Plan Bool :=
  .cut (β := Bool) 2 (.e [] (fun v1 => [(2, vB v1)]) [0] 19) (.reg 0 (.ite 2274 (decide ((s.holders.length : Int) ≤ 20)) (.ite 2276 (decide ((s.used.length : Int) ≤ 70)) (.ln 2282 rowI s.holders (.us [(2, 2282), (5, 2274)] (.ln 2280 rowB s.used (.us [(7, 2280), (11, 2276)] (.ln 2278 MarkT.row s.marks (.use 13 2278 (.ret (decide ((s.marks.length : Int) ≤ 60))))))))) (.ln 2286 rowI s.holders (.us [(2, 2286), (5, 2274)] (.ln 2284 rowB s.used (.us [(7, 2284), (11, 2276)] (.ret false)))))) (.ln 2290 rowI s.holders (.us [(2, 2290), (5, 2274)] (.f1 2288 (.g false) (rfl : false = false) (.use 11 2288 (.ret false))))))) fun v1 => .ret v1
theorem t_Few15 (s : StateT) (res : Bool) (hd : d_Few15 s = some res) : APure C0 92 [.agg (StateT.row s)] (.bool res) :=
  Plan.pure (iv := fun res => .bool res) (p_Few15 s) (by kernel_rfl) (Plan.run_of hd (by kernel_rfl))

end Go.Proofs.YtaglopifoibhiaaDoor
namespace Go.Proofs.YtaglopifoibhiaaDoor
open Go.RowKit
set_option linter.unusedVariables false
set_option linter.unusedSimpArgs false
set_option maxRecDepth 100000

noncomputable def d_Doer (c : ContractT) (s : StateT) (act : Int) : Option Int :=
  (Option.bind (Option.bind (d_ValidS c s) fun r1 => (bif r1 then (bif decide (act < 0) then some true else some (decide ((c.acts.length : Int) ≤ act))) else some true)) fun v1 => (bif v1 then some (-2) else (Option.bind (d_doer c s act) fun r2 => some r2)))
noncomputable def p_Doer (c : ContractT) (s : StateT) (act : Int) : Plan Int :=
  .cut (β := Bool) 3 (.e [2, 3, 4] (fun v1 => [(21, vB v1)]) [0, 1] 18) (.reg 0 (.call 2488 (t_ValidS c s) fun r1 => .ite 2482 r1 (.ite 2484 (decide (act < 0)) (.us [(2, 2488), (5, 2483), (9, 2484)] (.ret true)) (.us [(2, 2488), (5, 2483), (9, 2484)] (.ln 2490 ActT.row c.acts (.use 12 2490 (.ret (decide ((c.acts.length : Int) ≤ act))))))) (.us [(2, 2488), (5, 2483)] (.f1 2492 (.g true) (rfl : true = true) (.use 9 2492 (.ret true)))))) fun v1 => .ite 2486 v1 (.sel 2486 (.ret (-2))) (.sel 2486 (.reg 0 (.call 2494 (t_doer c s act) fun r2 => .use 3 2494 (.ret r2))))
theorem t_Doer (c : ContractT) (s : StateT) (act : Int) (res : Int) (hd : d_Doer c s act = some res) : APure C0 98 [.agg (ContractT.row c), .agg (StateT.row s), .int .i64 act] (.int .i64 res) :=
  Plan.pure (iv := fun res => .int .i64 res) (p_Doer c s act) (by kernel_rfl) (Plan.run_of hd (by kernel_rfl))

noncomputable def d_ArenaTurns (c : ContractT) (party : Int) (p : PosT) : Option Bool :=
  (Option.bind (d_head18) fun r1 => (Option.bind (Option.bind (d_Tame c) fun r2 => (bif r2 then (Option.bind (d_Few15 p.state) fun r3 => some (!r3)) else some true)) fun v1 => (bif v1 then some r1 else (Option.bind (d_Moves c party p) fun r4 => (bif (r4.2 == 0) then (Option.bind (bif decide (0 < (r4.1.length : Int)) then (Option.bind (idxI r4.1 0) fun e1 => some (!(p.own == (e1 == (-2))))) else some (!(p.own == false))) fun v3 => (bif v3 then some false else (Option.bind (forR (σ := Unit) (ρ := Unit) (r4.1.length : Int) (fun i1 s1 => (Option.bind (α := Unit ⊕ Unit) (Option.bind (idxI r4.1 (i1 : Int)) fun e2 => (Option.bind (d_After c party p e2) fun r5 => (Option.bind (bif (r5.2 == 0) then (bif decide (0 < (i1 : Int)) then (Option.bind (idxI r4.1 (i1 : Int)) fun e3 => (Option.bind (idxI r4.1 (IntKind.i64.wrap ((i1 : Int) - 1))) fun e4 => some (decide (e3 ≤ e4)))) else some false) else some true) fun v4 => (bif v4 then some (.inr ()) else (Option.bind (idxI r4.1 (i1 : Int)) fun e5 => (bif (e5 == (-2)) then (Option.bind (bif r5.1.own then some true else (Option.bind (d_SameS r5.1.state p.state) fun r6 => some (!r6))) fun v5 => (bif v5 then some (.inr ()) else some (.inl ()))) else (Option.bind (Option.bind (idxI r4.1 (i1 : Int)) fun e6 => (bif decide (0 ≤ e6) then (Option.bind (d_Doer c p.state e6) fun r7 => some (r7 == party)) else some false)) fun v6 => (Option.bind (bif (v6 == p.own) then (bif r5.1.own then (Option.bind (d_SameS r5.1.state p.state) fun r8 => some r8) else some true) else some true) fun v7 => (bif v7 then some (.inr ()) else some (.inl ())))))))))) (Sum.elim (fun (v8 : Unit) => some (.inl ())) (fun (y1 : Unit) => some (.inr ()))))) ()) (Sum.elim (fun (s1 : Unit) => some r1) (fun (y2 : Unit) => some false))))) else (Option.bind (bif r1 then some ((r4.1.length : Int) == 0) else some false) fun v2 => some v2))))))
noncomputable def p_ArenaTurns (c : ContractT) (party : Int) (p : PosT) : Plan Bool :=
  .reg 1 (.call 2502 t_head18 fun r1 => .use 0 2502 (.cut (β := Bool) 2 (.e [1, 3, 5, 7] (fun v1 => [(23, vB v1)]) [0, 1] 14) (.reg 0 (.call 2504 (t_Tame c) fun r2 => .ite 2454 r2 (.call 2506 (t_Few15 p.state) fun r3 => .us [(1, 2504), (4, 2455), (6, 2506)] (.ret (!r3))) (.us [(1, 2504), (4, 2455)] (.ret true)))) fun v1 => .ite 2456 v1 (.sel 2456 (.ret r1)) (.sel 2456 (.reg 0 (.call 2508 (t_Moves c party p) fun r4 => .use 3 2508 (.ite 2458 (r4.2 == 0) (.sel 2459 (.cut (β := Bool) 2 (.e [1, 3, 5, 7, 8] (fun v3 => [(51, vB v3)]) [0, 1] 37) (.reg 0 (.ite 2462 (decide (0 < (r4.1.length : Int))) (.ix 2512 rowI r4.1 0 fun e1 => .ln 2514 rowI r4.1 (.us [(3, 2514), (6, 2462), (7, 2512)] (.ret (!(p.own == (e1 == (-2))))))) (.ln 2516 rowI r4.1 (.us [(3, 2516), (6, 2462)] (.ret (!(p.own == false))))))) fun v3 => .ite 2464 v3 (.sel 2464 (.ret false)) (.sel 2464 (.forR (σ := Unit) (ρ := Unit) 2466 10 (r4.1.length : Int) () (.e [1, 3, 5, 7, 8] (fun _ => []) [0, 1] 38) (fun i1 s1 => .reg 0 (.ln 2538 rowI r4.1 (.use 2 2538 (.sel 2466 (.cutO (β := Unit) (γ := Unit) 1 (.e [1, 3, 5, 7, 8, 10] (fun _ => []) [0, 1] 89) (.reg 0 (.ix 2518 rowI r4.1 (i1 : Int) fun e2 => .call 2520 (t_After c party p e2) fun r5 => .us [(5, 2518), (7, 2520)] (.cut (β := Bool) 2 (.e [1, 3, 5, 7, 8, 10, 11] (fun v4 => [(86, vB v4)]) [0, 1, 53] 74) (.reg 0 (.ite 2468 (r5.2 == 0) (.ite 2470 (decide (0 < (i1 : Int))) (.ix 2522 rowI r4.1 (i1 : Int) fun e3 => .ix 2524 rowI r4.1 (IntKind.i64.wrap ((i1 : Int) - 1)) fun e4 => .us [(3, 2469), (6, 2470), (8, 2522), (13, 2524)] (.ret (decide (e3 ≤ e4)))) (.us [(3, 2469), (6, 2470)] (.ret false))) (.use 3 2469 (.ret true)))) fun v4 => .ite 2472 v4 (.sel 2472 (.ret (.inr ()))) (.sel 2472 (.reg 0 (.ix 2526 rowI r4.1 (i1 : Int) fun e5 => .use 2 2526 (.ite 2474 (e5 == (-2)) (.sel 2474 (.cut (β := Bool) 2 (.e [1, 3, 5, 7, 8, 10] (fun v5 => [(101, vB v5)]) [0, 1, 53] 89) (.reg 0 (.ite 2476 r5.1.own (.use 3 2476 (.ret true)) (.call 2528 (t_SameS r5.1.state p.state) fun r6 => .us [(3, 2476), (7, 2528)] (.ret (!r6))))) fun v5 => .ite 2478 v5 (.sel 2478 (.ret (.inr ()))) (.sel 2478 (.ret (.inl ()))))) (.sel 2474 (.cut (β := Bool) 1 (.e [1, 3, 5, 7, 8, 10, 11] (fun v6 => [(13, vB v6)]) [0, 1, 53] 97) (.reg 0 (.ix 2530 rowI r4.1 (i1 : Int) fun e6 => .ite 2480 (decide (0 ≤ e6)) (.call 2532 (t_Doer c p.state e6) fun r7 => .us [(2, 2530), (6, 2480), (11, 2530), (13, 2532)] (.ret (r7 == party))) (.us [(2, 2530), (6, 2480)] (.ret false)))) fun v6 => .cut (β := Bool) 1 (.e [1, 3, 5, 7, 8, 10] (fun v7 => [(134, vB v7)]) [0, 1, 53] 113) (.reg 0 (.ite 2496 (v6 == p.own) (.ite 2498 r5.1.own (.call 2534 (t_SameS r5.1.state p.state) fun r8 => .us [(5, 2497), (10, 2499), (14, 2534)] (.ret r8)) (.us [(5, 2497), (10, 2499)] (.ret true))) (.use 5 2497 (.f1 2536 (.g true) (rfl : true = true) (.use 10 2536 (.ret true)))))) fun v7 => .ite 2500 v7 (.sel 2500 (.ret (.inr ()))) (.sel 2500 (.ret (.inl ())))))))))))) fun o_v8 => .case o_v8 (fun v8 => .ret (.inl ())) fun y1 => .ret (.inr ())))))) fun os1 => .case os1 (fun s1 => .reg 0 (.ln 2540 rowI r4.1 (.use 2 2540 (.sel 2466 (.ret r1))))) fun y2 => .ret false)))) (.sel 2459 (.cut (β := Bool) 1 (.e [] (fun v2 => [(6, vB v2)]) [0, 1] 32) (.reg 0 (.ite 2460 r1 (.use 2 2460 (.ln 2510 rowI r4.1 (.use 3 2510 (.ret ((r4.1.length : Int) == 0))))) (.use 2 2460 (.ret false)))) fun v2 => .ret v2))))))))
theorem t_ArenaTurns (c : ContractT) (party : Int) (p : PosT) (res : Bool) (hd : d_ArenaTurns c party p = some res) : APure C0 89 [.agg (ContractT.row c), .int .i64 party, .agg (PosT.row p)] (.bool res) :=
  Plan.pure (iv := fun res => .bool res) (p_ArenaTurns c party p) (by kernel_rfl) (Plan.run_of hd (by kernel_rfl))

end Go.Proofs.YtaglopifoibhiaaDoor
namespace Go.Proofs.YtaglopifoibhiaaDoor
open Go.RowKit Go.ChangeShapes Go.WideShapes
set_option linter.unusedVariables false
set_option linter.unusedSimpArgs false

inductive CTy where
  | bool
  | int (k : IntKind)
  | str
  | slice (by_ : Nat) (row : List CTy)

inductive HasC : CTy → IV → Prop where
  | bool (b : Bool) : HasC .bool (.bool b)
  | int (k : IntKind) (n : Int) (h : k.min ≤ n ∧ n ≤ k.max) : HasC (.int k) (.int k n)
  | str (s : ByteArray) (h : s.size ≤ reachBytes) : HasC .str (.str s)
  | slice (by_ : Nat) (tys : List CTy) (rows : List (List IV)) (hl : rows.length * by_ ≤ reachBytes) (hr : ∀ row ∈ rows, row.length = tys.length)
      (hc : ∀ row ∈ rows, ∀ (i : Nat) (t : CTy) (c : IV), tys[i]? = some t → row[i]? = some c → HasC t c) : HasC (.slice by_ tys) (.slice rows)

def HasCs (tys : List CTy) (row : List IV) : Prop := row.length = tys.length ∧ ∀ (i : Nat) (t : CTy) (c : IV), tys[i]? = some t → row[i]? = some c → HasC t c

def fieldsC (P : Program) (f : TypeId → Option (List CTy)) : Nat → List Field → Option (List CTy)
  | _, [] => some []
  | off, x :: r => if x.offset = off then match f x.type with
      | some a => if a.length = P.cellsOf x.type then match fieldsC P f (off + a.length) r with
          | some b => some (a ++ b)
          | none => none
        else none
      | none => none
    else none

def ctys (P : Program) : Nat → TypeId → Option (List CTy)
  | 0, _ => none
  | n + 1, t => match P.underlying t with
    | some .bool => some [.bool]
    | some (.int k) => some [.int k]
    | some .string => some [.str]
    | some (.slice e) => match ctys P n e with
      | some r => if r.length = P.cellsOf e ∧ 0 < r.length then some [.slice (P.bytesOf e) r] else none
      | none => none
    | some (.struct fs) => match fieldsC P (ctys P n) 0 fs.toList with
      | some r => if r.length = P.cellsOf t then some r else none
      | none => none
    | _ => none

def zOf (w : World) (b : Nat) : Nat := match w.heap[b]? with
  | some (.cells c _ _) => c.size
  | _ => 0

theorem zOf_lt {w : World} {b : Nat} (h : 0 < zOf w b) : b < w.heap.size := by
  unfold zOf at h
  split at h
  · rename_i c t f e; exact (Array.getElem?_eq_some_iff.1 e).1
  · omega

theorem cell_z {w : World} {b off : Nat} {s : Option Nat} {v : Value} (h : w.cell? ⟨b, off, s⟩ = some v) : s = none ∧ off < zOf w b := by
  unfold World.cell? at h
  unfold zOf
  simp only at h
  split at h
  · rename_i c t f e
    rw [e]
    cases s with
    | some _ => simp at h
    | none => simp at h; exact ⟨rfl, (Array.getElem?_eq_some_iff.1 h).1⟩
  · cases h

theorem mapM_at {α β : Type} {f : α → Option β} : ∀ {l : List α} {ys : List β}, l.mapM f = some ys → ys.length = l.length ∧ ∀ (i : Nat) (x : α), l[i]? = some x → ∃ y, ys[i]? = some y ∧ f x = some y
  | [], ys, h => by
    simp at h; subst h; exact ⟨rfl, fun i x hx => by simp at hx⟩
  | a :: l, ys, h => by
    rw [List.mapM_cons] at h
    simp only [Option.bind_eq_bind, Option.bind_eq_some_iff, Option.pure_def, Option.some.injEq] at h
    obtain ⟨y, hy, r, hr, rfl⟩ := h
    obtain ⟨h1, h2⟩ := mapM_at hr
    refine ⟨by simp [h1], fun i x hx => ?_⟩
    cases i with
    | zero => simp at hx; subst hx; exact ⟨y, rfl, hy⟩
    | succ i => exact h2 i x (by simpa using hx)

theorem RCs.app {Z : Nat → Nat} {w : World} {a b : List IV} {x y : List Value} (h1 : RCs Z w a x) (h2 : RCs Z w b y) : RCs Z w (a ++ b) (x ++ y) := by
  refine ⟨by simp [h1.1, h2.1], fun j c u hc hu => ?_⟩
  rcases Nat.lt_or_ge j a.length with h | h
  · rw [List.getElem?_append_left h] at hc
    rw [List.getElem?_append_left (by rw [← h1.1]; exact h)] at hu
    exact h1.2 j c u hc hu
  · rw [List.getElem?_append_right h] at hc
    rw [List.getElem?_append_right (by rw [← h1.1]; exact h), ← h1.1] at hu
    exact h2.2 _ c u hc hu

theorem HasCs.app {a b : List CTy} {x y : List IV} (h1 : HasCs a x) (h2 : HasCs b y) : HasCs (a ++ b) (x ++ y) := by
  refine ⟨by simp [h1.1, h2.1], fun j c u hc hu => ?_⟩
  rcases Nat.lt_or_ge j a.length with h | h
  · rw [List.getElem?_append_left h] at hc
    rw [List.getElem?_append_left (by rw [h1.1]; exact h)] at hu
    exact h1.2 j c u hc hu
  · rw [List.getElem?_append_right h] at hc
    rw [List.getElem?_append_right (by rw [h1.1]; exact h), h1.1] at hu
    exact h2.2 _ c u hc hu

theorem RCs.one {Z : Nat → Nat} {w : World} {a : IV} {x : Value} (h : RI Z w a x) : RCs Z w [a] [x] := ⟨rfl, fun j c u hc hu => by
  cases j with
  | zero => simp at hc hu; subst hc; subst hu; exact h
  | succ j => simp at hc⟩
theorem HasCs.one {t : CTy} {a : IV} (h : HasC t a) : HasCs [t] [a] := ⟨rfl, fun j c u hc hu => by
  cases j with
  | zero => simp at hc hu; subst hc; subst hu; exact h
  | succ j => simp at hc⟩

section
variable {H : Type} {enc : TypeId × Value → H} {P : Program} {w : World}

def Got (w : World) (tys : List CTy) (cs : List Value) : Prop := ∃ row, RCs (zOf w) w row cs ∧ HasCs tys row ∧ ∀ v ∈ cs, v.oneCell' = true

theorem got_fields {fuel : Nat} {f : TypeId → Option (List CTy)} {cs : List Value}
    (ih : ∀ t cs d ps tys, f t = some tys → DataW.trod enc P w 0 (fun _ => true) true fuel t cs = some (d, ps) → (d.weights P t).all (· ≤ reachBytes) = true → Got w tys cs) :
    ∀ (fs : List Field) (off : Nat) (xs : List (DataW H × List MemPlace)) (r : List CTy), fieldsC P f off fs = some r →
      (fs.mapM fun x => DataW.trod enc P w 0 (fun _ => true) true fuel x.type ((cs.drop x.offset).take (P.cellsOf x.type))) = some xs →
      (DataW.weightsEach P (fs.map (·.type)) (xs.map (·.1))).all (· ≤ reachBytes) = true → Got w r ((cs.drop off).take r.length)
  | [], off, xs, r, h1, h2, h3 => by
    simp only [fieldsC, Option.some.injEq] at h1
    subst h1
    exact ⟨[], ⟨by simp, fun j c u hc => by simp at hc⟩, ⟨rfl, fun j c u hc => by simp at hc⟩, fun v hv => by simp at hv⟩
  | x :: fs, off, xs, r, h1, h2, h3 => by
    simp only [fieldsC] at h1
    split at h1
    case isFalse => cases h1
    rename_i hoff
    split at h1
    case h_2 => cases h1
    rename_i a ha
    split at h1
    case isFalse => cases h1
    rename_i hlen
    split at h1
    case h_2 => cases h1
    rename_i b hb
    cases h1
    rw [List.mapM_cons] at h2
    simp only [Option.bind_eq_bind, Option.bind_eq_some_iff, Option.pure_def, Option.some.injEq] at h2
    obtain ⟨y, hy, ys, hys, rfl⟩ := h2
    simp only [List.map_cons, DataW.weightsEach, List.all_append, Bool.and_eq_true] at h3
    obtain ⟨r1, g1, g2, g3⟩ := ih _ _ _ _ _ ha hy h3.1
    obtain ⟨r2, k1, k2, k3⟩ := got_fields ih fs (off + a.length) ys b hb hys h3.2
    rw [← hlen, hoff] at g1 g3
    have hsplit : (cs.drop off).take (a ++ b).length = (cs.drop off).take a.length ++ (cs.drop (off + a.length)).take b.length := by
      rw [List.length_append, List.take_add, List.drop_drop]
    refine ⟨r1 ++ r2, ?_, g2.app k2, ?_⟩
    · rw [hsplit]; exact g1.app k1
    · rw [hsplit]; intro v hv
      rcases List.mem_append.1 hv with hv | hv
      · exact g3 v hv
      · exact k3 v hv

theorem weights_all {e : TypeId} : ∀ {l : List (DataW H)}, (DataW.weightsAll P e l).all (· ≤ reachBytes) = true → ∀ d ∈ l, (d.weights P e).all (· ≤ reachBytes) = true
  | [], _, d, hd => by cases hd
  | x :: l, h, d, hd => by
    simp only [DataW.weightsAll, List.all_append, Bool.and_eq_true] at h
    rcases List.mem_cons.1 hd with rfl | hd
    · exact h.1
    · exact weights_all h.2 d hd

theorem cells_at {a : Addr} {n : Nat} {cs : List Value} (h : w.cells? 0 a n = some cs) : cs.length = n ∧ ∀ j v, cs[j]? = some v → w.cell? (a.add j) = some v := by
  unfold World.cells? at h
  rw [if_pos (Nat.zero_le _)] at h
  obtain ⟨h1, h2⟩ := mapM_at h
  refine ⟨by simpa using h1, fun j v hv => ?_⟩
  have hj : j < n := by
    have := (List.getElem?_eq_some_iff.1 hv).1
    simpa [h1] using this
  obtain ⟨y, hy, e⟩ := h2 j j (by simp [hj])
  rw [hv] at hy; cases hy; exact e

theorem got_slice {a : Addr} {len cap sz by_ : Nat} {r : List CTy} (hr : r.length = sz) (hpos : 0 < sz) (hcap : len ≤ cap) (hb : len * by_ ≤ reachBytes)
    (hel : ∀ i, i < len → ∃ cs, w.cells? 0 (a.add (i * sz)) sz = some cs ∧ Got w r cs) : Got w [.slice by_ r] [.slice (some a) len cap] := by
  have hrow : ∀ i : Nat, ∃ row : List IV, i < len → ∃ cs, w.cells? 0 (a.add (i * sz)) sz = some cs ∧ RCs (zOf w) w row cs ∧ HasCs r row ∧ ∀ v ∈ cs, v.oneCell' = true := fun i => by
    by_cases hi : i < len
    · obtain ⟨cs, h1, row, h2, h3, h4⟩ := hel i hi
      exact ⟨row, fun _ => ⟨cs, h1, h2, h3, h4⟩⟩
    · exact ⟨[], fun h => absurd h hi⟩
  obtain ⟨R, hR⟩ := Classical.axiomOfChoice hrow
  have hget : ∀ (i : Nat) (row : List IV), ((List.range len).map R)[i]? = some row → i < len ∧ row = R i := fun i row h => by
    simp only [List.getElem?_map, Option.map_eq_some_iff] at h
    obtain ⟨k, hk, rfl⟩ := h
    obtain ⟨h1, h2⟩ := List.getElem?_eq_some_iff.1 hk
    simp at h1 h2
    subst h2
    exact ⟨h1, rfl⟩
  have hmem : ∀ row ∈ (List.range len).map R, HasCs r row := fun row h => by
    obtain ⟨i, hi⟩ := List.mem_iff_getElem?.1 h
    obtain ⟨h1, rfl⟩ := hget i row hi
    obtain ⟨cs, _, _, h2, _⟩ := hR i h1
    exact h2
  refine ⟨[.slice ((List.range len).map R)], .one ?_, .one (.slice _ _ _ (by simpa using hb) (fun row h => (hmem row h).1) (fun row h => (hmem row h).2)), fun v hv => by simp at hv; subst hv; rfl⟩
  rcases Nat.eq_zero_or_pos len with h0 | h0
  · subst h0; exact .empty a cap
  · obtain ⟨b, off, spot⟩ := a
    have hs : spot = none := by
      obtain ⟨cs, h1, _⟩ := hR 0 h0
      obtain ⟨h2, h3⟩ := cells_at h1
      have hc := h3 0 _ (List.getElem?_eq_getElem (by omega))
      rw [Nat.zero_mul] at hc
      exact (cell_z (s := spot) (off := off) hc).1
    subst hs
    have hcell : ∀ (i : Nat) (row : List IV) (j : Nat) (c : IV), ((List.range len).map R)[i]? = some row → row[j]? = some c → ∃ v, w.cell? ⟨b, off + i * sz + j, none⟩ = some v ∧ v.oneCell' = true ∧ RI (zOf w) w c v := fun i row j c hi hj => by
      obtain ⟨h1, rfl⟩ := hget i row hi
      obtain ⟨cs, h2, h3, h4, h5⟩ := hR i h1
      obtain ⟨h6, h7⟩ := cells_at h2
      have hjl : j < cs.length := by rw [← h3.1]; exact (List.getElem?_eq_some_iff.1 hj).1
      have hcs := List.getElem?_eq_getElem hjl
      exact ⟨cs[j], by have := h7 j _ hcs; rwa [addr_add, addr_add] at this, h5 _ (List.getElem_mem hjl), h3.2 j c _ hj hcs⟩
    have := RI.slice (Z := zOf w) (w := w) ((List.range len).map R) b off cap sz (fun i j => (w.cell? ⟨b, off + i * sz + j, none⟩).getD undef) (by simpa using hcap)
      (fun i row hi => by obtain ⟨h1, rfl⟩ := hget i row hi; obtain ⟨_, _, _, h2, _⟩ := hR i h1; rw [h2.1, hr])
      (fun i row j c hi hj => by obtain ⟨v, h1, _⟩ := hcell i row j c hi hj; exact (cell_z h1).2)
      (fun i row j c hi hj => by obtain ⟨v, h1, h2, _⟩ := hcell i row j c hi hj; rw [h1]; exact ⟨rfl, h2⟩)
      (fun i row j c hi hj => by obtain ⟨v, h1, h2, h3⟩ := hcell i row j c hi hj; rw [h1]; exact h3)
    simpa using this

theorem trod_got : ∀ (n fuel : Nat) (t : TypeId) (cs : List Value) (d : DataW H) (ps : List MemPlace) (tys : List CTy), ctys P n t = some tys → DataW.trod enc P w 0 (fun _ => true) true fuel t cs = some (d, ps) →
    (d.weights P t).all (· ≤ reachBytes) = true → Got w tys cs
  | 0, _, _, _, _, _, _, h, _, _ => by simp [ctys] at h
  | n + 1, 0, _, _, _, _, _, _, h, _ => by simp [DataW.trod] at h
  | n + 1, fuel + 1, t, cs, d, ps, tys, h, ht, hw => by
    simp only [ctys] at h
    split at h
    · rename_i hu
      cases h
      simp only [DataW.trod, hu] at ht
      split at ht <;> first | (simp_all; done) | skip
      all_goals first
        | (rename_i b _; exact ⟨[.bool b], .one (.bool b), .one (.bool b), fun v hv => by simp at hv; subst hv; rfl⟩)
        | skip
    · rename_i k hu
      cases h
      simp only [DataW.trod, hu] at ht
      split at ht <;> first | (simp_all; done) | skip
      all_goals
        rename_i k1 k' m e1
        cases e1
        split at ht
        case isFalse => cases ht
        rename_i hk
        obtain ⟨rfl, hwf⟩ := hk
        exact ⟨[.int _ m], .one (.int _ m), .one (.int _ m (by simpa [Lit.wf] using hwf)), fun v hv => by simp at hv; subst hv; rfl⟩
    · rename_i hu
      cases h
      simp only [DataW.trod, hu] at ht
      split at ht <;> first | (simp_all; done) | skip
      all_goals
        rename_i s _
        split at ht
        case isFalse => cases ht
        cases ht
        refine ⟨[.str s], .one (.str s), .one (.str s ?_), fun v hv => by simp at hv; subst hv; rfl⟩
        simpa [DataW.weights] using hw
    · rename_i e hu
      split at h
      case h_2 => cases h
      rename_i r hr
      split at h
      case isFalse => cases h
      rename_i hlen
      cases h
      simp only [DataW.trod, hu] at ht
      split at ht <;> first | (simp_all; done) | skip
      · cases ht
        exact ⟨[.slice []], .one .nil, .one (.slice _ _ _ (by simp) (fun row h => by simp at h) (fun row h => by simp at h)), fun v hv => by simp at hv; subst hv; rfl⟩
      · rename_i e' a len cap e1
        cases e1
        split at ht
        case isFalse => cases ht
        rename_i hcond
        simp only [Option.bind_eq_some_iff, Option.map_eq_some_iff] at ht
        obtain ⟨elems, hel, rest, hrest, heq⟩ := ht
        simp only [Prod.mk.injEq] at heq
        obtain ⟨rfl, _⟩ := heq
        simp only [DataW.weights, hu, List.all_cons, List.all_append, Bool.and_eq_true, decide_eq_true_eq] at hw
        obtain ⟨hw1, hw2, hw3⟩ := hw
        obtain ⟨hl, hat⟩ := mapM_at hel
        simp only [List.length_range, List.length_map] at hl hw1
        refine got_slice hlen.1 (by omega) hcond.2.1 (Nat.le_trans (Nat.mul_le_mul_right _ (by omega)) hw1) fun i hi => ?_
        obtain ⟨y, hy1, hy2⟩ := hat i i (by simp [hi])
        simp only [Option.bind_eq_some_iff] at hy2
        obtain ⟨cs', hc1, hc2⟩ := hy2
        exact ⟨cs', hc1, trod_got n fuel e cs' y.1 y.2 r hr hc2 (weights_all hw2 _ (List.mem_map.2 ⟨y, List.mem_of_getElem? hy1, rfl⟩))⟩
    · rename_i fs hu
      split at h
      case h_2 => cases h
      rename_i r0 hr
      split at h
      case isFalse => cases h
      rename_i hlen
      obtain rfl : r0 = tys := Option.some.inj h
      simp only [DataW.trod, hu] at ht
      split at ht
      case isFalse => cases ht
      rename_i hcl
      simp only [Option.map_eq_some_iff] at ht
      obtain ⟨xs, hxs, heq⟩ := ht
      simp only [Prod.mk.injEq] at heq
      obtain ⟨rfl, _⟩ := heq
      simp only [DataW.weights, hu] at hw
      have := got_fields (fun t cs d ps tys h1 h2 h3 => trod_got n fuel t cs d ps tys h1 h2 h3) fs.toList 0 xs r0 hr hxs hw
      rw [hlen, ← hcl, List.drop_zero, List.take_length] at this
      exact this
    · cases h

end
end Go.Proofs.YtaglopifoibhiaaDoor
namespace Go.Proofs.YtaglopifoibhiaaDoor
open Go.RowKit Go.ChangeShapes Go.WideShapes
set_option linter.unusedVariables false
set_option linter.unusedSimpArgs false

def argC (P : Program) (t : TypeId) : Option (Bool × List CTy) := match P.underlying t with
  | some (.struct _) => match ctys P 12 t with
    | some r => some (true, r)
    | none => none
  | some (.array _ _) => none
  | _ => match ctys P 12 t with
    | some r => some (false, r)
    | none => none

def HasArg : Bool × List CTy → IV → Prop
  | (true, tys), x => ∃ row, x = .agg row ∧ HasCs tys row
  | (false, tys), x => HasCs tys [x]

def HasArgs : List (Bool × List CTy) → List IV → Prop
  | [], [] => True
  | a :: tas, x :: xs => HasArg a x ∧ HasArgs tas xs
  | _, _ => False

section
variable {H : Type} {enc : TypeId × Value → H} {P : Program} {w : World}

theorem arg_open {base : Nat} {t : TypeId} {v : Value} {d : DataW H} {ps : List MemPlace} {a : Bool × List CTy} (ha : argC P t = some a) (hval : Value.okWide P w .any base t v)
    (h : DataW.Trod enc P w 0 (fun _ => true) true t v d ps) (hw : (d.weights P t).all (· ≤ reachBytes) = true) : ∃ x, RI (zOf w) w x v ∧ HasArg a x := by
  obtain ⟨fuel, hf⟩ := h
  unfold argC at ha
  split at ha
  · rename_i fs hu
    split at ha
    case h_2 => cases ha
    rename_i r hr
    cases ha
    simp only [Value.okWide, hu] at hval
    obtain ⟨cs, rfl, _, _⟩ := hval
    obtain ⟨row, h1, h2, h3⟩ := trod_got 12 fuel t _ d ps r hr hf hw
    refine ⟨.agg row, ?_, row, rfl, h2⟩
    have := RI.agg (Z := zOf w) (w := w) row cs.toList (by simpa [Value.cells] using h1.1) (fun v hv => h3 v (by simpa [Value.cells] using hv)) (fun i c v hc hv => h1.2 i c v hc (by simpa [Value.cells] using hv))
    simpa using this
  · cases ha
  · rename_i hns hna
    split at ha
    case h_2 => cases ha
    rename_i r hr
    cases ha
    have hone : v.oneCell' = true := by
      have hc : Cell.okWide P w .any base t v := by
        unfold Value.okWide at hval
        split at hval
        · rename_i fs hu; exact absurd hu (hns fs)
        · rename_i k e hu; exact absurd hu (hna k e)
        · exact hval
      cases v <;> first | rfl | (exfalso; revert hc; unfold Cell.okWide Cell.ok; cases P.underlying t with
        | none => simp
        | some u => cases u <;> simp)
    have hcs : v.cells.toList = [v] := by cases v <;> first | rfl | simp [Value.oneCell'] at hone
    obtain ⟨row, h1, h2, h3⟩ := trod_got 12 fuel t _ d ps r hr hf hw
    rw [hcs] at h1
    obtain ⟨x, rfl⟩ : ∃ x, row = [x] := List.length_eq_one_iff.1 (by simpa using h1.1)
    exact ⟨x, h1.2 0 x v rfl rfl, h2⟩

theorem args_open {base : Nat} : ∀ {ts : List TypeId} {vs : List Value} {ds : List (DataW H)} {ps : List MemPlace} {tas : List (Bool × List CTy)}, mapO (argC P) ts = some tas →
    (∀ (j : Nat) t v, ts[j]? = some t → vs[j]? = some v → Value.okWide P w .any base t v) → DataW.TrodAll enc P w 0 (fun _ => true) true ts vs ds ps → (DataW.weightsEach P ts ds).all (· ≤ reachBytes) = true →
    ∃ ivs, RCs (zOf w) w ivs vs ∧ HasArgs tas ivs
  | [], vs, ds, ps, tas, ha, hval, h, hw => by
    obtain ⟨rfl, rfl, rfl⟩ := trodAll_nil h
    simp [mapO] at ha; subst ha
    exact ⟨[], ⟨rfl, fun j c u hc => by simp at hc⟩, trivial⟩
  | t :: ts, vs, ds, ps, tas, ha, hval, h, hw => by
    obtain ⟨v, vs1, d, ds1, a, b, rfl, rfl, rfl, h1, h2⟩ := trodAll_cons h
    simp only [mapO] at ha
    split at ha
    case h_2 => cases ha
    rename_i a1 ha1
    split at ha
    case h_2 => cases ha
    rename_i as1 has1
    cases ha
    simp only [DataW.weightsEach, List.all_append, Bool.and_eq_true] at hw
    obtain ⟨x, g1, g2⟩ := arg_open ha1 (hval 0 t v rfl rfl) h1 hw.1
    obtain ⟨xs, g3, g4⟩ := args_open has1 (fun j t v hj hv => hval (j + 1) t v (by simpa using hj) (by simpa using hv)) h2 hw.2
    exact ⟨x :: xs, RCs.app (.one g1) g3, g2, g4⟩

theorem trodAll_len {ts : List TypeId} : ∀ {vs : List Value} {ds : List (DataW H)} {ps : List MemPlace}, DataW.TrodAll enc P w 0 (fun _ => true) true ts vs ds ps → ds.length = ts.length := by
  induction ts with
  | nil => intro vs ds ps h; obtain ⟨rfl, rfl, rfl⟩ := trodAll_nil h; rfl
  | cons t ts ih =>
    intro vs ds ps h
    obtain ⟨v, vs1, d, ds1, a, b, rfl, rfl, rfl, h1, h2⟩ := trodAll_cons h
    simp [ih h2]

theorem below_all {W' : World} (hl : laidOutB P = true) (hb : Below w.heap.size w W') : ∀ {ts : List TypeId} {vs : List Value} {ds : List (DataW H)} {ps : List MemPlace}, (∀ t ∈ ts, P.readableRec t = true ∧ t < P.types.size) →
    DataW.TrodAll enc P w 0 (fun _ => true) true ts vs ds ps → ∀ sp : Nat → Bool, (∀ p ∈ ps, p.block < w.heap.size ∧ sp p.block = true) → DataW.TrodAll enc P W' 0 sp true ts vs ds ps
  | [], vs, ds, ps, hr, h, sp, hlt => by
    obtain ⟨rfl, rfl, rfl⟩ := trodAll_nil h; rfl
  | t :: ts, vs, ds, ps, hr, h, sp, hlt => by
    obtain ⟨v, vs1, d, ds1, a, b, rfl, rfl, rfl, h1, h2⟩ := trodAll_cons h
    have ht := hr t (List.mem_cons_self ..)
    exact ⟨a, b, WideElems.Trod_stays hl ht.1 ht.2 h1 (fun x hx => hb.same (hlt x (List.mem_append_left _ hx)).1) (fun x hx => (hlt x (List.mem_append_left _ hx)).2),
      below_all hl hb (fun t ht => hr t (List.mem_cons_of_mem _ ht)) h2 sp (fun p hp => hlt p (List.mem_append_right _ hp)), rfl⟩
end

theorem post_below {H : Type} {enc : TypeId × Value → H} {P : Program} {f : Func} {s : ChangeSpec} {apart fresh handsOn again : Bool} {W W' : World} {args : Array Value} {v : Value} {ds : List (DataW H)} {before : List MemPlace}
    (hW : DataW.Whole enc P f.params.toList s.vars apart W args.toList ds [] before)
    (hres : ∀ (b : Nat) (sp : Nat → Bool) (hd : Bool), DataW.TrodAll enc P W' b sp hd f.resultTypes.toList (v.resultList f.resultTypes.size) (s.fn H (ds ++ [])).results [])
    (hargs : ∀ sp : Nat → Bool, (∀ p ∈ before, sp p.block = true) → DataW.TrodAll enc P W' 0 sp true f.params.toList args.toList (s.fn H (ds ++ [])).args before)
    (hvars : ∀ sp : Nat → Bool, DataW.TrodVars enc P W' sp s.vars (s.fn H (ds ++ [])).vars [])
    (hk : Below W.heap.size W W')
    (hok : ∀ (j : Nat) (t : TypeId) (r : Value), f.resultTypes[j]? = some t → (v.resultList f.resultTypes.size)[j]? = some r → Value.okWide P W' .any 0 t r) :
    s.post enc P f apart fresh handsOn again W args v W' := by
  have hlt : ∀ p ∈ before, p.block < W.heap.size := fun p hp => hW.lt p hp
  have hold : ∀ p ∈ before, (fun b => decide (b < W.heap.size)) p.block = true := fun p hp => by simpa using hlt p hp
  refine ⟨ds, [], before, [], before, [], hW, hres _ _ _, hargs _ hold, hvars _, hk.frame _, fun _ => ?_⟩
  obtain ⟨_, _, _, _, _, hz, hn⟩ := hW
  refine ⟨hok, _, _, ([] ++ before) ++ [], ⟨[] ++ before, [], trodAll_append (hargs _ (fun _ _ => rfl)) (hres _ _ _), hvars _, rfl, ?_, ?_⟩, ?_⟩
  · intro b off hp
    have hp' : MemPlace.cell b off ∈ before := by simpa using hp
    rw [hk.frozen (p := ⟨b, off, none⟩) (hlt _ hp')]
    exact hz b off hp'
  · intro ha
    simpa using hn ha
  · intro p hp _
    simpa using hp

theorem law_contract {H : Type} {enc : TypeId × Value → H} {Cx : Ctx} {f : FuncId} {fn : Func} {s : ChangeSpec} {tb : TypeId} {tas : List (Bool × List CTy)} {apart fresh handsOn again : Bool} (n : Nat) (hn : Cx.fnum n = f)
    (has : mapO (argC Cx.P) fn.params.toList = some tas) (hres : fn.resultTypes = #[tb]) (htb : Cx.P.underlying tb = some .bool) (hvars : s.vars = [])
    (hsp : ∀ ds : List (DataW H), ds.length = fn.params.toList.length → s.fn H (ds ++ []) = { results := [.lit (.bool true)], args := ds })
    (hlaid : laidOutB Cx.P = true) (hread : (fn.params.toList.all fun t => Cx.P.readableRec t && decide (t < Cx.P.types.size)) = true)
    (hlaw : ∀ ivs, HasArgs tas ivs → APure Cx n ivs (.bool true))
    (W : World) (hft : Cx.tabs.p W ∧ Cx.tabs.n ≤ W.heap.size)
    (base : Nat) (args : Array Value) (ds gs : List (DataW H)) (before : List MemPlace)
    (hval : ∀ (j : Nat) t v, fn.params[j]? = some t → args[j]? = some v → Value.okWide Cx.P W .any base t v)
    (hW : DataW.Whole enc Cx.P fn.params.toList s.vars apart W args.toList ds gs before)
    (hwt : (DataW.weightsEach Cx.P (fn.params.toList ++ s.plain.varTypes Cx.P) (ds ++ gs)).all (· ≤ reachBytes) = true) :
    Calls Cx.P f args W fun e W' => ∃ v, e = .returned v ∧ s.post enc Cx.P fn apart fresh handsOn again W args v W' := by
  have hW' := hW
  obtain ⟨p, q, hA, hV, rfl, hfz, hnd⟩ := hW
  rw [hvars] at hV
  obtain ⟨rfl, rfl⟩ := trodVars_none hV
  have hvt : s.plain.varTypes Cx.P = [] := by
    have : s.plain.vars = [] := hvars
    simp [DataSpec.varTypes, this]
  rw [hvt, List.append_nil, List.append_nil] at hwt
  obtain ⟨ivs, h1, h2⟩ := args_open has (fun j t v hj hv => hval j t v (by simpa using hj) (by simpa using hv)) hA hwt
  subst hn
  have hcall := (hlaw ivs h2).2 (zOf W) W args.toList (fun b hb => zOf_lt hb) hft h1
  simp only [Array.toArray_toList] at hcall
  refine hcall.mono fun e W' ⟨v, Z', he, hr, _, _, hbel⟩ => ?_
  subst he
  cases hr
  have hlt : ∀ x ∈ p ++ [], x.block < W.heap.size := fun x hx => by simpa using hW'.lt x hx
  have hspec := hsp ds (trodAll_len hA)
  simp only [List.append_nil] at hW' hlt
  refine ⟨_, rfl, post_below hW' ?_ ?_ ?_ hbel ?_⟩
  · intro b sp hd
    rw [hspec, hres]
    exact trodAll_cons_mk (shut_bool htb _) trodAll_mk0
  · intro sp hsp'
    rw [hspec]
    exact below_all hlaid hbel (fun t ht => by have := List.all_eq_true.1 hread t ht; simpa using this) hA sp (fun x hx => ⟨hlt x hx, hsp' x hx⟩)
  · intro sp
    rw [hspec, hvars]; rfl
  · exact ok_one hres rfl (okWide_bool_mk htb _)

end Go.Proofs.YtaglopifoibhiaaDoor
namespace Go.Proofs.YtaglopifoibhiaaDoor
open Go.RowKit
set_option linter.unusedVariables false

def InK (k : IntKind) (n : Int) : Prop := k.min ≤ n ∧ n ≤ k.max
def LOk {α : Type} (by_ : Nat) (Ok : α → Prop) (l : List α) : Prop := l.length * by_ ≤ reachBytes ∧ ∀ x ∈ l, Ok x

theorem hcs_cons {t : CTy} {ts : List CTy} {row : List IV} (h : HasCs (t :: ts) row) : ∃ c r, row = c :: r ∧ HasC t c ∧ HasCs ts r := by
  obtain ⟨hl, hc⟩ := h
  cases row with
  | nil => simp at hl
  | cons c r => exact ⟨c, r, rfl, hc 0 t c rfl rfl, by simpa using hl, fun i u d hu hd => hc (i + 1) u d (by simpa using hu) (by simpa using hd)⟩
theorem hcs_nil {row : List IV} (h : HasCs [] row) : row = [] := List.eq_nil_of_length_eq_zero h.1
theorem hasC_int {k : IntKind} {x : IV} (h : HasC (.int k) x) : ∃ n, x = .int k n ∧ InK k n := by cases h; exact ⟨_, rfl, by assumption⟩
theorem hasC_bool {x : IV} (h : HasC .bool x) : ∃ b, x = .bool b := by cases h; exact ⟨_, rfl⟩
theorem hasC_str {x : IV} (h : HasC .str x) : ∃ s, x = .str s ∧ s.size ≤ reachBytes := by cases h; exact ⟨_, rfl, by assumption⟩

theorem rows_open {α : Type} {f : α → List IV} {Ok : α → Prop} {tys : List CTy} (ho : ∀ {row : List IV}, HasCs tys row → ∃ x, row = f x ∧ Ok x) :
    ∀ rows : List (List IV), (∀ row ∈ rows, HasCs tys row) → ∃ l : List α, rows = l.map f ∧ ∀ x ∈ l, Ok x
  | [], _ => ⟨[], rfl, fun x hx => by cases hx⟩
  | row :: rows, h => by
    obtain ⟨x, rfl, hx⟩ := ho (h row (List.mem_cons_self ..))
    obtain ⟨l, rfl, hl⟩ := rows_open ho rows fun r hr => h r (List.mem_cons_of_mem _ hr)
    exact ⟨x :: l, rfl, fun y hy => by
      rcases List.mem_cons.1 hy with rfl | hy
      · exact hx
      · exact hl y hy⟩

theorem hasC_slice {α : Type} {f : α → List IV} {Ok : α → Prop} {tys : List CTy} {by_ : Nat} {x : IV} (ho : ∀ {row : List IV}, HasCs tys row → ∃ x, row = f x ∧ Ok x) (h : HasC (.slice by_ tys) x) :
    ∃ l : List α, x = .slice (l.map f) ∧ LOk by_ Ok l := by
  cases h with
  | slice _ _ rows hl hr hc =>
    obtain ⟨l, rfl, hk⟩ := rows_open ho rows fun row h => ⟨hr row h, hc row h⟩
    exact ⟨l, rfl, by simpa using hl, hk⟩

theorem open_i64 {row : List IV} (h : HasCs [.int .i64] row) : ∃ x : Int, row = rowI x ∧ InK .i64 x := by
  obtain ⟨c, _, rfl, h0, h⟩ := hcs_cons h
  obtain rfl := hcs_nil h
  obtain ⟨n, rfl, k⟩ := hasC_int h0
  exact ⟨n, rfl, k⟩
theorem open_bool1 {row : List IV} (h : HasCs [.bool] row) : ∃ x : Bool, row = rowB x ∧ True := by
  obtain ⟨c, _, rfl, h0, h⟩ := hcs_cons h
  obtain rfl := hcs_nil h
  obtain ⟨n, rfl⟩ := hasC_bool h0
  exact ⟨n, rfl, trivial⟩
theorem open_slice1 {α : Type} {f : α → List IV} {Ok : α → Prop} {tys : List CTy} {by_ : Nat} (ho : ∀ {row : List IV}, HasCs tys row → ∃ x, row = f x ∧ Ok x) {row : List IV} (h : HasCs [.slice by_ tys] row) :
    ∃ x : List α, row = rowL f x ∧ LOk by_ Ok x := by
  obtain ⟨c, _, rfl, h0, h⟩ := hcs_cons h
  obtain rfl := hcs_nil h
  obtain ⟨l, rfl, k⟩ := hasC_slice ho h0
  exact ⟨l, rfl, k⟩
end Go.Proofs.YtaglopifoibhiaaDoor
namespace Go.Proofs.YtaglopifoibhiaaDoor
open Go.RowKit
set_option linter.unusedVariables false

def Ratio.tys : List CTy := [.int .i64, .int .i64]
structure Ratio.Ok (x : Ratio) : Prop where
  num : InK .i64 x.num
  den : InK .i64 x.den
theorem Ratio.opn {row : List IV} (h : HasCs Ratio.tys row) : ∃ x : Ratio, row = Ratio.row x ∧ Ratio.Ok x := by
  obtain ⟨c0, _, rfl, h0, h⟩ := hcs_cons h
  obtain ⟨c1, _, rfl, h1, h⟩ := hcs_cons h
  obtain rfl := hcs_nil h
  obtain ⟨v0, rfl, k0⟩ := hasC_int h0
  obtain ⟨v1, rfl, k1⟩ := hasC_int h1
  exact ⟨⟨v0, v1⟩, rfl, ⟨k0, k1⟩⟩

def UnitT.tys : List CTy := [.str, .int .i64, .int .i64, .int .i64, .int .i64]
structure UnitT.Ok (x : UnitT) : Prop where
  name : x.name.size ≤ reachBytes
  kind : InK .i64 x.kind
  base : InK .i64 x.base
  factor : Ratio.Ok x.factor
theorem UnitT.opn {row : List IV} (h : HasCs UnitT.tys row) : ∃ x : UnitT, row = UnitT.row x ∧ UnitT.Ok x := by
  obtain ⟨c0, _, rfl, h0, h⟩ := hcs_cons h
  obtain ⟨c1, _, rfl, h1, h⟩ := hcs_cons h
  obtain ⟨c2, _, rfl, h2, h⟩ := hcs_cons h
  obtain ⟨c3, _, rfl, h3, h⟩ := hcs_cons h
  obtain ⟨c4, _, rfl, h4, h⟩ := hcs_cons h
  obtain rfl := hcs_nil h
  obtain ⟨v0, rfl, k0⟩ := hasC_str h0
  obtain ⟨v1, rfl, k1⟩ := hasC_int h1
  obtain ⟨v2, rfl, k2⟩ := hasC_int h2
  obtain ⟨v3, rfl, k3⟩ := hasC_int h3
  obtain ⟨v4, rfl, k4⟩ := hasC_int h4
  exact ⟨⟨v0, v1, v2, ⟨v3, v4⟩⟩, rfl, ⟨k0, k1, k2, ⟨k3, k4⟩⟩⟩

def ActT.tys : List CTy := [.int .i64, .int .i64, .int .i64, .int .i64, .int .i64, .int .i64, .int .i64]
structure ActT.Ok (x : ActT) : Prop where
  kind : InK .i64 x.kind
  role : InK .i64 x.role
  give : InK .i64 x.give
  to : InK .i64 x.to
  unit : InK .i64 x.unit
  lot : Ratio.Ok x.lot
theorem ActT.opn {row : List IV} (h : HasCs ActT.tys row) : ∃ x : ActT, row = ActT.row x ∧ ActT.Ok x := by
  obtain ⟨c0, _, rfl, h0, h⟩ := hcs_cons h
  obtain ⟨c1, _, rfl, h1, h⟩ := hcs_cons h
  obtain ⟨c2, _, rfl, h2, h⟩ := hcs_cons h
  obtain ⟨c3, _, rfl, h3, h⟩ := hcs_cons h
  obtain ⟨c4, _, rfl, h4, h⟩ := hcs_cons h
  obtain ⟨c5, _, rfl, h5, h⟩ := hcs_cons h
  obtain ⟨c6, _, rfl, h6, h⟩ := hcs_cons h
  obtain rfl := hcs_nil h
  obtain ⟨v0, rfl, k0⟩ := hasC_int h0
  obtain ⟨v1, rfl, k1⟩ := hasC_int h1
  obtain ⟨v2, rfl, k2⟩ := hasC_int h2
  obtain ⟨v3, rfl, k3⟩ := hasC_int h3
  obtain ⟨v4, rfl, k4⟩ := hasC_int h4
  obtain ⟨v5, rfl, k5⟩ := hasC_int h5
  obtain ⟨v6, rfl, k6⟩ := hasC_int h6
  exact ⟨⟨v0, v1, v2, v3, v4, ⟨v5, v6⟩⟩, rfl, ⟨k0, k1, k2, k3, k4, ⟨k5, k6⟩⟩⟩

def CondT.tys : List CTy := [.int .i64, .int .i64]
structure CondT.Ok (x : CondT) : Prop where
  clause : InK .i64 x.clause
  is : InK .i64 x.is
theorem CondT.opn {row : List IV} (h : HasCs CondT.tys row) : ∃ x : CondT, row = CondT.row x ∧ CondT.Ok x := by
  obtain ⟨c0, _, rfl, h0, h⟩ := hcs_cons h
  obtain ⟨c1, _, rfl, h1, h⟩ := hcs_cons h
  obtain rfl := hcs_nil h
  obtain ⟨v0, rfl, k0⟩ := hasC_int h0
  obtain ⟨v1, rfl, k1⟩ := hasC_int h1
  exact ⟨⟨v0, v1⟩, rfl, ⟨k0, k1⟩⟩

def ClauseT.tys : List CTy := [.int .i64, .int .i64, .int .i64, .int .i64, .slice 16 CondT.tys, .int .i64, .int .i64, .bool, .bool, .int .i64, .int .i64, .int .i64, .int .i64, .int .i64, .int .i64, .bool]
structure ClauseT.Ok (x : ClauseT) : Prop where
  kind : InK .i64 x.kind
  role : InK .i64 x.role
  act : InK .i64 x.act
  need : InK .i64 x.need
  start : LOk 16 CondT.Ok x.start
  after : InK .i64 x.after
  grace : InK .i64 x.grace
  pause : InK .i64 x.pause
  resume : InK .i64 x.resume
  value : Ratio.Ok x.value
  unit : InK .i64 x.unit
  to : InK .i64 x.to
theorem ClauseT.opn {row : List IV} (h : HasCs ClauseT.tys row) : ∃ x : ClauseT, row = ClauseT.row x ∧ ClauseT.Ok x := by
  obtain ⟨c0, _, rfl, h0, h⟩ := hcs_cons h
  obtain ⟨c1, _, rfl, h1, h⟩ := hcs_cons h
  obtain ⟨c2, _, rfl, h2, h⟩ := hcs_cons h
  obtain ⟨c3, _, rfl, h3, h⟩ := hcs_cons h
  obtain ⟨c4, _, rfl, h4, h⟩ := hcs_cons h
  obtain ⟨c5, _, rfl, h5, h⟩ := hcs_cons h
  obtain ⟨c6, _, rfl, h6, h⟩ := hcs_cons h
  obtain ⟨c7, _, rfl, h7, h⟩ := hcs_cons h
  obtain ⟨c8, _, rfl, h8, h⟩ := hcs_cons h
  obtain ⟨c9, _, rfl, h9, h⟩ := hcs_cons h
  obtain ⟨c10, _, rfl, h10, h⟩ := hcs_cons h
  obtain ⟨c11, _, rfl, h11, h⟩ := hcs_cons h
  obtain ⟨c12, _, rfl, h12, h⟩ := hcs_cons h
  obtain ⟨c13, _, rfl, h13, h⟩ := hcs_cons h
  obtain ⟨c14, _, rfl, h14, h⟩ := hcs_cons h
  obtain ⟨c15, _, rfl, h15, h⟩ := hcs_cons h
  obtain rfl := hcs_nil h
  obtain ⟨v0, rfl, k0⟩ := hasC_int h0
  obtain ⟨v1, rfl, k1⟩ := hasC_int h1
  obtain ⟨v2, rfl, k2⟩ := hasC_int h2
  obtain ⟨v3, rfl, k3⟩ := hasC_int h3
  obtain ⟨v4, rfl, k4⟩ := hasC_slice @CondT.opn h4
  obtain ⟨v5, rfl, k5⟩ := hasC_int h5
  obtain ⟨v6, rfl, k6⟩ := hasC_int h6
  obtain ⟨v7, rfl⟩ := hasC_bool h7
  obtain ⟨v8, rfl⟩ := hasC_bool h8
  obtain ⟨v9, rfl, k9⟩ := hasC_int h9
  obtain ⟨v10, rfl, k10⟩ := hasC_int h10
  obtain ⟨v11, rfl, k11⟩ := hasC_int h11
  obtain ⟨v12, rfl, k12⟩ := hasC_int h12
  obtain ⟨v13, rfl, k13⟩ := hasC_int h13
  obtain ⟨v14, rfl, k14⟩ := hasC_int h14
  obtain ⟨v15, rfl⟩ := hasC_bool h15
  exact ⟨⟨v0, v1, v2, v3, v4, v5, v6, v7, v8, v9, v10, ⟨v11, v12⟩, v13, v14, v15⟩, rfl, ⟨k0, k1, k2, k3, k4, k5, k6, k9, k10, ⟨k11, k12⟩, k13, k14⟩⟩

def ContractT.tys : List CTy := [.int .i64, .slice 8 [.int .i64], .slice 48 UnitT.tys, .slice 56 ActT.tys, .slice 136 ClauseT.tys, .int .i64, .slice 8 [.int .i64]]
structure ContractT.Ok (x : ContractT) : Prop where
  parties : InK .i64 x.parties
  holders : LOk 8 (fun x : Int => InK .i64 x) x.holders
  units : LOk 48 UnitT.Ok x.units
  acts : LOk 56 ActT.Ok x.acts
  clauses : LOk 136 ClauseT.Ok x.clauses
  days : InK .i64 x.days
  off : LOk 8 (fun x : Int => InK .i64 x) x.off
theorem ContractT.opn {row : List IV} (h : HasCs ContractT.tys row) : ∃ x : ContractT, row = ContractT.row x ∧ ContractT.Ok x := by
  obtain ⟨c0, _, rfl, h0, h⟩ := hcs_cons h
  obtain ⟨c1, _, rfl, h1, h⟩ := hcs_cons h
  obtain ⟨c2, _, rfl, h2, h⟩ := hcs_cons h
  obtain ⟨c3, _, rfl, h3, h⟩ := hcs_cons h
  obtain ⟨c4, _, rfl, h4, h⟩ := hcs_cons h
  obtain ⟨c5, _, rfl, h5, h⟩ := hcs_cons h
  obtain ⟨c6, _, rfl, h6, h⟩ := hcs_cons h
  obtain rfl := hcs_nil h
  obtain ⟨v0, rfl, k0⟩ := hasC_int h0
  obtain ⟨v1, rfl, k1⟩ := hasC_slice open_i64 h1
  obtain ⟨v2, rfl, k2⟩ := hasC_slice @UnitT.opn h2
  obtain ⟨v3, rfl, k3⟩ := hasC_slice @ActT.opn h3
  obtain ⟨v4, rfl, k4⟩ := hasC_slice @ClauseT.opn h4
  obtain ⟨v5, rfl, k5⟩ := hasC_int h5
  obtain ⟨v6, rfl, k6⟩ := hasC_slice open_i64 h6
  exact ⟨⟨v0, v1, v2, v3, v4, v5, v6⟩, rfl, ⟨k0, k1, k2, k3, k4, k5, k6⟩⟩

def MarkT.tys : List CTy := [.int .i64, .int .i64, .int .i64, .int .i64, .bool]
structure MarkT.Ok (x : MarkT) : Prop where
  status : InK .i64 x.status
  left : InK .i64 x.left
  got : InK .i64 x.got
  bearer : InK .i64 x.bearer
theorem MarkT.opn {row : List IV} (h : HasCs MarkT.tys row) : ∃ x : MarkT, row = MarkT.row x ∧ MarkT.Ok x := by
  obtain ⟨c0, _, rfl, h0, h⟩ := hcs_cons h
  obtain ⟨c1, _, rfl, h1, h⟩ := hcs_cons h
  obtain ⟨c2, _, rfl, h2, h⟩ := hcs_cons h
  obtain ⟨c3, _, rfl, h3, h⟩ := hcs_cons h
  obtain ⟨c4, _, rfl, h4, h⟩ := hcs_cons h
  obtain rfl := hcs_nil h
  obtain ⟨v0, rfl, k0⟩ := hasC_int h0
  obtain ⟨v1, rfl, k1⟩ := hasC_int h1
  obtain ⟨v2, rfl, k2⟩ := hasC_int h2
  obtain ⟨v3, rfl, k3⟩ := hasC_int h3
  obtain ⟨v4, rfl⟩ := hasC_bool h4
  exact ⟨⟨v0, v1, v2, v3, v4⟩, rfl, ⟨k0, k1, k2, k3⟩⟩

def StateT.tys : List CTy := [.int .i64, .slice 8 [.int .i64], .slice 1 [.bool], .slice 40 MarkT.tys]
structure StateT.Ok (x : StateT) : Prop where
  day : InK .i64 x.day
  holders : LOk 8 (fun x : Int => InK .i64 x) x.holders
  used : LOk 1 (fun x : Bool => True) x.used
  marks : LOk 40 MarkT.Ok x.marks
theorem StateT.opn {row : List IV} (h : HasCs StateT.tys row) : ∃ x : StateT, row = StateT.row x ∧ StateT.Ok x := by
  obtain ⟨c0, _, rfl, h0, h⟩ := hcs_cons h
  obtain ⟨c1, _, rfl, h1, h⟩ := hcs_cons h
  obtain ⟨c2, _, rfl, h2, h⟩ := hcs_cons h
  obtain ⟨c3, _, rfl, h3, h⟩ := hcs_cons h
  obtain rfl := hcs_nil h
  obtain ⟨v0, rfl, k0⟩ := hasC_int h0
  obtain ⟨v1, rfl, k1⟩ := hasC_slice open_i64 h1
  obtain ⟨v2, rfl, k2⟩ := hasC_slice open_bool1 h2
  obtain ⟨v3, rfl, k3⟩ := hasC_slice @MarkT.opn h3
  exact ⟨⟨v0, v1, v2, v3⟩, rfl, ⟨k0, k1, k2, k3⟩⟩

def PosT.tys : List CTy := [.int .i64, .slice 8 [.int .i64], .slice 1 [.bool], .slice 40 MarkT.tys, .bool]
structure PosT.Ok (x : PosT) : Prop where
  state : StateT.Ok x.state
theorem PosT.opn {row : List IV} (h : HasCs PosT.tys row) : ∃ x : PosT, row = PosT.row x ∧ PosT.Ok x := by
  obtain ⟨c0, _, rfl, h0, h⟩ := hcs_cons h
  obtain ⟨c1, _, rfl, h1, h⟩ := hcs_cons h
  obtain ⟨c2, _, rfl, h2, h⟩ := hcs_cons h
  obtain ⟨c3, _, rfl, h3, h⟩ := hcs_cons h
  obtain ⟨c4, _, rfl, h4, h⟩ := hcs_cons h
  obtain rfl := hcs_nil h
  obtain ⟨v0, rfl, k0⟩ := hasC_int h0
  obtain ⟨v1, rfl, k1⟩ := hasC_slice open_i64 h1
  obtain ⟨v2, rfl, k2⟩ := hasC_slice open_bool1 h2
  obtain ⟨v3, rfl, k3⟩ := hasC_slice @MarkT.opn h3
  obtain ⟨v4, rfl⟩ := hasC_bool h4
  exact ⟨⟨⟨v0, v1, v2, v3⟩, v4⟩, rfl, ⟨⟨k0, k1, k2, k3⟩⟩⟩

def MoveT.tys : List CTy := [.int .i64, .int .i64]
structure MoveT.Ok (x : MoveT) : Prop where
  step : InK .i64 x.step
  to : InK .i64 x.to
theorem MoveT.opn {row : List IV} (h : HasCs MoveT.tys row) : ∃ x : MoveT, row = MoveT.row x ∧ MoveT.Ok x := by
  obtain ⟨c0, _, rfl, h0, h⟩ := hcs_cons h
  obtain ⟨c1, _, rfl, h1, h⟩ := hcs_cons h
  obtain rfl := hcs_nil h
  obtain ⟨v0, rfl, k0⟩ := hasC_int h0
  obtain ⟨v1, rfl, k1⟩ := hasC_int h1
  exact ⟨⟨v0, v1⟩, rfl, ⟨k0, k1⟩⟩

def ArenaT.tys : List CTy := [.int .i64, .slice 88 PosT.tys, .slice 24 [.slice 16 MoveT.tys]]
structure ArenaT.Ok (x : ArenaT) : Prop where
  party : InK .i64 x.party
  positions : LOk 88 PosT.Ok x.positions
  moves : LOk 24 (fun x : List MoveT => LOk 16 MoveT.Ok x) x.moves
theorem ArenaT.opn {row : List IV} (h : HasCs ArenaT.tys row) : ∃ x : ArenaT, row = ArenaT.row x ∧ ArenaT.Ok x := by
  obtain ⟨c0, _, rfl, h0, h⟩ := hcs_cons h
  obtain ⟨c1, _, rfl, h1, h⟩ := hcs_cons h
  obtain ⟨c2, _, rfl, h2, h⟩ := hcs_cons h
  obtain rfl := hcs_nil h
  obtain ⟨v0, rfl, k0⟩ := hasC_int h0
  obtain ⟨v1, rfl, k1⟩ := hasC_slice @PosT.opn h1
  obtain ⟨v2, rfl, k2⟩ := hasC_slice (open_slice1 (by_ := 16) @MoveT.opn) h2
  exact ⟨⟨v0, v1, v2⟩, rfl, ⟨k0, k1, k2⟩⟩

end Go.Proofs.YtaglopifoibhiaaDoor
namespace Go.Proofs.YtaglopifoibhiaaDoor
set_option linter.unusedVariables false
set_option linter.unusedSimpArgs false

def OutP {σ ρ : Type} (A : σ → Prop) (Q : ρ → Prop) : σ ⊕ ρ → Prop
  | .inl s => A s
  | .inr r => Q r

theorem forFrom_rule {σ ρ : Type} {f : Nat → σ → Option (σ ⊕ ρ)} {Inv : Nat → σ → Prop} {Q : ρ → Prop} (n : Nat)
    (step : ∀ (i : Nat) (s : σ), i < n → Inv i s → ∃ o, f i s = some o ∧ OutP (Inv (i + 1)) Q o) :
    ∀ (k i : Nat) (s : σ), i + k = n → Inv i s → ∃ o, forFrom f i k s = some o ∧ OutP (Inv n) Q o
  | 0, i, s, h, hi => ⟨.inl s, rfl, by obtain rfl : i = n := by omega
                                       exact hi⟩
  | k + 1, i, s, h, hi => by
    obtain ⟨o, h1, h2⟩ := step i s (by omega) hi
    simp only [forFrom, h1]
    cases o with
    | inl s' => exact forFrom_rule n step k (i + 1) s' (by omega) h2
    | inr r => exact ⟨.inr r, rfl, h2⟩

theorem forR_rule {σ ρ : Type} {f : Nat → σ → Option (σ ⊕ ρ)} {n : Int} {s0 : σ} (Inv : Nat → σ → Prop) (Q : ρ → Prop) (hn : n < 4611686018427387904)
    (h0 : Inv 0 s0) (step : ∀ (i : Nat) (s : σ), (i : Int) < n → Inv i s → ∃ o, f i s = some o ∧ OutP (Inv (i + 1)) Q o) :
    ∃ o, forR n f s0 = some o ∧ OutP (Inv n.toNat) Q o := by
  rw [forR_pos hn]
  exact forFrom_rule n.toNat (fun i s hi => step i s (by omega)) n.toNat 0 s0 (by omega) h0

theorem forR_ruleL {σ ρ : Type} {f : Nat → σ → Option (σ ⊕ ρ)} {n : Nat} {s0 : σ} (Inv : Nat → σ → Prop) (Q : ρ → Prop) (hn : n < 4611686018427387904)
    (h0 : Inv 0 s0) (step : ∀ (i : Nat) (s : σ), i < n → Inv i s → ∃ o, f i s = some o ∧ OutP (Inv (i + 1)) Q o) :
    ∃ o, forR (n : Int) f s0 = some o ∧ OutP (Inv n) Q o := by
  have := forR_rule (n := (n : Int)) Inv Q (by omega) h0 (fun i s hi => step i s (by omega))
  simpa using this

theorem iter_rule {σ ρ : Type} {f : σ → Option (σ ⊕ ρ)} (Inv : σ → Prop) (Q : ρ → Prop) (m : σ → Nat)
    (step : ∀ s, Inv s → ∃ o, f s = some o ∧ OutP (fun s' => Inv s' ∧ m s' < m s) Q o) : ∀ s0, Inv s0 → ∃ r, iter f s0 = some r ∧ Q r := by
  have key : ∀ (k : Nat) (s : σ), m s < k → Inv s → ∃ r, iter f s = some r ∧ Q r := by
    intro k
    induction k with
    | zero => intro s h; omega
    | succ k ih =>
      intro s hk hs
      obtain ⟨o, h1, h2⟩ := step s hs
      rw [iter_eq, h1]
      cases o with
      | inl s' => exact ih s' (by have := h2.2; omega) h2.1
      | inr r => exact ⟨r, rfl, h2⟩
  exact fun s0 h => key _ s0 (Nat.lt_succ_self _) h

theorem forFrom_first {ρ : Type} {f : Nat → Unit → Option (Unit ⊕ ρ)} {p : Nat → Bool} {g : Nat → ρ} : ∀ (k i : Nat), (∀ j, i ≤ j → j < i + k → f j () = some (bif p j then .inl () else .inr (g j))) →
    forFrom f i k () = some (match (List.range' i k).find? (fun j => !p j) with | none => .inl () | some j => .inr (g j))
  | 0, i, h => rfl
  | k + 1, i, h => by
    simp only [forFrom, h i (Nat.le_refl _) (by omega), List.range'_succ, List.find?_cons]
    cases hp : p i with
    | true =>
      simp only [cond_true, Bool.not_true]
      exact forFrom_first k (i + 1) fun j h1 h2 => h j (by omega) (by omega)
    | false => simp

theorem forR_first {ρ : Type} {f : Nat → Unit → Option (Unit ⊕ ρ)} {n : Nat} (p : Nat → Bool) (g : Nat → ρ) (hn : n < 4611686018427387904) (h : ∀ j, j < n → f j () = some (bif p j then .inl () else .inr (g j))) :
    forR (n : Int) f () = some (match (List.range n).find? (fun j => !p j) with | none => .inl () | some j => .inr (g j)) := by
  rw [forR_pos (by omega)]
  have := forFrom_first (f := f) (p := p) (g := g) n 0 (fun j _ h2 => h j (by omega))
  simpa [List.range_eq_range'] using this

theorem find_none {n : Nat} {p : Nat → Bool} (h : (List.range n).find? (fun j => !p j) = none) : ∀ j, j < n → p j = true := fun j hj => by
  have := List.find?_eq_none.1 h j (List.mem_range.2 hj)
  simpa using this
theorem find_range' {q : Nat → Bool} : ∀ (k a i : Nat), (List.range' a k).find? q = some i → i < a + k ∧ a ≤ i ∧ q i = true ∧ ∀ j, a ≤ j → j < i → q j = false
  | 0, a, i, h => by simp at h
  | k + 1, a, i, h => by
    rw [List.range'_succ, List.find?_cons] at h
    split at h
    · rename_i hq
      cases h
      exact ⟨by omega, Nat.le_refl _, hq, fun j h1 h2 => by omega⟩
    · rename_i hq
      obtain ⟨h1, h2, h3, h4⟩ := find_range' k (a + 1) i h
      exact ⟨by omega, by omega, h3, fun j h5 h6 => by
        rcases Nat.eq_or_lt_of_le h5 with h7 | h7
        · subst h7; exact hq
        · exact h4 j (by omega) h6⟩
theorem find_some {n i : Nat} {p : Nat → Bool} (h : (List.range n).find? (fun j => !p j) = some i) : i < n ∧ p i = false ∧ ∀ j, j < i → p j = true := by
  rw [List.range_eq_range'] at h
  obtain ⟨h1, _, h2, h3⟩ := find_range' n 0 i h
  exact ⟨by omega, by simpa using h2, fun j hj => by simpa using h3 j (Nat.zero_le _) hj⟩
theorem cond_some {α : Type} (b : Bool) (x y : α) : (bif b then some x else some y) = some (bif b then x else y) := by cases b <;> rfl
theorem idxI_at {α : Type} {l : List α} {i : Nat} {e : α} (h : l[i]? = some e) : idxI l (i : Int) = some e := by
  unfold idxI; rw [if_pos (by omega)]; simpa using h
theorem idxI_nat' {α : Type} (l : List α) (i : Nat) : idxI l (i : Int) = l[i]? := by
  unfold idxI; rw [if_pos (by omega)]; simp
theorem idxI_lt {α : Type} {l : List α} {n : Int} (h0 : 0 ≤ n) (h1 : n < l.length) : ∃ h : n.toNat < l.length, idxI l n = some l[n.toNat] := by
  have h : n.toNat < l.length := by omega
  exact ⟨h, by unfold idxI; rw [if_pos h0]; exact List.getElem?_eq_getElem h⟩
theorem idxI_neg {α : Type} {l : List α} {n : Int} (h : ¬ (0 ≤ n ∧ n < l.length)) : idxI l n = none := by
  unfold idxI
  split
  · exact List.getElem?_eq_none (by omega)
  · rfl
theorem idxN_lt {len : Nat} {n : Int} (h0 : 0 ≤ n) (h1 : n < len) : idxN len n = some n.toNat := by unfold idxN; rw [if_pos ⟨h0, h1⟩]
theorem idxN_nat {len i : Nat} (h : i < len) : idxN len (i : Int) = some i := by unfold idxN; rw [if_pos ⟨by omega, by omega⟩]; simp
end Go.Proofs.YtaglopifoibhiaaDoor
