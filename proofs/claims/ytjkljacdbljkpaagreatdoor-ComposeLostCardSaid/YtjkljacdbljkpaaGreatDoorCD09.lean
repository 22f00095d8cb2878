/-
  Functions of the program: what they compute, and plans of their code that the kernel checks (printed by a program of ours).
-/
import Derived.Test.YtjkljacdbljkpaaGreatDoorCD08
namespace Go.Proofs.YtjkljacdbljkpaaGreatDoor
open Go.RowKit
set_option linter.unusedSimpArgs false
set_option linter.unusedVariables false
set_option maxRecDepth 100000
noncomputable def QE (p1:Int) (p2:ContractT) (p3:Int) (p4:List Int) (p5:Nat) (p6:List Bool) (p7:Nat) (p8:List MarkT) (p9:Nat):Option ((List Int)×(List Bool)×(List MarkT)):=
  (Option.bind (ze p2.acts p1) fun e1=>(Option.bind (bif (e1.kind == 1) then some false else (Option.bind (zh p7 p1) fun k1=>(Option.bind (p6[k1]?) fun e2=>some e2))) fun v1=>(bif v1 then some (p4,p6,p8) else (Option.bind (Option.bind (xc p2 p3 p4 p5 p6 p7 p8 p9) fun r1=>(Option.bind (forR (σ:=(List MarkT)) (ρ:=(List MarkT)) (p9:Int) (fun i1 s1=>(Option.bind (Option.bind (zh p9 (i1:Int)) fun k2=>(Option.bind (s1[k2]?) fun e3=>(Option.bind (jr e3) fun r2=>(bif r2 then (Option.bind (Option.bind (ze p2.clauses (i1:Int)) fun e4=>(bif (p1 == e4.pause) then (Option.bind (zh p9 (i1:Int)) fun k3=>(Option.bind (s1[k3]?) fun e5=>some (s1.set k3 ({e5 with paused:=true}:MarkT)))) else (Option.bind (ze p2.clauses (i1:Int)) fun e6=>(bif (p1 == e6.resume) then (Option.bind (zh p9 (i1:Int)) fun k4=>(Option.bind (s1[k4]?) fun e7=>some (s1.set k4 ({e7 with paused:=false}:MarkT)))) else some s1)))) fun (v2:(List MarkT))=>some ((!true),v2)) else some (false,s1))))) fun (v3:Bool×(List MarkT))=>(bif v3.1 then some (.inr v3.2) else some (.inl v3.2)))) p8) (Sum.elim (fun (s1:(List MarkT))=>some s1) (fun (y1:(List MarkT))=>some y1)))) fun (v4:(List MarkT))=>(Option.bind (eqN p5 p4.length) fun g1=>(Option.bind (eqN p7 p6.length) fun g2=>(Option.bind (eqN p9 v4.length) fun g3=>(Option.bind (ZV p2 ({day:=p3,holders:=p4,used:=p6,marks:=v4}:StateT) p1) fun r3=>(Option.bind (Option.bind (xc p2 p3 p4 p5 p6 p7 v4 p9) fun r4=>(Option.bind (forR (σ:=(List MarkT)) (ρ:=(List MarkT)) (p9:Int) (fun i2 s2=>(Option.bind (Option.bind (zh p9 (i2:Int)) fun k5=>(Option.bind (s2[k5]?) fun e8=>(Option.bind (jr e8) fun r5=>(bif r5 then (Option.bind (Option.bind (ze p2.clauses (i2:Int)) fun e9=>(Option.bind (bif (e9.act == p1) then (bif (e9.kind == 4) then some true else (Option.bind (zh p9 (i2:Int)) fun k6=>(Option.bind (s2[k6]?) fun e10=>some (e10.bearer == r3)))) else some false) fun v5=>(bif v5 then (Option.bind (bif (e9.kind == (0:Int)) then none else (bif (e9.kind == (1:Int)) then (Option.bind (W6 (i2:Int) p2 p3 p4 p5 p6 p7 s2 p9) fun r9=>some r9) else (bif (e9.kind == (2:Int)) then (Option.bind (W5 (i2:Int) p2 p3 p4 p5 p6 p7 s2 p9) fun r8=>some r8) else (bif (e9.kind == (3:Int)) then (Option.bind (wu (i2:Int) p2 p3 p4 p5 p6 p7 s2 p9) fun r7=>some r7) else (bif (e9.kind == (4:Int)) then (Option.bind (wu (i2:Int) p2 p3 p4 p5 p6 p7 s2 p9) fun r6=>some r6) else none))))) fun v6=>some v6) else some s2))) fun (v7:(List MarkT))=>some ((!true),v7)) else some (false,s2))))) fun (v8:Bool×(List MarkT))=>(bif v8.1 then some (.inr v8.2) else some (.inl v8.2)))) v4) (Sum.elim (fun (s2:(List MarkT))=>some s2) (fun (y2:(List MarkT))=>some y2)))) fun (v9:(List MarkT))=>(Option.bind (bif (e1.kind == 1) then some (p4,p6,v9) else (Option.bind (W7 p1 p2 p3 p4 p5 p6 p7 v9 p9) fun r10=>some (r10.1,r10.2.1,r10.2.2))) fun (v10:(List Int)×(List Bool)×(List MarkT))=>(Option.bind (wt p2 p3 v10.1 p5 v10.2.1 p7 v10.2.2 p9) fun r11=>some (v10.1,v10.2.1,r11))))))))))))
noncomputable def zkJ (p1:Int) (p2:ContractT) (p3:Int) (p4:List Int) (p5:Nat) (p6:List Bool) (p7:Nat) (p8:List MarkT) (p9:Nat):Plan ((List Int)×(List Bool)×(List MarkT)):=
  .reg 1 (.ix 1146 ActT.row p2.acts p1 fun e1=>.use 6 1146 (.cut (β:=Bool) 2 (.k [2,3,4] (fun v1=>[(30,vB v1)]) [0,4,5,14] (fun _=>[(1,.rows 1 (zb zc p4)),(2,.rows 1 (zb zg p6)),(3,.rows 5 (zb MarkT.row p8))]) 29 fun _=>(.rows rfl (.rows rfl (.rows rfl .nil)))) (.reg 0 (.ite 1004 (e1.kind == 1) (.use 4 1005 (.ret false)) (.b1 1148 (zh p7 p1) (fun k1=>.k k1) (fun k1 hk1=>(zk hk1)) fun k1=>.b1 1150 (p6[k1]?) (fun e2=>.ar (zn (zg e2))) (fun e2 he2=>(zH zg he2)) fun e2=>.us [(4,1005),(10,1148),(11,1150)] (.ret e2)))) fun v1=>.ite 1006 v1 (.sel 1006 (.ret (p4,p6,p8))) (.sel 1006 (.cut (β:=(List MarkT)) 1 (.k [2,3,4] (fun _=>[]) [0,4,5,14] (fun v4=>[(1,.rows 1 (zb zc p4)),(2,.rows 1 (zb zg p6)),(3,.rows 5 (zb MarkT.row v4))]) 41 fun _=>(.rows rfl (.rows rfl (.rows rfl .nil)))) (.reg 0 (.b1 1152 (xc p2 p3 p4 p5 p6 p7 p8 p9) (fun r1=>.c [0,1,2,3] 4 (.func 67 [] [.ptr 30 0 0]) [(30,.rows 1 [[.ptr 0 0 0]])] 1) (fun r1 hr1=>(zf (Kw p2 p3 p4 p5 p6 p7 p8 p9 r1 hr1) [0,1,2,3] 30 (.drop rfl rfl (.drop rfl rfl (.drop rfl rfl (.drop rfl rfl (.keep .nil))))) (rhR (rhI (rhI (rhI rhN)))) (rhR rhN))) fun r1=>.use 1 1152 (.forR (σ:=(List MarkT)) (ρ:=(List MarkT)) 1008 10 (p9:Int) p8 (.k [0,1,9] (fun _=>[]) [0,4,5,14,30,32] (fun s1=>[(1,.rows 1 (zb zc p4)),(2,.rows 1 (zb zg p6)),(3,.rows 5 (zb MarkT.row s1))]) 40 fun _=>(.rows rfl (.rows rfl (.rows rfl .nil)))) (fun i1 s1=>.sel 1008 (.cut (β:=Bool×(List MarkT)) 4 (.k [0,1,9,10] (fun v3=>[(27,vB v3.1)]) [0,4,5,14,30,32] (fun v3=>[(1,.rows 1 (zb zc p4)),(2,.rows 1 (zb zg p6)),(3,.rows 5 (zb MarkT.row v3.2))]) 58 fun _=>(.rows rfl (.rows rfl (.rows rfl .nil)))) (.reg 0 (.b1 1154 (zh p9 (i1:Int)) (fun k2=>.k k2) (fun k2 hk2=>(zk hk2)) fun k2=>.b1 1156 (s1[k2]?) (fun e3=>.ar (zn (MarkT.row e3))) (fun e3 he3=>(zH MarkT.row he3)) fun e3=>.call 1158 (Zo e3) fun r2=>.ite 1018 r2 (.us [(6,1154),(7,1156),(8,1158),(10,1018)] (.reg 0 (.cut (β:=(List MarkT)) 0 (.k [] (fun _=>[]) [0,4,5,14,30,32] (fun v2=>[(1,.rows 1 (zb zc p4)),(2,.rows 1 (zb zg p6)),(3,.rows 5 (zb MarkT.row v2))]) 78 fun _=>(.rows rfl (.rows rfl (.rows rfl .nil)))) (.reg 1 (.ix 1160 ClauseT.row p2.clauses (i1:Int) fun e4=>.use 6 1160 (.ite 1020 (p1 == e4.pause) (.sel 1020 (.reg 0 (.b1 1162 (zh p9 (i1:Int)) (fun k3=>.k k3) (fun k3 hk3=>(zk hk3)) fun k3=>.b1 1164 (s1[k3]?) (fun e5=>.aw (zn (MarkT.row e5)) (zb MarkT.row (s1.set k3 ({e5 with paused:=true}:MarkT)))) (fun e5 he5=>(zI MarkT.row ({e5 with paused:=true}:MarkT) he5)) fun e5=>.us [(6,1162),(8,1164)] (.ret (s1.set k3 ({e5 with paused:=true}:MarkT)))))) (.sel 1020 (.reg 0 (.ix 1166 ClauseT.row p2.clauses (i1:Int) fun e6=>.use 6 1166 (.ite 1022 (p1 == e6.resume) (.sel 1022 (.reg 0 (.b1 1168 (zh p9 (i1:Int)) (fun k4=>.k k4) (fun k4 hk4=>(zk hk4)) fun k4=>.b1 1170 (s1[k4]?) (fun e7=>.aw (zn (MarkT.row e7)) (zb MarkT.row (s1.set k4 ({e7 with paused:=false}:MarkT)))) (fun e7 he7=>(zI MarkT.row ({e7 with paused:=false}:MarkT) he7)) fun e7=>.us [(6,1168),(8,1170)] (.ret (s1.set k4 ({e7 with paused:=false}:MarkT)))))) (.sel 1022 (.ret s1))))))))) fun v2=>.ret ((!true),v2)))) (.us [(6,1154),(7,1156),(8,1158),(10,1018)] (.ret (false,s1))))) fun v3=>.ite 1024 v3.1 (.sel 1024 (.ret (.inr v3.2))) (.sel 1024 (.ret (.inl v3.2))))) fun os1=>.case os1 (fun s1=>.sel 1008 (.ret s1)) fun y1=>.ret y1))) fun v4=>.reg 1 (.bind (eqN p5 p4.length) (fun _=>[]) (fun _ _=>.nil) fun g1=>.bind (eqN p7 p6.length) (fun _=>[]) (fun _ _=>.nil) fun g2=>.bind (eqN p9 v4.length) (fun _=>[]) (fun _ _=>.nil) fun g3=>.bind (ZV p2 ({day:=p3,holders:=p4,used:=p6,marks:=v4}:StateT) p1) (fun r3=>[(1172,([.w [1,2,3] [.agg (ContractT.row p2),.agg (StateT.row ({day:=p3,holders:=p4,used:=p6,marks:=v4}:StateT)),.int .i64 p1] (.int .i64 r3)],_))]) (fun r3 hr3=>(.c2 (zi5 p2 ({day:=p3,holders:=p4,used:=p6,marks:=v4}:StateT) p1 r3 hr3) (ju [.agg (zn (ContractT.row p2)),.agg [vI p3,.mslice 1 0 p5,.mslice 2 0 p7,.mslice 3 0 p9],vI p1] [(1,.rows 1 (zb zc p4)),(2,.rows 1 (zb zg p6)),(3,.rows 5 (zb MarkT.row v4))] [.agg (ContractT.row p2),.agg (StateT.row ({day:=p3,holders:=p4,used:=p6,marks:=v4}:StateT)),.int .i64 p1] (zz (yS (zz (qv _) (zz (qv _) (zz (qv _) (zz (qv _) (zz (qv _) (zz (qv _) (zz (qv _) qS)))))))) (zz (yS (zz (qv _) (zz (xa zc 1 1 p5 p4 g1.down rfl) (zz (xa zg 2 1 p7 p6 g2.down rfl) (zz (xa MarkT.row 3 5 p9 v4 g3.down rfl) qS))))) (zz (qv _) qS)))) .nil)) fun r3=>.use 9 1172 (.cut (β:=(List MarkT)) 1 (.k [2,3,4] (fun _=>[]) [0,4,5,14] (fun v9=>[(1,.rows 1 (zb zc p4)),(2,.rows 1 (zb zg p6)),(3,.rows 5 (zb MarkT.row v9))]) 68 fun _=>(.rows rfl (.rows rfl (.rows rfl .nil)))) (.reg 0 (.b1 1174 (xc p2 p3 p4 p5 p6 p7 v4 p9) (fun r4=>.c [0,1,2,3] 4 (.func 67 [] [.ptr 57 0 0]) [(57,.rows 1 [[.ptr 0 0 0]])] 1) (fun r4 hr4=>(zf (Kw p2 p3 p4 p5 p6 p7 v4 p9 r4 hr4) [0,1,2,3] 57 (.drop rfl rfl (.drop rfl rfl (.drop rfl rfl (.drop rfl rfl (.keep .nil))))) (rhR (rhI (rhI (rhI rhN)))) (rhR rhN))) fun r4=>.use 1 1174 (.forR (σ:=(List MarkT)) (ρ:=(List MarkT)) 1034 10 (p9:Int) v4 (.k [0,1,9] (fun _=>[]) [0,4,5,14,42,54,57,59] (fun s2=>[(1,.rows 1 (zb zc p4)),(2,.rows 1 (zb zg p6)),(3,.rows 5 (zb MarkT.row s2))]) 67 fun _=>(.rows rfl (.rows rfl (.rows rfl .nil)))) (fun i2 s2=>.sel 1034 (.cut (β:=Bool×(List MarkT)) 4 (.k [0,1,9,10] (fun v8=>[(27,vB v8.1)]) [0,4,5,14,42,54,57,59] (fun v8=>[(1,.rows 1 (zb zc p4)),(2,.rows 1 (zb zg p6)),(3,.rows 5 (zb MarkT.row v8.2))]) 85 fun _=>(.rows rfl (.rows rfl (.rows rfl .nil)))) (.reg 0 (.b1 1176 (zh p9 (i2:Int)) (fun k5=>.k k5) (fun k5 hk5=>(zk hk5)) fun k5=>.b1 1178 (s2[k5]?) (fun e8=>.ar (zn (MarkT.row e8))) (fun e8 he8=>(zH MarkT.row he8)) fun e8=>.call 1180 (Zo e8) fun r5=>.ite 1080 r5 (.us [(6,1176),(7,1178),(8,1180),(10,1080)] (.reg 0 (.cut (β:=(List MarkT)) 0 (.k [] (fun _=>[]) [0,4,5,14,42,54,57,59] (fun v7=>[(1,.rows 1 (zb zc p4)),(2,.rows 1 (zb zg p6)),(3,.rows 5 (zb MarkT.row v7))]) 116 fun _=>(.rows rfl (.rows rfl (.rows rfl .nil)))) (.reg 0 (.ix 1182 ClauseT.row p2.clauses (i2:Int) fun e9=>.use 6 1182 (.cut (β:=Bool) 1 (.k [2,6,8,9] (fun v5=>[(116,vB v5)]) [0,4,5,14,42,54,57,59,92] (fun _=>[(1,.rows 1 (zb zc p4)),(2,.rows 1 (zb zg p6)),(3,.rows 5 (zb MarkT.row s2))]) 116 fun _=>(.rows rfl (.rows rfl (.rows rfl .nil)))) (.reg 0 (.ite 1082 (e9.act == p1) (.ite 1084 (e9.kind == 4) (.us [(5,1082),(9,1084)] (.ret true)) (.b1 1184 (zh p9 (i2:Int)) (fun k6=>.k k6) (fun k6 hk6=>(zk hk6)) fun k6=>.b1 1186 (s2[k6]?) (fun e10=>.ar (zn (MarkT.row e10))) (fun e10 he10=>(zH MarkT.row he10)) fun e10=>.us [(5,1082),(9,1084),(15,1184),(17,1186)] (.ret (e10.bearer == r3)))) (.use 5 1082 (.ret false)))) fun v5=>.ite 1086 v5 (.sel 1086 (.cut (β:=(List MarkT)) 0 (.k [] (fun _=>[]) [0,4,5,14,42,54,57,59,92] (fun v6=>[(1,.rows 1 (zb zc p4)),(2,.rows 1 (zb zg p6)),(3,.rows 5 (zb MarkT.row v6))]) 123 fun _=>(.rows rfl (.rows rfl (.rows rfl .nil)))) (.reg 0 (.swt 1096 e9.kind 5 0 rfl (.none) (.swt 1094 e9.kind 5 1 rfl (.b1 1188 (W6 (i2:Int) p2 p3 p4 p5 p6 p7 s2 p9) (fun r9=>.c [0,1,2,3] 4 (.tuple []) [(3,.rows 5 (zb MarkT.row r9))] 0) (fun r9 hr9=>(zf (zkG (i2:Int) p2 p3 p4 p5 p6 p7 s2 p9 r9 hr9) [0,1,2,3] 123 (.drop rfl rfl (.drop rfl rfl (.drop rfl rfl (.keep .nil)))) (rhR (rhI (rhI (rhI rhN)))) (rhI rhN))) fun r9=>.us [(2,1094),(6,1188)] (.ret r9)) (.swt 1092 e9.kind 5 2 rfl (.b1 1190 (W5 (i2:Int) p2 p3 p4 p5 p6 p7 s2 p9) (fun r8=>.c [0,1,2,3] 4 (.tuple []) [(3,.rows 5 (zb MarkT.row r8))] 0) (fun r8 hr8=>(zf (zkE (i2:Int) p2 p3 p4 p5 p6 p7 s2 p9 r8 hr8) [0,1,2,3] 123 (.drop rfl rfl (.drop rfl rfl (.drop rfl rfl (.keep .nil)))) (rhR (rhI (rhI (rhI rhN)))) (rhI rhN))) fun r8=>.us [(2,1092),(6,1190)] (.ret r8)) (.swt 1090 e9.kind 5 3 rfl (.b1 1192 (wu (i2:Int) p2 p3 p4 p5 p6 p7 s2 p9) (fun r7=>.c [0,1,2,3] 4 (.tuple []) [(3,.rows 5 (zb MarkT.row r7))] 0) (fun r7 hr7=>(zf (zdj (i2:Int) p2 p3 p4 p5 p6 p7 s2 p9 r7 hr7) [0,1,2,3] 123 (.drop rfl rfl (.drop rfl rfl (.drop rfl rfl (.keep .nil)))) (rhR (rhI (rhI (rhI rhN)))) (rhI rhN))) fun r7=>.us [(2,1090),(6,1192)] (.ret r7)) (.swt 1088 e9.kind 5 4 rfl (.b1 1194 (wu (i2:Int) p2 p3 p4 p5 p6 p7 s2 p9) (fun r6=>.c [0,1,2,3] 4 (.tuple []) [(3,.rows 5 (zb MarkT.row r6))] 0) (fun r6 hr6=>(zf (zdj (i2:Int) p2 p3 p4 p5 p6 p7 s2 p9 r6 hr6) [0,1,2,3] 123 (.drop rfl rfl (.drop rfl rfl (.drop rfl rfl (.keep .nil)))) (rhR (rhI (rhI (rhI rhN)))) (rhI rhN))) fun r6=>.us [(2,1088),(6,1194)] (.ret r6)) (.none))))))) fun v6=>.ret v6)) (.sel 1086 (.ret s2))))) fun v7=>.ret ((!true),v7)))) (.us [(6,1176),(7,1178),(8,1180),(10,1080)] (.ret (false,s2))))) fun v8=>.ite 1098 v8.1 (.sel 1098 (.ret (.inr v8.2))) (.sel 1098 (.ret (.inl v8.2))))) fun os2=>.case os2 (fun s2=>.sel 1034 (.ret s2)) fun y2=>.ret y2))) fun v9=>.cut (β:=(List Int)×(List Bool)×(List MarkT)) 1 (.k [2] (fun _=>[]) [0,4] (fun v10=>[(1,.rows 1 (zb zc v10.1)),(2,.rows 1 (zb zg v10.2.1)),(3,.rows 5 (zb MarkT.row v10.2.2))]) 71 fun _=>(.rows rfl (.rows rfl (.rows rfl .nil)))) (.ite 1100 (e1.kind == 1) (.sel 1101 (.ret (p4,p6,v9))) (.sel 1101 (.reg 0 (.b1 1196 (W7 p1 p2 p3 p4 p5 p6 p7 v9 p9) (fun r10=>.c [0,1,2,3] 4 (.tuple []) [(1,.rows 1 (zb zc r10.1)),(2,.rows 1 (zb zg r10.2.1)),(3,.rows 5 (zb MarkT.row r10.2.2))] 0) (fun r10 hr10=>(zf (zkI p1 p2 p3 p4 p5 p6 p7 v9 p9 r10 hr10) [0,1,2,3] 73 (.drop rfl rfl (.keep (.keep (.keep .nil)))) (rhR (rhI (rhI (rhI rhN)))) (rhI (rhI (rhI rhN))))) fun r10=>.use 2 1196 (.ret (r10.1,r10.2.1,r10.2.2)))))) fun v10=>.reg 0 (.b1 1198 (wt p2 p3 v10.1 p5 v10.2.1 p7 v10.2.2 p9) (fun r11=>.c [0,1,2,3] 4 (.tuple []) [(3,.rows 5 (zb MarkT.row r11))] 0) (fun r11 hr11=>(zf (zdh p2 p3 v10.1 p5 v10.2.1 p7 v10.2.2 p9 r11 hr11) [0,1,2,3] 72 (.drop rfl rfl (.drop rfl rfl (.drop rfl rfl (.keep .nil)))) (rhR (rhI (rhI (rhI rhN)))) (rhI rhN))) fun r11=>.use 1 1198 (.ret (v10.1,v10.2.1,r11)))))))))
theorem zkK (p1:Int) (p2:ContractT) (p3:Int) (p4:List Int) (p5:Nat) (p6:List Bool) (p7:Nat) (p8:List MarkT) (p9:Nat) (res:(List Int)×(List Bool)×(List MarkT)) (hd:QE p1 p2 p3 p4 p5 p6 p7 p8 p9=some res):DOk C0 60 [.ptr 0 0 0,vI p1] [(0,.rows 11 [[vI p2.parties,.imm (.slice (List.map zc p2.holders)),.imm (.slice (List.map UnitT.row p2.units)),.imm (.slice (List.map ActT.row p2.acts)),.imm (.slice (List.map ClauseT.row p2.clauses)),vI p2.days,.imm (.slice (List.map zc p2.off)),vI p3,.mslice 1 0 p5,.mslice 2 0 p7,.mslice 3 0 p9]]),(1,.rows 1 (zb zc p4)),(2,.rows 1 (zb zg p6)),(3,.rows 5 (zb MarkT.row p8))] 4 (.tuple []) [(0,.rows 11 [[vI p2.parties,.imm (.slice (List.map zc p2.holders)),.imm (.slice (List.map UnitT.row p2.units)),.imm (.slice (List.map ActT.row p2.acts)),.imm (.slice (List.map ClauseT.row p2.clauses)),vI p2.days,.imm (.slice (List.map zc p2.off)),vI p3,.mslice 1 0 p5,.mslice 2 0 p7,.mslice 3 0 p9]]),(1,.rows 1 (zb zc res.1)),(2,.rows 1 (zb zg res.2.1)),(3,.rows 5 (zb MarkT.row res.2.2))] 0:=
  Plan.det (R:=fun res=>.tuple []) (H:=fun res=>[(0,.rows 11 [[vI p2.parties,.imm (.slice (List.map zc p2.holders)),.imm (.slice (List.map UnitT.row p2.units)),.imm (.slice (List.map ActT.row p2.acts)),.imm (.slice (List.map ClauseT.row p2.clauses)),vI p2.days,.imm (.slice (List.map zc p2.off)),vI p3,.mslice 1 0 p5,.mslice 2 0 p7,.mslice 3 0 p9]]),(1,.rows 1 (zb zc res.1)),(2,.rows 1 (zb zg res.2.1)),(3,.rows 5 (zb MarkT.row res.2.2))]) (zkJ p1 p2 p3 p4 p5 p6 p7 p8 p9) (.exp rfl rfl (.rows rfl (.rows rfl (.rows rfl .nil)))) (fun _=>(.exp rfl rfl (.rows rfl (.rows rfl (.rows rfl .nil))))) (by kernel_rfl) (fun _=>by kernel_rfl) (by kernel_rfl) (Plan.run_of hd (by kernel_rfl))
noncomputable def d_Step (c:ContractT) (s:StateT) (step:Int):Option (StateT×Int):=
  (Option.bind (Option.bind (qT c s) fun r1=>(bif r1 then (bif decide (step < (-1)) then some true else some (decide ((c.acts.length:Int)≤step))) else some true)) fun v1=>(bif v1 then some (({day:=0,holders:=[],used:=[],marks:=[]}:StateT),1) else (bif (s.day == c.days) then some (({day:=0,holders:=[],used:=[],marks:=[]}:StateT),13) else (Option.bind (mkN 8 (s.holders.length:Int)) fun k1=>(Option.bind (mkN 1 (s.used.length:Int)) fun k2=>(Option.bind (mkN 40 (s.marks.length:Int)) fun k3=>(Option.bind (xx (α:=Int) k1 (List.replicate k1 0) s.holders) fun e1=>(Option.bind (xx (α:=Bool) k2 (List.replicate k2 false) s.used) fun e2=>(Option.bind (xx (α:=MarkT) k3 (List.replicate k3 ({status:=0,left:=0,got:=0,bearer:=0,paused:=false}:MarkT)) s.marks) fun e3=>(Option.bind (bif (step == (-1)) then (Option.bind (d_70a c s.day e1 k1 e2 k2 e3 k3) fun r2=>some (e1,e2,r2,(IntKind.i64.wrap (s.day+1)))) else (Option.bind (QE step c s.day e1 k1 e2 k2 e3 k3) fun r3=>some (r3.1,r3.2.1,r3.2.2,s.day))) fun (v2:(List Int)×(List Bool)×(List MarkT)×Int)=>(Option.bind (eqN k1 v2.1.length) fun g1=>(Option.bind (eqN k2 v2.2.1.length) fun g2=>(Option.bind (eqN k3 v2.2.2.1.length) fun g3=>some (({day:=v2.2.2.2,holders:=v2.1,used:=v2.2.1,marks:=v2.2.2.1}:StateT),0))))))))))))))
noncomputable def zi6 (c:ContractT) (s:StateT) (step:Int):Plan (StateT×Int):=
  .cut (β:=Bool) 3 (.e [2,3,4,6] (fun v1=>[(23,vB v1)]) [0,1,2] 19) (.reg 0 (.call 1200 (wy c s) fun r1=>.ite 842 r1 (.ite 844 (decide (step < (-1))) (.us [(2,1200),(5,843),(9,844)] (.ret true)) (.us [(2,1200),(5,843),(9,844)] (.ln 1202 ActT.row c.acts (.use 12 1202 (.ret (decide ((c.acts.length:Int)≤step))))))) (.us [(2,1200),(5,843)] (.f1 1204 (.g true) (rfl:true=true) (.use 9 1204 (.ret true)))))) fun v1=>.ite 846 v1 (.sel 846 (.ret (({day:=0,holders:=[],used:=[],marks:=[]}:StateT),1))) (.sel 846 (.ite 848 (s.day == c.days) (.sel 848 (.ret (({day:=0,holders:=[],used:=[],marks:=[]}:StateT),13))) (.sel 848 (.reg 0 (.b1 1206 (mkN 8 (s.holders.length:Int)) (fun k1=>.m k1 (zb zc (List.replicate k1 0))) (fun k1 hk1=>(j9 zc 0 hk1)) fun k1=>.b1 1208 (mkN 1 (s.used.length:Int)) (fun k2=>.m k2 (zb zg (List.replicate k2 false))) (fun k2 hk2=>(j9 zg false hk2)) fun k2=>.b1 1210 (mkN 40 (s.marks.length:Int)) (fun k3=>.m k3 (zb MarkT.row (List.replicate k3 ({status:=0,left:=0,got:=0,bearer:=0,paused:=false}:MarkT)))) (fun k3 hk3=>(j9 MarkT.row ({status:=0,left:=0,got:=0,bearer:=0,paused:=false}:MarkT) hk3)) fun k3=>.ln 1226 zc s.holders (.us [(5,1226),(6,1206)] (.ln 1224 zg s.used (.us [(9,1224),(10,1208)] (.ln 1222 MarkT.row s.marks (.us [(13,1222),(14,1210)] (.reg 0 (.b1 1212 (xx (α:=Int) k1 (List.replicate k1 0) s.holders) (fun e1=>.b (zb zc e1) 0) (fun e1 he1=>(Jn zc 1 (fun _=>rfl) he1)) fun e1=>.use 7 1212 (.reg 0 (.b1 1214 (xx (α:=Bool) k2 (List.replicate k2 false) s.used) (fun e2=>.b (zb zg e2) 0) (fun e2 he2=>(Jn zg 1 (fun _=>rfl) he2)) fun e2=>.use 7 1214 (.reg 0 (.b1 1216 (xx (α:=MarkT) k3 (List.replicate k3 ({status:=0,left:=0,got:=0,bearer:=0,paused:=false}:MarkT)) s.marks) (fun e3=>.b (zb MarkT.row e3) 0) (fun e3 he3=>(Jn MarkT.row 5 (fun _=>rfl) he3)) fun e3=>.use 7 1216 (.cut (β:=(List Int)×(List Bool)×(List MarkT)×Int) 1 (.k [6,8] (fun _=>[]) [2] (fun v2=>[(30,.rows 1 (zb zc v2.1)),(34,.rows 1 (zb zg v2.2.1)),(38,.rows 5 (zb MarkT.row v2.2.2.1)),(41,.rows 11 [[vI c.parties,.imm (.slice (List.map zc c.holders)),.imm (.slice (List.map UnitT.row c.units)),.imm (.slice (List.map ActT.row c.acts)),.imm (.slice (List.map ClauseT.row c.clauses)),vI c.days,.imm (.slice (List.map zc c.off)),vI v2.2.2.2,.mslice 30 0 k1,.mslice 34 0 k2,.mslice 38 0 k3]])]) 71 fun _=>(.rows rfl (.rows rfl (.rows rfl (.exp rfl rfl .nil))))) (.ite 850 (step == (-1)) (.sel 850 (.reg 0 (.b1 1218 (d_70a c s.day e1 k1 e2 k2 e3 k3) (fun r2=>.c [41,30,34,38] 4 (.tuple []) [(41,.rows 11 [[vI c.parties,.imm (.slice (List.map zc c.holders)),.imm (.slice (List.map UnitT.row c.units)),.imm (.slice (List.map ActT.row c.acts)),.imm (.slice (List.map ClauseT.row c.clauses)),vI c.days,.imm (.slice (List.map zc c.off)),vI (IntKind.i64.wrap (s.day+1)),.mslice 30 0 k1,.mslice 34 0 k2,.mslice 38 0 k3]]),(38,.rows 5 (zb MarkT.row r2))] 0) (fun r2 hr2=>(zf (zkC c s.day e1 k1 e2 k2 e3 k3 r2 hr2) [41,30,34,38] 70 (.keep (.drop rfl rfl (.drop rfl rfl (.keep .nil)))) (rhR (rhI (rhI (rhI rhN)))) (rhR (rhI rhN)))) fun r2=>.use 1 1218 (.ret (e1,e2,r2,(IntKind.i64.wrap (s.day+1))))))) (.sel 850 (.reg 0 (.b1 1220 (QE step c s.day e1 k1 e2 k2 e3 k3) (fun r3=>.c [41,30,34,38] 4 (.tuple []) [(30,.rows 1 (zb zc r3.1)),(34,.rows 1 (zb zg r3.2.1)),(38,.rows 5 (zb MarkT.row r3.2.2))] 0) (fun r3 hr3=>(zf (zkK step c s.day e1 k1 e2 k2 e3 k3 r3 hr3) [41,30,34,38] 71 (.drop rfl rfl (.keep (.keep (.keep .nil)))) (rhR (rhI (rhI (rhI rhN)))) (rhI (rhI (rhI rhN))))) fun r3=>.use 2 1220 (.ret (r3.1,r3.2.1,r3.2.2,s.day)))))) fun v2=>.bind (eqN k1 v2.1.length) (fun _=>[]) (fun _ _=>.nil) fun g4=>.bind (eqN k2 v2.2.1.length) (fun _=>[]) (fun _ _=>.nil) fun g5=>.bind (eqN k3 v2.2.2.1.length) (fun _=>[]) (fun _ _=>.nil) fun g6=>.fin [30,34,38] (.tuple [.agg [vI v2.2.2.2,.mslice 30 0 k1,.mslice 34 0 k2,.mslice 38 0 k3],vI 0]) [(30,.rows 1 (zb zc v2.1)),(34,.rows 1 (zb zg v2.2.1)),(38,.rows 5 (zb MarkT.row v2.2.2.1))] (.tuple [.agg (StateT.row ((({day:=v2.2.2.2,holders:=v2.1,used:=v2.2.1,marks:=v2.2.2.1}:StateT),0).1)),.int .i64 ((({day:=v2.2.2.2,holders:=v2.1,used:=v2.2.1,marks:=v2.2.2.1}:StateT),0).2)]) (ju _ _ _ (zz (zcT (zz (yS (zz (qv _) (zz (xa zc 30 1 k1 v2.1 g4.down rfl) (zz (xa zg 34 1 k2 v2.2.1 g5.down rfl) (zz (xa MarkT.row 38 5 k3 v2.2.2.1 g6.down rfl) qS))))) (zz (qv _) qS))) qS)) (({day:=v2.2.2.2,holders:=v2.1,used:=v2.2.1,marks:=v2.2.2.1}:StateT),0))))))))))))))))))
theorem W8 (c:ContractT) (s:StateT) (step:Int) (res:StateT×Int) (hd:d_Step c s step=some res):APure C0 101 [.agg (ContractT.row c),.agg (StateT.row s),.int .i64 step] (.tuple [.agg (StateT.row res.1),.int .i64 res.2]):=
  Plan.pure (iv:=fun res=>.tuple [.agg (StateT.row res.1),.int .i64 res.2]) (zi6 c s step) (by kernel_rfl) (Plan.run_of hd (by kernel_rfl))
noncomputable def Kx (p1:ActT):Option Unit:=
  some ()
noncomputable def zkL (p1:ActT):Plan Unit:=
  .ret ()
theorem zkM (p1:ActT) (res:Unit) (hd:Kx p1=some res):DOk C0 32 [.imm (.agg [.int .i64 p1.kind,.int .i64 p1.role,.int .i64 p1.give,.int .i64 p1.to,.int .i64 p1.unit,.int .i64 p1.lot.num,.int .i64 p1.lot.den])] [] 0 (vB (!(p1.kind == 1))) [] 0:=
  Plan.det (R:=fun res=>vB (!(p1.kind == 1))) (H:=fun res=>[]) (zkL p1) .nil (fun _=>.nil) (by kernel_rfl) (fun _=>by kernel_rfl) (by kernel_rfl) (Plan.run_of hd (by kernel_rfl))
noncomputable def Ky (p1:List ActT):Option Int:=
  (Option.bind (forR (σ:=Unit) (ρ:=Int) (p1.length:Int) (fun i1 s1=>(Option.bind (ze p1 (i1:Int)) fun e1=>(Option.bind (Kx e1) fun r1=>(bif (e1.kind == 1) then some (.inl ()) else some (.inr (i1:Int)))))) ()) (Sum.elim (fun (s1:Unit)=>some (-1)) (fun (y1:Int)=>some y1)))
noncomputable def zkN (p1:List ActT):Plan Int:=
  .reg 1 (.ln 1246 ActT.row p1 (.use 1 1246 (.forR (σ:=Unit) (ρ:=Int) 1238 8 (p1.length:Int) () (.e [0,1,7] (fun _=>[]) [] 4) (fun i1 s1=>.sel 1238 (.reg 1 (.ix 1242 ActT.row p1 (i1:Int) fun e1=>.b1 1244 (Kx e1) (fun r1=>.c [] 0 (vB (!(e1.kind == 1))) [] 0) (fun r1 hr1=>(zf (zkM e1 r1 hr1) [] 12 .nil rhN rhN)) fun r1=>.us [(3,1242),(5,1244)] (.ite 1240 (e1.kind == 1) (.sel 1241 (.ret (.inl ()))) (.sel 1241 (.ret (.inr (i1:Int)))))))) fun os1=>.case os1 (fun s1=>.sel 1238 (.ret (-1))) fun y1=>.ret y1)))
theorem zkO (p1:List ActT) (res:Int) (hd:Ky p1=some res):DOk C0 51 [.imm (.slice (List.map ActT.row p1)),.func 32 [] []] [] 0 (vI res) [] 0:=
  Plan.det (R:=fun res=>vI res) (H:=fun res=>[]) (zkN p1) .nil (fun _=>.nil) (by kernel_rfl) (fun _=>by kernel_rfl) (by kernel_rfl) (Plan.run_of hd (by kernel_rfl))
noncomputable def Xe (p1:List ActT):Option Bool:=
  (Option.bind (Ky p1) fun r1=>some (decide (0≤r1)))
noncomputable def zkP (p1:List ActT):Plan Bool:=
  .reg 1 (.b1 1248 (Ky p1) (fun r1=>.c [] 0 (vI r1) [] 0) (fun r1 hr1=>(zf (zkO p1 r1 hr1) [] 3 .nil rhN rhN)) fun r1=>.use 2 1248 (.ret (decide (0≤r1))))
theorem zkQ (p1:List ActT) (res:Bool) (hd:Xe p1=some res):DOk C0 31 [.imm (.slice (List.map ActT.row p1)),.func 32 [] []] [] 0 (vB res) [] 0:=
  Plan.det (R:=fun res=>vB res) (H:=fun res=>[]) (zkP p1) .nil (fun _=>.nil) (by kernel_rfl) (fun _=>by kernel_rfl) (by kernel_rfl) (Plan.run_of hd (by kernel_rfl))
noncomputable def Xf (rec:Int→(List Int)→Option (Int×(List Int))) (p1:Int) (p2:List Int):Option (Int×(List Int)):=
  (Option.bind (Option.bind (zh 400 p1) fun k1=>(Option.bind (p2[k1]?) fun e1=>(bif (e1 == p1) then some p2 else (Option.bind (zh 400 p1) fun k2=>(Option.bind (p2[k2]?) fun e2=>(Option.bind (rec e2 p2) fun r1=>(Option.bind (r1.2[k2]?) fun e3=>some (r1.2.set k2 r1.1)))))))) fun (v1:(List Int))=>(Option.bind (zh 400 p1) fun k3=>(Option.bind (v1[k3]?) fun e4=>some (e4,v1))))
noncomputable def zhJ (rec:Int→(List Int)→Option (Int×(List Int))) (hrec:∀ (p1:Int) (p2:List Int) (res:Int×(List Int)),rec p1 p2=some res→DOk C0 29 [vI p1,.ptr 0 0 0,.ptr 1 0 0] [(0,.rows 1 (zb zc p2)),(1,.rows 1 [[.func 29 [] [.ptr 0 0 0,.ptr 1 0 0]]])] 2 (vI res.1) [(0,.rows 1 (zb zc res.2)),(1,.rows 1 [[.func 29 [] [.ptr 0 0 0,.ptr 1 0 0]]])] 0) (p1:Int) (p2:List Int):Plan (Int×(List Int)):=
  .cut (β:=(List Int)) 2 (.k [0,1] (fun _=>[]) [1] (fun v1=>[(0,.rows 1 (zb zc v1))]) 8 fun _=>(.rows rfl .nil)) (.reg 0 (.b1 1256 (zh 400 p1) (fun k1=>.k k1) (fun k1 hk1=>(zk hk1)) fun k1=>.b1 1258 (p2[k1]?) (fun e1=>.ar (zn (zc e1))) (fun e1 he1=>(zH zc he1)) fun e1=>.us [(1,1256),(2,1258)] (.ite 1254 (e1 == p1) (.sel 1255 (.ret p2)) (.sel 1255 (.reg 0 (.b1 1260 (zh 400 p1) (fun k2=>.k k2) (fun k2 hk2=>(zk hk2)) fun k2=>.b1 1262 (p2[k2]?) (fun e2=>.ar (zn (zc e2))) (fun e2 he2=>(zH zc he2)) fun e2=>.b1 1264 (rec e2 p2) (fun r1=>.c [0,1] 2 (vI r1.1) [(0,.rows 1 (zb zc r1.2))] 0) (fun r1 hr1=>(zf (hrec e2 p2 r1 hr1) [0,1] 16 (.keep (.drop rfl rfl .nil)) (rhI (rhR rhN)) (rhI rhN))) fun r1=>.b1 1266 (r1.2[k2]?) (fun e3=>.aw (zn (zc e3)) (zb zc (r1.2.set k2 r1.1))) (fun e3 he3=>(zI zc r1.1 he3)) fun e3=>.us [(3,1260),(4,1262),(5,1264),(6,1260),(7,1266)] (.ret (r1.2.set k2 r1.1)))))))) fun v1=>.reg 0 (.b1 1268 (zh 400 p1) (fun k3=>.k k3) (fun k3 hk3=>(zk hk3)) fun k3=>.b1 1270 (v1[k3]?) (fun e4=>.ar (zn (zc e4))) (fun e4 he4=>(zH zc he4)) fun e4=>.us [(1,1268),(2,1270)] (.ret (e4,v1)))
theorem zhK (rec:Int→(List Int)→Option (Int×(List Int))) (hrec:∀ (p1:Int) (p2:List Int) (res:Int×(List Int)),rec p1 p2=some res→DOk C0 29 [vI p1,.ptr 0 0 0,.ptr 1 0 0] [(0,.rows 1 (zb zc p2)),(1,.rows 1 [[.func 29 [] [.ptr 0 0 0,.ptr 1 0 0]]])] 2 (vI res.1) [(0,.rows 1 (zb zc res.2)),(1,.rows 1 [[.func 29 [] [.ptr 0 0 0,.ptr 1 0 0]]])] 0) (p1:Int) (p2:List Int) (res:Int×(List Int)) (hd:Xf rec p1 p2=some res):DOk C0 29 [vI p1,.ptr 0 0 0,.ptr 1 0 0] [(0,.rows 1 (zb zc p2)),(1,.rows 1 [[.func 29 [] [.ptr 0 0 0,.ptr 1 0 0]]])] 2 (vI res.1) [(0,.rows 1 (zb zc res.2)),(1,.rows 1 [[.func 29 [] [.ptr 0 0 0,.ptr 1 0 0]]])] 0:=
  Plan.det (R:=fun res=>vI res.1) (H:=fun res=>[(0,.rows 1 (zb zc res.2)),(1,.rows 1 [[.func 29 [] [.ptr 0 0 0,.ptr 1 0 0]]])]) (zhJ rec hrec p1 p2) (.rows rfl (.exp rfl rfl .nil)) (fun _=>(.rows rfl (.exp rfl rfl .nil))) (by kernel_rfl) (fun _=>by kernel_rfl) (by kernel_rfl) (Plan.run_of hd (by kernel_rfl))
noncomputable def jT:Nat→Int→(List Int)→Option (Int×(List Int))
  | 0=>fun _ _=>none
  | k+1=>Xf (jT k)
noncomputable def xd (p1:Int) (p2:List Int):Option (Int×(List Int)):=lim fun k=>jT k p1 p2
theorem zch:∀ (k:Nat) (p1:Int) (p2:List Int) (res:Int×(List Int)),jT k p1 p2=some res→DOk C0 29 [vI p1,.ptr 0 0 0,.ptr 1 0 0] [(0,.rows 1 (zb zc p2)),(1,.rows 1 [[.func 29 [] [.ptr 0 0 0,.ptr 1 0 0]]])] 2 (vI res.1) [(0,.rows 1 (zb zc res.2)),(1,.rows 1 [[.func 29 [] [.ptr 0 0 0,.ptr 1 0 0]]])] 0
  | 0=>fun p1 p2 res h=>by cases h
  | k+1=>fun p1 p2 res h=>zhK (jT k) (zch k) p1 p2 res h
theorem W9 (p1:Int) (p2:List Int) (res:Int×(List Int)) (hd:xd p1 p2=some res):DOk C0 29 [vI p1,.ptr 0 0 0,.ptr 1 0 0] [(0,.rows 1 (zb zc p2)),(1,.rows 1 [[.func 29 [] [.ptr 0 0 0,.ptr 1 0 0]]])] 2 (vI res.1) [(0,.rows 1 (zb zc res.2)),(1,.rows 1 [[.func 29 [] [.ptr 0 0 0,.ptr 1 0 0]]])] 0:=by
  obtain ⟨k,hk⟩:=zfW hd
  exact zch k p1 p2 res hk
noncomputable def wv (p1:Int) (p2:Int) (p3:List Int):Option (List Int):=
  (Option.bind (xd p1 p3) fun r1=>(Option.bind (xd p2 r1.2) fun r2=>(Option.bind (xd p1 r2.2) fun r3=>(Option.bind (xd p2 r3.2) fun r4=>(Option.bind (zh 400 (if r3.1 < r4.1 then r4.1 else r3.1)) fun k1=>(Option.bind (r4.2[k1]?) fun e1=>some (r4.2.set k1 (if r2.1 < r1.1 then r2.1 else r1.1))))))))
noncomputable def zkR (p1:Int) (p2:Int) (p3:List Int):Plan (List Int):=
  .reg 0 (.b1 1272 (xd p1 p3) (fun r1=>.c [1,0] 2 (vI r1.1) [(1,.rows 1 (zb zc r1.2))] 0) (fun r1 hr1=>(zf (W9 p1 p3 r1 hr1) [1,0] 18 (.keep (.drop rfl rfl .nil)) (rhI (rhR rhN)) (rhI rhN))) fun r1=>.b1 1274 (xd p2 r1.2) (fun r2=>.c [1,0] 2 (vI r2.1) [(1,.rows 1 (zb zc r2.2))] 0) (fun r2 hr2=>(zf (W9 p2 r1.2 r2 hr2) [1,0] 18 (.keep (.drop rfl rfl .nil)) (rhI (rhR rhN)) (rhI rhN))) fun r2=>.b1 1276 (xd p1 r2.2) (fun r3=>.c [1,0] 2 (vI r3.1) [(1,.rows 1 (zb zc r3.2))] 0) (fun r3 hr3=>(zf (W9 p1 r2.2 r3 hr3) [1,0] 18 (.keep (.drop rfl rfl .nil)) (rhI (rhR rhN)) (rhI rhN))) fun r3=>.b1 1278 (xd p2 r3.2) (fun r4=>.c [1,0] 2 (vI r4.1) [(1,.rows 1 (zb zc r4.2))] 0) (fun r4 hr4=>(zf (W9 p2 r3.2 r4 hr4) [1,0] 18 (.keep (.drop rfl rfl .nil)) (rhI (rhR rhN)) (rhI rhN))) fun r4=>.us [(2,1272),(5,1274),(9,1276),(12,1278)] (.reg 0 (.b1 1280 (zh 400 (if r3.1 < r4.1 then r4.1 else r3.1)) (fun k1=>.k k1) (fun k1 hk1=>(zk hk1)) fun k1=>.b1 1282 (r4.2[k1]?) (fun e1=>.aw (zn (zc e1)) (zb zc (r4.2.set k1 (if r2.1 < r1.1 then r2.1 else r1.1)))) (fun e1 he1=>(zI zc (if r2.1 < r1.1 then r2.1 else r1.1) he1)) fun e1=>.us [(2,1280),(3,1282)] (.ret (r4.2.set k1 (if r2.1 < r1.1 then r2.1 else r1.1))))))
theorem zdk (p1:Int) (p2:Int) (p3:List Int) (res:(List Int)) (hd:wv p1 p2 p3=some res):DOk C0 30 [vI p1,vI p2,.ptr 0 0 0,.ptr 1 0 0] [(0,.rows 1 [[.func 29 [] [.ptr 1 0 0,.ptr 0 0 0]]]),(1,.rows 1 (zb zc p3))] 2 (.tuple []) [(0,.rows 1 [[.func 29 [] [.ptr 1 0 0,.ptr 0 0 0]]]),(1,.rows 1 (zb zc res))] 0:=
  Plan.det (R:=fun res=>.tuple []) (H:=fun res=>[(0,.rows 1 [[.func 29 [] [.ptr 1 0 0,.ptr 0 0 0]]]),(1,.rows 1 (zb zc res))]) (zkR p1 p2 p3) (.exp rfl rfl (.rows rfl .nil)) (fun _=>(.exp rfl rfl (.rows rfl .nil))) (by kernel_rfl) (fun _=>by kernel_rfl) (by kernel_rfl) (Plan.run_of hd (by kernel_rfl))
noncomputable def yz (k:ClauseT):Option (List Int):=
  (bif (k.pause == (-1)) then some [k.act] else some [k.act,k.pause,k.resume])
noncomputable def zeQ (k:ClauseT):Plan (List Int):=
  .ite 1286 (k.pause == (-1)) (.sel 1286 (.ret [k.act])) (.sel 1286 (.ret [k.act,k.pause,k.resume]))
theorem zeR (k:ClauseT) (res:List Int) (hd:yz k=some res):APure C0 25 [.agg (ClauseT.row k)] (.slice (List.map zc res)):=
  Plan.pure (iv:=fun res=>.slice (List.map zc res)) (zeQ k) (by kernel_rfl) (Plan.run_of hd (by kernel_rfl))
noncomputable def xj (i:Nat) (s:List (List Int)×List (Int×Int)×List Int):Option ((List (List Int)×List (Int×Int)×List Int) ⊕ Unit):=
  Option.bind (xd (i:Int) s.2.2) fun r=>
    bif r.1 == (i:Int) then some (.inl (s.1++[[(i:Int)]],zQ (i:Int) (s.1.length:Int) s.2.1,r.2))
    else Option.bind (ze s.1 ((zp r.1 s.2.1).getD 0)) fun l=>some (.inl (s.1.set ((zp r.1 s.2.1).getD 0).toNat (l++[(i:Int)]),s.2.1,r.2))
abbrev F29:AV:=.func 29 [] [.ptr 0 0 0,.ptr 1 0 0]
structure GCtx where
  heap:List (Nat×AObj)
  N:Nat
  P:Nat
  qs:List Nat
structure GOk (i:Nat) (s:List (List Int)×List (Int×Int)×List Int) (c:GCtx):Prop where
  nest:NestOk c.heap c.N c.P c.qs s.1
  min:9≤c.N
  lt:∀ j o,za c.heap j=some o→j < c.N
  p0:c.P≠0
  p1:c.P≠1
  h0:za c.heap 0=some (.rows 1 (zb zc s.2.2))
  h1:za c.heap 1=some (.rows 1 [[F29]])
  h4:za c.heap 4=some (.map (zD IV.i64 IV.i64 s.2.1))
  len:s.1.length≤i
  lens:∀ (k:Nat) (L:List Int),s.1[k]?=some L→L.length≤i
def GS (n:Int) (i:Nat) (s:List (List Int)×List (Int×Int)×List Int) (c:GCtx):St:=
  ⟨[(1,F29),(5,.mslice c.P 0 s.1.length),(6,.map 4),(10,vI n),(11,vI (i:Int))],c.heap,c.N⟩
theorem zi7 {nt:Fr} (i:Int) (above:List Int) (r:Int×List Int) (hr:xd i above=some r) (x5 x6 x10:AV) (heap:List (Nat×AObj)) (N:Nat) (hN:9≤N)
    (h0:za heap 0=some (.rows 1 (zb zc above))) (h1:za heap 1=some (.rows 1 [[F29]])) (P:Exit→St→Prop)
    (h:P .normal ⟨[(1,F29),(5,x5),(6,x6),(10,x10),(11,vI i),(7,vI i),(8,vI r.1)],zs heap 0 (.rows 1 (zb zc r.2)),N+4⟩) :
    awp C0.plain nt (.region false [] zaH (some [1,5,6,7,8,10,11])) P ⟨[(1,F29),(5,x5),(6,x6),(10,x10),(11,vI i),(7,vI i)],heap,N⟩:=by
  refine ZK ?_
  have hd:=W9 i above r hr
  simp only [zaH,zac,zht,Yv,zfF,evalOp,zhu,WC,zei,reduceIte,Option.getD_some,WA,WB,Jh,WD,Yw,zeh,List.map_cons,List.map_nil,zbD,List.nil_append,List.append_nil,List.cons_append,zad,Nat.reduceEqDiff,if_false]
  refine ACall.det (l:=[0,1]) (zf hd [0,1] (N+1+1) (.keep (.drop rfl rfl .nil)) (rhI (rhR rhN)) (rhI rhN)) ?_ ?_ ?_
  · simp only [kF,ZL,List.length_cons,List.length_nil,List.all_cons,List.all_nil]
    simp;try omega
  · simp only [xw,h0,h1]
    rfl
  · simp only [kb,St.put,WA,WB,Jh,WD,Yw,Nat.reduceEqDiff,if_false,reduceIte,WC,Option.getD_some,Yu,Kb]
    simp [qB,List.filter,phi,wQ]
    exact h
theorem xe {C:CtxY} {ord:List Nat} {K:St→Prop} {dst:Option Nat} {op:AOp} {rest:List AItem} {j:Nat} {W R:List (Nat×Nat)} {env:List (Nat×AV)} {heap:List (Nat×AObj)} {next:Nat} (r:AV) (ups:List (Nat×AObj)) (hc:(match op with | .call _ _=>true | _=>false)=false)
    (he:evalOp op (zd env) (za heap) next=some (r,ups)) (hk:jR ord j W R (zT ups) (zj op (zd env))=true)
    (hn:evd C ord K rest (j+1) (qQ j (zT ups) W) (qQ j (zj op (zd env)) R) (St.after ⟨env,heap,next⟩ dst r ups)):evd C ord K (⟨dst,op,none⟩::rest) j W R ⟨env,heap,next⟩:=by
  rw [zae,zaf]
  have e:∀ KD,dOp C KD ⟨env,heap,next⟩ op=qn KD (zj op (zd env)) (evalOp op (zd env) (za heap) next):=fun KD=>by
    cases op<;>first | rfl | exact Bool.noConfusion hc
  rw [e,he]
  exact ⟨hk,hn⟩
theorem zci {ev:Opd→AV} {h:Nat→Option AObj} {id Q k p:Nat} {a b:Opd} {rows:List (List AV)} (hb:ev b=vI (p:Int)) (ha:ev a=.mslice Q 0 k) (hQ:h Q=some (.rows 1 rows)) (hp:p < k):evalOp (.idx 1 a b) ev h id=some (.ptr Q p 0,[]):=by
  have i2:(p:Int) < (k:Int):=by omega
  simp [evalOp,hb,ha,vI,hQ,i2]
theorem zgi {ev:Opd→AV} {h:Nat→Option AObj} {id Q p:Nat} {a:Opd} {v:AV} {rows:List (List AV)} (ha:ev a=.ptr Q p 0) (hQ:h Q=some (.rows 1 rows)) (hr:rows[p]?=some [v]):evalOp (.load false 1 a) ev h id=some (v,[]):=by
  simp [evalOp,ha,hQ,hr]
theorem zhL {ev:Opd→AV} {h:Nat→Option AObj} {id q B:Nat} {a b:Opd} {v:IV} {rows:List (List IV)} (ha:ev a=.gslice q rows) (hb:ev b=.mslice B 0 1) (hB:h B=some (.rows 1 [[.imm v]])) (hq:h q=some (.tip 1 rows.length)) (hl:(rows.length+1)*8≤140737488355328) :
    evalOp (.app 1 8 a b) ev h id=some (.gslice q (rows++[[v]]),[(q,.tip 1 (rows.length+1))]):=by
  simp [evalOp,ha,hb,QW,xf,hB,hq,hl,mapO,xB]
theorem zeS {ev:Opd→AV} {h:Nat→Option AObj} {id Q p q:Nat} {a b:Opd} {L:List (List IV)} {x:AV} {rows:List (List AV)} (ha:ev a=.ptr Q p 0) (hb:ev b=.gslice q L) (hQ:h Q=some (.rows 1 rows)) (hr:rows[p]?=some [x]):evalOp (.store 1 a b) ev h id=some (.undef,[(Q,.rows 1 (rows.set p [.gslice q L]))]):=by
  simp [evalOp,ha,hb,hQ,hr,cellsOf,qN]
set_option maxHeartbeats 4000000 in
theorem zeT {C:CtxY} {nt:Fr} (i r:Int) (x1 x10:AV) (heap:List (Nat×AObj)) (N Q k p q:Nat) (es:List (Int×Int)) (rows:List (List AV)) (L:List Int) (hk:k=rows.length)
    (hlt:∀ j o,za heap j=some o→j < N) (hQ:za heap Q=some (.rows 1 rows)) (h4:za heap 4=some (.map (zD IV.i64 IV.i64 es))) (hp:(zp r es).getD 0=(p:Int)) (hrow:rows[p]?=some [.gslice q (L.map zc)]) (hq:za heap q=some (.tip 1 L.length)) (hL:(L.length+1)*8≤140737488355328)
    (P:Exit→St→Prop)
    (h:P .normal ⟨[(1,x1),(5,.mslice Q 0 k),(6,.map 4),(10,x10),(11,vI i)],zs (zs (zs heap (N+11) (.rows 1 [[vI i]])) q (.tip 1 (L.length+1))) Q (.rows 1 (rows.set p [.gslice q ((L++[i]).map zc)])),N+15⟩) :
    awp C nt (.region true [0,0,0,6,0,0,0,96,240,496,0,1024,4080,8191,16383] ZR (some [1,5,6,10,11])) P ⟨[(1,x1),(5,.mslice Q 0 k),(6,.map 4),(10,x10),(11,vI i),(7,vI i),(8,vI r)],heap,N⟩:=by
  refine zb4 ?_
  have e1:Q < N:=hlt _ _ hQ
  have e2:q < N:=hlt _ _ hq
  have e3:Q≠q:=fun e=>by rw [e,hq] at hQ;cases hQ
  have e4:Q≠4:=fun e=>by rw [e,h4] at hQ;cases hQ
  have e5:q≠4:=fun e=>by rw [e,h4] at hq;cases hq
  have e6:(4:Nat) < N:=hlt _ _ h4
  have hpk:p < k:=by rw [hk];exact (List.getElem?_eq_some_iff.1 hrow).1
  have lk:J0 ZR=false:=rfl
  rw [lk]
  have hf:(match qk (.int .i64 r) (zD IV.i64 IV.i64 es) with | some x=>x | none=>vI 0)=vI (p:Int):=by
    rw [wm]
    cases hm:zp r es with
    | none=>rw [hm] at hp;simp only [Option.map_none];rw [←hp];rfl
    | some v=>rw [hm] at hp;simp only [Option.map_some];rw [←hp];rfl
  have hlook:∀ (ev:Opd→AV) (h:Nat→Option AObj) (id:Nat) (a b:Opd),ev a=.map 4→ev b=vI r→h 4=some (.map (zD IV.i64 IV.i64 es))→evalOp (.look false (.imm (.int .i64 0)) false a b) ev h id=some (vI (p:Int),[]):=by
    intro ev h id a b ha hb hh
    simp only [evalOp,ha,hb,vI,hh,yQ,wj]
    rw [wm]
    cases hm:zp r es with
    | none=>rw [hm] at hp;simp only [Option.map_none];simp at hp;simp [←hp]
    | some v=>rw [hm] at hp;simp only [Option.map_some];simp at hp;simp [←hp,IV.i64]
  show evd C _ (kD _ P) ZR 0 [] [] _
  unfold ZR
  refine xe _ _ rfl rfl rfl ?_
  refine xe _ _ rfl rfl rfl ?_
  refine xe _ _ rfl rfl rfl ?_
  refine xe _ _ rfl (hlook _ _ _ _ _ rfl rfl h4) rfl ?_
  refine xe _ _ rfl rfl rfl ?_
  refine xe _ _ rfl rfl rfl ?_
  refine xe _ _ rfl rfl rfl ?_
  refine xe _ _ rfl (hlook _ _ _ _ _ rfl rfl h4) rfl ?_
  refine xe _ _ rfl (zci rfl rfl hQ hpk) rfl ?_
  refine xe _ _ rfl (zgi rfl hQ hrow) rfl ?_
  refine xe _ _ rfl rfl rfl ?_
  have n1:N+11≠Q:=by omega
  have n2:N+11≠q:=by omega
  have n3:N+11≠4:=by omega
  have hQ1:za (zs heap (N+11) (.rows 1 [[vI i]])) Q=some (.rows 1 rows):=by rw [zq,if_neg n1];exact hQ
  have hq1:za (zs heap (N+11) (.rows 1 [[vI i]])) q=some (.tip 1 (L.map zc).length):=by rw [zq,if_neg n2,List.length_map];exact hq
  have hB:za (zs heap (N+11) (.rows 1 [[vI i]])) (N+11)=some (.rows 1 [[vI i]]):=by rw [zq,if_pos rfl]
  show evd C _ _ _ 11 [] [(9,Q),(8,Q),(7,4),(5,4),(4,Q),(3,4),(1,4),(0,Q)] ⟨[(1,x1),(5,.mslice Q 0 k),(6,.map 4),(10,x10),(11,vI i),(7,vI i),(8,vI r),(27,.mslice Q 0 k),(28,.map 4),(29,vI r),(30,vI (p:Int)),(31,.mslice Q 0 k),(32,.map 4),(33,vI r),(34,vI (p:Int)),(35,.ptr Q p 0),(36,.gslice q (L.map zc)),(37,vI i)],heap,N+11⟩
  have m1:Q≠N+11:=by omega
  have m2:q≠N+11:=by omega
  have m3:4≠N+11:=by omega
  have e3':¬ q=Q:=fun e=>e3 e.symm
  refine xe (.mslice (N+11) 0 1) [(N+11,.rows 1 [[vI i]])] rfl rfl ?_ ?_
  · simp [jR,zT,m1,m3]
  show evd C _ _ _ 12 [(11,N+11)] [(9,Q),(8,Q),(7,4),(5,4),(4,Q),(3,4),(1,4),(0,Q)] ⟨[(1,x1),(5,.mslice Q 0 k),(6,.map 4),(10,x10),(11,vI i),(7,vI i),(8,vI r),(27,.mslice Q 0 k),(28,.map 4),(29,vI r),(30,vI (p:Int)),(31,.mslice Q 0 k),(32,.map 4),(33,vI r),(34,vI (p:Int)),(35,.ptr Q p 0),(36,.gslice q (L.map zc)),(37,vI i),(38,.mslice (N+11) 0 1)],(zs heap (N+11) (.rows 1 [[vI i]])),N+12⟩
  refine xe (.gslice q (L.map zc++[zc i])) [(q,.tip 1 ((L.map zc).length+1))] rfl (zhL rfl rfl hB hq1 (by simpa using hL)) ?_ ?_
  · simp [jR,zT,bef,e3,e5,Ne.symm e5,m2]
  show evd C _ _ _ 13 [(12,q),(11,N+11)] _ ⟨[(1,x1),(5,.mslice Q 0 k),(6,.map 4),(10,x10),(11,vI i),(7,vI i),(8,vI r),(27,.mslice Q 0 k),(28,.map 4),(29,vI r),(30,vI (p:Int)),(31,.mslice Q 0 k),(32,.map 4),(33,vI r),(34,vI (p:Int)),(35,.ptr Q p 0),(36,.gslice q (L.map zc)),(37,vI i),(38,.mslice (N+11) 0 1),(39,.gslice q (L.map zc++[zc i]))],(zs (zs heap (N+11) (.rows 1 [[vI i]])) q (.tip 1 ((L.map zc).length+1))),N+13⟩
  have hQ2:za (zs (zs heap (N+11) (.rows 1 [[vI i]])) q (.tip 1 ((L.map zc).length+1))) Q=some (.rows 1 rows):=by rw [zq,if_neg e3'];exact hQ1
  refine xe (.ptr Q p 0) [] rfl (zci rfl rfl hQ2 hpk) ?_ ?_
  · simp [jR,zT,bef]
  show evd C _ _ _ 14 [(12,q),(11,N+11)] _ ⟨[(1,x1),(5,.mslice Q 0 k),(6,.map 4),(10,x10),(11,vI i),(7,vI i),(8,vI r),(27,.mslice Q 0 k),(28,.map 4),(29,vI r),(30,vI (p:Int)),(31,.mslice Q 0 k),(32,.map 4),(33,vI r),(34,vI (p:Int)),(35,.ptr Q p 0),(36,.gslice q (L.map zc)),(37,vI i),(38,.mslice (N+11) 0 1),(39,.gslice q (L.map zc++[zc i])),(40,.ptr Q p 0)],(zs (zs heap (N+11) (.rows 1 [[vI i]])) q (.tip 1 ((L.map zc).length+1))),N+14⟩
  refine xe .undef _ rfl (zeS rfl rfl hQ2 hrow) ?_ ?_
  · simp [jR,zT,bef]
  show kD _ P ⟨[(1,x1),(5,.mslice Q 0 k),(6,.map 4),(10,x10),(11,vI i),(7,vI i),(8,vI r),(27,.mslice Q 0 k),(28,.map 4),(29,vI r),(30,vI (p:Int)),(31,.mslice Q 0 k),(32,.map 4),(33,vI r),(34,vI (p:Int)),(35,.ptr Q p 0),(36,.gslice q (L.map zc)),(37,vI i),(38,.mslice (N+11) 0 1),(39,.gslice q (L.map zc++[zc i])),(40,.ptr Q p 0)],zs (zs (zs heap (N+11) (.rows 1 [[vI i]])) q (.tip 1 ((L.map zc).length+1))) Q (.rows 1 (rows.set p [.gslice q (L.map zc++[zc i])])),N+15⟩
  rw [Yu]
  rw [List.map_append,List.length_map] at *
  exact h
theorem yT {C:CtxY} {K:St→Prop} {dst:Option Nat} {op:AOp} {rest:List AItem} {env:List (Nat×AV)} {heap:List (Nat×AObj)} {next:Nat} (r:AV) (ups:List (Nat×AObj)) (hc:(match op with | .call _ _=>true | _=>false)=false)
    (he:evalOp op (zd env) (za heap) next=some (r,ups)) (hn:evl C rest K (St.after ⟨env,heap,next⟩ dst r ups)):evl C (⟨dst,op,none⟩::rest) K ⟨env,heap,next⟩:=by
  rw [zac,Yv]
  have e:∀ K,evOp C dst K ⟨env,heap,next⟩ op=z6 dst K ⟨env,heap,next⟩ (evalOp op (zd env) (za heap) next):=fun KD=>by
    cases op<;>first | rfl | exact Bool.noConfusion hc
  rw [e,he]
  exact hn
theorem zgj {env env':List (Nat×AV)} {heap:List (Nat×AObj)} {N:Nat} (h:∀ t x,za env' t=some x→za env t=some x):Weak ⟨env,heap,N⟩ ⟨env',heap,N⟩:=fun C nt g a w R=>
  ⟨g,⟨⟨R.env.size,R.env.defers,fun t x hx=>R.env.slot t x (h t x hx)⟩,R.heap⟩,fun _ _ _ _ E=>E⟩
theorem YO {α:Type}:∀ (l m:List (Nat×α)) (t:Nat) (x:α),za l t=some x→za (l++m) t=some x
  | [],m,t,x,h=>by cases h
  | (k,v)::l,m,t,x,h=>by
    simp only [List.cons_append,za] at h ⊢
    split
    · rename_i e;rw [if_pos e] at h;exact h
    · rename_i e;rw [if_neg e] at h;exact YO l m t x h
theorem zeU (env ext:List (Nat×AV)) (heap:List (Nat×AObj)) (N:Nat):Weak ⟨env++ext,heap,N⟩ ⟨env,heap,N⟩:=zgj fun t x h=>YO env ext t x h
theorem zhh {C:CtxY} {nt:Fr} (x1 x5 x6 x10:AV) (i:Int) (heap:List (Nat×AObj)) (N:Nat) (P:Exit→St→Prop) (h:P .normal ⟨[(1,x1),(5,x5),(6,x6),(10,x10),(11,vI (IntKind.i64.wrap (i+1)))],heap,N+2⟩) :
    awp C nt (.region false [] zcc (some [1,5,6,10,11])) P ⟨[(1,x1),(5,x5),(6,x6),(10,x10),(11,vI i)],heap,N⟩:=jL [] .nil h (by kernel_rfl)
theorem YP (k:Int) (v:Int):∀ es:List (Int×Int),zp k (zQ k v es)=some v
  | []=>by simp [zQ,zp]
  | (k',v')::r=>by
    have ih:=YP k v r
    by_cases e:k=k'
    · simp only [zQ,if_pos e,zp,if_true]
    · simp only [zQ,if_neg e,zp];exact ih
theorem zhM {ev:Opd→AV} {h:Nat→Option AObj} {id M:Nat} {a b c:Opd} {i v:Int} {es:List (Int×Int)} (ha:ev a=.map M) (hb:ev b=vI i) (hc:ev c=vI v) (hM:h M=some (.map (zD IV.i64 IV.i64 es))) :
    evalOp (.upd false a b c) ev h id=some (.undef,[(M,.map (zD IV.i64 IV.i64 (zQ i v es)))]):=by
  have:=(zan IV.i64 i v es).2
  simp only [evalOp,ha,hb,hc,hM,vI,yQ,wj]
  simp only [IV.i64] at this ⊢
  simp [this]
theorem zhN {ev:Opd→AV} {h:Nat→Option AObj} {id Q k sz:Nat} {a:Opd} {rows:List (List AV)} (ha:ev a=.mslice Q 0 k) (hQ:h Q=some (.rows sz rows)):evalOp (.len a) ev h id=some (vI (k:Int),[]):=by
  simp [evalOp,ha,xO,hQ]
theorem zhO {ev:Opd→AV} {h:Nat→Option AObj} {id Q B k:Nat} {a b:Opd} {v:AV} {rows:List (List AV)} (ha:ev a=.mslice Q 0 k) (hb:ev b=.mslice B 0 1) (hB:h B=some (.rows 1 [[v]])) (hQ:h Q=some (.rows 1 rows)) (hk:k=rows.length) (hl:(k+1)*24≤140737488355328) :
    evalOp (.app 1 24 a b) ev h id=some (.mslice id 0 (k+1),[(id,.rows 1 (rows++[[v]])),(Q,.dead)]):=by
  subst hk
  simp [evalOp,ha,hb,QX,jG,hB,hQ,hl]
theorem zkS {C:CtxY} {nt:Fr} (i r:Int) (x1 x10 x11 x19:AV) (heap:List (Nat×AObj)) (N Q k:Nat) (es:List (Int×Int)) (rows:List (List AV)) (hQ:za heap Q=some (.rows 1 rows)) (h4:za heap 4=some (.map (zD IV.i64 IV.i64 es))) (P:Exit→St→Prop)
    (h:P .normal ⟨[(1,x1),(5,.mslice Q 0 k),(6,.map 4),(10,x10),(11,x11),(7,vI i),(8,vI r)],zs heap 4 (.map (zD IV.i64 IV.i64 (zQ i (k:Int) es))),N+5⟩) :
    awp C nt (.region false [] zaI (some [1,5,6,7,8,10,11])) P ⟨[(1,x1),(5,.mslice Q 0 k),(6,.map 4),(10,x10),(11,x11),(7,vI i),(8,vI r),(19,x19)],heap,N⟩:=by
  refine ZK ?_
  unfold zaI
  refine yT _ _ rfl rfl ?_
  refine yT _ _ rfl rfl ?_
  refine yT _ _ rfl rfl ?_
  refine yT (vI (k:Int)) [] rfl (zhN rfl hQ) ?_
  refine yT _ _ rfl (zhM rfl rfl rfl h4) ?_
  exact h
theorem zkT {C:CtxY} {nt:Fr} (x1 x6 x7 x8 x10 x11:AV) (heap:List (Nat×AObj)) (N Q k:Nat) (rows:List (List AV)) (hk:k=rows.length) (hQN:Q < N) (hQ:za heap Q=some (.rows 1 rows)) (hl:(k+1)*24≤140737488355328) (P:Exit→St→Prop)
    (h:P .normal ⟨[(1,x1),(5,.mslice (N+2) 0 (k+1)),(6,x6),(10,x10),(11,x11),(7,x7),(8,x8)],zs (zs (zs heap (N+1) (.rows 1 [[.nil]])) Q .dead) (N+2) (.rows 1 (rows++[[.nil]])),N+4⟩) :
    awp C nt (.region false [] zaJ (some [1,5,6,7,8,10,11])) P ⟨[(1,x1),(5,.mslice Q 0 k),(6,x6),(10,x10),(11,x11),(7,x7),(8,x8)],heap,N⟩:=by
  refine ZK ?_
  unfold zaJ
  refine yT _ _ rfl rfl ?_
  refine yT (.mslice (N+1) 0 1) [(N+1,.rows 1 [[.nil]])] rfl rfl ?_
  have hB:za (zs heap (N+1) (.rows 1 [[.nil]])) (N+1)=some (.rows 1 [[.nil]]):=by rw [zq,if_pos rfl]
  have hQ1:za (zs heap (N+1) (.rows 1 [[.nil]])) Q=some (.rows 1 rows):=by rw [zq,if_neg (by omega)];exact hQ
  refine yT _ _ rfl (zhO rfl rfl hB hQ1 hk hl) ?_
  refine yT _ _ rfl rfl ?_
  exact h
noncomputable def xH (n:Int) (above:List Int):Option (List (List Int)×List Int):=
  bif decide (n≤1000000000000) then Option.bind (forR (σ:=List (List Int)×List (Int×Int)×List Int) (ρ:=Unit) n xj ([],[],above)) (Sum.elim (fun s=>some (s.1,s.2.2)) (fun _=>none)) else none
theorem zaR {i:Nat} {Ls:List (List Int)} {es:List (Int×Int)} {above:List Int} {heap:List (Nat×AObj)} {N P:Nat} {qs:List Nat}
    (hN:NestOk heap N P qs Ls) (hmin:9≤N) (hlt:∀ j o,za heap j=some o→j < N) (p0:P≠0) (p1:P≠1) (h0:za heap 0=some (.rows 1 (zb zc above))) (h1:za heap 1=some (.rows 1 [[F29]])) (h4:za heap 4=some (.map (zD IV.i64 IV.i64 es)))
    (hlen:Ls.length≤i+1) (hlens:∀ (k:Nat) (L:List Int),Ls[k]?=some L→L.length≤i) {p q:Nat} {L:List Int} (hL:Ls[p]?=some L) (hq:qs[p]?=some q) :
    GOk (i+1) (Ls.set p (L++[(i:Int)]),es,above) ⟨zs (zs (zs heap (N+11) (.rows 1 [[vI (i:Int)]])) q (.tip 1 (L.length+1))) P (.rows 1 ((zW qs Ls).set p [.gslice q ((L++[(i:Int)]).map zc)])),N+17,P,qs⟩:=by
  have ht:=hN.tip p q L hq hL
  have hqP:q≠P:=fun e=>by rw [e,hN.obj] at ht;cases ht
  have hPN:P < N:=hlt _ _ hN.obj
  have hqN:q < N:=hlt _ _ ht
  have hE:∀ j,j≠P→j≠q→(za heap j).isSome=true→za (zs (zs (zs heap (N+11) (.rows 1 [[vI (i:Int)]])) q (.tip 1 (L.length+1))) P (.rows 1 ((zW qs Ls).set p [.gslice q ((L++[(i:Int)]).map zc)]))) j=za heap j:=fun j a b c=>by
    obtain ⟨o,ho⟩:=Option.isSome_iff_exists.1 c
    have:=hlt j o ho
    rw [zq,if_neg (Ne.symm a),zq,if_neg (Ne.symm b),zq,if_neg (by omega)]
  refine ⟨hN.grow hq (by rw [zq,if_pos rfl,XC qs Ls p q _ hq]) (by rw [zq,if_neg (Ne.symm hqP),zq,if_pos rfl];simp) hE,by show 9≤N+17;omega,fun j o ho => ?_,p0,p1,?_,?_,?_,by simpa using hlen,fun k' L' h' => ?_⟩
  · show j < N+17
    simp only [zq] at ho
    split at ho
    · omega
    · split at ho
      · omega
      · split at ho
        · omega
        · have:=hlt j o ho;omega
  · simp only;rw [hE 0 (Ne.symm p0) (fun e=>by rw [←e,h0] at ht;cases ht) (by rw [h0];rfl)];exact h0
  · simp only;rw [hE 1 (Ne.symm p1) (fun e=>by rw [←e,h1] at ht;cases ht) (by rw [h1];rfl)];exact h1
  · simp only;rw [hE 4 (fun e=>by have:=hN.obj;rw [←e,h4] at this;cases this) (fun e=>by rw [←e,h4] at ht;cases ht) (by rw [h4];rfl)];exact h4
  · simp only at h'
    by_cases e:k'=p
    · subst e
      have hlt':=(List.getElem?_eq_some_iff.1 hL).1
      rw [List.getElem?_set_self hlt'] at h'
      cases h'
      have:=hlens k' L hL
      simp;omega
    · rw [List.getElem?_set_ne (Ne.symm e)] at h'
      have:=hlens k' L' h'
      omega
theorem NestOk.push {heap heap':List (Nat×AObj)} {N N' P P' q:Nat} {qs:List Nat} {Ls:List (List Int)} (h:NestOk heap N P qs Ls) (hlt:∀ j o,za heap j=some o→j < q) (hP:za heap' P'=some (.rows 1 (zW (qs++[q]) (Ls++[[]])))) (hq:za heap' q=some (.tip 1 0))
    (hE:∀ (k q':Nat),qs[k]?=some q'→(za heap q').isSome=true→za heap' q'=za heap q'):NestOk heap' N' P' (qs++[q]) (Ls++[[]]):=by
  have hold:∀ (k q':Nat),qs[k]?=some q'→q' < q:=fun k q' hk=>by
    have hl:k < Ls.length:=by rw [←h.len];exact (List.getElem?_eq_some_iff.1 hk).1
    exact hlt q' _ (h.tip k q' Ls[k] hk (by simp))
  refine ⟨hP,fun k q' L h1 h2 => ?_,by simp [h.len],fun i j q' h1 h2 => ?_⟩
  · rcases Nat.lt_or_ge k qs.length with hk | hk
    · rw [List.getElem?_append_left hk] at h1
      rw [List.getElem?_append_left (by rw [←h.len];exact hk)] at h2
      have:=h.tip k q' L h1 h2
      rw [hE k q' h1 (by rw [this];rfl)];exact this
    · rw [List.getElem?_append_right hk] at h1
      rw [List.getElem?_append_right (by rw [←h.len];exact hk)] at h2
      rw [←h.len] at h2
      cases hd:k - qs.length with
      | zero=>rw [hd] at h1 h2;simp at h1 h2;subst h1 h2;exact hq
      | succ n=>rw [hd] at h1;simp at h1
  · have key:∀ k,(qs++[q])[k]?=some q'→(k < qs.length∧qs[k]?=some q')∨(k=qs.length∧q'=q):=fun k hk=>by
      rcases Nat.lt_or_ge k qs.length with hlt | hge
      · rw [List.getElem?_append_left hlt] at hk;exact .inl ⟨hlt,hk⟩
      · rw [List.getElem?_append_right hge] at hk
        cases hd:k - qs.length with
        | zero=>rw [hd] at hk;simp at hk;exact .inr ⟨by omega,hk.symm⟩
        | succ n=>rw [hd] at hk;simp at hk
    rcases key i h1 with ⟨a1,a2⟩ | ⟨a1,a2⟩<;>rcases key j h2 with ⟨b1,b2⟩ | ⟨b1,b2⟩
    · exact h.nd i j q' a2 b2
    · have:=hold i q' a2;omega
    · have:=hold j q' b2;omega
    · omega
theorem NestOk.frame {heap:List (Nat×AObj)} {N N' P:Nat} {qs:List Nat} {Ls:List (List Int)} (h:NestOk heap N P qs Ls) (x:Nat) (hx:x≠P) (hx2:∀ sz len,za heap x≠some (.tip sz len)) (o:AObj):NestOk (zs heap x o) N' P qs Ls:=
  ⟨by rw [zq,if_neg hx];exact h.obj,fun k q L h1 h2=>by
    have:=h.tip k q L h1 h2
    rw [zq,if_neg (fun e=>hx2 _ _ (by rw [e];exact this))];exact this,h.len,h.nd⟩
theorem vC {heap:List (Nat×AObj)} {N N' x:Nat} {o:AObj} (h:∀ j o,za heap j=some o→j < N) (hN:N≤N') (hx:x < N'):∀ j o',za (zs heap x o) j=some o'→j < N':=fun j o' hj=>by
  rw [zq] at hj
  split at hj
  · omega
  · have:=h j o' hj;omega
theorem zgk {heap:List (Nat×AObj)} {N N' x:Nat} {o:AObj} (h:∀ j o,za heap j=some o→j < N) (hN:N≤N') (hx:x < N'):∀ j o',za (zl heap x o) j=some o'→j < N':=fun j o' hj=>by
  rw [zm] at hj
  split at hj
  · omega
  · have:=h j o' hj;omega
theorem zkU {heap:List (Nat×AObj)} {N P:Nat} {qs:List Nat} {Ls:List (List Int)} {above:List Int} (h:NestOk heap N P qs Ls) (hmin:9≤N) (hlt:∀ j o,za heap j=some o→j < N) (p0:P≠0) (p1:P≠1) (h0:za heap 0=some (.rows 1 (zb zc above))) (h1:za heap 1=some (.rows 1 [[F29]])) :
    Weak ⟨[(0,.mslice P 0 Ls.length)],heap,N⟩ ⟨[(0,.imm (.slice (List.map (zt zc) Ls)))],[(0,.rows 1 (zb zc above)),(1,.rows 1 [[F29]])],2⟩:=by
  have w1:=zat (st:=⟨[(0,.mslice P 0 Ls.length)],heap,N⟩) P 1 (zW qs Ls) (zb (zt zc) Ls) h.obj (WN qs Ls h.len)
  have w2:=Xz (st:=⟨[(0,.mslice P 0 Ls.length)],zl heap P (.rows 1 (zb (zt zc) Ls)),N⟩) P 1 0 Ls.length (List.map (zt zc) Ls) (List.map (zt zc) Ls) [] _ (by simp only;rw [zm,if_pos rfl]) (Zj _ _) (zb6 _ _) (by
    have e1:∀ hp:List (Nat×AObj),XU P 0 Ls.length [] hp=[]:=fun hp=>by
      induction hp with
      | nil=>rfl
      | cons a l ih=>obtain ⟨k,o⟩:=a;simp only [XU,ih];simp
    rw [e1]
    simp only [List.append_nil,VN,WL,ke,if_pos]
    exact .cons (by simp) .nil)
  have w3:=(Weak.andThen w1 w2 (Nat.le_refl _))
  refine Weak.andThen w3 (JZ (by simp only;omega) ?_ ?_) (by simp only;omega)
  · intro p hp
    simp only [List.mem_cons,List.not_mem_nil,or_false] at hp
    subst hp
    exact ⟨by simp [VO,Qq,kd],rfl⟩
  · intro p hp
    simp only [List.mem_cons,List.not_mem_nil,or_false] at hp
    rcases hp with rfl | rfl
    · refine ⟨?_,by simp,vV _ _ _ _⟩
      simp only [yR,zm,if_neg p0,h0,Option.map_some,if_neg (Ne.symm p0)]
      simp
    · refine ⟨?_,by simp,wR (by kernel_rfl)⟩
      simp only [yR,zm,if_neg p1,h1,Option.map_some,if_neg (Ne.symm p1)]
      simp
set_option maxHeartbeats 4000000 in
theorem zgl  (p1:Int) (p2:List Int) (res:List (List Int)×List Int) (hd:xH p1 p2=some res):DOk C0 33 [vI p1,.func 29 [] [.ptr 0 0 0,.ptr 1 0 0]] [(0,.rows 1 (zb zc p2)),(1,.rows 1 [[.func 29 [] [.ptr 0 0 0,.ptr 1 0 0]]])] 2 (.imm (.slice (List.map (zt zc) res.1))) [(0,.rows 1 (zb zc res.2)),(1,.rows 1 [[.func 29 [] [.ptr 0 0 0,.ptr 1 0 0]]])] 0:=by
  unfold xH at hd
  rcases grd hd with ⟨hn,hd⟩ | ⟨_,hd⟩
  case inr=>cases hd
  have hn:p1≤1000000000000:=of_decide_eq_true hn
  obtain ⟨o,hl,hd⟩:=vS hd
  refine DOk.start zmt (by simp [zc8]) (.rows (by rfl) (.exp (by rfl) (by kernel_rfl) .nil)) (.rows (by rfl) (.exp (by rfl) (by kernel_rfl) .nil)) (by kernel_rfl) (by kernel_rfl) (by kernel_rfl) (by kernel_rfl) ?_
  intro B
  show awp C0.plain _ zc8.body (zg9 zc8.results _ _ _) ⟨[(0,vI p1),(1,F29)],[(0,.rows 1 (zb zc p2)),(1,.rows 1 [[F29]])],2⟩
  refine qH ?_
  refine jL (st':=⟨[(0,vI p1),(1,F29)],[(0,.rows 1 (zb zc p2)),(1,.rows 1 [[F29]])],3⟩) [] .nil ?_ (by kernel_rfl)
  refine q9 ?_
  refine qH ?_
  refine jL (st':=⟨[(0,vI p1),(1,F29),(5,.nil)],[(0,.rows 1 (zb zc p2)),(1,.rows 1 [[F29]])],4⟩) [] .nil ?_ (by kernel_rfl)
  refine q9 ?_
  refine qH ?_
  refine jL (st':=⟨[(0,vI p1),(1,F29),(5,.nil),(6,.map 4)],[(0,.rows 1 (zb zc p2)),(1,.rows 1 [[F29]]),(4,.map [])],6⟩) [] .nil ?_ (by kernel_rfl)
  refine q9 ?_
  refine qH ?_
  refine qH ?_
  refine jL (st':=⟨[(1,F29),(5,.nil),(6,.map 4),(10,vI p1),(11,vI 0)],[(0,.rows 1 (zb zc p2)),(1,.rows 1 [[F29]]),(4,.map [])],8⟩) [] .nil ?_ (by kernel_rfl)
  refine q9 ?_
  refine Zf ?_
  refine ky (Yz (t:=5) 1 rfl) (by simp) ?_
  show awp C0.plain _ _ _ ⟨[(1,F29),(5,.mslice 8 0 0),(6,.map 4),(10,vI p1),(11,vI 0)],[(0,.rows 1 (zb zc p2)),(1,.rows 1 [[F29]]),(4,.map []),(8,.rows 1 [])],9⟩
  refine zfX hl GOk (GS p1) (fun i s c hok=>hok.min) ⟨[(0,.rows 1 (zb zc p2)),(1,.rows 1 [[F29]]),(4,.map []),(8,.rows 1 [])],9,8,[]⟩ ?_ rfl (Weak.refl _) ?_ ?_
  · refine ⟨⟨rfl,fun k q L h1=>by simp at h1,rfl,fun i j q h1=>by simp at h1⟩,by simp,fun j o h => ?_,by simp,by simp,rfl,rfl,rfl,by simp,fun k L h=>by simp at h⟩
    simp only [za] at h
    show j < 9
    repeat (split at h;omega)
    cases h
  · rintro i ⟨Ls,es,above⟩ ⟨heap,N,P,qs⟩ o hok hi hw hs
    obtain ⟨r,hr,hs⟩:=vS hs
    simp only at hr hs
    show awp C0.plain _ _ _ ⟨[(1,F29),(5,.mslice P 0 Ls.length),(6,.map 4),(10,vI p1),(11,vI (i:Int))],heap,N⟩
    refine qH ?_
    refine jL (st':=⟨[(1,F29),(5,.mslice P 0 Ls.length),(6,.map 4),(10,vI p1),(11,vI (i:Int)),(12,vB (decide ((i:Int) < p1)))],heap,N+1⟩) [] .nil ?_ (by kernel_rfl)
    refine q9 ?_
    refine qH ?_
    refine zhw (by simp [*]) ?_
    refine Qg ?_
    refine q9 ?_
    refine qH ?_
    refine Zf ?_
    refine qH ?_
    refine jL (st':=⟨[(1,F29),(5,.mslice P 0 Ls.length),(6,.map 4),(10,vI p1),(11,vI (i:Int)),(7,vI (i:Int))],heap,N+3⟩) [] .nil ?_ (by kernel_rfl)
    refine q9 ?_
    refine qH ?_
    have hmin:=hok.min
    simp only at hmin
    refine zi7 (i:Int) above r hr _ _ _ heap (N+3) (by omega) hok.h0 hok.h1 _ ?_
    refine q9 ?_
    refine qH ?_
    refine qH ?_
    refine jL (st':=⟨[(1,F29),(5,.mslice P 0 Ls.length),(6,.map 4),(10,vI p1),(11,vI (i:Int)),(7,vI (i:Int)),(8,vI r.1),(19,vB (r.1 == (i:Int)))],zs heap 0 (.rows 1 (zb zc r.2)),N+10⟩) [] .nil ?_ (by kernel_rfl)
    refine q9 ?_
    have hnest0:NestOk (zs heap 0 (.rows 1 (zb zc r.2))) (N+10) P qs Ls:=hok.nest.frame 0 (Ne.symm hok.p0) (fun sz len e=>by have:=hok.h0;simp only at this;rw [this] at e;cases e) _
    have hlt0:∀ j o,za (zs heap 0 (.rows 1 (zb zc r.2))) j=some o→j < N+10:=vC hok.lt (by simp only;omega) (by omega)
    have hPN:P < N:=hok.lt _ _ hok.nest.obj
    have P4:P≠4:=fun e=>by have h1:=hok.nest.obj;have h2:=hok.h4;simp only at h1 h2;rw [e,h2] at h1;cases h1
    have g0:za (zs heap 0 (.rows 1 (zb zc r.2))) 0=some (.rows 1 (zb zc r.2)):=by rw [zq,if_pos rfl]
    have g1:za (zs heap 0 (.rows 1 (zb zc r.2))) 1=some (.rows 1 [[F29]]):=by rw [zq,if_neg (by omega)];exact hok.h1
    have g4:za (zs heap 0 (.rows 1 (zb zc r.2))) 4=some (.map (zD IV.i64 IV.i64 es)):=by rw [zq,if_neg (by omega)];exact hok.h4
    have hlen:=hok.len
    have hlens:=hok.lens
    simp only at hlen hlens
    have hp0:=hok.p0
    have hp1:=hok.p1
    simp only at hp0 hp1
    generalize zs heap 0 (.rows 1 (zb zc r.2))=heap0 at *
    have hrl:=XA hnest0.len
    refine ziq (r.1 == (i:Int)) rfl (fun g => ?_) (fun g => ?_)
    · replace hs:=zis g hs
      cases hs
      have gi:r.1=(i:Int):=by simpa using g
      rw [gi]
      refine qH ?_
      refine zkS (i:Int) (i:Int) _ _ _ _ heap0 (N+10) P Ls.length es (zW qs Ls) hnest0.obj g4 _ ?_
      refine q9 ?_
      have hP1:za (zs heap0 4 (.map (zD IV.i64 IV.i64 (zQ (i:Int) (Ls.length:Int) es)))) P=some (.rows 1 (zW qs Ls)):=by rw [zq,if_neg (Ne.symm P4)];exact hnest0.obj
      refine zkT _ _ _ _ _ _ _ (N+15) P Ls.length (zW qs Ls) hrl.symm (by omega) hP1 (by omega) _ ?_
      refine q9 ?_
      refine ky (YB (N+17) 1 1 (zW qs Ls++[[.nil]]) Ls.length 0 [.nil] (by simp only;rw [zq,if_pos rfl]) (by rw [←hrl];simp) rfl) (by simp) ?_
      have erow:(zW qs Ls++[[AV.nil]]).set Ls.length ([AV.nil].set 0 (.gslice (N+19) []))=zW (qs++[N+19]) (Ls++[[]]):=by
        rw [zbG qs Ls (N+19) [] hnest0.len,←hrl]
        simp
      simp only
      rw [show N+15+4=N+19 from rfl,show N+15+2=N+17 from rfl,show N+15+1=N+16 from rfl,erow]
      generalize hH:zl (zs (zs (zs (zs (zs heap0 4 (.map (zD IV.i64 IV.i64 (zQ (i:Int) (Ls.length:Int) es)))) (N+16) (.rows 1 [[.nil]])) P .dead) (N+17) (.rows 1 (zW qs Ls++[[.nil]]))) (N+19) (.tip 1 0)) (N+17) (.rows 1 (zW (qs++[N+19]) (Ls++[[]])))=heap4
      have ag:∀ j,za heap4 j=if N+17=j then some (.rows 1 (zW (qs++[N+19]) (Ls++[[]]))) else if N+19=j then some (.tip 1 0) else if P=j then some .dead else if N+16=j then some (.rows 1 [[.nil]]) else if 4=j then some (.map (zD IV.i64 IV.i64 (zQ (i:Int) (Ls.length:Int) es))) else za heap0 j:=fun j=>by
        rw [←hH]
        simp only [zm,zq]
        split
        · rfl
        · split
          · rfl
          · rfl
      have n4:NestOk heap4 (N+20) (N+17) (qs++[N+19]) (Ls++[[]]):=hnest0.push (fun j o h=>by have:=hlt0 j o h;omega) (by rw [ag,if_pos rfl]) (by rw [ag,if_neg (by omega),if_pos rfl]) (fun k q' hk ho=>by
        obtain ⟨o',ho'⟩:=Option.isSome_iff_exists.1 ho
        have hq':=hlt0 _ _ ho'
        have hl:k < Ls.length:=by rw [←hnest0.len];exact (List.getElem?_eq_some_iff.1 hk).1
        have ht:=hnest0.tip k q' Ls[k] hk (by simp)
        rw [ag,if_neg (by omega),if_neg (by omega),if_neg (fun e=>by rw [←e,hnest0.obj] at ht;cases ht),if_neg (by omega),if_neg (fun e=>by rw [←e,g4] at ht;cases ht)])
      have lt4:∀ j o,za heap4 j=some o→j < N+20:=by
        rw [←hH]
        exact zgk (vC (vC (vC (vC (vC hlt0 (N':=N+20) (by omega) (by omega)) (Nat.le_refl _) (by omega)) (Nat.le_refl _) (by omega)) (Nat.le_refl _) (by omega)) (Nat.le_refl _) (by omega)) (Nat.le_refl _) (by omega)
      have k0:za heap4 0=some (.rows 1 (zb zc r.2)):=by rw [ag,if_neg (by omega),if_neg (by omega),if_neg hp0,if_neg (by omega),if_neg (by omega)];exact g0
      have k1:za heap4 1=some (.rows 1 [[F29]]):=by rw [ag,if_neg (by omega),if_neg (by omega),if_neg hp1,if_neg (by omega),if_neg (by omega)];exact g1
      have k4:za heap4 4=some (.map (zD IV.i64 IV.i64 (zQ (i:Int) (Ls.length:Int) es))):=by rw [ag,if_neg (by omega),if_neg (by omega),if_neg P4,if_neg (by omega),if_pos rfl]
      have hr4:(zW (qs++[N+19]) (Ls++[[]]))[Ls.length]?=some [.gslice (N+19) (([]:List Int).map zc)]:=XB (by rw [←hnest0.len];simp) (by simp)
      refine zeT (i:Int) (i:Int) _ _ heap4 (N+20) (N+17) (Ls.length+1) Ls.length (N+19) _ _ [] (by rw [XA n4.len];simp) lt4 n4.obj k4 (by rw [YP];rfl) hr4 (by rw [ag,if_neg (by omega),if_pos rfl];rfl) (by simp) _ ?_
      refine zg0 ?_
      refine q9 ?_
      refine zhh _ _ _ _ _ _ _ _ ?_
      rw [hw]
      have G:=zaR (p:=Ls.length) (q:=N+19) (L:=[]) n4 (by omega) lt4 (by omega) (by omega) k0 k1 k4 (by simp;omega) (fun k L hk=>by
        rcases Nat.lt_or_ge k Ls.length with hlt | hge
        · rw [List.getElem?_append_left hlt] at hk;exact hlens k L hk
        · rw [List.getElem?_append_right hge] at hk
          cases hd:k - Ls.length with
          | zero=>rw [hd] at hk;simp at hk;subst hk;simp
          | succ n=>rw [hd] at hk;simp at hk) (by simp) (by rw [←hnest0.len];simp)
      have eL:(Ls++[([]:List Int)]).set Ls.length ([]++[(i:Int)])=Ls++[[(i:Int)]]:=by simp
      rw [eL] at G
      refine ⟨_,_,rfl,G,?_⟩
      have hc:((i:Int)+1)=((i+1:Nat):Int):=rfl
      rw [hc]
      simp only [GS,List.length_set,List.length_append,List.length_cons,List.length_nil]
      exact Weak.refl _
    · replace hs:=zit g hs
      obtain ⟨L,hL,hs⟩:=vS hs
      cases hs
      obtain ⟨z0,z1,z2,z3,_⟩:=Jj hL
      refine Qg ?_
      refine q9 ?_
      have hql:((zp r.1 es).getD 0).toNat < qs.length:=by rw [hnest0.len];exact z2
      have hq1:qs[((zp r.1 es).getD 0).toNat]?=some qs[((zp r.1 es).getD 0).toNat]:=by simp
      have hLl:=hlens _ _ z1
      refine ky (zeU [(1,F29),(5,.mslice P 0 Ls.length),(6,.map 4),(10,vI p1),(11,vI (i:Int)),(7,vI (i:Int)),(8,vI r.1)] [(19,vB (r.1 == (i:Int)))] heap0 (N+10)) (Nat.le_refl _) ?_
      refine zeT (i:Int) r.1 _ _ heap0 (N+10) P Ls.length ((zp r.1 es).getD 0).toNat qs[((zp r.1 es).getD 0).toNat] es _ L hrl.symm hlt0 hnest0.obj g4 (by omega) (XB hq1 z1) (hnest0.tip _ _ _ hq1 z1) (by omega) _ ?_
      refine zg0 ?_
      refine q9 ?_
      refine zhh _ _ _ _ _ _ _ _ ?_
      rw [hw]
      have G:=zaR hnest0 (by omega) hlt0 hp0 hp1 g0 g1 g4 (by omega) hlens z1 hq1
      refine ⟨_,_,rfl,G,?_⟩
      have hc:((i:Int)+1)=((i+1:Nat):Int):=rfl
      rw [hc]
      simp only [GS,List.length_set,List.length_append,List.length_cons,List.length_nil]
      exact Weak.refl _
  · rintro m ⟨Ls,es,above⟩ ⟨heap,N,P,qs⟩ hok hm ho
    subst ho
    have ee:=Option.some.inj hd;subst ee
    show awp C0.plain _ _ _ ⟨[(1,F29),(5,.mslice P 0 Ls.length),(6,.map 4),(10,vI p1),(11,vI (m:Int))],heap,N⟩
    refine qH ?_
    refine jL (st':=⟨[(1,F29),(5,.mslice P 0 Ls.length),(6,.map 4),(10,vI p1),(11,vI (m:Int)),(12,vB (decide ((m:Int) < p1)))],heap,N+1⟩) [] .nil ?_ (by kernel_rfl)
    refine q9 ?_
    refine qH ?_
    refine zhx (by simp [*]) ?_
    refine XN ?_
    refine zej ?_
    refine zej ?_
    refine zir ?_
    refine q9 ?_
    refine qH ?_
    refine jL (st':=⟨[(4,.mslice P 0 Ls.length)],heap,N+3⟩) [] .nil ?_ (by kernel_rfl)
    refine q9 ?_
    refine VA ?_
    have hlt:=hok.lt
    have hmin:=hok.min
    simp only at hlt hmin
    exact ⟨_,rfl,zkU (N:=N+3) ⟨hok.nest.obj,hok.nest.tip,hok.nest.len,hok.nest.nd⟩ (by omega) (fun j o h=>by have:=hlt j o h;omega) hok.p0 hok.p1 hok.h0 hok.h1⟩
noncomputable def qy (c:ContractT):Option (List (List Int)):=
  (Option.bind (jw c) fun r1=>(bif (r1.1 == 0) then (Option.bind (forR (σ:=(List Int)) (ρ:=Unit) (c.clauses.length:Int) (fun i1 s1=>(Option.bind (zh 400 (i1:Int)) fun k1=>(Option.bind (s1[k1]?) fun e1=>some (.inl (s1.set k1 (i1:Int)))))) (List.replicate 400 0)) (Sum.elim (fun (s1:(List Int))=>(Option.bind (Xe c.acts) fun r2=>(Option.bind (forR (σ:=(List Int)×(List (Int×Int))) (ρ:=Unit) (c.clauses.length:Int) (fun i2 s2=>(Option.bind (ze c.clauses (i2:Int)) fun e2=>(Option.bind (bif r2 then (Option.bind (wv 0 (i2:Int) s2.1) fun r3=>some r3) else some s2.1) fun (v1:(List Int))=>(Option.bind (forR (σ:=(List Int)) (ρ:=Unit) (e2.start.length:Int) (fun i3 s3=>(Option.bind (ze e2.start (i3:Int)) fun e3=>(Option.bind (wv (i2:Int) e3.clause s3) fun r4=>some (.inl r4)))) v1) (Sum.elim (fun (s3:(List Int))=>(Option.bind (yz e2) fun r5=>(Option.bind (forR (σ:=(List Int)×(List (Int×Int))) (ρ:=Unit) (r5.length:Int) (fun i4 s4=>(Option.bind (Option.bind (ze r5 (i4:Int)) fun e4=>(bif (zp e4 s4.2).isSome then (Option.bind (wv ((zp e4 s4.2).getD 0) (i2:Int) s4.1) fun r6=>some (r6,s4.2)) else some (s4.1,(zQ e4 (i2:Int) s4.2)))) fun (v2:(List Int)×(List (Int×Int)))=>some (.inl (v2.1,v2.2)))) (s3,s2.2)) (Sum.elim (fun (s4:(List Int)×(List (Int×Int)))=>some (.inl (s4.1,s4.2))) (fun _=>none))))) (fun _=>none)))))) (s1,[])) (Sum.elim (fun (s2:(List Int)×(List (Int×Int)))=>(Option.bind (xH (c.clauses.length:Int) s2.1) fun r7=>some r7.1)) (fun _=>none))))) (fun _=>none))) else some []))
noncomputable def zaS (c:ContractT):Plan (List (List Int)):=
  .reg 1 (.call 1304 (ZT c) fun r1=>.use 1 1304 (.ite 1234 (r1.1 == 0) (.sel 1235 (.reg 1 (.ln 1340 ClauseT.row c.clauses (.use 2 1340 (.forR (σ:=(List Int)) (ρ:=Unit) 1236 29 (c.clauses.length:Int) (List.replicate 400 0) (.k [1,5,28] (fun _=>[]) [0] (fun s1=>[(11,.rows 1 (zb zc s1))]) 16 fun _=>(.rows rfl .nil)) (fun i1 s1=>.sel 1236 (.reg 1 (.b1 1306 (zh 400 (i1:Int)) (fun k1=>.k k1) (fun k1 hk1=>(zk hk1)) fun k1=>.b1 1308 (s1[k1]?) (fun e1=>.aw (zn (zc e1)) (zb zc (s1.set k1 (i1:Int)))) (fun e1 he1=>(zI zc (i1:Int) he1)) fun e1=>.us [(2,1306),(3,1308)] (.ret (.inl (s1.set k1 (i1:Int))))))) fun os1=>.case os1 (fun s1=>.sel 1236 (.reg 3 (.b1 1310 (Xe c.acts) (fun r2=>.c [] 0 (vB r2) [] 0) (fun r2 hr2=>(zf (zkQ c.acts r2 hr2) [] 24 .nil rhN rhN)) fun r2=>.use 2 1310 (.reg 1 (.ln 1338 ClauseT.row c.clauses (.use 2 1338 (.forR (σ:=(List Int)×(List (Int×Int))) (ρ:=Unit) 1250 45 (c.clauses.length:Int) (s1,[]) (.k [1,7,8,9,10,43,44] (fun _=>[]) [0,17] (fun s2=>[(11,.rows 1 (zb zc s2.1)),(26,.map (zD IV.i64 IV.i64 s2.2))]) 32 fun _=>(.rows rfl (.ents rfl .nil))) (fun i2 s2=>.sel 1250 (.reg 0 (.ix 1312 ClauseT.row c.clauses (i2:Int) fun e2=>.use 1 1312 (.cut (β:=(List Int)) 1 (.k [1,7,8,9,10,43,44,45,12,11] (fun _=>[]) [0,17,36] (fun v1=>[(11,.rows 1 (zb zc v1)),(26,.map (zD IV.i64 IV.i64 s2.2))]) 40 fun _=>(.rows rfl (.ents rfl .nil))) (.ite 1294 r2 (.sel 1294 (.reg 0 (.b1 1314 (wv 0 (i2:Int) s2.1) (fun r3=>.c [17,11] 2 (.tuple []) [(11,.rows 1 (zb zc r3))] 0) (fun r3 hr3=>(zf (zdk 0 (i2:Int) s2.1 r3 hr3) [17,11] 42 (.drop rfl rfl (.keep .nil)) (rhR (rhI rhN)) (rhI rhN))) fun r3=>.use 2 1314 (.ret r3)))) (.sel 1294 (.ret s2.1))) fun v1=>.reg 0 (.ln 1332 CondT.row e2.start (.use 2 1332 (.forR (σ:=(List Int)) (ρ:=Unit) 1296 57 (e2.start.length:Int) v1 (.k [1,7,8,9,10,43,44,45,12,11,55,56] (fun _=>[]) [0,17,36] (fun s3=>[(11,.rows 1 (zb zc s3)),(26,.map (zD IV.i64 IV.i64 s2.2))]) 44 fun _=>(.rows rfl (.ents rfl .nil))) (fun i3 s3=>.sel 1296 (.reg 0 (.ix 1316 CondT.row e2.start (i3:Int) fun e3=>.use 0 1316 (.reg 0 (.b1 1318 (wv (i2:Int) e3.clause s3) (fun r4=>.c [17,11] 2 (.tuple []) [(11,.rows 1 (zb zc r4))] 0) (fun r4 hr4=>(zf (zdk (i2:Int) e3.clause s3 r4 hr4) [17,11] 53 (.drop rfl rfl (.keep .nil)) (rhR (rhI rhN)) (rhI rhN))) fun r4=>.use 4 1318 (.ret (.inl r4))))))) fun os3=>.case os3 (fun s3=>.sel 1296 (.reg 0 (.call 1320 (zeR e2) fun r5=>.use 1 1320 (.ln 1330 zc r5 (.use 2 1330 (.forR (σ:=(List Int)×(List (Int×Int))) (ρ:=Unit) 1298 70 (r5.length:Int) (s3,s2.2) (.k [1,7,8,9,10,43,44,45,11,68,69] (fun _=>[]) [0,17] (fun s4=>[(11,.rows 1 (zb zc s4.1)),(26,.map (zD IV.i64 IV.i64 s4.2))]) 49 fun _=>(.rows rfl (.ents rfl .nil))) (fun i4 s4=>.sel 1298 (.cut (β:=(List Int)×(List (Int×Int))) 1 (.k [1,7,8,9,10,43,44,45,11,68,69,70] (fun _=>[]) [0,17] (fun v2=>[(11,.rows 1 (zb zc v2.1)),(26,.map (zD IV.i64 IV.i64 v2.2))]) 66 fun _=>(.rows rfl (.ents rfl .nil))) (.reg 0 (.ix 1322 zc r5 (i4:Int) fun e4=>.use 0 1322 (.reg 0 (.f1 1328 (.l (vI ((zp e4 s4.2).getD 0)) ((zp e4 s4.2).isSome)) (zeo IV.i64 0 e4 s4.2) (.use 2 1328 (.ite 1302 ((zp e4 s4.2).isSome) (.sel 1302 (.reg 0 (.b1 1324 (wv ((zp e4 s4.2).getD 0) (i2:Int) s4.1) (fun r6=>.c [17,11] 2 (.tuple []) [(11,.rows 1 (zb zc r6))] 0) (fun r6 hr6=>(zf (zdk ((zp e4 s4.2).getD 0) (i2:Int) s4.1 r6 hr6) [17,11] 65 (.drop rfl rfl (.keep .nil)) (rhR (rhI rhN)) (rhI rhN))) fun r6=>.use 3 1324 (.ret (r6,s4.2))))) (.sel 1302 (.reg 0 (.f1 1326 (.u (zD IV.i64 IV.i64 (zQ e4 (i2:Int) s4.2))) (zan IV.i64 e4 (i2:Int) s4.2) (.use 3 1326 (.ret (s4.1,(zQ e4 (i2:Int) s4.2))))))))))))) fun v2=>.ret (.inl (v2.1,v2.2)))) fun os4=>.case os4 (fun s4=>.sel 1298 (.ret (.inl (s4.1,s4.2)))) fun _=>.none)))))) fun _=>.none))))))) fun os2=>.case os2 (fun s2=>.sel 1250 (.reg 0 (.b1 1334 (xH (c.clauses.length:Int) s2.1) (fun r7=>.c [11,17] 2 (.imm (.slice (List.map (zt zc) r7.1))) [(11,.rows 1 (zb zc r7.2))] 0) (fun r7 hr7=>(zf (zgl (c.clauses.length:Int) s2.1 r7 hr7) [11,17] 37 (.keep (.drop rfl rfl .nil)) (rhI (rhR rhN)) (rhI rhN))) fun r7=>.ln 1336 ClauseT.row c.clauses (.us [(2,1336),(4,1334)] (.ret r7.1))))) fun _=>.none))))))) fun _=>.none))))) (.sel 1235 (.ret []))))
theorem kK (c:ContractT) (res:List (List Int)) (hd:qy c=some res):APure C0 13 [.agg (ContractT.row c)] (.slice (List.map (zt zc) res)):=
  Plan.pure (iv:=fun res=>.slice (List.map (zt zc) res)) (zaS c) (by kernel_rfl) (Plan.run_of hd (by kernel_rfl))
theorem YQ {α:Type} (f:α→List IV) (hf:∀ x,(f x).length=5) {l e:List α} (h:zu 48 l=some e):DOk C0 35 [.imm (.slice (List.map f l))] [] 0 (.mslice 7 0 e.length) [(7,.rows 5 (zb f e))] 8:=
  clone_ok (zero:=[.imm (.str ⟨#[]⟩),.imm (.int .i64 0),.imm (.int .i64 0),.imm (.int .i64 0),.imm (.int .i64 0)]) (show qf C0 35=some (jv 5 48 [.imm (.str ⟨#[]⟩),.imm (.int .i64 0),.imm (.int .i64 0),.imm (.int .i64 0),.imm (.int .i64 0)]).erase by kernel_rfl) f hf h
theorem YR {α:Type} (f:α→List IV) (hf:∀ x,(f x).length=7) {l e:List α} (h:zu 56 l=some e):DOk C0 36 [.imm (.slice (List.map f l))] [] 0 (.mslice 7 0 e.length) [(7,.rows 7 (zb f e))] 8:=
  clone_ok (zero:=[.imm (.int .i64 0),.imm (.int .i64 0),.imm (.int .i64 0),.imm (.int .i64 0),.imm (.int .i64 0),.imm (.int .i64 0),.imm (.int .i64 0)]) (show qf C0 36=some (jv 7 56 [.imm (.int .i64 0),.imm (.int .i64 0),.imm (.int .i64 0),.imm (.int .i64 0),.imm (.int .i64 0),.imm (.int .i64 0),.imm (.int .i64 0)]).erase by kernel_rfl) f hf h
theorem YS {α:Type} (f:α→List IV) (hf:∀ x,(f x).length=2) {l e:List α} (h:zu 16 l=some e):DOk C0 37 [.imm (.slice (List.map f l))] [] 0 (.mslice 7 0 e.length) [(7,.rows 2 (zb f e))] 8:=
  clone_ok (zero:=[.imm (.int .i64 0),.imm (.int .i64 0)]) (show qf C0 37=some (jv 2 16 [.imm (.int .i64 0),.imm (.int .i64 0)]).erase by kernel_rfl) f hf h
noncomputable def wh (c:ContractT) (clauses:List Int):Option (ContractT×Int):=
  (Option.bind (jw c) fun r1=>(bif (r1.1 == 0) then (Option.bind (forR (σ:=Int) (ρ:=Unit) (clauses.length:Int) (fun i1 s1=>(Option.bind (ze clauses (i1:Int)) fun e1=>(Option.bind (bif decide (e1≤s1) then some true else some (decide ((c.clauses.length:Int)≤e1))) fun v1=>(bif v1 then some (.inr ()) else some (.inl e1))))) (-1)) (Sum.elim (fun (s1:Int)=>(Option.bind (zu 8 c.holders) fun e2=>(Option.bind (zu 48 c.units) fun e3=>(Option.bind (zu 56 c.acts) fun e4=>(Option.bind (zu 8 c.off) fun e5=>(Option.bind (mkN 136 (clauses.length:Int)) fun k1=>(Option.bind (forR (σ:=(List ClauseT)) (ρ:=Unit) (clauses.length:Int) (fun i2 s2=>(Option.bind (ze clauses (i2:Int)) fun e6=>(Option.bind (ze c.clauses e6) fun e7=>(Option.bind (zu 16 e7.start) fun e8=>(Option.bind (forR (σ:=(List CondT)) (ρ:=Unit) (e8.length:Int) (fun i3 s3=>(Option.bind (zh e8.length (i3:Int)) fun k2=>(Option.bind (s3[k2]?) fun e9=>(Option.bind (qC clauses e9.clause) fun r2=>(bif r2.2 then (Option.bind (zh e8.length (i3:Int)) fun k3=>(Option.bind (s3[k3]?) fun e10=>some (.inl (s3.set k3 ({clause:=r2.1,is:=e10.is}:CondT))))) else some (.inr ())))))) e8) (Sum.elim (fun (s3:(List CondT))=>(Option.bind (zh k1 (i2:Int)) fun k4=>(Option.bind (s2[k4]?) fun e11=>some (.inl (s2.set k4 ({e7 with start:=List.take e8.length s3}:ClauseT)))))) (fun (y2:Unit)=>some (.inr ())))))))) (List.replicate k1 ({kind:=0,role:=0,act:=0,need:=0,start:=[],after:=0,grace:=0,business:=false,final:=false,pause:=0,resume:=0,value:=({num:=0,den:=0}:Ratio),unit:=0,to:=0,waived:=false}:ClauseT))) (Sum.elim (fun (s2:(List ClauseT))=>(Option.bind (eqN k1 s2.length) fun g1=>some (({parties:=c.parties,holders:=e2,units:=e3,acts:=e4,clauses:=s2,days:=c.days,off:=e5}:ContractT),0))) (fun (y3:Unit)=>some (({parties:=0,holders:=[],units:=[],acts:=[],clauses:=[],days:=0,off:=[]}:ContractT),1)))))))))) (fun (y1:Unit)=>some (({parties:=0,holders:=[],units:=[],acts:=[],clauses:=[],days:=0,off:=[]}:ContractT),1)))) else some (({parties:=0,holders:=[],units:=[],acts:=[],clauses:=[],days:=0,off:=[]}:ContractT),1)))
noncomputable def zi8 (c:ContractT) (clauses:List Int):Plan (ContractT×Int):=
  .reg 1 (.call 1366 (ZT c) fun r1=>.use 1 1366 (.ite 1344 (r1.1 == 0) (.sel 1345 (.reg 1 (.ln 1406 zc clauses (.use 1 1406 (.forR (σ:=Int) (ρ:=Unit) 1346 28 (clauses.length:Int) (-1) (.e [1,2,4,26,27] (fun s1=>[(8,vI s1)]) [0,1] 16) (fun i1 s1=>.sel 1346 (.reg 0 (.ix 1368 zc clauses (i1:Int) fun e1=>.use 0 1368 (.cut (β:=Bool) 2 (.e [1,2,4,26,27,28,10] (fun v1=>[(41,vB v1)]) [0,1] 30) (.reg 0 (.ite 1348 (decide (e1≤s1)) (.use 4 1348 (.ret true)) (.use 4 1348 (.ln 1370 ClauseT.row c.clauses (.use 7 1370 (.ret (decide ((c.clauses.length:Int)≤e1)))))))) fun v1=>.ite 1350 v1 (.sel 1350 (.ret (.inr ()))) (.sel 1350 (.ret (.inl e1))))))) fun os1=>.case os1 (fun s1=>.sel 1346 (.reg 1 (.b1 1372 (zu 8 c.holders) (fun e2=>.c [] 0 (.mslice 29 0 e2.length) [(29,.rows 1 (zb zc e2))] 8) (fun e2 he2=>(zf (jX zc (fun _=>rfl) he2) [] 22 (.keep .nil) rhN (rhI rhN))) fun e2=>.use 2 1372 (.reg 0 (.b1 1374 (zu 48 c.units) (fun e3=>.c [] 0 (.mslice 42 0 e3.length) [(42,.rows 5 (zb UnitT.row e3))] 8) (fun e3 he3=>(zf (YQ UnitT.row (fun _=>rfl) he3) [] 35 (.keep .nil) rhN (rhI rhN))) fun e3=>.use 2 1374 (.reg 0 (.b1 1376 (zu 56 c.acts) (fun e4=>.c [] 0 (.mslice 55 0 e4.length) [(55,.rows 7 (zb ActT.row e4))] 8) (fun e4 he4=>(zf (YR ActT.row (fun _=>rfl) he4) [] 48 (.keep .nil) rhN (rhI rhN))) fun e4=>.use 2 1376 (.reg 0 (.b1 1378 (zu 8 c.off) (fun e5=>.c [] 0 (.mslice 68 0 e5.length) [(68,.rows 1 (zb zc e5))] 8) (fun e5 he5=>(zf (jX zc (fun _=>rfl) he5) [] 61 (.keep .nil) rhN (rhI rhN))) fun e5=>.use 2 1378 (.reg 0 (.b1 1380 (mkN 136 (clauses.length:Int)) (fun k1=>.m k1 (List.replicate k1 [vI 0,vI 0,vI 0,vI 0,.nil,vI 0,vI 0,vB false,vB false,vI 0,vI 0,vI 0,vI 0,vI 0,vI 0,vB false])) (fun k1 hk1=>(Jm [vI 0,vI 0,vI 0,vI 0,.nil,vI 0,vI 0,vB false,vB false,vI 0,vI 0,vI 0,vI 0,vI 0,vI 0,vB false] hk1)) fun k1=>.ln 1404 zc clauses (.us [(1,1404),(2,1380)] (.weak 0 [zhf 74 16 k1 [vI 0,vI 0,vI 0,vI 0,.nil,vI 0,vI 0,vB false,vB false,vI 0,vI 0,vI 0,vI 0,vI 0,vI 0,vB false] ClauseT.row ({kind:=0,role:=0,act:=0,need:=0,start:=[],after:=0,grace:=0,business:=false,final:=false,pause:=0,resume:=0,value:=({num:=0,den:=0}:Ratio),unit:=0,to:=0,waived:=false}:ClauseT) (.cons (.refl _) (.cons (.refl _) (.cons (.refl _) (.cons (.refl _) (.cons .nil (.cons (.refl _) (.cons (.refl _) (.cons (.refl _) (.cons (.refl _) (.cons (.refl _) (.cons (.refl _) (.cons (.refl _) (.cons (.refl _) (.cons (.refl _) (.cons (.refl _) (.cons (.refl _) .nil))))))))))))))))] (.reg 0 (.ln 1402 zc clauses (.use 1 1402 (.forR (σ:=(List ClauseT)) (ρ:=Unit) 1352 68 (clauses.length:Int) (List.replicate k1 ({kind:=0,role:=0,act:=0,need:=0,start:=[],after:=0,grace:=0,business:=false,final:=false,pause:=0,resume:=0,value:=({num:=0,den:=0}:Ratio),unit:=0,to:=0,waived:=false}:ClauseT)) (.k [1,2,4,11,66,67] (fun _=>[]) [0,1,18] (fun s2=>[(29,.rows 1 (zb zc e2)),(42,.rows 5 (zb UnitT.row e3)),(55,.rows 7 (zb ActT.row e4)),(68,.rows 1 (zb zc e5)),(74,.rows 16 (zb ClauseT.row s2))]) 80 fun _=>(.rows rfl (.rows rfl (.rows rfl (.rows rfl (.rows rfl .nil)))))) (fun i2 s2=>.sel 1352 (.reg 0 (.ix 1382 zc clauses (i2:Int) fun e6=>.use 1 1382 (.reg 0 (.ix 1384 ClauseT.row c.clauses e6 fun e7=>.use 3 1384 (.reg 0 (.b1 1386 (zu 16 e7.start) (fun e8=>.c [] 0 (.mslice 102 0 e8.length) [(102,.rows 2 (zb CondT.row e8))] 8) (fun e8 he8=>(zf (YS CondT.row (fun _=>rfl) he8) [] 95 (.keep .nil) rhN (rhI rhN))) fun e8=>.use 2 1386 (.forR (σ:=(List CondT)) (ρ:=Unit) 1360 85 (e8.length:Int) e8 (.k [1,2,4,11,66,67,68,12,14,84] (fun _=>[]) [0,1,18,91] (fun s3=>[(29,.rows 1 (zb zc e2)),(42,.rows 5 (zb UnitT.row e3)),(55,.rows 7 (zb ActT.row e4)),(68,.rows 1 (zb zc e5)),(74,.rows 16 (zb ClauseT.row s2)),(102,.rows 2 (zb CondT.row s3))]) 110 fun _=>(.rows rfl (.rows rfl (.rows rfl (.rows rfl (.rows rfl (.rows rfl .nil))))))) (fun i3 s3=>.sel 1360 (.reg 1 (.b1 1388 (zh e8.length (i3:Int)) (fun k2=>.k k2) (fun k2 hk2=>(zk hk2)) fun k2=>.b1 1390 (s3[k2]?) (fun e9=>.ar (zn (CondT.row e9))) (fun e9 he9=>(zH CondT.row he9)) fun e9=>.call 1392 (vA clauses e9.clause) fun r2=>.us [(4,1388),(6,1390),(7,1392)] (.ite 1364 r2.2 (.sel 1365 (.reg 0 (.b1 1394 (zh e8.length (i3:Int)) (fun k3=>.k k3) (fun k3 hk3=>(zk hk3)) fun k3=>.b1 1396 (s3[k3]?) (fun e10=>.aw (zn (CondT.row e10)) (zb CondT.row (s3.set k3 ({clause:=r2.1,is:=e10.is}:CondT)))) (fun e10 he10=>(zI CondT.row ({clause:=r2.1,is:=e10.is}:CondT) he10)) fun e10=>.us [(4,1394),(6,1396)] (.ret (.inl (s3.set k3 ({clause:=r2.1,is:=e10.is}:CondT))))))) (.sel 1365 (.ret (.inr ()))))))) fun os3=>.case os3 (fun s3=>.sel 1360 (.weak 0 [zc5 102 2 [91] CondT.row s3 e8.length] (.reg 0 (.b1 1398 (zh k1 (i2:Int)) (fun k4=>.k k4) (fun k4 hk4=>(zk hk4)) fun k4=>.b1 1400 (s2[k4]?) (fun e11=>.aw (zn (ClauseT.row e11)) (zb ClauseT.row (s2.set k4 ({e7 with start:=List.take e8.length s3}:ClauseT)))) (fun e11 he11=>(zI ClauseT.row ({e7 with start:=List.take e8.length s3}:ClauseT) he11)) fun e11=>.us [(4,1398),(5,1400)] (.ret (.inl (s2.set k4 ({e7 with start:=List.take e8.length s3}:ClauseT)))))))) fun y2=>.ret (.inr ()))))))))) fun os2=>.case os2 (fun s2=>.sel 1352 (.bind (eqN k1 s2.length) (fun _=>[]) (fun _ _=>.nil) fun g2=>.fin [29,42,55,74,68] (.tuple [.agg [vI c.parties,.mslice 29 0 e2.length,.mslice 42 0 e3.length,.mslice 55 0 e4.length,.mslice 74 0 k1,vI c.days,.mslice 68 0 e5.length],vI 0]) [(29,.rows 1 (zb zc e2)),(42,.rows 5 (zb UnitT.row e3)),(55,.rows 7 (zb ActT.row e4)),(74,.rows 16 (zb ClauseT.row s2)),(68,.rows 1 (zb zc e5))] (.tuple [.agg (ContractT.row ((({parties:=c.parties,holders:=e2,units:=e3,acts:=e4,clauses:=s2,days:=c.days,off:=e5}:ContractT),0).1)),.int .i64 ((({parties:=c.parties,holders:=e2,units:=e3,acts:=e4,clauses:=s2,days:=c.days,off:=e5}:ContractT),0).2)]) (ju _ _ _ (zz (zcT (zz (yS (zz (qv _) (zz (wT zc 29 1 e2 rfl) (zz (wT UnitT.row 42 5 e3 rfl) (zz (wT ActT.row 55 7 e4 rfl) (zz (xa ClauseT.row 74 16 k1 s2 g2.down rfl) (zz (qv _) (zz (wT zc 68 1 e5 rfl) qS)))))))) (zz (qv _) qS))) qS)) (({parties:=c.parties,holders:=e2,units:=e3,acts:=e4,clauses:=s2,days:=c.days,off:=e5}:ContractT),0))) fun y3=>.ret (({parties:=0,holders:=[],units:=[],acts:=[],clauses:=[],days:=0,off:=[]}:ContractT),1)))))))))))))))))) fun y1=>.ret (({parties:=0,holders:=[],units:=[],acts:=[],clauses:=[],days:=0,off:=[]}:ContractT),1)))))) (.sel 1345 (.ret (({parties:=0,holders:=[],units:=[],acts:=[],clauses:=[],days:=0,off:=[]}:ContractT),1)))))
theorem Va (c:ContractT) (clauses:List Int) (res:ContractT×Int) (hd:wh c clauses=some res):APure C0 15 [.agg (ContractT.row c),.slice (List.map zc clauses)] (.tuple [.agg (ContractT.row res.1),.int .i64 res.2]):=
  Plan.pure (iv:=fun res=>.tuple [.agg (ContractT.row res.1),.int .i64 res.2]) (zi8 c clauses) (by kernel_rfl) (Plan.run_of hd (by kernel_rfl))
theorem QF {α:Type} (f:α→List IV) (hf:∀ x,(f x).length=1) {l e:List α} (h:zu 1 l=some e):DOk C0 121 [.imm (.slice (List.map f l))] [] 0 (.mslice 7 0 e.length) [(7,.rows 1 (zb f e))] 8:=
  clone_ok (zero:=[.imm (.bool false)]) (show qf C0 121=some (jv 1 1 [.imm (.bool false)]).erase by kernel_rfl) f hf h
noncomputable def jd (clauses:List Int) (s:StateT):Option StateT:=
  (Option.bind (zu 8 s.holders) fun e1=>(Option.bind (zu 1 s.used) fun e2=>(Option.bind (forR (σ:=(List MarkT)) (ρ:=Unit) (clauses.length:Int) (fun i1 s1=>(Option.bind (ze clauses (i1:Int)) fun e3=>(Option.bind (ze s.marks e3) fun e4=>(Option.bind (qt (α:=MarkT) 40 s1 [e4]) fun e5=>some (.inl e5))))) []) (Sum.elim (fun (s1:(List MarkT))=>some ({day:=s.day,holders:=e1,used:=e2,marks:=s1}:StateT)) (fun _=>none)))))
noncomputable def zaT (clauses:List Int) (s:StateT):Plan StateT:=
  .reg 1 (.b1 1412 (zu 8 s.holders) (fun e1=>.c [] 0 (.mslice 20 0 e1.length) [(20,.rows 1 (zb zc e1))] 8) (fun e1 he1=>(zf (jX zc (fun _=>rfl) he1) [] 13 (.keep .nil) rhN (rhI rhN))) fun e1=>.b1 1414 (zu 1 s.used) (fun e2=>.c [] 0 (.mslice 28 0 e2.length) [(28,.rows 1 (zb zg e2))] 8) (fun e2 he2=>(zf (QF zg (fun _=>rfl) he2) [] 21 (.keep .nil) rhN (rhI rhN))) fun e2=>.us [(4,1412),(7,1414)] (.reg 0 (.ln 1422 zc clauses (.use 1 1422 (.weak 1 [Xb 11 5 0 3] (.forR (σ:=(List MarkT)) (ρ:=Unit) 1410 19 (clauses.length:Int) [] (.k [3,4,5,17,18] (fun _=>[]) [0,1] (fun s1=>[(20,.rows 1 (zb zc e1)),(28,.rows 1 (zb zg e2)),(11,.rows 4 [[vI s.day,.mslice 20 0 e1.length,.mslice 28 0 e2.length,.gslice 32 (List.map MarkT.row s1)]]),(32,.tip 5 s1.length)]) 33 fun _=>(.rows rfl (.rows rfl (.exp rfl rfl (.exp rfl rfl .nil))))) (fun i1 s1=>.sel 1410 (.reg 0 (.ix 1416 zc clauses (i1:Int) fun e3=>.use 0 1416 (.reg 0 (.ix 1418 MarkT.row s.marks e3 fun e4=>.b1 1420 (qt (α:=MarkT) 40 s1 [e4]) (fun e5=>.a (List.map MarkT.row e5) e5.length) (fun e5 he5=>(jA MarkT.row 5 40 (fun _=>rfl) he5)) fun e5=>.us [(5,1418),(8,1420)] (.ret (.inl e5))))))) fun os1=>.case os1 (fun s1=>.sel 1410 (.fin [20,28,32] (.agg [vI s.day,.mslice 20 0 e1.length,.mslice 28 0 e2.length,.gslice 32 (List.map MarkT.row s1)]) [(20,.rows 1 (zb zc e1)),(28,.rows 1 (zb zg e2)),(32,.tip 5 s1.length)] (.agg (StateT.row ({day:=s.day,holders:=e1,used:=e2,marks:=s1}:StateT))) (ju _ _ _ (zz (yS (zz (qv _) (zz (wT zc 20 1 e1 rfl) (zz (wT zg 28 1 e2 rfl) (zz (zkp _ _) qS))))) qS)) ({day:=s.day,holders:=e1,used:=e2,marks:=s1}:StateT))) fun _=>.none))))))
theorem kL (clauses:List Int) (s:StateT) (res:StateT) (hd:jd clauses s=some res):APure C0 176 [.slice (List.map zc clauses),.agg (StateT.row s)] (.agg (StateT.row res)):=
  Plan.pure (iv:=fun res=>.agg (StateT.row res)) (zaT clauses s) (by kernel_rfl) (Plan.run_of hd (by kernel_rfl))
noncomputable def wX (c:ContractT) (party:Int) (p:PosT):Option Bool:=
  (Option.bind (bif decide (0≤party) then (bif decide (party < c.parties) then (Option.bind (qT c p.state) fun r1=>some r1) else some false) else some false) fun v1=>some v1)
noncomputable def zdl (c:ContractT) (party:Int) (p:PosT):Plan Bool:=
  .cut (β:=Bool) 2 (.e [] (fun v1=>[(6,vB v1)]) [0,1] 18) (.reg 0 (.ite 1424 (decide (0≤party)) (.ite 1426 (decide (party < c.parties)) (.call 1428 (wy c p.state) fun r1=>.us [(3,1424),(9,1426),(12,1428)] (.ret r1)) (.us [(3,1424),(9,1426)] (.ret false))) (.use 3 1424 (.f1 1430 (.g false) (rfl:false=false) (.use 9 1430 (.ret false)))))) fun v1=>.ret v1
theorem zdm (c:ContractT) (party:Int) (p:PosT) (res:Bool) (hd:wX c party p=some res):APure C0 80 [.agg (ContractT.row c),.int .i64 party,.agg (PosT.row p)] (.bool res):=
  Plan.pure (iv:=fun res=>.bool res) (zdl c party p) (by kernel_rfl) (Plan.run_of hd (by kernel_rfl))
theorem zdn {α:Type} (f:α→List IV) (hf:∀ x,(f x).length=5) {l e:List α} (h:zu 40 l=some e):DOk C0 122 [.imm (.slice (List.map f l))] [] 0 (.mslice 7 0 e.length) [(7,.rows 5 (zb f e))] 8:=
  clone_ok (zero:=[.imm (.int .i64 0),.imm (.int .i64 0),.imm (.int .i64 0),.imm (.int .i64 0),.imm (.bool false)]) (show qf C0 122=some (jv 5 40 [.imm (.int .i64 0),.imm (.int .i64 0),.imm (.int .i64 0),.imm (.int .i64 0),.imm (.bool false)]).erase by kernel_rfl) f hf h
noncomputable def wz (s:StateT):Option StateT:=
  (Option.bind (zu 8 s.holders) fun e1=>(Option.bind (zu 1 s.used) fun e2=>(Option.bind (zu 40 s.marks) fun e3=>some ({day:=s.day,holders:=e1,used:=e2,marks:=e3}:StateT))))
noncomputable def zgm (s:StateT):Plan StateT:=
  .reg 1 (.b1 1434 (zu 8 s.holders) (fun e1=>.c [] 0 (.mslice 24 0 e1.length) [(24,.rows 1 (zb zc e1))] 8) (fun e1 he1=>(zf (jX zc (fun _=>rfl) he1) [] 17 (.keep .nil) rhN (rhI rhN))) fun e1=>.b1 1436 (zu 1 s.used) (fun e2=>.c [] 0 (.mslice 32 0 e2.length) [(32,.rows 1 (zb zg e2))] 8) (fun e2 he2=>(zf (QF zg (fun _=>rfl) he2) [] 25 (.keep .nil) rhN (rhI rhN))) fun e2=>.b1 1438 (zu 40 s.marks) (fun e3=>.c [] 0 (.mslice 40 0 e3.length) [(40,.rows 5 (zb MarkT.row e3))] 8) (fun e3 he3=>(zf (zdn MarkT.row (fun _=>rfl) he3) [] 33 (.keep .nil) rhN (rhI rhN))) fun e3=>.us [(2,1434),(5,1436),(8,1438)] (.fin [24,32,40] (.agg [vI s.day,.mslice 24 0 e1.length,.mslice 32 0 e2.length,.mslice 40 0 e3.length]) [(24,.rows 1 (zb zc e1)),(32,.rows 1 (zb zg e2)),(40,.rows 5 (zb MarkT.row e3))] (.agg (StateT.row ({day:=s.day,holders:=e1,used:=e2,marks:=e3}:StateT))) (ju _ _ _ (zz (yS (zz (qv _) (zz (wT zc 24 1 e1 rfl) (zz (wT zg 32 1 e2 rfl) (zz (wT MarkT.row 40 5 e3 rfl) qS))))) qS)) ({day:=s.day,holders:=e1,used:=e2,marks:=e3}:StateT)))
theorem zaU (s:StateT) (res:StateT) (hd:wz s=some res):APure C0 77 [.agg (StateT.row s)] (.agg (StateT.row res)):=
  Plan.pure (iv:=fun res=>.agg (StateT.row res)) (zgm s) (by kernel_rfl) (Plan.run_of hd (by kernel_rfl))
noncomputable def Vb (p1:ContractT) (p2:Int) (p3:PosT):Option Unit:=
  some ()
noncomputable def zkV (p1:ContractT) (p2:Int) (p3:PosT):Plan Unit:=
  .ret ()
theorem zkW (p1:ContractT) (p2:Int) (p3:PosT) (res:Unit) (hd:Vb p1 p2 p3=some res):DOk C0 78 [.agg (zn (ContractT.row p1)),vI p2,.imm (.agg [.int .i64 p3.state.day,.slice (List.map zc p3.state.holders),.slice (List.map zg p3.state.used),.slice (List.map MarkT.row p3.state.marks),.bool p3.own])] [] 0 (.func 79 [] [.ptr 2 0 0,.ptr 0 0 0,.ptr 1 0 0]) [(0,.rows 7 [zn (ContractT.row p1)]),(1,.rows 1 [[vI p2]]),(2,.rows 5 [zn (PosT.row p3)])] 3:=
  Plan.det (R:=fun res=>.func 79 [] [.ptr 2 0 0,.ptr 0 0 0,.ptr 1 0 0]) (H:=fun res=>[(0,.rows 7 [zn (ContractT.row p1)]),(1,.rows 1 [[vI p2]]),(2,.rows 5 [zn (PosT.row p3)])]) (zkV p1 p2 p3) .nil (fun _=>(.exp rfl rfl (.exp rfl rfl (.exp rfl rfl .nil)))) (by kernel_rfl) (fun _=>by kernel_rfl) (by kernel_rfl) (Plan.run_of hd (by kernel_rfl))
noncomputable def Kz (a:List Int) (b:List Int):Option Bool:=
  (bif ((a.length:Int) == (b.length:Int)) then (Option.bind (forR (σ:=Unit) (ρ:=Unit) (a.length:Int) (fun i1 s1=>(Option.bind (ze a (i1:Int)) fun e1=>(Option.bind (ze b (i1:Int)) fun e2=>(bif (e1 == e2) then some (.inl ()) else some (.inr ()))))) ()) (Sum.elim (fun (s1:Unit)=>some true) (fun (y1:Unit)=>some false))) else some false)
noncomputable def zkX (a:List Int) (b:List Int):Plan Bool:=
  .reg 1 (.ln 1498 zc a (.use 1 1498 (.ln 1496 zc b (.use 3 1496 (.ite 1484 ((a.length:Int) == (b.length:Int)) (.sel 1485 (.reg 0 (.ln 1494 zc a (.use 1 1494 (.forR (σ:=Unit) (ρ:=Unit) 1486 13 (a.length:Int) () (.e [0,1,12] (fun _=>[]) [] 9) (fun i1 s1=>.sel 1486 (.reg 1 (.ix 1490 zc a (i1:Int) fun e1=>.ix 1492 zc b (i1:Int) fun e2=>.us [(2,1490),(6,1492)] (.ite 1488 (e1 == e2) (.sel 1489 (.ret (.inl ()))) (.sel 1489 (.ret (.inr ()))))))) fun os1=>.case os1 (fun s1=>.sel 1486 (.ret true)) fun y1=>.ret false))))) (.sel 1485 (.ret false)))))))
theorem zkY (a:List Int) (b:List Int) (res:Bool) (hd:Kz a b=some res):APure C0 125 [.slice (List.map zc a),.slice (List.map zc b)] (.bool res):=
  Plan.pure (iv:=fun res=>.bool res) (zkX a b) (by kernel_rfl) (Plan.run_of hd (by kernel_rfl))
noncomputable def KB (a:List Bool) (b:List Bool):Option Bool:=
  (bif ((a.length:Int) == (b.length:Int)) then (Option.bind (forR (σ:=Unit) (ρ:=Unit) (a.length:Int) (fun i1 s1=>(Option.bind (ze a (i1:Int)) fun e1=>(Option.bind (ze b (i1:Int)) fun e2=>(bif (e1 == e2) then some (.inl ()) else some (.inr ()))))) ()) (Sum.elim (fun (s1:Unit)=>some true) (fun (y1:Unit)=>some false))) else some false)
noncomputable def zkZ (a:List Bool) (b:List Bool):Plan Bool:=
  .reg 1 (.ln 1516 zg a (.use 1 1516 (.ln 1514 zg b (.use 3 1514 (.ite 1502 ((a.length:Int) == (b.length:Int)) (.sel 1503 (.reg 0 (.ln 1512 zg a (.use 1 1512 (.forR (σ:=Unit) (ρ:=Unit) 1504 13 (a.length:Int) () (.e [0,1,12] (fun _=>[]) [] 9) (fun i1 s1=>.sel 1504 (.reg 1 (.ix 1508 zg a (i1:Int) fun e1=>.ix 1510 zg b (i1:Int) fun e2=>.us [(2,1508),(6,1510)] (.ite 1506 (e1 == e2) (.sel 1507 (.ret (.inl ()))) (.sel 1507 (.ret (.inr ()))))))) fun os1=>.case os1 (fun s1=>.sel 1504 (.ret true)) fun y1=>.ret false))))) (.sel 1503 (.ret false)))))))
theorem zk0 (a:List Bool) (b:List Bool) (res:Bool) (hd:KB a b=some res):APure C0 123 [.slice (List.map zg a),.slice (List.map zg b)] (.bool res):=
  Plan.pure (iv:=fun res=>.bool res) (zkZ a b) (by kernel_rfl) (Plan.run_of hd (by kernel_rfl))
noncomputable def KC (a:List MarkT) (b:List MarkT):Option Bool:=
  (bif ((a.length:Int) == (b.length:Int)) then (Option.bind (forR (σ:=Unit) (ρ:=Unit) (a.length:Int) (fun i1 s1=>(Option.bind (ze a (i1:Int)) fun e1=>(Option.bind (ze b (i1:Int)) fun e2=>(bif ((e1.status == e2.status)&&((e1.left == e2.left)&&((e1.got == e2.got)&&((e1.bearer == e2.bearer)&&((e1.paused == e2.paused)&&true))))) then some (.inl ()) else some (.inr ()))))) ()) (Sum.elim (fun (s1:Unit)=>some true) (fun (y1:Unit)=>some false))) else some false)
noncomputable def zk1 (a:List MarkT) (b:List MarkT):Plan Bool:=
  .reg 1 (.ln 1534 MarkT.row a (.use 1 1534 (.ln 1532 MarkT.row b (.use 3 1532 (.ite 1520 ((a.length:Int) == (b.length:Int)) (.sel 1521 (.reg 0 (.ln 1530 MarkT.row a (.use 1 1530 (.forR (σ:=Unit) (ρ:=Unit) 1522 13 (a.length:Int) () (.e [0,1,12] (fun _=>[]) [] 9) (fun i1 s1=>.sel 1522 (.reg 1 (.ix 1526 MarkT.row a (i1:Int) fun e1=>.ix 1528 MarkT.row b (i1:Int) fun e2=>.us [(2,1526),(6,1528)] (.ite 1524 ((e1.status == e2.status)&&((e1.left == e2.left)&&((e1.got == e2.got)&&((e1.bearer == e2.bearer)&&((e1.paused == e2.paused)&&true))))) (.sel 1525 (.ret (.inl ()))) (.sel 1525 (.ret (.inr ()))))))) fun os1=>.case os1 (fun s1=>.sel 1522 (.ret true)) fun y1=>.ret false))))) (.sel 1521 (.ret false)))))))
theorem zk2 (a:List MarkT) (b:List MarkT) (res:Bool) (hd:KC a b=some res):APure C0 124 [.slice (List.map MarkT.row a),.slice (List.map MarkT.row b)] (.bool res):=
  Plan.pure (iv:=fun res=>.bool res) (zk1 a b) (by kernel_rfl) (Plan.run_of hd (by kernel_rfl))
noncomputable def ZW (a:StateT) (b:StateT):Option Bool:=
  (Option.bind (bif (a.day == b.day) then (Option.bind (Kz a.holders b.holders) fun r1=>(bif r1 then (Option.bind (KB a.used b.used) fun r2=>(bif r2 then (Option.bind (KC a.marks b.marks) fun r3=>some r3) else some false)) else some false)) else some false) fun v1=>some v1)
noncomputable def zhP (a:StateT) (b:StateT):Plan Bool:=
  .cut (β:=Bool) 2 (.e [] (fun v1=>[(4,vB v1)]) [0,1] 30) (.reg 0 (.ite 1482 (a.day == b.day) (.call 1536 (zkY a.holders b.holders) fun r1=>.ite 1500 r1 (.call 1538 (zk0 a.used b.used) fun r2=>.ite 1518 r2 (.call 1540 (zk2 a.marks b.marks) fun r3=>.us [(6,1482),(10,1536),(13,1500),(17,1538),(20,1518),(24,1540)] (.ret r3)) (.us [(6,1482),(10,1536),(13,1500),(17,1538),(20,1518)] (.ret false))) (.us [(6,1482),(10,1536),(13,1500)] (.f1 1542 (.g false) (rfl:false=false) (.use 20 1542 (.ret false))))) (.use 6 1482 (.f1 1546 (.g false) (rfl:false=false) (.use 13 1546 (.f1 1544 (.g false) (rfl:false=false) (.use 20 1544 (.ret false)))))))) fun v1=>.ret v1
theorem zhQ (a:StateT) (b:StateT) (res:Bool) (hd:ZW a b=some res):APure C0 99 [.agg (StateT.row a),.agg (StateT.row b)] (.bool res):=
  Plan.pure (iv:=fun res=>.bool res) (zhP a b) (by kernel_rfl) (Plan.run_of hd (by kernel_rfl))
end Go.Proofs.YtjkljacdbljkpaaGreatDoor
