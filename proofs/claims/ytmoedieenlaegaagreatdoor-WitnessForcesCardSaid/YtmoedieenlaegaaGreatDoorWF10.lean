/-
  Functions of the program: what they compute, and plans of their code that the kernel checks (printed by a program of ours).
  What 'contract.Valid' comes to.
  What Valid says.
  What 'slices.BinarySearch' comes to; sizes of valid contracts.
  What 'system.Valid' comes to.
  What is known of a valid contract; what 'start' does.
-/
import Derived.Test.YtmoedieenlaegaaGreatDoorWF09
import Derived.Test.YtmoedieenlaegaaGreatDoorWF06
namespace Go.Proofs.YtmoedieenlaegaaGreatDoor
open Go.RowKit
set_option linter.unusedSimpArgs false
set_option linter.unusedVariables false
set_option maxRecDepth 100000
noncomputable def Xd (p1:List Int) (p2:PosT) (p3:ContractT) (p4:Int) (p5:List (ByteArray×Int)):Option Bool:=
  (Option.bind (Xc p1 p2 p3 p4 p5) fun r1=>some (decide (0≤r1)))
noncomputable def zhz (p1:List Int) (p2:PosT) (p3:ContractT) (p4:Int) (p5:List (ByteArray×Int)):Plan Bool:=
  .reg 1 (.b1 2038 (Xc p1 p2 p3 p4 p5) (fun r1=>.c [0,1,2,3,4] 5 (vI r1) [] 0) (fun r1 hr1=>(zh (zhy p1 p2 p3 p4 p5 r1 hr1) [0,1,2,3,4] 8 (.drop rfl rfl (.drop rfl rfl (.drop rfl rfl (.drop rfl rfl (.drop rfl rfl .nil))))) (rhI (rhR (rhR (rhR (rhM rhN))))) rhN)) fun r1=>.use 2 2038 (.ret (decide (0≤r1))))
theorem zhA (p1:List Int) (p2:PosT) (p3:ContractT) (p4:Int) (p5:List (ByteArray×Int)) (res:Bool) (hd:Xd p1 p2 p3 p4 p5=some res):DOk C0 26 [.mslice 0 0 p1.length,.func 231 [] [.ptr 1 0 0,.ptr 2 0 0]] [(0,.rows 1 (zc zb p1)),(1,.rows 1 [[.ptr 3 0 0]]),(2,.rows 5 [zl (PosT.row p2)]),(3,.rows 9 [[vI p3.parties,.imm (.slice (List.map zb p3.holders)),.imm (.slice (List.map UnitT.row p3.units)),.imm (.slice (List.map ActT.row p3.acts)),.imm (.slice (List.map ClauseT.row p3.clauses)),vI p3.days,.imm (.slice (List.map zb p3.off)),vI p4,.map 4]]),(4,.map (zk IV.str IV.i64 p5))] 5 (vB res) [(0,.rows 1 (zc zb p1)),(1,.rows 1 [[.ptr 3 0 0]]),(2,.rows 5 [zl (PosT.row p2)]),(3,.rows 9 [[vI p3.parties,.imm (.slice (List.map zb p3.holders)),.imm (.slice (List.map UnitT.row p3.units)),.imm (.slice (List.map ActT.row p3.acts)),.imm (.slice (List.map ClauseT.row p3.clauses)),vI p3.days,.imm (.slice (List.map zb p3.off)),vI p4,.map 4]]),(4,.map (zk IV.str IV.i64 p5))] 0:=
  Plan.det (R:=fun res=>vB res) (H:=fun res=>[(0,.rows 1 (zc zb p1)),(1,.rows 1 [[.ptr 3 0 0]]),(2,.rows 5 [zl (PosT.row p2)]),(3,.rows 9 [[vI p3.parties,.imm (.slice (List.map zb p3.holders)),.imm (.slice (List.map UnitT.row p3.units)),.imm (.slice (List.map ActT.row p3.acts)),.imm (.slice (List.map ClauseT.row p3.clauses)),vI p3.days,.imm (.slice (List.map zb p3.off)),vI p4,.map 4]]),(4,.map (zk IV.str IV.i64 p5))]) (zhz p1 p2 p3 p4 p5) (.rows rfl (.exp rfl rfl (.exp rfl rfl (.exp rfl rfl (.ents rfl .nil))))) (fun _=>(.rows rfl (.exp rfl rfl (.exp rfl rfl (.exp rfl rfl (.ents rfl .nil)))))) (by kernel_rfl) (fun _=>by kernel_rfl) (by kernel_rfl) (Plan.run_of hd (by kernel_rfl))
noncomputable def Xe (p1:List Int) (p2:PosT) (p3:ContractT) (p4:Int) (p5:List (ByteArray×Int)):Option Int:=
  (Option.bind (forR (σ:=Unit) (ρ:=Int) (p1.length:Int) (fun i1 s1=>(Option.bind (ze p1 (i1:Int)) fun e1=>(Option.bind (yn e1 p2 p3 p4 p5) fun r1=>(bif r1 then some (.inr (i1:Int)) else some (.inl ()))))) ()) (Sum.elim (fun (s1:Unit)=>some (-1)) (fun (y1:Int)=>some y1)))
noncomputable def zhB (p1:List Int) (p2:PosT) (p3:ContractT) (p4:Int) (p5:List (ByteArray×Int)):Plan Int:=
  .reg 1 (.ln 2048 zb p1 (.use 1 2048 (.forR (σ:=Unit) (ρ:=Int) 2040 8 (p1.length:Int) () (.k [0,1,7] (fun _=>[]) [0,1,2] (fun _=>[(3,.map (zk IV.str IV.i64 p5))]) 8 fun _=>(.ents rfl .nil)) (fun i1 s1=>.sel 2040 (.reg 1 (.ix 2044 zb p1 (i1:Int) fun e1=>.b1 2046 (yn e1 p2 p3 p4 p5) (fun r1=>.c [0,1,2,3] 4 (vB r1) [] 0) (fun r1 hr1=>(zh (zci e1 p2 p3 p4 p5 r1 hr1) [0,1,2,3] 16 (.drop rfl rfl (.drop rfl rfl (.drop rfl rfl (.drop rfl rfl .nil)))) (rhR (rhR (rhR (rhM rhN)))) rhN)) fun r1=>.us [(3,2044),(5,2046)] (.ite 2042 r1 (.sel 2042 (.ret (.inr (i1:Int)))) (.sel 2042 (.ret (.inl ()))))))) fun os1=>.case os1 (fun s1=>.sel 2040 (.ret (-1))) fun y1=>.ret y1)))
theorem zhC (p1:List Int) (p2:PosT) (p3:ContractT) (p4:Int) (p5:List (ByteArray×Int)) (res:Int) (hd:Xe p1 p2 p3 p4 p5=some res):DOk C0 49 [.imm (.slice (List.map zb p1)),.func 231 [] [.ptr 0 0 0,.ptr 1 0 0]] [(0,.rows 1 [[.ptr 2 0 0]]),(1,.rows 5 [zl (PosT.row p2)]),(2,.rows 9 [[vI p3.parties,.imm (.slice (List.map zb p3.holders)),.imm (.slice (List.map UnitT.row p3.units)),.imm (.slice (List.map ActT.row p3.acts)),.imm (.slice (List.map ClauseT.row p3.clauses)),vI p3.days,.imm (.slice (List.map zb p3.off)),vI p4,.map 3]]),(3,.map (zk IV.str IV.i64 p5))] 4 (vI res) [(0,.rows 1 [[.ptr 2 0 0]]),(1,.rows 5 [zl (PosT.row p2)]),(2,.rows 9 [[vI p3.parties,.imm (.slice (List.map zb p3.holders)),.imm (.slice (List.map UnitT.row p3.units)),.imm (.slice (List.map ActT.row p3.acts)),.imm (.slice (List.map ClauseT.row p3.clauses)),vI p3.days,.imm (.slice (List.map zb p3.off)),vI p4,.map 3]]),(3,.map (zk IV.str IV.i64 p5))] 0:=
  Plan.det (R:=fun res=>vI res) (H:=fun res=>[(0,.rows 1 [[.ptr 2 0 0]]),(1,.rows 5 [zl (PosT.row p2)]),(2,.rows 9 [[vI p3.parties,.imm (.slice (List.map zb p3.holders)),.imm (.slice (List.map UnitT.row p3.units)),.imm (.slice (List.map ActT.row p3.acts)),.imm (.slice (List.map ClauseT.row p3.clauses)),vI p3.days,.imm (.slice (List.map zb p3.off)),vI p4,.map 3]]),(3,.map (zk IV.str IV.i64 p5))]) (zhB p1 p2 p3 p4 p5) (.exp rfl rfl (.exp rfl rfl (.exp rfl rfl (.ents rfl .nil)))) (fun _=>(.exp rfl rfl (.exp rfl rfl (.exp rfl rfl (.ents rfl .nil))))) (by kernel_rfl) (fun _=>by kernel_rfl) (by kernel_rfl) (Plan.run_of hd (by kernel_rfl))
noncomputable def Xf (p1:List Int) (p2:PosT) (p3:ContractT) (p4:Int) (p5:List (ByteArray×Int)):Option Bool:=
  (Option.bind (Xe p1 p2 p3 p4 p5) fun r1=>some (decide (0≤r1)))
noncomputable def zhD (p1:List Int) (p2:PosT) (p3:ContractT) (p4:Int) (p5:List (ByteArray×Int)):Plan Bool:=
  .reg 1 (.b1 2050 (Xe p1 p2 p3 p4 p5) (fun r1=>.c [0,1,2,3] 4 (vI r1) [] 0) (fun r1 hr1=>(zh (zhC p1 p2 p3 p4 p5 r1 hr1) [0,1,2,3] 7 (.drop rfl rfl (.drop rfl rfl (.drop rfl rfl (.drop rfl rfl .nil)))) (rhR (rhR (rhR (rhM rhN)))) rhN)) fun r1=>.use 2 2050 (.ret (decide (0≤r1))))
theorem zhE (p1:List Int) (p2:PosT) (p3:ContractT) (p4:Int) (p5:List (ByteArray×Int)) (res:Bool) (hd:Xf p1 p2 p3 p4 p5=some res):DOk C0 26 [.imm (.slice (List.map zb p1)),.func 231 [] [.ptr 0 0 0,.ptr 1 0 0]] [(0,.rows 1 [[.ptr 2 0 0]]),(1,.rows 5 [zl (PosT.row p2)]),(2,.rows 9 [[vI p3.parties,.imm (.slice (List.map zb p3.holders)),.imm (.slice (List.map UnitT.row p3.units)),.imm (.slice (List.map ActT.row p3.acts)),.imm (.slice (List.map ClauseT.row p3.clauses)),vI p3.days,.imm (.slice (List.map zb p3.off)),vI p4,.map 3]]),(3,.map (zk IV.str IV.i64 p5))] 4 (vB res) [(0,.rows 1 [[.ptr 2 0 0]]),(1,.rows 5 [zl (PosT.row p2)]),(2,.rows 9 [[vI p3.parties,.imm (.slice (List.map zb p3.holders)),.imm (.slice (List.map UnitT.row p3.units)),.imm (.slice (List.map ActT.row p3.acts)),.imm (.slice (List.map ClauseT.row p3.clauses)),vI p3.days,.imm (.slice (List.map zb p3.off)),vI p4,.map 3]]),(3,.map (zk IV.str IV.i64 p5))] 0:=
  Plan.det (R:=fun res=>vB res) (H:=fun res=>[(0,.rows 1 [[.ptr 2 0 0]]),(1,.rows 5 [zl (PosT.row p2)]),(2,.rows 9 [[vI p3.parties,.imm (.slice (List.map zb p3.holders)),.imm (.slice (List.map UnitT.row p3.units)),.imm (.slice (List.map ActT.row p3.acts)),.imm (.slice (List.map ClauseT.row p3.clauses)),vI p3.days,.imm (.slice (List.map zb p3.off)),vI p4,.map 3]]),(3,.map (zk IV.str IV.i64 p5))]) (zhD p1 p2 p3 p4 p5) (.exp rfl rfl (.exp rfl rfl (.exp rfl rfl (.ents rfl .nil)))) (fun _=>(.exp rfl rfl (.exp rfl rfl (.exp rfl rfl (.ents rfl .nil))))) (by kernel_rfl) (fun _=>by kernel_rfl) (by kernel_rfl) (Plan.run_of hd (by kernel_rfl))
noncomputable def Z9 (p1:ShieldW) (p2:Int) (p3:ContractT) (p4:Int) (p5:List (ByteArray×Int)):Option Bool:=
  (Option.bind (ze p1.s.rows p2) fun e1=>(Option.bind (jO p3 e1.position.state p4) fun r1=>(bif r1 then some false else (Option.bind (vw e1.position p3 p4 p5) fun r2=>(bif e1.position.own then (Option.bind (jP r2 e1.move) fun r3=>(bif r3 then (Option.bind (Xd [e1.move] e1.position p3 p4 p5) fun r4=>some (!r4)) else some false)) else (Option.bind (Xf r2 e1.position p3 p4 p5) fun r5=>some (!r5)))))))
noncomputable def zfX (p1:ShieldW) (p2:Int) (p3:ContractT) (p4:Int) (p5:List (ByteArray×Int)):Plan Bool:=
  .reg 1 (.ix 2052 ShieldRowT.row p1.s.rows p2 fun e1=>.us [(4,2052),(11,2052)] (.reg 0 (.call 2054 (Jk p3 e1.position.state p4) fun r1=>.use 10 2054 (.ite 1944 r1 (.sel 1944 (.ret false)) (.sel 1944 (.reg 0 (.b1 2056 (vw e1.position p3 p4 p5) (fun r2=>.c [0,1] 2 (.imm (.slice (List.map zb r2))) [] 0) (fun r2 hr2=>(zh (zcg e1.position p3 p4 p5 r2 hr2) [0,1] 35 (.drop rfl rfl (.drop rfl rfl .nil)) (rhR (rhM rhN)) rhN)) fun r2=>.use 2 2056 (.ite 2004 e1.position.own (.sel 2004 (.reg 0 (.call 2058 (Xb r2 e1.move) fun r3=>.use 2 2058 (.ite 2016 r3 (.sel 2017 (.reg 1 (.b1 2060 (Xd [e1.move] e1.position p3 p4 p5) (fun r4=>.c [44,3,19,0,1] 5 (vB r4) [] 0) (fun r4 hr4=>(zh (zhA [e1.move] e1.position p3 p4 p5 r4 hr4) [44,3,19,0,1] 48 (.drop rfl rfl (.drop rfl rfl (.drop rfl rfl (.drop rfl rfl (.drop rfl rfl .nil))))) (rhI (rhR (rhR (rhR (rhM rhN))))) rhN)) fun r4=>.use 2 2060 (.ret (!r4))))) (.sel 2017 (.ret false)))))) (.sel 2004 (.reg 0 (.b1 2062 (Xf r2 e1.position p3 p4 p5) (fun r5=>.c [3,19,0,1] 4 (vB r5) [] 0) (fun r5 hr5=>(zh (zhE r2 e1.position p3 p4 p5 r5 hr5) [3,19,0,1] 41 (.drop rfl rfl (.drop rfl rfl (.drop rfl rfl (.drop rfl rfl .nil)))) (rhR (rhR (rhR (rhM rhN)))) rhN)) fun r5=>.use 2 2062 (.ret (!r5)))))))))))))
theorem zfY (p1:ShieldW) (p2:Int) (p3:ContractT) (p4:Int) (p5:List (ByteArray×Int)) (res:Bool) (hd:Z9 p1 p2 p3 p4 p5=some res):DOk C0 230 [.imm (.agg (ShieldW.row p1)),.ptr 0 0 0,vI p2] [(0,.rows 9 [[vI p3.parties,.imm (.slice (List.map zb p3.holders)),.imm (.slice (List.map UnitT.row p3.units)),.imm (.slice (List.map ActT.row p3.acts)),.imm (.slice (List.map ClauseT.row p3.clauses)),vI p3.days,.imm (.slice (List.map zb p3.off)),vI p4,.map 1]]),(1,.map (zk IV.str IV.i64 p5))] 2 (vB res) [(0,.rows 9 [[vI p3.parties,.imm (.slice (List.map zb p3.holders)),.imm (.slice (List.map UnitT.row p3.units)),.imm (.slice (List.map ActT.row p3.acts)),.imm (.slice (List.map ClauseT.row p3.clauses)),vI p3.days,.imm (.slice (List.map zb p3.off)),vI p4,.map 1]]),(1,.map (zk IV.str IV.i64 p5))] 0:=
  Plan.det (R:=fun res=>vB res) (H:=fun res=>[(0,.rows 9 [[vI p3.parties,.imm (.slice (List.map zb p3.holders)),.imm (.slice (List.map UnitT.row p3.units)),.imm (.slice (List.map ActT.row p3.acts)),.imm (.slice (List.map ClauseT.row p3.clauses)),vI p3.days,.imm (.slice (List.map zb p3.off)),vI p4,.map 1]]),(1,.map (zk IV.str IV.i64 p5))]) (zfX p1 p2 p3 p4 p5) (.exp rfl rfl (.ents rfl .nil)) (fun _=>(.exp rfl rfl (.ents rfl .nil))) (by kernel_rfl) (fun _=>by kernel_rfl) (by kernel_rfl) (Plan.run_of hd (by kernel_rfl))
noncomputable def Qa (p1:ContractT) (p2:ShieldW):Option Bool:=
  (Option.bind (Z8 p2) fun r1=>(Option.bind (bif decide (r1 < 0) then some true else (bif decide (p1.parties≤r1) then some true else (Option.bind (jN p2) fun r2=>(bif decide (r2 < 1) then some true else (Option.bind (jN p2) fun r3=>some (decide (1500 < r3))))))) fun v1=>(bif v1 then some false else (Option.bind (jN p2) fun r4=>(Option.bind (forR (σ:=(List (ByteArray×Int))) (ρ:=Unit) r4 (fun i1 s1=>(Option.bind (α:=(List (ByteArray×Int)) ⊕ Unit) (Option.bind (XX p2 (i1:Int)) fun r5=>(Option.bind (qK p1 r5.1.state) fun r6=>(bif r6 then (Option.bind (qF r5.1) fun r7=>(Option.bind (bif ((zp r7 s1).isSome) then some (decide (r5.2 < ((zp r7 s1).getD 0))) else some true) fun v2=>(bif v2 then some (.inl (z8 r7 r5.2 s1)) else some (.inl s1)))) else some (.inr ())))) (Sum.elim (fun (v3:(List (ByteArray×Int)))=>some (.inl v3)) (fun (y1:Unit)=>some (.inr ()))))) []) (Sum.elim (fun (s1:(List (ByteArray×Int)))=>(Option.bind (jN p2) fun r8=>(Option.bind (forR (σ:=Unit) (ρ:=Unit) r8 (fun i2 s2=>(Option.bind (Z9 p2 (i2:Int) p1 r1 s1) fun r9=>(bif r9 then some (.inl ()) else some (.inr ())))) ()) (Sum.elim (fun (s2:Unit)=>some true) (fun (y3:Unit)=>some false))))) (fun (y2:Unit)=>some false)))))))
noncomputable def zfZ (p1:ContractT) (p2:ShieldW):Plan Bool:=
  .reg 1 (.call 2066 (zcf p2) fun r1=>.use 2 2066 (.cut (β:=Bool) 2 (.e [1,2,5] (fun v1=>[(42,vB v1)]) [0,5,7] 33) (.reg 0 (.ite 1890 (decide (r1 < 0)) (.use 6 1890 (.f1 2070 (.g true) (rfl:true=true) (.use 15 2070 (.f1 2068 (.g true) (rfl:true=true) (.use 20 2068 (.ret true)))))) (.ite 1892 (decide (p1.parties≤r1)) (.us [(6,1890),(15,1892)] (.f1 2072 (.g true) (rfl:true=true) (.use 20 2072 (.ret true)))) (.call 2074 (Zn p2) fun r2=>.ite 1896 (decide (r2 < 1)) (.us [(6,1890),(15,1892),(16,2074),(20,1896)] (.ret true)) (.call 2076 (Zn p2) fun r3=>.us [(6,1890),(15,1892),(16,2074),(20,1896),(21,2076)] (.ret (decide (1500 < r3)))))))) fun v1=>.ite 1898 v1 (.sel 1898 (.ret false)) (.sel 1898 (.reg 0 (.call 2078 (Zn p2) fun r4=>.use 1 2078 (.forR (σ:=(List (ByteArray×Int))) (ρ:=Unit) 1900 45 r4 [] (.k [1,2,5,44] (fun _=>[]) [0,7] (fun s1=>[(5,.map (zk IV.str IV.i64 s1))]) 36 fun _=>(.ents rfl .nil)) (fun i1 s1=>.sel 1900 (.cutO (β:=(List (ByteArray×Int))) (γ:=Unit) 1 (.k [1,2,5,44,45] (fun _=>[]) [0,7] (fun v3=>[(5,.map (zk IV.str IV.i64 v3))]) 74 fun _=>(.ents rfl .nil)) (.reg 1 (.call 2080 (zey p2 (i1:Int)) fun r5=>.use 2 2080 (.reg 0 (.call 2082 (wz p1 r5.1.state) fun r6=>.use 3 2082 (.ite 1910 r6 (.sel 1911 (.reg 0 (.call 2084 (XT r5.1) fun r7=>.use 1 2084 (.reg 0 (.f1 2088 (.l (vI ((zp r7 s1).getD 0)) ((zp r7 s1).isSome)) (xk IV.i64 0 r7 s1) (.use 5 2088 (.cut (β:=Bool) 1 (.k [1,2,5,44,45,8,9] (fun v2=>[(76,vB v2)]) [0,7,45] (fun _=>[(5,.map (zk IV.str IV.i64 s1))]) 74 fun _=>(.ents rfl .nil)) (.reg 0 (.ite 1912 ((zp r7 s1).isSome) (.use 3 1913 (.ret (decide (r5.2 < ((zp r7 s1).getD 0))))) (.use 3 1913 (.ret true)))) fun v2=>.ite 1914 v2 (.sel 1914 (.reg 0 (.f1 2086 (.u (zk IV.str IV.i64 (z8 r7 r5.2 s1))) (xP IV.i64 r7 r5.2 s1) (.use 6 2086 (.ret (.inl (z8 r7 r5.2 s1))))))) (.sel 1914 (.ret (.inl s1)))))))))) (.sel 1911 (.ret (.inr ())))))))) fun o_v3=>.case o_v3 (fun v3=>.ret (.inl v3)) fun y1=>.ret (.inr ()))) fun os1=>.case os1 (fun s1=>.sel 1900 (.reg 0 (.call 2090 (Zn p2) fun r8=>.use 1 2090 (.forR (σ:=Unit) (ρ:=Unit) 1916 86 r8 () (.k [1,5,85] (fun _=>[]) [7] (fun _=>[(5,.map (zk IV.str IV.i64 s1))]) 40 fun _=>(.ents rfl .nil)) (fun i2 s2=>.sel 1916 (.reg 1 (.b1 2092 (Z9 p2 (i2:Int) p1 r1 s1) (fun r9=>.c [7,5] 2 (vB r9) [] 0) (fun r9 hr9=>(zh (zfY p2 (i2:Int) p1 r1 s1 r9 hr9) [7,5] 46 (.drop rfl rfl (.drop rfl rfl .nil)) (rhR (rhM rhN)) rhN)) fun r9=>.use 3 2092 (.ite 2064 r9 (.sel 2065 (.ret (.inl ()))) (.sel 2065 (.ret (.inr ()))))))) fun os2=>.case os2 (fun s2=>.sel 1916 (.ret true)) fun y3=>.ret false)))) fun y2=>.ret false))))))
theorem zf0 (p1:ContractT) (p2:ShieldW) (res:Bool) (hd:Qa p1 p2=some res):DOk C0 302 [.agg (zl (ContractT.row p1)),.imm (.iface 105 (.agg (ShieldW.row p2)))] [] 0 (vB res) [] 0:=
  Plan.det (R:=fun res=>vB res) (H:=fun res=>[]) (zfZ p1 p2) .nil (fun _=>.nil) (by kernel_rfl) (fun _=>by kernel_rfl) (by kernel_rfl) (Plan.run_of hd (by kernel_rfl))
noncomputable def jj (c:ContractT) (s:ShieldT):Option Bool:=
  (Option.bind (Qa c ({s:=s}:ShieldW)) fun r1=>some r1)
noncomputable def WZ (c:ContractT) (s:ShieldT):Plan Bool:=
  .reg 1 (.b1 2094 (Qa c ({s:=s}:ShieldW)) (fun r1=>.c [] 0 (vB r1) [] 0) (fun r1 hr1=>(zh (zf0 c ({s:=s}:ShieldW) r1 hr1) [] 7 .nil rhN rhN)) fun r1=>.use 4 2094 (.ret r1))
theorem vD (c:ContractT) (s:ShieldT) (res:Bool) (hd:jj c s=some res):APure C0 299 [.agg (ContractT.row c),.agg (ShieldT.row s)] (.bool res):=
  Plan.pure (iv:=fun res=>.bool res) (WZ c s) (by kernel_rfl) (Plan.run_of hd (by kernel_rfl))
noncomputable def Qb (p:DoomW):Option Int:=
  some p.d.party
noncomputable def zcj (p:DoomW):Plan Int:=
  .ret p.d.party
theorem zck (p:DoomW) (res:Int) (hd:Qb p=some res):APure C0 227 [.agg (DoomW.row p)] (.int .i64 res):=
  Plan.pure (iv:=fun res=>.int .i64 res) (zcj p) (by kernel_rfl) (Plan.run_of hd (by kernel_rfl))
noncomputable def jv (p:DoomW):Option Int:=
  some (p.d.rows.length:Int)
noncomputable def zdk (p:DoomW):Plan Int:=
  .reg 1 (.ln 2102 DoomRowT.row p.d.rows (.use 3 2102 (.ret (p.d.rows.length:Int))))
theorem Zo (p:DoomW) (res:Int) (hd:jv p=some res):APure C0 229 [.agg (DoomW.row p)] (.int .i64 res):=
  Plan.pure (iv:=fun res=>.int .i64 res) (zdk p) (by kernel_rfl) (Plan.run_of hd (by kernel_rfl))
noncomputable def kG (p:DoomW) (i:Int):Option (PosT×Int):=
  (Option.bind (ze p.d.rows i) fun e1=>some (e1.position,e1.rank))
noncomputable def zeC (p:DoomW) (i:Int):Plan (PosT×Int):=
  .reg 1 (.ix 2110 DoomRowT.row p.d.rows i fun e1=>.us [(4,2110),(11,2110)] (.ret (e1.position,e1.rank)))
theorem zeD (p:DoomW) (i:Int) (res:PosT×Int) (hd:kG p i=some res):APure C0 228 [.agg (DoomW.row p),.int .i64 i] (.tuple [.agg (PosT.row res.1),.int .i64 res.2]):=
  Plan.pure (iv:=fun res=>.tuple [.agg (PosT.row res.1),.int .i64 res.2]) (zeC p i) (by kernel_rfl) (Plan.run_of hd (by kernel_rfl))
noncomputable def wc (p1:PosT) (p2:Int) (p3:Int) (p4:ContractT) (p5:Int) (p6:List (ByteArray×Int)):Option Bool:=
  (Option.bind (wb p1 p2 p4 p5 p6) fun r1=>(Option.bind (bif r1.2 then some (decide (r1.1 < p3)) else some false) fun v1=>some v1))
noncomputable def zf1 (p1:PosT) (p2:Int) (p3:Int) (p4:ContractT) (p5:Int) (p6:List (ByteArray×Int)):Plan Bool:=
  .reg 1 (.b1 2136 (wb p1 p2 p4 p5 p6) (fun r1=>.c [0,1] 2 (.tuple [vI r1.1,vB r1.2]) [] 0) (fun r1 hr1=>(zh (zch p1 p2 p4 p5 p6 r1 hr1) [0,1] 7 (.drop rfl rfl (.drop rfl rfl .nil)) (rhR (rhM rhN)) rhN)) fun r1=>.use 3 2136 (.cut (β:=Bool) 1 (.k [] (fun v1=>[(8,vB v1)]) [0,2] (fun _=>[(1,.map (zk IV.str IV.i64 p6))]) 20 fun _=>(.ents rfl .nil)) (.reg 0 (.ite 2134 r1.2 (.use 2 2134 (.ret (decide (r1.1 < p3)))) (.use 2 2134 (.ret false)))) fun v1=>.ret v1))
theorem zcl (p1:PosT) (p2:Int) (p3:Int) (p4:ContractT) (p5:Int) (p6:List (ByteArray×Int)) (res:Bool) (hd:wc p1 p2 p3 p4 p5 p6=some res):DOk C0 223 [.ptr 0 0 0,.agg (zl (PosT.row p1)),vI p2,vI p3] [(0,.rows 9 [[vI p4.parties,.imm (.slice (List.map zb p4.holders)),.imm (.slice (List.map UnitT.row p4.units)),.imm (.slice (List.map ActT.row p4.acts)),.imm (.slice (List.map ClauseT.row p4.clauses)),vI p4.days,.imm (.slice (List.map zb p4.off)),vI p5,.map 1]]),(1,.map (zk IV.str IV.i64 p6))] 2 (vB res) [(0,.rows 9 [[vI p4.parties,.imm (.slice (List.map zb p4.holders)),.imm (.slice (List.map UnitT.row p4.units)),.imm (.slice (List.map ActT.row p4.acts)),.imm (.slice (List.map ClauseT.row p4.clauses)),vI p4.days,.imm (.slice (List.map zb p4.off)),vI p5,.map 1]]),(1,.map (zk IV.str IV.i64 p6))] 0:=
  Plan.det (R:=fun res=>vB res) (H:=fun res=>[(0,.rows 9 [[vI p4.parties,.imm (.slice (List.map zb p4.holders)),.imm (.slice (List.map UnitT.row p4.units)),.imm (.slice (List.map ActT.row p4.acts)),.imm (.slice (List.map ClauseT.row p4.clauses)),vI p4.days,.imm (.slice (List.map zb p4.off)),vI p5,.map 1]]),(1,.map (zk IV.str IV.i64 p6))]) (zf1 p1 p2 p3 p4 p5 p6) (.exp rfl rfl (.ents rfl .nil)) (fun _=>(.exp rfl rfl (.ents rfl .nil))) (by kernel_rfl) (fun _=>by kernel_rfl) (by kernel_rfl) (Plan.run_of hd (by kernel_rfl))
noncomputable def kH (p1:Int) (p2:PosT) (p3:Int) (p4:ContractT) (p5:Int) (p6:List (ByteArray×Int)):Option Bool:=
  (Option.bind (wc p2 p1 p3 p4 p5 p6) fun r1=>some (!r1))
noncomputable def zf2 (p1:Int) (p2:PosT) (p3:Int) (p4:ContractT) (p5:Int) (p6:List (ByteArray×Int)):Plan Bool:=
  .reg 1 (.b1 2140 (wc p2 p1 p3 p4 p5 p6) (fun r1=>.c [3,4] 2 (vB r1) [] 0) (fun r1 hr1=>(zh (zcl p2 p1 p3 p4 p5 p6 r1 hr1) [3,4] 10 (.drop rfl rfl (.drop rfl rfl .nil)) (rhR (rhM rhN)) rhN)) fun r1=>.use 4 2140 (.ret (!r1)))
theorem zf3 (p1:Int) (p2:PosT) (p3:Int) (p4:ContractT) (p5:Int) (p6:List (ByteArray×Int)) (res:Bool) (hd:kH p1 p2 p3 p4 p5 p6=some res):DOk C0 226 [vI p1,.ptr 0 0 0,.ptr 1 0 0,.ptr 2 0 0] [(0,.rows 1 [[.ptr 3 0 0]]),(1,.rows 5 [zl (PosT.row p2)]),(2,.rows 1 [[vI p3]]),(3,.rows 9 [[vI p4.parties,.imm (.slice (List.map zb p4.holders)),.imm (.slice (List.map UnitT.row p4.units)),.imm (.slice (List.map ActT.row p4.acts)),.imm (.slice (List.map ClauseT.row p4.clauses)),vI p4.days,.imm (.slice (List.map zb p4.off)),vI p5,.map 4]]),(4,.map (zk IV.str IV.i64 p6))] 5 (vB res) [(0,.rows 1 [[.ptr 3 0 0]]),(1,.rows 5 [zl (PosT.row p2)]),(2,.rows 1 [[vI p3]]),(3,.rows 9 [[vI p4.parties,.imm (.slice (List.map zb p4.holders)),.imm (.slice (List.map UnitT.row p4.units)),.imm (.slice (List.map ActT.row p4.acts)),.imm (.slice (List.map ClauseT.row p4.clauses)),vI p4.days,.imm (.slice (List.map zb p4.off)),vI p5,.map 4]]),(4,.map (zk IV.str IV.i64 p6))] 0:=
  Plan.det (R:=fun res=>vB res) (H:=fun res=>[(0,.rows 1 [[.ptr 3 0 0]]),(1,.rows 5 [zl (PosT.row p2)]),(2,.rows 1 [[vI p3]]),(3,.rows 9 [[vI p4.parties,.imm (.slice (List.map zb p4.holders)),.imm (.slice (List.map UnitT.row p4.units)),.imm (.slice (List.map ActT.row p4.acts)),.imm (.slice (List.map ClauseT.row p4.clauses)),vI p4.days,.imm (.slice (List.map zb p4.off)),vI p5,.map 4]]),(4,.map (zk IV.str IV.i64 p6))]) (zf2 p1 p2 p3 p4 p5 p6) (.exp rfl rfl (.exp rfl rfl (.exp rfl rfl (.exp rfl rfl (.ents rfl .nil))))) (fun _=>(.exp rfl rfl (.exp rfl rfl (.exp rfl rfl (.exp rfl rfl (.ents rfl .nil)))))) (by kernel_rfl) (fun _=>by kernel_rfl) (by kernel_rfl) (Plan.run_of hd (by kernel_rfl))
noncomputable def QD (p1:List Int) (p2:PosT) (p3:Int) (p4:ContractT) (p5:Int) (p6:List (ByteArray×Int)):Option Int:=
  (Option.bind (forR (σ:=Unit) (ρ:=Int) (p1.length:Int) (fun i1 s1=>(Option.bind (ze p1 (i1:Int)) fun e1=>(Option.bind (kH e1 p2 p3 p4 p5 p6) fun r1=>(bif r1 then some (.inr (i1:Int)) else some (.inl ()))))) ()) (Sum.elim (fun (s1:Unit)=>some (-1)) (fun (y1:Int)=>some y1)))
noncomputable def zhF (p1:List Int) (p2:PosT) (p3:Int) (p4:ContractT) (p5:Int) (p6:List (ByteArray×Int)):Plan Int:=
  .reg 1 (.ln 2148 zb p1 (.use 1 2148 (.forR (σ:=Unit) (ρ:=Int) 2138 8 (p1.length:Int) () (.k [0,1,7] (fun _=>[]) [0,1,2,3] (fun _=>[(4,.map (zk IV.str IV.i64 p6))]) 9 fun _=>(.ents rfl .nil)) (fun i1 s1=>.sel 2138 (.reg 1 (.ix 2144 zb p1 (i1:Int) fun e1=>.b1 2146 (kH e1 p2 p3 p4 p5 p6) (fun r1=>.c [0,1,2,3,4] 5 (vB r1) [] 0) (fun r1 hr1=>(zh (zf3 e1 p2 p3 p4 p5 p6 r1 hr1) [0,1,2,3,4] 17 (.drop rfl rfl (.drop rfl rfl (.drop rfl rfl (.drop rfl rfl (.drop rfl rfl .nil))))) (rhR (rhR (rhR (rhR (rhM rhN))))) rhN)) fun r1=>.us [(3,2144),(5,2146)] (.ite 2142 r1 (.sel 2142 (.ret (.inr (i1:Int)))) (.sel 2142 (.ret (.inl ()))))))) fun os1=>.case os1 (fun s1=>.sel 2138 (.ret (-1))) fun y1=>.ret y1)))
theorem zhG (p1:List Int) (p2:PosT) (p3:Int) (p4:ContractT) (p5:Int) (p6:List (ByteArray×Int)) (res:Int) (hd:QD p1 p2 p3 p4 p5 p6=some res):DOk C0 49 [.imm (.slice (List.map zb p1)),.func 226 [] [.ptr 0 0 0,.ptr 1 0 0,.ptr 2 0 0]] [(0,.rows 1 [[.ptr 3 0 0]]),(1,.rows 5 [zl (PosT.row p2)]),(2,.rows 1 [[vI p3]]),(3,.rows 9 [[vI p4.parties,.imm (.slice (List.map zb p4.holders)),.imm (.slice (List.map UnitT.row p4.units)),.imm (.slice (List.map ActT.row p4.acts)),.imm (.slice (List.map ClauseT.row p4.clauses)),vI p4.days,.imm (.slice (List.map zb p4.off)),vI p5,.map 4]]),(4,.map (zk IV.str IV.i64 p6))] 5 (vI res) [(0,.rows 1 [[.ptr 3 0 0]]),(1,.rows 5 [zl (PosT.row p2)]),(2,.rows 1 [[vI p3]]),(3,.rows 9 [[vI p4.parties,.imm (.slice (List.map zb p4.holders)),.imm (.slice (List.map UnitT.row p4.units)),.imm (.slice (List.map ActT.row p4.acts)),.imm (.slice (List.map ClauseT.row p4.clauses)),vI p4.days,.imm (.slice (List.map zb p4.off)),vI p5,.map 4]]),(4,.map (zk IV.str IV.i64 p6))] 0:=
  Plan.det (R:=fun res=>vI res) (H:=fun res=>[(0,.rows 1 [[.ptr 3 0 0]]),(1,.rows 5 [zl (PosT.row p2)]),(2,.rows 1 [[vI p3]]),(3,.rows 9 [[vI p4.parties,.imm (.slice (List.map zb p4.holders)),.imm (.slice (List.map UnitT.row p4.units)),.imm (.slice (List.map ActT.row p4.acts)),.imm (.slice (List.map ClauseT.row p4.clauses)),vI p4.days,.imm (.slice (List.map zb p4.off)),vI p5,.map 4]]),(4,.map (zk IV.str IV.i64 p6))]) (zhF p1 p2 p3 p4 p5 p6) (.exp rfl rfl (.exp rfl rfl (.exp rfl rfl (.exp rfl rfl (.ents rfl .nil))))) (fun _=>(.exp rfl rfl (.exp rfl rfl (.exp rfl rfl (.exp rfl rfl (.ents rfl .nil)))))) (by kernel_rfl) (fun _=>by kernel_rfl) (by kernel_rfl) (Plan.run_of hd (by kernel_rfl))
noncomputable def Zp (p1:List Int) (p2:PosT) (p3:Int) (p4:ContractT) (p5:Int) (p6:List (ByteArray×Int)):Option Bool:=
  (Option.bind (QD p1 p2 p3 p4 p5 p6) fun r1=>some (decide (0≤r1)))
noncomputable def zhH (p1:List Int) (p2:PosT) (p3:Int) (p4:ContractT) (p5:Int) (p6:List (ByteArray×Int)):Plan Bool:=
  .reg 1 (.b1 2150 (QD p1 p2 p3 p4 p5 p6) (fun r1=>.c [0,1,2,3,4] 5 (vI r1) [] 0) (fun r1 hr1=>(zh (zhG p1 p2 p3 p4 p5 p6 r1 hr1) [0,1,2,3,4] 8 (.drop rfl rfl (.drop rfl rfl (.drop rfl rfl (.drop rfl rfl (.drop rfl rfl .nil))))) (rhR (rhR (rhR (rhR (rhM rhN))))) rhN)) fun r1=>.use 2 2150 (.ret (decide (0≤r1))))
theorem zhI (p1:List Int) (p2:PosT) (p3:Int) (p4:ContractT) (p5:Int) (p6:List (ByteArray×Int)) (res:Bool) (hd:Zp p1 p2 p3 p4 p5 p6=some res):DOk C0 26 [.imm (.slice (List.map zb p1)),.func 226 [] [.ptr 0 0 0,.ptr 1 0 0,.ptr 2 0 0]] [(0,.rows 1 [[.ptr 3 0 0]]),(1,.rows 5 [zl (PosT.row p2)]),(2,.rows 1 [[vI p3]]),(3,.rows 9 [[vI p4.parties,.imm (.slice (List.map zb p4.holders)),.imm (.slice (List.map UnitT.row p4.units)),.imm (.slice (List.map ActT.row p4.acts)),.imm (.slice (List.map ClauseT.row p4.clauses)),vI p4.days,.imm (.slice (List.map zb p4.off)),vI p5,.map 4]]),(4,.map (zk IV.str IV.i64 p6))] 5 (vB res) [(0,.rows 1 [[.ptr 3 0 0]]),(1,.rows 5 [zl (PosT.row p2)]),(2,.rows 1 [[vI p3]]),(3,.rows 9 [[vI p4.parties,.imm (.slice (List.map zb p4.holders)),.imm (.slice (List.map UnitT.row p4.units)),.imm (.slice (List.map ActT.row p4.acts)),.imm (.slice (List.map ClauseT.row p4.clauses)),vI p4.days,.imm (.slice (List.map zb p4.off)),vI p5,.map 4]]),(4,.map (zk IV.str IV.i64 p6))] 0:=
  Plan.det (R:=fun res=>vB res) (H:=fun res=>[(0,.rows 1 [[.ptr 3 0 0]]),(1,.rows 5 [zl (PosT.row p2)]),(2,.rows 1 [[vI p3]]),(3,.rows 9 [[vI p4.parties,.imm (.slice (List.map zb p4.holders)),.imm (.slice (List.map UnitT.row p4.units)),.imm (.slice (List.map ActT.row p4.acts)),.imm (.slice (List.map ClauseT.row p4.clauses)),vI p4.days,.imm (.slice (List.map zb p4.off)),vI p5,.map 4]]),(4,.map (zk IV.str IV.i64 p6))]) (zhH p1 p2 p3 p4 p5 p6) (.exp rfl rfl (.exp rfl rfl (.exp rfl rfl (.exp rfl rfl (.ents rfl .nil))))) (fun _=>(.exp rfl rfl (.exp rfl rfl (.exp rfl rfl (.exp rfl rfl (.ents rfl .nil)))))) (by kernel_rfl) (fun _=>by kernel_rfl) (by kernel_rfl) (Plan.run_of hd (by kernel_rfl))
noncomputable def yo (p1:DoomW) (p2:Int) (p3:ContractT) (p4:Int) (p5:List (ByteArray×Int)):Option Bool:=
  (Option.bind (ze p1.d.rows p2) fun e1=>(bif decide (e1.rank≤0) then (Option.bind (bif (e1.rank == 0) then (Option.bind (jO p3 e1.position.state p4) fun r1=>some r1) else some false) fun v1=>some v1) else (Option.bind (vw e1.position p3 p4 p5) fun r2=>(bif e1.position.own then (Option.bind (Zp r2 e1.position e1.rank p3 p4 p5) fun r5=>some (!r5)) else (Option.bind (Option.bind (jP r2 e1.move) fun r3=>(bif r3 then (Option.bind (wc e1.position e1.move e1.rank p3 p4 p5) fun r4=>some r4) else some false)) fun v2=>some v2)))))
noncomputable def zf4 (p1:DoomW) (p2:Int) (p3:ContractT) (p4:Int) (p5:List (ByteArray×Int)):Plan Bool:=
  .reg 1 (.ix 2152 DoomRowT.row p1.d.rows p2 fun e1=>.us [(4,2152),(11,2152),(18,2152)] (.ite 2126 (decide (e1.rank≤0)) (.sel 2126 (.cut (β:=Bool) 1 (.k [] (fun v1=>[(6,vB v1)]) [0,2,3,26,27] (fun _=>[(1,.map (zk IV.str IV.i64 p5))]) 49 fun _=>(.ents rfl .nil)) (.reg 0 (.ite 2128 (e1.rank == 0) (.call 2154 (Jk p3 e1.position.state p4) fun r1=>.us [(3,2128),(13,2154)] (.ret r1)) (.use 3 2128 (.ret false)))) fun v1=>.ret v1)) (.sel 2126 (.reg 0 (.b1 2156 (vw e1.position p3 p4 p5) (fun r2=>.c [0,1] 2 (.imm (.slice (List.map zb r2))) [] 0) (fun r2 hr2=>(zh (zcg e1.position p3 p4 p5 r2 hr2) [0,1] 35 (.drop rfl rfl (.drop rfl rfl .nil)) (rhR (rhM rhN)) rhN)) fun r2=>.use 2 2156 (.ite 2130 e1.position.own (.sel 2131 (.reg 0 (.b1 2162 (Zp r2 e1.position e1.rank p3 p4 p5) (fun r5=>.c [3,26,27,0,1] 5 (vB r5) [] 0) (fun r5 hr5=>(zh (zhI r2 e1.position e1.rank p3 p4 p5 r5 hr5) [3,26,27,0,1] 42 (.drop rfl rfl (.drop rfl rfl (.drop rfl rfl (.drop rfl rfl (.drop rfl rfl .nil))))) (rhR (rhR (rhR (rhR (rhM rhN))))) rhN)) fun r5=>.use 2 2162 (.ret (!r5))))) (.sel 2131 (.cut (β:=Bool) 1 (.k [] (fun v2=>[(6,vB v2)]) [0,2,3,26,27] (fun _=>[(1,.map (zk IV.str IV.i64 p5))]) 51 fun _=>(.ents rfl .nil)) (.reg 0 (.call 2158 (Xb r2 e1.move) fun r3=>.ite 2132 r3 (.b1 2160 (wc e1.position e1.move e1.rank p3 p4 p5) (fun r4=>.c [0,1] 2 (vB r4) [] 0) (fun r4 hr4=>(zh (zcl e1.position e1.move e1.rank p3 p4 p5 r4 hr4) [0,1] 48 (.drop rfl rfl (.drop rfl rfl .nil)) (rhR (rhM rhN)) rhN)) fun r4=>.us [(2,2158),(4,2132),(8,2160)] (.ret r4)) (.us [(2,2158),(4,2132)] (.ret false)))) fun v2=>.ret v2))))))))
theorem zf5 (p1:DoomW) (p2:Int) (p3:ContractT) (p4:Int) (p5:List (ByteArray×Int)) (res:Bool) (hd:yo p1 p2 p3 p4 p5=some res):DOk C0 225 [.imm (.agg (DoomW.row p1)),.ptr 0 0 0,vI p2] [(0,.rows 9 [[vI p3.parties,.imm (.slice (List.map zb p3.holders)),.imm (.slice (List.map UnitT.row p3.units)),.imm (.slice (List.map ActT.row p3.acts)),.imm (.slice (List.map ClauseT.row p3.clauses)),vI p3.days,.imm (.slice (List.map zb p3.off)),vI p4,.map 1]]),(1,.map (zk IV.str IV.i64 p5))] 2 (vB res) [(0,.rows 9 [[vI p3.parties,.imm (.slice (List.map zb p3.holders)),.imm (.slice (List.map UnitT.row p3.units)),.imm (.slice (List.map ActT.row p3.acts)),.imm (.slice (List.map ClauseT.row p3.clauses)),vI p3.days,.imm (.slice (List.map zb p3.off)),vI p4,.map 1]]),(1,.map (zk IV.str IV.i64 p5))] 0:=
  Plan.det (R:=fun res=>vB res) (H:=fun res=>[(0,.rows 9 [[vI p3.parties,.imm (.slice (List.map zb p3.holders)),.imm (.slice (List.map UnitT.row p3.units)),.imm (.slice (List.map ActT.row p3.acts)),.imm (.slice (List.map ClauseT.row p3.clauses)),vI p3.days,.imm (.slice (List.map zb p3.off)),vI p4,.map 1]]),(1,.map (zk IV.str IV.i64 p5))]) (zf4 p1 p2 p3 p4 p5) (.exp rfl rfl (.ents rfl .nil)) (fun _=>(.exp rfl rfl (.ents rfl .nil))) (by kernel_rfl) (fun _=>by kernel_rfl) (by kernel_rfl) (Plan.run_of hd (by kernel_rfl))
noncomputable def kI (p1:ContractT) (p2:DoomW):Option Bool:=
  (Option.bind (Qb p2) fun r1=>(Option.bind (bif decide (r1 < 0) then some true else (bif decide (p1.parties≤r1) then some true else (Option.bind (jv p2) fun r2=>(bif decide (r2 < 1) then some true else (Option.bind (jv p2) fun r3=>some (decide (1500 < r3))))))) fun v1=>(bif v1 then some false else (Option.bind (jv p2) fun r4=>(Option.bind (forR (σ:=(List (ByteArray×Int))) (ρ:=Unit) r4 (fun i1 s1=>(Option.bind (α:=(List (ByteArray×Int)) ⊕ Unit) (Option.bind (kG p2 (i1:Int)) fun r5=>(Option.bind (qK p1 r5.1.state) fun r6=>(bif r6 then (Option.bind (qF r5.1) fun r7=>(Option.bind (bif ((zp r7 s1).isSome) then some (decide (r5.2 < ((zp r7 s1).getD 0))) else some true) fun v2=>(bif v2 then some (.inl (z8 r7 r5.2 s1)) else some (.inl s1)))) else some (.inr ())))) (Sum.elim (fun (v3:(List (ByteArray×Int)))=>some (.inl v3)) (fun (y1:Unit)=>some (.inr ()))))) []) (Sum.elim (fun (s1:(List (ByteArray×Int)))=>(Option.bind (jv p2) fun r8=>(Option.bind (forR (σ:=Unit) (ρ:=Unit) r8 (fun i2 s2=>(Option.bind (yo p2 (i2:Int) p1 r1 s1) fun r9=>(bif r9 then some (.inl ()) else some (.inr ())))) ()) (Sum.elim (fun (s2:Unit)=>some true) (fun (y3:Unit)=>some false))))) (fun (y2:Unit)=>some false)))))))
noncomputable def zf6 (p1:ContractT) (p2:DoomW):Plan Bool:=
  .reg 1 (.call 2166 (zck p2) fun r1=>.use 2 2166 (.cut (β:=Bool) 2 (.e [1,2,5] (fun v1=>[(42,vB v1)]) [0,5,7] 33) (.reg 0 (.ite 2098 (decide (r1 < 0)) (.use 6 2098 (.f1 2170 (.g true) (rfl:true=true) (.use 15 2170 (.f1 2168 (.g true) (rfl:true=true) (.use 20 2168 (.ret true)))))) (.ite 2100 (decide (p1.parties≤r1)) (.us [(6,2098),(15,2100)] (.f1 2172 (.g true) (rfl:true=true) (.use 20 2172 (.ret true)))) (.call 2174 (Zo p2) fun r2=>.ite 2104 (decide (r2 < 1)) (.us [(6,2098),(15,2100),(16,2174),(20,2104)] (.ret true)) (.call 2176 (Zo p2) fun r3=>.us [(6,2098),(15,2100),(16,2174),(20,2104),(21,2176)] (.ret (decide (1500 < r3)))))))) fun v1=>.ite 2106 v1 (.sel 2106 (.ret false)) (.sel 2106 (.reg 0 (.call 2178 (Zo p2) fun r4=>.use 1 2178 (.forR (σ:=(List (ByteArray×Int))) (ρ:=Unit) 2108 45 r4 [] (.k [1,2,5,44] (fun _=>[]) [0,7] (fun s1=>[(5,.map (zk IV.str IV.i64 s1))]) 36 fun _=>(.ents rfl .nil)) (fun i1 s1=>.sel 2108 (.cutO (β:=(List (ByteArray×Int))) (γ:=Unit) 1 (.k [1,2,5,44,45] (fun _=>[]) [0,7] (fun v3=>[(5,.map (zk IV.str IV.i64 v3))]) 74 fun _=>(.ents rfl .nil)) (.reg 1 (.call 2180 (zeD p2 (i1:Int)) fun r5=>.use 2 2180 (.reg 0 (.call 2182 (wz p1 r5.1.state) fun r6=>.use 3 2182 (.ite 2118 r6 (.sel 2119 (.reg 0 (.call 2184 (XT r5.1) fun r7=>.use 1 2184 (.reg 0 (.f1 2188 (.l (vI ((zp r7 s1).getD 0)) ((zp r7 s1).isSome)) (xk IV.i64 0 r7 s1) (.use 5 2188 (.cut (β:=Bool) 1 (.k [1,2,5,44,45,8,9] (fun v2=>[(76,vB v2)]) [0,7,45] (fun _=>[(5,.map (zk IV.str IV.i64 s1))]) 74 fun _=>(.ents rfl .nil)) (.reg 0 (.ite 2120 ((zp r7 s1).isSome) (.use 3 2121 (.ret (decide (r5.2 < ((zp r7 s1).getD 0))))) (.use 3 2121 (.ret true)))) fun v2=>.ite 2122 v2 (.sel 2122 (.reg 0 (.f1 2186 (.u (zk IV.str IV.i64 (z8 r7 r5.2 s1))) (xP IV.i64 r7 r5.2 s1) (.use 6 2186 (.ret (.inl (z8 r7 r5.2 s1))))))) (.sel 2122 (.ret (.inl s1)))))))))) (.sel 2119 (.ret (.inr ())))))))) fun o_v3=>.case o_v3 (fun v3=>.ret (.inl v3)) fun y1=>.ret (.inr ()))) fun os1=>.case os1 (fun s1=>.sel 2108 (.reg 0 (.call 2190 (Zo p2) fun r8=>.use 1 2190 (.forR (σ:=Unit) (ρ:=Unit) 2124 86 r8 () (.k [1,5,85] (fun _=>[]) [7] (fun _=>[(5,.map (zk IV.str IV.i64 s1))]) 40 fun _=>(.ents rfl .nil)) (fun i2 s2=>.sel 2124 (.reg 1 (.b1 2192 (yo p2 (i2:Int) p1 r1 s1) (fun r9=>.c [7,5] 2 (vB r9) [] 0) (fun r9 hr9=>(zh (zf5 p2 (i2:Int) p1 r1 s1 r9 hr9) [7,5] 46 (.drop rfl rfl (.drop rfl rfl .nil)) (rhR (rhM rhN)) rhN)) fun r9=>.use 3 2192 (.ite 2164 r9 (.sel 2165 (.ret (.inl ()))) (.sel 2165 (.ret (.inr ()))))))) fun os2=>.case os2 (fun s2=>.sel 2124 (.ret true)) fun y3=>.ret false)))) fun y2=>.ret false))))))
theorem zf7 (p1:ContractT) (p2:DoomW) (res:Bool) (hd:kI p1 p2=some res):DOk C0 302 [.agg (zl (ContractT.row p1)),.imm (.iface 108 (.agg (DoomW.row p2)))] [] 0 (vB res) [] 0:=
  Plan.det (R:=fun res=>vB res) (H:=fun res=>[]) (zf6 p1 p2) .nil (fun _=>.nil) (by kernel_rfl) (fun _=>by kernel_rfl) (by kernel_rfl) (Plan.run_of hd (by kernel_rfl))
noncomputable def qP (c:ContractT) (d:DoomT):Option Bool:=
  (Option.bind (kI c ({d:=d}:DoomW)) fun r1=>some r1)
noncomputable def Y5 (c:ContractT) (d:DoomT):Plan Bool:=
  .reg 1 (.b1 2194 (kI c ({d:=d}:DoomW)) (fun r1=>.c [] 0 (vB r1) [] 0) (fun r1 hr1=>(zh (zf7 c ({d:=d}:DoomW) r1 hr1) [] 7 .nil rhN rhN)) fun r1=>.use 4 2194 (.ret r1))
theorem kg (c:ContractT) (d:DoomT) (res:Bool) (hd:qP c d=some res):APure C0 298 [.agg (ContractT.row c),.agg (DoomT.row d)] (.bool res):=
  Plan.pure (iv:=fun res=>.bool res) (Y5 c d) (by kernel_rfl) (Plan.run_of hd (by kernel_rfl))
noncomputable def yp  : Option Bool:=
  (Option.bind (ke) fun r1=>(Option.bind (QC r1) fun r2=>(Option.bind (vv r1 0 ({state:=r2.1,own:=true}:PosT)) fun r3=>(Option.bind (kF r1 0 ({state:=r2.1,own:=true}:PosT)) fun r4=>(Option.bind (kF r1 0 ({state:=r2.1,own:=false}:PosT)) fun r5=>(Option.bind (vv r1 0 ({state:=r2.1,own:=false}:PosT)) fun r6=>(Option.bind (bif (r2.2 == 0) then (bif (r3.2 == 0) then (bif (r4.2 == 13) then (bif (r5.2 == 0) then (bif (r6.2 == 13) then (bif ((r3.1.rows.length:Int) == 5) then some (!((r5.1.rows.length:Int) == 3)) else some true) else some true) else some true) else some true) else some true) else some true) fun v1=>(bif v1 then some false else (Option.bind (Option.bind (ze r3.1.rows 0) fun e1=>(bif (e1.move == 0) then (Option.bind (ze r3.1.rows 1) fun e2=>(bif (e2.move == (-2)) then (Option.bind (ze r5.1.rows 0) fun e3=>(bif (e3.rank == 1) then (bif (e3.move == (-1)) then (Option.bind (ze r5.1.rows 1) fun e4=>some (e4.rank == 0)) else some false) else some false)) else some false)) else some false)) fun v2=>(Option.bind (Option.bind (jj r1 r3.1) fun r7=>(bif r7 then (Option.bind (qP r1 r5.1) fun r8=>some r8) else some false)) fun v3=>(Option.bind (yY r3.1.rows 0 4) fun e5=>(Option.bind (VW (α:=DoomRowT) 104 [] r5.1.rows) fun e6=>(Option.bind (zm e6.length 0) fun k1=>(Option.bind (e6[k1]?) fun e7=>(Option.bind (bif v2 then (bif v3 then (Option.bind (jj r1 ({party:=0,rows:=e5}:ShieldT)) fun r9=>(bif r9 then some false else (Option.bind (qP r1 ({party:=0,rows:=(e6.set k1 ({e7 with move:=0}:DoomRowT))}:DoomT)) fun r10=>(bif r10 then some false else (Option.bind (jj r1 ({party:=0,rows:=[]}:ShieldT)) fun r11=>some (!r11)))))) else some false) else some false) fun v4=>some v4)))))))))))))))
noncomputable def zdl  : Plan Bool:=
  .reg 1 (.call 2204 YX fun r1=>.use 0 2204 (.reg 0 (.call 2206 (zes r1) fun r2=>.use 1 2206 (.reg 0 (.call 2208 (WJ r1 0 ({state:=r2.1,own:=true}:PosT)) fun r3=>.use 3 2208 (.reg 0 (.call 2210 (Ku r1 0 ({state:=r2.1,own:=true}:PosT)) fun r4=>.use 3 2210 (.reg 0 (.call 2212 (Ku r1 0 ({state:=r2.1,own:=false}:PosT)) fun r5=>.use 3 2212 (.reg 0 (.call 2214 (WJ r1 0 ({state:=r2.1,own:=false}:PosT)) fun r6=>.use 3 2214 (.cut (β:=Bool) 2 (.e [1,4,8] (fun v1=>[(79,vB v1)]) [2,9,19,29,39,49] 82) (.reg 0 (.ite 1868 (r2.2 == 0) (.ite 1870 (r3.2 == 0) (.ite 1872 (r4.2 == 13) (.ite 1874 (r5.2 == 0) (.ite 1876 (r6.2 == 13) (.ite 1878 ((r3.1.rows.length:Int) == 5) (.us [(3,1869),(7,1871),(11,1873),(15,1875),(19,1877)] (.ln 2218 ShieldRowT.row r3.1.rows (.us [(21,2218),(25,1879)] (.ln 2216 DoomRowT.row r5.1.rows (.use 27 2216 (.ret (!((r5.1.rows.length:Int) == 3)))))))) (.us [(3,1869),(7,1871),(11,1873),(15,1875),(19,1877)] (.ln 2220 ShieldRowT.row r3.1.rows (.us [(21,2220),(25,1879)] (.ret true))))) (.us [(3,1869),(7,1871),(11,1873),(15,1875),(19,1877)] (.f1 2222 (.g true) (rfl:true=true) (.use 25 2222 (.ret true))))) (.us [(3,1869),(7,1871),(11,1873),(15,1875)] (.f1 2226 (.g true) (rfl:true=true) (.use 19 2226 (.f1 2224 (.g true) (rfl:true=true) (.use 25 2224 (.ret true))))))) (.us [(3,1869),(7,1871),(11,1873)] (.f1 2232 (.g true) (rfl:true=true) (.use 15 2232 (.f1 2230 (.g true) (rfl:true=true) (.use 19 2230 (.f1 2228 (.g true) (rfl:true=true) (.use 25 2228 (.ret true))))))))) (.us [(3,1869),(7,1871)] (.f1 2240 (.g true) (rfl:true=true) (.use 11 2240 (.f1 2238 (.g true) (rfl:true=true) (.use 15 2238 (.f1 2236 (.g true) (rfl:true=true) (.use 19 2236 (.f1 2234 (.g true) (rfl:true=true) (.use 25 2234 (.ret true))))))))))) (.use 3 1869 (.f1 2250 (.g true) (rfl:true=true) (.use 7 2250 (.f1 2248 (.g true) (rfl:true=true) (.use 11 2248 (.f1 2246 (.g true) (rfl:true=true) (.use 15 2246 (.f1 2244 (.g true) (rfl:true=true) (.use 19 2244 (.f1 2242 (.g true) (rfl:true=true) (.use 25 2242 (.ret true)))))))))))))) fun v1=>.ite 1880 v1 (.sel 1880 (.ret false)) (.sel 1880 (.cut (β:=Bool) 1 (.e [1,4,8] (fun v2=>[(12,vB v2)]) [2,9,19,29,39,49] 121) (.reg 0 (.ix 2252 ShieldRowT.row r3.1.rows 0 fun e1=>.ite 1882 (e1.move == 0) (.ix 2254 ShieldRowT.row r3.1.rows 1 fun e2=>.ite 1884 (e2.move == (-2)) (.ix 2256 DoomRowT.row r5.1.rows 0 fun e3=>.ite 1886 (e3.rank == 1) (.ite 1888 (e3.move == (-1)) (.ix 2258 DoomRowT.row r5.1.rows 1 fun e4=>.us [(2,2252),(7,1882),(9,2254),(15,1884),(17,2256),(23,1886),(25,2256),(31,1888),(33,2258)] (.ret (e4.rank == 0))) (.us [(2,2252),(7,1882),(9,2254),(15,1884),(17,2256),(23,1886),(25,2256),(31,1888)] (.ret false))) (.us [(2,2252),(7,1882),(9,2254),(15,1884),(17,2256),(23,1886)] (.f1 2260 (.g false) (rfl:false=false) (.use 31 2260 (.ret false))))) (.us [(2,2252),(7,1882),(9,2254),(15,1884)] (.f1 2264 (.g false) (rfl:false=false) (.use 23 2264 (.f1 2262 (.g false) (rfl:false=false) (.use 31 2262 (.ret false))))))) (.us [(2,2252),(7,1882)] (.f1 2270 (.g false) (rfl:false=false) (.use 15 2270 (.f1 2268 (.g false) (rfl:false=false) (.use 23 2268 (.f1 2266 (.g false) (rfl:false=false) (.use 31 2266 (.ret false)))))))))) fun v2=>.cut (β:=Bool) 1 (.e [1,4,8,12] (fun v3=>[(13,vB v3)]) [2,9,19,29,39,49] 130) (.reg 0 (.call 2272 (vD r1 r3.1) fun r7=>.ite 2096 r7 (.call 2274 (kg r1 r5.1) fun r8=>.us [(2,2272),(4,2096),(6,2274)] (.ret r8)) (.us [(2,2272),(4,2096)] (.ret false)))) fun v3=>.reg 0 (.b1 2276 (yY r3.1.rows 0 4) (fun e5=>.s (List.map ShieldRowT.row e5)) (fun e5 he5=>(VV ShieldRowT.row 6 (fun _=>rfl) he5)) fun e5=>.use 2 2276 (.reg 0 (.b1 2278 (VW (α:=DoomRowT) 104 [] r5.1.rows) (fun e6=>.b (zc DoomRowT.row e6) e6.length) (fun e6 he6=>(zbA DoomRowT.row 7 104 (fun _=>rfl) he6)) fun e6=>.use 3 2278 (.reg 0 (.b1 2280 (zm e6.length 0) (fun k1=>.k k1) (fun k1 hk1=>(zs hk1)) fun k1=>.b1 2282 (e6[k1]?) (fun e7=>.aw (zl (DoomRowT.row e7)) (zc DoomRowT.row (e6.set k1 ({e7 with move:=0}:DoomRowT)))) (fun e7 he7=>(zU DoomRowT.row ({e7 with move:=0}:DoomRowT) he7)) fun e7=>.us [(2,2280),(4,2282)] (.cut (β:=Bool) 1 (.k [] (fun v4=>[(0,vB v4)]) [2,9,19,29,39,49,134,136,141] (fun _=>[(139,.rows 7 (zc DoomRowT.row (e6.set k1 ({e7 with move:=0}:DoomRowT))))]) 171 fun _=>(.rows rfl .nil)) (.reg 0 (.ite 2196 v2 (.ite 2198 v3 (.call 2284 (vD r1 ({party:=0,rows:=e5}:ShieldT)) fun r9=>.ite 2200 r9 (.us [(2,2196),(5,2198),(7,2284),(11,2201)] (.f1 2286 (.g false) (rfl:false=false) (.use 17 2286 (.ret false)))) (.bind (qP r1 ({party:=0,rows:=(e6.set k1 ({e7 with move:=0}:DoomRowT))}:DoomT)) (fun r10=>[(2288,([.w [139] [.agg (ContractT.row r1),.agg (DoomT.row ({party:=0,rows:=(e6.set k1 ({e7 with move:=0}:DoomRowT))}:DoomT))] (.bool r10)],_))]) (fun r10 hr10=>(.c2 (kg r1 ({party:=0,rows:=(e6.set k1 ({e7 with move:=0}:DoomRowT))}:DoomT) r10 hr10) (xj [.agg (zl (ContractT.row r1)),.agg [vI 0,.mslice 139 0 e6.length]] [(139,.rows 7 (zc DoomRowT.row (e6.set k1 ({e7 with move:=0}:DoomRowT))))] [.agg (ContractT.row r1),.agg (DoomT.row ({party:=0,rows:=(e6.set k1 ({e7 with move:=0}:DoomRowT))}:DoomT))] (zy (vH (zy (qg _) (zy (qg _) (zy (qg _) (zy (qg _) (zy (qg _) (zy (qg _) (zy (qg _) q8)))))))) (zy (vH (zy (qg _) (zy (j2 DoomRowT.row 139 7 e6.length (e6.set k1 ({e7 with move:=0}:DoomRowT)) (by simp) rfl) q8))) q8))) .nil)) fun r10=>.ite 2202 r10 (.us [(2,2196),(5,2198),(7,2284),(11,2201),(13,2288),(17,2203)] (.ret false)) (.call 2290 (vD r1 ({party:=0,rows:=[]}:ShieldT)) fun r11=>.us [(2,2196),(5,2198),(7,2284),(11,2201),(13,2288),(17,2203),(19,2290)] (.ret (!r11))))) (.us [(2,2196),(5,2198)] (.f1 2294 (.g false) (rfl:false=false) (.use 11 2294 (.f1 2292 (.g false) (rfl:false=false) (.use 17 2292 (.ret false))))))) (.use 2 2196 (.f1 2300 (.g false) (rfl:false=false) (.use 5 2300 (.f1 2298 (.g false) (rfl:false=false) (.use 11 2298 (.f1 2296 (.g false) (rfl:false=false) (.use 17 2296 (.ret false)))))))))) fun v4=>.ret v4))))))))))))))))))))
theorem zdm  (res:Bool) (hd:yp  = some res):APure C0 245 [] (.bool res):=
  Plan.pure (iv:=fun res=>.bool res) (zdl ) (by kernel_rfl) (Plan.run_of hd (by kernel_rfl))
noncomputable def yM (c:ContractT) (n:Int):Option Bool:=
  (Option.bind (bif decide (20 < (c.holders.length:Int)) then some true else (bif decide (30 < (c.units.length:Int)) then some true else (bif decide (70 < (c.acts.length:Int)) then some true else (bif decide (n < (c.clauses.length:Int)) then some true else some (decide (100 < (c.off.length:Int))))))) fun v1=>(bif v1 then some false else (Option.bind (forR (σ:=Unit) (ρ:=Unit) (c.clauses.length:Int) (fun i1 s1=>(Option.bind (ze c.clauses (i1:Int)) fun e1=>(bif decide (20 < (e1.start.length:Int)) then some (.inr ()) else some (.inl ())))) ()) (Sum.elim (fun (s1:Unit)=>some true) (fun (y1:Unit)=>some false)))))
noncomputable def zcm (c:ContractT) (n:Int):Plan Bool:=
  .cut (β:=Bool) 3 (.e [2] (fun v1=>[(34,vB v1)]) [0] 31) (.reg 0 (.ite 2302 (decide (20 < (c.holders.length:Int))) (.ln 2322 zb c.holders (.us [(2,2322),(5,2302)] (.f1 2320 (.g true) (rfl:true=true) (.use 11 2320 (.f1 2318 (.g true) (rfl:true=true) (.use 17 2318 (.f1 2316 (.g true) (rfl:true=true) (.use 24 2316 (.ret true))))))))) (.ite 2304 (decide (30 < (c.units.length:Int))) (.ln 2330 zb c.holders (.us [(2,2330),(5,2302)] (.ln 2328 UnitT.row c.units (.us [(7,2328),(11,2304)] (.f1 2326 (.g true) (rfl:true=true) (.use 17 2326 (.f1 2324 (.g true) (rfl:true=true) (.use 24 2324 (.ret true))))))))) (.ite 2306 (decide (70 < (c.acts.length:Int))) (.ln 2338 zb c.holders (.us [(2,2338),(5,2302)] (.ln 2336 UnitT.row c.units (.us [(7,2336),(11,2304)] (.ln 2334 ActT.row c.acts (.us [(13,2334),(17,2306)] (.f1 2332 (.g true) (rfl:true=true) (.use 24 2332 (.ret true))))))))) (.ite 2308 (decide (n < (c.clauses.length:Int))) (.ln 2346 zb c.holders (.us [(2,2346),(5,2302)] (.ln 2344 UnitT.row c.units (.us [(7,2344),(11,2304)] (.ln 2342 ActT.row c.acts (.us [(13,2342),(17,2306)] (.ln 2340 ClauseT.row c.clauses (.us [(19,2340),(24,2308)] (.ret true))))))))) (.ln 2356 zb c.holders (.us [(2,2356),(5,2302)] (.ln 2354 UnitT.row c.units (.us [(7,2354),(11,2304)] (.ln 2352 ActT.row c.acts (.us [(13,2352),(17,2306)] (.ln 2350 ClauseT.row c.clauses (.us [(19,2350),(24,2308)] (.ln 2348 zb c.off (.use 26 2348 (.ret (decide (100 < (c.off.length:Int))))))))))))))))))) fun v1=>.ite 2310 v1 (.sel 2310 (.ret false)) (.sel 2310 (.forR (σ:=Unit) (ρ:=Unit) 2312 5 (c.clauses.length:Int) () (.e [2] (fun _=>[]) [0] 32) (fun i1 s1=>.reg 0 (.ln 2362 ClauseT.row c.clauses (.use 3 2362 (.sel 2312 (.reg 0 (.ix 2358 ClauseT.row c.clauses (i1:Int) fun e1=>.use 3 2358 (.ln 2360 CondT.row e1.start (.use 6 2360 (.ite 2314 (decide (20 < (e1.start.length:Int))) (.sel 2314 (.ret (.inr ()))) (.sel 2314 (.ret (.inl ())))))))))))) fun os1=>.case os1 (fun s1=>.reg 0 (.ln 2364 ClauseT.row c.clauses (.use 3 2364 (.sel 2312 (.ret true))))) fun y1=>.ret false))
theorem zcn (c:ContractT) (n:Int) (res:Bool) (hd:yM c n=some res):APure C0 94 [.agg (ContractT.row c),.int .i64 n] (.bool res):=
  Plan.pure (iv:=fun res=>.bool res) (zcm c n) (by kernel_rfl) (Plan.run_of hd (by kernel_rfl))
noncomputable def Xg (c:ContractT):Option Bool:=
  (Option.bind (Option.bind (yM c 6) fun r1=>(bif r1 then (bif decide ((c.acts.length:Int)≤8) then some (decide (c.days≤20)) else some false) else some false)) fun v1=>some v1)
noncomputable def zf8 (c:ContractT):Plan Bool:=
  .cut (β:=Bool) 2 (.e [] (fun v1=>[(2,vB v1)]) [0] 16) (.reg 0 (.call 2370 (zcn c 6) fun r1=>.ite 2366 r1 (.ite 2368 (decide ((c.acts.length:Int)≤8)) (.us [(1,2370),(3,2366)] (.ln 2372 ActT.row c.acts (.us [(5,2372),(9,2368)] (.ret (decide (c.days≤20)))))) (.us [(1,2370),(3,2366)] (.ln 2374 ActT.row c.acts (.us [(5,2374),(9,2368)] (.ret false))))) (.us [(1,2370),(3,2366)] (.f1 2376 (.g false) (rfl:false=false) (.use 9 2376 (.ret false)))))) fun v1=>.ret v1
theorem zf9 (c:ContractT) (res:Bool) (hd:Xg c=some res):APure C0 97 [.agg (ContractT.row c)] (.bool res):=
  Plan.pure (iv:=fun res=>.bool res) (zf8 c) (by kernel_rfl) (Plan.run_of hd (by kernel_rfl))
noncomputable def QE (c:ContractT) (s:ShieldT) (d:DoomT):Option Bool:=
  (Option.bind (Option.bind (Xg c) fun r1=>(bif r1 then (bif decide (300 < (s.rows.length:Int)) then some true else some (decide (300 < (d.rows.length:Int)))) else some true)) fun v1=>(bif v1 then some false else (Option.bind (forR (σ:=Unit) (ρ:=Unit) (s.rows.length:Int) (fun i1 s1=>(Option.bind (ze s.rows (i1:Int)) fun e1=>(Option.bind (bif decide (20 < (e1.position.state.holders.length:Int)) then some true else (bif decide (70 < (e1.position.state.used.length:Int)) then some true else some (decide (20 < (e1.position.state.marks.length:Int))))) fun v2=>(bif v2 then some (.inr ()) else some (.inl ()))))) ()) (Sum.elim (fun (s1:Unit)=>(Option.bind (forR (σ:=Unit) (ρ:=Unit) (d.rows.length:Int) (fun i2 s2=>(Option.bind (ze d.rows (i2:Int)) fun e2=>(Option.bind (bif decide (20 < (e2.position.state.holders.length:Int)) then some true else (bif decide (70 < (e2.position.state.used.length:Int)) then some true else some (decide (20 < (e2.position.state.marks.length:Int))))) fun v3=>(bif v3 then some (.inr ()) else some (.inl ()))))) ()) (Sum.elim (fun (s2:Unit)=>some true) (fun (y2:Unit)=>some false)))) (fun (y1:Unit)=>some false)))))
noncomputable def zeE (c:ContractT) (s:ShieldT) (d:DoomT):Plan Bool:=
  .cut (β:=Bool) 3 (.e [4,5] (fun v1=>[(25,vB v1)]) [0,1,2] 19) (.reg 0 (.call 2400 (zf9 c) fun r1=>.ite 2378 r1 (.ite 2380 (decide (300 < (s.rows.length:Int))) (.us [(1,2400),(4,2379)] (.ln 2402 ShieldRowT.row s.rows (.us [(6,2402),(10,2380)] (.ret true)))) (.us [(1,2400),(4,2379)] (.ln 2406 ShieldRowT.row s.rows (.us [(6,2406),(10,2380)] (.ln 2404 DoomRowT.row d.rows (.use 12 2404 (.ret (decide (300 < (d.rows.length:Int)))))))))) (.us [(1,2400),(4,2379)] (.f1 2408 (.g true) (rfl:true=true) (.use 10 2408 (.ret true)))))) fun v1=>.ite 2382 v1 (.sel 2382 (.ret false)) (.sel 2382 (.forR (σ:=Unit) (ρ:=Unit) 2384 7 (s.rows.length:Int) () (.e [4,5] (fun _=>[]) [1,2] 20) (fun i1 s1=>.reg 0 (.ln 2426 ShieldRowT.row s.rows (.use 3 2426 (.sel 2384 (.reg 0 (.ix 2410 ShieldRowT.row s.rows (i1:Int) fun e1=>.use 3 2410 (.cut (β:=Bool) 1 (.e [4,5,7] (fun v2=>[(55,vB v2)]) [1,2,32] 50) (.reg 0 (.ite 2386 (decide (20 < (e1.position.state.holders.length:Int))) (.ln 2414 zb e1.position.state.holders (.us [(2,2414),(5,2386)] (.f1 2412 (.g true) (rfl:true=true) (.use 11 2412 (.ret true))))) (.ite 2388 (decide (70 < (e1.position.state.used.length:Int))) (.ln 2418 zb e1.position.state.holders (.us [(2,2418),(5,2386)] (.ln 2416 zg e1.position.state.used (.us [(7,2416),(11,2388)] (.ret true))))) (.ln 2424 zb e1.position.state.holders (.us [(2,2424),(5,2386)] (.ln 2422 zg e1.position.state.used (.us [(7,2422),(11,2388)] (.ln 2420 MarkT.row e1.position.state.marks (.use 13 2420 (.ret (decide (20 < (e1.position.state.marks.length:Int))))))))))))) fun v2=>.ite 2390 v2 (.sel 2390 (.ret (.inr ()))) (.sel 2390 (.ret (.inl ())))))))))) fun os1=>.case os1 (fun s1=>.reg 0 (.ln 2448 ShieldRowT.row s.rows (.use 3 2448 (.sel 2384 (.forR (σ:=Unit) (ρ:=Unit) 2392 9 (d.rows.length:Int) () (.e [5] (fun _=>[]) [2] 26) (fun i2 s2=>.reg 0 (.ln 2444 DoomRowT.row d.rows (.use 3 2444 (.sel 2392 (.reg 0 (.ix 2428 DoomRowT.row d.rows (i2:Int) fun e2=>.use 3 2428 (.cut (β:=Bool) 1 (.e [5,9] (fun v3=>[(85,vB v3)]) [2,38] 56) (.reg 0 (.ite 2394 (decide (20 < (e2.position.state.holders.length:Int))) (.ln 2432 zb e2.position.state.holders (.us [(2,2432),(5,2394)] (.f1 2430 (.g true) (rfl:true=true) (.use 11 2430 (.ret true))))) (.ite 2396 (decide (70 < (e2.position.state.used.length:Int))) (.ln 2436 zb e2.position.state.holders (.us [(2,2436),(5,2394)] (.ln 2434 zg e2.position.state.used (.us [(7,2434),(11,2396)] (.ret true))))) (.ln 2442 zb e2.position.state.holders (.us [(2,2442),(5,2394)] (.ln 2440 zg e2.position.state.used (.us [(7,2440),(11,2396)] (.ln 2438 MarkT.row e2.position.state.marks (.use 13 2438 (.ret (decide (20 < (e2.position.state.marks.length:Int))))))))))))) fun v3=>.ite 2398 v3 (.sel 2398 (.ret (.inr ()))) (.sel 2398 (.ret (.inl ())))))))))) fun os2=>.case os2 (fun s2=>.reg 0 (.ln 2446 DoomRowT.row d.rows (.use 3 2446 (.sel 2392 (.ret true))))) fun y2=>.ret false))))) fun y1=>.ret false))
theorem zeF (c:ContractT) (s:ShieldT) (d:DoomT) (res:Bool) (hd:QE c s d=some res):APure C0 244 [.agg (ContractT.row c),.agg (ShieldT.row s),.agg (DoomT.row d)] (.bool res):=
  Plan.pure (iv:=fun res=>.bool res) (zeE c s d) (by kernel_rfl) (Plan.run_of hd (by kernel_rfl))
noncomputable def Zq (a:StateT) (b:StateT):Option Bool:=
  (Option.bind (bif (a.day == b.day) then (bif ((a.holders.length:Int) == (b.holders.length:Int)) then (bif ((a.used.length:Int) == (b.used.length:Int)) then some (!((a.marks.length:Int) == (b.marks.length:Int))) else some true) else some true) else some true) fun v1=>(bif v1 then some false else (Option.bind (forR (σ:=Unit) (ρ:=Unit) (a.holders.length:Int) (fun i1 s1=>(Option.bind (ze a.holders (i1:Int)) fun e1=>(Option.bind (ze b.holders (i1:Int)) fun e2=>(bif (e1 == e2) then some (.inl ()) else some (.inr ()))))) ()) (Sum.elim (fun (s1:Unit)=>(Option.bind (forR (σ:=Unit) (ρ:=Unit) (a.used.length:Int) (fun i2 s2=>(Option.bind (ze a.used (i2:Int)) fun e3=>(Option.bind (ze b.used (i2:Int)) fun e4=>(bif (e3 == e4) then some (.inl ()) else some (.inr ()))))) ()) (Sum.elim (fun (s2:Unit)=>(Option.bind (forR (σ:=Unit) (ρ:=Unit) (a.marks.length:Int) (fun i3 s3=>(Option.bind (ze a.marks (i3:Int)) fun e5=>(Option.bind (ze b.marks (i3:Int)) fun e6=>(bif ((e5.status == e6.status)&&((e5.left == e6.left)&&((e5.got == e6.got)&&((e5.bearer == e6.bearer)&&((e5.paused == e6.paused)&&true))))) then some (.inl ()) else some (.inr ()))))) ()) (Sum.elim (fun (s3:Unit)=>some true) (fun (y3:Unit)=>some false)))) (fun (y2:Unit)=>some false)))) (fun (y1:Unit)=>some false)))))
noncomputable def zdn (a:StateT) (b:StateT):Plan Bool:=
  .cut (β:=Bool) 3 (.e [2,3] (fun v1=>[(39,vB v1)]) [0,1] 35) (.reg 0 (.ite 2476 (a.day == b.day) (.ite 2478 ((a.holders.length:Int) == (b.holders.length:Int)) (.ite 2480 ((a.used.length:Int) == (b.used.length:Int)) (.use 6 2477 (.ln 2506 zb a.holders (.use 8 2506 (.ln 2504 zb b.holders (.us [(11,2504),(15,2479)] (.ln 2502 zg a.used (.use 17 2502 (.ln 2500 zg b.used (.us [(20,2500),(24,2481)] (.ln 2498 MarkT.row a.marks (.use 26 2498 (.ln 2496 MarkT.row b.marks (.use 29 2496 (.ret (!((a.marks.length:Int) == (b.marks.length:Int))))))))))))))))) (.use 6 2477 (.ln 2514 zb a.holders (.use 8 2514 (.ln 2512 zb b.holders (.us [(11,2512),(15,2479)] (.ln 2510 zg a.used (.use 17 2510 (.ln 2508 zg b.used (.us [(20,2508),(24,2481)] (.ret true))))))))))) (.use 6 2477 (.ln 2520 zb a.holders (.use 8 2520 (.ln 2518 zb b.holders (.us [(11,2518),(15,2479)] (.f1 2516 (.g true) (rfl:true=true) (.use 24 2516 (.ret true))))))))) (.use 6 2477 (.f1 2524 (.g true) (rfl:true=true) (.use 15 2524 (.f1 2522 (.g true) (rfl:true=true) (.use 24 2522 (.ret true)))))))) fun v1=>.ite 2482 v1 (.sel 2482 (.ret false)) (.sel 2482 (.forR (σ:=Unit) (ρ:=Unit) 2484 5 (a.holders.length:Int) () (.e [2,3] (fun _=>[]) [0,1] 36) (fun i1 s1=>.reg 0 (.ln 2530 zb a.holders (.use 3 2530 (.sel 2484 (.reg 0 (.ix 2526 zb a.holders (i1:Int) fun e1=>.ix 2528 zb b.holders (i1:Int) fun e2=>.us [(3,2526),(8,2528)] (.ite 2486 (e1 == e2) (.sel 2487 (.ret (.inl ()))) (.sel 2487 (.ret (.inr ())))))))))) fun os1=>.case os1 (fun s1=>.reg 0 (.ln 2548 zb a.holders (.use 3 2548 (.sel 2484 (.forR (σ:=Unit) (ρ:=Unit) 2488 6 (a.used.length:Int) () (.e [2,3] (fun _=>[]) [0,1] 42) (fun i2 s2=>.reg 0 (.ln 2536 zg a.used (.use 3 2536 (.sel 2488 (.reg 0 (.ix 2532 zg a.used (i2:Int) fun e3=>.ix 2534 zg b.used (i2:Int) fun e4=>.us [(3,2532),(8,2534)] (.ite 2490 (e3 == e4) (.sel 2491 (.ret (.inl ()))) (.sel 2491 (.ret (.inr ())))))))))) fun os2=>.case os2 (fun s2=>.reg 0 (.ln 2546 zg a.used (.use 3 2546 (.sel 2488 (.forR (σ:=Unit) (ρ:=Unit) 2492 7 (a.marks.length:Int) () (.e [2,3] (fun _=>[]) [0,1] 48) (fun i3 s3=>.reg 0 (.ln 2542 MarkT.row a.marks (.use 3 2542 (.sel 2492 (.reg 0 (.ix 2538 MarkT.row a.marks (i3:Int) fun e5=>.ix 2540 MarkT.row b.marks (i3:Int) fun e6=>.us [(3,2538),(8,2540)] (.ite 2494 ((e5.status == e6.status)&&((e5.left == e6.left)&&((e5.got == e6.got)&&((e5.bearer == e6.bearer)&&((e5.paused == e6.paused)&&true))))) (.sel 2495 (.ret (.inl ()))) (.sel 2495 (.ret (.inr ())))))))))) fun os3=>.case os3 (fun s3=>.reg 0 (.ln 2544 MarkT.row a.marks (.use 3 2544 (.sel 2492 (.ret true))))) fun y3=>.ret false))))) fun y2=>.ret false))))) fun y1=>.ret false))
theorem zdo (a:StateT) (b:StateT) (res:Bool) (hd:Zq a b=some res):APure C0 93 [.agg (StateT.row a),.agg (StateT.row b)] (.bool res):=
  Plan.pure (iv:=fun res=>.bool res) (zdn a b) (by kernel_rfl) (Plan.run_of hd (by kernel_rfl))
noncomputable def vz (a:PosT) (b:PosT):Option Bool:=
  (Option.bind (bif (a.own == b.own) then (Option.bind (Zq a.state b.state) fun r1=>some r1) else some false) fun v1=>some v1)
noncomputable def zco (a:PosT) (b:PosT):Plan Bool:=
  .cut (β:=Bool) 2 (.e [] (fun v1=>[(4,vB v1)]) [0,1] 16) (.reg 0 (.ite 2474 (a.own == b.own) (.call 2550 (zdo a.state b.state) fun r1=>.us [(6,2474),(10,2550)] (.ret r1)) (.use 6 2474 (.ret false)))) fun v1=>.ret v1
theorem zcp (a:PosT) (b:PosT) (res:Bool) (hd:vz a b=some res):APure C0 95 [.agg (PosT.row a),.agg (PosT.row b)] (.bool res):=
  Plan.pure (iv:=fun res=>.bool res) (zco a b) (by kernel_rfl) (Plan.run_of hd (by kernel_rfl))
noncomputable def kJ (c:ContractT) (party:Int) (p:PosT) (move:Int):Option (PosT×Int):=
  (Option.bind (jp c party p) fun r1=>(bif r1 then (Option.bind (α:=Unit ⊕ (Int×(List Int)×(List Bool)×(List MarkT)×Bool)) (Option.bind (yJ c party p) fun r2=>(Option.bind (α:=Unit ⊕ ((Int×(List Int)×(List Bool)×(List MarkT)) ⊕ Unit)) (bif p.own then (Option.bind (ju p.state) fun r3=>(bif ((-2) == move) then some (.inr (.inl (r3.day,r3.holders,r3.used,r3.marks))) else (bif decide (c.days≤p.state.day) then some (.inr (.inr ())) else some (.inl ())))) else (bif decide (c.days≤p.state.day) then some (.inr (.inr ())) else some (.inl ()))) (Sum.elim (fun (v1:Unit)=>(Option.bind (α:=Unit ⊕ (Int×(List Int)×(List Bool)×(List MarkT))) (bif p.own then some (.inl ()) else (Option.bind (d_Step c p.state (-1)) fun r4=>(bif ((-1) == move) then some (.inr (r4.1.day,r4.1.holders,r4.1.used,r4.1.marks)) else some (.inl ())))) (Sum.elim (fun (v2:Unit)=>(Option.bind (forR (σ:=Unit) (ρ:=Int×(List Int)×(List Bool)×(List MarkT)) (c.acts.length:Int) (fun i1 s1=>(Option.bind (α:=Unit ⊕ (Int×(List Int)×(List Bool)×(List MarkT))) (Option.bind (ze c.acts (i1:Int)) fun e1=>(Option.bind (bif (e1.role == (-1)) then some (-1) else (Option.bind (ze p.state.holders e1.role) fun e2=>some e2)) fun (v3:Int)=>(bif ((v3 == party) == p.own) then (Option.bind (d_Step c p.state (i1:Int)) fun r5=>(Option.bind (jD r5.1 p.state) fun r6=>(bif r6 then some (.inl ()) else (bif ((i1:Int) == move) then some (.inr (r5.1.day,r5.1.holders,r5.1.used,r5.1.marks)) else some (.inl ()))))) else some (.inl ())))) (Sum.elim (fun (v4:Unit)=>some (.inl ())) (fun (y4:Int×(List Int)×(List Bool)×(List MarkT))=>some (.inr (y4.1,y4.2.1,y4.2.2.1,y4.2.2.2)))))) ()) (Sum.elim (fun (s1:Unit)=>some (.inl ())) (fun (y5:Int×(List Int)×(List Bool)×(List MarkT))=>some (.inr (y5.1,y5.2.1,y5.2.2.1,y5.2.2.2,true)))))) (fun (y3:Int×(List Int)×(List Bool)×(List MarkT))=>some (.inr (y3.1,y3.2.1,y3.2.2.1,y3.2.2.2,true)))))) (Sum.elim (fun (y1:Int×(List Int)×(List Bool)×(List MarkT))=>some (.inr (y1.1,y1.2.1,y1.2.2.1,y1.2.2.2,false))) (fun (y2:Unit)=>some (.inl ())))))) (Sum.elim (fun (v5:Unit)=>some (({state:=({day:=0,holders:=[],used:=[],marks:=[]}:StateT),own:=false}:PosT),13)) (fun (y6:Int×(List Int)×(List Bool)×(List MarkT)×Bool)=>some (({state:=({day:=y6.1,holders:=y6.2.1,used:=y6.2.2.1,marks:=y6.2.2.2.1}:StateT),own:=y6.2.2.2.2}:PosT),0)))) else some (({state:=({day:=0,holders:=[],used:=[],marks:=[]}:StateT),own:=false}:PosT),1)))
noncomputable def zeG (c:ContractT) (party:Int) (p:PosT) (move:Int):Plan (PosT×Int):=
  .reg 1 (.call 2820 (Zj c party p) fun r1=>.use 3 2820 (.ite 2796 r1 (.sel 2797 (.cutO (β:=Unit) (γ:=Int×(List Int)×(List Bool)×(List MarkT)×Bool) 1 (.e [8,9] (fun _=>[]) [3,4] 38) (.reg 0 (.b1 2822 (yJ c party p) (fun r2=>.c [] 0 (.func 79 [] [.ptr 15 0 0,.ptr 13 0 0,.ptr 14 0 0]) [(13,.rows 7 [zl (ContractT.row c)]),(14,.rows 1 [[vI party]]),(15,.rows 5 [zl (PosT.row p)])] 3) (fun r2 hr2=>(zh (zd2 c party p r2 hr2) [] 13 (.keep (.keep (.keep .nil))) rhN (rhR (rhR (rhR rhN))))) fun r2=>.use 3 2822 (.cutO (β:=Unit) (γ:=(Int×(List Int)×(List Bool)×(List MarkT)) ⊕ Unit) 3 (.e [0,1,2,3] (fun _=>[]) [2,3,4,15,14,13,17] 37) (.reg 0 (.ite 2798 p.own (.call 2836 (Zk p.state) fun r3=>.us [(3,2798),(6,2836)] (.ite 2800 ((-2) == move) (.sel 2800 (.f1 2838 (.g true) (rfl:(!false)=true) (.use 12 2838 (.ret (.inr (.inl (r3.day,r3.holders,r3.used,r3.marks))))))) (.sel 2800 (.f1 2840 (.g false) (rfl:(!true)=false) (.use 12 2840 (.ite 2802 (decide (c.days≤p.state.day)) (.sel 2802 (.ret (.inr (.inr ())))) (.sel 2802 (.ret (.inl ()))))))))) (.use 3 2798 (.f1 2842 (.g false) (rfl:false=false) (.use 12 2842 (.ite 2804 (decide (c.days≤p.state.day)) (.sel 2804 (.ret (.inr (.inr ())))) (.sel 2804 (.ret (.inl ()))))))))) fun o_v1=>.case o_v1 (fun v1=>.cutO (β:=Unit) (γ:=Int×(List Int)×(List Bool)×(List MarkT)) 1 (.e [0,1,2,3] (fun _=>[]) [2,3,4,15,14,13,17] 40) (.ite 2806 p.own (.sel 2807 (.ret (.inl ()))) (.sel 2807 (.reg 0 (.call 2834 (yi c p.state (-1)) fun r4=>.use 3 2834 (.reg 0 (.ite 2808 ((-1) == move) (.sel 2808 (.ret (.inr (r4.1.day,r4.1.holders,r4.1.used,r4.1.marks)))) (.sel 2808 (.ret (.inl ()))))))))) fun o_v2=>.case o_v2 (fun v2=>.reg 0 (.ln 2832 ActT.row c.acts (.use 2 2832 (.forR (σ:=Unit) (ρ:=Int×(List Int)×(List Bool)×(List MarkT)) 2810 49 (c.acts.length:Int) () (.e [0,1,2,3,47,48] (fun _=>[]) [2,3,4,15,14,13,17] 44) (fun i1 s1=>.sel 2810 (.cutO (β:=Unit) (γ:=Int×(List Int)×(List Bool)×(List MarkT)) 1 (.e [0,1,2,3,47,48,49] (fun _=>[]) [2,3,4,15,14,13,17] 61) (.reg 0 (.ix 2824 ActT.row c.acts (i1:Int) fun e1=>.use 1 2824 (.cut (β:=Int) 2 (.e [0,1,2,3,47,48,49,7] (fun v3=>[(9,vI v3)]) [2,3,4,15,14,13,17] 55) (.ite 2812 (e1.role == (-1)) (.sel 2813 (.ret (-1))) (.sel 2813 (.reg 0 (.ix 2826 zb p.state.holders e1.role fun e2=>.use 5 2826 (.ret e2))))) fun v3=>.ite 2814 ((v3 == party) == p.own) (.sel 2815 (.reg 0 (.call 2828 (yi c p.state (i1:Int)) fun r5=>.use 4 2828 (.reg 0 (.call 2830 (XW r5.1 p.state) fun r6=>.ite 2816 r6 (.us [(3,2830),(6,2817)] (.ret (.inl ()))) (.us [(3,2830),(6,2817)] (.ite 2818 ((i1:Int) == move) (.sel 2818 (.ret (.inr (r5.1.day,r5.1.holders,r5.1.used,r5.1.marks)))) (.sel 2818 (.ret (.inl ())))))))))) (.sel 2815 (.ret (.inl ())))))) fun o_v4=>.case o_v4 (fun v4=>.ret (.inl ())) fun y4=>.ret (.inr (y4.1,y4.2.1,y4.2.2.1,y4.2.2.2)))) fun os1=>.case os1 (fun s1=>.sel 2810 (.ret (.inl ()))) fun y5=>.ret (.inr (y5.1,y5.2.1,y5.2.2.1,y5.2.2.2,true)))))) fun y3=>.ret (.inr (y3.1,y3.2.1,y3.2.2.1,y3.2.2.2,true))) fun zy1=>.case zy1 (fun y1=>.ret (.inr (y1.1,y1.2.1,y1.2.2.1,y1.2.2.2,false))) fun y2=>.ret (.inl ())))) fun o_v5=>.case o_v5 (fun v5=>.ret (({state:=({day:=0,holders:=[],used:=[],marks:=[]}:StateT),own:=false}:PosT),13)) fun y6=>.ret (({state:=({day:=y6.1,holders:=y6.2.1,used:=y6.2.2.1,marks:=y6.2.2.2.1}:StateT),own:=y6.2.2.2.2}:PosT),0))) (.sel 2797 (.ret (({state:=({day:=0,holders:=[],used:=[],marks:=[]}:StateT),own:=false}:PosT),1)))))
theorem zeH (c:ContractT) (party:Int) (p:PosT) (move:Int) (res:PosT×Int) (hd:kJ c party p move=some res):APure C0 72 [.agg (ContractT.row c),.int .i64 party,.agg (PosT.row p),.int .i64 move] (.tuple [.agg (PosT.row res.1),.int .i64 res.2]):=
  Plan.pure (iv:=fun res=>.tuple [.agg (PosT.row res.1),.int .i64 res.2]) (zeG c party p move) (by kernel_rfl) (Plan.run_of hd (by kernel_rfl))
noncomputable def wd (c:ContractT) (d:DoomT) (raw:Int) (choices:List Int):Option Bool:=
  (Option.bind (yp) fun r1=>(Option.bind (Option.bind (QE c ({party:=0,rows:=[]}:ShieldT) d) fun r2=>(bif r2 then (bif decide (300 < (choices.length:Int)) then some true else (Option.bind (qP c d) fun r3=>some (!r3))) else some true)) fun v1=>(bif v1 then some r1 else (bif ((d.rows.length:Int) == 0) then some false else (Option.bind (xa .i64 (IntKind.i64.wrap raw) (d.rows.length:Int)) fun e1=>(Option.bind (ze d.rows e1) fun e2=>(Option.bind (α:=(Int×(List Int)×(List Bool)×(List MarkT)×Bool) ⊕ Unit) (Option.bind (iter (σ:=Int×Int×(List Int)×(List Bool)×(List MarkT)×Bool) (ρ:=(Int×(List Int)×(List Bool)×(List MarkT)×Bool) ⊕ Unit) (fun s1=>(Option.bind (bif decide (s1.1 < e2.rank) then some (decide (s1.1 < 300)) else some false) fun v2=>(bif v2 then (Option.bind (forR (σ:=Int) (ρ:=Unit) (d.rows.length:Int) (fun i2 s2=>(Option.bind (Option.bind (Option.bind (ze d.rows (i2:Int)) fun e3=>(Option.bind (vz e3.position ({state:=({day:=s1.2.1,holders:=s1.2.2.1,used:=s1.2.2.2.1,marks:=s1.2.2.2.2.1}:StateT),own:=s1.2.2.2.2.2}:PosT)) fun r4=>(bif r4 then (bif decide (s2 < 0) then some true else (Option.bind (ze d.rows s2) fun e4=>some (decide (e3.rank < e4.rank)))) else some false))) fun v3=>(bif v3 then some (i2:Int) else some s2)) fun (v4:Int)=>some (.inl v4))) (-1)) (Sum.elim (fun (s2:Int)=>(Option.bind (bif decide (s2 < 0) then some true else (Option.bind (ze d.rows s2) fun e5=>some (decide ((IntKind.i64.wrap (e2.rank - s1.1)) < e5.rank)))) fun v5=>(bif v5 then some (.inr (.inr ())) else (Option.bind (ze d.rows s2) fun e6=>(bif (e6.rank == 0) then some (.inr (.inl (s1.2.1,s1.2.2.1,s1.2.2.2.1,s1.2.2.2.2.1,s1.2.2.2.2.2))) else (Option.bind (xp c d.party ({state:=({day:=s1.2.1,holders:=s1.2.2.1,used:=s1.2.2.2.1,marks:=s1.2.2.2.2.1}:StateT),own:=s1.2.2.2.2.2}:PosT)) fun r5=>(Option.bind (bif (r5.2 == 0) then some ((r5.1.length:Int) == 0) else some true) fun v6=>(bif v6 then some (.inr (.inr ())) else (Option.bind (ze d.rows s2) fun e7=>(Option.bind (bif s1.2.2.2.2.2 then (Option.bind (ze r5.1 0) fun e8=>(bif decide (s1.1 < (choices.length:Int)) then (Option.bind (ze choices s1.1) fun e9=>(Option.bind (xa .i64 (IntKind.i64.wrap e9) (r5.1.length:Int)) fun e10=>(Option.bind (ze r5.1 e10) fun e11=>some e11))) else some e8)) else some e7.move) fun (v7:Int)=>(Option.bind (kJ c d.party ({state:=({day:=s1.2.1,holders:=s1.2.2.1,used:=s1.2.2.2.1,marks:=s1.2.2.2.2.1}:StateT),own:=s1.2.2.2.2.2}:PosT) v7) fun r6=>(bif (r6.2 == 0) then some (.inl ((IntKind.i64.wrap (s1.1+1)),r6.1.state.day,r6.1.state.holders,r6.1.state.used,r6.1.state.marks,r6.1.own)) else some (.inr (.inr ())))))))))))))) (fun _=>none))) else some (.inr (.inl (s1.2.1,s1.2.2.1,s1.2.2.2.1,s1.2.2.2.2.1,s1.2.2.2.2.2)))))) (0,e2.position.state.day,e2.position.state.holders,e2.position.state.used,e2.position.state.marks,e2.position.own)) (Sum.elim (fun (y1:Int×(List Int)×(List Bool)×(List MarkT)×Bool)=>some (.inl (y1.1,y1.2.1,y1.2.2.1,y1.2.2.2.1,y1.2.2.2.2))) (fun (y2:Unit)=>some (.inr ())))) (Sum.elim (fun (v8:Int×(List Int)×(List Bool)×(List MarkT)×Bool)=>(Option.bind (bif r1 then (bif decide (300 < e2.rank) then some true else (Option.bind (jO c ({day:=v8.1,holders:=v8.2.1,used:=v8.2.2.1,marks:=v8.2.2.2.1}:StateT) d.party) fun r7=>some r7)) else some false) fun v9=>some v9)) (fun (y3:Unit)=>some false)))))))))
noncomputable def Xh (c:ContractT) (d:DoomT) (raw:Int) (choices:List Int):Plan Bool:=
  .reg 1 (.call 2878 zdm fun r1=>.use 0 2878 (.cut (β:=Bool) 2 (.e [2,3,4,5,9] (fun v1=>[(36,vB v1)]) [0,1] 21) (.reg 0 (.call 2880 (zeF c ({party:=0,rows:=[]}:ShieldT) d) fun r2=>.ite 2758 r2 (.ite 2760 (decide (300 < (choices.length:Int))) (.us [(3,2880),(6,2759)] (.ln 2882 (vC .u8) choices (.us [(7,2882),(11,2760)] (.ret true)))) (.call 2884 (kg c d) fun r3=>.us [(3,2880),(6,2759)] (.ln 2886 (vC .u8) choices (.us [(7,2886),(11,2760),(13,2884)] (.ret (!r3)))))) (.us [(3,2880),(6,2759)] (.f1 2888 (.g true) (rfl:true=true) (.use 11 2888 (.ret true)))))) fun v1=>.ite 2762 v1 (.sel 2762 (.ret r1)) (.sel 2762 (.reg 0 (.ln 2932 DoomRowT.row d.rows (.use 2 2932 (.ite 2764 ((d.rows.length:Int) == 0) (.sel 2764 (.ret false)) (.sel 2764 (.reg 0 (.b1 2890 (xa .i64 (IntKind.i64.wrap raw) (d.rows.length:Int)) (fun e1=>.v (.int .i64 e1)) (fun e1 he1=>(Q8 he1)) fun e1=>.ix 2892 DoomRowT.row d.rows e1 fun e2=>.ln 2930 DoomRowT.row d.rows (.us [(6,2930),(7,2890),(8,2892)] (.cutO (β:=Int×(List Int)×(List Bool)×(List MarkT)×Bool) (γ:=Unit) 2 (.k [4,5,9,10,11] (fun _=>[]) [0,1,35] (fun v8=>[(39,.rows 5 [[vI v8.1,.imm (.slice (List.map zb v8.2.1)),.imm (.slice (List.map zg v8.2.2.1)),.imm (.slice (List.map MarkT.row v8.2.2.2.1)),vB v8.2.2.2.2]])]) 42 fun _=>(.exp rfl rfl .nil)) (.iter (σ:=Int×Int×(List Int)×(List Bool)×(List MarkT)×Bool) (ρ:=(Int×(List Int)×(List Bool)×(List MarkT)×Bool) ⊕ Unit) (0,e2.position.state.day,e2.position.state.holders,e2.position.state.used,e2.position.state.marks,e2.position.own) (.k [3,4,5,9,10,11] (fun s1=>[(12,vI s1.1)]) [0,1,35] (fun s1=>[(39,.rows 5 [[vI s1.2.1,.imm (.slice (List.map zb s1.2.2.1)),.imm (.slice (List.map zg s1.2.2.2.1)),.imm (.slice (List.map MarkT.row s1.2.2.2.2.1)),vB s1.2.2.2.2.2]])]) 42 fun _=>(.exp rfl rfl .nil)) (fun s1=>.cut (β:=Bool) 2 (.e [3,4,5,9,10,11,12] (fun v2=>[(61,vB v2)]) [0,1,35,39] 50) (.reg 0 (.ite 2846 (decide (s1.1 < e2.rank)) (.use 5 2846 (.ret (decide (s1.1 < 300)))) (.use 5 2846 (.ret false)))) fun v2=>.ite 2848 v2 (.sel 2848 (.forR (σ:=Int) (ρ:=Unit) 2850 14 (d.rows.length:Int) (-1) (.e [3,4,5,9,10,11,12] (fun s2=>[(13,vI s2)]) [0,1,35,39] 52) (fun i2 s2=>.reg 0 (.ln 2902 DoomRowT.row d.rows (.use 3 2902 (.sel 2850 (.cut (β:=Int) 1 (.e [3,4,5,9,10,11,12,14] (fun v4=>[(13,vI v4)]) [0,1,35,39] 84) (.cut (β:=Bool) 2 (.e [3,4,5,9,10,11,12,13,14] (fun v3=>[(97,vB v3)]) [0,1,35,39] 84) (.reg 0 (.ix 2896 DoomRowT.row d.rows (i2:Int) fun e3=>.call 2898 (zcp e3.position ({state:=({day:=s1.2.1,holders:=s1.2.2.1,used:=s1.2.2.2.1,marks:=s1.2.2.2.2.1}:StateT),own:=s1.2.2.2.2.2}:PosT)) fun r4=>.ite 2852 r4 (.ite 2854 (decide (s2 < 0)) (.us [(3,2896),(7,2898),(9,2852),(12,2854)] (.ret true)) (.ix 2900 DoomRowT.row d.rows s2 fun e4=>.us [(3,2896),(7,2898),(9,2852),(12,2854),(15,2896),(21,2900)] (.ret (decide (e3.rank < e4.rank))))) (.us [(3,2896),(7,2898),(9,2852)] (.ret false)))) fun v3=>.ite 2856 v3 (.sel 2856 (.ret (i2:Int))) (.sel 2856 (.ret s2))) fun v4=>.ret (.inl v4)))))) fun os2=>.case os2 (fun s2=>.reg 0 (.ln 2928 DoomRowT.row d.rows (.use 3 2928 (.sel 2850 (.cut (β:=Bool) 2 (.e [3,4,5,9,10,11,12,13] (fun v5=>[(113,vB v5)]) [0,1,35,39] 72) (.reg 0 (.ite 2858 (decide (s2 < 0)) (.use 3 2858 (.ret true)) (.ix 2904 DoomRowT.row d.rows s2 fun e5=>.us [(3,2858),(6,2904)] (.ret (decide ((IntKind.i64.wrap (e2.rank - s1.1)) < e5.rank)))))) fun v5=>.ite 2860 v5 (.sel 2860 (.ret (.inr (.inr ())))) (.sel 2860 (.reg 0 (.ix 2906 DoomRowT.row d.rows s2 fun e6=>.use 3 2906 (.ite 2862 (e6.rank == 0) (.sel 2862 (.ret (.inr (.inl (s1.2.1,s1.2.2.1,s1.2.2.2.1,s1.2.2.2.2.1,s1.2.2.2.2.2))))) (.sel 2862 (.reg 0 (.call 2908 (Kv c d.party ({state:=({day:=s1.2.1,holders:=s1.2.2.1,used:=s1.2.2.2.1,marks:=s1.2.2.2.2.1}:StateT),own:=s1.2.2.2.2.2}:PosT)) fun r5=>.use 4 2908 (.cut (β:=Bool) 2 (.e [3,4,5,9,10,11,12,13,15] (fun v6=>[(135,vB v6)]) [0,1,35,39] 96) (.reg 0 (.ite 2864 (r5.2 == 0) (.use 3 2865 (.ln 2910 zb r5.1 (.use 4 2910 (.ret ((r5.1.length:Int) == 0))))) (.use 3 2865 (.ret true)))) fun v6=>.ite 2866 v6 (.sel 2866 (.ret (.inr (.inr ())))) (.sel 2866 (.reg 0 (.ix 2912 DoomRowT.row d.rows s2 fun e7=>.use 3 2912 (.cut (β:=Int) 1 (.e [3,4,5,9,10,11,12] (fun v7=>[(17,vI v7)]) [0,1,35,39] 105) (.ite 2868 s1.2.2.2.2.2 (.sel 2868 (.reg 0 (.ix 2914 zb r5.1 0 fun e8=>.use 1 2914 (.reg 0 (.ln 2924 (vC .u8) choices (.use 2 2924 (.ite 2870 (decide (s1.1 < (choices.length:Int))) (.sel 2870 (.reg 0 (.ix 2916 (vC .u8) choices s1.1 fun e9=>.b1 2918 (xa .i64 (IntKind.i64.wrap e9) (r5.1.length:Int)) (fun e10=>.v (.int .i64 e10)) (fun e10 he10=>(Q8 he10)) fun e10=>.ix 2920 zb r5.1 e10 fun e11=>.use 3 2916 (.ln 2922 zb r5.1 (.us [(7,2922),(8,2918),(9,2920)] (.ret e11)))))) (.sel 2870 (.ret e8))))))))) (.sel 2868 (.ret e7.move))) fun v7=>.reg 0 (.call 2926 (zeH c d.party ({state:=({day:=s1.2.1,holders:=s1.2.2.1,used:=s1.2.2.2.1,marks:=s1.2.2.2.2.1}:StateT),own:=s1.2.2.2.2.2}:PosT) v7) fun r6=>.use 5 2926 (.ite 2872 (r6.2 == 0) (.sel 2873 (.ret (.inl ((IntKind.i64.wrap (s1.1+1)),r6.1.state.day,r6.1.state.holders,r6.1.state.used,r6.1.state.marks,r6.1.own)))) (.sel 2873 (.ret (.inr (.inr ()))))))))))))))))))))))) fun _=>.none)) (.sel 2848 (.ret (.inr (.inl (s1.2.1,s1.2.2.1,s1.2.2.2.1,s1.2.2.2.2.1,s1.2.2.2.2.2)))))) fun os1=>.case os1 (fun y1=>.ret (.inl (y1.1,y1.2.1,y1.2.2.1,y1.2.2.2.1,y1.2.2.2.2))) fun y2=>.ret (.inr ())) fun o_v8=>.case o_v8 (fun v8=>.cut (β:=Bool) 1 (.e [] (fun v9=>[(8,vB v9)]) [0,1,35,39] 57) (.reg 0 (.ite 2874 r1 (.ite 2876 (decide (300 < e2.rank)) (.us [(2,2874),(6,2876)] (.ret true)) (.call 2894 (Jk c ({day:=v8.1,holders:=v8.2.1,used:=v8.2.2.1,marks:=v8.2.2.2.1}:StateT) d.party) fun r7=>.us [(2,2874),(6,2876),(11,2894)] (.ret r7))) (.use 2 2874 (.ret false)))) fun v9=>.ret v9) fun y3=>.ret false))))))))))))
theorem Xi (c:ContractT) (d:DoomT) (raw:Int) (choices:List Int) (res:Bool) (hd:wd c d raw choices=some res):APure C0 238 [.agg (ContractT.row c),.agg (DoomT.row d),.int .u16 raw,.slice (List.map (vC .u8) choices)] (.bool res):=
  Plan.pure (iv:=fun res=>.bool res) (Xh c d raw choices) (by kernel_rfl) (Plan.run_of hd (by kernel_rfl))
end Go.Proofs.YtmoedieenlaegaaGreatDoor
namespace Go.Proofs.YtmoedieenlaegaaGreatDoor
set_option linter.unusedSimpArgs false
set_option linter.unusedVariables false
set_option maxRecDepth 100000
theorem zcq (a b:Int):∃ r,iter (σ:=Int×Int) (ρ:=Int) (fun s2=>(bif (s2.2 == 0) then some (.inr s2.1) else (Option.bind (xa .u64 s2.1 s2.2) fun e2=>some (.inl (s2.2,e2))))) (a,b)=some r:=by
  have:=WF (f:=fun s2:Int×Int=>(bif (s2.2 == 0) then some (.inr s2.1) else (Option.bind (xa .u64 s2.1 s2.2) fun e2=>some (.inl (s2.2,e2))))) (fun _=>True) (fun _:Int=>True) (fun s=>s.2.natAbs) (fun s _=>by
    by_cases h:s.2=0
    · exact ⟨.inr s.1,by simp [h],trivial⟩
    · refine ⟨.inl (s.2,s.1.tmod s.2),by simp [beq_eq_false_iff_ne.2 h,h,xa],trivial,?_⟩
      show (s.1.tmod s.2).natAbs < s.2.natAbs
      rw [Int.natAbs_tmod]
      exact Nat.mod_lt _ (by omega)) (a,b) trivial
  obtain ⟨r,h,_⟩:=this
  exact ⟨r,h⟩
theorem W0 (l:List Int) (hl:l.length < 1000):∃ r,vr l=some r:=by
  unfold vr
  obtain ⟨o,h1,h2⟩:=xn (n:=l.length) (s0:=(0:Int)) (f:=(fun i1 s1=>(Option.bind (Option.bind (ze l (i1:Int)) fun e1=>(Option.bind (iter (σ:=Int×Int) (ρ:=Int) (fun s2=>(bif (s2.2 == 0) then some (.inr s2.1) else (Option.bind (xa .u64 s2.1 s2.2) fun e2=>some (.inl (s2.2,e2))))) (s1,e1)) (fun (y1:Int)=>some y1))) fun (v1:Int)=>some (.inl v1)))) (fun _ _=>True) (fun _:Unit=>False) (by omega) trivial (fun i s hi _=>by
    obtain ⟨r,hr⟩:=zcq s l[i]
    exact ⟨.inl r,by simp only [zQ,List.getElem?_eq_getElem hi,Option.bind_some,hr],trivial⟩)
  rw [h1]
  cases o with
  | inl s=>exact ⟨s,rfl⟩
  | inr r=>exact h2.elim
theorem yN (n:Int):∃ r,xA n=some r:=by
  unfold xA;simp only [zj];exact ⟨_,rfl⟩
noncomputable def rvB (r:Ratio):Bool:=(qT r).getD false
theorem Qc (r:Ratio):qT r=some (rvB r):=by
  have:∃ b,qT r=some b:=by
    unfold qT
    obtain ⟨a,ha⟩:=yN r.num
    obtain ⟨b,hb⟩:=yN r.den
    obtain ⟨g,hg⟩:=W0 [a,b] (by simp)
    simp only [ha,hb,hg,zj,Option.bind_some]
    exact ⟨_,rfl⟩
  obtain ⟨b,hb⟩:=this
  unfold rvB;rw [hb];rfl
def zga (x:Option (Int×Bool)):Bool:=(x.getD (0,false)).2
theorem zeI {x:Option (Int×Bool)} {r:Int×Bool} (h:x=some r):x=some (r.1,zga x):=by subst h;rfl
noncomputable def quB (l:List UnitT):Bool:=zga (qW l)
theorem Xj (t:List UnitT) (i:Nat) (hi:i < t.length) (ht:t.length < 1000):∃ b,xB t i=some b:=by
  unfold xB
  have hs:yY t 0 (i:Int)=some (t.take i):=by
    unfold yY;rw [if_pos ⟨by omega,by omega,by omega⟩];simp
  have hf:forR (σ:=Unit) (ρ:=Unit) ((t.take i).length:Int) (fun i1 s1=>(Option.bind (ze (t.take i) (i1:Int)) fun e3=>(bif (e3.name.toList == t[i].name.toList) then some (.inr ()) else some (.inl ())))) ()=some (match (List.range (t.take i).length).find? (fun j=>!(match (t.take i)[j]? with | some e=>!(e.name.toList == t[i].name.toList) | none=>true)) with | none=>.inl () | some j=>.inr ()):=by
    refine jo _ (fun _=>()) (by simp;omega) (fun j hj => ?_)
    simp only [zQ,List.getElem?_eq_getElem hj,Option.bind_some]
    cases ((t.take i)[j].name.toList == t[i].name.toList)<;>rfl
  rw [zV (List.getElem?_eq_getElem hi)]
  simp only [Option.bind_some]
  rw [hs]
  simp only [Option.bind_some]
  rw [hf]
  simp only [Qc,zj,Option.bind_some,Z2]
  split
  all_goals simp only [Sum.elim_inl,Sum.elim_inr,zj]
  · by_cases hb:0≤t[i].base∧t[i].base < t.length
    · obtain ⟨h1,h2⟩:=qC hb.1 hb.2
      simp only [h2,Option.bind_some,zj]
      exact ⟨_,rfl⟩
    · by_cases h1:0≤t[i].base
      · have:¬ t[i].base < t.length:=fun h=>hb ⟨h1,h⟩
        simp only [h1,this,decide_true,decide_false,cond_true,cond_false,Option.bind_some,zj]
        exact ⟨_,rfl⟩
      · simp only [h1,decide_false,cond_false,Option.bind_some,zj]
        exact ⟨_,rfl⟩
  · exact ⟨_,rfl⟩
theorem Xk (l:List UnitT) (hl:l.length < 1000):∃ k,qW l=some (k,quB l):=by
  have:∃ r,qW l=some r:=by
    unfold qW
    obtain ⟨o,h1,h2⟩:=xn (n:=l.length) (s0:=()) (f:=(fun i1 s1=>(Option.bind (xB l (i1:Int)) fun r1=>(bif r1 then some (.inl ()) else some (.inr (i1:Int)))))) (fun _ _=>True) (fun _:Int=>True) (by omega) trivial (fun i s hi _=>by
      obtain ⟨b,hb⟩:=Xj l i hi hl
      cases b with
      | true=>exact ⟨.inl (),by simp [hb],trivial⟩
      | false=>exact ⟨.inr i,by simp [hb],trivial⟩)
    rw [h1]
    cases o with
    | inl s=>exact ⟨_,rfl⟩
    | inr r=>exact ⟨_,rfl⟩
  obtain ⟨r,hr⟩:=this
  exact ⟨r.1,zeI hr⟩
def xt (nh:Nat) (r:Int):Bool:=decide (0≤r)&&decide (r < nh)
theorem Qd (c:ContractT) (r:Int):qU c r=some (xt c.holders.length r):=by
  simp only [qU,zj,Option.bind_some,xt,Bool.cond_false_right]
noncomputable def Yn (r:Ratio):Bool:=decide (0 < r.num)&&rvB r
theorem Xl (r:Ratio):jL r=some (Yn r):=by
  simp only [jL,Qc,zj,Option.bind_some,Yn,Bool.cond_false_right]
def QF (r:Ratio):Bool:=r.num == 0&&(r.den == 1&&true)
noncomputable def XZ (nh nu:Nat) (parties:Int) (a:ActT):Bool:=
  bif xt nh a.role then
    (bif a.kind == 1 then (a.give == 0&&(a.to == -1||xt nh a.to))&&(bif a.unit == -1 then QF a.lot else (decide (0≤a.unit)&&(decide (a.unit < nu)&&Yn a.lot)))
    else (a.kind == 2||a.kind == 3)&&(xt nh a.give&&(decide (0≤a.to)&&(decide (a.to < parties)&&(a.unit == -1&&QF a.lot)))))
  else a.kind == 1&&(a.role == -1&&(a.give == 0&&((a.to == -1||xt nh a.to)&&(a.unit == -1&&QF a.lot))))
theorem zaH (c:ContractT) (a:ActT):x9 c a=some (XZ c.holders.length c.units.length c.parties a):=by
  simp only [x9,Qd,Xl,vt,Option.bind_some,zj,XZ,QF]
  cases xt c.holders.length a.role<;>cases (a.kind == 1)<;>cases (a.give == 0)<;>cases (a.to == -1)<;>cases (xt c.holders.length a.to)<;>cases (a.unit == -1) <;>
    simp only [cond_true,cond_false,Bool.not_true,Bool.not_false,Option.bind_some,Bool.true_or,Bool.false_or,Bool.true_and,Bool.false_and,zj,Bool.cond_false_right,Bool.cond_self,Bool.and_false] <;>
    first | rfl | (cases (a.role == -1)<;>rfl) | (cases (a.kind == 2)<;>rfl)
def vK (parties:Int) (hs:List Int):Bool:=hs.all fun h=>decide (0≤h)&&decide (h < parties)
theorem zgb (c:ContractT) (hp:c.parties < 4611686018427387904) (hl:c.holders.length < 4611686018427387904):J0 c=some (vK c.parties c.holders):=by
  unfold J0
  have hin:∀ (i:Nat) (hi:i < c.holders.length),(Option.bind (α:=Unit ⊕ Unit) (Option.bind (forR (σ:=Unit) (ρ:=Unit) c.parties (fun i2 s2=>(Option.bind (ze c.holders (i:Int)) fun e1=>(bif (e1 == (i2:Int)) then some (.inr ()) else some (.inl ())))) ()) (Sum.elim (fun (s2:Unit)=>some (.inr ())) (fun (y1:Unit)=>some (.inl ())))) (Sum.elim (fun (v1:Unit)=>some (.inl ())) (fun (y2:Unit)=>some (.inr ())))) =
      some (bif decide (0≤c.holders[i])&&decide (c.holders[i] < c.parties) then (.inl ():Unit ⊕ Unit) else .inr ()):=fun i hi=>by
    obtain ⟨o,h1,h2⟩:=WE (n:=c.parties) (s0:=()) (f:=(fun i2 s2=>(Option.bind (ze c.holders (i:Int)) fun e1=>(bif (e1 == (i2:Int)) then some (.inr ()) else some (.inl ()))))) (fun k _=>∀ j:Nat,j < k→c.holders[i]≠(j:Int)) (fun _:Unit=>0≤c.holders[i]∧c.holders[i] < c.parties) hp (fun j hj=>by omega) (fun k s hk hI=>by
      simp only [zQ,List.getElem?_eq_getElem hi,Option.bind_some]
      by_cases he:c.holders[i]=(k:Int)
      · exact ⟨.inr (),by simp [he],by show 0≤c.holders[i]∧c.holders[i] < c.parties;omega⟩
      · refine ⟨.inl (),by rw [beq_eq_false_iff_ne.2 he];rfl,fun j hj => ?_⟩
        rcases Nat.lt_or_ge j k with h | h
        · exact hI j h
        · obtain rfl:j=k:=by omega
          exact he)
    rw [h1]
    cases o with
    | inl s=>
      have:¬ (0≤c.holders[i]∧c.holders[i] < c.parties):=fun h=>h2 c.holders[i].toNat (by omega) (by omega)
      have hb:(decide (0≤c.holders[i])&&decide (c.holders[i] < c.parties))=false:=by
        rw [Bool.eq_false_iff];simp only [ne_eq,Bool.and_eq_true,decide_eq_true_eq];exact this
      rw [hb];rfl
    | inr r=>
      have hb:(decide (0≤c.holders[i])&&decide (c.holders[i] < c.parties))=true:=by
        simp only [Bool.and_eq_true,decide_eq_true_eq];exact h2
      rw [hb];rfl
  rw [jo (fun i=>match c.holders[i]? with | some h=>decide (0≤h)&&decide (h < c.parties) | none=>true) (fun _=>()) hl (fun i hi=>by
    rw [hin i hi];simp only [List.getElem?_eq_getElem hi])]
  cases hf:(List.range c.holders.length).find? (fun j=>!(match c.holders[j]? with | some h=>decide (0≤h)&&decide (h < c.parties) | none=>true)) with
  | none=>
    simp only [Option.bind_some,Sum.elim_inl]
    have:vK c.parties c.holders=true:=List.all_eq_true.2 fun h hh=>by
      obtain ⟨i,hi,rfl⟩:=List.getElem_of_mem hh
      have:=xd hf i hi
      simpa only [List.getElem?_eq_getElem hi] using this
    rw [this]
  | some k=>
    simp only [Option.bind_some,Sum.elim_inr]
    obtain ⟨h1,h2,_⟩:=xe hf
    have:vK c.parties c.holders=false:=by
      rw [Bool.eq_false_iff]
      intro h
      have:=List.all_eq_true.1 h c.holders[k] (List.getElem_mem h1)
      simp only [List.getElem?_eq_getElem h1] at h2
      rw [h2] at this;cases this
    rw [this]
noncomputable def Qe (days:Int) (off:List Int):Bool:=((Option.bind (forR (σ:=Int) (ρ:=Unit) (off.length:Int) (fun i2 s2=>(Option.bind (ze off (i2:Int)) fun e2=>(Option.bind (bif decide (e2≤s2) then some true else some (decide (days≤e2))) fun v2=>(bif v2 then some (.inr ()) else some (.inl e2))))) (-1)) (Sum.elim (fun (s2:Int)=>some true) (fun (y2:Unit)=>some false)))).getD false
theorem zhJ (days:Int) (off:List Int) (hl:off.length < 4611686018427387904):(Option.bind (forR (σ:=Int) (ρ:=Unit) (off.length:Int) (fun i2 s2=>(Option.bind (ze off (i2:Int)) fun e2=>(Option.bind (bif decide (e2≤s2) then some true else some (decide (days≤e2))) fun v2=>(bif v2 then some (.inr ()) else some (.inl e2))))) (-1)) (Sum.elim (fun (s2:Int)=>some true) (fun (y2:Unit)=>some false)))=some (Qe days off):=by
  obtain ⟨o,h1,h2⟩:=xn (n:=off.length) (s0:=(-1:Int)) (f:=(fun i2 s2=>(Option.bind (ze off (i2:Int)) fun e2=>(Option.bind (bif decide (e2≤s2) then some true else some (decide (days≤e2))) fun v2=>(bif v2 then some (.inr ()) else some (.inl e2)))))) (fun _ _=>True) (fun _:Unit=>True) hl trivial (fun i s hi _=>by
    simp only [zQ,List.getElem?_eq_getElem hi,Option.bind_some,zj]
    cases (bif decide (off[i]≤s) then true else decide (days≤off[i])) with
    | true=>exact ⟨.inr (),rfl,trivial⟩
    | false=>exact ⟨.inl _,rfl,trivial⟩)
  unfold Qe
  rw [h1]
  cases o<;>rfl
noncomputable def jk (c:ContractT):Bool:=
  !(decide (c.parties < 1))&&(!(decide (c.days < 1))&&(!((c.holders.length:Int) == 0)&&(vK c.parties c.holders&&(quB c.units&&(c.acts.all (XZ c.holders.length c.units.length c.parties)&&Qe c.days c.off)))))
theorem wA {α:Type} {l:List α} {f:Nat→Unit→Option (Unit ⊕ Unit)} (p:α→Bool) (hl:l.length < 4611686018427387904) (h:∀ (i:Nat) (hi:i < l.length),f i ()=some (bif p l[i] then .inl () else .inr ())) :
    forR (l.length:Int) f ()=some (bif l.all p then .inl () else .inr ()):=by
  rw [jo (fun i=>match l[i]? with | some x=>p x | none=>true) (fun _=>()) hl (fun i hi=>by rw [h i hi];simp only [List.getElem?_eq_getElem hi])]
  cases hf:(List.range l.length).find? (fun j=>!(match l[j]? with | some x=>p x | none=>true)) with
  | none=>
    have:l.all p=true:=List.all_eq_true.2 fun x hx=>by
      obtain ⟨i,hi,rfl⟩:=List.getElem_of_mem hx
      have:=xd hf i hi
      simpa only [List.getElem?_eq_getElem hi] using this
    rw [this];rfl
  | some k=>
    obtain ⟨h1,h2,_⟩:=xe hf
    have:l.all p=false:=by
      rw [Bool.eq_false_iff]
      intro h
      have:=List.all_eq_true.1 h l[k] (List.getElem_mem h1)
      simp only [List.getElem?_eq_getElem h1] at h2
      rw [h2] at this;cases this
    rw [this];rfl
theorem zdp (c:ContractT) (hp:c.parties < 4611686018427387904) (hh:c.holders.length < 4611686018427387904) (hu:c.units.length < 1000) (ha:c.acts.length < 1000) (ho:c.off.length < 4611686018427387904):Zi c=some (jk c):=by
  unfold Zi
  obtain ⟨k,hk⟩:=Xk c.units hu
  have hacts:=wA (l:=c.acts) (f:=(fun i1 s1=>(Option.bind (ze c.acts (i1:Int)) fun e1=>(Option.bind (x9 c e1) fun r3=>(bif r3 then some (.inl ()) else some (.inr ())))))) (XZ c.holders.length c.units.length c.parties) (by omega) (fun i hi=>by
    simp only [zQ,List.getElem?_eq_getElem hi,Option.bind_some,zaH,zj])
  rw [zgb c hp hh,hk]
  simp only [Option.bind_some]
  rw [hacts]
  simp only [Option.bind_some]
  rw [zhJ c.days c.off ho]
  simp only [Option.bind_some,zj,jk]
  cases decide (c.parties < 1)<;>cases decide (c.days < 1)<;>cases ((c.holders.length:Int) == 0)<;>cases vK c.parties c.holders<;>cases quB c.units<;>cases c.acts.all (XZ c.holders.length c.units.length c.parties) <;>
    simp only [cond_true,cond_false,Bool.not_true,Bool.not_false,Option.bind_some,Bool.true_and,Bool.false_and,Sum.elim_inl,Sum.elim_inr]
def kh (acts:List ActT) (a:Int):Bool:=match ze acts a with
  | some e=>e.kind == 1&&e.role == -1
  | none=>false
theorem WK (c:ContractT) (a:Int):jG c a=some (kh c.acts a):=by
  unfold jG kh
  by_cases h:0≤a∧a < c.acts.length
  · obtain ⟨h1,h2⟩:=qC h.1 h.2
    simp only [h2,h.1,h.2,decide_true,cond_true,Option.bind_some,zj,Bool.cond_false_right]
  · rw [Yf h]
    by_cases h1:0≤a
    · have:¬ a < c.acts.length:=fun h2=>h ⟨h1,h2⟩
      simp only [h1,this,decide_true,decide_false,cond_true,cond_false,Option.bind_some]
    · simp only [h1,decide_false,cond_false,Option.bind_some]
def Xm (nh:Nat) (acts:List ActT) (k:ClauseT):Bool:=
  bif k.kind == 4 then k.role == -1&&(k.need == 1&&(k.grace == 0 && !k.final))
  else (xt nh k.role && !kh acts k.act)&&(bif k.kind == 1 then decide (1≤k.need)&&(decide (k.need≤9)&&(decide (0≤k.grace)&&decide (k.grace≤400)))
    else bif k.kind == 2 then k.need == 1&&k.grace == 0 else k.kind == 3&&(k.need == 1&&(k.grace == 0 && !k.final)))
theorem Y6 (c:ContractT) (k:ClauseT):wU c k=some (Xm c.holders.length c.acts k):=by
  simp only [wU,Qd,WK,Option.bind_some,zj,Xm]
  cases (k.kind == 4)<;>cases xt c.holders.length k.role<;>cases kh c.acts k.act<;>cases (k.kind == 1)<;>cases (k.kind == 2)<;>cases (k.kind == 3) <;>
    simp only [cond_true,cond_false,Bool.not_true,Bool.not_false,Option.bind_some,Bool.true_and,Bool.false_and,Bool.and_false,Bool.cond_false_right,zj]
def Xn (n:Nat) (i:Int) (s:CondT):Bool := !(decide (s.clause < 0))&&(!(decide ((n:Int)≤s.clause))&&(!(s.clause == i)&&(!(decide (s.is < 1)) && !(decide (4 < s.is)))))
noncomputable def zcr (nh:Nat) (units:List UnitT) (k:ClauseT):Bool:=
  (k.kind == 1||k.kind == 2)&&((match ze units k.unit with | some u=>u.kind == 2 | none=>false)&&(Yn k.value&&xt nh k.to))
def Qf (acts:List ActT) (k:ClauseT):Bool:=(k.pause == -1&&k.resume == -1)||(!(k.pause == k.resume)&&(kh acts k.pause&&kh acts k.resume))
noncomputable def wB (nh:Nat) (units:List UnitT) (acts:List ActT) (n:Nat) (i:Int) (k:ClauseT):Bool:=
  (!(decide (k.act < 0))&&(!(decide ((acts.length:Int)≤k.act))&&(!(decide (k.after < 1)) && !(decide (400 < k.after))))) &&
  ((Xm nh acts k && !(decide (8 < (k.start.length:Int)))) &&
  (k.start.all (Xn n i) &&
  (Qf acts k &&
  (bif k.unit == -1 then QF k.value&&k.to == -1 else zcr nh units k))))
theorem W2 (c:ContractT) (i:Nat) (k:ClauseT) (hk:c.clauses[i]?=some k) (hs:k.start.length < 4611686018427387904):xF c i=some (wB c.holders.length c.units c.acts c.clauses.length i k):=by
  unfold xF
  have hst:=wA (l:=k.start) (f:=(fun i1 s1=>(Option.bind (ze k.start (i1:Int)) fun e2=>(Option.bind (bif decide (e2.clause < 0) then some true else (bif decide ((c.clauses.length:Int)≤e2.clause) then some true else (bif (e2.clause == (i:Int)) then some true else (bif decide (e2.is < 1) then some true else some (decide (4 < e2.is)))))) fun v3=>(bif v3 then some (.inr ()) else some (.inl ())))))) (Xn c.clauses.length i) hs (fun j hj=>by
    simp only [zQ,List.getElem?_eq_getElem hj,Option.bind_some,zj,Xn]
    cases decide (k.start[j].clause < 0)<;>cases decide ((c.clauses.length:Int)≤k.start[j].clause)<;>cases (k.start[j].clause == (i:Int))<;>cases decide (k.start[j].is < 1)<;>cases decide (4 < k.start[j].is)<;>rfl)
  have hu:(bif decide (0≤k.unit) then (bif decide (k.unit < (c.units.length:Int)) then (Option.bind (ze c.units k.unit) fun e3=>(bif (e3.kind == 2) then (Option.bind (jL k.value) fun r5=>(bif r5 then (Option.bind (qU c k.to) fun r6=>some r6) else some false)) else some false)) else some false) else some false) =
      some ((match ze c.units k.unit with | some u=>u.kind == 2 | none=>false)&&(Yn k.value&&xt c.holders.length k.to)):=by
    by_cases h:0≤k.unit∧k.unit < c.units.length
    · obtain ⟨h1,h2⟩:=qC h.1 h.2
      simp only [h2,h.1,h.2,decide_true,cond_true,Option.bind_some,zj,Bool.cond_false_right,Xl,Qd]
    · rw [Yf h]
      by_cases h1:0≤k.unit
      · have:¬ k.unit < c.units.length:=fun h2=>h ⟨h1,h2⟩
        simp only [h1,this,decide_true,decide_false,cond_true,cond_false,Bool.false_and]
      · simp only [h1,decide_false,cond_false,Bool.false_and]
  have hp:(Option.bind (bif (k.pause == (-1)) then some (!(k.resume == (-1))) else some true) fun v4=>(bif v4 then (Option.bind (bif (k.pause == k.resume) then some true else (Option.bind (jG c k.pause) fun r2=>(bif r2 then (Option.bind (jG c k.resume) fun r3=>some (!r3)) else some true))) fun v5=>(bif v5 then some (.inr ()) else some (.inl ()))) else some (.inl ()))) =
      some (bif Qf c.acts k then (.inl ():Unit ⊕ Unit) else .inr ()):=by
    simp only [WK,Qf,zj,Option.bind_some]
    cases (k.pause == -1)<;>cases (k.resume == -1)<;>cases (k.pause == k.resume)<;>cases kh c.acts k.pause<;>cases kh c.acts k.resume<;>rfl
  rw [zV hk]
  simp only [Option.bind_some]
  rw [hst]
  simp only [Option.bind_some]
  rw [hp,hu]
  simp only [Option.bind_some,Y6,vt,zj,wB,zcr,QF]
  cases decide (k.act < 0)<;>simp only [cond_true,cond_false,Bool.not_true,Bool.not_false,Bool.true_and,Bool.false_and,Option.bind_some]
  cases decide ((c.acts.length:Int)≤k.act)<;>simp only [cond_true,cond_false,Bool.not_true,Bool.not_false,Bool.true_and,Bool.false_and,Option.bind_some]
  cases decide (k.after < 1)<;>simp only [cond_true,cond_false,Bool.not_true,Bool.not_false,Bool.true_and,Bool.false_and,Option.bind_some]
  cases decide (400 < k.after)<;>simp only [cond_true,cond_false,Bool.not_true,Bool.not_false,Bool.true_and,Bool.false_and,Option.bind_some]
  cases Xm c.holders.length c.acts k<;>simp only [cond_true,cond_false,Bool.not_true,Bool.not_false,Bool.true_and,Bool.false_and,Option.bind_some]
  cases decide (8 < (k.start.length:Int))<;>simp only [cond_true,cond_false,Bool.not_true,Bool.not_false,Bool.true_and,Bool.false_and,Option.bind_some]
  cases k.start.all (Xn c.clauses.length i)<;>simp only [cond_true,cond_false,Bool.not_true,Bool.not_false,Bool.true_and,Bool.false_and,Option.bind_some,Sum.elim_inl,Sum.elim_inr]
  cases Qf c.acts k<;>simp only [cond_true,cond_false,Bool.true_and,Bool.false_and,Sum.elim_inl,Sum.elim_inr]
  cases (k.kind == 1)<;>cases (k.kind == 2)<;>simp only [cond_true,cond_false,Bool.cond_false_right,Bool.true_or,Bool.or_true,Bool.or_self,Bool.true_and,Bool.false_and]
def yq (c:ContractT):Bool:=decide (12 < c.parties)||(decide (2000 < c.days)||(decide (12 < (c.holders.length:Int))||(decide (20 < (c.units.length:Int))||(decide (60 < (c.acts.length:Int))||decide (400 < (c.clauses.length:Int))))))
noncomputable def clB (c:ContractT) (i:Nat):Bool:=match c.clauses[i]? with
  | some k=>wB c.holders.length c.units c.acts c.clauses.length i k
  | none=>true
noncomputable def qq (c:ContractT):Int×Int:=
  bif yq c then (3,-1) else bif jk c then (match (List.range c.clauses.length).find? (fun j=>!clB c j) with | none=>(0,-1) | some j=>(1,(j:Int))) else (1,-1)
theorem zeJ (c:ContractT) (ho:c.off.length < 4611686018427387904) (hs:∀ k∈c.clauses,k.start.length < 4611686018427387904):wx c=some (qq c):=by
  unfold wx qq
  simp only [zj,Bool.cond_true_left,Option.bind_some]
  show (bif yq c then _ else _)=_
  cases hlim:yq c with
  | true=>rfl
  | false=>
    simp only [yq,Bool.or_eq_false_iff,decide_eq_false_iff_not] at hlim
    obtain ⟨h1,h2,h3,h4,h5,h6⟩:=hlim
    simp only [cond_false,zdp c (by omega) (by omega) (by omega) (by omega) ho,Option.bind_some]
    cases jk c with
    | false=>rfl
    | true=>
      simp only [cond_true]
      rw [jo (fun i=>clB c i) (fun i=>(i:Int)) (by omega) (fun i hi=>by
        rw [W2 c i c.clauses[i] (List.getElem?_eq_getElem hi) (hs _ (List.getElem_mem hi))]
        simp only [Option.bind_some,clB,List.getElem?_eq_getElem hi,zj])]
      cases (List.range c.clauses.length).find? (fun j=>!clB c j)<;>rfl
end Go.Proofs.YtmoedieenlaegaaGreatDoor
namespace Go.Proofs.YtmoedieenlaegaaGreatDoor
open Go.RowKit
set_option linter.unusedSimpArgs false
set_option linter.unusedVariables false
set_option maxRecDepth 100000
theorem LOk.lt {α:Type} {n:Nat} {p:α→Prop} {l:List α} (h:LOk n p l) (hn:0 < n):l.length < 4611686018427387904:=by
  have h1:=h.1
  have h2:reachBytes≤140737488355328:=by decide +kernel
  have:=Nat.le_mul_of_pos_right l.length hn
  omega
theorem ContractT.Ok.valid {c:ContractT} (hc:c.Ok):wx c=some (qq c):=
  zeJ c (hc.off.lt (by omega)) (fun k hk=>(hc.clauses.2 k hk).start.lt (by omega))
inductive ValidIs (c:ContractT):Int×Int→Prop where
  | lim (h:yq c=true):ValidIs c (3,-1)
  | frame (h:yq c=false) (hf:jk c=false):ValidIs c (1,-1)
  | bad (h:yq c=false) (hf:jk c=true) (i:Nat) (hi:i < c.clauses.length) (hb:clB c i=false) (hl:∀ j,j < i→clB c j=true):ValidIs c (1,(i:Int))
  | ok (h:yq c=false) (hf:jk c=true) (ha:∀ j,j < c.clauses.length→clB c j=true):ValidIs c (0,-1)
theorem zdq (c:ContractT):ValidIs c (qq c):=by
  unfold qq
  cases h:yq c with
  | true=>exact .lim h
  | false=>
    simp only [cond_false]
    cases hf:jk c with
    | false=>exact .frame h hf
    | true=>
      simp only [cond_true]
      cases hq:(List.range c.clauses.length).find? (fun j=>!clB c j) with
      | none=>exact .ok h hf (xd hq)
      | some j=>obtain ⟨h1,h2,h3⟩:=xe hq;exact .bad h hf j h1 h2 h3
theorem yO {c:ContractT} (h:(qq c).1=0):yq c=false∧jk c=true∧(∀ j,j < c.clauses.length→clB c j=true)∧qq c=(0,-1):=by
  have hv:=zdq c
  generalize hr:qq c=r at h hv ⊢
  cases hv with
  | lim _=>simp at h
  | frame _ _=>simp at h
  | bad _ _ i _ _ _=>simp at h
  | ok a b d=>exact ⟨a,b,d,rfl⟩
theorem zgc (x y:Int):kA x y=some (decide (x < y)):=by
  simp [kA,Zl]
theorem zgd {a b:Int} (h0:0≤a) (h1:a≤b) (h2:b < 4611686018427387904):ZV .u64 .u64 (IntKind.u64.wrap (IntKind.i64.wrap (a+b))) 1=some ((a+b) / 2):=by
  rw [qI (by omega) (by omega),zcN (by omega) (by omega)]
  unfold ZV
  rw [if_neg (by omega)]
  have:(2:Int) ^ (min (1:Int).toNat IntKind.u64.bits)=2:=by decide
  rw [this,Int.fdiv_eq_ediv_of_nonneg _ (by omega)]
def xg (l:List Int) (v:Int):Option Int:=if v∈l then some (l.idxOf v:Int) else none
theorem zdr {l:List Int} (hn:l.Nodup) {i:Nat} (hi:i < l.length):l.idxOf l[i]=i:=by
  have h1:l.idxOf l[i] < l.length:=List.idxOf_lt_length_iff.2 (List.getElem_mem hi)
  have h2:=List.getElem_idxOf h1
  exact (List.getElem?_inj h1 hn).1 (by rw [List.getElem?_eq_getElem h1,List.getElem?_eq_getElem hi,h2])
theorem zeK {l:List Int} (hn:l.Nodup) {i:Nat} {v:Int} (h:l[i]?=some v):xg l v=some (i:Int):=by
  obtain ⟨hi,rfl⟩:=List.getElem?_eq_some_iff.1 h
  unfold xg
  rw [if_pos (List.getElem_mem hi),zdr hn hi]
theorem X0 (l:List Int) (v:Int) (hs:l.Pairwise (· < ·)) (hl:l.length < 4611686018427387904):∃ r:Int,je l v=some (r,(xg l v).isSome)∧∀ p,xg l v=some p→r=p:=by
  have hp:=List.pairwise_iff_getElem.1 hs
  unfold je
  have hit:Ret (iter (σ:=Int×Int) (ρ:=Int) (fun s1=>(bif decide (s1.1 < s1.2) then (Option.bind (ZV .u64 .u64 (IntKind.u64.wrap (IntKind.i64.wrap (s1.1+s1.2))) 1) fun e1=>(Option.bind (ze l (IntKind.i64.wrap e1)) fun e2=>(Option.bind (kA e2 v) fun r1=>(bif r1 then some (.inl ((IntKind.i64.wrap ((IntKind.i64.wrap e1)+1)),s1.2)) else some (.inl (s1.1,(IntKind.i64.wrap e1))))))) else some (.inr s1.1))) (0,(l.length:Int)))
      (fun r=>0≤r∧r≤l.length∧(∀ (j:Nat) (hj:j < l.length),(j:Int) < r→l[j] < v)∧(∀ (j:Nat) (hj:j < l.length),r≤(j:Int)→v≤l[j])):=by
    refine Ret.iter (fun s=>0≤s.1∧s.1≤s.2∧s.2≤l.length∧(∀ (j:Nat) (hj:j < l.length),(j:Int) < s.1→l[j] < v)∧(∀ (j:Nat) (hj:j < l.length),s.2≤(j:Int)→v≤l[j])) (fun s=>(s.2 - s.1).toNat) ⟨by simp,by simp,by simp,fun j hj h=>by simp only at h;omega,fun j hj h=>by simp only at h;omega⟩ ?_
    rintro ⟨lo,hi⟩ ⟨h1,h2,h3,h4,h5⟩
    simp only at h1 h2 h3 h4 h5 ⊢
    refine Ret.ite (fun hb => ?_) (fun hb => ?_)
    · have hlt:=of_decide_eq_true hb
      rw [zgd h1 h2 (by omega)]
      simp only [Option.bind_some]
      have hm1:lo≤(lo+hi) / 2:=by omega
      have hm2:(lo+hi) / 2 < hi:=by omega
      generalize (lo+hi) / 2=m at hm1 hm2 ⊢
      rw [qI (by omega) (by omega)]
      obtain ⟨hi',e⟩:=qC (l:=l) (n:=m) (by omega) (by omega)
      rw [e,qI (by omega) (by omega)]
      simp only [Option.bind_some,zgc]
      refine Ret.ite (fun hb2 => ?_) (fun hb2 => ?_)
      · have hv:=of_decide_eq_true hb2
        refine Ret.some ⟨⟨by show 0≤m+1;omega,by show m+1≤hi;omega,h3,fun j hj hjm => ?_,h5⟩,by show (hi - (m+1)).toNat < (hi - lo).toNat;omega⟩
        have hjm:(j:Int) < m+1:=hjm
        rcases Nat.lt_or_ge j m.toNat with h | h
        · have:=hp j m.toNat hj hi' h;omega
        · obtain rfl:j=m.toNat:=by omega
          exact hv
      · have hv:¬ l[m.toNat] < v:=of_decide_eq_false hb2
        refine Ret.some ⟨⟨h1,by show lo≤m;omega,by show m≤(l.length:Int);omega,h4,fun j hj hjm => ?_⟩,by show (m - lo).toNat < (hi - lo).toNat;omega⟩
        have hjm:m≤(j:Int):=hjm
        rcases Nat.lt_or_ge m.toNat j with h | h
        · have:=hp m.toNat j hi' hj h;omega
        · obtain rfl:j=m.toNat:=by omega
          omega
    · have hlt:¬ lo < hi:=of_decide_eq_false hb
      have:lo=hi:=by omega
      subst this
      exact Ret.some ⟨h1,h3,h4,h5⟩
  obtain ⟨r,hr,hr0,hr1,hr2,hr3⟩:=hit
  rw [hr]
  simp only [Option.bind_some]
  by_cases hlt:r < (l.length:Int)
  · obtain ⟨hi',e⟩:=qC (l:=l) (n:=r) hr0 hlt
    simp only [hlt,decide_true,cond_true,e,Option.bind_some]
    by_cases hv:l[r.toNat]=v
    · have hpos:xg l v=some (r.toNat:Int):=zeK (zbS hs) (by rw [List.getElem?_eq_getElem hi',hv])
      refine ⟨r,by simp [hv,hpos],fun p hp => ?_⟩
      rw [hpos] at hp;cases hp;omega
    · have hn:xg l v=none:=by
        unfold xg
        rw [if_neg]
        intro hm
        obtain ⟨j,hj,e2⟩:=List.getElem_of_mem hm
        rcases Nat.lt_trichotomy j r.toNat with h | h | h
        · have:=hr2 j hj (by omega);omega
        · subst h;exact hv e2
        · have h6:=hp r.toNat j hi' hj h
          have h7:=hr3 r.toNat hi' (by omega)
          omega
      refine ⟨r,?_,fun p hp=>by rw [hn] at hp;cases hp⟩
      rw [hn]
      have:(l[r.toNat] == v)=false:=beq_eq_false_iff_ne.2 hv
      simp [this,vR]
  · have hn:xg l v=none:=by
      unfold xg
      rw [if_neg]
      intro hm
      obtain ⟨j,hj,e2⟩:=List.getElem_of_mem hm
      have:=hr2 j hj (by omega);omega
    refine ⟨r,?_,fun p hp=>by rw [hn] at hp;cases hp⟩
    rw [hn]
    simp [hlt]
theorem zeL {days:Int} {off:List Int} (hl:off.length < 4611686018427387904) (h:Qe days off=true):(off.length:Int)≤days∨off.length=0:=by
  have e:Qe days off=yg days (-1) off:=by
    unfold Qe
    rw [zd1 days off hl (-1)]
    cases yg days (-1) off<;>rfl
  rw [e] at h
  rcases Yg h with h1 | h1<;>omega
structure Small (c:ContractT):Prop where
  parties:1≤c.parties∧c.parties≤12
  days:1≤c.days∧c.days≤2000
  holders:c.holders.length≤12
  units:c.units.length≤20
  acts:c.acts.length≤60
  clauses:c.clauses.length≤400
  off:c.off.length≤2000
  start:∀ k∈c.clauses,k.start.length≤8
  cond:∀ (i:Nat) (k:ClauseT),c.clauses[i]?=some k→∀ s∈k.start,0≤s.clause∧s.clause < c.clauses.length∧s.clause≠(i:Int)
theorem qX {c:ContractT} (ho:c.off.length < 4611686018427387904) (h:(qq c).1=0):Small c:=by
  obtain ⟨h1,h2,h3,_⟩:=yO h
  simp only [yq,Bool.or_eq_false_iff,decide_eq_false_iff_not] at h1
  obtain ⟨a1,a2,a3,a4,a5,a6⟩:=h1
  simp only [jk,Bool.and_eq_true,Bool.not_eq_true',decide_eq_false_iff_not] at h2
  obtain ⟨b1,b2,b3,b4,b5,b6,b7⟩:=h2
  have hcl:∀ (i:Nat) (k:ClauseT),c.clauses[i]?=some k→wB c.holders.length c.units c.acts c.clauses.length i k=true:=fun i k hk=>by
    have:=h3 i (List.getElem?_eq_some_iff.1 hk).1
    simp only [clB,hk] at this
    exact this
  refine ⟨⟨by omega,by omega⟩,⟨by omega,by omega⟩,by omega,by omega,by omega,by omega,?_,fun k hk => ?_,fun i k hk s hs => ?_⟩
  · rcases zeL ho b7 with h | h<;>omega
  · obtain ⟨i,hi,e⟩:=List.getElem_of_mem hk
    have:=hcl i k (by rw [←e];exact List.getElem?_eq_getElem hi)
    simp only [wB,Bool.and_eq_true,Bool.not_eq_true',decide_eq_false_iff_not] at this
    omega
  · have:=hcl i k hk
    simp only [wB,Bool.and_eq_true] at this
    have:=List.all_eq_true.1 this.2.2.1 s hs
    simp only [Xn,Bool.and_eq_true,Bool.not_eq_true',decide_eq_false_iff_not,beq_eq_false_iff_ne] at this
    exact ⟨by omega,by omega,this.2.2.1⟩
theorem Qg {α:Type} {by_:Nat} {l:List α} (h:l.length*by_≤140737488355328):q5 by_ l=some l:=by unfold q5;rw [if_pos h]
theorem yP {f:Nat→Unit→Option (Unit ⊕ Unit)} {n:Nat} (p:Nat→Bool) (hn:n < 4611686018427387904) (h:∀ j,j < n→f j ()=some (bif p j then .inl () else .inr ())) :
    forR (n:Int) f ()=some (bif (List.range n).all p then .inl () else .inr ()):=by
  rw [jo p (fun _=>()) hn h]
  cases hf:(List.range n).find? (fun j=>!p j) with
  | none=>
    have:(List.range n).all p=true:=List.all_eq_true.2 fun j hj=>xd hf j (List.mem_range.1 hj)
    rw [this];rfl
  | some k=>
    obtain ⟨h1,h2,_⟩:=xe hf
    have:(List.range n).all p=false:=by
      rw [Bool.eq_false_iff]
      intro h
      have:=List.all_eq_true.1 h k (List.mem_range.2 h1)
      rw [h2] at this;cases this
    rw [this];rfl
theorem wW {α ρ:Type} {f:Nat→List α→Option (List α ⊕ ρ)} (s0:List α) (F:Nat→α→α) (hl:s0.length < 4611686018427387904)
    (h:∀ (i:Nat) (m:α) (s:List α),s0[i]?=some m→s.length=s0.length→s[i]?=some m→f i s=some (.inl (s.set i (F i m)))) :
    forR (s0.length:Int) f s0=some (.inl (s0.mapIdx F)):=by
  obtain ⟨o,h1,h2⟩:=xn (n:=s0.length) (s0:=s0) (f:=f) (fun i s=>s.length=s0.length∧∀ j,s[j]?=if j < i then (s0[j]?).map (F j) else s0[j]?) (fun _=>False) hl ⟨rfl,fun j=>by simp⟩ (fun i s hi ⟨a,b⟩=>by
    have hs:s[i]?=some s0[i]:=by rw [b i,if_neg (by omega),List.getElem?_eq_getElem hi]
    refine ⟨_,h i s0[i] s (List.getElem?_eq_getElem hi) a hs,by simpa using a,fun j => ?_⟩
    rw [List.getElem?_set]
    by_cases hij:i=j
    · subst hij
      rw [if_pos rfl,if_pos (by omega),if_pos (by omega),List.getElem?_eq_getElem hi];rfl
    · rw [if_neg hij,b j]
      by_cases h3:j < i
      · rw [if_pos h3,if_pos (by omega)]
      · rw [if_neg h3,if_neg (by omega)])
  rw [h1]
  cases o with
  | inr r=>exact h2.elim
  | inl s=>
    obtain ⟨a,b⟩:=h2
    congr 2
    refine List.ext_getElem? fun j => ?_
    rw [b j,List.getElem?_mapIdx]
    by_cases hj:j < s0.length
    · rw [if_pos hj]
    · rw [if_neg hj,List.getElem?_eq_none (by omega)];rfl
def jQ (marks:List MarkT) (s:CondT):Bool:=match ze marks s.clause with
  | some m=>bif s.is == 1 then !(m.status == 0) else bif s.is == 2 then m.status == 3 else bif s.is == 3 then m.status == 4 else bif s.is == 4 then m.status == 5 else false
  | none=>false
def jE (ks:List ClauseT) (marks:List MarkT) (i:Nat):Bool:=match ks[i]?,marks[i]? with
  | some k,some m=>(m.status == 0 && !k.waived)&&k.start.all (jQ marks)
  | _,_=>false
def yr (parties:Int) (k:ClauseT) (m:MarkT):Bool:=
  !(k.waived||(decide (m.left < 1)||(m.paused&&k.pause == -1)))&&(((m.got == 0)||(k.kind == 1 && !(decide (m.got < 0)||decide (k.need≤m.got)))) &&
    (bif k.kind == 4 then m.bearer == -1 else decide (0≤m.bearer)&&decide (m.bearer < parties)))
def Vl (m:MarkT):Bool:=(m.status == 0)&&((m.left == 0)&&((m.got == 0)&&((m.bearer == (-1))&&((m.paused == false)&&true))))
def zaI (parties:Int) (m:MarkT):Bool:=(m.left == 0)&&(decide (0≤m.got)&&(decide (m.got≤9)&&(decide ((-1)≤m.bearer)&&(decide (m.bearer < parties) && !m.paused))))
def q9 (parties:Int) (k:ClauseT) (m:MarkT):Bool:=
  bif m.status == 0 then !k.waived&&Vl m else bif m.status == 1 then decide (m.left≤k.after)&&yr parties k m
  else bif m.status == 2 then k.kind == 1&&(decide (m.left≤k.grace)&&yr parties k m) else (m.status == 3||(m.status == 4||m.status == 5))&&zaI parties m
theorem zaJ (c:ContractT) (k:ClauseT) (m:MarkT):wa c k m=some (yr c.parties k m):=by
  simp only [wa,yr,zj,Option.bind_some]
  cases k.waived<;>cases decide (m.left < 1)<;>cases m.paused<;>cases (k.pause == -1)<;>cases (m.got == 0)<;>cases (k.kind == 1)<;>cases decide (m.got < 0)<;>cases decide (k.need≤m.got)<;>cases (k.kind == 4)<;>cases decide (0≤m.bearer)<;>rfl
theorem Y7 (c:ContractT) (i:Nat) (k:ClauseT) (m:MarkT) (hk:c.clauses[i]?=some k):wV c i m=some (q9 c.parties k m):=by
  unfold wV
  rw [zV hk]
  simp only [Option.bind_some,zaJ,zj,q9,Vl,zaI]
  cases (m.status == 0)
  · cases (m.status == 1)
    · cases (m.status == 2)
      · cases (m.status == 3)<;>cases (m.status == 4)<;>cases (m.status == 5)<;>cases (m.left == 0)<;>cases decide (0≤m.got)<;>cases decide (m.got≤9)<;>cases decide ((-1)≤m.bearer)<;>cases decide (m.bearer < c.parties)<;>rfl
      · cases (k.kind == 1)<;>cases decide (m.left≤k.grace)<;>rfl
    · cases decide (m.left≤k.after)<;>rfl
  · cases k.waived<;>rfl
theorem Kw (c:ContractT) (s:StateT) (i:Nat) (k:ClauseT) (m:MarkT) (hk:c.clauses[i]?=some k) (hm:s.marks[i]?=some m) (hst:k.start.length < 4611686018427387904)
    (hc:∀ x∈k.start,0≤x.clause∧x.clause < s.marks.length):wy c s i=some (jE c.clauses s.marks i):=by
  unfold wy jE
  rw [zV hm,zV hk,hk,hm]
  simp only [Option.bind_some]
  rw [wA (l:=k.start) (jQ s.marks) hst (fun j hj=>by
    obtain ⟨h0,h1⟩:=hc _ (List.getElem_mem hj)
    obtain ⟨h2,h3⟩:=qC h0 h1
    simp only [zQ,List.getElem?_eq_getElem hj,Option.bind_some,h3,jQ,zj])]
  simp only [Option.bind_some,zj]
  cases (m.status == 0)<;>cases k.waived<;>cases k.start.all (jQ s.marks)<;>rfl
def QG (acts:List ActT) (used:List Bool) (i:Nat):Bool:=match acts[i]?,used[i]? with
  | some a,some u=>!(u&&a.kind == 1)
  | _,_=>false
def yt (c:ContractT) (marks:List MarkT) (i:Nat):Bool:=match c.clauses[i]?,marks[i]? with
  | some k,some m=>q9 c.parties k m && !jE c.clauses marks i
  | _,_=>false
noncomputable def vsB (c:ContractT) (s:StateT):Bool:=
  ((qq c).1 == 0)&&((!(decide (s.day < 0))&&(!(decide (c.days < s.day))&&((s.holders.length:Int) == c.holders.length&&((s.used.length:Int) == c.acts.length&&(s.marks.length:Int) == c.clauses.length)))) &&
    (vK c.parties s.holders&&((List.range s.used.length).all (QG c.acts s.used)&&(List.range s.marks.length).all (yt c s.marks))))
theorem Zr (c:ContractT) (s:StateT) (hc:c.Ok):qK c s=some (vsB c s):=by
  unfold qK vsB
  rw [hc.valid]
  simp only [Option.bind_some]
  cases hv:((qq c).1 == 0) with
  | false=>rfl
  | true=>
    have sm:=qX (hc.off.lt (by omega)) (beq_iff_eq.1 hv)
    simp only [cond_true,zj,Option.bind_some,Bool.true_and]
    cases h1:decide (s.day < 0)<;>cases h2:decide (c.days < s.day)<;>cases h3:((s.holders.length:Int) == c.holders.length)<;>cases h4:((s.used.length:Int) == c.acts.length)<;>cases h5:((s.marks.length:Int) == c.clauses.length)<;>try rfl
    simp only [cond_true,cond_false,Bool.not_true,Bool.not_false,Bool.true_and]
    have e3:=beq_iff_eq.1 h3
    have e4:=beq_iff_eq.1 h4
    have e5:=beq_iff_eq.1 h5
    have:=sm.holders
    have:=sm.acts
    have:=sm.clauses
    rw [wA (l:=s.holders) (fun h=>decide (0≤h)&&decide (h < c.parties)) (by omega) (fun j hj=>by
      simp only [zQ,List.getElem?_eq_getElem hj,Option.bind_some,zj]
      generalize s.holders[j]=h
      by_cases a:h < 0
      · have b:¬ 0≤h:=by omega
        simp [a,b]
      · have b:0≤h:=by omega
        by_cases d:h < c.parties
        · have d':¬ c.parties≤h:=by omega
          simp [a,b,d,d']
        · have d':c.parties≤h:=by omega
          simp [a,b,d,d'])]
    rw [yP (n:=s.used.length) (QG c.acts s.used) (by omega) (fun j hj=>by
      have hj':j < c.acts.length:=by omega
      simp only [zQ,List.getElem?_eq_getElem hj,List.getElem?_eq_getElem hj',Option.bind_some,zj,QG]
      cases s.used[j]<;>cases (c.acts[j].kind == 1)<;>rfl)]
    rw [yP (n:=s.marks.length) (yt c s.marks) (by omega) (fun j hj=>by
      have hj':j < c.clauses.length:=by omega
      have hk:=List.getElem?_eq_getElem hj'
      have hm:=List.getElem?_eq_getElem hj
      simp only [zQ,hm,Option.bind_some]
      rw [Y7 c j _ _ hk,Kw c s j _ _ hk hm (by have:=sm.start _ (List.getElem_mem hj');omega) (fun x hx=>by have:=sm.cond j _ hk x hx;omega)]
      simp only [Option.bind_some,yt,hk,hm]
      cases q9 c.parties c.clauses[j] s.marks[j]<;>cases jE c.clauses s.marks j<;>rfl)]
    simp only [vK,Option.bind_some]
    cases s.holders.all (fun h=>decide (0≤h)&&decide (h < c.parties))<;>cases (List.range s.used.length).all (QG c.acts s.used)<;>cases (List.range s.marks.length).all (yt c s.marks)<;>rfl
structure VS (c:ContractT) (s:StateT):Prop where
  cv:(qq c).1=0
  day:0≤s.day∧s.day≤c.days
  lh:s.holders.length=c.holders.length
  lu:s.used.length=c.acts.length
  lm:s.marks.length=c.clauses.length
  hold:∀ h∈s.holders,0≤h∧h < c.parties
  used:∀ (i:Nat) (a:ActT),c.acts[i]?=some a→s.used[i]?=some true→a.kind≠1
  mrk:∀ (i:Nat) (k:ClauseT) (m:MarkT),c.clauses[i]?=some k→s.marks[i]?=some m→q9 c.parties k m=true
  rdy:∀ i,i < c.clauses.length→jE c.clauses s.marks i=false
theorem zd4 {c:ContractT} {s:StateT} (h:vsB c s=true):VS c s:=by
  simp only [vsB,Bool.and_eq_true,Bool.not_eq_true',decide_eq_false_iff_not,beq_iff_eq,List.all_eq_true,List.mem_range,vK,decide_eq_true_eq] at h
  obtain ⟨h1,⟨h2,h3,h4,h5,h6⟩,h7,h8,h9⟩:=h
  refine ⟨h1,⟨by omega,by omega⟩,by omega,by omega,by omega,fun x hx=>h7 x hx,fun i a ha hu hk => ?_,fun i k m hk hm => ?_,fun i hi => ?_⟩
  · have:=h8 i (by have:=(List.getElem?_eq_some_iff.1 hu).1;exact this)
    simp only [QG,ha,hu,hk] at this
    cases this
  · have:=h9 i (List.getElem?_eq_some_iff.1 hm).1
    simp only [yt,hk,hm,Bool.and_eq_true] at this
    exact this.1
  · have hi':i < s.marks.length:=by omega
    have:=h9 i hi'
    simp only [yt,List.getElem?_eq_getElem hi,List.getElem?_eq_getElem hi',Bool.and_eq_true,Bool.not_eq_true'] at this
    exact this.2
theorem Xo {c:ContractT} {s:StateT} (h:VS c s):vsB c s=true:=by
  have hd:=h.day
  have h4:=h.lh
  have h5:=h.lu
  have h6:=h.lm
  simp only [vsB,Bool.and_eq_true,Bool.not_eq_true',decide_eq_false_iff_not,beq_iff_eq,List.all_eq_true,List.mem_range,vK,decide_eq_true_eq]
  refine ⟨h.cv,⟨by omega,by omega,by omega,by omega,by omega⟩,fun x hx=>h.hold x hx,fun i hi => ?_,fun i hi => ?_⟩
  · have hi':i < c.acts.length:=by omega
    have ha:=List.getElem?_eq_getElem hi'
    have hu:=List.getElem?_eq_getElem hi
    simp only [QG,ha,hu]
    cases hq:s.used[i] with
    | false=>rfl
    | true=>
      have:=h.used i _ ha (by rw [hu,hq])
      simp [this]
  · have hi':i < c.clauses.length:=by omega
    have ha:=List.getElem?_eq_getElem hi'
    have hu:=List.getElem?_eq_getElem hi
    simp only [yt,ha,hu,Bool.and_eq_true,Bool.not_eq_true']
    exact ⟨h.mrk i _ _ ha hu,h.rdy i hi'⟩
structure KV (c:ContractT) (i:Nat) (k:ClauseT):Prop where
  act:0≤k.act∧k.act < c.acts.length
  after:1≤k.after∧k.after≤400
  kind:k.kind=1∨k.kind=2∨k.kind=3∨k.kind=4
  role:k.kind=4∨(0≤k.role∧k.role < c.holders.length)
  need:1≤k.need∧k.need≤9
  grace:0≤k.grace∧k.grace≤400
  start:k.start.length≤8
  cond:∀ s∈k.start,0≤s.clause∧s.clause < c.clauses.length
  pause:(k.pause = -1∧k.resume = -1)∨(kh c.acts k.pause=true∧kh c.acts k.resume=true)
theorem vL {c:ContractT} (ho:c.off.length < 4611686018427387904) (h:(qq c).1=0) {i:Nat} {k:ClauseT} (hk:c.clauses[i]?=some k):KV c i k:=by
  have sm:=qX ho h
  obtain ⟨_,_,h3,_⟩:=yO h
  have:=h3 i (List.getElem?_eq_some_iff.1 hk).1
  simp only [clB,hk,wB,Bool.and_eq_true,Bool.not_eq_true',decide_eq_false_iff_not] at this
  obtain ⟨⟨a1,a2,a3,a4⟩,⟨a5,a6⟩,a7,a8,_⟩:=this
  have hkd:(k.kind=1∨k.kind=2∨k.kind=3∨k.kind=4)∧(k.kind=4∨(0≤k.role∧k.role < c.holders.length))∧(1≤k.need∧k.need≤9)∧(0≤k.grace∧k.grace≤400):=by
    unfold Xm at a5
    cases h4:(k.kind == 4) with
    | true=>
      rw [h4] at a5
      simp only [cond_true,Bool.and_eq_true,beq_iff_eq] at a5
      have:=beq_iff_eq.1 h4
      omega
    | false=>
      rw [h4] at a5
      simp only [cond_false,Bool.and_eq_true,xt,decide_eq_true_eq] at a5
      obtain ⟨⟨b1,_⟩,b2⟩:=a5
      cases h1:(k.kind == 1) with
      | true=>
        rw [h1] at b2
        simp only [cond_true,Bool.and_eq_true,decide_eq_true_eq] at b2
        have:=beq_iff_eq.1 h1
        omega
      | false=>
        rw [h1] at b2
        cases h2:(k.kind == 2) with
        | true=>
          rw [h2] at b2
          simp only [cond_true,cond_false,Bool.and_eq_true,beq_iff_eq] at b2
          have:=beq_iff_eq.1 h2
          omega
        | false=>
          rw [h2] at b2
          simp only [cond_false,Bool.and_eq_true,beq_iff_eq] at b2
          omega
  refine ⟨⟨by omega,by omega⟩,⟨by omega,by omega⟩,hkd.1,hkd.2.1,hkd.2.2.1,hkd.2.2.2,by omega,fun s hs => ?_,?_⟩
  · have:=sm.cond i k hk s hs;omega
  · simp only [Qf,Bool.or_eq_true,Bool.and_eq_true,beq_iff_eq,Bool.not_eq_true'] at a8
    rcases a8 with h | h
    · exact .inl h
    · exact .inr h.2
structure AV2 (c:ContractT) (a:ActT):Prop where
  role:(a.role = -1∧a.kind=1)∨(0≤a.role∧a.role < c.holders.length)
  kind:a.kind=1∨((a.kind=2∨a.kind=3)∧(0≤a.give∧a.give < c.holders.length)∧(0≤a.to∧a.to < c.parties))
theorem Vm {c:ContractT} (h:(qq c).1=0) {i:Nat} {a:ActT} (ha:c.acts[i]?=some a):AV2 c a:=by
  obtain ⟨_,h2,_,_⟩:=yO h
  simp only [jk,Bool.and_eq_true,Bool.not_eq_true',decide_eq_false_iff_not] at h2
  obtain ⟨_,_,_,_,_,b6,_⟩:=h2
  have:=List.all_eq_true.1 b6 a (List.mem_of_getElem? ha)
  unfold XZ at this
  cases hr:xt c.holders.length a.role with
  | true=>
    rw [hr] at this
    simp only [xt,Bool.and_eq_true,decide_eq_true_eq] at hr
    cases h1:(a.kind == 1) with
    | true=>exact ⟨.inr hr,.inl (beq_iff_eq.1 h1)⟩
    | false=>
      rw [h1] at this
      simp only [cond_true,cond_false,Bool.and_eq_true,Bool.or_eq_true,beq_iff_eq,xt,decide_eq_true_eq] at this
      exact ⟨.inr hr,.inr ⟨this.1,this.2.1,by omega⟩⟩
  | false=>
    rw [hr] at this
    simp only [cond_false,Bool.and_eq_true,beq_iff_eq] at this
    exact ⟨.inl ⟨this.2.1,this.1⟩,.inl this.1⟩
theorem zge {c:ContractT} (ho:c.off.length < 4611686018427387904) (h:(qq c).1=0):c.off.Pairwise (· < ·):=by
  obtain ⟨_,h2,_,_⟩:=yO h
  simp only [jk,Bool.and_eq_true] at h2
  have b7:=h2.2.2.2.2.2.2
  have e:Qe c.days c.off=yg c.days (-1) c.off:=by
    unfold Qe
    rw [zd1 c.days c.off ho (-1)]
    cases yg c.days (-1) c.off<;>rfl
  rw [e] at b7
  exact (WG b7).2
def MOk (c:ContractT) (ms:List MarkT):Prop:=ms.length=c.clauses.length∧∀ (i:Nat) (k:ClauseT) (m:MarkT),c.clauses[i]?=some k→ms[i]?=some m→q9 c.parties k m=true
def NR (c:ContractT) (ms:List MarkT):Prop:=∀ i,i < c.clauses.length→jE c.clauses ms i=false
def xq (k:ClauseT) (b:Int):MarkT:={status:=1,left:=k.after,got:=0,bearer:=b,paused:=false}
def StR (c:ContractT) (ms ms':List MarkT):Prop:=∀ (i:Nat) (m m':MarkT),ms[i]?=some m→ms'[i]?=some m'→m'=m∨(m.status=0∧∃ k b,c.clauses[i]?=some k∧m'=xq k b)
def wX (ms:List MarkT):Nat:=ms.countP (fun m=>m.status == 0)
def yQ (hs:List Int) (k:ClauseT):Int:=bif k.kind == 4 then -1 else hs[k.role.toNat]?.getD 0
def Qh (ks:List ClauseT) (ms:List MarkT):Nat→Nat→Prop
  | 0,_=>False
  | n+1,i=>∃ k m,ks[i]?=some k∧ms[i]?=some m∧m.status=0∧k.waived=false∧∀ x∈k.start,jQ ms x=true∨(x.is=1∧Qh ks ms n x.clause.toNat)
def Sta (ks:List ClauseT) (ms:List MarkT) (i:Nat):Prop:=∃ n,Qh ks ms n i
def Yo (c:ContractT) (hs:List Int) (ms r:List MarkT):Prop:=∀ (i:Nat) (k:ClauseT) (m:MarkT),c.clauses[i]?=some k→ms[i]?=some m→r[i]?=some m∨(Sta c.clauses ms i∧r[i]?=some (xq k (yQ hs k)))
def zgf (c:ContractT) (hs:List Int) (ms r:List MarkT):Prop:=∀ (i:Nat) (k:ClauseT) (m:MarkT),c.clauses[i]?=some k→ms[i]?=some m→(¬ Sta c.clauses ms i∧r[i]?=some m)∨(Sta c.clauses ms i∧r[i]?=some (xq k (yQ hs k)))
theorem WL {ks:List ClauseT} {ms:List MarkT}:∀ (n i:Nat),Qh ks ms n i→Qh ks ms (n+1) i
  | 0,i,h=>h.elim
  | n+1,i,⟨k,m,h1,h2,h3,h4,h5⟩=>⟨k,m,h1,h2,h3,h4,fun x hx=>(h5 x hx).imp id fun h=>⟨h.1,WL n _ h.2⟩⟩
theorem X1 {ks:List ClauseT} {ms:List MarkT} {n i:Nat} (h:Qh ks ms n i):∀ d,Qh ks ms (n+d) i
  | 0=>h
  | d+1=>WL _ _ (X1 h d)
theorem Kx {ks:List ClauseT} {ms:List MarkT}:∀ (l:List CondT),(∀ x∈l,jQ ms x=true∨(x.is=1∧Sta ks ms x.clause.toNat))→∃ n,∀ x∈l,jQ ms x=true∨(x.is=1∧Qh ks ms n x.clause.toNat)
  | [],_=>⟨0,fun x hx=>by cases hx⟩
  | y::l,h=>by
    obtain ⟨n,hn⟩:=Kx l (fun x hx=>h x (List.mem_cons_of_mem _ hx))
    rcases h y (List.mem_cons_self ..) with h1 | ⟨h1,d,h2⟩
    · refine ⟨n,fun x hx => ?_⟩
      rcases List.mem_cons.1 hx with rfl | hx
      · exact .inl h1
      · exact hn x hx
    · refine ⟨n+d,fun x hx => ?_⟩
      rcases List.mem_cons.1 hx with rfl | hx
      · exact .inr ⟨h1,by rw [Nat.add_comm];exact X1 h2 n⟩
      · exact (hn x hx).imp id fun h=>⟨h.1,X1 h.2 d⟩
theorem Xp {ms:List MarkT} {x:CondT} {m:MarkT} (hx:ze ms x.clause=some m) (h1:m.status=1):jQ ms x=(x.is == 1):=by
  simp only [jQ,hx,h1]
  cases (x.is == 1)<;>cases (x.is == 2)<;>cases (x.is == 3)<;>cases (x.is == 4)<;>rfl
theorem zcs {ms:List MarkT} {x:CondT} {m:MarkT} (hx:ze ms x.clause=some m) (h1:m.status=0):jQ ms x=false:=by
  simp only [jQ,hx,h1]
  cases (x.is == 1)<;>cases (x.is == 2)<;>cases (x.is == 3)<;>cases (x.is == 4)<;>rfl
structure StartP (c:ContractT) (hs:List Int) (ms r:List MarkT):Prop where
  ok:MOk c r
  nr:NR c r
  rel:StR c ms r
  same:NR c ms→r=ms
  sta:zgf c hs ms r
theorem zaK {ks:List ClauseT} {ms:List MarkT} {i:Nat} {m:MarkT} (h:Sta ks ms i) (hm:ms[i]?=some m):m.status=0:=by
  obtain ⟨n,h⟩:=h
  cases n with
  | zero=>exact h.elim
  | succ n=>obtain ⟨k,m',_,h2,h3,_⟩:=h;rw [hm] at h2;cases h2;exact h3
theorem zct {c:ContractT} {hs:List Int} {ms r:List MarkT} (hl:ms.length=c.clauses.length) (hr:r.length=c.clauses.length) (hI:Yo c hs ms r) {i:Nat} {k:ClauseT} (hk:c.clauses[i]?=some k) (hcd:∀ x∈k.start,0≤x.clause∧x.clause < c.clauses.length) (hy:jE c.clauses r i=true):Sta c.clauses ms i:=by
  have hi:=(List.getElem?_eq_some_iff.1 hk).1
  have hm:=List.getElem?_eq_getElem (show i < ms.length by omega)
  have hmr:=List.getElem?_eq_getElem (show i < r.length by omega)
  simp only [jE,hk,hmr,Bool.and_eq_true,Bool.not_eq_true',beq_iff_eq,List.all_eq_true] at hy
  obtain ⟨⟨h0,hw⟩,hc⟩:=hy
  rcases hI i k _ hk hm with h | ⟨h,_⟩
  · rw [hmr] at h
    have e:=Option.some.inj h
    obtain ⟨n,hn⟩:=Kx (ks:=c.clauses) (ms:=ms) k.start (fun x hx=>by
      obtain ⟨x0,x1⟩:=hcd x hx
      have hxi:=qC (l:=ms) (n:=x.clause) x0 (by omega)
      obtain ⟨a1,a2⟩:=hxi
      obtain ⟨b1,b2⟩:=qC (l:=r) (n:=x.clause) x0 (by omega)
      have hkx:=List.getElem?_eq_getElem (show x.clause.toNat < c.clauses.length by omega)
      have hx':=hc x hx
      rcases hI x.clause.toNat _ _ hkx (List.getElem?_eq_getElem a1) with h2 | ⟨h2,h3⟩
      · left
        rw [List.getElem?_eq_getElem b1] at h2
        simp only [jQ,b2,Option.some.inj h2] at hx'
        simp only [jQ,a2];exact hx'
      · right
        rw [List.getElem?_eq_getElem b1] at h3
        rw [Xp b2 (by rw [Option.some.inj h3];rfl)] at hx'
        exact ⟨beq_iff_eq.1 hx',h2⟩)
    exact ⟨n+1,k,_,hk,hm,by rw [←e];exact h0,hw,hn⟩
  · exact h
theorem zeM {c:ContractT} {hs:List Int} {ms r:List MarkT} (hl:ms.length=c.clauses.length) (hr:r.length=c.clauses.length) (hI:Yo c hs ms r) (hn:NR c r) (hcd:∀ (i:Nat) (k:ClauseT),c.clauses[i]?=some k→∀ x∈k.start,0≤x.clause∧x.clause < c.clauses.length):zgf c hs ms r:=by
  have key:∀ (n i:Nat) (k:ClauseT),Qh c.clauses ms n i→c.clauses[i]?=some k→r[i]?=some (xq k (yQ hs k)):=by
    intro n
    induction n with
    | zero=>intro i k h;exact h.elim
    | succ n ih=>
      intro i k h hk
      have hi:=(List.getElem?_eq_some_iff.1 hk).1
      obtain ⟨k',m,h1,h2,h3,h4,h5⟩:=h
      rw [hk] at h1
      cases h1
      rcases hI i k m hk h2 with h | ⟨_,h⟩
      · exfalso
        have:=hn i hi
        have hy:jE c.clauses r i=true:=by
          simp only [jE,hk,h,h3,h4,beq_self_eq_true,Bool.not_false,Bool.and_true,Bool.true_and,List.all_eq_true]
          intro x hx
          obtain ⟨x0,x1⟩:=hcd i k hk x hx
          obtain ⟨a1,a2⟩:=qC (l:=ms) (n:=x.clause) x0 (by omega)
          obtain ⟨b1,b2⟩:=qC (l:=r) (n:=x.clause) x0 (by omega)
          have hkx:=List.getElem?_eq_getElem (show x.clause.toNat < c.clauses.length by omega)
          rcases h5 x hx with h6 | ⟨h6,h7⟩
          · rcases hI x.clause.toNat _ _ hkx (List.getElem?_eq_getElem a1) with g | ⟨g,g2⟩
            · rw [List.getElem?_eq_getElem b1] at g
              simp only [jQ,a2] at h6
              simp only [jQ,b2,Option.some.inj g];exact h6
            · rw [zcs a2 (zaK g (List.getElem?_eq_getElem a1))] at h6;cases h6
          · have g:=ih _ _ h7 hkx
            rw [List.getElem?_eq_getElem b1] at g
            rw [Xp b2 (by rw [Option.some.inj g];rfl),h6];rfl
        rw [hy] at this;cases this
      · exact h
  intro i k m hk hm
  by_cases hs':Sta c.clauses ms i
  · obtain ⟨n,h⟩:=hs'
    exact .inr ⟨⟨n,h⟩,key n i k h hk⟩
  · rcases hI i k m hk hm with h | ⟨h,_⟩
    · exact .inl ⟨hs',h⟩
    · exact absurd h hs'
theorem zcu {ms:List MarkT} {i:Nat} {m m':MarkT} (h:ms[i]?=some m) (h0:m.status=0) (h1:m'.status≠0):wX (ms.set i m') < wX ms:=by
  obtain ⟨hi,rfl⟩:=List.getElem?_eq_some_iff.1 h
  unfold wX
  rw [List.countP_set hi]
  have hp:0 < ms.countP (fun m=>m.status == 0):=List.countP_pos_iff.2 ⟨_,List.getElem_mem hi,by simp [h0]⟩
  simp only [h0,beq_self_eq_true,if_true,beq_iff_eq,h1,if_false]
  omega
noncomputable def vA (c:ContractT) (day:Int) (hs:List Int) (us:List Bool) (ms:List MarkT):Option (List MarkT):=xG c day hs hs.length us us.length ms ms.length
theorem Zs (n:Nat):eqN n n=some ⟨rfl⟩:=by unfold eqN;rw [dif_pos rfl]
theorem kK {a b:Nat} (h:a=b):eqN a b=some ⟨h⟩:=by unfold eqN;rw [dif_pos h]
theorem WM (c:ContractT) (day:Int) (hs:List Int) (us:List Bool) (ms:List MarkT) (ho:c.off.length < 4611686018427387904) (hv:(qq c).1=0) (hh:hs.length=c.holders.length) (hb:∀ h∈hs,0≤h∧h < c.parties) (hm:MOk c ms) :
    Ret (vA c day hs us ms) (StartP c hs ms):=by
  have sm:=qX ho hv
  have hcl:=sm.clauses
  unfold vA xG
  refine Ret.bind (P:=fun r=>StartP c hs ms r) (Ret.iter (fun s=>MOk c s.2∧StR c ms s.2∧(NR c ms→s.2=ms)∧Yo c hs ms s.2∧(s.1=false→NR c s.2)) (fun s=>2*wX s.2+(if s.1 then 1 else 0)) ⟨hm,fun i m m' h1 h2=>.inl (by simp only at h2;rw [h1] at h2;exact (Option.some.inj h2).symm),fun _=>rfl,fun i k m h1 h2=>.inl h2,fun h=>by cases h⟩ ?_) (fun r hr=>Ret.some hr)
  have hl0:=hm.1
  have hcd:∀ (i:Nat) (k:ClauseT),c.clauses[i]?=some k→∀ x∈k.start,0≤x.clause∧x.clause < c.clauses.length:=fun i k hk=>(vL ho hv hk).cond
  rintro ⟨b,ms1⟩ ⟨hok,hrel,hsame,hsta,hnr⟩
  cases b with
  | false=>exact Ret.some ⟨hok,hnr rfl,hrel,hsame,zeM hl0 hok.1 hsta (hnr rfl) hcd⟩
  | true=>
    simp only [cond_true]
    refine Ret.bind (P:=fun o=>∃ s2:Bool×List MarkT,o=.inl s2∧MOk c s2.2∧StR c ms s2.2∧(NR c ms1→s2.2=ms1)∧Yo c hs ms s2.2∧(s2.1=false→s2.2=ms1∧NR c ms1)∧(s2.1=true→wX s2.2 < wX ms1))
      (Ret.forL (n:=c.clauses.length) (fun i s=>MOk c s.2∧StR c ms s.2∧(NR c ms1→s.2=ms1)∧Yo c hs ms s.2∧(s.1=false→s.2=ms1∧∀ j,j < i→jE c.clauses ms1 j=false)∧(s.1=true→wX s.2 < wX ms1)) (by omega) ⟨hok,hrel,fun _=>rfl,hsta,fun _=>⟨rfl,fun j hj=>by omega⟩,fun h=>by cases h⟩ ?_ (fun s h=>⟨s,rfl,h⟩)) ?_
    · rintro i ⟨b0,ms2⟩ hi ⟨ok2,rel2,same2,sta2,nr2,lt2⟩
      simp only at ok2 rel2 same2 sta2 nr2 lt2
      have hk:=List.getElem?_eq_getElem hi
      have hl2:=ok2.1
      have hi2:i < ms2.length:=by omega
      have hm2:=List.getElem?_eq_getElem hi2
      have kv:=vL ho hv hk
      have hmk:=ok2.2 i _ _ hk hm2
      rw [zV hk]
      simp only [Option.bind_some,Zs,kK (show ms.length=ms2.length by omega)]
      rw [Kw c _ i _ _ hk hm2 (by have:=kv.start;omega) (fun x hx=>by have:=kv.cond x hx;simp only;omega)]
      simp only [Option.bind_some]
      cases hr:jE c.clauses ms2 i with
      | false=>
        simp only [cond_false,Option.bind_some]
        refine Ret.some ⟨ok2,rel2,same2,sta2,fun hb=>⟨(nr2 hb).1,fun j hj => ?_⟩,lt2⟩
        rcases Nat.lt_or_ge j i with h | h
        · exact (nr2 hb).2 j h
        · obtain rfl:j=i:=by omega
          rw [←(nr2 hb).1];exact hr
      | true=>
        simp only [cond_true]
        have hr':=hr
        simp only [jE,hk,hm2,Bool.and_eq_true,Bool.not_eq_true',beq_iff_eq] at hr'
        obtain ⟨⟨h0,hw⟩,_⟩:=hr'
        have hbear:Ret (bif (c.clauses[i].kind == 4) then some (-1) else (Option.bind (zm hs.length c.clauses[i].role) fun k1=>(Option.bind (hs[k1]?) fun e2=>some e2))) (fun v=>v=yQ hs c.clauses[i]∧bif c.clauses[i].kind == 4 then v = -1 else 0≤v∧v < c.parties):=by
          refine Ret.ite (fun h4=>Ret.some (by simp [h4,yQ])) (fun h4 => ?_)
          have h4':c.clauses[i].kind≠4:=beq_eq_false_iff_ne.1 h4
          have hro:=kv.role.resolve_left h4'
          rw [Kp hro.1 (by omega)]
          have hlt:c.clauses[i].role.toNat < hs.length:=by omega
          simp only [Option.bind_some,List.getElem?_eq_getElem hlt]
          exact Ret.some ⟨by simp [yQ,h4,List.getElem?_eq_getElem hlt],by rw [h4];exact hb _ (List.getElem_mem hlt)⟩
        refine Ret.bind (P:=fun v:Bool×List MarkT=>∃ b,v=(true,ms2.set i (xq c.clauses[i] b))∧b=yQ hs c.clauses[i]∧(bif c.clauses[i].kind == 4 then b = -1 else 0≤b∧b < c.parties)) (Ret.bind hbear fun v hv' => ?_) ?_
        · rw [jt (show i < ms.length by omega)]
          simp only [Option.bind_some,hm2]
          exact Ret.some ⟨v,rfl,hv'⟩
        · rintro _ ⟨b,rfl,hbe,hbv⟩
          have hnew:q9 c.parties c.clauses[i] (xq c.clauses[i] b)=true:=by
            simp only [q9,xq,yr,hw]
            have h1:=kv.after
            have:¬ c.clauses[i].after < 1:=by omega
            cases h4:(c.clauses[i].kind == 4) with
            | true=>rw [h4] at hbv;simp only [cond_true] at hbv;subst hbv;simp [this]
            | false=>rw [h4] at hbv;simp only [cond_false] at hbv;simp [this,hbv]
          refine Ret.some ⟨⟨by simpa using hl2,fun j k m hj hmj => ?_⟩,fun j m m' h1 h2 => ?_,fun hn => ?_,fun j k m hj hmj => ?_,fun h=>by simp at h,fun _ => ?_⟩
          · rw [List.getElem?_set] at hmj
            by_cases hij:i=j
            · subst hij
              rw [if_pos rfl,if_pos hi2] at hmj
              rw [hk] at hj
              cases hj;cases hmj;exact hnew
            · rw [if_neg hij] at hmj;exact ok2.2 j k m hj hmj
          · simp only at h2
            rw [List.getElem?_set] at h2
            by_cases hij:i=j
            · subst hij
              rw [if_pos rfl,if_pos hi2] at h2
              cases h2
              refine .inr ⟨?_,_,b,hk,rfl⟩
              rcases rel2 i m _ h1 hm2 with h | ⟨h,_⟩
              · rw [←h];exact h0
              · exact h
            · rw [if_neg hij] at h2;exact rel2 j m m' h1 h2
          · have e:=same2 hn
            have:=hn i hi
            rw [←e,hr] at this
            cases this
          · show (ms2.set i (xq c.clauses[i] b))[j]?=some m∨Sta c.clauses ms j∧(ms2.set i (xq c.clauses[i] b))[j]?=some (xq k (yQ hs k))
            rw [List.getElem?_set]
            by_cases hij:i=j
            · subst hij
              rw [if_pos rfl,if_pos hi2]
              rw [hk] at hj
              cases hj
              exact .inr ⟨zct hl0 hl2 sta2 hk (hcd _ _ hk) hr,by rw [hbe]⟩
            · rw [if_neg hij];exact sta2 j k m hj hmj
          · have h3:=zcu (m':=xq c.clauses[i] b) hm2 h0 (by simp [xq])
            show wX (ms2.set i (xq c.clauses[i] b)) < wX ms1
            cases b0 with
            | true=>have:=lt2 rfl;omega
            | false=>have e:=(nr2 rfl).1;subst e;exact h3
    · rintro _ ⟨⟨b2,ms2⟩,rfl,ok2,rel2,same2,sta2,nr2,lt2⟩
      simp only at ok2 rel2 same2 sta2 nr2 lt2
      simp only [Sum.elim_inl]
      refine Ret.some ⟨⟨ok2,rel2,fun hn => ?_,sta2,fun hb2 => ?_⟩,?_⟩
      · have e:=hsame hn
        simp only at e
        subst e
        exact same2 hn
      · obtain ⟨e1,e2⟩:=nr2 hb2
        simp only;rw [e1];exact e2
      · simp only
        cases b2 with
        | true=>have:=lt2 rfl;simp;omega
        | false=>have:=(nr2 rfl).1;subst this;simp
end Go.Proofs.YtmoedieenlaegaaGreatDoor
