/-
  Functions of the program: what they compute, and plans of their code that the kernel checks (printed by a program of ours).
  What 'contract.Valid' comes to.
  What Valid says.
  What 'slices.BinarySearch' comes to; sizes of valid contracts.
  What 'system.Valid' comes to.
  What is known of a valid contract; what 'start' does.
  What 'system.Step' does.
  What an act does.
-/
import Derived.Test.YtmoedieenlaegaaGreatDoorTO09
import Derived.Test.YtmoedieenlaegaaGreatDoorTO06
namespace Go.Proofs.YtmoedieenlaegaaGreatDoor
open Go.RowKit
set_option linter.unusedSimpArgs false
set_option linter.unusedVariables false
set_option maxRecDepth 100000
noncomputable def XW (p1:List Int) (p2:PosT) (p3:ContractT) (p4:Int) (p5:List (ByteArray×Int)):Option Bool:=
  (Option.bind (XV p1 p2 p3 p4 p5) fun r1=>some (decide (0≤r1)))
noncomputable def ziV (p1:List Int) (p2:PosT) (p3:ContractT) (p4:Int) (p5:List (ByteArray×Int)):Plan Bool:=
  .reg 1 (.b1 2038 (XV p1 p2 p3 p4 p5) (fun r1=>.c [0,1,2,3,4] 5 (vI r1) [] 0) (fun r1 hr1=>(zg (ziU p1 p2 p3 p4 p5 r1 hr1) [0,1,2,3,4] 8 (.drop rfl rfl (.drop rfl rfl (.drop rfl rfl (.drop rfl rfl (.drop rfl rfl .nil))))) (rhI (rhR (rhR (rhR (rhM rhN))))) rhN)) fun r1=>.use 2 2038 (.ret (decide (0≤r1))))
theorem ziW (p1:List Int) (p2:PosT) (p3:ContractT) (p4:Int) (p5:List (ByteArray×Int)) (res:Bool) (hd:XW p1 p2 p3 p4 p5=some res):DOk C0 26 [.mslice 0 0 p1.length,.func 231 [] [.ptr 1 0 0,.ptr 2 0 0]] [(0,.rows 1 (zc zb p1)),(1,.rows 1 [[.ptr 3 0 0]]),(2,.rows 5 [zm (PosT.row p2)]),(3,.rows 9 [[vI p3.parties,.imm (.slice (List.map zb p3.holders)),.imm (.slice (List.map UnitT.row p3.units)),.imm (.slice (List.map ActT.row p3.acts)),.imm (.slice (List.map ClauseT.row p3.clauses)),vI p3.days,.imm (.slice (List.map zb p3.off)),vI p4,.map 4]]),(4,.map (zj IV.str IV.i64 p5))] 5 (vB res) [(0,.rows 1 (zc zb p1)),(1,.rows 1 [[.ptr 3 0 0]]),(2,.rows 5 [zm (PosT.row p2)]),(3,.rows 9 [[vI p3.parties,.imm (.slice (List.map zb p3.holders)),.imm (.slice (List.map UnitT.row p3.units)),.imm (.slice (List.map ActT.row p3.acts)),.imm (.slice (List.map ClauseT.row p3.clauses)),vI p3.days,.imm (.slice (List.map zb p3.off)),vI p4,.map 4]]),(4,.map (zj IV.str IV.i64 p5))] 0:=
  Plan.det (R:=fun res=>vB res) (H:=fun res=>[(0,.rows 1 (zc zb p1)),(1,.rows 1 [[.ptr 3 0 0]]),(2,.rows 5 [zm (PosT.row p2)]),(3,.rows 9 [[vI p3.parties,.imm (.slice (List.map zb p3.holders)),.imm (.slice (List.map UnitT.row p3.units)),.imm (.slice (List.map ActT.row p3.acts)),.imm (.slice (List.map ClauseT.row p3.clauses)),vI p3.days,.imm (.slice (List.map zb p3.off)),vI p4,.map 4]]),(4,.map (zj IV.str IV.i64 p5))]) (ziV p1 p2 p3 p4 p5) (.rows rfl (.exp rfl rfl (.exp rfl rfl (.exp rfl rfl (.ents rfl .nil))))) (fun _=>(.rows rfl (.exp rfl rfl (.exp rfl rfl (.exp rfl rfl (.ents rfl .nil)))))) (by kernel_rfl) (fun _=>by kernel_rfl) (by kernel_rfl) (Plan.run_of hd (by kernel_rfl))
noncomputable def XX (p1:List Int) (p2:PosT) (p3:ContractT) (p4:Int) (p5:List (ByteArray×Int)):Option Int:=
  (Option.bind (forR (σ:=Unit) (ρ:=Int) (p1.length:Int) (fun i1 s1=>(Option.bind (ze p1 (i1:Int)) fun e1=>(Option.bind (yJ e1 p2 p3 p4 p5) fun r1=>(bif r1 then some (.inr (i1:Int)) else some (.inl ()))))) ()) (Sum.elim (fun (s1:Unit)=>some (-1)) (fun (y1:Int)=>some y1)))
noncomputable def ziX (p1:List Int) (p2:PosT) (p3:ContractT) (p4:Int) (p5:List (ByteArray×Int)):Plan Int:=
  .reg 1 (.ln 2048 zb p1 (.use 1 2048 (.forR (σ:=Unit) (ρ:=Int) 2040 8 (p1.length:Int) () (.k [0,1,7] (fun _=>[]) [0,1,2] (fun _=>[(3,.map (zj IV.str IV.i64 p5))]) 8 fun _=>(.ents rfl .nil)) (fun i1 s1=>.sel 2040 (.reg 1 (.ix 2044 zb p1 (i1:Int) fun e1=>.b1 2046 (yJ e1 p2 p3 p4 p5) (fun r1=>.c [0,1,2,3] 4 (vB r1) [] 0) (fun r1 hr1=>(zg (zdj e1 p2 p3 p4 p5 r1 hr1) [0,1,2,3] 16 (.drop rfl rfl (.drop rfl rfl (.drop rfl rfl (.drop rfl rfl .nil)))) (rhR (rhR (rhR (rhM rhN)))) rhN)) fun r1=>.us [(3,2044),(5,2046)] (.ite 2042 r1 (.sel 2042 (.ret (.inr (i1:Int)))) (.sel 2042 (.ret (.inl ()))))))) fun os1=>.case os1 (fun s1=>.sel 2040 (.ret (-1))) fun y1=>.ret y1)))
theorem ziY (p1:List Int) (p2:PosT) (p3:ContractT) (p4:Int) (p5:List (ByteArray×Int)) (res:Int) (hd:XX p1 p2 p3 p4 p5=some res):DOk C0 49 [.imm (.slice (List.map zb p1)),.func 231 [] [.ptr 0 0 0,.ptr 1 0 0]] [(0,.rows 1 [[.ptr 2 0 0]]),(1,.rows 5 [zm (PosT.row p2)]),(2,.rows 9 [[vI p3.parties,.imm (.slice (List.map zb p3.holders)),.imm (.slice (List.map UnitT.row p3.units)),.imm (.slice (List.map ActT.row p3.acts)),.imm (.slice (List.map ClauseT.row p3.clauses)),vI p3.days,.imm (.slice (List.map zb p3.off)),vI p4,.map 3]]),(3,.map (zj IV.str IV.i64 p5))] 4 (vI res) [(0,.rows 1 [[.ptr 2 0 0]]),(1,.rows 5 [zm (PosT.row p2)]),(2,.rows 9 [[vI p3.parties,.imm (.slice (List.map zb p3.holders)),.imm (.slice (List.map UnitT.row p3.units)),.imm (.slice (List.map ActT.row p3.acts)),.imm (.slice (List.map ClauseT.row p3.clauses)),vI p3.days,.imm (.slice (List.map zb p3.off)),vI p4,.map 3]]),(3,.map (zj IV.str IV.i64 p5))] 0:=
  Plan.det (R:=fun res=>vI res) (H:=fun res=>[(0,.rows 1 [[.ptr 2 0 0]]),(1,.rows 5 [zm (PosT.row p2)]),(2,.rows 9 [[vI p3.parties,.imm (.slice (List.map zb p3.holders)),.imm (.slice (List.map UnitT.row p3.units)),.imm (.slice (List.map ActT.row p3.acts)),.imm (.slice (List.map ClauseT.row p3.clauses)),vI p3.days,.imm (.slice (List.map zb p3.off)),vI p4,.map 3]]),(3,.map (zj IV.str IV.i64 p5))]) (ziX p1 p2 p3 p4 p5) (.exp rfl rfl (.exp rfl rfl (.exp rfl rfl (.ents rfl .nil)))) (fun _=>(.exp rfl rfl (.exp rfl rfl (.exp rfl rfl (.ents rfl .nil))))) (by kernel_rfl) (fun _=>by kernel_rfl) (by kernel_rfl) (Plan.run_of hd (by kernel_rfl))
noncomputable def XY (p1:List Int) (p2:PosT) (p3:ContractT) (p4:Int) (p5:List (ByteArray×Int)):Option Bool:=
  (Option.bind (XX p1 p2 p3 p4 p5) fun r1=>some (decide (0≤r1)))
noncomputable def ziZ (p1:List Int) (p2:PosT) (p3:ContractT) (p4:Int) (p5:List (ByteArray×Int)):Plan Bool:=
  .reg 1 (.b1 2050 (XX p1 p2 p3 p4 p5) (fun r1=>.c [0,1,2,3] 4 (vI r1) [] 0) (fun r1 hr1=>(zg (ziY p1 p2 p3 p4 p5 r1 hr1) [0,1,2,3] 7 (.drop rfl rfl (.drop rfl rfl (.drop rfl rfl (.drop rfl rfl .nil)))) (rhR (rhR (rhR (rhM rhN)))) rhN)) fun r1=>.use 2 2050 (.ret (decide (0≤r1))))
theorem zi0 (p1:List Int) (p2:PosT) (p3:ContractT) (p4:Int) (p5:List (ByteArray×Int)) (res:Bool) (hd:XY p1 p2 p3 p4 p5=some res):DOk C0 26 [.imm (.slice (List.map zb p1)),.func 231 [] [.ptr 0 0 0,.ptr 1 0 0]] [(0,.rows 1 [[.ptr 2 0 0]]),(1,.rows 5 [zm (PosT.row p2)]),(2,.rows 9 [[vI p3.parties,.imm (.slice (List.map zb p3.holders)),.imm (.slice (List.map UnitT.row p3.units)),.imm (.slice (List.map ActT.row p3.acts)),.imm (.slice (List.map ClauseT.row p3.clauses)),vI p3.days,.imm (.slice (List.map zb p3.off)),vI p4,.map 3]]),(3,.map (zj IV.str IV.i64 p5))] 4 (vB res) [(0,.rows 1 [[.ptr 2 0 0]]),(1,.rows 5 [zm (PosT.row p2)]),(2,.rows 9 [[vI p3.parties,.imm (.slice (List.map zb p3.holders)),.imm (.slice (List.map UnitT.row p3.units)),.imm (.slice (List.map ActT.row p3.acts)),.imm (.slice (List.map ClauseT.row p3.clauses)),vI p3.days,.imm (.slice (List.map zb p3.off)),vI p4,.map 3]]),(3,.map (zj IV.str IV.i64 p5))] 0:=
  Plan.det (R:=fun res=>vB res) (H:=fun res=>[(0,.rows 1 [[.ptr 2 0 0]]),(1,.rows 5 [zm (PosT.row p2)]),(2,.rows 9 [[vI p3.parties,.imm (.slice (List.map zb p3.holders)),.imm (.slice (List.map UnitT.row p3.units)),.imm (.slice (List.map ActT.row p3.acts)),.imm (.slice (List.map ClauseT.row p3.clauses)),vI p3.days,.imm (.slice (List.map zb p3.off)),vI p4,.map 3]]),(3,.map (zj IV.str IV.i64 p5))]) (ziZ p1 p2 p3 p4 p5) (.exp rfl rfl (.exp rfl rfl (.exp rfl rfl (.ents rfl .nil)))) (fun _=>(.exp rfl rfl (.exp rfl rfl (.exp rfl rfl (.ents rfl .nil))))) (by kernel_rfl) (fun _=>by kernel_rfl) (by kernel_rfl) (Plan.run_of hd (by kernel_rfl))
noncomputable def Qo (p1:ShieldW) (p2:Int) (p3:ContractT) (p4:Int) (p5:List (ByteArray×Int)):Option Bool:=
  (Option.bind (ze p1.s.rows p2) fun e1=>(Option.bind (yG p3 e1.position.state p4) fun r1=>(bif r1 then some false else (Option.bind (yH e1.position p3 p4 p5) fun r2=>(bif e1.position.own then (Option.bind (wy r2 e1.move) fun r3=>(bif r3 then (Option.bind (XW [e1.move] e1.position p3 p4 p5) fun r4=>some (!r4)) else some false)) else (Option.bind (XY r2 e1.position p3 p4 p5) fun r5=>some (!r5)))))))
noncomputable def zg9 (p1:ShieldW) (p2:Int) (p3:ContractT) (p4:Int) (p5:List (ByteArray×Int)):Plan Bool:=
  .reg 1 (.ix 2052 ShieldRowT.row p1.s.rows p2 fun e1=>.us [(4,2052),(11,2052)] (.reg 0 (.call 2054 (Ki p3 e1.position.state p4) fun r1=>.use 10 2054 (.ite 1944 r1 (.sel 1944 (.ret false)) (.sel 1944 (.reg 0 (.b1 2056 (yH e1.position p3 p4 p5) (fun r2=>.c [0,1] 2 (.imm (.slice (List.map zb r2))) [] 0) (fun r2 hr2=>(zg (zdh e1.position p3 p4 p5 r2 hr2) [0,1] 35 (.drop rfl rfl (.drop rfl rfl .nil)) (rhR (rhM rhN)) rhN)) fun r2=>.use 2 2056 (.ite 2004 e1.position.own (.sel 2004 (.reg 0 (.call 2058 (XU r2 e1.move) fun r3=>.use 2 2058 (.ite 2016 r3 (.sel 2017 (.reg 1 (.b1 2060 (XW [e1.move] e1.position p3 p4 p5) (fun r4=>.c [44,3,19,0,1] 5 (vB r4) [] 0) (fun r4 hr4=>(zg (ziW [e1.move] e1.position p3 p4 p5 r4 hr4) [44,3,19,0,1] 48 (.drop rfl rfl (.drop rfl rfl (.drop rfl rfl (.drop rfl rfl (.drop rfl rfl .nil))))) (rhI (rhR (rhR (rhR (rhM rhN))))) rhN)) fun r4=>.use 2 2060 (.ret (!r4))))) (.sel 2017 (.ret false)))))) (.sel 2004 (.reg 0 (.b1 2062 (XY r2 e1.position p3 p4 p5) (fun r5=>.c [3,19,0,1] 4 (vB r5) [] 0) (fun r5 hr5=>(zg (zi0 r2 e1.position p3 p4 p5 r5 hr5) [3,19,0,1] 41 (.drop rfl rfl (.drop rfl rfl (.drop rfl rfl (.drop rfl rfl .nil)))) (rhR (rhR (rhR (rhM rhN)))) rhN)) fun r5=>.use 2 2062 (.ret (!r5)))))))))))))
theorem zha (p1:ShieldW) (p2:Int) (p3:ContractT) (p4:Int) (p5:List (ByteArray×Int)) (res:Bool) (hd:Qo p1 p2 p3 p4 p5=some res):DOk C0 230 [.imm (.agg (ShieldW.row p1)),.ptr 0 0 0,vI p2] [(0,.rows 9 [[vI p3.parties,.imm (.slice (List.map zb p3.holders)),.imm (.slice (List.map UnitT.row p3.units)),.imm (.slice (List.map ActT.row p3.acts)),.imm (.slice (List.map ClauseT.row p3.clauses)),vI p3.days,.imm (.slice (List.map zb p3.off)),vI p4,.map 1]]),(1,.map (zj IV.str IV.i64 p5))] 2 (vB res) [(0,.rows 9 [[vI p3.parties,.imm (.slice (List.map zb p3.holders)),.imm (.slice (List.map UnitT.row p3.units)),.imm (.slice (List.map ActT.row p3.acts)),.imm (.slice (List.map ClauseT.row p3.clauses)),vI p3.days,.imm (.slice (List.map zb p3.off)),vI p4,.map 1]]),(1,.map (zj IV.str IV.i64 p5))] 0:=
  Plan.det (R:=fun res=>vB res) (H:=fun res=>[(0,.rows 9 [[vI p3.parties,.imm (.slice (List.map zb p3.holders)),.imm (.slice (List.map UnitT.row p3.units)),.imm (.slice (List.map ActT.row p3.acts)),.imm (.slice (List.map ClauseT.row p3.clauses)),vI p3.days,.imm (.slice (List.map zb p3.off)),vI p4,.map 1]]),(1,.map (zj IV.str IV.i64 p5))]) (zg9 p1 p2 p3 p4 p5) (.exp rfl rfl (.ents rfl .nil)) (fun _=>(.exp rfl rfl (.ents rfl .nil))) (by kernel_rfl) (fun _=>by kernel_rfl) (by kernel_rfl) (Plan.run_of hd (by kernel_rfl))
noncomputable def Qp (p1:ContractT) (p2:ShieldW):Option Bool:=
  (Option.bind (Qn p2) fun r1=>(Option.bind (bif decide (r1 < 0) then some true else (bif decide (p1.parties≤r1) then some true else (Option.bind (jQ p2) fun r2=>(bif decide (r2 < 1) then some true else (Option.bind (jQ p2) fun r3=>some (decide (1500 < r3))))))) fun v1=>(bif v1 then some false else (Option.bind (jQ p2) fun r4=>(Option.bind (forR (σ:=(List (ByteArray×Int))) (ρ:=Unit) r4 (fun i1 s1=>(Option.bind (α:=(List (ByteArray×Int)) ⊕ Unit) (Option.bind (WJ p2 (i1:Int)) fun r5=>(Option.bind (q7 p1 r5.1.state) fun r6=>(bif r6 then (Option.bind (ja r5.1) fun r7=>(Option.bind (bif ((zy r7 s1).isSome) then some (decide (r5.2 < ((zy r7 s1).getD 0))) else some true) fun v2=>(bif v2 then some (.inl (qh r7 r5.2 s1)) else some (.inl s1)))) else some (.inr ())))) (Sum.elim (fun (v3:(List (ByteArray×Int)))=>some (.inl v3)) (fun (y1:Unit)=>some (.inr ()))))) []) (Sum.elim (fun (s1:(List (ByteArray×Int)))=>(Option.bind (jQ p2) fun r8=>(Option.bind (forR (σ:=Unit) (ρ:=Unit) r8 (fun i2 s2=>(Option.bind (Qo p2 (i2:Int) p1 r1 s1) fun r9=>(bif r9 then some (.inl ()) else some (.inr ())))) ()) (Sum.elim (fun (s2:Unit)=>some true) (fun (y3:Unit)=>some false))))) (fun (y2:Unit)=>some false)))))))
noncomputable def zhb (p1:ContractT) (p2:ShieldW):Plan Bool:=
  .reg 1 (.call 2066 (zdg p2) fun r1=>.use 2 2066 (.cut (β:=Bool) 2 (.e [1,2,5] (fun v1=>[(42,vB v1)]) [0,5,7] 33) (.reg 0 (.ite 1890 (decide (r1 < 0)) (.use 6 1890 (.f1 2070 (.g true) (rfl:true=true) (.use 15 2070 (.f1 2068 (.g true) (rfl:true=true) (.use 20 2068 (.ret true)))))) (.ite 1892 (decide (p1.parties≤r1)) (.us [(6,1890),(15,1892)] (.f1 2072 (.g true) (rfl:true=true) (.use 20 2072 (.ret true)))) (.call 2074 (Zz p2) fun r2=>.ite 1896 (decide (r2 < 1)) (.us [(6,1890),(15,1892),(16,2074),(20,1896)] (.ret true)) (.call 2076 (Zz p2) fun r3=>.us [(6,1890),(15,1892),(16,2074),(20,1896),(21,2076)] (.ret (decide (1500 < r3)))))))) fun v1=>.ite 1898 v1 (.sel 1898 (.ret false)) (.sel 1898 (.reg 0 (.call 2078 (Zz p2) fun r4=>.use 1 2078 (.forR (σ:=(List (ByteArray×Int))) (ρ:=Unit) 1900 45 r4 [] (.k [1,2,5,44] (fun _=>[]) [0,7] (fun s1=>[(5,.map (zj IV.str IV.i64 s1))]) 36 fun _=>(.ents rfl .nil)) (fun i1 s1=>.sel 1900 (.cutO (β:=(List (ByteArray×Int))) (γ:=Unit) 1 (.k [1,2,5,44,45] (fun _=>[]) [0,7] (fun v3=>[(5,.map (zj IV.str IV.i64 v3))]) 74 fun _=>(.ents rfl .nil)) (.reg 1 (.call 2080 (zfL p2 (i1:Int)) fun r5=>.use 2 2080 (.reg 0 (.call 2082 (wV p1 r5.1.state) fun r6=>.use 3 2082 (.ite 1910 r6 (.sel 1911 (.reg 0 (.call 2084 (WG r5.1) fun r7=>.use 1 2084 (.reg 0 (.f1 2088 (.l (vI ((zy r7 s1).getD 0)) ((zy r7 s1).isSome)) (xp IV.i64 0 r7 s1) (.use 5 2088 (.cut (β:=Bool) 1 (.k [1,2,5,44,45,8,9] (fun v2=>[(76,vB v2)]) [0,7,45] (fun _=>[(5,.map (zj IV.str IV.i64 s1))]) 74 fun _=>(.ents rfl .nil)) (.reg 0 (.ite 1912 ((zy r7 s1).isSome) (.use 3 1913 (.ret (decide (r5.2 < ((zy r7 s1).getD 0))))) (.use 3 1913 (.ret true)))) fun v2=>.ite 1914 v2 (.sel 1914 (.reg 0 (.f1 2086 (.u (zj IV.str IV.i64 (qh r7 r5.2 s1))) (x9 IV.i64 r7 r5.2 s1) (.use 6 2086 (.ret (.inl (qh r7 r5.2 s1))))))) (.sel 1914 (.ret (.inl s1)))))))))) (.sel 1911 (.ret (.inr ())))))))) fun o_v3=>.case o_v3 (fun v3=>.ret (.inl v3)) fun y1=>.ret (.inr ()))) fun os1=>.case os1 (fun s1=>.sel 1900 (.reg 0 (.call 2090 (Zz p2) fun r8=>.use 1 2090 (.forR (σ:=Unit) (ρ:=Unit) 1916 86 r8 () (.k [1,5,85] (fun _=>[]) [7] (fun _=>[(5,.map (zj IV.str IV.i64 s1))]) 40 fun _=>(.ents rfl .nil)) (fun i2 s2=>.sel 1916 (.reg 1 (.b1 2092 (Qo p2 (i2:Int) p1 r1 s1) (fun r9=>.c [7,5] 2 (vB r9) [] 0) (fun r9 hr9=>(zg (zha p2 (i2:Int) p1 r1 s1 r9 hr9) [7,5] 46 (.drop rfl rfl (.drop rfl rfl .nil)) (rhR (rhM rhN)) rhN)) fun r9=>.use 3 2092 (.ite 2064 r9 (.sel 2065 (.ret (.inl ()))) (.sel 2065 (.ret (.inr ()))))))) fun os2=>.case os2 (fun s2=>.sel 1916 (.ret true)) fun y3=>.ret false)))) fun y2=>.ret false))))))
theorem zhc (p1:ContractT) (p2:ShieldW) (res:Bool) (hd:Qp p1 p2=some res):DOk C0 302 [.agg (zm (ContractT.row p1)),.imm (.iface 105 (.agg (ShieldW.row p2)))] [] 0 (vB res) [] 0:=
  Plan.det (R:=fun res=>vB res) (H:=fun res=>[]) (zhb p1 p2) .nil (fun _=>.nil) (by kernel_rfl) (fun _=>by kernel_rfl) (by kernel_rfl) (Plan.run_of hd (by kernel_rfl))
noncomputable def xR (c:ContractT) (s:ShieldT):Option Bool:=
  (Option.bind (Qp c ({s:=s}:ShieldW)) fun r1=>some r1)
noncomputable def VV (c:ContractT) (s:ShieldT):Plan Bool:=
  .reg 1 (.b1 2094 (Qp c ({s:=s}:ShieldW)) (fun r1=>.c [] 0 (vB r1) [] 0) (fun r1 hr1=>(zg (zhc c ({s:=s}:ShieldW) r1 hr1) [] 7 .nil rhN rhN)) fun r1=>.use 4 2094 (.ret r1))
theorem VW (c:ContractT) (s:ShieldT) (res:Bool) (hd:xR c s=some res):APure C0 299 [.agg (ContractT.row c),.agg (ShieldT.row s)] (.bool res):=
  Plan.pure (iv:=fun res=>.bool res) (VV c s) (by kernel_rfl) (Plan.run_of hd (by kernel_rfl))
noncomputable def Qq (p:DoomW):Option Int:=
  some p.d.party
noncomputable def zdk (p:DoomW):Plan Int:=
  .ret p.d.party
theorem zdl (p:DoomW) (res:Int) (hd:Qq p=some res):APure C0 227 [.agg (DoomW.row p)] (.int .i64 res):=
  Plan.pure (iv:=fun res=>.int .i64 res) (zdk p) (by kernel_rfl) (Plan.run_of hd (by kernel_rfl))
noncomputable def jR (p:DoomW):Option Int:=
  some (p.d.rows.length:Int)
noncomputable def zex (p:DoomW):Plan Int:=
  .reg 1 (.ln 2102 DoomRowT.row p.d.rows (.use 3 2102 (.ret (p.d.rows.length:Int))))
theorem ZA (p:DoomW) (res:Int) (hd:jR p=some res):APure C0 229 [.agg (DoomW.row p)] (.int .i64 res):=
  Plan.pure (iv:=fun res=>.int .i64 res) (zex p) (by kernel_rfl) (Plan.run_of hd (by kernel_rfl))
noncomputable def WK (p:DoomW) (i:Int):Option (PosT×Int):=
  (Option.bind (ze p.d.rows i) fun e1=>some (e1.position,e1.rank))
noncomputable def zfQ (p:DoomW) (i:Int):Plan (PosT×Int):=
  .reg 1 (.ix 2110 DoomRowT.row p.d.rows i fun e1=>.us [(4,2110),(11,2110)] (.ret (e1.position,e1.rank)))
theorem zfR (p:DoomW) (i:Int) (res:PosT×Int) (hd:WK p i=some res):APure C0 228 [.agg (DoomW.row p),.int .i64 i] (.tuple [.agg (PosT.row res.1),.int .i64 res.2]):=
  Plan.pure (iv:=fun res=>.tuple [.agg (PosT.row res.1),.int .i64 res.2]) (zfQ p i) (by kernel_rfl) (Plan.run_of hd (by kernel_rfl))
noncomputable def yK (p1:PosT) (p2:Int) (p3:Int) (p4:ContractT) (p5:Int) (p6:List (ByteArray×Int)):Option Bool:=
  (Option.bind (yI p1 p2 p4 p5 p6) fun r1=>(Option.bind (bif r1.2 then some (decide (r1.1 < p3)) else some false) fun v1=>some v1))
noncomputable def zhd (p1:PosT) (p2:Int) (p3:Int) (p4:ContractT) (p5:Int) (p6:List (ByteArray×Int)):Plan Bool:=
  .reg 1 (.b1 2136 (yI p1 p2 p4 p5 p6) (fun r1=>.c [0,1] 2 (.tuple [vI r1.1,vB r1.2]) [] 0) (fun r1 hr1=>(zg (zdi p1 p2 p4 p5 p6 r1 hr1) [0,1] 7 (.drop rfl rfl (.drop rfl rfl .nil)) (rhR (rhM rhN)) rhN)) fun r1=>.use 3 2136 (.cut (β:=Bool) 1 (.k [] (fun v1=>[(8,vB v1)]) [0,2] (fun _=>[(1,.map (zj IV.str IV.i64 p6))]) 20 fun _=>(.ents rfl .nil)) (.reg 0 (.ite 2134 r1.2 (.use 2 2134 (.ret (decide (r1.1 < p3)))) (.use 2 2134 (.ret false)))) fun v1=>.ret v1))
theorem zdm (p1:PosT) (p2:Int) (p3:Int) (p4:ContractT) (p5:Int) (p6:List (ByteArray×Int)) (res:Bool) (hd:yK p1 p2 p3 p4 p5 p6=some res):DOk C0 223 [.ptr 0 0 0,.agg (zm (PosT.row p1)),vI p2,vI p3] [(0,.rows 9 [[vI p4.parties,.imm (.slice (List.map zb p4.holders)),.imm (.slice (List.map UnitT.row p4.units)),.imm (.slice (List.map ActT.row p4.acts)),.imm (.slice (List.map ClauseT.row p4.clauses)),vI p4.days,.imm (.slice (List.map zb p4.off)),vI p5,.map 1]]),(1,.map (zj IV.str IV.i64 p6))] 2 (vB res) [(0,.rows 9 [[vI p4.parties,.imm (.slice (List.map zb p4.holders)),.imm (.slice (List.map UnitT.row p4.units)),.imm (.slice (List.map ActT.row p4.acts)),.imm (.slice (List.map ClauseT.row p4.clauses)),vI p4.days,.imm (.slice (List.map zb p4.off)),vI p5,.map 1]]),(1,.map (zj IV.str IV.i64 p6))] 0:=
  Plan.det (R:=fun res=>vB res) (H:=fun res=>[(0,.rows 9 [[vI p4.parties,.imm (.slice (List.map zb p4.holders)),.imm (.slice (List.map UnitT.row p4.units)),.imm (.slice (List.map ActT.row p4.acts)),.imm (.slice (List.map ClauseT.row p4.clauses)),vI p4.days,.imm (.slice (List.map zb p4.off)),vI p5,.map 1]]),(1,.map (zj IV.str IV.i64 p6))]) (zhd p1 p2 p3 p4 p5 p6) (.exp rfl rfl (.ents rfl .nil)) (fun _=>(.exp rfl rfl (.ents rfl .nil))) (by kernel_rfl) (fun _=>by kernel_rfl) (by kernel_rfl) (Plan.run_of hd (by kernel_rfl))
noncomputable def Qr (p1:Int) (p2:PosT) (p3:Int) (p4:ContractT) (p5:Int) (p6:List (ByteArray×Int)):Option Bool:=
  (Option.bind (yK p2 p1 p3 p4 p5 p6) fun r1=>some (!r1))
noncomputable def zhe (p1:Int) (p2:PosT) (p3:Int) (p4:ContractT) (p5:Int) (p6:List (ByteArray×Int)):Plan Bool:=
  .reg 1 (.b1 2140 (yK p2 p1 p3 p4 p5 p6) (fun r1=>.c [3,4] 2 (vB r1) [] 0) (fun r1 hr1=>(zg (zdm p2 p1 p3 p4 p5 p6 r1 hr1) [3,4] 10 (.drop rfl rfl (.drop rfl rfl .nil)) (rhR (rhM rhN)) rhN)) fun r1=>.use 4 2140 (.ret (!r1)))
theorem zhf (p1:Int) (p2:PosT) (p3:Int) (p4:ContractT) (p5:Int) (p6:List (ByteArray×Int)) (res:Bool) (hd:Qr p1 p2 p3 p4 p5 p6=some res):DOk C0 226 [vI p1,.ptr 0 0 0,.ptr 1 0 0,.ptr 2 0 0] [(0,.rows 1 [[.ptr 3 0 0]]),(1,.rows 5 [zm (PosT.row p2)]),(2,.rows 1 [[vI p3]]),(3,.rows 9 [[vI p4.parties,.imm (.slice (List.map zb p4.holders)),.imm (.slice (List.map UnitT.row p4.units)),.imm (.slice (List.map ActT.row p4.acts)),.imm (.slice (List.map ClauseT.row p4.clauses)),vI p4.days,.imm (.slice (List.map zb p4.off)),vI p5,.map 4]]),(4,.map (zj IV.str IV.i64 p6))] 5 (vB res) [(0,.rows 1 [[.ptr 3 0 0]]),(1,.rows 5 [zm (PosT.row p2)]),(2,.rows 1 [[vI p3]]),(3,.rows 9 [[vI p4.parties,.imm (.slice (List.map zb p4.holders)),.imm (.slice (List.map UnitT.row p4.units)),.imm (.slice (List.map ActT.row p4.acts)),.imm (.slice (List.map ClauseT.row p4.clauses)),vI p4.days,.imm (.slice (List.map zb p4.off)),vI p5,.map 4]]),(4,.map (zj IV.str IV.i64 p6))] 0:=
  Plan.det (R:=fun res=>vB res) (H:=fun res=>[(0,.rows 1 [[.ptr 3 0 0]]),(1,.rows 5 [zm (PosT.row p2)]),(2,.rows 1 [[vI p3]]),(3,.rows 9 [[vI p4.parties,.imm (.slice (List.map zb p4.holders)),.imm (.slice (List.map UnitT.row p4.units)),.imm (.slice (List.map ActT.row p4.acts)),.imm (.slice (List.map ClauseT.row p4.clauses)),vI p4.days,.imm (.slice (List.map zb p4.off)),vI p5,.map 4]]),(4,.map (zj IV.str IV.i64 p6))]) (zhe p1 p2 p3 p4 p5 p6) (.exp rfl rfl (.exp rfl rfl (.exp rfl rfl (.exp rfl rfl (.ents rfl .nil))))) (fun _=>(.exp rfl rfl (.exp rfl rfl (.exp rfl rfl (.exp rfl rfl (.ents rfl .nil)))))) (by kernel_rfl) (fun _=>by kernel_rfl) (by kernel_rfl) (Plan.run_of hd (by kernel_rfl))
noncomputable def XZ (p1:List Int) (p2:PosT) (p3:Int) (p4:ContractT) (p5:Int) (p6:List (ByteArray×Int)):Option Int:=
  (Option.bind (forR (σ:=Unit) (ρ:=Int) (p1.length:Int) (fun i1 s1=>(Option.bind (ze p1 (i1:Int)) fun e1=>(Option.bind (Qr e1 p2 p3 p4 p5 p6) fun r1=>(bif r1 then some (.inr (i1:Int)) else some (.inl ()))))) ()) (Sum.elim (fun (s1:Unit)=>some (-1)) (fun (y1:Int)=>some y1)))
noncomputable def zi1 (p1:List Int) (p2:PosT) (p3:Int) (p4:ContractT) (p5:Int) (p6:List (ByteArray×Int)):Plan Int:=
  .reg 1 (.ln 2148 zb p1 (.use 1 2148 (.forR (σ:=Unit) (ρ:=Int) 2138 8 (p1.length:Int) () (.k [0,1,7] (fun _=>[]) [0,1,2,3] (fun _=>[(4,.map (zj IV.str IV.i64 p6))]) 9 fun _=>(.ents rfl .nil)) (fun i1 s1=>.sel 2138 (.reg 1 (.ix 2144 zb p1 (i1:Int) fun e1=>.b1 2146 (Qr e1 p2 p3 p4 p5 p6) (fun r1=>.c [0,1,2,3,4] 5 (vB r1) [] 0) (fun r1 hr1=>(zg (zhf e1 p2 p3 p4 p5 p6 r1 hr1) [0,1,2,3,4] 17 (.drop rfl rfl (.drop rfl rfl (.drop rfl rfl (.drop rfl rfl (.drop rfl rfl .nil))))) (rhR (rhR (rhR (rhR (rhM rhN))))) rhN)) fun r1=>.us [(3,2144),(5,2146)] (.ite 2142 r1 (.sel 2142 (.ret (.inr (i1:Int)))) (.sel 2142 (.ret (.inl ()))))))) fun os1=>.case os1 (fun s1=>.sel 2138 (.ret (-1))) fun y1=>.ret y1)))
theorem zi2 (p1:List Int) (p2:PosT) (p3:Int) (p4:ContractT) (p5:Int) (p6:List (ByteArray×Int)) (res:Int) (hd:XZ p1 p2 p3 p4 p5 p6=some res):DOk C0 49 [.imm (.slice (List.map zb p1)),.func 226 [] [.ptr 0 0 0,.ptr 1 0 0,.ptr 2 0 0]] [(0,.rows 1 [[.ptr 3 0 0]]),(1,.rows 5 [zm (PosT.row p2)]),(2,.rows 1 [[vI p3]]),(3,.rows 9 [[vI p4.parties,.imm (.slice (List.map zb p4.holders)),.imm (.slice (List.map UnitT.row p4.units)),.imm (.slice (List.map ActT.row p4.acts)),.imm (.slice (List.map ClauseT.row p4.clauses)),vI p4.days,.imm (.slice (List.map zb p4.off)),vI p5,.map 4]]),(4,.map (zj IV.str IV.i64 p6))] 5 (vI res) [(0,.rows 1 [[.ptr 3 0 0]]),(1,.rows 5 [zm (PosT.row p2)]),(2,.rows 1 [[vI p3]]),(3,.rows 9 [[vI p4.parties,.imm (.slice (List.map zb p4.holders)),.imm (.slice (List.map UnitT.row p4.units)),.imm (.slice (List.map ActT.row p4.acts)),.imm (.slice (List.map ClauseT.row p4.clauses)),vI p4.days,.imm (.slice (List.map zb p4.off)),vI p5,.map 4]]),(4,.map (zj IV.str IV.i64 p6))] 0:=
  Plan.det (R:=fun res=>vI res) (H:=fun res=>[(0,.rows 1 [[.ptr 3 0 0]]),(1,.rows 5 [zm (PosT.row p2)]),(2,.rows 1 [[vI p3]]),(3,.rows 9 [[vI p4.parties,.imm (.slice (List.map zb p4.holders)),.imm (.slice (List.map UnitT.row p4.units)),.imm (.slice (List.map ActT.row p4.acts)),.imm (.slice (List.map ClauseT.row p4.clauses)),vI p4.days,.imm (.slice (List.map zb p4.off)),vI p5,.map 4]]),(4,.map (zj IV.str IV.i64 p6))]) (zi1 p1 p2 p3 p4 p5 p6) (.exp rfl rfl (.exp rfl rfl (.exp rfl rfl (.exp rfl rfl (.ents rfl .nil))))) (fun _=>(.exp rfl rfl (.exp rfl rfl (.exp rfl rfl (.exp rfl rfl (.ents rfl .nil)))))) (by kernel_rfl) (fun _=>by kernel_rfl) (by kernel_rfl) (Plan.run_of hd (by kernel_rfl))
noncomputable def X0 (p1:List Int) (p2:PosT) (p3:Int) (p4:ContractT) (p5:Int) (p6:List (ByteArray×Int)):Option Bool:=
  (Option.bind (XZ p1 p2 p3 p4 p5 p6) fun r1=>some (decide (0≤r1)))
noncomputable def zi3 (p1:List Int) (p2:PosT) (p3:Int) (p4:ContractT) (p5:Int) (p6:List (ByteArray×Int)):Plan Bool:=
  .reg 1 (.b1 2150 (XZ p1 p2 p3 p4 p5 p6) (fun r1=>.c [0,1,2,3,4] 5 (vI r1) [] 0) (fun r1 hr1=>(zg (zi2 p1 p2 p3 p4 p5 p6 r1 hr1) [0,1,2,3,4] 8 (.drop rfl rfl (.drop rfl rfl (.drop rfl rfl (.drop rfl rfl (.drop rfl rfl .nil))))) (rhR (rhR (rhR (rhR (rhM rhN))))) rhN)) fun r1=>.use 2 2150 (.ret (decide (0≤r1))))
theorem zi4 (p1:List Int) (p2:PosT) (p3:Int) (p4:ContractT) (p5:Int) (p6:List (ByteArray×Int)) (res:Bool) (hd:X0 p1 p2 p3 p4 p5 p6=some res):DOk C0 26 [.imm (.slice (List.map zb p1)),.func 226 [] [.ptr 0 0 0,.ptr 1 0 0,.ptr 2 0 0]] [(0,.rows 1 [[.ptr 3 0 0]]),(1,.rows 5 [zm (PosT.row p2)]),(2,.rows 1 [[vI p3]]),(3,.rows 9 [[vI p4.parties,.imm (.slice (List.map zb p4.holders)),.imm (.slice (List.map UnitT.row p4.units)),.imm (.slice (List.map ActT.row p4.acts)),.imm (.slice (List.map ClauseT.row p4.clauses)),vI p4.days,.imm (.slice (List.map zb p4.off)),vI p5,.map 4]]),(4,.map (zj IV.str IV.i64 p6))] 5 (vB res) [(0,.rows 1 [[.ptr 3 0 0]]),(1,.rows 5 [zm (PosT.row p2)]),(2,.rows 1 [[vI p3]]),(3,.rows 9 [[vI p4.parties,.imm (.slice (List.map zb p4.holders)),.imm (.slice (List.map UnitT.row p4.units)),.imm (.slice (List.map ActT.row p4.acts)),.imm (.slice (List.map ClauseT.row p4.clauses)),vI p4.days,.imm (.slice (List.map zb p4.off)),vI p5,.map 4]]),(4,.map (zj IV.str IV.i64 p6))] 0:=
  Plan.det (R:=fun res=>vB res) (H:=fun res=>[(0,.rows 1 [[.ptr 3 0 0]]),(1,.rows 5 [zm (PosT.row p2)]),(2,.rows 1 [[vI p3]]),(3,.rows 9 [[vI p4.parties,.imm (.slice (List.map zb p4.holders)),.imm (.slice (List.map UnitT.row p4.units)),.imm (.slice (List.map ActT.row p4.acts)),.imm (.slice (List.map ClauseT.row p4.clauses)),vI p4.days,.imm (.slice (List.map zb p4.off)),vI p5,.map 4]]),(4,.map (zj IV.str IV.i64 p6))]) (zi3 p1 p2 p3 p4 p5 p6) (.exp rfl rfl (.exp rfl rfl (.exp rfl rfl (.exp rfl rfl (.ents rfl .nil))))) (fun _=>(.exp rfl rfl (.exp rfl rfl (.exp rfl rfl (.exp rfl rfl (.ents rfl .nil)))))) (by kernel_rfl) (fun _=>by kernel_rfl) (by kernel_rfl) (Plan.run_of hd (by kernel_rfl))
noncomputable def Qs (p1:DoomW) (p2:Int) (p3:ContractT) (p4:Int) (p5:List (ByteArray×Int)):Option Bool:=
  (Option.bind (ze p1.d.rows p2) fun e1=>(bif decide (e1.rank≤0) then (Option.bind (bif (e1.rank == 0) then (Option.bind (yG p3 e1.position.state p4) fun r1=>some r1) else some false) fun v1=>some v1) else (Option.bind (yH e1.position p3 p4 p5) fun r2=>(bif e1.position.own then (Option.bind (X0 r2 e1.position e1.rank p3 p4 p5) fun r5=>some (!r5)) else (Option.bind (Option.bind (wy r2 e1.move) fun r3=>(bif r3 then (Option.bind (yK e1.position e1.move e1.rank p3 p4 p5) fun r4=>some r4) else some false)) fun v2=>some v2)))))
noncomputable def zhg (p1:DoomW) (p2:Int) (p3:ContractT) (p4:Int) (p5:List (ByteArray×Int)):Plan Bool:=
  .reg 1 (.ix 2152 DoomRowT.row p1.d.rows p2 fun e1=>.us [(4,2152),(11,2152),(18,2152)] (.ite 2126 (decide (e1.rank≤0)) (.sel 2126 (.cut (β:=Bool) 1 (.k [] (fun v1=>[(6,vB v1)]) [0,2,3,26,27] (fun _=>[(1,.map (zj IV.str IV.i64 p5))]) 49 fun _=>(.ents rfl .nil)) (.reg 0 (.ite 2128 (e1.rank == 0) (.call 2154 (Ki p3 e1.position.state p4) fun r1=>.us [(3,2128),(13,2154)] (.ret r1)) (.use 3 2128 (.ret false)))) fun v1=>.ret v1)) (.sel 2126 (.reg 0 (.b1 2156 (yH e1.position p3 p4 p5) (fun r2=>.c [0,1] 2 (.imm (.slice (List.map zb r2))) [] 0) (fun r2 hr2=>(zg (zdh e1.position p3 p4 p5 r2 hr2) [0,1] 35 (.drop rfl rfl (.drop rfl rfl .nil)) (rhR (rhM rhN)) rhN)) fun r2=>.use 2 2156 (.ite 2130 e1.position.own (.sel 2131 (.reg 0 (.b1 2162 (X0 r2 e1.position e1.rank p3 p4 p5) (fun r5=>.c [3,26,27,0,1] 5 (vB r5) [] 0) (fun r5 hr5=>(zg (zi4 r2 e1.position e1.rank p3 p4 p5 r5 hr5) [3,26,27,0,1] 42 (.drop rfl rfl (.drop rfl rfl (.drop rfl rfl (.drop rfl rfl (.drop rfl rfl .nil))))) (rhR (rhR (rhR (rhR (rhM rhN))))) rhN)) fun r5=>.use 2 2162 (.ret (!r5))))) (.sel 2131 (.cut (β:=Bool) 1 (.k [] (fun v2=>[(6,vB v2)]) [0,2,3,26,27] (fun _=>[(1,.map (zj IV.str IV.i64 p5))]) 51 fun _=>(.ents rfl .nil)) (.reg 0 (.call 2158 (XU r2 e1.move) fun r3=>.ite 2132 r3 (.b1 2160 (yK e1.position e1.move e1.rank p3 p4 p5) (fun r4=>.c [0,1] 2 (vB r4) [] 0) (fun r4 hr4=>(zg (zdm e1.position e1.move e1.rank p3 p4 p5 r4 hr4) [0,1] 48 (.drop rfl rfl (.drop rfl rfl .nil)) (rhR (rhM rhN)) rhN)) fun r4=>.us [(2,2158),(4,2132),(8,2160)] (.ret r4)) (.us [(2,2158),(4,2132)] (.ret false)))) fun v2=>.ret v2))))))))
theorem zhh (p1:DoomW) (p2:Int) (p3:ContractT) (p4:Int) (p5:List (ByteArray×Int)) (res:Bool) (hd:Qs p1 p2 p3 p4 p5=some res):DOk C0 225 [.imm (.agg (DoomW.row p1)),.ptr 0 0 0,vI p2] [(0,.rows 9 [[vI p3.parties,.imm (.slice (List.map zb p3.holders)),.imm (.slice (List.map UnitT.row p3.units)),.imm (.slice (List.map ActT.row p3.acts)),.imm (.slice (List.map ClauseT.row p3.clauses)),vI p3.days,.imm (.slice (List.map zb p3.off)),vI p4,.map 1]]),(1,.map (zj IV.str IV.i64 p5))] 2 (vB res) [(0,.rows 9 [[vI p3.parties,.imm (.slice (List.map zb p3.holders)),.imm (.slice (List.map UnitT.row p3.units)),.imm (.slice (List.map ActT.row p3.acts)),.imm (.slice (List.map ClauseT.row p3.clauses)),vI p3.days,.imm (.slice (List.map zb p3.off)),vI p4,.map 1]]),(1,.map (zj IV.str IV.i64 p5))] 0:=
  Plan.det (R:=fun res=>vB res) (H:=fun res=>[(0,.rows 9 [[vI p3.parties,.imm (.slice (List.map zb p3.holders)),.imm (.slice (List.map UnitT.row p3.units)),.imm (.slice (List.map ActT.row p3.acts)),.imm (.slice (List.map ClauseT.row p3.clauses)),vI p3.days,.imm (.slice (List.map zb p3.off)),vI p4,.map 1]]),(1,.map (zj IV.str IV.i64 p5))]) (zhg p1 p2 p3 p4 p5) (.exp rfl rfl (.ents rfl .nil)) (fun _=>(.exp rfl rfl (.ents rfl .nil))) (by kernel_rfl) (fun _=>by kernel_rfl) (by kernel_rfl) (Plan.run_of hd (by kernel_rfl))
noncomputable def Qt (p1:ContractT) (p2:DoomW):Option Bool:=
  (Option.bind (Qq p2) fun r1=>(Option.bind (bif decide (r1 < 0) then some true else (bif decide (p1.parties≤r1) then some true else (Option.bind (jR p2) fun r2=>(bif decide (r2 < 1) then some true else (Option.bind (jR p2) fun r3=>some (decide (1500 < r3))))))) fun v1=>(bif v1 then some false else (Option.bind (jR p2) fun r4=>(Option.bind (forR (σ:=(List (ByteArray×Int))) (ρ:=Unit) r4 (fun i1 s1=>(Option.bind (α:=(List (ByteArray×Int)) ⊕ Unit) (Option.bind (WK p2 (i1:Int)) fun r5=>(Option.bind (q7 p1 r5.1.state) fun r6=>(bif r6 then (Option.bind (ja r5.1) fun r7=>(Option.bind (bif ((zy r7 s1).isSome) then some (decide (r5.2 < ((zy r7 s1).getD 0))) else some true) fun v2=>(bif v2 then some (.inl (qh r7 r5.2 s1)) else some (.inl s1)))) else some (.inr ())))) (Sum.elim (fun (v3:(List (ByteArray×Int)))=>some (.inl v3)) (fun (y1:Unit)=>some (.inr ()))))) []) (Sum.elim (fun (s1:(List (ByteArray×Int)))=>(Option.bind (jR p2) fun r8=>(Option.bind (forR (σ:=Unit) (ρ:=Unit) r8 (fun i2 s2=>(Option.bind (Qs p2 (i2:Int) p1 r1 s1) fun r9=>(bif r9 then some (.inl ()) else some (.inr ())))) ()) (Sum.elim (fun (s2:Unit)=>some true) (fun (y3:Unit)=>some false))))) (fun (y2:Unit)=>some false)))))))
noncomputable def zhi (p1:ContractT) (p2:DoomW):Plan Bool:=
  .reg 1 (.call 2166 (zdl p2) fun r1=>.use 2 2166 (.cut (β:=Bool) 2 (.e [1,2,5] (fun v1=>[(42,vB v1)]) [0,5,7] 33) (.reg 0 (.ite 2098 (decide (r1 < 0)) (.use 6 2098 (.f1 2170 (.g true) (rfl:true=true) (.use 15 2170 (.f1 2168 (.g true) (rfl:true=true) (.use 20 2168 (.ret true)))))) (.ite 2100 (decide (p1.parties≤r1)) (.us [(6,2098),(15,2100)] (.f1 2172 (.g true) (rfl:true=true) (.use 20 2172 (.ret true)))) (.call 2174 (ZA p2) fun r2=>.ite 2104 (decide (r2 < 1)) (.us [(6,2098),(15,2100),(16,2174),(20,2104)] (.ret true)) (.call 2176 (ZA p2) fun r3=>.us [(6,2098),(15,2100),(16,2174),(20,2104),(21,2176)] (.ret (decide (1500 < r3)))))))) fun v1=>.ite 2106 v1 (.sel 2106 (.ret false)) (.sel 2106 (.reg 0 (.call 2178 (ZA p2) fun r4=>.use 1 2178 (.forR (σ:=(List (ByteArray×Int))) (ρ:=Unit) 2108 45 r4 [] (.k [1,2,5,44] (fun _=>[]) [0,7] (fun s1=>[(5,.map (zj IV.str IV.i64 s1))]) 36 fun _=>(.ents rfl .nil)) (fun i1 s1=>.sel 2108 (.cutO (β:=(List (ByteArray×Int))) (γ:=Unit) 1 (.k [1,2,5,44,45] (fun _=>[]) [0,7] (fun v3=>[(5,.map (zj IV.str IV.i64 v3))]) 74 fun _=>(.ents rfl .nil)) (.reg 1 (.call 2180 (zfR p2 (i1:Int)) fun r5=>.use 2 2180 (.reg 0 (.call 2182 (wV p1 r5.1.state) fun r6=>.use 3 2182 (.ite 2118 r6 (.sel 2119 (.reg 0 (.call 2184 (WG r5.1) fun r7=>.use 1 2184 (.reg 0 (.f1 2188 (.l (vI ((zy r7 s1).getD 0)) ((zy r7 s1).isSome)) (xp IV.i64 0 r7 s1) (.use 5 2188 (.cut (β:=Bool) 1 (.k [1,2,5,44,45,8,9] (fun v2=>[(76,vB v2)]) [0,7,45] (fun _=>[(5,.map (zj IV.str IV.i64 s1))]) 74 fun _=>(.ents rfl .nil)) (.reg 0 (.ite 2120 ((zy r7 s1).isSome) (.use 3 2121 (.ret (decide (r5.2 < ((zy r7 s1).getD 0))))) (.use 3 2121 (.ret true)))) fun v2=>.ite 2122 v2 (.sel 2122 (.reg 0 (.f1 2186 (.u (zj IV.str IV.i64 (qh r7 r5.2 s1))) (x9 IV.i64 r7 r5.2 s1) (.use 6 2186 (.ret (.inl (qh r7 r5.2 s1))))))) (.sel 2122 (.ret (.inl s1)))))))))) (.sel 2119 (.ret (.inr ())))))))) fun o_v3=>.case o_v3 (fun v3=>.ret (.inl v3)) fun y1=>.ret (.inr ()))) fun os1=>.case os1 (fun s1=>.sel 2108 (.reg 0 (.call 2190 (ZA p2) fun r8=>.use 1 2190 (.forR (σ:=Unit) (ρ:=Unit) 2124 86 r8 () (.k [1,5,85] (fun _=>[]) [7] (fun _=>[(5,.map (zj IV.str IV.i64 s1))]) 40 fun _=>(.ents rfl .nil)) (fun i2 s2=>.sel 2124 (.reg 1 (.b1 2192 (Qs p2 (i2:Int) p1 r1 s1) (fun r9=>.c [7,5] 2 (vB r9) [] 0) (fun r9 hr9=>(zg (zhh p2 (i2:Int) p1 r1 s1 r9 hr9) [7,5] 46 (.drop rfl rfl (.drop rfl rfl .nil)) (rhR (rhM rhN)) rhN)) fun r9=>.use 3 2192 (.ite 2164 r9 (.sel 2165 (.ret (.inl ()))) (.sel 2165 (.ret (.inr ()))))))) fun os2=>.case os2 (fun s2=>.sel 2124 (.ret true)) fun y3=>.ret false)))) fun y2=>.ret false))))))
theorem zhj (p1:ContractT) (p2:DoomW) (res:Bool) (hd:Qt p1 p2=some res):DOk C0 302 [.agg (zm (ContractT.row p1)),.imm (.iface 108 (.agg (DoomW.row p2)))] [] 0 (vB res) [] 0:=
  Plan.det (R:=fun res=>vB res) (H:=fun res=>[]) (zhi p1 p2) .nil (fun _=>.nil) (by kernel_rfl) (fun _=>by kernel_rfl) (by kernel_rfl) (Plan.run_of hd (by kernel_rfl))
noncomputable def vE (c:ContractT) (d:DoomT):Option Bool:=
  (Option.bind (Qt c ({d:=d}:DoomW)) fun r1=>some r1)
noncomputable def zaa (c:ContractT) (d:DoomT):Plan Bool:=
  .reg 1 (.b1 2194 (Qt c ({d:=d}:DoomW)) (fun r1=>.c [] 0 (vB r1) [] 0) (fun r1 hr1=>(zg (zhj c ({d:=d}:DoomW) r1 hr1) [] 7 .nil rhN rhN)) fun r1=>.use 4 2194 (.ret r1))
theorem zab (c:ContractT) (d:DoomT) (res:Bool) (hd:vE c d=some res):APure C0 298 [.agg (ContractT.row c),.agg (DoomT.row d)] (.bool res):=
  Plan.pure (iv:=fun res=>.bool res) (zaa c d) (by kernel_rfl) (Plan.run_of hd (by kernel_rfl))
noncomputable def kj (c:ContractT) (n:Int):Option Bool:=
  (Option.bind (bif decide (20 < (c.holders.length:Int)) then some true else (bif decide (30 < (c.units.length:Int)) then some true else (bif decide (70 < (c.acts.length:Int)) then some true else (bif decide (n < (c.clauses.length:Int)) then some true else some (decide (100 < (c.off.length:Int))))))) fun v1=>(bif v1 then some false else (Option.bind (forR (σ:=Unit) (ρ:=Unit) (c.clauses.length:Int) (fun i1 s1=>(Option.bind (ze c.clauses (i1:Int)) fun e1=>(bif decide (20 < (e1.start.length:Int)) then some (.inr ()) else some (.inl ())))) ()) (Sum.elim (fun (s1:Unit)=>some true) (fun (y1:Unit)=>some false)))))
noncomputable def zdn (c:ContractT) (n:Int):Plan Bool:=
  .cut (β:=Bool) 3 (.e [2] (fun v1=>[(34,vB v1)]) [0] 31) (.reg 0 (.ite 2302 (decide (20 < (c.holders.length:Int))) (.ln 2322 zb c.holders (.us [(2,2322),(5,2302)] (.f1 2320 (.g true) (rfl:true=true) (.use 11 2320 (.f1 2318 (.g true) (rfl:true=true) (.use 17 2318 (.f1 2316 (.g true) (rfl:true=true) (.use 24 2316 (.ret true))))))))) (.ite 2304 (decide (30 < (c.units.length:Int))) (.ln 2330 zb c.holders (.us [(2,2330),(5,2302)] (.ln 2328 UnitT.row c.units (.us [(7,2328),(11,2304)] (.f1 2326 (.g true) (rfl:true=true) (.use 17 2326 (.f1 2324 (.g true) (rfl:true=true) (.use 24 2324 (.ret true))))))))) (.ite 2306 (decide (70 < (c.acts.length:Int))) (.ln 2338 zb c.holders (.us [(2,2338),(5,2302)] (.ln 2336 UnitT.row c.units (.us [(7,2336),(11,2304)] (.ln 2334 ActT.row c.acts (.us [(13,2334),(17,2306)] (.f1 2332 (.g true) (rfl:true=true) (.use 24 2332 (.ret true))))))))) (.ite 2308 (decide (n < (c.clauses.length:Int))) (.ln 2346 zb c.holders (.us [(2,2346),(5,2302)] (.ln 2344 UnitT.row c.units (.us [(7,2344),(11,2304)] (.ln 2342 ActT.row c.acts (.us [(13,2342),(17,2306)] (.ln 2340 ClauseT.row c.clauses (.us [(19,2340),(24,2308)] (.ret true))))))))) (.ln 2356 zb c.holders (.us [(2,2356),(5,2302)] (.ln 2354 UnitT.row c.units (.us [(7,2354),(11,2304)] (.ln 2352 ActT.row c.acts (.us [(13,2352),(17,2306)] (.ln 2350 ClauseT.row c.clauses (.us [(19,2350),(24,2308)] (.ln 2348 zb c.off (.use 26 2348 (.ret (decide (100 < (c.off.length:Int))))))))))))))))))) fun v1=>.ite 2310 v1 (.sel 2310 (.ret false)) (.sel 2310 (.forR (σ:=Unit) (ρ:=Unit) 2312 5 (c.clauses.length:Int) () (.e [2] (fun _=>[]) [0] 32) (fun i1 s1=>.reg 0 (.ln 2362 ClauseT.row c.clauses (.use 3 2362 (.sel 2312 (.reg 0 (.ix 2358 ClauseT.row c.clauses (i1:Int) fun e1=>.use 3 2358 (.ln 2360 CondT.row e1.start (.use 6 2360 (.ite 2314 (decide (20 < (e1.start.length:Int))) (.sel 2314 (.ret (.inr ()))) (.sel 2314 (.ret (.inl ())))))))))))) fun os1=>.case os1 (fun s1=>.reg 0 (.ln 2364 ClauseT.row c.clauses (.use 3 2364 (.sel 2312 (.ret true))))) fun y1=>.ret false))
theorem zdo (c:ContractT) (n:Int) (res:Bool) (hd:kj c n=some res):APure C0 94 [.agg (ContractT.row c),.int .i64 n] (.bool res):=
  Plan.pure (iv:=fun res=>.bool res) (zdn c n) (by kernel_rfl) (Plan.run_of hd (by kernel_rfl))
noncomputable def X1 (c:ContractT):Option Bool:=
  (Option.bind (Option.bind (kj c 6) fun r1=>(bif r1 then (bif decide ((c.acts.length:Int)≤8) then some (decide (c.days≤20)) else some false) else some false)) fun v1=>some v1)
noncomputable def zhk (c:ContractT):Plan Bool:=
  .cut (β:=Bool) 2 (.e [] (fun v1=>[(2,vB v1)]) [0] 16) (.reg 0 (.call 2370 (zdo c 6) fun r1=>.ite 2366 r1 (.ite 2368 (decide ((c.acts.length:Int)≤8)) (.us [(1,2370),(3,2366)] (.ln 2372 ActT.row c.acts (.us [(5,2372),(9,2368)] (.ret (decide (c.days≤20)))))) (.us [(1,2370),(3,2366)] (.ln 2374 ActT.row c.acts (.us [(5,2374),(9,2368)] (.ret false))))) (.us [(1,2370),(3,2366)] (.f1 2376 (.g false) (rfl:false=false) (.use 9 2376 (.ret false)))))) fun v1=>.ret v1
theorem zhl (c:ContractT) (res:Bool) (hd:X1 c=some res):APure C0 97 [.agg (ContractT.row c)] (.bool res):=
  Plan.pure (iv:=fun res=>.bool res) (zhk c) (by kernel_rfl) (Plan.run_of hd (by kernel_rfl))
noncomputable def Qu (days:Int):Option ContractT:=
  some ({parties:=2,holders:=[0,1],units:=[],acts:=[({kind:=1,role:=0,give:=0,to:=(-1),unit:=(-1),lot:=({num:=0,den:=1}:Ratio)}:ActT)],clauses:=[({kind:=1,role:=0,act:=0,need:=1,start:=[],after:=1,grace:=0,business:=false,final:=true,pause:=(-1),resume:=(-1),value:=({num:=0,den:=1}:Ratio),unit:=(-1),to:=(-1),waived:=false}:ClauseT)],days:=days,off:=[]}:ContractT)
noncomputable def zdp (days:Int):Plan ContractT:=
  .ret ({parties:=2,holders:=[0,1],units:=[],acts:=[({kind:=1,role:=0,give:=0,to:=(-1),unit:=(-1),lot:=({num:=0,den:=1}:Ratio)}:ActT)],clauses:=[({kind:=1,role:=0,act:=0,need:=1,start:=[],after:=1,grace:=0,business:=false,final:=true,pause:=(-1),resume:=(-1),value:=({num:=0,den:=1}:Ratio),unit:=(-1),to:=(-1),waived:=false}:ClauseT)],days:=days,off:=[]}:ContractT)
theorem zdq (days:Int) (res:ContractT) (hd:Qu days=some res):APure C0 290 [.int .i64 days] (.agg (ContractT.row res)):=
  Plan.pure (iv:=fun res=>.agg (ContractT.row res)) (zdp days) (by kernel_rfl) (Plan.run_of hd (by kernel_rfl))
noncomputable def xI  : Option Bool:=
  (Option.bind (Qu 2) fun r1=>(Option.bind (qK r1) fun r2=>(Option.bind (ki r1 0 ({state:=r2.1,own:=true}:PosT)) fun r3=>(Option.bind (Q1 r1 0 ({state:=r2.1,own:=false}:PosT)) fun r4=>(Option.bind (bif (r2.2 == 0) then (bif (r3.2 == 0) then (bif (r4.2 == 0) then (bif decide (0 < (r3.1.rows.length:Int)) then (Option.bind (ze r3.1.rows 0) fun e1=>(bif (e1.move == 0) then (bif decide (0 < (r4.1.rows.length:Int)) then (Option.bind (ze r4.1.rows 0) fun e2=>(bif (e2.rank == 1) then (Option.bind (xR r1 r3.1) fun r5=>(bif r5 then (Option.bind (vE r1 r4.1) fun r6=>some r6) else some false)) else some false)) else some false) else some false)) else some false) else some false) else some false) else some false) fun v1=>some v1)))))
noncomputable def zac  : Plan Bool:=
  .reg 1 (.call 3184 (zdq 2) fun r1=>.use 0 3184 (.reg 0 (.call 3186 (zaC r1) fun r2=>.use 1 3186 (.reg 0 (.call 3188 (zdc r1 0 ({state:=r2.1,own:=true}:PosT)) fun r3=>.use 3 3188 (.reg 0 (.call 3190 (zfJ r1 0 ({state:=r2.1,own:=false}:PosT)) fun r4=>.use 3 3190 (.cut (β:=Bool) 1 (.e [] (fun v1=>[(0,vB v1)]) [2,9,19,29] 81) (.reg 0 (.ite 3168 (r2.2 == 0) (.ite 3170 (r3.2 == 0) (.ite 3172 (r4.2 == 0) (.ite 3174 (decide (0 < (r3.1.rows.length:Int))) (.ix 3192 ShieldRowT.row r3.1.rows 0 fun e1=>.ite 3176 (e1.move == 0) (.ite 3178 (decide (0 < (r4.1.rows.length:Int))) (.ix 3194 DoomRowT.row r4.1.rows 0 fun e2=>.ite 3180 (e2.rank == 1) (.call 3196 (VW r1 r3.1) fun r5=>.ite 3182 r5 (.call 3198 (zab r1 r4.1) fun r6=>.us [(3,3168),(7,3170),(11,3172)] (.ln 3202 ShieldRowT.row r3.1.rows (.us [(13,3202),(17,3174),(19,3192),(25,3176)] (.ln 3200 DoomRowT.row r4.1.rows (.us [(27,3200),(31,3178),(33,3194),(39,3180),(41,3196),(44,3182),(46,3198)] (.ret r6)))))) (.us [(3,3168),(7,3170),(11,3172)] (.ln 3206 ShieldRowT.row r3.1.rows (.us [(13,3206),(17,3174),(19,3192),(25,3176)] (.ln 3204 DoomRowT.row r4.1.rows (.us [(27,3204),(31,3178),(33,3194),(39,3180),(41,3196),(44,3182)] (.ret false))))))) (.us [(3,3168),(7,3170),(11,3172)] (.ln 3212 ShieldRowT.row r3.1.rows (.us [(13,3212),(17,3174),(19,3192),(25,3176)] (.ln 3210 DoomRowT.row r4.1.rows (.us [(27,3210),(31,3178),(33,3194),(39,3180)] (.f1 3208 (.g false) (rfl:false=false) (.use 44 3208 (.ret false))))))))) (.us [(3,3168),(7,3170),(11,3172)] (.ln 3220 ShieldRowT.row r3.1.rows (.us [(13,3220),(17,3174),(19,3192),(25,3176)] (.ln 3218 DoomRowT.row r4.1.rows (.us [(27,3218),(31,3178)] (.f1 3216 (.g false) (rfl:false=false) (.use 39 3216 (.f1 3214 (.g false) (rfl:false=false) (.use 44 3214 (.ret false))))))))))) (.us [(3,3168),(7,3170),(11,3172)] (.ln 3228 ShieldRowT.row r3.1.rows (.us [(13,3228),(17,3174),(19,3192),(25,3176)] (.f1 3226 (.g false) (rfl:false=false) (.use 31 3226 (.f1 3224 (.g false) (rfl:false=false) (.use 39 3224 (.f1 3222 (.g false) (rfl:false=false) (.use 44 3222 (.ret false))))))))))) (.us [(3,3168),(7,3170),(11,3172)] (.ln 3238 ShieldRowT.row r3.1.rows (.us [(13,3238),(17,3174)] (.f1 3236 (.g false) (rfl:false=false) (.use 25 3236 (.f1 3234 (.g false) (rfl:false=false) (.use 31 3234 (.f1 3232 (.g false) (rfl:false=false) (.use 39 3232 (.f1 3230 (.g false) (rfl:false=false) (.use 44 3230 (.ret false))))))))))))) (.us [(3,3168),(7,3170),(11,3172)] (.f1 3248 (.g false) (rfl:false=false) (.use 17 3248 (.f1 3246 (.g false) (rfl:false=false) (.use 25 3246 (.f1 3244 (.g false) (rfl:false=false) (.use 31 3244 (.f1 3242 (.g false) (rfl:false=false) (.use 39 3242 (.f1 3240 (.g false) (rfl:false=false) (.use 44 3240 (.ret false))))))))))))) (.us [(3,3168),(7,3170)] (.f1 3260 (.g false) (rfl:false=false) (.use 11 3260 (.f1 3258 (.g false) (rfl:false=false) (.use 17 3258 (.f1 3256 (.g false) (rfl:false=false) (.use 25 3256 (.f1 3254 (.g false) (rfl:false=false) (.use 31 3254 (.f1 3252 (.g false) (rfl:false=false) (.use 39 3252 (.f1 3250 (.g false) (rfl:false=false) (.use 44 3250 (.ret false))))))))))))))) (.use 3 3168 (.f1 3274 (.g false) (rfl:false=false) (.use 7 3274 (.f1 3272 (.g false) (rfl:false=false) (.use 11 3272 (.f1 3270 (.g false) (rfl:false=false) (.use 17 3270 (.f1 3268 (.g false) (rfl:false=false) (.use 25 3268 (.f1 3266 (.g false) (rfl:false=false) (.use 31 3266 (.f1 3264 (.g false) (rfl:false=false) (.use 39 3264 (.f1 3262 (.g false) (rfl:false=false) (.use 44 3262 (.ret false)))))))))))))))))) fun v1=>.ret v1))))))))
theorem zad  (res:Bool) (hd:xI  = some res):APure C0 291 [] (.bool res):=
  Plan.pure (iv:=fun res=>.bool res) (zac ) (by kernel_rfl) (Plan.run_of hd (by kernel_rfl))
noncomputable def jY (c:ContractT) (party:Int):Option (ArenaT×Int):=
  (Option.bind (qK c) fun r1=>(bif (r1.2 == 0) then (Option.bind (jS c party ({state:=r1.1,own:=true}:PosT)) fun r2=>some (r2.1,r2.2)) else some (({party:=0,positions:=[],moves:=[]}:ArenaT),r1.2)))
noncomputable def zfS (c:ContractT) (party:Int):Plan (ArenaT×Int):=
  .reg 1 (.call 3284 (zaC c) fun r1=>.use 1 3284 (.ite 3282 (r1.2 == 0) (.sel 3283 (.reg 0 (.call 3286 (Kf c party ({state:=r1.1,own:=true}:PosT)) fun r2=>.use 4 3286 (.ret (r2.1,r2.2))))) (.sel 3283 (.ret (({party:=0,positions:=[],moves:=[]}:ArenaT),r1.2)))))
theorem zaG (c:ContractT) (party:Int) (res:ArenaT×Int) (hd:jY c party=some res):APure C0 73 [.agg (ContractT.row c),.int .i64 party] (.tuple [.agg (ArenaT.row res.1),.int .i64 res.2]):=
  Plan.pure (iv:=fun res=>.tuple [.agg (ArenaT.row res.1),.int .i64 res.2]) (zfS c party) (by kernel_rfl) (Plan.run_of hd (by kernel_rfl))
noncomputable def kB (c:ContractT) (party:Int):Option Bool:=
  (Option.bind (xI) fun r1=>(Option.bind (Option.bind (X1 c) fun r2=>(bif r2 then (bif decide (party < 0) then some true else some (decide (c.parties≤party))) else some true)) fun v1=>(bif v1 then some r1 else (Option.bind (jY c party) fun r3=>(bif (r3.2 == 0) then (Option.bind (forR (σ:=(List Int)) (ρ:=Unit) (c.holders.length:Int) (fun i1 s1=>(Option.bind (Option.bind (ze c.holders (i1:Int)) fun e1=>(bif (e1 == party) then some 0 else some 1)) fun (v2:Int)=>(Option.bind (zT (α:=Int) 8 s1 [v2]) fun e2=>some (.inl e2)))) []) (Sum.elim (fun (s1:(List Int))=>(Option.bind (forR (σ:=Unit) (ρ:=Unit) (c.acts.length:Int) (fun i2 s2=>(Option.bind (ze c.acts (i2:Int)) fun e3=>(bif (e3.kind == 1) then some (.inl ()) else some (.inr ())))) ()) (Sum.elim (fun (s2:Unit)=>(Option.bind (forR (σ:=Unit) (ρ:=Unit) (c.clauses.length:Int) (fun i3 s3=>(Option.bind (ze c.clauses (i3:Int)) fun e4=>(Option.bind (bif (e4.kind == 4) then some false else (Option.bind (ze c.holders e4.role) fun e5=>(Option.bind (ze c.acts e4.act) fun e6=>(Option.bind (ze c.holders e6.role) fun e7=>some (!(e5 == e7)))))) fun v3=>(bif v3 then some (.inr ()) else some (.inl ()))))) ()) (Sum.elim (fun (s3:Unit)=>(Option.bind (jY ({c with parties:=2,holders:=s1}:ContractT) 0) fun r4=>(Option.bind (xv c r3.1) fun r5=>(Option.bind (xv ({c with parties:=2,holders:=s1}:ContractT) r4.1) fun r6=>(Option.bind (bif r1 then (bif (r4.2 == 0) then (bif decide (0 < (r5.length:Int)) then (bif ((r5.length:Int) == (r6.length:Int)) then (Option.bind (ze r5 0) fun e8=>(Option.bind (ze r6 0) fun e9=>some (e8 == e9))) else some false) else some false) else some false) else some false) fun v4=>some v4))))) (fun (y2:Unit)=>some r1)))) (fun (y1:Unit)=>some r1)))) (fun _=>none))) else some r1)))))
noncomputable def zae (c:ContractT) (party:Int):Plan Bool:=
  .reg 1 (.call 3314 zad fun r1=>.use 0 3314 (.cut (β:=Bool) 2 (.e [1,2,5] (fun v1=>[(31,vB v1)]) [0] 17) (.reg 0 (.call 3316 (zhl c) fun r2=>.ite 3276 r2 (.ite 3278 (decide (party < 0)) (.us [(1,3316),(4,3277),(8,3278)] (.ret true)) (.us [(1,3316),(4,3277),(8,3278)] (.ret (decide (c.parties≤party))))) (.us [(1,3316),(4,3277)] (.f1 3318 (.g true) (rfl:true=true) (.use 8 3318 (.ret true)))))) fun v1=>.ite 3280 v1 (.sel 3280 (.ret r1)) (.sel 3280 (.reg 0 (.call 3320 (zaG c party) fun r3=>.use 2 3320 (.ite 3288 (r3.2 == 0) (.sel 3289 (.weak 6 [Zr 29 1 0 1] (.forR (σ:=(List Int)) (ρ:=Unit) 3290 9 (c.holders.length:Int) [] (.k [1,2,5,6,8] (fun _=>[]) [0,23] (fun s1=>[(29,.rows 7 [[vI 2,.gslice 36 (List.map zb s1),.imm (.slice (List.map UnitT.row c.units)),.imm (.slice (List.map ActT.row c.acts)),.imm (.slice (List.map ClauseT.row c.clauses)),vI c.days,.imm (.slice (List.map zb c.off))]]),(36,.tip 1 s1.length)]) 37 fun _=>(.exp rfl rfl (.exp rfl rfl .nil))) (fun i1 s1=>.reg 0 (.ln 3326 zb c.holders (.use 3 3326 (.sel 3290 (.cut (β:=Int) 4 (.e [1,2,5,6,8,9] (fun v2=>[(10,vI v2)]) [0,23,29,36] 50) (.reg 0 (.ix 3322 zb c.holders (i1:Int) fun e1=>.use 3 3322 (.ite 3294 (e1 == party) (.sel 3294 (.ret 0)) (.sel 3294 (.ret 1))))) fun v2=>.reg 0 (.b1 3324 (zT (α:=Int) 8 s1 [v2]) (fun e2=>.a (List.map zb e2) e2.length) (fun e2 he2=>(qE zb 1 8 (fun _=>rfl) he2)) fun e2=>.use 4 3324 (.ret (.inl e2)))))))) fun os1=>.case os1 (fun s1=>.reg 0 (.ln 3382 zb c.holders (.use 3 3382 (.sel 3290 (.forR (σ:=Unit) (ρ:=Unit) 3296 11 (c.acts.length:Int) () (.e [2,5,6,8] (fun _=>[]) [0,23,29,36] 43) (fun i2 s2=>.reg 0 (.ln 3330 ActT.row c.acts (.use 3 3330 (.sel 3296 (.reg 0 (.ix 3328 ActT.row c.acts (i2:Int) fun e3=>.use 3 3328 (.ite 3298 (e3.kind == 1) (.sel 3299 (.ret (.inl ()))) (.sel 3299 (.ret (.inr ())))))))))) fun os2=>.case os2 (fun s2=>.reg 0 (.ln 3380 ActT.row c.acts (.use 3 3380 (.sel 3296 (.forR (σ:=Unit) (ρ:=Unit) 3300 12 (c.clauses.length:Int) () (.e [2,5,6,8] (fun _=>[]) [0,23,29,36] 49) (fun i3 s3=>.reg 0 (.ln 3340 ClauseT.row c.clauses (.use 3 3340 (.sel 3300 (.reg 0 (.ix 3332 ClauseT.row c.clauses (i3:Int) fun e4=>.use 3 3332 (.cut (β:=Bool) 1 (.e [2,5,6,8,12] (fun v3=>[(114,vB v3)]) [0,23,29,36,59] 84) (.reg 0 (.ite 3302 (e4.kind == 4) (.use 4 3303 (.ret false)) (.ix 3334 zb c.holders e4.role fun e5=>.ix 3336 ActT.row c.acts e4.act fun e6=>.ix 3338 zb c.holders e6.role fun e7=>.us [(4,3303),(8,3334),(16,3336),(19,3338)] (.ret (!(e5 == e7)))))) fun v3=>.ite 3304 v3 (.sel 3304 (.ret (.inr ()))) (.sel 3304 (.ret (.inl ())))))))))) fun os3=>.case os3 (fun s3=>.reg 0 (.ln 3378 ClauseT.row c.clauses (.use 3 3378 (.sel 3300 (.reg 0 (.call 3342 (zaG ({c with parties:=2,holders:=s1}:ContractT) 0) fun r4=>.use 1 3342 (.reg 0 (.call 3344 (Q0 c r3.1) fun r5=>.use 2 3344 (.reg 0 (.call 3346 (Q0 ({c with parties:=2,holders:=s1}:ContractT) r4.1) fun r6=>.use 2 3346 (.cut (β:=Bool) 1 (.e [] (fun v4=>[(4,vB v4)]) [0,23,29,36,59] 97) (.reg 0 (.ite 3306 r1 (.ite 3308 (r4.2 == 0) (.ite 3310 (decide (0 < (r5.length:Int))) (.ite 3312 ((r5.length:Int) == (r6.length:Int)) (.ix 3348 zb r5 0 fun e8=>.ix 3350 zb r6 0 fun e9=>.us [(2,3306),(6,3308)] (.ln 3356 zb r5 (.us [(7,3356),(11,3310)] (.ln 3354 zb r5 (.use 12 3354 (.ln 3352 zb r6 (.us [(14,3352),(18,3312),(19,3348),(22,3350)] (.ret (e8 == e9))))))))) (.us [(2,3306),(6,3308)] (.ln 3362 zb r5 (.us [(7,3362),(11,3310)] (.ln 3360 zb r5 (.use 12 3360 (.ln 3358 zb r6 (.us [(14,3358),(18,3312)] (.ret false))))))))) (.us [(2,3306),(6,3308)] (.ln 3366 zb r5 (.us [(7,3366),(11,3310)] (.f1 3364 (.g false) (rfl:false=false) (.use 18 3364 (.ret false))))))) (.us [(2,3306),(6,3308)] (.f1 3370 (.g false) (rfl:false=false) (.use 11 3370 (.f1 3368 (.g false) (rfl:false=false) (.use 18 3368 (.ret false))))))) (.use 2 3306 (.f1 3376 (.g false) (rfl:false=false) (.use 6 3376 (.f1 3374 (.g false) (rfl:false=false) (.use 11 3374 (.f1 3372 (.g false) (rfl:false=false) (.use 18 3372 (.ret false)))))))))) fun v4=>.ret v4))))))))))) fun y2=>.ret r1))))) fun y1=>.ret r1))))) fun _=>.none))) (.sel 3289 (.ret r1))))))))
theorem zaf (c:ContractT) (party:Int) (res:Bool) (hd:kB c party=some res):APure C0 288 [.agg (ContractT.row c),.int .i64 party] (.bool res):=
  Plan.pure (iv:=fun res=>.bool res) (zae c party) (by kernel_rfl) (Plan.run_of hd (by kernel_rfl))
end Go.Proofs.YtmoedieenlaegaaGreatDoor
namespace Go.Proofs.YtmoedieenlaegaaGreatDoor
set_option linter.unusedSimpArgs false
set_option linter.unusedVariables false
set_option maxRecDepth 100000
theorem zdr (a b:Int):∃ r,iter (σ:=Int×Int) (ρ:=Int) (fun s2=>(bif (s2.2 == 0) then some (.inr s2.1) else (Option.bind (Zh .u64 s2.1 s2.2) fun e2=>some (.inl (s2.2,e2))))) (a,b)=some r:=by
  have:=Vy (f:=fun s2:Int×Int=>(bif (s2.2 == 0) then some (.inr s2.1) else (Option.bind (Zh .u64 s2.1 s2.2) fun e2=>some (.inl (s2.2,e2))))) (fun _=>True) (fun _:Int=>True) (fun s=>s.2.natAbs) (fun s _=>by
    by_cases h:s.2=0
    · exact ⟨.inr s.1,by simp [h],trivial⟩
    · refine ⟨.inl (s.2,s.1.tmod s.2),by simp [beq_eq_false_iff_ne.2 h,h,Zh],trivial,?_⟩
      show (s.1.tmod s.2).natAbs < s.2.natAbs
      rw [Int.natAbs_tmod]
      exact Nat.mod_lt _ (by omega)) (a,b) trivial
  obtain ⟨r,h,_⟩:=this
  exact ⟨r,h⟩
theorem VX (l:List Int) (hl:l.length < 1000):∃ r,vT l=some r:=by
  unfold vT
  obtain ⟨o,h1,h2⟩:=wu (n:=l.length) (s0:=(0:Int)) (f:=(fun i1 s1=>(Option.bind (Option.bind (ze l (i1:Int)) fun e1=>(Option.bind (iter (σ:=Int×Int) (ρ:=Int) (fun s2=>(bif (s2.2 == 0) then some (.inr s2.1) else (Option.bind (Zh .u64 s2.1 s2.2) fun e2=>some (.inl (s2.2,e2))))) (s1,e1)) (fun (y1:Int)=>some y1))) fun (v1:Int)=>some (.inl v1)))) (fun _ _=>True) (fun _:Unit=>False) (by omega) trivial (fun i s hi _=>by
    obtain ⟨r,hr⟩:=zdr s l[i]
    exact ⟨.inl r,by simp only [qk,List.getElem?_eq_getElem hi,Option.bind_some,hr],trivial⟩)
  rw [h1]
  cases o with
  | inl s=>exact ⟨s,rfl⟩
  | inr r=>exact h2.elim
theorem kl (n:Int):∃ r,xF n=some r:=by
  unfold xF;simp only [zo];exact ⟨_,rfl⟩
noncomputable def rvB (r:Ratio):Bool:=(qW r).getD false
theorem Qv (r:Ratio):qW r=some (rvB r):=by
  have:∃ b,qW r=some b:=by
    unfold qW
    obtain ⟨a,ha⟩:=kl r.num
    obtain ⟨b,hb⟩:=kl r.den
    obtain ⟨g,hg⟩:=VX [a,b] (by simp)
    simp only [ha,hb,hg,zo,Option.bind_some]
    exact ⟨_,rfl⟩
  obtain ⟨b,hb⟩:=this
  unfold rvB;rw [hb];rfl
def zhm (x:Option (Int×Bool)):Bool:=(x.getD (0,false)).2
theorem zfT {x:Option (Int×Bool)} {r:Int×Bool} (h:x=some r):x=some (r.1,zhm x):=by subst h;rfl
noncomputable def quB (l:List UnitT):Bool:=zhm (q5 l)
theorem X2 (t:List UnitT) (i:Nat) (hi:i < t.length) (ht:t.length < 1000):∃ b,xG t i=some b:=by
  unfold xG
  have hs:JG t 0 (i:Int)=some (t.take i):=by
    unfold JG;rw [if_pos ⟨by omega,by omega,by omega⟩];simp
  have hf:forR (σ:=Unit) (ρ:=Unit) ((t.take i).length:Int) (fun i1 s1=>(Option.bind (ze (t.take i) (i1:Int)) fun e3=>(bif (e3.name.toList == t[i].name.toList) then some (.inr ()) else some (.inl ())))) ()=some (match (List.range (t.take i).length).find? (fun j=>!(match (t.take i)[j]? with | some e=>!(e.name.toList == t[i].name.toList) | none=>true)) with | none=>.inl () | some j=>.inr ()):=by
    refine wv _ (fun _=>()) (by simp;omega) (fun j hj => ?_)
    simp only [qk,List.getElem?_eq_getElem hj,Option.bind_some]
    cases ((t.take i)[j].name.toList == t[i].name.toList)<;>rfl
  rw [zD (List.getElem?_eq_getElem hi)]
  simp only [Option.bind_some]
  rw [hs]
  simp only [Option.bind_some]
  rw [hf]
  simp only [Qv,zo,Option.bind_some,Qf]
  split
  all_goals simp only [Sum.elim_inl,Sum.elim_inr,zo]
  · by_cases hb:0≤t[i].base∧t[i].base < t.length
    · obtain ⟨h1,h2⟩:=qw hb.1 hb.2
      simp only [h2,Option.bind_some,zo]
      exact ⟨_,rfl⟩
    · by_cases h1:0≤t[i].base
      · have:¬ t[i].base < t.length:=fun h=>hb ⟨h1,h⟩
        simp only [h1,this,decide_true,decide_false,cond_true,cond_false,Option.bind_some,zo]
        exact ⟨_,rfl⟩
      · simp only [h1,decide_false,cond_false,Option.bind_some,zo]
        exact ⟨_,rfl⟩
  · exact ⟨_,rfl⟩
theorem X3 (l:List UnitT) (hl:l.length < 1000):∃ k,q5 l=some (k,quB l):=by
  have:∃ r,q5 l=some r:=by
    unfold q5
    obtain ⟨o,h1,h2⟩:=wu (n:=l.length) (s0:=()) (f:=(fun i1 s1=>(Option.bind (xG l (i1:Int)) fun r1=>(bif r1 then some (.inl ()) else some (.inr (i1:Int)))))) (fun _ _=>True) (fun _:Int=>True) (by omega) trivial (fun i s hi _=>by
      obtain ⟨b,hb⟩:=X2 l i hi hl
      cases b with
      | true=>exact ⟨.inl (),by simp [hb],trivial⟩
      | false=>exact ⟨.inr i,by simp [hb],trivial⟩)
    rw [h1]
    cases o with
    | inl s=>exact ⟨_,rfl⟩
    | inr r=>exact ⟨_,rfl⟩
  obtain ⟨r,hr⟩:=this
  exact ⟨r.1,zfT hr⟩
def xy (nh:Nat) (r:Int):Bool:=decide (0≤r)&&decide (r < nh)
theorem Qw (c:ContractT) (r:Int):qX c r=some (xy c.holders.length r):=by
  simp only [qX,zo,Option.bind_some,xy,Bool.cond_false_right]
noncomputable def Kj (r:Ratio):Bool:=decide (0 < r.num)&&rvB r
theorem X4 (r:Ratio):jM r=some (Kj r):=by
  simp only [jM,Qv,zo,Option.bind_some,Kj,Bool.cond_false_right]
def Q5 (r:Ratio):Bool:=r.num == 0&&(r.den == 1&&true)
noncomputable def JT (nh nu:Nat) (parties:Int) (a:ActT):Bool:=
  bif xy nh a.role then
    (bif a.kind == 1 then (a.give == 0&&(a.to == -1||xy nh a.to))&&(bif a.unit == -1 then Q5 a.lot else (decide (0≤a.unit)&&(decide (a.unit < nu)&&Kj a.lot)))
    else (a.kind == 2||a.kind == 3)&&(xy nh a.give&&(decide (0≤a.to)&&(decide (a.to < parties)&&(a.unit == -1&&Q5 a.lot)))))
  else a.kind == 1&&(a.role == -1&&(a.give == 0&&((a.to == -1||xy nh a.to)&&(a.unit == -1&&Q5 a.lot))))
theorem zbN (c:ContractT) (a:ActT):ww c a=some (JT c.holders.length c.units.length c.parties a):=by
  simp only [ww,Qw,X4,vU,Option.bind_some,zo,JT,Q5]
  cases xy c.holders.length a.role<;>cases (a.kind == 1)<;>cases (a.give == 0)<;>cases (a.to == -1)<;>cases (xy c.holders.length a.to)<;>cases (a.unit == -1) <;>
    simp only [cond_true,cond_false,Bool.not_true,Bool.not_false,Option.bind_some,Bool.true_or,Bool.false_or,Bool.true_and,Bool.false_and,zo,Bool.cond_false_right,Bool.cond_self,Bool.and_false] <;>
    first | rfl | (cases (a.role == -1)<;>rfl) | (cases (a.kind == 2)<;>rfl)
def wz (parties:Int) (hs:List Int):Bool:=hs.all fun h=>decide (0≤h)&&decide (h < parties)
theorem zhn (c:ContractT) (hp:c.parties < 4611686018427387904) (hl:c.holders.length < 4611686018427387904):XH c=some (wz c.parties c.holders):=by
  unfold XH
  have hin:∀ (i:Nat) (hi:i < c.holders.length),(Option.bind (α:=Unit ⊕ Unit) (Option.bind (forR (σ:=Unit) (ρ:=Unit) c.parties (fun i2 s2=>(Option.bind (ze c.holders (i:Int)) fun e1=>(bif (e1 == (i2:Int)) then some (.inr ()) else some (.inl ())))) ()) (Sum.elim (fun (s2:Unit)=>some (.inr ())) (fun (y1:Unit)=>some (.inl ())))) (Sum.elim (fun (v1:Unit)=>some (.inl ())) (fun (y2:Unit)=>some (.inr ())))) =
      some (bif decide (0≤c.holders[i])&&decide (c.holders[i] < c.parties) then (.inl ():Unit ⊕ Unit) else .inr ()):=fun i hi=>by
    obtain ⟨o,h1,h2⟩:=Vx (n:=c.parties) (s0:=()) (f:=(fun i2 s2=>(Option.bind (ze c.holders (i:Int)) fun e1=>(bif (e1 == (i2:Int)) then some (.inr ()) else some (.inl ()))))) (fun k _=>∀ j:Nat,j < k→c.holders[i]≠(j:Int)) (fun _:Unit=>0≤c.holders[i]∧c.holders[i] < c.parties) hp (fun j hj=>by omega) (fun k s hk hI=>by
      simp only [qk,List.getElem?_eq_getElem hi,Option.bind_some]
      by_cases he:c.holders[i]=(k:Int)
      · exact ⟨.inr (),by simp [he],by show 0≤c.holders[i]∧c.holders[i] < c.parties;omega⟩
      · refine ⟨.inl (),by rw [beq_eq_false_iff_ne.2 he];rfl,fun j hj => ?_⟩
        rcases Nat.lt_or_ge j k with h | h
        · exact hI j h
        · obtain rfl:j=k:=by omega
          exact he)
    rw [h1]
    cases o with
    | inl s=>
      have:¬ (0≤c.holders[i]∧c.holders[i] < c.parties):=fun h=>h2 c.holders[i].toNat (by omega) (by omega)
      have hb:(decide (0≤c.holders[i])&&decide (c.holders[i] < c.parties))=false:=by
        rw [Bool.eq_false_iff];simp only [ne_eq,Bool.and_eq_true,decide_eq_true_eq];exact this
      rw [hb];rfl
    | inr r=>
      have hb:(decide (0≤c.holders[i])&&decide (c.holders[i] < c.parties))=true:=by
        simp only [Bool.and_eq_true,decide_eq_true_eq];exact h2
      rw [hb];rfl
  rw [wv (fun i=>match c.holders[i]? with | some h=>decide (0≤h)&&decide (h < c.parties) | none=>true) (fun _=>()) hl (fun i hi=>by
    rw [hin i hi];simp only [List.getElem?_eq_getElem hi])]
  cases hf:(List.range c.holders.length).find? (fun j=>!(match c.holders[j]? with | some h=>decide (0≤h)&&decide (h < c.parties) | none=>true)) with
  | none=>
    simp only [Option.bind_some,Sum.elim_inl]
    have:wz c.parties c.holders=true:=List.all_eq_true.2 fun h hh=>by
      obtain ⟨i,hi,rfl⟩:=List.getElem_of_mem hh
      have:=kd hf i hi
      simpa only [List.getElem?_eq_getElem hi] using this
    rw [this]
  | some k=>
    simp only [Option.bind_some,Sum.elim_inr]
    obtain ⟨h1,h2,_⟩:=ke hf
    have:wz c.parties c.holders=false:=by
      rw [Bool.eq_false_iff]
      intro h
      have:=List.all_eq_true.1 h c.holders[k] (List.getElem_mem h1)
      simp only [List.getElem?_eq_getElem h1] at h2
      rw [h2] at this;cases this
    rw [this]
noncomputable def Qx (days:Int) (off:List Int):Bool:=((Option.bind (forR (σ:=Int) (ρ:=Unit) (off.length:Int) (fun i2 s2=>(Option.bind (ze off (i2:Int)) fun e2=>(Option.bind (bif decide (e2≤s2) then some true else some (decide (days≤e2))) fun v2=>(bif v2 then some (.inr ()) else some (.inl e2))))) (-1)) (Sum.elim (fun (s2:Int)=>some true) (fun (y2:Unit)=>some false)))).getD false
theorem zi5 (days:Int) (off:List Int) (hl:off.length < 4611686018427387904):(Option.bind (forR (σ:=Int) (ρ:=Unit) (off.length:Int) (fun i2 s2=>(Option.bind (ze off (i2:Int)) fun e2=>(Option.bind (bif decide (e2≤s2) then some true else some (decide (days≤e2))) fun v2=>(bif v2 then some (.inr ()) else some (.inl e2))))) (-1)) (Sum.elim (fun (s2:Int)=>some true) (fun (y2:Unit)=>some false)))=some (Qx days off):=by
  obtain ⟨o,h1,h2⟩:=wu (n:=off.length) (s0:=(-1:Int)) (f:=(fun i2 s2=>(Option.bind (ze off (i2:Int)) fun e2=>(Option.bind (bif decide (e2≤s2) then some true else some (decide (days≤e2))) fun v2=>(bif v2 then some (.inr ()) else some (.inl e2)))))) (fun _ _=>True) (fun _:Unit=>True) hl trivial (fun i s hi _=>by
    simp only [qk,List.getElem?_eq_getElem hi,Option.bind_some,zo]
    cases (bif decide (off[i]≤s) then true else decide (days≤off[i])) with
    | true=>exact ⟨.inr (),rfl,trivial⟩
    | false=>exact ⟨.inl _,rfl,trivial⟩)
  unfold Qx
  rw [h1]
  cases o<;>rfl
noncomputable def qL (c:ContractT):Bool:=
  !(decide (c.parties < 1))&&(!(decide (c.days < 1))&&(!((c.holders.length:Int) == 0)&&(wz c.parties c.holders&&(quB c.units&&(c.acts.all (JT c.holders.length c.units.length c.parties)&&Qx c.days c.off)))))
theorem wX {α:Type} {l:List α} {f:Nat→Unit→Option (Unit ⊕ Unit)} (p:α→Bool) (hl:l.length < 4611686018427387904) (h:∀ (i:Nat) (hi:i < l.length),f i ()=some (bif p l[i] then .inl () else .inr ())) :
    forR (l.length:Int) f ()=some (bif l.all p then .inl () else .inr ()):=by
  rw [wv (fun i=>match l[i]? with | some x=>p x | none=>true) (fun _=>()) hl (fun i hi=>by rw [h i hi];simp only [List.getElem?_eq_getElem hi])]
  cases hf:(List.range l.length).find? (fun j=>!(match l[j]? with | some x=>p x | none=>true)) with
  | none=>
    have:l.all p=true:=List.all_eq_true.2 fun x hx=>by
      obtain ⟨i,hi,rfl⟩:=List.getElem_of_mem hx
      have:=kd hf i hi
      simpa only [List.getElem?_eq_getElem hi] using this
    rw [this];rfl
  | some k=>
    obtain ⟨h1,h2,_⟩:=ke hf
    have:l.all p=false:=by
      rw [Bool.eq_false_iff]
      intro h
      have:=List.all_eq_true.1 h l[k] (List.getElem_mem h1)
      simp only [List.getElem?_eq_getElem h1] at h2
      rw [h2] at this;cases this
    rw [this];rfl
theorem zey (c:ContractT) (hp:c.parties < 4611686018427387904) (hh:c.holders.length < 4611686018427387904) (hu:c.units.length < 1000) (ha:c.acts.length < 1000) (ho:c.off.length < 4611686018427387904):Zw c=some (qL c):=by
  unfold Zw
  obtain ⟨k,hk⟩:=X3 c.units hu
  have hacts:=wX (l:=c.acts) (f:=(fun i1 s1=>(Option.bind (ze c.acts (i1:Int)) fun e1=>(Option.bind (ww c e1) fun r3=>(bif r3 then some (.inl ()) else some (.inr ())))))) (JT c.holders.length c.units.length c.parties) (by omega) (fun i hi=>by
    simp only [qk,List.getElem?_eq_getElem hi,Option.bind_some,zbN,zo])
  rw [zhn c hp hh,hk]
  simp only [Option.bind_some]
  rw [hacts]
  simp only [Option.bind_some]
  rw [zi5 c.days c.off ho]
  simp only [Option.bind_some,zo,qL]
  cases decide (c.parties < 1)<;>cases decide (c.days < 1)<;>cases ((c.holders.length:Int) == 0)<;>cases wz c.parties c.holders<;>cases quB c.units<;>cases c.acts.all (JT c.holders.length c.units.length c.parties) <;>
    simp only [cond_true,cond_false,Bool.not_true,Bool.not_false,Option.bind_some,Bool.true_and,Bool.false_and,Sum.elim_inl,Sum.elim_inr]
def yL (acts:List ActT) (a:Int):Bool:=match ze acts a with
  | some e=>e.kind == 1&&e.role == -1
  | none=>false
theorem VC (c:ContractT) (a:Int):jH c a=some (yL c.acts a):=by
  unfold jH yL
  by_cases h:0≤a∧a < c.acts.length
  · obtain ⟨h1,h2⟩:=qw h.1 h.2
    simp only [h2,h.1,h.2,decide_true,cond_true,Option.bind_some,zo,Bool.cond_false_right]
  · rw [Ka h]
    by_cases h1:0≤a
    · have:¬ a < c.acts.length:=fun h2=>h ⟨h1,h2⟩
      simp only [h1,this,decide_true,decide_false,cond_true,cond_false,Option.bind_some]
    · simp only [h1,decide_false,cond_false,Option.bind_some]
def Q6 (nh:Nat) (acts:List ActT) (k:ClauseT):Bool:=
  bif k.kind == 4 then k.role == -1&&(k.need == 1&&(k.grace == 0 && !k.final))
  else (xy nh k.role && !yL acts k.act)&&(bif k.kind == 1 then decide (1≤k.need)&&(decide (k.need≤9)&&(decide (0≤k.grace)&&decide (k.grace≤400)))
    else bif k.kind == 2 then k.need == 1&&k.grace == 0 else k.kind == 3&&(k.need == 1&&(k.grace == 0 && !k.final)))
theorem zag (c:ContractT) (k:ClauseT):vC c k=some (Q6 c.holders.length c.acts k):=by
  simp only [vC,Qw,VC,Option.bind_some,zo,Q6]
  cases (k.kind == 4)<;>cases xy c.holders.length k.role<;>cases yL c.acts k.act<;>cases (k.kind == 1)<;>cases (k.kind == 2)<;>cases (k.kind == 3) <;>
    simp only [cond_true,cond_false,Bool.not_true,Bool.not_false,Option.bind_some,Bool.true_and,Bool.false_and,Bool.and_false,Bool.cond_false_right,zo]
def X5 (n:Nat) (i:Int) (s:CondT):Bool := !(decide (s.clause < 0))&&(!(decide ((n:Int)≤s.clause))&&(!(s.clause == i)&&(!(decide (s.is < 1)) && !(decide (4 < s.is)))))
noncomputable def zds (nh:Nat) (units:List UnitT) (k:ClauseT):Bool:=
  (k.kind == 1||k.kind == 2)&&((match ze units k.unit with | some u=>u.kind == 2 | none=>false)&&(Kj k.value&&xy nh k.to))
def Qy (acts:List ActT) (k:ClauseT):Bool:=(k.pause == -1&&k.resume == -1)||(!(k.pause == k.resume)&&(yL acts k.pause&&yL acts k.resume))
noncomputable def we (nh:Nat) (units:List UnitT) (acts:List ActT) (n:Nat) (i:Int) (k:ClauseT):Bool:=
  (!(decide (k.act < 0))&&(!(decide ((acts.length:Int)≤k.act))&&(!(decide (k.after < 1)) && !(decide (400 < k.after))))) &&
  ((Q6 nh acts k && !(decide (8 < (k.start.length:Int)))) &&
  (k.start.all (X5 n i) &&
  (Qy acts k &&
  (bif k.unit == -1 then Q5 k.value&&k.to == -1 else zds nh units k))))
theorem VY (c:ContractT) (i:Nat) (k:ClauseT) (hk:c.clauses[i]?=some k) (hs:k.start.length < 4611686018427387904):xO c i=some (we c.holders.length c.units c.acts c.clauses.length i k):=by
  unfold xO
  have hst:=wX (l:=k.start) (f:=(fun i1 s1=>(Option.bind (ze k.start (i1:Int)) fun e2=>(Option.bind (bif decide (e2.clause < 0) then some true else (bif decide ((c.clauses.length:Int)≤e2.clause) then some true else (bif (e2.clause == (i:Int)) then some true else (bif decide (e2.is < 1) then some true else some (decide (4 < e2.is)))))) fun v3=>(bif v3 then some (.inr ()) else some (.inl ())))))) (X5 c.clauses.length i) hs (fun j hj=>by
    simp only [qk,List.getElem?_eq_getElem hj,Option.bind_some,zo,X5]
    cases decide (k.start[j].clause < 0)<;>cases decide ((c.clauses.length:Int)≤k.start[j].clause)<;>cases (k.start[j].clause == (i:Int))<;>cases decide (k.start[j].is < 1)<;>cases decide (4 < k.start[j].is)<;>rfl)
  have hu:(bif decide (0≤k.unit) then (bif decide (k.unit < (c.units.length:Int)) then (Option.bind (ze c.units k.unit) fun e3=>(bif (e3.kind == 2) then (Option.bind (jM k.value) fun r5=>(bif r5 then (Option.bind (qX c k.to) fun r6=>some r6) else some false)) else some false)) else some false) else some false) =
      some ((match ze c.units k.unit with | some u=>u.kind == 2 | none=>false)&&(Kj k.value&&xy c.holders.length k.to)):=by
    by_cases h:0≤k.unit∧k.unit < c.units.length
    · obtain ⟨h1,h2⟩:=qw h.1 h.2
      simp only [h2,h.1,h.2,decide_true,cond_true,Option.bind_some,zo,Bool.cond_false_right,X4,Qw]
    · rw [Ka h]
      by_cases h1:0≤k.unit
      · have:¬ k.unit < c.units.length:=fun h2=>h ⟨h1,h2⟩
        simp only [h1,this,decide_true,decide_false,cond_true,cond_false,Bool.false_and]
      · simp only [h1,decide_false,cond_false,Bool.false_and]
  have hp:(Option.bind (bif (k.pause == (-1)) then some (!(k.resume == (-1))) else some true) fun v4=>(bif v4 then (Option.bind (bif (k.pause == k.resume) then some true else (Option.bind (jH c k.pause) fun r2=>(bif r2 then (Option.bind (jH c k.resume) fun r3=>some (!r3)) else some true))) fun v5=>(bif v5 then some (.inr ()) else some (.inl ()))) else some (.inl ()))) =
      some (bif Qy c.acts k then (.inl ():Unit ⊕ Unit) else .inr ()):=by
    simp only [VC,Qy,zo,Option.bind_some]
    cases (k.pause == -1)<;>cases (k.resume == -1)<;>cases (k.pause == k.resume)<;>cases yL c.acts k.pause<;>cases yL c.acts k.resume<;>rfl
  rw [zD hk]
  simp only [Option.bind_some]
  rw [hst]
  simp only [Option.bind_some]
  rw [hp,hu]
  simp only [Option.bind_some,zag,vU,zo,we,zds,Q5]
  cases decide (k.act < 0)<;>simp only [cond_true,cond_false,Bool.not_true,Bool.not_false,Bool.true_and,Bool.false_and,Option.bind_some]
  cases decide ((c.acts.length:Int)≤k.act)<;>simp only [cond_true,cond_false,Bool.not_true,Bool.not_false,Bool.true_and,Bool.false_and,Option.bind_some]
  cases decide (k.after < 1)<;>simp only [cond_true,cond_false,Bool.not_true,Bool.not_false,Bool.true_and,Bool.false_and,Option.bind_some]
  cases decide (400 < k.after)<;>simp only [cond_true,cond_false,Bool.not_true,Bool.not_false,Bool.true_and,Bool.false_and,Option.bind_some]
  cases Q6 c.holders.length c.acts k<;>simp only [cond_true,cond_false,Bool.not_true,Bool.not_false,Bool.true_and,Bool.false_and,Option.bind_some]
  cases decide (8 < (k.start.length:Int))<;>simp only [cond_true,cond_false,Bool.not_true,Bool.not_false,Bool.true_and,Bool.false_and,Option.bind_some]
  cases k.start.all (X5 c.clauses.length i)<;>simp only [cond_true,cond_false,Bool.not_true,Bool.not_false,Bool.true_and,Bool.false_and,Option.bind_some,Sum.elim_inl,Sum.elim_inr]
  cases Qy c.acts k<;>simp only [cond_true,cond_false,Bool.true_and,Bool.false_and,Sum.elim_inl,Sum.elim_inr]
  cases (k.kind == 1)<;>cases (k.kind == 2)<;>simp only [cond_true,cond_false,Bool.cond_false_right,Bool.true_or,Bool.or_true,Bool.or_self,Bool.true_and,Bool.false_and]
def wY (c:ContractT):Bool:=decide (12 < c.parties)||(decide (2000 < c.days)||(decide (12 < (c.holders.length:Int))||(decide (20 < (c.units.length:Int))||(decide (60 < (c.acts.length:Int))||decide (400 < (c.clauses.length:Int))))))
noncomputable def clB (c:ContractT) (i:Nat):Bool:=match c.clauses[i]? with
  | some k=>we c.holders.length c.units c.acts c.clauses.length i k
  | none=>true
noncomputable def zN (c:ContractT):Int×Int:=
  bif wY c then (3,-1) else bif qL c then (match (List.range c.clauses.length).find? (fun j=>!clB c j) with | none=>(0,-1) | some j=>(1,(j:Int))) else (1,-1)
theorem zfU (c:ContractT) (ho:c.off.length < 4611686018427387904) (hs:∀ k∈c.clauses,k.start.length < 4611686018427387904):wT c=some (zN c):=by
  unfold wT zN
  simp only [zo,Bool.cond_true_left,Option.bind_some]
  show (bif wY c then _ else _)=_
  cases hlim:wY c with
  | true=>rfl
  | false=>
    simp only [wY,Bool.or_eq_false_iff,decide_eq_false_iff_not] at hlim
    obtain ⟨h1,h2,h3,h4,h5,h6⟩:=hlim
    simp only [cond_false,zey c (by omega) (by omega) (by omega) (by omega) ho,Option.bind_some]
    cases qL c with
    | false=>rfl
    | true=>
      simp only [cond_true]
      rw [wv (fun i=>clB c i) (fun i=>(i:Int)) (by omega) (fun i hi=>by
        rw [VY c i c.clauses[i] (List.getElem?_eq_getElem hi) (hs _ (List.getElem_mem hi))]
        simp only [Option.bind_some,clB,List.getElem?_eq_getElem hi,zo])]
      cases (List.range c.clauses.length).find? (fun j=>!clB c j)<;>rfl
end Go.Proofs.YtmoedieenlaegaaGreatDoor
namespace Go.Proofs.YtmoedieenlaegaaGreatDoor
open Go.RowKit
set_option linter.unusedSimpArgs false
set_option linter.unusedVariables false
set_option maxRecDepth 100000
theorem LOk.lt {α:Type} {n:Nat} {p:α→Prop} {l:List α} (h:LOk n p l) (hn:0 < n):l.length < 4611686018427387904:=by
  have h1:=h.1
  have h2:reachBytes≤140737488355328:=by decide +kernel
  have:=Nat.le_mul_of_pos_right l.length hn
  omega
theorem ContractT.Ok.valid {c:ContractT} (hc:c.Ok):wT c=some (zN c):=
  zfU c (hc.off.lt (by omega)) (fun k hk=>(hc.clauses.2 k hk).start.lt (by omega))
inductive ValidIs (c:ContractT):Int×Int→Prop where
  | lim (h:wY c=true):ValidIs c (3,-1)
  | frame (h:wY c=false) (hf:qL c=false):ValidIs c (1,-1)
  | bad (h:wY c=false) (hf:qL c=true) (i:Nat) (hi:i < c.clauses.length) (hb:clB c i=false) (hl:∀ j,j < i→clB c j=true):ValidIs c (1,(i:Int))
  | ok (h:wY c=false) (hf:qL c=true) (ha:∀ j,j < c.clauses.length→clB c j=true):ValidIs c (0,-1)
theorem zez (c:ContractT):ValidIs c (zN c):=by
  unfold zN
  cases h:wY c with
  | true=>exact .lim h
  | false=>
    simp only [cond_false]
    cases hf:qL c with
    | false=>exact .frame h hf
    | true=>
      simp only [cond_true]
      cases hq:(List.range c.clauses.length).find? (fun j=>!clB c j) with
      | none=>exact .ok h hf (kd hq)
      | some j=>obtain ⟨h1,h2,h3⟩:=ke hq;exact .bad h hf j h1 h2 h3
theorem xm {c:ContractT} (h:(zN c).1=0):wY c=false∧qL c=true∧(∀ j,j < c.clauses.length→clB c j=true)∧zN c=(0,-1):=by
  have hv:=zez c
  generalize hr:zN c=r at h hv ⊢
  cases hv with
  | lim _=>simp at h
  | frame _ _=>simp at h
  | bad _ _ i _ _ _=>simp at h
  | ok a b d=>exact ⟨a,b,d,rfl⟩
theorem zdt {c:ContractT} (h:wY c=false) (hf:qL c=true) (ha:∀ j,j < c.clauses.length→clB c j=true):zN c=(0,-1):=by
  unfold zN;rw [h,hf,Y9 ha];rfl
theorem zho (x y:Int):kR x y=some (decide (x < y)):=by
  simp [kR,Zx]
theorem zhp {a b:Int} (h0:0≤a) (h1:a≤b) (h2:b < 4611686018427387904):Z8 .u64 .u64 (IntKind.u64.wrap (IntKind.i64.wrap (a+b))) 1=some ((a+b) / 2):=by
  rw [qC (by omega) (by omega),zdW (by omega) (by omega)]
  unfold Z8
  rw [if_neg (by omega)]
  have:(2:Int) ^ (min (1:Int).toNat IntKind.u64.bits)=2:=by decide
  rw [this,Int.fdiv_eq_ediv_of_nonneg _ (by omega)]
def jE (l:List Int) (v:Int):Option Int:=if v∈l then some (l.idxOf v:Int) else none
theorem zeA {l:List Int} (hn:l.Nodup) {i:Nat} (hi:i < l.length):l.idxOf l[i]=i:=by
  have h1:l.idxOf l[i] < l.length:=List.idxOf_lt_length_iff.2 (List.getElem_mem hi)
  have h2:=List.getElem_idxOf h1
  exact (List.getElem?_inj h1 hn).1 (by rw [List.getElem?_eq_getElem h1,List.getElem?_eq_getElem hi,h2])
theorem zfV {l:List Int} (hn:l.Nodup) {i:Nat} {v:Int} (h:l[i]?=some v):jE l v=some (i:Int):=by
  obtain ⟨hi,rfl⟩:=List.getElem?_eq_some_iff.1 h
  unfold jE
  rw [if_pos (List.getElem_mem hi),zeA hn hi]
theorem WL (l:List Int) (v:Int) (hs:l.Pairwise (· < ·)) (hl:l.length < 4611686018427387904):∃ r:Int,jg l v=some (r,(jE l v).isSome)∧∀ p,jE l v=some p→r=p:=by
  have hp:=List.pairwise_iff_getElem.1 hs
  unfold jg
  have hit:Ret (iter (σ:=Int×Int) (ρ:=Int) (fun s1=>(bif decide (s1.1 < s1.2) then (Option.bind (Z8 .u64 .u64 (IntKind.u64.wrap (IntKind.i64.wrap (s1.1+s1.2))) 1) fun e1=>(Option.bind (ze l (IntKind.i64.wrap e1)) fun e2=>(Option.bind (kR e2 v) fun r1=>(bif r1 then some (.inl ((IntKind.i64.wrap ((IntKind.i64.wrap e1)+1)),s1.2)) else some (.inl (s1.1,(IntKind.i64.wrap e1))))))) else some (.inr s1.1))) (0,(l.length:Int)))
      (fun r=>0≤r∧r≤l.length∧(∀ (j:Nat) (hj:j < l.length),(j:Int) < r→l[j] < v)∧(∀ (j:Nat) (hj:j < l.length),r≤(j:Int)→v≤l[j])):=by
    refine Ret.iter (fun s=>0≤s.1∧s.1≤s.2∧s.2≤l.length∧(∀ (j:Nat) (hj:j < l.length),(j:Int) < s.1→l[j] < v)∧(∀ (j:Nat) (hj:j < l.length),s.2≤(j:Int)→v≤l[j])) (fun s=>(s.2 - s.1).toNat) ⟨by simp,by simp,by simp,fun j hj h=>by simp only at h;omega,fun j hj h=>by simp only at h;omega⟩ ?_
    rintro ⟨lo,hi⟩ ⟨h1,h2,h3,h4,h5⟩
    simp only at h1 h2 h3 h4 h5 ⊢
    refine Ret.ite (fun hb => ?_) (fun hb => ?_)
    · have hlt:=of_decide_eq_true hb
      rw [zhp h1 h2 (by omega)]
      simp only [Option.bind_some]
      have hm1:lo≤(lo+hi) / 2:=by omega
      have hm2:(lo+hi) / 2 < hi:=by omega
      generalize (lo+hi) / 2=m at hm1 hm2 ⊢
      rw [qC (by omega) (by omega)]
      obtain ⟨hi',e⟩:=qw (l:=l) (n:=m) (by omega) (by omega)
      rw [e,qC (by omega) (by omega)]
      simp only [Option.bind_some,zho]
      refine Ret.ite (fun hb2 => ?_) (fun hb2 => ?_)
      · have hv:=of_decide_eq_true hb2
        refine Ret.some ⟨⟨by show 0≤m+1;omega,by show m+1≤hi;omega,h3,fun j hj hjm => ?_,h5⟩,by show (hi - (m+1)).toNat < (hi - lo).toNat;omega⟩
        have hjm:(j:Int) < m+1:=hjm
        rcases Nat.lt_or_ge j m.toNat with h | h
        · have:=hp j m.toNat hj hi' h;omega
        · obtain rfl:j=m.toNat:=by omega
          exact hv
      · have hv:¬ l[m.toNat] < v:=of_decide_eq_false hb2
        refine Ret.some ⟨⟨h1,by show lo≤m;omega,by show m≤(l.length:Int);omega,h4,fun j hj hjm => ?_⟩,by show (m - lo).toNat < (hi - lo).toNat;omega⟩
        have hjm:m≤(j:Int):=hjm
        rcases Nat.lt_or_ge m.toNat j with h | h
        · have:=hp m.toNat j hi' hj h;omega
        · obtain rfl:j=m.toNat:=by omega
          omega
    · have hlt:¬ lo < hi:=of_decide_eq_false hb
      have:lo=hi:=by omega
      subst this
      exact Ret.some ⟨h1,h3,h4,h5⟩
  obtain ⟨r,hr,hr0,hr1,hr2,hr3⟩:=hit
  rw [hr]
  simp only [Option.bind_some]
  by_cases hlt:r < (l.length:Int)
  · obtain ⟨hi',e⟩:=qw (l:=l) (n:=r) hr0 hlt
    simp only [hlt,decide_true,cond_true,e,Option.bind_some]
    by_cases hv:l[r.toNat]=v
    · have hpos:jE l v=some (r.toNat:Int):=zfV (zcT hs) (by rw [List.getElem?_eq_getElem hi',hv])
      refine ⟨r,by simp [hv,hpos],fun p hp => ?_⟩
      rw [hpos] at hp;cases hp;omega
    · have hn:jE l v=none:=by
        unfold jE
        rw [if_neg]
        intro hm
        obtain ⟨j,hj,e2⟩:=List.getElem_of_mem hm
        rcases Nat.lt_trichotomy j r.toNat with h | h | h
        · have:=hr2 j hj (by omega);omega
        · subst h;exact hv e2
        · have h6:=hp r.toNat j hi' hj h
          have h7:=hr3 r.toNat hi' (by omega)
          omega
      refine ⟨r,?_,fun p hp=>by rw [hn] at hp;cases hp⟩
      rw [hn]
      have:(l[r.toNat] == v)=false:=beq_eq_false_iff_ne.2 hv
      simp [this,yn]
  · have hn:jE l v=none:=by
      unfold jE
      rw [if_neg]
      intro hm
      obtain ⟨j,hj,e2⟩:=List.getElem_of_mem hm
      have:=hr2 j hj (by omega);omega
    refine ⟨r,?_,fun p hp=>by rw [hn] at hp;cases hp⟩
    rw [hn]
    simp [hlt]
theorem zfW {days:Int} {off:List Int} (hl:off.length < 4611686018427387904) (h:Qx days off=true):(off.length:Int)≤days∨off.length=0:=by
  have e:Qx days off=yE days (-1) off:=by
    unfold Qx
    rw [zfg days off hl (-1)]
    cases yE days (-1) off<;>rfl
  rw [e] at h
  rcases Kb h with h1 | h1<;>omega
structure Small (c:ContractT):Prop where
  parties:1≤c.parties∧c.parties≤12
  days:1≤c.days∧c.days≤2000
  holders:c.holders.length≤12
  units:c.units.length≤20
  acts:c.acts.length≤60
  clauses:c.clauses.length≤400
  off:c.off.length≤2000
  start:∀ k∈c.clauses,k.start.length≤8
  cond:∀ (i:Nat) (k:ClauseT),c.clauses[i]?=some k→∀ s∈k.start,0≤s.clause∧s.clause < c.clauses.length∧s.clause≠(i:Int)
theorem qM {c:ContractT} (ho:c.off.length < 4611686018427387904) (h:(zN c).1=0):Small c:=by
  obtain ⟨h1,h2,h3,_⟩:=xm h
  simp only [wY,Bool.or_eq_false_iff,decide_eq_false_iff_not] at h1
  obtain ⟨a1,a2,a3,a4,a5,a6⟩:=h1
  simp only [qL,Bool.and_eq_true,Bool.not_eq_true',decide_eq_false_iff_not] at h2
  obtain ⟨b1,b2,b3,b4,b5,b6,b7⟩:=h2
  have hcl:∀ (i:Nat) (k:ClauseT),c.clauses[i]?=some k→we c.holders.length c.units c.acts c.clauses.length i k=true:=fun i k hk=>by
    have:=h3 i (List.getElem?_eq_some_iff.1 hk).1
    simp only [clB,hk] at this
    exact this
  refine ⟨⟨by omega,by omega⟩,⟨by omega,by omega⟩,by omega,by omega,by omega,by omega,?_,fun k hk => ?_,fun i k hk s hs => ?_⟩
  · rcases zfW ho b7 with h | h<;>omega
  · obtain ⟨i,hi,e⟩:=List.getElem_of_mem hk
    have:=hcl i k (by rw [←e];exact List.getElem?_eq_getElem hi)
    simp only [we,Bool.and_eq_true,Bool.not_eq_true',decide_eq_false_iff_not] at this
    omega
  · have:=hcl i k hk
    simp only [we,Bool.and_eq_true] at this
    have:=List.all_eq_true.1 this.2.2.1 s hs
    simp only [X5,Bool.and_eq_true,Bool.not_eq_true',decide_eq_false_iff_not,beq_eq_false_iff_ne] at this
    exact ⟨by omega,by omega,this.2.2.1⟩
theorem km {α:Type} {by_:Nat} {l:List α} (h:l.length*by_≤140737488355328):q9 by_ l=some l:=by unfold q9;rw [if_pos h]
theorem kn {f:Nat→Unit→Option (Unit ⊕ Unit)} {n:Nat} (p:Nat→Bool) (hn:n < 4611686018427387904) (h:∀ j,j < n→f j ()=some (bif p j then .inl () else .inr ())) :
    forR (n:Int) f ()=some (bif (List.range n).all p then .inl () else .inr ()):=by
  rw [wv p (fun _=>()) hn h]
  cases hf:(List.range n).find? (fun j=>!p j) with
  | none=>
    have:(List.range n).all p=true:=List.all_eq_true.2 fun j hj=>kd hf j (List.mem_range.1 hj)
    rw [this];rfl
  | some k=>
    obtain ⟨h1,h2,_⟩:=ke hf
    have:(List.range n).all p=false:=by
      rw [Bool.eq_false_iff]
      intro h
      have:=List.all_eq_true.1 h k (List.mem_range.2 h1)
      rw [h2] at this;cases this
    rw [this];rfl
theorem xJ {α ρ:Type} {f:Nat→List α→Option (List α ⊕ ρ)} (s0:List α) (F:Nat→α→α) (hl:s0.length < 4611686018427387904)
    (h:∀ (i:Nat) (m:α) (s:List α),s0[i]?=some m→s.length=s0.length→s[i]?=some m→f i s=some (.inl (s.set i (F i m)))) :
    forR (s0.length:Int) f s0=some (.inl (s0.mapIdx F)):=by
  obtain ⟨o,h1,h2⟩:=wu (n:=s0.length) (s0:=s0) (f:=f) (fun i s=>s.length=s0.length∧∀ j,s[j]?=if j < i then (s0[j]?).map (F j) else s0[j]?) (fun _=>False) hl ⟨rfl,fun j=>by simp⟩ (fun i s hi ⟨a,b⟩=>by
    have hs:s[i]?=some s0[i]:=by rw [b i,if_neg (by omega),List.getElem?_eq_getElem hi]
    refine ⟨_,h i s0[i] s (List.getElem?_eq_getElem hi) a hs,by simpa using a,fun j => ?_⟩
    rw [List.getElem?_set]
    by_cases hij:i=j
    · subst hij
      rw [if_pos rfl,if_pos (by omega),if_pos (by omega),List.getElem?_eq_getElem hi];rfl
    · rw [if_neg hij,b j]
      by_cases h3:j < i
      · rw [if_pos h3,if_pos (by omega)]
      · rw [if_neg h3,if_neg (by omega)])
  rw [h1]
  cases o with
  | inr r=>exact h2.elim
  | inl s=>
    obtain ⟨a,b⟩:=h2
    congr 2
    refine List.ext_getElem? fun j => ?_
    rw [b j,List.getElem?_mapIdx]
    by_cases hj:j < s0.length
    · rw [if_pos hj]
    · rw [if_neg hj,List.getElem?_eq_none (by omega)];rfl
def jl (marks:List MarkT) (s:CondT):Bool:=match ze marks s.clause with
  | some m=>bif s.is == 1 then !(m.status == 0) else bif s.is == 2 then m.status == 3 else bif s.is == 3 then m.status == 4 else bif s.is == 4 then m.status == 5 else false
  | none=>false
def qY (ks:List ClauseT) (marks:List MarkT) (i:Nat):Bool:=match ks[i]?,marks[i]? with
  | some k,some m=>(m.status == 0 && !k.waived)&&k.start.all (jl marks)
  | _,_=>false
def wZ (parties:Int) (k:ClauseT) (m:MarkT):Bool:=
  !(k.waived||(decide (m.left < 1)||(m.paused&&k.pause == -1)))&&(((m.got == 0)||(k.kind == 1 && !(decide (m.got < 0)||decide (k.need≤m.got)))) &&
    (bif k.kind == 4 then m.bearer == -1 else decide (0≤m.bearer)&&decide (m.bearer < parties)))
def X6 (m:MarkT):Bool:=(m.status == 0)&&((m.left == 0)&&((m.got == 0)&&((m.bearer == (-1))&&((m.paused == false)&&true))))
def Kk (parties:Int) (m:MarkT):Bool:=(m.left == 0)&&(decide (0≤m.got)&&(decide (m.got≤9)&&(decide ((-1)≤m.bearer)&&(decide (m.bearer < parties) && !m.paused))))
def qN (parties:Int) (k:ClauseT) (m:MarkT):Bool:=
  bif m.status == 0 then !k.waived&&X6 m else bif m.status == 1 then decide (m.left≤k.after)&&wZ parties k m
  else bif m.status == 2 then k.kind == 1&&(decide (m.left≤k.grace)&&wZ parties k m) else (m.status == 3||(m.status == 4||m.status == 5))&&Kk parties m
theorem zbO (c:ContractT) (k:ClauseT) (m:MarkT):wx c k m=some (wZ c.parties k m):=by
  simp only [wx,wZ,zo,Option.bind_some]
  cases k.waived<;>cases decide (m.left < 1)<;>cases m.paused<;>cases (k.pause == -1)<;>cases (m.got == 0)<;>cases (k.kind == 1)<;>cases decide (m.got < 0)<;>cases decide (k.need≤m.got)<;>cases (k.kind == 4)<;>cases decide (0≤m.bearer)<;>rfl
theorem zah (c:ContractT) (i:Nat) (k:ClauseT) (m:MarkT) (hk:c.clauses[i]?=some k):vD c i m=some (qN c.parties k m):=by
  unfold vD
  rw [zD hk]
  simp only [Option.bind_some,zbO,zo,qN,X6,Kk]
  cases (m.status == 0)
  · cases (m.status == 1)
    · cases (m.status == 2)
      · cases (m.status == 3)<;>cases (m.status == 4)<;>cases (m.status == 5)<;>cases (m.left == 0)<;>cases decide (0≤m.got)<;>cases decide (m.got≤9)<;>cases decide ((-1)≤m.bearer)<;>cases decide (m.bearer < c.parties)<;>rfl
      · cases (k.kind == 1)<;>cases decide (m.left≤k.grace)<;>rfl
    · cases decide (m.left≤k.after)<;>rfl
  · cases k.waived<;>rfl
theorem zaH (c:ContractT) (s:StateT) (i:Nat) (k:ClauseT) (m:MarkT) (hk:c.clauses[i]?=some k) (hm:s.marks[i]?=some m) (hst:k.start.length < 4611686018427387904)
    (hc:∀ x∈k.start,0≤x.clause∧x.clause < s.marks.length):wU c s i=some (qY c.clauses s.marks i):=by
  unfold wU qY
  rw [zD hm,zD hk,hk,hm]
  simp only [Option.bind_some]
  rw [wX (l:=k.start) (jl s.marks) hst (fun j hj=>by
    obtain ⟨h0,h1⟩:=hc _ (List.getElem_mem hj)
    obtain ⟨h2,h3⟩:=qw h0 h1
    simp only [qk,List.getElem?_eq_getElem hj,Option.bind_some,h3,jl,zo])]
  simp only [Option.bind_some,zo]
  cases (m.status == 0)<;>cases k.waived<;>cases k.start.all (jl s.marks)<;>rfl
def Q7 (acts:List ActT) (used:List Bool) (i:Nat):Bool:=match acts[i]?,used[i]? with
  | some a,some u=>!(u&&a.kind == 1)
  | _,_=>false
def yM (c:ContractT) (marks:List MarkT) (i:Nat):Bool:=match c.clauses[i]?,marks[i]? with
  | some k,some m=>qN c.parties k m && !qY c.clauses marks i
  | _,_=>false
noncomputable def vsB (c:ContractT) (s:StateT):Bool:=
  ((zN c).1 == 0)&&((!(decide (s.day < 0))&&(!(decide (c.days < s.day))&&((s.holders.length:Int) == c.holders.length&&((s.used.length:Int) == c.acts.length&&(s.marks.length:Int) == c.clauses.length)))) &&
    (wz c.parties s.holders&&((List.range s.used.length).all (Q7 c.acts s.used)&&(List.range s.marks.length).all (yM c s.marks))))
theorem JU (c:ContractT) (s:StateT) (hc:c.Ok):q7 c s=some (vsB c s):=by
  unfold q7 vsB
  rw [hc.valid]
  simp only [Option.bind_some]
  cases hv:((zN c).1 == 0) with
  | false=>rfl
  | true=>
    have sm:=qM (hc.off.lt (by omega)) (beq_iff_eq.1 hv)
    simp only [cond_true,zo,Option.bind_some,Bool.true_and]
    cases h1:decide (s.day < 0)<;>cases h2:decide (c.days < s.day)<;>cases h3:((s.holders.length:Int) == c.holders.length)<;>cases h4:((s.used.length:Int) == c.acts.length)<;>cases h5:((s.marks.length:Int) == c.clauses.length)<;>try rfl
    simp only [cond_true,cond_false,Bool.not_true,Bool.not_false,Bool.true_and]
    have e3:=beq_iff_eq.1 h3
    have e4:=beq_iff_eq.1 h4
    have e5:=beq_iff_eq.1 h5
    have:=sm.holders
    have:=sm.acts
    have:=sm.clauses
    rw [wX (l:=s.holders) (fun h=>decide (0≤h)&&decide (h < c.parties)) (by omega) (fun j hj=>by
      simp only [qk,List.getElem?_eq_getElem hj,Option.bind_some,zo]
      generalize s.holders[j]=h
      by_cases a:h < 0
      · have b:¬ 0≤h:=by omega
        simp [a,b]
      · have b:0≤h:=by omega
        by_cases d:h < c.parties
        · have d':¬ c.parties≤h:=by omega
          simp [a,b,d,d']
        · have d':c.parties≤h:=by omega
          simp [a,b,d,d'])]
    rw [kn (n:=s.used.length) (Q7 c.acts s.used) (by omega) (fun j hj=>by
      have hj':j < c.acts.length:=by omega
      simp only [qk,List.getElem?_eq_getElem hj,List.getElem?_eq_getElem hj',Option.bind_some,zo,Q7]
      cases s.used[j]<;>cases (c.acts[j].kind == 1)<;>rfl)]
    rw [kn (n:=s.marks.length) (yM c s.marks) (by omega) (fun j hj=>by
      have hj':j < c.clauses.length:=by omega
      have hk:=List.getElem?_eq_getElem hj'
      have hm:=List.getElem?_eq_getElem hj
      simp only [qk,hm,Option.bind_some]
      rw [zah c j _ _ hk,zaH c s j _ _ hk hm (by have:=sm.start _ (List.getElem_mem hj');omega) (fun x hx=>by have:=sm.cond j _ hk x hx;omega)]
      simp only [Option.bind_some,yM,hk,hm]
      cases qN c.parties c.clauses[j] s.marks[j]<;>cases qY c.clauses s.marks j<;>rfl)]
    simp only [wz,Option.bind_some]
    cases s.holders.all (fun h=>decide (0≤h)&&decide (h < c.parties))<;>cases (List.range s.used.length).all (Q7 c.acts s.used)<;>cases (List.range s.marks.length).all (yM c s.marks)<;>rfl
structure VS (c:ContractT) (s:StateT):Prop where
  cv:(zN c).1=0
  day:0≤s.day∧s.day≤c.days
  lh:s.holders.length=c.holders.length
  lu:s.used.length=c.acts.length
  lm:s.marks.length=c.clauses.length
  hold:∀ h∈s.holders,0≤h∧h < c.parties
  used:∀ (i:Nat) (a:ActT),c.acts[i]?=some a→s.used[i]?=some true→a.kind≠1
  mrk:∀ (i:Nat) (k:ClauseT) (m:MarkT),c.clauses[i]?=some k→s.marks[i]?=some m→qN c.parties k m=true
  rdy:∀ i,i < c.clauses.length→qY c.clauses s.marks i=false
theorem zi6 {c:ContractT} {s:StateT} (h:vsB c s=true):VS c s:=by
  simp only [vsB,Bool.and_eq_true,Bool.not_eq_true',decide_eq_false_iff_not,beq_iff_eq,List.all_eq_true,List.mem_range,wz,decide_eq_true_eq] at h
  obtain ⟨h1,⟨h2,h3,h4,h5,h6⟩,h7,h8,h9⟩:=h
  refine ⟨h1,⟨by omega,by omega⟩,by omega,by omega,by omega,fun x hx=>h7 x hx,fun i a ha hu hk => ?_,fun i k m hk hm => ?_,fun i hi => ?_⟩
  · have:=h8 i (by have:=(List.getElem?_eq_some_iff.1 hu).1;exact this)
    simp only [Q7,ha,hu,hk] at this
    cases this
  · have:=h9 i (List.getElem?_eq_some_iff.1 hm).1
    simp only [yM,hk,hm,Bool.and_eq_true] at this
    exact this.1
  · have hi':i < s.marks.length:=by omega
    have:=h9 i hi'
    simp only [yM,List.getElem?_eq_getElem hi,List.getElem?_eq_getElem hi',Bool.and_eq_true,Bool.not_eq_true'] at this
    exact this.2
theorem Kl {c:ContractT} {s:StateT} (h:VS c s):vsB c s=true:=by
  have hd:=h.day
  have h4:=h.lh
  have h5:=h.lu
  have h6:=h.lm
  simp only [vsB,Bool.and_eq_true,Bool.not_eq_true',decide_eq_false_iff_not,beq_iff_eq,List.all_eq_true,List.mem_range,wz,decide_eq_true_eq]
  refine ⟨h.cv,⟨by omega,by omega,by omega,by omega,by omega⟩,fun x hx=>h.hold x hx,fun i hi => ?_,fun i hi => ?_⟩
  · have hi':i < c.acts.length:=by omega
    have ha:=List.getElem?_eq_getElem hi'
    have hu:=List.getElem?_eq_getElem hi
    simp only [Q7,ha,hu]
    cases hq:s.used[i] with
    | false=>rfl
    | true=>
      have:=h.used i _ ha (by rw [hu,hq])
      simp [this]
  · have hi':i < c.clauses.length:=by omega
    have ha:=List.getElem?_eq_getElem hi'
    have hu:=List.getElem?_eq_getElem hi
    simp only [yM,ha,hu,Bool.and_eq_true,Bool.not_eq_true']
    exact ⟨h.mrk i _ _ ha hu,h.rdy i hi'⟩
structure KV (c:ContractT) (i:Nat) (k:ClauseT):Prop where
  act:0≤k.act∧k.act < c.acts.length
  after:1≤k.after∧k.after≤400
  kind:k.kind=1∨k.kind=2∨k.kind=3∨k.kind=4
  role:k.kind=4∨(0≤k.role∧k.role < c.holders.length)
  need:1≤k.need∧k.need≤9
  grace:0≤k.grace∧k.grace≤400
  start:k.start.length≤8
  cond:∀ s∈k.start,0≤s.clause∧s.clause < c.clauses.length
  pause:(k.pause = -1∧k.resume = -1)∨(yL c.acts k.pause=true∧yL c.acts k.resume=true)
theorem xw {c:ContractT} (ho:c.off.length < 4611686018427387904) (h:(zN c).1=0) {i:Nat} {k:ClauseT} (hk:c.clauses[i]?=some k):KV c i k:=by
  have sm:=qM ho h
  obtain ⟨_,_,h3,_⟩:=xm h
  have:=h3 i (List.getElem?_eq_some_iff.1 hk).1
  simp only [clB,hk,we,Bool.and_eq_true,Bool.not_eq_true',decide_eq_false_iff_not] at this
  obtain ⟨⟨a1,a2,a3,a4⟩,⟨a5,a6⟩,a7,a8,_⟩:=this
  have hkd:(k.kind=1∨k.kind=2∨k.kind=3∨k.kind=4)∧(k.kind=4∨(0≤k.role∧k.role < c.holders.length))∧(1≤k.need∧k.need≤9)∧(0≤k.grace∧k.grace≤400):=by
    unfold Q6 at a5
    cases h4:(k.kind == 4) with
    | true=>
      rw [h4] at a5
      simp only [cond_true,Bool.and_eq_true,beq_iff_eq] at a5
      have:=beq_iff_eq.1 h4
      omega
    | false=>
      rw [h4] at a5
      simp only [cond_false,Bool.and_eq_true,xy,decide_eq_true_eq] at a5
      obtain ⟨⟨b1,_⟩,b2⟩:=a5
      cases h1:(k.kind == 1) with
      | true=>
        rw [h1] at b2
        simp only [cond_true,Bool.and_eq_true,decide_eq_true_eq] at b2
        have:=beq_iff_eq.1 h1
        omega
      | false=>
        rw [h1] at b2
        cases h2:(k.kind == 2) with
        | true=>
          rw [h2] at b2
          simp only [cond_true,cond_false,Bool.and_eq_true,beq_iff_eq] at b2
          have:=beq_iff_eq.1 h2
          omega
        | false=>
          rw [h2] at b2
          simp only [cond_false,Bool.and_eq_true,beq_iff_eq] at b2
          omega
  refine ⟨⟨by omega,by omega⟩,⟨by omega,by omega⟩,hkd.1,hkd.2.1,hkd.2.2.1,hkd.2.2.2,by omega,fun s hs => ?_,?_⟩
  · have:=sm.cond i k hk s hs;omega
  · simp only [Qy,Bool.or_eq_true,Bool.and_eq_true,beq_iff_eq,Bool.not_eq_true'] at a8
    rcases a8 with h | h
    · exact .inl h
    · exact .inr h.2
structure AV2 (c:ContractT) (a:ActT):Prop where
  role:(a.role = -1∧a.kind=1)∨(0≤a.role∧a.role < c.holders.length)
  kind:a.kind=1∨((a.kind=2∨a.kind=3)∧(0≤a.give∧a.give < c.holders.length)∧(0≤a.to∧a.to < c.parties))
theorem X7 {c:ContractT} (h:(zN c).1=0) {i:Nat} {a:ActT} (ha:c.acts[i]?=some a):AV2 c a:=by
  obtain ⟨_,h2,_,_⟩:=xm h
  simp only [qL,Bool.and_eq_true,Bool.not_eq_true',decide_eq_false_iff_not] at h2
  obtain ⟨_,_,_,_,_,b6,_⟩:=h2
  have:=List.all_eq_true.1 b6 a (List.mem_of_getElem? ha)
  unfold JT at this
  cases hr:xy c.holders.length a.role with
  | true=>
    rw [hr] at this
    simp only [xy,Bool.and_eq_true,decide_eq_true_eq] at hr
    cases h1:(a.kind == 1) with
    | true=>exact ⟨.inr hr,.inl (beq_iff_eq.1 h1)⟩
    | false=>
      rw [h1] at this
      simp only [cond_true,cond_false,Bool.and_eq_true,Bool.or_eq_true,beq_iff_eq,xy,decide_eq_true_eq] at this
      exact ⟨.inr hr,.inr ⟨this.1,this.2.1,by omega⟩⟩
  | false=>
    rw [hr] at this
    simp only [cond_false,Bool.and_eq_true,beq_iff_eq] at this
    exact ⟨.inl ⟨this.2.1,this.1⟩,.inl this.1⟩
theorem Q8 {c:ContractT} (h:(zN c).1=0):∀ x∈c.holders,0≤x∧x < c.parties:=by
  obtain ⟨_,h2,_,_⟩:=xm h
  simp only [qL,Bool.and_eq_true] at h2
  have:=h2.2.2.2.1
  simp only [wz,List.all_eq_true,Bool.and_eq_true,decide_eq_true_eq] at this
  exact this
theorem zhq {c:ContractT} (ho:c.off.length < 4611686018427387904) (h:(zN c).1=0):c.off.Pairwise (· < ·):=by
  obtain ⟨_,h2,_,_⟩:=xm h
  simp only [qL,Bool.and_eq_true] at h2
  have b7:=h2.2.2.2.2.2.2
  have e:Qx c.days c.off=yE c.days (-1) c.off:=by
    unfold Qx
    rw [zfg c.days c.off ho (-1)]
    cases yE c.days (-1) c.off<;>rfl
  rw [e] at b7
  exact (Vz b7).2
def MOk (c:ContractT) (ms:List MarkT):Prop:=ms.length=c.clauses.length∧∀ (i:Nat) (k:ClauseT) (m:MarkT),c.clauses[i]?=some k→ms[i]?=some m→qN c.parties k m=true
def NR (c:ContractT) (ms:List MarkT):Prop:=∀ i,i < c.clauses.length→qY c.clauses ms i=false
def xd (k:ClauseT) (b:Int):MarkT:={status:=1,left:=k.after,got:=0,bearer:=b,paused:=false}
def StR (c:ContractT) (ms ms':List MarkT):Prop:=∀ (i:Nat) (m m':MarkT),ms[i]?=some m→ms'[i]?=some m'→m'=m∨(m.status=0∧∃ k b,c.clauses[i]?=some k∧m'=xd k b)
def vF (ms:List MarkT):Nat:=ms.countP (fun m=>m.status == 0)
def jr (hs:List Int) (k:ClauseT):Int:=bif k.kind == 4 then -1 else hs[k.role.toNat]?.getD 0
def yN (ks:List ClauseT) (ms:List MarkT):Nat→Nat→Prop
  | 0,_=>False
  | n+1,i=>∃ k m,ks[i]?=some k∧ms[i]?=some m∧m.status=0∧k.waived=false∧∀ x∈k.start,jl ms x=true∨(x.is=1∧yN ks ms n x.clause.toNat)
def Sta (ks:List ClauseT) (ms:List MarkT) (i:Nat):Prop:=∃ n,yN ks ms n i
def Km (c:ContractT) (hs:List Int) (ms r:List MarkT):Prop:=∀ (i:Nat) (k:ClauseT) (m:MarkT),c.clauses[i]?=some k→ms[i]?=some m→r[i]?=some m∨(Sta c.clauses ms i∧r[i]?=some (xd k (jr hs k)))
def zhr (c:ContractT) (hs:List Int) (ms r:List MarkT):Prop:=∀ (i:Nat) (k:ClauseT) (m:MarkT),c.clauses[i]?=some k→ms[i]?=some m→(¬ Sta c.clauses ms i∧r[i]?=some m)∨(Sta c.clauses ms i∧r[i]?=some (xd k (jr hs k)))
theorem VD {ks:List ClauseT} {ms:List MarkT}:∀ (n i:Nat),yN ks ms n i→yN ks ms (n+1) i
  | 0,i,h=>h.elim
  | n+1,i,⟨k,m,h1,h2,h3,h4,h5⟩=>⟨k,m,h1,h2,h3,h4,fun x hx=>(h5 x hx).imp id fun h=>⟨h.1,VD n _ h.2⟩⟩
theorem WM {ks:List ClauseT} {ms:List MarkT} {n i:Nat} (h:yN ks ms n i):∀ d,yN ks ms (n+d) i
  | 0=>h
  | d+1=>VD _ _ (WM h d)
theorem zaI {ks:List ClauseT} {ms:List MarkT}:∀ (l:List CondT),(∀ x∈l,jl ms x=true∨(x.is=1∧Sta ks ms x.clause.toNat))→∃ n,∀ x∈l,jl ms x=true∨(x.is=1∧yN ks ms n x.clause.toNat)
  | [],_=>⟨0,fun x hx=>by cases hx⟩
  | y::l,h=>by
    obtain ⟨n,hn⟩:=zaI l (fun x hx=>h x (List.mem_cons_of_mem _ hx))
    rcases h y (List.mem_cons_self ..) with h1 | ⟨h1,d,h2⟩
    · refine ⟨n,fun x hx => ?_⟩
      rcases List.mem_cons.1 hx with rfl | hx
      · exact .inl h1
      · exact hn x hx
    · refine ⟨n+d,fun x hx => ?_⟩
      rcases List.mem_cons.1 hx with rfl | hx
      · exact .inr ⟨h1,by rw [Nat.add_comm];exact WM h2 n⟩
      · exact (hn x hx).imp id fun h=>⟨h.1,WM h.2 d⟩
theorem X8 {ms:List MarkT} {x:CondT} {m:MarkT} (hx:ze ms x.clause=some m) (h1:m.status=1):jl ms x=(x.is == 1):=by
  simp only [jl,hx,h1]
  cases (x.is == 1)<;>cases (x.is == 2)<;>cases (x.is == 3)<;>cases (x.is == 4)<;>rfl
theorem zdu {ms:List MarkT} {x:CondT} {m:MarkT} (hx:ze ms x.clause=some m) (h1:m.status=0):jl ms x=false:=by
  simp only [jl,hx,h1]
  cases (x.is == 1)<;>cases (x.is == 2)<;>cases (x.is == 3)<;>cases (x.is == 4)<;>rfl
structure StartP (c:ContractT) (hs:List Int) (ms r:List MarkT):Prop where
  ok:MOk c r
  nr:NR c r
  rel:StR c ms r
  same:NR c ms→r=ms
  sta:zhr c hs ms r
theorem zbP {ks:List ClauseT} {ms:List MarkT} {i:Nat} {m:MarkT} (h:Sta ks ms i) (hm:ms[i]?=some m):m.status=0:=by
  obtain ⟨n,h⟩:=h
  cases n with
  | zero=>exact h.elim
  | succ n=>obtain ⟨k,m',_,h2,h3,_⟩:=h;rw [hm] at h2;cases h2;exact h3
theorem zdv {c:ContractT} {hs:List Int} {ms r:List MarkT} (hl:ms.length=c.clauses.length) (hr:r.length=c.clauses.length) (hI:Km c hs ms r) {i:Nat} {k:ClauseT} (hk:c.clauses[i]?=some k) (hcd:∀ x∈k.start,0≤x.clause∧x.clause < c.clauses.length) (hy:qY c.clauses r i=true):Sta c.clauses ms i:=by
  have hi:=(List.getElem?_eq_some_iff.1 hk).1
  have hm:=List.getElem?_eq_getElem (show i < ms.length by omega)
  have hmr:=List.getElem?_eq_getElem (show i < r.length by omega)
  simp only [qY,hk,hmr,Bool.and_eq_true,Bool.not_eq_true',beq_iff_eq,List.all_eq_true] at hy
  obtain ⟨⟨h0,hw⟩,hc⟩:=hy
  rcases hI i k _ hk hm with h | ⟨h,_⟩
  · rw [hmr] at h
    have e:=Option.some.inj h
    obtain ⟨n,hn⟩:=zaI (ks:=c.clauses) (ms:=ms) k.start (fun x hx=>by
      obtain ⟨x0,x1⟩:=hcd x hx
      have hxi:=qw (l:=ms) (n:=x.clause) x0 (by omega)
      obtain ⟨a1,a2⟩:=hxi
      obtain ⟨b1,b2⟩:=qw (l:=r) (n:=x.clause) x0 (by omega)
      have hkx:=List.getElem?_eq_getElem (show x.clause.toNat < c.clauses.length by omega)
      have hx':=hc x hx
      rcases hI x.clause.toNat _ _ hkx (List.getElem?_eq_getElem a1) with h2 | ⟨h2,h3⟩
      · left
        rw [List.getElem?_eq_getElem b1] at h2
        simp only [jl,b2,Option.some.inj h2] at hx'
        simp only [jl,a2];exact hx'
      · right
        rw [List.getElem?_eq_getElem b1] at h3
        rw [X8 b2 (by rw [Option.some.inj h3];rfl)] at hx'
        exact ⟨beq_iff_eq.1 hx',h2⟩)
    exact ⟨n+1,k,_,hk,hm,by rw [←e];exact h0,hw,hn⟩
  · exact h
theorem zfX {c:ContractT} {hs:List Int} {ms r:List MarkT} (hl:ms.length=c.clauses.length) (hr:r.length=c.clauses.length) (hI:Km c hs ms r) (hn:NR c r) (hcd:∀ (i:Nat) (k:ClauseT),c.clauses[i]?=some k→∀ x∈k.start,0≤x.clause∧x.clause < c.clauses.length):zhr c hs ms r:=by
  have key:∀ (n i:Nat) (k:ClauseT),yN c.clauses ms n i→c.clauses[i]?=some k→r[i]?=some (xd k (jr hs k)):=by
    intro n
    induction n with
    | zero=>intro i k h;exact h.elim
    | succ n ih=>
      intro i k h hk
      have hi:=(List.getElem?_eq_some_iff.1 hk).1
      obtain ⟨k',m,h1,h2,h3,h4,h5⟩:=h
      rw [hk] at h1
      cases h1
      rcases hI i k m hk h2 with h | ⟨_,h⟩
      · exfalso
        have:=hn i hi
        have hy:qY c.clauses r i=true:=by
          simp only [qY,hk,h,h3,h4,beq_self_eq_true,Bool.not_false,Bool.and_true,Bool.true_and,List.all_eq_true]
          intro x hx
          obtain ⟨x0,x1⟩:=hcd i k hk x hx
          obtain ⟨a1,a2⟩:=qw (l:=ms) (n:=x.clause) x0 (by omega)
          obtain ⟨b1,b2⟩:=qw (l:=r) (n:=x.clause) x0 (by omega)
          have hkx:=List.getElem?_eq_getElem (show x.clause.toNat < c.clauses.length by omega)
          rcases h5 x hx with h6 | ⟨h6,h7⟩
          · rcases hI x.clause.toNat _ _ hkx (List.getElem?_eq_getElem a1) with g | ⟨g,g2⟩
            · rw [List.getElem?_eq_getElem b1] at g
              simp only [jl,a2] at h6
              simp only [jl,b2,Option.some.inj g];exact h6
            · rw [zdu a2 (zbP g (List.getElem?_eq_getElem a1))] at h6;cases h6
          · have g:=ih _ _ h7 hkx
            rw [List.getElem?_eq_getElem b1] at g
            rw [X8 b2 (by rw [Option.some.inj g];rfl),h6];rfl
        rw [hy] at this;cases this
      · exact h
  intro i k m hk hm
  by_cases hs':Sta c.clauses ms i
  · obtain ⟨n,h⟩:=hs'
    exact .inr ⟨⟨n,h⟩,key n i k h hk⟩
  · rcases hI i k m hk hm with h | ⟨h,_⟩
    · exact .inl ⟨hs',h⟩
    · exact absurd h hs'
theorem zdw {ms:List MarkT} {i:Nat} {m m':MarkT} (h:ms[i]?=some m) (h0:m.status=0) (h1:m'.status≠0):vF (ms.set i m') < vF ms:=by
  obtain ⟨hi,rfl⟩:=List.getElem?_eq_some_iff.1 h
  unfold vF
  rw [List.countP_set hi]
  have hp:0 < ms.countP (fun m=>m.status == 0):=List.countP_pos_iff.2 ⟨_,List.getElem_mem hi,by simp [h0]⟩
  simp only [h0,beq_self_eq_true,if_true,beq_iff_eq,h1,if_false]
  omega
noncomputable def wA (c:ContractT) (day:Int) (hs:List Int) (us:List Bool) (ms:List MarkT):Option (List MarkT):=xP c day hs hs.length us us.length ms ms.length
theorem ZB (n:Nat):eqN n n=some ⟨rfl⟩:=by unfold eqN;rw [dif_pos rfl]
theorem wB {a b:Nat} (h:a=b):eqN a b=some ⟨h⟩:=by unfold eqN;rw [dif_pos h]
theorem Qz (c:ContractT) (day:Int) (hs:List Int) (us:List Bool) (ms:List MarkT) (ho:c.off.length < 4611686018427387904) (hv:(zN c).1=0) (hh:hs.length=c.holders.length) (hb:∀ h∈hs,0≤h∧h < c.parties) (hm:MOk c ms) :
    Ret (wA c day hs us ms) (StartP c hs ms):=by
  have sm:=qM ho hv
  have hcl:=sm.clauses
  unfold wA xP
  refine Ret.bind (P:=fun r=>StartP c hs ms r) (Ret.iter (fun s=>MOk c s.2∧StR c ms s.2∧(NR c ms→s.2=ms)∧Km c hs ms s.2∧(s.1=false→NR c s.2)) (fun s=>2*vF s.2+(if s.1 then 1 else 0)) ⟨hm,fun i m m' h1 h2=>.inl (by simp only at h2;rw [h1] at h2;exact (Option.some.inj h2).symm),fun _=>rfl,fun i k m h1 h2=>.inl h2,fun h=>by cases h⟩ ?_) (fun r hr=>Ret.some hr)
  have hl0:=hm.1
  have hcd:∀ (i:Nat) (k:ClauseT),c.clauses[i]?=some k→∀ x∈k.start,0≤x.clause∧x.clause < c.clauses.length:=fun i k hk=>(xw ho hv hk).cond
  rintro ⟨b,ms1⟩ ⟨hok,hrel,hsame,hsta,hnr⟩
  cases b with
  | false=>exact Ret.some ⟨hok,hnr rfl,hrel,hsame,zfX hl0 hok.1 hsta (hnr rfl) hcd⟩
  | true=>
    simp only [cond_true]
    refine Ret.bind (P:=fun o=>∃ s2:Bool×List MarkT,o=.inl s2∧MOk c s2.2∧StR c ms s2.2∧(NR c ms1→s2.2=ms1)∧Km c hs ms s2.2∧(s2.1=false→s2.2=ms1∧NR c ms1)∧(s2.1=true→vF s2.2 < vF ms1))
      (Ret.forL (n:=c.clauses.length) (fun i s=>MOk c s.2∧StR c ms s.2∧(NR c ms1→s.2=ms1)∧Km c hs ms s.2∧(s.1=false→s.2=ms1∧∀ j,j < i→qY c.clauses ms1 j=false)∧(s.1=true→vF s.2 < vF ms1)) (by omega) ⟨hok,hrel,fun _=>rfl,hsta,fun _=>⟨rfl,fun j hj=>by omega⟩,fun h=>by cases h⟩ ?_ (fun s h=>⟨s,rfl,h⟩)) ?_
    · rintro i ⟨b0,ms2⟩ hi ⟨ok2,rel2,same2,sta2,nr2,lt2⟩
      simp only at ok2 rel2 same2 sta2 nr2 lt2
      have hk:=List.getElem?_eq_getElem hi
      have hl2:=ok2.1
      have hi2:i < ms2.length:=by omega
      have hm2:=List.getElem?_eq_getElem hi2
      have kv:=xw ho hv hk
      have hmk:=ok2.2 i _ _ hk hm2
      rw [zD hk]
      simp only [Option.bind_some,ZB,wB (show ms.length=ms2.length by omega)]
      rw [zaH c _ i _ _ hk hm2 (by have:=kv.start;omega) (fun x hx=>by have:=kv.cond x hx;simp only;omega)]
      simp only [Option.bind_some]
      cases hr:qY c.clauses ms2 i with
      | false=>
        simp only [cond_false,Option.bind_some]
        refine Ret.some ⟨ok2,rel2,same2,sta2,fun hb=>⟨(nr2 hb).1,fun j hj => ?_⟩,lt2⟩
        rcases Nat.lt_or_ge j i with h | h
        · exact (nr2 hb).2 j h
        · obtain rfl:j=i:=by omega
          rw [←(nr2 hb).1];exact hr
      | true=>
        simp only [cond_true]
        have hr':=hr
        simp only [qY,hk,hm2,Bool.and_eq_true,Bool.not_eq_true',beq_iff_eq] at hr'
        obtain ⟨⟨h0,hw⟩,_⟩:=hr'
        have hbear:Ret (bif (c.clauses[i].kind == 4) then some (-1) else (Option.bind (zl hs.length c.clauses[i].role) fun k1=>(Option.bind (hs[k1]?) fun e2=>some e2))) (fun v=>v=jr hs c.clauses[i]∧bif c.clauses[i].kind == 4 then v = -1 else 0≤v∧v < c.parties):=by
          refine Ret.ite (fun h4=>Ret.some (by simp [h4,jr])) (fun h4 => ?_)
          have h4':c.clauses[i].kind≠4:=beq_eq_false_iff_ne.1 h4
          have hro:=kv.role.resolve_left h4'
          rw [zaz hro.1 (by omega)]
          have hlt:c.clauses[i].role.toNat < hs.length:=by omega
          simp only [Option.bind_some,List.getElem?_eq_getElem hlt]
          exact Ret.some ⟨by simp [jr,h4,List.getElem?_eq_getElem hlt],by rw [h4];exact hb _ (List.getElem_mem hlt)⟩
        refine Ret.bind (P:=fun v:Bool×List MarkT=>∃ b,v=(true,ms2.set i (xd c.clauses[i] b))∧b=jr hs c.clauses[i]∧(bif c.clauses[i].kind == 4 then b = -1 else 0≤b∧b < c.parties)) (Ret.bind hbear fun v hv' => ?_) ?_
        · rw [zV (show i < ms.length by omega)]
          simp only [Option.bind_some,hm2]
          exact Ret.some ⟨v,rfl,hv'⟩
        · rintro _ ⟨b,rfl,hbe,hbv⟩
          have hnew:qN c.parties c.clauses[i] (xd c.clauses[i] b)=true:=by
            simp only [qN,xd,wZ,hw]
            have h1:=kv.after
            have:¬ c.clauses[i].after < 1:=by omega
            cases h4:(c.clauses[i].kind == 4) with
            | true=>rw [h4] at hbv;simp only [cond_true] at hbv;subst hbv;simp [this]
            | false=>rw [h4] at hbv;simp only [cond_false] at hbv;simp [this,hbv]
          refine Ret.some ⟨⟨by simpa using hl2,fun j k m hj hmj => ?_⟩,fun j m m' h1 h2 => ?_,fun hn => ?_,fun j k m hj hmj => ?_,fun h=>by simp at h,fun _ => ?_⟩
          · rw [List.getElem?_set] at hmj
            by_cases hij:i=j
            · subst hij
              rw [if_pos rfl,if_pos hi2] at hmj
              rw [hk] at hj
              cases hj;cases hmj;exact hnew
            · rw [if_neg hij] at hmj;exact ok2.2 j k m hj hmj
          · simp only at h2
            rw [List.getElem?_set] at h2
            by_cases hij:i=j
            · subst hij
              rw [if_pos rfl,if_pos hi2] at h2
              cases h2
              refine .inr ⟨?_,_,b,hk,rfl⟩
              rcases rel2 i m _ h1 hm2 with h | ⟨h,_⟩
              · rw [←h];exact h0
              · exact h
            · rw [if_neg hij] at h2;exact rel2 j m m' h1 h2
          · have e:=same2 hn
            have:=hn i hi
            rw [←e,hr] at this
            cases this
          · show (ms2.set i (xd c.clauses[i] b))[j]?=some m∨Sta c.clauses ms j∧(ms2.set i (xd c.clauses[i] b))[j]?=some (xd k (jr hs k))
            rw [List.getElem?_set]
            by_cases hij:i=j
            · subst hij
              rw [if_pos rfl,if_pos hi2]
              rw [hk] at hj
              cases hj
              exact .inr ⟨zdv hl0 hl2 sta2 hk (hcd _ _ hk) hr,by rw [hbe]⟩
            · rw [if_neg hij];exact sta2 j k m hj hmj
          · have h3:=zdw (m':=xd c.clauses[i] b) hm2 h0 (by simp [xd])
            show vF (ms2.set i (xd c.clauses[i] b)) < vF ms1
            cases b0 with
            | true=>have:=lt2 rfl;omega
            | false=>have e:=(nr2 rfl).1;subst e;exact h3
    · rintro _ ⟨⟨b2,ms2⟩,rfl,ok2,rel2,same2,sta2,nr2,lt2⟩
      simp only at ok2 rel2 same2 sta2 nr2 lt2
      simp only [Sum.elim_inl]
      refine Ret.some ⟨⟨ok2,rel2,fun hn => ?_,sta2,fun hb2 => ?_⟩,?_⟩
      · have e:=hsame hn
        simp only at e
        subst e
        exact same2 hn
      · obtain ⟨e1,e2⟩:=nr2 hb2
        simp only;rw [e1];exact e2
      · simp only
        cases b2 with
        | true=>have:=lt2 rfl;simp;omega
        | false=>have:=(nr2 rfl).1;subst this;simp
def qv (m:MarkT):Bool:=m.status == 1||m.status == 2
theorem ko (m:MarkT):je m=some (qv m):=by
  simp only [je,zo,Option.bind_some,qv];cases (m.status == 1)<;>rfl
def kC (st:Int) (m:MarkT):MarkT:={m with status:=st,left:=0,paused:=false}
def jm (free:Bool) (k:ClauseT) (m:MarkT):MarkT:=
  bif qv m then (bif m.paused||(k.business&&free) then m else
    bif m.left - 1 == 0 then (bif k.kind == 1 then (bif m.status == 1&&decide (0 < k.grace) then {m with status:=2,left:=k.grace} else kC 4 m) else bif k.kind == 2 then kC 3 m else kC 5 m)
    else {m with left:=m.left - 1}) else m
def atK (c:ContractT) (F:ClauseT→MarkT→MarkT) (i:Nat) (m:MarkT):MarkT:=match c.clauses[i]? with | some k=>F k m | none=>m
structure RunV (c:ContractT) (k:ClauseT) (m:MarkT):Prop where
  waived:k.waived=false
  left:1≤m.left∧m.left≤400
  paused:m.paused=true→k.pause ≠ -1
  got:m.got=0∨(k.kind=1∧0≤m.got∧m.got < k.need)
  bearer:(k.kind=4∧m.bearer = -1)∨(k.kind≠4∧0≤m.bearer∧m.bearer < c.parties)
theorem qG {p:Int} {k:ClauseT} {m:MarkT}:wZ p k m=true↔k.waived=false∧1≤m.left∧(m.paused=true→k.pause ≠ -1)∧(m.got=0∨(k.kind=1∧0≤m.got∧m.got < k.need))∧((k.kind=4∧m.bearer = -1)∨(k.kind≠4∧0≤m.bearer∧m.bearer < p)):=by
  simp only [wZ,Bool.and_eq_true,Bool.not_eq_true',Bool.or_eq_false_iff,decide_eq_false_iff_not,Bool.or_eq_true,beq_iff_eq]
  have e1:(m.paused&&k.pause == -1)=false↔(m.paused=true→k.pause ≠ -1):=by cases m.paused<;>simp
  have e2:(bif k.kind == 4 then m.bearer == -1 else decide (0≤m.bearer)&&decide (m.bearer < p))=true↔((k.kind=4∧m.bearer = -1)∨(k.kind≠4∧0≤m.bearer∧m.bearer < p)):=by
    cases h:(k.kind == 4) with
    | true=>have:=beq_iff_eq.1 h;simp [this]
    | false=>have:=beq_eq_false_iff_ne.1 h;simp [this]
  rw [e1,e2]
  constructor
  · rintro ⟨⟨a,b,d⟩,e,f⟩;exact ⟨a,by omega,d,by omega,f⟩
  · rintro ⟨a,b,d,e,f⟩;exact ⟨⟨a,by omega,d⟩,by omega,f⟩
theorem ju {p:Int} {k:ClauseT} {m:MarkT}:qN p k m=true↔(m.status=0∧k.waived=false∧X6 m=true)∨(m.status=1∧m.left≤k.after∧wZ p k m=true)∨(m.status=2∧k.kind=1∧m.left≤k.grace∧wZ p k m=true)∨((m.status=3∨m.status=4∨m.status=5)∧Kk p m=true):=by
  unfold qN
  by_cases h0:m.status=0
  · simp [h0]
  by_cases h1:m.status=1
  · simp [h1]
  by_cases h2:m.status=2
  · simp [h2]
  have e0:(m.status == 0)=false:=beq_eq_false_iff_ne.2 h0
  have e1:(m.status == 1)=false:=beq_eq_false_iff_ne.2 h1
  have e2:(m.status == 2)=false:=beq_eq_false_iff_ne.2 h2
  simp [e0,e1,e2,h0,h1,h2]
theorem xx {c:ContractT} {i:Nat} {k:ClauseT} {m:MarkT} (kv:KV c i k) (h:qN c.parties k m=true) (hr:qv m=true):RunV c k m∧wZ c.parties k m=true∧(m.status=1∧m.left≤k.after∨m.status=2∧k.kind=1∧m.left≤k.grace):=by
  simp only [qv,Bool.or_eq_true,beq_iff_eq] at hr
  have ha:=kv.after
  have hg:=kv.grace
  rcases ju.1 h with ⟨h0,_⟩ | ⟨h0,h1,h2⟩ | ⟨h0,h1,h2,h3⟩ | ⟨h0,_⟩
  · omega
  · obtain ⟨a,b,d,e,f⟩:=qG.1 h2
    exact ⟨⟨a,⟨b,by omega⟩,d,e,f⟩,h2,.inl ⟨h0,h1⟩⟩
  · obtain ⟨a,b,d,e,f⟩:=qG.1 h3
    exact ⟨⟨a,⟨b,by omega⟩,d,e,f⟩,h3,.inr ⟨h0,h1,h2⟩⟩
  · omega
theorem kU {c:ContractT} {i:Nat} {k:ClauseT} {m:MarkT} {st:Int} (kv:KV c i k) (rv:RunV c k m) (hp:0 < c.parties) (hst:st=3∨st=4∨st=5):qN c.parties k (kC st m)=true:=by
  refine ju.2 (.inr (.inr (.inr ⟨hst,?_⟩)))
  have h1:=rv.got
  have h2:=rv.bearer
  have h3:=kv.need
  have e1:decide (0≤m.got)=true:=decide_eq_true (by omega)
  have e2:decide (m.got≤9)=true:=decide_eq_true (by omega)
  have e3:decide (-1≤m.bearer)=true:=decide_eq_true (by omega)
  have e4:decide (m.bearer < c.parties)=true:=decide_eq_true (by omega)
  show ((0:Int) == 0&&(decide (0≤m.got)&&(decide (m.got≤9)&&(decide (-1≤m.bearer)&&(decide (m.bearer < c.parties) && !false)))))=true
  rw [e1,e2,e3,e4];rfl
theorem yo {c:ContractT} {k:ClauseT} {m:MarkT} (h:(m.status=1∧m.left≤k.after)∨(m.status=2∧k.kind=1∧m.left≤k.grace)) (hr:wZ c.parties k m=true):qN c.parties k m=true:=by
  rcases h with ⟨h0,h1⟩ | ⟨h0,h1,h2⟩
  · exact ju.2 (.inr (.inl ⟨h0,h1,hr⟩))
  · exact ju.2 (.inr (.inr (.inl ⟨h0,h1,h2,hr⟩)))
theorem MOk.mapIdx {c:ContractT} {ms:List MarkT} (F:ClauseT→MarkT→MarkT) (h:MOk c ms) (hF:∀ (i:Nat) (k:ClauseT) (m:MarkT),c.clauses[i]?=some k→qN c.parties k m=true→qN c.parties k (F k m)=true):MOk c (ms.mapIdx (atK c F)):=by
  refine ⟨by simpa using h.1,fun i k m hk hm => ?_⟩
  rw [List.getElem?_mapIdx] at hm
  obtain ⟨m0,h0,rfl⟩:=Option.map_eq_some_iff.1 hm
  simp only [atK,hk]
  exact hF i k m0 hk (h.2 i k m0 hk h0)
theorem zeB {c:ContractT} {i:Nat} {k:ClauseT} {m:MarkT} (free:Bool) (kv:KV c i k) (hp:0 < c.parties) (h:qN c.parties k m=true):qN c.parties k (jm free k m)=true:=by
  unfold jm
  cases hr:qv m with
  | false=>exact h
  | true=>
    obtain ⟨rv,hb,hs⟩:=xx kv h hr
    simp only [cond_true]
    cases hp1:(m.paused||(k.business&&free)) with
    | true=>exact h
    | false=>
      simp only [cond_false]
      have hl:=rv.left
      obtain ⟨b1,b2,b3,b4,b5⟩:=qG.1 hb
      cases hz:(m.left - 1 == 0) with
      | false=>
        have:=beq_eq_false_iff_ne.1 hz
        refine yo ?_ (qG.2 ⟨b1,?_,b3,b4,b5⟩)
        · simp only [cond_false];omega
        · simp only [cond_false];omega
      | true=>
        simp only [cond_true]
        cases h1:(k.kind == 1) with
        | false=>
          cases h2:(k.kind == 2) with
          | true=>exact kU kv rv hp (by omega)
          | false=>exact kU kv rv hp (by omega)
        | true=>
          simp only [cond_true]
          cases h3:(m.status == 1&&decide (0 < k.grace)) with
          | false=>exact kU kv rv hp (by omega)
          | true=>
            simp only [Bool.and_eq_true,beq_iff_eq,decide_eq_true_eq] at h3
            exact yo (.inr ⟨rfl,beq_iff_eq.1 h1,Int.le_refl _⟩) (qG.2 ⟨b1,by simp only [cond_true];omega,b3,b4,b5⟩)
theorem jv {α:Type} {s:List α} {i:Nat} {m:α} (h:s[i]?=some m):s.set i m=s:=by
  obtain ⟨hi,rfl⟩:=List.getElem?_eq_some_iff.1 h
  exact List.set_getElem_self hi
theorem wg {α:Type} {s:List α} {i:Nat} {m x:α} (h:s[i]?=some m):(s.set i x)[i]?=some x:=by
  have:=(List.getElem?_eq_some_iff.1 h).1
  simp [this]
theorem Q9 (i:Nat) (st:Int) (c:ContractT) (p4:Int) (p5:List Int) (p6:Nat) (p7:List Bool) (p8:Nat) (ms:List MarkT) (n:Nat) (m:MarkT) (hi:i < n) (hm:ms[i]?=some m):xu i st c p4 p5 p6 p7 p8 ms n=some (ms.set i (kC st m)):=by
  unfold xu
  simp only [zV hi,Option.bind_some,hm,List.set_set,kC]
theorem zfY (c:ContractT) (day:Int) (hs:List Int) (us:List Bool) (ms:List MarkT) (ho:c.off.length < 4611686018427387904) (hv:(zN c).1=0) (hm:MOk c ms) (hday:0≤day∧day≤2000) :
    d_70a c day hs hs.length us us.length ms ms.length=wA c (day+1) hs us (ms.mapIdx (atK c (jm (jE c.off day).isSome))):=by
  have sm:=qM ho hv
  have hcl:=sm.clauses
  have hl:=hm.1
  unfold d_70a
  obtain ⟨r,hr,_⟩:=WL c.off day (zhq ho hv) ho
  rw [hr]
  simp only [Option.bind_some,jP]
  rw [xJ ms (atK c (jm (jE c.off day).isSome)) (by omega) ?_]
  · simp only [Option.bind_some,Sum.elim_inl]
    rw [qC (by omega) (by omega)]
    unfold wA
    rw [List.length_mapIdx]
    generalize xP _ _ _ _ _ _ _ _=x
    cases x<;>rfl
  · intro i m s h1 h2 h3
    have hi:i < ms.length:=(List.getElem?_eq_some_iff.1 h1).1
    have hic:i < c.clauses.length:=by omega
    have hk:=List.getElem?_eq_getElem hic
    have kv:=xw ho hv hk
    have hmk:=hm.2 i _ _ hk h1
    simp only [zV hi,Option.bind_some,h3,ko,atK,hk]
    generalize c.clauses[i]=k at hk kv hmk
    cases hrn:qv m with
    | false=>simp only [cond_false,Option.bind_some,jm,hrn,jv h3]
    | true=>
      obtain ⟨rv,hb,hst⟩:=xx kv hmk hrn
      have hleft:=rv.left
      simp only [cond_true,zD hk,Option.bind_some,jm,hrn,zo]
      have epb:(bif m.paused then true else bif k.business then (jE c.off day).isSome else false)=(m.paused||(k.business&&(jE c.off day).isSome)):=by cases m.paused<;>cases k.business<;>rfl
      rw [epb]
      cases hp1:(m.paused||(k.business&&(jE c.off day).isSome)) with
      | true=>simp only [cond_true,Option.bind_some,Bool.not_true,cond_false,jv h3]
      | false=>
        rw [qC (show -9223372036854775808≤m.left - 1 by omega) (by omega)]
        simp only [cond_false,Option.bind_some,wg h3]
        cases hz:(m.left - 1 == 0) with
        | false=>simp only [cond_false,Option.bind_some,Bool.not_true]
        | true=>
          have hz':=beq_iff_eq.1 hz
          have hk0:(k.kind == 0)=false:=beq_eq_false_iff_ne.2 (by have:=kv.kind;omega)
          simp only [cond_true,hk0,cond_false,XO,xQ,kh,zV hi,Option.bind_some,wg h3,zD hk,zo]
          rw [Q9 i 4 _ _ _ _ _ _ _ _ _ hi (wg h3),Q9 i 3 _ _ _ _ _ _ _ _ _ hi (wg h3),Q9 i 5 _ _ _ _ _ _ _ _ _ hi (wg h3)]
          simp only [Option.bind_some,List.set_set,kC,hz']
          cases h1:(k.kind == 1) with
          | true=>
            simp only [cond_true]
            have e3:(bif m.status == 1 then decide (0 < k.grace) else false)=(m.status == 1&&decide (0 < k.grace)):=by cases (m.status == 1)<;>rfl
            rw [e3]
            cases h4:(m.status == 1&&decide (0 < k.grace))<;>simp
          | false=>
            cases h2:(k.kind == 2) with
            | true=>simp
            | false=>
              cases h3:(k.kind == 3) with
              | true=>simp
              | false=>
                have h4:(k.kind == 4)=true:=beq_iff_eq.2 (by have:=kv.kind;have:=beq_eq_false_iff_ne.1 h1;have:=beq_eq_false_iff_ne.1 h2;have:=beq_eq_false_iff_ne.1 h3;omega)
                simp [h4]
def jF (act:Int) (k:ClauseT) (m:MarkT):MarkT:=
  bif qv m then (bif act == k.pause then {m with paused:=true} else bif act == k.resume then {m with paused:=false} else m) else m
def X9 (k:ClauseT) (m:MarkT):MarkT:=bif m.got+1 == k.need then kC 3 {m with got:=m.got+1} else {m with got:=m.got+1}
def JV (k:ClauseT) (m:MarkT):MarkT:=bif k.kind == 1 then X9 k m else bif k.kind == 2 then (bif m.paused then m else kC 4 m) else kC 3 m
def ve (act by_:Int) (k:ClauseT) (m:MarkT):MarkT:=bif qv m then (bif k.act == act&&(k.kind == 4||m.bearer == by_) then JV k m else m) else m
def Ja (a:ActT) (k:ClauseT) (m:MarkT):MarkT:=bif qv m then (bif !(k.kind == 4)&&k.role == a.give then {m with bearer:=a.to} else m) else m
def qS (hs:List Int) (a:ActT):Int:=bif a.role == -1 then -1 else hs[a.role.toNat]?.getD 0
theorem zhs (c:ContractT) (s:StateT) (i:Nat) (a:ActT) (ha:c.acts[i]?=some a) (h:a.role = -1∨(0≤a.role∧a.role < s.holders.length)):kS c s i=some (qS s.holders a):=by
  unfold kS qS
  simp only [zD ha,Option.bind_some]
  cases hr:(a.role == -1) with
  | true=>rfl
  | false=>
    have h1:=beq_eq_false_iff_ne.1 hr
    obtain ⟨h2,h3⟩:=qw (l:=s.holders) (n:=a.role) (by omega) (by omega)
    simp only [cond_false,h3,Option.bind_some,List.getElem?_eq_getElem h2,Option.getD_some]
theorem zdx {c:ContractT} {i:Nat} {k:ClauseT} {m:MarkT} {act:Int} (ha:0≤act) (kv:KV c i k) (h:qN c.parties k m=true):qN c.parties k (jF act k m)=true:=by
  unfold jF
  cases hr:qv m with
  | false=>exact h
  | true=>
    obtain ⟨rv,hb,hs⟩:=xx kv h hr
    obtain ⟨b1,b2,b3,b4,b5⟩:=qG.1 hb
    simp only [cond_true]
    cases h1:(act == k.pause) with
    | true=>exact yo hs (qG.2 ⟨b1,b2,fun _=>by have:=beq_iff_eq.1 h1;omega,b4,b5⟩)
    | false=>
      cases h2:(act == k.resume) with
      | true=>exact yo hs (qG.2 ⟨b1,b2,fun h=>absurd (show false=true from h) (by decide),b4,b5⟩)
      | false=>exact h
theorem zfZ {c:ContractT} {i:Nat} {k:ClauseT} {m:MarkT} {act by_:Int} (hp:0 < c.parties) (kv:KV c i k) (h:qN c.parties k m=true):qN c.parties k (ve act by_ k m)=true:=by
  unfold ve
  cases hr:qv m with
  | false=>exact h
  | true=>
    obtain ⟨rv,hb,hs⟩:=xx kv h hr
    obtain ⟨b1,b2,b3,b4,b5⟩:=qG.1 hb
    simp only [cond_true]
    cases h1:(k.act == act&&(k.kind == 4||m.bearer == by_)) with
    | false=>exact h
    | true=>
      simp only [cond_true,JV]
      have hn:=kv.need
      cases h2:(k.kind == 1) with
      | true=>
        have hk:=beq_iff_eq.1 h2
        simp only [cond_true,X9]
        cases h3:(m.got+1 == k.need) with
        | true=>
          have h3':=beq_iff_eq.1 h3
          refine ju.2 (.inr (.inr (.inr ⟨.inl rfl,?_⟩)))
          have e1:decide (0≤m.got+1)=true:=decide_eq_true (by omega)
          have e2:decide (m.got+1≤9)=true:=decide_eq_true (by omega)
          have e3:decide (-1≤m.bearer)=true:=decide_eq_true (by omega)
          have e4:decide (m.bearer < c.parties)=true:=decide_eq_true (by omega)
          show ((0:Int) == 0&&(decide (0≤m.got+1)&&(decide (m.got+1≤9)&&(decide (-1≤m.bearer)&&(decide (m.bearer < c.parties) && !false)))))=true
          rw [e1,e2,e3,e4];rfl
        | false=>
          have h3':=beq_eq_false_iff_ne.1 h3
          refine yo hs (qG.2 ⟨b1,b2,b3,.inr ⟨hk,?_,?_⟩,b5⟩)
          · show 0≤m.got+1;omega
          · show m.got+1 < k.need;omega
      | false=>
        simp only [cond_false]
        cases h3:(k.kind == 2) with
        | true=>
          simp only [cond_true]
          cases m.paused with
          | true=>exact h
          | false=>exact kU kv rv hp (by omega)
        | false=>exact kU kv rv hp (by omega)
theorem zeC {c:ContractT} {i:Nat} {k:ClauseT} {m:MarkT} {a:ActT} (kv:KV c i k) (ht:0≤a.to∧a.to < c.parties) (h:qN c.parties k m=true):qN c.parties k (Ja a k m)=true:=by
  unfold Ja
  cases hr:qv m with
  | false=>exact h
  | true=>
    obtain ⟨rv,hb,hs⟩:=xx kv h hr
    obtain ⟨b1,b2,b3,b4,b5⟩:=qG.1 hb
    simp only [cond_true]
    cases h1:(!(k.kind == 4)&&k.role == a.give) with
    | false=>exact h
    | true=>
      simp only [Bool.and_eq_true,Bool.not_eq_true',beq_eq_false_iff_ne] at h1
      exact yo hs (qG.2 ⟨b1,b2,b3,b4,.inr ⟨h1.1,ht.1,ht.2⟩⟩)
def ms1 (c:ContractT) (act:Int) (ms:List MarkT):List MarkT:=ms.mapIdx (atK c (jF act))
def ms2 (c:ContractT) (act:Int) (a:ActT) (hs:List Int) (ms:List MarkT):List MarkT:=(ms1 c act ms).mapIdx (atK c (ve act (qS hs a)))
def ms3 (c:ContractT) (act:Int) (a:ActT) (hs:List Int) (ms:List MarkT):List MarkT:=bif a.kind == 3 then (ms2 c act a hs ms).mapIdx (atK c (Ja a)) else ms2 c act a hs ms
def hs3 (a:ActT) (hs:List Int):List Int:=bif a.kind == 1 then hs else hs.set a.give.toNat a.to
def us3 (i:Nat) (a:ActT) (us:List Bool):List Bool:=bif a.kind == 1 then us else us.set i true
theorem Kn {c:ContractT} {act:Int} {ms:List MarkT} (ho:c.off.length < 4611686018427387904) (hv:(zN c).1=0) (ha:0≤act) (hm:MOk c ms):MOk c (ms1 c act ms):=
  hm.mapIdx _ fun i k m hk h=>zdx ha (xw ho hv hk) h
theorem Ko {c:ContractT} {act:Int} {a:ActT} {hs:List Int} {ms:List MarkT} (ho:c.off.length < 4611686018427387904) (hv:(zN c).1=0) (ha:0≤act) (hm:MOk c ms):MOk c (ms2 c act a hs ms):=
  (Kn ho hv ha hm).mapIdx _ fun i k m hk h=>zfZ (by have:=(qM ho hv).parties;omega) (xw ho hv hk) h
theorem zht {c:ContractT} {act:Int} {a:ActT} {hs:List Int} {ms:List MarkT} (ho:c.off.length < 4611686018427387904) (hv:(zN c).1=0) (ha:0≤act) (av:AV2 c a) (hm:MOk c ms):MOk c (ms3 c act a hs ms):=by
  unfold ms3
  cases h3:(a.kind == 3) with
  | false=>exact Ko ho hv ha hm
  | true=>
    refine (Ko ho hv ha hm).mapIdx _ fun i k m hk h=>zeC (xw ho hv hk) ?_ h
    have:=beq_iff_eq.1 h3
    have:=av.kind
    omega
theorem zhu (c:ContractT) (day:Int) (hs:List Int) (us:List Bool) (ms:List MarkT) (i:Nat) (a:ActT) (ho:c.off.length < 4611686018427387904) (hv:(zN c).1=0) (hh:hs.length=c.holders.length) (hu:us.length=c.acts.length)
    (ha:c.acts[i]?=some a) (hm:MOk c ms) :
    Zy i c day hs hs.length us us.length ms ms.length=(bif !(a.kind == 1)&&us[i]?.getD false then some (hs,us,ms) else
      (wA c day (hs3 a hs) (us3 i a us) (ms3 c i a hs ms)).bind fun r=>some (hs3 a hs,us3 i a us,r)):=by
  have sm:=qM ho hv
  have hcl:=sm.clauses
  have hl:=hm.1
  have av:=X7 hv ha
  have hia:i < c.acts.length:=(List.getElem?_eq_some_iff.1 ha).1
  have hiu:i < us.length:=by omega
  unfold Zy
  have eU:(bif a.kind == 1 then some false else (Option.bind (zl us.length (i:Int)) fun k1=>(Option.bind (us[k1]?) fun e2=>some e2)))=some (!(a.kind == 1)&&us[i]?.getD false):=by
    simp only [zV hiu,Option.bind_some,List.getElem?_eq_getElem hiu,Option.getD_some]
    cases (a.kind == 1)<;>rfl
  simp only [zD ha,Option.bind_some]
  rw [eU]
  simp only [Option.bind_some]
  cases hearly:(!(a.kind == 1)&&us[i]?.getD false) with
  | true=>rfl
  | false=>
    simp only [cond_false,jP,Option.bind_some]
    rw [xJ ms (atK c (jF i)) (by omega) ?p1]
    case p1=>
      intro j m s h1 h2 h3
      have hj:j < ms.length:=(List.getElem?_eq_some_iff.1 h1).1
      have hk:=List.getElem?_eq_getElem (show j < c.clauses.length by omega)
      simp only [zV hj,Option.bind_some,h3,ko,atK,hk,jF]
      generalize c.clauses[j]=k at hk
      cases hrn:qv m with
      | false=>simp only [cond_false,Option.bind_some,jv h3]
      | true=>
        simp only [cond_true,zD hk,Option.bind_some]
        cases ((i:Int) == k.pause) with
        | true=>simp only [cond_true,Option.bind_some,Bool.not_true,cond_false]
        | false=>
          simp only [cond_false]
          cases ((i:Int) == k.resume) with
          | true=>simp only [cond_true,Option.bind_some,Bool.not_true,cond_false]
          | false=>simp only [cond_false,Option.bind_some,Bool.not_true,jv h3]
    simp only [Option.bind_some,Sum.elim_inl]
    show Option.bind (eqN hs.length hs.length) _=_
    simp only [ZB,Option.bind_some,wB (show ms.length=(ms.mapIdx (atK c (jF (i:Int)))).length by simp)]
    rw [zhs c _ i a ha (by have:=av.role;simp only;omega)]
    simp only [Option.bind_some]
    have m1ok:=Kn (act:=(i:Int)) ho hv (by omega) hm
    have hlen1:(ms.length:Int)=((ms1 c i ms).length:Int):=by simp [ms1]
    show Option.bind (Option.bind (forR (ms.length:Int) _ (ms1 c i ms)) _) _=_
    rw [hlen1]
    rw [xJ (ms1 c i ms) (atK c (ve i (qS hs a))) (by simp [ms1];omega) ?p2]
    case p2=>
      intro j m s h1 h2 h3
      have hj1:j < (ms1 c i ms).length:=(List.getElem?_eq_some_iff.1 h1).1
      have hj:j < ms.length:=by simpa [ms1] using hj1
      have hk:=List.getElem?_eq_getElem (show j < c.clauses.length by omega)
      have kv:=xw ho hv hk
      have hmk:=m1ok.2 j _ _ hk h1
      simp only [zV hj,Option.bind_some,h3,ko,atK,hk,ve]
      generalize c.clauses[j]=k at hk kv hmk
      cases hrn:qv m with
      | false=>simp only [cond_false,Option.bind_some,jv h3]
      | true=>
        obtain ⟨rv,hb,hst⟩:=xx kv hmk hrn
        simp only [cond_true,zD hk,Option.bind_some]
        have eT:(bif k.act == (i:Int) then (bif k.kind == 4 then some true else some (m.bearer == qS hs a)) else some false)=some (k.act == (i:Int)&&(k.kind == 4||m.bearer == qS hs a)):=by
          cases (k.act == (i:Int))<;>cases (k.kind == 4)<;>rfl
        rw [eT]
        simp only [Option.bind_some]
        cases (k.act == (i:Int)&&(k.kind == 4||m.bearer == qS hs a)) with
        | false=>simp only [cond_false,Option.bind_some,Bool.not_true,jv h3]
        | true=>
          have hgot:=rv.got
          have hneed:=kv.need
          have hk0:(k.kind == 0)=false:=beq_eq_false_iff_ne.2 (by have:=kv.kind;omega)
          simp only [cond_true,hk0,cond_false,XQ,XP,xQ,zV hj,Option.bind_some,h3,wg h3,zD hk,JV,X9]
          rw [qC (show -9223372036854775808≤m.got+1 by omega) (by omega)]
          rw [Q9 j 3 _ _ _ _ _ _ _ _ _ hj h3,Q9 j 3 _ _ _ _ _ _ _ _ _ hj (wg h3),Q9 j 4 _ _ _ _ _ _ _ _ _ hj h3]
          simp only [Option.bind_some,List.set_set]
          cases e1:(k.kind == 1) with
          | true=>cases (m.got+1 == k.need)<;>simp
          | false=>
            cases e2:(k.kind == 2) with
            | true=>cases m.paused<;>simp [jv h3]
            | false=>
              cases e3:(k.kind == 3) with
              | true=>simp
              | false=>
                have h4:(k.kind == 4)=true:=beq_iff_eq.2 (by have:=kv.kind;have:=beq_eq_false_iff_ne.1 e1;have:=beq_eq_false_iff_ne.1 e2;have:=beq_eq_false_iff_ne.1 e3;omega)
                simp [h4]
    simp only [Option.bind_some,Sum.elim_inl]
    show Option.bind (bif a.kind == 1 then some (hs,us,ms2 c i a hs ms) else _) _=_
    have m2ok:=Ko (act:=(i:Int)) (a:=a) (hs:=hs) ho hv (by omega) hm
    cases h1:(a.kind == 1) with
    | true=>
      have h3:(a.kind == 3)=false:=beq_eq_false_iff_ne.2 (by have:=beq_iff_eq.1 h1;omega)
      simp only [cond_true,Option.bind_some,hs3,us3,ms3,h1,h3,cond_false]
      unfold wA
      rw [show (ms2 c i a hs ms).length=ms.length by simp [ms2,ms1]]
    | false=>
      have hak:=av.kind.resolve_left (beq_eq_false_iff_ne.1 h1)
      have hg:a.give.toNat < hs.length:=by omega
      simp only [cond_false,XR,zD ha,Option.bind_some]
      rw [zaz (show 0≤a.give by omega) (by omega),zV hiu]
      simp only [Option.bind_some,List.getElem?_eq_getElem hg,List.getElem?_eq_getElem hiu,jP,hs3,us3,ms3,h1,cond_false]
      cases h3:(a.kind == 3) with
      | false=>
        simp only [cond_false,Option.bind_some]
        unfold wA
        rw [show (ms2 c i a hs ms).length=ms.length by simp [ms2,ms1],List.length_set,List.length_set]
        rfl
      | true=>
        simp only [cond_true]
        have hlen2:(ms.length:Int)=((ms2 c i a hs ms).length:Int):=by simp [ms2,ms1]
        rw [hlen2,show List.mapIdx (atK c (ve (i:Int) (qS hs a))) (ms1 c i ms)=ms2 c i a hs ms from rfl]
        rw [xJ (ms2 c i a hs ms) (atK c (Ja a)) (by simp [ms2,ms1];omega) ?p3]
        case p3=>
          intro j m s h1 h2 h3
          have hj1:j < (ms2 c i a hs ms).length:=(List.getElem?_eq_some_iff.1 h1).1
          have hj:j < ms.length:=by simpa [ms2,ms1] using hj1
          have hk:=List.getElem?_eq_getElem (show j < c.clauses.length by omega)
          simp only [zV hj,Option.bind_some,h3,ko,atK,hk,Ja]
          generalize c.clauses[j]=k at hk
          cases hrn:qv m with
          | false=>simp only [cond_false,Option.bind_some,jv h3]
          | true=>
            simp only [cond_true,zD hk,Option.bind_some]
            cases (k.kind == 4) with
            | true=>simp only [cond_true,Option.bind_some,Bool.not_true,Bool.false_and,cond_false,jv h3]
            | false=>
              simp only [cond_false,Option.bind_some,Bool.not_false,Bool.true_and]
              cases (k.role == a.give) with
              | true=>simp only [cond_true,Option.bind_some,Bool.not_true,cond_false]
              | false=>simp only [cond_false,Option.bind_some,Bool.not_true,jv h3]
        simp only [Option.bind_some,Sum.elim_inl]
        unfold wA
        rw [show ((ms2 c i a hs ms).mapIdx (atK c (Ja a))).length=ms.length by simp [ms2,ms1],List.length_set,List.length_set]
end Go.Proofs.YtmoedieenlaegaaGreatDoor
