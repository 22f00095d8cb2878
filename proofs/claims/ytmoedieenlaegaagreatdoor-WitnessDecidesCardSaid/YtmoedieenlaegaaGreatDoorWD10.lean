/-
  Functions of the program: what they compute, and plans of their code that the kernel checks (printed by a program of ours).
  What 'contract.Valid' comes to.
  What Valid says.
  What 'slices.BinarySearch' comes to; sizes of valid contracts.
  What 'system.Valid' comes to.
  What is known of a valid contract; what 'start' does.
  What 'system.Step' does.
-/
import Derived.Test.YtmoedieenlaegaaGreatDoorWD09
import Derived.Test.YtmoedieenlaegaaGreatDoorWD06
namespace Go.Proofs.YtmoedieenlaegaaGreatDoor
open Go.RowKit
set_option linter.unusedSimpArgs false
set_option linter.unusedVariables false
set_option maxRecDepth 100000
noncomputable def ZQ (p1:List Int) (p2:PosT) (p3:ContractT) (p4:Int) (p5:List (ByteArray×Int)):Option Bool:=
  (Option.bind (Jf p1 p2 p3 p4 p5) fun r1=>some (decide (0≤r1)))
noncomputable def ziP (p1:List Int) (p2:PosT) (p3:ContractT) (p4:Int) (p5:List (ByteArray×Int)):Plan Bool:=
  .reg 1 (.b1 2038 (Jf p1 p2 p3 p4 p5) (fun r1=>.c [0,1,2,3,4] 5 (vI r1) [] 0) (fun r1 hr1=>(zi (ziO p1 p2 p3 p4 p5 r1 hr1) [0,1,2,3,4] 8 (.drop rfl rfl (.drop rfl rfl (.drop rfl rfl (.drop rfl rfl (.drop rfl rfl .nil))))) (rhI (rhR (rhR (rhR (rhM rhN))))) rhN)) fun r1=>.use 2 2038 (.ret (decide (0≤r1))))
theorem ziQ (p1:List Int) (p2:PosT) (p3:ContractT) (p4:Int) (p5:List (ByteArray×Int)) (res:Bool) (hd:ZQ p1 p2 p3 p4 p5=some res):DOk C0 26 [.mslice 0 0 p1.length,.func 231 [] [.ptr 1 0 0,.ptr 2 0 0]] [(0,.rows 1 (zc zb p1)),(1,.rows 1 [[.ptr 3 0 0]]),(2,.rows 5 [zn (PosT.row p2)]),(3,.rows 9 [[vI p3.parties,.imm (.slice (List.map zb p3.holders)),.imm (.slice (List.map UnitT.row p3.units)),.imm (.slice (List.map ActT.row p3.acts)),.imm (.slice (List.map ClauseT.row p3.clauses)),vI p3.days,.imm (.slice (List.map zb p3.off)),vI p4,.map 4]]),(4,.map (zl IV.str IV.i64 p5))] 5 (vB res) [(0,.rows 1 (zc zb p1)),(1,.rows 1 [[.ptr 3 0 0]]),(2,.rows 5 [zn (PosT.row p2)]),(3,.rows 9 [[vI p3.parties,.imm (.slice (List.map zb p3.holders)),.imm (.slice (List.map UnitT.row p3.units)),.imm (.slice (List.map ActT.row p3.acts)),.imm (.slice (List.map ClauseT.row p3.clauses)),vI p3.days,.imm (.slice (List.map zb p3.off)),vI p4,.map 4]]),(4,.map (zl IV.str IV.i64 p5))] 0:=
  Plan.det (R:=fun res=>vB res) (H:=fun res=>[(0,.rows 1 (zc zb p1)),(1,.rows 1 [[.ptr 3 0 0]]),(2,.rows 5 [zn (PosT.row p2)]),(3,.rows 9 [[vI p3.parties,.imm (.slice (List.map zb p3.holders)),.imm (.slice (List.map UnitT.row p3.units)),.imm (.slice (List.map ActT.row p3.acts)),.imm (.slice (List.map ClauseT.row p3.clauses)),vI p3.days,.imm (.slice (List.map zb p3.off)),vI p4,.map 4]]),(4,.map (zl IV.str IV.i64 p5))]) (ziP p1 p2 p3 p4 p5) (.rows rfl (.exp rfl rfl (.exp rfl rfl (.exp rfl rfl (.ents rfl .nil))))) (fun _=>(.rows rfl (.exp rfl rfl (.exp rfl rfl (.exp rfl rfl (.ents rfl .nil)))))) (by kernel_rfl) (fun _=>by kernel_rfl) (by kernel_rfl) (Plan.run_of hd (by kernel_rfl))
noncomputable def Jg (p1:List Int) (p2:PosT) (p3:ContractT) (p4:Int) (p5:List (ByteArray×Int)):Option Int:=
  (Option.bind (forR (σ:=Unit) (ρ:=Int) (p1.length:Int) (fun i1 s1=>(Option.bind (ze p1 (i1:Int)) fun e1=>(Option.bind (wD e1 p2 p3 p4 p5) fun r1=>(bif r1 then some (.inr (i1:Int)) else some (.inl ()))))) ()) (Sum.elim (fun (s1:Unit)=>some (-1)) (fun (y1:Int)=>some y1)))
noncomputable def ziR (p1:List Int) (p2:PosT) (p3:ContractT) (p4:Int) (p5:List (ByteArray×Int)):Plan Int:=
  .reg 1 (.ln 2048 zb p1 (.use 1 2048 (.forR (σ:=Unit) (ρ:=Int) 2040 8 (p1.length:Int) () (.k [0,1,7] (fun _=>[]) [0,1,2] (fun _=>[(3,.map (zl IV.str IV.i64 p5))]) 8 fun _=>(.ents rfl .nil)) (fun i1 s1=>.sel 2040 (.reg 1 (.ix 2044 zb p1 (i1:Int) fun e1=>.b1 2046 (wD e1 p2 p3 p4 p5) (fun r1=>.c [0,1,2,3] 4 (vB r1) [] 0) (fun r1 hr1=>(zi (zdn e1 p2 p3 p4 p5 r1 hr1) [0,1,2,3] 16 (.drop rfl rfl (.drop rfl rfl (.drop rfl rfl (.drop rfl rfl .nil)))) (rhR (rhR (rhR (rhM rhN)))) rhN)) fun r1=>.us [(3,2044),(5,2046)] (.ite 2042 r1 (.sel 2042 (.ret (.inr (i1:Int)))) (.sel 2042 (.ret (.inl ()))))))) fun os1=>.case os1 (fun s1=>.sel 2040 (.ret (-1))) fun y1=>.ret y1)))
theorem ziS (p1:List Int) (p2:PosT) (p3:ContractT) (p4:Int) (p5:List (ByteArray×Int)) (res:Int) (hd:Jg p1 p2 p3 p4 p5=some res):DOk C0 49 [.imm (.slice (List.map zb p1)),.func 231 [] [.ptr 0 0 0,.ptr 1 0 0]] [(0,.rows 1 [[.ptr 2 0 0]]),(1,.rows 5 [zn (PosT.row p2)]),(2,.rows 9 [[vI p3.parties,.imm (.slice (List.map zb p3.holders)),.imm (.slice (List.map UnitT.row p3.units)),.imm (.slice (List.map ActT.row p3.acts)),.imm (.slice (List.map ClauseT.row p3.clauses)),vI p3.days,.imm (.slice (List.map zb p3.off)),vI p4,.map 3]]),(3,.map (zl IV.str IV.i64 p5))] 4 (vI res) [(0,.rows 1 [[.ptr 2 0 0]]),(1,.rows 5 [zn (PosT.row p2)]),(2,.rows 9 [[vI p3.parties,.imm (.slice (List.map zb p3.holders)),.imm (.slice (List.map UnitT.row p3.units)),.imm (.slice (List.map ActT.row p3.acts)),.imm (.slice (List.map ClauseT.row p3.clauses)),vI p3.days,.imm (.slice (List.map zb p3.off)),vI p4,.map 3]]),(3,.map (zl IV.str IV.i64 p5))] 0:=
  Plan.det (R:=fun res=>vI res) (H:=fun res=>[(0,.rows 1 [[.ptr 2 0 0]]),(1,.rows 5 [zn (PosT.row p2)]),(2,.rows 9 [[vI p3.parties,.imm (.slice (List.map zb p3.holders)),.imm (.slice (List.map UnitT.row p3.units)),.imm (.slice (List.map ActT.row p3.acts)),.imm (.slice (List.map ClauseT.row p3.clauses)),vI p3.days,.imm (.slice (List.map zb p3.off)),vI p4,.map 3]]),(3,.map (zl IV.str IV.i64 p5))]) (ziR p1 p2 p3 p4 p5) (.exp rfl rfl (.exp rfl rfl (.exp rfl rfl (.ents rfl .nil)))) (fun _=>(.exp rfl rfl (.exp rfl rfl (.exp rfl rfl (.ents rfl .nil))))) (by kernel_rfl) (fun _=>by kernel_rfl) (by kernel_rfl) (Plan.run_of hd (by kernel_rfl))
noncomputable def ZR (p1:List Int) (p2:PosT) (p3:ContractT) (p4:Int) (p5:List (ByteArray×Int)):Option Bool:=
  (Option.bind (Jg p1 p2 p3 p4 p5) fun r1=>some (decide (0≤r1)))
noncomputable def ziT (p1:List Int) (p2:PosT) (p3:ContractT) (p4:Int) (p5:List (ByteArray×Int)):Plan Bool:=
  .reg 1 (.b1 2050 (Jg p1 p2 p3 p4 p5) (fun r1=>.c [0,1,2,3] 4 (vI r1) [] 0) (fun r1 hr1=>(zi (ziS p1 p2 p3 p4 p5 r1 hr1) [0,1,2,3] 7 (.drop rfl rfl (.drop rfl rfl (.drop rfl rfl (.drop rfl rfl .nil)))) (rhR (rhR (rhR (rhM rhN)))) rhN)) fun r1=>.use 2 2050 (.ret (decide (0≤r1))))
theorem ziU (p1:List Int) (p2:PosT) (p3:ContractT) (p4:Int) (p5:List (ByteArray×Int)) (res:Bool) (hd:ZR p1 p2 p3 p4 p5=some res):DOk C0 26 [.imm (.slice (List.map zb p1)),.func 231 [] [.ptr 0 0 0,.ptr 1 0 0]] [(0,.rows 1 [[.ptr 2 0 0]]),(1,.rows 5 [zn (PosT.row p2)]),(2,.rows 9 [[vI p3.parties,.imm (.slice (List.map zb p3.holders)),.imm (.slice (List.map UnitT.row p3.units)),.imm (.slice (List.map ActT.row p3.acts)),.imm (.slice (List.map ClauseT.row p3.clauses)),vI p3.days,.imm (.slice (List.map zb p3.off)),vI p4,.map 3]]),(3,.map (zl IV.str IV.i64 p5))] 4 (vB res) [(0,.rows 1 [[.ptr 2 0 0]]),(1,.rows 5 [zn (PosT.row p2)]),(2,.rows 9 [[vI p3.parties,.imm (.slice (List.map zb p3.holders)),.imm (.slice (List.map UnitT.row p3.units)),.imm (.slice (List.map ActT.row p3.acts)),.imm (.slice (List.map ClauseT.row p3.clauses)),vI p3.days,.imm (.slice (List.map zb p3.off)),vI p4,.map 3]]),(3,.map (zl IV.str IV.i64 p5))] 0:=
  Plan.det (R:=fun res=>vB res) (H:=fun res=>[(0,.rows 1 [[.ptr 2 0 0]]),(1,.rows 5 [zn (PosT.row p2)]),(2,.rows 9 [[vI p3.parties,.imm (.slice (List.map zb p3.holders)),.imm (.slice (List.map UnitT.row p3.units)),.imm (.slice (List.map ActT.row p3.acts)),.imm (.slice (List.map ClauseT.row p3.clauses)),vI p3.days,.imm (.slice (List.map zb p3.off)),vI p4,.map 3]]),(3,.map (zl IV.str IV.i64 p5))]) (ziT p1 p2 p3 p4 p5) (.exp rfl rfl (.exp rfl rfl (.exp rfl rfl (.ents rfl .nil)))) (fun _=>(.exp rfl rfl (.exp rfl rfl (.exp rfl rfl (.ents rfl .nil))))) (by kernel_rfl) (fun _=>by kernel_rfl) (by kernel_rfl) (Plan.run_of hd (by kernel_rfl))
noncomputable def yQ (p1:ShieldW) (p2:Int) (p3:ContractT) (p4:Int) (p5:List (ByteArray×Int)):Option Bool:=
  (Option.bind (ze p1.s.rows p2) fun e1=>(Option.bind (xY p3 e1.position.state p4) fun r1=>(bif r1 then some false else (Option.bind (wB e1.position p3 p4 p5) fun r2=>(bif e1.position.own then (Option.bind (jS r2 e1.move) fun r3=>(bif r3 then (Option.bind (ZQ [e1.move] e1.position p3 p4 p5) fun r4=>some (!r4)) else some false)) else (Option.bind (ZR r2 e1.position p3 p4 p5) fun r5=>some (!r5)))))))
noncomputable def zha (p1:ShieldW) (p2:Int) (p3:ContractT) (p4:Int) (p5:List (ByteArray×Int)):Plan Bool:=
  .reg 1 (.ix 2052 ShieldRowT.row p1.s.rows p2 fun e1=>.us [(4,2052),(11,2052)] (.reg 0 (.call 2054 (Kg p3 e1.position.state p4) fun r1=>.use 10 2054 (.ite 1944 r1 (.sel 1944 (.ret false)) (.sel 1944 (.reg 0 (.b1 2056 (wB e1.position p3 p4 p5) (fun r2=>.c [0,1] 2 (.imm (.slice (List.map zb r2))) [] 0) (fun r2 hr2=>(zi (zdl e1.position p3 p4 p5 r2 hr2) [0,1] 35 (.drop rfl rfl (.drop rfl rfl .nil)) (rhR (rhM rhN)) rhN)) fun r2=>.use 2 2056 (.ite 2004 e1.position.own (.sel 2004 (.reg 0 (.call 2058 (X3 r2 e1.move) fun r3=>.use 2 2058 (.ite 2016 r3 (.sel 2017 (.reg 1 (.b1 2060 (ZQ [e1.move] e1.position p3 p4 p5) (fun r4=>.c [44,3,19,0,1] 5 (vB r4) [] 0) (fun r4 hr4=>(zi (ziQ [e1.move] e1.position p3 p4 p5 r4 hr4) [44,3,19,0,1] 48 (.drop rfl rfl (.drop rfl rfl (.drop rfl rfl (.drop rfl rfl (.drop rfl rfl .nil))))) (rhI (rhR (rhR (rhR (rhM rhN))))) rhN)) fun r4=>.use 2 2060 (.ret (!r4))))) (.sel 2017 (.ret false)))))) (.sel 2004 (.reg 0 (.b1 2062 (ZR r2 e1.position p3 p4 p5) (fun r5=>.c [3,19,0,1] 4 (vB r5) [] 0) (fun r5 hr5=>(zi (ziU r2 e1.position p3 p4 p5 r5 hr5) [3,19,0,1] 41 (.drop rfl rfl (.drop rfl rfl (.drop rfl rfl (.drop rfl rfl .nil)))) (rhR (rhR (rhR (rhM rhN)))) rhN)) fun r5=>.use 2 2062 (.ret (!r5)))))))))))))
theorem zhb (p1:ShieldW) (p2:Int) (p3:ContractT) (p4:Int) (p5:List (ByteArray×Int)) (res:Bool) (hd:yQ p1 p2 p3 p4 p5=some res):DOk C0 230 [.imm (.agg (ShieldW.row p1)),.ptr 0 0 0,vI p2] [(0,.rows 9 [[vI p3.parties,.imm (.slice (List.map zb p3.holders)),.imm (.slice (List.map UnitT.row p3.units)),.imm (.slice (List.map ActT.row p3.acts)),.imm (.slice (List.map ClauseT.row p3.clauses)),vI p3.days,.imm (.slice (List.map zb p3.off)),vI p4,.map 1]]),(1,.map (zl IV.str IV.i64 p5))] 2 (vB res) [(0,.rows 9 [[vI p3.parties,.imm (.slice (List.map zb p3.holders)),.imm (.slice (List.map UnitT.row p3.units)),.imm (.slice (List.map ActT.row p3.acts)),.imm (.slice (List.map ClauseT.row p3.clauses)),vI p3.days,.imm (.slice (List.map zb p3.off)),vI p4,.map 1]]),(1,.map (zl IV.str IV.i64 p5))] 0:=
  Plan.det (R:=fun res=>vB res) (H:=fun res=>[(0,.rows 9 [[vI p3.parties,.imm (.slice (List.map zb p3.holders)),.imm (.slice (List.map UnitT.row p3.units)),.imm (.slice (List.map ActT.row p3.acts)),.imm (.slice (List.map ClauseT.row p3.clauses)),vI p3.days,.imm (.slice (List.map zb p3.off)),vI p4,.map 1]]),(1,.map (zl IV.str IV.i64 p5))]) (zha p1 p2 p3 p4 p5) (.exp rfl rfl (.ents rfl .nil)) (fun _=>(.exp rfl rfl (.ents rfl .nil))) (by kernel_rfl) (fun _=>by kernel_rfl) (by kernel_rfl) (Plan.run_of hd (by kernel_rfl))
noncomputable def Zg (p1:ContractT) (p2:ShieldW):Option Bool:=
  (Option.bind (QE p2) fun r1=>(Option.bind (bif decide (r1 < 0) then some true else (bif decide (p1.parties≤r1) then some true else (Option.bind (jv p2) fun r2=>(bif decide (r2 < 1) then some true else (Option.bind (jv p2) fun r3=>some (decide (1500 < r3))))))) fun v1=>(bif v1 then some false else (Option.bind (jv p2) fun r4=>(Option.bind (forR (σ:=(List (ByteArray×Int))) (ρ:=Unit) r4 (fun i1 s1=>(Option.bind (α:=(List (ByteArray×Int)) ⊕ Unit) (Option.bind (Zf p2 (i1:Int)) fun r5=>(Option.bind (qP p1 r5.1.state) fun r6=>(bif r6 then (Option.bind (qK r5.1) fun r7=>(Option.bind (bif ((zq r7 s1).isSome) then some (decide (r5.2 < ((zq r7 s1).getD 0))) else some true) fun v2=>(bif v2 then some (.inl (zX r7 r5.2 s1)) else some (.inl s1)))) else some (.inr ())))) (Sum.elim (fun (v3:(List (ByteArray×Int)))=>some (.inl v3)) (fun (y1:Unit)=>some (.inr ()))))) []) (Sum.elim (fun (s1:(List (ByteArray×Int)))=>(Option.bind (jv p2) fun r8=>(Option.bind (forR (σ:=Unit) (ρ:=Unit) r8 (fun i2 s2=>(Option.bind (yQ p2 (i2:Int) p1 r1 s1) fun r9=>(bif r9 then some (.inl ()) else some (.inr ())))) ()) (Sum.elim (fun (s2:Unit)=>some true) (fun (y3:Unit)=>some false))))) (fun (y2:Unit)=>some false)))))))
noncomputable def zhc (p1:ContractT) (p2:ShieldW):Plan Bool:=
  .reg 1 (.call 2066 (zdk p2) fun r1=>.use 2 2066 (.cut (β:=Bool) 2 (.e [1,2,5] (fun v1=>[(42,vB v1)]) [0,5,7] 33) (.reg 0 (.ite 1890 (decide (r1 < 0)) (.use 6 1890 (.f1 2070 (.g true) (rfl:true=true) (.use 15 2070 (.f1 2068 (.g true) (rfl:true=true) (.use 20 2068 (.ret true)))))) (.ite 1892 (decide (p1.parties≤r1)) (.us [(6,1890),(15,1892)] (.f1 2072 (.g true) (rfl:true=true) (.use 20 2072 (.ret true)))) (.call 2074 (ZP p2) fun r2=>.ite 1896 (decide (r2 < 1)) (.us [(6,1890),(15,1892),(16,2074),(20,1896)] (.ret true)) (.call 2076 (ZP p2) fun r3=>.us [(6,1890),(15,1892),(16,2074),(20,1896),(21,2076)] (.ret (decide (1500 < r3)))))))) fun v1=>.ite 1898 v1 (.sel 1898 (.ret false)) (.sel 1898 (.reg 0 (.call 2078 (ZP p2) fun r4=>.use 1 2078 (.forR (σ:=(List (ByteArray×Int))) (ρ:=Unit) 1900 45 r4 [] (.k [1,2,5,44] (fun _=>[]) [0,7] (fun s1=>[(5,.map (zl IV.str IV.i64 s1))]) 36 fun _=>(.ents rfl .nil)) (fun i1 s1=>.sel 1900 (.cutO (β:=(List (ByteArray×Int))) (γ:=Unit) 1 (.k [1,2,5,44,45] (fun _=>[]) [0,7] (fun v3=>[(5,.map (zl IV.str IV.i64 v3))]) 74 fun _=>(.ents rfl .nil)) (.reg 1 (.call 2080 (zfQ p2 (i1:Int)) fun r5=>.use 2 2080 (.reg 0 (.call 2082 (wY p1 r5.1.state) fun r6=>.use 3 2082 (.ite 1910 r6 (.sel 1911 (.reg 0 (.call 2084 (WG r5.1) fun r7=>.use 1 2084 (.reg 0 (.f1 2088 (.l (vI ((zq r7 s1).getD 0)) ((zq r7 s1).isSome)) (xv IV.i64 0 r7 s1) (.use 5 2088 (.cut (β:=Bool) 1 (.k [1,2,5,44,45,8,9] (fun v2=>[(76,vB v2)]) [0,7,45] (fun _=>[(5,.map (zl IV.str IV.i64 s1))]) 74 fun _=>(.ents rfl .nil)) (.reg 0 (.ite 1912 ((zq r7 s1).isSome) (.use 3 1913 (.ret (decide (r5.2 < ((zq r7 s1).getD 0))))) (.use 3 1913 (.ret true)))) fun v2=>.ite 1914 v2 (.sel 1914 (.reg 0 (.f1 2086 (.u (zl IV.str IV.i64 (zX r7 r5.2 s1))) (wa IV.i64 r7 r5.2 s1) (.use 6 2086 (.ret (.inl (zX r7 r5.2 s1))))))) (.sel 1914 (.ret (.inl s1)))))))))) (.sel 1911 (.ret (.inr ())))))))) fun o_v3=>.case o_v3 (fun v3=>.ret (.inl v3)) fun y1=>.ret (.inr ()))) fun os1=>.case os1 (fun s1=>.sel 1900 (.reg 0 (.call 2090 (ZP p2) fun r8=>.use 1 2090 (.forR (σ:=Unit) (ρ:=Unit) 1916 86 r8 () (.k [1,5,85] (fun _=>[]) [7] (fun _=>[(5,.map (zl IV.str IV.i64 s1))]) 40 fun _=>(.ents rfl .nil)) (fun i2 s2=>.sel 1916 (.reg 1 (.b1 2092 (yQ p2 (i2:Int) p1 r1 s1) (fun r9=>.c [7,5] 2 (vB r9) [] 0) (fun r9 hr9=>(zi (zhb p2 (i2:Int) p1 r1 s1 r9 hr9) [7,5] 46 (.drop rfl rfl (.drop rfl rfl .nil)) (rhR (rhM rhN)) rhN)) fun r9=>.use 3 2092 (.ite 2064 r9 (.sel 2065 (.ret (.inl ()))) (.sel 2065 (.ret (.inr ()))))))) fun os2=>.case os2 (fun s2=>.sel 1916 (.ret true)) fun y3=>.ret false)))) fun y2=>.ret false))))))
theorem zhd (p1:ContractT) (p2:ShieldW) (res:Bool) (hd:Zg p1 p2=some res):DOk C0 302 [.agg (zn (ContractT.row p1)),.imm (.iface 105 (.agg (ShieldW.row p2)))] [] 0 (vB res) [] 0:=
  Plan.det (R:=fun res=>vB res) (H:=fun res=>[]) (zhc p1 p2) .nil (fun _=>.nil) (by kernel_rfl) (fun _=>by kernel_rfl) (by kernel_rfl) (Plan.run_of hd (by kernel_rfl))
noncomputable def qk (c:ContractT) (s:ShieldT):Option Bool:=
  (Option.bind (Zg c ({s:=s}:ShieldW)) fun r1=>some r1)
noncomputable def VR (c:ContractT) (s:ShieldT):Plan Bool:=
  .reg 1 (.b1 2094 (Zg c ({s:=s}:ShieldW)) (fun r1=>.c [] 0 (vB r1) [] 0) (fun r1 hr1=>(zi (zhd c ({s:=s}:ShieldW) r1 hr1) [] 7 .nil rhN rhN)) fun r1=>.use 4 2094 (.ret r1))
theorem xW (c:ContractT) (s:ShieldT) (res:Bool) (hd:qk c s=some res):APure C0 299 [.agg (ContractT.row c),.agg (ShieldT.row s)] (.bool res):=
  Plan.pure (iv:=fun res=>.bool res) (VR c s) (by kernel_rfl) (Plan.run_of hd (by kernel_rfl))
noncomputable def QF (p:DoomW):Option Int:=
  some p.d.party
noncomputable def zdo (p:DoomW):Plan Int:=
  .ret p.d.party
theorem zdp (p:DoomW) (res:Int) (hd:QF p=some res):APure C0 227 [.agg (DoomW.row p)] (.int .i64 res):=
  Plan.pure (iv:=fun res=>.int .i64 res) (zdo p) (by kernel_rfl) (Plan.run_of hd (by kernel_rfl))
noncomputable def jw (p:DoomW):Option Int:=
  some (p.d.rows.length:Int)
noncomputable def zez (p:DoomW):Plan Int:=
  .reg 1 (.ln 2102 DoomRowT.row p.d.rows (.use 3 2102 (.ret (p.d.rows.length:Int))))
theorem ZS (p:DoomW) (res:Int) (hd:jw p=some res):APure C0 229 [.agg (DoomW.row p)] (.int .i64 res):=
  Plan.pure (iv:=fun res=>.int .i64 res) (zez p) (by kernel_rfl) (Plan.run_of hd (by kernel_rfl))
noncomputable def Zh (p:DoomW) (i:Int):Option (PosT×Int):=
  (Option.bind (ze p.d.rows i) fun e1=>some (e1.position,e1.rank))
noncomputable def zfV (p:DoomW) (i:Int):Plan (PosT×Int):=
  .reg 1 (.ix 2110 DoomRowT.row p.d.rows i fun e1=>.us [(4,2110),(11,2110)] (.ret (e1.position,e1.rank)))
theorem zfW (p:DoomW) (i:Int) (res:PosT×Int) (hd:Zh p i=some res):APure C0 228 [.agg (DoomW.row p),.int .i64 i] (.tuple [.agg (PosT.row res.1),.int .i64 res.2]):=
  Plan.pure (iv:=fun res=>.tuple [.agg (PosT.row res.1),.int .i64 res.2]) (zfV p i) (by kernel_rfl) (Plan.run_of hd (by kernel_rfl))
noncomputable def wE (p1:PosT) (p2:Int) (p3:Int) (p4:ContractT) (p5:Int) (p6:List (ByteArray×Int)):Option Bool:=
  (Option.bind (wC p1 p2 p4 p5 p6) fun r1=>(Option.bind (bif r1.2 then some (decide (r1.1 < p3)) else some false) fun v1=>some v1))
noncomputable def zhe (p1:PosT) (p2:Int) (p3:Int) (p4:ContractT) (p5:Int) (p6:List (ByteArray×Int)):Plan Bool:=
  .reg 1 (.b1 2136 (wC p1 p2 p4 p5 p6) (fun r1=>.c [0,1] 2 (.tuple [vI r1.1,vB r1.2]) [] 0) (fun r1 hr1=>(zi (zdm p1 p2 p4 p5 p6 r1 hr1) [0,1] 7 (.drop rfl rfl (.drop rfl rfl .nil)) (rhR (rhM rhN)) rhN)) fun r1=>.use 3 2136 (.cut (β:=Bool) 1 (.k [] (fun v1=>[(8,vB v1)]) [0,2] (fun _=>[(1,.map (zl IV.str IV.i64 p6))]) 20 fun _=>(.ents rfl .nil)) (.reg 0 (.ite 2134 r1.2 (.use 2 2134 (.ret (decide (r1.1 < p3)))) (.use 2 2134 (.ret false)))) fun v1=>.ret v1))
theorem zdq (p1:PosT) (p2:Int) (p3:Int) (p4:ContractT) (p5:Int) (p6:List (ByteArray×Int)) (res:Bool) (hd:wE p1 p2 p3 p4 p5 p6=some res):DOk C0 223 [.ptr 0 0 0,.agg (zn (PosT.row p1)),vI p2,vI p3] [(0,.rows 9 [[vI p4.parties,.imm (.slice (List.map zb p4.holders)),.imm (.slice (List.map UnitT.row p4.units)),.imm (.slice (List.map ActT.row p4.acts)),.imm (.slice (List.map ClauseT.row p4.clauses)),vI p4.days,.imm (.slice (List.map zb p4.off)),vI p5,.map 1]]),(1,.map (zl IV.str IV.i64 p6))] 2 (vB res) [(0,.rows 9 [[vI p4.parties,.imm (.slice (List.map zb p4.holders)),.imm (.slice (List.map UnitT.row p4.units)),.imm (.slice (List.map ActT.row p4.acts)),.imm (.slice (List.map ClauseT.row p4.clauses)),vI p4.days,.imm (.slice (List.map zb p4.off)),vI p5,.map 1]]),(1,.map (zl IV.str IV.i64 p6))] 0:=
  Plan.det (R:=fun res=>vB res) (H:=fun res=>[(0,.rows 9 [[vI p4.parties,.imm (.slice (List.map zb p4.holders)),.imm (.slice (List.map UnitT.row p4.units)),.imm (.slice (List.map ActT.row p4.acts)),.imm (.slice (List.map ClauseT.row p4.clauses)),vI p4.days,.imm (.slice (List.map zb p4.off)),vI p5,.map 1]]),(1,.map (zl IV.str IV.i64 p6))]) (zhe p1 p2 p3 p4 p5 p6) (.exp rfl rfl (.ents rfl .nil)) (fun _=>(.exp rfl rfl (.ents rfl .nil))) (by kernel_rfl) (fun _=>by kernel_rfl) (by kernel_rfl) (Plan.run_of hd (by kernel_rfl))
noncomputable def Zi (p1:Int) (p2:PosT) (p3:Int) (p4:ContractT) (p5:Int) (p6:List (ByteArray×Int)):Option Bool:=
  (Option.bind (wE p2 p1 p3 p4 p5 p6) fun r1=>some (!r1))
noncomputable def zhf (p1:Int) (p2:PosT) (p3:Int) (p4:ContractT) (p5:Int) (p6:List (ByteArray×Int)):Plan Bool:=
  .reg 1 (.b1 2140 (wE p2 p1 p3 p4 p5 p6) (fun r1=>.c [3,4] 2 (vB r1) [] 0) (fun r1 hr1=>(zi (zdq p2 p1 p3 p4 p5 p6 r1 hr1) [3,4] 10 (.drop rfl rfl (.drop rfl rfl .nil)) (rhR (rhM rhN)) rhN)) fun r1=>.use 4 2140 (.ret (!r1)))
theorem zhg (p1:Int) (p2:PosT) (p3:Int) (p4:ContractT) (p5:Int) (p6:List (ByteArray×Int)) (res:Bool) (hd:Zi p1 p2 p3 p4 p5 p6=some res):DOk C0 226 [vI p1,.ptr 0 0 0,.ptr 1 0 0,.ptr 2 0 0] [(0,.rows 1 [[.ptr 3 0 0]]),(1,.rows 5 [zn (PosT.row p2)]),(2,.rows 1 [[vI p3]]),(3,.rows 9 [[vI p4.parties,.imm (.slice (List.map zb p4.holders)),.imm (.slice (List.map UnitT.row p4.units)),.imm (.slice (List.map ActT.row p4.acts)),.imm (.slice (List.map ClauseT.row p4.clauses)),vI p4.days,.imm (.slice (List.map zb p4.off)),vI p5,.map 4]]),(4,.map (zl IV.str IV.i64 p6))] 5 (vB res) [(0,.rows 1 [[.ptr 3 0 0]]),(1,.rows 5 [zn (PosT.row p2)]),(2,.rows 1 [[vI p3]]),(3,.rows 9 [[vI p4.parties,.imm (.slice (List.map zb p4.holders)),.imm (.slice (List.map UnitT.row p4.units)),.imm (.slice (List.map ActT.row p4.acts)),.imm (.slice (List.map ClauseT.row p4.clauses)),vI p4.days,.imm (.slice (List.map zb p4.off)),vI p5,.map 4]]),(4,.map (zl IV.str IV.i64 p6))] 0:=
  Plan.det (R:=fun res=>vB res) (H:=fun res=>[(0,.rows 1 [[.ptr 3 0 0]]),(1,.rows 5 [zn (PosT.row p2)]),(2,.rows 1 [[vI p3]]),(3,.rows 9 [[vI p4.parties,.imm (.slice (List.map zb p4.holders)),.imm (.slice (List.map UnitT.row p4.units)),.imm (.slice (List.map ActT.row p4.acts)),.imm (.slice (List.map ClauseT.row p4.clauses)),vI p4.days,.imm (.slice (List.map zb p4.off)),vI p5,.map 4]]),(4,.map (zl IV.str IV.i64 p6))]) (zhf p1 p2 p3 p4 p5 p6) (.exp rfl rfl (.exp rfl rfl (.exp rfl rfl (.exp rfl rfl (.ents rfl .nil))))) (fun _=>(.exp rfl rfl (.exp rfl rfl (.exp rfl rfl (.exp rfl rfl (.ents rfl .nil)))))) (by kernel_rfl) (fun _=>by kernel_rfl) (by kernel_rfl) (Plan.run_of hd (by kernel_rfl))
noncomputable def Jh (p1:List Int) (p2:PosT) (p3:Int) (p4:ContractT) (p5:Int) (p6:List (ByteArray×Int)):Option Int:=
  (Option.bind (forR (σ:=Unit) (ρ:=Int) (p1.length:Int) (fun i1 s1=>(Option.bind (ze p1 (i1:Int)) fun e1=>(Option.bind (Zi e1 p2 p3 p4 p5 p6) fun r1=>(bif r1 then some (.inr (i1:Int)) else some (.inl ()))))) ()) (Sum.elim (fun (s1:Unit)=>some (-1)) (fun (y1:Int)=>some y1)))
noncomputable def ziV (p1:List Int) (p2:PosT) (p3:Int) (p4:ContractT) (p5:Int) (p6:List (ByteArray×Int)):Plan Int:=
  .reg 1 (.ln 2148 zb p1 (.use 1 2148 (.forR (σ:=Unit) (ρ:=Int) 2138 8 (p1.length:Int) () (.k [0,1,7] (fun _=>[]) [0,1,2,3] (fun _=>[(4,.map (zl IV.str IV.i64 p6))]) 9 fun _=>(.ents rfl .nil)) (fun i1 s1=>.sel 2138 (.reg 1 (.ix 2144 zb p1 (i1:Int) fun e1=>.b1 2146 (Zi e1 p2 p3 p4 p5 p6) (fun r1=>.c [0,1,2,3,4] 5 (vB r1) [] 0) (fun r1 hr1=>(zi (zhg e1 p2 p3 p4 p5 p6 r1 hr1) [0,1,2,3,4] 17 (.drop rfl rfl (.drop rfl rfl (.drop rfl rfl (.drop rfl rfl (.drop rfl rfl .nil))))) (rhR (rhR (rhR (rhR (rhM rhN))))) rhN)) fun r1=>.us [(3,2144),(5,2146)] (.ite 2142 r1 (.sel 2142 (.ret (.inr (i1:Int)))) (.sel 2142 (.ret (.inl ()))))))) fun os1=>.case os1 (fun s1=>.sel 2138 (.ret (-1))) fun y1=>.ret y1)))
theorem ziW (p1:List Int) (p2:PosT) (p3:Int) (p4:ContractT) (p5:Int) (p6:List (ByteArray×Int)) (res:Int) (hd:Jh p1 p2 p3 p4 p5 p6=some res):DOk C0 49 [.imm (.slice (List.map zb p1)),.func 226 [] [.ptr 0 0 0,.ptr 1 0 0,.ptr 2 0 0]] [(0,.rows 1 [[.ptr 3 0 0]]),(1,.rows 5 [zn (PosT.row p2)]),(2,.rows 1 [[vI p3]]),(3,.rows 9 [[vI p4.parties,.imm (.slice (List.map zb p4.holders)),.imm (.slice (List.map UnitT.row p4.units)),.imm (.slice (List.map ActT.row p4.acts)),.imm (.slice (List.map ClauseT.row p4.clauses)),vI p4.days,.imm (.slice (List.map zb p4.off)),vI p5,.map 4]]),(4,.map (zl IV.str IV.i64 p6))] 5 (vI res) [(0,.rows 1 [[.ptr 3 0 0]]),(1,.rows 5 [zn (PosT.row p2)]),(2,.rows 1 [[vI p3]]),(3,.rows 9 [[vI p4.parties,.imm (.slice (List.map zb p4.holders)),.imm (.slice (List.map UnitT.row p4.units)),.imm (.slice (List.map ActT.row p4.acts)),.imm (.slice (List.map ClauseT.row p4.clauses)),vI p4.days,.imm (.slice (List.map zb p4.off)),vI p5,.map 4]]),(4,.map (zl IV.str IV.i64 p6))] 0:=
  Plan.det (R:=fun res=>vI res) (H:=fun res=>[(0,.rows 1 [[.ptr 3 0 0]]),(1,.rows 5 [zn (PosT.row p2)]),(2,.rows 1 [[vI p3]]),(3,.rows 9 [[vI p4.parties,.imm (.slice (List.map zb p4.holders)),.imm (.slice (List.map UnitT.row p4.units)),.imm (.slice (List.map ActT.row p4.acts)),.imm (.slice (List.map ClauseT.row p4.clauses)),vI p4.days,.imm (.slice (List.map zb p4.off)),vI p5,.map 4]]),(4,.map (zl IV.str IV.i64 p6))]) (ziV p1 p2 p3 p4 p5 p6) (.exp rfl rfl (.exp rfl rfl (.exp rfl rfl (.exp rfl rfl (.ents rfl .nil))))) (fun _=>(.exp rfl rfl (.exp rfl rfl (.exp rfl rfl (.exp rfl rfl (.ents rfl .nil)))))) (by kernel_rfl) (fun _=>by kernel_rfl) (by kernel_rfl) (Plan.run_of hd (by kernel_rfl))
noncomputable def ZT (p1:List Int) (p2:PosT) (p3:Int) (p4:ContractT) (p5:Int) (p6:List (ByteArray×Int)):Option Bool:=
  (Option.bind (Jh p1 p2 p3 p4 p5 p6) fun r1=>some (decide (0≤r1)))
noncomputable def ziX (p1:List Int) (p2:PosT) (p3:Int) (p4:ContractT) (p5:Int) (p6:List (ByteArray×Int)):Plan Bool:=
  .reg 1 (.b1 2150 (Jh p1 p2 p3 p4 p5 p6) (fun r1=>.c [0,1,2,3,4] 5 (vI r1) [] 0) (fun r1 hr1=>(zi (ziW p1 p2 p3 p4 p5 p6 r1 hr1) [0,1,2,3,4] 8 (.drop rfl rfl (.drop rfl rfl (.drop rfl rfl (.drop rfl rfl (.drop rfl rfl .nil))))) (rhR (rhR (rhR (rhR (rhM rhN))))) rhN)) fun r1=>.use 2 2150 (.ret (decide (0≤r1))))
theorem ziY (p1:List Int) (p2:PosT) (p3:Int) (p4:ContractT) (p5:Int) (p6:List (ByteArray×Int)) (res:Bool) (hd:ZT p1 p2 p3 p4 p5 p6=some res):DOk C0 26 [.imm (.slice (List.map zb p1)),.func 226 [] [.ptr 0 0 0,.ptr 1 0 0,.ptr 2 0 0]] [(0,.rows 1 [[.ptr 3 0 0]]),(1,.rows 5 [zn (PosT.row p2)]),(2,.rows 1 [[vI p3]]),(3,.rows 9 [[vI p4.parties,.imm (.slice (List.map zb p4.holders)),.imm (.slice (List.map UnitT.row p4.units)),.imm (.slice (List.map ActT.row p4.acts)),.imm (.slice (List.map ClauseT.row p4.clauses)),vI p4.days,.imm (.slice (List.map zb p4.off)),vI p5,.map 4]]),(4,.map (zl IV.str IV.i64 p6))] 5 (vB res) [(0,.rows 1 [[.ptr 3 0 0]]),(1,.rows 5 [zn (PosT.row p2)]),(2,.rows 1 [[vI p3]]),(3,.rows 9 [[vI p4.parties,.imm (.slice (List.map zb p4.holders)),.imm (.slice (List.map UnitT.row p4.units)),.imm (.slice (List.map ActT.row p4.acts)),.imm (.slice (List.map ClauseT.row p4.clauses)),vI p4.days,.imm (.slice (List.map zb p4.off)),vI p5,.map 4]]),(4,.map (zl IV.str IV.i64 p6))] 0:=
  Plan.det (R:=fun res=>vB res) (H:=fun res=>[(0,.rows 1 [[.ptr 3 0 0]]),(1,.rows 5 [zn (PosT.row p2)]),(2,.rows 1 [[vI p3]]),(3,.rows 9 [[vI p4.parties,.imm (.slice (List.map zb p4.holders)),.imm (.slice (List.map UnitT.row p4.units)),.imm (.slice (List.map ActT.row p4.acts)),.imm (.slice (List.map ClauseT.row p4.clauses)),vI p4.days,.imm (.slice (List.map zb p4.off)),vI p5,.map 4]]),(4,.map (zl IV.str IV.i64 p6))]) (ziX p1 p2 p3 p4 p5 p6) (.exp rfl rfl (.exp rfl rfl (.exp rfl rfl (.exp rfl rfl (.ents rfl .nil))))) (fun _=>(.exp rfl rfl (.exp rfl rfl (.exp rfl rfl (.exp rfl rfl (.ents rfl .nil)))))) (by kernel_rfl) (fun _=>by kernel_rfl) (by kernel_rfl) (Plan.run_of hd (by kernel_rfl))
noncomputable def yR (p1:DoomW) (p2:Int) (p3:ContractT) (p4:Int) (p5:List (ByteArray×Int)):Option Bool:=
  (Option.bind (ze p1.d.rows p2) fun e1=>(bif decide (e1.rank≤0) then (Option.bind (bif (e1.rank == 0) then (Option.bind (xY p3 e1.position.state p4) fun r1=>some r1) else some false) fun v1=>some v1) else (Option.bind (wB e1.position p3 p4 p5) fun r2=>(bif e1.position.own then (Option.bind (ZT r2 e1.position e1.rank p3 p4 p5) fun r5=>some (!r5)) else (Option.bind (Option.bind (jS r2 e1.move) fun r3=>(bif r3 then (Option.bind (wE e1.position e1.move e1.rank p3 p4 p5) fun r4=>some r4) else some false)) fun v2=>some v2)))))
noncomputable def zhh (p1:DoomW) (p2:Int) (p3:ContractT) (p4:Int) (p5:List (ByteArray×Int)):Plan Bool:=
  .reg 1 (.ix 2152 DoomRowT.row p1.d.rows p2 fun e1=>.us [(4,2152),(11,2152),(18,2152)] (.ite 2126 (decide (e1.rank≤0)) (.sel 2126 (.cut (β:=Bool) 1 (.k [] (fun v1=>[(6,vB v1)]) [0,2,3,26,27] (fun _=>[(1,.map (zl IV.str IV.i64 p5))]) 49 fun _=>(.ents rfl .nil)) (.reg 0 (.ite 2128 (e1.rank == 0) (.call 2154 (Kg p3 e1.position.state p4) fun r1=>.us [(3,2128),(13,2154)] (.ret r1)) (.use 3 2128 (.ret false)))) fun v1=>.ret v1)) (.sel 2126 (.reg 0 (.b1 2156 (wB e1.position p3 p4 p5) (fun r2=>.c [0,1] 2 (.imm (.slice (List.map zb r2))) [] 0) (fun r2 hr2=>(zi (zdl e1.position p3 p4 p5 r2 hr2) [0,1] 35 (.drop rfl rfl (.drop rfl rfl .nil)) (rhR (rhM rhN)) rhN)) fun r2=>.use 2 2156 (.ite 2130 e1.position.own (.sel 2131 (.reg 0 (.b1 2162 (ZT r2 e1.position e1.rank p3 p4 p5) (fun r5=>.c [3,26,27,0,1] 5 (vB r5) [] 0) (fun r5 hr5=>(zi (ziY r2 e1.position e1.rank p3 p4 p5 r5 hr5) [3,26,27,0,1] 42 (.drop rfl rfl (.drop rfl rfl (.drop rfl rfl (.drop rfl rfl (.drop rfl rfl .nil))))) (rhR (rhR (rhR (rhR (rhM rhN))))) rhN)) fun r5=>.use 2 2162 (.ret (!r5))))) (.sel 2131 (.cut (β:=Bool) 1 (.k [] (fun v2=>[(6,vB v2)]) [0,2,3,26,27] (fun _=>[(1,.map (zl IV.str IV.i64 p5))]) 51 fun _=>(.ents rfl .nil)) (.reg 0 (.call 2158 (X3 r2 e1.move) fun r3=>.ite 2132 r3 (.b1 2160 (wE e1.position e1.move e1.rank p3 p4 p5) (fun r4=>.c [0,1] 2 (vB r4) [] 0) (fun r4 hr4=>(zi (zdq e1.position e1.move e1.rank p3 p4 p5 r4 hr4) [0,1] 48 (.drop rfl rfl (.drop rfl rfl .nil)) (rhR (rhM rhN)) rhN)) fun r4=>.us [(2,2158),(4,2132),(8,2160)] (.ret r4)) (.us [(2,2158),(4,2132)] (.ret false)))) fun v2=>.ret v2))))))))
theorem zhi (p1:DoomW) (p2:Int) (p3:ContractT) (p4:Int) (p5:List (ByteArray×Int)) (res:Bool) (hd:yR p1 p2 p3 p4 p5=some res):DOk C0 225 [.imm (.agg (DoomW.row p1)),.ptr 0 0 0,vI p2] [(0,.rows 9 [[vI p3.parties,.imm (.slice (List.map zb p3.holders)),.imm (.slice (List.map UnitT.row p3.units)),.imm (.slice (List.map ActT.row p3.acts)),.imm (.slice (List.map ClauseT.row p3.clauses)),vI p3.days,.imm (.slice (List.map zb p3.off)),vI p4,.map 1]]),(1,.map (zl IV.str IV.i64 p5))] 2 (vB res) [(0,.rows 9 [[vI p3.parties,.imm (.slice (List.map zb p3.holders)),.imm (.slice (List.map UnitT.row p3.units)),.imm (.slice (List.map ActT.row p3.acts)),.imm (.slice (List.map ClauseT.row p3.clauses)),vI p3.days,.imm (.slice (List.map zb p3.off)),vI p4,.map 1]]),(1,.map (zl IV.str IV.i64 p5))] 0:=
  Plan.det (R:=fun res=>vB res) (H:=fun res=>[(0,.rows 9 [[vI p3.parties,.imm (.slice (List.map zb p3.holders)),.imm (.slice (List.map UnitT.row p3.units)),.imm (.slice (List.map ActT.row p3.acts)),.imm (.slice (List.map ClauseT.row p3.clauses)),vI p3.days,.imm (.slice (List.map zb p3.off)),vI p4,.map 1]]),(1,.map (zl IV.str IV.i64 p5))]) (zhh p1 p2 p3 p4 p5) (.exp rfl rfl (.ents rfl .nil)) (fun _=>(.exp rfl rfl (.ents rfl .nil))) (by kernel_rfl) (fun _=>by kernel_rfl) (by kernel_rfl) (Plan.run_of hd (by kernel_rfl))
noncomputable def Zj (p1:ContractT) (p2:DoomW):Option Bool:=
  (Option.bind (QF p2) fun r1=>(Option.bind (bif decide (r1 < 0) then some true else (bif decide (p1.parties≤r1) then some true else (Option.bind (jw p2) fun r2=>(bif decide (r2 < 1) then some true else (Option.bind (jw p2) fun r3=>some (decide (1500 < r3))))))) fun v1=>(bif v1 then some false else (Option.bind (jw p2) fun r4=>(Option.bind (forR (σ:=(List (ByteArray×Int))) (ρ:=Unit) r4 (fun i1 s1=>(Option.bind (α:=(List (ByteArray×Int)) ⊕ Unit) (Option.bind (Zh p2 (i1:Int)) fun r5=>(Option.bind (qP p1 r5.1.state) fun r6=>(bif r6 then (Option.bind (qK r5.1) fun r7=>(Option.bind (bif ((zq r7 s1).isSome) then some (decide (r5.2 < ((zq r7 s1).getD 0))) else some true) fun v2=>(bif v2 then some (.inl (zX r7 r5.2 s1)) else some (.inl s1)))) else some (.inr ())))) (Sum.elim (fun (v3:(List (ByteArray×Int)))=>some (.inl v3)) (fun (y1:Unit)=>some (.inr ()))))) []) (Sum.elim (fun (s1:(List (ByteArray×Int)))=>(Option.bind (jw p2) fun r8=>(Option.bind (forR (σ:=Unit) (ρ:=Unit) r8 (fun i2 s2=>(Option.bind (yR p2 (i2:Int) p1 r1 s1) fun r9=>(bif r9 then some (.inl ()) else some (.inr ())))) ()) (Sum.elim (fun (s2:Unit)=>some true) (fun (y3:Unit)=>some false))))) (fun (y2:Unit)=>some false)))))))
noncomputable def zhj (p1:ContractT) (p2:DoomW):Plan Bool:=
  .reg 1 (.call 2166 (zdp p2) fun r1=>.use 2 2166 (.cut (β:=Bool) 2 (.e [1,2,5] (fun v1=>[(42,vB v1)]) [0,5,7] 33) (.reg 0 (.ite 2098 (decide (r1 < 0)) (.use 6 2098 (.f1 2170 (.g true) (rfl:true=true) (.use 15 2170 (.f1 2168 (.g true) (rfl:true=true) (.use 20 2168 (.ret true)))))) (.ite 2100 (decide (p1.parties≤r1)) (.us [(6,2098),(15,2100)] (.f1 2172 (.g true) (rfl:true=true) (.use 20 2172 (.ret true)))) (.call 2174 (ZS p2) fun r2=>.ite 2104 (decide (r2 < 1)) (.us [(6,2098),(15,2100),(16,2174),(20,2104)] (.ret true)) (.call 2176 (ZS p2) fun r3=>.us [(6,2098),(15,2100),(16,2174),(20,2104),(21,2176)] (.ret (decide (1500 < r3)))))))) fun v1=>.ite 2106 v1 (.sel 2106 (.ret false)) (.sel 2106 (.reg 0 (.call 2178 (ZS p2) fun r4=>.use 1 2178 (.forR (σ:=(List (ByteArray×Int))) (ρ:=Unit) 2108 45 r4 [] (.k [1,2,5,44] (fun _=>[]) [0,7] (fun s1=>[(5,.map (zl IV.str IV.i64 s1))]) 36 fun _=>(.ents rfl .nil)) (fun i1 s1=>.sel 2108 (.cutO (β:=(List (ByteArray×Int))) (γ:=Unit) 1 (.k [1,2,5,44,45] (fun _=>[]) [0,7] (fun v3=>[(5,.map (zl IV.str IV.i64 v3))]) 74 fun _=>(.ents rfl .nil)) (.reg 1 (.call 2180 (zfW p2 (i1:Int)) fun r5=>.use 2 2180 (.reg 0 (.call 2182 (wY p1 r5.1.state) fun r6=>.use 3 2182 (.ite 2118 r6 (.sel 2119 (.reg 0 (.call 2184 (WG r5.1) fun r7=>.use 1 2184 (.reg 0 (.f1 2188 (.l (vI ((zq r7 s1).getD 0)) ((zq r7 s1).isSome)) (xv IV.i64 0 r7 s1) (.use 5 2188 (.cut (β:=Bool) 1 (.k [1,2,5,44,45,8,9] (fun v2=>[(76,vB v2)]) [0,7,45] (fun _=>[(5,.map (zl IV.str IV.i64 s1))]) 74 fun _=>(.ents rfl .nil)) (.reg 0 (.ite 2120 ((zq r7 s1).isSome) (.use 3 2121 (.ret (decide (r5.2 < ((zq r7 s1).getD 0))))) (.use 3 2121 (.ret true)))) fun v2=>.ite 2122 v2 (.sel 2122 (.reg 0 (.f1 2186 (.u (zl IV.str IV.i64 (zX r7 r5.2 s1))) (wa IV.i64 r7 r5.2 s1) (.use 6 2186 (.ret (.inl (zX r7 r5.2 s1))))))) (.sel 2122 (.ret (.inl s1)))))))))) (.sel 2119 (.ret (.inr ())))))))) fun o_v3=>.case o_v3 (fun v3=>.ret (.inl v3)) fun y1=>.ret (.inr ()))) fun os1=>.case os1 (fun s1=>.sel 2108 (.reg 0 (.call 2190 (ZS p2) fun r8=>.use 1 2190 (.forR (σ:=Unit) (ρ:=Unit) 2124 86 r8 () (.k [1,5,85] (fun _=>[]) [7] (fun _=>[(5,.map (zl IV.str IV.i64 s1))]) 40 fun _=>(.ents rfl .nil)) (fun i2 s2=>.sel 2124 (.reg 1 (.b1 2192 (yR p2 (i2:Int) p1 r1 s1) (fun r9=>.c [7,5] 2 (vB r9) [] 0) (fun r9 hr9=>(zi (zhi p2 (i2:Int) p1 r1 s1 r9 hr9) [7,5] 46 (.drop rfl rfl (.drop rfl rfl .nil)) (rhR (rhM rhN)) rhN)) fun r9=>.use 3 2192 (.ite 2164 r9 (.sel 2165 (.ret (.inl ()))) (.sel 2165 (.ret (.inr ()))))))) fun os2=>.case os2 (fun s2=>.sel 2124 (.ret true)) fun y3=>.ret false)))) fun y2=>.ret false))))))
theorem zhk (p1:ContractT) (p2:DoomW) (res:Bool) (hd:Zj p1 p2=some res):DOk C0 302 [.agg (zn (ContractT.row p1)),.imm (.iface 108 (.agg (DoomW.row p2)))] [] 0 (vB res) [] 0:=
  Plan.det (R:=fun res=>vB res) (H:=fun res=>[]) (zhj p1 p2) .nil (fun _=>.nil) (by kernel_rfl) (fun _=>by kernel_rfl) (by kernel_rfl) (Plan.run_of hd (by kernel_rfl))
noncomputable def qF (c:ContractT) (d:DoomT):Option Bool:=
  (Option.bind (Zj c ({d:=d}:DoomW)) fun r1=>some r1)
noncomputable def zab (c:ContractT) (d:DoomT):Plan Bool:=
  .reg 1 (.b1 2194 (Zj c ({d:=d}:DoomW)) (fun r1=>.c [] 0 (vB r1) [] 0) (fun r1 hr1=>(zi (zhk c ({d:=d}:DoomW) r1 hr1) [] 7 .nil rhN rhN)) fun r1=>.use 4 2194 (.ret r1))
theorem kM (c:ContractT) (d:DoomT) (res:Bool) (hd:qF c d=some res):APure C0 298 [.agg (ContractT.row c),.agg (DoomT.row d)] (.bool res):=
  Plan.pure (iv:=fun res=>.bool res) (zab c d) (by kernel_rfl) (Plan.run_of hd (by kernel_rfl))
noncomputable def yS  : Option Bool:=
  (Option.bind (kL) fun r1=>(Option.bind (Je r1) fun r2=>(Option.bind (qZ r1 0 ({state:=r2.1,own:=true}:PosT)) fun r3=>(Option.bind (jE r1 0 ({state:=r2.1,own:=true}:PosT)) fun r4=>(Option.bind (jE r1 0 ({state:=r2.1,own:=false}:PosT)) fun r5=>(Option.bind (qZ r1 0 ({state:=r2.1,own:=false}:PosT)) fun r6=>(Option.bind (bif (r2.2 == 0) then (bif (r3.2 == 0) then (bif (r4.2 == 13) then (bif (r5.2 == 0) then (bif (r6.2 == 13) then (bif ((r3.1.rows.length:Int) == 5) then some (!((r5.1.rows.length:Int) == 3)) else some true) else some true) else some true) else some true) else some true) else some true) fun v1=>(bif v1 then some false else (Option.bind (Option.bind (ze r3.1.rows 0) fun e1=>(bif (e1.move == 0) then (Option.bind (ze r3.1.rows 1) fun e2=>(bif (e2.move == (-2)) then (Option.bind (ze r5.1.rows 0) fun e3=>(bif (e3.rank == 1) then (bif (e3.move == (-1)) then (Option.bind (ze r5.1.rows 1) fun e4=>some (e4.rank == 0)) else some false) else some false)) else some false)) else some false)) fun v2=>(Option.bind (Option.bind (qk r1 r3.1) fun r7=>(bif r7 then (Option.bind (qF r1 r5.1) fun r8=>some r8) else some false)) fun v3=>(Option.bind (kG r3.1.rows 0 4) fun e5=>(Option.bind (YO (α:=DoomRowT) 104 [] r5.1.rows) fun e6=>(Option.bind (zm e6.length 0) fun k1=>(Option.bind (e6[k1]?) fun e7=>(Option.bind (bif v2 then (bif v3 then (Option.bind (qk r1 ({party:=0,rows:=e5}:ShieldT)) fun r9=>(bif r9 then some false else (Option.bind (qF r1 ({party:=0,rows:=(e6.set k1 ({e7 with move:=0}:DoomRowT))}:DoomT)) fun r10=>(bif r10 then some false else (Option.bind (qk r1 ({party:=0,rows:=[]}:ShieldT)) fun r11=>some (!r11)))))) else some false) else some false) fun v4=>some v4)))))))))))))))
noncomputable def zeA  : Plan Bool:=
  .reg 1 (.call 2204 KZ fun r1=>.use 0 2204 (.reg 0 (.call 2206 (zfK r1) fun r2=>.use 1 2206 (.reg 0 (.call 2208 (QD r1 0 ({state:=r2.1,own:=true}:PosT)) fun r3=>.use 3 2208 (.reg 0 (.call 2210 (WJ r1 0 ({state:=r2.1,own:=true}:PosT)) fun r4=>.use 3 2210 (.reg 0 (.call 2212 (WJ r1 0 ({state:=r2.1,own:=false}:PosT)) fun r5=>.use 3 2212 (.reg 0 (.call 2214 (QD r1 0 ({state:=r2.1,own:=false}:PosT)) fun r6=>.use 3 2214 (.cut (β:=Bool) 2 (.e [1,4,8] (fun v1=>[(79,vB v1)]) [2,9,19,29,39,49] 82) (.reg 0 (.ite 1868 (r2.2 == 0) (.ite 1870 (r3.2 == 0) (.ite 1872 (r4.2 == 13) (.ite 1874 (r5.2 == 0) (.ite 1876 (r6.2 == 13) (.ite 1878 ((r3.1.rows.length:Int) == 5) (.us [(3,1869),(7,1871),(11,1873),(15,1875),(19,1877)] (.ln 2218 ShieldRowT.row r3.1.rows (.us [(21,2218),(25,1879)] (.ln 2216 DoomRowT.row r5.1.rows (.use 27 2216 (.ret (!((r5.1.rows.length:Int) == 3)))))))) (.us [(3,1869),(7,1871),(11,1873),(15,1875),(19,1877)] (.ln 2220 ShieldRowT.row r3.1.rows (.us [(21,2220),(25,1879)] (.ret true))))) (.us [(3,1869),(7,1871),(11,1873),(15,1875),(19,1877)] (.f1 2222 (.g true) (rfl:true=true) (.use 25 2222 (.ret true))))) (.us [(3,1869),(7,1871),(11,1873),(15,1875)] (.f1 2226 (.g true) (rfl:true=true) (.use 19 2226 (.f1 2224 (.g true) (rfl:true=true) (.use 25 2224 (.ret true))))))) (.us [(3,1869),(7,1871),(11,1873)] (.f1 2232 (.g true) (rfl:true=true) (.use 15 2232 (.f1 2230 (.g true) (rfl:true=true) (.use 19 2230 (.f1 2228 (.g true) (rfl:true=true) (.use 25 2228 (.ret true))))))))) (.us [(3,1869),(7,1871)] (.f1 2240 (.g true) (rfl:true=true) (.use 11 2240 (.f1 2238 (.g true) (rfl:true=true) (.use 15 2238 (.f1 2236 (.g true) (rfl:true=true) (.use 19 2236 (.f1 2234 (.g true) (rfl:true=true) (.use 25 2234 (.ret true))))))))))) (.use 3 1869 (.f1 2250 (.g true) (rfl:true=true) (.use 7 2250 (.f1 2248 (.g true) (rfl:true=true) (.use 11 2248 (.f1 2246 (.g true) (rfl:true=true) (.use 15 2246 (.f1 2244 (.g true) (rfl:true=true) (.use 19 2244 (.f1 2242 (.g true) (rfl:true=true) (.use 25 2242 (.ret true)))))))))))))) fun v1=>.ite 1880 v1 (.sel 1880 (.ret false)) (.sel 1880 (.cut (β:=Bool) 1 (.e [1,4,8] (fun v2=>[(12,vB v2)]) [2,9,19,29,39,49] 121) (.reg 0 (.ix 2252 ShieldRowT.row r3.1.rows 0 fun e1=>.ite 1882 (e1.move == 0) (.ix 2254 ShieldRowT.row r3.1.rows 1 fun e2=>.ite 1884 (e2.move == (-2)) (.ix 2256 DoomRowT.row r5.1.rows 0 fun e3=>.ite 1886 (e3.rank == 1) (.ite 1888 (e3.move == (-1)) (.ix 2258 DoomRowT.row r5.1.rows 1 fun e4=>.us [(2,2252),(7,1882),(9,2254),(15,1884),(17,2256),(23,1886),(25,2256),(31,1888),(33,2258)] (.ret (e4.rank == 0))) (.us [(2,2252),(7,1882),(9,2254),(15,1884),(17,2256),(23,1886),(25,2256),(31,1888)] (.ret false))) (.us [(2,2252),(7,1882),(9,2254),(15,1884),(17,2256),(23,1886)] (.f1 2260 (.g false) (rfl:false=false) (.use 31 2260 (.ret false))))) (.us [(2,2252),(7,1882),(9,2254),(15,1884)] (.f1 2264 (.g false) (rfl:false=false) (.use 23 2264 (.f1 2262 (.g false) (rfl:false=false) (.use 31 2262 (.ret false))))))) (.us [(2,2252),(7,1882)] (.f1 2270 (.g false) (rfl:false=false) (.use 15 2270 (.f1 2268 (.g false) (rfl:false=false) (.use 23 2268 (.f1 2266 (.g false) (rfl:false=false) (.use 31 2266 (.ret false)))))))))) fun v2=>.cut (β:=Bool) 1 (.e [1,4,8,12] (fun v3=>[(13,vB v3)]) [2,9,19,29,39,49] 130) (.reg 0 (.call 2272 (xW r1 r3.1) fun r7=>.ite 2096 r7 (.call 2274 (kM r1 r5.1) fun r8=>.us [(2,2272),(4,2096),(6,2274)] (.ret r8)) (.us [(2,2272),(4,2096)] (.ret false)))) fun v3=>.reg 0 (.b1 2276 (kG r3.1.rows 0 4) (fun e5=>.s (List.map ShieldRowT.row e5)) (fun e5 he5=>(YN ShieldRowT.row 6 (fun _=>rfl) he5)) fun e5=>.use 2 2276 (.reg 0 (.b1 2278 (YO (α:=DoomRowT) 104 [] r5.1.rows) (fun e6=>.b (zc DoomRowT.row e6) e6.length) (fun e6 he6=>(zcH DoomRowT.row 7 104 (fun _=>rfl) he6)) fun e6=>.use 3 2278 (.reg 0 (.b1 2280 (zm e6.length 0) (fun k1=>.k k1) (fun k1 hk1=>(zt hk1)) fun k1=>.b1 2282 (e6[k1]?) (fun e7=>.aw (zn (DoomRowT.row e7)) (zc DoomRowT.row (e6.set k1 ({e7 with move:=0}:DoomRowT)))) (fun e7 he7=>(zW DoomRowT.row ({e7 with move:=0}:DoomRowT) he7)) fun e7=>.us [(2,2280),(4,2282)] (.cut (β:=Bool) 1 (.k [] (fun v4=>[(0,vB v4)]) [2,9,19,29,39,49,134,136,141] (fun _=>[(139,.rows 7 (zc DoomRowT.row (e6.set k1 ({e7 with move:=0}:DoomRowT))))]) 171 fun _=>(.rows rfl .nil)) (.reg 0 (.ite 2196 v2 (.ite 2198 v3 (.call 2284 (xW r1 ({party:=0,rows:=e5}:ShieldT)) fun r9=>.ite 2200 r9 (.us [(2,2196),(5,2198),(7,2284),(11,2201)] (.f1 2286 (.g false) (rfl:false=false) (.use 17 2286 (.ret false)))) (.bind (qF r1 ({party:=0,rows:=(e6.set k1 ({e7 with move:=0}:DoomRowT))}:DoomT)) (fun r10=>[(2288,([.w [139] [.agg (ContractT.row r1),.agg (DoomT.row ({party:=0,rows:=(e6.set k1 ({e7 with move:=0}:DoomRowT))}:DoomT))] (.bool r10)],_))]) (fun r10 hr10=>(.c2 (kM r1 ({party:=0,rows:=(e6.set k1 ({e7 with move:=0}:DoomRowT))}:DoomT) r10 hr10) (j7 [.agg (zn (ContractT.row r1)),.agg [vI 0,.mslice 139 0 e6.length]] [(139,.rows 7 (zc DoomRowT.row (e6.set k1 ({e7 with move:=0}:DoomRowT))))] [.agg (ContractT.row r1),.agg (DoomT.row ({party:=0,rows:=(e6.set k1 ({e7 with move:=0}:DoomRowT))}:DoomT))] (zA (yn (zA (qg _) (zA (qg _) (zA (qg _) (zA (qg _) (zA (qg _) (zA (qg _) (zA (qg _) je)))))))) (zA (yn (zA (qg _) (zA (xe DoomRowT.row 139 7 e6.length (e6.set k1 ({e7 with move:=0}:DoomRowT)) (by simp) rfl) je))) je))) .nil)) fun r10=>.ite 2202 r10 (.us [(2,2196),(5,2198),(7,2284),(11,2201),(13,2288),(17,2203)] (.ret false)) (.call 2290 (xW r1 ({party:=0,rows:=[]}:ShieldT)) fun r11=>.us [(2,2196),(5,2198),(7,2284),(11,2201),(13,2288),(17,2203),(19,2290)] (.ret (!r11))))) (.us [(2,2196),(5,2198)] (.f1 2294 (.g false) (rfl:false=false) (.use 11 2294 (.f1 2292 (.g false) (rfl:false=false) (.use 17 2292 (.ret false))))))) (.use 2 2196 (.f1 2300 (.g false) (rfl:false=false) (.use 5 2300 (.f1 2298 (.g false) (rfl:false=false) (.use 11 2298 (.f1 2296 (.g false) (rfl:false=false) (.use 17 2296 (.ret false)))))))))) fun v4=>.ret v4))))))))))))))))))))
theorem zeB  (res:Bool) (hd:yS  = some res):APure C0 245 [] (.bool res):=
  Plan.pure (iv:=fun res=>.bool res) (zeA ) (by kernel_rfl) (Plan.run_of hd (by kernel_rfl))
noncomputable def kx (c:ContractT) (n:Int):Option Bool:=
  (Option.bind (bif decide (20 < (c.holders.length:Int)) then some true else (bif decide (30 < (c.units.length:Int)) then some true else (bif decide (70 < (c.acts.length:Int)) then some true else (bif decide (n < (c.clauses.length:Int)) then some true else some (decide (100 < (c.off.length:Int))))))) fun v1=>(bif v1 then some false else (Option.bind (forR (σ:=Unit) (ρ:=Unit) (c.clauses.length:Int) (fun i1 s1=>(Option.bind (ze c.clauses (i1:Int)) fun e1=>(bif decide (20 < (e1.start.length:Int)) then some (.inr ()) else some (.inl ())))) ()) (Sum.elim (fun (s1:Unit)=>some true) (fun (y1:Unit)=>some false)))))
noncomputable def zdr (c:ContractT) (n:Int):Plan Bool:=
  .cut (β:=Bool) 3 (.e [2] (fun v1=>[(34,vB v1)]) [0] 31) (.reg 0 (.ite 2302 (decide (20 < (c.holders.length:Int))) (.ln 2322 zb c.holders (.us [(2,2322),(5,2302)] (.f1 2320 (.g true) (rfl:true=true) (.use 11 2320 (.f1 2318 (.g true) (rfl:true=true) (.use 17 2318 (.f1 2316 (.g true) (rfl:true=true) (.use 24 2316 (.ret true))))))))) (.ite 2304 (decide (30 < (c.units.length:Int))) (.ln 2330 zb c.holders (.us [(2,2330),(5,2302)] (.ln 2328 UnitT.row c.units (.us [(7,2328),(11,2304)] (.f1 2326 (.g true) (rfl:true=true) (.use 17 2326 (.f1 2324 (.g true) (rfl:true=true) (.use 24 2324 (.ret true))))))))) (.ite 2306 (decide (70 < (c.acts.length:Int))) (.ln 2338 zb c.holders (.us [(2,2338),(5,2302)] (.ln 2336 UnitT.row c.units (.us [(7,2336),(11,2304)] (.ln 2334 ActT.row c.acts (.us [(13,2334),(17,2306)] (.f1 2332 (.g true) (rfl:true=true) (.use 24 2332 (.ret true))))))))) (.ite 2308 (decide (n < (c.clauses.length:Int))) (.ln 2346 zb c.holders (.us [(2,2346),(5,2302)] (.ln 2344 UnitT.row c.units (.us [(7,2344),(11,2304)] (.ln 2342 ActT.row c.acts (.us [(13,2342),(17,2306)] (.ln 2340 ClauseT.row c.clauses (.us [(19,2340),(24,2308)] (.ret true))))))))) (.ln 2356 zb c.holders (.us [(2,2356),(5,2302)] (.ln 2354 UnitT.row c.units (.us [(7,2354),(11,2304)] (.ln 2352 ActT.row c.acts (.us [(13,2352),(17,2306)] (.ln 2350 ClauseT.row c.clauses (.us [(19,2350),(24,2308)] (.ln 2348 zb c.off (.use 26 2348 (.ret (decide (100 < (c.off.length:Int))))))))))))))))))) fun v1=>.ite 2310 v1 (.sel 2310 (.ret false)) (.sel 2310 (.forR (σ:=Unit) (ρ:=Unit) 2312 5 (c.clauses.length:Int) () (.e [2] (fun _=>[]) [0] 32) (fun i1 s1=>.reg 0 (.ln 2362 ClauseT.row c.clauses (.use 3 2362 (.sel 2312 (.reg 0 (.ix 2358 ClauseT.row c.clauses (i1:Int) fun e1=>.use 3 2358 (.ln 2360 CondT.row e1.start (.use 6 2360 (.ite 2314 (decide (20 < (e1.start.length:Int))) (.sel 2314 (.ret (.inr ()))) (.sel 2314 (.ret (.inl ())))))))))))) fun os1=>.case os1 (fun s1=>.reg 0 (.ln 2364 ClauseT.row c.clauses (.use 3 2364 (.sel 2312 (.ret true))))) fun y1=>.ret false))
theorem zds (c:ContractT) (n:Int) (res:Bool) (hd:kx c n=some res):APure C0 94 [.agg (ContractT.row c),.int .i64 n] (.bool res):=
  Plan.pure (iv:=fun res=>.bool res) (zdr c n) (by kernel_rfl) (Plan.run_of hd (by kernel_rfl))
noncomputable def X4 (c:ContractT):Option Bool:=
  (Option.bind (Option.bind (kx c 6) fun r1=>(bif r1 then (bif decide ((c.acts.length:Int)≤8) then some (decide (c.days≤20)) else some false) else some false)) fun v1=>some v1)
noncomputable def zhl (c:ContractT):Plan Bool:=
  .cut (β:=Bool) 2 (.e [] (fun v1=>[(2,vB v1)]) [0] 16) (.reg 0 (.call 2370 (zds c 6) fun r1=>.ite 2366 r1 (.ite 2368 (decide ((c.acts.length:Int)≤8)) (.us [(1,2370),(3,2366)] (.ln 2372 ActT.row c.acts (.us [(5,2372),(9,2368)] (.ret (decide (c.days≤20)))))) (.us [(1,2370),(3,2366)] (.ln 2374 ActT.row c.acts (.us [(5,2374),(9,2368)] (.ret false))))) (.us [(1,2370),(3,2366)] (.f1 2376 (.g false) (rfl:false=false) (.use 9 2376 (.ret false)))))) fun v1=>.ret v1
theorem zhm (c:ContractT) (res:Bool) (hd:X4 c=some res):APure C0 97 [.agg (ContractT.row c)] (.bool res):=
  Plan.pure (iv:=fun res=>.bool res) (zhl c) (by kernel_rfl) (Plan.run_of hd (by kernel_rfl))
noncomputable def Zk (c:ContractT) (s:ShieldT) (d:DoomT):Option Bool:=
  (Option.bind (Option.bind (X4 c) fun r1=>(bif r1 then (bif decide (300 < (s.rows.length:Int)) then some true else some (decide (300 < (d.rows.length:Int)))) else some true)) fun v1=>(bif v1 then some false else (Option.bind (forR (σ:=Unit) (ρ:=Unit) (s.rows.length:Int) (fun i1 s1=>(Option.bind (ze s.rows (i1:Int)) fun e1=>(Option.bind (bif decide (20 < (e1.position.state.holders.length:Int)) then some true else (bif decide (70 < (e1.position.state.used.length:Int)) then some true else some (decide (20 < (e1.position.state.marks.length:Int))))) fun v2=>(bif v2 then some (.inr ()) else some (.inl ()))))) ()) (Sum.elim (fun (s1:Unit)=>(Option.bind (forR (σ:=Unit) (ρ:=Unit) (d.rows.length:Int) (fun i2 s2=>(Option.bind (ze d.rows (i2:Int)) fun e2=>(Option.bind (bif decide (20 < (e2.position.state.holders.length:Int)) then some true else (bif decide (70 < (e2.position.state.used.length:Int)) then some true else some (decide (20 < (e2.position.state.marks.length:Int))))) fun v3=>(bif v3 then some (.inr ()) else some (.inl ()))))) ()) (Sum.elim (fun (s2:Unit)=>some true) (fun (y2:Unit)=>some false)))) (fun (y1:Unit)=>some false)))))
noncomputable def zfX (c:ContractT) (s:ShieldT) (d:DoomT):Plan Bool:=
  .cut (β:=Bool) 3 (.e [4,5] (fun v1=>[(25,vB v1)]) [0,1,2] 19) (.reg 0 (.call 2400 (zhm c) fun r1=>.ite 2378 r1 (.ite 2380 (decide (300 < (s.rows.length:Int))) (.us [(1,2400),(4,2379)] (.ln 2402 ShieldRowT.row s.rows (.us [(6,2402),(10,2380)] (.ret true)))) (.us [(1,2400),(4,2379)] (.ln 2406 ShieldRowT.row s.rows (.us [(6,2406),(10,2380)] (.ln 2404 DoomRowT.row d.rows (.use 12 2404 (.ret (decide (300 < (d.rows.length:Int)))))))))) (.us [(1,2400),(4,2379)] (.f1 2408 (.g true) (rfl:true=true) (.use 10 2408 (.ret true)))))) fun v1=>.ite 2382 v1 (.sel 2382 (.ret false)) (.sel 2382 (.forR (σ:=Unit) (ρ:=Unit) 2384 7 (s.rows.length:Int) () (.e [4,5] (fun _=>[]) [1,2] 20) (fun i1 s1=>.reg 0 (.ln 2426 ShieldRowT.row s.rows (.use 3 2426 (.sel 2384 (.reg 0 (.ix 2410 ShieldRowT.row s.rows (i1:Int) fun e1=>.use 3 2410 (.cut (β:=Bool) 1 (.e [4,5,7] (fun v2=>[(55,vB v2)]) [1,2,32] 50) (.reg 0 (.ite 2386 (decide (20 < (e1.position.state.holders.length:Int))) (.ln 2414 zb e1.position.state.holders (.us [(2,2414),(5,2386)] (.f1 2412 (.g true) (rfl:true=true) (.use 11 2412 (.ret true))))) (.ite 2388 (decide (70 < (e1.position.state.used.length:Int))) (.ln 2418 zb e1.position.state.holders (.us [(2,2418),(5,2386)] (.ln 2416 zg e1.position.state.used (.us [(7,2416),(11,2388)] (.ret true))))) (.ln 2424 zb e1.position.state.holders (.us [(2,2424),(5,2386)] (.ln 2422 zg e1.position.state.used (.us [(7,2422),(11,2388)] (.ln 2420 MarkT.row e1.position.state.marks (.use 13 2420 (.ret (decide (20 < (e1.position.state.marks.length:Int))))))))))))) fun v2=>.ite 2390 v2 (.sel 2390 (.ret (.inr ()))) (.sel 2390 (.ret (.inl ())))))))))) fun os1=>.case os1 (fun s1=>.reg 0 (.ln 2448 ShieldRowT.row s.rows (.use 3 2448 (.sel 2384 (.forR (σ:=Unit) (ρ:=Unit) 2392 9 (d.rows.length:Int) () (.e [5] (fun _=>[]) [2] 26) (fun i2 s2=>.reg 0 (.ln 2444 DoomRowT.row d.rows (.use 3 2444 (.sel 2392 (.reg 0 (.ix 2428 DoomRowT.row d.rows (i2:Int) fun e2=>.use 3 2428 (.cut (β:=Bool) 1 (.e [5,9] (fun v3=>[(85,vB v3)]) [2,38] 56) (.reg 0 (.ite 2394 (decide (20 < (e2.position.state.holders.length:Int))) (.ln 2432 zb e2.position.state.holders (.us [(2,2432),(5,2394)] (.f1 2430 (.g true) (rfl:true=true) (.use 11 2430 (.ret true))))) (.ite 2396 (decide (70 < (e2.position.state.used.length:Int))) (.ln 2436 zb e2.position.state.holders (.us [(2,2436),(5,2394)] (.ln 2434 zg e2.position.state.used (.us [(7,2434),(11,2396)] (.ret true))))) (.ln 2442 zb e2.position.state.holders (.us [(2,2442),(5,2394)] (.ln 2440 zg e2.position.state.used (.us [(7,2440),(11,2396)] (.ln 2438 MarkT.row e2.position.state.marks (.use 13 2438 (.ret (decide (20 < (e2.position.state.marks.length:Int))))))))))))) fun v3=>.ite 2398 v3 (.sel 2398 (.ret (.inr ()))) (.sel 2398 (.ret (.inl ())))))))))) fun os2=>.case os2 (fun s2=>.reg 0 (.ln 2446 DoomRowT.row d.rows (.use 3 2446 (.sel 2392 (.ret true))))) fun y2=>.ret false))))) fun y1=>.ret false))
theorem zfY (c:ContractT) (s:ShieldT) (d:DoomT) (res:Bool) (hd:Zk c s d=some res):APure C0 244 [.agg (ContractT.row c),.agg (ShieldT.row s),.agg (DoomT.row d)] (.bool res):=
  Plan.pure (iv:=fun res=>.bool res) (zfX c s d) (by kernel_rfl) (Plan.run_of hd (by kernel_rfl))
noncomputable def ZU (a:StateT) (b:StateT):Option Bool:=
  (Option.bind (bif (a.day == b.day) then (bif ((a.holders.length:Int) == (b.holders.length:Int)) then (bif ((a.used.length:Int) == (b.used.length:Int)) then some (!((a.marks.length:Int) == (b.marks.length:Int))) else some true) else some true) else some true) fun v1=>(bif v1 then some false else (Option.bind (forR (σ:=Unit) (ρ:=Unit) (a.holders.length:Int) (fun i1 s1=>(Option.bind (ze a.holders (i1:Int)) fun e1=>(Option.bind (ze b.holders (i1:Int)) fun e2=>(bif (e1 == e2) then some (.inl ()) else some (.inr ()))))) ()) (Sum.elim (fun (s1:Unit)=>(Option.bind (forR (σ:=Unit) (ρ:=Unit) (a.used.length:Int) (fun i2 s2=>(Option.bind (ze a.used (i2:Int)) fun e3=>(Option.bind (ze b.used (i2:Int)) fun e4=>(bif (e3 == e4) then some (.inl ()) else some (.inr ()))))) ()) (Sum.elim (fun (s2:Unit)=>(Option.bind (forR (σ:=Unit) (ρ:=Unit) (a.marks.length:Int) (fun i3 s3=>(Option.bind (ze a.marks (i3:Int)) fun e5=>(Option.bind (ze b.marks (i3:Int)) fun e6=>(bif ((e5.status == e6.status)&&((e5.left == e6.left)&&((e5.got == e6.got)&&((e5.bearer == e6.bearer)&&((e5.paused == e6.paused)&&true))))) then some (.inl ()) else some (.inr ()))))) ()) (Sum.elim (fun (s3:Unit)=>some true) (fun (y3:Unit)=>some false)))) (fun (y2:Unit)=>some false)))) (fun (y1:Unit)=>some false)))))
noncomputable def zeC (a:StateT) (b:StateT):Plan Bool:=
  .cut (β:=Bool) 3 (.e [2,3] (fun v1=>[(39,vB v1)]) [0,1] 35) (.reg 0 (.ite 2476 (a.day == b.day) (.ite 2478 ((a.holders.length:Int) == (b.holders.length:Int)) (.ite 2480 ((a.used.length:Int) == (b.used.length:Int)) (.use 6 2477 (.ln 2506 zb a.holders (.use 8 2506 (.ln 2504 zb b.holders (.us [(11,2504),(15,2479)] (.ln 2502 zg a.used (.use 17 2502 (.ln 2500 zg b.used (.us [(20,2500),(24,2481)] (.ln 2498 MarkT.row a.marks (.use 26 2498 (.ln 2496 MarkT.row b.marks (.use 29 2496 (.ret (!((a.marks.length:Int) == (b.marks.length:Int))))))))))))))))) (.use 6 2477 (.ln 2514 zb a.holders (.use 8 2514 (.ln 2512 zb b.holders (.us [(11,2512),(15,2479)] (.ln 2510 zg a.used (.use 17 2510 (.ln 2508 zg b.used (.us [(20,2508),(24,2481)] (.ret true))))))))))) (.use 6 2477 (.ln 2520 zb a.holders (.use 8 2520 (.ln 2518 zb b.holders (.us [(11,2518),(15,2479)] (.f1 2516 (.g true) (rfl:true=true) (.use 24 2516 (.ret true))))))))) (.use 6 2477 (.f1 2524 (.g true) (rfl:true=true) (.use 15 2524 (.f1 2522 (.g true) (rfl:true=true) (.use 24 2522 (.ret true)))))))) fun v1=>.ite 2482 v1 (.sel 2482 (.ret false)) (.sel 2482 (.forR (σ:=Unit) (ρ:=Unit) 2484 5 (a.holders.length:Int) () (.e [2,3] (fun _=>[]) [0,1] 36) (fun i1 s1=>.reg 0 (.ln 2530 zb a.holders (.use 3 2530 (.sel 2484 (.reg 0 (.ix 2526 zb a.holders (i1:Int) fun e1=>.ix 2528 zb b.holders (i1:Int) fun e2=>.us [(3,2526),(8,2528)] (.ite 2486 (e1 == e2) (.sel 2487 (.ret (.inl ()))) (.sel 2487 (.ret (.inr ())))))))))) fun os1=>.case os1 (fun s1=>.reg 0 (.ln 2548 zb a.holders (.use 3 2548 (.sel 2484 (.forR (σ:=Unit) (ρ:=Unit) 2488 6 (a.used.length:Int) () (.e [2,3] (fun _=>[]) [0,1] 42) (fun i2 s2=>.reg 0 (.ln 2536 zg a.used (.use 3 2536 (.sel 2488 (.reg 0 (.ix 2532 zg a.used (i2:Int) fun e3=>.ix 2534 zg b.used (i2:Int) fun e4=>.us [(3,2532),(8,2534)] (.ite 2490 (e3 == e4) (.sel 2491 (.ret (.inl ()))) (.sel 2491 (.ret (.inr ())))))))))) fun os2=>.case os2 (fun s2=>.reg 0 (.ln 2546 zg a.used (.use 3 2546 (.sel 2488 (.forR (σ:=Unit) (ρ:=Unit) 2492 7 (a.marks.length:Int) () (.e [2,3] (fun _=>[]) [0,1] 48) (fun i3 s3=>.reg 0 (.ln 2542 MarkT.row a.marks (.use 3 2542 (.sel 2492 (.reg 0 (.ix 2538 MarkT.row a.marks (i3:Int) fun e5=>.ix 2540 MarkT.row b.marks (i3:Int) fun e6=>.us [(3,2538),(8,2540)] (.ite 2494 ((e5.status == e6.status)&&((e5.left == e6.left)&&((e5.got == e6.got)&&((e5.bearer == e6.bearer)&&((e5.paused == e6.paused)&&true))))) (.sel 2495 (.ret (.inl ()))) (.sel 2495 (.ret (.inr ())))))))))) fun os3=>.case os3 (fun s3=>.reg 0 (.ln 2544 MarkT.row a.marks (.use 3 2544 (.sel 2492 (.ret true))))) fun y3=>.ret false))))) fun y2=>.ret false))))) fun y1=>.ret false))
theorem zeD (a:StateT) (b:StateT) (res:Bool) (hd:ZU a b=some res):APure C0 93 [.agg (StateT.row a),.agg (StateT.row b)] (.bool res):=
  Plan.pure (iv:=fun res=>.bool res) (zeC a b) (by kernel_rfl) (Plan.run_of hd (by kernel_rfl))
noncomputable def xq (a:PosT) (b:PosT):Option Bool:=
  (Option.bind (bif (a.own == b.own) then (Option.bind (ZU a.state b.state) fun r1=>some r1) else some false) fun v1=>some v1)
noncomputable def zdt (a:PosT) (b:PosT):Plan Bool:=
  .cut (β:=Bool) 2 (.e [] (fun v1=>[(4,vB v1)]) [0,1] 16) (.reg 0 (.ite 2474 (a.own == b.own) (.call 2550 (zeD a.state b.state) fun r1=>.us [(6,2474),(10,2550)] (.ret r1)) (.use 6 2474 (.ret false)))) fun v1=>.ret v1
theorem Vx (a:PosT) (b:PosT) (res:Bool) (hd:xq a b=some res):APure C0 95 [.agg (PosT.row a),.agg (PosT.row b)] (.bool res):=
  Plan.pure (iv:=fun res=>.bool res) (zdt a b) (by kernel_rfl) (Plan.run_of hd (by kernel_rfl))
noncomputable def xZ (c:ContractT) (party:Int) (p:PosT):Option Bool:=
  (Option.bind (yS) fun r1=>(Option.bind (Zk c ({party:=0,rows:=[({position:=p,move:=0}:ShieldRowT)]}:ShieldT) ({party:=0,rows:=[]}:DoomT)) fun r2=>(bif r2 then (Option.bind (jb c party p) fun r3=>(Option.bind (qZ c party p) fun r4=>(Option.bind (jE c party p) fun r5=>(bif (r3.2 == 0) then (bif (r4.2 == 0) then (Option.bind (bif r1 then (bif (r5.2 == 13) then (bif ((r5.1.rows.length:Int) == 0) then (Option.bind (qk c r4.1) fun r6=>(bif r6 then (bif decide (0 < (r4.1.rows.length:Int)) then (bif (r4.1.party == party) then (Option.bind (ze r4.1.rows 0) fun e1=>(Option.bind (xq e1.position p) fun r7=>some r7)) else some false) else some false) else some false)) else some false) else some false) else some false) fun v2=>some v2) else (Option.bind (bif r1 then (bif (r4.2 == 13) then (bif ((r4.1.rows.length:Int) == 0) then (bif (r5.2 == 0) then (Option.bind (qF c r5.1) fun r8=>(bif r8 then (bif decide (0 < (r5.1.rows.length:Int)) then (bif (r5.1.party == party) then (Option.bind (ze r5.1.rows 0) fun e2=>(Option.bind (xq e2.position p) fun r9=>some r9)) else some false) else some false) else some false)) else some false) else some false) else some false) else some false) fun v3=>some v3)) else (Option.bind (bif r1 then (bif (r4.2 == r3.2) then (bif (r5.2 == r3.2) then some ((IntKind.i64.wrap ((r4.1.rows.length:Int)+(r5.1.rows.length:Int))) == 0) else some false) else some false) else some false) fun v1=>some v1))))) else some r1)))
noncomputable def J2 (c:ContractT) (party:Int) (p:PosT):Plan Bool:=
  .reg 1 (.call 2566 zeB fun r1=>.use 0 2566 (.reg 0 (.bind (Zk c ({party:=0,rows:=[({position:=p,move:=0}:ShieldRowT)]}:ShieldT) ({party:=0,rows:=[]}:DoomT)) (fun r2=>[(2568,([.w [8] [.agg (ContractT.row c),.agg (ShieldT.row ({party:=0,rows:=[({position:=p,move:=0}:ShieldRowT)]}:ShieldT)),.agg (DoomT.row ({party:=0,rows:=[]}:DoomT))] (.bool r2)],_))]) (fun r2 hr2=>(.c2 (zfY c ({party:=0,rows:=[({position:=p,move:=0}:ShieldRowT)]}:ShieldT) ({party:=0,rows:=[]}:DoomT) r2 hr2) (j7 [.agg (zn (ContractT.row c)),.agg [vI 0,.mslice 8 0 1],.agg [vI 0,.nil]] [(8,.rows 6 [[vI p.state.day,.imm (.slice (List.map zb p.state.holders)),.imm (.slice (List.map zg p.state.used)),.imm (.slice (List.map MarkT.row p.state.marks)),vB p.own,vI 0]])] [.agg (ContractT.row c),.agg (ShieldT.row ({party:=0,rows:=[({position:=p,move:=0}:ShieldRowT)]}:ShieldT)),.agg (DoomT.row ({party:=0,rows:=[]}:DoomT))] (by kernel_rfl)) .nil)) fun r2=>.use 6 2568 (.ite 2450 r2 (.sel 2451 (.reg 0 (.call 2570 (Kd c party p) fun r3=>.use 3 2570 (.reg 0 (.call 2572 (QD c party p) fun r4=>.use 3 2572 (.reg 0 (.call 2574 (WJ c party p) fun r5=>.use 3 2574 (.ite 2452 (r3.2 == 0) (.sel 2453 (.ite 2460 (r4.2 == 0) (.sel 2460 (.cut (β:=Bool) 1 (.e [] (fun v2=>[(6,vB v2)]) [0,1,8,20,30,40] 85) (.reg 0 (.ite 2462 r1 (.ite 2464 (r5.2 == 13) (.ite 2466 ((r5.1.rows.length:Int) == 0) (.call 2586 (xW c r4.1) fun r6=>.ite 2468 r6 (.ite 2470 (decide (0 < (r4.1.rows.length:Int))) (.ite 2472 (r4.1.party == party) (.ix 2588 ShieldRowT.row r4.1.rows 0 fun e1=>.call 2590 (Vx e1.position p) fun r7=>.us [(2,2462),(6,2464)] (.ln 2594 DoomRowT.row r5.1.rows (.us [(8,2594),(12,2466),(14,2586),(17,2468)] (.ln 2592 ShieldRowT.row r4.1.rows (.us [(19,2592),(23,2470),(29,2472),(31,2588),(35,2590)] (.ret r7)))))) (.us [(2,2462),(6,2464)] (.ln 2598 DoomRowT.row r5.1.rows (.us [(8,2598),(12,2466),(14,2586),(17,2468)] (.ln 2596 ShieldRowT.row r4.1.rows (.us [(19,2596),(23,2470),(29,2472)] (.ret false))))))) (.us [(2,2462),(6,2464)] (.ln 2604 DoomRowT.row r5.1.rows (.us [(8,2604),(12,2466),(14,2586),(17,2468)] (.ln 2602 ShieldRowT.row r4.1.rows (.us [(19,2602),(23,2470)] (.f1 2600 (.g false) (rfl:false=false) (.use 29 2600 (.ret false))))))))) (.us [(2,2462),(6,2464)] (.ln 2610 DoomRowT.row r5.1.rows (.us [(8,2610),(12,2466),(14,2586),(17,2468)] (.f1 2608 (.g false) (rfl:false=false) (.use 23 2608 (.f1 2606 (.g false) (rfl:false=false) (.use 29 2606 (.ret false))))))))) (.us [(2,2462),(6,2464)] (.ln 2618 DoomRowT.row r5.1.rows (.us [(8,2618),(12,2466)] (.f1 2616 (.g false) (rfl:false=false) (.use 17 2616 (.f1 2614 (.g false) (rfl:false=false) (.use 23 2614 (.f1 2612 (.g false) (rfl:false=false) (.use 29 2612 (.ret false))))))))))) (.us [(2,2462),(6,2464)] (.f1 2626 (.g false) (rfl:false=false) (.use 12 2626 (.f1 2624 (.g false) (rfl:false=false) (.use 17 2624 (.f1 2622 (.g false) (rfl:false=false) (.use 23 2622 (.f1 2620 (.g false) (rfl:false=false) (.use 29 2620 (.ret false))))))))))) (.use 2 2462 (.f1 2636 (.g false) (rfl:false=false) (.use 6 2636 (.f1 2634 (.g false) (rfl:false=false) (.use 12 2634 (.f1 2632 (.g false) (rfl:false=false) (.use 17 2632 (.f1 2630 (.g false) (rfl:false=false) (.use 23 2630 (.f1 2628 (.g false) (rfl:false=false) (.use 29 2628 (.ret false)))))))))))))) fun v2=>.ret v2)) (.sel 2460 (.cut (β:=Bool) 1 (.e [] (fun v3=>[(6,vB v3)]) [0,1,8,20,30,40] 89) (.reg 0 (.ite 2552 r1 (.ite 2554 (r4.2 == 13) (.ite 2556 ((r4.1.rows.length:Int) == 0) (.ite 2558 (r5.2 == 0) (.call 2638 (kM c r5.1) fun r8=>.ite 2560 r8 (.ite 2562 (decide (0 < (r5.1.rows.length:Int))) (.ite 2564 (r5.1.party == party) (.ix 2640 DoomRowT.row r5.1.rows 0 fun e2=>.call 2642 (Vx e2.position p) fun r9=>.us [(2,2552),(6,2554)] (.ln 2646 ShieldRowT.row r4.1.rows (.us [(8,2646),(12,2556),(16,2558),(18,2638),(21,2560)] (.ln 2644 DoomRowT.row r5.1.rows (.us [(23,2644),(27,2562),(33,2564),(35,2640),(39,2642)] (.ret r9)))))) (.us [(2,2552),(6,2554)] (.ln 2650 ShieldRowT.row r4.1.rows (.us [(8,2650),(12,2556),(16,2558),(18,2638),(21,2560)] (.ln 2648 DoomRowT.row r5.1.rows (.us [(23,2648),(27,2562),(33,2564)] (.ret false))))))) (.us [(2,2552),(6,2554)] (.ln 2656 ShieldRowT.row r4.1.rows (.us [(8,2656),(12,2556),(16,2558),(18,2638),(21,2560)] (.ln 2654 DoomRowT.row r5.1.rows (.us [(23,2654),(27,2562)] (.f1 2652 (.g false) (rfl:false=false) (.use 33 2652 (.ret false))))))))) (.us [(2,2552),(6,2554)] (.ln 2662 ShieldRowT.row r4.1.rows (.us [(8,2662),(12,2556),(16,2558),(18,2638),(21,2560)] (.f1 2660 (.g false) (rfl:false=false) (.use 27 2660 (.f1 2658 (.g false) (rfl:false=false) (.use 33 2658 (.ret false))))))))) (.us [(2,2552),(6,2554)] (.ln 2670 ShieldRowT.row r4.1.rows (.us [(8,2670),(12,2556),(16,2558)] (.f1 2668 (.g false) (rfl:false=false) (.use 21 2668 (.f1 2666 (.g false) (rfl:false=false) (.use 27 2666 (.f1 2664 (.g false) (rfl:false=false) (.use 33 2664 (.ret false))))))))))) (.us [(2,2552),(6,2554)] (.ln 2680 ShieldRowT.row r4.1.rows (.us [(8,2680),(12,2556)] (.f1 2678 (.g false) (rfl:false=false) (.use 16 2678 (.f1 2676 (.g false) (rfl:false=false) (.use 21 2676 (.f1 2674 (.g false) (rfl:false=false) (.use 27 2674 (.f1 2672 (.g false) (rfl:false=false) (.use 33 2672 (.ret false))))))))))))) (.us [(2,2552),(6,2554)] (.f1 2690 (.g false) (rfl:false=false) (.use 12 2690 (.f1 2688 (.g false) (rfl:false=false) (.use 16 2688 (.f1 2686 (.g false) (rfl:false=false) (.use 21 2686 (.f1 2684 (.g false) (rfl:false=false) (.use 27 2684 (.f1 2682 (.g false) (rfl:false=false) (.use 33 2682 (.ret false))))))))))))) (.use 2 2552 (.f1 2702 (.g false) (rfl:false=false) (.use 6 2702 (.f1 2700 (.g false) (rfl:false=false) (.use 12 2700 (.f1 2698 (.g false) (rfl:false=false) (.use 16 2698 (.f1 2696 (.g false) (rfl:false=false) (.use 21 2696 (.f1 2694 (.g false) (rfl:false=false) (.use 27 2694 (.f1 2692 (.g false) (rfl:false=false) (.use 33 2692 (.ret false)))))))))))))))) fun v3=>.ret v3)))) (.sel 2453 (.cut (β:=Bool) 1 (.e [] (fun v1=>[(6,vB v1)]) [0,1,8,20,30,40] 67) (.reg 0 (.ite 2454 r1 (.ite 2456 (r4.2 == r3.2) (.ite 2458 (r5.2 == r3.2) (.us [(2,2454),(7,2456),(12,2458)] (.ln 2578 ShieldRowT.row r4.1.rows (.use 14 2578 (.ln 2576 DoomRowT.row r5.1.rows (.use 17 2576 (.ret ((IntKind.i64.wrap ((r4.1.rows.length:Int)+(r5.1.rows.length:Int))) == 0))))))) (.us [(2,2454),(7,2456),(12,2458)] (.ret false))) (.us [(2,2454),(7,2456)] (.f1 2580 (.g false) (rfl:false=false) (.use 12 2580 (.ret false))))) (.use 2 2454 (.f1 2584 (.g false) (rfl:false=false) (.use 7 2584 (.f1 2582 (.g false) (rfl:false=false) (.use 12 2582 (.ret false)))))))) fun v1=>.ret v1)))))))))) (.sel 2451 (.ret r1))))))
theorem J3 (c:ContractT) (party:Int) (p:PosT) (res:Bool) (hd:xZ c party p=some res):APure C0 236 [.agg (ContractT.row c),.int .i64 party,.agg (PosT.row p)] (.bool res):=
  Plan.pure (iv:=fun res=>.bool res) (J2 c party p) (by kernel_rfl) (Plan.run_of hd (by kernel_rfl))
end Go.Proofs.YtmoedieenlaegaaGreatDoor
namespace Go.Proofs.YtmoedieenlaegaaGreatDoor
set_option linter.unusedSimpArgs false
set_option linter.unusedVariables false
set_option maxRecDepth 100000
theorem zdu (a b:Int):∃ r,iter (σ:=Int×Int) (ρ:=Int) (fun s2=>(bif (s2.2 == 0) then some (.inr s2.1) else (Option.bind (ZA .u64 s2.1 s2.2) fun e2=>some (.inl (s2.2,e2))))) (a,b)=some r:=by
  have:=Vt (f:=fun s2:Int×Int=>(bif (s2.2 == 0) then some (.inr s2.1) else (Option.bind (ZA .u64 s2.1 s2.2) fun e2=>some (.inl (s2.2,e2))))) (fun _=>True) (fun _:Int=>True) (fun s=>s.2.natAbs) (fun s _=>by
    by_cases h:s.2=0
    · exact ⟨.inr s.1,by simp [h],trivial⟩
    · refine ⟨.inl (s.2,s.1.tmod s.2),by simp [beq_eq_false_iff_ne.2 h,h,ZA],trivial,?_⟩
      show (s.1.tmod s.2).natAbs < s.2.natAbs
      rw [Int.natAbs_tmod]
      exact Nat.mod_lt _ (by omega)) (a,b) trivial
  obtain ⟨r,h,_⟩:=this
  exact ⟨r,h⟩
theorem VT (l:List Int) (hl:l.length < 1000):∃ r,vV l=some r:=by
  unfold vV
  obtain ⟨o,h1,h2⟩:=xy (n:=l.length) (s0:=(0:Int)) (f:=(fun i1 s1=>(Option.bind (Option.bind (ze l (i1:Int)) fun e1=>(Option.bind (iter (σ:=Int×Int) (ρ:=Int) (fun s2=>(bif (s2.2 == 0) then some (.inr s2.1) else (Option.bind (ZA .u64 s2.1 s2.2) fun e2=>some (.inl (s2.2,e2))))) (s1,e1)) (fun (y1:Int)=>some y1))) fun (v1:Int)=>some (.inl v1)))) (fun _ _=>True) (fun _:Unit=>False) (by omega) trivial (fun i s hi _=>by
    obtain ⟨r,hr⟩:=zdu s l[i]
    exact ⟨.inl r,by simp only [zO,List.getElem?_eq_getElem hi,Option.bind_some,hr],trivial⟩)
  rw [h1]
  cases o with
  | inl s=>exact ⟨s,rfl⟩
  | inr r=>exact h2.elim
theorem ky (n:Int):∃ r,xN n=some r:=by
  unfold xN;simp only [zk];exact ⟨_,rfl⟩
noncomputable def rvB (r:Ratio):Bool:=(qX r).getD false
theorem QG (r:Ratio):qX r=some (rvB r):=by
  have:∃ b,qX r=some b:=by
    unfold qX
    obtain ⟨a,ha⟩:=ky r.num
    obtain ⟨b,hb⟩:=ky r.den
    obtain ⟨g,hg⟩:=VT [a,b] (by simp)
    simp only [ha,hb,hg,zk,Option.bind_some]
    exact ⟨_,rfl⟩
  obtain ⟨b,hb⟩:=this
  unfold rvB;rw [hb];rfl
def zhn (x:Option (Int×Bool)):Bool:=(x.getD (0,false)).2
theorem zfZ {x:Option (Int×Bool)} {r:Int×Bool} (h:x=some r):x=some (r.1,zhn x):=by subst h;rfl
noncomputable def quB (l:List UnitT):Bool:=zhn (q6 l)
theorem X5 (t:List UnitT) (i:Nat) (hi:i < t.length) (ht:t.length < 1000):∃ b,xO t i=some b:=by
  unfold xO
  have hs:kG t 0 (i:Int)=some (t.take i):=by
    unfold kG;rw [if_pos ⟨by omega,by omega,by omega⟩];simp
  have hf:forR (σ:=Unit) (ρ:=Unit) ((t.take i).length:Int) (fun i1 s1=>(Option.bind (ze (t.take i) (i1:Int)) fun e3=>(bif (e3.name.toList == t[i].name.toList) then some (.inr ()) else some (.inl ())))) ()=some (match (List.range (t.take i).length).find? (fun j=>!(match (t.take i)[j]? with | some e=>!(e.name.toList == t[i].name.toList) | none=>true)) with | none=>.inl () | some j=>.inr ()):=by
    refine jN _ (fun _=>()) (by simp;omega) (fun j hj => ?_)
    simp only [zO,List.getElem?_eq_getElem hj,Option.bind_some]
    cases ((t.take i)[j].name.toList == t[i].name.toList)<;>rfl
  rw [zx (List.getElem?_eq_getElem hi)]
  simp only [Option.bind_some]
  rw [hs]
  simp only [Option.bind_some]
  rw [hf]
  simp only [QG,zk,Option.bind_some,Qy]
  split
  all_goals simp only [Sum.elim_inl,Sum.elim_inr,zk]
  · by_cases hb:0≤t[i].base∧t[i].base < t.length
    · obtain ⟨h1,h2⟩:=jj hb.1 hb.2
      simp only [h2,Option.bind_some,zk]
      exact ⟨_,rfl⟩
    · by_cases h1:0≤t[i].base
      · have:¬ t[i].base < t.length:=fun h=>hb ⟨h1,h⟩
        simp only [h1,this,decide_true,decide_false,cond_true,cond_false,Option.bind_some,zk]
        exact ⟨_,rfl⟩
      · simp only [h1,decide_false,cond_false,Option.bind_some,zk]
        exact ⟨_,rfl⟩
  · exact ⟨_,rfl⟩
theorem X6 (l:List UnitT) (hl:l.length < 1000):∃ k,q6 l=some (k,quB l):=by
  have:∃ r,q6 l=some r:=by
    unfold q6
    obtain ⟨o,h1,h2⟩:=xy (n:=l.length) (s0:=()) (f:=(fun i1 s1=>(Option.bind (xO l (i1:Int)) fun r1=>(bif r1 then some (.inl ()) else some (.inr (i1:Int)))))) (fun _ _=>True) (fun _:Int=>True) (by omega) trivial (fun i s hi _=>by
      obtain ⟨b,hb⟩:=X5 l i hi hl
      cases b with
      | true=>exact ⟨.inl (),by simp [hb],trivial⟩
      | false=>exact ⟨.inr i,by simp [hb],trivial⟩)
    rw [h1]
    cases o with
    | inl s=>exact ⟨_,rfl⟩
    | inr r=>exact ⟨_,rfl⟩
  obtain ⟨r,hr⟩:=this
  exact ⟨r.1,zfZ hr⟩
def xG (nh:Nat) (r:Int):Bool:=decide (0≤r)&&decide (r < nh)
theorem QH (c:ContractT) (r:Int):qY c r=some (xG c.holders.length r):=by
  simp only [qY,zk,Option.bind_some,xG,Bool.cond_false_right]
noncomputable def Kh (r:Ratio):Bool:=decide (0 < r.num)&&rvB r
theorem X7 (r:Ratio):jO r=some (Kh r):=by
  simp only [jO,QG,zk,Option.bind_some,Kh,Bool.cond_false_right]
def Ji (r:Ratio):Bool:=r.num == 0&&(r.den == 1&&true)
noncomputable def WL (nh nu:Nat) (parties:Int) (a:ActT):Bool:=
  bif xG nh a.role then
    (bif a.kind == 1 then (a.give == 0&&(a.to == -1||xG nh a.to))&&(bif a.unit == -1 then Ji a.lot else (decide (0≤a.unit)&&(decide (a.unit < nu)&&Kh a.lot)))
    else (a.kind == 2||a.kind == 3)&&(xG nh a.give&&(decide (0≤a.to)&&(decide (a.to < parties)&&(a.unit == -1&&Ji a.lot)))))
  else a.kind == 1&&(a.role == -1&&(a.give == 0&&((a.to == -1||xG nh a.to)&&(a.unit == -1&&Ji a.lot))))
theorem zbL (c:ContractT) (a:ActT):wz c a=some (WL c.holders.length c.units.length c.parties a):=by
  simp only [wz,QH,X7,vW,Option.bind_some,zk,WL,Ji]
  cases xG c.holders.length a.role<;>cases (a.kind == 1)<;>cases (a.give == 0)<;>cases (a.to == -1)<;>cases (xG c.holders.length a.to)<;>cases (a.unit == -1) <;>
    simp only [cond_true,cond_false,Bool.not_true,Bool.not_false,Option.bind_some,Bool.true_or,Bool.false_or,Bool.true_and,Bool.false_and,zk,Bool.cond_false_right,Bool.cond_self,Bool.and_false] <;>
    first | rfl | (cases (a.role == -1)<;>rfl) | (cases (a.kind == 2)<;>rfl)
def yp (parties:Int) (hs:List Int):Bool:=hs.all fun h=>decide (0≤h)&&decide (h < parties)
theorem zho (c:ContractT) (hp:c.parties < 4611686018427387904) (hl:c.holders.length < 4611686018427387904):XQ c=some (yp c.parties c.holders):=by
  unfold XQ
  have hin:∀ (i:Nat) (hi:i < c.holders.length),(Option.bind (α:=Unit ⊕ Unit) (Option.bind (forR (σ:=Unit) (ρ:=Unit) c.parties (fun i2 s2=>(Option.bind (ze c.holders (i:Int)) fun e1=>(bif (e1 == (i2:Int)) then some (.inr ()) else some (.inl ())))) ()) (Sum.elim (fun (s2:Unit)=>some (.inr ())) (fun (y1:Unit)=>some (.inl ())))) (Sum.elim (fun (v1:Unit)=>some (.inl ())) (fun (y2:Unit)=>some (.inr ())))) =
      some (bif decide (0≤c.holders[i])&&decide (c.holders[i] < c.parties) then (.inl ():Unit ⊕ Unit) else .inr ()):=fun i hi=>by
    obtain ⟨o,h1,h2⟩:=Vs (n:=c.parties) (s0:=()) (f:=(fun i2 s2=>(Option.bind (ze c.holders (i:Int)) fun e1=>(bif (e1 == (i2:Int)) then some (.inr ()) else some (.inl ()))))) (fun k _=>∀ j:Nat,j < k→c.holders[i]≠(j:Int)) (fun _:Unit=>0≤c.holders[i]∧c.holders[i] < c.parties) hp (fun j hj=>by omega) (fun k s hk hI=>by
      simp only [zO,List.getElem?_eq_getElem hi,Option.bind_some]
      by_cases he:c.holders[i]=(k:Int)
      · exact ⟨.inr (),by simp [he],by show 0≤c.holders[i]∧c.holders[i] < c.parties;omega⟩
      · refine ⟨.inl (),by rw [beq_eq_false_iff_ne.2 he];rfl,fun j hj => ?_⟩
        rcases Nat.lt_or_ge j k with h | h
        · exact hI j h
        · obtain rfl:j=k:=by omega
          exact he)
    rw [h1]
    cases o with
    | inl s=>
      have:¬ (0≤c.holders[i]∧c.holders[i] < c.parties):=fun h=>h2 c.holders[i].toNat (by omega) (by omega)
      have hb:(decide (0≤c.holders[i])&&decide (c.holders[i] < c.parties))=false:=by
        rw [Bool.eq_false_iff];simp only [ne_eq,Bool.and_eq_true,decide_eq_true_eq];exact this
      rw [hb];rfl
    | inr r=>
      have hb:(decide (0≤c.holders[i])&&decide (c.holders[i] < c.parties))=true:=by
        simp only [Bool.and_eq_true,decide_eq_true_eq];exact h2
      rw [hb];rfl
  rw [jN (fun i=>match c.holders[i]? with | some h=>decide (0≤h)&&decide (h < c.parties) | none=>true) (fun _=>()) hl (fun i hi=>by
    rw [hin i hi];simp only [List.getElem?_eq_getElem hi])]
  cases hf:(List.range c.holders.length).find? (fun j=>!(match c.holders[j]? with | some h=>decide (0≤h)&&decide (h < c.parties) | none=>true)) with
  | none=>
    simp only [Option.bind_some,Sum.elim_inl]
    have:yp c.parties c.holders=true:=List.all_eq_true.2 fun h hh=>by
      obtain ⟨i,hi,rfl⟩:=List.getElem_of_mem hh
      have:=we hf i hi
      simpa only [List.getElem?_eq_getElem hi] using this
    rw [this]
  | some k=>
    simp only [Option.bind_some,Sum.elim_inr]
    obtain ⟨h1,h2,_⟩:=wg hf
    have:yp c.parties c.holders=false:=by
      rw [Bool.eq_false_iff]
      intro h
      have:=List.all_eq_true.1 h c.holders[k] (List.getElem_mem h1)
      simp only [List.getElem?_eq_getElem h1] at h2
      rw [h2] at this;cases this
    rw [this]
noncomputable def QJ (days:Int) (off:List Int):Bool:=((Option.bind (forR (σ:=Int) (ρ:=Unit) (off.length:Int) (fun i2 s2=>(Option.bind (ze off (i2:Int)) fun e2=>(Option.bind (bif decide (e2≤s2) then some true else some (decide (days≤e2))) fun v2=>(bif v2 then some (.inr ()) else some (.inl e2))))) (-1)) (Sum.elim (fun (s2:Int)=>some true) (fun (y2:Unit)=>some false)))).getD false
theorem ziZ (days:Int) (off:List Int) (hl:off.length < 4611686018427387904):(Option.bind (forR (σ:=Int) (ρ:=Unit) (off.length:Int) (fun i2 s2=>(Option.bind (ze off (i2:Int)) fun e2=>(Option.bind (bif decide (e2≤s2) then some true else some (decide (days≤e2))) fun v2=>(bif v2 then some (.inr ()) else some (.inl e2))))) (-1)) (Sum.elim (fun (s2:Int)=>some true) (fun (y2:Unit)=>some false)))=some (QJ days off):=by
  obtain ⟨o,h1,h2⟩:=xy (n:=off.length) (s0:=(-1:Int)) (f:=(fun i2 s2=>(Option.bind (ze off (i2:Int)) fun e2=>(Option.bind (bif decide (e2≤s2) then some true else some (decide (days≤e2))) fun v2=>(bif v2 then some (.inr ()) else some (.inl e2)))))) (fun _ _=>True) (fun _:Unit=>True) hl trivial (fun i s hi _=>by
    simp only [zO,List.getElem?_eq_getElem hi,Option.bind_some,zk]
    cases (bif decide (off[i]≤s) then true else decide (days≤off[i])) with
    | true=>exact ⟨.inr (),rfl,trivial⟩
    | false=>exact ⟨.inl _,rfl,trivial⟩)
  unfold QJ
  rw [h1]
  cases o<;>rfl
noncomputable def jp (c:ContractT):Bool:=
  !(decide (c.parties < 1))&&(!(decide (c.days < 1))&&(!((c.holders.length:Int) == 0)&&(yp c.parties c.holders&&(quB c.units&&(c.acts.all (WL c.holders.length c.units.length c.parties)&&QJ c.days c.off)))))
theorem x3 {α:Type} {l:List α} {f:Nat→Unit→Option (Unit ⊕ Unit)} (p:α→Bool) (hl:l.length < 4611686018427387904) (h:∀ (i:Nat) (hi:i < l.length),f i ()=some (bif p l[i] then .inl () else .inr ())) :
    forR (l.length:Int) f ()=some (bif l.all p then .inl () else .inr ()):=by
  rw [jN (fun i=>match l[i]? with | some x=>p x | none=>true) (fun _=>()) hl (fun i hi=>by rw [h i hi];simp only [List.getElem?_eq_getElem hi])]
  cases hf:(List.range l.length).find? (fun j=>!(match l[j]? with | some x=>p x | none=>true)) with
  | none=>
    have:l.all p=true:=List.all_eq_true.2 fun x hx=>by
      obtain ⟨i,hi,rfl⟩:=List.getElem_of_mem hx
      have:=we hf i hi
      simpa only [List.getElem?_eq_getElem hi] using this
    rw [this];rfl
  | some k=>
    obtain ⟨h1,h2,_⟩:=wg hf
    have:l.all p=false:=by
      rw [Bool.eq_false_iff]
      intro h
      have:=List.all_eq_true.1 h l[k] (List.getElem_mem h1)
      simp only [List.getElem?_eq_getElem h1] at h2
      rw [h2] at this;cases this
    rw [this];rfl
theorem zeE (c:ContractT) (hp:c.parties < 4611686018427387904) (hh:c.holders.length < 4611686018427387904) (hu:c.units.length < 1000) (ha:c.acts.length < 1000) (ho:c.off.length < 4611686018427387904):ZM c=some (jp c):=by
  unfold ZM
  obtain ⟨k,hk⟩:=X6 c.units hu
  have hacts:=x3 (l:=c.acts) (f:=(fun i1 s1=>(Option.bind (ze c.acts (i1:Int)) fun e1=>(Option.bind (wz c e1) fun r3=>(bif r3 then some (.inl ()) else some (.inr ())))))) (WL c.holders.length c.units.length c.parties) (by omega) (fun i hi=>by
    simp only [zO,List.getElem?_eq_getElem hi,Option.bind_some,zbL,zk])
  rw [zho c hp hh,hk]
  simp only [Option.bind_some]
  rw [hacts]
  simp only [Option.bind_some]
  rw [ziZ c.days c.off ho]
  simp only [Option.bind_some,zk,jp]
  cases decide (c.parties < 1)<;>cases decide (c.days < 1)<;>cases ((c.holders.length:Int) == 0)<;>cases yp c.parties c.holders<;>cases quB c.units<;>cases c.acts.all (WL c.holders.length c.units.length c.parties) <;>
    simp only [cond_true,cond_false,Bool.not_true,Bool.not_false,Option.bind_some,Bool.true_and,Bool.false_and,Sum.elim_inl,Sum.elim_inr]
def kN (acts:List ActT) (a:Int):Bool:=match ze acts a with
  | some e=>e.kind == 1&&e.role == -1
  | none=>false
theorem Vy (c:ContractT) (a:Int):jI c a=some (kN c.acts a):=by
  unfold jI kN
  by_cases h:0≤a∧a < c.acts.length
  · obtain ⟨h1,h2⟩:=jj h.1 h.2
    simp only [h2,h.1,h.2,decide_true,cond_true,Option.bind_some,zk,Bool.cond_false_right]
  · rw [Y8 h]
    by_cases h1:0≤a
    · have:¬ a < c.acts.length:=fun h2=>h ⟨h1,h2⟩
      simp only [h1,this,decide_true,decide_false,cond_true,cond_false,Option.bind_some]
    · simp only [h1,decide_false,cond_false,Option.bind_some]
def X8 (nh:Nat) (acts:List ActT) (k:ClauseT):Bool:=
  bif k.kind == 4 then k.role == -1&&(k.need == 1&&(k.grace == 0 && !k.final))
  else (xG nh k.role && !kN acts k.act)&&(bif k.kind == 1 then decide (1≤k.need)&&(decide (k.need≤9)&&(decide (0≤k.grace)&&decide (k.grace≤400)))
    else bif k.kind == 2 then k.need == 1&&k.grace == 0 else k.kind == 3&&(k.need == 1&&(k.grace == 0 && !k.final)))
theorem zac (c:ContractT) (k:ClauseT):vD c k=some (X8 c.holders.length c.acts k):=by
  simp only [vD,QH,Vy,Option.bind_some,zk,X8]
  cases (k.kind == 4)<;>cases xG c.holders.length k.role<;>cases kN c.acts k.act<;>cases (k.kind == 1)<;>cases (k.kind == 2)<;>cases (k.kind == 3) <;>
    simp only [cond_true,cond_false,Bool.not_true,Bool.not_false,Option.bind_some,Bool.true_and,Bool.false_and,Bool.and_false,Bool.cond_false_right,zk]
def X9 (n:Nat) (i:Int) (s:CondT):Bool := !(decide (s.clause < 0))&&(!(decide ((n:Int)≤s.clause))&&(!(s.clause == i)&&(!(decide (s.is < 1)) && !(decide (4 < s.is)))))
noncomputable def zdv (nh:Nat) (units:List UnitT) (k:ClauseT):Bool:=
  (k.kind == 1||k.kind == 2)&&((match ze units k.unit with | some u=>u.kind == 2 | none=>false)&&(Kh k.value&&xG nh k.to))
def QK (acts:List ActT) (k:ClauseT):Bool:=(k.pause == -1&&k.resume == -1)||(!(k.pause == k.resume)&&(kN acts k.pause&&kN acts k.resume))
noncomputable def wZ (nh:Nat) (units:List UnitT) (acts:List ActT) (n:Nat) (i:Int) (k:ClauseT):Bool:=
  (!(decide (k.act < 0))&&(!(decide ((acts.length:Int)≤k.act))&&(!(decide (k.after < 1)) && !(decide (400 < k.after))))) &&
  ((X8 nh acts k && !(decide (8 < (k.start.length:Int)))) &&
  (k.start.all (X9 n i) &&
  (QK acts k &&
  (bif k.unit == -1 then Ji k.value&&k.to == -1 else zdv nh units k))))
theorem VU (c:ContractT) (i:Nat) (k:ClauseT) (hk:c.clauses[i]?=some k) (hs:k.start.length < 4611686018427387904):xT c i=some (wZ c.holders.length c.units c.acts c.clauses.length i k):=by
  unfold xT
  have hst:=x3 (l:=k.start) (f:=(fun i1 s1=>(Option.bind (ze k.start (i1:Int)) fun e2=>(Option.bind (bif decide (e2.clause < 0) then some true else (bif decide ((c.clauses.length:Int)≤e2.clause) then some true else (bif (e2.clause == (i:Int)) then some true else (bif decide (e2.is < 1) then some true else some (decide (4 < e2.is)))))) fun v3=>(bif v3 then some (.inr ()) else some (.inl ())))))) (X9 c.clauses.length i) hs (fun j hj=>by
    simp only [zO,List.getElem?_eq_getElem hj,Option.bind_some,zk,X9]
    cases decide (k.start[j].clause < 0)<;>cases decide ((c.clauses.length:Int)≤k.start[j].clause)<;>cases (k.start[j].clause == (i:Int))<;>cases decide (k.start[j].is < 1)<;>cases decide (4 < k.start[j].is)<;>rfl)
  have hu:(bif decide (0≤k.unit) then (bif decide (k.unit < (c.units.length:Int)) then (Option.bind (ze c.units k.unit) fun e3=>(bif (e3.kind == 2) then (Option.bind (jO k.value) fun r5=>(bif r5 then (Option.bind (qY c k.to) fun r6=>some r6) else some false)) else some false)) else some false) else some false) =
      some ((match ze c.units k.unit with | some u=>u.kind == 2 | none=>false)&&(Kh k.value&&xG c.holders.length k.to)):=by
    by_cases h:0≤k.unit∧k.unit < c.units.length
    · obtain ⟨h1,h2⟩:=jj h.1 h.2
      simp only [h2,h.1,h.2,decide_true,cond_true,Option.bind_some,zk,Bool.cond_false_right,X7,QH]
    · rw [Y8 h]
      by_cases h1:0≤k.unit
      · have:¬ k.unit < c.units.length:=fun h2=>h ⟨h1,h2⟩
        simp only [h1,this,decide_true,decide_false,cond_true,cond_false,Bool.false_and]
      · simp only [h1,decide_false,cond_false,Bool.false_and]
  have hp:(Option.bind (bif (k.pause == (-1)) then some (!(k.resume == (-1))) else some true) fun v4=>(bif v4 then (Option.bind (bif (k.pause == k.resume) then some true else (Option.bind (jI c k.pause) fun r2=>(bif r2 then (Option.bind (jI c k.resume) fun r3=>some (!r3)) else some true))) fun v5=>(bif v5 then some (.inr ()) else some (.inl ()))) else some (.inl ()))) =
      some (bif QK c.acts k then (.inl ():Unit ⊕ Unit) else .inr ()):=by
    simp only [Vy,QK,zk,Option.bind_some]
    cases (k.pause == -1)<;>cases (k.resume == -1)<;>cases (k.pause == k.resume)<;>cases kN c.acts k.pause<;>cases kN c.acts k.resume<;>rfl
  rw [zx hk]
  simp only [Option.bind_some]
  rw [hst]
  simp only [Option.bind_some]
  rw [hp,hu]
  simp only [Option.bind_some,zac,vW,zk,wZ,zdv,Ji]
  cases decide (k.act < 0)<;>simp only [cond_true,cond_false,Bool.not_true,Bool.not_false,Bool.true_and,Bool.false_and,Option.bind_some]
  cases decide ((c.acts.length:Int)≤k.act)<;>simp only [cond_true,cond_false,Bool.not_true,Bool.not_false,Bool.true_and,Bool.false_and,Option.bind_some]
  cases decide (k.after < 1)<;>simp only [cond_true,cond_false,Bool.not_true,Bool.not_false,Bool.true_and,Bool.false_and,Option.bind_some]
  cases decide (400 < k.after)<;>simp only [cond_true,cond_false,Bool.not_true,Bool.not_false,Bool.true_and,Bool.false_and,Option.bind_some]
  cases X8 c.holders.length c.acts k<;>simp only [cond_true,cond_false,Bool.not_true,Bool.not_false,Bool.true_and,Bool.false_and,Option.bind_some]
  cases decide (8 < (k.start.length:Int))<;>simp only [cond_true,cond_false,Bool.not_true,Bool.not_false,Bool.true_and,Bool.false_and,Option.bind_some]
  cases k.start.all (X9 c.clauses.length i)<;>simp only [cond_true,cond_false,Bool.not_true,Bool.not_false,Bool.true_and,Bool.false_and,Option.bind_some,Sum.elim_inl,Sum.elim_inr]
  cases QK c.acts k<;>simp only [cond_true,cond_false,Bool.true_and,Bool.false_and,Sum.elim_inl,Sum.elim_inr]
  cases (k.kind == 1)<;>cases (k.kind == 2)<;>simp only [cond_true,cond_false,Bool.cond_false_right,Bool.true_or,Bool.or_true,Bool.or_self,Bool.true_and,Bool.false_and]
def yT (c:ContractT):Bool:=decide (12 < c.parties)||(decide (2000 < c.days)||(decide (12 < (c.holders.length:Int))||(decide (20 < (c.units.length:Int))||(decide (60 < (c.acts.length:Int))||decide (400 < (c.clauses.length:Int))))))
noncomputable def clB (c:ContractT) (i:Nat):Bool:=match c.clauses[i]? with
  | some k=>wZ c.holders.length c.units c.acts c.clauses.length i k
  | none=>true
noncomputable def qv (c:ContractT):Int×Int:=
  bif yT c then (3,-1) else bif jp c then (match (List.range c.clauses.length).find? (fun j=>!clB c j) with | none=>(0,-1) | some j=>(1,(j:Int))) else (1,-1)
theorem zf0 (c:ContractT) (ho:c.off.length < 4611686018427387904) (hs:∀ k∈c.clauses,k.start.length < 4611686018427387904):wW c=some (qv c):=by
  unfold wW qv
  simp only [zk,Bool.cond_true_left,Option.bind_some]
  show (bif yT c then _ else _)=_
  cases hlim:yT c with
  | true=>rfl
  | false=>
    simp only [yT,Bool.or_eq_false_iff,decide_eq_false_iff_not] at hlim
    obtain ⟨h1,h2,h3,h4,h5,h6⟩:=hlim
    simp only [cond_false,zeE c (by omega) (by omega) (by omega) (by omega) ho,Option.bind_some]
    cases jp c with
    | false=>rfl
    | true=>
      simp only [cond_true]
      rw [jN (fun i=>clB c i) (fun i=>(i:Int)) (by omega) (fun i hi=>by
        rw [VU c i c.clauses[i] (List.getElem?_eq_getElem hi) (hs _ (List.getElem_mem hi))]
        simp only [Option.bind_some,clB,List.getElem?_eq_getElem hi,zk])]
      cases (List.range c.clauses.length).find? (fun j=>!clB c j)<;>rfl
end Go.Proofs.YtmoedieenlaegaaGreatDoor
namespace Go.Proofs.YtmoedieenlaegaaGreatDoor
open Go.RowKit
set_option linter.unusedSimpArgs false
set_option linter.unusedVariables false
set_option maxRecDepth 100000
theorem LOk.lt {α:Type} {n:Nat} {p:α→Prop} {l:List α} (h:LOk n p l) (hn:0 < n):l.length < 4611686018427387904:=by
  have h1:=h.1
  have h2:reachBytes≤140737488355328:=by decide +kernel
  have:=Nat.le_mul_of_pos_right l.length hn
  omega
theorem ContractT.Ok.valid {c:ContractT} (hc:c.Ok):wW c=some (qv c):=
  zf0 c (hc.off.lt (by omega)) (fun k hk=>(hc.clauses.2 k hk).start.lt (by omega))
inductive ValidIs (c:ContractT):Int×Int→Prop where
  | lim (h:yT c=true):ValidIs c (3,-1)
  | frame (h:yT c=false) (hf:jp c=false):ValidIs c (1,-1)
  | bad (h:yT c=false) (hf:jp c=true) (i:Nat) (hi:i < c.clauses.length) (hb:clB c i=false) (hl:∀ j,j < i→clB c j=true):ValidIs c (1,(i:Int))
  | ok (h:yT c=false) (hf:jp c=true) (ha:∀ j,j < c.clauses.length→clB c j=true):ValidIs c (0,-1)
theorem zeF (c:ContractT):ValidIs c (qv c):=by
  unfold qv
  cases h:yT c with
  | true=>exact .lim h
  | false=>
    simp only [cond_false]
    cases hf:jp c with
    | false=>exact .frame h hf
    | true=>
      simp only [cond_true]
      cases hq:(List.range c.clauses.length).find? (fun j=>!clB c j) with
      | none=>exact .ok h hf (we hq)
      | some j=>obtain ⟨h1,h2,h3⟩:=wg hq;exact .bad h hf j h1 h2 h3
theorem kz {c:ContractT} (h:(qv c).1=0):yT c=false∧jp c=true∧(∀ j,j < c.clauses.length→clB c j=true)∧qv c=(0,-1):=by
  have hv:=zeF c
  generalize hr:qv c=r at h hv ⊢
  cases hv with
  | lim _=>simp at h
  | frame _ _=>simp at h
  | bad _ _ i _ _ _=>simp at h
  | ok a b d=>exact ⟨a,b,d,rfl⟩
theorem zhp (x y:Int):Zb x y=some (decide (x < y)):=by
  simp [Zb,ZN]
theorem zhq {a b:Int} (h0:0≤a) (h1:a≤b) (h2:b < 4611686018427387904):Qr .u64 .u64 (IntKind.u64.wrap (IntKind.i64.wrap (a+b))) 1=some ((a+b) / 2):=by
  rw [qI (by omega) (by omega),zd0 (by omega) (by omega)]
  unfold Qr
  rw [if_neg (by omega)]
  have:(2:Int) ^ (min (1:Int).toNat IntKind.u64.bits)=2:=by decide
  rw [this,Int.fdiv_eq_ediv_of_nonneg _ (by omega)]
def xr (l:List Int) (v:Int):Option Int:=if v∈l then some (l.idxOf v:Int) else none
theorem zeG {l:List Int} (hn:l.Nodup) {i:Nat} (hi:i < l.length):l.idxOf l[i]=i:=by
  have h1:l.idxOf l[i] < l.length:=List.idxOf_lt_length_iff.2 (List.getElem_mem hi)
  have h2:=List.getElem_idxOf h1
  exact (List.getElem?_inj h1 hn).1 (by rw [List.getElem?_eq_getElem h1,List.getElem?_eq_getElem hi,h2])
theorem zf1 {l:List Int} (hn:l.Nodup) {i:Nat} {v:Int} (h:l[i]?=some v):xr l v=some (i:Int):=by
  obtain ⟨hi,rfl⟩:=List.getElem?_eq_some_iff.1 h
  unfold xr
  rw [if_pos (List.getElem_mem hi),zeG hn hi]
theorem WM (l:List Int) (v:Int) (hs:l.Pairwise (· < ·)) (hl:l.length < 4611686018427387904):∃ r:Int,jk l v=some (r,(xr l v).isSome)∧∀ p,xr l v=some p→r=p:=by
  have hp:=List.pairwise_iff_getElem.1 hs
  unfold jk
  have hit:Ret (iter (σ:=Int×Int) (ρ:=Int) (fun s1=>(bif decide (s1.1 < s1.2) then (Option.bind (Qr .u64 .u64 (IntKind.u64.wrap (IntKind.i64.wrap (s1.1+s1.2))) 1) fun e1=>(Option.bind (ze l (IntKind.i64.wrap e1)) fun e2=>(Option.bind (Zb e2 v) fun r1=>(bif r1 then some (.inl ((IntKind.i64.wrap ((IntKind.i64.wrap e1)+1)),s1.2)) else some (.inl (s1.1,(IntKind.i64.wrap e1))))))) else some (.inr s1.1))) (0,(l.length:Int)))
      (fun r=>0≤r∧r≤l.length∧(∀ (j:Nat) (hj:j < l.length),(j:Int) < r→l[j] < v)∧(∀ (j:Nat) (hj:j < l.length),r≤(j:Int)→v≤l[j])):=by
    refine Ret.iter (fun s=>0≤s.1∧s.1≤s.2∧s.2≤l.length∧(∀ (j:Nat) (hj:j < l.length),(j:Int) < s.1→l[j] < v)∧(∀ (j:Nat) (hj:j < l.length),s.2≤(j:Int)→v≤l[j])) (fun s=>(s.2 - s.1).toNat) ⟨by simp,by simp,by simp,fun j hj h=>by simp only at h;omega,fun j hj h=>by simp only at h;omega⟩ ?_
    rintro ⟨lo,hi⟩ ⟨h1,h2,h3,h4,h5⟩
    simp only at h1 h2 h3 h4 h5 ⊢
    refine Ret.ite (fun hb => ?_) (fun hb => ?_)
    · have hlt:=of_decide_eq_true hb
      rw [zhq h1 h2 (by omega)]
      simp only [Option.bind_some]
      have hm1:lo≤(lo+hi) / 2:=by omega
      have hm2:(lo+hi) / 2 < hi:=by omega
      generalize (lo+hi) / 2=m at hm1 hm2 ⊢
      rw [qI (by omega) (by omega)]
      obtain ⟨hi',e⟩:=jj (l:=l) (n:=m) (by omega) (by omega)
      rw [e,qI (by omega) (by omega)]
      simp only [Option.bind_some,zhp]
      refine Ret.ite (fun hb2 => ?_) (fun hb2 => ?_)
      · have hv:=of_decide_eq_true hb2
        refine Ret.some ⟨⟨by show 0≤m+1;omega,by show m+1≤hi;omega,h3,fun j hj hjm => ?_,h5⟩,by show (hi - (m+1)).toNat < (hi - lo).toNat;omega⟩
        have hjm:(j:Int) < m+1:=hjm
        rcases Nat.lt_or_ge j m.toNat with h | h
        · have:=hp j m.toNat hj hi' h;omega
        · obtain rfl:j=m.toNat:=by omega
          exact hv
      · have hv:¬ l[m.toNat] < v:=of_decide_eq_false hb2
        refine Ret.some ⟨⟨h1,by show lo≤m;omega,by show m≤(l.length:Int);omega,h4,fun j hj hjm => ?_⟩,by show (m - lo).toNat < (hi - lo).toNat;omega⟩
        have hjm:m≤(j:Int):=hjm
        rcases Nat.lt_or_ge m.toNat j with h | h
        · have:=hp m.toNat j hi' hj h;omega
        · obtain rfl:j=m.toNat:=by omega
          omega
    · have hlt:¬ lo < hi:=of_decide_eq_false hb
      have:lo=hi:=by omega
      subst this
      exact Ret.some ⟨h1,h3,h4,h5⟩
  obtain ⟨r,hr,hr0,hr1,hr2,hr3⟩:=hit
  rw [hr]
  simp only [Option.bind_some]
  by_cases hlt:r < (l.length:Int)
  · obtain ⟨hi',e⟩:=jj (l:=l) (n:=r) hr0 hlt
    simp only [hlt,decide_true,cond_true,e,Option.bind_some]
    by_cases hv:l[r.toNat]=v
    · have hpos:xr l v=some (r.toNat:Int):=zf1 (zcY hs) (by rw [List.getElem?_eq_getElem hi',hv])
      refine ⟨r,by simp [hv,hpos],fun p hp => ?_⟩
      rw [hpos] at hp;cases hp;omega
    · have hn:xr l v=none:=by
        unfold xr
        rw [if_neg]
        intro hm
        obtain ⟨j,hj,e2⟩:=List.getElem_of_mem hm
        rcases Nat.lt_trichotomy j r.toNat with h | h | h
        · have:=hr2 j hj (by omega);omega
        · subst h;exact hv e2
        · have h6:=hp r.toNat j hi' hj h
          have h7:=hr3 r.toNat hi' (by omega)
          omega
      refine ⟨r,?_,fun p hp=>by rw [hn] at hp;cases hp⟩
      rw [hn]
      have:(l[r.toNat] == v)=false:=beq_eq_false_iff_ne.2 hv
      simp [this,yy]
  · have hn:xr l v=none:=by
      unfold xr
      rw [if_neg]
      intro hm
      obtain ⟨j,hj,e2⟩:=List.getElem_of_mem hm
      have:=hr2 j hj (by omega);omega
    refine ⟨r,?_,fun p hp=>by rw [hn] at hp;cases hp⟩
    rw [hn]
    simp [hlt]
theorem zf2 {days:Int} {off:List Int} (hl:off.length < 4611686018427387904) (h:QJ days off=true):(off.length:Int)≤days∨off.length=0:=by
  have e:QJ days off=yO days (-1) off:=by
    unfold QJ
    rw [zfl days off hl (-1)]
    cases yO days (-1) off<;>rfl
  rw [e] at h
  rcases Y9 h with h1 | h1<;>omega
structure Small (c:ContractT):Prop where
  parties:1≤c.parties∧c.parties≤12
  days:1≤c.days∧c.days≤2000
  holders:c.holders.length≤12
  units:c.units.length≤20
  acts:c.acts.length≤60
  clauses:c.clauses.length≤400
  off:c.off.length≤2000
  start:∀ k∈c.clauses,k.start.length≤8
  cond:∀ (i:Nat) (k:ClauseT),c.clauses[i]?=some k→∀ s∈k.start,0≤s.clause∧s.clause < c.clauses.length∧s.clause≠(i:Int)
theorem q7 {c:ContractT} (ho:c.off.length < 4611686018427387904) (h:(qv c).1=0):Small c:=by
  obtain ⟨h1,h2,h3,_⟩:=kz h
  simp only [yT,Bool.or_eq_false_iff,decide_eq_false_iff_not] at h1
  obtain ⟨a1,a2,a3,a4,a5,a6⟩:=h1
  simp only [jp,Bool.and_eq_true,Bool.not_eq_true',decide_eq_false_iff_not] at h2
  obtain ⟨b1,b2,b3,b4,b5,b6,b7⟩:=h2
  have hcl:∀ (i:Nat) (k:ClauseT),c.clauses[i]?=some k→wZ c.holders.length c.units c.acts c.clauses.length i k=true:=fun i k hk=>by
    have:=h3 i (List.getElem?_eq_some_iff.1 hk).1
    simp only [clB,hk] at this
    exact this
  refine ⟨⟨by omega,by omega⟩,⟨by omega,by omega⟩,by omega,by omega,by omega,by omega,?_,fun k hk => ?_,fun i k hk s hs => ?_⟩
  · rcases zf2 ho b7 with h | h<;>omega
  · obtain ⟨i,hi,e⟩:=List.getElem_of_mem hk
    have:=hcl i k (by rw [←e];exact List.getElem?_eq_getElem hi)
    simp only [wZ,Bool.and_eq_true,Bool.not_eq_true',decide_eq_false_iff_not] at this
    omega
  · have:=hcl i k hk
    simp only [wZ,Bool.and_eq_true] at this
    have:=List.all_eq_true.1 this.2.2.1 s hs
    simp only [X9,Bool.and_eq_true,Bool.not_eq_true',decide_eq_false_iff_not,beq_eq_false_iff_ne] at this
    exact ⟨by omega,by omega,this.2.2.1⟩
theorem QL {α:Type} {by_:Nat} {l:List α} (h:l.length*by_≤140737488355328):ja by_ l=some l:=by unfold ja;rw [if_pos h]
theorem kA {f:Nat→Unit→Option (Unit ⊕ Unit)} {n:Nat} (p:Nat→Bool) (hn:n < 4611686018427387904) (h:∀ j,j < n→f j ()=some (bif p j then .inl () else .inr ())) :
    forR (n:Int) f ()=some (bif (List.range n).all p then .inl () else .inr ()):=by
  rw [jN p (fun _=>()) hn h]
  cases hf:(List.range n).find? (fun j=>!p j) with
  | none=>
    have:(List.range n).all p=true:=List.all_eq_true.2 fun j hj=>we hf j (List.mem_range.1 hj)
    rw [this];rfl
  | some k=>
    obtain ⟨h1,h2,_⟩:=wg hf
    have:(List.range n).all p=false:=by
      rw [Bool.eq_false_iff]
      intro h
      have:=List.all_eq_true.1 h k (List.mem_range.2 h1)
      rw [h2] at this;cases this
    rw [this];rfl
theorem vF {α ρ:Type} {f:Nat→List α→Option (List α ⊕ ρ)} (s0:List α) (F:Nat→α→α) (hl:s0.length < 4611686018427387904)
    (h:∀ (i:Nat) (m:α) (s:List α),s0[i]?=some m→s.length=s0.length→s[i]?=some m→f i s=some (.inl (s.set i (F i m)))) :
    forR (s0.length:Int) f s0=some (.inl (s0.mapIdx F)):=by
  obtain ⟨o,h1,h2⟩:=xy (n:=s0.length) (s0:=s0) (f:=f) (fun i s=>s.length=s0.length∧∀ j,s[j]?=if j < i then (s0[j]?).map (F j) else s0[j]?) (fun _=>False) hl ⟨rfl,fun j=>by simp⟩ (fun i s hi ⟨a,b⟩=>by
    have hs:s[i]?=some s0[i]:=by rw [b i,if_neg (by omega),List.getElem?_eq_getElem hi]
    refine ⟨_,h i s0[i] s (List.getElem?_eq_getElem hi) a hs,by simpa using a,fun j => ?_⟩
    rw [List.getElem?_set]
    by_cases hij:i=j
    · subst hij
      rw [if_pos rfl,if_pos (by omega),if_pos (by omega),List.getElem?_eq_getElem hi];rfl
    · rw [if_neg hij,b j]
      by_cases h3:j < i
      · rw [if_pos h3,if_pos (by omega)]
      · rw [if_neg h3,if_neg (by omega)])
  rw [h1]
  cases o with
  | inr r=>exact h2.elim
  | inl s=>
    obtain ⟨a,b⟩:=h2
    congr 2
    refine List.ext_getElem? fun j => ?_
    rw [b j,List.getElem?_mapIdx]
    by_cases hj:j < s0.length
    · rw [if_pos hj]
    · rw [if_neg hj,List.getElem?_eq_none (by omega)];rfl
def jT (marks:List MarkT) (s:CondT):Bool:=match ze marks s.clause with
  | some m=>bif s.is == 1 then !(m.status == 0) else bif s.is == 2 then m.status == 3 else bif s.is == 3 then m.status == 4 else bif s.is == 4 then m.status == 5 else false
  | none=>false
def jF (ks:List ClauseT) (marks:List MarkT) (i:Nat):Bool:=match ks[i]?,marks[i]? with
  | some k,some m=>(m.status == 0 && !k.waived)&&k.start.all (jT marks)
  | _,_=>false
def yU (parties:Int) (k:ClauseT) (m:MarkT):Bool:=
  !(k.waived||(decide (m.left < 1)||(m.paused&&k.pause == -1)))&&(((m.got == 0)||(k.kind == 1 && !(decide (m.got < 0)||decide (k.need≤m.got)))) &&
    (bif k.kind == 4 then m.bearer == -1 else decide (0≤m.bearer)&&decide (m.bearer < parties)))
def Yd (m:MarkT):Bool:=(m.status == 0)&&((m.left == 0)&&((m.got == 0)&&((m.bearer == (-1))&&((m.paused == false)&&true))))
def zbM (parties:Int) (m:MarkT):Bool:=(m.left == 0)&&(decide (0≤m.got)&&(decide (m.got≤9)&&(decide ((-1)≤m.bearer)&&(decide (m.bearer < parties) && !m.paused))))
def jf (parties:Int) (k:ClauseT) (m:MarkT):Bool:=
  bif m.status == 0 then !k.waived&&Yd m else bif m.status == 1 then decide (m.left≤k.after)&&yU parties k m
  else bif m.status == 2 then k.kind == 1&&(decide (m.left≤k.grace)&&yU parties k m) else (m.status == 3||(m.status == 4||m.status == 5))&&zbM parties m
theorem zbN (c:ContractT) (k:ClauseT) (m:MarkT):wA c k m=some (yU c.parties k m):=by
  simp only [wA,yU,zk,Option.bind_some]
  cases k.waived<;>cases decide (m.left < 1)<;>cases m.paused<;>cases (k.pause == -1)<;>cases (m.got == 0)<;>cases (k.kind == 1)<;>cases decide (m.got < 0)<;>cases decide (k.need≤m.got)<;>cases (k.kind == 4)<;>cases decide (0≤m.bearer)<;>rfl
theorem zad (c:ContractT) (i:Nat) (k:ClauseT) (m:MarkT) (hk:c.clauses[i]?=some k):vE c i m=some (jf c.parties k m):=by
  unfold vE
  rw [zx hk]
  simp only [Option.bind_some,zbN,zk,jf,Yd,zbM]
  cases (m.status == 0)
  · cases (m.status == 1)
    · cases (m.status == 2)
      · cases (m.status == 3)<;>cases (m.status == 4)<;>cases (m.status == 5)<;>cases (m.left == 0)<;>cases decide (0≤m.got)<;>cases decide (m.got≤9)<;>cases decide ((-1)≤m.bearer)<;>cases decide (m.bearer < c.parties)<;>rfl
      · cases (k.kind == 1)<;>cases decide (m.left≤k.grace)<;>rfl
    · cases decide (m.left≤k.after)<;>rfl
  · cases k.waived<;>rfl
theorem zaE (c:ContractT) (s:StateT) (i:Nat) (k:ClauseT) (m:MarkT) (hk:c.clauses[i]?=some k) (hm:s.marks[i]?=some m) (hst:k.start.length < 4611686018427387904)
    (hc:∀ x∈k.start,0≤x.clause∧x.clause < s.marks.length):wX c s i=some (jF c.clauses s.marks i):=by
  unfold wX jF
  rw [zx hm,zx hk,hk,hm]
  simp only [Option.bind_some]
  rw [x3 (l:=k.start) (jT s.marks) hst (fun j hj=>by
    obtain ⟨h0,h1⟩:=hc _ (List.getElem_mem hj)
    obtain ⟨h2,h3⟩:=jj h0 h1
    simp only [zO,List.getElem?_eq_getElem hj,Option.bind_some,h3,jT,zk])]
  simp only [Option.bind_some,zk]
  cases (m.status == 0)<;>cases k.waived<;>cases k.start.all (jT s.marks)<;>rfl
def Jj (acts:List ActT) (used:List Bool) (i:Nat):Bool:=match acts[i]?,used[i]? with
  | some a,some u=>!(u&&a.kind == 1)
  | _,_=>false
def yV (c:ContractT) (marks:List MarkT) (i:Nat):Bool:=match c.clauses[i]?,marks[i]? with
  | some k,some m=>jf c.parties k m && !jF c.clauses marks i
  | _,_=>false
noncomputable def vsB (c:ContractT) (s:StateT):Bool:=
  ((qv c).1 == 0)&&((!(decide (s.day < 0))&&(!(decide (c.days < s.day))&&((s.holders.length:Int) == c.holders.length&&((s.used.length:Int) == c.acts.length&&(s.marks.length:Int) == c.clauses.length)))) &&
    (yp c.parties s.holders&&((List.range s.used.length).all (Jj c.acts s.used)&&(List.range s.marks.length).all (yV c s.marks))))
theorem yW (c:ContractT) (s:StateT) (hc:c.Ok):qP c s=some (vsB c s):=by
  unfold qP vsB
  rw [hc.valid]
  simp only [Option.bind_some]
  cases hv:((qv c).1 == 0) with
  | false=>rfl
  | true=>
    have sm:=q7 (hc.off.lt (by omega)) (beq_iff_eq.1 hv)
    simp only [cond_true,zk,Option.bind_some,Bool.true_and]
    cases h1:decide (s.day < 0)<;>cases h2:decide (c.days < s.day)<;>cases h3:((s.holders.length:Int) == c.holders.length)<;>cases h4:((s.used.length:Int) == c.acts.length)<;>cases h5:((s.marks.length:Int) == c.clauses.length)<;>try rfl
    simp only [cond_true,cond_false,Bool.not_true,Bool.not_false,Bool.true_and]
    have e3:=beq_iff_eq.1 h3
    have e4:=beq_iff_eq.1 h4
    have e5:=beq_iff_eq.1 h5
    have:=sm.holders
    have:=sm.acts
    have:=sm.clauses
    rw [x3 (l:=s.holders) (fun h=>decide (0≤h)&&decide (h < c.parties)) (by omega) (fun j hj=>by
      simp only [zO,List.getElem?_eq_getElem hj,Option.bind_some,zk]
      generalize s.holders[j]=h
      by_cases a:h < 0
      · have b:¬ 0≤h:=by omega
        simp [a,b]
      · have b:0≤h:=by omega
        by_cases d:h < c.parties
        · have d':¬ c.parties≤h:=by omega
          simp [a,b,d,d']
        · have d':c.parties≤h:=by omega
          simp [a,b,d,d'])]
    rw [kA (n:=s.used.length) (Jj c.acts s.used) (by omega) (fun j hj=>by
      have hj':j < c.acts.length:=by omega
      simp only [zO,List.getElem?_eq_getElem hj,List.getElem?_eq_getElem hj',Option.bind_some,zk,Jj]
      cases s.used[j]<;>cases (c.acts[j].kind == 1)<;>rfl)]
    rw [kA (n:=s.marks.length) (yV c s.marks) (by omega) (fun j hj=>by
      have hj':j < c.clauses.length:=by omega
      have hk:=List.getElem?_eq_getElem hj'
      have hm:=List.getElem?_eq_getElem hj
      simp only [zO,hm,Option.bind_some]
      rw [zad c j _ _ hk,zaE c s j _ _ hk hm (by have:=sm.start _ (List.getElem_mem hj');omega) (fun x hx=>by have:=sm.cond j _ hk x hx;omega)]
      simp only [Option.bind_some,yV,hk,hm]
      cases jf c.parties c.clauses[j] s.marks[j]<;>cases jF c.clauses s.marks j<;>rfl)]
    simp only [yp,Option.bind_some]
    cases s.holders.all (fun h=>decide (0≤h)&&decide (h < c.parties))<;>cases (List.range s.used.length).all (Jj c.acts s.used)<;>cases (List.range s.marks.length).all (yV c s.marks)<;>rfl
structure VS (c:ContractT) (s:StateT):Prop where
  cv:(qv c).1=0
  day:0≤s.day∧s.day≤c.days
  lh:s.holders.length=c.holders.length
  lu:s.used.length=c.acts.length
  lm:s.marks.length=c.clauses.length
  hold:∀ h∈s.holders,0≤h∧h < c.parties
  used:∀ (i:Nat) (a:ActT),c.acts[i]?=some a→s.used[i]?=some true→a.kind≠1
  mrk:∀ (i:Nat) (k:ClauseT) (m:MarkT),c.clauses[i]?=some k→s.marks[i]?=some m→jf c.parties k m=true
  rdy:∀ i,i < c.clauses.length→jF c.clauses s.marks i=false
theorem zfn {c:ContractT} {s:StateT} (h:vsB c s=true):VS c s:=by
  simp only [vsB,Bool.and_eq_true,Bool.not_eq_true',decide_eq_false_iff_not,beq_iff_eq,List.all_eq_true,List.mem_range,yp,decide_eq_true_eq] at h
  obtain ⟨h1,⟨h2,h3,h4,h5,h6⟩,h7,h8,h9⟩:=h
  refine ⟨h1,⟨by omega,by omega⟩,by omega,by omega,by omega,fun x hx=>h7 x hx,fun i a ha hu hk => ?_,fun i k m hk hm => ?_,fun i hi => ?_⟩
  · have:=h8 i (by have:=(List.getElem?_eq_some_iff.1 hu).1;exact this)
    simp only [Jj,ha,hu,hk] at this
    cases this
  · have:=h9 i (List.getElem?_eq_some_iff.1 hm).1
    simp only [yV,hk,hm,Bool.and_eq_true] at this
    exact this.1
  · have hi':i < s.marks.length:=by omega
    have:=h9 i hi'
    simp only [yV,List.getElem?_eq_getElem hi,List.getElem?_eq_getElem hi',Bool.and_eq_true,Bool.not_eq_true'] at this
    exact this.2
theorem QM {c:ContractT} {s:StateT} (h:VS c s):vsB c s=true:=by
  have hd:=h.day
  have h4:=h.lh
  have h5:=h.lu
  have h6:=h.lm
  simp only [vsB,Bool.and_eq_true,Bool.not_eq_true',decide_eq_false_iff_not,beq_iff_eq,List.all_eq_true,List.mem_range,yp,decide_eq_true_eq]
  refine ⟨h.cv,⟨by omega,by omega,by omega,by omega,by omega⟩,fun x hx=>h.hold x hx,fun i hi => ?_,fun i hi => ?_⟩
  · have hi':i < c.acts.length:=by omega
    have ha:=List.getElem?_eq_getElem hi'
    have hu:=List.getElem?_eq_getElem hi
    simp only [Jj,ha,hu]
    cases hq:s.used[i] with
    | false=>rfl
    | true=>
      have:=h.used i _ ha (by rw [hu,hq])
      simp [this]
  · have hi':i < c.clauses.length:=by omega
    have ha:=List.getElem?_eq_getElem hi'
    have hu:=List.getElem?_eq_getElem hi
    simp only [yV,ha,hu,Bool.and_eq_true,Bool.not_eq_true']
    exact ⟨h.mrk i _ _ ha hu,h.rdy i hi'⟩
structure KV (c:ContractT) (i:Nat) (k:ClauseT):Prop where
  act:0≤k.act∧k.act < c.acts.length
  after:1≤k.after∧k.after≤400
  kind:k.kind=1∨k.kind=2∨k.kind=3∨k.kind=4
  role:k.kind=4∨(0≤k.role∧k.role < c.holders.length)
  need:1≤k.need∧k.need≤9
  grace:0≤k.grace∧k.grace≤400
  start:k.start.length≤8
  cond:∀ s∈k.start,0≤s.clause∧s.clause < c.clauses.length
  pause:(k.pause = -1∧k.resume = -1)∨(kN c.acts k.pause=true∧kN c.acts k.resume=true)
theorem yq {c:ContractT} (ho:c.off.length < 4611686018427387904) (h:(qv c).1=0) {i:Nat} {k:ClauseT} (hk:c.clauses[i]?=some k):KV c i k:=by
  have sm:=q7 ho h
  obtain ⟨_,_,h3,_⟩:=kz h
  have:=h3 i (List.getElem?_eq_some_iff.1 hk).1
  simp only [clB,hk,wZ,Bool.and_eq_true,Bool.not_eq_true',decide_eq_false_iff_not] at this
  obtain ⟨⟨a1,a2,a3,a4⟩,⟨a5,a6⟩,a7,a8,_⟩:=this
  have hkd:(k.kind=1∨k.kind=2∨k.kind=3∨k.kind=4)∧(k.kind=4∨(0≤k.role∧k.role < c.holders.length))∧(1≤k.need∧k.need≤9)∧(0≤k.grace∧k.grace≤400):=by
    unfold X8 at a5
    cases h4:(k.kind == 4) with
    | true=>
      rw [h4] at a5
      simp only [cond_true,Bool.and_eq_true,beq_iff_eq] at a5
      have:=beq_iff_eq.1 h4
      omega
    | false=>
      rw [h4] at a5
      simp only [cond_false,Bool.and_eq_true,xG,decide_eq_true_eq] at a5
      obtain ⟨⟨b1,_⟩,b2⟩:=a5
      cases h1:(k.kind == 1) with
      | true=>
        rw [h1] at b2
        simp only [cond_true,Bool.and_eq_true,decide_eq_true_eq] at b2
        have:=beq_iff_eq.1 h1
        omega
      | false=>
        rw [h1] at b2
        cases h2:(k.kind == 2) with
        | true=>
          rw [h2] at b2
          simp only [cond_true,cond_false,Bool.and_eq_true,beq_iff_eq] at b2
          have:=beq_iff_eq.1 h2
          omega
        | false=>
          rw [h2] at b2
          simp only [cond_false,Bool.and_eq_true,beq_iff_eq] at b2
          omega
  refine ⟨⟨by omega,by omega⟩,⟨by omega,by omega⟩,hkd.1,hkd.2.1,hkd.2.2.1,hkd.2.2.2,by omega,fun s hs => ?_,?_⟩
  · have:=sm.cond i k hk s hs;omega
  · simp only [QK,Bool.or_eq_true,Bool.and_eq_true,beq_iff_eq,Bool.not_eq_true'] at a8
    rcases a8 with h | h
    · exact .inl h
    · exact .inr h.2
structure AV2 (c:ContractT) (a:ActT):Prop where
  role:(a.role = -1∧a.kind=1)∨(0≤a.role∧a.role < c.holders.length)
  kind:a.kind=1∨((a.kind=2∨a.kind=3)∧(0≤a.give∧a.give < c.holders.length)∧(0≤a.to∧a.to < c.parties))
theorem Ye {c:ContractT} (h:(qv c).1=0) {i:Nat} {a:ActT} (ha:c.acts[i]?=some a):AV2 c a:=by
  obtain ⟨_,h2,_,_⟩:=kz h
  simp only [jp,Bool.and_eq_true,Bool.not_eq_true',decide_eq_false_iff_not] at h2
  obtain ⟨_,_,_,_,_,b6,_⟩:=h2
  have:=List.all_eq_true.1 b6 a (List.mem_of_getElem? ha)
  unfold WL at this
  cases hr:xG c.holders.length a.role with
  | true=>
    rw [hr] at this
    simp only [xG,Bool.and_eq_true,decide_eq_true_eq] at hr
    cases h1:(a.kind == 1) with
    | true=>exact ⟨.inr hr,.inl (beq_iff_eq.1 h1)⟩
    | false=>
      rw [h1] at this
      simp only [cond_true,cond_false,Bool.and_eq_true,Bool.or_eq_true,beq_iff_eq,xG,decide_eq_true_eq] at this
      exact ⟨.inr hr,.inr ⟨this.1,this.2.1,by omega⟩⟩
  | false=>
    rw [hr] at this
    simp only [cond_false,Bool.and_eq_true,beq_iff_eq] at this
    exact ⟨.inl ⟨this.2.1,this.1⟩,.inl this.1⟩
theorem zhr {c:ContractT} (ho:c.off.length < 4611686018427387904) (h:(qv c).1=0):c.off.Pairwise (· < ·):=by
  obtain ⟨_,h2,_,_⟩:=kz h
  simp only [jp,Bool.and_eq_true] at h2
  have b7:=h2.2.2.2.2.2.2
  have e:QJ c.days c.off=yO c.days (-1) c.off:=by
    unfold QJ
    rw [zfl c.days c.off ho (-1)]
    cases yO c.days (-1) c.off<;>rfl
  rw [e] at b7
  exact (Vu b7).2
def MOk (c:ContractT) (ms:List MarkT):Prop:=ms.length=c.clauses.length∧∀ (i:Nat) (k:ClauseT) (m:MarkT),c.clauses[i]?=some k→ms[i]?=some m→jf c.parties k m=true
def NR (c:ContractT) (ms:List MarkT):Prop:=∀ i,i < c.clauses.length→jF c.clauses ms i=false
def xC (k:ClauseT) (b:Int):MarkT:={status:=1,left:=k.after,got:=0,bearer:=b,paused:=false}
def StR (c:ContractT) (ms ms':List MarkT):Prop:=∀ (i:Nat) (m m':MarkT),ms[i]?=some m→ms'[i]?=some m'→m'=m∨(m.status=0∧∃ k b,c.clauses[i]?=some k∧m'=xC k b)
def vG (ms:List MarkT):Nat:=ms.countP (fun m=>m.status == 0)
def kB (hs:List Int) (k:ClauseT):Int:=bif k.kind == 4 then -1 else hs[k.role.toNat]?.getD 0
def QN (ks:List ClauseT) (ms:List MarkT):Nat→Nat→Prop
  | 0,_=>False
  | n+1,i=>∃ k m,ks[i]?=some k∧ms[i]?=some m∧m.status=0∧k.waived=false∧∀ x∈k.start,jT ms x=true∨(x.is=1∧QN ks ms n x.clause.toNat)
def Sta (ks:List ClauseT) (ms:List MarkT) (i:Nat):Prop:=∃ n,QN ks ms n i
def Ki (c:ContractT) (hs:List Int) (ms r:List MarkT):Prop:=∀ (i:Nat) (k:ClauseT) (m:MarkT),c.clauses[i]?=some k→ms[i]?=some m→r[i]?=some m∨(Sta c.clauses ms i∧r[i]?=some (xC k (kB hs k)))
def zhs (c:ContractT) (hs:List Int) (ms r:List MarkT):Prop:=∀ (i:Nat) (k:ClauseT) (m:MarkT),c.clauses[i]?=some k→ms[i]?=some m→(¬ Sta c.clauses ms i∧r[i]?=some m)∨(Sta c.clauses ms i∧r[i]?=some (xC k (kB hs k)))
theorem Vz {ks:List ClauseT} {ms:List MarkT}:∀ (n i:Nat),QN ks ms n i→QN ks ms (n+1) i
  | 0,i,h=>h.elim
  | n+1,i,⟨k,m,h1,h2,h3,h4,h5⟩=>⟨k,m,h1,h2,h3,h4,fun x hx=>(h5 x hx).imp id fun h=>⟨h.1,Vz n _ h.2⟩⟩
theorem WN {ks:List ClauseT} {ms:List MarkT} {n i:Nat} (h:QN ks ms n i):∀ d,QN ks ms (n+d) i
  | 0=>h
  | d+1=>Vz _ _ (WN h d)
theorem zaF {ks:List ClauseT} {ms:List MarkT}:∀ (l:List CondT),(∀ x∈l,jT ms x=true∨(x.is=1∧Sta ks ms x.clause.toNat))→∃ n,∀ x∈l,jT ms x=true∨(x.is=1∧QN ks ms n x.clause.toNat)
  | [],_=>⟨0,fun x hx=>by cases hx⟩
  | y::l,h=>by
    obtain ⟨n,hn⟩:=zaF l (fun x hx=>h x (List.mem_cons_of_mem _ hx))
    rcases h y (List.mem_cons_self ..) with h1 | ⟨h1,d,h2⟩
    · refine ⟨n,fun x hx => ?_⟩
      rcases List.mem_cons.1 hx with rfl | hx
      · exact .inl h1
      · exact hn x hx
    · refine ⟨n+d,fun x hx => ?_⟩
      rcases List.mem_cons.1 hx with rfl | hx
      · exact .inr ⟨h1,by rw [Nat.add_comm];exact WN h2 n⟩
      · exact (hn x hx).imp id fun h=>⟨h.1,WN h.2 d⟩
theorem Wa {ms:List MarkT} {x:CondT} {m:MarkT} (hx:ze ms x.clause=some m) (h1:m.status=1):jT ms x=(x.is == 1):=by
  simp only [jT,hx,h1]
  cases (x.is == 1)<;>cases (x.is == 2)<;>cases (x.is == 3)<;>cases (x.is == 4)<;>rfl
theorem zdw {ms:List MarkT} {x:CondT} {m:MarkT} (hx:ze ms x.clause=some m) (h1:m.status=0):jT ms x=false:=by
  simp only [jT,hx,h1]
  cases (x.is == 1)<;>cases (x.is == 2)<;>cases (x.is == 3)<;>cases (x.is == 4)<;>rfl
structure StartP (c:ContractT) (hs:List Int) (ms r:List MarkT):Prop where
  ok:MOk c r
  nr:NR c r
  rel:StR c ms r
  same:NR c ms→r=ms
  sta:zhs c hs ms r
theorem zbO {ks:List ClauseT} {ms:List MarkT} {i:Nat} {m:MarkT} (h:Sta ks ms i) (hm:ms[i]?=some m):m.status=0:=by
  obtain ⟨n,h⟩:=h
  cases n with
  | zero=>exact h.elim
  | succ n=>obtain ⟨k,m',_,h2,h3,_⟩:=h;rw [hm] at h2;cases h2;exact h3
theorem zdx {c:ContractT} {hs:List Int} {ms r:List MarkT} (hl:ms.length=c.clauses.length) (hr:r.length=c.clauses.length) (hI:Ki c hs ms r) {i:Nat} {k:ClauseT} (hk:c.clauses[i]?=some k) (hcd:∀ x∈k.start,0≤x.clause∧x.clause < c.clauses.length) (hy:jF c.clauses r i=true):Sta c.clauses ms i:=by
  have hi:=(List.getElem?_eq_some_iff.1 hk).1
  have hm:=List.getElem?_eq_getElem (show i < ms.length by omega)
  have hmr:=List.getElem?_eq_getElem (show i < r.length by omega)
  simp only [jF,hk,hmr,Bool.and_eq_true,Bool.not_eq_true',beq_iff_eq,List.all_eq_true] at hy
  obtain ⟨⟨h0,hw⟩,hc⟩:=hy
  rcases hI i k _ hk hm with h | ⟨h,_⟩
  · rw [hmr] at h
    have e:=Option.some.inj h
    obtain ⟨n,hn⟩:=zaF (ks:=c.clauses) (ms:=ms) k.start (fun x hx=>by
      obtain ⟨x0,x1⟩:=hcd x hx
      have hxi:=jj (l:=ms) (n:=x.clause) x0 (by omega)
      obtain ⟨a1,a2⟩:=hxi
      obtain ⟨b1,b2⟩:=jj (l:=r) (n:=x.clause) x0 (by omega)
      have hkx:=List.getElem?_eq_getElem (show x.clause.toNat < c.clauses.length by omega)
      have hx':=hc x hx
      rcases hI x.clause.toNat _ _ hkx (List.getElem?_eq_getElem a1) with h2 | ⟨h2,h3⟩
      · left
        rw [List.getElem?_eq_getElem b1] at h2
        simp only [jT,b2,Option.some.inj h2] at hx'
        simp only [jT,a2];exact hx'
      · right
        rw [List.getElem?_eq_getElem b1] at h3
        rw [Wa b2 (by rw [Option.some.inj h3];rfl)] at hx'
        exact ⟨beq_iff_eq.1 hx',h2⟩)
    exact ⟨n+1,k,_,hk,hm,by rw [←e];exact h0,hw,hn⟩
  · exact h
theorem zf3 {c:ContractT} {hs:List Int} {ms r:List MarkT} (hl:ms.length=c.clauses.length) (hr:r.length=c.clauses.length) (hI:Ki c hs ms r) (hn:NR c r) (hcd:∀ (i:Nat) (k:ClauseT),c.clauses[i]?=some k→∀ x∈k.start,0≤x.clause∧x.clause < c.clauses.length):zhs c hs ms r:=by
  have key:∀ (n i:Nat) (k:ClauseT),QN c.clauses ms n i→c.clauses[i]?=some k→r[i]?=some (xC k (kB hs k)):=by
    intro n
    induction n with
    | zero=>intro i k h;exact h.elim
    | succ n ih=>
      intro i k h hk
      have hi:=(List.getElem?_eq_some_iff.1 hk).1
      obtain ⟨k',m,h1,h2,h3,h4,h5⟩:=h
      rw [hk] at h1
      cases h1
      rcases hI i k m hk h2 with h | ⟨_,h⟩
      · exfalso
        have:=hn i hi
        have hy:jF c.clauses r i=true:=by
          simp only [jF,hk,h,h3,h4,beq_self_eq_true,Bool.not_false,Bool.and_true,Bool.true_and,List.all_eq_true]
          intro x hx
          obtain ⟨x0,x1⟩:=hcd i k hk x hx
          obtain ⟨a1,a2⟩:=jj (l:=ms) (n:=x.clause) x0 (by omega)
          obtain ⟨b1,b2⟩:=jj (l:=r) (n:=x.clause) x0 (by omega)
          have hkx:=List.getElem?_eq_getElem (show x.clause.toNat < c.clauses.length by omega)
          rcases h5 x hx with h6 | ⟨h6,h7⟩
          · rcases hI x.clause.toNat _ _ hkx (List.getElem?_eq_getElem a1) with g | ⟨g,g2⟩
            · rw [List.getElem?_eq_getElem b1] at g
              simp only [jT,a2] at h6
              simp only [jT,b2,Option.some.inj g];exact h6
            · rw [zdw a2 (zbO g (List.getElem?_eq_getElem a1))] at h6;cases h6
          · have g:=ih _ _ h7 hkx
            rw [List.getElem?_eq_getElem b1] at g
            rw [Wa b2 (by rw [Option.some.inj g];rfl),h6];rfl
        rw [hy] at this;cases this
      · exact h
  intro i k m hk hm
  by_cases hs':Sta c.clauses ms i
  · obtain ⟨n,h⟩:=hs'
    exact .inr ⟨⟨n,h⟩,key n i k h hk⟩
  · rcases hI i k m hk hm with h | ⟨h,_⟩
    · exact .inl ⟨hs',h⟩
    · exact absurd h hs'
theorem zdy {ms:List MarkT} {i:Nat} {m m':MarkT} (h:ms[i]?=some m) (h0:m.status=0) (h1:m'.status≠0):vG (ms.set i m') < vG ms:=by
  obtain ⟨hi,rfl⟩:=List.getElem?_eq_some_iff.1 h
  unfold vG
  rw [List.countP_set hi]
  have hp:0 < ms.countP (fun m=>m.status == 0):=List.countP_pos_iff.2 ⟨_,List.getElem_mem hi,by simp [h0]⟩
  simp only [h0,beq_self_eq_true,if_true,beq_iff_eq,h1,if_false]
  omega
noncomputable def yb (c:ContractT) (day:Int) (hs:List Int) (us:List Bool) (ms:List MarkT):Option (List MarkT):=xU c day hs hs.length us us.length ms ms.length
theorem ZV (n:Nat):eqN n n=some ⟨rfl⟩:=by unfold eqN;rw [dif_pos rfl]
theorem yc {a b:Nat} (h:a=b):eqN a b=some ⟨h⟩:=by unfold eqN;rw [dif_pos h]
theorem VA (c:ContractT) (day:Int) (hs:List Int) (us:List Bool) (ms:List MarkT) (ho:c.off.length < 4611686018427387904) (hv:(qv c).1=0) (hh:hs.length=c.holders.length) (hb:∀ h∈hs,0≤h∧h < c.parties) (hm:MOk c ms) :
    Ret (yb c day hs us ms) (StartP c hs ms):=by
  have sm:=q7 ho hv
  have hcl:=sm.clauses
  unfold yb xU
  refine Ret.bind (P:=fun r=>StartP c hs ms r) (Ret.iter (fun s=>MOk c s.2∧StR c ms s.2∧(NR c ms→s.2=ms)∧Ki c hs ms s.2∧(s.1=false→NR c s.2)) (fun s=>2*vG s.2+(if s.1 then 1 else 0)) ⟨hm,fun i m m' h1 h2=>.inl (by simp only at h2;rw [h1] at h2;exact (Option.some.inj h2).symm),fun _=>rfl,fun i k m h1 h2=>.inl h2,fun h=>by cases h⟩ ?_) (fun r hr=>Ret.some hr)
  have hl0:=hm.1
  have hcd:∀ (i:Nat) (k:ClauseT),c.clauses[i]?=some k→∀ x∈k.start,0≤x.clause∧x.clause < c.clauses.length:=fun i k hk=>(yq ho hv hk).cond
  rintro ⟨b,ms1⟩ ⟨hok,hrel,hsame,hsta,hnr⟩
  cases b with
  | false=>exact Ret.some ⟨hok,hnr rfl,hrel,hsame,zf3 hl0 hok.1 hsta (hnr rfl) hcd⟩
  | true=>
    simp only [cond_true]
    refine Ret.bind (P:=fun o=>∃ s2:Bool×List MarkT,o=.inl s2∧MOk c s2.2∧StR c ms s2.2∧(NR c ms1→s2.2=ms1)∧Ki c hs ms s2.2∧(s2.1=false→s2.2=ms1∧NR c ms1)∧(s2.1=true→vG s2.2 < vG ms1))
      (Ret.forL (n:=c.clauses.length) (fun i s=>MOk c s.2∧StR c ms s.2∧(NR c ms1→s.2=ms1)∧Ki c hs ms s.2∧(s.1=false→s.2=ms1∧∀ j,j < i→jF c.clauses ms1 j=false)∧(s.1=true→vG s.2 < vG ms1)) (by omega) ⟨hok,hrel,fun _=>rfl,hsta,fun _=>⟨rfl,fun j hj=>by omega⟩,fun h=>by cases h⟩ ?_ (fun s h=>⟨s,rfl,h⟩)) ?_
    · rintro i ⟨b0,ms2⟩ hi ⟨ok2,rel2,same2,sta2,nr2,lt2⟩
      simp only at ok2 rel2 same2 sta2 nr2 lt2
      have hk:=List.getElem?_eq_getElem hi
      have hl2:=ok2.1
      have hi2:i < ms2.length:=by omega
      have hm2:=List.getElem?_eq_getElem hi2
      have kv:=yq ho hv hk
      have hmk:=ok2.2 i _ _ hk hm2
      rw [zx hk]
      simp only [Option.bind_some,ZV,yc (show ms.length=ms2.length by omega)]
      rw [zaE c _ i _ _ hk hm2 (by have:=kv.start;omega) (fun x hx=>by have:=kv.cond x hx;simp only;omega)]
      simp only [Option.bind_some]
      cases hr:jF c.clauses ms2 i with
      | false=>
        simp only [cond_false,Option.bind_some]
        refine Ret.some ⟨ok2,rel2,same2,sta2,fun hb=>⟨(nr2 hb).1,fun j hj => ?_⟩,lt2⟩
        rcases Nat.lt_or_ge j i with h | h
        · exact (nr2 hb).2 j h
        · obtain rfl:j=i:=by omega
          rw [←(nr2 hb).1];exact hr
      | true=>
        simp only [cond_true]
        have hr':=hr
        simp only [jF,hk,hm2,Bool.and_eq_true,Bool.not_eq_true',beq_iff_eq] at hr'
        obtain ⟨⟨h0,hw⟩,_⟩:=hr'
        have hbear:Ret (bif (c.clauses[i].kind == 4) then some (-1) else (Option.bind (zm hs.length c.clauses[i].role) fun k1=>(Option.bind (hs[k1]?) fun e2=>some e2))) (fun v=>v=kB hs c.clauses[i]∧bif c.clauses[i].kind == 4 then v = -1 else 0≤v∧v < c.parties):=by
          refine Ret.ite (fun h4=>Ret.some (by simp [h4,kB])) (fun h4 => ?_)
          have h4':c.clauses[i].kind≠4:=beq_eq_false_iff_ne.1 h4
          have hro:=kv.role.resolve_left h4'
          rw [zay hro.1 (by omega)]
          have hlt:c.clauses[i].role.toNat < hs.length:=by omega
          simp only [Option.bind_some,List.getElem?_eq_getElem hlt]
          exact Ret.some ⟨by simp [kB,h4,List.getElem?_eq_getElem hlt],by rw [h4];exact hb _ (List.getElem_mem hlt)⟩
        refine Ret.bind (P:=fun v:Bool×List MarkT=>∃ b,v=(true,ms2.set i (xC c.clauses[i] b))∧b=kB hs c.clauses[i]∧(bif c.clauses[i].kind == 4 then b = -1 else 0≤b∧b < c.parties)) (Ret.bind hbear fun v hv' => ?_) ?_
        · rw [zU (show i < ms.length by omega)]
          simp only [Option.bind_some,hm2]
          exact Ret.some ⟨v,rfl,hv'⟩
        · rintro _ ⟨b,rfl,hbe,hbv⟩
          have hnew:jf c.parties c.clauses[i] (xC c.clauses[i] b)=true:=by
            simp only [jf,xC,yU,hw]
            have h1:=kv.after
            have:¬ c.clauses[i].after < 1:=by omega
            cases h4:(c.clauses[i].kind == 4) with
            | true=>rw [h4] at hbv;simp only [cond_true] at hbv;subst hbv;simp [this]
            | false=>rw [h4] at hbv;simp only [cond_false] at hbv;simp [this,hbv]
          refine Ret.some ⟨⟨by simpa using hl2,fun j k m hj hmj => ?_⟩,fun j m m' h1 h2 => ?_,fun hn => ?_,fun j k m hj hmj => ?_,fun h=>by simp at h,fun _ => ?_⟩
          · rw [List.getElem?_set] at hmj
            by_cases hij:i=j
            · subst hij
              rw [if_pos rfl,if_pos hi2] at hmj
              rw [hk] at hj
              cases hj;cases hmj;exact hnew
            · rw [if_neg hij] at hmj;exact ok2.2 j k m hj hmj
          · simp only at h2
            rw [List.getElem?_set] at h2
            by_cases hij:i=j
            · subst hij
              rw [if_pos rfl,if_pos hi2] at h2
              cases h2
              refine .inr ⟨?_,_,b,hk,rfl⟩
              rcases rel2 i m _ h1 hm2 with h | ⟨h,_⟩
              · rw [←h];exact h0
              · exact h
            · rw [if_neg hij] at h2;exact rel2 j m m' h1 h2
          · have e:=same2 hn
            have:=hn i hi
            rw [←e,hr] at this
            cases this
          · show (ms2.set i (xC c.clauses[i] b))[j]?=some m∨Sta c.clauses ms j∧(ms2.set i (xC c.clauses[i] b))[j]?=some (xC k (kB hs k))
            rw [List.getElem?_set]
            by_cases hij:i=j
            · subst hij
              rw [if_pos rfl,if_pos hi2]
              rw [hk] at hj
              cases hj
              exact .inr ⟨zdx hl0 hl2 sta2 hk (hcd _ _ hk) hr,by rw [hbe]⟩
            · rw [if_neg hij];exact sta2 j k m hj hmj
          · have h3:=zdy (m':=xC c.clauses[i] b) hm2 h0 (by simp [xC])
            show vG (ms2.set i (xC c.clauses[i] b)) < vG ms1
            cases b0 with
            | true=>have:=lt2 rfl;omega
            | false=>have e:=(nr2 rfl).1;subst e;exact h3
    · rintro _ ⟨⟨b2,ms2⟩,rfl,ok2,rel2,same2,sta2,nr2,lt2⟩
      simp only at ok2 rel2 same2 sta2 nr2 lt2
      simp only [Sum.elim_inl]
      refine Ret.some ⟨⟨ok2,rel2,fun hn => ?_,sta2,fun hb2 => ?_⟩,?_⟩
      · have e:=hsame hn
        simp only at e
        subst e
        exact same2 hn
      · obtain ⟨e1,e2⟩:=nr2 hb2
        simp only;rw [e1];exact e2
      · simp only
        cases b2 with
        | true=>have:=lt2 rfl;simp;omega
        | false=>have:=(nr2 rfl).1;subst this;simp
def jG (m:MarkT):Bool:=m.status == 1||m.status == 2
theorem kC (m:MarkT):jh m=some (jG m):=by
  simp only [jh,zk,Option.bind_some,jG];cases (m.status == 1)<;>rfl
def kO (st:Int) (m:MarkT):MarkT:={m with status:=st,left:=0,paused:=false}
def yr (free:Bool) (k:ClauseT) (m:MarkT):MarkT:=
  bif jG m then (bif m.paused||(k.business&&free) then m else
    bif m.left - 1 == 0 then (bif k.kind == 1 then (bif m.status == 1&&decide (0 < k.grace) then {m with status:=2,left:=k.grace} else kO 4 m) else bif k.kind == 2 then kO 3 m else kO 5 m)
    else {m with left:=m.left - 1}) else m
def atK (c:ContractT) (F:ClauseT→MarkT→MarkT) (i:Nat) (m:MarkT):MarkT:=match c.clauses[i]? with | some k=>F k m | none=>m
structure RunV (c:ContractT) (k:ClauseT) (m:MarkT):Prop where
  waived:k.waived=false
  left:1≤m.left∧m.left≤400
  paused:m.paused=true→k.pause ≠ -1
  got:m.got=0∨(k.kind=1∧0≤m.got∧m.got < k.need)
  bearer:(k.kind=4∧m.bearer = -1)∨(k.kind≠4∧0≤m.bearer∧m.bearer < c.parties)
theorem q8 {p:Int} {k:ClauseT} {m:MarkT}:yU p k m=true↔k.waived=false∧1≤m.left∧(m.paused=true→k.pause ≠ -1)∧(m.got=0∨(k.kind=1∧0≤m.got∧m.got < k.need))∧((k.kind=4∧m.bearer = -1)∨(k.kind≠4∧0≤m.bearer∧m.bearer < p)):=by
  simp only [yU,Bool.and_eq_true,Bool.not_eq_true',Bool.or_eq_false_iff,decide_eq_false_iff_not,Bool.or_eq_true,beq_iff_eq]
  have e1:(m.paused&&k.pause == -1)=false↔(m.paused=true→k.pause ≠ -1):=by cases m.paused<;>simp
  have e2:(bif k.kind == 4 then m.bearer == -1 else decide (0≤m.bearer)&&decide (m.bearer < p))=true↔((k.kind=4∧m.bearer = -1)∨(k.kind≠4∧0≤m.bearer∧m.bearer < p)):=by
    cases h:(k.kind == 4) with
    | true=>have:=beq_iff_eq.1 h;simp [this]
    | false=>have:=beq_eq_false_iff_ne.1 h;simp [this]
  rw [e1,e2]
  constructor
  · rintro ⟨⟨a,b,d⟩,e,f⟩;exact ⟨a,by omega,d,by omega,f⟩
  · rintro ⟨a,b,d,e,f⟩;exact ⟨⟨a,by omega,d⟩,by omega,f⟩
theorem ve {p:Int} {k:ClauseT} {m:MarkT}:jf p k m=true↔(m.status=0∧k.waived=false∧Yd m=true)∨(m.status=1∧m.left≤k.after∧yU p k m=true)∨(m.status=2∧k.kind=1∧m.left≤k.grace∧yU p k m=true)∨((m.status=3∨m.status=4∨m.status=5)∧zbM p m=true):=by
  unfold jf
  by_cases h0:m.status=0
  · simp [h0]
  by_cases h1:m.status=1
  · simp [h1]
  by_cases h2:m.status=2
  · simp [h2]
  have e0:(m.status == 0)=false:=beq_eq_false_iff_ne.2 h0
  have e1:(m.status == 1)=false:=beq_eq_false_iff_ne.2 h1
  have e2:(m.status == 2)=false:=beq_eq_false_iff_ne.2 h2
  simp [e0,e1,e2,h0,h1,h2]
theorem wk {c:ContractT} {i:Nat} {k:ClauseT} {m:MarkT} (kv:KV c i k) (h:jf c.parties k m=true) (hr:jG m=true):RunV c k m∧yU c.parties k m=true∧(m.status=1∧m.left≤k.after∨m.status=2∧k.kind=1∧m.left≤k.grace):=by
  simp only [jG,Bool.or_eq_true,beq_iff_eq] at hr
  have ha:=kv.after
  have hg:=kv.grace
  rcases ve.1 h with ⟨h0,_⟩ | ⟨h0,h1,h2⟩ | ⟨h0,h1,h2,h3⟩ | ⟨h0,_⟩
  · omega
  · obtain ⟨a,b,d,e,f⟩:=q8.1 h2
    exact ⟨⟨a,⟨b,by omega⟩,d,e,f⟩,h2,.inl ⟨h0,h1⟩⟩
  · obtain ⟨a,b,d,e,f⟩:=q8.1 h3
    exact ⟨⟨a,⟨b,by omega⟩,d,e,f⟩,h3,.inr ⟨h0,h1,h2⟩⟩
  · omega
theorem Zl {c:ContractT} {i:Nat} {k:ClauseT} {m:MarkT} {st:Int} (kv:KV c i k) (rv:RunV c k m) (hp:0 < c.parties) (hst:st=3∨st=4∨st=5):jf c.parties k (kO st m)=true:=by
  refine ve.2 (.inr (.inr (.inr ⟨hst,?_⟩)))
  have h1:=rv.got
  have h2:=rv.bearer
  have h3:=kv.need
  have e1:decide (0≤m.got)=true:=decide_eq_true (by omega)
  have e2:decide (m.got≤9)=true:=decide_eq_true (by omega)
  have e3:decide (-1≤m.bearer)=true:=decide_eq_true (by omega)
  have e4:decide (m.bearer < c.parties)=true:=decide_eq_true (by omega)
  show ((0:Int) == 0&&(decide (0≤m.got)&&(decide (m.got≤9)&&(decide (-1≤m.bearer)&&(decide (m.bearer < c.parties) && !false)))))=true
  rw [e1,e2,e3,e4];rfl
theorem yz {c:ContractT} {k:ClauseT} {m:MarkT} (h:(m.status=1∧m.left≤k.after)∨(m.status=2∧k.kind=1∧m.left≤k.grace)) (hr:yU c.parties k m=true):jf c.parties k m=true:=by
  rcases h with ⟨h0,h1⟩ | ⟨h0,h1,h2⟩
  · exact ve.2 (.inr (.inl ⟨h0,h1,hr⟩))
  · exact ve.2 (.inr (.inr (.inl ⟨h0,h1,h2,hr⟩)))
theorem MOk.mapIdx {c:ContractT} {ms:List MarkT} (F:ClauseT→MarkT→MarkT) (h:MOk c ms) (hF:∀ (i:Nat) (k:ClauseT) (m:MarkT),c.clauses[i]?=some k→jf c.parties k m=true→jf c.parties k (F k m)=true):MOk c (ms.mapIdx (atK c F)):=by
  refine ⟨by simpa using h.1,fun i k m hk hm => ?_⟩
  rw [List.getElem?_mapIdx] at hm
  obtain ⟨m0,h0,rfl⟩:=Option.map_eq_some_iff.1 hm
  simp only [atK,hk]
  exact hF i k m0 hk (h.2 i k m0 hk h0)
theorem zeH {c:ContractT} {i:Nat} {k:ClauseT} {m:MarkT} (free:Bool) (kv:KV c i k) (hp:0 < c.parties) (h:jf c.parties k m=true):jf c.parties k (yr free k m)=true:=by
  unfold yr
  cases hr:jG m with
  | false=>exact h
  | true=>
    obtain ⟨rv,hb,hs⟩:=wk kv h hr
    simp only [cond_true]
    cases hp1:(m.paused||(k.business&&free)) with
    | true=>exact h
    | false=>
      simp only [cond_false]
      have hl:=rv.left
      obtain ⟨b1,b2,b3,b4,b5⟩:=q8.1 hb
      cases hz:(m.left - 1 == 0) with
      | false=>
        have:=beq_eq_false_iff_ne.1 hz
        refine yz ?_ (q8.2 ⟨b1,?_,b3,b4,b5⟩)
        · simp only [cond_false];omega
        · simp only [cond_false];omega
      | true=>
        simp only [cond_true]
        cases h1:(k.kind == 1) with
        | false=>
          cases h2:(k.kind == 2) with
          | true=>exact Zl kv rv hp (by omega)
          | false=>exact Zl kv rv hp (by omega)
        | true=>
          simp only [cond_true]
          cases h3:(m.status == 1&&decide (0 < k.grace)) with
          | false=>exact Zl kv rv hp (by omega)
          | true=>
            simp only [Bool.and_eq_true,beq_iff_eq,decide_eq_true_eq] at h3
            exact yz (.inr ⟨rfl,beq_iff_eq.1 h1,Int.le_refl _⟩) (q8.2 ⟨b1,by simp only [cond_true];omega,b3,b4,b5⟩)
theorem jx {α:Type} {s:List α} {i:Nat} {m:α} (h:s[i]?=some m):s.set i m=s:=by
  obtain ⟨hi,rfl⟩:=List.getElem?_eq_some_iff.1 h
  exact List.set_getElem_self hi
theorem vg {α:Type} {s:List α} {i:Nat} {m x:α} (h:s[i]?=some m):(s.set i x)[i]?=some x:=by
  have:=(List.getElem?_eq_some_iff.1 h).1
  simp [this]
theorem Jk (i:Nat) (st:Int) (c:ContractT) (p4:Int) (p5:List Int) (p6:Nat) (p7:List Bool) (p8:Nat) (ms:List MarkT) (n:Nat) (m:MarkT) (hi:i < n) (hm:ms[i]?=some m):xA i st c p4 p5 p6 p7 p8 ms n=some (ms.set i (kO st m)):=by
  unfold xA
  simp only [zU hi,Option.bind_some,hm,List.set_set,kO]
theorem zf4 (c:ContractT) (day:Int) (hs:List Int) (us:List Bool) (ms:List MarkT) (ho:c.off.length < 4611686018427387904) (hv:(qv c).1=0) (hm:MOk c ms) (hday:0≤day∧day≤2000) :
    d_70a c day hs hs.length us us.length ms ms.length=yb c (day+1) hs us (ms.mapIdx (atK c (yr (xr c.off day).isSome))):=by
  have sm:=q7 ho hv
  have hcl:=sm.clauses
  have hl:=hm.1
  unfold d_70a
  obtain ⟨r,hr,_⟩:=WM c.off day (zhr ho hv) ho
  rw [hr]
  simp only [Option.bind_some,jR]
  rw [vF ms (atK c (yr (xr c.off day).isSome)) (by omega) ?_]
  · simp only [Option.bind_some,Sum.elim_inl]
    rw [qI (by omega) (by omega)]
    unfold yb
    rw [List.length_mapIdx]
    generalize xU _ _ _ _ _ _ _ _=x
    cases x<;>rfl
  · intro i m s h1 h2 h3
    have hi:i < ms.length:=(List.getElem?_eq_some_iff.1 h1).1
    have hic:i < c.clauses.length:=by omega
    have hk:=List.getElem?_eq_getElem hic
    have kv:=yq ho hv hk
    have hmk:=hm.2 i _ _ hk h1
    simp only [zU hi,Option.bind_some,h3,kC,atK,hk]
    generalize c.clauses[i]=k at hk kv hmk
    cases hrn:jG m with
    | false=>simp only [cond_false,Option.bind_some,yr,hrn,jx h3]
    | true=>
      obtain ⟨rv,hb,hst⟩:=wk kv hmk hrn
      have hleft:=rv.left
      simp only [cond_true,zx hk,Option.bind_some,yr,hrn,zk]
      have epb:(bif m.paused then true else bif k.business then (xr c.off day).isSome else false)=(m.paused||(k.business&&(xr c.off day).isSome)):=by cases m.paused<;>cases k.business<;>rfl
      rw [epb]
      cases hp1:(m.paused||(k.business&&(xr c.off day).isSome)) with
      | true=>simp only [cond_true,Option.bind_some,Bool.not_true,cond_false,jx h3]
      | false=>
        rw [qI (show -9223372036854775808≤m.left - 1 by omega) (by omega)]
        simp only [cond_false,Option.bind_some,vg h3]
        cases hz:(m.left - 1 == 0) with
        | false=>simp only [cond_false,Option.bind_some,Bool.not_true]
        | true=>
          have hz':=beq_iff_eq.1 hz
          have hk0:(k.kind == 0)=false:=beq_eq_false_iff_ne.2 (by have:=kv.kind;omega)
          simp only [cond_true,hk0,cond_false,XZ,xV,kw,zU hi,Option.bind_some,vg h3,zx hk,zk]
          rw [Jk i 4 _ _ _ _ _ _ _ _ _ hi (vg h3),Jk i 3 _ _ _ _ _ _ _ _ _ hi (vg h3),Jk i 5 _ _ _ _ _ _ _ _ _ hi (vg h3)]
          simp only [Option.bind_some,List.set_set,kO,hz']
          cases h1:(k.kind == 1) with
          | true=>
            simp only [cond_true]
            have e3:(bif m.status == 1 then decide (0 < k.grace) else false)=(m.status == 1&&decide (0 < k.grace)):=by cases (m.status == 1)<;>rfl
            rw [e3]
            cases h4:(m.status == 1&&decide (0 < k.grace))<;>simp
          | false=>
            cases h2:(k.kind == 2) with
            | true=>simp
            | false=>
              cases h3:(k.kind == 3) with
              | true=>simp
              | false=>
                have h4:(k.kind == 4)=true:=beq_iff_eq.2 (by have:=kv.kind;have:=beq_eq_false_iff_ne.1 h1;have:=beq_eq_false_iff_ne.1 h2;have:=beq_eq_false_iff_ne.1 h3;omega)
                simp [h4]
end Go.Proofs.YtmoedieenlaegaaGreatDoor
