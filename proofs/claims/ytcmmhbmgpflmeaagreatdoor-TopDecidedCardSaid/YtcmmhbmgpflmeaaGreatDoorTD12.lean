/-
  Functions of the program: what they compute, and plans of their code that the kernel checks (printed by a program of ours).
  What 'contract.Valid' comes to.
  What Valid says.
  What 'slices.BinarySearch' comes to; sizes of valid contracts.
  What 'system.Valid' comes to.
-/
import Derived.Test.YtcmmhbmgpflmeaaGreatDoorTD11
import Derived.Test.YtcmmhbmgpflmeaaGreatDoorTD07
open List renaming map → ub, getElem?_eq_getElem → uc, all_eq_true → ui, range → uk, getElem_mem → um, getElem?_eq_some_iff → uo, getElem_of_mem → uq, mem_range → uv
open Option renaming bind → ua
open Bool renaming false_and → ud, true_and → ue, and_eq_true → uf, cond_false_right → ug, not_false → uh, not_true → uj, not_eq_true' → ul, eq_false_iff → ur, or_eq_false_iff → uw, and_false → uy, true_or → uz
open Nat renaming lt_or_ge → ux
open Sum renaming elim → un, elim_inl → ut, elim_inr → uu
namespace Go.Proofs.YtcmmhbmgpflmeaaGreatDoor
open Go.RowKit
set_option linter.unusedSimpArgs false
set_option linter.unusedVariables false
set_option maxRecDepth 100000
noncomputable def J8 (p1:Int) (p2:ax) (p3:Int) (p4:Int) (p5:List Int) (p6:Nat) (p7:List Bool) (p8:Nat) (p9:List aj) (bE:Nat) (bX:List ai) (bz:Nat) (bJ:ax) (bR:List (Int×(List Int))):Option ((List Int)×(List aj)×(List ai)):=
 (ua (J0 p4 bJ) fun r1=>(ua (aG (σ:=(List Int)×(List aj)×(List ai)) (ρ:=Unit) (p2.aB.length:Int) (fun i1 s1=>(ua (ua (zf p2.aB (i1:Int)) fun e1=>(ua (ua (eM (i1:Int) p2 p3 (IntKind.i64.wrap (p4+1)) p5 p6 p7 p8 s1.2.1 bE s1.2.2 bz bJ bR) fun r2=>(bif r2 then (ua (zo bE (i1:Int)) fun k1=>(ua (s1.2.1[k1]?) fun e2=>(bif e2.aT then some true else (bif e1.bV then some r1 else some false)))) else some true)) fun v1=>(bif v1 then some (s1.1,s1.2.1,s1.2.2) else (ua (zo bE (i1:Int)) fun k2=>(ua (s1.2.1[k2]?) fun e3=>(ua (zo bE (i1:Int)) fun k3=>(ua ((s1.2.1.set k2 ({aJ:=(IntKind.i64.wrap (e3.aJ+1)),aT:=e3.aT}:aj))[k3]?) fun e4=>(ua (α:=(List ai) ⊕ (List ai)) (bif decide (e4.aJ < e1.after) then some (.inr s1.2.2) else (bif decide (e4.aJ < (IntKind.i64.wrap (e1.after+e1.cX))) then (ua (zo bz (i1:Int)) fun k4=>(ua (s1.2.2[k4]?) fun e5=>some (.inr (s1.2.2.set k4 ({e5 with aH:=2}:ai))))) else (bif (e1.kind == 1) then (ua (di (i1:Int) 4 p2 p3 (IntKind.i64.wrap (p4+1)) p5 p6 p7 p8 (s1.2.1.set k2 ({aJ:=(IntKind.i64.wrap (e3.aJ+1)),aT:=e3.aT}:aj)) bE s1.2.2 bz bJ bR) fun r3=>some (.inl r3)) else (bif (e1.kind == 2) then (ua (di (i1:Int) 3 p2 p3 (IntKind.i64.wrap (p4+1)) p5 p6 p7 p8 (s1.2.1.set k2 ({aJ:=(IntKind.i64.wrap (e3.aJ+1)),aT:=e3.aT}:aj)) bE s1.2.2 bz bJ bR) fun r4=>some (.inl r4)) else (ua (di (i1:Int) 5 p2 p3 (IntKind.i64.wrap (p4+1)) p5 p6 p7 p8 (s1.2.1.set k2 ({aJ:=(IntKind.i64.wrap (e3.aJ+1)),aT:=e3.aT}:aj)) bE s1.2.2 bz bJ bR) fun r5=>some (.inl r5)))))) (un (fun (v2:(List ai))=>(ua (zN (α:=Int) 8 s1.1 [(i1:Int)]) fun e6=>some (e6,(s1.2.1.set k2 ({aJ:=(IntKind.i64.wrap (e3.aJ+1)),aT:=e3.aT}:aj)),v2))) (fun (y1:(List ai))=>some (s1.1,(s1.2.1.set k2 ({aJ:=(IntKind.i64.wrap (e3.aJ+1)),aT:=e3.aT}:aj)),y1))))))))))) fun (v3:(List Int)×(List aj)×(List ai))=>some (.inl (v3.1,v3.2.1,v3.2.2)))) ([],p9,bX)) (un (fun (s1:(List Int)×(List aj)×(List ai))=>some (s1.1,s1.2.1,s1.2.2)) (fun _=>none))))
noncomputable def Tw (p1:Int) (p2:ax) (p3:Int) (p4:Int) (p5:List Int) (p6:Nat) (p7:List Bool) (p8:Nat) (p9:List aj) (bE:Nat) (bX:List ai) (bz:Nat) (bJ:ax) (bR:List (Int×(List Int))):aE ((List Int)×(List aj)×(List ai)):=
 .aD 1 (.b1 2824 (J0 p4 bJ) (fun r1=>.c [3] 1 (vB r1) [] 0) (fun r1 cq=>(zm (Tt p4 bJ r1 cq) [3] 18 (.drop rfl rfl .nil) (bB bG) bG)) fun r1=>.use 8 2824 (.aD 2 (.ln 2858 aL.row p2.aB (.use 5 2858 (.cE 1 [Bf 6 1] (.aG (σ:=(List Int)×(List aj)×(List ai)) (ρ:=Unit) 2778 32 (p2.aB.length:Int) ([],p9,bX) (.k [0,5,30,31] (fun s1=>[(6,.aX 34 (ub zb s1.1))]) [0,3] (fun s1=>[(1,.af 1 (za zb p5)),(2,.af 1 (za zh p7)),(4,.map (zg IV.i64 IV.ls bR)),(5,.af 2 (za aj.row s1.2.1)),(6,.af 5 (za ai.row s1.2.2)),(34,.bf 1 s1.1.length)]) 35 fun _=>(.af rfl (.af rfl (.aU rfl (.af rfl (.af rfl (.exp rfl rfl .nil))))))) (fun i1 s1=>.sel 2778 (.cut (β:=(List Int)×(List aj)×(List ai)) 1 (.k [0,5,30,31,32] (fun v3=>[(6,.aX 34 (ub zb v3.1))]) [0,3] (fun v3=>[(1,.af 1 (za zb p5)),(2,.af 1 (za zh p7)),(4,.map (zg IV.i64 IV.ls bR)),(5,.af 2 (za aj.row v3.2.1)),(6,.af 5 (za ai.row v3.2.2)),(34,.bf 1 v3.1.length)]) 63 fun _=>(.af rfl (.af rfl (.aU rfl (.af rfl (.af rfl (.exp rfl rfl .nil))))))) (.aD 0 (.ix 2826 aL.row p2.aB (i1:Int) fun e1=>.use 1 2826 (.cut (β:=Bool) 2 (.k [0,5,6,30,31,32,8,7] (fun v1=>[(57,vB v1)]) [0,3,34,39] (fun _=>[(1,.af 1 (za zb p5)),(2,.af 1 (za zh p7)),(4,.map (zg IV.i64 IV.ls bR)),(5,.af 2 (za aj.row s1.2.1)),(6,.af 5 (za ai.row s1.2.2))]) 63 fun _=>(.af rfl (.af rfl (.aU rfl (.af rfl (.af rfl .nil)))))) (.aD 0 (.b1 2828 (eM (i1:Int) p2 p3 (IntKind.i64.wrap (p4+1)) p5 p6 p7 p8 s1.2.1 bE s1.2.2 bz bJ bR) (fun r2=>.c [0,1,2,3,4,5,6] 7 (vB r2) [] 0) (fun r2 cg=>(zm (Ev (i1:Int) p2 p3 (IntKind.i64.wrap (p4+1)) p5 p6 p7 p8 s1.2.1 bE s1.2.2 bz bJ bR r2 cg) [0,1,2,3,4,5,6] 44 (.drop rfl rfl (.drop rfl rfl (.drop rfl rfl (.drop rfl rfl (.drop rfl rfl (.drop rfl rfl (.drop rfl rfl .nil))))))) (bB (aZ (aZ (bB (eE (aZ (aZ bG))))))) bG)) fun r2=>.ite 2808 r2 (.b1 2830 (zo bE (i1:Int)) (fun k1=>.k k1) (fun k1 hk1=>(zp hk1)) fun k1=>.b1 2832 (s1.2.1[k1]?) (fun e2=>.ar (zk (aj.row e2))) (fun e2 fB=>(zH aj.row fB)) fun e2=>.ite 2810 e2.aT (.us [(2,2828),(5,2809),(10,2830),(12,2832),(15,2810)] (.ret true)) (.ite 2812 e1.bV (.us [(2,2828),(5,2809),(10,2830),(12,2832),(15,2810),(18,2812)] (.ret r1)) (.us [(2,2828),(5,2809),(10,2830),(12,2832),(15,2810),(18,2812)] (.ret false)))) (.us [(2,2828),(5,2809)] (.f1 2834 (.g true) (rfl:true=true) (.use 15 2834 (.ret true)))))) fun v1=>.ite 2814 v1 (.sel 2814 (.ret (s1.1,s1.2.1,s1.2.2))) (.sel 2814 (.aD 0 (.b1 2836 (zo bE (i1:Int)) (fun k2=>.k k2) (fun k2 hk2=>(zp hk2)) fun k2=>.bind (s1.2.1[k2]?) (fun e3=>[(2838,([.ar (zk (aj.row e3))],_)),(2840,([.aw (zk (aj.row e3)) (za aj.row (s1.2.1.set k2 ({aJ:=(IntKind.i64.wrap (e3.aJ+1)),aT:=e3.aT}:aj)))],_))]) (fun e3 fk=>(.c1 (zH aj.row fk) (.c1 (zG aj.row ({aJ:=(IntKind.i64.wrap (e3.aJ+1)),aT:=e3.aT}:aj) fk) .nil))) fun e3=>.us [(5,2836),(7,2838),(9,2836),(11,2840)] (.aD 0 (.b1 2842 (zo bE (i1:Int)) (fun k3=>.k k3) (fun k3 gQ=>(zp gQ)) fun k3=>.b1 2844 ((s1.2.1.set k2 ({aJ:=(IntKind.i64.wrap (e3.aJ+1)),aT:=e3.aT}:aj))[k3]?) (fun e4=>.ar (zk (aj.row e4))) (fun e4 fG=>(zH aj.row fG)) fun e4=>.us [(5,2842),(7,2844)] (.dK (β:=(List ai)) (γ:=(List ai)) 1 (.k [0,5,6,30,31,32,7] (fun _=>[]) [0,3,34] (fun v2=>[(1,.af 1 (za zb p5)),(2,.af 1 (za zh p7)),(4,.map (zg IV.i64 IV.ls bR)),(5,.af 2 (za aj.row (s1.2.1.set k2 ({aJ:=(IntKind.i64.wrap (e3.aJ+1)),aT:=e3.aT}:aj)))),(6,.af 5 (za ai.row v2))]) 104 fun _=>(.af rfl (.af rfl (.aU rfl (.af rfl (.af rfl .nil)))))) (.ite 2816 (decide (e4.aJ < e1.after)) (.sel 2816 (.ret (.inr s1.2.2))) (.sel 2816 (.ite 2818 (decide (e4.aJ < (IntKind.i64.wrap (e1.after+e1.cX)))) (.sel 2818 (.aD 0 (.b1 2848 (zo bz (i1:Int)) (fun k4=>.k k4) (fun k4 fJ=>(zp fJ)) fun k4=>.b1 2850 (s1.2.2[k4]?) (fun e5=>.aw (zk (ai.row e5)) (za ai.row (s1.2.2.set k4 ({e5 with aH:=2}:ai)))) (fun e5 lC=>(zG ai.row ({e5 with aH:=2}:ai) lC)) fun e5=>.us [(5,2848),(7,2850)] (.ret (.inr (s1.2.2.set k4 ({e5 with aH:=2}:ai))))))) (.sel 2818 (.ite 2820 (e1.kind == 1) (.sel 2820 (.aD 0 (.b1 2852 (di (i1:Int) 4 p2 p3 (IntKind.i64.wrap (p4+1)) p5 p6 p7 p8 (s1.2.1.set k2 ({aJ:=(IntKind.i64.wrap (e3.aJ+1)),aT:=e3.aT}:aj)) bE s1.2.2 bz bJ bR) (fun r3=>.c [0,1,2,3,4,5,6] 7 (.tuple []) [(6,.af 5 (za ai.row r3))] 0) (fun r3 eB=>(zm (Qj (i1:Int) 4 p2 p3 (IntKind.i64.wrap (p4+1)) p5 p6 p7 p8 (s1.2.1.set k2 ({aJ:=(IntKind.i64.wrap (e3.aJ+1)),aT:=e3.aT}:aj)) bE s1.2.2 bz bJ bR r3 eB) [0,1,2,3,4,5,6] 103 (.drop rfl rfl (.drop rfl rfl (.drop rfl rfl (.drop rfl rfl (.drop rfl rfl (.drop rfl rfl (.keep .nil))))))) (bB (aZ (aZ (bB (eE (aZ (aZ bG))))))) (aZ bG))) fun r3=>.use 2 2852 (.ret (.inl r3))))) (.sel 2820 (.ite 2822 (e1.kind == 2) (.sel 2822 (.aD 0 (.b1 2854 (di (i1:Int) 3 p2 p3 (IntKind.i64.wrap (p4+1)) p5 p6 p7 p8 (s1.2.1.set k2 ({aJ:=(IntKind.i64.wrap (e3.aJ+1)),aT:=e3.aT}:aj)) bE s1.2.2 bz bJ bR) (fun r4=>.c [0,1,2,3,4,5,6] 7 (.tuple []) [(6,.af 5 (za ai.row r4))] 0) (fun r4 l7=>(zm (Qj (i1:Int) 3 p2 p3 (IntKind.i64.wrap (p4+1)) p5 p6 p7 p8 (s1.2.1.set k2 ({aJ:=(IntKind.i64.wrap (e3.aJ+1)),aT:=e3.aT}:aj)) bE s1.2.2 bz bJ bR r4 l7) [0,1,2,3,4,5,6] 107 (.drop rfl rfl (.drop rfl rfl (.drop rfl rfl (.drop rfl rfl (.drop rfl rfl (.drop rfl rfl (.keep .nil))))))) (bB (aZ (aZ (bB (eE (aZ (aZ bG))))))) (aZ bG))) fun r4=>.use 2 2854 (.ret (.inl r4))))) (.sel 2822 (.aD 0 (.b1 2856 (di (i1:Int) 5 p2 p3 (IntKind.i64.wrap (p4+1)) p5 p6 p7 p8 (s1.2.1.set k2 ({aJ:=(IntKind.i64.wrap (e3.aJ+1)),aT:=e3.aT}:aj)) bE s1.2.2 bz bJ bR) (fun r5=>.c [0,1,2,3,4,5,6] 7 (.tuple []) [(6,.af 5 (za ai.row r5))] 0) (fun r5 pW=>(zm (Qj (i1:Int) 5 p2 p3 (IntKind.i64.wrap (p4+1)) p5 p6 p7 p8 (s1.2.1.set k2 ({aJ:=(IntKind.i64.wrap (e3.aJ+1)),aT:=e3.aT}:aj)) bE s1.2.2 bz bJ bR r5 pW) [0,1,2,3,4,5,6] 107 (.drop rfl rfl (.drop rfl rfl (.drop rfl rfl (.drop rfl rfl (.drop rfl rfl (.drop rfl rfl (.keep .nil))))))) (bB (aZ (aZ (bB (eE (aZ (aZ bG))))))) (aZ bG))) fun r5=>.use 2 2856 (.ret (.inl r5)))))))))))) fun o_v2=>.case o_v2 (fun v2=>.aD 0 (.b1 2846 (zN (α:=Int) 8 s1.1 [(i1:Int)]) (fun e6=>.a (ub zb e6) e6.length) (fun e6 pX=>(qr zb 1 8 (fun _=>rfl) pX)) fun e6=>.use 3 2846 (.ret (e6,(s1.2.1.set k2 ({aJ:=(IntKind.i64.wrap (e3.aJ+1)),aT:=e3.aT}:aj)),v2)))) fun y1=>.ret (s1.1,(s1.2.1.set k2 ({aJ:=(IntKind.i64.wrap (e3.aJ+1)),aT:=e3.aT}:aj)),y1)))))))))) fun v3=>.ret (.inl (v3.1,v3.2.1,v3.2.2)))) fun os1=>.case os1 (fun s1=>.sel 2778 (.ret (s1.1,s1.2.1,s1.2.2))) fun _=>.none))))))
theorem Tx (p1:Int) (p2:ax) (p3:Int) (p4:Int) (p5:List Int) (p6:Nat) (p7:List Bool) (p8:Nat) (p9:List aj) (bE:Nat) (bX:List ai) (bz:Nat) (bJ:ax) (bR:List (Int×(List Int))) (res:(List Int)×(List aj)×(List ai)) (hd:J8 p1 p2 p3 p4 p5 p6 p7 p8 p9 bE bX bz bJ bR=some res):dD C0 221 [.ptr 0 0 0,vI p1] [(0,.af 15 [[vI p2.aN,.ak (.slice (ub zb p2.aC)),.ak (.slice (ub bp.row p2.bk)),.ak (.slice (ub aV.row p2.aK)),.ak (.slice (ub aL.row p2.aB)),vI p2.aJ,.ak (.slice (ub zb p2.off)),vI p3,vI p4,.Zag 1 0 p6,.Zag 2 0 p8,.func 294 [] [.ptr 3 0 0],.map 4,.Zag 5 0 bE,.Zag 6 0 bz]]),(1,.af 1 (za zb p5)),(2,.af 1 (za zh p7)),(3,.af 7 [zk (ax.row bJ)]),(4,.map (zg IV.i64 IV.ls bR)),(5,.af 2 (za aj.row p9)),(6,.af 5 (za ai.row bX))] 7 (.aX 34 (ub zb res.1)) [(0,.af 15 [[vI p2.aN,.ak (.slice (ub zb p2.aC)),.ak (.slice (ub bp.row p2.bk)),.ak (.slice (ub aV.row p2.aK)),.ak (.slice (ub aL.row p2.aB)),vI p2.aJ,.ak (.slice (ub zb p2.off)),vI p3,vI (IntKind.i64.wrap (p4+1)),.Zag 1 0 p6,.Zag 2 0 p8,.func 294 [] [.ptr 3 0 0],.map 4,.Zag 5 0 bE,.Zag 6 0 bz]]),(1,.af 1 (za zb p5)),(2,.af 1 (za zh p7)),(3,.af 7 [zk (ax.row bJ)]),(4,.map (zg IV.i64 IV.ls bR)),(5,.af 2 (za aj.row res.2.1)),(6,.af 5 (za ai.row res.2.2)),(34,.bf 1 res.1.length)] 28:=
 aE.dA (R:=fun res=>.aX 34 (ub zb res.1)) (H:=fun res=>[(0,.af 15 [[vI p2.aN,.ak (.slice (ub zb p2.aC)),.ak (.slice (ub bp.row p2.bk)),.ak (.slice (ub aV.row p2.aK)),.ak (.slice (ub aL.row p2.aB)),vI p2.aJ,.ak (.slice (ub zb p2.off)),vI p3,vI (IntKind.i64.wrap (p4+1)),.Zag 1 0 p6,.Zag 2 0 p8,.func 294 [] [.ptr 3 0 0],.map 4,.Zag 5 0 bE,.Zag 6 0 bz]]),(1,.af 1 (za zb p5)),(2,.af 1 (za zh p7)),(3,.af 7 [zk (ax.row bJ)]),(4,.map (zg IV.i64 IV.ls bR)),(5,.af 2 (za aj.row res.2.1)),(6,.af 5 (za ai.row res.2.2)),(34,.bf 1 res.1.length)]) (Tw p1 p2 p3 p4 p5 p6 p7 p8 p9 bE bX bz bJ bR) (.exp rfl rfl (.af rfl (.af rfl (.exp rfl rfl (.aU rfl (.af rfl (.af rfl .nil))))))) (fun _=>(.exp rfl rfl (.af rfl (.af rfl (.exp rfl rfl (.aU rfl (.af rfl (.af rfl (.exp rfl rfl .nil))))))))) (by kernel_rfl) (fun _=>by kernel_rfl) (by kernel_rfl) (aE.aF hd (by kernel_rfl))
noncomputable def Ew (p1:Int) (p2:ax) (p3:Int) (p4:Int) (p5:List Int) (p6:Nat) (p7:List Bool) (p8:Nat) (p9:List aj) (bE:Nat) (bX:List ai) (bz:Nat) (bJ:ax) (bR:List (Int×(List Int))):Option Bool:=
 (ua (zf p2.aB p1) fun e1=>(ua (aG (σ:=Unit) (ρ:=Unit) (e1.start.length:Int) (fun i1 s1=>(ua (zf e1.start (i1:Int)) fun e2=>(ua (zo bz e2.clause) fun k1=>(ua (bX[k1]?) fun e3=>(ua (bif (e2.is == 1) then some (!(e3.aH == 0)) else (bif (e2.is == 2) then some (e3.aH == 3) else (bif (e2.is == 3) then some (e3.aH == 4) else (bif (e2.is == 4) then some (e3.aH == 5) else some false)))) fun (v1:Bool)=>(bif v1 then some (.inl ()) else some (.inr ()))))))) ()) (un (fun (s1:Unit)=>some true) (fun (y1:Unit)=>some false))))
noncomputable def Ty (p1:Int) (p2:ax) (p3:Int) (p4:Int) (p5:List Int) (p6:Nat) (p7:List Bool) (p8:Nat) (p9:List aj) (bE:Nat) (bX:List ai) (bz:Nat) (bJ:ax) (bR:List (Int×(List Int))):aE Bool:=
 .aD 1 (.ix 2878 aL.row p2.aB p1 fun e1=>.use 6 2878 (.ln 2886 b8.row e1.start (.use 9 2886 (.aG (σ:=Unit) (ρ:=Unit) 2866 19 (e1.start.length:Int) () (.k [0,17,18] (fun _=>[]) [0,3] (fun _=>[(1,.af 1 (za zb p5)),(2,.af 1 (za zh p7)),(4,.map (zg IV.i64 IV.ls bR)),(5,.af 2 (za aj.row p9)),(6,.af 5 (za ai.row bX))]) 19 fun _=>(.af rfl (.af rfl (.aU rfl (.af rfl (.af rfl .nil)))))) (fun i1 s1=>.sel 2866 (.aD 0 (.ix 2880 b8.row e1.start (i1:Int) fun e2=>.use 0 2880 (.aD 0 (.b1 2882 (zo bz e2.clause) (fun k1=>.k k1) (fun k1 hk1=>(zp hk1)) fun k1=>.b1 2884 (bX[k1]?) (fun e3=>.ar (zk (ai.row e3))) (fun e3 fk=>(zH ai.row fk)) fun e3=>.us [(6,2882),(8,2884)] (.cut (β:=Bool) 2 (.k [0,17,18,19] (fun v1=>[(8,vB v1)]) [0,3] (fun _=>[(1,.af 1 (za zb p5)),(2,.af 1 (za zh p7)),(4,.map (zg IV.i64 IV.ls bR)),(5,.af 2 (za aj.row p9)),(6,.af 5 (za ai.row bX))]) 42 fun _=>(.af rfl (.af rfl (.aU rfl (.af rfl (.af rfl .nil)))))) (.ite 2868 (e2.is == 1) (.sel 2868 (.ret (!(e3.aH == 0)))) (.sel 2868 (.ite 2870 (e2.is == 2) (.sel 2870 (.ret (e3.aH == 3))) (.sel 2870 (.ite 2872 (e2.is == 3) (.sel 2872 (.ret (e3.aH == 4))) (.sel 2872 (.ite 2874 (e2.is == 4) (.sel 2874 (.ret (e3.aH == 5))) (.sel 2874 (.ret false))))))))) fun v1=>.ite 2876 v1 (.sel 2877 (.ret (.inl ()))) (.sel 2877 (.ret (.inr ()))))))))) fun os1=>.case os1 (fun s1=>.sel 2866 (.ret true)) fun y1=>.ret false))))
theorem Tz (p1:Int) (p2:ax) (p3:Int) (p4:Int) (p5:List Int) (p6:Nat) (p7:List Bool) (p8:Nat) (p9:List aj) (bE:Nat) (bX:List ai) (bz:Nat) (bJ:ax) (bR:List (Int×(List Int))) (res:Bool) (hd:Ew p1 p2 p3 p4 p5 p6 p7 p8 p9 bE bX bz bJ bR=some res):dD C0 217 [.ptr 0 0 0,vI p1] [(0,.af 15 [[vI p2.aN,.ak (.slice (ub zb p2.aC)),.ak (.slice (ub bp.row p2.bk)),.ak (.slice (ub aV.row p2.aK)),.ak (.slice (ub aL.row p2.aB)),vI p2.aJ,.ak (.slice (ub zb p2.off)),vI p3,vI p4,.Zag 1 0 p6,.Zag 2 0 p8,.func 294 [] [.ptr 3 0 0],.map 4,.Zag 5 0 bE,.Zag 6 0 bz]]),(1,.af 1 (za zb p5)),(2,.af 1 (za zh p7)),(3,.af 7 [zk (ax.row bJ)]),(4,.map (zg IV.i64 IV.ls bR)),(5,.af 2 (za aj.row p9)),(6,.af 5 (za ai.row bX))] 7 (vB res) [(0,.af 15 [[vI p2.aN,.ak (.slice (ub zb p2.aC)),.ak (.slice (ub bp.row p2.bk)),.ak (.slice (ub aV.row p2.aK)),.ak (.slice (ub aL.row p2.aB)),vI p2.aJ,.ak (.slice (ub zb p2.off)),vI p3,vI p4,.Zag 1 0 p6,.Zag 2 0 p8,.func 294 [] [.ptr 3 0 0],.map 4,.Zag 5 0 bE,.Zag 6 0 bz]]),(1,.af 1 (za zb p5)),(2,.af 1 (za zh p7)),(3,.af 7 [zk (ax.row bJ)]),(4,.map (zg IV.i64 IV.ls bR)),(5,.af 2 (za aj.row p9)),(6,.af 5 (za ai.row bX))] 0:=
 aE.dA (R:=fun res=>vB res) (H:=fun res=>[(0,.af 15 [[vI p2.aN,.ak (.slice (ub zb p2.aC)),.ak (.slice (ub bp.row p2.bk)),.ak (.slice (ub aV.row p2.aK)),.ak (.slice (ub aL.row p2.aB)),vI p2.aJ,.ak (.slice (ub zb p2.off)),vI p3,vI p4,.Zag 1 0 p6,.Zag 2 0 p8,.func 294 [] [.ptr 3 0 0],.map 4,.Zag 5 0 bE,.Zag 6 0 bz]]),(1,.af 1 (za zb p5)),(2,.af 1 (za zh p7)),(3,.af 7 [zk (ax.row bJ)]),(4,.map (zg IV.i64 IV.ls bR)),(5,.af 2 (za aj.row p9)),(6,.af 5 (za ai.row bX))]) (Ty p1 p2 p3 p4 p5 p6 p7 p8 p9 bE bX bz bJ bR) (.exp rfl rfl (.af rfl (.af rfl (.exp rfl rfl (.aU rfl (.af rfl (.af rfl .nil))))))) (fun _=>(.exp rfl rfl (.af rfl (.af rfl (.exp rfl rfl (.aU rfl (.af rfl (.af rfl .nil)))))))) (by kernel_rfl) (fun _=>by kernel_rfl) (by kernel_rfl) (aE.aF hd (by kernel_rfl))
noncomputable def fM (p1:List Int) (p2:ax) (p3:Int) (p4:Int) (p5:List Int) (p6:Nat) (p7:List Bool) (p8:Nat) (p9:List aj) (bE:Nat) (bX:List ai) (bz:Nat) (bJ:ax) (bR:List (Int×(List Int))):Option ((List Int)×(List (Int×(List Int)))×(List ai)):=
 (ua (iter (σ:=(List Int)×Int×(List (Int×(List Int)))×(List ai)) (ρ:=(List Int)×(List (Int×(List Int)))×(List ai)) (fun s1=>(bif decide (s1.2.1 < (s1.1.length:Int)) then (ua (Z7 s1.2.2.1 s1.1 s1.2.1) fun v1=>(ua (aG (σ:=(List Int)×(List Int)×(List ai)) (ρ:=Unit) (v1.length:Int) (fun i2 s2=>(ua (ua (zf v1 (i2:Int)) fun e1=>(ua (Ew e1 p2 p3 p4 p5 p6 p7 p8 p9 bE s2.2.2 bz bJ s1.2.2.1) fun r1=>(bif r1 then (ua (zo bz e1) fun k1=>(ua (s2.2.2[k1]?) fun e3=>(bif decide (0≤e3.from_) then some (s2.1,s2.2.1,s2.2.2) else (ua (zo bz e1) fun k2=>(ua (s2.2.2[k2]?) fun e4=>(ua (ua (zf p2.aB e1) fun e5=>(bif (e5.kind == 4) then some ((s2.2.2.set k2 ({e4 with aH:=1}:ai)).set k2 ({({e4 with aH:=1}:ai) with from_:=p3}:ai)) else (ua (zo p6 e5.bW) fun k3=>(ua (p5[k3]?) fun e6=>(ua (zo bz e1) fun k4=>(ua (((s2.2.2.set k2 ({e4 with aH:=1}:ai)).set k2 ({({e4 with aH:=1}:ai) with from_:=p3}:ai))[k4]?) fun e7=>some (((s2.2.2.set k2 ({e4 with aH:=1}:ai)).set k2 ({({e4 with aH:=1}:ai) with from_:=p3}:ai)).set k4 ({e7 with bg:=e6}:ai)))))))) fun (v2:(List ai))=>(ua (zN (α:=Int) 8 s2.1 [e1]) fun e8=>some (e8,s2.2.1,v2)))))))) else (ua (zN (α:=Int) 8 s2.2.1 [e1]) fun e2=>some (s2.1,e2,s2.2.2))))) fun (v3:(List Int)×(List Int)×(List ai))=>some (.inl (v3.1,v3.2.1,v3.2.2)))) (s1.1,[],s1.2.2.2)) (un (fun (s2:(List Int)×(List Int)×(List ai))=>(ua (zf s2.1 s1.2.1) fun e9=>some (.inl (s2.1,(IntKind.i64.wrap (s1.2.1+1)),(zO e9 s2.2.1 s1.2.2.1),s2.2.2)))) (fun _=>none)))) else some (.inr (s1.1,s1.2.2.1,s1.2.2.2)))) (p1,0,bR,bX)) (fun (y1:(List Int)×(List (Int×(List Int)))×(List ai))=>some (y1.1,y1.2.1,y1.2.2)))
noncomputable def TA (p1:List Int) (p2:ax) (p3:Int) (p4:Int) (p5:List Int) (p6:Nat) (p7:List Bool) (p8:Nat) (p9:List aj) (bE:Nat) (bX:List ai) (bz:Nat) (bJ:ax) (bR:List (Int×(List Int))):aE ((List Int)×(List (Int×(List Int)))×(List ai)):=
 .iter (σ:=(List Int)×Int×(List (Int×(List Int)))×(List ai)) (ρ:=(List Int)×(List (Int×(List Int)))×(List ai)) (p1,0,bR,bX) (.k [0] (fun s1=>[(1,.aX 1 (ub zb s1.1)),(4,vI s1.2.1)]) [0,4] (fun s1=>[(1,.bf 1 s1.1.length),(2,.af 1 (za zb p5)),(3,.af 1 (za zh p7)),(5,.map (zg IV.i64 IV.ls s1.2.2.1)),(6,.af 2 (za aj.row p9)),(7,.af 5 (za ai.row s1.2.2.2))]) 9 fun _=>(.exp rfl rfl (.af rfl (.af rfl (.aU rfl (.af rfl (.af rfl .nil))))))) (fun s1=>.aD 0 (.ln 2948 zb s1.1 (.use 2 2948 (.ite 2900 (decide (s1.2.1 < (s1.1.length:Int))) (.sel 2900 (.pp 5 (HK 0 5 1 [vI p2.aN,.ak (.slice (ub zb p2.aC)),.ak (.slice (ub bp.row p2.bk)),.ak (.slice (ub aV.row p2.aK)),.ak (.slice (ub aL.row p2.aB)),vI p2.aJ,.ak (.slice (ub zb p2.off)),vI p3,vI p4,.Zag 2 0 p6,.Zag 3 0 p8,.func 294 [] [.ptr 4 0 0],.map 5,.Zag 6 0 bE,.Zag 7 0 bz] s1.2.1 s1.1 s1.2.2.1) fun v1=>.cE 1 [Bf 5 1] (.aG (σ:=(List Int)×(List Int)×(List ai)) (ρ:=Unit) 2902 25 (v1.length:Int) (s1.1,[],s1.2.2.2) (.k [0,4,23,24] (fun s2=>[(1,.aX 1 (ub zb s2.1)),(5,.aX 25 (ub zb s2.2.1))]) [0,4] (fun s2=>[(1,.bf 1 s2.1.length),(2,.af 1 (za zb p5)),(3,.af 1 (za zh p7)),(5,.map (zg IV.i64 IV.ls s1.2.2.1)),(6,.af 2 (za aj.row p9)),(7,.af 5 (za ai.row s2.2.2)),(25,.bf 1 s2.2.1.length)]) 26 fun _=>(.exp rfl rfl (.af rfl (.af rfl (.aU rfl (.af rfl (.af rfl (.exp rfl rfl .nil)))))))) (fun i2 s2=>.sel 2902 (.cut (β:=(List Int)×(List Int)×(List ai)) 1 (.k [0,4,23,24,25] (fun v3=>[(1,.aX 1 (ub zb v3.1)),(5,.aX 25 (ub zb v3.2.1))]) [0,4] (fun v3=>[(1,.bf 1 v3.1.length),(2,.af 1 (za zb p5)),(3,.af 1 (za zh p7)),(5,.map (zg IV.i64 IV.ls s1.2.2.1)),(6,.af 2 (za aj.row p9)),(7,.af 5 (za ai.row v3.2.2)),(25,.bf 1 v3.2.1.length)]) 39 fun _=>(.exp rfl rfl (.af rfl (.af rfl (.aU rfl (.af rfl (.af rfl (.exp rfl rfl .nil)))))))) (.aD 0 (.ix 2916 zb v1 (i2:Int) fun e1=>.use 0 2916 (.aD 0 (.b1 2918 (Ew e1 p2 p3 p4 p5 p6 p7 p8 p9 bE s2.2.2 bz bJ s1.2.2.1) (fun r1=>.c [0,2,3,4,5,6,7] 7 (vB r1) [] 0) (fun r1 cq=>(zm (Tz e1 p2 p3 p4 p5 p6 p7 p8 p9 bE s2.2.2 bz bJ s1.2.2.1 r1 cq) [0,2,3,4,5,6,7] 32 (.drop rfl rfl (.drop rfl rfl (.drop rfl rfl (.drop rfl rfl (.drop rfl rfl (.drop rfl rfl (.drop rfl rfl .nil))))))) (bB (aZ (aZ (bB (eE (aZ (aZ bG))))))) bG)) fun r1=>.use 2 2918 (.ite 2910 r1 (.sel 2911 (.aD 0 (.b1 2922 (zo bz e1) (fun k1=>.k k1) (fun k1 hk1=>(zp hk1)) fun k1=>.b1 2924 (s2.2.2[k1]?) (fun e3=>.ar (zk (ai.row e3))) (fun e3 fk=>(zH ai.row fk)) fun e3=>.us [(5,2922),(7,2924)] (.ite 2912 (decide (0≤e3.from_)) (.sel 2912 (.ret (s2.1,s2.2.1,s2.2.2))) (.sel 2912 (.aD 0 (.b1 2926 (zo bz e1) (fun k2=>.k k2) (fun k2 hk2=>(zp hk2)) fun k2=>.bind (s2.2.2[k2]?) (fun e4=>[(2928,([.aw (zk (ai.row e4)) (za ai.row (s2.2.2.set k2 ({e4 with aH:=1}:ai)))],_)),(2930,([.aw (zk (ai.row ({e4 with aH:=1}:ai))) (za ai.row ((s2.2.2.set k2 ({e4 with aH:=1}:ai)).set k2 ({({e4 with aH:=1}:ai) with from_:=p3}:ai)))],_))]) (fun e4 fG=>(.c1 (zG ai.row ({e4 with aH:=1}:ai) fG) (.c1 (zG ai.row ({({e4 with aH:=1}:ai) with from_:=p3}:ai) (vl ({e4 with aH:=1}:ai) fG)) .nil))) fun e4=>.us [(14,2926),(16,2928),(17,2926),(19,2930)] (.cut (β:=(List ai)) 1 (.k [0,1,4,5,23,24,25,7] (fun _=>[]) [0,1,4,25] (fun v2=>[(2,.af 1 (za zb p5)),(3,.af 1 (za zh p7)),(5,.map (zg IV.i64 IV.ls s1.2.2.1)),(6,.af 2 (za aj.row p9)),(7,.af 5 (za ai.row v2))]) 76 fun _=>(.af rfl (.af rfl (.aU rfl (.af rfl (.af rfl .nil)))))) (.aD 0 (.ix 2932 aL.row p2.aB e1 fun e5=>.use 6 2932 (.ite 2914 (e5.kind == 4) (.sel 2915 (.ret ((s2.2.2.set k2 ({e4 with aH:=1}:ai)).set k2 ({({e4 with aH:=1}:ai) with from_:=p3}:ai)))) (.sel 2915 (.aD 0 (.b1 2934 (zo p6 e5.bW) (fun k3=>.k k3) (fun k3 gQ=>(zp gQ)) fun k3=>.b1 2936 (p5[k3]?) (fun e6=>.ar (zk (zb e6))) (fun e6 pX=>(zH zb pX)) fun e6=>.b1 2938 (zo bz e1) (fun k4=>.k k4) (fun k4 fJ=>(zp fJ)) fun k4=>.b1 2940 (((s2.2.2.set k2 ({e4 with aH:=1}:ai)).set k2 ({({e4 with aH:=1}:ai) with from_:=p3}:ai))[k4]?) (fun e7=>.aw (zk (ai.row e7)) (za ai.row (((s2.2.2.set k2 ({e4 with aH:=1}:ai)).set k2 ({({e4 with aH:=1}:ai) with from_:=p3}:ai)).set k4 ({e7 with bg:=e6}:ai)))) (fun e7 pY=>(zG ai.row ({e7 with bg:=e6}:ai) pY)) fun e7=>.us [(11,2934),(12,2936),(13,2938),(15,2940)] (.ret (((s2.2.2.set k2 ({e4 with aH:=1}:ai)).set k2 ({({e4 with aH:=1}:ai) with from_:=p3}:ai)).set k4 ({e7 with bg:=e6}:ai))))))))) fun v2=>.aD 0 (.b1 2942 (zN (α:=Int) 8 s2.1 [e1]) (fun e8=>.a (ub zb e8) e8.length) (fun e8 pZ=>(qr zb 1 8 (fun _=>rfl) pZ)) fun e8=>.use 3 2942 (.ret (e8,s2.2.1,v2))))))))))) (.sel 2911 (.aD 0 (.b1 2920 (zN (α:=Int) 8 s2.2.1 [e1]) (fun e2=>.a (ub zb e2) e2.length) (fun e2 fB=>(qr zb 1 8 (fun _=>rfl) fB)) fun e2=>.use 3 2920 (.ret (s2.1,e2,s2.2.2)))))))))) fun v3=>.ret (.inl (v3.1,v3.2.1,v3.2.2)))) fun os2=>.case os2 (fun s2=>.sel 2902 (.cE 0 [HH 5 25 (ub zb s2.2.1)] (.aD 0 (.ix 2944 zb s2.1 s1.2.1 fun e9=>.use 6 2944 (.f1 2946 (.u (zg IV.i64 IV.ls (zO e9 s2.2.1 s1.2.2.1))) (GN IV.ls e9 s2.2.1 s1.2.2.1) (.use 9 2946 (.ret (.inl (s2.1,(IntKind.i64.wrap (s1.2.1+1)),(zO e9 s2.2.1 s1.2.2.1),s2.2.2))))))))) fun _=>.none))) (.sel 2900 (.ret (.inr (s1.1,s1.2.2.1,s1.2.2.2)))))))) fun y1=>.ret (y1.1,y1.2.1,y1.2.2)
theorem Ir (p1:List Int) (p2:ax) (p3:Int) (p4:Int) (p5:List Int) (p6:Nat) (p7:List Bool) (p8:Nat) (p9:List aj) (bE:Nat) (bX:List ai) (bz:Nat) (bJ:ax) (bR:List (Int×(List Int))) (res:(List Int)×(List (Int×(List Int)))×(List ai)) (hd:fM p1 p2 p3 p4 p5 p6 p7 p8 p9 bE bX bz bJ bR=some res):dD C0 219 [.ptr 0 0 0,.aX 1 (ub zb p1)] [(0,.af 15 [[vI p2.aN,.ak (.slice (ub zb p2.aC)),.ak (.slice (ub bp.row p2.bk)),.ak (.slice (ub aV.row p2.aK)),.ak (.slice (ub aL.row p2.aB)),vI p2.aJ,.ak (.slice (ub zb p2.off)),vI p3,vI p4,.Zag 2 0 p6,.Zag 3 0 p8,.func 294 [] [.ptr 4 0 0],.map 5,.Zag 6 0 bE,.Zag 7 0 bz]]),(1,.bf 1 p1.length),(2,.af 1 (za zb p5)),(3,.af 1 (za zh p7)),(4,.af 7 [zk (ax.row bJ)]),(5,.map (zg IV.i64 IV.ls bR)),(6,.af 2 (za aj.row p9)),(7,.af 5 (za ai.row bX))] 8 (.tuple []) [(0,.af 15 [[vI p2.aN,.ak (.slice (ub zb p2.aC)),.ak (.slice (ub bp.row p2.bk)),.ak (.slice (ub aV.row p2.aK)),.ak (.slice (ub aL.row p2.aB)),vI p2.aJ,.ak (.slice (ub zb p2.off)),vI p3,vI p4,.Zag 2 0 p6,.Zag 3 0 p8,.func 294 [] [.ptr 4 0 0],.map 5,.Zag 6 0 bE,.Zag 7 0 bz]]),(1,.bf 1 res.1.length),(2,.af 1 (za zb p5)),(3,.af 1 (za zh p7)),(4,.af 7 [zk (ax.row bJ)]),(5,.map (zg IV.i64 IV.ls res.2.1)),(6,.af 2 (za aj.row p9)),(7,.af 5 (za ai.row res.2.2))] 0:=
 aE.dA (R:=fun res=>.tuple []) (H:=fun res=>[(0,.af 15 [[vI p2.aN,.ak (.slice (ub zb p2.aC)),.ak (.slice (ub bp.row p2.bk)),.ak (.slice (ub aV.row p2.aK)),.ak (.slice (ub aL.row p2.aB)),vI p2.aJ,.ak (.slice (ub zb p2.off)),vI p3,vI p4,.Zag 2 0 p6,.Zag 3 0 p8,.func 294 [] [.ptr 4 0 0],.map 5,.Zag 6 0 bE,.Zag 7 0 bz]]),(1,.bf 1 res.1.length),(2,.af 1 (za zb p5)),(3,.af 1 (za zh p7)),(4,.af 7 [zk (ax.row bJ)]),(5,.map (zg IV.i64 IV.ls res.2.1)),(6,.af 2 (za aj.row p9)),(7,.af 5 (za ai.row res.2.2))]) (TA p1 p2 p3 p4 p5 p6 p7 p8 p9 bE bX bz bJ bR) (.exp rfl rfl (.exp rfl rfl (.af rfl (.af rfl (.exp rfl rfl (.aU rfl (.af rfl (.af rfl .nil)))))))) (fun _=>(.exp rfl rfl (.exp rfl rfl (.af rfl (.af rfl (.exp rfl rfl (.aU rfl (.af rfl (.af rfl .nil))))))))) (by kernel_rfl) (fun _=>by kernel_rfl) (by kernel_rfl) (aE.aF hd (by kernel_rfl))
noncomputable def iw (p1:Int) (p2:Int) (p3:ax) (p4:Int) (p5:Int) (p6:List Int) (p7:Nat) (p8:List Bool) (p9:Nat) (bE:List aj) (bX:Nat) (bz:List ai) (bJ:Nat) (bR:ax) (fO:List (Int×(List Int))):Option (Bool×(List ai)):=
 (ua (zf p3.aB p1) fun e1=>(ua (bif (e1.kind == 4) then some false else (ua (zo bJ p1) fun k1=>(ua (bz[k1]?) fun e2=>some (!(e2.bg == p2))))) fun v1=>(bif v1 then some (false,bz) else (ua (α:=(List ai) ⊕ (List ai)) (bif (e1.kind == 1) then (ua (zo bJ p1) fun k2=>(ua (bz[k2]?) fun e3=>(ua (zo bJ p1) fun k3=>(ua ((bz.set k2 ({e3 with got:=(IntKind.i64.wrap (e3.got+1))}:ai))[k3]?) fun e4=>(bif decide (e4.got < e1.need) then some (.inr (bz.set k2 ({e3 with got:=(IntKind.i64.wrap (e3.got+1))}:ai))) else (ua (di p1 3 p3 p4 p5 p6 p7 p8 p9 bE bX (bz.set k2 ({e3 with got:=(IntKind.i64.wrap (e3.got+1))}:ai)) bJ bR fO) fun r1=>some (.inl r1))))))) else (bif (e1.kind == 2) then (ua (zo bX p1) fun k4=>(ua (bE[k4]?) fun e5=>(bif e5.aT then some (.inr bz) else (ua (di p1 4 p3 p4 p5 p6 p7 p8 p9 bE bX bz bJ bR fO) fun r2=>some (.inl r2))))) else (ua (di p1 3 p3 p4 p5 p6 p7 p8 p9 bE bX bz bJ bR fO) fun r3=>some (.inl r3)))) (un (fun (v2:(List ai))=>some (true,v2)) (fun (y1:(List ai))=>some (false,y1)))))))
noncomputable def TC (p1:Int) (p2:Int) (p3:ax) (p4:Int) (p5:Int) (p6:List Int) (p7:Nat) (p8:List Bool) (p9:Nat) (bE:List aj) (bX:Nat) (bz:List ai) (bJ:Nat) (bR:ax) (fO:List (Int×(List Int))):aE (Bool×(List ai)):=
 .aD 1 (.ix 2974 aL.row p3.aB p1 fun e1=>.use 6 2974 (.cut (β:=Bool) 2 (.k [0,1,7] (fun v1=>[(30,vB v1)]) [0,3,16] (fun _=>[(1,.af 1 (za zb p6)),(2,.af 1 (za zh p8)),(4,.map (zg IV.i64 IV.ls fO)),(5,.af 2 (za aj.row bE)),(6,.af 5 (za ai.row bz))]) 33 fun _=>(.af rfl (.af rfl (.aU rfl (.af rfl (.af rfl .nil)))))) (.aD 0 (.ite 2962 (e1.kind == 4) (.use 4 2963 (.ret false)) (.b1 2976 (zo bJ p1) (fun k1=>.k k1) (fun k1 hk1=>(zp hk1)) fun k1=>.b1 2978 (bz[k1]?) (fun e2=>.ar (zk (ai.row e2))) (fun e2 fB=>(zH ai.row fB)) fun e2=>.us [(4,2963),(9,2976),(11,2978)] (.ret (!(e2.bg == p2)))))) fun v1=>.ite 2964 v1 (.sel 2964 (.ret (false,bz))) (.sel 2964 (.dK (β:=(List ai)) (γ:=(List ai)) 1 (.k [] (fun _=>[]) [0,3] (fun v2=>[(1,.af 1 (za zb p6)),(2,.af 1 (za zh p8)),(4,.map (zg IV.i64 IV.ls fO)),(5,.af 2 (za aj.row bE)),(6,.af 5 (za ai.row v2))]) 42 fun _=>(.af rfl (.af rfl (.aU rfl (.af rfl (.af rfl .nil)))))) (.ite 2966 (e1.kind == 1) (.sel 2966 (.aD 0 (.b1 2980 (zo bJ p1) (fun k2=>.k k2) (fun k2 hk2=>(zp hk2)) fun k2=>.bind (bz[k2]?) (fun e3=>[(2982,([.ar (zk (ai.row e3))],_)),(2984,([.aw (zk (ai.row e3)) (za ai.row (bz.set k2 ({e3 with got:=(IntKind.i64.wrap (e3.got+1))}:ai)))],_))]) (fun e3 fk=>(.c1 (zH ai.row fk) (.c1 (zG ai.row ({e3 with got:=(IntKind.i64.wrap (e3.got+1))}:ai) fk) .nil))) fun e3=>.us [(5,2980),(7,2982),(9,2980),(11,2984)] (.aD 0 (.b1 2986 (zo bJ p1) (fun k3=>.k k3) (fun k3 gQ=>(zp gQ)) fun k3=>.b1 2988 ((bz.set k2 ({e3 with got:=(IntKind.i64.wrap (e3.got+1))}:ai))[k3]?) (fun e4=>.ar (zk (ai.row e4))) (fun e4 fG=>(zH ai.row fG)) fun e4=>.us [(5,2986),(7,2988)] (.ite 2968 (decide (e4.got < e1.need)) (.sel 2968 (.ret (.inr (bz.set k2 ({e3 with got:=(IntKind.i64.wrap (e3.got+1))}:ai))))) (.sel 2968 (.aD 0 (.b1 2990 (di p1 3 p3 p4 p5 p6 p7 p8 p9 bE bX (bz.set k2 ({e3 with got:=(IntKind.i64.wrap (e3.got+1))}:ai)) bJ bR fO) (fun r1=>.c [0,1,2,3,4,5,6] 7 (.tuple []) [(6,.af 5 (za ai.row r1))] 0) (fun r1 cq=>(zm (Qj p1 3 p3 p4 p5 p6 p7 p8 p9 bE bX (bz.set k2 ({e3 with got:=(IntKind.i64.wrap (e3.got+1))}:ai)) bJ bR fO r1 cq) [0,1,2,3,4,5,6] 62 (.drop rfl rfl (.drop rfl rfl (.drop rfl rfl (.drop rfl rfl (.drop rfl rfl (.drop rfl rfl (.keep .nil))))))) (bB (aZ (aZ (bB (eE (aZ (aZ bG))))))) (aZ bG))) fun r1=>.use 2 2990 (.ret (.inl r1))))))))))) (.sel 2966 (.ite 2970 (e1.kind == 2) (.sel 2970 (.aD 0 (.b1 2992 (zo bX p1) (fun k4=>.k k4) (fun k4 fJ=>(zp fJ)) fun k4=>.b1 2994 (bE[k4]?) (fun e5=>.ar (zk (aj.row e5))) (fun e5 lC=>(zH aj.row lC)) fun e5=>.us [(5,2992),(7,2994)] (.ite 2972 e5.aT (.sel 2972 (.ret (.inr bz))) (.sel 2972 (.aD 0 (.b1 2996 (di p1 4 p3 p4 p5 p6 p7 p8 p9 bE bX bz bJ bR fO) (fun r2=>.c [0,1,2,3,4,5,6] 7 (.tuple []) [(6,.af 5 (za ai.row r2))] 0) (fun r2 cg=>(zm (Qj p1 4 p3 p4 p5 p6 p7 p8 p9 bE bX bz bJ bR fO r2 cg) [0,1,2,3,4,5,6] 49 (.drop rfl rfl (.drop rfl rfl (.drop rfl rfl (.drop rfl rfl (.drop rfl rfl (.drop rfl rfl (.keep .nil))))))) (bB (aZ (aZ (bB (eE (aZ (aZ bG))))))) (aZ bG))) fun r2=>.use 2 2996 (.ret (.inl r2))))))))) (.sel 2970 (.aD 0 (.b1 2998 (di p1 3 p3 p4 p5 p6 p7 p8 p9 bE bX bz bJ bR fO) (fun r3=>.c [0,1,2,3,4,5,6] 7 (.tuple []) [(6,.af 5 (za ai.row r3))] 0) (fun r3 eB=>(zm (Qj p1 3 p3 p4 p5 p6 p7 p8 p9 bE bX bz bJ bR fO r3 eB) [0,1,2,3,4,5,6] 41 (.drop rfl rfl (.drop rfl rfl (.drop rfl rfl (.drop rfl rfl (.drop rfl rfl (.drop rfl rfl (.keep .nil))))))) (bB (aZ (aZ (bB (eE (aZ (aZ bG))))))) (aZ bG))) fun r3=>.use 2 2998 (.ret (.inl r3)))))))) fun o_v2=>.case o_v2 (fun v2=>.ret (true,v2)) fun y1=>.ret (false,y1)))))
theorem TD (p1:Int) (p2:Int) (p3:ax) (p4:Int) (p5:Int) (p6:List Int) (p7:Nat) (p8:List Bool) (p9:Nat) (bE:List aj) (bX:Nat) (bz:List ai) (bJ:Nat) (bR:ax) (fO:List (Int×(List Int))) (res:Bool×(List ai)) (hd:iw p1 p2 p3 p4 p5 p6 p7 p8 p9 bE bX bz bJ bR fO=some res):dD C0 215 [.ptr 0 0 0,vI p1,vI p2] [(0,.af 15 [[vI p3.aN,.ak (.slice (ub zb p3.aC)),.ak (.slice (ub bp.row p3.bk)),.ak (.slice (ub aV.row p3.aK)),.ak (.slice (ub aL.row p3.aB)),vI p3.aJ,.ak (.slice (ub zb p3.off)),vI p4,vI p5,.Zag 1 0 p7,.Zag 2 0 p9,.func 294 [] [.ptr 3 0 0],.map 4,.Zag 5 0 bX,.Zag 6 0 bJ]]),(1,.af 1 (za zb p6)),(2,.af 1 (za zh p8)),(3,.af 7 [zk (ax.row bR)]),(4,.map (zg IV.i64 IV.ls fO)),(5,.af 2 (za aj.row bE)),(6,.af 5 (za ai.row bz))] 7 (vB res.1) [(0,.af 15 [[vI p3.aN,.ak (.slice (ub zb p3.aC)),.ak (.slice (ub bp.row p3.bk)),.ak (.slice (ub aV.row p3.aK)),.ak (.slice (ub aL.row p3.aB)),vI p3.aJ,.ak (.slice (ub zb p3.off)),vI p4,vI p5,.Zag 1 0 p7,.Zag 2 0 p9,.func 294 [] [.ptr 3 0 0],.map 4,.Zag 5 0 bX,.Zag 6 0 bJ]]),(1,.af 1 (za zb p6)),(2,.af 1 (za zh p8)),(3,.af 7 [zk (ax.row bR)]),(4,.map (zg IV.i64 IV.ls fO)),(5,.af 2 (za aj.row bE)),(6,.af 5 (za ai.row res.2))] 0:=
 aE.dA (R:=fun res=>vB res.1) (H:=fun res=>[(0,.af 15 [[vI p3.aN,.ak (.slice (ub zb p3.aC)),.ak (.slice (ub bp.row p3.bk)),.ak (.slice (ub aV.row p3.aK)),.ak (.slice (ub aL.row p3.aB)),vI p3.aJ,.ak (.slice (ub zb p3.off)),vI p4,vI p5,.Zag 1 0 p7,.Zag 2 0 p9,.func 294 [] [.ptr 3 0 0],.map 4,.Zag 5 0 bX,.Zag 6 0 bJ]]),(1,.af 1 (za zb p6)),(2,.af 1 (za zh p8)),(3,.af 7 [zk (ax.row bR)]),(4,.map (zg IV.i64 IV.ls fO)),(5,.af 2 (za aj.row bE)),(6,.af 5 (za ai.row res.2))]) (TC p1 p2 p3 p4 p5 p6 p7 p8 p9 bE bX bz bJ bR fO) (.exp rfl rfl (.af rfl (.af rfl (.exp rfl rfl (.aU rfl (.af rfl (.af rfl .nil))))))) (fun _=>(.exp rfl rfl (.af rfl (.af rfl (.exp rfl rfl (.aU rfl (.af rfl (.af rfl .nil)))))))) (by kernel_rfl) (fun _=>by kernel_rfl) (by kernel_rfl) (aE.aF hd (by kernel_rfl))
noncomputable def J9 (p1:Int) (p2:ax) (p3:Int) (p4:Int) (p5:List Int) (p6:Nat) (p7:List Bool) (p8:Nat) (p9:List aj) (bE:Nat) (bX:List ai) (bz:Nat) (bJ:ax) (bR:List (Int×(List Int))):Option ((List Int)×(List Int)×(List Bool)×(List aj)×(List ai)):=
 (ua (zf p2.aK p1) fun e1=>(ua (bif (e1.kind == 1) then some true else (ua (zo p8 p1) fun k1=>(ua (p7[k1]?) fun e2=>some (!e2)))) fun v1=>(ua (zo p8 p1) fun k2=>(ua (p7[k2]?) fun e3=>(ua (bif (e1.bW == (-1)) then some (-1) else (ua (zo p6 e1.bW) fun k3=>(ua (p5[k3]?) fun e4=>some e4))) fun (v2:Int)=>(ua (aG (σ:=(List Int)×(List aj)×(List ai)) (ρ:=Unit) (p2.aB.length:Int) (fun i1 s1=>(ua (ua (zf p2.aB (i1:Int)) fun e5=>(ua (eM (i1:Int) p2 p3 p4 p5 p6 (p7.set k2 true) p8 s1.2.1 bE s1.2.2 bz bJ bR) fun r1=>(bif r1 then (ua (ua (bif v1 then (bif (e5.act == p1) then (ua (iw (i1:Int) v2 p2 p3 p4 p5 p6 (p7.set k2 true) p8 s1.2.1 bE s1.2.2 bz bJ bR) fun r2=>some (r2.1,r2.2)) else some (false,s1.2.2)) else some (false,s1.2.2)) fun v3=>(bif v3.1 then (ua (zN (α:=Int) 8 s1.1 [(i1:Int)]) fun e6=>some (e6,v3.2)) else some (s1.1,v3.2))) fun (v4:(List Int)×(List ai))=>(ua (bif (e5.bH == p1) then (ua (zo bE (i1:Int)) fun k4=>(ua (s1.2.1[k4]?) fun e7=>some (s1.2.1.set k4 ({aJ:=e7.aJ,aT:=true}:aj)))) else some s1.2.1) fun (v5:(List aj))=>(bif (e5.resume == p1) then (ua (zo bE (i1:Int)) fun k5=>(ua (v5[k5]?) fun e8=>some (v4.1,(v5.set k5 ({aJ:=e8.aJ,aT:=false}:aj)),v4.2))) else some (v4.1,v5,v4.2)))) else some (s1.1,s1.2.1,s1.2.2)))) fun (v6:(List Int)×(List aj)×(List ai))=>some (.inl (v6.1,v6.2.1,v6.2.2)))) ([],p9,bX)) (un (fun (s1:(List Int)×(List aj)×(List ai))=>(ua (bif v1 then some (e1.kind == 1) else some true) fun v7=>(bif v7 then some (s1.1,p5,(p7.set k2 true),s1.2.1,s1.2.2) else (ua (zo p6 e1.cM) fun k6=>(ua (p5[k6]?) fun e9=>(ua (aG (σ:=(List ai)) (ρ:=Unit) (p2.aB.length:Int) (fun i2 s2=>(ua (ua (zf p2.aB (i2:Int)) fun dW=>(ua (bif (e1.kind == 3) then (ua (eM (i2:Int) p2 p3 p4 (p5.set k6 e1.to) p6 (p7.set k2 true) p8 s1.2.1 bE s2 bz bJ bR) fun r3=>(bif r3 then (bif (dW.kind == 4) then some false else some (dW.bW == e1.cM)) else some false)) else some false) fun v8=>(bif v8 then (ua (zo bz (i2:Int)) fun k7=>(ua (s2[k7]?) fun fU=>some (s2.set k7 ({fU with bg:=e1.to}:ai)))) else some s2))) fun (v9:(List ai))=>some (.inl v9))) s1.2.2) (un (fun (s2:(List ai))=>some (s1.1,(p5.set k6 e1.to),(p7.set k2 true),s1.2.1,s2)) (fun _=>none)))))))) (fun _=>none))))))))
noncomputable def TE (p1:Int) (p2:ax) (p3:Int) (p4:Int) (p5:List Int) (p6:Nat) (p7:List Bool) (p8:Nat) (p9:List aj) (bE:Nat) (bX:List ai) (bz:Nat) (bJ:ax) (bR:List (Int×(List Int))):aE ((List Int)×(List Int)×(List Bool)×(List aj)×(List ai)):=
 .aD 1 (.ix 3040 aV.row p2.aK p1 fun e1=>.use 6 3040 (.cut (β:=Bool) 1 (.k [0,1,5] (fun v1=>[(6,vB v1)]) [0,3,16] (fun _=>[(1,.af 1 (za zb p5)),(2,.af 1 (za zh p7)),(4,.map (zg IV.i64 IV.ls bR)),(5,.af 2 (za aj.row p9)),(6,.af 5 (za ai.row bX))]) 32 fun _=>(.af rfl (.af rfl (.aU rfl (.af rfl (.af rfl .nil)))))) (.aD 0 (.ite 2950 (e1.kind == 1) (.use 4 2950 (.ret true)) (.b1 3042 (zo p8 p1) (fun k1=>.k k1) (fun k1 hk1=>(zp hk1)) fun k1=>.b1 3044 (p7[k1]?) (fun e2=>.ar (zk (zh e2))) (fun e2 fB=>(zH zh fB)) fun e2=>.us [(4,2950),(9,3042),(10,3044)] (.ret (!e2))))) fun v1=>.aD 0 (.b1 3046 (zo p8 p1) (fun k2=>.k k2) (fun k2 hk2=>(zp hk2)) fun k2=>.b1 3048 (p7[k2]?) (fun e3=>.aw (zk (zh e3)) (za zh (p7.set k2 true))) (fun e3 fk=>(zG zh true fk)) fun e3=>.us [(5,3046),(6,3048)] (.cut (β:=Int) 2 (.k [0,1,5,6] (fun v2=>[(7,vI v2)]) [0,3,16] (fun _=>[(1,.af 1 (za zb p5)),(2,.af 1 (za zh (p7.set k2 true))),(4,.map (zg IV.i64 IV.ls bR)),(5,.af 2 (za aj.row p9)),(6,.af 5 (za ai.row bX))]) 43 fun _=>(.af rfl (.af rfl (.aU rfl (.af rfl (.af rfl .nil)))))) (.ite 2952 (e1.bW == (-1)) (.sel 2953 (.ret (-1))) (.sel 2953 (.aD 0 (.b1 3050 (zo p6 e1.bW) (fun k3=>.k k3) (fun k3 gQ=>(zp gQ)) fun k3=>.b1 3052 (p5[k3]?) (fun e4=>.ar (zk (zb e4))) (fun e4 fG=>(zH zb fG)) fun e4=>.us [(6,3050),(7,3052)] (.ret e4))))) fun v2=>.aD 1 (.ln 3092 aL.row p2.aB (.use 5 3092 (.cE 1 [Bf 8 1] (.aG (σ:=(List Int)×(List aj)×(List ai)) (ρ:=Unit) 2954 57 (p2.aB.length:Int) ([],p9,bX) (.k [0,1,5,6,7,55,56] (fun s1=>[(8,.aX 51 (ub zb s1.1))]) [0,3,16] (fun s1=>[(1,.af 1 (za zb p5)),(2,.af 1 (za zh (p7.set k2 true))),(4,.map (zg IV.i64 IV.ls bR)),(5,.af 2 (za aj.row s1.2.1)),(6,.af 5 (za ai.row s1.2.2)),(51,.bf 1 s1.1.length)]) 52 fun _=>(.af rfl (.af rfl (.aU rfl (.af rfl (.af rfl (.exp rfl rfl .nil))))))) (fun i1 s1=>.sel 2954 (.cut (β:=(List Int)×(List aj)×(List ai)) 1 (.k [0,1,5,6,7,55,56,57] (fun v6=>[(8,.aX 51 (ub zb v6.1))]) [0,3,16] (fun v6=>[(1,.af 1 (za zb p5)),(2,.af 1 (za zh (p7.set k2 true))),(4,.map (zg IV.i64 IV.ls bR)),(5,.af 2 (za aj.row v6.2.1)),(6,.af 5 (za ai.row v6.2.2)),(51,.bf 1 v6.1.length)]) 63 fun _=>(.af rfl (.af rfl (.aU rfl (.af rfl (.af rfl (.exp rfl rfl .nil))))))) (.aD 0 (.ix 3054 aL.row p2.aB (i1:Int) fun e5=>.use 1 3054 (.aD 0 (.b1 3056 (eM (i1:Int) p2 p3 p4 p5 p6 (p7.set k2 true) p8 s1.2.1 bE s1.2.2 bz bJ bR) (fun r1=>.c [0,1,2,3,4,5,6] 7 (vB r1) [] 0) (fun r1 cq=>(zm (Ev (i1:Int) p2 p3 p4 p5 p6 (p7.set k2 true) p8 s1.2.1 bE s1.2.2 bz bJ bR r1 cq) [0,1,2,3,4,5,6] 61 (.drop rfl rfl (.drop rfl rfl (.drop rfl rfl (.drop rfl rfl (.drop rfl rfl (.drop rfl rfl (.drop rfl rfl .nil))))))) (bB (aZ (aZ (bB (eE (aZ (aZ bG))))))) bG)) fun r1=>.use 2 3056 (.ite 3006 r1 (.sel 3007 (.cut (β:=(List Int)×(List ai)) 1 (.k [0,1,5,6,7,55,56,57,10,9] (fun v4=>[(8,.aX 51 (ub zb v4.1))]) [0,3,16,56] (fun v4=>[(1,.af 1 (za zb p5)),(2,.af 1 (za zh (p7.set k2 true))),(4,.map (zg IV.i64 IV.ls bR)),(5,.af 2 (za aj.row s1.2.1)),(6,.af 5 (za ai.row v4.2)),(51,.bf 1 v4.1.length)]) 76 fun _=>(.af rfl (.af rfl (.aU rfl (.af rfl (.af rfl (.exp rfl rfl .nil))))))) (.cut (β:=Bool×(List ai)) 1 (.k [0,1,5,6,7,8,55,56,57,10,9] (fun v3=>[(78,vB v3.1)]) [0,3,16,51,56] (fun v3=>[(1,.af 1 (za zb p5)),(2,.af 1 (za zh (p7.set k2 true))),(4,.map (zg IV.i64 IV.ls bR)),(5,.af 2 (za aj.row s1.2.1)),(6,.af 5 (za ai.row v3.2))]) 76 fun _=>(.af rfl (.af rfl (.aU rfl (.af rfl (.af rfl .nil)))))) (.aD 0 (.ite 3008 v1 (.ite 3010 (e5.act == p1) (.b1 3058 (iw (i1:Int) v2 p2 p3 p4 p5 p6 (p7.set k2 true) p8 s1.2.1 bE s1.2.2 bz bJ bR) (fun r2=>.c [0,1,2,3,4,5,6] 7 (vB r2.1) [(6,.af 5 (za ai.row r2.2))] 0) (fun r2 cg=>(zm (TD (i1:Int) v2 p2 p3 p4 p5 p6 (p7.set k2 true) p8 s1.2.1 bE s1.2.2 bz bJ bR r2 cg) [0,1,2,3,4,5,6] 74 (.drop rfl rfl (.drop rfl rfl (.drop rfl rfl (.drop rfl rfl (.drop rfl rfl (.drop rfl rfl (.keep .nil))))))) (bB (aZ (aZ (bB (eE (aZ (aZ bG))))))) (aZ bG))) fun r2=>.us [(2,3008),(8,3010),(11,3058)] (.ret (r2.1,r2.2))) (.us [(2,3008),(8,3010)] (.ret (false,s1.2.2)))) (.use 2 3008 (.f1 3060 (.g false) (rfl:false=false) (.use 8 3060 (.ret (false,s1.2.2))))))) fun v3=>.ite 3012 v3.1 (.sel 3012 (.aD 0 (.b1 3062 (zN (α:=Int) 8 s1.1 [(i1:Int)]) (fun e6=>.a (ub zb e6) e6.length) (fun e6 pX=>(qr zb 1 8 (fun _=>rfl) pX)) fun e6=>.use 3 3062 (.ret (e6,v3.2))))) (.sel 3012 (.ret (s1.1,v3.2)))) fun v4=>.cut (β:=(List aj)) 1 (.k [0,1,5,6,7,8,55,56,57,10,9] (fun _=>[]) [0,3,16,51,56] (fun v5=>[(1,.af 1 (za zb p5)),(2,.af 1 (za zh (p7.set k2 true))),(4,.map (zg IV.i64 IV.ls bR)),(5,.af 2 (za aj.row v5)),(6,.af 5 (za ai.row v4.2))]) 80 fun _=>(.af rfl (.af rfl (.aU rfl (.af rfl (.af rfl .nil)))))) (.ite 3014 (e5.bH == p1) (.sel 3014 (.aD 0 (.b1 3064 (zo bE (i1:Int)) (fun k4=>.k k4) (fun k4 fJ=>(zp fJ)) fun k4=>.b1 3066 (s1.2.1[k4]?) (fun e7=>.aw (zk (aj.row e7)) (za aj.row (s1.2.1.set k4 ({aJ:=e7.aJ,aT:=true}:aj)))) (fun e7 pY=>(zG aj.row ({aJ:=e7.aJ,aT:=true}:aj) pY)) fun e7=>.us [(5,3064),(7,3066)] (.ret (s1.2.1.set k4 ({aJ:=e7.aJ,aT:=true}:aj)))))) (.sel 3014 (.ret s1.2.1))) fun v5=>.ite 3016 (e5.resume == p1) (.sel 3016 (.aD 0 (.b1 3068 (zo bE (i1:Int)) (fun k5=>.k k5) (fun k5 tF=>(zp tF)) fun k5=>.b1 3070 (v5[k5]?) (fun e8=>.aw (zk (aj.row e8)) (za aj.row (v5.set k5 ({aJ:=e8.aJ,aT:=false}:aj)))) (fun e8 pZ=>(zG aj.row ({aJ:=e8.aJ,aT:=false}:aj) pZ)) fun e8=>.us [(5,3068),(7,3070)] (.ret (v4.1,(v5.set k5 ({aJ:=e8.aJ,aT:=false}:aj)),v4.2))))) (.sel 3016 (.ret (v4.1,v5,v4.2))))) (.sel 3007 (.ret (s1.1,s1.2.1,s1.2.2)))))))) fun v6=>.ret (.inl (v6.1,v6.2.1,v6.2.2)))) fun os1=>.case os1 (fun s1=>.sel 2954 (.cut (β:=Bool) 2 (.k [0,5,8] (fun v7=>[(112,vB v7)]) [0,3,16,51] (fun _=>[(1,.af 1 (za zb p5)),(2,.af 1 (za zh (p7.set k2 true))),(4,.map (zg IV.i64 IV.ls bR)),(5,.af 2 (za aj.row s1.2.1)),(6,.af 5 (za ai.row s1.2.2))]) 60 fun _=>(.af rfl (.af rfl (.aU rfl (.af rfl (.af rfl .nil)))))) (.aD 0 (.ite 3018 v1 (.use 3 3019 (.ret (e1.kind == 1))) (.use 3 3019 (.ret true)))) fun v7=>.ite 3020 v7 (.sel 3020 (.ret (s1.1,p5,(p7.set k2 true),s1.2.1,s1.2.2))) (.sel 3020 (.aD 0 (.b1 3072 (zo p6 e1.cM) (fun k6=>.k k6) (fun k6 td=>(zp td)) fun k6=>.b1 3074 (p5[k6]?) (fun e9=>.aw (zk (zb e9)) (za zb (p5.set k6 e1.to))) (fun e9 Bv=>(zG zb e1.to Bv)) fun e9=>.us [(8,3072),(9,3074)] (.aD 0 (.ln 3090 aL.row p2.aB (.use 5 3090 (.aG (σ:=(List ai)) (ρ:=Unit) 3022 129 (p2.aB.length:Int) s1.2.2 (.k [0,5,8,127,128] (fun _=>[]) [0,3,16,51] (fun s2=>[(1,.af 1 (za zb (p5.set k6 e1.to))),(2,.af 1 (za zh (p7.set k2 true))),(4,.map (zg IV.i64 IV.ls bR)),(5,.af 2 (za aj.row s1.2.1)),(6,.af 5 (za ai.row s2))]) 77 fun _=>(.af rfl (.af rfl (.aU rfl (.af rfl (.af rfl .nil)))))) (fun i2 s2=>.sel 3022 (.cut (β:=(List ai)) 1 (.k [0,5,8,127,128,129] (fun _=>[]) [0,3,16,51] (fun v9=>[(1,.af 1 (za zb (p5.set k6 e1.to))),(2,.af 1 (za zh (p7.set k2 true))),(4,.map (zg IV.i64 IV.ls bR)),(5,.af 2 (za aj.row s1.2.1)),(6,.af 5 (za ai.row v9))]) 104 fun _=>(.af rfl (.af rfl (.aU rfl (.af rfl (.af rfl .nil)))))) (.aD 0 (.ix 3076 aL.row p2.aB (i2:Int) fun dW=>.use 1 3076 (.cut (β:=Bool) 1 (.k [0,5,8,127,128,129,11] (fun v8=>[(153,vB v8)]) [0,3,16,51,81] (fun _=>[(1,.af 1 (za zb (p5.set k6 e1.to))),(2,.af 1 (za zh (p7.set k2 true))),(4,.map (zg IV.i64 IV.ls bR)),(5,.af 2 (za aj.row s1.2.1)),(6,.af 5 (za ai.row s2))]) 104 fun _=>(.af rfl (.af rfl (.aU rfl (.af rfl (.af rfl .nil)))))) (.aD 0 (.ite 3032 (e1.kind == 3) (.b1 3078 (eM (i2:Int) p2 p3 p4 (p5.set k6 e1.to) p6 (p7.set k2 true) p8 s1.2.1 bE s2 bz bJ bR) (fun r3=>.c [0,1,2,3,4,5,6] 7 (vB r3) [] 0) (fun r3 eB=>(zm (Ev (i2:Int) p2 p3 p4 (p5.set k6 e1.to) p6 (p7.set k2 true) p8 s1.2.1 bE s2 bz bJ bR r3 eB) [0,1,2,3,4,5,6] 90 (.drop rfl rfl (.drop rfl rfl (.drop rfl rfl (.drop rfl rfl (.drop rfl rfl (.drop rfl rfl (.drop rfl rfl .nil))))))) (bB (aZ (aZ (bB (eE (aZ (aZ bG))))))) bG)) fun r3=>.ite 3034 r3 (.ite 3036 (dW.kind == 4) (.us [(4,3032),(6,3078),(9,3034),(14,3037)] (.ret false)) (.us [(4,3032),(6,3078),(9,3034),(14,3037)] (.ret (dW.bW == e1.cM)))) (.us [(4,3032),(6,3078),(9,3034)] (.f1 3080 (.g false) (rfl:false=false) (.use 14 3080 (.ret false))))) (.use 4 3032 (.f1 3084 (.g false) (rfl:false=false) (.use 9 3084 (.f1 3082 (.g false) (rfl:false=false) (.use 14 3082 (.ret false)))))))) fun v8=>.ite 3038 v8 (.sel 3038 (.aD 0 (.b1 3086 (zo bz (i2:Int)) (fun k7=>.k k7) (fun k7 Eu=>(zp Eu)) fun k7=>.b1 3088 (s2[k7]?) (fun fU=>.aw (zk (ai.row fU)) (za ai.row (s2.set k7 ({fU with bg:=e1.to}:ai)))) (fun fU oM=>(zG ai.row ({fU with bg:=e1.to}:ai) oM)) fun fU=>.us [(7,3086),(9,3088)] (.ret (s2.set k7 ({fU with bg:=e1.to}:ai)))))) (.sel 3038 (.ret s2))))) fun v9=>.ret (.inl v9))) fun os2=>.case os2 (fun s2=>.sel 3022 (.ret (s1.1,(p5.set k6 e1.to),(p7.set k2 true),s1.2.1,s2))) fun _=>.none))))))))) fun _=>.none))))))))
theorem TF (p1:Int) (p2:ax) (p3:Int) (p4:Int) (p5:List Int) (p6:Nat) (p7:List Bool) (p8:Nat) (p9:List aj) (bE:Nat) (bX:List ai) (bz:Nat) (bJ:ax) (bR:List (Int×(List Int))) (res:(List Int)×(List Int)×(List Bool)×(List aj)×(List ai)) (hd:J9 p1 p2 p3 p4 p5 p6 p7 p8 p9 bE bX bz bJ bR=some res):dD C0 214 [.ptr 0 0 0,vI p1] [(0,.af 15 [[vI p2.aN,.ak (.slice (ub zb p2.aC)),.ak (.slice (ub bp.row p2.bk)),.ak (.slice (ub aV.row p2.aK)),.ak (.slice (ub aL.row p2.aB)),vI p2.aJ,.ak (.slice (ub zb p2.off)),vI p3,vI p4,.Zag 1 0 p6,.Zag 2 0 p8,.func 294 [] [.ptr 3 0 0],.map 4,.Zag 5 0 bE,.Zag 6 0 bz]]),(1,.af 1 (za zb p5)),(2,.af 1 (za zh p7)),(3,.af 7 [zk (ax.row bJ)]),(4,.map (zg IV.i64 IV.ls bR)),(5,.af 2 (za aj.row p9)),(6,.af 5 (za ai.row bX))] 7 (.aX 51 (ub zb res.1)) [(0,.af 15 [[vI p2.aN,.ak (.slice (ub zb p2.aC)),.ak (.slice (ub bp.row p2.bk)),.ak (.slice (ub aV.row p2.aK)),.ak (.slice (ub aL.row p2.aB)),vI p2.aJ,.ak (.slice (ub zb p2.off)),vI p3,vI p4,.Zag 1 0 p6,.Zag 2 0 p8,.func 294 [] [.ptr 3 0 0],.map 4,.Zag 5 0 bE,.Zag 6 0 bz]]),(1,.af 1 (za zb res.2.1)),(2,.af 1 (za zh res.2.2.1)),(3,.af 7 [zk (ax.row bJ)]),(4,.map (zg IV.i64 IV.ls bR)),(5,.af 2 (za aj.row res.2.2.2.1)),(6,.af 5 (za ai.row res.2.2.2.2)),(51,.bf 1 res.1.length)] 45:=
 aE.dA (R:=fun res=>.aX 51 (ub zb res.1)) (H:=fun res=>[(0,.af 15 [[vI p2.aN,.ak (.slice (ub zb p2.aC)),.ak (.slice (ub bp.row p2.bk)),.ak (.slice (ub aV.row p2.aK)),.ak (.slice (ub aL.row p2.aB)),vI p2.aJ,.ak (.slice (ub zb p2.off)),vI p3,vI p4,.Zag 1 0 p6,.Zag 2 0 p8,.func 294 [] [.ptr 3 0 0],.map 4,.Zag 5 0 bE,.Zag 6 0 bz]]),(1,.af 1 (za zb res.2.1)),(2,.af 1 (za zh res.2.2.1)),(3,.af 7 [zk (ax.row bJ)]),(4,.map (zg IV.i64 IV.ls bR)),(5,.af 2 (za aj.row res.2.2.2.1)),(6,.af 5 (za ai.row res.2.2.2.2)),(51,.bf 1 res.1.length)]) (TE p1 p2 p3 p4 p5 p6 p7 p8 p9 bE bX bz bJ bR) (.exp rfl rfl (.af rfl (.af rfl (.exp rfl rfl (.aU rfl (.af rfl (.af rfl .nil))))))) (fun _=>(.exp rfl rfl (.af rfl (.af rfl (.exp rfl rfl (.aU rfl (.af rfl (.af rfl (.exp rfl rfl .nil))))))))) (by kernel_rfl) (fun _=>by kernel_rfl) (by kernel_rfl) (aE.aF hd (by kernel_rfl))
noncomputable def Xa (p1:Int) (p2:ax) (p3:Int) (p4:Int) (p5:List Int) (p6:Nat) (p7:List Bool) (p8:Nat) (p9:List aj) (bE:Nat) (bX:List ai) (bz:Nat) (bJ:ax) (bR:List (Int×(List Int))):Option (Int×(List Int)×(List Bool)×(List (Int×(List Int)))×(List aj)×(List ai)):=
 (bif (p1 == (-1)) then (ua (J8 p1 p2 (IntKind.i64.wrap (p3+1)) p4 p5 p6 p7 p8 p9 bE bX bz bJ bR) fun r1=>(ua (fM r1.1 p2 (IntKind.i64.wrap (p3+1)) (IntKind.i64.wrap (p4+1)) p5 p6 p7 p8 r1.2.1 bE r1.2.2 bz bJ bR) fun r2=>some ((IntKind.i64.wrap (p4+1)),p5,p7,r2.2.1,r1.2.1,r2.2.2))) else (ua (J9 p1 p2 (IntKind.i64.wrap (p3+1)) p4 p5 p6 p7 p8 p9 bE bX bz bJ bR) fun r3=>(ua (fM r3.1 p2 (IntKind.i64.wrap (p3+1)) p4 r3.2.1 p6 r3.2.2.1 p8 r3.2.2.2.1 bE r3.2.2.2.2 bz bJ bR) fun r4=>some (p4,r3.2.1,r3.2.2.1,r4.2.1,r3.2.2.2.1,r4.2.2))))
noncomputable def TG (p1:Int) (p2:ax) (p3:Int) (p4:Int) (p5:List Int) (p6:Nat) (p7:List Bool) (p8:Nat) (p9:List aj) (bE:Nat) (bX:List ai) (bz:Nat) (bJ:ax) (bR:List (Int×(List Int))):aE (Int×(List Int)×(List Bool)×(List (Int×(List Int)))×(List aj)×(List ai)):=
 .ite 2752 (p1 == (-1)) (.sel 2752 (.aD 2 (.b1 3094 (J8 p1 p2 (IntKind.i64.wrap (p3+1)) p4 p5 p6 p7 p8 p9 bE bX bz bJ bR) (fun r1=>.c [0,1,2,3,4,5,6] 7 (.aX 53 (ub zb r1.1)) [(0,.af 15 [[vI p2.aN,.ak (.slice (ub zb p2.aC)),.ak (.slice (ub bp.row p2.bk)),.ak (.slice (ub aV.row p2.aK)),.ak (.slice (ub aL.row p2.aB)),vI p2.aJ,.ak (.slice (ub zb p2.off)),vI (IntKind.i64.wrap (p3+1)),vI (IntKind.i64.wrap (p4+1)),.Zag 1 0 p6,.Zag 2 0 p8,.func 294 [] [.ptr 3 0 0],.map 4,.Zag 5 0 bE,.Zag 6 0 bz]]),(5,.af 2 (za aj.row r1.2.1)),(6,.af 5 (za ai.row r1.2.2)),(53,.bf 1 r1.1.length)] 28) (fun r1 cq=>(zm (Tx p1 p2 (IntKind.i64.wrap (p3+1)) p4 p5 p6 p7 p8 p9 bE bX bz bJ bR r1 cq) [0,1,2,3,4,5,6] 26 (.keep (.drop rfl rfl (.drop rfl rfl (.drop rfl rfl (.drop rfl rfl (.keep (.keep (.keep .nil)))))))) (bB (aZ (aZ (bB (eE (aZ (aZ bG))))))) (bB (aZ (aZ (bB bG)))))) fun r1=>.b1 3096 (fM r1.1 p2 (IntKind.i64.wrap (p3+1)) (IntKind.i64.wrap (p4+1)) p5 p6 p7 p8 r1.2.1 bE r1.2.2 bz bJ bR) (fun r2=>.c [0,53,1,2,3,4,5,6] 8 (.tuple []) [(53,.bf 1 r2.1.length),(4,.map (zg IV.i64 IV.ls r2.2.1)),(6,.af 5 (za ai.row r2.2.2))] 0) (fun r2 cg=>(zm (Ir r1.1 p2 (IntKind.i64.wrap (p3+1)) (IntKind.i64.wrap (p4+1)) p5 p6 p7 p8 r1.2.1 bE r1.2.2 bz bJ bR r2 cg) [0,53,1,2,3,4,5,6] 55 (.drop rfl rfl (.keep (.drop rfl rfl (.drop rfl rfl (.drop rfl rfl (.keep (.drop rfl rfl (.keep .nil)))))))) (bB (bB (aZ (aZ (bB (eE (aZ (aZ bG)))))))) (bB (eE (aZ bG))))) fun r2=>.us [(3,3094),(4,3096)] (.ret ((IntKind.i64.wrap (p4+1)),p5,p7,r2.2.1,r1.2.1,r2.2.2))))) (.sel 2752 (.aD 1 (.b1 3098 (J9 p1 p2 (IntKind.i64.wrap (p3+1)) p4 p5 p6 p7 p8 p9 bE bX bz bJ bR) (fun r3=>.c [0,1,2,3,4,5,6] 7 (.aX 67 (ub zb r3.1)) [(1,.af 1 (za zb r3.2.1)),(2,.af 1 (za zh r3.2.2.1)),(5,.af 2 (za aj.row r3.2.2.2.1)),(6,.af 5 (za ai.row r3.2.2.2.2)),(67,.bf 1 r3.1.length)] 45) (fun r3 eB=>(zm (TF p1 p2 (IntKind.i64.wrap (p3+1)) p4 p5 p6 p7 p8 p9 bE bX bz bJ bR r3 eB) [0,1,2,3,4,5,6] 23 (.drop rfl rfl (.keep (.keep (.drop rfl rfl (.drop rfl rfl (.keep (.keep (.keep .nil)))))))) (bB (aZ (aZ (bB (eE (aZ (aZ bG))))))) (aZ (aZ (aZ (aZ (bB bG))))))) fun r3=>.b1 3100 (fM r3.1 p2 (IntKind.i64.wrap (p3+1)) p4 r3.2.1 p6 r3.2.2.1 p8 r3.2.2.2.1 bE r3.2.2.2.2 bz bJ bR) (fun r4=>.c [0,67,1,2,3,4,5,6] 8 (.tuple []) [(67,.bf 1 r4.1.length),(4,.map (zg IV.i64 IV.ls r4.2.1)),(6,.af 5 (za ai.row r4.2.2))] 0) (fun r4 l7=>(zm (Ir r3.1 p2 (IntKind.i64.wrap (p3+1)) p4 r3.2.1 p6 r3.2.2.1 p8 r3.2.2.2.1 bE r3.2.2.2.2 bz bJ bR r4 l7) [0,67,1,2,3,4,5,6] 69 (.drop rfl rfl (.keep (.drop rfl rfl (.drop rfl rfl (.drop rfl rfl (.keep (.drop rfl rfl (.keep .nil)))))))) (bB (bB (aZ (aZ (bB (eE (aZ (aZ bG)))))))) (bB (eE (aZ bG))))) fun r4=>.us [(3,3098),(4,3100)] (.ret (p4,r3.2.1,r3.2.2.1,r4.2.1,r3.2.2.2.1,r4.2.2)))))
theorem TH (p1:Int) (p2:ax) (p3:Int) (p4:Int) (p5:List Int) (p6:Nat) (p7:List Bool) (p8:Nat) (p9:List aj) (bE:Nat) (bX:List ai) (bz:Nat) (bJ:ax) (bR:List (Int×(List Int))) (res:Int×(List Int)×(List Bool)×(List (Int×(List Int)))×(List aj)×(List ai)) (hd:Xa p1 p2 p3 p4 p5 p6 p7 p8 p9 bE bX bz bJ bR=some res):dD C0 220 [.ptr 0 0 0,vI p1] [(0,.af 15 [[vI p2.aN,.ak (.slice (ub zb p2.aC)),.ak (.slice (ub bp.row p2.bk)),.ak (.slice (ub aV.row p2.aK)),.ak (.slice (ub aL.row p2.aB)),vI p2.aJ,.ak (.slice (ub zb p2.off)),vI p3,vI p4,.Zag 1 0 p6,.Zag 2 0 p8,.func 294 [] [.ptr 3 0 0],.map 4,.Zag 5 0 bE,.Zag 6 0 bz]]),(1,.af 1 (za zb p5)),(2,.af 1 (za zh p7)),(3,.af 7 [zk (ax.row bJ)]),(4,.map (zg IV.i64 IV.ls bR)),(5,.af 2 (za aj.row p9)),(6,.af 5 (za ai.row bX))] 7 (.tuple []) [(0,.af 15 [[vI p2.aN,.ak (.slice (ub zb p2.aC)),.ak (.slice (ub bp.row p2.bk)),.ak (.slice (ub aV.row p2.aK)),.ak (.slice (ub aL.row p2.aB)),vI p2.aJ,.ak (.slice (ub zb p2.off)),vI (IntKind.i64.wrap (p3+1)),vI res.1,.Zag 1 0 p6,.Zag 2 0 p8,.func 294 [] [.ptr 3 0 0],.map 4,.Zag 5 0 bE,.Zag 6 0 bz]]),(1,.af 1 (za zb res.2.1)),(2,.af 1 (za zh res.2.2.1)),(3,.af 7 [zk (ax.row bJ)]),(4,.map (zg IV.i64 IV.ls res.2.2.2.1)),(5,.af 2 (za aj.row res.2.2.2.2.1)),(6,.af 5 (za ai.row res.2.2.2.2.2))] 0:=
 aE.dA (R:=fun res=>.tuple []) (H:=fun res=>[(0,.af 15 [[vI p2.aN,.ak (.slice (ub zb p2.aC)),.ak (.slice (ub bp.row p2.bk)),.ak (.slice (ub aV.row p2.aK)),.ak (.slice (ub aL.row p2.aB)),vI p2.aJ,.ak (.slice (ub zb p2.off)),vI (IntKind.i64.wrap (p3+1)),vI res.1,.Zag 1 0 p6,.Zag 2 0 p8,.func 294 [] [.ptr 3 0 0],.map 4,.Zag 5 0 bE,.Zag 6 0 bz]]),(1,.af 1 (za zb res.2.1)),(2,.af 1 (za zh res.2.2.1)),(3,.af 7 [zk (ax.row bJ)]),(4,.map (zg IV.i64 IV.ls res.2.2.2.1)),(5,.af 2 (za aj.row res.2.2.2.2.1)),(6,.af 5 (za ai.row res.2.2.2.2.2))]) (TG p1 p2 p3 p4 p5 p6 p7 p8 p9 bE bX bz bJ bR) (.exp rfl rfl (.af rfl (.af rfl (.exp rfl rfl (.aU rfl (.af rfl (.af rfl .nil))))))) (fun _=>(.exp rfl rfl (.af rfl (.af rfl (.exp rfl rfl (.aU rfl (.af rfl (.af rfl .nil)))))))) (by kernel_rfl) (fun _=>by kernel_rfl) (by kernel_rfl) (aE.aF hd (by kernel_rfl))
noncomputable def VD (p1:ax) (p2:List Int):Option ((List Int)×Int×Int×Nat×Nat×Nat×Nat×(List ai)×(List aj)×(List (Int×(List Int)))×(List Bool)):=
 (ua (JZ p1) fun r1=>(ua (aG (σ:=(List Int)×Int×Int×(List ai)×(List aj)×(List (Int×(List Int)))×(List Bool)) (ρ:=Unit) (p2.length:Int) (fun i1 s1=>(ua (zf p2 (i1:Int)) fun e1=>(ua (Xa e1 p1 s1.2.1 s1.2.2.1 s1.1 r1.2.2.2.2.2.1 s1.2.2.2.2.2.2 r1.2.2.2.2.2.2.1 s1.2.2.2.2.1 r1.2.2.2.2.2.2.2.1 s1.2.2.2.1 r1.2.2.2.2.2.2.2.2 p1 s1.2.2.2.2.2.1) fun r2=>some (.inl (r2.2.1,(IntKind.i64.wrap (s1.2.1+1)),r2.1,r2.2.2.2.2.2,r2.2.2.2.2.1,r2.2.2.2.1,r2.2.2.1))))) (r1.1,0,0,r1.2.2.2.2.1,r1.2.2.2.1,r1.2.2.1,r1.2.1)) (un (fun (s1:(List Int)×Int×Int×(List ai)×(List aj)×(List (Int×(List Int)))×(List Bool))=>some (s1.1,s1.2.1,s1.2.2.1,r1.2.2.2.2.2.1,r1.2.2.2.2.2.2.1,r1.2.2.2.2.2.2.2.1,r1.2.2.2.2.2.2.2.2,s1.2.2.2.1,s1.2.2.2.2.1,s1.2.2.2.2.2.1,s1.2.2.2.2.2.2)) (fun _=>none))))
noncomputable def TJ (p1:ax) (p2:List Int):aE ((List Int)×Int×Int×Nat×Nat×Nat×Nat×(List ai)×(List aj)×(List (Int×(List Int)))×(List Bool)):=
 .aD 1 (.b1 3102 (JZ p1) (fun r1=>.c [] 0 (.ptr 23 0 0) [(3,.af 7 [zk (ax.row p1)]),(12,.af 1 (za zh r1.2.1)),(13,.map (zg IV.i64 IV.ls r1.2.2.1)),(17,.af 2 (za aj.row r1.2.2.2.1)),(21,.af 5 (za ai.row r1.2.2.2.2.1)),(23,.af 15 [[vI p1.aN,.ak (.slice (ub zb p1.aC)),.ak (.slice (ub bp.row p1.bk)),.ak (.slice (ub aV.row p1.aK)),.ak (.slice (ub aL.row p1.aB)),vI p1.aJ,.ak (.slice (ub zb p1.off)),vI 0,vI 0,.Zag 32 0 r1.2.2.2.2.2.1,.Zag 12 0 r1.2.2.2.2.2.2.1,.func 294 [] [.ptr 3 0 0],.map 13,.Zag 17 0 r1.2.2.2.2.2.2.2.1,.Zag 21 0 r1.2.2.2.2.2.2.2.2]]),(32,.af 1 (za zb r1.1))] 30) (fun r1 cq=>(zm (Tn p1 r1 cq) [] 3 (.keep (.keep (.keep (.keep (.keep (.keep (.keep .nil))))))) bG (bB (aZ (eE (aZ (aZ (bB (aZ bG))))))))) fun r1=>.use 1 3102 (.aD 0 (.ln 3108 zb p2 (.use 1 3108 (.aG (σ:=(List Int)×Int×Int×(List ai)×(List aj)×(List (Int×(List Int)))×(List Bool)) (ρ:=Unit) 2750 12 (p2.length:Int) (r1.1,0,0,r1.2.2.2.2.1,r1.2.2.2.1,r1.2.2.1,r1.2.1) (.k [5,10,11] (fun _=>[]) [3] (fun s1=>[(32,.af 1 (za zb s1.1)),(23,.af 15 [[vI p1.aN,.ak (.slice (ub zb p1.aC)),.ak (.slice (ub bp.row p1.bk)),.ak (.slice (ub aV.row p1.aK)),.ak (.slice (ub aL.row p1.aB)),vI p1.aJ,.ak (.slice (ub zb p1.off)),vI s1.2.1,vI s1.2.2.1,.Zag 32 0 r1.2.2.2.2.2.1,.Zag 12 0 r1.2.2.2.2.2.2.1,.func 294 [] [.ptr 3 0 0],.map 13,.Zag 17 0 r1.2.2.2.2.2.2.2.1,.Zag 21 0 r1.2.2.2.2.2.2.2.2]]),(21,.af 5 (za ai.row s1.2.2.2.1)),(17,.af 2 (za aj.row s1.2.2.2.2.1)),(13,.map (zg IV.i64 IV.ls s1.2.2.2.2.2.1)),(12,.af 1 (za zh s1.2.2.2.2.2.2))]) 38 fun _=>(.af rfl (.exp rfl rfl (.af rfl (.af rfl (.aU rfl (.af rfl .nil))))))) (fun i1 s1=>.sel 2750 (.aD 0 (.ix 3104 zb p2 (i1:Int) fun e1=>.use 0 3104 (.aD 0 (.b1 3106 (Xa e1 p1 s1.2.1 s1.2.2.1 s1.1 r1.2.2.2.2.2.1 s1.2.2.2.2.2.2 r1.2.2.2.2.2.2.1 s1.2.2.2.2.1 r1.2.2.2.2.2.2.2.1 s1.2.2.2.1 r1.2.2.2.2.2.2.2.2 p1 s1.2.2.2.2.2.1) (fun r2=>.c [23,32,12,3,13,17,21] 7 (.tuple []) [(23,.af 15 [[vI p1.aN,.ak (.slice (ub zb p1.aC)),.ak (.slice (ub bp.row p1.bk)),.ak (.slice (ub aV.row p1.aK)),.ak (.slice (ub aL.row p1.aB)),vI p1.aJ,.ak (.slice (ub zb p1.off)),vI (IntKind.i64.wrap (s1.2.1+1)),vI r2.1,.Zag 32 0 r1.2.2.2.2.2.1,.Zag 12 0 r1.2.2.2.2.2.2.1,.func 294 [] [.ptr 3 0 0],.map 13,.Zag 17 0 r1.2.2.2.2.2.2.2.1,.Zag 21 0 r1.2.2.2.2.2.2.2.2]]),(32,.af 1 (za zb r2.2.1)),(12,.af 1 (za zh r2.2.2.1)),(13,.map (zg IV.i64 IV.ls r2.2.2.2.1)),(17,.af 2 (za aj.row r2.2.2.2.2.1)),(21,.af 5 (za ai.row r2.2.2.2.2.2))] 0) (fun r2 cg=>(zm (TH e1 p1 s1.2.1 s1.2.2.1 s1.1 r1.2.2.2.2.2.1 s1.2.2.2.2.2.2 r1.2.2.2.2.2.2.1 s1.2.2.2.2.1 r1.2.2.2.2.2.2.2.1 s1.2.2.2.1 r1.2.2.2.2.2.2.2.2 p1 s1.2.2.2.2.2.1 r2 cg) [23,32,12,3,13,17,21] 44 (.keep (.keep (.keep (.drop rfl rfl (.keep (.keep (.keep .nil))))))) (bB (aZ (aZ (bB (eE (aZ (aZ bG))))))) (bB (aZ (aZ (eE (aZ (aZ bG)))))))) fun r2=>.use 2 3106 (.ret (.inl (r2.2.1,(IntKind.i64.wrap (s1.2.1+1)),r2.1,r2.2.2.2.2.2,r2.2.2.2.2.1,r2.2.2.2.1,r2.2.2.1)))))))) fun os1=>.case os1 (fun s1=>.sel 2750 (.ret (s1.1,s1.2.1,s1.2.2.1,r1.2.2.2.2.2.1,r1.2.2.2.2.2.2.1,r1.2.2.2.2.2.2.2.1,r1.2.2.2.2.2.2.2.2,s1.2.2.2.1,s1.2.2.2.2.1,s1.2.2.2.2.2.1,s1.2.2.2.2.2.2))) fun _=>.none)))))
theorem TK (p1:ax) (p2:List Int) (res:(List Int)×Int×Int×Nat×Nat×Nat×Nat×(List ai)×(List aj)×(List (Int×(List Int)))×(List Bool)) (hd:VD p1 p2=some res):dD C0 297 [.agg (zk (ax.row p1)),.ak (.slice (ub zb p2))] [] 0 (.ptr 23 0 0) [(3,.af 7 [zk (ax.row p1)]),(12,.af 1 (za zh res.2.2.2.2.2.2.2.2.2.2)),(13,.map (zg IV.i64 IV.ls res.2.2.2.2.2.2.2.2.2.1)),(17,.af 2 (za aj.row res.2.2.2.2.2.2.2.2.1)),(21,.af 5 (za ai.row res.2.2.2.2.2.2.2.1)),(23,.af 15 [[vI p1.aN,.ak (.slice (ub zb p1.aC)),.ak (.slice (ub bp.row p1.bk)),.ak (.slice (ub aV.row p1.aK)),.ak (.slice (ub aL.row p1.aB)),vI p1.aJ,.ak (.slice (ub zb p1.off)),vI res.2.1,vI res.2.2.1,.Zag 32 0 res.2.2.2.1,.Zag 12 0 res.2.2.2.2.1,.func 294 [] [.ptr 3 0 0],.map 13,.Zag 17 0 res.2.2.2.2.2.1,.Zag 21 0 res.2.2.2.2.2.2.1]]),(32,.af 1 (za zb res.1))] 33:=
 aE.dA (R:=fun res=>.ptr 23 0 0) (H:=fun res=>[(3,.af 7 [zk (ax.row p1)]),(12,.af 1 (za zh res.2.2.2.2.2.2.2.2.2.2)),(13,.map (zg IV.i64 IV.ls res.2.2.2.2.2.2.2.2.2.1)),(17,.af 2 (za aj.row res.2.2.2.2.2.2.2.2.1)),(21,.af 5 (za ai.row res.2.2.2.2.2.2.2.1)),(23,.af 15 [[vI p1.aN,.ak (.slice (ub zb p1.aC)),.ak (.slice (ub bp.row p1.bk)),.ak (.slice (ub aV.row p1.aK)),.ak (.slice (ub aL.row p1.aB)),vI p1.aJ,.ak (.slice (ub zb p1.off)),vI res.2.1,vI res.2.2.1,.Zag 32 0 res.2.2.2.1,.Zag 12 0 res.2.2.2.2.1,.func 294 [] [.ptr 3 0 0],.map 13,.Zag 17 0 res.2.2.2.2.2.1,.Zag 21 0 res.2.2.2.2.2.2.1]]),(32,.af 1 (za zb res.1))]) (TJ p1 p2) .nil (fun _=>(.exp rfl rfl (.af rfl (.aU rfl (.af rfl (.af rfl (.exp rfl rfl (.af rfl .nil)))))))) (by kernel_rfl) (fun _=>by kernel_rfl) (by kernel_rfl) (aE.aF hd (by kernel_rfl))
noncomputable def kB (c:ax) (l:List Int):Option ((List ai)×Int):=
 (ua (Q0 c l) fun r1=>(bif (r1 == 0) then (ua (VD c l) fun r2=>(ua (ec r2.2.2.2.2.2.2.1 r2.2.2.2.2.2.2.2.1.length) fun g1=>some (r2.2.2.2.2.2.2.2.1,0))) else some ([],r1)))
noncomputable def TL (c:ax) (l:List Int):aE ((List ai)×Int):=
 .aD 1 (.call 3110 (Th c l) fun r1=>.use 2 3110 (.ite 2604 (r1 == 0) (.sel 2605 (.aD 0 (.b1 3112 (VD c l) (fun r2=>.c [] 0 (.ptr 34 0 0) [(14,.af 7 [zk (ax.row c)]),(23,.af 1 (za zh r2.2.2.2.2.2.2.2.2.2.2)),(24,.map (zg IV.i64 IV.ls r2.2.2.2.2.2.2.2.2.2.1)),(28,.af 2 (za aj.row r2.2.2.2.2.2.2.2.2.1)),(32,.af 5 (za ai.row r2.2.2.2.2.2.2.2.1)),(34,.af 15 [[vI c.aN,.ak (.slice (ub zb c.aC)),.ak (.slice (ub bp.row c.bk)),.ak (.slice (ub aV.row c.aK)),.ak (.slice (ub aL.row c.aB)),vI c.aJ,.ak (.slice (ub zb c.off)),vI r2.2.1,vI r2.2.2.1,.Zag 43 0 r2.2.2.2.1,.Zag 23 0 r2.2.2.2.2.1,.func 294 [] [.ptr 14 0 0],.map 24,.Zag 28 0 r2.2.2.2.2.2.1,.Zag 32 0 r2.2.2.2.2.2.2.1]]),(43,.af 1 (za zb r2.1))] 33) (fun r2 cg=>(zm (TK c l r2 cg) [] 11 (.keep (.keep (.keep (.keep (.keep (.keep (.keep .nil))))))) bG (bB (aZ (eE (aZ (aZ (bB (aZ bG))))))))) fun r2=>.use 2 3112 (.bind (ec r2.2.2.2.2.2.2.1 r2.2.2.2.2.2.2.2.1.length) (fun _=>[]) (fun _ _=>.nil) fun g2=>.fin [32] (.tuple [.Zag 32 0 r2.2.2.2.2.2.2.1,vI 0]) [(32,.af 5 (za ai.row r2.2.2.2.2.2.2.2.1))] (.tuple [.slice (ub ai.row ((r2.2.2.2.2.2.2.2.1,0).1)),.int .i64 ((r2.2.2.2.2.2.2.2.1,0).2)]) (wu _ _ _ (zM (DJ (zM (x9 ai.row 32 5 r2.2.2.2.2.2.2.1 r2.2.2.2.2.2.2.2.1 g2.down rfl) (zM (q7 _) xa))) xa)) (r2.2.2.2.2.2.2.2.1,0))))) (.sel 2605 (.ret ([],r1)))))
theorem TM (c:ax) (l:List Int) (res:(List ai)×Int) (hd:kB c l=some res):aO C0 292 [.agg (ax.row c),.slice (ub zb l)] (.tuple [.slice (ub ai.row res.1),.int .i64 res.2]):=
 aE.pure (iv:=fun res=>.tuple [.slice (ub ai.row res.1),.int .i64 res.2]) (TL c l) (by kernel_rfl) (aE.aF hd (by kernel_rfl))
noncomputable def eo (c:ax) (l:List Int) (zw:Int):Option (Bool×Bool):=
 (ua (kB c l) fun r1=>(ua (bif (r1.2 == 0) then some (!((r1.1.length:Int) == (c.aB.length:Int))) else some true) fun v1=>(bif v1 then some (false,false) else (ua (aG (σ:=Unit) (ρ:=Unit) (r1.1.length:Int) (fun i1 s1=>(ua (ua (zf c.aB (i1:Int)) fun e1=>(bif e1.final then (ua (zf r1.1 (i1:Int)) fun e2=>(bif (e2.aH == 4) then some (e2.bg == zw) else some false)) else some false)) fun v2=>(bif v2 then some (.inr ()) else some (.inl ())))) ()) (un (fun (s1:Unit)=>some (false,true)) (fun (y1:Unit)=>some (true,true)))))))
noncomputable def TN (c:ax) (l:List Int) (zw:Int):aE (Bool×Bool):=
 .aD 1 (.call 3126 (TM c l) fun r1=>.use 2 3126 (.cut (β:=Bool) 2 (.e [2,3,8] (fun v1=>[(26,vB v1)]) [0] 21) (.aD 0 (.ite 3114 (r1.2 == 0) (.use 3 3115 (.ln 3130 ai.row r1.1 (.use 4 3130 (.ln 3128 aL.row c.aB (.use 7 3128 (.ret (!((r1.1.length:Int) == (c.aB.length:Int))))))))) (.use 3 3115 (.ret true)))) fun v1=>.ite 3116 v1 (.sel 3116 (.ret (false,false))) (.sel 3116 (.aG (σ:=Unit) (ρ:=Unit) 3118 10 (r1.1.length:Int) () (.e [2,3,8] (fun _=>[]) [0] 22) (fun i1 s1=>.aD 0 (.ln 3138 ai.row r1.1 (.use 2 3138 (.sel 3118 (.cut (β:=Bool) 3 (.e [2,3,8,10] (fun v2=>[(55,vB v2)]) [0] 49) (.aD 0 (.ix 3132 aL.row c.aB (i1:Int) fun e1=>.ite 3120 e1.final (.ix 3134 ai.row r1.1 (i1:Int) fun e2=>.ite 3122 (e2.aH == 4) (.us [(3,3132),(7,3120),(9,3134),(15,3122),(17,3134)] (.ret (e2.bg == zw))) (.us [(3,3132),(7,3120),(9,3134),(15,3122)] (.ret false))) (.us [(3,3132),(7,3120)] (.f1 3136 (.g false) (rfl:false=false) (.use 15 3136 (.ret false)))))) fun v2=>.ite 3124 v2 (.sel 3124 (.ret (.inr ()))) (.sel 3124 (.ret (.inl ())))))))) fun os1=>.case os1 (fun s1=>.aD 0 (.ln 3140 ai.row r1.1 (.use 2 3140 (.sel 3118 (.ret (false,true)))))) fun y1=>.ret (true,true)))))
theorem TO (c:ax) (l:List Int) (zw:Int) (res:Bool×Bool) (hd:eo c l zw=some res):aO C0 289 [.agg (ax.row c),.slice (ub zb l),.int .i64 zw] (.tuple [.bool res.1,.bool res.2]):=
 aE.pure (iv:=fun res=>.tuple [.bool res.1,.bool res.2]) (TN c l zw) (by kernel_rfl) (aE.aF hd (by kernel_rfl))
noncomputable def Zi (c:ax) (zw:Int) (bw:List Int):Option Bool:=
 (ua (wL) fun r1=>(ua (ua (VA c) fun r2=>(bif r2 then some (decide (100 < (bw.length:Int))) else some true)) fun v1=>(bif v1 then some r1 else (ua (XL c zw) fun r3=>(ua (xe c) fun r4=>(ua (bif (r3.2 == 0) then some (!(r4.2 == 0)) else some true) fun v2=>(bif v2 then some r1 else (ua (xE c zw ({state:=r4.1,own:=true}:aA)) fun r5=>(ua (vv c zw ({state:=r4.1,own:=true}:aA)) fun r6=>(ua (Zf c r3.1) fun r7=>(ua (bif ((r5.2 == 0) == (r6.2 == 0)) then some true else (bif ((r7.length:Int) == 0) then some true else (ua (zf r7 0) fun e1=>some (!(e1 == (r5.2 == 0)))))) fun v3=>(bif v3 then some false else (ua (bif (r5.2 == 0) then (ua (ji c r5.1) fun r8=>(bif r8 then (bif (r6.2 == 0) then (ua (jt c r6.1) fun r9=>some (!r9)) else some false) else some true)) else (bif (r6.2 == 0) then (ua (jt c r6.1) fun gz=>some (!gz)) else some false)) fun v4=>(bif v4 then some false else (ua (bif (r6.2 == 0) then (ua (zf r6.1.af 0) fun e2=>some e2.bl) else some (bw.length:Int)) fun (v5:Int)=>(ua (α:=(List Int) ⊕ Unit) (ua (aG (σ:=(List Int)×Int×(List Int)×(List Bool)×(List aq)×Bool) (ρ:=Unit ⊕ (List Int)) v5 (fun i1 s1=>(ua (xX c zw ({state:=({day:=s1.2.1,aC:=s1.2.2.1,used:=s1.2.2.2.1,aM:=s1.2.2.2.2.1}:bn),own:=s1.2.2.2.2.2}:aA)) fun eK=>(bif (eK.2 == 0) then (bif ((eK.1.length:Int) == 0) then some (.inr (.inr s1.1)) else (ua (zf eK.1 0) fun e3=>(ua (bif decide ((i1:Int) < (bw.length:Int)) then (ua (zf bw (i1:Int)) fun e4=>(ua (ye .i64 (IntKind.i64.wrap e4) (eK.1.length:Int)) fun e5=>(ua (zf eK.1 e5) fun e6=>some e6))) else some e3) fun (v6:Int)=>(ua (ua (iter (σ:=Int×Int) (ρ:=Int) (fun s2=>(ua (bif decide (s2.2 < (r5.1.af.length:Int)) then some s1.2.2.2.2.2 else some false) fun v7=>(bif v7 then (ua (ua (zf r5.1.af s2.2) fun e7=>(ua (wi e7.aW ({state:=({day:=s1.2.1,aC:=s1.2.2.1,used:=s1.2.2.2.1,aM:=s1.2.2.2.2.1}:bn),own:=s1.2.2.2.2.2}:aA)) fun Bw=>(bif Bw then (ua (zf r5.1.af s2.2) fun e8=>some e8.move) else some s2.1))) fun (v8:Int)=>some (.inl (v8,(IntKind.i64.wrap (s2.2+1))))) else some (.inr s2.1)))) (v6,0)) (fun (y1:Int)=>some y1)) fun (v9:Int)=>(ua (ua (iter (σ:=Int×Int) (ρ:=Int) (fun s3=>(ua (bif decide (s3.2 < (r6.1.af.length:Int)) then some (!s1.2.2.2.2.2) else some false) fun v10=>(bif v10 then (ua (ua (ua (zf r6.1.af s3.2) fun e9=>(ua (wi e9.aW ({state:=({day:=s1.2.1,aC:=s1.2.2.1,used:=s1.2.2.2.1,aM:=s1.2.2.2.2.1}:bn),own:=s1.2.2.2.2.2}:aA)) fun Bx=>(bif Bx then some (decide (0 < e9.bl)) else some false))) fun v11=>(bif v11 then (ua (zf r6.1.af s3.2) fun dW=>some dW.move) else some s3.1)) fun (v12:Int)=>some (.inl (v12,(IntKind.i64.wrap (s3.2+1))))) else some (.inr s3.1)))) (v9,0)) (fun (y2:Int)=>some y2)) fun (oI:Int)=>(ua (Qh c zw ({state:=({day:=s1.2.1,aC:=s1.2.2.1,used:=s1.2.2.2.1,aM:=s1.2.2.2.2.1}:bn),own:=s1.2.2.2.2.2}:aA) oI) fun nO=>(bif (nO.2 == 0) then (ua (bif (oI == (-2)) then some s1.1 else (ua (zN (α:=Int) 8 s1.1 [oI]) fun fU=>some fU)) fun (pU:(List Int))=>some (.inl (pU,nO.1.state.day,nO.1.state.aC,nO.1.state.used,nO.1.state.aM,nO.1.own))) else some (.inr (.inl ()))))))))) else some (.inr (.inl ()))))) ([],r4.1.day,r4.1.aC,r4.1.used,r4.1.aM,true)) (un (fun (s1:(List Int)×Int×(List Int)×(List Bool)×(List aq)×Bool)=>some (.inl s1.1)) (un (fun (y3:Unit)=>some (.inr ())) (fun (y4:(List Int))=>some (.inl y4))))) (un (fun (pV:(List Int))=>(ua (eo c pV zw) fun By=>(ua (bif r1 then (bif By.2 then some (By.1 == (r6.2 == 0)) else some false) else some false) fun Bz=>some Bz))) (fun (y5:Unit)=>some false))))))))))))))))))
noncomputable def TP (c:ax) (zw:Int) (bw:List Int):aE Bool:=
 .aD 1 (.call 3146 S4 fun r1=>.use 0 3146 (.cut (β:=Bool) 2 (.e [1,2,3,7] (fun v1=>[(38,vB v1)]) [0] 12) (.aD 0 (.call 3148 (S8 c) fun r2=>.ite 2356 r2 (.us [(1,3148),(4,2357)] (.ln 3150 (km .u8) bw (.use 5 3150 (.ret (decide (100 < (bw.length:Int))))))) (.us [(1,3148),(4,2357)] (.ret true)))) fun v1=>.ite 2358 v1 (.sel 2358 (.ret r1)) (.sel 2358 (.aD 0 (.call 3152 (Ta c zw) fun r3=>.use 2 3152 (.aD 0 (.call 3154 (Yr c) fun r4=>.use 1 3154 (.cut (β:=Bool) 2 (.e [1,2,3,7,8,10] (fun v2=>[(56,vB v2)]) [0,18,26] 35) (.aD 0 (.ite 2366 (r3.2 == 0) (.use 3 2367 (.ret (!(r4.2 == 0)))) (.use 3 2367 (.ret true)))) fun v2=>.ite 2368 v2 (.sel 2368 (.ret r1)) (.sel 2368 (.aD 1 (.call 3156 (Ky c zw ({state:=r4.1,own:=true}:aA)) fun r5=>.use 3 3156 (.aD 0 (.call 3158 (Ij c zw ({state:=r4.1,own:=true}:aA)) fun r6=>.use 3 3158 (.aD 0 (.call 3160 (Ii c r3.1) fun r7=>.use 2 3160 (.cut (β:=Bool) 2 (.e [1,2,3,7,12,13,14,15,16] (fun v3=>[(94,vB v3)]) [0,18,26,37,46,56] 81) (.aD 0 (.ite 2370 ((r5.2 == 0) == (r6.2 == 0)) (.use 6 2370 (.f1 3162 (.g true) (rfl:true=true) (.use 11 3162 (.ret true)))) (.ite 2372 ((r7.length:Int) == 0) (.use 6 2370 (.ln 3164 zh r7 (.us [(7,3164),(11,2372)] (.ret true)))) (.ix 3166 zh r7 0 fun e1=>.use 6 2370 (.ln 3168 zh r7 (.us [(7,3168),(11,2372),(12,3166)] (.ret (!(e1 == (r5.2 == 0)))))))))) fun v3=>.ite 2374 v3 (.sel 2374 (.ret false)) (.sel 2374 (.cut (β:=Bool) 2 (.e [1,2,3,7,12,13,15,16] (fun v4=>[(112,vB v4)]) [0,18,26,37,46,56] 99) (.aD 0 (.ite 2376 (r5.2 == 0) (.call 3170 (Jh c r5.1) fun r8=>.ite 2378 r8 (.ite 2380 (r6.2 == 0) (.call 3172 (ZQ c r6.1) fun r9=>.us [(3,2376),(5,3170),(9,2379),(12,2380),(14,3172)] (.ret (!r9))) (.us [(3,2376),(5,3170),(9,2379),(12,2380)] (.ret false))) (.us [(3,2376),(5,3170),(9,2379)] (.ret true))) (.ite 2382 (r6.2 == 0) (.call 3174 (ZQ c r6.1) fun gz=>.use 3 2376 (.f1 3176 (.g false) (rfl:false=false) (.us [(9,3176),(12,2382),(14,3174)] (.ret (!gz))))) (.use 3 2376 (.f1 3178 (.g false) (rfl:false=false) (.us [(9,3178),(12,2382)] (.ret false))))))) fun v4=>.ite 2384 v4 (.sel 2384 (.ret false)) (.sel 2384 (.aD 0 (.ln 3226 (km .u8) bw (.use 1 3226 (.cut (β:=Int) 1 (.e [1,2,3,7,12,13,15,16] (fun v5=>[(18,vI v5)]) [0,37,46,56] 104) (.ite 2386 (r6.2 == 0) (.sel 2386 (.aD 0 (.ix 3180 cU.row r6.1.af 0 fun e2=>.use 2 3180 (.ret e2.bl)))) (.sel 2386 (.ret (bw.length:Int)))) fun v5=>.dK (β:=(List Int)) (γ:=Unit) 2 (.k [1,3,7,16] (fun pV=>[(19,.aX 106 (ub zb pV))]) [0] (fun pV=>[(106,.bf 1 pV.length)]) 107 fun _=>(.exp rfl rfl .nil)) (.cE 2 [Bf 19 1] (.aG (σ:=(List Int)×Int×(List Int)×(List Bool)×(List aq)×Bool) (ρ:=Unit ⊕ (List Int)) 2388 20 v5 ([],r4.1.day,r4.1.aC,r4.1.used,r4.1.aM,true) (.k [1,2,3,7,12,13,15,16,18] (fun s1=>[(19,.aX 106 (ub zb s1.1))]) [0,46,56] (fun s1=>[(37,.af 5 [[vI s1.2.1,.ak (.slice (ub zb s1.2.2.1)),.ak (.slice (ub zh s1.2.2.2.1)),.ak (.slice (ub aq.row s1.2.2.2.2.1)),vB s1.2.2.2.2.2]]),(106,.bf 1 s1.1.length)]) 107 fun _=>(.exp rfl rfl (.exp rfl rfl .nil))) (fun i1 s1=>.sel 2388 (.aD 0 (.call 3186 (Il c zw ({state:=({day:=s1.2.1,aC:=s1.2.2.1,used:=s1.2.2.2.1,aM:=s1.2.2.2.2.1}:bn),own:=s1.2.2.2.2.2}:aA)) fun eK=>.use 3 3186 (.ite 2548 (eK.2 == 0) (.sel 2549 (.aD 0 (.ln 3224 zb eK.1 (.use 1 3224 (.ite 2550 ((eK.1.length:Int) == 0) (.sel 2550 (.ret (.inr (.inr s1.1)))) (.sel 2550 (.aD 0 (.ix 3188 zb eK.1 0 fun e3=>.use 1 3188 (.cut (β:=Int) 1 (.e [1,2,3,7,12,13,15,16,18,19,20] (fun v6=>[(23,vI v6)]) [0,37,46,56,106] 132) (.aD 0 (.ln 3198 (km .u8) bw (.use 2 3198 (.ite 2552 (decide ((i1:Int) < (bw.length:Int))) (.sel 2552 (.aD 0 (.ix 3190 (km .u8) bw (i1:Int) fun e4=>.b1 3192 (ye .i64 (IntKind.i64.wrap e4) (eK.1.length:Int)) (fun e5=>.v (.int .i64 e5)) (fun e5 lC=>(GL lC)) fun e5=>.ix 3194 zb eK.1 e5 fun e6=>.use 3 3190 (.ln 3196 zb eK.1 (.us [(7,3196),(8,3192),(9,3194)] (.ret e6)))))) (.sel 2552 (.ret e3)))))) fun v6=>.cut (β:=Int) 1 (.e [1,2,3,7,12,13,15,16,18,19,20] (fun v9=>[(23,vI v9)]) [0,37,46,56,106] 133) (.iter (σ:=Int×Int) (ρ:=Int) (v6,0) (.e [1,2,3,7,12,13,15,16,18,19,20] (fun s2=>[(23,vI s2.1),(24,vI s2.2)]) [0,37,46,56,106] 133) (fun s2=>.cut (β:=Bool) 2 (.e [1,2,3,7,12,13,15,16,18,19,20,23,24] (fun v7=>[(165,vB v7)]) [0,37,46,56,106] 142) (.aD 0 (.ite 2558 (decide (s2.2 < (r5.1.af.length:Int))) (.ln 3200 dh.row r5.1.af (.us [(3,3200),(6,2558)] (.ret s1.2.2.2.2.2))) (.ln 3202 dh.row r5.1.af (.us [(3,3202),(6,2558)] (.ret false))))) fun v7=>.ite 2560 v7 (.sel 2560 (.cut (β:=Int) 1 (.e [1,2,3,7,12,13,15,16,18,19,20,24] (fun v8=>[(23,vI v8)]) [0,37,46,56,106] 150) (.aD 0 (.ix 3204 dh.row r5.1.af s2.2 fun e7=>.call 3206 (Kz e7.aW ({state:=({day:=s1.2.1,aC:=s1.2.2.1,used:=s1.2.2.2.1,aM:=s1.2.2.2.2.1}:bn),own:=s1.2.2.2.2.2}:aA)) fun Bw=>.us [(3,3204),(7,3206)] (.ite 2562 Bw (.sel 2562 (.aD 0 (.ix 3208 dh.row r5.1.af s2.2 fun e8=>.use 3 3208 (.ret e8.move)))) (.sel 2562 (.ret s2.1))))) fun v8=>.ret (.inl (v8,(IntKind.i64.wrap (s2.2+1)))))) (.sel 2560 (.ret (.inr s2.1)))) fun y1=>.ret y1) fun v9=>.cut (β:=Int) 1 (.e [1,2,3,7,12,13,15,16,18,19,20] (fun oI=>[(23,vI oI)]) [0,37,46,56,106] 134) (.iter (σ:=Int×Int) (ρ:=Int) (v9,0) (.e [1,2,3,7,12,13,15,16,18,19,20] (fun s3=>[(23,vI s3.1),(25,vI s3.2)]) [0,37,46,56,106] 134) (fun s3=>.cut (β:=Bool) 2 (.e [1,2,3,7,12,13,15,16,18,19,20,23,25] (fun v10=>[(191,vB v10)]) [0,37,46,56,106] 144) (.aD 0 (.ite 2568 (decide (s3.2 < (r6.1.af.length:Int))) (.ln 3210 cU.row r6.1.af (.us [(3,3210),(6,2568)] (.ret (!s1.2.2.2.2.2)))) (.ln 3212 cU.row r6.1.af (.us [(3,3212),(6,2568)] (.ret false))))) fun v10=>.ite 2570 v10 (.sel 2570 (.cut (β:=Int) 1 (.e [1,2,3,7,12,13,15,16,18,19,20,25] (fun v12=>[(23,vI v12)]) [0,37,46,56,106] 161) (.cut (β:=Bool) 2 (.e [1,2,3,7,12,13,15,16,18,19,20,23,25] (fun v11=>[(210,vB v11)]) [0,37,46,56,106] 161) (.aD 0 (.ix 3214 cU.row r6.1.af s3.2 fun e9=>.call 3216 (Kz e9.aW ({state:=({day:=s1.2.1,aC:=s1.2.2.1,used:=s1.2.2.2.1,aM:=s1.2.2.2.2.1}:bn),own:=s1.2.2.2.2.2}:aA)) fun Bx=>.ite 2572 Bx (.us [(3,3214),(7,3216),(9,2572),(12,3214)] (.ret (decide (0 < e9.bl)))) (.us [(3,3214),(7,3216),(9,2572)] (.ret false)))) fun v11=>.ite 2574 v11 (.sel 2574 (.aD 0 (.ix 3218 cU.row r6.1.af s3.2 fun dW=>.use 3 3218 (.ret dW.move)))) (.sel 2574 (.ret s3.1))) fun v12=>.ret (.inl (v12,(IntKind.i64.wrap (s3.2+1)))))) (.sel 2570 (.ret (.inr s3.1)))) fun y2=>.ret y2) fun oI=>.aD 0 (.call 3220 (Tf c zw ({state:=({day:=s1.2.1,aC:=s1.2.2.1,used:=s1.2.2.2.1,aM:=s1.2.2.2.2.1}:bn),own:=s1.2.2.2.2.2}:aA) oI) fun nO=>.use 4 3220 (.ite 2576 (nO.2 == 0) (.sel 2577 (.cut (β:=(List Int)) 1 (.k [1,2,3,7,12,13,15,16,18,20,26] (fun pU=>[(19,.aX 106 (ub zb pU))]) [0,37,46,56,142] (fun pU=>[(106,.bf 1 pU.length)]) 149 fun _=>(.exp rfl rfl .nil)) (.ite 2578 (oI == (-2)) (.sel 2579 (.ret s1.1)) (.sel 2579 (.aD 0 (.b1 3222 (zN (α:=Int) 8 s1.1 [oI]) (fun fU=>.a (ub zb fU) fU.length) (fun fU oM=>(qr zb 1 8 (fun _=>rfl) oM)) fun fU=>.use 3 3222 (.ret fU))))) fun pU=>.ret (.inl (pU,nO.1.state.day,nO.1.state.aC,nO.1.state.used,nO.1.state.aM,nO.1.own)))) (.sel 2577 (.ret (.inr (.inl ()))))))))))))))) (.sel 2549 (.ret (.inr (.inl ())))))))) fun os1=>.case os1 (fun s1=>.sel 2388 (.ret (.inl s1.1))) fun zy3=>.case zy3 (fun y3=>.ret (.inr ())) fun y4=>.ret (.inl y4))) fun o_v15=>.case o_v15 (fun pV=>.aD 0 (.call 3182 (TO c pV zw) fun By=>.use 3 3182 (.cut (β:=Bool) 1 (.e [] (fun Bz=>[(6,vB Bz)]) [0,106] 127) (.aD 0 (.ite 3142 r1 (.ite 3144 By.2 (.us [(2,3142),(5,3144)] (.ret (By.1 == (r6.2 == 0)))) (.us [(2,3142),(5,3144)] (.ret false))) (.use 2 3142 (.f1 3184 (.g false) (rfl:false=false) (.use 5 3184 (.ret false)))))) fun Bz=>.ret Bz))) fun y5=>.ret false)))))))))))))))))))))))
theorem TQ (c:ax) (zw:Int) (bw:List Int) (res:Bool) (hd:Zi c zw bw=some res):aO C0 287 [.agg (ax.row c),.int .i64 zw,.slice (ub (km .u8) bw)] (.bool res):=
 aE.pure (iv:=fun res=>.bool res) (TP c zw bw) (by kernel_rfl) (aE.aF hd (by kernel_rfl))
end Go.Proofs.YtcmmhbmgpflmeaaGreatDoor
namespace Go.Proofs.YtcmmhbmgpflmeaaGreatDoor
set_option linter.unusedSimpArgs false
set_option linter.unusedVariables false
set_option maxRecDepth 100000
theorem TR (a b:Int):∃ r,iter (σ:=Int×Int) (ρ:=Int) (fun s2=>(bif (s2.2 == 0) then some (.inr s2.1) else (ua (ye .u64 s2.1 s2.2) fun e2=>some (.inl (s2.2,e2))))) (a,b)=some r:=by
 have:=Ku (f:=fun s2:Int×Int=>(bif (s2.2 == 0) then some (.inr s2.1) else (ua (ye .u64 s2.1 s2.2) fun e2=>some (.inl (s2.2,e2))))) (fun _=>True) (fun _:Int=>True) (fun s=>s.2.natAbs) (fun s _=>by
  by_cases h:s.2=0
  ·exact ⟨.inr s.1,by simp [h],trivial⟩
  ·refine ⟨.inl (s.2,s.1.tmod s.2),by simp [beq_eq_false_iff_ne.2 h,h,ye],trivial,?_⟩
   show (s.1.tmod s.2).natAbs < s.2.natAbs
   rw [Int.natAbs_tmod]
   exact Nat.mod_lt _ (by omega)) (a,b) trivial
 obtain ⟨r,h,_⟩:=this
 exact ⟨r,h⟩
theorem K9 (l:List Int) (hl:l.length < 1000):∃ r,yY l=some r:=by
 unfold yY
 obtain ⟨o,h1,h2⟩:=wA (n:=l.length) (s0:=(0:Int)) (f:=(fun i1 s1=>(ua (ua (zf l (i1:Int)) fun e1=>(ua (iter (σ:=Int×Int) (ρ:=Int) (fun s2=>(bif (s2.2 == 0) then some (.inr s2.1) else (ua (ye .u64 s2.1 s2.2) fun e2=>some (.inl (s2.2,e2))))) (s1,e1)) (fun (y1:Int)=>some y1))) fun (v1:Int)=>some (.inl v1)))) (fun _ _=>True) (fun _:Unit=>False) (by omega) trivial (fun i s hi _=>by
  obtain ⟨r,hr⟩:=TR s l[i]
  exact ⟨.inl r,by simp only [z7,uc hi,Option.bind_some,hr],trivial⟩)
 rw [h1]
 cases o with
 | inl s=>exact ⟨s,rfl⟩
 | inr r=>exact h2.elim
theorem ZG (n:Int):∃ r,wI n=some r:=by
 unfold wI;simp only [zx];exact ⟨_,rfl⟩
noncomputable def Ex (r:bN):Bool:=(jA r).getD false
theorem Xb (r:bN):jA r=some (Ex r):=by
 have:∃ b,jA r=some b:=by
  unfold jA
  obtain ⟨a,ha⟩:=ZG r.num
  obtain ⟨b,hb⟩:=ZG r.den
  obtain ⟨g,hg⟩:=K9 [a,b] (by simp)
  simp only [ha,hb,hg,zx,aS]
  exact ⟨_,rfl⟩
 obtain ⟨b,hb⟩:=this
 unfold Ex;rw [hb];rfl
def Is (x:Option (Int×Bool)):Bool:=(x.getD (0,false)).2
theorem TS {x:Option (Int×Bool)} {r:Int×Bool} (h:x=some r):x=some (r.1,Is x):=by subst h;rfl
noncomputable def Ey (l:List bp):Bool:=Is (jF l)
theorem VE (t:List bp) (i:Nat) (hi:i < t.length) (ht:t.length < 1000):∃ b,wJ t i=some b:=by
 unfold wJ
 have hs:Wp t 0 (i:Int)=some (t.take i):=by
  unfold Wp;rw [if_pos ⟨by omega,by omega,by omega⟩];simp
 have hf:aG (σ:=Unit) (ρ:=Unit) ((t.take i).length:Int) (fun i1 s1=>(ua (zf (t.take i) (i1:Int)) fun e3=>(bif (e3.name.toList == t[i].name.toList) then some (.inr ()) else some (.inl ())))) ()=some (match (uk (t.take i).length).find? (fun j=>!(match (t.take i)[j]? with | some e=>!(e.name.toList == t[i].name.toList) | none=>true)) with | none=>.inl () | some j=>.inr ()):=by
  refine xi _ (fun _=>()) (by simp;omega) (fun j hj => ?_)
  simp only [z7,uc hj,aS]
  cases ((t.take i)[j].name.toList == t[i].name.toList)<;>rfl
 rw [zt (uc hi)]
 simp only [aS]
 rw [hs]
 simp only [aS]
 rw [hf]
 simp only [Xb,zx,aS,JS]
 split
 all_goals simp only [ut,uu,zx]
 ·by_cases hb:0≤t[i].base∧t[i].base < t.length
  ·obtain ⟨h1,h2⟩:=jg hb.1 hb.2
   simp only [h2,aS,zx]
   exact ⟨_,rfl⟩
  ·by_cases h1:0≤t[i].base
   ·have:¬ t[i].base < t.length:=fun h=>hb ⟨h1,h⟩
    simp only [h1,this,decide_true,decide_false,bL,bM,aS,zx]
    exact ⟨_,rfl⟩
   ·simp only [h1,decide_false,bM,aS,zx]
    exact ⟨_,rfl⟩
 ·exact ⟨_,rfl⟩
theorem VF (l:List bp) (hl:l.length < 1000):∃ k,jF l=some (k,Ey l):=by
 have:∃ r,jF l=some r:=by
  unfold jF
  obtain ⟨o,h1,h2⟩:=wA (n:=l.length) (s0:=()) (f:=(fun i1 s1=>(ua (wJ l (i1:Int)) fun r1=>(bif r1 then some (.inl ()) else some (.inr (i1:Int)))))) (fun _ _=>True) (fun _:Int=>True) (by omega) trivial (fun i s hi _=>by
   obtain ⟨b,hb⟩:=VE l i hi hl
   cases b with
   | true=>exact ⟨.inl (),by simp [hb],trivial⟩
   | false=>exact ⟨.inr i,by simp [hb],trivial⟩)
  rw [h1]
  cases o with
  | inl s=>exact ⟨_,rfl⟩
  | inr r=>exact ⟨_,rfl⟩
 obtain ⟨r,hr⟩:=this
 exact ⟨r.1,TS hr⟩
def wD (nh:Nat) (r:Int):Bool:=decide (0≤r)&&decide (r < nh)
theorem Xc (c:ax) (r:Int):jB c r=some (wD c.aC.length r):=by
 simp only [jB,zx,aS,wD,ug]
noncomputable def BA (r:bN):Bool:=decide (0 < r.num)&&Ex r
theorem VG (r:bN):xJ r=some (BA r):=by
 simp only [xJ,Xb,zx,aS,BA,ug]
def XM (r:bN):Bool:=r.num == 0&&(r.den == 1&&true)
noncomputable def Yx (nh nu:Nat) (aN:Int) (a:aV):Bool:=
 bif wD nh a.bW then
  (bif a.kind == 1 then (a.cM == 0&&(a.to == -1||wD nh a.to))&&(bif a.unit == -1 then XM a.gj else (decide (0≤a.unit)&&(decide (a.unit < nu)&&BA a.gj)))
  else (a.kind == 2||a.kind == 3)&&(wD nh a.cM&&(decide (0≤a.to)&&(decide (a.to < aN)&&(a.unit == -1&&XM a.gj)))))
 else a.kind == 1&&(a.bW == -1&&(a.cM == 0&&((a.to == -1||wD nh a.to)&&(a.unit == -1&&XM a.gj))))
theorem TT (c:ax) (a:aV):vM c a=some (Yx c.aC.length c.bk.length c.aN a):=by
 simp only [vM,Xc,VG,yZ,aS,zx,Yx,XM]
 cases wD c.aC.length a.bW<;>cases (a.kind == 1)<;>cases (a.cM == 0)<;>cases (a.to == -1)<;>cases (wD c.aC.length a.to)<;>cases (a.unit == -1) <;>
  simp only [bL,bM,uj,uh,aS,uz,Bool.false_or,ue,ud,zx,ug,Bool.cond_self,uy] <;>
  first | rfl | (cases (a.bW == -1)<;>rfl) | (cases (a.kind == 2)<;>rfl)
def yL (aN:Int) (hs:List Int):Bool:=hs.all fun h=>decide (0≤h)&&decide (h < aN)
theorem TU (c:ax) (hp:c.aN < 4611686018427387904) (hl:c.aC.length < 4611686018427387904):Vp c=some (yL c.aN c.aC):=by
 unfold Vp
 have hin:∀ (i:Nat) (hi:i < c.aC.length),(ua (α:=Unit ⊕ Unit) (ua (aG (σ:=Unit) (ρ:=Unit) c.aN (fun i2 s2=>(ua (zf c.aC (i:Int)) fun e1=>(bif (e1 == (i2:Int)) then some (.inr ()) else some (.inl ())))) ()) (un (fun (s2:Unit)=>some (.inr ())) (fun (y1:Unit)=>some (.inl ())))) (un (fun (v1:Unit)=>some (.inl ())) (fun (y2:Unit)=>some (.inr ())))) =
   some (bif decide (0≤c.aC[i])&&decide (c.aC[i] < c.aN) then (.inl ():Unit ⊕ Unit) else .inr ()):=fun i hi=>by
  obtain ⟨o,h1,h2⟩:=Kt (n:=c.aN) (s0:=()) (f:=(fun i2 s2=>(ua (zf c.aC (i:Int)) fun e1=>(bif (e1 == (i2:Int)) then some (.inr ()) else some (.inl ()))))) (fun k _=>∀ j:Nat,j < k→c.aC[i]≠(j:Int)) (fun _:Unit=>0≤c.aC[i]∧c.aC[i] < c.aN) hp (fun j hj=>by omega) (fun k s hk hI=>by
   simp only [z7,uc hi,aS]
   by_cases he:c.aC[i]=(k:Int)
   ·exact ⟨.inr (),by simp [he],by show 0≤c.aC[i]∧c.aC[i] < c.aN;omega⟩
   ·refine ⟨.inl (),by rw [beq_eq_false_iff_ne.2 he];rfl,fun j hj => ?_⟩
    rcases ux j k with h | h
    ·exact hI j h
    ·obtain rfl:j=k:=by omega
     exact he)
  rw [h1]
  cases o with
  | inl s=>
   have:¬ (0≤c.aC[i]∧c.aC[i] < c.aN):=fun h=>h2 c.aC[i].toNat (by omega) (by omega)
   have hb:(decide (0≤c.aC[i])&&decide (c.aC[i] < c.aN))=false:=by
    rw [ur];simp only [ne_eq,uf,decide_eq_true_eq];exact this
   rw [hb];rfl
  | inr r=>
   have hb:(decide (0≤c.aC[i])&&decide (c.aC[i] < c.aN))=true:=by
    simp only [uf,decide_eq_true_eq];exact h2
   rw [hb];rfl
 rw [xi (fun i=>match c.aC[i]? with | some h=>decide (0≤h)&&decide (h < c.aN) | none=>true) (fun _=>()) hl (fun i hi=>by
  rw [hin i hi];simp only [uc hi])]
 cases hf:(uk c.aC.length).find? (fun j=>!(match c.aC[j]? with | some h=>decide (0≤h)&&decide (h < c.aN) | none=>true)) with
 | none=>
  simp only [aS,ut]
  have:yL c.aN c.aC=true:=ui.2 fun h hh=>by
   obtain ⟨i,hi,rfl⟩:=uq hh
   have:=wd hf i hi
   simpa only [uc hi] using this
  rw [this]
 | some k=>
  simp only [aS,uu]
  obtain ⟨h1,h2,_⟩:=we hf
  have:yL c.aN c.aC=false:=by
   rw [ur]
   intro h
   have:=ui.1 h c.aC[k] (um h1)
   simp only [uc h1] at h2
   rw [h2] at this;cases this
  rw [this]
noncomputable def Xd (aJ:Int) (off:List Int):Bool:=((ua (aG (σ:=Int) (ρ:=Unit) (off.length:Int) (fun i2 s2=>(ua (zf off (i2:Int)) fun e2=>(ua (bif decide (e2≤s2) then some true else some (decide (aJ≤e2))) fun v2=>(bif v2 then some (.inr ()) else some (.inl e2))))) (-1)) (un (fun (s2:Int)=>some true) (fun (y2:Unit)=>some false)))).getD false
theorem TV (aJ:Int) (off:List Int) (hl:off.length < 4611686018427387904):(ua (aG (σ:=Int) (ρ:=Unit) (off.length:Int) (fun i2 s2=>(ua (zf off (i2:Int)) fun e2=>(ua (bif decide (e2≤s2) then some true else some (decide (aJ≤e2))) fun v2=>(bif v2 then some (.inr ()) else some (.inl e2))))) (-1)) (un (fun (s2:Int)=>some true) (fun (y2:Unit)=>some false)))=some (Xd aJ off):=by
 obtain ⟨o,h1,h2⟩:=wA (n:=off.length) (s0:=(-1:Int)) (f:=(fun i2 s2=>(ua (zf off (i2:Int)) fun e2=>(ua (bif decide (e2≤s2) then some true else some (decide (aJ≤e2))) fun v2=>(bif v2 then some (.inr ()) else some (.inl e2)))))) (fun _ _=>True) (fun _:Unit=>True) hl trivial (fun i s hi _=>by
  simp only [z7,uc hi,aS,zx]
  cases (bif decide (off[i]≤s) then true else decide (aJ≤off[i])) with
  | true=>exact ⟨.inr (),rfl,trivial⟩
  | false=>exact ⟨.inl _,rfl,trivial⟩)
 unfold Xd
 rw [h1]
 cases o<;>rfl
noncomputable def jS (c:ax):Bool:=
 !(decide (c.aN < 1))&&(!(decide (c.aJ < 1))&&(!((c.aC.length:Int) == 0)&&(yL c.aN c.aC&&(Ey c.bk&&(c.aK.all (Yx c.aC.length c.bk.length c.aN)&&Xd c.aJ c.off)))))
theorem wj {α:Type} {l:List α} {f:Nat→Unit→Option (Unit ⊕ Unit)} (p:α→Bool) (hl:l.length < 4611686018427387904) (h:∀ (i:Nat) (hi:i < l.length),f i ()=some (bif p l[i] then .inl () else .inr ())) :
  aG (l.length:Int) f ()=some (bif l.all p then .inl () else .inr ()):=by
 rw [xi (fun i=>match l[i]? with | some x=>p x | none=>true) (fun _=>()) hl (fun i hi=>by rw [h i hi];simp only [uc hi])]
 cases hf:(uk l.length).find? (fun j=>!(match l[j]? with | some x=>p x | none=>true)) with
 | none=>
  have:l.all p=true:=ui.2 fun x hx=>by
   obtain ⟨i,hi,rfl⟩:=uq hx
   have:=wd hf i hi
   simpa only [uc hi] using this
  rw [this];rfl
 | some k=>
  obtain ⟨h1,h2,_⟩:=we hf
  have:l.all p=false:=by
   rw [ur]
   intro h
   have:=ui.1 h l[k] (um h1)
   simp only [uc h1] at h2
   rw [h2] at this;cases this
  rw [this];rfl
theorem TW (c:ax) (hp:c.aN < 4611686018427387904) (hh:c.aC.length < 4611686018427387904) (hu:c.bk.length < 1000) (ha:c.aK.length < 1000) (ho:c.off.length < 4611686018427387904):QP c=some (jS c):=by
 unfold QP
 obtain ⟨k,hk⟩:=VF c.bk hu
 have BB:=wj (l:=c.aK) (f:=(fun i1 s1=>(ua (zf c.aK (i1:Int)) fun e1=>(ua (vM c e1) fun r3=>(bif r3 then some (.inl ()) else some (.inr ())))))) (Yx c.aC.length c.bk.length c.aN) (by omega) (fun i hi=>by
  simp only [z7,uc hi,aS,TT,zx])
 rw [TU c hp hh,hk]
 simp only [aS]
 rw [BB]
 simp only [aS]
 rw [TV c.aJ c.off ho]
 simp only [aS,zx,jS]
 cases decide (c.aN < 1)<;>cases decide (c.aJ < 1)<;>cases ((c.aC.length:Int) == 0)<;>cases yL c.aN c.aC<;>cases Ey c.bk<;>cases c.aK.all (Yx c.aC.length c.bk.length c.aN) <;>
  simp only [bL,bM,uj,uh,aS,ue,ud,ut,uu]
def vS (aK:List aV) (a:Int):Bool:=match zf aK a with
 | some e=>e.kind == 1&&e.bW == -1
 | none=>false
theorem KB (c:ax) (a:Int):xD c a=some (vS c.aK a):=by
 unfold xD vS
 by_cases h:0≤a∧a < c.aK.length
 ·obtain ⟨h1,h2⟩:=jg h.1 h.2
  simp only [h2,h.1,h.2,decide_true,bL,aS,zx,ug]
 ·rw [HR h]
  by_cases h1:0≤a
  ·have:¬ a < c.aK.length:=fun h2=>h ⟨h1,h2⟩
   simp only [h1,this,decide_true,decide_false,bL,bM,aS]
  ·simp only [h1,decide_false,bM,aS]
def Q1 (nh:Nat) (aK:List aV) (k:aL):Bool:=
 bif k.kind == 4 then k.bW == -1&&(k.need == 1&&(k.cX == 0 && !k.final))
 else (wD nh k.bW && !vS aK k.act)&&(bif k.kind == 1 then decide (1≤k.need)&&(decide (k.need≤9)&&(decide (0≤k.cX)&&decide (k.cX≤400)))
  else bif k.kind == 2 then k.need == 1&&k.cX == 0 else k.kind == 3&&(k.need == 1&&(k.cX == 0 && !k.final)))
theorem TX (c:ax) (k:aL):yJ c k=some (Q1 c.aC.length c.aK k):=by
 simp only [yJ,Xc,KB,aS,zx,Q1]
 cases (k.kind == 4)<;>cases wD c.aC.length k.bW<;>cases vS c.aK k.act<;>cases (k.kind == 1)<;>cases (k.kind == 2)<;>cases (k.kind == 3) <;>
  simp only [bL,bM,uj,uh,aS,ue,ud,uy,ug,zx]
def VH (n:Nat) (i:Int) (s:b8):Bool := !(decide (s.clause < 0))&&(!(decide ((n:Int)≤s.clause))&&(!(s.clause == i)&&(!(decide (s.is < 1)) && !(decide (4 < s.is)))))
noncomputable def It (nh:Nat) (bk:List bp) (k:aL):Bool:=
 (k.kind == 1||k.kind == 2)&&((match zf bk k.unit with | some u=>u.kind == 2 | none=>false)&&(BA k.value&&wD nh k.to))
def Qk (aK:List aV) (k:aL):Bool:=(k.bH == -1&&k.resume == -1)||(!(k.bH == k.resume)&&(vS aK k.bH&&vS aK k.resume))
noncomputable def vw (nh:Nat) (bk:List bp) (aK:List aV) (n:Nat) (i:Int) (k:aL):Bool:=
 (!(decide (k.act < 0))&&(!(decide ((aK.length:Int)≤k.act))&&(!(decide (k.after < 1)) && !(decide (400 < k.after))))) &&
 ((Q1 nh aK k && !(decide (8 < (k.start.length:Int)))) &&
 (k.start.all (VH n i) &&
 (Qk aK k &&
 (bif k.unit == -1 then XM k.value&&k.to == -1 else It nh bk k))))
theorem TY (c:ax) (i:Nat) (k:aL) (hk:c.aB[i]?=some k) (hs:k.start.length < 4611686018427387904):wR c i=some (vw c.aC.length c.bk c.aK c.aB.length i k):=by
 unfold wR
 have hst:=wj (l:=k.start) (f:=(fun i1 s1=>(ua (zf k.start (i1:Int)) fun e2=>(ua (bif decide (e2.clause < 0) then some true else (bif decide ((c.aB.length:Int)≤e2.clause) then some true else (bif (e2.clause == (i:Int)) then some true else (bif decide (e2.is < 1) then some true else some (decide (4 < e2.is)))))) fun v3=>(bif v3 then some (.inr ()) else some (.inl ())))))) (VH c.aB.length i) hs (fun j hj=>by
  simp only [z7,uc hj,aS,zx,VH]
  cases decide (k.start[j].clause < 0)<;>cases decide ((c.aB.length:Int)≤k.start[j].clause)<;>cases (k.start[j].clause == (i:Int))<;>cases decide (k.start[j].is < 1)<;>cases decide (4 < k.start[j].is)<;>rfl)
 have hu:(bif decide (0≤k.unit) then (bif decide (k.unit < (c.bk.length:Int)) then (ua (zf c.bk k.unit) fun e3=>(bif (e3.kind == 2) then (ua (xJ k.value) fun r5=>(bif r5 then (ua (jB c k.to) fun r6=>some r6) else some false)) else some false)) else some false) else some false) =
   some ((match zf c.bk k.unit with | some u=>u.kind == 2 | none=>false)&&(BA k.value&&wD c.aC.length k.to)):=by
  by_cases h:0≤k.unit∧k.unit < c.bk.length
  ·obtain ⟨h1,h2⟩:=jg h.1 h.2
   simp only [h2,h.1,h.2,decide_true,bL,aS,zx,ug,VG,Xc]
  ·rw [HR h]
   by_cases h1:0≤k.unit
   ·have:¬ k.unit < c.bk.length:=fun h2=>h ⟨h1,h2⟩
    simp only [h1,this,decide_true,decide_false,bL,bM,ud]
   ·simp only [h1,decide_false,bM,ud]
 have hp:(ua (bif (k.bH == (-1)) then some (!(k.resume == (-1))) else some true) fun v4=>(bif v4 then (ua (bif (k.bH == k.resume) then some true else (ua (xD c k.bH) fun r2=>(bif r2 then (ua (xD c k.resume) fun r3=>some (!r3)) else some true))) fun v5=>(bif v5 then some (.inr ()) else some (.inl ()))) else some (.inl ()))) =
   some (bif Qk c.aK k then (.inl ():Unit ⊕ Unit) else .inr ()):=by
  simp only [KB,Qk,zx,aS]
  cases (k.bH == -1)<;>cases (k.resume == -1)<;>cases (k.bH == k.resume)<;>cases vS c.aK k.bH<;>cases vS c.aK k.resume<;>rfl
 rw [zt hk]
 simp only [aS]
 rw [hst]
 simp only [aS]
 rw [hp,hu]
 simp only [aS,TX,yZ,zx,vw,It,XM]
 cases decide (k.act < 0)<;>simp only [bL,bM,uj,uh,ue,ud,aS]
 cases decide ((c.aK.length:Int)≤k.act)<;>simp only [bL,bM,uj,uh,ue,ud,aS]
 cases decide (k.after < 1)<;>simp only [bL,bM,uj,uh,ue,ud,aS]
 cases decide (400 < k.after)<;>simp only [bL,bM,uj,uh,ue,ud,aS]
 cases Q1 c.aC.length c.aK k<;>simp only [bL,bM,uj,uh,ue,ud,aS]
 cases decide (8 < (k.start.length:Int))<;>simp only [bL,bM,uj,uh,ue,ud,aS]
 cases k.start.all (VH c.aB.length i)<;>simp only [bL,bM,uj,uh,ue,ud,aS,ut,uu]
 cases Qk c.aK k<;>simp only [bL,bM,ue,ud,ut,uu]
 cases (k.kind == 1)<;>cases (k.kind == 2)<;>simp only [bL,bM,ug,uz,Bool.or_true,Bool.or_self,ue,ud]
def Zj (c:ax):Bool:=decide (12 < c.aN)||(decide (2000 < c.aJ)||(decide (12 < (c.aC.length:Int))||(decide (20 < (c.bk.length:Int))||(decide (60 < (c.aK.length:Int))||decide (400 < (c.aB.length:Int))))))
noncomputable def n4 (c:ax) (i:Nat):Bool:=match c.aB[i]? with
 | some k=>vw c.aC.length c.bk c.aK c.aB.length i k
 | none=>true
noncomputable def z8 (c:ax):Int×Int:=
 bif Zj c then (3,-1) else bif jS c then (match (uk c.aB.length).find? (fun j=>!n4 c j) with | none=>(0,-1) | some j=>(1,(j:Int))) else (1,-1)
theorem TZ (c:ax) (ho:c.off.length < 4611686018427387904) (hs:∀ k∈c.aB,k.start.length < 4611686018427387904):vr c=some (z8 c):=by
 unfold vr z8
 simp only [zx,Bool.cond_true_left,aS]
 show (bif Zj c then _ else _)=_
 cases hlim:Zj c with
 | true=>rfl
 | false=>
  simp only [Zj,uw,decide_eq_false_iff_not] at hlim
  obtain ⟨h1,h2,h3,h4,h5,h6⟩:=hlim
  simp only [bM,TW c (by omega) (by omega) (by omega) (by omega) ho,aS]
  cases jS c with
  | false=>rfl
  | true=>
   simp only [bL]
   rw [xi (fun i=>n4 c i) (fun i=>(i:Int)) (by omega) (fun i hi=>by
    rw [TY c i c.aB[i] (uc hi) (hs _ (um hi))]
    simp only [aS,n4,uc hi,zx])]
   cases (uk c.aB.length).find? (fun j=>!n4 c j)<;>rfl
end Go.Proofs.YtcmmhbmgpflmeaaGreatDoor
namespace Go.Proofs.YtcmmhbmgpflmeaaGreatDoor
open Go.RowKit
set_option linter.unusedSimpArgs false
set_option linter.unusedVariables false
set_option maxRecDepth 100000
theorem lz.lt {α:Type} {n:Nat} {p:α→Prop} {l:List α} (h:lz n p l) (hn:0 < n):l.length < 4611686018427387904:=by
 have h1:=h.1
 have h2:reachBytes≤140737488355328:=by decide +kernel
 have:=Nat.le_mul_of_pos_right l.length hn
 omega
theorem ax.Ok.valid {c:ax} (hc:c.Ok):vr c=some (z8 c):=
 TZ c (hc.off.lt (by omega)) (fun k hk=>(hc.aB.2 k hk).start.lt (by omega))
inductive fX (c:ax):Int×Int→Prop where
 | DI (h:Zj c=true):fX c (3,-1)
 | frame (h:Zj c=false) (hf:jS c=false):fX c (1,-1)
 | bad (h:Zj c=false) (hf:jS c=true) (i:Nat) (hi:i < c.aB.length) (hb:n4 c i=false) (hl:∀ j,j < i→n4 c j=true):fX c (1,(i:Int))
 | ok (h:Zj c=false) (hf:jS c=true) (ha:∀ j,j < c.aB.length→n4 c j=true):fX c (0,-1)
theorem T1 (c:ax):fX c (z8 c):=by
 unfold z8
 cases h:Zj c with
 | true=>exact .DI h
 | false=>
  simp only [bM]
  cases hf:jS c with
  | false=>exact .frame h hf
  | true=>
   simp only [bL]
   cases hq:(uk c.aB.length).find? (fun j=>!n4 c j) with
   | none=>exact .ok h hf (wd hq)
   | some j=>obtain ⟨h1,h2,h3⟩:=we hq;exact .bad h hf j h1 h2 h3
theorem vz {c:ax} (h:(z8 c).1=0):Zj c=false∧jS c=true∧(∀ j,j < c.aB.length→n4 c j=true)∧z8 c=(0,-1):=by
 have hv:=T1 c
 generalize hr:z8 c=r at h hv ⊢
 cases hv with
 | DI _=>simp at h
 | frame _ _=>simp at h
 | bad _ _ i _ _ _=>simp at h
 | ok a b d=>exact ⟨a,b,d,rfl⟩
theorem T2 (x y:Int):Z9 x y=some (decide (x < y)):=by
 simp [Z9,QS]
theorem Iu {a b:Int} (h0:0≤a) (h1:a≤b) (h2:b < 4611686018427387904):ZP .u64 .u64 (IntKind.u64.wrap (IntKind.i64.wrap (a+b))) 1=some ((a+b) / 2):=by
 rw [zZ (by omega) (by omega),Np (by omega) (by omega)]
 unfold ZP
 rw [if_neg (by omega)]
 have:(2:Int) ^ (min (1:Int).toNat IntKind.u64.bits)=2:=by decide
 rw [this,Int.fdiv_eq_ediv_of_nonneg _ (by omega)]
def jK (l:List Int) (v:Int):Option Int:=if v∈l then some (l.idxOf v:Int) else none
theorem T3 {l:List Int} (hn:l.Nodup) {i:Nat} (hi:i < l.length):l.idxOf l[i]=i:=by
 have h1:l.idxOf l[i] < l.length:=List.idxOf_lt_length_iff.2 (um hi)
 have h2:=List.getElem_idxOf h1
 exact (List.getElem?_inj h1 hn).1 (by rw [uc h1,uc hi,h2])
theorem Iv {l:List Int} (hn:l.Nodup) {i:Nat} {v:Int} (h:l[i]?=some v):jK l v=some (i:Int):=by
 obtain ⟨hi,rfl⟩:=uo.1 h
 unfold jK
 rw [if_pos (um hi),T3 hn hi]
theorem Yy (l:List Int) (v:Int) (hs:l.Pairwise (· < ·)) (hl:l.length < 4611686018427387904):∃ r:Int,jR l v=some (r,(jK l v).isSome)∧∀ p,jK l v=some p→r=p:=by
 have hp:=List.pairwise_iff_getElem.1 hs
 unfold jR
 have hit:ay (iter (σ:=Int×Int) (ρ:=Int) (fun s1=>(bif decide (s1.1 < s1.2) then (ua (ZP .u64 .u64 (IntKind.u64.wrap (IntKind.i64.wrap (s1.1+s1.2))) 1) fun e1=>(ua (zf l (IntKind.i64.wrap e1)) fun e2=>(ua (Z9 e2 v) fun r1=>(bif r1 then some (.inl ((IntKind.i64.wrap ((IntKind.i64.wrap e1)+1)),s1.2)) else some (.inl (s1.1,(IntKind.i64.wrap e1))))))) else some (.inr s1.1))) (0,(l.length:Int)))
   (fun r=>0≤r∧r≤l.length∧(∀ (j:Nat) (hj:j < l.length),(j:Int) < r→l[j] < v)∧(∀ (j:Nat) (hj:j < l.length),r≤(j:Int)→v≤l[j])):=by
  refine ay.iter (fun s=>0≤s.1∧s.1≤s.2∧s.2≤l.length∧(∀ (j:Nat) (hj:j < l.length),(j:Int) < s.1→l[j] < v)∧(∀ (j:Nat) (hj:j < l.length),s.2≤(j:Int)→v≤l[j])) (fun s=>(s.2 - s.1).toNat) ⟨by simp,by simp,by simp,fun j hj h=>by simp only at h;omega,fun j hj h=>by simp only at h;omega⟩ ?_
  rintro ⟨lo,hi⟩ ⟨h1,h2,h3,h4,h5⟩
  simp only at h1 h2 h3 h4 h5 ⊢
  refine ay.ite (fun hb => ?_) (fun hb => ?_)
  ·have hlt:=of_decide_eq_true hb
   rw [Iu h1 h2 (by omega)]
   simp only [aS]
   have hm1:lo≤(lo+hi) / 2:=by omega
   have hm2:(lo+hi) / 2 < hi:=by omega
   generalize (lo+hi) / 2=m at hm1 hm2 ⊢
   rw [zZ (by omega) (by omega)]
   obtain ⟨hi',e⟩:=jg (l:=l) (n:=m) (by omega) (by omega)
   rw [e,zZ (by omega) (by omega)]
   simp only [aS,T2]
   refine ay.ite (fun gJ => ?_) (fun gJ => ?_)
   ·have hv:=of_decide_eq_true gJ
    refine ay.some ⟨⟨by show 0≤m+1;omega,by show m+1≤hi;omega,h3,fun j hj nP => ?_,h5⟩,by show (hi - (m+1)).toNat < (hi - lo).toNat;omega⟩
    have nP:(j:Int) < m+1:=nP
    rcases ux j m.toNat with h | h
    ·have:=hp j m.toNat hj hi' h;omega
    ·obtain rfl:j=m.toNat:=by omega
     exact hv
   ·have hv:¬ l[m.toNat] < v:=of_decide_eq_false gJ
    refine ay.some ⟨⟨h1,by show lo≤m;omega,by show m≤(l.length:Int);omega,h4,fun j hj nP => ?_⟩,by show (m - lo).toNat < (hi - lo).toNat;omega⟩
    have nP:m≤(j:Int):=nP
    rcases ux m.toNat j with h | h
    ·have:=hp m.toNat j hi' hj h;omega
    ·obtain rfl:j=m.toNat:=by omega
     omega
  ·have hlt:¬ lo < hi:=of_decide_eq_false hb
   have:lo=hi:=by omega
   subst this
   exact ay.some ⟨h1,h3,h4,h5⟩
 obtain ⟨r,hr,fZ,cq,cg,eB⟩:=hit
 rw [hr]
 simp only [aS]
 by_cases hlt:r < (l.length:Int)
 ·obtain ⟨hi',e⟩:=jg (l:=l) (n:=r) fZ hlt
  simp only [hlt,decide_true,bL,e,aS]
  by_cases hv:l[r.toNat]=v
  ·have hpos:jK l v=some (r.toNat:Int):=Iv (Kw hs) (by rw [uc hi',hv])
   refine ⟨r,by simp [hv,hpos],fun p hp => ?_⟩
   rw [hpos] at hp;cases hp;omega
  ·have hn:jK l v=none:=by
    unfold jK
    rw [if_neg]
    intro hm
    obtain ⟨j,hj,e2⟩:=uq hm
    rcases Nat.lt_trichotomy j r.toNat with h | h | h
    ·have:=cg j hj (by omega);omega
    ·subst h;exact hv e2
    ·have h6:=hp r.toNat j hi' hj h
     have h7:=eB r.toNat hi' (by omega)
     omega
   refine ⟨r,?_,fun p hp=>by rw [hn] at hp;cases hp⟩
   rw [hn]
   have:(l[r.toNat] == v)=false:=beq_eq_false_iff_ne.2 hv
   simp [this,kM]
 ·have hn:jK l v=none:=by
   unfold jK
   rw [if_neg]
   intro hm
   obtain ⟨j,hj,e2⟩:=uq hm
   have:=cg j hj (by omega);omega
  refine ⟨r,?_,fun p hp=>by rw [hn] at hp;cases hp⟩
  rw [hn]
  simp [hlt]
theorem T4 {aJ:Int} {off:List Int} (hl:off.length < 4611686018427387904) (h:Xd aJ off=true):(off.length:Int)≤aJ∨off.length=0:=by
 have e:Xd aJ off=Zc aJ (-1) off:=by
  unfold Xd
  rw [HT aJ off hl (-1)]
  cases Zc aJ (-1) off<;>rfl
 rw [e] at h
 rcases HU h with h1 | h1<;>omega
structure Small (c:ax):Prop where
 aN:1≤c.aN∧c.aN≤12
 aJ:1≤c.aJ∧c.aJ≤2000
 aC:c.aC.length≤12
 bk:c.bk.length≤20
 aK:c.aK.length≤60
 aB:c.aB.length≤400
 off:c.off.length≤2000
 start:∀ k∈c.aB,k.start.length≤8
 cond:∀ (i:Nat) (k:aL),c.aB[i]?=some k→∀ s∈k.start,0≤s.clause∧s.clause < c.aB.length∧s.clause≠(i:Int)
theorem qn {c:ax} (ho:c.off.length < 4611686018427387904) (h:(z8 c).1=0):Small c:=by
 obtain ⟨h1,h2,h3,_⟩:=vz h
 simp only [Zj,uw,decide_eq_false_iff_not] at h1
 obtain ⟨a1,a2,a3,a4,a5,a6⟩:=h1
 simp only [jS,uf,ul,decide_eq_false_iff_not] at h2
 obtain ⟨b1,b2,b3,b4,b5,b6,b7⟩:=h2
 have dY:∀ (i:Nat) (k:aL),c.aB[i]?=some k→vw c.aC.length c.bk c.aK c.aB.length i k=true:=fun i k hk=>by
  have:=h3 i (uo.1 hk).1
  simp only [n4,hk] at this
  exact this
 refine ⟨⟨by omega,by omega⟩,⟨by omega,by omega⟩,by omega,by omega,by omega,by omega,?_,fun k hk => ?_,fun i k hk s hs => ?_⟩
 ·rcases T4 ho b7 with h | h<;>omega
 ·obtain ⟨i,hi,e⟩:=uq hk
  have:=dY i k (by rw [←e];exact uc hi)
  simp only [vw,uf,ul,decide_eq_false_iff_not] at this
  omega
 ·have:=dY i k hk
  simp only [vw,uf] at this
  have:=ui.1 this.2.2.1 s hs
  simp only [VH,uf,ul,decide_eq_false_iff_not,beq_eq_false_iff_ne] at this
  exact ⟨by omega,by omega,this.2.2.1⟩
theorem kg {α:Type} {bI:Nat} {l:List α} (h:l.length*bI≤140737488355328):jl bI l=some l:=by unfold jl;rw [if_pos h]
theorem ZH {f:Nat→Unit→Option (Unit ⊕ Unit)} {n:Nat} (p:Nat→Bool) (hn:n < 4611686018427387904) (h:∀ j,j < n→f j ()=some (bif p j then .inl () else .inr ())) :
  aG (n:Int) f ()=some (bif (uk n).all p then .inl () else .inr ()):=by
 rw [xi p (fun _=>()) hn h]
 cases hf:(uk n).find? (fun j=>!p j) with
 | none=>
  have:(uk n).all p=true:=ui.2 fun j hj=>wd hf j (uv.1 hj)
  rw [this];rfl
 | some k=>
  obtain ⟨h1,h2,_⟩:=we hf
  have:(uk n).all p=false:=by
   rw [ur]
   intro h
   have:=ui.1 h k (uv.2 h1)
   rw [h2] at this;cases this
  rw [this];rfl
theorem wM {α ρ:Type} {f:Nat→List α→Option (List α ⊕ ρ)} (s0:List α) (F:Nat→α→α) (hl:s0.length < 4611686018427387904)
  (h:∀ (i:Nat) (m:α) (s:List α),s0[i]?=some m→s.length=s0.length→s[i]?=some m→f i s=some (.inl (s.set i (F i m)))) :
  aG (s0.length:Int) f s0=some (.inl (s0.mapIdx F)):=by
 obtain ⟨o,h1,h2⟩:=wA (n:=s0.length) (s0:=s0) (f:=f) (fun i s=>s.length=s0.length∧∀ j,s[j]?=if j < i then (s0[j]?).map (F j) else s0[j]?) (fun _=>False) hl ⟨rfl,fun j=>by simp⟩ (fun i s hi ⟨a,b⟩=>by
  have hs:s[i]?=some s0[i]:=by rw [b i,if_neg (by omega),uc hi]
  refine ⟨_,h i s0[i] s (uc hi) a hs,by simpa using a,fun j => ?_⟩
  rw [List.getElem?_set]
  by_cases hij:i=j
  ·subst hij
   rw [if_pos rfl,if_pos (by omega),if_pos (by omega),uc hi];rfl
  ·rw [if_neg hij,b j]
   by_cases h3:j < i
   ·rw [if_pos h3,if_pos (by omega)]
   ·rw [if_neg h3,if_neg (by omega)])
 rw [h1]
 cases o with
 | inr r=>exact h2.elim
 | inl s=>
  obtain ⟨a,b⟩:=h2
  congr 2
  refine List.ext_getElem? fun j => ?_
  rw [b j,List.getElem?_mapIdx]
  by_cases hj:j < s0.length
  ·rw [if_pos hj]
  ·rw [if_neg hj,List.getElem?_eq_none (by omega)];rfl
def qH (aM:List aq) (s:b8):Bool:=match zf aM s.clause with
 | some m=>bif s.is == 1 then !(m.aH == 0) else bif s.is == 2 then m.aH == 3 else bif s.is == 3 then m.aH == 4 else bif s.is == 4 then m.aH == 5 else false
 | none=>false
def qv (ks:List aL) (aM:List aq) (i:Nat):Bool:=match ks[i]?,aM[i]? with
 | some k,some m=>(m.aH == 0 && !k.bq)&&k.start.all (qH aM)
 | _,_=>false
def kp (aN:Int) (k:aL) (m:aq):Bool:=
 !(k.bq||(decide (m.left < 1)||(m.aT&&k.bH == -1)))&&(((m.got == 0)||(k.kind == 1 && !(decide (m.got < 0)||decide (k.need≤m.got)))) &&
  (bif k.kind == 4 then m.bg == -1 else decide (0≤m.bg)&&decide (m.bg < aN)))
def VI (m:aq):Bool:=(m.aH == 0)&&((m.left == 0)&&((m.got == 0)&&((m.bg == (-1))&&((m.aT == false)&&true))))
def CC (aN:Int) (m:aq):Bool:=(m.left == 0)&&(decide (0≤m.got)&&(decide (m.got≤9)&&(decide ((-1)≤m.bg)&&(decide (m.bg < aN) && !m.aT))))
def qP (aN:Int) (k:aL) (m:aq):Bool:=
 bif m.aH == 0 then !k.bq&&VI m else bif m.aH == 1 then decide (m.left≤k.after)&&kp aN k m
 else bif m.aH == 2 then k.kind == 1&&(decide (m.left≤k.cX)&&kp aN k m) else (m.aH == 3||(m.aH == 4||m.aH == 5))&&CC aN m
theorem T5 (c:ax) (k:aL) (m:aq):vN c k m=some (kp c.aN k m):=by
 simp only [vN,kp,zx,aS]
 cases k.bq<;>cases decide (m.left < 1)<;>cases m.aT<;>cases (k.bH == -1)<;>cases (m.got == 0)<;>cases (k.kind == 1)<;>cases decide (m.got < 0)<;>cases decide (k.need≤m.got)<;>cases (k.kind == 4)<;>cases decide (0≤m.bg)<;>rfl
theorem T6 (c:ax) (i:Nat) (k:aL) (m:aq) (hk:c.aB[i]?=some k):yK c i m=some (qP c.aN k m):=by
 unfold yK
 rw [zt hk]
 simp only [aS,T5,zx,qP,VI,CC]
 cases (m.aH == 0)
 ·cases (m.aH == 1)
  ·cases (m.aH == 2)
   ·cases (m.aH == 3)<;>cases (m.aH == 4)<;>cases (m.aH == 5)<;>cases (m.left == 0)<;>cases decide (0≤m.got)<;>cases decide (m.got≤9)<;>cases decide ((-1)≤m.bg)<;>cases decide (m.bg < c.aN)<;>rfl
   ·cases (k.kind == 1)<;>cases decide (m.left≤k.cX)<;>rfl
  ·cases decide (m.left≤k.after)<;>rfl
 ·cases k.bq<;>rfl
theorem Iw (c:ax) (s:bn) (i:Nat) (k:aL) (m:aq) (hk:c.aB[i]?=some k) (hm:s.aM[i]?=some m) (hst:k.start.length < 4611686018427387904)
  (hc:∀ x∈k.start,0≤x.clause∧x.clause < s.aM.length):yr c s i=some (qv c.aB s.aM i):=by
 unfold yr qv
 rw [zt hm,zt hk,hk,hm]
 simp only [aS]
 rw [wj (l:=k.start) (qH s.aM) hst (fun j hj=>by
  obtain ⟨h0,h1⟩:=hc _ (um hj)
  obtain ⟨h2,h3⟩:=jg h0 h1
  simp only [z7,uc hj,aS,h3,qH,zx])]
 simp only [aS,zx]
 cases (m.aH == 0)<;>cases k.bq<;>cases k.start.all (qH s.aM)<;>rfl
def XN (aK:List aV) (used:List Bool) (i:Nat):Bool:=match aK[i]?,used[i]? with
 | some a,some u=>!(u&&a.kind == 1)
 | _,_=>false
def Zk (c:ax) (aM:List aq) (i:Nat):Bool:=match c.aB[i]?,aM[i]? with
 | some k,some m=>qP c.aN k m && !qv c.aB aM i
 | _,_=>false
noncomputable def tG (c:ax) (s:bn):Bool:=
 ((z8 c).1 == 0)&&((!(decide (s.day < 0))&&(!(decide (c.aJ < s.day))&&((s.aC.length:Int) == c.aC.length&&((s.used.length:Int) == c.aK.length&&(s.aM.length:Int) == c.aB.length)))) &&
  (yL c.aN s.aC&&((uk s.used.length).all (XN c.aK s.used)&&(uk s.aM.length).all (Zk c s.aM))))
theorem Zl (c:ax) (s:bn) (hc:c.Ok):jp c s=some (tG c s):=by
 unfold jp tG
 rw [hc.valid]
 simp only [aS]
 cases hv:((z8 c).1 == 0) with
 | false=>rfl
 | true=>
  have sm:=qn (hc.off.lt (by omega)) (beq_iff_eq.1 hv)
  simp only [bL,zx,aS,ue]
  cases h1:decide (s.day < 0)<;>cases h2:decide (c.aJ < s.day)<;>cases h3:((s.aC.length:Int) == c.aC.length)<;>cases h4:((s.used.length:Int) == c.aK.length)<;>cases h5:((s.aM.length:Int) == c.aB.length)<;>try rfl
  simp only [bL,bM,uj,uh,ue]
  have e3:=beq_iff_eq.1 h3
  have e4:=beq_iff_eq.1 h4
  have e5:=beq_iff_eq.1 h5
  have:=sm.aC
  have:=sm.aK
  have:=sm.aB
  rw [wj (l:=s.aC) (fun h=>decide (0≤h)&&decide (h < c.aN)) (by omega) (fun j hj=>by
   simp only [z7,uc hj,aS,zx]
   generalize s.aC[j]=h
   by_cases a:h < 0
   ·have b:¬ 0≤h:=by omega
    simp [a,b]
   ·have b:0≤h:=by omega
    by_cases d:h < c.aN
    ·have d':¬ c.aN≤h:=by omega
     simp [a,b,d,d']
    ·have d':c.aN≤h:=by omega
     simp [a,b,d,d'])]
  rw [ZH (n:=s.used.length) (XN c.aK s.used) (by omega) (fun j hj=>by
   have hj':j < c.aK.length:=by omega
   simp only [z7,uc hj,uc hj',aS,zx,XN]
   cases s.used[j]<;>cases (c.aK[j].kind == 1)<;>rfl)]
  rw [ZH (n:=s.aM.length) (Zk c s.aM) (by omega) (fun j hj=>by
   have hj':j < c.aB.length:=by omega
   have hk:=uc hj'
   have hm:=uc hj
   simp only [z7,hm,aS]
   rw [T6 c j _ _ hk,Iw c s j _ _ hk hm (by have:=sm.start _ (um hj');omega) (fun x hx=>by have:=sm.cond j _ hk x hx;omega)]
   simp only [aS,Zk,hk,hm]
   cases qP c.aN c.aB[j] s.aM[j]<;>cases qv c.aB s.aM j<;>rfl)]
  simp only [yL,aS]
  cases s.aC.all (fun h=>decide (0≤h)&&decide (h < c.aN))<;>cases (uk s.used.length).all (XN c.aK s.used)<;>cases (uk s.aM.length).all (Zk c s.aM)<;>rfl
structure VS (c:ax) (s:bn):Prop where
 cv:(z8 c).1=0
 day:0≤s.day∧s.day≤c.aJ
 lh:s.aC.length=c.aC.length
 lu:s.used.length=c.aK.length
 lm:s.aM.length=c.aB.length
 hold:∀ h∈s.aC,0≤h∧h < c.aN
 used:∀ (i:Nat) (a:aV),c.aK[i]?=some a→s.used[i]?=some true→a.kind≠1
 BC:∀ (i:Nat) (k:aL) (m:aq),c.aB[i]?=some k→s.aM[i]?=some m→qP c.aN k m=true
 Ez:∀ i,i < c.aB.length→qv c.aB s.aM i=false
theorem Iy {c:ax} {s:bn} (h:tG c s=true):VS c s:=by
 simp only [tG,uf,ul,decide_eq_false_iff_not,beq_iff_eq,ui,uv,yL,decide_eq_true_eq] at h
 obtain ⟨h1,⟨h2,h3,h4,h5,h6⟩,h7,h8,h9⟩:=h
 refine ⟨h1,⟨by omega,by omega⟩,by omega,by omega,by omega,fun x hx=>h7 x hx,fun i a ha hu hk => ?_,fun i k m hk hm => ?_,fun i hi => ?_⟩
 ·have:=h8 i (by have:=(uo.1 hu).1;exact this)
  simp only [XN,ha,hu,hk] at this
  cases this
 ·have:=h9 i (uo.1 hm).1
  simp only [Zk,hk,hm,uf] at this
  exact this.1
 ·have hi':i < s.aM.length:=by omega
  have:=h9 i hi'
  simp only [Zk,uc hi,uc hi',uf,ul] at this
  exact this.2
theorem Xe {c:ax} {s:bn} (h:VS c s):tG c s=true:=by
 have hd:=h.day
 have h4:=h.lh
 have h5:=h.lu
 have h6:=h.lm
 simp only [tG,uf,ul,decide_eq_false_iff_not,beq_iff_eq,ui,uv,yL,decide_eq_true_eq]
 refine ⟨h.cv,⟨by omega,by omega,by omega,by omega,by omega⟩,fun x hx=>h.hold x hx,fun i hi => ?_,fun i hi => ?_⟩
 ·have hi':i < c.aK.length:=by omega
  have ha:=uc hi'
  have hu:=uc hi
  simp only [XN,ha,hu]
  cases hq:s.used[i] with
  | false=>rfl
  | true=>
   have:=h.used i _ ha (by rw [hu,hq])
   simp [this]
 ·have hi':i < c.aB.length:=by omega
  have ha:=uc hi'
  have hu:=uc hi
  simp only [Zk,ha,hu,uf,ul]
  exact ⟨h.BC i _ _ ha hu,h.Ez i hi'⟩
end Go.Proofs.YtcmmhbmgpflmeaaGreatDoor
