/-
  Functions of the program: what they compute, and plans of their code that the kernel checks (printed by a program of ours).
  What 'contract.Valid' comes to.
  What Valid says.
  What 'slices.BinarySearch' comes to; sizes of valid contracts.
  What 'system.Valid' comes to.
  What is known of a valid contract; what 'start' does.
  What 'system.Step' does.
  What an act does.
  'system.Step': what it returns.
-/
import Derived.Test.YtgpojcfkanjabaaGreatDoorAS11
import Derived.Test.YtgpojcfkanjabaaGreatDoorAS07
open List renaming getElem?_eq_getElem → ua, getElem?_eq_some_iff → ud, map → ue, all_eq_true → ui, getElem_mem → un, range → uo, getElem_of_mem → ut, getElem?_set → uu, replicate → uv, length_set → uA, mem_range → uC, idxOf_lt_length_iff → uD, getElem?_mapIdx → uF, getElem_idxOf → uG, set_set → uH, mem_cons → uJ
open Option renaming bind → ub, getD_some → ux
open Bool renaming and_eq_true → uc, not_eq_true' → ug, not_true → uh, false_and → uj, true_and → uk, not_false → ul, cond_false_right → um, eq_false_iff → uw, or_eq_false_iff → uy, or_eq_true → uz, and_false → uI, true_or → uK
open Nat renaming lt_or_ge → uE
open Sum renaming elim_inl → uq, elim → ur, elim_inr → uB
namespace Go.Proofs.YtgpojcfkanjabaaGreatDoor
open Go.RowKit
set_option linter.unusedSimpArgs false
set_option linter.unusedVariables false
set_option maxRecDepth 100000
noncomputable def XC (c:ay) (a:cx):Option (List Bool):=
 (ub (Wg c a) fun r1=>(ub (eD 1 (r1.length:Int)) fun k1=>(ub (aH (σ:=(List Bool)) (ρ:=Unit) (r1.length:Int) (fun i1 s1=>(ub (zf r1 (i1:Int)) fun e1=>(ub (zl k1 (i1:Int)) fun k2=>(ub (s1[k2]?) fun e2=>some (.inl (s1.set k2 (e1 == (-1)))))))) (uv k1 false)) (ur (fun (s1:(List Bool))=>(ub (dQ k1 s1.length) fun g1=>some s1)) (fun _=>none)))))
noncomputable def zml (c:ay) (a:cx):aB (List Bool):=
 .aC 1 (.call 3066 (zkp c a) fun r1=>.use 2 3066 (.aC 0 (.b1 3068 (eD 1 (r1.length:Int)) (fun k1=>.m k1 (zc zh (uv k1 false))) (fun k1 hk1=>(xa zh false hk1)) fun k1=>.ln 3078 zb r1 (.us [(1,3078),(2,3068)] (.aC 0 (.ln 3076 zb r1 (.use 1 3076 (.aH (σ:=(List Bool)) (ρ:=Unit) 3064 17 (r1.length:Int) (uv k1 false) (.k [6,15,16] (fun _=>[]) [] (fun s1=>[(9,.af 1 (zc zh s1))]) 14 fun _=>(.af rfl .nil)) (fun i1 s1=>.sel 3064 (.aC 0 (.ix 3070 zb r1 (i1:Int) fun e1=>.use 1 3070 (.aC 0 (.b1 3072 (zl k1 (i1:Int)) (fun k2=>.k k2) (fun k2 hk2=>(zn hk2)) fun k2=>.b1 3074 (s1[k2]?) (fun e2=>.aw (zj (zh e2)) (zc zh (s1.set k2 (e1 == (-1))))) (fun e2 eA=>(zH zh (e1 == (-1)) eA)) fun e2=>.us [(4,3072),(5,3074)] (.ret (.inl (s1.set k2 (e1 == (-1)))))))))) fun os1=>.case os1 (fun s1=>.sel 3064 (.bind (dQ k1 s1.length) (fun _=>[]) (fun _ _=>.nil) fun g2=>.fin [9] (.Zak 9 0 k1) [(9,.af 1 (zc zh s1))] (.slice (ue zh s1)) (xp _ _ _ (zB (xE zh 9 1 k1 s1 g2.down rfl) jb)) s1)) fun _=>.none))))))))
theorem IB (c:ay) (a:cx) (res:List Bool) (hd:XC c a=some res):aL C0 138 [.agg (ay.row c),.agg (cx.row a)] (.slice (ue zh res)):=
 aB.pure (iv:=fun res=>.slice (ue zh res)) (zml c a) (by kernel_rfl) (aB.aD hd (by kernel_rfl))
noncomputable def Yr (p1:List Int) (p2:ay) (p3:ak) (p4:Bool) (p5:Int) (p6:List (List Int)):Option (Int×(List (List Int))):=
 (ub (jt p2 p5 ({state:=p3,own:=p4}:aK)) fun r1=>(ub (ub (bif (r1.2 == 0) then (ub (XC p2 r1.1) fun r2=>(ub (zf r2 0) fun e1=>some (!e1))) else some false) fun v1=>(bif v1 then (ub (qk (α:=List Int) 24 p6 [p1]) fun e2=>some e2) else some p6)) fun (v2:(List (List Int)))=>some (r1.2,v2)))
noncomputable def zmm (p1:List Int) (p2:ay) (p3:ak) (p4:Bool) (p5:Int) (p6:List (List Int)):aB (Int×(List (List Int))):=
 .aC 1 (.call 3100 (Iw p2 p5 ({state:=p3,own:=p4}:aK)) fun r1=>.use 3 3100 (.cut (β:=(List (List Int))) 1 (.k [10] (fun _=>[]) [0] (fun v2=>[(1,.af 1 [[.aU 2 (ue (zM zb) v2)]]),(2,.aV 1 v2.length)]) 26 fun _=>(.exp rfl rfl (.exp rfl rfl .nil))) (.cut (β:=Bool) 1 (.e [0,4,10] (fun v1=>[(27,vB v1)]) [0,1,2,3,4,13] 26) (.aC 0 (.ite 3096 (r1.2 == 0) (.call 3102 (IB p2 r1.1) fun r2=>.ix 3104 zh r2 0 fun e1=>.us [(3,3096),(5,3102),(6,3104)] (.ret (!e1))) (.use 3 3096 (.ret false)))) fun v1=>.ite 3098 v1 (.sel 3098 (.aC 0 (.b1 3106 (qk (α:=List Int) 24 p6 [p1]) (fun e2=>.a (ue (zM zb) e2) e2.length) (fun e2 eA=>(qH (zM zb) 1 24 (fun _=>rfl) eA)) fun e2=>.use 3 3106 (.ret e2)))) (.sel 3098 (.ret p6))) fun v2=>.ret (r1.2,v2)))
theorem zmn (p1:List Int) (p2:ay) (p3:ak) (p4:Bool) (p5:Int) (p6:List (List Int)) (res:Int×(List (List Int))) (hd:Yr p1 p2 p3 p4 p5 p6=some res):cV C0 179 [.ax (.slice (ue zb p1)),.agg (zj (ay.row p2)),.agg [vI p3.day,.ax (.slice (ue zb p3.aE)),.ax (.slice (ue zh p3.used)),.ax (.slice (ue aj.row p3.aI)),vB p4],.ptr 0 0 0,.ptr 1 0 0] [(0,.af 1 [[vI p5]]),(1,.af 1 [[.aU 2 (ue (zM zb) p6)]]),(2,.aV 1 p6.length)] 3 (vI res.1) [(0,.af 1 [[vI p5]]),(1,.af 1 [[.aU 2 (ue (zM zb) res.2)]]),(2,.aV 1 res.2.length)] 0:=
 aB.dn (R:=fun res=>vI res.1) (H:=fun res=>[(0,.af 1 [[vI p5]]),(1,.af 1 [[.aU 2 (ue (zM zb) res.2)]]),(2,.aV 1 res.2.length)]) (zmm p1 p2 p3 p4 p5 p6) (.exp rfl rfl (.exp rfl rfl (.exp rfl rfl .nil))) (fun _=>(.exp rfl rfl (.exp rfl rfl (.exp rfl rfl .nil)))) (by kernel_rfl) (fun _=>by kernel_rfl) (by kernel_rfl) (aB.aD hd (by kernel_rfl))
noncomputable def XD (p1:ay) (p2:Int) (p3:aK) (p4:Int) (p5:List (List Int)):Option (Int×(List (List Int))):=
 (ub (bif decide (p2 < 0) then some true else (bif decide (p1.aR≤p2) then some true else (ub (jP p1 p3.state) fun r1=>some (!r1)))) fun v1=>(bif v1 then some (1,p5) else (ub (ub (jR p1) fun r2=>(ub (aH (σ:=Int×(List (List Int))) (ρ:=Int×(List (List Int))) (r2.length:Int) (fun i1 s1=>(ub (zf r2 (i1:Int)) fun e1=>(ub (XA p1 e1) fun r3=>(ub (bif (r3.2 == 0) then (ub (yb e1 p3.state) fun r4=>(ub (Yr e1 r3.1 r4 p3.own p4 s1.2) fun r5=>some (r5.1,r5.2))) else some (r3.2,s1.2)) fun (v2:Int×(List (List Int)))=>(bif (v2.1 == 0) then some (.inl (v2.1,v2.2)) else some (.inr (v2.1,v2.2))))))) (0,p5)) (ur (fun (s1:Int×(List (List Int)))=>some (s1.1,s1.2)) (fun (y1:Int×(List (List Int)))=>some (y1.1,y1.2))))) fun (v3:Int×(List (List Int)))=>some (v3.1,v3.2))))
noncomputable def zmo (p1:ay) (p2:Int) (p3:aK) (p4:Int) (p5:List (List Int)):aB (Int×(List (List Int))):=
 .cut (β:=Bool) 4 (.e [3,4,6] (fun v1=>[(28,vB v1)]) [0,1,2,3,4] 21) (.aC 0 (.ite 3114 (decide (p2 < 0)) (.use 3 3114 (.f1 3130 (.g true) (rfl:true=true) (.use 9 3130 (.ret true)))) (.ite 3116 (decide (p1.aR≤p2)) (.us [(3,3114),(9,3116)] (.ret true)) (.call 3132 (vl p1 p3.state) fun r1=>.us [(3,3114),(9,3116),(12,3132)] (.ret (!r1)))))) fun v1=>.ite 3118 v1 (.sel 3118 (.ret (1,p5))) (.sel 3118 (.cut (β:=Int×(List (List Int))) 3 (.k [] (fun v3=>[(9,vI v3.1)]) [0] (fun v3=>[(1,.af 1 [[.aU 2 (ue (zM zb) v3.2)]]),(2,.aV 1 v3.2.length)]) 26 fun _=>(.exp rfl rfl (.exp rfl rfl .nil))) (.aC 0 (.call 3134 (US p1) fun r2=>.use 1 3134 (.ln 3144 (zM zb) r2 (.use 2 3144 (.aH (σ:=Int×(List (List Int))) (ρ:=Int×(List (List Int))) 3120 32 (r2.length:Int) (0,p5) (.k [3,4,6,30,31] (fun s1=>[(9,vI s1.1)]) [0,3,4] (fun s1=>[(1,.af 1 [[.aU 2 (ue (zM zb) s1.2)]]),(2,.aV 1 s1.2.length)]) 26 fun _=>(.exp rfl rfl (.exp rfl rfl .nil))) (fun i1 s1=>.sel 3120 (.aC 0 (.ix 3136 (zM zb) r2 (i1:Int) fun e1=>.use 0 3136 (.aC 0 (.call 3138 (UY p1 e1) fun r3=>.use 2 3138 (.cut (β:=Int×(List (List Int))) 2 (.k [3,4,6,30,31,32] (fun v2=>[(9,vI v2.1)]) [0,3,4] (fun v2=>[(1,.af 1 [[.aU 2 (ue (zM zb) v2.2)]]),(2,.aV 1 v2.2.length)]) 43 fun _=>(.exp rfl rfl (.exp rfl rfl .nil))) (.ite 3126 (r3.2 == 0) (.sel 3126 (.aC 0 (.call 3140 (U0 e1 p3.state) fun r4=>.b1 3142 (Yr e1 r3.1 r4 p3.own p4 s1.2) (fun r5=>.c [0,1,2] 3 (vI r5.1) [(1,.af 1 [[.aU 2 (ue (zM zb) r5.2)]]),(2,.aV 1 r5.2.length)] 0) (fun r5 A7=>(ze (zmn e1 r3.1 r4 p3.own p4 s1.2 r5 A7) [0,1,2] 55 (.drop rfl rfl (.keep (.keep .nil))) (bt (bt (bt bg))) (bt (bt bg)))) fun r5=>.us [(6,3140),(10,3142)] (.ret (r5.1,r5.2))))) (.sel 3126 (.ret (r3.2,s1.2)))) fun v2=>.ite 3128 (v2.1 == 0) (.sel 3129 (.ret (.inl (v2.1,v2.2)))) (.sel 3129 (.ret (.inr (v2.1,v2.2)))))))))) fun os1=>.case os1 (fun s1=>.sel 3120 (.ret (s1.1,s1.2))) fun y1=>.ret (y1.1,y1.2)))))) fun v3=>.ret (v3.1,v3.2)))
theorem zmp (p1:ay) (p2:Int) (p3:aK) (p4:Int) (p5:List (List Int)) (res:Int×(List (List Int))) (hd:XD p1 p2 p3 p4 p5=some res):cV C0 177 [.agg (zj (ay.row p1)),vI p2,.agg (zj (aK.row p3)),.func 179 [] [.ptr 0 0 0,.ptr 1 0 0]] [(0,.af 1 [[vI p4]]),(1,.af 1 [[.aU 2 (ue (zM zb) p5)]]),(2,.aV 1 p5.length)] 3 (vI res.1) [(0,.af 1 [[vI p4]]),(1,.af 1 [[.aU 2 (ue (zM zb) res.2)]]),(2,.aV 1 res.2.length)] 0:=
 aB.dn (R:=fun res=>vI res.1) (H:=fun res=>[(0,.af 1 [[vI p4]]),(1,.af 1 [[.aU 2 (ue (zM zb) res.2)]]),(2,.aV 1 res.2.length)]) (zmo p1 p2 p3 p4 p5) (.exp rfl rfl (.exp rfl rfl (.exp rfl rfl .nil))) (fun _=>(.exp rfl rfl (.exp rfl rfl (.exp rfl rfl .nil)))) (by kernel_rfl) (fun _=>by kernel_rfl) (by kernel_rfl) (aB.aD hd (by kernel_rfl))
noncomputable def ZM (c:ay) (zw:Int) (p:aK):Option ((List (List Int))×Int):=
 (ub (XD c zw p zw []) fun r1=>(bif (r1.1 == 0) then some (r1.2,0) else some ([],r1.1)))
noncomputable def zmq (c:ay) (zw:Int) (p:aK):aB ((List (List Int))×Int):=
 .cA 3 [Jw 5 1 0 0] (.aC 0 (.b1 3148 (XD c zw p zw []) (fun r1=>.c [1,5,6] 3 (vI r1.1) [(5,.af 1 [[.aU 6 (ue (zM zb) r1.2)]]),(6,.aV 1 r1.2.length)] 0) (fun r1 ct=>(ze (zmp c zw p zw [] r1 ct) [1,5,6] 11 (.drop rfl rfl (.keep (.keep .nil))) (bt (bt (bt bg))) (bt (bt bg)))) fun r1=>.use 4 3148 (.ite 3146 (r1.1 == 0) (.sel 3147 (.ret (r1.2,0))) (.sel 3147 (.ret ([],r1.1))))))
theorem zmr (c:ay) (zw:Int) (p:aK) (res:(List (List Int))×Int) (hd:ZM c zw p=some res):aL C0 178 [.agg (ay.row c),.int .i64 zw,.agg (aK.row p)] (.tuple [.slice (ue (zM zb) res.1),.int .i64 res.2]):=
 aB.pure (iv:=fun res=>.tuple [.slice (ue (zM zb) res.1),.int .i64 res.2]) (zmq c zw p) (by kernel_rfl) (aB.aD hd (by kernel_rfl))
noncomputable def QX (c:ay) (zw:Int) (p:aK):Option (Bool×Int):=
 (ub (ZM c zw p) fun r1=>(ub (bif (r1.2 == 0) then some ((r1.1.length:Int) == 0) else some false) fun v1=>some (v1,r1.2)))
noncomputable def zkq (c:ay) (zw:Int) (p:aK):aB (Bool×Int):=
 .aC 1 (.call 3152 (zmr c zw p) fun r1=>.use 3 3152 (.cut (β:=Bool) 1 (.e [] (fun v1=>[(6,vB v1),(7,vI r1.2)]) [0,1] 23) (.aC 0 (.ite 3150 (r1.2 == 0) (.use 3 3150 (.ln 3154 (zM zb) r1.1 (.use 4 3154 (.ret ((r1.1.length:Int) == 0))))) (.use 3 3150 (.ret false)))) fun v1=>.ret (v1,r1.2)))
theorem zkr (c:ay) (zw:Int) (p:aK) (res:Bool×Int) (hd:QX c zw p=some res):aL C0 180 [.agg (ay.row c),.int .i64 zw,.agg (aK.row p)] (.tuple [.bool res.1,.int .i64 res.2]):=
 aB.pure (iv:=fun res=>.tuple [.bool res.1,.int .i64 res.2]) (zkq c zw p) (by kernel_rfl) (aB.aD hd (by kernel_rfl))
noncomputable def vG (c:ay) (zw:Int):Option (cx×Int):=
 (ub (qy c) fun r1=>(bif (r1.2 == 0) then (ub (jt c zw ({state:=r1.1,own:=true}:aK)) fun r2=>some (r2.1,r2.2)) else some (({zw:=0,aW:=[],bK:=[]}:cx),r1.2)))
noncomputable def zks (c:ay) (zw:Int):aB (cx×Int):=
 .aC 1 (.call 3158 (QP c) fun r1=>.use 1 3158 (.ite 3156 (r1.2 == 0) (.sel 3157 (.aC 0 (.call 3160 (Iw c zw ({state:=r1.1,own:=true}:aK)) fun r2=>.use 4 3160 (.ret (r2.1,r2.2))))) (.sel 3157 (.ret (({zw:=0,aW:=[],bK:=[]}:cx),r1.2)))))
theorem zkt (c:ay) (zw:Int) (res:cx×Int) (hd:vG c zw=some res):aL C0 73 [.agg (ay.row c),.int .i64 zw] (.tuple [.agg (cx.row res.1),.int .i64 res.2]):=
 aB.pure (iv:=fun res=>.tuple [.agg (cx.row res.1),.int .i64 res.2]) (zks c zw) (by kernel_rfl) (aB.aD hd (by kernel_rfl))
noncomputable def Qk (a:cx) (safe:List Bool):Option (List Int):=
 (ub (eD 8 (a.aW.length:Int)) fun k1=>(ub (aH (σ:=(List Int)) (ρ:=Unit) (a.aW.length:Int) (fun i1 s1=>(ub (ub (zf a.aW (i1:Int)) fun e1=>(ub (zl k1 (i1:Int)) fun k2=>(ub (s1[k2]?) fun e2=>(ub (bif e1.own then (ub (zf safe (i1:Int)) fun e3=>some (!e3)) else some true) fun v1=>(bif v1 then some (s1.set k2 (-2)) else (ub (zf a.bK (i1:Int)) fun e4=>(ub (aH (σ:=Unit) (ρ:=(List Int)) (e4.length:Int) (fun i2 s2=>(ub (zf e4 (i2:Int)) fun e5=>(ub (zf safe e5.to) fun e6=>(bif e6 then (ub (zl k1 (i1:Int)) fun k3=>(ub ((s1.set k2 (-2))[k3]?) fun e7=>some (.inr ((s1.set k2 (-2)).set k3 e5.step)))) else some (.inl ()))))) ()) (ur (fun (s2:Unit)=>some (s1.set k2 (-2))) (fun (y1:(List Int))=>some y1))))))))) fun (v2:(List Int))=>some (.inl v2))) (uv k1 0)) (ur (fun (s1:(List Int))=>(ub (dQ k1 s1.length) fun g1=>some s1)) (fun _=>none))))
noncomputable def zg8 (a:cx) (safe:List Bool):aB (List Int):=
 .aC 1 (.b1 3192 (eD 8 (a.aW.length:Int)) (fun k1=>.m k1 (zc zb (uv k1 0))) (fun k1 hk1=>(xa zb 0 hk1)) fun k1=>.ln 3216 aK.row a.aW (.us [(2,3216),(3,3192)] (.aC 0 (.ln 3214 aK.row a.aW (.use 2 3214 (.aH (σ:=(List Int)) (ρ:=Unit) 3174 17 (a.aW.length:Int) (uv k1 0) (.k [1,2,5,15,16] (fun _=>[]) [0] (fun s1=>[(5,.af 1 (zc zb s1))]) 11 fun _=>(.af rfl .nil)) (fun i1 s1=>.sel 3174 (.cut (β:=(List Int)) 1 (.k [1,2,5,15,16,17] (fun _=>[]) [0] (fun v2=>[(5,.af 1 (zc zb v2))]) 32 fun _=>(.af rfl .nil)) (.aC 0 (.ix 3194 aK.row a.aW (i1:Int) fun e1=>.use 1 3194 (.aC 0 (.b1 3196 (zl k1 (i1:Int)) (fun k2=>.k k2) (fun k2 hk2=>(zn hk2)) fun k2=>.b1 3198 (s1[k2]?) (fun e2=>.aw (zj (zb e2)) (zc zb (s1.set k2 (-2)))) (fun e2 eA=>(zH zb (-2) eA)) fun e2=>.us [(2,3196),(3,3198)] (.cut (β:=Bool) 2 (.k [1,2,5,15,16,17,6] (fun v1=>[(34,vB v1)]) [0,15] (fun _=>[(5,.af 1 (zc zb (s1.set k2 (-2))))]) 32 fun _=>(.af rfl .nil)) (.aC 0 (.ite 3184 e1.own (.ix 3200 zh safe (i1:Int) fun e3=>.us [(4,3185),(6,3200)] (.ret (!e3))) (.use 4 3185 (.ret true)))) fun v1=>.ite 3186 v1 (.sel 3186 (.ret (s1.set k2 (-2)))) (.sel 3186 (.aC 0 (.ix 3202 (zM bC.row) a.bK (i1:Int) fun e4=>.use 3 3202 (.ln 3212 bC.row e4 (.use 5 3212 (.aH (σ:=Unit) (ρ:=(List Int)) 3188 41 (e4.length:Int) () (.k [1,2,5,15,16,17,6,39,40] (fun _=>[]) [0] (fun _=>[(5,.af 1 (zc zb (s1.set k2 (-2))))]) 39 fun _=>(.af rfl .nil)) (fun i2 s2=>.sel 3188 (.aC 0 (.ix 3204 bC.row e4 (i2:Int) fun e5=>.use 0 3204 (.aC 0 (.ix 3206 zh safe e5.to fun e6=>.use 3 3206 (.ite 3190 e6 (.sel 3190 (.aC 0 (.b1 3208 (zl k1 (i1:Int)) (fun k3=>.k k3) (fun k3 gA=>(zn gA)) fun k3=>.b1 3210 ((s1.set k2 (-2))[k3]?) (fun e7=>.aw (zj (zb e7)) (zc zb ((s1.set k2 (-2)).set k3 e5.step))) (fun e7 sS=>(zH zb e5.step sS)) fun e7=>.us [(4,3208),(5,3210)] (.ret (.inr ((s1.set k2 (-2)).set k3 e5.step)))))) (.sel 3190 (.ret (.inl ()))))))))) fun os2=>.case os2 (fun s2=>.sel 3188 (.ret (s1.set k2 (-2)))) fun y1=>.ret y1))))))))))) fun v2=>.ret (.inl v2))) fun os1=>.case os1 (fun s1=>.sel 3174 (.bind (dQ k1 s1.length) (fun _=>[]) (fun _ _=>.nil) fun g2=>.fin [5] (.Zak 5 0 k1) [(5,.af 1 (zc zb s1))] (.slice (ue zb s1)) (xp _ _ _ (zB (xE zb 5 1 k1 s1 g2.down rfl) jb)) s1)) fun _=>.none))))))
theorem zg9 (a:cx) (safe:List Bool) (res:List Int) (hd:Qk a safe=some res):aL C0 157 [.agg (cx.row a),.slice (ue zh safe)] (.slice (ue zb res)):=
 aB.pure (iv:=fun res=>.slice (ue zb res)) (zg8 a safe) (by kernel_rfl) (aB.aD hd (by kernel_rfl))
noncomputable def QY (c:ay) (s:ak) (step:Int):Option Int:=
 (ub (bif (step == (-1)) then some true else (ub (zf c.aJ step) fun e1=>some (e1.bM == (-1)))) fun v1=>(bif v1 then some (-1) else (ub (zf c.aJ step) fun e2=>(ub (zf s.aE e2.bM) fun e3=>some e3))))
noncomputable def zku (c:ay) (s:ak) (step:Int):aB Int:=
 .cut (β:=Bool) 3 (.e [2,3,4] (fun v1=>[(17,vB v1)]) [0,1] 14) (.aC 0 (.ite 3228 (step == (-1)) (.use 3 3228 (.ret true)) (.ix 3232 bq.row c.aJ step fun e1=>.us [(3,3228),(6,3232)] (.ret (e1.bM == (-1)))))) fun v1=>.ite 3230 v1 (.sel 3230 (.ret (-1))) (.sel 3230 (.aC 0 (.ix 3234 bq.row c.aJ step fun e2=>.ix 3236 zb s.aE e2.bM fun e3=>.us [(5,3234),(8,3236)] (.ret e3))))
theorem IC (c:ay) (s:ak) (step:Int) (res:Int) (hd:QY c s step=some res):aL C0 159 [.agg (ay.row c),.agg (ak.row s),.int .i64 step] (.int .i64 res):=
 aB.pure (iv:=fun res=>.int .i64 res) (zku c s step) (by kernel_rfl) (aB.aD hd (by kernel_rfl))
noncomputable def kJ (a:cx) (from_:Int) (move:Int):Option (Int×Bool):=
 (ub (zf a.bK from_) fun e1=>(ub (aH (σ:=Unit) (ρ:=Int) (e1.length:Int) (fun i1 s1=>(ub (zf e1 (i1:Int)) fun e2=>(bif (e2.step == move) then some (.inr e2.to) else some (.inl ())))) ()) (ur (fun (s1:Unit)=>some (0,false)) (fun (y1:Int)=>some (y1,true)))))
noncomputable def zha (a:cx) (from_:Int) (move:Int):aB (Int×Bool):=
 .aC 1 (.ix 3244 (zM bC.row) a.bK from_ fun e1=>.use 3 3244 (.ln 3248 bC.row e1 (.use 5 3248 (.aH (σ:=Unit) (ρ:=Int) 3240 16 (e1.length:Int) () (.e [2,14,15] (fun _=>[]) [] 10) (fun i1 s1=>.sel 3240 (.aC 0 (.ix 3246 bC.row e1 (i1:Int) fun e2=>.use 0 3246 (.ite 3242 (e2.step == move) (.sel 3242 (.ret (.inr e2.to))) (.sel 3242 (.ret (.inl ()))))))) fun os1=>.case os1 (fun s1=>.sel 3240 (.ret (0,false))) fun y1=>.ret (y1,true)))))
theorem ID (a:cx) (from_:Int) (move:Int) (res:Int×Bool) (hd:kJ a from_ move=some res):aL C0 160 [.agg (cx.row a),.int .i64 from_,.int .i64 move] (.tuple [.int .i64 res.1,.bool res.2]):=
 aB.pure (iv:=fun res=>.tuple [.int .i64 res.1,.bool res.2]) (zha a from_ move) (by kernel_rfl) (aB.aD hd (by kernel_rfl))
noncomputable def ZN (p1:Int) (p2:List Int) (p3:Int) (p4:ay) (p5:cx) (p6:Int):Option ((List Int)×Int):=
 (ub (qk (α:=Int) 8 p2 [p1]) fun e1=>(ub (ub (zf p5.aW p3) fun e2=>(ub (QY p4 e2.state p1) fun r1=>(bif (r1 == p6) then some p3 else (ub (kJ p5 p3 (-2)) fun r2=>some r2.1)))) fun (v1:Int)=>(ub (kJ p5 v1 p1) fun r3=>(bif r3.2 then some (e1,r3.1) else some (e1,p3)))))
noncomputable def zms (p1:Int) (p2:List Int) (p3:Int) (p4:ay) (p5:cx) (p6:Int):aB ((List Int)×Int):=
 .aC 0 (.b1 3274 (qk (α:=Int) 8 p2 [p1]) (fun e1=>.a (ue zb e1) e1.length) (fun e1 dU=>(qH zb 1 8 (fun _=>rfl) dU)) fun e1=>.use 3 3274 (.cut (β:=Int) 2 (.e [0,2,4] (fun v1=>[(7,vI v1)]) [0,1,2,3,4,5] 24) (.aC 0 (.ix 3276 aK.row p5.aW p3 fun e2=>.call 3278 (IC p4 e2.state p1) fun r1=>.us [(4,3276),(8,3278)] (.ite 3270 (r1 == p6) (.sel 3271 (.ret p3)) (.sel 3271 (.aC 0 (.call 3280 (ID p5 p3 (-2)) fun r2=>.use 2 3280 (.ret r2.1))))))) fun v1=>.aC 0 (.call 3282 (ID p5 v1 p1) fun r3=>.use 3 3282 (.ite 3272 r3.2 (.sel 3272 (.ret (e1,r3.1))) (.sel 3272 (.ret (e1,p3)))))))
theorem IE (p1:Int) (p2:List Int) (p3:Int) (p4:ay) (p5:cx) (p6:Int) (res:(List Int)×Int) (hd:ZN p1 p2 p3 p4 p5 p6=some res):cV C0 155 [vI p1,.ptr 0 0 0,.ptr 1 0 0,.ptr 2 0 0,.ptr 3 0 0,.ptr 4 0 0] [(0,.af 1 [[.aU 5 (ue zb p2)]]),(1,.af 1 [[vI p3]]),(2,.af 7 [zj (ay.row p4)]),(3,.af 3 [zj (cx.row p5)]),(4,.af 1 [[vI p6]]),(5,.aV 1 p2.length)] 6 (.tuple []) [(0,.af 1 [[.aU 5 (ue zb res.1)]]),(1,.af 1 [[vI res.2]]),(2,.af 7 [zj (ay.row p4)]),(3,.af 3 [zj (cx.row p5)]),(4,.af 1 [[vI p6]]),(5,.aV 1 res.1.length)] 0:=
 aB.dn (R:=fun res=>.tuple []) (H:=fun res=>[(0,.af 1 [[.aU 5 (ue zb res.1)]]),(1,.af 1 [[vI res.2]]),(2,.af 7 [zj (ay.row p4)]),(3,.af 3 [zj (cx.row p5)]),(4,.af 1 [[vI p6]]),(5,.aV 1 res.1.length)]) (zms p1 p2 p3 p4 p5 p6) (.exp rfl rfl (.exp rfl rfl (.exp rfl rfl (.exp rfl rfl (.exp rfl rfl (.exp rfl rfl .nil)))))) (fun _=>(.exp rfl rfl (.exp rfl rfl (.exp rfl rfl (.exp rfl rfl (.exp rfl rfl (.exp rfl rfl .nil))))))) (by kernel_rfl) (fun _=>by kernel_rfl) (by kernel_rfl) (aB.aD hd (by kernel_rfl))
noncomputable def JH (c:ay) (zw:Int) (cX:List Int):Option ((List Int)×Int):=
 (ub (vG c zw) fun r1=>(bif (r1.2 == 1) then some ([],1) else (ub (aH (σ:=Unit) (ρ:=Unit) (cX.length:Int) (fun i1 s1=>(ub (zf cX (i1:Int)) fun e1=>(ub (bif decide (e1 < (-1)) then some true else some (decide ((c.aJ.length:Int)≤e1))) fun v1=>(bif v1 then some (.inr ()) else some (.inl ()))))) ()) (ur (fun (s1:Unit)=>(ub (bif (r1.2 == 0) then some (decide (4000 < (cX.length:Int))) else some true) fun v2=>(bif v2 then some ([],3) else (ub (XC c r1.1) fun r2=>(ub (Qk r1.1 r2) fun r3=>(ub (α:=(List Int) ⊕ Unit) (ub (aH (σ:=(List Int)×Int) (ρ:=(List Int) ⊕ Unit) (cX.length:Int) (fun i2 s2=>(ub (zf cX (i2:Int)) fun e2=>(ub (zf r1.1.aW s2.2) fun e3=>(bif (e3.state.day == c.bl) then some (.inr (.inl s2.1)) else (ub (ub (iter (σ:=(List Int)×Int) (ρ:=(List Int)×Int) (fun s3=>(ub (ub (zf r3 s3.2) fun e4=>(bif (e4 == (-2)) then some false else some (decide ((s3.1.length:Int)≤4000)))) fun v3=>(bif v3 then (ub (zf r3 s3.2) fun e5=>(ub (ZN e5 s3.1 s3.2 c r1.1 zw) fun r4=>some (.inl (r4.1,r4.2)))) else some (.inr (s3.1,s3.2))))) (s2.1,s2.2)) (fun (y2:(List Int)×Int)=>some (y2.1,y2.2))) fun (v4:(List Int)×Int)=>(ub (ub (zf r1.1.aW v4.2) fun e6=>(ub (QY c e6.state e2) fun r5=>(bif (r5 == zw) then some (v4.1,v4.2) else (ub (ZN e2 v4.1 v4.2 c r1.1 zw) fun r6=>some (r6.1,r6.2))))) fun (v5:(List Int)×Int)=>(bif decide (4000 < (v5.1.length:Int)) then some (.inr (.inr ())) else some (.inl (v5.1,v5.2))))))))) ([],0)) (ur (fun (s2:(List Int)×Int)=>some (.inl s2.1)) (ur (fun (y3:(List Int))=>some (.inl y3)) (fun (y4:Unit)=>some (.inr ()))))) (ur (fun (v6:(List Int))=>some (v6,0)) (fun (y5:Unit)=>some ([],3))))))))) (fun (y1:Unit)=>some ([],1))))))
noncomputable def ziP (c:ay) (zw:Int) (cX:List Int):aB ((List Int)×Int):=
 .aC 1 (.call 3324 (zkt c zw) fun r1=>.use 2 3324 (.ite 3162 (r1.2 == 1) (.sel 3162 (.ret ([],1))) (.sel 3162 (.aC 0 (.ln 3358 zb cX (.use 1 3358 (.aH (σ:=Unit) (ρ:=Unit) 3164 28 (cX.length:Int) () (.e [2,3,4,8,9,26,27] (fun _=>[]) [0,1,10] 18) (fun i1 s1=>.sel 3164 (.aC 0 (.ix 3326 zb cX (i1:Int) fun e1=>.use 0 3326 (.cut (β:=Bool) 1 (.e [2,3,4,8,9,26,27,28] (fun v1=>[(40,vB v1)]) [0,1,10] 31) (.aC 0 (.ite 3166 (decide (e1 < (-1))) (.use 3 3166 (.ret true)) (.use 3 3166 (.ln 3328 bq.row c.aJ (.use 6 3328 (.ret (decide ((c.aJ.length:Int)≤e1)))))))) fun v1=>.ite 3168 v1 (.sel 3168 (.ret (.inr ()))) (.sel 3168 (.ret (.inl ()))))))) fun os1=>.case os1 (fun s1=>.sel 3164 (.cut (β:=Bool) 2 (.e [2,3,4,8] (fun v2=>[(48,vB v2)]) [0,1,10] 26) (.aC 0 (.ite 3170 (r1.2 == 0) (.use 3 3171 (.ln 3330 zb cX (.use 4 3330 (.ret (decide (4000 < (cX.length:Int))))))) (.use 3 3171 (.ret true)))) fun v2=>.ite 3172 v2 (.sel 3172 (.ret ([],3))) (.sel 3172 (.aC 0 (.call 3332 (IB c r1.1) fun r2=>.call 3334 (zg9 r1.1 r2) fun r3=>.us [(3,3332),(4,3334)] (.eu (β:=(List Int)) (γ:=Unit) 4 (.k [13] (fun _=>[]) [] (fun v6=>[(32,.af 1 [[.aU 40 (ue zb v6)]]),(40,.aV 1 v6.length)]) 41 fun _=>(.exp rfl rfl (.exp rfl rfl .nil))) (.aC 0 (.ln 3356 zb cX (.use 1 3356 (.cA 1 [Jw 32 1 0 0] (.aH (σ:=(List Int)×Int) (ρ:=(List Int) ⊕ Unit) 3218 57 (cX.length:Int) ([],0) (.k [3,4,8,12,13,14,15,55,56] (fun _=>[]) [0,1,10] (fun s2=>[(32,.af 1 [[.aU 40 (ue zb s2.1)]]),(33,.af 1 [[vI s2.2]]),(40,.aV 1 s2.1.length)]) 41 fun _=>(.exp rfl rfl (.exp rfl rfl (.exp rfl rfl .nil)))) (fun i2 s2=>.sel 3218 (.aC 0 (.ix 3336 zb cX (i2:Int) fun e2=>.use 0 3336 (.aC 0 (.ix 3338 aK.row r1.1.aW s2.2 fun e3=>.use 3 3338 (.ite 3308 (e3.state.day == c.bl) (.sel 3308 (.ret (.inr (.inl s2.1)))) (.sel 3308 (.cut (β:=(List Int)×Int) 1 (.k [3,4,8,12,13,14,15,55,56,57,17] (fun _=>[]) [0,1,10] (fun v4=>[(32,.af 1 [[.aU 40 (ue zb v4.1)]]),(33,.af 1 [[vI v4.2]]),(40,.aV 1 v4.1.length)]) 55 fun _=>(.exp rfl rfl (.exp rfl rfl (.exp rfl rfl .nil)))) (.iter (σ:=(List Int)×Int) (ρ:=(List Int)×Int) (s2.1,s2.2) (.k [3,4,8,12,13,14,15,55,56,57,17] (fun _=>[]) [0,1,10] (fun s3=>[(32,.af 1 [[.aU 40 (ue zb s3.1)]]),(33,.af 1 [[vI s3.2]]),(40,.aV 1 s3.1.length)]) 55 fun _=>(.exp rfl rfl (.exp rfl rfl (.exp rfl rfl .nil)))) (fun s3=>.cut (β:=Bool) 2 (.e [3,4,8,12,13,14,15,55,56,57,17] (fun v3=>[(80,vB v3)]) [0,1,10,32,33,40] 65) (.aC 0 (.ix 3340 zb r3 s3.2 fun e4=>.ite 3316 (e4 == (-2)) (.us [(2,3340),(6,3317)] (.ret false)) (.us [(2,3340),(6,3317)] (.ln 3342 zb s3.1 (.use 7 3342 (.ret (decide ((s3.1.length:Int)≤4000)))))))) fun v3=>.ite 3318 v3 (.sel 3318 (.aC 0 (.ix 3344 zb r3 s3.2 fun e5=>.b1 3346 (ZN e5 s3.1 s3.2 c r1.1 zw) (fun r4=>.c [32,33,0,10,1,40] 6 (.tuple []) [(32,.af 1 [[.aU 40 (ue zb r4.1)]]),(33,.af 1 [[vI r4.2]]),(40,.aV 1 r4.1.length)] 0) (fun r4 l6=>(ze (IE e5 s3.1 s3.2 c r1.1 zw r4 l6) [32,33,0,10,1,40] 70 (.keep (.keep (.drop rfl rfl (.drop rfl rfl (.drop rfl rfl (.keep .nil)))))) (bt (bt (bt (bt (bt (bt bg)))))) (bt (bt (bt bg))))) fun r4=>.us [(3,3344),(5,3346)] (.ret (.inl (r4.1,r4.2)))))) (.sel 3318 (.ret (.inr (s3.1,s3.2))))) fun y2=>.ret (y2.1,y2.2)) fun v4=>.cut (β:=(List Int)×Int) 1 (.k [3,4,8,12,13,14,15,55,56,57] (fun _=>[]) [0,1,10] (fun v5=>[(32,.af 1 [[.aU 40 (ue zb v5.1)]]),(33,.af 1 [[vI v5.2]]),(40,.aV 1 v5.1.length)]) 66 fun _=>(.exp rfl rfl (.exp rfl rfl (.exp rfl rfl .nil)))) (.aC 0 (.ix 3348 aK.row r1.1.aW v4.2 fun e6=>.call 3350 (IC c e6.state e2) fun r5=>.us [(4,3348),(8,3350)] (.ite 3320 (r5 == zw) (.sel 3321 (.ret (v4.1,v4.2))) (.sel 3321 (.aC 0 (.b1 3352 (ZN e2 v4.1 v4.2 c r1.1 zw) (fun r6=>.c [32,33,0,10,1,40] 6 (.tuple []) [(32,.af 1 [[.aU 40 (ue zb r6.1)]]),(33,.af 1 [[vI r6.2]]),(40,.aV 1 r6.1.length)] 0) (fun r6 nM=>(ze (IE e2 v4.1 v4.2 c r1.1 zw r6 nM) [32,33,0,10,1,40] 68 (.keep (.keep (.drop rfl rfl (.drop rfl rfl (.drop rfl rfl (.keep .nil)))))) (bt (bt (bt (bt (bt (bt bg)))))) (bt (bt (bt bg))))) fun r6=>.use 2 3352 (.ret (r6.1,r6.2)))))))) fun v5=>.aC 0 (.ln 3354 zb v5.1 (.use 1 3354 (.ite 3322 (decide (4000 < (v5.1.length:Int))) (.sel 3322 (.ret (.inr (.inr ())))) (.sel 3322 (.ret (.inl (v5.1,v5.2))))))))))))))) fun os2=>.case os2 (fun s2=>.sel 3218 (.ret (.inl s2.1))) fun zy3=>.case zy3 (fun y3=>.ret (.inl y3)) fun y4=>.ret (.inr ())))))) fun o_v6=>.case o_v6 (fun v6=>.ret (v6,0)) fun y5=>.ret ([],3))))))) fun y1=>.ret ([],1))))))))
theorem ziQ (c:ay) (zw:Int) (cX:List Int) (res:(List Int)×Int) (hd:JH c zw cX=some res):aL C0 154 [.agg (ay.row c),.int .i64 zw,.slice (ue zb cX)] (.tuple [.slice (ue zb res.1),.int .i64 res.2]):=
 aB.pure (iv:=fun res=>.tuple [.slice (ue zb res.1),.int .i64 res.2]) (ziP c zw cX) (by kernel_rfl) (aB.aD hd (by kernel_rfl))
noncomputable def yI (c:ay) (s:ak) (zw:Int):Option Bool:=
 (ub (bif decide (zw < 0) then some true else (bif decide (c.aR≤zw) then some true else (ub (jP c s) fun r1=>some (!r1)))) fun v1=>(bif v1 then some false else (ub (aH (σ:=Unit) (ρ:=Unit) (s.aI.length:Int) (fun i1 s1=>(ub (zf s.aI (i1:Int)) fun e1=>(ub (ub (zf c.aA (i1:Int)) fun e2=>(bif e2.final then (bif (e1.aN == 4) then some (e1.bw == zw) else some false) else some false)) fun v2=>(bif v2 then some (.inr ()) else some (.inl ()))))) ()) (ur (fun (s1:Unit)=>some false) (fun (y1:Unit)=>some true)))))
noncomputable def ziR (c:ay) (s:ak) (zw:Int):aB Bool:=
 .cut (β:=Bool) 3 (.e [2,3,4] (fun v1=>[(22,vB v1)]) [0,1] 17) (.aC 0 (.ite 3384 (decide (zw < 0)) (.use 3 3384 (.f1 3398 (.g true) (rfl:true=true) (.use 9 3398 (.ret true)))) (.ite 3386 (decide (c.aR≤zw)) (.us [(3,3384),(9,3386)] (.ret true)) (.call 3400 (vl c s) fun r1=>.us [(3,3384),(9,3386),(11,3400)] (.ret (!r1)))))) fun v1=>.ite 3388 v1 (.sel 3388 (.ret false)) (.sel 3388 (.aC 0 (.ln 3408 aj.row s.aI (.use 2 3408 (.aH (σ:=Unit) (ρ:=Unit) 3390 26 (s.aI.length:Int) () (.e [2,3,24,25] (fun _=>[]) [0] 21) (fun i1 s1=>.sel 3390 (.aC 0 (.ix 3402 aj.row s.aI (i1:Int) fun e1=>.use 1 3402 (.cut (β:=Bool) 1 (.e [2,3,24,25,26] (fun v2=>[(47,vB v2)]) [0,25] 45) (.aC 0 (.ix 3404 aS.row c.aA (i1:Int) fun e2=>.ite 3392 e2.final (.ite 3394 (e1.aN == 4) (.us [(3,3404),(7,3392),(12,3394)] (.ret (e1.bw == zw))) (.us [(3,3404),(7,3392),(12,3394)] (.ret false))) (.us [(3,3404),(7,3392)] (.f1 3406 (.g false) (rfl:false=false) (.use 12 3406 (.ret false)))))) fun v2=>.ite 3396 v2 (.sel 3396 (.ret (.inr ()))) (.sel 3396 (.ret (.inl ()))))))) fun os1=>.case os1 (fun s1=>.sel 3390 (.ret false)) fun y1=>.ret true)))))
theorem IF (c:ay) (s:ak) (zw:Int) (res:Bool) (hd:yI c s zw=some res):aL C0 141 [.agg (ay.row c),.agg (ak.row s),.int .i64 zw] (.bool res):=
 aB.pure (iv:=fun res=>.bool res) (ziR c s zw) (by kernel_rfl) (aB.aD hd (by kernel_rfl))
noncomputable def Ys (p1:ak) (p2:ay) (p3:Int):Option Int:=
 (ub (yI p2 p1 p3) fun r1=>(bif r1 then some 3 else some 2))
noncomputable def zmt (p1:ak) (p2:ay) (p3:Int):aB Int:=
 .aC 1 (.call 3412 (IF p2 p1 p3) fun r1=>.use 3 3412 (.ite 3410 r1 (.sel 3410 (.ret 3)) (.sel 3410 (.ret 2))))
theorem zmu (p1:ak) (p2:ay) (p3:Int) (res:Int) (hd:Ys p1 p2 p3=some res):cV C0 342 [.ax (.agg [.int .i64 p1.day,.slice (ue zb p1.aE),.slice (ue zh p1.used),.slice (ue aj.row p1.aI)]),.ptr 0 0 0,.ptr 1 0 0] [(0,.af 7 [zj (ay.row p2)]),(1,.af 1 [[vI p3]])] 2 (vI res) [(0,.af 7 [zj (ay.row p2)]),(1,.af 1 [[vI p3]])] 0:=
 aB.dn (R:=fun res=>vI res) (H:=fun res=>[(0,.af 7 [zj (ay.row p2)]),(1,.af 1 [[vI p3]])]) (zmt p1 p2 p3) (.exp rfl rfl (.exp rfl rfl .nil)) (fun _=>(.exp rfl rfl (.exp rfl rfl .nil))) (by kernel_rfl) (fun _=>by kernel_rfl) (by kernel_rfl) (aB.aD hd (by kernel_rfl))
noncomputable def Yu (p1:ak) (p2:ay) (p3:Int):Option Int:=
 (ub (yI p2 p1 p3) fun r1=>(bif r1 then some 3 else some 2))
noncomputable def zmv (p1:ak) (p2:ay) (p3:Int):aB Int:=
 .aC 1 (.call 3418 (IF p2 p1 p3) fun r1=>.use 3 3418 (.ite 3416 r1 (.sel 3416 (.ret 3)) (.sel 3416 (.ret 2))))
theorem zmw (p1:ak) (p2:ay) (p3:Int) (res:Int) (hd:Yu p1 p2 p3=some res):cV C0 342 [.agg (zj (ak.row p1)),.ptr 0 0 0,.ptr 1 0 0] [(0,.af 7 [zj (ay.row p2)]),(1,.af 1 [[vI p3]])] 2 (vI res) [(0,.af 7 [zj (ay.row p2)]),(1,.af 1 [[vI p3]])] 0:=
 aB.dn (R:=fun res=>vI res) (H:=fun res=>[(0,.af 7 [zj (ay.row p2)]),(1,.af 1 [[vI p3]])]) (zmv p1 p2 p3) (.exp rfl rfl (.exp rfl rfl .nil)) (fun _=>(.exp rfl rfl (.exp rfl rfl .nil))) (by kernel_rfl) (fun _=>by kernel_rfl) (by kernel_rfl) (aB.aD hd (by kernel_rfl))
noncomputable def Yv (p1:List ak) (p2:ay) (p3:Int):Option Int:=
 (ub (zf p1 0) fun e1=>(ub (Ys e1 p2 p3) fun r1=>(ub (yr p1 1 (p1.length:Int)) fun e2=>(ub (aH (σ:=Unit) (ρ:=Unit) (e2.length:Int) (fun i1 s1=>(ub (zf e2 (i1:Int)) fun e3=>(ub (Yu e3 p2 p3) fun r2=>(bif (r2 == r1) then some (.inl ()) else some (.inr ()))))) ()) (ur (fun (s1:Unit)=>some r1) (fun (y1:Unit)=>some 0))))))
noncomputable def zmx (p1:List ak) (p2:ay) (p3:Int):aB Int:=
 .aC 1 (.ix 3422 ak.row p1 0 fun e1=>.b1 3424 (Ys e1 p2 p3) (fun r1=>.c [0,1] 2 (vI r1) [] 0) (fun r1 ct=>(ze (zmu e1 p2 p3 r1 ct) [0,1] 7 (.drop rfl rfl (.drop rfl rfl .nil)) (bt (bt bg)) bg)) fun r1=>.us [(2,3422),(4,3424)] (.aC 0 (.b1 3426 (yr p1 1 (p1.length:Int)) (fun e2=>.s (ue ak.row e2)) (fun e2 eA=>(KU ak.row 4 (fun _=>rfl) eA)) fun e2=>.use 1 3426 (.ln 3432 ak.row e2 (.use 2 3432 (.aH (σ:=Unit) (ρ:=Unit) 3414 16 (e2.length:Int) () (.e [1,5,14,15] (fun _=>[]) [0,1] 13) (fun i1 s1=>.sel 3414 (.aC 0 (.ix 3428 ak.row e2 (i1:Int) fun e3=>.use 0 3428 (.aC 0 (.b1 3430 (Yu e3 p2 p3) (fun r2=>.c [0,1] 2 (vI r2) [] 0) (fun r2 bZ=>(ze (zmw e3 p2 p3 r2 bZ) [0,1] 20 (.drop rfl rfl (.drop rfl rfl .nil)) (bt (bt bg)) bg)) fun r2=>.use 2 3430 (.ite 3420 (r2 == r1) (.sel 3421 (.ret (.inl ()))) (.sel 3421 (.ret (.inr ()))))))))) fun os1=>.case os1 (fun s1=>.sel 3414 (.ret r1)) fun y1=>.ret 0))))))
theorem zmy (p1:List ak) (p2:ay) (p3:Int) (res:Int) (hd:Yv p1 p2 p3=some res):cV C0 346 [.ax (.slice (ue ak.row p1)),.func 342 [] [.ptr 0 0 0,.ptr 1 0 0]] [(0,.af 7 [zj (ay.row p2)]),(1,.af 1 [[vI p3]])] 2 (vI res) [(0,.af 7 [zj (ay.row p2)]),(1,.af 1 [[vI p3]])] 0:=
 aB.dn (R:=fun res=>vI res) (H:=fun res=>[(0,.af 7 [zj (ay.row p2)]),(1,.af 1 [[vI p3]])]) (zmx p1 p2 p3) (.exp rfl rfl (.exp rfl rfl .nil)) (fun _=>(.exp rfl rfl (.exp rfl rfl .nil))) (by kernel_rfl) (fun _=>by kernel_rfl) (by kernel_rfl) (aB.aD hd (by kernel_rfl))
noncomputable def ZO (c:ay) (b:aF) (zw:Int):Option Int:=
 (ub (ub (JF c b) fun r1=>(bif r1 then (bif decide (zw < 0) then some true else some (decide (c.aR≤zw))) else some true)) fun v1=>(bif v1 then some 0 else (ub (Yv b.states c zw) fun r2=>some r2)))
noncomputable def ziS (c:ay) (b:aF) (zw:Int):aB Int:=
 .cut (β:=Bool) 3 (.e [3,4,5] (fun v1=>[(20,vB v1)]) [0,1,2] 18) (.aC 0 (.call 3434 (Ij c b) fun r1=>.ite 3378 r1 (.ite 3380 (decide (zw < 0)) (.us [(2,3434),(5,3379),(9,3380)] (.ret true)) (.us [(2,3434),(5,3379),(9,3380)] (.ret (decide (c.aR≤zw))))) (.us [(2,3434),(5,3379)] (.f1 3436 (.g true) (rfl:true=true) (.use 9 3436 (.ret true)))))) fun v1=>.ite 3382 v1 (.sel 3382 (.ret 0)) (.sel 3382 (.aC 0 (.b1 3438 (Yv b.states c zw) (fun r2=>.c [0,2] 2 (vI r2) [] 0) (fun r2 bZ=>(ze (zmy b.states c zw r2 bZ) [0,2] 21 (.drop rfl rfl (.drop rfl rfl .nil)) (bt (bt bg)) bg)) fun r2=>.use 3 3438 (.ret r2))))
theorem ziT (c:ay) (b:aF) (zw:Int) (res:Int) (hd:ZO c b zw=some res):aL C0 341 [.agg (ay.row c),.agg (aF.row b),.int .i64 zw] (.int .i64 res):=
 aB.pure (iv:=fun res=>.int .i64 res) (ziS c b zw) (by kernel_rfl) (aB.aD hd (by kernel_rfl))
noncomputable def vn (c:ay) (zw:Int) (cj:Int) (cX:List Int):Option Bool:=
 (ub (xO) fun r1=>(ub (ub (Ym c) fun r2=>(bif r2 then (bif decide (20 < (cX.length:Int)) then some true else some (decide (c.aR < 1))) else some true)) fun v1=>(bif v1 then some r1 else (ub (vi .i64 (IntKind.i64.wrap cj) c.aR) fun e1=>(ub (vi .i64 (IntKind.i64.wrap zw) c.aR) fun e2=>(ub (qy c) fun r3=>(ub (QX c e2 ({state:=r3.1,own:=true}:aK)) fun r4=>(ub (JH c e2 cX) fun r5=>(ub (bif (r3.2 == 0) then (bif (r4.2 == 0) then (bif (r5.2 == 0) then some (!r4.1) else some true) else some true) else some true) fun v2=>(bif v2 then some r1 else (ub (kH c r5.1 e1) fun r6=>(ub (vF c e1 r6.1) fun r7=>(bif (r7.2 == 0) then (ub (bif r1 then (bif (r6.2 == 0) then (ub (ZO c r7.1 e2) fun r8=>some (!(r8 == 3))) else some false) else some false) fun v4=>some v4) else (ub (bif r1 then (bif (r7.2 == 3) then some true else some (!(r6.2 == 0))) else some false) fun v3=>some v3))))))))))))))
noncomputable def Va (c:ay) (zw:Int) (cj:Int) (cX:List Int):aB Bool:=
 .aC 1 (.call 3440 TY fun r1=>.use 0 3440 (.cut (β:=Bool) 2 (.e [1,2,3,4,9] (fun v1=>[(35,vB v1)]) [0] 17) (.aC 0 (.call 3442 (T3 c) fun r2=>.ite 2334 r2 (.ite 2336 (decide (20 < (cX.length:Int))) (.us [(1,3442),(4,2335)] (.ln 3444 zb cX (.us [(5,3444),(9,2336)] (.ret true)))) (.us [(1,3442),(4,2335)] (.ln 3446 zb cX (.us [(5,3446),(9,2336)] (.ret (decide (c.aR < 1))))))) (.us [(1,3442),(4,2335)] (.f1 3448 (.g true) (rfl:true=true) (.use 9 3448 (.ret true)))))) fun v1=>.ite 2338 v1 (.sel 2338 (.ret r1)) (.sel 2338 (.aC 0 (.b1 3450 (vi .i64 (IntKind.i64.wrap cj) c.aR) (fun e1=>.v (.int .i64 e1)) (fun e1 dU=>(WV dU)) fun e1=>.b1 3452 (vi .i64 (IntKind.i64.wrap zw) c.aR) (fun e2=>.v (.int .i64 e2)) (fun e2 eA=>(WV eA)) fun e2=>.us [(4,3450),(9,3452)] (.aC 0 (.call 3454 (QP c) fun r3=>.use 1 3454 (.aC 0 (.call 3456 (zkr c e2 ({state:=r3.1,own:=true}:aK)) fun r4=>.use 4 3456 (.aC 0 (.call 3458 (ziQ c e2 cX) fun r5=>.use 3 3458 (.cut (β:=Bool) 2 (.e [4,9,10,11,16] (fun v2=>[(80,vB v2)]) [0,34] 70) (.aC 0 (.ite 3360 (r3.2 == 0) (.ite 3362 (r4.2 == 0) (.ite 3364 (r5.2 == 0) (.us [(3,3361),(7,3363),(11,3365)] (.ret (!r4.1))) (.us [(3,3361),(7,3363),(11,3365)] (.ret true))) (.us [(3,3361),(7,3363)] (.f1 3460 (.g true) (rfl:true=true) (.use 11 3460 (.ret true))))) (.use 3 3361 (.f1 3464 (.g true) (rfl:true=true) (.use 7 3464 (.f1 3462 (.g true) (rfl:true=true) (.use 11 3462 (.ret true)))))))) fun v2=>.ite 3366 v2 (.sel 3366 (.ret r1)) (.sel 3366 (.aC 0 (.call 3466 (Eo c r5.1 e1) fun r6=>.use 3 3466 (.aC 0 (.call 3468 (Ke c e1 r6.1) fun r7=>.use 3 3468 (.ite 3368 (r7.2 == 0) (.sel 3369 (.cut (β:=Bool) 1 (.e [] (fun v4=>[(8,vB v4)]) [0,34,86] 104) (.aC 0 (.ite 3374 r1 (.ite 3376 (r6.2 == 0) (.call 3470 (ziT c r7.1 e2) fun r8=>.us [(2,3374),(6,3376),(9,3470)] (.ret (!(r8 == 3)))) (.us [(2,3374),(6,3376)] (.ret false))) (.use 2 3374 (.f1 3472 (.g false) (rfl:false=false) (.use 6 3472 (.ret false)))))) fun v4=>.ret v4)) (.sel 3369 (.cut (β:=Bool) 1 (.e [] (fun v3=>[(8,vB v3)]) [0,34,86] 101) (.aC 0 (.ite 3370 r1 (.ite 3372 (r7.2 == 3) (.us [(2,3370),(5,3372)] (.ret true)) (.us [(2,3370),(5,3372)] (.ret (!(r6.2 == 0))))) (.use 2 3370 (.ret false)))) fun v3=>.ret v3))))))))))))))))))))
theorem Vb (c:ay) (zw:Int) (cj:Int) (cX:List Int) (res:Bool) (hd:vn c zw cj cX=some res):aL C0 327 [.agg (ay.row c),.int .u8 zw,.int .u8 cj,.slice (ue zb cX)] (.bool res):=
 aB.pure (iv:=fun res=>.bool res) (Va c zw cj cX) (by kernel_rfl) (aB.aD hd (by kernel_rfl))
end Go.Proofs.YtgpojcfkanjabaaGreatDoor
namespace Go.Proofs.YtgpojcfkanjabaaGreatDoor
set_option linter.unusedSimpArgs false
set_option linter.unusedVariables false
set_option maxRecDepth 100000
theorem zhc (a b:Int):∃ r,iter (σ:=Int×Int) (ρ:=Int) (fun s2=>(bif (s2.2 == 0) then some (.inr s2.1) else (ub (vi .u64 s2.1 s2.2) fun e2=>some (.inl (s2.2,e2))))) (a,b)=some r:=by
 have:=HN (f:=fun s2:Int×Int=>(bif (s2.2 == 0) then some (.inr s2.1) else (ub (vi .u64 s2.1 s2.2) fun e2=>some (.inl (s2.2,e2))))) (fun _=>True) (fun _:Int=>True) (fun s=>s.2.natAbs) (fun s _=>by
  by_cases h:s.2=0
  ·exact ⟨.inr s.1,by simp [h],trivial⟩
  ·refine ⟨.inl (s.2,s.1.tmod s.2),by simp [beq_eq_false_iff_ne.2 h,h,vi],trivial,?_⟩
   show (s.1.tmod s.2).natAbs < s.2.natAbs
   rw [Int.natAbs_tmod]
   exact Nat.mod_lt _ (by omega)) (a,b) trivial
 obtain ⟨r,h,_⟩:=this
 exact ⟨r,h⟩
theorem zaQ (l:List Int) (hl:l.length < 1000):∃ r,kE l=some r:=by
 unfold kE
 obtain ⟨o,h1,h2⟩:=wA (n:=l.length) (s0:=(0:Int)) (f:=(fun i1 s1=>(ub (ub (zf l (i1:Int)) fun e1=>(ub (iter (σ:=Int×Int) (ρ:=Int) (fun s2=>(bif (s2.2 == 0) then some (.inr s2.1) else (ub (vi .u64 s2.1 s2.2) fun e2=>some (.inl (s2.2,e2))))) (s1,e1)) (fun (y1:Int)=>some y1))) fun (v1:Int)=>some (.inl v1)))) (fun _ _=>True) (fun _:Unit=>False) (by omega) trivial (fun i s hi _=>by
  obtain ⟨r,hr⟩:=zhc s l[i]
  exact ⟨.inl r,by simp only [zV,ua hi,Option.bind_some,hr],trivial⟩)
 rw [h1]
 cases o with
 | inl s=>exact ⟨s,rfl⟩
 | inr r=>exact h2.elim
theorem Ql (n:Int):∃ r,wL n=some r:=by
 unfold wL;simp only [zt];exact ⟨_,rfl⟩
noncomputable def Ew (r:bu):Bool:=(jr r).getD false
theorem XE (r:bu):jr r=some (Ew r):=by
 have:∃ b,jr r=some b:=by
  unfold jr
  obtain ⟨a,ha⟩:=Ql r.num
  obtain ⟨b,hb⟩:=Ql r.den
  obtain ⟨g,hg⟩:=zaQ [a,b] (by simp)
  simp only [ha,hb,hg,zt,aX]
  exact ⟨_,rfl⟩
 obtain ⟨b,hb⟩:=this
 unfold Ew;rw [hb];rfl
def IG (x:Option (Int×Bool)):Bool:=(x.getD (0,false)).2
theorem zkv {x:Option (Int×Bool)} {r:Int×Bool} (h:x=some r):x=some (r.1,IG x):=by subst h;rfl
noncomputable def Ex (l:List bX):Bool:=IG (jy l)
theorem Yw (t:List bX) (i:Nat) (hi:i < t.length) (ht:t.length < 1000):∃ b,wM t i=some b:=by
 unfold wM
 have hs:yr t 0 (i:Int)=some (t.take i):=by
  unfold yr;rw [if_pos ⟨by omega,by omega,by omega⟩];simp
 have hf:aH (σ:=Unit) (ρ:=Unit) ((t.take i).length:Int) (fun i1 s1=>(ub (zf (t.take i) (i1:Int)) fun e3=>(bif (e3.name.toList == t[i].name.toList) then some (.inr ()) else some (.inl ())))) ()=some (match (uo (t.take i).length).find? (fun j=>!(match (t.take i)[j]? with | some e=>!(e.name.toList == t[i].name.toList) | none=>true)) with | none=>.inl () | some j=>.inr ()):=by
  refine wB _ (fun _=>()) (by simp;omega) (fun j hj => ?_)
  simp only [zV,ua hj,aX]
  cases ((t.take i)[j].name.toList == t[i].name.toList)<;>rfl
 rw [zq (ua hi)]
 simp only [aX]
 rw [hs]
 simp only [aX]
 rw [hf]
 simp only [XE,zt,aX,Xx]
 split
 all_goals simp only [uq,uB,zt]
 ·by_cases hb:0≤t[i].base∧t[i].base < t.length
  ·obtain ⟨h1,h2⟩:=qE hb.1 hb.2
   simp only [h2,aX,zt]
   exact ⟨_,rfl⟩
  ·by_cases h1:0≤t[i].base
   ·have:¬ t[i].base < t.length:=fun h=>hb ⟨h1,h⟩
    simp only [h1,this,decide_true,decide_false,cg,ck,aX,zt]
    exact ⟨_,rfl⟩
   ·simp only [h1,decide_false,ck,aX,zt]
    exact ⟨_,rfl⟩
 ·exact ⟨_,rfl⟩
theorem Yx (l:List bX) (hl:l.length < 1000):∃ k,jy l=some (k,Ex l):=by
 have:∃ r,jy l=some r:=by
  unfold jy
  obtain ⟨o,h1,h2⟩:=wA (n:=l.length) (s0:=()) (f:=(fun i1 s1=>(ub (wM l (i1:Int)) fun r1=>(bif r1 then some (.inl ()) else some (.inr (i1:Int)))))) (fun _ _=>True) (fun _:Int=>True) (by omega) trivial (fun i s hi _=>by
   obtain ⟨b,hb⟩:=Yw l i hi hl
   cases b with
   | true=>exact ⟨.inl (),by simp [hb],trivial⟩
   | false=>exact ⟨.inr i,by simp [hb],trivial⟩)
  rw [h1]
  cases o with
  | inl s=>exact ⟨_,rfl⟩
  | inr r=>exact ⟨_,rfl⟩
 obtain ⟨r,hr⟩:=this
 exact ⟨r.1,zkv hr⟩
def xY (nh:Nat) (r:Int):Bool:=decide (0≤r)&&decide (r < nh)
theorem XF (c:ay) (r:Int):js c r=some (xY c.aE.length r):=by
 simp only [js,zt,aX,xY,um]
noncomputable def Bd (r:bu):Bool:=decide (0 < r.num)&&Ew r
theorem Yy (r:bu):xF r=some (Bd r):=by
 simp only [xF,XE,zt,aX,Bd,um]
def Wh (r:bu):Bool:=r.num == 0&&(r.den == 1&&true)
noncomputable def Vc (nh nu:Nat) (aR:Int) (a:bq):Bool:=
 bif xY nh a.bM then
  (bif a.kind == 1 then (a.dh == 0&&(a.to == -1||xY nh a.to))&&(bif a.unit == -1 then Wh a.fD else (decide (0≤a.unit)&&(decide (a.unit < nu)&&Bd a.fD)))
  else (a.kind == 2||a.kind == 3)&&(xY nh a.dh&&(decide (0≤a.to)&&(decide (a.to < aR)&&(a.unit == -1&&Wh a.fD)))))
 else a.kind == 1&&(a.bM == -1&&(a.dh == 0&&((a.to == -1||xY nh a.to)&&(a.unit == -1&&Wh a.fD))))
theorem zfn (c:ay) (a:bq):vY c a=some (Vc c.aE.length c.bI.length c.aR a):=by
 simp only [vY,XF,Yy,kF,aX,zt,Vc,Wh]
 cases xY c.aE.length a.bM<;>cases (a.kind == 1)<;>cases (a.dh == 0)<;>cases (a.to == -1)<;>cases (xY c.aE.length a.to)<;>cases (a.unit == -1) <;>
  simp only [cg,ck,uh,ul,aX,uK,Bool.false_or,uk,uj,zt,um,Bool.cond_self,uI] <;>
  first | rfl | (cases (a.bM == -1)<;>rfl) | (cases (a.kind == 2)<;>rfl)
def kg (aR:Int) (hs:List Int):Bool:=hs.all fun h=>decide (0≤h)&&decide (h < aR)
theorem zmA (c:ay) (hp:c.aR < 4611686018427387904) (hl:c.aE.length < 4611686018427387904):V6 c=some (kg c.aR c.aE):=by
 unfold V6
 have hin:∀ (i:Nat) (hi:i < c.aE.length),(ub (α:=Unit ⊕ Unit) (ub (aH (σ:=Unit) (ρ:=Unit) c.aR (fun i2 s2=>(ub (zf c.aE (i:Int)) fun e1=>(bif (e1 == (i2:Int)) then some (.inr ()) else some (.inl ())))) ()) (ur (fun (s2:Unit)=>some (.inr ())) (fun (y1:Unit)=>some (.inl ())))) (ur (fun (v1:Unit)=>some (.inl ())) (fun (y2:Unit)=>some (.inr ())))) =
   some (bif decide (0≤c.aE[i])&&decide (c.aE[i] < c.aR) then (.inl ():Unit ⊕ Unit) else .inr ()):=fun i hi=>by
  obtain ⟨o,h1,h2⟩:=HM (n:=c.aR) (s0:=()) (f:=(fun i2 s2=>(ub (zf c.aE (i:Int)) fun e1=>(bif (e1 == (i2:Int)) then some (.inr ()) else some (.inl ()))))) (fun k _=>∀ j:Nat,j < k→c.aE[i]≠(j:Int)) (fun _:Unit=>0≤c.aE[i]∧c.aE[i] < c.aR) hp (fun j hj=>by omega) (fun k s hk hI=>by
   simp only [zV,ua hi,aX]
   by_cases he:c.aE[i]=(k:Int)
   ·exact ⟨.inr (),by simp [he],by show 0≤c.aE[i]∧c.aE[i] < c.aR;omega⟩
   ·refine ⟨.inl (),by rw [beq_eq_false_iff_ne.2 he];rfl,fun j hj => ?_⟩
    rcases uE j k with h | h
    ·exact hI j h
    ·obtain rfl:j=k:=by omega
     exact he)
  rw [h1]
  cases o with
  | inl s=>
   have:¬ (0≤c.aE[i]∧c.aE[i] < c.aR):=fun h=>h2 c.aE[i].toNat (by omega) (by omega)
   have hb:(decide (0≤c.aE[i])&&decide (c.aE[i] < c.aR))=false:=by
    rw [uw];simp only [ne_eq,uc,decide_eq_true_eq];exact this
   rw [hb];rfl
  | inr r=>
   have hb:(decide (0≤c.aE[i])&&decide (c.aE[i] < c.aR))=true:=by
    simp only [uc,decide_eq_true_eq];exact h2
   rw [hb];rfl
 rw [wB (fun i=>match c.aE[i]? with | some h=>decide (0≤h)&&decide (h < c.aR) | none=>true) (fun _=>()) hl (fun i hi=>by
  rw [hin i hi];simp only [ua hi])]
 cases hf:(uo c.aE.length).find? (fun j=>!(match c.aE[j]? with | some h=>decide (0≤h)&&decide (h < c.aR) | none=>true)) with
 | none=>
  simp only [aX,uq]
  have:kg c.aR c.aE=true:=ui.2 fun h hh=>by
   obtain ⟨i,hi,rfl⟩:=ut hh
   have:=kB hf i hi
   simpa only [ua hi] using this
  rw [this]
 | some k=>
  simp only [aX,uB]
  obtain ⟨h1,h2,_⟩:=kC hf
  have:kg c.aR c.aE=false:=by
   rw [uw]
   intro h
   have:=ui.1 h c.aE[k] (un h1)
   simp only [ua h1] at h2
   rw [h2] at this;cases this
  rw [this]
noncomputable def XG (bl:Int) (off:List Int):Bool:=((ub (aH (σ:=Int) (ρ:=Unit) (off.length:Int) (fun i2 s2=>(ub (zf off (i2:Int)) fun e2=>(ub (bif decide (e2≤s2) then some true else some (decide (bl≤e2))) fun v2=>(bif v2 then some (.inr ()) else some (.inl e2))))) (-1)) (ur (fun (s2:Int)=>some true) (fun (y2:Unit)=>some false)))).getD false
theorem zoe (bl:Int) (off:List Int) (hl:off.length < 4611686018427387904):(ub (aH (σ:=Int) (ρ:=Unit) (off.length:Int) (fun i2 s2=>(ub (zf off (i2:Int)) fun e2=>(ub (bif decide (e2≤s2) then some true else some (decide (bl≤e2))) fun v2=>(bif v2 then some (.inr ()) else some (.inl e2))))) (-1)) (ur (fun (s2:Int)=>some true) (fun (y2:Unit)=>some false)))=some (XG bl off):=by
 obtain ⟨o,h1,h2⟩:=wA (n:=off.length) (s0:=(-1:Int)) (f:=(fun i2 s2=>(ub (zf off (i2:Int)) fun e2=>(ub (bif decide (e2≤s2) then some true else some (decide (bl≤e2))) fun v2=>(bif v2 then some (.inr ()) else some (.inl e2)))))) (fun _ _=>True) (fun _:Unit=>True) hl trivial (fun i s hi _=>by
  simp only [zV,ua hi,aX,zt]
  cases (bif decide (off[i]≤s) then true else decide (bl≤off[i])) with
  | true=>exact ⟨.inr (),rfl,trivial⟩
  | false=>exact ⟨.inl _,rfl,trivial⟩)
 unfold XG
 rw [h1]
 cases o<;>rfl
noncomputable def je (c:ay):Bool:=
 !(decide (c.aR < 1))&&(!(decide (c.bl < 1))&&(!((c.aE.length:Int) == 0)&&(kg c.aR c.aE&&(Ex c.bI&&(c.aJ.all (Vc c.aE.length c.bI.length c.aR)&&XG c.bl c.off)))))
theorem ZP {α:Type} {l:List α} {f:Nat→Unit→Option (Unit ⊕ Unit)} (p:α→Bool) (hl:l.length < 4611686018427387904) (h:∀ (i:Nat) (hi:i < l.length),f i ()=some (bif p l[i] then .inl () else .inr ())) :
  aH (l.length:Int) f ()=some (bif l.all p then .inl () else .inr ()):=by
 rw [wB (fun i=>match l[i]? with | some x=>p x | none=>true) (fun _=>()) hl (fun i hi=>by rw [h i hi];simp only [ua hi])]
 cases hf:(uo l.length).find? (fun j=>!(match l[j]? with | some x=>p x | none=>true)) with
 | none=>
  have:l.all p=true:=ui.2 fun x hx=>by
   obtain ⟨i,hi,rfl⟩:=ut hx
   have:=kB hf i hi
   simpa only [ua hi] using this
  rw [this];rfl
 | some k=>
  obtain ⟨h1,h2,_⟩:=kC hf
  have:l.all p=false:=by
   rw [uw]
   intro h
   have:=ui.1 h l[k] (un h1)
   simp only [ua h1] at h2
   rw [h2] at this;cases this
  rw [this];rfl
theorem ziU (c:ay) (hp:c.aR < 4611686018427387904) (hh:c.aE.length < 4611686018427387904) (hu:c.bI.length < 1000) (ha:c.aJ.length < 1000) (ho:c.off.length < 4611686018427387904):JC c=some (je c):=by
 unfold JC
 obtain ⟨k,hk⟩:=Yx c.bI hu
 have rI:=ZP (l:=c.aJ) (f:=(fun i1 s1=>(ub (zf c.aJ (i1:Int)) fun e1=>(ub (vY c e1) fun r3=>(bif r3 then some (.inl ()) else some (.inr ())))))) (Vc c.aE.length c.bI.length c.aR) (by omega) (fun i hi=>by
  simp only [zV,ua hi,aX,zfn,zt])
 rw [zmA c hp hh,hk]
 simp only [aX]
 rw [rI]
 simp only [aX]
 rw [zoe c.bl c.off ho]
 simp only [aX,zt,je]
 cases decide (c.aR < 1)<;>cases decide (c.bl < 1)<;>cases ((c.aE.length:Int) == 0)<;>cases kg c.aR c.aE<;>cases Ex c.bI<;>cases c.aJ.all (Vc c.aE.length c.bI.length c.aR) <;>
  simp only [cg,ck,uh,ul,aX,uk,uj,uq,uB]
def vo (aJ:List bq) (a:Int):Bool:=match zf aJ a with
 | some e=>e.kind == 1&&e.bM == -1
 | none=>false
theorem II (c:ay) (a:Int):xx c a=some (vo c.aJ a):=by
 unfold xx vo
 by_cases h:0≤a∧a < c.aJ.length
 ·obtain ⟨h1,h2⟩:=qE h.1 h.2
  simp only [h2,h.1,h.2,decide_true,cg,aX,zt,um]
 ·rw [W8 h]
  by_cases h1:0≤a
  ·have:¬ a < c.aJ.length:=fun h2=>h ⟨h1,h2⟩
   simp only [h1,this,decide_true,decide_false,cg,ck,aX]
  ·simp only [h1,decide_false,ck,aX]
def Yz (nh:Nat) (aJ:List bq) (k:aS):Bool:=
 bif k.kind == 4 then k.bM == -1&&(k.need == 1&&(k.br == 0 && !k.final))
 else (xY nh k.bM && !vo aJ k.act)&&(bif k.kind == 1 then decide (1≤k.need)&&(decide (k.need≤9)&&(decide (0≤k.br)&&decide (k.br≤400)))
  else bif k.kind == 2 then k.need == 1&&k.br == 0 else k.kind == 3&&(k.need == 1&&(k.br == 0 && !k.final)))
theorem zdC (c:ay) (k:aS):kc c k=some (Yz c.aE.length c.aJ k):=by
 simp only [kc,XF,II,aX,zt,Yz]
 cases (k.kind == 4)<;>cases xY c.aE.length k.bM<;>cases vo c.aJ k.act<;>cases (k.kind == 1)<;>cases (k.kind == 2)<;>cases (k.kind == 3) <;>
  simp only [cg,ck,uh,ul,aX,uk,uj,uI,um,zt]
def Wi (n:Nat) (i:Int) (s:bk):Bool := !(decide (s.clause < 0))&&(!(decide ((n:Int)≤s.clause))&&(!(s.clause == i)&&(!(decide (s.is < 1)) && !(decide (4 < s.is)))))
noncomputable def IJ (nh:Nat) (bI:List bX) (k:aS):Bool:=
 (k.kind == 1||k.kind == 2)&&((match zf bI k.unit with | some u=>u.kind == 2 | none=>false)&&(Bd k.value&&xY nh k.to))
def XH (aJ:List bq) (k:aS):Bool:=(k.aT == -1&&k.resume == -1)||(!(k.aT == k.resume)&&(vo aJ k.aT&&vo aJ k.resume))
noncomputable def vH (nh:Nat) (bI:List bX) (aJ:List bq) (n:Nat) (i:Int) (k:aS):Bool:=
 (!(decide (k.act < 0))&&(!(decide ((aJ.length:Int)≤k.act))&&(!(decide (k.after < 1)) && !(decide (400 < k.after))))) &&
 ((Yz nh aJ k && !(decide (8 < (k.start.length:Int)))) &&
 (k.start.all (Wi n i) &&
 (XH aJ k &&
 (bif k.unit == -1 then Wh k.value&&k.to == -1 else IJ nh bI k))))
theorem zaR (c:ay) (i:Nat) (k:aS) (hk:c.aA[i]?=some k) (hs:k.start.length < 4611686018427387904):wW c i=some (vH c.aE.length c.bI c.aJ c.aA.length i k):=by
 unfold wW
 have hst:=ZP (l:=k.start) (f:=(fun i1 s1=>(ub (zf k.start (i1:Int)) fun e2=>(ub (bif decide (e2.clause < 0) then some true else (bif decide ((c.aA.length:Int)≤e2.clause) then some true else (bif (e2.clause == (i:Int)) then some true else (bif decide (e2.is < 1) then some true else some (decide (4 < e2.is)))))) fun v3=>(bif v3 then some (.inr ()) else some (.inl ())))))) (Wi c.aA.length i) hs (fun j hj=>by
  simp only [zV,ua hj,aX,zt,Wi]
  cases decide (k.start[j].clause < 0)<;>cases decide ((c.aA.length:Int)≤k.start[j].clause)<;>cases (k.start[j].clause == (i:Int))<;>cases decide (k.start[j].is < 1)<;>cases decide (4 < k.start[j].is)<;>rfl)
 have hu:(bif decide (0≤k.unit) then (bif decide (k.unit < (c.bI.length:Int)) then (ub (zf c.bI k.unit) fun e3=>(bif (e3.kind == 2) then (ub (xF k.value) fun r5=>(bif r5 then (ub (js c k.to) fun r6=>some r6) else some false)) else some false)) else some false) else some false) =
   some ((match zf c.bI k.unit with | some u=>u.kind == 2 | none=>false)&&(Bd k.value&&xY c.aE.length k.to)):=by
  by_cases h:0≤k.unit∧k.unit < c.bI.length
  ·obtain ⟨h1,h2⟩:=qE h.1 h.2
   simp only [h2,h.1,h.2,decide_true,cg,aX,zt,um,Yy,XF]
  ·rw [W8 h]
   by_cases h1:0≤k.unit
   ·have:¬ k.unit < c.bI.length:=fun h2=>h ⟨h1,h2⟩
    simp only [h1,this,decide_true,decide_false,cg,ck,uj]
   ·simp only [h1,decide_false,ck,uj]
 have hp:(ub (bif (k.aT == (-1)) then some (!(k.resume == (-1))) else some true) fun v4=>(bif v4 then (ub (bif (k.aT == k.resume) then some true else (ub (xx c k.aT) fun r2=>(bif r2 then (ub (xx c k.resume) fun r3=>some (!r3)) else some true))) fun v5=>(bif v5 then some (.inr ()) else some (.inl ()))) else some (.inl ()))) =
   some (bif XH c.aJ k then (.inl ():Unit ⊕ Unit) else .inr ()):=by
  simp only [II,XH,zt,aX]
  cases (k.aT == -1)<;>cases (k.resume == -1)<;>cases (k.aT == k.resume)<;>cases vo c.aJ k.aT<;>cases vo c.aJ k.resume<;>rfl
 rw [zq hk]
 simp only [aX]
 rw [hst]
 simp only [aX]
 rw [hp,hu]
 simp only [aX,zdC,kF,zt,vH,IJ,Wh]
 cases decide (k.act < 0)<;>simp only [cg,ck,uh,ul,uk,uj,aX]
 cases decide ((c.aJ.length:Int)≤k.act)<;>simp only [cg,ck,uh,ul,uk,uj,aX]
 cases decide (k.after < 1)<;>simp only [cg,ck,uh,ul,uk,uj,aX]
 cases decide (400 < k.after)<;>simp only [cg,ck,uh,ul,uk,uj,aX]
 cases Yz c.aE.length c.aJ k<;>simp only [cg,ck,uh,ul,uk,uj,aX]
 cases decide (8 < (k.start.length:Int))<;>simp only [cg,ck,uh,ul,uk,uj,aX]
 cases k.start.all (Wi c.aA.length i)<;>simp only [cg,ck,uh,ul,uk,uj,aX,uq,uB]
 cases XH c.aJ k<;>simp only [cg,ck,uk,uj,uq,uB]
 cases (k.kind == 1)<;>cases (k.kind == 2)<;>simp only [cg,ck,um,uK,Bool.or_true,Bool.or_self,uk,uj]
def yJ (c:ay):Bool:=decide (12 < c.aR)||(decide (2000 < c.bl)||(decide (12 < (c.aE.length:Int))||(decide (20 < (c.bI.length:Int))||(decide (60 < (c.aJ.length:Int))||decide (400 < (c.aA.length:Int))))))
noncomputable def nB (c:ay) (i:Nat):Bool:=match c.aA[i]? with
 | some k=>vH c.aE.length c.bI c.aJ c.aA.length i k
 | none=>true
noncomputable def zI (c:ay):Int×Int:=
 bif yJ c then (3,-1) else bif je c then (match (uo c.aA.length).find? (fun j=>!nB c j) with | none=>(0,-1) | some j=>(1,(j:Int))) else (1,-1)
theorem Kf (c:ay) (ho:c.off.length < 4611686018427387904) (hs:∀ k∈c.aA,k.start.length < 4611686018427387904):wC c=some (zI c):=by
 unfold wC zI
 simp only [zt,Bool.cond_true_left,aX]
 show (bif yJ c then _ else _)=_
 cases hlim:yJ c with
 | true=>rfl
 | false=>
  simp only [yJ,uy,decide_eq_false_iff_not] at hlim
  obtain ⟨h1,h2,h3,h4,h5,h6⟩:=hlim
  simp only [ck,ziU c (by omega) (by omega) (by omega) (by omega) ho,aX]
  cases je c with
  | false=>rfl
  | true=>
   simp only [cg]
   rw [wB (fun i=>nB c i) (fun i=>(i:Int)) (by omega) (fun i hi=>by
    rw [zaR c i c.aA[i] (ua hi) (hs _ (un hi))]
    simp only [aX,nB,ua hi,zt])]
   cases (uo c.aA.length).find? (fun j=>!nB c j)<;>rfl
end Go.Proofs.YtgpojcfkanjabaaGreatDoor
namespace Go.Proofs.YtgpojcfkanjabaaGreatDoor
open Go.RowKit
set_option linter.unusedSimpArgs false
set_option linter.unusedVariables false
set_option maxRecDepth 100000
theorem lF.lt {α:Type} {n:Nat} {p:α→Prop} {l:List α} (h:lF n p l) (hn:0 < n):l.length < 4611686018427387904:=by
 have h1:=h.1
 have h2:reachBytes≤140737488355328:=by decide +kernel
 have:=Nat.le_mul_of_pos_right l.length hn
 omega
theorem ay.Ok.valid {c:ay} (hc:c.Ok):wC c=some (zI c):=
 Kf c (hc.off.lt (by omega)) (fun k hk=>(hc.aA.2 k hk).start.lt (by omega))
inductive fI (c:ay):Int×Int→Prop where
 | lim (h:yJ c=true):fI c (3,-1)
 | frame (h:yJ c=false) (hf:je c=false):fI c (1,-1)
 | bad (h:yJ c=false) (hf:je c=true) (i:Nat) (hi:i < c.aA.length) (hb:nB c i=false) (hl:∀ j,j < i→nB c j=true):fI c (1,(i:Int))
 | ok (h:yJ c=false) (hf:je c=true) (ha:∀ j,j < c.aA.length→nB c j=true):fI c (0,-1)
theorem ziV (c:ay):fI c (zI c):=by
 unfold zI
 cases h:yJ c with
 | true=>exact .lim h
 | false=>
  simp only [ck]
  cases hf:je c with
  | false=>exact .frame h hf
  | true=>
   simp only [cg]
   cases hq:(uo c.aA.length).find? (fun j=>!nB c j) with
   | none=>exact .ok h hf (kB hq)
   | some j=>obtain ⟨h1,h2,h3⟩:=kC hq;exact .bad h hf j h1 h2 h3
theorem wl {c:ay} (h:(zI c).1=0):yJ c=false∧je c=true∧(∀ j,j < c.aA.length→nB c j=true)∧zI c=(0,-1):=by
 have hv:=ziV c
 generalize hr:zI c=r at h hv ⊢
 cases hv with
 | lim _=>simp at h
 | frame _ _=>simp at h
 | bad _ _ i _ _ _=>simp at h
 | ok a b d=>exact ⟨a,b,d,rfl⟩
theorem zhe {c:ay} (h:yJ c=false) (hf:je c=true) (ha:∀ j,j < c.aA.length→nB c j=true):zI c=(0,-1):=by
 unfold zI;rw [h,hf,Rt ha];rfl
theorem zmB (x y:Int):QQ x y=some (decide (x < y)):=by
 simp [QQ,JD]
theorem zmC {a b:Int} (h0:0≤a) (h1:a≤b) (h2:b < 4611686018427387904):Xm .u64 .u64 (IntKind.u64.wrap (IntKind.i64.wrap (a+b))) 1=some ((a+b) / 2):=by
 rw [qz (by omega) (by omega),Oi (by omega) (by omega)]
 unfold Xm
 rw [if_neg (by omega)]
 have:(2:Int) ^ (min (1:Int).toNat IntKind.u64.bits)=2:=by decide
 rw [this,Int.fdiv_eq_ediv_of_nonneg _ (by omega)]
def jE (l:List Int) (v:Int):Option Int:=if v∈l then some (l.idxOf v:Int) else none
theorem ziW {l:List Int} (hn:l.Nodup) {i:Nat} (hi:i < l.length):l.idxOf l[i]=i:=by
 have h1:l.idxOf l[i] < l.length:=uD.2 (un hi)
 have h2:=uG h1
 exact (List.getElem?_inj h1 hn).1 (by rw [ua h1,ua hi,h2])
theorem XI {l:List Int} {v p:Int} (h:jE l v=some p):0≤p∧l[p.toNat]?=some v:=by
 unfold jE at h
 split at h
 ·rename_i hm
  cases h
  have h1:l.idxOf v < l.length:=uD.2 hm
  exact ⟨by omega,by simp only [Int.toNat_natCast];rw [ua h1,uG h1]⟩
 ·cases h
theorem zkw {l:List Int} (hn:l.Nodup) {i:Nat} {v:Int} (h:l[i]?=some v):jE l v=some (i:Int):=by
 obtain ⟨hi,rfl⟩:=ud.1 h
 unfold jE
 rw [if_pos (un hi),ziW hn hi]
theorem QZ (l:List Int) (v:Int) (hs:l.Pairwise (· < ·)) (hl:l.length < 4611686018427387904):∃ r:Int,jd l v=some (r,(jE l v).isSome)∧∀ p,jE l v=some p→r=p:=by
 have hp:=List.pairwise_iff_getElem.1 hs
 unfold jd
 have hit:aq (iter (σ:=Int×Int) (ρ:=Int) (fun s1=>(bif decide (s1.1 < s1.2) then (ub (Xm .u64 .u64 (IntKind.u64.wrap (IntKind.i64.wrap (s1.1+s1.2))) 1) fun e1=>(ub (zf l (IntKind.i64.wrap e1)) fun e2=>(ub (QQ e2 v) fun r1=>(bif r1 then some (.inl ((IntKind.i64.wrap ((IntKind.i64.wrap e1)+1)),s1.2)) else some (.inl (s1.1,(IntKind.i64.wrap e1))))))) else some (.inr s1.1))) (0,(l.length:Int)))
   (fun r=>0≤r∧r≤l.length∧(∀ (j:Nat) (hj:j < l.length),(j:Int) < r→l[j] < v)∧(∀ (j:Nat) (hj:j < l.length),r≤(j:Int)→v≤l[j])):=by
  refine aq.iter (fun s=>0≤s.1∧s.1≤s.2∧s.2≤l.length∧(∀ (j:Nat) (hj:j < l.length),(j:Int) < s.1→l[j] < v)∧(∀ (j:Nat) (hj:j < l.length),s.2≤(j:Int)→v≤l[j])) (fun s=>(s.2 - s.1).toNat) ⟨by simp,by simp,by simp,fun j hj h=>by simp only at h;omega,fun j hj h=>by simp only at h;omega⟩ ?_
  rintro ⟨lo,hi⟩ ⟨h1,h2,h3,h4,h5⟩
  simp only at h1 h2 h3 h4 h5 ⊢
  refine aq.ite (fun hb => ?_) (fun hb => ?_)
  ·have hlt:=of_decide_eq_true hb
   rw [zmC h1 h2 (by omega)]
   simp only [aX]
   have hm1:lo≤(lo+hi) / 2:=by omega
   have hm2:(lo+hi) / 2 < hi:=by omega
   generalize (lo+hi) / 2=m at hm1 hm2 ⊢
   rw [qz (by omega) (by omega)]
   obtain ⟨hi',e⟩:=qE (l:=l) (n:=m) (by omega) (by omega)
   rw [e,qz (by omega) (by omega)]
   simp only [aX,zmB]
   refine aq.ite (fun lg => ?_) (fun lg => ?_)
   ·have hv:=of_decide_eq_true lg
    refine aq.some ⟨⟨by show 0≤m+1;omega,by show m+1≤hi;omega,h3,fun j hj hjm => ?_,h5⟩,by show (hi - (m+1)).toNat < (hi - lo).toNat;omega⟩
    have hjm:(j:Int) < m+1:=hjm
    rcases uE j m.toNat with h | h
    ·have:=hp j m.toNat hj hi' h;omega
    ·obtain rfl:j=m.toNat:=by omega
     exact hv
   ·have hv:¬ l[m.toNat] < v:=of_decide_eq_false lg
    refine aq.some ⟨⟨h1,by show lo≤m;omega,by show m≤(l.length:Int);omega,h4,fun j hj hjm => ?_⟩,by show (m - lo).toNat < (hi - lo).toNat;omega⟩
    have hjm:m≤(j:Int):=hjm
    rcases uE m.toNat j with h | h
    ·have:=hp m.toNat j hi' hj h;omega
    ·obtain rfl:j=m.toNat:=by omega
     omega
  ·have hlt:¬ lo < hi:=of_decide_eq_false hb
   have:lo=hi:=by omega
   subst this
   exact aq.some ⟨h1,h3,h4,h5⟩
 obtain ⟨r,hr,gF,ct,bZ,dJ⟩:=hit
 rw [hr]
 simp only [aX]
 by_cases hlt:r < (l.length:Int)
 ·obtain ⟨hi',e⟩:=qE (l:=l) (n:=r) gF hlt
  simp only [hlt,decide_true,cg,e,aX]
  by_cases hv:l[r.toNat]=v
  ·have hpos:jE l v=some (r.toNat:Int):=zkw (Rx hs) (by rw [ua hi',hv])
   refine ⟨r,by simp [hv,hpos],fun p hp => ?_⟩
   rw [hpos] at hp;cases hp;omega
  ·have hn:jE l v=none:=by
    unfold jE
    rw [if_neg]
    intro hm
    obtain ⟨j,hj,e2⟩:=ut hm
    rcases Nat.lt_trichotomy j r.toNat with h | h | h
    ·have:=bZ j hj (by omega);omega
    ·subst h;exact hv e2
    ·have h6:=hp r.toNat j hi' hj h
     have h7:=dJ r.toNat hi' (by omega)
     omega
   refine ⟨r,?_,fun p hp=>by rw [hn] at hp;cases hp⟩
   rw [hn]
   have:(l[r.toNat] == v)=false:=beq_eq_false_iff_ne.2 hv
   simp [this,Zj]
 ·have hn:jE l v=none:=by
   unfold jE
   rw [if_neg]
   intro hm
   obtain ⟨j,hj,e2⟩:=ut hm
   have:=bZ j hj (by omega);omega
  refine ⟨r,?_,fun p hp=>by rw [hn] at hp;cases hp⟩
  rw [hn]
  simp [hlt]
theorem zkx {bl:Int} {off:List Int} (hl:off.length < 4611686018427387904) (h:XG bl off=true):(off.length:Int)≤bl∨off.length=0:=by
 have e:XG bl off=wH bl (-1) off:=by
  unfold XG
  rw [Ef bl off hl (-1)]
  cases wH bl (-1) off<;>rfl
 rw [e] at h
 rcases ZF h with h1 | h1<;>omega
structure Small (c:ay):Prop where
 aR:1≤c.aR∧c.aR≤12
 bl:1≤c.bl∧c.bl≤2000
 aE:c.aE.length≤12
 bI:c.bI.length≤20
 aJ:c.aJ.length≤60
 aA:c.aA.length≤400
 off:c.off.length≤2000
 start:∀ k∈c.aA,k.start.length≤8
 cond:∀ (i:Nat) (k:aS),c.aA[i]?=some k→∀ s∈k.start,0≤s.clause∧s.clause < c.aA.length∧s.clause≠(i:Int)
theorem ql {c:ay} (ho:c.off.length < 4611686018427387904) (h:(zI c).1=0):Small c:=by
 obtain ⟨h1,h2,h3,_⟩:=wl h
 simp only [yJ,uy,decide_eq_false_iff_not] at h1
 obtain ⟨a1,a2,a3,a4,a5,a6⟩:=h1
 simp only [je,uc,ug,decide_eq_false_iff_not] at h2
 obtain ⟨b1,b2,b3,b4,b5,b6,b7⟩:=h2
 have dZ:∀ (i:Nat) (k:aS),c.aA[i]?=some k→vH c.aE.length c.bI c.aJ c.aA.length i k=true:=fun i k hk=>by
  have:=h3 i (ud.1 hk).1
  simp only [nB,hk] at this
  exact this
 refine ⟨⟨by omega,by omega⟩,⟨by omega,by omega⟩,by omega,by omega,by omega,by omega,?_,fun k hk => ?_,fun i k hk s hs => ?_⟩
 ·rcases zkx ho b7 with h | h<;>omega
 ·obtain ⟨i,hi,e⟩:=ut hk
  have:=dZ i k (by rw [←e];exact ua hi)
  simp only [vH,uc,ug,decide_eq_false_iff_not] at this
  omega
 ·have:=dZ i k hk
  simp only [vH,uc] at this
  have:=ui.1 this.2.2.1 s hs
  simp only [Wi,uc,ug,decide_eq_false_iff_not,beq_eq_false_iff_ne] at this
  exact ⟨by omega,by omega,this.2.2.1⟩
theorem ju {α:Type} {bG:Nat} {l:List α} (h:l.length*bG≤140737488355328):qc bG l=some l:=by unfold qc;rw [if_pos h]
theorem Qm {f:Nat→Unit→Option (Unit ⊕ Unit)} {n:Nat} (p:Nat→Bool) (hn:n < 4611686018427387904) (h:∀ j,j < n→f j ()=some (bif p j then .inl () else .inr ())) :
  aH (n:Int) f ()=some (bif (uo n).all p then .inl () else .inr ()):=by
 rw [wB p (fun _=>()) hn h]
 cases hf:(uo n).find? (fun j=>!p j) with
 | none=>
  have:(uo n).all p=true:=ui.2 fun j hj=>kB hf j (uC.1 hj)
  rw [this];rfl
 | some k=>
  obtain ⟨h1,h2,_⟩:=kC hf
  have:(uo n).all p=false:=by
   rw [uw]
   intro h
   have:=ui.1 h k (uC.2 h1)
   rw [h2] at this;cases this
  rw [this];rfl
theorem wN {α ρ:Type} {f:Nat→List α→Option (List α ⊕ ρ)} (s0:List α) (F:Nat→α→α) (hl:s0.length < 4611686018427387904)
  (h:∀ (i:Nat) (m:α) (s:List α),s0[i]?=some m→s.length=s0.length→s[i]?=some m→f i s=some (.inl (s.set i (F i m)))) :
  aH (s0.length:Int) f s0=some (.inl (s0.mapIdx F)):=by
 obtain ⟨o,h1,h2⟩:=wA (n:=s0.length) (s0:=s0) (f:=f) (fun i s=>s.length=s0.length∧∀ j,s[j]?=if j < i then (s0[j]?).map (F j) else s0[j]?) (fun _=>False) hl ⟨rfl,fun j=>by simp⟩ (fun i s hi ⟨a,b⟩=>by
  have hs:s[i]?=some s0[i]:=by rw [b i,if_neg (by omega),ua hi]
  refine ⟨_,h i s0[i] s (ua hi) a hs,by simpa using a,fun j => ?_⟩
  rw [uu]
  by_cases hij:i=j
  ·subst hij
   rw [if_pos rfl,if_pos (by omega),if_pos (by omega),ua hi];rfl
  ·rw [if_neg hij,b j]
   by_cases h3:j < i
   ·rw [if_pos h3,if_pos (by omega)]
   ·rw [if_neg h3,if_neg (by omega)])
 rw [h1]
 cases o with
 | inr r=>exact h2.elim
 | inl s=>
  obtain ⟨a,b⟩:=h2
  congr 2
  refine List.ext_getElem? fun j => ?_
  rw [b j,uF]
  by_cases hj:j < s0.length
  ·rw [if_pos hj]
  ·rw [if_neg hj,List.getElem?_eq_none (by omega)];rfl
def jF (aI:List aj) (s:bk):Bool:=match zf aI s.clause with
 | some m=>bif s.is == 1 then !(m.aN == 0) else bif s.is == 2 then m.aN == 3 else bif s.is == 3 then m.aN == 4 else bif s.is == 4 then m.aN == 5 else false
 | none=>false
def jv (ks:List aS) (aI:List aj) (i:Nat):Bool:=match ks[i]?,aI[i]? with
 | some k,some m=>(m.aN == 0 && !k.bH)&&k.start.all (jF aI)
 | _,_=>false
def ZQ (aR:Int) (k:aS) (m:aj):Bool:=
 !(k.bH||(decide (m.left < 1)||(m.bN&&k.aT == -1)))&&(((m.got == 0)||(k.kind == 1 && !(decide (m.got < 0)||decide (k.need≤m.got)))) &&
  (bif k.kind == 4 then m.bw == -1 else decide (0≤m.bw)&&decide (m.bw < aR)))
def Cv (m:aj):Bool:=(m.aN == 0)&&((m.left == 0)&&((m.got == 0)&&((m.bw == (-1))&&((m.bN == false)&&true))))
def Cw (aR:Int) (m:aj):Bool:=(m.left == 0)&&(decide (0≤m.got)&&(decide (m.got≤9)&&(decide ((-1)≤m.bw)&&(decide (m.bw < aR) && !m.bN))))
def jw (aR:Int) (k:aS) (m:aj):Bool:=
 bif m.aN == 0 then !k.bH&&Cv m else bif m.aN == 1 then decide (m.left≤k.after)&&ZQ aR k m
 else bif m.aN == 2 then k.kind == 1&&(decide (m.left≤k.br)&&ZQ aR k m) else (m.aN == 3||(m.aN == 4||m.aN == 5))&&Cw aR m
theorem zfp (c:ay) (k:aS) (m:aj):vZ c k m=some (ZQ c.aR k m):=by
 simp only [vZ,ZQ,zt,aX]
 cases k.bH<;>cases decide (m.left < 1)<;>cases m.bN<;>cases (k.aT == -1)<;>cases (m.got == 0)<;>cases (k.kind == 1)<;>cases decide (m.got < 0)<;>cases decide (k.need≤m.got)<;>cases (k.kind == 4)<;>cases decide (0≤m.bw)<;>rfl
theorem zdD (c:ay) (i:Nat) (k:aS) (m:aj) (hk:c.aA[i]?=some k):kd c i m=some (jw c.aR k m):=by
 unfold kd
 rw [zq hk]
 simp only [aX,zfp,zt,jw,Cv,Cw]
 cases (m.aN == 0)
 ·cases (m.aN == 1)
  ·cases (m.aN == 2)
   ·cases (m.aN == 3)<;>cases (m.aN == 4)<;>cases (m.aN == 5)<;>cases (m.left == 0)<;>cases decide (0≤m.got)<;>cases decide (m.got≤9)<;>cases decide ((-1)≤m.bw)<;>cases decide (m.bw < c.aR)<;>rfl
   ·cases (k.kind == 1)<;>cases decide (m.left≤k.br)<;>rfl
  ·cases decide (m.left≤k.after)<;>rfl
 ·cases k.bH<;>rfl
theorem IK (c:ay) (s:ak) (i:Nat) (k:aS) (m:aj) (hk:c.aA[i]?=some k) (hm:s.aI[i]?=some m) (hst:k.start.length < 4611686018427387904)
  (hc:∀ x∈k.start,0≤x.clause∧x.clause < s.aI.length):yC c s i=some (jv c.aA s.aI i):=by
 unfold yC jv
 rw [zq hm,zq hk,hk,hm]
 simp only [aX]
 rw [ZP (l:=k.start) (jF s.aI) hst (fun j hj=>by
  obtain ⟨h0,h1⟩:=hc _ (un hj)
  obtain ⟨h2,h3⟩:=qE h0 h1
  simp only [zV,ua hj,aX,h3,jF,zt])]
 simp only [aX,zt]
 cases (m.aN == 0)<;>cases k.bH<;>cases k.start.all (jF s.aI)<;>rfl
def Wj (aJ:List bq) (used:List Bool) (i:Nat):Bool:=match aJ[i]?,used[i]? with
 | some a,some u=>!(u&&a.kind == 1)
 | _,_=>false
def ZR (c:ay) (aI:List aj) (i:Nat):Bool:=match c.aA[i]?,aI[i]? with
 | some k,some m=>jw c.aR k m && !jv c.aA aI i
 | _,_=>false
noncomputable def rJ (c:ay) (s:ak):Bool:=
 ((zI c).1 == 0)&&((!(decide (s.day < 0))&&(!(decide (c.bl < s.day))&&((s.aE.length:Int) == c.aE.length&&((s.used.length:Int) == c.aJ.length&&(s.aI.length:Int) == c.aA.length)))) &&
  (kg c.aR s.aE&&((uo s.used.length).all (Wj c.aJ s.used)&&(uo s.aI.length).all (ZR c s.aI))))
theorem wm (c:ay) (s:ak) (hc:c.Ok):jP c s=some (rJ c s):=by
 unfold jP rJ
 rw [hc.valid]
 simp only [aX]
 cases hv:((zI c).1 == 0) with
 | false=>rfl
 | true=>
  have sm:=ql (hc.off.lt (by omega)) (beq_iff_eq.1 hv)
  simp only [cg,zt,aX,uk]
  cases h1:decide (s.day < 0)<;>cases h2:decide (c.bl < s.day)<;>cases h3:((s.aE.length:Int) == c.aE.length)<;>cases h4:((s.used.length:Int) == c.aJ.length)<;>cases h5:((s.aI.length:Int) == c.aA.length)<;>try rfl
  simp only [cg,ck,uh,ul,uk]
  have e3:=beq_iff_eq.1 h3
  have e4:=beq_iff_eq.1 h4
  have e5:=beq_iff_eq.1 h5
  have:=sm.aE
  have:=sm.aJ
  have:=sm.aA
  rw [ZP (l:=s.aE) (fun h=>decide (0≤h)&&decide (h < c.aR)) (by omega) (fun j hj=>by
   simp only [zV,ua hj,aX,zt]
   generalize s.aE[j]=h
   by_cases a:h < 0
   ·have b:¬ 0≤h:=by omega
    simp [a,b]
   ·have b:0≤h:=by omega
    by_cases d:h < c.aR
    ·have d':¬ c.aR≤h:=by omega
     simp [a,b,d,d']
    ·have d':c.aR≤h:=by omega
     simp [a,b,d,d'])]
  rw [Qm (n:=s.used.length) (Wj c.aJ s.used) (by omega) (fun j hj=>by
   have hj':j < c.aJ.length:=by omega
   simp only [zV,ua hj,ua hj',aX,zt,Wj]
   cases s.used[j]<;>cases (c.aJ[j].kind == 1)<;>rfl)]
  rw [Qm (n:=s.aI.length) (ZR c s.aI) (by omega) (fun j hj=>by
   have hj':j < c.aA.length:=by omega
   have hk:=ua hj'
   have hm:=ua hj
   simp only [zV,hm,aX]
   rw [zdD c j _ _ hk,IK c s j _ _ hk hm (by have:=sm.start _ (un hj');omega) (fun x hx=>by have:=sm.cond j _ hk x hx;omega)]
   simp only [aX,ZR,hk,hm]
   cases jw c.aR c.aA[j] s.aI[j]<;>cases jv c.aA s.aI j<;>rfl)]
  simp only [kg,aX]
  cases s.aE.all (fun h=>decide (0≤h)&&decide (h < c.aR))<;>cases (uo s.used.length).all (Wj c.aJ s.used)<;>cases (uo s.aI.length).all (ZR c s.aI)<;>rfl
structure VS (c:ay) (s:ak):Prop where
 cv:(zI c).1=0
 day:0≤s.day∧s.day≤c.bl
 lh:s.aE.length=c.aE.length
 lu:s.used.length=c.aJ.length
 lm:s.aI.length=c.aA.length
 hold:∀ h∈s.aE,0≤h∧h < c.aR
 used:∀ (i:Nat) (a:bq),c.aJ[i]?=some a→s.used[i]?=some true→a.kind≠1
 tQ:∀ (i:Nat) (k:aS) (m:aj),c.aA[i]?=some k→s.aI[i]?=some m→jw c.aR k m=true
 Be:∀ i,i < c.aA.length→jv c.aA s.aI i=false
theorem zof {c:ay} {s:ak} (h:rJ c s=true):VS c s:=by
 simp only [rJ,uc,ug,decide_eq_false_iff_not,beq_iff_eq,ui,uC,kg,decide_eq_true_eq] at h
 obtain ⟨h1,⟨h2,h3,h4,h5,h6⟩,h7,h8,h9⟩:=h
 refine ⟨h1,⟨by omega,by omega⟩,by omega,by omega,by omega,fun x hx=>h7 x hx,fun i a ha hu hk => ?_,fun i k m hk hm => ?_,fun i hi => ?_⟩
 ·have:=h8 i (by have:=(ud.1 hu).1;exact this)
  simp only [Wj,ha,hu,hk] at this
  cases this
 ·have:=h9 i (ud.1 hm).1
  simp only [ZR,hk,hm,uc] at this
  exact this.1
 ·have hi':i < s.aI.length:=by omega
  have:=h9 i hi'
  simp only [ZR,ua hi,ua hi',uc,ug] at this
  exact this.2
theorem ZS {c:ay} {s:ak} (h:VS c s):rJ c s=true:=by
 have hd:=h.day
 have h4:=h.lh
 have h5:=h.lu
 have h6:=h.lm
 simp only [rJ,uc,ug,decide_eq_false_iff_not,beq_iff_eq,ui,uC,kg,decide_eq_true_eq]
 refine ⟨h.cv,⟨by omega,by omega,by omega,by omega,by omega⟩,fun x hx=>h.hold x hx,fun i hi => ?_,fun i hi => ?_⟩
 ·have hi':i < c.aJ.length:=by omega
  have ha:=ua hi'
  have hu:=ua hi
  simp only [Wj,ha,hu]
  cases hq:s.used[i] with
  | false=>rfl
  | true=>
   have:=h.used i _ ha (by rw [hu,hq])
   simp [this]
 ·have hi':i < c.aA.length:=by omega
  have ha:=ua hi'
  have hu:=ua hi
  simp only [ZR,ha,hu,uc,ug]
  exact ⟨h.tQ i _ _ ha hu,h.Be i hi'⟩
structure KV (c:ay) (i:Nat) (k:aS):Prop where
 act:0≤k.act∧k.act < c.aJ.length
 after:1≤k.after∧k.after≤400
 kind:k.kind=1∨k.kind=2∨k.kind=3∨k.kind=4
 bM:k.kind=4∨(0≤k.bM∧k.bM < c.aE.length)
 need:1≤k.need∧k.need≤9
 br:0≤k.br∧k.br≤400
 start:k.start.length≤8
 cond:∀ s∈k.start,0≤s.clause∧s.clause < c.aA.length
 aT:(k.aT = -1∧k.resume = -1)∨(vo c.aJ k.aT=true∧vo c.aJ k.resume=true)
theorem xI {c:ay} (ho:c.off.length < 4611686018427387904) (h:(zI c).1=0) {i:Nat} {k:aS} (hk:c.aA[i]?=some k):KV c i k:=by
 have sm:=ql ho h
 obtain ⟨_,_,h3,_⟩:=wl h
 have:=h3 i (ud.1 hk).1
 simp only [nB,hk,vH,uc,ug,decide_eq_false_iff_not] at this
 obtain ⟨⟨a1,a2,a3,a4⟩,⟨a5,a6⟩,a7,a8,_⟩:=this
 have tR:(k.kind=1∨k.kind=2∨k.kind=3∨k.kind=4)∧(k.kind=4∨(0≤k.bM∧k.bM < c.aE.length))∧(1≤k.need∧k.need≤9)∧(0≤k.br∧k.br≤400):=by
  unfold Yz at a5
  cases h4:(k.kind == 4) with
  | true=>
   rw [h4] at a5
   simp only [cg,uc,beq_iff_eq] at a5
   have:=beq_iff_eq.1 h4
   omega
  | false=>
   rw [h4] at a5
   simp only [ck,uc,xY,decide_eq_true_eq] at a5
   obtain ⟨⟨b1,_⟩,b2⟩:=a5
   cases h1:(k.kind == 1) with
   | true=>
    rw [h1] at b2
    simp only [cg,uc,decide_eq_true_eq] at b2
    have:=beq_iff_eq.1 h1
    omega
   | false=>
    rw [h1] at b2
    cases h2:(k.kind == 2) with
    | true=>
     rw [h2] at b2
     simp only [cg,ck,uc,beq_iff_eq] at b2
     have:=beq_iff_eq.1 h2
     omega
    | false=>
     rw [h2] at b2
     simp only [ck,uc,beq_iff_eq] at b2
     omega
 refine ⟨⟨by omega,by omega⟩,⟨by omega,by omega⟩,tR.1,tR.2.1,tR.2.2.1,tR.2.2.2,by omega,fun s hs => ?_,?_⟩
 ·have:=sm.cond i k hk s hs;omega
 ·simp only [XH,uz,uc,beq_iff_eq,ug] at a8
  rcases a8 with h | h
  ·exact .inl h
  ·exact .inr h.2
structure Ey (c:ay) (a:bq):Prop where
 bM:(a.bM = -1∧a.kind=1)∨(0≤a.bM∧a.bM < c.aE.length)
 kind:a.kind=1∨((a.kind=2∨a.kind=3)∧(0≤a.dh∧a.dh < c.aE.length)∧(0≤a.to∧a.to < c.aR))
theorem YA {c:ay} (h:(zI c).1=0) {i:Nat} {a:bq} (ha:c.aJ[i]?=some a):Ey c a:=by
 obtain ⟨_,h2,_,_⟩:=wl h
 simp only [je,uc,ug,decide_eq_false_iff_not] at h2
 obtain ⟨_,_,_,_,_,b6,_⟩:=h2
 have:=ui.1 b6 a (List.mem_of_getElem? ha)
 unfold Vc at this
 cases hr:xY c.aE.length a.bM with
 | true=>
  rw [hr] at this
  simp only [xY,uc,decide_eq_true_eq] at hr
  cases h1:(a.kind == 1) with
  | true=>exact ⟨.inr hr,.inl (beq_iff_eq.1 h1)⟩
  | false=>
   rw [h1] at this
   simp only [cg,ck,uc,uz,beq_iff_eq,xY,decide_eq_true_eq] at this
   exact ⟨.inr hr,.inr ⟨this.1,this.2.1,by omega⟩⟩
 | false=>
  rw [hr] at this
  simp only [ck,uc,beq_iff_eq] at this
  exact ⟨.inl ⟨this.2.1,this.1⟩,.inl this.1⟩
theorem IL {c:ay} (h:(zI c).1=0):∀ x∈c.aE,0≤x∧x < c.aR:=by
 obtain ⟨_,h2,_,_⟩:=wl h
 simp only [je,uc] at h2
 have:=h2.2.2.2.1
 simp only [kg,ui,uc,decide_eq_true_eq] at this
 exact this
theorem zmD {c:ay} (ho:c.off.length < 4611686018427387904) (h:(zI c).1=0):c.off.Pairwise (· < ·):=by
 obtain ⟨_,h2,_,_⟩:=wl h
 simp only [je,uc] at h2
 have b7:=h2.2.2.2.2.2.2
 have e:XG c.bl c.off=wH c.bl (-1) c.off:=by
  unfold XG
  rw [Ef c.bl c.off ho (-1)]
  cases wH c.bl (-1) c.off<;>rfl
 rw [e] at b7
 exact (kD b7).2
def iX (c:ay) (ms:List aj):Prop:=ms.length=c.aA.length∧∀ (i:Nat) (k:aS) (m:aj),c.aA[i]?=some k→ms[i]?=some m→jw c.aR k m=true
def NR (c:ay) (ms:List aj):Prop:=∀ i,i < c.aA.length→jv c.aA ms i=false
def wE (k:aS) (b:Int):aj:={aN:=1,left:=k.after,got:=0,bw:=b,bN:=false}
def Cy (c:ay) (ms ms':List aj):Prop:=∀ (i:Nat) (m m':aj),ms[i]?=some m→ms'[i]?=some m'→m'=m∨(m.aN=0∧∃ k b,c.aA[i]?=some k∧m'=wE k b)
def kh (ms:List aj):Nat:=ms.countP (fun m=>m.aN == 0)
def Qn (hs:List Int) (k:aS):Int:=bif k.kind == 4 then -1 else hs[k.bM.toNat]?.getD 0
def ZT (ks:List aS) (ms:List aj):Nat→Nat→Prop
 | 0,_=>False
 | n+1,i=>∃ k m,ks[i]?=some k∧ms[i]?=some m∧m.aN=0∧k.bH=false∧∀ x∈k.start,jF ms x=true∨(x.is=1∧ZT ks ms n x.clause.toNat)
def pF (ks:List aS) (ms:List aj) (i:Nat):Prop:=∃ n,ZT ks ms n i
def Bf (c:ay) (hs:List Int) (ms r:List aj):Prop:=∀ (i:Nat) (k:aS) (m:aj),c.aA[i]?=some k→ms[i]?=some m→r[i]?=some m∨(pF c.aA ms i∧r[i]?=some (wE k (Qn hs k)))
def IM (c:ay) (hs:List Int) (ms r:List aj):Prop:=∀ (i:Nat) (k:aS) (m:aj),c.aA[i]?=some k→ms[i]?=some m→(¬ pF c.aA ms i∧r[i]?=some m)∨(pF c.aA ms i∧r[i]?=some (wE k (Qn hs k)))
theorem IN {ks:List aS} {ms:List aj}:∀ (n i:Nat),ZT ks ms n i→ZT ks ms (n+1) i
 | 0,i,h=>h.elim
 | n+1,i,⟨k,m,h1,h2,h3,h4,h5⟩=>⟨k,m,h1,h2,h3,h4,fun x hx=>(h5 x hx).imp id fun h=>⟨h.1,IN n _ h.2⟩⟩
theorem Kg {ks:List aS} {ms:List aj} {n i:Nat} (h:ZT ks ms n i):∀ d,ZT ks ms (n+d) i
 | 0=>h
 | d+1=>IN _ _ (Kg h d)
theorem IP {ks:List aS} {ms:List aj}:∀ (l:List bk),(∀ x∈l,jF ms x=true∨(x.is=1∧pF ks ms x.clause.toNat))→∃ n,∀ x∈l,jF ms x=true∨(x.is=1∧ZT ks ms n x.clause.toNat)
 | [],_=>⟨0,fun x hx=>by cases hx⟩
 | y::l,h=>by
  obtain ⟨n,hn⟩:=IP l (fun x hx=>h x (List.mem_cons_of_mem _ hx))
  rcases h y (List.mem_cons_self ..) with h1 | ⟨h1,d,h2⟩
  ·refine ⟨n,fun x hx => ?_⟩
   rcases uJ.1 hx with rfl | hx
   ·exact .inl h1
   ·exact hn x hx
  ·refine ⟨n+d,fun x hx => ?_⟩
   rcases uJ.1 hx with rfl | hx
   ·exact .inr ⟨h1,by rw [Nat.add_comm];exact Kg h2 n⟩
   ·exact (hn x hx).imp id fun h=>⟨h.1,Kg h.2 d⟩
theorem YB {ms:List aj} {x:bk} {m:aj} (hx:zf ms x.clause=some m) (h1:m.aN=1):jF ms x=(x.is == 1):=by
 simp only [jF,hx,h1]
 cases (x.is == 1)<;>cases (x.is == 2)<;>cases (x.is == 3)<;>cases (x.is == 4)<;>rfl
theorem zhf {ms:List aj} {x:bk} {m:aj} (hx:zf ms x.clause=some m) (h1:m.aN=0):jF ms x=false:=by
 simp only [jF,hx,h1]
 cases (x.is == 1)<;>cases (x.is == 2)<;>cases (x.is == 3)<;>cases (x.is == 4)<;>rfl
structure dH (c:ay) (hs:List Int) (ms r:List aj):Prop where
 ok:iX c r
 nr:NR c r
 rel:Cy c ms r
 same:NR c ms→r=ms
 IQ:IM c hs ms r
theorem zfq {ks:List aS} {ms:List aj} {i:Nat} {m:aj} (h:pF ks ms i) (hm:ms[i]?=some m):m.aN=0:=by
 obtain ⟨n,h⟩:=h
 cases n with
 | zero=>exact h.elim
 | succ n=>obtain ⟨k,m',_,h2,h3,_⟩:=h;rw [hm] at h2;cases h2;exact h3
theorem zhg {c:ay} {hs:List Int} {ms r:List aj} (hl:ms.length=c.aA.length) (hr:r.length=c.aA.length) (hI:Bf c hs ms r) {i:Nat} {k:aS} (hk:c.aA[i]?=some k) (hcd:∀ x∈k.start,0≤x.clause∧x.clause < c.aA.length) (hy:jv c.aA r i=true):pF c.aA ms i:=by
 have hi:=(ud.1 hk).1
 have hm:=ua (show i < ms.length by omega)
 have hmr:=ua (show i < r.length by omega)
 simp only [jv,hk,hmr,uc,ug,beq_iff_eq,ui] at hy
 obtain ⟨⟨h0,hw⟩,hc⟩:=hy
 rcases hI i k _ hk hm with h | ⟨h,_⟩
 ·rw [hmr] at h
  have e:=Option.some.inj h
  obtain ⟨n,hn⟩:=IP (ks:=c.aA) (ms:=ms) k.start (fun x hx=>by
   obtain ⟨x0,x1⟩:=hcd x hx
   have hxi:=qE (l:=ms) (n:=x.clause) x0 (by omega)
   obtain ⟨a1,a2⟩:=hxi
   obtain ⟨b1,b2⟩:=qE (l:=r) (n:=x.clause) x0 (by omega)
   have tS:=ua (show x.clause.toNat < c.aA.length by omega)
   have hx':=hc x hx
   rcases hI x.clause.toNat _ _ tS (ua a1) with h2 | ⟨h2,h3⟩
   ·left
    rw [ua b1] at h2
    simp only [jF,b2,Option.some.inj h2] at hx'
    simp only [jF,a2];exact hx'
   ·right
    rw [ua b1] at h3
    rw [YB b2 (by rw [Option.some.inj h3];rfl)] at hx'
    exact ⟨beq_iff_eq.1 hx',h2⟩)
  exact ⟨n+1,k,_,hk,hm,by rw [←e];exact h0,hw,hn⟩
 ·exact h
theorem zky {c:ay} {hs:List Int} {ms r:List aj} (hl:ms.length=c.aA.length) (hr:r.length=c.aA.length) (hI:Bf c hs ms r) (hn:NR c r) (hcd:∀ (i:Nat) (k:aS),c.aA[i]?=some k→∀ x∈k.start,0≤x.clause∧x.clause < c.aA.length):IM c hs ms r:=by
 have key:∀ (n i:Nat) (k:aS),ZT c.aA ms n i→c.aA[i]?=some k→r[i]?=some (wE k (Qn hs k)):=by
  intro n
  induction n with
  | zero=>intro i k h;exact h.elim
  | succ n ih=>
   intro i k h hk
   have hi:=(ud.1 hk).1
   obtain ⟨k',m,h1,h2,h3,h4,h5⟩:=h
   rw [hk] at h1
   cases h1
   rcases hI i k m hk h2 with h | ⟨_,h⟩
   ·exfalso
    have:=hn i hi
    have hy:jv c.aA r i=true:=by
     simp only [jv,hk,h,h3,h4,beq_self_eq_true,ul,Bool.and_true,uk,ui]
     intro x hx
     obtain ⟨x0,x1⟩:=hcd i k hk x hx
     obtain ⟨a1,a2⟩:=qE (l:=ms) (n:=x.clause) x0 (by omega)
     obtain ⟨b1,b2⟩:=qE (l:=r) (n:=x.clause) x0 (by omega)
     have tS:=ua (show x.clause.toNat < c.aA.length by omega)
     rcases h5 x hx with h6 | ⟨h6,h7⟩
     ·rcases hI x.clause.toNat _ _ tS (ua a1) with g | ⟨g,g2⟩
      ·rw [ua b1] at g
       simp only [jF,a2] at h6
       simp only [jF,b2,Option.some.inj g];exact h6
      ·rw [zhf a2 (zfq g (ua a1))] at h6;cases h6
     ·have g:=ih _ _ h7 tS
      rw [ua b1] at g
      rw [YB b2 (by rw [Option.some.inj g];rfl),h6];rfl
    rw [hy] at this;cases this
   ·exact h
 intro i k m hk hm
 by_cases hs':pF c.aA ms i
 ·obtain ⟨n,h⟩:=hs'
  exact .inr ⟨⟨n,h⟩,key n i k h hk⟩
 ·rcases hI i k m hk hm with h | ⟨h,_⟩
  ·exact .inl ⟨hs',h⟩
  ·exact absurd h hs'
theorem zhh {ms:List aj} {i:Nat} {m m':aj} (h:ms[i]?=some m) (h0:m.aN=0) (h1:m'.aN≠0):kh (ms.set i m') < kh ms:=by
 obtain ⟨hi,rfl⟩:=ud.1 h
 unfold kh
 rw [List.countP_set hi]
 have hp:0 < ms.countP (fun m=>m.aN == 0):=List.countP_pos_iff.2 ⟨_,un hi,by simp [h0]⟩
 simp only [h0,beq_self_eq_true,if_true,beq_iff_eq,h1,if_false]
 omega
noncomputable def yd (c:ay) (day:Int) (hs:List Int) (us:List Bool) (ms:List aj):Option (List aj):=wX c day hs hs.length us us.length ms ms.length
theorem JI (n:Nat):dQ n n=some ⟨rfl⟩:=by unfold dQ;rw [dif_pos rfl]
theorem wn {a b:Nat} (h:a=b):dQ a b=some ⟨h⟩:=by unfold dQ;rw [dif_pos h]
theorem XJ (c:ay) (day:Int) (hs:List Int) (us:List Bool) (ms:List aj) (ho:c.off.length < 4611686018427387904) (hv:(zI c).1=0) (hh:hs.length=c.aE.length) (hb:∀ h∈hs,0≤h∧h < c.aR) (hm:iX c ms) :
  aq (yd c day hs us ms) (dH c hs ms):=by
 have sm:=ql ho hv
 have dZ:=sm.aA
 unfold yd wX
 refine aq.bind (P:=fun r=>dH c hs ms r) (aq.iter (fun s=>iX c s.2∧Cy c ms s.2∧(NR c ms→s.2=ms)∧Bf c hs ms s.2∧(s.1=false→NR c s.2)) (fun s=>2*kh s.2+(if s.1 then 1 else 0)) ⟨hm,fun i m m' h1 h2=>.inl (by simp only at h2;rw [h1] at h2;exact (Option.some.inj h2).symm),fun _=>rfl,fun i k m h1 h2=>.inl h2,fun h=>by cases h⟩ ?_) (fun r hr=>aq.some hr)
 have hl0:=hm.1
 have hcd:∀ (i:Nat) (k:aS),c.aA[i]?=some k→∀ x∈k.start,0≤x.clause∧x.clause < c.aA.length:=fun i k hk=>(xI ho hv hk).cond
 rintro ⟨b,eN⟩ ⟨hok,hrel,hsame,Bg,BI⟩
 cases b with
 | false=>exact aq.some ⟨hok,BI rfl,hrel,hsame,zky hl0 hok.1 Bg (BI rfl) hcd⟩
 | true=>
  simp only [cg]
  refine aq.bind (P:=fun o=>∃ s2:Bool×List aj,o=.inl s2∧iX c s2.2∧Cy c ms s2.2∧(NR c eN→s2.2=eN)∧Bf c hs ms s2.2∧(s2.1=false→s2.2=eN∧NR c eN)∧(s2.1=true→kh s2.2 < kh eN))
   (aq.cP (n:=c.aA.length) (fun i s=>iX c s.2∧Cy c ms s.2∧(NR c eN→s.2=eN)∧Bf c hs ms s.2∧(s.1=false→s.2=eN∧∀ j,j < i→jv c.aA eN j=false)∧(s.1=true→kh s.2 < kh eN)) (by omega) ⟨hok,hrel,fun _=>rfl,Bg,fun _=>⟨rfl,fun j hj=>by omega⟩,fun h=>by cases h⟩ ?_ (fun s h=>⟨s,rfl,h⟩)) ?_
  ·rintro i ⟨b0,ec⟩ hi ⟨rK,mR,iK,mS,pX,tT⟩
   simp only at rK mR iK mS pX tT
   have hk:=ua hi
   have hl2:=rK.1
   have hi2:i < ec.length:=by omega
   have hm2:=ua hi2
   have kv:=xI ho hv hk
   have hmk:=rK.2 i _ _ hk hm2
   rw [zq hk]
   simp only [aX,JI,wn (show ms.length=ec.length by omega)]
   rw [IK c _ i _ _ hk hm2 (by have:=kv.start;omega) (fun x hx=>by have:=kv.cond x hx;simp only;omega)]
   simp only [aX]
   cases hr:jv c.aA ec i with
   | false=>
    simp only [ck,aX]
    refine aq.some ⟨rK,mR,iK,mS,fun hb=>⟨(pX hb).1,fun j hj => ?_⟩,tT⟩
    rcases uE j i with h | h
    ·exact (pX hb).2 j h
    ·obtain rfl:j=i:=by omega
     rw [←(pX hb).1];exact hr
   | true=>
    simp only [cg]
    have hr':=hr
    simp only [jv,hk,hm2,uc,ug,beq_iff_eq] at hr'
    obtain ⟨⟨h0,hw⟩,_⟩:=hr'
    have Bh:aq (bif (c.aA[i].kind == 4) then some (-1) else (ub (zl hs.length c.aA[i].bM) fun k1=>(ub (hs[k1]?) fun e2=>some e2))) (fun v=>v=Qn hs c.aA[i]∧bif c.aA[i].kind == 4 then v = -1 else 0≤v∧v < c.aR):=by
     refine aq.ite (fun h4=>aq.some (by simp [h4,Qn])) (fun h4 => ?_)
     have h4':c.aA[i].kind≠4:=beq_eq_false_iff_ne.1 h4
     have hro:=kv.bM.resolve_left h4'
     rw [QO hro.1 (by omega)]
     have hlt:c.aA[i].bM.toNat < hs.length:=by omega
     simp only [aX,ua hlt]
     exact aq.some ⟨by simp [Qn,h4,ua hlt],by rw [h4];exact hb _ (un hlt)⟩
    refine aq.bind (P:=fun v:Bool×List aj=>∃ b,v=(true,ec.set i (wE c.aA[i] b))∧b=Qn hs c.aA[i]∧(bif c.aA[i].kind == 4 then b = -1 else 0≤b∧b < c.aR)) (aq.bind Bh fun v nC => ?_) ?_
    ·rw [zF (show i < ms.length by omega)]
     simp only [aX,hm2]
     exact aq.some ⟨v,rfl,nC⟩
    ·rintro _ ⟨b,rfl,nV,tU⟩
     have hnew:jw c.aR c.aA[i] (wE c.aA[i] b)=true:=by
      simp only [jw,wE,ZQ,hw]
      have h1:=kv.after
      have:¬ c.aA[i].after < 1:=by omega
      cases h4:(c.aA[i].kind == 4) with
      | true=>rw [h4] at tU;simp only [cg] at tU;subst tU;simp [this]
      | false=>rw [h4] at tU;simp only [ck] at tU;simp [this,tU]
     refine aq.some ⟨⟨by simpa using hl2,fun j k m hj sW => ?_⟩,fun j m m' h1 h2 => ?_,fun hn => ?_,fun j k m hj sW => ?_,fun h=>by simp at h,fun _ => ?_⟩
     ·rw [uu] at sW
      by_cases hij:i=j
      ·subst hij
       rw [if_pos rfl,if_pos hi2] at sW
       rw [hk] at hj
       cases hj;cases sW;exact hnew
      ·rw [if_neg hij] at sW;exact rK.2 j k m hj sW
     ·simp only at h2
      rw [uu] at h2
      by_cases hij:i=j
      ·subst hij
       rw [if_pos rfl,if_pos hi2] at h2
       cases h2
       refine .inr ⟨?_,_,b,hk,rfl⟩
       rcases mR i m _ h1 hm2 with h | ⟨h,_⟩
       ·rw [←h];exact h0
       ·exact h
      ·rw [if_neg hij] at h2;exact mR j m m' h1 h2
     ·have e:=iK hn
      have:=hn i hi
      rw [←e,hr] at this
      cases this
     ·show (ec.set i (wE c.aA[i] b))[j]?=some m∨pF c.aA ms j∧(ec.set i (wE c.aA[i] b))[j]?=some (wE k (Qn hs k))
      rw [uu]
      by_cases hij:i=j
      ·subst hij
       rw [if_pos rfl,if_pos hi2]
       rw [hk] at hj
       cases hj
       exact .inr ⟨zhg hl0 hl2 mS hk (hcd _ _ hk) hr,by rw [nV]⟩
      ·rw [if_neg hij];exact mS j k m hj sW
     ·have h3:=zhh (m':=wE c.aA[i] b) hm2 h0 (by simp [wE])
      show kh (ec.set i (wE c.aA[i] b)) < kh eN
      cases b0 with
      | true=>have:=tT rfl;omega
      | false=>have e:=(pX rfl).1;subst e;exact h3
  ·rintro _ ⟨⟨b2,ec⟩,rfl,rK,mR,iK,mS,pX,tT⟩
   simp only at rK mR iK mS pX tT
   simp only [uq]
   refine aq.some ⟨⟨rK,mR,fun hn => ?_,mS,fun lg => ?_⟩,?_⟩
   ·have e:=hsame hn
    simp only at e
    subst e
    exact iK hn
   ·obtain ⟨e1,e2⟩:=pX lg
    simp only;rw [e1];exact e2
   ·simp only
    cases b2 with
    | true=>have:=tT rfl;simp;omega
    | false=>have:=(pX rfl).1;subst this;simp
def qM (m:aj):Bool:=m.aN == 1||m.aN == 2
theorem Qo (m:aj):jI m=some (qM m):=by
 simp only [jI,zt,aX,qM];cases (m.aN == 1)<;>rfl
def ZU (st:Int) (m:aj):aj:={m with aN:=st,left:=0,bN:=false}
def ki (free:Bool) (k:aS) (m:aj):aj:=
 bif qM m then (bif m.bN||(k.b9&&free) then m else
  bif m.left - 1 == 0 then (bif k.kind == 1 then (bif m.aN == 1&&decide (0 < k.br) then {m with aN:=2,left:=k.br} else ZU 4 m) else bif k.kind == 2 then ZU 3 m else ZU 5 m)
  else {m with left:=m.left - 1}) else m
def eR (c:ay) (F:aS→aj→aj) (i:Nat) (m:aj):aj:=match c.aA[i]? with | some k=>F k m | none=>m
structure Bi (c:ay) (k:aS) (m:aj):Prop where
 bH:k.bH=false
 left:1≤m.left∧m.left≤400
 bN:m.bN=true→k.aT ≠ -1
 got:m.got=0∨(k.kind=1∧0≤m.got∧m.got < k.need)
 bw:(k.kind=4∧m.bw = -1)∨(k.kind≠4∧0≤m.bw∧m.bw < c.aR)
theorem jz {p:Int} {k:aS} {m:aj}:ZQ p k m=true↔k.bH=false∧1≤m.left∧(m.bN=true→k.aT ≠ -1)∧(m.got=0∨(k.kind=1∧0≤m.got∧m.got < k.need))∧((k.kind=4∧m.bw = -1)∨(k.kind≠4∧0≤m.bw∧m.bw < p)):=by
 simp only [ZQ,uc,ug,uy,decide_eq_false_iff_not,uz,beq_iff_eq]
 have e1:(m.bN&&k.aT == -1)=false↔(m.bN=true→k.aT ≠ -1):=by cases m.bN<;>simp
 have e2:(bif k.kind == 4 then m.bw == -1 else decide (0≤m.bw)&&decide (m.bw < p))=true↔((k.kind=4∧m.bw = -1)∨(k.kind≠4∧0≤m.bw∧m.bw < p)):=by
  cases h:(k.kind == 4) with
  | true=>have:=beq_iff_eq.1 h;simp [this]
  | false=>have:=beq_eq_false_iff_ne.1 h;simp [this]
 rw [e1,e2]
 constructor
 ·rintro ⟨⟨a,b,d⟩,e,f⟩;exact ⟨a,by omega,d,by omega,f⟩
 ·rintro ⟨a,b,d,e,f⟩;exact ⟨⟨a,by omega,d⟩,by omega,f⟩
theorem wp {p:Int} {k:aS} {m:aj}:jw p k m=true↔(m.aN=0∧k.bH=false∧Cv m=true)∨(m.aN=1∧m.left≤k.after∧ZQ p k m=true)∨(m.aN=2∧k.kind=1∧m.left≤k.br∧ZQ p k m=true)∨((m.aN=3∨m.aN=4∨m.aN=5)∧Cw p m=true):=by
 unfold jw
 by_cases h0:m.aN=0
 ·simp [h0]
 by_cases h1:m.aN=1
 ·simp [h1]
 by_cases h2:m.aN=2
 ·simp [h2]
 have e0:(m.aN == 0)=false:=beq_eq_false_iff_ne.2 h0
 have e1:(m.aN == 1)=false:=beq_eq_false_iff_ne.2 h1
 have e2:(m.aN == 2)=false:=beq_eq_false_iff_ne.2 h2
 simp [e0,e1,e2,h0,h1,h2]
theorem wF {c:ay} {i:Nat} {k:aS} {m:aj} (kv:KV c i k) (h:jw c.aR k m=true) (hr:qM m=true):Bi c k m∧ZQ c.aR k m=true∧(m.aN=1∧m.left≤k.after∨m.aN=2∧k.kind=1∧m.left≤k.br):=by
 simp only [qM,uz,beq_iff_eq] at hr
 have ha:=kv.after
 have hg:=kv.br
 rcases wp.1 h with ⟨h0,_⟩ | ⟨h0,h1,h2⟩ | ⟨h0,h1,h2,h3⟩ | ⟨h0,_⟩
 ·omega
 ·obtain ⟨a,b,d,e,f⟩:=jz.1 h2
  exact ⟨⟨a,⟨b,by omega⟩,d,e,f⟩,h2,.inl ⟨h0,h1⟩⟩
 ·obtain ⟨a,b,d,e,f⟩:=jz.1 h3
  exact ⟨⟨a,⟨b,by omega⟩,d,e,f⟩,h3,.inr ⟨h0,h1,h2⟩⟩
 ·omega
theorem Q0 {c:ay} {i:Nat} {k:aS} {m:aj} {st:Int} (kv:KV c i k) (rv:Bi c k m) (hp:0 < c.aR) (hst:st=3∨st=4∨st=5):jw c.aR k (ZU st m)=true:=by
 refine wp.2 (.inr (.inr (.inr ⟨hst,?_⟩)))
 have h1:=rv.got
 have h2:=rv.bw
 have h3:=kv.need
 have e1:decide (0≤m.got)=true:=decide_eq_true (by omega)
 have e2:decide (m.got≤9)=true:=decide_eq_true (by omega)
 have e3:decide (-1≤m.bw)=true:=decide_eq_true (by omega)
 have e4:decide (m.bw < c.aR)=true:=decide_eq_true (by omega)
 show ((0:Int) == 0&&(decide (0≤m.got)&&(decide (m.got≤9)&&(decide (-1≤m.bw)&&(decide (m.bw < c.aR) && !false)))))=true
 rw [e1,e2,e3,e4];rfl
theorem Zl {c:ay} {k:aS} {m:aj} (h:(m.aN=1∧m.left≤k.after)∨(m.aN=2∧k.kind=1∧m.left≤k.br)) (hr:ZQ c.aR k m=true):jw c.aR k m=true:=by
 rcases h with ⟨h0,h1⟩ | ⟨h0,h1,h2⟩
 ·exact wp.2 (.inr (.inl ⟨h0,h1,hr⟩))
 ·exact wp.2 (.inr (.inr (.inl ⟨h0,h1,h2,hr⟩)))
theorem iX.mapIdx {c:ay} {ms:List aj} (F:aS→aj→aj) (h:iX c ms) (hF:∀ (i:Nat) (k:aS) (m:aj),c.aA[i]?=some k→jw c.aR k m=true→jw c.aR k (F k m)=true):iX c (ms.mapIdx (eR c F)):=by
 refine ⟨by simpa using h.1,fun i k m hk hm => ?_⟩
 rw [uF] at hm
 obtain ⟨m0,h0,rfl⟩:=Option.map_eq_some_iff.1 hm
 simp only [eR,hk]
 exact hF i k m0 hk (h.2 i k m0 hk h0)
theorem ziX {c:ay} {i:Nat} {k:aS} {m:aj} (free:Bool) (kv:KV c i k) (hp:0 < c.aR) (h:jw c.aR k m=true):jw c.aR k (ki free k m)=true:=by
 unfold ki
 cases hr:qM m with
 | false=>exact h
 | true=>
  obtain ⟨rv,hb,hs⟩:=wF kv h hr
  simp only [cg]
  cases hp1:(m.bN||(k.b9&&free)) with
  | true=>exact h
  | false=>
   simp only [ck]
   have hl:=rv.left
   obtain ⟨b1,b2,b3,b4,b5⟩:=jz.1 hb
   cases hz:(m.left - 1 == 0) with
   | false=>
    have:=beq_eq_false_iff_ne.1 hz
    refine Zl ?_ (jz.2 ⟨b1,?_,b3,b4,b5⟩)
    ·simp only [ck];omega
    ·simp only [ck];omega
   | true=>
    simp only [cg]
    cases h1:(k.kind == 1) with
    | false=>
     cases h2:(k.kind == 2) with
     | true=>exact Q0 kv rv hp (by omega)
     | false=>exact Q0 kv rv hp (by omega)
    | true=>
     simp only [cg]
     cases h3:(m.aN == 1&&decide (0 < k.br)) with
     | false=>exact Q0 kv rv hp (by omega)
     | true=>
      simp only [uc,beq_iff_eq,decide_eq_true_eq] at h3
      exact Zl (.inr ⟨rfl,beq_iff_eq.1 h1,Int.le_refl _⟩) (jz.2 ⟨b1,by simp only [cg];omega,b3,b4,b5⟩)
theorem xb {α:Type} {s:List α} {i:Nat} {m:α} (h:s[i]?=some m):s.set i m=s:=by
 obtain ⟨hi,rfl⟩:=ud.1 h
 exact List.set_getElem_self hi
theorem vJ {α:Type} {s:List α} {i:Nat} {m x:α} (h:s[i]?=some m):(s.set i x)[i]?=some x:=by
 have:=(ud.1 h).1
 simp [this]
theorem Wk (i:Nat) (st:Int) (c:ay) (p4:Int) (p5:List Int) (p6:Nat) (p7:List Bool) (p8:Nat) (ms:List aj) (n:Nat) (m:aj) (hi:i < n) (hm:ms[i]?=some m):wD i st c p4 p5 p6 p7 p8 ms n=some (ms.set i (ZU st m)):=by
 unfold wD
 simp only [zF hi,aX,hm,uH,ZU]
theorem zkz (c:ay) (day:Int) (hs:List Int) (us:List Bool) (ms:List aj) (ho:c.off.length < 4611686018427387904) (hv:(zI c).1=0) (hm:iX c ms) (gB:0≤day∧day≤2000) :
  gV c day hs hs.length us us.length ms ms.length=yd c (day+1) hs us (ms.mapIdx (eR c (ki (jE c.off day).isSome))):=by
 have sm:=ql ho hv
 have dZ:=sm.aA
 have hl:=hm.1
 unfold gV
 obtain ⟨r,hr,_⟩:=QZ c.off day (zmD ho hv) ho
 rw [hr]
 simp only [aX,xG]
 rw [wN ms (eR c (ki (jE c.off day).isSome)) (by omega) ?_]
 ·simp only [aX,uq]
  rw [qz (by omega) (by omega)]
  unfold yd
  rw [List.length_mapIdx]
  generalize wX _ _ _ _ _ _ _ _=x
  cases x<;>rfl
 ·intro i m s h1 h2 h3
  have hi:i < ms.length:=(ud.1 h1).1
  have hic:i < c.aA.length:=by omega
  have hk:=ua hic
  have kv:=xI ho hv hk
  have hmk:=hm.2 i _ _ hk h1
  simp only [zF hi,aX,h3,Qo,eR,hk]
  generalize c.aA[i]=k at hk kv hmk
  cases o6:qM m with
  | false=>simp only [ck,aX,ki,o6,xb h3]
  | true=>
   obtain ⟨rv,hb,hst⟩:=wF kv hmk o6
   have hleft:=rv.left
   simp only [cg,zq hk,aX,ki,o6,zt]
   have epb:(bif m.bN then true else bif k.b9 then (jE c.off day).isSome else false)=(m.bN||(k.b9&&(jE c.off day).isSome)):=by cases m.bN<;>cases k.b9<;>rfl
   rw [epb]
   cases hp1:(m.bN||(k.b9&&(jE c.off day).isSome)) with
   | true=>simp only [cg,aX,uh,ck,xb h3]
   | false=>
    rw [qz (show -9223372036854775808≤m.left - 1 by omega) (by omega)]
    simp only [ck,aX,vJ h3]
    cases hz:(m.left - 1 == 0) with
    | false=>simp only [ck,aX,uh]
    | true=>
     have gL:=beq_iff_eq.1 hz
     have rD:(k.kind == 0)=false:=beq_eq_false_iff_ne.2 (by have:=kv.kind;omega)
     simp only [cg,rD,ck,Yd,wY,Qh,zF hi,aX,vJ h3,zq hk,zt]
     rw [Wk i 4 _ _ _ _ _ _ _ _ _ hi (vJ h3),Wk i 3 _ _ _ _ _ _ _ _ _ hi (vJ h3),Wk i 5 _ _ _ _ _ _ _ _ _ hi (vJ h3)]
     simp only [aX,uH,ZU,gL]
     cases h1:(k.kind == 1) with
     | true=>
      simp only [cg]
      have e3:(bif m.aN == 1 then decide (0 < k.br) else false)=(m.aN == 1&&decide (0 < k.br)):=by cases (m.aN == 1)<;>rfl
      rw [e3]
      cases h4:(m.aN == 1&&decide (0 < k.br))<;>simp
     | false=>
      cases h2:(k.kind == 2) with
      | true=>simp
      | false=>
       cases h3:(k.kind == 3) with
       | true=>simp
       | false=>
        have h4:(k.kind == 4)=true:=beq_iff_eq.2 (by have:=kv.kind;have:=beq_eq_false_iff_ne.1 h1;have:=beq_eq_false_iff_ne.1 h2;have:=beq_eq_false_iff_ne.1 h3;omega)
        simp [h4]
def wO (act:Int) (k:aS) (m:aj):aj:=
 bif qM m then (bif act == k.aT then {m with bN:=true} else bif act == k.resume then {m with bN:=false} else m) else m
def Cz (k:aS) (m:aj):aj:=bif m.got+1 == k.need then ZU 3 {m with got:=m.got+1} else {m with got:=m.got+1}
def CA (k:aS) (m:aj):aj:=bif k.kind == 1 then Cz k m else bif k.kind == 2 then (bif m.bN then m else ZU 4 m) else ZU 3 m
def kP (act bG:Int) (k:aS) (m:aj):aj:=bif qM m then (bif k.act == act&&(k.kind == 4||m.bw == bG) then CA k m else m) else m
def Za (a:bq) (k:aS) (m:aj):aj:=bif qM m then (bif !(k.kind == 4)&&k.bM == a.dh then {m with bw:=a.to} else m) else m
def jT (hs:List Int) (a:bq):Int:=bif a.bM == -1 then -1 else hs[a.bM.toNat]?.getD 0
theorem zmF (c:ay) (s:ak) (i:Nat) (a:bq) (ha:c.aJ[i]?=some a) (h:a.bM = -1∨(0≤a.bM∧a.bM < s.aE.length)):QS c s i=some (jT s.aE a):=by
 unfold QS jT
 simp only [zq ha,aX]
 cases hr:(a.bM == -1) with
 | true=>rfl
 | false=>
  have h1:=beq_eq_false_iff_ne.1 hr
  obtain ⟨h2,h3⟩:=qE (l:=s.aE) (n:=a.bM) (by omega) (by omega)
  simp only [ck,h3,aX,ua h2,ux]
theorem zhi {c:ay} {i:Nat} {k:aS} {m:aj} {act:Int} (ha:0≤act) (kv:KV c i k) (h:jw c.aR k m=true):jw c.aR k (wO act k m)=true:=by
 unfold wO
 cases hr:qM m with
 | false=>exact h
 | true=>
  obtain ⟨rv,hb,hs⟩:=wF kv h hr
  obtain ⟨b1,b2,b3,b4,b5⟩:=jz.1 hb
  simp only [cg]
  cases h1:(act == k.aT) with
  | true=>exact Zl hs (jz.2 ⟨b1,b2,fun _=>by have:=beq_iff_eq.1 h1;omega,b4,b5⟩)
  | false=>
   cases h2:(act == k.resume) with
   | true=>exact Zl hs (jz.2 ⟨b1,b2,fun h=>absurd (show false=true from h) (by decide),b4,b5⟩)
   | false=>exact h
theorem zkA {c:ay} {i:Nat} {k:aS} {m:aj} {act bG:Int} (hp:0 < c.aR) (kv:KV c i k) (h:jw c.aR k m=true):jw c.aR k (kP act bG k m)=true:=by
 unfold kP
 cases hr:qM m with
 | false=>exact h
 | true=>
  obtain ⟨rv,hb,hs⟩:=wF kv h hr
  obtain ⟨b1,b2,b3,b4,b5⟩:=jz.1 hb
  simp only [cg]
  cases h1:(k.act == act&&(k.kind == 4||m.bw == bG)) with
  | false=>exact h
  | true=>
   simp only [cg,CA]
   have hn:=kv.need
   cases h2:(k.kind == 1) with
   | true=>
    have hk:=beq_iff_eq.1 h2
    simp only [cg,Cz]
    cases h3:(m.got+1 == k.need) with
    | true=>
     have h3':=beq_iff_eq.1 h3
     refine wp.2 (.inr (.inr (.inr ⟨.inl rfl,?_⟩)))
     have e1:decide (0≤m.got+1)=true:=decide_eq_true (by omega)
     have e2:decide (m.got+1≤9)=true:=decide_eq_true (by omega)
     have e3:decide (-1≤m.bw)=true:=decide_eq_true (by omega)
     have e4:decide (m.bw < c.aR)=true:=decide_eq_true (by omega)
     show ((0:Int) == 0&&(decide (0≤m.got+1)&&(decide (m.got+1≤9)&&(decide (-1≤m.bw)&&(decide (m.bw < c.aR) && !false)))))=true
     rw [e1,e2,e3,e4];rfl
    | false=>
     have h3':=beq_eq_false_iff_ne.1 h3
     refine Zl hs (jz.2 ⟨b1,b2,b3,.inr ⟨hk,?_,?_⟩,b5⟩)
     ·show 0≤m.got+1;omega
     ·show m.got+1 < k.need;omega
   | false=>
    simp only [ck]
    cases h3:(k.kind == 2) with
    | true=>
     simp only [cg]
     cases m.bN with
     | true=>exact h
     | false=>exact Q0 kv rv hp (by omega)
    | false=>exact Q0 kv rv hp (by omega)
theorem ziY {c:ay} {i:Nat} {k:aS} {m:aj} {a:bq} (kv:KV c i k) (ht:0≤a.to∧a.to < c.aR) (h:jw c.aR k m=true):jw c.aR k (Za a k m)=true:=by
 unfold Za
 cases hr:qM m with
 | false=>exact h
 | true=>
  obtain ⟨rv,hb,hs⟩:=wF kv h hr
  obtain ⟨b1,b2,b3,b4,b5⟩:=jz.1 hb
  simp only [cg]
  cases h1:(!(k.kind == 4)&&k.bM == a.dh) with
  | false=>exact h
  | true=>
   simp only [uc,ug,beq_eq_false_iff_ne] at h1
   exact Zl hs (jz.2 ⟨b1,b2,b3,b4,.inr ⟨h1.1,ht.1,ht.2⟩⟩)
def eN (c:ay) (act:Int) (ms:List aj):List aj:=ms.mapIdx (eR c (wO act))
def ec (c:ay) (act:Int) (a:bq) (hs:List Int) (ms:List aj):List aj:=(eN c act ms).mapIdx (eR c (kP act (jT hs a)))
def iq (c:ay) (act:Int) (a:bq) (hs:List Int) (ms:List aj):List aj:=bif a.kind == 3 then (ec c act a hs ms).mapIdx (eR c (Za a)) else ec c act a hs ms
def hs3 (a:bq) (hs:List Int):List Int:=bif a.kind == 1 then hs else hs.set a.dh.toNat a.to
def lG (i:Nat) (a:bq) (us:List Bool):List Bool:=bif a.kind == 1 then us else us.set i true
theorem IR {c:ay} {act:Int} {ms:List aj} (ho:c.off.length < 4611686018427387904) (hv:(zI c).1=0) (ha:0≤act) (hm:iX c ms):iX c (eN c act ms):=
 hm.mapIdx _ fun i k m hk h=>zhi ha (xI ho hv hk) h
theorem Ez {c:ay} {act:Int} {a:bq} {hs:List Int} {ms:List aj} (ho:c.off.length < 4611686018427387904) (hv:(zI c).1=0) (ha:0≤act) (hm:iX c ms):iX c (ec c act a hs ms):=
 (IR ho hv ha hm).mapIdx _ fun i k m hk h=>zkA (by have:=(ql ho hv).aR;omega) (xI ho hv hk) h
theorem zmG {c:ay} {act:Int} {a:bq} {hs:List Int} {ms:List aj} (ho:c.off.length < 4611686018427387904) (hv:(zI c).1=0) (ha:0≤act) (av:Ey c a) (hm:iX c ms):iX c (iq c act a hs ms):=by
 unfold iq
 cases h3:(a.kind == 3) with
 | false=>exact Ez ho hv ha hm
 | true=>
  refine (Ez ho hv ha hm).mapIdx _ fun i k m hk h=>ziY (xI ho hv hk) ?_ h
  have:=beq_iff_eq.1 h3
  have:=av.kind
  omega
theorem zmH (c:ay) (day:Int) (hs:List Int) (us:List Bool) (ms:List aj) (i:Nat) (a:bq) (ho:c.off.length < 4611686018427387904) (hv:(zI c).1=0) (hh:hs.length=c.aE.length) (hu:us.length=c.aJ.length)
  (ha:c.aJ[i]?=some a) (hm:iX c ms) :
  JE i c day hs hs.length us us.length ms ms.length=(bif !(a.kind == 1)&&us[i]?.getD false then some (hs,us,ms) else
   (yd c day (hs3 a hs) (lG i a us) (iq c i a hs ms)).bind fun r=>some (hs3 a hs,lG i a us,r)):=by
 have sm:=ql ho hv
 have dZ:=sm.aA
 have hl:=hm.1
 have av:=YA hv ha
 have hia:i < c.aJ.length:=(ud.1 ha).1
 have pY:i < us.length:=by omega
 unfold JE
 have eU:(bif a.kind == 1 then some false else (ub (zl us.length (i:Int)) fun k1=>(ub (us[k1]?) fun e2=>some e2)))=some (!(a.kind == 1)&&us[i]?.getD false):=by
  simp only [zF pY,aX,ua pY,ux]
  cases (a.kind == 1)<;>rfl
 simp only [zq ha,aX]
 rw [eU]
 simp only [aX]
 cases fQ:(!(a.kind == 1)&&us[i]?.getD false) with
 | true=>rfl
 | false=>
  simp only [ck,xG,aX]
  rw [wN ms (eR c (wO i)) (by omega) ?p1]
  case p1=>
   intro j m s h1 h2 h3
   have hj:j < ms.length:=(ud.1 h1).1
   have hk:=ua (show j < c.aA.length by omega)
   simp only [zF hj,aX,h3,Qo,eR,hk,wO]
   generalize c.aA[j]=k at hk
   cases o6:qM m with
   | false=>simp only [ck,aX,xb h3]
   | true=>
    simp only [cg,zq hk,aX]
    cases ((i:Int) == k.aT) with
    | true=>simp only [cg,aX,uh,ck]
    | false=>
     simp only [ck]
     cases ((i:Int) == k.resume) with
     | true=>simp only [cg,aX,uh,ck]
     | false=>simp only [ck,aX,uh,xb h3]
  simp only [aX,uq]
  show ub (dQ hs.length hs.length) _=_
  simp only [JI,aX,wn (show ms.length=(ms.mapIdx (eR c (wO (i:Int)))).length by simp)]
  rw [zmF c _ i a ha (by have:=av.bM;simp only;omega)]
  simp only [aX]
  have EA:=IR (act:=(i:Int)) ho hv (by omega) hm
  have Bj:(ms.length:Int)=((eN c i ms).length:Int):=by simp [eN]
  show ub (ub (aH (ms.length:Int) _ (eN c i ms)) _) _=_
  rw [Bj]
  rw [wN (eN c i ms) (eR c (kP i (jT hs a))) (by simp [eN];omega) ?p2]
  case p2=>
   intro j m s h1 h2 h3
   have fS:j < (eN c i ms).length:=(ud.1 h1).1
   have hj:j < ms.length:=by simpa [eN] using fS
   have hk:=ua (show j < c.aA.length by omega)
   have kv:=xI ho hv hk
   have hmk:=EA.2 j _ _ hk h1
   simp only [zF hj,aX,h3,Qo,eR,hk,kP]
   generalize c.aA[j]=k at hk kv hmk
   cases o6:qM m with
   | false=>simp only [ck,aX,xb h3]
   | true=>
    obtain ⟨rv,hb,hst⟩:=wF kv hmk o6
    simp only [cg,zq hk,aX]
    have eT:(bif k.act == (i:Int) then (bif k.kind == 4 then some true else some (m.bw == jT hs a)) else some false)=some (k.act == (i:Int)&&(k.kind == 4||m.bw == jT hs a)):=by
     cases (k.act == (i:Int))<;>cases (k.kind == 4)<;>rfl
    rw [eT]
    simp only [aX]
    cases (k.act == (i:Int)&&(k.kind == 4||m.bw == jT hs a)) with
    | false=>simp only [ck,aX,uh,xb h3]
    | true=>
     have hgot:=rv.got
     have IU:=kv.need
     have rD:(k.kind == 0)=false:=beq_eq_false_iff_ne.2 (by have:=kv.kind;omega)
     simp only [cg,rD,ck,Yf,Ye,wY,zF hj,aX,h3,vJ h3,zq hk,CA,Cz]
     rw [qz (show -9223372036854775808≤m.got+1 by omega) (by omega)]
     rw [Wk j 3 _ _ _ _ _ _ _ _ _ hj h3,Wk j 3 _ _ _ _ _ _ _ _ _ hj (vJ h3),Wk j 4 _ _ _ _ _ _ _ _ _ hj h3]
     simp only [aX,uH]
     cases e1:(k.kind == 1) with
     | true=>cases (m.got+1 == k.need)<;>simp
     | false=>
      cases e2:(k.kind == 2) with
      | true=>cases m.bN<;>simp [xb h3]
      | false=>
       cases e3:(k.kind == 3) with
       | true=>simp
       | false=>
        have h4:(k.kind == 4)=true:=beq_iff_eq.2 (by have:=kv.kind;have:=beq_eq_false_iff_ne.1 e1;have:=beq_eq_false_iff_ne.1 e2;have:=beq_eq_false_iff_ne.1 e3;omega)
        simp [h4]
  simp only [aX,uq]
  show ub (bif a.kind == 1 then some (hs,us,ec c i a hs ms) else _) _=_
  have m2ok:=Ez (act:=(i:Int)) (a:=a) (hs:=hs) ho hv (by omega) hm
  cases h1:(a.kind == 1) with
  | true=>
   have h3:(a.kind == 3)=false:=beq_eq_false_iff_ne.2 (by have:=beq_iff_eq.1 h1;omega)
   simp only [cg,aX,hs3,lG,iq,h1,h3,ck]
   unfold yd
   rw [show (ec c i a hs ms).length=ms.length by simp [ec,eN]]
  | false=>
   have hak:=av.kind.resolve_left (beq_eq_false_iff_ne.1 h1)
   have hg:a.dh.toNat < hs.length:=by omega
   simp only [ck,Yg,zq ha,aX]
   rw [QO (show 0≤a.dh by omega) (by omega),zF pY]
   simp only [aX,ua hg,ua pY,xG,hs3,lG,iq,h1,ck]
   cases h3:(a.kind == 3) with
   | false=>
    simp only [ck,aX]
    unfold yd
    rw [show (ec c i a hs ms).length=ms.length by simp [ec,eN],uA,uA]
    rfl
   | true=>
    simp only [cg]
    have gP:(ms.length:Int)=((ec c i a hs ms).length:Int):=by simp [ec,eN]
    rw [gP,show List.mapIdx (eR c (kP (i:Int) (jT hs a))) (eN c i ms)=ec c i a hs ms from rfl]
    rw [wN (ec c i a hs ms) (eR c (Za a)) (by simp [ec,eN];omega) ?p3]
    case p3=>
     intro j m s h1 h2 h3
     have fS:j < (ec c i a hs ms).length:=(ud.1 h1).1
     have hj:j < ms.length:=by simpa [ec,eN] using fS
     have hk:=ua (show j < c.aA.length by omega)
     simp only [zF hj,aX,h3,Qo,eR,hk,Za]
     generalize c.aA[j]=k at hk
     cases o6:qM m with
     | false=>simp only [ck,aX,xb h3]
     | true=>
      simp only [cg,zq hk,aX]
      cases (k.kind == 4) with
      | true=>simp only [cg,aX,uh,uj,ck,xb h3]
      | false=>
       simp only [ck,aX,ul,uk]
       cases (k.bM == a.dh) with
       | true=>simp only [cg,aX,uh,ck]
       | false=>simp only [ck,aX,uh,xb h3]
    simp only [aX,uq]
    unfold yd
    rw [show ((ec c i a hs ms).mapIdx (eR c (Za a))).length=ms.length by simp [ec,eN],uA,uA]
def IW:ak:={day:=0,aE:=[],used:=[],aI:=[]}
def EB (c:ay) (i:Nat) (a:bq) (s r:ak):Prop:=
 (a.kind≠1∧s.used[i]?=some true∧r=s)∨((a.kind=1∨s.used[i]?=some false)∧r.day=s.day∧r.aE=hs3 a s.aE∧r.used=lG i a s.used∧dH c (hs3 a s.aE) (iq c i a s.aE s.aI) r.aI)
def IX (c:ay) (s r:ak):Prop:=r.day=s.day+1∧r.aE=s.aE∧r.used=s.used∧dH c s.aE (s.aI.mapIdx (eR c (ki (jE c.off s.day).isSome))) r.aI
theorem Q1 {b n:Nat} (h:n < 1000) (hb:b≤1000):eD b (n:Int)=some n:=by
 unfold eD
 have:n*b≤1000*1000:=Nat.mul_le_mul (by omega) hb
 rw [if_pos ⟨by omega,by omega,by omega⟩];simp
theorem Vd {α:Type} {l d:List α} {k:Nat} (h:k=d.length) (h2:l.length=k):wa k d l=some l:=by unfold wa;rw [if_pos ⟨h,h2⟩]
theorem zkB {α:Type} {l:List α} {i:Nat} {x y:α} (h:y∈l.set i x):y∈l∨y=x:=List.mem_or_eq_of_mem_set h
theorem zi0 {c:ay} {s:ak} {a:Int} (hc:c.Ok) (hv:VS c s) (h1 : -1≤a) (h2:a < c.aJ.length) (hd:s.day < c.bl) :
  aq (dx c s a) (fun r=>r.2=0∧VS c r.1∧(a = -1→IX c s r.1)∧(∀ (i:Nat) (x:bq),a=(i:Int)→c.aJ[i]?=some x→EB c i x s r.1)):=by
 have ho:=hc.off.lt (by omega:0 < 8)
 have sm:=ql ho hv.cv
 have s1:=sm.aE
 have s2:=sm.aJ
 have s3:=sm.aA
 have sd:=sm.bl
 have sX:=hv.lh
 have CB:=hv.lu
 have sY:=hv.lm
 have gB:=hv.day
 have hmo:iX c s.aI:=⟨sY,fun i k m hk hm=>hv.tQ i k m hk hm⟩
 unfold dx
 have e1:decide (a < -1)=false:=decide_eq_false (by omega)
 have e2:decide ((c.aJ.length:Int)≤a)=false:=decide_eq_false (by omega)
 refine aq.az (v:=false) (by rw [wm c s hc,ZS hv,e1,e2];rfl) ?_
 refine aq.ite (fun h=>by cases h) (fun _ => ?_)
 refine aq.ite (fun h=>absurd (beq_iff_eq.1 h) (by omega)) (fun _ => ?_)
 refine aq.az (Q1 (show s.aE.length < 1000 by omega) (by omega)) ?_
 refine aq.az (Q1 (show s.used.length < 1000 by omega) (by omega)) ?_
 refine aq.az (Q1 (show s.aI.length < 1000 by omega) (by omega)) ?_
 refine aq.az (Vd (by simp) rfl) ?_
 refine aq.az (Vd (by simp) rfl) ?_
 refine aq.az (Vd (by simp) rfl) ?_
 cases ht:(a == (-1:Int)) with
 | true=>
  have ha:=beq_iff_eq.1 ht
  simp only [cg]
  rw [zkz c s.day s.aE s.used s.aI ho hv.cv hmo (by omega)]
  have EC:iX c (s.aI.mapIdx (eR c (ki (jE c.off s.day).isSome))):=hmo.mapIdx _ fun i k m hk h=>ziX _ (xI ho hv.cv hk) (by have:=sm.aR;omega) h
  refine aq.bind (P:=fun v:List Int×List Bool×List aj×Int=>v.1=s.aE∧v.2.1=s.used∧v.2.2.2=s.day+1∧dH c s.aE (s.aI.mapIdx (eR c (ki (jE c.off s.day).isSome))) v.2.2.1)
   (aq.bind (XJ c (s.day+1) s.aE s.used _ ho hv.cv sX hv.hold EC) fun r hr=>aq.some ⟨rfl,rfl,qz (by omega) (by omega),hr⟩) ?_
  rintro ⟨v1,v2,v3,v4⟩ ⟨q1,q2,q3,q4⟩
  simp only at q1 q2 q3 q4
  subst q1;subst q2;subst q3
  have og:s.aI.length=v3.length:=by have:=q4.ok.1;omega
  simp only [JI,wn og,aX]
  refine aq.some ⟨rfl,⟨hv.cv,⟨by show 0≤s.day+1;omega,by show s.day+1≤c.bl;omega⟩,sX,CB,q4.ok.1,hv.hold,hv.used,q4.ok.2,q4.nr⟩,fun _=>⟨rfl,rfl,rfl,q4⟩,fun i x hi=>by omega⟩
 | false=>
  have ha:=beq_eq_false_iff_ne.1 ht
  obtain ⟨i,rfl⟩:∃ i:Nat,a=(i:Int):=⟨a.toNat,by omega⟩
  have hi:i < c.aJ.length:=by omega
  have hx:=ua hi
  generalize c.aJ[i]=x at hx
  have av:=YA hv.cv hx
  simp only [ck]
  rw [zmH c s.day s.aE s.used s.aI i x ho hv.cv sX CB hx hmo]
  have pY:i < s.used.length:=by omega
  cases fQ:(!(x.kind == 1)&&s.used[i]?.getD false) with
  | true=>
   simp only [cg,aX,JI]
   refine aq.some ⟨rfl,hv,fun h=>by omega,fun j y hj hy => ?_⟩
   obtain rfl:i=j:=by omega
   rw [hx] at hy;cases hy
   simp only [uc,ug,beq_eq_false_iff_ne,ua pY,ux] at fQ
   exact .inl ⟨fQ.1,by rw [ua pY,fQ.2],rfl⟩
  | false=>
   simp only [ck]
   have tR:=av.kind
   have IY:(hs3 x s.aE).length=c.aE.length:=by unfold hs3;cases (x.kind == 1)<;>simp [sX]
   have hu3:(lG i x s.used).length=c.aJ.length:=by unfold lG;cases (x.kind == 1)<;>simp [CB]
   have Bk:∀ h∈hs3 x s.aE,0≤h∧h < c.aR:=by
    unfold hs3
    cases hk1:(x.kind == 1) with
    | true=>exact hv.hold
    | false=>
     intro h hh
     have:=tR.resolve_left (beq_eq_false_iff_ne.1 hk1)
     rcases zkB hh with h' | h'
     ·exact hv.hold h h'
     ·omega
   have ED:∀ (j:Nat) (y:bq),c.aJ[j]?=some y→(lG i x s.used)[j]?=some true→y.kind≠1:=by
    unfold lG
    cases hk1:(x.kind == 1) with
    | true=>exact hv.used
    | false=>
     intro j y hy hj
     simp only [ck] at hj
     rw [uu] at hj
     by_cases hij:i=j
     ·subst hij
      rw [hx] at hy;cases hy
      exact beq_eq_false_iff_ne.1 hk1
     ·rw [if_neg hij] at hj;exact hv.used j y hy hj
   refine aq.bind (P:=fun v:List Int×List Bool×List aj×Int=>v.1=hs3 x s.aE∧v.2.1=lG i x s.used∧v.2.2.2=s.day∧dH c (hs3 x s.aE) (iq c i x s.aE s.aI) v.2.2.1)
    (aq.bind (P:=fun v:List Int×List Bool×List aj=>v.1=hs3 x s.aE∧v.2.1=lG i x s.used∧dH c (hs3 x s.aE) (iq c i x s.aE s.aI) v.2.2) (aq.bind (XJ c s.day _ (lG i x s.used) _ ho hv.cv IY Bk (zmG ho hv.cv (by omega) av hmo)) fun r hr=>aq.some ⟨rfl,rfl,hr⟩) fun v nC=>aq.some ⟨nC.1,nC.2.1,rfl,nC.2.2⟩) ?_
   rintro ⟨v1,v2,v3,v4⟩ ⟨q1,q2,q3,q4⟩
   simp only at q1 q2 q3 q4
   subst q1;subst q2;subst q3
   have og:s.aI.length=v3.length:=by have:=q4.ok.1;omega
   simp only [wn (show s.aE.length=(hs3 x s.aE).length by omega),wn (show s.used.length=(lG i x s.used).length by omega),wn og,aX]
   refine aq.some ⟨rfl,⟨hv.cv,gB,IY,hu3,q4.ok.1,Bk,ED,q4.ok.2,q4.nr⟩,fun h=>by omega,fun j y hj hy => ?_⟩
   obtain rfl:i=j:=by omega
   rw [hx] at hy;cases hy
   refine .inr ⟨?_,rfl,rfl,rfl,q4⟩
   simp only [Bool.and_eq_false_iff,Bool.not_eq_false',beq_iff_eq,ua pY,ux] at fQ
   rcases fQ with h | h
   ·exact .inl h
   ·exact .inr (by rw [ua pY,h])
end Go.Proofs.YtgpojcfkanjabaaGreatDoor
