/-
  Functions of the program: what they compute, and plans of their code that the kernel checks (printed by a program of ours).
  What 'contract.Valid' comes to.
  What Valid says.
  What 'slices.BinarySearch' comes to; sizes of valid contracts.
  What 'system.Valid' comes to.
  What is known of a valid contract; what 'start' does.
  What 'system.Step' does.
-/
import Derived.Test.YtlpmnmbebkdocaaGreatDoorTB11
import Derived.Test.YtlpmnmbebkdocaaGreatDoorTB07
open List renaming getElem?_eq_getElem → ub, map → uc, getElem?_eq_some_iff → ue, all_eq_true → uh, getElem_mem → uo, range → uq, getElem_of_mem → ur, getElem?_set → uv, mem_range → uz, idxOf_lt_length_iff → uA, replicate → uC, getElem?_mapIdx → uD, getElem_idxOf → uE, take → uF, mem_cons → uH, set_set → uJ
open Option renaming bind → ua
open Bool renaming and_eq_true → ud, not_eq_true' → ug, false_and → ui, true_and → uj, not_false → uk, not_true → ul, cond_false_right → un, eq_false_iff → uu, or_eq_false_iff → uw, or_eq_true → ux, and_false → uG, true_or → uI
open Nat renaming lt_or_ge → uB
open Sum renaming elim → um, elim_inl → ut, elim_inr → uy
namespace Go.Proofs.YtlpmnmbebkdocaaGreatDoor
open Go.RowKit
set_option linter.unusedSimpArgs false
set_option linter.unusedVariables false
set_option maxRecDepth 100000
noncomputable def kL (c:ax) (ay:List Int):Option (ax×Int):=
 (ua (xm c) fun r1=>(bif (r1.1 == 0) then (ua (aD (σ:=Int) (ρ:=Unit) (ay.length:Int) (fun i1 s1=>(ua (ze ay (i1:Int)) fun e1=>(ua (bif decide (e1≤s1) then some true else some (decide ((c.ay.length:Int)≤e1))) fun v1=>(bif v1 then some (.inr ()) else some (.inl e1))))) (-1)) (um (fun (s1:Int)=>(ua (zR 8 c.aE) fun e2=>(ua (zR 48 c.bE) fun e3=>(ua (zR 56 c.aK) fun e4=>(ua (zR 8 c.off) fun e5=>(ua (ei 136 (ay.length:Int)) fun k1=>(ua (aD (σ:=(List aO)) (ρ:=Unit) (ay.length:Int) (fun i2 s2=>(ua (ze ay (i2:Int)) fun e6=>(ua (ze c.ay e6) fun e7=>(ua (zR 16 e7.start) fun e8=>(ua (aD (σ:=(List bl)) (ρ:=Unit) (e8.length:Int) (fun i3 s3=>(ua (zi e8.length (i3:Int)) fun k2=>(ua (s3[k2]?) fun e9=>(ua (jg ay e9.clause) fun r2=>(bif r2.2 then (ua (zi e8.length (i3:Int)) fun k3=>(ua (s3[k3]?) fun dW=>some (.inl (s3.set k3 ({clause:=r2.1,is:=dW.is}:bl))))) else some (.inr ())))))) e8) (um (fun (s3:(List bl))=>(ua (zi k1 (i2:Int)) fun k4=>(ua (s2[k4]?) fun lF=>some (.inl (s2.set k4 ({e7 with start:=uF e8.length s3}:aO)))))) (fun (y2:Unit)=>some (.inr ())))))))) (uC k1 ({kind:=0,bK:=0,act:=0,need:=0,start:=[],after:=0,br:=0,bC:=false,final:=false,bg:=0,resume:=0,value:=({num:=0,den:=0}:aQ),unit:=0,to:=0,bt:=false}:aO))) (um (fun (s2:(List aO))=>(ua (dH k1 s2.length) fun g1=>some (({aW:=c.aW,aE:=e2,bE:=e3,aK:=e4,ay:=s2,aX:=c.aX,off:=e5}:ax),0))) (fun (y3:Unit)=>some (({aW:=0,aE:=[],bE:=[],aK:=[],ay:=[],aX:=0,off:=[]}:ax),1)))))))))) (fun (y1:Unit)=>some (({aW:=0,aE:=[],bE:=[],aK:=[],ay:=[],aX:=0,off:=[]}:ax),1)))) else some (({aW:=0,aE:=[],bE:=[],aK:=[],ay:=[],aX:=0,off:=[]}:ax),1)))
noncomputable def zmJ (c:ax) (ay:List Int):aB (ax×Int):=
 .aA 1 (.call 3700 (Wv c) fun r1=>.use 1 3700 (.ite 3678 (r1.1 == 0) (.sel 3679 (.aA 1 (.ln 3740 zb ay (.use 1 3740 (.aD (σ:=Int) (ρ:=Unit) 3680 28 (ay.length:Int) (-1) (.e [1,2,4,26,27] (fun s1=>[(8,vI s1)]) [0,1] 16) (fun i1 s1=>.sel 3680 (.aA 0 (.ix 3702 zb ay (i1:Int) fun e1=>.use 0 3702 (.cut (β:=Bool) 2 (.e [1,2,4,26,27,28,10] (fun v1=>[(41,vB v1)]) [0,1] 30) (.aA 0 (.ite 3682 (decide (e1≤s1)) (.use 4 3682 (.ret true)) (.use 4 3682 (.ln 3704 aO.row c.ay (.use 7 3704 (.ret (decide ((c.ay.length:Int)≤e1)))))))) fun v1=>.ite 3684 v1 (.sel 3684 (.ret (.inr ()))) (.sel 3684 (.ret (.inl e1))))))) fun os1=>.case os1 (fun s1=>.sel 3680 (.aA 1 (.b1 3706 (zR 8 c.aE) (fun e2=>.c [] 0 (.Zai 29 0 e2.length) [(29,.af 1 (zc zb e2))] 8) (fun e2 eu=>(zf (kF zb (fun _=>rfl) eu) [] 22 (.keep .nil) bw (bH bw))) fun e2=>.use 2 3706 (.aA 0 (.b1 3708 (zR 48 c.bE) (fun e3=>.c [] 0 (.Zai 42 0 e3.length) [(42,.af 5 (zc bZ.row e3))] 8) (fun e3 fT=>(zf (zhf bZ.row (fun _=>rfl) fT) [] 35 (.keep .nil) bw (bH bw))) fun e3=>.use 2 3708 (.aA 0 (.b1 3710 (zR 56 c.aK) (fun e4=>.c [] 0 (.Zai 55 0 e4.length) [(55,.af 7 (zc aZ.row e4))] 8) (fun e4 iA=>(zf (zhg aZ.row (fun _=>rfl) iA) [] 48 (.keep .nil) bw (bH bw))) fun e4=>.use 2 3710 (.aA 0 (.b1 3712 (zR 8 c.off) (fun e5=>.c [] 0 (.Zai 68 0 e5.length) [(68,.af 1 (zc zb e5))] 8) (fun e5 nN=>(zf (kF zb (fun _=>rfl) nN) [] 61 (.keep .nil) bw (bH bw))) fun e5=>.use 2 3712 (.aA 0 (.b1 3714 (ei 136 (ay.length:Int)) (fun k1=>.m k1 (uC k1 [vI 0,vI 0,vI 0,vI 0,.nil,vI 0,vI 0,vB false,vB false,vI 0,vI 0,vI 0,vI 0,vI 0,vI 0,vB false])) (fun k1 hk1=>(GW [vI 0,vI 0,vI 0,vI 0,.nil,vI 0,vI 0,vB false,vB false,vI 0,vI 0,vI 0,vI 0,vI 0,vI 0,vB false] hk1)) fun k1=>.ln 3738 zb ay (.us [(1,3738),(2,3714)] (.cC 0 [P2 74 16 k1 [vI 0,vI 0,vI 0,vI 0,.nil,vI 0,vI 0,vB false,vB false,vI 0,vI 0,vI 0,vI 0,vI 0,vI 0,vB false] aO.row ({kind:=0,bK:=0,act:=0,need:=0,start:=[],after:=0,br:=0,bC:=false,final:=false,bg:=0,resume:=0,value:=({num:=0,den:=0}:aQ),unit:=0,to:=0,bt:=false}:aO) (.cons (.refl _) (.cons (.refl _) (.cons (.refl _) (.cons (.refl _) (.cons .nil (.cons (.refl _) (.cons (.refl _) (.cons (.refl _) (.cons (.refl _) (.cons (.refl _) (.cons (.refl _) (.cons (.refl _) (.cons (.refl _) (.cons (.refl _) (.cons (.refl _) (.cons (.refl _) .nil))))))))))))))))] (.aA 0 (.ln 3736 zb ay (.use 1 3736 (.aD (σ:=(List aO)) (ρ:=Unit) 3686 68 (ay.length:Int) (uC k1 ({kind:=0,bK:=0,act:=0,need:=0,start:=[],after:=0,br:=0,bC:=false,final:=false,bg:=0,resume:=0,value:=({num:=0,den:=0}:aQ),unit:=0,to:=0,bt:=false}:aO)) (.k [1,2,4,11,66,67] (fun _=>[]) [0,1,18] (fun s2=>[(29,.af 1 (zc zb e2)),(42,.af 5 (zc bZ.row e3)),(55,.af 7 (zc aZ.row e4)),(68,.af 1 (zc zb e5)),(74,.af 16 (zc aO.row s2))]) 80 fun _=>(.af rfl (.af rfl (.af rfl (.af rfl (.af rfl .nil)))))) (fun i2 s2=>.sel 3686 (.aA 0 (.ix 3716 zb ay (i2:Int) fun e6=>.use 1 3716 (.aA 0 (.ix 3718 aO.row c.ay e6 fun e7=>.use 3 3718 (.aA 0 (.b1 3720 (zR 16 e7.start) (fun e8=>.c [] 0 (.Zai 102 0 e8.length) [(102,.af 2 (zc bl.row e8))] 8) (fun e8 sY=>(zf (zhh bl.row (fun _=>rfl) sY) [] 95 (.keep .nil) bw (bH bw))) fun e8=>.use 2 3720 (.aD (σ:=(List bl)) (ρ:=Unit) 3694 85 (e8.length:Int) e8 (.k [1,2,4,11,66,67,68,12,14,84] (fun _=>[]) [0,1,18,91] (fun s3=>[(29,.af 1 (zc zb e2)),(42,.af 5 (zc bZ.row e3)),(55,.af 7 (zc aZ.row e4)),(68,.af 1 (zc zb e5)),(74,.af 16 (zc aO.row s2)),(102,.af 2 (zc bl.row s3))]) 110 fun _=>(.af rfl (.af rfl (.af rfl (.af rfl (.af rfl (.af rfl .nil))))))) (fun i3 s3=>.sel 3694 (.aA 1 (.b1 3722 (zi e8.length (i3:Int)) (fun k2=>.k k2) (fun k2 hk2=>(zn hk2)) fun k2=>.b1 3724 (s3[k2]?) (fun e9=>.ar (zt (bl.row e9))) (fun e9 Bg=>(zT bl.row Bg)) fun e9=>.call 3726 (QT ay e9.clause) fun r2=>.us [(4,3722),(6,3724),(7,3726)] (.ite 3698 r2.2 (.sel 3699 (.aA 0 (.b1 3728 (zi e8.length (i3:Int)) (fun k3=>.k k3) (fun k3 gR=>(zn gR)) fun k3=>.b1 3730 (s3[k3]?) (fun dW=>.aw (zt (bl.row dW)) (zc bl.row (s3.set k3 ({clause:=r2.1,is:=dW.is}:bl)))) (fun dW mS=>(zP bl.row ({clause:=r2.1,is:=dW.is}:bl) mS)) fun dW=>.us [(4,3728),(6,3730)] (.ret (.inl (s3.set k3 ({clause:=r2.1,is:=dW.is}:bl))))))) (.sel 3699 (.ret (.inr ()))))))) fun os3=>.case os3 (fun s3=>.sel 3694 (.cC 0 [P1 102 2 [91] bl.row s3 e8.length] (.aA 0 (.b1 3732 (zi k1 (i2:Int)) (fun k4=>.k k4) (fun k4 iy=>(zn iy)) fun k4=>.b1 3734 (s2[k4]?) (fun lF=>.aw (zt (aO.row lF)) (zc aO.row (s2.set k4 ({e7 with start:=uF e8.length s3}:aO)))) (fun lF sZ=>(zP aO.row ({e7 with start:=uF e8.length s3}:aO) sZ)) fun lF=>.us [(4,3732),(5,3734)] (.ret (.inl (s2.set k4 ({e7 with start:=uF e8.length s3}:aO)))))))) fun y2=>.ret (.inr ()))))))))) fun os2=>.case os2 (fun s2=>.sel 3686 (.bind (dH k1 s2.length) (fun _=>[]) (fun _ _=>.nil) fun g2=>.fin [29,42,55,74,68] (.tuple [.agg [vI c.aW,.Zai 29 0 e2.length,.Zai 42 0 e3.length,.Zai 55 0 e4.length,.Zai 74 0 k1,vI c.aX,.Zai 68 0 e5.length],vI 0]) [(29,.af 1 (zc zb e2)),(42,.af 5 (zc bZ.row e3)),(55,.af 7 (zc aZ.row e4)),(74,.af 16 (zc aO.row s2)),(68,.af 1 (zc zb e5))] (.tuple [.agg (ax.row ((({aW:=c.aW,aE:=e2,bE:=e3,aK:=e4,ay:=s2,aX:=c.aX,off:=e5}:ax),0).1)),.int .i64 ((({aW:=c.aW,aE:=e2,bE:=e3,aK:=e4,ay:=s2,aX:=c.aX,off:=e5}:ax),0).2)]) (jO _ _ _ (zB (Dz (zB (Zd (zB (qL _) (zB (yZ zb 29 1 e2 rfl) (zB (yZ bZ.row 42 5 e3 rfl) (zB (yZ aZ.row 55 7 e4 rfl) (zB (xh aO.row 74 16 k1 s2 g2.down rfl) (zB (qL _) (zB (yZ zb 68 1 e5 rfl) q9)))))))) (zB (qL _) q9))) q9)) (({aW:=c.aW,aE:=e2,bE:=e3,aK:=e4,ay:=s2,aX:=c.aX,off:=e5}:ax),0))) fun y3=>.ret (({aW:=0,aE:=[],bE:=[],aK:=[],ay:=[],aX:=0,off:=[]}:ax),1)))))))))))))))))) fun y1=>.ret (({aW:=0,aE:=[],bE:=[],aK:=[],ay:=[],aX:=0,off:=[]}:ax),1)))))) (.sel 3679 (.ret (({aW:=0,aE:=[],bE:=[],aK:=[],ay:=[],aX:=0,off:=[]}:ax),1)))))
theorem Lf (c:ax) (ay:List Int) (res:ax×Int) (hd:kL c ay=some res):aJ C0 15 [.agg (ax.row c),.slice (uc zb ay)] (.tuple [.agg (ax.row res.1),.int .i64 res.2]):=
 aB.pure (iv:=fun res=>.tuple [.agg (ax.row res.1),.int .i64 res.2]) (zmJ c ay) (by kernel_rfl) (aB.aC hd (by kernel_rfl))
noncomputable def xp (ay:List Int) (s:aG):Option aG:=
 (ua (zR 8 s.aE) fun e1=>(ua (zR 1 s.used) fun e2=>(ua (aD (σ:=(List aj)) (ρ:=Unit) (ay.length:Int) (fun i1 s1=>(ua (ze ay (i1:Int)) fun e3=>(ua (ze s.aI e3) fun e4=>(ua (zJ (α:=aj) 40 s1 [e4]) fun e5=>some (.inl e5))))) []) (um (fun (s1:(List aj))=>some ({day:=s.day,aE:=e1,used:=e2,aI:=s1}:aG)) (fun _=>none)))))
noncomputable def zcH (ay:List Int) (s:aG):aB aG:=
 .aA 1 (.b1 3746 (zR 8 s.aE) (fun e1=>.c [] 0 (.Zai 20 0 e1.length) [(20,.af 1 (zc zb e1))] 8) (fun e1 ec=>(zf (kF zb (fun _=>rfl) ec) [] 13 (.keep .nil) bw (bH bw))) fun e1=>.b1 3748 (zR 1 s.used) (fun e2=>.c [] 0 (.Zai 28 0 e2.length) [(28,.af 1 (zc zg e2))] 8) (fun e2 eu=>(zf (Ys zg (fun _=>rfl) eu) [] 21 (.keep .nil) bw (bH bw))) fun e2=>.us [(4,3746),(7,3748)] (.aA 0 (.ln 3756 zb ay (.use 1 3756 (.cC 1 [Qh 11 5 0 3] (.aD (σ:=(List aj)) (ρ:=Unit) 3744 19 (ay.length:Int) [] (.k [3,4,5,17,18] (fun _=>[]) [0,1] (fun s1=>[(20,.af 1 (zc zb e1)),(28,.af 1 (zc zg e2)),(11,.af 4 [[vI s.day,.Zai 20 0 e1.length,.Zai 28 0 e2.length,.aS 32 (uc aj.row s1)]]),(32,.aT 5 s1.length)]) 33 fun _=>(.af rfl (.af rfl (.exp rfl rfl (.exp rfl rfl .nil))))) (fun i1 s1=>.sel 3744 (.aA 0 (.ix 3750 zb ay (i1:Int) fun e3=>.use 0 3750 (.aA 0 (.ix 3752 aj.row s.aI e3 fun e4=>.b1 3754 (zJ (α:=aj) 40 s1 [e4]) (fun e5=>.a (uc aj.row e5) e5.length) (fun e5 nN=>(qm aj.row 5 40 (fun _=>rfl) nN)) fun e5=>.us [(5,3752),(8,3754)] (.ret (.inl e5))))))) fun os1=>.case os1 (fun s1=>.sel 3744 (.fin [20,28,32] (.agg [vI s.day,.Zai 20 0 e1.length,.Zai 28 0 e2.length,.aS 32 (uc aj.row s1)]) [(20,.af 1 (zc zb e1)),(28,.af 1 (zc zg e2)),(32,.aT 5 s1.length)] (.agg (aG.row ({day:=s.day,aE:=e1,used:=e2,aI:=s1}:aG))) (jO _ _ _ (zB (Zd (zB (qL _) (zB (yZ zb 20 1 e1 rfl) (zB (yZ zg 28 1 e2 rfl) (zB (Pn _ _) q9))))) q9)) ({day:=s.day,aE:=e1,used:=e2,aI:=s1}:aG))) fun _=>.none))))))
theorem XN (ay:List Int) (s:aG) (res:aG) (hd:xp ay s=some res):aJ C0 176 [.slice (uc zb ay),.agg (aG.row s)] (.agg (aG.row res)):=
 aB.pure (iv:=fun res=>.agg (aG.row res)) (zcH ay s) (by kernel_rfl) (aB.aC hd (by kernel_rfl))
noncomputable def QX (p1:List Int) (p2:ax) (p3:aG) (p4:Bool) (p5:Int) (p6:List (List Int)):Option (Int×(List (List Int))):=
 (ua (qD p2 p5 ({state:=p3,own:=p4}:aH)) fun r1=>(ua (ua (bif (r1.2 == 0) then (ua (yd p2 r1.1) fun r2=>(ua (ze r2 0) fun e1=>some (!e1))) else some false) fun v1=>(bif v1 then (ua (zJ (α:=List Int) 24 p6 [p1]) fun e2=>some e2) else some p6)) fun (v2:(List (List Int)))=>some (r1.2,v2)))
noncomputable def zmK (p1:List Int) (p2:ax) (p3:aG) (p4:Bool) (p5:Int) (p6:List (List Int)):aB (Int×(List (List Int))):=
 .aA 1 (.call 3780 (Yv p2 p5 ({state:=p3,own:=p4}:aH)) fun r1=>.use 3 3780 (.cut (β:=(List (List Int))) 1 (.k [10] (fun _=>[]) [0] (fun v2=>[(1,.af 1 [[.aS 2 (uc (zH zb) v2)]]),(2,.aT 1 v2.length)]) 26 fun _=>(.exp rfl rfl (.exp rfl rfl .nil))) (.cut (β:=Bool) 1 (.e [0,4,10] (fun v1=>[(27,vB v1)]) [0,1,2,3,4,13] 26) (.aA 0 (.ite 3776 (r1.2 == 0) (.call 3782 (YB p2 r1.1) fun r2=>.ix 3784 zg r2 0 fun e1=>.us [(3,3776),(5,3782),(6,3784)] (.ret (!e1))) (.use 3 3776 (.ret false)))) fun v1=>.ite 3778 v1 (.sel 3778 (.aA 0 (.b1 3786 (zJ (α:=List Int) 24 p6 [p1]) (fun e2=>.a (uc (zH zb) e2) e2.length) (fun e2 eu=>(qm (zH zb) 1 24 (fun _=>rfl) eu)) fun e2=>.use 3 3786 (.ret e2)))) (.sel 3778 (.ret p6))) fun v2=>.ret (r1.2,v2)))
theorem zmL (p1:List Int) (p2:ax) (p3:aG) (p4:Bool) (p5:Int) (p6:List (List Int)) (res:Int×(List (List Int))) (hd:QX p1 p2 p3 p4 p5 p6=some res):dm C0 179 [.ak (.slice (uc zb p1)),.agg (zt (ax.row p2)),.agg [vI p3.day,.ak (.slice (uc zb p3.aE)),.ak (.slice (uc zg p3.used)),.ak (.slice (uc aj.row p3.aI)),vB p4],.ptr 0 0 0,.ptr 1 0 0] [(0,.af 1 [[vI p5]]),(1,.af 1 [[.aS 2 (uc (zH zb) p6)]]),(2,.aT 1 p6.length)] 3 (vI res.1) [(0,.af 1 [[vI p5]]),(1,.af 1 [[.aS 2 (uc (zH zb) res.2)]]),(2,.aT 1 res.2.length)] 0:=
 aB.dB (R:=fun res=>vI res.1) (H:=fun res=>[(0,.af 1 [[vI p5]]),(1,.af 1 [[.aS 2 (uc (zH zb) res.2)]]),(2,.aT 1 res.2.length)]) (zmK p1 p2 p3 p4 p5 p6) (.exp rfl rfl (.exp rfl rfl (.exp rfl rfl .nil))) (fun _=>(.exp rfl rfl (.exp rfl rfl (.exp rfl rfl .nil)))) (by kernel_rfl) (fun _=>by kernel_rfl) (by kernel_rfl) (aB.aC hd (by kernel_rfl))
noncomputable def QY (p1:ax) (p2:Int) (p3:aH) (p4:Int) (p5:List (List Int)):Option (Int×(List (List Int))):=
 (ua (bif decide (p2 < 0) then some true else (bif decide (p1.aW≤p2) then some true else (ua (jD p1 p3.state) fun r1=>some (!r1)))) fun v1=>(bif v1 then some (1,p5) else (ua (ua (qj p1) fun r2=>(ua (aD (σ:=Int×(List (List Int))) (ρ:=Int×(List (List Int))) (r2.length:Int) (fun i1 s1=>(ua (ze r2 (i1:Int)) fun e1=>(ua (kL p1 e1) fun r3=>(ua (bif (r3.2 == 0) then (ua (xp e1 p3.state) fun r4=>(ua (QX e1 r3.1 r4 p3.own p4 s1.2) fun r5=>some (r5.1,r5.2))) else some (r3.2,s1.2)) fun (v2:Int×(List (List Int)))=>(bif (v2.1 == 0) then some (.inl (v2.1,v2.2)) else some (.inr (v2.1,v2.2))))))) (0,p5)) (um (fun (s1:Int×(List (List Int)))=>some (s1.1,s1.2)) (fun (y1:Int×(List (List Int)))=>some (y1.1,y1.2))))) fun (v3:Int×(List (List Int)))=>some (v3.1,v3.2))))
noncomputable def zmM (p1:ax) (p2:Int) (p3:aH) (p4:Int) (p5:List (List Int)):aB (Int×(List (List Int))):=
 .cut (β:=Bool) 4 (.e [3,4,6] (fun v1=>[(28,vB v1)]) [0,1,2,3,4] 21) (.aA 0 (.ite 3794 (decide (p2 < 0)) (.use 3 3794 (.f1 3810 (.g true) (rfl:true=true) (.use 9 3810 (.ret true)))) (.ite 3796 (decide (p1.aW≤p2)) (.us [(3,3794),(9,3796)] (.ret true)) (.call 3812 (vn p1 p3.state) fun r1=>.us [(3,3794),(9,3796),(12,3812)] (.ret (!r1)))))) fun v1=>.ite 3798 v1 (.sel 3798 (.ret (1,p5))) (.sel 3798 (.cut (β:=Int×(List (List Int))) 3 (.k [] (fun v3=>[(9,vI v3.1)]) [0] (fun v3=>[(1,.af 1 [[.aS 2 (uc (zH zb) v3.2)]]),(2,.aT 1 v3.2.length)]) 26 fun _=>(.exp rfl rfl (.exp rfl rfl .nil))) (.aA 0 (.call 3814 (ZO p1) fun r2=>.use 1 3814 (.ln 3824 (zH zb) r2 (.use 2 3824 (.aD (σ:=Int×(List (List Int))) (ρ:=Int×(List (List Int))) 3800 32 (r2.length:Int) (0,p5) (.k [3,4,6,30,31] (fun s1=>[(9,vI s1.1)]) [0,3,4] (fun s1=>[(1,.af 1 [[.aS 2 (uc (zH zb) s1.2)]]),(2,.aT 1 s1.2.length)]) 26 fun _=>(.exp rfl rfl (.exp rfl rfl .nil))) (fun i1 s1=>.sel 3800 (.aA 0 (.ix 3816 (zH zb) r2 (i1:Int) fun e1=>.use 0 3816 (.aA 0 (.call 3818 (Lf p1 e1) fun r3=>.use 2 3818 (.cut (β:=Int×(List (List Int))) 2 (.k [3,4,6,30,31,32] (fun v2=>[(9,vI v2.1)]) [0,3,4] (fun v2=>[(1,.af 1 [[.aS 2 (uc (zH zb) v2.2)]]),(2,.aT 1 v2.2.length)]) 43 fun _=>(.exp rfl rfl (.exp rfl rfl .nil))) (.ite 3806 (r3.2 == 0) (.sel 3806 (.aA 0 (.call 3820 (XN e1 p3.state) fun r4=>.b1 3822 (QX e1 r3.1 r4 p3.own p4 s1.2) (fun r5=>.c [0,1,2] 3 (vI r5.1) [(1,.af 1 [[.aS 2 (uc (zH zb) r5.2)]]),(2,.aT 1 r5.2.length)] 0) (fun r5 sX=>(zf (zmL e1 r3.1 r4 p3.own p4 s1.2 r5 sX) [0,1,2] 55 (.drop rfl rfl (.keep (.keep .nil))) (bI (bI (bI bw))) (bI (bI bw)))) fun r5=>.us [(6,3820),(10,3822)] (.ret (r5.1,r5.2))))) (.sel 3806 (.ret (r3.2,s1.2)))) fun v2=>.ite 3808 (v2.1 == 0) (.sel 3809 (.ret (.inl (v2.1,v2.2)))) (.sel 3809 (.ret (.inr (v2.1,v2.2)))))))))) fun os1=>.case os1 (fun s1=>.sel 3800 (.ret (s1.1,s1.2))) fun y1=>.ret (y1.1,y1.2)))))) fun v3=>.ret (v3.1,v3.2)))
theorem zmN (p1:ax) (p2:Int) (p3:aH) (p4:Int) (p5:List (List Int)) (res:Int×(List (List Int))) (hd:QY p1 p2 p3 p4 p5=some res):dm C0 177 [.agg (zt (ax.row p1)),vI p2,.agg (zt (aH.row p3)),.func 179 [] [.ptr 0 0 0,.ptr 1 0 0]] [(0,.af 1 [[vI p4]]),(1,.af 1 [[.aS 2 (uc (zH zb) p5)]]),(2,.aT 1 p5.length)] 3 (vI res.1) [(0,.af 1 [[vI p4]]),(1,.af 1 [[.aS 2 (uc (zH zb) res.2)]]),(2,.aT 1 res.2.length)] 0:=
 aB.dB (R:=fun res=>vI res.1) (H:=fun res=>[(0,.af 1 [[vI p4]]),(1,.af 1 [[.aS 2 (uc (zH zb) res.2)]]),(2,.aT 1 res.2.length)]) (zmM p1 p2 p3 p4 p5) (.exp rfl rfl (.exp rfl rfl (.exp rfl rfl .nil))) (fun _=>(.exp rfl rfl (.exp rfl rfl (.exp rfl rfl .nil)))) (by kernel_rfl) (fun _=>by kernel_rfl) (by kernel_rfl) (aB.aC hd (by kernel_rfl))
noncomputable def ye (c:ax) (zw:Int) (p:aH):Option ((List (List Int))×Int):=
 (ua (QY c zw p zw []) fun r1=>(bif (r1.1 == 0) then some (r1.2,0) else some ([],r1.1)))
noncomputable def zmO (c:ax) (zw:Int) (p:aH):aB ((List (List Int))×Int):=
 .cC 3 [Qh 5 1 0 0] (.aA 0 (.b1 3828 (QY c zw p zw []) (fun r1=>.c [1,5,6] 3 (vI r1.1) [(5,.af 1 [[.aS 6 (uc (zH zb) r1.2)]]),(6,.aT 1 r1.2.length)] 0) (fun r1 cz=>(zf (zmN c zw p zw [] r1 cz) [1,5,6] 11 (.drop rfl rfl (.keep (.keep .nil))) (bI (bI (bI bw))) (bI (bI bw)))) fun r1=>.use 4 3828 (.ite 3826 (r1.1 == 0) (.sel 3827 (.ret (r1.2,0))) (.sel 3827 (.ret ([],r1.1))))))
theorem Lg (c:ax) (zw:Int) (p:aH) (res:(List (List Int))×Int) (hd:ye c zw p=some res):aJ C0 178 [.agg (ax.row c),.int .i64 zw,.agg (aH.row p)] (.tuple [.slice (uc (zH zb) res.1),.int .i64 res.2]):=
 aB.pure (iv:=fun res=>.tuple [.slice (uc (zH zb) res.1),.int .i64 res.2]) (zmO c zw p) (by kernel_rfl) (aB.aC hd (by kernel_rfl))
noncomputable def Zf  : Option Bool:=
 (ua (XM 0 2) fun r1=>(ua (XM 2 2) fun r2=>(ua (Er 3 [r1,r2]) fun r3=>(ua (qM ({aW:=2,aE:=[0,1],bE:=[],aK:=[({kind:=1,bK:=0,bP:=0,to:=(-1),unit:=(-1),dh:=({num:=0,den:=1}:aQ)}:aZ),({kind:=1,bK:=0,bP:=0,to:=(-1),unit:=(-1),dh:=({num:=0,den:=1}:aQ)}:aZ),({kind:=1,bK:=1,bP:=0,to:=(-1),unit:=(-1),dh:=({num:=0,den:=1}:aQ)}:aZ)],ay:=[r1,r2],aX:=3,off:=[]}:ax)) fun r4=>(ua (ye ({aW:=2,aE:=[0,1],bE:=[],aK:=[({kind:=1,bK:=0,bP:=0,to:=(-1),unit:=(-1),dh:=({num:=0,den:=1}:aQ)}:aZ),({kind:=1,bK:=0,bP:=0,to:=(-1),unit:=(-1),dh:=({num:=0,den:=1}:aQ)}:aZ),({kind:=1,bK:=1,bP:=0,to:=(-1),unit:=(-1),dh:=({num:=0,den:=1}:aQ)}:aZ)],ay:=[r1,r2],aX:=3,off:=[]}:ax) 0 ({state:=r4.1,own:=true}:aH)) fun r5=>(ua (XK ({aW:=2,aE:=[0,1],bE:=[],aK:=[({kind:=1,bK:=0,bP:=0,to:=(-1),unit:=(-1),dh:=({num:=0,den:=1}:aQ)}:aZ),({kind:=1,bK:=0,bP:=0,to:=(-1),unit:=(-1),dh:=({num:=0,den:=1}:aQ)}:aZ),({kind:=1,bK:=1,bP:=0,to:=(-1),unit:=(-1),dh:=({num:=0,den:=1}:aQ)}:aZ)],ay:=[r1,r2],aX:=3,off:=[]}:ax)) fun r6=>(ua (bif (r4.2 == 0) then (bif (r5.2 == 0) then (bif (r6.2 == 0) then (bif ((r5.1.length:Int) == 1) then (bif ((r6.1.length:Int) == 0) then some true else (ua (qj ({aW:=2,aE:=[0,1],bE:=[],aK:=[({kind:=1,bK:=0,bP:=0,to:=(-1),unit:=(-1),dh:=({num:=0,den:=1}:aQ)}:aZ),({kind:=1,bK:=0,bP:=0,to:=(-1),unit:=(-1),dh:=({num:=0,den:=1}:aQ)}:aZ),({kind:=1,bK:=1,bP:=0,to:=(-1),unit:=(-1),dh:=({num:=0,den:=1}:aQ)}:aZ)],ay:=[r1,r2],aX:=3,off:=[]}:ax)) fun r7=>some (!((r7.length:Int) == 2)))) else some true) else some true) else some true) else some true) fun v1=>(bif v1 then some false else (ua (ua (ze r5.1 0) fun e1=>(ua (wi e1 [1]) fun r8=>(bif r8 then (ua (ze r6.1 0) fun e2=>(bif (e2.kind == 1) then some (e2.zw == 0) else some false)) else some false))) fun v2=>some v2)))))))))
noncomputable def zfj  : aB Bool:=
 .aA 1 (.call 3846 (I3 0 2) fun r1=>.call 3848 (I3 2 2) fun r2=>.b1 3850 (Er 3 [r1,r2]) (fun r3=>.c [3] 1 (.agg ([vI 2,.Zai 14 0 2,.nil,.Zai 18 0 3,.Zai 3 0 ([r1,r2].length),vI 3,.nil])) [(14,.af 1 [[vI 0],[vI 1]]),(18,.af 7 [[vI 1,vI 0,vI 0,vI (-1),vI (-1),vI 0,vI 1],[vI 1,vI 0,vI 0,vI (-1),vI (-1),vI 0,vI 1],[vI 1,vI 1,vI 0,vI (-1),vI (-1),vI 0,vI 1]])] 15) (fun r3 eP=>(zf (zmH 3 [r1,r2] r3 eP) [3] 4 (.drop rfl rfl (.keep (.keep .nil))) (bH bw) (bI (bI bw)))) fun r3=>.us [(0,3846),(1,3848),(3,3850)] (.cC 1 [DT 14 1 [20] zb [0,1],DT 18 7 [20] aZ.row [({kind:=1,bK:=0,bP:=0,to:=(-1),unit:=(-1),dh:=({num:=0,den:=1}:aQ)}:aZ),({kind:=1,bK:=0,bP:=0,to:=(-1),unit:=(-1),dh:=({num:=0,den:=1}:aQ)}:aZ),({kind:=1,bK:=1,bP:=0,to:=(-1),unit:=(-1),dh:=({num:=0,den:=1}:aQ)}:aZ)],DT 3 16 [20] aO.row [r1,r2]] (.aA 0 (.call 3852 (QR ({aW:=2,aE:=[0,1],bE:=[],aK:=[({kind:=1,bK:=0,bP:=0,to:=(-1),unit:=(-1),dh:=({num:=0,den:=1}:aQ)}:aZ),({kind:=1,bK:=0,bP:=0,to:=(-1),unit:=(-1),dh:=({num:=0,den:=1}:aQ)}:aZ),({kind:=1,bK:=1,bP:=0,to:=(-1),unit:=(-1),dh:=({num:=0,den:=1}:aQ)}:aZ)],ay:=[r1,r2],aX:=3,off:=[]}:ax)) fun r4=>.use 1 3852 (.aA 0 (.call 3854 (Lg ({aW:=2,aE:=[0,1],bE:=[],aK:=[({kind:=1,bK:=0,bP:=0,to:=(-1),unit:=(-1),dh:=({num:=0,den:=1}:aQ)}:aZ),({kind:=1,bK:=0,bP:=0,to:=(-1),unit:=(-1),dh:=({num:=0,den:=1}:aQ)}:aZ),({kind:=1,bK:=1,bP:=0,to:=(-1),unit:=(-1),dh:=({num:=0,den:=1}:aQ)}:aZ)],ay:=[r1,r2],aX:=3,off:=[]}:ax) 0 ({state:=r4.1,own:=true}:aH)) fun r5=>.use 3 3854 (.aA 0 (.call 3856 (UX ({aW:=2,aE:=[0,1],bE:=[],aK:=[({kind:=1,bK:=0,bP:=0,to:=(-1),unit:=(-1),dh:=({num:=0,den:=1}:aQ)}:aZ),({kind:=1,bK:=0,bP:=0,to:=(-1),unit:=(-1),dh:=({num:=0,den:=1}:aQ)}:aZ),({kind:=1,bK:=1,bP:=0,to:=(-1),unit:=(-1),dh:=({num:=0,den:=1}:aQ)}:aZ)],ay:=[r1,r2],aX:=3,off:=[]}:ax)) fun r6=>.use 1 3856 (.cut (β:=Bool) 2 (.e [4,6] (fun v1=>[(54,vB v1)]) [3,18,14,20,27] 72) (.aA 0 (.ite 3830 (r4.2 == 0) (.ite 3832 (r5.2 == 0) (.ite 3834 (r6.2 == 0) (.ite 3836 ((r5.1.length:Int) == 1) (.ite 3838 ((r6.1.length:Int) == 0) (.us [(3,3831),(7,3833),(11,3835)] (.ln 3860 (zH zb) r5.1 (.us [(12,3860),(16,3837)] (.ln 3858 bF.row r6.1 (.us [(17,3858),(21,3838)] (.ret true)))))) (.call 3862 (ZO ({aW:=2,aE:=[0,1],bE:=[],aK:=[({kind:=1,bK:=0,bP:=0,to:=(-1),unit:=(-1),dh:=({num:=0,den:=1}:aQ)}:aZ),({kind:=1,bK:=0,bP:=0,to:=(-1),unit:=(-1),dh:=({num:=0,den:=1}:aQ)}:aZ),({kind:=1,bK:=1,bP:=0,to:=(-1),unit:=(-1),dh:=({num:=0,den:=1}:aQ)}:aZ)],ay:=[r1,r2],aX:=3,off:=[]}:ax)) fun r7=>.us [(3,3831),(7,3833),(11,3835)] (.ln 3868 (zH zb) r5.1 (.us [(12,3868),(16,3837)] (.ln 3866 bF.row r6.1 (.us [(17,3866),(21,3838),(22,3862)] (.ln 3864 (zH zb) r7 (.use 23 3864 (.ret (!((r7.length:Int) == 2))))))))))) (.us [(3,3831),(7,3833),(11,3835)] (.ln 3872 (zH zb) r5.1 (.us [(12,3872),(16,3837)] (.f1 3870 (.g true) (rfl:true=true) (.use 21 3870 (.ret true))))))) (.us [(3,3831),(7,3833),(11,3835)] (.f1 3876 (.g true) (rfl:true=true) (.use 16 3876 (.f1 3874 (.g true) (rfl:true=true) (.use 21 3874 (.ret true))))))) (.us [(3,3831),(7,3833)] (.f1 3882 (.g true) (rfl:true=true) (.use 11 3882 (.f1 3880 (.g true) (rfl:true=true) (.use 16 3880 (.f1 3878 (.g true) (rfl:true=true) (.use 21 3878 (.ret true))))))))) (.use 3 3831 (.f1 3890 (.g true) (rfl:true=true) (.use 7 3890 (.f1 3888 (.g true) (rfl:true=true) (.use 11 3888 (.f1 3886 (.g true) (rfl:true=true) (.use 16 3886 (.f1 3884 (.g true) (rfl:true=true) (.use 21 3884 (.ret true)))))))))))) fun v1=>.ite 3840 v1 (.sel 3840 (.ret false)) (.sel 3840 (.cut (β:=Bool) 1 (.k [] (fun v2=>[(0,vB v2)]) [3,18,14,20,27] (fun _=>[(75,.af 1 [[vI 1]])]) 92 fun _=>(.exp rfl rfl .nil)) (.aA 0 (.ix 3892 (zH zb) r5.1 0 fun e1=>.bind (wi e1 [1]) (fun r8=>[(3894,([.w [75] [.slice (uc zb e1),.slice (uc zb [1])] (.bool r8)],_))]) (fun r8 Be=>(.c2 (IZ e1 [1] r8 Be) (jO [.ak (.slice (uc zb e1)),.Zai 75 0 1] [(75,.af 1 [[vI 1]])] [.slice (uc zb e1),.slice (uc zb [1])] (by kernel_rfl)) .nil)) fun r8=>.ite 3842 r8 (.ix 3896 bF.row r6.1 0 fun e2=>.ite 3844 (e2.kind == 1) (.us [(1,3892),(4,3894),(6,3842),(7,3896),(13,3844),(14,3896)] (.ret (e2.zw == 0))) (.us [(1,3892),(4,3894),(6,3842),(7,3896),(13,3844)] (.ret false))) (.us [(1,3892),(4,3894),(6,3842)] (.f1 3898 (.g false) (rfl:false=false) (.use 13 3898 (.ret false)))))) fun v2=>.ret v2)))))))))))
theorem zfk  (res:Bool) (hd:Zf  = some res):aJ C0 186 [] (.bool res):=
 aB.pure (iv:=fun res=>.bool res) (zfj ) (by kernel_rfl) (aB.aC hd (by kernel_rfl))
noncomputable def YE (c:ax) (a:bT) (safe:List Bool):Option Int:=
 (ua (α:=Unit ⊕ Int) (ua (iter (σ:=Int×Int) (ρ:=Unit ⊕ Int) (fun s1=>(ua (ze a.aU s1.2) fun e1=>(bif decide (e1.state.day < c.aX) then (ua (wj a s1.2 (-2)) fun r1=>(ua (wj a r1.1 (-1)) fun r2=>(ua (ze safe r2.1) fun e2=>(bif e2 then some (.inl ((IntKind.i64.wrap (s1.1+1)),r2.1)) else some (.inr (.inr s1.1)))))) else some (.inr (.inl ()))))) (0,0)) (um (fun (y1:Unit)=>some (.inl ())) (fun (y2:Int)=>some (.inr y2)))) (um (fun (v1:Unit)=>some (-1)) (fun (y3:Int)=>some y3)))
noncomputable def zmP (c:ax) (a:bT) (safe:List Bool):aB Int:=
 .dK (β:=Unit) (γ:=Int) 3 (.e [] (fun _=>[]) [] 5) (.iter (σ:=Int×Int) (ρ:=Unit ⊕ Int) (0,0) (.e [2,3,4] (fun s1=>[(7,vI s1.1),(8,vI s1.2)]) [0,1] 5) (fun s1=>.aA 0 (.ix 4006 aH.row a.aU s1.2 fun e1=>.use 3 4006 (.ite 4002 (decide (e1.state.day < c.aX)) (.sel 4002 (.aA 0 (.call 4008 (Qo a s1.2 (-2)) fun r1=>.use 2 4008 (.aA 0 (.call 4010 (Qo a r1.1 (-1)) fun r2=>.use 2 4010 (.aA 0 (.ix 4012 zg safe r2.1 fun e2=>.use 2 4012 (.ite 4004 e2 (.sel 4005 (.ret (.inl ((IntKind.i64.wrap (s1.1+1)),r2.1)))) (.sel 4005 (.ret (.inr (.inr s1.1)))))))))))) (.sel 4002 (.ret (.inr (.inl ()))))))) fun os1=>.case os1 (fun y1=>.ret (.inl ())) fun y2=>.ret (.inr y2)) fun o_v1=>.case o_v1 (fun v1=>.ret (-1)) fun y3=>.ret y3
theorem zmQ (c:ax) (a:bT) (safe:List Bool) (res:Int) (hd:YE c a safe=some res):aJ C0 158 [.agg (ax.row c),.agg (bT.row a),.slice (uc zg safe)] (.int .i64 res):=
 aB.pure (iv:=fun res=>.int .i64 res) (zmP c a safe) (by kernel_rfl) (aB.aC hd (by kernel_rfl))
noncomputable def dX (c:ax) (zw:Int) (s:aG):Option (eF×Int):=
 (ua (qD c zw ({state:=s,own:=true}:aH)) fun r1=>(bif (r1.2 == 0) then (ua (yd c r1.1) fun r2=>(ua (ze r2 0) fun e1=>(bif e1 then (ua (kJ r1.1 r2) fun r3=>(ua (ze r3 0) fun e2=>(ua (YE c r1.1 r2) fun r4=>some (({safe:=true,move:=e2,wait:=r4}:eF),0)))) else some (({safe:=false,move:=(-2),wait:=0}:eF),0)))) else some (({safe:=false,move:=0,wait:=0}:eF),r1.2)))
noncomputable def ziZ (c:ax) (zw:Int) (s:aG):aB (eF×Int):=
 .aA 1 (.call 4014 (Yv c zw ({state:=s,own:=true}:aH)) fun r1=>.use 4 4014 (.ite 3996 (r1.2 == 0) (.sel 3997 (.aA 0 (.call 4016 (YB c r1.1) fun r2=>.use 2 4016 (.aA 0 (.ix 4018 zg r2 0 fun e1=>.use 1 4018 (.ite 3998 e1 (.sel 3999 (.aA 0 (.call 4020 (I0 r1.1 r2) fun r3=>.ix 4022 zb r3 0 fun e2=>.call 4024 (zmQ c r1.1 r2) fun r4=>.us [(2,4020),(3,4022),(8,4024)] (.ret (({safe:=true,move:=e2,wait:=r4}:eF),0))))) (.sel 3999 (.ret (({safe:=false,move:=(-2),wait:=0}:eF),0))))))))) (.sel 3997 (.ret (({safe:=false,move:=0,wait:=0}:eF),r1.2)))))
theorem zi0 (c:ax) (zw:Int) (s:aG) (res:eF×Int) (hd:dX c zw s=some res):aJ C0 153 [.agg (ax.row c),.int .i64 zw,.agg (aG.row s)] (.tuple [.agg (eF.row res.1),.int .i64 res.2]):=
 aB.pure (iv:=fun res=>.tuple [.agg (eF.row res.1),.int .i64 res.2]) (ziZ c zw s) (by kernel_rfl) (aB.aC hd (by kernel_rfl))
noncomputable def XO (p1:List Int) (p2:ax) (p3:aG) (p4:Bool) (p5:Int) (p6:Bool) (p7:Int) (p8:Int) (p9:Bool):Option (Int×Bool×Int×Int×Bool):=
 (ua (qD p2 p5 ({state:=p3,own:=p4}:aH)) fun r1=>(bif (r1.2 == 0) then (ua (yd p2 r1.1) fun r2=>(ua (dX p2 p5 p3) fun r3=>(bif (r3.2 == 0) then (ua (bif p6 then (ua (ze r2 0) fun e1=>some e1) else some false) fun v1=>(ua (bif p9 then some (r3.1.move == (-2)) else some false) fun v2=>(ua (ze r1.1.bp 0) fun e2=>(ua (aD (σ:=Int) (ρ:=Unit) (e2.length:Int) (fun i1 s1=>(ua (ua (ze e2 (i1:Int)) fun e3=>(ua (bif (e3.step == (-2)) then some false else (ua (ze r2 e3.to) fun e4=>(bif e4 then (bif (s1 == (-2)) then some true else some (decide (e3.step < s1))) else some false))) fun v3=>(bif v3 then some e3.step else some s1))) fun (v4:Int)=>some (.inl v4))) p7) (um (fun (s1:Int)=>(ua (ua (bif decide (0≤r3.1.wait) then (bif decide (p8 < 0) then some true else some (decide (r3.1.wait < p8))) else some false) fun v5=>(bif v5 then some r3.1.wait else some p8)) fun (v6:Int)=>some (0,v1,s1,v6,v2))) (fun _=>none)))))) else some (r3.2,p6,p7,p8,p9)))) else some (r1.2,p6,p7,p8,p9)))
noncomputable def zmR (p1:List Int) (p2:ax) (p3:aG) (p4:Bool) (p5:Int) (p6:Bool) (p7:Int) (p8:Int) (p9:Bool):aB (Int×Bool×Int×Int×Bool):=
 .aA 1 (.call 4056 (Yv p2 p5 ({state:=p3,own:=p4}:aH)) fun r1=>.use 3 4056 (.ite 3994 (r1.2 == 0) (.sel 3995 (.aA 0 (.call 4058 (YB p2 r1.1) fun r2=>.use 2 4058 (.aA 0 (.call 4060 (zi0 p2 p5 p3) fun r3=>.use 4 4060 (.ite 4026 (r3.2 == 0) (.sel 4027 (.cut (β:=Bool) 1 (.k [4,5,10,12,13] (fun _=>[]) [0,2,3,4,13,30] (fun v1=>[(1,.af 3 [[vB v1,vI p7,vI p8]])]) 44 fun _=>(.exp rfl rfl .nil)) (.aA 0 (.ite 4028 p6 (.ix 4062 zg r2 0 fun e1=>.us [(3,4028),(4,4062)] (.ret e1)) (.use 3 4028 (.ret false)))) fun v1=>.cut (β:=Bool) 1 (.k [4,10,12,13] (fun _=>[]) [0,1,3,4,13,30] (fun v2=>[(2,.af 1 [[vB v2]])]) 51 fun _=>(.exp rfl rfl .nil)) (.aA 0 (.ite 4030 p9 (.use 2 4030 (.ret (r3.1.move == (-2)))) (.use 2 4030 (.ret false)))) fun v2=>.aA 0 (.ix 4064 (zH bh.row) r1.1.bp 0 fun e2=>.use 2 4064 (.ln 4072 bh.row e2 (.use 4 4072 (.aD (σ:=Int) (ρ:=Unit) 4032 59 (e2.length:Int) p7 (.k [4,12,13,57,58] (fun _=>[]) [0,2,30] (fun s1=>[(1,.af 3 [[vB v1,vI s1,vI p8]])]) 57 fun _=>(.exp rfl rfl .nil)) (fun i1 s1=>.sel 4032 (.cut (β:=Int) 1 (.k [4,12,13,57,58,59] (fun _=>[]) [0,2,30] (fun v4=>[(1,.af 3 [[vB v1,vI v4,vI p8]])]) 84 fun _=>(.exp rfl rfl .nil)) (.aA 0 (.ix 4066 bh.row e2 (i1:Int) fun e3=>.use 0 4066 (.cut (β:=Bool) 1 (.e [4,12,13,57,58,59,15] (fun v3=>[(84,vB v3)]) [0,1,2,30,60] 84) (.aA 0 (.ite 4042 (e3.step == (-2)) (.use 4 4043 (.f1 4068 (.g false) (rfl:false=false) (.use 11 4068 (.ret false)))) (.ix 4070 zg r2 e3.to fun e4=>.ite 4044 e4 (.ite 4046 (s1 == (-2)) (.us [(4,4043),(7,4070),(11,4044),(15,4046)] (.ret true)) (.us [(4,4043),(7,4070),(11,4044),(15,4046)] (.ret (decide (e3.step < s1))))) (.us [(4,4043),(7,4070),(11,4044)] (.ret false))))) fun v3=>.ite 4048 v3 (.sel 4048 (.ret e3.step)) (.sel 4048 (.ret s1))))) fun v4=>.ret (.inl v4))) fun os1=>.case os1 (fun s1=>.sel 4032 (.cut (β:=Int) 1 (.k [] (fun _=>[]) [0,2] (fun v6=>[(1,.af 3 [[vB v1,vI s1,vI v6]])]) 73 fun _=>(.exp rfl rfl .nil)) (.cut (β:=Bool) 1 (.e [4,13] (fun v5=>[(103,vB v5)]) [0,1,2,30] 73) (.aA 0 (.ite 4050 (decide (0≤r3.1.wait)) (.ite 4052 (decide (p8 < 0)) (.us [(4,4050),(8,4052)] (.ret true)) (.us [(4,4050),(8,4052)] (.ret (decide (r3.1.wait < p8))))) (.use 4 4050 (.ret false)))) fun v5=>.ite 4054 v5 (.sel 4054 (.ret r3.1.wait)) (.sel 4054 (.ret p8))) fun v6=>.ret (0,v1,s1,v6,v2))) fun _=>.none)))))) (.sel 4027 (.ret (r3.2,p6,p7,p8,p9))))))))) (.sel 3995 (.ret (r1.2,p6,p7,p8,p9)))))
theorem zmS (p1:List Int) (p2:ax) (p3:aG) (p4:Bool) (p5:Int) (p6:Bool) (p7:Int) (p8:Int) (p9:Bool) (res:Int×Bool×Int×Int×Bool) (hd:XO p1 p2 p3 p4 p5 p6 p7 p8 p9=some res):dm C0 182 [.ak (.slice (uc zb p1)),.agg (zt (ax.row p2)),.agg [vI p3.day,.ak (.slice (uc zb p3.aE)),.ak (.slice (uc zg p3.used)),.ak (.slice (uc aj.row p3.aI)),vB p4],.ptr 0 0 0,.ptr 1 0 0,.ptr 2 0 0] [(0,.af 1 [[vI p5]]),(1,.af 3 [[vB p6,vI p7,vI p8]]),(2,.af 1 [[vB p9]])] 3 (vI res.1) [(0,.af 1 [[vI p5]]),(1,.af 3 [[vB res.2.1,vI res.2.2.1,vI res.2.2.2.1]]),(2,.af 1 [[vB res.2.2.2.2]])] 0:=
 aB.dB (R:=fun res=>vI res.1) (H:=fun res=>[(0,.af 1 [[vI p5]]),(1,.af 3 [[vB res.2.1,vI res.2.2.1,vI res.2.2.2.1]]),(2,.af 1 [[vB res.2.2.2.2]])]) (zmR p1 p2 p3 p4 p5 p6 p7 p8 p9) (.exp rfl rfl (.exp rfl rfl (.exp rfl rfl .nil))) (fun _=>(.exp rfl rfl (.exp rfl rfl (.exp rfl rfl .nil)))) (by kernel_rfl) (fun _=>by kernel_rfl) (by kernel_rfl) (aB.aC hd (by kernel_rfl))
noncomputable def QZ (p1:ax) (p2:Int) (p3:aG) (p4:Bool) (p5:Int) (p6:Bool) (p7:Int) (p8:Int) (p9:Bool):Option (Int×Bool×Int×Int×Bool):=
 (ua (bif decide (p2 < 0) then some true else (bif decide (p1.aW≤p2) then some true else (ua (jD p1 p3) fun r1=>some (!r1)))) fun v1=>(bif v1 then some (1,p6,p7,p8,p9) else (ua (ua (qj p1) fun r2=>(ua (aD (σ:=Int×Bool×Int×Int×Bool) (ρ:=Int×Bool×Int×Int×Bool) (r2.length:Int) (fun i1 s1=>(ua (ze r2 (i1:Int)) fun e1=>(ua (kL p1 e1) fun r3=>(ua (bif (r3.2 == 0) then (ua (xp e1 p3) fun r4=>(ua (XO e1 r3.1 r4 p4 p5 s1.2.1 s1.2.2.1 s1.2.2.2.1 s1.2.2.2.2) fun r5=>some (r5.1,r5.2.1,r5.2.2.1,r5.2.2.2.1,r5.2.2.2.2))) else some (r3.2,s1.2.1,s1.2.2.1,s1.2.2.2.1,s1.2.2.2.2)) fun (v2:Int×Bool×Int×Int×Bool)=>(bif (v2.1 == 0) then some (.inl (v2.1,v2.2.1,v2.2.2.1,v2.2.2.2.1,v2.2.2.2.2)) else some (.inr (v2.1,v2.2.1,v2.2.2.1,v2.2.2.2.1,v2.2.2.2.2))))))) (0,p6,p7,p8,p9)) (um (fun (s1:Int×Bool×Int×Int×Bool)=>some (s1.1,s1.2.1,s1.2.2.1,s1.2.2.2.1,s1.2.2.2.2)) (fun (y1:Int×Bool×Int×Int×Bool)=>some (y1.1,y1.2.1,y1.2.2.1,y1.2.2.2.1,y1.2.2.2.2))))) fun (v3:Int×Bool×Int×Int×Bool)=>some (v3.1,v3.2.1,v3.2.2.1,v3.2.2.2.1,v3.2.2.2.2))))
noncomputable def zmT (p1:ax) (p2:Int) (p3:aG) (p4:Bool) (p5:Int) (p6:Bool) (p7:Int) (p8:Int) (p9:Bool):aB (Int×Bool×Int×Int×Bool):=
 .cut (β:=Bool) 4 (.e [3,4,6] (fun v1=>[(28,vB v1)]) [0,1,2,3,4] 21) (.aA 0 (.ite 3984 (decide (p2 < 0)) (.use 3 3984 (.f1 4080 (.g true) (rfl:true=true) (.use 9 4080 (.ret true)))) (.ite 3986 (decide (p1.aW≤p2)) (.us [(3,3984),(9,3986)] (.ret true)) (.call 4082 (vn p1 p3) fun r1=>.us [(3,3984),(9,3986),(12,4082)] (.ret (!r1)))))) fun v1=>.ite 3988 v1 (.sel 3988 (.ret (1,p6,p7,p8,p9))) (.sel 3988 (.cut (β:=Int×Bool×Int×Int×Bool) 3 (.k [] (fun v3=>[(9,vI v3.1)]) [0] (fun v3=>[(1,.af 3 [[vB v3.2.1,vI v3.2.2.1,vI v3.2.2.2.1]]),(2,.af 1 [[vB v3.2.2.2.2]])]) 26 fun _=>(.exp rfl rfl (.exp rfl rfl .nil))) (.aA 0 (.call 4084 (ZO p1) fun r2=>.use 1 4084 (.ln 4094 (zH zb) r2 (.use 2 4094 (.aD (σ:=Int×Bool×Int×Int×Bool) (ρ:=Int×Bool×Int×Int×Bool) 3990 32 (r2.length:Int) (0,p6,p7,p8,p9) (.k [3,4,6,30,31] (fun s1=>[(9,vI s1.1)]) [0,3,4] (fun s1=>[(1,.af 3 [[vB s1.2.1,vI s1.2.2.1,vI s1.2.2.2.1]]),(2,.af 1 [[vB s1.2.2.2.2]])]) 26 fun _=>(.exp rfl rfl (.exp rfl rfl .nil))) (fun i1 s1=>.sel 3990 (.aA 0 (.ix 4086 (zH zb) r2 (i1:Int) fun e1=>.use 0 4086 (.aA 0 (.call 4088 (Lf p1 e1) fun r3=>.use 2 4088 (.cut (β:=Int×Bool×Int×Int×Bool) 2 (.k [3,4,6,30,31,32] (fun v2=>[(9,vI v2.1)]) [0,3,4] (fun v2=>[(1,.af 3 [[vB v2.2.1,vI v2.2.2.1,vI v2.2.2.2.1]]),(2,.af 1 [[vB v2.2.2.2.2]])]) 43 fun _=>(.exp rfl rfl (.exp rfl rfl .nil))) (.ite 4076 (r3.2 == 0) (.sel 4076 (.aA 0 (.call 4090 (XN e1 p3) fun r4=>.b1 4092 (XO e1 r3.1 r4 p4 p5 s1.2.1 s1.2.2.1 s1.2.2.2.1 s1.2.2.2.2) (fun r5=>.c [0,1,2] 3 (vI r5.1) [(1,.af 3 [[vB r5.2.1,vI r5.2.2.1,vI r5.2.2.2.1]]),(2,.af 1 [[vB r5.2.2.2.2]])] 0) (fun r5 sX=>(zf (zmS e1 r3.1 r4 p4 p5 s1.2.1 s1.2.2.1 s1.2.2.2.1 s1.2.2.2.2 r5 sX) [0,1,2] 55 (.drop rfl rfl (.keep (.keep .nil))) (bI (bI (bI bw))) (bI (bI bw)))) fun r5=>.us [(6,4090),(10,4092)] (.ret (r5.1,r5.2.1,r5.2.2.1,r5.2.2.2.1,r5.2.2.2.2))))) (.sel 4076 (.ret (r3.2,s1.2.1,s1.2.2.1,s1.2.2.2.1,s1.2.2.2.2)))) fun v2=>.ite 4078 (v2.1 == 0) (.sel 4079 (.ret (.inl (v2.1,v2.2.1,v2.2.2.1,v2.2.2.2.1,v2.2.2.2.2)))) (.sel 4079 (.ret (.inr (v2.1,v2.2.1,v2.2.2.1,v2.2.2.2.1,v2.2.2.2.2)))))))))) fun os1=>.case os1 (fun s1=>.sel 3990 (.ret (s1.1,s1.2.1,s1.2.2.1,s1.2.2.2.1,s1.2.2.2.2))) fun y1=>.ret (y1.1,y1.2.1,y1.2.2.1,y1.2.2.2.1,y1.2.2.2.2)))))) fun v3=>.ret (v3.1,v3.2.1,v3.2.2.1,v3.2.2.2.1,v3.2.2.2.2)))
theorem zmU (p1:ax) (p2:Int) (p3:aG) (p4:Bool) (p5:Int) (p6:Bool) (p7:Int) (p8:Int) (p9:Bool) (res:Int×Bool×Int×Int×Bool) (hd:QZ p1 p2 p3 p4 p5 p6 p7 p8 p9=some res):dm C0 177 [.agg (zt (ax.row p1)),vI p2,.agg [vI p3.day,.ak (.slice (uc zb p3.aE)),.ak (.slice (uc zg p3.used)),.ak (.slice (uc aj.row p3.aI)),vB p4],.func 182 [] [.ptr 0 0 0,.ptr 1 0 0,.ptr 2 0 0]] [(0,.af 1 [[vI p5]]),(1,.af 3 [[vB p6,vI p7,vI p8]]),(2,.af 1 [[vB p9]])] 3 (vI res.1) [(0,.af 1 [[vI p5]]),(1,.af 3 [[vB res.2.1,vI res.2.2.1,vI res.2.2.2.1]]),(2,.af 1 [[vB res.2.2.2.2]])] 0:=
 aB.dB (R:=fun res=>vI res.1) (H:=fun res=>[(0,.af 1 [[vI p5]]),(1,.af 3 [[vB res.2.1,vI res.2.2.1,vI res.2.2.2.1]]),(2,.af 1 [[vB res.2.2.2.2]])]) (zmT p1 p2 p3 p4 p5 p6 p7 p8 p9) (.exp rfl rfl (.exp rfl rfl (.exp rfl rfl .nil))) (fun _=>(.exp rfl rfl (.exp rfl rfl (.exp rfl rfl .nil)))) (by kernel_rfl) (fun _=>by kernel_rfl) (by kernel_rfl) (aB.aC hd (by kernel_rfl))
noncomputable def kM (c:ax) (zw:Int) (s:aG):Option (eF×Int):=
 (ua (QZ c zw s true zw true (-2) (-1) true) fun r1=>(bif (r1.1 == 0) then (bif r1.2.1 then (ua (bif r1.2.2.2.2 then some (-2) else some r1.2.2.1) fun (v1:Int)=>some (({safe:=r1.2.1,move:=v1,wait:=r1.2.2.2.1}:eF),0)) else some (({safe:=false,move:=(-2),wait:=0}:eF),0)) else some (({safe:=false,move:=0,wait:=0}:eF),r1.1)))
noncomputable def zhk (c:ax) (zw:Int) (s:aG):aB (eF×Int):=
 .aA 3 (.b1 4102 (QZ c zw s true zw true (-2) (-1) true) (fun r1=>.c [1,6,8] 3 (vI r1.1) [(6,.af 3 [[vB r1.2.1,vI r1.2.2.1,vI r1.2.2.2.1]]),(8,.af 1 [[vB r1.2.2.2.2]])] 0) (fun r1 cz=>(zf (zmU c zw s true zw true (-2) (-1) true r1 cz) [1,6,8] 15 (.drop rfl rfl (.keep (.keep .nil))) (bI (bI (bI bw))) (bI (bI bw)))) fun r1=>.use 5 4102 (.ite 4096 (r1.1 == 0) (.sel 4097 (.ite 4098 r1.2.1 (.sel 4099 (.cut (β:=Int) 1 (.k [6,8] (fun _=>[]) [3] (fun v1=>[(6,.af 3 [[vB r1.2.1,vI v1,vI r1.2.2.2.1]])]) 23 fun _=>(.exp rfl rfl .nil)) (.ite 4100 r1.2.2.2.2 (.sel 4100 (.ret (-2))) (.sel 4100 (.ret r1.2.2.1))) fun v1=>.ret (({safe:=r1.2.1,move:=v1,wait:=r1.2.2.2.1}:eF),0))) (.sel 4099 (.ret (({safe:=false,move:=(-2),wait:=0}:eF),0))))) (.sel 4097 (.ret (({safe:=false,move:=0,wait:=0}:eF),r1.1)))))
theorem zhl (c:ax) (zw:Int) (s:aG) (res:eF×Int) (hd:kM c zw s=some res):aJ C0 181 [.agg (ax.row c),.int .i64 zw,.agg (aG.row s)] (.tuple [.agg (eF.row res.1),.int .i64 res.2]):=
 aB.pure (iv:=fun res=>.tuple [.agg (eF.row res.1),.int .i64 res.2]) (zhk c zw s) (by kernel_rfl) (aB.aC hd (by kernel_rfl))
noncomputable def Q0 (c:ax) (zw:Int) (p:aH):Option (Bool×Int):=
 (ua (ye c zw p) fun r1=>(ua (bif (r1.2 == 0) then some ((r1.1.length:Int) == 0) else some false) fun v1=>some (v1,r1.2)))
noncomputable def zkO (c:ax) (zw:Int) (p:aH):aB (Bool×Int):=
 .aA 1 (.call 4212 (Lg c zw p) fun r1=>.use 3 4212 (.cut (β:=Bool) 1 (.e [] (fun v1=>[(6,vB v1),(7,vI r1.2)]) [0,1] 23) (.aA 0 (.ite 4210 (r1.2 == 0) (.use 3 4210 (.ln 4214 (zH zb) r1.1 (.use 4 4214 (.ret ((r1.1.length:Int) == 0))))) (.use 3 4210 (.ret false)))) fun v1=>.ret (v1,r1.2)))
theorem zkP (c:ax) (zw:Int) (p:aH) (res:Bool×Int) (hd:Q0 c zw p=some res):aJ C0 180 [.agg (ax.row c),.int .i64 zw,.agg (aH.row p)] (.tuple [.bool res.1,.int .i64 res.2]):=
 aB.pure (iv:=fun res=>.tuple [.bool res.1,.int .i64 res.2]) (zkO c zw p) (by kernel_rfl) (aB.aC hd (by kernel_rfl))
noncomputable def Cq (c:ax) (l:List Int):Option ((List aG)×Int):=
 (ua (qM c) fun r1=>(bif (r1.2 == 0) then (bif decide (4000 < (l.length:Int)) then some ([],3) else (ua (aD (σ:=(List aG)×Int×(List Int)×(List Bool)×(List aj)) (ρ:=Int) (l.length:Int) (fun i1 s1=>(ua (ze l (i1:Int)) fun e1=>(ua (dw c ({day:=s1.2.1,aE:=s1.2.2.1,used:=s1.2.2.2.1,aI:=s1.2.2.2.2}:aG) e1) fun r2=>(bif (r2.2 == 0) then (ua (zJ (α:=aG) 80 s1.1 [r2.1]) fun e2=>some (.inl (e2,r2.1.day,r2.1.aE,r2.1.used,r2.1.aI))) else some (.inr r2.2))))) ([r1.1],r1.1.day,r1.1.aE,r1.1.used,r1.1.aI)) (um (fun (s1:(List aG)×Int×(List Int)×(List Bool)×(List aj))=>some (s1.1,0)) (fun (y1:Int)=>some ([],y1))))) else some ([],r1.2)))
noncomputable def zoy (c:ax) (l:List Int):aB ((List aG)×Int):=
 .aA 1 (.call 4306 (QR c) fun r1=>.use 1 4306 (.ite 4294 (r1.2 == 0) (.sel 4295 (.aA 0 (.ln 4316 zb l (.use 1 4316 (.ite 4296 (decide (4000 < (l.length:Int))) (.sel 4296 (.ret ([],3))) (.sel 4296 (.aA 1 (.ln 4314 zb l (.use 1 4314 (.cC 1 [H7 8 17 4 aG.row [r1.1]] (.aD (σ:=(List aG)×Int×(List Int)×(List Bool)×(List aj)) (ρ:=Int) 4298 26 (l.length:Int) ([r1.1],r1.1.day,r1.1.aE,r1.1.used,r1.1.aI) (.k [2,6,24,25] (fun s1=>[(8,.aS 22 (uc aG.row s1.1))]) [0] (fun s1=>[(8,.af 4 [[vI s1.2.1,.ak (.slice (uc zb s1.2.2.1)),.ak (.slice (uc zg s1.2.2.2.1)),.ak (.slice (uc aj.row s1.2.2.2.2))]]),(22,.aT 4 s1.1.length)]) 23 fun _=>(.exp rfl rfl (.exp rfl rfl .nil))) (fun i1 s1=>.sel 4298 (.aA 0 (.ix 4308 zb l (i1:Int) fun e1=>.use 0 4308 (.aA 0 (.call 4310 (ZL c ({day:=s1.2.1,aE:=s1.2.2.1,used:=s1.2.2.2.1,aI:=s1.2.2.2.2}:aG) e1) fun r2=>.use 3 4310 (.ite 4304 (r2.2 == 0) (.sel 4305 (.aA 0 (.b1 4312 (zJ (α:=aG) 80 s1.1 [r2.1]) (fun e2=>.a (uc aG.row e2) e2.length) (fun e2 eu=>(qm aG.row 4 80 (fun _=>rfl) eu)) fun e2=>.use 3 4312 (.ret (.inl (e2,r2.1.day,r2.1.aE,r2.1.used,r2.1.aI)))))) (.sel 4305 (.ret (.inr r2.2))))))))) fun os1=>.case os1 (fun s1=>.sel 4298 (.ret (s1.1,0))) fun y1=>.ret ([],y1)))))))))))) (.sel 4295 (.ret ([],r1.2)))))
theorem zoz (c:ax) (l:List Int) (res:(List aG)×Int) (hd:Cq c l=some res):aJ C0 167 [.agg (ax.row c),.slice (uc zb l)] (.tuple [.slice (uc aG.row res.1),.int .i64 res.2]):=
 aB.pure (iv:=fun res=>.tuple [.slice (uc aG.row res.1),.int .i64 res.2]) (zoy c l) (by kernel_rfl) (aB.aC hd (by kernel_rfl))
noncomputable def yH (a:aG) (b:aG):Option Bool:=
 (ua (bif (a.day == b.day) then (bif ((a.aE.length:Int) == (b.aE.length:Int)) then (bif ((a.used.length:Int) == (b.used.length:Int)) then some (!((a.aI.length:Int) == (b.aI.length:Int))) else some true) else some true) else some true) fun v1=>(bif v1 then some false else (ua (aD (σ:=Unit) (ρ:=Unit) (a.aE.length:Int) (fun i1 s1=>(ua (ze a.aE (i1:Int)) fun e1=>(ua (ze b.aE (i1:Int)) fun e2=>(bif (e1 == e2) then some (.inl ()) else some (.inr ()))))) ()) (um (fun (s1:Unit)=>(ua (aD (σ:=Unit) (ρ:=Unit) (a.used.length:Int) (fun i2 s2=>(ua (ze a.used (i2:Int)) fun e3=>(ua (ze b.used (i2:Int)) fun e4=>(bif (e3 == e4) then some (.inl ()) else some (.inr ()))))) ()) (um (fun (s2:Unit)=>(ua (aD (σ:=Unit) (ρ:=Unit) (a.aI.length:Int) (fun i3 s3=>(ua (ze a.aI (i3:Int)) fun e5=>(ua (ze b.aI (i3:Int)) fun e6=>(bif ((e5.aR == e6.aR)&&((e5.left == e6.left)&&((e5.got == e6.got)&&((e5.bz == e6.bz)&&((e5.bQ == e6.bQ)&&true))))) then some (.inl ()) else some (.inr ()))))) ()) (um (fun (s3:Unit)=>some true) (fun (y3:Unit)=>some false)))) (fun (y2:Unit)=>some false)))) (fun (y1:Unit)=>some false)))))
noncomputable def zi1 (a:aG) (b:aG):aB Bool:=
 .cut (β:=Bool) 3 (.e [2,3] (fun v1=>[(39,vB v1)]) [0,1] 35) (.aA 0 (.ite 4326 (a.day == b.day) (.ite 4328 ((a.aE.length:Int) == (b.aE.length:Int)) (.ite 4330 ((a.used.length:Int) == (b.used.length:Int)) (.use 6 4327 (.ln 4356 zb a.aE (.use 8 4356 (.ln 4354 zb b.aE (.us [(11,4354),(15,4329)] (.ln 4352 zg a.used (.use 17 4352 (.ln 4350 zg b.used (.us [(20,4350),(24,4331)] (.ln 4348 aj.row a.aI (.use 26 4348 (.ln 4346 aj.row b.aI (.use 29 4346 (.ret (!((a.aI.length:Int) == (b.aI.length:Int))))))))))))))))) (.use 6 4327 (.ln 4364 zb a.aE (.use 8 4364 (.ln 4362 zb b.aE (.us [(11,4362),(15,4329)] (.ln 4360 zg a.used (.use 17 4360 (.ln 4358 zg b.used (.us [(20,4358),(24,4331)] (.ret true))))))))))) (.use 6 4327 (.ln 4370 zb a.aE (.use 8 4370 (.ln 4368 zb b.aE (.us [(11,4368),(15,4329)] (.f1 4366 (.g true) (rfl:true=true) (.use 24 4366 (.ret true))))))))) (.use 6 4327 (.f1 4374 (.g true) (rfl:true=true) (.use 15 4374 (.f1 4372 (.g true) (rfl:true=true) (.use 24 4372 (.ret true)))))))) fun v1=>.ite 4332 v1 (.sel 4332 (.ret false)) (.sel 4332 (.aD (σ:=Unit) (ρ:=Unit) 4334 5 (a.aE.length:Int) () (.e [2,3] (fun _=>[]) [0,1] 36) (fun i1 s1=>.aA 0 (.ln 4380 zb a.aE (.use 3 4380 (.sel 4334 (.aA 0 (.ix 4376 zb a.aE (i1:Int) fun e1=>.ix 4378 zb b.aE (i1:Int) fun e2=>.us [(3,4376),(8,4378)] (.ite 4336 (e1 == e2) (.sel 4337 (.ret (.inl ()))) (.sel 4337 (.ret (.inr ())))))))))) fun os1=>.case os1 (fun s1=>.aA 0 (.ln 4398 zb a.aE (.use 3 4398 (.sel 4334 (.aD (σ:=Unit) (ρ:=Unit) 4338 6 (a.used.length:Int) () (.e [2,3] (fun _=>[]) [0,1] 42) (fun i2 s2=>.aA 0 (.ln 4386 zg a.used (.use 3 4386 (.sel 4338 (.aA 0 (.ix 4382 zg a.used (i2:Int) fun e3=>.ix 4384 zg b.used (i2:Int) fun e4=>.us [(3,4382),(8,4384)] (.ite 4340 (e3 == e4) (.sel 4341 (.ret (.inl ()))) (.sel 4341 (.ret (.inr ())))))))))) fun os2=>.case os2 (fun s2=>.aA 0 (.ln 4396 zg a.used (.use 3 4396 (.sel 4338 (.aD (σ:=Unit) (ρ:=Unit) 4342 7 (a.aI.length:Int) () (.e [2,3] (fun _=>[]) [0,1] 48) (fun i3 s3=>.aA 0 (.ln 4392 aj.row a.aI (.use 3 4392 (.sel 4342 (.aA 0 (.ix 4388 aj.row a.aI (i3:Int) fun e5=>.ix 4390 aj.row b.aI (i3:Int) fun e6=>.us [(3,4388),(8,4390)] (.ite 4344 ((e5.aR == e6.aR)&&((e5.left == e6.left)&&((e5.got == e6.got)&&((e5.bz == e6.bz)&&((e5.bQ == e6.bQ)&&true))))) (.sel 4345 (.ret (.inl ()))) (.sel 4345 (.ret (.inr ())))))))))) fun os3=>.case os3 (fun s3=>.aA 0 (.ln 4394 aj.row a.aI (.use 3 4394 (.sel 4342 (.ret true))))) fun y3=>.ret false))))) fun y2=>.ret false))))) fun y1=>.ret false))
theorem zi2 (a:aG) (b:aG) (res:Bool) (hd:yH a b=some res):aJ C0 93 [.agg (aG.row a),.agg (aG.row b)] (.bool res):=
 aB.pure (iv:=fun res=>.bool res) (zi1 a b) (by kernel_rfl) (aB.aC hd (by kernel_rfl))
noncomputable def wl (c:ax) (zw:Int) (cw:List Int):Option Bool:=
 (ua (Zf) fun r1=>(ua (ua (YC c) fun r2=>(bif r2 then some (decide (20 < (cw.length:Int))) else some true)) fun v1=>(bif v1 then some r1 else (ua (JJ c zw cw) fun r3=>(ua (qM c) fun r4=>(ua (bif (r3.2 == 0) then some (!(r4.2 == 0)) else some true) fun v2=>(bif v2 then some r1 else (ua (Q0 c zw ({state:=r4.1,own:=true}:aH)) fun r5=>(bif (r5.2 == 0) then (ua (α:=((List Int)×Int×(List Int)×(List Bool)×(List aj)) ⊕ Unit) (ua (iter (σ:=(List Int)×Int×Int×(List Int)×(List Bool)×(List aj)) (ρ:=((List Int)×Int×(List Int)×(List Bool)×(List aj)) ⊕ Unit) (fun s1=>(ua (bif decide (s1.2.1 < (cw.length:Int)) then some (decide (s1.2.2.1 < c.aX)) else some false) fun v3=>(bif v3 then (ua (α:=((List Int)×Int×(List Int)×(List Bool)×(List aj)) ⊕ Unit) (ua (α:=((List Int)×Int×(List Int)×(List Bool)×(List aj)) ⊕ Unit) (ua (aD (σ:=(List Int)×Int×(List Int)×(List Bool)×(List aj)) (ρ:=Unit ⊕ ((List Int)×Int×(List Int)×(List Bool)×(List aj))) 100 (fun i2 s2=>(ua (kM c zw ({day:=s2.2.1,aE:=s2.2.2.1,used:=s2.2.2.2.1,aI:=s2.2.2.2.2}:aG)) fun r6=>(ua (bif (r6.2 == 0) then (bif r5.1 then some (!r6.1.safe) else some false) else some true) fun v4=>(bif v4 then some (.inr (.inl ())) else (bif (r6.1.move == (-2)) then some (.inr (.inr (s2.1,s2.2.1,s2.2.2.1,s2.2.2.2.1,s2.2.2.2.2))) else (ua (dw c ({day:=s2.2.1,aE:=s2.2.2.1,used:=s2.2.2.2.1,aI:=s2.2.2.2.2}:aG) r6.1.move) fun r7=>(bif (r7.2 == 0) then (ua (zJ (α:=Int) 8 s2.1 [r6.1.move]) fun e1=>some (.inl (e1,r7.1.day,r7.1.aE,r7.1.used,r7.1.aI))) else some (.inr (.inl ()))))))))) (s1.1,s1.2.2.1,s1.2.2.2.1,s1.2.2.2.2.1,s1.2.2.2.2.2)) (um (fun (s2:(List Int)×Int×(List Int)×(List Bool)×(List aj))=>some (.inl (s2.1,s2.2.1,s2.2.2.1,s2.2.2.2.1,s2.2.2.2.2))) (um (fun (y1:Unit)=>some (.inr ())) (fun (y2:(List Int)×Int×(List Int)×(List Bool)×(List aj))=>some (.inl (y2.1,y2.2.1,y2.2.2.1,y2.2.2.2.1,y2.2.2.2.2)))))) (um (fun (v5:(List Int)×Int×(List Int)×(List Bool)×(List aj))=>(ua (ua (ze cw s1.2.1) fun e2=>(bif decide (0≤e2) then (ua (XL c ({day:=v5.2.1,aE:=v5.2.2.1,used:=v5.2.2.2.1,aI:=v5.2.2.2.2}:aG) e2) fun r8=>some (r8 == zw)) else some false)) fun v6=>(bif v6 then some (.inl (v5.1,v5.2.1,v5.2.2.1,v5.2.2.2.1,v5.2.2.2.2)) else (ua (ze cw s1.2.1) fun e3=>(ua (dw c ({day:=v5.2.1,aE:=v5.2.2.1,used:=v5.2.2.2.1,aI:=v5.2.2.2.2}:aG) e3) fun r9=>(bif (r9.2 == 0) then (ua (ze cw s1.2.1) fun e4=>(ua (zJ (α:=Int) 8 v5.1 [e4]) fun e5=>(ua (bif r5.1 then (ua (ZM c r9.1 zw) fun fI=>some fI) else some false) fun v7=>(bif v7 then some (.inr ()) else some (.inl (e5,r9.1.day,r9.1.aE,r9.1.used,r9.1.aI)))))) else some (.inr ()))))))) (fun (y3:Unit)=>some (.inr ())))) (um (fun (v8:(List Int)×Int×(List Int)×(List Bool)×(List aj))=>some (.inl (v8.1,(IntKind.i64.wrap (s1.2.1+1)),v8.2.1,v8.2.2.1,v8.2.2.2.1,v8.2.2.2.2))) (fun (y4:Unit)=>some (.inr (.inr ()))))) else some (.inr (.inl (s1.1,s1.2.2.1,s1.2.2.2.1,s1.2.2.2.2.1,s1.2.2.2.2.2)))))) ([],0,r4.1.day,r4.1.aE,r4.1.used,r4.1.aI)) (um (fun (y5:(List Int)×Int×(List Int)×(List Bool)×(List aj))=>some (.inl (y5.1,y5.2.1,y5.2.2.1,y5.2.2.2.1,y5.2.2.2.2))) (fun (y6:Unit)=>some (.inr ())))) (um (fun (v9:(List Int)×Int×(List Int)×(List Bool)×(List aj))=>(ua (Cq c r3.1) fun eX=>(ua (bif r1 then (ua (wi r3.1 v9.1) fun Bk=>(bif Bk then (bif (eX.2 == 0) then (bif ((eX.1.length:Int) == (IntKind.i64.wrap ((r3.1.length:Int)+1))) then (ua (ze eX.1 (r3.1.length:Int)) fun e6=>(ua (yH e6 ({day:=v9.2.1,aE:=v9.2.2.1,used:=v9.2.2.2.1,aI:=v9.2.2.2.2}:aG)) fun Bl=>some Bl)) else some false) else some false) else some false)) else some false) fun v10=>some v10))) (fun (y7:Unit)=>some false))) else some false)))))))))
noncomputable def XP (c:ax) (zw:Int) (cw:List Int):aB Bool:=
 .aA 1 (.call 4400 zfk fun r1=>.use 0 4400 (.cut (β:=Bool) 2 (.e [1,2,3,7] (fun v1=>[(33,vB v1)]) [0] 12) (.aA 0 (.call 4402 (U7 c) fun r2=>.ite 4202 r2 (.us [(1,4402),(4,4203)] (.ln 4404 zb cw (.use 5 4404 (.ret (decide (20 < (cw.length:Int))))))) (.us [(1,4402),(4,4203)] (.ret true)))) fun v1=>.ite 4204 v1 (.sel 4204 (.ret r1)) (.sel 4204 (.aA 0 (.call 4406 (ziU c zw cw) fun r3=>.use 3 4406 (.aA 0 (.call 4408 (QR c) fun r4=>.use 1 4408 (.cut (β:=Bool) 2 (.e [1,2,3,7,8,10] (fun v2=>[(52,vB v2)]) [0,26] 35) (.aA 0 (.ite 4206 (r3.2 == 0) (.use 3 4207 (.ret (!(r4.2 == 0)))) (.use 3 4207 (.ret true)))) fun v2=>.ite 4208 v2 (.sel 4208 (.ret r1)) (.sel 4208 (.aA 0 (.call 4410 (zkP c zw ({state:=r4.1,own:=true}:aH)) fun r5=>.use 4 4410 (.ite 4216 (r5.2 == 0) (.sel 4217 (.dK (β:=(List Int)×Int×(List Int)×(List Bool)×(List aj)) (γ:=Unit) 2 (.k [3,7,8,10] (fun v9=>[(14,.aS 49 (uc zb v9.1))]) [0] (fun v9=>[(26,.af 4 [[vI v9.2.1,.ak (.slice (uc zb v9.2.2.1)),.ak (.slice (uc zg v9.2.2.2.1)),.ak (.slice (uc aj.row v9.2.2.2.2))]]),(49,.aT 1 v9.1.length)]) 50 fun _=>(.exp rfl rfl (.exp rfl rfl .nil))) (.cC 2 [DU 14 1] (.iter (σ:=(List Int)×Int×Int×(List Int)×(List Bool)×(List aj)) (ρ:=((List Int)×Int×(List Int)×(List Bool)×(List aj)) ⊕ Unit) ([],0,r4.1.day,r4.1.aE,r4.1.used,r4.1.aI) (.k [1,2,3,7,8,10,12] (fun s1=>[(14,.aS 49 (uc zb s1.1)),(15,vI s1.2.1)]) [0] (fun s1=>[(26,.af 4 [[vI s1.2.2.1,.ak (.slice (uc zb s1.2.2.2.1)),.ak (.slice (uc zg s1.2.2.2.2.1)),.ak (.slice (uc aj.row s1.2.2.2.2.2))]]),(49,.aT 1 s1.1.length)]) 50 fun _=>(.exp rfl rfl (.exp rfl rfl .nil))) (fun s1=>.cut (β:=Bool) 2 (.e [1,2,3,7,8,10,12,14,15] (fun v3=>[(74,vB v3)]) [0,26,49] 61) (.aA 0 (.ite 4258 (decide (s1.2.1 < (cw.length:Int))) (.ln 4442 zb cw (.us [(2,4442),(5,4258)] (.ret (decide (s1.2.2.1 < c.aX))))) (.ln 4444 zb cw (.us [(2,4444),(5,4258)] (.ret false))))) fun v3=>.ite 4260 v3 (.sel 4260 (.dK (β:=(List Int)×Int×(List Int)×(List Bool)×(List aj)) (γ:=Unit) 1 (.k [1,2,3,7,8,10,12,15] (fun v8=>[(14,.aS 49 (uc zb v8.1))]) [0] (fun v8=>[(26,.af 4 [[vI v8.2.1,.ak (.slice (uc zb v8.2.2.1)),.ak (.slice (uc zg v8.2.2.2.1)),.ak (.slice (uc aj.row v8.2.2.2.2))]]),(49,.aT 1 v8.1.length)]) 78 fun _=>(.exp rfl rfl (.exp rfl rfl .nil))) (.dK (β:=(List Int)×Int×(List Int)×(List Bool)×(List aj)) (γ:=Unit) 2 (.k [1,2,3,7,8,10,12,15] (fun v5=>[(14,.aS 49 (uc zb v5.1))]) [0] (fun v5=>[(26,.af 4 [[vI v5.2.1,.ak (.slice (uc zb v5.2.2.1)),.ak (.slice (uc zg v5.2.2.2.1)),.ak (.slice (uc aj.row v5.2.2.2.2))]]),(49,.aT 1 v5.1.length)]) 62 fun _=>(.exp rfl rfl (.exp rfl rfl .nil))) (.aD (σ:=(List Int)×Int×(List Int)×(List Bool)×(List aj)) (ρ:=Unit ⊕ ((List Int)×Int×(List Int)×(List Bool)×(List aj))) 4262 16 100 (s1.1,s1.2.2.1,s1.2.2.2.1,s1.2.2.2.2.1,s1.2.2.2.2.2) (.k [1,2,3,7,8,10,12,15] (fun s2=>[(14,.aS 49 (uc zb s2.1))]) [0] (fun s2=>[(26,.af 4 [[vI s2.2.1,.ak (.slice (uc zb s2.2.2.1)),.ak (.slice (uc zg s2.2.2.2.1)),.ak (.slice (uc aj.row s2.2.2.2.2))]]),(49,.aT 1 s2.1.length)]) 62 fun _=>(.exp rfl rfl (.exp rfl rfl .nil))) (fun i2 s2=>.sel 4262 (.aA 0 (.call 4460 (zhl c zw ({day:=s2.2.1,aE:=s2.2.2.1,used:=s2.2.2.2.1,aI:=s2.2.2.2.2}:aG)) fun r6=>.use 3 4460 (.cut (β:=Bool) 2 (.e [1,2,3,7,8,10,12,14,15,16,17] (fun v4=>[(97,vB v4)]) [0,26,49,71] 84) (.aA 0 (.ite 4274 (r6.2 == 0) (.ite 4276 r5.1 (.us [(3,4275),(5,4276)] (.ret (!r6.1.safe))) (.us [(3,4275),(5,4276)] (.ret false))) (.use 3 4275 (.ret true)))) fun v4=>.ite 4278 v4 (.sel 4278 (.ret (.inr (.inl ())))) (.sel 4278 (.ite 4280 (r6.1.move == (-2)) (.sel 4280 (.ret (.inr (.inr (s2.1,s2.2.1,s2.2.2.1,s2.2.2.2.1,s2.2.2.2.2))))) (.sel 4280 (.aA 0 (.call 4462 (ZL c ({day:=s2.2.1,aE:=s2.2.2.1,used:=s2.2.2.2.1,aI:=s2.2.2.2.2}:aG) r6.1.move) fun r7=>.use 4 4462 (.ite 4282 (r7.2 == 0) (.sel 4283 (.aA 0 (.b1 4464 (zJ (α:=Int) 8 s2.1 [r6.1.move]) (fun e1=>.a (uc zb e1) e1.length) (fun e1 ec=>(qm zb 1 8 (fun _=>rfl) ec)) fun e1=>.use 4 4464 (.ret (.inl (e1,r7.1.day,r7.1.aE,r7.1.used,r7.1.aI)))))) (.sel 4283 (.ret (.inr (.inl ())))))))))))))) fun os2=>.case os2 (fun s2=>.sel 4262 (.ret (.inl (s2.1,s2.2.1,s2.2.2.1,s2.2.2.2.1,s2.2.2.2.2)))) fun zy1=>.case zy1 (fun y1=>.ret (.inr ())) fun y2=>.ret (.inl (y2.1,y2.2.1,y2.2.2.1,y2.2.2.2.1,y2.2.2.2.2))) fun o_v5=>.case o_v5 (fun v5=>.cut (β:=Bool) 2 (.e [1,2,3,7,8,10,12,14,15] (fun v6=>[(132,vB v6)]) [0,26,49] 78) (.aA 0 (.ix 4446 zb cw s1.2.1 fun e2=>.ite 4284 (decide (0≤e2)) (.call 4448 (U0 c ({day:=v5.2.1,aE:=v5.2.2.1,used:=v5.2.2.2.1,aI:=v5.2.2.2.2}:aG) e2) fun r8=>.us [(2,4446),(6,4284),(10,4446),(12,4448)] (.ret (r8 == zw))) (.us [(2,4446),(6,4284)] (.ret false)))) fun v6=>.ite 4286 v6 (.sel 4286 (.ret (.inl (v5.1,v5.2.1,v5.2.2.1,v5.2.2.2.1,v5.2.2.2.2)))) (.sel 4286 (.aA 0 (.ix 4450 zb cw s1.2.1 fun e3=>.call 4452 (ZL c ({day:=v5.2.1,aE:=v5.2.2.1,used:=v5.2.2.2.1,aI:=v5.2.2.2.2}:aG) e3) fun r9=>.us [(4,4450),(6,4452)] (.ite 4288 (r9.2 == 0) (.sel 4289 (.aA 0 (.ix 4454 zb cw s1.2.1 fun e4=>.b1 4456 (zJ (α:=Int) 8 v5.1 [e4]) (fun e5=>.a (uc zb e5) e5.length) (fun e5 nN=>(qm zb 1 8 (fun _=>rfl) nN)) fun e5=>.us [(3,4454),(6,4456)] (.cut (β:=Bool) 2 (.e [1,2,3,7,8,10,12,14,15] (fun v7=>[(159,vB v7)]) [0,26,49,88,98] 110) (.aA 0 (.ite 4290 r5.1 (.call 4458 (U2 c r9.1 zw) fun fI=>.us [(2,4290),(5,4458)] (.ret fI)) (.use 2 4290 (.ret false)))) fun v7=>.ite 4292 v7 (.sel 4292 (.ret (.inr ()))) (.sel 4292 (.ret (.inl (e5,r9.1.day,r9.1.aE,r9.1.used,r9.1.aI)))))))) (.sel 4289 (.ret (.inr ())))))))) fun y3=>.ret (.inr ())) fun o_v8=>.case o_v8 (fun v8=>.ret (.inl (v8.1,(IntKind.i64.wrap (s1.2.1+1)),v8.2.1,v8.2.2.1,v8.2.2.2.1,v8.2.2.2.2))) fun y4=>.ret (.inr (.inr ())))) (.sel 4260 (.ret (.inr (.inl (s1.1,s1.2.2.1,s1.2.2.2.1,s1.2.2.2.2.1,s1.2.2.2.2.2)))))) fun os1=>.case os1 (fun y5=>.ret (.inl (y5.1,y5.2.1,y5.2.2.1,y5.2.2.2.1,y5.2.2.2.2))) fun y6=>.ret (.inr ()))) fun o_v9=>.case o_v9 (fun v9=>.aA 0 (.call 4412 (zoz c r3.1) fun eX=>.use 2 4412 (.cut (β:=Bool) 1 (.e [] (fun v10=>[(6,vB v10)]) [0,26,49] 86) (.aA 0 (.ite 4318 r1 (.call 4414 (IZ r3.1 v9.1) fun Bk=>.ite 4320 Bk (.ite 4322 (eX.2 == 0) (.ite 4324 ((eX.1.length:Int) == (IntKind.i64.wrap ((r3.1.length:Int)+1))) (.ix 4416 aG.row eX.1 (r3.1.length:Int) fun e6=>.call 4418 (zi2 e6 ({day:=v9.2.1,aE:=v9.2.2.1,used:=v9.2.2.2.1,aI:=v9.2.2.2.2}:aG)) fun Bl=>.us [(2,4318),(4,4414),(7,4320),(11,4322)] (.ln 4424 aG.row eX.1 (.use 12 4424 (.ln 4422 zb r3.1 (.us [(14,4422),(19,4324)] (.ln 4420 zb r3.1 (.us [(21,4420),(22,4416),(25,4418)] (.ret Bl)))))))) (.us [(2,4318),(4,4414),(7,4320),(11,4322)] (.ln 4428 aG.row eX.1 (.use 12 4428 (.ln 4426 zb r3.1 (.us [(14,4426),(19,4324)] (.ret false))))))) (.us [(2,4318),(4,4414),(7,4320),(11,4322)] (.f1 4430 (.g false) (rfl:false=false) (.use 19 4430 (.ret false))))) (.us [(2,4318),(4,4414),(7,4320)] (.f1 4434 (.g false) (rfl:false=false) (.use 11 4434 (.f1 4432 (.g false) (rfl:false=false) (.use 19 4432 (.ret false))))))) (.use 2 4318 (.f1 4440 (.g false) (rfl:false=false) (.use 7 4440 (.f1 4438 (.g false) (rfl:false=false) (.use 11 4438 (.f1 4436 (.g false) (rfl:false=false) (.use 19 4436 (.ret false)))))))))) fun v10=>.ret v10))) fun y7=>.ret false)) (.sel 4217 (.ret false))))))))))))))
theorem XQ (c:ax) (zw:Int) (cw:List Int) (res:Bool) (hd:wl c zw cw=some res):aJ C0 185 [.agg (ax.row c),.int .i64 zw,.slice (uc zb cw)] (.bool res):=
 aB.pure (iv:=fun res=>.bool res) (XP c zw cw) (by kernel_rfl) (aB.aC hd (by kernel_rfl))
end Go.Proofs.YtlpmnmbebkdocaaGreatDoor
namespace Go.Proofs.YtlpmnmbebkdocaaGreatDoor
set_option linter.unusedSimpArgs false
set_option linter.unusedVariables false
set_option maxRecDepth 100000
theorem zhm (a b:Int):∃ r,iter (σ:=Int×Int) (ρ:=Int) (fun s2=>(bif (s2.2 == 0) then some (.inr s2.1) else (ua (Jr .u64 s2.1 s2.2) fun e2=>some (.inl (s2.2,e2))))) (a,b)=some r:=by
 have:=Ip (f:=fun s2:Int×Int=>(bif (s2.2 == 0) then some (.inr s2.1) else (ua (Jr .u64 s2.1 s2.2) fun e2=>some (.inl (s2.2,e2))))) (fun _=>True) (fun _:Int=>True) (fun s=>s.2.natAbs) (fun s _=>by
  by_cases h:s.2=0
  ·exact ⟨.inr s.1,by simp [h],trivial⟩
  ·refine ⟨.inl (s.2,s.1.tmod s.2),by simp [beq_eq_false_iff_ne.2 h,h,Jr],trivial,?_⟩
   show (s.1.tmod s.2).natAbs < s.2.natAbs
   rw [Int.natAbs_tmod]
   exact Nat.mod_lt _ (by omega)) (a,b) trivial
 obtain ⟨r,h,_⟩:=this
 exact ⟨r,h⟩
theorem zaZ (l:List Int) (hl:l.length < 1000):∃ r,kD l=some r:=by
 unfold kD
 obtain ⟨o,h1,h2⟩:=wB (n:=l.length) (s0:=(0:Int)) (f:=(fun i1 s1=>(ua (ua (ze l (i1:Int)) fun e1=>(ua (iter (σ:=Int×Int) (ρ:=Int) (fun s2=>(bif (s2.2 == 0) then some (.inr s2.1) else (ua (Jr .u64 s2.1 s2.2) fun e2=>some (.inl (s2.2,e2))))) (s1,e1)) (fun (y1:Int)=>some y1))) fun (v1:Int)=>some (.inl v1)))) (fun _ _=>True) (fun _:Unit=>False) (by omega) trivial (fun i s hi _=>by
  obtain ⟨r,hr⟩:=zhm s l[i]
  exact ⟨.inl r,by simp only [zN,ub hi,Option.bind_some,hr],trivial⟩)
 rw [h1]
 cases o with
 | inl s=>exact ⟨s,rfl⟩
 | inr r=>exact h2.elim
theorem Qp (n:Int):∃ r,wP n=some r:=by
 unfold wP;simp only [zs];exact ⟨_,rfl⟩
noncomputable def Eu (r:aQ):Bool:=(js r).getD false
theorem XR (r:aQ):js r=some (Eu r):=by
 have:∃ b,js r=some b:=by
  unfold js
  obtain ⟨a,ha⟩:=Qp r.num
  obtain ⟨b,hb⟩:=Qp r.den
  obtain ⟨g,hg⟩:=zaZ [a,b] (by simp)
  simp only [ha,hb,hg,zs,aV]
  exact ⟨_,rfl⟩
 obtain ⟨b,hb⟩:=this
 unfold Eu;rw [hb];rfl
def Lh (x:Option (Int×Bool)):Bool:=(x.getD (0,false)).2
theorem zkQ {x:Option (Int×Bool)} {r:Int×Bool} (h:x=some r):x=some (r.1,Lh x):=by subst h;rfl
noncomputable def Ev (l:List bZ):Bool:=Lh (jB l)
theorem YF (t:List bZ) (i:Nat) (hi:i < t.length) (ht:t.length < 1000):∃ b,wQ t i=some b:=by
 unfold wQ
 have hs:Vd t 0 (i:Int)=some (t.take i):=by
  unfold Vd;rw [if_pos ⟨by omega,by omega,by omega⟩];simp
 have hf:aD (σ:=Unit) (ρ:=Unit) ((t.take i).length:Int) (fun i1 s1=>(ua (ze (t.take i) (i1:Int)) fun e3=>(bif (e3.name.toList == t[i].name.toList) then some (.inr ()) else some (.inl ())))) ()=some (match (uq (t.take i).length).find? (fun j=>!(match (t.take i)[j]? with | some e=>!(e.name.toList == t[i].name.toList) | none=>true)) with | none=>.inl () | some j=>.inr ()):=by
  refine wC _ (fun _=>()) (by simp;omega) (fun j hj => ?_)
  simp only [zN,ub hj,aV]
  cases ((t.take i)[j].name.toList == t[i].name.toList)<;>rfl
 rw [zy (ub hi)]
 simp only [aV]
 rw [hs]
 simp only [aV]
 rw [hf]
 simp only [XR,zs,aV,XE]
 split
 all_goals simp only [ut,uy,zs]
 ·by_cases hb:0≤t[i].base∧t[i].base < t.length
  ·obtain ⟨h1,h2⟩:=qW hb.1 hb.2
   simp only [h2,aV,zs]
   exact ⟨_,rfl⟩
  ·by_cases h1:0≤t[i].base
   ·have:¬ t[i].base < t.length:=fun h=>hb ⟨h1,h⟩
    simp only [h1,this,decide_true,decide_false,bW,b9,aV,zs]
    exact ⟨_,rfl⟩
   ·simp only [h1,decide_false,b9,aV,zs]
    exact ⟨_,rfl⟩
 ·exact ⟨_,rfl⟩
theorem YG (l:List bZ) (hl:l.length < 1000):∃ k,jB l=some (k,Ev l):=by
 have:∃ r,jB l=some r:=by
  unfold jB
  obtain ⟨o,h1,h2⟩:=wB (n:=l.length) (s0:=()) (f:=(fun i1 s1=>(ua (wQ l (i1:Int)) fun r1=>(bif r1 then some (.inl ()) else some (.inr (i1:Int)))))) (fun _ _=>True) (fun _:Int=>True) (by omega) trivial (fun i s hi _=>by
   obtain ⟨b,hb⟩:=YF l i hi hl
   cases b with
   | true=>exact ⟨.inl (),by simp [hb],trivial⟩
   | false=>exact ⟨.inr i,by simp [hb],trivial⟩)
  rw [h1]
  cases o with
  | inl s=>exact ⟨_,rfl⟩
  | inr r=>exact ⟨_,rfl⟩
 obtain ⟨r,hr⟩:=this
 exact ⟨r.1,zkQ hr⟩
def wK (nh:Nat) (r:Int):Bool:=decide (0≤r)&&decide (r < nh)
theorem XS (c:ax) (r:Int):jt c r=some (wK c.aE.length r):=by
 simp only [jt,zs,aV,wK,un]
noncomputable def Bn (r:aQ):Bool:=decide (0 < r.num)&&Eu r
theorem YH (r:aQ):xC r=some (Bn r):=by
 simp only [xC,XR,zs,aV,Bn,un]
def WA (r:aQ):Bool:=r.num == 0&&(r.den == 1&&true)
noncomputable def Kv (nh nu:Nat) (aW:Int) (a:aZ):Bool:=
 bif wK nh a.bK then
  (bif a.kind == 1 then (a.bP == 0&&(a.to == -1||wK nh a.to))&&(bif a.unit == -1 then WA a.dh else (decide (0≤a.unit)&&(decide (a.unit < nu)&&Bn a.dh)))
  else (a.kind == 2||a.kind == 3)&&(wK nh a.bP&&(decide (0≤a.to)&&(decide (a.to < aW)&&(a.unit == -1&&WA a.dh)))))
 else a.kind == 1&&(a.bK == -1&&(a.bP == 0&&((a.to == -1||wK nh a.to)&&(a.unit == -1&&WA a.dh))))
theorem zfl (c:ax) (a:aZ):ya c a=some (Kv c.aE.length c.bE.length c.aW a):=by
 simp only [ya,XS,YH,kE,aV,zs,Kv,WA]
 cases wK c.aE.length a.bK<;>cases (a.kind == 1)<;>cases (a.bP == 0)<;>cases (a.to == -1)<;>cases (wK c.aE.length a.to)<;>cases (a.unit == -1) <;>
  simp only [bW,b9,ul,uk,aV,uI,Bool.false_or,uj,ui,zs,un,Bool.cond_self,uG] <;>
  first | rfl | (cases (a.bK == -1)<;>rfl) | (cases (a.kind == 2)<;>rfl)
def kd (aW:Int) (hs:List Int):Bool:=hs.all fun h=>decide (0≤h)&&decide (h < aW)
theorem zmW (c:ax) (hp:c.aW < 4611686018427387904) (hl:c.aE.length < 4611686018427387904):Yj c=some (kd c.aW c.aE):=by
 unfold Yj
 have hin:∀ (i:Nat) (hi:i < c.aE.length),(ua (α:=Unit ⊕ Unit) (ua (aD (σ:=Unit) (ρ:=Unit) c.aW (fun i2 s2=>(ua (ze c.aE (i:Int)) fun e1=>(bif (e1 == (i2:Int)) then some (.inr ()) else some (.inl ())))) ()) (um (fun (s2:Unit)=>some (.inr ())) (fun (y1:Unit)=>some (.inl ())))) (um (fun (v1:Unit)=>some (.inl ())) (fun (y2:Unit)=>some (.inr ())))) =
   some (bif decide (0≤c.aE[i])&&decide (c.aE[i] < c.aW) then (.inl ():Unit ⊕ Unit) else .inr ()):=fun i hi=>by
  obtain ⟨o,h1,h2⟩:=Io (n:=c.aW) (s0:=()) (f:=(fun i2 s2=>(ua (ze c.aE (i:Int)) fun e1=>(bif (e1 == (i2:Int)) then some (.inr ()) else some (.inl ()))))) (fun k _=>∀ j:Nat,j < k→c.aE[i]≠(j:Int)) (fun _:Unit=>0≤c.aE[i]∧c.aE[i] < c.aW) hp (fun j hj=>by omega) (fun k s hk hI=>by
   simp only [zN,ub hi,aV]
   by_cases he:c.aE[i]=(k:Int)
   ·exact ⟨.inr (),by simp [he],by show 0≤c.aE[i]∧c.aE[i] < c.aW;omega⟩
   ·refine ⟨.inl (),by rw [beq_eq_false_iff_ne.2 he];rfl,fun j hj => ?_⟩
    rcases uB j k with h | h
    ·exact hI j h
    ·obtain rfl:j=k:=by omega
     exact he)
  rw [h1]
  cases o with
  | inl s=>
   have:¬ (0≤c.aE[i]∧c.aE[i] < c.aW):=fun h=>h2 c.aE[i].toNat (by omega) (by omega)
   have hb:(decide (0≤c.aE[i])&&decide (c.aE[i] < c.aW))=false:=by
    rw [uu];simp only [ne_eq,ud,decide_eq_true_eq];exact this
   rw [hb];rfl
  | inr r=>
   have hb:(decide (0≤c.aE[i])&&decide (c.aE[i] < c.aW))=true:=by
    simp only [ud,decide_eq_true_eq];exact h2
   rw [hb];rfl
 rw [wC (fun i=>match c.aE[i]? with | some h=>decide (0≤h)&&decide (h < c.aW) | none=>true) (fun _=>()) hl (fun i hi=>by
  rw [hin i hi];simp only [ub hi])]
 cases hf:(uq c.aE.length).find? (fun j=>!(match c.aE[j]? with | some h=>decide (0≤h)&&decide (h < c.aW) | none=>true)) with
 | none=>
  simp only [aV,ut]
  have:kd c.aW c.aE=true:=uh.2 fun h hh=>by
   obtain ⟨i,hi,rfl⟩:=ur hh
   have:=kA hf i hi
   simpa only [ub hi] using this
  rw [this]
 | some k=>
  simp only [aV,uy]
  obtain ⟨h1,h2,_⟩:=kB hf
  have:kd c.aW c.aE=false:=by
   rw [uu]
   intro h
   have:=uh.1 h c.aE[k] (uo h1)
   simp only [ub h1] at h2
   rw [h2] at this;cases this
  rw [this]
noncomputable def XU (aX:Int) (off:List Int):Bool:=((ua (aD (σ:=Int) (ρ:=Unit) (off.length:Int) (fun i2 s2=>(ua (ze off (i2:Int)) fun e2=>(ua (bif decide (e2≤s2) then some true else some (decide (aX≤e2))) fun v2=>(bif v2 then some (.inr ()) else some (.inl e2))))) (-1)) (um (fun (s2:Int)=>some true) (fun (y2:Unit)=>some false)))).getD false
theorem zoA (aX:Int) (off:List Int) (hl:off.length < 4611686018427387904):(ua (aD (σ:=Int) (ρ:=Unit) (off.length:Int) (fun i2 s2=>(ua (ze off (i2:Int)) fun e2=>(ua (bif decide (e2≤s2) then some true else some (decide (aX≤e2))) fun v2=>(bif v2 then some (.inr ()) else some (.inl e2))))) (-1)) (um (fun (s2:Int)=>some true) (fun (y2:Unit)=>some false)))=some (XU aX off):=by
 obtain ⟨o,h1,h2⟩:=wB (n:=off.length) (s0:=(-1:Int)) (f:=(fun i2 s2=>(ua (ze off (i2:Int)) fun e2=>(ua (bif decide (e2≤s2) then some true else some (decide (aX≤e2))) fun v2=>(bif v2 then some (.inr ()) else some (.inl e2)))))) (fun _ _=>True) (fun _:Unit=>True) hl trivial (fun i s hi _=>by
  simp only [zN,ub hi,aV,zs]
  cases (bif decide (off[i]≤s) then true else decide (aX≤off[i])) with
  | true=>exact ⟨.inr (),rfl,trivial⟩
  | false=>exact ⟨.inl _,rfl,trivial⟩)
 unfold XU
 rw [h1]
 cases o<;>rfl
noncomputable def jC (c:ax):Bool:=
 !(decide (c.aW < 1))&&(!(decide (c.aX < 1))&&(!((c.aE.length:Int) == 0)&&(kd c.aW c.aE&&(Ev c.bE&&(c.aK.all (Kv c.aE.length c.bE.length c.aW)&&XU c.aX c.off)))))
theorem ZP {α:Type} {l:List α} {f:Nat→Unit→Option (Unit ⊕ Unit)} (p:α→Bool) (hl:l.length < 4611686018427387904) (h:∀ (i:Nat) (hi:i < l.length),f i ()=some (bif p l[i] then .inl () else .inr ())) :
  aD (l.length:Int) f ()=some (bif l.all p then .inl () else .inr ()):=by
 rw [wC (fun i=>match l[i]? with | some x=>p x | none=>true) (fun _=>()) hl (fun i hi=>by rw [h i hi];simp only [ub hi])]
 cases hf:(uq l.length).find? (fun j=>!(match l[j]? with | some x=>p x | none=>true)) with
 | none=>
  have:l.all p=true:=uh.2 fun x hx=>by
   obtain ⟨i,hi,rfl⟩:=ur hx
   have:=kA hf i hi
   simpa only [ub hi] using this
  rw [this];rfl
 | some k=>
  obtain ⟨h1,h2,_⟩:=kB hf
  have:l.all p=false:=by
   rw [uu]
   intro h
   have:=uh.1 h l[k] (uo h1)
   simp only [ub h1] at h2
   rw [h2] at this;cases this
  rw [this];rfl
theorem zi3 (c:ax) (hp:c.aW < 4611686018427387904) (hh:c.aE.length < 4611686018427387904) (hu:c.bE.length < 1000) (ha:c.aK.length < 1000) (ho:c.off.length < 4611686018427387904):JG c=some (jC c):=by
 unfold JG
 obtain ⟨k,hk⟩:=YG c.bE hu
 have rK:=ZP (l:=c.aK) (f:=(fun i1 s1=>(ua (ze c.aK (i1:Int)) fun e1=>(ua (ya c e1) fun r3=>(bif r3 then some (.inl ()) else some (.inr ())))))) (Kv c.aE.length c.bE.length c.aW) (by omega) (fun i hi=>by
  simp only [zN,ub hi,aV,zfl,zs])
 rw [zmW c hp hh,hk]
 simp only [aV]
 rw [rK]
 simp only [aV]
 rw [zoA c.aX c.off ho]
 simp only [aV,zs,jC]
 cases decide (c.aW < 1)<;>cases decide (c.aX < 1)<;>cases ((c.aE.length:Int) == 0)<;>cases kd c.aW c.aE<;>cases Ev c.bE<;>cases c.aK.all (Kv c.aE.length c.bE.length c.aW) <;>
  simp only [bW,b9,ul,uk,aV,uj,ui,ut,uy]
def yI (aK:List aZ) (a:Int):Bool:=match ze aK a with
 | some e=>e.kind == 1&&e.bK == -1
 | none=>false
theorem Li (c:ax) (a:Int):xu c a=some (yI c.aK a):=by
 unfold xu yI
 by_cases h:0≤a∧a < c.aK.length
 ·obtain ⟨h1,h2⟩:=qW h.1 h.2
  simp only [h2,h.1,h.2,decide_true,bW,aV,zs,un]
 ·rw [Iq h]
  by_cases h1:0≤a
  ·have:¬ a < c.aK.length:=fun h2=>h ⟨h1,h2⟩
   simp only [h1,this,decide_true,decide_false,bW,b9,aV]
  ·simp only [h1,decide_false,b9,aV]
def YI (nh:Nat) (aK:List aZ) (k:aO):Bool:=
 bif k.kind == 4 then k.bK == -1&&(k.need == 1&&(k.br == 0 && !k.final))
 else (wK nh k.bK && !yI aK k.act)&&(bif k.kind == 1 then decide (1≤k.need)&&(decide (k.need≤9)&&(decide (0≤k.br)&&decide (k.br≤400)))
  else bif k.kind == 2 then k.need == 1&&k.br == 0 else k.kind == 3&&(k.need == 1&&(k.br == 0 && !k.final)))
theorem zdv (c:ax) (k:aO):kb c k=some (YI c.aE.length c.aK k):=by
 simp only [kb,XS,Li,aV,zs,YI]
 cases (k.kind == 4)<;>cases wK c.aE.length k.bK<;>cases yI c.aK k.act<;>cases (k.kind == 1)<;>cases (k.kind == 2)<;>cases (k.kind == 3) <;>
  simp only [bW,b9,ul,uk,aV,uj,ui,uG,un,zs]
def WB (n:Nat) (i:Int) (s:bl):Bool := !(decide (s.clause < 0))&&(!(decide ((n:Int)≤s.clause))&&(!(s.clause == i)&&(!(decide (s.is < 1)) && !(decide (4 < s.is)))))
noncomputable def Lj (nh:Nat) (bE:List bZ) (k:aO):Bool:=
 (k.kind == 1||k.kind == 2)&&((match ze bE k.unit with | some u=>u.kind == 2 | none=>false)&&(Bn k.value&&wK nh k.to))
def XV (aK:List aZ) (k:aO):Bool:=(k.bg == -1&&k.resume == -1)||(!(k.bg == k.resume)&&(yI aK k.bg&&yI aK k.resume))
noncomputable def vF (nh:Nat) (bE:List bZ) (aK:List aZ) (n:Nat) (i:Int) (k:aO):Bool:=
 (!(decide (k.act < 0))&&(!(decide ((aK.length:Int)≤k.act))&&(!(decide (k.after < 1)) && !(decide (400 < k.after))))) &&
 ((YI nh aK k && !(decide (8 < (k.start.length:Int)))) &&
 (k.start.all (WB n i) &&
 (XV aK k &&
 (bif k.unit == -1 then WA k.value&&k.to == -1 else Lj nh bE k))))
theorem za0 (c:ax) (i:Nat) (k:aO) (hk:c.ay[i]?=some k) (hs:k.start.length < 4611686018427387904):wZ c i=some (vF c.aE.length c.bE c.aK c.ay.length i k):=by
 unfold wZ
 have hst:=ZP (l:=k.start) (f:=(fun i1 s1=>(ua (ze k.start (i1:Int)) fun e2=>(ua (bif decide (e2.clause < 0) then some true else (bif decide ((c.ay.length:Int)≤e2.clause) then some true else (bif (e2.clause == (i:Int)) then some true else (bif decide (e2.is < 1) then some true else some (decide (4 < e2.is)))))) fun v3=>(bif v3 then some (.inr ()) else some (.inl ())))))) (WB c.ay.length i) hs (fun j hj=>by
  simp only [zN,ub hj,aV,zs,WB]
  cases decide (k.start[j].clause < 0)<;>cases decide ((c.ay.length:Int)≤k.start[j].clause)<;>cases (k.start[j].clause == (i:Int))<;>cases decide (k.start[j].is < 1)<;>cases decide (4 < k.start[j].is)<;>rfl)
 have hu:(bif decide (0≤k.unit) then (bif decide (k.unit < (c.bE.length:Int)) then (ua (ze c.bE k.unit) fun e3=>(bif (e3.kind == 2) then (ua (xC k.value) fun r5=>(bif r5 then (ua (jt c k.to) fun r6=>some r6) else some false)) else some false)) else some false) else some false) =
   some ((match ze c.bE k.unit with | some u=>u.kind == 2 | none=>false)&&(Bn k.value&&wK c.aE.length k.to)):=by
  by_cases h:0≤k.unit∧k.unit < c.bE.length
  ·obtain ⟨h1,h2⟩:=qW h.1 h.2
   simp only [h2,h.1,h.2,decide_true,bW,aV,zs,un,YH,XS]
  ·rw [Iq h]
   by_cases h1:0≤k.unit
   ·have:¬ k.unit < c.bE.length:=fun h2=>h ⟨h1,h2⟩
    simp only [h1,this,decide_true,decide_false,bW,b9,ui]
   ·simp only [h1,decide_false,b9,ui]
 have hp:(ua (bif (k.bg == (-1)) then some (!(k.resume == (-1))) else some true) fun v4=>(bif v4 then (ua (bif (k.bg == k.resume) then some true else (ua (xu c k.bg) fun r2=>(bif r2 then (ua (xu c k.resume) fun r3=>some (!r3)) else some true))) fun v5=>(bif v5 then some (.inr ()) else some (.inl ()))) else some (.inl ()))) =
   some (bif XV c.aK k then (.inl ():Unit ⊕ Unit) else .inr ()):=by
  simp only [Li,XV,zs,aV]
  cases (k.bg == -1)<;>cases (k.resume == -1)<;>cases (k.bg == k.resume)<;>cases yI c.aK k.bg<;>cases yI c.aK k.resume<;>rfl
 rw [zy hk]
 simp only [aV]
 rw [hst]
 simp only [aV]
 rw [hp,hu]
 simp only [aV,zdv,kE,zs,vF,Lj,WA]
 cases decide (k.act < 0)<;>simp only [bW,b9,ul,uk,uj,ui,aV]
 cases decide ((c.aK.length:Int)≤k.act)<;>simp only [bW,b9,ul,uk,uj,ui,aV]
 cases decide (k.after < 1)<;>simp only [bW,b9,ul,uk,uj,ui,aV]
 cases decide (400 < k.after)<;>simp only [bW,b9,ul,uk,uj,ui,aV]
 cases YI c.aE.length c.aK k<;>simp only [bW,b9,ul,uk,uj,ui,aV]
 cases decide (8 < (k.start.length:Int))<;>simp only [bW,b9,ul,uk,uj,ui,aV]
 cases k.start.all (WB c.ay.length i)<;>simp only [bW,b9,ul,uk,uj,ui,aV,ut,uy]
 cases XV c.aK k<;>simp only [bW,b9,uj,ui,ut,uy]
 cases (k.kind == 1)<;>cases (k.kind == 2)<;>simp only [bW,b9,un,uI,Bool.or_true,Bool.or_self,uj,ui]
def yJ (c:ax):Bool:=decide (12 < c.aW)||(decide (2000 < c.aX)||(decide (12 < (c.aE.length:Int))||(decide (20 < (c.bE.length:Int))||(decide (60 < (c.aK.length:Int))||decide (400 < (c.ay.length:Int))))))
noncomputable def nw (c:ax) (i:Nat):Bool:=match c.ay[i]? with
 | some k=>vF c.aE.length c.bE c.aK c.ay.length i k
 | none=>true
noncomputable def zS (c:ax):Int×Int:=
 bif yJ c then (3,-1) else bif jC c then (match (uq c.ay.length).find? (fun j=>!nw c j) with | none=>(0,-1) | some j=>(1,(j:Int))) else (1,-1)
theorem Kw (c:ax) (ho:c.off.length < 4611686018427387904) (hs:∀ k∈c.ay,k.start.length < 4611686018427387904):xm c=some (zS c):=by
 unfold xm zS
 simp only [zs,Bool.cond_true_left,aV]
 show (bif yJ c then _ else _)=_
 cases hlim:yJ c with
 | true=>rfl
 | false=>
  simp only [yJ,uw,decide_eq_false_iff_not] at hlim
  obtain ⟨h1,h2,h3,h4,h5,h6⟩:=hlim
  simp only [b9,zi3 c (by omega) (by omega) (by omega) (by omega) ho,aV]
  cases jC c with
  | false=>rfl
  | true=>
   simp only [bW]
   rw [wC (fun i=>nw c i) (fun i=>(i:Int)) (by omega) (fun i hi=>by
    rw [za0 c i c.ay[i] (ub hi) (hs _ (uo hi))]
    simp only [aV,nw,ub hi,zs])]
   cases (uq c.ay.length).find? (fun j=>!nw c j)<;>rfl
end Go.Proofs.YtlpmnmbebkdocaaGreatDoor
namespace Go.Proofs.YtlpmnmbebkdocaaGreatDoor
open Go.RowKit
set_option linter.unusedSimpArgs false
set_option linter.unusedVariables false
set_option maxRecDepth 100000
theorem lD.lt {α:Type} {n:Nat} {p:α→Prop} {l:List α} (h:lD n p l) (hn:0 < n):l.length < 4611686018427387904:=by
 have h1:=h.1
 have h2:reachBytes≤140737488355328:=by decide +kernel
 have:=Nat.le_mul_of_pos_right l.length hn
 omega
theorem ax.Ok.valid {c:ax} (hc:c.Ok):xm c=some (zS c):=
 Kw c (hc.off.lt (by omega)) (fun k hk=>(hc.ay.2 k hk).start.lt (by omega))
inductive fJ (c:ax):Int×Int→Prop where
 | rD (h:yJ c=true):fJ c (3,-1)
 | frame (h:yJ c=false) (hf:jC c=false):fJ c (1,-1)
 | bad (h:yJ c=false) (hf:jC c=true) (i:Nat) (hi:i < c.ay.length) (hb:nw c i=false) (hl:∀ j,j < i→nw c j=true):fJ c (1,(i:Int))
 | ok (h:yJ c=false) (hf:jC c=true) (ha:∀ j,j < c.ay.length→nw c j=true):fJ c (0,-1)
theorem zi4 (c:ax):fJ c (zS c):=by
 unfold zS
 cases h:yJ c with
 | true=>exact .rD h
 | false=>
  simp only [b9]
  cases hf:jC c with
  | false=>exact .frame h hf
  | true=>
   simp only [bW]
   cases hq:(uq c.ay.length).find? (fun j=>!nw c j) with
   | none=>exact .ok h hf (kA hq)
   | some j=>obtain ⟨h1,h2,h3⟩:=kB hq;exact .bad h hf j h1 h2 h3
theorem vG {c:ax} (h:(zS c).1=0):yJ c=false∧jC c=true∧(∀ j,j < c.ay.length→nw c j=true)∧zS c=(0,-1):=by
 have hv:=zi4 c
 generalize hr:zS c=r at h hv ⊢
 cases hv with
 | rD _=>simp at h
 | frame _ _=>simp at h
 | bad _ _ i _ _ _=>simp at h
 | ok a b d=>exact ⟨a,b,d,rfl⟩
theorem zho {c:ax} (h:yJ c=false) (hf:jC c=true) (ha:∀ j,j < c.ay.length→nw c j=true):zS c=(0,-1):=by
 unfold zS;rw [h,hf,RT ha];rfl
theorem zmX (x y:Int):QS x y=some (decide (x < y)):=by
 simp [QS,JH]
theorem zmY {a b:Int} (h0:0≤a) (h1:a≤b) (h2:b < 4611686018427387904):Xu .u64 .u64 (IntKind.u64.wrap (IntKind.i64.wrap (a+b))) 1=some ((a+b) / 2):=by
 rw [qw (by omega) (by omega),OC (by omega) (by omega)]
 unfold Xu
 rw [if_neg (by omega)]
 have:(2:Int) ^ (min (1:Int).toNat IntKind.u64.bits)=2:=by decide
 rw [this,Int.fdiv_eq_ediv_of_nonneg _ (by omega)]
def jH (l:List Int) (v:Int):Option Int:=if v∈l then some (l.idxOf v:Int) else none
theorem zi5 {l:List Int} (hn:l.Nodup) {i:Nat} (hi:i < l.length):l.idxOf l[i]=i:=by
 have h1:l.idxOf l[i] < l.length:=uA.2 (uo hi)
 have h2:=uE h1
 exact (List.getElem?_inj h1 hn).1 (by rw [ub h1,ub hi,h2])
theorem XW {l:List Int} {v p:Int} (h:jH l v=some p):0≤p∧l[p.toNat]?=some v:=by
 unfold jH at h
 split at h
 ·rename_i hm
  cases h
  have h1:l.idxOf v < l.length:=uA.2 hm
  exact ⟨by omega,by simp only [Int.toNat_natCast];rw [ub h1,uE h1]⟩
 ·cases h
theorem zkR {l:List Int} (hn:l.Nodup) {i:Nat} {v:Int} (h:l[i]?=some v):jH l v=some (i:Int):=by
 obtain ⟨hi,rfl⟩:=ue.1 h
 unfold jH
 rw [if_pos (uo hi),zi5 hn hi]
theorem Q1 (l:List Int) (v:Int) (hs:l.Pairwise (· < ·)) (hl:l.length < 4611686018427387904):∃ r:Int,jg l v=some (r,(jH l v).isSome)∧∀ p,jH l v=some p→r=p:=by
 have hp:=List.pairwise_iff_getElem.1 hs
 unfold jg
 have hit:aq (iter (σ:=Int×Int) (ρ:=Int) (fun s1=>(bif decide (s1.1 < s1.2) then (ua (Xu .u64 .u64 (IntKind.u64.wrap (IntKind.i64.wrap (s1.1+s1.2))) 1) fun e1=>(ua (ze l (IntKind.i64.wrap e1)) fun e2=>(ua (QS e2 v) fun r1=>(bif r1 then some (.inl ((IntKind.i64.wrap ((IntKind.i64.wrap e1)+1)),s1.2)) else some (.inl (s1.1,(IntKind.i64.wrap e1))))))) else some (.inr s1.1))) (0,(l.length:Int)))
   (fun r=>0≤r∧r≤l.length∧(∀ (j:Nat) (hj:j < l.length),(j:Int) < r→l[j] < v)∧(∀ (j:Nat) (hj:j < l.length),r≤(j:Int)→v≤l[j])):=by
  refine aq.iter (fun s=>0≤s.1∧s.1≤s.2∧s.2≤l.length∧(∀ (j:Nat) (hj:j < l.length),(j:Int) < s.1→l[j] < v)∧(∀ (j:Nat) (hj:j < l.length),s.2≤(j:Int)→v≤l[j])) (fun s=>(s.2 - s.1).toNat) ⟨by simp,by simp,by simp,fun j hj h=>by simp only at h;omega,fun j hj h=>by simp only at h;omega⟩ ?_
  rintro ⟨lo,hi⟩ ⟨h1,h2,h3,h4,h5⟩
  simp only at h1 h2 h3 h4 h5 ⊢
  refine aq.ite (fun hb => ?_) (fun hb => ?_)
  ·have hlt:=of_decide_eq_true hb
   rw [zmY h1 h2 (by omega)]
   simp only [aV]
   have hm1:lo≤(lo+hi) / 2:=by omega
   have hm2:(lo+hi) / 2 < hi:=by omega
   generalize (lo+hi) / 2=m at hm1 hm2 ⊢
   rw [qw (by omega) (by omega)]
   obtain ⟨hi',e⟩:=qW (l:=l) (n:=m) (by omega) (by omega)
   rw [e,qw (by omega) (by omega)]
   simp only [aV,zmX]
   refine aq.ite (fun mr => ?_) (fun mr => ?_)
   ·have hv:=of_decide_eq_true mr
    refine aq.some ⟨⟨by show 0≤m+1;omega,by show m+1≤hi;omega,h3,fun j hj s6 => ?_,h5⟩,by show (hi - (m+1)).toNat < (hi - lo).toNat;omega⟩
    have s6:(j:Int) < m+1:=s6
    rcases uB j m.toNat with h | h
    ·have:=hp j m.toNat hj hi' h;omega
    ·obtain rfl:j=m.toNat:=by omega
     exact hv
   ·have hv:¬ l[m.toNat] < v:=of_decide_eq_false mr
    refine aq.some ⟨⟨h1,by show lo≤m;omega,by show m≤(l.length:Int);omega,h4,fun j hj s6 => ?_⟩,by show (m - lo).toNat < (hi - lo).toNat;omega⟩
    have s6:m≤(j:Int):=s6
    rcases uB m.toNat j with h | h
    ·have:=hp m.toNat j hi' hj h;omega
    ·obtain rfl:j=m.toNat:=by omega
     omega
  ·have hlt:¬ lo < hi:=of_decide_eq_false hb
   have:lo=hi:=by omega
   subst this
   exact aq.some ⟨h1,h3,h4,h5⟩
 obtain ⟨r,hr,gC,cz,cy,eP⟩:=hit
 rw [hr]
 simp only [aV]
 by_cases hlt:r < (l.length:Int)
 ·obtain ⟨hi',e⟩:=qW (l:=l) (n:=r) gC hlt
  simp only [hlt,decide_true,bW,e,aV]
  by_cases hv:l[r.toNat]=v
  ·have hpos:jH l v=some (r.toNat:Int):=zkR (RY hs) (by rw [ub hi',hv])
   refine ⟨r,by simp [hv,hpos],fun p hp => ?_⟩
   rw [hpos] at hp;cases hp;omega
  ·have hn:jH l v=none:=by
    unfold jH
    rw [if_neg]
    intro hm
    obtain ⟨j,hj,e2⟩:=ur hm
    rcases Nat.lt_trichotomy j r.toNat with h | h | h
    ·have:=cy j hj (by omega);omega
    ·subst h;exact hv e2
    ·have h6:=hp r.toNat j hi' hj h
     have h7:=eP r.toNat hi' (by omega)
     omega
   refine ⟨r,?_,fun p hp=>by rw [hn] at hp;cases hp⟩
   rw [hn]
   have:(l[r.toNat] == v)=false:=beq_eq_false_iff_ne.2 hv
   simp [this,Zq]
 ·have hn:jH l v=none:=by
   unfold jH
   rw [if_neg]
   intro hm
   obtain ⟨j,hj,e2⟩:=ur hm
   have:=cy j hj (by omega);omega
  refine ⟨r,?_,fun p hp=>by rw [hn] at hp;cases hp⟩
  rw [hn]
  simp [hlt]
theorem zkS {aX:Int} {off:List Int} (hl:off.length < 4611686018427387904) (h:XU aX off=true):(off.length:Int)≤aX∨off.length=0:=by
 have e:XU aX off=wJ aX (-1) off:=by
  unfold XU
  rw [D7 aX off hl (-1)]
  cases wJ aX (-1) off<;>rfl
 rw [e] at h
 rcases ZI h with h1 | h1<;>omega
structure Small (c:ax):Prop where
 aW:1≤c.aW∧c.aW≤12
 aX:1≤c.aX∧c.aX≤2000
 aE:c.aE.length≤12
 bE:c.bE.length≤20
 aK:c.aK.length≤60
 ay:c.ay.length≤400
 off:c.off.length≤2000
 start:∀ k∈c.ay,k.start.length≤8
 cond:∀ (i:Nat) (k:aO),c.ay[i]?=some k→∀ s∈k.start,0≤s.clause∧s.clause < c.ay.length∧s.clause≠(i:Int)
theorem qy {c:ax} (ho:c.off.length < 4611686018427387904) (h:(zS c).1=0):Small c:=by
 obtain ⟨h1,h2,h3,_⟩:=vG h
 simp only [yJ,uw,decide_eq_false_iff_not] at h1
 obtain ⟨a1,a2,a3,a4,a5,a6⟩:=h1
 simp only [jC,ud,ug,decide_eq_false_iff_not] at h2
 obtain ⟨b1,b2,b3,b4,b5,b6,b7⟩:=h2
 have dY:∀ (i:Nat) (k:aO),c.ay[i]?=some k→vF c.aE.length c.bE c.aK c.ay.length i k=true:=fun i k hk=>by
  have:=h3 i (ue.1 hk).1
  simp only [nw,hk] at this
  exact this
 refine ⟨⟨by omega,by omega⟩,⟨by omega,by omega⟩,by omega,by omega,by omega,by omega,?_,fun k hk => ?_,fun i k hk s hs => ?_⟩
 ·rcases zkS ho b7 with h | h<;>omega
 ·obtain ⟨i,hi,e⟩:=ur hk
  have:=dY i k (by rw [←e];exact ub hi)
  simp only [vF,ud,ug,decide_eq_false_iff_not] at this
  omega
 ·have:=dY i k hk
  simp only [vF,ud] at this
  have:=uh.1 this.2.2.1 s hs
  simp only [WB,ud,ug,decide_eq_false_iff_not,beq_eq_false_iff_ne] at this
  exact ⟨by omega,by omega,this.2.2.1⟩
theorem ju {α:Type} {bL:Nat} {l:List α} (h:l.length*bL≤140737488355328):zR bL l=some l:=by unfold zR;rw [if_pos h]
theorem Qq {f:Nat→Unit→Option (Unit ⊕ Unit)} {n:Nat} (p:Nat→Bool) (hn:n < 4611686018427387904) (h:∀ j,j < n→f j ()=some (bif p j then .inl () else .inr ())) :
  aD (n:Int) f ()=some (bif (uq n).all p then .inl () else .inr ()):=by
 rw [wC p (fun _=>()) hn h]
 cases hf:(uq n).find? (fun j=>!p j) with
 | none=>
  have:(uq n).all p=true:=uh.2 fun j hj=>kA hf j (uz.1 hj)
  rw [this];rfl
 | some k=>
  obtain ⟨h1,h2,_⟩:=kB hf
  have:(uq n).all p=false:=by
   rw [uu]
   intro h
   have:=uh.1 h k (uz.2 h1)
   rw [h2] at this;cases this
  rw [this];rfl
theorem wS {α ρ:Type} {f:Nat→List α→Option (List α ⊕ ρ)} (s0:List α) (F:Nat→α→α) (hl:s0.length < 4611686018427387904)
  (h:∀ (i:Nat) (m:α) (s:List α),s0[i]?=some m→s.length=s0.length→s[i]?=some m→f i s=some (.inl (s.set i (F i m)))) :
  aD (s0.length:Int) f s0=some (.inl (s0.mapIdx F)):=by
 obtain ⟨o,h1,h2⟩:=wB (n:=s0.length) (s0:=s0) (f:=f) (fun i s=>s.length=s0.length∧∀ j,s[j]?=if j < i then (s0[j]?).map (F j) else s0[j]?) (fun _=>False) hl ⟨rfl,fun j=>by simp⟩ (fun i s hi ⟨a,b⟩=>by
  have hs:s[i]?=some s0[i]:=by rw [b i,if_neg (by omega),ub hi]
  refine ⟨_,h i s0[i] s (ub hi) a hs,by simpa using a,fun j => ?_⟩
  rw [uv]
  by_cases hij:i=j
  ·subst hij
   rw [if_pos rfl,if_pos (by omega),if_pos (by omega),ub hi];rfl
  ·rw [if_neg hij,b j]
   by_cases h3:j < i
   ·rw [if_pos h3,if_pos (by omega)]
   ·rw [if_neg h3,if_neg (by omega)])
 rw [h1]
 cases o with
 | inr r=>exact h2.elim
 | inl s=>
  obtain ⟨a,b⟩:=h2
  congr 2
  refine List.ext_getElem? fun j => ?_
  rw [b j,uD]
  by_cases hj:j < s0.length
  ·rw [if_pos hj]
  ·rw [if_neg hj,List.getElem?_eq_none (by omega)];rfl
def jI (aI:List aj) (s:bl):Bool:=match ze aI s.clause with
 | some m=>bif s.is == 1 then !(m.aR == 0) else bif s.is == 2 then m.aR == 3 else bif s.is == 3 then m.aR == 4 else bif s.is == 4 then m.aR == 5 else false
 | none=>false
def jv (ks:List aO) (aI:List aj) (i:Nat):Bool:=match ks[i]?,aI[i]? with
 | some k,some m=>(m.aR == 0 && !k.bt)&&k.start.all (jI aI)
 | _,_=>false
def ZQ (aW:Int) (k:aO) (m:aj):Bool:=
 !(k.bt||(decide (m.left < 1)||(m.bQ&&k.bg == -1)))&&(((m.got == 0)||(k.kind == 1 && !(decide (m.got < 0)||decide (k.need≤m.got)))) &&
  (bif k.kind == 4 then m.bz == -1 else decide (0≤m.bz)&&decide (m.bz < aW)))
def Cr (m:aj):Bool:=(m.aR == 0)&&((m.left == 0)&&((m.got == 0)&&((m.bz == (-1))&&((m.bQ == false)&&true))))
def Cs (aW:Int) (m:aj):Bool:=(m.left == 0)&&(decide (0≤m.got)&&(decide (m.got≤9)&&(decide ((-1)≤m.bz)&&(decide (m.bz < aW) && !m.bQ))))
def jw (aW:Int) (k:aO) (m:aj):Bool:=
 bif m.aR == 0 then !k.bt&&Cr m else bif m.aR == 1 then decide (m.left≤k.after)&&ZQ aW k m
 else bif m.aR == 2 then k.kind == 1&&(decide (m.left≤k.br)&&ZQ aW k m) else (m.aR == 3||(m.aR == 4||m.aR == 5))&&Cs aW m
theorem zfn (c:ax) (k:aO) (m:aj):yb c k m=some (ZQ c.aW k m):=by
 simp only [yb,ZQ,zs,aV]
 cases k.bt<;>cases decide (m.left < 1)<;>cases m.bQ<;>cases (k.bg == -1)<;>cases (m.got == 0)<;>cases (k.kind == 1)<;>cases decide (m.got < 0)<;>cases decide (k.need≤m.got)<;>cases (k.kind == 4)<;>cases decide (0≤m.bz)<;>rfl
theorem zdw (c:ax) (i:Nat) (k:aO) (m:aj) (hk:c.ay[i]?=some k):kc c i m=some (jw c.aW k m):=by
 unfold kc
 rw [zy hk]
 simp only [aV,zfn,zs,jw,Cr,Cs]
 cases (m.aR == 0)
 ·cases (m.aR == 1)
  ·cases (m.aR == 2)
   ·cases (m.aR == 3)<;>cases (m.aR == 4)<;>cases (m.aR == 5)<;>cases (m.left == 0)<;>cases decide (0≤m.got)<;>cases decide (m.got≤9)<;>cases decide ((-1)≤m.bz)<;>cases decide (m.bz < c.aW)<;>rfl
   ·cases (k.kind == 1)<;>cases decide (m.left≤k.br)<;>rfl
  ·cases decide (m.left≤k.after)<;>rfl
 ·cases k.bt<;>rfl
theorem Ll (c:ax) (s:aG) (i:Nat) (k:aO) (m:aj) (hk:c.ay[i]?=some k) (hm:s.aI[i]?=some m) (hst:k.start.length < 4611686018427387904)
  (hc:∀ x∈k.start,0≤x.clause∧x.clause < s.aI.length):yE c s i=some (jv c.ay s.aI i):=by
 unfold yE jv
 rw [zy hm,zy hk,hk,hm]
 simp only [aV]
 rw [ZP (l:=k.start) (jI s.aI) hst (fun j hj=>by
  obtain ⟨h0,h1⟩:=hc _ (uo hj)
  obtain ⟨h2,h3⟩:=qW h0 h1
  simp only [zN,ub hj,aV,h3,jI,zs])]
 simp only [aV,zs]
 cases (m.aR == 0)<;>cases k.bt<;>cases k.start.all (jI s.aI)<;>rfl
def WC (aK:List aZ) (used:List Bool) (i:Nat):Bool:=match aK[i]?,used[i]? with
 | some a,some u=>!(u&&a.kind == 1)
 | _,_=>false
def ZR (c:ax) (aI:List aj) (i:Nat):Bool:=match c.ay[i]?,aI[i]? with
 | some k,some m=>jw c.aW k m && !jv c.ay aI i
 | _,_=>false
noncomputable def s7 (c:ax) (s:aG):Bool:=
 ((zS c).1 == 0)&&((!(decide (s.day < 0))&&(!(decide (c.aX < s.day))&&((s.aE.length:Int) == c.aE.length&&((s.used.length:Int) == c.aK.length&&(s.aI.length:Int) == c.ay.length)))) &&
  (kd c.aW s.aE&&((uq s.used.length).all (WC c.aK s.used)&&(uq s.aI.length).all (ZR c s.aI))))
theorem vp (c:ax) (s:aG) (hc:c.Ok):jD c s=some (s7 c s):=by
 unfold jD s7
 rw [hc.valid]
 simp only [aV]
 cases hv:((zS c).1 == 0) with
 | false=>rfl
 | true=>
  have sm:=qy (hc.off.lt (by omega)) (beq_iff_eq.1 hv)
  simp only [bW,zs,aV,uj]
  cases h1:decide (s.day < 0)<;>cases h2:decide (c.aX < s.day)<;>cases h3:((s.aE.length:Int) == c.aE.length)<;>cases h4:((s.used.length:Int) == c.aK.length)<;>cases h5:((s.aI.length:Int) == c.ay.length)<;>try rfl
  simp only [bW,b9,ul,uk,uj]
  have e3:=beq_iff_eq.1 h3
  have e4:=beq_iff_eq.1 h4
  have e5:=beq_iff_eq.1 h5
  have:=sm.aE
  have:=sm.aK
  have:=sm.ay
  rw [ZP (l:=s.aE) (fun h=>decide (0≤h)&&decide (h < c.aW)) (by omega) (fun j hj=>by
   simp only [zN,ub hj,aV,zs]
   generalize s.aE[j]=h
   by_cases a:h < 0
   ·have b:¬ 0≤h:=by omega
    simp [a,b]
   ·have b:0≤h:=by omega
    by_cases d:h < c.aW
    ·have d':¬ c.aW≤h:=by omega
     simp [a,b,d,d']
    ·have d':c.aW≤h:=by omega
     simp [a,b,d,d'])]
  rw [Qq (n:=s.used.length) (WC c.aK s.used) (by omega) (fun j hj=>by
   have hj':j < c.aK.length:=by omega
   simp only [zN,ub hj,ub hj',aV,zs,WC]
   cases s.used[j]<;>cases (c.aK[j].kind == 1)<;>rfl)]
  rw [Qq (n:=s.aI.length) (ZR c s.aI) (by omega) (fun j hj=>by
   have hj':j < c.ay.length:=by omega
   have hk:=ub hj'
   have hm:=ub hj
   simp only [zN,hm,aV]
   rw [zdw c j _ _ hk,Ll c s j _ _ hk hm (by have:=sm.start _ (uo hj');omega) (fun x hx=>by have:=sm.cond j _ hk x hx;omega)]
   simp only [aV,ZR,hk,hm]
   cases jw c.aW c.ay[j] s.aI[j]<;>cases jv c.ay s.aI j<;>rfl)]
  simp only [kd,aV]
  cases s.aE.all (fun h=>decide (0≤h)&&decide (h < c.aW))<;>cases (uq s.used.length).all (WC c.aK s.used)<;>cases (uq s.aI.length).all (ZR c s.aI)<;>rfl
structure VS (c:ax) (s:aG):Prop where
 cv:(zS c).1=0
 day:0≤s.day∧s.day≤c.aX
 lh:s.aE.length=c.aE.length
 lu:s.used.length=c.aK.length
 lm:s.aI.length=c.ay.length
 hold:∀ h∈s.aE,0≤h∧h < c.aW
 used:∀ (i:Nat) (a:aZ),c.aK[i]?=some a→s.used[i]?=some true→a.kind≠1
 tY:∀ (i:Nat) (k:aO) (m:aj),c.ay[i]?=some k→s.aI[i]?=some m→jw c.aW k m=true
 Ct:∀ i,i < c.ay.length→jv c.ay s.aI i=false
theorem zoB {c:ax} {s:aG} (h:s7 c s=true):VS c s:=by
 simp only [s7,ud,ug,decide_eq_false_iff_not,beq_iff_eq,uh,uz,kd,decide_eq_true_eq] at h
 obtain ⟨h1,⟨h2,h3,h4,h5,h6⟩,h7,h8,h9⟩:=h
 refine ⟨h1,⟨by omega,by omega⟩,by omega,by omega,by omega,fun x hx=>h7 x hx,fun i a ha hu hk => ?_,fun i k m hk hm => ?_,fun i hi => ?_⟩
 ·have:=h8 i (by have:=(ue.1 hu).1;exact this)
  simp only [WC,ha,hu,hk] at this
  cases this
 ·have:=h9 i (ue.1 hm).1
  simp only [ZR,hk,hm,ud] at this
  exact this.1
 ·have hi':i < s.aI.length:=by omega
  have:=h9 i hi'
  simp only [ZR,ub hi,ub hi',ud,ug] at this
  exact this.2
theorem ZS {c:ax} {s:aG} (h:VS c s):s7 c s=true:=by
 have hd:=h.day
 have h4:=h.lh
 have h5:=h.lu
 have h6:=h.lm
 simp only [s7,ud,ug,decide_eq_false_iff_not,beq_iff_eq,uh,uz,kd,decide_eq_true_eq]
 refine ⟨h.cv,⟨by omega,by omega,by omega,by omega,by omega⟩,fun x hx=>h.hold x hx,fun i hi => ?_,fun i hi => ?_⟩
 ·have hi':i < c.aK.length:=by omega
  have ha:=ub hi'
  have hu:=ub hi
  simp only [WC,ha,hu]
  cases hq:s.used[i] with
  | false=>rfl
  | true=>
   have:=h.used i _ ha (by rw [hu,hq])
   simp [this]
 ·have hi':i < c.ay.length:=by omega
  have ha:=ub hi'
  have hu:=ub hi
  simp only [ZR,ha,hu,ud,ug]
  exact ⟨h.tY i _ _ ha hu,h.Ct i hi'⟩
structure KV (c:ax) (i:Nat) (k:aO):Prop where
 act:0≤k.act∧k.act < c.aK.length
 after:1≤k.after∧k.after≤400
 kind:k.kind=1∨k.kind=2∨k.kind=3∨k.kind=4
 bK:k.kind=4∨(0≤k.bK∧k.bK < c.aE.length)
 need:1≤k.need∧k.need≤9
 br:0≤k.br∧k.br≤400
 start:k.start.length≤8
 cond:∀ s∈k.start,0≤s.clause∧s.clause < c.ay.length
 bg:(k.bg = -1∧k.resume = -1)∨(yI c.aK k.bg=true∧yI c.aK k.resume=true)
theorem wE {c:ax} (ho:c.off.length < 4611686018427387904) (h:(zS c).1=0) {i:Nat} {k:aO} (hk:c.ay[i]?=some k):KV c i k:=by
 have sm:=qy ho h
 obtain ⟨_,_,h3,_⟩:=vG h
 have:=h3 i (ue.1 hk).1
 simp only [nw,hk,vF,ud,ug,decide_eq_false_iff_not] at this
 obtain ⟨⟨a1,a2,a3,a4⟩,⟨a5,a6⟩,a7,a8,_⟩:=this
 have tZ:(k.kind=1∨k.kind=2∨k.kind=3∨k.kind=4)∧(k.kind=4∨(0≤k.bK∧k.bK < c.aE.length))∧(1≤k.need∧k.need≤9)∧(0≤k.br∧k.br≤400):=by
  unfold YI at a5
  cases h4:(k.kind == 4) with
  | true=>
   rw [h4] at a5
   simp only [bW,ud,beq_iff_eq] at a5
   have:=beq_iff_eq.1 h4
   omega
  | false=>
   rw [h4] at a5
   simp only [b9,ud,wK,decide_eq_true_eq] at a5
   obtain ⟨⟨b1,_⟩,b2⟩:=a5
   cases h1:(k.kind == 1) with
   | true=>
    rw [h1] at b2
    simp only [bW,ud,decide_eq_true_eq] at b2
    have:=beq_iff_eq.1 h1
    omega
   | false=>
    rw [h1] at b2
    cases h2:(k.kind == 2) with
    | true=>
     rw [h2] at b2
     simp only [bW,b9,ud,beq_iff_eq] at b2
     have:=beq_iff_eq.1 h2
     omega
    | false=>
     rw [h2] at b2
     simp only [b9,ud,beq_iff_eq] at b2
     omega
 refine ⟨⟨by omega,by omega⟩,⟨by omega,by omega⟩,tZ.1,tZ.2.1,tZ.2.2.1,tZ.2.2.2,by omega,fun s hs => ?_,?_⟩
 ·have:=sm.cond i k hk s hs;omega
 ·simp only [XV,ux,ud,beq_iff_eq,ug] at a8
  rcases a8 with h | h
  ·exact .inl h
  ·exact .inr h.2
structure Ew (c:ax) (a:aZ):Prop where
 bK:(a.bK = -1∧a.kind=1)∨(0≤a.bK∧a.bK < c.aE.length)
 kind:a.kind=1∨((a.kind=2∨a.kind=3)∧(0≤a.bP∧a.bP < c.aE.length)∧(0≤a.to∧a.to < c.aW))
theorem YJ {c:ax} (h:(zS c).1=0) {i:Nat} {a:aZ} (ha:c.aK[i]?=some a):Ew c a:=by
 obtain ⟨_,h2,_,_⟩:=vG h
 simp only [jC,ud,ug,decide_eq_false_iff_not] at h2
 obtain ⟨_,_,_,_,_,b6,_⟩:=h2
 have:=uh.1 b6 a (List.mem_of_getElem? ha)
 unfold Kv at this
 cases hr:wK c.aE.length a.bK with
 | true=>
  rw [hr] at this
  simp only [wK,ud,decide_eq_true_eq] at hr
  cases h1:(a.kind == 1) with
  | true=>exact ⟨.inr hr,.inl (beq_iff_eq.1 h1)⟩
  | false=>
   rw [h1] at this
   simp only [bW,b9,ud,ux,beq_iff_eq,wK,decide_eq_true_eq] at this
   exact ⟨.inr hr,.inr ⟨this.1,this.2.1,by omega⟩⟩
 | false=>
  rw [hr] at this
  simp only [b9,ud,beq_iff_eq] at this
  exact ⟨.inl ⟨this.2.1,this.1⟩,.inl this.1⟩
theorem Lm {c:ax} (h:(zS c).1=0):∀ x∈c.aE,0≤x∧x < c.aW:=by
 obtain ⟨_,h2,_,_⟩:=vG h
 simp only [jC,ud] at h2
 have:=h2.2.2.2.1
 simp only [kd,uh,ud,decide_eq_true_eq] at this
 exact this
theorem zmZ {c:ax} (ho:c.off.length < 4611686018427387904) (h:(zS c).1=0):c.off.Pairwise (· < ·):=by
 obtain ⟨_,h2,_,_⟩:=vG h
 simp only [jC,ud] at h2
 have b7:=h2.2.2.2.2.2.2
 have e:XU c.aX c.off=wJ c.aX (-1) c.off:=by
  unfold XU
  rw [D7 c.aX c.off ho (-1)]
  cases wJ c.aX (-1) c.off<;>rfl
 rw [e] at b7
 exact (kC b7).2
def iY (c:ax) (ms:List aj):Prop:=ms.length=c.ay.length∧∀ (i:Nat) (k:aO) (m:aj),c.ay[i]?=some k→ms[i]?=some m→jw c.aW k m=true
def NR (c:ax) (ms:List aj):Prop:=∀ i,i < c.ay.length→jv c.ay ms i=false
def wF (k:aO) (b:Int):aj:={aR:=1,left:=k.after,got:=0,bz:=b,bQ:=false}
def Cu (c:ax) (ms ms':List aj):Prop:=∀ (i:Nat) (m m':aj),ms[i]?=some m→ms'[i]?=some m'→m'=m∨(m.aR=0∧∃ k b,c.ay[i]?=some k∧m'=wF k b)
def ke (ms:List aj):Nat:=ms.countP (fun m=>m.aR == 0)
def Qr (hs:List Int) (k:aO):Int:=bif k.kind == 4 then -1 else hs[k.bK.toNat]?.getD 0
def ZT (ks:List aO) (ms:List aj):Nat→Nat→Prop
 | 0,_=>False
 | n+1,i=>∃ k m,ks[i]?=some k∧ms[i]?=some m∧m.aR=0∧k.bt=false∧∀ x∈k.start,jI ms x=true∨(x.is=1∧ZT ks ms n x.clause.toNat)
def pg (ks:List aO) (ms:List aj) (i:Nat):Prop:=∃ n,ZT ks ms n i
def Bp (c:ax) (hs:List Int) (ms r:List aj):Prop:=∀ (i:Nat) (k:aO) (m:aj),c.ay[i]?=some k→ms[i]?=some m→r[i]?=some m∨(pg c.ay ms i∧r[i]?=some (wF k (Qr hs k)))
def Ln (c:ax) (hs:List Int) (ms r:List aj):Prop:=∀ (i:Nat) (k:aO) (m:aj),c.ay[i]?=some k→ms[i]?=some m→(¬ pg c.ay ms i∧r[i]?=some m)∨(pg c.ay ms i∧r[i]?=some (wF k (Qr hs k)))
theorem Lo {ks:List aO} {ms:List aj}:∀ (n i:Nat),ZT ks ms n i→ZT ks ms (n+1) i
 | 0,i,h=>h.elim
 | n+1,i,⟨k,m,h1,h2,h3,h4,h5⟩=>⟨k,m,h1,h2,h3,h4,fun x hx=>(h5 x hx).imp id fun h=>⟨h.1,Lo n _ h.2⟩⟩
theorem Kx {ks:List aO} {ms:List aj} {n i:Nat} (h:ZT ks ms n i):∀ d,ZT ks ms (n+d) i
 | 0=>h
 | d+1=>Lo _ _ (Kx h d)
theorem Lp {ks:List aO} {ms:List aj}:∀ (l:List bl),(∀ x∈l,jI ms x=true∨(x.is=1∧pg ks ms x.clause.toNat))→∃ n,∀ x∈l,jI ms x=true∨(x.is=1∧ZT ks ms n x.clause.toNat)
 | [],_=>⟨0,fun x hx=>by cases hx⟩
 | y::l,h=>by
  obtain ⟨n,hn⟩:=Lp l (fun x hx=>h x (List.mem_cons_of_mem _ hx))
  rcases h y (List.mem_cons_self ..) with h1 | ⟨h1,d,h2⟩
  ·refine ⟨n,fun x hx => ?_⟩
   rcases uH.1 hx with rfl | hx
   ·exact .inl h1
   ·exact hn x hx
  ·refine ⟨n+d,fun x hx => ?_⟩
   rcases uH.1 hx with rfl | hx
   ·exact .inr ⟨h1,by rw [Nat.add_comm];exact Kx h2 n⟩
   ·exact (hn x hx).imp id fun h=>⟨h.1,Kx h.2 d⟩
theorem YK {ms:List aj} {x:bl} {m:aj} (hx:ze ms x.clause=some m) (h1:m.aR=1):jI ms x=(x.is == 1):=by
 simp only [jI,hx,h1]
 cases (x.is == 1)<;>cases (x.is == 2)<;>cases (x.is == 3)<;>cases (x.is == 4)<;>rfl
theorem zhp {ms:List aj} {x:bl} {m:aj} (hx:ze ms x.clause=some m) (h1:m.aR=0):jI ms x=false:=by
 simp only [jI,hx,h1]
 cases (x.is == 1)<;>cases (x.is == 2)<;>cases (x.is == 3)<;>cases (x.is == 4)<;>rfl
structure dM (c:ax) (hs:List Int) (ms r:List aj):Prop where
 ok:iY c r
 nr:NR c r
 rel:Cu c ms r
 same:NR c ms→r=ms
 Lq:Ln c hs ms r
theorem zfo {ks:List aO} {ms:List aj} {i:Nat} {m:aj} (h:pg ks ms i) (hm:ms[i]?=some m):m.aR=0:=by
 obtain ⟨n,h⟩:=h
 cases n with
 | zero=>exact h.elim
 | succ n=>obtain ⟨k,m',_,h2,h3,_⟩:=h;rw [hm] at h2;cases h2;exact h3
theorem zhq {c:ax} {hs:List Int} {ms r:List aj} (hl:ms.length=c.ay.length) (hr:r.length=c.ay.length) (hI:Bp c hs ms r) {i:Nat} {k:aO} (hk:c.ay[i]?=some k) (hcd:∀ x∈k.start,0≤x.clause∧x.clause < c.ay.length) (hy:jv c.ay r i=true):pg c.ay ms i:=by
 have hi:=(ue.1 hk).1
 have hm:=ub (show i < ms.length by omega)
 have hmr:=ub (show i < r.length by omega)
 simp only [jv,hk,hmr,ud,ug,beq_iff_eq,uh] at hy
 obtain ⟨⟨h0,hw⟩,hc⟩:=hy
 rcases hI i k _ hk hm with h | ⟨h,_⟩
 ·rw [hmr] at h
  have e:=Option.some.inj h
  obtain ⟨n,hn⟩:=Lp (ks:=c.ay) (ms:=ms) k.start (fun x hx=>by
   obtain ⟨x0,x1⟩:=hcd x hx
   have hxi:=qW (l:=ms) (n:=x.clause) x0 (by omega)
   obtain ⟨a1,a2⟩:=hxi
   obtain ⟨b1,b2⟩:=qW (l:=r) (n:=x.clause) x0 (by omega)
   have Aa:=ub (show x.clause.toNat < c.ay.length by omega)
   have hx':=hc x hx
   rcases hI x.clause.toNat _ _ Aa (ub a1) with h2 | ⟨h2,h3⟩
   ·left
    rw [ub b1] at h2
    simp only [jI,b2,Option.some.inj h2] at hx'
    simp only [jI,a2];exact hx'
   ·right
    rw [ub b1] at h3
    rw [YK b2 (by rw [Option.some.inj h3];rfl)] at hx'
    exact ⟨beq_iff_eq.1 hx',h2⟩)
  exact ⟨n+1,k,_,hk,hm,by rw [←e];exact h0,hw,hn⟩
 ·exact h
theorem zkT {c:ax} {hs:List Int} {ms r:List aj} (hl:ms.length=c.ay.length) (hr:r.length=c.ay.length) (hI:Bp c hs ms r) (hn:NR c r) (hcd:∀ (i:Nat) (k:aO),c.ay[i]?=some k→∀ x∈k.start,0≤x.clause∧x.clause < c.ay.length):Ln c hs ms r:=by
 have key:∀ (n i:Nat) (k:aO),ZT c.ay ms n i→c.ay[i]?=some k→r[i]?=some (wF k (Qr hs k)):=by
  intro n
  induction n with
  | zero=>intro i k h;exact h.elim
  | succ n ih=>
   intro i k h hk
   have hi:=(ue.1 hk).1
   obtain ⟨k',m,h1,h2,h3,h4,h5⟩:=h
   rw [hk] at h1
   cases h1
   rcases hI i k m hk h2 with h | ⟨_,h⟩
   ·exfalso
    have:=hn i hi
    have hy:jv c.ay r i=true:=by
     simp only [jv,hk,h,h3,h4,beq_self_eq_true,uk,Bool.and_true,uj,uh]
     intro x hx
     obtain ⟨x0,x1⟩:=hcd i k hk x hx
     obtain ⟨a1,a2⟩:=qW (l:=ms) (n:=x.clause) x0 (by omega)
     obtain ⟨b1,b2⟩:=qW (l:=r) (n:=x.clause) x0 (by omega)
     have Aa:=ub (show x.clause.toNat < c.ay.length by omega)
     rcases h5 x hx with h6 | ⟨h6,h7⟩
     ·rcases hI x.clause.toNat _ _ Aa (ub a1) with g | ⟨g,g2⟩
      ·rw [ub b1] at g
       simp only [jI,a2] at h6
       simp only [jI,b2,Option.some.inj g];exact h6
      ·rw [zhp a2 (zfo g (ub a1))] at h6;cases h6
     ·have g:=ih _ _ h7 Aa
      rw [ub b1] at g
      rw [YK b2 (by rw [Option.some.inj g];rfl),h6];rfl
    rw [hy] at this;cases this
   ·exact h
 intro i k m hk hm
 by_cases hs':pg c.ay ms i
 ·obtain ⟨n,h⟩:=hs'
  exact .inr ⟨⟨n,h⟩,key n i k h hk⟩
 ·rcases hI i k m hk hm with h | ⟨h,_⟩
  ·exact .inl ⟨hs',h⟩
  ·exact absurd h hs'
theorem zhr {ms:List aj} {i:Nat} {m m':aj} (h:ms[i]?=some m) (h0:m.aR=0) (h1:m'.aR≠0):ke (ms.set i m') < ke ms:=by
 obtain ⟨hi,rfl⟩:=ue.1 h
 unfold ke
 rw [List.countP_set hi]
 have hp:0 < ms.countP (fun m=>m.aR == 0):=List.countP_pos_iff.2 ⟨_,uo hi,by simp [h0]⟩
 simp only [h0,beq_self_eq_true,if_true,beq_iff_eq,h1,if_false]
 omega
noncomputable def yf (c:ax) (day:Int) (hs:List Int) (us:List Bool) (ms:List aj):Option (List aj):=ve c day hs hs.length us us.length ms ms.length
theorem JK (n:Nat):dH n n=some ⟨rfl⟩:=by unfold dH;rw [dif_pos rfl]
theorem wn {a b:Nat} (h:a=b):dH a b=some ⟨h⟩:=by unfold dH;rw [dif_pos h]
theorem XX (c:ax) (day:Int) (hs:List Int) (us:List Bool) (ms:List aj) (ho:c.off.length < 4611686018427387904) (hv:(zS c).1=0) (hh:hs.length=c.aE.length) (hb:∀ h∈hs,0≤h∧h < c.aW) (hm:iY c ms) :
  aq (yf c day hs us ms) (dM c hs ms):=by
 have sm:=qy ho hv
 have dY:=sm.ay
 unfold yf ve
 refine aq.bind (P:=fun r=>dM c hs ms r) (aq.iter (fun s=>iY c s.2∧Cu c ms s.2∧(NR c ms→s.2=ms)∧Bp c hs ms s.2∧(s.1=false→NR c s.2)) (fun s=>2*ke s.2+(if s.1 then 1 else 0)) ⟨hm,fun i m m' h1 h2=>.inl (by simp only at h2;rw [h1] at h2;exact (Option.some.inj h2).symm),fun _=>rfl,fun i k m h1 h2=>.inl h2,fun h=>by cases h⟩ ?_) (fun r hr=>aq.some hr)
 have rf:=hm.1
 have hcd:∀ (i:Nat) (k:aO),c.ay[i]?=some k→∀ x∈k.start,0≤x.clause∧x.clause < c.ay.length:=fun i k hk=>(wE ho hv hk).cond
 rintro ⟨b,eY⟩ ⟨hok,hrel,hsame,Bq,BR⟩
 cases b with
 | false=>exact aq.some ⟨hok,BR rfl,hrel,hsame,zkT rf hok.1 Bq (BR rfl) hcd⟩
 | true=>
  simp only [bW]
  refine aq.bind (P:=fun o=>∃ s2:Bool×List aj,o=.inl s2∧iY c s2.2∧Cu c ms s2.2∧(NR c eY→s2.2=eY)∧Bp c hs ms s2.2∧(s2.1=false→s2.2=eY∧NR c eY)∧(s2.1=true→ke s2.2 < ke eY))
   (aq.dP (n:=c.ay.length) (fun i s=>iY c s.2∧Cu c ms s.2∧(NR c eY→s.2=eY)∧Bp c hs ms s.2∧(s.1=false→s.2=eY∧∀ j,j < i→jv c.ay eY j=false)∧(s.1=true→ke s.2 < ke eY)) (by omega) ⟨hok,hrel,fun _=>rfl,Bq,fun _=>⟨rfl,fun j hj=>by omega⟩,fun h=>by cases h⟩ ?_ (fun s h=>⟨s,rfl,h⟩)) ?_
  ·rintro i ⟨b0,eG⟩ hi ⟨rL,mT,iK,mU,pS,Ab⟩
   simp only at rL mT iK mU pS Ab
   have hk:=ub hi
   have gI:=rL.1
   have hi2:i < eG.length:=by omega
   have hm2:=ub hi2
   have kv:=wE ho hv hk
   have hmk:=rL.2 i _ _ hk hm2
   rw [zy hk]
   simp only [aV,JK,wn (show ms.length=eG.length by omega)]
   rw [Ll c _ i _ _ hk hm2 (by have:=kv.start;omega) (fun x hx=>by have:=kv.cond x hx;simp only;omega)]
   simp only [aV]
   cases hr:jv c.ay eG i with
   | false=>
    simp only [b9,aV]
    refine aq.some ⟨rL,mT,iK,mU,fun hb=>⟨(pS hb).1,fun j hj => ?_⟩,Ab⟩
    rcases uB j i with h | h
    ·exact (pS hb).2 j h
    ·obtain rfl:j=i:=by omega
     rw [←(pS hb).1];exact hr
   | true=>
    simp only [bW]
    have hr':=hr
    simp only [jv,hk,hm2,ud,ug,beq_iff_eq] at hr'
    obtain ⟨⟨h0,hw⟩,_⟩:=hr'
    have Br:aq (bif (c.ay[i].kind == 4) then some (-1) else (ua (zi hs.length c.ay[i].bK) fun k1=>(ua (hs[k1]?) fun e2=>some e2))) (fun v=>v=Qr hs c.ay[i]∧bif c.ay[i].kind == 4 then v = -1 else 0≤v∧v < c.aW):=by
     refine aq.ite (fun h4=>aq.some (by simp [h4,Qr])) (fun h4 => ?_)
     have h4':c.ay[i].kind≠4:=beq_eq_false_iff_ne.1 h4
     have hro:=kv.bK.resolve_left h4'
     rw [Ir hro.1 (by omega)]
     have hlt:c.ay[i].bK.toNat < hs.length:=by omega
     simp only [aV,ub hlt]
     exact aq.some ⟨by simp [Qr,h4,ub hlt],by rw [h4];exact hb _ (uo hlt)⟩
    refine aq.bind (P:=fun v:Bool×List aj=>∃ b,v=(true,eG.set i (wF c.ay[i] b))∧b=Qr hs c.ay[i]∧(bif c.ay[i].kind == 4 then b = -1 else 0≤b∧b < c.aW)) (aq.bind Br fun v ny => ?_) ?_
    ·rw [zM (show i < ms.length by omega)]
     simp only [aV,hm2]
     exact aq.some ⟨v,rfl,ny⟩
    ·rintro _ ⟨b,rfl,nW,Ac⟩
     have hnew:jw c.aW c.ay[i] (wF c.ay[i] b)=true:=by
      simp only [jw,wF,ZQ,hw]
      have h1:=kv.after
      have:¬ c.ay[i].after < 1:=by omega
      cases h4:(c.ay[i].kind == 4) with
      | true=>rw [h4] at Ac;simp only [bW] at Ac;subst Ac;simp [this]
      | false=>rw [h4] at Ac;simp only [b9] at Ac;simp [this,Ac]
     refine aq.some ⟨⟨by simpa using gI,fun j k m hj s8 => ?_⟩,fun j m m' h1 h2 => ?_,fun hn => ?_,fun j k m hj s8 => ?_,fun h=>by simp at h,fun _ => ?_⟩
     ·rw [uv] at s8
      by_cases hij:i=j
      ·subst hij
       rw [if_pos rfl,if_pos hi2] at s8
       rw [hk] at hj
       cases hj;cases s8;exact hnew
      ·rw [if_neg hij] at s8;exact rL.2 j k m hj s8
     ·simp only at h2
      rw [uv] at h2
      by_cases hij:i=j
      ·subst hij
       rw [if_pos rfl,if_pos hi2] at h2
       cases h2
       refine .inr ⟨?_,_,b,hk,rfl⟩
       rcases mT i m _ h1 hm2 with h | ⟨h,_⟩
       ·rw [←h];exact h0
       ·exact h
      ·rw [if_neg hij] at h2;exact mT j m m' h1 h2
     ·have e:=iK hn
      have:=hn i hi
      rw [←e,hr] at this
      cases this
     ·show (eG.set i (wF c.ay[i] b))[j]?=some m∨pg c.ay ms j∧(eG.set i (wF c.ay[i] b))[j]?=some (wF k (Qr hs k))
      rw [uv]
      by_cases hij:i=j
      ·subst hij
       rw [if_pos rfl,if_pos hi2]
       rw [hk] at hj
       cases hj
       exact .inr ⟨zhq rf gI mU hk (hcd _ _ hk) hr,by rw [nW]⟩
      ·rw [if_neg hij];exact mU j k m hj s8
     ·have h3:=zhr (m':=wF c.ay[i] b) hm2 h0 (by simp [wF])
      show ke (eG.set i (wF c.ay[i] b)) < ke eY
      cases b0 with
      | true=>have:=Ab rfl;omega
      | false=>have e:=(pS rfl).1;subst e;exact h3
  ·rintro _ ⟨⟨b2,eG⟩,rfl,rL,mT,iK,mU,pS,Ab⟩
   simp only at rL mT iK mU pS Ab
   simp only [ut]
   refine aq.some ⟨⟨rL,mT,fun hn => ?_,mU,fun mr => ?_⟩,?_⟩
   ·have e:=hsame hn
    simp only at e
    subst e
    exact iK hn
   ·obtain ⟨e1,e2⟩:=pS mr
    simp only;rw [e1];exact e2
   ·simp only
    cases b2 with
    | true=>have:=Ab rfl;simp;omega
    | false=>have:=(pS rfl).1;subst this;simp
def jc (m:aj):Bool:=m.aR == 1||m.aR == 2
theorem Qs (m:aj):jM m=some (jc m):=by
 simp only [jM,zs,aV,jc];cases (m.aR == 1)<;>rfl
def ZU (st:Int) (m:aj):aj:={m with aR:=st,left:=0,bQ:=false}
def kg (free:Bool) (k:aO) (m:aj):aj:=
 bif jc m then (bif m.bQ||(k.bC&&free) then m else
  bif m.left - 1 == 0 then (bif k.kind == 1 then (bif m.aR == 1&&decide (0 < k.br) then {m with aR:=2,left:=k.br} else ZU 4 m) else bif k.kind == 2 then ZU 3 m else ZU 5 m)
  else {m with left:=m.left - 1}) else m
def fk (c:ax) (F:aO→aj→aj) (i:Nat) (m:aj):aj:=match c.ay[i]? with | some k=>F k m | none=>m
structure Bs (c:ax) (k:aO) (m:aj):Prop where
 bt:k.bt=false
 left:1≤m.left∧m.left≤400
 bQ:m.bQ=true→k.bg ≠ -1
 got:m.got=0∨(k.kind=1∧0≤m.got∧m.got < k.need)
 bz:(k.kind=4∧m.bz = -1)∨(k.kind≠4∧0≤m.bz∧m.bz < c.aW)
theorem jE {p:Int} {k:aO} {m:aj}:ZQ p k m=true↔k.bt=false∧1≤m.left∧(m.bQ=true→k.bg ≠ -1)∧(m.got=0∨(k.kind=1∧0≤m.got∧m.got < k.need))∧((k.kind=4∧m.bz = -1)∨(k.kind≠4∧0≤m.bz∧m.bz < p)):=by
 simp only [ZQ,ud,ug,uw,decide_eq_false_iff_not,ux,beq_iff_eq]
 have e1:(m.bQ&&k.bg == -1)=false↔(m.bQ=true→k.bg ≠ -1):=by cases m.bQ<;>simp
 have e2:(bif k.kind == 4 then m.bz == -1 else decide (0≤m.bz)&&decide (m.bz < p))=true↔((k.kind=4∧m.bz = -1)∨(k.kind≠4∧0≤m.bz∧m.bz < p)):=by
  cases h:(k.kind == 4) with
  | true=>have:=beq_iff_eq.1 h;simp [this]
  | false=>have:=beq_eq_false_iff_ne.1 h;simp [this]
 rw [e1,e2]
 constructor
 ·rintro ⟨⟨a,b,d⟩,e,f⟩;exact ⟨a,by omega,d,by omega,f⟩
 ·rintro ⟨a,b,d,e,f⟩;exact ⟨⟨a,by omega,d⟩,by omega,f⟩
theorem wp {p:Int} {k:aO} {m:aj}:jw p k m=true↔(m.aR=0∧k.bt=false∧Cr m=true)∨(m.aR=1∧m.left≤k.after∧ZQ p k m=true)∨(m.aR=2∧k.kind=1∧m.left≤k.br∧ZQ p k m=true)∨((m.aR=3∨m.aR=4∨m.aR=5)∧Cs p m=true):=by
 unfold jw
 by_cases h0:m.aR=0
 ·simp [h0]
 by_cases h1:m.aR=1
 ·simp [h1]
 by_cases h2:m.aR=2
 ·simp [h2]
 have e0:(m.aR == 0)=false:=beq_eq_false_iff_ne.2 h0
 have e1:(m.aR == 1)=false:=beq_eq_false_iff_ne.2 h1
 have e2:(m.aR == 2)=false:=beq_eq_false_iff_ne.2 h2
 simp [e0,e1,e2,h0,h1,h2]
theorem xU {c:ax} {i:Nat} {k:aO} {m:aj} (kv:KV c i k) (h:jw c.aW k m=true) (hr:jc m=true):Bs c k m∧ZQ c.aW k m=true∧(m.aR=1∧m.left≤k.after∨m.aR=2∧k.kind=1∧m.left≤k.br):=by
 simp only [jc,ux,beq_iff_eq] at hr
 have ha:=kv.after
 have hg:=kv.br
 rcases wp.1 h with ⟨h0,_⟩ | ⟨h0,h1,h2⟩ | ⟨h0,h1,h2,h3⟩ | ⟨h0,_⟩
 ·omega
 ·obtain ⟨a,b,d,e,f⟩:=jE.1 h2
  exact ⟨⟨a,⟨b,by omega⟩,d,e,f⟩,h2,.inl ⟨h0,h1⟩⟩
 ·obtain ⟨a,b,d,e,f⟩:=jE.1 h3
  exact ⟨⟨a,⟨b,by omega⟩,d,e,f⟩,h3,.inr ⟨h0,h1,h2⟩⟩
 ·omega
theorem Q4 {c:ax} {i:Nat} {k:aO} {m:aj} {st:Int} (kv:KV c i k) (rv:Bs c k m) (hp:0 < c.aW) (hst:st=3∨st=4∨st=5):jw c.aW k (ZU st m)=true:=by
 refine wp.2 (.inr (.inr (.inr ⟨hst,?_⟩)))
 have h1:=rv.got
 have h2:=rv.bz
 have h3:=kv.need
 have e1:decide (0≤m.got)=true:=decide_eq_true (by omega)
 have e2:decide (m.got≤9)=true:=decide_eq_true (by omega)
 have e3:decide (-1≤m.bz)=true:=decide_eq_true (by omega)
 have e4:decide (m.bz < c.aW)=true:=decide_eq_true (by omega)
 show ((0:Int) == 0&&(decide (0≤m.got)&&(decide (m.got≤9)&&(decide (-1≤m.bz)&&(decide (m.bz < c.aW) && !false)))))=true
 rw [e1,e2,e3,e4];rfl
theorem Zr {c:ax} {k:aO} {m:aj} (h:(m.aR=1∧m.left≤k.after)∨(m.aR=2∧k.kind=1∧m.left≤k.br)) (hr:ZQ c.aW k m=true):jw c.aW k m=true:=by
 rcases h with ⟨h0,h1⟩ | ⟨h0,h1,h2⟩
 ·exact wp.2 (.inr (.inl ⟨h0,h1,hr⟩))
 ·exact wp.2 (.inr (.inr (.inl ⟨h0,h1,h2,hr⟩)))
theorem iY.mapIdx {c:ax} {ms:List aj} (F:aO→aj→aj) (h:iY c ms) (hF:∀ (i:Nat) (k:aO) (m:aj),c.ay[i]?=some k→jw c.aW k m=true→jw c.aW k (F k m)=true):iY c (ms.mapIdx (fk c F)):=by
 refine ⟨by simpa using h.1,fun i k m hk hm => ?_⟩
 rw [uD] at hm
 obtain ⟨m0,h0,rfl⟩:=Option.map_eq_some_iff.1 hm
 simp only [fk,hk]
 exact hF i k m0 hk (h.2 i k m0 hk h0)
theorem zi6 {c:ax} {i:Nat} {k:aO} {m:aj} (free:Bool) (kv:KV c i k) (hp:0 < c.aW) (h:jw c.aW k m=true):jw c.aW k (kg free k m)=true:=by
 unfold kg
 cases hr:jc m with
 | false=>exact h
 | true=>
  obtain ⟨rv,hb,hs⟩:=xU kv h hr
  simp only [bW]
  cases l8:(m.bQ||(k.bC&&free)) with
  | true=>exact h
  | false=>
   simp only [b9]
   have hl:=rv.left
   obtain ⟨b1,b2,b3,b4,b5⟩:=jE.1 hb
   cases hz:(m.left - 1 == 0) with
   | false=>
    have:=beq_eq_false_iff_ne.1 hz
    refine Zr ?_ (jE.2 ⟨b1,?_,b3,b4,b5⟩)
    ·simp only [b9];omega
    ·simp only [b9];omega
   | true=>
    simp only [bW]
    cases h1:(k.kind == 1) with
    | false=>
     cases h2:(k.kind == 2) with
     | true=>exact Q4 kv rv hp (by omega)
     | false=>exact Q4 kv rv hp (by omega)
    | true=>
     simp only [bW]
     cases h3:(m.aR == 1&&decide (0 < k.br)) with
     | false=>exact Q4 kv rv hp (by omega)
     | true=>
      simp only [ud,beq_iff_eq,decide_eq_true_eq] at h3
      exact Zr (.inr ⟨rfl,beq_iff_eq.1 h1,Int.le_refl _⟩) (jE.2 ⟨b1,by simp only [bW];omega,b3,b4,b5⟩)
theorem xd {α:Type} {s:List α} {i:Nat} {m:α} (h:s[i]?=some m):s.set i m=s:=by
 obtain ⟨hi,rfl⟩:=ue.1 h
 exact List.set_getElem_self hi
theorem vH {α:Type} {s:List α} {i:Nat} {m x:α} (h:s[i]?=some m):(s.set i x)[i]?=some x:=by
 have:=(ue.1 h).1
 simp [this]
theorem WD (i:Nat) (st:Int) (c:ax) (p4:Int) (p5:List Int) (p6:Nat) (p7:List Bool) (p8:Nat) (ms:List aj) (n:Nat) (m:aj) (hi:i < n) (hm:ms[i]?=some m):wD i st c p4 p5 p6 p7 p8 ms n=some (ms.set i (ZU st m)):=by
 unfold wD
 simp only [zM hi,aV,hm,uJ,ZU]
theorem zkU (c:ax) (day:Int) (hs:List Int) (us:List Bool) (ms:List aj) (ho:c.off.length < 4611686018427387904) (hv:(zS c).1=0) (hm:iY c ms) (fD:0≤day∧day≤2000) :
  gS c day hs hs.length us us.length ms ms.length=yf c (day+1) hs us (ms.mapIdx (fk c (kg (jH c.off day).isSome))):=by
 have sm:=qy ho hv
 have dY:=sm.ay
 have hl:=hm.1
 unfold gS
 obtain ⟨r,hr,_⟩:=Q1 c.off day (zmZ ho hv) ho
 rw [hr]
 simp only [aV,xD]
 rw [wS ms (fk c (kg (jH c.off day).isSome)) (by omega) ?_]
 ·simp only [aV,ut]
  rw [qw (by omega) (by omega)]
  unfold yf
  rw [List.length_mapIdx]
  generalize ve _ _ _ _ _ _ _ _=x
  cases x<;>rfl
 ·intro i m s h1 h2 h3
  have hi:i < ms.length:=(ue.1 h1).1
  have hic:i < c.ay.length:=by omega
  have hk:=ub hic
  have kv:=wE ho hv hk
  have hmk:=hm.2 i _ _ hk h1
  simp only [zM hi,aV,h3,Qs,fk,hk]
  generalize c.ay[i]=k at hk kv hmk
  cases oY:jc m with
  | false=>simp only [b9,aV,kg,oY,xd h3]
  | true=>
   obtain ⟨rv,hb,hst⟩:=xU kv hmk oY
   have hleft:=rv.left
   simp only [bW,zy hk,aV,kg,oY,zs]
   have epb:(bif m.bQ then true else bif k.bC then (jH c.off day).isSome else false)=(m.bQ||(k.bC&&(jH c.off day).isSome)):=by cases m.bQ<;>cases k.bC<;>rfl
   rw [epb]
   cases l8:(m.bQ||(k.bC&&(jH c.off day).isSome)) with
   | true=>simp only [bW,aV,ul,b9,xd h3]
   | false=>
    rw [qw (show -9223372036854775808≤m.left - 1 by omega) (by omega)]
    simp only [b9,aV,vH h3]
    cases hz:(m.left - 1 == 0) with
    | false=>simp only [b9,aV,ul]
    | true=>
     have gB:=beq_iff_eq.1 hz
     have AO:(k.kind == 0)=false:=beq_eq_false_iff_ne.2 (by have:=kv.kind;omega)
     simp only [bW,AO,b9,Yo,vg,Qk,zM hi,aV,vH h3,zy hk,zs]
     rw [WD i 4 _ _ _ _ _ _ _ _ _ hi (vH h3),WD i 3 _ _ _ _ _ _ _ _ _ hi (vH h3),WD i 5 _ _ _ _ _ _ _ _ _ hi (vH h3)]
     simp only [aV,uJ,ZU,gB]
     cases h1:(k.kind == 1) with
     | true=>
      simp only [bW]
      have e3:(bif m.aR == 1 then decide (0 < k.br) else false)=(m.aR == 1&&decide (0 < k.br)):=by cases (m.aR == 1)<;>rfl
      rw [e3]
      cases h4:(m.aR == 1&&decide (0 < k.br))<;>simp
     | false=>
      cases h2:(k.kind == 2) with
      | true=>simp
      | false=>
       cases h3:(k.kind == 3) with
       | true=>simp
       | false=>
        have h4:(k.kind == 4)=true:=beq_iff_eq.2 (by have:=kv.kind;have:=beq_eq_false_iff_ne.1 h1;have:=beq_eq_false_iff_ne.1 h2;have:=beq_eq_false_iff_ne.1 h3;omega)
        simp [h4]
end Go.Proofs.YtlpmnmbebkdocaaGreatDoor
