/-
  Functions of the program: what they compute, and plans of their code that the kernel checks (printed by a program of ours).
  What 'contract.Valid' comes to.
  What Valid says.
  What 'slices.BinarySearch' comes to; sizes of valid contracts.
  What 'system.Valid' comes to.
  What is known of a valid contract; what 'start' does.
  What 'system.Step' does.
-/
import Derived.Test.YtlpmnmbebkdocaaGreatDoorTG11
import Derived.Test.YtlpmnmbebkdocaaGreatDoorTG07
open List renaming getElem?_eq_getElem → ub, map → ud, getElem?_eq_some_iff → ue, all_eq_true → uh, getElem_mem → un, range → uo, getElem_of_mem → ur, getElem?_set → uv, mem_range → uz, idxOf_lt_length_iff → uA, replicate → uC, getElem?_mapIdx → uD, getElem_idxOf → uE, take → uF, mem_cons → uH, set_set → uJ
open Option renaming bind → ua
open Bool renaming and_eq_true → uc, not_eq_true' → ug, false_and → ui, true_and → uj, not_false → uk, not_true → ul, cond_false_right → um, eq_false_iff → uu, or_eq_false_iff → uw, or_eq_true → ux, and_false → uG, true_or → uI
open Nat renaming lt_or_ge → uB
open Sum renaming elim → uq, elim_inl → ut, elim_inr → uy
namespace Go.Proofs.YtlpmnmbebkdocaaGreatDoor
open Go.RowKit
set_option linter.unusedSimpArgs false
set_option linter.unusedVariables false
set_option maxRecDepth 100000
noncomputable def kB (c:aq) (zw:List Int):Option (aq×Int):=
 (ua (jN c) fun r1=>(bif (r1.1 == 0) then (ua (aE (σ:=Int) (ρ:=Unit) (zw.length:Int) (fun i1 s1=>(ua (ze zw (i1:Int)) fun e1=>(ua (bif decide (e1≤s1) then some true else some (decide ((c.zw.length:Int)≤e1))) fun v1=>(bif v1 then some (.inr ()) else some (.inl e1))))) (-1)) (uq (fun (s1:Int)=>(ua (zQ 8 c.aF) fun e2=>(ua (zQ 48 c.bB) fun e3=>(ua (zQ 56 c.aC) fun e4=>(ua (zQ 8 c.off) fun e5=>(ua (ef 136 (zw.length:Int)) fun k1=>(ua (aE (σ:=(List aK)) (ρ:=Unit) (zw.length:Int) (fun i2 s2=>(ua (ze zw (i2:Int)) fun e6=>(ua (ze c.zw e6) fun e7=>(ua (zQ 16 e7.start) fun e8=>(ua (aE (σ:=(List cD)) (ρ:=Unit) (e8.length:Int) (fun i3 s3=>(ua (zh e8.length (i3:Int)) fun k2=>(ua (s3[k2]?) fun e9=>(ua (jd zw e9.clause) fun r2=>(bif r2.2 then (ua (zh e8.length (i3:Int)) fun k3=>(ua (s3[k3]?) fun dR=>some (.inl (s3.set k3 ({clause:=r2.1,is:=dR.is}:cD))))) else some (.inr ())))))) e8) (uq (fun (s3:(List cD))=>(ua (zh k1 (i2:Int)) fun k4=>(ua (s2[k4]?) fun lG=>some (.inl (s2.set k4 ({e7 with start:=uF e8.length s3}:aK)))))) (fun (y2:Unit)=>some (.inr ())))))))) (uC k1 ({kind:=0,bK:=0,act:=0,need:=0,start:=[],after:=0,bq:=0,bu:=false,final:=false,aL:=0,cX:=0,value:=({num:=0,den:=0}:aQ),unit:=0,to:=0,br:=false}:aK))) (uq (fun (s2:(List aK))=>(ua (dD k1 s2.length) fun g1=>some (({aT:=c.aT,aF:=e2,bB:=e3,aC:=e4,zw:=s2,bh:=c.bh,off:=e5}:aq),0))) (fun (y3:Unit)=>some (({aT:=0,aF:=[],bB:=[],aC:=[],zw:=[],bh:=0,off:=[]}:aq),1)))))))))) (fun (y1:Unit)=>some (({aT:=0,aF:=[],bB:=[],aC:=[],zw:=[],bh:=0,off:=[]}:aq),1)))) else some (({aT:=0,aF:=[],bB:=[],aC:=[],zw:=[],bh:=0,off:=[]}:aq),1)))
noncomputable def zms (c:aq) (zw:List Int):az (aq×Int):=
 .aA 1 (.call 3700 (Zg c) fun r1=>.use 1 3700 (.ite 3678 (r1.1 == 0) (.sel 3679 (.aA 1 (.ln 3740 zc zw (.use 1 3740 (.aE (σ:=Int) (ρ:=Unit) 3680 28 (zw.length:Int) (-1) (.e [1,2,4,26,27] (fun s1=>[(8,vI s1)]) [0,1] 16) (fun i1 s1=>.sel 3680 (.aA 0 (.ix 3702 zc zw (i1:Int) fun e1=>.use 0 3702 (.cut (β:=Bool) 2 (.e [1,2,4,26,27,28,10] (fun v1=>[(41,vB v1)]) [0,1] 30) (.aA 0 (.ite 3682 (decide (e1≤s1)) (.use 4 3682 (.ret true)) (.use 4 3682 (.ln 3704 aK.row c.zw (.use 7 3704 (.ret (decide ((c.zw.length:Int)≤e1)))))))) fun v1=>.ite 3684 v1 (.sel 3684 (.ret (.inr ()))) (.sel 3684 (.ret (.inl e1))))))) fun os1=>.case os1 (fun s1=>.sel 3680 (.aA 1 (.b1 3706 (zQ 8 c.aF) (fun e2=>.c [] 0 (.Zaj 29 0 e2.length) [(29,.af 1 (zb zc e2))] 8) (fun e2 ew=>(zf (kn zc (fun _=>rfl) ew) [] 22 (.keep .nil) bw (bG bw))) fun e2=>.use 2 3706 (.aA 0 (.b1 3708 (zQ 48 c.bB) (fun e3=>.c [] 0 (.Zaj 42 0 e3.length) [(42,.af 5 (zb bQ.row e3))] 8) (fun e3 fN=>(zf (zg3 bQ.row (fun _=>rfl) fN) [] 35 (.keep .nil) bw (bG bw))) fun e3=>.use 2 3708 (.aA 0 (.b1 3710 (zQ 56 c.aC) (fun e4=>.c [] 0 (.Zaj 55 0 e4.length) [(55,.af 7 (zb aV.row e4))] 8) (fun e4 iE=>(zf (zg4 aV.row (fun _=>rfl) iE) [] 48 (.keep .nil) bw (bG bw))) fun e4=>.use 2 3710 (.aA 0 (.b1 3712 (zQ 8 c.off) (fun e5=>.c [] 0 (.Zaj 68 0 e5.length) [(68,.af 1 (zb zc e5))] 8) (fun e5 oB=>(zf (kn zc (fun _=>rfl) oB) [] 61 (.keep .nil) bw (bG bw))) fun e5=>.use 2 3712 (.aA 0 (.b1 3714 (ef 136 (zw.length:Int)) (fun k1=>.m k1 (uC k1 [vI 0,vI 0,vI 0,vI 0,.nil,vI 0,vI 0,vB false,vB false,vI 0,vI 0,vI 0,vI 0,vI 0,vI 0,vB false])) (fun k1 hk1=>(KY [vI 0,vI 0,vI 0,vI 0,.nil,vI 0,vI 0,vB false,vB false,vI 0,vI 0,vI 0,vI 0,vI 0,vI 0,vB false] hk1)) fun k1=>.ln 3738 zc zw (.us [(1,3738),(2,3714)] (.cC 0 [Pv 74 16 k1 [vI 0,vI 0,vI 0,vI 0,.nil,vI 0,vI 0,vB false,vB false,vI 0,vI 0,vI 0,vI 0,vI 0,vI 0,vB false] aK.row ({kind:=0,bK:=0,act:=0,need:=0,start:=[],after:=0,bq:=0,bu:=false,final:=false,aL:=0,cX:=0,value:=({num:=0,den:=0}:aQ),unit:=0,to:=0,br:=false}:aK) (.cons (.refl _) (.cons (.refl _) (.cons (.refl _) (.cons (.refl _) (.cons .nil (.cons (.refl _) (.cons (.refl _) (.cons (.refl _) (.cons (.refl _) (.cons (.refl _) (.cons (.refl _) (.cons (.refl _) (.cons (.refl _) (.cons (.refl _) (.cons (.refl _) (.cons (.refl _) .nil))))))))))))))))] (.aA 0 (.ln 3736 zc zw (.use 1 3736 (.aE (σ:=(List aK)) (ρ:=Unit) 3686 68 (zw.length:Int) (uC k1 ({kind:=0,bK:=0,act:=0,need:=0,start:=[],after:=0,bq:=0,bu:=false,final:=false,aL:=0,cX:=0,value:=({num:=0,den:=0}:aQ),unit:=0,to:=0,br:=false}:aK)) (.k [1,2,4,11,66,67] (fun _=>[]) [0,1,18] (fun s2=>[(29,.af 1 (zb zc e2)),(42,.af 5 (zb bQ.row e3)),(55,.af 7 (zb aV.row e4)),(68,.af 1 (zb zc e5)),(74,.af 16 (zb aK.row s2))]) 80 fun _=>(.af rfl (.af rfl (.af rfl (.af rfl (.af rfl .nil)))))) (fun i2 s2=>.sel 3686 (.aA 0 (.ix 3716 zc zw (i2:Int) fun e6=>.use 1 3716 (.aA 0 (.ix 3718 aK.row c.zw e6 fun e7=>.use 3 3718 (.aA 0 (.b1 3720 (zQ 16 e7.start) (fun e8=>.c [] 0 (.Zaj 102 0 e8.length) [(102,.af 2 (zb cD.row e8))] 8) (fun e8 pR=>(zf (zg5 cD.row (fun _=>rfl) pR) [] 95 (.keep .nil) bw (bG bw))) fun e8=>.use 2 3720 (.aE (σ:=(List cD)) (ρ:=Unit) 3694 85 (e8.length:Int) e8 (.k [1,2,4,11,66,67,68,12,14,84] (fun _=>[]) [0,1,18,91] (fun s3=>[(29,.af 1 (zb zc e2)),(42,.af 5 (zb bQ.row e3)),(55,.af 7 (zb aV.row e4)),(68,.af 1 (zb zc e5)),(74,.af 16 (zb aK.row s2)),(102,.af 2 (zb cD.row s3))]) 110 fun _=>(.af rfl (.af rfl (.af rfl (.af rfl (.af rfl (.af rfl .nil))))))) (fun i3 s3=>.sel 3694 (.aA 1 (.b1 3722 (zh e8.length (i3:Int)) (fun k2=>.k k2) (fun k2 hk2=>(zn hk2)) fun k2=>.b1 3724 (s3[k2]?) (fun e9=>.ar (zu (cD.row e9))) (fun e9 s7=>(zR cD.row s7)) fun e9=>.call 3726 (QK zw e9.clause) fun r2=>.us [(4,3722),(6,3724),(7,3726)] (.ite 3698 r2.2 (.sel 3699 (.aA 0 (.b1 3728 (zh e8.length (i3:Int)) (fun k3=>.k k3) (fun k3 gU=>(zn gU)) fun k3=>.b1 3730 (s3[k3]?) (fun dR=>.aw (zu (cD.row dR)) (zb cD.row (s3.set k3 ({clause:=r2.1,is:=dR.is}:cD)))) (fun dR mV=>(zN cD.row ({clause:=r2.1,is:=dR.is}:cD) mV)) fun dR=>.us [(4,3728),(6,3730)] (.ret (.inl (s3.set k3 ({clause:=r2.1,is:=dR.is}:cD))))))) (.sel 3699 (.ret (.inr ()))))))) fun os3=>.case os3 (fun s3=>.sel 3694 (.cC 0 [Pu 102 2 [91] cD.row s3 e8.length] (.aA 0 (.b1 3732 (zh k1 (i2:Int)) (fun k4=>.k k4) (fun k4 iC=>(zn iC)) fun k4=>.b1 3734 (s2[k4]?) (fun lG=>.aw (zu (aK.row lG)) (zb aK.row (s2.set k4 ({e7 with start:=uF e8.length s3}:aK)))) (fun lG s8=>(zN aK.row ({e7 with start:=uF e8.length s3}:aK) s8)) fun lG=>.us [(4,3732),(5,3734)] (.ret (.inl (s2.set k4 ({e7 with start:=uF e8.length s3}:aK)))))))) fun y2=>.ret (.inr ()))))))))) fun os2=>.case os2 (fun s2=>.sel 3686 (.bind (dD k1 s2.length) (fun _=>[]) (fun _ _=>.nil) fun g2=>.fin [29,42,55,74,68] (.tuple [.agg [vI c.aT,.Zaj 29 0 e2.length,.Zaj 42 0 e3.length,.Zaj 55 0 e4.length,.Zaj 74 0 k1,vI c.bh,.Zaj 68 0 e5.length],vI 0]) [(29,.af 1 (zb zc e2)),(42,.af 5 (zb bQ.row e3)),(55,.af 7 (zb aV.row e4)),(74,.af 16 (zb aK.row s2)),(68,.af 1 (zb zc e5))] (.tuple [.agg (aq.row ((({aT:=c.aT,aF:=e2,bB:=e3,aC:=e4,zw:=s2,bh:=c.bh,off:=e5}:aq),0).1)),.int .i64 ((({aT:=c.aT,aF:=e2,bB:=e3,aC:=e4,zw:=s2,bh:=c.bh,off:=e5}:aq),0).2)]) (jy _ _ _ (zy (Dt (zy (yM (zy (qw _) (zy (vS zc 29 1 e2 rfl) (zy (vS bQ.row 42 5 e3 rfl) (zy (vS aV.row 55 7 e4 rfl) (zy (xd aK.row 74 16 k1 s2 g2.down rfl) (zy (qw _) (zy (vS zc 68 1 e5 rfl) qO)))))))) (zy (qw _) qO))) qO)) (({aT:=c.aT,aF:=e2,bB:=e3,aC:=e4,zw:=s2,bh:=c.bh,off:=e5}:aq),0))) fun y3=>.ret (({aT:=0,aF:=[],bB:=[],aC:=[],zw:=[],bh:=0,off:=[]}:aq),1)))))))))))))))))) fun y1=>.ret (({aT:=0,aF:=[],bB:=[],aC:=[],zw:=[],bh:=0,off:=[]}:aq),1)))))) (.sel 3679 (.ret (({aT:=0,aF:=[],bB:=[],aC:=[],zw:=[],bh:=0,off:=[]}:aq),1)))))
theorem IM (c:aq) (zw:List Int) (res:aq×Int) (hd:kB c zw=some res):aJ C0 15 [.agg (aq.row c),.slice (ud zc zw)] (.tuple [.agg (aq.row res.1),.int .i64 res.2]):=
 az.pure (iv:=fun res=>.tuple [.agg (aq.row res.1),.int .i64 res.2]) (zms c zw) (by kernel_rfl) (az.aB hd (by kernel_rfl))
noncomputable def xm (zw:List Int) (s:aH):Option aH:=
 (ua (zQ 8 s.aF) fun e1=>(ua (zQ 1 s.used) fun e2=>(ua (aE (σ:=(List ak)) (ρ:=Unit) (zw.length:Int) (fun i1 s1=>(ua (ze zw (i1:Int)) fun e3=>(ua (ze s.aO e3) fun e4=>(ua (zO (α:=ak) 40 s1 [e4]) fun e5=>some (.inl e5))))) []) (uq (fun (s1:(List ak))=>some ({day:=s.day,aF:=e1,used:=e2,aO:=s1}:aH)) (fun _=>none)))))
noncomputable def zcr (zw:List Int) (s:aH):az aH:=
 .aA 1 (.b1 3746 (zQ 8 s.aF) (fun e1=>.c [] 0 (.Zaj 20 0 e1.length) [(20,.af 1 (zb zc e1))] 8) (fun e1 eG=>(zf (kn zc (fun _=>rfl) eG) [] 13 (.keep .nil) bw (bG bw))) fun e1=>.b1 3748 (zQ 1 s.used) (fun e2=>.c [] 0 (.Zaj 28 0 e2.length) [(28,.af 1 (zb zi e2))] 8) (fun e2 ew=>(zf (Yo zi (fun _=>rfl) ew) [] 21 (.keep .nil) bw (bG bw))) fun e2=>.us [(4,3746),(7,3748)] (.aA 0 (.ln 3756 zc zw (.use 1 3756 (.cC 1 [Z2 11 5 0 3] (.aE (σ:=(List ak)) (ρ:=Unit) 3744 19 (zw.length:Int) [] (.k [3,4,5,17,18] (fun _=>[]) [0,1] (fun s1=>[(20,.af 1 (zb zc e1)),(28,.af 1 (zb zi e2)),(11,.af 4 [[vI s.day,.Zaj 20 0 e1.length,.Zaj 28 0 e2.length,.aS 32 (ud ak.row s1)]]),(32,.aU 5 s1.length)]) 33 fun _=>(.af rfl (.af rfl (.exp rfl rfl (.exp rfl rfl .nil))))) (fun i1 s1=>.sel 3744 (.aA 0 (.ix 3750 zc zw (i1:Int) fun e3=>.use 0 3750 (.aA 0 (.ix 3752 ak.row s.aO e3 fun e4=>.b1 3754 (zO (α:=ak) 40 s1 [e4]) (fun e5=>.a (ud ak.row e5) e5.length) (fun e5 oB=>(qt ak.row 5 40 (fun _=>rfl) oB)) fun e5=>.us [(5,3752),(8,3754)] (.ret (.inl e5))))))) fun os1=>.case os1 (fun s1=>.sel 3744 (.fin [20,28,32] (.agg [vI s.day,.Zaj 20 0 e1.length,.Zaj 28 0 e2.length,.aS 32 (ud ak.row s1)]) [(20,.af 1 (zb zc e1)),(28,.af 1 (zb zi e2)),(32,.aU 5 s1.length)] (.agg (aH.row ({day:=s.day,aF:=e1,used:=e2,aO:=s1}:aH))) (jy _ _ _ (zy (yM (zy (qw _) (zy (vS zc 20 1 e1 rfl) (zy (vS zi 28 1 e2 rfl) (zy (GP _ _) qO))))) qO)) ({day:=s.day,aF:=e1,used:=e2,aO:=s1}:aH))) fun _=>.none))))))
theorem Xy (zw:List Int) (s:aH) (res:aH) (hd:xm zw s=some res):aJ C0 176 [.slice (ud zc zw),.agg (aH.row s)] (.agg (aH.row res)):=
 az.pure (iv:=fun res=>.agg (aH.row res)) (zcr zw s) (by kernel_rfl) (az.aB hd (by kernel_rfl))
noncomputable def Xz (p1:List Int) (p2:aq) (p3:aH) (p4:Bool) (p5:Int) (p6:List (List Int)):Option (Int×(List (List Int))):=
 (ua (jT p2 p5 ({state:=p3,own:=p4}:aG)) fun r1=>(ua (ua (bif (r1.2 == 0) then (ua (ky p2 r1.1) fun r2=>(ua (ze r2 0) fun e1=>some (!e1))) else some false) fun v1=>(bif v1 then (ua (zO (α:=List Int) 24 p6 [p1]) fun e2=>some e2) else some p6)) fun (v2:(List (List Int)))=>some (r1.2,v2)))
noncomputable def zmt (p1:List Int) (p2:aq) (p3:aH) (p4:Bool) (p5:Int) (p6:List (List Int)):az (Int×(List (List Int))):=
 .aA 1 (.call 3780 (Yq p2 p5 ({state:=p3,own:=p4}:aG)) fun r1=>.use 3 3780 (.cut (β:=(List (List Int))) 1 (.k [10] (fun _=>[]) [0] (fun v2=>[(1,.af 1 [[.aS 2 (ud (zI zc) v2)]]),(2,.aU 1 v2.length)]) 26 fun _=>(.exp rfl rfl (.exp rfl rfl .nil))) (.cut (β:=Bool) 1 (.e [0,4,10] (fun v1=>[(27,vB v1)]) [0,1,2,3,4,13] 26) (.aA 0 (.ite 3776 (r1.2 == 0) (.call 3782 (Ei p2 r1.1) fun r2=>.ix 3784 zi r2 0 fun e1=>.us [(3,3776),(5,3782),(6,3784)] (.ret (!e1))) (.use 3 3776 (.ret false)))) fun v1=>.ite 3778 v1 (.sel 3778 (.aA 0 (.b1 3786 (zO (α:=List Int) 24 p6 [p1]) (fun e2=>.a (ud (zI zc) e2) e2.length) (fun e2 ew=>(qt (zI zc) 1 24 (fun _=>rfl) ew)) fun e2=>.use 3 3786 (.ret e2)))) (.sel 3778 (.ret p6))) fun v2=>.ret (r1.2,v2)))
theorem zmu (p1:List Int) (p2:aq) (p3:aH) (p4:Bool) (p5:Int) (p6:List (List Int)) (res:Int×(List (List Int))) (hd:Xz p1 p2 p3 p4 p5 p6=some res):dm C0 179 [.ap (.slice (ud zc p1)),.agg (zu (aq.row p2)),.agg [vI p3.day,.ap (.slice (ud zc p3.aF)),.ap (.slice (ud zi p3.used)),.ap (.slice (ud ak.row p3.aO)),vB p4],.ptr 0 0 0,.ptr 1 0 0] [(0,.af 1 [[vI p5]]),(1,.af 1 [[.aS 2 (ud (zI zc) p6)]]),(2,.aU 1 p6.length)] 3 (vI res.1) [(0,.af 1 [[vI p5]]),(1,.af 1 [[.aS 2 (ud (zI zc) res.2)]]),(2,.aU 1 res.2.length)] 0:=
 az.dA (R:=fun res=>vI res.1) (H:=fun res=>[(0,.af 1 [[vI p5]]),(1,.af 1 [[.aS 2 (ud (zI zc) res.2)]]),(2,.aU 1 res.2.length)]) (zmt p1 p2 p3 p4 p5 p6) (.exp rfl rfl (.exp rfl rfl (.exp rfl rfl .nil))) (fun _=>(.exp rfl rfl (.exp rfl rfl (.exp rfl rfl .nil)))) (by kernel_rfl) (fun _=>by kernel_rfl) (by kernel_rfl) (az.aB hd (by kernel_rfl))
noncomputable def XA (p1:aq) (p2:Int) (p3:aG) (p4:Int) (p5:List (List Int)):Option (Int×(List (List Int))):=
 (ua (bif decide (p2 < 0) then some true else (bif decide (p1.aT≤p2) then some true else (ua (j9 p1 p3.state) fun r1=>some (!r1)))) fun v1=>(bif v1 then some (1,p5) else (ua (ua (zV p1) fun r2=>(ua (aE (σ:=Int×(List (List Int))) (ρ:=Int×(List (List Int))) (r2.length:Int) (fun i1 s1=>(ua (ze r2 (i1:Int)) fun e1=>(ua (kB p1 e1) fun r3=>(ua (bif (r3.2 == 0) then (ua (xm e1 p3.state) fun r4=>(ua (Xz e1 r3.1 r4 p3.own p4 s1.2) fun r5=>some (r5.1,r5.2))) else some (r3.2,s1.2)) fun (v2:Int×(List (List Int)))=>(bif (v2.1 == 0) then some (.inl (v2.1,v2.2)) else some (.inr (v2.1,v2.2))))))) (0,p5)) (uq (fun (s1:Int×(List (List Int)))=>some (s1.1,s1.2)) (fun (y1:Int×(List (List Int)))=>some (y1.1,y1.2))))) fun (v3:Int×(List (List Int)))=>some (v3.1,v3.2))))
noncomputable def zmv (p1:aq) (p2:Int) (p3:aG) (p4:Int) (p5:List (List Int)):az (Int×(List (List Int))):=
 .cut (β:=Bool) 4 (.e [3,4,6] (fun v1=>[(28,vB v1)]) [0,1,2,3,4] 21) (.aA 0 (.ite 3794 (decide (p2 < 0)) (.use 3 3794 (.f1 3810 (.g true) (rfl:true=true) (.use 9 3810 (.ret true)))) (.ite 3796 (decide (p1.aT≤p2)) (.us [(3,3794),(9,3796)] (.ret true)) (.call 3812 (ZF p1 p3.state) fun r1=>.us [(3,3794),(9,3796),(12,3812)] (.ret (!r1)))))) fun v1=>.ite 3798 v1 (.sel 3798 (.ret (1,p5))) (.sel 3798 (.cut (β:=Int×(List (List Int))) 3 (.k [] (fun v3=>[(9,vI v3.1)]) [0] (fun v3=>[(1,.af 1 [[.aS 2 (ud (zI zc) v3.2)]]),(2,.aU 1 v3.2.length)]) 26 fun _=>(.exp rfl rfl (.exp rfl rfl .nil))) (.aA 0 (.call 3814 (xl p1) fun r2=>.use 1 3814 (.ln 3824 (zI zc) r2 (.use 2 3824 (.aE (σ:=Int×(List (List Int))) (ρ:=Int×(List (List Int))) 3800 32 (r2.length:Int) (0,p5) (.k [3,4,6,30,31] (fun s1=>[(9,vI s1.1)]) [0,3,4] (fun s1=>[(1,.af 1 [[.aS 2 (ud (zI zc) s1.2)]]),(2,.aU 1 s1.2.length)]) 26 fun _=>(.exp rfl rfl (.exp rfl rfl .nil))) (fun i1 s1=>.sel 3800 (.aA 0 (.ix 3816 (zI zc) r2 (i1:Int) fun e1=>.use 0 3816 (.aA 0 (.call 3818 (IM p1 e1) fun r3=>.use 2 3818 (.cut (β:=Int×(List (List Int))) 2 (.k [3,4,6,30,31,32] (fun v2=>[(9,vI v2.1)]) [0,3,4] (fun v2=>[(1,.af 1 [[.aS 2 (ud (zI zc) v2.2)]]),(2,.aU 1 v2.2.length)]) 43 fun _=>(.exp rfl rfl (.exp rfl rfl .nil))) (.ite 3806 (r3.2 == 0) (.sel 3806 (.aA 0 (.call 3820 (Xy e1 p3.state) fun r4=>.b1 3822 (Xz e1 r3.1 r4 p3.own p4 s1.2) (fun r5=>.c [0,1,2] 3 (vI r5.1) [(1,.af 1 [[.aS 2 (ud (zI zc) r5.2)]]),(2,.aU 1 r5.2.length)] 0) (fun r5 s6=>(zf (zmu e1 r3.1 r4 p3.own p4 s1.2 r5 s6) [0,1,2] 55 (.drop rfl rfl (.keep (.keep .nil))) (bM (bM (bM bw))) (bM (bM bw)))) fun r5=>.us [(6,3820),(10,3822)] (.ret (r5.1,r5.2))))) (.sel 3806 (.ret (r3.2,s1.2)))) fun v2=>.ite 3808 (v2.1 == 0) (.sel 3809 (.ret (.inl (v2.1,v2.2)))) (.sel 3809 (.ret (.inr (v2.1,v2.2)))))))))) fun os1=>.case os1 (fun s1=>.sel 3800 (.ret (s1.1,s1.2))) fun y1=>.ret (y1.1,y1.2)))))) fun v3=>.ret (v3.1,v3.2)))
theorem zmw (p1:aq) (p2:Int) (p3:aG) (p4:Int) (p5:List (List Int)) (res:Int×(List (List Int))) (hd:XA p1 p2 p3 p4 p5=some res):dm C0 177 [.agg (zu (aq.row p1)),vI p2,.agg (zu (aG.row p3)),.func 179 [] [.ptr 0 0 0,.ptr 1 0 0]] [(0,.af 1 [[vI p4]]),(1,.af 1 [[.aS 2 (ud (zI zc) p5)]]),(2,.aU 1 p5.length)] 3 (vI res.1) [(0,.af 1 [[vI p4]]),(1,.af 1 [[.aS 2 (ud (zI zc) res.2)]]),(2,.aU 1 res.2.length)] 0:=
 az.dA (R:=fun res=>vI res.1) (H:=fun res=>[(0,.af 1 [[vI p4]]),(1,.af 1 [[.aS 2 (ud (zI zc) res.2)]]),(2,.aU 1 res.2.length)]) (zmv p1 p2 p3 p4 p5) (.exp rfl rfl (.exp rfl rfl (.exp rfl rfl .nil))) (fun _=>(.exp rfl rfl (.exp rfl rfl (.exp rfl rfl .nil)))) (by kernel_rfl) (fun _=>by kernel_rfl) (by kernel_rfl) (az.aB hd (by kernel_rfl))
noncomputable def XB (c:aq) (aj:Int) (p:aG):Option ((List (List Int))×Int):=
 (ua (XA c aj p aj []) fun r1=>(bif (r1.1 == 0) then some (r1.2,0) else some ([],r1.1)))
noncomputable def zmx (c:aq) (aj:Int) (p:aG):az ((List (List Int))×Int):=
 .cC 3 [Z2 5 1 0 0] (.aA 0 (.b1 3828 (XA c aj p aj []) (fun r1=>.c [1,5,6] 3 (vI r1.1) [(5,.af 1 [[.aS 6 (ud (zI zc) r1.2)]]),(6,.aU 1 r1.2.length)] 0) (fun r1 ct=>(zf (zmw c aj p aj [] r1 ct) [1,5,6] 11 (.drop rfl rfl (.keep (.keep .nil))) (bM (bM (bM bw))) (bM (bM bw)))) fun r1=>.use 4 3828 (.ite 3826 (r1.1 == 0) (.sel 3827 (.ret (r1.2,0))) (.sel 3827 (.ret ([],r1.1))))))
theorem zmy (c:aq) (aj:Int) (p:aG) (res:(List (List Int))×Int) (hd:XB c aj p=some res):aJ C0 178 [.agg (aq.row c),.int .i64 aj,.agg (aG.row p)] (.tuple [.slice (ud (zI zc) res.1),.int .i64 res.2]):=
 az.pure (iv:=fun res=>.tuple [.slice (ud (zI zc) res.1),.int .i64 res.2]) (zmx c aj p) (by kernel_rfl) (az.aB hd (by kernel_rfl))
noncomputable def kW  : Option Bool:=
 (ua (Xx 0 2) fun r1=>(ua (Xx 2 2) fun r2=>(ua (Ej 3 [r1,r2]) fun r3=>(ua (jO ({aT:=2,aF:=[0,1],bB:=[],aC:=[({kind:=1,bK:=0,bN:=0,to:=(-1),unit:=(-1),dc:=({num:=0,den:=1}:aQ)}:aV),({kind:=1,bK:=0,bN:=0,to:=(-1),unit:=(-1),dc:=({num:=0,den:=1}:aQ)}:aV),({kind:=1,bK:=1,bN:=0,to:=(-1),unit:=(-1),dc:=({num:=0,den:=1}:aQ)}:aV)],zw:=[r1,r2],bh:=3,off:=[]}:aq)) fun r4=>(ua (XB ({aT:=2,aF:=[0,1],bB:=[],aC:=[({kind:=1,bK:=0,bN:=0,to:=(-1),unit:=(-1),dc:=({num:=0,den:=1}:aQ)}:aV),({kind:=1,bK:=0,bN:=0,to:=(-1),unit:=(-1),dc:=({num:=0,den:=1}:aQ)}:aV),({kind:=1,bK:=1,bN:=0,to:=(-1),unit:=(-1),dc:=({num:=0,den:=1}:aQ)}:aV)],zw:=[r1,r2],bh:=3,off:=[]}:aq) 0 ({state:=r4.1,own:=true}:aG)) fun r5=>(ua (Xv ({aT:=2,aF:=[0,1],bB:=[],aC:=[({kind:=1,bK:=0,bN:=0,to:=(-1),unit:=(-1),dc:=({num:=0,den:=1}:aQ)}:aV),({kind:=1,bK:=0,bN:=0,to:=(-1),unit:=(-1),dc:=({num:=0,den:=1}:aQ)}:aV),({kind:=1,bK:=1,bN:=0,to:=(-1),unit:=(-1),dc:=({num:=0,den:=1}:aQ)}:aV)],zw:=[r1,r2],bh:=3,off:=[]}:aq)) fun r6=>(ua (bif (r4.2 == 0) then (bif (r5.2 == 0) then (bif (r6.2 == 0) then (bif ((r5.1.length:Int) == 1) then (bif ((r6.1.length:Int) == 0) then some true else (ua (zV ({aT:=2,aF:=[0,1],bB:=[],aC:=[({kind:=1,bK:=0,bN:=0,to:=(-1),unit:=(-1),dc:=({num:=0,den:=1}:aQ)}:aV),({kind:=1,bK:=0,bN:=0,to:=(-1),unit:=(-1),dc:=({num:=0,den:=1}:aQ)}:aV),({kind:=1,bK:=1,bN:=0,to:=(-1),unit:=(-1),dc:=({num:=0,den:=1}:aQ)}:aV)],zw:=[r1,r2],bh:=3,off:=[]}:aq)) fun r7=>some (!((r7.length:Int) == 2)))) else some true) else some true) else some true) else some true) fun v1=>(bif v1 then some false else (ua (ua (ze r5.1 0) fun e1=>(ua (Vh e1 [1]) fun r8=>(bif r8 then (ua (ze r6.1 0) fun e2=>(bif (e2.kind == 1) then some (e2.aj == 0) else some false)) else some false))) fun v2=>some v2)))))))))
noncomputable def ze6  : az Bool:=
 .aA 1 (.call 3846 (IA 0 2) fun r1=>.call 3848 (IA 2 2) fun r2=>.b1 3850 (Ej 3 [r1,r2]) (fun r3=>.c [3] 1 (.agg ([vI 2,.Zaj 14 0 2,.nil,.Zaj 18 0 3,.Zaj 3 0 ([r1,r2].length),vI 3,.nil])) [(14,.af 1 [[vI 0],[vI 1]]),(18,.af 7 [[vI 1,vI 0,vI 0,vI (-1),vI (-1),vI 0,vI 1],[vI 1,vI 0,vI 0,vI (-1),vI (-1),vI 0,vI 1],[vI 1,vI 1,vI 0,vI (-1),vI (-1),vI 0,vI 1]])] 15) (fun r3 eO=>(zf (UI 3 [r1,r2] r3 eO) [3] 4 (.drop rfl rfl (.keep (.keep .nil))) (bG bw) (bM (bM bw)))) fun r3=>.us [(0,3846),(1,3848),(3,3850)] (.cC 1 [DN 14 1 [20] zc [0,1],DN 18 7 [20] aV.row [({kind:=1,bK:=0,bN:=0,to:=(-1),unit:=(-1),dc:=({num:=0,den:=1}:aQ)}:aV),({kind:=1,bK:=0,bN:=0,to:=(-1),unit:=(-1),dc:=({num:=0,den:=1}:aQ)}:aV),({kind:=1,bK:=1,bN:=0,to:=(-1),unit:=(-1),dc:=({num:=0,den:=1}:aQ)}:aV)],DN 3 16 [20] aK.row [r1,r2]] (.aA 0 (.call 3852 (Zh ({aT:=2,aF:=[0,1],bB:=[],aC:=[({kind:=1,bK:=0,bN:=0,to:=(-1),unit:=(-1),dc:=({num:=0,den:=1}:aQ)}:aV),({kind:=1,bK:=0,bN:=0,to:=(-1),unit:=(-1),dc:=({num:=0,den:=1}:aQ)}:aV),({kind:=1,bK:=1,bN:=0,to:=(-1),unit:=(-1),dc:=({num:=0,den:=1}:aQ)}:aV)],zw:=[r1,r2],bh:=3,off:=[]}:aq)) fun r4=>.use 1 3852 (.aA 0 (.call 3854 (zmy ({aT:=2,aF:=[0,1],bB:=[],aC:=[({kind:=1,bK:=0,bN:=0,to:=(-1),unit:=(-1),dc:=({num:=0,den:=1}:aQ)}:aV),({kind:=1,bK:=0,bN:=0,to:=(-1),unit:=(-1),dc:=({num:=0,den:=1}:aQ)}:aV),({kind:=1,bK:=1,bN:=0,to:=(-1),unit:=(-1),dc:=({num:=0,den:=1}:aQ)}:aV)],zw:=[r1,r2],bh:=3,off:=[]}:aq) 0 ({state:=r4.1,own:=true}:aG)) fun r5=>.use 3 3854 (.aA 0 (.call 3856 (Uu ({aT:=2,aF:=[0,1],bB:=[],aC:=[({kind:=1,bK:=0,bN:=0,to:=(-1),unit:=(-1),dc:=({num:=0,den:=1}:aQ)}:aV),({kind:=1,bK:=0,bN:=0,to:=(-1),unit:=(-1),dc:=({num:=0,den:=1}:aQ)}:aV),({kind:=1,bK:=1,bN:=0,to:=(-1),unit:=(-1),dc:=({num:=0,den:=1}:aQ)}:aV)],zw:=[r1,r2],bh:=3,off:=[]}:aq)) fun r6=>.use 1 3856 (.cut (β:=Bool) 2 (.e [4,6] (fun v1=>[(54,vB v1)]) [3,18,14,20,27] 72) (.aA 0 (.ite 3830 (r4.2 == 0) (.ite 3832 (r5.2 == 0) (.ite 3834 (r6.2 == 0) (.ite 3836 ((r5.1.length:Int) == 1) (.ite 3838 ((r6.1.length:Int) == 0) (.us [(3,3831),(7,3833),(11,3835)] (.ln 3860 (zI zc) r5.1 (.us [(12,3860),(16,3837)] (.ln 3858 bD.row r6.1 (.us [(17,3858),(21,3838)] (.ret true)))))) (.call 3862 (xl ({aT:=2,aF:=[0,1],bB:=[],aC:=[({kind:=1,bK:=0,bN:=0,to:=(-1),unit:=(-1),dc:=({num:=0,den:=1}:aQ)}:aV),({kind:=1,bK:=0,bN:=0,to:=(-1),unit:=(-1),dc:=({num:=0,den:=1}:aQ)}:aV),({kind:=1,bK:=1,bN:=0,to:=(-1),unit:=(-1),dc:=({num:=0,den:=1}:aQ)}:aV)],zw:=[r1,r2],bh:=3,off:=[]}:aq)) fun r7=>.us [(3,3831),(7,3833),(11,3835)] (.ln 3868 (zI zc) r5.1 (.us [(12,3868),(16,3837)] (.ln 3866 bD.row r6.1 (.us [(17,3866),(21,3838),(22,3862)] (.ln 3864 (zI zc) r7 (.use 23 3864 (.ret (!((r7.length:Int) == 2))))))))))) (.us [(3,3831),(7,3833),(11,3835)] (.ln 3872 (zI zc) r5.1 (.us [(12,3872),(16,3837)] (.f1 3870 (.g true) (rfl:true=true) (.use 21 3870 (.ret true))))))) (.us [(3,3831),(7,3833),(11,3835)] (.f1 3876 (.g true) (rfl:true=true) (.use 16 3876 (.f1 3874 (.g true) (rfl:true=true) (.use 21 3874 (.ret true))))))) (.us [(3,3831),(7,3833)] (.f1 3882 (.g true) (rfl:true=true) (.use 11 3882 (.f1 3880 (.g true) (rfl:true=true) (.use 16 3880 (.f1 3878 (.g true) (rfl:true=true) (.use 21 3878 (.ret true))))))))) (.use 3 3831 (.f1 3890 (.g true) (rfl:true=true) (.use 7 3890 (.f1 3888 (.g true) (rfl:true=true) (.use 11 3888 (.f1 3886 (.g true) (rfl:true=true) (.use 16 3886 (.f1 3884 (.g true) (rfl:true=true) (.use 21 3884 (.ret true)))))))))))) fun v1=>.ite 3840 v1 (.sel 3840 (.ret false)) (.sel 3840 (.cut (β:=Bool) 1 (.k [] (fun v2=>[(0,vB v2)]) [3,18,14,20,27] (fun _=>[(75,.af 1 [[vI 1]])]) 92 fun _=>(.exp rfl rfl .nil)) (.aA 0 (.ix 3892 (zI zc) r5.1 0 fun e1=>.bind (Vh e1 [1]) (fun r8=>[(3894,([.w [75] [.slice (ud zc e1),.slice (ud zc [1])] (.bool r8)],_))]) (fun r8 Bf=>(.c2 (Uw e1 [1] r8 Bf) (jy [.ap (.slice (ud zc e1)),.Zaj 75 0 1] [(75,.af 1 [[vI 1]])] [.slice (ud zc e1),.slice (ud zc [1])] (by kernel_rfl)) .nil)) fun r8=>.ite 3842 r8 (.ix 3896 bD.row r6.1 0 fun e2=>.ite 3844 (e2.kind == 1) (.us [(1,3892),(4,3894),(6,3842),(7,3896),(13,3844),(14,3896)] (.ret (e2.aj == 0))) (.us [(1,3892),(4,3894),(6,3842),(7,3896),(13,3844)] (.ret false))) (.us [(1,3892),(4,3894),(6,3842)] (.f1 3898 (.g false) (rfl:false=false) (.use 13 3898 (.ret false)))))) fun v2=>.ret v2)))))))))))
theorem ze7  (res:Bool) (hd:kW  = some res):aJ C0 186 [] (.bool res):=
 az.pure (iv:=fun res=>.bool res) (ze6 ) (by kernel_rfl) (az.aB hd (by kernel_rfl))
noncomputable def WU (d:aq) (c:aq):Option aq:=
 some ({c with aC:=d.aC,zw:=d.zw}:aq)
noncomputable def zdj (d:aq) (c:aq):az aq:=
 .ret ({c with aC:=d.aC,zw:=d.zw}:aq)
theorem zdk (d:aq) (c:aq) (res:aq) (hd:WU d c=some res):aJ C0 190 [.agg (aq.row d),.agg (aq.row c)] (.agg (aq.row res)):=
 az.pure (iv:=fun res=>.agg (aq.row res)) (zdj d c) (by kernel_rfl) (az.aB hd (by kernel_rfl))
noncomputable def wm (c:aq):Option Bool:=
 (ua (aE (σ:=Unit) (ρ:=Unit) (c.aC.length:Int) (fun i1 s1=>(ua (ze c.aC (i1:Int)) fun e1=>(bif (e1.kind == 1) then some (.inl ()) else some (.inr ())))) ()) (uq (fun (s1:Unit)=>some false) (fun (y1:Unit)=>some true)))
noncomputable def zcs (c:aq):az Bool:=
 .aE (σ:=Unit) (ρ:=Unit) 3908 3 (c.aC.length:Int) () (.e [1] (fun _=>[]) [0] 3) (fun i1 s1=>.aA 0 (.ln 3914 aV.row c.aC (.use 3 3914 (.sel 3908 (.aA 0 (.ix 3912 aV.row c.aC (i1:Int) fun e1=>.use 3 3912 (.ite 3910 (e1.kind == 1) (.sel 3911 (.ret (.inl ()))) (.sel 3911 (.ret (.inr ())))))))))) fun os1=>.case os1 (fun s1=>.aA 0 (.ln 3916 aV.row c.aC (.use 3 3916 (.sel 3908 (.ret false))))) fun y1=>.ret true
theorem XC (c:aq) (res:Bool) (hd:wm c=some res):aJ C0 191 [.agg (aq.row c)] (.bool res):=
 az.pure (iv:=fun res=>.bool res) (zcs c) (by kernel_rfl) (az.aB hd (by kernel_rfl))
noncomputable def Qa (c:aq) (d:aq):Option aq:=
 (ua (kF (α:=aV) 56 [] c.aC) fun e1=>(ua (kF (α:=aV) 56 e1 d.aC) fun e2=>(ua (kF (α:=aK) 136 [] c.zw) fun e3=>(ua (aE (σ:=(List aK)) (ρ:=Unit) (d.zw.length:Int) (fun i1 s1=>(ua (ze d.zw (i1:Int)) fun e4=>(ua (bif decide (0≤e4.aL) then some ((IntKind.i64.wrap (e4.aL+(c.aC.length:Int))),(IntKind.i64.wrap (e4.cX+(c.aC.length:Int)))) else some (e4.aL,e4.cX)) fun (v1:Int×Int)=>(ua (ua (iter (σ:=Int×(List cD)) (ρ:=(List cD)) (fun s2=>(ua (ze d.zw (i1:Int)) fun e5=>(bif decide (s2.1 < (e5.start.length:Int)) then (ua (ze d.zw (i1:Int)) fun e6=>(ua (ze e6.start s2.1) fun e7=>(ua (zO (α:=cD) 16 s2.2 [({clause:=(IntKind.i64.wrap (e7.clause+(c.zw.length:Int))),is:=e7.is}:cD)]) fun e8=>some (.inl ((IntKind.i64.wrap (s2.1+1)),e8))))) else some (.inr s2.2)))) (0,[])) (fun (y1:(List cD))=>some y1)) fun (v2:(List cD))=>(ua (zO (α:=aK) 136 s1 [({e4 with act:=(IntKind.i64.wrap (e4.act+(c.aC.length:Int))),start:=v2,aL:=v1.1,cX:=v1.2}:aK)]) fun e9=>some (.inl e9)))))) e3) (uq (fun (s1:(List aK))=>some ({c with aC:=e2,zw:=s1}:aq)) (fun _=>none))))))
noncomputable def zg7 (c:aq) (d:aq):az aq:=
 .aA 2 (.b1 3940 (kF (α:=aV) 56 [] c.aC) (fun e1=>.b (zb aV.row e1) e1.length) (fun e1 eG=>(Xe aV.row 7 56 (fun _=>rfl) eG)) fun e1=>.b1 3942 (kF (α:=aV) 56 e1 d.aC) (fun e2=>.b (zb aV.row e2) e2.length) (fun e2 ew=>(Xe aV.row 7 56 (fun _=>rfl) ew)) fun e2=>.us [(3,3940),(6,3942)] (.aA 0 (.b1 3944 (kF (α:=aK) 136 [] c.zw) (fun e3=>.b (zb aK.row e3) e3.length) (fun e3 fN=>(Xe aK.row 16 136 (fun _=>rfl) fN)) fun e3=>.use 3 3944 (.cC 3 [HD 5 4 0 4 18 16 aK.row e3] (.aE (σ:=(List aK)) (ρ:=Unit) 3922 6 (d.zw.length:Int) e3 (.k [2,3,4,5] (fun _=>[]) [0,1,2] (fun s1=>[(4,.af 7 [[vI c.aT,.ap (.slice (ud zc c.aF)),.ap (.slice (ud bQ.row c.bB)),.Zaj 12 0 e2.length,.aS 22 (ud aK.row s1),vI c.bh,.ap (.slice (ud zc c.off))]]),(12,.af 7 (zb aV.row e2)),(22,.aU 16 s1.length)]) 23 fun _=>(.exp rfl rfl (.af rfl (.exp rfl rfl .nil)))) (fun i1 s1=>.aA 0 (.ln 3968 aK.row d.zw (.use 3 3968 (.sel 3922 (.aA 0 (.ix 3946 aK.row d.zw (i1:Int) fun e4=>.use 3 3946 (.aA 0 (.ln 3966 aV.row c.aC (.use 4 3966 (.cut (β:=Int×Int) 1 (.k [2,3,4,5,6,7] (fun _=>[]) [0,1,2,4,22] (fun v1=>[(12,.af 7 (zb aV.row e2)),(33,.af 16 [[vI e4.kind,vI e4.bK,vI (IntKind.i64.wrap (e4.act+(c.aC.length:Int))),vI e4.need,.ap (.slice (ud cD.row e4.start)),vI e4.after,vI e4.bq,vB e4.bu,vB e4.final,vI v1.1,vI v1.2,vI e4.value.num,vI e4.value.den,vI e4.unit,vI e4.to,vB e4.br]])]) 46 fun _=>(.af rfl (.exp rfl rfl .nil))) (.ite 3932 (decide (0≤e4.aL)) (.sel 3932 (.aA 0 (.ln 3950 aV.row c.aC (.use 4 3950 (.aA 0 (.ln 3948 aV.row c.aC (.use 4 3948 (.ret ((IntKind.i64.wrap (e4.aL+(c.aC.length:Int))),(IntKind.i64.wrap (e4.cX+(c.aC.length:Int)))))))))))) (.sel 3932 (.ret (e4.aL,e4.cX)))) fun v1=>.cut (β:=(List cD)) 2 (.k [2,3,4,5,6,7] (fun _=>[]) [0,1,2,4,22] (fun v2=>[(12,.af 7 (zb aV.row e2)),(33,.af 16 [[vI e4.kind,vI e4.bK,vI (IntKind.i64.wrap (e4.act+(c.aC.length:Int))),vI e4.need,.aS 49 (ud cD.row v2),vI e4.after,vI e4.bq,vB e4.bu,vB e4.final,vI v1.1,vI v1.2,vI e4.value.num,vI e4.value.den,vI e4.unit,vI e4.to,vB e4.br]]),(49,.aU 2 v2.length)]) 50 fun _=>(.af rfl (.exp rfl rfl (.exp rfl rfl .nil)))) (.cC 2 [Z2 33 2 0 4] (.iter (σ:=Int×(List cD)) (ρ:=(List cD)) (0,[]) (.k [2,3,4,5,6,7] (fun s2=>[(8,vI s2.1)]) [0,1,2,4,22] (fun s2=>[(12,.af 7 (zb aV.row e2)),(33,.af 16 [[vI e4.kind,vI e4.bK,vI (IntKind.i64.wrap (e4.act+(c.aC.length:Int))),vI e4.need,.aS 49 (ud cD.row s2.2),vI e4.after,vI e4.bq,vB e4.bu,vB e4.final,vI v1.1,vI v1.2,vI e4.value.num,vI e4.value.den,vI e4.unit,vI e4.to,vB e4.br]]),(49,.aU 2 s2.2.length)]) 50 fun _=>(.af rfl (.exp rfl rfl (.exp rfl rfl .nil)))) (fun s2=>.aA 0 (.ix 3952 aK.row d.zw (i1:Int) fun e5=>.use 4 3952 (.ln 3962 cD.row e5.start (.use 7 3962 (.ite 3938 (decide (s2.1 < (e5.start.length:Int))) (.sel 3938 (.aA 0 (.ix 3954 aK.row d.zw (i1:Int) fun e6=>.ix 3956 cD.row e6.start s2.1 fun e7=>.us [(3,3954),(7,3956)] (.aA 0 (.ln 3960 aK.row c.zw (.use 4 3960 (.aA 0 (.b1 3958 (zO (α:=cD) 16 s2.2 [({clause:=(IntKind.i64.wrap (e7.clause+(c.zw.length:Int))),is:=e7.is}:cD)]) (fun e8=>.a (ud cD.row e8) e8.length) (fun e8 pR=>(qt cD.row 2 16 (fun _=>rfl) pR)) fun e8=>.use 4 3958 (.ret (.inl ((IntKind.i64.wrap (s2.1+1)),e8))))))))))) (.sel 3938 (.ret (.inr s2.2)))))))) fun y1=>.ret y1)) fun v2=>.aA 0 (.b1 3964 (zO (α:=aK) 136 s1 [({e4 with act:=(IntKind.i64.wrap (e4.act+(c.aC.length:Int))),start:=v2,aL:=v1.1,cX:=v1.2}:aK)]) (fun e9=>.a (ud aK.row e9) e9.length) (fun e9 s7=>(qt aK.row 16 136 (fun _=>rfl) s7)) fun e9=>.use 4 3964 (.ret (.inl e9))))))))))))) fun os1=>.case os1 (fun s1=>.aA 0 (.ln 3970 aK.row d.zw (.use 3 3970 (.sel 3922 (.fin [12,22] (.agg [vI c.aT,.ap (.slice (ud zc c.aF)),.ap (.slice (ud bQ.row c.bB)),.Zaj 12 0 e2.length,.aS 22 (ud aK.row s1),vI c.bh,.ap (.slice (ud zc c.off))]) [(12,.af 7 (zb aV.row e2)),(22,.aU 16 s1.length)] (.agg (aq.row ({c with aC:=e2,zw:=s1}:aq))) (jy _ _ _ (zy (yM (zy (qw _) (zy (qw _) (zy (qw _) (zy (vS aV.row 12 7 e2 rfl) (zy (GP _ _) (zy (qw _) (zy (qw _) qO)))))))) qO)) ({c with aC:=e2,zw:=s1}:aq)))))) fun _=>.none)))))
theorem zg8 (c:aq) (d:aq) (res:aq) (hd:Qa c d=some res):aJ C0 189 [.agg (aq.row c),.agg (aq.row d)] (.agg (aq.row res)):=
 az.pure (iv:=fun res=>.agg (aq.row res)) (zg7 c d) (by kernel_rfl) (az.aB hd (by kernel_rfl))
noncomputable def Yy (c:aq) (a:b9) (safe:List Bool):Option Int:=
 (ua (α:=Unit ⊕ Int) (ua (iter (σ:=Int×Int) (ρ:=Unit ⊕ Int) (fun s1=>(ua (ze a.aY s1.2) fun e1=>(bif decide (e1.state.day < c.bh) then (ua (kz a s1.2 (-2)) fun r1=>(ua (kz a r1.1 (-1)) fun r2=>(ua (ze safe r2.1) fun e2=>(bif e2 then some (.inl ((IntKind.i64.wrap (s1.1+1)),r2.1)) else some (.inr (.inr s1.1)))))) else some (.inr (.inl ()))))) (0,0)) (uq (fun (y1:Unit)=>some (.inl ())) (fun (y2:Int)=>some (.inr y2)))) (uq (fun (v1:Unit)=>some (-1)) (fun (y3:Int)=>some y3)))
noncomputable def zmz (c:aq) (a:b9) (safe:List Bool):az Int:=
 .ei (β:=Unit) (γ:=Int) 3 (.e [] (fun _=>[]) [] 5) (.iter (σ:=Int×Int) (ρ:=Unit ⊕ Int) (0,0) (.e [2,3,4] (fun s1=>[(7,vI s1.1),(8,vI s1.2)]) [0,1] 5) (fun s1=>.aA 0 (.ix 4006 aG.row a.aY s1.2 fun e1=>.use 3 4006 (.ite 4002 (decide (e1.state.day < c.bh)) (.sel 4002 (.aA 0 (.call 4008 (Iz a s1.2 (-2)) fun r1=>.use 2 4008 (.aA 0 (.call 4010 (Iz a r1.1 (-1)) fun r2=>.use 2 4010 (.aA 0 (.ix 4012 zi safe r2.1 fun e2=>.use 2 4012 (.ite 4004 e2 (.sel 4005 (.ret (.inl ((IntKind.i64.wrap (s1.1+1)),r2.1)))) (.sel 4005 (.ret (.inr (.inr s1.1)))))))))))) (.sel 4002 (.ret (.inr (.inl ()))))))) fun os1=>.case os1 (fun y1=>.ret (.inl ())) fun y2=>.ret (.inr y2)) fun o_v1=>.case o_v1 (fun v1=>.ret (-1)) fun y3=>.ret y3
theorem zmA (c:aq) (a:b9) (safe:List Bool) (res:Int) (hd:Yy c a safe=some res):aJ C0 158 [.agg (aq.row c),.agg (b9.row a),.slice (ud zi safe)] (.int .i64 res):=
 az.pure (iv:=fun res=>.int .i64 res) (zmz c a safe) (by kernel_rfl) (az.aB hd (by kernel_rfl))
noncomputable def dU (c:aq) (aj:Int) (s:aH):Option (aW×Int):=
 (ua (jT c aj ({state:=s,own:=true}:aG)) fun r1=>(bif (r1.2 == 0) then (ua (ky c r1.1) fun r2=>(ua (ze r2 0) fun e1=>(bif e1 then (ua (Z9 r1.1 r2) fun r3=>(ua (ze r3 0) fun e2=>(ua (Yy c r1.1 r2) fun r4=>some (({safe:=true,move:=e2,wait:=r4}:aW),0)))) else some (({safe:=false,move:=(-2),wait:=0}:aW),0)))) else some (({safe:=false,move:=0,wait:=0}:aW),r1.2)))
noncomputable def ziM (c:aq) (aj:Int) (s:aH):az (aW×Int):=
 .aA 1 (.call 4014 (Yq c aj ({state:=s,own:=true}:aG)) fun r1=>.use 4 4014 (.ite 3996 (r1.2 == 0) (.sel 3997 (.aA 0 (.call 4016 (Ei c r1.1) fun r2=>.use 2 4016 (.aA 0 (.ix 4018 zi r2 0 fun e1=>.use 1 4018 (.ite 3998 e1 (.sel 3999 (.aA 0 (.call 4020 (UC r1.1 r2) fun r3=>.ix 4022 zc r3 0 fun e2=>.call 4024 (zmA c r1.1 r2) fun r4=>.us [(2,4020),(3,4022),(8,4024)] (.ret (({safe:=true,move:=e2,wait:=r4}:aW),0))))) (.sel 3999 (.ret (({safe:=false,move:=(-2),wait:=0}:aW),0))))))))) (.sel 3997 (.ret (({safe:=false,move:=0,wait:=0}:aW),r1.2)))))
theorem ziN (c:aq) (aj:Int) (s:aH) (res:aW×Int) (hd:dU c aj s=some res):aJ C0 153 [.agg (aq.row c),.int .i64 aj,.agg (aH.row s)] (.tuple [.agg (aW.row res.1),.int .i64 res.2]):=
 az.pure (iv:=fun res=>.tuple [.agg (aW.row res.1),.int .i64 res.2]) (ziM c aj s) (by kernel_rfl) (az.aB hd (by kernel_rfl))
noncomputable def XD (p1:List Int) (p2:aq) (p3:aH) (p4:Bool) (p5:Int) (p6:Bool) (p7:Int) (p8:Int) (p9:Bool):Option (Int×Bool×Int×Int×Bool):=
 (ua (jT p2 p5 ({state:=p3,own:=p4}:aG)) fun r1=>(bif (r1.2 == 0) then (ua (ky p2 r1.1) fun r2=>(ua (dU p2 p5 p3) fun r3=>(bif (r3.2 == 0) then (ua (bif p6 then (ua (ze r2 0) fun e1=>some e1) else some false) fun v1=>(ua (bif p9 then some (r3.1.move == (-2)) else some false) fun v2=>(ua (ze r1.1.bg 0) fun e2=>(ua (aE (σ:=Int) (ρ:=Unit) (e2.length:Int) (fun i1 s1=>(ua (ua (ze e2 (i1:Int)) fun e3=>(ua (bif (e3.step == (-2)) then some false else (ua (ze r2 e3.to) fun e4=>(bif e4 then (bif (s1 == (-2)) then some true else some (decide (e3.step < s1))) else some false))) fun v3=>(bif v3 then some e3.step else some s1))) fun (v4:Int)=>some (.inl v4))) p7) (uq (fun (s1:Int)=>(ua (ua (bif decide (0≤r3.1.wait) then (bif decide (p8 < 0) then some true else some (decide (r3.1.wait < p8))) else some false) fun v5=>(bif v5 then some r3.1.wait else some p8)) fun (v6:Int)=>some (0,v1,s1,v6,v2))) (fun _=>none)))))) else some (r3.2,p6,p7,p8,p9)))) else some (r1.2,p6,p7,p8,p9)))
noncomputable def zmB (p1:List Int) (p2:aq) (p3:aH) (p4:Bool) (p5:Int) (p6:Bool) (p7:Int) (p8:Int) (p9:Bool):az (Int×Bool×Int×Int×Bool):=
 .aA 1 (.call 4056 (Yq p2 p5 ({state:=p3,own:=p4}:aG)) fun r1=>.use 3 4056 (.ite 3994 (r1.2 == 0) (.sel 3995 (.aA 0 (.call 4058 (Ei p2 r1.1) fun r2=>.use 2 4058 (.aA 0 (.call 4060 (ziN p2 p5 p3) fun r3=>.use 4 4060 (.ite 4026 (r3.2 == 0) (.sel 4027 (.cut (β:=Bool) 1 (.k [4,5,10,12,13] (fun _=>[]) [0,2,3,4,13,30] (fun v1=>[(1,.af 3 [[vB v1,vI p7,vI p8]])]) 44 fun _=>(.exp rfl rfl .nil)) (.aA 0 (.ite 4028 p6 (.ix 4062 zi r2 0 fun e1=>.us [(3,4028),(4,4062)] (.ret e1)) (.use 3 4028 (.ret false)))) fun v1=>.cut (β:=Bool) 1 (.k [4,10,12,13] (fun _=>[]) [0,1,3,4,13,30] (fun v2=>[(2,.af 1 [[vB v2]])]) 51 fun _=>(.exp rfl rfl .nil)) (.aA 0 (.ite 4030 p9 (.use 2 4030 (.ret (r3.1.move == (-2)))) (.use 2 4030 (.ret false)))) fun v2=>.aA 0 (.ix 4064 (zI bk.row) r1.1.bg 0 fun e2=>.use 2 4064 (.ln 4072 bk.row e2 (.use 4 4072 (.aE (σ:=Int) (ρ:=Unit) 4032 59 (e2.length:Int) p7 (.k [4,12,13,57,58] (fun _=>[]) [0,2,30] (fun s1=>[(1,.af 3 [[vB v1,vI s1,vI p8]])]) 57 fun _=>(.exp rfl rfl .nil)) (fun i1 s1=>.sel 4032 (.cut (β:=Int) 1 (.k [4,12,13,57,58,59] (fun _=>[]) [0,2,30] (fun v4=>[(1,.af 3 [[vB v1,vI v4,vI p8]])]) 84 fun _=>(.exp rfl rfl .nil)) (.aA 0 (.ix 4066 bk.row e2 (i1:Int) fun e3=>.use 0 4066 (.cut (β:=Bool) 1 (.e [4,12,13,57,58,59,15] (fun v3=>[(84,vB v3)]) [0,1,2,30,60] 84) (.aA 0 (.ite 4042 (e3.step == (-2)) (.use 4 4043 (.f1 4068 (.g false) (rfl:false=false) (.use 11 4068 (.ret false)))) (.ix 4070 zi r2 e3.to fun e4=>.ite 4044 e4 (.ite 4046 (s1 == (-2)) (.us [(4,4043),(7,4070),(11,4044),(15,4046)] (.ret true)) (.us [(4,4043),(7,4070),(11,4044),(15,4046)] (.ret (decide (e3.step < s1))))) (.us [(4,4043),(7,4070),(11,4044)] (.ret false))))) fun v3=>.ite 4048 v3 (.sel 4048 (.ret e3.step)) (.sel 4048 (.ret s1))))) fun v4=>.ret (.inl v4))) fun os1=>.case os1 (fun s1=>.sel 4032 (.cut (β:=Int) 1 (.k [] (fun _=>[]) [0,2] (fun v6=>[(1,.af 3 [[vB v1,vI s1,vI v6]])]) 73 fun _=>(.exp rfl rfl .nil)) (.cut (β:=Bool) 1 (.e [4,13] (fun v5=>[(103,vB v5)]) [0,1,2,30] 73) (.aA 0 (.ite 4050 (decide (0≤r3.1.wait)) (.ite 4052 (decide (p8 < 0)) (.us [(4,4050),(8,4052)] (.ret true)) (.us [(4,4050),(8,4052)] (.ret (decide (r3.1.wait < p8))))) (.use 4 4050 (.ret false)))) fun v5=>.ite 4054 v5 (.sel 4054 (.ret r3.1.wait)) (.sel 4054 (.ret p8))) fun v6=>.ret (0,v1,s1,v6,v2))) fun _=>.none)))))) (.sel 4027 (.ret (r3.2,p6,p7,p8,p9))))))))) (.sel 3995 (.ret (r1.2,p6,p7,p8,p9)))))
theorem zmC (p1:List Int) (p2:aq) (p3:aH) (p4:Bool) (p5:Int) (p6:Bool) (p7:Int) (p8:Int) (p9:Bool) (res:Int×Bool×Int×Int×Bool) (hd:XD p1 p2 p3 p4 p5 p6 p7 p8 p9=some res):dm C0 182 [.ap (.slice (ud zc p1)),.agg (zu (aq.row p2)),.agg [vI p3.day,.ap (.slice (ud zc p3.aF)),.ap (.slice (ud zi p3.used)),.ap (.slice (ud ak.row p3.aO)),vB p4],.ptr 0 0 0,.ptr 1 0 0,.ptr 2 0 0] [(0,.af 1 [[vI p5]]),(1,.af 3 [[vB p6,vI p7,vI p8]]),(2,.af 1 [[vB p9]])] 3 (vI res.1) [(0,.af 1 [[vI p5]]),(1,.af 3 [[vB res.2.1,vI res.2.2.1,vI res.2.2.2.1]]),(2,.af 1 [[vB res.2.2.2.2]])] 0:=
 az.dA (R:=fun res=>vI res.1) (H:=fun res=>[(0,.af 1 [[vI p5]]),(1,.af 3 [[vB res.2.1,vI res.2.2.1,vI res.2.2.2.1]]),(2,.af 1 [[vB res.2.2.2.2]])]) (zmB p1 p2 p3 p4 p5 p6 p7 p8 p9) (.exp rfl rfl (.exp rfl rfl (.exp rfl rfl .nil))) (fun _=>(.exp rfl rfl (.exp rfl rfl (.exp rfl rfl .nil)))) (by kernel_rfl) (fun _=>by kernel_rfl) (by kernel_rfl) (az.aB hd (by kernel_rfl))
noncomputable def XE (p1:aq) (p2:Int) (p3:aH) (p4:Bool) (p5:Int) (p6:Bool) (p7:Int) (p8:Int) (p9:Bool):Option (Int×Bool×Int×Int×Bool):=
 (ua (bif decide (p2 < 0) then some true else (bif decide (p1.aT≤p2) then some true else (ua (j9 p1 p3) fun r1=>some (!r1)))) fun v1=>(bif v1 then some (1,p6,p7,p8,p9) else (ua (ua (zV p1) fun r2=>(ua (aE (σ:=Int×Bool×Int×Int×Bool) (ρ:=Int×Bool×Int×Int×Bool) (r2.length:Int) (fun i1 s1=>(ua (ze r2 (i1:Int)) fun e1=>(ua (kB p1 e1) fun r3=>(ua (bif (r3.2 == 0) then (ua (xm e1 p3) fun r4=>(ua (XD e1 r3.1 r4 p4 p5 s1.2.1 s1.2.2.1 s1.2.2.2.1 s1.2.2.2.2) fun r5=>some (r5.1,r5.2.1,r5.2.2.1,r5.2.2.2.1,r5.2.2.2.2))) else some (r3.2,s1.2.1,s1.2.2.1,s1.2.2.2.1,s1.2.2.2.2)) fun (v2:Int×Bool×Int×Int×Bool)=>(bif (v2.1 == 0) then some (.inl (v2.1,v2.2.1,v2.2.2.1,v2.2.2.2.1,v2.2.2.2.2)) else some (.inr (v2.1,v2.2.1,v2.2.2.1,v2.2.2.2.1,v2.2.2.2.2))))))) (0,p6,p7,p8,p9)) (uq (fun (s1:Int×Bool×Int×Int×Bool)=>some (s1.1,s1.2.1,s1.2.2.1,s1.2.2.2.1,s1.2.2.2.2)) (fun (y1:Int×Bool×Int×Int×Bool)=>some (y1.1,y1.2.1,y1.2.2.1,y1.2.2.2.1,y1.2.2.2.2))))) fun (v3:Int×Bool×Int×Int×Bool)=>some (v3.1,v3.2.1,v3.2.2.1,v3.2.2.2.1,v3.2.2.2.2))))
noncomputable def zmD (p1:aq) (p2:Int) (p3:aH) (p4:Bool) (p5:Int) (p6:Bool) (p7:Int) (p8:Int) (p9:Bool):az (Int×Bool×Int×Int×Bool):=
 .cut (β:=Bool) 4 (.e [3,4,6] (fun v1=>[(28,vB v1)]) [0,1,2,3,4] 21) (.aA 0 (.ite 3984 (decide (p2 < 0)) (.use 3 3984 (.f1 4080 (.g true) (rfl:true=true) (.use 9 4080 (.ret true)))) (.ite 3986 (decide (p1.aT≤p2)) (.us [(3,3984),(9,3986)] (.ret true)) (.call 4082 (ZF p1 p3) fun r1=>.us [(3,3984),(9,3986),(12,4082)] (.ret (!r1)))))) fun v1=>.ite 3988 v1 (.sel 3988 (.ret (1,p6,p7,p8,p9))) (.sel 3988 (.cut (β:=Int×Bool×Int×Int×Bool) 3 (.k [] (fun v3=>[(9,vI v3.1)]) [0] (fun v3=>[(1,.af 3 [[vB v3.2.1,vI v3.2.2.1,vI v3.2.2.2.1]]),(2,.af 1 [[vB v3.2.2.2.2]])]) 26 fun _=>(.exp rfl rfl (.exp rfl rfl .nil))) (.aA 0 (.call 4084 (xl p1) fun r2=>.use 1 4084 (.ln 4094 (zI zc) r2 (.use 2 4094 (.aE (σ:=Int×Bool×Int×Int×Bool) (ρ:=Int×Bool×Int×Int×Bool) 3990 32 (r2.length:Int) (0,p6,p7,p8,p9) (.k [3,4,6,30,31] (fun s1=>[(9,vI s1.1)]) [0,3,4] (fun s1=>[(1,.af 3 [[vB s1.2.1,vI s1.2.2.1,vI s1.2.2.2.1]]),(2,.af 1 [[vB s1.2.2.2.2]])]) 26 fun _=>(.exp rfl rfl (.exp rfl rfl .nil))) (fun i1 s1=>.sel 3990 (.aA 0 (.ix 4086 (zI zc) r2 (i1:Int) fun e1=>.use 0 4086 (.aA 0 (.call 4088 (IM p1 e1) fun r3=>.use 2 4088 (.cut (β:=Int×Bool×Int×Int×Bool) 2 (.k [3,4,6,30,31,32] (fun v2=>[(9,vI v2.1)]) [0,3,4] (fun v2=>[(1,.af 3 [[vB v2.2.1,vI v2.2.2.1,vI v2.2.2.2.1]]),(2,.af 1 [[vB v2.2.2.2.2]])]) 43 fun _=>(.exp rfl rfl (.exp rfl rfl .nil))) (.ite 4076 (r3.2 == 0) (.sel 4076 (.aA 0 (.call 4090 (Xy e1 p3) fun r4=>.b1 4092 (XD e1 r3.1 r4 p4 p5 s1.2.1 s1.2.2.1 s1.2.2.2.1 s1.2.2.2.2) (fun r5=>.c [0,1,2] 3 (vI r5.1) [(1,.af 3 [[vB r5.2.1,vI r5.2.2.1,vI r5.2.2.2.1]]),(2,.af 1 [[vB r5.2.2.2.2]])] 0) (fun r5 s6=>(zf (zmC e1 r3.1 r4 p4 p5 s1.2.1 s1.2.2.1 s1.2.2.2.1 s1.2.2.2.2 r5 s6) [0,1,2] 55 (.drop rfl rfl (.keep (.keep .nil))) (bM (bM (bM bw))) (bM (bM bw)))) fun r5=>.us [(6,4090),(10,4092)] (.ret (r5.1,r5.2.1,r5.2.2.1,r5.2.2.2.1,r5.2.2.2.2))))) (.sel 4076 (.ret (r3.2,s1.2.1,s1.2.2.1,s1.2.2.2.1,s1.2.2.2.2)))) fun v2=>.ite 4078 (v2.1 == 0) (.sel 4079 (.ret (.inl (v2.1,v2.2.1,v2.2.2.1,v2.2.2.2.1,v2.2.2.2.2)))) (.sel 4079 (.ret (.inr (v2.1,v2.2.1,v2.2.2.1,v2.2.2.2.1,v2.2.2.2.2)))))))))) fun os1=>.case os1 (fun s1=>.sel 3990 (.ret (s1.1,s1.2.1,s1.2.2.1,s1.2.2.2.1,s1.2.2.2.2))) fun y1=>.ret (y1.1,y1.2.1,y1.2.2.1,y1.2.2.2.1,y1.2.2.2.2)))))) fun v3=>.ret (v3.1,v3.2.1,v3.2.2.1,v3.2.2.2.1,v3.2.2.2.2)))
theorem zmE (p1:aq) (p2:Int) (p3:aH) (p4:Bool) (p5:Int) (p6:Bool) (p7:Int) (p8:Int) (p9:Bool) (res:Int×Bool×Int×Int×Bool) (hd:XE p1 p2 p3 p4 p5 p6 p7 p8 p9=some res):dm C0 177 [.agg (zu (aq.row p1)),vI p2,.agg [vI p3.day,.ap (.slice (ud zc p3.aF)),.ap (.slice (ud zi p3.used)),.ap (.slice (ud ak.row p3.aO)),vB p4],.func 182 [] [.ptr 0 0 0,.ptr 1 0 0,.ptr 2 0 0]] [(0,.af 1 [[vI p5]]),(1,.af 3 [[vB p6,vI p7,vI p8]]),(2,.af 1 [[vB p9]])] 3 (vI res.1) [(0,.af 1 [[vI p5]]),(1,.af 3 [[vB res.2.1,vI res.2.2.1,vI res.2.2.2.1]]),(2,.af 1 [[vB res.2.2.2.2]])] 0:=
 az.dA (R:=fun res=>vI res.1) (H:=fun res=>[(0,.af 1 [[vI p5]]),(1,.af 3 [[vB res.2.1,vI res.2.2.1,vI res.2.2.2.1]]),(2,.af 1 [[vB res.2.2.2.2]])]) (zmD p1 p2 p3 p4 p5 p6 p7 p8 p9) (.exp rfl rfl (.exp rfl rfl (.exp rfl rfl .nil))) (fun _=>(.exp rfl rfl (.exp rfl rfl (.exp rfl rfl .nil)))) (by kernel_rfl) (fun _=>by kernel_rfl) (by kernel_rfl) (az.aB hd (by kernel_rfl))
noncomputable def ju (c:aq) (aj:Int) (s:aH):Option (aW×Int):=
 (ua (XE c aj s true aj true (-2) (-1) true) fun r1=>(bif (r1.1 == 0) then (bif r1.2.1 then (ua (bif r1.2.2.2.2 then some (-2) else some r1.2.2.1) fun (v1:Int)=>some (({safe:=r1.2.1,move:=v1,wait:=r1.2.2.2.1}:aW),0)) else some (({safe:=false,move:=(-2),wait:=0}:aW),0)) else some (({safe:=false,move:=0,wait:=0}:aW),r1.1)))
noncomputable def zg9 (c:aq) (aj:Int) (s:aH):az (aW×Int):=
 .aA 3 (.b1 4102 (XE c aj s true aj true (-2) (-1) true) (fun r1=>.c [1,6,8] 3 (vI r1.1) [(6,.af 3 [[vB r1.2.1,vI r1.2.2.1,vI r1.2.2.2.1]]),(8,.af 1 [[vB r1.2.2.2.2]])] 0) (fun r1 ct=>(zf (zmE c aj s true aj true (-2) (-1) true r1 ct) [1,6,8] 15 (.drop rfl rfl (.keep (.keep .nil))) (bM (bM (bM bw))) (bM (bM bw)))) fun r1=>.use 5 4102 (.ite 4096 (r1.1 == 0) (.sel 4097 (.ite 4098 r1.2.1 (.sel 4099 (.cut (β:=Int) 1 (.k [6,8] (fun _=>[]) [3] (fun v1=>[(6,.af 3 [[vB r1.2.1,vI v1,vI r1.2.2.2.1]])]) 23 fun _=>(.exp rfl rfl .nil)) (.ite 4100 r1.2.2.2.2 (.sel 4100 (.ret (-2))) (.sel 4100 (.ret r1.2.2.1))) fun v1=>.ret (({safe:=r1.2.1,move:=v1,wait:=r1.2.2.2.1}:aW),0))) (.sel 4099 (.ret (({safe:=false,move:=(-2),wait:=0}:aW),0))))) (.sel 4097 (.ret (({safe:=false,move:=0,wait:=0}:aW),r1.1)))))
theorem XF (c:aq) (aj:Int) (s:aH) (res:aW×Int) (hd:ju c aj s=some res):aJ C0 181 [.agg (aq.row c),.int .i64 aj,.agg (aH.row s)] (.tuple [.agg (aW.row res.1),.int .i64 res.2]):=
 az.pure (iv:=fun res=>.tuple [.agg (aW.row res.1),.int .i64 res.2]) (zg9 c aj s) (by kernel_rfl) (az.aB hd (by kernel_rfl))
noncomputable def kG (c:aq) (other:aq) (aj:Int):Option Bool:=
 (ua (kW) fun r1=>(ua (WU other c) fun r2=>(ua (ua (Xw c) fun r3=>(bif r3 then (ua (Xw r2) fun r4=>(bif r4 then (bif decide (aj < 0) then some true else (bif decide (c.aT≤aj) then some true else (ua (wm c) fun r5=>(bif r5 then some true else (ua (wm r2) fun r6=>some r6))))) else some true)) else some true)) fun v1=>(bif v1 then some r1 else (ua (jN c) fun r7=>(ua (jN r2) fun r8=>(ua (Qa c r2) fun r9=>(ua (bif (r7.1 == 0) then some (!(r8.1 == 0)) else some true) fun v2=>(bif v2 then some r1 else (ua (jO c) fun fO=>(ua (jO r2) fun fC=>(ua (jO r9) fun Bk=>(ua (bif (fO.2 == 0) then (bif (fC.2 == 0) then (bif (Bk.2 == 0) then (ua (zV r9) fun Cl=>(ua (zV c) fun Cm=>(ua (zV r2) fun Cn=>some (!((Cl.length:Int) == (IntKind.i64.wrap ((Cm.length:Int)+(Cn.length:Int)))))))) else some true) else some true) else some true) fun v3=>(bif v3 then some false else (ua (ju c aj fO.1) fun r16=>(ua (ju r2 aj fC.1) fun nO=>(ua (ju r9 aj Bk.1) fun gY=>(ua (bif (r16.2 == 0) then some (!(nO.2 == 0)) else some true) fun v4=>(bif v4 then (ua (bif r1 then some (!(gY.2 == 0)) else some false) fun v5=>some v5) else (ua (bif (gY.2 == 0) then (bif r16.1.safe then some (!(gY.1.safe == nO.1.safe)) else some (!(gY.1.safe == false))) else some true) fun v6=>(bif v6 then some false else (bif gY.1.safe then (ua (ua (bif decide (r16.1.wait < 0) then some true else (bif decide (0≤nO.1.wait) then some (decide (nO.1.wait < r16.1.wait)) else some false)) fun v8=>(bif v8 then some nO.1.wait else some r16.1.wait)) fun (v9:Int)=>(ua (bif r1 then (bif (gY.1.wait == v9) then (bif (r16.1.move == (-2)) then some ((gY.1.move == (-2)) == (nO.1.move == (-2))) else some ((gY.1.move == (-2)) == false)) else some false) else some false) fun v10=>some v10)) else (ua (bif r1 then some ((gY.1.safe == false)&&((gY.1.move == (-2))&&((gY.1.wait == 0)&&true))) else some false) fun v7=>some v7)))))))))))))))))))))))
noncomputable def zaL (c:aq) (other:aq) (aj:Int):az Bool:=
 .aA 1 (.call 4132 ze7 fun r1=>.use 0 4132 (.aA 0 (.call 4134 (zdk other c) fun r2=>.use 2 4134 (.cut (β:=Bool) 2 (.e [2,3,7,8] (fun v1=>[(56,vB v1)]) [0,1,8] 36) (.aA 0 (.call 4136 (Iy c) fun r3=>.ite 3900 r3 (.call 4138 (Iy r2) fun r4=>.ite 3902 r4 (.ite 3904 (decide (aj < 0)) (.us [(1,4136),(4,3901),(5,4138),(9,3903),(13,3904)] (.f1 4142 (.g true) (rfl:true=true) (.use 19 4142 (.f1 4140 (.g true) (rfl:true=true) (.use 23 4140 (.ret true)))))) (.ite 3906 (decide (c.aT≤aj)) (.us [(1,4136),(4,3901),(5,4138),(9,3903),(13,3904),(19,3906)] (.f1 4144 (.g true) (rfl:true=true) (.use 23 4144 (.ret true)))) (.call 4146 (XC c) fun r5=>.ite 3918 r5 (.us [(1,4136),(4,3901),(5,4138),(9,3903),(13,3904),(19,3906),(20,4146),(23,3918)] (.ret true)) (.call 4148 (XC r2) fun r6=>.us [(1,4136),(4,3901),(5,4138),(9,3903),(13,3904),(19,3906),(20,4146),(23,3918),(24,4148)] (.ret r6))))) (.us [(1,4136),(4,3901),(5,4138),(9,3903)] (.f1 4154 (.g true) (rfl:true=true) (.use 13 4154 (.f1 4152 (.g true) (rfl:true=true) (.use 19 4152 (.f1 4150 (.g true) (rfl:true=true) (.use 23 4150 (.ret true))))))))) (.us [(1,4136),(4,3901)] (.f1 4162 (.g true) (rfl:true=true) (.use 9 4162 (.f1 4160 (.g true) (rfl:true=true) (.use 13 4160 (.f1 4158 (.g true) (rfl:true=true) (.use 19 4158 (.f1 4156 (.g true) (rfl:true=true) (.use 23 4156 (.ret true)))))))))))) fun v1=>.ite 3920 v1 (.sel 3920 (.ret r1)) (.sel 3920 (.aA 0 (.call 4164 (Zg c) fun r7=>.use 1 4164 (.aA 0 (.call 4166 (Zg r2) fun r8=>.use 1 4166 (.aA 0 (.call 4168 (zg8 c r2) fun r9=>.use 2 4168 (.cut (β:=Bool) 2 (.e [2,3,7,8,13] (fun v2=>[(76,vB v2)]) [0,1,8,53] 61) (.aA 0 (.ite 3972 (r7.1 == 0) (.use 3 3973 (.ret (!(r8.1 == 0)))) (.use 3 3973 (.ret true)))) fun v2=>.ite 3974 v2 (.sel 3974 (.ret r1)) (.sel 3974 (.aA 0 (.call 4170 (Zh c) fun fO=>.use 1 4170 (.aA 0 (.call 4172 (Zh r2) fun fC=>.use 1 4172 (.aA 0 (.call 4174 (Zh r9) fun Bk=>.use 1 4174 (.cut (β:=Bool) 2 (.e [2,3,7,8,13,14,16,18] (fun v3=>[(115,vB v3)]) [0,1,8,53,66,74,82] 108) (.aA 0 (.ite 3976 (fO.2 == 0) (.ite 3978 (fC.2 == 0) (.ite 3980 (Bk.2 == 0) (.call 4176 (xl r9) fun Cl=>.call 4178 (xl c) fun Cm=>.call 4180 (xl r2) fun Cn=>.us [(3,3977),(7,3979),(11,3981),(12,4176)] (.ln 4186 (zI zc) Cl (.us [(13,4186),(15,4178)] (.ln 4184 (zI zc) Cm (.us [(16,4184),(18,4180)] (.ln 4182 (zI zc) Cn (.use 19 4182 (.ret (!((Cl.length:Int) == (IntKind.i64.wrap ((Cm.length:Int)+(Cn.length:Int))))))))))))) (.us [(3,3977),(7,3979),(11,3981)] (.ret true))) (.us [(3,3977),(7,3979)] (.f1 4188 (.g true) (rfl:true=true) (.use 11 4188 (.ret true))))) (.use 3 3977 (.f1 4192 (.g true) (rfl:true=true) (.use 7 4192 (.f1 4190 (.g true) (rfl:true=true) (.use 11 4190 (.ret true)))))))) fun v3=>.ite 3982 v3 (.sel 3982 (.ret false)) (.sel 3982 (.aA 0 (.call 4194 (XF c aj fO.1) fun r16=>.use 3 4194 (.aA 0 (.call 4196 (XF r2 aj fC.1) fun nO=>.use 3 4196 (.aA 0 (.call 4198 (XF r9 aj Bk.1) fun gY=>.use 3 4198 (.cut (β:=Bool) 2 (.e [7,20,22,24,25] (fun v4=>[(142,vB v4)]) [0,1,8,53,66,74,82,115,125,135] 144) (.aA 0 (.ite 4104 (r16.2 == 0) (.use 3 4105 (.ret (!(nO.2 == 0)))) (.use 3 4105 (.ret true)))) fun v4=>.ite 4106 v4 (.sel 4106 (.cut (β:=Bool) 1 (.e [] (fun v5=>[(6,vB v5)]) [0,1,8,53,66,74,82,115,125,135] 150) (.aA 0 (.ite 4108 r1 (.use 2 4108 (.ret (!(gY.2 == 0)))) (.use 2 4108 (.ret false)))) fun v5=>.ret v5)) (.sel 4106 (.cut (β:=Bool) 2 (.e [7,20,22,24] (fun v6=>[(160,vB v6)]) [0,1,8,53,66,74,82,115,125,135] 157) (.aA 0 (.ite 4110 (gY.2 == 0) (.ite 4112 r16.1.safe (.us [(3,4111),(8,4112)] (.ret (!(gY.1.safe == nO.1.safe)))) (.us [(3,4111),(8,4112)] (.ret (!(gY.1.safe == false))))) (.use 3 4111 (.ret true)))) fun v6=>.ite 4114 v6 (.sel 4114 (.ret false)) (.sel 4114 (.ite 4116 gY.1.safe (.sel 4117 (.cut (β:=Int) 2 (.e [7,20,22,24] (fun v9=>[(26,vI v9)]) [115,125,135] 176) (.cut (β:=Bool) 1 (.e [7,20,22,24,26] (fun v8=>[(184,vB v8)]) [0,1,8,53,66,74,82,115,125,135] 176) (.aA 0 (.ite 4120 (decide (r16.1.wait < 0)) (.use 3 4120 (.ret true)) (.ite 4122 (decide (0≤nO.1.wait)) (.us [(3,4120),(7,4122)] (.ret (decide (nO.1.wait < r16.1.wait)))) (.us [(3,4120),(7,4122)] (.ret false))))) fun v8=>.ite 4124 v8 (.sel 4124 (.ret nO.1.wait)) (.sel 4124 (.ret r16.1.wait))) fun v9=>.cut (β:=Bool) 1 (.e [] (fun v10=>[(6,vB v10)]) [115,125,135] 198) (.aA 0 (.ite 4126 r1 (.ite 4128 (gY.1.wait == v9) (.ite 4130 (r16.1.move == (-2)) (.us [(2,4126),(8,4128),(15,4130)] (.ret ((gY.1.move == (-2)) == (nO.1.move == (-2))))) (.us [(2,4126),(8,4128),(15,4130)] (.ret ((gY.1.move == (-2)) == false)))) (.us [(2,4126),(8,4128)] (.ret false))) (.use 2 4126 (.f1 4200 (.g false) (rfl:false=false) (.use 8 4200 (.ret false)))))) fun v10=>.ret v10)) (.sel 4117 (.cut (β:=Bool) 1 (.e [] (fun v7=>[(6,vB v7)]) [0,1,8,53,66,74,82,115,125,135] 167) (.aA 0 (.ite 4118 r1 (.use 2 4118 (.ret ((gY.1.safe == false)&&((gY.1.move == (-2))&&((gY.1.wait == 0)&&true))))) (.use 2 4118 (.ret false)))) fun v7=>.ret v7))))))))))))))))))))))))))))))))))
theorem zaM (c:aq) (other:aq) (aj:Int) (res:Bool) (hd:kG c other aj=some res):aJ C0 184 [.agg (aq.row c),.agg (aq.row other),.int .i64 aj] (.bool res):=
 az.pure (iv:=fun res=>.bool res) (zaL c other aj) (by kernel_rfl) (az.aB hd (by kernel_rfl))
end Go.Proofs.YtlpmnmbebkdocaaGreatDoor
namespace Go.Proofs.YtlpmnmbebkdocaaGreatDoor
set_option linter.unusedSimpArgs false
set_option linter.unusedVariables false
set_option maxRecDepth 100000
theorem zha (a b:Int):∃ r,iter (σ:=Int×Int) (ρ:=Int) (fun s2=>(bif (s2.2 == 0) then some (.inr s2.1) else (ua (Je .u64 s2.1 s2.2) fun e2=>some (.inl (s2.2,e2))))) (a,b)=some r:=by
 have:=HV (f:=fun s2:Int×Int=>(bif (s2.2 == 0) then some (.inr s2.1) else (ua (Je .u64 s2.1 s2.2) fun e2=>some (.inl (s2.2,e2))))) (fun _=>True) (fun _:Int=>True) (fun s=>s.2.natAbs) (fun s _=>by
  by_cases h:s.2=0
  ·exact ⟨.inr s.1,by simp [h],trivial⟩
  ·refine ⟨.inl (s.2,s.1.tmod s.2),by simp [beq_eq_false_iff_ne.2 h,h,Je],trivial,?_⟩
   show (s.1.tmod s.2).natAbs < s.2.natAbs
   rw [Int.natAbs_tmod]
   exact Nat.mod_lt _ (by omega)) (a,b) trivial
 obtain ⟨r,h,_⟩:=this
 exact ⟨r,h⟩
theorem zaN (l:List Int) (hl:l.length < 1000):∃ r,kl l=some r:=by
 unfold kl
 obtain ⟨o,h1,h2⟩:=wy (n:=l.length) (s0:=(0:Int)) (f:=(fun i1 s1=>(ua (ua (ze l (i1:Int)) fun e1=>(ua (iter (σ:=Int×Int) (ρ:=Int) (fun s2=>(bif (s2.2 == 0) then some (.inr s2.1) else (ua (Je .u64 s2.1 s2.2) fun e2=>some (.inl (s2.2,e2))))) (s1,e1)) (fun (y1:Int)=>some y1))) fun (v1:Int)=>some (.inl v1)))) (fun _ _=>True) (fun _:Unit=>False) (by omega) trivial (fun i s hi _=>by
  obtain ⟨r,hr⟩:=zha s l[i]
  exact ⟨.inl r,by simp only [zH,ub hi,Option.bind_some,hr],trivial⟩)
 rw [h1]
 cases o with
 | inl s=>exact ⟨s,rfl⟩
 | inr r=>exact h2.elim
theorem Qb (n:Int):∃ r,wL n=some r:=by
 unfold wL;simp only [zx];exact ⟨_,rfl⟩
noncomputable def Em (r:aQ):Bool:=(js r).getD false
theorem XG (r:aQ):js r=some (Em r):=by
 have:∃ b,js r=some b:=by
  unfold js
  obtain ⟨a,ha⟩:=Qb r.num
  obtain ⟨b,hb⟩:=Qb r.den
  obtain ⟨g,hg⟩:=zaN [a,b] (by simp)
  simp only [ha,hb,hg,zx,bf]
  exact ⟨_,rfl⟩
 obtain ⟨b,hb⟩:=this
 unfold Em;rw [hb];rfl
def IN (x:Option (Int×Bool)):Bool:=(x.getD (0,false)).2
theorem zkz {x:Option (Int×Bool)} {r:Int×Bool} (h:x=some r):x=some (r.1,IN x):=by subst h;rfl
noncomputable def En (l:List bQ):Bool:=IN (jA l)
theorem Yz (t:List bQ) (i:Nat) (hi:i < t.length) (ht:t.length < 1000):∃ b,wM t i=some b:=by
 unfold wM
 have hs:W4 t 0 (i:Int)=some (t.take i):=by
  unfold W4;rw [if_pos ⟨by omega,by omega,by omega⟩];simp
 have hf:aE (σ:=Unit) (ρ:=Unit) ((t.take i).length:Int) (fun i1 s1=>(ua (ze (t.take i) (i1:Int)) fun e3=>(bif (e3.name.toList == t[i].name.toList) then some (.inr ()) else some (.inl ())))) ()=some (match (uo (t.take i).length).find? (fun j=>!(match (t.take i)[j]? with | some e=>!(e.name.toList == t[i].name.toList) | none=>true)) with | none=>.inl () | some j=>.inr ()):=by
  refine wz _ (fun _=>()) (by simp;omega) (fun j hj => ?_)
  simp only [zH,ub hj,bf]
  cases ((t.take i)[j].name.toList == t[i].name.toList)<;>rfl
 rw [zB (ub hi)]
 simp only [bf]
 rw [hs]
 simp only [bf]
 rw [hf]
 simp only [XG,zx,bf,Xp]
 split
 all_goals simp only [ut,uy,zx]
 ·by_cases hb:0≤t[i].base∧t[i].base < t.length
  ·obtain ⟨h1,h2⟩:=q6 hb.1 hb.2
   simp only [h2,bf,zx]
   exact ⟨_,rfl⟩
  ·by_cases h1:0≤t[i].base
   ·have:¬ t[i].base < t.length:=fun h=>hb ⟨h1,h⟩
    simp only [h1,this,decide_true,decide_false,cond_true,cy,bf,zx]
    exact ⟨_,rfl⟩
   ·simp only [h1,decide_false,cy,bf,zx]
    exact ⟨_,rfl⟩
 ·exact ⟨_,rfl⟩
theorem YA (l:List bQ) (hl:l.length < 1000):∃ k,jA l=some (k,En l):=by
 have:∃ r,jA l=some r:=by
  unfold jA
  obtain ⟨o,h1,h2⟩:=wy (n:=l.length) (s0:=()) (f:=(fun i1 s1=>(ua (wM l (i1:Int)) fun r1=>(bif r1 then some (.inl ()) else some (.inr (i1:Int)))))) (fun _ _=>True) (fun _:Int=>True) (by omega) trivial (fun i s hi _=>by
   obtain ⟨b,hb⟩:=Yz l i hi hl
   cases b with
   | true=>exact ⟨.inl (),by simp [hb],trivial⟩
   | false=>exact ⟨.inr i,by simp [hb],trivial⟩)
  rw [h1]
  cases o with
  | inl s=>exact ⟨_,rfl⟩
  | inr r=>exact ⟨_,rfl⟩
 obtain ⟨r,hr⟩:=this
 exact ⟨r.1,zkz hr⟩
def wG (nh:Nat) (r:Int):Bool:=decide (0≤r)&&decide (r < nh)
theorem XH (c:aq) (r:Int):jt c r=some (wG c.aF.length r):=by
 simp only [jt,zx,bf,wG,um]
noncomputable def Bl (r:aQ):Bool:=decide (0 < r.num)&&Em r
theorem YB (r:aQ):xA r=some (Bl r):=by
 simp only [xA,XG,zx,bf,Bl,um]
def Wn (r:aQ):Bool:=r.num == 0&&(r.den == 1&&true)
noncomputable def Kj (nh nu:Nat) (aT:Int) (a:aV):Bool:=
 bif wG nh a.bK then
  (bif a.kind == 1 then (a.bN == 0&&(a.to == -1||wG nh a.to))&&(bif a.unit == -1 then Wn a.dc else (decide (0≤a.unit)&&(decide (a.unit < nu)&&Bl a.dc)))
  else (a.kind == 2||a.kind == 3)&&(wG nh a.bN&&(decide (0≤a.to)&&(decide (a.to < aT)&&(a.unit == -1&&Wn a.dc)))))
 else a.kind == 1&&(a.bK == -1&&(a.bN == 0&&((a.to == -1||wG nh a.to)&&(a.unit == -1&&Wn a.dc))))
theorem ze8 (c:aq) (a:aV):vV c a=some (Kj c.aF.length c.bB.length c.aT a):=by
 simp only [vV,XH,YB,km,bf,zx,Kj,Wn]
 cases wG c.aF.length a.bK<;>cases (a.kind == 1)<;>cases (a.bN == 0)<;>cases (a.to == -1)<;>cases (wG c.aF.length a.to)<;>cases (a.unit == -1) <;>
  simp only [cond_true,cy,ul,uk,bf,uI,Bool.false_or,uj,ui,zx,um,Bool.cond_self,uG] <;>
  first | rfl | (cases (a.bK == -1)<;>rfl) | (cases (a.kind == 2)<;>rfl)
def yP (aT:Int) (hs:List Int):Bool:=hs.all fun h=>decide (0≤h)&&decide (h < aT)
theorem zmG (c:aq) (hp:c.aT < 4611686018427387904) (hl:c.aF.length < 4611686018427387904):Ye c=some (yP c.aT c.aF):=by
 unfold Ye
 have hin:∀ (i:Nat) (hi:i < c.aF.length),(ua (α:=Unit ⊕ Unit) (ua (aE (σ:=Unit) (ρ:=Unit) c.aT (fun i2 s2=>(ua (ze c.aF (i:Int)) fun e1=>(bif (e1 == (i2:Int)) then some (.inr ()) else some (.inl ())))) ()) (uq (fun (s2:Unit)=>some (.inr ())) (fun (y1:Unit)=>some (.inl ())))) (uq (fun (v1:Unit)=>some (.inl ())) (fun (y2:Unit)=>some (.inr ())))) =
   some (bif decide (0≤c.aF[i])&&decide (c.aF[i] < c.aT) then (.inl ():Unit ⊕ Unit) else .inr ()):=fun i hi=>by
  obtain ⟨o,h1,h2⟩:=HU (n:=c.aT) (s0:=()) (f:=(fun i2 s2=>(ua (ze c.aF (i:Int)) fun e1=>(bif (e1 == (i2:Int)) then some (.inr ()) else some (.inl ()))))) (fun k _=>∀ j:Nat,j < k→c.aF[i]≠(j:Int)) (fun _:Unit=>0≤c.aF[i]∧c.aF[i] < c.aT) hp (fun j hj=>by omega) (fun k s hk hI=>by
   simp only [zH,ub hi,bf]
   by_cases he:c.aF[i]=(k:Int)
   ·exact ⟨.inr (),by simp [he],by show 0≤c.aF[i]∧c.aF[i] < c.aT;omega⟩
   ·refine ⟨.inl (),by rw [beq_eq_false_iff_ne.2 he];rfl,fun j hj => ?_⟩
    rcases uB j k with h | h
    ·exact hI j h
    ·obtain rfl:j=k:=by omega
     exact he)
  rw [h1]
  cases o with
  | inl s=>
   have:¬ (0≤c.aF[i]∧c.aF[i] < c.aT):=fun h=>h2 c.aF[i].toNat (by omega) (by omega)
   have hb:(decide (0≤c.aF[i])&&decide (c.aF[i] < c.aT))=false:=by
    rw [uu];simp only [ne_eq,uc,decide_eq_true_eq];exact this
   rw [hb];rfl
  | inr r=>
   have hb:(decide (0≤c.aF[i])&&decide (c.aF[i] < c.aT))=true:=by
    simp only [uc,decide_eq_true_eq];exact h2
   rw [hb];rfl
 rw [wz (fun i=>match c.aF[i]? with | some h=>decide (0≤h)&&decide (h < c.aT) | none=>true) (fun _=>()) hl (fun i hi=>by
  rw [hin i hi];simp only [ub hi])]
 cases hf:(uo c.aF.length).find? (fun j=>!(match c.aF[j]? with | some h=>decide (0≤h)&&decide (h < c.aT) | none=>true)) with
 | none=>
  simp only [bf,ut]
  have:yP c.aT c.aF=true:=uh.2 fun h hh=>by
   obtain ⟨i,hi,rfl⟩:=ur hh
   have:=ki hf i hi
   simpa only [ub hi] using this
  rw [this]
 | some k=>
  simp only [bf,uy]
  obtain ⟨h1,h2,_⟩:=kj hf
  have:yP c.aT c.aF=false:=by
   rw [uu]
   intro h
   have:=uh.1 h c.aF[k] (un h1)
   simp only [ub h1] at h2
   rw [h2] at this;cases this
  rw [this]
noncomputable def XI (bh:Int) (off:List Int):Bool:=((ua (aE (σ:=Int) (ρ:=Unit) (off.length:Int) (fun i2 s2=>(ua (ze off (i2:Int)) fun e2=>(ua (bif decide (e2≤s2) then some true else some (decide (bh≤e2))) fun v2=>(bif v2 then some (.inr ()) else some (.inl e2))))) (-1)) (uq (fun (s2:Int)=>some true) (fun (y2:Unit)=>some false)))).getD false
theorem zoh (bh:Int) (off:List Int) (hl:off.length < 4611686018427387904):(ua (aE (σ:=Int) (ρ:=Unit) (off.length:Int) (fun i2 s2=>(ua (ze off (i2:Int)) fun e2=>(ua (bif decide (e2≤s2) then some true else some (decide (bh≤e2))) fun v2=>(bif v2 then some (.inr ()) else some (.inl e2))))) (-1)) (uq (fun (s2:Int)=>some true) (fun (y2:Unit)=>some false)))=some (XI bh off):=by
 obtain ⟨o,h1,h2⟩:=wy (n:=off.length) (s0:=(-1:Int)) (f:=(fun i2 s2=>(ua (ze off (i2:Int)) fun e2=>(ua (bif decide (e2≤s2) then some true else some (decide (bh≤e2))) fun v2=>(bif v2 then some (.inr ()) else some (.inl e2)))))) (fun _ _=>True) (fun _:Unit=>True) hl trivial (fun i s hi _=>by
  simp only [zH,ub hi,bf,zx]
  cases (bif decide (off[i]≤s) then true else decide (bh≤off[i])) with
  | true=>exact ⟨.inr (),rfl,trivial⟩
  | false=>exact ⟨.inl _,rfl,trivial⟩)
 unfold XI
 rw [h1]
 cases o<;>rfl
noncomputable def je (c:aq):Bool:=
 !(decide (c.aT < 1))&&(!(decide (c.bh < 1))&&(!((c.aF.length:Int) == 0)&&(yP c.aT c.aF&&(En c.bB&&(c.aC.all (Kj c.aF.length c.bB.length c.aT)&&XI c.bh c.off)))))
theorem yA {α:Type} {l:List α} {f:Nat→Unit→Option (Unit ⊕ Unit)} (p:α→Bool) (hl:l.length < 4611686018427387904) (h:∀ (i:Nat) (hi:i < l.length),f i ()=some (bif p l[i] then .inl () else .inr ())) :
  aE (l.length:Int) f ()=some (bif l.all p then .inl () else .inr ()):=by
 rw [wz (fun i=>match l[i]? with | some x=>p x | none=>true) (fun _=>()) hl (fun i hi=>by rw [h i hi];simp only [ub hi])]
 cases hf:(uo l.length).find? (fun j=>!(match l[j]? with | some x=>p x | none=>true)) with
 | none=>
  have:l.all p=true:=uh.2 fun x hx=>by
   obtain ⟨i,hi,rfl⟩:=ur hx
   have:=ki hf i hi
   simpa only [ub hi] using this
  rw [this];rfl
 | some k=>
  obtain ⟨h1,h2,_⟩:=kj hf
  have:l.all p=false:=by
   rw [uu]
   intro h
   have:=uh.1 h l[k] (un h1)
   simp only [ub h1] at h2
   rw [h2] at this;cases this
  rw [this];rfl
theorem ziO (c:aq) (hp:c.aT < 4611686018427387904) (hh:c.aF.length < 4611686018427387904) (hu:c.bB.length < 1000) (ha:c.aC.length < 1000) (ho:c.off.length < 4611686018427387904):Jt c=some (je c):=by
 unfold Jt
 obtain ⟨k,hk⟩:=YA c.bB hu
 have rL:=yA (l:=c.aC) (f:=(fun i1 s1=>(ua (ze c.aC (i1:Int)) fun e1=>(ua (vV c e1) fun r3=>(bif r3 then some (.inl ()) else some (.inr ())))))) (Kj c.aF.length c.bB.length c.aT) (by omega) (fun i hi=>by
  simp only [zH,ub hi,bf,ze8,zx])
 rw [zmG c hp hh,hk]
 simp only [bf]
 rw [rL]
 simp only [bf]
 rw [zoh c.bh c.off ho]
 simp only [bf,zx,je]
 cases decide (c.aT < 1)<;>cases decide (c.bh < 1)<;>cases ((c.aF.length:Int) == 0)<;>cases yP c.aT c.aF<;>cases En c.bB<;>cases c.aC.all (Kj c.aF.length c.bB.length c.aT) <;>
  simp only [cond_true,cy,ul,uk,bf,uj,ui,ut,uy]
def xV (aC:List aV) (a:Int):Bool:=match ze aC a with
 | some e=>e.kind == 1&&e.bK == -1
 | none=>false
theorem IP (c:aq) (a:Int):xq c a=some (xV c.aC a):=by
 unfold xq xV
 by_cases h:0≤a∧a < c.aC.length
 ·obtain ⟨h1,h2⟩:=q6 h.1 h.2
  simp only [h2,h.1,h.2,decide_true,cond_true,bf,zx,um]
 ·rw [ZC h]
  by_cases h1:0≤a
  ·have:¬ a < c.aC.length:=fun h2=>h ⟨h1,h2⟩
   simp only [h1,this,decide_true,decide_false,cond_true,cy,bf]
  ·simp only [h1,decide_false,cy,bf]
def vY (nh:Nat) (aC:List aV) (k:aK):Bool:=
 bif k.kind == 4 then k.bK == -1&&(k.need == 1&&(k.bq == 0 && !k.final))
 else (wG nh k.bK && !xV aC k.act)&&(bif k.kind == 1 then decide (1≤k.need)&&(decide (k.need≤9)&&(decide (0≤k.bq)&&decide (k.bq≤400)))
  else bif k.kind == 2 then k.need == 1&&k.bq == 0 else k.kind == 3&&(k.need == 1&&(k.bq == 0 && !k.final)))
theorem zdl (c:aq) (k:aK):yN c k=some (vY c.aF.length c.aC k):=by
 simp only [yN,XH,IP,bf,zx,vY]
 cases (k.kind == 4)<;>cases wG c.aF.length k.bK<;>cases xV c.aC k.act<;>cases (k.kind == 1)<;>cases (k.kind == 2)<;>cases (k.kind == 3) <;>
  simp only [cond_true,cy,ul,uk,bf,uj,ui,uG,um,zx]
def Qc (n:Nat) (i:Int) (s:cD):Bool := !(decide (s.clause < 0))&&(!(decide ((n:Int)≤s.clause))&&(!(s.clause == i)&&(!(decide (s.is < 1)) && !(decide (4 < s.is)))))
noncomputable def IQ (nh:Nat) (bB:List bQ) (k:aK):Bool:=
 (k.kind == 1||k.kind == 2)&&((match ze bB k.unit with | some u=>u.kind == 2 | none=>false)&&(Bl k.value&&wG nh k.to))
def wn (aC:List aV) (k:aK):Bool:=(k.aL == -1&&k.cX == -1)||(!(k.aL == k.cX)&&(xV aC k.aL&&xV aC k.cX))
noncomputable def jf (nh:Nat) (bB:List bQ) (aC:List aV) (n:Nat) (i:Int) (k:aK):Bool:=
 (!(decide (k.act < 0))&&(!(decide ((aC.length:Int)≤k.act))&&(!(decide (k.after < 1)) && !(decide (400 < k.after))))) &&
 ((vY nh aC k && !(decide (8 < (k.start.length:Int)))) &&
 (k.start.all (Qc n i) &&
 (wn aC k &&
 (bif k.unit == -1 then Wn k.value&&k.to == -1 else IQ nh bB k))))
theorem zaO (c:aq) (i:Nat) (k:aK) (hk:c.zw[i]?=some k) (hs:k.start.length < 4611686018427387904):wU c i=some (jf c.aF.length c.bB c.aC c.zw.length i k):=by
 unfold wU
 have hst:=yA (l:=k.start) (f:=(fun i1 s1=>(ua (ze k.start (i1:Int)) fun e2=>(ua (bif decide (e2.clause < 0) then some true else (bif decide ((c.zw.length:Int)≤e2.clause) then some true else (bif (e2.clause == (i:Int)) then some true else (bif decide (e2.is < 1) then some true else some (decide (4 < e2.is)))))) fun v3=>(bif v3 then some (.inr ()) else some (.inl ())))))) (Qc c.zw.length i) hs (fun j hj=>by
  simp only [zH,ub hj,bf,zx,Qc]
  cases decide (k.start[j].clause < 0)<;>cases decide ((c.zw.length:Int)≤k.start[j].clause)<;>cases (k.start[j].clause == (i:Int))<;>cases decide (k.start[j].is < 1)<;>cases decide (4 < k.start[j].is)<;>rfl)
 have hu:(bif decide (0≤k.unit) then (bif decide (k.unit < (c.bB.length:Int)) then (ua (ze c.bB k.unit) fun e3=>(bif (e3.kind == 2) then (ua (xA k.value) fun r5=>(bif r5 then (ua (jt c k.to) fun r6=>some r6) else some false)) else some false)) else some false) else some false) =
   some ((match ze c.bB k.unit with | some u=>u.kind == 2 | none=>false)&&(Bl k.value&&wG c.aF.length k.to)):=by
  by_cases h:0≤k.unit∧k.unit < c.bB.length
  ·obtain ⟨h1,h2⟩:=q6 h.1 h.2
   simp only [h2,h.1,h.2,decide_true,cond_true,bf,zx,um,YB,XH]
  ·rw [ZC h]
   by_cases h1:0≤k.unit
   ·have:¬ k.unit < c.bB.length:=fun h2=>h ⟨h1,h2⟩
    simp only [h1,this,decide_true,decide_false,cond_true,cy,ui]
   ·simp only [h1,decide_false,cy,ui]
 have hp:(ua (bif (k.aL == (-1)) then some (!(k.cX == (-1))) else some true) fun v4=>(bif v4 then (ua (bif (k.aL == k.cX) then some true else (ua (xq c k.aL) fun r2=>(bif r2 then (ua (xq c k.cX) fun r3=>some (!r3)) else some true))) fun v5=>(bif v5 then some (.inr ()) else some (.inl ()))) else some (.inl ()))) =
   some (bif wn c.aC k then (.inl ():Unit ⊕ Unit) else .inr ()):=by
  simp only [IP,wn,zx,bf]
  cases (k.aL == -1)<;>cases (k.cX == -1)<;>cases (k.aL == k.cX)<;>cases xV c.aC k.aL<;>cases xV c.aC k.cX<;>rfl
 rw [zB hk]
 simp only [bf]
 rw [hst]
 simp only [bf]
 rw [hp,hu]
 simp only [bf,zdl,km,zx,jf,IQ,Wn]
 cases decide (k.act < 0)<;>simp only [cond_true,cy,ul,uk,uj,ui,bf]
 cases decide ((c.aC.length:Int)≤k.act)<;>simp only [cond_true,cy,ul,uk,uj,ui,bf]
 cases decide (k.after < 1)<;>simp only [cond_true,cy,ul,uk,uj,ui,bf]
 cases decide (400 < k.after)<;>simp only [cond_true,cy,ul,uk,uj,ui,bf]
 cases vY c.aF.length c.aC k<;>simp only [cond_true,cy,ul,uk,uj,ui,bf]
 cases decide (8 < (k.start.length:Int))<;>simp only [cond_true,cy,ul,uk,uj,ui,bf]
 cases k.start.all (Qc c.zw.length i)<;>simp only [cond_true,cy,ul,uk,uj,ui,bf,ut,uy]
 cases wn c.aC k<;>simp only [cond_true,cy,uj,ui,ut,uy]
 cases (k.kind == 1)<;>cases (k.kind == 2)<;>simp only [cond_true,cy,um,uI,Bool.or_true,Bool.or_self,uj,ui]
def vZ (c:aq):Bool:=decide (12 < c.aT)||(decide (2000 < c.bh)||(decide (12 < (c.aF.length:Int))||(decide (20 < (c.bB.length:Int))||(decide (60 < (c.aC.length:Int))||decide (400 < (c.zw.length:Int))))))
noncomputable def mo (c:aq) (i:Nat):Bool:=match c.zw[i]? with
 | some k=>jf c.aF.length c.bB c.aC c.zw.length i k
 | none=>true
noncomputable def zF (c:aq):Int×Int:=
 bif vZ c then (3,-1) else bif je c then (match (uo c.zw.length).find? (fun j=>!mo c j) with | none=>(0,-1) | some j=>(1,(j:Int))) else (1,-1)
theorem Kk (c:aq) (ho:c.off.length < 4611686018427387904) (hs:∀ k∈c.zw,k.start.length < 4611686018427387904):jN c=some (zF c):=by
 unfold jN zF
 simp only [zx,Bool.cond_true_left,bf]
 show (bif vZ c then _ else _)=_
 cases hlim:vZ c with
 | true=>rfl
 | false=>
  simp only [vZ,uw,decide_eq_false_iff_not] at hlim
  obtain ⟨h1,h2,h3,h4,h5,h6⟩:=hlim
  simp only [cy,ziO c (by omega) (by omega) (by omega) (by omega) ho,bf]
  cases je c with
  | false=>rfl
  | true=>
   simp only [cond_true]
   rw [wz (fun i=>mo c i) (fun i=>(i:Int)) (by omega) (fun i hi=>by
    rw [zaO c i c.zw[i] (ub hi) (hs _ (un hi))]
    simp only [bf,mo,ub hi,zx])]
   cases (uo c.zw.length).find? (fun j=>!mo c j)<;>rfl
end Go.Proofs.YtlpmnmbebkdocaaGreatDoor
namespace Go.Proofs.YtlpmnmbebkdocaaGreatDoor
open Go.RowKit
set_option linter.unusedSimpArgs false
set_option linter.unusedVariables false
set_option maxRecDepth 100000
theorem l5.lt {α:Type} {n:Nat} {p:α→Prop} {l:List α} (h:l5 n p l) (hn:0 < n):l.length < 4611686018427387904:=by
 have h1:=h.1
 have h2:reachBytes≤140737488355328:=by decide +kernel
 have:=Nat.le_mul_of_pos_right l.length hn
 omega
theorem aq.Ok.valid {c:aq} (hc:c.Ok):jN c=some (zF c):=
 Kk c (hc.off.lt (by omega)) (fun k hk=>(hc.zw.2 k hk).start.lt (by omega))
inductive fP (c:aq):Int×Int→Prop where
 | rD (h:vZ c=true):fP c (3,-1)
 | frame (h:vZ c=false) (hf:je c=false):fP c (1,-1)
 | bad (h:vZ c=false) (hf:je c=true) (i:Nat) (hi:i < c.zw.length) (hb:mo c i=false) (hl:∀ j,j < i→mo c j=true):fP c (1,(i:Int))
 | ok (h:vZ c=false) (hf:je c=true) (ha:∀ j,j < c.zw.length→mo c j=true):fP c (0,-1)
theorem ziP (c:aq):fP c (zF c):=by
 unfold zF
 cases h:vZ c with
 | true=>exact .rD h
 | false=>
  simp only [cy]
  cases hf:je c with
  | false=>exact .frame h hf
  | true=>
   simp only [cond_true]
   cases hq:(uo c.zw.length).find? (fun j=>!mo c j) with
   | none=>exact .ok h hf (ki hq)
   | some j=>obtain ⟨h1,h2,h3⟩:=kj hq;exact .bad h hf j h1 h2 h3
theorem xr {c:aq} (h:(zF c).1=0):vZ c=false∧je c=true∧(∀ j,j < c.zw.length→mo c j=true)∧zF c=(0,-1):=by
 have hv:=ziP c
 generalize hr:zF c=r at h hv ⊢
 cases hv with
 | rD _=>simp at h
 | frame _ _=>simp at h
 | bad _ _ i _ _ _=>simp at h
 | ok a b d=>exact ⟨a,b,d,rfl⟩
theorem IR {c:aq} (h:vZ c=false) (hf:je c=true) (ha:∀ j,j < c.zw.length→mo c j=true):zF c=(0,-1):=by
 unfold zF;rw [h,hf,Rk ha];rfl
theorem zmH (x y:Int):QJ x y=some (decide (x < y)):=by
 simp [QJ,Ju]
theorem zmI {a b:Int} (h0:0≤a) (h1:a≤b) (h2:b < 4611686018427387904):Xf .u64 .u64 (IntKind.u64.wrap (IntKind.i64.wrap (a+b))) 1=some ((a+b) / 2):=by
 rw [qf (by omega) (by omega),N6 (by omega) (by omega)]
 unfold Xf
 rw [if_neg (by omega)]
 have:(2:Int) ^ (min (1:Int).toNat IntKind.u64.bits)=2:=by decide
 rw [this,Int.fdiv_eq_ediv_of_nonneg _ (by omega)]
def qW (l:List Int) (v:Int):Option Int:=if v∈l then some (l.idxOf v:Int) else none
theorem ziQ {l:List Int} (hn:l.Nodup) {i:Nat} (hi:i < l.length):l.idxOf l[i]=i:=by
 have h1:l.idxOf l[i] < l.length:=uA.2 (un hi)
 have h2:=uE h1
 exact (List.getElem?_inj h1 hn).1 (by rw [ub h1,ub hi,h2])
theorem Qd {l:List Int} {v p:Int} (h:qW l v=some p):0≤p∧l[p.toNat]?=some v:=by
 unfold qW at h
 split at h
 ·rename_i hm
  cases h
  have h1:l.idxOf v < l.length:=uA.2 hm
  exact ⟨by omega,by simp only [Int.toNat_natCast];rw [ub h1,uE h1]⟩
 ·cases h
theorem IU {l:List Int} (hn:l.Nodup) {i:Nat} {v:Int} (h:l[i]?=some v):qW l v=some (i:Int):=by
 obtain ⟨hi,rfl⟩:=ue.1 h
 unfold qW
 rw [if_pos (un hi),ziQ hn hi]
theorem QO (l:List Int) (v:Int) (hs:l.Pairwise (· < ·)) (hl:l.length < 4611686018427387904):∃ r:Int,jd l v=some (r,(qW l v).isSome)∧∀ p,qW l v=some p→r=p:=by
 have hp:=List.pairwise_iff_getElem.1 hs
 unfold jd
 have hit:ay (iter (σ:=Int×Int) (ρ:=Int) (fun s1=>(bif decide (s1.1 < s1.2) then (ua (Xf .u64 .u64 (IntKind.u64.wrap (IntKind.i64.wrap (s1.1+s1.2))) 1) fun e1=>(ua (ze l (IntKind.i64.wrap e1)) fun e2=>(ua (QJ e2 v) fun r1=>(bif r1 then some (.inl ((IntKind.i64.wrap ((IntKind.i64.wrap e1)+1)),s1.2)) else some (.inl (s1.1,(IntKind.i64.wrap e1))))))) else some (.inr s1.1))) (0,(l.length:Int)))
   (fun r=>0≤r∧r≤l.length∧(∀ (j:Nat) (hj:j < l.length),(j:Int) < r→l[j] < v)∧(∀ (j:Nat) (hj:j < l.length),r≤(j:Int)→v≤l[j])):=by
  refine ay.iter (fun s=>0≤s.1∧s.1≤s.2∧s.2≤l.length∧(∀ (j:Nat) (hj:j < l.length),(j:Int) < s.1→l[j] < v)∧(∀ (j:Nat) (hj:j < l.length),s.2≤(j:Int)→v≤l[j])) (fun s=>(s.2 - s.1).toNat) ⟨by simp,by simp,by simp,fun j hj h=>by simp only at h;omega,fun j hj h=>by simp only at h;omega⟩ ?_
  rintro ⟨lo,hi⟩ ⟨h1,h2,h3,h4,h5⟩
  simp only at h1 h2 h3 h4 h5 ⊢
  refine ay.ite (fun hb => ?_) (fun hb => ?_)
  ·have hlt:=of_decide_eq_true hb
   rw [zmI h1 h2 (by omega)]
   simp only [bf]
   have hm1:lo≤(lo+hi) / 2:=by omega
   have hm2:(lo+hi) / 2 < hi:=by omega
   generalize (lo+hi) / 2=m at hm1 hm2 ⊢
   rw [qf (by omega) (by omega)]
   obtain ⟨hi',e⟩:=q6 (l:=l) (n:=m) (by omega) (by omega)
   rw [e,qf (by omega) (by omega)]
   simp only [bf,zmH]
   refine ay.ite (fun mC => ?_) (fun mC => ?_)
   ·have hv:=of_decide_eq_true mC
    refine ay.some ⟨⟨by show 0≤m+1;omega,by show m+1≤hi;omega,h3,fun j hj s9 => ?_,h5⟩,by show (hi - (m+1)).toNat < (hi - lo).toNat;omega⟩
    have s9:(j:Int) < m+1:=s9
    rcases uB j m.toNat with h | h
    ·have:=hp j m.toNat hj hi' h;omega
    ·obtain rfl:j=m.toNat:=by omega
     exact hv
   ·have hv:¬ l[m.toNat] < v:=of_decide_eq_false mC
    refine ay.some ⟨⟨h1,by show lo≤m;omega,by show m≤(l.length:Int);omega,h4,fun j hj s9 => ?_⟩,by show (m - lo).toNat < (hi - lo).toNat;omega⟩
    have s9:m≤(j:Int):=s9
    rcases uB m.toNat j with h | h
    ·have:=hp m.toNat j hi' hj h;omega
    ·obtain rfl:j=m.toNat:=by omega
     omega
  ·have hlt:¬ lo < hi:=of_decide_eq_false hb
   have:lo=hi:=by omega
   subst this
   exact ay.some ⟨h1,h3,h4,h5⟩
 obtain ⟨r,hr,gG,ct,cz,eO⟩:=hit
 rw [hr]
 simp only [bf]
 by_cases hlt:r < (l.length:Int)
 ·obtain ⟨hi',e⟩:=q6 (l:=l) (n:=r) gG hlt
  simp only [hlt,decide_true,cond_true,e,bf]
  by_cases hv:l[r.toNat]=v
  ·have hpos:qW l v=some (r.toNat:Int):=IU (Rp hs) (by rw [ub hi',hv])
   refine ⟨r,by simp [hv,hpos],fun p hp => ?_⟩
   rw [hpos] at hp;cases hp;omega
  ·have hn:qW l v=none:=by
    unfold qW
    rw [if_neg]
    intro hm
    obtain ⟨j,hj,e2⟩:=ur hm
    rcases Nat.lt_trichotomy j r.toNat with h | h | h
    ·have:=cz j hj (by omega);omega
    ·subst h;exact hv e2
    ·have h6:=hp r.toNat j hi' hj h
     have h7:=eO r.toNat hi' (by omega)
     omega
   refine ⟨r,?_,fun p hp=>by rw [hn] at hp;cases hp⟩
   rw [hn]
   have:(l[r.toNat] == v)=false:=beq_eq_false_iff_ne.2 hv
   simp [this,Zi]
 ·have hn:qW l v=none:=by
   unfold qW
   rw [if_neg]
   intro hm
   obtain ⟨j,hj,e2⟩:=ur hm
   have:=cz j hj (by omega);omega
  refine ⟨r,?_,fun p hp=>by rw [hn] at hp;cases hp⟩
  rw [hn]
  simp [hlt]
theorem zkA {bh:Int} {off:List Int} (hl:off.length < 4611686018427387904) (h:XI bh off=true):(off.length:Int)≤bh∨off.length=0:=by
 have e:XI bh off=wF bh (-1) off:=by
  unfold XI
  rw [DY bh off hl (-1)]
  cases wF bh (-1) off<;>rfl
 rw [e] at h
 rcases ZD h with h1 | h1<;>omega
structure Small (c:aq):Prop where
 aT:1≤c.aT∧c.aT≤12
 bh:1≤c.bh∧c.bh≤2000
 aF:c.aF.length≤12
 bB:c.bB.length≤20
 aC:c.aC.length≤60
 zw:c.zw.length≤400
 off:c.off.length≤2000
 start:∀ k∈c.zw,k.start.length≤8
 cond:∀ (i:Nat) (k:aK),c.zw[i]?=some k→∀ s∈k.start,0≤s.clause∧s.clause < c.zw.length∧s.clause≠(i:Int)
theorem qy {c:aq} (ho:c.off.length < 4611686018427387904) (h:(zF c).1=0):Small c:=by
 obtain ⟨h1,h2,h3,_⟩:=xr h
 simp only [vZ,uw,decide_eq_false_iff_not] at h1
 obtain ⟨a1,a2,a3,a4,a5,a6⟩:=h1
 simp only [je,uc,ug,decide_eq_false_iff_not] at h2
 obtain ⟨b1,b2,b3,b4,b5,b6,b7⟩:=h2
 have dZ:∀ (i:Nat) (k:aK),c.zw[i]?=some k→jf c.aF.length c.bB c.aC c.zw.length i k=true:=fun i k hk=>by
  have:=h3 i (ue.1 hk).1
  simp only [mo,hk] at this
  exact this
 refine ⟨⟨by omega,by omega⟩,⟨by omega,by omega⟩,by omega,by omega,by omega,by omega,?_,fun k hk => ?_,fun i k hk s hs => ?_⟩
 ·rcases zkA ho b7 with h | h<;>omega
 ·obtain ⟨i,hi,e⟩:=ur hk
  have:=dZ i k (by rw [←e];exact ub hi)
  simp only [jf,uc,ug,decide_eq_false_iff_not] at this
  omega
 ·have:=dZ i k hk
  simp only [jf,uc] at this
  have:=uh.1 this.2.2.1 s hs
  simp only [Qc,uc,ug,decide_eq_false_iff_not,beq_eq_false_iff_ne] at this
  exact ⟨by omega,by omega,this.2.2.1⟩
theorem jv {α:Type} {bI:Nat} {l:List α} (h:l.length*bI≤140737488355328):zQ bI l=some l:=by unfold zQ;rw [if_pos h]
theorem Qe {f:Nat→Unit→Option (Unit ⊕ Unit)} {n:Nat} (p:Nat→Bool) (hn:n < 4611686018427387904) (h:∀ j,j < n→f j ()=some (bif p j then .inl () else .inr ())) :
  aE (n:Int) f ()=some (bif (uo n).all p then .inl () else .inr ()):=by
 rw [wz p (fun _=>()) hn h]
 cases hf:(uo n).find? (fun j=>!p j) with
 | none=>
  have:(uo n).all p=true:=uh.2 fun j hj=>ki hf j (uz.1 hj)
  rw [this];rfl
 | some k=>
  obtain ⟨h1,h2,_⟩:=kj hf
  have:(uo n).all p=false:=by
   rw [uu]
   intro h
   have:=uh.1 h k (uz.2 h1)
   rw [h2] at this;cases this
  rw [this];rfl
theorem wO {α ρ:Type} {f:Nat→List α→Option (List α ⊕ ρ)} (s0:List α) (F:Nat→α→α) (hl:s0.length < 4611686018427387904)
  (h:∀ (i:Nat) (m:α) (s:List α),s0[i]?=some m→s.length=s0.length→s[i]?=some m→f i s=some (.inl (s.set i (F i m)))) :
  aE (s0.length:Int) f s0=some (.inl (s0.mapIdx F)):=by
 obtain ⟨o,h1,h2⟩:=wy (n:=s0.length) (s0:=s0) (f:=f) (fun i s=>s.length=s0.length∧∀ j,s[j]?=if j < i then (s0[j]?).map (F j) else s0[j]?) (fun _=>False) hl ⟨rfl,fun j=>by simp⟩ (fun i s hi ⟨a,b⟩=>by
  have hs:s[i]?=some s0[i]:=by rw [b i,if_neg (by omega),ub hi]
  refine ⟨_,h i s0[i] s (ub hi) a hs,by simpa using a,fun j => ?_⟩
  rw [uv]
  by_cases hij:i=j
  ·subst hij
   rw [if_pos rfl,if_pos (by omega),if_pos (by omega),ub hi];rfl
  ·rw [if_neg hij,b j]
   by_cases h3:j < i
   ·rw [if_pos h3,if_pos (by omega)]
   ·rw [if_neg h3,if_neg (by omega)])
 rw [h1]
 cases o with
 | inr r=>exact h2.elim
 | inl s=>
  obtain ⟨a,b⟩:=h2
  congr 2
  refine List.ext_getElem? fun j => ?_
  rw [b j,uD]
  by_cases hj:j < s0.length
  ·rw [if_pos hj]
  ·rw [if_neg hj,List.getElem?_eq_none (by omega)];rfl
def jF (aO:List ak) (s:cD):Bool:=match ze aO s.clause with
 | some m=>bif s.is == 1 then !(m.aR == 0) else bif s.is == 2 then m.aR == 3 else bif s.is == 3 then m.aR == 4 else bif s.is == 4 then m.aR == 5 else false
 | none=>false
def qK (ks:List aK) (aO:List ak) (i:Nat):Bool:=match ks[i]?,aO[i]? with
 | some k,some m=>(m.aR == 0 && !k.br)&&k.start.all (jF aO)
 | _,_=>false
def kH (aT:Int) (k:aK) (m:ak):Bool:=
 !(k.br||(decide (m.left < 1)||(m.bR&&k.aL == -1)))&&(((m.got == 0)||(k.kind == 1 && !(decide (m.got < 0)||decide (k.need≤m.got)))) &&
  (bif k.kind == 4 then m.bC == -1 else decide (0≤m.bC)&&decide (m.bC < aT)))
def Co (m:ak):Bool:=(m.aR == 0)&&((m.left == 0)&&((m.got == 0)&&((m.bC == (-1))&&((m.bR == false)&&true))))
def Cp (aT:Int) (m:ak):Bool:=(m.left == 0)&&(decide (0≤m.got)&&(decide (m.got≤9)&&(decide ((-1)≤m.bC)&&(decide (m.bC < aT) && !m.bR))))
def q9 (aT:Int) (k:aK) (m:ak):Bool:=
 bif m.aR == 0 then !k.br&&Co m else bif m.aR == 1 then decide (m.left≤k.after)&&kH aT k m
 else bif m.aR == 2 then k.kind == 1&&(decide (m.left≤k.bq)&&kH aT k m) else (m.aR == 3||(m.aR == 4||m.aR == 5))&&Cp aT m
theorem zfa (c:aq) (k:aK) (m:ak):vW c k m=some (kH c.aT k m):=by
 simp only [vW,kH,zx,bf]
 cases k.br<;>cases decide (m.left < 1)<;>cases m.bR<;>cases (k.aL == -1)<;>cases (m.got == 0)<;>cases (k.kind == 1)<;>cases decide (m.got < 0)<;>cases decide (k.need≤m.got)<;>cases (k.kind == 4)<;>cases decide (0≤m.bC)<;>rfl
theorem zdm (c:aq) (i:Nat) (k:aK) (m:ak) (hk:c.zw[i]?=some k):yO c i m=some (q9 c.aT k m):=by
 unfold yO
 rw [zB hk]
 simp only [bf,zfa,zx,q9,Co,Cp]
 cases (m.aR == 0)
 ·cases (m.aR == 1)
  ·cases (m.aR == 2)
   ·cases (m.aR == 3)<;>cases (m.aR == 4)<;>cases (m.aR == 5)<;>cases (m.left == 0)<;>cases decide (0≤m.got)<;>cases decide (m.got≤9)<;>cases decide ((-1)≤m.bC)<;>cases decide (m.bC < c.aT)<;>rfl
   ·cases (k.kind == 1)<;>cases decide (m.left≤k.bq)<;>rfl
  ·cases decide (m.left≤k.after)<;>rfl
 ·cases k.br<;>rfl
theorem IW (c:aq) (s:aH) (i:Nat) (k:aK) (m:ak) (hk:c.zw[i]?=some k) (hm:s.aO[i]?=some m) (hst:k.start.length < 4611686018427387904)
  (hc:∀ x∈k.start,0≤x.clause∧x.clause < s.aO.length):yx c s i=some (qK c.zw s.aO i):=by
 unfold yx qK
 rw [zB hm,zB hk,hk,hm]
 simp only [bf]
 rw [yA (l:=k.start) (jF s.aO) hst (fun j hj=>by
  obtain ⟨h0,h1⟩:=hc _ (un hj)
  obtain ⟨h2,h3⟩:=q6 h0 h1
  simp only [zH,ub hj,bf,h3,jF,zx])]
 simp only [bf,zx]
 cases (m.aR == 0)<;>cases k.br<;>cases k.start.all (jF s.aO)<;>rfl
def Wo (aC:List aV) (used:List Bool) (i:Nat):Bool:=match aC[i]?,used[i]? with
 | some a,some u=>!(u&&a.kind == 1)
 | _,_=>false
def ZG (c:aq) (aO:List ak) (i:Nat):Bool:=match c.zw[i]?,aO[i]? with
 | some k,some m=>q9 c.aT k m && !qK c.zw aO i
 | _,_=>false
noncomputable def td (c:aq) (s:aH):Bool:=
 ((zF c).1 == 0)&&((!(decide (s.day < 0))&&(!(decide (c.bh < s.day))&&((s.aF.length:Int) == c.aF.length&&((s.used.length:Int) == c.aC.length&&(s.aO.length:Int) == c.zw.length)))) &&
  (yP c.aT s.aF&&((uo s.used.length).all (Wo c.aC s.used)&&(uo s.aO.length).all (ZG c s.aO))))
theorem Jw (c:aq) (s:aH) (hc:c.Ok):j9 c s=some (td c s):=by
 unfold j9 td
 rw [hc.valid]
 simp only [bf]
 cases hv:((zF c).1 == 0) with
 | false=>rfl
 | true=>
  have sm:=qy (hc.off.lt (by omega)) (beq_iff_eq.1 hv)
  simp only [cond_true,zx,bf,uj]
  cases h1:decide (s.day < 0)<;>cases h2:decide (c.bh < s.day)<;>cases h3:((s.aF.length:Int) == c.aF.length)<;>cases h4:((s.used.length:Int) == c.aC.length)<;>cases h5:((s.aO.length:Int) == c.zw.length)<;>try rfl
  simp only [cond_true,cy,ul,uk,uj]
  have e3:=beq_iff_eq.1 h3
  have e4:=beq_iff_eq.1 h4
  have e5:=beq_iff_eq.1 h5
  have:=sm.aF
  have:=sm.aC
  have:=sm.zw
  rw [yA (l:=s.aF) (fun h=>decide (0≤h)&&decide (h < c.aT)) (by omega) (fun j hj=>by
   simp only [zH,ub hj,bf,zx]
   generalize s.aF[j]=h
   by_cases a:h < 0
   ·have b:¬ 0≤h:=by omega
    simp [a,b]
   ·have b:0≤h:=by omega
    by_cases d:h < c.aT
    ·have d':¬ c.aT≤h:=by omega
     simp [a,b,d,d']
    ·have d':c.aT≤h:=by omega
     simp [a,b,d,d'])]
  rw [Qe (n:=s.used.length) (Wo c.aC s.used) (by omega) (fun j hj=>by
   have hj':j < c.aC.length:=by omega
   simp only [zH,ub hj,ub hj',bf,zx,Wo]
   cases s.used[j]<;>cases (c.aC[j].kind == 1)<;>rfl)]
  rw [Qe (n:=s.aO.length) (ZG c s.aO) (by omega) (fun j hj=>by
   have hj':j < c.zw.length:=by omega
   have hk:=ub hj'
   have hm:=ub hj
   simp only [zH,hm,bf]
   rw [zdm c j _ _ hk,IW c s j _ _ hk hm (by have:=sm.start _ (un hj');omega) (fun x hx=>by have:=sm.cond j _ hk x hx;omega)]
   simp only [bf,ZG,hk,hm]
   cases q9 c.aT c.zw[j] s.aO[j]<;>cases qK c.zw s.aO j<;>rfl)]
  simp only [yP,bf]
  cases s.aF.all (fun h=>decide (0≤h)&&decide (h < c.aT))<;>cases (uo s.used.length).all (Wo c.aC s.used)<;>cases (uo s.aO.length).all (ZG c s.aO)<;>rfl
structure VS (c:aq) (s:aH):Prop where
 cv:(zF c).1=0
 day:0≤s.day∧s.day≤c.bh
 lh:s.aF.length=c.aF.length
 lu:s.used.length=c.aC.length
 lm:s.aO.length=c.zw.length
 hold:∀ h∈s.aF,0≤h∧h < c.aT
 used:∀ (i:Nat) (a:aV),c.aC[i]?=some a→s.used[i]?=some true→a.kind≠1
 tY:∀ (i:Nat) (k:aK) (m:ak),c.zw[i]?=some k→s.aO[i]?=some m→q9 c.aT k m=true
 Bn:∀ i,i < c.zw.length→qK c.zw s.aO i=false
theorem zoi {c:aq} {s:aH} (h:td c s=true):VS c s:=by
 simp only [td,uc,ug,decide_eq_false_iff_not,beq_iff_eq,uh,uz,yP,decide_eq_true_eq] at h
 obtain ⟨h1,⟨h2,h3,h4,h5,h6⟩,h7,h8,h9⟩:=h
 refine ⟨h1,⟨by omega,by omega⟩,by omega,by omega,by omega,fun x hx=>h7 x hx,fun i a ha hu hk => ?_,fun i k m hk hm => ?_,fun i hi => ?_⟩
 ·have:=h8 i (by have:=(ue.1 hu).1;exact this)
  simp only [Wo,ha,hu,hk] at this
  cases this
 ·have:=h9 i (ue.1 hm).1
  simp only [ZG,hk,hm,uc] at this
  exact this.1
 ·have hi':i < s.aO.length:=by omega
  have:=h9 i hi'
  simp only [ZG,ub hi,ub hi',uc,ug] at this
  exact this.2
theorem YC {c:aq} {s:aH} (h:VS c s):td c s=true:=by
 have hd:=h.day
 have h4:=h.lh
 have h5:=h.lu
 have h6:=h.lm
 simp only [td,uc,ug,decide_eq_false_iff_not,beq_iff_eq,uh,uz,yP,decide_eq_true_eq]
 refine ⟨h.cv,⟨by omega,by omega,by omega,by omega,by omega⟩,fun x hx=>h.hold x hx,fun i hi => ?_,fun i hi => ?_⟩
 ·have hi':i < c.aC.length:=by omega
  have ha:=ub hi'
  have hu:=ub hi
  simp only [Wo,ha,hu]
  cases hq:s.used[i] with
  | false=>rfl
  | true=>
   have:=h.used i _ ha (by rw [hu,hq])
   simp [this]
 ·have hi':i < c.zw.length:=by omega
  have ha:=ub hi'
  have hu:=ub hi
  simp only [ZG,ha,hu,uc,ug]
  exact ⟨h.tY i _ _ ha hu,h.Bn i hi'⟩
structure KV (c:aq) (i:Nat) (k:aK):Prop where
 act:0≤k.act∧k.act < c.aC.length
 after:1≤k.after∧k.after≤400
 kind:k.kind=1∨k.kind=2∨k.kind=3∨k.kind=4
 bK:k.kind=4∨(0≤k.bK∧k.bK < c.aF.length)
 need:1≤k.need∧k.need≤9
 bq:0≤k.bq∧k.bq≤400
 start:k.start.length≤8
 cond:∀ s∈k.start,0≤s.clause∧s.clause < c.zw.length
 aL:(k.aL = -1∧k.cX = -1)∨(xV c.aC k.aL=true∧xV c.aC k.cX=true)
theorem xe {c:aq} (ho:c.off.length < 4611686018427387904) (h:(zF c).1=0) {i:Nat} {k:aK} (hk:c.zw[i]?=some k):KV c i k:=by
 have sm:=qy ho h
 obtain ⟨_,_,h3,_⟩:=xr h
 have:=h3 i (ue.1 hk).1
 simp only [mo,hk,jf,uc,ug,decide_eq_false_iff_not] at this
 obtain ⟨⟨a1,a2,a3,a4⟩,⟨a5,a6⟩,a7,a8,_⟩:=this
 have tZ:(k.kind=1∨k.kind=2∨k.kind=3∨k.kind=4)∧(k.kind=4∨(0≤k.bK∧k.bK < c.aF.length))∧(1≤k.need∧k.need≤9)∧(0≤k.bq∧k.bq≤400):=by
  unfold vY at a5
  cases h4:(k.kind == 4) with
  | true=>
   rw [h4] at a5
   simp only [cond_true,uc,beq_iff_eq] at a5
   have:=beq_iff_eq.1 h4
   omega
  | false=>
   rw [h4] at a5
   simp only [cy,uc,wG,decide_eq_true_eq] at a5
   obtain ⟨⟨b1,_⟩,b2⟩:=a5
   cases h1:(k.kind == 1) with
   | true=>
    rw [h1] at b2
    simp only [cond_true,uc,decide_eq_true_eq] at b2
    have:=beq_iff_eq.1 h1
    omega
   | false=>
    rw [h1] at b2
    cases h2:(k.kind == 2) with
    | true=>
     rw [h2] at b2
     simp only [cond_true,cy,uc,beq_iff_eq] at b2
     have:=beq_iff_eq.1 h2
     omega
    | false=>
     rw [h2] at b2
     simp only [cy,uc,beq_iff_eq] at b2
     omega
 refine ⟨⟨by omega,by omega⟩,⟨by omega,by omega⟩,tZ.1,tZ.2.1,tZ.2.2.1,tZ.2.2.2,by omega,fun s hs => ?_,?_⟩
 ·have:=sm.cond i k hk s hs;omega
 ·simp only [wn,ux,uc,beq_iff_eq,ug] at a8
  rcases a8 with h | h
  ·exact .inl h
  ·exact .inr h.2
structure Eo (c:aq) (a:aV):Prop where
 bK:(a.bK = -1∧a.kind=1)∨(0≤a.bK∧a.bK < c.aF.length)
 kind:a.kind=1∨((a.kind=2∨a.kind=3)∧(0≤a.bN∧a.bN < c.aF.length)∧(0≤a.to∧a.to < c.aT))
theorem Ep {c:aq} (h:(zF c).1=0) {i:Nat} {a:aV} (ha:c.aC[i]?=some a):Eo c a:=by
 obtain ⟨_,h2,_,_⟩:=xr h
 simp only [je,uc,ug,decide_eq_false_iff_not] at h2
 obtain ⟨_,_,_,_,_,b6,_⟩:=h2
 have:=uh.1 b6 a (List.mem_of_getElem? ha)
 unfold Kj at this
 cases hr:wG c.aF.length a.bK with
 | true=>
  rw [hr] at this
  simp only [wG,uc,decide_eq_true_eq] at hr
  cases h1:(a.kind == 1) with
  | true=>exact ⟨.inr hr,.inl (beq_iff_eq.1 h1)⟩
  | false=>
   rw [h1] at this
   simp only [cond_true,cy,uc,ux,beq_iff_eq,wG,decide_eq_true_eq] at this
   exact ⟨.inr hr,.inr ⟨this.1,this.2.1,by omega⟩⟩
 | false=>
  rw [hr] at this
  simp only [cy,uc,beq_iff_eq] at this
  exact ⟨.inl ⟨this.2.1,this.1⟩,.inl this.1⟩
theorem IX {c:aq} (h:(zF c).1=0):∀ x∈c.aF,0≤x∧x < c.aT:=by
 obtain ⟨_,h2,_,_⟩:=xr h
 simp only [je,uc] at h2
 have:=h2.2.2.2.1
 simp only [yP,uh,uc,decide_eq_true_eq] at this
 exact this
theorem zmJ {c:aq} (ho:c.off.length < 4611686018427387904) (h:(zF c).1=0):c.off.Pairwise (· < ·):=by
 obtain ⟨_,h2,_,_⟩:=xr h
 simp only [je,uc] at h2
 have b7:=h2.2.2.2.2.2.2
 have e:XI c.bh c.off=wF c.bh (-1) c.off:=by
  unfold XI
  rw [DY c.bh c.off ho (-1)]
  cases wF c.bh (-1) c.off<;>rfl
 rw [e] at b7
 exact (wh b7).2
def lf (c:aq) (ms:List ak):Prop:=ms.length=c.zw.length∧∀ (i:Nat) (k:aK) (m:ak),c.zw[i]?=some k→ms[i]?=some m→q9 c.aT k m=true
def NR (c:aq) (ms:List ak):Prop:=∀ i,i < c.zw.length→qK c.zw ms i=false
def wB (k:aK) (b:Int):ak:={aR:=1,left:=k.after,got:=0,bC:=b,bR:=false}
def Cq (c:aq) (ms ms':List ak):Prop:=∀ (i:Nat) (m m':ak),ms[i]?=some m→ms'[i]?=some m'→m'=m∨(m.aR=0∧∃ k b,c.zw[i]?=some k∧m'=wB k b)
def yQ (ms:List ak):Nat:=ms.countP (fun m=>m.aR == 0)
def Qf (hs:List Int) (k:aK):Int:=bif k.kind == 4 then -1 else hs[k.bK.toNat]?.getD 0
def eK (ks:List aK) (ms:List ak):Nat→Nat→Prop
 | 0,_=>False
 | n+1,i=>∃ k m,ks[i]?=some k∧ms[i]?=some m∧m.aR=0∧k.br=false∧∀ x∈k.start,jF ms x=true∨(x.is=1∧eK ks ms n x.clause.toNat)
def nV (ks:List aK) (ms:List ak) (i:Nat):Prop:=∃ n,eK ks ms n i
def Bp (c:aq) (hs:List Int) (ms r:List ak):Prop:=∀ (i:Nat) (k:aK) (m:ak),c.zw[i]?=some k→ms[i]?=some m→r[i]?=some m∨(nV c.zw ms i∧r[i]?=some (wB k (Qf hs k)))
def IY (c:aq) (hs:List Int) (ms r:List ak):Prop:=∀ (i:Nat) (k:aK) (m:ak),c.zw[i]?=some k→ms[i]?=some m→(¬ nV c.zw ms i∧r[i]?=some m)∨(nV c.zw ms i∧r[i]?=some (wB k (Qf hs k)))
theorem IZ {ks:List aK} {ms:List ak}:∀ (n i:Nat),eK ks ms n i→eK ks ms (n+1) i
 | 0,i,h=>h.elim
 | n+1,i,⟨k,m,h1,h2,h3,h4,h5⟩=>⟨k,m,h1,h2,h3,h4,fun x hx=>(h5 x hx).imp id fun h=>⟨h.1,IZ n _ h.2⟩⟩
theorem Kl {ks:List aK} {ms:List ak} {n i:Nat} (h:eK ks ms n i):∀ d,eK ks ms (n+d) i
 | 0=>h
 | d+1=>IZ _ _ (Kl h d)
theorem I0 {ks:List aK} {ms:List ak}:∀ (l:List cD),(∀ x∈l,jF ms x=true∨(x.is=1∧nV ks ms x.clause.toNat))→∃ n,∀ x∈l,jF ms x=true∨(x.is=1∧eK ks ms n x.clause.toNat)
 | [],_=>⟨0,fun x hx=>by cases hx⟩
 | y::l,h=>by
  obtain ⟨n,hn⟩:=I0 l (fun x hx=>h x (List.mem_cons_of_mem _ hx))
  rcases h y (List.mem_cons_self ..) with h1 | ⟨h1,d,h2⟩
  ·refine ⟨n,fun x hx => ?_⟩
   rcases uH.1 hx with rfl | hx
   ·exact .inl h1
   ·exact hn x hx
  ·refine ⟨n+d,fun x hx => ?_⟩
   rcases uH.1 hx with rfl | hx
   ·exact .inr ⟨h1,by rw [Nat.add_comm];exact Kl h2 n⟩
   ·exact (hn x hx).imp id fun h=>⟨h.1,Kl h.2 d⟩
theorem YD {ms:List ak} {x:cD} {m:ak} (hx:ze ms x.clause=some m) (h1:m.aR=1):jF ms x=(x.is == 1):=by
 simp only [jF,hx,h1]
 cases (x.is == 1)<;>cases (x.is == 2)<;>cases (x.is == 3)<;>cases (x.is == 4)<;>rfl
theorem zhc {ms:List ak} {x:cD} {m:ak} (hx:ze ms x.clause=some m) (h1:m.aR=0):jF ms x=false:=by
 simp only [jF,hx,h1]
 cases (x.is == 1)<;>cases (x.is == 2)<;>cases (x.is == 3)<;>cases (x.is == 4)<;>rfl
structure cx (c:aq) (hs:List Int) (ms r:List ak):Prop where
 ok:lf c r
 nr:NR c r
 rel:Cq c ms r
 same:NR c ms→r=ms
 Aa:IY c hs ms r
theorem zfc {ks:List aK} {ms:List ak} {i:Nat} {m:ak} (h:nV ks ms i) (hm:ms[i]?=some m):m.aR=0:=by
 obtain ⟨n,h⟩:=h
 cases n with
 | zero=>exact h.elim
 | succ n=>obtain ⟨k,m',_,h2,h3,_⟩:=h;rw [hm] at h2;cases h2;exact h3
theorem zhd {c:aq} {hs:List Int} {ms r:List ak} (hl:ms.length=c.zw.length) (hr:r.length=c.zw.length) (hI:Bp c hs ms r) {i:Nat} {k:aK} (hk:c.zw[i]?=some k) (hcd:∀ x∈k.start,0≤x.clause∧x.clause < c.zw.length) (hy:qK c.zw r i=true):nV c.zw ms i:=by
 have hi:=(ue.1 hk).1
 have hm:=ub (show i < ms.length by omega)
 have hmr:=ub (show i < r.length by omega)
 simp only [qK,hk,hmr,uc,ug,beq_iff_eq,uh] at hy
 obtain ⟨⟨h0,hw⟩,hc⟩:=hy
 rcases hI i k _ hk hm with h | ⟨h,_⟩
 ·rw [hmr] at h
  have e:=Option.some.inj h
  obtain ⟨n,hn⟩:=I0 (ks:=c.zw) (ms:=ms) k.start (fun x hx=>by
   obtain ⟨x0,x1⟩:=hcd x hx
   have hxi:=q6 (l:=ms) (n:=x.clause) x0 (by omega)
   obtain ⟨a1,a2⟩:=hxi
   obtain ⟨b1,b2⟩:=q6 (l:=r) (n:=x.clause) x0 (by omega)
   have Cr:=ub (show x.clause.toNat < c.zw.length by omega)
   have hx':=hc x hx
   rcases hI x.clause.toNat _ _ Cr (ub a1) with h2 | ⟨h2,h3⟩
   ·left
    rw [ub b1] at h2
    simp only [jF,b2,Option.some.inj h2] at hx'
    simp only [jF,a2];exact hx'
   ·right
    rw [ub b1] at h3
    rw [YD b2 (by rw [Option.some.inj h3];rfl)] at hx'
    exact ⟨beq_iff_eq.1 hx',h2⟩)
  exact ⟨n+1,k,_,hk,hm,by rw [←e];exact h0,hw,hn⟩
 ·exact h
theorem zkB {c:aq} {hs:List Int} {ms r:List ak} (hl:ms.length=c.zw.length) (hr:r.length=c.zw.length) (hI:Bp c hs ms r) (hn:NR c r) (hcd:∀ (i:Nat) (k:aK),c.zw[i]?=some k→∀ x∈k.start,0≤x.clause∧x.clause < c.zw.length):IY c hs ms r:=by
 have key:∀ (n i:Nat) (k:aK),eK c.zw ms n i→c.zw[i]?=some k→r[i]?=some (wB k (Qf hs k)):=by
  intro n
  induction n with
  | zero=>intro i k h;exact h.elim
  | succ n ih=>
   intro i k h hk
   have hi:=(ue.1 hk).1
   obtain ⟨k',m,h1,h2,h3,h4,h5⟩:=h
   rw [hk] at h1
   cases h1
   rcases hI i k m hk h2 with h | ⟨_,h⟩
   ·exfalso
    have:=hn i hi
    have hy:qK c.zw r i=true:=by
     simp only [qK,hk,h,h3,h4,beq_self_eq_true,uk,Bool.and_true,uj,uh]
     intro x hx
     obtain ⟨x0,x1⟩:=hcd i k hk x hx
     obtain ⟨a1,a2⟩:=q6 (l:=ms) (n:=x.clause) x0 (by omega)
     obtain ⟨b1,b2⟩:=q6 (l:=r) (n:=x.clause) x0 (by omega)
     have Cr:=ub (show x.clause.toNat < c.zw.length by omega)
     rcases h5 x hx with h6 | ⟨h6,h7⟩
     ·rcases hI x.clause.toNat _ _ Cr (ub a1) with g | ⟨g,g2⟩
      ·rw [ub b1] at g
       simp only [jF,a2] at h6
       simp only [jF,b2,Option.some.inj g];exact h6
      ·rw [zhc a2 (zfc g (ub a1))] at h6;cases h6
     ·have g:=ih _ _ h7 Cr
      rw [ub b1] at g
      rw [YD b2 (by rw [Option.some.inj g];rfl),h6];rfl
    rw [hy] at this;cases this
   ·exact h
 intro i k m hk hm
 by_cases hs':nV c.zw ms i
 ·obtain ⟨n,h⟩:=hs'
  exact .inr ⟨⟨n,h⟩,key n i k h hk⟩
 ·rcases hI i k m hk hm with h | ⟨h,_⟩
  ·exact .inl ⟨hs',h⟩
  ·exact absurd h hs'
theorem zhe {ms:List ak} {i:Nat} {m m':ak} (h:ms[i]?=some m) (h0:m.aR=0) (h1:m'.aR≠0):yQ (ms.set i m') < yQ ms:=by
 obtain ⟨hi,rfl⟩:=ue.1 h
 unfold yQ
 rw [List.countP_set hi]
 have hp:0 < ms.countP (fun m=>m.aR == 0):=List.countP_pos_iff.2 ⟨_,un hi,by simp [h0]⟩
 simp only [h0,beq_self_eq_true,if_true,beq_iff_eq,h1,if_false]
 omega
noncomputable def ya (c:aq) (day:Int) (hs:List Int) (us:List Bool) (ms:List ak):Option (List ak):=wV c day hs hs.length us us.length ms ms.length
theorem Jx (n:Nat):dD n n=some ⟨rfl⟩:=by unfold dD;rw [dif_pos rfl]
theorem wp {a b:Nat} (h:a=b):dD a b=some ⟨h⟩:=by unfold dD;rw [dif_pos h]
theorem XJ (c:aq) (day:Int) (hs:List Int) (us:List Bool) (ms:List ak) (ho:c.off.length < 4611686018427387904) (hv:(zF c).1=0) (hh:hs.length=c.aF.length) (hb:∀ h∈hs,0≤h∧h < c.aT) (hm:lf c ms) :
  ay (ya c day hs us ms) (cx c hs ms):=by
 have sm:=qy ho hv
 have dZ:=sm.zw
 unfold ya wV
 refine ay.bind (P:=fun r=>cx c hs ms r) (ay.iter (fun s=>lf c s.2∧Cq c ms s.2∧(NR c ms→s.2=ms)∧Bp c hs ms s.2∧(s.1=false→NR c s.2)) (fun s=>2*yQ s.2+(if s.1 then 1 else 0)) ⟨hm,fun i m m' h1 h2=>.inl (by simp only at h2;rw [h1] at h2;exact (Option.some.inj h2).symm),fun _=>rfl,fun i k m h1 h2=>.inl h2,fun h=>by cases h⟩ ?_) (fun r hr=>ay.some hr)
 have pZ:=hm.1
 have hcd:∀ (i:Nat) (k:aK),c.zw[i]?=some k→∀ x∈k.start,0≤x.clause∧x.clause < c.zw.length:=fun i k hk=>(xe ho hv hk).cond
 rintro ⟨b,fq⟩ ⟨hok,hrel,hsame,Bq,BM⟩
 cases b with
 | false=>exact ay.some ⟨hok,BM rfl,hrel,hsame,zkB pZ hok.1 Bq (BM rfl) hcd⟩
 | true=>
  simp only [cond_true]
  refine ay.bind (P:=fun o=>∃ s2:Bool×List ak,o=.inl s2∧lf c s2.2∧Cq c ms s2.2∧(NR c fq→s2.2=fq)∧Bp c hs ms s2.2∧(s2.1=false→s2.2=fq∧NR c fq)∧(s2.1=true→yQ s2.2 < yQ fq))
   (ay.eE (n:=c.zw.length) (fun i s=>lf c s.2∧Cq c ms s.2∧(NR c fq→s.2=fq)∧Bp c hs ms s.2∧(s.1=false→s.2=fq∧∀ j,j < i→qK c.zw fq j=false)∧(s.1=true→yQ s.2 < yQ fq)) (by omega) ⟨hok,hrel,fun _=>rfl,Bq,fun _=>⟨rfl,fun j hj=>by omega⟩,fun h=>by cases h⟩ ?_ (fun s h=>⟨s,rfl,h⟩)) ?_
  ·rintro i ⟨b0,eV⟩ hi ⟨rM,mW,iL,mX,pS,Ab⟩
   simp only at rM mW iL mX pS Ab
   have hk:=ub hi
   have ig:=rM.1
   have hi2:i < eV.length:=by omega
   have hm2:=ub hi2
   have kv:=xe ho hv hk
   have hmk:=rM.2 i _ _ hk hm2
   rw [zB hk]
   simp only [bf,Jx,wp (show ms.length=eV.length by omega)]
   rw [IW c _ i _ _ hk hm2 (by have:=kv.start;omega) (fun x hx=>by have:=kv.cond x hx;simp only;omega)]
   simp only [bf]
   cases hr:qK c.zw eV i with
   | false=>
    simp only [cy,bf]
    refine ay.some ⟨rM,mW,iL,mX,fun hb=>⟨(pS hb).1,fun j hj => ?_⟩,Ab⟩
    rcases uB j i with h | h
    ·exact (pS hb).2 j h
    ·obtain rfl:j=i:=by omega
     rw [←(pS hb).1];exact hr
   | true=>
    simp only [cond_true]
    have hr':=hr
    simp only [qK,hk,hm2,uc,ug,beq_iff_eq] at hr'
    obtain ⟨⟨h0,hw⟩,_⟩:=hr'
    have Br:ay (bif (c.zw[i].kind == 4) then some (-1) else (ua (zh hs.length c.zw[i].bK) fun k1=>(ua (hs[k1]?) fun e2=>some e2))) (fun v=>v=Qf hs c.zw[i]∧bif c.zw[i].kind == 4 then v = -1 else 0≤v∧v < c.aT):=by
     refine ay.ite (fun h4=>ay.some (by simp [h4,Qf])) (fun h4 => ?_)
     have h4':c.zw[i].kind≠4:=beq_eq_false_iff_ne.1 h4
     have hro:=kv.bK.resolve_left h4'
     rw [HW hro.1 (by omega)]
     have hlt:c.zw[i].bK.toNat < hs.length:=by omega
     simp only [bf,ub hlt]
     exact ay.some ⟨by simp [Qf,h4,ub hlt],by rw [h4];exact hb _ (un hlt)⟩
    refine ay.bind (P:=fun v:Bool×List ak=>∃ b,v=(true,eV.set i (wB c.zw[i] b))∧b=Qf hs c.zw[i]∧(bif c.zw[i].kind == 4 then b = -1 else 0≤b∧b < c.aT)) (ay.bind Br fun v Bs => ?_) ?_
    ·rw [zM (show i < ms.length by omega)]
     simp only [bf,hm2]
     exact ay.some ⟨v,rfl,Bs⟩
    ·rintro _ ⟨b,rfl,nS,Ac⟩
     have hnew:q9 c.aT c.zw[i] (wB c.zw[i] b)=true:=by
      simp only [q9,wB,kH,hw]
      have h1:=kv.after
      have:¬ c.zw[i].after < 1:=by omega
      cases h4:(c.zw[i].kind == 4) with
      | true=>rw [h4] at Ac;simp only [cond_true] at Ac;subst Ac;simp [this]
      | false=>rw [h4] at Ac;simp only [cy] at Ac;simp [this,Ac]
     refine ay.some ⟨⟨by simpa using ig,fun j k m hj th => ?_⟩,fun j m m' h1 h2 => ?_,fun hn => ?_,fun j k m hj th => ?_,fun h=>by simp at h,fun _ => ?_⟩
     ·rw [uv] at th
      by_cases hij:i=j
      ·subst hij
       rw [if_pos rfl,if_pos hi2] at th
       rw [hk] at hj
       cases hj;cases th;exact hnew
      ·rw [if_neg hij] at th;exact rM.2 j k m hj th
     ·simp only at h2
      rw [uv] at h2
      by_cases hij:i=j
      ·subst hij
       rw [if_pos rfl,if_pos hi2] at h2
       cases h2
       refine .inr ⟨?_,_,b,hk,rfl⟩
       rcases mW i m _ h1 hm2 with h | ⟨h,_⟩
       ·rw [←h];exact h0
       ·exact h
      ·rw [if_neg hij] at h2;exact mW j m m' h1 h2
     ·have e:=iL hn
      have:=hn i hi
      rw [←e,hr] at this
      cases this
     ·show (eV.set i (wB c.zw[i] b))[j]?=some m∨nV c.zw ms j∧(eV.set i (wB c.zw[i] b))[j]?=some (wB k (Qf hs k))
      rw [uv]
      by_cases hij:i=j
      ·subst hij
       rw [if_pos rfl,if_pos hi2]
       rw [hk] at hj
       cases hj
       exact .inr ⟨zhd pZ ig mX hk (hcd _ _ hk) hr,by rw [nS]⟩
      ·rw [if_neg hij];exact mX j k m hj th
     ·have h3:=zhe (m':=wB c.zw[i] b) hm2 h0 (by simp [wB])
      show yQ (eV.set i (wB c.zw[i] b)) < yQ fq
      cases b0 with
      | true=>have:=Ab rfl;omega
      | false=>have e:=(pS rfl).1;subst e;exact h3
  ·rintro _ ⟨⟨b2,eV⟩,rfl,rM,mW,iL,mX,pS,Ab⟩
   simp only at rM mW iL mX pS Ab
   simp only [ut]
   refine ay.some ⟨⟨rM,mW,fun hn => ?_,mX,fun mC => ?_⟩,?_⟩
   ·have e:=hsame hn
    simp only at e
    subst e
    exact iL hn
   ·obtain ⟨e1,e2⟩:=pS mC
    simp only;rw [e1];exact e2
   ·simp only
    cases b2 with
    | true=>have:=Ab rfl;simp;omega
    | false=>have:=(pS rfl).1;subst this;simp
def jV (m:ak):Bool:=m.aR == 1||m.aR == 2
theorem Qg (m:ak):jJ m=some (jV m):=by
 simp only [jJ,zx,bf,jV];cases (m.aR == 1)<;>rfl
def Qt (st:Int) (m:ak):ak:={m with aR:=st,left:=0,bR:=false}
def wY (free:Bool) (k:aK) (m:ak):ak:=
 bif jV m then (bif m.bR||(k.bu&&free) then m else
  bif m.left - 1 == 0 then (bif k.kind == 1 then (bif m.aR == 1&&decide (0 < k.bq) then {m with aR:=2,left:=k.bq} else Qt 4 m) else bif k.kind == 2 then Qt 3 m else Qt 5 m)
  else {m with left:=m.left - 1}) else m
def eW (c:aq) (F:aK→ak→ak) (i:Nat) (m:ak):ak:=match c.zw[i]? with | some k=>F k m | none=>m
structure Bt (c:aq) (k:aK) (m:ak):Prop where
 br:k.br=false
 left:1≤m.left∧m.left≤400
 bR:m.bR=true→k.aL ≠ -1
 got:m.got=0∨(k.kind=1∧0≤m.got∧m.got < k.need)
 bC:(k.kind=4∧m.bC = -1)∨(k.kind≠4∧0≤m.bC∧m.bC < c.aT)
theorem jC {p:Int} {k:aK} {m:ak}:kH p k m=true↔k.br=false∧1≤m.left∧(m.bR=true→k.aL ≠ -1)∧(m.got=0∨(k.kind=1∧0≤m.got∧m.got < k.need))∧((k.kind=4∧m.bC = -1)∨(k.kind≠4∧0≤m.bC∧m.bC < p)):=by
 simp only [kH,uc,ug,uw,decide_eq_false_iff_not,ux,beq_iff_eq]
 have e1:(m.bR&&k.aL == -1)=false↔(m.bR=true→k.aL ≠ -1):=by cases m.bR<;>simp
 have e2:(bif k.kind == 4 then m.bC == -1 else decide (0≤m.bC)&&decide (m.bC < p))=true↔((k.kind=4∧m.bC = -1)∨(k.kind≠4∧0≤m.bC∧m.bC < p)):=by
  cases h:(k.kind == 4) with
  | true=>have:=beq_iff_eq.1 h;simp [this]
  | false=>have:=beq_eq_false_iff_ne.1 h;simp [this]
 rw [e1,e2]
 constructor
 ·rintro ⟨⟨a,b,d⟩,e,f⟩;exact ⟨a,by omega,d,by omega,f⟩
 ·rintro ⟨a,b,d,e,f⟩;exact ⟨⟨a,by omega,d⟩,by omega,f⟩
theorem wq {p:Int} {k:aK} {m:ak}:q9 p k m=true↔(m.aR=0∧k.br=false∧Co m=true)∨(m.aR=1∧m.left≤k.after∧kH p k m=true)∨(m.aR=2∧k.kind=1∧m.left≤k.bq∧kH p k m=true)∨((m.aR=3∨m.aR=4∨m.aR=5)∧Cp p m=true):=by
 unfold q9
 by_cases h0:m.aR=0
 ·simp [h0]
 by_cases h1:m.aR=1
 ·simp [h1]
 by_cases h2:m.aR=2
 ·simp [h2]
 have e0:(m.aR == 0)=false:=beq_eq_false_iff_ne.2 h0
 have e1:(m.aR == 1)=false:=beq_eq_false_iff_ne.2 h1
 have e2:(m.aR == 2)=false:=beq_eq_false_iff_ne.2 h2
 simp [e0,e1,e2,h0,h1,h2]
theorem vz {c:aq} {i:Nat} {k:aK} {m:ak} (kv:KV c i k) (h:q9 c.aT k m=true) (hr:jV m=true):Bt c k m∧kH c.aT k m=true∧(m.aR=1∧m.left≤k.after∨m.aR=2∧k.kind=1∧m.left≤k.bq):=by
 simp only [jV,ux,beq_iff_eq] at hr
 have ha:=kv.after
 have hg:=kv.bq
 rcases wq.1 h with ⟨h0,_⟩ | ⟨h0,h1,h2⟩ | ⟨h0,h1,h2,h3⟩ | ⟨h0,_⟩
 ·omega
 ·obtain ⟨a,b,d,e,f⟩:=jC.1 h2
  exact ⟨⟨a,⟨b,by omega⟩,d,e,f⟩,h2,.inl ⟨h0,h1⟩⟩
 ·obtain ⟨a,b,d,e,f⟩:=jC.1 h3
  exact ⟨⟨a,⟨b,by omega⟩,d,e,f⟩,h3,.inr ⟨h0,h1,h2⟩⟩
 ·omega
theorem QP {c:aq} {i:Nat} {k:aK} {m:ak} {st:Int} (kv:KV c i k) (rv:Bt c k m) (hp:0 < c.aT) (hst:st=3∨st=4∨st=5):q9 c.aT k (Qt st m)=true:=by
 refine wq.2 (.inr (.inr (.inr ⟨hst,?_⟩)))
 have h1:=rv.got
 have h2:=rv.bC
 have h3:=kv.need
 have e1:decide (0≤m.got)=true:=decide_eq_true (by omega)
 have e2:decide (m.got≤9)=true:=decide_eq_true (by omega)
 have e3:decide (-1≤m.bC)=true:=decide_eq_true (by omega)
 have e4:decide (m.bC < c.aT)=true:=decide_eq_true (by omega)
 show ((0:Int) == 0&&(decide (0≤m.got)&&(decide (m.got≤9)&&(decide (-1≤m.bC)&&(decide (m.bC < c.aT) && !false)))))=true
 rw [e1,e2,e3,e4];rfl
theorem Zj {c:aq} {k:aK} {m:ak} (h:(m.aR=1∧m.left≤k.after)∨(m.aR=2∧k.kind=1∧m.left≤k.bq)) (hr:kH c.aT k m=true):q9 c.aT k m=true:=by
 rcases h with ⟨h0,h1⟩ | ⟨h0,h1,h2⟩
 ·exact wq.2 (.inr (.inl ⟨h0,h1,hr⟩))
 ·exact wq.2 (.inr (.inr (.inl ⟨h0,h1,h2,hr⟩)))
theorem lf.mapIdx {c:aq} {ms:List ak} (F:aK→ak→ak) (h:lf c ms) (hF:∀ (i:Nat) (k:aK) (m:ak),c.zw[i]?=some k→q9 c.aT k m=true→q9 c.aT k (F k m)=true):lf c (ms.mapIdx (eW c F)):=by
 refine ⟨by simpa using h.1,fun i k m hk hm => ?_⟩
 rw [uD] at hm
 obtain ⟨m0,h0,rfl⟩:=Option.map_eq_some_iff.1 hm
 simp only [eW,hk]
 exact hF i k m0 hk (h.2 i k m0 hk h0)
theorem ziR {c:aq} {i:Nat} {k:aK} {m:ak} (free:Bool) (kv:KV c i k) (hp:0 < c.aT) (h:q9 c.aT k m=true):q9 c.aT k (wY free k m)=true:=by
 unfold wY
 cases hr:jV m with
 | false=>exact h
 | true=>
  obtain ⟨rv,hb,hs⟩:=vz kv h hr
  simp only [cond_true]
  cases mi:(m.bR||(k.bu&&free)) with
  | true=>exact h
  | false=>
   simp only [cy]
   have hl:=rv.left
   obtain ⟨b1,b2,b3,b4,b5⟩:=jC.1 hb
   cases hz:(m.left - 1 == 0) with
   | false=>
    have:=beq_eq_false_iff_ne.1 hz
    refine Zj ?_ (jC.2 ⟨b1,?_,b3,b4,b5⟩)
    ·simp only [cy];omega
    ·simp only [cy];omega
   | true=>
    simp only [cond_true]
    cases h1:(k.kind == 1) with
    | false=>
     cases h2:(k.kind == 2) with
     | true=>exact QP kv rv hp (by omega)
     | false=>exact QP kv rv hp (by omega)
    | true=>
     simp only [cond_true]
     cases h3:(m.aR == 1&&decide (0 < k.bq)) with
     | false=>exact QP kv rv hp (by omega)
     | true=>
      simp only [uc,beq_iff_eq,decide_eq_true_eq] at h3
      exact Zj (.inr ⟨rfl,beq_iff_eq.1 h1,Int.le_refl _⟩) (jC.2 ⟨b1,by simp only [cond_true];omega,b3,b4,b5⟩)
theorem xa {α:Type} {s:List α} {i:Nat} {m:α} (h:s[i]?=some m):s.set i m=s:=by
 obtain ⟨hi,rfl⟩:=ue.1 h
 exact List.set_getElem_self hi
theorem vA {α:Type} {s:List α} {i:Nat} {m x:α} (h:s[i]?=some m):(s.set i x)[i]?=some x:=by
 have:=(ue.1 h).1
 simp [this]
theorem Wp (i:Nat) (st:Int) (c:aq) (p4:Int) (p5:List Int) (p6:Nat) (p7:List Bool) (p8:Nat) (ms:List ak) (n:Nat) (m:ak) (hi:i < n) (hm:ms[i]?=some m):wA i st c p4 p5 p6 p7 p8 ms n=some (ms.set i (Qt st m)):=by
 unfold wA
 simp only [zM hi,bf,hm,uJ,Qt]
theorem zkC (c:aq) (day:Int) (hs:List Int) (us:List Bool) (ms:List ak) (ho:c.off.length < 4611686018427387904) (hv:(zF c).1=0) (hm:lf c ms) (lg:0≤day∧day≤2000) :
  gV c day hs hs.length us us.length ms ms.length=ya c (day+1) hs us (ms.mapIdx (eW c (wY (qW c.off day).isSome))):=by
 have sm:=qy ho hv
 have dZ:=sm.zw
 have hl:=hm.1
 unfold gV
 obtain ⟨r,hr,_⟩:=QO c.off day (zmJ ho hv) ho
 rw [hr]
 simp only [bf,xB]
 rw [wO ms (eW c (wY (qW c.off day).isSome)) (by omega) ?_]
 ·simp only [bf,ut]
  rw [qf (by omega) (by omega)]
  unfold ya
  rw [List.length_mapIdx]
  generalize wV _ _ _ _ _ _ _ _=x
  cases x<;>rfl
 ·intro i m s h1 h2 h3
  have hi:i < ms.length:=(ue.1 h1).1
  have hic:i < c.zw.length:=by omega
  have hk:=ub hic
  have kv:=xe ho hv hk
  have hmk:=hm.2 i _ _ hk h1
  simp only [zM hi,bf,h3,Qg,eW,hk]
  generalize c.zw[i]=k at hk kv hmk
  cases oW:jV m with
  | false=>simp only [cy,bf,wY,oW,xa h3]
  | true=>
   obtain ⟨rv,hb,hst⟩:=vz kv hmk oW
   have hleft:=rv.left
   simp only [cond_true,zB hk,bf,wY,oW,zx]
   have epb:(bif m.bR then true else bif k.bu then (qW c.off day).isSome else false)=(m.bR||(k.bu&&(qW c.off day).isSome)):=by cases m.bR<;>cases k.bu<;>rfl
   rw [epb]
   cases mi:(m.bR||(k.bu&&(qW c.off day).isSome)) with
   | true=>simp only [cond_true,bf,ul,cy,xa h3]
   | false=>
    rw [qf (show -9223372036854775808≤m.left - 1 by omega) (by omega)]
    simp only [cy,bf,vA h3]
    cases hz:(m.left - 1 == 0) with
    | false=>simp only [cy,bf,ul]
    | true=>
     have gL:=beq_iff_eq.1 hz
     have AN:(k.kind == 0)=false:=beq_eq_false_iff_ne.2 (by have:=kv.kind;omega)
     simp only [cond_true,AN,cy,Yj,wW,Z5,zM hi,bf,vA h3,zB hk,zx]
     rw [Wp i 4 _ _ _ _ _ _ _ _ _ hi (vA h3),Wp i 3 _ _ _ _ _ _ _ _ _ hi (vA h3),Wp i 5 _ _ _ _ _ _ _ _ _ hi (vA h3)]
     simp only [bf,uJ,Qt,gL]
     cases h1:(k.kind == 1) with
     | true=>
      simp only [cond_true]
      have e3:(bif m.aR == 1 then decide (0 < k.bq) else false)=(m.aR == 1&&decide (0 < k.bq)):=by cases (m.aR == 1)<;>rfl
      rw [e3]
      cases h4:(m.aR == 1&&decide (0 < k.bq))<;>simp
     | false=>
      cases h2:(k.kind == 2) with
      | true=>simp
      | false=>
       cases h3:(k.kind == 3) with
       | true=>simp
       | false=>
        have h4:(k.kind == 4)=true:=beq_iff_eq.2 (by have:=kv.kind;have:=beq_eq_false_iff_ne.1 h1;have:=beq_eq_false_iff_ne.1 h2;have:=beq_eq_false_iff_ne.1 h3;omega)
        simp [h4]
end Go.Proofs.YtlpmnmbebkdocaaGreatDoor
