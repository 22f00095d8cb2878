/-
  Functions of the program: what they compute, and plans of their code that the kernel checks (printed by a program of ours).
  What 'contract.Valid' comes to.
  What Valid says.
  What 'slices.BinarySearch' comes to; sizes of valid contracts.
-/
import Derived.Test.YtmoedieenlaegaaGreatDoorWC10
import Derived.Test.YtmoedieenlaegaaGreatDoorWC06
namespace Go.Proofs.YtmoedieenlaegaaGreatDoor
open Go.RowKit
set_option linter.unusedSimpArgs false
set_option linter.unusedVariables false
set_option maxRecDepth 100000
noncomputable def ZO (n:Int):Option Int:=
  (bif decide (n < 0) then some (IntKind.u64.wrap (0 - (IntKind.u64.wrap n))) else some (IntKind.u64.wrap n))
noncomputable def zhA (n:Int):Zac Int:=
  .ite 3422 (decide (n < 0)) (.sel 3422 (.ret (IntKind.u64.wrap (0 - (IntKind.u64.wrap n))))) (.sel 3422 (.ret (IntKind.u64.wrap n)))
theorem zbC (n:Int) (res:Int) (hd:ZO n=some res):APure C0 248 [.int .i64 n] (.int .u64 res):=
  Zac.pure (iv:=fun res=>.int .u64 res) (zhA n) (by kernel_rfl) (Zac.run_of hd (by kernel_rfl))
noncomputable def zae (a:Int) (b:Int):Option Int:=
  (Option.bind (Option.bind (iter (σ:=Int×Int) (ρ:=Int) (fun s1=>(bif decide (0 < s1.2) then (Option.bind (wb .u64 s1.1 s1.2) fun e1=>some (.inl (s1.2,e1))) else some (.inr s1.1))) (a,b)) (fun (y1:Int)=>some y1)) fun (v1:Int)=>some v1)
noncomputable def zjr (a:Int) (b:Int):Zac Int:=
  .cut (β:=Int) 2 (.e [] (fun v1=>[(0,.imm (.int .u64 v1))]) [] 1) (.iter (σ:=Int×Int) (ρ:=Int) (a,b) (.e [] (fun s1=>[(0,.imm (.int .u64 s1.1)),(1,.imm (.int .u64 s1.2))]) [] 1) (fun s1=>.ite 3426 (decide (0 < s1.2)) (.sel 3426 (.reg 0 (.b1 3428 (wb .u64 s1.1 s1.2) (fun e1=>.v (.int .u64 e1)) (fun e1 he1=>(Kz he1)) fun e1=>.use 3 3428 (.ret (.inl (s1.2,e1)))))) (.sel 3426 (.ret (.inr s1.1)))) fun y1=>.ret y1) fun v1=>.ret v1
theorem zjs (a:Int) (b:Int) (res:Int) (hd:zae a b=some res):APure C0 246 [.int .u64 a,.int .u64 b] (.int .u64 res):=
  Zac.pure (iv:=fun res=>.int .u64 res) (zjr a b) (by kernel_rfl) (Zac.run_of hd (by kernel_rfl))
noncomputable def vw (a:Ratio):Option Bool:=
  (Option.bind (bif decide (1≤a.den) then (bif decide (a.den≤1000000) then (bif decide ((-1000000000000)≤a.num) then (bif decide (a.num≤1000000000000) then (Option.bind (ZO a.num) fun r1=>(Option.bind (ZO a.den) fun r2=>(Option.bind (zae r1 r2) fun r3=>some (r3 == 1)))) else some false) else some false) else some false) else some false) fun v1=>some v1)
noncomputable def zfT (a:Ratio):Zac Bool:=
  .cut (β:=Bool) 2 (.e [] (fun v1=>[(2,vB v1)]) [0] 31) (.reg 0 (.ite 3414 (decide (1≤a.den)) (.ite 3416 (decide (a.den≤1000000)) (.ite 3418 (decide ((-1000000000000)≤a.num)) (.ite 3420 (decide (a.num≤1000000000000)) (.call 3430 (zbC a.num) fun r1=>.call 3432 (zbC a.den) fun r2=>.call 3434 (zjs r1 r2) fun r3=>.us [(4,3414),(9,3416),(14,3418),(19,3420),(21,3430),(24,3432),(25,3434)] (.ret (r3 == 1))) (.us [(4,3414),(9,3416),(14,3418),(19,3420)] (.ret false))) (.us [(4,3414),(9,3416),(14,3418)] (.f1 3436 (.g false) (rfl:false=false) (.use 19 3436 (.ret false))))) (.us [(4,3414),(9,3416)] (.f1 3440 (.g false) (rfl:false=false) (.use 14 3440 (.f1 3438 (.g false) (rfl:false=false) (.use 19 3438 (.ret false))))))) (.use 4 3414 (.f1 3446 (.g false) (rfl:false=false) (.use 9 3446 (.f1 3444 (.g false) (rfl:false=false) (.use 14 3444 (.f1 3442 (.g false) (rfl:false=false) (.use 19 3442 (.ret false)))))))))) fun v1=>.ret v1
theorem XC (a:Ratio) (res:Bool) (hd:vw a=some res):APure C0 247 [.agg (Ratio.row a)] (.bool res):=
  Zac.pure (iv:=fun res=>.bool res) (zfT a) (by kernel_rfl) (Zac.run_of hd (by kernel_rfl))
noncomputable def Qr (Zap:List Zau) (i:Int):Option Bool:=
  (Option.bind (ze Zap i) fun e1=>(Option.bind (bif decide (20≤i) then some true else (bif (e1.name.toList == (⟨#[]⟩:ByteArray).toList) then some true else (bif (e1.kind == 1) then (Option.bind (vw e1.factor) fun r1=>(bif r1 then (bif decide (e1.factor.num < 1) then some true else (bif decide (e1.base < 0) then some true else some (decide ((Zap.length:Int)≤e1.base)))) else some true)) else (bif (e1.kind == 2) then (Option.bind (vw e1.factor) fun r2=>(bif r2 then (bif decide (e1.factor.num < 1) then some true else (bif decide (e1.base < 0) then some true else some (decide ((Zap.length:Int)≤e1.base)))) else some true)) else some true)))) fun v1=>(bif v1 then some false else (Option.bind (forR (σ:=Unit) (ρ:=Unit) i (fun i1 s1=>(Option.bind (ze Zap (i1:Int)) fun e2=>(bif (e2.name.toList == e1.name.toList) then some (.inr ()) else some (.inl ())))) ()) (Sum.elim (fun (s1:Unit)=>(Option.bind (ze Zap e1.base) fun e3=>(Option.bind (bif (e3.base == e1.base) then (bif (e3.kind == e1.kind) then (bif (e1.base == i) then (bif (e1.factor.num == 1) then some (e1.factor.den == 1) else some false) else some true) else some false) else some false) fun v2=>some v2))) (fun (y1:Unit)=>some false))))))
noncomputable def zfU (Zap:List Zau) (i:Int):Zac Bool:=
  .reg 1 (.ix 3476 Zau.row Zap i fun e1=>.use 2 3476 (.cut (β:=Bool) 2 (.e [0,1,5] (fun v1=>[(52,vB v1)]) [5] 48) (.reg 0 (.ite 3408 (decide (20≤i)) (.use 3 3408 (.f1 3486 (.g true) (rfl:true=true) (.use 8 3486 (.f1 3484 (.g true) (rfl:true=true) (.use 18 3484 (.f1 3482 (.g true) (rfl:true=true) (.use 24 3482 (.f1 3480 (.g true) (rfl:true=true) (.use 30 3480 (.f1 3478 (.g true) (rfl:true=true) (.use 35 3478 (.ret true)))))))))))) (.ite 3410 (e1.name.toList == (⟨#[]⟩:ByteArray).toList) (.us [(3,3408),(8,3410)] (.f1 3494 (.g true) (rfl:true=true) (.use 18 3494 (.f1 3492 (.g true) (rfl:true=true) (.use 24 3492 (.f1 3490 (.g true) (rfl:true=true) (.use 30 3490 (.f1 3488 (.g true) (rfl:true=true) (.use 35 3488 (.ret true)))))))))) (.ite 3412 (e1.kind == 1) (.call 3496 (XC e1.factor) fun r1=>.ite 3448 r1 (.ite 3450 (decide (e1.factor.num < 1)) (.us [(3,3408),(8,3410),(12,3413)] (.f1 3500 (.g false) (rfl:false=false) (.us [(18,3500),(20,3496),(24,3449),(30,3450)] (.f1 3498 (.g true) (rfl:true=true) (.use 35 3498 (.ret true)))))) (.ite 3452 (decide (e1.base < 0)) (.us [(3,3408),(8,3410),(12,3413)] (.f1 3502 (.g false) (rfl:false=false) (.us [(18,3502),(20,3496),(24,3449),(30,3450),(35,3452)] (.ret true)))) (.us [(3,3408),(8,3410),(12,3413)] (.f1 3506 (.g false) (rfl:false=false) (.us [(18,3506),(20,3496),(24,3449),(30,3450),(35,3452)] (.ln 3504 Zau.row Zap (.use 38 3504 (.ret (decide ((Zap.length:Int)≤e1.base)))))))))) (.us [(3,3408),(8,3410),(12,3413)] (.f1 3512 (.g false) (rfl:false=false) (.us [(18,3512),(20,3496),(24,3449)] (.f1 3510 (.g true) (rfl:true=true) (.use 30 3510 (.f1 3508 (.g true) (rfl:true=true) (.use 35 3508 (.ret true))))))))) (.ite 3454 (e1.kind == 2) (.call 3514 (XC e1.factor) fun r2=>.ite 3456 r2 (.ite 3458 (decide (e1.factor.num < 1)) (.us [(3,3408),(8,3410),(12,3413),(18,3455),(20,3514),(24,3457),(30,3458)] (.f1 3516 (.g true) (rfl:true=true) (.use 35 3516 (.ret true)))) (.ite 3460 (decide (e1.base < 0)) (.us [(3,3408),(8,3410),(12,3413),(18,3455),(20,3514),(24,3457),(30,3458),(35,3460)] (.ret true)) (.us [(3,3408),(8,3410),(12,3413),(18,3455),(20,3514),(24,3457),(30,3458),(35,3460)] (.ln 3518 Zau.row Zap (.use 38 3518 (.ret (decide ((Zap.length:Int)≤e1.base)))))))) (.us [(3,3408),(8,3410),(12,3413),(18,3455),(20,3514),(24,3457)] (.f1 3522 (.g true) (rfl:true=true) (.use 30 3522 (.f1 3520 (.g true) (rfl:true=true) (.use 35 3520 (.ret true))))))) (.us [(3,3408),(8,3410),(12,3413),(18,3455)] (.f1 3528 (.g true) (rfl:true=true) (.use 24 3528 (.f1 3526 (.g true) (rfl:true=true) (.use 30 3526 (.f1 3524 (.g true) (rfl:true=true) (.use 35 3524 (.ret true))))))))))))) fun v1=>.ite 3462 v1 (.sel 3462 (.ret false)) (.sel 3462 (.forR (σ:=Unit) (ρ:=Unit) 3464 6 i () (.e [0,1,5] (fun _=>[]) [5] 49) (fun i1 s1=>.sel 3464 (.reg 0 (.ix 3530 Zau.row Zap (i1:Int) fun e2=>.use 2 3530 (.ite 3466 (e2.name.toList == e1.name.toList) (.sel 3466 (.ret (.inr ()))) (.sel 3466 (.ret (.inl ()))))))) fun os1=>.case os1 (fun s1=>.sel 3464 (.reg 0 (.ix 3532 Zau.row Zap e1.base fun e3=>.use 3 3532 (.cut (β:=Bool) 1 (.e [] (fun v2=>[(4,vB v2)]) [5,57] 90) (.reg 0 (.ite 3468 (e3.base == e1.base) (.ite 3470 (e3.kind == e1.kind) (.ite 3472 (e1.base == i) (.ite 3474 (e1.factor.num == 1) (.us [(6,3468),(13,3470),(18,3473),(23,3474)] (.ret (e1.factor.den == 1))) (.us [(6,3468),(13,3470),(18,3473),(23,3474)] (.ret false))) (.us [(6,3468),(13,3470),(18,3473)] (.ret true))) (.us [(6,3468),(13,3470)] (.ret false))) (.use 6 3468 (.f1 3534 (.g false) (rfl:false=false) (.use 13 3534 (.ret false)))))) fun v2=>.ret v2)))) fun y1=>.ret false))))
theorem zfV (Zap:List Zau) (i:Int) (res:Bool) (hd:Qr Zap i=some res):APure C0 250 [.slice (List.map Zau.row Zap),.int .i64 i] (.bool res):=
  Zac.pure (iv:=fun res=>.bool res) (zfU Zap i) (by kernel_rfl) (Zac.run_of hd (by kernel_rfl))
noncomputable def Qs (Zap:List Zau):Option (Int×Bool):=
  (Option.bind (forR (σ:=Unit) (ρ:=Int) (Zap.length:Int) (fun i1 s1=>(Option.bind (Qr Zap (i1:Int)) fun r1=>(bif r1 then some (.inl ()) else some (.inr (i1:Int))))) ()) (Sum.elim (fun (s1:Unit)=>some ((-1),true)) (fun (y1:Int)=>some (y1,false))))
noncomputable def zfW (Zap:List Zau):Zac (Int×Bool):=
  .forR (σ:=Unit) (ρ:=Int) 3406 4 (Zap.length:Int) () (.e [0] (fun _=>[]) [] 3) (fun i1 s1=>.reg 0 (.ln 3540 Zau.row Zap (.use 2 3540 (.sel 3406 (.reg 0 (.call 3538 (zfV Zap (i1:Int)) fun r1=>.use 2 3538 (.ite 3536 r1 (.sel 3537 (.ret (.inl ()))) (.sel 3537 (.ret (.inr (i1:Int))))))))))) fun os1=>.case os1 (fun s1=>.reg 0 (.ln 3542 Zau.row Zap (.use 2 3542 (.sel 3406 (.ret ((-1),true)))))) fun y1=>.ret (y1,false)
theorem zfX (Zap:List Zau) (res:Int×Bool) (hd:Qs Zap=some res):APure C0 249 [.slice (List.map Zau.row Zap)] (.tuple [.int .i64 res.1,.bool res.2]):=
  Zac.pure (iv:=fun res=>.tuple [.int .i64 res.1,.bool res.2]) (zfW Zap) (by kernel_rfl) (Zac.run_of hd (by kernel_rfl))
noncomputable def kp (c:Zaa) (p:Int):Option Bool:=
  (Option.bind (bif decide (0≤p) then some (decide (p < c.Zal)) else some false) fun v1=>some v1)
noncomputable def zfY (c:Zaa) (p:Int):Zac Bool:=
  .cut (β:=Bool) 2 (.e [] (fun v1=>[(4,vB v1)]) [0] 11) (.reg 0 (.ite 3554 (decide (0≤p)) (.use 3 3554 (.ret (decide (p < c.Zal)))) (.use 3 3554 (.ret false)))) fun v1=>.ret v1
theorem zaf (c:Zaa) (p:Int) (res:Bool) (hd:kp c p=some res):APure C0 253 [.agg (Zaa.row c),.int .i64 p] (.bool res):=
  Zac.pure (iv:=fun res=>.bool res) (zfY c p) (by kernel_rfl) (Zac.run_of hd (by kernel_rfl))
noncomputable def Ji (a:Zar):Option Bool:=
  (Option.bind (bif (a.kind == 2) then some true else some (a.kind == 3)) fun v1=>some v1)
noncomputable def zeI (a:Zar):Zac Bool:=
  .cut (β:=Bool) 2 (.e [] (fun v1=>[(2,vB v1)]) [0] 11) (.reg 0 (.ite 3560 (a.kind == 2) (.use 4 3560 (.ret true)) (.use 4 3560 (.ret (a.kind == 3))))) fun v1=>.ret v1
theorem zeJ (a:Zar) (res:Bool) (hd:Ji a=some res):APure C0 11 [.agg (Zar.row a)] (.bool res):=
  Zac.pure (iv:=fun res=>.bool res) (zeI a) (by kernel_rfl) (Zac.run_of hd (by kernel_rfl))
noncomputable def jU (c:Zaa) (r:Int):Option Bool:=
  (Option.bind (bif decide (0≤r) then some (decide (r < (c.Zad.length:Int))) else some false) fun v1=>some v1)
noncomputable def zhB (c:Zaa) (r:Int):Zac Bool:=
  .cut (β:=Bool) 2 (.e [] (fun v1=>[(4,vB v1)]) [0] 12) (.reg 0 (.ite 3564 (decide (0≤r)) (.use 3 3564 (.ln 3566 zb c.Zad (.use 6 3566 (.ret (decide (r < (c.Zad.length:Int))))))) (.use 3 3564 (.ret false)))) fun v1=>.ret v1
theorem vz (c:Zaa) (r:Int) (res:Bool) (hd:jU c r=some res):APure C0 254 [.agg (Zaa.row c),.int .i64 r] (.bool res):=
  Zac.pure (iv:=fun res=>.bool res) (zhB c r) (by kernel_rfl) (Zac.run_of hd (by kernel_rfl))
noncomputable def yO (a:Ratio):Option Bool:=
  (Option.bind (bif (a.num == 0) then some (a.den == 1) else some false) fun v1=>some v1)
noncomputable def zhC (a:Ratio):Zac Bool:=
  .cut (β:=Bool) 2 (.e [] (fun v1=>[(2,vB v1)]) [0] 11) (.reg 0 (.ite 3576 (a.num == 0) (.use 4 3576 (.ret (a.den == 1))) (.use 4 3576 (.ret false)))) fun v1=>.ret v1
theorem Vt (a:Ratio) (res:Bool) (hd:yO a=some res):APure C0 260 [.agg (Ratio.row a)] (.bool res):=
  Zac.pure (iv:=fun res=>.bool res) (zhC a) (by kernel_rfl) (Zac.run_of hd (by kernel_rfl))
noncomputable def yP (a:Ratio):Option Bool:=
  (Option.bind (Option.bind (vw a) fun r1=>(bif r1 then some (decide (0 < a.num)) else some false)) fun v1=>some v1)
noncomputable def zhD (a:Ratio):Zac Bool:=
  .cut (β:=Bool) 2 (.e [] (fun v1=>[(2,vB v1)]) [0] 10) (.reg 0 (.call 3600 (XC a) fun r1=>.ite 3598 r1 (.us [(1,3600),(3,3598)] (.ret (decide (0 < a.num)))) (.us [(1,3600),(3,3598)] (.ret false)))) fun v1=>.ret v1
theorem zbD (a:Ratio) (res:Bool) (hd:yP a=some res):APure C0 258 [.agg (Ratio.row a)] (.bool res):=
  Zac.pure (iv:=fun res=>.bool res) (zhD a) (by kernel_rfl) (Zac.run_of hd (by kernel_rfl))
noncomputable def JR (c:Zaa) (a:Zar):Option Bool:=
  (Option.bind (Ji a) fun r1=>(bif r1 then (Option.bind (Option.bind (jU c a.Zax) fun r2=>(bif r2 then (Option.bind (jU c a.give) fun r3=>(bif r3 then (Option.bind (kp c a.to) fun r4=>(bif r4 then (bif (a.unit == (-1)) then (Option.bind (yO a.lot) fun r5=>some r5) else some false) else some false)) else some false)) else some false)) fun v1=>some v1) else (Option.bind (bif (a.kind == 1) then (bif (a.give == 0) then (bif (a.Zax == (-1)) then (bif (a.to == (-1)) then some false else (Option.bind (jU c a.to) fun r6=>some (!r6))) else (Option.bind (jU c a.Zax) fun r7=>(bif r7 then (bif (a.to == (-1)) then some false else (Option.bind (jU c a.to) fun r8=>some (!r8))) else some true))) else some true) else some true) fun v2=>(bif v2 then some false else (bif (a.unit == (-1)) then (Option.bind (yO a.lot) fun r9=>some r9) else (Option.bind (bif decide (0≤a.unit) then (bif decide (a.unit < (c.Zap.length:Int)) then (Option.bind (yP a.lot) fun r10=>(bif r10 then some (!(a.Zax == (-1))) else some false)) else some false) else some false) fun v3=>some v3))))))
noncomputable def zhE (c:Zaa) (a:Zar):Zac Bool:=
  .reg 1 (.call 3604 (zeJ a) fun r1=>.use 1 3604 (.ite 3562 r1 (.sel 3562 (.cut (β:=Bool) 1 (.e [] (fun v1=>[(4,vB v1)]) [0,1] 32) (.reg 0 (.call 3606 (vz c a.Zax) fun r2=>.ite 3568 r2 (.call 3608 (vz c a.give) fun r3=>.ite 3570 r3 (.call 3610 (zaf c a.to) fun r4=>.ite 3572 r4 (.ite 3574 (a.unit == (-1)) (.call 3612 (Vt a.lot) fun r5=>.us [(3,3606),(5,3568),(8,3608),(11,3570),(14,3610),(17,3572),(22,3574),(24,3612)] (.ret r5)) (.us [(3,3606),(5,3568),(8,3608),(11,3570),(14,3610),(17,3572),(22,3574)] (.ret false))) (.us [(3,3606),(5,3568),(8,3608),(11,3570),(14,3610),(17,3572)] (.f1 3614 (.g false) (rfl:false=false) (.use 22 3614 (.ret false))))) (.us [(3,3606),(5,3568),(8,3608),(11,3570)] (.f1 3618 (.g false) (rfl:false=false) (.use 17 3618 (.f1 3616 (.g false) (rfl:false=false) (.use 22 3616 (.ret false))))))) (.us [(3,3606),(5,3568)] (.f1 3624 (.g false) (rfl:false=false) (.use 11 3624 (.f1 3622 (.g false) (rfl:false=false) (.use 17 3622 (.f1 3620 (.g false) (rfl:false=false) (.use 22 3620 (.ret false)))))))))) fun v1=>.ret v1)) (.sel 3562 (.cut (β:=Bool) 2 (.e [2,3] (fun v2=>[(64,vB v2)]) [0,1] 37) (.reg 0 (.ite 3578 (a.kind == 1) (.ite 3580 (a.give == 0) (.ite 3582 (a.Zax == (-1)) (.ite 3584 (a.to == (-1)) (.us [(4,3579),(9,3581),(13,3583)] (.f1 3626 (.g false) (rfl:false=false) (.us [(21,3626),(25,3585)] (.ret false)))) (.call 3628 (vz c a.to) fun r6=>.us [(4,3579),(9,3581),(13,3583)] (.f1 3630 (.g false) (rfl:false=false) (.us [(21,3630),(25,3585),(28,3628)] (.ret (!r6)))))) (.call 3632 (vz c a.Zax) fun r7=>.ite 3586 r7 (.ite 3588 (a.to == (-1)) (.us [(4,3579),(9,3581),(13,3583),(16,3632),(21,3587),(25,3589)] (.ret false)) (.call 3634 (vz c a.to) fun r8=>.us [(4,3579),(9,3581),(13,3583),(16,3632),(21,3587),(25,3589),(28,3634)] (.ret (!r8)))) (.us [(4,3579),(9,3581),(13,3583),(16,3632),(21,3587)] (.ret true)))) (.us [(4,3579),(9,3581)] (.f1 3636 (.g true) (rfl:true=true) (.use 21 3636 (.ret true))))) (.use 4 3579 (.f1 3640 (.g true) (rfl:true=true) (.use 9 3640 (.f1 3638 (.g true) (rfl:true=true) (.use 21 3638 (.ret true)))))))) fun v2=>.ite 3590 v2 (.sel 3590 (.ret false)) (.sel 3590 (.ite 3592 (a.unit == (-1)) (.sel 3592 (.reg 0 (.call 3642 (Vt a.lot) fun r9=>.use 2 3642 (.ret r9)))) (.sel 3592 (.cut (β:=Bool) 1 (.e [] (fun v3=>[(4,vB v3)]) [0,1] 62) (.reg 0 (.ite 3594 (decide (0≤a.unit)) (.ite 3596 (decide (a.unit < (c.Zap.length:Int))) (.call 3644 (zbD a.lot) fun r10=>.ite 3602 r10 (.use 4 3594 (.ln 3646 Zau.row c.Zap (.us [(8,3646),(12,3596),(14,3644),(17,3602)] (.ret (!(a.Zax == (-1))))))) (.use 4 3594 (.ln 3648 Zau.row c.Zap (.us [(8,3648),(12,3596),(14,3644),(17,3602)] (.ret false))))) (.use 4 3594 (.ln 3652 Zau.row c.Zap (.us [(8,3652),(12,3596)] (.f1 3650 (.g false) (rfl:false=false) (.use 17 3650 (.ret false))))))) (.use 4 3594 (.f1 3656 (.g false) (rfl:false=false) (.use 12 3656 (.f1 3654 (.g false) (rfl:false=false) (.use 17 3654 (.ret false)))))))) fun v3=>.ret v3))))))))
theorem zhF (c:Zaa) (a:Zar) (res:Bool) (hd:JR c a=some res):APure C0 256 [.agg (Zaa.row c),.agg (Zar.row a)] (.bool res):=
  Zac.pure (iv:=fun res=>.bool res) (zhE c a) (by kernel_rfl) (Zac.run_of hd (by kernel_rfl))
noncomputable def JS (c:Zaa):Option Bool:=
  (Option.bind (Qs c.Zap) fun r1=>(Option.bind (bif r1.2 then (bif decide (c.Zal < 1) then some true else (bif decide (c.Zas < 1) then some true else some (decide ((c.Zad.length:Int) < 1)))) else some true) fun v1=>(bif v1 then some false else (Option.bind (forR (σ:=Unit) (ρ:=Unit) (c.Zad.length:Int) (fun i1 s1=>(Option.bind (ze c.Zad (i1:Int)) fun e1=>(Option.bind (kp c e1) fun r2=>(bif r2 then some (.inl ()) else some (.inr ()))))) ()) (Sum.elim (fun (s1:Unit)=>(Option.bind (forR (σ:=Unit) (ρ:=Unit) (c.Zaj.length:Int) (fun i2 s2=>(Option.bind (ze c.Zaj (i2:Int)) fun e2=>(Option.bind (JR c e2) fun r3=>(bif r3 then some (.inl ()) else some (.inr ()))))) ()) (Sum.elim (fun (s2:Unit)=>(Option.bind (forR (σ:=Unit) (ρ:=Unit) (c.off.length:Int) (fun i3 s3=>(Option.bind (Option.bind (ze c.off (i3:Int)) fun e3=>(bif decide (e3 < 0) then some true else (bif decide (c.Zas≤e3) then some true else (bif decide (0 < (i3:Int)) then (Option.bind (ze c.off (IntKind.i64.wrap ((i3:Int) - 1))) fun e4=>some (decide (e3≤e4))) else some false)))) fun v2=>(bif v2 then some (.inr ()) else some (.inl ())))) ()) (Sum.elim (fun (s3:Unit)=>some true) (fun (y3:Unit)=>some false)))) (fun (y2:Unit)=>some false)))) (fun (y1:Unit)=>some false))))))
noncomputable def zhG (c:Zaa):Zac Bool:=
  .reg 1 (.call 3670 (zfX c.Zap) fun r1=>.use 2 3670 (.cut (β:=Bool) 1 (.e [1] (fun v1=>[(31,vB v1)]) [0] 28) (.reg 0 (.ite 3544 r1.2 (.ite 3546 (decide (c.Zal < 1)) (.us [(3,3545),(8,3546)] (.f1 3672 (.g true) (rfl:true=true) (.use 13 3672 (.ret true)))) (.ite 3548 (decide (c.Zas < 1)) (.us [(3,3545),(8,3546),(13,3548)] (.ret true)) (.us [(3,3545),(8,3546),(13,3548)] (.ln 3674 zb c.Zad (.use 15 3674 (.ret (decide ((c.Zad.length:Int) < 1)))))))) (.use 3 3545 (.f1 3678 (.g true) (rfl:true=true) (.use 8 3678 (.f1 3676 (.g true) (rfl:true=true) (.use 13 3676 (.ret true)))))))) fun v1=>.ite 3550 v1 (.sel 3550 (.ret false)) (.sel 3550 (.forR (σ:=Unit) (ρ:=Unit) 3552 5 (c.Zad.length:Int) () (.e [1] (fun _=>[]) [0] 29) (fun i1 s1=>.reg 0 (.ln 3684 zb c.Zad (.use 3 3684 (.sel 3552 (.reg 0 (.ix 3680 zb c.Zad (i1:Int) fun e1=>.call 3682 (zaf c e1) fun r2=>.us [(4,3680),(6,3682)] (.ite 3556 r2 (.sel 3557 (.ret (.inl ()))) (.sel 3557 (.ret (.inr ())))))))))) fun os1=>.case os1 (fun s1=>.reg 0 (.ln 3704 zb c.Zad (.use 3 3704 (.sel 3552 (.forR (σ:=Unit) (ρ:=Unit) 3558 6 (c.Zaj.length:Int) () (.e [1] (fun _=>[]) [0] 35) (fun i2 s2=>.reg 0 (.ln 3690 Zar.row c.Zaj (.use 3 3690 (.sel 3558 (.reg 0 (.ix 3686 Zar.row c.Zaj (i2:Int) fun e2=>.call 3688 (zhF c e2) fun r3=>.us [(4,3686),(6,3688)] (.ite 3658 r3 (.sel 3659 (.ret (.inl ()))) (.sel 3659 (.ret (.inr ())))))))))) fun os2=>.case os2 (fun s2=>.reg 0 (.ln 3702 Zar.row c.Zaj (.use 3 3702 (.sel 3558 (.forR (σ:=Unit) (ρ:=Unit) 3660 7 (c.off.length:Int) () (.e [1] (fun _=>[]) [0] 41) (fun i3 s3=>.reg 0 (.ln 3698 zb c.off (.use 3 3698 (.sel 3660 (.cut (β:=Bool) 3 (.e [1,7] (fun v2=>[(102,vB v2)]) [0] 80) (.reg 0 (.ix 3692 zb c.off (i3:Int) fun e3=>.ite 3662 (decide (e3 < 0)) (.us [(3,3692),(7,3662)] (.f1 3694 (.g true) (rfl:true=true) (.use 17 3694 (.ret true)))) (.ite 3664 (decide (c.Zas≤e3)) (.us [(3,3692),(7,3662),(10,3692),(17,3664)] (.ret true)) (.ite 3666 (decide (0 < (i3:Int))) (.ix 3696 zb c.off (IntKind.i64.wrap ((i3:Int) - 1)) fun e4=>.us [(3,3692),(7,3662),(10,3692),(17,3664),(20,3666),(24,3696),(29,3692)] (.ret (decide (e3≤e4)))) (.us [(3,3692),(7,3662),(10,3692),(17,3664),(20,3666)] (.ret false)))))) fun v2=>.ite 3668 v2 (.sel 3668 (.ret (.inr ()))) (.sel 3668 (.ret (.inl ())))))))) fun os3=>.case os3 (fun s3=>.reg 0 (.ln 3700 zb c.off (.use 3 3700 (.sel 3660 (.ret true))))) fun y3=>.ret false))))) fun y2=>.ret false))))) fun y1=>.ret false))))
theorem zhH (c:Zaa) (res:Bool) (hd:JS c=some res):APure C0 259 [.agg (Zaa.row c)] (.bool res):=
  Zac.pure (iv:=fun res=>.bool res) (zhG c) (by kernel_rfl) (Zac.run_of hd (by kernel_rfl))
noncomputable def ZP (c:Zaa) (a:Int):Option Bool:=
  (Option.bind (bif decide (0≤a) then some (decide (a < (c.Zaj.length:Int))) else some false) fun v1=>some v1)
noncomputable def zhI (c:Zaa) (a:Int):Zac Bool:=
  .cut (β:=Bool) 2 (.e [] (fun v1=>[(4,vB v1)]) [0] 12) (.reg 0 (.ite 3714 (decide (0≤a)) (.use 3 3714 (.ln 3716 Zar.row c.Zaj (.use 6 3716 (.ret (decide (a < (c.Zaj.length:Int))))))) (.use 3 3714 (.ret false)))) fun v1=>.ret v1
theorem zbE (c:Zaa) (a:Int) (res:Bool) (hd:ZP c a=some res):APure C0 251 [.agg (Zaa.row c),.int .i64 a] (.bool res):=
  Zac.pure (iv:=fun res=>.bool res) (zhI c a) (by kernel_rfl) (Zac.run_of hd (by kernel_rfl))
noncomputable def jE (c:Zaa) (a:Int):Option Bool:=
  (Option.bind (Option.bind (ZP c a) fun r1=>(bif r1 then (Option.bind (ze c.Zaj a) fun e1=>(bif (e1.kind == 1) then some (e1.Zax == (-1)) else some false)) else some false)) fun v1=>some v1)
noncomputable def zcX (c:Zaa) (a:Int):Zac Bool:=
  .cut (β:=Bool) 2 (.e [] (fun v1=>[(4,vB v1)]) [0] 24) (.reg 0 (.call 3754 (zbE c a) fun r1=>.ite 3750 r1 (.ix 3756 Zar.row c.Zaj a fun e1=>.ite 3752 (e1.kind == 1) (.us [(2,3754),(4,3750),(7,3756),(13,3752),(16,3756)] (.ret (e1.Zax == (-1)))) (.us [(2,3754),(4,3750),(7,3756),(13,3752)] (.ret false))) (.us [(2,3754),(4,3750)] (.f1 3758 (.g false) (rfl:false=false) (.use 13 3758 (.ret false)))))) fun v1=>.ret v1
theorem wM (c:Zaa) (a:Int) (res:Bool) (hd:jE c a=some res):APure C0 252 [.agg (Zaa.row c),.int .i64 a] (.bool res):=
  Zac.pure (iv:=fun res=>.bool res) (zcX c a) (by kernel_rfl) (Zac.run_of hd (by kernel_rfl))
noncomputable def kT (c:Zaa) (i:Int):Option Bool:=
  (Option.bind (ze c.Zaf i) fun e1=>(Option.bind (bif decide (e1.kind < 1) then some true else (bif decide (4 < e1.kind) then some true else (Option.bind (ZP c e1.act) fun r1=>(bif r1 then (bif decide (8 < (e1.start.length:Int)) then some true else (bif decide (e1.after < 1) then some true else (bif decide (400 < e1.after) then some true else (bif decide (e1.ZaA < 0) then some true else (bif decide (400 < e1.ZaA) then some true else (bif decide (e1.need < 1) then some true else some (decide (9 < e1.need)))))))) else some true)))) fun v1=>(bif v1 then some false else (Option.bind (bif (e1.kind == 4) then (bif (e1.Zax == (-1)) then (bif (e1.kind == 1) then (bif e1.final then some (decide (2 < e1.kind)) else some false) else (bif (e1.need == 1) then (bif (e1.ZaA == 0) then (bif e1.final then some (decide (2 < e1.kind)) else some false) else some true) else some true)) else some true) else (Option.bind (jU c e1.Zax) fun r2=>(bif r2 then (Option.bind (jE c e1.act) fun r3=>(bif r3 then some true else (bif (e1.kind == 1) then (bif e1.final then some (decide (2 < e1.kind)) else some false) else (bif (e1.need == 1) then (bif (e1.ZaA == 0) then (bif e1.final then some (decide (2 < e1.kind)) else some false) else some true) else some true)))) else some true))) fun v2=>(bif v2 then some false else (Option.bind (forR (σ:=Unit) (ρ:=Unit) (e1.start.length:Int) (fun i1 s1=>(Option.bind (ze e1.start (i1:Int)) fun e2=>(Option.bind (bif decide (e2.clause < 0) then some true else (bif decide ((c.Zaf.length:Int)≤e2.clause) then some true else (bif (e2.clause == i) then some true else (bif decide (e2.is < 1) then some true else some (decide (4 < e2.is)))))) fun v3=>(bif v3 then some (.inr ()) else some (.inl ()))))) ()) (Sum.elim (fun (s1:Unit)=>(Option.bind (bif (e1.pause == (-1)) then (bif (e1.ZaG == (-1)) then some false else (Option.bind (jE c e1.pause) fun r4=>(bif r4 then (Option.bind (jE c e1.ZaG) fun r5=>(bif r5 then some (e1.pause == e1.ZaG) else some true)) else some true))) else (Option.bind (jE c e1.pause) fun r6=>(bif r6 then (Option.bind (jE c e1.ZaG) fun r7=>(bif r7 then some (e1.pause == e1.ZaG) else some true)) else some true))) fun v4=>(bif v4 then some false else (bif (e1.unit == (-1)) then (Option.bind (Option.bind (yO e1.value) fun r8=>(bif r8 then some (e1.to == (-1)) else some false)) fun v5=>some v5) else (Option.bind (bif decide (e1.kind≤2) then (bif decide (0≤e1.unit) then (bif decide (e1.unit < (c.Zap.length:Int)) then (Option.bind (ze c.Zap e1.unit) fun e3=>(bif (e3.kind == 2) then (Option.bind (yP e1.value) fun r9=>(bif r9 then (Option.bind (jU c e1.to) fun r10=>some r10) else some false)) else some false)) else some false) else some false) else some false) fun v6=>some v6))))) (fun (y1:Unit)=>some false))))))))
noncomputable def zeK (c:Zaa) (i:Int):Zac Bool:=
  .reg 1 (.ix 3814 Zan.row c.Zaf i fun e1=>.use 3 3814 (.cut (β:=Bool) 2 (.e [1,2,5] (fun v1=>[(63,vB v1)]) [0,7] 60) (.reg 0 (.ite 3710 (decide (e1.kind < 1)) (.use 4 3710 (.f1 3830 (.g true) (rfl:true=true) (.use 9 3830 (.f1 3828 (.g true) (rfl:true=true) (.use 16 3828 (.f1 3826 (.g true) (rfl:true=true) (.use 22 3826 (.f1 3824 (.g true) (rfl:true=true) (.use 27 3824 (.f1 3822 (.g true) (rfl:true=true) (.use 32 3822 (.f1 3820 (.g true) (rfl:true=true) (.use 37 3820 (.f1 3818 (.g true) (rfl:true=true) (.use 42 3818 (.f1 3816 (.g true) (rfl:true=true) (.use 47 3816 (.ret true)))))))))))))))))) (.ite 3712 (decide (4 < e1.kind)) (.us [(4,3710),(9,3712)] (.f1 3844 (.g true) (rfl:true=true) (.use 16 3844 (.f1 3842 (.g true) (rfl:true=true) (.use 22 3842 (.f1 3840 (.g true) (rfl:true=true) (.use 27 3840 (.f1 3838 (.g true) (rfl:true=true) (.use 32 3838 (.f1 3836 (.g true) (rfl:true=true) (.use 37 3836 (.f1 3834 (.g true) (rfl:true=true) (.use 42 3834 (.f1 3832 (.g true) (rfl:true=true) (.use 47 3832 (.ret true)))))))))))))))) (.call 3846 (zbE c e1.act) fun r1=>.ite 3718 r1 (.ite 3720 (decide (8 < (e1.start.length:Int))) (.us [(4,3710),(9,3712),(12,3846),(16,3719)] (.ln 3858 CondT.row e1.start (.us [(18,3858),(22,3720)] (.f1 3856 (.g true) (rfl:true=true) (.use 27 3856 (.f1 3854 (.g true) (rfl:true=true) (.use 32 3854 (.f1 3852 (.g true) (rfl:true=true) (.use 37 3852 (.f1 3850 (.g true) (rfl:true=true) (.use 42 3850 (.f1 3848 (.g true) (rfl:true=true) (.use 47 3848 (.ret true)))))))))))))) (.ite 3722 (decide (e1.after < 1)) (.us [(4,3710),(9,3712),(12,3846),(16,3719)] (.ln 3868 CondT.row e1.start (.us [(18,3868),(22,3720),(27,3722)] (.f1 3866 (.g true) (rfl:true=true) (.use 32 3866 (.f1 3864 (.g true) (rfl:true=true) (.use 37 3864 (.f1 3862 (.g true) (rfl:true=true) (.use 42 3862 (.f1 3860 (.g true) (rfl:true=true) (.use 47 3860 (.ret true)))))))))))) (.ite 3724 (decide (400 < e1.after)) (.us [(4,3710),(9,3712),(12,3846),(16,3719)] (.ln 3876 CondT.row e1.start (.us [(18,3876),(22,3720),(27,3722),(32,3724)] (.f1 3874 (.g true) (rfl:true=true) (.use 37 3874 (.f1 3872 (.g true) (rfl:true=true) (.use 42 3872 (.f1 3870 (.g true) (rfl:true=true) (.use 47 3870 (.ret true)))))))))) (.ite 3726 (decide (e1.ZaA < 0)) (.us [(4,3710),(9,3712),(12,3846),(16,3719)] (.ln 3882 CondT.row e1.start (.us [(18,3882),(22,3720),(27,3722),(32,3724),(37,3726)] (.f1 3880 (.g true) (rfl:true=true) (.use 42 3880 (.f1 3878 (.g true) (rfl:true=true) (.use 47 3878 (.ret true)))))))) (.ite 3728 (decide (400 < e1.ZaA)) (.us [(4,3710),(9,3712),(12,3846),(16,3719)] (.ln 3886 CondT.row e1.start (.us [(18,3886),(22,3720),(27,3722),(32,3724),(37,3726),(42,3728)] (.f1 3884 (.g true) (rfl:true=true) (.use 47 3884 (.ret true)))))) (.ite 3730 (decide (e1.need < 1)) (.us [(4,3710),(9,3712),(12,3846),(16,3719)] (.ln 3888 CondT.row e1.start (.us [(18,3888),(22,3720),(27,3722),(32,3724),(37,3726),(42,3728),(47,3730)] (.ret true)))) (.us [(4,3710),(9,3712),(12,3846),(16,3719)] (.ln 3890 CondT.row e1.start (.us [(18,3890),(22,3720),(27,3722),(32,3724),(37,3726),(42,3728),(47,3730)] (.ret (decide (9 < e1.need)))))))))))) (.us [(4,3710),(9,3712),(12,3846),(16,3719)] (.f1 3902 (.g true) (rfl:true=true) (.use 22 3902 (.f1 3900 (.g true) (rfl:true=true) (.use 27 3900 (.f1 3898 (.g true) (rfl:true=true) (.use 32 3898 (.f1 3896 (.g true) (rfl:true=true) (.use 37 3896 (.f1 3894 (.g true) (rfl:true=true) (.use 42 3894 (.f1 3892 (.g true) (rfl:true=true) (.use 47 3892 (.ret true)))))))))))))))))) fun v1=>.ite 3732 v1 (.sel 3732 (.ret false)) (.sel 3732 (.cut (β:=Bool) 2 (.e [1,2,5] (fun v2=>[(113,vB v2)]) [0,7] 110) (.reg 0 (.ite 3734 (e1.kind == 4) (.ite 3736 (e1.Zax == (-1)) (.ite 3738 (e1.kind == 1) (.ite 3740 e1.final (.us [(4,3734),(9,3737),(13,3735)] (.f1 3906 (.g false) (rfl:false=false) (.us [(27,3906),(31,3739)] (.f1 3904 (.g false) (rfl:false=false) (.us [(42,3904),(45,3740)] (.ret (decide (2 < e1.kind)))))))) (.us [(4,3734),(9,3737),(13,3735)] (.f1 3910 (.g false) (rfl:false=false) (.us [(27,3910),(31,3739)] (.f1 3908 (.g false) (rfl:false=false) (.us [(42,3908),(45,3740)] (.ret false))))))) (.ite 3742 (e1.need == 1) (.ite 3744 (e1.ZaA == 0) (.ite 3746 e1.final (.us [(4,3734),(9,3737),(13,3735)] (.f1 3912 (.g false) (rfl:false=false) (.us [(27,3912),(31,3739),(35,3743),(42,3745),(45,3746)] (.ret (decide (2 < e1.kind)))))) (.us [(4,3734),(9,3737),(13,3735)] (.f1 3914 (.g false) (rfl:false=false) (.us [(27,3914),(31,3739),(35,3743),(42,3745),(45,3746)] (.ret false))))) (.us [(4,3734),(9,3737),(13,3735)] (.f1 3916 (.g false) (rfl:false=false) (.us [(27,3916),(31,3739),(35,3743),(42,3745)] (.ret true))))) (.us [(4,3734),(9,3737),(13,3735)] (.f1 3920 (.g false) (rfl:false=false) (.us [(27,3920),(31,3739),(35,3743)] (.f1 3918 (.g true) (rfl:true=true) (.use 42 3918 (.ret true)))))))) (.us [(4,3734),(9,3737)] (.f1 3924 (.g true) (rfl:true=true) (.use 27 3924 (.f1 3922 (.g true) (rfl:true=true) (.use 42 3922 (.ret true))))))) (.call 3926 (vz c e1.Zax) fun r2=>.ite 3748 r2 (.call 3928 (wM c e1.act) fun r3=>.ite 3760 r3 (.use 4 3734 (.f1 3932 (.g false) (rfl:false=false) (.us [(9,3932),(13,3735),(16,3926),(19,3749),(22,3928),(27,3760)] (.f1 3930 (.g true) (rfl:true=true) (.use 42 3930 (.ret true)))))) (.ite 3762 (e1.kind == 1) (.ite 3764 e1.final (.use 4 3734 (.f1 3936 (.g false) (rfl:false=false) (.us [(9,3936),(13,3735),(16,3926),(19,3749),(22,3928),(27,3760),(31,3763)] (.f1 3934 (.g false) (rfl:false=false) (.us [(42,3934),(45,3764)] (.ret (decide (2 < e1.kind)))))))) (.use 4 3734 (.f1 3940 (.g false) (rfl:false=false) (.us [(9,3940),(13,3735),(16,3926),(19,3749),(22,3928),(27,3760),(31,3763)] (.f1 3938 (.g false) (rfl:false=false) (.us [(42,3938),(45,3764)] (.ret false))))))) (.ite 3766 (e1.need == 1) (.ite 3768 (e1.ZaA == 0) (.ite 3770 e1.final (.use 4 3734 (.f1 3942 (.g false) (rfl:false=false) (.us [(9,3942),(13,3735),(16,3926),(19,3749),(22,3928),(27,3760),(31,3763),(35,3767),(42,3769),(45,3770)] (.ret (decide (2 < e1.kind)))))) (.use 4 3734 (.f1 3944 (.g false) (rfl:false=false) (.us [(9,3944),(13,3735),(16,3926),(19,3749),(22,3928),(27,3760),(31,3763),(35,3767),(42,3769),(45,3770)] (.ret false))))) (.use 4 3734 (.f1 3946 (.g false) (rfl:false=false) (.us [(9,3946),(13,3735),(16,3926),(19,3749),(22,3928),(27,3760),(31,3763),(35,3767),(42,3769)] (.ret true))))) (.use 4 3734 (.f1 3950 (.g false) (rfl:false=false) (.us [(9,3950),(13,3735),(16,3926),(19,3749),(22,3928),(27,3760),(31,3763),(35,3767)] (.f1 3948 (.g true) (rfl:true=true) (.use 42 3948 (.ret true))))))))) (.use 4 3734 (.f1 3956 (.g false) (rfl:false=false) (.us [(9,3956),(13,3735),(16,3926),(19,3749)] (.f1 3954 (.g true) (rfl:true=true) (.use 27 3954 (.f1 3952 (.g true) (rfl:true=true) (.use 42 3952 (.ret true))))))))))) fun v2=>.ite 3772 v2 (.sel 3772 (.ret false)) (.sel 3772 (.forR (σ:=Unit) (ρ:=Unit) 3774 6 (e1.start.length:Int) () (.e [1,2,5] (fun _=>[]) [0,7] 111) (fun i1 s1=>.reg 0 (.ln 3980 CondT.row e1.start (.use 3 3980 (.sel 3774 (.reg 0 (.ix 3958 CondT.row e1.start (i1:Int) fun e2=>.use 3 3958 (.cut (β:=Bool) 1 (.e [1,2,5,6] (fun v3=>[(152,vB v3)]) [0,7,121] 150) (.reg 0 (.ite 3776 (decide (e2.clause < 0)) (.use 4 3776 (.f1 3964 (.g true) (rfl:true=true) (.use 12 3964 (.f1 3962 (.g true) (rfl:true=true) (.use 18 3962 (.f1 3960 (.g true) (rfl:true=true) (.use 23 3960 (.ret true)))))))) (.ite 3778 (decide ((c.Zaf.length:Int)≤e2.clause)) (.use 4 3776 (.ln 3970 Zan.row c.Zaf (.us [(8,3970),(12,3778)] (.f1 3968 (.g true) (rfl:true=true) (.use 18 3968 (.f1 3966 (.g true) (rfl:true=true) (.use 23 3966 (.ret true)))))))) (.ite 3780 (e2.clause == i) (.use 4 3776 (.ln 3974 Zan.row c.Zaf (.us [(8,3974),(12,3778),(18,3780)] (.f1 3972 (.g true) (rfl:true=true) (.use 23 3972 (.ret true)))))) (.ite 3782 (decide (e2.is < 1)) (.use 4 3776 (.ln 3976 Zan.row c.Zaf (.us [(8,3976),(12,3778),(18,3780),(23,3782)] (.ret true)))) (.use 4 3776 (.ln 3978 Zan.row c.Zaf (.us [(8,3978),(12,3778),(18,3780),(23,3782)] (.ret (decide (4 < e2.is))))))))))) fun v3=>.ite 3784 v3 (.sel 3784 (.ret (.inr ()))) (.sel 3784 (.ret (.inl ())))))))))) fun os1=>.case os1 (fun s1=>.reg 0 (.ln 4036 CondT.row e1.start (.use 3 4036 (.sel 3774 (.cut (β:=Bool) 2 (.e [2,5] (fun v4=>[(181,vB v4)]) [0,7] 145) (.reg 0 (.ite 3786 (e1.pause == (-1)) (.ite 3788 (e1.ZaG == (-1)) (.us [(4,3787),(9,3789)] (.ret false)) (.call 3982 (wM c e1.pause) fun r4=>.ite 3790 r4 (.call 3984 (wM c e1.ZaG) fun r5=>.ite 3792 r5 (.us [(4,3787),(9,3789),(12,3982),(15,3791),(18,3984),(22,3793)] (.ret (e1.pause == e1.ZaG))) (.us [(4,3787),(9,3789),(12,3982),(15,3791),(18,3984),(22,3793)] (.ret true))) (.us [(4,3787),(9,3789),(12,3982),(15,3791)] (.f1 3986 (.g true) (rfl:true=true) (.use 22 3986 (.ret true)))))) (.call 3988 (wM c e1.pause) fun r6=>.ite 3794 r6 (.call 3990 (wM c e1.ZaG) fun r7=>.ite 3796 r7 (.use 4 3787 (.f1 3992 (.g true) (rfl:true=true) (.us [(9,3992),(12,3988),(15,3795),(18,3990),(22,3797)] (.ret (e1.pause == e1.ZaG))))) (.use 4 3787 (.f1 3994 (.g true) (rfl:true=true) (.us [(9,3994),(12,3988),(15,3795),(18,3990),(22,3797)] (.ret true))))) (.use 4 3787 (.f1 3998 (.g true) (rfl:true=true) (.us [(9,3998),(12,3988),(15,3795)] (.f1 3996 (.g true) (rfl:true=true) (.use 22 3996 (.ret true))))))))) fun v4=>.ite 3798 v4 (.sel 3798 (.ret false)) (.sel 3798 (.ite 3800 (e1.unit == (-1)) (.sel 3800 (.cut (β:=Bool) 1 (.e [] (fun v5=>[(4,vB v5)]) [0,7] 157) (.reg 0 (.call 4000 (Vt e1.value) fun r8=>.ite 3802 r8 (.us [(2,4000),(4,3802)] (.ret (e1.to == (-1)))) (.us [(2,4000),(4,3802)] (.ret false)))) fun v5=>.ret v5)) (.sel 3800 (.cut (β:=Bool) 1 (.e [] (fun v6=>[(4,vB v6)]) [0,7] 186) (.reg 0 (.ite 3804 (decide (e1.kind≤2)) (.ite 3806 (decide (0≤e1.unit)) (.ite 3808 (decide (e1.unit < (c.Zap.length:Int))) (.ix 4002 Zau.row c.Zap e1.unit fun e3=>.ite 3810 (e3.kind == 2) (.call 4004 (zbD e1.value) fun r9=>.ite 3812 r9 (.call 4006 (vz c e1.to) fun r10=>.us [(4,3804),(9,3806)] (.ln 4008 Zau.row c.Zap (.us [(13,4008),(17,3808),(21,4002),(27,3810),(29,4004),(32,3812),(35,4006)] (.ret r10)))) (.us [(4,3804),(9,3806)] (.ln 4010 Zau.row c.Zap (.us [(13,4010),(17,3808),(21,4002),(27,3810),(29,4004),(32,3812)] (.ret false))))) (.us [(4,3804),(9,3806)] (.ln 4014 Zau.row c.Zap (.us [(13,4014),(17,3808),(21,4002),(27,3810)] (.f1 4012 (.g false) (rfl:false=false) (.use 32 4012 (.ret false))))))) (.us [(4,3804),(9,3806)] (.ln 4020 Zau.row c.Zap (.us [(13,4020),(17,3808)] (.f1 4018 (.g false) (rfl:false=false) (.use 27 4018 (.f1 4016 (.g false) (rfl:false=false) (.use 32 4016 (.ret false))))))))) (.us [(4,3804),(9,3806)] (.f1 4026 (.g false) (rfl:false=false) (.use 17 4026 (.f1 4024 (.g false) (rfl:false=false) (.use 27 4024 (.f1 4022 (.g false) (rfl:false=false) (.use 32 4022 (.ret false))))))))) (.use 4 3804 (.f1 4034 (.g false) (rfl:false=false) (.use 9 4034 (.f1 4032 (.g false) (rfl:false=false) (.use 17 4032 (.f1 4030 (.g false) (rfl:false=false) (.use 27 4030 (.f1 4028 (.g false) (rfl:false=false) (.use 32 4028 (.ret false)))))))))))) fun v6=>.ret v6))))))))) fun y1=>.ret false))))))
theorem zeL (c:Zaa) (i:Int) (res:Bool) (hd:kT c i=some res):APure C0 257 [.agg (Zaa.row c),.int .i64 i] (.bool res):=
  Zac.pure (iv:=fun res=>.bool res) (zeK c i) (by kernel_rfl) (Zac.run_of hd (by kernel_rfl))
noncomputable def Qt (c:Zaa):Option (Int×Int):=
  (Option.bind (bif decide (12 < c.Zal) then some true else (bif decide (2000 < c.Zas) then some true else (bif decide (12 < (c.Zad.length:Int)) then some true else (bif decide (20 < (c.Zap.length:Int)) then some true else (bif decide (60 < (c.Zaj.length:Int)) then some true else some (decide (400 < (c.Zaf.length:Int)))))))) fun v1=>(bif v1 then some (3,(-1)) else (Option.bind (JS c) fun r1=>(bif r1 then (Option.bind (forR (σ:=Unit) (ρ:=Int) (c.Zaf.length:Int) (fun i1 s1=>(Option.bind (kT c (i1:Int)) fun r2=>(bif r2 then some (.inl ()) else some (.inr (i1:Int))))) ()) (Sum.elim (fun (s1:Unit)=>some (0,(-1))) (fun (y1:Int)=>some (1,y1)))) else some (1,(-1))))))
noncomputable def zfZ (c:Zaa):Zac (Int×Int):=
  .cut (β:=Bool) 3 (.e [1] (fun v1=>[(36,vB v1)]) [0] 35) (.reg 0 (.ite 3394 (decide (12 < c.Zal)) (.use 4 3394 (.f1 4046 (.g true) (rfl:true=true) (.use 9 4046 (.f1 4044 (.g true) (rfl:true=true) (.use 15 4044 (.f1 4042 (.g true) (rfl:true=true) (.use 21 4042 (.f1 4040 (.g true) (rfl:true=true) (.use 27 4040 (.ret true)))))))))) (.ite 3396 (decide (2000 < c.Zas)) (.us [(4,3394),(9,3396)] (.f1 4052 (.g true) (rfl:true=true) (.use 15 4052 (.f1 4050 (.g true) (rfl:true=true) (.use 21 4050 (.f1 4048 (.g true) (rfl:true=true) (.use 27 4048 (.ret true)))))))) (.ite 3398 (decide (12 < (c.Zad.length:Int))) (.us [(4,3394),(9,3396)] (.ln 4058 zb c.Zad (.us [(11,4058),(15,3398)] (.f1 4056 (.g true) (rfl:true=true) (.use 21 4056 (.f1 4054 (.g true) (rfl:true=true) (.use 27 4054 (.ret true)))))))) (.ite 3400 (decide (20 < (c.Zap.length:Int))) (.us [(4,3394),(9,3396)] (.ln 4064 zb c.Zad (.us [(11,4064),(15,3398)] (.ln 4062 Zau.row c.Zap (.us [(17,4062),(21,3400)] (.f1 4060 (.g true) (rfl:true=true) (.use 27 4060 (.ret true)))))))) (.ite 3402 (decide (60 < (c.Zaj.length:Int))) (.us [(4,3394),(9,3396)] (.ln 4070 zb c.Zad (.us [(11,4070),(15,3398)] (.ln 4068 Zau.row c.Zap (.us [(17,4068),(21,3400)] (.ln 4066 Zar.row c.Zaj (.us [(23,4066),(27,3402)] (.ret true)))))))) (.us [(4,3394),(9,3396)] (.ln 4078 zb c.Zad (.us [(11,4078),(15,3398)] (.ln 4076 Zau.row c.Zap (.us [(17,4076),(21,3400)] (.ln 4074 Zar.row c.Zaj (.us [(23,4074),(27,3402)] (.ln 4072 Zan.row c.Zaf (.use 29 4072 (.ret (decide (400 < (c.Zaf.length:Int))))))))))))))))))) fun v1=>.ite 3404 v1 (.sel 3404 (.ret (3,(-1)))) (.sel 3404 (.reg 0 (.call 4080 (zhH c) fun r1=>.use 1 4080 (.ite 3706 r1 (.sel 3707 (.forR (σ:=Unit) (ρ:=Int) 3708 4 (c.Zaf.length:Int) () (.e [1] (fun _=>[]) [0] 39) (fun i1 s1=>.reg 0 (.ln 4084 Zan.row c.Zaf (.use 3 4084 (.sel 3708 (.reg 0 (.call 4082 (zeL c (i1:Int)) fun r2=>.use 2 4082 (.ite 4038 r2 (.sel 4039 (.ret (.inl ()))) (.sel 4039 (.ret (.inr (i1:Int))))))))))) fun os1=>.case os1 (fun s1=>.reg 0 (.ln 4086 Zan.row c.Zaf (.use 3 4086 (.sel 3708 (.ret (0,(-1))))))) fun y1=>.ret (1,y1))) (.sel 3707 (.ret (1,(-1))))))))
theorem zf0 (c:Zaa) (res:Int×Int) (hd:Qt c=some res):APure C0 255 [.agg (Zaa.row c)] (.tuple [.int .i64 res.1,.int .i64 res.2]):=
  Zac.pure (iv:=fun res=>.tuple [.int .i64 res.1,.int .i64 res.2]) (zfZ c) (by kernel_rfl) (Zac.run_of hd (by kernel_rfl))
noncomputable def JT (c:Zaa):Option Bool:=
  (Option.bind (Qt c) fun r1=>some (r1.1 == 0))
noncomputable def zhJ (c:Zaa):Zac Bool:=
  .reg 1 (.call 4088 (zf0 c) fun r1=>.use 1 4088 (.ret (r1.1 == 0)))
theorem zhK (c:Zaa) (res:Bool) (hd:JT c=some res):APure C0 274 [.agg (Zaa.row c)] (.bool res):=
  Zac.pure (iv:=fun res=>.bool res) (zhJ c) (by kernel_rfl) (Zac.run_of hd (by kernel_rfl))
noncomputable def XD (m:zw):Option Bool:=
  (Option.bind (bif (m.Zak == 3) then some true else (bif (m.Zak == 4) then some true else some (m.Zak == 5))) fun v1=>some v1)
noncomputable def zf1 (m:zw):Zac Bool:=
  .cut (β:=Bool) 2 (.e [] (fun v1=>[(2,vB v1)]) [0] 16) (.reg 0 (.ite 4116 (m.Zak == 3) (.use 4 4116 (.f1 4120 (.g true) (rfl:true=true) (.use 9 4120 (.ret true)))) (.ite 4118 (m.Zak == 4) (.us [(4,4116),(9,4118)] (.ret true)) (.us [(4,4116),(9,4118)] (.ret (m.Zak == 5)))))) fun v1=>.ret v1
theorem zf2 (m:zw) (res:Bool) (hd:XD m=some res):APure C0 265 [.agg (zw.row m)] (.bool res):=
  Zac.pure (iv:=fun res=>.bool res) (zf1 m) (by kernel_rfl) (Zac.run_of hd (by kernel_rfl))
noncomputable def jV (m:zw):Option Bool:=
  (Option.bind (bif (m.Zak == 1) then some true else some (m.Zak == 2)) fun v1=>some v1)
noncomputable def zhL (m:zw):Zac Bool:=
  .cut (β:=Bool) 2 (.e [] (fun v1=>[(2,vB v1)]) [0] 11) (.reg 0 (.ite 4138 (m.Zak == 1) (.use 4 4138 (.ret true)) (.use 4 4138 (.ret (m.Zak == 2))))) fun v1=>.ret v1
theorem JU (m:zw) (res:Bool) (hd:jV m=some res):APure C0 267 [.agg (zw.row m)] (.bool res):=
  Zac.pure (iv:=fun res=>.bool res) (zhL m) (by kernel_rfl) (Zac.run_of hd (by kernel_rfl))
noncomputable def JV (c:Zaa) (x:Zan) (m:zw):Option Bool:=
  (Option.bind (XD m) fun r1=>(bif r1 then (Option.bind (bif (m.left == 0) then (bif decide (0≤m.got) then (bif decide (m.got≤9) then (bif decide ((-1)≤m.Zaq) then (bif decide (m.Zaq < c.Zal) then some (!m.Zat) else some false) else some false) else some false) else some false) else some false) fun v1=>some v1) else (bif x.waived then some false else (bif (m.Zak == 0) then some ((m.Zak == 0)&&((m.left == 0)&&((m.got == 0)&&((m.Zaq == (-1))&&((m.Zat == false)&&true))))) else (Option.bind (Option.bind (jV m) fun r2=>(bif r2 then (bif decide (m.got < 0) then some true else (bif m.Zat then some (x.pause == (-1)) else some false)) else some true)) fun v2=>(bif v2 then some false else (Option.bind (bif (x.kind == 1) then (bif decide (x.need≤m.got) then some true else some false) else some (!(m.got == 0))) fun v3=>(bif v3 then some false else (Option.bind (bif (x.kind == 4) then (bif (m.Zaq == (-1)) then some false else some true) else (bif decide (m.Zaq < 0) then some true else some (decide (c.Zal≤m.Zaq)))) fun v4=>(bif v4 then some false else (bif (m.Zak == 1) then (Option.bind (bif decide (1≤m.left) then some (decide (m.left≤x.after)) else some false) fun v5=>some v5) else (Option.bind (bif (x.kind == 1) then (bif decide (1≤m.left) then some (decide (m.left≤x.ZaA)) else some false) else some false) fun v6=>some v6))))))))))))
noncomputable def zhM (c:Zaa) (x:Zan) (m:zw):Zac Bool:=
  .reg 1 (.call 4170 (zf2 m) fun r1=>.use 1 4170 (.ite 4122 r1 (.sel 4122 (.cut (β:=Bool) 1 (.e [] (fun v1=>[(6,vB v1)]) [0,1,2] 37) (.reg 0 (.ite 4124 (m.left == 0) (.ite 4126 (decide (0≤m.got)) (.ite 4128 (decide (m.got≤9)) (.ite 4130 (decide ((-1)≤m.Zaq)) (.ite 4132 (decide (m.Zaq < c.Zal)) (.us [(4,4124),(9,4126),(14,4128),(19,4130),(26,4132)] (.ret (!m.Zat))) (.us [(4,4124),(9,4126),(14,4128),(19,4130),(26,4132)] (.ret false))) (.us [(4,4124),(9,4126),(14,4128),(19,4130)] (.f1 4172 (.g false) (rfl:false=false) (.use 26 4172 (.ret false))))) (.us [(4,4124),(9,4126),(14,4128)] (.f1 4176 (.g false) (rfl:false=false) (.use 19 4176 (.f1 4174 (.g false) (rfl:false=false) (.use 26 4174 (.ret false))))))) (.us [(4,4124),(9,4126)] (.f1 4182 (.g false) (rfl:false=false) (.use 14 4182 (.f1 4180 (.g false) (rfl:false=false) (.use 19 4180 (.f1 4178 (.g false) (rfl:false=false) (.use 26 4178 (.ret false))))))))) (.use 4 4124 (.f1 4190 (.g false) (rfl:false=false) (.use 9 4190 (.f1 4188 (.g false) (rfl:false=false) (.use 14 4188 (.f1 4186 (.g false) (rfl:false=false) (.use 19 4186 (.f1 4184 (.g false) (rfl:false=false) (.use 26 4184 (.ret false)))))))))))) fun v1=>.ret v1)) (.sel 4122 (.ite 4134 x.waived (.sel 4134 (.ret false)) (.sel 4134 (.ite 4136 (m.Zak == 0) (.sel 4136 (.ret ((m.Zak == 0)&&((m.left == 0)&&((m.got == 0)&&((m.Zaq == (-1))&&((m.Zat == false)&&true))))))) (.sel 4136 (.cut (β:=Bool) 2 (.e [3,4,5] (fun v2=>[(63,vB v2)]) [0,1,2] 28) (.reg 0 (.call 4192 (JU m) fun r2=>.ite 4140 r2 (.ite 4142 (decide (m.got < 0)) (.us [(1,4192),(4,4141),(9,4142)] (.ret true)) (.ite 4144 m.Zat (.us [(1,4192),(4,4141),(9,4142),(12,4144)] (.ret (x.pause == (-1)))) (.us [(1,4192),(4,4141),(9,4142),(12,4144)] (.ret false)))) (.us [(1,4192),(4,4141)] (.f1 4194 (.g true) (rfl:true=true) (.use 9 4194 (.ret true)))))) fun v2=>.ite 4146 v2 (.sel 4146 (.ret false)) (.sel 4146 (.cut (β:=Bool) 2 (.e [3,4,5] (fun v3=>[(83,vB v3)]) [0,1,2] 48) (.reg 0 (.ite 4148 (x.kind == 1) (.ite 4150 (decide (x.need≤m.got)) (.us [(4,4148),(11,4150)] (.ret true)) (.us [(4,4148),(11,4150),(15,4149)] (.ret false))) (.use 4 4148 (.f1 4196 (.g false) (rfl:false=false) (.us [(11,4196),(15,4149)] (.ret (!(m.got == 0)))))))) fun v3=>.ite 4152 v3 (.sel 4152 (.ret false)) (.sel 4152 (.cut (β:=Bool) 2 (.e [4,5] (fun v4=>[(108,vB v4)]) [0,1,2] 73) (.reg 0 (.ite 4154 (x.kind == 4) (.ite 4156 (m.Zaq == (-1)) (.us [(4,4154),(9,4157),(13,4155)] (.ret false)) (.us [(4,4154),(9,4157)] (.ret true))) (.ite 4158 (decide (m.Zaq < 0)) (.use 4 4154 (.f1 4198 (.g false) (rfl:false=false) (.us [(9,4198),(13,4155),(17,4158)] (.ret true)))) (.use 4 4154 (.f1 4200 (.g false) (rfl:false=false) (.us [(9,4200),(13,4155),(17,4158)] (.ret (decide (c.Zal≤m.Zaq))))))))) fun v4=>.ite 4160 v4 (.sel 4160 (.ret false)) (.sel 4160 (.ite 4162 (m.Zak == 1) (.sel 4162 (.cut (β:=Bool) 1 (.e [] (fun v5=>[(6,vB v5)]) [0,1,2] 87) (.reg 0 (.ite 4164 (decide (1≤m.left)) (.use 4 4164 (.ret (decide (m.left≤x.after)))) (.use 4 4164 (.ret false)))) fun v5=>.ret v5)) (.sel 4162 (.cut (β:=Bool) 1 (.e [] (fun v6=>[(6,vB v6)]) [0,1,2] 92) (.reg 0 (.ite 4166 (x.kind == 1) (.ite 4168 (decide (1≤m.left)) (.us [(4,4166),(9,4168)] (.ret (decide (m.left≤x.ZaA)))) (.us [(4,4166),(9,4168)] (.ret false))) (.use 4 4166 (.f1 4202 (.g false) (rfl:false=false) (.use 9 4202 (.ret false)))))) fun v6=>.ret v6))))))))))))))))
theorem zhN (c:Zaa) (x:Zan) (m:zw) (res:Bool) (hd:JV c x m=some res):APure C0 275 [.agg (Zaa.row c),.agg (Zan.row x),.agg (zw.row m)] (.bool res):=
  Zac.pure (iv:=fun res=>.bool res) (zhM c x m) (by kernel_rfl) (Zac.run_of hd (by kernel_rfl))
noncomputable def ku (Zag:List zw) (x:CondT):Option Bool:=
  (Option.bind (ze Zag x.clause) fun e1=>(bif (x.is == 1) then some (!(e1.Zak == 0)) else some (e1.Zak == (IntKind.i64.wrap (x.is+1)))))
noncomputable def zf3 (Zag:List zw) (x:CondT):Zac Bool:=
  .reg 1 (.ix 4218 zw.row Zag x.clause fun e1=>.use 3 4218 (.ite 4216 (x.is == 1) (.sel 4216 (.ret (!(e1.Zak == 0)))) (.sel 4216 (.ret (e1.Zak == (IntKind.i64.wrap (x.is+1)))))))
theorem zf4 (Zag:List zw) (x:CondT) (res:Bool) (hd:ku Zag x=some res):APure C0 266 [.slice (List.map zw.row Zag),.agg (CondT.row x)] (.bool res):=
  Zac.pure (iv:=fun res=>.bool res) (zf3 Zag x) (by kernel_rfl) (Zac.run_of hd (by kernel_rfl))
noncomputable def vA (c:Zaa) (Zag:List zw) (i:Int):Option Bool:=
  (Option.bind (Option.bind (ze Zag i) fun e1=>(bif (e1.Zak == 0) then (Option.bind (ze c.Zaf i) fun e2=>some e2.waived) else some true)) fun v1=>(bif v1 then some false else (Option.bind (α:=Unit ⊕ Unit) (Option.bind (iter (σ:=Int) (ρ:=Unit ⊕ Unit) (fun s1=>(Option.bind (ze c.Zaf i) fun e3=>(bif decide (s1 < (e3.start.length:Int)) then (Option.bind (ze c.Zaf i) fun e4=>(Option.bind (ze e4.start s1) fun e5=>(Option.bind (ku Zag e5) fun r1=>(bif r1 then some (.inl (IntKind.i64.wrap (s1+1))) else some (.inr (.inr ())))))) else some (.inr (.inl ()))))) 0) (Sum.elim (fun (y1:Unit)=>some (.inl ())) (fun (y2:Unit)=>some (.inr ())))) (Sum.elim (fun (v2:Unit)=>some true) (fun (y3:Unit)=>some false)))))
noncomputable def zf5 (c:Zaa) (Zag:List zw) (i:Int):Zac Bool:=
  .cut (β:=Bool) 3 (.e [1,2,3] (fun v1=>[(21,vB v1)]) [0] 16) (.reg 0 (.ix 4222 zw.row Zag i fun e1=>.ite 4208 (e1.Zak == 0) (.ix 4224 Zan.row c.Zaf i fun e2=>.us [(2,4222),(7,4209),(10,4224)] (.ret e2.waived)) (.us [(2,4222),(7,4209)] (.ret true)))) fun v1=>.ite 4210 v1 (.sel 4210 (.ret false)) (.sel 4210 (.cutO (β:=Unit) (γ:=Unit) 1 (.e [] (fun _=>[]) [] 17) (.iter (σ:=Int) (ρ:=Unit ⊕ Unit) 0 (.e [1,2,3] (fun s1=>[(7,vI s1)]) [0] 17) (fun s1=>.reg 0 (.ix 4226 Zan.row c.Zaf i fun e3=>.use 4 4226 (.ln 4234 CondT.row e3.start (.use 7 4234 (.ite 4214 (decide (s1 < (e3.start.length:Int))) (.sel 4214 (.reg 0 (.ix 4228 Zan.row c.Zaf i fun e4=>.ix 4230 CondT.row e4.start s1 fun e5=>.call 4232 (zf4 Zag e5) fun r1=>.us [(4,4228),(8,4230),(10,4232)] (.ite 4220 r1 (.sel 4221 (.ret (.inl (IntKind.i64.wrap (s1+1))))) (.sel 4221 (.ret (.inr (.inr ())))))))) (.sel 4214 (.ret (.inr (.inl ()))))))))) fun os1=>.case os1 (fun y1=>.ret (.inl ())) fun y2=>.ret (.inr ())) fun o_v2=>.case o_v2 (fun v2=>.ret true) fun y3=>.ret false))
theorem zag (c:Zaa) (Zag:List zw) (i:Int) (res:Bool) (hd:vA c Zag i=some res):APure C0 277 [.agg (Zaa.row c),.slice (List.map zw.row Zag),.int .i64 i] (.bool res):=
  Zac.pure (iv:=fun res=>.bool res) (zf5 c Zag i) (by kernel_rfl) (Zac.run_of hd (by kernel_rfl))
noncomputable def xC (c:Zaa) (s:Zao):Option Bool:=
  (Option.bind (Option.bind (JT c) fun r1=>(bif r1 then (bif decide (s.day < 0) then some true else (bif decide (c.Zas < s.day) then some true else (bif ((s.Zad.length:Int) == (c.Zad.length:Int)) then (bif ((s.used.length:Int) == (c.Zaj.length:Int)) then some (!((s.Zag.length:Int) == (c.Zaf.length:Int))) else some true) else some true))) else some true)) fun v1=>(bif v1 then some false else (Option.bind (forR (σ:=Unit) (ρ:=Unit) (s.Zad.length:Int) (fun i1 s1=>(Option.bind (Option.bind (ze s.Zad (i1:Int)) fun e1=>(bif decide (e1 < 0) then some true else some (decide (c.Zal≤e1)))) fun v2=>(bif v2 then some (.inr ()) else some (.inl ())))) ()) (Sum.elim (fun (s1:Unit)=>(Option.bind (forR (σ:=Unit) (ρ:=Unit) (s.used.length:Int) (fun i2 s2=>(Option.bind (Option.bind (ze s.used (i2:Int)) fun e2=>(bif e2 then (Option.bind (ze c.Zaj (i2:Int)) fun e3=>some (e3.kind == 1)) else some false)) fun v3=>(bif v3 then some (.inr ()) else some (.inl ())))) ()) (Sum.elim (fun (s2:Unit)=>(Option.bind (forR (σ:=Unit) (ρ:=Unit) (s.Zag.length:Int) (fun i3 s3=>(Option.bind (ze c.Zaf (i3:Int)) fun e4=>(Option.bind (ze s.Zag (i3:Int)) fun e5=>(Option.bind (JV c e4 e5) fun r2=>(bif r2 then some (.inl ()) else some (.inr ())))))) ()) (Sum.elim (fun (s3:Unit)=>(Option.bind (forR (σ:=Unit) (ρ:=Unit) (s.Zag.length:Int) (fun i4 s4=>(Option.bind (vA c s.Zag (i4:Int)) fun r3=>(bif r3 then some (.inr ()) else some (.inl ())))) ()) (Sum.elim (fun (s4:Unit)=>some true) (fun (y4:Unit)=>some false)))) (fun (y3:Unit)=>some false)))) (fun (y2:Unit)=>some false)))) (fun (y1:Unit)=>some false)))))
noncomputable def zeM (c:Zaa) (s:Zao):Zac Bool:=
  .cut (β:=Bool) 3 (.e [2,3] (fun v1=>[(50,vB v1)]) [0,1] 45) (.reg 0 (.call 4238 (zhK c) fun r1=>.ite 4090 r1 (.ite 4092 (decide (s.day < 0)) (.us [(1,4238),(4,4091),(9,4092)] (.f1 4244 (.g true) (rfl:true=true) (.use 16 4244 (.f1 4242 (.g true) (rfl:true=true) (.use 25 4242 (.f1 4240 (.g true) (rfl:true=true) (.use 34 4240 (.ret true)))))))) (.ite 4094 (decide (c.Zas < s.day)) (.us [(1,4238),(4,4091),(9,4092),(16,4094)] (.f1 4248 (.g true) (rfl:true=true) (.use 25 4248 (.f1 4246 (.g true) (rfl:true=true) (.use 34 4246 (.ret true)))))) (.ite 4096 ((s.Zad.length:Int) == (c.Zad.length:Int)) (.ite 4098 ((s.used.length:Int) == (c.Zaj.length:Int)) (.us [(1,4238),(4,4091),(9,4092),(16,4094)] (.ln 4260 zb s.Zad (.use 18 4260 (.ln 4258 zb c.Zad (.us [(21,4258),(25,4097)] (.ln 4256 zg s.used (.use 27 4256 (.ln 4254 Zar.row c.Zaj (.us [(30,4254),(34,4099)] (.ln 4252 zw.row s.Zag (.use 36 4252 (.ln 4250 Zan.row c.Zaf (.use 39 4250 (.ret (!((s.Zag.length:Int) == (c.Zaf.length:Int))))))))))))))))) (.us [(1,4238),(4,4091),(9,4092),(16,4094)] (.ln 4268 zb s.Zad (.use 18 4268 (.ln 4266 zb c.Zad (.us [(21,4266),(25,4097)] (.ln 4264 zg s.used (.use 27 4264 (.ln 4262 Zar.row c.Zaj (.us [(30,4262),(34,4099)] (.ret true))))))))))) (.us [(1,4238),(4,4091),(9,4092),(16,4094)] (.ln 4274 zb s.Zad (.use 18 4274 (.ln 4272 zb c.Zad (.us [(21,4272),(25,4097)] (.f1 4270 (.g true) (rfl:true=true) (.use 34 4270 (.ret true))))))))))) (.us [(1,4238),(4,4091)] (.f1 4282 (.g true) (rfl:true=true) (.use 9 4282 (.f1 4280 (.g true) (rfl:true=true) (.use 16 4280 (.f1 4278 (.g true) (rfl:true=true) (.use 25 4278 (.f1 4276 (.g true) (rfl:true=true) (.use 34 4276 (.ret true)))))))))))) fun v1=>.ite 4100 v1 (.sel 4100 (.ret false)) (.sel 4100 (.forR (σ:=Unit) (ρ:=Unit) 4102 5 (s.Zad.length:Int) () (.e [2,3] (fun _=>[]) [0,1] 46) (fun i1 s1=>.reg 0 (.ln 4286 zb s.Zad (.use 3 4286 (.sel 4102 (.cut (β:=Bool) 3 (.e [2,3,5] (fun v2=>[(73,vB v2)]) [0,1] 67) (.reg 0 (.ix 4284 zb s.Zad (i1:Int) fun e1=>.ite 4104 (decide (e1 < 0)) (.us [(3,4284),(7,4104)] (.ret true)) (.us [(3,4284),(7,4104),(10,4284)] (.ret (decide (c.Zal≤e1)))))) fun v2=>.ite 4106 v2 (.sel 4106 (.ret (.inr ()))) (.sel 4106 (.ret (.inl ())))))))) fun os1=>.case os1 (fun s1=>.reg 0 (.ln 4312 zb s.Zad (.use 3 4312 (.sel 4102 (.forR (σ:=Unit) (ρ:=Unit) 4108 6 (s.used.length:Int) () (.e [2,3] (fun _=>[]) [0,1] 52) (fun i2 s2=>.reg 0 (.ln 4292 zg s.used (.use 3 4292 (.sel 4108 (.cut (β:=Bool) 3 (.e [2,3,6] (fun v3=>[(94,vB v3)]) [0,1] 71) (.reg 0 (.ix 4288 zg s.used (i2:Int) fun e2=>.ite 4110 e2 (.ix 4290 Zar.row c.Zaj (i2:Int) fun e3=>.us [(3,4288),(6,4110),(9,4290)] (.ret (e3.kind == 1))) (.us [(3,4288),(6,4110)] (.ret false)))) fun v3=>.ite 4112 v3 (.sel 4112 (.ret (.inr ()))) (.sel 4112 (.ret (.inl ())))))))) fun os2=>.case os2 (fun s2=>.reg 0 (.ln 4310 zg s.used (.use 3 4310 (.sel 4108 (.forR (σ:=Unit) (ρ:=Unit) 4114 7 (s.Zag.length:Int) () (.e [2,3] (fun _=>[]) [0,1] 58) (fun i3 s3=>.reg 0 (.ln 4300 zw.row s.Zag (.use 3 4300 (.sel 4114 (.reg 0 (.ix 4294 Zan.row c.Zaf (i3:Int) fun e4=>.ix 4296 zw.row s.Zag (i3:Int) fun e5=>.call 4298 (zhN c e4 e5) fun r2=>.us [(4,4294),(9,4296),(11,4298)] (.ite 4204 r2 (.sel 4205 (.ret (.inl ()))) (.sel 4205 (.ret (.inr ())))))))))) fun os3=>.case os3 (fun s3=>.reg 0 (.ln 4308 zw.row s.Zag (.use 3 4308 (.sel 4114 (.forR (σ:=Unit) (ρ:=Unit) 4206 8 (s.Zag.length:Int) () (.e [2,3] (fun _=>[]) [0,1] 64) (fun i4 s4=>.reg 0 (.ln 4304 zw.row s.Zag (.use 3 4304 (.sel 4206 (.reg 0 (.call 4302 (zag c s.Zag (i4:Int)) fun r3=>.use 4 4302 (.ite 4236 r3 (.sel 4236 (.ret (.inr ()))) (.sel 4236 (.ret (.inl ())))))))))) fun os4=>.case os4 (fun s4=>.reg 0 (.ln 4306 zw.row s.Zag (.use 3 4306 (.sel 4206 (.ret true))))) fun y4=>.ret false))))) fun y3=>.ret false))))) fun y2=>.ret false))))) fun y1=>.ret false))
theorem kU (c:Zaa) (s:Zao) (res:Bool) (hd:xC c s=some res):APure C0 269 [.agg (Zaa.row c),.agg (Zao.row s)] (.bool res):=
  Zac.pure (iv:=fun res=>.bool res) (zeM c s) (by kernel_rfl) (Zac.run_of hd (by kernel_rfl))
noncomputable def Qu (c:Zaa) (Zab:Int) (p:Zae):Option Bool:=
  (Option.bind (Option.bind (xC c p.state) fun r1=>(bif r1 then (bif decide (0≤Zab) then some (decide (Zab < c.Zal)) else some false) else some false)) fun v1=>some v1)
noncomputable def zf6 (c:Zaa) (Zab:Int) (p:Zae):Zac Bool:=
  .cut (β:=Bool) 2 (.e [] (fun v1=>[(6,vB v1)]) [0,1] 18) (.reg 0 (.call 4318 (kU c p.state) fun r1=>.ite 4314 r1 (.ite 4316 (decide (0≤Zab)) (.us [(3,4318),(5,4314),(9,4316)] (.ret (decide (Zab < c.Zal)))) (.us [(3,4318),(5,4314),(9,4316)] (.ret false))) (.us [(3,4318),(5,4314)] (.f1 4320 (.g false) (rfl:false=false) (.use 9 4320 (.ret false)))))) fun v1=>.ret v1
theorem zf7 (c:Zaa) (Zab:Int) (p:Zae) (res:Bool) (hd:Qu c Zab p=some res):APure C0 282 [.agg (Zaa.row c),.int .i64 Zab,.agg (Zae.row p)] (.bool res):=
  Zac.pure (iv:=fun res=>.bool res) (zf6 c Zab p) (by kernel_rfl) (Zac.run_of hd (by kernel_rfl))
noncomputable def ZQ (c:Zaa) (s:Zao) (act:Int):Option Int:=
  (Option.bind (ze c.Zaj act) fun e1=>(bif (e1.Zax == (-1)) then some (-1) else (Option.bind (ze c.Zaj act) fun e2=>(Option.bind (ze s.Zad e2.Zax) fun e3=>some e3))))
noncomputable def zhO (c:Zaa) (s:Zao) (act:Int):Zac Int:=
  .reg 1 (.ix 4342 Zar.row c.Zaj act fun e1=>.use 3 4342 (.ite 4340 (e1.Zax == (-1)) (.sel 4340 (.ret (-1))) (.sel 4340 (.reg 0 (.ix 4344 Zar.row c.Zaj act fun e2=>.ix 4346 zb s.Zad e2.Zax fun e3=>.us [(5,4344),(8,4346)] (.ret e3))))))
theorem zbF (c:Zaa) (s:Zao) (act:Int) (res:Int) (hd:ZQ c s act=some res):APure C0 272 [.agg (Zaa.row c),.agg (Zao.row s),.int .i64 act] (.int .i64 res):=
  Zac.pure (iv:=fun res=>.int .i64 res) (zhO c s act) (by kernel_rfl) (Zac.run_of hd (by kernel_rfl))
noncomputable def JW (c:Zaa) (s:Zao) (a:Int):Option Int:=
  (Option.bind (Option.bind (xC c s) fun r1=>(bif r1 then (bif decide (a < 0) then some true else some (decide ((c.Zaj.length:Int)≤a))) else some true)) fun v1=>(bif v1 then some (-2) else (Option.bind (ZQ c s a) fun r2=>some r2)))
noncomputable def zhP (c:Zaa) (s:Zao) (a:Int):Zac Int:=
  .cut (β:=Bool) 3 (.e [2,3,4] (fun v1=>[(21,vB v1)]) [0,1] 18) (.reg 0 (.call 4348 (kU c s) fun r1=>.ite 4334 r1 (.ite 4336 (decide (a < 0)) (.us [(2,4348),(5,4335),(9,4336)] (.ret true)) (.us [(2,4348),(5,4335),(9,4336)] (.ln 4350 Zar.row c.Zaj (.use 12 4350 (.ret (decide ((c.Zaj.length:Int)≤a))))))) (.us [(2,4348),(5,4335)] (.f1 4352 (.g true) (rfl:true=true) (.use 9 4352 (.ret true)))))) fun v1=>.ite 4338 v1 (.sel 4338 (.ret (-2))) (.sel 4338 (.reg 0 (.call 4354 (zbF c s a) fun r2=>.use 3 4354 (.ret r2))))
theorem zhQ (c:Zaa) (s:Zao) (a:Int) (res:Int) (hd:JW c s a=some res):APure C0 264 [.agg (Zaa.row c),.agg (Zao.row s),.int .i64 a] (.int .i64 res):=
  Zac.pure (iv:=fun res=>.int .i64 res) (zhP c s a) (by kernel_rfl) (Zac.run_of hd (by kernel_rfl))
noncomputable def kV (c:Zaa) (x:Zan) (m:zw) (day:Int):Option Bool:=
  (Option.bind (Option.bind (jV m) fun r1=>(bif r1 then some m.Zat else some true)) fun v1=>(bif v1 then some false else (Option.bind (forR (σ:=Unit) (ρ:=Unit) (c.off.length:Int) (fun i1 s1=>(Option.bind (Option.bind (ze c.off (i1:Int)) fun e1=>(bif (e1 == day) then some x.business else some false)) fun v2=>(bif v2 then some (.inr ()) else some (.inl ())))) ()) (Sum.elim (fun (s1:Unit)=>some true) (fun (y1:Unit)=>some false)))))
noncomputable def zeN (c:Zaa) (x:Zan) (m:zw) (day:Int):Zac Bool:=
  .cut (β:=Bool) 3 (.e [3,4,5] (fun v1=>[(16,vB v1)]) [0,1,2] 11) (.reg 0 (.call 4380 (JU m) fun r1=>.ite 4370 r1 (.us [(1,4380),(4,4371)] (.ret m.Zat)) (.us [(1,4380),(4,4371)] (.ret true)))) fun v1=>.ite 4372 v1 (.sel 4372 (.ret false)) (.sel 4372 (.forR (σ:=Unit) (ρ:=Unit) 4374 9 (c.off.length:Int) () (.e [3,4,5] (fun _=>[]) [0,1] 12) (fun i1 s1=>.reg 0 (.ln 4384 zb c.off (.use 3 4384 (.sel 4374 (.cut (β:=Bool) 3 (.e [3,4,5,9] (fun v2=>[(34,vB v2)]) [0,1] 28) (.reg 0 (.ix 4382 zb c.off (i1:Int) fun e1=>.ite 4376 (e1 == day) (.us [(3,4382),(8,4376)] (.ret x.business)) (.us [(3,4382),(8,4376)] (.ret false)))) fun v2=>.ite 4378 v2 (.sel 4378 (.ret (.inr ()))) (.sel 4378 (.ret (.inl ())))))))) fun os1=>.case os1 (fun s1=>.reg 0 (.ln 4386 zb c.off (.use 3 4386 (.sel 4374 (.ret true))))) fun y1=>.ret false))
theorem zeO (c:Zaa) (x:Zan) (m:zw) (day:Int) (res:Bool) (hd:kV c x m day=some res):APure C0 263 [.agg (Zaa.row c),.agg (Zan.row x),.agg (zw.row m),.int .i64 day] (.bool res):=
  Zac.pure (iv:=fun res=>.bool res) (zeN c x m day) (by kernel_rfl) (Zac.run_of hd (by kernel_rfl))
noncomputable def wN (m:zw) (Zak:Int):Option zw:=
  some ({Zak:=Zak,left:=0,got:=m.got,Zaq:=m.Zaq,Zat:=false}:zw)
noncomputable def zjt (m:zw) (Zak:Int):Zac zw:=
  .ret ({Zak:=Zak,left:=0,got:=m.got,Zaq:=m.Zaq,Zat:=false}:zw)
theorem ZR (m:zw) (Zak:Int) (res:zw) (hd:wN m Zak=some res):APure C0 273 [.agg (zw.row m),.int .i64 Zak] (.agg (zw.row res)):=
  Zac.pure (iv:=fun res=>.agg (zw.row res)) (zjt m Zak) (by kernel_rfl) (Zac.run_of hd (by kernel_rfl))
noncomputable def Qv (x:Zan) (m:zw):Option zw:=
  (bif decide (0 < (IntKind.i64.wrap (m.left - 1))) then some ({m with left:=(IntKind.i64.wrap (m.left - 1))}:zw) else (Option.bind (bif (x.kind == 1) then (bif (m.Zak == 1) then some (decide (0 < x.ZaA)) else some false) else some false) fun v1=>(bif v1 then some ({m with Zak:=2,left:=x.ZaA}:zw) else (bif (x.kind == 1) then (Option.bind (wN ({m with left:=(IntKind.i64.wrap (m.left - 1))}:zw) 4) fun r1=>some r1) else (bif (x.kind == 2) then (Option.bind (wN ({m with left:=(IntKind.i64.wrap (m.left - 1))}:zw) 3) fun r2=>some r2) else (Option.bind (wN ({m with left:=(IntKind.i64.wrap (m.left - 1))}:zw) 5) fun r3=>some r3))))))
noncomputable def zf8 (x:Zan) (m:zw):Zac zw:=
  .ite 4390 (decide (0 < (IntKind.i64.wrap (m.left - 1)))) (.sel 4390 (.ret ({m with left:=(IntKind.i64.wrap (m.left - 1))}:zw))) (.sel 4390 (.cut (β:=Bool) 2 (.e [2,3,4] (fun v1=>[(25,vB v1)]) [0,1,2] 24) (.reg 0 (.ite 4392 (x.kind == 1) (.ite 4394 (m.Zak == 1) (.us [(4,4392),(9,4394)] (.ret (decide (0 < x.ZaA)))) (.us [(4,4392),(9,4394)] (.ret false))) (.use 4 4392 (.f1 4402 (.g false) (rfl:false=false) (.use 9 4402 (.ret false)))))) fun v1=>.ite 4396 v1 (.sel 4396 (.ret ({m with Zak:=2,left:=x.ZaA}:zw))) (.sel 4396 (.ite 4398 (x.kind == 1) (.sel 4398 (.reg 0 (.call 4404 (ZR ({m with left:=(IntKind.i64.wrap (m.left - 1))}:zw) 4) fun r1=>.use 1 4404 (.ret r1)))) (.sel 4398 (.ite 4400 (x.kind == 2) (.sel 4400 (.reg 0 (.call 4406 (ZR ({m with left:=(IntKind.i64.wrap (m.left - 1))}:zw) 3) fun r2=>.use 1 4406 (.ret r2)))) (.sel 4400 (.reg 0 (.call 4408 (ZR ({m with left:=(IntKind.i64.wrap (m.left - 1))}:zw) 5) fun r3=>.use 1 4408 (.ret r3))))))))))
theorem zf9 (x:Zan) (m:zw) (res:zw) (hd:Qv x m=some res):APure C0 276 [.agg (Zan.row x),.agg (zw.row m)] (.agg (zw.row res)):=
  Zac.pure (iv:=fun res=>.agg (zw.row res)) (zf8 x m) (by kernel_rfl) (Zac.run_of hd (by kernel_rfl))
noncomputable def vC (c:Zaa) (s:Zao):Option Zao:=
  (Option.bind (xz (α:=zw) 40 [] s.Zag) fun e1=>(Option.bind (Option.bind (iter (σ:=Int×(List zw)) (ρ:=(List zw)) (fun s1=>(bif decide (s1.1 < (c.Zaf.length:Int)) then (Option.bind (eqN e1.length s1.2.length) fun g1=>(Option.bind (vA c s1.2 s1.1) fun r1=>(bif r1 then (Option.bind (ze c.Zaf s1.1) fun e2=>(Option.bind (bif (e2.kind == 4) then some (-1) else (Option.bind (ze s.Zad e2.Zax) fun e3=>some e3)) fun (v1:Int)=>(Option.bind (zl e1.length s1.1) fun k1=>(Option.bind (s1.2[k1]?) fun e4=>some (.inl (0,(s1.2.set k1 ({Zak:=1,left:=e2.after,got:=0,Zaq:=v1,Zat:=false}:zw)))))))) else some (.inl ((IntKind.i64.wrap (s1.1+1)),s1.2))))) else some (.inr s1.2))) (0,e1)) (fun (y1:(List zw))=>some y1)) fun (v2:(List zw))=>(Option.bind (eqN e1.length v2.length) fun g2=>some ({s with Zag:=v2}:Zao))))
noncomputable def zga (c:Zaa) (s:Zao):Zac Zao:=
  .reg 1 (.b1 4428 (xz (α:=zw) 40 [] s.Zag) (fun e1=>.b (zc zw.row e1) e1.length) (fun e1 he1=>(wk zw.row 5 40 (fun _=>rfl) he1)) fun e1=>.use 3 4428 (.cut (β:=(List zw)) 2 (.k [3,4] (fun _=>[]) [1,2] (fun v2=>[(6,.rows 5 (zc zw.row v2))]) 10 fun _=>(.rows rfl .nil)) (.iter (σ:=Int×(List zw)) (ρ:=(List zw)) (0,e1) (.k [2,3,4] (fun s1=>[(5,vI s1.1)]) [0,1,2] (fun s1=>[(6,.rows 5 (zc zw.row s1.2))]) 10 fun _=>(.rows rfl .nil)) (fun s1=>.reg 0 (.ln 4440 Zan.row c.Zaf (.use 3 4440 (.ite 4422 (decide (s1.1 < (c.Zaf.length:Int))) (.sel 4422 (.reg 0 (.bind (eqN e1.length s1.2.length) (fun _=>[]) (fun _ _=>.nil) fun g1=>.bind (vA c s1.2 s1.1) (fun r1=>[(4430,([.w [6] [.agg (Zaa.row c),.slice (List.map zw.row s1.2),.int .i64 s1.1] (.bool r1)],_))]) (fun r1 hr1=>(.c2 (zag c s1.2 s1.1 r1 hr1) (jS [.agg (zm (Zaa.row c)),.Zam 6 0 e1.length,vI s1.1] [(6,.rows 5 (zc zw.row s1.2))] [.agg (Zaa.row c),.slice (List.map zw.row s1.2),.int .i64 s1.1] (zs (wE (zs (zQ _) (zs (zQ _) (zs (zQ _) (zs (zQ _) (zs (zQ _) (zs (zQ _) (zs (zQ _) qP)))))))) (zs (jM zw.row 6 5 e1.length s1.2 g1.down rfl) (zs (zQ _) qP)))) .nil)) fun r1=>.use 4 4430 (.ite 4424 r1 (.sel 4425 (.reg 0 (.ix 4432 Zan.row c.Zaf s1.1 fun e2=>.use 3 4432 (.cut (β:=Int) 2 (.k [2,3,4,5,6] (fun v1=>[(7,vI v1)]) [0,1,2,26] (fun _=>[(6,.rows 5 (zc zw.row s1.2))]) 32 fun _=>(.rows rfl .nil)) (.ite 4426 (e2.kind == 4) (.sel 4427 (.ret (-1))) (.sel 4427 (.reg 0 (.ix 4434 zb s.Zad e2.Zax fun e3=>.use 4 4434 (.ret e3))))) fun v1=>.reg 0 (.b1 4436 (zl e1.length s1.1) (fun k1=>.k k1) (fun k1 hk1=>(zp hk1)) fun k1=>.b1 4438 (s1.2[k1]?) (fun e4=>.aw (zm (zw.row e4)) (zc zw.row (s1.2.set k1 ({Zak:=1,left:=e2.after,got:=0,Zaq:=v1,Zat:=false}:zw)))) (fun e4 he4=>(zL zw.row ({Zak:=1,left:=e2.after,got:=0,Zaq:=v1,Zat:=false}:zw) he4)) fun e4=>.us [(7,4436),(8,4438)] (.ret (.inl (0,(s1.2.set k1 ({Zak:=1,left:=e2.after,got:=0,Zaq:=v1,Zat:=false}:zw)))))))))) (.sel 4425 (.ret (.inl ((IntKind.i64.wrap (s1.1+1)),s1.2)))))))) (.sel 4422 (.ret (.inr s1.2))))))) fun y1=>.ret y1) fun v2=>.bind (eqN e1.length v2.length) (fun _=>[]) (fun _ _=>.nil) fun g3=>.fin [6] (.agg [vI s.day,.imm (.slice (List.map zb s.Zad)),.imm (.slice (List.map zg s.used)),.Zam 6 0 e1.length]) [(6,.rows 5 (zc zw.row v2))] (.agg (Zao.row ({s with Zag:=v2}:Zao))) (jS _ _ _ (zs (wE (zs (zQ _) (zs (zQ _) (zs (zQ _) (zs (jM zw.row 6 5 e1.length v2 g3.down rfl) qP))))) qP)) ({s with Zag:=v2}:Zao)))
theorem XE (c:Zaa) (s:Zao) (res:Zao) (hd:vC c s=some res):APure C0 261 [.agg (Zaa.row c),.agg (Zao.row s)] (.agg (Zao.row res)):=
  Zac.pure (iv:=fun res=>.agg (Zao.row res)) (zga c s) (by kernel_rfl) (Zac.run_of hd (by kernel_rfl))
noncomputable def JX (c:Zaa) (s:Zao):Option Zao:=
  (Option.bind (xz (α:=zw) 40 [] s.Zag) fun e1=>(Option.bind (forR (σ:=(List zw)) (ρ:=Unit) (e1.length:Int) (fun i1 s1=>(Option.bind (Option.bind (ze c.Zaf (i1:Int)) fun e2=>(Option.bind (zl e1.length (i1:Int)) fun k1=>(Option.bind (s1[k1]?) fun e3=>(Option.bind (kV c e2 e3 s.day) fun r1=>(bif r1 then (Option.bind (ze c.Zaf (i1:Int)) fun e4=>(Option.bind (zl e1.length (i1:Int)) fun k2=>(Option.bind (s1[k2]?) fun e5=>(Option.bind (Qv e4 e5) fun r2=>(Option.bind (s1[k2]?) fun e6=>some (s1.set k2 r2)))))) else some s1))))) fun (v1:(List zw))=>some (.inl v1))) e1) (Sum.elim (fun (s1:(List zw))=>(Option.bind (vC c ({day:=(IntKind.i64.wrap (s.day+1)),Zad:=s.Zad,used:=s.used,Zag:=List.take e1.length s1}:Zao)) fun r3=>some r3)) (fun _=>none))))
noncomputable def zhR (c:Zaa) (s:Zao):Zac Zao:=
  .reg 1 (.b1 4442 (xz (α:=zw) 40 [] s.Zag) (fun e1=>.b (zc zw.row e1) e1.length) (fun e1 he1=>(wk zw.row 5 40 (fun _=>rfl) he1)) fun e1=>.use 3 4442 (.forR (σ:=(List zw)) (ρ:=Unit) 4368 5 (e1.length:Int) e1 (.k [2,3,4] (fun _=>[]) [0,1,2] (fun s1=>[(6,.rows 5 (zc zw.row s1))]) 10 fun _=>(.rows rfl .nil)) (fun i1 s1=>.sel 4368 (.cut (β:=(List zw)) 1 (.k [2,3,4,5] (fun _=>[]) [0,1,2] (fun v1=>[(6,.rows 5 (zc zw.row v1))]) 29 fun _=>(.rows rfl .nil)) (.reg 0 (.ix 4444 Zan.row c.Zaf (i1:Int) fun e2=>.b1 4446 (zl e1.length (i1:Int)) (fun k1=>.k k1) (fun k1 hk1=>(zp hk1)) fun k1=>.b1 4448 (s1[k1]?) (fun e3=>.ar (zm (zw.row e3))) (fun e3 he3=>(zP zw.row he3)) fun e3=>.call 4450 (zeO c e2 e3 s.day) fun r1=>.us [(4,4444),(9,4446),(10,4448),(13,4450)] (.ite 4410 r1 (.sel 4410 (.reg 0 (.ix 4452 Zan.row c.Zaf (i1:Int) fun e4=>.b1 4454 (zl e1.length (i1:Int)) (fun k2=>.k k2) (fun k2 hk2=>(zp hk2)) fun k2=>.b1 4456 (s1[k2]?) (fun e5=>.ar (zm (zw.row e5))) (fun e5 he5=>(zP zw.row he5)) fun e5=>.call 4458 (zf9 e4 e5) fun r2=>.b1 4460 (s1[k2]?) (fun e6=>.aw (zm (zw.row e6)) (zc zw.row (s1.set k2 r2))) (fun e6 he6=>(zL zw.row r2 he6)) fun e6=>.us [(6,4452),(11,4454),(12,4456),(13,4458),(14,4454),(15,4460)] (.ret (s1.set k2 r2))))) (.sel 4410 (.ret s1))))) fun v1=>.ret (.inl v1))) fun os1=>.case os1 (fun s1=>.sel 4368 (.weak 2 [Wn 6 5 [1] zw.row s1 e1.length] (.reg 0 (.call 4462 (XE c ({day:=(IntKind.i64.wrap (s.day+1)),Zad:=s.Zad,used:=s.used,Zag:=List.take e1.length s1}:Zao)) fun r3=>.use 2 4462 (.ret r3))))) fun _=>.none))
theorem zhS (c:Zaa) (s:Zao) (res:Zao) (hd:JX c s=some res):APure C0 278 [.agg (Zaa.row c),.agg (Zao.row s)] (.agg (Zao.row res)):=
  Zac.pure (iv:=fun res=>.agg (Zao.row res)) (zhR c s) (by kernel_rfl) (Zac.run_of hd (by kernel_rfl))
noncomputable def yD (x:Zan) (m:zw):Option zw:=
  (bif (x.kind == 1) then (bif ((IntKind.i64.wrap (m.got+1)) == x.need) then (Option.bind (wN ({m with got:=(IntKind.i64.wrap (m.got+1))}:zw) 3) fun r1=>some r1) else some ({m with got:=(IntKind.i64.wrap (m.got+1))}:zw)) else (bif (x.kind == 2) then (bif m.Zat then some m else (Option.bind (wN m 4) fun r2=>some r2)) else (Option.bind (wN m 3) fun r3=>some r3)))
noncomputable def zcY (x:Zan) (m:zw):Zac zw:=
  .ite 4482 (x.kind == 1) (.sel 4482 (.ite 4484 ((IntKind.i64.wrap (m.got+1)) == x.need) (.sel 4484 (.reg 0 (.call 4490 (ZR ({m with got:=(IntKind.i64.wrap (m.got+1))}:zw) 3) fun r1=>.use 1 4490 (.ret r1)))) (.sel 4484 (.ret ({m with got:=(IntKind.i64.wrap (m.got+1))}:zw))))) (.sel 4482 (.ite 4486 (x.kind == 2) (.sel 4486 (.ite 4488 m.Zat (.sel 4488 (.ret m)) (.sel 4488 (.reg 0 (.call 4492 (ZR m 4) fun r2=>.use 1 4492 (.ret r2)))))) (.sel 4486 (.reg 0 (.call 4494 (ZR m 3) fun r3=>.use 1 4494 (.ret r3))))))
theorem zcZ (x:Zan) (m:zw) (res:zw) (hd:yD x m=some res):APure C0 271 [.agg (Zan.row x),.agg (zw.row m)] (.agg (zw.row res)):=
  Zac.pure (iv:=fun res=>.agg (zw.row res)) (zcY x m) (by kernel_rfl) (Zac.run_of hd (by kernel_rfl))
noncomputable def WI (c:Zaa) (s:Zao) (a:Int):Option Zao:=
  (Option.bind (ze c.Zaj a) fun e1=>(Option.bind (bif (e1.kind == 1) then some false else (Option.bind (ze s.used a) fun e2=>some e2)) fun v1=>(bif v1 then some s else (Option.bind (ZQ c s a) fun r1=>(Option.bind (xz (α:=zw) 40 [] s.Zag) fun e3=>(Option.bind (forR (σ:=(List zw)) (ρ:=Unit) (e3.length:Int) (fun i1 s1=>(Option.bind (Option.bind (ze c.Zaf (i1:Int)) fun e4=>(Option.bind (zl e3.length (i1:Int)) fun k1=>(Option.bind (s1[k1]?) fun e5=>(Option.bind (jV e5) fun r2=>(bif r2 then (Option.bind (bif (e4.pause == a) then some true else some e5.Zat) fun (v2:Bool)=>(Option.bind (bif (e4.ZaG == a) then some false else some v2) fun (v3:Bool)=>(Option.bind (Option.bind (bif (e4.act == a) then (bif (e4.kind == 4) then some true else some (e5.Zaq == r1)) else some false) fun v4=>(bif v4 then (Option.bind (yD e4 ({e5 with Zat:=v3}:zw)) fun r3=>some (r3.Zak,r3.left,r3.got,r3.Zaq,r3.Zat)) else some (e5.Zak,e5.left,e5.got,e5.Zaq,v3))) fun (v5:Int×Int×Int×Int×Bool)=>(Option.bind (Option.bind (bif (e1.kind == 3) then (Option.bind (jV ({Zak:=v5.1,left:=v5.2.1,got:=v5.2.2.1,Zaq:=v5.2.2.2.1,Zat:=v5.2.2.2.2}:zw)) fun r4=>(bif r4 then (bif (e4.kind == 4) then some false else some (e4.Zax == e1.give)) else some false)) else some false) fun v6=>(bif v6 then some e1.to else some v5.2.2.2.1)) fun (v7:Int)=>(Option.bind (zl e3.length (i1:Int)) fun k2=>(Option.bind (s1[k2]?) fun e6=>some (s1.set k2 ({Zak:=v5.1,left:=v5.2.1,got:=v5.2.2.1,Zaq:=v7,Zat:=v5.2.2.2.2}:zw)))))))) else some s1))))) fun (v8:(List zw))=>some (.inl v8))) e3) (Sum.elim (fun (s1:(List zw))=>(bif (e1.kind == 1) then (Option.bind (vC c ({s with Zag:=List.take e3.length s1}:Zao)) fun r6=>some r6) else (Option.bind (xz (α:=Int) 8 [] s.Zad) fun e7=>(Option.bind (zl e7.length e1.give) fun k3=>(Option.bind (e7[k3]?) fun e8=>(Option.bind (xz (α:=Bool) 1 [] s.used) fun e9=>(Option.bind (zl e9.length a) fun k4=>(Option.bind (e9[k4]?) fun e10=>(Option.bind (vC c ({day:=s.day,Zad:=List.take e7.length (e7.set k3 e1.to),used:=List.take e9.length (e9.set k4 true),Zag:=List.take e3.length s1}:Zao)) fun r5=>some r5))))))))) (fun _=>none))))))))
noncomputable def zju (c:Zaa) (s:Zao) (a:Int):Zac Zao:=
  .reg 1 (.ix 4526 Zar.row c.Zaj a fun e1=>.use 3 4526 (.cut (β:=Bool) 2 (.e [2,3,4,6,7] (fun v1=>[(26,vB v1)]) [0,1,2,8] 20) (.reg 0 (.ite 4464 (e1.kind == 1) (.use 4 4465 (.ret false)) (.ix 4528 zg s.used a fun e2=>.us [(4,4465),(7,4528)] (.ret e2)))) fun v1=>.ite 4466 v1 (.sel 4466 (.ret s)) (.sel 4466 (.reg 0 (.call 4530 (zbF c s a) fun r1=>.use 3 4530 (.reg 0 (.b1 4532 (xz (α:=zw) 40 [] s.Zag) (fun e3=>.b (zc zw.row e3) e3.length) (fun e3 he3=>(wk zw.row 5 40 (fun _=>rfl) he3)) fun e3=>.use 3 4532 (.forR (σ:=(List zw)) (ρ:=Unit) 4468 9 (e3.length:Int) e3 (.k [2,3,4,6,7,8] (fun _=>[]) [0,1,2,8] (fun s1=>[(28,.rows 5 (zc zw.row s1))]) 32 fun _=>(.rows rfl .nil)) (fun i1 s1=>.sel 4468 (.cut (β:=(List zw)) 1 (.k [2,3,4,6,7,8,9] (fun _=>[]) [0,1,2,8] (fun v8=>[(28,.rows 5 (zc zw.row v8))]) 54 fun _=>(.rows rfl .nil)) (.reg 0 (.ix 4534 Zan.row c.Zaf (i1:Int) fun e4=>.use 3 4534 (.reg 0 (.b1 4536 (zl e3.length (i1:Int)) (fun k1=>.k k1) (fun k1 hk1=>(zp hk1)) fun k1=>.b1 4538 (s1[k1]?) (fun e5=>.ar (zm (zw.row e5))) (fun e5 he5=>(zP zw.row he5)) fun e5=>.us [(3,4536),(4,4538)] (.reg 0 (.call 4540 (JU e5) fun r2=>.use 1 4540 (.ite 4504 r2 (.sel 4505 (.cut (β:=Bool) 1 (.k [2,3,4,6,7,8,9,10,11] (fun _=>[]) [0,1,2,8,42] (fun v2=>[(28,.rows 5 (zc zw.row s1)),(49,.rows 5 [[vI e5.Zak,vI e5.left,vI e5.got,vI e5.Zaq,vB v2]])]) 58 fun _=>(.rows rfl (.exp rfl rfl .nil))) (.ite 4506 (e4.pause == a) (.sel 4506 (.ret true)) (.sel 4506 (.ret e5.Zat))) fun v2=>.cut (β:=Bool) 1 (.k [2,3,4,6,7,8,9,10,11] (fun _=>[]) [0,1,2,8,42] (fun v3=>[(28,.rows 5 (zc zw.row s1)),(49,.rows 5 [[vI e5.Zak,vI e5.left,vI e5.got,vI e5.Zaq,vB v3]])]) 62 fun _=>(.rows rfl (.exp rfl rfl .nil))) (.ite 4508 (e4.ZaG == a) (.sel 4508 (.ret false)) (.sel 4508 (.ret v2))) fun v3=>.cut (β:=Int×Int×Int×Int×Bool) 1 (.k [2,3,4,6,7,8,9,10,11] (fun _=>[]) [0,1,2,8,42] (fun v5=>[(28,.rows 5 (zc zw.row s1)),(49,.rows 5 [[vI v5.1,vI v5.2.1,vI v5.2.2.1,vI v5.2.2.2.1,vB v5.2.2.2.2]])]) 77 fun _=>(.rows rfl (.exp rfl rfl .nil))) (.cut (β:=Bool) 1 (.k [2,3,4,6,7,8,9,10,11] (fun v4=>[(81,vB v4)]) [0,1,2,8,42,49] (fun _=>[(28,.rows 5 (zc zw.row s1))]) 77 fun _=>(.rows rfl .nil)) (.reg 0 (.ite 4510 (e4.act == a) (.ite 4512 (e4.kind == 4) (.us [(5,4510),(9,4512)] (.ret true)) (.us [(5,4510),(9,4512)] (.ret (e5.Zaq == r1)))) (.use 5 4510 (.ret false)))) fun v4=>.ite 4514 v4 (.sel 4514 (.reg 0 (.call 4542 (zcZ e4 ({e5 with Zat:=v3}:zw)) fun r3=>.use 2 4542 (.ret (r3.Zak,r3.left,r3.got,r3.Zaq,r3.Zat))))) (.sel 4514 (.ret (e5.Zak,e5.left,e5.got,e5.Zaq,v3)))) fun v5=>.cut (β:=Int) 1 (.k [2,3,4,6,7,8,9,11] (fun _=>[]) [0,1,2,8] (fun v7=>[(28,.rows 5 (zc zw.row s1)),(49,.rows 5 [[vI v5.1,vI v5.2.1,vI v5.2.2.1,vI v7,vB v5.2.2.2.2]])]) 96 fun _=>(.rows rfl (.exp rfl rfl .nil))) (.cut (β:=Bool) 1 (.k [2,3,4,6,7,8,9,11] (fun v6=>[(103,vB v6)]) [0,1,2,8,42,49] (fun _=>[(28,.rows 5 (zc zw.row s1))]) 96 fun _=>(.rows rfl .nil)) (.reg 0 (.ite 4516 (e1.kind == 3) (.call 4544 (JU ({Zak:=v5.1,left:=v5.2.1,got:=v5.2.2.1,Zaq:=v5.2.2.2.1,Zat:=v5.2.2.2.2}:zw)) fun r4=>.ite 4518 r4 (.ite 4520 (e4.kind == 4) (.us [(4,4516),(5,4544),(8,4518),(13,4521)] (.ret false)) (.us [(4,4516),(5,4544),(8,4518),(13,4521)] (.ret (e4.Zax == e1.give)))) (.us [(4,4516),(5,4544),(8,4518)] (.f1 4546 (.g false) (rfl:false=false) (.use 13 4546 (.ret false))))) (.use 4 4516 (.f1 4550 (.g false) (rfl:false=false) (.use 8 4550 (.f1 4548 (.g false) (rfl:false=false) (.use 13 4548 (.ret false)))))))) fun v6=>.ite 4522 v6 (.sel 4522 (.ret e1.to)) (.sel 4522 (.ret v5.2.2.2.1))) fun v7=>.reg 0 (.b1 4552 (zl e3.length (i1:Int)) (fun k2=>.k k2) (fun k2 hk2=>(zp hk2)) fun k2=>.b1 4554 (s1[k2]?) (fun e6=>.aw (zm (zw.row e6)) (zc zw.row (s1.set k2 ({Zak:=v5.1,left:=v5.2.1,got:=v5.2.2.1,Zaq:=v7,Zat:=v5.2.2.2.2}:zw)))) (fun e6 he6=>(zL zw.row ({Zak:=v5.1,left:=v5.2.1,got:=v5.2.2.1,Zaq:=v7,Zat:=v5.2.2.2.2}:zw) he6)) fun e6=>.us [(4,4552),(5,4554)] (.ret (s1.set k2 ({Zak:=v5.1,left:=v5.2.1,got:=v5.2.2.1,Zaq:=v7,Zat:=v5.2.2.2.2}:zw)))))) (.sel 4505 (.ret s1))))))))) fun v8=>.ret (.inl v8))) fun os1=>.case os1 (fun s1=>.sel 4468 (.ite 4524 (e1.kind == 1) (.sel 4525 (.weak 1 [Wn 28 5 [1] zw.row s1 e3.length] (.reg 0 (.call 4570 (XE c ({s with Zag:=List.take e3.length s1}:Zao)) fun r6=>.use 2 4570 (.ret r6))))) (.sel 4525 (.reg 0 (.b1 4556 (xz (α:=Int) 8 [] s.Zad) (fun e7=>.b (zc zb e7) e7.length) (fun e7 he7=>(wk zb 1 8 (fun _=>rfl) he7)) fun e7=>.use 3 4556 (.reg 0 (.b1 4558 (zl e7.length e1.give) (fun k3=>.k k3) (fun k3 hk3=>(zp hk3)) fun k3=>.b1 4560 (e7[k3]?) (fun e8=>.aw (zm (zb e8)) (zc zb (e7.set k3 e1.to))) (fun e8 he8=>(zL zb e1.to he8)) fun e8=>.us [(6,4558),(7,4560)] (.reg 0 (.b1 4562 (xz (α:=Bool) 1 [] s.used) (fun e9=>.b (zc zg e9) e9.length) (fun e9 he9=>(wk zg 1 1 (fun _=>rfl) he9)) fun e9=>.use 3 4562 (.reg 0 (.b1 4564 (zl e9.length a) (fun k4=>.k k4) (fun k4 hk4=>(zp hk4)) fun k4=>.b1 4566 (e9[k4]?) (fun e10=>.aw (zm (zg e10)) (zc zg (e9.set k4 true))) (fun e10 he10=>(zL zg true he10)) fun e10=>.us [(3,4564),(4,4566)] (.weak 1 [Wn 43 1 [1] zb (e7.set k3 e1.to) e7.length,Wn 57 1 [1] zg (e9.set k4 true) e9.length,Wn 28 5 [1] zw.row s1 e3.length] (.reg 0 (.call 4568 (XE c ({day:=s.day,Zad:=List.take e7.length (e7.set k3 e1.to),used:=List.take e9.length (e9.set k4 true),Zag:=List.take e3.length s1}:Zao)) fun r5=>.use 2 4568 (.ret r5))))))))))))))) fun _=>.none))))))))
theorem zjv (c:Zaa) (s:Zao) (a:Int) (res:Zao) (hd:WI c s a=some res):APure C0 270 [.agg (Zaa.row c),.agg (Zao.row s),.int .i64 a] (.agg (Zao.row res)):=
  Zac.pure (iv:=fun res=>.agg (Zao.row res)) (zju c s a) (by kernel_rfl) (Zac.run_of hd (by kernel_rfl))
noncomputable def ZS (c:Zaa) (s:Zao) (step:Int):Option (Zao×Int):=
  (Option.bind (Option.bind (xC c s) fun r1=>(bif r1 then (bif decide (step < (-1)) then some true else some (decide ((c.Zaj.length:Int)≤step))) else some true)) fun v1=>(bif v1 then some (({day:=0,Zad:=[],used:=[],Zag:=[]}:Zao),1) else (bif (s.day == c.Zas) then some (({day:=0,Zad:=[],used:=[],Zag:=[]}:Zao),13) else (bif (step == (-1)) then (Option.bind (JX c s) fun r2=>some (r2,0)) else (Option.bind (WI c s step) fun r3=>some (r3,0))))))
noncomputable def zhT (c:Zaa) (s:Zao) (step:Int):Zac (Zao×Int):=
  .cut (β:=Bool) 3 (.e [2,3,4,6] (fun v1=>[(22,vB v1)]) [0,1,2] 19) (.reg 0 (.call 4572 (kU c s) fun r1=>.ite 4358 r1 (.ite 4360 (decide (step < (-1))) (.us [(2,4572),(5,4359),(9,4360)] (.ret true)) (.us [(2,4572),(5,4359),(9,4360)] (.ln 4574 Zar.row c.Zaj (.use 12 4574 (.ret (decide ((c.Zaj.length:Int)≤step))))))) (.us [(2,4572),(5,4359)] (.f1 4576 (.g true) (rfl:true=true) (.use 9 4576 (.ret true)))))) fun v1=>.ite 4362 v1 (.sel 4362 (.ret (({day:=0,Zad:=[],used:=[],Zag:=[]}:Zao),1))) (.sel 4362 (.ite 4364 (s.day == c.Zas) (.sel 4364 (.ret (({day:=0,Zad:=[],used:=[],Zag:=[]}:Zao),13))) (.sel 4364 (.ite 4366 (step == (-1)) (.sel 4366 (.reg 0 (.call 4578 (zhS c s) fun r2=>.use 2 4578 (.ret (r2,0))))) (.sel 4366 (.reg 0 (.call 4580 (zjv c s step) fun r3=>.use 3 4580 (.ret (r3,0)))))))))
theorem zbG (c:Zaa) (s:Zao) (step:Int) (res:Zao×Int) (hd:ZS c s step=some res):APure C0 268 [.agg (Zaa.row c),.agg (Zao.row s),.int .i64 step] (.tuple [.agg (Zao.row res.1),.int .i64 res.2]):=
  Zac.pure (iv:=fun res=>.tuple [.agg (Zao.row res.1),.int .i64 res.2]) (zhT c s step) (by kernel_rfl) (Zac.run_of hd (by kernel_rfl))
noncomputable def vD (c:Zaa) (Zab:Int) (p:Zae):Option ((List Int)×Int):=
  (Option.bind (Qu c Zab p) fun r1=>(bif r1 then (Option.bind (bif p.own then (Option.bind (zR (α:=Int) 8 [] [(-2)]) fun e1=>some e1) else some []) fun (v1:(List Int))=>(bif (p.state.day == c.Zas) then some (v1,0) else (Option.bind (bif p.own then some v1 else (Option.bind (zR (α:=Int) 8 v1 [(-1)]) fun e2=>some e2)) fun (v2:(List Int))=>(Option.bind (forR (σ:=(List Int)) (ρ:=Unit) (c.Zaj.length:Int) (fun i1 s1=>(Option.bind (Option.bind (JW c p.state (i1:Int)) fun r2=>(bif ((r2 == Zab) == p.own) then (Option.bind (ZS c p.state (i1:Int)) fun r3=>(Option.bind (ko r3.1 p.state) fun r4=>(bif r4 then some s1 else (Option.bind (zR (α:=Int) 8 s1 [(i1:Int)]) fun e3=>some e3)))) else some s1)) fun (v3:(List Int))=>some (.inl v3))) v2) (Sum.elim (fun (s1:(List Int))=>some (s1,0)) (fun _=>none)))))) else some ([],1)))
noncomputable def zgb (c:Zaa) (Zab:Int) (p:Zae):Zac ((List Int)×Int):=
  .reg 1 (.call 4584 (zf7 c Zab p) fun r1=>.use 3 4584 (.ite 4322 r1 (.sel 4323 (.reg 0 (.weak 0 [zmE 8 1] (.cut (β:=(List Int)) 1 (.k [1,3,5] (fun v1=>[(8,.Zav 10 (List.map zb v1))]) [0,1] (fun v1=>[(10,.tip 1 v1.length)]) 13 fun _=>(.exp rfl rfl .nil)) (.ite 4326 p.own (.sel 4326 (.reg 0 (.b1 4586 (zR (α:=Int) 8 [] [(-2)]) (fun e1=>.a (List.map zb e1) e1.length) (fun e1 he1=>(qv zb 1 8 (fun _=>rfl) he1)) fun e1=>.use 2 4586 (.ret e1)))) (.sel 4326 (.ret []))) fun v1=>.ite 4328 (p.state.day == c.Zas) (.sel 4328 (.ret (v1,0))) (.sel 4328 (.cut (β:=(List Int)) 1 (.k [1,3,5] (fun v2=>[(8,.Zav 10 (List.map zb v2))]) [0,1] (fun v2=>[(10,.tip 1 v2.length)]) 22 fun _=>(.exp rfl rfl .nil)) (.ite 4330 p.own (.sel 4331 (.ret v1)) (.sel 4331 (.reg 0 (.b1 4588 (zR (α:=Int) 8 v1 [(-1)]) (fun e2=>.a (List.map zb e2) e2.length) (fun e2 he2=>(qv zb 1 8 (fun _=>rfl) he2)) fun e2=>.use 2 4588 (.ret e2))))) fun v2=>.forR (σ:=(List Int)) (ρ:=Unit) 4332 9 (c.Zaj.length:Int) v2 (.k [1,3,5] (fun s1=>[(8,.Zav 10 (List.map zb s1))]) [0,1] (fun s1=>[(10,.tip 1 s1.length)]) 23 fun _=>(.exp rfl rfl .nil)) (fun i1 s1=>.reg 0 (.ln 4598 Zar.row c.Zaj (.use 3 4598 (.sel 4332 (.cut (β:=(List Int)) 1 (.k [1,3,5,9] (fun v3=>[(8,.Zav 10 (List.map zb v3))]) [0,1] (fun v3=>[(10,.tip 1 v3.length)]) 38 fun _=>(.exp rfl rfl .nil)) (.reg 0 (.call 4590 (zhQ c p.state (i1:Int)) fun r2=>.use 4 4590 (.ite 4356 ((r2 == Zab) == p.own) (.sel 4357 (.reg 0 (.call 4592 (zbG c p.state (i1:Int)) fun r3=>.use 4 4592 (.reg 0 (.call 4594 (zad r3.1 p.state) fun r4=>.use 3 4594 (.ite 4582 r4 (.sel 4583 (.ret s1)) (.sel 4583 (.reg 0 (.b1 4596 (zR (α:=Int) 8 s1 [(i1:Int)]) (fun e3=>.a (List.map zb e3) e3.length) (fun e3 he3=>(qv zb 1 8 (fun _=>rfl) he3)) fun e3=>.use 3 4596 (.ret e3)))))))))) (.sel 4357 (.ret s1))))) fun v3=>.ret (.inl v3)))))) fun os1=>.case os1 (fun s1=>.reg 0 (.ln 4600 Zar.row c.Zaj (.use 3 4600 (.sel 4332 (.ret (s1,0)))))) fun _=>.none)))))) (.sel 4323 (.ret ([],1)))))
theorem XF (c:Zaa) (Zab:Int) (p:Zae) (res:(List Int)×Int) (hd:vD c Zab p=some res):APure C0 280 [.agg (Zaa.row c),.int .i64 Zab,.agg (Zae.row p)] (.tuple [.slice (List.map zb res.1),.int .i64 res.2]):=
  Zac.pure (iv:=fun res=>.tuple [.slice (List.map zb res.1),.int .i64 res.2]) (zgb c Zab p) (by kernel_rfl) (Zac.run_of hd (by kernel_rfl))
noncomputable def yt (c:Zaa) (s:Zao) (Zab:Int):Option Bool:=
  (Option.bind (Option.bind (xC c s) fun r1=>(bif r1 then some (decide (Zab < 0)) else some true)) fun v1=>(bif v1 then some false else (Option.bind (forR (σ:=Unit) (ρ:=Unit) (s.Zag.length:Int) (fun i1 s1=>(Option.bind (Option.bind (ze c.Zaf (i1:Int)) fun e1=>(bif e1.final then (Option.bind (ze s.Zag (i1:Int)) fun e2=>(bif (e2.Zak == 4) then some (e2.Zaq == Zab) else some false)) else some false)) fun v2=>(bif v2 then some (.inr ()) else some (.inl ())))) ()) (Sum.elim (fun (s1:Unit)=>some false) (fun (y1:Unit)=>some true)))))
noncomputable def zeP (c:Zaa) (s:Zao) (Zab:Int):Zac Bool:=
  .cut (β:=Bool) 3 (.e [2,3,4] (fun v1=>[(15,vB v1)]) [0,1] 11) (.reg 0 (.call 4616 (kU c s) fun r1=>.ite 4604 r1 (.us [(2,4616),(5,4605)] (.ret (decide (Zab < 0)))) (.us [(2,4616),(5,4605)] (.ret true)))) fun v1=>.ite 4606 v1 (.sel 4606 (.ret false)) (.sel 4606 (.forR (σ:=Unit) (ρ:=Unit) 4608 7 (s.Zag.length:Int) () (.e [2,3,4] (fun _=>[]) [0,1] 12) (fun i1 s1=>.reg 0 (.ln 4624 zw.row s.Zag (.use 3 4624 (.sel 4608 (.cut (β:=Bool) 3 (.e [2,3,4,7] (fun v2=>[(47,vB v2)]) [0,1] 42) (.reg 0 (.ix 4618 Zan.row c.Zaf (i1:Int) fun e1=>.ite 4610 e1.final (.ix 4620 zw.row s.Zag (i1:Int) fun e2=>.ite 4612 (e2.Zak == 4) (.us [(3,4618),(7,4610),(10,4620),(16,4612),(19,4620)] (.ret (e2.Zaq == Zab))) (.us [(3,4618),(7,4610),(10,4620),(16,4612)] (.ret false))) (.us [(3,4618),(7,4610)] (.f1 4622 (.g false) (rfl:false=false) (.use 16 4622 (.ret false)))))) fun v2=>.ite 4614 v2 (.sel 4614 (.ret (.inr ()))) (.sel 4614 (.ret (.inl ())))))))) fun os1=>.case os1 (fun s1=>.reg 0 (.ln 4626 zw.row s.Zag (.use 3 4626 (.sel 4608 (.ret false))))) fun y1=>.ret true))
theorem Yi (c:Zaa) (s:Zao) (Zab:Int) (res:Bool) (hd:yt c s Zab=some res):APure C0 262 [.agg (Zaa.row c),.agg (Zao.row s),.int .i64 Zab] (.bool res):=
  Zac.pure (iv:=fun res=>.bool res) (zeP c s Zab) (by kernel_rfl) (Zac.run_of hd (by kernel_rfl))
noncomputable def Qw (c:Zaa) (p:Zae) (move:Int):Option Zae:=
  (bif (move == (-2)) then some ({state:=p.state,own:=false}:Zae) else (Option.bind (ZS c p.state move) fun r1=>some ({state:=r1.1,own:=true}:Zae)))
noncomputable def zgc (c:Zaa) (p:Zae) (move:Int):Zac Zae:=
  .ite 4642 (move == (-2)) (.sel 4642 (.ret ({state:=p.state,own:=false}:Zae))) (.sel 4642 (.reg 0 (.call 4644 (zbG c p.state move) fun r1=>.use 4 4644 (.ret ({state:=r1.1,own:=true}:Zae)))))
theorem zgd (c:Zaa) (p:Zae) (move:Int) (res:Zae) (hd:Qw c p move=some res):APure C0 281 [.agg (Zaa.row c),.agg (Zae.row p),.int .i64 move] (.agg (Zae.row res)):=
  Zac.pure (iv:=fun res=>.agg (Zae.row res)) (zgc c p move) (by kernel_rfl) (Zac.run_of hd (by kernel_rfl))
noncomputable def kw (c:Zaa) (Zab:Int) (p:Zae) (move:Int):Option (Zae×Int):=
  (Option.bind (vD c Zab p) fun r1=>(bif (r1.2 == 0) then (Option.bind (forR (σ:=Unit) (ρ:=Int×(List Int)×(List Bool)×(List zw)×Bool) (r1.1.length:Int) (fun i1 s1=>(Option.bind (ze r1.1 (i1:Int)) fun e1=>(bif (e1 == move) then (Option.bind (Qw c p move) fun r2=>some (.inr (r2.state.day,r2.state.Zad,r2.state.used,r2.state.Zag,r2.own))) else some (.inl ())))) ()) (Sum.elim (fun (s1:Unit)=>some (({state:=({day:=0,Zad:=[],used:=[],Zag:=[]}:Zao),own:=false}:Zae),13)) (fun (y1:Int×(List Int)×(List Bool)×(List zw)×Bool)=>some (({state:=({day:=y1.1,Zad:=y1.2.1,used:=y1.2.2.1,Zag:=y1.2.2.2.1}:Zao),own:=y1.2.2.2.2}:Zae),0)))) else some (({state:=({day:=0,Zad:=[],used:=[],Zag:=[]}:Zao),own:=false}:Zae),r1.2)))
noncomputable def zge (c:Zaa) (Zab:Int) (p:Zae) (move:Int):Zac (Zae×Int):=
  .reg 1 (.call 4646 (XF c Zab p) fun r1=>.use 3 4646 (.ite 4636 (r1.2 == 0) (.sel 4637 (.forR (σ:=Unit) (ρ:=Int×(List Int)×(List Bool)×(List zw)×Bool) 4638 12 (r1.1.length:Int) () (.e [3,4,6,8,10] (fun _=>[]) [0,1,2] 16) (fun i1 s1=>.reg 0 (.ln 4652 zb r1.1 (.use 2 4652 (.sel 4638 (.reg 0 (.ix 4648 zb r1.1 (i1:Int) fun e1=>.use 2 4648 (.ite 4640 (e1 == move) (.sel 4640 (.reg 0 (.call 4650 (zgd c p move) fun r2=>.use 3 4650 (.ret (.inr (r2.state.day,r2.state.Zad,r2.state.used,r2.state.Zag,r2.own)))))) (.sel 4640 (.ret (.inl ())))))))))) fun os1=>.case os1 (fun s1=>.reg 0 (.ln 4654 zb r1.1 (.use 2 4654 (.sel 4638 (.ret (({state:=({day:=0,Zad:=[],used:=[],Zag:=[]}:Zao),own:=false}:Zae),13)))))) fun y1=>.ret (({state:=({day:=y1.1,Zad:=y1.2.1,used:=y1.2.2.1,Zag:=y1.2.2.2.1}:Zao),own:=y1.2.2.2.2}:Zae),0))) (.sel 4637 (.ret (({state:=({day:=0,Zad:=[],used:=[],Zag:=[]}:Zao),own:=false}:Zae),r1.2)))))
theorem zah (c:Zaa) (Zab:Int) (p:Zae) (move:Int) (res:Zae×Int) (hd:kw c Zab p move=some res):APure C0 279 [.agg (Zaa.row c),.int .i64 Zab,.agg (Zae.row p),.int .i64 move] (.tuple [.agg (Zae.row res.1),.int .i64 res.2]):=
  Zac.pure (iv:=fun res=>.tuple [.agg (Zae.row res.1),.int .i64 res.2]) (zge c Zab p move) (by kernel_rfl) (Zac.run_of hd (by kernel_rfl))
noncomputable def yE (s:ZaD) (p:Zae):Option Bool:=
  (Option.bind (forR (σ:=Unit) (ρ:=Unit) (s.rows.length:Int) (fun i1 s1=>(Option.bind (ze s.rows (i1:Int)) fun e1=>(Option.bind (yr e1.Zai p) fun r1=>(bif r1 then some (.inr ()) else some (.inl ()))))) ()) (Sum.elim (fun (s1:Unit)=>some false) (fun (y1:Unit)=>some true)))
noncomputable def zc0 (s:ZaD) (p:Zae):Zac Bool:=
  .forR (σ:=Unit) (ρ:=Unit) 4656 5 (s.rows.length:Int) () (.e [2,3] (fun _=>[]) [0,1] 4) (fun i1 s1=>.reg 0 (.ln 4664 ZaE.row s.rows (.use 3 4664 (.sel 4656 (.reg 0 (.ix 4660 ZaE.row s.rows (i1:Int) fun e1=>.call 4662 (Yh e1.Zai p) fun r1=>.us [(3,4660),(7,4662)] (.ite 4658 r1 (.sel 4658 (.ret (.inr ()))) (.sel 4658 (.ret (.inl ())))))))))) fun os1=>.case os1 (fun s1=>.reg 0 (.ln 4666 ZaE.row s.rows (.use 3 4666 (.sel 4656 (.ret false))))) fun y1=>.ret true
theorem zc1 (s:ZaD) (p:Zae) (res:Bool) (hd:yE s p=some res):APure C0 286 [.agg (ZaD.row s),.agg (Zae.row p)] (.bool res):=
  Zac.pure (iv:=fun res=>.bool res) (zc0 s p) (by kernel_rfl) (Zac.run_of hd (by kernel_rfl))
noncomputable def xM (c:Zaa) (s:ZaD):Option Bool:=
  (Option.bind (bif decide ((s.rows.length:Int) < 1) then some true else some (decide (1500 < (s.rows.length:Int)))) fun v1=>(bif v1 then some false else (Option.bind (forR (σ:=Unit) (ρ:=Unit) (s.rows.length:Int) (fun i1 s1=>(Option.bind (ze s.rows (i1:Int)) fun e1=>(Option.bind (vD c s.Zab e1.Zai) fun r1=>(Option.bind (bif (r1.2 == 0) then (Option.bind (yt c e1.Zai.state s.Zab) fun r2=>some r2) else some true) fun v2=>(bif v2 then some (.inr ()) else (Option.bind (forR (σ:=Bool) (ρ:=Unit) (r1.1.length:Int) (fun i2 s2=>(Option.bind (α:=Bool ⊕ Unit) (Option.bind (bif e1.Zai.own then (Option.bind (ze r1.1 (i2:Int)) fun e2=>(Option.bind (ze s.rows (i1:Int)) fun e3=>some (!(e2 == e3.move)))) else some false) fun v3=>(bif v3 then some (.inl s2) else (Option.bind (ze r1.1 (i2:Int)) fun e4=>(Option.bind (kw c s.Zab e1.Zai e4) fun r3=>(Option.bind (yE s r3.1) fun r4=>(bif r4 then some (.inl true) else some (.inr ()))))))) (Sum.elim (fun (v4:Bool)=>some (.inl v4)) (fun (y1:Unit)=>some (.inr ()))))) (!e1.Zai.own)) (Sum.elim (fun (s2:Bool)=>(bif s2 then some (.inl ()) else some (.inr ()))) (fun (y2:Unit)=>some (.inr ()))))))))) ()) (Sum.elim (fun (s1:Unit)=>some true) (fun (y3:Unit)=>some false)))))
noncomputable def Vu (c:Zaa) (s:ZaD):Zac Bool:=
  .cut (β:=Bool) 3 (.e [2,3] (fun v1=>[(22,vB v1)]) [0,1] 13) (.reg 0 (.ite 3388 (decide ((s.rows.length:Int) < 1)) (.ln 4672 ZaE.row s.rows (.us [(2,4672),(5,3388)] (.ret true))) (.ln 4676 ZaE.row s.rows (.us [(2,4676),(5,3388)] (.ln 4674 ZaE.row s.rows (.use 7 4674 (.ret (decide (1500 < (s.rows.length:Int)))))))))) fun v1=>.ite 3390 v1 (.sel 3390 (.ret false)) (.sel 3390 (.forR (σ:=Unit) (ρ:=Unit) 3392 5 (s.rows.length:Int) () (.e [2,3] (fun _=>[]) [0,1] 14) (fun i1 s1=>.reg 0 (.ln 4698 ZaE.row s.rows (.use 3 4698 (.sel 3392 (.reg 0 (.ix 4678 ZaE.row s.rows (i1:Int) fun e1=>.use 3 4678 (.reg 0 (.call 4680 (XF c s.Zab e1.Zai) fun r1=>.use 4 4680 (.cut (β:=Bool) 2 (.e [2,3,5,6,7] (fun v2=>[(53,vB v2)]) [0,1,25] 47) (.reg 0 (.ite 4602 (r1.2 == 0) (.call 4682 (Yi c e1.Zai.state s.Zab) fun r2=>.us [(3,4603),(8,4682)] (.ret r2)) (.use 3 4603 (.ret true)))) fun v2=>.ite 4628 v2 (.sel 4628 (.ret (.inr ()))) (.sel 4628 (.forR (σ:=Bool) (ρ:=Unit) 4630 10 (r1.1.length:Int) (!e1.Zai.own) (.e [2,3,5,6,7] (fun s2=>[(9,vB s2)]) [0,1,25] 52) (fun i2 s2=>.reg 0 (.ln 4694 zb r1.1 (.use 2 4694 (.sel 4630 (.cutO (β:=Bool) (γ:=Unit) 1 (.e [2,3,5,6,7,10] (fun v4=>[(9,vB v4)]) [0,1,25] 71) (.cut (β:=Bool) 3 (.e [2,3,5,6,7,9,10] (fun v3=>[(77,vB v3)]) [0,1,25] 71) (.reg 0 (.ite 4632 e1.Zai.own (.ix 4684 zb r1.1 (i2:Int) fun e2=>.ix 4686 ZaE.row s.rows (i1:Int) fun e3=>.us [(3,4632),(5,4684),(10,4686)] (.ret (!(e2 == e3.move)))) (.use 3 4632 (.ret false)))) fun v3=>.ite 4634 v3 (.sel 4634 (.ret (.inl s2))) (.sel 4634 (.reg 0 (.ix 4688 zb r1.1 (i2:Int) fun e4=>.call 4690 (zah c s.Zab e1.Zai e4) fun r3=>.us [(6,4688),(8,4690)] (.reg 0 (.call 4692 (zc1 s r3.1) fun r4=>.use 2 4692 (.ite 4668 r4 (.sel 4669 (.ret (.inl true))) (.sel 4669 (.ret (.inr ())))))))))) fun o_v4=>.case o_v4 (fun v4=>.ret (.inl v4)) fun y1=>.ret (.inr ())))))) fun os2=>.case os2 (fun s2=>.reg 0 (.ln 4696 zb r1.1 (.use 2 4696 (.sel 4630 (.ite 4670 s2 (.sel 4671 (.ret (.inl ()))) (.sel 4671 (.ret (.inr ())))))))) fun y2=>.ret (.inr ())))))))))))) fun os1=>.case os1 (fun s1=>.reg 0 (.ln 4700 ZaE.row s.rows (.use 3 4700 (.sel 3392 (.ret true))))) fun y3=>.ret false))
theorem Vv (c:Zaa) (s:ZaD) (res:Bool) (hd:xM c s=some res):APure C0 284 [.agg (Zaa.row c),.agg (ZaD.row s)] (.bool res):=
  Zac.pure (iv:=fun res=>.bool res) (Vu c s) (by kernel_rfl) (Zac.run_of hd (by kernel_rfl))
noncomputable def kW (d:ZaB) (p:Zae) (n:Int):Option Bool:=
  (Option.bind (forR (σ:=Unit) (ρ:=Unit) (d.rows.length:Int) (fun i1 s1=>(Option.bind (Option.bind (ze d.rows (i1:Int)) fun e1=>(bif decide (e1.rank < n) then (Option.bind (yr e1.Zai p) fun r1=>some r1) else some false)) fun v1=>(bif v1 then some (.inr ()) else some (.inl ())))) ()) (Sum.elim (fun (s1:Unit)=>some false) (fun (y1:Unit)=>some true)))
noncomputable def zeQ (d:ZaB) (p:Zae) (n:Int):Zac Bool:=
  .forR (σ:=Unit) (ρ:=Unit) 4732 7 (d.rows.length:Int) () (.e [2,3,4] (fun _=>[]) [0,1] 4) (fun i1 s1=>.reg 0 (.ln 4742 Zaz.row d.rows (.use 3 4742 (.sel 4732 (.cut (β:=Bool) 3 (.e [2,3,4,7] (fun v1=>[(32,vB v1)]) [0,1] 27) (.reg 0 (.ix 4738 Zaz.row d.rows (i1:Int) fun e1=>.ite 4734 (decide (e1.rank < n)) (.call 4740 (Yh e1.Zai p) fun r1=>.us [(3,4738),(9,4734),(12,4738),(16,4740)] (.ret r1)) (.us [(3,4738),(9,4734)] (.ret false)))) fun v1=>.ite 4736 v1 (.sel 4736 (.ret (.inr ()))) (.sel 4736 (.ret (.inl ())))))))) fun os1=>.case os1 (fun s1=>.reg 0 (.ln 4744 Zaz.row d.rows (.use 3 4744 (.sel 4732 (.ret false))))) fun y1=>.ret true
theorem zeR (d:ZaB) (p:Zae) (n:Int) (res:Bool) (hd:kW d p n=some res):APure C0 285 [.agg (ZaB.row d),.agg (Zae.row p),.int .i64 n] (.bool res):=
  Zac.pure (iv:=fun res=>.bool res) (zeQ d p n) (by kernel_rfl) (Zac.run_of hd (by kernel_rfl))
noncomputable def wO (c:Zaa) (d:ZaB):Option Bool:=
  (Option.bind (bif decide ((d.rows.length:Int) < 1) then some true else some (decide (1500 < (d.rows.length:Int)))) fun v1=>(bif v1 then some false else (Option.bind (forR (σ:=Unit) (ρ:=Unit) (d.rows.length:Int) (fun i1 s1=>(Option.bind (ze d.rows (i1:Int)) fun e1=>(Option.bind (vD c d.Zab e1.Zai) fun r1=>(Option.bind (bif (r1.2 == 0) then (bif decide (e1.rank < 0) then some true else (bif (e1.rank == 0) then (Option.bind (yt c e1.Zai.state d.Zab) fun r2=>some (!r2)) else some false)) else some true) fun v2=>(bif v2 then some (.inr ()) else (Option.bind (bif e1.Zai.own then some true else some (e1.rank == 0)) fun v3=>(Option.bind (α:=Bool ⊕ Unit) (Option.bind (iter (σ:=Bool×Int) (ρ:=Bool ⊕ Unit) (fun s2=>(Option.bind (bif decide (s2.2 < (r1.1.length:Int)) then some (decide (0 < e1.rank)) else some false) fun v4=>(bif v4 then (Option.bind (α:=Bool ⊕ Unit) (Option.bind (bif e1.Zai.own then some false else (Option.bind (ze r1.1 s2.2) fun e2=>some (!(e2 == e1.move)))) fun v5=>(bif v5 then some (.inl s2.1) else (Option.bind (ze r1.1 s2.2) fun e3=>(Option.bind (kw c d.Zab e1.Zai e3) fun r3=>(Option.bind (kW d r3.1 e1.rank) fun r4=>(bif r4 then some (.inl true) else some (.inr ()))))))) (Sum.elim (fun (v6:Bool)=>some (.inl (v6,(IntKind.i64.wrap (s2.2+1))))) (fun (y1:Unit)=>some (.inr (.inr ()))))) else some (.inr (.inl s2.1))))) (v3,0)) (Sum.elim (fun (y2:Bool)=>some (.inl y2)) (fun (y3:Unit)=>some (.inr ())))) (Sum.elim (fun (v7:Bool)=>(bif v7 then some (.inl ()) else some (.inr ()))) (fun (y4:Unit)=>some (.inr ())))))))))) ()) (Sum.elim (fun (s1:Unit)=>some true) (fun (y5:Unit)=>some false)))))
noncomputable def zai (c:Zaa) (d:ZaB):Zac Bool:=
  .cut (β:=Bool) 3 (.e [2,3] (fun v1=>[(22,vB v1)]) [0,1] 13) (.reg 0 (.ite 4704 (decide ((d.rows.length:Int) < 1)) (.ln 4750 Zaz.row d.rows (.us [(2,4750),(5,4704)] (.ret true))) (.ln 4754 Zaz.row d.rows (.us [(2,4754),(5,4704)] (.ln 4752 Zaz.row d.rows (.use 7 4752 (.ret (decide (1500 < (d.rows.length:Int)))))))))) fun v1=>.ite 4706 v1 (.sel 4706 (.ret false)) (.sel 4706 (.forR (σ:=Unit) (ρ:=Unit) 4708 5 (d.rows.length:Int) () (.e [2,3] (fun _=>[]) [0,1] 14) (fun i1 s1=>.reg 0 (.ln 4776 Zaz.row d.rows (.use 3 4776 (.sel 4708 (.reg 0 (.ix 4756 Zaz.row d.rows (i1:Int) fun e1=>.use 3 4756 (.reg 0 (.call 4758 (XF c d.Zab e1.Zai) fun r1=>.use 5 4758 (.cut (β:=Bool) 2 (.e [2,3,5,6,7] (fun v2=>[(65,vB v2)]) [0,1,24] 59) (.reg 0 (.ite 4710 (r1.2 == 0) (.ite 4712 (decide (e1.rank < 0)) (.us [(3,4711),(8,4712)] (.ret true)) (.ite 4714 (e1.rank == 0) (.call 4760 (Yi c e1.Zai.state d.Zab) fun r2=>.us [(3,4711),(8,4712),(12,4714),(18,4760)] (.ret (!r2))) (.us [(3,4711),(8,4712),(12,4714)] (.ret false)))) (.use 3 4711 (.f1 4762 (.g true) (rfl:true=true) (.use 8 4762 (.ret true)))))) fun v2=>.ite 4716 v2 (.sel 4716 (.ret (.inr ()))) (.sel 4716 (.cut (β:=Bool) 1 (.e [2,3,5,6,7] (fun v3=>[(9,vB v3)]) [0,1,24] 68) (.reg 0 (.ite 4718 e1.Zai.own (.use 4 4718 (.ret true)) (.use 4 4718 (.ret (e1.rank == 0))))) fun v3=>.cutO (β:=Bool) (γ:=Unit) 1 (.e [2,3,5] (fun v7=>[(9,vB v7)]) [0,1] 69) (.iter (σ:=Bool×Int) (ρ:=Bool ⊕ Unit) (v3,0) (.e [2,3,5,6,7] (fun s2=>[(9,vB s2.1),(10,vI s2.2)]) [0,1,24] 69) (fun s2=>.cut (β:=Bool) 2 (.e [2,3,5,6,7,9,10] (fun v4=>[(82,vB v4)]) [0,1,24] 78) (.reg 0 (.ite 4724 (decide (s2.2 < (r1.1.length:Int))) (.ln 4764 zb r1.1 (.us [(2,4764),(5,4724)] (.ret (decide (0 < e1.rank))))) (.ln 4766 zb r1.1 (.us [(2,4766),(5,4724)] (.ret false))))) fun v4=>.ite 4726 v4 (.sel 4726 (.cutO (β:=Bool) (γ:=Unit) 1 (.e [2,3,5,6,7,10] (fun v6=>[(9,vB v6)]) [0,1,24] 91) (.cut (β:=Bool) 3 (.e [2,3,5,6,7,9,10] (fun v5=>[(97,vB v5)]) [0,1,24] 91) (.reg 0 (.ite 4728 e1.Zai.own (.use 5 4729 (.ret false)) (.ix 4768 zb r1.1 s2.2 fun e2=>.us [(5,4729),(7,4768)] (.ret (!(e2 == e1.move)))))) fun v5=>.ite 4730 v5 (.sel 4730 (.ret (.inl s2.1))) (.sel 4730 (.reg 0 (.ix 4770 zb r1.1 s2.2 fun e3=>.call 4772 (zah c d.Zab e1.Zai e3) fun r3=>.us [(7,4770),(9,4772)] (.reg 0 (.call 4774 (zeR d r3.1 e1.rank) fun r4=>.use 4 4774 (.ite 4746 r4 (.sel 4747 (.ret (.inl true))) (.sel 4747 (.ret (.inr ())))))))))) fun o_v6=>.case o_v6 (fun v6=>.ret (.inl (v6,(IntKind.i64.wrap (s2.2+1))))) fun y1=>.ret (.inr (.inr ())))) (.sel 4726 (.ret (.inr (.inl s2.1))))) fun os2=>.case os2 (fun y2=>.ret (.inl y2)) fun y3=>.ret (.inr ())) fun o_v7=>.case o_v7 (fun v7=>.ite 4748 v7 (.sel 4749 (.ret (.inl ()))) (.sel 4749 (.ret (.inr ())))) fun y4=>.ret (.inr ())))))))))))) fun os1=>.case os1 (fun s1=>.reg 0 (.ln 4778 Zaz.row d.rows (.use 3 4778 (.sel 4708 (.ret true))))) fun y5=>.ret false))
theorem zaj (c:Zaa) (d:ZaB) (res:Bool) (hd:wO c d=some res):APure C0 283 [.agg (Zaa.row c),.agg (ZaB.row d)] (.bool res):=
  Zac.pure (iv:=fun res=>.bool res) (zai c d) (by kernel_rfl) (Zac.run_of hd (by kernel_rfl))
noncomputable def wP (c:Zaa) (s:ZaD) (d:ZaB):Option Bool:=
  (Option.bind (kl) fun r1=>(Option.bind (JQ c s d) fun r2=>(bif r2 then (Option.bind (bif r1 then (Option.bind (qC c s) fun r3=>(Option.bind (xM c s) fun r4=>(bif (r3 == r4) then (Option.bind (jb c d) fun r5=>(Option.bind (wO c d) fun r6=>some (r5 == r6))) else some false))) else some false) fun v1=>some v1) else some r1)))
noncomputable def WJ (c:Zaa) (s:ZaD) (d:ZaB):Zac Bool:=
  .reg 1 (.call 4780 zfR fun r1=>.use 0 4780 (.reg 0 (.call 4782 (zhz c s d) fun r2=>.use 3 4782 (.ite 3384 r2 (.sel 3385 (.cut (β:=Bool) 1 (.e [] (fun v1=>[(6,vB v1)]) [0,1,2] 31) (.reg 0 (.ite 3386 r1 (.call 4784 (x8 c s) fun r3=>.call 4786 (Vv c s) fun r4=>.ite 4702 (r3 == r4) (.call 4788 (Zl c d) fun r5=>.call 4790 (zaj c d) fun r6=>.us [(2,3386),(4,4784),(7,4786),(11,4702),(13,4788),(16,4790)] (.ret (r5 == r6))) (.us [(2,3386),(4,4784),(7,4786),(11,4702)] (.ret false))) (.use 2 3386 (.f1 4792 (.g false) (rfl:false=false) (.use 11 4792 (.ret false)))))) fun v1=>.ret v1)) (.sel 3385 (.ret r1))))))
theorem WK (c:Zaa) (s:ZaD) (d:ZaB) (res:Bool) (hd:wP c s d=some res):APure C0 235 [.agg (Zaa.row c),.agg (ZaD.row s),.agg (ZaB.row d)] (.bool res):=
  Zac.pure (iv:=fun res=>.bool res) (WJ c s d) (by kernel_rfl) (Zac.run_of hd (by kernel_rfl))
end Go.Proofs.YtmoedieenlaegaaGreatDoor
namespace Go.Proofs.YtmoedieenlaegaaGreatDoor
set_option linter.unusedSimpArgs false
set_option linter.unusedVariables false
set_option maxRecDepth 100000
theorem zeS (a b:Int):∃ r,iter (σ:=Int×Int) (ρ:=Int) (fun s2=>(bif (s2.2 == 0) then some (.inr s2.1) else (Option.bind (wb .u64 s2.1 s2.2) fun e2=>some (.inl (s2.2,e2))))) (a,b)=some r:=by
  have:=Yd (f:=fun s2:Int×Int=>(bif (s2.2 == 0) then some (.inr s2.1) else (Option.bind (wb .u64 s2.1 s2.2) fun e2=>some (.inl (s2.2,e2))))) (fun _=>True) (fun _:Int=>True) (fun s=>s.2.natAbs) (fun s _=>by
    by_cases h:s.2=0
    · exact ⟨.inr s.1,by simp [h],trivial⟩
    · refine ⟨.inl (s.2,s.1.tmod s.2),by simp [beq_eq_false_iff_ne.2 h,h,wb],trivial,?_⟩
      show (s.1.tmod s.2).natAbs < s.2.natAbs
      rw [Int.natAbs_tmod]
      exact Nat.mod_lt _ (by omega)) (a,b) trivial
  obtain ⟨r,h,_⟩:=this
  exact ⟨r,h⟩
theorem YE (l:List Int) (hl:l.length < 1000):∃ r,xA l=some r:=by
  unfold xA
  obtain ⟨o,h1,h2⟩:=xJ (n:=l.length) (s0:=(0:Int)) (f:=(fun i1 s1=>(Option.bind (Option.bind (ze l (i1:Int)) fun e1=>(Option.bind (iter (σ:=Int×Int) (ρ:=Int) (fun s2=>(bif (s2.2 == 0) then some (.inr s2.1) else (Option.bind (wb .u64 s2.1 s2.2) fun e2=>some (.inl (s2.2,e2))))) (s1,e1)) (fun (y1:Int)=>some y1))) fun (v1:Int)=>some (.inl v1)))) (fun _ _=>True) (fun _:Unit=>False) (by omega) trivial (fun i s hi _=>by
    obtain ⟨r,hr⟩:=zeS s l[i]
    exact ⟨.inl r,by simp only [zz,List.getElem?_eq_getElem hi,Option.bind_some,hr],trivial⟩)
  rw [h1]
  cases o with
  | inl s=>exact ⟨s,rfl⟩
  | inr r=>exact h2.elim
theorem kX (n:Int):∃ r,jH n=some r:=by
  unfold jH;simp only [zh];exact ⟨_,rfl⟩
noncomputable def rvB (r:Ratio):Bool:=(qQ r).getD false
theorem wQ (r:Ratio):qQ r=some (rvB r):=by
  have:∃ b,qQ r=some b:=by
    unfold qQ
    obtain ⟨a,ha⟩:=kX r.num
    obtain ⟨b,hb⟩:=kX r.den
    obtain ⟨g,hg⟩:=YE [a,b] (by simp)
    simp only [ha,hb,hg,zh,ZaT]
    exact ⟨_,rfl⟩
  obtain ⟨b,hb⟩:=this
  unfold rvB;rw [hb];rfl
def zjw (x:Option (Int×Bool)):Bool:=(x.getD (0,false)).2
theorem zhU {x:Option (Int×Bool)} {r:Int×Bool} (h:x=some r):x=some (r.1,zjw x):=by subst h;rfl
noncomputable def quB (l:List Zau):Bool:=zjw (qA l)
theorem WL (t:List Zau) (i:Nat) (hi:i < t.length) (ht:t.length < 1000):∃ b,jI t i=some b:=by
  unfold jI
  have hs:yx t 0 (i:Int)=some (t.take i):=by
    unfold yx;rw [if_pos ⟨by omega,by omega,by omega⟩];simp
  have hf:forR (σ:=Unit) (ρ:=Unit) ((t.take i).length:Int) (fun i1 s1=>(Option.bind (ze (t.take i) (i1:Int)) fun e3=>(bif (e3.name.toList == t[i].name.toList) then some (.inr ()) else some (.inl ())))) ()=some (match (List.range (t.take i).length).find? (fun j=>!(match (t.take i)[j]? with | some e=>!(e.name.toList == t[i].name.toList) | none=>true)) with | none=>.inl () | some j=>.inr ()):=by
    refine jD _ (fun _=>()) (by simp;omega) (fun j hj => ?_)
    simp only [zz,List.getElem?_eq_getElem hj,ZaT]
    cases ((t.take i)[j].name.toList == t[i].name.toList)<;>rfl
  rw [zD (List.getElem?_eq_getElem hi)]
  simp only [ZaT]
  rw [hs]
  simp only [ZaT]
  rw [hf]
  simp only [wQ,zh,ZaT,kP]
  split
  all_goals simp only [ZaU,ZaV,zh]
  · by_cases hb:0≤t[i].base∧t[i].base < t.length
    · obtain ⟨h1,h2⟩:=qm hb.1 hb.2
      simp only [h2,ZaT,zh]
      exact ⟨_,rfl⟩
    · by_cases h1:0≤t[i].base
      · have:¬ t[i].base < t.length:=fun h=>hb ⟨h1,h⟩
        simp only [h1,this,decide_true,decide_false,ZaR,ZaS,ZaT,zh]
        exact ⟨_,rfl⟩
      · simp only [h1,decide_false,ZaS,ZaT,zh]
        exact ⟨_,rfl⟩
  · exact ⟨_,rfl⟩
theorem kY (l:List Zau) (hl:l.length < 1000):∃ k,qA l=some (k,quB l):=by
  have:∃ r,qA l=some r:=by
    unfold qA
    obtain ⟨o,h1,h2⟩:=xJ (n:=l.length) (s0:=()) (f:=(fun i1 s1=>(Option.bind (jI l (i1:Int)) fun r1=>(bif r1 then some (.inl ()) else some (.inr (i1:Int)))))) (fun _ _=>True) (fun _:Int=>True) (by omega) trivial (fun i s hi _=>by
      obtain ⟨b,hb⟩:=WL l i hi hl
      cases b with
      | true=>exact ⟨.inl (),by simp [hb],trivial⟩
      | false=>exact ⟨.inr i,by simp [hb],trivial⟩)
    rw [h1]
    cases o with
    | inl s=>exact ⟨_,rfl⟩
    | inr r=>exact ⟨_,rfl⟩
  obtain ⟨r,hr⟩:=this
  exact ⟨r.1,zhU hr⟩
def jg (nh:Nat) (r:Int):Bool:=decide (0≤r)&&decide (r < nh)
theorem Jj (c:Zaa) (r:Int):jf c r=some (jg c.Zad.length r):=by
  simp only [jf,zh,ZaT,jg,Bool.cond_false_right]
noncomputable def Zm (r:Ratio):Bool:=decide (0 < r.num)&&rvB r
theorem WM (r:Ratio):j3 r=some (Zm r):=by
  simp only [j3,wQ,zh,ZaT,Zm,Bool.cond_false_right]
def ya (r:Ratio):Bool:=r.num == 0&&(r.den == 1&&true)
noncomputable def Zn (nh nu:Nat) (Zal:Int) (a:Zar):Bool:=
  bif jg nh a.Zax then
    (bif a.kind == 1 then (a.give == 0&&(a.to == -1||jg nh a.to))&&(bif a.unit == -1 then ya a.lot else (decide (0≤a.unit)&&(decide (a.unit < nu)&&Zm a.lot)))
    else (a.kind == 2||a.kind == 3)&&(jg nh a.give&&(decide (0≤a.to)&&(decide (a.to < Zal)&&(a.unit == -1&&ya a.lot)))))
  else a.kind == 1&&(a.Zax == -1&&(a.give == 0&&((a.to == -1||jg nh a.to)&&(a.unit == -1&&ya a.lot))))
theorem zc2 (c:Zaa) (a:Zar):wG c a=some (Zn c.Zad.length c.Zap.length c.Zal a):=by
  simp only [wG,Jj,WM,yp,ZaT,zh,Zn,ya]
  cases jg c.Zad.length a.Zax<;>cases (a.kind == 1)<;>cases (a.give == 0)<;>cases (a.to == -1)<;>cases (jg c.Zad.length a.to)<;>cases (a.unit == -1) <;>
    simp only [ZaR,ZaS,ZaI,ZaJ,ZaT,ZaO,ZaP,ZaK,ZaL,zh,Bool.cond_false_right,ZaQ,ZaN] <;>
    first | rfl | (cases (a.Zax == -1)<;>rfl) | (cases (a.kind == 2)<;>rfl)
def x9 (Zal:Int) (hs:List Int):Bool:=hs.all fun h=>decide (0≤h)&&decide (h < Zal)
theorem zjx (c:Zaa) (hp:c.Zal < 4611686018427387904) (hl:c.Zad.length < 4611686018427387904):Wt c=some (x9 c.Zal c.Zad):=by
  unfold Wt
  have hin:∀ (i:Nat) (hi:i < c.Zad.length),(Option.bind (α:=Unit ⊕ Unit) (Option.bind (forR (σ:=Unit) (ρ:=Unit) c.Zal (fun i2 s2=>(Option.bind (ze c.Zad (i:Int)) fun e1=>(bif (e1 == (i2:Int)) then some (.inr ()) else some (.inl ())))) ()) (Sum.elim (fun (s2:Unit)=>some (.inr ())) (fun (y1:Unit)=>some (.inl ())))) (Sum.elim (fun (v1:Unit)=>some (.inl ())) (fun (y2:Unit)=>some (.inr ())))) =
      some (bif decide (0≤c.Zad[i])&&decide (c.Zad[i] < c.Zal) then (.inl ():Unit ⊕ Unit) else .inr ()):=fun i hi=>by
    obtain ⟨o,h1,h2⟩:=Yc (n:=c.Zal) (s0:=()) (f:=(fun i2 s2=>(Option.bind (ze c.Zad (i:Int)) fun e1=>(bif (e1 == (i2:Int)) then some (.inr ()) else some (.inl ()))))) (fun k _=>∀ j:Nat,j < k→c.Zad[i]≠(j:Int)) (fun _:Unit=>0≤c.Zad[i]∧c.Zad[i] < c.Zal) hp (fun j hj=>by omega) (fun k s hk hI=>by
      simp only [zz,List.getElem?_eq_getElem hi,ZaT]
      by_cases he:c.Zad[i]=(k:Int)
      · exact ⟨.inr (),by simp [he],by show 0≤c.Zad[i]∧c.Zad[i] < c.Zal;omega⟩
      · refine ⟨.inl (),by rw [beq_eq_false_iff_ne.2 he];rfl,fun j hj => ?_⟩
        rcases Nat.lt_or_ge j k with h | h
        · exact hI j h
        · obtain rfl:j=k:=by omega
          exact he)
    rw [h1]
    cases o with
    | inl s=>
      have:¬ (0≤c.Zad[i]∧c.Zad[i] < c.Zal):=fun h=>h2 c.Zad[i].toNat (by omega) (by omega)
      have hb:(decide (0≤c.Zad[i])&&decide (c.Zad[i] < c.Zal))=false:=by
        rw [Bool.eq_false_iff];simp only [ne_eq,Bool.and_eq_true,decide_eq_true_eq];exact this
      rw [hb];rfl
    | inr r=>
      have hb:(decide (0≤c.Zad[i])&&decide (c.Zad[i] < c.Zal))=true:=by
        simp only [Bool.and_eq_true,decide_eq_true_eq];exact h2
      rw [hb];rfl
  rw [jD (fun i=>match c.Zad[i]? with | some h=>decide (0≤h)&&decide (h < c.Zal) | none=>true) (fun _=>()) hl (fun i hi=>by
    rw [hin i hi];simp only [List.getElem?_eq_getElem hi])]
  cases hf:(List.range c.Zad.length).find? (fun j=>!(match c.Zad[j]? with | some h=>decide (0≤h)&&decide (h < c.Zal) | none=>true)) with
  | none=>
    simp only [ZaT,ZaU]
    have:x9 c.Zal c.Zad=true:=List.all_eq_true.2 fun h hh=>by
      obtain ⟨i,hi,rfl⟩:=List.getElem_of_mem hh
      have:=wq hf i hi
      simpa only [List.getElem?_eq_getElem hi] using this
    rw [this]
  | some k=>
    simp only [ZaT,ZaV]
    obtain ⟨h1,h2,_⟩:=wt hf
    have:x9 c.Zal c.Zad=false:=by
      rw [Bool.eq_false_iff]
      intro h
      have:=List.all_eq_true.1 h c.Zad[k] (List.getElem_mem h1)
      simp only [List.getElem?_eq_getElem h1] at h2
      rw [h2] at this;cases this
    rw [this]
noncomputable def kx (Zas:Int) (off:List Int):Bool:=((Option.bind (forR (σ:=Int) (ρ:=Unit) (off.length:Int) (fun i2 s2=>(Option.bind (ze off (i2:Int)) fun e2=>(Option.bind (bif decide (e2≤s2) then some true else some (decide (Zas≤e2))) fun v2=>(bif v2 then some (.inr ()) else some (.inl e2))))) (-1)) (Sum.elim (fun (s2:Int)=>some true) (fun (y2:Unit)=>some false)))).getD false
theorem zk7 (Zas:Int) (off:List Int) (hl:off.length < 4611686018427387904):(Option.bind (forR (σ:=Int) (ρ:=Unit) (off.length:Int) (fun i2 s2=>(Option.bind (ze off (i2:Int)) fun e2=>(Option.bind (bif decide (e2≤s2) then some true else some (decide (Zas≤e2))) fun v2=>(bif v2 then some (.inr ()) else some (.inl e2))))) (-1)) (Sum.elim (fun (s2:Int)=>some true) (fun (y2:Unit)=>some false)))=some (kx Zas off):=by
  obtain ⟨o,h1,h2⟩:=xJ (n:=off.length) (s0:=(-1:Int)) (f:=(fun i2 s2=>(Option.bind (ze off (i2:Int)) fun e2=>(Option.bind (bif decide (e2≤s2) then some true else some (decide (Zas≤e2))) fun v2=>(bif v2 then some (.inr ()) else some (.inl e2)))))) (fun _ _=>True) (fun _:Unit=>True) hl trivial (fun i s hi _=>by
    simp only [zz,List.getElem?_eq_getElem hi,ZaT,zh]
    cases (bif decide (off[i]≤s) then true else decide (Zas≤off[i])) with
    | true=>exact ⟨.inr (),rfl,trivial⟩
    | false=>exact ⟨.inl _,rfl,trivial⟩)
  unfold kx
  rw [h1]
  cases o<;>rfl
noncomputable def q6 (c:Zaa):Bool:=
  !(decide (c.Zal < 1))&&(!(decide (c.Zas < 1))&&(!((c.Zad.length:Int) == 0)&&(x9 c.Zal c.Zad&&(quB c.Zap&&(c.Zaj.all (Zn c.Zad.length c.Zap.length c.Zal)&&kx c.Zas c.off)))))
theorem qR {α:Type} {l:List α} {f:Nat→Unit→Option (Unit ⊕ Unit)} (p:α→Bool) (hl:l.length < 4611686018427387904) (h:∀ (i:Nat) (hi:i < l.length),f i ()=some (bif p l[i] then .inl () else .inr ())) :
    forR (l.length:Int) f ()=some (bif l.all p then .inl () else .inr ()):=by
  rw [jD (fun i=>match l[i]? with | some x=>p x | none=>true) (fun _=>()) hl (fun i hi=>by rw [h i hi];simp only [List.getElem?_eq_getElem hi])]
  cases hf:(List.range l.length).find? (fun j=>!(match l[j]? with | some x=>p x | none=>true)) with
  | none=>
    have:l.all p=true:=List.all_eq_true.2 fun x hx=>by
      obtain ⟨i,hi,rfl⟩:=List.getElem_of_mem hx
      have:=wq hf i hi
      simpa only [List.getElem?_eq_getElem hi] using this
    rw [this];rfl
  | some k=>
    obtain ⟨h1,h2,_⟩:=wt hf
    have:l.all p=false:=by
      rw [Bool.eq_false_iff]
      intro h
      have:=List.all_eq_true.1 h l[k] (List.getElem_mem h1)
      simp only [List.getElem?_eq_getElem h1] at h2
      rw [h2] at this;cases this
    rw [this];rfl
theorem zgf (c:Zaa) (hp:c.Zal < 4611686018427387904) (hh:c.Zad.length < 4611686018427387904) (hu:c.Zap.length < 1000) (ha:c.Zaj.length < 1000) (ho:c.off.length < 4611686018427387904):Qj c=some (q6 c):=by
  unfold Qj
  obtain ⟨k,hk⟩:=kY c.Zap hu
  have hacts:=qR (l:=c.Zaj) (f:=(fun i1 s1=>(Option.bind (ze c.Zaj (i1:Int)) fun e1=>(Option.bind (wG c e1) fun r3=>(bif r3 then some (.inl ()) else some (.inr ())))))) (Zn c.Zad.length c.Zap.length c.Zal) (by omega) (fun i hi=>by
    simp only [zz,List.getElem?_eq_getElem hi,ZaT,zc2,zh])
  rw [zjx c hp hh,hk]
  simp only [ZaT]
  rw [hacts]
  simp only [ZaT]
  rw [zk7 c.Zas c.off ho]
  simp only [ZaT,zh,q6]
  cases decide (c.Zal < 1)<;>cases decide (c.Zas < 1)<;>cases ((c.Zad.length:Int) == 0)<;>cases x9 c.Zal c.Zad<;>cases quB c.Zap<;>cases c.Zaj.all (Zn c.Zad.length c.Zap.length c.Zal) <;>
    simp only [ZaR,ZaS,ZaI,ZaJ,ZaT,ZaK,ZaL,ZaU,ZaV]
def j8 (Zaj:List Zar) (a:Int):Bool:=match ze Zaj a with
  | some e=>e.kind == 1&&e.Zax == -1
  | none=>false
theorem Yj (c:Zaa) (a:Int):jW c a=some (j8 c.Zaj a):=by
  unfold jW j8
  by_cases h:0≤a∧a < c.Zaj.length
  · obtain ⟨h1,h2⟩:=qm h.1 h.2
    simp only [h2,h.1,h.2,decide_true,ZaR,ZaT,zh,Bool.cond_false_right]
  · rw [Qh h]
    by_cases h1:0≤a
    · have:¬ a < c.Zaj.length:=fun h2=>h ⟨h1,h2⟩
      simp only [h1,this,decide_true,decide_false,ZaR,ZaS,ZaT]
    · simp only [h1,decide_false,ZaS,ZaT]
def JY (nh:Nat) (Zaj:List Zar) (k:Zan):Bool:=
  bif k.kind == 4 then k.Zax == -1&&(k.need == 1&&(k.ZaA == 0 && !k.final))
  else (jg nh k.Zax && !j8 Zaj k.act)&&(bif k.kind == 1 then decide (1≤k.need)&&(decide (k.need≤9)&&(decide (0≤k.ZaA)&&decide (k.ZaA≤400)))
    else bif k.kind == 2 then k.need == 1&&k.ZaA == 0 else k.kind == 3&&(k.need == 1&&(k.ZaA == 0 && !k.final)))
theorem zbc (c:Zaa) (k:Zan):vY c k=some (JY c.Zad.length c.Zaj k):=by
  simp only [vY,Jj,Yj,ZaT,zh,JY]
  cases (k.kind == 4)<;>cases jg c.Zad.length k.Zax<;>cases j8 c.Zaj k.act<;>cases (k.kind == 1)<;>cases (k.kind == 2)<;>cases (k.kind == 3) <;>
    simp only [ZaR,ZaS,ZaI,ZaJ,ZaT,ZaK,ZaL,ZaN,Bool.cond_false_right,zh]
def yF (n:Nat) (i:Int) (s:CondT):Bool := !(decide (s.clause < 0))&&(!(decide ((n:Int)≤s.clause))&&(!(s.clause == i)&&(!(decide (s.is < 1)) && !(decide (4 < s.is)))))
noncomputable def zak (nh:Nat) (Zap:List Zau) (k:Zan):Bool:=
  (k.kind == 1||k.kind == 2)&&((match ze Zap k.unit with | some u=>u.kind == 2 | none=>false)&&(Zm k.value&&jg nh k.to))
def wR (Zaj:List Zar) (k:Zan):Bool:=(k.pause == -1&&k.ZaG == -1)||(!(k.pause == k.ZaG)&&(j8 Zaj k.pause&&j8 Zaj k.ZaG))
noncomputable def xj (nh:Nat) (Zap:List Zau) (Zaj:List Zar) (n:Nat) (i:Int) (k:Zan):Bool:=
  (!(decide (k.act < 0))&&(!(decide ((Zaj.length:Int)≤k.act))&&(!(decide (k.after < 1)) && !(decide (400 < k.after))))) &&
  ((JY nh Zaj k && !(decide (8 < (k.start.length:Int)))) &&
  (k.start.all (yF n i) &&
  (wR Zaj k &&
  (bif k.unit == -1 then ya k.value&&k.to == -1 else zak nh Zap k))))
theorem YF (c:Zaa) (i:Nat) (k:Zan) (hk:c.Zaf[i]?=some k) (hs:k.start.length < 4611686018427387904):xZ c i=some (xj c.Zad.length c.Zap c.Zaj c.Zaf.length i k):=by
  unfold xZ
  have hst:=qR (l:=k.start) (f:=(fun i1 s1=>(Option.bind (ze k.start (i1:Int)) fun e2=>(Option.bind (bif decide (e2.clause < 0) then some true else (bif decide ((c.Zaf.length:Int)≤e2.clause) then some true else (bif (e2.clause == (i:Int)) then some true else (bif decide (e2.is < 1) then some true else some (decide (4 < e2.is)))))) fun v3=>(bif v3 then some (.inr ()) else some (.inl ())))))) (yF c.Zaf.length i) hs (fun j hj=>by
    simp only [zz,List.getElem?_eq_getElem hj,ZaT,zh,yF]
    cases decide (k.start[j].clause < 0)<;>cases decide ((c.Zaf.length:Int)≤k.start[j].clause)<;>cases (k.start[j].clause == (i:Int))<;>cases decide (k.start[j].is < 1)<;>cases decide (4 < k.start[j].is)<;>rfl)
  have hu:(bif decide (0≤k.unit) then (bif decide (k.unit < (c.Zap.length:Int)) then (Option.bind (ze c.Zap k.unit) fun e3=>(bif (e3.kind == 2) then (Option.bind (j3 k.value) fun r5=>(bif r5 then (Option.bind (jf c k.to) fun r6=>some r6) else some false)) else some false)) else some false) else some false) =
      some ((match ze c.Zap k.unit with | some u=>u.kind == 2 | none=>false)&&(Zm k.value&&jg c.Zad.length k.to)):=by
    by_cases h:0≤k.unit∧k.unit < c.Zap.length
    · obtain ⟨h1,h2⟩:=qm h.1 h.2
      simp only [h2,h.1,h.2,decide_true,ZaR,ZaT,zh,Bool.cond_false_right,WM,Jj]
    · rw [Qh h]
      by_cases h1:0≤k.unit
      · have:¬ k.unit < c.Zap.length:=fun h2=>h ⟨h1,h2⟩
        simp only [h1,this,decide_true,decide_false,ZaR,ZaS,ZaL]
      · simp only [h1,decide_false,ZaS,ZaL]
  have hp:(Option.bind (bif (k.pause == (-1)) then some (!(k.ZaG == (-1))) else some true) fun v4=>(bif v4 then (Option.bind (bif (k.pause == k.ZaG) then some true else (Option.bind (jW c k.pause) fun r2=>(bif r2 then (Option.bind (jW c k.ZaG) fun r3=>some (!r3)) else some true))) fun v5=>(bif v5 then some (.inr ()) else some (.inl ()))) else some (.inl ()))) =
      some (bif wR c.Zaj k then (.inl ():Unit ⊕ Unit) else .inr ()):=by
    simp only [Yj,wR,zh,ZaT]
    cases (k.pause == -1)<;>cases (k.ZaG == -1)<;>cases (k.pause == k.ZaG)<;>cases j8 c.Zaj k.pause<;>cases j8 c.Zaj k.ZaG<;>rfl
  rw [zD hk]
  simp only [ZaT]
  rw [hst]
  simp only [ZaT]
  rw [hp,hu]
  simp only [ZaT,zbc,yp,zh,xj,zak,ya]
  cases decide (k.act < 0)<;>simp only [ZaR,ZaS,ZaI,ZaJ,ZaK,ZaL,ZaT]
  cases decide ((c.Zaj.length:Int)≤k.act)<;>simp only [ZaR,ZaS,ZaI,ZaJ,ZaK,ZaL,ZaT]
  cases decide (k.after < 1)<;>simp only [ZaR,ZaS,ZaI,ZaJ,ZaK,ZaL,ZaT]
  cases decide (400 < k.after)<;>simp only [ZaR,ZaS,ZaI,ZaJ,ZaK,ZaL,ZaT]
  cases JY c.Zad.length c.Zaj k<;>simp only [ZaR,ZaS,ZaI,ZaJ,ZaK,ZaL,ZaT]
  cases decide (8 < (k.start.length:Int))<;>simp only [ZaR,ZaS,ZaI,ZaJ,ZaK,ZaL,ZaT]
  cases k.start.all (yF c.Zaf.length i)<;>simp only [ZaR,ZaS,ZaI,ZaJ,ZaK,ZaL,ZaT,ZaU,ZaV]
  cases wR c.Zaj k<;>simp only [ZaR,ZaS,ZaK,ZaL,ZaU,ZaV]
  cases (k.kind == 1)<;>cases (k.kind == 2)<;>simp only [ZaR,ZaS,Bool.cond_false_right,ZaO,Bool.or_true,Bool.or_self,ZaK,ZaL]
def wS (c:Zaa):Bool:=decide (12 < c.Zal)||(decide (2000 < c.Zas)||(decide (12 < (c.Zad.length:Int))||(decide (20 < (c.Zap.length:Int))||(decide (60 < (c.Zaj.length:Int))||decide (400 < (c.Zaf.length:Int))))))
noncomputable def clB (c:Zaa) (i:Nat):Bool:=match c.Zaf[i]? with
  | some k=>xj c.Zad.length c.Zap c.Zaj c.Zaf.length i k
  | none=>true
noncomputable def z7 (c:Zaa):Int×Int:=
  bif wS c then (3,-1) else bif q6 c then (match (List.range c.Zaf.length).find? (fun j=>!clB c j) with | none=>(0,-1) | some j=>(1,(j:Int))) else (1,-1)
theorem zhV (c:Zaa) (ho:c.off.length < 4611686018427387904) (hs:∀ k∈c.Zaf,k.start.length < 4611686018427387904):vr c=some (z7 c):=by
  unfold vr z7
  simp only [zh,Bool.cond_true_left,ZaT]
  show (bif wS c then _ else _)=_
  cases hlim:wS c with
  | true=>rfl
  | false=>
    simp only [wS,Bool.or_eq_false_iff,decide_eq_false_iff_not] at hlim
    obtain ⟨h1,h2,h3,h4,h5,h6⟩:=hlim
    simp only [ZaS,zgf c (by omega) (by omega) (by omega) (by omega) ho,ZaT]
    cases q6 c with
    | false=>rfl
    | true=>
      simp only [ZaR]
      rw [jD (fun i=>clB c i) (fun i=>(i:Int)) (by omega) (fun i hi=>by
        rw [YF c i c.Zaf[i] (List.getElem?_eq_getElem hi) (hs _ (List.getElem_mem hi))]
        simp only [ZaT,clB,List.getElem?_eq_getElem hi,zh])]
      cases (List.range c.Zaf.length).find? (fun j=>!clB c j)<;>rfl
end Go.Proofs.YtmoedieenlaegaaGreatDoor
namespace Go.Proofs.YtmoedieenlaegaaGreatDoor
open Go.RowKit
set_option linter.unusedSimpArgs false
set_option linter.unusedVariables false
set_option maxRecDepth 100000
theorem LOk.lt {α:Type} {n:Nat} {p:α→Prop} {l:List α} (h:LOk n p l) (hn:0 < n):l.length < 4611686018427387904:=by
  have h1:=h.1
  have h2:reachBytes≤140737488355328:=by decide +kernel
  have:=Nat.le_mul_of_pos_right l.length hn
  omega
theorem Zaa.Ok.valid {c:Zaa} (hc:c.Ok):vr c=some (z7 c):=
  zhV c (hc.off.lt (by omega)) (fun k hk=>(hc.Zaf.2 k hk).start.lt (by omega))
inductive ValidIs (c:Zaa):Int×Int→Prop where
  | lim (h:wS c=true):ValidIs c (3,-1)
  | frame (h:wS c=false) (hf:q6 c=false):ValidIs c (1,-1)
  | bad (h:wS c=false) (hf:q6 c=true) (i:Nat) (hi:i < c.Zaf.length) (hb:clB c i=false) (hl:∀ j,j < i→clB c j=true):ValidIs c (1,(i:Int))
  | ok (h:wS c=false) (hf:q6 c=true) (ha:∀ j,j < c.Zaf.length→clB c j=true):ValidIs c (0,-1)
theorem zgg (c:Zaa):ValidIs c (z7 c):=by
  unfold z7
  cases h:wS c with
  | true=>exact .lim h
  | false=>
    simp only [ZaS]
    cases hf:q6 c with
    | false=>exact .frame h hf
    | true=>
      simp only [ZaR]
      cases hq:(List.range c.Zaf.length).find? (fun j=>!clB c j) with
      | none=>exact .ok h hf (wq hq)
      | some j=>obtain ⟨h1,h2,h3⟩:=wt hq;exact .bad h hf j h1 h2 h3
theorem yu {c:Zaa} (h:(z7 c).1=0):wS c=false∧q6 c=true∧(∀ j,j < c.Zaf.length→clB c j=true)∧z7 c=(0,-1):=by
  have hv:=zgg c
  generalize hr:z7 c=r at h hv ⊢
  cases hv with
  | lim _=>simp at h
  | frame _ _=>simp at h
  | bad _ _ i _ _ _=>simp at h
  | ok a b d=>exact ⟨a,b,d,rfl⟩
theorem zjy (x y:Int):ZD x y=some (decide (x < y)):=by
  simp [ZD,Qk]
theorem zjz {a b:Int} (h0:0≤a) (h1:a≤b) (h2:b < 4611686018427387904):Q3 .u64 .u64 (IntKind.u64.wrap (IntKind.i64.wrap (a+b))) 1=some ((a+b) / 2):=by
  rw [zX (by omega) (by omega),Z5 (by omega) (by omega)]
  unfold Q3
  rw [if_neg (by omega)]
  have:(2:Int) ^ (min (1:Int).toNat IntKind.u64.bits)=2:=by decide
  rw [this,Int.fdiv_eq_ediv_of_nonneg _ (by omega)]
def qw (l:List Int) (v:Int):Option Int:=if v∈l then some (l.idxOf v:Int) else none
theorem zgh {l:List Int} (hn:l.Nodup) {i:Nat} (hi:i < l.length):l.idxOf l[i]=i:=by
  have h1:l.idxOf l[i] < l.length:=List.idxOf_lt_length_iff.2 (List.getElem_mem hi)
  have h2:=List.getElem_idxOf h1
  exact (List.getElem?_inj h1 hn).1 (by rw [List.getElem?_eq_getElem h1,List.getElem?_eq_getElem hi,h2])
theorem zhW {l:List Int} (hn:l.Nodup) {i:Nat} {v:Int} (h:l[i]?=some v):qw l v=some (i:Int):=by
  obtain ⟨hi,rfl⟩:=List.getElem?_eq_some_iff.1 h
  unfold qw
  rw [if_pos (List.getElem_mem hi),zgh hn hi]
theorem Vw (l:List Int) (v:Int) (hs:l.Pairwise (· < ·)) (hl:l.length < 4611686018427387904):∃ r:Int,jt l v=some (r,(qw l v).isSome)∧∀ p,qw l v=some p→r=p:=by
  have hp:=List.pairwise_iff_getElem.1 hs
  unfold jt
  have hit:Ret (iter (σ:=Int×Int) (ρ:=Int) (fun s1=>(bif decide (s1.1 < s1.2) then (Option.bind (Q3 .u64 .u64 (IntKind.u64.wrap (IntKind.i64.wrap (s1.1+s1.2))) 1) fun e1=>(Option.bind (ze l (IntKind.i64.wrap e1)) fun e2=>(Option.bind (ZD e2 v) fun r1=>(bif r1 then some (.inl ((IntKind.i64.wrap ((IntKind.i64.wrap e1)+1)),s1.2)) else some (.inl (s1.1,(IntKind.i64.wrap e1))))))) else some (.inr s1.1))) (0,(l.length:Int)))
      (fun r=>0≤r∧r≤l.length∧(∀ (j:Nat) (hj:j < l.length),(j:Int) < r→l[j] < v)∧(∀ (j:Nat) (hj:j < l.length),r≤(j:Int)→v≤l[j])):=by
    refine Ret.iter (fun s=>0≤s.1∧s.1≤s.2∧s.2≤l.length∧(∀ (j:Nat) (hj:j < l.length),(j:Int) < s.1→l[j] < v)∧(∀ (j:Nat) (hj:j < l.length),s.2≤(j:Int)→v≤l[j])) (fun s=>(s.2 - s.1).toNat) ⟨by simp,by simp,by simp,fun j hj h=>by simp only at h;omega,fun j hj h=>by simp only at h;omega⟩ ?_
    rintro ⟨lo,hi⟩ ⟨h1,h2,h3,h4,h5⟩
    simp only at h1 h2 h3 h4 h5 ⊢
    refine Ret.ite (fun hb => ?_) (fun hb => ?_)
    · have hlt:=of_decide_eq_true hb
      rw [zjz h1 h2 (by omega)]
      simp only [ZaT]
      have hm1:lo≤(lo+hi) / 2:=by omega
      have hm2:(lo+hi) / 2 < hi:=by omega
      generalize (lo+hi) / 2=m at hm1 hm2 ⊢
      rw [zX (by omega) (by omega)]
      obtain ⟨hi',e⟩:=qm (l:=l) (n:=m) (by omega) (by omega)
      rw [e,zX (by omega) (by omega)]
      simp only [ZaT,zjy]
      refine Ret.ite (fun hb2 => ?_) (fun hb2 => ?_)
      · have hv:=of_decide_eq_true hb2
        refine Ret.some ⟨⟨by show 0≤m+1;omega,by show m+1≤hi;omega,h3,fun j hj hjm => ?_,h5⟩,by show (hi - (m+1)).toNat < (hi - lo).toNat;omega⟩
        have hjm:(j:Int) < m+1:=hjm
        rcases Nat.lt_or_ge j m.toNat with h | h
        · have:=hp j m.toNat hj hi' h;omega
        · obtain rfl:j=m.toNat:=by omega
          exact hv
      · have hv:¬ l[m.toNat] < v:=of_decide_eq_false hb2
        refine Ret.some ⟨⟨h1,by show lo≤m;omega,by show m≤(l.length:Int);omega,h4,fun j hj hjm => ?_⟩,by show (m - lo).toNat < (hi - lo).toNat;omega⟩
        have hjm:m≤(j:Int):=hjm
        rcases Nat.lt_or_ge m.toNat j with h | h
        · have:=hp m.toNat j hi' hj h;omega
        · obtain rfl:j=m.toNat:=by omega
          omega
    · have hlt:¬ lo < hi:=of_decide_eq_false hb
      have:lo=hi:=by omega
      subst this
      exact Ret.some ⟨h1,h3,h4,h5⟩
  obtain ⟨r,hr,hr0,hr1,hr2,hr3⟩:=hit
  rw [hr]
  simp only [ZaT]
  by_cases hlt:r < (l.length:Int)
  · obtain ⟨hi',e⟩:=qm (l:=l) (n:=r) hr0 hlt
    simp only [hlt,decide_true,ZaR,e,ZaT]
    by_cases hv:l[r.toNat]=v
    · have hpos:qw l v=some (r.toNat:Int):=zhW (zea hs) (by rw [List.getElem?_eq_getElem hi',hv])
      refine ⟨r,by simp [hv,hpos],fun p hp => ?_⟩
      rw [hpos] at hp;cases hp;omega
    · have hn:qw l v=none:=by
        unfold qw
        rw [if_neg]
        intro hm
        obtain ⟨j,hj,e2⟩:=List.getElem_of_mem hm
        rcases Nat.lt_trichotomy j r.toNat with h | h | h
        · have:=hr2 j hj (by omega);omega
        · subst h;exact hv e2
        · have h6:=hp r.toNat j hi' hj h
          have h7:=hr3 r.toNat hi' (by omega)
          omega
      refine ⟨r,?_,fun p hp=>by rw [hn] at hp;cases hp⟩
      rw [hn]
      have:(l[r.toNat] == v)=false:=beq_eq_false_iff_ne.2 hv
      simp [this,yN]
  · have hn:qw l v=none:=by
      unfold qw
      rw [if_neg]
      intro hm
      obtain ⟨j,hj,e2⟩:=List.getElem_of_mem hm
      have:=hr2 j hj (by omega);omega
    refine ⟨r,?_,fun p hp=>by rw [hn] at hp;cases hp⟩
    rw [hn]
    simp [hlt]
theorem zhX {Zas:Int} {off:List Int} (hl:off.length < 4611686018427387904) (h:kx Zas off=true):(off.length:Int)≤Zas∨off.length=0:=by
  have e:kx Zas off=xO Zas (-1) off:=by
    unfold kx
    rw [zcK Zas off hl (-1)]
    cases xO Zas (-1) off<;>rfl
  rw [e] at h
  rcases K5 h with h1 | h1<;>omega
structure Small (c:Zaa):Prop where
  Zal:1≤c.Zal∧c.Zal≤12
  Zas:1≤c.Zas∧c.Zas≤2000
  Zad:c.Zad.length≤12
  Zap:c.Zap.length≤20
  Zaj:c.Zaj.length≤60
  Zaf:c.Zaf.length≤400
  off:c.off.length≤2000
  start:∀ k∈c.Zaf,k.start.length≤8
  cond:∀ (i:Nat) (k:Zan),c.Zaf[i]?=some k→∀ s∈k.start,0≤s.clause∧s.clause < c.Zaf.length∧s.clause≠(i:Int)
theorem qx {c:Zaa} (ho:c.off.length < 4611686018427387904) (h:(z7 c).1=0):Small c:=by
  obtain ⟨h1,h2,h3,_⟩:=yu h
  simp only [wS,Bool.or_eq_false_iff,decide_eq_false_iff_not] at h1
  obtain ⟨a1,a2,a3,a4,a5,a6⟩:=h1
  simp only [q6,Bool.and_eq_true,Bool.not_eq_true',decide_eq_false_iff_not] at h2
  obtain ⟨b1,b2,b3,b4,b5,b6,b7⟩:=h2
  have hcl:∀ (i:Nat) (k:Zan),c.Zaf[i]?=some k→xj c.Zad.length c.Zap c.Zaj c.Zaf.length i k=true:=fun i k hk=>by
    have:=h3 i (List.getElem?_eq_some_iff.1 hk).1
    simp only [clB,hk] at this
    exact this
  refine ⟨⟨by omega,by omega⟩,⟨by omega,by omega⟩,by omega,by omega,by omega,by omega,?_,fun k hk => ?_,fun i k hk s hs => ?_⟩
  · rcases zhX ho b7 with h | h<;>omega
  · obtain ⟨i,hi,e⟩:=List.getElem_of_mem hk
    have:=hcl i k (by rw [←e];exact List.getElem?_eq_getElem hi)
    simp only [xj,Bool.and_eq_true,Bool.not_eq_true',decide_eq_false_iff_not] at this
    omega
  · have:=hcl i k hk
    simp only [xj,Bool.and_eq_true] at this
    have:=List.all_eq_true.1 this.2.2.1 s hs
    simp only [yF,Bool.and_eq_true,Bool.not_eq_true',decide_eq_false_iff_not,beq_eq_false_iff_ne] at this
    exact ⟨by omega,by omega,this.2.2.1⟩
theorem Jk {α:Type} {by_:Nat} {l:List α} (h:l.length*by_≤140737488355328):jm by_ l=some l:=by unfold jm;rw [if_pos h]
end Go.Proofs.YtmoedieenlaegaaGreatDoor
