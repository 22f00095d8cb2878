/-
  'WitnessChecks': for every input the call returns true, and each argument reads afterwards as it read before.
  The tables of the library that the rows list: from the row's condition to what the contracts ask; the witness.
  WitnessChecks: the program's checks agree with the reference's.
  'witness.Shield' and 'witness.Doom': what they return; sizes.
  The fixed examples of the laws of layer 22: 'head' returns true. Printed by mkheads.py.
-/
import Derived.Test.YtmoedieenlaegaaGreatDoorWC13
import Derived.Test.YtmoedieenlaegaaGreatDoorRows
import Derived.Test.YtmoedieenlaegaaGreatDoorWC11
import Derived.LaidLaws
import Derived.LaidSub
import Derived.Deep.DeepLaidRun
import Derived.Lib.LaidTab
import Derived.JoinedOf
import Derived.Test.YtmoedieenlaegaaGreatDoorWC06
import Derived.Test.YtmoedieenlaegaaGreatDoorTie
import Derived.Test.YtmoedieenlaegaaGreatDoorCards
import Derived.SevenTiedAt
namespace Go.Proofs.YtmoedieenlaegaaGreatDoor
set_option linter.unusedSimpArgs false
set_option linter.unusedVariables false
set_option maxRecDepth 100000
noncomputable def Zb (c:Zaa) (Zab:Int) (p:Zae):Option (ZaD×Int):=
  (Option.bind (WZ c Zab p) fun r1=>(bif (r1.2 == 0) then (Option.bind (zaF c r1.1) fun r2=>(Option.bind (ze r2 0) fun e1=>(bif e1 then (Option.bind (forR (σ:=(List ZaE)) (ρ:=Unit) (r1.1.Zay.length:Int) (fun i1 s1=>(Option.bind (Option.bind (ze r1.1.Zay (i1:Int)) fun e2=>(Option.bind (ze r2 (i1:Int)) fun e3=>(bif e3 then (Option.bind (Je r1.1 r2 (i1:Int)) fun r3=>(Option.bind (zR (α:=ZaE) 96 s1 [({Zai:=e2,move:=r3}:ZaE)]) fun e4=>some e4)) else some s1))) fun (v1:(List ZaE))=>some (.inl v1))) []) (Sum.elim (fun (s1:(List ZaE))=>some (({Zab:=Zab,rows:=s1}:ZaD),0)) (fun _=>none))) else some (({Zab:=0,rows:=[]}:ZaD),13)))) else some (({Zab:=0,rows:=[]}:ZaD),r1.2)))
theorem zde (c:Zaa) (Zab:Int) (p:Zae):Le (Zb c Zab p) (yq c Zab p):=by
  unfold Zb yq
  repeat' (first | with_reducible exact Le.refl _ | with_reducible exact zbY _ _ _ | with_reducible exact zig _ _ | with_reducible refine Le.bind ?_ (fun _ => ?_) | with_reducible refine Le.cond _ ?_ ?_ | with_reducible refine Le.forR (fun _ _ => ?_) _ _ | with_reducible refine Le.iter (fun _ => ?_) _ _ | with_reducible refine Le.elim (fun _ => ?_) (fun _ => ?_) _)
noncomputable def J4 (c:Zaa) (Zab:Int) (p:Zae):Option (ZaB×Int):=
  (Option.bind (WZ c Zab p) fun r1=>(bif (r1.2 == 0) then (Option.bind (J3 c r1.1) fun r2=>(Option.bind (ze r2 0) fun e1=>(bif decide (e1 < 0) then some (({Zab:=0,rows:=[]}:ZaB),13) else (Option.bind (forR (σ:=(List Zaz)) (ρ:=Unit) (r1.1.Zay.length:Int) (fun i1 s1=>(Option.bind (Option.bind (ze r1.1.Zay (i1:Int)) fun e2=>(Option.bind (ze r2 (i1:Int)) fun e3=>(bif decide (0≤e3) then (Option.bind (ze r2 (i1:Int)) fun e4=>(Option.bind (Jf r1.1 r2 (i1:Int)) fun r3=>(Option.bind (zR (α:=Zaz) 104 s1 [({Zai:=e2,rank:=e4,move:=r3}:Zaz)]) fun e5=>some e5))) else some s1))) fun (v1:(List Zaz))=>some (.inl v1))) []) (Sum.elim (fun (s1:(List Zaz))=>some (({Zab:=Zab,rows:=s1}:ZaB),0)) (fun _=>none)))))) else some (({Zab:=0,rows:=[]}:ZaB),r1.2)))
theorem zgA (c:Zaa) (Zab:Int) (p:Zae):Le (J4 c Zab p) (ZI c Zab p):=by
  unfold J4 ZI
  repeat' (first | with_reducible exact Le.refl _ | with_reducible exact zbY _ _ _ | with_reducible exact zaE _ _ | with_reducible refine Le.bind ?_ (fun _ => ?_) | with_reducible refine Le.cond _ ?_ ?_ | with_reducible refine Le.forR (fun _ _ => ?_) _ _ | with_reducible refine Le.iter (fun _ => ?_) _ _ | with_reducible refine Le.elim (fun _ => ?_) (fun _ => ?_) _)
noncomputable def VE (c:Zaa) (Zab:Int) (p:Zae):Option ((List Int)×Int):=
  (Option.bind (j4 c Zab p) fun r1=>(bif r1 then (Option.bind (Option.bind (Wy c Zab p) fun r2=>(Option.bind (bif p.own then (Option.bind (j5 p.state) fun r3=>(Option.bind (zR (α:=Int) 8 [] [(-2)]) fun e1=>some e1)) else some []) fun (v1:(List Int))=>(bif decide (c.Zas≤p.state.day) then some v1 else (Option.bind (bif p.own then some v1 else (Option.bind (kC c p.state (-1)) fun r4=>(Option.bind (zR (α:=Int) 8 v1 [(-1)]) fun e2=>some e2))) fun (v2:(List Int))=>(Option.bind (forR (σ:=(List Int)) (ρ:=(List Int)) (c.Zaj.length:Int) (fun i1 s1=>(Option.bind (α:=(List Int) ⊕ (List Int)) (Option.bind (ze c.Zaj (i1:Int)) fun e3=>(Option.bind (bif (e3.Zax == (-1)) then some (-1) else (Option.bind (ze p.state.Zad e3.Zax) fun e4=>some e4)) fun (v3:Int)=>(bif ((v3 == Zab) == p.own) then (Option.bind (kC c p.state (i1:Int)) fun r5=>(Option.bind (Option.bind (xL r5.1 p.state) fun r6=>(bif r6 then some (false,s1) else (Option.bind (zR (α:=Int) 8 s1 [(i1:Int)]) fun e5=>some ((!true),e5)))) fun (v4:Bool×(List Int))=>(bif v4.1 then some (.inr v4.2) else some (.inl v4.2)))) else some (.inl s1)))) (Sum.elim (fun (v5:(List Int))=>some (.inl v5)) (fun (y1:(List Int))=>some (.inr y1))))) v2) (Sum.elim (fun (s1:(List Int))=>some s1) (fun (y2:(List Int))=>some y2))))))) fun (v6:(List Int))=>some (v6,0)) else some ([],1)))
theorem zgB (c:Zaa) (Zab:Int) (p:Zae):Le (VE c Zab p) (wv c Zab p):=by
  unfold VE wv
  repeat' (first | with_reducible exact Le.refl _ | with_reducible exact VD _ _ _ | with_reducible refine Le.bind ?_ (fun _ => ?_) | with_reducible refine Le.cond _ ?_ ?_ | with_reducible refine Le.forR (fun _ _ => ?_) _ _ | with_reducible refine Le.iter (fun _ => ?_) _ _ | with_reducible refine Le.elim (fun _ => ?_) (fun _ => ?_) _)
noncomputable def W0 (p1:Zae) (p2:Int) (p3:Zaa) (p4:Int) (p5:List (ByteArray×Int)):Option (Int×Bool):=
  (Option.bind (bif (p2 == (-2)) then some (p1.state.day,p1.state.Zad,p1.state.used,p1.state.Zag) else (Option.bind (kC p3 p1.state p2) fun r1=>some (r1.1.day,r1.1.Zad,r1.1.used,r1.1.Zag))) fun (v1:Int×(List Int)×(List Bool)×(List zw))=>(Option.bind (wU ({state:=({day:=v1.1,Zad:=v1.2.1,used:=v1.2.2.1,Zag:=v1.2.2.2}:Zao),own:=(!(p2 == (-2)))}:Zae)) fun r2=>some (((zr r2 p5).getD 0),(zr r2 p5).isSome)))
theorem zbZ (p1:Zae) (p2:Int) (p3:Zaa) (p4:Int) (p5:List (ByteArray×Int)):Le (W0 p1 p2 p3 p4 p5) (wJ p1 p2 p3 p4 p5):=by
  unfold W0 wJ
  repeat' (first | with_reducible exact Le.refl _ | with_reducible exact VD _ _ _ | with_reducible exact J2 _ | with_reducible refine Le.bind ?_ (fun _ => ?_) | with_reducible refine Le.cond _ ?_ ?_ | with_reducible refine Le.forR (fun _ _ => ?_) _ _ | with_reducible refine Le.iter (fun _ => ?_) _ _ | with_reducible refine Le.elim (fun _ => ?_) (fun _ => ?_) _)
noncomputable def W2 (p1:Zae) (p2:Zaa) (p3:Int) (p4:List (ByteArray×Int)):Option ((List Int)):=
  (Option.bind (VE p2 p3 p1) fun r1=>some r1.1)
theorem zb0 (p1:Zae) (p2:Zaa) (p3:Int) (p4:List (ByteArray×Int)):Le (W2 p1 p2 p3 p4) (wI p1 p2 p3 p4):=by
  unfold W2 wI
  repeat' (first | with_reducible exact Le.refl _ | with_reducible exact zgB _ _ _ | with_reducible refine Le.bind ?_ (fun _ => ?_) | with_reducible refine Le.cond _ ?_ ?_ | with_reducible refine Le.forR (fun _ _ => ?_) _ _ | with_reducible refine Le.iter (fun _ => ?_) _ _ | with_reducible refine Le.elim (fun _ => ?_) (fun _ => ?_) _)
noncomputable def W3 (p1:Int) (p2:Zae) (p3:Zaa) (p4:Int) (p5:List (ByteArray×Int)):Option (Bool):=
  (Option.bind (W0 p2 p1 p3 p4 p5) fun r1=>some (!r1.2))
theorem zb1 (p1:Int) (p2:Zae) (p3:Zaa) (p4:Int) (p5:List (ByteArray×Int)):Le (W3 p1 p2 p3 p4 p5) (wK p1 p2 p3 p4 p5):=by
  unfold W3 wK
  repeat' (first | with_reducible exact Le.refl _ | with_reducible exact zbZ _ _ _ _ _ | with_reducible refine Le.bind ?_ (fun _ => ?_) | with_reducible refine Le.cond _ ?_ ?_ | with_reducible refine Le.forR (fun _ _ => ?_) _ _ | with_reducible refine Le.iter (fun _ => ?_) _ _ | with_reducible refine Le.elim (fun _ => ?_) (fun _ => ?_) _)
noncomputable def zdf (p1:List Int) (p2:Zae) (p3:Zaa) (p4:Int) (p5:List (ByteArray×Int)):Option (Int):=
  (Option.bind (forR (σ:=Unit) (ρ:=Int) (p1.length:Int) (fun i1 s1=>(Option.bind (zl p1.length (i1:Int)) fun k1=>(Option.bind (p1[k1]?) fun e1=>(Option.bind (W3 e1 p2 p3 p4 p5) fun r1=>(bif r1 then some (.inr (i1:Int)) else some (.inl ())))))) ()) (Sum.elim (fun (s1:Unit)=>some (-1)) (fun (y1:Int)=>some y1)))
theorem zjP (p1:List Int) (p2:Zae) (p3:Zaa) (p4:Int) (p5:List (ByteArray×Int)):Le (zdf p1 p2 p3 p4 p5) (JN p1 p2 p3 p4 p5):=by
  unfold zdf JN
  repeat' (first | with_reducible exact Le.refl _ | with_reducible exact zb1 _ _ _ _ _ | with_reducible refine Le.bind ?_ (fun _ => ?_) | with_reducible refine Le.cond _ ?_ ?_ | with_reducible refine Le.forR (fun _ _ => ?_) _ _ | with_reducible refine Le.iter (fun _ => ?_) _ _ | with_reducible refine Le.elim (fun _ => ?_) (fun _ => ?_) _)
noncomputable def zdg (p1:List Int) (p2:Zae) (p3:Zaa) (p4:Int) (p5:List (ByteArray×Int)):Option (Int):=
  (Option.bind (forR (σ:=Unit) (ρ:=Int) (p1.length:Int) (fun i1 s1=>(Option.bind (ze p1 (i1:Int)) fun e1=>(Option.bind (W3 e1 p2 p3 p4 p5) fun r1=>(bif r1 then some (.inr (i1:Int)) else some (.inl ()))))) ()) (Sum.elim (fun (s1:Unit)=>some (-1)) (fun (y1:Int)=>some y1)))
theorem zjQ (p1:List Int) (p2:Zae) (p3:Zaa) (p4:Int) (p5:List (ByteArray×Int)):Le (zdg p1 p2 p3 p4 p5) (JO p1 p2 p3 p4 p5):=by
  unfold zdg JO
  repeat' (first | with_reducible exact Le.refl _ | with_reducible exact zb1 _ _ _ _ _ | with_reducible refine Le.bind ?_ (fun _ => ?_) | with_reducible refine Le.cond _ ?_ ?_ | with_reducible refine Le.forR (fun _ _ => ?_) _ _ | with_reducible refine Le.iter (fun _ => ?_) _ _ | with_reducible refine Le.elim (fun _ => ?_) (fun _ => ?_) _)
noncomputable def zdh (p1:List Int) (p2:Zae) (p3:Zaa) (p4:Int) (p5:List (ByteArray×Int)):Option (Bool):=
  (Option.bind (zdf p1 p2 p3 p4 p5) fun r1=>some (decide (0≤r1)))
theorem zjR (p1:List Int) (p2:Zae) (p3:Zaa) (p4:Int) (p5:List (ByteArray×Int)):Le (zdh p1 p2 p3 p4 p5) (Qn p1 p2 p3 p4 p5):=by
  unfold zdh Qn
  repeat' (first | with_reducible exact Le.refl _ | with_reducible exact zjP _ _ _ _ _ | with_reducible refine Le.bind ?_ (fun _ => ?_) | with_reducible refine Le.cond _ ?_ ?_ | with_reducible refine Le.forR (fun _ _ => ?_) _ _ | with_reducible refine Le.iter (fun _ => ?_) _ _ | with_reducible refine Le.elim (fun _ => ?_) (fun _ => ?_) _)
noncomputable def zdi (p1:List Int) (p2:Zae) (p3:Zaa) (p4:Int) (p5:List (ByteArray×Int)):Option (Bool):=
  (Option.bind (zdg p1 p2 p3 p4 p5) fun r1=>some (decide (0≤r1)))
theorem zjS (p1:List Int) (p2:Zae) (p3:Zaa) (p4:Int) (p5:List (ByteArray×Int)):Le (zdi p1 p2 p3 p4 p5) (Qo p1 p2 p3 p4 p5):=by
  unfold zdi Qo
  repeat' (first | with_reducible exact Le.refl _ | with_reducible exact zjQ _ _ _ _ _ | with_reducible refine Le.bind ?_ (fun _ => ?_) | with_reducible refine Le.cond _ ?_ ?_ | with_reducible refine Le.forR (fun _ _ => ?_) _ _ | with_reducible refine Le.iter (fun _ => ?_) _ _ | with_reducible refine Le.elim (fun _ => ?_) (fun _ => ?_) _)
noncomputable def zaG (p1:ZaH) (p2:Int) (p3:Zaa) (p4:Int) (p5:List (ByteArray×Int)):Option (Bool):=
  (Option.bind (ze p1.s.rows p2) fun e1=>(Option.bind (wc p3 e1.Zai.state p4) fun r1=>(bif r1 then some false else (Option.bind (W2 e1.Zai p3 p4 p5) fun r2=>(bif e1.Zai.own then (Option.bind (j7 r2 e1.move) fun r3=>(bif r3 then (Option.bind (zdh [e1.move] e1.Zai p3 p4 p5) fun r4=>some (!r4)) else some false)) else (Option.bind (zdi r2 e1.Zai p3 p4 p5) fun r5=>some (!r5)))))))
theorem zih (p1:ZaH) (p2:Int) (p3:Zaa) (p4:Int) (p5:List (ByteArray×Int)):Le (zaG p1 p2 p3 p4 p5) (ki p1 p2 p3 p4 p5):=by
  unfold zaG ki
  repeat' (first | with_reducible exact Le.refl _ | with_reducible exact zb0 _ _ _ _ | with_reducible exact zjR _ _ _ _ _ | with_reducible exact zjS _ _ _ _ _ | with_reducible refine Le.bind ?_ (fun _ => ?_) | with_reducible refine Le.cond _ ?_ ?_ | with_reducible refine Le.forR (fun _ _ => ?_) _ _ | with_reducible refine Le.iter (fun _ => ?_) _ _ | with_reducible refine Le.elim (fun _ => ?_) (fun _ => ?_) _)
noncomputable def zaH (p1:Zaa) (p2:ZaH):Option (Bool):=
  (Option.bind (Jg p2) fun r1=>(Option.bind (bif decide (r1 < 0) then some true else (bif decide (p1.Zal≤r1) then some true else (Option.bind (jJ p2) fun r2=>(bif decide (r2 < 1) then some true else (Option.bind (jJ p2) fun r3=>some (decide (1500 < r3))))))) fun v1=>(bif v1 then some false else (Option.bind (jJ p2) fun r4=>(Option.bind (forR (σ:=(List (ByteArray×Int))) (ρ:=Unit) r4 (fun i1 s1=>(Option.bind (α:=(List (ByteArray×Int)) ⊕ Unit) (Option.bind (ZJ p2 (i1:Int)) fun r5=>(Option.bind (q5 p1 r5.1.state) fun r6=>(bif r6 then (Option.bind (wU r5.1) fun r7=>(Option.bind (bif ((zr r7 s1).isSome) then some (decide (r5.2 < ((zr r7 s1).getD 0))) else some true) fun v2=>(bif v2 then some (.inl (qc r7 r5.2 s1)) else some (.inl s1)))) else some (.inr ())))) (Sum.elim (fun (v3:(List (ByteArray×Int)))=>some (.inl v3)) (fun (y1:Unit)=>some (.inr ()))))) []) (Sum.elim (fun (s1:(List (ByteArray×Int)))=>(Option.bind (jJ p2) fun r8=>(Option.bind (forR (σ:=Unit) (ρ:=Unit) r8 (fun i2 s2=>(Option.bind (zaG p2 (i2:Int) p1 r1 s1) fun r9=>(bif r9 then some (.inl ()) else some (.inr ())))) ()) (Sum.elim (fun (s2:Unit)=>some true) (fun (y3:Unit)=>some false))))) (fun (y2:Unit)=>some false)))))))
theorem zii (p1:Zaa) (p2:ZaH):Le (zaH p1 p2) (ZK p1 p2):=by
  unfold zaH ZK
  repeat' (first | with_reducible exact Le.refl _ | with_reducible exact J2 _ | with_reducible exact zih _ _ _ _ _ | with_reducible refine Le.bind ?_ (fun _ => ?_) | with_reducible refine Le.cond _ ?_ ?_ | with_reducible refine Le.forR (fun _ _ => ?_) _ _ | with_reducible refine Le.iter (fun _ => ?_) _ _ | with_reducible refine Le.elim (fun _ => ?_) (fun _ => ?_) _)
noncomputable def xe (c:Zaa) (s:ZaD):Option (Bool):=
  (Option.bind (zaH c ({s:=s}:ZaH)) fun r1=>some r1)
theorem VF (c:Zaa) (s:ZaD):Le (xe c s) (qC c s):=by
  unfold xe qC
  repeat' (first | with_reducible exact Le.refl _ | with_reducible exact zii _ _ | with_reducible refine Le.bind ?_ (fun _ => ?_) | with_reducible refine Le.cond _ ?_ ?_ | with_reducible refine Le.forR (fun _ _ => ?_) _ _ | with_reducible refine Le.iter (fun _ => ?_) _ _ | with_reducible refine Le.elim (fun _ => ?_) (fun _ => ?_) _)
noncomputable def W4 (p1:Zae) (p2:Int) (p3:Int) (p4:Zaa) (p5:Int) (p6:List (ByteArray×Int)):Option (Bool):=
  (Option.bind (W0 p1 p2 p4 p5 p6) fun r1=>(Option.bind (bif r1.2 then some (decide (r1.1 < p3)) else some false) fun v1=>some v1))
theorem zb2 (p1:Zae) (p2:Int) (p3:Int) (p4:Zaa) (p5:Int) (p6:List (ByteArray×Int)):Le (W4 p1 p2 p3 p4 p5 p6) (wL p1 p2 p3 p4 p5 p6):=by
  unfold W4 wL
  repeat' (first | with_reducible exact Le.refl _ | with_reducible exact zbZ _ _ _ _ _ | with_reducible refine Le.bind ?_ (fun _ => ?_) | with_reducible refine Le.cond _ ?_ ?_ | with_reducible refine Le.forR (fun _ _ => ?_) _ _ | with_reducible refine Le.iter (fun _ => ?_) _ _ | with_reducible refine Le.elim (fun _ => ?_) (fun _ => ?_) _)
noncomputable def zaI (p1:Int) (p2:Zae) (p3:Int) (p4:Zaa) (p5:Int) (p6:List (ByteArray×Int)):Option (Bool):=
  (Option.bind (W4 p2 p1 p3 p4 p5 p6) fun r1=>some (!r1))
theorem zij (p1:Int) (p2:Zae) (p3:Int) (p4:Zaa) (p5:Int) (p6:List (ByteArray×Int)):Le (zaI p1 p2 p3 p4 p5 p6) (ZM p1 p2 p3 p4 p5 p6):=by
  unfold zaI ZM
  repeat' (first | with_reducible exact Le.refl _ | with_reducible exact zb2 _ _ _ _ _ _ | with_reducible refine Le.bind ?_ (fun _ => ?_) | with_reducible refine Le.cond _ ?_ ?_ | with_reducible refine Le.forR (fun _ _ => ?_) _ _ | with_reducible refine Le.iter (fun _ => ?_) _ _ | with_reducible refine Le.elim (fun _ => ?_) (fun _ => ?_) _)
noncomputable def zdj (p1:List Int) (p2:Zae) (p3:Int) (p4:Zaa) (p5:Int) (p6:List (ByteArray×Int)):Option (Int):=
  (Option.bind (forR (σ:=Unit) (ρ:=Int) (p1.length:Int) (fun i1 s1=>(Option.bind (ze p1 (i1:Int)) fun e1=>(Option.bind (zaI e1 p2 p3 p4 p5 p6) fun r1=>(bif r1 then some (.inr (i1:Int)) else some (.inl ()))))) ()) (Sum.elim (fun (s1:Unit)=>some (-1)) (fun (y1:Int)=>some y1)))
theorem zjT (p1:List Int) (p2:Zae) (p3:Int) (p4:Zaa) (p5:Int) (p6:List (ByteArray×Int)):Le (zdj p1 p2 p3 p4 p5 p6) (JP p1 p2 p3 p4 p5 p6):=by
  unfold zdj JP
  repeat' (first | with_reducible exact Le.refl _ | with_reducible exact zij _ _ _ _ _ _ | with_reducible refine Le.bind ?_ (fun _ => ?_) | with_reducible refine Le.cond _ ?_ ?_ | with_reducible refine Le.forR (fun _ _ => ?_) _ _ | with_reducible refine Le.iter (fun _ => ?_) _ _ | with_reducible refine Le.elim (fun _ => ?_) (fun _ => ?_) _)
noncomputable def zdk (p1:List Int) (p2:Zae) (p3:Int) (p4:Zaa) (p5:Int) (p6:List (ByteArray×Int)):Option (Bool):=
  (Option.bind (zdj p1 p2 p3 p4 p5 p6) fun r1=>some (decide (0≤r1)))
theorem zjU (p1:List Int) (p2:Zae) (p3:Int) (p4:Zaa) (p5:Int) (p6:List (ByteArray×Int)):Le (zdk p1 p2 p3 p4 p5 p6) (Qq p1 p2 p3 p4 p5 p6):=by
  unfold zdk Qq
  repeat' (first | with_reducible exact Le.refl _ | with_reducible exact zjT _ _ _ _ _ _ | with_reducible refine Le.bind ?_ (fun _ => ?_) | with_reducible refine Le.cond _ ?_ ?_ | with_reducible refine Le.forR (fun _ _ => ?_) _ _ | with_reducible refine Le.iter (fun _ => ?_) _ _ | with_reducible refine Le.elim (fun _ => ?_) (fun _ => ?_) _)
noncomputable def zaJ (p1:DoomW) (p2:Int) (p3:Zaa) (p4:Int) (p5:List (ByteArray×Int)):Option (Bool):=
  (Option.bind (ze p1.d.rows p2) fun e1=>(bif decide (e1.rank≤0) then (Option.bind (bif (e1.rank == 0) then (Option.bind (wc p3 e1.Zai.state p4) fun r1=>some r1) else some false) fun v1=>some v1) else (Option.bind (W2 e1.Zai p3 p4 p5) fun r2=>(bif e1.Zai.own then (Option.bind (zdk r2 e1.Zai e1.rank p3 p4 p5) fun r5=>some (!r5)) else (Option.bind (Option.bind (j7 r2 e1.move) fun r3=>(bif r3 then (Option.bind (W4 e1.Zai e1.move e1.rank p3 p4 p5) fun r4=>some r4) else some false)) fun v2=>some v2)))))
theorem zik (p1:DoomW) (p2:Int) (p3:Zaa) (p4:Int) (p5:List (ByteArray×Int)):Le (zaJ p1 p2 p3 p4 p5) (kj p1 p2 p3 p4 p5):=by
  unfold zaJ kj
  repeat' (first | with_reducible exact Le.refl _ | with_reducible exact zb0 _ _ _ _ | with_reducible exact zjU _ _ _ _ _ _ | with_reducible exact zb2 _ _ _ _ _ _ | with_reducible refine Le.bind ?_ (fun _ => ?_) | with_reducible refine Le.cond _ ?_ ?_ | with_reducible refine Le.forR (fun _ _ => ?_) _ _ | with_reducible refine Le.iter (fun _ => ?_) _ _ | with_reducible refine Le.elim (fun _ => ?_) (fun _ => ?_) _)
noncomputable def zaK (p1:Zaa) (p2:DoomW):Option (Bool):=
  (Option.bind (Jh p2) fun r1=>(Option.bind (bif decide (r1 < 0) then some true else (bif decide (p1.Zal≤r1) then some true else (Option.bind (jK p2) fun r2=>(bif decide (r2 < 1) then some true else (Option.bind (jK p2) fun r3=>some (decide (1500 < r3))))))) fun v1=>(bif v1 then some false else (Option.bind (jK p2) fun r4=>(Option.bind (forR (σ:=(List (ByteArray×Int))) (ρ:=Unit) r4 (fun i1 s1=>(Option.bind (α:=(List (ByteArray×Int)) ⊕ Unit) (Option.bind (ZL p2 (i1:Int)) fun r5=>(Option.bind (q5 p1 r5.1.state) fun r6=>(bif r6 then (Option.bind (wU r5.1) fun r7=>(Option.bind (bif ((zr r7 s1).isSome) then some (decide (r5.2 < ((zr r7 s1).getD 0))) else some true) fun v2=>(bif v2 then some (.inl (qc r7 r5.2 s1)) else some (.inl s1)))) else some (.inr ())))) (Sum.elim (fun (v3:(List (ByteArray×Int)))=>some (.inl v3)) (fun (y1:Unit)=>some (.inr ()))))) []) (Sum.elim (fun (s1:(List (ByteArray×Int)))=>(Option.bind (jK p2) fun r8=>(Option.bind (forR (σ:=Unit) (ρ:=Unit) r8 (fun i2 s2=>(Option.bind (zaJ p2 (i2:Int) p1 r1 s1) fun r9=>(bif r9 then some (.inl ()) else some (.inr ())))) ()) (Sum.elim (fun (s2:Unit)=>some true) (fun (y3:Unit)=>some false))))) (fun (y2:Unit)=>some false)))))))
theorem zil (p1:Zaa) (p2:DoomW):Le (zaK p1 p2) (ZN p1 p2):=by
  unfold zaK ZN
  repeat' (first | with_reducible exact Le.refl _ | with_reducible exact J2 _ | with_reducible exact zik _ _ _ _ _ | with_reducible refine Le.bind ?_ (fun _ => ?_) | with_reducible refine Le.cond _ ?_ ?_ | with_reducible refine Le.forR (fun _ _ => ?_) _ _ | with_reducible refine Le.iter (fun _ => ?_) _ _ | with_reducible refine Le.elim (fun _ => ?_) (fun _ => ?_) _)
noncomputable def yc (c:Zaa) (d:ZaB):Option (Bool):=
  (Option.bind (zaK c ({d:=d}:DoomW)) fun r1=>some r1)
theorem zaL (c:Zaa) (d:ZaB):Le (yc c d) (jb c d):=by
  unfold yc jb
  repeat' (first | with_reducible exact Le.refl _ | with_reducible exact zil _ _ | with_reducible refine Le.bind ?_ (fun _ => ?_) | with_reducible refine Le.cond _ ?_ ?_ | with_reducible refine Le.forR (fun _ _ => ?_) _ _ | with_reducible refine Le.iter (fun _ => ?_) _ _ | with_reducible refine Le.elim (fun _ => ?_) (fun _ => ?_) _)
noncomputable def zaM:Option (Bool):=
  (Option.bind (Zk) fun r1=>(Option.bind (VC r1) fun r2=>(Option.bind (Zb r1 0 ({state:=r2.1,own:=true}:Zae)) fun r3=>(Option.bind (J4 r1 0 ({state:=r2.1,own:=true}:Zae)) fun r4=>(Option.bind (J4 r1 0 ({state:=r2.1,own:=false}:Zae)) fun r5=>(Option.bind (Zb r1 0 ({state:=r2.1,own:=false}:Zae)) fun r6=>(Option.bind (bif (r2.2 == 0) then (bif (r3.2 == 0) then (bif (r4.2 == 13) then (bif (r5.2 == 0) then (bif (r6.2 == 13) then (bif ((r3.1.rows.length:Int) == 5) then some (!((r5.1.rows.length:Int) == 3)) else some true) else some true) else some true) else some true) else some true) else some true) fun v1=>(bif v1 then some false else (Option.bind (Option.bind (ze r3.1.rows 0) fun e1=>(bif (e1.move == 0) then (Option.bind (ze r3.1.rows 1) fun e2=>(bif (e2.move == (-2)) then (Option.bind (ze r5.1.rows 0) fun e3=>(bif (e3.rank == 1) then (bif (e3.move == (-1)) then (Option.bind (ze r5.1.rows 1) fun e4=>some (e4.rank == 0)) else some false) else some false)) else some false)) else some false)) fun v2=>(Option.bind (Option.bind (xe r1 r3.1) fun r7=>(bif r7 then (Option.bind (yc r1 r5.1) fun r8=>some r8) else some false)) fun v3=>(Option.bind (yx r3.1.rows 0 4) fun e5=>(Option.bind (xz (α:=Zaz) 104 [] r5.1.rows) fun e6=>(Option.bind (zl e6.length 0) fun k1=>(Option.bind (e6[k1]?) fun e7=>(Option.bind (bif v2 then (bif v3 then (Option.bind (xe r1 ({Zab:=0,rows:=e5}:ZaD)) fun r9=>(bif r9 then some false else (Option.bind (yc r1 ({Zab:=0,rows:=(e6.set k1 ({e7 with move:=0}:Zaz))}:ZaB)) fun r10=>(bif r10 then some false else (Option.bind (xe r1 ({Zab:=0,rows:=[]}:ZaD)) fun r11=>some (!r11)))))) else some false) else some false) fun v4=>some v4)))))))))))))))
theorem ze6:Le zaM kl:=by
  unfold zaM kl
  repeat' (first | with_reducible exact Le.refl _ | with_reducible exact zgz _ | with_reducible exact zde _ _ _ | with_reducible exact zgA _ _ _ | with_reducible exact VF _ _ | with_reducible exact zaL _ _ | with_reducible refine Le.bind ?_ (fun _ => ?_) | with_reducible refine Le.cond _ ?_ ?_ | with_reducible refine Le.elim (fun _ => ?_) (fun _ => ?_) _)
theorem zgC:kl=some true:=ze6 true (by kernel_rfl)
end Go.Proofs.YtmoedieenlaegaaGreatDoor
namespace Go.Proofs.YtmoedieenlaegaaGreatDoor
open Go.RowKit
set_option linter.unusedSimpArgs false
set_option linter.unusedVariables false
set_option maxRecDepth 100000
section
theorem zaN {b:Bool}:yy (fun _:Unit=>True) (fun _:Unit=>True) (bif b then (.inr ():Unit ⊕ Unit) else .inl ()):=by cases b<;>trivial
theorem zim {c:Zaa} (hc:c.Ok) (s:ZaD) (d:ZaB):Ret (JQ c s d) (fun b=>b=true→s.rows.length≤300∧d.rows.length≤300):=by
  unfold JQ
  refine Ret.bindE (v := !(Y2 c&&(decide (s.rows.length≤300)&&decide (d.rows.length≤300)))) ?_ ?_
  · rw [zjF hc]
    simp only [ZaT]
    cases Y2 c with
    | false=>rfl
    | true=>
      by_cases h1:(300:Int) < (s.rows.length:Int)
      · rw [decide_eq_true h1,decide_eq_false (show ¬ s.rows.length≤300 by omega)];rfl
      · rw [decide_eq_false h1,decide_eq_true (show s.rows.length≤300 by omega)]
        by_cases h2:(300:Int) < (d.rows.length:Int)
        · rw [decide_eq_true h2,decide_eq_false (show ¬ d.rows.length≤300 by omega)];rfl
        · rw [decide_eq_false h2,decide_eq_true (show d.rows.length≤300 by omega)];rfl
  refine Ret.ite (fun _=>Ret.some fun h=>by cases h) (fun hb => ?_)
  simp only [Bool.not_eq_false',Bool.and_eq_true,decide_eq_true_eq] at hb
  obtain ⟨_,h1,h2⟩:=hb
  refine Ret.bind (P:=fun _=>True) (Ret.forL (fun _ _=>True) (by omega) trivial (fun i _ hi _ => ?_) (fun _ _=>trivial)) ?_
  · refine Ret.bindE (zD (List.getElem?_eq_getElem hi)) ?_
    simp only [zh,ZaT]
    exact Ret.some zaN
  · rintro (_ | _) _
    · simp only [ZaU]
      refine Ret.bind (P:=fun _=>True) (Ret.forL (fun _ _=>True) (by omega) trivial (fun i _ hi _ => ?_) (fun _ _=>trivial)) ?_
      · refine Ret.bindE (zD (List.getElem?_eq_getElem hi)) ?_
        simp only [zh,ZaT]
        exact Ret.some zaN
      · rintro (_ | _) _
        · exact Ret.some fun _=>⟨h1,h2⟩
        · exact Ret.some fun h=>by cases h
    · exact Ret.some fun h=>by cases h
section
variable {c:Zaa} {Zab:Int} {p:Zae} {a:ZaF}
structure DRow (c:Zaa) (Zab:Int) (r:Zaz):Prop where
  rk:r.rank=rkP c Zab r.Zai
  lo:0≤r.rank
  mv:0 < r.rank→r.Zai.own=false→r.move∈zi c Zab r.Zai∧0≤rkP c Zab (target c r.Zai r.move)∧rkP c Zab (target c r.Zai r.move) < r.rank
end
end
section
open Classical in
noncomputable def Zc (p:Prop):Bool:=decide p
theorem Zd {p:Prop}:Zc p=true↔p:=by unfold Zc;simp
theorem XK {p:Prop} (h:p):Zc p=true:=Zd.2 h
theorem Ys {p:Prop} (h:¬ p):Zc p=false:=by
  cases e:Zc p with
  | false=>rfl
  | true=>exact absurd (Zd.1 e) h
theorem zb3 {p:Prop} (h:Zc p=false):¬ p:=fun hp=>by rw [XK hp] at h;cases h
theorem zgD {c:Zaa} (hc:c.Ok) (Zab:Int) (p:Zae):Qu c Zab p=some (xt c Zab p.state):=by
  unfold Qu xt
  rw [Za hc]
  simp only [ZaT]
  cases vsB c p.state<;>cases decide (0≤Zab)<;>cases decide (Zab < c.Zal)<;>rfl
theorem XL {c:Zaa} (hc:c.Ok) (Zab:Int) (p:Zae):vD c Zab p=some (bif xt c Zab p.state then (zi c Zab p,0) else ([],1)):=by
  refine Ret.eq ?_
  unfold vD
  refine Ret.bindE (zgD hc Zab p) ?_
  refine Ret.ite (fun hpl => ?_) (fun h=>Ret.some (by rw [h];rfl))
  rw [hpl,ZaR]
  obtain ⟨p0,p1,hv⟩:=qH.1 hpl
  have sm:=qx (hc.off.lt (by omega)) hv.cv
  have sa:=sm.Zaj
  have hday:=hv.day
  refine Ret.bindE (v:=bif p.own then [-2] else []) ?_ ?_
  · rw [yM (by simp)]
    cases p.own<;>rfl
  refine Ret.ite (fun hd=>Ret.some ?_) (fun hd => ?_)
  · have hd:=beq_iff_eq.1 hd
    unfold zi
    rw [decide_eq_true (show c.Zas≤p.state.day by omega),ZaR,List.append_nil]
  · have hd:=beq_eq_false_iff_ne.1 hd
    have hlt:p.state.day < c.Zas:=by omega
    have em:zi c Zab p=(bif p.own then [-2] else [-1])++j9 c Zab p c.Zaj.length:=by
      unfold zi
      rw [decide_eq_false (show ¬ c.Zas≤p.state.day by omega)]
      cases p.own<;>rfl
    refine Ret.bindE (v:=bif p.own then [-2] else [-1]) ?_ ?_
    · cases p.own with
      | true=>rfl
      | false=>
        simp only [ZaS]
        rw [yM (by simp)];rfl
    refine Ret.bind (P:=fun o:List Int ⊕ Unit=>o=.inl (zi c Zab p)) (Ret.forL (fun i s=>s=(bif p.own then [-2] else [-1])++j9 c Zab p i) (by omega) (by simp [j9]) (fun i s hi hs => ?_) (fun s h=>by rw [h,em])) ?_
    · have hx:=List.getElem?_eq_getElem hi
      have hmv:mvB c Zab p i=(((qU p.state.Zad c.Zaj[i] == Zab) == p.own) && !xN (jz c p.state i) p.state):=by simp only [mvB,hx]
      have hl:=Jo c Zab p i
      have hls:s.length≤1+i:=by rw [hs];cases p.own<;>simp<;>omega
      refine Ret.bind (P:=fun v:List Int=>v=(bif p.own then [-2] else [-1])++j9 c Zab p (i+1)) ?_ (fun v h=>Ret.some h)
      refine Ret.bindE (zib hc hv hx) ?_
      rw [yH,hmv]
      refine Ret.ite (fun hq => ?_) (fun hq=>Ret.some (by rw [hq,hs];simp))
      obtain ⟨est,hvs,_⟩:=vH (a:=(i:Int)) hc hv (by omega) (by omega) (by omega)
      have hfew:=hvs.few hc
      refine Ret.bindE (zbT hc hv (a:=(i:Int)) (by omega) (by omega) hlt) ?_
      refine Ret.bindE (zax (jz c p.state i) p.state (by omega) (by omega) (by omega)) ?_
      refine Ret.ite (fun hsm=>Ret.some (by rw [hq,hsm,hs];simp)) (fun hsm => ?_)
      refine Ret.bindE (yM (by simp;omega)) ?_
      exact Ret.some (by rw [hq,hsm,hs];simp)
    · rintro _ rfl
      exact Ret.some rfl
theorem zgE {c:Zaa} (hc:c.Ok) {Zab:Int} {p:Zae} (hv:VS c p.state) {m:Int} (hm:m∈zi c Zab p):Qw c p m=some (target c p m):=by
  unfold Qw
  rcases WS hm with ⟨rfl,_⟩ | ⟨h1,h2,h3⟩
  · rw [Xi];rfl
  · rw [beq_eq_false_iff_ne.2 (show m ≠ -2 by omega),ZaS,zbT hc hv h1 h2 h3,Xj c p h1];rfl
theorem zaO {c:Zaa} (hc:c.Ok) {Zab:Int} {p:Zae} (hpl:xt c Zab p.state=true) {m:Int} (hm:m∈zi c Zab p):kw c Zab p m=some (target c p m,0):=by
  refine Ret.eq ?_
  obtain ⟨p0,p1,hv⟩:=qH.1 hpl
  have hl:=jX hc (Zab:=Zab) hv
  unfold kw
  refine Ret.bindE (v:=(zi c Zab p,0)) (by rw [XL hc,hpl];rfl) ?_
  refine Ret.ite (fun _ => ?_) (fun h=>by cases h)
  dsimp only
  refine Ret.bind (P:=fun o:Unit ⊕ (Int×(List Int)×(List Bool)×(List zw)×Bool)=>o=.inr ((target c p m).state.day,(target c p m).state.Zad,(target c p m).state.used,(target c p m).state.Zag,(target c p m).own)) (Ret.forL (fun k _=>∀ (j:Nat) (hj:j < (zi c Zab p).length),j < k→(zi c Zab p)[j]≠m) (by omega) (fun j _ hj=>by omega) (fun k _ hk hI => ?_) (fun _ h => ?_)) ?_
  · refine Ret.bindE (zD (List.getElem?_eq_getElem hk)) ?_
    refine Ret.ite (fun he => ?_) (fun he=>Ret.some fun j hj hjk => ?_)
    · refine Ret.bindE (zgE hc hv hm) ?_
      exact Ret.some rfl
    · by_cases e:j=k
      · subst e;exact beq_eq_false_iff_ne.1 he
      · exact hI j hj (by omega)
  · exfalso
    obtain ⟨j,hj,e⟩:=List.getElem_of_mem hm
    exact h j hj hj e
  · rintro _ rfl
    exact Ret.some rfl
theorem Yu {c:Zaa} (hc:c.Ok) {s:Zao} (hv:VS c s) {Zab:Int} (h0:0≤Zab):yt c s Zab=some (qD c s Zab):=by
  have hf:=(hv.few hc).2.2
  have hl:=hv.lm
  unfold yt
  rw [Za hc,ky hv,decide_eq_false (show ¬ Zab < 0 by omega)]
  simp only [ZaT,ZaR,ZaS]
  rw [jh (fun i=>!XI c Zab s.Zag i) (by omega) (fun j hj=>by
    have hk:j < c.Zaf.length:=by omega
    simp only [zz,List.getElem?_eq_getElem hj,List.getElem?_eq_getElem hk,ZaT,XI]
    cases (c.Zaf[j].final)<;>cases (s.Zag[j].Zak == 4)<;>cases (s.Zag[j].Zaq == Zab)<;>rfl)]
  unfold qD
  cases ((List.range s.Zag.length).all fun i=>!XI c Zab s.Zag i)<;>rfl
theorem zdl (s:ZaD) (hs:ZaD.Ok s) (p:Zae):yE s p=some (Zc (∃ r∈s.rows,r.Zai=p)):=by
  have hl:s.rows.length < 4611686018427387904:=hs.rows.lt (by omega)
  unfold yE
  rw [qR (l:=s.rows) (fun r=>!(r.Zai == p)) hl (fun i hi=>by
    have o:=(hs.rows.2 _ (List.getElem_mem hi)).Zai.state
    simp only [zz,List.getElem?_eq_getElem hi,ZaT]
    rw [Yr _ _ (o.Zad.lt (by omega)) (o.used.lt (by omega)) (o.Zag.lt (by omega))]
    simp only [ZaT]
    cases (s.rows[i].Zai == p)<;>rfl)]
  by_cases h:∃ r∈s.rows,r.Zai=p
  · rw [XK h]
    obtain ⟨r,hr,e⟩:=h
    have:s.rows.all (fun r=>!(r.Zai == p))=false:=by
      rw [List.all_eq_false]
      exact ⟨r,hr,by simp [e]⟩
    rw [this];rfl
  · rw [Ys h]
    have:s.rows.all (fun r=>!(r.Zai == p))=true:=by
      rw [List.all_eq_true]
      intro r hr
      have:r.Zai≠p:=fun e=>h ⟨r,hr,e⟩
      simp [this]
    rw [this];rfl
theorem ze7 (d:ZaB) (hd:ZaB.Ok d) (p:Zae) (n:Int):kW d p n=some (Zc (∃ r∈d.rows,r.Zai=p∧r.rank < n)):=by
  have hl:d.rows.length < 4611686018427387904:=hd.rows.lt (by omega)
  unfold kW
  rw [qR (l:=d.rows) (fun r=>!(decide (r.rank < n)&&(r.Zai == p))) hl (fun i hi=>by
    have o:=(hd.rows.2 _ (List.getElem_mem hi)).Zai.state
    simp only [zz,List.getElem?_eq_getElem hi,ZaT]
    rw [Yr _ _ (o.Zad.lt (by omega)) (o.used.lt (by omega)) (o.Zag.lt (by omega))]
    simp only [ZaT]
    cases decide (d.rows[i].rank < n)<;>cases (d.rows[i].Zai == p)<;>rfl)]
  by_cases h:∃ r∈d.rows,r.Zai=p∧r.rank < n
  · rw [XK h]
    obtain ⟨r,hr,e,e2⟩:=h
    have:d.rows.all (fun r=>!(decide (r.rank < n)&&(r.Zai == p)))=false:=by
      rw [List.all_eq_false]
      exact ⟨r,hr,by simp [e,e2]⟩
    rw [this];rfl
  · rw [Ys h]
    have:d.rows.all (fun r=>!(decide (r.rank < n)&&(r.Zai == p)))=true:=by
      rw [List.all_eq_true]
      intro r hr
      by_cases e2:r.rank < n
      · have:r.Zai≠p:=fun e=>h ⟨r,hr,e,e2⟩
        simp [this]
      · simp [e2]
    rw [this];rfl
def ShR (c:Zaa) (s:ZaD) (r:ZaE):Prop:=
  xt c s.Zab r.Zai.state=true∧qD c r.Zai.state s.Zab=false∧(r.Zai.own=true→r.move∈zi c s.Zab r.Zai∧∃ r'∈s.rows,r'.Zai=target c r.Zai r.move)∧(r.Zai.own=false→∀ m∈zi c s.Zab r.Zai,∃ r'∈s.rows,r'.Zai=target c r.Zai m)
theorem VG {c:Zaa} (hc:c.Ok) (s:ZaD) (hs:ZaD.Ok s):xM c s=some (ZV c s):=by
  refine Ret.eq (Ret.mono (P:=fun b=>b=true↔ShieldP c s) ?_ fun b h=>WV h)
  have hl:s.rows.length < 4611686018427387904:=hs.rows.lt (by omega)
  unfold xM
  refine Ret.bindE (v := !(decide (1≤s.rows.length)&&decide (s.rows.length≤1500))) ?_ ?_
  · by_cases h3:(s.rows.length:Int) < 1
    · rw [decide_eq_true h3,decide_eq_false (show ¬ 1≤s.rows.length by omega)];rfl
    · rw [decide_eq_false h3,decide_eq_true (show 1≤s.rows.length by omega)]
      by_cases h4:(1500:Int) < (s.rows.length:Int)
      · rw [decide_eq_true h4,decide_eq_false (show ¬ s.rows.length≤1500 by omega)];rfl
      · rw [decide_eq_false h4,decide_eq_true (show s.rows.length≤1500 by omega)];rfl
  refine Ret.ite (fun hb=>Ret.some ⟨fun h=>by (cases h),fun h => ?_⟩) (fun hb => ?_)
  · rw [decide_eq_true h.n1,decide_eq_true h.n2] at hb;cases hb
  simp only [Bool.not_eq_false',Bool.and_eq_true,decide_eq_true_eq] at hb
  obtain ⟨n1,n2⟩:=hb
  have key:(∀ r∈s.rows,ShR c s r)↔ShieldP c s:=by
    constructor
    · intro h
      obtain ⟨r0,hr0⟩:=List.exists_mem_of_length_pos (show 0 < s.rows.length by omega)
      obtain ⟨p0,p1,_⟩:=qH.1 (h r0 hr0).1
      exact ⟨p0,p1,n1,n2,fun r hr=>(qH.1 (h r hr).1).2.2,fun r hr=>(h r hr).2.1,fun r hr=>(h r hr).2.2.1,fun r hr=>(h r hr).2.2.2⟩
    · intro h r hr
      exact ⟨qH.2 ⟨h.p0,h.p1,h.vs r hr⟩,h.lost r hr,h.own r hr,h.oth r hr⟩
  refine Ret.bind (P:=fun o:Unit ⊕ Unit=>(o=.inl ()∧∀ r∈s.rows,ShR c s r)∨(o=.inr ()∧∃ r∈s.rows,¬ ShR c s r)) (Ret.forL (fun n _=>∀ (j:Nat) (hj:j < s.rows.length),j < n→ShR c s s.rows[j]) hl (fun j _ hj=>by omega) (fun i _ hi hI => ?_) (fun _ h=>.inl ⟨rfl,fun r hr=>by obtain ⟨j,hj,rfl⟩:=List.getElem_of_mem hr;exact h j hj hj⟩)) ?_
  · have hri:ze s.rows (i:Int)=some s.rows[i]:=zD (List.getElem?_eq_getElem hi)
    have hmem:=List.getElem_mem hi
    have next:ShR c s s.rows[i]→∀ (j:Nat) (hj:j < s.rows.length),j < i+1→ShR c s s.rows[j]:=fun h j hj hji=>by
      by_cases e:j=i
      · subst e;exact h
      · exact hI j hj (by omega)
    have stop:¬ ShR c s s.rows[i]→((Sum.inr ():Unit ⊕ Unit)=.inl ()∧∀ r∈s.rows,ShR c s r)∨((Sum.inr ():Unit ⊕ Unit)=.inr ()∧∃ r∈s.rows,¬ ShR c s r):=fun h=>.inr ⟨rfl,_,hmem,h⟩
    generalize s.rows[i]=r at hri hmem next stop
    refine Ret.bindE hri ?_
    refine Ret.bindE (XL hc s.Zab r.Zai) ?_
    cases hpl:xt c s.Zab r.Zai.state with
    | false=>
      rw [ZaS]
      dsimp only
      exact Ret.some (stop fun h=>by have g:=h.1;rw [hpl] at g;cases g)
    | true=>
      obtain ⟨p0,p1,hv⟩:=qH.1 hpl
      have hml:=jX hc (Zab:=s.Zab) hv
      rw [ZaR]
      dsimp only
      refine Ret.bindE (v:=qD c r.Zai.state s.Zab) ?_ ?_
      · rw [Yu hc hv p0];rfl
      refine Ret.ite (fun hlost=>Ret.some (stop fun h=>by have g:=h.2.1;rw [hlost] at g;cases g)) (fun hlost => ?_)
      refine Ret.bind (P:=fun o:Bool ⊕ Unit=>(o=.inr ()∧¬ ShR c s r)∨(o=.inl false∧¬ ShR c s r)∨(o=.inl true∧ShR c s r)) (Ret.forL (fun n b=>(r.Zai.own=false→b=true∧∀ (j:Nat) (hj:j < (zi c s.Zab r.Zai).length),j < n→∃ r'∈s.rows,r'.Zai=target c r.Zai (zi c s.Zab r.Zai)[j])∧(r.Zai.own=true→(b=true→r.move∈zi c s.Zab r.Zai∧∃ r'∈s.rows,r'.Zai=target c r.Zai r.move)∧(b=false→∀ (j:Nat) (hj:j < (zi c s.Zab r.Zai).length),j < n→(zi c s.Zab r.Zai)[j]≠r.move))) (by omega) ⟨fun h=>⟨by rw [h];rfl,fun j _ hj=>by omega⟩,fun h=>⟨fun h2=>(by rw [h] at h2;cases h2),fun _ j _ hj=>by omega⟩⟩ (fun n b hn hB => ?_) (fun b hB => ?_)) ?_
      · have hmi:ze (zi c s.Zab r.Zai) (n:Int)=some (zi c s.Zab r.Zai)[n]:=zD (List.getElem?_eq_getElem hn)
        have hmm:=List.getElem_mem hn
        refine Ret.bind (P:=fun o:Bool ⊕ Unit=>yy (fun b=>(r.Zai.own=false→b=true∧∀ (j:Nat) (hj:j < (zi c s.Zab r.Zai).length),j < n+1→∃ r'∈s.rows,r'.Zai=target c r.Zai (zi c s.Zab r.Zai)[j])∧(r.Zai.own=true→(b=true→r.move∈zi c s.Zab r.Zai∧∃ r'∈s.rows,r'.Zai=target c r.Zai r.move)∧(b=false→∀ (j:Nat) (hj:j < (zi c s.Zab r.Zai).length),j < n+1→(zi c s.Zab r.Zai)[j]≠r.move))) (fun _=>¬ ShR c s r) o) ?_ (fun o ho=>by
          cases o with
          | inl b=>exact Ret.some ho
          | inr u=>exact Ret.some (.inl ⟨rfl,ho⟩))
        refine Ret.bindE (v:=r.Zai.own && !((zi c s.Zab r.Zai)[n] == r.move)) ?_ ?_
        · rw [hmi]
          simp only [ZaT]
          rw [hri]
          cases r.Zai.own<;>rfl
        refine Ret.ite (fun hskip=>Ret.some ?_) (fun hskip => ?_)
        · simp only [Bool.and_eq_true,Bool.not_eq_true',beq_eq_false_iff_ne] at hskip
          obtain ⟨ho,hne⟩:=hskip
          refine ⟨fun h=>(by rw [ho] at h;cases h),fun h=>⟨(hB.2 h).1,fun hb j hj hjn => ?_⟩⟩
          by_cases e:j=n
          · subst e;exact hne
          · exact (hB.2 h).2 hb j hj (by omega)
        · refine Ret.bindE hmi ?_
          refine Ret.bindE (zaO hc hpl hmm) ?_
          refine Ret.bindE (zdl s hs _) ?_
          have heq:r.Zai.own=true→(zi c s.Zab r.Zai)[n]=r.move:=fun ho=>by
            rw [ho,ZaK,Bool.not_eq_false',beq_iff_eq] at hskip
            exact hskip
          refine Ret.ite (fun hg=>Ret.some ?_) (fun hg=>Ret.some ?_)
          · have hg:=Zd.1 hg
            dsimp only at hg
            refine ⟨fun ho=>⟨rfl,fun j hj hjn => ?_⟩,fun ho=>⟨fun _ => ?_,fun hb=>by cases hb⟩⟩
            · by_cases e:j=n
              · subst e;exact hg
              · exact (hB.1 ho).2 j hj (by omega)
            · have:=heq ho
              rw [this] at hg hmm
              exact ⟨hmm,hg⟩
          · have hg:=zb3 hg
            dsimp only at hg
            show ¬ ShR c s r
            intro h
            cases ho:r.Zai.own with
            | true=>
              have:=(h.2.2.1 ho).2
              rw [←heq ho] at this
              exact hg this
            | false=>exact hg (h.2.2.2 ho _ hmm)
      · cases b with
        | true=>
          refine .inr (.inr ⟨rfl,hpl,hlost,fun ho=>(hB.2 ho).1 rfl,fun ho m hm => ?_⟩)
          obtain ⟨j,hj,rfl⟩:=List.getElem_of_mem hm
          exact (hB.1 ho).2 j hj hj
        | false=>
          refine .inr (.inl ⟨rfl,fun h => ?_⟩)
          cases ho:r.Zai.own with
          | false=>cases (hB.1 ho).1
          | true=>
            obtain ⟨j,hj,e⟩:=List.getElem_of_mem (h.2.2.1 ho).1
            exact (hB.2 ho).2 rfl j hj hj e
      · rintro _ (⟨rfl,h⟩ | ⟨rfl,h⟩ | ⟨rfl,h⟩)
        · exact Ret.some (stop h)
        · exact Ret.some (stop h)
        · exact Ret.some (next h)
  · rintro _ (⟨rfl,h⟩ | ⟨rfl,r,hr,h⟩)
    · exact Ret.some ⟨fun _=>key.1 h,fun _=>rfl⟩
    · exact Ret.some ⟨fun h2=>by (cases h2),fun h2=>absurd (key.2 h2 r hr) h⟩
def DoR (c:Zaa) (d:ZaB) (r:Zaz):Prop:=
  xt c d.Zab r.Zai.state=true∧0≤r.rank∧(r.rank=0→qD c r.Zai.state d.Zab=true)∧(0 < r.rank→r.Zai.own=true→∀ m∈zi c d.Zab r.Zai,∃ r'∈d.rows,r'.Zai=target c r.Zai m∧r'.rank < r.rank)∧(0 < r.rank→r.Zai.own=false→r.move∈zi c d.Zab r.Zai∧∃ r'∈d.rows,r'.Zai=target c r.Zai r.move∧r'.rank < r.rank)
theorem zaP {c:Zaa} (hc:c.Ok) (d:ZaB) (hd:ZaB.Ok d):wO c d=some (WU c d):=by
  refine Ret.eq (Ret.mono (P:=fun b=>b=true↔DoomP c d) ?_ fun b h=>zaB h)
  have hl:d.rows.length < 4611686018427387904:=hd.rows.lt (by omega)
  unfold wO
  refine Ret.bindE (v := !(decide (1≤d.rows.length)&&decide (d.rows.length≤1500))) ?_ ?_
  · by_cases h3:(d.rows.length:Int) < 1
    · rw [decide_eq_true h3,decide_eq_false (show ¬ 1≤d.rows.length by omega)];rfl
    · rw [decide_eq_false h3,decide_eq_true (show 1≤d.rows.length by omega)]
      by_cases h4:(1500:Int) < (d.rows.length:Int)
      · rw [decide_eq_true h4,decide_eq_false (show ¬ d.rows.length≤1500 by omega)];rfl
      · rw [decide_eq_false h4,decide_eq_true (show d.rows.length≤1500 by omega)];rfl
  refine Ret.ite (fun hb=>Ret.some ⟨fun h=>by (cases h),fun h => ?_⟩) (fun hb => ?_)
  · rw [decide_eq_true h.n1,decide_eq_true h.n2] at hb;cases hb
  simp only [Bool.not_eq_false',Bool.and_eq_true,decide_eq_true_eq] at hb
  obtain ⟨n1,n2⟩:=hb
  have key:(∀ r∈d.rows,DoR c d r)↔DoomP c d:=by
    constructor
    · intro h
      obtain ⟨r0,hr0⟩:=List.exists_mem_of_length_pos (show 0 < d.rows.length by omega)
      obtain ⟨p0,p1,_⟩:=qH.1 (h r0 hr0).1
      exact ⟨p0,p1,n1,n2,fun r hr=>(qH.1 (h r hr).1).2.2,fun r hr=>(h r hr).2.1,fun r hr=>(h r hr).2.2.1,fun r hr=>(h r hr).2.2.2.1,fun r hr=>(h r hr).2.2.2.2⟩
    · intro h r hr
      exact ⟨qH.2 ⟨h.p0,h.p1,h.vs r hr⟩,h.rk r hr,h.zero r hr,h.own r hr,h.oth r hr⟩
  refine Ret.bind (P:=fun o:Unit ⊕ Unit=>(o=.inl ()∧∀ r∈d.rows,DoR c d r)∨(o=.inr ()∧∃ r∈d.rows,¬ DoR c d r)) (Ret.forL (fun n _=>∀ (j:Nat) (hj:j < d.rows.length),j < n→DoR c d d.rows[j]) hl (fun j _ hj=>by omega) (fun i _ hi hI => ?_) (fun _ h=>.inl ⟨rfl,fun r hr=>by obtain ⟨j,hj,rfl⟩:=List.getElem_of_mem hr;exact h j hj hj⟩)) ?_
  · have hri:ze d.rows (i:Int)=some d.rows[i]:=zD (List.getElem?_eq_getElem hi)
    have hmem:=List.getElem_mem hi
    have next:DoR c d d.rows[i]→∀ (j:Nat) (hj:j < d.rows.length),j < i+1→DoR c d d.rows[j]:=fun h j hj hji=>by
      by_cases e:j=i
      · subst e;exact h
      · exact hI j hj (by omega)
    have stop:¬ DoR c d d.rows[i]→((Sum.inr ():Unit ⊕ Unit)=.inl ()∧∀ r∈d.rows,DoR c d r)∨((Sum.inr ():Unit ⊕ Unit)=.inr ()∧∃ r∈d.rows,¬ DoR c d r):=fun h=>.inr ⟨rfl,_,hmem,h⟩
    generalize d.rows[i]=r at hri hmem next stop
    refine Ret.bindE hri ?_
    refine Ret.bindE (XL hc d.Zab r.Zai) ?_
    cases hpl:xt c d.Zab r.Zai.state with
    | false=>
      rw [ZaS]
      dsimp only
      exact Ret.some (stop fun h=>by have g:=h.1;rw [hpl] at g;cases g)
    | true=>
      obtain ⟨p0,p1,hv⟩:=qH.1 hpl
      have hml:=jX hc (Zab:=d.Zab) hv
      rw [ZaR]
      dsimp only
      refine Ret.bindE (v:=decide (r.rank < 0)||(r.rank == 0 && !qD c r.Zai.state d.Zab)) ?_ ?_
      · rw [Yu hc hv p0]
        cases decide (r.rank < 0)<;>cases (r.rank == 0)<;>rfl
      refine Ret.ite (fun hbad=>Ret.some (stop fun h => ?_)) (fun hok => ?_)
      · simp only [Bool.or_eq_true,decide_eq_true_eq,Bool.and_eq_true,beq_iff_eq,Bool.not_eq_true'] at hbad
        rcases hbad with g | ⟨g1,g2⟩
        · have:=h.2.1;omega
        · rw [h.2.2.1 g1] at g2;cases g2
      simp only [Bool.or_eq_false_iff,decide_eq_false_iff_not] at hok
      obtain ⟨hr0,hz⟩:=hok
      have hr0:0≤r.rank:=by omega
      have hz:r.rank=0→qD c r.Zai.state d.Zab=true:=fun e=>by
        rw [beq_iff_eq.2 e,ZaK,Bool.not_eq_false'] at hz
        exact hz
      refine Ret.bindE (v:=r.Zai.own||(r.rank == 0)) (by cases r.Zai.own<;>rfl) ?_
      refine Ret.bind (P:=fun o:Bool ⊕ Unit=>(o=.inr ()∧¬ DoR c d r)∨(o=.inl false∧¬ DoR c d r)∨(o=.inl true∧DoR c d r)) (Ret.bind (P:=fun o:Bool ⊕ Unit=>(o=.inr ()∧¬ DoR c d r)∨(o=.inl false∧¬ DoR c d r)∨(o=.inl true∧DoR c d r)) (Ret.iter (fun b=>0≤b.2∧b.2≤((zi c d.Zab r.Zai).length:Int)∧(r.rank=0→b.1=true)∧(0 < r.rank→r.Zai.own=true→b.1=true∧∀ (j:Nat) (hj:j < (zi c d.Zab r.Zai).length),(j:Int) < b.2→∃ r'∈d.rows,r'.Zai=target c r.Zai (zi c d.Zab r.Zai)[j]∧r'.rank < r.rank)∧(0 < r.rank→r.Zai.own=false→(b.1=true→r.move∈zi c d.Zab r.Zai∧∃ r'∈d.rows,r'.Zai=target c r.Zai r.move∧r'.rank < r.rank)∧(b.1=false→∀ (j:Nat) (hj:j < (zi c d.Zab r.Zai).length),(j:Int) < b.2→(zi c d.Zab r.Zai)[j]≠r.move))) (fun b=>(((zi c d.Zab r.Zai).length:Int) - b.2).toNat) ⟨by simp,by simp,fun e=>by rw [beq_iff_eq.2 e,Bool.or_true],fun _ h=>⟨by rw [h];rfl,fun j _ hj=>by simp only at hj;omega⟩,fun h0 h=>⟨fun h2 => ?_,fun _ j _ hj=>by simp only at hj;omega⟩⟩ ?_) ?_) ?_
      · simp only [h,ZaP,beq_iff_eq] at h2
        omega
      · rintro ⟨b,n0⟩ ⟨b0,b1,bz,bo,bt⟩
        simp only at b0 b1 bz bo bt
        refine Ret.bindE (v:=decide (n0 < ((zi c d.Zab r.Zai).length:Int))&&decide (0 < r.rank)) ?_ ?_
        · cases decide (n0 < ((zi c d.Zab r.Zai).length:Int))<;>rfl
        refine Ret.ite (fun hgo => ?_) (fun hend=>Ret.some ?_)
        · simp only [Bool.and_eq_true,decide_eq_true_eq] at hgo
          obtain ⟨hlt,hpos⟩:=hgo
          obtain ⟨n,rfl⟩:∃ n:Nat,n0=(n:Int):=⟨n0.toNat,by omega⟩
          have hn:n < (zi c d.Zab r.Zai).length:=by omega
          have ew:IntKind.i64.wrap ((n:Int)+1)=(n:Int)+1:=zX (by omega) (by omega)
          have hmi:ze (zi c d.Zab r.Zai) (n:Int)=some (zi c d.Zab r.Zai)[n]:=zD (List.getElem?_eq_getElem hn)
          have hmm:=List.getElem_mem hn
          refine Ret.bind (P:=fun o:Bool ⊕ Unit=>yy (fun b=>(r.Zai.own=true→b=true∧∀ (j:Nat) (hj:j < (zi c d.Zab r.Zai).length),j < n+1→∃ r'∈d.rows,r'.Zai=target c r.Zai (zi c d.Zab r.Zai)[j]∧r'.rank < r.rank)∧(r.Zai.own=false→(b=true→r.move∈zi c d.Zab r.Zai∧∃ r'∈d.rows,r'.Zai=target c r.Zai r.move∧r'.rank < r.rank)∧(b=false→∀ (j:Nat) (hj:j < (zi c d.Zab r.Zai).length),j < n+1→(zi c d.Zab r.Zai)[j]≠r.move))) (fun _=>¬ DoR c d r) o) ?_ (fun o ho=>by
            cases o with
            | inl b'=>
              refine Ret.some ?_
              show _∧_
              rw [ew]
              refine ⟨⟨by simp only;omega,by simp only;omega,fun e=>by omega,fun _ h=>⟨(ho.1 h).1,fun j hj hjn=>(ho.1 h).2 j hj (by simp only at hjn;omega)⟩,fun _ h=>⟨(ho.2 h).1,fun hb j hj hjn=>(ho.2 h).2 hb j hj (by simp only at hjn;omega)⟩⟩,by simp only;omega⟩
            | inr u=>exact Ret.some (.inl ⟨rfl,ho⟩))
          refine Ret.bindE (v := !r.Zai.own && !((zi c d.Zab r.Zai)[n] == r.move)) ?_ ?_
          · rw [hmi]
            cases r.Zai.own<;>rfl
          refine Ret.ite (fun hskip=>Ret.some ?_) (fun hskip => ?_)
          · simp only [Bool.and_eq_true,Bool.not_eq_true',beq_eq_false_iff_ne] at hskip
            obtain ⟨ho,hne⟩:=hskip
            refine ⟨fun h=>(by rw [ho] at h;cases h),fun h=>⟨(bt hpos h).1,fun hb j hj hjn => ?_⟩⟩
            by_cases e:j=n
            · subst e;exact hne
            · exact (bt hpos h).2 hb j hj (by omega)
          · refine Ret.bindE hmi ?_
            refine Ret.bindE (zaO hc hpl hmm) ?_
            refine Ret.bindE (ze7 d hd _ _) ?_
            have heq:r.Zai.own=false→(zi c d.Zab r.Zai)[n]=r.move:=fun ho=>by
              rw [ho,ZaJ,ZaK,Bool.not_eq_false',beq_iff_eq] at hskip
              exact hskip
            refine Ret.ite (fun hg=>Ret.some ?_) (fun hg=>Ret.some ?_)
            · have hg:=Zd.1 hg
              dsimp only at hg
              refine ⟨fun ho=>⟨rfl,fun j hj hjn => ?_⟩,fun ho=>⟨fun _ => ?_,fun hb=>by cases hb⟩⟩
              · by_cases e:j=n
                · subst e;exact hg
                · exact (bo hpos ho).2 j hj (by omega)
              · have:=heq ho
                rw [this] at hg hmm
                exact ⟨hmm,hg⟩
            · have hg:=zb3 hg
              dsimp only at hg
              show ¬ DoR c d r
              intro h
              cases ho:r.Zai.own with
              | false=>
                have:=(h.2.2.2.2 hpos ho).2
                rw [←heq ho] at this
                exact hg this
              | true=>exact hg (h.2.2.2.1 hpos ho _ hmm)
        · have hdone:0 < r.rank→n0=((zi c d.Zab r.Zai).length:Int):=fun hpos=>by
            rw [decide_eq_true hpos,ZaM] at hend
            have:=of_decide_eq_false hend
            omega
          cases b with
          | true=>
            refine .inr (.inr ⟨rfl,hpl,hr0,hz,fun hpos ho m hm => ?_,fun hpos ho=>(bt hpos ho).1 rfl⟩)
            obtain ⟨j,hj,rfl⟩:=List.getElem_of_mem hm
            exact (bo hpos ho).2 j hj (by have:=hdone hpos;omega)
          | false=>
            refine .inr (.inl ⟨rfl,fun h => ?_⟩)
            by_cases hpos:0 < r.rank
            · cases ho:r.Zai.own with
              | true=>cases (bo hpos ho).1
              | false=>
                obtain ⟨j,hj,e⟩:=List.getElem_of_mem (h.2.2.2.2 hpos ho).1
                exact (bt hpos ho).2 rfl j hj (by have:=hdone hpos;omega) e
            · cases bz (by omega)
      · rintro _ (⟨rfl,h⟩ | ⟨rfl,h⟩ | ⟨rfl,h⟩)
        · exact Ret.some (.inl ⟨rfl,h⟩)
        · exact Ret.some (.inr (.inl ⟨rfl,h⟩))
        · exact Ret.some (.inr (.inr ⟨rfl,h⟩))
      · rintro _ (⟨rfl,h⟩ | ⟨rfl,h⟩ | ⟨rfl,h⟩)
        · exact Ret.some (stop h)
        · exact Ret.some (stop h)
        · exact Ret.some (next h)
  · rintro _ (⟨rfl,h⟩ | ⟨rfl,r,hr,h⟩)
    · exact Ret.some ⟨fun _=>key.1 h,fun _=>rfl⟩
    · exact Ret.some ⟨fun h2=>by (cases h2),fun h2=>absurd (key.2 h2 r hr) h⟩
theorem W5 (c:Zaa) (s:ZaD) (d:ZaB) (hc:Zaa.Ok c) (hs:ZaD.Ok s) (hd:ZaB.Ok d):wP c s d=some true:=by
  refine Ret.eq ?_
  have l1:s.rows.length < 4611686018427387904:=hs.rows.lt (by omega)
  have l2:d.rows.length < 4611686018427387904:=hd.rows.lt (by omega)
  unfold wP
  refine Ret.bindE zgC ?_
  refine Ret.bind (zim hc s d) fun b hb => ?_
  refine Ret.ite (fun _ => ?_) (fun _=>Ret.some rfl)
  rw [YG hc s l1,VG hc s hs,zbf hc d l2,zaP hc d hd]
  simp only [ZaT,beq_self_eq_true,ZaR]
  exact Ret.some rfl
end
end Go.Proofs.YtmoedieenlaegaaGreatDoor
namespace Go.Proofs.YtmoedieenlaegaaGreatDoor
open Go.ChangeShapes Go.WideShapes Go.RowKit
set_option maxRecDepth 100000
abbrev J5 : List (String × DataW Unit) := [("math/bits.deBruijn32tab", Rows.laid_math_bits_deBruijn32tab), ("math/bits.deBruijn64tab", Rows.laid_math_bits_deBruijn64tab), ("internal/strconv.uint64pow10", Rows.laid_internal_strconv_uint64pow10)]
theorem zgF:(J5.filter fun x=>x.1 == xI)=[(xI,Lib.tabData .u64 Lib.pow10Tab)]:=by kernel_rfl
theorem zaQ {W:World} (h:laidMet Tryz.prog J5 W):C0.tabs.p W∧C0.tabs.n≤W.heap.size:=by
  have h1:=h.filter (fun x=>x.1 == xI)
  rw [zgF] at h1
  have h2:C0.tabs.p W:=Lib.tabIs_of_head (g:=0) (t:=((Tryz.prog.globals[0]?).map (·.type)).getD 0) (e:=181) (n:=20)
    (by kernel_rfl) (by kernel_rfl) (by kernel_rfl) (by kernel_rfl) (by kernel_rfl) (by kernel_rfl) h1
  exact ⟨h2,zcH h2⟩
def zjV:DataW Unit→Array Value
  | .agg ds=>(ds.map fun d=>match d with | .lit (.int k n)=>Value.int k n | _=>Value.bool false).toArray
  | _ => #[]
def zaR (w:World) (g:Nat) (d:DataW Unit):World:={w with heap:=w.heap.modify g fun | .cells _ t f=>.cells (zjV d) t f | o=>o}
noncomputable def Yv (os:Os):World:=
  zaR (zaR (zaR (World.holding Tryz.prog os ⟨#[],#[],[]⟩) 1 Rows.laid_math_bits_deBruijn32tab) 2 Rows.laid_math_bits_deBruijn64tab) 0 Rows.laid_internal_strconv_uint64pow10
theorem YH (os:Os) (args:Array Value):laidMet Tryz.prog J5 ((Yv os).forCall (fun _ _=>0) ⟨#[],args,[]⟩).memory:=
  laidMet_of_run3 8 (by kernel_rfl) (by kernel_rfl) (by kernel_rfl)
end Go.Proofs.YtmoedieenlaegaaGreatDoor
namespace Go.Proofs.YtmoedieenlaegaaGreatDoor.LWitnessChecks
open Go.ChangeShapes Go.WideShapes Go.ChangeAt Go.RowKit
set_option linter.unusedVariables false
set_option maxRecDepth 100000
theorem all (ivs:List IV) (h:JK [(true,Zaa.tys),(true,ZaD.tys),(true,ZaB.tys)] ivs):APure C0 235 ivs (.bool true):=by
  match ivs,h with
  | [x0,x1,x2],⟨a0,a1,a2,_⟩=>
    obtain ⟨row0,rfl,r0⟩:=a0
    obtain ⟨c,rfl,ok_c⟩:=Zaa.opn r0
    obtain ⟨row1,rfl,r1⟩:=a1
    obtain ⟨s,rfl,ok_s⟩:=ZaD.opn r1
    obtain ⟨row2,rfl,r2⟩:=a2
    obtain ⟨d,rfl,ok_d⟩:=ZaB.opn r2
    exact WK c s d true (W5 c s d ok_c ok_s ok_d)
theorem own:ownKnob Tryz.prog.godebug=none:=by kernel_rfl
theorem laid:laidOutB Tryz.prog=true:=by kernel_rfl
theorem args:mapO (K3 Tryz.prog) Tryz.f4.params.toList=some [(true,Zaa.tys),(true,ZaD.tys),(true,ZaB.tys)]:=by kernel_rfl
theorem zjW (os:Os) (started:os.Started) (H:Type) (enc:TypeId×Value→H) :
    ReturnsInHanded {} Tryz.checked os 4 .any (fun w args=>(Rows.witnessChecksSpec.pre enc Tryz.prog Tryz.f4 [] false w args∧laidMet Tryz.prog J5 w)∧sizedMet enc Tryz.prog Tryz.f4 (OpenSpec.ofChange Rows.witnessChecksSpec) false w args) (Rows.witnessChecksSpec.post enc Tryz.prog Tryz.f4 false true false false):=by
  refine returnsInHanded_of_change_and (C:=Tryz.checked) (X:=fun w _=>laidMet Tryz.prog J5 w) (fun _ _ _ hh h=>h.of_heap hh) own started (by kernel_rfl) Tryz.func4
    (ChangeSpec.witness_at (enc:=enc) (C:=Tryz.checked) (os:=os) (X:=fun w _=>laidMet Tryz.prog J5 w) false (Yv os) #[.agg #[.int .i64 0,.slice none 0 0,.slice none 0 0,.slice none 0 0,.slice none 0 0,.int .i64 0,.slice none 0 0],.agg #[.int .i64 0,.slice none 0 0],.agg #[.int .i64 0,.slice none 0 0]] 8 rfl (by kernel_rfl) (by kernel_rfl) (by kernel_rfl) (by kernel_rfl) (by kernel_rfl) (YH os _)) ?_
  intro W base args ds gs before hval hW _ hwt hL _
  exact K4 (Cx:=C0) (tb:=4) 235 rfl LWitnessChecks.args rfl (by kernel_rfl) rfl
    (fun ds h=>by match ds,h with | [_,_,_],_=>rfl) LWitnessChecks.laid (by kernel_rfl) LWitnessChecks.all W (zaQ hL) base args ds gs before hval hW hwt
theorem zmG:Rows.WitnessChecksSaid:=
  OpenClaim.holds_of_wide 4 Tryz.f4 rfl rfl rfl rfl rfl rfl rfl ⟨rfl,rfl,rfl,rfl,rfl⟩ rfl rfl rfl rfl rfl (by kernel_rfl) Tryz.func4 (by kernel_rfl)
    (of_decide_eq_true (by kernel_rfl)) (by unfold Func.isWrapper;first | (rw [if_pos (by decide +kernel)];kernel_rfl) | (rw [if_neg (by decide +kernel)];exact ⟨rfl,rfl⟩))
    (fun os started H enc _=>zjW os started H enc)
theorem holds:Rows.WitnessChecksCardSaid:=
  Claim7.holds_tied_plain_at .later [] [.data, .data, .data] true (true, "b058ca6a5d8bd6675ccef3ced02f7ff2ab9252a87f4ffe3492fe47a417083e47") false
    zmG (fun _ h=>by cases h) (by kernel_rfl) (fun _ h=>by cases h) witnessChecks_row_tie rfl ⟨rfl,rfl⟩ (by kernel_rfl) rfl
    (fun f fn hf hfn=>by
      obtain rfl : f = 4 := Option.some.inj ((show Tryz.prog.funcNamed "estoppel/estoppellaw22.WitnessChecks" = some 4 by kernel_rfl).symm.trans hf) |>.symm
      obtain rfl:fn=Tryz.f4:=(Option.some.inj (Tryz.func4.symm.trans hfn)).symm
      refine ⟨by kernel_rfl,fun j t ht => ?_⟩
      have hall:(Tryz.f4.params.toList.all fun t=>!(Tryz.prog.wantsStandIn t))=true:=by kernel_rfl
      have:=List.all_eq_true.1 hall t (by rw [Array.mem_toList_iff];exact Array.mem_of_getElem? ht)
      have h2:Tryz.prog.wantsStandIn t=false:=by simpa using this
      exact h2)
    (by kernel_rfl)
end Go.Proofs.YtmoedieenlaegaaGreatDoor.LWitnessChecks
namespace Go.Proofs.YtmoedieenlaegaaGreatDoor
theorem witnessChecks_holds:Rows.WitnessChecksCardSaid:=LWitnessChecks.holds
end Go.Proofs.YtmoedieenlaegaaGreatDoor
