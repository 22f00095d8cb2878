/-
  'WitnessForces': for every input the call returns true, and each argument reads afterwards as it read before.
  The tables of the library that the rows list: from the row's condition to what the contracts ask; the witness.
  The others that take the moves of a doom put the party into breach.
  'witness.Shield' and 'witness.Doom': what they return; sizes.
  The fixed examples of the laws of layer 22: 'head' returns true. Printed by mkheads.py.
-/
import Derived.Test.YtmoedieenlaegaaGreatDoorWF11
import Derived.Test.YtmoedieenlaegaaGreatDoorRows
import Derived.Test.YtmoedieenlaegaaGreatDoorWF10
import Derived.LaidLaws
import Derived.LaidSub
import Derived.Deep.DeepLaidRun
import Derived.Lib.LaidTab
import Derived.JoinedOf
import Derived.Test.YtmoedieenlaegaaGreatDoorWF06
import Derived.Test.YtmoedieenlaegaaGreatDoorTie
import Derived.Test.YtmoedieenlaegaaGreatDoorCards
import Derived.SevenTiedAt
namespace Go.Proofs.YtmoedieenlaegaaGreatDoor
set_option linter.unusedSimpArgs false
set_option linter.unusedVariables false
set_option maxRecDepth 100000
noncomputable def yV (c:ContractT) (party:Int) (p:PosT):Option (ShieldT×Int):=
  (Option.bind (Xv c party p) fun r1=>(bif (r1.2 == 0) then (Option.bind (YB c r1.1) fun r2=>(Option.bind (ze r2 0) fun e1=>(bif e1 then (Option.bind (forR (σ:=(List ShieldRowT)) (ρ:=Unit) (r1.1.positions.length:Int) (fun i1 s1=>(Option.bind (Option.bind (ze r1.1.positions (i1:Int)) fun e2=>(Option.bind (ze r2 (i1:Int)) fun e3=>(bif e3 then (Option.bind (Z6 r1.1 r2 (i1:Int)) fun r3=>(Option.bind (zS (α:=ShieldRowT) 96 s1 [({position:=e2,move:=r3}:ShieldRowT)]) fun e4=>some e4)) else some s1))) fun (v1:(List ShieldRowT))=>some (.inl v1))) []) (Sum.elim (fun (s1:(List ShieldRowT))=>some (({party:=party,rows:=s1}:ShieldT),0)) (fun _=>none))) else some (({party:=0,rows:=[]}:ShieldT),13)))) else some (({party:=0,rows:=[]}:ShieldT),r1.2)))
theorem zaU (c:ContractT) (party:Int) (p:PosT):Le (yV c party p) (vv c party p):=by
  unfold yV vv
  repeat' (first | with_reducible exact Le.refl _ | with_reducible exact KG _ _ _ | with_reducible exact zeZ _ _ | with_reducible refine Le.bind ?_ (fun _ => ?_) | with_reducible refine Le.cond _ ?_ ?_ | with_reducible refine Le.forR (fun _ _ => ?_) _ _ | with_reducible refine Le.iter (fun _ => ?_) _ _ | with_reducible refine Le.elim (fun _ => ?_) (fun _ => ?_) _)
noncomputable def QO (c:ContractT) (party:Int) (p:PosT):Option (DoomT×Int):=
  (Option.bind (Xv c party p) fun r1=>(bif (r1.2 == 0) then (Option.bind (QN c r1.1) fun r2=>(Option.bind (ze r2 0) fun e1=>(bif decide (e1 < 0) then some (({party:=0,rows:=[]}:DoomT),13) else (Option.bind (forR (σ:=(List DoomRowT)) (ρ:=Unit) (r1.1.positions.length:Int) (fun i1 s1=>(Option.bind (Option.bind (ze r1.1.positions (i1:Int)) fun e2=>(Option.bind (ze r2 (i1:Int)) fun e3=>(bif decide (0≤e3) then (Option.bind (ze r2 (i1:Int)) fun e4=>(Option.bind (Z7 r1.1 r2 (i1:Int)) fun r3=>(Option.bind (zS (α:=DoomRowT) 104 s1 [({position:=e2,rank:=e4,move:=r3}:DoomRowT)]) fun e5=>some e5))) else some s1))) fun (v1:(List DoomRowT))=>some (.inl v1))) []) (Sum.elim (fun (s1:(List DoomRowT))=>some (({party:=party,rows:=s1}:DoomT),0)) (fun _=>none)))))) else some (({party:=0,rows:=[]}:DoomT),r1.2)))
theorem zdF (c:ContractT) (party:Int) (p:PosT):Le (QO c party p) (kF c party p):=by
  unfold QO kF
  repeat' (first | with_reducible exact Le.refl _ | with_reducible exact KG _ _ _ | with_reducible exact YA _ _ | with_reducible refine Le.bind ?_ (fun _ => ?_) | with_reducible refine Le.cond _ ?_ ?_ | with_reducible refine Le.forR (fun _ _ => ?_) _ _ | with_reducible refine Le.iter (fun _ => ?_) _ _ | with_reducible refine Le.elim (fun _ => ?_) (fun _ => ?_) _)
noncomputable def X8 (c:ContractT) (party:Int) (p:PosT):Option ((List Int)×Int):=
  (Option.bind (jp c party p) fun r1=>(bif r1 then (Option.bind (Option.bind (yJ c party p) fun r2=>(Option.bind (bif p.own then (Option.bind (ju p.state) fun r3=>(Option.bind (zS (α:=Int) 8 [] [(-2)]) fun e1=>some e1)) else some []) fun (v1:(List Int))=>(bif decide (c.days≤p.state.day) then some v1 else (Option.bind (bif p.own then some v1 else (Option.bind (yw c p.state (-1)) fun r4=>(Option.bind (zS (α:=Int) 8 v1 [(-1)]) fun e2=>some e2))) fun (v2:(List Int))=>(Option.bind (forR (σ:=(List Int)) (ρ:=(List Int)) (c.acts.length:Int) (fun i1 s1=>(Option.bind (α:=(List Int) ⊕ (List Int)) (Option.bind (ze c.acts (i1:Int)) fun e3=>(Option.bind (bif (e3.role == (-1)) then some (-1) else (Option.bind (ze p.state.holders e3.role) fun e4=>some e4)) fun (v3:Int)=>(bif ((v3 == party) == p.own) then (Option.bind (yw c p.state (i1:Int)) fun r5=>(Option.bind (Option.bind (jD r5.1 p.state) fun r6=>(bif r6 then some (false,s1) else (Option.bind (zS (α:=Int) 8 s1 [(i1:Int)]) fun e5=>some ((!true),e5)))) fun (v4:Bool×(List Int))=>(bif v4.1 then some (.inr v4.2) else some (.inl v4.2)))) else some (.inl s1)))) (Sum.elim (fun (v5:(List Int))=>some (.inl v5)) (fun (y1:(List Int))=>some (.inr y1))))) v2) (Sum.elim (fun (s1:(List Int))=>some s1) (fun (y2:(List Int))=>some y2))))))) fun (v6:(List Int))=>some (v6,0)) else some ([],1)))
theorem zdG (c:ContractT) (party:Int) (p:PosT):Le (X8 c party p) (xp c party p):=by
  unfold X8 xp
  repeat' (first | with_reducible exact Le.refl _ | with_reducible exact X7 _ _ _ | with_reducible refine Le.bind ?_ (fun _ => ?_) | with_reducible refine Le.cond _ ?_ ?_ | with_reducible refine Le.forR (fun _ _ => ?_) _ _ | with_reducible refine Le.iter (fun _ => ?_) _ _ | with_reducible refine Le.elim (fun _ => ?_) (fun _ => ?_) _)
noncomputable def Xw (p1:PosT) (p2:Int) (p3:ContractT) (p4:Int) (p5:List (ByteArray×Int)):Option (Int×Bool):=
  (Option.bind (bif (p2 == (-2)) then some (p1.state.day,p1.state.holders,p1.state.used,p1.state.marks) else (Option.bind (yw p3 p1.state p2) fun r1=>some (r1.1.day,r1.1.holders,r1.1.used,r1.1.marks))) fun (v1:Int×(List Int)×(List Bool)×(List MarkT))=>(Option.bind (we ({state:=({day:=v1.1,holders:=v1.2.1,used:=v1.2.2.1,marks:=v1.2.2.2}:StateT),own:=(!(p2 == (-2)))}:PosT)) fun r2=>some (((zp r2 p5).getD 0),(zp r2 p5).isSome)))
theorem KH (p1:PosT) (p2:Int) (p3:ContractT) (p4:Int) (p5:List (ByteArray×Int)):Le (Xw p1 p2 p3 p4 p5) (wb p1 p2 p3 p4 p5):=by
  unfold Xw wb
  repeat' (first | with_reducible exact Le.refl _ | with_reducible exact X7 _ _ _ | with_reducible exact QM _ | with_reducible refine Le.bind ?_ (fun _ => ?_) | with_reducible refine Le.cond _ ?_ ?_ | with_reducible refine Le.forR (fun _ _ => ?_) _ _ | with_reducible refine Le.iter (fun _ => ?_) _ _ | with_reducible refine Le.elim (fun _ => ?_) (fun _ => ?_) _)
noncomputable def Xx (p1:PosT) (p2:ContractT) (p3:Int) (p4:List (ByteArray×Int)):Option ((List Int)):=
  (Option.bind (X8 p2 p3 p1) fun r1=>some r1.1)
theorem KI (p1:PosT) (p2:ContractT) (p3:Int) (p4:List (ByteArray×Int)):Le (Xx p1 p2 p3 p4) (vw p1 p2 p3 p4):=by
  unfold Xx vw
  repeat' (first | with_reducible exact Le.refl _ | with_reducible exact zdG _ _ _ | with_reducible refine Le.bind ?_ (fun _ => ?_) | with_reducible refine Le.cond _ ?_ ?_ | with_reducible refine Le.forR (fun _ _ => ?_) _ _ | with_reducible refine Le.iter (fun _ => ?_) _ _ | with_reducible refine Le.elim (fun _ => ?_) (fun _ => ?_) _)
noncomputable def Xy (p1:Int) (p2:PosT) (p3:ContractT) (p4:Int) (p5:List (ByteArray×Int)):Option (Bool):=
  (Option.bind (Xw p2 p1 p3 p4 p5) fun r1=>some (!r1.2))
theorem KJ (p1:Int) (p2:PosT) (p3:ContractT) (p4:Int) (p5:List (ByteArray×Int)):Le (Xy p1 p2 p3 p4 p5) (yn p1 p2 p3 p4 p5):=by
  unfold Xy yn
  repeat' (first | with_reducible exact Le.refl _ | with_reducible exact KH _ _ _ _ _ | with_reducible refine Le.bind ?_ (fun _ => ?_) | with_reducible refine Le.cond _ ?_ ?_ | with_reducible refine Le.forR (fun _ _ => ?_) _ _ | with_reducible refine Le.iter (fun _ => ?_) _ _ | with_reducible refine Le.elim (fun _ => ?_) (fun _ => ?_) _)
noncomputable def zaV (p1:List Int) (p2:PosT) (p3:ContractT) (p4:Int) (p5:List (ByteArray×Int)):Option (Int):=
  (Option.bind (forR (σ:=Unit) (ρ:=Int) (p1.length:Int) (fun i1 s1=>(Option.bind (zm p1.length (i1:Int)) fun k1=>(Option.bind (p1[k1]?) fun e1=>(Option.bind (Xy e1 p2 p3 p4 p5) fun r1=>(bif r1 then some (.inr (i1:Int)) else some (.inl ())))))) ()) (Sum.elim (fun (s1:Unit)=>some (-1)) (fun (y1:Int)=>some y1)))
theorem zgs (p1:List Int) (p2:PosT) (p3:ContractT) (p4:Int) (p5:List (ByteArray×Int)):Le (zaV p1 p2 p3 p4 p5) (Xc p1 p2 p3 p4 p5):=by
  unfold zaV Xc
  repeat' (first | with_reducible exact Le.refl _ | with_reducible exact KJ _ _ _ _ _ | with_reducible refine Le.bind ?_ (fun _ => ?_) | with_reducible refine Le.cond _ ?_ ?_ | with_reducible refine Le.forR (fun _ _ => ?_) _ _ | with_reducible refine Le.iter (fun _ => ?_) _ _ | with_reducible refine Le.elim (fun _ => ?_) (fun _ => ?_) _)
noncomputable def zaW (p1:List Int) (p2:PosT) (p3:ContractT) (p4:Int) (p5:List (ByteArray×Int)):Option (Int):=
  (Option.bind (forR (σ:=Unit) (ρ:=Int) (p1.length:Int) (fun i1 s1=>(Option.bind (ze p1 (i1:Int)) fun e1=>(Option.bind (Xy e1 p2 p3 p4 p5) fun r1=>(bif r1 then some (.inr (i1:Int)) else some (.inl ()))))) ()) (Sum.elim (fun (s1:Unit)=>some (-1)) (fun (y1:Int)=>some y1)))
theorem zgt (p1:List Int) (p2:PosT) (p3:ContractT) (p4:Int) (p5:List (ByteArray×Int)):Le (zaW p1 p2 p3 p4 p5) (Xe p1 p2 p3 p4 p5):=by
  unfold zaW Xe
  repeat' (first | with_reducible exact Le.refl _ | with_reducible exact KJ _ _ _ _ _ | with_reducible refine Le.bind ?_ (fun _ => ?_) | with_reducible refine Le.cond _ ?_ ?_ | with_reducible refine Le.forR (fun _ _ => ?_) _ _ | with_reducible refine Le.iter (fun _ => ?_) _ _ | with_reducible refine Le.elim (fun _ => ?_) (fun _ => ?_) _)
noncomputable def zaX (p1:List Int) (p2:PosT) (p3:ContractT) (p4:Int) (p5:List (ByteArray×Int)):Option (Bool):=
  (Option.bind (zaV p1 p2 p3 p4 p5) fun r1=>some (decide (0≤r1)))
theorem zgu (p1:List Int) (p2:PosT) (p3:ContractT) (p4:Int) (p5:List (ByteArray×Int)):Le (zaX p1 p2 p3 p4 p5) (Xd p1 p2 p3 p4 p5):=by
  unfold zaX Xd
  repeat' (first | with_reducible exact Le.refl _ | with_reducible exact zgs _ _ _ _ _ | with_reducible refine Le.bind ?_ (fun _ => ?_) | with_reducible refine Le.cond _ ?_ ?_ | with_reducible refine Le.forR (fun _ _ => ?_) _ _ | with_reducible refine Le.iter (fun _ => ?_) _ _ | with_reducible refine Le.elim (fun _ => ?_) (fun _ => ?_) _)
noncomputable def zaY (p1:List Int) (p2:PosT) (p3:ContractT) (p4:Int) (p5:List (ByteArray×Int)):Option (Bool):=
  (Option.bind (zaW p1 p2 p3 p4 p5) fun r1=>some (decide (0≤r1)))
theorem zgv (p1:List Int) (p2:PosT) (p3:ContractT) (p4:Int) (p5:List (ByteArray×Int)):Le (zaY p1 p2 p3 p4 p5) (Xf p1 p2 p3 p4 p5):=by
  unfold zaY Xf
  repeat' (first | with_reducible exact Le.refl _ | with_reducible exact zgt _ _ _ _ _ | with_reducible refine Le.bind ?_ (fun _ => ?_) | with_reducible refine Le.cond _ ?_ ?_ | with_reducible refine Le.forR (fun _ _ => ?_) _ _ | with_reducible refine Le.iter (fun _ => ?_) _ _ | with_reducible refine Le.elim (fun _ => ?_) (fun _ => ?_) _)
noncomputable def YC (p1:ShieldW) (p2:Int) (p3:ContractT) (p4:Int) (p5:List (ByteArray×Int)):Option (Bool):=
  (Option.bind (ze p1.s.rows p2) fun e1=>(Option.bind (jO p3 e1.position.state p4) fun r1=>(bif r1 then some false else (Option.bind (Xx e1.position p3 p4 p5) fun r2=>(bif e1.position.own then (Option.bind (jP r2 e1.move) fun r3=>(bif r3 then (Option.bind (zaX [e1.move] e1.position p3 p4 p5) fun r4=>some (!r4)) else some false)) else (Option.bind (zaY r2 e1.position p3 p4 p5) fun r5=>some (!r5)))))))
theorem ze0 (p1:ShieldW) (p2:Int) (p3:ContractT) (p4:Int) (p5:List (ByteArray×Int)):Le (YC p1 p2 p3 p4 p5) (Z9 p1 p2 p3 p4 p5):=by
  unfold YC Z9
  repeat' (first | with_reducible exact Le.refl _ | with_reducible exact KI _ _ _ _ | with_reducible exact zgu _ _ _ _ _ | with_reducible exact zgv _ _ _ _ _ | with_reducible refine Le.bind ?_ (fun _ => ?_) | with_reducible refine Le.cond _ ?_ ?_ | with_reducible refine Le.forR (fun _ _ => ?_) _ _ | with_reducible refine Le.iter (fun _ => ?_) _ _ | with_reducible refine Le.elim (fun _ => ?_) (fun _ => ?_) _)
noncomputable def YD (p1:ContractT) (p2:ShieldW):Option (Bool):=
  (Option.bind (Z8 p2) fun r1=>(Option.bind (bif decide (r1 < 0) then some true else (bif decide (p1.parties≤r1) then some true else (Option.bind (jN p2) fun r2=>(bif decide (r2 < 1) then some true else (Option.bind (jN p2) fun r3=>some (decide (1500 < r3))))))) fun v1=>(bif v1 then some false else (Option.bind (jN p2) fun r4=>(Option.bind (forR (σ:=(List (ByteArray×Int))) (ρ:=Unit) r4 (fun i1 s1=>(Option.bind (α:=(List (ByteArray×Int)) ⊕ Unit) (Option.bind (XX p2 (i1:Int)) fun r5=>(Option.bind (qK p1 r5.1.state) fun r6=>(bif r6 then (Option.bind (we r5.1) fun r7=>(Option.bind (bif ((zp r7 s1).isSome) then some (decide (r5.2 < ((zp r7 s1).getD 0))) else some true) fun v2=>(bif v2 then some (.inl (z8 r7 r5.2 s1)) else some (.inl s1)))) else some (.inr ())))) (Sum.elim (fun (v3:(List (ByteArray×Int)))=>some (.inl v3)) (fun (y1:Unit)=>some (.inr ()))))) []) (Sum.elim (fun (s1:(List (ByteArray×Int)))=>(Option.bind (jN p2) fun r8=>(Option.bind (forR (σ:=Unit) (ρ:=Unit) r8 (fun i2 s2=>(Option.bind (YC p2 (i2:Int) p1 r1 s1) fun r9=>(bif r9 then some (.inl ()) else some (.inr ())))) ()) (Sum.elim (fun (s2:Unit)=>some true) (fun (y3:Unit)=>some false))))) (fun (y2:Unit)=>some false)))))))
theorem ze1 (p1:ContractT) (p2:ShieldW):Le (YD p1 p2) (Qa p1 p2):=by
  unfold YD Qa
  repeat' (first | with_reducible exact Le.refl _ | with_reducible exact QM _ | with_reducible exact ze0 _ _ _ _ _ | with_reducible refine Le.bind ?_ (fun _ => ?_) | with_reducible refine Le.cond _ ?_ ?_ | with_reducible refine Le.forR (fun _ _ => ?_) _ _ | with_reducible refine Le.iter (fun _ => ?_) _ _ | with_reducible refine Le.elim (fun _ => ?_) (fun _ => ?_) _)
noncomputable def jS (c:ContractT) (s:ShieldT):Option (Bool):=
  (Option.bind (YD c ({s:=s}:ShieldW)) fun r1=>some r1)
theorem X9 (c:ContractT) (s:ShieldT):Le (jS c s) (jj c s):=by
  unfold jS jj
  repeat' (first | with_reducible exact Le.refl _ | with_reducible exact ze1 _ _ | with_reducible refine Le.bind ?_ (fun _ => ?_) | with_reducible refine Le.cond _ ?_ ?_ | with_reducible refine Le.forR (fun _ _ => ?_) _ _ | with_reducible refine Le.iter (fun _ => ?_) _ _ | with_reducible refine Le.elim (fun _ => ?_) (fun _ => ?_) _)
noncomputable def Xz (p1:PosT) (p2:Int) (p3:Int) (p4:ContractT) (p5:Int) (p6:List (ByteArray×Int)):Option (Bool):=
  (Option.bind (Xw p1 p2 p4 p5 p6) fun r1=>(Option.bind (bif r1.2 then some (decide (r1.1 < p3)) else some false) fun v1=>some v1))
theorem KL (p1:PosT) (p2:Int) (p3:Int) (p4:ContractT) (p5:Int) (p6:List (ByteArray×Int)):Le (Xz p1 p2 p3 p4 p5 p6) (wc p1 p2 p3 p4 p5 p6):=by
  unfold Xz wc
  repeat' (first | with_reducible exact Le.refl _ | with_reducible exact KH _ _ _ _ _ | with_reducible refine Le.bind ?_ (fun _ => ?_) | with_reducible refine Le.cond _ ?_ ?_ | with_reducible refine Le.forR (fun _ _ => ?_) _ _ | with_reducible refine Le.iter (fun _ => ?_) _ _ | with_reducible refine Le.elim (fun _ => ?_) (fun _ => ?_) _)
noncomputable def YE (p1:Int) (p2:PosT) (p3:Int) (p4:ContractT) (p5:Int) (p6:List (ByteArray×Int)):Option (Bool):=
  (Option.bind (Xz p2 p1 p3 p4 p5 p6) fun r1=>some (!r1))
theorem ze2 (p1:Int) (p2:PosT) (p3:Int) (p4:ContractT) (p5:Int) (p6:List (ByteArray×Int)):Le (YE p1 p2 p3 p4 p5 p6) (kH p1 p2 p3 p4 p5 p6):=by
  unfold YE kH
  repeat' (first | with_reducible exact Le.refl _ | with_reducible exact KL _ _ _ _ _ _ | with_reducible refine Le.bind ?_ (fun _ => ?_) | with_reducible refine Le.cond _ ?_ ?_ | with_reducible refine Le.forR (fun _ _ => ?_) _ _ | with_reducible refine Le.iter (fun _ => ?_) _ _ | with_reducible refine Le.elim (fun _ => ?_) (fun _ => ?_) _)
noncomputable def zaZ (p1:List Int) (p2:PosT) (p3:Int) (p4:ContractT) (p5:Int) (p6:List (ByteArray×Int)):Option (Int):=
  (Option.bind (forR (σ:=Unit) (ρ:=Int) (p1.length:Int) (fun i1 s1=>(Option.bind (ze p1 (i1:Int)) fun e1=>(Option.bind (YE e1 p2 p3 p4 p5 p6) fun r1=>(bif r1 then some (.inr (i1:Int)) else some (.inl ()))))) ()) (Sum.elim (fun (s1:Unit)=>some (-1)) (fun (y1:Int)=>some y1)))
theorem zgw (p1:List Int) (p2:PosT) (p3:Int) (p4:ContractT) (p5:Int) (p6:List (ByteArray×Int)):Le (zaZ p1 p2 p3 p4 p5 p6) (QD p1 p2 p3 p4 p5 p6):=by
  unfold zaZ QD
  repeat' (first | with_reducible exact Le.refl _ | with_reducible exact ze2 _ _ _ _ _ _ | with_reducible refine Le.bind ?_ (fun _ => ?_) | with_reducible refine Le.cond _ ?_ ?_ | with_reducible refine Le.forR (fun _ _ => ?_) _ _ | with_reducible refine Le.iter (fun _ => ?_) _ _ | with_reducible refine Le.elim (fun _ => ?_) (fun _ => ?_) _)
noncomputable def za0 (p1:List Int) (p2:PosT) (p3:Int) (p4:ContractT) (p5:Int) (p6:List (ByteArray×Int)):Option (Bool):=
  (Option.bind (zaZ p1 p2 p3 p4 p5 p6) fun r1=>some (decide (0≤r1)))
theorem zgx (p1:List Int) (p2:PosT) (p3:Int) (p4:ContractT) (p5:Int) (p6:List (ByteArray×Int)):Le (za0 p1 p2 p3 p4 p5 p6) (Zp p1 p2 p3 p4 p5 p6):=by
  unfold za0 Zp
  repeat' (first | with_reducible exact Le.refl _ | with_reducible exact zgw _ _ _ _ _ _ | with_reducible refine Le.bind ?_ (fun _ => ?_) | with_reducible refine Le.cond _ ?_ ?_ | with_reducible refine Le.forR (fun _ _ => ?_) _ _ | with_reducible refine Le.iter (fun _ => ?_) _ _ | with_reducible refine Le.elim (fun _ => ?_) (fun _ => ?_) _)
noncomputable def YF (p1:DoomW) (p2:Int) (p3:ContractT) (p4:Int) (p5:List (ByteArray×Int)):Option (Bool):=
  (Option.bind (ze p1.d.rows p2) fun e1=>(bif decide (e1.rank≤0) then (Option.bind (bif (e1.rank == 0) then (Option.bind (jO p3 e1.position.state p4) fun r1=>some r1) else some false) fun v1=>some v1) else (Option.bind (Xx e1.position p3 p4 p5) fun r2=>(bif e1.position.own then (Option.bind (za0 r2 e1.position e1.rank p3 p4 p5) fun r5=>some (!r5)) else (Option.bind (Option.bind (jP r2 e1.move) fun r3=>(bif r3 then (Option.bind (Xz e1.position e1.move e1.rank p3 p4 p5) fun r4=>some r4) else some false)) fun v2=>some v2)))))
theorem ze3 (p1:DoomW) (p2:Int) (p3:ContractT) (p4:Int) (p5:List (ByteArray×Int)):Le (YF p1 p2 p3 p4 p5) (yo p1 p2 p3 p4 p5):=by
  unfold YF yo
  repeat' (first | with_reducible exact Le.refl _ | with_reducible exact KI _ _ _ _ | with_reducible exact zgx _ _ _ _ _ _ | with_reducible exact KL _ _ _ _ _ _ | with_reducible refine Le.bind ?_ (fun _ => ?_) | with_reducible refine Le.cond _ ?_ ?_ | with_reducible refine Le.forR (fun _ _ => ?_) _ _ | with_reducible refine Le.iter (fun _ => ?_) _ _ | with_reducible refine Le.elim (fun _ => ?_) (fun _ => ?_) _)
noncomputable def YG (p1:ContractT) (p2:DoomW):Option (Bool):=
  (Option.bind (Qb p2) fun r1=>(Option.bind (bif decide (r1 < 0) then some true else (bif decide (p1.parties≤r1) then some true else (Option.bind (jv p2) fun r2=>(bif decide (r2 < 1) then some true else (Option.bind (jv p2) fun r3=>some (decide (1500 < r3))))))) fun v1=>(bif v1 then some false else (Option.bind (jv p2) fun r4=>(Option.bind (forR (σ:=(List (ByteArray×Int))) (ρ:=Unit) r4 (fun i1 s1=>(Option.bind (α:=(List (ByteArray×Int)) ⊕ Unit) (Option.bind (kG p2 (i1:Int)) fun r5=>(Option.bind (qK p1 r5.1.state) fun r6=>(bif r6 then (Option.bind (we r5.1) fun r7=>(Option.bind (bif ((zp r7 s1).isSome) then some (decide (r5.2 < ((zp r7 s1).getD 0))) else some true) fun v2=>(bif v2 then some (.inl (z8 r7 r5.2 s1)) else some (.inl s1)))) else some (.inr ())))) (Sum.elim (fun (v3:(List (ByteArray×Int)))=>some (.inl v3)) (fun (y1:Unit)=>some (.inr ()))))) []) (Sum.elim (fun (s1:(List (ByteArray×Int)))=>(Option.bind (jv p2) fun r8=>(Option.bind (forR (σ:=Unit) (ρ:=Unit) r8 (fun i2 s2=>(Option.bind (YF p2 (i2:Int) p1 r1 s1) fun r9=>(bif r9 then some (.inl ()) else some (.inr ())))) ()) (Sum.elim (fun (s2:Unit)=>some true) (fun (y3:Unit)=>some false))))) (fun (y2:Unit)=>some false)))))))
theorem ze4 (p1:ContractT) (p2:DoomW):Le (YG p1 p2) (kI p1 p2):=by
  unfold YG kI
  repeat' (first | with_reducible exact Le.refl _ | with_reducible exact QM _ | with_reducible exact ze3 _ _ _ _ _ | with_reducible refine Le.bind ?_ (fun _ => ?_) | with_reducible refine Le.cond _ ?_ ?_ | with_reducible refine Le.forR (fun _ _ => ?_) _ _ | with_reducible refine Le.iter (fun _ => ?_) _ _ | with_reducible refine Le.elim (fun _ => ?_) (fun _ => ?_) _)
noncomputable def wZ (c:ContractT) (d:DoomT):Option (Bool):=
  (Option.bind (YG c ({d:=d}:DoomW)) fun r1=>some r1)
theorem YH (c:ContractT) (d:DoomT):Le (wZ c d) (qP c d):=by
  unfold wZ qP
  repeat' (first | with_reducible exact Le.refl _ | with_reducible exact ze4 _ _ | with_reducible refine Le.bind ?_ (fun _ => ?_) | with_reducible refine Le.cond _ ?_ ?_ | with_reducible refine Le.forR (fun _ _ => ?_) _ _ | with_reducible refine Le.iter (fun _ => ?_) _ _ | with_reducible refine Le.elim (fun _ => ?_) (fun _ => ?_) _)
noncomputable def YI:Option (Bool):=
  (Option.bind (ke) fun r1=>(Option.bind (X6 r1) fun r2=>(Option.bind (yV r1 0 ({state:=r2.1,own:=true}:PosT)) fun r3=>(Option.bind (QO r1 0 ({state:=r2.1,own:=true}:PosT)) fun r4=>(Option.bind (QO r1 0 ({state:=r2.1,own:=false}:PosT)) fun r5=>(Option.bind (yV r1 0 ({state:=r2.1,own:=false}:PosT)) fun r6=>(Option.bind (bif (r2.2 == 0) then (bif (r3.2 == 0) then (bif (r4.2 == 13) then (bif (r5.2 == 0) then (bif (r6.2 == 13) then (bif ((r3.1.rows.length:Int) == 5) then some (!((r5.1.rows.length:Int) == 3)) else some true) else some true) else some true) else some true) else some true) else some true) fun v1=>(bif v1 then some false else (Option.bind (Option.bind (ze r3.1.rows 0) fun e1=>(bif (e1.move == 0) then (Option.bind (ze r3.1.rows 1) fun e2=>(bif (e2.move == (-2)) then (Option.bind (ze r5.1.rows 0) fun e3=>(bif (e3.rank == 1) then (bif (e3.move == (-1)) then (Option.bind (ze r5.1.rows 1) fun e4=>some (e4.rank == 0)) else some false) else some false)) else some false)) else some false)) fun v2=>(Option.bind (Option.bind (jS r1 r3.1) fun r7=>(bif r7 then (Option.bind (wZ r1 r5.1) fun r8=>some r8) else some false)) fun v3=>(Option.bind (yY r3.1.rows 0 4) fun e5=>(Option.bind (VW (α:=DoomRowT) 104 [] r5.1.rows) fun e6=>(Option.bind (zm e6.length 0) fun k1=>(Option.bind (e6[k1]?) fun e7=>(Option.bind (bif v2 then (bif v3 then (Option.bind (jS r1 ({party:=0,rows:=e5}:ShieldT)) fun r9=>(bif r9 then some false else (Option.bind (wZ r1 ({party:=0,rows:=(e6.set k1 ({e7 with move:=0}:DoomRowT))}:DoomT)) fun r10=>(bif r10 then some false else (Option.bind (jS r1 ({party:=0,rows:=[]}:ShieldT)) fun r11=>some (!r11)))))) else some false) else some false) fun v4=>some v4)))))))))))))))
theorem zcE:Le YI yp:=by
  unfold YI yp
  repeat' (first | with_reducible exact Le.refl _ | with_reducible exact zdE _ | with_reducible exact zaU _ _ _ | with_reducible exact zdF _ _ _ | with_reducible exact X9 _ _ | with_reducible exact YH _ _ | with_reducible refine Le.bind ?_ (fun _ => ?_) | with_reducible refine Le.cond _ ?_ ?_ | with_reducible refine Le.elim (fun _ => ?_) (fun _ => ?_) _)
theorem zdH:yp=some true:=zcE true (by kernel_rfl)
end Go.Proofs.YtmoedieenlaegaaGreatDoor
namespace Go.Proofs.YtmoedieenlaegaaGreatDoor
open Go.RowKit
set_option linter.unusedSimpArgs false
set_option linter.unusedVariables false
set_option maxRecDepth 100000
section
theorem YJ {b:Bool}:kc (fun _:Unit=>True) (fun _:Unit=>True) (bif b then (.inr ():Unit ⊕ Unit) else .inl ()):=by cases b<;>trivial
theorem ze5 {c:ContractT} (hc:c.Ok) (s:ShieldT) (d:DoomT):Ret (QE c s d) (fun b=>b=true→s.rows.length≤300∧d.rows.length≤300):=by
  unfold QE
  refine Ret.bindE (v := !(Vn c&&(decide (s.rows.length≤300)&&decide (d.rows.length≤300)))) ?_ ?_
  · rw [zgk hc]
    simp only [Option.bind_some]
    cases Vn c with
    | false=>rfl
    | true=>
      by_cases h1:(300:Int) < (s.rows.length:Int)
      · rw [decide_eq_true h1,decide_eq_false (show ¬ s.rows.length≤300 by omega)];rfl
      · rw [decide_eq_false h1,decide_eq_true (show s.rows.length≤300 by omega)]
        by_cases h2:(300:Int) < (d.rows.length:Int)
        · rw [decide_eq_true h2,decide_eq_false (show ¬ d.rows.length≤300 by omega)];rfl
        · rw [decide_eq_false h2,decide_eq_true (show d.rows.length≤300 by omega)];rfl
  refine Ret.ite (fun _=>Ret.some fun h=>by cases h) (fun hb => ?_)
  simp only [Bool.not_eq_false',Bool.and_eq_true,decide_eq_true_eq] at hb
  obtain ⟨_,h1,h2⟩:=hb
  refine Ret.bind (P:=fun _=>True) (Ret.forL (fun _ _=>True) (by omega) trivial (fun i _ hi _ => ?_) (fun _ _=>trivial)) ?_
  · refine Ret.bindE (zV (List.getElem?_eq_getElem hi)) ?_
    simp only [zj,Option.bind_some]
    exact Ret.some YJ
  · rintro (_ | _) _
    · simp only [Sum.elim_inl]
      refine Ret.bind (P:=fun _=>True) (Ret.forL (fun _ _=>True) (by omega) trivial (fun i _ hi _ => ?_) (fun _ _=>trivial)) ?_
      · refine Ret.bindE (zV (List.getElem?_eq_getElem hi)) ?_
        simp only [zj,Option.bind_some]
        exact Ret.some YJ
      · rintro (_ | _) _
        · exact Ret.some fun _=>⟨h1,h2⟩
        · exact Ret.some fun h=>by cases h
    · exact Ret.some fun h=>by cases h
theorem ze6 {α:Type} {l:List α} (h:0 < l.length) {raw:Int} (hraw:InK .u16 raw):∃ (i:Nat) (hi:i < l.length) (n:Int),xa .i64 (IntKind.i64.wrap raw) (l.length:Int)=some n∧ze l n=some l[i]:=by
  have hraw':0≤raw∧raw≤65535:=hraw
  rw [qI (by omega) (by omega)]
  have h3:0≤raw.tmod l.length:=Int.tmod_nonneg _ hraw'.1
  have h4:raw.tmod l.length < l.length:=Int.tmod_lt_of_pos _ (by omega)
  obtain ⟨h5,h6⟩:=qC (l:=l) h3 h4
  exact ⟨_,h5,_,by unfold xa;rw [if_neg (by omega)],h6⟩
theorem zdI {α:Type} {l:List α} (h:0 < l.length) {raw:Int} (hraw:InK .u8 raw):∃ (i:Nat) (hi:i < l.length) (n:Int),xa .i64 (IntKind.i64.wrap raw) (l.length:Int)=some n∧ze l n=some l[i]:=by
  have hraw':0≤raw∧raw≤255:=hraw
  rw [qI (by omega) (by omega)]
  have h3:0≤raw.tmod l.length:=Int.tmod_nonneg _ hraw'.1
  have h4:raw.tmod l.length < l.length:=Int.tmod_lt_of_pos _ (by omega)
  obtain ⟨h5,h6⟩:=qC (l:=l) h3 h4
  exact ⟨_,h5,_,by unfold xa;rw [if_neg (by omega)],h6⟩
section
variable {c:ContractT} {party:Int} {p:PosT} {a:ArenaT}
structure DRow (c:ContractT) (party:Int) (r:DoomRowT):Prop where
  rk:r.rank=rkP c party r.position
  lo:0≤r.rank
  mv:0 < r.rank→r.position.own=false→r.move∈zz c party r.position∧0≤rkP c party (target c r.position r.move)∧rkP c party (target c r.position r.move) < r.rank
end
end
abbrev qd (s:Int×(List Int)×(List Bool)×(List MarkT)×Bool):PosT:={state:={day:=s.1,holders:=s.2.1,used:=s.2.2.1,marks:=s.2.2.2.1},own:=s.2.2.2.2}
theorem XA (c:ContractT) (d:DoomT) (raw:Int) (choices:List Int) (hc:ContractT.Ok c) (hs:DoomT.Ok d) (hraw:InK .u16 raw) (hch:LOk 1 (fun x:Int=>InK .u8 x) choices):wd c d raw choices=some true:=by
  refine Ret.eq ?_
  have hl:d.rows.length < 4611686018427387904:=hs.rows.lt (by omega)
  have hcl:choices.length < 4611686018427387904:=hch.lt (by omega)
  unfold wd
  refine Ret.bindE zdH ?_
  refine Ret.bind (P:=fun v:Bool=>v=false→DoomP c d) ?_ ?_
  · refine Ret.bind (ze5 hc _ d) fun b hb => ?_
    refine Ret.ite (fun _ => ?_) (fun _=>Ret.some fun h=>by cases h)
    refine Ret.ite (fun _=>Ret.some fun h=>by cases h) (fun _ => ?_)
    refine Ret.bindE (Ka hc d hl) ?_
    exact Ret.some fun h=>WQ.1 (by simpa using h)
  intro v hv
  refine Ret.ite (fun _=>Ret.some rfl) (fun h => ?_)
  have H:=hv h
  have h1:=H.n1
  refine Ret.ite (fun h=>absurd (beq_iff_eq.1 h) (by omega)) (fun _ => ?_)
  obtain ⟨i,hi,n,hn,hx⟩:=ze6 (l:=d.rows) (by omega) hraw
  refine Ret.bindE hn ?_
  refine Ret.bindE hx ?_
  have hmem:=List.getElem_mem hi
  generalize d.rows[i]=r at hmem
  have hr0:=H.rk r hmem
  have hr1:InK .i64 r.rank:=(hs.rows.2 r hmem).rank
  have hr2:r.rank≤9223372036854775807:=hr1.2
  refine Ret.bind (P:=fun o:(Int×(List Int)×(List Bool)×(List MarkT)×Bool) ⊕ Unit=>∃ t,o=.inl t∧VS c (qd t).state∧(r.rank≤300→ja c (qd t).state d.party=true)) ?_ ?_
  · refine Ret.bind (P:=fun o:(Int×(List Int)×(List Bool)×(List MarkT)×Bool) ⊕ Unit=>∃ t,o=.inl t∧VS c (qd t).state∧(r.rank≤300→ja c (qd t).state d.party=true))
      (Ret.iter (fun s=>0≤s.1∧s.1≤300∧s.1≤r.rank∧∃ x∈d.rows,x.position=qd s.2∧x.rank≤r.rank - s.1) (fun s=>(300 - s.1).toNat) ⟨by simp,by simp,hr0,r,hmem,rfl,by simp⟩ ?_) ?_
    · rintro ⟨n,t⟩ ⟨n0,n1,n2,x0,hx0,hxp,hxr⟩
      simp only at n0 n1 n2 hxp hxr
      have hvs:VS c (qd t).state:=by rw [←hxp];exact H.vs x0 hx0
      have hf:=hvs.few hc
      have hfin:∀ y∈d.rows,y.position=qd t→y.rank=0→ja c (qd t).state d.party=true:=fun y hy e hz=>by
        have:=H.zero y hy hz
        rwa [e] at this
      refine Ret.bindE (v:=decide (n < r.rank)&&decide (n < 300)) ?_ ?_
      · cases decide (n < r.rank)<;>rfl
      have hend:(decide (n < r.rank)&&decide (n < 300))=false→r.rank≤300→ja c (qd t).state d.party=true:=fun hb h300=>by
        have hz:¬ (n < r.rank∧n < 300):=fun ⟨a,b⟩=>by
          rw [decide_eq_true a,decide_eq_true b] at hb;cases hb
        exact hfin x0 hx0 hxp (by have:=H.rk x0 hx0;omega)
      refine Ret.ite (fun hb => ?_) (fun hb=>Ret.some ⟨t,rfl,hvs,hend hb⟩)
      simp only [Bool.and_eq_true,decide_eq_true_eq] at hb
      obtain ⟨hnr,hn3⟩:=hb
      refine Ret.bind (P:=fun o:Int ⊕ Unit=>∃ (k:Nat) (hk:k < d.rows.length),o=.inl (k:Int)∧d.rows[k].position=qd t∧d.rows[k].rank≤r.rank - n)
        (Ret.forL (fun m at_=>(at_ = -1∧∀ (j:Nat) (hj:j < d.rows.length),j < m→d.rows[j].position≠qd t)∨∃ (k:Nat) (hk:k < d.rows.length),at_=(k:Int)∧d.rows[k].position=qd t∧∀ (j:Nat) (hj:j < d.rows.length),j < m→d.rows[j].position=qd t→d.rows[k].rank≤d.rows[j].rank) hl (.inl ⟨rfl,fun j _ hj=>by omega⟩) (fun m at_ hm hA => ?_) (fun at_ hA => ?_)) ?_
      · refine Ret.bind (P:=fun v:Int=>(v = -1∧∀ (j:Nat) (hj:j < d.rows.length),j < m+1→d.rows[j].position≠qd t)∨∃ (k:Nat) (hk:k < d.rows.length),v=(k:Int)∧d.rows[k].position=qd t∧∀ (j:Nat) (hj:j < d.rows.length),j < m+1→d.rows[j].position=qd t→d.rows[k].rank≤d.rows[j].rank) ?_ (fun v h=>Ret.some h)
        have f1:=(H.vs _ (List.getElem_mem hm)).few hc
        have hEq:vz d.rows[m].position (qd t)=some (d.rows[m].position == qd t):=zcz _ _ (by omega) (by omega) (by omega)
        refine Ret.bind (P:=fun b:Bool=>(b=true→d.rows[m].position=qd t∧((∀ (j:Nat) (hj:j < d.rows.length),j < m→d.rows[j].position≠qd t)∨∃ (k:Nat) (hk:k < d.rows.length),d.rows[m].rank < d.rows[k].rank∧∀ (j:Nat) (hj:j < d.rows.length),j < m→d.rows[j].position=qd t→d.rows[k].rank≤d.rows[j].rank))∧(b=false→d.rows[m].position≠qd t∨∃ (k:Nat) (hk:k < d.rows.length),at_=(k:Int)∧d.rows[k].rank≤d.rows[m].rank)) ?_ ?_
        · refine Ret.bindE (zV (List.getElem?_eq_getElem hm)) ?_
          refine Ret.bindE hEq ?_
          refine Ret.ite (fun he => ?_) (fun he=>Ret.some ⟨fun h=>(by cases h),fun _=>.inl (beq_eq_false_iff_ne.1 he)⟩)
          have he:=beq_iff_eq.1 he
          rcases hA with ⟨g1,g2⟩ | ⟨k,hk,g1,g2,g3⟩
          · rw [g1]
            exact Ret.some ⟨fun _=>⟨he,.inl g2⟩,fun h=>by cases h⟩
          · rw [g1,decide_eq_false (show ¬ (k:Int) < 0 by omega),cond_false]
            refine Ret.bindE (zV (List.getElem?_eq_getElem hk)) ?_
            refine Ret.some ⟨fun h=>⟨he,.inr ⟨k,hk,of_decide_eq_true h,g3⟩⟩,fun h=>.inr ⟨k,hk,rfl,?_⟩⟩
            have:=of_decide_eq_false h
            omega
        · rintro b ⟨hb1,hb2⟩
          refine Ret.ite (fun hb=>Ret.some (.inr ⟨m,hm,rfl,(hb1 hb).1,fun j hj hjm hjp => ?_⟩)) (fun hb=>Ret.some ?_)
          · by_cases e:j=m
            · subst e;exact Int.le_refl _
            · rcases (hb1 hb).2 with g | ⟨k,hk,g1,g2⟩
              · exact absurd hjp (g j hj (by omega))
              · have:=g2 j hj (by omega) hjp
                omega
          · rcases hA with ⟨g1,g2⟩ | ⟨k,hk,g1,g2,g3⟩
            · refine .inl ⟨g1,fun j hj hjm => ?_⟩
              by_cases e:j=m
              · subst e
                rcases hb2 hb with g | ⟨k,hk,g,_⟩
                · exact g
                · omega
              · exact g2 j hj (by omega)
            · refine .inr ⟨k,hk,g1,g2,fun j hj hjm hjp => ?_⟩
              by_cases e:j=m
              · subst e
                rcases hb2 hb with g | ⟨k',hk',g,g'⟩
                · exact absurd hjp g
                · have:k=k':=by omega
                  subst this
                  exact g'
              · exact g3 j hj (by omega) hjp
      · obtain ⟨j,hj,hje⟩:=List.getElem_of_mem hx0
        rcases hA with ⟨g1,g2⟩ | ⟨k,hk,g1,g2,g3⟩
        · exact absurd (by rw [hje];exact hxp) (g2 j hj hj)
        · have:=g3 j hj hj (by rw [hje];exact hxp)
          rw [hje] at this
          exact ⟨k,hk,by rw [g1],g2,by omega⟩
      rintro _ ⟨k,hk,rfl,hkp,hkr⟩
      simp only [Sum.elim_inl]
      have hrow:=List.getElem_mem hk
      have hki:ze d.rows (k:Int)=some d.rows[k]:=zV (List.getElem?_eq_getElem hk)
      generalize d.rows[k]=y at hkp hkr hrow hki
      refine Ret.bindE (v:=false) ?_ ?_
      · rw [decide_eq_false (show ¬ (k:Int) < 0 by omega),hki,qI (by omega) (by omega)]
        show some (decide (r.rank - n < y.rank))=some false
        rw [decide_eq_false (by omega)]
      refine Ret.ite (fun h=>by cases h) (fun _ => ?_)
      refine Ret.bindE hki ?_
      have hyr:=H.rk y hrow
      refine Ret.ite (fun hz=>Ret.some ⟨t,rfl,hvs,fun _=>hfin y hrow hkp (beq_iff_eq.1 hz)⟩) (fun hz => ?_)
      have hz:=beq_eq_false_iff_ne.1 hz
      have hpl:yS c d.party (qd t).state=true:=yT.2 ⟨H.p0,H.p1,hvs⟩
      have hmv:xp c d.party (qd t)=some (zz c d.party (qd t),0):=by rw [KB hc,hpl];rfl
      have hml:=yU hc (party:=d.party) (e:=qd t) hvs
      have hne:0 < (zz c d.party (qd t)).length:=by
        cases ho:(qd t).own with
        | true=>exact List.length_pos_of_mem (jq.2 (.inl ⟨ho,rfl⟩))
        | false=>
          have:=(H.oth y hrow (by omega) (by rw [hkp];exact ho)).1
          rw [hkp] at this
          exact List.length_pos_of_mem this
      refine Ret.bindE hmv ?_
      refine Ret.bindE (v:=false) ?_ ?_
      · show some (((zz c d.party (qd t)).length:Int) == 0)=some false
        rw [beq_eq_false_iff_ne.2 (by omega)]
      refine Ret.ite (fun h=>by cases h) (fun _ => ?_)
      refine Ret.bindE hki ?_
      refine Ret.bind (P:=fun v:Int=>v∈zz c d.party (qd t)∧∃ x∈d.rows,x.position=target c (qd t) v∧x.rank < y.rank) (Ret.ite (fun ho => ?_) (fun ho=>Ret.some ?_)) ?_
      · have all:∀ v∈zz c d.party (qd t),v∈zz c d.party (qd t)∧∃ x∈d.rows,x.position=target c (qd t) v∧x.rank < y.rank:=fun v hv=>by
          have:=H.own y hrow (by omega) (by rw [hkp];exact ho) v (by rw [hkp];exact hv)
          rw [hkp] at this
          exact ⟨hv,this⟩
        have h0:ze (zz c d.party (qd t)) 0=some (zz c d.party (qd t))[0]:=zV (i:=0) (List.getElem?_eq_getElem hne)
        refine Ret.bindE h0 ?_
        refine Ret.ite (fun hlt => ?_) (fun _=>Ret.some (all _ (List.getElem_mem hne)))
        have hlt:=of_decide_eq_true hlt
        obtain ⟨hq,hq2⟩:=qC (l:=choices) n0 hlt
        refine Ret.bindE hq2 ?_
        obtain ⟨m,hm,n2,hn2,hx2⟩:=zdI (l:=zz c d.party (qd t)) hne (hch.2 _ (List.getElem_mem hq))
        refine Ret.bindE hn2 ?_
        refine Ret.bindE hx2 ?_
        exact Ret.some (all _ (List.getElem_mem hm))
      · have:=H.oth y hrow (by omega) (by rw [hkp];exact ho)
        rw [hkp] at this
        exact this
      rintro w ⟨hw,x,hx,hxt,hxlt⟩
      have haf:kJ c d.party (qd t) w=some (target c (qd t) w,0):=by rw [zeY hc w hpl,if_pos hw]
      refine Ret.bindE haf ?_
      refine Ret.ite (fun _ => ?_) (fun h=>by cases h)
      rw [qI (by omega) (by omega)]
      refine Ret.some ⟨⟨by show 0≤n+1;omega,by show n+1≤300;omega,by show n+1≤r.rank;omega,x,hx,hxt,by show x.rank≤r.rank - (n+1);omega⟩,?_⟩
      show (300 - (n+1)).toNat < (300 - n).toNat
      omega
    · rintro _ ⟨t,rfl,ht⟩
      exact Ret.some ⟨t,rfl,ht⟩
  · rintro _ ⟨t,rfl,hvs,ht⟩
    simp only [Sum.elim_inl]
    refine Ret.bindE (v:=true) ?_ (Ret.some rfl)
    by_cases h300:(300:Int) < r.rank
    · rw [decide_eq_true h300];rfl
    · rw [decide_eq_false h300]
      show Option.bind (jO c (qd t).state d.party) _=_
      rw [Yx hc hvs H.p0 H.p1,ht (by omega)];rfl
end Go.Proofs.YtmoedieenlaegaaGreatDoor
namespace Go.Proofs.YtmoedieenlaegaaGreatDoor
open Go.ChangeShapes Go.WideShapes Go.RowKit
set_option maxRecDepth 100000
abbrev QP : List (String × DataW Unit) := [("math/bits.deBruijn32tab", Rows.laid_math_bits_deBruijn32tab), ("math/bits.deBruijn64tab", Rows.laid_math_bits_deBruijn64tab), ("internal/strconv.uint64pow10", Rows.laid_internal_strconv_uint64pow10)]
theorem zdJ:(QP.filter fun x=>x.1 == xm)=[(xm,Lib.tabData .u64 Lib.pow10Tab)]:=by kernel_rfl
theorem YK {W:World} (h:laidMet Tryz.prog QP W):C0.tabs.p W∧C0.tabs.n≤W.heap.size:=by
  have h1:=h.filter (fun x=>x.1 == xm)
  rw [zdJ] at h1
  have h2:C0.tabs.p W:=Lib.tabIs_of_head (g:=0) (t:=((Tryz.prog.globals[0]?).map (·.type)).getD 0) (e:=181) (n:=20)
    (by kernel_rfl) (by kernel_rfl) (by kernel_rfl) (by kernel_rfl) (by kernel_rfl) (by kernel_rfl) h1
  exact ⟨h2,zas h2⟩
def zgy:DataW Unit→Array Value
  | .agg ds=>(ds.map fun d=>match d with | .lit (.int k n)=>Value.int k n | _=>Value.bool false).toArray
  | _ => #[]
def YL (w:World) (g:Nat) (d:DataW Unit):World:={w with heap:=w.heap.modify g fun | .cells _ t f=>.cells (zgy d) t f | o=>o}
noncomputable def WR (os:Os):World:=
  YL (YL (YL (World.holding Tryz.prog os ⟨#[],#[],[]⟩) 1 Rows.laid_math_bits_deBruijn32tab) 2 Rows.laid_math_bits_deBruijn64tab) 0 Rows.laid_internal_strconv_uint64pow10
theorem W3 (os:Os) (args:Array Value):laidMet Tryz.prog QP ((WR os).forCall (fun _ _=>0) ⟨#[],args,[]⟩).memory:=
  laidMet_of_run3 8 (by kernel_rfl) (by kernel_rfl) (by kernel_rfl)
end Go.Proofs.YtmoedieenlaegaaGreatDoor
namespace Go.Proofs.YtmoedieenlaegaaGreatDoor.LWitnessForces
open Go.ChangeShapes Go.WideShapes Go.ChangeAt Go.RowKit
set_option linter.unusedVariables false
set_option maxRecDepth 100000
theorem all (ivs:List IV) (h:QA [(true,ContractT.tys),(true,DoomT.tys),(false,[.int .u16]),(false,[.slice 1 [.int .u8]])] ivs):APure C0 238 ivs (.bool true):=by
  match ivs,h with
  | [x0,x1,x2,x3],⟨a0,a1,a2,a3,_⟩=>
    obtain ⟨row0,rfl,r0⟩:=a0
    obtain ⟨c,rfl,ok_c⟩:=ContractT.opn r0
    obtain ⟨row1,rfl,r1⟩:=a1
    obtain ⟨d,rfl,ok_d⟩:=DoomT.opn r1
    obtain ⟨c2,_,e2,k2,n2⟩:=zf a2
    cases e2
    obtain ⟨raw,rfl,ok_raw⟩:=zo k2
    obtain ⟨c3,_,e3,k3,n3⟩:=zf a3
    cases e3
    obtain ⟨choices,rfl,ok_choices⟩:=zC (zbQ .u8) k3
    exact Xi c d raw choices true (XA c d raw choices ok_c ok_d ok_raw ok_choices)
theorem own:ownKnob Tryz.prog.godebug=none:=by kernel_rfl
theorem laid:laidOutB Tryz.prog=true:=by kernel_rfl
theorem args:mapO (Yd Tryz.prog) Tryz.f11.params.toList=some [(true,ContractT.tys),(true,DoomT.tys),(false,[.int .u16]),(false,[.slice 1 [.int .u8]])]:=by kernel_rfl
theorem zgz (os:Os) (started:os.Started) (H:Type) (enc:TypeId×Value→H) :
    ReturnsInHanded {} Tryz.checked os 11 .any (fun w args=>(Rows.witnessForcesSpec.pre enc Tryz.prog Tryz.f11 [] false w args∧laidMet Tryz.prog QP w)∧sizedMet enc Tryz.prog Tryz.f11 (OpenSpec.ofChange Rows.witnessForcesSpec) false w args) (Rows.witnessForcesSpec.post enc Tryz.prog Tryz.f11 false true false false):=by
  refine returnsInHanded_of_change_and (C:=Tryz.checked) (X:=fun w _=>laidMet Tryz.prog QP w) (fun _ _ _ hh h=>h.of_heap hh) own started (by kernel_rfl) Tryz.func11
    (ChangeSpec.witness_at (enc:=enc) (C:=Tryz.checked) (os:=os) (X:=fun w _=>laidMet Tryz.prog QP w) false (WR os) #[.agg #[.int .i64 0,.slice none 0 0,.slice none 0 0,.slice none 0 0,.slice none 0 0,.int .i64 0,.slice none 0 0],.agg #[.int .i64 0,.slice none 0 0],.int .u16 0,.slice none 0 0] 8 rfl (by kernel_rfl) (by kernel_rfl) (by kernel_rfl) (by kernel_rfl) (by kernel_rfl) (W3 os _)) ?_
  intro W base args ds gs before hval hW _ hwt hL _
  exact Ye (Cx:=C0) (tb:=4) 238 rfl LWitnessForces.args rfl (by kernel_rfl) rfl
    (fun ds h=>by match ds,h with | [_,_,_,_],_=>rfl) LWitnessForces.laid (by kernel_rfl) LWitnessForces.all W (YK hL) base args ds gs before hval hW hwt
theorem zje:Rows.WitnessForcesSaid:=
  OpenClaim.holds_of_wide 11 Tryz.f11 rfl rfl rfl rfl rfl rfl rfl ⟨rfl,rfl,rfl,rfl,rfl⟩ rfl rfl rfl rfl rfl (by kernel_rfl) Tryz.func11 (by kernel_rfl)
    (of_decide_eq_true (by kernel_rfl)) (by unfold Func.isWrapper;first | (rw [if_pos (by decide +kernel)];kernel_rfl) | (rw [if_neg (by decide +kernel)];exact ⟨rfl,rfl⟩))
    (fun os started H enc _=>zgz os started H enc)
theorem holds:Rows.WitnessForcesCardSaid:=
  Claim7.holds_tied_plain_at .later [] [.data, .data, .data] true (true, "b058ca6a5d8bd6675ccef3ced02f7ff2ab9252a87f4ffe3492fe47a417083e47") false
    zje (fun _ h=>by cases h) (by kernel_rfl) (fun _ h=>by cases h) witnessForces_row_tie rfl ⟨rfl,rfl⟩ (by kernel_rfl) rfl
    (fun f fn hf hfn=>by
      obtain rfl : f = 11 := Option.some.inj ((show Tryz.prog.funcNamed "estoppel/estoppellaw22.WitnessForces" = some 11 by kernel_rfl).symm.trans hf) |>.symm
      obtain rfl:fn=Tryz.f11:=(Option.some.inj (Tryz.func11.symm.trans hfn)).symm
      refine ⟨by kernel_rfl,fun j t ht => ?_⟩
      have hall:(Tryz.f11.params.toList.all fun t=>!(Tryz.prog.wantsStandIn t))=true:=by kernel_rfl
      have:=List.all_eq_true.1 hall t (by rw [Array.mem_toList_iff];exact Array.mem_of_getElem? ht)
      have h2:Tryz.prog.wantsStandIn t=false:=by simpa using this
      exact h2)
    (by kernel_rfl)
end Go.Proofs.YtmoedieenlaegaaGreatDoor.LWitnessForces
namespace Go.Proofs.YtmoedieenlaegaaGreatDoor
theorem witnessForces_holds:Rows.WitnessForcesCardSaid:=LWitnessForces.holds
end Go.Proofs.YtmoedieenlaegaaGreatDoor
