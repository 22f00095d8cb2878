/-
  'WitnessGuards': for every input the call returns true, and each argument reads afterwards as it read before.
  The tables of the library that the rows list: from the row's condition to what the contracts ask; the witness.
  A party that takes the moves of a shield never comes into breach.
  'witness.Shield' and 'witness.Doom': what they return; sizes.
  The fixed examples of the laws of layer 22: 'head' returns true. Printed by mkheads.py.
-/
import Derived.Test.YtmoedieenlaegaaGreatDoorWG11
import Derived.Test.YtmoedieenlaegaaGreatDoorRows
import Derived.Test.YtmoedieenlaegaaGreatDoorWG10
import Derived.LaidLaws
import Derived.LaidSub
import Derived.Deep.DeepLaidRun
import Derived.Lib.LaidTab
import Derived.JoinedOf
import Derived.Test.YtmoedieenlaegaaGreatDoorWG06
import Derived.Test.YtmoedieenlaegaaGreatDoorTie
import Derived.Test.YtmoedieenlaegaaGreatDoorCards
import Derived.SevenTiedAt
namespace Go.Proofs.YtmoedieenlaegaaGreatDoor
set_option linter.unusedSimpArgs false
set_option linter.unusedVariables false
set_option maxRecDepth 100000
noncomputable def yV (c:ContractT) (party:Int) (p:PosT):Option (ShieldT×Int):=
  (Option.bind (Xx c party p) fun r1=>(bif (r1.2 == 0) then (Option.bind (YE c r1.1) fun r2=>(Option.bind (ze r2 0) fun e1=>(bif e1 then (Option.bind (forR (σ:=(List ShieldRowT)) (ρ:=Unit) (r1.1.positions.length:Int) (fun i1 s1=>(Option.bind (Option.bind (ze r1.1.positions (i1:Int)) fun e2=>(Option.bind (ze r2 (i1:Int)) fun e3=>(bif e3 then (Option.bind (Z6 r1.1 r2 (i1:Int)) fun r3=>(Option.bind (zS (α:=ShieldRowT) 96 s1 [({position:=e2,move:=r3}:ShieldRowT)]) fun e4=>some e4)) else some s1))) fun (v1:(List ShieldRowT))=>some (.inl v1))) []) (Sum.elim (fun (s1:(List ShieldRowT))=>some (({party:=party,rows:=s1}:ShieldT),0)) (fun _=>none))) else some (({party:=0,rows:=[]}:ShieldT),13)))) else some (({party:=0,rows:=[]}:ShieldT),r1.2)))
theorem zaW (c:ContractT) (party:Int) (p:PosT):Le (yV c party p) (vz c party p):=by
  unfold yV vz
  repeat' (first | with_reducible exact Le.refl _ | with_reducible exact KH _ _ _ | with_reducible exact zeY _ _ | with_reducible refine Le.bind ?_ (fun _ => ?_) | with_reducible refine Le.cond _ ?_ ?_ | with_reducible refine Le.forR (fun _ _ => ?_) _ _ | with_reducible refine Le.iter (fun _ => ?_) _ _ | with_reducible refine Le.elim (fun _ => ?_) (fun _ => ?_) _)
noncomputable def QR (c:ContractT) (party:Int) (p:PosT):Option (DoomT×Int):=
  (Option.bind (Xx c party p) fun r1=>(bif (r1.2 == 0) then (Option.bind (QQ c r1.1) fun r2=>(Option.bind (ze r2 0) fun e1=>(bif decide (e1 < 0) then some (({party:=0,rows:=[]}:DoomT),13) else (Option.bind (forR (σ:=(List DoomRowT)) (ρ:=Unit) (r1.1.positions.length:Int) (fun i1 s1=>(Option.bind (Option.bind (ze r1.1.positions (i1:Int)) fun e2=>(Option.bind (ze r2 (i1:Int)) fun e3=>(bif decide (0≤e3) then (Option.bind (ze r2 (i1:Int)) fun e4=>(Option.bind (Z7 r1.1 r2 (i1:Int)) fun r3=>(Option.bind (zS (α:=DoomRowT) 104 s1 [({position:=e2,rank:=e4,move:=r3}:DoomRowT)]) fun e5=>some e5))) else some s1))) fun (v1:(List DoomRowT))=>some (.inl v1))) []) (Sum.elim (fun (s1:(List DoomRowT))=>some (({party:=party,rows:=s1}:DoomT),0)) (fun _=>none)))))) else some (({party:=0,rows:=[]}:DoomT),r1.2)))
theorem zdE (c:ContractT) (party:Int) (p:PosT):Le (QR c party p) (kE c party p):=by
  unfold QR kE
  repeat' (first | with_reducible exact Le.refl _ | with_reducible exact KH _ _ _ | with_reducible exact YD _ _ | with_reducible refine Le.bind ?_ (fun _ => ?_) | with_reducible refine Le.cond _ ?_ ?_ | with_reducible refine Le.forR (fun _ _ => ?_) _ _ | with_reducible refine Le.iter (fun _ => ?_) _ _ | with_reducible refine Le.elim (fun _ => ?_) (fun _ => ?_) _)
noncomputable def Wa (c:ContractT) (party:Int) (p:PosT):Option ((List Int)×Int):=
  (Option.bind (jp c party p) fun r1=>(bif r1 then (Option.bind (Option.bind (yI c party p) fun r2=>(Option.bind (bif p.own then (Option.bind (js p.state) fun r3=>(Option.bind (zS (α:=Int) 8 [] [(-2)]) fun e1=>some e1)) else some []) fun (v1:(List Int))=>(bif decide (c.days≤p.state.day) then some v1 else (Option.bind (bif p.own then some v1 else (Option.bind (yv c p.state (-1)) fun r4=>(Option.bind (zS (α:=Int) 8 v1 [(-1)]) fun e2=>some e2))) fun (v2:(List Int))=>(Option.bind (forR (σ:=(List Int)) (ρ:=(List Int)) (c.acts.length:Int) (fun i1 s1=>(Option.bind (α:=(List Int) ⊕ (List Int)) (Option.bind (ze c.acts (i1:Int)) fun e3=>(Option.bind (bif (e3.role == (-1)) then some (-1) else (Option.bind (ze p.state.holders e3.role) fun e4=>some e4)) fun (v3:Int)=>(bif ((v3 == party) == p.own) then (Option.bind (yv c p.state (i1:Int)) fun r5=>(Option.bind (Option.bind (jB r5.1 p.state) fun r6=>(bif r6 then some (false,s1) else (Option.bind (zS (α:=Int) 8 s1 [(i1:Int)]) fun e5=>some ((!true),e5)))) fun (v4:Bool×(List Int))=>(bif v4.1 then some (.inr v4.2) else some (.inl v4.2)))) else some (.inl s1)))) (Sum.elim (fun (v5:(List Int))=>some (.inl v5)) (fun (y1:(List Int))=>some (.inr y1))))) v2) (Sum.elim (fun (s1:(List Int))=>some s1) (fun (y2:(List Int))=>some y2))))))) fun (v6:(List Int))=>some (v6,0)) else some ([],1)))
theorem zdF (c:ContractT) (party:Int) (p:PosT):Le (Wa c party p) (xp c party p):=by
  unfold Wa xp
  repeat' (first | with_reducible exact Le.refl _ | with_reducible exact X9 _ _ _ | with_reducible refine Le.bind ?_ (fun _ => ?_) | with_reducible refine Le.cond _ ?_ ?_ | with_reducible refine Le.forR (fun _ _ => ?_) _ _ | with_reducible refine Le.iter (fun _ => ?_) _ _ | with_reducible refine Le.elim (fun _ => ?_) (fun _ => ?_) _)
noncomputable def Xy (p1:PosT) (p2:Int) (p3:ContractT) (p4:Int) (p5:List (ByteArray×Int)):Option (Int×Bool):=
  (Option.bind (bif (p2 == (-2)) then some (p1.state.day,p1.state.holders,p1.state.used,p1.state.marks) else (Option.bind (yv p3 p1.state p2) fun r1=>some (r1.1.day,r1.1.holders,r1.1.used,r1.1.marks))) fun (v1:Int×(List Int)×(List Bool)×(List MarkT))=>(Option.bind (wg ({state:=({day:=v1.1,holders:=v1.2.1,used:=v1.2.2.1,marks:=v1.2.2.2}:StateT),own:=(!(p2 == (-2)))}:PosT)) fun r2=>some (((zp r2 p5).getD 0),(zp r2 p5).isSome)))
theorem KI (p1:PosT) (p2:Int) (p3:ContractT) (p4:Int) (p5:List (ByteArray×Int)):Le (Xy p1 p2 p3 p4 p5) (wc p1 p2 p3 p4 p5):=by
  unfold Xy wc
  repeat' (first | with_reducible exact Le.refl _ | with_reducible exact X9 _ _ _ | with_reducible exact QP _ | with_reducible refine Le.bind ?_ (fun _ => ?_) | with_reducible refine Le.cond _ ?_ ?_ | with_reducible refine Le.forR (fun _ _ => ?_) _ _ | with_reducible refine Le.iter (fun _ => ?_) _ _ | with_reducible refine Le.elim (fun _ => ?_) (fun _ => ?_) _)
noncomputable def Xz (p1:PosT) (p2:ContractT) (p3:Int) (p4:List (ByteArray×Int)):Option ((List Int)):=
  (Option.bind (Wa p2 p3 p1) fun r1=>some r1.1)
theorem KJ (p1:PosT) (p2:ContractT) (p3:Int) (p4:List (ByteArray×Int)):Le (Xz p1 p2 p3 p4) (vA p1 p2 p3 p4):=by
  unfold Xz vA
  repeat' (first | with_reducible exact Le.refl _ | with_reducible exact zdF _ _ _ | with_reducible refine Le.bind ?_ (fun _ => ?_) | with_reducible refine Le.cond _ ?_ ?_ | with_reducible refine Le.forR (fun _ _ => ?_) _ _ | with_reducible refine Le.iter (fun _ => ?_) _ _ | with_reducible refine Le.elim (fun _ => ?_) (fun _ => ?_) _)
noncomputable def XA (p1:Int) (p2:PosT) (p3:ContractT) (p4:Int) (p5:List (ByteArray×Int)):Option (Bool):=
  (Option.bind (Xy p2 p1 p3 p4 p5) fun r1=>some (!r1.2))
theorem KL (p1:Int) (p2:PosT) (p3:ContractT) (p4:Int) (p5:List (ByteArray×Int)):Le (XA p1 p2 p3 p4 p5) (wd p1 p2 p3 p4 p5):=by
  unfold XA wd
  repeat' (first | with_reducible exact Le.refl _ | with_reducible exact KI _ _ _ _ _ | with_reducible refine Le.bind ?_ (fun _ => ?_) | with_reducible refine Le.cond _ ?_ ?_ | with_reducible refine Le.forR (fun _ _ => ?_) _ _ | with_reducible refine Le.iter (fun _ => ?_) _ _ | with_reducible refine Le.elim (fun _ => ?_) (fun _ => ?_) _)
noncomputable def zaX (p1:List Int) (p2:PosT) (p3:ContractT) (p4:Int) (p5:List (ByteArray×Int)):Option (Int):=
  (Option.bind (forR (σ:=Unit) (ρ:=Int) (p1.length:Int) (fun i1 s1=>(Option.bind (zm p1.length (i1:Int)) fun k1=>(Option.bind (p1[k1]?) fun e1=>(Option.bind (XA e1 p2 p3 p4 p5) fun r1=>(bif r1 then some (.inr (i1:Int)) else some (.inl ())))))) ()) (Sum.elim (fun (s1:Unit)=>some (-1)) (fun (y1:Int)=>some y1)))
theorem zgr (p1:List Int) (p2:PosT) (p3:ContractT) (p4:Int) (p5:List (ByteArray×Int)):Le (zaX p1 p2 p3 p4 p5) (QE p1 p2 p3 p4 p5):=by
  unfold zaX QE
  repeat' (first | with_reducible exact Le.refl _ | with_reducible exact KL _ _ _ _ _ | with_reducible refine Le.bind ?_ (fun _ => ?_) | with_reducible refine Le.cond _ ?_ ?_ | with_reducible refine Le.forR (fun _ _ => ?_) _ _ | with_reducible refine Le.iter (fun _ => ?_) _ _ | with_reducible refine Le.elim (fun _ => ?_) (fun _ => ?_) _)
noncomputable def zaY (p1:List Int) (p2:PosT) (p3:ContractT) (p4:Int) (p5:List (ByteArray×Int)):Option (Int):=
  (Option.bind (forR (σ:=Unit) (ρ:=Int) (p1.length:Int) (fun i1 s1=>(Option.bind (ze p1 (i1:Int)) fun e1=>(Option.bind (XA e1 p2 p3 p4 p5) fun r1=>(bif r1 then some (.inr (i1:Int)) else some (.inl ()))))) ()) (Sum.elim (fun (s1:Unit)=>some (-1)) (fun (y1:Int)=>some y1)))
theorem zgs (p1:List Int) (p2:PosT) (p3:ContractT) (p4:Int) (p5:List (ByteArray×Int)):Le (zaY p1 p2 p3 p4 p5) (QF p1 p2 p3 p4 p5):=by
  unfold zaY QF
  repeat' (first | with_reducible exact Le.refl _ | with_reducible exact KL _ _ _ _ _ | with_reducible refine Le.bind ?_ (fun _ => ?_) | with_reducible refine Le.cond _ ?_ ?_ | with_reducible refine Le.forR (fun _ _ => ?_) _ _ | with_reducible refine Le.iter (fun _ => ?_) _ _ | with_reducible refine Le.elim (fun _ => ?_) (fun _ => ?_) _)
noncomputable def zaZ (p1:List Int) (p2:PosT) (p3:ContractT) (p4:Int) (p5:List (ByteArray×Int)):Option (Bool):=
  (Option.bind (zaX p1 p2 p3 p4 p5) fun r1=>some (decide (0≤r1)))
theorem zgt (p1:List Int) (p2:PosT) (p3:ContractT) (p4:Int) (p5:List (ByteArray×Int)):Le (zaZ p1 p2 p3 p4 p5) (Zn p1 p2 p3 p4 p5):=by
  unfold zaZ Zn
  repeat' (first | with_reducible exact Le.refl _ | with_reducible exact zgr _ _ _ _ _ | with_reducible refine Le.bind ?_ (fun _ => ?_) | with_reducible refine Le.cond _ ?_ ?_ | with_reducible refine Le.forR (fun _ _ => ?_) _ _ | with_reducible refine Le.iter (fun _ => ?_) _ _ | with_reducible refine Le.elim (fun _ => ?_) (fun _ => ?_) _)
noncomputable def za0 (p1:List Int) (p2:PosT) (p3:ContractT) (p4:Int) (p5:List (ByteArray×Int)):Option (Bool):=
  (Option.bind (zaY p1 p2 p3 p4 p5) fun r1=>some (decide (0≤r1)))
theorem zgu (p1:List Int) (p2:PosT) (p3:ContractT) (p4:Int) (p5:List (ByteArray×Int)):Le (za0 p1 p2 p3 p4 p5) (Zo p1 p2 p3 p4 p5):=by
  unfold za0 Zo
  repeat' (first | with_reducible exact Le.refl _ | with_reducible exact zgs _ _ _ _ _ | with_reducible refine Le.bind ?_ (fun _ => ?_) | with_reducible refine Le.cond _ ?_ ?_ | with_reducible refine Le.forR (fun _ _ => ?_) _ _ | with_reducible refine Le.iter (fun _ => ?_) _ _ | with_reducible refine Le.elim (fun _ => ?_) (fun _ => ?_) _)
noncomputable def YF (p1:ShieldW) (p2:Int) (p3:ContractT) (p4:Int) (p5:List (ByteArray×Int)):Option (Bool):=
  (Option.bind (ze p1.s.rows p2) fun e1=>(Option.bind (qW p3 e1.position.state p4) fun r1=>(bif r1 then some false else (Option.bind (Xz e1.position p3 p4 p5) fun r2=>(bif e1.position.own then (Option.bind (jM r2 e1.move) fun r3=>(bif r3 then (Option.bind (zaZ [e1.move] e1.position p3 p4 p5) fun r4=>some (!r4)) else some false)) else (Option.bind (za0 r2 e1.position p3 p4 p5) fun r5=>some (!r5)))))))
theorem zeZ (p1:ShieldW) (p2:Int) (p3:ContractT) (p4:Int) (p5:List (ByteArray×Int)):Le (YF p1 p2 p3 p4 p5) (yl p1 p2 p3 p4 p5):=by
  unfold YF yl
  repeat' (first | with_reducible exact Le.refl _ | with_reducible exact KJ _ _ _ _ | with_reducible exact zgt _ _ _ _ _ | with_reducible exact zgu _ _ _ _ _ | with_reducible refine Le.bind ?_ (fun _ => ?_) | with_reducible refine Le.cond _ ?_ ?_ | with_reducible refine Le.forR (fun _ _ => ?_) _ _ | with_reducible refine Le.iter (fun _ => ?_) _ _ | with_reducible refine Le.elim (fun _ => ?_) (fun _ => ?_) _)
noncomputable def YG (p1:ContractT) (p2:ShieldW):Option (Bool):=
  (Option.bind (Z8 p2) fun r1=>(Option.bind (bif decide (r1 < 0) then some true else (bif decide (p1.parties≤r1) then some true else (Option.bind (jt p2) fun r2=>(bif decide (r2 < 1) then some true else (Option.bind (jt p2) fun r3=>some (decide (1500 < r3))))))) fun v1=>(bif v1 then some false else (Option.bind (jt p2) fun r4=>(Option.bind (forR (σ:=(List (ByteArray×Int))) (ρ:=Unit) r4 (fun i1 s1=>(Option.bind (α:=(List (ByteArray×Int)) ⊕ Unit) (Option.bind (kF p2 (i1:Int)) fun r5=>(Option.bind (qJ p1 r5.1.state) fun r6=>(bif r6 then (Option.bind (wg r5.1) fun r7=>(Option.bind (bif ((zp r7 s1).isSome) then some (decide (r5.2 < ((zp r7 s1).getD 0))) else some true) fun v2=>(bif v2 then some (.inl (z8 r7 r5.2 s1)) else some (.inl s1)))) else some (.inr ())))) (Sum.elim (fun (v3:(List (ByteArray×Int)))=>some (.inl v3)) (fun (y1:Unit)=>some (.inr ()))))) []) (Sum.elim (fun (s1:(List (ByteArray×Int)))=>(Option.bind (jt p2) fun r8=>(Option.bind (forR (σ:=Unit) (ρ:=Unit) r8 (fun i2 s2=>(Option.bind (YF p2 (i2:Int) p1 r1 s1) fun r9=>(bif r9 then some (.inl ()) else some (.inr ())))) ()) (Sum.elim (fun (s2:Unit)=>some true) (fun (y3:Unit)=>some false))))) (fun (y2:Unit)=>some false)))))))
theorem ze0 (p1:ContractT) (p2:ShieldW):Le (YG p1 p2) (kG p1 p2):=by
  unfold YG kG
  repeat' (first | with_reducible exact Le.refl _ | with_reducible exact QP _ | with_reducible exact zeZ _ _ _ _ _ | with_reducible refine Le.bind ?_ (fun _ => ?_) | with_reducible refine Le.cond _ ?_ ?_ | with_reducible refine Le.forR (fun _ _ => ?_) _ _ | with_reducible refine Le.iter (fun _ => ?_) _ _ | with_reducible refine Le.elim (fun _ => ?_) (fun _ => ?_) _)
noncomputable def jR (c:ContractT) (s:ShieldT):Option (Bool):=
  (Option.bind (YG c ({s:=s}:ShieldW)) fun r1=>some r1)
theorem Wb (c:ContractT) (s:ShieldT):Le (jR c s) (qt c s):=by
  unfold jR qt
  repeat' (first | with_reducible exact Le.refl _ | with_reducible exact ze0 _ _ | with_reducible refine Le.bind ?_ (fun _ => ?_) | with_reducible refine Le.cond _ ?_ ?_ | with_reducible refine Le.forR (fun _ _ => ?_) _ _ | with_reducible refine Le.iter (fun _ => ?_) _ _ | with_reducible refine Le.elim (fun _ => ?_) (fun _ => ?_) _)
noncomputable def XB (p1:PosT) (p2:Int) (p3:Int) (p4:ContractT) (p5:Int) (p6:List (ByteArray×Int)):Option (Bool):=
  (Option.bind (Xy p1 p2 p4 p5 p6) fun r1=>(Option.bind (bif r1.2 then some (decide (r1.1 < p3)) else some false) fun v1=>some v1))
theorem KM (p1:PosT) (p2:Int) (p3:Int) (p4:ContractT) (p5:Int) (p6:List (ByteArray×Int)):Le (XB p1 p2 p3 p4 p5 p6) (yn p1 p2 p3 p4 p5 p6):=by
  unfold XB yn
  repeat' (first | with_reducible exact Le.refl _ | with_reducible exact KI _ _ _ _ _ | with_reducible refine Le.bind ?_ (fun _ => ?_) | with_reducible refine Le.cond _ ?_ ?_ | with_reducible refine Le.forR (fun _ _ => ?_) _ _ | with_reducible refine Le.iter (fun _ => ?_) _ _ | with_reducible refine Le.elim (fun _ => ?_) (fun _ => ?_) _)
noncomputable def YH (p1:Int) (p2:PosT) (p3:Int) (p4:ContractT) (p5:Int) (p6:List (ByteArray×Int)):Option (Bool):=
  (Option.bind (XB p2 p1 p3 p4 p5 p6) fun r1=>some (!r1))
theorem ze1 (p1:Int) (p2:PosT) (p3:Int) (p4:ContractT) (p5:Int) (p6:List (ByteArray×Int)):Le (YH p1 p2 p3 p4 p5 p6) (Qa p1 p2 p3 p4 p5 p6):=by
  unfold YH Qa
  repeat' (first | with_reducible exact Le.refl _ | with_reducible exact KM _ _ _ _ _ _ | with_reducible refine Le.bind ?_ (fun _ => ?_) | with_reducible refine Le.cond _ ?_ ?_ | with_reducible refine Le.forR (fun _ _ => ?_) _ _ | with_reducible refine Le.iter (fun _ => ?_) _ _ | with_reducible refine Le.elim (fun _ => ?_) (fun _ => ?_) _)
noncomputable def za1 (p1:List Int) (p2:PosT) (p3:Int) (p4:ContractT) (p5:Int) (p6:List (ByteArray×Int)):Option (Int):=
  (Option.bind (forR (σ:=Unit) (ρ:=Int) (p1.length:Int) (fun i1 s1=>(Option.bind (ze p1 (i1:Int)) fun e1=>(Option.bind (YH e1 p2 p3 p4 p5 p6) fun r1=>(bif r1 then some (.inr (i1:Int)) else some (.inl ()))))) ()) (Sum.elim (fun (s1:Unit)=>some (-1)) (fun (y1:Int)=>some y1)))
theorem zgv (p1:List Int) (p2:PosT) (p3:Int) (p4:ContractT) (p5:Int) (p6:List (ByteArray×Int)):Le (za1 p1 p2 p3 p4 p5 p6) (Xg p1 p2 p3 p4 p5 p6):=by
  unfold za1 Xg
  repeat' (first | with_reducible exact Le.refl _ | with_reducible exact ze1 _ _ _ _ _ _ | with_reducible refine Le.bind ?_ (fun _ => ?_) | with_reducible refine Le.cond _ ?_ ?_ | with_reducible refine Le.forR (fun _ _ => ?_) _ _ | with_reducible refine Le.iter (fun _ => ?_) _ _ | with_reducible refine Le.elim (fun _ => ?_) (fun _ => ?_) _)
noncomputable def za2 (p1:List Int) (p2:PosT) (p3:Int) (p4:ContractT) (p5:Int) (p6:List (ByteArray×Int)):Option (Bool):=
  (Option.bind (za1 p1 p2 p3 p4 p5 p6) fun r1=>some (decide (0≤r1)))
theorem zgw (p1:List Int) (p2:PosT) (p3:Int) (p4:ContractT) (p5:Int) (p6:List (ByteArray×Int)):Le (za2 p1 p2 p3 p4 p5 p6) (Xh p1 p2 p3 p4 p5 p6):=by
  unfold za2 Xh
  repeat' (first | with_reducible exact Le.refl _ | with_reducible exact zgv _ _ _ _ _ _ | with_reducible refine Le.bind ?_ (fun _ => ?_) | with_reducible refine Le.cond _ ?_ ?_ | with_reducible refine Le.forR (fun _ _ => ?_) _ _ | with_reducible refine Le.iter (fun _ => ?_) _ _ | with_reducible refine Le.elim (fun _ => ?_) (fun _ => ?_) _)
noncomputable def YI (p1:DoomW) (p2:Int) (p3:ContractT) (p4:Int) (p5:List (ByteArray×Int)):Option (Bool):=
  (Option.bind (ze p1.d.rows p2) fun e1=>(bif decide (e1.rank≤0) then (Option.bind (bif (e1.rank == 0) then (Option.bind (qW p3 e1.position.state p4) fun r1=>some r1) else some false) fun v1=>some v1) else (Option.bind (Xz e1.position p3 p4 p5) fun r2=>(bif e1.position.own then (Option.bind (za2 r2 e1.position e1.rank p3 p4 p5) fun r5=>some (!r5)) else (Option.bind (Option.bind (jM r2 e1.move) fun r3=>(bif r3 then (Option.bind (XB e1.position e1.move e1.rank p3 p4 p5) fun r4=>some r4) else some false)) fun v2=>some v2)))))
theorem ze2 (p1:DoomW) (p2:Int) (p3:ContractT) (p4:Int) (p5:List (ByteArray×Int)):Le (YI p1 p2 p3 p4 p5) (Qb p1 p2 p3 p4 p5):=by
  unfold YI Qb
  repeat' (first | with_reducible exact Le.refl _ | with_reducible exact KJ _ _ _ _ | with_reducible exact zgw _ _ _ _ _ _ | with_reducible exact KM _ _ _ _ _ _ | with_reducible refine Le.bind ?_ (fun _ => ?_) | with_reducible refine Le.cond _ ?_ ?_ | with_reducible refine Le.forR (fun _ _ => ?_) _ _ | with_reducible refine Le.iter (fun _ => ?_) _ _ | with_reducible refine Le.elim (fun _ => ?_) (fun _ => ?_) _)
noncomputable def YJ (p1:ContractT) (p2:DoomW):Option (Bool):=
  (Option.bind (Z9 p2) fun r1=>(Option.bind (bif decide (r1 < 0) then some true else (bif decide (p1.parties≤r1) then some true else (Option.bind (jN p2) fun r2=>(bif decide (r2 < 1) then some true else (Option.bind (jN p2) fun r3=>some (decide (1500 < r3))))))) fun v1=>(bif v1 then some false else (Option.bind (jN p2) fun r4=>(Option.bind (forR (σ:=(List (ByteArray×Int))) (ρ:=Unit) r4 (fun i1 s1=>(Option.bind (α:=(List (ByteArray×Int)) ⊕ Unit) (Option.bind (X0 p2 (i1:Int)) fun r5=>(Option.bind (qJ p1 r5.1.state) fun r6=>(bif r6 then (Option.bind (wg r5.1) fun r7=>(Option.bind (bif ((zp r7 s1).isSome) then some (decide (r5.2 < ((zp r7 s1).getD 0))) else some true) fun v2=>(bif v2 then some (.inl (z8 r7 r5.2 s1)) else some (.inl s1)))) else some (.inr ())))) (Sum.elim (fun (v3:(List (ByteArray×Int)))=>some (.inl v3)) (fun (y1:Unit)=>some (.inr ()))))) []) (Sum.elim (fun (s1:(List (ByteArray×Int)))=>(Option.bind (jN p2) fun r8=>(Option.bind (forR (σ:=Unit) (ρ:=Unit) r8 (fun i2 s2=>(Option.bind (YI p2 (i2:Int) p1 r1 s1) fun r9=>(bif r9 then some (.inl ()) else some (.inr ())))) ()) (Sum.elim (fun (s2:Unit)=>some true) (fun (y3:Unit)=>some false))))) (fun (y2:Unit)=>some false)))))))
theorem ze3 (p1:ContractT) (p2:DoomW):Le (YJ p1 p2) (Qc p1 p2):=by
  unfold YJ Qc
  repeat' (first | with_reducible exact Le.refl _ | with_reducible exact QP _ | with_reducible exact ze2 _ _ _ _ _ | with_reducible refine Le.bind ?_ (fun _ => ?_) | with_reducible refine Le.cond _ ?_ ?_ | with_reducible refine Le.forR (fun _ _ => ?_) _ _ | with_reducible refine Le.iter (fun _ => ?_) _ _ | with_reducible refine Le.elim (fun _ => ?_) (fun _ => ?_) _)
noncomputable def vg (c:ContractT) (d:DoomT):Option (Bool):=
  (Option.bind (YJ c ({d:=d}:DoomW)) fun r1=>some r1)
theorem YK (c:ContractT) (d:DoomT):Le (vg c d) (jX c d):=by
  unfold vg jX
  repeat' (first | with_reducible exact Le.refl _ | with_reducible exact ze3 _ _ | with_reducible refine Le.bind ?_ (fun _ => ?_) | with_reducible refine Le.cond _ ?_ ?_ | with_reducible refine Le.forR (fun _ _ => ?_) _ _ | with_reducible refine Le.iter (fun _ => ?_) _ _ | with_reducible refine Le.elim (fun _ => ?_) (fun _ => ?_) _)
noncomputable def YL:Option (Bool):=
  (Option.bind (ke) fun r1=>(Option.bind (X8 r1) fun r2=>(Option.bind (yV r1 0 ({state:=r2.1,own:=true}:PosT)) fun r3=>(Option.bind (QR r1 0 ({state:=r2.1,own:=true}:PosT)) fun r4=>(Option.bind (QR r1 0 ({state:=r2.1,own:=false}:PosT)) fun r5=>(Option.bind (yV r1 0 ({state:=r2.1,own:=false}:PosT)) fun r6=>(Option.bind (bif (r2.2 == 0) then (bif (r3.2 == 0) then (bif (r4.2 == 13) then (bif (r5.2 == 0) then (bif (r6.2 == 13) then (bif ((r3.1.rows.length:Int) == 5) then some (!((r5.1.rows.length:Int) == 3)) else some true) else some true) else some true) else some true) else some true) else some true) fun v1=>(bif v1 then some false else (Option.bind (Option.bind (ze r3.1.rows 0) fun e1=>(bif (e1.move == 0) then (Option.bind (ze r3.1.rows 1) fun e2=>(bif (e2.move == (-2)) then (Option.bind (ze r5.1.rows 0) fun e3=>(bif (e3.rank == 1) then (bif (e3.move == (-1)) then (Option.bind (ze r5.1.rows 1) fun e4=>some (e4.rank == 0)) else some false) else some false)) else some false)) else some false)) fun v2=>(Option.bind (Option.bind (jR r1 r3.1) fun r7=>(bif r7 then (Option.bind (vg r1 r5.1) fun r8=>some r8) else some false)) fun v3=>(Option.bind (yY r3.1.rows 0 4) fun e5=>(Option.bind (VY (α:=DoomRowT) 104 [] r5.1.rows) fun e6=>(Option.bind (zm e6.length 0) fun k1=>(Option.bind (e6[k1]?) fun e7=>(Option.bind (bif v2 then (bif v3 then (Option.bind (jR r1 ({party:=0,rows:=e5}:ShieldT)) fun r9=>(bif r9 then some false else (Option.bind (vg r1 ({party:=0,rows:=(e6.set k1 ({e7 with move:=0}:DoomRowT))}:DoomT)) fun r10=>(bif r10 then some false else (Option.bind (jR r1 ({party:=0,rows:=[]}:ShieldT)) fun r11=>some (!r11)))))) else some false) else some false) fun v4=>some v4)))))))))))))))
theorem zcF:Le YL yo:=by
  unfold YL yo
  repeat' (first | with_reducible exact Le.refl _ | with_reducible exact zdD _ | with_reducible exact zaW _ _ _ | with_reducible exact zdE _ _ _ | with_reducible exact Wb _ _ | with_reducible exact YK _ _ | with_reducible refine Le.bind ?_ (fun _ => ?_) | with_reducible refine Le.cond _ ?_ ?_ | with_reducible refine Le.elim (fun _ => ?_) (fun _ => ?_) _)
theorem zdG:yo=some true:=zcF true (by kernel_rfl)
end Go.Proofs.YtmoedieenlaegaaGreatDoor
namespace Go.Proofs.YtmoedieenlaegaaGreatDoor
open Go.RowKit
set_option linter.unusedSimpArgs false
set_option linter.unusedVariables false
set_option maxRecDepth 100000
section
theorem YM {b:Bool}:kc (fun _:Unit=>True) (fun _:Unit=>True) (bif b then (.inr ():Unit ⊕ Unit) else .inl ()):=by cases b<;>trivial
theorem ze4 {c:ContractT} (hc:c.Ok) (s:ShieldT) (d:DoomT):Ret (QG c s d) (fun b=>b=true→s.rows.length≤300∧d.rows.length≤300):=by
  unfold QG
  refine Ret.bindE (v := !(Vq c&&(decide (s.rows.length≤300)&&decide (d.rows.length≤300)))) ?_ ?_
  · rw [zgj hc]
    simp only [Option.bind_some]
    cases Vq c with
    | false=>rfl
    | true=>
      by_cases h1:(300:Int) < (s.rows.length:Int)
      · rw [decide_eq_true h1,decide_eq_false (show ¬ s.rows.length≤300 by omega)];rfl
      · rw [decide_eq_false h1,decide_eq_true (show s.rows.length≤300 by omega)]
        by_cases h2:(300:Int) < (d.rows.length:Int)
        · rw [decide_eq_true h2,decide_eq_false (show ¬ d.rows.length≤300 by omega)];rfl
        · rw [decide_eq_false h2,decide_eq_true (show d.rows.length≤300 by omega)];rfl
  refine Ret.ite (fun _=>Ret.some fun h=>by cases h) (fun hb => ?_)
  simp only [Bool.not_eq_false',Bool.and_eq_true,decide_eq_true_eq] at hb
  obtain ⟨_,h1,h2⟩:=hb
  refine Ret.bind (P:=fun _=>True) (Ret.forL (fun _ _=>True) (by omega) trivial (fun i _ hi _ => ?_) (fun _ _=>trivial)) ?_
  · refine Ret.bindE (zZ (List.getElem?_eq_getElem hi)) ?_
    simp only [zj,Option.bind_some]
    exact Ret.some YM
  · rintro (_ | _) _
    · simp only [Sum.elim_inl]
      refine Ret.bind (P:=fun _=>True) (Ret.forL (fun _ _=>True) (by omega) trivial (fun i _ hi _ => ?_) (fun _ _=>trivial)) ?_
      · refine Ret.bindE (zZ (List.getElem?_eq_getElem hi)) ?_
        simp only [zj,Option.bind_some]
        exact Ret.some YM
      · rintro (_ | _) _
        · exact Ret.some fun _=>⟨h1,h2⟩
        · exact Ret.some fun h=>by cases h
    · exact Ret.some fun h=>by cases h
theorem ze5 {α:Type} {l:List α} (h:0 < l.length) {raw:Int} (hraw:InK .u16 raw):∃ (i:Nat) (hi:i < l.length) (n:Int),xa .i64 (IntKind.i64.wrap raw) (l.length:Int)=some n∧ze l n=some l[i]:=by
  have hraw':0≤raw∧raw≤65535:=hraw
  rw [jh (by omega) (by omega)]
  have h3:0≤raw.tmod l.length:=Int.tmod_nonneg _ hraw'.1
  have h4:raw.tmod l.length < l.length:=Int.tmod_lt_of_pos _ (by omega)
  obtain ⟨h5,h6⟩:=qI (l:=l) h3 h4
  exact ⟨_,h5,_,by unfold xa;rw [if_neg (by omega)],h6⟩
theorem zdH {α:Type} {l:List α} (h:0 < l.length) {raw:Int} (hraw:InK .u8 raw):∃ (i:Nat) (hi:i < l.length) (n:Int),xa .i64 (IntKind.i64.wrap raw) (l.length:Int)=some n∧ze l n=some l[i]:=by
  have hraw':0≤raw∧raw≤255:=hraw
  rw [jh (by omega) (by omega)]
  have h3:0≤raw.tmod l.length:=Int.tmod_nonneg _ hraw'.1
  have h4:raw.tmod l.length < l.length:=Int.tmod_lt_of_pos _ (by omega)
  obtain ⟨h5,h6⟩:=qI (l:=l) h3 h4
  exact ⟨_,h5,_,by unfold xa;rw [if_neg (by omega)],h6⟩
section
variable {c:ContractT} {party:Int} {p:PosT} {a:ArenaT}
structure DRow (c:ContractT) (party:Int) (r:DoomRowT):Prop where
  rk:r.rank=rkP c party r.position
  lo:0≤r.rank
  mv:0 < r.rank→r.position.own=false→r.move∈zB c party r.position∧0≤rkP c party (target c r.position r.move)∧rkP c party (target c r.position r.move) < r.rank
end
end
abbrev qV (s:Int×(List Int)×(List Bool)×(List MarkT)×Bool):PosT:={state:={day:=s.1,holders:=s.2.1,used:=s.2.2.1,marks:=s.2.2.2.1},own:=s.2.2.2.2}
theorem XC (c:ContractT) (s:ShieldT) (raw:Int) (choices:List Int) (hc:ContractT.Ok c) (hs:ShieldT.Ok s) (hraw:InK .u16 raw) (hch:LOk 1 (fun x:Int=>InK .u8 x) choices):we c s raw choices=some true:=by
  refine Ret.eq ?_
  have hl:s.rows.length < 4611686018427387904:=hs.rows.lt (by omega)
  have hcl:choices.length < 4611686018427387904:=hch.lt (by omega)
  unfold we
  refine Ret.bindE zdG ?_
  refine Ret.bind (P:=fun v:Bool=>v=false→ShieldP c s) ?_ ?_
  · refine Ret.bind (ze4 hc s _) fun b hb => ?_
    refine Ret.ite (fun _ => ?_) (fun _=>Ret.some fun h=>by cases h)
    refine Ret.ite (fun _=>Ret.some fun h=>by cases h) (fun _ => ?_)
    refine Ret.bindE (W5 hc s hl) ?_
    exact Ret.some fun h=>Q6.1 (by simpa using h)
  intro v hv
  refine Ret.ite (fun _=>Ret.some rfl) (fun h => ?_)
  have H:=hv h
  have h1:=H.n1
  refine Ret.ite (fun h=>absurd (beq_iff_eq.1 h) (by omega)) (fun _ => ?_)
  obtain ⟨i,hi,n,hn,hx⟩:=ze5 (l:=s.rows) (by omega) hraw
  refine Ret.bindE hn ?_
  refine Ret.bindE hx ?_
  have hmem:=List.getElem_mem hi
  generalize s.rows[i]=r at hmem
  have br:∀ q:PosT,(∃ x∈s.rows,x.position=q)→qW c q.state s.party=some false∧VS c q.state:=fun q hq=>by
    obtain ⟨x,hx,rfl⟩:=hq
    exact ⟨by rw [Yz hc (H.vs x hx) H.p0 H.p1,H.lost x hx],H.vs x hx⟩
  refine Ret.bind (P:=fun o:(Int×(List Int)×(List Bool)×(List MarkT)×Bool) ⊕ Bool=>(∃ t,o=.inl t∧∃ x∈s.rows,x.position=qV t)∨o=.inr true)
    (Ret.forL (fun _ t=>∃ x∈s.rows,x.position=qV t) hcl ⟨r,hmem,rfl⟩ (fun n t hn hI => ?_) (fun t h=>.inl ⟨t,rfl,h⟩)) ?_
  · obtain ⟨hb,hvs⟩:=br _ hI
    have hf:=hvs.few hc
    refine Ret.bind (P:=fun o:Int ⊕ Unit=>∃ (k:Nat) (hk:k < s.rows.length),o=.inl (k:Int)∧s.rows[k].position=qV t)
      (Ret.forL (fun m at_=>(at_ = -1∧∀ (j:Nat) (hj:j < s.rows.length),j < m→s.rows[j].position≠qV t)∨∃ (k:Nat) (hk:k < s.rows.length),at_=(k:Int)∧s.rows[k].position=qV t) hl (.inl ⟨rfl,fun j _ hj=>by omega⟩) (fun m at_ hm hA => ?_) (fun at_ hA => ?_)) ?_
    · refine Ret.bind (P:=fun v:Int=>(v = -1∧∀ (j:Nat) (hj:j < s.rows.length),j < m+1→s.rows[j].position≠qV t)∨∃ (k:Nat) (hk:k < s.rows.length),v=(k:Int)∧s.rows[k].position=qV t) ?_ (fun v h=>Ret.some h)
      refine Ret.bindE (zZ (List.getElem?_eq_getElem hm)) ?_
      have f1:=(H.vs _ (List.getElem_mem hm)).few hc
      refine Ret.bindE (zcB _ _ (by omega) (by omega) (by omega)) ?_
      refine Ret.ite (fun he=>Ret.some (.inr ⟨m,hm,rfl,beq_iff_eq.1 he⟩)) (fun he=>Ret.some ?_)
      rcases hA with ⟨g1,g2⟩ | g
      · refine .inl ⟨g1,fun j hj hjm => ?_⟩
        by_cases e:j=m
        · subst e;exact beq_eq_false_iff_ne.1 he
        · exact g2 j hj (by omega)
      · exact .inr g
    · rcases hA with ⟨g1,g2⟩ | ⟨k,hk,g1,g2⟩
      · exfalso
        obtain ⟨x,hx,e⟩:=hI
        obtain ⟨j,hj,rfl⟩:=List.getElem_of_mem hx
        exact g2 j hj hj e
      · exact ⟨k,hk,by rw [g1],g2⟩
    rintro _ ⟨k,hk,rfl,hkp⟩
    simp only [Sum.elim_inl]
    have hpl:yS c s.party (qV t).state=true:=yT.2 ⟨H.p0,H.p1,hvs⟩
    have hmv:xp c s.party (qV t)=some (zB c s.party (qV t),0):=by rw [KF hc,hpl];rfl
    have hml:=yU hc (party:=s.party) (e:=qV t) hvs
    refine Ret.bindE hmv ?_
    refine Ret.bindE (v:=false) ?_ ?_
    · rw [decide_eq_false (show ¬ (k:Int) < 0 by omega)]
      show Option.bind (qW c (qV t).state s.party) _=_
      rw [hb];rfl
    refine Ret.ite (fun h=>by cases h) (fun _ => ?_)
    refine Ret.ite (fun _=>Ret.some (.inr rfl)) (fun hne => ?_)
    have hne:0 < (zB c s.party (qV t)).length:=by
      have h9:((zB c s.party (qV t)).length:Int)≠0:=beq_eq_false_iff_ne.1 hne
      omega
    refine Ret.bindE (zZ (List.getElem?_eq_getElem hn)) ?_
    obtain ⟨m,hm,n2,hn2,hx2⟩:=zdH (l:=zB c s.party (qV t)) hne (hch.2 _ (List.getElem_mem hn))
    refine Ret.bindE hn2 ?_
    refine Ret.bindE hx2 ?_
    have hrow:=List.getElem_mem hk
    refine Ret.bind (P:=fun v:Int=>v∈zB c s.party (qV t)∧∃ x∈s.rows,x.position=target c (qV t) v) (Ret.ite (fun ho => ?_) (fun ho=>Ret.some ?_)) ?_
    · refine Ret.bindE (zZ (List.getElem?_eq_getElem hk)) ?_
      have:=H.own _ hrow (by rw [hkp];exact ho)
      rw [hkp] at this
      exact Ret.some this
    · have:=H.oth _ hrow (by rw [hkp];exact ho) _ (by rw [hkp];exact List.getElem_mem hm)
      rw [hkp] at this
      exact ⟨List.getElem_mem hm,this⟩
    rintro w ⟨hw,hrow2⟩
    have haf:kH c s.party (qV t) w=some (target c (qV t) w,0):=by rw [zeX hc w hpl,if_pos hw]
    refine Ret.bindE haf ?_
    refine Ret.ite (fun _=>Ret.some ?_) (fun h=>by cases h)
    exact hrow2
  · rintro _ (⟨t,rfl,hI⟩ | rfl)
    · simp only [Sum.elim_inl]
      refine Ret.bindE (v:=true) ?_ (Ret.some rfl)
      show Option.bind (qW c (qV t).state s.party) _=_
      rw [(br _ hI).1];rfl
    · exact Ret.some rfl
end Go.Proofs.YtmoedieenlaegaaGreatDoor
namespace Go.Proofs.YtmoedieenlaegaaGreatDoor
open Go.ChangeShapes Go.WideShapes Go.RowKit
set_option maxRecDepth 100000
abbrev QS : List (String × DataW Unit) := [("math/bits.deBruijn32tab", Rows.laid_math_bits_deBruijn32tab), ("math/bits.deBruijn64tab", Rows.laid_math_bits_deBruijn64tab), ("internal/strconv.uint64pow10", Rows.laid_internal_strconv_uint64pow10)]
theorem zdI:(QS.filter fun x=>x.1 == xm)=[(xm,Lib.tabData .u64 Lib.pow10Tab)]:=by kernel_rfl
theorem YN {W:World} (h:laidMet Tryz.prog QS W):C0.tabs.p W∧C0.tabs.n≤W.heap.size:=by
  have h1:=h.filter (fun x=>x.1 == xm)
  rw [zdI] at h1
  have h2:C0.tabs.p W:=Lib.tabIs_of_head (g:=0) (t:=((Tryz.prog.globals[0]?).map (·.type)).getD 0) (e:=181) (n:=20)
    (by kernel_rfl) (by kernel_rfl) (by kernel_rfl) (by kernel_rfl) (by kernel_rfl) (by kernel_rfl) h1
  exact ⟨h2,zat h2⟩
def zgx:DataW Unit→Array Value
  | .agg ds=>(ds.map fun d=>match d with | .lit (.int k n)=>Value.int k n | _=>Value.bool false).toArray
  | _ => #[]
def YO (w:World) (g:Nat) (d:DataW Unit):World:={w with heap:=w.heap.modify g fun | .cells _ t f=>.cells (zgx d) t f | o=>o}
noncomputable def WT (os:Os):World:=
  YO (YO (YO (World.holding Tryz.prog os ⟨#[],#[],[]⟩) 1 Rows.laid_math_bits_deBruijn32tab) 2 Rows.laid_math_bits_deBruijn64tab) 0 Rows.laid_internal_strconv_uint64pow10
theorem W6 (os:Os) (args:Array Value):laidMet Tryz.prog QS ((WT os).forCall (fun _ _=>0) ⟨#[],args,[]⟩).memory:=
  laidMet_of_run3 8 (by kernel_rfl) (by kernel_rfl) (by kernel_rfl)
end Go.Proofs.YtmoedieenlaegaaGreatDoor
namespace Go.Proofs.YtmoedieenlaegaaGreatDoor.LWitnessGuards
open Go.ChangeShapes Go.WideShapes Go.ChangeAt Go.RowKit
set_option linter.unusedVariables false
set_option maxRecDepth 100000
theorem all (ivs:List IV) (h:QB [(true,ContractT.tys),(true,ShieldT.tys),(false,[.int .u16]),(false,[.slice 1 [.int .u8]])] ivs):APure C0 239 ivs (.bool true):=by
  match ivs,h with
  | [x0,x1,x2,x3],⟨a0,a1,a2,a3,_⟩=>
    obtain ⟨row0,rfl,r0⟩:=a0
    obtain ⟨c,rfl,ok_c⟩:=ContractT.opn r0
    obtain ⟨row1,rfl,r1⟩:=a1
    obtain ⟨s,rfl,ok_s⟩:=ShieldT.opn r1
    obtain ⟨c2,_,e2,k2,n2⟩:=zf a2
    cases e2
    obtain ⟨raw,rfl,ok_raw⟩:=zo k2
    obtain ⟨c3,_,e3,k3,n3⟩:=zf a3
    cases e3
    obtain ⟨choices,rfl,ok_choices⟩:=zC (zbS .u8) k3
    exact Xk c s raw choices true (XC c s raw choices ok_c ok_s ok_raw ok_choices)
theorem own:ownKnob Tryz.prog.godebug=none:=by kernel_rfl
theorem laid:laidOutB Tryz.prog=true:=by kernel_rfl
theorem args:mapO (Yf Tryz.prog) Tryz.f10.params.toList=some [(true,ContractT.tys),(true,ShieldT.tys),(false,[.int .u16]),(false,[.slice 1 [.int .u8]])]:=by kernel_rfl
theorem zgy (os:Os) (started:os.Started) (H:Type) (enc:TypeId×Value→H) :
    ReturnsInHanded {} Tryz.checked os 10 .any (fun w args=>(Rows.witnessGuardsSpec.pre enc Tryz.prog Tryz.f10 [] false w args∧laidMet Tryz.prog QS w)∧sizedMet enc Tryz.prog Tryz.f10 (OpenSpec.ofChange Rows.witnessGuardsSpec) false w args) (Rows.witnessGuardsSpec.post enc Tryz.prog Tryz.f10 false true false false):=by
  refine returnsInHanded_of_change_and (C:=Tryz.checked) (X:=fun w _=>laidMet Tryz.prog QS w) (fun _ _ _ hh h=>h.of_heap hh) own started (by kernel_rfl) Tryz.func10
    (ChangeSpec.witness_at (enc:=enc) (C:=Tryz.checked) (os:=os) (X:=fun w _=>laidMet Tryz.prog QS w) false (WT os) #[.agg #[.int .i64 0,.slice none 0 0,.slice none 0 0,.slice none 0 0,.slice none 0 0,.int .i64 0,.slice none 0 0],.agg #[.int .i64 0,.slice none 0 0],.int .u16 0,.slice none 0 0] 8 rfl (by kernel_rfl) (by kernel_rfl) (by kernel_rfl) (by kernel_rfl) (by kernel_rfl) (W6 os _)) ?_
  intro W base args ds gs before hval hW _ hwt hL _
  exact Yg (Cx:=C0) (tb:=4) 239 rfl LWitnessGuards.args rfl (by kernel_rfl) rfl
    (fun ds h=>by match ds,h with | [_,_,_,_],_=>rfl) LWitnessGuards.laid (by kernel_rfl) LWitnessGuards.all W (YN hL) base args ds gs before hval hW hwt
theorem zje:Rows.WitnessGuardsSaid:=
  OpenClaim.holds_of_wide 10 Tryz.f10 rfl rfl rfl rfl rfl rfl rfl ⟨rfl,rfl,rfl,rfl,rfl⟩ rfl rfl rfl rfl rfl (by kernel_rfl) Tryz.func10 (by kernel_rfl)
    (of_decide_eq_true (by kernel_rfl)) (by unfold Func.isWrapper;first | (rw [if_pos (by decide +kernel)];kernel_rfl) | (rw [if_neg (by decide +kernel)];exact ⟨rfl,rfl⟩))
    (fun os started H enc _=>zgy os started H enc)
theorem holds:Rows.WitnessGuardsCardSaid:=
  Claim7.holds_tied_plain_at .later [] [.data, .data, .data] true (true, "b058ca6a5d8bd6675ccef3ced02f7ff2ab9252a87f4ffe3492fe47a417083e47") false
    zje (fun _ h=>by cases h) (by kernel_rfl) (fun _ h=>by cases h) witnessGuards_row_tie rfl ⟨rfl,rfl⟩ (by kernel_rfl) rfl
    (fun f fn hf hfn=>by
      obtain rfl : f = 10 := Option.some.inj ((show Tryz.prog.funcNamed "estoppel/estoppellaw22.WitnessGuards" = some 10 by kernel_rfl).symm.trans hf) |>.symm
      obtain rfl:fn=Tryz.f10:=(Option.some.inj (Tryz.func10.symm.trans hfn)).symm
      refine ⟨by kernel_rfl,fun j t ht => ?_⟩
      have hall:(Tryz.f10.params.toList.all fun t=>!(Tryz.prog.wantsStandIn t))=true:=by kernel_rfl
      have:=List.all_eq_true.1 hall t (by rw [Array.mem_toList_iff];exact Array.mem_of_getElem? ht)
      have h2:Tryz.prog.wantsStandIn t=false:=by simpa using this
      exact h2)
    (by kernel_rfl)
end Go.Proofs.YtmoedieenlaegaaGreatDoor.LWitnessGuards
namespace Go.Proofs.YtmoedieenlaegaaGreatDoor
theorem witnessGuards_holds:Rows.WitnessGuardsCardSaid:=LWitnessGuards.holds
end Go.Proofs.YtmoedieenlaegaaGreatDoor
