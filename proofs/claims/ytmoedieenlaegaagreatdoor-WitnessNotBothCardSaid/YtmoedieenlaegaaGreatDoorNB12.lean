/-
  'WitnessNotBoth': for every input the call returns true, and each argument reads afterwards as it read before.
  The tables of the library that the rows list: from the row's condition to what the contracts ask; the witness.
  No position belongs to a shield and to a doom.
  'witness.Shield' and 'witness.Doom': what they return; sizes.
  The fixed examples of the laws of layer 22: 'head' returns true. Printed by mkheads.py.
-/
import Derived.Test.YtmoedieenlaegaaGreatDoorNB11
import Derived.Test.YtmoedieenlaegaaGreatDoorRows
import Derived.Test.YtmoedieenlaegaaGreatDoorNB10
import Derived.LaidLaws
import Derived.LaidSub
import Derived.Deep.DeepLaidRun
import Derived.Lib.LaidTab
import Derived.JoinedOf
import Derived.Test.YtmoedieenlaegaaGreatDoorNB06
import Derived.Test.YtmoedieenlaegaaGreatDoorTie
import Derived.Test.YtmoedieenlaegaaGreatDoorCards
import Derived.SevenTiedAt
namespace Go.Proofs.YtmoedieenlaegaaGreatDoor
set_option linter.unusedSimpArgs false
set_option linter.unusedVariables false
set_option maxRecDepth 100000
noncomputable def yL (c:ContractT) (party:Int) (p:PosT):Option (ShieldT×Int):=
  (Option.bind (Xu c party p) fun r1=>(bif (r1.2 == 0) then (Option.bind (Yz c r1.1) fun r2=>(Option.bind (ze r2 0) fun e1=>(bif e1 then (Option.bind (forR (σ:=(List ShieldRowT)) (ρ:=Unit) (r1.1.positions.length:Int) (fun i1 s1=>(Option.bind (Option.bind (ze r1.1.positions (i1:Int)) fun e2=>(Option.bind (ze r2 (i1:Int)) fun e3=>(bif e3 then (Option.bind (ZZ r1.1 r2 (i1:Int)) fun r3=>(Option.bind (zS (α:=ShieldRowT) 96 s1 [({position:=e2,move:=r3}:ShieldRowT)]) fun e4=>some e4)) else some s1))) fun (v1:(List ShieldRowT))=>some (.inl v1))) []) (Sum.elim (fun (s1:(List ShieldRowT))=>some (({party:=party,rows:=s1}:ShieldT),0)) (fun _=>none))) else some (({party:=0,rows:=[]}:ShieldT),13)))) else some (({party:=0,rows:=[]}:ShieldT),r1.2)))
theorem zaW (c:ContractT) (party:Int) (p:PosT):Le (yL c party p) (vr c party p):=by
  unfold yL vr
  repeat' (first | with_reducible exact Le.refl _ | with_reducible exact KG _ _ _ | with_reducible exact zeX _ _ | with_reducible refine Le.bind ?_ (fun _ => ?_) | with_reducible refine Le.cond _ ?_ ?_ | with_reducible refine Le.forR (fun _ _ => ?_) _ _ | with_reducible refine Le.iter (fun _ => ?_) _ _ | with_reducible refine Le.elim (fun _ => ?_) (fun _ => ?_) _)
noncomputable def QO (c:ContractT) (party:Int) (p:PosT):Option (DoomT×Int):=
  (Option.bind (Xu c party p) fun r1=>(bif (r1.2 == 0) then (Option.bind (QN c r1.1) fun r2=>(Option.bind (ze r2 0) fun e1=>(bif decide (e1 < 0) then some (({party:=0,rows:=[]}:DoomT),13) else (Option.bind (forR (σ:=(List DoomRowT)) (ρ:=Unit) (r1.1.positions.length:Int) (fun i1 s1=>(Option.bind (Option.bind (ze r1.1.positions (i1:Int)) fun e2=>(Option.bind (ze r2 (i1:Int)) fun e3=>(bif decide (0≤e3) then (Option.bind (ze r2 (i1:Int)) fun e4=>(Option.bind (Z0 r1.1 r2 (i1:Int)) fun r3=>(Option.bind (zS (α:=DoomRowT) 104 s1 [({position:=e2,rank:=e4,move:=r3}:DoomRowT)]) fun e5=>some e5))) else some s1))) fun (v1:(List DoomRowT))=>some (.inl v1))) []) (Sum.elim (fun (s1:(List DoomRowT))=>some (({party:=party,rows:=s1}:DoomT),0)) (fun _=>none)))))) else some (({party:=0,rows:=[]}:DoomT),r1.2)))
theorem zdI (c:ContractT) (party:Int) (p:PosT):Le (QO c party p) (ku c party p):=by
  unfold QO ku
  repeat' (first | with_reducible exact Le.refl _ | with_reducible exact KG _ _ _ | with_reducible exact Yy _ _ | with_reducible refine Le.bind ?_ (fun _ => ?_) | with_reducible refine Le.cond _ ?_ ?_ | with_reducible refine Le.forR (fun _ _ => ?_) _ _ | with_reducible refine Le.iter (fun _ => ?_) _ _ | with_reducible refine Le.elim (fun _ => ?_) (fun _ => ?_) _)
noncomputable def X5 (c:ContractT) (party:Int) (p:PosT):Option ((List Int)×Int):=
  (Option.bind (jH c party p) fun r1=>(bif r1 then (Option.bind (Option.bind (J9 c party p) fun r2=>(Option.bind (bif p.own then (Option.bind (jI p.state) fun r3=>(Option.bind (zS (α:=Int) 8 [] [(-2)]) fun e1=>some e1)) else some []) fun (v1:(List Int))=>(bif decide (c.days≤p.state.day) then some v1 else (Option.bind (bif p.own then some v1 else (Option.bind (yo c p.state (-1)) fun r4=>(Option.bind (zS (α:=Int) 8 v1 [(-1)]) fun e2=>some e2))) fun (v2:(List Int))=>(Option.bind (forR (σ:=(List Int)) (ρ:=(List Int)) (c.acts.length:Int) (fun i1 s1=>(Option.bind (α:=(List Int) ⊕ (List Int)) (Option.bind (ze c.acts (i1:Int)) fun e3=>(Option.bind (bif (e3.role == (-1)) then some (-1) else (Option.bind (ze p.state.holders e3.role) fun e4=>some e4)) fun (v3:Int)=>(bif ((v3 == party) == p.own) then (Option.bind (yo c p.state (i1:Int)) fun r5=>(Option.bind (Option.bind (xg r5.1 p.state) fun r6=>(bif r6 then some (false,s1) else (Option.bind (zS (α:=Int) 8 s1 [(i1:Int)]) fun e5=>some ((!true),e5)))) fun (v4:Bool×(List Int))=>(bif v4.1 then some (.inr v4.2) else some (.inl v4.2)))) else some (.inl s1)))) (Sum.elim (fun (v5:(List Int))=>some (.inl v5)) (fun (y1:(List Int))=>some (.inr y1))))) v2) (Sum.elim (fun (s1:(List Int))=>some s1) (fun (y2:(List Int))=>some y2))))))) fun (v6:(List Int))=>some (v6,0)) else some ([],1)))
theorem zdJ (c:ContractT) (party:Int) (p:PosT):Le (X5 c party p) (xT c party p):=by
  unfold X5 xT
  repeat' (first | with_reducible exact Le.refl _ | with_reducible exact X4 _ _ _ | with_reducible refine Le.bind ?_ (fun _ => ?_) | with_reducible refine Le.cond _ ?_ ?_ | with_reducible refine Le.forR (fun _ _ => ?_) _ _ | with_reducible refine Le.iter (fun _ => ?_) _ _ | with_reducible refine Le.elim (fun _ => ?_) (fun _ => ?_) _)
noncomputable def Xv (p1:PosT) (p2:Int) (p3:ContractT) (p4:Int) (p5:List (ByteArray×Int)):Option (Int×Bool):=
  (Option.bind (bif (p2 == (-2)) then some (p1.state.day,p1.state.holders,p1.state.used,p1.state.marks) else (Option.bind (yo p3 p1.state p2) fun r1=>some (r1.1.day,r1.1.holders,r1.1.used,r1.1.marks))) fun (v1:Int×(List Int)×(List Bool)×(List MarkT))=>(Option.bind (we ({state:=({day:=v1.1,holders:=v1.2.1,used:=v1.2.2.1,marks:=v1.2.2.2}:StateT),own:=(!(p2 == (-2)))}:PosT)) fun r2=>some (((zp r2 p5).getD 0),(zp r2 p5).isSome)))
theorem KH (p1:PosT) (p2:Int) (p3:ContractT) (p4:Int) (p5:List (ByteArray×Int)):Le (Xv p1 p2 p3 p4 p5) (wa p1 p2 p3 p4 p5):=by
  unfold Xv wa
  repeat' (first | with_reducible exact Le.refl _ | with_reducible exact X4 _ _ _ | with_reducible exact QM _ | with_reducible refine Le.bind ?_ (fun _ => ?_) | with_reducible refine Le.cond _ ?_ ?_ | with_reducible refine Le.forR (fun _ _ => ?_) _ _ | with_reducible refine Le.iter (fun _ => ?_) _ _ | with_reducible refine Le.elim (fun _ => ?_) (fun _ => ?_) _)
noncomputable def Xw (p1:PosT) (p2:ContractT) (p3:Int) (p4:List (ByteArray×Int)):Option ((List Int)):=
  (Option.bind (X5 p2 p3 p1) fun r1=>some r1.1)
theorem KI (p1:PosT) (p2:ContractT) (p3:Int) (p4:List (ByteArray×Int)):Le (Xw p1 p2 p3 p4) (x9 p1 p2 p3 p4):=by
  unfold Xw x9
  repeat' (first | with_reducible exact Le.refl _ | with_reducible exact zdJ _ _ _ | with_reducible refine Le.bind ?_ (fun _ => ?_) | with_reducible refine Le.cond _ ?_ ?_ | with_reducible refine Le.forR (fun _ _ => ?_) _ _ | with_reducible refine Le.iter (fun _ => ?_) _ _ | with_reducible refine Le.elim (fun _ => ?_) (fun _ => ?_) _)
noncomputable def Xx (p1:Int) (p2:PosT) (p3:ContractT) (p4:Int) (p5:List (ByteArray×Int)):Option (Bool):=
  (Option.bind (Xv p2 p1 p3 p4 p5) fun r1=>some (!r1.2))
theorem KJ (p1:Int) (p2:PosT) (p3:ContractT) (p4:Int) (p5:List (ByteArray×Int)):Le (Xx p1 p2 p3 p4 p5) (wb p1 p2 p3 p4 p5):=by
  unfold Xx wb
  repeat' (first | with_reducible exact Le.refl _ | with_reducible exact KH _ _ _ _ _ | with_reducible refine Le.bind ?_ (fun _ => ?_) | with_reducible refine Le.cond _ ?_ ?_ | with_reducible refine Le.forR (fun _ _ => ?_) _ _ | with_reducible refine Le.iter (fun _ => ?_) _ _ | with_reducible refine Le.elim (fun _ => ?_) (fun _ => ?_) _)
noncomputable def zaX (p1:List Int) (p2:PosT) (p3:ContractT) (p4:Int) (p5:List (ByteArray×Int)):Option (Int):=
  (Option.bind (forR (σ:=Unit) (ρ:=Int) (p1.length:Int) (fun i1 s1=>(Option.bind (zm p1.length (i1:Int)) fun k1=>(Option.bind (p1[k1]?) fun e1=>(Option.bind (Xx e1 p2 p3 p4 p5) fun r1=>(bif r1 then some (.inr (i1:Int)) else some (.inl ())))))) ()) (Sum.elim (fun (s1:Unit)=>some (-1)) (fun (y1:Int)=>some y1)))
theorem zgq (p1:List Int) (p2:PosT) (p3:ContractT) (p4:Int) (p5:List (ByteArray×Int)):Le (zaX p1 p2 p3 p4 p5) (Qz p1 p2 p3 p4 p5):=by
  unfold zaX Qz
  repeat' (first | with_reducible exact Le.refl _ | with_reducible exact KJ _ _ _ _ _ | with_reducible refine Le.bind ?_ (fun _ => ?_) | with_reducible refine Le.cond _ ?_ ?_ | with_reducible refine Le.forR (fun _ _ => ?_) _ _ | with_reducible refine Le.iter (fun _ => ?_) _ _ | with_reducible refine Le.elim (fun _ => ?_) (fun _ => ?_) _)
noncomputable def zaY (p1:List Int) (p2:PosT) (p3:ContractT) (p4:Int) (p5:List (ByteArray×Int)):Option (Int):=
  (Option.bind (forR (σ:=Unit) (ρ:=Int) (p1.length:Int) (fun i1 s1=>(Option.bind (ze p1 (i1:Int)) fun e1=>(Option.bind (Xx e1 p2 p3 p4 p5) fun r1=>(bif r1 then some (.inr (i1:Int)) else some (.inl ()))))) ()) (Sum.elim (fun (s1:Unit)=>some (-1)) (fun (y1:Int)=>some y1)))
theorem zgr (p1:List Int) (p2:PosT) (p3:ContractT) (p4:Int) (p5:List (ByteArray×Int)):Le (zaY p1 p2 p3 p4 p5) (QA p1 p2 p3 p4 p5):=by
  unfold zaY QA
  repeat' (first | with_reducible exact Le.refl _ | with_reducible exact KJ _ _ _ _ _ | with_reducible refine Le.bind ?_ (fun _ => ?_) | with_reducible refine Le.cond _ ?_ ?_ | with_reducible refine Le.forR (fun _ _ => ?_) _ _ | with_reducible refine Le.iter (fun _ => ?_) _ _ | with_reducible refine Le.elim (fun _ => ?_) (fun _ => ?_) _)
noncomputable def zaZ (p1:List Int) (p2:PosT) (p3:ContractT) (p4:Int) (p5:List (ByteArray×Int)):Option (Bool):=
  (Option.bind (zaX p1 p2 p3 p4 p5) fun r1=>some (decide (0≤r1)))
theorem zgs (p1:List Int) (p2:PosT) (p3:ContractT) (p4:Int) (p5:List (ByteArray×Int)):Le (zaZ p1 p2 p3 p4 p5) (Zf p1 p2 p3 p4 p5):=by
  unfold zaZ Zf
  repeat' (first | with_reducible exact Le.refl _ | with_reducible exact zgq _ _ _ _ _ | with_reducible refine Le.bind ?_ (fun _ => ?_) | with_reducible refine Le.cond _ ?_ ?_ | with_reducible refine Le.forR (fun _ _ => ?_) _ _ | with_reducible refine Le.iter (fun _ => ?_) _ _ | with_reducible refine Le.elim (fun _ => ?_) (fun _ => ?_) _)
noncomputable def za0 (p1:List Int) (p2:PosT) (p3:ContractT) (p4:Int) (p5:List (ByteArray×Int)):Option (Bool):=
  (Option.bind (zaY p1 p2 p3 p4 p5) fun r1=>some (decide (0≤r1)))
theorem zgt (p1:List Int) (p2:PosT) (p3:ContractT) (p4:Int) (p5:List (ByteArray×Int)):Le (za0 p1 p2 p3 p4 p5) (Zg p1 p2 p3 p4 p5):=by
  unfold za0 Zg
  repeat' (first | with_reducible exact Le.refl _ | with_reducible exact zgr _ _ _ _ _ | with_reducible refine Le.bind ?_ (fun _ => ?_) | with_reducible refine Le.cond _ ?_ ?_ | with_reducible refine Le.forR (fun _ _ => ?_) _ _ | with_reducible refine Le.iter (fun _ => ?_) _ _ | with_reducible refine Le.elim (fun _ => ?_) (fun _ => ?_) _)
noncomputable def YA (p1:ShieldW) (p2:Int) (p3:ContractT) (p4:Int) (p5:List (ByteArray×Int)):Option (Bool):=
  (Option.bind (ze p1.s.rows p2) fun e1=>(Option.bind (xD p3 e1.position.state p4) fun r1=>(bif r1 then some false else (Option.bind (Xw e1.position p3 p4 p5) fun r2=>(bif e1.position.own then (Option.bind (jK r2 e1.move) fun r3=>(bif r3 then (Option.bind (zaZ [e1.move] e1.position p3 p4 p5) fun r4=>some (!r4)) else some false)) else (Option.bind (za0 r2 e1.position p3 p4 p5) fun r5=>some (!r5)))))))
theorem zeY (p1:ShieldW) (p2:Int) (p3:ContractT) (p4:Int) (p5:List (ByteArray×Int)):Le (YA p1 p2 p3 p4 p5) (yf p1 p2 p3 p4 p5):=by
  unfold YA yf
  repeat' (first | with_reducible exact Le.refl _ | with_reducible exact KI _ _ _ _ | with_reducible exact zgs _ _ _ _ _ | with_reducible exact zgt _ _ _ _ _ | with_reducible refine Le.bind ?_ (fun _ => ?_) | with_reducible refine Le.cond _ ?_ ?_ | with_reducible refine Le.forR (fun _ _ => ?_) _ _ | with_reducible refine Le.iter (fun _ => ?_) _ _ | with_reducible refine Le.elim (fun _ => ?_) (fun _ => ?_) _)
noncomputable def YB (p1:ContractT) (p2:ShieldW):Option (Bool):=
  (Option.bind (Z2 p2) fun r1=>(Option.bind (bif decide (r1 < 0) then some true else (bif decide (p1.parties≤r1) then some true else (Option.bind (jo p2) fun r2=>(bif decide (r2 < 1) then some true else (Option.bind (jo p2) fun r3=>some (decide (1500 < r3))))))) fun v1=>(bif v1 then some false else (Option.bind (jo p2) fun r4=>(Option.bind (forR (σ:=(List (ByteArray×Int))) (ρ:=Unit) r4 (fun i1 s1=>(Option.bind (α:=(List (ByteArray×Int)) ⊕ Unit) (Option.bind (kw p2 (i1:Int)) fun r5=>(Option.bind (qH p1 r5.1.state) fun r6=>(bif r6 then (Option.bind (we r5.1) fun r7=>(Option.bind (bif ((zp r7 s1).isSome) then some (decide (r5.2 < ((zp r7 s1).getD 0))) else some true) fun v2=>(bif v2 then some (.inl (z8 r7 r5.2 s1)) else some (.inl s1)))) else some (.inr ())))) (Sum.elim (fun (v3:(List (ByteArray×Int)))=>some (.inl v3)) (fun (y1:Unit)=>some (.inr ()))))) []) (Sum.elim (fun (s1:(List (ByteArray×Int)))=>(Option.bind (jo p2) fun r8=>(Option.bind (forR (σ:=Unit) (ρ:=Unit) r8 (fun i2 s2=>(Option.bind (YA p2 (i2:Int) p1 r1 s1) fun r9=>(bif r9 then some (.inl ()) else some (.inr ())))) ()) (Sum.elim (fun (s2:Unit)=>some true) (fun (y3:Unit)=>some false))))) (fun (y2:Unit)=>some false)))))))
theorem zeZ (p1:ContractT) (p2:ShieldW):Le (YB p1 p2) (kx p1 p2):=by
  unfold YB kx
  repeat' (first | with_reducible exact Le.refl _ | with_reducible exact QM _ | with_reducible exact zeY _ _ _ _ _ | with_reducible refine Le.bind ?_ (fun _ => ?_) | with_reducible refine Le.cond _ ?_ ?_ | with_reducible refine Le.forR (fun _ _ => ?_) _ _ | with_reducible refine Le.iter (fun _ => ?_) _ _ | with_reducible refine Le.elim (fun _ => ?_) (fun _ => ?_) _)
noncomputable def jM (c:ContractT) (s:ShieldT):Option (Bool):=
  (Option.bind (YB c ({s:=s}:ShieldW)) fun r1=>some r1)
theorem X6 (c:ContractT) (s:ShieldT):Le (jM c s) (qt c s):=by
  unfold jM qt
  repeat' (first | with_reducible exact Le.refl _ | with_reducible exact zeZ _ _ | with_reducible refine Le.bind ?_ (fun _ => ?_) | with_reducible refine Le.cond _ ?_ ?_ | with_reducible refine Le.forR (fun _ _ => ?_) _ _ | with_reducible refine Le.iter (fun _ => ?_) _ _ | with_reducible refine Le.elim (fun _ => ?_) (fun _ => ?_) _)
noncomputable def Xy (p1:PosT) (p2:Int) (p3:Int) (p4:ContractT) (p5:Int) (p6:List (ByteArray×Int)):Option (Bool):=
  (Option.bind (Xv p1 p2 p4 p5 p6) fun r1=>(Option.bind (bif r1.2 then some (decide (r1.1 < p3)) else some false) fun v1=>some v1))
theorem KL (p1:PosT) (p2:Int) (p3:Int) (p4:ContractT) (p5:Int) (p6:List (ByteArray×Int)):Le (Xy p1 p2 p3 p4 p5 p6) (wc p1 p2 p3 p4 p5 p6):=by
  unfold Xy wc
  repeat' (first | with_reducible exact Le.refl _ | with_reducible exact KH _ _ _ _ _ | with_reducible refine Le.bind ?_ (fun _ => ?_) | with_reducible refine Le.cond _ ?_ ?_ | with_reducible refine Le.forR (fun _ _ => ?_) _ _ | with_reducible refine Le.iter (fun _ => ?_) _ _ | with_reducible refine Le.elim (fun _ => ?_) (fun _ => ?_) _)
noncomputable def YC (p1:Int) (p2:PosT) (p3:Int) (p4:ContractT) (p5:Int) (p6:List (ByteArray×Int)):Option (Bool):=
  (Option.bind (Xy p2 p1 p3 p4 p5 p6) fun r1=>some (!r1))
theorem ze0 (p1:Int) (p2:PosT) (p3:Int) (p4:ContractT) (p5:Int) (p6:List (ByteArray×Int)):Le (YC p1 p2 p3 p4 p5 p6) (kz p1 p2 p3 p4 p5 p6):=by
  unfold YC kz
  repeat' (first | with_reducible exact Le.refl _ | with_reducible exact KL _ _ _ _ _ _ | with_reducible refine Le.bind ?_ (fun _ => ?_) | with_reducible refine Le.cond _ ?_ ?_ | with_reducible refine Le.forR (fun _ _ => ?_) _ _ | with_reducible refine Le.iter (fun _ => ?_) _ _ | with_reducible refine Le.elim (fun _ => ?_) (fun _ => ?_) _)
noncomputable def za1 (p1:List Int) (p2:PosT) (p3:Int) (p4:ContractT) (p5:Int) (p6:List (ByteArray×Int)):Option (Int):=
  (Option.bind (forR (σ:=Unit) (ρ:=Int) (p1.length:Int) (fun i1 s1=>(Option.bind (ze p1 (i1:Int)) fun e1=>(Option.bind (YC e1 p2 p3 p4 p5 p6) fun r1=>(bif r1 then some (.inr (i1:Int)) else some (.inl ()))))) ()) (Sum.elim (fun (s1:Unit)=>some (-1)) (fun (y1:Int)=>some y1)))
theorem zgu (p1:List Int) (p2:PosT) (p3:Int) (p4:ContractT) (p5:Int) (p6:List (ByteArray×Int)):Le (za1 p1 p2 p3 p4 p5 p6) (QB p1 p2 p3 p4 p5 p6):=by
  unfold za1 QB
  repeat' (first | with_reducible exact Le.refl _ | with_reducible exact ze0 _ _ _ _ _ _ | with_reducible refine Le.bind ?_ (fun _ => ?_) | with_reducible refine Le.cond _ ?_ ?_ | with_reducible refine Le.forR (fun _ _ => ?_) _ _ | with_reducible refine Le.iter (fun _ => ?_) _ _ | with_reducible refine Le.elim (fun _ => ?_) (fun _ => ?_) _)
noncomputable def za2 (p1:List Int) (p2:PosT) (p3:Int) (p4:ContractT) (p5:Int) (p6:List (ByteArray×Int)):Option (Bool):=
  (Option.bind (za1 p1 p2 p3 p4 p5 p6) fun r1=>some (decide (0≤r1)))
theorem zgv (p1:List Int) (p2:PosT) (p3:Int) (p4:ContractT) (p5:Int) (p6:List (ByteArray×Int)):Le (za2 p1 p2 p3 p4 p5 p6) (Zi p1 p2 p3 p4 p5 p6):=by
  unfold za2 Zi
  repeat' (first | with_reducible exact Le.refl _ | with_reducible exact zgu _ _ _ _ _ _ | with_reducible refine Le.bind ?_ (fun _ => ?_) | with_reducible refine Le.cond _ ?_ ?_ | with_reducible refine Le.forR (fun _ _ => ?_) _ _ | with_reducible refine Le.iter (fun _ => ?_) _ _ | with_reducible refine Le.elim (fun _ => ?_) (fun _ => ?_) _)
noncomputable def YD (p1:DoomW) (p2:Int) (p3:ContractT) (p4:Int) (p5:List (ByteArray×Int)):Option (Bool):=
  (Option.bind (ze p1.d.rows p2) fun e1=>(bif decide (e1.rank≤0) then (Option.bind (bif (e1.rank == 0) then (Option.bind (xD p3 e1.position.state p4) fun r1=>some r1) else some false) fun v1=>some v1) else (Option.bind (Xw e1.position p3 p4 p5) fun r2=>(bif e1.position.own then (Option.bind (za2 r2 e1.position e1.rank p3 p4 p5) fun r5=>some (!r5)) else (Option.bind (Option.bind (jK r2 e1.move) fun r3=>(bif r3 then (Option.bind (Xy e1.position e1.move e1.rank p3 p4 p5) fun r4=>some r4) else some false)) fun v2=>some v2)))))
theorem ze1 (p1:DoomW) (p2:Int) (p3:ContractT) (p4:Int) (p5:List (ByteArray×Int)):Le (YD p1 p2 p3 p4 p5) (yg p1 p2 p3 p4 p5):=by
  unfold YD yg
  repeat' (first | with_reducible exact Le.refl _ | with_reducible exact KI _ _ _ _ | with_reducible exact zgv _ _ _ _ _ _ | with_reducible exact KL _ _ _ _ _ _ | with_reducible refine Le.bind ?_ (fun _ => ?_) | with_reducible refine Le.cond _ ?_ ?_ | with_reducible refine Le.forR (fun _ _ => ?_) _ _ | with_reducible refine Le.iter (fun _ => ?_) _ _ | with_reducible refine Le.elim (fun _ => ?_) (fun _ => ?_) _)
noncomputable def YE (p1:ContractT) (p2:DoomW):Option (Bool):=
  (Option.bind (Z3 p2) fun r1=>(Option.bind (bif decide (r1 < 0) then some true else (bif decide (p1.parties≤r1) then some true else (Option.bind (jp p2) fun r2=>(bif decide (r2 < 1) then some true else (Option.bind (jp p2) fun r3=>some (decide (1500 < r3))))))) fun v1=>(bif v1 then some false else (Option.bind (jp p2) fun r4=>(Option.bind (forR (σ:=(List (ByteArray×Int))) (ρ:=Unit) r4 (fun i1 s1=>(Option.bind (α:=(List (ByteArray×Int)) ⊕ Unit) (Option.bind (ky p2 (i1:Int)) fun r5=>(Option.bind (qH p1 r5.1.state) fun r6=>(bif r6 then (Option.bind (we r5.1) fun r7=>(Option.bind (bif ((zp r7 s1).isSome) then some (decide (r5.2 < ((zp r7 s1).getD 0))) else some true) fun v2=>(bif v2 then some (.inl (z8 r7 r5.2 s1)) else some (.inl s1)))) else some (.inr ())))) (Sum.elim (fun (v3:(List (ByteArray×Int)))=>some (.inl v3)) (fun (y1:Unit)=>some (.inr ()))))) []) (Sum.elim (fun (s1:(List (ByteArray×Int)))=>(Option.bind (jp p2) fun r8=>(Option.bind (forR (σ:=Unit) (ρ:=Unit) r8 (fun i2 s2=>(Option.bind (YD p2 (i2:Int) p1 r1 s1) fun r9=>(bif r9 then some (.inl ()) else some (.inr ())))) ()) (Sum.elim (fun (s2:Unit)=>some true) (fun (y3:Unit)=>some false))))) (fun (y2:Unit)=>some false)))))))
theorem ze2 (p1:ContractT) (p2:DoomW):Le (YE p1 p2) (kA p1 p2):=by
  unfold YE kA
  repeat' (first | with_reducible exact Le.refl _ | with_reducible exact QM _ | with_reducible exact ze1 _ _ _ _ _ | with_reducible refine Le.bind ?_ (fun _ => ?_) | with_reducible refine Le.cond _ ?_ ?_ | with_reducible refine Le.forR (fun _ _ => ?_) _ _ | with_reducible refine Le.iter (fun _ => ?_) _ _ | with_reducible refine Le.elim (fun _ => ?_) (fun _ => ?_) _)
noncomputable def wX (c:ContractT) (d:DoomT):Option (Bool):=
  (Option.bind (YE c ({d:=d}:DoomW)) fun r1=>some r1)
theorem YF (c:ContractT) (d:DoomT):Le (wX c d) (qM c d):=by
  unfold wX qM
  repeat' (first | with_reducible exact Le.refl _ | with_reducible exact ze2 _ _ | with_reducible refine Le.bind ?_ (fun _ => ?_) | with_reducible refine Le.cond _ ?_ ?_ | with_reducible refine Le.forR (fun _ _ => ?_) _ _ | with_reducible refine Le.iter (fun _ => ?_) _ _ | with_reducible refine Le.elim (fun _ => ?_) (fun _ => ?_) _)
noncomputable def YG:Option (Bool):=
  (Option.bind (yU) fun r1=>(Option.bind (X3 r1) fun r2=>(Option.bind (yL r1 0 ({state:=r2.1,own:=true}:PosT)) fun r3=>(Option.bind (QO r1 0 ({state:=r2.1,own:=true}:PosT)) fun r4=>(Option.bind (QO r1 0 ({state:=r2.1,own:=false}:PosT)) fun r5=>(Option.bind (yL r1 0 ({state:=r2.1,own:=false}:PosT)) fun r6=>(Option.bind (bif (r2.2 == 0) then (bif (r3.2 == 0) then (bif (r4.2 == 13) then (bif (r5.2 == 0) then (bif (r6.2 == 13) then (bif ((r3.1.rows.length:Int) == 5) then some (!((r5.1.rows.length:Int) == 3)) else some true) else some true) else some true) else some true) else some true) else some true) fun v1=>(bif v1 then some false else (Option.bind (Option.bind (ze r3.1.rows 0) fun e1=>(bif (e1.move == 0) then (Option.bind (ze r3.1.rows 1) fun e2=>(bif (e2.move == (-2)) then (Option.bind (ze r5.1.rows 0) fun e3=>(bif (e3.rank == 1) then (bif (e3.move == (-1)) then (Option.bind (ze r5.1.rows 1) fun e4=>some (e4.rank == 0)) else some false) else some false)) else some false)) else some false)) fun v2=>(Option.bind (Option.bind (jM r1 r3.1) fun r7=>(bif r7 then (Option.bind (wX r1 r5.1) fun r8=>some r8) else some false)) fun v3=>(Option.bind (yO r3.1.rows 0 4) fun e5=>(Option.bind (VU (α:=DoomRowT) 104 [] r5.1.rows) fun e6=>(Option.bind (zm e6.length 0) fun k1=>(Option.bind (e6[k1]?) fun e7=>(Option.bind (bif v2 then (bif v3 then (Option.bind (jM r1 ({party:=0,rows:=e5}:ShieldT)) fun r9=>(bif r9 then some false else (Option.bind (wX r1 ({party:=0,rows:=(e6.set k1 ({e7 with move:=0}:DoomRowT))}:DoomT)) fun r10=>(bif r10 then some false else (Option.bind (jM r1 ({party:=0,rows:=[]}:ShieldT)) fun r11=>some (!r11)))))) else some false) else some false) fun v4=>some v4)))))))))))))))
theorem zcE:Le YG yh:=by
  unfold YG yh
  repeat' (first | with_reducible exact Le.refl _ | with_reducible exact zdH _ | with_reducible exact zaW _ _ _ | with_reducible exact zdI _ _ _ | with_reducible exact X6 _ _ | with_reducible exact YF _ _ | with_reducible refine Le.bind ?_ (fun _ => ?_) | with_reducible refine Le.cond _ ?_ ?_ | with_reducible refine Le.elim (fun _ => ?_) (fun _ => ?_) _)
theorem zdK:yh=some true:=zcE true (by kernel_rfl)
end Go.Proofs.YtmoedieenlaegaaGreatDoor
namespace Go.Proofs.YtmoedieenlaegaaGreatDoor
open Go.RowKit
set_option linter.unusedSimpArgs false
set_option linter.unusedVariables false
set_option maxRecDepth 100000
section
theorem YH {b:Bool}:yS (fun _:Unit=>True) (fun _:Unit=>True) (bif b then (.inr ():Unit ⊕ Unit) else .inl ()):=by cases b<;>trivial
theorem ze3 {c:ContractT} (hc:c.Ok) (s:ShieldT) (d:DoomT):Ret (QC c s d) (fun b=>b=true→s.rows.length≤300∧d.rows.length≤300):=by
  unfold QC
  refine Ret.bindE (v := !(Vl c&&(decide (s.rows.length≤300)&&decide (d.rows.length≤300)))) ?_ ?_
  · rw [zgh hc]
    simp only [Option.bind_some]
    cases Vl c with
    | false=>rfl
    | true=>
      by_cases h1:(300:Int) < (s.rows.length:Int)
      · rw [decide_eq_true h1,decide_eq_false (show ¬ s.rows.length≤300 by omega)];rfl
      · rw [decide_eq_false h1,decide_eq_true (show s.rows.length≤300 by omega)]
        by_cases h2:(300:Int) < (d.rows.length:Int)
        · rw [decide_eq_true h2,decide_eq_false (show ¬ d.rows.length≤300 by omega)];rfl
        · rw [decide_eq_false h2,decide_eq_true (show d.rows.length≤300 by omega)];rfl
  refine Ret.ite (fun _=>Ret.some fun h=>by cases h) (fun hb => ?_)
  simp only [Bool.not_eq_false',Bool.and_eq_true,decide_eq_true_eq] at hb
  obtain ⟨_,h1,h2⟩:=hb
  refine Ret.bind (P:=fun _=>True) (Ret.forL (fun _ _=>True) (by omega) trivial (fun i _ hi _ => ?_) (fun _ _=>trivial)) ?_
  · refine Ret.bindE (zZ (List.getElem?_eq_getElem hi)) ?_
    simp only [zj,Option.bind_some]
    exact Ret.some YH
  · rintro (_ | _) _
    · simp only [Sum.elim_inl]
      refine Ret.bind (P:=fun _=>True) (Ret.forL (fun _ _=>True) (by omega) trivial (fun i _ hi _ => ?_) (fun _ _=>trivial)) ?_
      · refine Ret.bindE (zZ (List.getElem?_eq_getElem hi)) ?_
        simp only [zj,Option.bind_some]
        exact Ret.some YH
      · rintro (_ | _) _
        · exact Ret.some fun _=>⟨h1,h2⟩
        · exact Ret.some fun h=>by cases h
    · exact Ret.some fun h=>by cases h
section
variable {c:ContractT} {party:Int} {p:PosT} {a:ArenaT}
structure DRow (c:ContractT) (party:Int) (r:DoomRowT):Prop where
  rk:r.rank=rkP c party r.position
  lo:0≤r.rank
  mv:0 < r.rank→r.position.own=false→r.move∈zz c party r.position∧0≤rkP c party (target c r.position r.move)∧rkP c party (target c r.position r.move) < r.rank
end
end
theorem Jp (c:ContractT) (s:ShieldT) (d:DoomT) (hc:ContractT.Ok c) (hs:ShieldT.Ok s) (hd:DoomT.Ok d):xE c s d=some true:=by
  refine Ret.eq ?_
  have l1:s.rows.length < 4611686018427387904:=hs.rows.lt (by omega)
  have l2:d.rows.length < 4611686018427387904:=hd.rows.lt (by omega)
  unfold xE
  refine Ret.bindE zdK ?_
  refine Ret.bind (P:=fun v:Bool=>v=false→s.party=d.party∧ShieldP c s∧DoomP c d) ?_ ?_
  · refine Ret.bind (ze3 hc s d) fun b hb => ?_
    refine Ret.ite (fun _ => ?_) (fun _=>Ret.some fun h=>by cases h)
    refine Ret.ite (fun he => ?_) (fun _=>Ret.some fun h=>by cases h)
    refine Ret.bindE (W0 hc s l1) ?_
    refine Ret.ite (fun h1 => ?_) (fun _=>Ret.some fun h=>by cases h)
    refine Ret.bindE (Ka hc d l2) ?_
    exact Ret.some fun h=>⟨beq_iff_eq.1 he,Q2.1 h1,WO.1 (by simpa using h)⟩
  intro v hv
  refine Ret.ite (fun _=>Ret.some rfl) (fun h => ?_)
  obtain ⟨he,hS,hD⟩:=hv h
  refine Ret.bind (P:=fun o:Unit ⊕ Unit=>o=.inl ()) (Ret.forL (fun _ _=>True) l1 trivial (fun i _ hi _ => ?_) (fun _ _=>rfl)) ?_
  · refine Ret.bind (P:=fun o:Unit ⊕ Unit=>o=.inl ()) (Ret.forL (fun _ _=>True) l2 trivial (fun k _ hk _ => ?_) (fun _ _=>rfl)) ?_
    · have m1:=List.getElem_mem hi
      have m2:=List.getElem_mem hk
      have f1:=(hS.vs _ m1).few hc
      refine Ret.bindE (zZ (List.getElem?_eq_getElem hi)) ?_
      refine Ret.bindE (zZ (List.getElem?_eq_getElem hk)) ?_
      refine Ret.bindE (zcz _ _ (by omega) (by omega) (by omega)) ?_
      rw [beq_eq_false_iff_ne.2 (zdD hS hD he m1 m2)]
      exact Ret.some trivial
    · rintro _ rfl
      exact Ret.some trivial
  · rintro _ rfl
    exact Ret.some rfl
end Go.Proofs.YtmoedieenlaegaaGreatDoor
namespace Go.Proofs.YtmoedieenlaegaaGreatDoor
open Go.ChangeShapes Go.WideShapes Go.RowKit
set_option maxRecDepth 100000
abbrev QP : List (String × DataW Unit) := [("math/bits.deBruijn32tab", Rows.laid_math_bits_deBruijn32tab), ("math/bits.deBruijn64tab", Rows.laid_math_bits_deBruijn64tab), ("internal/strconv.uint64pow10", Rows.laid_internal_strconv_uint64pow10)]
theorem zdL:(QP.filter fun x=>x.1 == xd)=[(xd,Lib.tabData .u64 Lib.pow10Tab)]:=by kernel_rfl
theorem YI {W:World} (h:laidMet Tryz.prog QP W):C0.tabs.p W∧C0.tabs.n≤W.heap.size:=by
  have h1:=h.filter (fun x=>x.1 == xd)
  rw [zdL] at h1
  have h2:C0.tabs.p W:=Lib.tabIs_of_head (g:=0) (t:=((Tryz.prog.globals[0]?).map (·.type)).getD 0) (e:=181) (n:=20)
    (by kernel_rfl) (by kernel_rfl) (by kernel_rfl) (by kernel_rfl) (by kernel_rfl) (by kernel_rfl) h1
  exact ⟨h2,zas h2⟩
def zgw:DataW Unit→Array Value
  | .agg ds=>(ds.map fun d=>match d with | .lit (.int k n)=>Value.int k n | _=>Value.bool false).toArray
  | _ => #[]
def YJ (w:World) (g:Nat) (d:DataW Unit):World:={w with heap:=w.heap.modify g fun | .cells _ t f=>.cells (zgw d) t f | o=>o}
noncomputable def WP (os:Os):World:=
  YJ (YJ (YJ (World.holding Tryz.prog os ⟨#[],#[],[]⟩) 1 Rows.laid_math_bits_deBruijn32tab) 2 Rows.laid_math_bits_deBruijn64tab) 0 Rows.laid_internal_strconv_uint64pow10
theorem W2 (os:Os) (args:Array Value):laidMet Tryz.prog QP ((WP os).forCall (fun _ _=>0) ⟨#[],args,[]⟩).memory:=
  laidMet_of_run3 8 (by kernel_rfl) (by kernel_rfl) (by kernel_rfl)
end Go.Proofs.YtmoedieenlaegaaGreatDoor
namespace Go.Proofs.YtmoedieenlaegaaGreatDoor.LWitnessNotBoth
open Go.ChangeShapes Go.WideShapes Go.ChangeAt Go.RowKit
set_option linter.unusedVariables false
set_option maxRecDepth 100000
theorem all (ivs:List IV) (h:Qw [(true,ContractT.tys),(true,ShieldT.tys),(true,DoomT.tys)] ivs):APure C0 240 ivs (.bool true):=by
  match ivs,h with
  | [x0,x1,x2],⟨a0,a1,a2,_⟩=>
    obtain ⟨row0,rfl,r0⟩:=a0
    obtain ⟨c,rfl,ok_c⟩:=ContractT.opn r0
    obtain ⟨row1,rfl,r1⟩:=a1
    obtain ⟨s,rfl,ok_s⟩:=ShieldT.opn r1
    obtain ⟨row2,rfl,r2⟩:=a2
    obtain ⟨d,rfl,ok_d⟩:=DoomT.opn r2
    exact Jm c s d true (Jp c s d ok_c ok_s ok_d)
theorem own:ownKnob Tryz.prog.godebug=none:=by kernel_rfl
theorem laid:laidOutB Tryz.prog=true:=by kernel_rfl
theorem args:mapO (Yb Tryz.prog) Tryz.f9.params.toList=some [(true,ContractT.tys),(true,ShieldT.tys),(true,DoomT.tys)]:=by kernel_rfl
theorem zgx (os:Os) (started:os.Started) (H:Type) (enc:TypeId×Value→H) :
    ReturnsInHanded {} Tryz.checked os 9 .any (fun w args=>(Rows.witnessNotBothSpec.pre enc Tryz.prog Tryz.f9 [] false w args∧laidMet Tryz.prog QP w)∧sizedMet enc Tryz.prog Tryz.f9 (OpenSpec.ofChange Rows.witnessNotBothSpec) false w args) (Rows.witnessNotBothSpec.post enc Tryz.prog Tryz.f9 false true false false):=by
  refine returnsInHanded_of_change_and (C:=Tryz.checked) (X:=fun w _=>laidMet Tryz.prog QP w) (fun _ _ _ hh h=>h.of_heap hh) own started (by kernel_rfl) Tryz.func9
    (ChangeSpec.witness_at (enc:=enc) (C:=Tryz.checked) (os:=os) (X:=fun w _=>laidMet Tryz.prog QP w) false (WP os) #[.agg #[.int .i64 0,.slice none 0 0,.slice none 0 0,.slice none 0 0,.slice none 0 0,.int .i64 0,.slice none 0 0],.agg #[.int .i64 0,.slice none 0 0],.agg #[.int .i64 0,.slice none 0 0]] 8 rfl (by kernel_rfl) (by kernel_rfl) (by kernel_rfl) (by kernel_rfl) (by kernel_rfl) (W2 os _)) ?_
  intro W base args ds gs before hval hW _ hwt hL _
  exact Yc (Cx:=C0) (tb:=4) 240 rfl LWitnessNotBoth.args rfl (by kernel_rfl) rfl
    (fun ds h=>by match ds,h with | [_,_,_],_=>rfl) LWitnessNotBoth.laid (by kernel_rfl) LWitnessNotBoth.all W (YI hL) base args ds gs before hval hW hwt
theorem zje:Rows.WitnessNotBothSaid:=
  OpenClaim.holds_of_wide 9 Tryz.f9 rfl rfl rfl rfl rfl rfl rfl ⟨rfl,rfl,rfl,rfl,rfl⟩ rfl rfl rfl rfl rfl (by kernel_rfl) Tryz.func9 (by kernel_rfl)
    (of_decide_eq_true (by kernel_rfl)) (by unfold Func.isWrapper;first | (rw [if_pos (by decide +kernel)];kernel_rfl) | (rw [if_neg (by decide +kernel)];exact ⟨rfl,rfl⟩))
    (fun os started H enc _=>zgx os started H enc)
theorem holds:Rows.WitnessNotBothCardSaid:=
  Claim7.holds_tied_plain_at .later [] [.data, .data, .data] true (true, "b058ca6a5d8bd6675ccef3ced02f7ff2ab9252a87f4ffe3492fe47a417083e47") false
    zje (fun _ h=>by cases h) (by kernel_rfl) (fun _ h=>by cases h) witnessNotBoth_row_tie rfl ⟨rfl,rfl⟩ (by kernel_rfl) rfl
    (fun f fn hf hfn=>by
      obtain rfl : f = 9 := Option.some.inj ((show Tryz.prog.funcNamed "estoppel/estoppellaw22.WitnessNotBoth" = some 9 by kernel_rfl).symm.trans hf) |>.symm
      obtain rfl:fn=Tryz.f9:=(Option.some.inj (Tryz.func9.symm.trans hfn)).symm
      refine ⟨by kernel_rfl,fun j t ht => ?_⟩
      have hall:(Tryz.f9.params.toList.all fun t=>!(Tryz.prog.wantsStandIn t))=true:=by kernel_rfl
      have:=List.all_eq_true.1 hall t (by rw [Array.mem_toList_iff];exact Array.mem_of_getElem? ht)
      have h2:Tryz.prog.wantsStandIn t=false:=by simpa using this
      exact h2)
    (by kernel_rfl)
end Go.Proofs.YtmoedieenlaegaaGreatDoor.LWitnessNotBoth
namespace Go.Proofs.YtmoedieenlaegaaGreatDoor
theorem witnessNotBoth_holds:Rows.WitnessNotBothCardSaid:=LWitnessNotBoth.holds
end Go.Proofs.YtmoedieenlaegaaGreatDoor
