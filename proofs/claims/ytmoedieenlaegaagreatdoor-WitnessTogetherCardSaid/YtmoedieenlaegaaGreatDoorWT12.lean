/-
  'WitnessTogether': for every input the call returns true, and each argument reads afterwards as it read before.
  The tables of the library that the rows list: from the row's condition to what the contracts ask; the witness.
  Two shields together, two dooms together.
  'witness.Shield' and 'witness.Doom': what they return; sizes.
  The fixed examples of the laws of layer 22: 'head' returns true. Printed by mkheads.py.
-/
import Derived.Test.YtmoedieenlaegaaGreatDoorWT11
import Derived.Test.YtmoedieenlaegaaGreatDoorRows
import Derived.Test.YtmoedieenlaegaaGreatDoorWT10
import Derived.LaidLaws
import Derived.LaidSub
import Derived.Deep.DeepLaidRun
import Derived.Lib.LaidTab
import Derived.JoinedOf
import Derived.Test.YtmoedieenlaegaaGreatDoorWT06
import Derived.Test.YtmoedieenlaegaaGreatDoorTie
import Derived.Test.YtmoedieenlaegaaGreatDoorCards
import Derived.SevenTiedAt
namespace Go.Proofs.YtmoedieenlaegaaGreatDoor
set_option linter.unusedSimpArgs false
set_option linter.unusedVariables false
set_option maxRecDepth 100000
noncomputable def yQ (c:ContractT) (party:Int) (p:PosT):Option (ShieldT×Int):=
  (Option.bind (Xz c party p) fun r1=>(bif (r1.2 == 0) then (Option.bind (YB c r1.1) fun r2=>(Option.bind (zf r2 0) fun e1=>(bif e1 then (Option.bind (forR (σ:=(List ShieldRowT)) (ρ:=Unit) (r1.1.positions.length:Int) (fun i1 s1=>(Option.bind (Option.bind (zf r1.1.positions (i1:Int)) fun e2=>(Option.bind (zf r2 (i1:Int)) fun e3=>(bif e3 then (Option.bind (Z7 r1.1 r2 (i1:Int)) fun r3=>(Option.bind (zS (α:=ShieldRowT) 96 s1 [({position:=e2,move:=r3}:ShieldRowT)]) fun e4=>some e4)) else some s1))) fun (v1:(List ShieldRowT))=>some (.inl v1))) []) (Sum.elim (fun (s1:(List ShieldRowT))=>some (({party:=party,rows:=s1}:ShieldT),0)) (fun _=>none))) else some (({party:=0,rows:=[]}:ShieldT),13)))) else some (({party:=0,rows:=[]}:ShieldT),r1.2)))
theorem zaX (c:ContractT) (party:Int) (p:PosT):Le (yQ c party p) (vD c party p):=by
  unfold yQ vD
  repeat' (first | with_reducible exact Le.refl _ | with_reducible exact KH _ _ _ | with_reducible exact zeQ _ _ | with_reducible refine Le.bind ?_ (fun _ => ?_) | with_reducible refine Le.cond _ ?_ ?_ | with_reducible refine Le.forR (fun _ _ => ?_) _ _ | with_reducible refine Le.iter (fun _ => ?_) _ _ | with_reducible refine Le.elim (fun _ => ?_) (fun _ => ?_) _)
noncomputable def QT (c:ContractT) (party:Int) (p:PosT):Option (DoomT×Int):=
  (Option.bind (Xz c party p) fun r1=>(bif (r1.2 == 0) then (Option.bind (QS c r1.1) fun r2=>(Option.bind (zf r2 0) fun e1=>(bif decide (e1 < 0) then some (({party:=0,rows:=[]}:DoomT),13) else (Option.bind (forR (σ:=(List DoomRowT)) (ρ:=Unit) (r1.1.positions.length:Int) (fun i1 s1=>(Option.bind (Option.bind (zf r1.1.positions (i1:Int)) fun e2=>(Option.bind (zf r2 (i1:Int)) fun e3=>(bif decide (0≤e3) then (Option.bind (zf r2 (i1:Int)) fun e4=>(Option.bind (Z8 r1.1 r2 (i1:Int)) fun r3=>(Option.bind (zS (α:=DoomRowT) 104 s1 [({position:=e2,rank:=e4,move:=r3}:DoomRowT)]) fun e5=>some e5))) else some s1))) fun (v1:(List DoomRowT))=>some (.inl v1))) []) (Sum.elim (fun (s1:(List DoomRowT))=>some (({party:=party,rows:=s1}:DoomT),0)) (fun _=>none)))))) else some (({party:=0,rows:=[]}:DoomT),r1.2)))
theorem zdC (c:ContractT) (party:Int) (p:PosT):Le (QT c party p) (kB c party p):=by
  unfold QT kB
  repeat' (first | with_reducible exact Le.refl _ | with_reducible exact KH _ _ _ | with_reducible exact YA _ _ | with_reducible refine Le.bind ?_ (fun _ => ?_) | with_reducible refine Le.cond _ ?_ ?_ | with_reducible refine Le.forR (fun _ _ => ?_) _ _ | with_reducible refine Le.iter (fun _ => ?_) _ _ | with_reducible refine Le.elim (fun _ => ?_) (fun _ => ?_) _)
noncomputable def Wc (c:ContractT) (party:Int) (p:PosT):Option ((List Int)×Int):=
  (Option.bind (jJ c party p) fun r1=>(bif r1 then (Option.bind (Option.bind (Xe c party p) fun r2=>(Option.bind (bif p.own then (Option.bind (jK p.state) fun r3=>(Option.bind (zS (α:=Int) 8 [] [(-2)]) fun e1=>some e1)) else some []) fun (v1:(List Int))=>(bif decide (c.days≤p.state.day) then some v1 else (Option.bind (bif p.own then some v1 else (Option.bind (yv c p.state (-1)) fun r4=>(Option.bind (zS (α:=Int) 8 v1 [(-1)]) fun e2=>some e2))) fun (v2:(List Int))=>(Option.bind (forR (σ:=(List Int)) (ρ:=(List Int)) (c.acts.length:Int) (fun i1 s1=>(Option.bind (α:=(List Int) ⊕ (List Int)) (Option.bind (zf c.acts (i1:Int)) fun e3=>(Option.bind (bif (e3.role == (-1)) then some (-1) else (Option.bind (zf p.state.holders e3.role) fun e4=>some e4)) fun (v3:Int)=>(bif ((v3 == party) == p.own) then (Option.bind (yv c p.state (i1:Int)) fun r5=>(Option.bind (Option.bind (xi r5.1 p.state) fun r6=>(bif r6 then some (false,s1) else (Option.bind (zS (α:=Int) 8 s1 [(i1:Int)]) fun e5=>some ((!true),e5)))) fun (v4:Bool×(List Int))=>(bif v4.1 then some (.inr v4.2) else some (.inl v4.2)))) else some (.inl s1)))) (Sum.elim (fun (v5:(List Int))=>some (.inl v5)) (fun (y1:(List Int))=>some (.inr y1))))) v2) (Sum.elim (fun (s1:(List Int))=>some s1) (fun (y2:(List Int))=>some y2))))))) fun (v6:(List Int))=>some (v6,0)) else some ([],1)))
theorem zdD (c:ContractT) (party:Int) (p:PosT):Le (Wc c party p) (xV c party p):=by
  unfold Wc xV
  repeat' (first | with_reducible exact Le.refl _ | with_reducible exact Wb _ _ _ | with_reducible refine Le.bind ?_ (fun _ => ?_) | with_reducible refine Le.cond _ ?_ ?_ | with_reducible refine Le.forR (fun _ _ => ?_) _ _ | with_reducible refine Le.iter (fun _ => ?_) _ _ | with_reducible refine Le.elim (fun _ => ?_) (fun _ => ?_) _)
noncomputable def XA (p1:PosT) (p2:Int) (p3:ContractT) (p4:Int) (p5:List (ByteArray×Int)):Option (Int×Bool):=
  (Option.bind (bif (p2 == (-2)) then some (p1.state.day,p1.state.holders,p1.state.used,p1.state.marks) else (Option.bind (yv p3 p1.state p2) fun r1=>some (r1.1.day,r1.1.holders,r1.1.used,r1.1.marks))) fun (v1:Int×(List Int)×(List Bool)×(List MarkT))=>(Option.bind (wj ({state:=({day:=v1.1,holders:=v1.2.1,used:=v1.2.2.1,marks:=v1.2.2.2}:StateT),own:=(!(p2 == (-2)))}:PosT)) fun r2=>some (((zq r2 p5).getD 0),(zq r2 p5).isSome)))
theorem KI (p1:PosT) (p2:Int) (p3:ContractT) (p4:Int) (p5:List (ByteArray×Int)):Le (XA p1 p2 p3 p4 p5) (we p1 p2 p3 p4 p5):=by
  unfold XA we
  repeat' (first | with_reducible exact Le.refl _ | with_reducible exact Wb _ _ _ | with_reducible exact QR _ | with_reducible refine Le.bind ?_ (fun _ => ?_) | with_reducible refine Le.cond _ ?_ ?_ | with_reducible refine Le.forR (fun _ _ => ?_) _ _ | with_reducible refine Le.iter (fun _ => ?_) _ _ | with_reducible refine Le.elim (fun _ => ?_) (fun _ => ?_) _)
noncomputable def XB (p1:PosT) (p2:ContractT) (p3:Int) (p4:List (ByteArray×Int)):Option ((List Int)):=
  (Option.bind (Wc p2 p3 p1) fun r1=>some r1.1)
theorem KJ (p1:PosT) (p2:ContractT) (p3:Int) (p4:List (ByteArray×Int)):Le (XB p1 p2 p3 p4) (wd p1 p2 p3 p4):=by
  unfold XB wd
  repeat' (first | with_reducible exact Le.refl _ | with_reducible exact zdD _ _ _ | with_reducible refine Le.bind ?_ (fun _ => ?_) | with_reducible refine Le.cond _ ?_ ?_ | with_reducible refine Le.forR (fun _ _ => ?_) _ _ | with_reducible refine Le.iter (fun _ => ?_) _ _ | with_reducible refine Le.elim (fun _ => ?_) (fun _ => ?_) _)
noncomputable def XC (p1:Int) (p2:PosT) (p3:ContractT) (p4:Int) (p5:List (ByteArray×Int)):Option (Bool):=
  (Option.bind (XA p2 p1 p3 p4 p5) fun r1=>some (!r1.2))
theorem KL (p1:Int) (p2:PosT) (p3:ContractT) (p4:Int) (p5:List (ByteArray×Int)):Le (XC p1 p2 p3 p4 p5) (wg p1 p2 p3 p4 p5):=by
  unfold XC wg
  repeat' (first | with_reducible exact Le.refl _ | with_reducible exact KI _ _ _ _ _ | with_reducible refine Le.bind ?_ (fun _ => ?_) | with_reducible refine Le.cond _ ?_ ?_ | with_reducible refine Le.forR (fun _ _ => ?_) _ _ | with_reducible refine Le.iter (fun _ => ?_) _ _ | with_reducible refine Le.elim (fun _ => ?_) (fun _ => ?_) _)
noncomputable def zaY (p1:List Int) (p2:PosT) (p3:ContractT) (p4:Int) (p5:List (ByteArray×Int)):Option (Int):=
  (Option.bind (forR (σ:=Unit) (ρ:=Int) (p1.length:Int) (fun i1 s1=>(Option.bind (zm p1.length (i1:Int)) fun k1=>(Option.bind (p1[k1]?) fun e1=>(Option.bind (XC e1 p2 p3 p4 p5) fun r1=>(bif r1 then some (.inr (i1:Int)) else some (.inl ())))))) ()) (Sum.elim (fun (s1:Unit)=>some (-1)) (fun (y1:Int)=>some y1)))
theorem zgi (p1:List Int) (p2:PosT) (p3:ContractT) (p4:Int) (p5:List (ByteArray×Int)):Le (zaY p1 p2 p3 p4 p5) (QH p1 p2 p3 p4 p5):=by
  unfold zaY QH
  repeat' (first | with_reducible exact Le.refl _ | with_reducible exact KL _ _ _ _ _ | with_reducible refine Le.bind ?_ (fun _ => ?_) | with_reducible refine Le.cond _ ?_ ?_ | with_reducible refine Le.forR (fun _ _ => ?_) _ _ | with_reducible refine Le.iter (fun _ => ?_) _ _ | with_reducible refine Le.elim (fun _ => ?_) (fun _ => ?_) _)
noncomputable def zaZ (p1:List Int) (p2:PosT) (p3:ContractT) (p4:Int) (p5:List (ByteArray×Int)):Option (Int):=
  (Option.bind (forR (σ:=Unit) (ρ:=Int) (p1.length:Int) (fun i1 s1=>(Option.bind (zf p1 (i1:Int)) fun e1=>(Option.bind (XC e1 p2 p3 p4 p5) fun r1=>(bif r1 then some (.inr (i1:Int)) else some (.inl ()))))) ()) (Sum.elim (fun (s1:Unit)=>some (-1)) (fun (y1:Int)=>some y1)))
theorem zgj (p1:List Int) (p2:PosT) (p3:ContractT) (p4:Int) (p5:List (ByteArray×Int)):Le (zaZ p1 p2 p3 p4 p5) (QJ p1 p2 p3 p4 p5):=by
  unfold zaZ QJ
  repeat' (first | with_reducible exact Le.refl _ | with_reducible exact KL _ _ _ _ _ | with_reducible refine Le.bind ?_ (fun _ => ?_) | with_reducible refine Le.cond _ ?_ ?_ | with_reducible refine Le.forR (fun _ _ => ?_) _ _ | with_reducible refine Le.iter (fun _ => ?_) _ _ | with_reducible refine Le.elim (fun _ => ?_) (fun _ => ?_) _)
noncomputable def za0 (p1:List Int) (p2:PosT) (p3:ContractT) (p4:Int) (p5:List (ByteArray×Int)):Option (Bool):=
  (Option.bind (zaY p1 p2 p3 p4 p5) fun r1=>some (decide (0≤r1)))
theorem zgk (p1:List Int) (p2:PosT) (p3:ContractT) (p4:Int) (p5:List (ByteArray×Int)):Le (za0 p1 p2 p3 p4 p5) (Zm p1 p2 p3 p4 p5):=by
  unfold za0 Zm
  repeat' (first | with_reducible exact Le.refl _ | with_reducible exact zgi _ _ _ _ _ | with_reducible refine Le.bind ?_ (fun _ => ?_) | with_reducible refine Le.cond _ ?_ ?_ | with_reducible refine Le.forR (fun _ _ => ?_) _ _ | with_reducible refine Le.iter (fun _ => ?_) _ _ | with_reducible refine Le.elim (fun _ => ?_) (fun _ => ?_) _)
noncomputable def za1 (p1:List Int) (p2:PosT) (p3:ContractT) (p4:Int) (p5:List (ByteArray×Int)):Option (Bool):=
  (Option.bind (zaZ p1 p2 p3 p4 p5) fun r1=>some (decide (0≤r1)))
theorem zgl (p1:List Int) (p2:PosT) (p3:ContractT) (p4:Int) (p5:List (ByteArray×Int)):Le (za1 p1 p2 p3 p4 p5) (Zn p1 p2 p3 p4 p5):=by
  unfold za1 Zn
  repeat' (first | with_reducible exact Le.refl _ | with_reducible exact zgj _ _ _ _ _ | with_reducible refine Le.bind ?_ (fun _ => ?_) | with_reducible refine Le.cond _ ?_ ?_ | with_reducible refine Le.forR (fun _ _ => ?_) _ _ | with_reducible refine Le.iter (fun _ => ?_) _ _ | with_reducible refine Le.elim (fun _ => ?_) (fun _ => ?_) _)
noncomputable def YC (p1:ShieldW) (p2:Int) (p3:ContractT) (p4:Int) (p5:List (ByteArray×Int)):Option (Bool):=
  (Option.bind (zf p1.s.rows p2) fun e1=>(Option.bind (xG p3 e1.position.state p4) fun r1=>(bif r1 then some false else (Option.bind (XB e1.position p3 p4 p5) fun r2=>(bif e1.position.own then (Option.bind (jM r2 e1.move) fun r3=>(bif r3 then (Option.bind (za0 [e1.move] e1.position p3 p4 p5) fun r4=>some (!r4)) else some false)) else (Option.bind (za1 r2 e1.position p3 p4 p5) fun r5=>some (!r5)))))))
theorem zeR (p1:ShieldW) (p2:Int) (p3:ContractT) (p4:Int) (p5:List (ByteArray×Int)):Le (YC p1 p2 p3 p4 p5) (yn p1 p2 p3 p4 p5):=by
  unfold YC yn
  repeat' (first | with_reducible exact Le.refl _ | with_reducible exact KJ _ _ _ _ | with_reducible exact zgk _ _ _ _ _ | with_reducible exact zgl _ _ _ _ _ | with_reducible refine Le.bind ?_ (fun _ => ?_) | with_reducible refine Le.cond _ ?_ ?_ | with_reducible refine Le.forR (fun _ _ => ?_) _ _ | with_reducible refine Le.iter (fun _ => ?_) _ _ | with_reducible refine Le.elim (fun _ => ?_) (fun _ => ?_) _)
noncomputable def YD (p1:ContractT) (p2:ShieldW):Option (Bool):=
  (Option.bind (Z9 p2) fun r1=>(Option.bind (bif decide (r1 < 0) then some true else (bif decide (p1.parties≤r1) then some true else (Option.bind (jp p2) fun r2=>(bif decide (r2 < 1) then some true else (Option.bind (jp p2) fun r3=>some (decide (1500 < r3))))))) fun v1=>(bif v1 then some false else (Option.bind (jp p2) fun r4=>(Option.bind (forR (σ:=(List (ByteArray×Int))) (ρ:=Unit) r4 (fun i1 s1=>(Option.bind (α:=(List (ByteArray×Int)) ⊕ Unit) (Option.bind (kC p2 (i1:Int)) fun r5=>(Option.bind (qJ p1 r5.1.state) fun r6=>(bif r6 then (Option.bind (wj r5.1) fun r7=>(Option.bind (bif ((zq r7 s1).isSome) then some (decide (r5.2 < ((zq r7 s1).getD 0))) else some true) fun v2=>(bif v2 then some (.inl (qa r7 r5.2 s1)) else some (.inl s1)))) else some (.inr ())))) (Sum.elim (fun (v3:(List (ByteArray×Int)))=>some (.inl v3)) (fun (y1:Unit)=>some (.inr ()))))) []) (Sum.elim (fun (s1:(List (ByteArray×Int)))=>(Option.bind (jp p2) fun r8=>(Option.bind (forR (σ:=Unit) (ρ:=Unit) r8 (fun i2 s2=>(Option.bind (YC p2 (i2:Int) p1 r1 s1) fun r9=>(bif r9 then some (.inl ()) else some (.inr ())))) ()) (Sum.elim (fun (s2:Unit)=>some true) (fun (y3:Unit)=>some false))))) (fun (y2:Unit)=>some false)))))))
theorem zeS (p1:ContractT) (p2:ShieldW):Le (YD p1 p2) (kD p1 p2):=by
  unfold YD kD
  repeat' (first | with_reducible exact Le.refl _ | with_reducible exact QR _ | with_reducible exact zeR _ _ _ _ _ | with_reducible refine Le.bind ?_ (fun _ => ?_) | with_reducible refine Le.cond _ ?_ ?_ | with_reducible refine Le.forR (fun _ _ => ?_) _ _ | with_reducible refine Le.iter (fun _ => ?_) _ _ | with_reducible refine Le.elim (fun _ => ?_) (fun _ => ?_) _)
noncomputable def jO (c:ContractT) (s:ShieldT):Option (Bool):=
  (Option.bind (YD c ({s:=s}:ShieldW)) fun r1=>some r1)
theorem Wd (c:ContractT) (s:ShieldT):Le (jO c s) (z6 c s):=by
  unfold jO z6
  repeat' (first | with_reducible exact Le.refl _ | with_reducible exact zeS _ _ | with_reducible refine Le.bind ?_ (fun _ => ?_) | with_reducible refine Le.cond _ ?_ ?_ | with_reducible refine Le.forR (fun _ _ => ?_) _ _ | with_reducible refine Le.iter (fun _ => ?_) _ _ | with_reducible refine Le.elim (fun _ => ?_) (fun _ => ?_) _)
noncomputable def XD (p1:PosT) (p2:Int) (p3:Int) (p4:ContractT) (p5:Int) (p6:List (ByteArray×Int)):Option (Bool):=
  (Option.bind (XA p1 p2 p4 p5 p6) fun r1=>(Option.bind (bif r1.2 then some (decide (r1.1 < p3)) else some false) fun v1=>some v1))
theorem KM (p1:PosT) (p2:Int) (p3:Int) (p4:ContractT) (p5:Int) (p6:List (ByteArray×Int)):Le (XD p1 p2 p3 p4 p5 p6) (wh p1 p2 p3 p4 p5 p6):=by
  unfold XD wh
  repeat' (first | with_reducible exact Le.refl _ | with_reducible exact KI _ _ _ _ _ | with_reducible refine Le.bind ?_ (fun _ => ?_) | with_reducible refine Le.cond _ ?_ ?_ | with_reducible refine Le.forR (fun _ _ => ?_) _ _ | with_reducible refine Le.iter (fun _ => ?_) _ _ | with_reducible refine Le.elim (fun _ => ?_) (fun _ => ?_) _)
noncomputable def YE (p1:Int) (p2:PosT) (p3:Int) (p4:ContractT) (p5:Int) (p6:List (ByteArray×Int)):Option (Bool):=
  (Option.bind (XD p2 p1 p3 p4 p5 p6) fun r1=>some (!r1))
theorem zeT (p1:Int) (p2:PosT) (p3:Int) (p4:ContractT) (p5:Int) (p6:List (ByteArray×Int)):Le (YE p1 p2 p3 p4 p5 p6) (kF p1 p2 p3 p4 p5 p6):=by
  unfold YE kF
  repeat' (first | with_reducible exact Le.refl _ | with_reducible exact KM _ _ _ _ _ _ | with_reducible refine Le.bind ?_ (fun _ => ?_) | with_reducible refine Le.cond _ ?_ ?_ | with_reducible refine Le.forR (fun _ _ => ?_) _ _ | with_reducible refine Le.iter (fun _ => ?_) _ _ | with_reducible refine Le.elim (fun _ => ?_) (fun _ => ?_) _)
noncomputable def za2 (p1:List Int) (p2:PosT) (p3:Int) (p4:ContractT) (p5:Int) (p6:List (ByteArray×Int)):Option (Int):=
  (Option.bind (forR (σ:=Unit) (ρ:=Int) (p1.length:Int) (fun i1 s1=>(Option.bind (zf p1 (i1:Int)) fun e1=>(Option.bind (YE e1 p2 p3 p4 p5 p6) fun r1=>(bif r1 then some (.inr (i1:Int)) else some (.inl ()))))) ()) (Sum.elim (fun (s1:Unit)=>some (-1)) (fun (y1:Int)=>some y1)))
theorem zgm (p1:List Int) (p2:PosT) (p3:Int) (p4:ContractT) (p5:Int) (p6:List (ByteArray×Int)):Le (za2 p1 p2 p3 p4 p5 p6) (QK p1 p2 p3 p4 p5 p6):=by
  unfold za2 QK
  repeat' (first | with_reducible exact Le.refl _ | with_reducible exact zeT _ _ _ _ _ _ | with_reducible refine Le.bind ?_ (fun _ => ?_) | with_reducible refine Le.cond _ ?_ ?_ | with_reducible refine Le.forR (fun _ _ => ?_) _ _ | with_reducible refine Le.iter (fun _ => ?_) _ _ | with_reducible refine Le.elim (fun _ => ?_) (fun _ => ?_) _)
noncomputable def za3 (p1:List Int) (p2:PosT) (p3:Int) (p4:ContractT) (p5:Int) (p6:List (ByteArray×Int)):Option (Bool):=
  (Option.bind (za2 p1 p2 p3 p4 p5 p6) fun r1=>some (decide (0≤r1)))
theorem zgn (p1:List Int) (p2:PosT) (p3:Int) (p4:ContractT) (p5:Int) (p6:List (ByteArray×Int)):Le (za3 p1 p2 p3 p4 p5 p6) (Zp p1 p2 p3 p4 p5 p6):=by
  unfold za3 Zp
  repeat' (first | with_reducible exact Le.refl _ | with_reducible exact zgm _ _ _ _ _ _ | with_reducible refine Le.bind ?_ (fun _ => ?_) | with_reducible refine Le.cond _ ?_ ?_ | with_reducible refine Le.forR (fun _ _ => ?_) _ _ | with_reducible refine Le.iter (fun _ => ?_) _ _ | with_reducible refine Le.elim (fun _ => ?_) (fun _ => ?_) _)
noncomputable def YF (p1:DoomW) (p2:Int) (p3:ContractT) (p4:Int) (p5:List (ByteArray×Int)):Option (Bool):=
  (Option.bind (zf p1.d.rows p2) fun e1=>(bif decide (e1.rank≤0) then (Option.bind (bif (e1.rank == 0) then (Option.bind (xG p3 e1.position.state p4) fun r1=>some r1) else some false) fun v1=>some v1) else (Option.bind (XB e1.position p3 p4 p5) fun r2=>(bif e1.position.own then (Option.bind (za3 r2 e1.position e1.rank p3 p4 p5) fun r5=>some (!r5)) else (Option.bind (Option.bind (jM r2 e1.move) fun r3=>(bif r3 then (Option.bind (XD e1.position e1.move e1.rank p3 p4 p5) fun r4=>some r4) else some false)) fun v2=>some v2)))))
theorem zeU (p1:DoomW) (p2:Int) (p3:ContractT) (p4:Int) (p5:List (ByteArray×Int)):Le (YF p1 p2 p3 p4 p5) (yo p1 p2 p3 p4 p5):=by
  unfold YF yo
  repeat' (first | with_reducible exact Le.refl _ | with_reducible exact KJ _ _ _ _ | with_reducible exact zgn _ _ _ _ _ _ | with_reducible exact KM _ _ _ _ _ _ | with_reducible refine Le.bind ?_ (fun _ => ?_) | with_reducible refine Le.cond _ ?_ ?_ | with_reducible refine Le.forR (fun _ _ => ?_) _ _ | with_reducible refine Le.iter (fun _ => ?_) _ _ | with_reducible refine Le.elim (fun _ => ?_) (fun _ => ?_) _)
noncomputable def YG (p1:ContractT) (p2:DoomW):Option (Bool):=
  (Option.bind (Qa p2) fun r1=>(Option.bind (bif decide (r1 < 0) then some true else (bif decide (p1.parties≤r1) then some true else (Option.bind (jq p2) fun r2=>(bif decide (r2 < 1) then some true else (Option.bind (jq p2) fun r3=>some (decide (1500 < r3))))))) fun v1=>(bif v1 then some false else (Option.bind (jq p2) fun r4=>(Option.bind (forR (σ:=(List (ByteArray×Int))) (ρ:=Unit) r4 (fun i1 s1=>(Option.bind (α:=(List (ByteArray×Int)) ⊕ Unit) (Option.bind (kE p2 (i1:Int)) fun r5=>(Option.bind (qJ p1 r5.1.state) fun r6=>(bif r6 then (Option.bind (wj r5.1) fun r7=>(Option.bind (bif ((zq r7 s1).isSome) then some (decide (r5.2 < ((zq r7 s1).getD 0))) else some true) fun v2=>(bif v2 then some (.inl (qa r7 r5.2 s1)) else some (.inl s1)))) else some (.inr ())))) (Sum.elim (fun (v3:(List (ByteArray×Int)))=>some (.inl v3)) (fun (y1:Unit)=>some (.inr ()))))) []) (Sum.elim (fun (s1:(List (ByteArray×Int)))=>(Option.bind (jq p2) fun r8=>(Option.bind (forR (σ:=Unit) (ρ:=Unit) r8 (fun i2 s2=>(Option.bind (YF p2 (i2:Int) p1 r1 s1) fun r9=>(bif r9 then some (.inl ()) else some (.inr ())))) ()) (Sum.elim (fun (s2:Unit)=>some true) (fun (y3:Unit)=>some false))))) (fun (y2:Unit)=>some false)))))))
theorem zeV (p1:ContractT) (p2:DoomW):Le (YG p1 p2) (kG p1 p2):=by
  unfold YG kG
  repeat' (first | with_reducible exact Le.refl _ | with_reducible exact QR _ | with_reducible exact zeU _ _ _ _ _ | with_reducible refine Le.bind ?_ (fun _ => ?_) | with_reducible refine Le.cond _ ?_ ?_ | with_reducible refine Le.forR (fun _ _ => ?_) _ _ | with_reducible refine Le.iter (fun _ => ?_) _ _ | with_reducible refine Le.elim (fun _ => ?_) (fun _ => ?_) _)
noncomputable def vj (c:ContractT) (d:DoomT):Option (Bool):=
  (Option.bind (YG c ({d:=d}:DoomW)) fun r1=>some r1)
theorem YH (c:ContractT) (d:DoomT):Le (vj c d) (ql c d):=by
  unfold vj ql
  repeat' (first | with_reducible exact Le.refl _ | with_reducible exact zeV _ _ | with_reducible refine Le.bind ?_ (fun _ => ?_) | with_reducible refine Le.cond _ ?_ ?_ | with_reducible refine Le.forR (fun _ _ => ?_) _ _ | with_reducible refine Le.iter (fun _ => ?_) _ _ | with_reducible refine Le.elim (fun _ => ?_) (fun _ => ?_) _)
noncomputable def YI:Option (Bool):=
  (Option.bind (yZ) fun r1=>(Option.bind (Wa r1) fun r2=>(Option.bind (yQ r1 0 ({state:=r2.1,own:=true}:PosT)) fun r3=>(Option.bind (QT r1 0 ({state:=r2.1,own:=true}:PosT)) fun r4=>(Option.bind (QT r1 0 ({state:=r2.1,own:=false}:PosT)) fun r5=>(Option.bind (yQ r1 0 ({state:=r2.1,own:=false}:PosT)) fun r6=>(Option.bind (bif (r2.2 == 0) then (bif (r3.2 == 0) then (bif (r4.2 == 13) then (bif (r5.2 == 0) then (bif (r6.2 == 13) then (bif ((r3.1.rows.length:Int) == 5) then some (!((r5.1.rows.length:Int) == 3)) else some true) else some true) else some true) else some true) else some true) else some true) fun v1=>(bif v1 then some false else (Option.bind (Option.bind (zf r3.1.rows 0) fun e1=>(bif (e1.move == 0) then (Option.bind (zf r3.1.rows 1) fun e2=>(bif (e2.move == (-2)) then (Option.bind (zf r5.1.rows 0) fun e3=>(bif (e3.rank == 1) then (bif (e3.move == (-1)) then (Option.bind (zf r5.1.rows 1) fun e4=>some (e4.rank == 0)) else some false) else some false)) else some false)) else some false)) fun v2=>(Option.bind (Option.bind (jO r1 r3.1) fun r7=>(bif r7 then (Option.bind (vj r1 r5.1) fun r8=>some r8) else some false)) fun v3=>(Option.bind (yT r3.1.rows 0 4) fun e5=>(Option.bind (xF (α:=DoomRowT) 104 [] r5.1.rows) fun e6=>(Option.bind (zm e6.length 0) fun k1=>(Option.bind (e6[k1]?) fun e7=>(Option.bind (bif v2 then (bif v3 then (Option.bind (jO r1 ({party:=0,rows:=e5}:ShieldT)) fun r9=>(bif r9 then some false else (Option.bind (vj r1 ({party:=0,rows:=(e6.set k1 ({e7 with move:=0}:DoomRowT))}:DoomT)) fun r10=>(bif r10 then some false else (Option.bind (jO r1 ({party:=0,rows:=[]}:ShieldT)) fun r11=>some (!r11)))))) else some false) else some false) fun v4=>some v4)))))))))))))))
theorem zcC:Le YI yp:=by
  unfold YI yp
  repeat' (first | with_reducible exact Le.refl _ | with_reducible exact zdB _ | with_reducible exact zaX _ _ _ | with_reducible exact zdC _ _ _ | with_reducible exact Wd _ _ | with_reducible exact YH _ _ | with_reducible refine Le.bind ?_ (fun _ => ?_) | with_reducible refine Le.cond _ ?_ ?_ | with_reducible refine Le.elim (fun _ => ?_) (fun _ => ?_) _)
theorem zdE:yp=some true:=zcC true (by kernel_rfl)
end Go.Proofs.YtmoedieenlaegaaGreatDoor
namespace Go.Proofs.YtmoedieenlaegaaGreatDoor
open Go.RowKit
set_option linter.unusedSimpArgs false
set_option linter.unusedVariables false
set_option maxRecDepth 100000
section
theorem YJ {b:Bool}:yX (fun _:Unit=>True) (fun _:Unit=>True) (bif b then (.inr ():Unit ⊕ Unit) else .inl ()):=by cases b<;>trivial
theorem KN {c:ContractT} (hc:c.Ok) (s:ShieldT) (d:DoomT):Ret (kH c s d) (fun b=>b=true→s.rows.length≤300∧d.rows.length≤300):=by
  unfold kH
  refine Ret.bindE (v := !(Vp c&&(decide (s.rows.length≤300)&&decide (d.rows.length≤300)))) ?_ ?_
  · rw [zf9 hc]
    simp only [Option.bind_some]
    cases Vp c with
    | false=>rfl
    | true=>
      by_cases h1:(300:Int) < (s.rows.length:Int)
      · rw [decide_eq_true h1,decide_eq_false (show ¬ s.rows.length≤300 by omega)];rfl
      · rw [decide_eq_false h1,decide_eq_true (show s.rows.length≤300 by omega)]
        by_cases h2:(300:Int) < (d.rows.length:Int)
        · rw [decide_eq_true h2,decide_eq_false (show ¬ d.rows.length≤300 by omega)];rfl
        · rw [decide_eq_false h2,decide_eq_true (show d.rows.length≤300 by omega)];rfl
  refine Ret.ite (fun _=>Ret.some fun h=>by cases h) (fun hb => ?_)
  simp only [Bool.not_eq_false',Bool.and_eq_true,decide_eq_true_eq] at hb
  obtain ⟨_,h1,h2⟩:=hb
  refine Ret.bind (P:=fun _=>True) (Ret.forL (fun _ _=>True) (by omega) trivial (fun i _ hi _ => ?_) (fun _ _=>trivial)) ?_
  · refine Ret.bindE (qf (List.getElem?_eq_getElem hi)) ?_
    simp only [zj,Option.bind_some]
    exact Ret.some YJ
  · rintro (_ | _) _
    · simp only [Sum.elim_inl]
      refine Ret.bind (P:=fun _=>True) (Ret.forL (fun _ _=>True) (by omega) trivial (fun i _ hi _ => ?_) (fun _ _=>trivial)) ?_
      · refine Ret.bindE (qf (List.getElem?_eq_getElem hi)) ?_
        simp only [zj,Option.bind_some]
        exact Ret.some YJ
      · rintro (_ | _) _
        · exact Ret.some fun _=>⟨h1,h2⟩
        · exact Ret.some fun h=>by cases h
    · exact Ret.some fun h=>by cases h
section
variable {c:ContractT} {party:Int} {p:PosT} {a:ArenaT}
structure DRow (c:ContractT) (party:Int) (r:DoomRowT):Prop where
  rk:r.rank=rkP c party r.position
  lo:0≤r.rank
  mv:0 < r.rank→r.position.own=false→r.move∈zz c party r.position∧0≤rkP c party (target c r.position r.move)∧rkP c party (target c r.position r.move) < r.rank
end
end
theorem QU {α:Type} {by_:Nat} {l m:List α} (h:(l.length+m.length)*by_≤140737488355328):xF by_ l m=some (l++m):=by unfold xF;rw [if_pos h]
theorem QY (c:ContractT) (s t:ShieldT) (d x:DoomT) (hc:ContractT.Ok c) (hs:ShieldT.Ok s) (ht:ShieldT.Ok t) (hd:DoomT.Ok d) (hx:DoomT.Ok x):xm c s t d x=some true:=by
  refine Ret.eq ?_
  have l1:s.rows.length < 4611686018427387904:=hs.rows.lt (by omega)
  have l2:t.rows.length < 4611686018427387904:=ht.rows.lt (by omega)
  have l3:d.rows.length < 4611686018427387904:=hd.rows.lt (by omega)
  have l4:x.rows.length < 4611686018427387904:=hx.rows.lt (by omega)
  unfold xm
  refine Ret.bindE zdE ?_
  refine Ret.bind (P:=fun v:Bool=>v=false→(s.rows.length≤300∧d.rows.length≤300)∧t.rows.length≤300∧x.rows.length≤300) ?_ ?_
  · refine Ret.bind (KN hc s d) fun b hb => ?_
    refine Ret.ite (fun h => ?_) (fun _=>Ret.some fun h=>by cases h)
    refine Ret.bind (KN hc t x) fun b2 hb2 => ?_
    exact Ret.some fun h2=>⟨hb h,hb2 (by simpa using h2)⟩
  intro v hv
  refine Ret.ite (fun _=>Ret.some rfl) (fun h => ?_)
  obtain ⟨⟨n1,n3⟩,n2,n4⟩:=hv h
  refine Ret.bind (P:=fun o:Unit ⊕ Unit=>o=.inl ()) ?_ ?_
  · refine Ret.bindE (v:=(s.party == t.party)&&(wJ c s&&wJ c t)) ?_ ?_
    · rw [vG hc s l1,vG hc t l2]
      simp only [Option.bind_some]
      cases (s.party == t.party)<;>cases wJ c s<;>rfl
    refine Ret.ite (fun hb => ?_) (fun _=>Ret.some rfl)
    simp only [Bool.and_eq_true,beq_iff_eq,kc] at hb
    obtain ⟨he,h1,h2⟩:=hb
    have hboth:=Ka h1 h2 he (by omega)
    refine Ret.bindE (QU (by simp;omega)) ?_
    refine Ret.bindE (QU (by simp;omega)) ?_
    rw [List.nil_append]
    refine Ret.bindE (vG hc _ (by show (s.rows++t.rows).length < _;rw [List.length_append];omega)) ?_
    rw [kc.2 hboth]
    exact Ret.some rfl
  rintro _ rfl
  simp only [Sum.elim_inl]
  refine Ret.bind (P:=fun o:Unit ⊕ Unit=>o=.inl ()) ?_ ?_
  · refine Ret.bindE (v:=(d.party == x.party)&&(Zu c d&&Zu c x)) ?_ ?_
    · rw [kd hc d l3,kd hc x l4]
      simp only [Option.bind_some]
      cases (d.party == x.party)<;>cases Zu c d<;>rfl
    refine Ret.ite (fun hb => ?_) (fun _=>Ret.some rfl)
    simp only [Bool.and_eq_true,beq_iff_eq,Qn] at hb
    obtain ⟨he,h1,h2⟩:=hb
    have hboth:=zcy h1 h2 he (by omega)
    refine Ret.bindE (QU (by simp;omega)) ?_
    refine Ret.bindE (QU (by simp;omega)) ?_
    rw [List.nil_append]
    refine Ret.bindE (kd hc _ (by show (d.rows++x.rows).length < _;rw [List.length_append];omega)) ?_
    rw [Qn.2 hboth]
    exact Ret.some rfl
  rintro _ rfl
  exact Ret.some rfl
end Go.Proofs.YtmoedieenlaegaaGreatDoor
namespace Go.Proofs.YtmoedieenlaegaaGreatDoor
open Go.ChangeShapes Go.WideShapes Go.RowKit
set_option maxRecDepth 100000
abbrev QV : List (String × DataW Unit) := [("math/bits.deBruijn32tab", Rows.laid_math_bits_deBruijn32tab), ("math/bits.deBruijn64tab", Rows.laid_math_bits_deBruijn64tab), ("internal/strconv.uint64pow10", Rows.laid_internal_strconv_uint64pow10)]
theorem zdF:(QV.filter fun x=>x.1 == xf)=[(xf,Lib.tabData .u64 Lib.pow10Tab)]:=by kernel_rfl
theorem YK {W:World} (h:laidMet Tryz.prog QV W):C0.tabs.p W∧C0.tabs.n≤W.heap.size:=by
  have h1:=h.filter (fun x=>x.1 == xf)
  rw [zdF] at h1
  have h2:C0.tabs.p W:=Lib.tabIs_of_head (g:=0) (t:=((Tryz.prog.globals[0]?).map (·.type)).getD 0) (e:=181) (n:=20)
    (by kernel_rfl) (by kernel_rfl) (by kernel_rfl) (by kernel_rfl) (by kernel_rfl) (by kernel_rfl) h1
  exact ⟨h2,zau h2⟩
def zgo:DataW Unit→Array Value
  | .agg ds=>(ds.map fun d=>match d with | .lit (.int k n)=>Value.int k n | _=>Value.bool false).toArray
  | _ => #[]
def YL (w:World) (g:Nat) (d:DataW Unit):World:={w with heap:=w.heap.modify g fun | .cells _ t f=>.cells (zgo d) t f | o=>o}
noncomputable def WV (os:Os):World:=
  YL (YL (YL (World.holding Tryz.prog os ⟨#[],#[],[]⟩) 1 Rows.laid_math_bits_deBruijn32tab) 2 Rows.laid_math_bits_deBruijn64tab) 0 Rows.laid_internal_strconv_uint64pow10
theorem W7 (os:Os) (args:Array Value):laidMet Tryz.prog QV ((WV os).forCall (fun _ _=>0) ⟨#[],args,[]⟩).memory:=
  laidMet_of_run3 8 (by kernel_rfl) (by kernel_rfl) (by kernel_rfl)
end Go.Proofs.YtmoedieenlaegaaGreatDoor
namespace Go.Proofs.YtmoedieenlaegaaGreatDoor.LWitnessTogether
open Go.ChangeShapes Go.WideShapes Go.ChangeAt Go.RowKit
set_option linter.unusedVariables false
set_option maxRecDepth 100000
theorem all (ivs:List IV) (h:QE [(true,ContractT.tys),(true,ShieldT.tys),(true,ShieldT.tys),(true,DoomT.tys),(true,DoomT.tys)] ivs):APure C0 242 ivs (.bool true):=by
  match ivs,h with
  | [x0,x1,x2,x3,x4],⟨a0,a1,a2,a3,a4,_⟩=>
    obtain ⟨row0,rfl,r0⟩:=a0
    obtain ⟨c,rfl,ok_c⟩:=ContractT.opn r0
    obtain ⟨row1,rfl,r1⟩:=a1
    obtain ⟨s,rfl,ok_s⟩:=ShieldT.opn r1
    obtain ⟨row2,rfl,r2⟩:=a2
    obtain ⟨t,rfl,ok_t⟩:=ShieldT.opn r2
    obtain ⟨row3,rfl,r3⟩:=a3
    obtain ⟨d,rfl,ok_d⟩:=DoomT.opn r3
    obtain ⟨row4,rfl,r4⟩:=a4
    obtain ⟨x,rfl,ok_x⟩:=DoomT.opn r4
    exact QX c s t d x true (QY c s t d x ok_c ok_s ok_t ok_d ok_x)
theorem own:ownKnob Tryz.prog.godebug=none:=by kernel_rfl
theorem laid:laidOutB Tryz.prog=true:=by kernel_rfl
theorem args:mapO (Yd Tryz.prog) Tryz.f8.params.toList=some [(true,ContractT.tys),(true,ShieldT.tys),(true,ShieldT.tys),(true,DoomT.tys),(true,DoomT.tys)]:=by kernel_rfl
theorem zgp (os:Os) (started:os.Started) (H:Type) (enc:TypeId×Value→H) :
    ReturnsInHanded {} Tryz.checked os 8 .any (fun w args=>(Rows.witnessTogetherSpec.pre enc Tryz.prog Tryz.f8 [] false w args∧laidMet Tryz.prog QV w)∧sizedMet enc Tryz.prog Tryz.f8 (OpenSpec.ofChange Rows.witnessTogetherSpec) false w args) (Rows.witnessTogetherSpec.post enc Tryz.prog Tryz.f8 false true false false):=by
  refine returnsInHanded_of_change_and (C:=Tryz.checked) (X:=fun w _=>laidMet Tryz.prog QV w) (fun _ _ _ hh h=>h.of_heap hh) own started (by kernel_rfl) Tryz.func8
    (ChangeSpec.witness_at (enc:=enc) (C:=Tryz.checked) (os:=os) (X:=fun w _=>laidMet Tryz.prog QV w) false (WV os) #[.agg #[.int .i64 0,.slice none 0 0,.slice none 0 0,.slice none 0 0,.slice none 0 0,.int .i64 0,.slice none 0 0],.agg #[.int .i64 0,.slice none 0 0],.agg #[.int .i64 0,.slice none 0 0],.agg #[.int .i64 0,.slice none 0 0],.agg #[.int .i64 0,.slice none 0 0]] 8 rfl (by kernel_rfl) (by kernel_rfl) (by kernel_rfl) (by kernel_rfl) (by kernel_rfl) (W7 os _)) ?_
  intro W base args ds gs before hval hW _ hwt hL _
  exact Ye (Cx:=C0) (tb:=4) 242 rfl LWitnessTogether.args rfl (by kernel_rfl) rfl
    (fun ds h=>by match ds,h with | [_,_,_,_,_],_=>rfl) LWitnessTogether.laid (by kernel_rfl) LWitnessTogether.all W (YK hL) base args ds gs before hval hW hwt
theorem zi7:Rows.WitnessTogetherSaid:=
  OpenClaim.holds_of_wide 8 Tryz.f8 rfl rfl rfl rfl rfl rfl rfl ⟨rfl,rfl,rfl,rfl,rfl⟩ rfl rfl rfl rfl rfl (by kernel_rfl) Tryz.func8 (by kernel_rfl)
    (of_decide_eq_true (by kernel_rfl)) (by unfold Func.isWrapper;first | (rw [if_pos (by decide +kernel)];kernel_rfl) | (rw [if_neg (by decide +kernel)];exact ⟨rfl,rfl⟩))
    (fun os started H enc _=>zgp os started H enc)
theorem holds:Rows.WitnessTogetherCardSaid:=
  Claim7.holds_tied_plain_at .later [] [.data, .data, .data] true (true, "b058ca6a5d8bd6675ccef3ced02f7ff2ab9252a87f4ffe3492fe47a417083e47") false
    zi7 (fun _ h=>by cases h) (by kernel_rfl) (fun _ h=>by cases h) witnessTogether_row_tie rfl ⟨rfl,rfl⟩ (by kernel_rfl) rfl
    (fun f fn hf hfn=>by
      obtain rfl : f = 8 := Option.some.inj ((show Tryz.prog.funcNamed "estoppel/estoppellaw22.WitnessTogether" = some 8 by kernel_rfl).symm.trans hf) |>.symm
      obtain rfl:fn=Tryz.f8:=(Option.some.inj (Tryz.func8.symm.trans hfn)).symm
      refine ⟨by kernel_rfl,fun j t ht => ?_⟩
      have hall:(Tryz.f8.params.toList.all fun t=>!(Tryz.prog.wantsStandIn t))=true:=by kernel_rfl
      have:=List.all_eq_true.1 hall t (by rw [Array.mem_toList_iff];exact Array.mem_of_getElem? ht)
      have h2:Tryz.prog.wantsStandIn t=false:=by simpa using this
      exact h2)
    (by kernel_rfl)
end Go.Proofs.YtmoedieenlaegaaGreatDoor.LWitnessTogether
namespace Go.Proofs.YtmoedieenlaegaaGreatDoor
theorem witnessTogether_holds:Rows.WitnessTogetherCardSaid:=LWitnessTogether.holds
end Go.Proofs.YtmoedieenlaegaaGreatDoor
