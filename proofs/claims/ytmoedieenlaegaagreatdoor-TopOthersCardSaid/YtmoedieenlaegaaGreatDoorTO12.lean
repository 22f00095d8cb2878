/-
  'TopOthers': for every input the call returns true, and each argument reads afterwards as it read before.
  The tables of the library that the rows list: from the row's condition to what the contracts ask; the witness.
  TopOthers: what others can force does not depend on who they are.
  The fixed example of the laws about witnesses at the top: returns true. Printed by mkheads.py.
  The fixed examples of the laws of layer 22: 'head' returns true. Printed by mkheads.py.
  Functions of the program as the kernel reckons them: with fuel, and texts of small numbers. Printed by mkheads.py.
-/
import Derived.Test.YtmoedieenlaegaaGreatDoorTO11
import Derived.Test.YtmoedieenlaegaaGreatDoorRows
import Derived.Test.YtmoedieenlaegaaGreatDoorTO10
import Derived.LaidLaws
import Derived.LaidSub
import Derived.Deep.DeepLaidRun
import Derived.Lib.LaidTab
import Derived.JoinedOf
import Derived.Test.YtmoedieenlaegaaGreatDoorTO06
import Derived.Test.YtmoedieenlaegaaGreatDoorTie
import Derived.Test.YtmoedieenlaegaaGreatDoorCards
import Derived.SevenTiedAt
namespace Go.Proofs.YtmoedieenlaegaaGreatDoor
set_option linter.unusedSimpArgs false
set_option linter.unusedVariables false
set_option maxRecDepth 100000
def Le {α:Type} (x y:Option α):Prop:=∀ r,x=some r→y=some r
theorem Le.refl {α:Type} (x:Option α):Le x x:=fun _ h=>h
theorem Le.bind {α β:Type} {x y:Option α} {f g:α→Option β} (h:Le x y) (hf:∀ a,Le (f a) (g a)):Le (x.bind f) (y.bind g):=fun r hr=>by
  obtain ⟨a,h1,h2⟩:=Option.bind_eq_some_iff.1 hr
  rw [h a h1];exact hf a r h2
theorem Le.cond {α:Type} (b:Bool) {x y x' y':Option α} (h1:Le x x') (h2:Le y y'):Le (bif b then x else y) (bif b then x' else y'):=by
  cases b
  · exact h2
  · exact h1
theorem Le.elim {α β γ:Type} {f f':α→Option γ} {g g':β→Option γ} (h1:∀ a,Le (f a) (f' a)) (h2:∀ a,Le (g a) (g' a)) (o:α ⊕ β):Le (Sum.elim f g o) (Sum.elim f' g' o):=by
  cases o
  · exact h1 _
  · exact h2 _
theorem Le.forFrom {σ ρ:Type} {f g:Nat→σ→Option (σ ⊕ ρ)} (h:∀ i s,Le (f i s) (g i s)):∀ (k i:Nat) (s:σ),Le (forFrom f i k s) (forFrom g i k s)
  | 0,i,s=>Le.refl _
  | k+1,i,s=>fun r hr=>by
    simp only [Go.Proofs.YtmoedieenlaegaaGreatDoor.forFrom] at hr ⊢
    split at hr
    · cases hr
    · rename_i e;rw [h i s _ e];exact hr
    · rename_i e;rw [h i s _ e];exact Le.forFrom h k (i+1) _ r hr
theorem Le.forR {σ ρ:Type} {f g:Nat→σ→Option (σ ⊕ ρ)} (h:∀ i s,Le (f i s) (g i s)) (n:Int) (s:σ):Le (forR n f s) (forR n g s):=fun r hr=>by
  obtain ⟨h1,h2⟩:=Vk hr
  rw [yB h1];exact Le.forFrom h _ _ _ r h2
theorem Le.iterN {σ ρ:Type} {f g:σ→Option (σ ⊕ ρ)} (h:∀ s,Le (f s) (g s)):∀ (k:Nat) (s:σ),Le (Go.Proofs.YtmoedieenlaegaaGreatDoor.iterN f k s) (Go.Proofs.YtmoedieenlaegaaGreatDoor.iterN g k s)
  | 0,s=>Le.refl _
  | k+1,s=>fun r hr=>by
    simp only [Go.Proofs.YtmoedieenlaegaaGreatDoor.iterN] at hr ⊢
    split at hr
    · cases hr
    · rename_i e;rw [h s _ e];exact hr
    · rename_i e;rw [h s _ e];exact Le.iterN h k _ r hr
theorem Le.iter {σ ρ:Type} {f g:σ→Option (σ ⊕ ρ)} (h:∀ s,Le (f s) (g s)) (k:Nat) (s:σ):Le (Go.Proofs.YtmoedieenlaegaaGreatDoor.iterN f k s) (Go.Proofs.YtmoedieenlaegaaGreatDoor.iter g s):=fun r hr=>vN.2 ⟨k,Le.iterN h k s r hr⟩
def WV:Nat→Nat→List UInt8
  | 0,u=>[]
  | f+1,u=>if u < 10 then [UInt8.ofNat (48+u)] else WV f (u / 10)++[UInt8.ofNat (48+u % 10)]
theorem WW:∀ (f u:Nat),u < 10 ^ (f+1)→WV (f+1) u=Lib.decDigits u
  | 0,u,h=>by
    rw [Lib.decDigits]
    simp only [WV]
    rw [if_pos (by omega),dif_pos (by omega)]
  | f+1,u,h=>by
    rw [Lib.decDigits,WV]
    by_cases hu:u < 10
    · rw [if_pos hu,dif_pos hu]
    · rw [if_neg hu,dif_neg hu,WW f (u / 10) (by rw [Nat.pow_succ] at h;omega)]
def xn (n:Int):Bool:=decide (-1000 < n)&&decide (n < 1000)
def zbU (n:Int):List UInt8:=if n < 0 then 45::WV 4 n.natAbs else WV 4 n.toNat
theorem zeT {n:Int} (h:xn n=true):zbU n=Lib.itoa n:=by
  simp only [xn,Bool.and_eq_true,decide_eq_true_eq] at h
  unfold zbU Lib.itoa
  rw [WW 3 n.natAbs (by omega),WW 3 n.toNat (by omega)]
def vj (n:Int):List UInt8:=zbU n++[32]
theorem yr {n:Int} (h:xn n=true):vj n=zO n:=by unfold vj zO;rw [zeT h]
def zfk (m:MarkT):List UInt8:=vj m.status++vj m.left++vj m.got++vj m.bearer++qe m.paused
def Kx (m:MarkT):Bool:=xn m.status&&(xn m.left&&(xn m.got&&xn m.bearer))
def Wg (p:PosT):List UInt8:=qe p.own++vj p.state.day++p.state.holders.flatMap vj++p.state.used.flatMap qe++p.state.marks.flatMap zfk
def QK (p:PosT):Bool:=xn p.state.day&&(p.state.holders.all xn&&p.state.marks.all Kx)
theorem yP {α β:Type} {f g:α→List β}:∀ {l:List α},(∀ a∈l,f a=g a)→l.flatMap f=l.flatMap g
  | [],_=>rfl
  | a::l,h=>by rw [List.flatMap_cons,List.flatMap_cons,h a List.mem_cons_self,yP fun b hb=>h b (List.mem_cons_of_mem _ hb)]
theorem zeU {p:PosT} (h:QK p=true):Wg p=z6 p:=by
  simp only [QK,Bool.and_eq_true,List.all_eq_true] at h
  unfold Wg z6
  rw [yr h.1,yP (f:=vj) (g:=zO) (fun a ha=>yr (h.2.1 a ha)),yP (f:=zfk) (g:=jy) (fun a ha=>by
    have:=h.2.2 a ha
    simp only [Kx,Bool.and_eq_true] at this
    show vj a.status++vj a.left++vj a.got++vj a.bearer++qe a.paused=zO a.status++zO a.left++zO a.got++zO a.bearer++qe a.paused
    rw [yr this.1,yr this.2.1,yr this.2.2.1,yr this.2.2.2])]
theorem vk {n:Int} (h:xn n=true):xc n=true:=by
  simp only [xn,xc,Bool.and_eq_true,decide_eq_true_eq] at h ⊢
  omega
def wD (p:PosT):Option ByteArray:=bif QK p&&decide ((Wg p).length≤1000000000) then some ⟨(Wg p).toArray⟩ else none
theorem Jg (p:PosT):Le (wD p) (ja p):=fun r h=>by
  unfold wD at h
  cases hq:(QK p&&decide ((Wg p).length≤1000000000)) with
  | false=>rw [hq] at h;cases h
  | true=>
    rw [hq] at h
    simp only [Bool.and_eq_true,decide_eq_true_eq] at hq
    have e:=zeU hq.1
    unfold ja
    rw [if_pos,←e]
    · exact h
    · have h1:=hq.1
      simp only [QK,Bool.and_eq_true,List.all_eq_true] at h1
      simp only [okP,Bool.and_eq_true,decide_eq_true_eq,List.all_eq_true]
      refine ⟨⟨⟨vk h1.1,fun x hx=>vk (h1.2.1 x hx)⟩,fun m hm => ?_⟩,by rw [←e];exact hq.2⟩
      have:=h1.2.2 m hm
      simp only [Kx,Bool.and_eq_true] at this
      exact ⟨⟨⟨vk this.1,vk this.2.1⟩,vk this.2.2.1⟩,vk this.2.2.2⟩
noncomputable def Wh (p1:ContractT) (p2:Int) (p3:List Int) (p4:Nat) (p5:List Bool) (p6:Nat) (p7:List MarkT) (p8:Nat):Option ((List MarkT)):=
  (Option.bind (iterN (σ:=Bool×(List MarkT)) (ρ:=(List MarkT)) (fun s1=>(bif s1.1 then (Option.bind (forR (σ:=Bool×(List MarkT)) (ρ:=Unit) (p1.clauses.length:Int) (fun i2 s2=>(Option.bind (Option.bind (ze p1.clauses (i2:Int)) fun e1=>(Option.bind (eqN p4 p3.length) fun g1=>(Option.bind (eqN p6 p5.length) fun g2=>(Option.bind (eqN p8 s2.2.length) fun g3=>(Option.bind (wU p1 ({day:=p2,holders:=p3,used:=p5,marks:=s2.2}:StateT) (i2:Int)) fun r1=>(bif r1 then (Option.bind (bif (e1.kind == 4) then some (-1) else (Option.bind (zl p4 e1.role) fun k1=>(Option.bind (p3[k1]?) fun e2=>some e2))) fun (v1:Int)=>(Option.bind (zl p8 (i2:Int)) fun k2=>(Option.bind (s2.2[k2]?) fun e3=>some (true,(s2.2.set k2 ({status:=1,left:=e1.after,got:=0,bearer:=v1,paused:=false}:MarkT)))))) else some (s2.1,s2.2))))))) fun (v2:Bool×(List MarkT))=>some (.inl (v2.1,v2.2)))) (false,s1.2)) (Sum.elim (fun (s2:Bool×(List MarkT))=>some (.inl (s2.1,s2.2))) (fun _=>none))) else some (.inr s1.2))) 40 (true,p7)) (fun (y1:(List MarkT))=>some y1))
theorem Ky (p1:ContractT) (p2:Int) (p3:List Int) (p4:Nat) (p5:List Bool) (p6:Nat) (p7:List MarkT) (p8:Nat):Le (Wh p1 p2 p3 p4 p5 p6 p7 p8) (xP p1 p2 p3 p4 p5 p6 p7 p8):=by
  unfold Wh xP
  repeat' (first | with_reducible exact Le.refl _ | with_reducible refine Le.bind ?_ (fun _ => ?_) | with_reducible refine Le.cond _ ?_ ?_ | with_reducible refine Le.forR (fun _ _ => ?_) _ _ | with_reducible refine Le.iter (fun _ => ?_) _ _ | with_reducible refine Le.elim (fun _ => ?_) (fun _ => ?_) _)
noncomputable def WX (c:ContractT):Option (StateT×Int):=
  (Option.bind (wT c) fun r1=>(bif (r1.1 == 0) then (Option.bind (q9 8 c.holders) fun e1=>(Option.bind (mkN 1 (c.acts.length:Int)) fun k1=>(Option.bind (mkN 40 (c.clauses.length:Int)) fun k2=>(Option.bind (forR (σ:=(List MarkT)) (ρ:=Unit) (c.clauses.length:Int) (fun i1 s1=>(Option.bind (Option.bind (ze c.clauses (i1:Int)) fun e2=>(Option.bind (zl k2 (i1:Int)) fun k3=>(Option.bind (s1[k3]?) fun e3=>(bif e2.waived then (Option.bind (zl k2 (i1:Int)) fun k4=>(Option.bind ((s1.set k3 ({status:=0,left:=0,got:=0,bearer:=(-1),paused:=false}:MarkT))[k4]?) fun e4=>some ((s1.set k3 ({status:=0,left:=0,got:=0,bearer:=(-1),paused:=false}:MarkT)).set k4 ({e4 with status:=5}:MarkT)))) else some (s1.set k3 ({status:=0,left:=0,got:=0,bearer:=(-1),paused:=false}:MarkT)))))) fun (v1:(List MarkT))=>some (.inl v1))) (List.replicate k2 ({status:=0,left:=0,got:=0,bearer:=0,paused:=false}:MarkT))) (Sum.elim (fun (s1:(List MarkT))=>(Option.bind (Wh c 0 e1 e1.length (List.replicate k1 false) k1 s1 k2) fun r2=>(Option.bind (eqN k1 (List.replicate k1 false).length) fun g1=>(Option.bind (eqN k2 r2.length) fun g2=>some (({day:=0,holders:=e1,used:=(List.replicate k1 false),marks:=r2}:StateT),0))))) (fun _=>none)))))) else some (({day:=0,holders:=[],used:=[],marks:=[]}:StateT),1)))
theorem zeV (c:ContractT):Le (WX c) (qK c):=by
  unfold WX qK
  repeat' (first | with_reducible exact Le.refl _ | with_reducible exact Ky _ _ _ _ _ _ _ _ | with_reducible refine Le.bind ?_ (fun _ => ?_) | with_reducible refine Le.cond _ ?_ ?_ | with_reducible refine Le.forR (fun _ _ => ?_) _ _ | with_reducible refine Le.iter (fun _ => ?_) _ _ | with_reducible refine Le.elim (fun _ => ?_) (fun _ => ?_) _)
noncomputable def vl (l:List Int) (v:Int):Option (Int×Bool):=
  (Option.bind (Option.bind (iterN (σ:=Int×Int) (ρ:=Int) (fun s1=>(bif decide (s1.1 < s1.2) then (Option.bind (Z8 .u64 .u64 (IntKind.u64.wrap (IntKind.i64.wrap (s1.1+s1.2))) 1) fun e1=>(Option.bind (ze l (IntKind.i64.wrap e1)) fun e2=>(Option.bind (kR e2 v) fun r1=>(bif r1 then some (.inl ((IntKind.i64.wrap ((IntKind.i64.wrap e1)+1)),s1.2)) else some (.inl (s1.1,(IntKind.i64.wrap e1))))))) else some (.inr s1.1))) 40 (0,(l.length:Int))) (fun (y1:Int)=>some y1)) fun (v1:Int)=>(Option.bind (bif decide (v1 < (l.length:Int)) then (Option.bind (ze l v1) fun e3=>(bif (e3 == v) then some true else (Option.bind (yn e3) fun r2=>(bif r2 then (Option.bind (yn v) fun r3=>some r3) else some false)))) else some false) fun v2=>some (v1,v2)))
theorem Wi (l:List Int) (v:Int):Le (vl l v) (jg l v):=by
  unfold vl jg
  repeat' (first | with_reducible exact Le.refl _ | with_reducible refine Le.bind ?_ (fun _ => ?_) | with_reducible refine Le.cond _ ?_ ?_ | with_reducible refine Le.forR (fun _ _ => ?_) _ _ | with_reducible refine Le.iter (fun _ => ?_) _ _ | with_reducible refine Le.elim (fun _ => ?_) (fun _ => ?_) _)
noncomputable def zbV (p1:ContractT) (p2:Int) (p3:List Int) (p4:Nat) (p5:List Bool) (p6:Nat) (p7:List MarkT) (p8:Nat):Option ((List MarkT)):=
  (Option.bind (vl p1.off p2) fun r1=>(Option.bind (Option.bind (jP p1 p2 p3 p4 p5 p6 p7 p8) fun r2=>(Option.bind (forR (σ:=(List MarkT)) (ρ:=(List MarkT)) (p8:Int) (fun i1 s1=>(Option.bind (Option.bind (zl p8 (i1:Int)) fun k1=>(Option.bind (s1[k1]?) fun e1=>(Option.bind (je e1) fun r3=>(bif r3 then (Option.bind (Option.bind (ze p1.clauses (i1:Int)) fun e2=>(Option.bind (Option.bind (zl p8 (i1:Int)) fun k2=>(Option.bind (s1[k2]?) fun e3=>(bif e3.paused then some true else (bif e2.business then some r1.2 else some false)))) fun v1=>(bif v1 then some s1 else (Option.bind (zl p8 (i1:Int)) fun k3=>(Option.bind (s1[k3]?) fun e4=>(Option.bind (zl p8 (i1:Int)) fun k4=>(Option.bind ((s1.set k3 ({e4 with left:=(IntKind.i64.wrap (e4.left - 1))}:MarkT))[k4]?) fun e5=>(bif (e5.left == 0) then (Option.bind (bif (e2.kind == (0:Int)) then none else (bif (e2.kind == (1:Int)) then (Option.bind (XO (i1:Int) p1 p2 p3 p4 p5 p6 (s1.set k3 ({e4 with left:=(IntKind.i64.wrap (e4.left - 1))}:MarkT)) p8) fun r7=>some r7) else (bif (e2.kind == (2:Int)) then (Option.bind (xQ (i1:Int) p1 p2 p3 p4 p5 p6 (s1.set k3 ({e4 with left:=(IntKind.i64.wrap (e4.left - 1))}:MarkT)) p8) fun r6=>some r6) else (bif (e2.kind == (3:Int)) then (Option.bind (kh (i1:Int) p1 p2 p3 p4 p5 p6 (s1.set k3 ({e4 with left:=(IntKind.i64.wrap (e4.left - 1))}:MarkT)) p8) fun r5=>some r5) else (bif (e2.kind == (4:Int)) then (Option.bind (kh (i1:Int) p1 p2 p3 p4 p5 p6 (s1.set k3 ({e4 with left:=(IntKind.i64.wrap (e4.left - 1))}:MarkT)) p8) fun r4=>some r4) else none))))) fun v2=>some v2) else some (s1.set k3 ({e4 with left:=(IntKind.i64.wrap (e4.left - 1))}:MarkT)))))))))) fun (v3:(List MarkT))=>some ((!true),v3)) else some (false,s1))))) fun (v4:Bool×(List MarkT))=>(bif v4.1 then some (.inr v4.2) else some (.inl v4.2)))) p7) (Sum.elim (fun (s1:(List MarkT))=>some s1) (fun (y1:(List MarkT))=>some y1)))) fun (v5:(List MarkT))=>(Option.bind (Wh p1 (IntKind.i64.wrap (p2+1)) p3 p4 p5 p6 v5 p8) fun r8=>some r8)))
theorem zhJ (p1:ContractT) (p2:Int) (p3:List Int) (p4:Nat) (p5:List Bool) (p6:Nat) (p7:List MarkT) (p8:Nat):Le (zbV p1 p2 p3 p4 p5 p6 p7 p8) (d_70a p1 p2 p3 p4 p5 p6 p7 p8):=by
  unfold zbV d_70a
  repeat' (first | with_reducible exact Le.refl _ | with_reducible exact Wi _ _ | with_reducible exact Ky _ _ _ _ _ _ _ _ | with_reducible refine Le.bind ?_ (fun _ => ?_) | with_reducible refine Le.cond _ ?_ ?_ | with_reducible refine Le.forR (fun _ _ => ?_) _ _ | with_reducible refine Le.iter (fun _ => ?_) _ _ | with_reducible refine Le.elim (fun _ => ?_) (fun _ => ?_) _)
noncomputable def zbW (p1:Int) (p2:ContractT) (p3:Int) (p4:List Int) (p5:Nat) (p6:List Bool) (p7:Nat) (p8:List MarkT) (p9:Nat):Option ((List Int)×(List Bool)×(List MarkT)):=
  (Option.bind (ze p2.acts p1) fun e1=>(Option.bind (bif (e1.kind == 1) then some false else (Option.bind (zl p7 p1) fun k1=>(Option.bind (p6[k1]?) fun e2=>some e2))) fun v1=>(bif v1 then some (p4,p6,p8) else (Option.bind (Option.bind (jP p2 p3 p4 p5 p6 p7 p8 p9) fun r1=>(Option.bind (forR (σ:=(List MarkT)) (ρ:=(List MarkT)) (p9:Int) (fun i1 s1=>(Option.bind (Option.bind (zl p9 (i1:Int)) fun k2=>(Option.bind (s1[k2]?) fun e3=>(Option.bind (je e3) fun r2=>(bif r2 then (Option.bind (Option.bind (ze p2.clauses (i1:Int)) fun e4=>(bif (p1 == e4.pause) then (Option.bind (zl p9 (i1:Int)) fun k3=>(Option.bind (s1[k3]?) fun e5=>some (s1.set k3 ({e5 with paused:=true}:MarkT)))) else (Option.bind (ze p2.clauses (i1:Int)) fun e6=>(bif (p1 == e6.resume) then (Option.bind (zl p9 (i1:Int)) fun k4=>(Option.bind (s1[k4]?) fun e7=>some (s1.set k4 ({e7 with paused:=false}:MarkT)))) else some s1)))) fun (v2:(List MarkT))=>some ((!true),v2)) else some (false,s1))))) fun (v3:Bool×(List MarkT))=>(bif v3.1 then some (.inr v3.2) else some (.inl v3.2)))) p8) (Sum.elim (fun (s1:(List MarkT))=>some s1) (fun (y1:(List MarkT))=>some y1)))) fun (v4:(List MarkT))=>(Option.bind (eqN p5 p4.length) fun g1=>(Option.bind (eqN p7 p6.length) fun g2=>(Option.bind (eqN p9 v4.length) fun g3=>(Option.bind (kS p2 ({day:=p3,holders:=p4,used:=p6,marks:=v4}:StateT) p1) fun r3=>(Option.bind (Option.bind (jP p2 p3 p4 p5 p6 p7 v4 p9) fun r4=>(Option.bind (forR (σ:=(List MarkT)) (ρ:=(List MarkT)) (p9:Int) (fun i2 s2=>(Option.bind (Option.bind (zl p9 (i2:Int)) fun k5=>(Option.bind (s2[k5]?) fun e8=>(Option.bind (je e8) fun r5=>(bif r5 then (Option.bind (Option.bind (ze p2.clauses (i2:Int)) fun e9=>(Option.bind (bif (e9.act == p1) then (bif (e9.kind == 4) then some true else (Option.bind (zl p9 (i2:Int)) fun k6=>(Option.bind (s2[k6]?) fun e10=>some (e10.bearer == r3)))) else some false) fun v5=>(bif v5 then (Option.bind (bif (e9.kind == (0:Int)) then none else (bif (e9.kind == (1:Int)) then (Option.bind (XQ (i2:Int) p2 p3 p4 p5 p6 p7 s2 p9) fun r9=>some r9) else (bif (e9.kind == (2:Int)) then (Option.bind (XP (i2:Int) p2 p3 p4 p5 p6 p7 s2 p9) fun r8=>some r8) else (bif (e9.kind == (3:Int)) then (Option.bind (xQ (i2:Int) p2 p3 p4 p5 p6 p7 s2 p9) fun r7=>some r7) else (bif (e9.kind == (4:Int)) then (Option.bind (xQ (i2:Int) p2 p3 p4 p5 p6 p7 s2 p9) fun r6=>some r6) else none))))) fun v6=>some v6) else some s2))) fun (v7:(List MarkT))=>some ((!true),v7)) else some (false,s2))))) fun (v8:Bool×(List MarkT))=>(bif v8.1 then some (.inr v8.2) else some (.inl v8.2)))) v4) (Sum.elim (fun (s2:(List MarkT))=>some s2) (fun (y2:(List MarkT))=>some y2)))) fun (v9:(List MarkT))=>(Option.bind (bif (e1.kind == 1) then some (p4,p6,v9) else (Option.bind (XR p1 p2 p3 p4 p5 p6 p7 v9 p9) fun r10=>some (r10.1,r10.2.1,r10.2.2))) fun (v10:(List Int)×(List Bool)×(List MarkT))=>(Option.bind (Wh p2 p3 v10.1 p5 v10.2.1 p7 v10.2.2 p9) fun r11=>some (v10.1,v10.2.1,r11))))))))))))
theorem zhK (p1:Int) (p2:ContractT) (p3:Int) (p4:List Int) (p5:Nat) (p6:List Bool) (p7:Nat) (p8:List MarkT) (p9:Nat):Le (zbW p1 p2 p3 p4 p5 p6 p7 p8 p9) (Zy p1 p2 p3 p4 p5 p6 p7 p8 p9):=by
  unfold zbW Zy
  repeat' (first | with_reducible exact Le.refl _ | with_reducible exact Ky _ _ _ _ _ _ _ _ | with_reducible refine Le.bind ?_ (fun _ => ?_) | with_reducible refine Le.cond _ ?_ ?_ | with_reducible refine Le.forR (fun _ _ => ?_) _ _ | with_reducible refine Le.iter (fun _ => ?_) _ _ | with_reducible refine Le.elim (fun _ => ?_) (fun _ => ?_) _)
noncomputable def yQ (c:ContractT) (s:StateT) (step:Int):Option (StateT×Int):=
  (Option.bind (Option.bind (q7 c s) fun r1=>(bif r1 then (bif decide (step < (-1)) then some true else some (decide ((c.acts.length:Int)≤step))) else some true)) fun v1=>(bif v1 then some (({day:=0,holders:=[],used:=[],marks:=[]}:StateT),1) else (bif (s.day == c.days) then some (({day:=0,holders:=[],used:=[],marks:=[]}:StateT),13) else (Option.bind (mkN 8 (s.holders.length:Int)) fun k1=>(Option.bind (mkN 1 (s.used.length:Int)) fun k2=>(Option.bind (mkN 40 (s.marks.length:Int)) fun k3=>(Option.bind (xa (α:=Int) k1 (List.replicate k1 0) s.holders) fun e1=>(Option.bind (xa (α:=Bool) k2 (List.replicate k2 false) s.used) fun e2=>(Option.bind (xa (α:=MarkT) k3 (List.replicate k3 ({status:=0,left:=0,got:=0,bearer:=0,paused:=false}:MarkT)) s.marks) fun e3=>(Option.bind (bif (step == (-1)) then (Option.bind (zbV c s.day e1 k1 e2 k2 e3 k3) fun r2=>some (e1,e2,r2,(IntKind.i64.wrap (s.day+1)))) else (Option.bind (zbW step c s.day e1 k1 e2 k2 e3 k3) fun r3=>some (r3.1,r3.2.1,r3.2.2,s.day))) fun (v2:(List Int)×(List Bool)×(List MarkT)×Int)=>(Option.bind (eqN k1 v2.1.length) fun g1=>(Option.bind (eqN k2 v2.2.1.length) fun g2=>(Option.bind (eqN k3 v2.2.2.1.length) fun g3=>some (({day:=v2.2.2.2,holders:=v2.1,used:=v2.2.1,marks:=v2.2.2.1}:StateT),0))))))))))))))
theorem WY (c:ContractT) (s:StateT) (step:Int):Le (yQ c s step) (d_Step c s step):=by
  unfold yQ d_Step
  repeat' (first | with_reducible exact Le.refl _ | with_reducible exact zhJ _ _ _ _ _ _ _ _ | with_reducible exact zhK _ _ _ _ _ _ _ _ _ | with_reducible refine Le.bind ?_ (fun _ => ?_) | with_reducible refine Le.cond _ ?_ ?_ | with_reducible refine Le.forR (fun _ _ => ?_) _ _ | with_reducible refine Le.iter (fun _ => ?_) _ _ | with_reducible refine Le.elim (fun _ => ?_) (fun _ => ?_) _)
noncomputable def Wj (c:ContractT) (party:Int) (p:PosT):Option (ArenaT×Int):=
  (Option.bind (jN c party p) fun r1=>(bif r1 then (Option.bind (jO p.state) fun r2=>(Option.bind (wD p) fun r3=>(Option.bind (α:=((List PosT)×(List (List MoveT))) ⊕ Unit) (Option.bind (iterN (σ:=Int×(List PosT)×(List (List MoveT))×(List (ByteArray×Int))) (ρ:=((List PosT)×(List (List MoveT))) ⊕ Unit) (fun s1=>(bif decide (s1.1 < (s1.2.1.length:Int)) then (Option.bind (α:=((List PosT)×(List (ByteArray×Int))×(List MoveT)) ⊕ Unit) (Option.bind (ze s1.2.1 s1.1) fun e1=>(Option.bind (XM c party e1) fun r4=>(Option.bind (α:=((List PosT)×(List (ByteArray×Int))×(List MoveT)) ⊕ (Unit ⊕ ((List PosT)×(List (ByteArray×Int))×(List MoveT)))) (bif e1.own then (Option.bind (jO e1.state) fun r5=>(Option.bind (wD ({state:=r5,own:=false}:PosT)) fun r6=>(Option.bind (α:=(Int×(List PosT)×(List (ByteArray×Int))) ⊕ Unit) (bif ((zy r6 s1.2.2.2).isSome) then some (.inl (((zy r6 s1.2.2.2).getD 0),s1.2.1,s1.2.2.2)) else (bif ((s1.2.1.length:Int) == 1500) then some (.inr ()) else (Option.bind (zT (α:=PosT) 88 s1.2.1 [({state:=r5,own:=false}:PosT)]) fun e2=>some (.inl ((s1.2.1.length:Int),e2,(qh r6 (s1.2.1.length:Int) s1.2.2.2)))))) (Sum.elim (fun (v1:Int×(List PosT)×(List (ByteArray×Int)))=>(Option.bind (zT (α:=MoveT) 16 [] [({step:=(-2),to:=v1.1}:MoveT)]) fun e3=>(bif decide (c.days≤e1.state.day) then some (.inr (.inr (v1.2.1,v1.2.2,e3))) else some (.inl (v1.2.1,v1.2.2,e3))))) (fun (y1:Unit)=>some (.inr (.inl ()))))))) else (bif decide (c.days≤e1.state.day) then some (.inr (.inr (s1.2.1,s1.2.2.2,[]))) else some (.inl (s1.2.1,s1.2.2.2,[])))) (Sum.elim (fun (v2:(List PosT)×(List (ByteArray×Int))×(List MoveT))=>(Option.bind (α:=((List PosT)×(List (ByteArray×Int))×(List MoveT)) ⊕ Unit) (bif e1.own then some (.inl (v2.1,v2.2.1,v2.2.2)) else (Option.bind (yQ c e1.state (-1)) fun r7=>(Option.bind (wD ({state:=r7.1,own:=true}:PosT)) fun r8=>(Option.bind (α:=(Int×(List PosT)×(List (ByteArray×Int))) ⊕ Unit) (bif ((zy r8 v2.2.1).isSome) then some (.inl (((zy r8 v2.2.1).getD 0),v2.1,v2.2.1)) else (bif ((v2.1.length:Int) == 1500) then some (.inr ()) else (Option.bind (zT (α:=PosT) 88 v2.1 [({state:=r7.1,own:=true}:PosT)]) fun e4=>some (.inl ((v2.1.length:Int),e4,(qh r8 (v2.1.length:Int) v2.2.1)))))) (Sum.elim (fun (v3:Int×(List PosT)×(List (ByteArray×Int)))=>(Option.bind (zT (α:=MoveT) 16 v2.2.2 [({step:=(-1),to:=v3.1}:MoveT)]) fun e5=>some (.inl (v3.2.1,v3.2.2,e5)))) (fun (y4:Unit)=>some (.inr ()))))))) (Sum.elim (fun (v4:(List PosT)×(List (ByteArray×Int))×(List MoveT))=>(Option.bind (forR (σ:=(List PosT)×(List (ByteArray×Int))×(List MoveT)) (ρ:=(List PosT)×(List (ByteArray×Int))×(List MoveT)) (c.acts.length:Int) (fun i2 s2=>(Option.bind (α:=((List PosT)×(List (ByteArray×Int))×(List MoveT)) ⊕ Unit) (Option.bind (ze c.acts (i2:Int)) fun e6=>(Option.bind (bif (e6.role == (-1)) then some (-1) else (Option.bind (ze e1.state.holders e6.role) fun e7=>some e7)) fun (v5:Int)=>(bif ((v5 == party) == e1.own) then (Option.bind (yQ c e1.state (i2:Int)) fun r9=>(Option.bind (wW r9.1 e1.state) fun r10=>(bif r10 then some (.inl (s2.1,s2.2.1,s2.2.2)) else (Option.bind (wD ({state:=r9.1,own:=true}:PosT)) fun r11=>(Option.bind (α:=(Int×(List PosT)×(List (ByteArray×Int))) ⊕ Unit) (bif ((zy r11 s2.2.1).isSome) then some (.inl (((zy r11 s2.2.1).getD 0),s2.1,s2.2.1)) else (bif ((s2.1.length:Int) == 1500) then some (.inr ()) else (Option.bind (zT (α:=PosT) 88 s2.1 [({state:=r9.1,own:=true}:PosT)]) fun e8=>some (.inl ((s2.1.length:Int),e8,(qh r11 (s2.1.length:Int) s2.2.1)))))) (Sum.elim (fun (v6:Int×(List PosT)×(List (ByteArray×Int)))=>(Option.bind (zT (α:=MoveT) 16 s2.2.2 [({step:=(i2:Int),to:=v6.1}:MoveT)]) fun e9=>some (.inl (v6.2.1,v6.2.2,e9)))) (fun (y6:Unit)=>some (.inr ())))))))) else some (.inl (s2.1,s2.2.1,s2.2.2))))) (Sum.elim (fun (v7:(List PosT)×(List (ByteArray×Int))×(List MoveT))=>some (.inl (v7.1,v7.2.1,v7.2.2))) (fun (y7:Unit)=>some (.inr (s2.1,s2.2.1,s2.2.2)))))) (v4.1,v4.2.1,v4.2.2)) (Sum.elim (fun (s2:(List PosT)×(List (ByteArray×Int))×(List MoveT))=>some (.inl (s2.1,s2.2.1,s2.2.2))) (fun (y8:(List PosT)×(List (ByteArray×Int))×(List MoveT))=>some (.inr ()))))) (fun (y5:Unit)=>some (.inr ()))))) (Sum.elim (fun (y2:Unit)=>some (.inr ())) (fun (y3:(List PosT)×(List (ByteArray×Int))×(List MoveT))=>some (.inl (y3.1,y3.2.1,y3.2.2)))))))) (Sum.elim (fun (v8:(List PosT)×(List (ByteArray×Int))×(List MoveT))=>(Option.bind (zT (α:=List MoveT) 24 s1.2.2.1 [v8.2.2]) fun e10=>some (.inl ((IntKind.i64.wrap (s1.1+1)),v8.1,e10,v8.2.1)))) (fun (y9:Unit)=>some (.inr (.inr ()))))) else some (.inr (.inl (s1.2.1,s1.2.2.1))))) 40 (0,[({state:=r2,own:=p.own}:PosT)],[],(qh r3 0 []))) (Sum.elim (fun (y10:(List PosT)×(List (List MoveT)))=>some (.inl (y10.1,y10.2))) (fun (y11:Unit)=>some (.inr ())))) (Sum.elim (fun (v9:(List PosT)×(List (List MoveT)))=>some (({party:=party,positions:=v9.1,moves:=v9.2}:ArenaT),0)) (fun (y12:Unit)=>some (({party:=0,positions:=[],moves:=[]}:ArenaT),3)))))) else some (({party:=0,positions:=[],moves:=[]}:ArenaT),1)))
theorem zaQ (c:ContractT) (party:Int) (p:PosT):Le (Wj c party p) (jS c party p):=by
  unfold Wj jS
  repeat' (first | with_reducible exact Le.refl _ | with_reducible exact Jg _ | with_reducible exact WY _ _ _ | with_reducible refine Le.bind ?_ (fun _ => ?_) | with_reducible refine Le.cond _ ?_ ?_ | with_reducible refine Le.forR (fun _ _ => ?_) _ _ | with_reducible refine Le.iter (fun _ => ?_) _ _ | with_reducible refine Le.elim (fun _ => ?_) (fun _ => ?_) _)
noncomputable def Jh (c:ContractT) (a:ArenaT):Option (List Int):=
  (Option.bind (xl c a) fun r1=>(bif r1 then (Option.bind (mkN 8 (a.positions.length:Int)) fun k1=>(Option.bind (mkN 8 (a.positions.length:Int)) fun k2=>(Option.bind (mkN 24 (a.positions.length:Int)) fun k3=>(Option.bind (forR (σ:=(List Int)×(List Int)×(List (List Int))×(List Int)) (ρ:=Unit) (a.positions.length:Int) (fun i1 s1=>(Option.bind (Option.bind (ze a.positions (i1:Int)) fun e1=>(Option.bind (ze a.moves (i1:Int)) fun e2=>(Option.bind (zl k1 (i1:Int)) fun k4=>(Option.bind (s1.1[k4]?) fun e3=>(Option.bind (zl k2 (i1:Int)) fun k5=>(Option.bind (s1.2.1[k5]?) fun e4=>(Option.bind (ze a.moves (i1:Int)) fun e5=>(Option.bind (forR (σ:=(List (List Int))) (ρ:=Unit) (e5.length:Int) (fun i2 s2=>(Option.bind (ze e5 (i2:Int)) fun e6=>(Option.bind (wc s2 k3 e6.to (i1:Int)) fun v1=>some (.inl v1)))) s1.2.2.1) (Sum.elim (fun (s2:(List (List Int)))=>(Option.bind (Qj c e1.state a.party) fun r2=>(bif r2 then (Option.bind (zl k1 (i1:Int)) fun k6=>(Option.bind ((s1.1.set k4 (-1))[k6]?) fun e7=>(Option.bind (vV (i1:Int) s1.2.2.2 0) fun r3=>some (((s1.1.set k4 (-1)).set k6 0),(s1.2.1.set k5 (e2.length:Int)),s2,r3)))) else some ((s1.1.set k4 (-1)),(s1.2.1.set k5 (e2.length:Int)),s2,s1.2.2.2)))) (fun _=>none)))))))))) fun (v2:(List Int)×(List Int)×(List (List Int))×(List Int))=>some (.inl (v2.1,v2.2.1,v2.2.2.1,v2.2.2.2)))) ((List.replicate k1 0),(List.replicate k2 0),(List.replicate k3 []),[])) (Sum.elim (fun (s1:(List Int)×(List Int)×(List (List Int))×(List Int))=>(Option.bind (forR (σ:=(List Int)×(List Int)) (ρ:=Unit) (a.positions.length:Int) (fun i3 s3=>(Option.bind (Option.bind (ze a.positions (i3:Int)) fun e8=>(Option.bind (bif e8.own then (Option.bind (zl k2 (i3:Int)) fun k7=>(Option.bind (s1.2.1[k7]?) fun e9=>(bif (e9 == 0) then (Option.bind (zl k1 (i3:Int)) fun k8=>(Option.bind (s3.1[k8]?) fun e10=>some (e10 == (-1)))) else some false))) else some false) fun v3=>(bif v3 then (Option.bind (vW (i3:Int) 1 s3.1 k1 s3.2 0) fun r4=>some (r4.2,r4.1)) else some (s3.1,s3.2)))) fun (v4:(List Int)×(List Int))=>some (.inl (v4.1,v4.2)))) (s1.1,s1.2.2.2)) (Sum.elim (fun (s3:(List Int)×(List Int))=>(Option.bind (Option.bind (xH s3.2 0) fun r5=>(Option.bind (iterN (σ:=Int×Bool×(List Int)×(List Int)×(List Int)×Int) (ρ:=(List Int)) (fun s4=>(bif s4.2.1 then (Option.bind (zl k3 s4.1) fun k9=>(Option.bind (s1.2.2.1[k9]?) fun e11=>(Option.bind (forR (σ:=(List Int)×(List Int)×(List Int)) (ρ:=Unit) (e11.length:Int) (fun i5 s5=>(Option.bind (ze e11 (i5:Int)) fun e12=>(Option.bind (kT e12 s4.1 s5.2.1 k2 s5.1 k1 a s5.2.2 s4.2.2.2.2.2) fun r6=>some (.inl (r6.2.1,r6.1,r6.2.2))))) (s4.2.2.1,s4.2.2.2.1,s4.2.2.2.2.1)) (Sum.elim (fun (s5:(List Int)×(List Int)×(List Int))=>(Option.bind (xH s5.2.2 s4.2.2.2.2.2) fun r7=>some (.inl (r7.1,r7.2.1,s5.1,s5.2.1,s5.2.2,r7.2.2)))) (fun _=>none))))) else some (.inr s4.2.2.1))) 40 (r5.1,r5.2.1,s3.1,s1.2.1,s3.2,r5.2.2)) (fun (y1:(List Int))=>some y1))) fun (v5:(List Int))=>(Option.bind (eqN k1 v5.length) fun g1=>some v5))) (fun _=>none)))) (fun _=>none)))))) else some []))
theorem Kz (c:ContractT) (a:ArenaT):Le (Jh c a) (xv c a):=by
  unfold Jh xv
  repeat' (first | with_reducible exact Le.refl _ | with_reducible refine Le.bind ?_ (fun _ => ?_) | with_reducible refine Le.cond _ ?_ ?_ | with_reducible refine Le.forR (fun _ _ => ?_) _ _ | with_reducible refine Le.iter (fun _ => ?_) _ _ | with_reducible refine Le.elim (fun _ => ?_) (fun _ => ?_) _)
noncomputable def KB (c:ContractT) (a:ArenaT):Option (List Bool):=
  (Option.bind (Jh c a) fun r1=>(Option.bind (mkN 1 (r1.length:Int)) fun k1=>(Option.bind (forR (σ:=(List Bool)) (ρ:=Unit) (r1.length:Int) (fun i1 s1=>(Option.bind (ze r1 (i1:Int)) fun e1=>(Option.bind (zl k1 (i1:Int)) fun k2=>(Option.bind (s1[k2]?) fun e2=>some (.inl (s1.set k2 (e1 == (-1)))))))) (List.replicate k1 false)) (Sum.elim (fun (s1:(List Bool))=>(Option.bind (eqN k1 s1.length) fun g1=>some s1)) (fun _=>none)))))
theorem zge (c:ContractT) (a:ArenaT):Le (KB c a) (XS c a):=by
  unfold KB XS
  repeat' (first | with_reducible exact Le.refl _ | with_reducible exact Kz _ _ | with_reducible refine Le.bind ?_ (fun _ => ?_) | with_reducible refine Le.cond _ ?_ ?_ | with_reducible refine Le.forR (fun _ _ => ?_) _ _ | with_reducible refine Le.iter (fun _ => ?_) _ _ | with_reducible refine Le.elim (fun _ => ?_) (fun _ => ?_) _)
noncomputable def QL (c:ContractT) (party:Int) (p:PosT):Option (ShieldT×Int):=
  (Option.bind (Wj c party p) fun r1=>(bif (r1.2 == 0) then (Option.bind (KB c r1.1) fun r2=>(Option.bind (ze r2 0) fun e1=>(bif e1 then (Option.bind (forR (σ:=(List ShieldRowT)) (ρ:=Unit) (r1.1.positions.length:Int) (fun i1 s1=>(Option.bind (Option.bind (ze r1.1.positions (i1:Int)) fun e2=>(Option.bind (ze r2 (i1:Int)) fun e3=>(bif e3 then (Option.bind (Qk r1.1 r2 (i1:Int)) fun r3=>(Option.bind (zT (α:=ShieldRowT) 96 s1 [({position:=e2,move:=r3}:ShieldRowT)]) fun e4=>some e4)) else some s1))) fun (v1:(List ShieldRowT))=>some (.inl v1))) []) (Sum.elim (fun (s1:(List ShieldRowT))=>some (({party:=party,rows:=s1}:ShieldT),0)) (fun _=>none))) else some (({party:=0,rows:=[]}:ShieldT),13)))) else some (({party:=0,rows:=[]}:ShieldT),r1.2)))
theorem zbX (c:ContractT) (party:Int) (p:PosT):Le (QL c party p) (ki c party p):=by
  unfold QL ki
  repeat' (first | with_reducible exact Le.refl _ | with_reducible exact zaQ _ _ _ | with_reducible exact zge _ _ | with_reducible refine Le.bind ?_ (fun _ => ?_) | with_reducible refine Le.cond _ ?_ ?_ | with_reducible refine Le.forR (fun _ _ => ?_) _ _ | with_reducible refine Le.iter (fun _ => ?_) _ _ | with_reducible refine Le.elim (fun _ => ?_) (fun _ => ?_) _)
noncomputable def WZ (c:ContractT) (party:Int) (p:PosT):Option (DoomT×Int):=
  (Option.bind (Wj c party p) fun r1=>(bif (r1.2 == 0) then (Option.bind (Jh c r1.1) fun r2=>(Option.bind (ze r2 0) fun e1=>(bif decide (e1 < 0) then some (({party:=0,rows:=[]}:DoomT),13) else (Option.bind (forR (σ:=(List DoomRowT)) (ρ:=Unit) (r1.1.positions.length:Int) (fun i1 s1=>(Option.bind (Option.bind (ze r1.1.positions (i1:Int)) fun e2=>(Option.bind (ze r2 (i1:Int)) fun e3=>(bif decide (0≤e3) then (Option.bind (ze r2 (i1:Int)) fun e4=>(Option.bind (Ql r1.1 r2 (i1:Int)) fun r3=>(Option.bind (zT (α:=DoomRowT) 104 s1 [({position:=e2,rank:=e4,move:=r3}:DoomRowT)]) fun e5=>some e5))) else some s1))) fun (v1:(List DoomRowT))=>some (.inl v1))) []) (Sum.elim (fun (s1:(List DoomRowT))=>some (({party:=party,rows:=s1}:DoomT),0)) (fun _=>none)))))) else some (({party:=0,rows:=[]}:DoomT),r1.2)))
theorem zeW (c:ContractT) (party:Int) (p:PosT):Le (WZ c party p) (Q1 c party p):=by
  unfold WZ Q1
  repeat' (first | with_reducible exact Le.refl _ | with_reducible exact zaQ _ _ _ | with_reducible exact Kz _ _ | with_reducible refine Le.bind ?_ (fun _ => ?_) | with_reducible refine Le.cond _ ?_ ?_ | with_reducible refine Le.forR (fun _ _ => ?_) _ _ | with_reducible refine Le.iter (fun _ => ?_) _ _ | with_reducible refine Le.elim (fun _ => ?_) (fun _ => ?_) _)
noncomputable def W0 (c:ContractT) (party:Int) (p:PosT):Option ((List Int)×Int):=
  (Option.bind (jN c party p) fun r1=>(bif r1 then (Option.bind (Option.bind (Yc c party p) fun r2=>(Option.bind (bif p.own then (Option.bind (jO p.state) fun r3=>(Option.bind (zT (α:=Int) 8 [] [(-2)]) fun e1=>some e1)) else some []) fun (v1:(List Int))=>(bif decide (c.days≤p.state.day) then some v1 else (Option.bind (bif p.own then some v1 else (Option.bind (yQ c p.state (-1)) fun r4=>(Option.bind (zT (α:=Int) 8 v1 [(-1)]) fun e2=>some e2))) fun (v2:(List Int))=>(Option.bind (forR (σ:=(List Int)) (ρ:=(List Int)) (c.acts.length:Int) (fun i1 s1=>(Option.bind (α:=(List Int) ⊕ (List Int)) (Option.bind (ze c.acts (i1:Int)) fun e3=>(Option.bind (bif (e3.role == (-1)) then some (-1) else (Option.bind (ze p.state.holders e3.role) fun e4=>some e4)) fun (v3:Int)=>(bif ((v3 == party) == p.own) then (Option.bind (yQ c p.state (i1:Int)) fun r5=>(Option.bind (Option.bind (wW r5.1 p.state) fun r6=>(bif r6 then some (false,s1) else (Option.bind (zT (α:=Int) 8 s1 [(i1:Int)]) fun e5=>some ((!true),e5)))) fun (v4:Bool×(List Int))=>(bif v4.1 then some (.inr v4.2) else some (.inl v4.2)))) else some (.inl s1)))) (Sum.elim (fun (v5:(List Int))=>some (.inl v5)) (fun (y1:(List Int))=>some (.inr y1))))) v2) (Sum.elim (fun (s1:(List Int))=>some s1) (fun (y2:(List Int))=>some y2))))))) fun (v6:(List Int))=>some (v6,0)) else some ([],1)))
theorem zeX (c:ContractT) (party:Int) (p:PosT):Le (W0 c party p) (Q4 c party p):=by
  unfold W0 Q4
  repeat' (first | with_reducible exact Le.refl _ | with_reducible exact WY _ _ _ | with_reducible refine Le.bind ?_ (fun _ => ?_) | with_reducible refine Le.cond _ ?_ ?_ | with_reducible refine Le.forR (fun _ _ => ?_) _ _ | with_reducible refine Le.iter (fun _ => ?_) _ _ | with_reducible refine Le.elim (fun _ => ?_) (fun _ => ?_) _)
noncomputable def Wk (p1:PosT) (p2:Int) (p3:ContractT) (p4:Int) (p5:List (ByteArray×Int)):Option (Int×Bool):=
  (Option.bind (bif (p2 == (-2)) then some (p1.state.day,p1.state.holders,p1.state.used,p1.state.marks) else (Option.bind (yQ p3 p1.state p2) fun r1=>some (r1.1.day,r1.1.holders,r1.1.used,r1.1.marks))) fun (v1:Int×(List Int)×(List Bool)×(List MarkT))=>(Option.bind (wD ({state:=({day:=v1.1,holders:=v1.2.1,used:=v1.2.2.1,marks:=v1.2.2.2}:StateT),own:=(!(p2 == (-2)))}:PosT)) fun r2=>some (((zy r2 p5).getD 0),(zy r2 p5).isSome)))
theorem zaR (p1:PosT) (p2:Int) (p3:ContractT) (p4:Int) (p5:List (ByteArray×Int)):Le (Wk p1 p2 p3 p4 p5) (yI p1 p2 p3 p4 p5):=by
  unfold Wk yI
  repeat' (first | with_reducible exact Le.refl _ | with_reducible exact WY _ _ _ | with_reducible exact Jg _ | with_reducible refine Le.bind ?_ (fun _ => ?_) | with_reducible refine Le.cond _ ?_ ?_ | with_reducible refine Le.forR (fun _ _ => ?_) _ _ | with_reducible refine Le.iter (fun _ => ?_) _ _ | with_reducible refine Le.elim (fun _ => ?_) (fun _ => ?_) _)
noncomputable def Wl (p1:PosT) (p2:ContractT) (p3:Int) (p4:List (ByteArray×Int)):Option ((List Int)):=
  (Option.bind (W0 p2 p3 p1) fun r1=>some r1.1)
theorem zaS (p1:PosT) (p2:ContractT) (p3:Int) (p4:List (ByteArray×Int)):Le (Wl p1 p2 p3 p4) (yH p1 p2 p3 p4):=by
  unfold Wl yH
  repeat' (first | with_reducible exact Le.refl _ | with_reducible exact zeX _ _ _ | with_reducible refine Le.bind ?_ (fun _ => ?_) | with_reducible refine Le.cond _ ?_ ?_ | with_reducible refine Le.forR (fun _ _ => ?_) _ _ | with_reducible refine Le.iter (fun _ => ?_) _ _ | with_reducible refine Le.elim (fun _ => ?_) (fun _ => ?_) _)
noncomputable def Wm (p1:Int) (p2:PosT) (p3:ContractT) (p4:Int) (p5:List (ByteArray×Int)):Option (Bool):=
  (Option.bind (Wk p2 p1 p3 p4 p5) fun r1=>some (!r1.2))
theorem zaT (p1:Int) (p2:PosT) (p3:ContractT) (p4:Int) (p5:List (ByteArray×Int)):Le (Wm p1 p2 p3 p4 p5) (yJ p1 p2 p3 p4 p5):=by
  unfold Wm yJ
  repeat' (first | with_reducible exact Le.refl _ | with_reducible exact zaR _ _ _ _ _ | with_reducible refine Le.bind ?_ (fun _ => ?_) | with_reducible refine Le.cond _ ?_ ?_ | with_reducible refine Le.forR (fun _ _ => ?_) _ _ | with_reducible refine Le.iter (fun _ => ?_) _ _ | with_reducible refine Le.elim (fun _ => ?_) (fun _ => ?_) _)
noncomputable def zbY (p1:List Int) (p2:PosT) (p3:ContractT) (p4:Int) (p5:List (ByteArray×Int)):Option (Int):=
  (Option.bind (forR (σ:=Unit) (ρ:=Int) (p1.length:Int) (fun i1 s1=>(Option.bind (zl p1.length (i1:Int)) fun k1=>(Option.bind (p1[k1]?) fun e1=>(Option.bind (Wm e1 p2 p3 p4 p5) fun r1=>(bif r1 then some (.inr (i1:Int)) else some (.inl ())))))) ()) (Sum.elim (fun (s1:Unit)=>some (-1)) (fun (y1:Int)=>some y1)))
theorem zhL (p1:List Int) (p2:PosT) (p3:ContractT) (p4:Int) (p5:List (ByteArray×Int)):Le (zbY p1 p2 p3 p4 p5) (XV p1 p2 p3 p4 p5):=by
  unfold zbY XV
  repeat' (first | with_reducible exact Le.refl _ | with_reducible exact zaT _ _ _ _ _ | with_reducible refine Le.bind ?_ (fun _ => ?_) | with_reducible refine Le.cond _ ?_ ?_ | with_reducible refine Le.forR (fun _ _ => ?_) _ _ | with_reducible refine Le.iter (fun _ => ?_) _ _ | with_reducible refine Le.elim (fun _ => ?_) (fun _ => ?_) _)
noncomputable def zbZ (p1:List Int) (p2:PosT) (p3:ContractT) (p4:Int) (p5:List (ByteArray×Int)):Option (Int):=
  (Option.bind (forR (σ:=Unit) (ρ:=Int) (p1.length:Int) (fun i1 s1=>(Option.bind (ze p1 (i1:Int)) fun e1=>(Option.bind (Wm e1 p2 p3 p4 p5) fun r1=>(bif r1 then some (.inr (i1:Int)) else some (.inl ()))))) ()) (Sum.elim (fun (s1:Unit)=>some (-1)) (fun (y1:Int)=>some y1)))
theorem zhM (p1:List Int) (p2:PosT) (p3:ContractT) (p4:Int) (p5:List (ByteArray×Int)):Le (zbZ p1 p2 p3 p4 p5) (XX p1 p2 p3 p4 p5):=by
  unfold zbZ XX
  repeat' (first | with_reducible exact Le.refl _ | with_reducible exact zaT _ _ _ _ _ | with_reducible refine Le.bind ?_ (fun _ => ?_) | with_reducible refine Le.cond _ ?_ ?_ | with_reducible refine Le.forR (fun _ _ => ?_) _ _ | with_reducible refine Le.iter (fun _ => ?_) _ _ | with_reducible refine Le.elim (fun _ => ?_) (fun _ => ?_) _)
noncomputable def zb0 (p1:List Int) (p2:PosT) (p3:ContractT) (p4:Int) (p5:List (ByteArray×Int)):Option (Bool):=
  (Option.bind (zbY p1 p2 p3 p4 p5) fun r1=>some (decide (0≤r1)))
theorem zhN (p1:List Int) (p2:PosT) (p3:ContractT) (p4:Int) (p5:List (ByteArray×Int)):Le (zb0 p1 p2 p3 p4 p5) (XW p1 p2 p3 p4 p5):=by
  unfold zb0 XW
  repeat' (first | with_reducible exact Le.refl _ | with_reducible exact zhL _ _ _ _ _ | with_reducible refine Le.bind ?_ (fun _ => ?_) | with_reducible refine Le.cond _ ?_ ?_ | with_reducible refine Le.forR (fun _ _ => ?_) _ _ | with_reducible refine Le.iter (fun _ => ?_) _ _ | with_reducible refine Le.elim (fun _ => ?_) (fun _ => ?_) _)
noncomputable def zb1 (p1:List Int) (p2:PosT) (p3:ContractT) (p4:Int) (p5:List (ByteArray×Int)):Option (Bool):=
  (Option.bind (zbZ p1 p2 p3 p4 p5) fun r1=>some (decide (0≤r1)))
theorem zhO (p1:List Int) (p2:PosT) (p3:ContractT) (p4:Int) (p5:List (ByteArray×Int)):Le (zb1 p1 p2 p3 p4 p5) (XY p1 p2 p3 p4 p5):=by
  unfold zb1 XY
  repeat' (first | with_reducible exact Le.refl _ | with_reducible exact zhM _ _ _ _ _ | with_reducible refine Le.bind ?_ (fun _ => ?_) | with_reducible refine Le.cond _ ?_ ?_ | with_reducible refine Le.forR (fun _ _ => ?_) _ _ | with_reducible refine Le.iter (fun _ => ?_) _ _ | with_reducible refine Le.elim (fun _ => ?_) (fun _ => ?_) _)
noncomputable def KC (p1:ShieldW) (p2:Int) (p3:ContractT) (p4:Int) (p5:List (ByteArray×Int)):Option (Bool):=
  (Option.bind (ze p1.s.rows p2) fun e1=>(Option.bind (yG p3 e1.position.state p4) fun r1=>(bif r1 then some false else (Option.bind (Wl e1.position p3 p4 p5) fun r2=>(bif e1.position.own then (Option.bind (wy r2 e1.move) fun r3=>(bif r3 then (Option.bind (zb0 [e1.move] e1.position p3 p4 p5) fun r4=>some (!r4)) else some false)) else (Option.bind (zb1 r2 e1.position p3 p4 p5) fun r5=>some (!r5)))))))
theorem zgf (p1:ShieldW) (p2:Int) (p3:ContractT) (p4:Int) (p5:List (ByteArray×Int)):Le (KC p1 p2 p3 p4 p5) (Qo p1 p2 p3 p4 p5):=by
  unfold KC Qo
  repeat' (first | with_reducible exact Le.refl _ | with_reducible exact zaS _ _ _ _ | with_reducible exact zhN _ _ _ _ _ | with_reducible exact zhO _ _ _ _ _ | with_reducible refine Le.bind ?_ (fun _ => ?_) | with_reducible refine Le.cond _ ?_ ?_ | with_reducible refine Le.forR (fun _ _ => ?_) _ _ | with_reducible refine Le.iter (fun _ => ?_) _ _ | with_reducible refine Le.elim (fun _ => ?_) (fun _ => ?_) _)
noncomputable def KF (p1:ContractT) (p2:ShieldW):Option (Bool):=
  (Option.bind (Qn p2) fun r1=>(Option.bind (bif decide (r1 < 0) then some true else (bif decide (p1.parties≤r1) then some true else (Option.bind (jQ p2) fun r2=>(bif decide (r2 < 1) then some true else (Option.bind (jQ p2) fun r3=>some (decide (1500 < r3))))))) fun v1=>(bif v1 then some false else (Option.bind (jQ p2) fun r4=>(Option.bind (forR (σ:=(List (ByteArray×Int))) (ρ:=Unit) r4 (fun i1 s1=>(Option.bind (α:=(List (ByteArray×Int)) ⊕ Unit) (Option.bind (WJ p2 (i1:Int)) fun r5=>(Option.bind (q7 p1 r5.1.state) fun r6=>(bif r6 then (Option.bind (wD r5.1) fun r7=>(Option.bind (bif ((zy r7 s1).isSome) then some (decide (r5.2 < ((zy r7 s1).getD 0))) else some true) fun v2=>(bif v2 then some (.inl (qh r7 r5.2 s1)) else some (.inl s1)))) else some (.inr ())))) (Sum.elim (fun (v3:(List (ByteArray×Int)))=>some (.inl v3)) (fun (y1:Unit)=>some (.inr ()))))) []) (Sum.elim (fun (s1:(List (ByteArray×Int)))=>(Option.bind (jQ p2) fun r8=>(Option.bind (forR (σ:=Unit) (ρ:=Unit) r8 (fun i2 s2=>(Option.bind (KC p2 (i2:Int) p1 r1 s1) fun r9=>(bif r9 then some (.inl ()) else some (.inr ())))) ()) (Sum.elim (fun (s2:Unit)=>some true) (fun (y3:Unit)=>some false))))) (fun (y2:Unit)=>some false)))))))
theorem zgg (p1:ContractT) (p2:ShieldW):Le (KF p1 p2) (Qp p1 p2):=by
  unfold KF Qp
  repeat' (first | with_reducible exact Le.refl _ | with_reducible exact Jg _ | with_reducible exact zgf _ _ _ _ _ | with_reducible refine Le.bind ?_ (fun _ => ?_) | with_reducible refine Le.cond _ ?_ ?_ | with_reducible refine Le.forR (fun _ _ => ?_) _ _ | with_reducible refine Le.iter (fun _ => ?_) _ _ | with_reducible refine Le.elim (fun _ => ?_) (fun _ => ?_) _)
noncomputable def yb (c:ContractT) (s:ShieldT):Option (Bool):=
  (Option.bind (KF c ({s:=s}:ShieldW)) fun r1=>some r1)
theorem W2 (c:ContractT) (s:ShieldT):Le (yb c s) (xR c s):=by
  unfold yb xR
  repeat' (first | with_reducible exact Le.refl _ | with_reducible exact zgg _ _ | with_reducible refine Le.bind ?_ (fun _ => ?_) | with_reducible refine Le.cond _ ?_ ?_ | with_reducible refine Le.forR (fun _ _ => ?_) _ _ | with_reducible refine Le.iter (fun _ => ?_) _ _ | with_reducible refine Le.elim (fun _ => ?_) (fun _ => ?_) _)
noncomputable def Wn (p1:PosT) (p2:Int) (p3:Int) (p4:ContractT) (p5:Int) (p6:List (ByteArray×Int)):Option (Bool):=
  (Option.bind (Wk p1 p2 p4 p5 p6) fun r1=>(Option.bind (bif r1.2 then some (decide (r1.1 < p3)) else some false) fun v1=>some v1))
theorem zaU (p1:PosT) (p2:Int) (p3:Int) (p4:ContractT) (p5:Int) (p6:List (ByteArray×Int)):Le (Wn p1 p2 p3 p4 p5 p6) (yK p1 p2 p3 p4 p5 p6):=by
  unfold Wn yK
  repeat' (first | with_reducible exact Le.refl _ | with_reducible exact zaR _ _ _ _ _ | with_reducible refine Le.bind ?_ (fun _ => ?_) | with_reducible refine Le.cond _ ?_ ?_ | with_reducible refine Le.forR (fun _ _ => ?_) _ _ | with_reducible refine Le.iter (fun _ => ?_) _ _ | with_reducible refine Le.elim (fun _ => ?_) (fun _ => ?_) _)
noncomputable def KG (p1:Int) (p2:PosT) (p3:Int) (p4:ContractT) (p5:Int) (p6:List (ByteArray×Int)):Option (Bool):=
  (Option.bind (Wn p2 p1 p3 p4 p5 p6) fun r1=>some (!r1))
theorem zgh (p1:Int) (p2:PosT) (p3:Int) (p4:ContractT) (p5:Int) (p6:List (ByteArray×Int)):Le (KG p1 p2 p3 p4 p5 p6) (Qr p1 p2 p3 p4 p5 p6):=by
  unfold KG Qr
  repeat' (first | with_reducible exact Le.refl _ | with_reducible exact zaU _ _ _ _ _ _ | with_reducible refine Le.bind ?_ (fun _ => ?_) | with_reducible refine Le.cond _ ?_ ?_ | with_reducible refine Le.forR (fun _ _ => ?_) _ _ | with_reducible refine Le.iter (fun _ => ?_) _ _ | with_reducible refine Le.elim (fun _ => ?_) (fun _ => ?_) _)
noncomputable def zb2 (p1:List Int) (p2:PosT) (p3:Int) (p4:ContractT) (p5:Int) (p6:List (ByteArray×Int)):Option (Int):=
  (Option.bind (forR (σ:=Unit) (ρ:=Int) (p1.length:Int) (fun i1 s1=>(Option.bind (ze p1 (i1:Int)) fun e1=>(Option.bind (KG e1 p2 p3 p4 p5 p6) fun r1=>(bif r1 then some (.inr (i1:Int)) else some (.inl ()))))) ()) (Sum.elim (fun (s1:Unit)=>some (-1)) (fun (y1:Int)=>some y1)))
theorem zhP (p1:List Int) (p2:PosT) (p3:Int) (p4:ContractT) (p5:Int) (p6:List (ByteArray×Int)):Le (zb2 p1 p2 p3 p4 p5 p6) (XZ p1 p2 p3 p4 p5 p6):=by
  unfold zb2 XZ
  repeat' (first | with_reducible exact Le.refl _ | with_reducible exact zgh _ _ _ _ _ _ | with_reducible refine Le.bind ?_ (fun _ => ?_) | with_reducible refine Le.cond _ ?_ ?_ | with_reducible refine Le.forR (fun _ _ => ?_) _ _ | with_reducible refine Le.iter (fun _ => ?_) _ _ | with_reducible refine Le.elim (fun _ => ?_) (fun _ => ?_) _)
noncomputable def zb3 (p1:List Int) (p2:PosT) (p3:Int) (p4:ContractT) (p5:Int) (p6:List (ByteArray×Int)):Option (Bool):=
  (Option.bind (zb2 p1 p2 p3 p4 p5 p6) fun r1=>some (decide (0≤r1)))
theorem zhQ (p1:List Int) (p2:PosT) (p3:Int) (p4:ContractT) (p5:Int) (p6:List (ByteArray×Int)):Le (zb3 p1 p2 p3 p4 p5 p6) (X0 p1 p2 p3 p4 p5 p6):=by
  unfold zb3 X0
  repeat' (first | with_reducible exact Le.refl _ | with_reducible exact zhP _ _ _ _ _ _ | with_reducible refine Le.bind ?_ (fun _ => ?_) | with_reducible refine Le.cond _ ?_ ?_ | with_reducible refine Le.forR (fun _ _ => ?_) _ _ | with_reducible refine Le.iter (fun _ => ?_) _ _ | with_reducible refine Le.elim (fun _ => ?_) (fun _ => ?_) _)
noncomputable def KH (p1:DoomW) (p2:Int) (p3:ContractT) (p4:Int) (p5:List (ByteArray×Int)):Option (Bool):=
  (Option.bind (ze p1.d.rows p2) fun e1=>(bif decide (e1.rank≤0) then (Option.bind (bif (e1.rank == 0) then (Option.bind (yG p3 e1.position.state p4) fun r1=>some r1) else some false) fun v1=>some v1) else (Option.bind (Wl e1.position p3 p4 p5) fun r2=>(bif e1.position.own then (Option.bind (zb3 r2 e1.position e1.rank p3 p4 p5) fun r5=>some (!r5)) else (Option.bind (Option.bind (wy r2 e1.move) fun r3=>(bif r3 then (Option.bind (Wn e1.position e1.move e1.rank p3 p4 p5) fun r4=>some r4) else some false)) fun v2=>some v2)))))
theorem zgi (p1:DoomW) (p2:Int) (p3:ContractT) (p4:Int) (p5:List (ByteArray×Int)):Le (KH p1 p2 p3 p4 p5) (Qs p1 p2 p3 p4 p5):=by
  unfold KH Qs
  repeat' (first | with_reducible exact Le.refl _ | with_reducible exact zaS _ _ _ _ | with_reducible exact zhQ _ _ _ _ _ _ | with_reducible exact zaU _ _ _ _ _ _ | with_reducible refine Le.bind ?_ (fun _ => ?_) | with_reducible refine Le.cond _ ?_ ?_ | with_reducible refine Le.forR (fun _ _ => ?_) _ _ | with_reducible refine Le.iter (fun _ => ?_) _ _ | with_reducible refine Le.elim (fun _ => ?_) (fun _ => ?_) _)
noncomputable def KI (p1:ContractT) (p2:DoomW):Option (Bool):=
  (Option.bind (Qq p2) fun r1=>(Option.bind (bif decide (r1 < 0) then some true else (bif decide (p1.parties≤r1) then some true else (Option.bind (jR p2) fun r2=>(bif decide (r2 < 1) then some true else (Option.bind (jR p2) fun r3=>some (decide (1500 < r3))))))) fun v1=>(bif v1 then some false else (Option.bind (jR p2) fun r4=>(Option.bind (forR (σ:=(List (ByteArray×Int))) (ρ:=Unit) r4 (fun i1 s1=>(Option.bind (α:=(List (ByteArray×Int)) ⊕ Unit) (Option.bind (WK p2 (i1:Int)) fun r5=>(Option.bind (q7 p1 r5.1.state) fun r6=>(bif r6 then (Option.bind (wD r5.1) fun r7=>(Option.bind (bif ((zy r7 s1).isSome) then some (decide (r5.2 < ((zy r7 s1).getD 0))) else some true) fun v2=>(bif v2 then some (.inl (qh r7 r5.2 s1)) else some (.inl s1)))) else some (.inr ())))) (Sum.elim (fun (v3:(List (ByteArray×Int)))=>some (.inl v3)) (fun (y1:Unit)=>some (.inr ()))))) []) (Sum.elim (fun (s1:(List (ByteArray×Int)))=>(Option.bind (jR p2) fun r8=>(Option.bind (forR (σ:=Unit) (ρ:=Unit) r8 (fun i2 s2=>(Option.bind (KH p2 (i2:Int) p1 r1 s1) fun r9=>(bif r9 then some (.inl ()) else some (.inr ())))) ()) (Sum.elim (fun (s2:Unit)=>some true) (fun (y3:Unit)=>some false))))) (fun (y2:Unit)=>some false)))))))
theorem zgj (p1:ContractT) (p2:DoomW):Le (KI p1 p2) (Qt p1 p2):=by
  unfold KI Qt
  repeat' (first | with_reducible exact Le.refl _ | with_reducible exact Jg _ | with_reducible exact zgi _ _ _ _ _ | with_reducible refine Le.bind ?_ (fun _ => ?_) | with_reducible refine Le.cond _ ?_ ?_ | with_reducible refine Le.forR (fun _ _ => ?_) _ _ | with_reducible refine Le.iter (fun _ => ?_) _ _ | with_reducible refine Le.elim (fun _ => ?_) (fun _ => ?_) _)
noncomputable def kE (c:ContractT) (d:DoomT):Option (Bool):=
  (Option.bind (KI c ({d:=d}:DoomW)) fun r1=>some r1)
theorem KJ (c:ContractT) (d:DoomT):Le (kE c d) (vE c d):=by
  unfold kE vE
  repeat' (first | with_reducible exact Le.refl _ | with_reducible exact zgj _ _ | with_reducible refine Le.bind ?_ (fun _ => ?_) | with_reducible refine Le.cond _ ?_ ?_ | with_reducible refine Le.forR (fun _ _ => ?_) _ _ | with_reducible refine Le.iter (fun _ => ?_) _ _ | with_reducible refine Le.elim (fun _ => ?_) (fun _ => ?_) _)
noncomputable def Jz:Option (Bool):=
  (Option.bind (Qu 2) fun r1=>(Option.bind (WX r1) fun r2=>(Option.bind (QL r1 0 ({state:=r2.1,own:=true}:PosT)) fun r3=>(Option.bind (WZ r1 0 ({state:=r2.1,own:=false}:PosT)) fun r4=>(Option.bind (bif (r2.2 == 0) then (bif (r3.2 == 0) then (bif (r4.2 == 0) then (bif decide (0 < (r3.1.rows.length:Int)) then (Option.bind (ze r3.1.rows 0) fun e1=>(bif (e1.move == 0) then (bif decide (0 < (r4.1.rows.length:Int)) then (Option.bind (ze r4.1.rows 0) fun e2=>(bif (e2.rank == 1) then (Option.bind (yb r1 r3.1) fun r5=>(bif r5 then (Option.bind (kE r1 r4.1) fun r6=>some r6) else some false)) else some false)) else some false) else some false)) else some false) else some false) else some false) else some false) fun v1=>some v1)))))
theorem KL:Le Jz xI:=by
  unfold Jz xI
  repeat' (first | with_reducible exact Le.refl _ | with_reducible exact zeV _ | with_reducible exact zbX _ _ _ | with_reducible exact zeW _ _ _ | with_reducible exact W2 _ _ | with_reducible exact KJ _ _ | with_reducible refine Le.bind ?_ (fun _ => ?_) | with_reducible refine Le.cond _ ?_ ?_ | with_reducible refine Le.elim (fun _ => ?_) (fun _ => ?_) _)
theorem zaj:xI=some true:=KL true (by kernel_rfl)
end Go.Proofs.YtmoedieenlaegaaGreatDoor
namespace Go.Proofs.YtmoedieenlaegaaGreatDoor
open Go.RowKit
set_option linter.unusedSimpArgs false
set_option linter.unusedVariables false
set_option maxRecDepth 100000
theorem zeY {c:ContractT} (hc:c.Ok) (hv:(zN c).1=0) (hk:∀ a∈c.acts,a.kind=1) {i:Nat} {k:ClauseT} (h:c.clauses[i]?=some k) (h4:k.kind≠4) {a:ActT} (ha:ze c.acts k.act=some a):0≤a.role∧a.role < c.holders.length:=by
  have ho:=hc.off.lt (by omega:0 < 8)
  obtain ⟨_,_,h3,_⟩:=xm hv
  have kv:=xw ho hv h
  have:=h3 i (List.getElem?_eq_some_iff.1 h).1
  simp only [clB,h,we,Bool.and_eq_true] at this
  have h5:=this.2.1.1
  unfold Q6 at h5
  rw [beq_eq_false_iff_ne.2 h4,cond_false] at h5
  simp only [Bool.and_eq_true,Bool.not_eq_true'] at h5
  have hn:=h5.1.2
  unfold yL at hn
  rw [ha] at hn
  simp only at hn
  have hi:=qw kv.act.1 kv.act.2
  obtain ⟨hi,e⟩:=hi
  rw [e] at ha
  cases ha
  have hmem:=List.getElem_mem hi
  rw [beq_iff_eq.2 (hk _ hmem),Bool.true_and] at hn
  have av:=X7 hv (List.getElem?_eq_getElem hi)
  have:=av.role
  have:=beq_eq_false_iff_ne.1 hn
  omega
theorem zak (c:ContractT) (party:Int) (hc:ContractT.Ok c) (hp:InK .i64 party):kB c party=some true:=by
  refine Ret.eq ?_
  unfold kB
  refine Ret.bindE zaj ?_
  refine Ret.bindE (v := !(Yh c&&(decide (0≤party)&&decide (party < c.parties)))) ?_ ?_
  · rw [zhw hc]
    simp only [Option.bind_some]
    cases Yh c with
    | false=>rfl
    | true=>
      by_cases h1:party < 0
      · rw [decide_eq_true h1,decide_eq_false (show ¬ 0≤party by omega)];rfl
      · rw [decide_eq_false h1,decide_eq_true (show 0≤party by omega)]
        by_cases h2:c.parties≤party
        · rw [decide_eq_true h2,decide_eq_false (show ¬ party < c.parties by omega)];rfl
        · rw [decide_eq_false h2,decide_eq_true (show party < c.parties by omega)];rfl
  refine Ret.ite (fun _=>Ret.some rfl) (fun hb => ?_)
  simp only [Bool.not_eq_false',Bool.and_eq_true,decide_eq_true_eq] at hb
  obtain ⟨_,p0,p1⟩:=hb
  refine Ret.bind (zf4 hc party) ?_
  rintro ⟨a,e⟩ (⟨he,_⟩ | ⟨he,s0,hs0,hv0,A⟩)
  · simp only at he
    rw [show (((a,e):ArenaT×Int).2 == 0)=false from beq_eq_false_iff_ne.2 he]
    exact Ret.some rfl
  simp only at he A
  subst he
  refine Ret.ite (fun _ => ?_) (fun h=>by cases h)
  have hv:=hv0.cv
  have ho:=hc.off.lt (by omega:0 < 8)
  have sm:=qM ho hv
  have s1:=sm.holders
  have s2:=sm.acts
  have s3:=sm.clauses
  have hh:=Q8 hv
  refine Ret.bind (P:=fun o:List Int ⊕ Unit=>o=.inl (c.holders.map (mu party))) (Ret.of (zem c.holders (mu party) (fun l=>l) (by omega) (fun i hi => ?_) rfl)) ?_
  · rw [zD (List.getElem?_eq_getElem hi)]
    simp only [Option.bind_some,zo]
    rw [zf5 (hh _ (List.getElem_mem hi)).1,kQ (by simp;omega)]
    rfl
  rintro _ rfl
  simp only [Sum.elim_inl]
  rw [wX (l:=c.acts) (fun a=>a.kind == 1) (by omega) (fun i hi=>by
    rw [zD (List.getElem?_eq_getElem hi)]
    simp only [Option.bind_some,zo])]
  cases hka:c.acts.all (fun a=>a.kind == 1) with
  | false=>exact Ret.some rfl
  | true=>
    simp only [cond_true,Option.bind_some,Sum.elim_inl]
    have hk1:∀ a∈c.acts,a.kind=1:=fun a ha=>by
      have:=List.all_eq_true.1 hka a ha
      simpa using this
    refine Ret.bind (P:=fun o:Unit ⊕ Unit=>(o=.inl ()∧∀ (i:Nat) (k:ClauseT) (a:ActT),c.clauses[i]?=some k→k.kind≠4→ze c.acts k.act=some a→jr c.holders k=qS c.holders a)∨o=.inr ())
      (Ret.forL (fun n _=>∀ (i:Nat) (k:ClauseT) (a:ActT),i < n→c.clauses[i]?=some k→k.kind≠4→ze c.acts k.act=some a→jr c.holders k=qS c.holders a) (by omega) (fun i k a hi=>by omega) (fun n _ hn hI => ?_) (fun _ h=>.inl ⟨rfl,fun i k a hk=>h i k a (List.getElem?_eq_some_iff.1 hk).1 hk⟩)) ?_
    · have hk:=List.getElem?_eq_getElem hn
      have kv:=xw ho hv hk
      refine Ret.bindE (zD hk) ?_
      generalize hkk:c.clauses[n]=k at *
      by_cases h4:k.kind=4
      · refine Ret.bindE (v:=false) (by rw [beq_iff_eq.2 h4];rfl) ?_
        refine Ret.ite (fun h=>by cases h) (fun _=>Ret.some ?_)
        intro i k' a hi hk' hne ha
        by_cases e:i=n
        · subst e;rw [hk] at hk';cases hk';exact absurd h4 hne
        · exact hI i k' a (by omega) hk' hne ha
      · obtain ⟨g1,g2⟩:=qw (l:=c.acts) kv.act.1 kv.act.2
        have hr:=kv.role.resolve_left h4
        obtain ⟨g3,g4⟩:=qw (l:=c.holders) hr.1 hr.2
        have ar:=zeY hc hv hk1 hk h4 g2
        obtain ⟨g5,g6⟩:=qw (l:=c.holders) ar.1 ar.2
        have hb:jr c.holders k=c.holders[k.role.toNat]:=by
          unfold jr
          rw [beq_eq_false_iff_ne.2 h4,cond_false,List.getElem?_eq_getElem g3];rfl
        have hd:qS c.holders c.acts[k.act.toNat]=c.holders[c.acts[k.act.toNat].role.toNat]:=by
          unfold qS
          rw [beq_eq_false_iff_ne.2 (show c.acts[k.act.toNat].role ≠ -1 by omega),cond_false,List.getElem?_eq_getElem g5];rfl
        refine Ret.bindE (v := !(c.holders[k.role.toNat] == c.holders[c.acts[k.act.toNat].role.toNat])) ?_ ?_
        · rw [beq_eq_false_iff_ne.2 h4,cond_false,g4]
          simp only [Option.bind_some]
          rw [g2]
          simp only [Option.bind_some]
          rw [g6];rfl
        · refine Ret.ite (fun _=>Ret.some (.inr rfl)) (fun hx=>Ret.some ?_)
          simp only [Bool.not_eq_false',beq_iff_eq] at hx
          intro i k' a hi hk' hne ha
          by_cases e:i=n
          · subst e
            rw [hk] at hk'
            cases hk'
            rw [g2] at ha
            cases ha
            rw [hb,hd,hx]
          · exact hI i k' a (by omega) hk' hne ha
    rintro _ (⟨rfl,hsame⟩ | rfl)
    · simp only [Sum.elim_inl]
      have O:Oth c party:=⟨hc,hv,p0,p1,hk1,fun k j a hk h4 hj ha=>by
        obtain ⟨i,hi,rfl⟩:=List.getElem_of_mem hk
        exact hsame i _ a (List.getElem?_eq_getElem hi) h4 (by rw [hj];exact zD ha)⟩
      refine Ret.bind (zbR (Yi (P:=party) hc) (zbT O) (party:=0) (by omega) (by show (0:Int) < 2;omega)) ?_
      rintro ⟨b,f⟩ ⟨s1,hs1,hv1,hB⟩
      obtain ⟨rfl,hber⟩:=zdN O hs0 hs1
      have nm:¬ J0 (mgC party c) 0 {state:=mgS party s0,own:=true}:=zhI O (p:={state:=s0,own:=true}) hv0 hber A
      obtain ⟨hf,hbp,hF⟩:=hB.resolve_right fun h=>nm h.2
      simp only at hf hbp hF
      subst hf
      have B:ArOk (mgC party c) 0 (mgP party {state:=s0,own:=true}) b:=⟨by omega,by show (0:Int) < 2;omega,hbp,hF⟩
      have hsz:=zgc O (p:={state:=s0,own:=true}) hv0 hber A B
      have hpos:=A.pos
      refine Ret.bind (VK hc A) ?_
      rintro x ⟨hxl,hx,_⟩
      refine Ret.bind (VK (Yi (P:=party) hc) B) ?_
      rintro y ⟨hyl,hy,_⟩
      have hxl:x.length=a.positions.length:=hxl
      have hyl:y.length=b.positions.length:=hyl
      have hp0:0 < a.positions.length:=by omega
      have hp1:0 < b.positions.length:=by omega
      have e0:a.positions[0]={state:=s0,own:=true}:=by
        have:=A.F.first
        rw [List.getElem?_eq_getElem hp0] at this
        exact Option.some.inj this
      have e1:b.positions[0]=mgP party {state:=s0,own:=true}:=by
        have:=B.F.first
        rw [List.getElem?_eq_getElem hp1] at this
        exact Option.some.inj this
      have rx:=zdJ A hx hp0
      have ry:=zdJ B hy hp1
      rw [e0] at rx
      rw [e1] at ry
      have hxy:=rx.uniq (zga O (q:={state:=s0,own:=true}) hv0 hber ry)
      refine Ret.bindE (v:=true) ?_ (Ret.some rfl)
      have i1:ze x 0=some (at_ x 0):=zD (i:=0) (xS (by omega))
      have i2:ze y 0=some (at_ y 0):=zD (i:=0) (xS (by omega))
      rw [show decide (0 < (x.length:Int))=true from decide_eq_true (by omega),show ((x.length:Int) == (y.length:Int))=true from beq_iff_eq.2 (by omega),i1,i2]
      show some (at_ x 0 == at_ y 0)=some true
      rw [hxy,beq_self_eq_true]
    · exact Ret.some rfl
end Go.Proofs.YtmoedieenlaegaaGreatDoor
namespace Go.Proofs.YtmoedieenlaegaaGreatDoor
open Go.ChangeShapes Go.WideShapes Go.RowKit
set_option maxRecDepth 100000
abbrev Ji : List (String × DataW Unit) := [("math/bits.deBruijn32tab", Rows.laid_math_bits_deBruijn32tab), ("math/bits.deBruijn64tab", Rows.laid_math_bits_deBruijn64tab), ("internal/strconv.uint64pow10", Rows.laid_internal_strconv_uint64pow10)]
theorem zeZ:(Ji.filter fun x=>x.1 == xt)=[(xt,Lib.tabData .u64 Lib.pow10Tab)]:=by kernel_rfl
theorem KM {W:World} (h:laidMet Tryz.prog Ji W):C0.tabs.p W∧C0.tabs.n≤W.heap.size:=by
  have h1:=h.filter (fun x=>x.1 == xt)
  rw [zeZ] at h1
  have h2:C0.tabs.p W:=Lib.tabIs_of_head (g:=0) (t:=((Tryz.prog.globals[0]?).map (·.type)).getD 0) (e:=181) (n:=20)
    (by kernel_rfl) (by kernel_rfl) (by kernel_rfl) (by kernel_rfl) (by kernel_rfl) (by kernel_rfl) h1
  exact ⟨h2,zby h2⟩
def zhR:DataW Unit→Array Value
  | .agg ds=>(ds.map fun d=>match d with | .lit (.int k n)=>Value.int k n | _=>Value.bool false).toArray
  | _ => #[]
def KN (w:World) (g:Nat) (d:DataW Unit):World:={w with heap:=w.heap.modify g fun | .cells _ t f=>.cells (zhR d) t f | o=>o}
noncomputable def VM (os:Os):World:=
  KN (KN (KN (World.holding Tryz.prog os ⟨#[],#[],[]⟩) 1 Rows.laid_math_bits_deBruijn32tab) 2 Rows.laid_math_bits_deBruijn64tab) 0 Rows.laid_internal_strconv_uint64pow10
theorem VZ (os:Os) (args:Array Value):laidMet Tryz.prog Ji ((VM os).forCall (fun _ _=>0) ⟨#[],args,[]⟩).memory:=
  laidMet_of_run3 8 (by kernel_rfl) (by kernel_rfl) (by kernel_rfl)
end Go.Proofs.YtmoedieenlaegaaGreatDoor
namespace Go.Proofs.YtmoedieenlaegaaGreatDoor.LTopOthers
open Go.ChangeShapes Go.WideShapes Go.ChangeAt Go.RowKit
set_option linter.unusedVariables false
set_option maxRecDepth 100000
theorem all (ivs:List IV) (h:QY [(true,ContractT.tys),(false,[.int .i64])] ivs):APure C0 288 ivs (.bool true):=by
  match ivs,h with
  | [x0,x1],⟨a0,a1,_⟩=>
    obtain ⟨row0,rfl,r0⟩:=a0
    obtain ⟨c,rfl,ok_c⟩:=ContractT.opn r0
    obtain ⟨c1,_,e1,k1,n1⟩:=zf a1
    cases e1
    obtain ⟨party,rfl,ok_party⟩:=zn k1
    exact zaf c party true (zak c party ok_c ok_party)
theorem own:ownKnob Tryz.prog.godebug=none:=by kernel_rfl
theorem laid:laidOutB Tryz.prog=true:=by kernel_rfl
theorem args:mapO (Y7 Tryz.prog) Tryz.f3.params.toList=some [(true,ContractT.tys),(false,[.int .i64])]:=by kernel_rfl
theorem zhS (os:Os) (started:os.Started) (H:Type) (enc:TypeId×Value→H) :
    ReturnsInHanded {} Tryz.checked os 3 .any (fun w args=>(Rows.topOthersSpec.pre enc Tryz.prog Tryz.f3 [] false w args∧laidMet Tryz.prog Ji w)∧sizedMet enc Tryz.prog Tryz.f3 (OpenSpec.ofChange Rows.topOthersSpec) false w args) (Rows.topOthersSpec.post enc Tryz.prog Tryz.f3 false true false false):=by
  refine returnsInHanded_of_change_and (C:=Tryz.checked) (X:=fun w _=>laidMet Tryz.prog Ji w) (fun _ _ _ hh h=>h.of_heap hh) own started (by kernel_rfl) Tryz.func3
    (ChangeSpec.witness_at (enc:=enc) (C:=Tryz.checked) (os:=os) (X:=fun w _=>laidMet Tryz.prog Ji w) false (VM os) #[.agg #[.int .i64 0,.slice none 0 0,.slice none 0 0,.slice none 0 0,.slice none 0 0,.int .i64 0,.slice none 0 0],.int .i64 0] 8 rfl (by kernel_rfl) (by kernel_rfl) (by kernel_rfl) (by kernel_rfl) (by kernel_rfl) (VZ os _)) ?_
  intro W base args ds gs before hval hW _ hwt hL _
  exact Y8 (Cx:=C0) (tb:=4) 288 rfl LTopOthers.args rfl (by kernel_rfl) rfl
    (fun ds h=>by match ds,h with | [_,_],_=>rfl) LTopOthers.laid (by kernel_rfl) LTopOthers.all W (KM hL) base args ds gs before hval hW hwt
theorem zkB:Rows.TopOthersSaid:=
  OpenClaim.holds_of_wide 3 Tryz.f3 rfl rfl rfl rfl rfl rfl rfl ⟨rfl,rfl,rfl,rfl,rfl⟩ rfl rfl rfl rfl rfl (by kernel_rfl) Tryz.func3 (by kernel_rfl)
    (of_decide_eq_true (by kernel_rfl)) (by unfold Func.isWrapper;first | (rw [if_pos (by decide +kernel)];kernel_rfl) | (rw [if_neg (by decide +kernel)];exact ⟨rfl,rfl⟩))
    (fun os started H enc _=>zhS os started H enc)
theorem holds:Rows.TopOthersCardSaid:=
  Claim7.holds_tied_plain_at .later [] [.data, .data, .data] true (true, "b058ca6a5d8bd6675ccef3ced02f7ff2ab9252a87f4ffe3492fe47a417083e47") false
    zkB (fun _ h=>by cases h) (by kernel_rfl) (fun _ h=>by cases h) topOthers_row_tie rfl ⟨rfl,rfl⟩ (by kernel_rfl) rfl
    (fun f fn hf hfn=>by
      obtain rfl : f = 3 := Option.some.inj ((show Tryz.prog.funcNamed "estoppel/estoppeltop.TopOthers" = some 3 by kernel_rfl).symm.trans hf) |>.symm
      obtain rfl:fn=Tryz.f3:=(Option.some.inj (Tryz.func3.symm.trans hfn)).symm
      refine ⟨by kernel_rfl,fun j t ht => ?_⟩
      have hall:(Tryz.f3.params.toList.all fun t=>!(Tryz.prog.wantsStandIn t))=true:=by kernel_rfl
      have:=List.all_eq_true.1 hall t (by rw [Array.mem_toList_iff];exact Array.mem_of_getElem? ht)
      have h2:Tryz.prog.wantsStandIn t=false:=by simpa using this
      exact h2)
    (by kernel_rfl)
end Go.Proofs.YtmoedieenlaegaaGreatDoor.LTopOthers
namespace Go.Proofs.YtmoedieenlaegaaGreatDoor
theorem topOthers_holds:Rows.TopOthersCardSaid:=LTopOthers.holds
end Go.Proofs.YtmoedieenlaegaaGreatDoor
