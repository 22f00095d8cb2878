/-
  'TrapAdvice': for every input the call returns true, and each argument reads afterwards as it read before.
  The tables of the library that the rows list: from the row's condition to what the contracts ask; the witness.
  The law 'TrapAdvice'.
  StrategyNoBreach: who can perform and follows the advice never comes into breach.
  What the laws of layer 21 ask of a list of findings.
  The fixed example of the laws of layer 21: 'head' returns true. Printed by mkheads.py.
  One of the calls of the fixed example of the laws of layer 21. Printed by mkheads.py.
  Functions of the program as the kernel reckons them: with fuel, and texts of small numbers. Printed by mkheads.py.
-/
import Derived.Test.YtlpmnmbebkdocaaGreatDoorTA12
import Derived.Test.YtlpmnmbebkdocaaGreatDoorTA13
import Derived.Test.YtlpmnmbebkdocaaGreatDoorRows
import Derived.Test.YtlpmnmbebkdocaaGreatDoorTA11
import Derived.LaidLaws
import Derived.LaidSub
import Derived.Deep.DeepLaidRun
import Derived.Lib.LaidTab
import Derived.JoinedOf
import Derived.Test.YtlpmnmbebkdocaaGreatDoorTA06
import Derived.Test.YtlpmnmbebkdocaaGreatDoorTie
import Derived.Test.YtlpmnmbebkdocaaGreatDoorCards
import Derived.SevenTiedAt
namespace Go.Proofs.YtlpmnmbebkdocaaGreatDoor
set_option linter.unusedSimpArgs false
set_option linter.unusedVariables false
set_option maxRecDepth 100000
def Le {α:Type} (x y:Option α):Prop:=∀ r,x=some r→y=some r
theorem Le.refl {α:Type} (x:Option α):Le x x:=fun _ h=>h
theorem Le.bind {α β:Type} {x y:Option α} {f g:α→Option β} (h:Le x y) (hf:∀ a,Le (f a) (g a)):Le (x.bind f) (y.bind g):=fun r hr=>by
  obtain ⟨a,h1,h2⟩:=Option.bind_eq_some_iff.1 hr
  rw [h a h1];exact hf a r h2
theorem Le.cond {α:Type} (b:Bool) {x y x' y':Option α} (h1:Le x x') (h2:Le y y'):Le (bif b then x else y) (bif b then x' else y'):=by
  cases b
  · exact h2
  · exact h1
theorem Le.elim {α β γ:Type} {f f':α→Option γ} {g g':β→Option γ} (h1:∀ a,Le (f a) (f' a)) (h2:∀ a,Le (g a) (g' a)) (o:α ⊕ β):Le (Sum.elim f g o) (Sum.elim f' g' o):=by
  cases o
  · exact h1 _
  · exact h2 _
theorem Le.forFrom {σ ρ:Type} {f g:Nat→σ→Option (σ ⊕ ρ)} (h:∀ i s,Le (f i s) (g i s)):∀ (k i:Nat) (s:σ),Le (forFrom f i k s) (forFrom g i k s)
  | 0,i,s=>Le.refl _
  | k+1,i,s=>fun r hr=>by
    simp only [Go.Proofs.YtlpmnmbebkdocaaGreatDoor.forFrom] at hr ⊢
    split at hr
    · cases hr
    · rename_i e;rw [h i s _ e];exact hr
    · rename_i e;rw [h i s _ e];exact Le.forFrom h k (i+1) _ r hr
theorem Le.forR {σ ρ:Type} {f g:Nat→σ→Option (σ ⊕ ρ)} (h:∀ i s,Le (f i s) (g i s)) (n:Int) (s:σ):Le (forR n f s) (forR n g s):=fun r hr=>by
  obtain ⟨h1,h2⟩:=Yi hr
  rw [Z5 h1];exact Le.forFrom h _ _ _ r h2
theorem Le.iterN {σ ρ:Type} {f g:σ→Option (σ ⊕ ρ)} (h:∀ s,Le (f s) (g s)):∀ (k:Nat) (s:σ),Le (Go.Proofs.YtlpmnmbebkdocaaGreatDoor.iterN f k s) (Go.Proofs.YtlpmnmbebkdocaaGreatDoor.iterN g k s)
  | 0,s=>Le.refl _
  | k+1,s=>fun r hr=>by
    simp only [Go.Proofs.YtlpmnmbebkdocaaGreatDoor.iterN] at hr ⊢
    split at hr
    · cases hr
    · rename_i e;rw [h s _ e];exact hr
    · rename_i e;rw [h s _ e];exact Le.iterN h k _ r hr
theorem Le.iter {σ ρ:Type} {f g:σ→Option (σ ⊕ ρ)} (h:∀ s,Le (f s) (g s)) (k:Nat) (s:σ):Le (Go.Proofs.YtlpmnmbebkdocaaGreatDoor.iterN f k s) (Go.Proofs.YtlpmnmbebkdocaaGreatDoor.iter g s):=fun r hr=>wz.2 ⟨k,Le.iterN h k s r hr⟩
def VV:Nat→Nat→List UInt8
  | 0,u=>[]
  | f+1,u=>if u < 10 then [UInt8.ofNat (48+u)] else VV f (u / 10)++[UInt8.ofNat (48+u % 10)]
theorem VW:∀ (f u:Nat),u < 10 ^ (f+1)→VV (f+1) u=Lib.decDigits u
  | 0,u,h=>by
    rw [Lib.decDigits]
    simp only [VV]
    rw [if_pos (by omega),dif_pos (by omega)]
  | f+1,u,h=>by
    rw [Lib.decDigits,VV]
    by_cases hu:u < 10
    · rw [if_pos hu,dif_pos hu]
    · rw [if_neg hu,dif_neg hu,VW f (u / 10) (by rw [Nat.pow_succ] at h;omega)]
def j7 (n:Int):Bool:=decide (-1000 < n)&&decide (n < 1000)
def zdi (n:Int):List UInt8:=if n < 0 then 45::VV 4 n.natAbs else VV 4 n.toNat
theorem zgM {n:Int} (h:j7 n=true):zdi n=Lib.itoa n:=by
  simp only [j7,Bool.and_eq_true,decide_eq_true_eq] at h
  unfold zdi Lib.itoa
  rw [VW 3 n.natAbs (by omega),VW 3 n.toNat (by omega)]
def j8 (n:Int):List UInt8:=zdi n++[32]
theorem jG {n:Int} (h:j7 n=true):j8 n=zC n:=by unfold j8 zC;rw [zgM h]
def Ks (m:Zaa):List UInt8:=j8 m.Zan++j8 m.left++j8 m.got++j8 m.Zav++zY m.ZaA
def ZR (m:Zaa):Bool:=j7 m.Zan&&(j7 m.left&&(j7 m.got&&j7 m.Zav))
def Vi (p:Zah):List UInt8:=zY p.own++j8 p.state.day++p.state.Zae.flatMap j8++p.state.used.flatMap zY++p.state.Zal.flatMap Ks
def JC (p:Zah):Bool:=j7 p.state.day&&(p.state.Zae.all j7&&p.state.Zal.all ZR)
theorem xS {α β:Type} {f g:α→List β}:∀ {l:List α},(∀ a∈l,f a=g a)→l.flatMap f=l.flatMap g
  | [],_=>rfl
  | a::l,h=>by rw [List.flatMap_cons,List.flatMap_cons,h a List.mem_cons_self,xS fun b hb=>h b (List.mem_cons_of_mem _ hb)]
theorem zgN {p:Zah} (h:JC p=true):Vi p=qp p:=by
  simp only [JC,Bool.and_eq_true,List.all_eq_true] at h
  unfold Vi qp
  rw [jG h.1,xS (f:=j8) (g:=zC) (fun a ha=>jG (h.2.1 a ha)),xS (f:=Ks) (g:=qR) (fun a ha=>by
    have:=h.2.2 a ha
    simp only [ZR,Bool.and_eq_true] at this
    show j8 a.Zan++j8 a.left++j8 a.got++j8 a.Zav++zY a.ZaA=zC a.Zan++zC a.left++zC a.got++zC a.Zav++zY a.ZaA
    rw [jG this.1,jG this.2.1,jG this.2.2.1,jG this.2.2.2])]
theorem jo {n:Int} (h:j7 n=true):jk n=true:=by
  simp only [j7,jk,Bool.and_eq_true,decide_eq_true_eq] at h ⊢
  omega
def yE (p:Zah):Option ByteArray:=bif JC p&&decide ((Vi p).length≤1000000000) then some ⟨(Vi p).toArray⟩ else none
theorem zcb (p:Zah):Le (yE p) (jK p):=fun r h=>by
  unfold yE at h
  cases hq:(JC p&&decide ((Vi p).length≤1000000000)) with
  | false=>rw [hq] at h;cases h
  | true=>
    rw [hq] at h
    simp only [Bool.and_eq_true,decide_eq_true_eq] at hq
    have e:=zgN hq.1
    unfold jK
    rw [if_pos,←e]
    · exact h
    · have h1:=hq.1
      simp only [JC,Bool.and_eq_true,List.all_eq_true] at h1
      simp only [okP,Bool.and_eq_true,decide_eq_true_eq,List.all_eq_true]
      refine ⟨⟨⟨jo h1.1,fun x hx=>jo (h1.2.1 x hx)⟩,fun m hm => ?_⟩,by rw [←e];exact hq.2⟩
      have:=h1.2.2 m hm
      simp only [ZR,Bool.and_eq_true] at this
      exact ⟨⟨⟨jo this.1,jo this.2.1⟩,jo this.2.2.1⟩,jo this.2.2.2⟩
noncomputable def Vj (p1:Zab) (p2:Int) (p3:List Int) (p4:Nat) (p5:List Bool) (p6:Nat) (p7:List Zaa) (p8:Nat):Option ((List Zaa)):=
  (Option.bind (iterN (σ:=Bool×(List Zaa)) (ρ:=(List Zaa)) (fun s1=>(bif s1.1 then (Option.bind (forR (σ:=Bool×(List Zaa)) (ρ:=Unit) (p1.Zag.length:Int) (fun i2 s2=>(Option.bind (Option.bind (ze p1.Zag (i2:Int)) fun e1=>(Option.bind (eqN p4 p3.length) fun g1=>(Option.bind (eqN p6 p5.length) fun g2=>(Option.bind (eqN p8 s2.2.length) fun g3=>(Option.bind (vD p1 ({day:=p2,Zae:=p3,used:=p5,Zal:=s2.2}:Zad) (i2:Int)) fun r1=>(bif r1 then (Option.bind (bif (e1.kind == 4) then some (-1) else (Option.bind (zl p4 e1.Zaq) fun k1=>(Option.bind (p3[k1]?) fun e2=>some e2))) fun (v1:Int)=>(Option.bind (zl p8 (i2:Int)) fun k2=>(Option.bind (s2.2[k2]?) fun e3=>some (true,(s2.2.set k2 ({Zan:=1,left:=e1.after,got:=0,Zav:=v1,ZaA:=false}:Zaa)))))) else some (s2.1,s2.2))))))) fun (v2:Bool×(List Zaa))=>some (.inl (v2.1,v2.2)))) (false,s1.2)) (Sum.elim (fun (s2:Bool×(List Zaa))=>some (.inl (s2.1,s2.2))) (fun _=>none))) else some (.inr s1.2))) 40 (true,p7)) (fun (y1:(List Zaa))=>some y1))
theorem za3 (p1:Zab) (p2:Int) (p3:List Int) (p4:Nat) (p5:List Bool) (p6:Nat) (p7:List Zaa) (p8:Nat):Le (Vj p1 p2 p3 p4 p5 p6 p7 p8) (wi p1 p2 p3 p4 p5 p6 p7 p8):=by
  unfold Vj wi
  repeat' (first | with_reducible exact Le.refl _ | with_reducible refine Le.bind ?_ (fun _ => ?_) | with_reducible refine Le.cond _ ?_ ?_ | with_reducible refine Le.forR (fun _ _ => ?_) _ _ | with_reducible refine Le.iter (fun _ => ?_) _ _ | with_reducible refine Le.elim (fun _ => ?_) (fun _ => ?_) _)
noncomputable def ZS (c:Zab):Option (Zad×Int):=
  (Option.bind (vC c) fun r1=>(bif (r1.1 == 0) then (Option.bind (jr 8 c.Zae) fun e1=>(Option.bind (mkN 1 (c.Zai.length:Int)) fun k1=>(Option.bind (mkN 40 (c.Zag.length:Int)) fun k2=>(Option.bind (forR (σ:=(List Zaa)) (ρ:=Unit) (c.Zag.length:Int) (fun i1 s1=>(Option.bind (Option.bind (ze c.Zag (i1:Int)) fun e2=>(Option.bind (zl k2 (i1:Int)) fun k3=>(Option.bind (s1[k3]?) fun e3=>(bif e2.Zaz then (Option.bind (zl k2 (i1:Int)) fun k4=>(Option.bind ((s1.set k3 ({Zan:=0,left:=0,got:=0,Zav:=(-1),ZaA:=false}:Zaa))[k4]?) fun e4=>some ((s1.set k3 ({Zan:=0,left:=0,got:=0,Zav:=(-1),ZaA:=false}:Zaa)).set k4 ({e4 with Zan:=5}:Zaa)))) else some (s1.set k3 ({Zan:=0,left:=0,got:=0,Zav:=(-1),ZaA:=false}:Zaa)))))) fun (v1:(List Zaa))=>some (.inl v1))) (List.replicate k2 ({Zan:=0,left:=0,got:=0,Zav:=0,ZaA:=false}:Zaa))) (Sum.elim (fun (s1:(List Zaa))=>(Option.bind (Vj c 0 e1 e1.length (List.replicate k1 false) k1 s1 k2) fun r2=>(Option.bind (eqN k1 (List.replicate k1 false).length) fun g1=>(Option.bind (eqN k2 r2.length) fun g2=>some (({day:=0,Zae:=e1,used:=(List.replicate k1 false),Zal:=r2}:Zad),0))))) (fun _=>none)))))) else some (({day:=0,Zae:=[],used:=[],Zal:=[]}:Zad),1)))
theorem XU (c:Zab):Le (ZS c) (qz c):=by
  unfold ZS qz
  repeat' (first | with_reducible exact Le.refl _ | with_reducible exact za3 _ _ _ _ _ _ _ _ | with_reducible refine Le.bind ?_ (fun _ => ?_) | with_reducible refine Le.cond _ ?_ ?_ | with_reducible refine Le.forR (fun _ _ => ?_) _ _ | with_reducible refine Le.iter (fun _ => ?_) _ _ | with_reducible refine Le.elim (fun _ => ?_) (fun _ => ?_) _)
noncomputable def vM (l:List Int) (v:Int):Option (Int×Bool):=
  (Option.bind (Option.bind (iterN (σ:=Int×Int) (ρ:=Int) (fun s1=>(bif decide (s1.1 < s1.2) then (Option.bind (Q9 .u64 .u64 (IntKind.u64.wrap (IntKind.i64.wrap (s1.1+s1.2))) 1) fun e1=>(Option.bind (ze l (IntKind.i64.wrap e1)) fun e2=>(Option.bind (ZE e2 v) fun r1=>(bif r1 then some (.inl ((IntKind.i64.wrap ((IntKind.i64.wrap e1)+1)),s1.2)) else some (.inl (s1.1,(IntKind.i64.wrap e1))))))) else some (.inr s1.1))) 40 (0,(l.length:Int))) (fun (y1:Int)=>some y1)) fun (v1:Int)=>(Option.bind (bif decide (v1 < (l.length:Int)) then (Option.bind (ze l v1) fun e3=>(bif (e3 == v) then some true else (Option.bind (yV e3) fun r2=>(bif r2 then (Option.bind (yV v) fun r3=>some r3) else some false)))) else some false) fun v2=>some (v1,v2)))
theorem Vk (l:List Int) (v:Int):Le (vM l v) (jx l v):=by
  unfold vM jx
  repeat' (first | with_reducible exact Le.refl _ | with_reducible refine Le.bind ?_ (fun _ => ?_) | with_reducible refine Le.cond _ ?_ ?_ | with_reducible refine Le.forR (fun _ _ => ?_) _ _ | with_reducible refine Le.iter (fun _ => ?_) _ _ | with_reducible refine Le.elim (fun _ => ?_) (fun _ => ?_) _)
noncomputable def zdj (p1:Zab) (p2:Int) (p3:List Int) (p4:Nat) (p5:List Bool) (p6:Nat) (p7:List Zaa) (p8:Nat):Option ((List Zaa)):=
  (Option.bind (vM p1.off p2) fun r1=>(Option.bind (Option.bind (xi p1 p2 p3 p4 p5 p6 p7 p8) fun r2=>(Option.bind (forR (σ:=(List Zaa)) (ρ:=(List Zaa)) (p8:Int) (fun i1 s1=>(Option.bind (Option.bind (zl p8 (i1:Int)) fun k1=>(Option.bind (s1[k1]?) fun e1=>(Option.bind (jt e1) fun r3=>(bif r3 then (Option.bind (Option.bind (ze p1.Zag (i1:Int)) fun e2=>(Option.bind (Option.bind (zl p8 (i1:Int)) fun k2=>(Option.bind (s1[k2]?) fun e3=>(bif e3.ZaA then some true else (bif e2.ZaF then some r1.2 else some false)))) fun v1=>(bif v1 then some s1 else (Option.bind (zl p8 (i1:Int)) fun k3=>(Option.bind (s1[k3]?) fun e4=>(Option.bind (zl p8 (i1:Int)) fun k4=>(Option.bind ((s1.set k3 ({e4 with left:=(IntKind.i64.wrap (e4.left - 1))}:Zaa))[k4]?) fun e5=>(bif (e5.left == 0) then (Option.bind (bif (e2.kind == (0:Int)) then none else (bif (e2.kind == (1:Int)) then (Option.bind (WM (i1:Int) p1 p2 p3 p4 p5 p6 (s1.set k3 ({e4 with left:=(IntKind.i64.wrap (e4.left - 1))}:Zaa)) p8) fun r7=>some r7) else (bif (e2.kind == (2:Int)) then (Option.bind (wj (i1:Int) p1 p2 p3 p4 p5 p6 (s1.set k3 ({e4 with left:=(IntKind.i64.wrap (e4.left - 1))}:Zaa)) p8) fun r6=>some r6) else (bif (e2.kind == (3:Int)) then (Option.bind (kX (i1:Int) p1 p2 p3 p4 p5 p6 (s1.set k3 ({e4 with left:=(IntKind.i64.wrap (e4.left - 1))}:Zaa)) p8) fun r5=>some r5) else (bif (e2.kind == (4:Int)) then (Option.bind (kX (i1:Int) p1 p2 p3 p4 p5 p6 (s1.set k3 ({e4 with left:=(IntKind.i64.wrap (e4.left - 1))}:Zaa)) p8) fun r4=>some r4) else none))))) fun v2=>some v2) else some (s1.set k3 ({e4 with left:=(IntKind.i64.wrap (e4.left - 1))}:Zaa)))))))))) fun (v3:(List Zaa))=>some ((!true),v3)) else some (false,s1))))) fun (v4:Bool×(List Zaa))=>(bif v4.1 then some (.inr v4.2) else some (.inl v4.2)))) p7) (Sum.elim (fun (s1:(List Zaa))=>some s1) (fun (y1:(List Zaa))=>some y1)))) fun (v5:(List Zaa))=>(Option.bind (Vj p1 (IntKind.i64.wrap (p2+1)) p3 p4 p5 p6 v5 p8) fun r8=>some r8)))
theorem zj0 (p1:Zab) (p2:Int) (p3:List Int) (p4:Nat) (p5:List Bool) (p6:Nat) (p7:List Zaa) (p8:Nat):Le (zdj p1 p2 p3 p4 p5 p6 p7 p8) (d_70a p1 p2 p3 p4 p5 p6 p7 p8):=by
  unfold zdj d_70a
  repeat' (first | with_reducible exact Le.refl _ | with_reducible exact Vk _ _ | with_reducible exact za3 _ _ _ _ _ _ _ _ | with_reducible refine Le.bind ?_ (fun _ => ?_) | with_reducible refine Le.cond _ ?_ ?_ | with_reducible refine Le.forR (fun _ _ => ?_) _ _ | with_reducible refine Le.iter (fun _ => ?_) _ _ | with_reducible refine Le.elim (fun _ => ?_) (fun _ => ?_) _)
noncomputable def zdk (p1:Int) (p2:Zab) (p3:Int) (p4:List Int) (p5:Nat) (p6:List Bool) (p7:Nat) (p8:List Zaa) (p9:Nat):Option ((List Int)×(List Bool)×(List Zaa)):=
  (Option.bind (ze p2.Zai p1) fun e1=>(Option.bind (bif (e1.kind == 1) then some false else (Option.bind (zl p7 p1) fun k1=>(Option.bind (p6[k1]?) fun e2=>some e2))) fun v1=>(bif v1 then some (p4,p6,p8) else (Option.bind (Option.bind (xi p2 p3 p4 p5 p6 p7 p8 p9) fun r1=>(Option.bind (forR (σ:=(List Zaa)) (ρ:=(List Zaa)) (p9:Int) (fun i1 s1=>(Option.bind (Option.bind (zl p9 (i1:Int)) fun k2=>(Option.bind (s1[k2]?) fun e3=>(Option.bind (jt e3) fun r2=>(bif r2 then (Option.bind (Option.bind (ze p2.Zag (i1:Int)) fun e4=>(bif (p1 == e4.pause) then (Option.bind (zl p9 (i1:Int)) fun k3=>(Option.bind (s1[k3]?) fun e5=>some (s1.set k3 ({e5 with ZaA:=true}:Zaa)))) else (Option.bind (ze p2.Zag (i1:Int)) fun e6=>(bif (p1 == e6.ZaB) then (Option.bind (zl p9 (i1:Int)) fun k4=>(Option.bind (s1[k4]?) fun e7=>some (s1.set k4 ({e7 with ZaA:=false}:Zaa)))) else some s1)))) fun (v2:(List Zaa))=>some ((!true),v2)) else some (false,s1))))) fun (v3:Bool×(List Zaa))=>(bif v3.1 then some (.inr v3.2) else some (.inl v3.2)))) p8) (Sum.elim (fun (s1:(List Zaa))=>some s1) (fun (y1:(List Zaa))=>some y1)))) fun (v4:(List Zaa))=>(Option.bind (eqN p5 p4.length) fun g1=>(Option.bind (eqN p7 p6.length) fun g2=>(Option.bind (eqN p9 v4.length) fun g3=>(Option.bind (kw p2 ({day:=p3,Zae:=p4,used:=p6,Zal:=v4}:Zad) p1) fun r3=>(Option.bind (Option.bind (xi p2 p3 p4 p5 p6 p7 v4 p9) fun r4=>(Option.bind (forR (σ:=(List Zaa)) (ρ:=(List Zaa)) (p9:Int) (fun i2 s2=>(Option.bind (Option.bind (zl p9 (i2:Int)) fun k5=>(Option.bind (s2[k5]?) fun e8=>(Option.bind (jt e8) fun r5=>(bif r5 then (Option.bind (Option.bind (ze p2.Zag (i2:Int)) fun e9=>(Option.bind (bif (e9.act == p1) then (bif (e9.kind == 4) then some true else (Option.bind (zl p9 (i2:Int)) fun k6=>(Option.bind (s2[k6]?) fun e10=>some (e10.Zav == r3)))) else some false) fun v5=>(bif v5 then (Option.bind (bif (e9.kind == (0:Int)) then none else (bif (e9.kind == (1:Int)) then (Option.bind (WO (i2:Int) p2 p3 p4 p5 p6 p7 s2 p9) fun r9=>some r9) else (bif (e9.kind == (2:Int)) then (Option.bind (WN (i2:Int) p2 p3 p4 p5 p6 p7 s2 p9) fun r8=>some r8) else (bif (e9.kind == (3:Int)) then (Option.bind (wj (i2:Int) p2 p3 p4 p5 p6 p7 s2 p9) fun r7=>some r7) else (bif (e9.kind == (4:Int)) then (Option.bind (wj (i2:Int) p2 p3 p4 p5 p6 p7 s2 p9) fun r6=>some r6) else none))))) fun v6=>some v6) else some s2))) fun (v7:(List Zaa))=>some ((!true),v7)) else some (false,s2))))) fun (v8:Bool×(List Zaa))=>(bif v8.1 then some (.inr v8.2) else some (.inl v8.2)))) v4) (Sum.elim (fun (s2:(List Zaa))=>some s2) (fun (y2:(List Zaa))=>some y2)))) fun (v9:(List Zaa))=>(Option.bind (bif (e1.kind == 1) then some (p4,p6,v9) else (Option.bind (WP p1 p2 p3 p4 p5 p6 p7 v9 p9) fun r10=>some (r10.1,r10.2.1,r10.2.2))) fun (v10:(List Int)×(List Bool)×(List Zaa))=>(Option.bind (Vj p2 p3 v10.1 p5 v10.2.1 p7 v10.2.2 p9) fun r11=>some (v10.1,v10.2.1,r11))))))))))))
theorem zj1 (p1:Int) (p2:Zab) (p3:Int) (p4:List Int) (p5:Nat) (p6:List Bool) (p7:Nat) (p8:List Zaa) (p9:Nat):Le (zdk p1 p2 p3 p4 p5 p6 p7 p8 p9) (Qn p1 p2 p3 p4 p5 p6 p7 p8 p9):=by
  unfold zdk Qn
  repeat' (first | with_reducible exact Le.refl _ | with_reducible exact za3 _ _ _ _ _ _ _ _ | with_reducible refine Le.bind ?_ (fun _ => ?_) | with_reducible refine Le.cond _ ?_ ?_ | with_reducible refine Le.forR (fun _ _ => ?_) _ _ | with_reducible refine Le.iter (fun _ => ?_) _ _ | with_reducible refine Le.elim (fun _ => ?_) (fun _ => ?_) _)
noncomputable def yF (c:Zab) (s:Zad) (step:Int):Option (Zad×Int):=
  (Option.bind (Option.bind (xh c s) fun r1=>(bif r1 then (bif decide (step < (-1)) then some true else some (decide ((c.Zai.length:Int)≤step))) else some true)) fun v1=>(bif v1 then some (({day:=0,Zae:=[],used:=[],Zal:=[]}:Zad),1) else (bif (s.day == c.Zat) then some (({day:=0,Zae:=[],used:=[],Zal:=[]}:Zad),13) else (Option.bind (mkN 8 (s.Zae.length:Int)) fun k1=>(Option.bind (mkN 1 (s.used.length:Int)) fun k2=>(Option.bind (mkN 40 (s.Zal.length:Int)) fun k3=>(Option.bind (xC (α:=Int) k1 (List.replicate k1 0) s.Zae) fun e1=>(Option.bind (xC (α:=Bool) k2 (List.replicate k2 false) s.used) fun e2=>(Option.bind (xC (α:=Zaa) k3 (List.replicate k3 ({Zan:=0,left:=0,got:=0,Zav:=0,ZaA:=false}:Zaa)) s.Zal) fun e3=>(Option.bind (bif (step == (-1)) then (Option.bind (zdj c s.day e1 k1 e2 k2 e3 k3) fun r2=>some (e1,e2,r2,(IntKind.i64.wrap (s.day+1)))) else (Option.bind (zdk step c s.day e1 k1 e2 k2 e3 k3) fun r3=>some (r3.1,r3.2.1,r3.2.2,s.day))) fun (v2:(List Int)×(List Bool)×(List Zaa)×Int)=>(Option.bind (eqN k1 v2.1.length) fun g1=>(Option.bind (eqN k2 v2.2.1.length) fun g2=>(Option.bind (eqN k3 v2.2.2.1.length) fun g3=>some (({day:=v2.2.2.2,Zae:=v2.1,used:=v2.2.1,Zal:=v2.2.2.1}:Zad),0))))))))))))))
theorem ZT (c:Zab) (s:Zad) (step:Int):Le (yF c s step) (d_Step c s step):=by
  unfold yF d_Step
  repeat' (first | with_reducible exact Le.refl _ | with_reducible exact zj0 _ _ _ _ _ _ _ _ | with_reducible exact zj1 _ _ _ _ _ _ _ _ _ | with_reducible refine Le.bind ?_ (fun _ => ?_) | with_reducible refine Le.cond _ ?_ ?_ | with_reducible refine Le.forR (fun _ _ => ?_) _ _ | with_reducible refine Le.iter (fun _ => ?_) _ _ | with_reducible refine Le.elim (fun _ => ?_) (fun _ => ?_) _)
noncomputable def za4 (c:Zab) (zw:Int) (p:Zah):Option (ZaC×Int):=
  (Option.bind (ve c zw p) fun r1=>(bif r1 then (Option.bind (wt p.state) fun r2=>(Option.bind (yE p) fun r3=>(Option.bind (α:=((List Zah)×(List (List Zar))) ⊕ Unit) (Option.bind (iterN (σ:=Int×(List Zah)×(List (List Zar))×(List (ByteArray×Int))) (ρ:=((List Zah)×(List (List Zar))) ⊕ Unit) (fun s1=>(bif decide (s1.1 < (s1.2.1.length:Int)) then (Option.bind (α:=((List Zah)×(List (ByteArray×Int))×(List Zar)) ⊕ Unit) (Option.bind (ze s1.2.1 s1.1) fun e1=>(Option.bind (WQ c zw e1) fun r4=>(Option.bind (α:=((List Zah)×(List (ByteArray×Int))×(List Zar)) ⊕ (Unit ⊕ ((List Zah)×(List (ByteArray×Int))×(List Zar)))) (bif e1.own then (Option.bind (wt e1.state) fun r5=>(Option.bind (yE ({state:=r5,own:=false}:Zah)) fun r6=>(Option.bind (α:=(Int×(List Zah)×(List (ByteArray×Int))) ⊕ Unit) (bif ((zp r6 s1.2.2.2).isSome) then some (.inl (((zp r6 s1.2.2.2).getD 0),s1.2.1,s1.2.2.2)) else (bif ((s1.2.1.length:Int) == 1500) then some (.inr ()) else (Option.bind (zQ (α:=Zah) 88 s1.2.1 [({state:=r5,own:=false}:Zah)]) fun e2=>some (.inl ((s1.2.1.length:Int),e2,(zS r6 (s1.2.1.length:Int) s1.2.2.2)))))) (Sum.elim (fun (v1:Int×(List Zah)×(List (ByteArray×Int)))=>(Option.bind (zQ (α:=Zar) 16 [] [({step:=(-2),to:=v1.1}:Zar)]) fun e3=>(bif decide (c.Zat≤e1.state.day) then some (.inr (.inr (v1.2.1,v1.2.2,e3))) else some (.inl (v1.2.1,v1.2.2,e3))))) (fun (y1:Unit)=>some (.inr (.inl ()))))))) else (bif decide (c.Zat≤e1.state.day) then some (.inr (.inr (s1.2.1,s1.2.2.2,[]))) else some (.inl (s1.2.1,s1.2.2.2,[])))) (Sum.elim (fun (v2:(List Zah)×(List (ByteArray×Int))×(List Zar))=>(Option.bind (α:=((List Zah)×(List (ByteArray×Int))×(List Zar)) ⊕ Unit) (bif e1.own then some (.inl (v2.1,v2.2.1,v2.2.2)) else (Option.bind (yF c e1.state (-1)) fun r7=>(Option.bind (yE ({state:=r7.1,own:=true}:Zah)) fun r8=>(Option.bind (α:=(Int×(List Zah)×(List (ByteArray×Int))) ⊕ Unit) (bif ((zp r8 v2.2.1).isSome) then some (.inl (((zp r8 v2.2.1).getD 0),v2.1,v2.2.1)) else (bif ((v2.1.length:Int) == 1500) then some (.inr ()) else (Option.bind (zQ (α:=Zah) 88 v2.1 [({state:=r7.1,own:=true}:Zah)]) fun e4=>some (.inl ((v2.1.length:Int),e4,(zS r8 (v2.1.length:Int) v2.2.1)))))) (Sum.elim (fun (v3:Int×(List Zah)×(List (ByteArray×Int)))=>(Option.bind (zQ (α:=Zar) 16 v2.2.2 [({step:=(-1),to:=v3.1}:Zar)]) fun e5=>some (.inl (v3.2.1,v3.2.2,e5)))) (fun (y4:Unit)=>some (.inr ()))))))) (Sum.elim (fun (v4:(List Zah)×(List (ByteArray×Int))×(List Zar))=>(Option.bind (forR (σ:=(List Zah)×(List (ByteArray×Int))×(List Zar)) (ρ:=(List Zah)×(List (ByteArray×Int))×(List Zar)) (c.Zai.length:Int) (fun i2 s2=>(Option.bind (α:=((List Zah)×(List (ByteArray×Int))×(List Zar)) ⊕ Unit) (Option.bind (ze c.Zai (i2:Int)) fun e6=>(Option.bind (bif (e6.Zaq == (-1)) then some (-1) else (Option.bind (ze e1.state.Zae e6.Zaq) fun e7=>some e7)) fun (v5:Int)=>(bif ((v5 == zw) == e1.own) then (Option.bind (yF c e1.state (i2:Int)) fun r9=>(Option.bind (ZF r9.1 e1.state) fun r10=>(bif r10 then some (.inl (s2.1,s2.2.1,s2.2.2)) else (Option.bind (yE ({state:=r9.1,own:=true}:Zah)) fun r11=>(Option.bind (α:=(Int×(List Zah)×(List (ByteArray×Int))) ⊕ Unit) (bif ((zp r11 s2.2.1).isSome) then some (.inl (((zp r11 s2.2.1).getD 0),s2.1,s2.2.1)) else (bif ((s2.1.length:Int) == 1500) then some (.inr ()) else (Option.bind (zQ (α:=Zah) 88 s2.1 [({state:=r9.1,own:=true}:Zah)]) fun e8=>some (.inl ((s2.1.length:Int),e8,(zS r11 (s2.1.length:Int) s2.2.1)))))) (Sum.elim (fun (v6:Int×(List Zah)×(List (ByteArray×Int)))=>(Option.bind (zQ (α:=Zar) 16 s2.2.2 [({step:=(i2:Int),to:=v6.1}:Zar)]) fun e9=>some (.inl (v6.2.1,v6.2.2,e9)))) (fun (y6:Unit)=>some (.inr ())))))))) else some (.inl (s2.1,s2.2.1,s2.2.2))))) (Sum.elim (fun (v7:(List Zah)×(List (ByteArray×Int))×(List Zar))=>some (.inl (v7.1,v7.2.1,v7.2.2))) (fun (y7:Unit)=>some (.inr (s2.1,s2.2.1,s2.2.2)))))) (v4.1,v4.2.1,v4.2.2)) (Sum.elim (fun (s2:(List Zah)×(List (ByteArray×Int))×(List Zar))=>some (.inl (s2.1,s2.2.1,s2.2.2))) (fun (y8:(List Zah)×(List (ByteArray×Int))×(List Zar))=>some (.inr ()))))) (fun (y5:Unit)=>some (.inr ()))))) (Sum.elim (fun (y2:Unit)=>some (.inr ())) (fun (y3:(List Zah)×(List (ByteArray×Int))×(List Zar))=>some (.inl (y3.1,y3.2.1,y3.2.2)))))))) (Sum.elim (fun (v8:(List Zah)×(List (ByteArray×Int))×(List Zar))=>(Option.bind (zQ (α:=List Zar) 24 s1.2.2.1 [v8.2.2]) fun e10=>some (.inl ((IntKind.i64.wrap (s1.1+1)),v8.1,e10,v8.2.1)))) (fun (y9:Unit)=>some (.inr (.inr ()))))) else some (.inr (.inl (s1.2.1,s1.2.2.1))))) 40 (0,[({state:=r2,own:=p.own}:Zah)],[],(zS r3 0 []))) (Sum.elim (fun (y10:(List Zah)×(List (List Zar)))=>some (.inl (y10.1,y10.2))) (fun (y11:Unit)=>some (.inr ())))) (Sum.elim (fun (v9:(List Zah)×(List (List Zar)))=>some (({zw:=zw,Zao:=v9.1,moves:=v9.2}:ZaC),0)) (fun (y12:Unit)=>some (({zw:=0,Zao:=[],moves:=[]}:ZaC),3)))))) else some (({zw:=0,Zao:=[],moves:=[]}:ZaC),1)))
theorem zii (c:Zab) (zw:Int) (p:Zah):Le (za4 c zw p) (wa c zw p):=by
  unfold za4 wa
  repeat' (first | with_reducible exact Le.refl _ | with_reducible exact zcb _ | with_reducible exact ZT _ _ _ | with_reducible refine Le.bind ?_ (fun _ => ?_) | with_reducible refine Le.cond _ ?_ ?_ | with_reducible refine Le.forR (fun _ _ => ?_) _ _ | with_reducible refine Le.iter (fun _ => ?_) _ _ | with_reducible refine Le.elim (fun _ => ?_) (fun _ => ?_) _)
noncomputable def Xb (c:Zab) (zw:Int):Option (ZaC×Int):=
  (Option.bind (ZS c) fun r1=>(bif (r1.2 == 0) then (Option.bind (za4 c zw ({state:=r1.1,own:=true}:Zah)) fun r2=>some (r2.1,r2.2)) else some (({zw:=0,Zao:=[],moves:=[]}:ZaC),r1.2)))
theorem za5 (c:Zab) (zw:Int):Le (Xb c zw) (qX c zw):=by
  unfold Xb qX
  repeat' (first | with_reducible exact Le.refl _ | with_reducible exact XU _ | with_reducible exact zii _ _ _ | with_reducible refine Le.bind ?_ (fun _ => ?_) | with_reducible refine Le.cond _ ?_ ?_ | with_reducible refine Le.forR (fun _ _ => ?_) _ _ | with_reducible refine Le.iter (fun _ => ?_) _ _ | with_reducible refine Le.elim (fun _ => ?_) (fun _ => ?_) _)
noncomputable def Xc (c:Zab) (a:ZaC):Option (List Int):=
  (Option.bind (xN c a) fun r1=>(bif r1 then (Option.bind (mkN 8 (a.Zao.length:Int)) fun k1=>(Option.bind (mkN 8 (a.Zao.length:Int)) fun k2=>(Option.bind (mkN 24 (a.Zao.length:Int)) fun k3=>(Option.bind (forR (σ:=(List Int)×(List Int)×(List (List Int))×(List Int)) (ρ:=Unit) (a.Zao.length:Int) (fun i1 s1=>(Option.bind (Option.bind (ze a.Zao (i1:Int)) fun e1=>(Option.bind (ze a.moves (i1:Int)) fun e2=>(Option.bind (zl k1 (i1:Int)) fun k4=>(Option.bind (s1.1[k4]?) fun e3=>(Option.bind (zl k2 (i1:Int)) fun k5=>(Option.bind (s1.2.1[k5]?) fun e4=>(Option.bind (ze a.moves (i1:Int)) fun e5=>(Option.bind (forR (σ:=(List (List Int))) (ρ:=Unit) (e5.length:Int) (fun i2 s2=>(Option.bind (ze e5 (i2:Int)) fun e6=>(Option.bind (wC s2 k3 e6.to (i1:Int)) fun v1=>some (.inl v1)))) s1.2.2.1) (Sum.elim (fun (s2:(List (List Int)))=>(Option.bind (Jk c e1.state a.zw) fun r2=>(bif r2 then (Option.bind (zl k1 (i1:Int)) fun k6=>(Option.bind ((s1.1.set k4 (-1))[k6]?) fun e7=>(Option.bind (yx (i1:Int) s1.2.2.2 0) fun r3=>some (((s1.1.set k4 (-1)).set k6 0),(s1.2.1.set k5 (e2.length:Int)),s2,r3)))) else some ((s1.1.set k4 (-1)),(s1.2.1.set k5 (e2.length:Int)),s2,s1.2.2.2)))) (fun _=>none)))))))))) fun (v2:(List Int)×(List Int)×(List (List Int))×(List Int))=>some (.inl (v2.1,v2.2.1,v2.2.2.1,v2.2.2.2)))) ((List.replicate k1 0),(List.replicate k2 0),(List.replicate k3 []),[])) (Sum.elim (fun (s1:(List Int)×(List Int)×(List (List Int))×(List Int))=>(Option.bind (forR (σ:=(List Int)×(List Int)) (ρ:=Unit) (a.Zao.length:Int) (fun i3 s3=>(Option.bind (Option.bind (ze a.Zao (i3:Int)) fun e8=>(Option.bind (bif e8.own then (Option.bind (zl k2 (i3:Int)) fun k7=>(Option.bind (s1.2.1[k7]?) fun e9=>(bif (e9 == 0) then (Option.bind (zl k1 (i3:Int)) fun k8=>(Option.bind (s3.1[k8]?) fun e10=>some (e10 == (-1)))) else some false))) else some false) fun v3=>(bif v3 then (Option.bind (yy (i3:Int) 1 s3.1 k1 s3.2 0) fun r4=>some (r4.2,r4.1)) else some (s3.1,s3.2)))) fun (v4:(List Int)×(List Int))=>some (.inl (v4.1,v4.2)))) (s1.1,s1.2.2.2)) (Sum.elim (fun (s3:(List Int)×(List Int))=>(Option.bind (Option.bind (wb s3.2 0) fun r5=>(Option.bind (iterN (σ:=Int×Bool×(List Int)×(List Int)×(List Int)×Int) (ρ:=(List Int)) (fun s4=>(bif s4.2.1 then (Option.bind (zl k3 s4.1) fun k9=>(Option.bind (s1.2.2.1[k9]?) fun e11=>(Option.bind (forR (σ:=(List Int)×(List Int)×(List Int)) (ρ:=Unit) (e11.length:Int) (fun i5 s5=>(Option.bind (ze e11 (i5:Int)) fun e12=>(Option.bind (ZG e12 s4.1 s5.2.1 k2 s5.1 k1 a s5.2.2 s4.2.2.2.2.2) fun r6=>some (.inl (r6.2.1,r6.1,r6.2.2))))) (s4.2.2.1,s4.2.2.2.1,s4.2.2.2.2.1)) (Sum.elim (fun (s5:(List Int)×(List Int)×(List Int))=>(Option.bind (wb s5.2.2 s4.2.2.2.2.2) fun r7=>some (.inl (r7.1,r7.2.1,s5.1,s5.2.1,s5.2.2,r7.2.2)))) (fun _=>none))))) else some (.inr s4.2.2.1))) 40 (r5.1,r5.2.1,s3.1,s1.2.1,s3.2,r5.2.2)) (fun (y1:(List Int))=>some y1))) fun (v5:(List Int))=>(Option.bind (eqN k1 v5.length) fun g1=>some v5))) (fun _=>none)))) (fun _=>none)))))) else some []))
theorem za6 (c:Zab) (a:ZaC):Le (Xc c a) (vE c a):=by
  unfold Xc vE
  repeat' (first | with_reducible exact Le.refl _ | with_reducible refine Le.bind ?_ (fun _ => ?_) | with_reducible refine Le.cond _ ?_ ?_ | with_reducible refine Le.forR (fun _ _ => ?_) _ _ | with_reducible refine Le.iter (fun _ => ?_) _ _ | with_reducible refine Le.elim (fun _ => ?_) (fun _ => ?_) _)
noncomputable def za7 (c:Zab) (a:ZaC):Option (List Bool):=
  (Option.bind (Xc c a) fun r1=>(Option.bind (mkN 1 (r1.length:Int)) fun k1=>(Option.bind (forR (σ:=(List Bool)) (ρ:=Unit) (r1.length:Int) (fun i1 s1=>(Option.bind (ze r1 (i1:Int)) fun e1=>(Option.bind (zl k1 (i1:Int)) fun k2=>(Option.bind (s1[k2]?) fun e2=>some (.inl (s1.set k2 (e1 == (-1)))))))) (List.replicate k1 false)) (Sum.elim (fun (s1:(List Bool))=>(Option.bind (eqN k1 s1.length) fun g1=>some s1)) (fun _=>none)))))
theorem zij (c:Zab) (a:ZaC):Le (za7 c a) (kz c a):=by
  unfold za7 kz
  repeat' (first | with_reducible exact Le.refl _ | with_reducible exact za6 _ _ | with_reducible refine Le.bind ?_ (fun _ => ?_) | with_reducible refine Le.cond _ ?_ ?_ | with_reducible refine Le.forR (fun _ _ => ?_) _ _ | with_reducible refine Le.iter (fun _ => ?_) _ _ | with_reducible refine Le.elim (fun _ => ?_) (fun _ => ?_) _)
noncomputable def Xd (c:Zab):Option ((List Zad)×Int):=
  (Option.bind (ZS c) fun r1=>(bif (r1.2 == 0) then (Option.bind (yE ({state:=r1.1,own:=false}:Zah)) fun r2=>(Option.bind (α:=(List Zad) ⊕ Unit) (Option.bind (iterN (σ:=(List Zad)×Int×(List (ByteArray×Bool))) (ρ:=(List Zad) ⊕ Unit) (fun s1=>(bif decide (s1.2.1 < (s1.1.length:Int)) then (Option.bind (α:=((List Zad)×(List (ByteArray×Bool))) ⊕ Unit) (Option.bind (ze s1.1 s1.2.1) fun e1=>(bif (e1.day == c.Zat) then some (.inl (s1.1,s1.2.2)) else (Option.bind (iterN (σ:=(List Zad)×Int×(List (ByteArray×Bool))) (ρ:=((List Zad)×(List (ByteArray×Bool))) ⊕ Unit) (fun s2=>(bif decide (s2.2.1 < (c.Zai.length:Int)) then (Option.bind (α:=((List Zad)×(List (ByteArray×Bool))) ⊕ Unit) (Option.bind (ze s2.1 s1.2.1) fun e2=>(Option.bind (yF c e2 s2.2.1) fun r3=>(Option.bind (yE ({state:=r3.1,own:=false}:Zah)) fun r4=>(bif ((zp r4 s2.2.2).getD false) then some (.inl (s2.1,s2.2.2)) else (bif ((s2.1.length:Int) == 1500) then some (.inr ()) else (Option.bind (zQ (α:=Zad) 80 s2.1 [r3.1]) fun e3=>some (.inl (e3,(zS r4 true s2.2.2))))))))) (Sum.elim (fun (v1:(List Zad)×(List (ByteArray×Bool)))=>some (.inl (v1.1,(IntKind.i64.wrap (s2.2.1+1)),v1.2))) (fun (y1:Unit)=>some (.inr (.inr ()))))) else some (.inr (.inl (s2.1,s2.2.2))))) 40 (s1.1,(-1),s1.2.2)) (Sum.elim (fun (y2:(List Zad)×(List (ByteArray×Bool)))=>some (.inl (y2.1,y2.2))) (fun (y3:Unit)=>some (.inr ())))))) (Sum.elim (fun (v2:(List Zad)×(List (ByteArray×Bool)))=>some (.inl (v2.1,(IntKind.i64.wrap (s1.2.1+1)),v2.2))) (fun (y4:Unit)=>some (.inr (.inr ()))))) else some (.inr (.inl s1.1)))) 40 ([r1.1],0,(zS r2 true []))) (Sum.elim (fun (y5:(List Zad))=>some (.inl y5)) (fun (y6:Unit)=>some (.inr ())))) (Sum.elim (fun (v3:(List Zad))=>some (v3,0)) (fun (y7:Unit)=>some ([],3))))) else some ([],r1.2)))
theorem za8 (c:Zab):Le (Xd c) (xy c):=by
  unfold Xd xy
  repeat' (first | with_reducible exact Le.refl _ | with_reducible exact XU _ | with_reducible exact zcb _ | with_reducible exact ZT _ _ _ | with_reducible refine Le.bind ?_ (fun _ => ?_) | with_reducible refine Le.cond _ ?_ ?_ | with_reducible refine Le.forR (fun _ _ => ?_) _ _ | with_reducible refine Le.iter (fun _ => ?_) _ _ | with_reducible refine Le.elim (fun _ => ?_) (fun _ => ?_) _)
def JD (p:Zad):List UInt8:=j8 p.day++p.Zae.flatMap j8++p.used.flatMap zY++p.Zal.flatMap Ks
def JE (p:Zad):Bool:=j7 p.day&&(p.Zae.all j7&&p.Zal.all ZR)
theorem zfb {p:Zad} (h:JE p=true):JD p=qj p:=by
  simp only [JE,Bool.and_eq_true,List.all_eq_true] at h
  unfold JD qj
  rw [jG h.1,xS (f:=j8) (g:=zC) (fun a ha=>jG (h.2.1 a ha)),xS (f:=Ks) (g:=qR) (fun a ha=>by
    have:=h.2.2 a ha
    simp only [ZR,Bool.and_eq_true] at this
    show j8 a.Zan++j8 a.left++j8 a.got++j8 a.Zav++zY a.ZaA=zC a.Zan++zC a.left++zC a.got++zC a.Zav++zY a.ZaA
    rw [jG this.1,jG this.2.1,jG this.2.2.1,jG this.2.2.2])]
def Xe (p:Zad):Option ByteArray:=bif JE p&&decide ((JD p).length≤1000000000) then some ⟨(JD p).toArray⟩ else none
theorem zgO (p:Zad):Le (Xe p) (wF p):=fun r h=>by
  unfold Xe at h
  cases hq:(JE p&&decide ((JD p).length≤1000000000)) with
  | false=>rw [hq] at h;cases h
  | true=>
    rw [hq] at h
    simp only [Bool.and_eq_true,decide_eq_true_eq] at hq
    have e:=zfb hq.1
    unfold wF
    rw [if_pos,←e]
    · exact h
    · have h1:=hq.1
      simp only [JE,Bool.and_eq_true,List.all_eq_true] at h1
      simp only [zaz,Bool.and_eq_true,decide_eq_true_eq,List.all_eq_true]
      refine ⟨⟨⟨jo h1.1,fun x hx=>jo (h1.2.1 x hx)⟩,fun m hm => ?_⟩,by rw [←e];exact hq.2⟩
      have:=h1.2.2 m hm
      simp only [ZR,Bool.and_eq_true] at this
      exact ⟨⟨⟨jo this.1,jo this.2.1⟩,jo this.2.2.1⟩,jo this.2.2.2⟩
noncomputable def za9 (p1:List Int):Option ((List Int)):=
  (Option.bind (iterN (σ:=Int×Int×(List Int)) (ρ:=(List Int)) (fun s1=>(bif decide (s1.1 < s1.2.1) then (Option.bind (zl p1.length s1.2.1) fun k1=>(Option.bind (s1.2.2[k1]?) fun e1=>(Option.bind (zl p1.length s1.1) fun k2=>(Option.bind (s1.2.2[k2]?) fun e2=>(Option.bind ((s1.2.2.set k2 e1)[k1]?) fun e3=>some (.inl ((IntKind.i64.wrap (s1.1+1)),(IntKind.i64.wrap (s1.2.1 - 1)),((s1.2.2.set k2 e1).set k1 e2)))))))) else some (.inr s1.2.2))) 40 (0,(IntKind.i64.wrap ((p1.length:Int) - 1)),p1)) (fun (y1:(List Int))=>some y1))
theorem zik (p1:List Int):Le (za9 p1) (ky p1):=by
  unfold za9 ky
  repeat' (first | with_reducible exact Le.refl _ | with_reducible refine Le.bind ?_ (fun _ => ?_) | with_reducible refine Le.cond _ ?_ ?_ | with_reducible refine Le.forR (fun _ _ => ?_) _ _ | with_reducible refine Le.iter (fun _ => ?_) _ _ | with_reducible refine Le.elim (fun _ => ?_) (fun _ => ?_) _)
noncomputable def zdl (came:Option (List (Int×Zax))) (n:Int):Option (List Int):=
  Option.bind (iterN (σ:=List Int×Int) (ρ:=List Int) (Qo came) 60 ([],n)) fun l=>Option.bind (za9 l) fun r=>Option.bind (eqN l.length r.length) fun _=>some r
theorem zj2 (came:Option (List (Int×Zax))) (n:Int):Le (zdl came n) (Qp came n):=by
  unfold zdl Qp
  exact Le.bind (Le.iter (fun _=>Le.refl _) _ _) fun _=>Le.bind (zik _) fun _=>Le.refl _
noncomputable def zba (a:ZaC) (ranks:List Int):Option (List Int):=
  (Option.bind (Option.bind (iterN (σ:=(List Int)×Int) (ρ:=(List Int)) (fun s1=>(Option.bind (ze ranks s1.2) fun e1=>(bif decide (0 < e1) then (Option.bind (ze a.Zao s1.2) fun e2=>(bif e2.own then (Option.bind (ze a.moves s1.2) fun e3=>(Option.bind (ze e3 0) fun e4=>some (.inl (s1.1,e4.to)))) else (Option.bind (ze a.moves s1.2) fun e5=>(Option.bind (ZH e5 ranks s1.2) fun r1=>(Option.bind (ze a.moves s1.2) fun e6=>(Option.bind (ze e6 r1) fun e7=>(Option.bind (zQ (α:=Int) 8 s1.1 [e7.step]) fun e8=>some (.inl (e8,e7.to))))))))) else some (.inr s1.1)))) 40 ([],0)) (fun (y1:(List Int))=>some y1)) fun (v1:(List Int))=>some v1)
theorem zil (a:ZaC) (ranks:List Int):Le (zba a ranks) (ZI a ranks):=by
  unfold zba ZI
  repeat' (first | with_reducible exact Le.refl _ | with_reducible refine Le.bind ?_ (fun _ => ?_) | with_reducible refine Le.cond _ ?_ ?_ | with_reducible refine Le.forR (fun _ _ => ?_) _ _ | with_reducible refine Le.iter (fun _ => ?_) _ _ | with_reducible refine Le.elim (fun _ => ?_) (fun _ => ?_) _)
noncomputable def VX (c:Zab) (states:List Zad):Option (Option (List (Int×Zax))):=
  (Option.bind (forR (σ:=(List (ByteArray×Int))) (ρ:=Unit) (states.length:Int) (fun i1 s1=>(Option.bind (ze states (i1:Int)) fun e1=>(Option.bind (Xe e1) fun r1=>some (.inl (zS r1 (i1:Int) s1))))) []) (Sum.elim (fun (s1:(List (ByteArray×Int)))=>(Option.bind (forR (σ:=(List (Int×Zax))) (ρ:=Unit) (states.length:Int) (fun i2 s2=>(Option.bind (Option.bind (ze states (i2:Int)) fun e2=>(bif (e2.day == c.Zat) then some s2 else (Option.bind (iterN (σ:=Int×(List (Int×Zax))) (ρ:=(List (Int×Zax))) (fun s3=>(bif decide (s3.1 < (c.Zai.length:Int)) then (Option.bind (Option.bind (yF c e2 s3.1) fun r2=>(Option.bind (Xe r2.1) fun r3=>(Option.bind (bif ((zp ((zp r3 s1).getD 0) s3.2).isSome) then some false else some (!(((zp r3 s1).getD 0) == 0))) fun v1=>(bif v1 then some (zS ((zp r3 s1).getD 0) ({from_:=(i2:Int),step:=s3.1}:Zax) s3.2) else some s3.2)))) fun (v2:(List (Int×Zax)))=>some (.inl ((IntKind.i64.wrap (s3.1+1)),v2))) else some (.inr s3.2))) 40 ((-1),s2)) (fun (y1:(List (Int×Zax)))=>some y1)))) fun (v3:(List (Int×Zax)))=>some (.inl v3))) []) (Sum.elim (fun (s2:(List (Int×Zax)))=>some (some s2)) (fun _=>none)))) (fun _=>none)))
theorem zgP (c:Zab) (states:List Zad):Le (VX c states) (yW c states):=by
  unfold VX yW
  repeat' (first | with_reducible exact Le.refl _ | with_reducible exact zgO _ | with_reducible exact ZT _ _ _ | with_reducible refine Le.bind ?_ (fun _ => ?_) | with_reducible refine Le.cond _ ?_ ?_ | with_reducible refine Le.forR (fun _ _ => ?_) _ _ | with_reducible refine Le.iter (fun _ => ?_) _ _ | with_reducible refine Le.elim (fun _ => ?_) (fun _ => ?_) _)
noncomputable def JF (c:Zab) (states:List Zad):Option (List Zaj):=
  (Option.bind (forR (σ:=(List Zaj)×(Option (List (Int×Zax)))) (ρ:=Unit) (c.Zag.length:Int) (fun i1 s1=>(Option.bind (forR (σ:=(List Zaj)×(Option (List (Int×Zax)))) (ρ:=Unit) (c.Zag.length:Int) (fun i2 s2=>(Option.bind (Option.bind (xO c (i1:Int) (i2:Int)) fun r1=>(bif r1 then (Option.bind (forR (σ:=(List Zaj)×(Option (List (Int×Zax)))) (ρ:=(List Zaj)×(Option (List (Int×Zax)))) (states.length:Int) (fun i3 s3=>(Option.bind (ze states (i3:Int)) fun e1=>(Option.bind (vG c e1 (i1:Int) (i2:Int)) fun r2=>(bif r2 then (Option.bind (bif s3.2.isSome then some s3.2 else (Option.bind (VX c states) fun r3=>some r3)) fun (v1:(Option (List (Int×Zax))))=>(Option.bind (zdl v1 (i3:Int)) fun r4=>(Option.bind (jg 4 (-1) (i1:Int) (i2:Int) r4) fun r5=>(Option.bind (zQ (α:=Zaj) 56 s3.1 [r5]) fun e2=>some (.inr (e2,v1)))))) else some (.inl (s3.1,s3.2)))))) (s2.1,s2.2)) (Sum.elim (fun (s3:(List Zaj)×(Option (List (Int×Zax))))=>some (s3.1,s3.2)) (fun (y1:(List Zaj)×(Option (List (Int×Zax))))=>some (y1.1,y1.2)))) else some (s2.1,s2.2))) fun (v2:(List Zaj)×(Option (List (Int×Zax))))=>some (.inl (v2.1,v2.2)))) (s1.1,s1.2)) (Sum.elim (fun (s2:(List Zaj)×(Option (List (Int×Zax))))=>some (.inl (s2.1,s2.2))) (fun _=>none)))) ([],none)) (Sum.elim (fun (s1:(List Zaj)×(Option (List (Int×Zax))))=>some s1.1) (fun _=>none)))
theorem zdm (c:Zab) (states:List Zad):Le (JF c states) (wH c states):=by
  unfold JF wH
  repeat' (first | with_reducible exact Le.refl _ | with_reducible exact zgP _ _ | with_reducible exact zj2 _ _ | with_reducible refine Le.bind ?_ (fun _ => ?_) | with_reducible refine Le.cond _ ?_ ?_ | with_reducible refine Le.forR (fun _ _ => ?_) _ _ | with_reducible refine Le.iter (fun _ => ?_) _ _ | with_reducible refine Le.elim (fun _ => ?_) (fun _ => ?_) _)
noncomputable def zfc (c:Zab):Option ((List Zaj)×Int):=
  (Option.bind (Xd c) fun r1=>(bif (r1.2 == 0) then (Option.bind (forR (σ:=(List Zaj)) (ρ:=Int) c.Zap (fun i1 s1=>(Option.bind (α:=(List Zaj) ⊕ Int) (Option.bind (Xb c (i1:Int)) fun r2=>(bif (r2.2 == 0) then (Option.bind (Xc c r2.1) fun r3=>(Option.bind (ze r3 0) fun e1=>(bif decide (0≤e1) then (Option.bind (zba r2.1 r3) fun r4=>(Option.bind (jg 1 (i1:Int) (-1) (-1) r4) fun r5=>(Option.bind (zQ (α:=Zaj) 56 s1 [r5]) fun e2=>some (.inl e2)))) else some (.inl s1)))) else some (.inr r2.2))) (Sum.elim (fun (v1:(List Zaj))=>some (.inl v1)) (fun (y1:Int)=>some (.inr y1))))) []) (Sum.elim (fun (s1:(List Zaj))=>(Option.bind (forR (σ:=(List Zaj)×(List Zaj)) (ρ:=Unit) (c.Zag.length:Int) (fun i2 s2=>(Option.bind (Jm (i2:Int) r1.1 s2.1 c s2.2) fun r6=>some (.inl (r6.1,r6.2)))) (s1,[])) (Sum.elim (fun (s2:(List Zaj)×(List Zaj))=>(Option.bind (zQ (α:=Zaj) 56 s2.1 s2.2) fun e3=>(Option.bind (JF c r1.1) fun r7=>(Option.bind (zQ (α:=Zaj) 56 e3 r7) fun e4=>some (e4,0))))) (fun _=>none)))) (fun (y2:Int)=>some ([],y2)))) else some ([],r1.2)))
theorem VY (c:Zab):Le (zfc c) (jW c):=by
  unfold zfc jW
  repeat' (first | with_reducible exact Le.refl _ | with_reducible exact za8 _ | with_reducible exact za5 _ _ | with_reducible exact za6 _ _ | with_reducible exact zil _ _ | with_reducible exact zdm _ _ | with_reducible refine Le.bind ?_ (fun _ => ?_) | with_reducible refine Le.cond _ ?_ ?_ | with_reducible refine Le.forR (fun _ _ => ?_) _ _ | with_reducible refine Le.iter (fun _ => ?_) _ _ | with_reducible refine Le.elim (fun _ => ?_) (fun _ => ?_) _)
noncomputable def XV (c:Zab) (s:Zad) (f:Zaj):Option (Bool):=
  (Option.bind (forR (σ:=Int×(List Int)×(List Bool)×(List Zaa)) (ρ:=Unit) (f.ZaE.length:Int) (fun i1 s1=>(Option.bind (ze f.ZaE (i1:Int)) fun e1=>(Option.bind (bif (e1 == (-1)) then some false else (Option.bind (zaM c ({day:=s1.1,Zae:=s1.2.1,used:=s1.2.2.1,Zal:=s1.2.2.2}:Zad) e1) fun r1=>some (r1 == f.zw))) fun v1=>(bif v1 then some (.inr ()) else (Option.bind (yF c ({day:=s1.1,Zae:=s1.2.1,used:=s1.2.2.1,Zal:=s1.2.2.2}:Zad) e1) fun r2=>(bif (r2.2 == 0) then (Option.bind (bif ((i1:Int) == (IntKind.i64.wrap ((f.ZaE.length:Int) - 1))) then (Option.bind (jC c ({day:=s1.1,Zae:=s1.2.1,used:=s1.2.2.1,Zal:=s1.2.2.2}:Zad) f.zw) fun r3=>some r3) else some false) fun v2=>(bif v2 then some (.inr ()) else some (.inl (r2.1.day,r2.1.Zae,r2.1.used,r2.1.Zal)))) else some (.inr ()))))))) (s.day,s.Zae,s.used,s.Zal)) (Sum.elim (fun (s1:Int×(List Int)×(List Bool)×(List Zaa))=>(Option.bind (jC c ({day:=s1.1,Zae:=s1.2.1,used:=s1.2.2.1,Zal:=s1.2.2.2}:Zad) f.zw) fun r4=>some r4)) (fun (y1:Unit)=>some false)))
theorem zfd (c:Zab) (s:Zad) (f:Zaj):Le (XV c s f) (Qr c s f):=by
  unfold XV Qr
  repeat' (first | with_reducible exact Le.refl _ | with_reducible exact ZT _ _ _ | with_reducible refine Le.bind ?_ (fun _ => ?_) | with_reducible refine Le.cond _ ?_ ?_ | with_reducible refine Le.forR (fun _ _ => ?_) _ _ | with_reducible refine Le.iter (fun _ => ?_) _ _ | with_reducible refine Le.elim (fun _ => ?_) (fun _ => ?_) _)
noncomputable def XW (c:Zab) (zw:Int):Option (Bool):=
  (Option.bind (Xb c zw) fun r1=>(Option.bind (bif (r1.2 == 0) then (Option.bind (za7 c r1.1) fun r2=>(Option.bind (ze r2 0) fun e1=>some (!e1))) else some false) fun v1=>some v1))
theorem zfe (c:Zab) (zw:Int):Le (XW c zw) (Qs c zw):=by
  unfold XW Qs
  repeat' (first | with_reducible exact Le.refl _ | with_reducible exact za5 _ _ | with_reducible exact zij _ _ | with_reducible refine Le.bind ?_ (fun _ => ?_) | with_reducible refine Le.cond _ ?_ ?_ | with_reducible refine Le.forR (fun _ _ => ?_) _ _ | with_reducible refine Le.iter (fun _ => ?_) _ _ | with_reducible refine Le.elim (fun _ => ?_) (fun _ => ?_) _)
noncomputable def VZ (c:Zab) (f:Zaj):Option (Bool):=
  (Option.bind (Xd c) fun r1=>(bif (r1.2 == 0) then (bif (f.kind == 2) then (Option.bind (yz r1.1 f.clause) fun r2=>some r2) else (Option.bind (Option.bind (yz r1.1 f.clause) fun r3=>(bif r3 then some false else (Option.bind (vF c r1.1 f.clause) fun r4=>some r4))) fun v1=>some v1)) else some false))
theorem zgQ (c:Zab) (f:Zaj):Le (VZ c f) (J1 c f):=by
  unfold VZ J1
  repeat' (first | with_reducible exact Le.refl _ | with_reducible exact za8 _ | with_reducible refine Le.bind ?_ (fun _ => ?_) | with_reducible refine Le.cond _ ?_ ?_ | with_reducible refine Le.forR (fun _ _ => ?_) _ _ | with_reducible refine Le.iter (fun _ => ?_) _ _ | with_reducible refine Le.elim (fun _ => ?_) (fun _ => ?_) _)
noncomputable def zcc (c:Zab) (f:Zaj):Option (Bool):=
  (Option.bind (ZS c) fun r1=>(bif (r1.2 == 0) then (Option.bind (bif decide (0≤f.clause) then (bif decide (f.clause < (c.Zag.length:Int)) then some (f.zw == (-1)) else some false) else some false) fun v1=>(bif (f.kind == 1) then (Option.bind (bif decide (0≤f.zw) then (bif decide (f.zw < c.Zap) then (bif (f.clause == (-1)) then (bif (f.other == (-1)) then (Option.bind (XV c r1.1 f) fun r2=>(bif r2 then (Option.bind (XW c f.zw) fun r3=>some r3) else some false)) else some false) else some false) else some false) else some false) fun v2=>some v2) else (Option.bind (bif (f.kind == 2) then some (f.kind == 2) else some (f.kind == 3)) fun (v3:Bool)=>(bif v3 then (Option.bind (bif v1 then (bif (f.other == (-1)) then (bif ((f.ZaE.length:Int) == 0) then (Option.bind (VZ c f) fun r4=>some r4) else some false) else some false) else some false) fun v4=>some v4) else (bif (f.kind == 4) then (Option.bind (bif v1 then (bif decide (f.other < 0) then some true else (bif decide ((c.Zag.length:Int)≤f.other) then some true else (Option.bind (xO c f.clause f.other) fun r5=>some (!r5)))) else some true) fun v5=>(bif v5 then some false else (Option.bind (forR (σ:=Int×(List Int)×(List Bool)×(List Zaa)) (ρ:=Unit) (f.ZaE.length:Int) (fun i1 s1=>(Option.bind (ze f.ZaE (i1:Int)) fun e1=>(Option.bind (yF c ({day:=s1.1,Zae:=s1.2.1,used:=s1.2.2.1,Zal:=s1.2.2.2}:Zad) e1) fun r6=>(bif (r6.2 == 0) then some (.inl (r6.1.day,r6.1.Zae,r6.1.used,r6.1.Zal)) else some (.inr ()))))) (r1.1.day,r1.1.Zae,r1.1.used,r1.1.Zal)) (Sum.elim (fun (s1:Int×(List Int)×(List Bool)×(List Zaa))=>(Option.bind (vG c ({day:=s1.1,Zae:=s1.2.1,used:=s1.2.2.1,Zal:=s1.2.2.2}:Zad) f.clause f.other) fun r7=>some r7)) (fun (y1:Unit)=>some false))))) else some false))))) else some false))
theorem vN (c:Zab) (f:Zaj):Le (zcc c f) (qJ c f):=by
  unfold zcc qJ
  repeat' (first | with_reducible exact Le.refl _ | with_reducible exact XU _ | with_reducible exact zfd _ _ _ | with_reducible exact zfe _ _ | with_reducible exact zgQ _ _ | with_reducible exact ZT _ _ _ | with_reducible refine Le.bind ?_ (fun _ => ?_) | with_reducible refine Le.cond _ ?_ ?_ | with_reducible refine Le.forR (fun _ _ => ?_) _ _ | with_reducible refine Le.iter (fun _ => ?_) _ _ | with_reducible refine Le.elim (fun _ => ?_) (fun _ => ?_) _)
theorem zj3:jW ({Zap:=1,Zae:=[0],Zaw:=[],Zai:=[({kind:=1,Zaq:=0,give:=0,to:=(-1),unit:=(-1),lot:=({num:=0,den:=1}:Ratio)}:Zau)],Zag:=[({kind:=1,Zaq:=0,act:=0,need:=1,start:=[],after:=2,Zay:=0,ZaF:=false,final:=true,pause:=(-1),ZaB:=(-1),value:=({num:=0,den:=1}:Ratio),unit:=(-1),to:=(-1),Zaz:=false}:Zam),({kind:=2,Zaq:=0,act:=0,need:=1,start:=[],after:=3,Zay:=0,ZaF:=false,final:=true,pause:=(-1),ZaB:=(-1),value:=({num:=0,den:=1}:Ratio),unit:=(-1),to:=(-1),Zaz:=false}:Zam)],Zat:=5,off:=[]}:Zab)=some (([({kind:=1,zw:=0,clause:=(-1),other:=(-1),ZaE:=[(-1),(-1)]}:Zaj),({kind:=4,zw:=(-1),clause:=0,other:=1,ZaE:=[]}:Zaj)],0):List Zaj×Int):=VY _ _ (by kernel_rfl)
theorem zj4:jW ({Zap:=1,Zae:=[0],Zaw:=[],Zai:=[({kind:=1,Zaq:=0,give:=0,to:=(-1),unit:=(-1),lot:=({num:=0,den:=1}:Ratio)}:Zau)],Zag:=[({kind:=1,Zaq:=0,act:=0,need:=1,start:=[],after:=2,Zay:=0,ZaF:=false,final:=true,pause:=(-1),ZaB:=(-1),value:=({num:=0,den:=1}:Ratio),unit:=(-1),to:=(-1),Zaz:=false}:Zam),({kind:=2,Zaq:=0,act:=0,need:=1,start:=[],after:=1,Zay:=0,ZaF:=false,final:=true,pause:=(-1),ZaB:=(-1),value:=({num:=0,den:=1}:Ratio),unit:=(-1),to:=(-1),Zaz:=false}:Zam)],Zat:=5,off:=[]}:Zab)=some (([],0):List Zaj×Int):=VY _ _ (by kernel_rfl)
theorem zj5:jW ({Zap:=1,Zae:=[0],Zaw:=[],Zai:=[({kind:=1,Zaq:=0,give:=0,to:=(-1),unit:=(-1),lot:=({num:=0,den:=1}:Ratio)}:Zau)],Zag:=[({kind:=1,Zaq:=0,act:=0,need:=1,start:=[],after:=2,Zay:=0,ZaF:=false,final:=true,pause:=(-1),ZaB:=(-1),value:=({num:=0,den:=1}:Ratio),unit:=(-1),to:=(-1),Zaz:=false}:Zam),({kind:=2,Zaq:=0,act:=0,need:=1,start:=[({clause:=0,is:=4}:CondT)],after:=3,Zay:=0,ZaF:=false,final:=true,pause:=(-1),ZaB:=(-1),value:=({num:=0,den:=1}:Ratio),unit:=(-1),to:=(-1),Zaz:=false}:Zam)],Zat:=5,off:=[]}:Zab)=some (([({kind:=2,zw:=(-1),clause:=1,other:=(-1),ZaE:=[]}:Zaj)],0):List Zaj×Int):=VY _ _ (by kernel_rfl)
theorem zj6:qJ ({Zap:=1,Zae:=[0],Zaw:=[],Zai:=[({kind:=1,Zaq:=0,give:=0,to:=(-1),unit:=(-1),lot:=({num:=0,den:=1}:Ratio)}:Zau)],Zag:=[({kind:=1,Zaq:=0,act:=0,need:=1,start:=[],after:=2,Zay:=0,ZaF:=false,final:=true,pause:=(-1),ZaB:=(-1),value:=({num:=0,den:=1}:Ratio),unit:=(-1),to:=(-1),Zaz:=false}:Zam),({kind:=2,Zaq:=0,act:=0,need:=1,start:=[],after:=3,Zay:=0,ZaF:=false,final:=true,pause:=(-1),ZaB:=(-1),value:=({num:=0,den:=1}:Ratio),unit:=(-1),to:=(-1),Zaz:=false}:Zam)],Zat:=5,off:=[]}:Zab) ({kind:=1,zw:=0,clause:=(-1),other:=(-1),ZaE:=[(-1),(-1)]}:Zaj)=some true:=vN _ _ _ (by kernel_rfl)
theorem zj7:qJ ({Zap:=1,Zae:=[0],Zaw:=[],Zai:=[({kind:=1,Zaq:=0,give:=0,to:=(-1),unit:=(-1),lot:=({num:=0,den:=1}:Ratio)}:Zau)],Zag:=[({kind:=1,Zaq:=0,act:=0,need:=1,start:=[],after:=2,Zay:=0,ZaF:=false,final:=true,pause:=(-1),ZaB:=(-1),value:=({num:=0,den:=1}:Ratio),unit:=(-1),to:=(-1),Zaz:=false}:Zam),({kind:=2,Zaq:=0,act:=0,need:=1,start:=[],after:=3,Zay:=0,ZaF:=false,final:=true,pause:=(-1),ZaB:=(-1),value:=({num:=0,den:=1}:Ratio),unit:=(-1),to:=(-1),Zaz:=false}:Zam)],Zat:=5,off:=[]}:Zab) ({kind:=4,zw:=(-1),clause:=0,other:=1,ZaE:=[]}:Zaj)=some true:=vN _ _ _ (by kernel_rfl)
theorem zj8:qJ ({Zap:=1,Zae:=[0],Zaw:=[],Zai:=[({kind:=1,Zaq:=0,give:=0,to:=(-1),unit:=(-1),lot:=({num:=0,den:=1}:Ratio)}:Zau)],Zag:=[({kind:=1,Zaq:=0,act:=0,need:=1,start:=[],after:=2,Zay:=0,ZaF:=false,final:=true,pause:=(-1),ZaB:=(-1),value:=({num:=0,den:=1}:Ratio),unit:=(-1),to:=(-1),Zaz:=false}:Zam),({kind:=2,Zaq:=0,act:=0,need:=1,start:=[({clause:=0,is:=4}:CondT)],after:=3,Zay:=0,ZaF:=false,final:=true,pause:=(-1),ZaB:=(-1),value:=({num:=0,den:=1}:Ratio),unit:=(-1),to:=(-1),Zaz:=false}:Zam)],Zat:=5,off:=[]}:Zab) ({kind:=2,zw:=(-1),clause:=1,other:=(-1),ZaE:=[]}:Zaj)=some true:=vN _ _ _ (by kernel_rfl)
theorem zj9:qJ ({Zap:=1,Zae:=[0],Zaw:=[],Zai:=[({kind:=1,Zaq:=0,give:=0,to:=(-1),unit:=(-1),lot:=({num:=0,den:=1}:Ratio)}:Zau)],Zag:=[({kind:=1,Zaq:=0,act:=0,need:=1,start:=[],after:=2,Zay:=0,ZaF:=false,final:=true,pause:=(-1),ZaB:=(-1),value:=({num:=0,den:=1}:Ratio),unit:=(-1),to:=(-1),Zaz:=false}:Zam),({kind:=2,Zaq:=0,act:=0,need:=1,start:=[],after:=1,Zay:=0,ZaF:=false,final:=true,pause:=(-1),ZaB:=(-1),value:=({num:=0,den:=1}:Ratio),unit:=(-1),to:=(-1),Zaz:=false}:Zam)],Zat:=5,off:=[]}:Zab) ({kind:=1,zw:=0,clause:=(-1),other:=(-1),ZaE:=[(-1),(-1)]}:Zaj)=some false:=vN _ _ _ (by kernel_rfl)
theorem zka:qJ ({Zap:=1,Zae:=[0],Zaw:=[],Zai:=[({kind:=1,Zaq:=0,give:=0,to:=(-1),unit:=(-1),lot:=({num:=0,den:=1}:Ratio)}:Zau)],Zag:=[({kind:=1,Zaq:=0,act:=0,need:=1,start:=[],after:=2,Zay:=0,ZaF:=false,final:=true,pause:=(-1),ZaB:=(-1),value:=({num:=0,den:=1}:Ratio),unit:=(-1),to:=(-1),Zaz:=false}:Zam),({kind:=2,Zaq:=0,act:=0,need:=1,start:=[],after:=1,Zay:=0,ZaF:=false,final:=true,pause:=(-1),ZaB:=(-1),value:=({num:=0,den:=1}:Ratio),unit:=(-1),to:=(-1),Zaz:=false}:Zam)],Zat:=5,off:=[]}:Zab) ({kind:=4,zw:=(-1),clause:=0,other:=1,ZaE:=[]}:Zaj)=some false:=vN _ _ _ (by kernel_rfl)
theorem zkb:qJ ({Zap:=1,Zae:=[0],Zaw:=[],Zai:=[({kind:=1,Zaq:=0,give:=0,to:=(-1),unit:=(-1),lot:=({num:=0,den:=1}:Ratio)}:Zau)],Zag:=[({kind:=1,Zaq:=0,act:=0,need:=1,start:=[],after:=2,Zay:=0,ZaF:=false,final:=true,pause:=(-1),ZaB:=(-1),value:=({num:=0,den:=1}:Ratio),unit:=(-1),to:=(-1),Zaz:=false}:Zam),({kind:=2,Zaq:=0,act:=0,need:=1,start:=[],after:=3,Zay:=0,ZaF:=false,final:=true,pause:=(-1),ZaB:=(-1),value:=({num:=0,den:=1}:Ratio),unit:=(-1),to:=(-1),Zaz:=false}:Zam)],Zat:=5,off:=[]}:Zab) ({kind:=2,zw:=(-1),clause:=1,other:=(-1),ZaE:=[]}:Zaj)=some false:=vN _ _ _ (by kernel_rfl)
noncomputable def e_head21:Option (Bool):=
  (Option.bind (x6 3) fun r1=>(Option.bind (x6 1) fun r2=>(Option.bind (x6 3) fun r3=>(Option.bind (some (([({kind:=1,zw:=0,clause:=(-1),other:=(-1),ZaE:=[(-1),(-1)]}:Zaj),({kind:=4,zw:=(-1),clause:=0,other:=1,ZaE:=[]}:Zaj)],0):List Zaj×Int)) fun r4=>(Option.bind (some (([],0):List Zaj×Int)) fun r5=>(Option.bind (some (([({kind:=2,zw:=(-1),clause:=1,other:=(-1),ZaE:=[]}:Zaj)],0):List Zaj×Int)) fun r6=>(Option.bind (bif (r4.2 == 0) then (Option.bind (vH r4.1 ([({kind:=1,zw:=0,clause:=(-1),other:=(-1),ZaE:=[(-1),(-1)]}:Zaj),({kind:=4,zw:=(-1),clause:=0,other:=1,ZaE:=[]}:Zaj)])) fun r7=>(bif r7 then (bif (r5.2 == 0) then (bif ((r5.1.length:Int) == 0) then (bif (r6.2 == 0) then (Option.bind (vH r6.1 ([({kind:=2,zw:=(-1),clause:=1,other:=(-1),ZaE:=[]}:Zaj)])) fun r8=>some r8) else some false) else some false) else some false) else some false)) else some false) fun v1=>(Option.bind (bif v1 then (Option.bind (some true) fun r9=>(bif r9 then (Option.bind (some true) fun r10=>(bif r10 then (Option.bind (some true) fun r11=>(bif r11 then (Option.bind (some false) fun r12=>(bif r12 then some false else (Option.bind (some false) fun r13=>(bif r13 then some false else (Option.bind (some false) fun r14=>some (!r14)))))) else some false)) else some false)) else some false)) else some false) fun v2=>some v2))))))))
theorem zgR:kA=some true:=by
  have e:kA=e_head21:=by
    unfold kA e_head21
    rw [zj3,zj4,zj5,zj6,zj7,zj8,zj9,zka,zkb]
  exact e.trans (show e_head21=some true by kernel_rfl)
end Go.Proofs.YtlpmnmbebkdocaaGreatDoor
namespace Go.Proofs.YtlpmnmbebkdocaaGreatDoor
open Go.RowKit
set_option linter.unusedSimpArgs false
set_option linter.unusedVariables false
set_option maxRecDepth 100000
section
def kI (k p cl:Int) (f:Zaj):Bool:=f.kind == k&&(f.zw == p&&f.clause == cl)
theorem zlo (l:List Zaj) (hl:l.length < 4611686018427387904) (k p cl:Int):ZJ l k p cl=some (l.any (kI k p cl)):=by
  unfold ZJ
  rw [q8 (npA l (kI k p cl)) (fun _=>()) (by omega) (fun j hj=>by
    rw [zj (List.getElem?_eq_getElem hj)]
    simp only [ZaJ,ZQ hj,kI]
    cases (l[j].kind == k)<;>cases (l[j].zw == p)<;>cases (l[j].clause == cl)<;>rfl)]
  have hf:=Zg l (kI k p cl)
  simp only [ZaJ]
  cases hq:(List.range l.length).find? (fun j=>!(npA l (kI k p cl) j)) with
  | none=>rw [hq] at hf;rw [←hf];rfl
  | some j=>rw [hq] at hf;rw [←hf];simp
theorem zff {α:Type} {l:List α} {p:α→Bool} {b:Bool} (h1:b=true→∃ x∈l,p x=true) (h2:∀ x∈l,p x=true→b=true):l.any p=b:=by
  cases b with
  | true=>exact List.any_eq_true.2 (h1 rfl)
  | false=>
    rw [Bool.eq_false_iff]
    intro h
    obtain ⟨x,hx,hp⟩:=List.any_eq_true.1 h
    cases h2 x hx hp
section
variable {c:Zab} {s0:Zad} {L:List Zad} {l:List Zaj}
theorem YR {n:Nat} {f:Zaj}:f∈xY L n↔∃ i,i < n∧wl L i=true∧f=xk i:=by
  simp only [xY,List.mem_map,List.mem_filter,List.mem_range]
  constructor
  · rintro ⟨i,⟨h1,h2⟩,rfl⟩;exact ⟨i,h1,h2,rfl⟩
  · rintro ⟨i,h1,h2,rfl⟩;exact ⟨i,⟨h1,h2⟩,rfl⟩
theorem zfg {n:Nat} {f:Zaj}:f∈wm c L n↔∃ i,i < n∧wl L i=false∧unB c L i=true∧f=vi i:=by
  simp only [wm,List.mem_map,List.mem_filter,List.mem_range,Bool.and_eq_true,Bool.not_eq_true']
  constructor
  · rintro ⟨i,⟨h1,h2,h3⟩,rfl⟩;exact ⟨i,h1,h2,h3,rfl⟩
  · rintro ⟨i,h1,h2,h3,rfl⟩;exact ⟨i,⟨h1,h2,h3⟩,rfl⟩
theorem FindOk.cases (h:FindOk c s0 L l) {f:Zaj} (hf:f∈l) :
    (f.kind=1∧f.clause = -1∧f.other = -1∧∃ p:Nat,(p:Int) < c.Zap∧f.zw=(p:Int)∧zD c (p:Int) (atO s0)=false∧PlayT c (p:Int) s0 f.ZaE) ∨
    (∃ i,i < c.Zag.length∧wl L i=true∧f=xk i)∨(∃ i,i < c.Zag.length∧wl L i=false∧unB c L i=true∧f=vi i)∨(∃ a b,ClF c s0 L a b f):=by
  obtain ⟨F,C,rfl,hF,hC⟩:=h
  simp only [List.mem_append] at hf
  rcases hf with ((hf | hf) | hf) | hf
  · obtain ⟨h1,h2,h3,p,h4,h5⟩:=hF.el f hf
    exact .inl ⟨h1,h2,h3,p,by omega,h5⟩
  · exact .inr (.inl (YR.1 hf))
  · exact .inr (.inr (.inl (zfg.1 hf)))
  · obtain ⟨a,b,_,h1⟩:=hC.el f hf
    exact .inr (.inr (.inr ⟨a,b,h1⟩))
theorem FindOk.forced (h:FindOk c s0 L l) {p:Nat} (hp:(p:Int) < c.Zap):l.any (kI 1 (p:Int) (-1))=!zD c (p:Int) (atO s0):=by
  refine zff (fun hs => ?_) (fun f hf hh => ?_)
  · obtain ⟨F,C,rfl,hF,hC⟩:=h
    obtain ⟨f,h1,h2⟩:=hF.has p (by omega) (by simpa using hs)
    refine ⟨f,by simp [h1],?_⟩
    obtain ⟨g1,g2,g3,_⟩:=hF.el f h1
    simp [kI,g1,g2,h2]
  · simp only [kI,Bool.and_eq_true,beq_iff_eq] at hh
    rcases h.cases hf with ⟨_,_,_,q,_,h5,h6,_⟩ | ⟨i,_,_,rfl⟩ | ⟨i,_,_,_,rfl⟩ | ⟨a,b,h1⟩
    · rw [h5] at hh
      have:q=p:=by omega
      subst this
      rw [h6];rfl
    · exact absurd hh.1 (by first | decide | simp [xk,vi])
    · exact absurd hh.1 (by first | decide | simp [xk,vi])
    · rw [h1.kind] at hh;exact absurd hh.1 (by first | decide | simp [xk,vi])
theorem FindOk.dead (h:FindOk c s0 L l) {i:Nat} (hi:i < c.Zag.length):l.any (kI 2 (-1) (i:Int))=wl L i:=by
  refine zff (fun hs => ?_) (fun f hf hh => ?_)
  · obtain ⟨F,C,rfl,hF,hC⟩:=h
    have:xk i∈xY L c.Zag.length:=YR.2 ⟨i,hi,hs,rfl⟩
    exact ⟨xk i,by simp [this],by simp [kI,xk]⟩
  · simp only [kI,Bool.and_eq_true,beq_iff_eq] at hh
    rcases h.cases hf with ⟨h1,_⟩ | ⟨j,_,h2,rfl⟩ | ⟨j,_,_,_,rfl⟩ | ⟨a,b,h1⟩
    · rw [h1] at hh;exact absurd hh.1 (by first | decide | simp [xk,vi])
    · have:j=i:=by have:=hh.2.2;simp only [xk] at this;omega
      subst this;exact h2
    · exact absurd hh.1 (by first | decide | simp [xk,vi])
    · rw [h1.kind] at hh;exact absurd hh.1 (by first | decide | simp [xk,vi])
theorem FindOk.len (hc:c.Ok) (hv:VS c s0) (h:FindOk c s0 L l):l.length < 1000000:=by
  have sm:=qt (hc.off.lt (by omega:0 < 8)) hv.cv
  have s1:=sm.Zap
  have s3:=sm.Zag
  obtain ⟨F,C,rfl,hF,hC⟩:=h
  have l1:=JA L c.Zag.length
  have l2:=JB c L c.Zag.length
  have h1:=hF.len
  have h2:=hC.len
  have hbig:c.Zag.length*c.Zag.length≤400*400:=Nat.mul_le_mul (by omega) (by omega)
  simp only [List.length_append]
  omega
end
end
section
section
variable {c:Zab} {zw:Int} {s0:Zad} {a:ZaC}
theorem zgS (hc:c.Ok) {s:Zad} (hv:VS c s) (h1:zD c zw (atO s)=true) (h2:zD c zw (atX s)=true) (hd:s.day < c.Zat) {o:Int} (h0 : -1≤o) (ho:o < c.Zai.length) (hdo:jU c s o≠zw):zD c zw (atO (z8 c s o))=true:=by
  have hall:=(zgD (q:=atX s) rfl).1 (jL.1 h2)
  have go:o∈zu c zw (atX s)→zD c zw (atO (z8 c s o))=true:=fun hm=>by
    have:=hall.2 o hm
    rw [yh c _ h0] at this
    exact jL.2 this
  by_cases e:o = -1
  · subst e;exact go (zaZ rfl hd)
  · obtain ⟨i,rfl⟩:∃ i:Nat,o=(i:Int):=⟨o.toNat,by omega⟩
    have hi:i < c.Zai.length:=by omega
    cases hsm:wk (z8 c s i) s with
    | true=>rw [wK.1 hsm];exact h1
    | false=>
      refine go (jh.2 (.inr (.inr ⟨hd,i,hi,?_,rfl⟩)))
      have hdo2:jU c s (i:Int)=jT s.Zae c.Zai[i]:=by
        unfold jU;rw [if_neg (by omega),Int.toNat_natCast,List.getElem?_eq_getElem hi]
      rw [hdo2] at hdo
      simp only [mvB,List.getElem?_eq_getElem hi,hsm,atX]
      rw [beq_eq_false_iff_ne.2 hdo];rfl
abbrev Kt (c:Zab) (zw:Int) (s:Zad):Prop:=zD c zw (atO s)=true
theorem Vl (hc:c.Ok) (hv0:VS c s0) {l l1:List Int} (h:Adv c zw s0 l l1):TrOk c (Kt c zw) s0 l→TrOk c (Kt c zw) s0 l1∧(stF c s0 l1).day=(stF c s0 l).day∧qD c zw (atO (stF c s0 l1)) = -2:=by
  induction h with
  | stop h=>exact fun ht=>⟨ht,rfl,h⟩
  | go h t ih=>
    intro ht
    obtain ⟨b0,b1,b2,b3,b4,b5⟩:=zb9 hc (ht.vsl hc hv0) h
    obtain ⟨i1,i2,i3⟩:=ih (ht.snoc b2 (by omega) b1 b4)
    exact ⟨i1,by rw [i2,xR,b5],i3⟩
theorem zfh (hc:c.Ok) (hv0:VS c s0) {os l l2:List Int} (h:Fw c zw s0 os l l2):(∀ x∈os,-1≤x∧x < c.Zai.length)→TrOk c (Kt c zw) s0 l→TrOk c (Kt c zw) s0 l2:=by
  induction h with
  | done=>exact fun _ ht=>ht
  | stop _=>exact fun _ ht=>ht
  | own h ha hd t ih=>exact fun hos ht=>ih (fun x hx=>hos x (List.mem_cons_of_mem _ hx)) (Vl hc hv0 ha ht).1
  | oth h ha hd t ih=>
    intro hos ht
    rename_i o os l l1 l2
    obtain ⟨h1,h2,h3⟩:=Vl hc hv0 ha ht
    have hv1:=h1.vsl hc hv0
    have hs:zD c zw (atO (stF c s0 l1))=true:=by
      have:=h1.all l1.length (Nat.le_refl _);rw [List.take_length] at this;exact this
    have hx:zD c zw (atX (stF c s0 l1))=true:=by
      obtain ⟨_,g2,_⟩:=zb8 (c:=c) (zw:=zw) (q:=atO (stF c s0 l1)) rfl hs
      rw [h3,Zo] at g2;exact g2
    have hd2:(stF c s0 l1).day < c.Zat:=by
      have:=hv1.day
      rw [←h2] at h
      omega
    obtain ⟨o0,o1⟩:=hos o List.mem_cons_self
    exact ih (fun x hx=>hos x (List.mem_cons_of_mem _ hx)) (h1.snoc hd2 o0 o1 (zgS hc hv1 hs hx hd2 o0 o1 hd))
end
end
theorem zbb (c:Zab) (zw:Int) (ZaH:List Int) (hc:Zab.Ok c) (hparty:InK .u8 zw) (hot:LOk 8 (fun x:Int=>InK .i64 x) ZaH):kC c zw ZaH=some true:=by
  refine Ret.eq ?_
  have hpu:0≤zw∧zw≤255:=hparty
  unfold kC
  refine Ret.bindE zgR ?_
  refine Ret.bind (P:=fun b:Bool=>b=true∨(b=false∧1≤c.Zap∧ZaH.length≤40)) ?_ ?_
  · refine Ret.bindE (zjQ hc) ?_
    refine Ret.ite (fun _ => ?_) (fun _=>Ret.some (.inl rfl))
    refine Ret.ite (fun _=>Ret.some (.inl rfl)) (fun h1=>Ret.some ?_)
    have h1:=of_decide_eq_false h1
    by_cases h:40 < (ZaH.length:Int)
    · exact .inl (decide_eq_true h)
    · exact .inr ⟨decide_eq_false h,by omega,by omega⟩
  rintro b (rfl | ⟨rfl,hp1,hol⟩)
  · exact Ret.ite (fun _=>Ret.some rfl) (fun h=>by cases h)
  refine Ret.ite (fun h=>by cases h) (fun _ => ?_)
  rw [zW (by omega) (by omega)]
  refine Ret.bindE (v:=zw.tmod c.Zap) (by unfold yH;rw [if_neg (by omega)]) ?_
  have h3:0≤zw.tmod c.Zap:=Int.tmod_nonneg _ hpu.1
  have h4:zw.tmod c.Zap < c.Zap:=Int.tmod_lt_of_pos _ (by omega)
  generalize zw.tmod c.Zap=p at h3 h4
  obtain ⟨q,rfl⟩:∃ q:Nat,p=(q:Int):=⟨p.toNat,by omega⟩
  refine Ret.bind (zgL hc) ?_
  rintro ⟨l,e⟩ hF
  rcases hF with ⟨he,hl⟩ | ⟨he,s0,L,hst,hvs,hr,h,hB,hF⟩
  · simp only at he
    rw [show (((l,e):List Zaj×Int).2 == 0)=false from beq_eq_false_iff_ne.2 he]
    refine Ret.bindE (v:=true) rfl ?_
    exact Ret.ite (fun _=>Ret.some rfl) (fun h=>by cases h)
  simp only at he hF
  subst he
  refine Ret.bindE (v := !zD c (q:Int) (atO s0)) (by
    show (bif true then (Option.bind (ZJ l 1 (q:Int) (-1)) fun r4=>some r4) else some true)=_
    rw [cond_true,zlo l (by have:=hF.len hc hvs;omega),hF.forced h4];rfl) ?_
  refine Ret.ite (fun _=>Ret.some rfl) (fun hsafe => ?_)
  have hsafe:zD c (q:Int) (atO s0)=true:=by simpa using hsafe
  refine Ret.bind (zde hc (q:Int) ZaH (by omega)) ?_
  rintro ⟨tr,e2⟩ hfol
  rcases hfol with ⟨h1,_⟩ | ⟨h1,s1,a,hst1,hBd,A,hv0,ht,hfw,hl,hos⟩
  · simp only at h1
    rw [show (((tr,e2):List Int×Int).2 == 0)=false from beq_eq_false_iff_ne.2 h1]
    exact Ret.some rfl
  simp only at h1 ht hfw hl
  subst h1
  have:=Vh hst hst1
  subst this
  refine Ret.ite (fun _ => ?_) (fun h=>by cases h)
  refine Ret.bindE hst ?_
  have hts:=zfh hc hv0 hfw hos (.nil hsafe)
  have hnb:∀ k,k≤tr.length→jC c (stF c s1 (tr.take k)) (q:Int)=some false:=fun k hk=>by
    have hnl:qF c (stF c s1 (tr.take k)) (q:Int)=false:=Jz (jL.1 (hts.all k hk))
    rw [zgz hc (ht.vs hc hv0 k hk) A.p0 A.p1,hnl]
  refine Ret.bind (P:=fun o:(Int×Int×List Int×List Bool×List Zaa) ⊕ Unit=>o=.inl (0,Va (stF c s1 tr))) ?_ ?_
  · refine Ret.bind (P:=fun o:(Int×Int×List Int×List Bool×List Zaa) ⊕ Unit=>o=.inl (0,Va (stF c s1 tr))) (Ret.iter (fun s:Int×Int×Int×List Int×List Bool×List Zaa=>∃ k:Nat,k≤tr.length∧s=(0,(k:Int),Va (stF c s1 (tr.take k)))) (fun s=>((tr.length:Int) - s.2.1).toNat) ⟨0,by omega,rfl⟩ ?_) ?_
    · rintro _ ⟨k,hk,rfl⟩
      refine Ret.bindE (v:=decide ((k:Int) < tr.length)) (by show (bif decide ((k:Int) < tr.length) then some true else some false)=_;cases decide ((k:Int) < tr.length)<;>rfl) ?_
      refine Ret.ite (fun hlt => ?_) (fun hge => ?_)
      · have hlt:=of_decide_eq_true hlt
        have hkl:k < tr.length:=by omega
        refine Ret.bindE (v:=false) (hnb k hk) ?_
        refine Ret.ite (fun h=>by cases h) (fun _ => ?_)
        refine Ret.bindE (v:=tr[k]) (zj (List.getElem?_eq_getElem hkl)) ?_
        obtain ⟨g1,g2,g3,_⟩:=ht.step k hkl
        have hs:=(xX hc (ht.vs hc hv0 k hk) g2 g3 g1).1
        refine Ret.bindE (v:=(z8 c (stF c s1 (tr.take k)) tr[k],0)) hs ?_
        refine Ret.some ⟨⟨k+1,hkl,?_⟩,?_⟩
        · show ((0:Int),IntKind.i64.wrap ((k:Int)+1),Va _)=_
          rw [zW (by omega) (by omega),List.take_succ_eq_append_getElem hkl,xR];rfl
        · show ((tr.length:Int) - IntKind.i64.wrap ((k:Int)+1)).toNat < ((tr.length:Int) - (k:Int)).toNat
          rw [zW (by omega) (by omega)];omega
      · have hge:=of_decide_eq_false hge
        have:k=tr.length:=by omega
        subst this
        rw [List.take_length]
        exact Ret.some rfl
    · rintro _ rfl
      exact Ret.some rfl
  rintro _ rfl
  simp only [Sum.elim_inl]
  refine Ret.bindE (v:=true) ?_ (Ret.some rfl)
  have:=hnb tr.length (Nat.le_refl _)
  rw [List.take_length] at this
  show (bif true then (bif true then (Option.bind (jC c (stF c s1 tr) (q:Int)) fun r9=>some (!r9)) else some false) else some false)=_
  rw [this];rfl
end Go.Proofs.YtlpmnmbebkdocaaGreatDoor
namespace Go.Proofs.YtlpmnmbebkdocaaGreatDoor
open Go.ChangeShapes Go.WideShapes Go.RowKit
set_option maxRecDepth 100000
abbrev Xf : List (String × DataW Unit) := [("math/bits.deBruijn32tab", Rows.laid_math_bits_deBruijn32tab), ("math/bits.deBruijn64tab", Rows.laid_math_bits_deBruijn64tab), ("internal/strconv.uint64pow10", Rows.laid_internal_strconv_uint64pow10)]
theorem zgT:(Xf.filter fun x=>x.1 == xU)=[(xU,Lib.tabData .u64 Lib.pow10Tab)]:=by kernel_rfl
theorem zbc {W:World} (h:laidMet Tryz.prog Xf W):C0.tabs.p W∧C0.tabs.n≤W.heap.size:=by
  have h1:=h.filter (fun x=>x.1 == xU)
  rw [zgT] at h1
  have h2:C0.tabs.p W:=Lib.tabIs_of_head (g:=0) (t:=((Tryz.prog.globals[0]?).map (·.type)).getD 0) (e:=193) (n:=20)
    (by kernel_rfl) (by kernel_rfl) (by kernel_rfl) (by kernel_rfl) (by kernel_rfl) (by kernel_rfl) h1
  exact ⟨h2,zcQ h2⟩
def zkc:DataW Unit→Array Value
  | .agg ds=>(ds.map fun d=>match d with | .lit (.int k n)=>Value.int k n | _=>Value.bool false).toArray
  | _ => #[]
def zbd (w:World) (g:Nat) (d:DataW Unit):World:={w with heap:=w.heap.modify g fun | .cells _ t f=>.cells (zkc d) t f | o=>o}
noncomputable def YS (os:Os):World:=
  zbd (zbd (zbd (World.holding Tryz.prog os ⟨#[],#[],[]⟩) 1 Rows.laid_math_bits_deBruijn32tab) 2 Rows.laid_math_bits_deBruijn64tab) 0 Rows.laid_internal_strconv_uint64pow10
theorem Y6 (os:Os) (args:Array Value):laidMet Tryz.prog Xf ((YS os).forCall (fun _ _=>0) ⟨#[],args,[]⟩).memory:=
  laidMet_of_run3 8 (by kernel_rfl) (by kernel_rfl) (by kernel_rfl)
end Go.Proofs.YtlpmnmbebkdocaaGreatDoor
namespace Go.Proofs.YtlpmnmbebkdocaaGreatDoor.LTrapAdvice
open Go.ChangeShapes Go.WideShapes Go.ChangeAt Go.RowKit
set_option linter.unusedVariables false
set_option maxRecDepth 100000
theorem all (ivs:List IV) (h:JX [(true,Zab.tys),(false,[.int .u8]),(false,[.slice 8 [.int .i64]])] ivs):APure C0 308 ivs (.bool true):=by
  match ivs,h with
  | [x0,x1,x2],⟨a0,a1,a2,_⟩=>
    obtain ⟨row0,rfl,r0⟩:=a0
    obtain ⟨c,rfl,ok_c⟩:=Zab.opn r0
    obtain ⟨c1,_,e1,k1,n1⟩:=zf a1
    cases e1
    obtain ⟨zw,rfl,ok_party⟩:=zm k1
    obtain ⟨c2,_,e2,k2,n2⟩:=zf a2
    cases e2
    obtain ⟨ZaH,rfl,ok_others⟩:=qe vt k2
    exact zaO c zw ZaH true (zbb c zw ZaH ok_c ok_party ok_others)
theorem own:ownKnob Tryz.prog.godebug=none:=by kernel_rfl
theorem laid:laidOutB Tryz.prog=true:=by kernel_rfl
theorem args:mapO (zav Tryz.prog) Tryz.f10.params.toList=some [(true,Zab.tys),(false,[.int .u8]),(false,[.slice 8 [.int .i64]])]:=by kernel_rfl
theorem zkd (os:Os) (started:os.Started) (H:Type) (enc:TypeId×Value→H) :
    ReturnsInHanded {} Tryz.checked os 10 .any (fun w args=>(Rows.trapAdviceSpec.pre enc Tryz.prog Tryz.f10 [] false w args∧laidMet Tryz.prog Xf w)∧sizedMet enc Tryz.prog Tryz.f10 (OpenSpec.ofChange Rows.trapAdviceSpec) false w args) (Rows.trapAdviceSpec.post enc Tryz.prog Tryz.f10 false true false false):=by
  refine returnsInHanded_of_change_and (C:=Tryz.checked) (X:=fun w _=>laidMet Tryz.prog Xf w) (fun _ _ _ hh h=>h.of_heap hh) own started (by kernel_rfl) Tryz.func10
    (ChangeSpec.witness_at (enc:=enc) (C:=Tryz.checked) (os:=os) (X:=fun w _=>laidMet Tryz.prog Xf w) false (YS os) #[.agg #[.int .i64 0,.slice none 0 0,.slice none 0 0,.slice none 0 0,.slice none 0 0,.int .i64 0,.slice none 0 0],.int .u8 0,.slice none 0 0] 8 rfl (by kernel_rfl) (by kernel_rfl) (by kernel_rfl) (by kernel_rfl) (by kernel_rfl) (Y6 os _)) ?_
  intro W base args ds gs before hval hW _ hwt hL _
  exact zaw (Cx:=C0) (tb:=4) 308 rfl LTrapAdvice.args rfl (by kernel_rfl) rfl
    (fun ds h=>by match ds,h with | [_,_,_],_=>rfl) LTrapAdvice.laid (by kernel_rfl) LTrapAdvice.all W (zbc hL) base args ds gs before hval hW hwt
theorem zmK:Rows.TrapAdviceSaid:=
  OpenClaim.holds_of_wide 10 Tryz.f10 rfl rfl rfl rfl rfl rfl rfl ⟨rfl,rfl,rfl,rfl,rfl⟩ rfl rfl rfl rfl rfl (by kernel_rfl) Tryz.func10 (by kernel_rfl)
    (of_decide_eq_true (by kernel_rfl)) (by unfold Func.isWrapper;first | (rw [if_pos (by decide +kernel)];kernel_rfl) | (rw [if_neg (by decide +kernel)];exact ⟨rfl,rfl⟩))
    (fun os started H enc _=>zkd os started H enc)
theorem holds:Rows.TrapAdviceCardSaid:=
  Claim7.holds_tied_plain_at .later [] [.data, .data, .data] true (true, "7bc6b4a7d0776bec5163c6b97d3bd90ad221a013c50c4dd2d862c7360c2f6317") false
    zmK (fun _ h=>by cases h) (by kernel_rfl) (fun _ h=>by cases h) trapAdvice_row_tie rfl ⟨rfl,rfl⟩ (by kernel_rfl) rfl
    (fun f fn hf hfn=>by
      obtain rfl : f = 10 := Option.some.inj ((show Tryz.prog.funcNamed "estoppel/estoppellaw21.TrapAdvice" = some 10 by kernel_rfl).symm.trans hf) |>.symm
      obtain rfl:fn=Tryz.f10:=(Option.some.inj (Tryz.func10.symm.trans hfn)).symm
      refine ⟨by kernel_rfl,fun j t ht => ?_⟩
      have hall:(Tryz.f10.params.toList.all fun t=>!(Tryz.prog.wantsStandIn t))=true:=by kernel_rfl
      have:=List.all_eq_true.1 hall t (by rw [Array.mem_toList_iff];exact Array.mem_of_getElem? ht)
      have h2:Tryz.prog.wantsStandIn t=false:=by simpa using this
      exact h2)
    (by kernel_rfl)
end Go.Proofs.YtlpmnmbebkdocaaGreatDoor.LTrapAdvice
namespace Go.Proofs.YtlpmnmbebkdocaaGreatDoor
theorem trapAdvice_holds:Rows.TrapAdviceCardSaid:=LTrapAdvice.holds
end Go.Proofs.YtlpmnmbebkdocaaGreatDoor
