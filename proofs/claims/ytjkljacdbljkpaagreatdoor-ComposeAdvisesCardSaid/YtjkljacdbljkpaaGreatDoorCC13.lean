/-
  'ComposeAdvises': for every input the call returns true, and each argument reads afterwards as it read before.
  The tables of the library that the rows list: from the row's condition to what the contracts ask; the witness.
  'compose.Advise': the advice by parts is that for the whole contract.
  The fixed example of the laws of layer 23: 'head' returns true. Printed by mkheads.py.
  Functions of the program as the kernel reckons them: with fuel, and texts of small numbers. Printed by mkheads.py.
-/
import Derived.Test.YtjkljacdbljkpaaGreatDoorCC12
import Derived.Test.YtjkljacdbljkpaaGreatDoorCC11
import Derived.Test.YtjkljacdbljkpaaGreatDoorRows
import Derived.Test.YtjkljacdbljkpaaGreatDoorCC10
import Derived.LaidLaws
import Derived.LaidSub
import Derived.Deep.DeepLaidRun
import Derived.Lib.LaidTab
import Derived.JoinedOf
import Derived.Test.YtjkljacdbljkpaaGreatDoorCC06
import Derived.Test.YtjkljacdbljkpaaGreatDoorTie
import Derived.Test.YtjkljacdbljkpaaGreatDoorCards
import Derived.SevenTiedAt
namespace Go.Proofs.YtjkljacdbljkpaaGreatDoor
set_option linter.unusedSimpArgs false
set_option linter.unusedVariables false
set_option maxRecDepth 100000
def Le {α:Type} (x y:Option α):Prop:=∀ r,x=some r→y=some r
theorem Le.refl {α:Type} (x:Option α):Le x x:=fun _ h=>h
theorem Le.bind {α β:Type} {x y:Option α} {f g:α→Option β} (h:Le x y) (hf:∀ a,Le (f a) (g a)):Le (x.bind f) (y.bind g):=fun r hr=>by
  obtain ⟨a,h1,h2⟩:=Option.bind_eq_some_iff.1 hr
  rw [h a h1];exact hf a r h2
theorem Le.cond {α:Type} (b:Bool) {x y x' y':Option α} (h1:Le x x') (h2:Le y y'):Le (bif b then x else y) (bif b then x' else y'):=by
  cases b
  · exact h2
  · exact h1
theorem Le.elim {α β γ:Type} {f f':α→Option γ} {g g':β→Option γ} (h1:∀ a,Le (f a) (f' a)) (h2:∀ a,Le (g a) (g' a)) (o:α ⊕ β):Le (Sum.elim f g o) (Sum.elim f' g' o):=by
  cases o
  · exact h1 _
  · exact h2 _
theorem Le.forFrom {σ ρ:Type} {f g:Nat→σ→Option (σ ⊕ ρ)} (h:∀ i s,Le (f i s) (g i s)):∀ (k i:Nat) (s:σ),Le (forFrom f i k s) (forFrom g i k s)
  | 0,i,s=>Le.refl _
  | k+1,i,s=>fun r hr=>by
    simp only [Go.Proofs.YtjkljacdbljkpaaGreatDoor.forFrom] at hr ⊢
    split at hr
    · cases hr
    · rename_i e;rw [h i s _ e];exact hr
    · rename_i e;rw [h i s _ e];exact Le.forFrom h k (i+1) _ r hr
theorem Le.forR {σ ρ:Type} {f g:Nat→σ→Option (σ ⊕ ρ)} (h:∀ i s,Le (f i s) (g i s)) (n:Int) (s:σ):Le (forR n f s) (forR n g s):=fun r hr=>by
  obtain ⟨h1,h2⟩:=Jm hr
  rw [kH h1];exact Le.forFrom h _ _ _ r h2
theorem Le.iterN {σ ρ:Type} {f g:σ→Option (σ ⊕ ρ)} (h:∀ s,Le (f s) (g s)):∀ (k:Nat) (s:σ),Le (Go.Proofs.YtjkljacdbljkpaaGreatDoor.iterN f k s) (Go.Proofs.YtjkljacdbljkpaaGreatDoor.iterN g k s)
  | 0,s=>Le.refl _
  | k+1,s=>fun r hr=>by
    simp only [Go.Proofs.YtjkljacdbljkpaaGreatDoor.iterN] at hr ⊢
    split at hr
    · cases hr
    · rename_i e;rw [h s _ e];exact hr
    · rename_i e;rw [h s _ e];exact Le.iterN h k _ r hr
theorem Le.iter {σ ρ:Type} {f g:σ→Option (σ ⊕ ρ)} (h:∀ s,Le (f s) (g s)) (k:Nat) (s:σ):Le (Go.Proofs.YtjkljacdbljkpaaGreatDoor.iterN f k s) (Go.Proofs.YtjkljacdbljkpaaGreatDoor.iter g s):=fun r hr=>yw.2 ⟨k,Le.iterN h k s r hr⟩
def Yf:Nat→Nat→List UInt8
  | 0,u=>[]
  | f+1,u=>if u < 10 then [UInt8.ofNat (48+u)] else Yf f (u / 10)++[UInt8.ofNat (48+u % 10)]
theorem Yg:∀ (f u:Nat),u < 10 ^ (f+1)→Yf (f+1) u=Lib.decDigits u
  | 0,u,h=>by
    rw [Lib.decDigits]
    simp only [Yf]
    rw [if_pos (by omega),dif_pos (by omega)]
  | f+1,u,h=>by
    rw [Lib.decDigits,Yf]
    by_cases hu:u < 10
    · rw [if_pos hu,dif_pos hu]
    · rw [if_neg hu,dif_neg hu,Yg f (u / 10) (by rw [Nat.pow_succ] at h;omega)]
def xR (n:Int):Bool:=decide (-1000 < n)&&decide (n < 1000)
def zdP (n:Int):List UInt8:=if n < 0 then 45::Yf 4 n.natAbs else Yf 4 n.toNat
theorem zg5 {n:Int} (h:xR n=true):zdP n=Lib.itoa n:=by
  simp only [xR,Bool.and_eq_true,decide_eq_true_eq] at h
  unfold zdP Lib.itoa
  rw [Yg 3 n.natAbs (by omega),Yg 3 n.toNat (by omega)]
def vR (n:Int):List UInt8:=zdP n++[32]
theorem ky {n:Int} (h:xR n=true):vR n=qt n:=by unfold vR qt;rw [zg5 h]
def zhx (m:MarkT):List UInt8:=vR m.status++vR m.left++vR m.got++vR m.bearer++qH m.paused
def zbw (m:MarkT):Bool:=xR m.status&&(xR m.left&&(xR m.got&&xR m.bearer))
def VA (p:PosT):List UInt8:=qH p.own++vR p.state.day++p.state.holders.flatMap vR++p.state.used.flatMap qH++p.state.marks.flatMap zhx
def JX (p:PosT):Bool:=xR p.state.day&&(p.state.holders.all xR&&p.state.marks.all zbw)
theorem Za {α β:Type} {f g:α→List β}:∀ {l:List α},(∀ a∈l,f a=g a)→l.flatMap f=l.flatMap g
  | [],_=>rfl
  | a::l,h=>by rw [List.flatMap_cons,List.flatMap_cons,h a List.mem_cons_self,Za fun b hb=>h b (List.mem_cons_of_mem _ hb)]
theorem zg6 {p:PosT} (h:JX p=true):VA p=qy p:=by
  simp only [JX,Bool.and_eq_true,List.all_eq_true] at h
  unfold VA qy
  rw [ky h.1,Za (f:=vR) (g:=qt) (fun a ha=>ky (h.2.1 a ha)),Za (f:=zhx) (g:=xX) (fun a ha=>by
    have:=h.2.2 a ha
    simp only [zbw,Bool.and_eq_true] at this
    show vR a.status++vR a.left++vR a.got++vR a.bearer++qH a.paused=qt a.status++qt a.left++qt a.got++qt a.bearer++qH a.paused
    rw [ky this.1,ky this.2.1,ky this.2.2.1,ky this.2.2.2])]
theorem vS {n:Int} (h:xR n=true):wv n=true:=by
  simp only [xR,wv,Bool.and_eq_true,decide_eq_true_eq] at h ⊢
  omega
def Qc (p:PosT):Option ByteArray:=bif JX p&&decide ((VA p).length≤1000000000) then some ⟨(VA p).toArray⟩ else none
theorem zis (p:PosT):Le (Qc p) (xJ p):=fun r h=>by
  unfold Qc at h
  cases hq:(JX p&&decide ((VA p).length≤1000000000)) with
  | false=>rw [hq] at h;cases h
  | true=>
    rw [hq] at h
    simp only [Bool.and_eq_true,decide_eq_true_eq] at hq
    have e:=zg6 hq.1
    unfold xJ
    rw [if_pos,←e]
    · exact h
    · have h1:=hq.1
      simp only [JX,Bool.and_eq_true,List.all_eq_true] at h1
      simp only [okP,Bool.and_eq_true,decide_eq_true_eq,List.all_eq_true]
      refine ⟨⟨⟨vS h1.1,fun x hx=>vS (h1.2.1 x hx)⟩,fun m hm => ?_⟩,by rw [←e];exact hq.2⟩
      have:=h1.2.2 m hm
      simp only [zbw,Bool.and_eq_true] at this
      exact ⟨⟨⟨vS this.1,vS this.2.1⟩,vS this.2.2.1⟩,vS this.2.2.2⟩
noncomputable def VB (p1:ContractT) (p2:Int) (p3:List Int) (p4:Nat) (p5:List Bool) (p6:Nat) (p7:List MarkT) (p8:Nat):Option ((List MarkT)):=
  (Option.bind (iterN (σ:=Bool×(List MarkT)) (ρ:=(List MarkT)) (fun s1=>(bif s1.1 then (Option.bind (forR (σ:=Bool×(List MarkT)) (ρ:=Unit) (p1.clauses.length:Int) (fun i2 s2=>(Option.bind (Option.bind (ze p1.clauses (i2:Int)) fun e1=>(Option.bind (eqN p4 p3.length) fun g1=>(Option.bind (eqN p6 p5.length) fun g2=>(Option.bind (eqN p8 s2.2.length) fun g3=>(Option.bind (vG p1 ({day:=p2,holders:=p3,used:=p5,marks:=s2.2}:StateT) (i2:Int)) fun r1=>(bif r1 then (Option.bind (bif (e1.kind == 4) then some (-1) else (Option.bind (zh p4 e1.role) fun k1=>(Option.bind (p3[k1]?) fun e2=>some e2))) fun (v1:Int)=>(Option.bind (zh p8 (i2:Int)) fun k2=>(Option.bind (s2.2[k2]?) fun e3=>some (true,(s2.2.set k2 ({status:=1,left:=e1.after,got:=0,bearer:=v1,paused:=false}:MarkT)))))) else some (s2.1,s2.2))))))) fun (v2:Bool×(List MarkT))=>some (.inl (v2.1,v2.2)))) (false,s1.2)) (Sum.elim (fun (s2:Bool×(List MarkT))=>some (.inl (s2.1,s2.2))) (fun _=>none))) else some (.inr s1.2))) 40 (true,p7)) (fun (y1:(List MarkT))=>some y1))
theorem zbx (p1:ContractT) (p2:Int) (p3:List Int) (p4:Nat) (p5:List Bool) (p6:Nat) (p7:List MarkT) (p8:Nat):Le (VB p1 p2 p3 p4 p5 p6 p7 p8) (wy p1 p2 p3 p4 p5 p6 p7 p8):=by
  unfold VB wy
  repeat' (first | with_reducible exact Le.refl _ | with_reducible refine Le.bind ?_ (fun _ => ?_) | with_reducible refine Le.cond _ ?_ ?_ | with_reducible refine Le.forR (fun _ _ => ?_) _ _ | with_reducible refine Le.iter (fun _ => ?_) _ _ | with_reducible refine Le.elim (fun _ => ?_) (fun _ => ?_) _)
noncomputable def Yh (c:ContractT):Option (StateT×Int):=
  (Option.bind (jx c) fun r1=>(bif (r1.1 == 0) then (Option.bind (zu 8 c.holders) fun e1=>(Option.bind (mkN 1 (c.acts.length:Int)) fun k1=>(Option.bind (mkN 40 (c.clauses.length:Int)) fun k2=>(Option.bind (forR (σ:=(List MarkT)) (ρ:=Unit) (c.clauses.length:Int) (fun i1 s1=>(Option.bind (Option.bind (ze c.clauses (i1:Int)) fun e2=>(Option.bind (zh k2 (i1:Int)) fun k3=>(Option.bind (s1[k3]?) fun e3=>(bif e2.waived then (Option.bind (zh k2 (i1:Int)) fun k4=>(Option.bind ((s1.set k3 ({status:=0,left:=0,got:=0,bearer:=(-1),paused:=false}:MarkT))[k4]?) fun e4=>some ((s1.set k3 ({status:=0,left:=0,got:=0,bearer:=(-1),paused:=false}:MarkT)).set k4 ({e4 with status:=5}:MarkT)))) else some (s1.set k3 ({status:=0,left:=0,got:=0,bearer:=(-1),paused:=false}:MarkT)))))) fun (v1:(List MarkT))=>some (.inl v1))) (List.replicate k2 ({status:=0,left:=0,got:=0,bearer:=0,paused:=false}:MarkT))) (Sum.elim (fun (s1:(List MarkT))=>(Option.bind (VB c 0 e1 e1.length (List.replicate k1 false) k1 s1 k2) fun r2=>(Option.bind (eqN k1 (List.replicate k1 false).length) fun g1=>(Option.bind (eqN k2 r2.length) fun g2=>some (({day:=0,holders:=e1,used:=(List.replicate k1 false),marks:=r2}:StateT),0))))) (fun _=>none)))))) else some (({day:=0,holders:=[],used:=[],marks:=[]}:StateT),1)))
theorem zg7 (c:ContractT):Le (Yh c) (Xi c):=by
  unfold Yh Xi
  repeat' (first | with_reducible exact Le.refl _ | with_reducible exact zbx _ _ _ _ _ _ _ _ | with_reducible refine Le.bind ?_ (fun _ => ?_) | with_reducible refine Le.cond _ ?_ ?_ | with_reducible refine Le.forR (fun _ _ => ?_) _ _ | with_reducible refine Le.iter (fun _ => ?_) _ _ | with_reducible refine Le.elim (fun _ => ?_) (fun _ => ?_) _)
noncomputable def j6 (l:List Int) (v:Int):Option (Int×Bool):=
  (Option.bind (Option.bind (iterN (σ:=Int×Int) (ρ:=Int) (fun s1=>(bif decide (s1.1 < s1.2) then (Option.bind (Jq .u64 .u64 (IntKind.u64.wrap (IntKind.i64.wrap (s1.1+s1.2))) 1) fun e1=>(Option.bind (ze l (IntKind.i64.wrap e1)) fun e2=>(Option.bind (ZY e2 v) fun r1=>(bif r1 then some (.inl ((IntKind.i64.wrap ((IntKind.i64.wrap e1)+1)),s1.2)) else some (.inl (s1.1,(IntKind.i64.wrap e1))))))) else some (.inr s1.1))) 40 (0,(l.length:Int))) (fun (y1:Int)=>some y1)) fun (v1:Int)=>(Option.bind (bif decide (v1 < (l.length:Int)) then (Option.bind (ze l v1) fun e3=>(bif (e3 == v) then some true else (Option.bind (km e3) fun r2=>(bif r2 then (Option.bind (km v) fun r3=>some r3) else some false)))) else some false) fun v2=>some (v1,v2)))
theorem vp (l:List Int) (v:Int):Le (j6 l v) (qE l v):=by
  unfold j6 qE
  repeat' (first | with_reducible exact Le.refl _ | with_reducible refine Le.bind ?_ (fun _ => ?_) | with_reducible refine Le.cond _ ?_ ?_ | with_reducible refine Le.forR (fun _ _ => ?_) _ _ | with_reducible refine Le.iter (fun _ => ?_) _ _ | with_reducible refine Le.elim (fun _ => ?_) (fun _ => ?_) _)
noncomputable def zdQ (p1:ContractT) (p2:Int) (p3:List Int) (p4:Nat) (p5:List Bool) (p6:Nat) (p7:List MarkT) (p8:Nat):Option ((List MarkT)):=
  (Option.bind (j6 p1.off p2) fun r1=>(Option.bind (Option.bind (xi p1 p2 p3 p4 p5 p6 p7 p8) fun r2=>(Option.bind (forR (σ:=(List MarkT)) (ρ:=(List MarkT)) (p8:Int) (fun i1 s1=>(Option.bind (Option.bind (zh p8 (i1:Int)) fun k1=>(Option.bind (s1[k1]?) fun e1=>(Option.bind (jr e1) fun r3=>(bif r3 then (Option.bind (Option.bind (ze p1.clauses (i1:Int)) fun e2=>(Option.bind (Option.bind (zh p8 (i1:Int)) fun k2=>(Option.bind (s1[k2]?) fun e3=>(bif e3.paused then some true else (bif e2.business then some r1.2 else some false)))) fun v1=>(bif v1 then some s1 else (Option.bind (zh p8 (i1:Int)) fun k3=>(Option.bind (s1[k3]?) fun e4=>(Option.bind (zh p8 (i1:Int)) fun k4=>(Option.bind ((s1.set k3 ({e4 with left:=(IntKind.i64.wrap (e4.left - 1))}:MarkT))[k4]?) fun e5=>(bif (e5.left == 0) then (Option.bind (bif (e2.kind == (0:Int)) then none else (bif (e2.kind == (1:Int)) then (Option.bind (Va (i1:Int) p1 p2 p3 p4 p5 p6 (s1.set k3 ({e4 with left:=(IntKind.i64.wrap (e4.left - 1))}:MarkT)) p8) fun r7=>some r7) else (bif (e2.kind == (2:Int)) then (Option.bind (wz (i1:Int) p1 p2 p3 p4 p5 p6 (s1.set k3 ({e4 with left:=(IntKind.i64.wrap (e4.left - 1))}:MarkT)) p8) fun r6=>some r6) else (bif (e2.kind == (3:Int)) then (Option.bind (Zs (i1:Int) p1 p2 p3 p4 p5 p6 (s1.set k3 ({e4 with left:=(IntKind.i64.wrap (e4.left - 1))}:MarkT)) p8) fun r5=>some r5) else (bif (e2.kind == (4:Int)) then (Option.bind (Zs (i1:Int) p1 p2 p3 p4 p5 p6 (s1.set k3 ({e4 with left:=(IntKind.i64.wrap (e4.left - 1))}:MarkT)) p8) fun r4=>some r4) else none))))) fun v2=>some v2) else some (s1.set k3 ({e4 with left:=(IntKind.i64.wrap (e4.left - 1))}:MarkT)))))))))) fun (v3:(List MarkT))=>some ((!true),v3)) else some (false,s1))))) fun (v4:Bool×(List MarkT))=>(bif v4.1 then some (.inr v4.2) else some (.inl v4.2)))) p7) (Sum.elim (fun (s1:(List MarkT))=>some s1) (fun (y1:(List MarkT))=>some y1)))) fun (v5:(List MarkT))=>(Option.bind (VB p1 (IntKind.i64.wrap (p2+1)) p3 p4 p5 p6 v5 p8) fun r8=>some r8)))
theorem zj9 (p1:ContractT) (p2:Int) (p3:List Int) (p4:Nat) (p5:List Bool) (p6:Nat) (p7:List MarkT) (p8:Nat):Le (zdQ p1 p2 p3 p4 p5 p6 p7 p8) (d_70a p1 p2 p3 p4 p5 p6 p7 p8):=by
  unfold zdQ d_70a
  repeat' (first | with_reducible exact Le.refl _ | with_reducible exact vp _ _ | with_reducible exact zbx _ _ _ _ _ _ _ _ | with_reducible refine Le.bind ?_ (fun _ => ?_) | with_reducible refine Le.cond _ ?_ ?_ | with_reducible refine Le.forR (fun _ _ => ?_) _ _ | with_reducible refine Le.iter (fun _ => ?_) _ _ | with_reducible refine Le.elim (fun _ => ?_) (fun _ => ?_) _)
noncomputable def zdR (p1:Int) (p2:ContractT) (p3:Int) (p4:List Int) (p5:Nat) (p6:List Bool) (p7:Nat) (p8:List MarkT) (p9:Nat):Option ((List Int)×(List Bool)×(List MarkT)):=
  (Option.bind (ze p2.acts p1) fun e1=>(Option.bind (bif (e1.kind == 1) then some false else (Option.bind (zh p7 p1) fun k1=>(Option.bind (p6[k1]?) fun e2=>some e2))) fun v1=>(bif v1 then some (p4,p6,p8) else (Option.bind (Option.bind (xi p2 p3 p4 p5 p6 p7 p8 p9) fun r1=>(Option.bind (forR (σ:=(List MarkT)) (ρ:=(List MarkT)) (p9:Int) (fun i1 s1=>(Option.bind (Option.bind (zh p9 (i1:Int)) fun k2=>(Option.bind (s1[k2]?) fun e3=>(Option.bind (jr e3) fun r2=>(bif r2 then (Option.bind (Option.bind (ze p2.clauses (i1:Int)) fun e4=>(bif (p1 == e4.pause) then (Option.bind (zh p9 (i1:Int)) fun k3=>(Option.bind (s1[k3]?) fun e5=>some (s1.set k3 ({e5 with paused:=true}:MarkT)))) else (Option.bind (ze p2.clauses (i1:Int)) fun e6=>(bif (p1 == e6.resume) then (Option.bind (zh p9 (i1:Int)) fun k4=>(Option.bind (s1[k4]?) fun e7=>some (s1.set k4 ({e7 with paused:=false}:MarkT)))) else some s1)))) fun (v2:(List MarkT))=>some ((!true),v2)) else some (false,s1))))) fun (v3:Bool×(List MarkT))=>(bif v3.1 then some (.inr v3.2) else some (.inl v3.2)))) p8) (Sum.elim (fun (s1:(List MarkT))=>some s1) (fun (y1:(List MarkT))=>some y1)))) fun (v4:(List MarkT))=>(Option.bind (eqN p5 p4.length) fun g1=>(Option.bind (eqN p7 p6.length) fun g2=>(Option.bind (eqN p9 v4.length) fun g3=>(Option.bind (ZZ p2 ({day:=p3,holders:=p4,used:=p6,marks:=v4}:StateT) p1) fun r3=>(Option.bind (Option.bind (xi p2 p3 p4 p5 p6 p7 v4 p9) fun r4=>(Option.bind (forR (σ:=(List MarkT)) (ρ:=(List MarkT)) (p9:Int) (fun i2 s2=>(Option.bind (Option.bind (zh p9 (i2:Int)) fun k5=>(Option.bind (s2[k5]?) fun e8=>(Option.bind (jr e8) fun r5=>(bif r5 then (Option.bind (Option.bind (ze p2.clauses (i2:Int)) fun e9=>(Option.bind (bif (e9.act == p1) then (bif (e9.kind == 4) then some true else (Option.bind (zh p9 (i2:Int)) fun k6=>(Option.bind (s2[k6]?) fun e10=>some (e10.bearer == r3)))) else some false) fun v5=>(bif v5 then (Option.bind (bif (e9.kind == (0:Int)) then none else (bif (e9.kind == (1:Int)) then (Option.bind (Vc (i2:Int) p2 p3 p4 p5 p6 p7 s2 p9) fun r9=>some r9) else (bif (e9.kind == (2:Int)) then (Option.bind (Vb (i2:Int) p2 p3 p4 p5 p6 p7 s2 p9) fun r8=>some r8) else (bif (e9.kind == (3:Int)) then (Option.bind (wz (i2:Int) p2 p3 p4 p5 p6 p7 s2 p9) fun r7=>some r7) else (bif (e9.kind == (4:Int)) then (Option.bind (wz (i2:Int) p2 p3 p4 p5 p6 p7 s2 p9) fun r6=>some r6) else none))))) fun v6=>some v6) else some s2))) fun (v7:(List MarkT))=>some ((!true),v7)) else some (false,s2))))) fun (v8:Bool×(List MarkT))=>(bif v8.1 then some (.inr v8.2) else some (.inl v8.2)))) v4) (Sum.elim (fun (s2:(List MarkT))=>some s2) (fun (y2:(List MarkT))=>some y2)))) fun (v9:(List MarkT))=>(Option.bind (bif (e1.kind == 1) then some (p4,p6,v9) else (Option.bind (Vd p1 p2 p3 p4 p5 p6 p7 v9 p9) fun r10=>some (r10.1,r10.2.1,r10.2.2))) fun (v10:(List Int)×(List Bool)×(List MarkT))=>(Option.bind (VB p2 p3 v10.1 p5 v10.2.1 p7 v10.2.2 p9) fun r11=>some (v10.1,v10.2.1,r11))))))))))))
theorem zka (p1:Int) (p2:ContractT) (p3:Int) (p4:List Int) (p5:Nat) (p6:List Bool) (p7:Nat) (p8:List MarkT) (p9:Nat):Le (zdR p1 p2 p3 p4 p5 p6 p7 p8 p9) (QJ p1 p2 p3 p4 p5 p6 p7 p8 p9):=by
  unfold zdR QJ
  repeat' (first | with_reducible exact Le.refl _ | with_reducible exact zbx _ _ _ _ _ _ _ _ | with_reducible refine Le.bind ?_ (fun _ => ?_) | with_reducible refine Le.cond _ ?_ ?_ | with_reducible refine Le.forR (fun _ _ => ?_) _ _ | with_reducible refine Le.iter (fun _ => ?_) _ _ | with_reducible refine Le.elim (fun _ => ?_) (fun _ => ?_) _)
noncomputable def Qd (c:ContractT) (s:StateT) (step:Int):Option (StateT×Int):=
  (Option.bind (Option.bind (qZ c s) fun r1=>(bif r1 then (bif decide (step < (-1)) then some true else some (decide ((c.acts.length:Int)≤step))) else some true)) fun v1=>(bif v1 then some (({day:=0,holders:=[],used:=[],marks:=[]}:StateT),1) else (bif (s.day == c.days) then some (({day:=0,holders:=[],used:=[],marks:=[]}:StateT),13) else (Option.bind (mkN 8 (s.holders.length:Int)) fun k1=>(Option.bind (mkN 1 (s.used.length:Int)) fun k2=>(Option.bind (mkN 40 (s.marks.length:Int)) fun k3=>(Option.bind (xC (α:=Int) k1 (List.replicate k1 0) s.holders) fun e1=>(Option.bind (xC (α:=Bool) k2 (List.replicate k2 false) s.used) fun e2=>(Option.bind (xC (α:=MarkT) k3 (List.replicate k3 ({status:=0,left:=0,got:=0,bearer:=0,paused:=false}:MarkT)) s.marks) fun e3=>(Option.bind (bif (step == (-1)) then (Option.bind (zdQ c s.day e1 k1 e2 k2 e3 k3) fun r2=>some (e1,e2,r2,(IntKind.i64.wrap (s.day+1)))) else (Option.bind (zdR step c s.day e1 k1 e2 k2 e3 k3) fun r3=>some (r3.1,r3.2.1,r3.2.2,s.day))) fun (v2:(List Int)×(List Bool)×(List MarkT)×Int)=>(Option.bind (eqN k1 v2.1.length) fun g1=>(Option.bind (eqN k2 v2.2.1.length) fun g2=>(Option.bind (eqN k3 v2.2.2.1.length) fun g3=>some (({day:=v2.2.2.2,holders:=v2.1,used:=v2.2.1,marks:=v2.2.2.1}:StateT),0))))))))))))))
theorem zcB (c:ContractT) (s:StateT) (step:Int):Le (Qd c s step) (d_Step c s step):=by
  unfold Qd d_Step
  repeat' (first | with_reducible exact Le.refl _ | with_reducible exact zj9 _ _ _ _ _ _ _ _ | with_reducible exact zka _ _ _ _ _ _ _ _ _ | with_reducible refine Le.bind ?_ (fun _ => ?_) | with_reducible refine Le.cond _ ?_ ?_ | with_reducible refine Le.forR (fun _ _ => ?_) _ _ | with_reducible refine Le.iter (fun _ => ?_) _ _ | with_reducible refine Le.elim (fun _ => ?_) (fun _ => ?_) _)
noncomputable def JY (c:ContractT) (party:Int) (p:PosT):Option (ArenaT×Int):=
  (Option.bind (vj c party p) fun r1=>(bif r1 then (Option.bind (wD p.state) fun r2=>(Option.bind (Qc p) fun r3=>(Option.bind (α:=((List PosT)×(List (List MoveT))) ⊕ Unit) (Option.bind (iterN (σ:=Int×(List PosT)×(List (List MoveT))×(List (ByteArray×Int))) (ρ:=((List PosT)×(List (List MoveT))) ⊕ Unit) (fun s1=>(bif decide (s1.1 < (s1.2.1.length:Int)) then (Option.bind (α:=((List PosT)×(List (ByteArray×Int))×(List MoveT)) ⊕ Unit) (Option.bind (ze s1.2.1 s1.1) fun e1=>(Option.bind (Vg c party e1) fun r4=>(Option.bind (α:=((List PosT)×(List (ByteArray×Int))×(List MoveT)) ⊕ (Unit ⊕ ((List PosT)×(List (ByteArray×Int))×(List MoveT)))) (bif e1.own then (Option.bind (wD e1.state) fun r5=>(Option.bind (Qc ({state:=r5,own:=false}:PosT)) fun r6=>(Option.bind (α:=(Int×(List PosT)×(List (ByteArray×Int))) ⊕ Unit) (bif ((zq r6 s1.2.2.2).isSome) then some (.inl (((zq r6 s1.2.2.2).getD 0),s1.2.1,s1.2.2.2)) else (bif ((s1.2.1.length:Int) == 1500) then some (.inr ()) else (Option.bind (qv (α:=PosT) 88 s1.2.1 [({state:=r5,own:=false}:PosT)]) fun e2=>some (.inl ((s1.2.1.length:Int),e2,(zR r6 (s1.2.1.length:Int) s1.2.2.2)))))) (Sum.elim (fun (v1:Int×(List PosT)×(List (ByteArray×Int)))=>(Option.bind (qv (α:=MoveT) 16 [] [({step:=(-2),to:=v1.1}:MoveT)]) fun e3=>(bif decide (c.days≤e1.state.day) then some (.inr (.inr (v1.2.1,v1.2.2,e3))) else some (.inl (v1.2.1,v1.2.2,e3))))) (fun (y1:Unit)=>some (.inr (.inl ()))))))) else (bif decide (c.days≤e1.state.day) then some (.inr (.inr (s1.2.1,s1.2.2.2,[]))) else some (.inl (s1.2.1,s1.2.2.2,[])))) (Sum.elim (fun (v2:(List PosT)×(List (ByteArray×Int))×(List MoveT))=>(Option.bind (α:=((List PosT)×(List (ByteArray×Int))×(List MoveT)) ⊕ Unit) (bif e1.own then some (.inl (v2.1,v2.2.1,v2.2.2)) else (Option.bind (Qd c e1.state (-1)) fun r7=>(Option.bind (Qc ({state:=r7.1,own:=true}:PosT)) fun r8=>(Option.bind (α:=(Int×(List PosT)×(List (ByteArray×Int))) ⊕ Unit) (bif ((zq r8 v2.2.1).isSome) then some (.inl (((zq r8 v2.2.1).getD 0),v2.1,v2.2.1)) else (bif ((v2.1.length:Int) == 1500) then some (.inr ()) else (Option.bind (qv (α:=PosT) 88 v2.1 [({state:=r7.1,own:=true}:PosT)]) fun e4=>some (.inl ((v2.1.length:Int),e4,(zR r8 (v2.1.length:Int) v2.2.1)))))) (Sum.elim (fun (v3:Int×(List PosT)×(List (ByteArray×Int)))=>(Option.bind (qv (α:=MoveT) 16 v2.2.2 [({step:=(-1),to:=v3.1}:MoveT)]) fun e5=>some (.inl (v3.2.1,v3.2.2,e5)))) (fun (y4:Unit)=>some (.inr ()))))))) (Sum.elim (fun (v4:(List PosT)×(List (ByteArray×Int))×(List MoveT))=>(Option.bind (forR (σ:=(List PosT)×(List (ByteArray×Int))×(List MoveT)) (ρ:=(List PosT)×(List (ByteArray×Int))×(List MoveT)) (c.acts.length:Int) (fun i2 s2=>(Option.bind (α:=((List PosT)×(List (ByteArray×Int))×(List MoveT)) ⊕ Unit) (Option.bind (ze c.acts (i2:Int)) fun e6=>(Option.bind (bif (e6.role == (-1)) then some (-1) else (Option.bind (ze e1.state.holders e6.role) fun e7=>some e7)) fun (v5:Int)=>(bif ((v5 == party) == e1.own) then (Option.bind (Qd c e1.state (i2:Int)) fun r9=>(Option.bind (Z0 r9.1 e1.state) fun r10=>(bif r10 then some (.inl (s2.1,s2.2.1,s2.2.2)) else (Option.bind (Qc ({state:=r9.1,own:=true}:PosT)) fun r11=>(Option.bind (α:=(Int×(List PosT)×(List (ByteArray×Int))) ⊕ Unit) (bif ((zq r11 s2.2.1).isSome) then some (.inl (((zq r11 s2.2.1).getD 0),s2.1,s2.2.1)) else (bif ((s2.1.length:Int) == 1500) then some (.inr ()) else (Option.bind (qv (α:=PosT) 88 s2.1 [({state:=r9.1,own:=true}:PosT)]) fun e8=>some (.inl ((s2.1.length:Int),e8,(zR r11 (s2.1.length:Int) s2.2.1)))))) (Sum.elim (fun (v6:Int×(List PosT)×(List (ByteArray×Int)))=>(Option.bind (qv (α:=MoveT) 16 s2.2.2 [({step:=(i2:Int),to:=v6.1}:MoveT)]) fun e9=>some (.inl (v6.2.1,v6.2.2,e9)))) (fun (y6:Unit)=>some (.inr ())))))))) else some (.inl (s2.1,s2.2.1,s2.2.2))))) (Sum.elim (fun (v7:(List PosT)×(List (ByteArray×Int))×(List MoveT))=>some (.inl (v7.1,v7.2.1,v7.2.2))) (fun (y7:Unit)=>some (.inr (s2.1,s2.2.1,s2.2.2)))))) (v4.1,v4.2.1,v4.2.2)) (Sum.elim (fun (s2:(List PosT)×(List (ByteArray×Int))×(List MoveT))=>some (.inl (s2.1,s2.2.1,s2.2.2))) (fun (y8:(List PosT)×(List (ByteArray×Int))×(List MoveT))=>some (.inr ()))))) (fun (y5:Unit)=>some (.inr ()))))) (Sum.elim (fun (y2:Unit)=>some (.inr ())) (fun (y3:(List PosT)×(List (ByteArray×Int))×(List MoveT))=>some (.inl (y3.1,y3.2.1,y3.2.2)))))))) (Sum.elim (fun (v8:(List PosT)×(List (ByteArray×Int))×(List MoveT))=>(Option.bind (qv (α:=List MoveT) 24 s1.2.2.1 [v8.2.2]) fun e10=>some (.inl ((IntKind.i64.wrap (s1.1+1)),v8.1,e10,v8.2.1)))) (fun (y9:Unit)=>some (.inr (.inr ()))))) else some (.inr (.inl (s1.2.1,s1.2.2.1))))) 40 (0,[({state:=r2,own:=p.own}:PosT)],[],(zR r3 0 []))) (Sum.elim (fun (y10:(List PosT)×(List (List MoveT)))=>some (.inl (y10.1,y10.2))) (fun (y11:Unit)=>some (.inr ())))) (Sum.elim (fun (v9:(List PosT)×(List (List MoveT)))=>some (({party:=party,positions:=v9.1,moves:=v9.2}:ArenaT),0)) (fun (y12:Unit)=>some (({party:=0,positions:=[],moves:=[]}:ArenaT),3)))))) else some (({party:=0,positions:=[],moves:=[]}:ArenaT),1)))
theorem Yi (c:ContractT) (party:Int) (p:PosT):Le (JY c party p) (jL c party p):=by
  unfold JY jL
  repeat' (first | with_reducible exact Le.refl _ | with_reducible exact zis _ | with_reducible exact zcB _ _ _ | with_reducible refine Le.bind ?_ (fun _ => ?_) | with_reducible refine Le.cond _ ?_ ?_ | with_reducible refine Le.forR (fun _ _ => ?_) _ _ | with_reducible refine Le.iter (fun _ => ?_) _ _ | with_reducible refine Le.elim (fun _ => ?_) (fun _ => ?_) _)
noncomputable def Yj (c:ContractT) (a:ArenaT):Option (List Int):=
  (Option.bind (xM c a) fun r1=>(bif r1 then (Option.bind (mkN 8 (a.positions.length:Int)) fun k1=>(Option.bind (mkN 8 (a.positions.length:Int)) fun k2=>(Option.bind (mkN 24 (a.positions.length:Int)) fun k3=>(Option.bind (forR (σ:=(List Int)×(List Int)×(List (List Int))×(List Int)) (ρ:=Unit) (a.positions.length:Int) (fun i1 s1=>(Option.bind (Option.bind (ze a.positions (i1:Int)) fun e1=>(Option.bind (ze a.moves (i1:Int)) fun e2=>(Option.bind (zh k1 (i1:Int)) fun k4=>(Option.bind (s1.1[k4]?) fun e3=>(Option.bind (zh k2 (i1:Int)) fun k5=>(Option.bind (s1.2.1[k5]?) fun e4=>(Option.bind (ze a.moves (i1:Int)) fun e5=>(Option.bind (forR (σ:=(List (List Int))) (ρ:=Unit) (e5.length:Int) (fun i2 s2=>(Option.bind (ze e5 (i2:Int)) fun e6=>(Option.bind (wL s2 k3 e6.to (i1:Int)) fun v1=>some (.inl v1)))) s1.2.2.1) (Sum.elim (fun (s2:(List (List Int)))=>(Option.bind (JD c e1.state a.party) fun r2=>(bif r2 then (Option.bind (zh k1 (i1:Int)) fun k6=>(Option.bind ((s1.1.set k4 (-1))[k6]?) fun e7=>(Option.bind (yJ (i1:Int) s1.2.2.2 0) fun r3=>some (((s1.1.set k4 (-1)).set k6 0),(s1.2.1.set k5 (e2.length:Int)),s2,r3)))) else some ((s1.1.set k4 (-1)),(s1.2.1.set k5 (e2.length:Int)),s2,s1.2.2.2)))) (fun _=>none)))))))))) fun (v2:(List Int)×(List Int)×(List (List Int))×(List Int))=>some (.inl (v2.1,v2.2.1,v2.2.2.1,v2.2.2.2)))) ((List.replicate k1 0),(List.replicate k2 0),(List.replicate k3 []),[])) (Sum.elim (fun (s1:(List Int)×(List Int)×(List (List Int))×(List Int))=>(Option.bind (forR (σ:=(List Int)×(List Int)) (ρ:=Unit) (a.positions.length:Int) (fun i3 s3=>(Option.bind (Option.bind (ze a.positions (i3:Int)) fun e8=>(Option.bind (bif e8.own then (Option.bind (zh k2 (i3:Int)) fun k7=>(Option.bind (s1.2.1[k7]?) fun e9=>(bif (e9 == 0) then (Option.bind (zh k1 (i3:Int)) fun k8=>(Option.bind (s3.1[k8]?) fun e10=>some (e10 == (-1)))) else some false))) else some false) fun v3=>(bif v3 then (Option.bind (yK (i3:Int) 1 s3.1 k1 s3.2 0) fun r4=>some (r4.2,r4.1)) else some (s3.1,s3.2)))) fun (v4:(List Int)×(List Int))=>some (.inl (v4.1,v4.2)))) (s1.1,s1.2.2.2)) (Sum.elim (fun (s3:(List Int)×(List Int))=>(Option.bind (Option.bind (wk s3.2 0) fun r5=>(Option.bind (iterN (σ:=Int×Bool×(List Int)×(List Int)×(List Int)×Int) (ρ:=(List Int)) (fun s4=>(bif s4.2.1 then (Option.bind (zh k3 s4.1) fun k9=>(Option.bind (s1.2.2.1[k9]?) fun e11=>(Option.bind (forR (σ:=(List Int)×(List Int)×(List Int)) (ρ:=Unit) (e11.length:Int) (fun i5 s5=>(Option.bind (ze e11 (i5:Int)) fun e12=>(Option.bind (Z2 e12 s4.1 s5.2.1 k2 s5.1 k1 a s5.2.2 s4.2.2.2.2.2) fun r6=>some (.inl (r6.2.1,r6.1,r6.2.2))))) (s4.2.2.1,s4.2.2.2.1,s4.2.2.2.2.1)) (Sum.elim (fun (s5:(List Int)×(List Int)×(List Int))=>(Option.bind (wk s5.2.2 s4.2.2.2.2.2) fun r7=>some (.inl (r7.1,r7.2.1,s5.1,s5.2.1,s5.2.2,r7.2.2)))) (fun _=>none))))) else some (.inr s4.2.2.1))) 40 (r5.1,r5.2.1,s3.1,s1.2.1,s3.2,r5.2.2)) (fun (y1:(List Int))=>some y1))) fun (v5:(List Int))=>(Option.bind (eqN k1 v5.length) fun g1=>some v5))) (fun _=>none)))) (fun _=>none)))))) else some []))
theorem zg8 (c:ContractT) (a:ArenaT):Le (Yj c a) (kn c a):=by
  unfold Yj kn
  repeat' (first | with_reducible exact Le.refl _ | with_reducible refine Le.bind ?_ (fun _ => ?_) | with_reducible refine Le.cond _ ?_ ?_ | with_reducible refine Le.forR (fun _ _ => ?_) _ _ | with_reducible refine Le.iter (fun _ => ?_) _ _ | with_reducible refine Le.elim (fun _ => ?_) (fun _ => ?_) _)
noncomputable def JZ (c:ContractT) (a:ArenaT):Option (List Bool):=
  (Option.bind (Yj c a) fun r1=>(Option.bind (mkN 1 (r1.length:Int)) fun k1=>(Option.bind (forR (σ:=(List Bool)) (ρ:=Unit) (r1.length:Int) (fun i1 s1=>(Option.bind (ze r1 (i1:Int)) fun e1=>(Option.bind (zh k1 (i1:Int)) fun k2=>(Option.bind (s1[k2]?) fun e2=>some (.inl (s1.set k2 (e1 == (-1)))))))) (List.replicate k1 false)) (Sum.elim (fun (s1:(List Bool))=>(Option.bind (eqN k1 s1.length) fun g1=>some s1)) (fun _=>none)))))
theorem Yk (c:ContractT) (a:ArenaT):Le (JZ c a) (yL c a):=by
  unfold JZ yL
  repeat' (first | with_reducible exact Le.refl _ | with_reducible exact zg8 _ _ | with_reducible refine Le.bind ?_ (fun _ => ?_) | with_reducible refine Le.cond _ ?_ ?_ | with_reducible refine Le.forR (fun _ _ => ?_) _ _ | with_reducible refine Le.iter (fun _ => ?_) _ _ | with_reducible refine Le.elim (fun _ => ?_) (fun _ => ?_) _)
def ufB (n:Nat) (ab:List Int):Bool:=ab.length == 400&&((List.range n).all (fun i=>decide (0≤ab.getD i 0)&&decide (ab.getD i 0≤(i:Int)))&&decide (n≤400))
theorem zlq {n:Nat} {ab:List Int} (h:ufB n ab=true):UF n ab:=by
  simp only [ufB,Bool.and_eq_true,beq_iff_eq,List.all_eq_true,List.mem_range,decide_eq_true_eq] at h
  exact ⟨h.1,fun i hi=>h.2.1 i hi,h.2.2⟩
noncomputable def QQ (p1:Int) (p2:List Int):Option (Int×List Int):=bif decide (0≤p1)&&ufB (p1.toNat+1) p2 then jX (p1.toNat+1) p1 p2 else none
theorem zfH (p1:Int) (p2:List Int):Le (QQ p1 p2) (xj p1 p2):=fun r h=>by
  unfold QQ at h
  cases hb:(decide (0≤p1)&&ufB (p1.toNat+1) p2) with
  | false=>rw [hb] at h;cases h
  | true=>
    rw [hb,cond_true] at h
    simp only [Bool.and_eq_true,decide_eq_true_eq] at hb
    have e:p1=(p1.toNat:Int):=by omega
    rw [e,zbf (zlq hb.2) (Nat.lt_succ_self _),←e]
    exact h
noncomputable def VC (p1:Int) (p2:Int) (p3:List Int):Option ((List Int)):=
  (Option.bind (QQ p1 p3) fun r1=>(Option.bind (QQ p2 r1.2) fun r2=>(Option.bind (QQ p1 r2.2) fun r3=>(Option.bind (QQ p2 r3.2) fun r4=>(Option.bind (zh 400 (if r3.1 < r4.1 then r4.1 else r3.1)) fun k1=>(Option.bind (r4.2[k1]?) fun e1=>some (r4.2.set k1 (if r2.1 < r1.1 then r2.1 else r1.1))))))))
theorem zkb (p1:Int) (p2:Int) (p3:List Int):Le (VC p1 p2 p3) (wA p1 p2 p3):=by
  unfold VC wA
  repeat' (first | with_reducible exact Le.refl _ | with_reducible exact zfH _ _ | with_reducible refine Le.bind ?_ (fun _ => ?_) | with_reducible refine Le.cond _ ?_ ?_ | with_reducible refine Le.forR (fun _ _ => ?_) _ _ | with_reducible refine Le.iter (fun _ => ?_) _ _ | with_reducible refine Le.elim (fun _ => ?_) (fun _ => ?_) _)
noncomputable def yT (i:Nat) (s:List (List Int)×List (Int×Int)×List Int):Option ((List (List Int)×List (Int×Int)×List Int) ⊕ Unit):=
  Option.bind (QQ (i:Int) s.2.2) fun r=>
    bif r.1 == (i:Int) then some (.inl (s.1++[[(i:Int)]],zR (i:Int) (s.1.length:Int) s.2.1,r.2))
    else Option.bind (ze s.1 ((zq r.1 s.2.1).getD 0)) fun l=>some (.inl (s.1.set ((zq r.1 s.2.1).getD 0).toNat (l++[(i:Int)]),s.2.1,r.2))
theorem Yl (i:Nat) (s:List (List Int)×List (Int×Int)×List Int):Le (yT i s) (xr i s):=by
  unfold yT xr
  exact Le.bind (zfH _ _) fun _=>Le.refl _
noncomputable def Wk (n:Int) (above:List Int):Option (List (List Int)×List Int):=
  bif decide (n≤1000000000000) then Option.bind (forR (σ:=List (List Int)×List (Int×Int)×List Int) (ρ:=Unit) n yT ([],[],above)) (Sum.elim (fun s=>some (s.1,s.2.2)) (fun _=>none)) else none
theorem zfI (n:Int) (above:List Int):Le (Wk n above) (xL n above):=by
  unfold Wk xL
  exact Le.cond _ (Le.bind (Le.forR Yl _ _) fun _=>Le.refl _) (Le.refl _)
noncomputable def vq (c:ContractT):Option (List (List Int)):=
  (Option.bind (jx c) fun r1=>(bif (r1.1 == 0) then (Option.bind (forR (σ:=(List Int)) (ρ:=Unit) (c.clauses.length:Int) (fun i1 s1=>(Option.bind (zh 400 (i1:Int)) fun k1=>(Option.bind (s1[k1]?) fun e1=>some (.inl (s1.set k1 (i1:Int)))))) (List.replicate 400 0)) (Sum.elim (fun (s1:(List Int))=>(Option.bind (Xj c.acts) fun r2=>(Option.bind (forR (σ:=(List Int)×(List (Int×Int))) (ρ:=Unit) (c.clauses.length:Int) (fun i2 s2=>(Option.bind (ze c.clauses (i2:Int)) fun e2=>(Option.bind (bif r2 then (Option.bind (VC 0 (i2:Int) s2.1) fun r3=>some r3) else some s2.1) fun (v1:(List Int))=>(Option.bind (forR (σ:=(List Int)) (ρ:=Unit) (e2.start.length:Int) (fun i3 s3=>(Option.bind (ze e2.start (i3:Int)) fun e3=>(Option.bind (VC (i2:Int) e3.clause s3) fun r4=>some (.inl r4)))) v1) (Sum.elim (fun (s3:(List Int))=>(Option.bind (yH e2) fun r5=>(Option.bind (forR (σ:=(List Int)×(List (Int×Int))) (ρ:=Unit) (r5.length:Int) (fun i4 s4=>(Option.bind (Option.bind (ze r5 (i4:Int)) fun e4=>(bif (zq e4 s4.2).isSome then (Option.bind (VC ((zq e4 s4.2).getD 0) (i2:Int) s4.1) fun r6=>some (r6,s4.2)) else some (s4.1,(zR e4 (i2:Int) s4.2)))) fun (v2:(List Int)×(List (Int×Int)))=>some (.inl (v2.1,v2.2)))) (s3,s2.2)) (Sum.elim (fun (s4:(List Int)×(List (Int×Int)))=>some (.inl (s4.1,s4.2))) (fun _=>none))))) (fun _=>none)))))) (s1,[])) (Sum.elim (fun (s2:(List Int)×(List (Int×Int)))=>(Option.bind (Wk (c.clauses.length:Int) s2.1) fun r7=>some r7.1)) (fun _=>none))))) (fun _=>none))) else some []))
theorem QW (c:ContractT):Le (vq c) (qK c):=by
  unfold vq qK
  repeat' (first | with_reducible exact Le.refl _ | with_reducible exact zkb _ _ _ | with_reducible exact zfI _ _ | with_reducible refine Le.bind ?_ (fun _ => ?_) | with_reducible refine Le.cond _ ?_ ?_ | with_reducible refine Le.forR (fun _ _ => ?_) _ _ | with_reducible refine Le.iter (fun _ => ?_) _ _ | with_reducible refine Le.elim (fun _ => ?_) (fun _ => ?_) _)
noncomputable def VD (c:ContractT) (clauses:List Int):Option (ContractT×Int):=
  (Option.bind (jx c) fun r1=>(bif (r1.1 == 0) then (Option.bind (forR (σ:=Int) (ρ:=Unit) (clauses.length:Int) (fun i1 s1=>(Option.bind (ze clauses (i1:Int)) fun e1=>(Option.bind (bif decide (e1≤s1) then some true else some (decide ((c.clauses.length:Int)≤e1))) fun v1=>(bif v1 then some (.inr ()) else some (.inl e1))))) (-1)) (Sum.elim (fun (s1:Int)=>(Option.bind (zu 8 c.holders) fun e2=>(Option.bind (zu 48 c.units) fun e3=>(Option.bind (zu 56 c.acts) fun e4=>(Option.bind (zu 8 c.off) fun e5=>(Option.bind (mkN 136 (clauses.length:Int)) fun k1=>(Option.bind (forR (σ:=(List ClauseT)) (ρ:=Unit) (clauses.length:Int) (fun i2 s2=>(Option.bind (ze clauses (i2:Int)) fun e6=>(Option.bind (ze c.clauses e6) fun e7=>(Option.bind (zu 16 e7.start) fun e8=>(Option.bind (forR (σ:=(List CondT)) (ρ:=Unit) (e8.length:Int) (fun i3 s3=>(Option.bind (zh e8.length (i3:Int)) fun k2=>(Option.bind (s3[k2]?) fun e9=>(Option.bind (j6 clauses e9.clause) fun r2=>(bif r2.2 then (Option.bind (zh e8.length (i3:Int)) fun k3=>(Option.bind (s3[k3]?) fun e10=>some (.inl (s3.set k3 ({clause:=r2.1,is:=e10.is}:CondT))))) else some (.inr ())))))) e8) (Sum.elim (fun (s3:(List CondT))=>(Option.bind (zh k1 (i2:Int)) fun k4=>(Option.bind (s2[k4]?) fun e11=>some (.inl (s2.set k4 ({e7 with start:=List.take e8.length s3}:ClauseT)))))) (fun (y2:Unit)=>some (.inr ())))))))) (List.replicate k1 ({kind:=0,role:=0,act:=0,need:=0,start:=[],after:=0,grace:=0,business:=false,final:=false,pause:=0,resume:=0,value:=({num:=0,den:=0}:Ratio),unit:=0,to:=0,waived:=false}:ClauseT))) (Sum.elim (fun (s2:(List ClauseT))=>(Option.bind (eqN k1 s2.length) fun g1=>some (({parties:=c.parties,holders:=e2,units:=e3,acts:=e4,clauses:=s2,days:=c.days,off:=e5}:ContractT),0))) (fun (y3:Unit)=>some (({parties:=0,holders:=[],units:=[],acts:=[],clauses:=[],days:=0,off:=[]}:ContractT),1)))))))))) (fun (y1:Unit)=>some (({parties:=0,holders:=[],units:=[],acts:=[],clauses:=[],days:=0,off:=[]}:ContractT),1)))) else some (({parties:=0,holders:=[],units:=[],acts:=[],clauses:=[],days:=0,off:=[]}:ContractT),1)))
theorem zcC (c:ContractT) (clauses:List Int):Le (VD c clauses) (yI c clauses):=by
  unfold VD yI
  repeat' (first | with_reducible exact Le.refl _ | with_reducible exact vp _ _ | with_reducible refine Le.bind ?_ (fun _ => ?_) | with_reducible refine Le.cond _ ?_ ?_ | with_reducible refine Le.forR (fun _ _ => ?_) _ _ | with_reducible refine Le.iter (fun _ => ?_) _ _ | with_reducible refine Le.elim (fun _ => ?_) (fun _ => ?_) _)
noncomputable def zby (c:ContractT) (a:ArenaT) (safe:List Bool):Option (Int):=
  (Option.bind (α:=Unit ⊕ Int) (Option.bind (iterN (σ:=Int×Int) (ρ:=Unit ⊕ Int) (fun s1=>(Option.bind (ze a.positions s1.2) fun e1=>(bif decide (e1.state.day < c.days) then (Option.bind (xN a s1.2 (-2)) fun r1=>(Option.bind (xN a r1.1 (-1)) fun r2=>(Option.bind (ze safe r2.1) fun e2=>(bif e2 then some (.inl ((IntKind.i64.wrap (s1.1+1)),r2.1)) else some (.inr (.inr s1.1)))))) else some (.inr (.inl ()))))) 40 (0,0)) (Sum.elim (fun (y1:Unit)=>some (.inl ())) (fun (y2:Int)=>some (.inr y2)))) (Sum.elim (fun (v1:Unit)=>some (-1)) (fun (y3:Int)=>some y3)))
theorem zit (c:ContractT) (a:ArenaT) (safe:List Bool):Le (zby c a safe) (Z3 c a safe):=by
  unfold zby Z3
  repeat' (first | with_reducible exact Le.refl _ | with_reducible refine Le.bind ?_ (fun _ => ?_) | with_reducible refine Le.cond _ ?_ ?_ | with_reducible refine Le.forR (fun _ _ => ?_) _ _ | with_reducible refine Le.iter (fun _ => ?_) _ _ | with_reducible refine Le.elim (fun _ => ?_) (fun _ => ?_) _)
noncomputable def Wl (c:ContractT) (party:Int) (s:StateT):Option (AdviceT×Int):=
  (Option.bind (JY c party ({state:=s,own:=true}:PosT)) fun r1=>(bif (r1.2 == 0) then (Option.bind (JZ c r1.1) fun r2=>(Option.bind (ze r2 0) fun e1=>(bif e1 then (Option.bind (yM r1.1 r2) fun r3=>(Option.bind (ze r3 0) fun e2=>(Option.bind (zby c r1.1 r2) fun r4=>some (({safe:=true,move:=e2,wait:=r4}:AdviceT),0)))) else some (({safe:=false,move:=(-2),wait:=0}:AdviceT),0)))) else some (({safe:=false,move:=0,wait:=0}:AdviceT),r1.2)))
theorem zfJ (c:ContractT) (party:Int) (s:StateT):Le (Wl c party s) (d_Advise c party s):=by
  unfold Wl d_Advise
  repeat' (first | with_reducible exact Le.refl _ | with_reducible exact Yi _ _ _ | with_reducible exact Yk _ _ | with_reducible exact zit _ _ _ | with_reducible refine Le.bind ?_ (fun _ => ?_) | with_reducible refine Le.cond _ ?_ ?_ | with_reducible refine Le.forR (fun _ _ => ?_) _ _ | with_reducible refine Le.iter (fun _ => ?_) _ _ | with_reducible refine Le.elim (fun _ => ?_) (fun _ => ?_) _)
noncomputable def zbz (p1:List Int) (p2:ContractT) (p3:StateT) (p4:Bool) (p5:Int) (p6:Bool) (p7:Int) (p8:Int) (p9:Bool):Option (Int×Bool×Int×Int×Bool):=
  (Option.bind (JY p2 p5 ({state:=p3,own:=p4}:PosT)) fun r1=>(bif (r1.2 == 0) then (Option.bind (JZ p2 r1.1) fun r2=>(Option.bind (Wl p2 p5 p3) fun r3=>(bif (r3.2 == 0) then (Option.bind (bif p6 then (Option.bind (ze r2 0) fun e1=>some e1) else some false) fun v1=>(Option.bind (bif p9 then some (r3.1.move == (-2)) else some false) fun v2=>(Option.bind (ze r1.1.moves 0) fun e2=>(Option.bind (forR (σ:=Int) (ρ:=Unit) (e2.length:Int) (fun i1 s1=>(Option.bind (Option.bind (ze e2 (i1:Int)) fun e3=>(Option.bind (bif (e3.step == (-2)) then some false else (Option.bind (ze r2 e3.to) fun e4=>(bif e4 then (bif (s1 == (-2)) then some true else some (decide (e3.step < s1))) else some false))) fun v3=>(bif v3 then some e3.step else some s1))) fun (v4:Int)=>some (.inl v4))) p7) (Sum.elim (fun (s1:Int)=>(Option.bind (Option.bind (bif decide (0≤r3.1.wait) then (bif decide (p8 < 0) then some true else some (decide (r3.1.wait < p8))) else some false) fun v5=>(bif v5 then some r3.1.wait else some p8)) fun (v6:Int)=>some (0,v1,s1,v6,v2))) (fun _=>none)))))) else some (r3.2,p6,p7,p8,p9)))) else some (r1.2,p6,p7,p8,p9)))
theorem ziu (p1:List Int) (p2:ContractT) (p3:StateT) (p4:Bool) (p5:Int) (p6:Bool) (p7:Int) (p8:Int) (p9:Bool):Le (zbz p1 p2 p3 p4 p5 p6 p7 p8 p9) (kN p1 p2 p3 p4 p5 p6 p7 p8 p9):=by
  unfold zbz kN
  repeat' (first | with_reducible exact Le.refl _ | with_reducible exact Yi _ _ _ | with_reducible exact Yk _ _ | with_reducible exact zfJ _ _ _ | with_reducible refine Le.bind ?_ (fun _ => ?_) | with_reducible refine Le.cond _ ?_ ?_ | with_reducible refine Le.forR (fun _ _ => ?_) _ _ | with_reducible refine Le.iter (fun _ => ?_) _ _ | with_reducible refine Le.elim (fun _ => ?_) (fun _ => ?_) _)
noncomputable def zbA (p1:ContractT) (p2:Int) (p3:StateT) (p4:Bool) (p5:Int) (p6:Bool) (p7:Int) (p8:Int) (p9:Bool):Option (Int×Bool×Int×Int×Bool):=
  (Option.bind (bif decide (p2 < 0) then some true else (bif decide (p1.parties≤p2) then some true else (Option.bind (qZ p1 p3) fun r1=>some (!r1)))) fun v1=>(bif v1 then some (1,p6,p7,p8,p9) else (Option.bind (Option.bind (vq p1) fun r2=>(Option.bind (forR (σ:=Int×Bool×Int×Int×Bool) (ρ:=Int×Bool×Int×Int×Bool) (r2.length:Int) (fun i1 s1=>(Option.bind (ze r2 (i1:Int)) fun e1=>(Option.bind (VD p1 e1) fun r3=>(Option.bind (bif (r3.2 == 0) then (Option.bind (jD e1 p3) fun r4=>(Option.bind (zbz e1 r3.1 r4 p4 p5 s1.2.1 s1.2.2.1 s1.2.2.2.1 s1.2.2.2.2) fun r5=>some (r5.1,r5.2.1,r5.2.2.1,r5.2.2.2.1,r5.2.2.2.2))) else some (r3.2,s1.2.1,s1.2.2.1,s1.2.2.2.1,s1.2.2.2.2)) fun (v2:Int×Bool×Int×Int×Bool)=>(bif (v2.1 == 0) then some (.inl (v2.1,v2.2.1,v2.2.2.1,v2.2.2.2.1,v2.2.2.2.2)) else some (.inr (v2.1,v2.2.1,v2.2.2.1,v2.2.2.2.1,v2.2.2.2.2))))))) (0,p6,p7,p8,p9)) (Sum.elim (fun (s1:Int×Bool×Int×Int×Bool)=>some (s1.1,s1.2.1,s1.2.2.1,s1.2.2.2.1,s1.2.2.2.2)) (fun (y1:Int×Bool×Int×Int×Bool)=>some (y1.1,y1.2.1,y1.2.2.1,y1.2.2.2.1,y1.2.2.2.2))))) fun (v3:Int×Bool×Int×Int×Bool)=>some (v3.1,v3.2.1,v3.2.2.1,v3.2.2.2.1,v3.2.2.2.2))))
theorem ziv (p1:ContractT) (p2:Int) (p3:StateT) (p4:Bool) (p5:Int) (p6:Bool) (p7:Int) (p8:Int) (p9:Bool):Le (zbA p1 p2 p3 p4 p5 p6 p7 p8 p9) (yN p1 p2 p3 p4 p5 p6 p7 p8 p9):=by
  unfold zbA yN
  repeat' (first | with_reducible exact Le.refl _ | with_reducible exact QW _ | with_reducible exact zcC _ _ | with_reducible exact ziu _ _ _ _ _ _ _ _ _ | with_reducible refine Le.bind ?_ (fun _ => ?_) | with_reducible refine Le.cond _ ?_ ?_ | with_reducible refine Le.forR (fun _ _ => ?_) _ _ | with_reducible refine Le.iter (fun _ => ?_) _ _ | with_reducible refine Le.elim (fun _ => ?_) (fun _ => ?_) _)
noncomputable def ZB (c:ContractT) (party:Int) (s:StateT):Option (AdviceT×Int):=
  (Option.bind (zbA c party s true party true (-2) (-1) true) fun r1=>(bif (r1.1 == 0) then (bif r1.2.1 then (Option.bind (bif r1.2.2.2.2 then some (-2) else some r1.2.2.1) fun (v1:Int)=>some (({safe:=r1.2.1,move:=v1,wait:=r1.2.2.2.1}:AdviceT),0)) else some (({safe:=false,move:=(-2),wait:=0}:AdviceT),0)) else some (({safe:=false,move:=0,wait:=0}:AdviceT),r1.1)))
theorem zdS (c:ContractT) (party:Int) (s:StateT):Le (ZB c party s) (js c party s):=by
  unfold ZB js
  repeat' (first | with_reducible exact Le.refl _ | with_reducible exact ziv _ _ _ _ _ _ _ _ _ | with_reducible refine Le.bind ?_ (fun _ => ?_) | with_reducible refine Le.cond _ ?_ ?_ | with_reducible refine Le.forR (fun _ _ => ?_) _ _ | with_reducible refine Le.iter (fun _ => ?_) _ _ | with_reducible refine Le.elim (fun _ => ?_) (fun _ => ?_) _)
noncomputable def zbB (p1:List Int) (p2:ContractT) (p3:StateT) (p4:Bool) (p5:Int) (p6:List (List Int)):Option (Int×(List (List Int))):=
  (Option.bind (JY p2 p5 ({state:=p3,own:=p4}:PosT)) fun r1=>(Option.bind (Option.bind (bif (r1.2 == 0) then (Option.bind (JZ p2 r1.1) fun r2=>(Option.bind (ze r2 0) fun e1=>some (!e1))) else some false) fun v1=>(bif v1 then (Option.bind (qv (α:=List Int) 24 p6 [p1]) fun e2=>some e2) else some p6)) fun (v2:(List (List Int)))=>some (r1.2,v2)))
theorem ziw (p1:List Int) (p2:ContractT) (p3:StateT) (p4:Bool) (p5:Int) (p6:List (List Int)):Le (zbB p1 p2 p3 p4 p5 p6) (JF p1 p2 p3 p4 p5 p6):=by
  unfold zbB JF
  repeat' (first | with_reducible exact Le.refl _ | with_reducible exact Yi _ _ _ | with_reducible exact Yk _ _ | with_reducible refine Le.bind ?_ (fun _ => ?_) | with_reducible refine Le.cond _ ?_ ?_ | with_reducible refine Le.forR (fun _ _ => ?_) _ _ | with_reducible refine Le.iter (fun _ => ?_) _ _ | with_reducible refine Le.elim (fun _ => ?_) (fun _ => ?_) _)
noncomputable def zbC (p1:ContractT) (p2:Int) (p3:PosT) (p4:Int) (p5:List (List Int)):Option (Int×(List (List Int))):=
  (Option.bind (bif decide (p2 < 0) then some true else (bif decide (p1.parties≤p2) then some true else (Option.bind (qZ p1 p3.state) fun r1=>some (!r1)))) fun v1=>(bif v1 then some (1,p5) else (Option.bind (Option.bind (vq p1) fun r2=>(Option.bind (forR (σ:=Int×(List (List Int))) (ρ:=Int×(List (List Int))) (r2.length:Int) (fun i1 s1=>(Option.bind (ze r2 (i1:Int)) fun e1=>(Option.bind (VD p1 e1) fun r3=>(Option.bind (bif (r3.2 == 0) then (Option.bind (jD e1 p3.state) fun r4=>(Option.bind (zbB e1 r3.1 r4 p3.own p4 s1.2) fun r5=>some (r5.1,r5.2))) else some (r3.2,s1.2)) fun (v2:Int×(List (List Int)))=>(bif (v2.1 == 0) then some (.inl (v2.1,v2.2)) else some (.inr (v2.1,v2.2))))))) (0,p5)) (Sum.elim (fun (s1:Int×(List (List Int)))=>some (s1.1,s1.2)) (fun (y1:Int×(List (List Int)))=>some (y1.1,y1.2))))) fun (v3:Int×(List (List Int)))=>some (v3.1,v3.2))))
theorem zix (p1:ContractT) (p2:Int) (p3:PosT) (p4:Int) (p5:List (List Int)):Le (zbC p1 p2 p3 p4 p5) (JG p1 p2 p3 p4 p5):=by
  unfold zbC JG
  repeat' (first | with_reducible exact Le.refl _ | with_reducible exact QW _ | with_reducible exact zcC _ _ | with_reducible exact ziw _ _ _ _ _ _ | with_reducible refine Le.bind ?_ (fun _ => ?_) | with_reducible refine Le.cond _ ?_ ?_ | with_reducible refine Le.forR (fun _ _ => ?_) _ _ | with_reducible refine Le.iter (fun _ => ?_) _ _ | with_reducible refine Le.elim (fun _ => ?_) (fun _ => ?_) _)
noncomputable def VE (c:ContractT) (party:Int) (p:PosT):Option ((List (List Int))×Int):=
  (Option.bind (zbC c party p party []) fun r1=>(bif (r1.1 == 0) then some (r1.2,0) else some ([],r1.1)))
theorem zcD (c:ContractT) (party:Int) (p:PosT):Le (VE c party p) (JH c party p):=by
  unfold VE JH
  repeat' (first | with_reducible exact Le.refl _ | with_reducible exact zix _ _ _ _ _ | with_reducible refine Le.bind ?_ (fun _ => ?_) | with_reducible refine Le.cond _ ?_ ?_ | with_reducible refine Le.forR (fun _ _ => ?_) _ _ | with_reducible refine Le.iter (fun _ => ?_) _ _ | with_reducible refine Le.elim (fun _ => ?_) (fun _ => ?_) _)
noncomputable def Qe (c:ContractT) (party:Int) (p:PosT):Option (Bool×Int):=
  (Option.bind (VE c party p) fun r1=>(Option.bind (bif (r1.2 == 0) then some ((r1.1.length:Int) == 0) else some false) fun v1=>some (v1,r1.2)))
theorem zg9 (c:ContractT) (party:Int) (p:PosT):Le (Qe c party p) (ko c party p):=by
  unfold Qe ko
  repeat' (first | with_reducible exact Le.refl _ | with_reducible exact zcD _ _ _ | with_reducible refine Le.bind ?_ (fun _ => ?_) | with_reducible refine Le.cond _ ?_ ?_ | with_reducible refine Le.forR (fun _ _ => ?_) _ _ | with_reducible refine Le.iter (fun _ => ?_) _ _ | with_reducible refine Le.elim (fun _ => ?_) (fun _ => ?_) _)
noncomputable def zdT (p1:ContractT) (p2:List Int):Option (Int×(List Int)×(List UnitT)×(List ActT)×(List ClauseT)×Int×(List Int)×Int):=
  (Option.bind (jx p1) fun r1=>(bif (r1.1 == 0) then (Option.bind (forR (σ:=Int) (ρ:=Unit) (p2.length:Int) (fun i1 s1=>(Option.bind (zh p2.length (i1:Int)) fun k1=>(Option.bind (p2[k1]?) fun e1=>(Option.bind (bif decide (e1≤s1) then some true else some (decide ((p1.clauses.length:Int)≤e1))) fun v1=>(bif v1 then some (.inr ()) else some (.inl e1)))))) (-1)) (Sum.elim (fun (s1:Int)=>(Option.bind (zu 8 p1.holders) fun e2=>(Option.bind (zu 48 p1.units) fun e3=>(Option.bind (zu 56 p1.acts) fun e4=>(Option.bind (zu 8 p1.off) fun e5=>(Option.bind (mkN 136 (p2.length:Int)) fun k2=>(Option.bind (forR (σ:=(List ClauseT)) (ρ:=Unit) (p2.length:Int) (fun i2 s2=>(Option.bind (zh p2.length (i2:Int)) fun k3=>(Option.bind (p2[k3]?) fun e6=>(Option.bind (ze p1.clauses e6) fun e7=>(Option.bind (zu 16 e7.start) fun e8=>(Option.bind (forR (σ:=(List CondT)) (ρ:=Unit) (e8.length:Int) (fun i3 s3=>(Option.bind (zh e8.length (i3:Int)) fun k4=>(Option.bind (s3[k4]?) fun e9=>(Option.bind (j6 p2 e9.clause) fun r2=>(bif r2.2 then (Option.bind (zh e8.length (i3:Int)) fun k5=>(Option.bind (s3[k5]?) fun e10=>some (.inl (s3.set k5 ({clause:=r2.1,is:=e10.is}:CondT))))) else some (.inr ())))))) e8) (Sum.elim (fun (s3:(List CondT))=>(Option.bind (zh k2 (i2:Int)) fun k6=>(Option.bind (s2[k6]?) fun e11=>some (.inl (s2.set k6 ({e7 with start:=List.take e8.length s3}:ClauseT)))))) (fun (y2:Unit)=>some (.inr ()))))))))) (List.replicate k2 ({kind:=0,role:=0,act:=0,need:=0,start:=[],after:=0,grace:=0,business:=false,final:=false,pause:=0,resume:=0,value:=({num:=0,den:=0}:Ratio),unit:=0,to:=0,waived:=false}:ClauseT))) (Sum.elim (fun (s2:(List ClauseT))=>some (p1.parties,e2,e3,e4,List.take k2 s2,p1.days,e5,0)) (fun (y3:Unit)=>some (0,[],[],[],[],0,[],1)))))))))) (fun (y1:Unit)=>some (0,[],[],[],[],0,[],1)))) else some (0,[],[],[],[],0,[],1)))
theorem zkc (p1:ContractT) (p2:List Int):Le (zdT p1 p2) (Vh p1 p2):=by
  unfold zdT Vh
  repeat' (first | with_reducible exact Le.refl _ | with_reducible exact vp _ _ | with_reducible refine Le.bind ?_ (fun _ => ?_) | with_reducible refine Le.cond _ ?_ ?_ | with_reducible refine Le.forR (fun _ _ => ?_) _ _ | with_reducible refine Le.iter (fun _ => ?_) _ _ | with_reducible refine Le.elim (fun _ => ?_) (fun _ => ?_) _)
noncomputable def VF (p1:ContractT) (p2:List Int) (p3:StateT):Option (Int×(List Int)×(List Bool)×(List MarkT)×Int):=
  (Option.bind (qZ p1 p3) fun r1=>(bif r1 then (Option.bind (zdT p1 p2) fun r2=>(bif (r2.2.2.2.2.2.2.2 == 0) then (Option.bind (Vi p2 p3) fun r3=>some (p3.day,r3.1,r3.2.1,r3.2.2,0)) else some (0,[],[],[],1))) else some (0,[],[],[],1)))
theorem ziy (p1:ContractT) (p2:List Int) (p3:StateT):Le (VF p1 p2 p3) (kO p1 p2 p3):=by
  unfold VF kO
  repeat' (first | with_reducible exact Le.refl _ | with_reducible exact zkc _ _ | with_reducible refine Le.bind ?_ (fun _ => ?_) | with_reducible refine Le.cond _ ?_ ?_ | with_reducible refine Le.forR (fun _ _ => ?_) _ _ | with_reducible refine Le.iter (fun _ => ?_) _ _ | with_reducible refine Le.elim (fun _ => ?_) (fun _ => ?_) _)
noncomputable def zbD:Option (Bool):=
  (Option.bind (ZG) fun r1=>(Option.bind (Yh r1) fun r2=>(Option.bind (Qd r1 r2.1 0) fun r3=>(Option.bind (Qd r1 r2.1 (-1)) fun r4=>(Option.bind (ZB r1 0 r2.1) fun r5=>(Option.bind (ZB r1 0 r3.1) fun r6=>(Option.bind (VE r1 0 ({state:=r4.1,own:=true}:PosT)) fun r7=>(Option.bind (Qe r1 0 ({state:=r2.1,own:=true}:PosT)) fun r8=>(Option.bind (Qe r1 0 ({state:=r2.1,own:=false}:PosT)) fun r9=>(Option.bind (VF r1 [1] r2.1) fun r10=>(Option.bind (VF r1 [2] r2.1) fun r11=>(Option.bind (Qe r1 2 ({state:=r2.1,own:=false}:PosT)) fun r12=>(Option.bind (bif (r2.2 == 0) then (bif (r3.2 == 0) then (bif (r4.2 == 0) then (bif (r5.2 == 0) then (bif ((r5.1.safe == true)&&((r5.1.move == 0)&&((r5.1.wait == 0)&&true))) then (bif (r6.2 == 0) then (bif ((r6.1.safe == true)&&((r6.1.move == 1)&&((r6.1.wait == 0)&&true))) then (bif (r7.2 == 0) then (Option.bind (Vj r7.1 ([[1]])) fun r13=>some r13) else some false) else some false) else some false) else some false) else some false) else some false) else some false) else some false) fun v1=>(Option.bind (bif v1 then (bif (r8.2 == 0) then (bif r8.1 then (bif (r9.2 == 0) then (bif r9.1 then some false else (bif (r10.2.2.2.2 == 0) then (bif ((r10.2.2.2.1.length:Int) == 1) then (Option.bind (ze r10.2.2.2.1 0) fun e1=>(bif (e1.left == 1) then (bif (r11.2.2.2.2 == 1) then some (r12.2 == 1) else some false) else some false)) else some false) else some false)) else some false) else some false) else some false) else some false) fun v2=>some v2))))))))))))))
theorem zfK:Le zbD kP:=by
  unfold zbD kP
  repeat' (first | with_reducible exact Le.refl _ | with_reducible exact zg7 _ | with_reducible exact zcB _ _ _ | with_reducible exact zdS _ _ _ | with_reducible exact zcD _ _ _ | with_reducible exact zg9 _ _ _ | with_reducible exact ziy _ _ _ | with_reducible refine Le.bind ?_ (fun _ => ?_) | with_reducible refine Le.cond _ ?_ ?_ | with_reducible refine Le.elim (fun _ => ?_) (fun _ => ?_) _)
theorem zha:kP=some true:=zfK true (by kernel_rfl)
end Go.Proofs.YtjkljacdbljkpaaGreatDoor
namespace Go.Proofs.YtjkljacdbljkpaaGreatDoor
open Go.RowKit
set_option linter.unusedSimpArgs false
set_option linter.unusedVariables false
set_option maxRecDepth 100000
section
def Cand (c:ContractT) (party:Int) (s:StateT) (x:Int):Prop:=x∈zn c party (atO s)∧x ≠ -2∧qz c party (target c (atO s) x)
def Least (S:Int→Prop) (m:Int):Prop:=(m = -2∧∀ x,¬ S x)∨(m ≠ -2∧S m∧∀ x,S x→m≤x)
theorem Least.eq {S:Int→Prop} {a b:Int} (ha:Least S a) (hb:Least S b):a=b:=by
  rcases ha with ⟨a1,a2⟩ | ⟨a0,a1,a2⟩<;>rcases hb with ⟨b1,b2⟩ | ⟨b0,b1,b2⟩
  · omega
  · exact absurd b1 (a2 b)
  · exact absurd a1 (b2 a)
  · have:=a2 b b1;have:=b2 a a1;omega
theorem Least.congr {S T:Int→Prop} {m:Int} (h:Least S m) (e:∀ x,S x↔T x):Least T m:=by
  rcases h with ⟨a1,a2⟩ | ⟨a0,a1,a2⟩
  · exact .inl ⟨a1,fun x hx=>a2 x ((e x).2 hx)⟩
  · exact .inr ⟨a0,(e m).1 a1,fun x hx=>a2 x ((e x).2 hx)⟩
theorem Least.step {S T:Int→Prop} {m y:Int} {b:Bool} (h:Least S m) (hy:b=true→y ≠ -2) (e:∀ x,T x↔S x∨(b=true∧x=y)):Least T (bif b&&(m == -2||decide (y < m)) then y else m):=by
  cases b with
  | false=>exact h.congr fun x=>by rw [e x];simp
  | true=>
    have hy:=hy rfl
    rcases h with ⟨a1,a2⟩ | ⟨a0,a1,a2⟩
    · have:(m == -2)=true:=beq_iff_eq.2 a1
      rw [this]
      refine .inr ⟨hy,(e y).2 (.inr ⟨rfl,rfl⟩),fun x hx => ?_⟩
      rcases (e x).1 hx with g | ⟨_,rfl⟩
      · exact absurd g (a2 x)
      · exact Int.le_refl _
    · have:(m == -2)=false:=beq_eq_false_iff_ne.2 a0
      rw [this]
      by_cases hlt:y < m
      · rw [decide_eq_true hlt]
        refine .inr ⟨hy,(e y).2 (.inr ⟨rfl,rfl⟩),fun x hx => ?_⟩
        rcases (e x).1 hx with g | ⟨_,rfl⟩
        · have:=a2 x g;show y≤x;omega
        · exact Int.le_refl _
      · rw [decide_eq_false hlt]
        refine .inr ⟨a0,(e m).2 (.inl a1),fun x hx => ?_⟩
        rcases (e x).1 hx with g | ⟨_,rfl⟩
        · exact a2 x g
        · show m≤x;omega
def LeastW (l:List Int) (w:Int):Prop:=(w = -1∧∀ x∈l,x < 0)∨(0≤w∧w∈l∧∀ x∈l,0≤x→w≤x)
theorem LeastW.step {l:List Int} {w y:Int} (h:LeastW l w):LeastW (l++[y]) (bif decide (0≤y)&&(decide (w < 0)||decide (y < w)) then y else w):=by
  by_cases h0:0≤y
  · rw [decide_eq_true h0]
    rcases h with ⟨a1,a2⟩ | ⟨a0,a1,a2⟩
    · rw [decide_eq_true (show w < 0 by omega)]
      refine .inr ⟨h0,by simp,fun x hx hx0 => ?_⟩
      rcases List.mem_append.1 hx with g | g
      · have:=a2 x g;omega
      · rw [List.mem_singleton] at g;subst g;exact Int.le_refl _
    · rw [decide_eq_false (show ¬ w < 0 by omega)]
      by_cases hlt:y < w
      · rw [decide_eq_true hlt]
        refine .inr ⟨h0,by simp,fun x hx hx0 => ?_⟩
        rcases List.mem_append.1 hx with g | g
        · have:=a2 x g hx0;show y≤x;omega
        · rw [List.mem_singleton] at g;subst g;exact Int.le_refl _
      · rw [decide_eq_false hlt]
        refine .inr ⟨a0,by simp [a1],fun x hx hx0 => ?_⟩
        rcases List.mem_append.1 hx with g | g
        · exact a2 x g hx0
        · rw [List.mem_singleton] at g;subst g;show w≤x;omega
  · rw [decide_eq_false h0]
    rcases h with ⟨a1,a2⟩ | ⟨a0,a1,a2⟩
    · refine .inl ⟨a1,fun x hx => ?_⟩
      rcases List.mem_append.1 hx with g | g
      · exact a2 x g
      · rw [List.mem_singleton] at g;subst g;omega
    · refine .inr ⟨a0,by simp [a1],fun x hx hx0 => ?_⟩
      rcases List.mem_append.1 hx with g | g
      · exact a2 x g hx0
      · rw [List.mem_singleton] at g;subst g;omega
section
variable {c:ContractT} {ρ:Nat→Nat} {party:Int} {s:StateT}
theorem VG (c:ContractT) (s:StateT):target c (atO s) (-2)=atX s:=if_pos rfl
theorem zdU (hc:c.Ok) (hpl:xl c party s=true) (R:RootsOf c ρ) (hs:qz c party (atO s)) (h0:0 < c.clauses.length) {x:Int} :
    Cand c party s x↔∃ r ks,r < c.clauses.length∧ρ r=r∧PartOk c (prt c ρ r) ks∧Cand (cp c ks) party (rs (prt c ρ r) s) x:=by
  obtain ⟨p0,p1,hv⟩:=j9.1 hpl
  have hall:=fun r ks (hr:r < c.clauses.length) (er:ρ r=r) (hks:PartOk c (prt c ρ r) ks)=>JW hc hks p0 _ ⟨atO s,hv,hs,rfl⟩
  constructor
  · rintro ⟨h1,h2,h3⟩
    rcases zP.1 h1 with ⟨_,g⟩ | ⟨_,g,_⟩ | ⟨hd,i,hi,hm,rfl⟩
    · exact absurd g h2
    · cases g
    · have ha:=List.getElem?_eq_getElem hi
      have hne:z7 c s i≠s:=by
        simp only [mvB,ha,Bool.and_eq_true,Bool.not_eq_true',wN] at hm
        exact hm.2
      have:∃ r,r < c.clauses.length∧ρ r=r∧rs (prt c ρ r) (z7 c s i)≠rs (prt c ρ r) s:=by
        apply Classical.byContradiction
        intro hno
        refine hne (zg0 hc R hv hi hd h0 fun r hr er => ?_)
        apply Classical.byContradiction
        intro h
        exact hno ⟨r,hr,er,h⟩
      obtain ⟨r,hr,er,hch⟩:=this
      obtain ⟨ks,hks⟩:=Qb hc hv.cv R r
      refine ⟨r,ks,hr,er,hks,?_⟩
      rcases Xv hc hks (p:=atO s) hv h1 with ⟨g1,g2⟩ | ⟨_,_,g⟩
      · refine ⟨g1,h2,?_⟩
        have g2:target (cp c ks) (atO (rs (prt c ρ r) s)) (i:Int)=pp (prt c ρ r) (target c (atO s) (i:Int)):=g2
        rw [g2]
        exact JW hc hks p0 _ ⟨_,jN hc hv h1,h3,rfl⟩
      · exact absurd g hch
  · rintro ⟨r,ks,hr,er,hks,h1,h2,h3⟩
    obtain ⟨g1,g2⟩:=vQ hc hks (p:=atO s) hv h1
    refine ⟨g1,h2,Vy hc hv.cv R _ ⟨jN hc hv g1,fun r' ks' hr' er' hks' => ?_⟩⟩
    by_cases e:r=r'
    · subst e
      have:ks=ks':=Option.some.inj (hks.sel.symm.trans hks'.sel)
      subst this
      rw [←g2];exact h3
    · rcases zP.1 h1 with ⟨_,g⟩ | ⟨_,g,_⟩ | ⟨hd,i,hi,hm,rfl⟩
      · exact absurd g h2
      · cases g
      · have hi:i < c.acts.length:=hi
        have hch:rs (prt c ρ r) (z7 c s i)≠rs (prt c ρ r) s:=by
          rw [←xO hc hks hv (by omega) (by omega) hd]
          have ha:=List.getElem?_eq_getElem hi
          have ha':(cp c ks).acts[i]?=some c.acts[i]:=ha
          simp only [mvB,ha',Bool.and_eq_true,Bool.not_eq_true',wN] at hm
          exact hm.2
        rw [wb (p:=atO s) (zcA hc R hv hi hd hr hr' er er' e hch)]
        exact hall r' ks' hr' er' hks'
theorem Zb (hc:c.Ok) (party0:0≤party) (R:RootsOf c ρ) {p:PosT} (hv:VS c p.state):qz c party p↔∀ r ks,r < c.clauses.length→ρ r=r→PartOk c (prt c ρ r) ks→qz (cp c ks) party (pp (prt c ρ r) p):=
  ⟨fun hs r ks _ _ hks=>JW hc hks party0 _ ⟨p,hv,hs,rfl⟩,fun h=>Vy hc hv.cv R p ⟨hv,h⟩⟩
theorem Ym (hc:c.Ok) {P:List Int} {ks:List ClauseT} (h:PartOk c P ks) (hv:VS c s):∀ k:Nat,s.day+k≤c.days→tk (cp c ks) (rs P s) k=rs P (tk c s k)
  | 0,_=>rfl
  | k+1,hk=>by
    obtain ⟨h1,h2⟩:=KQ hc hv k (by omega)
    show z7 (cp c ks) (tk (cp c ks) (rs P s) k) (-1)=rs P (z7 c (tk c s k) (-1))
    rw [Ym hc h hv k (by omega),xO hc h h1 (by omega) (by omega) (by omega)]
theorem J0 (hs:zH c party (atO s)=true):(qz c party (atX s)∧jl c party (atO s) = -2)∨(¬ qz c party (atX s)∧Least (Cand c party s) (jl c party (atO s))∧jl c party (atO s) ≠ -2):=by
  obtain ⟨g1,g2,g3⟩:=zir (c:=c) (party:=party) (q:=atO s) rfl hs
  by_cases hp:qz c party (atX s)
  · left
    refine ⟨hp,?_⟩
    have:=g3 (-2) (zP.2 (.inl ⟨rfl,rfl⟩)) (by rw [VG];exact qf.2 hp)
    rcases zP.1 g1 with ⟨_,g⟩ | ⟨_,g,_⟩ | ⟨_,i,_,_,g⟩
    · exact g
    · cases g
    · omega
  · right
    have hne:jl c party (atO s) ≠ -2:=fun e=>by
      rw [e,VG] at g2
      exact hp (qf.1 g2)
    exact ⟨hp,.inr ⟨hne,⟨g1,hne,qf.1 g2⟩,fun x hx=>g3 x hx.1 (qf.2 hx.2.2)⟩,hne⟩
theorem zfL {w w':Int} (h:kd c party s w) (h':kd c party s w'):w=w':=by
  rcases h with ⟨rfl,h⟩ | ⟨n,rfl,h1,h2,h3⟩<;>rcases h' with ⟨rfl,g⟩ | ⟨m,rfl,g1,g2,g3⟩
  · rfl
  · have:=h m g1;rw [g3] at this;cases this
  · have:=g n h1;rw [h3] at this;cases this
  · rcases Nat.lt_trichotomy n m with e | e | e
    · have:=g2 n e;rw [h3] at this;cases this
    · rw [e]
    · have:=h2 m e;rw [g3] at this;cases this
noncomputable def avP (c:ContractT) (party:Int) (s:StateT) (P:List Int):AdviceT:=((d_Advise (yl c P).1 party (rs P s)).getD ({safe:=false,move:=0,wait:=0},1)).1
theorem ziz (hc:c.Ok) (hv:VS c s) {P:List Int} {ks:List ClauseT} (h:PartOk c P ks) {a:ArenaT} (A:ArOk (cp c ks) party (atO (rs P s)) a) (hf:jL (cp c ks) party (atO (rs P s))=some (a,0)) :
    d_Advise (cp c ks) party (rs P s)=some (avP c party s P,0)∧zdO (cp c ks) party (rs P s) (avP c party s P):=by
  obtain ⟨⟨v,e⟩,h1,h2,h3⟩:=Kf (h.okk hc) (Xr hc h hv) A hf
  simp only at h2 h3
  subst h2
  have:avP c party s P=v:=by
    unfold avP
    rw [h.eq]
    show ((d_Advise (cp c ks) party (rs P s)).getD _).1=v
    rw [h1];rfl
  rw [this]
  exact ⟨h1,h3⟩
structure AdvI (c:ContractT) (party:Int) (s:StateT) (Ps:List (List Int)) (v:Bool×Int×Int×Bool):Prop where
  safe:v.1=Ps.all (Vz c party (atO s))
  move:Least (fun x=>∃ P∈Ps,Cand (yl c P).1 party (rs P s) x) v.2.1
  wait:LeastW (Ps.map fun P=>(avP c party s P).wait) v.2.2.1
  pass:v.2.2.2=Ps.all fun P=>(avP c party s P).move == -2
  ok:∀ P∈Ps,zdO (yl c P).1 party (rs P s) (avP c party s P)
theorem zb5 (hc:c.Ok) (hpl:xl c party s=true) {P:List Int} {ks:List ClauseT} (h:PartOk c P ks) {Ps:List (List Int)} {v:Bool×Int×Int×Bool} (hI:AdvI c party s Ps v) :
    Ret (kN P (cp c ks) (rs P s) true party v.1 v.2.1 v.2.2.1 v.2.2.2) (fun r=>(r.1=3∧¬ ∃ a,ArOk c party (atO s) a)∨(r.1=0∧AdvI c party s (Ps++[P]) r.2)):=by
  obtain ⟨p0,p1,hv⟩:=j9.1 hpl
  have hok:=h.okk hc
  obtain ⟨b0,m0,w0,q0⟩:=v
  obtain ⟨i1,i2,i3,i4,i5⟩:=hI
  simp only at i1 i2 i3 i4 ⊢
  unfold kN
  obtain ⟨⟨a,e⟩,hf,hr2⟩:=zfG hc (p:=atO s) hpl h
  refine Ret.bindE hf ?_
  rcases hr2 with ⟨g1,A⟩ | ⟨g1,g2⟩
  case inr=>
    simp only at g1
    subst g1
    exact Ret.some (.inl ⟨rfl,g2⟩)
  simp only at g1 A
  subst g1
  obtain ⟨hadv,hAR⟩:=ziz hc hv h A hf
  obtain ⟨hp0,ep⟩:=zbv A
  obtain ⟨T,hT,hst,_⟩:=A.mv hp0
  have hTl:=A.len hok hp0 hT
  rw [ep] at hst
  refine Ret.ite (fun _ => ?_) (fun h=>by cases h)
  refine Ret.bindE (zbq hok A) ?_
  refine Ret.bindE hadv ?_
  refine Ret.ite (fun _ => ?_) (fun h=>by cases h)
  refine Ret.bindE (v:=b0&&Vz c party (atO s) P) ?_ ?_
  · rw [zdN hok A,Wj h]
    cases b0<;>rfl
  refine Ret.bindE (v:=q0&&((avP c party s P).move == -2)) ?_ ?_
  · cases q0<;>rfl
  refine Ret.bindE (zD hT) ?_
  refine Ret.bind (P:=fun o:Int ⊕ Unit=>∃ m,o=.inl m∧Least (fun x=>(∃ Q∈Ps,Cand (yl c Q).1 party (rs Q s) x)∨Cand (cp c ks) party (rs P s) x) m) (Ret.forL (fun i m=>Least (fun x=>(∃ Q∈Ps,Cand (yl c Q).1 party (rs Q s) x)∨∃ (j:Nat) (hj:j < T.length),j < i∧x=T[j].step∧x ≠ -2∧qz (cp c ks) party (target (cp c ks) (atO (rs P s)) x)) m) (by omega) (i2.congr fun x => ?_) (fun i m hi hm => ?_) (fun m hm=>⟨m,rfl,hm.congr fun x => ?_⟩)) ?_
  · constructor
    · exact .inl
    · rintro (g | ⟨j,_,hj,_⟩)
      · exact g
      · omega
  · have hTi:=List.getElem?_eq_getElem hi
    refine Ret.bindE (v:=bif (bif T[i].step == -2 then false else zH (cp c ks) party (target (cp c ks) (atO (rs P s)) T[i].step))&&(m == -2||decide (T[i].step < m)) then T[i].step else m) ?_ ?_
    · rw [zD hTi]
      simp only [Option.bind_some]
      cases hb:(T[i].step == -2) with
      | true=>simp
      | false=>
        have hto:=zcz A hp0 hT (List.getElem_mem hi)
        rw [ep] at hto
        have hto:ze (a.positions.map (zH (cp c ks) party)) T[i].to=some (zH (cp c ks) party (target (cp c ks) (atO (rs P s)) T[i].step)):=hto
        simp only [cond_false,hto,Option.bind_some]
        cases zH (cp c ks) party (target (cp c ks) (atO (rs P s)) T[i].step)<;>cases (m == -2)<;>cases decide (T[i].step < m)<;>rfl
    refine Ret.some ?_
    refine Least.step hm (fun hb => ?_) fun x => ?_
    · intro e
      rw [e] at hb
      simp at hb
    · constructor
      · rintro (g | ⟨j,hj,hji,e1,e2,e3⟩)
        · exact .inl (.inl g)
        · rcases Nat.lt_or_ge j i with h1 | h1
          · exact .inl (.inr ⟨j,hj,h1,e1,e2,e3⟩)
          · obtain rfl:j=i:=by omega
            refine .inr ⟨?_,e1⟩
            rw [←e1,beq_eq_false_iff_ne.2 e2]
            exact qf.2 e3
      · rintro ((g | ⟨j,hj,hji,e1,e2,e3⟩) | ⟨hb,e1⟩)
        · exact .inl g
        · exact .inr ⟨j,hj,by omega,e1,e2,e3⟩
        · refine .inr ⟨i,hi,by omega,e1,?_,?_⟩
          · intro e2
            rw [←e1,e2] at hb
            simp at hb
          · cases h2:(T[i].step == -2) with
            | true=>rw [h2] at hb;cases hb
            | false=>rw [h2,cond_false] at hb;rw [e1];exact qf.1 hb
  · constructor
    · rintro (g | ⟨j,hj,_,e1,e2,e3⟩)
      · exact .inl g
      · refine .inr ⟨?_,e2,e3⟩
        have:T[j].step∈T.map (fun m:MoveT=>m.step):=List.mem_map.2 ⟨_,List.getElem_mem hj,rfl⟩
        rw [e1]
        rw [hst] at this
        exact this
    · rintro (g | ⟨e1,e2,e3⟩)
      · exact .inl g
      · right
        have e1:x∈zn (cp c ks) party (pp P (atO s)):=e1
        rw [←hst] at e1
        obtain ⟨t,ht,e4⟩:=List.mem_map.1 e1
        obtain ⟨j,hj,rfl⟩:=List.getElem_of_mem ht
        exact ⟨j,hj,hj,e4.symm,e2,e3⟩
  · rintro _ ⟨m,rfl,hm⟩
    refine Ret.bindE (v:=bif decide (0≤(avP c party s P).wait)&&(decide (w0 < 0)||decide ((avP c party s P).wait < w0)) then (avP c party s P).wait else w0) ?_ ?_
    · simp only
      cases decide (0≤(avP c party s P).wait)<;>cases decide (w0 < 0)<;>cases decide ((avP c party s P).wait < w0)<;>rfl
    refine Ret.some (.inr ⟨rfl,?_,?_,?_,?_,?_⟩)
    · show (b0&&Vz c party (atO s) P)=_
      rw [i1,List.all_append];simp
    · refine hm.congr fun x => ?_
      simp only [List.mem_append,List.mem_singleton]
      constructor
      · rintro (⟨Q,hQ,g⟩ | g)
        · exact ⟨Q,.inl hQ,g⟩
        · exact ⟨P,.inr rfl,by rw [h.eq];exact g⟩
      · rintro ⟨Q,hQ | rfl,g⟩
        · exact .inl ⟨Q,hQ,g⟩
        · rw [h.eq] at g;exact .inr g
    · show LeastW _ _
      rw [List.map_append]
      exact i3.step
    · show (q0&&((avP c party s P).move == -2))=_
      rw [i4,List.all_append];simp
    · intro Q hQ
      rcases List.mem_append.1 hQ with g | g
      · exact i5 Q g
      · rw [List.mem_singleton] at g
        subst g
        rw [h.eq];exact hAR
theorem zb6 (hc:c.Ok) (hpl:xl c party s=true) (R:RootsOf c ρ) (hC:qK c=some (qm ρ c.clauses.length)) :
    Ret (yN c party s true party true (-2) (-1) true) (fun r=>(r.1=3∧¬ ∃ a,ArOk c party (atO s) a)∨(r.1=0∧AdvI c party s (qm ρ c.clauses.length) r.2)):=by
  obtain ⟨h0,h1,hv⟩:=j9.1 hpl
  have sm:=qw (hc.off.lt (by omega)) hv.cv
  have hcl:=sm.clauses
  have hpl':=zfF (c:=c) (ρ:=ρ)
  have hat:=fun i (hi:i < (qm ρ c.clauses.length).length)=>zbu (c:=c) (ρ:=ρ) hi
  generalize hL:qm ρ c.clauses.length=L at hC hpl' hat ⊢
  unfold yN
  refine Ret.bindE (v:=false) ?_ ?_
  · rw [decide_eq_false (show ¬ party < 0 by omega),decide_eq_false (show ¬ c.parties≤party by omega),kT c _ hc,Vq hv];rfl
  refine Ret.ite (fun h=>by cases h) (fun _ => ?_)
  refine Ret.bind (P:=fun r:Int×Bool×Int×Int×Bool=>(r.1=3∧¬ ∃ a,ArOk c party (atO s) a)∨(r.1=0∧AdvI c party s L r.2)) ?_ (fun v hv=>Ret.some hv)
  refine Ret.bindE hC ?_
  refine Ret.bind (P:=fun o:(Int×Bool×Int×Int×Bool) ⊕ (Int×Bool×Int×Int×Bool)=>match o with
    | .inl r=>r.1=0∧AdvI c party s L r.2
    | .inr r=>r.1=3∧¬ ∃ a,ArOk c party (atO s) a) ?_ ?_
  · refine Ret.forL (fun i r=>r.1=0∧AdvI c party s (L.take i) r.2) (by omega) ⟨rfl,rfl,.inl ⟨rfl,fun x ⟨P,hP,_⟩=>by simp at hP⟩,.inl ⟨rfl,fun x hx=>by simp at hx⟩,rfl,fun P hP=>by simp at hP⟩ ?_ (fun r hr=>⟨hr.1,by rw [List.take_length] at hr;exact hr.2⟩)
    rintro i ⟨e,v⟩ hi ⟨rfl,hI⟩
    simp only at hI
    obtain ⟨r,hr,er,ep⟩:=hat i hi
    obtain ⟨ks,hks⟩:=Qb hc hv.cv R r
    rw [←ep] at hks
    have hPl:L[i].length≤400:=by rw [ep];have:=zim (c:=c) (ρ:=ρ) r;omega
    have hPr:∀ x∈L[i],0≤x∧x < c.clauses.length:=by rw [ep];exact zin r
    refine Ret.bindE (zD (List.getElem?_eq_getElem hi)) ?_
    refine Ret.bindE (zio hc hPl hks) ?_
    refine Ret.bind (P:=fun v:Int×Bool×Int×Int×Bool=>(v.1=3∧¬ ∃ a,ArOk c party (atO s) a)∨(v.1=0∧AdvI c party s (L.take i++[L[i]]) v.2)) ?_ ?_
    · refine Ret.ite (fun _ => ?_) (fun h=>by cases h)
      refine Ret.bindE (zbt hc hv hPr hPl) ?_
      refine Ret.bind (zb5 hc hpl hks hI) ?_
      rintro r hr
      exact Ret.some hr
    · rintro ⟨e,v2⟩ (⟨g1,g2⟩ | ⟨g1,g2⟩)
      · simp only at g1
        subst g1
        exact Ret.some ⟨rfl,g2⟩
      · simp only at g1 g2
        subst g1
        refine Ret.some ⟨rfl,?_⟩
        rw [List.take_succ_eq_append_getElem hi]
        exact g2
  · rintro (r | r) hr
    · exact Ret.some (.inr hr)
    · exact Ret.some (.inl hr)
theorem zb7 (hc:c.Ok) (h:xl c party s=false):js c party s=some ({safe:=false,move:=0,wait:=0},1):=by
  unfold js yN
  rw [kT c _ hc]
  simp only [xl] at h
  simp only [Option.bind_some]
  have:(bif decide (party < 0) then some true else (bif decide (c.parties≤party) then some true else some (!vsB c s)))=some true:=by
    by_cases h1:party < 0
    · rw [decide_eq_true h1];rfl
    by_cases h2:c.parties≤party
    · rw [decide_eq_true h2];cases decide (party < 0)<;>rfl
    rw [decide_eq_false h1,decide_eq_false h2]
    rw [decide_eq_true (show 0≤party by omega),decide_eq_true (show party < c.parties by omega)] at h
    simp only [Bool.true_and] at h
    rw [h];rfl
  rw [this];rfl
theorem zdV (hc:c.Ok) (hpl:xl c party s=true) (R:RootsOf c ρ) {v:Bool×Int×Int×Bool} (hI:AdvI c party s (qm ρ c.clauses.length) v) {w:AdviceT} (hw:zdO c party s w) :
    w=bif v.1 then {safe:=true,move:=(bif v.2.2.2 then -2 else v.2.1),wait:=v.2.2.1} else {safe:=false,move := -2,wait:=0}:=by
  obtain ⟨p0,p1,hv⟩:=j9.1 hpl
  obtain ⟨b,m,wt,q⟩:=v
  obtain ⟨i1,i2,i3,i4,i5⟩:=hI
  simp only at i1 i2 i3 i4 ⊢
  have hmem:∀ P∈qm ρ c.clauses.length,∃ r ks,r < c.clauses.length∧ρ r=r∧PartOk c (prt c ρ r) ks∧P=prt c ρ r:=fun P hP=>by
    obtain ⟨i,hi,rfl⟩:=List.getElem_of_mem hP
    obtain ⟨r,hr,er,ep⟩:=zbu (c:=c) (ρ:=ρ) hi
    obtain ⟨ks,hks⟩:=Qb hc hv.cv R r
    exact ⟨r,ks,hr,er,hks,ep⟩
  have hin:∀ r,r < c.clauses.length→ρ r=r→prt c ρ r∈qm ρ c.clauses.length:=fun r hr er=>List.mem_map.2 ⟨r,QO.2 ⟨hr,er⟩,rfl⟩
  have hb:b=zH c party (atO s):=by
    rw [i1,Bool.eq_iff_iff,List.all_eq_true,qf,Zb hc p0 R (p:=atO s) hv]
    constructor
    · intro h r ks hr er hks
      have:=h _ (hin r hr er)
      rw [Wj hks] at this
      exact qf.1 this
    · intro h P hP
      obtain ⟨r,ks,hr,er,hks,rfl⟩:=hmem P hP
      rw [Wj hks]
      exact qf.2 (h r ks hr er hks)
  rcases hw with ⟨h1,h2⟩ | ⟨h1,h2,h3,h4⟩
  · rw [hb,h1,h2];rfl
  rw [hb,h1,cond_true]
  have hS:=qf.1 h1
  have hparts:∀ r ks,r < c.clauses.length→ρ r=r→PartOk c (prt c ρ r) ks→zH (cp c ks) party (atO (rs (prt c ρ r) s))=true∧(avP c party s (prt c ρ r)).move=jl (cp c ks) party (atO (rs (prt c ρ r) s))∧kd (cp c ks) party (rs (prt c ρ r) s) (avP c party s (prt c ρ r)).wait:=fun r ks hr er hks=>by
    have hsr:zH (cp c ks) party (atO (rs (prt c ρ r) s))=true:=qf.2 ((Zb hc p0 R (p:=atO s) hv).1 hS r ks hr er hks)
    have:=i5 _ (hin r hr er)
    rw [hks.eq] at this
    rcases this with ⟨g,_⟩ | ⟨_,_,g2,g3⟩
    · have g:zH (cp c ks) party (atO (rs (prt c ρ r) s))=false:=g
      rw [hsr] at g;cases g
    · exact ⟨hsr,g2,g3⟩
  have hq:q=true↔qz c party (atX s):=by
    rw [i4,List.all_eq_true,Zb hc p0 R (p:=atX s) hv]
    constructor
    · intro h r ks hr er hks
      have:=h _ (hin r hr er)
      rw [beq_iff_eq] at this
      obtain ⟨g1,g2,_⟩:=hparts r ks hr er hks
      rw [g2] at this
      rcases J0 g1 with ⟨k,_⟩ | ⟨_,_,k⟩
      · exact k
      · exact absurd this k
    · intro h P hP
      obtain ⟨r,ks,hr,er,hks,rfl⟩:=hmem P hP
      obtain ⟨g1,g2,_⟩:=hparts r ks hr er hks
      rw [beq_iff_eq,g2]
      rcases J0 g1 with ⟨_,k⟩ | ⟨k,_⟩
      · exact k
      · exact absurd (h r ks hr er hks) k
  have hmove:w.move=(bif q then -2 else m):=by
    rw [h3]
    rcases J0 h1 with ⟨k1,k2⟩ | ⟨k1,k2,k3⟩
    · rw [k2,hq.2 k1];rfl
    · have hqf:q=false:=by
        rw [←Bool.not_eq_true,hq];exact k1
      rw [hqf,cond_false]
      have h0:0 < c.clauses.length:=by
        rcases Nat.eq_zero_or_pos c.clauses.length with e | e
        · exfalso
          refine k1 ((Zb hc p0 R (p:=atX s) hv).2 fun r ks hr=>by omega)
        · exact e
      refine k2.eq (i2.congr fun x => ?_)
      rw [zdU hc hpl R hS h0]
      constructor
      · rintro ⟨P,hP,g⟩
        obtain ⟨r,ks,hr,er,hks,rfl⟩:=hmem P hP
        rw [hks.eq] at g
        exact ⟨r,ks,hr,er,hks,g⟩
      · rintro ⟨r,ks,hr,er,hks,g⟩
        exact ⟨_,hin r hr er,by rw [hks.eq];exact g⟩
  have hday:∀ d:Nat,s.day+d < c.days→(zH c party (atO (tk c s (d+1)))=true↔∀ r ks,r < c.clauses.length→ρ r=r→PartOk c (prt c ρ r) ks→zH (cp c ks) party (atO (tk (cp c ks) (rs (prt c ρ r) s) (d+1)))=true):=fun d hd=>by
    have hvt:=(KQ hc hv (d+1) (by omega)).1
    rw [qf,Zb hc p0 R (p:=atO (tk c s (d+1))) hvt]
    constructor
    · intro h r ks hr er hks
      rw [Ym hc hks hv (d+1) (by omega)]
      exact qf.2 (h r ks hr er hks)
    · intro h r ks hr er hks
      have:=h r ks hr er hks
      rw [Ym hc hks hv (d+1) (by omega)] at this
      exact qf.1 this
  have hwait:w.wait=wt:=by
    refine zfL h4 ?_
    rcases i3 with ⟨rfl,g⟩ | ⟨g0,g1,g2⟩
    · refine .inl ⟨rfl,fun d hd=>(hday d hd).2 fun r ks hr er hks => ?_⟩
      obtain ⟨_,_,k⟩:=hparts r ks hr er hks
      have:=g _ (List.mem_map.2 ⟨_,hin r hr er,rfl⟩)
      rcases k with ⟨_,k⟩ | ⟨n,k,_⟩
      · exact k d hd
      · omega
    · obtain ⟨P,hP,e⟩:=List.mem_map.1 g1
      obtain ⟨r,ks,hr,er,hks,rfl⟩:=hmem P hP
      obtain ⟨_,_,k⟩:=hparts r ks hr er hks
      rcases k with ⟨k,_⟩ | ⟨n,k,k1,k2,k3⟩
      · omega
      · have k1:s.day+n < c.days:=k1
        refine .inr ⟨n,by omega,k1,fun d hd=>(hday d (by omega)).2 fun r' ks' hr' er' hks' => ?_,?_⟩
        · obtain ⟨_,_,j⟩:=hparts r' ks' hr' er' hks'
          rcases j with ⟨_,j⟩ | ⟨n',j,_,j2,_⟩
          · exact j d (by show s.day+d < c.days;omega)
          · have:=g2 _ (List.mem_map.2 ⟨_,hin r' hr' er',rfl⟩) (by omega)
            exact j2 d (by omega)
        · rw [←Bool.not_eq_true,hday n k1]
          intro h
          have:=h r ks hr er hks
          rw [k3] at this;cases this
  obtain ⟨ws,wm,ww⟩:=w
  simp only at h2 hmove hwait
  rw [h2,hmove,hwait]
end
theorem Wm (c:ContractT) (party:Int) (s:StateT) (hc:ContractT.Ok c) (hparty:InK .i64 party) (hs:StateT.Ok s):wE c party s=some true:=by
  refine Ret.eq ?_
  unfold wE
  refine Ret.bindE zha ?_
  refine Ret.bindE (zj8 hc _) ?_
  refine Ret.ite (fun _ => ?_) (fun _=>Ret.some rfl)
  cases hpl:xl c party s with
  | false=>
    have hA:d_Advise c party s=some ({safe:=false,move:=0,wait:=0},1):=by
      unfold d_Advise
      rw [zgW hc (p:={state:=s,own:=true}) hpl];rfl
    refine Ret.bindE hA ?_
    refine Ret.bindE (zb7 hc hpl) ?_
    exact Ret.some rfl
  | true=>
    obtain ⟨h0,h1,hv⟩:=j9.1 hpl
    obtain ⟨ρ,R,hC⟩:=ziq hc hv.cv
    obtain ⟨⟨e2,v⟩,hl,hlr⟩:=zb6 hc hpl R hC
    have hAC:js c party s=some (bif e2 == 0 then (bif v.1 then ({safe:=v.1,move:=(bif v.2.2.2 then -2 else v.2.1),wait:=v.2.2.1},0) else ({safe:=false,move := -2,wait:=0},0)) else ({safe:=false,move:=0,wait:=0},e2)):=by
      unfold js
      rw [hl]
      simp only [Option.bind_some]
      cases (e2 == 0)<;>cases v.1<;>cases v.2.2.2<;>rfl
    obtain ⟨⟨a,e⟩,hf,hr⟩:=zbm hc (p:=atO s) hpl
    rcases hr with ⟨g1,g2,g3⟩ | ⟨g1,g2⟩
    · simp only at g1 g2 g3
      subst g1
      have A:ArOk c party (atO s) a:=⟨h0,h1,g2,g3⟩
      obtain ⟨⟨w,e3⟩,hA,k1,k2⟩:=Kf hc hv A hf
      simp only at k1 k2
      subst k1
      rcases hlr with ⟨_,hno⟩ | ⟨j1,j2⟩
      · exact absurd ⟨a,A⟩ hno
      simp only at j1 j2
      subst j1
      have hw:=zdV hc hpl R j2 k2
      refine Ret.bindE hA ?_
      refine Ret.bindE hAC ?_
      refine Ret.ite (fun _ => ?_) (fun h=>by cases h)
      refine Ret.bindE (v:=true) ?_ (Ret.some rfl)
      rw [hw]
      cases v.1<;>simp
    · simp only at g1
      subst g1
      have hA:d_Advise c party s=some ({safe:=false,move:=0,wait:=0},3):=by
        unfold d_Advise
        have hf:jL c party {state:=s,own:=true}=some (a,3):=hf
        rw [hf];rfl
      refine Ret.bindE hA ?_
      refine Ret.bindE hAC ?_
      exact Ret.some rfl
end
end Go.Proofs.YtjkljacdbljkpaaGreatDoor
namespace Go.Proofs.YtjkljacdbljkpaaGreatDoor
open Go.ChangeShapes Go.WideShapes Go.RowKit
set_option maxRecDepth 100000
abbrev Xw : List (String × DataW Unit) := [("math/bits.deBruijn32tab", Rows.laid_math_bits_deBruijn32tab), ("math/bits.deBruijn64tab", Rows.laid_math_bits_deBruijn64tab), ("internal/strconv.uint64pow10", Rows.laid_internal_strconv_uint64pow10)]
theorem zhb:(Xw.filter fun x=>x.1 == xU)=[(xU,Lib.tabData .u64 Lib.pow10Tab)]:=by kernel_rfl
theorem zbE {W:World} (h:laidMet Tryz.prog Xw W):C0.tabs.p W∧C0.tabs.n≤W.heap.size:=by
  have h1:=h.filter (fun x=>x.1 == xU)
  rw [zhb] at h1
  have h2:C0.tabs.p W:=Lib.tabIs_of_head (g:=0) (t:=((Tryz.prog.globals[0]?).map (·.type)).getD 0) (e:=189) (n:=20)
    (by kernel_rfl) (by kernel_rfl) (by kernel_rfl) (by kernel_rfl) (by kernel_rfl) (by kernel_rfl) h1
  exact ⟨h2,zdj h2⟩
def zkd:DataW Unit→Array Value
  | .agg ds=>(ds.map fun d=>match d with | .lit (.int k n)=>Value.int k n | _=>Value.bool false).toArray
  | _ => #[]
def zbF (w:World) (g:Nat) (d:DataW Unit):World:={w with heap:=w.heap.modify g fun | .cells _ t f=>.cells (zkd d) t f | o=>o}
noncomputable def Kg (os:Os):World:=
  zbF (zbF (zbF (World.holding Tryz.prog os ⟨#[],#[],[]⟩) 1 Rows.laid_math_bits_deBruijn32tab) 2 Rows.laid_math_bits_deBruijn64tab) 0 Rows.laid_internal_strconv_uint64pow10
theorem Kr (os:Os) (args:Array Value):laidMet Tryz.prog Xw ((Kg os).forCall (fun _ _=>0) ⟨#[],args,[]⟩).memory:=
  laidMet_of_run3 8 (by kernel_rfl) (by kernel_rfl) (by kernel_rfl)
end Go.Proofs.YtjkljacdbljkpaaGreatDoor
namespace Go.Proofs.YtjkljacdbljkpaaGreatDoor.LComposeAdvises
open Go.ChangeShapes Go.WideShapes Go.ChangeAt Go.RowKit
set_option linter.unusedVariables false
set_option maxRecDepth 100000
theorem all (ivs:List IV) (h:Xh [(true,ContractT.tys),(false,[.int .i64]),(true,StateT.tys)] ivs):APure C0 169 ivs (.bool true):=by
  match ivs,h with
  | [x0,x1,x2],⟨a0,a1,a2,_⟩=>
    obtain ⟨row0,rfl,r0⟩:=a0
    obtain ⟨c,rfl,ok_c⟩:=ContractT.opn r0
    obtain ⟨c1,_,e1,k1,n1⟩:=zi a1
    cases e1
    obtain ⟨party,rfl,ok_party⟩:=zx k1
    obtain ⟨row2,rfl,r2⟩:=a2
    obtain ⟨s,rfl,ok_s⟩:=StateT.opn r2
    exact Wa c party s true (Wm c party s ok_c ok_party ok_s)
theorem own:ownKnob Tryz.prog.godebug=none:=by kernel_rfl
theorem laid:laidOutB Tryz.prog=true:=by kernel_rfl
theorem args:mapO (zaS Tryz.prog) Tryz.f6.params.toList=some [(true,ContractT.tys),(false,[.int .i64]),(true,StateT.tys)]:=by kernel_rfl
theorem zke (os:Os) (started:os.Started) (H:Type) (enc:TypeId×Value→H) :
    ReturnsInHanded {} Tryz.checked os 6 .any (fun w args=>(Rows.composeAdvisesSpec.pre enc Tryz.prog Tryz.f6 [] false w args∧laidMet Tryz.prog Xw w)∧sizedMet enc Tryz.prog Tryz.f6 (OpenSpec.ofChange Rows.composeAdvisesSpec) false w args) (Rows.composeAdvisesSpec.post enc Tryz.prog Tryz.f6 false true false false):=by
  refine returnsInHanded_of_change_and (C:=Tryz.checked) (X:=fun w _=>laidMet Tryz.prog Xw w) (fun _ _ _ hh h=>h.of_heap hh) own started (by kernel_rfl) Tryz.func6
    (ChangeSpec.witness_at (enc:=enc) (C:=Tryz.checked) (os:=os) (X:=fun w _=>laidMet Tryz.prog Xw w) false (Kg os) #[.agg #[.int .i64 0,.slice none 0 0,.slice none 0 0,.slice none 0 0,.slice none 0 0,.int .i64 0,.slice none 0 0],.int .i64 0,.agg #[.int .i64 0,.slice none 0 0,.slice none 0 0,.slice none 0 0]] 8 rfl (by kernel_rfl) (by kernel_rfl) (by kernel_rfl) (by kernel_rfl) (by kernel_rfl) (Kr os _)) ?_
  intro W base args ds gs before hval hW _ hwt hL _
  exact zaT (Cx:=C0) (tb:=4) 169 rfl LComposeAdvises.args rfl (by kernel_rfl) rfl
    (fun ds h=>by match ds,h with | [_,_,_],_=>rfl) LComposeAdvises.laid (by kernel_rfl) LComposeAdvises.all W (zbE hL) base args ds gs before hval hW hwt
theorem zmK:Rows.ComposeAdvisesSaid:=
  OpenClaim.holds_of_wide 6 Tryz.f6 rfl rfl rfl rfl rfl rfl rfl ⟨rfl,rfl,rfl,rfl,rfl⟩ rfl rfl rfl rfl rfl (by kernel_rfl) Tryz.func6 (by kernel_rfl)
    (of_decide_eq_true (by kernel_rfl)) (by unfold Func.isWrapper;first | (rw [if_pos (by decide +kernel)];kernel_rfl) | (rw [if_neg (by decide +kernel)];exact ⟨rfl,rfl⟩))
    (fun os started H enc _=>zke os started H enc)
theorem holds:Rows.ComposeAdvisesCardSaid:=
  Claim7.holds_tied_plain_at .later [] [.data, .data, .data] true (true, "667d07e1e23b23c588405f52b6ef23b6fab58bb16b03a4a91b6f094234708974") false
    zmK (fun _ h=>by cases h) (by kernel_rfl) (fun _ h=>by cases h) composeAdvises_row_tie rfl ⟨rfl,rfl⟩ (by kernel_rfl) rfl
    (fun f fn hf hfn=>by
      obtain rfl : f = 6 := Option.some.inj ((show Tryz.prog.funcNamed "estoppel/estoppellaw23.ComposeAdvises" = some 6 by kernel_rfl).symm.trans hf) |>.symm
      obtain rfl:fn=Tryz.f6:=(Option.some.inj (Tryz.func6.symm.trans hfn)).symm
      refine ⟨by kernel_rfl,fun j t ht => ?_⟩
      have hall:(Tryz.f6.params.toList.all fun t=>!(Tryz.prog.wantsStandIn t))=true:=by kernel_rfl
      have:=List.all_eq_true.1 hall t (by rw [Array.mem_toList_iff];exact Array.mem_of_getElem? ht)
      have h2:Tryz.prog.wantsStandIn t=false:=by simpa using this
      exact h2)
    (by kernel_rfl)
end Go.Proofs.YtjkljacdbljkpaaGreatDoor.LComposeAdvises
namespace Go.Proofs.YtjkljacdbljkpaaGreatDoor
theorem composeAdvises_holds:Rows.ComposeAdvisesCardSaid:=LComposeAdvises.holds
end Go.Proofs.YtjkljacdbljkpaaGreatDoor
