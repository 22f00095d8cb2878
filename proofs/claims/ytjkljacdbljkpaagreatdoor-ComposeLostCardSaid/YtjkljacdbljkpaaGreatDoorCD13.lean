/-
  'ComposeLost': for every input the call returns true, and each argument reads afterwards as it read before.
  The tables of the library that the rows list: from the row's condition to what the contracts ask; the witness.
  The law 'ComposeLost'.
  The law 'ComposeSteps'.
  The fixed example of the laws of layer 23: 'head' returns true. Printed by mkheads.py.
  Functions of the program as the kernel reckons them: with fuel, and texts of small numbers. Printed by mkheads.py.
-/
import Derived.Test.YtjkljacdbljkpaaGreatDoorCD12
import Derived.Test.YtjkljacdbljkpaaGreatDoorCD11
import Derived.Test.YtjkljacdbljkpaaGreatDoorRows
import Derived.Test.YtjkljacdbljkpaaGreatDoorCD10
import Derived.LaidLaws
import Derived.LaidSub
import Derived.Deep.DeepLaidRun
import Derived.Lib.LaidTab
import Derived.JoinedOf
import Derived.Test.YtjkljacdbljkpaaGreatDoorCD06
import Derived.Test.YtjkljacdbljkpaaGreatDoorTie
import Derived.Test.YtjkljacdbljkpaaGreatDoorCards
import Derived.SevenTiedAt
namespace Go.Proofs.YtjkljacdbljkpaaGreatDoor
set_option linter.unusedSimpArgs false
set_option linter.unusedVariables false
set_option maxRecDepth 100000
def Le {α:Type} (x y:Option α):Prop:=∀ r,x=some r→y=some r
theorem Le.refl {α:Type} (x:Option α):Le x x:=fun _ h=>h
theorem Le.bind {α β:Type} {x y:Option α} {f g:α→Option β} (h:Le x y) (hf:∀ a,Le (f a) (g a)):Le (x.bind f) (y.bind g):=fun r hr=>by
  obtain ⟨a,h1,h2⟩:=Option.bind_eq_some_iff.1 hr
  rw [h a h1];exact hf a r h2
theorem Le.cond {α:Type} (b:Bool) {x y x' y':Option α} (h1:Le x x') (h2:Le y y'):Le (bif b then x else y) (bif b then x' else y'):=by
  cases b
  · exact h2
  · exact h1
theorem Le.elim {α β γ:Type} {f f':α→Option γ} {g g':β→Option γ} (h1:∀ a,Le (f a) (f' a)) (h2:∀ a,Le (g a) (g' a)) (o:α ⊕ β):Le (Sum.elim f g o) (Sum.elim f' g' o):=by
  cases o
  · exact h1 _
  · exact h2 _
theorem Le.forFrom {σ ρ:Type} {f g:Nat→σ→Option (σ ⊕ ρ)} (h:∀ i s,Le (f i s) (g i s)):∀ (k i:Nat) (s:σ),Le (forFrom f i k s) (forFrom g i k s)
  | 0,i,s=>Le.refl _
  | k+1,i,s=>fun r hr=>by
    simp only [Go.Proofs.YtjkljacdbljkpaaGreatDoor.forFrom] at hr ⊢
    split at hr
    · cases hr
    · rename_i e;rw [h i s _ e];exact hr
    · rename_i e;rw [h i s _ e];exact Le.forFrom h k (i+1) _ r hr
theorem Le.forR {σ ρ:Type} {f g:Nat→σ→Option (σ ⊕ ρ)} (h:∀ i s,Le (f i s) (g i s)) (n:Int) (s:σ):Le (forR n f s) (forR n g s):=fun r hr=>by
  obtain ⟨h1,h2⟩:=Jk hr
  rw [kE h1];exact Le.forFrom h _ _ _ r h2
theorem Le.iterN {σ ρ:Type} {f g:σ→Option (σ ⊕ ρ)} (h:∀ s,Le (f s) (g s)):∀ (k:Nat) (s:σ),Le (Go.Proofs.YtjkljacdbljkpaaGreatDoor.iterN f k s) (Go.Proofs.YtjkljacdbljkpaaGreatDoor.iterN g k s)
  | 0,s=>Le.refl _
  | k+1,s=>fun r hr=>by
    simp only [Go.Proofs.YtjkljacdbljkpaaGreatDoor.iterN] at hr ⊢
    split at hr
    · cases hr
    · rename_i e;rw [h s _ e];exact hr
    · rename_i e;rw [h s _ e];exact Le.iterN h k _ r hr
theorem Le.iter {σ ρ:Type} {f g:σ→Option (σ ⊕ ρ)} (h:∀ s,Le (f s) (g s)) (k:Nat) (s:σ):Le (Go.Proofs.YtjkljacdbljkpaaGreatDoor.iterN f k s) (Go.Proofs.YtjkljacdbljkpaaGreatDoor.iter g s):=fun r hr=>yn.2 ⟨k,Le.iterN h k s r hr⟩
def V6:Nat→Nat→List UInt8
  | 0,u=>[]
  | f+1,u=>if u < 10 then [UInt8.ofNat (48+u)] else V6 f (u / 10)++[UInt8.ofNat (48+u % 10)]
theorem V7:∀ (f u:Nat),u < 10 ^ (f+1)→V6 (f+1) u=Lib.decDigits u
  | 0,u,h=>by
    rw [Lib.decDigits]
    simp only [V6]
    rw [if_pos (by omega),dif_pos (by omega)]
  | f+1,u,h=>by
    rw [Lib.decDigits,V6]
    by_cases hu:u < 10
    · rw [if_pos hu,dif_pos hu]
    · rw [if_neg hu,dif_neg hu,V7 f (u / 10) (by rw [Nat.pow_succ] at h;omega)]
def xN (n:Int):Bool:=decide (-1000 < n)&&decide (n < 1000)
def zdI (n:Int):List UInt8:=if n < 0 then 45::V6 4 n.natAbs else V6 4 n.toNat
theorem zgR {n:Int} (h:xN n=true):zdI n=Lib.itoa n:=by
  simp only [xN,Bool.and_eq_true,decide_eq_true_eq] at h
  unfold zdI Lib.itoa
  rw [V7 3 n.natAbs (by omega),V7 3 n.toNat (by omega)]
def vL (n:Int):List UInt8:=zdI n++[32]
theorem ku {n:Int} (h:xN n=true):vL n=qq n:=by unfold vL qq;rw [zgR h]
def zhk (m:MarkT):List UInt8:=vL m.status++vL m.left++vL m.got++vL m.bearer++qF m.paused
def zbn (m:MarkT):Bool:=xN m.status&&(xN m.left&&(xN m.got&&xN m.bearer))
def Vs (p:PosT):List UInt8:=qF p.own++vL p.state.day++p.state.holders.flatMap vL++p.state.used.flatMap qF++p.state.marks.flatMap zhk
def JT (p:PosT):Bool:=xN p.state.day&&(p.state.holders.all xN&&p.state.marks.all zbn)
theorem kY {α β:Type} {f g:α→List β}:∀ {l:List α},(∀ a∈l,f a=g a)→l.flatMap f=l.flatMap g
  | [],_=>rfl
  | a::l,h=>by rw [List.flatMap_cons,List.flatMap_cons,h a List.mem_cons_self,kY fun b hb=>h b (List.mem_cons_of_mem _ hb)]
theorem zgS {p:PosT} (h:JT p=true):Vs p=qw p:=by
  simp only [JT,Bool.and_eq_true,List.all_eq_true] at h
  unfold Vs qw
  rw [ku h.1,kY (f:=vL) (g:=qq) (fun a ha=>ku (h.2.1 a ha)),kY (f:=zhk) (g:=xT) (fun a ha=>by
    have:=h.2.2 a ha
    simp only [zbn,Bool.and_eq_true] at this
    show vL a.status++vL a.left++vL a.got++vL a.bearer++qF a.paused=qq a.status++qq a.left++qq a.got++qq a.bearer++qF a.paused
    rw [ku this.1,ku this.2.1,ku this.2.2.1,ku this.2.2.2])]
theorem vM {n:Int} (h:xN n=true):wp n=true:=by
  simp only [xN,wp,Bool.and_eq_true,decide_eq_true_eq] at h ⊢
  omega
def Z8 (p:PosT):Option ByteArray:=bif JT p&&decide ((Vs p).length≤1000000000) then some ⟨(Vs p).toArray⟩ else none
theorem zid (p:PosT):Le (Z8 p) (xF p):=fun r h=>by
  unfold Z8 at h
  cases hq:(JT p&&decide ((Vs p).length≤1000000000)) with
  | false=>rw [hq] at h;cases h
  | true=>
    rw [hq] at h
    simp only [Bool.and_eq_true,decide_eq_true_eq] at hq
    have e:=zgS hq.1
    unfold xF
    rw [if_pos,←e]
    · exact h
    · have h1:=hq.1
      simp only [JT,Bool.and_eq_true,List.all_eq_true] at h1
      simp only [okP,Bool.and_eq_true,decide_eq_true_eq,List.all_eq_true]
      refine ⟨⟨⟨vM h1.1,fun x hx=>vM (h1.2.1 x hx)⟩,fun m hm => ?_⟩,by rw [←e];exact hq.2⟩
      have:=h1.2.2 m hm
      simp only [zbn,Bool.and_eq_true] at this
      exact ⟨⟨⟨vM this.1,vM this.2.1⟩,vM this.2.2.1⟩,vM this.2.2.2⟩
noncomputable def Vt (p1:ContractT) (p2:Int) (p3:List Int) (p4:Nat) (p5:List Bool) (p6:Nat) (p7:List MarkT) (p8:Nat):Option ((List MarkT)):=
  (Option.bind (iterN (σ:=Bool×(List MarkT)) (ρ:=(List MarkT)) (fun s1=>(bif s1.1 then (Option.bind (forR (σ:=Bool×(List MarkT)) (ρ:=Unit) (p1.clauses.length:Int) (fun i2 s2=>(Option.bind (Option.bind (ze p1.clauses (i2:Int)) fun e1=>(Option.bind (eqN p4 p3.length) fun g1=>(Option.bind (eqN p6 p5.length) fun g2=>(Option.bind (eqN p8 s2.2.length) fun g3=>(Option.bind (vz p1 ({day:=p2,holders:=p3,used:=p5,marks:=s2.2}:StateT) (i2:Int)) fun r1=>(bif r1 then (Option.bind (bif (e1.kind == 4) then some (-1) else (Option.bind (zh p4 e1.role) fun k1=>(Option.bind (p3[k1]?) fun e2=>some e2))) fun (v1:Int)=>(Option.bind (zh p8 (i2:Int)) fun k2=>(Option.bind (s2.2[k2]?) fun e3=>some (true,(s2.2.set k2 ({status:=1,left:=e1.after,got:=0,bearer:=v1,paused:=false}:MarkT)))))) else some (s2.1,s2.2))))))) fun (v2:Bool×(List MarkT))=>some (.inl (v2.1,v2.2)))) (false,s1.2)) (Sum.elim (fun (s2:Bool×(List MarkT))=>some (.inl (s2.1,s2.2))) (fun _=>none))) else some (.inr s1.2))) 40 (true,p7)) (fun (y1:(List MarkT))=>some y1))
theorem zbo (p1:ContractT) (p2:Int) (p3:List Int) (p4:Nat) (p5:List Bool) (p6:Nat) (p7:List MarkT) (p8:Nat):Le (Vt p1 p2 p3 p4 p5 p6 p7 p8) (wt p1 p2 p3 p4 p5 p6 p7 p8):=by
  unfold Vt wt
  repeat' (first | with_reducible exact Le.refl _ | with_reducible refine Le.bind ?_ (fun _ => ?_) | with_reducible refine Le.cond _ ?_ ?_ | with_reducible refine Le.forR (fun _ _ => ?_) _ _ | with_reducible refine Le.iter (fun _ => ?_) _ _ | with_reducible refine Le.elim (fun _ => ?_) (fun _ => ?_) _)
noncomputable def V8 (c:ContractT):Option (StateT×Int):=
  (Option.bind (jw c) fun r1=>(bif (r1.1 == 0) then (Option.bind (zu 8 c.holders) fun e1=>(Option.bind (mkN 1 (c.acts.length:Int)) fun k1=>(Option.bind (mkN 40 (c.clauses.length:Int)) fun k2=>(Option.bind (forR (σ:=(List MarkT)) (ρ:=Unit) (c.clauses.length:Int) (fun i1 s1=>(Option.bind (Option.bind (ze c.clauses (i1:Int)) fun e2=>(Option.bind (zh k2 (i1:Int)) fun k3=>(Option.bind (s1[k3]?) fun e3=>(bif e2.waived then (Option.bind (zh k2 (i1:Int)) fun k4=>(Option.bind ((s1.set k3 ({status:=0,left:=0,got:=0,bearer:=(-1),paused:=false}:MarkT))[k4]?) fun e4=>some ((s1.set k3 ({status:=0,left:=0,got:=0,bearer:=(-1),paused:=false}:MarkT)).set k4 ({e4 with status:=5}:MarkT)))) else some (s1.set k3 ({status:=0,left:=0,got:=0,bearer:=(-1),paused:=false}:MarkT)))))) fun (v1:(List MarkT))=>some (.inl v1))) (List.replicate k2 ({status:=0,left:=0,got:=0,bearer:=0,paused:=false}:MarkT))) (Sum.elim (fun (s1:(List MarkT))=>(Option.bind (Vt c 0 e1 e1.length (List.replicate k1 false) k1 s1 k2) fun r2=>(Option.bind (eqN k1 (List.replicate k1 false).length) fun g1=>(Option.bind (eqN k2 r2.length) fun g2=>some (({day:=0,holders:=e1,used:=(List.replicate k1 false),marks:=r2}:StateT),0))))) (fun _=>none)))))) else some (({day:=0,holders:=[],used:=[],marks:=[]}:StateT),1)))
theorem zgT (c:ContractT):Le (V8 c) (Xd c):=by
  unfold V8 Xd
  repeat' (first | with_reducible exact Le.refl _ | with_reducible exact zbo _ _ _ _ _ _ _ _ | with_reducible refine Le.bind ?_ (fun _ => ?_) | with_reducible refine Le.cond _ ?_ ?_ | with_reducible refine Le.forR (fun _ _ => ?_) _ _ | with_reducible refine Le.iter (fun _ => ?_) _ _ | with_reducible refine Le.elim (fun _ => ?_) (fun _ => ?_) _)
noncomputable def jV (l:List Int) (v:Int):Option (Int×Bool):=
  (Option.bind (Option.bind (iterN (σ:=Int×Int) (ρ:=Int) (fun s1=>(bif decide (s1.1 < s1.2) then (Option.bind (Jo .u64 .u64 (IntKind.u64.wrap (IntKind.i64.wrap (s1.1+s1.2))) 1) fun e1=>(Option.bind (ze l (IntKind.i64.wrap e1)) fun e2=>(Option.bind (ZU e2 v) fun r1=>(bif r1 then some (.inl ((IntKind.i64.wrap ((IntKind.i64.wrap e1)+1)),s1.2)) else some (.inl (s1.1,(IntKind.i64.wrap e1))))))) else some (.inr s1.1))) 40 (0,(l.length:Int))) (fun (y1:Int)=>some y1)) fun (v1:Int)=>(Option.bind (bif decide (v1 < (l.length:Int)) then (Option.bind (ze l v1) fun e3=>(bif (e3 == v) then some true else (Option.bind (kh e3) fun r2=>(bif r2 then (Option.bind (kh v) fun r3=>some r3) else some false)))) else some false) fun v2=>some (v1,v2)))
theorem vi (l:List Int) (v:Int):Le (jV l v) (qC l v):=by
  unfold jV qC
  repeat' (first | with_reducible exact Le.refl _ | with_reducible refine Le.bind ?_ (fun _ => ?_) | with_reducible refine Le.cond _ ?_ ?_ | with_reducible refine Le.forR (fun _ _ => ?_) _ _ | with_reducible refine Le.iter (fun _ => ?_) _ _ | with_reducible refine Le.elim (fun _ => ?_) (fun _ => ?_) _)
noncomputable def zdJ (p1:ContractT) (p2:Int) (p3:List Int) (p4:Nat) (p5:List Bool) (p6:Nat) (p7:List MarkT) (p8:Nat):Option ((List MarkT)):=
  (Option.bind (jV p1.off p2) fun r1=>(Option.bind (Option.bind (xc p1 p2 p3 p4 p5 p6 p7 p8) fun r2=>(Option.bind (forR (σ:=(List MarkT)) (ρ:=(List MarkT)) (p8:Int) (fun i1 s1=>(Option.bind (Option.bind (zh p8 (i1:Int)) fun k1=>(Option.bind (s1[k1]?) fun e1=>(Option.bind (jr e1) fun r3=>(bif r3 then (Option.bind (Option.bind (ze p1.clauses (i1:Int)) fun e2=>(Option.bind (Option.bind (zh p8 (i1:Int)) fun k2=>(Option.bind (s1[k2]?) fun e3=>(bif e3.paused then some true else (bif e2.business then some r1.2 else some false)))) fun v1=>(bif v1 then some s1 else (Option.bind (zh p8 (i1:Int)) fun k3=>(Option.bind (s1[k3]?) fun e4=>(Option.bind (zh p8 (i1:Int)) fun k4=>(Option.bind ((s1.set k3 ({e4 with left:=(IntKind.i64.wrap (e4.left - 1))}:MarkT))[k4]?) fun e5=>(bif (e5.left == 0) then (Option.bind (bif (e2.kind == (0:Int)) then none else (bif (e2.kind == (1:Int)) then (Option.bind (W4 (i1:Int) p1 p2 p3 p4 p5 p6 (s1.set k3 ({e4 with left:=(IntKind.i64.wrap (e4.left - 1))}:MarkT)) p8) fun r7=>some r7) else (bif (e2.kind == (2:Int)) then (Option.bind (wu (i1:Int) p1 p2 p3 p4 p5 p6 (s1.set k3 ({e4 with left:=(IntKind.i64.wrap (e4.left - 1))}:MarkT)) p8) fun r6=>some r6) else (bif (e2.kind == (3:Int)) then (Option.bind (Zp (i1:Int) p1 p2 p3 p4 p5 p6 (s1.set k3 ({e4 with left:=(IntKind.i64.wrap (e4.left - 1))}:MarkT)) p8) fun r5=>some r5) else (bif (e2.kind == (4:Int)) then (Option.bind (Zp (i1:Int) p1 p2 p3 p4 p5 p6 (s1.set k3 ({e4 with left:=(IntKind.i64.wrap (e4.left - 1))}:MarkT)) p8) fun r4=>some r4) else none))))) fun v2=>some v2) else some (s1.set k3 ({e4 with left:=(IntKind.i64.wrap (e4.left - 1))}:MarkT)))))))))) fun (v3:(List MarkT))=>some ((!true),v3)) else some (false,s1))))) fun (v4:Bool×(List MarkT))=>(bif v4.1 then some (.inr v4.2) else some (.inl v4.2)))) p7) (Sum.elim (fun (s1:(List MarkT))=>some s1) (fun (y1:(List MarkT))=>some y1)))) fun (v5:(List MarkT))=>(Option.bind (Vt p1 (IntKind.i64.wrap (p2+1)) p3 p4 p5 p6 v5 p8) fun r8=>some r8)))
theorem zjT (p1:ContractT) (p2:Int) (p3:List Int) (p4:Nat) (p5:List Bool) (p6:Nat) (p7:List MarkT) (p8:Nat):Le (zdJ p1 p2 p3 p4 p5 p6 p7 p8) (d_70a p1 p2 p3 p4 p5 p6 p7 p8):=by
  unfold zdJ d_70a
  repeat' (first | with_reducible exact Le.refl _ | with_reducible exact vi _ _ | with_reducible exact zbo _ _ _ _ _ _ _ _ | with_reducible refine Le.bind ?_ (fun _ => ?_) | with_reducible refine Le.cond _ ?_ ?_ | with_reducible refine Le.forR (fun _ _ => ?_) _ _ | with_reducible refine Le.iter (fun _ => ?_) _ _ | with_reducible refine Le.elim (fun _ => ?_) (fun _ => ?_) _)
noncomputable def zdK (p1:Int) (p2:ContractT) (p3:Int) (p4:List Int) (p5:Nat) (p6:List Bool) (p7:Nat) (p8:List MarkT) (p9:Nat):Option ((List Int)×(List Bool)×(List MarkT)):=
  (Option.bind (ze p2.acts p1) fun e1=>(Option.bind (bif (e1.kind == 1) then some false else (Option.bind (zh p7 p1) fun k1=>(Option.bind (p6[k1]?) fun e2=>some e2))) fun v1=>(bif v1 then some (p4,p6,p8) else (Option.bind (Option.bind (xc p2 p3 p4 p5 p6 p7 p8 p9) fun r1=>(Option.bind (forR (σ:=(List MarkT)) (ρ:=(List MarkT)) (p9:Int) (fun i1 s1=>(Option.bind (Option.bind (zh p9 (i1:Int)) fun k2=>(Option.bind (s1[k2]?) fun e3=>(Option.bind (jr e3) fun r2=>(bif r2 then (Option.bind (Option.bind (ze p2.clauses (i1:Int)) fun e4=>(bif (p1 == e4.pause) then (Option.bind (zh p9 (i1:Int)) fun k3=>(Option.bind (s1[k3]?) fun e5=>some (s1.set k3 ({e5 with paused:=true}:MarkT)))) else (Option.bind (ze p2.clauses (i1:Int)) fun e6=>(bif (p1 == e6.resume) then (Option.bind (zh p9 (i1:Int)) fun k4=>(Option.bind (s1[k4]?) fun e7=>some (s1.set k4 ({e7 with paused:=false}:MarkT)))) else some s1)))) fun (v2:(List MarkT))=>some ((!true),v2)) else some (false,s1))))) fun (v3:Bool×(List MarkT))=>(bif v3.1 then some (.inr v3.2) else some (.inl v3.2)))) p8) (Sum.elim (fun (s1:(List MarkT))=>some s1) (fun (y1:(List MarkT))=>some y1)))) fun (v4:(List MarkT))=>(Option.bind (eqN p5 p4.length) fun g1=>(Option.bind (eqN p7 p6.length) fun g2=>(Option.bind (eqN p9 v4.length) fun g3=>(Option.bind (ZV p2 ({day:=p3,holders:=p4,used:=p6,marks:=v4}:StateT) p1) fun r3=>(Option.bind (Option.bind (xc p2 p3 p4 p5 p6 p7 v4 p9) fun r4=>(Option.bind (forR (σ:=(List MarkT)) (ρ:=(List MarkT)) (p9:Int) (fun i2 s2=>(Option.bind (Option.bind (zh p9 (i2:Int)) fun k5=>(Option.bind (s2[k5]?) fun e8=>(Option.bind (jr e8) fun r5=>(bif r5 then (Option.bind (Option.bind (ze p2.clauses (i2:Int)) fun e9=>(Option.bind (bif (e9.act == p1) then (bif (e9.kind == 4) then some true else (Option.bind (zh p9 (i2:Int)) fun k6=>(Option.bind (s2[k6]?) fun e10=>some (e10.bearer == r3)))) else some false) fun v5=>(bif v5 then (Option.bind (bif (e9.kind == (0:Int)) then none else (bif (e9.kind == (1:Int)) then (Option.bind (W6 (i2:Int) p2 p3 p4 p5 p6 p7 s2 p9) fun r9=>some r9) else (bif (e9.kind == (2:Int)) then (Option.bind (W5 (i2:Int) p2 p3 p4 p5 p6 p7 s2 p9) fun r8=>some r8) else (bif (e9.kind == (3:Int)) then (Option.bind (wu (i2:Int) p2 p3 p4 p5 p6 p7 s2 p9) fun r7=>some r7) else (bif (e9.kind == (4:Int)) then (Option.bind (wu (i2:Int) p2 p3 p4 p5 p6 p7 s2 p9) fun r6=>some r6) else none))))) fun v6=>some v6) else some s2))) fun (v7:(List MarkT))=>some ((!true),v7)) else some (false,s2))))) fun (v8:Bool×(List MarkT))=>(bif v8.1 then some (.inr v8.2) else some (.inl v8.2)))) v4) (Sum.elim (fun (s2:(List MarkT))=>some s2) (fun (y2:(List MarkT))=>some y2)))) fun (v9:(List MarkT))=>(Option.bind (bif (e1.kind == 1) then some (p4,p6,v9) else (Option.bind (W7 p1 p2 p3 p4 p5 p6 p7 v9 p9) fun r10=>some (r10.1,r10.2.1,r10.2.2))) fun (v10:(List Int)×(List Bool)×(List MarkT))=>(Option.bind (Vt p2 p3 v10.1 p5 v10.2.1 p7 v10.2.2 p9) fun r11=>some (v10.1,v10.2.1,r11))))))))))))
theorem zjU (p1:Int) (p2:ContractT) (p3:Int) (p4:List Int) (p5:Nat) (p6:List Bool) (p7:Nat) (p8:List MarkT) (p9:Nat):Le (zdK p1 p2 p3 p4 p5 p6 p7 p8 p9) (QE p1 p2 p3 p4 p5 p6 p7 p8 p9):=by
  unfold zdK QE
  repeat' (first | with_reducible exact Le.refl _ | with_reducible exact zbo _ _ _ _ _ _ _ _ | with_reducible refine Le.bind ?_ (fun _ => ?_) | with_reducible refine Le.cond _ ?_ ?_ | with_reducible refine Le.forR (fun _ _ => ?_) _ _ | with_reducible refine Le.iter (fun _ => ?_) _ _ | with_reducible refine Le.elim (fun _ => ?_) (fun _ => ?_) _)
noncomputable def Z9 (c:ContractT) (s:StateT) (step:Int):Option (StateT×Int):=
  (Option.bind (Option.bind (qT c s) fun r1=>(bif r1 then (bif decide (step < (-1)) then some true else some (decide ((c.acts.length:Int)≤step))) else some true)) fun v1=>(bif v1 then some (({day:=0,holders:=[],used:=[],marks:=[]}:StateT),1) else (bif (s.day == c.days) then some (({day:=0,holders:=[],used:=[],marks:=[]}:StateT),13) else (Option.bind (mkN 8 (s.holders.length:Int)) fun k1=>(Option.bind (mkN 1 (s.used.length:Int)) fun k2=>(Option.bind (mkN 40 (s.marks.length:Int)) fun k3=>(Option.bind (xx (α:=Int) k1 (List.replicate k1 0) s.holders) fun e1=>(Option.bind (xx (α:=Bool) k2 (List.replicate k2 false) s.used) fun e2=>(Option.bind (xx (α:=MarkT) k3 (List.replicate k3 ({status:=0,left:=0,got:=0,bearer:=0,paused:=false}:MarkT)) s.marks) fun e3=>(Option.bind (bif (step == (-1)) then (Option.bind (zdJ c s.day e1 k1 e2 k2 e3 k3) fun r2=>some (e1,e2,r2,(IntKind.i64.wrap (s.day+1)))) else (Option.bind (zdK step c s.day e1 k1 e2 k2 e3 k3) fun r3=>some (r3.1,r3.2.1,r3.2.2,s.day))) fun (v2:(List Int)×(List Bool)×(List MarkT)×Int)=>(Option.bind (eqN k1 v2.1.length) fun g1=>(Option.bind (eqN k2 v2.2.1.length) fun g2=>(Option.bind (eqN k3 v2.2.2.1.length) fun g3=>some (({day:=v2.2.2.2,holders:=v2.1,used:=v2.2.1,marks:=v2.2.2.1}:StateT),0))))))))))))))
theorem zcp (c:ContractT) (s:StateT) (step:Int):Le (Z9 c s step) (d_Step c s step):=by
  unfold Z9 d_Step
  repeat' (first | with_reducible exact Le.refl _ | with_reducible exact zjT _ _ _ _ _ _ _ _ | with_reducible exact zjU _ _ _ _ _ _ _ _ _ | with_reducible refine Le.bind ?_ (fun _ => ?_) | with_reducible refine Le.cond _ ?_ ?_ | with_reducible refine Le.forR (fun _ _ => ?_) _ _ | with_reducible refine Le.iter (fun _ => ?_) _ _ | with_reducible refine Le.elim (fun _ => ?_) (fun _ => ?_) _)
noncomputable def JU (c:ContractT) (party:Int) (p:PosT):Option (ArenaT×Int):=
  (Option.bind (wX c party p) fun r1=>(bif r1 then (Option.bind (wz p.state) fun r2=>(Option.bind (Z8 p) fun r3=>(Option.bind (α:=((List PosT)×(List (List MoveT))) ⊕ Unit) (Option.bind (iterN (σ:=Int×(List PosT)×(List (List MoveT))×(List (ByteArray×Int))) (ρ:=((List PosT)×(List (List MoveT))) ⊕ Unit) (fun s1=>(bif decide (s1.1 < (s1.2.1.length:Int)) then (Option.bind (α:=((List PosT)×(List (ByteArray×Int))×(List MoveT)) ⊕ Unit) (Option.bind (ze s1.2.1 s1.1) fun e1=>(Option.bind (Vb c party e1) fun r4=>(Option.bind (α:=((List PosT)×(List (ByteArray×Int))×(List MoveT)) ⊕ (Unit ⊕ ((List PosT)×(List (ByteArray×Int))×(List MoveT)))) (bif e1.own then (Option.bind (wz e1.state) fun r5=>(Option.bind (Z8 ({state:=r5,own:=false}:PosT)) fun r6=>(Option.bind (α:=(Int×(List PosT)×(List (ByteArray×Int))) ⊕ Unit) (bif ((zp r6 s1.2.2.2).isSome) then some (.inl (((zp r6 s1.2.2.2).getD 0),s1.2.1,s1.2.2.2)) else (bif ((s1.2.1.length:Int) == 1500) then some (.inr ()) else (Option.bind (qt (α:=PosT) 88 s1.2.1 [({state:=r5,own:=false}:PosT)]) fun e2=>some (.inl ((s1.2.1.length:Int),e2,(zQ r6 (s1.2.1.length:Int) s1.2.2.2)))))) (Sum.elim (fun (v1:Int×(List PosT)×(List (ByteArray×Int)))=>(Option.bind (qt (α:=MoveT) 16 [] [({step:=(-2),to:=v1.1}:MoveT)]) fun e3=>(bif decide (c.days≤e1.state.day) then some (.inr (.inr (v1.2.1,v1.2.2,e3))) else some (.inl (v1.2.1,v1.2.2,e3))))) (fun (y1:Unit)=>some (.inr (.inl ()))))))) else (bif decide (c.days≤e1.state.day) then some (.inr (.inr (s1.2.1,s1.2.2.2,[]))) else some (.inl (s1.2.1,s1.2.2.2,[])))) (Sum.elim (fun (v2:(List PosT)×(List (ByteArray×Int))×(List MoveT))=>(Option.bind (α:=((List PosT)×(List (ByteArray×Int))×(List MoveT)) ⊕ Unit) (bif e1.own then some (.inl (v2.1,v2.2.1,v2.2.2)) else (Option.bind (Z9 c e1.state (-1)) fun r7=>(Option.bind (Z8 ({state:=r7.1,own:=true}:PosT)) fun r8=>(Option.bind (α:=(Int×(List PosT)×(List (ByteArray×Int))) ⊕ Unit) (bif ((zp r8 v2.2.1).isSome) then some (.inl (((zp r8 v2.2.1).getD 0),v2.1,v2.2.1)) else (bif ((v2.1.length:Int) == 1500) then some (.inr ()) else (Option.bind (qt (α:=PosT) 88 v2.1 [({state:=r7.1,own:=true}:PosT)]) fun e4=>some (.inl ((v2.1.length:Int),e4,(zQ r8 (v2.1.length:Int) v2.2.1)))))) (Sum.elim (fun (v3:Int×(List PosT)×(List (ByteArray×Int)))=>(Option.bind (qt (α:=MoveT) 16 v2.2.2 [({step:=(-1),to:=v3.1}:MoveT)]) fun e5=>some (.inl (v3.2.1,v3.2.2,e5)))) (fun (y4:Unit)=>some (.inr ()))))))) (Sum.elim (fun (v4:(List PosT)×(List (ByteArray×Int))×(List MoveT))=>(Option.bind (forR (σ:=(List PosT)×(List (ByteArray×Int))×(List MoveT)) (ρ:=(List PosT)×(List (ByteArray×Int))×(List MoveT)) (c.acts.length:Int) (fun i2 s2=>(Option.bind (α:=((List PosT)×(List (ByteArray×Int))×(List MoveT)) ⊕ Unit) (Option.bind (ze c.acts (i2:Int)) fun e6=>(Option.bind (bif (e6.role == (-1)) then some (-1) else (Option.bind (ze e1.state.holders e6.role) fun e7=>some e7)) fun (v5:Int)=>(bif ((v5 == party) == e1.own) then (Option.bind (Z9 c e1.state (i2:Int)) fun r9=>(Option.bind (ZW r9.1 e1.state) fun r10=>(bif r10 then some (.inl (s2.1,s2.2.1,s2.2.2)) else (Option.bind (Z8 ({state:=r9.1,own:=true}:PosT)) fun r11=>(Option.bind (α:=(Int×(List PosT)×(List (ByteArray×Int))) ⊕ Unit) (bif ((zp r11 s2.2.1).isSome) then some (.inl (((zp r11 s2.2.1).getD 0),s2.1,s2.2.1)) else (bif ((s2.1.length:Int) == 1500) then some (.inr ()) else (Option.bind (qt (α:=PosT) 88 s2.1 [({state:=r9.1,own:=true}:PosT)]) fun e8=>some (.inl ((s2.1.length:Int),e8,(zQ r11 (s2.1.length:Int) s2.2.1)))))) (Sum.elim (fun (v6:Int×(List PosT)×(List (ByteArray×Int)))=>(Option.bind (qt (α:=MoveT) 16 s2.2.2 [({step:=(i2:Int),to:=v6.1}:MoveT)]) fun e9=>some (.inl (v6.2.1,v6.2.2,e9)))) (fun (y6:Unit)=>some (.inr ())))))))) else some (.inl (s2.1,s2.2.1,s2.2.2))))) (Sum.elim (fun (v7:(List PosT)×(List (ByteArray×Int))×(List MoveT))=>some (.inl (v7.1,v7.2.1,v7.2.2))) (fun (y7:Unit)=>some (.inr (s2.1,s2.2.1,s2.2.2)))))) (v4.1,v4.2.1,v4.2.2)) (Sum.elim (fun (s2:(List PosT)×(List (ByteArray×Int))×(List MoveT))=>some (.inl (s2.1,s2.2.1,s2.2.2))) (fun (y8:(List PosT)×(List (ByteArray×Int))×(List MoveT))=>some (.inr ()))))) (fun (y5:Unit)=>some (.inr ()))))) (Sum.elim (fun (y2:Unit)=>some (.inr ())) (fun (y3:(List PosT)×(List (ByteArray×Int))×(List MoveT))=>some (.inl (y3.1,y3.2.1,y3.2.2)))))))) (Sum.elim (fun (v8:(List PosT)×(List (ByteArray×Int))×(List MoveT))=>(Option.bind (qt (α:=List MoveT) 24 s1.2.2.1 [v8.2.2]) fun e10=>some (.inl ((IntKind.i64.wrap (s1.1+1)),v8.1,e10,v8.2.1)))) (fun (y9:Unit)=>some (.inr (.inr ()))))) else some (.inr (.inl (s1.2.1,s1.2.2.1))))) 40 (0,[({state:=r2,own:=p.own}:PosT)],[],(zQ r3 0 []))) (Sum.elim (fun (y10:(List PosT)×(List (List MoveT)))=>some (.inl (y10.1,y10.2))) (fun (y11:Unit)=>some (.inr ())))) (Sum.elim (fun (v9:(List PosT)×(List (List MoveT)))=>some (({party:=party,positions:=v9.1,moves:=v9.2}:ArenaT),0)) (fun (y12:Unit)=>some (({party:=0,positions:=[],moves:=[]}:ArenaT),3)))))) else some (({party:=0,positions:=[],moves:=[]}:ArenaT),1)))
theorem V9 (c:ContractT) (party:Int) (p:PosT):Le (JU c party p) (jk c party p):=by
  unfold JU jk
  repeat' (first | with_reducible exact Le.refl _ | with_reducible exact zid _ | with_reducible exact zcp _ _ _ | with_reducible refine Le.bind ?_ (fun _ => ?_) | with_reducible refine Le.cond _ ?_ ?_ | with_reducible refine Le.forR (fun _ _ => ?_) _ _ | with_reducible refine Le.iter (fun _ => ?_) _ _ | with_reducible refine Le.elim (fun _ => ?_) (fun _ => ?_) _)
noncomputable def Ya (c:ContractT) (a:ArenaT):Option (List Int):=
  (Option.bind (xI c a) fun r1=>(bif r1 then (Option.bind (mkN 8 (a.positions.length:Int)) fun k1=>(Option.bind (mkN 8 (a.positions.length:Int)) fun k2=>(Option.bind (mkN 24 (a.positions.length:Int)) fun k3=>(Option.bind (forR (σ:=(List Int)×(List Int)×(List (List Int))×(List Int)) (ρ:=Unit) (a.positions.length:Int) (fun i1 s1=>(Option.bind (Option.bind (ze a.positions (i1:Int)) fun e1=>(Option.bind (ze a.moves (i1:Int)) fun e2=>(Option.bind (zh k1 (i1:Int)) fun k4=>(Option.bind (s1.1[k4]?) fun e3=>(Option.bind (zh k2 (i1:Int)) fun k5=>(Option.bind (s1.2.1[k5]?) fun e4=>(Option.bind (ze a.moves (i1:Int)) fun e5=>(Option.bind (forR (σ:=(List (List Int))) (ρ:=Unit) (e5.length:Int) (fun i2 s2=>(Option.bind (ze e5 (i2:Int)) fun e6=>(Option.bind (wG s2 k3 e6.to (i1:Int)) fun v1=>some (.inl v1)))) s1.2.2.1) (Sum.elim (fun (s2:(List (List Int)))=>(Option.bind (Jz c e1.state a.party) fun r2=>(bif r2 then (Option.bind (zh k1 (i1:Int)) fun k6=>(Option.bind ((s1.1.set k4 (-1))[k6]?) fun e7=>(Option.bind (yA (i1:Int) s1.2.2.2 0) fun r3=>some (((s1.1.set k4 (-1)).set k6 0),(s1.2.1.set k5 (e2.length:Int)),s2,r3)))) else some ((s1.1.set k4 (-1)),(s1.2.1.set k5 (e2.length:Int)),s2,s1.2.2.2)))) (fun _=>none)))))))))) fun (v2:(List Int)×(List Int)×(List (List Int))×(List Int))=>some (.inl (v2.1,v2.2.1,v2.2.2.1,v2.2.2.2)))) ((List.replicate k1 0),(List.replicate k2 0),(List.replicate k3 []),[])) (Sum.elim (fun (s1:(List Int)×(List Int)×(List (List Int))×(List Int))=>(Option.bind (forR (σ:=(List Int)×(List Int)) (ρ:=Unit) (a.positions.length:Int) (fun i3 s3=>(Option.bind (Option.bind (ze a.positions (i3:Int)) fun e8=>(Option.bind (bif e8.own then (Option.bind (zh k2 (i3:Int)) fun k7=>(Option.bind (s1.2.1[k7]?) fun e9=>(bif (e9 == 0) then (Option.bind (zh k1 (i3:Int)) fun k8=>(Option.bind (s3.1[k8]?) fun e10=>some (e10 == (-1)))) else some false))) else some false) fun v3=>(bif v3 then (Option.bind (yB (i3:Int) 1 s3.1 k1 s3.2 0) fun r4=>some (r4.2,r4.1)) else some (s3.1,s3.2)))) fun (v4:(List Int)×(List Int))=>some (.inl (v4.1,v4.2)))) (s1.1,s1.2.2.2)) (Sum.elim (fun (s3:(List Int)×(List Int))=>(Option.bind (Option.bind (wi s3.2 0) fun r5=>(Option.bind (iterN (σ:=Int×Bool×(List Int)×(List Int)×(List Int)×Int) (ρ:=(List Int)) (fun s4=>(bif s4.2.1 then (Option.bind (zh k3 s4.1) fun k9=>(Option.bind (s1.2.2.1[k9]?) fun e11=>(Option.bind (forR (σ:=(List Int)×(List Int)×(List Int)) (ρ:=Unit) (e11.length:Int) (fun i5 s5=>(Option.bind (ze e11 (i5:Int)) fun e12=>(Option.bind (ZX e12 s4.1 s5.2.1 k2 s5.1 k1 a s5.2.2 s4.2.2.2.2.2) fun r6=>some (.inl (r6.2.1,r6.1,r6.2.2))))) (s4.2.2.1,s4.2.2.2.1,s4.2.2.2.2.1)) (Sum.elim (fun (s5:(List Int)×(List Int)×(List Int))=>(Option.bind (wi s5.2.2 s4.2.2.2.2.2) fun r7=>some (.inl (r7.1,r7.2.1,s5.1,s5.2.1,s5.2.2,r7.2.2)))) (fun _=>none))))) else some (.inr s4.2.2.1))) 40 (r5.1,r5.2.1,s3.1,s1.2.1,s3.2,r5.2.2)) (fun (y1:(List Int))=>some y1))) fun (v5:(List Int))=>(Option.bind (eqN k1 v5.length) fun g1=>some v5))) (fun _=>none)))) (fun _=>none)))))) else some []))
theorem zgU (c:ContractT) (a:ArenaT):Le (Ya c a) (ki c a):=by
  unfold Ya ki
  repeat' (first | with_reducible exact Le.refl _ | with_reducible refine Le.bind ?_ (fun _ => ?_) | with_reducible refine Le.cond _ ?_ ?_ | with_reducible refine Le.forR (fun _ _ => ?_) _ _ | with_reducible refine Le.iter (fun _ => ?_) _ _ | with_reducible refine Le.elim (fun _ => ?_) (fun _ => ?_) _)
noncomputable def JV (c:ContractT) (a:ArenaT):Option (List Bool):=
  (Option.bind (Ya c a) fun r1=>(Option.bind (mkN 1 (r1.length:Int)) fun k1=>(Option.bind (forR (σ:=(List Bool)) (ρ:=Unit) (r1.length:Int) (fun i1 s1=>(Option.bind (ze r1 (i1:Int)) fun e1=>(Option.bind (zh k1 (i1:Int)) fun k2=>(Option.bind (s1[k2]?) fun e2=>some (.inl (s1.set k2 (e1 == (-1)))))))) (List.replicate k1 false)) (Sum.elim (fun (s1:(List Bool))=>(Option.bind (eqN k1 s1.length) fun g1=>some s1)) (fun _=>none)))))
theorem Yb (c:ContractT) (a:ArenaT):Le (JV c a) (yC c a):=by
  unfold JV yC
  repeat' (first | with_reducible exact Le.refl _ | with_reducible exact zgU _ _ | with_reducible refine Le.bind ?_ (fun _ => ?_) | with_reducible refine Le.cond _ ?_ ?_ | with_reducible refine Le.forR (fun _ _ => ?_) _ _ | with_reducible refine Le.iter (fun _ => ?_) _ _ | with_reducible refine Le.elim (fun _ => ?_) (fun _ => ?_) _)
def ufB (n:Nat) (ab:List Int):Bool:=ab.length == 400&&((List.range n).all (fun i=>decide (0≤ab.getD i 0)&&decide (ab.getD i 0≤(i:Int)))&&decide (n≤400))
theorem zla {n:Nat} {ab:List Int} (h:ufB n ab=true):UF n ab:=by
  simp only [ufB,Bool.and_eq_true,beq_iff_eq,List.all_eq_true,List.mem_range,decide_eq_true_eq] at h
  exact ⟨h.1,fun i hi=>h.2.1 i hi,h.2.2⟩
noncomputable def QO (p1:Int) (p2:List Int):Option (Int×List Int):=bif decide (0≤p1)&&ufB (p1.toNat+1) p2 then jT (p1.toNat+1) p1 p2 else none
theorem zfw (p1:Int) (p2:List Int):Le (QO p1 p2) (xd p1 p2):=fun r h=>by
  unfold QO at h
  cases hb:(decide (0≤p1)&&ufB (p1.toNat+1) p2) with
  | false=>rw [hb] at h;cases h
  | true=>
    rw [hb,cond_true] at h
    simp only [Bool.and_eq_true,decide_eq_true_eq] at hb
    have e:p1=(p1.toNat:Int):=by omega
    rw [e,za9 (zla hb.2) (Nat.lt_succ_self _),←e]
    exact h
noncomputable def Vu (p1:Int) (p2:Int) (p3:List Int):Option ((List Int)):=
  (Option.bind (QO p1 p3) fun r1=>(Option.bind (QO p2 r1.2) fun r2=>(Option.bind (QO p1 r2.2) fun r3=>(Option.bind (QO p2 r3.2) fun r4=>(Option.bind (zh 400 (if r3.1 < r4.1 then r4.1 else r3.1)) fun k1=>(Option.bind (r4.2[k1]?) fun e1=>some (r4.2.set k1 (if r2.1 < r1.1 then r2.1 else r1.1))))))))
theorem zjV (p1:Int) (p2:Int) (p3:List Int):Le (Vu p1 p2 p3) (wv p1 p2 p3):=by
  unfold Vu wv
  repeat' (first | with_reducible exact Le.refl _ | with_reducible exact zfw _ _ | with_reducible refine Le.bind ?_ (fun _ => ?_) | with_reducible refine Le.cond _ ?_ ?_ | with_reducible refine Le.forR (fun _ _ => ?_) _ _ | with_reducible refine Le.iter (fun _ => ?_) _ _ | with_reducible refine Le.elim (fun _ => ?_) (fun _ => ?_) _)
noncomputable def yO (i:Nat) (s:List (List Int)×List (Int×Int)×List Int):Option ((List (List Int)×List (Int×Int)×List Int) ⊕ Unit):=
  Option.bind (QO (i:Int) s.2.2) fun r=>
    bif r.1 == (i:Int) then some (.inl (s.1++[[(i:Int)]],zQ (i:Int) (s.1.length:Int) s.2.1,r.2))
    else Option.bind (ze s.1 ((zp r.1 s.2.1).getD 0)) fun l=>some (.inl (s.1.set ((zp r.1 s.2.1).getD 0).toNat (l++[(i:Int)]),s.2.1,r.2))
theorem Yc (i:Nat) (s:List (List Int)×List (Int×Int)×List Int):Le (yO i s) (xj i s):=by
  unfold yO xj
  exact Le.bind (zfw _ _) fun _=>Le.refl _
noncomputable def Wf (n:Int) (above:List Int):Option (List (List Int)×List Int):=
  bif decide (n≤1000000000000) then Option.bind (forR (σ:=List (List Int)×List (Int×Int)×List Int) (ρ:=Unit) n yO ([],[],above)) (Sum.elim (fun s=>some (s.1,s.2.2)) (fun _=>none)) else none
theorem zfx (n:Int) (above:List Int):Le (Wf n above) (xH n above):=by
  unfold Wf xH
  exact Le.cond _ (Le.bind (Le.forR Yc _ _) fun _=>Le.refl _) (Le.refl _)
noncomputable def vj (c:ContractT):Option (List (List Int)):=
  (Option.bind (jw c) fun r1=>(bif (r1.1 == 0) then (Option.bind (forR (σ:=(List Int)) (ρ:=Unit) (c.clauses.length:Int) (fun i1 s1=>(Option.bind (zh 400 (i1:Int)) fun k1=>(Option.bind (s1[k1]?) fun e1=>some (.inl (s1.set k1 (i1:Int)))))) (List.replicate 400 0)) (Sum.elim (fun (s1:(List Int))=>(Option.bind (Xe c.acts) fun r2=>(Option.bind (forR (σ:=(List Int)×(List (Int×Int))) (ρ:=Unit) (c.clauses.length:Int) (fun i2 s2=>(Option.bind (ze c.clauses (i2:Int)) fun e2=>(Option.bind (bif r2 then (Option.bind (Vu 0 (i2:Int) s2.1) fun r3=>some r3) else some s2.1) fun (v1:(List Int))=>(Option.bind (forR (σ:=(List Int)) (ρ:=Unit) (e2.start.length:Int) (fun i3 s3=>(Option.bind (ze e2.start (i3:Int)) fun e3=>(Option.bind (Vu (i2:Int) e3.clause s3) fun r4=>some (.inl r4)))) v1) (Sum.elim (fun (s3:(List Int))=>(Option.bind (yz e2) fun r5=>(Option.bind (forR (σ:=(List Int)×(List (Int×Int))) (ρ:=Unit) (r5.length:Int) (fun i4 s4=>(Option.bind (Option.bind (ze r5 (i4:Int)) fun e4=>(bif (zp e4 s4.2).isSome then (Option.bind (Vu ((zp e4 s4.2).getD 0) (i2:Int) s4.1) fun r6=>some (r6,s4.2)) else some (s4.1,(zQ e4 (i2:Int) s4.2)))) fun (v2:(List Int)×(List (Int×Int)))=>some (.inl (v2.1,v2.2)))) (s3,s2.2)) (Sum.elim (fun (s4:(List Int)×(List (Int×Int)))=>some (.inl (s4.1,s4.2))) (fun _=>none))))) (fun _=>none)))))) (s1,[])) (Sum.elim (fun (s2:(List Int)×(List (Int×Int)))=>(Option.bind (Wf (c.clauses.length:Int) s2.1) fun r7=>some r7.1)) (fun _=>none))))) (fun _=>none))) else some []))
theorem QU (c:ContractT):Le (vj c) (qy c):=by
  unfold vj qy
  repeat' (first | with_reducible exact Le.refl _ | with_reducible exact zjV _ _ _ | with_reducible exact zfx _ _ | with_reducible refine Le.bind ?_ (fun _ => ?_) | with_reducible refine Le.cond _ ?_ ?_ | with_reducible refine Le.forR (fun _ _ => ?_) _ _ | with_reducible refine Le.iter (fun _ => ?_) _ _ | with_reducible refine Le.elim (fun _ => ?_) (fun _ => ?_) _)
noncomputable def Vv (c:ContractT) (clauses:List Int):Option (ContractT×Int):=
  (Option.bind (jw c) fun r1=>(bif (r1.1 == 0) then (Option.bind (forR (σ:=Int) (ρ:=Unit) (clauses.length:Int) (fun i1 s1=>(Option.bind (ze clauses (i1:Int)) fun e1=>(Option.bind (bif decide (e1≤s1) then some true else some (decide ((c.clauses.length:Int)≤e1))) fun v1=>(bif v1 then some (.inr ()) else some (.inl e1))))) (-1)) (Sum.elim (fun (s1:Int)=>(Option.bind (zu 8 c.holders) fun e2=>(Option.bind (zu 48 c.units) fun e3=>(Option.bind (zu 56 c.acts) fun e4=>(Option.bind (zu 8 c.off) fun e5=>(Option.bind (mkN 136 (clauses.length:Int)) fun k1=>(Option.bind (forR (σ:=(List ClauseT)) (ρ:=Unit) (clauses.length:Int) (fun i2 s2=>(Option.bind (ze clauses (i2:Int)) fun e6=>(Option.bind (ze c.clauses e6) fun e7=>(Option.bind (zu 16 e7.start) fun e8=>(Option.bind (forR (σ:=(List CondT)) (ρ:=Unit) (e8.length:Int) (fun i3 s3=>(Option.bind (zh e8.length (i3:Int)) fun k2=>(Option.bind (s3[k2]?) fun e9=>(Option.bind (jV clauses e9.clause) fun r2=>(bif r2.2 then (Option.bind (zh e8.length (i3:Int)) fun k3=>(Option.bind (s3[k3]?) fun e10=>some (.inl (s3.set k3 ({clause:=r2.1,is:=e10.is}:CondT))))) else some (.inr ())))))) e8) (Sum.elim (fun (s3:(List CondT))=>(Option.bind (zh k1 (i2:Int)) fun k4=>(Option.bind (s2[k4]?) fun e11=>some (.inl (s2.set k4 ({e7 with start:=List.take e8.length s3}:ClauseT)))))) (fun (y2:Unit)=>some (.inr ())))))))) (List.replicate k1 ({kind:=0,role:=0,act:=0,need:=0,start:=[],after:=0,grace:=0,business:=false,final:=false,pause:=0,resume:=0,value:=({num:=0,den:=0}:Ratio),unit:=0,to:=0,waived:=false}:ClauseT))) (Sum.elim (fun (s2:(List ClauseT))=>(Option.bind (eqN k1 s2.length) fun g1=>some (({parties:=c.parties,holders:=e2,units:=e3,acts:=e4,clauses:=s2,days:=c.days,off:=e5}:ContractT),0))) (fun (y3:Unit)=>some (({parties:=0,holders:=[],units:=[],acts:=[],clauses:=[],days:=0,off:=[]}:ContractT),1)))))))))) (fun (y1:Unit)=>some (({parties:=0,holders:=[],units:=[],acts:=[],clauses:=[],days:=0,off:=[]}:ContractT),1)))) else some (({parties:=0,holders:=[],units:=[],acts:=[],clauses:=[],days:=0,off:=[]}:ContractT),1)))
theorem zcq (c:ContractT) (clauses:List Int):Le (Vv c clauses) (wh c clauses):=by
  unfold Vv wh
  repeat' (first | with_reducible exact Le.refl _ | with_reducible exact vi _ _ | with_reducible refine Le.bind ?_ (fun _ => ?_) | with_reducible refine Le.cond _ ?_ ?_ | with_reducible refine Le.forR (fun _ _ => ?_) _ _ | with_reducible refine Le.iter (fun _ => ?_) _ _ | with_reducible refine Le.elim (fun _ => ?_) (fun _ => ?_) _)
noncomputable def zbp (c:ContractT) (a:ArenaT) (safe:List Bool):Option (Int):=
  (Option.bind (α:=Unit ⊕ Int) (Option.bind (iterN (σ:=Int×Int) (ρ:=Unit ⊕ Int) (fun s1=>(Option.bind (ze a.positions s1.2) fun e1=>(bif decide (e1.state.day < c.days) then (Option.bind (yD a s1.2 (-2)) fun r1=>(Option.bind (yD a r1.1 (-1)) fun r2=>(Option.bind (ze safe r2.1) fun e2=>(bif e2 then some (.inl ((IntKind.i64.wrap (s1.1+1)),r2.1)) else some (.inr (.inr s1.1)))))) else some (.inr (.inl ()))))) 40 (0,0)) (Sum.elim (fun (y1:Unit)=>some (.inl ())) (fun (y2:Int)=>some (.inr y2)))) (Sum.elim (fun (v1:Unit)=>some (-1)) (fun (y3:Int)=>some y3)))
theorem zie (c:ContractT) (a:ArenaT) (safe:List Bool):Le (zbp c a safe) (Vc c a safe):=by
  unfold zbp Vc
  repeat' (first | with_reducible exact Le.refl _ | with_reducible refine Le.bind ?_ (fun _ => ?_) | with_reducible refine Le.cond _ ?_ ?_ | with_reducible refine Le.forR (fun _ _ => ?_) _ _ | with_reducible refine Le.iter (fun _ => ?_) _ _ | with_reducible refine Le.elim (fun _ => ?_) (fun _ => ?_) _)
noncomputable def Wg (c:ContractT) (party:Int) (s:StateT):Option (AdviceT×Int):=
  (Option.bind (JU c party ({state:=s,own:=true}:PosT)) fun r1=>(bif (r1.2 == 0) then (Option.bind (JV c r1.1) fun r2=>(Option.bind (ze r2 0) fun e1=>(bif e1 then (Option.bind (JA r1.1 r2) fun r3=>(Option.bind (ze r3 0) fun e2=>(Option.bind (zbp c r1.1 r2) fun r4=>some (({safe:=true,move:=e2,wait:=r4}:AdviceT),0)))) else some (({safe:=false,move:=(-2),wait:=0}:AdviceT),0)))) else some (({safe:=false,move:=0,wait:=0}:AdviceT),r1.2)))
theorem zfy (c:ContractT) (party:Int) (s:StateT):Le (Wg c party s) (QG c party s):=by
  unfold Wg QG
  repeat' (first | with_reducible exact Le.refl _ | with_reducible exact V9 _ _ _ | with_reducible exact Yb _ _ | with_reducible exact zie _ _ _ | with_reducible refine Le.bind ?_ (fun _ => ?_) | with_reducible refine Le.cond _ ?_ ?_ | with_reducible refine Le.forR (fun _ _ => ?_) _ _ | with_reducible refine Le.iter (fun _ => ?_) _ _ | with_reducible refine Le.elim (fun _ => ?_) (fun _ => ?_) _)
noncomputable def zbq (p1:List Int) (p2:ContractT) (p3:StateT) (p4:Bool) (p5:Int) (p6:Bool) (p7:Int) (p8:Int) (p9:Bool):Option (Int×Bool×Int×Int×Bool):=
  (Option.bind (JU p2 p5 ({state:=p3,own:=p4}:PosT)) fun r1=>(bif (r1.2 == 0) then (Option.bind (JV p2 r1.1) fun r2=>(Option.bind (Wg p2 p5 p3) fun r3=>(bif (r3.2 == 0) then (Option.bind (bif p6 then (Option.bind (ze r2 0) fun e1=>some e1) else some false) fun v1=>(Option.bind (bif p9 then some (r3.1.move == (-2)) else some false) fun v2=>(Option.bind (ze r1.1.moves 0) fun e2=>(Option.bind (forR (σ:=Int) (ρ:=Unit) (e2.length:Int) (fun i1 s1=>(Option.bind (Option.bind (ze e2 (i1:Int)) fun e3=>(Option.bind (bif (e3.step == (-2)) then some false else (Option.bind (ze r2 e3.to) fun e4=>(bif e4 then (bif (s1 == (-2)) then some true else some (decide (e3.step < s1))) else some false))) fun v3=>(bif v3 then some e3.step else some s1))) fun (v4:Int)=>some (.inl v4))) p7) (Sum.elim (fun (s1:Int)=>(Option.bind (Option.bind (bif decide (0≤r3.1.wait) then (bif decide (p8 < 0) then some true else some (decide (r3.1.wait < p8))) else some false) fun v5=>(bif v5 then some r3.1.wait else some p8)) fun (v6:Int)=>some (0,v1,s1,v6,v2))) (fun _=>none)))))) else some (r3.2,p6,p7,p8,p9)))) else some (r1.2,p6,p7,p8,p9)))
theorem zif (p1:List Int) (p2:ContractT) (p3:StateT) (p4:Bool) (p5:Int) (p6:Bool) (p7:Int) (p8:Int) (p9:Bool):Le (zbq p1 p2 p3 p4 p5 p6 p7 p8 p9) (JB p1 p2 p3 p4 p5 p6 p7 p8 p9):=by
  unfold zbq JB
  repeat' (first | with_reducible exact Le.refl _ | with_reducible exact V9 _ _ _ | with_reducible exact Yb _ _ | with_reducible exact zfy _ _ _ | with_reducible refine Le.bind ?_ (fun _ => ?_) | with_reducible refine Le.cond _ ?_ ?_ | with_reducible refine Le.forR (fun _ _ => ?_) _ _ | with_reducible refine Le.iter (fun _ => ?_) _ _ | with_reducible refine Le.elim (fun _ => ?_) (fun _ => ?_) _)
noncomputable def zbr (p1:ContractT) (p2:Int) (p3:StateT) (p4:Bool) (p5:Int) (p6:Bool) (p7:Int) (p8:Int) (p9:Bool):Option (Int×Bool×Int×Int×Bool):=
  (Option.bind (bif decide (p2 < 0) then some true else (bif decide (p1.parties≤p2) then some true else (Option.bind (qT p1 p3) fun r1=>some (!r1)))) fun v1=>(bif v1 then some (1,p6,p7,p8,p9) else (Option.bind (Option.bind (vj p1) fun r2=>(Option.bind (forR (σ:=Int×Bool×Int×Int×Bool) (ρ:=Int×Bool×Int×Int×Bool) (r2.length:Int) (fun i1 s1=>(Option.bind (ze r2 (i1:Int)) fun e1=>(Option.bind (Vv p1 e1) fun r3=>(Option.bind (bif (r3.2 == 0) then (Option.bind (jd e1 p3) fun r4=>(Option.bind (zbq e1 r3.1 r4 p4 p5 s1.2.1 s1.2.2.1 s1.2.2.2.1 s1.2.2.2.2) fun r5=>some (r5.1,r5.2.1,r5.2.2.1,r5.2.2.2.1,r5.2.2.2.2))) else some (r3.2,s1.2.1,s1.2.2.1,s1.2.2.2.1,s1.2.2.2.2)) fun (v2:Int×Bool×Int×Int×Bool)=>(bif (v2.1 == 0) then some (.inl (v2.1,v2.2.1,v2.2.2.1,v2.2.2.2.1,v2.2.2.2.2)) else some (.inr (v2.1,v2.2.1,v2.2.2.1,v2.2.2.2.1,v2.2.2.2.2))))))) (0,p6,p7,p8,p9)) (Sum.elim (fun (s1:Int×Bool×Int×Int×Bool)=>some (s1.1,s1.2.1,s1.2.2.1,s1.2.2.2.1,s1.2.2.2.2)) (fun (y1:Int×Bool×Int×Int×Bool)=>some (y1.1,y1.2.1,y1.2.2.1,y1.2.2.2.1,y1.2.2.2.2))))) fun (v3:Int×Bool×Int×Int×Bool)=>some (v3.1,v3.2.1,v3.2.2.1,v3.2.2.2.1,v3.2.2.2.2))))
theorem zig (p1:ContractT) (p2:Int) (p3:StateT) (p4:Bool) (p5:Int) (p6:Bool) (p7:Int) (p8:Int) (p9:Bool):Le (zbr p1 p2 p3 p4 p5 p6 p7 p8 p9) (JC p1 p2 p3 p4 p5 p6 p7 p8 p9):=by
  unfold zbr JC
  repeat' (first | with_reducible exact Le.refl _ | with_reducible exact QU _ | with_reducible exact zcq _ _ | with_reducible exact zif _ _ _ _ _ _ _ _ _ | with_reducible refine Le.bind ?_ (fun _ => ?_) | with_reducible refine Le.cond _ ?_ ?_ | with_reducible refine Le.forR (fun _ _ => ?_) _ _ | with_reducible refine Le.iter (fun _ => ?_) _ _ | with_reducible refine Le.elim (fun _ => ?_) (fun _ => ?_) _)
noncomputable def Zy (c:ContractT) (party:Int) (s:StateT):Option (AdviceT×Int):=
  (Option.bind (zbr c party s true party true (-2) (-1) true) fun r1=>(bif (r1.1 == 0) then (bif r1.2.1 then (Option.bind (bif r1.2.2.2.2 then some (-2) else some r1.2.2.1) fun (v1:Int)=>some (({safe:=r1.2.1,move:=v1,wait:=r1.2.2.2.1}:AdviceT),0)) else some (({safe:=false,move:=(-2),wait:=0}:AdviceT),0)) else some (({safe:=false,move:=0,wait:=0}:AdviceT),r1.1)))
theorem zdL (c:ContractT) (party:Int) (s:StateT):Le (Zy c party s) (yE c party s):=by
  unfold Zy yE
  repeat' (first | with_reducible exact Le.refl _ | with_reducible exact zig _ _ _ _ _ _ _ _ _ | with_reducible refine Le.bind ?_ (fun _ => ?_) | with_reducible refine Le.cond _ ?_ ?_ | with_reducible refine Le.forR (fun _ _ => ?_) _ _ | with_reducible refine Le.iter (fun _ => ?_) _ _ | with_reducible refine Le.elim (fun _ => ?_) (fun _ => ?_) _)
noncomputable def zbs (p1:List Int) (p2:ContractT) (p3:StateT) (p4:Bool) (p5:Int) (p6:List (List Int)):Option (Int×(List (List Int))):=
  (Option.bind (JU p2 p5 ({state:=p3,own:=p4}:PosT)) fun r1=>(Option.bind (Option.bind (bif (r1.2 == 0) then (Option.bind (JV p2 r1.1) fun r2=>(Option.bind (ze r2 0) fun e1=>some (!e1))) else some false) fun v1=>(bif v1 then (Option.bind (qt (α:=List Int) 24 p6 [p1]) fun e2=>some e2) else some p6)) fun (v2:(List (List Int)))=>some (r1.2,v2)))
theorem zih (p1:List Int) (p2:ContractT) (p3:StateT) (p4:Bool) (p5:Int) (p6:List (List Int)):Le (zbs p1 p2 p3 p4 p5 p6) (ZY p1 p2 p3 p4 p5 p6):=by
  unfold zbs ZY
  repeat' (first | with_reducible exact Le.refl _ | with_reducible exact V9 _ _ _ | with_reducible exact Yb _ _ | with_reducible refine Le.bind ?_ (fun _ => ?_) | with_reducible refine Le.cond _ ?_ ?_ | with_reducible refine Le.forR (fun _ _ => ?_) _ _ | with_reducible refine Le.iter (fun _ => ?_) _ _ | with_reducible refine Le.elim (fun _ => ?_) (fun _ => ?_) _)
noncomputable def zbt (p1:ContractT) (p2:Int) (p3:PosT) (p4:Int) (p5:List (List Int)):Option (Int×(List (List Int))):=
  (Option.bind (bif decide (p2 < 0) then some true else (bif decide (p1.parties≤p2) then some true else (Option.bind (qT p1 p3.state) fun r1=>some (!r1)))) fun v1=>(bif v1 then some (1,p5) else (Option.bind (Option.bind (vj p1) fun r2=>(Option.bind (forR (σ:=Int×(List (List Int))) (ρ:=Int×(List (List Int))) (r2.length:Int) (fun i1 s1=>(Option.bind (ze r2 (i1:Int)) fun e1=>(Option.bind (Vv p1 e1) fun r3=>(Option.bind (bif (r3.2 == 0) then (Option.bind (jd e1 p3.state) fun r4=>(Option.bind (zbs e1 r3.1 r4 p3.own p4 s1.2) fun r5=>some (r5.1,r5.2))) else some (r3.2,s1.2)) fun (v2:Int×(List (List Int)))=>(bif (v2.1 == 0) then some (.inl (v2.1,v2.2)) else some (.inr (v2.1,v2.2))))))) (0,p5)) (Sum.elim (fun (s1:Int×(List (List Int)))=>some (s1.1,s1.2)) (fun (y1:Int×(List (List Int)))=>some (y1.1,y1.2))))) fun (v3:Int×(List (List Int)))=>some (v3.1,v3.2))))
theorem zii (p1:ContractT) (p2:Int) (p3:PosT) (p4:Int) (p5:List (List Int)):Le (zbt p1 p2 p3 p4 p5) (kM p1 p2 p3 p4 p5):=by
  unfold zbt kM
  repeat' (first | with_reducible exact Le.refl _ | with_reducible exact QU _ | with_reducible exact zcq _ _ | with_reducible exact zih _ _ _ _ _ _ | with_reducible refine Le.bind ?_ (fun _ => ?_) | with_reducible refine Le.cond _ ?_ ?_ | with_reducible refine Le.forR (fun _ _ => ?_) _ _ | with_reducible refine Le.iter (fun _ => ?_) _ _ | with_reducible refine Le.elim (fun _ => ?_) (fun _ => ?_) _)
noncomputable def Vw (c:ContractT) (party:Int) (p:PosT):Option ((List (List Int))×Int):=
  (Option.bind (zbt c party p party []) fun r1=>(bif (r1.1 == 0) then some (r1.2,0) else some ([],r1.1)))
theorem zcr (c:ContractT) (party:Int) (p:PosT):Le (Vw c party p) (xJ c party p):=by
  unfold Vw xJ
  repeat' (first | with_reducible exact Le.refl _ | with_reducible exact zii _ _ _ _ _ | with_reducible refine Le.bind ?_ (fun _ => ?_) | with_reducible refine Le.cond _ ?_ ?_ | with_reducible refine Le.forR (fun _ _ => ?_) _ _ | with_reducible refine Le.iter (fun _ => ?_) _ _ | with_reducible refine Le.elim (fun _ => ?_) (fun _ => ?_) _)
noncomputable def Qa (c:ContractT) (party:Int) (p:PosT):Option (Bool×Int):=
  (Option.bind (Vw c party p) fun r1=>(Option.bind (bif (r1.2 == 0) then some ((r1.1.length:Int) == 0) else some false) fun v1=>some (v1,r1.2)))
theorem zgV (c:ContractT) (party:Int) (p:PosT):Le (Qa c party p) (xp c party p):=by
  unfold Qa xp
  repeat' (first | with_reducible exact Le.refl _ | with_reducible exact zcr _ _ _ | with_reducible refine Le.bind ?_ (fun _ => ?_) | with_reducible refine Le.cond _ ?_ ?_ | with_reducible refine Le.forR (fun _ _ => ?_) _ _ | with_reducible refine Le.iter (fun _ => ?_) _ _ | with_reducible refine Le.elim (fun _ => ?_) (fun _ => ?_) _)
noncomputable def zdM (p1:ContractT) (p2:List Int):Option (Int×(List Int)×(List UnitT)×(List ActT)×(List ClauseT)×Int×(List Int)×Int):=
  (Option.bind (jw p1) fun r1=>(bif (r1.1 == 0) then (Option.bind (forR (σ:=Int) (ρ:=Unit) (p2.length:Int) (fun i1 s1=>(Option.bind (zh p2.length (i1:Int)) fun k1=>(Option.bind (p2[k1]?) fun e1=>(Option.bind (bif decide (e1≤s1) then some true else some (decide ((p1.clauses.length:Int)≤e1))) fun v1=>(bif v1 then some (.inr ()) else some (.inl e1)))))) (-1)) (Sum.elim (fun (s1:Int)=>(Option.bind (zu 8 p1.holders) fun e2=>(Option.bind (zu 48 p1.units) fun e3=>(Option.bind (zu 56 p1.acts) fun e4=>(Option.bind (zu 8 p1.off) fun e5=>(Option.bind (mkN 136 (p2.length:Int)) fun k2=>(Option.bind (forR (σ:=(List ClauseT)) (ρ:=Unit) (p2.length:Int) (fun i2 s2=>(Option.bind (zh p2.length (i2:Int)) fun k3=>(Option.bind (p2[k3]?) fun e6=>(Option.bind (ze p1.clauses e6) fun e7=>(Option.bind (zu 16 e7.start) fun e8=>(Option.bind (forR (σ:=(List CondT)) (ρ:=Unit) (e8.length:Int) (fun i3 s3=>(Option.bind (zh e8.length (i3:Int)) fun k4=>(Option.bind (s3[k4]?) fun e9=>(Option.bind (jV p2 e9.clause) fun r2=>(bif r2.2 then (Option.bind (zh e8.length (i3:Int)) fun k5=>(Option.bind (s3[k5]?) fun e10=>some (.inl (s3.set k5 ({clause:=r2.1,is:=e10.is}:CondT))))) else some (.inr ())))))) e8) (Sum.elim (fun (s3:(List CondT))=>(Option.bind (zh k2 (i2:Int)) fun k6=>(Option.bind (s2[k6]?) fun e11=>some (.inl (s2.set k6 ({e7 with start:=List.take e8.length s3}:ClauseT)))))) (fun (y2:Unit)=>some (.inr ()))))))))) (List.replicate k2 ({kind:=0,role:=0,act:=0,need:=0,start:=[],after:=0,grace:=0,business:=false,final:=false,pause:=0,resume:=0,value:=({num:=0,den:=0}:Ratio),unit:=0,to:=0,waived:=false}:ClauseT))) (Sum.elim (fun (s2:(List ClauseT))=>some (p1.parties,e2,e3,e4,List.take k2 s2,p1.days,e5,0)) (fun (y3:Unit)=>some (0,[],[],[],[],0,[],1)))))))))) (fun (y1:Unit)=>some (0,[],[],[],[],0,[],1)))) else some (0,[],[],[],[],0,[],1)))
theorem zjW (p1:ContractT) (p2:List Int):Le (zdM p1 p2) (Vd p1 p2):=by
  unfold zdM Vd
  repeat' (first | with_reducible exact Le.refl _ | with_reducible exact vi _ _ | with_reducible refine Le.bind ?_ (fun _ => ?_) | with_reducible refine Le.cond _ ?_ ?_ | with_reducible refine Le.forR (fun _ _ => ?_) _ _ | with_reducible refine Le.iter (fun _ => ?_) _ _ | with_reducible refine Le.elim (fun _ => ?_) (fun _ => ?_) _)
noncomputable def Vx (p1:ContractT) (p2:List Int) (p3:StateT):Option (Int×(List Int)×(List Bool)×(List MarkT)×Int):=
  (Option.bind (qT p1 p3) fun r1=>(bif r1 then (Option.bind (zdM p1 p2) fun r2=>(bif (r2.2.2.2.2.2.2.2 == 0) then (Option.bind (Ve p2 p3) fun r3=>some (p3.day,r3.1,r3.2.1,r3.2.2,0)) else some (0,[],[],[],1))) else some (0,[],[],[],1)))
theorem zij (p1:ContractT) (p2:List Int) (p3:StateT):Le (Vx p1 p2 p3) (kN p1 p2 p3):=by
  unfold Vx kN
  repeat' (first | with_reducible exact Le.refl _ | with_reducible exact zjW _ _ | with_reducible refine Le.bind ?_ (fun _ => ?_) | with_reducible refine Le.cond _ ?_ ?_ | with_reducible refine Le.forR (fun _ _ => ?_) _ _ | with_reducible refine Le.iter (fun _ => ?_) _ _ | with_reducible refine Le.elim (fun _ => ?_) (fun _ => ?_) _)
noncomputable def zbu:Option (Bool):=
  (Option.bind (ZD) fun r1=>(Option.bind (V8 r1) fun r2=>(Option.bind (Z9 r1 r2.1 0) fun r3=>(Option.bind (Z9 r1 r2.1 (-1)) fun r4=>(Option.bind (Zy r1 0 r2.1) fun r5=>(Option.bind (Zy r1 0 r3.1) fun r6=>(Option.bind (Vw r1 0 ({state:=r4.1,own:=true}:PosT)) fun r7=>(Option.bind (Qa r1 0 ({state:=r2.1,own:=true}:PosT)) fun r8=>(Option.bind (Qa r1 0 ({state:=r2.1,own:=false}:PosT)) fun r9=>(Option.bind (Vx r1 [1] r2.1) fun r10=>(Option.bind (Vx r1 [2] r2.1) fun r11=>(Option.bind (Qa r1 2 ({state:=r2.1,own:=false}:PosT)) fun r12=>(Option.bind (bif (r2.2 == 0) then (bif (r3.2 == 0) then (bif (r4.2 == 0) then (bif (r5.2 == 0) then (bif ((r5.1.safe == true)&&((r5.1.move == 0)&&((r5.1.wait == 0)&&true))) then (bif (r6.2 == 0) then (bif ((r6.1.safe == true)&&((r6.1.move == 1)&&((r6.1.wait == 0)&&true))) then (bif (r7.2 == 0) then (Option.bind (Vf r7.1 ([[1]])) fun r13=>some r13) else some false) else some false) else some false) else some false) else some false) else some false) else some false) else some false) fun v1=>(Option.bind (bif v1 then (bif (r8.2 == 0) then (bif r8.1 then (bif (r9.2 == 0) then (bif r9.1 then some false else (bif (r10.2.2.2.2 == 0) then (bif ((r10.2.2.2.1.length:Int) == 1) then (Option.bind (ze r10.2.2.2.1 0) fun e1=>(bif (e1.left == 1) then (bif (r11.2.2.2.2 == 1) then some (r12.2 == 1) else some false) else some false)) else some false) else some false)) else some false) else some false) else some false) else some false) fun v2=>some v2))))))))))))))
theorem zfz:Le zbu kP:=by
  unfold zbu kP
  repeat' (first | with_reducible exact Le.refl _ | with_reducible exact zgT _ | with_reducible exact zcp _ _ _ | with_reducible exact zdL _ _ _ | with_reducible exact zcr _ _ _ | with_reducible exact zgV _ _ _ | with_reducible exact zij _ _ _ | with_reducible refine Le.bind ?_ (fun _ => ?_) | with_reducible refine Le.cond _ ?_ ?_ | with_reducible refine Le.elim (fun _ => ?_) (fun _ => ?_) _)
theorem zgW:kP=some true:=zfz true (by kernel_rfl)
end Go.Proofs.YtjkljacdbljkpaaGreatDoor
namespace Go.Proofs.YtjkljacdbljkpaaGreatDoor
open Go.RowKit
set_option linter.unusedSimpArgs false
set_option linter.unusedVariables false
set_option maxRecDepth 100000
theorem zdN {c:ContractT} (hc:c.Ok) {s:StateT} {P:List Int} {ks:List ClauseT} (hl:P.length≤400) (h:PartOk c P ks):yU c P s=some (bif vsB c s then (rs P s,0) else (noS,1)):=by
  unfold yU
  rw [vF c _ hc]
  simp only [Option.bind_some]
  cases hv:vsB c s with
  | false=>rfl
  | true=>
    simp only [cond_true]
    rw [V5 hc hl h]
    simp only [Option.bind_some]
    rw [JS hc (zhi hv) h.pos.rng hl]
    rfl
theorem zjX (a b:List Int) (ha:a.length < 4611686018427387904):kO a b=some (a == b):=by
  unfold kO
  rw [Xm]
  by_cases hl:a.length=b.length
  · rw [decide_eq_true hl,cond_true]
    rw [Xl a b hl ha (fun i h1 h2=>by
      simp only [zO,List.getElem?_eq_getElem h1,List.getElem?_eq_getElem h2,Option.bind_some]
      cases (a[i] == b[i])<;>rfl)]
    simp only [Option.bind_some]
    cases (a == b)<;>rfl
  · rw [decide_eq_false hl,cond_false]
    congr 1
    symm
    rw [beq_eq_false_iff_ne]
    intro e
    exact hl (by rw [e])
theorem zbv {n:Nat} {ρ:Nat→Nat} (R:RootFn n ρ):(qc ρ n).Nodup:=by
  unfold qc
  rw [List.nodup_iff_pairwise_ne,List.pairwise_map]
  refine (zdy ρ n).imp_of_mem fun {a b} ha hb hlt e => ?_
  rw [ve] at ha hb
  have h:(a:Int)∈xt ρ a n:=jN.2 ⟨by omega,by omega,by simpa using ha.2⟩
  rw [e] at h
  obtain ⟨_,_,h3⟩:=jN.1 h
  simp only [Int.toNat_natCast] at h3
  rw [ha.2] at h3
  omega
theorem zbW {α:Type} (f:α→Bool) (l:List α) (hn:l.Nodup) {i:Nat} (hi:i < l.length) :
    (f l[i]=true→(l.filter f)[((l.take i).filter f).length]?=some l[i])∧(f l[i]=false→(l.filter f)[((l.take i).filter f).length]?≠some l[i]):=by
  have e:l.filter f=(l.take i).filter f++(l.drop i).filter f:=by rw [←List.filter_append,List.take_append_drop]
  have ed:l.drop i=l[i]::l.drop (i+1):=List.drop_eq_getElem_cons hi
  rw [e,List.getElem?_append_right (Nat.le_refl _),Nat.sub_self]
  constructor
  · intro h
    rw [ed,List.filter_cons_of_pos h];rfl
  · intro h hc
    have hm:=List.mem_of_getElem? hc
    have:=(List.mem_filter.1 hm).2
    rw [h] at this;cases this
theorem Kk (c:ContractT) (party:Int) (p:PosT) (hc:ContractT.Ok c) (hparty:InK .i64 party) (hp:PosT.Ok p):yM c party p=some true:=by
  refine Ret.eq ?_
  unfold yM
  refine Ret.bindE zgW ?_
  refine Ret.bindE (zjS hc _) ?_
  refine Ret.ite (fun _ => ?_) (fun _=>Ret.some rfl)
  cases hpl:xY c party p.state with
  | false=>
    refine Ret.bindE (zbm hc hpl) ?_
    refine Ret.bindE (We (zbm hc hpl)) ?_
    exact Ret.some rfl
  | true=>
    obtain ⟨h0,h1,hv⟩:=xK.1 hpl
    obtain ⟨ρ,R,hC⟩:=zco hc hv.cv
    have sm:=qu (hc.off.lt (by omega)) hv.cv
    have hcl:=sm.clauses
    have hpn:=Y6 (c:=c) (ρ:=ρ)
    obtain ⟨⟨l,e2⟩,hl,hlr⟩:=zbl hc hpl R hC
    refine Ret.bindE hl ?_
    refine Ret.bindE (We hl) ?_
    rcases hlr with ⟨k1,k2,_⟩ | ⟨k1,k2,k3⟩
    · simp only at k1 k2
      subst k1 k2
      exact Ret.some rfl
    simp only at k1 k2
    subst k1
    refine Ret.bindE (v:=false) ?_ ?_
    · simp
    refine Ret.ite (fun h=>by cases h) (fun _ => ?_)
    refine Ret.ite (fun _ => ?_) (fun h=>by cases h)
    refine Ret.bindE hC ?_
    have hll:l.length≤400:=by
      rw [k2]
      have:=List.length_filter_le (fun P=>!qj c party p P) (qc ρ c.clauses.length)
      omega
    have hnd:=zbv R.fn
    have hat:=fun i (hi:i < (qc ρ c.clauses.length).length)=>Wd (c:=c) (ρ:=ρ) hi
    generalize hL:qc ρ c.clauses.length=L at k2 hpn hnd hat ⊢
    refine Ret.bind (P:=fun o:Int ⊕ Unit=>o=.inl (l.length:Int)) (Ret.forL (fun i s=>s=(((L.take i).filter (fun P=>!qj c party p P)).length:Int)) (by omega) (by simp) ?_ (fun s hs=>by rw [hs,List.take_length,k2])) ?_
    · rintro i s hi rfl
      obtain ⟨r,hr,er,ep⟩:=hat i hi
      obtain ⟨ks,hks⟩:=Z7 hc hv.cv R r
      obtain ⟨a,A,hfr⟩:=k3 r ks hr er hks
      rw [←ep] at hks A hfr
      have hPl:L[i].length≤400:=by rw [ep];have:=V4 (c:=c) (ρ:=ρ) r;omega
      have eI:=zJ (List.getElem?_eq_getElem hi)
      obtain ⟨n1,n2⟩:=zbW (fun P=>!qj c party p P) L hnd hi
      rw [←k2] at n1 n2
      have hft:=XL (fun P=>!qj c party p P) L hi
      have hle:((L.take i).filter (fun P=>!qj c party p P)).length≤400:=by
        have h1:=List.length_filter_le (fun P=>!qj c party p P) (L.take i)
        rw [List.length_take] at h1
        omega
      generalize hk:((L.take i).filter (fun P=>!qj c party p P)).length=k at n1 n2 hle ⊢
      refine Ret.bindE (v := !qj c party p L[i]) ?_ ?_
      · by_cases hkl:k < l.length
        · rw [decide_eq_true (show (k:Int) < (l.length:Int) by omega),cond_true,zJ (List.getElem?_eq_getElem hkl),eI]
          simp only [Option.bind_some]
          rw [List.getElem?_eq_getElem hkl] at n1 n2
          have hlk:l[k].length < 4611686018427387904:=by
            have hm:∀ x∈l,x∈L:=fun x hx=>by rw [k2] at hx;exact (List.mem_filter.1 hx).1
            obtain ⟨j,hj,e⟩:=List.getElem_of_mem (hm _ (List.getElem_mem hkl))
            obtain ⟨r',_,_,ep'⟩:=hat j hj
            rw [←e,ep']
            have:=V4 (c:=c) (ρ:=ρ) r'
            omega
          rw [zjX _ _ hlk]
          simp only [Option.bind_some]
          congr 1
          cases hb:(!qj c party p L[i]) with
          | true=>rw [Option.some.inj (n1 hb)];simp
          | false=>
            rw [beq_eq_false_iff_ne]
            intro e
            exact n2 hb (by rw [e])
        · rw [decide_eq_false (show ¬ (k:Int) < (l.length:Int) by omega),cond_false]
          congr 1
          cases hb:(!qj c party p L[i]) with
          | true=>
            have:=n1 hb
            rw [List.getElem?_eq_none (by omega)] at this
            cases this
          | false=>rfl
      refine Ret.bindE (v:=((k:Int)+(bif !qj c party p L[i] then 1 else 0))) ?_ ?_
      · cases (!qj c party p L[i]) with
        | true=>simp only [cond_true];rw [qx (by omega) (by omega)]
        | false=>simp
      refine Ret.bindE eI ?_
      refine Ret.bindE (V5 hc hPl hks) ?_
      refine Ret.bindE eI ?_
      refine Ret.bindE (zdN hc hPl hks) ?_
      rw [JI hv,cond_true]
      have hok:=hks.okk hc
      have hplq:xY (cp c ks) party (pp L[i] p).state=true:=xK.2 ⟨h0,h1,Z3 hc hks hv⟩
      obtain ⟨ρ2,R2,hC2⟩:=zco hok (Z3 hc hks hv).cv
      obtain ⟨⟨l2,e3⟩,hl2,hlr2⟩:=zbl hok hplq R2 hC2
      have hsc:=We hl2
      refine Ret.bindE hsc ?_
      rcases hlr2 with ⟨_,_,hno⟩ | ⟨j1,j2,_⟩
      · exact absurd ⟨a,A⟩ hno
      simp only at j1 j2
      subst j1
      have hw:=zdH hok hplq R2
      rw [←j2,←QN hks] at hw
      have hfine:((l2.length:Int) == 0)=qj c party p L[i]:=by
        rw [Bool.eq_iff_iff,hw]
        cases l2 with
        | nil=>simp
        | cons x l=>simp;omega
      refine Ret.bindE (v:=false) ?_ ?_
      · show some ((true&&(l2.length:Int) == 0) == !qj c party p L[i])=some false
        rw [hfine]
        cases qj c party p L[i]<;>rfl
      refine Ret.ite (fun h=>by cases h) (fun _=>Ret.some ?_)
      show (k:Int)+(bif !qj c party p L[i] then 1 else 0)=(((L.take (i+1)).filter (fun P=>!qj c party p P)).length:Int)
      rw [hft,List.length_append,hk]
      cases (!qj c party p L[i])<;>simp
    · rintro o rfl
      show Ret (Option.bind (bif true then some ((l.length:Int) == (l.length:Int)) else some false) fun v6=>some v6) _
      exact Ret.some (by simp)
end Go.Proofs.YtjkljacdbljkpaaGreatDoor
namespace Go.Proofs.YtjkljacdbljkpaaGreatDoor
open Go.ChangeShapes Go.WideShapes Go.RowKit
set_option maxRecDepth 100000
abbrev Xs : List (String × DataW Unit) := [("math/bits.deBruijn32tab", Rows.laid_math_bits_deBruijn32tab), ("math/bits.deBruijn64tab", Rows.laid_math_bits_deBruijn64tab), ("internal/strconv.uint64pow10", Rows.laid_internal_strconv_uint64pow10)]
theorem zgX:(Xs.filter fun x=>x.1 == xQ)=[(xQ,Lib.tabData .u64 Lib.pow10Tab)]:=by kernel_rfl
theorem zbw {W:World} (h:laidMet Tryz.prog Xs W):C0.tabs.p W∧C0.tabs.n≤W.heap.size:=by
  have h1:=h.filter (fun x=>x.1 == xQ)
  rw [zgX] at h1
  have h2:C0.tabs.p W:=Lib.tabIs_of_head (g:=0) (t:=((Tryz.prog.globals[0]?).map (·.type)).getD 0) (e:=189) (n:=20)
    (by kernel_rfl) (by kernel_rfl) (by kernel_rfl) (by kernel_rfl) (by kernel_rfl) (by kernel_rfl) h1
  exact ⟨h2,zc7 h2⟩
def zjY:DataW Unit→Array Value
  | .agg ds=>(ds.map fun d=>match d with | .lit (.int k n)=>Value.int k n | _=>Value.bool false).toArray
  | _ => #[]
def zbx (w:World) (g:Nat) (d:DataW Unit):World:={w with heap:=w.heap.modify g fun | .cells _ t f=>.cells (zjY d) t f | o=>o}
noncomputable def Y7 (os:Os):World:=
  zbx (zbx (zbx (World.holding Tryz.prog os ⟨#[],#[],[]⟩) 1 Rows.laid_math_bits_deBruijn32tab) 2 Rows.laid_math_bits_deBruijn64tab) 0 Rows.laid_internal_strconv_uint64pow10
theorem Kl (os:Os) (args:Array Value):laidMet Tryz.prog Xs ((Y7 os).forCall (fun _ _=>0) ⟨#[],args,[]⟩).memory:=
  laidMet_of_run3 8 (by kernel_rfl) (by kernel_rfl) (by kernel_rfl)
end Go.Proofs.YtjkljacdbljkpaaGreatDoor
namespace Go.Proofs.YtjkljacdbljkpaaGreatDoor.LComposeLost
open Go.ChangeShapes Go.WideShapes Go.ChangeAt Go.RowKit
set_option linter.unusedVariables false
set_option maxRecDepth 100000
theorem all (ivs:List IV) (h:Xc [(true,ContractT.tys),(false,[.int .i64]),(true,PosT.tys)] ivs):APure C0 170 ivs (.bool true):=by
  match ivs,h with
  | [x0,x1,x2],⟨a0,a1,a2,_⟩=>
    obtain ⟨row0,rfl,r0⟩:=a0
    obtain ⟨c,rfl,ok_c⟩:=ContractT.opn r0
    obtain ⟨c1,_,e1,k1,n1⟩:=zi a1
    cases e1
    obtain ⟨party,rfl,ok_party⟩:=zx k1
    obtain ⟨row2,rfl,r2⟩:=a2
    obtain ⟨p,rfl,ok_p⟩:=PosT.opn r2
    exact Kh c party p true (Kk c party p ok_c ok_party ok_p)
theorem own:ownKnob Tryz.prog.godebug=none:=by kernel_rfl
theorem laid:laidOutB Tryz.prog=true:=by kernel_rfl
theorem args:mapO (zaL Tryz.prog) Tryz.f7.params.toList=some [(true,ContractT.tys),(false,[.int .i64]),(true,PosT.tys)]:=by kernel_rfl
theorem zjZ (os:Os) (started:os.Started) (H:Type) (enc:TypeId×Value→H) :
    ReturnsInHanded {} Tryz.checked os 7 .any (fun w args=>(Rows.composeLostSpec.pre enc Tryz.prog Tryz.f7 [] false w args∧laidMet Tryz.prog Xs w)∧sizedMet enc Tryz.prog Tryz.f7 (OpenSpec.ofChange Rows.composeLostSpec) false w args) (Rows.composeLostSpec.post enc Tryz.prog Tryz.f7 false true false false):=by
  refine returnsInHanded_of_change_and (C:=Tryz.checked) (X:=fun w _=>laidMet Tryz.prog Xs w) (fun _ _ _ hh h=>h.of_heap hh) own started (by kernel_rfl) Tryz.func7
    (ChangeSpec.witness_at (enc:=enc) (C:=Tryz.checked) (os:=os) (X:=fun w _=>laidMet Tryz.prog Xs w) false (Y7 os) #[.agg #[.int .i64 0,.slice none 0 0,.slice none 0 0,.slice none 0 0,.slice none 0 0,.int .i64 0,.slice none 0 0],.int .i64 0,.agg #[.int .i64 0,.slice none 0 0,.slice none 0 0,.slice none 0 0,.bool false]] 8 rfl (by kernel_rfl) (by kernel_rfl) (by kernel_rfl) (by kernel_rfl) (by kernel_rfl) (Kl os _)) ?_
  intro W base args ds gs before hval hW _ hwt hL _
  exact zaM (Cx:=C0) (tb:=4) 170 rfl LComposeLost.args rfl (by kernel_rfl) rfl
    (fun ds h=>by match ds,h with | [_,_,_],_=>rfl) LComposeLost.laid (by kernel_rfl) LComposeLost.all W (zbw hL) base args ds gs before hval hW hwt
theorem zmu:Rows.ComposeLostSaid:=
  OpenClaim.holds_of_wide 7 Tryz.f7 rfl rfl rfl rfl rfl rfl rfl ⟨rfl,rfl,rfl,rfl,rfl⟩ rfl rfl rfl rfl rfl (by kernel_rfl) Tryz.func7 (by kernel_rfl)
    (of_decide_eq_true (by kernel_rfl)) (by unfold Func.isWrapper;first | (rw [if_pos (by decide +kernel)];kernel_rfl) | (rw [if_neg (by decide +kernel)];exact ⟨rfl,rfl⟩))
    (fun os started H enc _=>zjZ os started H enc)
theorem holds:Rows.ComposeLostCardSaid:=
  Claim7.holds_tied_plain_at .later [] [.data, .data, .data] true (true, "667d07e1e23b23c588405f52b6ef23b6fab58bb16b03a4a91b6f094234708974") false
    zmu (fun _ h=>by cases h) (by kernel_rfl) (fun _ h=>by cases h) composeLost_row_tie rfl ⟨rfl,rfl⟩ (by kernel_rfl) rfl
    (fun f fn hf hfn=>by
      obtain rfl : f = 7 := Option.some.inj ((show Tryz.prog.funcNamed "estoppel/estoppellaw23.ComposeLost" = some 7 by kernel_rfl).symm.trans hf) |>.symm
      obtain rfl:fn=Tryz.f7:=(Option.some.inj (Tryz.func7.symm.trans hfn)).symm
      refine ⟨by kernel_rfl,fun j t ht => ?_⟩
      have hall:(Tryz.f7.params.toList.all fun t=>!(Tryz.prog.wantsStandIn t))=true:=by kernel_rfl
      have:=List.all_eq_true.1 hall t (by rw [Array.mem_toList_iff];exact Array.mem_of_getElem? ht)
      have h2:Tryz.prog.wantsStandIn t=false:=by simpa using this
      exact h2)
    (by kernel_rfl)
end Go.Proofs.YtjkljacdbljkpaaGreatDoor.LComposeLost
namespace Go.Proofs.YtjkljacdbljkpaaGreatDoor
theorem composeLost_holds:Rows.ComposeLostCardSaid:=LComposeLost.holds
end Go.Proofs.YtjkljacdbljkpaaGreatDoor
