/-
  'TopAdviceByParts': for every input the call returns true, and each argument reads afterwards as it read before.
  The tables of the library that the rows list: from the row's condition to what the contracts ask; the witness.
  The law 'TopAdviceByParts': who does what the parts advise takes the trace of 'strategy.Follow'.
  The fixed example of the laws about parts at the top: returns true. Printed by mkheads.py.
  One of the calls of the fixed example of the laws about parts at the top. Printed by mkheads.py.
  The fixed example of the laws about parts at the top, first part. Printed by mkheads.py.
  The fixed example of the laws of layer 21: 'head' returns true. Printed by mkheads.py.
  Functions of the program as the kernel reckons them: with fuel, and texts of small numbers. Printed by mkheads.py.
  The law 'ComposeLost'.
  StrategyNoBreach: who can perform and follows the advice never comes into breach.
-/
import Derived.Test.YtlpmnmbebkdocaaGreatDoorTB14
import Derived.Test.YtlpmnmbebkdocaaGreatDoorTB13
import Derived.Test.YtlpmnmbebkdocaaGreatDoorRows
import Derived.Test.YtlpmnmbebkdocaaGreatDoorTB12
import Derived.LaidLaws
import Derived.LaidSub
import Derived.Deep.DeepLaidRun
import Derived.Lib.LaidTab
import Derived.JoinedOf
import Derived.Test.YtlpmnmbebkdocaaGreatDoorTB07
import Derived.Test.YtlpmnmbebkdocaaGreatDoorTie
import Derived.Test.YtlpmnmbebkdocaaGreatDoorCards
import Derived.SevenTiedAt
open List renaming replicate → ud, getElem?_eq_getElem → ue, all_eq_true → ug, mem_cons_of_mem → uh, drop_eq_getElem_cons → ui, append_assoc → uj, mem_cons_self → uk, range → ul, flatMap_cons → un, getElem_mem → uq
open Option renaming bind → ua
open Bool renaming and_eq_true → uc
open Int renaming toNat_natCast → um
open Sum renaming elim → ub, elim_inl → uo
namespace Go.Proofs.YtlpmnmbebkdocaaGreatDoor
open Go.RowKit
set_option linter.unusedSimpArgs false
set_option linter.unusedVariables false
set_option maxRecDepth 100000
section
section
variable {c:ax} {zw:Int} {s0:aG} {a:bT}
theorem zjv (hc:c.Ok) {s:aG} (hv:VS c s) (h1:zz c zw (bN s)=true) (h2:zz c zw (nZ s)=true) (hd:s.day < c.aX) {o:Int} (h0 : -1≤o) (ho:o < c.aK.length) (rz:xa c s o≠zw):zz c zw (bN (zI c s o))=true:=by
 have hall:=(Vx (q:=nZ s) rfl).1 (zX.1 h2)
 have go:o∈zq c zw (nZ s)→zz c zw (bN (zI c s o))=true:=fun hm=>by
  have:=hall.2 o hm
  rw [xe c _ h0] at this
  exact zX.2 this
 by_cases e:o = -1
 ·subst e;exact go (Vz rfl hd)
 ·obtain ⟨i,rfl⟩:∃ i:Nat,o=(i:Int):=⟨o.toNat,by omega⟩
  have hi:i < c.aK.length:=by omega
  cases mY:xZ (zI c s i) s with
  | true=>rw [vJ.1 mY];exact h1
  | false=>
   refine go (zO.2 (.inr (.inr ⟨hd,i,hi,?_,rfl⟩)))
   have E7:xa c s (i:Int)=jJ s.aE c.aK[i]:=by
    unfold xa;rw [if_neg (by omega),um,ue hi]
   rw [E7] at rz
   simp only [iZ,ue hi,mY,nZ]
   rw [beq_eq_false_iff_ne.2 rz];rfl
theorem zhP {c:ax} {zw:Int} {s:aG} {v:eF} (h:VA c zw s v):v.safe=zz c zw (bN s):=by
 rcases h with ⟨h1,h2⟩ | ⟨h1,h2,_⟩
 ·rw [h2,h1]
 ·rw [h2,h1]
abbrev YY (c:ax) (zw:Int) (s:aG):Prop:=zz c zw (bN s)=true
theorem YZ (hc:c.Ok) (fY:VS c s0) {l l1:List Int} (h:nB c zw s0 l l1):dc c (YY c zw) s0 l→dc c (YY c zw) s0 l1∧(bY c s0 l1).day=(bY c s0 l).day∧qb c zw (bN (bY c s0 l1)) = -2:=by
 induction h with
 | stop h=>exact fun ht=>⟨ht,rfl,h⟩
 | go h t ih=>
  intro ht
  obtain ⟨b0,b1,b2,b3,b4,b5⟩:=KG hc (ht.Af hc fY) h
  obtain ⟨i1,i2,i3⟩:=ih (ht.snoc b2 (by omega) b1 b4)
  exact ⟨i1,by rw [i2,jh,b5],i3⟩
theorem zhQ (hc:c.Ok) (fY:VS c s0) {os l l2:List Int} (h:Fw c zw s0 os l l2):(∀ x∈os,-1≤x∧x < c.aK.length)→dc c (YY c zw) s0 l→dc c (YY c zw) s0 l2:=by
 induction h with
 | done=>exact fun _ ht=>ht
 | stop _=>exact fun _ ht=>ht
 | own h ha hd t ih=>exact fun hos ht=>ih (fun x hx=>hos x (uh _ hx)) (YZ hc fY ha ht).1
 | BG h ha hd t ih=>
  intro hos ht
  rename_i o os l l1 l2
  obtain ⟨h1,h2,h3⟩:=YZ hc fY ha ht
  have gD:=h1.Af hc fY
  have hs:zz c zw (bN (bY c s0 l1))=true:=by
   have:=h1.all l1.length (Nat.le_refl _);rw [List.take_length] at this;exact this
  have hx:zz c zw (nZ (bY c s0 l1))=true:=by
   obtain ⟨_,g2,_⟩:=KC (c:=c) (zw:=zw) (q:=bN (bY c s0 l1)) rfl hs
   rw [h3,wT] at g2;exact g2
  have hd2:(bY c s0 l1).day < c.aX:=by
   have:=gD.day
   rw [←h2] at h
   omega
  obtain ⟨o0,o1⟩:=hos o uk
  exact ih (fun x hx=>hos x (uh _ hx)) (h1.snoc hd2 o0 o1 (zjv hc gD hs hx hd2 o0 o1 hd))
theorem Mv (hc:c.Ok) (A:bD c zw (bN s0) a) {P:aG→Prop} {l:List Int} (h:dc c P s0 l):∀ k,k≤l.length→bN (bY c s0 (l.take k))∈a.aU
 | 0,_=>by rw [List.take_zero];exact List.mem_of_getElem? A.F.first
 | k+1,hk=>by
  have h1:=Mv hc A h k (by omega)
  obtain ⟨a1,a2,a3,_⟩:=h.step k (by omega)
  obtain ⟨j,hj,td⟩:=List.getElem_of_mem h1
  obtain ⟨r,_,_,j2,hj2,_,h4⟩:=EZ hc A hj td a1 a2 a3 (l:=[]) (by simp)
  rw [List.take_succ_eq_append_getElem (by omega),jh,←h4]
  exact uq hj2
end
theorem zhR {c:ax} (hc:c.Ok):∃ r,qM c=some r:=by
 by_cases hv:(zS c).1=0
 ·obtain ⟨r,hr,_⟩:=L8 hc hv;exact ⟨r,hr⟩
 ·exact ⟨_,L7 hc hv⟩
end
theorem zne (a b:List Int) (ha:a.length < 4611686018427387904):wi a b=some (a == b):=by
 unfold wi
 rw [Q5]
 by_cases hl:a.length=b.length
 ·rw [decide_eq_true hl,bW]
  rw [yK a b hl ha (fun i h1 h2=>by
   simp only [zN,ue h1,ue h2,aV]
   cases (a[i] == b[i])<;>rfl)]
  simp only [aV]
  cases (a == b)<;>rfl
 ·rw [decide_eq_false hl,b9]
  congr 1
  symm
  rw [beq_eq_false_iff_ne]
  intro e
  exact hl (by rw [e])
end Go.Proofs.YtlpmnmbebkdocaaGreatDoor
namespace Go.Proofs.YtlpmnmbebkdocaaGreatDoor
set_option linter.unusedSimpArgs false
set_option linter.unusedVariables false
set_option maxRecDepth 100000
def Le {α:Type} (x y:Option α):Prop:=∀ r,x=some r→y=some r
theorem Le.refl {α:Type} (x:Option α):Le x x:=fun _ h=>h
theorem Le.bind {α β:Type} {x y:Option α} {f g:α→Option β} (h:Le x y) (hf:∀ a,Le (f a) (g a)):Le (x.bind f) (y.bind g):=fun r hr=>by
 obtain ⟨a,h1,h2⟩:=Option.bind_eq_some_iff.1 hr
 rw [h a h1];exact hf a r h2
theorem Le.cond {α:Type} (b:Bool) {x y x' y':Option α} (h1:Le x x') (h2:Le y y'):Le (bif b then x else y) (bif b then x' else y'):=by
 cases b
 ·exact h2
 ·exact h1
theorem Le.elim {α β γ:Type} {f f':α→Option γ} {g g':β→Option γ} (h1:∀ a,Le (f a) (f' a)) (h2:∀ a,Le (g a) (g' a)) (o:α ⊕ β):Le (ub f g o) (ub f' g' o):=by
 cases o
 ·exact h1 _
 ·exact h2 _
theorem Le.bG {σ ρ:Type} {f g:Nat→σ→Option (σ ⊕ ρ)} (h:∀ i s,Le (f i s) (g i s)):∀ (k i:Nat) (s:σ),Le (bG f i k s) (bG g i k s)
 | 0,i,s=>Le.refl _
 | k+1,i,s=>fun r hr=>by
  simp only [Go.Proofs.YtlpmnmbebkdocaaGreatDoor.bG] at hr ⊢
  split at hr
  ·cases hr
  ·rename_i e;rw [h i s _ e];exact hr
  ·rename_i e;rw [h i s _ e];exact Le.bG h k (i+1) _ r hr
theorem Le.aD {σ ρ:Type} {f g:Nat→σ→Option (σ ⊕ ρ)} (h:∀ i s,Le (f i s) (g i s)) (n:Int) (s:σ):Le (aD n f s) (aD n g s):=fun r hr=>by
 obtain ⟨h1,h2⟩:=Xr hr
 rw [ZE h1];exact Le.bG h _ _ _ r h2
theorem Le.cr {σ ρ:Type} {f g:σ→Option (σ ⊕ ρ)} (h:∀ s,Le (f s) (g s)):∀ (k:Nat) (s:σ),Le (Go.Proofs.YtlpmnmbebkdocaaGreatDoor.cr f k s) (Go.Proofs.YtlpmnmbebkdocaaGreatDoor.cr g k s)
 | 0,s=>Le.refl _
 | k+1,s=>fun r hr=>by
  simp only [Go.Proofs.YtlpmnmbebkdocaaGreatDoor.cr] at hr ⊢
  split at hr
  ·cases hr
  ·rename_i e;rw [h s _ e];exact hr
  ·rename_i e;rw [h s _ e];exact Le.cr h k _ r hr
theorem Le.iter {σ ρ:Type} {f g:σ→Option (σ ⊕ ρ)} (h:∀ s,Le (f s) (g s)) (k:Nat) (s:σ):Le (Go.Proofs.YtlpmnmbebkdocaaGreatDoor.cr f k s) (Go.Proofs.YtlpmnmbebkdocaaGreatDoor.iter g s):=fun r hr=>vz.2 ⟨k,Le.cr h k s r hr⟩
def KH:Nat→Nat→List UInt8
 | 0,u=>[]
 | f+1,u=>if u < 10 then [UInt8.ofNat (48+u)] else KH f (u / 10)++[UInt8.ofNat (48+u % 10)]
theorem KI:∀ (f u:Nat),u < 10 ^ (f+1)→KH (f+1) u=Lib.decDigits u
 | 0,u,h=>by
  rw [Lib.decDigits]
  simp only [KH]
  rw [if_pos (by omega),dif_pos (by omega)]
 | f+1,u,h=>by
  rw [Lib.decDigits,KH]
  by_cases hu:u < 10
  ·rw [if_pos hu,dif_pos hu]
  ·rw [if_neg hu,dif_neg hu,KI f (u / 10) (by rw [Nat.pow_succ] at h;omega)]
def xr (n:Int):Bool:=decide (-1000 < n)&&decide (n < 1000)
def E8 (n:Int):List UInt8:=if n < 0 then 45::KH 4 n.natAbs else KH 4 n.toNat
theorem zjw {n:Int} (h:xr n=true):E8 n=Lib.itoa n:=by
 simp only [xr,uc,decide_eq_true_eq] at h
 unfold E8 Lib.itoa
 rw [KI 3 n.natAbs (by omega),KI 3 n.toNat (by omega)]
def xt (n:Int):List UInt8:=E8 n++[32]
theorem jY {n:Int} (h:xr n=true):xt n=zK n:=by unfold xt zK;rw [zjw h]
def CF (m:aj):List UInt8:=xt m.aR++xt m.left++xt m.got++xt m.bz++qi m.bQ
def Jb (m:aj):Bool:=xr m.aR&&(xr m.left&&(xr m.got&&xr m.bz))
def Y0 (p:aH):List UInt8:=qi p.own++xt p.state.day++p.state.aE.flatMap xt++p.state.used.flatMap qi++p.state.aI.flatMap CF
def X8 (p:aH):Bool:=xr p.state.day&&(p.state.aE.all xr&&p.state.aI.all Jb)
theorem wx {α β:Type} {f g:α→List β}:∀ {l:List α},(∀ a∈l,f a=g a)→l.flatMap f=l.flatMap g
 | [],_=>rfl
 | a::l,h=>by rw [un,un,h a uk,wx fun b hb=>h b (uh _ hb)]
theorem zjx {p:aH} (h:X8 p=true):Y0 p=qH p:=by
 simp only [X8,uc,ug] at h
 unfold Y0 qH
 rw [jY h.1,wx (f:=xt) (g:=zK) (fun a ha=>jY (h.2.1 a ha)),wx (f:=CF) (g:=je) (fun a ha=>by
  have:=h.2.2 a ha
  simp only [Jb,uc] at this
  show xt a.aR++xt a.left++xt a.got++xt a.bz++qi a.bQ=zK a.aR++zK a.left++zK a.got++zK a.bz++qi a.bQ
  rw [jY this.1,jY this.2.1,jY this.2.2.1,jY this.2.2.2])]
theorem jF {n:Int} (h:xr n=true):jA n=true:=by
 simp only [xr,jA,uc,decide_eq_true_eq] at h ⊢
 omega
def kQ (p:aH):Option ByteArray:=bif X8 p&&decide ((Y0 p).length≤1000000000) then some ⟨(Y0 p).toArray⟩ else none
theorem Mw (p:aH):Le (kQ p) (xl p):=fun r h=>by
 unfold kQ at h
 cases hq:(X8 p&&decide ((Y0 p).length≤1000000000)) with
 | false=>rw [hq] at h;cases h
 | true=>
  rw [hq] at h
  simp only [uc,decide_eq_true_eq] at hq
  have e:=zjx hq.1
  unfold xl
  rw [if_pos,←e]
  ·exact h
  ·have h1:=hq.1
   simp only [X8,uc,ug] at h1
   simp only [tX,uc,decide_eq_true_eq,ug]
   refine ⟨⟨⟨jF h1.1,fun x hx=>jF (h1.2.1 x hx)⟩,fun m hm => ?_⟩,by rw [←e];exact hq.2⟩
   have:=h1.2.2 m hm
   simp only [Jb,uc] at this
   exact ⟨⟨⟨jF this.1,jF this.2.1⟩,jF this.2.2.1⟩,jF this.2.2.2⟩
noncomputable def Y1 (p1:ax) (p2:Int) (p3:List Int) (p4:Nat) (p5:List Bool) (p6:Nat) (p7:List aj) (p8:Nat):Option ((List aj)):=
 (ua (cr (σ:=Bool×(List aj)) (ρ:=(List aj)) (fun s1=>(bif s1.1 then (ua (aD (σ:=Bool×(List aj)) (ρ:=Unit) (p1.ay.length:Int) (fun i2 s2=>(ua (ua (ze p1.ay (i2:Int)) fun e1=>(ua (dH p4 p3.length) fun g1=>(ua (dH p6 p5.length) fun g2=>(ua (dH p8 s2.2.length) fun g3=>(ua (yE p1 ({day:=p2,aE:=p3,used:=p5,aI:=s2.2}:aG) (i2:Int)) fun r1=>(bif r1 then (ua (bif (e1.kind == 4) then some (-1) else (ua (zi p4 e1.bK) fun k1=>(ua (p3[k1]?) fun e2=>some e2))) fun (v1:Int)=>(ua (zi p8 (i2:Int)) fun k2=>(ua (s2.2[k2]?) fun e3=>some (true,(s2.2.set k2 ({aR:=1,left:=e1.after,got:=0,bz:=v1,bQ:=false}:aj)))))) else some (s2.1,s2.2))))))) fun (v2:Bool×(List aj))=>some (.inl (v2.1,v2.2)))) (false,s1.2)) (ub (fun (s2:Bool×(List aj))=>some (.inl (s2.1,s2.2))) (fun _=>none))) else some (.inr s1.2))) 40 (true,p7)) (fun (y1:(List aj))=>some y1))
theorem E9 (p1:ax) (p2:Int) (p3:List Int) (p4:Nat) (p5:List Bool) (p6:Nat) (p7:List aj) (p8:Nat):Le (Y1 p1 p2 p3 p4 p5 p6 p7 p8) (ve p1 p2 p3 p4 p5 p6 p7 p8):=by
 unfold Y1 ve
 repeat' (first | with_reducible exact Le.refl _ | with_reducible refine Le.bind ?_ (fun _ => ?_) | with_reducible refine Le.cond _ ?_ ?_ | with_reducible refine Le.aD (fun _ _ => ?_) _ _ | with_reducible refine Le.iter (fun _ => ?_) _ _ | with_reducible refine Le.elim (fun _ => ?_) (fun _ => ?_) _)
noncomputable def WK (c:ax):Option (aG×Int):=
 (ua (xm c) fun r1=>(bif (r1.1 == 0) then (ua (zR 8 c.aE) fun e1=>(ua (ei 1 (c.aK.length:Int)) fun k1=>(ua (ei 40 (c.ay.length:Int)) fun k2=>(ua (aD (σ:=(List aj)) (ρ:=Unit) (c.ay.length:Int) (fun i1 s1=>(ua (ua (ze c.ay (i1:Int)) fun e2=>(ua (zi k2 (i1:Int)) fun k3=>(ua (s1[k3]?) fun e3=>(bif e2.bt then (ua (zi k2 (i1:Int)) fun k4=>(ua ((s1.set k3 ({aR:=0,left:=0,got:=0,bz:=(-1),bQ:=false}:aj))[k4]?) fun e4=>some ((s1.set k3 ({aR:=0,left:=0,got:=0,bz:=(-1),bQ:=false}:aj)).set k4 ({e4 with aR:=5}:aj)))) else some (s1.set k3 ({aR:=0,left:=0,got:=0,bz:=(-1),bQ:=false}:aj)))))) fun (v1:(List aj))=>some (.inl v1))) (ud k2 ({aR:=0,left:=0,got:=0,bz:=0,bQ:=false}:aj))) (ub (fun (s1:(List aj))=>(ua (Y1 c 0 e1 e1.length (ud k1 false) k1 s1 k2) fun r2=>(ua (dH k1 (ud k1 false).length) fun g1=>(ua (dH k2 r2.length) fun g2=>some (({day:=0,aE:=e1,used:=(ud k1 false),aI:=r2}:aG),0))))) (fun _=>none)))))) else some (({day:=0,aE:=[],used:=[],aI:=[]}:aG),1)))
theorem VB (c:ax):Le (WK c) (qM c):=by
 unfold WK qM
 repeat' (first | with_reducible exact Le.refl _ | with_reducible exact E9 _ _ _ _ _ _ _ _ | with_reducible refine Le.bind ?_ (fun _ => ?_) | with_reducible refine Le.cond _ ?_ ?_ | with_reducible refine Le.aD (fun _ _ => ?_) _ _ | with_reducible refine Le.iter (fun _ => ?_) _ _ | with_reducible refine Le.elim (fun _ => ?_) (fun _ => ?_) _)
noncomputable def wI (l:List Int) (v:Int):Option (Int×Bool):=
 (ua (ua (cr (σ:=Int×Int) (ρ:=Int) (fun s1=>(bif decide (s1.1 < s1.2) then (ua (Xu .u64 .u64 (IntKind.u64.wrap (IntKind.i64.wrap (s1.1+s1.2))) 1) fun e1=>(ua (ze l (IntKind.i64.wrap e1)) fun e2=>(ua (QS e2 v) fun r1=>(bif r1 then some (.inl ((IntKind.i64.wrap ((IntKind.i64.wrap e1)+1)),s1.2)) else some (.inl (s1.1,(IntKind.i64.wrap e1))))))) else some (.inr s1.1))) 40 (0,(l.length:Int))) (fun (y1:Int)=>some y1)) fun (v1:Int)=>(ua (bif decide (v1 < (l.length:Int)) then (ua (ze l v1) fun e3=>(bif (e3 == v) then some true else (ua (Zq e3) fun r2=>(bif r2 then (ua (Zq v) fun r3=>some r3) else some false)))) else some false) fun v2=>some (v1,v2)))
theorem Qx (l:List Int) (v:Int):Le (wI l v) (jg l v):=by
 unfold wI jg
 repeat' (first | with_reducible exact Le.refl _ | with_reducible refine Le.bind ?_ (fun _ => ?_) | with_reducible refine Le.cond _ ?_ ?_ | with_reducible refine Le.aD (fun _ _ => ?_) _ _ | with_reducible refine Le.iter (fun _ => ?_) _ _ | with_reducible refine Le.elim (fun _ => ?_) (fun _ => ?_) _)
noncomputable def Fa (p1:ax) (p2:Int) (p3:List Int) (p4:Nat) (p5:List Bool) (p6:Nat) (p7:List aj) (p8:Nat):Option ((List aj)):=
 (ua (wI p1.off p2) fun r1=>(ua (ua (xD p1 p2 p3 p4 p5 p6 p7 p8) fun r2=>(ua (aD (σ:=(List aj)) (ρ:=(List aj)) (p8:Int) (fun i1 s1=>(ua (ua (zi p8 (i1:Int)) fun k1=>(ua (s1[k1]?) fun e1=>(ua (jM e1) fun r3=>(bif r3 then (ua (ua (ze p1.ay (i1:Int)) fun e2=>(ua (ua (zi p8 (i1:Int)) fun k2=>(ua (s1[k2]?) fun e3=>(bif e3.bQ then some true else (bif e2.bC then some r1.2 else some false)))) fun v1=>(bif v1 then some s1 else (ua (zi p8 (i1:Int)) fun k3=>(ua (s1[k3]?) fun e4=>(ua (zi p8 (i1:Int)) fun k4=>(ua ((s1.set k3 ({e4 with left:=(IntKind.i64.wrap (e4.left - 1))}:aj))[k4]?) fun e5=>(bif (e5.left == 0) then (ua (bif (e2.kind == (0:Int)) then none else (bif (e2.kind == (1:Int)) then (ua (Yo (i1:Int) p1 p2 p3 p4 p5 p6 (s1.set k3 ({e4 with left:=(IntKind.i64.wrap (e4.left - 1))}:aj)) p8) fun r7=>some r7) else (bif (e2.kind == (2:Int)) then (ua (vg (i1:Int) p1 p2 p3 p4 p5 p6 (s1.set k3 ({e4 with left:=(IntKind.i64.wrap (e4.left - 1))}:aj)) p8) fun r6=>some r6) else (bif (e2.kind == (3:Int)) then (ua (Qk (i1:Int) p1 p2 p3 p4 p5 p6 (s1.set k3 ({e4 with left:=(IntKind.i64.wrap (e4.left - 1))}:aj)) p8) fun r5=>some r5) else (bif (e2.kind == (4:Int)) then (ua (Qk (i1:Int) p1 p2 p3 p4 p5 p6 (s1.set k3 ({e4 with left:=(IntKind.i64.wrap (e4.left - 1))}:aj)) p8) fun r4=>some r4) else none))))) fun v2=>some v2) else some (s1.set k3 ({e4 with left:=(IntKind.i64.wrap (e4.left - 1))}:aj)))))))))) fun (v3:(List aj))=>some ((!true),v3)) else some (false,s1))))) fun (v4:Bool×(List aj))=>(bif v4.1 then some (.inr v4.2) else some (.inl v4.2)))) p7) (ub (fun (s1:(List aj))=>some s1) (fun (y1:(List aj))=>some y1)))) fun (v5:(List aj))=>(ua (Y1 p1 (IntKind.i64.wrap (p2+1)) p3 p4 p5 p6 v5 p8) fun r8=>some r8)))
theorem znf (p1:ax) (p2:Int) (p3:List Int) (p4:Nat) (p5:List Bool) (p6:Nat) (p7:List aj) (p8:Nat):Le (Fa p1 p2 p3 p4 p5 p6 p7 p8) (gS p1 p2 p3 p4 p5 p6 p7 p8):=by
 unfold Fa gS
 repeat' (first | with_reducible exact Le.refl _ | with_reducible exact Qx _ _ | with_reducible exact E9 _ _ _ _ _ _ _ _ | with_reducible refine Le.bind ?_ (fun _ => ?_) | with_reducible refine Le.cond _ ?_ ?_ | with_reducible refine Le.aD (fun _ _ => ?_) _ _ | with_reducible refine Le.iter (fun _ => ?_) _ _ | with_reducible refine Le.elim (fun _ => ?_) (fun _ => ?_) _)
noncomputable def Fb (p1:Int) (p2:ax) (p3:Int) (p4:List Int) (p5:Nat) (p6:List Bool) (p7:Nat) (p8:List aj) (p9:Nat):Option ((List Int)×(List Bool)×(List aj)):=
 (ua (ze p2.aK p1) fun e1=>(ua (bif (e1.kind == 1) then some false else (ua (zi p7 p1) fun k1=>(ua (p6[k1]?) fun e2=>some e2))) fun v1=>(bif v1 then some (p4,p6,p8) else (ua (ua (xD p2 p3 p4 p5 p6 p7 p8 p9) fun r1=>(ua (aD (σ:=(List aj)) (ρ:=(List aj)) (p9:Int) (fun i1 s1=>(ua (ua (zi p9 (i1:Int)) fun k2=>(ua (s1[k2]?) fun e3=>(ua (jM e3) fun r2=>(bif r2 then (ua (ua (ze p2.ay (i1:Int)) fun e4=>(bif (p1 == e4.bg) then (ua (zi p9 (i1:Int)) fun k3=>(ua (s1[k3]?) fun e5=>some (s1.set k3 ({e5 with bQ:=true}:aj)))) else (ua (ze p2.ay (i1:Int)) fun e6=>(bif (p1 == e6.resume) then (ua (zi p9 (i1:Int)) fun k4=>(ua (s1[k4]?) fun e7=>some (s1.set k4 ({e7 with bQ:=false}:aj)))) else some s1)))) fun (v2:(List aj))=>some ((!true),v2)) else some (false,s1))))) fun (v3:Bool×(List aj))=>(bif v3.1 then some (.inr v3.2) else some (.inl v3.2)))) p8) (ub (fun (s1:(List aj))=>some s1) (fun (y1:(List aj))=>some y1)))) fun (v4:(List aj))=>(ua (dH p5 p4.length) fun g1=>(ua (dH p7 p6.length) fun g2=>(ua (dH p9 v4.length) fun g3=>(ua (ZK p2 ({day:=p3,aE:=p4,used:=p6,aI:=v4}:aG) p1) fun r3=>(ua (ua (xD p2 p3 p4 p5 p6 p7 v4 p9) fun r4=>(ua (aD (σ:=(List aj)) (ρ:=(List aj)) (p9:Int) (fun i2 s2=>(ua (ua (zi p9 (i2:Int)) fun k5=>(ua (s2[k5]?) fun e8=>(ua (jM e8) fun r5=>(bif r5 then (ua (ua (ze p2.ay (i2:Int)) fun e9=>(ua (bif (e9.act == p1) then (bif (e9.kind == 4) then some true else (ua (zi p9 (i2:Int)) fun k6=>(ua (s2[k6]?) fun dW=>some (dW.bz == r3)))) else some false) fun v5=>(bif v5 then (ua (bif (e9.kind == (0:Int)) then none else (bif (e9.kind == (1:Int)) then (ua (Yq (i2:Int) p2 p3 p4 p5 p6 p7 s2 p9) fun r9=>some r9) else (bif (e9.kind == (2:Int)) then (ua (Yp (i2:Int) p2 p3 p4 p5 p6 p7 s2 p9) fun r8=>some r8) else (bif (e9.kind == (3:Int)) then (ua (vg (i2:Int) p2 p3 p4 p5 p6 p7 s2 p9) fun r7=>some r7) else (bif (e9.kind == (4:Int)) then (ua (vg (i2:Int) p2 p3 p4 p5 p6 p7 s2 p9) fun r6=>some r6) else none))))) fun v6=>some v6) else some s2))) fun (v7:(List aj))=>some ((!true),v7)) else some (false,s2))))) fun (v8:Bool×(List aj))=>(bif v8.1 then some (.inr v8.2) else some (.inl v8.2)))) v4) (ub (fun (s2:(List aj))=>some s2) (fun (y2:(List aj))=>some y2)))) fun (v9:(List aj))=>(ua (bif (e1.kind == 1) then some (p4,p6,v9) else (ua (Yr p1 p2 p3 p4 p5 p6 p7 v9 p9) fun fI=>some (fI.1,fI.2.1,fI.2.2))) fun (v10:(List Int)×(List Bool)×(List aj))=>(ua (Y1 p2 p3 v10.1 p5 v10.2.1 p7 v10.2.2 p9) fun eX=>some (v10.1,v10.2.1,eX))))))))))))
theorem zng (p1:Int) (p2:ax) (p3:Int) (p4:List Int) (p5:Nat) (p6:List Bool) (p7:Nat) (p8:List aj) (p9:Nat):Le (Fb p1 p2 p3 p4 p5 p6 p7 p8 p9) (JI p1 p2 p3 p4 p5 p6 p7 p8 p9):=by
 unfold Fb JI
 repeat' (first | with_reducible exact Le.refl _ | with_reducible exact E9 _ _ _ _ _ _ _ _ | with_reducible refine Le.bind ?_ (fun _ => ?_) | with_reducible refine Le.cond _ ?_ ?_ | with_reducible refine Le.aD (fun _ _ => ?_) _ _ | with_reducible refine Le.iter (fun _ => ?_) _ _ | with_reducible refine Le.elim (fun _ => ?_) (fun _ => ?_) _)
noncomputable def Jc (c:ax) (s:aG) (step:Int):Option (aG×Int):=
 (ua (ua (jD c s) fun r1=>(bif r1 then (bif decide (step < (-1)) then some true else some (decide ((c.aK.length:Int)≤step))) else some true)) fun v1=>(bif v1 then some (({day:=0,aE:=[],used:=[],aI:=[]}:aG),1) else (bif (s.day == c.aX) then some (({day:=0,aE:=[],used:=[],aI:=[]}:aG),13) else (ua (ei 8 (s.aE.length:Int)) fun k1=>(ua (ei 1 (s.used.length:Int)) fun k2=>(ua (ei 40 (s.aI.length:Int)) fun k3=>(ua (xX (α:=Int) k1 (ud k1 0) s.aE) fun e1=>(ua (xX (α:=Bool) k2 (ud k2 false) s.used) fun e2=>(ua (xX (α:=aj) k3 (ud k3 ({aR:=0,left:=0,got:=0,bz:=0,bQ:=false}:aj)) s.aI) fun e3=>(ua (bif (step == (-1)) then (ua (Fa c s.day e1 k1 e2 k2 e3 k3) fun r2=>some (e1,e2,r2,(IntKind.i64.wrap (s.day+1)))) else (ua (Fb step c s.day e1 k1 e2 k2 e3 k3) fun r3=>some (r3.1,r3.2.1,r3.2.2,s.day))) fun (v2:(List Int)×(List Bool)×(List aj)×Int)=>(ua (dH k1 v2.1.length) fun g1=>(ua (dH k2 v2.2.1.length) fun g2=>(ua (dH k3 v2.2.2.1.length) fun g3=>some (({day:=v2.2.2.2,aE:=v2.1,used:=v2.2.1,aI:=v2.2.2.1}:aG),0))))))))))))))
theorem KJ (c:ax) (s:aG) (step:Int):Le (Jc c s step) (dw c s step):=by
 unfold Jc dw
 repeat' (first | with_reducible exact Le.refl _ | with_reducible exact znf _ _ _ _ _ _ _ _ | with_reducible exact zng _ _ _ _ _ _ _ _ _ | with_reducible refine Le.bind ?_ (fun _ => ?_) | with_reducible refine Le.cond _ ?_ ?_ | with_reducible refine Le.aD (fun _ _ => ?_) _ _ | with_reducible refine Le.iter (fun _ => ?_) _ _ | with_reducible refine Le.elim (fun _ => ?_) (fun _ => ?_) _)
noncomputable def Y2 (c:ax) (zw:Int) (p:aH):Option (bT×Int):=
 (ua (yc c zw p) fun r1=>(bif r1 then (ua (vo p.state) fun r2=>(ua (kQ p) fun r3=>(ua (α:=((List aH)×(List (List bh))) ⊕ Unit) (ua (cr (σ:=Int×(List aH)×(List (List bh))×(List (ByteArray×Int))) (ρ:=((List aH)×(List (List bh))) ⊕ Unit) (fun s1=>(bif decide (s1.1 < (s1.2.1.length:Int)) then (ua (α:=((List aH)×(List (ByteArray×Int))×(List bh)) ⊕ Unit) (ua (ze s1.2.1 s1.1) fun e1=>(ua (Yu c zw e1) fun r4=>(ua (α:=((List aH)×(List (ByteArray×Int))×(List bh)) ⊕ (Unit ⊕ ((List aH)×(List (ByteArray×Int))×(List bh)))) (bif e1.own then (ua (vo e1.state) fun r5=>(ua (kQ ({state:=r5,own:=false}:aH)) fun r6=>(ua (α:=(Int×(List aH)×(List (ByteArray×Int))) ⊕ Unit) (bif ((zl r6 s1.2.2.2).isSome) then some (.inl (((zl r6 s1.2.2.2).getD 0),s1.2.1,s1.2.2.2)) else (bif ((s1.2.1.length:Int) == 1500) then some (.inr ()) else (ua (zJ (α:=aH) 88 s1.2.1 [({state:=r5,own:=false}:aH)]) fun e2=>some (.inl ((s1.2.1.length:Int),e2,(zG r6 (s1.2.1.length:Int) s1.2.2.2)))))) (ub (fun (v1:Int×(List aH)×(List (ByteArray×Int)))=>(ua (zJ (α:=bh) 16 [] [({step:=(-2),to:=v1.1}:bh)]) fun e3=>(bif decide (c.aX≤e1.state.day) then some (.inr (.inr (v1.2.1,v1.2.2,e3))) else some (.inl (v1.2.1,v1.2.2,e3))))) (fun (y1:Unit)=>some (.inr (.inl ()))))))) else (bif decide (c.aX≤e1.state.day) then some (.inr (.inr (s1.2.1,s1.2.2.2,[]))) else some (.inl (s1.2.1,s1.2.2.2,[])))) (ub (fun (v2:(List aH)×(List (ByteArray×Int))×(List bh))=>(ua (α:=((List aH)×(List (ByteArray×Int))×(List bh)) ⊕ Unit) (bif e1.own then some (.inl (v2.1,v2.2.1,v2.2.2)) else (ua (Jc c e1.state (-1)) fun r7=>(ua (kQ ({state:=r7.1,own:=true}:aH)) fun r8=>(ua (α:=(Int×(List aH)×(List (ByteArray×Int))) ⊕ Unit) (bif ((zl r8 v2.2.1).isSome) then some (.inl (((zl r8 v2.2.1).getD 0),v2.1,v2.2.1)) else (bif ((v2.1.length:Int) == 1500) then some (.inr ()) else (ua (zJ (α:=aH) 88 v2.1 [({state:=r7.1,own:=true}:aH)]) fun e4=>some (.inl ((v2.1.length:Int),e4,(zG r8 (v2.1.length:Int) v2.2.1)))))) (ub (fun (v3:Int×(List aH)×(List (ByteArray×Int)))=>(ua (zJ (α:=bh) 16 v2.2.2 [({step:=(-1),to:=v3.1}:bh)]) fun e5=>some (.inl (v3.2.1,v3.2.2,e5)))) (fun (y4:Unit)=>some (.inr ()))))))) (ub (fun (v4:(List aH)×(List (ByteArray×Int))×(List bh))=>(ua (aD (σ:=(List aH)×(List (ByteArray×Int))×(List bh)) (ρ:=(List aH)×(List (ByteArray×Int))×(List bh)) (c.aK.length:Int) (fun i2 s2=>(ua (α:=((List aH)×(List (ByteArray×Int))×(List bh)) ⊕ Unit) (ua (ze c.aK (i2:Int)) fun e6=>(ua (bif (e6.bK == (-1)) then some (-1) else (ua (ze e1.state.aE e6.bK) fun e7=>some e7)) fun (v5:Int)=>(bif ((v5 == zw) == e1.own) then (ua (Jc c e1.state (i2:Int)) fun r9=>(ua (QU r9.1 e1.state) fun fI=>(bif fI then some (.inl (s2.1,s2.2.1,s2.2.2)) else (ua (kQ ({state:=r9.1,own:=true}:aH)) fun eX=>(ua (α:=(Int×(List aH)×(List (ByteArray×Int))) ⊕ Unit) (bif ((zl eX s2.2.1).isSome) then some (.inl (((zl eX s2.2.1).getD 0),s2.1,s2.2.1)) else (bif ((s2.1.length:Int) == 1500) then some (.inr ()) else (ua (zJ (α:=aH) 88 s2.1 [({state:=r9.1,own:=true}:aH)]) fun e8=>some (.inl ((s2.1.length:Int),e8,(zG eX (s2.1.length:Int) s2.2.1)))))) (ub (fun (v6:Int×(List aH)×(List (ByteArray×Int)))=>(ua (zJ (α:=bh) 16 s2.2.2 [({step:=(i2:Int),to:=v6.1}:bh)]) fun e9=>some (.inl (v6.2.1,v6.2.2,e9)))) (fun (y6:Unit)=>some (.inr ())))))))) else some (.inl (s2.1,s2.2.1,s2.2.2))))) (ub (fun (v7:(List aH)×(List (ByteArray×Int))×(List bh))=>some (.inl (v7.1,v7.2.1,v7.2.2))) (fun (y7:Unit)=>some (.inr (s2.1,s2.2.1,s2.2.2)))))) (v4.1,v4.2.1,v4.2.2)) (ub (fun (s2:(List aH)×(List (ByteArray×Int))×(List bh))=>some (.inl (s2.1,s2.2.1,s2.2.2))) (fun (y8:(List aH)×(List (ByteArray×Int))×(List bh))=>some (.inr ()))))) (fun (y5:Unit)=>some (.inr ()))))) (ub (fun (y2:Unit)=>some (.inr ())) (fun (y3:(List aH)×(List (ByteArray×Int))×(List bh))=>some (.inl (y3.1,y3.2.1,y3.2.2)))))))) (ub (fun (v8:(List aH)×(List (ByteArray×Int))×(List bh))=>(ua (zJ (α:=List bh) 24 s1.2.2.1 [v8.2.2]) fun dW=>some (.inl ((IntKind.i64.wrap (s1.1+1)),v8.1,dW,v8.2.1)))) (fun (y9:Unit)=>some (.inr (.inr ()))))) else some (.inr (.inl (s1.2.1,s1.2.2.1))))) 40 (0,[({state:=r2,own:=p.own}:aH)],[],(zG r3 0 []))) (ub (fun (rI:(List aH)×(List (List bh)))=>some (.inl (rI.1,rI.2))) (fun (IK:Unit)=>some (.inr ())))) (ub (fun (v9:(List aH)×(List (List bh)))=>some (({zw:=zw,aU:=v9.1,bp:=v9.2}:bT),0)) (fun (IL:Unit)=>some (({zw:=0,aU:=[],bp:=[]}:bT),3)))))) else some (({zw:=0,aU:=[],bp:=[]}:bT),1)))
theorem Mx (c:ax) (zw:Int) (p:aH):Le (Y2 c zw p) (qD c zw p):=by
 unfold Y2 qD
 repeat' (first | with_reducible exact Le.refl _ | with_reducible exact Mw _ | with_reducible exact KJ _ _ _ | with_reducible refine Le.bind ?_ (fun _ => ?_) | with_reducible refine Le.cond _ ?_ ?_ | with_reducible refine Le.aD (fun _ _ => ?_) _ _ | with_reducible refine Le.iter (fun _ => ?_) _ _ | with_reducible refine Le.elim (fun _ => ?_) (fun _ => ?_) _)
noncomputable def KL (c:ax) (zw:Int):Option (bT×Int):=
 (ua (WK c) fun r1=>(bif (r1.2 == 0) then (ua (Y2 c zw ({state:=r1.1,own:=true}:aH)) fun r2=>some (r2.1,r2.2)) else some (({zw:=0,aU:=[],bp:=[]}:bT),r1.2)))
theorem zjy (c:ax) (zw:Int):Le (KL c zw) (xn c zw):=by
 unfold KL xn
 repeat' (first | with_reducible exact Le.refl _ | with_reducible exact VB _ | with_reducible exact Mx _ _ _ | with_reducible refine Le.bind ?_ (fun _ => ?_) | with_reducible refine Le.cond _ ?_ ?_ | with_reducible refine Le.aD (fun _ _ => ?_) _ _ | with_reducible refine Le.iter (fun _ => ?_) _ _ | with_reducible refine Le.elim (fun _ => ?_) (fun _ => ?_) _)
noncomputable def WL (c:ax) (a:bT):Option (List Int):=
 (ua (wg c a) fun r1=>(bif r1 then (ua (ei 8 (a.aU.length:Int)) fun k1=>(ua (ei 8 (a.aU.length:Int)) fun k2=>(ua (ei 24 (a.aU.length:Int)) fun k3=>(ua (aD (σ:=(List Int)×(List Int)×(List (List Int))×(List Int)) (ρ:=Unit) (a.aU.length:Int) (fun i1 s1=>(ua (ua (ze a.aU (i1:Int)) fun e1=>(ua (ze a.bp (i1:Int)) fun e2=>(ua (zi k1 (i1:Int)) fun k4=>(ua (s1.1[k4]?) fun e3=>(ua (zi k2 (i1:Int)) fun k5=>(ua (s1.2.1[k5]?) fun e4=>(ua (ze a.bp (i1:Int)) fun e5=>(ua (aD (σ:=(List (List Int))) (ρ:=Unit) (e5.length:Int) (fun i2 s2=>(ua (ze e5 (i2:Int)) fun e6=>(ua (vD s2 k3 e6.to (i1:Int)) fun v1=>some (.inl v1)))) s1.2.2.1) (ub (fun (s2:(List (List Int)))=>(ua (XH c e1.state a.zw) fun r2=>(bif r2 then (ua (zi k1 (i1:Int)) fun k6=>(ua ((s1.1.set k4 (-1))[k6]?) fun e7=>(ua (kG (i1:Int) s1.2.2.2 0) fun r3=>some (((s1.1.set k4 (-1)).set k6 0),(s1.2.1.set k5 (e2.length:Int)),s2,r3)))) else some ((s1.1.set k4 (-1)),(s1.2.1.set k5 (e2.length:Int)),s2,s1.2.2.2)))) (fun _=>none)))))))))) fun (v2:(List Int)×(List Int)×(List (List Int))×(List Int))=>some (.inl (v2.1,v2.2.1,v2.2.2.1,v2.2.2.2)))) ((ud k1 0),(ud k2 0),(ud k3 []),[])) (ub (fun (s1:(List Int)×(List Int)×(List (List Int))×(List Int))=>(ua (aD (σ:=(List Int)×(List Int)) (ρ:=Unit) (a.aU.length:Int) (fun i3 s3=>(ua (ua (ze a.aU (i3:Int)) fun e8=>(ua (bif e8.own then (ua (zi k2 (i3:Int)) fun k7=>(ua (s1.2.1[k7]?) fun e9=>(bif (e9 == 0) then (ua (zi k1 (i3:Int)) fun k8=>(ua (s3.1[k8]?) fun dW=>some (dW == (-1)))) else some false))) else some false) fun v3=>(bif v3 then (ua (kH (i3:Int) 1 s3.1 k1 s3.2 0) fun r4=>some (r4.2,r4.1)) else some (s3.1,s3.2)))) fun (v4:(List Int)×(List Int))=>some (.inl (v4.1,v4.2)))) (s1.1,s1.2.2.2)) (ub (fun (s3:(List Int)×(List Int))=>(ua (ua (wR s3.2 0) fun r5=>(ua (cr (σ:=Int×Bool×(List Int)×(List Int)×(List Int)×Int) (ρ:=(List Int)) (fun s4=>(bif s4.2.1 then (ua (zi k3 s4.1) fun k9=>(ua (s1.2.2.1[k9]?) fun lF=>(ua (aD (σ:=(List Int)×(List Int)×(List Int)) (ρ:=Unit) (lF.length:Int) (fun i5 s5=>(ua (ze lF (i5:Int)) fun pR=>(ua (QV pR s4.1 s5.2.1 k2 s5.1 k1 a s5.2.2 s4.2.2.2.2.2) fun r6=>some (.inl (r6.2.1,r6.1,r6.2.2))))) (s4.2.2.1,s4.2.2.2.1,s4.2.2.2.2.1)) (ub (fun (s5:(List Int)×(List Int)×(List Int))=>(ua (wR s5.2.2 s4.2.2.2.2.2) fun r7=>some (.inl (r7.1,r7.2.1,s5.1,s5.2.1,s5.2.2,r7.2.2)))) (fun _=>none))))) else some (.inr s4.2.2.1))) 40 (r5.1,r5.2.1,s3.1,s1.2.1,s3.2,r5.2.2)) (fun (y1:(List Int))=>some y1))) fun (v5:(List Int))=>(ua (dH k1 v5.length) fun g1=>some v5))) (fun _=>none)))) (fun _=>none)))))) else some []))
theorem My (c:ax) (a:bT):Le (WL c a) (yF c a):=by
 unfold WL yF
 repeat' (first | with_reducible exact Le.refl _ | with_reducible refine Le.bind ?_ (fun _ => ?_) | with_reducible refine Le.cond _ ?_ ?_ | with_reducible refine Le.aD (fun _ _ => ?_) _ _ | with_reducible refine Le.iter (fun _ => ?_) _ _ | with_reducible refine Le.elim (fun _ => ?_) (fun _ => ?_) _)
noncomputable def Fc (c:ax) (a:bT):Option (List Bool):=
 (ua (WL c a) fun r1=>(ua (ei 1 (r1.length:Int)) fun k1=>(ua (aD (σ:=(List Bool)) (ρ:=Unit) (r1.length:Int) (fun i1 s1=>(ua (ze r1 (i1:Int)) fun e1=>(ua (zi k1 (i1:Int)) fun k2=>(ua (s1[k2]?) fun e2=>some (.inl (s1.set k2 (e1 == (-1)))))))) (ud k1 false)) (ub (fun (s1:(List Bool))=>(ua (dH k1 s1.length) fun g1=>some s1)) (fun _=>none)))))
theorem zk8 (c:ax) (a:bT):Le (Fc c a) (yd c a):=by
 unfold Fc yd
 repeat' (first | with_reducible exact Le.refl _ | with_reducible exact My _ _ | with_reducible refine Le.bind ?_ (fun _ => ?_) | with_reducible refine Le.cond _ ?_ ?_ | with_reducible refine Le.aD (fun _ _ => ?_) _ _ | with_reducible refine Le.iter (fun _ => ?_) _ _ | with_reducible refine Le.elim (fun _ => ?_) (fun _ => ?_) _)
noncomputable def KM (c:ax):Option ((List aG)×Int):=
 (ua (WK c) fun r1=>(bif (r1.2 == 0) then (ua (kQ ({state:=r1.1,own:=false}:aH)) fun r2=>(ua (α:=(List aG) ⊕ Unit) (ua (cr (σ:=(List aG)×Int×(List (ByteArray×Bool))) (ρ:=(List aG) ⊕ Unit) (fun s1=>(bif decide (s1.2.1 < (s1.1.length:Int)) then (ua (α:=((List aG)×(List (ByteArray×Bool))) ⊕ Unit) (ua (ze s1.1 s1.2.1) fun e1=>(bif (e1.day == c.aX) then some (.inl (s1.1,s1.2.2)) else (ua (cr (σ:=(List aG)×Int×(List (ByteArray×Bool))) (ρ:=((List aG)×(List (ByteArray×Bool))) ⊕ Unit) (fun s2=>(bif decide (s2.2.1 < (c.aK.length:Int)) then (ua (α:=((List aG)×(List (ByteArray×Bool))) ⊕ Unit) (ua (ze s2.1 s1.2.1) fun e2=>(ua (Jc c e2 s2.2.1) fun r3=>(ua (kQ ({state:=r3.1,own:=false}:aH)) fun r4=>(bif ((zl r4 s2.2.2).getD false) then some (.inl (s2.1,s2.2.2)) else (bif ((s2.1.length:Int) == 1500) then some (.inr ()) else (ua (zJ (α:=aG) 80 s2.1 [r3.1]) fun e3=>some (.inl (e3,(zG r4 true s2.2.2))))))))) (ub (fun (v1:(List aG)×(List (ByteArray×Bool)))=>some (.inl (v1.1,(IntKind.i64.wrap (s2.2.1+1)),v1.2))) (fun (y1:Unit)=>some (.inr (.inr ()))))) else some (.inr (.inl (s2.1,s2.2.2))))) 40 (s1.1,(-1),s1.2.2)) (ub (fun (y2:(List aG)×(List (ByteArray×Bool)))=>some (.inl (y2.1,y2.2))) (fun (y3:Unit)=>some (.inr ())))))) (ub (fun (v2:(List aG)×(List (ByteArray×Bool)))=>some (.inl (v2.1,(IntKind.i64.wrap (s1.2.1+1)),v2.2))) (fun (y4:Unit)=>some (.inr (.inr ()))))) else some (.inr (.inl s1.1)))) 40 ([r1.1],0,(zG r2 true []))) (ub (fun (y5:(List aG))=>some (.inl y5)) (fun (y6:Unit)=>some (.inr ())))) (ub (fun (v3:(List aG))=>some (v3,0)) (fun (y7:Unit)=>some ([],3))))) else some ([],r1.2)))
theorem zjz (c:ax):Le (KM c) (Ww c):=by
 unfold KM Ww
 repeat' (first | with_reducible exact Le.refl _ | with_reducible exact VB _ | with_reducible exact Mw _ | with_reducible exact KJ _ _ _ | with_reducible refine Le.bind ?_ (fun _ => ?_) | with_reducible refine Le.cond _ ?_ ?_ | with_reducible refine Le.aD (fun _ _ => ?_) _ _ | with_reducible refine Le.iter (fun _ => ?_) _ _ | with_reducible refine Le.elim (fun _ => ?_) (fun _ => ?_) _)
def X9 (p:aG):List UInt8:=xt p.day++p.aE.flatMap xt++p.used.flatMap qi++p.aI.flatMap CF
def Wa (p:aG):Bool:=xr p.day&&(p.aE.all xr&&p.aI.all Jb)
theorem zhS {p:aG} (h:Wa p=true):X9 p=qN p:=by
 simp only [Wa,uc,ug] at h
 unfold X9 qN
 rw [jY h.1,wx (f:=xt) (g:=zK) (fun a ha=>jY (h.2.1 a ha)),wx (f:=CF) (g:=je) (fun a ha=>by
  have:=h.2.2 a ha
  simp only [Jb,uc] at this
  show xt a.aR++xt a.left++xt a.got++xt a.bz++qi a.bQ=zK a.aR++zK a.left++zK a.got++zK a.bz++qi a.bQ
  rw [jY this.1,jY this.2.1,jY this.2.2.1,jY this.2.2.2])]
def WM (p:aG):Option ByteArray:=bif Wa p&&decide ((X9 p).length≤1000000000) then some ⟨(X9 p).toArray⟩ else none
theorem zjA (p:aG):Le (WM p) (Zp p):=fun r h=>by
 unfold WM at h
 cases hq:(Wa p&&decide ((X9 p).length≤1000000000)) with
 | false=>rw [hq] at h;cases h
 | true=>
  rw [hq] at h
  simp only [uc,decide_eq_true_eq] at hq
  have e:=zhS hq.1
  unfold Zp
  rw [if_pos,←e]
  ·exact h
  ·have h1:=hq.1
   simp only [Wa,uc,ug] at h1
   simp only [Cj,uc,decide_eq_true_eq,ug]
   refine ⟨⟨⟨jF h1.1,fun x hx=>jF (h1.2.1 x hx)⟩,fun m hm => ?_⟩,by rw [←e];exact hq.2⟩
   have:=h1.2.2 m hm
   simp only [Jb,uc] at this
   exact ⟨⟨⟨jF this.1,jF this.2.1⟩,jF this.2.2.1⟩,jF this.2.2.2⟩
noncomputable def Fe (p1:List Int):Option ((List Int)):=
 (ua (cr (σ:=Int×Int×(List Int)) (ρ:=(List Int)) (fun s1=>(bif decide (s1.1 < s1.2.1) then (ua (zi p1.length s1.2.1) fun k1=>(ua (s1.2.2[k1]?) fun e1=>(ua (zi p1.length s1.1) fun k2=>(ua (s1.2.2[k2]?) fun e2=>(ua ((s1.2.2.set k2 e1)[k1]?) fun e3=>some (.inl ((IntKind.i64.wrap (s1.1+1)),(IntKind.i64.wrap (s1.2.1 - 1)),((s1.2.2.set k2 e1).set k1 e2)))))))) else some (.inr s1.2.2))) 40 (0,(IntKind.i64.wrap ((p1.length:Int) - 1)),p1)) (fun (y1:(List Int))=>some y1))
theorem zk9 (p1:List Int):Le (Fe p1) (XJ p1):=by
 unfold Fe XJ
 repeat' (first | with_reducible exact Le.refl _ | with_reducible refine Le.bind ?_ (fun _ => ?_) | with_reducible refine Le.cond _ ?_ ?_ | with_reducible refine Le.aD (fun _ _ => ?_) _ _ | with_reducible refine Le.iter (fun _ => ?_) _ _ | with_reducible refine Le.elim (fun _ => ?_) (fun _ => ?_) _)
noncomputable def Ff (ck:Option (List (Int×bO))) (n:Int):Option (List Int):=
 ua (cr (σ:=List Int×Int) (ρ:=List Int) (Yz ck) 60 ([],n)) fun l=>ua (Fe l) fun r=>ua (dH l.length r.length) fun _=>some r
theorem znh (ck:Option (List (Int×bO))) (n:Int):Le (Ff ck n) (YA ck n):=by
 unfold Ff YA
 exact Le.bind (Le.iter (fun _=>Le.refl _) _ _) fun _=>Le.bind (zk9 _) fun _=>Le.refl _
noncomputable def Fg (a:bT) (dO:List Int):Option (List Int):=
 (ua (ua (cr (σ:=(List Int)×Int) (ρ:=(List Int)) (fun s1=>(ua (ze dO s1.2) fun e1=>(bif decide (0 < e1) then (ua (ze a.aU s1.2) fun e2=>(bif e2.own then (ua (ze a.bp s1.2) fun e3=>(ua (ze e3 0) fun e4=>some (.inl (s1.1,e4.to)))) else (ua (ze a.bp s1.2) fun e5=>(ua (Yw e5 dO s1.2) fun r1=>(ua (ze a.bp s1.2) fun e6=>(ua (ze e6 r1) fun e7=>(ua (zJ (α:=Int) 8 s1.1 [e7.step]) fun e8=>some (.inl (e8,e7.to))))))))) else some (.inr s1.1)))) 40 ([],0)) (fun (y1:(List Int))=>some y1)) fun (v1:(List Int))=>some v1)
theorem zla (a:bT) (dO:List Int):Le (Fg a dO) (Yx a dO):=by
 unfold Fg Yx
 repeat' (first | with_reducible exact Le.refl _ | with_reducible refine Le.bind ?_ (fun _ => ?_) | with_reducible refine Le.cond _ ?_ ?_ | with_reducible refine Le.aD (fun _ _ => ?_) _ _ | with_reducible refine Le.iter (fun _ => ?_) _ _ | with_reducible refine Le.elim (fun _ => ?_) (fun _ => ?_) _)
noncomputable def KN (c:ax) (states:List aG):Option (Option (List (Int×bO))):=
 (ua (aD (σ:=(List (ByteArray×Int))) (ρ:=Unit) (states.length:Int) (fun i1 s1=>(ua (ze states (i1:Int)) fun e1=>(ua (WM e1) fun r1=>some (.inl (zG r1 (i1:Int) s1))))) []) (ub (fun (s1:(List (ByteArray×Int)))=>(ua (aD (σ:=(List (Int×bO))) (ρ:=Unit) (states.length:Int) (fun i2 s2=>(ua (ua (ze states (i2:Int)) fun e2=>(bif (e2.day == c.aX) then some s2 else (ua (cr (σ:=Int×(List (Int×bO))) (ρ:=(List (Int×bO))) (fun s3=>(bif decide (s3.1 < (c.aK.length:Int)) then (ua (ua (Jc c e2 s3.1) fun r2=>(ua (WM r2.1) fun r3=>(ua (bif ((zl ((zl r3 s1).getD 0) s3.2).isSome) then some false else some (!(((zl r3 s1).getD 0) == 0))) fun v1=>(bif v1 then some (zG ((zl r3 s1).getD 0) ({from_:=(i2:Int),step:=s3.1}:bO) s3.2) else some s3.2)))) fun (v2:(List (Int×bO)))=>some (.inl ((IntKind.i64.wrap (s3.1+1)),v2))) else some (.inr s3.2))) 40 ((-1),s2)) (fun (y1:(List (Int×bO)))=>some y1)))) fun (v3:(List (Int×bO)))=>some (.inl v3))) []) (ub (fun (s2:(List (Int×bO)))=>some (some s2)) (fun _=>none)))) (fun _=>none)))
theorem zjB (c:ax) (states:List aG):Le (KN c states) (Wx c states):=by
 unfold KN Wx
 repeat' (first | with_reducible exact Le.refl _ | with_reducible exact zjA _ | with_reducible exact KJ _ _ _ | with_reducible refine Le.bind ?_ (fun _ => ?_) | with_reducible refine Le.cond _ ?_ ?_ | with_reducible refine Le.aD (fun _ _ => ?_) _ _ | with_reducible refine Le.iter (fun _ => ?_) _ _ | with_reducible refine Le.elim (fun _ => ?_) (fun _ => ?_) _)
noncomputable def Wb (c:ax) (states:List aG):Option (List bF):=
 (ua (aD (σ:=(List bF)×(Option (List (Int×bO)))) (ρ:=Unit) (c.ay.length:Int) (fun i1 s1=>(ua (aD (σ:=(List bF)×(Option (List (Int×bO)))) (ρ:=Unit) (c.ay.length:Int) (fun i2 s2=>(ua (ua (XI c (i1:Int) (i2:Int)) fun r1=>(bif r1 then (ua (aD (σ:=(List bF)×(Option (List (Int×bO)))) (ρ:=(List bF)×(Option (List (Int×bO)))) (states.length:Int) (fun i3 s3=>(ua (ze states (i3:Int)) fun e1=>(ua (Ku c e1 (i1:Int) (i2:Int)) fun r2=>(bif r2 then (ua (bif s3.2.isSome then some s3.2 else (ua (KN c states) fun r3=>some r3)) fun (v1:(Option (List (Int×bO))))=>(ua (Ff v1 (i3:Int)) fun r4=>(ua (wh 4 (-1) (i1:Int) (i2:Int) r4) fun r5=>(ua (zJ (α:=bF) 56 s3.1 [r5]) fun e2=>some (.inr (e2,v1)))))) else some (.inl (s3.1,s3.2)))))) (s2.1,s2.2)) (ub (fun (s3:(List bF)×(Option (List (Int×bO))))=>some (s3.1,s3.2)) (fun (y1:(List bF)×(Option (List (Int×bO))))=>some (y1.1,y1.2)))) else some (s2.1,s2.2))) fun (v2:(List bF)×(Option (List (Int×bO))))=>some (.inl (v2.1,v2.2)))) (s1.1,s1.2)) (ub (fun (s2:(List bF)×(Option (List (Int×bO))))=>some (.inl (s2.1,s2.2))) (fun _=>none)))) ([],none)) (ub (fun (s1:(List bF)×(Option (List (Int×bO))))=>some s1.1) (fun _=>none)))
theorem zfG (c:ax) (states:List aG):Le (Wb c states) (Qm c states):=by
 unfold Wb Qm
 repeat' (first | with_reducible exact Le.refl _ | with_reducible exact zjB _ _ | with_reducible exact znh _ _ | with_reducible refine Le.bind ?_ (fun _ => ?_) | with_reducible refine Le.cond _ ?_ ?_ | with_reducible refine Le.aD (fun _ _ => ?_) _ _ | with_reducible refine Le.iter (fun _ => ?_) _ _ | with_reducible refine Le.elim (fun _ => ?_) (fun _ => ?_) _)
noncomputable def Mz (c:ax):Option ((List bF)×Int):=
 (ua (KM c) fun r1=>(bif (r1.2 == 0) then (ua (aD (σ:=(List bF)) (ρ:=Int) c.aW (fun i1 s1=>(ua (α:=(List bF) ⊕ Int) (ua (KL c (i1:Int)) fun r2=>(bif (r2.2 == 0) then (ua (WL c r2.1) fun r3=>(ua (ze r3 0) fun e1=>(bif decide (0≤e1) then (ua (Fg r2.1 r3) fun r4=>(ua (wh 1 (i1:Int) (-1) (-1) r4) fun r5=>(ua (zJ (α:=bF) 56 s1 [r5]) fun e2=>some (.inl e2)))) else some (.inl s1)))) else some (.inr r2.2))) (ub (fun (v1:(List bF))=>some (.inl v1)) (fun (y1:Int)=>some (.inr y1))))) []) (ub (fun (s1:(List bF))=>(ua (aD (σ:=(List bF)×(List bF)) (ρ:=Unit) (c.ay.length:Int) (fun i2 s2=>(ua (Yy (i2:Int) r1.1 s2.1 c s2.2) fun r6=>some (.inl (r6.1,r6.2)))) (s1,[])) (ub (fun (s2:(List bF)×(List bF))=>(ua (zJ (α:=bF) 56 s2.1 s2.2) fun e3=>(ua (Wb c r1.1) fun r7=>(ua (zJ (α:=bF) 56 e3 r7) fun e4=>some (e4,0))))) (fun _=>none)))) (fun (y2:Int)=>some ([],y2)))) else some ([],r1.2)))
theorem zlb (c:ax):Le (Mz c) (XK c):=by
 unfold Mz XK
 repeat' (first | with_reducible exact Le.refl _ | with_reducible exact zjz _ | with_reducible exact zjy _ _ | with_reducible exact My _ _ | with_reducible exact zla _ _ | with_reducible exact zfG _ _ | with_reducible refine Le.bind ?_ (fun _ => ?_) | with_reducible refine Le.cond _ ?_ ?_ | with_reducible refine Le.aD (fun _ _ => ?_) _ _ | with_reducible refine Le.iter (fun _ => ?_) _ _ | with_reducible refine Le.elim (fun _ => ?_) (fun _ => ?_) _)
def CG (n:Nat) (ab:List Int):Bool:=ab.length == 400&&((ul n).all (fun i=>decide (0≤ab.getD i 0)&&decide (ab.getD i 0≤(i:Int)))&&decide (n≤400))
theorem zoG {n:Nat} {ab:List Int} (h:CG n ab=true):UF n ab:=by
 simp only [CG,uc,beq_iff_eq,ug,List.mem_range,decide_eq_true_eq] at h
 exact ⟨h.1,fun i hi=>h.2.1 i hi,h.2.2⟩
noncomputable def JU (p1:Int) (p2:List Int):Option (Int×List Int):=bif decide (0≤p1)&&CG (p1.toNat+1) p2 then xo (p1.toNat+1) p1 p2 else none
theorem MA (p1:Int) (p2:List Int):Le (JU p1 p2) (xF p1 p2):=fun r h=>by
 unfold JU at h
 cases hb:(decide (0≤p1)&&CG (p1.toNat+1) p2) with
 | false=>rw [hb] at h;cases h
 | true=>
  rw [hb,bW] at h
  simp only [uc,decide_eq_true_eq] at hb
  have e:p1=(p1.toNat:Int):=by omega
  rw [e,LI (zoG hb.2) (Nat.lt_succ_self _),←e]
  exact h
noncomputable def Y3 (p1:Int) (p2:Int) (p3:List Int):Option ((List Int)):=
 (ua (JU p1 p3) fun r1=>(ua (JU p2 r1.2) fun r2=>(ua (JU p1 r2.2) fun r3=>(ua (JU p2 r3.2) fun r4=>(ua (zi 400 (if r3.1 < r4.1 then r4.1 else r3.1)) fun k1=>(ua (r4.2[k1]?) fun e1=>some (r4.2.set k1 (if r2.1 < r1.1 then r2.1 else r1.1))))))))
theorem zni (p1:Int) (p2:Int) (p3:List Int):Le (Y3 p1 p2 p3) (vi p1 p2 p3):=by
 unfold Y3 vi
 repeat' (first | with_reducible exact Le.refl _ | with_reducible exact MA _ _ | with_reducible refine Le.bind ?_ (fun _ => ?_) | with_reducible refine Le.cond _ ?_ ?_ | with_reducible refine Le.aD (fun _ _ => ?_) _ _ | with_reducible refine Le.iter (fun _ => ?_) _ _ | with_reducible refine Le.elim (fun _ => ?_) (fun _ => ?_) _)
noncomputable def kT (i:Nat) (s:List (List Int)×List (Int×Int)×List Int):Option ((List (List Int)×List (Int×Int)×List Int) ⊕ Unit):=
 ua (JU (i:Int) s.2.2) fun r=>
  bif r.1 == (i:Int) then some (.inl (s.1++[[(i:Int)]],zG (i:Int) (s.1.length:Int) s.2.1,r.2))
  else ua (ze s.1 ((zl r.1 s.2.1).getD 0)) fun l=>some (.inl (s.1.set ((zl r.1 s.2.1).getD 0).toNat (l++[(i:Int)]),s.2.1,r.2))
theorem KO (i:Nat) (s:List (List Int)×List (Int×Int)×List Int):Le (kT i s) (xN i s):=by
 unfold kT xN
 exact Le.bind (MA _ _) fun _=>Le.refl _
noncomputable def VC (n:Int) (above:List Int):Option (List (List Int)×List Int):=
 bif decide (n≤1000000000000) then ua (aD (σ:=List (List Int)×List (Int×Int)×List Int) (ρ:=Unit) n kT ([],[],above)) (ub (fun s=>some (s.1,s.2.2)) (fun _=>none)) else none
theorem zhV (n:Int) (above:List Int):Le (VC n above) (wk n above):=by
 unfold VC wk
 exact Le.cond _ (Le.bind (Le.aD KO _ _) fun _=>Le.refl _) (Le.refl _)
noncomputable def Z2 (c:ax):Option (List (List Int)):=
 (ua (xm c) fun r1=>(bif (r1.1 == 0) then (ua (aD (σ:=(List Int)) (ρ:=Unit) (c.ay.length:Int) (fun i1 s1=>(ua (zi 400 (i1:Int)) fun k1=>(ua (s1[k1]?) fun e1=>some (.inl (s1.set k1 (i1:Int)))))) (ud 400 0)) (ub (fun (s1:(List Int))=>(ua (Wy c.aK) fun r2=>(ua (aD (σ:=(List Int)×(List (Int×Int))) (ρ:=Unit) (c.ay.length:Int) (fun i2 s2=>(ua (ze c.ay (i2:Int)) fun e2=>(ua (bif r2 then (ua (Y3 0 (i2:Int) s2.1) fun r3=>some r3) else some s2.1) fun (v1:(List Int))=>(ua (aD (σ:=(List Int)) (ρ:=Unit) (e2.start.length:Int) (fun i3 s3=>(ua (ze e2.start (i3:Int)) fun e3=>(ua (Y3 (i2:Int) e3.clause s3) fun r4=>some (.inl r4)))) v1) (ub (fun (s3:(List Int))=>(ua (kK e2) fun r5=>(ua (aD (σ:=(List Int)×(List (Int×Int))) (ρ:=Unit) (r5.length:Int) (fun i4 s4=>(ua (ua (ze r5 (i4:Int)) fun e4=>(bif (zl e4 s4.2).isSome then (ua (Y3 ((zl e4 s4.2).getD 0) (i2:Int) s4.1) fun r6=>some (r6,s4.2)) else some (s4.1,(zG e4 (i2:Int) s4.2)))) fun (v2:(List Int)×(List (Int×Int)))=>some (.inl (v2.1,v2.2)))) (s3,s2.2)) (ub (fun (s4:(List Int)×(List (Int×Int)))=>some (.inl (s4.1,s4.2))) (fun _=>none))))) (fun _=>none)))))) (s1,[])) (ub (fun (s2:(List Int)×(List (Int×Int)))=>(ua (VC (c.ay.length:Int) s2.1) fun r7=>some r7.1)) (fun _=>none))))) (fun _=>none))) else some []))
theorem J1 (c:ax):Le (Z2 c) (qj c):=by
 unfold Z2 qj
 repeat' (first | with_reducible exact Le.refl _ | with_reducible exact zni _ _ _ | with_reducible exact zhV _ _ | with_reducible refine Le.bind ?_ (fun _ => ?_) | with_reducible refine Le.cond _ ?_ ?_ | with_reducible refine Le.aD (fun _ _ => ?_) _ _ | with_reducible refine Le.iter (fun _ => ?_) _ _ | with_reducible refine Le.elim (fun _ => ?_) (fun _ => ?_) _)
noncomputable def Fh (c:ax) (ay:List Int):Option (ax×Int):=
 (ua (xm c) fun r1=>(bif (r1.1 == 0) then (ua (aD (σ:=Int) (ρ:=Unit) (ay.length:Int) (fun i1 s1=>(ua (ze ay (i1:Int)) fun e1=>(ua (bif decide (e1≤s1) then some true else some (decide ((c.ay.length:Int)≤e1))) fun v1=>(bif v1 then some (.inr ()) else some (.inl e1))))) (-1)) (ub (fun (s1:Int)=>(ua (zR 8 c.aE) fun e2=>(ua (zR 48 c.bE) fun e3=>(ua (zR 56 c.aK) fun e4=>(ua (zR 8 c.off) fun e5=>(ua (ei 136 (ay.length:Int)) fun k1=>(ua (aD (σ:=(List aO)) (ρ:=Unit) (ay.length:Int) (fun i2 s2=>(ua (ze ay (i2:Int)) fun e6=>(ua (ze c.ay e6) fun e7=>(ua (zR 16 e7.start) fun e8=>(ua (aD (σ:=(List bl)) (ρ:=Unit) (e8.length:Int) (fun i3 s3=>(ua (zi e8.length (i3:Int)) fun k2=>(ua (s3[k2]?) fun e9=>(ua (wI ay e9.clause) fun r2=>(bif r2.2 then (ua (zi e8.length (i3:Int)) fun k3=>(ua (s3[k3]?) fun dW=>some (.inl (s3.set k3 ({clause:=r2.1,is:=dW.is}:bl))))) else some (.inr ())))))) e8) (ub (fun (s3:(List bl))=>(ua (zi k1 (i2:Int)) fun k4=>(ua (s2[k4]?) fun lF=>some (.inl (s2.set k4 ({e7 with start:=List.take e8.length s3}:aO)))))) (fun (y2:Unit)=>some (.inr ())))))))) (ud k1 ({kind:=0,bK:=0,act:=0,need:=0,start:=[],after:=0,br:=0,bC:=false,final:=false,bg:=0,resume:=0,value:=({num:=0,den:=0}:aQ),unit:=0,to:=0,bt:=false}:aO))) (ub (fun (s2:(List aO))=>(ua (dH k1 s2.length) fun g1=>some (({aW:=c.aW,aE:=e2,bE:=e3,aK:=e4,ay:=s2,aX:=c.aX,off:=e5}:ax),0))) (fun (y3:Unit)=>some (({aW:=0,aE:=[],bE:=[],aK:=[],ay:=[],aX:=0,off:=[]}:ax),1)))))))))) (fun (y1:Unit)=>some (({aW:=0,aE:=[],bE:=[],aK:=[],ay:=[],aX:=0,off:=[]}:ax),1)))) else some (({aW:=0,aE:=[],bE:=[],aK:=[],ay:=[],aX:=0,off:=[]}:ax),1)))
theorem zlc (c:ax) (ay:List Int):Le (Fh c ay) (kL c ay):=by
 unfold Fh kL
 repeat' (first | with_reducible exact Le.refl _ | with_reducible exact Qx _ _ | with_reducible refine Le.bind ?_ (fun _ => ?_) | with_reducible refine Le.cond _ ?_ ?_ | with_reducible refine Le.aD (fun _ _ => ?_) _ _ | with_reducible refine Le.iter (fun _ => ?_) _ _ | with_reducible refine Le.elim (fun _ => ?_) (fun _ => ?_) _)
noncomputable def Fi (p1:List Int) (p2:ax) (p3:aG) (p4:Bool) (p5:Int) (p6:List (List Int)):Option (Int×(List (List Int))):=
 (ua (Y2 p2 p5 ({state:=p3,own:=p4}:aH)) fun r1=>(ua (ua (bif (r1.2 == 0) then (ua (Fc p2 r1.1) fun r2=>(ua (ze r2 0) fun e1=>some (!e1))) else some false) fun v1=>(bif v1 then (ua (zJ (α:=List Int) 24 p6 [p1]) fun e2=>some e2) else some p6)) fun (v2:(List (List Int)))=>some (r1.2,v2)))
theorem zld (p1:List Int) (p2:ax) (p3:aG) (p4:Bool) (p5:Int) (p6:List (List Int)):Le (Fi p1 p2 p3 p4 p5 p6) (QX p1 p2 p3 p4 p5 p6):=by
 unfold Fi QX
 repeat' (first | with_reducible exact Le.refl _ | with_reducible exact Mx _ _ _ | with_reducible exact zk8 _ _ | with_reducible refine Le.bind ?_ (fun _ => ?_) | with_reducible refine Le.cond _ ?_ ?_ | with_reducible refine Le.aD (fun _ _ => ?_) _ _ | with_reducible refine Le.iter (fun _ => ?_) _ _ | with_reducible refine Le.elim (fun _ => ?_) (fun _ => ?_) _)
noncomputable def Fj (p1:ax) (p2:Int) (p3:aH) (p4:Int) (p5:List (List Int)):Option (Int×(List (List Int))):=
 (ua (bif decide (p2 < 0) then some true else (bif decide (p1.aW≤p2) then some true else (ua (jD p1 p3.state) fun r1=>some (!r1)))) fun v1=>(bif v1 then some (1,p5) else (ua (ua (Z2 p1) fun r2=>(ua (aD (σ:=Int×(List (List Int))) (ρ:=Int×(List (List Int))) (r2.length:Int) (fun i1 s1=>(ua (ze r2 (i1:Int)) fun e1=>(ua (Fh p1 e1) fun r3=>(ua (bif (r3.2 == 0) then (ua (xp e1 p3.state) fun r4=>(ua (Fi e1 r3.1 r4 p3.own p4 s1.2) fun r5=>some (r5.1,r5.2))) else some (r3.2,s1.2)) fun (v2:Int×(List (List Int)))=>(bif (v2.1 == 0) then some (.inl (v2.1,v2.2)) else some (.inr (v2.1,v2.2))))))) (0,p5)) (ub (fun (s1:Int×(List (List Int)))=>some (s1.1,s1.2)) (fun (y1:Int×(List (List Int)))=>some (y1.1,y1.2))))) fun (v3:Int×(List (List Int)))=>some (v3.1,v3.2))))
theorem zle (p1:ax) (p2:Int) (p3:aH) (p4:Int) (p5:List (List Int)):Le (Fj p1 p2 p3 p4 p5) (QY p1 p2 p3 p4 p5):=by
 unfold Fj QY
 repeat' (first | with_reducible exact Le.refl _ | with_reducible exact J1 _ | with_reducible exact zlc _ _ | with_reducible exact zld _ _ _ _ _ _ | with_reducible refine Le.bind ?_ (fun _ => ?_) | with_reducible refine Le.cond _ ?_ ?_ | with_reducible refine Le.aD (fun _ _ => ?_) _ _ | with_reducible refine Le.iter (fun _ => ?_) _ _ | with_reducible refine Le.elim (fun _ => ?_) (fun _ => ?_) _)
noncomputable def MC (c:ax) (zw:Int) (p:aH):Option ((List (List Int))×Int):=
 (ua (Fj c zw p zw []) fun r1=>(bif (r1.1 == 0) then some (r1.2,0) else some ([],r1.1)))
theorem zlf (c:ax) (zw:Int) (p:aH):Le (MC c zw p) (ye c zw p):=by
 unfold MC ye
 repeat' (first | with_reducible exact Le.refl _ | with_reducible exact zle _ _ _ _ _ | with_reducible refine Le.bind ?_ (fun _ => ?_) | with_reducible refine Le.cond _ ?_ ?_ | with_reducible refine Le.aD (fun _ _ => ?_) _ _ | with_reducible refine Le.iter (fun _ => ?_) _ _ | with_reducible refine Le.elim (fun _ => ?_) (fun _ => ?_) _)
abbrev CH (act after:Int):aO:={kind:=1,bK:=0,act:=act,need:=1,start:=[],after:=after,br:=0,bC:=false,final:=true,bg:=(-1),resume:=(-1),value:=({num:=0,den:=1}:aQ),unit:=(-1),to:=(-1),bt:=false}
abbrev KP:ax:={aW:=2,aE:=[0,1],bE:=[],aK:=[({kind:=1,bK:=0,bP:=0,to:=(-1),unit:=(-1),dh:=({num:=0,den:=1}:aQ)}:aZ),({kind:=1,bK:=0,bP:=0,to:=(-1),unit:=(-1),dh:=({num:=0,den:=1}:aQ)}:aZ),({kind:=1,bK:=1,bP:=0,to:=(-1),unit:=(-1),dh:=({num:=0,den:=1}:aQ)}:aZ)],ay:=[CH 0 2,CH 2 2],aX:=3,off:=[]}
abbrev MD:aj:={aR:=1,left:=2,got:=0,bz:=0,bQ:=false}
abbrev SP:aG:={day:=0,aE:=[0,1],used:=[false,false,false],aI:=[MD,MD]}
abbrev FP:List bF:=[{kind:=1,zw:=0,clause:=(-1),other:=(-1),trace:=[(-1),(-1)]}]
theorem zp2:qM KP=some (SP,0):=VB _ _ (by kernel_rfl)
theorem zp3:ye KP 0 ({state:=SP,own:=true}:aH)=some (([[1]],0):List (List Int)×Int):=zlf _ _ _ _ (by kernel_rfl)
theorem zp4:XK KP=some (FP,0):=zlb _ _ (by kernel_rfl)
theorem zp5:qj KP=some ([[0],[1]]:List (List Int)):=J1 _ _ (by kernel_rfl)
theorem zfH:Zf=some true:=by
 refine aq.eq ?_
 unfold Zf
 refine aq.az (v:=CH 0 2) rfl ?_
 refine aq.az (v:=CH 2 2) rfl ?_
 refine aq.az (v:=()) rfl ?_
 refine aq.az (v:=(SP,0)) zp2 ?_
 refine aq.az (v:=([[1]],0)) zp3 ?_
 refine aq.az (v:=(FP,0)) zp4 ?_
 refine aq.az (v:=false) ?_ ?_
 ·show (ua (qj KP) fun r7=>some (!((r7.length:Int) == 2)))=some false
  rw [zp5];rfl
 refine aq.ite (fun h=>by cases h) (fun _ => ?_)
 exact ⟨true,by kernel_rfl,rfl⟩
end Go.Proofs.YtlpmnmbebkdocaaGreatDoor
namespace Go.Proofs.YtlpmnmbebkdocaaGreatDoor
open Go.RowKit
set_option linter.unusedSimpArgs false
set_option linter.unusedVariables false
set_option maxRecDepth 100000
section
section
variable {c:ax} {zw:Int} {s0:aG} {a:bT}
theorem zhX {s:aG} {v:eF} (h:VA c zw s v):v.move=qb c zw (bN s):=by
 rcases h with ⟨h1,h2⟩ | ⟨_,_,h3,_⟩
 ·rw [h2]
  unfold qb
  rw [h1,Bool.and_false];rfl
 ·exact h3
theorem nB.pre {l l2:List Int} (h:nB c zw s0 l l2):∃ r,l2=l++r:=by
 induction h with
 | stop _=>exact ⟨[],by simp⟩
 | go _ _ ih=>obtain ⟨r,hr⟩:=ih;exact ⟨_::r,by rw [hr,uj];rfl⟩
theorem Fw.pre {os l l2:List Int} (h:Fw c zw s0 os l l2):∃ r,l2=l++r:=by
 induction h with
 | done=>exact ⟨[],by simp⟩
 | stop _=>exact ⟨[],by simp⟩
 | own _ ha _ _ ih=>
  obtain ⟨r,hr⟩:=ih
  obtain ⟨q,hq⟩:=ha.pre
  exact ⟨q++r,by rw [hr,hq,uj]⟩
 | @BG o os l l1 l2 _ ha _ _ ih=>
  obtain ⟨r,hr⟩:=ih
  obtain ⟨q,hq⟩:=ha.pre
  exact ⟨q++o::r,by rw [hr,hq];simp⟩
theorem zlg (hc:c.Ok) (A:bD c zw (bN s0) a) {s:aG} (hq:bN s∈a.aU):∃ v,kM c zw s=some (v,0)∧VA c zw s v:=by
 have hv:VS c s:=A.F.inv.vs _ hq
 have cU:jK c zw s=true:=qX.2 ⟨A.p0,A.p1,hv⟩
 obtain ⟨ρ,R,hC⟩:=Mp hc hv.cv
 obtain ⟨⟨e2,v⟩,hl,hlr⟩:=zdA hc cU R hC
 obtain ⟨⟨b,e⟩,hf,he,B,_⟩:=zk4 hc A hq
 simp only at he B
 subst he
 obtain ⟨⟨w,e3⟩,hA,k1,k2⟩:=Mt hc hv B hf
 simp only at k1 k2
 subst k1
 rcases hlr with ⟨_,hno⟩ | ⟨j1,j2⟩
 ·exact absurd ⟨b,B⟩ hno
 simp only at j1 j2
 subst j1
 have hw:=zfA hc cU R j2 k2
 refine ⟨w,?_,k2⟩
 have hAC:kM c zw s=some (bif v.1 then ({safe:=v.1,move:=(bif v.2.2.2 then -2 else v.2.1),wait:=v.2.2.1},0) else ({safe:=false,move := -2,wait:=0},0)):=by
  unfold kM
  rw [hl]
  simp only [aV]
  cases v.1<;>cases v.2.2.2<;>rfl
 rw [hAC,hw]
 cases v.1<;>simp
theorem zjC (hc:c.Ok) (A:bD c zw (bN s0) a) (hv:VS c s0):Q0 c zw (bN s0)=some (zz c zw (bN s0),0):=by
 have cU:jK c zw (bN s0).state=true:=qX.2 ⟨A.p0,A.p1,hv⟩
 obtain ⟨ρ,R,hC⟩:=Mp hc hv.cv
 obtain ⟨⟨l,e⟩,hL,hr⟩:=zjs hc cU R hC
 rcases hr with ⟨_,_,hno⟩ | ⟨j1,j2,_⟩
 ·exact absurd ⟨a,A⟩ hno
 simp only at j1 j2
 subst j1
 rw [zjt hL]
 have hw:=zfy hc cU R
 rw [←j2] at hw
 congr 2
 cases hs:zz c zw (bN s0) with
 | true=>rw [hw.1 hs];rfl
 | false=>
  have:l≠[]:=fun e=>by rw [hw.2 e] at hs;cases hs
  have:l.length≠0:=fun e=>this (List.length_eq_zero_iff.1 e)
  simp only [beq_self_eq_true,Bool.true_and]
  exact beq_eq_false_iff_ne.2 (by omega)
theorem zjD {s:aG} (hc:c.Ok) (hv:VS c s):yH s s=some true:=by
 obtain ⟨h1,h2,h3⟩:=VS.s9 hc hv
 rw [zjl s s (by omega) (by omega) (by omega),vJ.2 rfl]
end
theorem Wc (c:ax) (zw:Int) (cw:List Int) (hc:ax.Ok c) (Fk:dR .i64 zw) (hot:lD 8 (fun x:Int=>dR .i64 x) cw):wl c zw cw=some true:=by
 refine aq.eq ?_
 unfold wl
 refine aq.az zfH ?_
 refine aq.bind (P:=fun b:Bool=>b=true∨(b=false∧CA c=true∧cw.length≤20)) ?_ ?_
 ·refine aq.az (zm5 hc) ?_
  refine aq.ite (fun ht=>aq.some ?_) (fun _=>aq.some (.inl rfl))
  by_cases h:20 < (cw.length:Int)
  ·exact .inl (decide_eq_true h)
  ·exact .inr ⟨decide_eq_false h,ht,by omega⟩
 rintro b (rfl | ⟨rfl,BK,oa⟩)
 ·exact aq.ite (fun _=>aq.some rfl) (fun h=>by cases h)
 refine aq.ite (fun h=>by cases h) (fun _ => ?_)
 refine aq.bind (zfB hc zw cw (by omega)) ?_
 rintro ⟨l,e⟩ Fl
 obtain ⟨⟨q0,e0⟩,BL⟩:=zhR hc
 refine aq.az BL ?_
 rcases Fl with ⟨h1,_⟩ | ⟨h1,s0,a,hst,hBd,A,fY,ht,pX,hl,hos⟩
 ·simp only at h1
  refine aq.az (v:=true) (by rw [show (((l,e):List Int×Int).2 == 0)=false from beq_eq_false_iff_ne.2 h1];rfl) ?_
  exact aq.ite (fun _=>aq.some rfl) (fun h=>by cases h)
 simp only at h1 ht pX hl
 subst h1
 have pR:=hst.symm.trans BL
 simp only [Option.some.injEq,Prod.mk.injEq] at pR
 obtain ⟨rfl,rfl⟩:=pR
 refine aq.az (v:=false) rfl ?_
 refine aq.ite (fun h=>by cases h) (fun _ => ?_)
 refine aq.az (zjC hc A fY) ?_
 refine aq.ite (fun _ => ?_) (fun h=>by cases h)
 have dY:c.ay.length≤6∧c.aK.length≤8:=by
  simp only [CA,YQ,uc,decide_eq_true_eq,Bool.not_eq_true',Bool.or_eq_false_iff,decide_eq_false_iff_not] at BK
  omega
 have hpre:∀ l1:List Int,(∃ r,l=l1++r)→VS c (bY c s0 l1)∧bN (bY c s0 l1)∈a.aU∧l1.length≤4000∧(zz c zw (bN s0)=true→zz c zw (bN (bY c s0 l1))=true∧qF c (bY c s0 l1) zw=false):=by
  rintro l1 ⟨r,rfl⟩
  have hk:l1.length≤(l1++r).length:=by simp
  have e1:(l1++r).take l1.length=l1:=by simp
  have g1:=ht.vs hc fY l1.length hk
  have g2:=Mv hc A ht l1.length hk
  rw [e1] at g1 g2
  refine ⟨g1,g2,by omega,fun hs => ?_⟩
  have hts:=zhQ hc fY pX hos (.nil hs)
  have g3:YY c zw (bY c s0 ((l1++r).take l1.length)):=hts.all l1.length hk
  rw [e1] at g3
  exact ⟨g3,vK (zX.1 g3)⟩
 generalize Fm:zz c zw (bN s0)=first at hpre
 refine aq.bind (P:=fun o:(List Int×Int×List Int×List Bool×List aj) ⊕ Unit=>o=.inl (l,kN (bY c s0 l))) ?_ ?_
 ·refine aq.bind (P:=fun o:(List Int×Int×List Int×List Bool×List aj) ⊕ Unit=>o=.inl (l,kN (bY c s0 l))) (aq.iter (fun s:List Int×Int×Int×List Int×List Bool×List aj=>∃ (i:Nat) (l1:List Int),i≤cw.length∧s=(l1,(i:Int),kN (bY c s0 l1))∧Fw c zw s0 (cw.drop i) l1 l) (fun s=>((cw.length:Int) - s.2.1).toNat) ⟨0,[],by omega,rfl,pX⟩ ?_) ?_
  ·rintro _ ⟨i,l1,hi,rfl,hF⟩
   obtain ⟨gD,hin1,gJ,hs1⟩:=hpre l1 hF.pre
   have ME:=gD.day
   refine aq.az (v:=decide ((i:Int) < cw.length)&&decide ((bY c s0 l1).day < c.aX)) (by
    show (bif decide ((i:Int) < cw.length) then some (decide ((bY c s0 l1).day < c.aX)) else some false)=_
    cases decide ((i:Int) < cw.length)<;>rfl) ?_
   refine aq.ite (fun hlt => ?_) (fun hge => ?_)
   rotate_left
   ·have:l=l1:=by
     rcases Nat.lt_or_ge i cw.length with hlt | oc
     ·rw [ui hlt] at hF
      have hd:(bY c s0 l1).day=c.aX:=by
       simp only [Bool.and_eq_false_iff,decide_eq_false_iff_not] at hge
       omega
      cases hF with
      | stop _=>rfl
      | own h=>exact absurd hd h
      | BG h=>exact absurd hd h
     ·rw [List.drop_of_length_le oc] at hF
      cases hF;rfl
    subst this
    exact aq.some rfl
   simp only [uc,decide_eq_true_eq] at hlt
   have nH:i < cw.length:=by omega
   rw [ui nH] at hF
   have Fo:=hos _ (uq nH)
   have CI:ze cw (i:Int)=some cw[i]:=zy (ue nH)
   generalize cw[i]=o at hF Fo CI
   have BM:∃ l2,nB c zw s0 l1 l2∧((xa c (bY c s0 l2) o=zw∧Fw c zw s0 (cw.drop (i+1)) l2 l)∨(xa c (bY c s0 l2) o≠zw∧Fw c zw s0 (cw.drop (i+1)) (l2++[o]) l)):=by
    cases hF with
    | stop h=>omega
    | own h ha hd t=>exact ⟨_,ha,.inl ⟨hd,t⟩⟩
    | BG h ha hd t=>exact ⟨_,ha,.inr ⟨hd,t⟩⟩
   obtain ⟨l2,eK,fX⟩:=BM
   have nF:∃ r,l=l2++r:=by
    rcases fX with ⟨_,t⟩ | ⟨_,t⟩
    ·exact t.pre
    ·obtain ⟨r,hr⟩:=t.pre
     exact ⟨o::r,by rw [hr];simp⟩
   refine aq.bind (P:=fun v:(List Int×Int×List Int×List Bool×List aj) ⊕ Unit=>∃ l3,v=.inl (l3,kN (bY c s0 l3))∧Fw c zw s0 (cw.drop (i+1)) l3 l) ?_ ?_
   ·refine aq.bind (P:=fun v:(List Int×Int×List Int×List Bool×List aj) ⊕ Unit=>v=.inl (l2,kN (bY c s0 l2))∧(bY c s0 l2).day=(bY c s0 l1).day) ?_ ?_
    ·refine aq.bind (P:=fun v:(List Int×Int×List Int×List Bool×List aj) ⊕ (Unit ⊕ (List Int×Int×List Int×List Bool×List aj))=>v=.inr (.inr (l2,kN (bY c s0 l2)))∧(bY c s0 l2).day=(bY c s0 l1).day)
      (aq.dP (n:=100) (fun n s=>∃ l3,s=(l3,kN (bY c s0 l3))∧nB c zw s0 l3 l2∧(bY c s0 l3).day=(bY c s0 l1).day∧yL c (bY c s0 l3)+n≤yL c (bY c s0 l1)) (by omega) ⟨l1,rfl,eK,rfl,by omega⟩ (fun n s hn hs => ?_) (fun s hs => ?_)) ?_
     ·obtain ⟨l3,rfl,tF,o6,htd⟩:=hs
      have hp3:∃ r,l=l3++r:=by
       obtain ⟨r,hr⟩:=tF.pre
       obtain ⟨r2,cy⟩:=nF
       exact ⟨r++r2,by rw [cy,hr,uj]⟩
      obtain ⟨tv,Fp,pE,hs3⟩:=hpre l3 hp3
      obtain ⟨w,hw,Ap⟩:=zlg hc A Fp
      refine aq.az (v:=(w,0)) hw ?_
      have Fq:=zhX Ap
      refine aq.az (v:=false) ?_ ?_
      ·show (bif true then (bif first then some (!w.safe) else some false) else some true)=_
       cases Fs:first with
       | false=>rfl
       | true=>rw [zhP Ap,(hs3 Fs).1];rfl
      refine aq.ite (fun h=>by cases h) (fun _ => ?_)
      have Ft:((w,(0:Int)).1.move == -2)=(qb c zw (bN (bY c s0 l3)) == -2):=by rw [←Fq]
      rw [Ft]
      refine aq.ite (fun hz => ?_) (fun hz => ?_)
      ·have hz:=beq_iff_eq.1 hz
       cases tF with
       | stop _=>exact aq.some ⟨rfl,o6⟩
       | go h _=>exact absurd hz h
      ·have hz:=beq_eq_false_iff_ne.1 hz
       cases tF with
       | stop h=>exact absurd h hz
       | go _ t=>
        obtain ⟨b0,b1,b2,_,_,b5⟩:=KG hc tv hz
        have hs:=(ja hc tv (by omega) b1 b2).1
        refine aq.az (v:=(zI c (bY c s0 l3) (qb c zw (bN (bY c s0 l3))),0)) (by rw [←Fq] at hs ⊢; exact hs) ?_
        refine aq.ite (fun _ => ?_) (fun h=>by cases h)
        refine aq.az (v:=l3++[qb c zw (bN (bY c s0 l3))]) (by
         show zJ 8 l3 [w.move]=_
         rw [Fq];exact xT (by simp;omega)) ?_
        have hmem:qb c zw (bN (bY c s0 l3))∈zq c zw (bN (bY c s0 l3)):=by
         unfold qb at hz ⊢
         cases hb:((bN (bY c s0 l3)).own&&zz c zw (bN (bY c s0 l3))) with
         | false=>rw [hb] at hz;exact absurd rfl hz
         | true=>
          rw [hb,bW] at hz
          rw [bW]
          cases MF:(zq c zw (bN (bY c s0 l3))).find? (fun m=>zz c zw (target c (bN (bY c s0 l3)) m)) with
          | none=>rw [MF] at hz;exact absurd rfl hz
          | some x=>exact List.mem_of_find?_eq_some MF
        obtain ⟨j,hj⟩:∃ j:Nat,qb c zw (bN (bY c s0 l3))=(j:Int):=⟨(qb c zw (bN (bY c s0 l3))).toNat,by omega⟩
        have MG:yL c (zI c (bY c s0 l3) (qb c zw (bN (bY c s0 l3)))) < yL c (bY c s0 l3):=by
         rw [hj] at hmem b1 ⊢
         exact Vy hc (bN (bY c s0 l3)) tv b2 A.p0 rfl (by omega) hmem
        refine aq.some ⟨l3++[qb c zw (bN (bY c s0 l3))],?_,t,?_,?_⟩
        ·rw [jh];rfl
        ·rw [jh,b5];exact o6
        ·rw [jh];omega
     ·obtain ⟨l3,_,_,_,htd⟩:=hs
      have:=zkZ hc gD
      omega
     ·rintro _ ⟨rfl,hd⟩
      exact aq.some ⟨rfl,hd⟩
    ·rintro _ ⟨rfl,hd2⟩
     simp only [uo]
     obtain ⟨nT,BE,gI,hs2⟩:=hpre l2 nF
     refine aq.az (v:=(xa c (bY c s0 l2) o == zw)) ?_ ?_
     ·show (ua (ze cw (i:Int)) fun e2=>(bif decide (0≤e2) then (ua (XL c (bY c s0 l2) e2) fun r8=>some (r8 == zw)) else some false))=_
      rw [CI,aV]
      by_cases hz:o = -1
      ·subst hz
       rw [decide_eq_false (by omega),b9]
       unfold xa
       rw [if_pos rfl,beq_eq_false_iff_ne.2 (by have:=A.p0;omega)]
      ·obtain ⟨j,rfl⟩:∃ j:Nat,o=(j:Int):=⟨o.toNat,by omega⟩
       have hjl:j < c.aK.length:=by omega
       rw [decide_eq_true (by omega),bW,zm6 hc nT (ue hjl)]
       unfold xa
       rw [if_neg hz,um,ue hjl]
       rfl
     refine aq.ite (fun hz => ?_) (fun hz => ?_)
     ·have hz:=beq_iff_eq.1 hz
      rcases fX with ⟨_,t⟩ | ⟨hne,_⟩
      ·exact aq.some ⟨l2,rfl,t⟩
      ·exact absurd hz hne
     ·have hz:=beq_eq_false_iff_ne.1 hz
      rcases fX with ⟨he,_⟩ | ⟨_,t⟩
      ·exact absurd he hz
      ·refine aq.az (v:=o) CI ?_
       have hs:=(ja hc nT Fo.1 Fo.2 (by omega)).1
       refine aq.az (v:=(zI c (bY c s0 l2) o,0)) hs ?_
       refine aq.ite (fun _ => ?_) (fun h=>by cases h)
       refine aq.az (v:=o) CI ?_
       refine aq.az (v:=l2++[o]) (xT (by simp;omega)) ?_
       obtain ⟨MH,_,_,MI⟩:=hpre (l2++[o]) t.pre
       rw [jh] at MH MI
       refine aq.az (v:=false) ?_ ?_
       ·show (bif first then (ua (ZM c (zI c (bY c s0 l2) o) zw) fun fI=>some fI) else some false)=_
        cases Fs:first with
        | false=>rfl
        | true=>rw [zjm hc MH A.p0 A.p1,(MI Fs).2];rfl
       refine aq.ite (fun h=>by cases h) (fun _=>aq.some ⟨l2++[o],?_,t⟩)
       rw [jh];rfl
   ·rintro _ ⟨l3,rfl,t⟩
    simp only [uo]
    refine aq.some ⟨⟨i+1,l3,nH,?_,t⟩,?_⟩
    ·show (l3,IntKind.i64.wrap ((i:Int)+1),kN (bY c s0 l3))=_
     rw [qw (by omega) (by omega)];rfl
    ·show ((cw.length:Int) - IntKind.i64.wrap ((i:Int)+1)).toNat < ((cw.length:Int) - (i:Int)).toNat
     rw [qw (by omega) (by omega)];omega
  ·rintro _ rfl
   exact aq.some rfl
 rintro _ rfl
 simp only [uo]
 refine aq.az (zk7 hc hst fY ht hl) ?_
 refine aq.az (v:=true) ?_ (aq.some rfl)
 have hvl:=ht.Af hc fY
 have cT:ze ((ul (l.length+1)).map fun k=>bY c s0 (l.take k)) (l.length:Int)=some (bY c s0 l):=by
  rw [zy (i:=l.length) (e:=bY c s0 l)]
  rw [List.getElem?_map,List.getElem?_range (by omega)]
  simp
 have Fu:wi l l=some true:=by rw [zne l l (by omega),beq_self_eq_true]
 show (bif true then (ua (wi l l) fun Bk=>(bif Bk then (bif true then (bif ((((ul (l.length+1)).map fun k=>bY c s0 (l.take k)).length:Int) == (IntKind.i64.wrap ((l.length:Int)+1))) then (ua (ze ((ul (l.length+1)).map fun k=>bY c s0 (l.take k)) (l.length:Int)) fun e6=>(ua (yH e6 (bY c s0 l)) fun Bl=>some Bl)) else some false) else some false) else some false)) else some false)=_
 rw [Fu,cT,qw (by omega) (by omega)]
 simp [zjD hc hvl]
end
end Go.Proofs.YtlpmnmbebkdocaaGreatDoor
namespace Go.Proofs.YtlpmnmbebkdocaaGreatDoor
open Go.ChangeShapes Go.WideShapes Go.RowKit
set_option maxRecDepth 100000
abbrev WN : List (String × DataW Unit) := [("math/bits.deBruijn32tab", Rows.laid_math_bits_deBruijn32tab), ("math/bits.deBruijn64tab", Rows.laid_math_bits_deBruijn64tab), ("internal/strconv.uint64pow10", Rows.laid_internal_strconv_uint64pow10)]
theorem zjE:(WN.filter fun x=>x.1 == wA)=[(wA,Lib.tabData .u64 Lib.pow10Tab)]:=by kernel_rfl
theorem zda {W:World} (h:laidMet Tryz.prog WN W):C0.tabs.p W∧C0.tabs.n≤W.heap.size:=by
 have h1:=h.filter (fun x=>x.1 == wA)
 rw [zjE] at h1
 have h2:C0.tabs.p W:=Lib.tabIs_of_head (g:=0) (t:=((Tryz.prog.globals[0]?).map (·.type)).getD 0) (e:=193) (n:=20)
  (by kernel_rfl) (by kernel_rfl) (by kernel_rfl) (by kernel_rfl) (by kernel_rfl) (by kernel_rfl) h1
 exact ⟨h2,Re h2⟩
def znj:DataW Unit→Array Value
 | .agg ds=>(ds.map fun d=>match d with | .lit (.int k n)=>Value.int k n | _=>Value.bool false).toArray
 | _ => #[]
def Fv (w:World) (g:Nat) (d:DataW Unit):World:={w with heap:=w.heap.modify g fun | .cells _ t f=>.cells (znj d) t f | o=>o}
noncomputable def MJ (os:Os):World:=
 Fv (Fv (Fv (World.holding Tryz.prog os ⟨#[],#[],[]⟩) 1 Rows.laid_math_bits_deBruijn32tab) 2 Rows.laid_math_bits_deBruijn64tab) 0 Rows.laid_internal_strconv_uint64pow10
theorem za1 (os:Os) (args:Array Value):laidMet Tryz.prog WN ((MJ os).forCall (fun _ _=>0) ⟨#[],args,[]⟩).memory:=
 laidMet_of_run3 8 (by kernel_rfl) (by kernel_rfl) (by kernel_rfl)
end Go.Proofs.YtlpmnmbebkdocaaGreatDoor
namespace Go.Proofs.YtlpmnmbebkdocaaGreatDoor.LTopAdviceByParts
open Go.ChangeShapes Go.WideShapes Go.ChangeAt Go.RowKit
set_option linter.unusedVariables false
set_option maxRecDepth 100000
theorem all (dA:List IV) (h:Ws [(true,ax.cN),(false,[.int .i64]),(false,[.slice 8 [.int .i64]])] dA):aJ C0 185 dA (.bool true):=by
 match dA,h with
 | [x0,x1,x2],⟨a0,a1,a2,_⟩=>
  obtain ⟨Aq,rfl,r0⟩:=a0
  obtain ⟨c,rfl,Fx⟩:=ax.ia r0
  obtain ⟨c1,_,e1,k1,n1⟩:=zh a1
  cases e1
  obtain ⟨zw,rfl,oS⟩:=zu k1
  obtain ⟨c2,_,e2,k2,n2⟩:=zh a2
  cases e2
  obtain ⟨cw,rfl,nR⟩:=qp yy k2
  exact XQ c zw cw true (Wc c zw cw Fx oS nR)
theorem own:ownKnob Tryz.prog.godebug=none:=by kernel_rfl
theorem laid:laidOutB Tryz.prog=true:=by kernel_rfl
theorem args:aL (A6 Tryz.prog) Tryz.f4.params.toList=some [(true,ax.cN),(false,[.int .i64]),(false,[.slice 8 [.int .i64]])]:=by kernel_rfl
theorem znk (os:Os) (started:os.Started) (H:Type) (enc:TypeId×Value→H) :
  ReturnsInHanded {} Tryz.checked os 4 .any (fun w args=>(Rows.topAdviceByPartsSpec.pre enc Tryz.prog Tryz.f4 [] false w args∧laidMet Tryz.prog WN w)∧sizedMet enc Tryz.prog Tryz.f4 (OpenSpec.ofChange Rows.topAdviceByPartsSpec) false w args) (Rows.topAdviceByPartsSpec.post enc Tryz.prog Tryz.f4 false true false false):=by
 refine returnsInHanded_of_change_and (C:=Tryz.checked) (X:=fun w _=>laidMet Tryz.prog WN w) (fun _ _ _ hh h=>h.of_heap hh) own started (by kernel_rfl) Tryz.func4
  (ChangeSpec.witness_at (enc:=enc) (C:=Tryz.checked) (os:=os) (X:=fun w _=>laidMet Tryz.prog WN w) false (MJ os) #[.agg #[.int .i64 0,.slice none 0 0,.slice none 0 0,.slice none 0 0,.slice none 0 0,.int .i64 0,.slice none 0 0],.int .i64 0,.slice none 0 0] 8 rfl (by kernel_rfl) (by kernel_rfl) (by kernel_rfl) (by kernel_rfl) (by kernel_rfl) (za1 os _)) ?_
 intro W base args ds gs before hval hW _ Cg hL _
 exact RC (Cx:=C0) (tb:=4) 185 rfl LTopAdviceByParts.args rfl (by kernel_rfl) rfl
  (fun ds h=>by match ds,h with | [_,_,_],_=>rfl) LTopAdviceByParts.laid (by kernel_rfl) LTopAdviceByParts.all W (zda hL) base args ds gs before hval hW Cg
theorem zp6:Rows.TopAdviceByPartsSaid:=
 OpenClaim.holds_of_wide 4 Tryz.f4 rfl rfl rfl rfl rfl rfl rfl ⟨rfl,rfl,rfl,rfl,rfl⟩ rfl rfl rfl rfl rfl (by kernel_rfl) Tryz.func4 (by kernel_rfl)
  (of_decide_eq_true (by kernel_rfl)) (by unfold Func.isWrapper;first | (rw [if_pos (by decide +kernel)];kernel_rfl) | (rw [if_neg (by decide +kernel)];exact ⟨rfl,rfl⟩))
  (fun os started H enc _=>znk os started H enc)
theorem holds:Rows.TopAdviceByPartsCardSaid:=
 Claim7.holds_tied_plain_at .later [] [.data, .data, .data] true (true, "7bc6b4a7d0776bec5163c6b97d3bd90ad221a013c50c4dd2d862c7360c2f6317") false
  zp6 (fun _ h=>by cases h) (by kernel_rfl) (fun _ h=>by cases h) topAdviceByParts_row_tie rfl ⟨rfl,rfl⟩ (by kernel_rfl) rfl
  (fun f fn hf hfn=>by
   obtain rfl : f = 4 := Option.some.inj ((show Tryz.prog.funcNamed "estoppel/estoppeltop.TopAdviceByParts" = some 4 by kernel_rfl).symm.trans hf) |>.symm
   obtain rfl:fn=Tryz.f4:=(Option.some.inj (Tryz.func4.symm.trans hfn)).symm
   refine ⟨by kernel_rfl,fun j t ht => ?_⟩
   have hall:(Tryz.f4.params.toList.all fun t=>!(Tryz.prog.wantsStandIn t))=true:=by kernel_rfl
   have:=ug.1 hall t (by rw [Array.mem_toList_iff];exact Array.mem_of_getElem? ht)
   have h2:Tryz.prog.wantsStandIn t=false:=by simpa using this
   exact h2)
  (by kernel_rfl)
end Go.Proofs.YtlpmnmbebkdocaaGreatDoor.LTopAdviceByParts
namespace Go.Proofs.YtlpmnmbebkdocaaGreatDoor
theorem topAdviceByParts_holds:Rows.TopAdviceByPartsCardSaid:=LTopAdviceByParts.holds
end Go.Proofs.YtlpmnmbebkdocaaGreatDoor
