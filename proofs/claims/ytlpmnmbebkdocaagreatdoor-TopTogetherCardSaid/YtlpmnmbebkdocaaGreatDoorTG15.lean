/-
  'TopTogether': for every input the call returns true, and each argument reads afterwards as it read before.
  The tables of the library that the rows list: from the row's condition to what the contracts ask; the witness.
  estoppeltop.TopTogether.
  The fixed example of the laws about parts at the top: returns true. Printed by mkheads.py.
  One of the calls of the fixed example of the laws about parts at the top. Printed by mkheads.py.
  The fixed example of the laws about parts at the top, first part. Printed by mkheads.py.
  The fixed example of the laws of layer 21: 'head' returns true. Printed by mkheads.py.
  Functions of the program as the kernel reckons them: with fuel, and texts of small numbers. Printed by mkheads.py.
  Two contracts together: the code that joins them.
-/
import Derived.Test.YtlpmnmbebkdocaaGreatDoorTG14
import Derived.Test.YtlpmnmbebkdocaaGreatDoorTG13
import Derived.Test.YtlpmnmbebkdocaaGreatDoorRows
import Derived.Test.YtlpmnmbebkdocaaGreatDoorTG12
import Derived.LaidLaws
import Derived.LaidSub
import Derived.Deep.DeepLaidRun
import Derived.Lib.LaidTab
import Derived.JoinedOf
import Derived.Test.YtlpmnmbebkdocaaGreatDoorTG07
import Derived.Test.YtlpmnmbebkdocaaGreatDoorTie
import Derived.Test.YtlpmnmbebkdocaaGreatDoorCards
import Derived.SevenTiedAt
open List renaming replicate → ud, all_eq_true → ue, getElem?_eq_getElem → ug, length_map → uh, mem_append → ui, length_append → uj, take_succ_eq_append_getElem → uk, mem_map → ul, map_congr_left → um, getElem_of_mem → un, flatMap_cons → uo, length_take → uq, length_cons → ur, length_nil → ut, map_append → uu
open Option renaming bind → ua
open Bool renaming and_eq_true → uc
open Nat renaming le_trans → uv
open Sum renaming elim → ub
namespace Go.Proofs.YtlpmnmbebkdocaaGreatDoor
open Go.RowKit
set_option linter.unusedSimpArgs false
set_option linter.unusedVariables false
set_option maxRecDepth 100000
section
def Af (n:Nat) (x:cD):cD:={clause:=IntKind.i64.wrap (x.clause+n),is:=x.is}
def Ag (n na:Nat) (k:aK):aK:={k with act:=IntKind.i64.wrap (k.act+na),start:=k.start.map (Af n),aL:=bif decide (0≤k.aL) then IntKind.i64.wrap (k.aL+na) else k.aL,cX:=bif decide (0≤k.aL) then IntKind.i64.wrap (k.cX+na) else k.cX}
def EY (c d:aq):aq:={c with aC:=c.aC++d.aC,zw:=c.zw++d.zw.map (Ag c.zw.length c.aC.length)}
section
variable {c d:aq}
theorem Vv {α:Type} {bI:Nat} {l m:List α} (h:(l.length+m.length)*bI≤140737488355328):kF bI l m=some (l++m):=by unfold kF;rw [if_pos h]
theorem zjf (h1:c.aC.length≤8) (h2:d.aC.length≤8) (h3:c.zw.length≤6) (h4:d.zw.length≤6) (hs:∀ k∈d.zw,k.start.length≤20):Qa c d=some (EY c d):=by
 refine ay.eq ?_
 unfold Qa
 refine ay.ax (Vv (by simp;omega)) ?_
 refine ay.ax (Vv (by simp;omega)) ?_
 refine ay.ax (Vv (by simp;omega)) ?_
 refine ay.bind (P:=fun o:List aK ⊕ Unit=>o=.inl (c.zw++d.zw.map (Ag c.zw.length c.aC.length)))
  (ay.eE (fun i s=>s=c.zw++(d.zw.take i).map (Ag c.zw.length c.aC.length)) (by omega) (by simp) (fun i s hi hI => ?_) (fun s hI=>by rw [hI,List.take_length])) ?_
 ·have hk:=ug hi
  have h20:=hs _ (List.getElem_mem hi)
  refine ay.ax (zB hk) ?_
  refine ay.ax (v:=(bif decide (0≤d.zw[i].aL) then IntKind.i64.wrap (d.zw[i].aL+c.aC.length) else d.zw[i].aL,bif decide (0≤d.zw[i].aL) then IntKind.i64.wrap (d.zw[i].cX+c.aC.length) else d.zw[i].cX)) (by cases decide (0≤d.zw[i].aL)<;>rfl) ?_
  refine ay.bind (P:=fun v=>v=d.zw[i].start.map (Af c.zw.length)) (ay.bind (P:=fun v=>v=d.zw[i].start.map (Af c.zw.length)) (ay.iter (fun s=>0≤s.1∧s.1≤d.zw[i].start.length∧s.2=(d.zw[i].start.take s.1.toNat).map (Af c.zw.length)) (fun s=>d.zw[i].start.length - s.1.toNat) ⟨by simp,by simp,by simp⟩ ?_) (fun v hv=>ay.some hv)) ?_
  ·rintro ⟨j,t⟩ ⟨j0,j1,j2⟩
   simp only at j0 j1 j2
   refine ay.ax (zB hk) ?_
   refine ay.ite (fun h => ?_) (fun h => ?_)
   ·have hlt:j.toNat < d.zw[i].start.length:=by have:=of_decide_eq_true h;simp only at this;omega
    have hj:=ug hlt
    have e1:ze d.zw[i].start j=some d.zw[i].start[j.toNat]:=by
     have:=zB hj
     rwa [Int.toNat_of_nonneg j0] at this
    refine ay.ax (zB hk) ?_
    refine ay.ax e1 ?_
    refine ay.ax (yq (by rw [j2];simp only [uh,uq,ur,ut];omega)) ?_
    have e2:IntKind.i64.wrap (j+1)=((j.toNat+1:Nat):Int):=by rw [qf (by omega) (by omega)];omega
    refine ay.some (show (0≤IntKind.i64.wrap (j+1)∧IntKind.i64.wrap (j+1)≤(d.zw[i].start.length:Int)∧_)∧_ from ?_)
    simp only [e2]
    refine ⟨⟨by omega,by omega,?_⟩,?_⟩
    ·rw [j2,show ((j.toNat+1:Nat):Int).toNat=j.toNat+1 by omega,uk hlt,uu]
     rfl
    ·show d.zw[i].start.length - ((j.toNat+1:Nat):Int).toNat < _
     omega
   ·have:=of_decide_eq_false h
    simp only at this
    refine ay.some (show t=_ from ?_)
    rw [j2,List.take_of_length_le (by omega)]
  ·rintro _ rfl
   refine ay.ax (yq (by rw [hI];simp only [uj,uh,uq,ur,ut];omega)) ?_
   refine ay.some (show s++[Ag c.zw.length c.aC.length d.zw[i]]=_ from ?_)
   rw [hI,uk hi,uu,List.append_assoc]
   rfl
 ·rintro _ rfl
  exact ay.some rfl
theorem zkT (hd:d.Ok) (M:ia c d):EY c d=j6 c d:=by
 have h1:=M.na
 have h2:=M.nc
 have:d.zw.map (Ag c.zw.length c.aC.length)=d.zw.map (gK c.zw.length c.aC.length):=by
  refine um fun k hk => ?_
  obtain ⟨i,hi,rfl⟩:=un hk
  have kv:=xe (hd.off.lt (by omega:0 < 8)) M.vd (ug hi)
  have ha:=kv.act
  have es:d.zw[i].start.map (Af c.zw.length)=d.zw[i].start.map (fun x=>{x with clause:=x.clause+(c.zw.length:Int)}):=um fun x hx=>by
   have:=kv.cond x hx
   unfold Af
   rw [qf (by omega) (by omega)]
  unfold Ag gK iN
  rw [es,qf (by omega) (by omega)]
  rcases kv.aL with ⟨p1,p2⟩ | ⟨p1,p2⟩
  ·rw [p1,p2];rfl
  ·have q1:=jB p1
   have q2:=jB p2
   have e1:dV c.aC.length d.zw[i].aL=d.zw[i].aL+c.aC.length:=by unfold dV;rw [if_neg (by omega)]
   have e2:dV c.aC.length d.zw[i].cX=d.zw[i].cX+c.aC.length:=by unfold dV;rw [if_neg (by omega)]
   rw [decide_eq_true q1.1,cond_true,cond_true,qf (by omega) (by omega),qf (by omega) (by omega),e1,e2]
 unfold EY j6
 rw [this]
theorem Wx {x:Int} (h1 : -9223372036854775808≤x) (h2:x≤9223372036854775807):dL .i64 x:=by
 unfold dL
 have e1:IntKind.i64.min = -9223372036854775808:=by decide
 have e2:IntKind.i64.max=9223372036854775807:=by decide
 rw [e1,e2]
 exact ⟨h1,h2⟩
theorem zkU (hc:c.Ok) (hd:d.Ok) (M:ia c d):(j6 c d).Ok:=by
 have h1:=M.na
 have h2:=M.nc
 have hr:(54400:Nat)≤reachBytes:=by decide
 refine {hc with aC:=⟨?_,fun a ha => ?_⟩,zw:=⟨?_,fun k hk => ?_⟩}
 ·show (c.aC++d.aC).length*_≤reachBytes
  rw [uj]
  exact uv (by omega) hr
 ·have ha:a∈c.aC++d.aC:=ha
  rcases ui.1 ha with g | g
  ·exact hc.aC.2 a g
  ·exact hd.aC.2 a g
 ·show (c.zw++d.zw.map _).length*_≤reachBytes
  rw [uj,uh]
  exact uv (by omega) hr
 ·have hk:k∈c.zw++d.zw.map (gK c.zw.length c.aC.length):=hk
  rcases ui.1 hk with g | g
  ·exact hc.zw.2 k g
  ·obtain ⟨q,hq,rfl⟩:=ul.1 g
   have ok:=hd.zw.2 q hq
   obtain ⟨i,hi,rfl⟩:=un hq
   have kv:=xe (hd.off.lt (by omega:0 < 8)) M.vd (ug hi)
   have ha:=kv.act
   have hp:(-1≤dV c.aC.length d.zw[i].aL∧dV c.aC.length d.zw[i].aL≤100) ∧ -1≤dV c.aC.length d.zw[i].cX∧dV c.aC.length d.zw[i].cX≤100:=by
    rcases kv.aL with ⟨p1,p2⟩ | ⟨p1,p2⟩
    ·rw [p1,p2];unfold dV;rw [if_pos (by omega)];omega
    ·have q1:=jB p1
     have q2:=jB p2
     unfold dV
     rw [if_neg (by omega),if_neg (by omega)]
     omega
   refine {ok with act:=Wx ?_ ?_,start:=⟨?_,fun y hy => ?_⟩,aL:=Wx ?_ ?_,cX:=Wx ?_ ?_}
   ·show _≤d.zw[i].act+(c.aC.length:Int);omega
   ·show d.zw[i].act+(c.aC.length:Int)≤_;omega
   ·show (d.zw[i].start.map _).length*_≤reachBytes
    rw [uh];exact ok.start.1
   ·obtain ⟨x,hx,rfl⟩:=ul.1 hy
    have:=kv.cond x hx
    exact ⟨Wx (by show _≤x.clause+(c.zw.length:Int);omega) (by show x.clause+(c.zw.length:Int)≤_;omega),(ok.start.2 x hx).is⟩
   ·show _≤dV _ _;omega
   ·show dV _ _≤_;omega
   ·show _≤dV _ _;omega
   ·show dV _ _≤_;omega
theorem L6 {c:aq} (hl:c.aC.length≤8):wm c=some (!c.aC.all fun a=>a.kind == 1):=by
 unfold wm
 rw [yA (l:=c.aC) (fun a=>a.kind == 1) (by omega) (fun i hi=>by
  simp only [zH,ug hi,bf]
  cases (c.aC[i].kind == 1)<;>rfl)]
 cases c.aC.all fun a=>a.kind == 1<;>rfl
theorem yT {aj:Int} {s:aH} {ρ:Nat→Nat} (hc:c.Ok) (ec:xG c aj s=true) (R:cq c ρ) (hC:zV c=some (zD ρ c.zw.length)) :
  (ju c aj s=some ({safe:=false,move:=0,wait:=0},3)∧∃ P∈zD ρ c.zw.length,¬ xX c aj s P) ∨
  ∃ v:Bool×Int×Int×Bool,ju c aj s=some (bif v.1 then ({safe:=true,move:=(bif v.2.2.2 then -2 else v.2.1),wait:=v.2.2.1},0) else ({safe:=false,move := -2,wait:=0},0))∧(∀ P∈zD ρ c.zw.length,xX c aj s P)∧gF c aj s (zD ρ c.zw.length) v:=by
 obtain ⟨⟨e,v⟩,h1,h2⟩:=zcM hc ec R hC
 have h:ju c aj s=some (bif e == 0 then (bif v.1 then ({safe:=v.1,move:=(bif v.2.2.2 then -2 else v.2.1),wait:=v.2.2.1},0) else ({safe:=false,move := -2,wait:=0},0)) else ({safe:=false,move:=0,wait:=0},e)):=by
  unfold ju
  rw [h1]
  simp only [bf]
  cases (e == 0)<;>cases v.1<;>cases v.2.2.2<;>rfl
 rcases h2 with ⟨g1,_,g3⟩ | ⟨g1,g2,g3⟩
 ·simp only at g1
  subst g1
  exact .inl ⟨h,g3⟩
 ·simp only at g1
  subst g1
  refine .inr ⟨v,?_,g2,g3⟩
  rw [h]
  cases v.1<;>rfl
end
end
end Go.Proofs.YtlpmnmbebkdocaaGreatDoor
namespace Go.Proofs.YtlpmnmbebkdocaaGreatDoor
set_option linter.unusedSimpArgs false
set_option linter.unusedVariables false
set_option maxRecDepth 100000
def Le {α:Type} (x y:Option α):Prop:=∀ r,x=some r→y=some r
theorem Le.refl {α:Type} (x:Option α):Le x x:=fun _ h=>h
theorem Le.bind {α β:Type} {x y:Option α} {f g:α→Option β} (h:Le x y) (hf:∀ a,Le (f a) (g a)):Le (x.bind f) (y.bind g):=fun r hr=>by
 obtain ⟨a,h1,h2⟩:=Option.bind_eq_some_iff.1 hr
 rw [h a h1];exact hf a r h2
theorem Le.cond {α:Type} (b:Bool) {x y x' y':Option α} (h1:Le x x') (h2:Le y y'):Le (bif b then x else y) (bif b then x' else y'):=by
 cases b
 ·exact h2
 ·exact h1
theorem Le.elim {α β γ:Type} {f f':α→Option γ} {g g':β→Option γ} (h1:∀ a,Le (f a) (f' a)) (h2:∀ a,Le (g a) (g' a)) (o:α ⊕ β):Le (ub f g o) (ub f' g' o):=by
 cases o
 ·exact h1 _
 ·exact h2 _
theorem Le.bF {σ ρ:Type} {f g:Nat→σ→Option (σ ⊕ ρ)} (h:∀ i s,Le (f i s) (g i s)):∀ (k i:Nat) (s:σ),Le (bF f i k s) (bF g i k s)
 | 0,i,s=>Le.refl _
 | k+1,i,s=>fun r hr=>by
  simp only [Go.Proofs.YtlpmnmbebkdocaaGreatDoor.bF] at hr ⊢
  split at hr
  ·cases hr
  ·rename_i e;rw [h i s _ e];exact hr
  ·rename_i e;rw [h i s _ e];exact Le.bF h k (i+1) _ r hr
theorem Le.aE {σ ρ:Type} {f g:Nat→σ→Option (σ ⊕ ρ)} (h:∀ i s,Le (f i s) (g i s)) (n:Int) (s:σ):Le (aE n f s) (aE n g s):=fun r hr=>by
 obtain ⟨h1,h2⟩:=Xb hr
 rw [Zx h1];exact Le.bF h _ _ _ r h2
theorem Le.cg {σ ρ:Type} {f g:σ→Option (σ ⊕ ρ)} (h:∀ s,Le (f s) (g s)):∀ (k:Nat) (s:σ),Le (Go.Proofs.YtlpmnmbebkdocaaGreatDoor.cg f k s) (Go.Proofs.YtlpmnmbebkdocaaGreatDoor.cg g k s)
 | 0,s=>Le.refl _
 | k+1,s=>fun r hr=>by
  simp only [Go.Proofs.YtlpmnmbebkdocaaGreatDoor.cg] at hr ⊢
  split at hr
  ·cases hr
  ·rename_i e;rw [h s _ e];exact hr
  ·rename_i e;rw [h s _ e];exact Le.cg h k _ r hr
theorem Le.iter {σ ρ:Type} {f g:σ→Option (σ ⊕ ρ)} (h:∀ s,Le (f s) (g s)) (k:Nat) (s:σ):Le (Go.Proofs.YtlpmnmbebkdocaaGreatDoor.cg f k s) (Go.Proofs.YtlpmnmbebkdocaaGreatDoor.iter g s):=fun r hr=>vq.2 ⟨k,Le.cg h k s r hr⟩
def Kr:Nat→Nat→List UInt8
 | 0,u=>[]
 | f+1,u=>if u < 10 then [UInt8.ofNat (48+u)] else Kr f (u / 10)++[UInt8.ofNat (48+u % 10)]
theorem Ks:∀ (f u:Nat),u < 10 ^ (f+1)→Kr (f+1) u=Lib.decDigits u
 | 0,u,h=>by
  rw [Lib.decDigits]
  simp only [Kr]
  rw [if_pos (by omega),dif_pos (by omega)]
 | f+1,u,h=>by
  rw [Lib.decDigits,Kr]
  by_cases hu:u < 10
  ·rw [if_pos hu,dif_pos hu]
  ·rw [if_neg hu,dif_neg hu,Ks f (u / 10) (by rw [Nat.pow_succ] at h;omega)]
def xo (n:Int):Bool:=decide (-1000 < n)&&decide (n < 1000)
def EZ (n:Int):List UInt8:=if n < 0 then 45::Kr 4 n.natAbs else Kr 4 n.toNat
theorem zjg {n:Int} (h:xo n=true):EZ n=Lib.itoa n:=by
 simp only [xo,uc,decide_eq_true_eq] at h
 unfold EZ Lib.itoa
 rw [Ks 3 n.natAbs (by omega),Ks 3 n.toNat (by omega)]
def xp (n:Int):List UInt8:=EZ n++[32]
theorem jX {n:Int} (h:xo n=true):xp n=zK n:=by unfold xp zK;rw [zjg h]
def Cz (m:ak):List UInt8:=xp m.aR++xp m.left++xp m.got++xp m.bC++qe m.bR
def QW (m:ak):Bool:=xo m.aR&&(xo m.left&&(xo m.got&&xo m.bC))
def YN (p:aG):List UInt8:=qe p.own++xp p.state.day++p.state.aF.flatMap xp++p.state.used.flatMap qe++p.state.aO.flatMap Cz
def XV (p:aG):Bool:=xo p.state.day&&(p.state.aF.all xo&&p.state.aO.all QW)
theorem wu {α β:Type} {f g:α→List β}:∀ {l:List α},(∀ a∈l,f a=g a)→l.flatMap f=l.flatMap g
 | [],_=>rfl
 | a::l,h=>by rw [uo,uo,h a List.mem_cons_self,wu fun b hb=>h b (List.mem_cons_of_mem _ hb)]
theorem zjh {p:aG} (h:XV p=true):YN p=qD p:=by
 simp only [XV,uc,ue] at h
 unfold YN qD
 rw [jX h.1,wu (f:=xp) (g:=zK) (fun a ha=>jX (h.2.1 a ha)),wu (f:=Cz) (g:=jb) (fun a ha=>by
  have:=h.2.2 a ha
  simp only [QW,uc] at this
  show xp a.aR++xp a.left++xp a.got++xp a.bC++qe a.bR=zK a.aR++zK a.left++zK a.got++zK a.bC++qe a.bR
  rw [jX this.1,jX this.2.1,jX this.2.2.1,jX this.2.2.2])]
theorem jD {n:Int} (h:xo n=true):jz n=true:=by
 simp only [xo,jz,uc,decide_eq_true_eq] at h ⊢
 omega
def kD (p:aG):Option ByteArray:=bif XV p&&decide ((YN p).length≤1000000000) then some ⟨(YN p).toArray⟩ else none
theorem L7 (p:aG):Le (kD p) (xj p):=fun r h=>by
 unfold kD at h
 cases hq:(XV p&&decide ((YN p).length≤1000000000)) with
 | false=>rw [hq] at h;cases h
 | true=>
  rw [hq] at h
  simp only [uc,decide_eq_true_eq] at hq
  have e:=zjh hq.1
  unfold xj
  rw [if_pos,←e]
  ·exact h
  ·have h1:=hq.1
   simp only [XV,uc,ue] at h1
   simp only [tW,uc,decide_eq_true_eq,ue]
   refine ⟨⟨⟨jD h1.1,fun x hx=>jD (h1.2.1 x hx)⟩,fun m hm => ?_⟩,by rw [←e];exact hq.2⟩
   have:=h1.2.2 m hm
   simp only [QW,uc] at this
   exact ⟨⟨⟨jD this.1,jD this.2.1⟩,jD this.2.2.1⟩,jD this.2.2.2⟩
noncomputable def YO (p1:aq) (p2:Int) (p3:List Int) (p4:Nat) (p5:List Bool) (p6:Nat) (p7:List ak) (p8:Nat):Option ((List ak)):=
 (ua (cg (σ:=Bool×(List ak)) (ρ:=(List ak)) (fun s1=>(bif s1.1 then (ua (aE (σ:=Bool×(List ak)) (ρ:=Unit) (p1.zw.length:Int) (fun i2 s2=>(ua (ua (ze p1.zw (i2:Int)) fun e1=>(ua (dD p4 p3.length) fun g1=>(ua (dD p6 p5.length) fun g2=>(ua (dD p8 s2.2.length) fun g3=>(ua (yx p1 ({day:=p2,aF:=p3,used:=p5,aO:=s2.2}:aH) (i2:Int)) fun r1=>(bif r1 then (ua (bif (e1.kind == 4) then some (-1) else (ua (zh p4 e1.bK) fun k1=>(ua (p3[k1]?) fun e2=>some e2))) fun (v1:Int)=>(ua (zh p8 (i2:Int)) fun k2=>(ua (s2.2[k2]?) fun e3=>some (true,(s2.2.set k2 ({aR:=1,left:=e1.after,got:=0,bC:=v1,bR:=false}:ak)))))) else some (s2.1,s2.2))))))) fun (v2:Bool×(List ak))=>some (.inl (v2.1,v2.2)))) (false,s1.2)) (ub (fun (s2:Bool×(List ak))=>some (.inl (s2.1,s2.2))) (fun _=>none))) else some (.inr s1.2))) 40 (true,p7)) (fun (y1:(List ak))=>some y1))
theorem E6 (p1:aq) (p2:Int) (p3:List Int) (p4:Nat) (p5:List Bool) (p6:Nat) (p7:List ak) (p8:Nat):Le (YO p1 p2 p3 p4 p5 p6 p7 p8) (wV p1 p2 p3 p4 p5 p6 p7 p8):=by
 unfold YO wV
 repeat' (first | with_reducible exact Le.refl _ | with_reducible refine Le.bind ?_ (fun _ => ?_) | with_reducible refine Le.cond _ ?_ ?_ | with_reducible refine Le.aE (fun _ _ => ?_) _ _ | with_reducible refine Le.iter (fun _ => ?_) _ _ | with_reducible refine Le.elim (fun _ => ?_) (fun _ => ?_) _)
noncomputable def Wy (c:aq):Option (aH×Int):=
 (ua (jN c) fun r1=>(bif (r1.1 == 0) then (ua (zQ 8 c.aF) fun e1=>(ua (ef 1 (c.aC.length:Int)) fun k1=>(ua (ef 40 (c.zw.length:Int)) fun k2=>(ua (aE (σ:=(List ak)) (ρ:=Unit) (c.zw.length:Int) (fun i1 s1=>(ua (ua (ze c.zw (i1:Int)) fun e2=>(ua (zh k2 (i1:Int)) fun k3=>(ua (s1[k3]?) fun e3=>(bif e2.br then (ua (zh k2 (i1:Int)) fun k4=>(ua ((s1.set k3 ({aR:=0,left:=0,got:=0,bC:=(-1),bR:=false}:ak))[k4]?) fun e4=>some ((s1.set k3 ({aR:=0,left:=0,got:=0,bC:=(-1),bR:=false}:ak)).set k4 ({e4 with aR:=5}:ak)))) else some (s1.set k3 ({aR:=0,left:=0,got:=0,bC:=(-1),bR:=false}:ak)))))) fun (v1:(List ak))=>some (.inl v1))) (ud k2 ({aR:=0,left:=0,got:=0,bC:=0,bR:=false}:ak))) (ub (fun (s1:(List ak))=>(ua (YO c 0 e1 e1.length (ud k1 false) k1 s1 k2) fun r2=>(ua (dD k1 (ud k1 false).length) fun g1=>(ua (dD k2 r2.length) fun g2=>some (({day:=0,aF:=e1,used:=(ud k1 false),aO:=r2}:aH),0))))) (fun _=>none)))))) else some (({day:=0,aF:=[],used:=[],aO:=[]}:aH),1)))
theorem Vw (c:aq):Le (Wy c) (jO c):=by
 unfold Wy jO
 repeat' (first | with_reducible exact Le.refl _ | with_reducible exact E6 _ _ _ _ _ _ _ _ | with_reducible refine Le.bind ?_ (fun _ => ?_) | with_reducible refine Le.cond _ ?_ ?_ | with_reducible refine Le.aE (fun _ _ => ?_) _ _ | with_reducible refine Le.iter (fun _ => ?_) _ _ | with_reducible refine Le.elim (fun _ => ?_) (fun _ => ?_) _)
noncomputable def wE (l:List Int) (v:Int):Option (Int×Bool):=
 (ua (ua (cg (σ:=Int×Int) (ρ:=Int) (fun s1=>(bif decide (s1.1 < s1.2) then (ua (Xf .u64 .u64 (IntKind.u64.wrap (IntKind.i64.wrap (s1.1+s1.2))) 1) fun e1=>(ua (ze l (IntKind.i64.wrap e1)) fun e2=>(ua (QJ e2 v) fun r1=>(bif r1 then some (.inl ((IntKind.i64.wrap ((IntKind.i64.wrap e1)+1)),s1.2)) else some (.inl (s1.1,(IntKind.i64.wrap e1))))))) else some (.inr s1.1))) 40 (0,(l.length:Int))) (fun (y1:Int)=>some y1)) fun (v1:Int)=>(ua (bif decide (v1 < (l.length:Int)) then (ua (ze l v1) fun e3=>(bif (e3 == v) then some true else (ua (Zi e3) fun r2=>(bif r2 then (ua (Zi v) fun r3=>some r3) else some false)))) else some false) fun v2=>some (v1,v2)))
theorem Qo (l:List Int) (v:Int):Le (wE l v) (jd l v):=by
 unfold wE jd
 repeat' (first | with_reducible exact Le.refl _ | with_reducible refine Le.bind ?_ (fun _ => ?_) | with_reducible refine Le.cond _ ?_ ?_ | with_reducible refine Le.aE (fun _ _ => ?_) _ _ | with_reducible refine Le.iter (fun _ => ?_) _ _ | with_reducible refine Le.elim (fun _ => ?_) (fun _ => ?_) _)
noncomputable def E7 (p1:aq) (p2:Int) (p3:List Int) (p4:Nat) (p5:List Bool) (p6:Nat) (p7:List ak) (p8:Nat):Option ((List ak)):=
 (ua (wE p1.off p2) fun r1=>(ua (ua (xB p1 p2 p3 p4 p5 p6 p7 p8) fun r2=>(ua (aE (σ:=(List ak)) (ρ:=(List ak)) (p8:Int) (fun i1 s1=>(ua (ua (zh p8 (i1:Int)) fun k1=>(ua (s1[k1]?) fun e1=>(ua (jJ e1) fun r3=>(bif r3 then (ua (ua (ze p1.zw (i1:Int)) fun e2=>(ua (ua (zh p8 (i1:Int)) fun k2=>(ua (s1[k2]?) fun e3=>(bif e3.bR then some true else (bif e2.bu then some r1.2 else some false)))) fun v1=>(bif v1 then some s1 else (ua (zh p8 (i1:Int)) fun k3=>(ua (s1[k3]?) fun e4=>(ua (zh p8 (i1:Int)) fun k4=>(ua ((s1.set k3 ({e4 with left:=(IntKind.i64.wrap (e4.left - 1))}:ak))[k4]?) fun e5=>(bif (e5.left == 0) then (ua (bif (e2.kind == (0:Int)) then none else (bif (e2.kind == (1:Int)) then (ua (Yj (i1:Int) p1 p2 p3 p4 p5 p6 (s1.set k3 ({e4 with left:=(IntKind.i64.wrap (e4.left - 1))}:ak)) p8) fun r7=>some r7) else (bif (e2.kind == (2:Int)) then (ua (wW (i1:Int) p1 p2 p3 p4 p5 p6 (s1.set k3 ({e4 with left:=(IntKind.i64.wrap (e4.left - 1))}:ak)) p8) fun r6=>some r6) else (bif (e2.kind == (3:Int)) then (ua (Z5 (i1:Int) p1 p2 p3 p4 p5 p6 (s1.set k3 ({e4 with left:=(IntKind.i64.wrap (e4.left - 1))}:ak)) p8) fun r5=>some r5) else (bif (e2.kind == (4:Int)) then (ua (Z5 (i1:Int) p1 p2 p3 p4 p5 p6 (s1.set k3 ({e4 with left:=(IntKind.i64.wrap (e4.left - 1))}:ak)) p8) fun r4=>some r4) else none))))) fun v2=>some v2) else some (s1.set k3 ({e4 with left:=(IntKind.i64.wrap (e4.left - 1))}:ak)))))))))) fun (v3:(List ak))=>some ((!true),v3)) else some (false,s1))))) fun (v4:Bool×(List ak))=>(bif v4.1 then some (.inr v4.2) else some (.inl v4.2)))) p7) (ub (fun (s1:(List ak))=>some s1) (fun (y1:(List ak))=>some y1)))) fun (v5:(List ak))=>(ua (YO p1 (IntKind.i64.wrap (p2+1)) p3 p4 p5 p6 v5 p8) fun r8=>some r8)))
theorem zm0 (p1:aq) (p2:Int) (p3:List Int) (p4:Nat) (p5:List Bool) (p6:Nat) (p7:List ak) (p8:Nat):Le (E7 p1 p2 p3 p4 p5 p6 p7 p8) (gV p1 p2 p3 p4 p5 p6 p7 p8):=by
 unfold E7 gV
 repeat' (first | with_reducible exact Le.refl _ | with_reducible exact Qo _ _ | with_reducible exact E6 _ _ _ _ _ _ _ _ | with_reducible refine Le.bind ?_ (fun _ => ?_) | with_reducible refine Le.cond _ ?_ ?_ | with_reducible refine Le.aE (fun _ _ => ?_) _ _ | with_reducible refine Le.iter (fun _ => ?_) _ _ | with_reducible refine Le.elim (fun _ => ?_) (fun _ => ?_) _)
noncomputable def E8 (p1:Int) (p2:aq) (p3:Int) (p4:List Int) (p5:Nat) (p6:List Bool) (p7:Nat) (p8:List ak) (p9:Nat):Option ((List Int)×(List Bool)×(List ak)):=
 (ua (ze p2.aC p1) fun e1=>(ua (bif (e1.kind == 1) then some false else (ua (zh p7 p1) fun k1=>(ua (p6[k1]?) fun e2=>some e2))) fun v1=>(bif v1 then some (p4,p6,p8) else (ua (ua (xB p2 p3 p4 p5 p6 p7 p8 p9) fun r1=>(ua (aE (σ:=(List ak)) (ρ:=(List ak)) (p9:Int) (fun i1 s1=>(ua (ua (zh p9 (i1:Int)) fun k2=>(ua (s1[k2]?) fun e3=>(ua (jJ e3) fun r2=>(bif r2 then (ua (ua (ze p2.zw (i1:Int)) fun e4=>(bif (p1 == e4.aL) then (ua (zh p9 (i1:Int)) fun k3=>(ua (s1[k3]?) fun e5=>some (s1.set k3 ({e5 with bR:=true}:ak)))) else (ua (ze p2.zw (i1:Int)) fun e6=>(bif (p1 == e6.cX) then (ua (zh p9 (i1:Int)) fun k4=>(ua (s1[k4]?) fun e7=>some (s1.set k4 ({e7 with bR:=false}:ak)))) else some s1)))) fun (v2:(List ak))=>some ((!true),v2)) else some (false,s1))))) fun (v3:Bool×(List ak))=>(bif v3.1 then some (.inr v3.2) else some (.inl v3.2)))) p8) (ub (fun (s1:(List ak))=>some s1) (fun (y1:(List ak))=>some y1)))) fun (v4:(List ak))=>(ua (dD p5 p4.length) fun g1=>(ua (dD p7 p6.length) fun g2=>(ua (dD p9 v4.length) fun g3=>(ua (QL p2 ({day:=p3,aF:=p4,used:=p6,aO:=v4}:aH) p1) fun r3=>(ua (ua (xB p2 p3 p4 p5 p6 p7 v4 p9) fun r4=>(ua (aE (σ:=(List ak)) (ρ:=(List ak)) (p9:Int) (fun i2 s2=>(ua (ua (zh p9 (i2:Int)) fun k5=>(ua (s2[k5]?) fun e8=>(ua (jJ e8) fun r5=>(bif r5 then (ua (ua (ze p2.zw (i2:Int)) fun e9=>(ua (bif (e9.act == p1) then (bif (e9.kind == 4) then some true else (ua (zh p9 (i2:Int)) fun k6=>(ua (s2[k6]?) fun dR=>some (dR.bC == r3)))) else some false) fun v5=>(bif v5 then (ua (bif (e9.kind == (0:Int)) then none else (bif (e9.kind == (1:Int)) then (ua (Yl (i2:Int) p2 p3 p4 p5 p6 p7 s2 p9) fun r9=>some r9) else (bif (e9.kind == (2:Int)) then (ua (Yk (i2:Int) p2 p3 p4 p5 p6 p7 s2 p9) fun r8=>some r8) else (bif (e9.kind == (3:Int)) then (ua (wW (i2:Int) p2 p3 p4 p5 p6 p7 s2 p9) fun r7=>some r7) else (bif (e9.kind == (4:Int)) then (ua (wW (i2:Int) p2 p3 p4 p5 p6 p7 s2 p9) fun r6=>some r6) else none))))) fun v6=>some v6) else some s2))) fun (v7:(List ak))=>some ((!true),v7)) else some (false,s2))))) fun (v8:Bool×(List ak))=>(bif v8.1 then some (.inr v8.2) else some (.inl v8.2)))) v4) (ub (fun (s2:(List ak))=>some s2) (fun (y2:(List ak))=>some y2)))) fun (v9:(List ak))=>(ua (bif (e1.kind == 1) then some (p4,p6,v9) else (ua (Ym p1 p2 p3 p4 p5 p6 p7 v9 p9) fun fO=>some (fO.1,fO.2.1,fO.2.2))) fun (v10:(List Int)×(List Bool)×(List ak))=>(ua (YO p2 p3 v10.1 p5 v10.2.1 p7 v10.2.2 p9) fun fC=>some (v10.1,v10.2.1,fC))))))))))))
theorem zm1 (p1:Int) (p2:aq) (p3:Int) (p4:List Int) (p5:Nat) (p6:List Bool) (p7:Nat) (p8:List ak) (p9:Nat):Le (E8 p1 p2 p3 p4 p5 p6 p7 p8 p9) (Jv p1 p2 p3 p4 p5 p6 p7 p8 p9):=by
 unfold E8 Jv
 repeat' (first | with_reducible exact Le.refl _ | with_reducible exact E6 _ _ _ _ _ _ _ _ | with_reducible refine Le.bind ?_ (fun _ => ?_) | with_reducible refine Le.cond _ ?_ ?_ | with_reducible refine Le.aE (fun _ _ => ?_) _ _ | with_reducible refine Le.iter (fun _ => ?_) _ _ | with_reducible refine Le.elim (fun _ => ?_) (fun _ => ?_) _)
noncomputable def QX (c:aq) (s:aH) (step:Int):Option (aH×Int):=
 (ua (ua (j9 c s) fun r1=>(bif r1 then (bif decide (step < (-1)) then some true else some (decide ((c.aC.length:Int)≤step))) else some true)) fun v1=>(bif v1 then some (({day:=0,aF:=[],used:=[],aO:=[]}:aH),1) else (bif (s.day == c.bh) then some (({day:=0,aF:=[],used:=[],aO:=[]}:aH),13) else (ua (ef 8 (s.aF.length:Int)) fun k1=>(ua (ef 1 (s.used.length:Int)) fun k2=>(ua (ef 40 (s.aO.length:Int)) fun k3=>(ua (xZ (α:=Int) k1 (ud k1 0) s.aF) fun e1=>(ua (xZ (α:=Bool) k2 (ud k2 false) s.used) fun e2=>(ua (xZ (α:=ak) k3 (ud k3 ({aR:=0,left:=0,got:=0,bC:=0,bR:=false}:ak)) s.aO) fun e3=>(ua (bif (step == (-1)) then (ua (E7 c s.day e1 k1 e2 k2 e3 k3) fun r2=>some (e1,e2,r2,(IntKind.i64.wrap (s.day+1)))) else (ua (E8 step c s.day e1 k1 e2 k2 e3 k3) fun r3=>some (r3.1,r3.2.1,r3.2.2,s.day))) fun (v2:(List Int)×(List Bool)×(List ak)×Int)=>(ua (dD k1 v2.1.length) fun g1=>(ua (dD k2 v2.2.1.length) fun g2=>(ua (dD k3 v2.2.2.1.length) fun g3=>some (({day:=v2.2.2.2,aF:=v2.1,used:=v2.2.1,aO:=v2.2.2.1}:aH),0))))))))))))))
theorem Kt (c:aq) (s:aH) (step:Int):Le (QX c s step) (dS c s step):=by
 unfold QX dS
 repeat' (first | with_reducible exact Le.refl _ | with_reducible exact zm0 _ _ _ _ _ _ _ _ | with_reducible exact zm1 _ _ _ _ _ _ _ _ _ | with_reducible refine Le.bind ?_ (fun _ => ?_) | with_reducible refine Le.cond _ ?_ ?_ | with_reducible refine Le.aE (fun _ _ => ?_) _ _ | with_reducible refine Le.iter (fun _ => ?_) _ _ | with_reducible refine Le.elim (fun _ => ?_) (fun _ => ?_) _)
noncomputable def YP (c:aq) (aj:Int) (p:aG):Option (b9×Int):=
 (ua (vX c aj p) fun r1=>(bif r1 then (ua (vj p.state) fun r2=>(ua (kD p) fun r3=>(ua (α:=((List aG)×(List (List bk))) ⊕ Unit) (ua (cg (σ:=Int×(List aG)×(List (List bk))×(List (ByteArray×Int))) (ρ:=((List aG)×(List (List bk))) ⊕ Unit) (fun s1=>(bif decide (s1.1 < (s1.2.1.length:Int)) then (ua (α:=((List aG)×(List (ByteArray×Int))×(List bk)) ⊕ Unit) (ua (ze s1.2.1 s1.1) fun e1=>(ua (Yp c aj e1) fun r4=>(ua (α:=((List aG)×(List (ByteArray×Int))×(List bk)) ⊕ (Unit ⊕ ((List aG)×(List (ByteArray×Int))×(List bk)))) (bif e1.own then (ua (vj e1.state) fun r5=>(ua (kD ({state:=r5,own:=false}:aG)) fun r6=>(ua (α:=(Int×(List aG)×(List (ByteArray×Int))) ⊕ Unit) (bif ((zl r6 s1.2.2.2).isSome) then some (.inl (((zl r6 s1.2.2.2).getD 0),s1.2.1,s1.2.2.2)) else (bif ((s1.2.1.length:Int) == 1500) then some (.inr ()) else (ua (zO (α:=aG) 88 s1.2.1 [({state:=r5,own:=false}:aG)]) fun e2=>some (.inl ((s1.2.1.length:Int),e2,(zJ r6 (s1.2.1.length:Int) s1.2.2.2)))))) (ub (fun (v1:Int×(List aG)×(List (ByteArray×Int)))=>(ua (zO (α:=bk) 16 [] [({step:=(-2),to:=v1.1}:bk)]) fun e3=>(bif decide (c.bh≤e1.state.day) then some (.inr (.inr (v1.2.1,v1.2.2,e3))) else some (.inl (v1.2.1,v1.2.2,e3))))) (fun (y1:Unit)=>some (.inr (.inl ()))))))) else (bif decide (c.bh≤e1.state.day) then some (.inr (.inr (s1.2.1,s1.2.2.2,[]))) else some (.inl (s1.2.1,s1.2.2.2,[])))) (ub (fun (v2:(List aG)×(List (ByteArray×Int))×(List bk))=>(ua (α:=((List aG)×(List (ByteArray×Int))×(List bk)) ⊕ Unit) (bif e1.own then some (.inl (v2.1,v2.2.1,v2.2.2)) else (ua (QX c e1.state (-1)) fun r7=>(ua (kD ({state:=r7.1,own:=true}:aG)) fun r8=>(ua (α:=(Int×(List aG)×(List (ByteArray×Int))) ⊕ Unit) (bif ((zl r8 v2.2.1).isSome) then some (.inl (((zl r8 v2.2.1).getD 0),v2.1,v2.2.1)) else (bif ((v2.1.length:Int) == 1500) then some (.inr ()) else (ua (zO (α:=aG) 88 v2.1 [({state:=r7.1,own:=true}:aG)]) fun e4=>some (.inl ((v2.1.length:Int),e4,(zJ r8 (v2.1.length:Int) v2.2.1)))))) (ub (fun (v3:Int×(List aG)×(List (ByteArray×Int)))=>(ua (zO (α:=bk) 16 v2.2.2 [({step:=(-1),to:=v3.1}:bk)]) fun e5=>some (.inl (v3.2.1,v3.2.2,e5)))) (fun (y4:Unit)=>some (.inr ()))))))) (ub (fun (v4:(List aG)×(List (ByteArray×Int))×(List bk))=>(ua (aE (σ:=(List aG)×(List (ByteArray×Int))×(List bk)) (ρ:=(List aG)×(List (ByteArray×Int))×(List bk)) (c.aC.length:Int) (fun i2 s2=>(ua (α:=((List aG)×(List (ByteArray×Int))×(List bk)) ⊕ Unit) (ua (ze c.aC (i2:Int)) fun e6=>(ua (bif (e6.bK == (-1)) then some (-1) else (ua (ze e1.state.aF e6.bK) fun e7=>some e7)) fun (v5:Int)=>(bif ((v5 == aj) == e1.own) then (ua (QX c e1.state (i2:Int)) fun r9=>(ua (QM r9.1 e1.state) fun fO=>(bif fO then some (.inl (s2.1,s2.2.1,s2.2.2)) else (ua (kD ({state:=r9.1,own:=true}:aG)) fun fC=>(ua (α:=(Int×(List aG)×(List (ByteArray×Int))) ⊕ Unit) (bif ((zl fC s2.2.1).isSome) then some (.inl (((zl fC s2.2.1).getD 0),s2.1,s2.2.1)) else (bif ((s2.1.length:Int) == 1500) then some (.inr ()) else (ua (zO (α:=aG) 88 s2.1 [({state:=r9.1,own:=true}:aG)]) fun e8=>some (.inl ((s2.1.length:Int),e8,(zJ fC (s2.1.length:Int) s2.2.1)))))) (ub (fun (v6:Int×(List aG)×(List (ByteArray×Int)))=>(ua (zO (α:=bk) 16 s2.2.2 [({step:=(i2:Int),to:=v6.1}:bk)]) fun e9=>some (.inl (v6.2.1,v6.2.2,e9)))) (fun (y6:Unit)=>some (.inr ())))))))) else some (.inl (s2.1,s2.2.1,s2.2.2))))) (ub (fun (v7:(List aG)×(List (ByteArray×Int))×(List bk))=>some (.inl (v7.1,v7.2.1,v7.2.2))) (fun (y7:Unit)=>some (.inr (s2.1,s2.2.1,s2.2.2)))))) (v4.1,v4.2.1,v4.2.2)) (ub (fun (s2:(List aG)×(List (ByteArray×Int))×(List bk))=>some (.inl (s2.1,s2.2.1,s2.2.2))) (fun (y8:(List aG)×(List (ByteArray×Int))×(List bk))=>some (.inr ()))))) (fun (y5:Unit)=>some (.inr ()))))) (ub (fun (y2:Unit)=>some (.inr ())) (fun (y3:(List aG)×(List (ByteArray×Int))×(List bk))=>some (.inl (y3.1,y3.2.1,y3.2.2)))))))) (ub (fun (v8:(List aG)×(List (ByteArray×Int))×(List bk))=>(ua (zO (α:=List bk) 24 s1.2.2.1 [v8.2.2]) fun dR=>some (.inl ((IntKind.i64.wrap (s1.1+1)),v8.1,dR,v8.2.1)))) (fun (y9:Unit)=>some (.inr (.inr ()))))) else some (.inr (.inl (s1.2.1,s1.2.2.1))))) 40 (0,[({state:=r2,own:=p.own}:aG)],[],(zJ r3 0 []))) (ub (fun (rI:(List aG)×(List (List bk)))=>some (.inl (rI.1,rI.2))) (fun (Il:Unit)=>some (.inr ())))) (ub (fun (v9:(List aG)×(List (List bk)))=>some (({aj:=aj,aY:=v9.1,bg:=v9.2}:b9),0)) (fun (Im:Unit)=>some (({aj:=0,aY:=[],bg:=[]}:b9),3)))))) else some (({aj:=0,aY:=[],bg:=[]}:b9),1)))
theorem L8 (c:aq) (aj:Int) (p:aG):Le (YP c aj p) (jT c aj p):=by
 unfold YP jT
 repeat' (first | with_reducible exact Le.refl _ | with_reducible exact L7 _ | with_reducible exact Kt _ _ _ | with_reducible refine Le.bind ?_ (fun _ => ?_) | with_reducible refine Le.cond _ ?_ ?_ | with_reducible refine Le.aE (fun _ _ => ?_) _ _ | with_reducible refine Le.iter (fun _ => ?_) _ _ | with_reducible refine Le.elim (fun _ => ?_) (fun _ => ?_) _)
noncomputable def Ku (c:aq) (aj:Int):Option (b9×Int):=
 (ua (Wy c) fun r1=>(bif (r1.2 == 0) then (ua (YP c aj ({state:=r1.1,own:=true}:aG)) fun r2=>some (r2.1,r2.2)) else some (({aj:=0,aY:=[],bg:=[]}:b9),r1.2)))
theorem zji (c:aq) (aj:Int):Le (Ku c aj) (Wj c aj):=by
 unfold Ku Wj
 repeat' (first | with_reducible exact Le.refl _ | with_reducible exact Vw _ | with_reducible exact L8 _ _ _ | with_reducible refine Le.bind ?_ (fun _ => ?_) | with_reducible refine Le.cond _ ?_ ?_ | with_reducible refine Le.aE (fun _ _ => ?_) _ _ | with_reducible refine Le.iter (fun _ => ?_) _ _ | with_reducible refine Le.elim (fun _ => ?_) (fun _ => ?_) _)
noncomputable def Wz (c:aq) (a:b9):Option (List Int):=
 (ua (wj c a) fun r1=>(bif r1 then (ua (ef 8 (a.aY.length:Int)) fun k1=>(ua (ef 8 (a.aY.length:Int)) fun k2=>(ua (ef 24 (a.aY.length:Int)) fun k3=>(ua (aE (σ:=(List Int)×(List Int)×(List (List Int))×(List Int)) (ρ:=Unit) (a.aY.length:Int) (fun i1 s1=>(ua (ua (ze a.aY (i1:Int)) fun e1=>(ua (ze a.bg (i1:Int)) fun e2=>(ua (zh k1 (i1:Int)) fun k4=>(ua (s1.1[k4]?) fun e3=>(ua (zh k2 (i1:Int)) fun k5=>(ua (s1.2.1[k5]?) fun e4=>(ua (ze a.bg (i1:Int)) fun e5=>(ua (aE (σ:=(List (List Int))) (ρ:=Unit) (e5.length:Int) (fun i2 s2=>(ua (ze e5 (i2:Int)) fun e6=>(ua (vv s2 k3 e6.to (i1:Int)) fun v1=>some (.inl v1)))) s1.2.2.1) (ub (fun (s2:(List (List Int)))=>(ua (Xs c e1.state a.aj) fun r2=>(bif r2 then (ua (zh k1 (i1:Int)) fun k6=>(ua ((s1.1.set k4 (-1))[k6]?) fun e7=>(ua (ko (i1:Int) s1.2.2.2 0) fun r3=>some (((s1.1.set k4 (-1)).set k6 0),(s1.2.1.set k5 (e2.length:Int)),s2,r3)))) else some ((s1.1.set k4 (-1)),(s1.2.1.set k5 (e2.length:Int)),s2,s1.2.2.2)))) (fun _=>none)))))))))) fun (v2:(List Int)×(List Int)×(List (List Int))×(List Int))=>some (.inl (v2.1,v2.2.1,v2.2.2.1,v2.2.2.2)))) ((ud k1 0),(ud k2 0),(ud k3 []),[])) (ub (fun (s1:(List Int)×(List Int)×(List (List Int))×(List Int))=>(ua (aE (σ:=(List Int)×(List Int)) (ρ:=Unit) (a.aY.length:Int) (fun i3 s3=>(ua (ua (ze a.aY (i3:Int)) fun e8=>(ua (bif e8.own then (ua (zh k2 (i3:Int)) fun k7=>(ua (s1.2.1[k7]?) fun e9=>(bif (e9 == 0) then (ua (zh k1 (i3:Int)) fun k8=>(ua (s3.1[k8]?) fun dR=>some (dR == (-1)))) else some false))) else some false) fun v3=>(bif v3 then (ua (kp (i3:Int) 1 s3.1 k1 s3.2 0) fun r4=>some (r4.2,r4.1)) else some (s3.1,s3.2)))) fun (v4:(List Int)×(List Int))=>some (.inl (v4.1,v4.2)))) (s1.1,s1.2.2.2)) (ub (fun (s3:(List Int)×(List Int))=>(ua (ua (wN s3.2 0) fun r5=>(ua (cg (σ:=Int×Bool×(List Int)×(List Int)×(List Int)×Int) (ρ:=(List Int)) (fun s4=>(bif s4.2.1 then (ua (zh k3 s4.1) fun k9=>(ua (s1.2.2.1[k9]?) fun lG=>(ua (aE (σ:=(List Int)×(List Int)×(List Int)) (ρ:=Unit) (lG.length:Int) (fun i5 s5=>(ua (ze lG (i5:Int)) fun tX=>(ua (QN tX s4.1 s5.2.1 k2 s5.1 k1 a s5.2.2 s4.2.2.2.2.2) fun r6=>some (.inl (r6.2.1,r6.1,r6.2.2))))) (s4.2.2.1,s4.2.2.2.1,s4.2.2.2.2.1)) (ub (fun (s5:(List Int)×(List Int)×(List Int))=>(ua (wN s5.2.2 s4.2.2.2.2.2) fun r7=>some (.inl (r7.1,r7.2.1,s5.1,s5.2.1,s5.2.2,r7.2.2)))) (fun _=>none))))) else some (.inr s4.2.2.1))) 40 (r5.1,r5.2.1,s3.1,s1.2.1,s3.2,r5.2.2)) (fun (y1:(List Int))=>some y1))) fun (v5:(List Int))=>(ua (dD k1 v5.length) fun g1=>some v5))) (fun _=>none)))) (fun _=>none)))))) else some []))
theorem L9 (c:aq) (a:b9):Le (Wz c a) (yy c a):=by
 unfold Wz yy
 repeat' (first | with_reducible exact Le.refl _ | with_reducible refine Le.bind ?_ (fun _ => ?_) | with_reducible refine Le.cond _ ?_ ?_ | with_reducible refine Le.aE (fun _ _ => ?_) _ _ | with_reducible refine Le.iter (fun _ => ?_) _ _ | with_reducible refine Le.elim (fun _ => ?_) (fun _ => ?_) _)
noncomputable def E9 (c:aq) (a:b9):Option (List Bool):=
 (ua (Wz c a) fun r1=>(ua (ef 1 (r1.length:Int)) fun k1=>(ua (aE (σ:=(List Bool)) (ρ:=Unit) (r1.length:Int) (fun i1 s1=>(ua (ze r1 (i1:Int)) fun e1=>(ua (zh k1 (i1:Int)) fun k2=>(ua (s1[k2]?) fun e2=>some (.inl (s1.set k2 (e1 == (-1)))))))) (ud k1 false)) (ub (fun (s1:(List Bool))=>(ua (dD k1 s1.length) fun g1=>some s1)) (fun _=>none)))))
theorem zkV (c:aq) (a:b9):Le (E9 c a) (ky c a):=by
 unfold E9 ky
 repeat' (first | with_reducible exact Le.refl _ | with_reducible exact L9 _ _ | with_reducible refine Le.bind ?_ (fun _ => ?_) | with_reducible refine Le.cond _ ?_ ?_ | with_reducible refine Le.aE (fun _ _ => ?_) _ _ | with_reducible refine Le.iter (fun _ => ?_) _ _ | with_reducible refine Le.elim (fun _ => ?_) (fun _ => ?_) _)
noncomputable def Kv (c:aq):Option ((List aH)×Int):=
 (ua (Wy c) fun r1=>(bif (r1.2 == 0) then (ua (kD ({state:=r1.1,own:=false}:aG)) fun r2=>(ua (α:=(List aH) ⊕ Unit) (ua (cg (σ:=(List aH)×Int×(List (ByteArray×Bool))) (ρ:=(List aH) ⊕ Unit) (fun s1=>(bif decide (s1.2.1 < (s1.1.length:Int)) then (ua (α:=((List aH)×(List (ByteArray×Bool))) ⊕ Unit) (ua (ze s1.1 s1.2.1) fun e1=>(bif (e1.day == c.bh) then some (.inl (s1.1,s1.2.2)) else (ua (cg (σ:=(List aH)×Int×(List (ByteArray×Bool))) (ρ:=((List aH)×(List (ByteArray×Bool))) ⊕ Unit) (fun s2=>(bif decide (s2.2.1 < (c.aC.length:Int)) then (ua (α:=((List aH)×(List (ByteArray×Bool))) ⊕ Unit) (ua (ze s2.1 s1.2.1) fun e2=>(ua (QX c e2 s2.2.1) fun r3=>(ua (kD ({state:=r3.1,own:=false}:aG)) fun r4=>(bif ((zl r4 s2.2.2).getD false) then some (.inl (s2.1,s2.2.2)) else (bif ((s2.1.length:Int) == 1500) then some (.inr ()) else (ua (zO (α:=aH) 80 s2.1 [r3.1]) fun e3=>some (.inl (e3,(zJ r4 true s2.2.2))))))))) (ub (fun (v1:(List aH)×(List (ByteArray×Bool)))=>some (.inl (v1.1,(IntKind.i64.wrap (s2.2.1+1)),v1.2))) (fun (y1:Unit)=>some (.inr (.inr ()))))) else some (.inr (.inl (s2.1,s2.2.2))))) 40 (s1.1,(-1),s1.2.2)) (ub (fun (y2:(List aH)×(List (ByteArray×Bool)))=>some (.inl (y2.1,y2.2))) (fun (y3:Unit)=>some (.inr ())))))) (ub (fun (v2:(List aH)×(List (ByteArray×Bool)))=>some (.inl (v2.1,(IntKind.i64.wrap (s1.2.1+1)),v2.2))) (fun (y4:Unit)=>some (.inr (.inr ()))))) else some (.inr (.inl s1.1)))) 40 ([r1.1],0,(zJ r2 true []))) (ub (fun (y5:(List aH))=>some (.inl y5)) (fun (y6:Unit)=>some (.inr ())))) (ub (fun (v3:(List aH))=>some (v3,0)) (fun (y7:Unit)=>some ([],3))))) else some ([],r1.2)))
theorem zjj (c:aq):Le (Kv c) (Wi c):=by
 unfold Kv Wi
 repeat' (first | with_reducible exact Le.refl _ | with_reducible exact Vw _ | with_reducible exact L7 _ | with_reducible exact Kt _ _ _ | with_reducible refine Le.bind ?_ (fun _ => ?_) | with_reducible refine Le.cond _ ?_ ?_ | with_reducible refine Le.aE (fun _ _ => ?_) _ _ | with_reducible refine Le.iter (fun _ => ?_) _ _ | with_reducible refine Le.elim (fun _ => ?_) (fun _ => ?_) _)
def XW (p:aH):List UInt8:=xp p.day++p.aF.flatMap xp++p.used.flatMap qe++p.aO.flatMap Cz
def XX (p:aH):Bool:=xo p.day&&(p.aF.all xo&&p.aO.all QW)
theorem zhK {p:aH} (h:XX p=true):XW p=qG p:=by
 simp only [XX,uc,ue] at h
 unfold XW qG
 rw [jX h.1,wu (f:=xp) (g:=zK) (fun a ha=>jX (h.2.1 a ha)),wu (f:=Cz) (g:=jb) (fun a ha=>by
  have:=h.2.2 a ha
  simp only [QW,uc] at this
  show xp a.aR++xp a.left++xp a.got++xp a.bC++qe a.bR=zK a.aR++zK a.left++zK a.got++zK a.bC++qe a.bR
  rw [jX this.1,jX this.2.1,jX this.2.2.1,jX this.2.2.2])]
def WA (p:aH):Option ByteArray:=bif XX p&&decide ((XW p).length≤1000000000) then some ⟨(XW p).toArray⟩ else none
theorem zjk (p:aH):Le (WA p) (Zf p):=fun r h=>by
 unfold WA at h
 cases hq:(XX p&&decide ((XW p).length≤1000000000)) with
 | false=>rw [hq] at h;cases h
 | true=>
  rw [hq] at h
  simp only [uc,decide_eq_true_eq] at hq
  have e:=zhK hq.1
  unfold Zf
  rw [if_pos,←e]
  ·exact h
  ·have h1:=hq.1
   simp only [XX,uc,ue] at h1
   simp only [Ce,uc,decide_eq_true_eq,ue]
   refine ⟨⟨⟨jD h1.1,fun x hx=>jD (h1.2.1 x hx)⟩,fun m hm => ?_⟩,by rw [←e];exact hq.2⟩
   have:=h1.2.2 m hm
   simp only [QW,uc] at this
   exact ⟨⟨⟨jD this.1,jD this.2.1⟩,jD this.2.2.1⟩,jD this.2.2.2⟩
noncomputable def Fa (p1:List Int):Option ((List Int)):=
 (ua (cg (σ:=Int×Int×(List Int)) (ρ:=(List Int)) (fun s1=>(bif decide (s1.1 < s1.2.1) then (ua (zh p1.length s1.2.1) fun k1=>(ua (s1.2.2[k1]?) fun e1=>(ua (zh p1.length s1.1) fun k2=>(ua (s1.2.2[k2]?) fun e2=>(ua ((s1.2.2.set k2 e1)[k1]?) fun e3=>some (.inl ((IntKind.i64.wrap (s1.1+1)),(IntKind.i64.wrap (s1.2.1 - 1)),((s1.2.2.set k2 e1).set k1 e2)))))))) else some (.inr s1.2.2))) 40 (0,(IntKind.i64.wrap ((p1.length:Int) - 1)),p1)) (fun (y1:(List Int))=>some y1))
theorem zkW (p1:List Int):Le (Fa p1) (Xu p1):=by
 unfold Fa Xu
 repeat' (first | with_reducible exact Le.refl _ | with_reducible refine Le.bind ?_ (fun _ => ?_) | with_reducible refine Le.cond _ ?_ ?_ | with_reducible refine Le.aE (fun _ _ => ?_) _ _ | with_reducible refine Le.iter (fun _ => ?_) _ _ | with_reducible refine Le.elim (fun _ => ?_) (fun _ => ?_) _)
noncomputable def Fb (bZ:Option (List (Int×bL))) (n:Int):Option (List Int):=
 ua (cg (σ:=List Int×Int) (ρ:=List Int) (Yv bZ) 60 ([],n)) fun l=>ua (Fa l) fun r=>ua (dD l.length r.length) fun _=>some r
theorem zm2 (bZ:Option (List (Int×bL))) (n:Int):Le (Fb bZ n) (Yw bZ n):=by
 unfold Fb Yw
 exact Le.bind (Le.iter (fun _=>Le.refl _) _ _) fun _=>Le.bind (zkW _) fun _=>Le.refl _
noncomputable def Fc (a:b9) (dK:List Int):Option (List Int):=
 (ua (ua (cg (σ:=(List Int)×Int) (ρ:=(List Int)) (fun s1=>(ua (ze dK s1.2) fun e1=>(bif decide (0 < e1) then (ua (ze a.aY s1.2) fun e2=>(bif e2.own then (ua (ze a.bg s1.2) fun e3=>(ua (ze e3 0) fun e4=>some (.inl (s1.1,e4.to)))) else (ua (ze a.bg s1.2) fun e5=>(ua (Yr e5 dK s1.2) fun r1=>(ua (ze a.bg s1.2) fun e6=>(ua (ze e6 r1) fun e7=>(ua (zO (α:=Int) 8 s1.1 [e7.step]) fun e8=>some (.inl (e8,e7.to))))))))) else some (.inr s1.1)))) 40 ([],0)) (fun (y1:(List Int))=>some y1)) fun (v1:(List Int))=>some v1)
theorem zkX (a:b9) (dK:List Int):Le (Fc a dK) (Ys a dK):=by
 unfold Fc Ys
 repeat' (first | with_reducible exact Le.refl _ | with_reducible refine Le.bind ?_ (fun _ => ?_) | with_reducible refine Le.cond _ ?_ ?_ | with_reducible refine Le.aE (fun _ _ => ?_) _ _ | with_reducible refine Le.iter (fun _ => ?_) _ _ | with_reducible refine Le.elim (fun _ => ?_) (fun _ => ?_) _)
noncomputable def Kw (c:aq) (states:List aH):Option (Option (List (Int×bL))):=
 (ua (aE (σ:=(List (ByteArray×Int))) (ρ:=Unit) (states.length:Int) (fun i1 s1=>(ua (ze states (i1:Int)) fun e1=>(ua (WA e1) fun r1=>some (.inl (zJ r1 (i1:Int) s1))))) []) (ub (fun (s1:(List (ByteArray×Int)))=>(ua (aE (σ:=(List (Int×bL))) (ρ:=Unit) (states.length:Int) (fun i2 s2=>(ua (ua (ze states (i2:Int)) fun e2=>(bif (e2.day == c.bh) then some s2 else (ua (cg (σ:=Int×(List (Int×bL))) (ρ:=(List (Int×bL))) (fun s3=>(bif decide (s3.1 < (c.aC.length:Int)) then (ua (ua (QX c e2 s3.1) fun r2=>(ua (WA r2.1) fun r3=>(ua (bif ((zl ((zl r3 s1).getD 0) s3.2).isSome) then some false else some (!(((zl r3 s1).getD 0) == 0))) fun v1=>(bif v1 then some (zJ ((zl r3 s1).getD 0) ({from_:=(i2:Int),step:=s3.1}:bL) s3.2) else some s3.2)))) fun (v2:(List (Int×bL)))=>some (.inl ((IntKind.i64.wrap (s3.1+1)),v2))) else some (.inr s3.2))) 40 ((-1),s2)) (fun (y1:(List (Int×bL)))=>some y1)))) fun (v3:(List (Int×bL)))=>some (.inl v3))) []) (ub (fun (s2:(List (Int×bL)))=>some (some s2)) (fun _=>none)))) (fun _=>none)))
theorem zjl (c:aq) (states:List aH):Le (Kw c states) (Wk c states):=by
 unfold Kw Wk
 repeat' (first | with_reducible exact Le.refl _ | with_reducible exact zjk _ | with_reducible exact Kt _ _ _ | with_reducible refine Le.bind ?_ (fun _ => ?_) | with_reducible refine Le.cond _ ?_ ?_ | with_reducible refine Le.aE (fun _ _ => ?_) _ _ | with_reducible refine Le.iter (fun _ => ?_) _ _ | with_reducible refine Le.elim (fun _ => ?_) (fun _ => ?_) _)
noncomputable def XY (c:aq) (states:List aH):Option (List bD):=
 (ua (aE (σ:=(List bD)×(Option (List (Int×bL)))) (ρ:=Unit) (c.zw.length:Int) (fun i1 s1=>(ua (aE (σ:=(List bD)×(Option (List (Int×bL)))) (ρ:=Unit) (c.zw.length:Int) (fun i2 s2=>(ua (ua (Xt c (i1:Int) (i2:Int)) fun r1=>(bif r1 then (ua (aE (σ:=(List bD)×(Option (List (Int×bL)))) (ρ:=(List bD)×(Option (List (Int×bL)))) (states.length:Int) (fun i3 s3=>(ua (ze states (i3:Int)) fun e1=>(ua (Ki c e1 (i1:Int) (i2:Int)) fun r2=>(bif r2 then (ua (bif s3.2.isSome then some s3.2 else (ua (Kw c states) fun r3=>some r3)) fun (v1:(Option (List (Int×bL))))=>(ua (Fb v1 (i3:Int)) fun r4=>(ua (wk 4 (-1) (i1:Int) (i2:Int) r4) fun r5=>(ua (zO (α:=bD) 56 s3.1 [r5]) fun e2=>some (.inr (e2,v1)))))) else some (.inl (s3.1,s3.2)))))) (s2.1,s2.2)) (ub (fun (s3:(List bD)×(Option (List (Int×bL))))=>some (s3.1,s3.2)) (fun (y1:(List bD)×(Option (List (Int×bL))))=>some (y1.1,y1.2)))) else some (s2.1,s2.2))) fun (v2:(List bD)×(Option (List (Int×bL))))=>some (.inl (v2.1,v2.2)))) (s1.1,s1.2)) (ub (fun (s2:(List bD)×(Option (List (Int×bL))))=>some (.inl (s2.1,s2.2))) (fun _=>none)))) ([],none)) (ub (fun (s1:(List bD)×(Option (List (Int×bL))))=>some s1.1) (fun _=>none)))
theorem zfu (c:aq) (states:List aH):Le (XY c states) (Z7 c states):=by
 unfold XY Z7
 repeat' (first | with_reducible exact Le.refl _ | with_reducible exact zjl _ _ | with_reducible exact zm2 _ _ | with_reducible refine Le.bind ?_ (fun _ => ?_) | with_reducible refine Le.cond _ ?_ ?_ | with_reducible refine Le.aE (fun _ _ => ?_) _ _ | with_reducible refine Le.iter (fun _ => ?_) _ _ | with_reducible refine Le.elim (fun _ => ?_) (fun _ => ?_) _)
noncomputable def Ma (c:aq):Option ((List bD)×Int):=
 (ua (Kv c) fun r1=>(bif (r1.2 == 0) then (ua (aE (σ:=(List bD)) (ρ:=Int) c.aT (fun i1 s1=>(ua (α:=(List bD) ⊕ Int) (ua (Ku c (i1:Int)) fun r2=>(bif (r2.2 == 0) then (ua (Wz c r2.1) fun r3=>(ua (ze r3 0) fun e1=>(bif decide (0≤e1) then (ua (Fc r2.1 r3) fun r4=>(ua (wk 1 (i1:Int) (-1) (-1) r4) fun r5=>(ua (zO (α:=bD) 56 s1 [r5]) fun e2=>some (.inl e2)))) else some (.inl s1)))) else some (.inr r2.2))) (ub (fun (v1:(List bD))=>some (.inl v1)) (fun (y1:Int)=>some (.inr y1))))) []) (ub (fun (s1:(List bD))=>(ua (aE (σ:=(List bD)×(List bD)) (ρ:=Unit) (c.zw.length:Int) (fun i2 s2=>(ua (Yu (i2:Int) r1.1 s2.1 c s2.2) fun r6=>some (.inl (r6.1,r6.2)))) (s1,[])) (ub (fun (s2:(List bD)×(List bD))=>(ua (zO (α:=bD) 56 s2.1 s2.2) fun e3=>(ua (XY c r1.1) fun r7=>(ua (zO (α:=bD) 56 e3 r7) fun e4=>some (e4,0))))) (fun _=>none)))) (fun (y2:Int)=>some ([],y2)))) else some ([],r1.2)))
theorem zkY (c:aq):Le (Ma c) (Xv c):=by
 unfold Ma Xv
 repeat' (first | with_reducible exact Le.refl _ | with_reducible exact zjj _ | with_reducible exact zji _ _ | with_reducible exact L9 _ _ | with_reducible exact zkX _ _ | with_reducible exact zfu _ _ | with_reducible refine Le.bind ?_ (fun _ => ?_) | with_reducible refine Le.cond _ ?_ ?_ | with_reducible refine Le.aE (fun _ _ => ?_) _ _ | with_reducible refine Le.iter (fun _ => ?_) _ _ | with_reducible refine Le.elim (fun _ => ?_) (fun _ => ?_) _)
def CA (n:Nat) (ab:List Int):Bool:=ab.length == 400&&((List.range n).all (fun i=>decide (0≤ab.getD i 0)&&decide (ab.getD i 0≤(i:Int)))&&decide (n≤400))
theorem zon {n:Nat} {ab:List Int} (h:CA n ab=true):UF n ab:=by
 simp only [CA,uc,beq_iff_eq,ue,List.mem_range,decide_eq_true_eq] at h
 exact ⟨h.1,fun i hi=>h.2.1 i hi,h.2.2⟩
noncomputable def JE (p1:Int) (p2:List Int):Option (Int×List Int):=bif decide (0≤p1)&&CA (p1.toNat+1) p2 then xk (p1.toNat+1) p1 p2 else none
theorem Mb (p1:Int) (p2:List Int):Le (JE p1 p2) (xD p1 p2):=fun r h=>by
 unfold JE at h
 cases hb:(decide (0≤p1)&&CA (p1.toNat+1) p2) with
 | false=>rw [hb] at h;cases h
 | true=>
  rw [hb,cond_true] at h
  simp only [uc,decide_eq_true_eq] at hb
  have e:p1=(p1.toNat:Int):=by omega
  rw [e,Li (zon hb.2) (Nat.lt_succ_self _),←e]
  exact h
noncomputable def YQ (p1:Int) (p2:Int) (p3:List Int):Option ((List Int)):=
 (ua (JE p1 p3) fun r1=>(ua (JE p2 r1.2) fun r2=>(ua (JE p1 r2.2) fun r3=>(ua (JE p2 r3.2) fun r4=>(ua (zh 400 (if r3.1 < r4.1 then r4.1 else r3.1)) fun k1=>(ua (r4.2[k1]?) fun e1=>some (r4.2.set k1 (if r2.1 < r1.1 then r2.1 else r1.1))))))))
theorem zm3 (p1:Int) (p2:Int) (p3:List Int):Le (YQ p1 p2 p3) (wX p1 p2 p3):=by
 unfold YQ wX
 repeat' (first | with_reducible exact Le.refl _ | with_reducible exact Mb _ _ | with_reducible refine Le.bind ?_ (fun _ => ?_) | with_reducible refine Le.cond _ ?_ ?_ | with_reducible refine Le.aE (fun _ _ => ?_) _ _ | with_reducible refine Le.iter (fun _ => ?_) _ _ | with_reducible refine Le.elim (fun _ => ?_) (fun _ => ?_) _)
noncomputable def kK (i:Nat) (s:List (List Int)×List (Int×Int)×List Int):Option ((List (List Int)×List (Int×Int)×List Int) ⊕ Unit):=
 ua (JE (i:Int) s.2.2) fun r=>
  bif r.1 == (i:Int) then some (.inl (s.1++[[(i:Int)]],zJ (i:Int) (s.1.length:Int) s.2.1,r.2))
  else ua (ze s.1 ((zl r.1 s.2.1).getD 0)) fun l=>some (.inl (s.1.set ((zl r.1 s.2.1).getD 0).toNat (l++[(i:Int)]),s.2.1,r.2))
theorem Kx (i:Nat) (s:List (List Int)×List (Int×Int)×List Int):Le (kK i s) (xN i s):=by
 unfold kK xN
 exact Le.bind (Mb _ _) fun _=>Le.refl _
noncomputable def Vx (n:Int) (above:List Int):Option (List (List Int)×List Int):=
 bif decide (n≤1000000000000) then ua (aE (σ:=List (List Int)×List (Int×Int)×List Int) (ρ:=Unit) n kK ([],[],above)) (ub (fun s=>some (s.1,s.2.2)) (fun _=>none)) else none
theorem zhN (n:Int) (above:List Int):Le (Vx n above) (wl n above):=by
 unfold Vx wl
 exact Le.cond _ (Le.bind (Le.aE Kx _ _) fun _=>Le.refl _) (Le.refl _)
noncomputable def ZM (c:aq):Option (List (List Int)):=
 (ua (jN c) fun r1=>(bif (r1.1 == 0) then (ua (aE (σ:=(List Int)) (ρ:=Unit) (c.zw.length:Int) (fun i1 s1=>(ua (zh 400 (i1:Int)) fun k1=>(ua (s1[k1]?) fun e1=>some (.inl (s1.set k1 (i1:Int)))))) (ud 400 0)) (ub (fun (s1:(List Int))=>(ua (Wl c.aC) fun r2=>(ua (aE (σ:=(List Int)×(List (Int×Int))) (ρ:=Unit) (c.zw.length:Int) (fun i2 s2=>(ua (ze c.zw (i2:Int)) fun e2=>(ua (bif r2 then (ua (YQ 0 (i2:Int) s2.1) fun r3=>some r3) else some s2.1) fun (v1:(List Int))=>(ua (aE (σ:=(List Int)) (ρ:=Unit) (e2.start.length:Int) (fun i3 s3=>(ua (ze e2.start (i3:Int)) fun e3=>(ua (YQ (i2:Int) e3.clause s3) fun r4=>some (.inl r4)))) v1) (ub (fun (s3:(List Int))=>(ua (kA e2) fun r5=>(ua (aE (σ:=(List Int)×(List (Int×Int))) (ρ:=Unit) (r5.length:Int) (fun i4 s4=>(ua (ua (ze r5 (i4:Int)) fun e4=>(bif (zl e4 s4.2).isSome then (ua (YQ ((zl e4 s4.2).getD 0) (i2:Int) s4.1) fun r6=>some (r6,s4.2)) else some (s4.1,(zJ e4 (i2:Int) s4.2)))) fun (v2:(List Int)×(List (Int×Int)))=>some (.inl (v2.1,v2.2)))) (s3,s2.2)) (ub (fun (s4:(List Int)×(List (Int×Int)))=>some (.inl (s4.1,s4.2))) (fun _=>none))))) (fun _=>none)))))) (s1,[])) (ub (fun (s2:(List Int)×(List (Int×Int)))=>(ua (Vx (c.zw.length:Int) s2.1) fun r7=>some r7.1)) (fun _=>none))))) (fun _=>none))) else some []))
theorem JL (c:aq):Le (ZM c) (zV c):=by
 unfold ZM zV
 repeat' (first | with_reducible exact Le.refl _ | with_reducible exact zm3 _ _ _ | with_reducible exact zhN _ _ | with_reducible refine Le.bind ?_ (fun _ => ?_) | with_reducible refine Le.cond _ ?_ ?_ | with_reducible refine Le.aE (fun _ _ => ?_) _ _ | with_reducible refine Le.iter (fun _ => ?_) _ _ | with_reducible refine Le.elim (fun _ => ?_) (fun _ => ?_) _)
noncomputable def Fe (c:aq) (zw:List Int):Option (aq×Int):=
 (ua (jN c) fun r1=>(bif (r1.1 == 0) then (ua (aE (σ:=Int) (ρ:=Unit) (zw.length:Int) (fun i1 s1=>(ua (ze zw (i1:Int)) fun e1=>(ua (bif decide (e1≤s1) then some true else some (decide ((c.zw.length:Int)≤e1))) fun v1=>(bif v1 then some (.inr ()) else some (.inl e1))))) (-1)) (ub (fun (s1:Int)=>(ua (zQ 8 c.aF) fun e2=>(ua (zQ 48 c.bB) fun e3=>(ua (zQ 56 c.aC) fun e4=>(ua (zQ 8 c.off) fun e5=>(ua (ef 136 (zw.length:Int)) fun k1=>(ua (aE (σ:=(List aK)) (ρ:=Unit) (zw.length:Int) (fun i2 s2=>(ua (ze zw (i2:Int)) fun e6=>(ua (ze c.zw e6) fun e7=>(ua (zQ 16 e7.start) fun e8=>(ua (aE (σ:=(List cD)) (ρ:=Unit) (e8.length:Int) (fun i3 s3=>(ua (zh e8.length (i3:Int)) fun k2=>(ua (s3[k2]?) fun e9=>(ua (wE zw e9.clause) fun r2=>(bif r2.2 then (ua (zh e8.length (i3:Int)) fun k3=>(ua (s3[k3]?) fun dR=>some (.inl (s3.set k3 ({clause:=r2.1,is:=dR.is}:cD))))) else some (.inr ())))))) e8) (ub (fun (s3:(List cD))=>(ua (zh k1 (i2:Int)) fun k4=>(ua (s2[k4]?) fun lG=>some (.inl (s2.set k4 ({e7 with start:=List.take e8.length s3}:aK)))))) (fun (y2:Unit)=>some (.inr ())))))))) (ud k1 ({kind:=0,bK:=0,act:=0,need:=0,start:=[],after:=0,bq:=0,bu:=false,final:=false,aL:=0,cX:=0,value:=({num:=0,den:=0}:aQ),unit:=0,to:=0,br:=false}:aK))) (ub (fun (s2:(List aK))=>(ua (dD k1 s2.length) fun g1=>some (({aT:=c.aT,aF:=e2,bB:=e3,aC:=e4,zw:=s2,bh:=c.bh,off:=e5}:aq),0))) (fun (y3:Unit)=>some (({aT:=0,aF:=[],bB:=[],aC:=[],zw:=[],bh:=0,off:=[]}:aq),1)))))))))) (fun (y1:Unit)=>some (({aT:=0,aF:=[],bB:=[],aC:=[],zw:=[],bh:=0,off:=[]}:aq),1)))) else some (({aT:=0,aF:=[],bB:=[],aC:=[],zw:=[],bh:=0,off:=[]}:aq),1)))
theorem zkZ (c:aq) (zw:List Int):Le (Fe c zw) (kB c zw):=by
 unfold Fe kB
 repeat' (first | with_reducible exact Le.refl _ | with_reducible exact Qo _ _ | with_reducible refine Le.bind ?_ (fun _ => ?_) | with_reducible refine Le.cond _ ?_ ?_ | with_reducible refine Le.aE (fun _ _ => ?_) _ _ | with_reducible refine Le.iter (fun _ => ?_) _ _ | with_reducible refine Le.elim (fun _ => ?_) (fun _ => ?_) _)
noncomputable def Ff (p1:List Int) (p2:aq) (p3:aH) (p4:Bool) (p5:Int) (p6:List (List Int)):Option (Int×(List (List Int))):=
 (ua (YP p2 p5 ({state:=p3,own:=p4}:aG)) fun r1=>(ua (ua (bif (r1.2 == 0) then (ua (E9 p2 r1.1) fun r2=>(ua (ze r2 0) fun e1=>some (!e1))) else some false) fun v1=>(bif v1 then (ua (zO (α:=List Int) 24 p6 [p1]) fun e2=>some e2) else some p6)) fun (v2:(List (List Int)))=>some (r1.2,v2)))
theorem zk0 (p1:List Int) (p2:aq) (p3:aH) (p4:Bool) (p5:Int) (p6:List (List Int)):Le (Ff p1 p2 p3 p4 p5 p6) (Xz p1 p2 p3 p4 p5 p6):=by
 unfold Ff Xz
 repeat' (first | with_reducible exact Le.refl _ | with_reducible exact L8 _ _ _ | with_reducible exact zkV _ _ | with_reducible refine Le.bind ?_ (fun _ => ?_) | with_reducible refine Le.cond _ ?_ ?_ | with_reducible refine Le.aE (fun _ _ => ?_) _ _ | with_reducible refine Le.iter (fun _ => ?_) _ _ | with_reducible refine Le.elim (fun _ => ?_) (fun _ => ?_) _)
noncomputable def Fg (p1:aq) (p2:Int) (p3:aG) (p4:Int) (p5:List (List Int)):Option (Int×(List (List Int))):=
 (ua (bif decide (p2 < 0) then some true else (bif decide (p1.aT≤p2) then some true else (ua (j9 p1 p3.state) fun r1=>some (!r1)))) fun v1=>(bif v1 then some (1,p5) else (ua (ua (ZM p1) fun r2=>(ua (aE (σ:=Int×(List (List Int))) (ρ:=Int×(List (List Int))) (r2.length:Int) (fun i1 s1=>(ua (ze r2 (i1:Int)) fun e1=>(ua (Fe p1 e1) fun r3=>(ua (bif (r3.2 == 0) then (ua (xm e1 p3.state) fun r4=>(ua (Ff e1 r3.1 r4 p3.own p4 s1.2) fun r5=>some (r5.1,r5.2))) else some (r3.2,s1.2)) fun (v2:Int×(List (List Int)))=>(bif (v2.1 == 0) then some (.inl (v2.1,v2.2)) else some (.inr (v2.1,v2.2))))))) (0,p5)) (ub (fun (s1:Int×(List (List Int)))=>some (s1.1,s1.2)) (fun (y1:Int×(List (List Int)))=>some (y1.1,y1.2))))) fun (v3:Int×(List (List Int)))=>some (v3.1,v3.2))))
theorem zk1 (p1:aq) (p2:Int) (p3:aG) (p4:Int) (p5:List (List Int)):Le (Fg p1 p2 p3 p4 p5) (XA p1 p2 p3 p4 p5):=by
 unfold Fg XA
 repeat' (first | with_reducible exact Le.refl _ | with_reducible exact JL _ | with_reducible exact zkZ _ _ | with_reducible exact zk0 _ _ _ _ _ _ | with_reducible refine Le.bind ?_ (fun _ => ?_) | with_reducible refine Le.cond _ ?_ ?_ | with_reducible refine Le.aE (fun _ _ => ?_) _ _ | with_reducible refine Le.iter (fun _ => ?_) _ _ | with_reducible refine Le.elim (fun _ => ?_) (fun _ => ?_) _)
noncomputable def Mc (c:aq) (aj:Int) (p:aG):Option ((List (List Int))×Int):=
 (ua (Fg c aj p aj []) fun r1=>(bif (r1.1 == 0) then some (r1.2,0) else some ([],r1.1)))
theorem zk2 (c:aq) (aj:Int) (p:aG):Le (Mc c aj p) (XB c aj p):=by
 unfold Mc XB
 repeat' (first | with_reducible exact Le.refl _ | with_reducible exact zk1 _ _ _ _ _ | with_reducible refine Le.bind ?_ (fun _ => ?_) | with_reducible refine Le.cond _ ?_ ?_ | with_reducible refine Le.aE (fun _ _ => ?_) _ _ | with_reducible refine Le.iter (fun _ => ?_) _ _ | with_reducible refine Le.elim (fun _ => ?_) (fun _ => ?_) _)
abbrev CB (act after:Int):aK:={kind:=1,bK:=0,act:=act,need:=1,start:=[],after:=after,bq:=0,bu:=false,final:=true,aL:=(-1),cX:=(-1),value:=({num:=0,den:=1}:aQ),unit:=(-1),to:=(-1),br:=false}
abbrev KP:aq:={aT:=2,aF:=[0,1],bB:=[],aC:=[({kind:=1,bK:=0,bN:=0,to:=(-1),unit:=(-1),dc:=({num:=0,den:=1}:aQ)}:aV),({kind:=1,bK:=0,bN:=0,to:=(-1),unit:=(-1),dc:=({num:=0,den:=1}:aQ)}:aV),({kind:=1,bK:=1,bN:=0,to:=(-1),unit:=(-1),dc:=({num:=0,den:=1}:aQ)}:aV)],zw:=[CB 0 2,CB 2 2],bh:=3,off:=[]}
abbrev Md:ak:={aR:=1,left:=2,got:=0,bC:=0,bR:=false}
abbrev SP:aH:={day:=0,aF:=[0,1],used:=[false,false,false],aO:=[Md,Md]}
abbrev FP:List bD:=[{kind:=1,aj:=0,clause:=(-1),other:=(-1),trace:=[(-1),(-1)]}]
theorem zpJ:jO KP=some (SP,0):=Vw _ _ (by kernel_rfl)
theorem zpK:XB KP 0 ({state:=SP,own:=true}:aG)=some (([[1]],0):List (List Int)×Int):=zk2 _ _ _ _ (by kernel_rfl)
theorem zpL:Xv KP=some (FP,0):=zkY _ _ (by kernel_rfl)
theorem zpM:zV KP=some ([[0],[1]]:List (List Int)):=JL _ _ (by kernel_rfl)
theorem zfv:kW=some true:=by
 refine ay.eq ?_
 unfold kW
 refine ay.ax (v:=CB 0 2) rfl ?_
 refine ay.ax (v:=CB 2 2) rfl ?_
 refine ay.ax (v:=()) rfl ?_
 refine ay.ax (v:=(SP,0)) zpJ ?_
 refine ay.ax (v:=([[1]],0)) zpK ?_
 refine ay.ax (v:=(FP,0)) zpL ?_
 refine ay.ax (v:=false) ?_ ?_
 ·show (ua (zV KP) fun r7=>some (!((r7.length:Int) == 2)))=some false
  rw [zpM];rfl
 refine ay.ite (fun h=>by cases h) (fun _ => ?_)
 exact ⟨true,by kernel_rfl,rfl⟩
end Go.Proofs.YtlpmnmbebkdocaaGreatDoor
namespace Go.Proofs.YtlpmnmbebkdocaaGreatDoor
open Go.RowKit
set_option linter.unusedSimpArgs false
set_option linter.unusedVariables false
set_option maxRecDepth 100000
theorem WB {c:aq} (h:Ws c=true):c.aC.length≤8∧c.zw.length≤6∧∀ k∈c.zw,k.start.length≤20:=by
 simp only [Ws,YF,uc,Bool.not_eq_true',Bool.or_eq_false_iff,decide_eq_false_iff_not,decide_eq_true_eq,ue] at h
 obtain ⟨⟨⟨_,_,_,h1,_⟩,h2⟩,h3,_⟩:=h
 exact ⟨by omega,by omega,fun k hk=>by have:=h2 k hk;omega⟩
theorem zaP (c other:aq) (aj:Int) (hc:aq.Ok c) (ho:aq.Ok other) (Fh:dL .i64 aj):kG c other aj=some true:=by
 refine ay.eq ?_
 unfold kG
 refine ay.ax zfv ?_
 refine ay.ax (v:=({c with aC:=other.aC,zw:=other.zw}:aq)) rfl ?_
 have hd:aq.Ok ({c with aC:=other.aC,zw:=other.zw}:aq):={hc with aC:=ho.aC,zw:=ho.zw}
 have e1:({c with aC:=other.aC,zw:=other.zw}:aq).aT=c.aT:=rfl
 have e2:({c with aC:=other.aC,zw:=other.zw}:aq).aF=c.aF:=rfl
 have e3:({c with aC:=other.aC,zw:=other.zw}:aq).bB=c.bB:=rfl
 have e4:({c with aC:=other.aC,zw:=other.zw}:aq).bh=c.bh:=rfl
 have e5:({c with aC:=other.aC,zw:=other.zw}:aq).off=c.off:=rfl
 generalize ({c with aC:=other.aC,zw:=other.zw}:aq)=d at hd e1 e2 e3 e4 e5 ⊢
 refine ay.bind (P:=fun b:Bool=>b=true∨(b=false∧Ws c=true∧Ws d=true∧0≤aj∧aj < c.aT∧(∀ a∈c.aC,a.kind=1)∧∀ a∈d.aC,a.kind=1)) ?_ ?_
 ·refine ay.ax (Lu hc) ?_
  refine ay.ite (fun t1 => ?_) (fun _=>ay.some (.inl rfl))
  refine ay.ax (Lu hd) ?_
  refine ay.ite (fun t2 => ?_) (fun _=>ay.some (.inl rfl))
  refine ay.ite (fun _=>ay.some (.inl rfl)) (fun p1 => ?_)
  refine ay.ite (fun _=>ay.some (.inl rfl)) (fun p2 => ?_)
  refine ay.ax (L6 (WB t1).1) ?_
  refine ay.ite (fun _=>ay.some (.inl rfl)) (fun k1 => ?_)
  refine ay.ax (L6 (WB t2).1) ?_
  refine ay.some ?_
  have p1:=of_decide_eq_false p1
  have p2:=of_decide_eq_false p2
  cases k2:d.aC.all fun a=>a.kind == 1 with
  | false=>exact .inl rfl
  | true=>
   refine .inr ⟨rfl,t1,t2,by omega,by omega,fun a ha => ?_,fun a ha=>beq_iff_eq.1 (ue.1 k2 a ha)⟩
   have k1:(c.aC.all fun a=>a.kind == 1)=true:=by simpa using k1
   exact beq_iff_eq.1 (ue.1 k1 a ha)
 rintro b (rfl | ⟨rfl,t1,t2,p0,p1,kc,kd⟩)
 ·exact ay.ite (fun _=>ay.some rfl) (fun h=>by cases h)
 refine ay.ite (fun h=>by cases h) (fun _ => ?_)
 obtain ⟨a1,a2,_⟩:=WB t1
 obtain ⟨b1,b2,b3⟩:=WB t2
 refine ay.ax hc.valid ?_
 refine ay.ax hd.valid ?_
 refine ay.ax (zjf a1 b1 a2 b2 b3) ?_
 by_cases vc:(zF c).1=0
 case neg=>
  refine ay.ax (v:=true) (by rw [beq_eq_false_iff_ne.2 vc];rfl) ?_
  exact ay.ite (fun _=>ay.some rfl) (fun h=>by cases h)
 by_cases vd:(zF d).1=0
 case neg=>
  refine ay.ax (v:=true) (by rw [beq_iff_eq.2 vc,beq_eq_false_iff_ne.2 vd];rfl) ?_
  exact ay.ite (fun _=>ay.some rfl) (fun h=>by cases h)
 refine ay.ax (v:=false) (by rw [beq_iff_eq.2 vc,beq_iff_eq.2 vd];rfl) ?_
 refine ay.ite (fun h=>by cases h) (fun _ => ?_)
 have M:ia c d:=⟨vc,vd,e1,e2,e3,e4,e5,by omega,by omega⟩
 have hu:=zkU hc hd M
 have vu:(zF (j6 c d)).1=0:=by rw [YK M]
 rw [zkT hd M]
 obtain ⟨s,g1,Bc⟩:=Qm hc vc
 obtain ⟨t,g2,Bd⟩:=Qm hd vd
 obtain ⟨w,g3,Bu⟩:=Qm hu vu
 refine ay.ax g1 ?_
 refine ay.ax g2 ?_
 refine ay.ax g3 ?_
 obtain ⟨ρ,R,hC⟩:=Kq hc vc
 obtain ⟨σ,S,hD⟩:=Kq hd vd
 obtain ⟨T,oO⟩:=zje hc hd hu M kc kd R S
 have hU:=zhJ hu vu T
 have l1:=XQ (c:=c) (ρ:=ρ)
 have l2:=XQ (c:=d) (ρ:=σ)
 refine ay.ax (v:=false) ?_ ?_
 ·rw [hC,hD,hU]
  simp only [bf]
  rw [qf (by omega) (by omega),oO,uj,uh,beq_iff_eq.2 (show (((zD ρ c.zw.length).length+(zD σ d.zw.length).length:Nat):Int)=_ by omega)]
  rfl
 refine ay.ite (fun h=>by cases h) (fun _ => ?_)
 have plc:xG c aj s=true:=jK.2 ⟨p0,p1,Bc.vs⟩
 have Me:xG d aj t=true:=jK.2 ⟨p0,by rw [e1];exact p1,Bd.vs⟩
 have plu:xG (j6 c d) aj w=true:=jK.2 ⟨p0,p1,Bu.vs⟩
 obtain ⟨A,B⟩:=zhI hc hd hu M kc kd R S Bc Bd Bu p0 p1
 have vU:=yT hu plu T hU
 rw [oO] at vU
 have inl:=fun (P:List Int) (h:P∈zD ρ c.zw.length)=>(ui.2 (.inl h):P∈zD ρ c.zw.length++(zD σ d.zw.length).map fun P=>P.map (· + (c.zw.length:Int)))
 have inr:=fun (P:List Int) (h:P∈zD σ d.zw.length)=>(ui.2 (.inr (ul.2 ⟨P,h,rfl⟩)):P.map (· + (c.zw.length:Int))∈zD ρ c.zw.length++(zD σ d.zw.length).map fun P=>P.map (· + (c.zw.length:Int)))
 have bad:∀ {x:aW×Int},ju (j6 c d) aj w=some x→((∃ P∈zD ρ c.zw.length,¬ xX c aj s P)∨∃ P∈zD σ d.zw.length,¬ xX d aj t P)→x.2=3:=fun {x} hx hno=>by
  rcases vU with ⟨y1,_⟩ | ⟨v,_,y2,_⟩
  ·rw [y1] at hx;cases hx;rfl
  ·rcases hno with ⟨P,hP,hn⟩ | ⟨P,hP,hn⟩
   ·exact absurd ((A P hP).has.1 (y2 P (inl P hP))) hn
   ·exact absurd ((B P hP).has.1 (y2 _ (inr P hP))) hn
 obtain ⟨x,hx⟩:∃ x,ju (j6 c d) aj w=some x:=by
  rcases vU with ⟨y1,_⟩ | ⟨v,y1,_⟩
  ·exact ⟨_,y1⟩
  ·exact ⟨_,y1⟩
 have bad:=bad hx
 rcases yT hc plc R hC with ⟨x1,x2⟩ | ⟨v1,x1,x2,x3⟩
 ·rcases (show ∃ y,ju d aj t=some y from by
   rcases yT hd Me S hD with ⟨z1,_⟩ | ⟨v,z1,_⟩
   ·exact ⟨_,z1⟩
   ·exact ⟨_,z1⟩) with ⟨y,hy⟩
  refine ay.ax x1 (ay.ax hy (ay.ax hx ?_))
  refine ay.ax (v:=true) rfl ?_
  refine ay.ite (fun _ => ?_) (fun h=>by cases h)
  rw [bad (.inl x2)]
  exact ay.some rfl
 rcases yT hd Me S hD with ⟨z1,z2⟩ | ⟨v2,z1,z2,z3⟩
 ·refine ay.ax x1 (ay.ax z1 (ay.ax hx ?_))
  refine ay.ax (v:=true) (by cases v1.1<;>rfl) ?_
  refine ay.ite (fun _ => ?_) (fun h=>by cases h)
  rw [bad (.inr z2)]
  exact ay.some rfl
 rcases vU with ⟨y1,Q,hQ,hn⟩ | ⟨v3,y1,y2,y3⟩
 ·rcases ui.1 hQ with g | g
  ·exact absurd ((A Q g).has.2 (x2 Q g)) hn
  ·obtain ⟨P,hP,rfl⟩:=ul.1 g
   exact absurd ((B P hP).has.2 (z2 P hP)) hn
 refine ay.ax x1 (ay.ax z1 (ay.ax y1 ?_))
 obtain ⟨q1,q2,q3⟩:=zkS x3 z3 y3 A B
 have r1:=Vu x3
 have r2:=Vu z3
 have r3:=Vu y3
 refine ay.ax (v:=false) (by cases v1.1<;>cases v2.1<;>rfl) ?_
 refine ay.ite (fun h=>by cases h) (fun _ => ?_)
 cases h1:v1.1 with
 | false=>
  have h3:v3.1=false:=by rw [q1,h1];rfl
  rw [h3]
  refine ay.ax (v:=false) rfl ?_
  exact ay.some rfl
 | true=>
  cases h2:v2.1 with
  | false=>
   have h3:v3.1=false:=by rw [q1,h1,h2];rfl
   rw [h3]
   refine ay.ax (v:=false) rfl ?_
   exact ay.some rfl
  | true=>
   have h3:v3.1=true:=by rw [q1,h1,h2];rfl
   rw [h3]
   simp only [cond_true]
   refine ay.ax (v:=false) rfl ?_
   refine ay.ite (fun h=>by cases h) (fun _ => ?_)
   refine ay.ax (v:=v3.2.2.1) ?_ ?_
   ·simp only [q2]
    cases decide (v1.2.2.1 < 0)<;>cases decide (0≤v2.2.2.1)<;>cases decide (v2.2.2.1 < v1.2.2.1)<;>rfl
   refine ay.ax (v:=true) ?_ (ay.some rfl)
   rw [q3] at r3
   simp only [q3,r1,r2,r3,beq_self_eq_true,cond_true]
   cases v1.2.2.2<;>cases v2.2.2.2<;>rfl
end Go.Proofs.YtlpmnmbebkdocaaGreatDoor
namespace Go.Proofs.YtlpmnmbebkdocaaGreatDoor
open Go.ChangeShapes Go.WideShapes Go.RowKit
set_option maxRecDepth 100000
abbrev WC : List (String × DataW Unit) := [("math/bits.deBruijn32tab", Rows.laid_math_bits_deBruijn32tab), ("math/bits.deBruijn64tab", Rows.laid_math_bits_deBruijn64tab), ("internal/strconv.uint64pow10", Rows.laid_internal_strconv_uint64pow10)]
theorem zjm:(WC.filter fun x=>x.1 == wx)=[(wx,Lib.tabData .u64 Lib.pow10Tab)]:=by kernel_rfl
theorem zcY {W:World} (h:laidMet Tryz.prog WC W):C0.tabs.p W∧C0.tabs.n≤W.heap.size:=by
 have h1:=h.filter (fun x=>x.1 == wx)
 rw [zjm] at h1
 have h2:C0.tabs.p W:=Lib.tabIs_of_head (g:=0) (t:=((Tryz.prog.globals[0]?).map (·.type)).getD 0) (e:=193) (n:=20)
  (by kernel_rfl) (by kernel_rfl) (by kernel_rfl) (by kernel_rfl) (by kernel_rfl) (by kernel_rfl) h1
 exact ⟨h2,PG h2⟩
def zm4:DataW Unit→Array Value
 | .agg ds=>(ds.map fun d=>match d with | .lit (.int k n)=>Value.int k n | _=>Value.bool false).toArray
 | _ => #[]
def Fi (w:World) (g:Nat) (d:DataW Unit):World:={w with heap:=w.heap.modify g fun | .cells _ t f=>.cells (zm4 d) t f | o=>o}
noncomputable def Mf (os:Os):World:=
 Fi (Fi (Fi (World.holding Tryz.prog os ⟨#[],#[],[]⟩) 1 Rows.laid_math_bits_deBruijn32tab) 2 Rows.laid_math_bits_deBruijn64tab) 0 Rows.laid_internal_strconv_uint64pow10
theorem zaQ (os:Os) (args:Array Value):laidMet Tryz.prog WC ((Mf os).forCall (fun _ _=>0) ⟨#[],args,[]⟩).memory:=
 laidMet_of_run3 8 (by kernel_rfl) (by kernel_rfl) (by kernel_rfl)
end Go.Proofs.YtlpmnmbebkdocaaGreatDoor
namespace Go.Proofs.YtlpmnmbebkdocaaGreatDoor.LTopTogether
open Go.ChangeShapes Go.WideShapes Go.ChangeAt Go.RowKit
set_option linter.unusedVariables false
set_option maxRecDepth 100000
theorem all (dx:List IV) (h:We [(true,aq.cL),(true,aq.cL),(false,[.int .i64])] dx):aJ C0 184 dx (.bool true):=by
 match dx,h with
 | [x0,x1,x2],⟨a0,a1,a2,_⟩=>
  obtain ⟨Aq,rfl,r0⟩:=a0
  obtain ⟨c,rfl,Fj⟩:=aq.gS r0
  obtain ⟨row1,rfl,r1⟩:=a1
  obtain ⟨other,rfl,oP⟩:=aq.gS r1
  obtain ⟨c2,_,e2,k2,n2⟩:=zg a2
  cases e2
  obtain ⟨aj,rfl,oQ⟩:=zs k2
  exact zaM c other aj true (zaP c other aj Fj oP oQ)
theorem own:ownKnob Tryz.prog.godebug=none:=by kernel_rfl
theorem laid:laidOutB Tryz.prog=true:=by kernel_rfl
theorem args:aI (A5 Tryz.prog) Tryz.f3.params.toList=some [(true,aq.cL),(true,aq.cL),(false,[.int .i64])]:=by kernel_rfl
theorem zm5 (os:Os) (started:os.Started) (H:Type) (enc:TypeId×Value→H) :
  ReturnsInHanded {} Tryz.checked os 3 .any (fun w args=>(Rows.topTogetherSpec.pre enc Tryz.prog Tryz.f3 [] false w args∧laidMet Tryz.prog WC w)∧sizedMet enc Tryz.prog Tryz.f3 (OpenSpec.ofChange Rows.topTogetherSpec) false w args) (Rows.topTogetherSpec.post enc Tryz.prog Tryz.f3 false true false false):=by
 refine returnsInHanded_of_change_and (C:=Tryz.checked) (X:=fun w _=>laidMet Tryz.prog WC w) (fun _ _ _ hh h=>h.of_heap hh) own started (by kernel_rfl) Tryz.func3
  (ChangeSpec.witness_at (enc:=enc) (C:=Tryz.checked) (os:=os) (X:=fun w _=>laidMet Tryz.prog WC w) false (Mf os) #[.agg #[.int .i64 0,.slice none 0 0,.slice none 0 0,.slice none 0 0,.slice none 0 0,.int .i64 0,.slice none 0 0],.agg #[.int .i64 0,.slice none 0 0,.slice none 0 0,.slice none 0 0,.slice none 0 0,.int .i64 0,.slice none 0 0],.int .i64 0] 8 rfl (by kernel_rfl) (by kernel_rfl) (by kernel_rfl) (by kernel_rfl) (by kernel_rfl) (zaQ os _)) ?_
 intro W base args ds gs before hval hW _ Cb hL _
 exact P7 (Cx:=C0) (tb:=4) 184 rfl LTopTogether.args rfl (by kernel_rfl) rfl
  (fun ds h=>by match ds,h with | [_,_,_],_=>rfl) LTopTogether.laid (by kernel_rfl) LTopTogether.all W (zcY hL) base args ds gs before hval hW Cb
theorem zpN:Rows.TopTogetherSaid:=
 OpenClaim.holds_of_wide 3 Tryz.f3 rfl rfl rfl rfl rfl rfl rfl ⟨rfl,rfl,rfl,rfl,rfl⟩ rfl rfl rfl rfl rfl (by kernel_rfl) Tryz.func3 (by kernel_rfl)
  (of_decide_eq_true (by kernel_rfl)) (by unfold Func.isWrapper;first | (rw [if_pos (by decide +kernel)];kernel_rfl) | (rw [if_neg (by decide +kernel)];exact ⟨rfl,rfl⟩))
  (fun os started H enc _=>zm5 os started H enc)
theorem holds:Rows.TopTogetherCardSaid:=
 Claim7.holds_tied_plain_at .later [] [.data, .data, .data] true (true, "7bc6b4a7d0776bec5163c6b97d3bd90ad221a013c50c4dd2d862c7360c2f6317") false
  zpN (fun _ h=>by cases h) (by kernel_rfl) (fun _ h=>by cases h) topTogether_row_tie rfl ⟨rfl,rfl⟩ (by kernel_rfl) rfl
  (fun f fn hf hfn=>by
   obtain rfl : f = 3 := Option.some.inj ((show Tryz.prog.funcNamed "estoppel/estoppeltop.TopTogether" = some 3 by kernel_rfl).symm.trans hf) |>.symm
   obtain rfl:fn=Tryz.f3:=(Option.some.inj (Tryz.func3.symm.trans hfn)).symm
   refine ⟨by kernel_rfl,fun j t ht => ?_⟩
   have hall:(Tryz.f3.params.toList.all fun t=>!(Tryz.prog.wantsStandIn t))=true:=by kernel_rfl
   have:=ue.1 hall t (by rw [Array.mem_toList_iff];exact Array.mem_of_getElem? ht)
   have h2:Tryz.prog.wantsStandIn t=false:=by simpa using this
   exact h2)
  (by kernel_rfl)
end Go.Proofs.YtlpmnmbebkdocaaGreatDoor.LTopTogether
namespace Go.Proofs.YtlpmnmbebkdocaaGreatDoor
theorem topTogether_holds:Rows.TopTogetherCardSaid:=LTopTogether.holds
end Go.Proofs.YtlpmnmbebkdocaaGreatDoor
