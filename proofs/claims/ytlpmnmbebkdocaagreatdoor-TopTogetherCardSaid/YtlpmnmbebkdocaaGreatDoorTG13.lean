/-
  What an act does.
  'system.Step': what it returns.
  'arena.Moves' and 'arena.After': what they return.
  What 'slices.BinarySearch' and 'contract.Part' come to.
  States of parts of a contract: a step of the contract is a step of each part.
  Trees of clauses: what 'root', 'join' and 'gather' of package contract come to.
  What 'contract.Components' and the law's 'part' come to.
  What 'contract.Components' and 'contract.Linked' come to.
  'arena.After'; 'Few', 'Tame', 'Doer'.
  The text of a position tells it from every other position of the same contract.
  A search through positions, breadth first: what is known of it.
  'arena.From': what it returns.
  'system.Start', 'arena.Build', 'Index'.
  What an arena holds: closed under moves, and all that can be reached.
  region.Ranks: what it returns for an arena is the number of moves in which a breach can be forced.
-/
import Derived.Test.YtlpmnmbebkdocaaGreatDoorTG12
import Derived.Test.YtlpmnmbebkdocaaGreatDoorTG07
open List renaming getElem?_eq_getElem → ua, getElem?_eq_some_iff → ub, getElem_mem → uc, getD_eq_getElem?_getD → ue, getElem_of_mem → ug, append_assoc → uh, mem_singleton → uj, replicate → ul, getElem?_eq_none → un, mem_cons_self → uo, mem_of_getElem? → uq, mem_cons_of_mem → ur, mem_append → ut, getElem?_append_left → uv, all_eq_true → uw, length_cons → uA, length_set → uB, length_map → uC, range → uD, length_mapIdx → uE, length_append → uF, getElem?_set → uG, getElem?_set_self → uI, count_cons_of_ne → uK, getElem?_mapIdx → uL, nodup_cons → uM, append_nil → uN, nil_append → uO, filter_append → uP, getElem?_append_right → uQ, ext_getElem? → uS, flatMap_cons → uT, count_append → uU, Pairwise → uV, take_of_length_le → uW, mem_map → uX, range_succ → uY, map_append → uZ, length_nil → u0, mem_range → u4, pairwise_append → u5, getElem?_set_ne → u6, map_congr_left → u7, map_cons → u9, getElem?_map → Uc, idxOf_append → Ud, cons_append → Uf, mem_filter → Uj, foldl_cons → Uk, foldl_nil → Um, mem_cons → Un, set_set → Uo
open Option renaming bind → ui, getD_some → uu, map_eq_some_iff → uH, isSome_some → Ua, isSome_none → Ub, map_some → Ui
open Bool renaming and_eq_true → ud, not_true → uy, cond_false_right → uJ, not_eq_true' → uR, eq_iff_iff → Uh
open Nat renaming strongRecOn → ux, lt_or_ge → uz, lt_succ_self → Ue, le_refl → Ug, mul_le_mul → Ul
open Int renaming toNat_natCast → um
open Sum renaming elim_inl → uk
namespace Go.Proofs.YtlpmnmbebkdocaaGreatDoor
open Go.RowKit
set_option linter.unusedSimpArgs false
set_option linter.unusedVariables false
set_option maxRecDepth 100000
def wt (act:Int) (k:aK) (m:ak):ak:=
 bif jV m then (bif act == k.aL then {m with bR:=true} else bif act == k.cX then {m with bR:=false} else m) else m
def Er (k:aK) (m:ak):ak:=bif m.got+1 == k.need then Qt 3 {m with got:=m.got+1} else {m with got:=m.got+1}
def Es (k:aK) (m:ak):ak:=bif k.kind == 1 then Er k m else bif k.kind == 2 then (bif m.bR then m else Qt 4 m) else Qt 3 m
def ZH (act bI:Int) (k:aK) (m:ak):ak:=bif jV m then (bif k.act == act&&(k.kind == 4||m.bC == bI) then Es k m else m) else m
def Wq (a:aV) (k:aK) (m:ak):ak:=bif jV m then (bif !(k.kind == 4)&&k.bK == a.bN then {m with bC:=a.to} else m) else m
def xF (hs:List Int) (a:aV):Int:=bif a.bK == -1 then -1 else hs[a.bK.toNat]?.getD 0
theorem zmL (c:aq) (s:aH) (i:Nat) (a:aV) (ha:c.aC[i]?=some a) (h:a.bK = -1∨(0≤a.bK∧a.bK < s.aF.length)):QL c s i=some (xF s.aF a):=by
 unfold QL xF
 simp only [zB ha,bf]
 cases hr:(a.bK == -1) with
 | true=>rfl
 | false=>
  have h1:=beq_eq_false_iff_ne.1 hr
  obtain ⟨h2,h3⟩:=q6 (l:=s.aF) (n:=a.bK) (by omega) (by omega)
  simp only [cy,h3,bf,ua h2,uu]
theorem zhf {c:aq} {i:Nat} {k:aK} {m:ak} {act:Int} (ha:0≤act) (kv:KV c i k) (h:q9 c.aT k m=true):q9 c.aT k (wt act k m)=true:=by
 unfold wt
 cases hr:jV m with
 | false=>exact h
 | true=>
  obtain ⟨rv,hb,hs⟩:=vz kv h hr
  obtain ⟨b1,b2,b3,b4,b5⟩:=jC.1 hb
  simp only [cond_true]
  cases h1:(act == k.aL) with
  | true=>exact Zj hs (jC.2 ⟨b1,b2,fun _=>by have:=beq_iff_eq.1 h1;omega,b4,b5⟩)
  | false=>
   cases h2:(act == k.cX) with
   | true=>exact Zj hs (jC.2 ⟨b1,b2,fun h=>absurd (show false=true from h) (by decide),b4,b5⟩)
   | false=>exact h
theorem zkD {c:aq} {i:Nat} {k:aK} {m:ak} {act bI:Int} (hp:0 < c.aT) (kv:KV c i k) (h:q9 c.aT k m=true):q9 c.aT k (ZH act bI k m)=true:=by
 unfold ZH
 cases hr:jV m with
 | false=>exact h
 | true=>
  obtain ⟨rv,hb,hs⟩:=vz kv h hr
  obtain ⟨b1,b2,b3,b4,b5⟩:=jC.1 hb
  simp only [cond_true]
  cases h1:(k.act == act&&(k.kind == 4||m.bC == bI)) with
  | false=>exact h
  | true=>
   simp only [cond_true,Es]
   have hn:=kv.need
   cases h2:(k.kind == 1) with
   | true=>
    have hk:=beq_iff_eq.1 h2
    simp only [cond_true,Er]
    cases h3:(m.got+1 == k.need) with
    | true=>
     have h3':=beq_iff_eq.1 h3
     refine wq.2 (.inr (.inr (.inr ⟨.inl rfl,?_⟩)))
     have e1:decide (0≤m.got+1)=true:=decide_eq_true (by omega)
     have e2:decide (m.got+1≤9)=true:=decide_eq_true (by omega)
     have e3:decide (-1≤m.bC)=true:=decide_eq_true (by omega)
     have e4:decide (m.bC < c.aT)=true:=decide_eq_true (by omega)
     show ((0:Int) == 0&&(decide (0≤m.got+1)&&(decide (m.got+1≤9)&&(decide (-1≤m.bC)&&(decide (m.bC < c.aT) && !false)))))=true
     rw [e1,e2,e3,e4];rfl
    | false=>
     have h3':=beq_eq_false_iff_ne.1 h3
     refine Zj hs (jC.2 ⟨b1,b2,b3,.inr ⟨hk,?_,?_⟩,b5⟩)
     ·show 0≤m.got+1;omega
     ·show m.got+1 < k.need;omega
   | false=>
    simp only [cy]
    cases h3:(k.kind == 2) with
    | true=>
     simp only [cond_true]
     cases m.bR with
     | true=>exact h
     | false=>exact QP kv rv hp (by omega)
    | false=>exact QP kv rv hp (by omega)
theorem ziT {c:aq} {i:Nat} {k:aK} {m:ak} {a:aV} (kv:KV c i k) (ht:0≤a.to∧a.to < c.aT) (h:q9 c.aT k m=true):q9 c.aT k (Wq a k m)=true:=by
 unfold Wq
 cases hr:jV m with
 | false=>exact h
 | true=>
  obtain ⟨rv,hb,hs⟩:=vz kv h hr
  obtain ⟨b1,b2,b3,b4,b5⟩:=jC.1 hb
  simp only [cond_true]
  cases h1:(!(k.kind == 4)&&k.bK == a.bN) with
  | false=>exact h
  | true=>
   simp only [ud,uR,beq_eq_false_iff_ne] at h1
   exact Zj hs (jC.2 ⟨b1,b2,b3,b4,.inr ⟨h1.1,ht.1,ht.2⟩⟩)
def fq (c:aq) (act:Int) (ms:List ak):List ak:=ms.mapIdx (eW c (wt act))
def eV (c:aq) (act:Int) (a:aV) (hs:List Int) (ms:List ak):List ak:=(fq c act ms).mapIdx (eW c (ZH act (xF hs a)))
def lH (c:aq) (act:Int) (a:aV) (hs:List Int) (ms:List ak):List ak:=bif a.kind == 3 then (eV c act a hs ms).mapIdx (eW c (Wq a)) else eV c act a hs ms
def hs3 (a:aV) (hs:List Int):List Int:=bif a.kind == 1 then hs else hs.set a.bN.toNat a.to
def l8 (i:Nat) (a:aV) (us:List Bool):List Bool:=bif a.kind == 1 then us else us.set i true
theorem I1 {c:aq} {act:Int} {ms:List ak} (ho:c.off.length < 4611686018427387904) (hv:(zF c).1=0) (ha:0≤act) (hm:lf c ms):lf c (fq c act ms):=
 hm.mapIdx _ fun i k m hk h=>zhf ha (xe ho hv hk) h
theorem Et {c:aq} {act:Int} {a:aV} {hs:List Int} {ms:List ak} (ho:c.off.length < 4611686018427387904) (hv:(zF c).1=0) (ha:0≤act) (hm:lf c ms):lf c (eV c act a hs ms):=
 (I1 ho hv ha hm).mapIdx _ fun i k m hk h=>zkD (by have:=(qy ho hv).aT;omega) (xe ho hv hk) h
theorem zmM {c:aq} {act:Int} {a:aV} {hs:List Int} {ms:List ak} (ho:c.off.length < 4611686018427387904) (hv:(zF c).1=0) (ha:0≤act) (av:Eo c a) (hm:lf c ms):lf c (lH c act a hs ms):=by
 unfold lH
 cases h3:(a.kind == 3) with
 | false=>exact Et ho hv ha hm
 | true=>
  refine (Et ho hv ha hm).mapIdx _ fun i k m hk h=>ziT (xe ho hv hk) ?_ h
  have:=beq_iff_eq.1 h3
  have:=av.kind
  omega
theorem zmN (c:aq) (day:Int) (hs:List Int) (us:List Bool) (ms:List ak) (i:Nat) (a:aV) (ho:c.off.length < 4611686018427387904) (hv:(zF c).1=0) (hh:hs.length=c.aF.length) (hu:us.length=c.aC.length)
  (ha:c.aC[i]?=some a) (hm:lf c ms) :
  Jv i c day hs hs.length us us.length ms ms.length=(bif !(a.kind == 1)&&us[i]?.getD false then some (hs,us,ms) else
   (ya c day (hs3 a hs) (l8 i a us) (lH c i a hs ms)).bind fun r=>some (hs3 a hs,l8 i a us,r)):=by
 have sm:=qy ho hv
 have dZ:=sm.zw
 have hl:=hm.1
 have av:=Ep hv ha
 have hia:i < c.aC.length:=(ub.1 ha).1
 have nW:i < us.length:=by omega
 unfold Jv
 have eU:(bif a.kind == 1 then some false else (ui (zh us.length (i:Int)) fun k1=>(ui (us[k1]?) fun e2=>some e2)))=some (!(a.kind == 1)&&us[i]?.getD false):=by
  simp only [zM nW,bf,ua nW,uu]
  cases (a.kind == 1)<;>rfl
 simp only [zB ha,bf]
 rw [eU]
 simp only [bf]
 cases fY:(!(a.kind == 1)&&us[i]?.getD false) with
 | true=>rfl
 | false=>
  simp only [cy,xB,bf]
  rw [wO ms (eW c (wt i)) (by omega) ?p1]
  case p1=>
   intro j m s h1 h2 h3
   have hj:j < ms.length:=(ub.1 h1).1
   have hk:=ua (show j < c.zw.length by omega)
   simp only [zM hj,bf,h3,Qg,eW,hk,wt]
   generalize c.zw[j]=k at hk
   cases oW:jV m with
   | false=>simp only [cy,bf,xa h3]
   | true=>
    simp only [cond_true,zB hk,bf]
    cases ((i:Int) == k.aL) with
    | true=>simp only [cond_true,bf,uy,cy]
    | false=>
     simp only [cy]
     cases ((i:Int) == k.cX) with
     | true=>simp only [cond_true,bf,uy,cy]
     | false=>simp only [cy,bf,uy,xa h3]
  simp only [bf,uk]
  show ui (dD hs.length hs.length) _=_
  simp only [Jx,bf,wp (show ms.length=(ms.mapIdx (eW c (wt (i:Int)))).length by simp)]
  rw [zmL c _ i a ha (by have:=av.bK;simp only;omega)]
  simp only [bf]
  have Eu:=I1 (act:=(i:Int)) ho hv (by omega) hm
  have Bv:(ms.length:Int)=((fq c i ms).length:Int):=by simp [fq]
  show ui (ui (aE (ms.length:Int) _ (fq c i ms)) _) _=_
  rw [Bv]
  rw [wO (fq c i ms) (eW c (ZH i (xF hs a))) (by simp [fq];omega) ?p2]
  case p2=>
   intro j m s h1 h2 h3
   have fe:j < (fq c i ms).length:=(ub.1 h1).1
   have hj:j < ms.length:=by simpa [fq] using fe
   have hk:=ua (show j < c.zw.length by omega)
   have kv:=xe ho hv hk
   have hmk:=Eu.2 j _ _ hk h1
   simp only [zM hj,bf,h3,Qg,eW,hk,ZH]
   generalize c.zw[j]=k at hk kv hmk
   cases oW:jV m with
   | false=>simp only [cy,bf,xa h3]
   | true=>
    obtain ⟨rv,hb,hst⟩:=vz kv hmk oW
    simp only [cond_true,zB hk,bf]
    have eT:(bif k.act == (i:Int) then (bif k.kind == 4 then some true else some (m.bC == xF hs a)) else some false)=some (k.act == (i:Int)&&(k.kind == 4||m.bC == xF hs a)):=by
     cases (k.act == (i:Int))<;>cases (k.kind == 4)<;>rfl
    rw [eT]
    simp only [bf]
    cases (k.act == (i:Int)&&(k.kind == 4||m.bC == xF hs a)) with
    | false=>simp only [cy,bf,uy,xa h3]
    | true=>
     have hgot:=rv.got
     have I2:=kv.need
     have AN:(k.kind == 0)=false:=beq_eq_false_iff_ne.2 (by have:=kv.kind;omega)
     simp only [cond_true,AN,cy,Yl,Yk,wW,zM hj,bf,h3,vA h3,zB hk,Es,Er]
     rw [qf (show -9223372036854775808≤m.got+1 by omega) (by omega)]
     rw [Wp j 3 _ _ _ _ _ _ _ _ _ hj h3,Wp j 3 _ _ _ _ _ _ _ _ _ hj (vA h3),Wp j 4 _ _ _ _ _ _ _ _ _ hj h3]
     simp only [bf,Uo]
     cases e1:(k.kind == 1) with
     | true=>cases (m.got+1 == k.need)<;>simp
     | false=>
      cases e2:(k.kind == 2) with
      | true=>cases m.bR<;>simp [xa h3]
      | false=>
       cases e3:(k.kind == 3) with
       | true=>simp
       | false=>
        have h4:(k.kind == 4)=true:=beq_iff_eq.2 (by have:=kv.kind;have:=beq_eq_false_iff_ne.1 e1;have:=beq_eq_false_iff_ne.1 e2;have:=beq_eq_false_iff_ne.1 e3;omega)
        simp [h4]
  simp only [bf,uk]
  show ui (bif a.kind == 1 then some (hs,us,eV c i a hs ms) else _) _=_
  have m2ok:=Et (act:=(i:Int)) (a:=a) (hs:=hs) ho hv (by omega) hm
  cases h1:(a.kind == 1) with
  | true=>
   have h3:(a.kind == 3)=false:=beq_eq_false_iff_ne.2 (by have:=beq_iff_eq.1 h1;omega)
   simp only [cond_true,bf,hs3,l8,lH,h1,h3,cy]
   unfold ya
   rw [show (eV c i a hs ms).length=ms.length by simp [eV,fq]]
  | false=>
   have hak:=av.kind.resolve_left (beq_eq_false_iff_ne.1 h1)
   have hg:a.bN.toNat < hs.length:=by omega
   simp only [cy,Ym,zB ha,bf]
   rw [HW (show 0≤a.bN by omega) (by omega),zM nW]
   simp only [bf,ua hg,ua nW,xB,hs3,l8,lH,h1,cy]
   cases h3:(a.kind == 3) with
   | false=>
    simp only [cy,bf]
    unfold ya
    rw [show (eV c i a hs ms).length=ms.length by simp [eV,fq],uB,uB]
    rfl
   | true=>
    simp only [cond_true]
    have gQ:(ms.length:Int)=((eV c i a hs ms).length:Int):=by simp [eV,fq]
    rw [gQ,show List.mapIdx (eW c (ZH (i:Int) (xF hs a))) (fq c i ms)=eV c i a hs ms from rfl]
    rw [wO (eV c i a hs ms) (eW c (Wq a)) (by simp [eV,fq];omega) ?p3]
    case p3=>
     intro j m s h1 h2 h3
     have fe:j < (eV c i a hs ms).length:=(ub.1 h1).1
     have hj:j < ms.length:=by simpa [eV,fq] using fe
     have hk:=ua (show j < c.zw.length by omega)
     simp only [zM hj,bf,h3,Qg,eW,hk,Wq]
     generalize c.zw[j]=k at hk
     cases oW:jV m with
     | false=>simp only [cy,bf,xa h3]
     | true=>
      simp only [cond_true,zB hk,bf]
      cases (k.kind == 4) with
      | true=>simp only [cond_true,bf,uy,Bool.false_and,cy,xa h3]
      | false=>
       simp only [cy,bf,Bool.not_false,Bool.true_and]
       cases (k.bK == a.bN) with
       | true=>simp only [cond_true,bf,uy,cy]
       | false=>simp only [cy,bf,uy,xa h3]
    simp only [bf,uk]
    unfold ya
    rw [show ((eV c i a hs ms).mapIdx (eW c (Wq a))).length=ms.length by simp [eV,fq],uB,uB]
def noS:aH:={day:=0,aF:=[],used:=[],aO:=[]}
def I3 (c:aq) (i:Nat) (a:aV) (s r:aH):Prop:=
 (a.kind≠1∧s.used[i]?=some true∧r=s)∨((a.kind=1∨s.used[i]?=some false)∧r.day=s.day∧r.aF=hs3 a s.aF∧r.used=l8 i a s.used∧cx c (hs3 a s.aF) (lH c i a s.aF s.aO) r.aO)
def I4 (c:aq) (s r:aH):Prop:=r.day=s.day+1∧r.aF=s.aF∧r.used=s.used∧cx c s.aF (s.aO.mapIdx (eW c (wY (qW c.off s.day).isSome))) r.aO
theorem XK {b n:Nat} (h:n < 1000) (hb:b≤1000):ef b (n:Int)=some n:=by
 unfold ef
 have:n*b≤1000*1000:=Ul (by omega) hb
 rw [if_pos ⟨by omega,by omega,by omega⟩];simp
theorem Vi {α:Type} {l d:List α} {k:Nat} (h:k=d.length) (h2:l.length=k):xZ k d l=some l:=by unfold xZ;rw [if_pos ⟨h,h2⟩]
theorem zkE {α:Type} {l:List α} {i:Nat} {x y:α} (h:y∈l.set i x):y∈l∨y=x:=List.mem_or_eq_of_mem_set h
theorem ziU {c:aq} {s:aH} {a:Int} (hc:c.Ok) (hv:VS c s) (h1 : -1≤a) (h2:a < c.aC.length) (hd:s.day < c.bh) :
  ay (dS c s a) (fun r=>r.2=0∧VS c r.1∧(a = -1→I4 c s r.1)∧(∀ (i:Nat) (x:aV),a=(i:Int)→c.aC[i]?=some x→I3 c i x s r.1)):=by
 have ho:=hc.off.lt (by omega:0 < 8)
 have sm:=qy ho hv.cv
 have s1:=sm.aF
 have s2:=sm.aC
 have s3:=sm.zw
 have sd:=sm.bh
 have Cs:=hv.lh
 have Ev:=hv.lu
 have Ew:=hv.lm
 have lg:=hv.day
 have hmo:lf c s.aO:=⟨Ew,fun i k m hk hm=>hv.tY i k m hk hm⟩
 unfold dS
 have e1:decide (a < -1)=false:=decide_eq_false (by omega)
 have e2:decide ((c.aC.length:Int)≤a)=false:=decide_eq_false (by omega)
 refine ay.ax (v:=false) (by rw [Jw c s hc,YC hv,e1,e2];rfl) ?_
 refine ay.ite (fun h=>by cases h) (fun _ => ?_)
 refine ay.ite (fun h=>absurd (beq_iff_eq.1 h) (by omega)) (fun _ => ?_)
 refine ay.ax (XK (show s.aF.length < 1000 by omega) (by omega)) ?_
 refine ay.ax (XK (show s.used.length < 1000 by omega) (by omega)) ?_
 refine ay.ax (XK (show s.aO.length < 1000 by omega) (by omega)) ?_
 refine ay.ax (Vi (by simp) rfl) ?_
 refine ay.ax (Vi (by simp) rfl) ?_
 refine ay.ax (Vi (by simp) rfl) ?_
 cases ht:(a == (-1:Int)) with
 | true=>
  have ha:=beq_iff_eq.1 ht
  simp only [cond_true]
  rw [zkC c s.day s.aF s.used s.aO ho hv.cv hmo (by omega)]
  have Ex:lf c (s.aO.mapIdx (eW c (wY (qW c.off s.day).isSome))):=hmo.mapIdx _ fun i k m hk h=>ziR _ (xe ho hv.cv hk) (by have:=sm.aT;omega) h
  refine ay.bind (P:=fun v:List Int×List Bool×List ak×Int=>v.1=s.aF∧v.2.1=s.used∧v.2.2.2=s.day+1∧cx c s.aF (s.aO.mapIdx (eW c (wY (qW c.off s.day).isSome))) v.2.2.1)
   (ay.bind (XJ c (s.day+1) s.aF s.used _ ho hv.cv Cs hv.hold Ex) fun r hr=>ay.some ⟨rfl,rfl,qf (by omega) (by omega),hr⟩) ?_
  rintro ⟨v1,v2,v3,v4⟩ ⟨q1,q2,q3,q4⟩
  simp only at q1 q2 q3 q4
  subst q1;subst q2;subst q3
  have rf:s.aO.length=v3.length:=by have:=q4.ok.1;omega
  simp only [Jx,wp rf,bf]
  refine ay.some ⟨rfl,⟨hv.cv,⟨by show 0≤s.day+1;omega,by show s.day+1≤c.bh;omega⟩,Cs,Ev,q4.ok.1,hv.hold,hv.used,q4.ok.2,q4.nr⟩,fun _=>⟨rfl,rfl,rfl,q4⟩,fun i x hi=>by omega⟩
 | false=>
  have ha:=beq_eq_false_iff_ne.1 ht
  obtain ⟨i,rfl⟩:∃ i:Nat,a=(i:Int):=⟨a.toNat,by omega⟩
  have hi:i < c.aC.length:=by omega
  have hx:=ua hi
  generalize c.aC[i]=x at hx
  have av:=Ep hv.cv hx
  simp only [cy]
  rw [zmN c s.day s.aF s.used s.aO i x ho hv.cv Cs Ev hx hmo]
  have nW:i < s.used.length:=by omega
  cases fY:(!(x.kind == 1)&&s.used[i]?.getD false) with
  | true=>
   simp only [cond_true,bf,Jx]
   refine ay.some ⟨rfl,hv,fun h=>by omega,fun j y hj hy => ?_⟩
   obtain rfl:i=j:=by omega
   rw [hx] at hy;cases hy
   simp only [ud,uR,beq_eq_false_iff_ne,ua nW,uu] at fY
   exact .inl ⟨fY.1,by rw [ua nW,fY.2],rfl⟩
  | false=>
   simp only [cy]
   have tZ:=av.kind
   have I5:(hs3 x s.aF).length=c.aF.length:=by unfold hs3;cases (x.kind == 1)<;>simp [Cs]
   have hu3:(l8 i x s.used).length=c.aC.length:=by unfold l8;cases (x.kind == 1)<;>simp [Ev]
   have I6:∀ h∈hs3 x s.aF,0≤h∧h < c.aT:=by
    unfold hs3
    cases hk1:(x.kind == 1) with
    | true=>exact hv.hold
    | false=>
     intro h hh
     have:=tZ.resolve_left (beq_eq_false_iff_ne.1 hk1)
     rcases zkE hh with h' | h'
     ·exact hv.hold h h'
     ·omega
   have Ey:∀ (j:Nat) (y:aV),c.aC[j]?=some y→(l8 i x s.used)[j]?=some true→y.kind≠1:=by
    unfold l8
    cases hk1:(x.kind == 1) with
    | true=>exact hv.used
    | false=>
     intro j y hy hj
     simp only [cy] at hj
     rw [uG] at hj
     by_cases hij:i=j
     ·subst hij
      rw [hx] at hy;cases hy
      exact beq_eq_false_iff_ne.1 hk1
     ·rw [if_neg hij] at hj;exact hv.used j y hy hj
   refine ay.bind (P:=fun v:List Int×List Bool×List ak×Int=>v.1=hs3 x s.aF∧v.2.1=l8 i x s.used∧v.2.2.2=s.day∧cx c (hs3 x s.aF) (lH c i x s.aF s.aO) v.2.2.1)
    (ay.bind (P:=fun v:List Int×List Bool×List ak=>v.1=hs3 x s.aF∧v.2.1=l8 i x s.used∧cx c (hs3 x s.aF) (lH c i x s.aF s.aO) v.2.2) (ay.bind (XJ c s.day _ (l8 i x s.used) _ ho hv.cv I5 I6 (zmM ho hv.cv (by omega) av hmo)) fun r hr=>ay.some ⟨rfl,rfl,hr⟩) fun v Bs=>ay.some ⟨Bs.1,Bs.2.1,rfl,Bs.2.2⟩) ?_
   rintro ⟨v1,v2,v3,v4⟩ ⟨q1,q2,q3,q4⟩
   simp only at q1 q2 q3 q4
   subst q1;subst q2;subst q3
   have rf:s.aO.length=v3.length:=by have:=q4.ok.1;omega
   simp only [wp (show s.aF.length=(hs3 x s.aF).length by omega),wp (show s.used.length=(l8 i x s.used).length by omega),wp rf,bf]
   refine ay.some ⟨rfl,⟨hv.cv,lg,I5,hu3,q4.ok.1,I6,Ey,q4.ok.2,q4.nr⟩,fun h=>by omega,fun j y hj hy => ?_⟩
   obtain rfl:i=j:=by omega
   rw [hx] at hy;cases hy
   refine .inr ⟨?_,rfl,rfl,rfl,q4⟩
   simp only [Bool.and_eq_false_iff,Bool.not_eq_false',beq_iff_eq,ua nW,uu] at fY
   rcases fY with h | h
   ·exact .inl h
   ·exact .inr (by rw [ua nW,h])
noncomputable def ql (c:aq) (s:aH) (a:Int):aH:=((dS c s a).getD (noS,1)).1
theorem jg {c:aq} {s:aH} {a:Int} (hc:c.Ok) (hv:VS c s) (h1 : -1≤a) (h2:a < c.aC.length) (hd:s.day < c.bh) :
  dS c s a=some (ql c s a,0)∧VS c (ql c s a)∧(a = -1→I4 c s (ql c s a))∧(∀ (i:Nat) (x:aV),a=(i:Int)→c.aC[i]?=some x→I3 c i x s (ql c s a)):=by
 obtain ⟨⟨r1,r2⟩,e,h⟩:=ziU hc hv h1 h2 hd
 have e2:ql c s a=r1:=by unfold ql;rw [e];rfl
 rw [e2,e]
 obtain ⟨h0,h⟩:=h
 simp only at h0 h
 subst h0
 exact ⟨rfl,h⟩
theorem Km {α:Type} [BEq α] [LawfulBEq α] {f:Nat→Unit→Option (Unit ⊕ Unit)} (a b:List α) (hl:a.length=b.length) (ha:a.length < 4611686018427387904) (h:∀ (i:Nat) (h1:i < a.length) (h2:i < b.length),f i ()=some (bif a[i] == b[i] then .inl () else .inr ())) :
  aE (a.length:Int) f ()=some (bif a == b then .inl () else .inr ()):=by
 rw [Qe (fun i=>a[i]? == b[i]?) ha (fun i hi=>by
  rw [h i hi (by omega),ua hi,ua (show i < b.length by omega)]
  show _=some (bif (some a[i] == some b[i]) then _ else _)
  rfl)]
 congr 2
 rw [Uh,uw]
 constructor
 ·intro hh
  rw [beq_iff_eq]
  refine uS fun i => ?_
  by_cases hi:i < a.length
  ·exact beq_iff_eq.1 (hh i (u4.2 hi))
  ·rw [un (by omega),un (by omega)]
 ·intro hh i _
  rw [beq_iff_eq.1 hh];exact beq_self_eq_true _
theorem Kn {α:Type} (a b:List α):((a.length:Int) == (b.length:Int))=decide (a.length=b.length):=by
 by_cases h:a.length=b.length
 ·simp [h]
 ·simp only [h,decide_false];exact beq_eq_false_iff_ne.2 (by omega)
theorem zoj (a b:List Int) (ha:a.length < 4611686018427387904):Cg a b=some (a == b):=by
 unfold Cg
 rw [Kn]
 by_cases h:a.length=b.length
 ·simp only [h,decide_true,cond_true]
  rw [←h,Km a b h ha (fun i h1 h2=>by
   simp only [zH,ua h1,ua h2,bf,zx])]
  cases (a == b)<;>rfl
 ·simp only [h,decide_false,cy]
  have:a≠b:=fun e=>h (by rw [e])
  rw [beq_eq_false_iff_ne.2 this]
theorem zok (a b:List Bool) (ha:a.length < 4611686018427387904):Ch a b=some (a == b):=by
 unfold Ch
 rw [Kn]
 by_cases h:a.length=b.length
 ·simp only [h,decide_true,cond_true]
  rw [←h,Km a b h ha (fun i h1 h2=>by
   simp only [zH,ua h1,ua h2,bf,zx])]
  cases (a == b)<;>rfl
 ·simp only [h,decide_false,cy]
  have:a≠b:=fun e=>h (by rw [e])
  rw [beq_eq_false_iff_ne.2 this]
instance:BEq ak:=⟨fun a b=>(a.aR == b.aR)&&((a.left == b.left)&&((a.got == b.got)&&((a.bC == b.bC)&&((a.bR == b.bR)&&true))))⟩
instance:LawfulBEq ak where
 eq_of_beq {a b} h:=by
  have h':((a.aR == b.aR)&&((a.left == b.left)&&((a.got == b.got)&&((a.bC == b.bC)&&((a.bR == b.bR)&&true)))))=true:=h
  simp only [ud,beq_iff_eq,and_true] at h'
  obtain ⟨h1,h2,h3,h4,h5⟩:=h'
  cases a;cases b;simp_all
 rfl {a}:=by
  show ((a.aR == a.aR)&&((a.left == a.left)&&((a.got == a.got)&&((a.bC == a.bC)&&((a.bR == a.bR)&&true)))))=true
  simp
theorem zol (a b:List ak) (ha:a.length < 4611686018427387904):Ci a b=some (a == b):=by
 unfold Ci
 rw [Kn]
 by_cases h:a.length=b.length
 ·simp only [h,decide_true,cond_true]
  rw [←h,Km a b h ha (fun i h1 h2=>by
   simp only [zH,ua h1,ua h2,bf,zx];rfl)]
  cases (a == b)<;>rfl
 ·simp only [h,decide_false,cy]
  have:a≠b:=fun e=>h (by rw [e])
  rw [beq_eq_false_iff_ne.2 this]
def wZ (a b:aH):Bool:=a.day == b.day&&(a.aF == b.aF&&(a.used == b.used&&a.aO == b.aO))
theorem vC {a b:aH}:wZ a b=true↔a=b:=by
 unfold wZ
 simp only [ud,beq_iff_eq]
 constructor
 ·rintro ⟨h1,h2,h3,h4⟩
  cases a;cases b;simp_all
 ·rintro rfl;exact ⟨rfl,rfl,rfl,rfl⟩
theorem zkF (a b:aH) (h1:a.aF.length < 4611686018427387904) (h2:a.used.length < 4611686018427387904) (h3:a.aO.length < 4611686018427387904):QM a b=some (wZ a b):=by
 unfold QM wZ
 rw [zoj _ _ h1,zok _ _ h2,zol _ _ h3]
 simp only [bf,zx,uJ]
theorem VS.Bw {c:aq} {s:aH} (hc:c.Ok) (h:VS c s):s.aF.length≤12∧s.used.length≤60∧s.aO.length≤400:=by
 have sm:=qy (hc.off.lt (by omega)) h.cv
 have:=sm.aF
 have:=sm.aC
 have:=sm.zw
 have:=h.lh
 have:=h.lu
 have:=h.lm
 omega
theorem I7 {c:aq} {s:aH} (hc:c.Ok) (h:VS c s):vj s=some s:=by
 have:=h.Bw hc
 unfold vj
 rw [jv (by omega),jv (by omega),jv (by omega)]
 rfl
noncomputable def xG (c:aq) (aj:Int) (s:aH):Bool:=decide (0≤aj)&&(decide (aj < c.aT)&&td c s)
theorem zfe {c:aq} (hc:c.Ok) (aj:Int) (p:aG):vX c aj p=some (xG c aj p.state):=by
 unfold vX xG
 rw [Jw c _ hc]
 simp only [bf,zx,uJ]
theorem jK {c:aq} {aj:Int} {s:aH}:xG c aj s=true↔0≤aj∧aj < c.aT∧VS c s:=by
 simp only [xG,ud,decide_eq_true_eq]
 exact ⟨fun ⟨a,b,d⟩=>⟨a,b,zoi d⟩,fun ⟨a,b,d⟩=>⟨a,b,YC d⟩⟩
noncomputable def mY (c:aq) (aj:Int) (p:aG) (i:Nat):Bool:=match c.aC[i]? with
 | some a=>((xF p.state.aF a == aj) == p.own) && !wZ (ql c p.state i) p.state
 | none=>false
noncomputable def jk (c:aq) (aj:Int) (p:aG) (n:Nat):List Int:=((uD n).filter (mY c aj p)).map fun i:Nat=>(i:Int)
noncomputable def zq (c:aq) (aj:Int) (p:aG):List Int:=
 (bif p.own then [-2] else [])++(bif decide (c.bh≤p.state.day) then [] else (bif p.own then [] else [-1])++jk c aj p c.aC.length)
noncomputable def target (c:aq) (p:aG) (move:Int):aG:=if move = -2 then {state:=p.state,own:=false} else {state:=ql c p.state move,own:=true}
theorem kX (c:aq) (aj:Int) (p:aG) (n:Nat):jk c aj p (n+1)=jk c aj p n++(bif mY c aj p n then [(n:Int)] else []):=by
 unfold jk
 rw [uY,uP,uZ]
 congr 1
 cases h:mY c aj p n<;>simp [h]
theorem I8 (c:aq) (aj:Int) (p:aG) (n:Nat):(jk c aj p n).length≤n:=by
 unfold jk
 rw [uC]
 have:=List.length_filter_le (mY c aj p) (uD n)
 simpa using this
theorem ziV {c:aq} {s:aH} {a:aV} (hv:VS c s) (av:Eo c a):(bif a.bK == (-1) then some (-1) else (ui (ze s.aF a.bK) fun e2=>some e2))=some (xF s.aF a):=by
 unfold xF
 cases hr:(a.bK == (-1:Int)) with
 | true=>rfl
 | false=>
  have h1:=beq_eq_false_iff_ne.1 hr
  have:=av.bK
  have:=hv.lh
  obtain ⟨h2,h3⟩:=q6 (l:=s.aF) (n:=a.bK) (by omega) (by omega)
  rw [h3,ua h2];rfl
def Ez:aq:={aT:=0,aF:=[],bB:=[],aC:=[],zw:=[],bh:=0,off:=[]}
def xH (l:List Int) (s:cD):Option cD:=(qW l s.clause).map fun p=>({clause:=p,is:=s.is}:cD)
def kI (c:aq) (l:List Int) (i:Int):Option aK:=(ze c.zw i).bind fun k=>(aI (xH l) k.start).map fun st=>({k with start:=st}:aK)
noncomputable def wa (c:aq) (l:List Int):aq×Int:=
 bif (zF c).1 == 0 then bif wF c.zw.length (-1) l then (match aI (kI c l) l with
  | some ks=>(({c with zw:=ks}:aq),0)
  | none=>(Ez,1)) else (Ez,1) else (Ez,1)
theorem zmP (c:aq) (l:List Int) (ho:c.off.length < 4611686018427387904) (hst:∀ k∈c.zw,k.start.length < 4611686018427387904) (hl:l.length < 4611686018427387904):kB c l=some (wa c l):=by
 unfold kB wa
 rw [Kk c ho hst]
 simp only [bf]
 cases hv:((zF c).1 == 0) with
 | false=>rfl
 | true=>
  have sm:=qy ho (by simpa using hv)
  simp only [cond_true]
  rw [DY c.zw.length l hl (-1)]
  simp only [bf]
  cases hi:wF c.zw.length (-1) l with
  | false=>rfl
  | true=>
   obtain ⟨hr,hp⟩:=wh hi
   have hlen:l.length≤400:=by
    have:=ZD hi;have:=sm.zw;omega
   have e1:=sm.aF
   have e2:=sm.bB
   have e3:=sm.aC
   have e4:=sm.off
   simp only [cond_true,uk]
   rw [jv (by omega),jv (by omega),jv (by omega),jv (by omega)]
   have hmk:ef 136 (l.length:Int)=some l.length:=by
    unfold ef;rw [if_pos (by omega)];simp
   simp only [bf,hmk]
   rw [HX l (kI c l) _ () (by simp) (by omega) (fun i hi' ks hks=>by
    have hx:=hr l[i] (uc hi')
    obtain ⟨hci,eci⟩:=q6 (l:=c.zw) (n:=l[i]) (by omega) (by omega)
    simp only [zH,ua hi',bf,eci,kI]
    have tS:=sm.start _ (uc hci)
    rw [jv (by omega)]
    simp only [bf]
    generalize hk:c.zw[l[i].toNat]=k at tS ⊢
    rw [HX k.start (xH l) k.start () rfl (by omega) (fun i3 I9 ks3 EA=>by
     have hg:(ks3++k.start.drop i3)[i3]?=some k.start[i3]:=by
      rw [uQ (by omega),EA,Nat.sub_self,List.getElem?_drop];simp [I9]
     obtain ⟨r,pM,mC⟩:=QO l k.start[i3].clause hp hl
     simp only [zM I9,bf,hg,pM,xH]
     cases hpos:qW l k.start[i3].clause with
     | none=>rfl
     | some p=>rw [mC p hpos];rfl)]
    simp only [bf]
    cases hm:aI (xH l) k.start with
    | none=>rfl
    | some st=>
     have Aw:=jS hm
     simp only [uk,zM hi',bf,Ui]
     have hg:(ks++(ul l.length ({kind:=0,bK:=0,act:=0,need:=0,start:=[],after:=0,bq:=0,bu:=false,final:=false,aL:=0,cX:=0,value:=({num:=0,den:=0}:aQ),unit:=0,to:=0,br:=false}:aK)).drop i)[i]?.isSome=true:=by
      simp [hks,hi'];omega
     obtain ⟨z,hz⟩:=Option.isSome_iff_exists.1 hg
     rw [hz]
     simp only [bf]
     rw [uW (by omega)])]
   simp only [bf]
   cases hm:aI (kI c l) l with
   | none=>rfl
   | some ks=>
    simp only [uk]
    first
     | rw [uW (by rw [jS hm];exact Ug _)]
     | (unfold dD;rw [dif_pos (jS hm).symm];rfl)
structure bE (c:aq) (l:List Int) (ks:List aK):Prop where
 valid:(zF c).1=0
 inc:wF c.zw.length (-1) l=true
 sel:aI (kI c l) l=some ks
theorem bE.eq {c:aq} {l:List Int} {ks:List aK} (h:bE c l ks):wa c l=(({c with zw:=ks}:aq),0):=by
 unfold wa
 rw [h.valid,h.inc,h.sel];rfl
theorem La {c:aq} {l:List Int} {i:Int} {k':aK} (h:kI c l i=some k'):∃ k st,0≤i∧c.zw[i.toNat]?=some k∧aI (xH l) k.start=some st∧k'=({k with start:=st}:aK):=by
 unfold kI at h
 obtain ⟨k,h1,h2⟩:=xY h
 obtain ⟨h3,h4,_⟩:=Xa h1
 rw [uH] at h2
 obtain ⟨st,h5,h6⟩:=h2
 exact ⟨k,st,h3,h4,h5,h6.symm⟩
theorem Jy {l:List Int} {s s':cD} (h:xH l s=some s'):∃ p,qW l s.clause=some p∧s'=({clause:=p,is:=s.is}:cD):=by
 unfold xH at h
 rw [uH] at h
 obtain ⟨p,h1,h2⟩:=h
 exact ⟨p,h1,h2.symm⟩
theorem bE.ok {c:aq} {l:List Int} {ks:List aK} (ho:c.off.length < 4611686018427387904) (h:bE c l ks):zF ({c with zw:=ks}:aq)=(0,-1):=by
 have sm:=qy ho h.valid
 obtain ⟨v1,v2,v3,_⟩:=xr h.valid
 obtain ⟨hr,hp⟩:=wh h.inc
 have fF:=jS h.sel
 have hlen:=ZD h.inc
 have dZ:=sm.zw
 refine IR ?_ v2 ?_
 ·simp only [vZ,Bool.or_eq_false_iff,decide_eq_false_iff_not] at v1 ⊢
  refine ⟨v1.1,v1.2.1,v1.2.2.1,v1.2.2.2.1,v1.2.2.2.2.1,by omega⟩
 ·intro j hj
  have hj:j < ks.length:=hj
  obtain ⟨k',h1,h2⟩:=yr h.sel j l[j] (ua (by omega))
  obtain ⟨k,st,h3,h4,h5,rfl⟩:=La h1
  have hold:=v3 l[j].toNat (ub.1 h4).1
  simp only [mo,h4] at hold
  simp only [mo,h2]
  simp only [jf,ud] at hold ⊢
  obtain ⟨a1,⟨a2,a3⟩,a4,a5,a6⟩:=hold
  refine ⟨a1,⟨a2,by rw [jS h5];exact a3⟩,?_,a5,a6⟩
  refine uw.2 fun s' hs' => ?_
  obtain ⟨q,hq,e⟩:=ug hs'
  have nN:q < k.start.length:=by rw [←jS h5];exact hq
  obtain ⟨b,h6,h7⟩:=yr h5 q k.start[q] (ua nN)
  rw [ua hq] at h7
  cases h7
  obtain ⟨p,h8,h9⟩:=Jy h6
  have hold:=uw.1 a4 k.start[q] (uc nN)
  obtain ⟨p1,p2⟩:=Qd h8
  have p3:=(ub.1 p2).1
  rw [←e,h9]
  simp only [Qc,ud,uR,decide_eq_false_iff_not,beq_eq_false_iff_ne] at hold ⊢
  refine ⟨by omega,by omega,fun hpj => ?_,hold.2.2.2⟩
  subst hpj
  simp only [um] at p2
  rw [ua (by omega)] at p2
  have p4:=Option.some.inj p2
  exact hold.2.2.1 (by omega)
section
abbrev cp (c:aq) (ks:List aK):aq:={c with zw:=ks}
def fI (P:List Int) (ms:List ak):List ak:=P.map fun i=>ms[i.toNat]?.getD default
def rs (P:List Int) (s:aH):aH:={s with aO:=fI P s.aO}
theorem ZI {a b:aH} (h1:a.day=b.day) (h2:a.aF=b.aF) (h3:a.used=b.used) (h4:a.aO=b.aO):a=b:=by
 cases a;cases b;simp only at h1 h2 h3 h4;subst h1 h2 h3 h4;rfl
theorem Vj {α β:Type} {g:α→Option β} {l:List α} {m:List β} (h:aI g l=some m):(∀ y∈m,∃ x∈l,g x=some y)∧∀ x∈l,∃ y∈m,g x=some y:=by
 have hl:=jS h
 refine ⟨fun y hy => ?_,fun x hx => ?_⟩
 ·obtain ⟨i,hi,rfl⟩:=ug hy
  obtain ⟨b,h1,h2⟩:=yr h i l[i] (ua (by omega))
  rw [ua hi] at h2
  cases h2
  exact ⟨_,uc (by omega),h1⟩
 ·obtain ⟨i,hi,rfl⟩:=ug hx
  obtain ⟨b,h1,h2⟩:=yr h i l[i] (ua hi)
  exact ⟨b,uq h2,h1⟩
theorem zhh {α β:Type} {g:α→Option β} {l:List α} {m:List β} (h:aI g l=some m) {f:β→Bool} {f':α→Bool} (hf:∀ x y,x∈l→g x=some y→f y=f' x):m.all f=l.all f':=by
 obtain ⟨h1,h2⟩:=Vj h
 rw [Uh,uw,uw]
 constructor
 ·intro hm x hx
  obtain ⟨y,hy,e⟩:=h2 x hx
  rw [←hf x y hx e];exact hm y hy
 ·intro hm y hy
  obtain ⟨x,hx,e⟩:=h1 y hy
  rw [hf x y hx e];exact hm x hx
structure Pos (c:aq) (P:List Int) (ks:List aK):Prop where
 len:ks.length=P.length
 gJ:∀ x∈P,0≤x∧x < c.zw.length
 at_:∀ (p:Nat),p < P.length→∃ (i:Nat) (k:aK) (st:List cD),P[p]?=some (i:Int)∧c.zw[i]?=some k∧aI (xH P) k.start=some st∧ks[p]?=some ({k with start:=st}:aK)
theorem bE.pos {c:aq} {P:List Int} {ks:List aK} (h:bE c P ks):Pos c P ks:=by
 obtain ⟨hr,hp⟩:=wh h.inc
 refine ⟨jS h.sel,fun x hx=>by have:=hr x hx;omega,fun p hp => ?_⟩
 obtain ⟨k',h1,h2⟩:=yr h.sel p P[p] (ua hp)
 obtain ⟨k,st,h3,h4,h5,rfl⟩:=La h1
 refine ⟨P[p].toNat,k,st,?_,h4,h5,h2⟩
 rw [ua hp];congr 1;omega
section
variable {c:aq} {P:List Int} {ks:List aK}
theorem Zk (ms:List ak):(fI P ms).length=P.length:=by simp [fI]
theorem wC {ms:List ak} {p i:Nat} (hp:P[p]?=some (i:Int)) (hi:i < ms.length):(fI P ms)[p]?=ms[i]?:=by
 unfold fI
 rw [Uc,hp]
 simp [hi]
theorem XL (h:Pos c P ks) {ms:List ak} (hl:ms.length=c.zw.length) {x y:cD} (hx:xH P x=some y):jF (fI P ms) y=jF ms x∧y.is=x.is∧P[y.clause.toNat]?=some (x.clause.toNat:Int):=by
 obtain ⟨q,h1,rfl⟩:=Jy hx
 obtain ⟨q0,q1⟩:=Qd h1
 have hr:=h.gJ _ (uq q1)
 have e:x.clause=(x.clause.toNat:Int):=by omega
 have q2:P[q.toNat]?=some (x.clause.toNat:Int):=by rw [q1];congr 1
 refine ⟨?_,rfl,q2⟩
 have e1:ze (fI P ms) q=ze ms x.clause:=by
  unfold ze
  rw [if_pos q0,if_pos hr.1,wC q2 (by omega)]
 unfold jF
 simp only [e1]
theorem zff (h:Pos c P ks) {ms:List ak} (hl:ms.length=c.zw.length) {p i:Nat} (hp:P[p]?=some (i:Int)):qK ks (fI P ms) p=qK c.zw ms i:=by
 obtain ⟨hlt,_⟩:=ub.1 hp
 obtain ⟨i',k,st,h1,h2,h3,h4⟩:=h.at_ p hlt
 rw [hp] at h1
 have e:i=i':=by have:=Option.some.inj h1;omega
 subst e
 have hi:=(ub.1 h2).1
 unfold qK
 rw [h4,h2,wC hp (by omega),ua (by omega:i < ms.length)]
 simp only
 rw [zhh h3 (f':=jF ms) fun x y _ hxy=>(XL h hl hxy).1]
theorem Qh (h:Pos c P ks) {ms:List ak} (hl:ms.length=c.zw.length):∀ (n p i:Nat),P[p]?=some (i:Int)→(eK ks (fI P ms) n p↔eK c.zw ms n i)
 | 0,p,i,hp=>Iff.rfl
 | n+1,p,i,hp=>by
  obtain ⟨hlt,_⟩:=ub.1 hp
  obtain ⟨i',k,st,h1,h2,h3,h4⟩:=h.at_ p hlt
  rw [hp] at h1
  have e:i=i':=by have:=Option.some.inj h1;omega
  subst e
  have hi:=(ub.1 h2).1
  obtain ⟨m1,m2⟩:=Vj h3
  simp only [eK,h4,h2,wC hp (by omega:i < ms.length)]
  constructor
  ·rintro ⟨k',m,e1,e2,e3,e4,e5⟩
   cases e1
   refine ⟨k,m,rfl,e2,e3,e4,fun x hx => ?_⟩
   obtain ⟨y,hy,hxy⟩:=m2 x hx
   obtain ⟨g1,g2,g3⟩:=XL h hl hxy
   rcases e5 y hy with g | ⟨g,g'⟩
   ·exact .inl (by rw [←g1];exact g)
   ·exact .inr ⟨by rw [←g2];exact g,(Qh h hl n _ _ g3).1 g'⟩
  ·rintro ⟨k',m,e1,e2,e3,e4,e5⟩
   cases e1
   refine ⟨_,m,rfl,e2,e3,e4,fun y hy => ?_⟩
   obtain ⟨x,hx,hxy⟩:=m1 y hy
   obtain ⟨g1,g2,g3⟩:=XL h hl hxy
   rcases e5 x hx with g | ⟨g,g'⟩
   ·exact .inl (by rw [g1];exact g)
   ·exact .inr ⟨by rw [g2];exact g,(Qh h hl n _ _ g3).2 g'⟩
theorem ziW (h:Pos c P ks) {ms:List ak} (hl:ms.length=c.zw.length) {p i:Nat} (hp:P[p]?=some (i:Int)):nV ks (fI P ms) p↔nV c.zw ms i:=
 ⟨fun ⟨n,hn⟩=>⟨n,(Qh h hl n p i hp).1 hn⟩,fun ⟨n,hn⟩=>⟨n,(Qh h hl n p i hp).2 hn⟩⟩
theorem kY (h:Pos c P ks) {hs:List Int} {ms r r':List ak} (hl:ms.length=c.zw.length) (S:cx c hs ms r) (S':cx (cp c ks) hs (fI P ms) r'):r'=fI P r:=by
 have hl':r'.length=P.length:=S'.ok.1.trans h.len
 refine uS fun p => ?_
 by_cases hp:p < P.length
 ·obtain ⟨i,k,st,h1,h2,h3,h4⟩:=h.at_ p hp
  have hi:=(ub.1 h2).1
  have fj:i < ms.length:=by omega
  have hm:=ua fj
  have hr:=S.ok.1
  rw [wC h1 (by omega:i < r.length)]
  have hs1:=S.Aa i k _ h2 hm
  have hs2:=S'.Aa p _ ms[i] h4 (by rw [wC h1 fj];exact hm)
  have e:=ziW h hl h1
  rcases hs1 with ⟨a1,a2⟩ | ⟨a1,a2⟩
  ·rcases hs2 with ⟨b1,b2⟩ | ⟨b1,b2⟩
   ·rw [a2,b2]
   ·exact absurd (e.1 b1) a1
  ·rcases hs2 with ⟨b1,b2⟩ | ⟨b1,b2⟩
   ·exact absurd (e.2 a1) b1
   ·rw [a2,b2];rfl
 ·rw [un (by omega),un (by rw [Zk];omega)]
theorem yR (h:Pos c P ks) (F:aK→ak→ak) (hF:∀ (k:aK) (st:List cD) (m:ak),F ({k with start:=st}:aK) m=F k m) {ms:List ak} (hl:ms.length=c.zw.length):fI P (ms.mapIdx (eW c F))=(fI P ms).mapIdx (eW (cp c ks) F):=by
 refine uS fun p => ?_
 rw [uL]
 by_cases hp:p < P.length
 ·obtain ⟨i,k,st,h1,h2,h3,h4⟩:=h.at_ p hp
  have hi:=(ub.1 h2).1
  rw [wC h1 (by rw [uE];omega),wC h1 (by omega:i < ms.length),uL,ua (by omega:i < ms.length)]
  simp only [Ui,eW,h2]
  have h4':(cp c ks).zw[p]?=some ({k with start:=st}:aK):=h4
  rw [h4']
  simp only [hF]
 ·rw [un (by rw [Zk];omega),un (by rw [Zk];omega)];rfl
theorem ziX (h:Pos c P ks) (act:Int) (a:aV) (hs:List Int) {ms:List ak} (hl:ms.length=c.zw.length):fI P (lH c act a hs ms)=lH (cp c ks) act a hs (fI P ms):=by
 have e1:fI P (fq c act ms)=fq (cp c ks) act (fI P ms):=yR h _ (fun k st m=>rfl) hl
 have l1:(fq c act ms).length=c.zw.length:=by unfold fq;rw [uE];exact hl
 have e2:fI P (eV c act a hs ms)=eV (cp c ks) act a hs (fI P ms):=by
  unfold eV
  rw [yR h _ (fun k st m=>rfl) l1,e1]
 have l2:(eV c act a hs ms).length=c.zw.length:=by unfold eV;rw [uE];exact l1
 unfold lH
 cases (a.kind == 3) with
 | false=>exact e2
 | true=>
  simp only [cond_true]
  rw [yR h _ (fun k st m=>rfl) l2,e2]
theorem Lb (act:Int) (a:aV) (hs:List Int) {ms:List ak}:(lH c act a hs ms).length=ms.length:=by
 unfold lH eV fq
 cases (a.kind == 3)<;>simp
theorem bE.pT (hc:c.Ok) (h:bE c P ks):(cp c ks).Ok:=by
 have hpos:=h.pos
 have sm:=qy (hc.off.lt (by omega)) h.valid
 have dZ:=sm.zw
 have hlen:=ZD h.inc
 refine {hc with zw:=⟨?_,fun k' hk' => ?_⟩}
 ·have:=hpos.len
  have hr:(54400:Nat)≤reachBytes:=by decide
  have:ks.length≤400:=by omega
  have:ks.length*136≤54400:=by omega
  first | omega | exact Nat.le_trans (by omega) hr
 ·obtain ⟨p,hp,rfl⟩:=ug hk'
  obtain ⟨i,k,st,h1,h2,h3,h4⟩:=hpos.at_ p (by rw [←hpos.len];exact hp)
  rw [ua hp] at h4
  rw [Option.some.inj h4]
  have hk:=hc.zw.2 k (uq h2)
  have hs8:=sm.start k (uq h2)
  refine {hk with start:=⟨?_,fun y hy => ?_⟩}
  ·rw [jS h3];exact hk.start.1
  ·obtain ⟨x,hx,hxy⟩:=(Vj h3).1 y hy
   obtain ⟨q,g1,rfl⟩:=Jy hxy
   obtain ⟨q0,q1⟩:=Qd g1
   have hq:=(ub.1 q1).1
   refine ⟨?_,(hk.start.2 x hx).is⟩
   unfold dL
   have e1:IntKind.i64.min = -9223372036854775808:=by decide
   have e2:IntKind.i64.max=9223372036854775807:=by decide
   rw [e1,e2]
   simp only
   omega
theorem Wr (hc:c.Ok) (h:bE c P ks) {s:aH} (hv:VS c s):VS (cp c ks) (rs P s):=by
 have hp:=h.pos
 refine ⟨by rw [h.ok (hc.off.lt (by omega))],hv.day,hv.lh,hv.lu,?_,hv.hold,hv.used,fun p k' m hk hm => ?_,fun p hlt => ?_⟩
 ·show (fI P s.aO).length=ks.length
  rw [Zk,hp.len]
 ·have hlt:p < ks.length:=(ub.1 hk).1
  obtain ⟨i,k,st,h1,h2,h3,h4⟩:=hp.at_ p (by rw [←hp.len];exact hlt)
  have hk:ks[p]?=some k':=hk
  rw [h4] at hk
  cases hk
  have hi:=(ub.1 h2).1
  have Ew:=hv.lm
  have hm:(fI P s.aO)[p]?=some m:=hm
  rw [wC h1 (by omega)] at hm
  exact hv.tY i k m h2 hm
 ·have hlt:p < ks.length:=hlt
  obtain ⟨i,k,st,h1,h2,h3,h4⟩:=hp.at_ p (by rw [←hp.len];exact hlt)
  show qK ks (fI P s.aO) p=false
  rw [zff hp hv.lm h1]
  exact hv.Bn i (ub.1 h2).1
theorem Lf (hc:c.Ok) (h:bE c P ks) {s:aH} (hv:VS c s) {a:Int} (h1 : -1≤a) (h2:a < c.aC.length) (hd:s.day < c.bh):ql (cp c ks) (rs P s) a=rs P (ql c s a):=by
 have hp:=h.pos
 obtain ⟨_,_,t1,a1⟩:=jg hc hv h1 h2 hd
 obtain ⟨_,_,t2,a2⟩:=jg (h.pT hc) (Wr hc h hv) h1 h2 hd
 rcases Int.lt_or_le a 0 with hneg | hpos
 ·obtain ⟨x1,x2,x3,x4⟩:=t1 (by omega)
  obtain ⟨y1,y2,y3,y4⟩:=t2 (by omega)
  refine ZI (y1.trans (by rw [show (rs P (ql c s a)).day=(ql c s a).day from rfl,x1];rfl)) (y2.trans x2.symm) (y3.trans x3.symm) ?_
  refine kY hp (by rw [uE];exact hv.lm) x4 ?_
  have e:=yR hp (wY (qW c.off s.day).isSome) (fun k st m=>rfl) hv.lm
  rw [e]
  exact y4
 ·have ha:c.aC[a.toNat]?=some c.aC[a.toNat]:=ua (by omega)
  have g1:=a1 a.toNat _ (by omega) ha
  have g2:=a2 a.toNat _ (by omega) ha
  rcases g1 with ⟨x1,x2,x3⟩ | ⟨x1,x2,x3,x4,x5⟩
  ·rcases g2 with ⟨y1,y2,y3⟩ | ⟨y1,_⟩
   ·rw [x3,y3]
   ·have y1:c.aC[a.toNat].kind=1∨s.used[a.toNat]?=some false:=y1
    rw [x2] at y1
    simp [x1] at y1
  ·rcases g2 with ⟨y1,y2,y3⟩ | ⟨y1,y2,y3,y4,y5⟩
   ·have y2:s.used[a.toNat]?=some true:=y2
    rw [y2] at x1
    simp [y1] at x1
   ·refine ZI (y2.trans x2.symm) (y3.trans x3.symm) (y4.trans x4.symm) ?_
    refine kY hp (by rw [Lb];exact hv.lm) x5 ?_
    rw [ziX hp _ _ _ hv.lm]
    exact y5
end
end
def up (above:List Int) (i:Nat):Nat:=(above.getD i 0).toNat
structure UF (n:Nat) (above:List Int):Prop where
 len:above.length=400
 le:∀ i,i < n→0≤above.getD i 0∧above.getD i 0≤(i:Int)
 l9:n≤400
def rt (above:List Int):Nat→Nat→Nat
 | 0,i=>i
 | k+1,i=>if up above i=i then i else rt above k (up above i)
def root (above:List Int) (i:Nat):Nat:=rt above (i+1) i
theorem UF.iM {n:Nat} {above:List Int} (h:UF n above) {i:Nat} (hi:i < n):up above i≤i:=by
 have:=h.le i hi;unfold up;omega
theorem UF.rt_eq {n:Nat} {above:List Int} (h:UF n above):∀ (k k' i:Nat),i < n→i < k→i < k'→rt above k i=rt above k' i
 | 0,_,i,_,h1,_=>by omega
 | _,0,i,_,_,h1=>by omega
 | k+1,k'+1,i,hi,h1,h2=>by
  simp only [rt]
  split
  ·rfl
  ·have:=h.iM hi
   exact h.rt_eq k k' (up above i) (by omega) (by omega) (by omega)
theorem UF.root_eq {n:Nat} {above:List Int} (h:UF n above) {i:Nat} (hi:i < n):root above i=if up above i=i then i else root above (up above i):=by
 show (if up above i=i then i else rt above i (up above i))=_
 have hu:=h.iM hi
 split
 ·rfl
 ·exact h.rt_eq i (up above i+1) (up above i) (by omega) (by omega) (by omega)
theorem UF.fQ {n:Nat} {above:List Int} (h:UF n above):∀ (i:Nat),i < n→root above i≤i:=by
 intro i
 induction i using ux with
 | _ i ih=>
  intro hi
  rw [h.root_eq hi]
  have hu:=h.iM hi
  split
  ·exact Ug _
  ·have:=ih (up above i) (by omega) (by omega);omega
theorem UF.lq {n:Nat} {above:List Int} (h:UF n above):∀ (i:Nat),i < n→up above (root above i)=root above i:=by
 intro i
 induction i using ux with
 | _ i ih=>
  intro hi
  rw [h.root_eq hi]
  have hu:=h.iM hi
  split
  ·assumption
  ·exact ih (up above i) (by omega) (by omega)
theorem UF.fy {n:Nat} {above:List Int} (h:UF n above) {i:Nat} (hi:i < n):root above (root above i)=root above i:=by
 have h1:=h.lq i hi
 have h2:=h.fQ i hi
 rw [h.root_eq (i:=root above i) (by omega),if_pos h1]
theorem Lg {above:List Int} {k i:Nat} {v:Int} (hk:k < above.length):up (above.set k v) i=if i=k then v.toNat else up above i:=by
 unfold up
 rw [ue,ue,uG]
 by_cases h:k=i
 ·subst h;simp [hk]
 ·rw [if_neg h,if_neg (fun e=>h e.symm)]
theorem UF.set {n:Nat} {above:List Int} (h:UF n above) {k:Nat} {v:Int} (hv:0≤v) (sq:v≤k):UF n (above.set k v):=by
 refine ⟨by simp [h.len],fun i hi => ?_,h.l9⟩
 rw [ue,uG]
 by_cases e:k=i
 ·subst e
  rw [if_pos rfl]
  have:=h.l9
  rw [if_pos (by rw [h.len];omega)]
  exact ⟨hv,sq⟩
 ·rw [if_neg e,←ue]
  exact h.le i hi
theorem UF.oD {n:Nat} {above:List Int} (h:UF n above) {k:Nat} (hk:k < n):UF n (above.set k (root above k:Int))∧∀ i,i < n→root (above.set k (root above k:Int)) i=root above i:=by
 have hle:=h.fQ k hk
 have h':UF n (above.set k (root above k:Int)):=h.set (by omega) (by omega)
 refine ⟨h',fun i => ?_⟩
 have fF:k < above.length:=by rw [h.len];have:=h.l9;omega
 induction i using ux with
 | _ i ih=>
  intro hi
  rw [h'.root_eq hi,Lg fF]
  by_cases e:i=k
  ·subst e
   rw [if_pos rfl]
   simp only [um]
   split
   ·rename_i e2;exact e2.symm
   ·have:root above i < i:=by omega
    rw [ih (root above i) this (by omega),h.fy hi]
  ·rw [if_neg e,h.root_eq hi]
   have hu:=h.iM hi
   split
   ·rfl
   ·exact ih (up above i) (by omega) (by omega)
theorem UF.join {n:Nat} {above:List Int} (h:UF n above) {a b:Nat} (ha:a < n) (hb:b≤a) (oX:root above a=a) (hrb:root above b=b):UF n (above.set a (b:Int))∧∀ i,i < n→root (above.set a (b:Int)) i=if root above i=a then b else root above i:=by
 have h':UF n (above.set a (b:Int)):=h.set (by omega) (by omega)
 refine ⟨h',fun i => ?_⟩
 have fF:a < above.length:=by rw [h.len];have:=h.l9;omega
 have hua:up above a=a:=by have:=h.lq a ha;rw [oX] at this;exact this
 have hub:up above b=b:=by have:=h.lq b (by omega);rw [hrb] at this;exact this
 induction i using ux with
 | _ i ih=>
  intro hi
  rw [h'.root_eq hi,Lg fF]
  by_cases e:i=a
  ·subst e
   rw [if_pos rfl,oX,if_pos rfl]
   simp only [um]
   split
   ·rename_i e2;exact e2.symm
   ·rw [ih b (by omega) (by omega),hrb]
    split
    ·rfl
    ·rfl
  ·rw [if_neg e]
   have hu:=h.iM hi
   split
   ·rename_i e2
    have:root above i=i:=by rw [h.root_eq hi,if_pos e2]
    rw [this,if_neg e]
   ·rename_i e2
    have:root above i=root above (up above i):=by rw [h.root_eq hi,if_neg e2]
    rw [this]
    exact ih (up above i) (by omega) (by omega)
theorem Zl {above:List Int} {k:Nat} (hk:k < above.length):above[k]?=some (above.getD k 0):=by
 rw [ue,ua hk];rfl
structure nC (n:Nat) (above bT:List Int):Prop where
 uf:UF n bT
 eq:∀ i,i < n→root bT i=root above i
theorem EB {n:Nat}:∀ (k i:Nat) (above:List Int),UF n above→i < n→i < k→∃ bT,xk k (i:Int) above=some ((root above i:Int),bT)∧nC n above bT
 | 0,i,above,_,_,h=>by omega
 | k+1,i,above,h,hi,hik=>by
  have oF:=h.l9
  have hl:=h.len
  have hle:=h.le i hi
  simp only [xk]
  unfold Wm
  have e1:zh 400 (i:Int)=some i:=zM (by omega)
  simp only [e1,bf,Zl (show i < above.length by omega)]
  by_cases e:above.getD i 0=(i:Int)
  ·have hb:(above.getD i 0 == (i:Int))=true:=by rw [e];simp
   rw [hb]
   simp only [cond_true,bf,Zl (show i < above.length by omega)]
   have hr:root above i=i:=by rw [h.root_eq hi,if_pos (by unfold up;omega)]
   exact ⟨above,by rw [hr,e],h,fun _ _=>rfl⟩
  ·have hb:(above.getD i 0 == (i:Int))=false:=beq_eq_false_iff_ne.2 e
   rw [hb]
   simp only [cy,bf]
   have bA:above.getD i 0=(up above i:Int):=by unfold up;omega
   have EC:up above i < i:=by unfold up;omega
   obtain ⟨a1,h1,h2⟩:=EB k (up above i) above h (by omega) (by omega)
   have Lh:root above i=root above (up above i):=by rw [h.root_eq hi,if_neg (by omega)]
   have lI:=h2.uf.len
   rw [bA,h1]
   simp only [bf,Zl (show i < a1.length by omega)]
   have gq:root a1 i=root above (up above i):=by rw [h2.eq i hi,Lh]
   obtain ⟨c1,c2⟩:=h2.uf.oD hi
   rw [gq] at c1 c2
   rw [uI (by omega)]
   simp only [bf]
   exact ⟨_,by rw [Lh],c1,fun j hj=>by rw [c2 j hj,h2.eq j hj]⟩
theorem Li {n i:Nat} {above:List Int} (h:UF n above) (hi:i < n):xD (i:Int) above=xk (i+1) (i:Int) above:=by
 obtain ⟨a1,h1,h2⟩:=EB (i+1) i above h hi (Ue _)
 have key:∀ (k k' i:Nat) (above:List Int),UF n above→i < n→i < k→i < k'→xk k (i:Int) above=xk k' (i:Int) above:=by
  intro k
  induction k with
  | zero=>intro k' i above _ _ h;omega
  | succ k ih=>
   intro k' i above h hi h1 h2
   cases k' with
   | zero=>omega
   | succ k'=>
    have oF:=h.l9
    have hl:=h.len
    have hle:=h.le i hi
    simp only [xk]
    unfold Wm
    have e1:zh 400 (i:Int)=some i:=zM (by omega)
    simp only [e1,bf,Zl (show i < above.length by omega)]
    cases hb:(above.getD i 0 == (i:Int)) with
    | true=>rfl
    | false=>
     have e:=beq_eq_false_iff_ne.1 hb
     have bA:above.getD i 0=(up above i:Int):=by unfold up;omega
     have EC:up above i < i:=by unfold up;omega
     simp only [cy]
     rw [bA,ih k' (up above i) above h (by omega) (by omega) (by omega)]
 rw [h1]
 unfold xD
 exact OP (i+1) fun k' hk=>by rw [key k' (i+1) i above h hi (by omega) (by omega)];exact h1
theorem XM {n i:Nat} {above:List Int} (h:UF n above) (hi:i < n):∃ bT,xD (i:Int) above=some ((root above i:Int),bT)∧nC n above bT:=by
 rw [Li h hi]
 exact EB (i+1) i above h hi (Ue _)
theorem zmQ {n i j:Nat} {above:List Int} (h:UF n above) (hi:i < n) (hj:j < n):∃ bT,wX (i:Int) (j:Int) above=some bT∧UF n bT∧root bT i=root bT j∧(∀ x y,x < n→y < n→root above x=root above y→root bT x=root bT y)∧∀ x y,x < n→y < n→root bT x=root bT y→root above x=root above y∨((root above x=root above i∨root above x=root above j)∧(root above y=root above i∨root above y=root above j)):=by
 unfold wX
 obtain ⟨a1,e1,s1⟩:=XM h hi
 obtain ⟨a2,e2,s2⟩:=XM s1.uf hj
 obtain ⟨a3,e3,s3⟩:=XM s2.uf hi
 obtain ⟨a4,e4,s4⟩:=XM s3.uf hj
 have r2:root a1 j=root above j:=s1.eq j hj
 have r3:root a2 i=root above i:=by rw [s2.eq i hi,s1.eq i hi]
 have r4:root a3 j=root above j:=by rw [s3.eq j hj,s2.eq j hj,r2]
 have heq:∀ x,x < n→root a4 x=root above x:=fun x hx=>by rw [s4.eq x hx,s3.eq x hx,s2.eq x hx,s1.eq x hx]
 rw [r2] at e2
 rw [r3] at e3
 rw [r4] at e4
 simp only [e1,bf,e2,e3,e4]
 have hli:=h.fQ i hi
 have hlj:=h.fQ j hj
 have oF:=h.l9
 have hl4:=s4.uf.len
 have Ct:root a4 (root above i)=root above i:=by rw [heq _ (by omega),h.fy hi]
 have Lj:root a4 (root above j)=root above j:=by rw [heq _ (by omega),h.fy hj]
 have main:∀ a b:Nat,a < n→b≤a→root a4 a=a→root a4 b=b→(a=root above i∧b=root above j∨a=root above j∧b=root above i) →
   ∃ bT,(ui (zh 400 (a:Int)) fun k1=>ui (a4[k1]?) fun e1=>some (a4.set k1 (b:Int)))=some bT∧UF n bT∧root bT i=root bT j∧(∀ x y,x < n→y < n→root above x=root above y→root bT x=root bT y)∧∀ x y,x < n→y < n→root bT x=root bT y→root above x=root above y∨((root above x=root above i∨root above x=root above j)∧(root above y=root above i∨root above y=root above j)):=fun a b ha hb ra rb hc=>by
  obtain ⟨u1,u2⟩:=s4.uf.join ha hb ra rb
  refine ⟨_,by rw [zM (by omega)];simp only [Option.bind_some,Zl (show a < a4.length by omega)],u1,?_,fun x y hx hy hxy => ?_,fun x y hx hy hxy => ?_⟩
  ·rw [u2 i hi,u2 j hj,heq i hi,heq j hj]
   rcases hc with ⟨c1,c2⟩ | ⟨c1,c2⟩
   ·rw [if_pos c1.symm]
    split
    ·rfl
    ·exact c2
   ·rw [if_pos c1.symm]
    split
    ·rfl
    ·exact c2.symm
  ·rw [u2 x hx,u2 y hy,heq x hx,heq y hy,hxy]
  ·rw [u2 x hx,u2 y hy,heq x hx,heq y hy] at hxy
   by_cases e1:root above x=a
   ·rw [if_pos e1] at hxy
    by_cases e2:root above y=a
    ·exact .inl (e1.trans e2.symm)
    ·rw [if_neg e2] at hxy
     right
     rcases hc with ⟨c1,c2⟩ | ⟨c1,c2⟩
     ·exact ⟨.inl (by omega),.inr (by omega)⟩
     ·exact ⟨.inr (by omega),.inl (by omega)⟩
   ·rw [if_neg e1] at hxy
    by_cases e2:root above y=a
    ·rw [if_pos e2] at hxy
     right
     rcases hc with ⟨c1,c2⟩ | ⟨c1,c2⟩
     ·exact ⟨.inr (by omega),.inl (by omega)⟩
     ·exact ⟨.inl (by omega),.inr (by omega)⟩
    ·rw [if_neg e2] at hxy
     exact .inl hxy
 by_cases hlt:root above i < root above j
 ·rw [if_pos (by omega),if_neg (by omega)]
  exact main _ _ (by omega) (by omega) Lj Ct (.inr ⟨rfl,rfl⟩)
 ·rw [if_neg (by omega)]
  by_cases iw:root above j < root above i
  ·rw [if_pos (by omega)]
   exact main _ _ (by omega) (by omega) Ct Lj (.inl ⟨rfl,rfl⟩)
  ·have:root above i=root above j:=by omega
   rw [if_neg (by omega)]
   exact main _ _ (by omega) (by omega) Ct Ct (.inl ⟨rfl,this⟩)
structure fZ (n:Nat) (ρ:Nat→Nat):Prop where
 le:∀ x,x < n→ρ x≤x
 idem:∀ x,x < n→ρ (ρ x)=ρ x
def qL (ρ:Nat→Nat) (i:Nat):List Nat:=(uD i).filter (fun x=>ρ x == x)
def jG (ρ:Nat→Nat) (r i:Nat):List Int:=((uD i).filter (fun x=>ρ x == r)).map fun x:Nat=>(x:Int)
def zD (ρ:Nat→Nat) (i:Nat):List (List Int):=(qL ρ i).map fun r=>jG ρ r i
theorem Qu (ρ:Nat→Nat) (i:Nat):qL ρ (i+1)=if ρ i=i then qL ρ i++[i] else qL ρ i:=by
 unfold qL
 rw [uY,uP]
 by_cases h:ρ i=i<;>simp [h]
theorem Qi (ρ:Nat→Nat) (r i:Nat):jG ρ r (i+1)=if ρ i=r then jG ρ r i++[(i:Int)] else jG ρ r i:=by
 unfold jG
 rw [uY,uP]
 by_cases h:ρ i=r<;>simp [h]
theorem YE {ρ:Nat→Nat} {i r:Nat}:r∈qL ρ i↔r < i∧ρ r=r:=by simp [qL]
theorem ZJ {ρ:Nat→Nat} {r i:Nat} {x:Int}:x∈jG ρ r i↔0≤x∧x < i∧ρ x.toNat=r:=by
 simp only [jG,uX,Uj,u4,beq_iff_eq]
 constructor
 ·rintro ⟨y,⟨h1,h2⟩,rfl⟩;exact ⟨by omega,by omega,by simpa using h2⟩
 ·rintro ⟨h1,h2,h3⟩;exact ⟨x.toNat,⟨by omega,h3⟩,by omega⟩
theorem zcA (ρ:Nat→Nat) (i:Nat):(qL ρ i).Nodup:=List.Pairwise.sublist List.filter_sublist List.nodup_range
theorem Ll {ρ:Nat→Nat} {r:Nat} (hr:ρ r=r):∀ {i:Nat},r < i→(qL ρ i)[(qL ρ r).length]?=some r
 | 0,h=>by omega
 | i+1,h=>by
  rw [Qu]
  rcases uz r i with h1 | h1
  ·have ih:=Ll hr h1
   split
   ·rw [uv (ub.1 ih).1];exact ih
   ·exact ih
  ·obtain rfl:r=i:=by omega
   rw [if_pos hr];simp
theorem map_set {α β:Type} {f g:α→β} {v:β}:∀ {l:List α} {p:Nat} {r:α},l.Nodup→l[p]?=some r→g r=v→(∀ x∈l,x≠r→g x=f x)→(l.map f).set p v=l.map g
 | [],p,r,_,h,_,_=>by simp at h
 | x::l,0,r,hn,h,hv,hg=>by
  simp at h
  subst h
  simp only [u9,List.set_cons_zero,hv]
  congr 1
  refine u7 fun y hy=>(hg y (by simp [hy]) fun e => ?_).symm
  subst e
  exact (uM.1 hn).1 hy
 | x::l,p+1,r,hn,h,hv,hg=>by
  simp only [List.getElem?_cons_succ] at h
  simp only [u9,List.set_cons_succ]
  rw [map_set (uM.1 hn).2 h hv (fun y hy=>hg y (by simp [hy]))]
  rw [hg x (by simp) (fun e=>by subst e;exact (uM.1 hn).1 (uq h))]
theorem wD {β:Type} (a b:Int) (v:β):∀ es:List (Int×β),zl a (zJ b v es)=if a=b then some v else zl a es
 | []=>by simp only [zJ,zl]
 | (k,w)::r=>by
  have ih:=wD a b v r
  simp only [zJ]
  by_cases h:b=k
  ·subst h
   simp only [if_pos,zl]
   by_cases h2:a=b
   ·simp [h2]
   ·simp [h2]
  ·rw [if_neg h]
   simp only [zl,ih]
   by_cases h2:a=k
   ·subst h2;rw [if_pos rfl,if_neg (fun e=>h e.symm),if_pos rfl]
   ·rw [if_neg h2,if_neg h2]
structure Bx (n:Nat) (above:List Int) (i:Nat) (s:List (List Int)×List (Int×Int)×List Int):Prop where
 same:nC n above s.2.2
 parts:s.1=zD (root above) i
 places:∀ r:Nat,r < i→root above r=r→zl (r:Int) s.2.1=some ((qL (root above) r).length:Int)
theorem Lm {n:Nat} {above:List Int} (h:UF n above):fZ n (root above):=⟨h.fQ,fun _ hx=>h.fy hx⟩
theorem zfg {n i:Nat} {ρ:Nat→Nat} (R:fZ n ρ) (hi:i < n) (h:ρ i=i):zD ρ (i+1)=zD ρ i++[[(i:Int)]]:=by
 unfold zD
 rw [Qu,if_pos h,uZ]
 congr 1
 ·refine u7 fun r hr => ?_
  rw [YE] at hr
  rw [Qi,if_neg (by omega)]
 ·simp only [u9,List.map_nil]
  rw [Qi,if_pos h]
  have:jG ρ i i=[]:=List.eq_nil_iff_forall_not_mem.2 fun x hx=>by
   rw [ZJ] at hx
   have:=R.le x.toNat (by omega)
   omega
  rw [this];rfl
theorem zfh {n i:Nat} {ρ:Nat→Nat} (R:fZ n ρ) (hi:i < n) (h:ρ i≠i):(zD ρ i)[(qL ρ (ρ i)).length]?=some (jG ρ (ρ i) i)∧zD ρ (i+1)=(zD ρ i).set (qL ρ (ρ i)).length (jG ρ (ρ i) i++[(i:Int)]):=by
 have hle:=R.le i hi
 have sP:=Ll (ρ:=ρ) (R.idem i hi) (i:=i) (by omega)
 refine ⟨by unfold zD;rw [Uc,sP];rfl,?_⟩
 unfold zD
 rw [Qu,if_neg h]
 refine (map_set (zcA ρ i) sP ?_ fun r hr hne => ?_).symm
 ·show jG ρ (ρ i) (i+1)=_
  rw [Qi,if_pos rfl]
 ·show jG ρ r (i+1)=_
  rw [Qi,if_neg (fun e=>hne e.symm)]
theorem ziY {n:Nat} {above:List Int} (h:UF n above):∃ ab,wl (n:Int) above=some (zD (root above) n,ab):=by
 have oF:=h.l9
 have R:=Lm h
 unfold wl
 have hg:decide ((n:Int)≤1000000000000)=true:=by simp only [decide_eq_true_eq];omega
 rw [hg]
 simp only [cond_true]
 have:ay (aE (σ:=List (List Int)×List (Int×Int)×List Int) (ρ:=Unit) (n:Int) xN ([],[],above)) (fun o=>match o with | .inl s=>Bx n above n s | .inr _=>False):=by
  refine ay.eE (Bx n above) (by omega) ⟨⟨h,fun _ _=>rfl⟩,rfl,fun r hr=>by omega⟩ ?_ (fun s hs=>hs)
  rintro i ⟨Ls,es,ab⟩ hi ⟨g1,g2,g3⟩
  simp only at g1 g2 g3
  unfold xN
  obtain ⟨Ln,e1,e2⟩:=XM g1.uf hi
  rw [g1.eq i hi] at e1
  have hsame:nC n above Ln:=⟨e2.uf,fun j hj=>by rw [e2.eq j hj,g1.eq j hj]⟩
  simp only [e1,bf]
  have hle:=R.le i hi
  by_cases he:root above i=i
  ·have hb:((root above i:Int) == (i:Int))=true:=by rw [he];simp
   rw [hb]
   refine ay.some ⟨hsame,?_,fun r hr tJ => ?_⟩
   ·show Ls++[[(i:Int)]]=_
    rw [zfg R hi he,g2]
   ·show zl (r:Int) (zJ (i:Int) (Ls.length:Int) es)=_
    rw [wD]
    split
    ·rename_i e3
     obtain rfl:r=i:=by omega
     rw [g2];simp [zD]
    ·exact g3 r (by omega) tJ
  ·have hb:((root above i:Int) == (i:Int))=false:=by rw [beq_eq_false_iff_ne];omega
   rw [hb]
   obtain ⟨o1,o2⟩:=zfh R hi he
   have ec:=g3 (root above i) (by omega) (R.idem i hi)
   simp only [cy,ec,uu]
   rw [zH,g2,o1]
   simp only [bf,um]
   exact ay.some ⟨hsame,o2.symm,fun r hr tJ=>g3 r (by
    rcases uz r i with h5 | h5
    ·exact h5
    ·obtain rfl:r=i:=by omega
     exact absurd tJ he) tJ⟩
 obtain ⟨o,h1,h2⟩:=this
 rw [h1]
 cases o with
 | inl s=>exact ⟨s.2.2,by simp only [bf,uk];rw [←h2.parts]⟩
 | inr _=>exact h2.elim
def jl (k:aK):List Int:=if k.aL = -1 then [k.act] else [k.act,k.aL,k.cX]
theorem zhk (k:aK):kA k=some (jl k):=by
 unfold kA jl
 by_cases h:k.aL = -1
 ·simp [h]
 ·rw [if_neg h,beq_eq_false_iff_ne.2 h];rfl
theorem zhl (k:aK):(jl k).length≤3:=by unfold jl;split<;>simp
def xO (l:List aV):Bool:=l.any fun a=>!(a.kind == 1)
theorem zom (l:List aV) (hl:l.length < 4611686018427387904):Wl l=some (xO l):=by
 unfold Wl Ck
 rw [wz (fun j=>match l[j]? with | some a=>a.kind == 1 | none=>true) (fun j=>(j:Int)) hl (fun j hj=>by
  simp only [zH,ua hj,bf,Cj]
  cases (l[j].kind == 1)<;>rfl)]
 cases hf:(uD l.length).find? (fun j=>!(match l[j]? with | some a=>a.kind == 1 | none=>true)) with
 | none=>
  have:xO l=false:=by
   unfold xO
   rw [List.any_eq_false]
   intro a ha
   obtain ⟨j,hj,rfl⟩:=ug ha
   have:=ki hf j hj
   simp only [ua hj] at this
   simp [this]
  rw [this];rfl
 | some k=>
  obtain ⟨h2,h1,_⟩:=kj hf
  have:xO l=true:=by
   unfold xO
   rw [List.any_eq_true]
   simp only [ua h2] at h1
   exact ⟨l[k],uc h2,by rw [h1];rfl⟩
  rw [this]
  simp only [bf,Sum.elim_inr]
  have:decide ((0:Int)≤(k:Int))=true:=decide_eq_true (by omega)
  first | rfl | (rw [this])
structure Mg (n:Nat) (a b:List Int):Prop where
 uf:UF n b
 eq:∀ x y,x < n→y < n→root a x=root a y→root b x=root b y
theorem Mg.refl {n:Nat} {a:List Int} (h:UF n a):Mg n a a:=⟨h,fun _ _ _ _ e=>e⟩
theorem Mg.trans {n:Nat} {a b c:List Int} (h:Mg n a b) (h':Mg n b c):Mg n a c:=⟨h'.uf,fun x y hx hy e=>h'.eq x y hx hy (h.eq x y hx hy e)⟩
structure Lo (E:Nat→Nat→Prop):Prop where
 refl:∀ x,E x x
 symm:∀ x y,E x y→E y x
 trans:∀ x y z,E x y→E y z→E x z
def UE (n:Nat) (E:Nat→Nat→Prop) (a:List Int):Prop:=∀ x y,x < n→y < n→root a x=root a y→E x y
theorem ED {n i j:Nat} {above:List Int} (h:UF n above) (hi:i < n) (hj:j < n):ay (wX (i:Int) (j:Int) above) fun b=>Mg n above b∧root b i=root b j∧∀ E,Lo E→E i j→UE n E above→UE n E b:=by
 obtain ⟨b,h1,h2,h3,h4,h5⟩:=zmQ h hi hj
 refine ⟨b,h1,⟨h2,h4⟩,h3,fun E hE hij hU x y hx hy hxy => ?_⟩
 rcases h5 x y hx hy hxy with e | ⟨e1,e2⟩
 ·exact hU x y hx hy e
 ·have hx':E x i:=e1.elim (fun e=>hU x i hx hi e) (fun e=>hE.trans _ _ _ (hU x j hx hj e) (hE.symm _ _ hij))
  have hy':E y i:=e2.elim (fun e=>hU y i hy hi e) (fun e=>hE.trans _ _ _ (hU y j hy hj e) (hE.symm _ _ hij))
  exact hE.trans _ _ _ hx' (hE.symm _ _ hy')
structure mZ (c:aq) (E:Nat→Nat→Prop):Prop where
 rN:Lo E
 start:∀ (i:Nat) (k:aK),c.zw[i]?=some k→∀ s∈k.start,E i s.clause.toNat
 gZ:∀ (i j:Nat) (k q:aK) (a:Int),c.zw[i]?=some k→c.zw[j]?=some q→a∈jl k→a∈jl q→E i j
 whole:xO c.aC=true→∀ i j,i < c.zw.length→j < c.zw.length→E i j
structure rO (c:aq) (n:Nat) (us:List (Int×Int)):Prop where
 gJ:∀ a u,zl a us=some u→0≤u∧u < n
 use:∀ a u,zl a us=some u→∃ q,c.zw[u.toNat]?=some q∧a∈jl q
structure rP (n:Nat) (k:aK) (i:Nat) (ab:List Int) (us:List (Int×Int)):Prop where
 start:∀ s∈k.start,root ab i=root ab s.clause.toNat
 gZ:∀ a∈jl k,∃ u:Nat,zl a us=some (u:Int)∧u < n∧root ab u=root ab i
structure tj (c:aq) (m:Nat) (s:List Int×List (Int×Int)):Prop where
 uf:UF c.zw.length s.1
 Lp:rO c c.zw.length s.2
 whole:xO c.aC=true→∀ i,i < m→root s.1 0=root s.1 i
 least:∀ E,mZ c E→UE c.zw.length E s.1
 Lq:∀ (i:Nat) (k:aK),i < m→c.zw[i]?=some k→rP c.zw.length k i s.1 s.2
structure cq (c:aq) (ρ:Nat→Nat):Prop where
 whole:xO c.aC=true→∀ i j,i < c.zw.length→j < c.zw.length→ρ i=ρ j
 least:∀ E,mZ c E→∀ i j,i < c.zw.length→j < c.zw.length→ρ i=ρ j→E i j
 fn:fZ c.zw.length ρ
 start:∀ (i:Nat) (k:aK),c.zw[i]?=some k→∀ s∈k.start,ρ i=ρ s.clause.toNat
 gZ:∀ (i j:Nat) (k q:aK) (a:Int),c.zw[i]?=some k→c.zw[j]?=some q→a∈jl k→a∈jl q→ρ i=ρ j
theorem zkG {n:Nat} {s:List Int} (h:UF n s) (hs:∀ i,i < n→s.getD i 0=(i:Int)):∀ i,i < n→root s i=i:=fun i hi=>by
 rw [h.root_eq hi,if_pos]
 unfold up
 rw [hs i hi];simp
theorem zcC (c:aq) (ho:c.off.length < 4611686018427387904) (hst:∀ k∈c.zw,k.start.length < 4611686018427387904) (hv:(zF c).1=0) :
  ∃ ρ,cq c ρ∧zV c=some (zD ρ c.zw.length):=by
 have sm:=qy ho hv
 have oF:=sm.zw
 have rL:=sm.aC
 suffices hh:ay (zV c) (fun l=>∃ ρ,cq c ρ∧l=zD ρ c.zw.length) by
  obtain ⟨l,h1,ρ,h2,rfl⟩:=hh
  exact ⟨ρ,h2,h1⟩
 unfold zV
 rw [Kk c ho hst]
 simp only [bf,hv,beq_self_eq_true,cond_true]
 refine ay.bind (P:=fun o=>match o with | .inl s=>UF c.zw.length s∧∀ i,i < c.zw.length→root s i=i | .inr _=>False) ?_ ?_
 ·refine ay.eE (fun m s=>s.length=400∧∀ i,i < m→s.getD i 0=(i:Int)) (by omega) ⟨by simp,fun i hi=>by omega⟩ ?_ ?_
  ·rintro i s hi ⟨h1,h2⟩
   rw [zM (by omega)]
   simp only [bf,Zl (show i < s.length by omega)]
   refine ay.some ⟨by simp [h1],fun j hj => ?_⟩
   rw [ue,uG]
   by_cases e:i=j
   ·subst e;rw [if_pos rfl,if_pos (by omega)];rfl
   ·rw [if_neg e,←ue];exact h2 j (by omega)
  ·rintro s ⟨h1,h2⟩
   have hu:UF c.zw.length s:=⟨h1,fun i hi=>by rw [h2 i hi];omega,oF⟩
   exact ⟨hu,zkG hu h2⟩
 ·rintro (s1 | s1) h0
  case inr=>exact h0.elim
  obtain ⟨h0,Lr⟩:UF c.zw.length s1∧∀ i,i < c.zw.length→root s1 i=i:=h0
  simp only [uk,zom c.aC (by omega),bf]
  refine ay.bind (P:=fun o=>match o with | .inl s=>tj c c.zw.length s | .inr _=>False) ?_ ?_
  ·refine ay.eE (tj c) (by omega) ⟨h0,⟨fun a u h=>(by cases h),fun a u h=>(by cases h)⟩,fun _ i hi=>by omega,fun E hE x y hx hy h=>(by rw [Lr x hx,Lr y hy] at h;rw [h];exact hE.rN.refl y),fun i k hi=>by omega⟩ ?_ (fun s hs=>hs)
   rintro i ⟨ab,us⟩ hi ⟨i1,i2,i4,i5,i3⟩
   simp only at i1 i2 i3 i4 i5
   have hk:=ua hi
   have hs8:=sm.start _ (uc hi)
   simp only [zH,hk,bf]
   refine ay.bind (P:=fun b=>Mg c.zw.length ab b∧(xO c.aC=true→root b 0=root b i)∧∀ E,mZ c E→UE c.zw.length E b) ?_ ?_
   ·cases Cu:xO c.aC with
    | false=>exact ay.some ⟨.refl i1,fun h=>(by cases h),i5⟩
    | true=>
     have:=ED (i:=0) i1 (by omega) hi
     refine ay.bind this fun b hb=>ay.some ⟨hb.1,fun _=>hb.2.1,fun E hE=>hb.2.2 E hE.rN (hE.whole Cu 0 i (by omega) hi) (i5 E hE)⟩
   ·rintro v1 ⟨ni,sq,EE⟩
    refine ay.bind (P:=fun o=>match o with | .inl b=>Mg c.zw.length v1 b∧(∀ E,mZ c E→UE c.zw.length E b)∧∀ s∈c.zw[i].start,root b i=root b s.clause.toNat | .inr _=>False) ?_ ?_
    ·refine ay.eE (fun m b=>Mg c.zw.length v1 b∧(∀ E,mZ c E→UE c.zw.length E b)∧∀ (q:Nat) (hq:q < c.zw[i].start.length),q < m→root b i=root b c.zw[i].start[q].clause.toNat) (by omega) ⟨.refl ni.uf,EE,fun q hq h=>by omega⟩ ?_ ?_
     ·rintro q b hq ⟨b1,b3,b2⟩
      have hcd:=sm.cond i _ hk _ (uc hq)
      simp only [zH,ua hq,bf]
      have e:c.zw[i].start[q].clause=(c.zw[i].start[q].clause.toNat:Int):=by omega
      have hj:c.zw[i].start[q].clause.toNat < c.zw.length:=by omega
      rw [e]
      refine ay.bind (ED b1.uf hi hj) fun b' hb'=>ay.some ⟨b1.trans hb'.1,fun E hE=>hb'.2.2 E hE.rN (hE.start i _ hk _ (uc hq)) (b3 E hE),fun q' nN hlt => ?_⟩
      rcases uz q' q with h | h
      ·have hcd':=sm.cond i _ hk _ (uc nN)
       exact hb'.1.eq _ _ hi (by omega) (b2 q' nN h)
      ·obtain rfl:q'=q:=by omega
       exact hb'.2.1
     ·rintro b ⟨b1,b3,b2⟩
      refine ⟨b1,b3,fun s hs => ?_⟩
      obtain ⟨q,hq,e⟩:=ug hs
      rw [←e];exact b2 q hq hq
    ·rintro (b | b) hb
     case inr=>exact hb.elim
     obtain ⟨b1,b3,b2⟩:=hb
     have b0:=ni.trans b1
     simp only [uk,zhk,bf]
     have rX:=zhl c.zw[i]
     refine ay.bind (P:=fun o=>match o with | .inl s=>tj c (i+1) s | .inr _=>False) ?_ ?_
     ·refine ay.eE (fun m s=>Mg c.zw.length b s.1∧rO c c.zw.length s.2∧(∀ E,mZ c E→UE c.zw.length E s.1)∧(∀ a u,zl a us=some u→zl a s.2=some u)∧∀ (q:Nat) (hq:q < (jl c.zw[i]).length),q < m→∃ u:Nat,zl (jl c.zw[i])[q] s.2=some (u:Int)∧u < c.zw.length∧root s.1 u=root s.1 i) (by omega) ⟨.refl b1.uf,i2,b3,fun _ _ h=>h,fun q hq h=>by omega⟩ ?_ ?_
      ·rintro q ⟨d,ws⟩ hq ⟨d1,d2,d5,d3,d4⟩
       simp only at d1 d2 d3 d4 d5
       simp only [zH,ua hq,bf]
       cases hm:zl (jl c.zw[i])[q] ws with
       | some u=>
        have hu:=d2.gJ _ _ hm
        obtain ⟨kq,hkq,haq⟩:=d2.use _ _ hm
        simp only [Ua,cond_true,uu]
        have e:u=(u.toNat:Int):=by omega
        rw [e]
        have:=ED (i:=u.toNat) d1.uf (by omega) hi
        refine ay.bind (P:=fun r:List Int×List (Int×Int)=>r.2=ws∧Mg c.zw.length d r.1∧(∀ E,mZ c E→UE c.zw.length E r.1)∧root r.1 u.toNat=root r.1 i) (ay.bind this fun b' hb'=>ay.some ⟨rfl,hb'.1,fun E hE=>hb'.2.2 E hE.rN (hE.gZ _ _ _ _ _ hkq hk haq (uc hq)) (d5 E hE),hb'.2.1⟩) ?_
        rintro ⟨d',ws'⟩ ⟨rfl,g1,g3,g2⟩
        refine ay.some ⟨d1.trans g1,d2,g3,d3,fun q' nN hlt => ?_⟩
        rcases uz q' q with h | h
        ·obtain ⟨u',f1,f2,f3⟩:=d4 q' nN h
         exact ⟨u',f1,f2,g1.eq _ _ f2 hi f3⟩
        ·obtain rfl:q'=q:=by omega
         exact ⟨u.toNat,by rw [←e];exact hm,by omega,g2⟩
       | none=>
        simp only [Ub,cy,bf]
        refine ay.some ⟨d1,⟨fun a u hu => ?_,fun a u hu => ?_⟩,d5,fun a u hu => ?_,fun q' nN hlt => ?_⟩
        ·rw [wD] at hu
         split at hu
         ·cases hu;omega
         ·exact d2.gJ a u hu
        ·rw [wD] at hu
         split at hu
         ·rename_i e
          cases hu
          exact ⟨c.zw[i],by rw [um];exact hk,by rw [e];exact uc hq⟩
         ·exact d2.use a u hu
        ·show zl a (zJ (jl c.zw[i])[q] (i:Int) ws)=some u
         rw [wD]
         split
         ·rename_i e;rw [e] at hu;rw [d3 _ _ hu] at hm;cases hm
         ·exact d3 a u hu
        ·show ∃ u:Nat,zl (jl c.zw[i])[q'] (zJ (jl c.zw[i])[q] (i:Int) ws)=some (u:Int)∧u < c.zw.length∧root d u=root d i
         rw [wD]
         split
         ·exact ⟨i,rfl,hi,rfl⟩
         ·rename_i hne
          rcases uz q' q with h | h
          ·exact d4 q' nN h
          ·obtain rfl:q'=q:=by omega
           exact absurd rfl hne
      ·rintro ⟨d,ws⟩ ⟨d1,d2,d5,d3,d4⟩
       simp only at d1 d2 d3 d4 d5
       refine ⟨d1.uf,d2,fun hw j hj => ?_,d5,fun j k hj hkj => ?_⟩
       ·have Lt:0 < c.zw.length:=by omega
        rcases uz j i with h | h
        ·exact (b0.trans d1).eq _ _ Lt (by omega) (i4 hw j h)
        ·obtain rfl:j=i:=by omega
         exact (b1.trans d1).eq _ _ Lt hi (sq hw)
       show rP c.zw.length k j d ws
       rcases uz j i with h | h
       ·have hj':j < c.zw.length:=by omega
        obtain ⟨g1,g2⟩:=i3 j k h hkj
        have M:=b0.trans d1
        refine ⟨fun s hs => ?_,fun a ha => ?_⟩
        ·have hcd:=sm.cond j k hkj s hs
         exact M.eq _ _ hj' (by omega) (g1 s hs)
        ·obtain ⟨u,f1,f2,f3⟩:=g2 a ha
         exact ⟨u,d3 _ _ f1,f2,M.eq _ _ f2 hj' f3⟩
       ·obtain rfl:j=i:=by omega
        rw [hk] at hkj
        cases hkj
        refine ⟨fun s hs => ?_,fun a ha => ?_⟩
        ·have hcd:=sm.cond j _ hk s hs
         exact d1.eq _ _ hi (by omega) (b2 s hs)
        ·obtain ⟨q,hq,e⟩:=ug ha
         rw [←e]
         exact d4 q hq hq
     ·rintro (s | s) hs
      ·exact ay.some hs
      ·exact hs.elim
  ·rintro (s | s) hs
   case inr=>exact hs.elim
   obtain ⟨c1,c2,c4,c5,c3⟩:=hs
   obtain ⟨Ln,e⟩:=ziY c1
   simp only [uk,e,bf]
   refine ay.some ⟨root s.1,⟨fun hw i j hi hj=>(c4 hw i hi).symm.trans (c4 hw j hj),fun E hE i j hi hj h=>c5 E hE i j hi hj h,Lm c1,fun i k hk=>(c3 i k (ub.1 hk).1 hk).start,fun i j k q a hk hq ha hb => ?_⟩,rfl⟩
   obtain ⟨u,f1,f2,f3⟩:=(c3 i k (ub.1 hk).1 hk).gZ a ha
   obtain ⟨u',g1,g2,g3⟩:=(c3 j q (ub.1 hq).1 hq).gZ a hb
   rw [f1] at g1
   have:u=u':=by have:=Option.some.inj g1;omega
   subst this
   rw [←f3,←g3]
theorem Vk {c:aq} {aj:Int} {p:aG} {n:Nat} {x:Int}:x∈jk c aj p n↔∃ i:Nat,i < n∧mY c aj p i=true∧x=(i:Int):=by
 unfold jk
 simp only [uX,Uj,u4]
 constructor
 ·rintro ⟨i,⟨a,b⟩,rfl⟩;exact ⟨i,a,b,rfl⟩
 ·rintro ⟨i,a,b,rfl⟩;exact ⟨i,⟨a,b⟩,rfl⟩
theorem qh {c:aq} {aj:Int} {p:aG} {x:Int}:x∈zq c aj p↔(p.own=true∧x = -2)∨(p.state.day < c.bh∧p.own=false∧x = -1)∨(p.state.day < c.bh∧∃ i:Nat,i < c.aC.length∧mY c aj p i=true∧x=(i:Int)):=by
 unfold zq
 by_cases hd:c.bh≤p.state.day
 ·have:¬ p.state.day < c.bh:=by omega
  simp only [hd,decide_true,cond_true,uN,this,false_and,or_false]
  cases p.own<;>simp
 ·have:p.state.day < c.bh:=by omega
  simp only [hd,decide_false,cy,ut,Vk,this,true_and]
  cases p.own<;>simp
theorem ziZ (c:aq) (aj:Int) (p:aG) (n:Nat):(jk c aj p n).Pairwise (· < ·):=by
 unfold jk
 refine List.Pairwise.map _ (R:=fun a b:Nat=>a < b) (fun a b h=>by omega) ?_
 exact List.Pairwise.filter _ List.pairwise_lt_range
theorem zhm (c:aq) (aj:Int) (p:aG):(zq c aj p).Pairwise (· < ·):=by
 unfold zq
 refine u5.2 ⟨by cases p.own<;>simp,?_,?_⟩
 ·cases decide (c.bh≤p.state.day) with
  | true=>exact List.Pairwise.nil
  | false=>
   refine u5.2 ⟨by cases p.own<;>simp,ziZ c aj p _,fun a ha b hb => ?_⟩
   obtain ⟨i,_,_,rfl⟩:=Vk.1 hb
   cases hp:p.own with
   | true=>rw [hp] at ha;simp at ha
   | false=>rw [hp] at ha;simp at ha;omega
 ·intro a ha b hb
  cases hp:p.own with
  | false=>rw [hp] at ha;simp at ha
  | true=>
   rw [hp] at ha hb
   simp at ha
   cases hd:decide (c.bh≤p.state.day) with
   | true=>rw [hd] at hb;simp at hb
   | false=>
    rw [hd] at hb
    simp only [cy,cond_true,uO] at hb
    obtain ⟨i,_,_,rfl⟩:=Vk.1 hb
    omega
def YF (c:aq) (n:Int):Bool:=
 !(decide (20 < (c.aF.length:Int))||(decide (30 < (c.bB.length:Int))||(decide (70 < (c.aC.length:Int))||(decide (n < (c.zw.length:Int))||decide (100 < (c.off.length:Int))))))&&c.zw.all (fun k=>!decide (20 < (k.start.length:Int)))
theorem zhn (c:aq) (n:Int) (hc:c.zw.length < 4611686018427387904):Z8 c n=some (YF c n):=by
 unfold Z8 YF
 rw [yA (l:=c.zw) (fun k=>!decide (20 < (k.start.length:Int))) hc (fun i hi=>by
  simp only [zH,ua hi,bf]
  cases decide (20 < (c.zw[i].start.length:Int))<;>rfl)]
 simp only [zx,bf,Bool.cond_true_left]
 cases (decide (20 < (c.aF.length:Int))||(decide (30 < (c.bB.length:Int))||(decide (70 < (c.aC.length:Int))||(decide (n < (c.zw.length:Int))||decide (100 < (c.off.length:Int)))))) <;>
  cases c.zw.all (fun k=>!decide (20 < (k.start.length:Int)))<;>rfl
def Ws (c:aq):Bool:=YF c 6&&(decide ((c.aC.length:Int)≤8)&&decide (c.bh≤20))
theorem Lu {c:aq} (hc:c.Ok):Xw c=some (Ws c):=by
 unfold Xw Ws
 rw [zhn c 6 (hc.zw.lt (by omega))]
 simp only [zx,bf,uJ]
theorem yS {d:Nat} (h:d < 10):(UInt8.ofNat (48+d)).toNat=48+d:=by
 rw [UInt8.toNat_ofNat'];omega
theorem XN:∀ (u:Nat),∀ b∈Lib.decDigits u,48≤b.toNat∧b.toNat≤57:=by
 intro u
 induction u using ux with
 | _ u ih=>
  intro b hb
  rw [Lib.decDigits] at hb
  by_cases h:u < 10
  ·rw [dif_pos h] at hb
   simp only [uj] at hb
   subst hb
   rw [yS h];omega
  ·rw [dif_neg h] at hb
   rcases ut.1 hb with hb | hb
   ·exact ih (u / 10) (by omega) b hb
   ·simp only [uj] at hb
    subst hb
    rw [yS (by omega)];omega
def XO (l:List UInt8):Nat:=l.foldl (fun a b=>a*10+(b.toNat - 48)) 0
theorem kZ:∀ (u:Nat),XO (Lib.decDigits u)=u:=by
 intro u
 induction u using ux with
 | _ u ih=>
  rw [Lib.decDigits]
  by_cases h:u < 10
  ·rw [dif_pos h]
   simp only [XO,Uk,Um,yS h];omega
  ·rw [dif_neg h]
   have:=ih (u / 10) (by omega)
   unfold XO at this ⊢
   rw [List.foldl_append,this]
   simp only [Uk,Um,yS (show u % 10 < 10 by omega)];omega
theorem zi0 {a b:Int} (h:Lib.itoa a=Lib.itoa b):a=b:=by
 have key:∀ (u v:Nat),45::Lib.decDigits u=Lib.decDigits v→False:=by
  intro u v h
  have:=XN v 45 (by rw [←h];exact uo)
  have e:(45:UInt8).toNat=45:=rfl
  omega
 unfold Lib.itoa at h
 by_cases ha:a < 0
 ·by_cases hb:b < 0
  ·rw [if_pos ha,if_pos hb] at h
   have h1:=congrArg XO (List.cons.inj h).2
   rw [kZ,kZ] at h1
   omega
  ·rw [if_pos ha,if_neg hb] at h
   exact (key _ _ h).elim
 ·by_cases hb:b < 0
  ·rw [if_neg ha,if_pos hb] at h
   exact (key _ _ h.symm).elim
  ·rw [if_neg ha,if_neg hb] at h
   have h1:=congrArg XO h
   rw [kZ,kZ] at h1
   omega
theorem Lv (n:Int):∀ b∈Lib.itoa n,b≠32:=by
 intro b hb e
 subst e
 have e:(32:UInt8).toNat=32:=rfl
 unfold Lib.itoa at hb
 split at hb
 ·rcases Un.1 hb with h | h
  ·exact absurd h (by decide)
  ·have:=XN _ _ h;omega
 ·have:=XN _ _ hb;omega
def PI {α:Type} (f:α→List UInt8):Prop:=∀ (a b:α) (xs ys:List UInt8),f a++xs=f b++ys→a=b∧xs=ys
theorem Lw:∀ {a b xs ys:List UInt8},(∀ x∈a,x≠32)→(∀ x∈b,x≠32)→a++32::xs=b++32::ys→a=b∧xs=ys
 | [],[],xs,ys,_,_,h=>⟨rfl,(List.cons.inj h).2⟩
 | [],y::b,xs,ys,_,hb,h=>absurd (List.cons.inj h).1.symm (hb y uo)
 | x::a,[],xs,ys,ha,_,h=>absurd (List.cons.inj h).1 (ha x uo)
 | x::a,y::b,xs,ys,ha,hb,h=>by
  obtain ⟨h1,h2⟩:=List.cons.inj h
  obtain ⟨h3,h4⟩:=Lw (a:=a) (b:=b) (fun z hz=>ha z (ur _ hz)) (fun z hz=>hb z (ur _ hz)) h2
  exact ⟨by rw [h1,h3],h4⟩
theorem QQ:PI zK:=fun a b xs ys h=>by
 unfold zK at h
 rw [uh,uh] at h
 obtain ⟨h1,h2⟩:=Lw (Lv a) (Lv b) h
 exact ⟨zi0 h1,h2⟩
theorem Ko:PI qe:=fun a b xs ys h=>by
 unfold qe at h
 obtain ⟨h1,h2⟩:=List.cons.inj h
 refine ⟨?_,h2⟩
 cases a<;>cases b<;>first | rfl | exact absurd h1 (by decide)
theorem zkH:PI jb:=fun a b xs ys h=>by
 unfold jb at h
 simp only [uh] at h
 obtain ⟨h1,h⟩:=QQ _ _ _ _ h
 obtain ⟨h2,h⟩:=QQ _ _ _ _ h
 obtain ⟨h3,h⟩:=QQ _ _ _ _ h
 obtain ⟨h4,h⟩:=QQ _ _ _ _ h
 obtain ⟨h5,h6⟩:=Ko _ _ _ _ h
 refine ⟨?_,h6⟩
 clear h6 h
 cases a;cases b
 simp only at h1 h2 h3 h4 h5
 subst h1;subst h2;subst h3;subst h4;subst h5
 rfl
theorem Wt {α:Type} {f:α→List UInt8} (hf:PI f):∀ {l m:List α} {xs ys:List UInt8},l.length=m.length→l.flatMap f++xs=m.flatMap f++ys→l=m∧xs=ys
 | [],[],_,_,_,h=>⟨rfl,h⟩
 | [],_::_,_,_,hl,_=>by simp at hl
 | _::_,[],_,_,hl,_=>by simp at hl
 | a::l,b::m,xs,ys,hl,h=>by
  rw [uT,uT,uh,uh] at h
  obtain ⟨h1,h⟩:=hf _ _ _ _ h
  obtain ⟨h2,h⟩:=Wt hf (by simpa using hl) h
  exact ⟨by rw [h1,h2],h⟩
theorem zi1 {c:aq} {p q:aG} (hp:VS c p.state) (hq:VS c q.state) (h:qD p=qD q):p=q:=by
 unfold qD at h
 simp only [uh] at h
 obtain ⟨h1,h⟩:=Ko _ _ _ _ h
 obtain ⟨h2,h⟩:=QQ _ _ _ _ h
 obtain ⟨h3,h⟩:=Wt QQ (by rw [hp.lh,hq.lh]) h
 obtain ⟨h4,h⟩:=Wt Ko (by rw [hp.lu,hq.lu]) h
 have h5:=(Wt (l:=p.state.aO) (m:=q.state.aO) (xs:=[]) (ys:=[]) zkH (by rw [hp.lm,hq.lm]) (by rw [uN,uN];exact h)).1
 clear h
 obtain ⟨⟨d,hs,us,ms⟩,o⟩:=p
 obtain ⟨⟨d',hs',us',ms'⟩,o'⟩:=q
 simp only at h1 h2 h3 h4 h5
 subst h1;subst h2;subst h3;subst h4;subst h5;rfl
theorem Jz {α:Type} {f:α→List UInt8} {b:Nat}:∀ {l:List α},(∀ a∈l,(f a).length≤b)→(l.flatMap f).length≤l.length*b
 | [],_=>by simp
 | a::l,h=>by
  have h1:=h a uo
  have h2:=Jz (f:=f) (b:=b) (l:=l) fun x hx=>h x (ur _ hx)
  rw [uT,uF,uA,Nat.succ_mul];omega
theorem zmR {c:aq} {i:Nat} {k:aK} {m:ak} (kv:KV c i k) (hp:c.aT≤12) (h:q9 c.aT k m=true):(0≤m.aR∧m.aR≤5)∧(0≤m.left∧m.left≤400)∧(0≤m.got∧m.got≤9)∧(-1≤m.bC∧m.bC≤12):=by
 have hn:=kv.need
 rcases wq.1 h with ⟨h0,_,h1⟩ | ⟨h0,h1,h2⟩ | ⟨h0,h1,h2,h3⟩ | ⟨h0,h1⟩
 ·simp only [Co,ud,beq_iff_eq] at h1
  omega
 ·have hr:jV m=true:=by simp [jV,h0]
  obtain ⟨rv,_,_⟩:=vz kv h hr
  have:=rv.left;have:=rv.got;have:=rv.bC
  omega
 ·have hr:jV m=true:=by simp [jV,h0]
  obtain ⟨rv,_,_⟩:=vz kv h hr
  have:=rv.left;have:=rv.got;have:=rv.bC
  omega
 ·simp only [Cp,ud,beq_iff_eq,decide_eq_true_eq] at h1
  omega
theorem yB {n:Int} (h0 : -1000000≤n) (h1:n≤1000000):jz n=true:=by
 simp only [jz,ud,decide_eq_true_eq];omega
theorem Zm {n:Int} (h0 : -1000000≤n) (h1:n≤1000000):(zK n).length≤22:=by
 have:=Lib.itoa_length_le n (by omega) (by omega)
 simp only [zK,uF,uA,u0];omega
def txt (p:aG):ByteArray:=⟨(qD p).toArray⟩
theorem Lx {c:aq} {p q:aG} (hp:VS c p.state) (hq:VS c q.state) (h:txt p=txt q):p=q:=by
 refine zi1 hp hq ?_
 unfold txt at h
 have h2:=congrArg (fun b:ByteArray=>b.data.toList) h
 simpa using h2
theorem Ly {c:aq} (hc:c.Ok) {p:aG} (hp:VS c p.state):xj p=some (txt p):=by
 have ho:=hc.off.lt (by omega:0 < 8)
 have sm:=qy ho hp.cv
 have hpa:=sm.aT
 have hda:=sm.bh
 have lg:=hp.day
 have hf:=hp.Bw hc
 have hh:∀ h∈p.state.aF,-1000000≤h∧h≤1000000:=fun h hh=>by have:=hp.hold h hh;omega
 have hm:∀ m∈p.state.aO,(0≤m.aR∧m.aR≤5)∧(0≤m.left∧m.left≤400)∧(0≤m.got∧m.got≤9)∧(-1≤m.bC∧m.bC≤12):=fun m hm=>by
  obtain ⟨i,hi,rfl⟩:=ug hm
  have hk:=ua (show i < c.zw.length by have:=hp.lm;omega)
  exact zmR (xe ho hp.cv hk) (by omega) (hp.tY i _ _ hk (ua hi))
 have hlen:(qD p).length≤1000000000:=by
  have h1:=Zm (n:=p.state.day) (by omega) (by omega)
  have h2:=Jz (f:=zK) (b:=22) (l:=p.state.aF) fun h AE=>Zm (hh h AE).1 (hh h AE).2
  have h3:=Jz (f:=qe) (b:=1) (l:=p.state.used) fun _ _=>by simp [qe]
  have h4:=Jz (f:=jb) (b:=89) (l:=p.state.aO) fun m hm'=>by
   have:=hm m hm'
   have a1:=Zm (n:=m.aR) (by omega) (by omega)
   have a2:=Zm (n:=m.left) (by omega) (by omega)
   have a3:=Zm (n:=m.got) (by omega) (by omega)
   have a4:=Zm (n:=m.bC) (by omega) (by omega)
   simp only [jb,qe,uF,uA,u0];omega
  simp only [qD,uF]
  have:(qe p.own).length=1:=rfl
  omega
 have hok:tW p=true:=by
  simp only [tW,ud,decide_eq_true_eq,uw]
  refine ⟨⟨⟨yB (by omega) (by omega),fun x hx=>yB (hh x hx).1 (hh x hx).2⟩,fun m hm' => ?_⟩,hlen⟩
  have:=hm m hm'
  exact ⟨⟨⟨yB (by omega) (by omega),yB (by omega) (by omega)⟩,yB (by omega) (by omega)⟩,yB (by omega) (by omega)⟩
 unfold xj txt
 rw [if_pos hok]
instance:BEq aG:=⟨fun a b=>a.own == b.own&&wZ a.state b.state⟩
instance:LawfulBEq aG where
 eq_of_beq {a b} h:=by
  have h':(a.own == b.own&&wZ a.state b.state)=true:=h
  simp only [ud,beq_iff_eq,vC] at h'
  obtain ⟨h1,h2⟩:=h'
  cases a;cases b;simp_all
 rfl {a}:=by
  show (a.own == a.own&&wZ a.state a.state)=true
  simp [vC.2 rfl]
noncomputable instance:DecidableEq aG:=fun a b=>if h:(a == b)=true then isTrue (eq_of_beq h) else isFalse fun e=>h (beq_iff_eq.2 e)
def QR (q:aG) (L:List aG):Option Int:=if q∈L then some (L.idxOf q:Int) else none
def visit (L:List aG) (q:aG):Option (Int×List aG):=if q∈L then some ((L.idxOf q:Int),L) else if L.length=1500 then none else some ((L.length:Int),L++[q])
def By (L:List aG) (F:List (ByteArray×Int)) (q:aG):List (ByteArray×Int):=if q∈L then F else zJ (txt q) (L.length:Int) F
def ng (c:aq) (F:List (ByteArray×Int)) (L:List aG):Prop:=∀ q:aG,VS c q.state→zl (txt q) F=QR q L
theorem QS {α β:Type} [DecidableEq α] (k:α) (v:β):∀ l:List (α×β),zl k (zJ k v l)=some v
 | []=>by simp [zJ,zl]
 | (k',v')::r=>by
  unfold zJ
  split
  ·simp [zl]
  ·rename_i h;simp only [zl,h,if_false];exact QS k v r
theorem XP {α β:Type} [DecidableEq α] {k k2:α} (v:β) (h:k2≠k):∀ l:List (α×β),zl k2 (zJ k v l)=zl k2 l
 | []=>by simp [zJ,zl,h]
 | (k',v')::r=>by
  unfold zJ
  split
  ·rename_i e;subst e;simp only [zl,h,if_false]
  ·by_cases h2:k2=k'
   ·simp only [zl,h2,if_true]
   ·simp only [zl,h2,if_false];exact XP v h r
theorem zdn {q q':aG} {L:List aG} (hq:q ∉ L):QR q' (L++[q])=if q'=q then some (L.length:Int) else QR q' L:=by
 unfold QR
 by_cases h:q'=q
 ·subst h
  rw [if_pos (by simp),if_pos rfl,Ud,if_neg hq]
  simp
 ·rw [if_neg h]
  by_cases hm:q'∈L
  ·rw [if_pos (by simp [hm]),if_pos hm,Ud,if_pos hm]
  ·rw [if_neg (by simp [hm,h]),if_neg hm]
theorem ng.visit {c:aq} {F:List (ByteArray×Int)} {L L':List aG} {q:aG} {to:Int} (h:ng c F L) (hq:VS c q.state) (hv:visit L q=some (to,L')):ng c (By L F q) L':=by
 unfold Go.Proofs.YtlpmnmbebkdocaaGreatDoor.visit at hv
 unfold By
 by_cases hm:q∈L
 ·rw [if_pos hm] at hv ⊢; cases hv;exact h
 ·rw [if_neg hm] at hv ⊢
  split at hv
  ·cases hv
  ·cases hv
   intro q' nN
   rw [zdn hm]
   by_cases e:q'=q
   ·subst e;rw [QS,if_pos rfl]
   ·rw [XP _ (fun h2=>e (Lx nN hq h2)),if_neg e,h q' nN]
theorem zi2 {c:aq} {F:List (ByteArray×Int)} {L:List aG} {q:aG} (h:ng c F L) (hq:VS c q.state) (hl:L.length≤1500) :
  (bif ((zl (txt q) F).isSome) then some (.inl (((zl (txt q) F).getD 0),L,F)) else (bif ((L.length:Int) == 1500) then some (.inr ()) else (ui (zO (α:=aG) 88 L [q]) fun e2=>some (.inl ((L.length:Int),e2,(zJ (txt q) (L.length:Int) F)))))) =
   some (match visit L q with | some (to,L')=>(.inl (to,L',By L F q):(Int×(List aG)×(List (ByteArray×Int))) ⊕ Unit) | none=>.inr ()):=by
 rw [h q hq]
 unfold QR visit By
 by_cases hm:q∈L
 ·simp only [hm,if_true,Ua,cond_true,uu]
 ·simp only [hm,if_false,Ub,cy]
  by_cases h2:L.length=1500
  ·have:((L.length:Int) == 1500)=true:=beq_iff_eq.2 (by omega)
   simp only [h2,if_true];rfl
  ·have:((L.length:Int) == 1500)=false:=beq_eq_false_iff_ne.2 (by omega)
   simp only [h2,if_false,this,cy]
   rw [yq (by simp;omega)];rfl
noncomputable def xn (c:aq) (e:aG):List Int→List aG×List bk→Option (List aG×List bk)
 | [],s=>some s
 | m::ms,(L,K)=>match visit L (target c e m) with
  | none=>none
  | some (to,L')=>xn c e ms (L',K++[{step:=m,to:=to}])
theorem Qv (c:aq) (e:aG):∀ (a b:List Int) (s:List aG×List bk),xn c e (a++b) s=(xn c e a s).bind (xn c e b)
 | [],b,s=>rfl
 | m::a,b,(L,K)=>by
  simp only [Uf,xn]
  cases visit L (target c e m) with
  | none=>rfl
  | some x=>exact Qv c e a b _
def Vl:Nat→List bk→Option Nat
 | n,[]=>some n
 | n,t::r=>if 0≤t.to∧t.to≤(n:Int) then Vl (if t.to=(n:Int) then n+1 else n) r else none
def kC:Nat→Nat→List (List bk)→Option Nat
 | i,n,[]=>some n
 | i,n,l::r=>if i < n then (Vl n l).bind fun n'=>kC (i+1) n' r else none
theorem WV (l:List bk):∀ (M:List (List bk)) (i n:Nat),kC i n (M++[l])=(kC i n M).bind fun n'=>if i+M.length < n' then Vl n' l else none
 | [],i,n=>by
  simp only [uO,kC,bf,u0,Nat.add_zero]
  split
  ·cases Vl n l<;>rfl
  ·rfl
 | x::M,i,n=>by
  simp only [Uf,kC,uA]
  split
  ·cases Vl n x with
   | none=>rfl
   | some n'=>
    simp only [bf]
    rw [WV l M (i+1) n',show i+1+M.length=i+(M.length+1) by omega]
  ·rfl
inductive lz (c:aq) (aj:Int) (p0:aG):aG→Prop where
 | base:lz c aj p0 p0
 | step {q:aG} {m:Int} (h:lz c aj p0 q) (hm:m∈zq c aj q):lz c aj p0 (target c q m)
theorem vD {c:aq} (hc:c.Ok) {aj:Int} {e:aG} {m:Int} (he:VS c e.state) (hm:m∈zq c aj e):VS c (target c e m).state:=by
 unfold target
 by_cases h2:m = -2
 ·rw [if_pos h2];exact he
 ·rw [if_neg h2]
  rcases qh.1 hm with h | ⟨hd,_,rfl⟩ | ⟨hd,i,hi,_,rfl⟩
  ·exact absurd h.2 h2
  ·exact (jg hc he (by omega) (by omega) hd).2.1
  ·exact (jg hc he (by omega) (by omega) hd).2.1
structure gC (c:aq) (aj:Int) (p0:aG) (L:List aG):Prop where
 vs:∀ q∈L,VS c q.state
 nd:L.Nodup
 pU:∀ q∈L,lz c aj p0 q
 len:L.length≤1500
theorem Lz {c:aq} {aj:Int} {p0 q:aG} {L L':List aG} {to:Int} (h:gC c aj p0 L) (hq:VS c q.state) (hr:lz c aj p0 q) (hv:visit L q=some (to,L')) :
  gC c aj p0 L'∧(∃ r,L'=L++r)∧0≤to∧L'[to.toNat]?=some q∧to≤(L.length:Int)∧L'.length=(if to=(L.length:Int) then L.length+1 else L.length):=by
 unfold visit at hv
 by_cases hm:q∈L
 ·rw [if_pos hm] at hv;cases hv
  have hi:=List.idxOf_lt_length_iff.2 hm
  refine ⟨h,⟨[],by simp⟩,by omega,?_,by omega,by rw [if_neg (by omega)]⟩
  rw [um,ua hi,List.getElem_idxOf hi]
 ·rw [if_neg hm] at hv
  split at hv
  ·cases hv
  ·rename_i hl
   cases hv
   have hlen:=h.len
   refine ⟨⟨fun x hx => ?_,?_,fun x hx => ?_,by simp;omega⟩,⟨[q],rfl⟩,by omega,by simp,Int.le_refl _,by simp⟩
   ·rcases ut.1 hx with hx | hx
    ·exact h.vs x hx
    ·rw [uj.1 hx];exact hq
   ·exact List.nodup_append.2 ⟨h.nd,by simp,fun a ha b hb=>by rw [uj.1 hb];exact fun e=>hm (e ▸ ha)⟩
   ·rcases ut.1 hx with hx | hx
    ·exact h.pU x hx
    ·rw [uj.1 hx];exact hr
theorem zhq {L:List aG} {q:aG} (hv:visit L q=none):q ∉ L:=by
 unfold visit at hv
 split at hv
 ·cases hv
 ·assumption
theorem zfi {L:List aG} {q:aG} (hv:visit L q=none):L.length=1500:=by
 unfold visit at hv
 split at hv
 ·cases hv
 ·split at hv
  ·rename_i h;exact h
  ·cases hv
def mg (c:aq) (aj:Int) (L:List aG) (e:aG) (ms:List Int) (T:List bk):Prop:=T.map (·.step)=ms∧∀ t∈T,0≤t.to∧L[t.to.toNat]?=some (target c e t.step)
theorem Wu {α:Type} {L r:List α} {i:Nat} {x:α} (h:L[i]?=some x):(L++r)[i]?=some x:=by
 rw [uv (ub.1 h).1];exact h
theorem mg.app {c:aq} {aj:Int} {L:List aG} {e:aG} {ms:List Int} {T:List bk} (h:mg c aj L e ms T) (r:List aG):mg c aj (L++r) e ms T:=
 ⟨h.1,fun t ht=>⟨(h.2 t ht).1,Wu (h.2 t ht).2⟩⟩
theorem Vm {c:aq} (hc:c.Ok) {aj:Int} {p0 e:aG} (he:VS c e.state) (hr:lz c aj p0 e):∀ (ms:List Int) (L L':List aG) (K K':List bk),(∀ m∈ms,m∈zq c aj e)→gC c aj p0 L→xn c e ms (L,K)=some (L',K') →
  gC c aj p0 L'∧(∃ r,L'=L++r)∧∃ T,K'=K++T∧mg c aj L' e ms T∧Vl L.length T=some L'.length
 | [],L,L',K,K',_,h,hp=>by
  cases hp
  exact ⟨h,⟨[],by simp⟩,[],by simp,⟨rfl,fun t ht=>by cases ht⟩,rfl⟩
 | m::ms,L,L',K,K',nL,h,hp=>by
  simp only [xn] at hp
  have hm:=nL m uo
  cases hv:visit L (target c e m) with
  | none=>rw [hv] at hp;cases hp
  | some x=>
   obtain ⟨to,L1⟩:=x
   rw [hv] at hp
   obtain ⟨h1,⟨r1,e1⟩,t0,tq,tl,tn⟩:=Lz h (vD hc he hm) (.step hr hm) hv
   obtain ⟨h2,⟨r2,e2⟩,T,eT,hT,EF⟩:=Vm hc he hr ms L1 L' _ K' (fun x hx=>nL x (ur _ hx)) h1 hp
   refine ⟨h2,⟨r1++r2,by rw [e2,e1,uh]⟩,{step:=m,to:=to}::T,by rw [eT];simp,⟨by simp [hT.1],fun t ht => ?_⟩,?_⟩
   ·rcases Un.1 ht with rfl | ht
    ·exact ⟨t0,by rw [e2];exact Wu tq⟩
    ·exact hT.2 t ht
   ·simp only [Vl]
    rw [if_pos ⟨t0,tl⟩,←tn];exact EF
theorem LA {c:aq} (hc:c.Ok) {aj:Int} {p0 e:aG} (he:VS c e.state) (hr:lz c aj p0 e):∀ (ms:List Int) (L:List aG) (K:List bk),(∀ m∈ms,m∈zq c aj e)→gC c aj p0 L→xn c e ms (L,K)=none →
  ∃ L1,gC c aj p0 L1∧L1.length=1500∧∃ q,lz c aj p0 q∧q ∉ L1
 | [],L,K,_,h,hp=>by cases hp
 | m::ms,L,K,nL,h,hp=>by
  simp only [xn] at hp
  have hm:=nL m uo
  cases hv:visit L (target c e m) with
  | none=>exact ⟨L,h,zfi hv,_,.step hr hm,zhq hv⟩
  | some x=>
   obtain ⟨to,L1⟩:=x
   rw [hv] at hp
   obtain ⟨h1,_⟩:=Lz h (vD hc he hm) (.step hr hm) hv
   exact LA hc he hr ms L1 _ (fun x hx=>nL x (ur _ hx)) h1 hp
abbrev XT:Type:=(List aG)×(List (ByteArray×Int))×(List bk)
def gb (c:aq) (aj:Int) (p0 e:aG) (L0:List aG) (ms:List Int) (x:XT):Prop:=xn c e ms (L0,[])=some (x.1,x.2.2)∧ng c x.2.1 x.1
theorem LB {c:aq} (hc:c.Ok) {aj:Int} {e:aG} (he:VS c e.state):(zq c aj e).length≤62:=by
 have sm:=qy (hc.off.lt (by omega)) he.cv
 have sa:=sm.aC
 have:=I8 c aj e c.aC.length
 unfold zq
 cases e.own<;>cases decide (c.bh≤e.state.day)<;>simp<;>omega
theorem gb.facts {c:aq} (hc:c.Ok) {aj:Int} {p0 e:aG} {L0:List aG} {ms:List Int} {x:XT} (he:VS c e.state) (hr:lz c aj p0 e) (hP:gC c aj p0 L0) (nL:∀ m∈ms,m∈zq c aj e) (h:gb c aj p0 e L0 ms x) :
  gC c aj p0 x.1∧x.2.2.length=ms.length:=by
 obtain ⟨h1,_,T,eT,hT,_⟩:=Vm hc he hr ms L0 x.1 [] x.2.2 nL hP h.1
 refine ⟨h1,?_⟩
 rw [eT,uO,←hT.1,uC]
theorem Vn {c:aq} (hc:c.Ok) {aj:Int} {p0 e:aG} {L0:List aG} {ms:List Int} {m:Int} {L:List aG} {F:List (ByteArray×Int)} {K:List bk} {q:aG} (he:VS c e.state) (hr:lz c aj p0 e) (hP:gC c aj p0 L0) (nL:∀ x∈ms,x∈zq c aj e) (hm:m∈zq c aj e) (hlen:ms.length≤100)
  (hq:q=target c e m) (h:gb c aj p0 e L0 ms (L,F,K)) {β:Type} {k:Int×(List aG)×(List (ByteArray×Int))→Option β} {z:Option β} {Q:β→Prop}
  (hk:∀ (to:Int) (L':List aG) (F':List (ByteArray×Int)),gb c aj p0 e L0 (ms++[m]) (L',F',K++[{step:=m,to:=to}])→zO (α:=bk) 16 K [({step:=m,to:=to}:bk)]=some (K++[{step:=m,to:=to}])→ay (k (to,L',F')) Q)
  (hz:xn c e (ms++[m]) (L0,[])=none→ay z Q) :
  ay (ui (xj q) fun r=>(ui (α:=(Int×(List aG)×(List (ByteArray×Int))) ⊕ Unit) (bif ((zl r F).isSome) then some (.inl (((zl r F).getD 0),L,F)) else (bif ((L.length:Int) == 1500) then some (.inr ()) else (ui (zO (α:=aG) 88 L [q]) fun e2=>some (.inl ((L.length:Int),e2,(zJ r (L.length:Int) F)))))) (Sum.elim k (fun _=>z)))) Q:=by
 obtain ⟨hPI,LC⟩:=h.facts hc he hr hP nL
 have EG:VS c q.state:=by rw [hq];exact vD hc he hm
 refine ay.ax (Ly hc EG) ?_
 refine ay.ax (zi2 h.2 EG hPI.len) ?_
 have pV:xn c e (ms++[m]) (L0,[])=(match visit L q with | none=>none | some (to,L')=>some (L',K++[{step:=m,to:=to}])):=by
  rw [Qv,h.1]
  simp only [bf,xn,hq]
  all_goals (cases visit L (target c e m)<;>rfl)
 cases hv:visit L q with
 | none=>
  rw [hv] at pV
  exact hz pV
 | some x=>
  obtain ⟨to,L'⟩:=x
  rw [hv] at pV
  refine hk to L' (By L F q) ⟨pV,ng.visit h.2 EG hv⟩ (yq ?_)
  simp only at LC
  rw [LC];simp;omega
theorem YG (c:aq) (aj:Int) (p:aG) {m n:Nat} (h:m≤n):∃ r,jk c aj p n=jk c aj p m++r:=by
 induction h with
 | refl=>exact ⟨[],by simp⟩
 | step _ ih=>
  obtain ⟨r,hr⟩:=ih
  rw [kX,hr]
  exact ⟨_,uh _ _ _⟩
theorem kJ {c:aq} {e:aG} {a b:List Int} {s:List aG×List bk} (h:xn c e a s=none):xn c e (a++b) s=none:=by rw [Qv,h];rfl
structure fu (c:aq) (aj:Int) (p:aG) (L:List aG) (M:List (List bk)):Prop where
 inv:gC c aj p L
 first:L[0]?=some p
 len:M.length=L.length
 mv:∀ (j:Nat) (T:List bk) (e:aG),M[j]?=some T→L[j]?=some e→mg c aj L e (zq c aj e) T
 lF:kC 0 1 M=some L.length
def Vo (c:aq) (aj:Int) (p:aG):Prop:=∃ L1,gC c aj p L1∧L1.length=1500∧∃ q,lz c aj p q∧q ∉ L1
structure EH (c:aq) (aj:Int) (p:aG) (s:Int×(List aG)×(List (List bk))×(List (ByteArray×Int))):Prop where
 i:s.1=(s.2.2.1.length:Int)
 le:s.2.2.1.length≤s.2.1.length
 inv:gC c aj p s.2.1
 rel:ng c s.2.2.2 s.2.1
 first:s.2.1[0]?=some p
 mv:∀ (j:Nat) (T:List bk) (e:aG),s.2.2.1[j]?=some T→s.2.1[j]?=some e→mg c aj s.2.1 e (zq c aj e) T
 lF:kC 0 1 s.2.2.1=some s.2.1.length
theorem Vp {c:aq} (hc:c.Ok) {aj:Int} {p:aG} (ec:xG c aj p.state=true) :
  ay (jT c aj p) (fun r=>(r.2=0∧r.1.aj=aj∧fu c aj p r.1.aY r.1.bg)∨(r.2=3∧Vo c aj p)):=by
 obtain ⟨rK,mi,hv⟩:=jK.1 ec
 have sm:=qy (hc.off.lt (by omega)) hv.cv
 have sa:=sm.aC
 unfold jT
 refine ay.ax (by rw [zfe hc,ec]) ?_
 refine ay.ite (fun _ => ?_) (fun h=>by cases h)
 refine ay.ax (I7 hc hv) ?_
 refine ay.ax (Ly hc hv) ?_
 refine ay.bind (P:=fun o:((List aG)×(List (List bk))) ⊕ Unit=>(∃ L M,o=.inl (L,M)∧fu c aj p L M)∨(o=.inr ()∧Vo c aj p)) ?_ ?_
 ·refine ay.bind (P:=fun o:((List aG)×(List (List bk))) ⊕ Unit=>(∃ L M,o=.inl (L,M)∧fu c aj p L M)∨(o=.inr ()∧Vo c aj p)) (ay.iter (EH c aj p) (fun s=>(1501 - s.1).toNat) ?_ ?_) ?_
  ·refine ⟨rfl,by simp,⟨fun q hq => ?_,by simp,fun q hq => ?_,by simp⟩,?_,rfl,fun j T e h=>by simp at h,rfl⟩
   ·rw [uj.1 hq];exact hv
   ·rw [uj.1 hq];exact .base
   ·intro q hq
    simp only [zJ,zl,QR,uj]
    by_cases e:q={state:=p.state,own:=p.own}
    ·subst e
     simp [List.idxOf_cons,txt]
    ·have e2:txt q≠txt p:=fun h=>e (Lx hq hv h)
     rw [if_neg e2,if_neg e]
  ·rintro ⟨i,L,M,F⟩ ⟨hi,hle,hinv,hrel,tu,Ad,iy⟩
   simp only at hi hle hinv hrel tu Ad iy ⊢
   subst hi
   have hlen:=hinv.len
   refine ay.ite (fun hlt => ?_) (fun hge => ?_)
   ·have hlt:=of_decide_eq_true hlt
    have EI:M.length < L.length:=by omega
    have heq:=ua EI
    have hme:=uc EI
    have he:=hinv.vs _ hme
    have hr:=hinv.pU _ hme
    generalize L[M.length]=e at heq he hr
    have LD:=LB hc (aj:=aj) he
    refine ay.bind (P:=fun o:XT ⊕ Unit=>(∃ x,o=.inl x∧gb c aj p e L (zq c aj e) x)∨(o=.inr ()∧xn c e (zq c aj e) (L,[])=none)) ?_ ?_
    ·refine ay.ax (zB heq) ?_
     refine ay.ax (x:=Yp c aj e) (v:=()) rfl ?_
     refine ay.bind (P:=fun o:XT ⊕ (Unit ⊕ XT)=>(∃ x,o=.inl x∧e.state.day < c.bh∧gb c aj p e L (bif e.own then [-2] else []) x)∨(o=.inr (.inl ())∧xn c e (bif e.own then [-2] else []) (L,[])=none)∨(∃ x,o=.inr (.inr x)∧c.bh≤e.state.day∧gb c aj p e L (bif e.own then [-2] else []) x)) ?_ ?_
     ·have hbase:gb c aj p e L [] (L,F,[]):=⟨rfl,hrel⟩
      cases ho:e.own with
      | false=>
       simp only [cy]
       refine ay.ite (fun hd=>ay.some (.inr (.inr ⟨_,rfl,of_decide_eq_true hd,hbase⟩))) (fun hd=>ay.some (.inl ⟨_,rfl,by have:=of_decide_eq_false hd;omega,hbase⟩))
      | true=>
       simp only [cond_true]
       refine ay.ax (I7 hc he) ?_
       have hm2:(-2:Int)∈zq c aj e:=qh.2 (.inl ⟨ho,rfl⟩)
       refine Vn hc he hr hinv (fun x hx=>by cases hx) hm2 (by simp) (by unfold target;rw [if_pos rfl]) hbase (fun to L' F' hg ha => ?_) (fun hz=>ay.some (.inr (.inl ⟨rfl,hz⟩)))
       refine ay.ax ha ?_
       refine ay.ite (fun hd=>ay.some (.inr (.inr ⟨_,rfl,of_decide_eq_true hd,hg⟩))) (fun hd=>ay.some (.inl ⟨_,rfl,by have:=of_decide_eq_false hd;omega,hg⟩))
     ·rintro o (⟨⟨L1,F1,K1⟩,rfl,hd,hg⟩ | ⟨rfl,hn⟩ | ⟨⟨L1,F1,K1⟩,rfl,hd,hg⟩)
      ·
       have pW:zq c aj e=(bif e.own then [-2] else [-1])++jk c aj e c.aC.length:=by
        unfold zq
        rw [decide_eq_false (show ¬ c.bh≤e.state.day by omega)]
        cases e.own<;>rfl
       refine ay.bind (P:=fun o:XT ⊕ Unit=>(∃ x,o=.inl x∧gb c aj p e L (bif e.own then [-2] else [-1]) x)∨(o=.inr ()∧xn c e (bif e.own then [-2] else [-1]) (L,[])=none)) ?_ ?_
       ·cases ho:e.own with
        | true=>rw [ho] at hg;exact ay.some (.inl ⟨_,rfl,hg⟩)
        | false=>
         rw [ho] at hg
         simp only [cy] at hg ⊢
         obtain ⟨EJ,_⟩:=jg (a := -1) hc he (by omega) (by omega) hd
         refine ay.ax EJ ?_
         have hm1:(-1:Int)∈zq c aj e:=qh.2 (.inr (.inl ⟨hd,ho,rfl⟩))
         refine Vn hc he hr hinv (fun x hx=>by cases hx) hm1 (by simp) (by unfold target;rw [if_neg (by omega)]) hg (fun to L' F' hg ha => ?_) (fun hz=>ay.some (.inr ⟨rfl,hz⟩))
         refine ay.ax ha ?_
         exact ay.some (.inl ⟨_,rfl,hg⟩)
       ·rintro o (⟨⟨L2,F2,K2⟩,rfl,fw⟩ | ⟨rfl,hn⟩)
        ·
         refine ay.bind (P:=fun o:XT ⊕ XT=>(∃ x,o=.inl x∧gb c aj p e L (zq c aj e) x)∨(∃ x,o=.inr x∧xn c e (zq c aj e) (L,[])=none)) ?_ ?_
         ·have hsub:∀ i,i≤c.aC.length→∀ x∈(bif e.own then [-2] else [-1])++jk c aj e i,x∈zq c aj e:=by
           intro i hi x hx
           rw [pW]
           obtain ⟨r,hr'⟩:=YG c aj e hi
           rw [hr']
           rcases ut.1 hx with h | h
           ·exact ut.2 (.inl h)
           ·exact ut.2 (.inr (ut.2 (.inl h)))
          refine ay.eE (n:=c.aC.length) (fun i s=>gb c aj p e L ((bif e.own then [-2] else [-1])++jk c aj e i) s) (by omega) ?_ ?_ (fun s hs=>.inl ⟨s,rfl,by rw [pW];exact hs⟩)
          ·show gb c aj p e L ((bif e.own then [-2] else [-1])++jk c aj e 0) (L2,F2,K2)
           have:jk c aj e 0=[]:=rfl
           rw [this,uN];exact fw
          ·rintro i ⟨L3,F3,K3⟩ hi EK
           simp only
           have hx:=ua hi
           have av:=Ep hv.cv hx
           have tv:mY c aj e i=(((xF e.state.aF c.aC[i] == aj) == e.own) && !wZ (ql c e.state i) e.state):=by simp only [mY,hx]
           have LF:=I8 c aj e i
           refine ay.bind (P:=fun o:XT ⊕ Unit=>(∃ x,o=.inl x∧gb c aj p e L ((bif e.own then [-2] else [-1])++jk c aj e (i+1)) x)∨(o=.inr ()∧xn c e ((bif e.own then [-2] else [-1])++jk c aj e (i+1)) (L,[])=none)) ?_ ?_
           ·refine ay.ax (zB hx) ?_
            refine ay.ax (ziV he av) ?_
            refine ay.ite (fun hq => ?_) (fun hq => ?_)
            ·obtain ⟨EJ,hvs,_⟩:=jg (a:=(i:Int)) hc he (by omega) (by omega) hd
             have hfew:=hvs.Bw hc
             refine ay.ax EJ ?_
             refine ay.ax (zkF (ql c e.state i) e.state (by omega) (by omega) (by omega)) ?_
             refine ay.ite (fun hs=>ay.some (.inl ⟨_,rfl,?_⟩)) (fun hs => ?_)
             ·rw [kX,tv,hq,hs]
              simpa using EK
             ·have hb:mY c aj e i=true:=by rw [tv,hq,hs];rfl
              have hmi:(i:Int)∈zq c aj e:=qh.2 (.inr (.inr ⟨hd,i,hi,hb,rfl⟩))
              have hact:jk c aj e (i+1)=jk c aj e i++[(i:Int)]:=by rw [kX,hb];rfl
              rw [hact,←uh]
              refine Vn hc he hr hinv (hsub i (by omega)) hmi (by cases e.own<;>simp<;>omega) (by unfold target;rw [if_neg (by omega)]) EK (fun to L' F' hg ha => ?_) (fun hz=>ay.some (.inr ⟨rfl,hz⟩))
              refine ay.ax ha ?_
              exact ay.some (.inl ⟨_,rfl,hg⟩)
            ·refine ay.some (.inl ⟨_,rfl,?_⟩)
             rw [kX,tv,hq]
             simpa using EK
           ·rintro o (⟨x,rfl,Cv⟩ | ⟨rfl,hn⟩)
            ·exact ay.some Cv
            ·refine ay.some (.inr ⟨_,rfl,?_⟩)
             rw [pW]
             obtain ⟨r,hr'⟩:=YG c aj e (show i+1≤c.aC.length by omega)
             rw [hr',←uh]
             exact kJ hn
         ·rintro o (⟨x,rfl,Cv⟩ | ⟨x,rfl,hn⟩)
          ·exact ay.some (.inl ⟨_,rfl,Cv⟩)
          ·exact ay.some (.inr ⟨rfl,hn⟩)
        ·refine ay.some (.inr ⟨rfl,?_⟩)
         rw [pW];exact kJ hn
      ·refine ay.some (.inr ⟨rfl,?_⟩)
       unfold zq;exact kJ hn
      ·refine ay.some (.inl ⟨_,rfl,?_⟩)
       have:zq c aj e=(bif e.own then [-2] else []):=by
        unfold zq
        rw [decide_eq_true hd]
        simp
       rw [this];exact hg
    ·rintro o (⟨⟨L',F',K'⟩,rfl,hg⟩ | ⟨rfl,hn⟩)
     ·obtain ⟨h1,⟨r1,e1⟩,T,eT,hT,EF⟩:=Vm hc he hr (zq c aj e) L L' [] K' (fun m hm=>hm) hinv hg.1
      simp only [uO] at eT
      subst eT
      simp only [uk]
      refine ay.ax (yq (by simp;omega)) ?_
      rw [qf (by omega) (by omega)]
      refine ay.some ⟨⟨by simp,?_,h1,hg.2,by show L'[0]?=some p;rw [e1];exact Wu tu,?_,?_⟩,?_⟩
      ·show (M++[K']).length≤L'.length
       rw [e1];simp;omega
      ·show ∀ (j:Nat) (T:List bk) (e:aG),(M++[K'])[j]?=some T→L'[j]?=some e→mg c aj L' e (zq c aj e) T
       intro j T e' hj he'
       by_cases s9:j < M.length
       ·rw [uv s9] at hj
        have hjL:L[j]?=some e':=by
         rw [e1,uv (by omega)] at he';exact he'
        rw [e1]
        exact (Ad j T e' hj hjL).app r1
       ·have hj2:j=M.length:=by
         have:=(ub.1 hj).1
         simp at this;omega
        subst hj2
        rw [uQ (Ug _)] at hj
        simp at hj
        subst hj
        have:L'[M.length]?=some e:=by rw [e1];exact Wu heq
        rw [this] at he';cases he'
        exact hT
      ·show kC 0 1 (M++[K'])=some L'.length
       rw [WV,iy]
       simp only [bf,Nat.zero_add]
       rw [if_pos EI];exact EF
      ·show (1501 - ((M.length:Int)+1)).toNat < (1501 - (M.length:Int)).toNat
       omega
     ·obtain ⟨L1,h1,h2⟩:=LA hc he hr (zq c aj e) L [] (fun m hm=>hm) hinv hn
      exact ay.some (.inr ⟨rfl,L1,h1,h2⟩)
   ·have hge:=of_decide_eq_false hge
    exact ay.some (.inl ⟨L,M,rfl,hinv,tu,by omega,Ad,iy⟩)
  ·rintro o (⟨L,M,rfl,h⟩ | ⟨rfl,h⟩)
   ·exact ay.some (.inl ⟨L,M,rfl,h⟩)
   ·exact ay.some (.inr ⟨rfl,h⟩)
 ·rintro o (⟨L,M,rfl,h⟩ | ⟨rfl,h⟩)
  ·exact ay.some (.inl ⟨rfl,rfl,h⟩)
  ·exact ay.some (.inr ⟨rfl,h⟩)
def Qj (k:aK) (m:ak):ak:=bif k.br then {aR:=5,left:=0,got:=0,bC := -1,bR:=false} else {aR:=0,left:=0,got:=0,bC := -1,bR:=false}
def Qk:ak:={aR:=0,left:=0,got:=0,bC:=0,bR:=false}
def qM (c:aq):List ak:=(ul c.zw.length Qk).mapIdx (eW c Qj)
theorem zfj {c:aq} (hc:c.Ok) (hv:(zF c).1=0):ay (jO c) (fun r=>r.2=0∧VS c r.1∧r.1.day=0∧r.1.aF=c.aF∧r.1.used=ul c.aC.length false∧cx c c.aF (qM c) r.1.aO):=by
 have ho:=hc.off.lt (by omega:0 < 8)
 have sm:=qy ho hv
 have s1:=sm.aF
 have s2:=sm.aC
 have s3:=sm.zw
 have s4:=sm.aT
 have s5:=sm.bh
 unfold jO
 refine ay.ax hc.valid ?_
 refine ay.ite (fun _ => ?_) (fun h=>absurd hv (beq_eq_false_iff_ne.1 h))
 refine ay.ax (jv (by omega)) ?_
 refine ay.ax (XK (show c.aC.length < 1000 by omega) (by omega)) ?_
 refine ay.ax (XK (show c.zw.length < 1000 by omega) (by omega)) ?_
 have ox:lf c ((ul c.zw.length Qk).mapIdx (eW c Qj)):=by
  refine ⟨by simp,fun i k m hk hm => ?_⟩
  rw [uL] at hm
  obtain ⟨m0,_,rfl⟩:=uH.1 hm
  simp only [eW,hk,Qj]
  have e4:decide (-1 < c.aT)=true:=decide_eq_true (by omega)
  cases hw:k.br with
  | true=>
   show q9 c.aT k {aR:=5,left:=0,got:=0,bC := -1,bR:=false}=true
   refine wq.2 (.inr (.inr (.inr ⟨.inr (.inr rfl),?_⟩)))
   show ((0:Int) == 0&&(decide ((0:Int)≤0)&&(decide ((0:Int)≤9)&&(decide ((-1:Int) ≤ -1)&&(decide (-1 < c.aT) && !false)))))=true
   rw [e4];rfl
  | false=>exact wq.2 (.inl ⟨rfl,hw,rfl⟩)
 refine ay.bind (P:=fun o:List ak ⊕ Unit=>o=.inl ((ul c.zw.length Qk).mapIdx (eW c Qj))) ?_ ?_
 ·refine ay.of ?_
  have hl:(c.zw.length:Int)=((ul c.zw.length Qk).length:Int):=by simp
  show aE (c.zw.length:Int) _ (ul c.zw.length Qk)=_
  conv=>lhs;arg 1;rw [hl]
  refine wO (ul c.zw.length Qk) (eW c Qj) (by simp;omega) ?_
  intro i m s h1 h2 h3
  have hi:i < c.zw.length:=by simpa using (ub.1 h1).1
  have hk:=ua hi
  simp only [zB hk,bf,zM hi,h3,vA h3,eW,hk,Qj,Uo]
  cases c.zw[i].br<;>rfl
 ·rintro o rfl
  simp only [uk]
  have hs:=XJ c 0 c.aF (ul c.aC.length false) _ ho hv rfl (IX hv) ox
  unfold ya at hs
  rw [List.length_replicate,show ((ul c.zw.length Qk).mapIdx (eW c Qj)).length=c.zw.length by simp] at hs
  refine ay.bind hs fun r hr => ?_
  refine ay.ax (wp (by simp)) ?_
  refine ay.ax (wp hr.ok.1.symm) ?_
  refine ay.some ⟨rfl,⟨hv,⟨by show (0:Int)≤0;omega,by show (0:Int)≤c.bh;omega⟩,rfl,by simp,hr.ok.1,IX hv,?_,hr.ok.2,hr.nr⟩,rfl,rfl,rfl,hr⟩
  intro i a _ hu
  simp only [List.getElem?_replicate] at hu
  split at hu
  ·cases hu
  ·cases hu
theorem ZK {α:Type} [BEq α] [LawfulBEq α]:∀ {L1 L2:List α},L1.Nodup→(∀ x∈L1,x∈L2)→L1.length≤L2.length
 | [],L2,_,_=>by simp
 | a::l,L2,h,hs=>by
  obtain ⟨ha,hl⟩:=uM.1 h
  have hm:=hs a uo
  have ih:=ZK (L1:=l) (L2:=L2.erase a) hl fun x hx=>(List.mem_erase_of_ne (by rintro rfl;exact ha hx)).2 (hs x (ur _ hx))
  rw [List.length_erase_of_mem hm] at ih
  have:0 < L2.length:=List.length_pos_of_mem hm
  simp only [uA];omega
theorem fu.closed {c:aq} {aj:Int} {p:aG} {L:List aG} {M:List (List bk)} (F:fu c aj p L M) {q:aG} (hq:q∈L) {m:Int} (hm:m∈zq c aj q):target c q m∈L:=by
 obtain ⟨j,hj,e⟩:=ug hq
 have hjM:j < M.length:=by rw [F.len];exact hj
 have h:=F.mv j M[j] q (ua hjM) (by rw [ua hj,e])
 rw [←h.1] at hm
 obtain ⟨t,ht,rfl⟩:=uX.1 hm
 exact uq (h.2 t ht).2
theorem fu.pU {c:aq} {aj:Int} {p:aG} {L:List aG} {M:List (List bk)} (F:fu c aj p L M) {q x:aG} (hq:q∈L) (h:lz c aj q x):x∈L:=by
 induction h with
 | base=>exact hq
 | step _ hm ih=>exact F.closed ih hm
section
def at_ (l:List Int) (i:Nat):Int:=l[i]?.getD 0
theorem yb {l:List Int} {i:Nat} (h:i < l.length):l[i]?=some (at_ l i):=by unfold at_;rw [ua h];rfl
theorem ZL {l:List Int} {i:Nat} (h:i < l.length) (x:Int):at_ (l.set i x)=upd (at_ l) i x:=by
 funext j
 unfold at_ upd
 by_cases e:j=i
 ·subst e;rw [if_pos rfl,uI h];rfl
 ·rw [if_neg e,u6 (Ne.symm e)]
def cst (l:List Nat):List Int:=l.map fun x:Nat=>(x:Int)
theorem Zn (l:List Nat):(cst l).length=l.length:=uC _
theorem Wv (l m:List Nat):cst (l++m)=cst l++cst m:=uZ
def Kp (c:aq) (aj:Int) (aO:List ak) (i:Nat):Bool:=match c.zw[i]?,aO[i]? with
 | some k,some m=>k.final&&((m.aR == 4)&&(m.bC == aj))
 | _,_=>false
def q5 (c:aq) (s:aH) (aj:Int):Bool := !((uD s.aO.length).all fun i=>!Kp c aj s.aO i)
theorem zhr (c:aq) (s:aH) (aj:Int) (hl:s.aO.length=c.zw.length) (hs:s.aO.length < 4611686018427387904) :
  (aE (σ:=Unit) (ρ:=Unit) (s.aO.length:Int) (fun i1 s1=>(ui (ze s.aO (i1:Int)) fun e1=>(ui (ui (ze c.zw (i1:Int)) fun e2=>(bif e2.final then (bif (e1.aR == 4) then some (e1.bC == aj) else some false) else some false)) fun v1=>(bif v1 then some (.inr ()) else some (.inl ()))))) ()) =
   some (bif q5 c s aj then .inr () else .inl ()):=by
 rw [Qe (fun i=>!Kp c aj s.aO i) hs (fun j hj=>by
  have hk:j < c.zw.length:=by omega
  simp only [zH,ua hj,ua hk,bf,Kp]
  cases (c.zw[j].final)<;>cases (s.aO[j].aR == 4)<;>cases (s.aO[j].bC == aj)<;>rfl)]
 unfold q5
 cases ((uD s.aO.length).all fun i=>!Kp c aj s.aO i)<;>rfl
theorem zmS {c:aq} (hc:c.Ok) {s:aH} (hv:VS c s) (aj:Int):Xs c s aj=some (q5 c s aj):=by
 have:=(hv.Bw hc).2.2
 unfold Xs
 rw [zhr c s aj hv.lm (by omega)]
 cases q5 c s aj<;>rfl
def gm (c:aq) (a:b9):Gm where
 n:=a.aY.length
 own i:=match a.aY[i]? with | some q=>q.own | none=>false
 lost i:=match a.aY[i]? with | some q=>q5 c q.state a.aj | none=>false
 succ i:=match a.bg[i]? with | some T=>T.map fun m=>m.to.toNat | none=>[]
structure bY (c:aq) (aj:Int) (p:aG) (a:b9):Prop where
 p0:0≤aj
 p1:aj < c.aT
 pa:a.aj=aj
 F:fu c aj p a.aY a.bg
section
variable {c:aq} {aj:Int} {p:aG} {a:b9}
theorem bY.mv (A:bY c aj p a) {i:Nat} (hi:i < a.aY.length):∃ T,a.bg[i]?=some T∧mg c aj a.aY a.aY[i] (zq c aj a.aY[i]) T:=by
 have h:i < a.bg.length:=by rw [A.F.len];exact hi
 exact ⟨a.bg[i],ua h,A.F.mv i _ _ (ua h) (ua hi)⟩
theorem bY.succ (A:bY c aj p a) {i:Nat} (hi:i < a.aY.length) {T:List bk} (hT:a.bg[i]?=some T):(gm c a).succ i=T.map fun m=>m.to.toNat:=by
 simp only [gm,hT]
theorem bY.to (A:bY c aj p a) {i:Nat} (hi:i < a.aY.length) {T:List bk} (hT:a.bg[i]?=some T) {m:bk} (hm:m∈T):0≤m.to∧m.to < a.aY.length:=by
 obtain ⟨T',h1,_,h3⟩:=A.mv hi
 rw [hT] at h1;cases h1
 obtain ⟨h4,h5⟩:=h3 m hm
 have:=(ub.1 h5).1
 omega
theorem bY.len (hc:c.Ok) (A:bY c aj p a) {i:Nat} (hi:i < a.aY.length) {T:List bk} (hT:a.bg[i]?=some T):T.length≤62:=by
 obtain ⟨T',h1,h2,_⟩:=A.mv hi
 rw [hT] at h1;cases h1
 have:=LB hc (aj:=aj) (A.F.inv.vs _ (uc hi))
 rw [←uC (f:=fun x:bk=>x.step),h2];exact this
theorem bY.closed (A:bY c aj p a):∀ i,i < (gm c a).n→∀ t∈(gm c a).succ i,t < (gm c a).n:=fun i hi t ht=>by
 obtain ⟨T,h1,_⟩:=A.mv hi
 rw [A.succ hi h1] at ht
 obtain ⟨m,hm,rfl⟩:=uX.1 ht
 have:=A.to hi h1 hm
 show m.to.toNat < a.aY.length
 omega
theorem bY.EL (hc:c.Ok) (A:bY c aj p a) (i:Nat) (hi:i < (gm c a).n):((gm c a).succ i).length≤62:=by
 obtain ⟨T,h1,_⟩:=A.mv hi
 rw [A.succ hi h1,uC];exact A.len hc hi h1
theorem zcE (hc:c.Ok) (A:bY c aj p a):wj c a=some true:=by
 have h0:=A.p0
 have h1:=A.p1
 have hlen:=A.F.inv.len
 refine ay.eq ?_
 unfold wj
 rw [A.pa]
 refine ay.ax (v:=false) (by rw [decide_eq_false (show ¬ aj < 0 by omega),decide_eq_false (show ¬ c.aT≤aj by omega),A.F.len];simp) ?_
 refine ay.ite (fun h=>by cases h) (fun _ => ?_)
 refine ay.bind (P:=fun o:Unit ⊕ Unit=>o=.inl ()) (ay.eE (fun _ _=>True) (by omega) trivial (fun i s hi _ => ?_) (fun _ _=>rfl)) ?_
 ·obtain ⟨T,hT,hM⟩:=A.mv hi
  have Bz:=A.len hc hi hT
  refine ay.ax (zB (ua hi)) ?_
  refine ay.ax (zB hT) ?_
  refine ay.bind (P:=fun o:Unit ⊕ Unit=>o=.inl ()) (ay.eE (fun _ _=>True) (by omega) trivial (fun k s hk _ => ?_) (fun _ _=>rfl)) ?_
  ·have:=A.to hi hT (uc hk)
   refine ay.ax (zB (ua hk)) ?_
   refine ay.ax (v:=false) (by rw [decide_eq_false (show ¬ T[k].to < 0 by omega),decide_eq_false (show ¬ (a.aY.length:Int)≤T[k].to by omega)];rfl) ?_
   exact ay.some trivial
  ·rintro _ rfl
   refine ay.ax (by rw [Jw c _ hc,YC (A.F.inv.vs _ (uc hi))]) ?_
   exact ay.some trivial
 ·rintro _ rfl
  exact ay.some rfl
structure L1 (G:Gm) (i k:Nat) (ed:List (List Int)):Prop where
 len:ed.length=G.n
 row:∀ t,t < G.n→∃ l:List Nat,ed[t]?=some (cst l)∧l.length≤62*i+k∧∀ x,l.count x=if x < i then (G.succ x).count t else if x=i then ((G.succ i).take k).count t else 0
theorem L1.next {G:Gm} {i k:Nat} {ed:List (List Int)} (h:L1 G i k ed) (hk:k=(G.succ i).length) (hl:k≤62):L1 G (i+1) 0 ed:=by
 refine ⟨h.len,fun t ht => ?_⟩
 obtain ⟨l,h1,h2,h3⟩:=h.row t ht
 refine ⟨l,h1,by omega,fun x => ?_⟩
 rw [h3 x]
 by_cases e:x < i
 ·rw [if_pos e,if_pos (by omega)]
 ·rw [if_neg e]
  by_cases e2:x=i
  ·subst e2;rw [if_pos rfl,if_pos (by omega),hk,List.take_length]
  ·rw [if_neg e2,if_neg (by omega)]
   split<;>simp
theorem L1.step {G:Gm} {i k:Nat} {ed:List (List Int)} (h:L1 G i k ed) (hn:G.n≤1500) (hi:i < G.n) (hk:k≤62) {to:Nat} (ht:(G.succ i)[k]?=some to) (hto:to < G.n):ay (vv ed G.n (to:Int) (i:Int)) (L1 G i (k+1)):=by
 obtain ⟨l,h1,h2,h3⟩:=h.row to hto
 have e:vv ed G.n (to:Int) (i:Int)=some (ed.set to (cst (l++[i]))):=by
  unfold vv
  rw [if_pos ⟨by omega,by omega,by omega⟩,um,h1]
  simp only
  rw [if_pos (by rw [Zn];omega),Wv];rfl
 refine ⟨_,e,by rw [uB];exact h.len,fun t LG => ?_⟩
 have htk:(G.succ i).take (k+1)=(G.succ i).take k++[to]:=by
  obtain ⟨h5,h6⟩:=ub.1 ht
  rw [List.take_succ_eq_append_getElem h5,h6]
 by_cases e2:t=to
 ·subst e2
  refine ⟨l++[i],uI (by rw [h.len];exact LG),by simp;omega,fun x => ?_⟩
  rw [uU,h3 x,htk,uU]
  by_cases a1:x < i
  ·rw [if_pos a1,if_pos a1,uK (by omega)];simp
  ·rw [if_neg a1,if_neg a1]
   by_cases a2:x=i
   ·subst a2;rw [if_pos rfl,if_pos rfl];simp
   ·rw [if_neg a2,if_neg a2,uK (fun h=>a2 h.symm)];simp
 ·obtain ⟨l2,b1,b2,b3⟩:=h.row t LG
  refine ⟨l2,by rw [u6 (Ne.symm e2)];exact b1,by omega,fun x => ?_⟩
  rw [b3 x,htk,uU,uK (Ne.symm e2)];simp
structure L2 (G:Gm) (i:Nat) (s:List Int×List Int×List (List Int)×List Int):Prop where
 lr:s.1.length=G.n
 lo:s.2.1.length=G.n
 ed:L1 G i 0 s.2.2.1
 r:∀ j,j < i→at_ s.1 j=if G.lost j=true then 0 else -1
 o:∀ j,j < i→at_ s.2.1 j=((G.succ j).length:Int)
 k:s.2.2.2=cst ((uD i).filter G.lost)
theorem QT {b n:Nat} (h:n≤1500) (hb:b≤1000):ef b (n:Int)=some n:=by
 unfold ef
 have:n*b≤1500*1000:=Ul h hb
 rw [if_pos ⟨by omega,by omega,by push_cast;omega⟩,um]
end
end
end Go.Proofs.YtlpmnmbebkdocaaGreatDoor
