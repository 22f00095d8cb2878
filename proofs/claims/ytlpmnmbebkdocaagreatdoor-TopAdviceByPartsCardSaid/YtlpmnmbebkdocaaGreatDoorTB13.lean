/-
  What an act does.
  'system.Step': what it returns.
  'arena.Moves' and 'arena.After': what they return.
  What 'slices.BinarySearch' and 'contract.Part' come to.
  States of parts of a contract: a step of the contract is a step of each part.
  What is left to do grows less with each own act.
  Trees of clauses: what 'root', 'join' and 'gather' of package contract come to.
  What 'contract.Components' and the law's 'part' come to.
  What 'contract.Components' and 'contract.Linked' come to.
  'arena.After'; 'Few', 'Tame', 'Doer'.
  The text of a position tells it from every other position of the same contract.
  A search through positions, breadth first: what is known of it.
  'arena.From': what it returns.
  'system.Start', 'arena.Build', 'Index'.
-/
import Derived.Test.YtlpmnmbebkdocaaGreatDoorTB12
import Derived.Test.YtlpmnmbebkdocaaGreatDoorTB07
open List renaming getElem?_eq_getElem → ua, getElem?_eq_some_iff → ub, getElem_mem → ud, getD_eq_getElem?_getD → ue, append_assoc → ug, getElem_of_mem → uh, mem_singleton → ui, getElem?_mapIdx → uj, replicate → ul, getElem?_eq_none → un, mem_append → uo, mem_cons_self → ur, getElem?_append_left → ut, mem_of_getElem? → uv, mem_cons_of_mem → uw, all_eq_true → uy, ext_getElem? → uA, length_mapIdx → uD, length_append → uE, getElem?_set → uF, length_cons → uI, length_set → uJ, append_nil → uK, nil_append → uL, filter_append → uN, getElem?_append_right → uO, flatMap_cons → uR, Pairwise → uS, range → uT, take_of_length_le → uU, range_succ → uV, nodup_cons → uW, length_nil → uX, mem_range → uY, pairwise_append → uZ, map_congr_left → u4, map_cons → u5, getElem?_map → u9, idxOf_append → Ua, cons_append → Uc, map_append → Ue, length_map → Uf, mem_filter → Ug, foldl_cons → Uh, foldl_nil → Uj, mem_cons → Ul, set_set → Um, mem_map → Un
open Option renaming bind → um, getD_some → uq, map_some → uC, map_eq_some_iff → uG, isSome_some → u6, isSome_none → u7
open Bool renaming and_eq_true → uc, not_true → ux, cond_false_right → uH, false_and → uM, not_eq_true' → uP, and_false → u0, eq_iff_iff → Ud, not_false → Ui, true_and → Uk
open Nat renaming strongRecOn → uz, lt_or_ge → uB, le_refl → uQ, lt_succ_self → Ub
open Int renaming toNat_natCast → uu
open Sum renaming elim_inl → uk
namespace Go.Proofs.YtlpmnmbebkdocaaGreatDoor
open Go.RowKit
set_option linter.unusedSimpArgs false
set_option linter.unusedVariables false
set_option maxRecDepth 100000
def yg (act:Int) (k:aO) (m:aj):aj:=
 bif jc m then (bif act == k.bg then {m with bQ:=true} else bif act == k.resume then {m with bQ:=false} else m) else m
def Cv (k:aO) (m:aj):aj:=bif m.got+1 == k.need then ZU 3 {m with got:=m.got+1} else {m with got:=m.got+1}
def Cw (k:aO) (m:aj):aj:=bif k.kind == 1 then Cv k m else bif k.kind == 2 then (bif m.bQ then m else ZU 4 m) else ZU 3 m
def ZV (act bL:Int) (k:aO) (m:aj):aj:=bif jc m then (bif k.act == act&&(k.kind == 4||m.bz == bL) then Cw k m else m) else m
def Zg (a:aZ) (k:aO) (m:aj):aj:=bif jc m then (bif !(k.kind == 4)&&k.bK == a.bP then {m with bz:=a.to} else m) else m
def jJ (hs:List Int) (a:aZ):Int:=bif a.bK == -1 then -1 else hs[a.bK.toNat]?.getD 0
theorem Lr (c:ax) (s:aG) (i:Nat) (a:aZ) (ha:c.aK[i]?=some a) (h:a.bK = -1∨(0≤a.bK∧a.bK < s.aE.length)):ZK c s i=some (jJ s.aE a):=by
 unfold ZK jJ
 simp only [zy ha,aV]
 cases hr:(a.bK == -1) with
 | true=>rfl
 | false=>
  have h1:=beq_eq_false_iff_ne.1 hr
  obtain ⟨h2,h3⟩:=qW (l:=s.aE) (n:=a.bK) (by omega) (by omega)
  simp only [b9,h3,aV,ua h2,uq]
theorem zht {c:ax} {i:Nat} {k:aO} {m:aj} {act:Int} (ha:0≤act) (kv:KV c i k) (h:jw c.aW k m=true):jw c.aW k (yg act k m)=true:=by
 unfold yg
 cases hr:jc m with
 | false=>exact h
 | true=>
  obtain ⟨rv,hb,hs⟩:=xU kv h hr
  obtain ⟨b1,b2,b3,b4,b5⟩:=jE.1 hb
  simp only [bW]
  cases h1:(act == k.bg) with
  | true=>exact Zr hs (jE.2 ⟨b1,b2,fun _=>by have:=beq_iff_eq.1 h1;omega,b4,b5⟩)
  | false=>
   cases h2:(act == k.resume) with
   | true=>exact Zr hs (jE.2 ⟨b1,b2,fun h=>absurd (show false=true from h) (by decide),b4,b5⟩)
   | false=>exact h
theorem zkV {c:ax} {i:Nat} {k:aO} {m:aj} {act bL:Int} (hp:0 < c.aW) (kv:KV c i k) (h:jw c.aW k m=true):jw c.aW k (ZV act bL k m)=true:=by
 unfold ZV
 cases hr:jc m with
 | false=>exact h
 | true=>
  obtain ⟨rv,hb,hs⟩:=xU kv h hr
  obtain ⟨b1,b2,b3,b4,b5⟩:=jE.1 hb
  simp only [bW]
  cases h1:(k.act == act&&(k.kind == 4||m.bz == bL)) with
  | false=>exact h
  | true=>
   simp only [bW,Cw]
   have hn:=kv.need
   cases h2:(k.kind == 1) with
   | true=>
    have hk:=beq_iff_eq.1 h2
    simp only [bW,Cv]
    cases h3:(m.got+1 == k.need) with
    | true=>
     have h3':=beq_iff_eq.1 h3
     refine wp.2 (.inr (.inr (.inr ⟨.inl rfl,?_⟩)))
     have e1:decide (0≤m.got+1)=true:=decide_eq_true (by omega)
     have e2:decide (m.got+1≤9)=true:=decide_eq_true (by omega)
     have e3:decide (-1≤m.bz)=true:=decide_eq_true (by omega)
     have e4:decide (m.bz < c.aW)=true:=decide_eq_true (by omega)
     show ((0:Int) == 0&&(decide (0≤m.got+1)&&(decide (m.got+1≤9)&&(decide (-1≤m.bz)&&(decide (m.bz < c.aW) && !false)))))=true
     rw [e1,e2,e3,e4];rfl
    | false=>
     have h3':=beq_eq_false_iff_ne.1 h3
     refine Zr hs (jE.2 ⟨b1,b2,b3,.inr ⟨hk,?_,?_⟩,b5⟩)
     ·show 0≤m.got+1;omega
     ·show m.got+1 < k.need;omega
   | false=>
    simp only [b9]
    cases h3:(k.kind == 2) with
    | true=>
     simp only [bW]
     cases m.bQ with
     | true=>exact h
     | false=>exact Q4 kv rv hp (by omega)
    | false=>exact Q4 kv rv hp (by omega)
theorem zi7 {c:ax} {i:Nat} {k:aO} {m:aj} {a:aZ} (kv:KV c i k) (ht:0≤a.to∧a.to < c.aW) (h:jw c.aW k m=true):jw c.aW k (Zg a k m)=true:=by
 unfold Zg
 cases hr:jc m with
 | false=>exact h
 | true=>
  obtain ⟨rv,hb,hs⟩:=xU kv h hr
  obtain ⟨b1,b2,b3,b4,b5⟩:=jE.1 hb
  simp only [bW]
  cases h1:(!(k.kind == 4)&&k.bK == a.bP) with
  | false=>exact h
  | true=>
   simp only [uc,uP,beq_eq_false_iff_ne] at h1
   exact Zr hs (jE.2 ⟨b1,b2,b3,b4,.inr ⟨h1.1,ht.1,ht.2⟩⟩)
def eY (c:ax) (act:Int) (ms:List aj):List aj:=ms.mapIdx (fk c (yg act))
def eG (c:ax) (act:Int) (a:aZ) (hs:List Int) (ms:List aj):List aj:=(eY c act ms).mapIdx (fk c (ZV act (jJ hs a)))
def iL (c:ax) (act:Int) (a:aZ) (hs:List Int) (ms:List aj):List aj:=bif a.kind == 3 then (eG c act a hs ms).mapIdx (fk c (Zg a)) else eG c act a hs ms
def hs3 (a:aZ) (hs:List Int):List Int:=bif a.kind == 1 then hs else hs.set a.bP.toNat a.to
def mg (i:Nat) (a:aZ) (us:List Bool):List Bool:=bif a.kind == 1 then us else us.set i true
theorem Lt {c:ax} {act:Int} {ms:List aj} (ho:c.off.length < 4611686018427387904) (hv:(zS c).1=0) (ha:0≤act) (hm:iY c ms):iY c (eY c act ms):=
 hm.mapIdx _ fun i k m hk h=>zht ha (wE ho hv hk) h
theorem Ex {c:ax} {act:Int} {a:aZ} {hs:List Int} {ms:List aj} (ho:c.off.length < 4611686018427387904) (hv:(zS c).1=0) (ha:0≤act) (hm:iY c ms):iY c (eG c act a hs ms):=
 (Lt ho hv ha hm).mapIdx _ fun i k m hk h=>zkV (by have:=(qy ho hv).aW;omega) (wE ho hv hk) h
theorem zm1 {c:ax} {act:Int} {a:aZ} {hs:List Int} {ms:List aj} (ho:c.off.length < 4611686018427387904) (hv:(zS c).1=0) (ha:0≤act) (av:Ew c a) (hm:iY c ms):iY c (iL c act a hs ms):=by
 unfold iL
 cases h3:(a.kind == 3) with
 | false=>exact Ex ho hv ha hm
 | true=>
  refine (Ex ho hv ha hm).mapIdx _ fun i k m hk h=>zi7 (wE ho hv hk) ?_ h
  have:=beq_iff_eq.1 h3
  have:=av.kind
  omega
theorem zm2 (c:ax) (day:Int) (hs:List Int) (us:List Bool) (ms:List aj) (i:Nat) (a:aZ) (ho:c.off.length < 4611686018427387904) (hv:(zS c).1=0) (hh:hs.length=c.aE.length) (hu:us.length=c.aK.length)
  (ha:c.aK[i]?=some a) (hm:iY c ms) :
  JI i c day hs hs.length us us.length ms ms.length=(bif !(a.kind == 1)&&us[i]?.getD false then some (hs,us,ms) else
   (yf c day (hs3 a hs) (mg i a us) (iL c i a hs ms)).bind fun r=>some (hs3 a hs,mg i a us,r)):=by
 have sm:=qy ho hv
 have dY:=sm.ay
 have hl:=hm.1
 have av:=YJ hv ha
 have hia:i < c.aK.length:=(ub.1 ha).1
 have pT:i < us.length:=by omega
 unfold JI
 have eU:(bif a.kind == 1 then some false else (um (zi us.length (i:Int)) fun k1=>(um (us[k1]?) fun e2=>some e2)))=some (!(a.kind == 1)&&us[i]?.getD false):=by
  simp only [zM pT,aV,ua pT,uq]
  cases (a.kind == 1)<;>rfl
 simp only [zy ha,aV]
 rw [eU]
 simp only [aV]
 cases fU:(!(a.kind == 1)&&us[i]?.getD false) with
 | true=>rfl
 | false=>
  simp only [b9,xD,aV]
  rw [wS ms (fk c (yg i)) (by omega) ?p1]
  case p1=>
   intro j m s h1 h2 h3
   have hj:j < ms.length:=(ub.1 h1).1
   have hk:=ua (show j < c.ay.length by omega)
   simp only [zM hj,aV,h3,Qs,fk,hk,yg]
   generalize c.ay[j]=k at hk
   cases oY:jc m with
   | false=>simp only [b9,aV,xd h3]
   | true=>
    simp only [bW,zy hk,aV]
    cases ((i:Int) == k.bg) with
    | true=>simp only [bW,aV,ux,b9]
    | false=>
     simp only [b9]
     cases ((i:Int) == k.resume) with
     | true=>simp only [bW,aV,ux,b9]
     | false=>simp only [b9,aV,ux,xd h3]
  simp only [aV,uk]
  show um (dH hs.length hs.length) _=_
  simp only [JK,aV,wn (show ms.length=(ms.mapIdx (fk c (yg (i:Int)))).length by simp)]
  rw [Lr c _ i a ha (by have:=av.bK;simp only;omega)]
  simp only [aV]
  have Ey:=Lt (act:=(i:Int)) ho hv (by omega) hm
  have Bt:(ms.length:Int)=((eY c i ms).length:Int):=by simp [eY]
  show um (um (aD (ms.length:Int) _ (eY c i ms)) _) _=_
  rw [Bt]
  rw [wS (eY c i ms) (fk c (ZV i (jJ hs a))) (by simp [eY];omega) ?p2]
  case p2=>
   intro j m s h1 h2 h3
   have fM:j < (eY c i ms).length:=(ub.1 h1).1
   have hj:j < ms.length:=by simpa [eY] using fM
   have hk:=ua (show j < c.ay.length by omega)
   have kv:=wE ho hv hk
   have hmk:=Ey.2 j _ _ hk h1
   simp only [zM hj,aV,h3,Qs,fk,hk,ZV]
   generalize c.ay[j]=k at hk kv hmk
   cases oY:jc m with
   | false=>simp only [b9,aV,xd h3]
   | true=>
    obtain ⟨rv,hb,hst⟩:=xU kv hmk oY
    simp only [bW,zy hk,aV]
    have eT:(bif k.act == (i:Int) then (bif k.kind == 4 then some true else some (m.bz == jJ hs a)) else some false)=some (k.act == (i:Int)&&(k.kind == 4||m.bz == jJ hs a)):=by
     cases (k.act == (i:Int))<;>cases (k.kind == 4)<;>rfl
    rw [eT]
    simp only [aV]
    cases (k.act == (i:Int)&&(k.kind == 4||m.bz == jJ hs a)) with
    | false=>simp only [b9,aV,ux,xd h3]
    | true=>
     have hgot:=rv.got
     have Lu:=kv.need
     have AO:(k.kind == 0)=false:=beq_eq_false_iff_ne.2 (by have:=kv.kind;omega)
     simp only [bW,AO,b9,Yq,Yp,vg,zM hj,aV,h3,vH h3,zy hk,Cw,Cv]
     rw [qw (show -9223372036854775808≤m.got+1 by omega) (by omega)]
     rw [WD j 3 _ _ _ _ _ _ _ _ _ hj h3,WD j 3 _ _ _ _ _ _ _ _ _ hj (vH h3),WD j 4 _ _ _ _ _ _ _ _ _ hj h3]
     simp only [aV,Um]
     cases e1:(k.kind == 1) with
     | true=>cases (m.got+1 == k.need)<;>simp
     | false=>
      cases e2:(k.kind == 2) with
      | true=>cases m.bQ<;>simp [xd h3]
      | false=>
       cases e3:(k.kind == 3) with
       | true=>simp
       | false=>
        have h4:(k.kind == 4)=true:=beq_iff_eq.2 (by have:=kv.kind;have:=beq_eq_false_iff_ne.1 e1;have:=beq_eq_false_iff_ne.1 e2;have:=beq_eq_false_iff_ne.1 e3;omega)
        simp [h4]
  simp only [aV,uk]
  show um (bif a.kind == 1 then some (hs,us,eG c i a hs ms) else _) _=_
  have m2ok:=Ex (act:=(i:Int)) (a:=a) (hs:=hs) ho hv (by omega) hm
  cases h1:(a.kind == 1) with
  | true=>
   have h3:(a.kind == 3)=false:=beq_eq_false_iff_ne.2 (by have:=beq_iff_eq.1 h1;omega)
   simp only [bW,aV,hs3,mg,iL,h1,h3,b9]
   unfold yf
   rw [show (eG c i a hs ms).length=ms.length by simp [eG,eY]]
  | false=>
   have hak:=av.kind.resolve_left (beq_eq_false_iff_ne.1 h1)
   have hg:a.bP.toNat < hs.length:=by omega
   simp only [b9,Yr,zy ha,aV]
   rw [Ir (show 0≤a.bP by omega) (by omega),zM pT]
   simp only [aV,ua hg,ua pT,xD,hs3,mg,iL,h1,b9]
   cases h3:(a.kind == 3) with
   | false=>
    simp only [b9,aV]
    unfold yf
    rw [show (eG c i a hs ms).length=ms.length by simp [eG,eY],uJ,uJ]
    rfl
   | true=>
    simp only [bW]
    have gO:(ms.length:Int)=((eG c i a hs ms).length:Int):=by simp [eG,eY]
    rw [gO,show List.mapIdx (fk c (ZV (i:Int) (jJ hs a))) (eY c i ms)=eG c i a hs ms from rfl]
    rw [wS (eG c i a hs ms) (fk c (Zg a)) (by simp [eG,eY];omega) ?p3]
    case p3=>
     intro j m s h1 h2 h3
     have fM:j < (eG c i a hs ms).length:=(ub.1 h1).1
     have hj:j < ms.length:=by simpa [eG,eY] using fM
     have hk:=ua (show j < c.ay.length by omega)
     simp only [zM hj,aV,h3,Qs,fk,hk,Zg]
     generalize c.ay[j]=k at hk
     cases oY:jc m with
     | false=>simp only [b9,aV,xd h3]
     | true=>
      simp only [bW,zy hk,aV]
      cases (k.kind == 4) with
      | true=>simp only [bW,aV,ux,uM,b9,xd h3]
      | false=>
       simp only [b9,aV,Ui,Uk]
       cases (k.bK == a.bP) with
       | true=>simp only [bW,aV,ux,b9]
       | false=>simp only [b9,aV,ux,xd h3]
    simp only [aV,uk]
    unfold yf
    rw [show ((eG c i a hs ms).mapIdx (fk c (Zg a))).length=ms.length by simp [eG,eY],uJ,uJ]
def Lv:aG:={day:=0,aE:=[],used:=[],aI:=[]}
def Ez (c:ax) (i:Nat) (a:aZ) (s r:aG):Prop:=
 (a.kind≠1∧s.used[i]?=some true∧r=s)∨((a.kind=1∨s.used[i]?=some false)∧r.day=s.day∧r.aE=hs3 a s.aE∧r.used=mg i a s.used∧dM c (hs3 a s.aE) (iL c i a s.aE s.aI) r.aI)
def Lw (c:ax) (s r:aG):Prop:=r.day=s.day+1∧r.aE=s.aE∧r.used=s.used∧dM c s.aE (s.aI.mapIdx (fk c (kg (jH c.off s.day).isSome))) r.aI
theorem XY {b n:Nat} (h:n < 1000) (hb:b≤1000):ei b (n:Int)=some n:=by
 unfold ei
 have:n*b≤1000*1000:=Nat.mul_le_mul (by omega) hb
 rw [if_pos ⟨by omega,by omega,by omega⟩];simp
theorem Vq {α:Type} {l d:List α} {k:Nat} (h:k=d.length) (h2:l.length=k):xX k d l=some l:=by unfold xX;rw [if_pos ⟨h,h2⟩]
theorem zkW {α:Type} {l:List α} {i:Nat} {x y:α} (h:y∈l.set i x):y∈l∨y=x:=List.mem_or_eq_of_mem_set h
theorem zi9 {c:ax} {s:aG} {a:Int} (hc:c.Ok) (hv:VS c s) (h1 : -1≤a) (h2:a < c.aK.length) (hd:s.day < c.aX) :
  aq (dw c s a) (fun r=>r.2=0∧VS c r.1∧(a = -1→Lw c s r.1)∧(∀ (i:Nat) (x:aZ),a=(i:Int)→c.aK[i]?=some x→Ez c i x s r.1)):=by
 have ho:=hc.off.lt (by omega:0 < 8)
 have sm:=qy ho hv.cv
 have s1:=sm.aE
 have s2:=sm.aK
 have s3:=sm.ay
 have sd:=sm.aX
 have Bu:=hv.lh
 have EA:=hv.lu
 have Bv:=hv.lm
 have fD:=hv.day
 have hmo:iY c s.aI:=⟨Bv,fun i k m hk hm=>hv.tY i k m hk hm⟩
 unfold dw
 have e1:decide (a < -1)=false:=decide_eq_false (by omega)
 have e2:decide ((c.aK.length:Int)≤a)=false:=decide_eq_false (by omega)
 refine aq.az (v:=false) (by rw [vp c s hc,ZS hv,e1,e2];rfl) ?_
 refine aq.ite (fun h=>by cases h) (fun _ => ?_)
 refine aq.ite (fun h=>absurd (beq_iff_eq.1 h) (by omega)) (fun _ => ?_)
 refine aq.az (XY (show s.aE.length < 1000 by omega) (by omega)) ?_
 refine aq.az (XY (show s.used.length < 1000 by omega) (by omega)) ?_
 refine aq.az (XY (show s.aI.length < 1000 by omega) (by omega)) ?_
 refine aq.az (Vq (by simp) rfl) ?_
 refine aq.az (Vq (by simp) rfl) ?_
 refine aq.az (Vq (by simp) rfl) ?_
 cases ht:(a == (-1:Int)) with
 | true=>
  have ha:=beq_iff_eq.1 ht
  simp only [bW]
  rw [zkU c s.day s.aE s.used s.aI ho hv.cv hmo (by omega)]
  have EB:iY c (s.aI.mapIdx (fk c (kg (jH c.off s.day).isSome))):=hmo.mapIdx _ fun i k m hk h=>zi6 _ (wE ho hv.cv hk) (by have:=sm.aW;omega) h
  refine aq.bind (P:=fun v:List Int×List Bool×List aj×Int=>v.1=s.aE∧v.2.1=s.used∧v.2.2.2=s.day+1∧dM c s.aE (s.aI.mapIdx (fk c (kg (jH c.off s.day).isSome))) v.2.2.1)
   (aq.bind (XX c (s.day+1) s.aE s.used _ ho hv.cv Bu hv.hold EB) fun r hr=>aq.some ⟨rfl,rfl,qw (by omega) (by omega),hr⟩) ?_
  rintro ⟨v1,v2,v3,v4⟩ ⟨q1,q2,q3,q4⟩
  simp only at q1 q2 q3 q4
  subst q1;subst q2;subst q3
  have pE:s.aI.length=v3.length:=by have:=q4.ok.1;omega
  simp only [JK,wn pE,aV]
  refine aq.some ⟨rfl,⟨hv.cv,⟨by show 0≤s.day+1;omega,by show s.day+1≤c.aX;omega⟩,Bu,EA,q4.ok.1,hv.hold,hv.used,q4.ok.2,q4.nr⟩,fun _=>⟨rfl,rfl,rfl,q4⟩,fun i x hi=>by omega⟩
 | false=>
  have ha:=beq_eq_false_iff_ne.1 ht
  obtain ⟨i,rfl⟩:∃ i:Nat,a=(i:Int):=⟨a.toNat,by omega⟩
  have hi:i < c.aK.length:=by omega
  have hx:=ua hi
  generalize c.aK[i]=x at hx
  have av:=YJ hv.cv hx
  simp only [b9]
  rw [zm2 c s.day s.aE s.used s.aI i x ho hv.cv Bu EA hx hmo]
  have pT:i < s.used.length:=by omega
  cases fU:(!(x.kind == 1)&&s.used[i]?.getD false) with
  | true=>
   simp only [bW,aV,JK]
   refine aq.some ⟨rfl,hv,fun h=>by omega,fun j y hj hy => ?_⟩
   obtain rfl:i=j:=by omega
   rw [hx] at hy;cases hy
   simp only [uc,uP,beq_eq_false_iff_ne,ua pT,uq] at fU
   exact .inl ⟨fU.1,by rw [ua pT,fU.2],rfl⟩
  | false=>
   simp only [b9]
   have tZ:=av.kind
   have Lx:(hs3 x s.aE).length=c.aE.length:=by unfold hs3;cases (x.kind == 1)<;>simp [Bu]
   have hu3:(mg i x s.used).length=c.aK.length:=by unfold mg;cases (x.kind == 1)<;>simp [EA]
   have Ly:∀ h∈hs3 x s.aE,0≤h∧h < c.aW:=by
    unfold hs3
    cases hk1:(x.kind == 1) with
    | true=>exact hv.hold
    | false=>
     intro h hh
     have:=tZ.resolve_left (beq_eq_false_iff_ne.1 hk1)
     rcases zkW hh with h' | h'
     ·exact hv.hold h h'
     ·omega
   have EC:∀ (j:Nat) (y:aZ),c.aK[j]?=some y→(mg i x s.used)[j]?=some true→y.kind≠1:=by
    unfold mg
    cases hk1:(x.kind == 1) with
    | true=>exact hv.used
    | false=>
     intro j y hy hj
     simp only [b9] at hj
     rw [uF] at hj
     by_cases hij:i=j
     ·subst hij
      rw [hx] at hy;cases hy
      exact beq_eq_false_iff_ne.1 hk1
     ·rw [if_neg hij] at hj;exact hv.used j y hy hj
   refine aq.bind (P:=fun v:List Int×List Bool×List aj×Int=>v.1=hs3 x s.aE∧v.2.1=mg i x s.used∧v.2.2.2=s.day∧dM c (hs3 x s.aE) (iL c i x s.aE s.aI) v.2.2.1)
    (aq.bind (P:=fun v:List Int×List Bool×List aj=>v.1=hs3 x s.aE∧v.2.1=mg i x s.used∧dM c (hs3 x s.aE) (iL c i x s.aE s.aI) v.2.2) (aq.bind (XX c s.day _ (mg i x s.used) _ ho hv.cv Lx Ly (zm1 ho hv.cv (by omega) av hmo)) fun r hr=>aq.some ⟨rfl,rfl,hr⟩) fun v ny=>aq.some ⟨ny.1,ny.2.1,rfl,ny.2.2⟩) ?_
   rintro ⟨v1,v2,v3,v4⟩ ⟨q1,q2,q3,q4⟩
   simp only at q1 q2 q3 q4
   subst q1;subst q2;subst q3
   have pE:s.aI.length=v3.length:=by have:=q4.ok.1;omega
   simp only [wn (show s.aE.length=(hs3 x s.aE).length by omega),wn (show s.used.length=(mg i x s.used).length by omega),wn pE,aV]
   refine aq.some ⟨rfl,⟨hv.cv,fD,Lx,hu3,q4.ok.1,Ly,EC,q4.ok.2,q4.nr⟩,fun h=>by omega,fun j y hj hy => ?_⟩
   obtain rfl:i=j:=by omega
   rw [hx] at hy;cases hy
   refine .inr ⟨?_,rfl,rfl,rfl,q4⟩
   simp only [Bool.and_eq_false_iff,Bool.not_eq_false',beq_iff_eq,ua pT,uq] at fU
   rcases fU with h | h
   ·exact .inl h
   ·exact .inr (by rw [ua pT,h])
noncomputable def zI (c:ax) (s:aG) (a:Int):aG:=((dw c s a).getD (Lv,1)).1
theorem ja {c:ax} {s:aG} {a:Int} (hc:c.Ok) (hv:VS c s) (h1 : -1≤a) (h2:a < c.aK.length) (hd:s.day < c.aX) :
  dw c s a=some (zI c s a,0)∧VS c (zI c s a)∧(a = -1→Lw c s (zI c s a))∧(∀ (i:Nat) (x:aZ),a=(i:Int)→c.aK[i]?=some x→Ez c i x s (zI c s a)):=by
 obtain ⟨⟨r1,r2⟩,e,h⟩:=zi9 hc hv h1 h2 hd
 have e2:zI c s a=r1:=by unfold zI;rw [e];rfl
 rw [e2,e]
 obtain ⟨h0,h⟩:=h
 simp only at h0 h
 subst h0
 exact ⟨rfl,h⟩
theorem yK {α:Type} [BEq α] [LawfulBEq α] {f:Nat→Unit→Option (Unit ⊕ Unit)} (a b:List α) (hl:a.length=b.length) (ha:a.length < 4611686018427387904) (h:∀ (i:Nat) (h1:i < a.length) (h2:i < b.length),f i ()=some (bif a[i] == b[i] then .inl () else .inr ())) :
  aD (a.length:Int) f ()=some (bif a == b then .inl () else .inr ()):=by
 rw [Qq (fun i=>a[i]? == b[i]?) ha (fun i hi=>by
  rw [h i hi (by omega),ua hi,ua (show i < b.length by omega)]
  show _=some (bif (some a[i] == some b[i]) then _ else _)
  rfl)]
 congr 2
 rw [Ud,uy]
 constructor
 ·intro hh
  rw [beq_iff_eq]
  refine uA fun i => ?_
  by_cases hi:i < a.length
  ·exact beq_iff_eq.1 (hh i (uY.2 hi))
  ·rw [un (by omega),un (by omega)]
 ·intro hh i _
  rw [beq_iff_eq.1 hh];exact beq_self_eq_true _
theorem Q5 {α:Type} (a b:List α):((a.length:Int) == (b.length:Int))=decide (a.length=b.length):=by
 by_cases h:a.length=b.length
 ·simp [h]
 ·simp only [h,decide_false];exact beq_eq_false_iff_ne.2 (by omega)
theorem zoC (a b:List Int) (ha:a.length < 4611686018427387904):Cl a b=some (a == b):=by
 unfold Cl
 rw [Q5]
 by_cases h:a.length=b.length
 ·simp only [h,decide_true,bW]
  rw [←h,yK a b h ha (fun i h1 h2=>by
   simp only [zN,ua h1,ua h2,aV,zs])]
  cases (a == b)<;>rfl
 ·simp only [h,decide_false,b9]
  have:a≠b:=fun e=>h (by rw [e])
  rw [beq_eq_false_iff_ne.2 this]
theorem zoD (a b:List Bool) (ha:a.length < 4611686018427387904):Cm a b=some (a == b):=by
 unfold Cm
 rw [Q5]
 by_cases h:a.length=b.length
 ·simp only [h,decide_true,bW]
  rw [←h,yK a b h ha (fun i h1 h2=>by
   simp only [zN,ua h1,ua h2,aV,zs])]
  cases (a == b)<;>rfl
 ·simp only [h,decide_false,b9]
  have:a≠b:=fun e=>h (by rw [e])
  rw [beq_eq_false_iff_ne.2 this]
instance:BEq aj:=⟨fun a b=>(a.aR == b.aR)&&((a.left == b.left)&&((a.got == b.got)&&((a.bz == b.bz)&&((a.bQ == b.bQ)&&true))))⟩
instance:LawfulBEq aj where
 eq_of_beq {a b} h:=by
  have h':((a.aR == b.aR)&&((a.left == b.left)&&((a.got == b.got)&&((a.bz == b.bz)&&((a.bQ == b.bQ)&&true)))))=true:=h
  simp only [uc,beq_iff_eq,and_true] at h'
  obtain ⟨h1,h2,h3,h4,h5⟩:=h'
  cases a;cases b;simp_all
 rfl {a}:=by
  show ((a.aR == a.aR)&&((a.left == a.left)&&((a.got == a.got)&&((a.bz == a.bz)&&((a.bQ == a.bQ)&&true)))))=true
  simp
theorem zoE (a b:List aj) (ha:a.length < 4611686018427387904):Cn a b=some (a == b):=by
 unfold Cn
 rw [Q5]
 by_cases h:a.length=b.length
 ·simp only [h,decide_true,bW]
  rw [←h,yK a b h ha (fun i h1 h2=>by
   simp only [zN,ua h1,ua h2,aV,zs];rfl)]
  cases (a == b)<;>rfl
 ·simp only [h,decide_false,b9]
  have:a≠b:=fun e=>h (by rw [e])
  rw [beq_eq_false_iff_ne.2 this]
def xZ (a b:aG):Bool:=a.day == b.day&&(a.aE == b.aE&&(a.used == b.used&&a.aI == b.aI))
theorem vJ {a b:aG}:xZ a b=true↔a=b:=by
 unfold xZ
 simp only [uc,beq_iff_eq]
 constructor
 ·rintro ⟨h1,h2,h3,h4⟩
  cases a;cases b;simp_all
 ·rintro rfl;exact ⟨rfl,rfl,rfl,rfl⟩
theorem zkX (a b:aG) (h1:a.aE.length < 4611686018427387904) (h2:a.used.length < 4611686018427387904) (h3:a.aI.length < 4611686018427387904):QU a b=some (xZ a b):=by
 unfold QU xZ
 rw [zoC _ _ h1,zoD _ _ h2,zoE _ _ h3]
 simp only [aV,zs,uH]
theorem VS.s9 {c:ax} {s:aG} (hc:c.Ok) (h:VS c s):s.aE.length≤12∧s.used.length≤60∧s.aI.length≤400:=by
 have sm:=qy (hc.off.lt (by omega)) h.cv
 have:=sm.aE
 have:=sm.aK
 have:=sm.ay
 have:=h.lh
 have:=h.lu
 have:=h.lm
 omega
theorem Lz {c:ax} {s:aG} (hc:c.Ok) (h:VS c s):vo s=some s:=by
 have:=h.s9 hc
 unfold vo
 rw [ju (by omega),ju (by omega),ju (by omega)]
 rfl
noncomputable def jK (c:ax) (zw:Int) (s:aG):Bool:=decide (0≤zw)&&(decide (zw < c.aW)&&s7 c s)
theorem YL {c:ax} (hc:c.Ok) (zw:Int) (p:aH):yc c zw p=some (jK c zw p.state):=by
 unfold yc jK
 rw [vp c _ hc]
 simp only [aV,zs,uH]
theorem qX {c:ax} {zw:Int} {s:aG}:jK c zw s=true↔0≤zw∧zw < c.aW∧VS c s:=by
 simp only [jK,uc,decide_eq_true_eq]
 exact ⟨fun ⟨a,b,d⟩=>⟨a,b,zoB d⟩,fun ⟨a,b,d⟩=>⟨a,b,ZS d⟩⟩
noncomputable def iZ (c:ax) (zw:Int) (p:aH) (i:Nat):Bool:=match c.aK[i]? with
 | some a=>((jJ p.state.aE a == zw) == p.own) && !xZ (zI c p.state i) p.state
 | none=>false
noncomputable def jl (c:ax) (zw:Int) (p:aH) (n:Nat):List Int:=((uT n).filter (iZ c zw p)).map fun i:Nat=>(i:Int)
noncomputable def zq (c:ax) (zw:Int) (p:aH):List Int:=
 (bif p.own then [-2] else [])++(bif decide (c.aX≤p.state.day) then [] else (bif p.own then [] else [-1])++jl c zw p c.aK.length)
noncomputable def target (c:ax) (p:aH) (move:Int):aH:=if move = -2 then {state:=p.state,own:=false} else {state:=zI c p.state move,own:=true}
theorem Zh (c:ax) (zw:Int) (p:aH) (n:Nat):jl c zw p (n+1)=jl c zw p n++(bif iZ c zw p n then [(n:Int)] else []):=by
 unfold jl
 rw [uV,uN,Ue]
 congr 1
 cases h:iZ c zw p n<;>simp [h]
theorem LA (c:ax) (zw:Int) (p:aH) (n:Nat):(jl c zw p n).length≤n:=by
 unfold jl
 rw [Uf]
 have:=List.length_filter_le (iZ c zw p) (uT n)
 simpa using this
theorem zja {c:ax} {s:aG} {a:aZ} (hv:VS c s) (av:Ew c a):(bif a.bK == (-1) then some (-1) else (um (ze s.aE a.bK) fun e2=>some e2))=some (jJ s.aE a):=by
 unfold jJ
 cases hr:(a.bK == (-1:Int)) with
 | true=>rfl
 | false=>
  have h1:=beq_eq_false_iff_ne.1 hr
  have:=av.bK
  have:=hv.lh
  obtain ⟨h2,h3⟩:=qW (l:=s.aE) (n:=a.bK) (by omega) (by omega)
  rw [h3,ua h2];rfl
def ED:ax:={aW:=0,aE:=[],bE:=[],aK:=[],ay:=[],aX:=0,off:=[]}
def yh (l:List Int) (s:bl):Option bl:=(jH l s.clause).map fun p=>({clause:=p,is:=s.is}:bl)
def JL (c:ax) (l:List Int) (i:Int):Option aO:=(ze c.ay i).bind fun k=>(aL (yh l) k.start).map fun st=>({k with start:=st}:aO)
noncomputable def vj (c:ax) (l:List Int):ax×Int:=
 bif (zS c).1 == 0 then bif wJ c.ay.length (-1) l then (match aL (JL c l) l with
  | some ks=>(({c with ay:=ks}:ax),0)
  | none=>(ED,1)) else (ED,1) else (ED,1)
theorem zm3 (c:ax) (l:List Int) (ho:c.off.length < 4611686018427387904) (hst:∀ k∈c.ay,k.start.length < 4611686018427387904) (hl:l.length < 4611686018427387904):kL c l=some (vj c l):=by
 unfold kL vj
 rw [Kw c ho hst]
 simp only [aV]
 cases hv:((zS c).1 == 0) with
 | false=>rfl
 | true=>
  have sm:=qy ho (by simpa using hv)
  simp only [bW]
  rw [D7 c.ay.length l hl (-1)]
  simp only [aV]
  cases hi:wJ c.ay.length (-1) l with
  | false=>rfl
  | true=>
   obtain ⟨hr,hp⟩:=kC hi
   have hlen:l.length≤400:=by
    have:=ZI hi;have:=sm.ay;omega
   have e1:=sm.aE
   have e2:=sm.bE
   have e3:=sm.aK
   have e4:=sm.off
   simp only [bW,uk]
   rw [ju (by omega),ju (by omega),ju (by omega),ju (by omega)]
   have hmk:ei 136 (l.length:Int)=some l.length:=by
    unfold ei;rw [if_pos (by omega)];simp
   simp only [aV,hmk]
   rw [Is l (JL c l) _ () (by simp) (by omega) (fun i hi' ks hks=>by
    have hx:=hr l[i] (ud hi')
    obtain ⟨hci,eci⟩:=qW (l:=c.ay) (n:=l[i]) (by omega) (by omega)
    simp only [zN,ua hi',aV,eci,JL]
    have tT:=sm.start _ (ud hci)
    rw [ju (by omega)]
    simp only [aV]
    generalize hk:c.ay[l[i].toNat]=k at tT ⊢
    rw [Is k.start (yh l) k.start () rfl (by omega) (fun i3 LB ks3 EE=>by
     have hg:(ks3++k.start.drop i3)[i3]?=some k.start[i3]:=by
      rw [uO (by omega),EE,Nat.sub_self,List.getElem?_drop];simp [LB]
     obtain ⟨r,pN,mr⟩:=Q1 l k.start[i3].clause hp hl
     simp only [zM LB,aV,hg,pN,yh]
     cases hpos:jH l k.start[i3].clause with
     | none=>rfl
     | some p=>rw [mr p hpos];rfl)]
    simp only [aV]
    cases hm:aL (yh l) k.start with
    | none=>rfl
    | some st=>
     have Aw:=jT hm
     simp only [uk,zM hi',aV,uC]
     have hg:(ks++(ul l.length ({kind:=0,bK:=0,act:=0,need:=0,start:=[],after:=0,br:=0,bC:=false,final:=false,bg:=0,resume:=0,value:=({num:=0,den:=0}:aQ),unit:=0,to:=0,bt:=false}:aO)).drop i)[i]?.isSome=true:=by
      simp [hks,hi'];omega
     obtain ⟨z,hz⟩:=Option.isSome_iff_exists.1 hg
     rw [hz]
     simp only [aV]
     rw [uU (by omega)])]
   simp only [aV]
   cases hm:aL (JL c l) l with
   | none=>rfl
   | some ks=>
    simp only [uk]
    first
     | rw [uU (by rw [jT hm];exact uQ _)]
     | (unfold dH;rw [dif_pos (jT hm).symm];rfl)
structure bu (c:ax) (l:List Int) (ks:List aO):Prop where
 valid:(zS c).1=0
 inc:wJ c.ay.length (-1) l=true
 sel:aL (JL c l) l=some ks
theorem bu.eq {c:ax} {l:List Int} {ks:List aO} (h:bu c l ks):vj c l=(({c with ay:=ks}:ax),0):=by
 unfold vj
 rw [h.valid,h.inc,h.sel];rfl
theorem LC {c:ax} {l:List Int} {i:Int} {k':aO} (h:JL c l i=some k'):∃ k st,0≤i∧c.ay[i.toNat]?=some k∧aL (yh l) k.start=some st∧k'=({k with start:=st}:aO):=by
 unfold JL at h
 obtain ⟨k,h1,h2⟩:=jy h
 obtain ⟨h3,h4,_⟩:=Xq h1
 rw [uG] at h2
 obtain ⟨st,h5,h6⟩:=h2
 exact ⟨k,st,h3,h4,h5,h6.symm⟩
theorem JM {l:List Int} {s s':bl} (h:yh l s=some s'):∃ p,jH l s.clause=some p∧s'=({clause:=p,is:=s.is}:bl):=by
 unfold yh at h
 rw [uG] at h
 obtain ⟨p,h1,h2⟩:=h
 exact ⟨p,h1,h2.symm⟩
theorem bu.ok {c:ax} {l:List Int} {ks:List aO} (ho:c.off.length < 4611686018427387904) (h:bu c l ks):zS ({c with ay:=ks}:ax)=(0,-1):=by
 have sm:=qy ho h.valid
 obtain ⟨v1,v2,v3,_⟩:=vG h.valid
 obtain ⟨hr,hp⟩:=kC h.inc
 have fA:=jT h.sel
 have hlen:=ZI h.inc
 have dY:=sm.ay
 refine zho ?_ v2 ?_
 ·simp only [yJ,Bool.or_eq_false_iff,decide_eq_false_iff_not] at v1 ⊢
  refine ⟨v1.1,v1.2.1,v1.2.2.1,v1.2.2.2.1,v1.2.2.2.2.1,by omega⟩
 ·intro j hj
  have hj:j < ks.length:=hj
  obtain ⟨k',h1,h2⟩:=yz h.sel j l[j] (ua (by omega))
  obtain ⟨k,st,h3,h4,h5,rfl⟩:=LC h1
  have hold:=v3 l[j].toNat (ub.1 h4).1
  simp only [nw,h4] at hold
  simp only [nw,h2]
  simp only [vF,uc] at hold ⊢
  obtain ⟨a1,⟨a2,a3⟩,a4,a5,a6⟩:=hold
  refine ⟨a1,⟨a2,by rw [jT h5];exact a3⟩,?_,a5,a6⟩
  refine uy.2 fun s' hs' => ?_
  obtain ⟨q,hq,e⟩:=uh hs'
  have nP:q < k.start.length:=by rw [←jT h5];exact hq
  obtain ⟨b,h6,h7⟩:=yz h5 q k.start[q] (ua nP)
  rw [ua hq] at h7
  cases h7
  obtain ⟨p,h8,h9⟩:=JM h6
  have hold:=uy.1 a4 k.start[q] (ud nP)
  obtain ⟨p1,p2⟩:=XW h8
  have p3:=(ub.1 p2).1
  rw [←e,h9]
  simp only [WB,uc,uP,decide_eq_false_iff_not,beq_eq_false_iff_ne] at hold ⊢
  refine ⟨by omega,by omega,fun td => ?_,hold.2.2.2⟩
  subst td
  simp only [uu] at p2
  rw [ua (by omega)] at p2
  have p4:=Option.some.inj p2
  exact hold.2.2.1 (by omega)
section
abbrev cp (c:ax) (ks:List aO):ax:={c with ay:=ks}
def fK (P:List Int) (ms:List aj):List aj:=P.map fun i=>ms[i.toNat]?.getD default
def rs (P:List Int) (s:aG):aG:={s with aI:=fK P s.aI}
theorem YM {a b:aG} (h1:a.day=b.day) (h2:a.aE=b.aE) (h3:a.used=b.used) (h4:a.aI=b.aI):a=b:=by
 cases a;cases b;simp only at h1 h2 h3 h4;subst h1 h2 h3 h4;rfl
theorem Vr {α β:Type} {g:α→Option β} {l:List α} {m:List β} (h:aL g l=some m):(∀ y∈m,∃ x∈l,g x=some y)∧∀ x∈l,∃ y∈m,g x=some y:=by
 have hl:=jT h
 refine ⟨fun y hy => ?_,fun x hx => ?_⟩
 ·obtain ⟨i,hi,rfl⟩:=uh hy
  obtain ⟨b,h1,h2⟩:=yz h i l[i] (ua (by omega))
  rw [ua hi] at h2
  cases h2
  exact ⟨_,ud (by omega),h1⟩
 ·obtain ⟨i,hi,rfl⟩:=uh hx
  obtain ⟨b,h1,h2⟩:=yz h i l[i] (ua hi)
  exact ⟨b,uv h2,h1⟩
theorem zhv {α β:Type} {g:α→Option β} {l:List α} {m:List β} (h:aL g l=some m) {f:β→Bool} {f':α→Bool} (hf:∀ x y,x∈l→g x=some y→f y=f' x):m.all f=l.all f':=by
 obtain ⟨h1,h2⟩:=Vr h
 rw [Ud,uy,uy]
 constructor
 ·intro hm x hx
  obtain ⟨y,hy,e⟩:=h2 x hx
  rw [←hf x y hx e];exact hm y hy
 ·intro hm y hy
  obtain ⟨x,hx,e⟩:=h1 y hy
  rw [hf x y hx e];exact hm x hx
structure Pos (c:ax) (P:List Int) (ks:List aO):Prop where
 len:ks.length=P.length
 gH:∀ x∈P,0≤x∧x < c.ay.length
 at_:∀ (p:Nat),p < P.length→∃ (i:Nat) (k:aO) (st:List bl),P[p]?=some (i:Int)∧c.ay[i]?=some k∧aL (yh P) k.start=some st∧ks[p]?=some ({k with start:=st}:aO)
theorem bu.pos {c:ax} {P:List Int} {ks:List aO} (h:bu c P ks):Pos c P ks:=by
 obtain ⟨hr,hp⟩:=kC h.inc
 refine ⟨jT h.sel,fun x hx=>by have:=hr x hx;omega,fun p hp => ?_⟩
 obtain ⟨k',h1,h2⟩:=yz h.sel p P[p] (ua hp)
 obtain ⟨k,st,h3,h4,h5,rfl⟩:=LC h1
 refine ⟨P[p].toNat,k,st,?_,h4,h5,h2⟩
 rw [ua hp];congr 1;omega
section
variable {c:ax} {P:List Int} {ks:List aO}
theorem WE (ms:List aj):(fK P ms).length=P.length:=by simp [fK]
theorem jX {ms:List aj} {p i:Nat} (hp:P[p]?=some (i:Int)) (hi:i < ms.length):(fK P ms)[p]?=ms[i]?:=by
 unfold fK
 rw [u9,hp]
 simp [hi]
theorem XZ (h:Pos c P ks) {ms:List aj} (hl:ms.length=c.ay.length) {x y:bl} (hx:yh P x=some y):jI (fK P ms) y=jI ms x∧y.is=x.is∧P[y.clause.toNat]?=some (x.clause.toNat:Int):=by
 obtain ⟨q,h1,rfl⟩:=JM hx
 obtain ⟨q0,q1⟩:=XW h1
 have hr:=h.gH _ (uv q1)
 have e:x.clause=(x.clause.toNat:Int):=by omega
 have q2:P[q.toNat]?=some (x.clause.toNat:Int):=by rw [q1];congr 1
 refine ⟨?_,rfl,q2⟩
 have e1:ze (fK P ms) q=ze ms x.clause:=by
  unfold ze
  rw [if_pos q0,if_pos hr.1,jX q2 (by omega)]
 unfold jI
 simp only [e1]
theorem zfq (h:Pos c P ks) {ms:List aj} (hl:ms.length=c.ay.length) {p i:Nat} (hp:P[p]?=some (i:Int)):jv ks (fK P ms) p=jv c.ay ms i:=by
 obtain ⟨hlt,_⟩:=ub.1 hp
 obtain ⟨i',k,st,h1,h2,h3,h4⟩:=h.at_ p hlt
 rw [hp] at h1
 have e:i=i':=by have:=Option.some.inj h1;omega
 subst e
 have hi:=(ub.1 h2).1
 unfold jv
 rw [h4,h2,jX hp (by omega),ua (by omega:i < ms.length)]
 simp only
 rw [zhv h3 (f':=jI ms) fun x y _ hxy=>(XZ h hl hxy).1]
theorem Qt (h:Pos c P ks) {ms:List aj} (hl:ms.length=c.ay.length):∀ (n p i:Nat),P[p]?=some (i:Int)→(ZT ks (fK P ms) n p↔ZT c.ay ms n i)
 | 0,p,i,hp=>Iff.rfl
 | n+1,p,i,hp=>by
  obtain ⟨hlt,_⟩:=ub.1 hp
  obtain ⟨i',k,st,h1,h2,h3,h4⟩:=h.at_ p hlt
  rw [hp] at h1
  have e:i=i':=by have:=Option.some.inj h1;omega
  subst e
  have hi:=(ub.1 h2).1
  obtain ⟨m1,m2⟩:=Vr h3
  simp only [ZT,h4,h2,jX hp (by omega:i < ms.length)]
  constructor
  ·rintro ⟨k',m,e1,e2,e3,e4,e5⟩
   cases e1
   refine ⟨k,m,rfl,e2,e3,e4,fun x hx => ?_⟩
   obtain ⟨y,hy,hxy⟩:=m2 x hx
   obtain ⟨g1,g2,g3⟩:=XZ h hl hxy
   rcases e5 y hy with g | ⟨g,g'⟩
   ·exact .inl (by rw [←g1];exact g)
   ·exact .inr ⟨by rw [←g2];exact g,(Qt h hl n _ _ g3).1 g'⟩
  ·rintro ⟨k',m,e1,e2,e3,e4,e5⟩
   cases e1
   refine ⟨_,m,rfl,e2,e3,e4,fun y hy => ?_⟩
   obtain ⟨x,hx,hxy⟩:=m1 y hy
   obtain ⟨g1,g2,g3⟩:=XZ h hl hxy
   rcases e5 x hx with g | ⟨g,g'⟩
   ·exact .inl (by rw [g1];exact g)
   ·exact .inr ⟨by rw [g2];exact g,(Qt h hl n _ _ g3).2 g'⟩
theorem zjb (h:Pos c P ks) {ms:List aj} (hl:ms.length=c.ay.length) {p i:Nat} (hp:P[p]?=some (i:Int)):pg ks (fK P ms) p↔pg c.ay ms i:=
 ⟨fun ⟨n,hn⟩=>⟨n,(Qt h hl n p i hp).1 hn⟩,fun ⟨n,hn⟩=>⟨n,(Qt h hl n p i hp).2 hn⟩⟩
theorem YN (h:Pos c P ks) {hs:List Int} {ms r r':List aj} (hl:ms.length=c.ay.length) (S:dM c hs ms r) (S':dM (cp c ks) hs (fK P ms) r'):r'=fK P r:=by
 have hl':r'.length=P.length:=S'.ok.1.trans h.len
 refine uA fun p => ?_
 by_cases hp:p < P.length
 ·obtain ⟨i,k,st,h1,h2,h3,h4⟩:=h.at_ p hp
  have hi:=(ub.1 h2).1
  have eR:i < ms.length:=by omega
  have hm:=ua eR
  have hr:=S.ok.1
  rw [jX h1 (by omega:i < r.length)]
  have hs1:=S.Lq i k _ h2 hm
  have hs2:=S'.Lq p _ ms[i] h4 (by rw [jX h1 eR];exact hm)
  have e:=zjb h hl h1
  rcases hs1 with ⟨a1,a2⟩ | ⟨a1,a2⟩
  ·rcases hs2 with ⟨b1,b2⟩ | ⟨b1,b2⟩
   ·rw [a2,b2]
   ·exact absurd (e.1 b1) a1
  ·rcases hs2 with ⟨b1,b2⟩ | ⟨b1,b2⟩
   ·exact absurd (e.2 a1) b1
   ·rw [a2,b2];rfl
 ·rw [un (by omega),un (by rw [WE];omega)]
theorem kh (h:Pos c P ks) (F:aO→aj→aj) (hF:∀ (k:aO) (st:List bl) (m:aj),F ({k with start:=st}:aO) m=F k m) {ms:List aj} (hl:ms.length=c.ay.length):fK P (ms.mapIdx (fk c F))=(fK P ms).mapIdx (fk (cp c ks) F):=by
 refine uA fun p => ?_
 rw [uj]
 by_cases hp:p < P.length
 ·obtain ⟨i,k,st,h1,h2,h3,h4⟩:=h.at_ p hp
  have hi:=(ub.1 h2).1
  rw [jX h1 (by rw [uD];omega),jX h1 (by omega:i < ms.length),uj,ua (by omega:i < ms.length)]
  simp only [uC,fk,h2]
  have h4':(cp c ks).ay[p]?=some ({k with start:=st}:aO):=h4
  rw [h4']
  simp only [hF]
 ·rw [un (by rw [WE];omega),un (by rw [WE];omega)];rfl
theorem zjc (h:Pos c P ks) (act:Int) (a:aZ) (hs:List Int) {ms:List aj} (hl:ms.length=c.ay.length):fK P (iL c act a hs ms)=iL (cp c ks) act a hs (fK P ms):=by
 have e1:fK P (eY c act ms)=eY (cp c ks) act (fK P ms):=kh h _ (fun k st m=>rfl) hl
 have l1:(eY c act ms).length=c.ay.length:=by unfold eY;rw [uD];exact hl
 have e2:fK P (eG c act a hs ms)=eG (cp c ks) act a hs (fK P ms):=by
  unfold eG
  rw [kh h _ (fun k st m=>rfl) l1,e1]
 have l2:(eG c act a hs ms).length=c.ay.length:=by unfold eG;rw [uD];exact l1
 unfold iL
 cases (a.kind == 3) with
 | false=>exact e2
 | true=>
  simp only [bW]
  rw [kh h _ (fun k st m=>rfl) l2,e2]
theorem zkY (act:Int) (a:aZ) (hs:List Int) {ms:List aj}:(iL c act a hs ms).length=ms.length:=by
 unfold iL eG eY
 cases (a.kind == 3)<;>simp
theorem bu.th (hc:c.Ok) (h:bu c P ks):(cp c ks).Ok:=by
 have hpos:=h.pos
 have sm:=qy (hc.off.lt (by omega)) h.valid
 have dY:=sm.ay
 have hlen:=ZI h.inc
 refine {hc with ay:=⟨?_,fun k' hk' => ?_⟩}
 ·have:=hpos.len
  have hr:(54400:Nat)≤reachBytes:=by decide
  have:ks.length≤400:=by omega
  have:ks.length*136≤54400:=by omega
  first | omega | exact Nat.le_trans (by omega) hr
 ·obtain ⟨p,hp,rfl⟩:=uh hk'
  obtain ⟨i,k,st,h1,h2,h3,h4⟩:=hpos.at_ p (by rw [←hpos.len];exact hp)
  rw [ua hp] at h4
  rw [Option.some.inj h4]
  have hk:=hc.ay.2 k (uv h2)
  have hs8:=sm.start k (uv h2)
  refine {hk with start:=⟨?_,fun y hy => ?_⟩}
  ·rw [jT h3];exact hk.start.1
  ·obtain ⟨x,hx,hxy⟩:=(Vr h3).1 y hy
   obtain ⟨q,g1,rfl⟩:=JM hxy
   obtain ⟨q0,q1⟩:=XW g1
   have hq:=(ub.1 q1).1
   refine ⟨?_,(hk.start.2 x hx).is⟩
   unfold dR
   have e1:IntKind.i64.min = -9223372036854775808:=by decide
   have e2:IntKind.i64.max=9223372036854775807:=by decide
   rw [e1,e2]
   simp only
   omega
theorem WF (hc:c.Ok) (h:bu c P ks) {s:aG} (hv:VS c s):VS (cp c ks) (rs P s):=by
 have hp:=h.pos
 refine ⟨by rw [h.ok (hc.off.lt (by omega))],hv.day,hv.lh,hv.lu,?_,hv.hold,hv.used,fun p k' m hk hm => ?_,fun p hlt => ?_⟩
 ·show (fK P s.aI).length=ks.length
  rw [WE,hp.len]
 ·have hlt:p < ks.length:=(ub.1 hk).1
  obtain ⟨i,k,st,h1,h2,h3,h4⟩:=hp.at_ p (by rw [←hp.len];exact hlt)
  have hk:ks[p]?=some k':=hk
  rw [h4] at hk
  cases hk
  have hi:=(ub.1 h2).1
  have Bv:=hv.lm
  have hm:(fK P s.aI)[p]?=some m:=hm
  rw [jX h1 (by omega)] at hm
  exact hv.tY i k m h2 hm
 ·have hlt:p < ks.length:=hlt
  obtain ⟨i,k,st,h1,h2,h3,h4⟩:=hp.at_ p (by rw [←hp.len];exact hlt)
  show jv ks (fK P s.aI) p=false
  rw [zfq hp hv.lm h1]
  exact hv.Ct i (ub.1 h2).1
theorem wq (hc:c.Ok) (h:bu c P ks) {s:aG} (hv:VS c s) {a:Int} (h1 : -1≤a) (h2:a < c.aK.length) (hd:s.day < c.aX):zI (cp c ks) (rs P s) a=rs P (zI c s a):=by
 have hp:=h.pos
 obtain ⟨_,_,t1,a1⟩:=ja hc hv h1 h2 hd
 obtain ⟨_,_,t2,a2⟩:=ja (h.th hc) (WF hc h hv) h1 h2 hd
 rcases Int.lt_or_le a 0 with hneg | hpos
 ·obtain ⟨x1,x2,x3,x4⟩:=t1 (by omega)
  obtain ⟨y1,y2,y3,y4⟩:=t2 (by omega)
  refine YM (y1.trans (by rw [show (rs P (zI c s a)).day=(zI c s a).day from rfl,x1];rfl)) (y2.trans x2.symm) (y3.trans x3.symm) ?_
  refine YN hp (by rw [uD];exact hv.lm) x4 ?_
  have e:=kh hp (kg (jH c.off s.day).isSome) (fun k st m=>rfl) hv.lm
  rw [e]
  exact y4
 ·have ha:c.aK[a.toNat]?=some c.aK[a.toNat]:=ua (by omega)
  have g1:=a1 a.toNat _ (by omega) ha
  have g2:=a2 a.toNat _ (by omega) ha
  rcases g1 with ⟨x1,x2,x3⟩ | ⟨x1,x2,x3,x4,x5⟩
  ·rcases g2 with ⟨y1,y2,y3⟩ | ⟨y1,_⟩
   ·rw [x3,y3]
   ·have y1:c.aK[a.toNat].kind=1∨s.used[a.toNat]?=some false:=y1
    rw [x2] at y1
    simp [x1] at y1
  ·rcases g2 with ⟨y1,y2,y3⟩ | ⟨y1,y2,y3,y4,y5⟩
   ·have y2:s.used[a.toNat]?=some true:=y2
    rw [y2] at x1
    simp [y1] at x1
   ·refine YM (y2.trans x2.symm) (y3.trans x3.symm) (y4.trans x4.symm) ?_
    refine YN hp (by rw [zkY];exact hv.lm) x5 ?_
    rw [zjc hp _ _ _ hv.lm]
    exact y5
end
end
def kR (f:Nat→Nat):Nat→Nat
 | 0=>0
 | n+1=>kR f n+f n
theorem Ky {f g:Nat→Nat}:∀ {n:Nat},(∀ i,i < n→f i≤g i)→kR f n≤kR g n
 | 0,_=>uQ _
 | n+1,h=>by
  have:=Ky (f:=f) (g:=g) (n:=n) fun i hi=>h i (by omega)
  have:=h n (by omega)
  simp only [kR];omega
theorem LD {f g:Nat→Nat}:∀ {n:Nat},(∀ i,i < n→f i≤g i)→∀ i,i < n→f i < g i→kR f n < kR g n
 | 0,_,i,hi,_=>by omega
 | n+1,h,i,hi,hlt=>by
  have h1:=h n (by omega)
  simp only [kR]
  by_cases hin:i < n
  ·have:=LD (f:=f) (g:=g) (n:=n) (fun i hi=>h i (by omega)) i hin hlt
   omega
  ·obtain rfl:i=n:=by omega
   have:=Ky (f:=f) (g:=g) (n:=i) fun j hj=>h j (by omega)
   omega
theorem YO {f:Nat→Nat} {b:Nat}:∀ {n:Nat},(∀ i,i < n→f i≤b)→kR f n≤b*n
 | 0,_=>by simp [kR]
 | n+1,h=>by
  have:=YO (f:=f) (b:=b) (n:=n) fun i hi=>h i (by omega)
  have:=h n (by omega)
  simp only [kR,Nat.mul_succ];omega
def iB (m:aj):Nat:=bif m.aR == 0 then 9 else bif jc m then (9 - m.got).toNat else 0
def JN (ms:List aj) (i:Nat):Nat:=match ms[i]? with | some m=>iB m | none=>0
def YP (us:List Bool):Nat:=us.countP (fun u=>!u)
def yL (c:ax) (s:aG):Nat:=kR (JN s.aI) c.ay.length+YP s.used
theorem zkZ {c:ax} {s:aG} (hc:c.Ok) (hv:VS c s):yL c s≤9*c.ay.length+c.aK.length:=by
 have h1:kR (JN s.aI) c.ay.length≤9*c.ay.length:=YO fun i hi=>by
  unfold JN
  have eR:i < s.aI.length:=by have:=hv.lm;omega
  have hm:=ua eR
  have hk:=ua hi
  rw [hm]
  have hmk:=hv.tY i _ _ hk hm
  have kv:=wE (hc.off.lt (by omega)) hv.cv hk
  simp only [iB]
  cases h0:(s.aI[i].aR == 0) with
  | true=>simp
  | false=>
   cases hr:jc s.aI[i] with
   | false=>simp
   | true=>
    have:=(xU kv hmk hr).1.got
    simp only [b9,bW];omega
 have h2:YP s.used≤s.used.length:=List.countP_le_length
 have:=hv.lu
 unfold yL;omega
theorem zjd {c:ax} {i:Nat} {k:aO} {m:aj} {act bL:Int} (kv:KV c i k) (h:jw c.aW k m=true):ZV act bL k m=m∨iB (ZV act bL k m) < iB m:=by
 unfold ZV
 cases hr:jc m with
 | false=>exact .inl rfl
 | true=>
  obtain ⟨rv,hb,hs⟩:=xU kv h hr
  have h0:(m.aR == 0)=false:=beq_eq_false_iff_ne.2 (by omega)
  have hp:iB m=(9 - m.got).toNat:=by simp only [iB,h0,hr,b9,bW]
  have hg:=rv.got
  have hn:=kv.need
  have hend:∀ (st:Int) (m':aj),st=3∨st=4→iB (ZU st m')=0:=by
   intro st m' hst
   rcases hst with rfl | rfl<;>rfl
  simp only [bW]
  cases h1:(k.act == act&&(k.kind == 4||m.bz == bL)) with
  | false=>exact .inl rfl
  | true=>
   simp only [bW,Cw]
   cases h2:(k.kind == 1) with
   | true=>
    simp only [bW,Cv]
    refine .inr ?_
    cases h3:(m.got+1 == k.need) with
    | true=>simp only [bW];rw [hend 3 _ (.inl rfl),hp];omega
    | false=>
     have:iB {m with got:=m.got+1}=(9 - (m.got+1)).toNat:=by
      have hr':jc {m with got:=m.got+1}=true:=hr
      simp only [iB,h0,hr',b9,bW]
     simp only [b9];rw [this,hp];omega
   | false=>
    simp only [b9]
    cases h3:(k.kind == 2) with
    | true=>
     simp only [bW]
     cases m.bQ with
     | true=>exact .inl rfl
     | false=>refine .inr ?_;simp only [b9];rw [hend 4 _ (.inr rfl),hp];omega
    | false=>refine .inr ?_;simp only [b9];rw [hend 3 _ (.inl rfl),hp];omega
theorem zhw (a:aZ) (k:aO) (m:aj):iB (Zg a k m)=iB m:=by
 unfold Zg
 cases hr:jc m with
 | false=>rfl
 | true=>
  simp only [bW]
  cases (!(k.kind == 4)&&k.bK == a.bP) with
  | false=>rfl
  | true=>rfl
theorem zje {c:ax} {s r:aG} {j:Nat} {a:aZ} (hc:c.Ok) (hv:VS c s) (hr:VS c r) (ha:c.aK[j]?=some a) (Bw:a.bK ≠ -1) (h:Ez c j a s r) (hne:r≠s):yL c r < yL c s:=by
 have ho:=hc.off.lt (by omega:0 < 8)
 have Bv:=hv.lm
 have hlr:=hr.lm
 rcases h with ⟨_,_,e⟩ | ⟨hk,fD,Bc,LF,hst⟩
 ·exact absurd e hne
 ·have tj:∀ (i:Nat) (k:aO) (m:aj),c.ay[i]?=some k→yg j k m=m:=by
   intro i k m hk
   have kv:=wE ho hv.cv hk
   have nat_ne:∀ x:Int,yI c.aK x=true→(j:Int)≠x:=by
    intro x hx e
    subst e
    simp only [yI,zy ha,uc,beq_iff_eq] at hx
    exact Bw hx.2
   have hp:(j:Int)≠k.bg∧(j:Int)≠k.resume:=by
    rcases kv.bg with h | h
    ·omega
    ·exact ⟨nat_ne _ h.1,nat_ne _ h.2⟩
   unfold yg
   rw [beq_eq_false_iff_ne.2 hp.1,beq_eq_false_iff_ne.2 hp.2]
   cases jc m<;>rfl
  have h1:eY c j s.aI=s.aI:=by
   refine uA fun i => ?_
   unfold eY
   rw [uj]
   cases hi:s.aI[i]? with
   | none=>rfl
   | some m=>
    have:=(ub.1 hi).1
    have hk:=ua (show i < c.ay.length by omega)
    simp only [uC,fk,hk]
    rw [tj i _ m hk]
  have Bx:∀ (i:Nat) (m:aj),s.aI[i]?=some m→∃ m2,(eG c j a s.aE s.aI)[i]?=some m2∧(m2=m∨iB m2 < iB m):=by
   intro i m hi
   have:=(ub.1 hi).1
   have hk:=ua (show i < c.ay.length by omega)
   refine ⟨ZV j (jJ s.aE a) c.ay[i] m,?_,zjd (wE ho hv.cv hk) (hv.tY i _ m hk hi)⟩
   unfold eG
   rw [h1,uj,hi]
   simp only [uC,fk,hk]
  have EF:∀ (i:Nat) (m:aj),s.aI[i]?=some m→∃ m3,(iL c j a s.aE s.aI)[i]?=some m3∧iB m3≤iB m:=by
   intro i m hi
   obtain ⟨m2,h2,h3⟩:=Bx i m hi
   have hle:iB m2≤iB m:=by rcases h3 with rfl | h;exact uQ _;omega
   unfold iL
   cases a.kind == 3 with
   | false=>exact ⟨m2,h2,hle⟩
   | true=>
    have:=(ub.1 hi).1
    have hk:=ua (show i < c.ay.length by omega)
    refine ⟨Zg a c.ay[i] m2,?_,by rw [zhw];exact hle⟩
    simp only [bW]
    rw [uj,h2]
    simp only [uC,fk,hk]
  have hstart:∀ (i:Nat) (m3:aj),(iL c j a s.aE s.aI)[i]?=some m3→i < c.ay.length→JN r.aI i=iB m3:=by
   intro i m3 h3 hi
   have hi':=ua (show i < r.aI.length by omega)
   simp only [JN,hi']
   rcases hst.rel i m3 _ h3 hi' with h | ⟨h0,k,b,_,h⟩
   ·rw [h]
   ·rw [h]
    have:(m3.aR == 0)=true:=beq_iff_eq.2 h0
    simp only [iB,this,bW];rfl
  have hle:∀ i,i < c.ay.length→JN r.aI i≤JN s.aI i:=by
   intro i hi
   have hi':=ua (show i < s.aI.length by omega)
   obtain ⟨m3,h3,h4⟩:=EF i _ hi'
   rw [hstart i m3 h3 hi]
   simp only [JN,hi'];exact h4
  by_cases EG:a.kind=1
  ·
   have hk1:(a.kind == 1)=true:=beq_iff_eq.2 EG
   have gR:(a.kind == 3)=false:=beq_eq_false_iff_ne.2 (by omega)
   have e1:r.aE=s.aE:=by rw [Bc];simp only [hs3,hk1,bW]
   have e2:r.used=s.used:=by rw [LF];simp only [mg,hk1,bW]
   have e3:iL c j a s.aE s.aI=eG c j a s.aE s.aI:=by simp only [iL,gR,b9]
   by_cases hall:∀ (i:Nat) (m:aj),s.aI[i]?=some m→(eG c j a s.aE s.aI)[i]?=some m
   ·exfalso
    have e4:eG c j a s.aE s.aI=s.aI:=by
     refine uA fun i => ?_
     cases hi:s.aI[i]? with
     | some m=>exact hall i m hi
     | none=>
      unfold eG
      rw [h1,uj,hi];rfl
    have e5:r.aI=s.aI:=by
     rw [e3,e4] at hst
     exact hst.same hv.Ct
    apply hne
    cases r;cases s
    simp only at fD e1 e2 e5
    subst fD;subst e1;subst e2;subst e5;rfl
   ·have:∃ (i:Nat) (m:aj),s.aI[i]?=some m∧¬ (eG c j a s.aE s.aI)[i]?=some m:=by
     apply Classical.byContradiction
     intro hn
     apply hall
     intro i m hi
     apply Classical.byContradiction
     intro h2
     exact hn ⟨i,m,hi,h2⟩
    obtain ⟨i,m,hi,h2⟩:=this
    have hi':=(ub.1 hi).1
    obtain ⟨m2,h3,h4⟩:=Bx i m hi
    have hlt:iB m2 < iB m:=by
     rcases h4 with rfl | h
     ·exact absurd h3 h2
     ·exact h
    have:=LD hle i (by omega) (by
     rw [hstart i m2 (by rw [e3];exact h3) (by omega)]
     simp only [JN,hi];exact hlt)
    unfold yL;rw [e2];omega
  ·have hk1:(a.kind == 1)=false:=beq_eq_false_iff_ne.2 EG
   have hfree:=hk.resolve_left EG
   have:=Ky hle
   have hf:YP r.used < YP s.used:=by
    rw [LF]
    simp only [mg,hk1,b9]
    obtain ⟨hj,e⟩:=ub.1 hfree
    unfold YP
    rw [List.countP_set hj]
    have hp:0 < s.used.countP (fun u=>!u):=List.countP_pos_iff.2 ⟨_,ud hj,by simp [e]⟩
    simp only [e]
    simp
    omega
   unfold yL;omega
def up (above:List Int) (i:Nat):Nat:=(above.getD i 0).toNat
structure UF (n:Nat) (above:List Int):Prop where
 len:above.length=400
 le:∀ i,i < n→0≤above.getD i 0∧above.getD i 0≤(i:Int)
 l5:n≤400
def rt (above:List Int):Nat→Nat→Nat
 | 0,i=>i
 | k+1,i=>if up above i=i then i else rt above k (up above i)
def root (above:List Int) (i:Nat):Nat:=rt above (i+1) i
theorem UF.iM {n:Nat} {above:List Int} (h:UF n above) {i:Nat} (hi:i < n):up above i≤i:=by
 have:=h.le i hi;unfold up;omega
theorem UF.rt_eq {n:Nat} {above:List Int} (h:UF n above):∀ (k k' i:Nat),i < n→i < k→i < k'→rt above k i=rt above k' i
 | 0,_,i,_,h1,_=>by omega
 | _,0,i,_,_,h1=>by omega
 | k+1,k'+1,i,hi,h1,h2=>by
  simp only [rt]
  split
  ·rfl
  ·have:=h.iM hi
   exact h.rt_eq k k' (up above i) (by omega) (by omega) (by omega)
theorem UF.root_eq {n:Nat} {above:List Int} (h:UF n above) {i:Nat} (hi:i < n):root above i=if up above i=i then i else root above (up above i):=by
 show (if up above i=i then i else rt above i (up above i))=_
 have hu:=h.iM hi
 split
 ·rfl
 ·exact h.rt_eq i (up above i+1) (up above i) (by omega) (by omega) (by omega)
theorem UF.fL {n:Nat} {above:List Int} (h:UF n above):∀ (i:Nat),i < n→root above i≤i:=by
 intro i
 induction i using uz with
 | _ i ih=>
  intro hi
  rw [h.root_eq hi]
  have hu:=h.iM hi
  split
  ·exact uQ _
  ·have:=ih (up above i) (by omega) (by omega);omega
theorem UF.ld {n:Nat} {above:List Int} (h:UF n above):∀ (i:Nat),i < n→up above (root above i)=root above i:=by
 intro i
 induction i using uz with
 | _ i ih=>
  intro hi
  rw [h.root_eq hi]
  have hu:=h.iM hi
  split
  ·assumption
  ·exact ih (up above i) (by omega) (by omega)
theorem UF.fq {n:Nat} {above:List Int} (h:UF n above) {i:Nat} (hi:i < n):root above (root above i)=root above i:=by
 have h1:=h.ld i hi
 have h2:=h.fL i hi
 rw [h.root_eq (i:=root above i) (by omega),if_pos h1]
theorem LG {above:List Int} {k i:Nat} {v:Int} (hk:k < above.length):up (above.set k v) i=if i=k then v.toNat else up above i:=by
 unfold up
 rw [ue,ue,uF]
 by_cases h:k=i
 ·subst h;simp [hk]
 ·rw [if_neg h,if_neg (fun e=>h e.symm)]
theorem UF.set {n:Nat} {above:List Int} (h:UF n above) {k:Nat} {v:Int} (hv:0≤v) (nT:v≤k):UF n (above.set k v):=by
 refine ⟨by simp [h.len],fun i hi => ?_,h.l5⟩
 rw [ue,uF]
 by_cases e:k=i
 ·subst e
  rw [if_pos rfl]
  have:=h.l5
  rw [if_pos (by rw [h.len];omega)]
  exact ⟨hv,nT⟩
 ·rw [if_neg e,←ue]
  exact h.le i hi
theorem UF.oJ {n:Nat} {above:List Int} (h:UF n above) {k:Nat} (hk:k < n):UF n (above.set k (root above k:Int))∧∀ i,i < n→root (above.set k (root above k:Int)) i=root above i:=by
 have hle:=h.fL k hk
 have h':UF n (above.set k (root above k:Int)):=h.set (by omega) (by omega)
 refine ⟨h',fun i => ?_⟩
 have fA:k < above.length:=by rw [h.len];have:=h.l5;omega
 induction i using uz with
 | _ i ih=>
  intro hi
  rw [h'.root_eq hi,LG fA]
  by_cases e:i=k
  ·subst e
   rw [if_pos rfl]
   simp only [uu]
   split
   ·rename_i e2;exact e2.symm
   ·have:root above i < i:=by omega
    rw [ih (root above i) this (by omega),h.fq hi]
  ·rw [if_neg e,h.root_eq hi]
   have hu:=h.iM hi
   split
   ·rfl
   ·exact ih (up above i) (by omega) (by omega)
theorem UF.join {n:Nat} {above:List Int} (h:UF n above) {a b:Nat} (ha:a < n) (hb:b≤a) (oZ:root above a=a) (hrb:root above b=b):UF n (above.set a (b:Int))∧∀ i,i < n→root (above.set a (b:Int)) i=if root above i=a then b else root above i:=by
 have h':UF n (above.set a (b:Int)):=h.set (by omega) (by omega)
 refine ⟨h',fun i => ?_⟩
 have fA:a < above.length:=by rw [h.len];have:=h.l5;omega
 have hua:up above a=a:=by have:=h.ld a ha;rw [oZ] at this;exact this
 have hub:up above b=b:=by have:=h.ld b (by omega);rw [hrb] at this;exact this
 induction i using uz with
 | _ i ih=>
  intro hi
  rw [h'.root_eq hi,LG fA]
  by_cases e:i=a
  ·subst e
   rw [if_pos rfl,oZ,if_pos rfl]
   simp only [uu]
   split
   ·rename_i e2;exact e2.symm
   ·rw [ih b (by omega) (by omega),hrb]
    split
    ·rfl
    ·rfl
  ·rw [if_neg e]
   have hu:=h.iM hi
   split
   ·rename_i e2
    have:root above i=i:=by rw [h.root_eq hi,if_pos e2]
    rw [this,if_neg e]
   ·rename_i e2
    have:root above i=root above (up above i):=by rw [h.root_eq hi,if_neg e2]
    rw [this]
    exact ih (up above i) (by omega) (by omega)
theorem Zs {above:List Int} {k:Nat} (hk:k < above.length):above[k]?=some (above.getD k 0):=by
 rw [ue,ua hk];rfl
structure nA (n:Nat) (above bV:List Int):Prop where
 uf:UF n bV
 eq:∀ i,i < n→root bV i=root above i
theorem EH {n:Nat}:∀ (k i:Nat) (above:List Int),UF n above→i < n→i < k→∃ bV,xo k (i:Int) above=some ((root above i:Int),bV)∧nA n above bV
 | 0,i,above,_,_,h=>by omega
 | k+1,i,above,h,hi,hik=>by
  have oK:=h.l5
  have hl:=h.len
  have hle:=h.le i hi
  simp only [xo]
  unfold Wz
  have e1:zi 400 (i:Int)=some i:=zM (by omega)
  simp only [e1,aV,Zs (show i < above.length by omega)]
  by_cases e:above.getD i 0=(i:Int)
  ·have hb:(above.getD i 0 == (i:Int))=true:=by rw [e];simp
   rw [hb]
   simp only [bW,aV,Zs (show i < above.length by omega)]
   have hr:root above i=i:=by rw [h.root_eq hi,if_pos (by unfold up;omega)]
   exact ⟨above,by rw [hr,e],h,fun _ _=>rfl⟩
  ·have hb:(above.getD i 0 == (i:Int))=false:=beq_eq_false_iff_ne.2 e
   rw [hb]
   simp only [b9,aV]
   have bB:above.getD i 0=(up above i:Int):=by unfold up;omega
   have EI:up above i < i:=by unfold up;omega
   obtain ⟨a1,h1,h2⟩:=EH k (up above i) above h (by omega) (by omega)
   have LH:root above i=root above (up above i):=by rw [h.root_eq hi,if_neg (by omega)]
   have gJ:=h2.uf.len
   rw [bB,h1]
   simp only [aV,Zs (show i < a1.length by omega)]
   have gl:root a1 i=root above (up above i):=by rw [h2.eq i hi,LH]
   obtain ⟨c1,c2⟩:=h2.uf.oJ hi
   rw [gl] at c1 c2
   rw [List.getElem?_set_self (by omega)]
   simp only [aV]
   exact ⟨_,by rw [LH],c1,fun j hj=>by rw [c2 j hj,h2.eq j hj]⟩
theorem LI {n i:Nat} {above:List Int} (h:UF n above) (hi:i < n):xF (i:Int) above=xo (i+1) (i:Int) above:=by
 obtain ⟨a1,h1,h2⟩:=EH (i+1) i above h hi (Ub _)
 have key:∀ (k k' i:Nat) (above:List Int),UF n above→i < n→i < k→i < k'→xo k (i:Int) above=xo k' (i:Int) above:=by
  intro k
  induction k with
  | zero=>intro k' i above _ _ h;omega
  | succ k ih=>
   intro k' i above h hi h1 h2
   cases k' with
   | zero=>omega
   | succ k'=>
    have oK:=h.l5
    have hl:=h.len
    have hle:=h.le i hi
    simp only [xo]
    unfold Wz
    have e1:zi 400 (i:Int)=some i:=zM (by omega)
    simp only [e1,aV,Zs (show i < above.length by omega)]
    cases hb:(above.getD i 0 == (i:Int)) with
    | true=>rfl
    | false=>
     have e:=beq_eq_false_iff_ne.1 hb
     have bB:above.getD i 0=(up above i:Int):=by unfold up;omega
     have EI:up above i < i:=by unfold up;omega
     simp only [b9]
     rw [bB,ih k' (up above i) above h (by omega) (by omega) (by omega)]
 rw [h1]
 unfold xF
 exact Pm (i+1) fun k' hk=>by rw [key k' (i+1) i above h hi (by omega) (by omega)];exact h1
theorem X0 {n i:Nat} {above:List Int} (h:UF n above) (hi:i < n):∃ bV,xF (i:Int) above=some ((root above i:Int),bV)∧nA n above bV:=by
 rw [LI h hi]
 exact EH (i+1) i above h hi (Ub _)
theorem zm4 {n i j:Nat} {above:List Int} (h:UF n above) (hi:i < n) (hj:j < n):∃ bV,vi (i:Int) (j:Int) above=some bV∧UF n bV∧root bV i=root bV j∧(∀ x y,x < n→y < n→root above x=root above y→root bV x=root bV y)∧∀ x y,x < n→y < n→root bV x=root bV y→root above x=root above y∨((root above x=root above i∨root above x=root above j)∧(root above y=root above i∨root above y=root above j)):=by
 unfold vi
 obtain ⟨a1,e1,s1⟩:=X0 h hi
 obtain ⟨a2,e2,s2⟩:=X0 s1.uf hj
 obtain ⟨a3,e3,s3⟩:=X0 s2.uf hi
 obtain ⟨a4,e4,s4⟩:=X0 s3.uf hj
 have r2:root a1 j=root above j:=s1.eq j hj
 have r3:root a2 i=root above i:=by rw [s2.eq i hi,s1.eq i hi]
 have r4:root a3 j=root above j:=by rw [s3.eq j hj,s2.eq j hj,r2]
 have heq:∀ x,x < n→root a4 x=root above x:=fun x hx=>by rw [s4.eq x hx,s3.eq x hx,s2.eq x hx,s1.eq x hx]
 rw [r2] at e2
 rw [r3] at e3
 rw [r4] at e4
 simp only [e1,aV,e2,e3,e4]
 have hli:=h.fL i hi
 have hlj:=h.fL j hj
 have oK:=h.l5
 have hl4:=s4.uf.len
 have Cy:root a4 (root above i)=root above i:=by rw [heq _ (by omega),h.fq hi]
 have LJ:root a4 (root above j)=root above j:=by rw [heq _ (by omega),h.fq hj]
 have main:∀ a b:Nat,a < n→b≤a→root a4 a=a→root a4 b=b→(a=root above i∧b=root above j∨a=root above j∧b=root above i) →
   ∃ bV,(um (zi 400 (a:Int)) fun k1=>um (a4[k1]?) fun e1=>some (a4.set k1 (b:Int)))=some bV∧UF n bV∧root bV i=root bV j∧(∀ x y,x < n→y < n→root above x=root above y→root bV x=root bV y)∧∀ x y,x < n→y < n→root bV x=root bV y→root above x=root above y∨((root above x=root above i∨root above x=root above j)∧(root above y=root above i∨root above y=root above j)):=fun a b ha hb ra rb hc=>by
  obtain ⟨u1,u2⟩:=s4.uf.join ha hb ra rb
  refine ⟨_,by rw [zM (by omega)];simp only [Option.bind_some,Zs (show a < a4.length by omega)],u1,?_,fun x y hx hy hxy => ?_,fun x y hx hy hxy => ?_⟩
  ·rw [u2 i hi,u2 j hj,heq i hi,heq j hj]
   rcases hc with ⟨c1,c2⟩ | ⟨c1,c2⟩
   ·rw [if_pos c1.symm]
    split
    ·rfl
    ·exact c2
   ·rw [if_pos c1.symm]
    split
    ·rfl
    ·exact c2.symm
  ·rw [u2 x hx,u2 y hy,heq x hx,heq y hy,hxy]
  ·rw [u2 x hx,u2 y hy,heq x hx,heq y hy] at hxy
   by_cases e1:root above x=a
   ·rw [if_pos e1] at hxy
    by_cases e2:root above y=a
    ·exact .inl (e1.trans e2.symm)
    ·rw [if_neg e2] at hxy
     right
     rcases hc with ⟨c1,c2⟩ | ⟨c1,c2⟩
     ·exact ⟨.inl (by omega),.inr (by omega)⟩
     ·exact ⟨.inr (by omega),.inl (by omega)⟩
   ·rw [if_neg e1] at hxy
    by_cases e2:root above y=a
    ·rw [if_pos e2] at hxy
     right
     rcases hc with ⟨c1,c2⟩ | ⟨c1,c2⟩
     ·exact ⟨.inr (by omega),.inl (by omega)⟩
     ·exact ⟨.inl (by omega),.inr (by omega)⟩
    ·rw [if_neg e2] at hxy
     exact .inl hxy
 by_cases hlt:root above i < root above j
 ·rw [if_pos (by omega),if_neg (by omega)]
  exact main _ _ (by omega) (by omega) LJ Cy (.inr ⟨rfl,rfl⟩)
 ·rw [if_neg (by omega)]
  by_cases ig:root above j < root above i
  ·rw [if_pos (by omega)]
   exact main _ _ (by omega) (by omega) Cy LJ (.inl ⟨rfl,rfl⟩)
  ·have:root above i=root above j:=by omega
   rw [if_neg (by omega)]
   exact main _ _ (by omega) (by omega) Cy Cy (.inl ⟨rfl,this⟩)
structure lf (n:Nat) (ρ:Nat→Nat):Prop where
 le:∀ x,x < n→ρ x≤x
 idem:∀ x,x < n→ρ (ρ x)=ρ x
def j7 (ρ:Nat→Nat) (i:Nat):List Nat:=(uT i).filter (fun x=>ρ x == x)
def wu (ρ:Nat→Nat) (r i:Nat):List Int:=((uT i).filter (fun x=>ρ x == r)).map fun x:Nat=>(x:Int)
def qa (ρ:Nat→Nat) (i:Nat):List (List Int):=(j7 ρ i).map fun r=>wu ρ r i
theorem QC (ρ:Nat→Nat) (i:Nat):j7 ρ (i+1)=if ρ i=i then j7 ρ i++[i] else j7 ρ i:=by
 unfold j7
 rw [uV,uN]
 by_cases h:ρ i=i<;>simp [h]
theorem Qu (ρ:Nat→Nat) (r i:Nat):wu ρ r (i+1)=if ρ i=r then wu ρ r i++[(i:Int)] else wu ρ r i:=by
 unfold wu
 rw [uV,uN]
 by_cases h:ρ i=r<;>simp [h]
theorem yi {ρ:Nat→Nat} {i r:Nat}:r∈j7 ρ i↔r < i∧ρ r=r:=by simp [j7]
theorem xH {ρ:Nat→Nat} {r i:Nat} {x:Int}:x∈wu ρ r i↔0≤x∧x < i∧ρ x.toNat=r:=by
 simp only [wu,Un,Ug,uY,beq_iff_eq]
 constructor
 ·rintro ⟨y,⟨h1,h2⟩,rfl⟩;exact ⟨by omega,by omega,by simpa using h2⟩
 ·rintro ⟨h1,h2,h3⟩;exact ⟨x.toNat,⟨by omega,h3⟩,by omega⟩
theorem zcP (ρ:Nat→Nat) (i:Nat):(j7 ρ i).Nodup:=List.Pairwise.sublist List.filter_sublist List.nodup_range
theorem LK {ρ:Nat→Nat} {r:Nat} (hr:ρ r=r):∀ {i:Nat},r < i→(j7 ρ i)[(j7 ρ r).length]?=some r
 | 0,h=>by omega
 | i+1,h=>by
  rw [QC]
  rcases uB r i with h1 | h1
  ·have ih:=LK hr h1
   split
   ·rw [ut (ub.1 ih).1];exact ih
   ·exact ih
  ·obtain rfl:r=i:=by omega
   rw [if_pos hr];simp
theorem map_set {α β:Type} {f g:α→β} {v:β}:∀ {l:List α} {p:Nat} {r:α},l.Nodup→l[p]?=some r→g r=v→(∀ x∈l,x≠r→g x=f x)→(l.map f).set p v=l.map g
 | [],p,r,_,h,_,_=>by simp at h
 | x::l,0,r,hn,h,hv,hg=>by
  simp at h
  subst h
  simp only [u5,List.set_cons_zero,hv]
  congr 1
  refine u4 fun y hy=>(hg y (by simp [hy]) fun e => ?_).symm
  subst e
  exact (uW.1 hn).1 hy
 | x::l,p+1,r,hn,h,hv,hg=>by
  simp only [List.getElem?_cons_succ] at h
  simp only [u5,List.set_cons_succ]
  rw [map_set (uW.1 hn).2 h hv (fun y hy=>hg y (by simp [hy]))]
  rw [hg x (by simp) (fun e=>by subst e;exact (uW.1 hn).1 (uv h))]
theorem wG {β:Type} (a b:Int) (v:β):∀ es:List (Int×β),zl a (zG b v es)=if a=b then some v else zl a es
 | []=>by simp only [zG,zl]
 | (k,w)::r=>by
  have ih:=wG a b v r
  simp only [zG]
  by_cases h:b=k
  ·subst h
   simp only [if_pos,zl]
   by_cases h2:a=b
   ·simp [h2]
   ·simp [h2]
  ·rw [if_neg h]
   simp only [zl,ih]
   by_cases h2:a=k
   ·subst h2;rw [if_pos rfl,if_neg (fun e=>h e.symm),if_pos rfl]
   ·rw [if_neg h2,if_neg h2]
structure By (n:Nat) (above:List Int) (i:Nat) (s:List (List Int)×List (Int×Int)×List Int):Prop where
 same:nA n above s.2.2
 parts:s.1=qa (root above) i
 places:∀ r:Nat,r < i→root above r=r→zl (r:Int) s.2.1=some ((j7 (root above) r).length:Int)
theorem LL {n:Nat} {above:List Int} (h:UF n above):lf n (root above):=⟨h.fL,fun _ hx=>h.fq hx⟩
theorem zfr {n i:Nat} {ρ:Nat→Nat} (R:lf n ρ) (hi:i < n) (h:ρ i=i):qa ρ (i+1)=qa ρ i++[[(i:Int)]]:=by
 unfold qa
 rw [QC,if_pos h,Ue]
 congr 1
 ·refine u4 fun r hr => ?_
  rw [yi] at hr
  rw [Qu,if_neg (by omega)]
 ·simp only [u5,List.map_nil]
  rw [Qu,if_pos h]
  have:wu ρ i i=[]:=List.eq_nil_iff_forall_not_mem.2 fun x hx=>by
   rw [xH] at hx
   have:=R.le x.toNat (by omega)
   omega
  rw [this];rfl
theorem zfs {n i:Nat} {ρ:Nat→Nat} (R:lf n ρ) (hi:i < n) (h:ρ i≠i):(qa ρ i)[(j7 ρ (ρ i)).length]?=some (wu ρ (ρ i) i)∧qa ρ (i+1)=(qa ρ i).set (j7 ρ (ρ i)).length (wu ρ (ρ i) i++[(i:Int)]):=by
 have hle:=R.le i hi
 have nK:=LK (ρ:=ρ) (R.idem i hi) (i:=i) (by omega)
 refine ⟨by unfold qa;rw [u9,nK];rfl,?_⟩
 unfold qa
 rw [QC,if_neg h]
 refine (map_set (zcP ρ i) nK ?_ fun r hr hne => ?_).symm
 ·show wu ρ (ρ i) (i+1)=_
  rw [Qu,if_pos rfl]
 ·show wu ρ r (i+1)=_
  rw [Qu,if_neg (fun e=>hne e.symm)]
theorem zjf {n:Nat} {above:List Int} (h:UF n above):∃ ab,wk (n:Int) above=some (qa (root above) n,ab):=by
 have oK:=h.l5
 have R:=LL h
 unfold wk
 have hg:decide ((n:Int)≤1000000000000)=true:=by simp only [decide_eq_true_eq];omega
 rw [hg]
 simp only [bW]
 have:aq (aD (σ:=List (List Int)×List (Int×Int)×List Int) (ρ:=Unit) (n:Int) xN ([],[],above)) (fun o=>match o with | .inl s=>By n above n s | .inr _=>False):=by
  refine aq.dP (By n above) (by omega) ⟨⟨h,fun _ _=>rfl⟩,rfl,fun r hr=>by omega⟩ ?_ (fun s hs=>hs)
  rintro i ⟨Ls,es,ab⟩ hi ⟨g1,g2,g3⟩
  simp only at g1 g2 g3
  unfold xN
  obtain ⟨LM,e1,e2⟩:=X0 g1.uf hi
  rw [g1.eq i hi] at e1
  have hsame:nA n above LM:=⟨e2.uf,fun j hj=>by rw [e2.eq j hj,g1.eq j hj]⟩
  simp only [e1,aV]
  have hle:=R.le i hi
  by_cases he:root above i=i
  ·have hb:((root above i:Int) == (i:Int))=true:=by rw [he];simp
   rw [hb]
   refine aq.some ⟨hsame,?_,fun r hr tK => ?_⟩
   ·show Ls++[[(i:Int)]]=_
    rw [zfr R hi he,g2]
   ·show zl (r:Int) (zG (i:Int) (Ls.length:Int) es)=_
    rw [wG]
    split
    ·rename_i e3
     obtain rfl:r=i:=by omega
     rw [g2];simp [qa]
    ·exact g3 r (by omega) tK
  ·have hb:((root above i:Int) == (i:Int))=false:=by rw [beq_eq_false_iff_ne];omega
   rw [hb]
   obtain ⟨o1,o2⟩:=zfs R hi he
   have cU:=g3 (root above i) (by omega) (R.idem i hi)
   simp only [b9,cU,uq]
   rw [zN,g2,o1]
   simp only [aV,uu]
   exact aq.some ⟨hsame,o2.symm,fun r hr tK=>g3 r (by
    rcases uB r i with h5 | h5
    ·exact h5
    ·obtain rfl:r=i:=by omega
     exact absurd tK he) tK⟩
 obtain ⟨o,h1,h2⟩:=this
 rw [h1]
 cases o with
 | inl s=>exact ⟨s.2.2,by simp only [aV,uk];rw [←h2.parts]⟩
 | inr _=>exact h2.elim
def jV (k:aO):List Int:=if k.bg = -1 then [k.act] else [k.act,k.bg,k.resume]
theorem zhz (k:aO):kK k=some (jV k):=by
 unfold kK jV
 by_cases h:k.bg = -1
 ·simp [h]
 ·rw [if_neg h,beq_eq_false_iff_ne.2 h];rfl
theorem zhA (k:aO):(jV k).length≤3:=by unfold jV;split<;>simp
def wv (l:List aZ):Bool:=l.any fun a=>!(a.kind == 1)
theorem zoF (l:List aZ) (hl:l.length < 4611686018427387904):Wy l=some (wv l):=by
 unfold Wy Cp
 rw [wC (fun j=>match l[j]? with | some a=>a.kind == 1 | none=>true) (fun j=>(j:Int)) hl (fun j hj=>by
  simp only [zN,ua hj,aV,Co]
  cases (l[j].kind == 1)<;>rfl)]
 cases hf:(uT l.length).find? (fun j=>!(match l[j]? with | some a=>a.kind == 1 | none=>true)) with
 | none=>
  have:wv l=false:=by
   unfold wv
   rw [List.any_eq_false]
   intro a ha
   obtain ⟨j,hj,rfl⟩:=uh ha
   have:=kA hf j hj
   simp only [ua hj] at this
   simp [this]
  rw [this];rfl
 | some k=>
  obtain ⟨h2,h1,_⟩:=kB hf
  have:wv l=true:=by
   unfold wv
   rw [List.any_eq_true]
   simp only [ua h2] at h1
   exact ⟨l[k],ud h2,by rw [h1];rfl⟩
  rw [this]
  simp only [aV,Sum.elim_inr]
  have:decide ((0:Int)≤(k:Int))=true:=decide_eq_true (by omega)
  first | rfl | (rw [this])
structure Mg (n:Nat) (a b:List Int):Prop where
 uf:UF n b
 eq:∀ x y,x < n→y < n→root a x=root a y→root b x=root b y
theorem Mg.refl {n:Nat} {a:List Int} (h:UF n a):Mg n a a:=⟨h,fun _ _ _ _ e=>e⟩
theorem Mg.trans {n:Nat} {a b c:List Int} (h:Mg n a b) (h':Mg n b c):Mg n a c:=⟨h'.uf,fun x y hx hy e=>h'.eq x y hx hy (h.eq x y hx hy e)⟩
structure LN (E:Nat→Nat→Prop):Prop where
 refl:∀ x,E x x
 symm:∀ x y,E x y→E y x
 trans:∀ x y z,E x y→E y z→E x z
def UE (n:Nat) (E:Nat→Nat→Prop) (a:List Int):Prop:=∀ x y,x < n→y < n→root a x=root a y→E x y
theorem EJ {n i j:Nat} {above:List Int} (h:UF n above) (hi:i < n) (hj:j < n):aq (vi (i:Int) (j:Int) above) fun b=>Mg n above b∧root b i=root b j∧∀ E,LN E→E i j→UE n E above→UE n E b:=by
 obtain ⟨b,h1,h2,h3,h4,h5⟩:=zm4 h hi hj
 refine ⟨b,h1,⟨h2,h4⟩,h3,fun E hE hij hU x y hx hy hxy => ?_⟩
 rcases h5 x y hx hy hxy with e | ⟨e1,e2⟩
 ·exact hU x y hx hy e
 ·have hx':E x i:=e1.elim (fun e=>hU x i hx hi e) (fun e=>hE.trans _ _ _ (hU x j hx hj e) (hE.symm _ _ hij))
  have hy':E y i:=e2.elim (fun e=>hU y i hy hi e) (fun e=>hE.trans _ _ _ (hU y j hy hj e) (hE.symm _ _ hij))
  exact hE.trans _ _ _ hx' (hE.symm _ _ hy')
structure mV (c:ax) (E:Nat→Nat→Prop):Prop where
 Cz:LN E
 start:∀ (i:Nat) (k:aO),c.ay[i]?=some k→∀ s∈k.start,E i s.clause.toNat
 nQ:∀ (i j:Nat) (k q:aO) (a:Int),c.ay[i]?=some k→c.ay[j]?=some q→a∈jV k→a∈jV q→E i j
 whole:wv c.aK=true→∀ i j,i < c.ay.length→j < c.ay.length→E i j
structure rM (c:ax) (n:Nat) (us:List (Int×Int)):Prop where
 gH:∀ a u,zl a us=some u→0≤u∧u < n
 use:∀ a u,zl a us=some u→∃ q,c.ay[u.toNat]?=some q∧a∈jV q
structure rN (n:Nat) (k:aO) (i:Nat) (ab:List Int) (us:List (Int×Int)):Prop where
 start:∀ s∈k.start,root ab i=root ab s.clause.toNat
 nQ:∀ a∈jV k,∃ u:Nat,zl a us=some (u:Int)∧u < n∧root ab u=root ab i
structure tu (c:ax) (m:Nat) (s:List Int×List (Int×Int)):Prop where
 uf:UF c.ay.length s.1
 LO:rM c c.ay.length s.2
 whole:wv c.aK=true→∀ i,i < m→root s.1 0=root s.1 i
 least:∀ E,mV c E→UE c.ay.length E s.1
 LP:∀ (i:Nat) (k:aO),i < m→c.ay[i]?=some k→rN c.ay.length k i s.1 s.2
structure cE (c:ax) (ρ:Nat→Nat):Prop where
 whole:wv c.aK=true→∀ i j,i < c.ay.length→j < c.ay.length→ρ i=ρ j
 least:∀ E,mV c E→∀ i j,i < c.ay.length→j < c.ay.length→ρ i=ρ j→E i j
 fn:lf c.ay.length ρ
 start:∀ (i:Nat) (k:aO),c.ay[i]?=some k→∀ s∈k.start,ρ i=ρ s.clause.toNat
 nQ:∀ (i j:Nat) (k q:aO) (a:Int),c.ay[i]?=some k→c.ay[j]?=some q→a∈jV k→a∈jV q→ρ i=ρ j
theorem zk0 {n:Nat} {s:List Int} (h:UF n s) (hs:∀ i,i < n→s.getD i 0=(i:Int)):∀ i,i < n→root s i=i:=fun i hi=>by
 rw [h.root_eq hi,if_pos]
 unfold up
 rw [hs i hi];simp
theorem zcR (c:ax) (ho:c.off.length < 4611686018427387904) (hst:∀ k∈c.ay,k.start.length < 4611686018427387904) (hv:(zS c).1=0) :
  ∃ ρ,cE c ρ∧qj c=some (qa ρ c.ay.length):=by
 have sm:=qy ho hv
 have oK:=sm.ay
 have rK:=sm.aK
 suffices hh:aq (qj c) (fun l=>∃ ρ,cE c ρ∧l=qa ρ c.ay.length) by
  obtain ⟨l,h1,ρ,h2,rfl⟩:=hh
  exact ⟨ρ,h2,h1⟩
 unfold qj
 rw [Kw c ho hst]
 simp only [aV,hv,beq_self_eq_true,bW]
 refine aq.bind (P:=fun o=>match o with | .inl s=>UF c.ay.length s∧∀ i,i < c.ay.length→root s i=i | .inr _=>False) ?_ ?_
 ·refine aq.dP (fun m s=>s.length=400∧∀ i,i < m→s.getD i 0=(i:Int)) (by omega) ⟨by simp,fun i hi=>by omega⟩ ?_ ?_
  ·rintro i s hi ⟨h1,h2⟩
   rw [zM (by omega)]
   simp only [aV,Zs (show i < s.length by omega)]
   refine aq.some ⟨by simp [h1],fun j hj => ?_⟩
   rw [ue,uF]
   by_cases e:i=j
   ·subst e;rw [if_pos rfl,if_pos (by omega)];rfl
   ·rw [if_neg e,←ue];exact h2 j (by omega)
  ·rintro s ⟨h1,h2⟩
   have hu:UF c.ay.length s:=⟨h1,fun i hi=>by rw [h2 i hi];omega,oK⟩
   exact ⟨hu,zk0 hu h2⟩
 ·rintro (s1 | s1) h0
  case inr=>exact h0.elim
  obtain ⟨h0,LQ⟩:UF c.ay.length s1∧∀ i,i < c.ay.length→root s1 i=i:=h0
  simp only [uk,zoF c.aK (by omega),aV]
  refine aq.bind (P:=fun o=>match o with | .inl s=>tu c c.ay.length s | .inr _=>False) ?_ ?_
  ·refine aq.dP (tu c) (by omega) ⟨h0,⟨fun a u h=>(by cases h),fun a u h=>(by cases h)⟩,fun _ i hi=>by omega,fun E hE x y hx hy h=>(by rw [LQ x hx,LQ y hy] at h;rw [h];exact hE.Cz.refl y),fun i k hi=>by omega⟩ ?_ (fun s hs=>hs)
   rintro i ⟨ab,us⟩ hi ⟨i1,i2,i4,i5,i3⟩
   simp only at i1 i2 i3 i4 i5
   have hk:=ua hi
   have hs8:=sm.start _ (ud hi)
   simp only [zN,hk,aV]
   refine aq.bind (P:=fun b=>Mg c.ay.length ab b∧(wv c.aK=true→root b 0=root b i)∧∀ E,mV c E→UE c.ay.length E b) ?_ ?_
   ·cases hwh:wv c.aK with
    | false=>exact aq.some ⟨.refl i1,fun h=>(by cases h),i5⟩
    | true=>
     have:=EJ (i:=0) i1 (by omega) hi
     refine aq.bind this fun b hb=>aq.some ⟨hb.1,fun _=>hb.2.1,fun E hE=>hb.2.2 E hE.Cz (hE.whole hwh 0 i (by omega) hi) (i5 E hE)⟩
   ·rintro v1 ⟨gD,nT,tv⟩
    refine aq.bind (P:=fun o=>match o with | .inl b=>Mg c.ay.length v1 b∧(∀ E,mV c E→UE c.ay.length E b)∧∀ s∈c.ay[i].start,root b i=root b s.clause.toNat | .inr _=>False) ?_ ?_
    ·refine aq.dP (fun m b=>Mg c.ay.length v1 b∧(∀ E,mV c E→UE c.ay.length E b)∧∀ (q:Nat) (hq:q < c.ay[i].start.length),q < m→root b i=root b c.ay[i].start[q].clause.toNat) (by omega) ⟨.refl gD.uf,tv,fun q hq h=>by omega⟩ ?_ ?_
     ·rintro q b hq ⟨b1,b3,b2⟩
      have hcd:=sm.cond i _ hk _ (ud hq)
      simp only [zN,ua hq,aV]
      have e:c.ay[i].start[q].clause=(c.ay[i].start[q].clause.toNat:Int):=by omega
      have hj:c.ay[i].start[q].clause.toNat < c.ay.length:=by omega
      rw [e]
      refine aq.bind (EJ b1.uf hi hj) fun b' hb'=>aq.some ⟨b1.trans hb'.1,fun E hE=>hb'.2.2 E hE.Cz (hE.start i _ hk _ (ud hq)) (b3 E hE),fun q' nP hlt => ?_⟩
      rcases uB q' q with h | h
      ·have hcd':=sm.cond i _ hk _ (ud nP)
       exact hb'.1.eq _ _ hi (by omega) (b2 q' nP h)
      ·obtain rfl:q'=q:=by omega
       exact hb'.2.1
     ·rintro b ⟨b1,b3,b2⟩
      refine ⟨b1,b3,fun s hs => ?_⟩
      obtain ⟨q,hq,e⟩:=uh hs
      rw [←e];exact b2 q hq hq
    ·rintro (b | b) hb
     case inr=>exact hb.elim
     obtain ⟨b1,b3,b2⟩:=hb
     have b0:=gD.trans b1
     simp only [uk,zhz,aV]
     have rY:=zhA c.ay[i]
     refine aq.bind (P:=fun o=>match o with | .inl s=>tu c (i+1) s | .inr _=>False) ?_ ?_
     ·refine aq.dP (fun m s=>Mg c.ay.length b s.1∧rM c c.ay.length s.2∧(∀ E,mV c E→UE c.ay.length E s.1)∧(∀ a u,zl a us=some u→zl a s.2=some u)∧∀ (q:Nat) (hq:q < (jV c.ay[i]).length),q < m→∃ u:Nat,zl (jV c.ay[i])[q] s.2=some (u:Int)∧u < c.ay.length∧root s.1 u=root s.1 i) (by omega) ⟨.refl b1.uf,i2,b3,fun _ _ h=>h,fun q hq h=>by omega⟩ ?_ ?_
      ·rintro q ⟨d,ws⟩ hq ⟨d1,d2,d5,d3,d4⟩
       simp only at d1 d2 d3 d4 d5
       simp only [zN,ua hq,aV]
       cases hm:zl (jV c.ay[i])[q] ws with
       | some u=>
        have hu:=d2.gH _ _ hm
        obtain ⟨kq,hkq,haq⟩:=d2.use _ _ hm
        simp only [u6,bW,uq]
        have e:u=(u.toNat:Int):=by omega
        rw [e]
        have:=EJ (i:=u.toNat) d1.uf (by omega) hi
        refine aq.bind (P:=fun r:List Int×List (Int×Int)=>r.2=ws∧Mg c.ay.length d r.1∧(∀ E,mV c E→UE c.ay.length E r.1)∧root r.1 u.toNat=root r.1 i) (aq.bind this fun b' hb'=>aq.some ⟨rfl,hb'.1,fun E hE=>hb'.2.2 E hE.Cz (hE.nQ _ _ _ _ _ hkq hk haq (ud hq)) (d5 E hE),hb'.2.1⟩) ?_
        rintro ⟨d',ws'⟩ ⟨rfl,g1,g3,g2⟩
        refine aq.some ⟨d1.trans g1,d2,g3,d3,fun q' nP hlt => ?_⟩
        rcases uB q' q with h | h
        ·obtain ⟨u',f1,f2,f3⟩:=d4 q' nP h
         exact ⟨u',f1,f2,g1.eq _ _ f2 hi f3⟩
        ·obtain rfl:q'=q:=by omega
         exact ⟨u.toNat,by rw [←e];exact hm,by omega,g2⟩
       | none=>
        simp only [u7,b9,aV]
        refine aq.some ⟨d1,⟨fun a u hu => ?_,fun a u hu => ?_⟩,d5,fun a u hu => ?_,fun q' nP hlt => ?_⟩
        ·rw [wG] at hu
         split at hu
         ·cases hu;omega
         ·exact d2.gH a u hu
        ·rw [wG] at hu
         split at hu
         ·rename_i e
          cases hu
          exact ⟨c.ay[i],by rw [uu];exact hk,by rw [e];exact ud hq⟩
         ·exact d2.use a u hu
        ·show zl a (zG (jV c.ay[i])[q] (i:Int) ws)=some u
         rw [wG]
         split
         ·rename_i e;rw [e] at hu;rw [d3 _ _ hu] at hm;cases hm
         ·exact d3 a u hu
        ·show ∃ u:Nat,zl (jV c.ay[i])[q'] (zG (jV c.ay[i])[q] (i:Int) ws)=some (u:Int)∧u < c.ay.length∧root d u=root d i
         rw [wG]
         split
         ·exact ⟨i,rfl,hi,rfl⟩
         ·rename_i hne
          rcases uB q' q with h | h
          ·exact d4 q' nP h
          ·obtain rfl:q'=q:=by omega
           exact absurd rfl hne
      ·rintro ⟨d,ws⟩ ⟨d1,d2,d5,d3,d4⟩
       simp only at d1 d2 d3 d4 d5
       refine ⟨d1.uf,d2,fun hw j hj => ?_,d5,fun j k hj hkj => ?_⟩
       ·have LR:0 < c.ay.length:=by omega
        rcases uB j i with h | h
        ·exact (b0.trans d1).eq _ _ LR (by omega) (i4 hw j h)
        ·obtain rfl:j=i:=by omega
         exact (b1.trans d1).eq _ _ LR hi (nT hw)
       show rN c.ay.length k j d ws
       rcases uB j i with h | h
       ·have hj':j < c.ay.length:=by omega
        obtain ⟨g1,g2⟩:=i3 j k h hkj
        have M:=b0.trans d1
        refine ⟨fun s hs => ?_,fun a ha => ?_⟩
        ·have hcd:=sm.cond j k hkj s hs
         exact M.eq _ _ hj' (by omega) (g1 s hs)
        ·obtain ⟨u,f1,f2,f3⟩:=g2 a ha
         exact ⟨u,d3 _ _ f1,f2,M.eq _ _ f2 hj' f3⟩
       ·obtain rfl:j=i:=by omega
        rw [hk] at hkj
        cases hkj
        refine ⟨fun s hs => ?_,fun a ha => ?_⟩
        ·have hcd:=sm.cond j _ hk s hs
         exact d1.eq _ _ hi (by omega) (b2 s hs)
        ·obtain ⟨q,hq,e⟩:=uh ha
         rw [←e]
         exact d4 q hq hq
     ·rintro (s | s) hs
      ·exact aq.some hs
      ·exact hs.elim
  ·rintro (s | s) hs
   case inr=>exact hs.elim
   obtain ⟨c1,c2,c4,c5,c3⟩:=hs
   obtain ⟨LM,e⟩:=zjf c1
   simp only [uk,e,aV]
   refine aq.some ⟨root s.1,⟨fun hw i j hi hj=>(c4 hw i hi).symm.trans (c4 hw j hj),fun E hE i j hi hj h=>c5 E hE i j hi hj h,LL c1,fun i k hk=>(c3 i k (ub.1 hk).1 hk).start,fun i j k q a hk hq ha hb => ?_⟩,rfl⟩
   obtain ⟨u,f1,f2,f3⟩:=(c3 i k (ub.1 hk).1 hk).nQ a ha
   obtain ⟨u',g1,g2,g3⟩:=(c3 j q (ub.1 hq).1 hq).nQ a hb
   rw [f1] at g1
   have:u=u':=by have:=Option.some.inj g1;omega
   subst this
   rw [←f3,←g3]
theorem Vs {c:ax} {zw:Int} {p:aH} {n:Nat} {x:Int}:x∈jl c zw p n↔∃ i:Nat,i < n∧iZ c zw p i=true∧x=(i:Int):=by
 unfold jl
 simp only [Un,Ug,uY]
 constructor
 ·rintro ⟨i,⟨a,b⟩,rfl⟩;exact ⟨i,a,b,rfl⟩
 ·rintro ⟨i,a,b,rfl⟩;exact ⟨i,⟨a,b⟩,rfl⟩
theorem zO {c:ax} {zw:Int} {p:aH} {x:Int}:x∈zq c zw p↔(p.own=true∧x = -2)∨(p.state.day < c.aX∧p.own=false∧x = -1)∨(p.state.day < c.aX∧∃ i:Nat,i < c.aK.length∧iZ c zw p i=true∧x=(i:Int)):=by
 unfold zq
 by_cases hd:c.aX≤p.state.day
 ·have:¬ p.state.day < c.aX:=by omega
  simp only [hd,decide_true,bW,uK,this,false_and,or_false]
  cases p.own<;>simp
 ·have:p.state.day < c.aX:=by omega
  simp only [hd,decide_false,b9,uo,Vs,this,true_and]
  cases p.own<;>simp
theorem zjg (c:ax) (zw:Int) (p:aH) (n:Nat):(jl c zw p n).Pairwise (· < ·):=by
 unfold jl
 refine List.Pairwise.map _ (R:=fun a b:Nat=>a < b) (fun a b h=>by omega) ?_
 exact List.Pairwise.filter _ List.pairwise_lt_range
theorem zhB (c:ax) (zw:Int) (p:aH):(zq c zw p).Pairwise (· < ·):=by
 unfold zq
 refine uZ.2 ⟨by cases p.own<;>simp,?_,?_⟩
 ·cases decide (c.aX≤p.state.day) with
  | true=>exact List.Pairwise.nil
  | false=>
   refine uZ.2 ⟨by cases p.own<;>simp,zjg c zw p _,fun a ha b hb => ?_⟩
   obtain ⟨i,_,_,rfl⟩:=Vs.1 hb
   cases hp:p.own with
   | true=>rw [hp] at ha;simp at ha
   | false=>rw [hp] at ha;simp at ha;omega
 ·intro a ha b hb
  cases hp:p.own with
  | false=>rw [hp] at ha;simp at ha
  | true=>
   rw [hp] at ha hb
   simp at ha
   cases hd:decide (c.aX≤p.state.day) with
   | true=>rw [hd] at hb;simp at hb
   | false=>
    rw [hd] at hb
    simp only [b9,bW,uL] at hb
    obtain ⟨i,_,_,rfl⟩:=Vs.1 hb
    omega
def kN (s:aG):Int×List Int×List Bool×List aj:=(s.day,s.aE,s.used,s.aI)
def YQ (c:ax) (n:Int):Bool:=
 !(decide (20 < (c.aE.length:Int))||(decide (30 < (c.bE.length:Int))||(decide (70 < (c.aK.length:Int))||(decide (n < (c.ay.length:Int))||decide (100 < (c.off.length:Int))))))&&c.ay.all (fun k=>!decide (20 < (k.start.length:Int)))
theorem zhC (c:ax) (n:Int) (hc:c.ay.length < 4611686018427387904):Qn c n=some (YQ c n):=by
 unfold Qn YQ
 rw [ZP (l:=c.ay) (fun k=>!decide (20 < (k.start.length:Int))) hc (fun i hi=>by
  simp only [zN,ua hi,aV]
  cases decide (20 < (c.ay[i].start.length:Int))<;>rfl)]
 simp only [zs,aV,Bool.cond_true_left]
 cases (decide (20 < (c.aE.length:Int))||(decide (30 < (c.bE.length:Int))||(decide (70 < (c.aK.length:Int))||(decide (n < (c.ay.length:Int))||decide (100 < (c.off.length:Int)))))) <;>
  cases c.ay.all (fun k=>!decide (20 < (k.start.length:Int)))<;>rfl
def CA (c:ax):Bool:=YQ c 6&&(decide ((c.aK.length:Int)≤8)&&decide (c.aX≤20))
theorem zm5 {c:ax} (hc:c.Ok):YC c=some (CA c):=by
 unfold YC CA
 rw [zhC c 6 (hc.ay.lt (by omega))]
 simp only [zs,aV,uH]
theorem zm6 {c:ax} (hc:c.Ok) {s:aG} {i:Nat} {a:aZ} (hv:VS c s) (ha:c.aK[i]?=some a):XL c s i=some (jJ s.aE a):=by
 have av:=YJ hv.cv ha
 have hi:=(ub.1 ha).1
 unfold XL
 rw [vp c s hc,ZS hv]
 have e1:decide ((i:Int) < 0)=false:=decide_eq_false (by omega)
 have e2:decide ((c.aK.length:Int)≤(i:Int))=false:=decide_eq_false (by omega)
 simp only [aV,bW,e1,e2,b9]
 rw [Lr c s i a ha (by have:=av.bK;have:=hv.lh;omega)];rfl
theorem ki {d:Nat} (h:d < 10):(UInt8.ofNat (48+d)).toNat=48+d:=by
 rw [UInt8.toNat_ofNat'];omega
theorem X1:∀ (u:Nat),∀ b∈Lib.decDigits u,48≤b.toNat∧b.toNat≤57:=by
 intro u
 induction u using uz with
 | _ u ih=>
  intro b hb
  rw [Lib.decDigits] at hb
  by_cases h:u < 10
  ·rw [dif_pos h] at hb
   simp only [ui] at hb
   subst hb
   rw [ki h];omega
  ·rw [dif_neg h] at hb
   rcases uo.1 hb with hb | hb
   ·exact ih (u / 10) (by omega) b hb
   ·simp only [ui] at hb
    subst hb
    rw [ki (by omega)];omega
def X2 (l:List UInt8):Nat:=l.foldl (fun a b=>a*10+(b.toNat - 48)) 0
theorem Zi:∀ (u:Nat),X2 (Lib.decDigits u)=u:=by
 intro u
 induction u using uz with
 | _ u ih=>
  rw [Lib.decDigits]
  by_cases h:u < 10
  ·rw [dif_pos h]
   simp only [X2,Uh,Uj,ki h];omega
  ·rw [dif_neg h]
   have:=ih (u / 10) (by omega)
   unfold X2 at this ⊢
   rw [List.foldl_append,this]
   simp only [Uh,Uj,ki (show u % 10 < 10 by omega)];omega
theorem zjh {a b:Int} (h:Lib.itoa a=Lib.itoa b):a=b:=by
 have key:∀ (u v:Nat),45::Lib.decDigits u=Lib.decDigits v→False:=by
  intro u v h
  have:=X1 v 45 (by rw [←h];exact ur)
  have e:(45:UInt8).toNat=45:=rfl
  omega
 unfold Lib.itoa at h
 by_cases ha:a < 0
 ·by_cases hb:b < 0
  ·rw [if_pos ha,if_pos hb] at h
   have h1:=congrArg X2 (List.cons.inj h).2
   rw [Zi,Zi] at h1
   omega
  ·rw [if_pos ha,if_neg hb] at h
   exact (key _ _ h).elim
 ·by_cases hb:b < 0
  ·rw [if_neg ha,if_pos hb] at h
   exact (key _ _ h.symm).elim
  ·rw [if_neg ha,if_neg hb] at h
   have h1:=congrArg X2 h
   rw [Zi,Zi] at h1
   omega
theorem LS (n:Int):∀ b∈Lib.itoa n,b≠32:=by
 intro b hb e
 subst e
 have e:(32:UInt8).toNat=32:=rfl
 unfold Lib.itoa at hb
 split at hb
 ·rcases Ul.1 hb with h | h
  ·exact absurd h (by decide)
  ·have:=X1 _ _ h;omega
 ·have:=X1 _ _ hb;omega
def PI {α:Type} (f:α→List UInt8):Prop:=∀ (a b:α) (xs ys:List UInt8),f a++xs=f b++ys→a=b∧xs=ys
theorem LU:∀ {a b xs ys:List UInt8},(∀ x∈a,x≠32)→(∀ x∈b,x≠32)→a++32::xs=b++32::ys→a=b∧xs=ys
 | [],[],xs,ys,_,_,h=>⟨rfl,(List.cons.inj h).2⟩
 | [],y::b,xs,ys,_,hb,h=>absurd (List.cons.inj h).1.symm (hb y ur)
 | x::a,[],xs,ys,ha,_,h=>absurd (List.cons.inj h).1 (ha x ur)
 | x::a,y::b,xs,ys,ha,hb,h=>by
  obtain ⟨h1,h2⟩:=List.cons.inj h
  obtain ⟨h3,h4⟩:=LU (a:=a) (b:=b) (fun z hz=>ha z (uw _ hz)) (fun z hz=>hb z (uw _ hz)) h2
  exact ⟨by rw [h1,h3],h4⟩
theorem Q6:PI zK:=fun a b xs ys h=>by
 unfold zK at h
 rw [ug,ug] at h
 obtain ⟨h1,h2⟩:=LU (LS a) (LS b) h
 exact ⟨zjh h1,h2⟩
theorem Kz:PI qi:=fun a b xs ys h=>by
 unfold qi at h
 obtain ⟨h1,h2⟩:=List.cons.inj h
 refine ⟨?_,h2⟩
 cases a<;>cases b<;>first | rfl | exact absurd h1 (by decide)
theorem zk1:PI je:=fun a b xs ys h=>by
 unfold je at h
 simp only [ug] at h
 obtain ⟨h1,h⟩:=Q6 _ _ _ _ h
 obtain ⟨h2,h⟩:=Q6 _ _ _ _ h
 obtain ⟨h3,h⟩:=Q6 _ _ _ _ h
 obtain ⟨h4,h⟩:=Q6 _ _ _ _ h
 obtain ⟨h5,h6⟩:=Kz _ _ _ _ h
 refine ⟨?_,h6⟩
 clear h6 h
 cases a;cases b
 simp only at h1 h2 h3 h4 h5
 subst h1;subst h2;subst h3;subst h4;subst h5
 rfl
theorem WG {α:Type} {f:α→List UInt8} (hf:PI f):∀ {l m:List α} {xs ys:List UInt8},l.length=m.length→l.flatMap f++xs=m.flatMap f++ys→l=m∧xs=ys
 | [],[],_,_,_,h=>⟨rfl,h⟩
 | [],_::_,_,_,hl,_=>by simp at hl
 | _::_,[],_,_,hl,_=>by simp at hl
 | a::l,b::m,xs,ys,hl,h=>by
  rw [uR,uR,ug,ug] at h
  obtain ⟨h1,h⟩:=hf _ _ _ _ h
  obtain ⟨h2,h⟩:=WG hf (by simpa using hl) h
  exact ⟨by rw [h1,h2],h⟩
theorem zji {c:ax} {p q:aH} (hp:VS c p.state) (hq:VS c q.state) (h:qH p=qH q):p=q:=by
 unfold qH at h
 simp only [ug] at h
 obtain ⟨h1,h⟩:=Kz _ _ _ _ h
 obtain ⟨h2,h⟩:=Q6 _ _ _ _ h
 obtain ⟨h3,h⟩:=WG Q6 (by rw [hp.lh,hq.lh]) h
 obtain ⟨h4,h⟩:=WG Kz (by rw [hp.lu,hq.lu]) h
 have h5:=(WG (l:=p.state.aI) (m:=q.state.aI) (xs:=[]) (ys:=[]) zk1 (by rw [hp.lm,hq.lm]) (by rw [uK,uK];exact h)).1
 clear h
 obtain ⟨⟨d,hs,us,ms⟩,o⟩:=p
 obtain ⟨⟨d',hs',us',ms'⟩,o'⟩:=q
 simp only at h1 h2 h3 h4 h5
 subst h1;subst h2;subst h3;subst h4;subst h5;rfl
theorem JO {α:Type} {f:α→List UInt8} {b:Nat}:∀ {l:List α},(∀ a∈l,(f a).length≤b)→(l.flatMap f).length≤l.length*b
 | [],_=>by simp
 | a::l,h=>by
  have h1:=h a ur
  have h2:=JO (f:=f) (b:=b) (l:=l) fun x hx=>h x (uw _ hx)
  rw [uR,uE,uI,Nat.succ_mul];omega
theorem zm7 {c:ax} {i:Nat} {k:aO} {m:aj} (kv:KV c i k) (hp:c.aW≤12) (h:jw c.aW k m=true):(0≤m.aR∧m.aR≤5)∧(0≤m.left∧m.left≤400)∧(0≤m.got∧m.got≤9)∧(-1≤m.bz∧m.bz≤12):=by
 have hn:=kv.need
 rcases wp.1 h with ⟨h0,_,h1⟩ | ⟨h0,h1,h2⟩ | ⟨h0,h1,h2,h3⟩ | ⟨h0,h1⟩
 ·simp only [Cr,uc,beq_iff_eq] at h1
  omega
 ·have hr:jc m=true:=by simp [jc,h0]
  obtain ⟨rv,_,_⟩:=xU kv h hr
  have:=rv.left;have:=rv.got;have:=rv.bz
  omega
 ·have hr:jc m=true:=by simp [jc,h0]
  obtain ⟨rv,_,_⟩:=xU kv h hr
  have:=rv.left;have:=rv.got;have:=rv.bz
  omega
 ·simp only [Cs,uc,beq_iff_eq,decide_eq_true_eq] at h1
  omega
theorem yM {n:Int} (h0 : -1000000≤n) (h1:n≤1000000):jA n=true:=by
 simp only [jA,uc,decide_eq_true_eq];omega
theorem Zt {n:Int} (h0 : -1000000≤n) (h1:n≤1000000):(zK n).length≤22:=by
 have:=Lib.itoa_length_le n (by omega) (by omega)
 simp only [zK,uE,uI,uX];omega
def txt (p:aH):ByteArray:=⟨(qH p).toArray⟩
theorem LV {c:ax} {p q:aH} (hp:VS c p.state) (hq:VS c q.state) (h:txt p=txt q):p=q:=by
 refine zji hp hq ?_
 unfold txt at h
 have h2:=congrArg (fun b:ByteArray=>b.data.toList) h
 simpa using h2
theorem LW {c:ax} (hc:c.Ok) {p:aH} (hp:VS c p.state):xl p=some (txt p):=by
 have ho:=hc.off.lt (by omega:0 < 8)
 have sm:=qy ho hp.cv
 have hpa:=sm.aW
 have hda:=sm.aX
 have fD:=hp.day
 have hf:=hp.s9 hc
 have hh:∀ h∈p.state.aE,-1000000≤h∧h≤1000000:=fun h hh=>by have:=hp.hold h hh;omega
 have hm:∀ m∈p.state.aI,(0≤m.aR∧m.aR≤5)∧(0≤m.left∧m.left≤400)∧(0≤m.got∧m.got≤9)∧(-1≤m.bz∧m.bz≤12):=fun m hm=>by
  obtain ⟨i,hi,rfl⟩:=uh hm
  have hk:=ua (show i < c.ay.length by have:=hp.lm;omega)
  exact zm7 (wE ho hp.cv hk) (by omega) (hp.tY i _ _ hk (ua hi))
 have hlen:(qH p).length≤1000000000:=by
  have h1:=Zt (n:=p.state.day) (by omega) (by omega)
  have h2:=JO (f:=zK) (b:=22) (l:=p.state.aE) fun h AF=>Zt (hh h AF).1 (hh h AF).2
  have h3:=JO (f:=qi) (b:=1) (l:=p.state.used) fun _ _=>by simp [qi]
  have h4:=JO (f:=je) (b:=89) (l:=p.state.aI) fun m hm'=>by
   have:=hm m hm'
   have a1:=Zt (n:=m.aR) (by omega) (by omega)
   have a2:=Zt (n:=m.left) (by omega) (by omega)
   have a3:=Zt (n:=m.got) (by omega) (by omega)
   have a4:=Zt (n:=m.bz) (by omega) (by omega)
   simp only [je,qi,uE,uI,uX];omega
  simp only [qH,uE]
  have:(qi p.own).length=1:=rfl
  omega
 have hok:tX p=true:=by
  simp only [tX,uc,decide_eq_true_eq,uy]
  refine ⟨⟨⟨yM (by omega) (by omega),fun x hx=>yM (hh x hx).1 (hh x hx).2⟩,fun m hm' => ?_⟩,hlen⟩
  have:=hm m hm'
  exact ⟨⟨⟨yM (by omega) (by omega),yM (by omega) (by omega)⟩,yM (by omega) (by omega)⟩,yM (by omega) (by omega)⟩
 unfold xl txt
 rw [if_pos hok]
instance:BEq aH:=⟨fun a b=>a.own == b.own&&xZ a.state b.state⟩
instance:LawfulBEq aH where
 eq_of_beq {a b} h:=by
  have h':(a.own == b.own&&xZ a.state b.state)=true:=h
  simp only [uc,beq_iff_eq,vJ] at h'
  obtain ⟨h1,h2⟩:=h'
  cases a;cases b;simp_all
 rfl {a}:=by
  show (a.own == a.own&&xZ a.state a.state)=true
  simp [vJ.2 rfl]
noncomputable instance:DecidableEq aH:=fun a b=>if h:(a == b)=true then isTrue (eq_of_beq h) else isFalse fun e=>h (beq_iff_eq.2 e)
def Q7 (q:aH) (L:List aH):Option Int:=if q∈L then some (L.idxOf q:Int) else none
def visit (L:List aH) (q:aH):Option (Int×List aH):=if q∈L then some ((L.idxOf q:Int),L) else if L.length=1500 then none else some ((L.length:Int),L++[q])
def Bz (L:List aH) (F:List (ByteArray×Int)) (q:aH):List (ByteArray×Int):=if q∈L then F else zG (txt q) (L.length:Int) F
def mW (c:ax) (F:List (ByteArray×Int)) (L:List aH):Prop:=∀ q:aH,VS c q.state→zl (txt q) F=Q7 q L
theorem Q8 {α β:Type} [DecidableEq α] (k:α) (v:β):∀ l:List (α×β),zl k (zG k v l)=some v
 | []=>by simp [zG,zl]
 | (k',v')::r=>by
  unfold zG
  split
  ·simp [zl]
  ·rename_i h;simp only [zl,h,if_false];exact Q8 k v r
theorem X3 {α β:Type} [DecidableEq α] {k k2:α} (v:β) (h:k2≠k):∀ l:List (α×β),zl k2 (zG k v l)=zl k2 l
 | []=>by simp [zG,zl,h]
 | (k',v')::r=>by
  unfold zG
  split
  ·rename_i e;subst e;simp only [zl,h,if_false]
  ·by_cases h2:k2=k'
   ·simp only [zl,h2,if_true]
   ·simp only [zl,h2,if_false];exact X3 v h r
theorem zdx {q q':aH} {L:List aH} (hq:q ∉ L):Q7 q' (L++[q])=if q'=q then some (L.length:Int) else Q7 q' L:=by
 unfold Q7
 by_cases h:q'=q
 ·subst h
  rw [if_pos (by simp),if_pos rfl,Ua,if_neg hq]
  simp
 ·rw [if_neg h]
  by_cases hm:q'∈L
  ·rw [if_pos (by simp [hm]),if_pos hm,Ua,if_pos hm]
  ·rw [if_neg (by simp [hm,h]),if_neg hm]
theorem mW.visit {c:ax} {F:List (ByteArray×Int)} {L L':List aH} {q:aH} {to:Int} (h:mW c F L) (hq:VS c q.state) (hv:visit L q=some (to,L')):mW c (Bz L F q) L':=by
 unfold Go.Proofs.YtlpmnmbebkdocaaGreatDoor.visit at hv
 unfold Bz
 by_cases hm:q∈L
 ·rw [if_pos hm] at hv ⊢; cases hv;exact h
 ·rw [if_neg hm] at hv ⊢
  split at hv
  ·cases hv
  ·cases hv
   intro q' nP
   rw [zdx hm]
   by_cases e:q'=q
   ·subst e;rw [Q8,if_pos rfl]
   ·rw [X3 _ (fun h2=>e (LV nP hq h2)),if_neg e,h q' nP]
theorem zjj {c:ax} {F:List (ByteArray×Int)} {L:List aH} {q:aH} (h:mW c F L) (hq:VS c q.state) (hl:L.length≤1500) :
  (bif ((zl (txt q) F).isSome) then some (.inl (((zl (txt q) F).getD 0),L,F)) else (bif ((L.length:Int) == 1500) then some (.inr ()) else (um (zJ (α:=aH) 88 L [q]) fun e2=>some (.inl ((L.length:Int),e2,(zG (txt q) (L.length:Int) F)))))) =
   some (match visit L q with | some (to,L')=>(.inl (to,L',Bz L F q):(Int×(List aH)×(List (ByteArray×Int))) ⊕ Unit) | none=>.inr ()):=by
 rw [h q hq]
 unfold Q7 visit Bz
 by_cases hm:q∈L
 ·simp only [hm,if_true,u6,bW,uq]
 ·simp only [hm,if_false,u7,b9]
  by_cases h2:L.length=1500
  ·have:((L.length:Int) == 1500)=true:=beq_iff_eq.2 (by omega)
   simp only [h2,if_true];rfl
  ·have:((L.length:Int) == 1500)=false:=beq_eq_false_iff_ne.2 (by omega)
   simp only [h2,if_false,this,b9]
   rw [xT (by simp;omega)];rfl
noncomputable def xq (c:ax) (e:aH):List Int→List aH×List bh→Option (List aH×List bh)
 | [],s=>some s
 | m::ms,(L,K)=>match visit L (target c e m) with
  | none=>none
  | some (to,L')=>xq c e ms (L',K++[{step:=m,to:=to}])
theorem QD (c:ax) (e:aH):∀ (a b:List Int) (s:List aH×List bh),xq c e (a++b) s=(xq c e a s).bind (xq c e b)
 | [],b,s=>rfl
 | m::a,b,(L,K)=>by
  simp only [Uc,xq]
  cases visit L (target c e m) with
  | none=>rfl
  | some x=>exact QD c e a b _
def Vt:Nat→List bh→Option Nat
 | n,[]=>some n
 | n,t::r=>if 0≤t.to∧t.to≤(n:Int) then Vt (if t.to=(n:Int) then n+1 else n) r else none
def kO:Nat→Nat→List (List bh)→Option Nat
 | i,n,[]=>some n
 | i,n,l::r=>if i < n then (Vt n l).bind fun n'=>kO (i+1) n' r else none
theorem W6 (l:List bh):∀ (M:List (List bh)) (i n:Nat),kO i n (M++[l])=(kO i n M).bind fun n'=>if i+M.length < n' then Vt n' l else none
 | [],i,n=>by
  simp only [uL,kO,aV,uX,Nat.add_zero]
  split
  ·cases Vt n l<;>rfl
  ·rfl
 | x::M,i,n=>by
  simp only [Uc,kO,uI]
  split
  ·cases Vt n x with
   | none=>rfl
   | some n'=>
    simp only [aV]
    rw [W6 l M (i+1) n',show i+1+M.length=i+(M.length+1) by omega]
  ·rfl
inductive mX (c:ax) (zw:Int) (p0:aH):aH→Prop where
 | base:mX c zw p0 p0
 | step {q:aH} {m:Int} (h:mX c zw p0 q) (hm:m∈zq c zw q):mX c zw p0 (target c q m)
theorem X4 {c:ax} (hc:c.Ok) {zw:Int} {e:aH} {m:Int} (he:VS c e.state) (hm:m∈zq c zw e):VS c (target c e m).state:=by
 unfold target
 by_cases h2:m = -2
 ·rw [if_pos h2];exact he
 ·rw [if_neg h2]
  rcases zO.1 hm with h | ⟨hd,_,rfl⟩ | ⟨hd,i,hi,_,rfl⟩
  ·exact absurd h.2 h2
  ·exact (ja hc he (by omega) (by omega) hd).2.1
  ·exact (ja hc he (by omega) (by omega) hd).2.1
structure gA (c:ax) (zw:Int) (p0:aH) (L:List aH):Prop where
 vs:∀ q∈L,VS c q.state
 nd:L.Nodup
 rO:∀ q∈L,mX c zw p0 q
 len:L.length≤1500
theorem LX {c:ax} {zw:Int} {p0 q:aH} {L L':List aH} {to:Int} (h:gA c zw p0 L) (hq:VS c q.state) (hr:mX c zw p0 q) (hv:visit L q=some (to,L')) :
  gA c zw p0 L'∧(∃ r,L'=L++r)∧0≤to∧L'[to.toNat]?=some q∧to≤(L.length:Int)∧L'.length=(if to=(L.length:Int) then L.length+1 else L.length):=by
 unfold visit at hv
 by_cases hm:q∈L
 ·rw [if_pos hm] at hv;cases hv
  have hi:=List.idxOf_lt_length_iff.2 hm
  refine ⟨h,⟨[],by simp⟩,by omega,?_,by omega,by rw [if_neg (by omega)]⟩
  rw [uu,ua hi,List.getElem_idxOf hi]
 ·rw [if_neg hm] at hv
  split at hv
  ·cases hv
  ·rename_i hl
   cases hv
   have hlen:=h.len
   refine ⟨⟨fun x hx => ?_,?_,fun x hx => ?_,by simp;omega⟩,⟨[q],rfl⟩,by omega,by simp,Int.le_refl _,by simp⟩
   ·rcases uo.1 hx with hx | hx
    ·exact h.vs x hx
    ·rw [ui.1 hx];exact hq
   ·exact List.nodup_append.2 ⟨h.nd,by simp,fun a ha b hb=>by rw [ui.1 hb];exact fun e=>hm (e ▸ ha)⟩
   ·rcases uo.1 hx with hx | hx
    ·exact h.rO x hx
    ·rw [ui.1 hx];exact hr
theorem zhE {L:List aH} {q:aH} (hv:visit L q=none):q ∉ L:=by
 unfold visit at hv
 split at hv
 ·cases hv
 ·assumption
theorem zft {L:List aH} {q:aH} (hv:visit L q=none):L.length=1500:=by
 unfold visit at hv
 split at hv
 ·cases hv
 ·split at hv
  ·rename_i h;exact h
  ·cases hv
def l6 (c:ax) (zw:Int) (L:List aH) (e:aH) (ms:List Int) (T:List bh):Prop:=T.map (·.step)=ms∧∀ t∈T,0≤t.to∧L[t.to.toNat]?=some (target c e t.step)
theorem WH {α:Type} {L r:List α} {i:Nat} {x:α} (h:L[i]?=some x):(L++r)[i]?=some x:=by
 rw [ut (ub.1 h).1];exact h
theorem l6.app {c:ax} {zw:Int} {L:List aH} {e:aH} {ms:List Int} {T:List bh} (h:l6 c zw L e ms T) (r:List aH):l6 c zw (L++r) e ms T:=
 ⟨h.1,fun t ht=>⟨(h.2 t ht).1,WH (h.2 t ht).2⟩⟩
theorem Vu {c:ax} (hc:c.Ok) {zw:Int} {p0 e:aH} (he:VS c e.state) (hr:mX c zw p0 e):∀ (ms:List Int) (L L':List aH) (K K':List bh),(∀ m∈ms,m∈zq c zw e)→gA c zw p0 L→xq c e ms (L,K)=some (L',K') →
  gA c zw p0 L'∧(∃ r,L'=L++r)∧∃ T,K'=K++T∧l6 c zw L' e ms T∧Vt L.length T=some L'.length
 | [],L,L',K,K',_,h,hp=>by
  cases hp
  exact ⟨h,⟨[],by simp⟩,[],by simp,⟨rfl,fun t ht=>by cases ht⟩,rfl⟩
 | m::ms,L,L',K,K',nM,h,hp=>by
  simp only [xq] at hp
  have hm:=nM m ur
  cases hv:visit L (target c e m) with
  | none=>rw [hv] at hp;cases hp
  | some x=>
   obtain ⟨to,L1⟩:=x
   rw [hv] at hp
   obtain ⟨h1,⟨r1,e1⟩,t0,tq,tl,tn⟩:=LX h (X4 hc he hm) (.step hr hm) hv
   obtain ⟨h2,⟨r2,e2⟩,T,eT,hT,pU⟩:=Vu hc he hr ms L1 L' _ K' (fun x hx=>nM x (uw _ hx)) h1 hp
   refine ⟨h2,⟨r1++r2,by rw [e2,e1,ug]⟩,{step:=m,to:=to}::T,by rw [eT];simp,⟨by simp [hT.1],fun t ht => ?_⟩,?_⟩
   ·rcases Ul.1 ht with rfl | ht
    ·exact ⟨t0,by rw [e2];exact WH tq⟩
    ·exact hT.2 t ht
   ·simp only [Vt]
    rw [if_pos ⟨t0,tl⟩,←tn];exact pU
theorem LY {c:ax} (hc:c.Ok) {zw:Int} {p0 e:aH} (he:VS c e.state) (hr:mX c zw p0 e):∀ (ms:List Int) (L:List aH) (K:List bh),(∀ m∈ms,m∈zq c zw e)→gA c zw p0 L→xq c e ms (L,K)=none →
  ∃ L1,gA c zw p0 L1∧L1.length=1500∧∃ q,mX c zw p0 q∧q ∉ L1
 | [],L,K,_,h,hp=>by cases hp
 | m::ms,L,K,nM,h,hp=>by
  simp only [xq] at hp
  have hm:=nM m ur
  cases hv:visit L (target c e m) with
  | none=>exact ⟨L,h,zft hv,_,.step hr hm,zhE hv⟩
  | some x=>
   obtain ⟨to,L1⟩:=x
   rw [hv] at hp
   obtain ⟨h1,_⟩:=LX h (X4 hc he hm) (.step hr hm) hv
   exact LY hc he hr ms L1 _ (fun x hx=>nM x (uw _ hx)) h1 hp
abbrev XT:Type:=(List aH)×(List (ByteArray×Int))×(List bh)
def fV (c:ax) (zw:Int) (p0 e:aH) (L0:List aH) (ms:List Int) (x:XT):Prop:=xq c e ms (L0,[])=some (x.1,x.2.2)∧mW c x.2.1 x.1
theorem LZ {c:ax} (hc:c.Ok) {zw:Int} {e:aH} (he:VS c e.state):(zq c zw e).length≤62:=by
 have sm:=qy (hc.off.lt (by omega)) he.cv
 have sa:=sm.aK
 have:=LA c zw e c.aK.length
 unfold zq
 cases e.own<;>cases decide (c.aX≤e.state.day)<;>simp<;>omega
theorem fV.facts {c:ax} (hc:c.Ok) {zw:Int} {p0 e:aH} {L0:List aH} {ms:List Int} {x:XT} (he:VS c e.state) (hr:mX c zw p0 e) (hP:gA c zw p0 L0) (nM:∀ m∈ms,m∈zq c zw e) (h:fV c zw p0 e L0 ms x) :
  gA c zw p0 x.1∧x.2.2.length=ms.length:=by
 obtain ⟨h1,_,T,eT,hT,_⟩:=Vu hc he hr ms L0 x.1 [] x.2.2 nM hP h.1
 refine ⟨h1,?_⟩
 rw [eT,uL,←hT.1,Uf]
theorem Vv {c:ax} (hc:c.Ok) {zw:Int} {p0 e:aH} {L0:List aH} {ms:List Int} {m:Int} {L:List aH} {F:List (ByteArray×Int)} {K:List bh} {q:aH} (he:VS c e.state) (hr:mX c zw p0 e) (hP:gA c zw p0 L0) (nM:∀ x∈ms,x∈zq c zw e) (hm:m∈zq c zw e) (hlen:ms.length≤100)
  (hq:q=target c e m) (h:fV c zw p0 e L0 ms (L,F,K)) {β:Type} {k:Int×(List aH)×(List (ByteArray×Int))→Option β} {z:Option β} {Q:β→Prop}
  (hk:∀ (to:Int) (L':List aH) (F':List (ByteArray×Int)),fV c zw p0 e L0 (ms++[m]) (L',F',K++[{step:=m,to:=to}])→zJ (α:=bh) 16 K [({step:=m,to:=to}:bh)]=some (K++[{step:=m,to:=to}])→aq (k (to,L',F')) Q)
  (hz:xq c e (ms++[m]) (L0,[])=none→aq z Q) :
  aq (um (xl q) fun r=>(um (α:=(Int×(List aH)×(List (ByteArray×Int))) ⊕ Unit) (bif ((zl r F).isSome) then some (.inl (((zl r F).getD 0),L,F)) else (bif ((L.length:Int) == 1500) then some (.inr ()) else (um (zJ (α:=aH) 88 L [q]) fun e2=>some (.inl ((L.length:Int),e2,(zG r (L.length:Int) F)))))) (Sum.elim k (fun _=>z)))) Q:=by
 obtain ⟨hPI,L4⟩:=h.facts hc he hr hP nM
 have EK:VS c q.state:=by rw [hq];exact X4 hc he hm
 refine aq.az (LW hc EK) ?_
 refine aq.az (zjj h.2 EK hPI.len) ?_
 have pV:xq c e (ms++[m]) (L0,[])=(match visit L q with | none=>none | some (to,L')=>some (L',K++[{step:=m,to:=to}])):=by
  rw [QD,h.1]
  simp only [aV,xq,hq]
  all_goals (cases visit L (target c e m)<;>rfl)
 cases hv:visit L q with
 | none=>
  rw [hv] at pV
  exact hz pV
 | some x=>
  obtain ⟨to,L'⟩:=x
  rw [hv] at pV
  refine hk to L' (Bz L F q) ⟨pV,mW.visit h.2 EK hv⟩ (xT ?_)
  simp only at L4
  rw [L4];simp;omega
theorem YR (c:ax) (zw:Int) (p:aH) {m n:Nat} (h:m≤n):∃ r,jl c zw p n=jl c zw p m++r:=by
 induction h with
 | refl=>exact ⟨[],by simp⟩
 | step _ ih=>
  obtain ⟨r,hr⟩:=ih
  rw [Zh,hr]
  exact ⟨_,ug _ _ _⟩
theorem kS {c:ax} {e:aH} {a b:List Int} {s:List aH×List bh} (h:xq c e a s=none):xq c e (a++b) s=none:=by rw [QD,h];rfl
structure eJ (c:ax) (zw:Int) (p:aH) (L:List aH) (M:List (List bh)):Prop where
 inv:gA c zw p L
 first:L[0]?=some p
 len:M.length=L.length
 mv:∀ (j:Nat) (T:List bh) (e:aH),M[j]?=some T→L[j]?=some e→l6 c zw L e (zq c zw e) T
 lC:kO 0 1 M=some L.length
def BA (c:ax) (zw:Int) (p:aH):Prop:=∃ L1,gA c zw p L1∧L1.length=1500∧∃ q,mX c zw p q∧q ∉ L1
structure EL (c:ax) (zw:Int) (p:aH) (s:Int×(List aH)×(List (List bh))×(List (ByteArray×Int))):Prop where
 i:s.1=(s.2.2.1.length:Int)
 le:s.2.2.1.length≤s.2.1.length
 inv:gA c zw p s.2.1
 rel:mW c s.2.2.2 s.2.1
 first:s.2.1[0]?=some p
 mv:∀ (j:Nat) (T:List bh) (e:aH),s.2.2.1[j]?=some T→s.2.1[j]?=some e→l6 c zw s.2.1 e (zq c zw e) T
 lC:kO 0 1 s.2.2.1=some s.2.1.length
theorem Vw {c:ax} (hc:c.Ok) {zw:Int} {p:aH} (cU:jK c zw p.state=true) :
  aq (qD c zw p) (fun r=>(r.2=0∧r.1.zw=zw∧eJ c zw p r.1.aU r.1.bp)∨(r.2=3∧BA c zw p)):=by
 obtain ⟨nO,l8,hv⟩:=qX.1 cU
 have sm:=qy (hc.off.lt (by omega)) hv.cv
 have sa:=sm.aK
 unfold qD
 refine aq.az (by rw [YL hc,cU]) ?_
 refine aq.ite (fun _ => ?_) (fun h=>by cases h)
 refine aq.az (Lz hc hv) ?_
 refine aq.az (LW hc hv) ?_
 refine aq.bind (P:=fun o:((List aH)×(List (List bh))) ⊕ Unit=>(∃ L M,o=.inl (L,M)∧eJ c zw p L M)∨(o=.inr ()∧BA c zw p)) ?_ ?_
 ·refine aq.bind (P:=fun o:((List aH)×(List (List bh))) ⊕ Unit=>(∃ L M,o=.inl (L,M)∧eJ c zw p L M)∨(o=.inr ()∧BA c zw p)) (aq.iter (EL c zw p) (fun s=>(1501 - s.1).toNat) ?_ ?_) ?_
  ·refine ⟨rfl,by simp,⟨fun q hq => ?_,by simp,fun q hq => ?_,by simp⟩,?_,rfl,fun j T e h=>by simp at h,rfl⟩
   ·rw [ui.1 hq];exact hv
   ·rw [ui.1 hq];exact .base
   ·intro q hq
    simp only [zG,zl,Q7,ui]
    by_cases e:q={state:=p.state,own:=p.own}
    ·subst e
     simp [List.idxOf_cons,txt]
    ·have e2:txt q≠txt p:=fun h=>e (LV hq hv h)
     rw [if_neg e2,if_neg e]
  ·rintro ⟨i,L,M,F⟩ ⟨hi,hle,hinv,hrel,tA,EM,ij⟩
   simp only at hi hle hinv hrel tA EM ij ⊢
   subst hi
   have hlen:=hinv.len
   refine aq.ite (fun hlt => ?_) (fun hge => ?_)
   ·have hlt:=of_decide_eq_true hlt
    have EO:M.length < L.length:=by omega
    have heq:=ua EO
    have hme:=ud EO
    have he:=hinv.vs _ hme
    have hr:=hinv.rO _ hme
    generalize L[M.length]=e at heq he hr
    have L5:=LZ hc (zw:=zw) he
    refine aq.bind (P:=fun o:XT ⊕ Unit=>(∃ x,o=.inl x∧fV c zw p e L (zq c zw e) x)∨(o=.inr ()∧xq c e (zq c zw e) (L,[])=none)) ?_ ?_
    ·refine aq.az (zy heq) ?_
     refine aq.az (x:=Yu c zw e) (v:=()) rfl ?_
     refine aq.bind (P:=fun o:XT ⊕ (Unit ⊕ XT)=>(∃ x,o=.inl x∧e.state.day < c.aX∧fV c zw p e L (bif e.own then [-2] else []) x)∨(o=.inr (.inl ())∧xq c e (bif e.own then [-2] else []) (L,[])=none)∨(∃ x,o=.inr (.inr x)∧c.aX≤e.state.day∧fV c zw p e L (bif e.own then [-2] else []) x)) ?_ ?_
     ·have hbase:fV c zw p e L [] (L,F,[]):=⟨rfl,hrel⟩
      cases ho:e.own with
      | false=>
       simp only [b9]
       refine aq.ite (fun hd=>aq.some (.inr (.inr ⟨_,rfl,of_decide_eq_true hd,hbase⟩))) (fun hd=>aq.some (.inl ⟨_,rfl,by have:=of_decide_eq_false hd;omega,hbase⟩))
      | true=>
       simp only [bW]
       refine aq.az (Lz hc he) ?_
       have hm2:(-2:Int)∈zq c zw e:=zO.2 (.inl ⟨ho,rfl⟩)
       refine Vv hc he hr hinv (fun x hx=>by cases hx) hm2 (by simp) (by unfold target;rw [if_pos rfl]) hbase (fun to L' F' hg ha => ?_) (fun hz=>aq.some (.inr (.inl ⟨rfl,hz⟩)))
       refine aq.az ha ?_
       refine aq.ite (fun hd=>aq.some (.inr (.inr ⟨_,rfl,of_decide_eq_true hd,hg⟩))) (fun hd=>aq.some (.inl ⟨_,rfl,by have:=of_decide_eq_false hd;omega,hg⟩))
     ·rintro o (⟨⟨L1,F1,K1⟩,rfl,hd,hg⟩ | ⟨rfl,hn⟩ | ⟨⟨L1,F1,K1⟩,rfl,hd,hg⟩)
      ·
       have pW:zq c zw e=(bif e.own then [-2] else [-1])++jl c zw e c.aK.length:=by
        unfold zq
        rw [decide_eq_false (show ¬ c.aX≤e.state.day by omega)]
        cases e.own<;>rfl
       refine aq.bind (P:=fun o:XT ⊕ Unit=>(∃ x,o=.inl x∧fV c zw p e L (bif e.own then [-2] else [-1]) x)∨(o=.inr ()∧xq c e (bif e.own then [-2] else [-1]) (L,[])=none)) ?_ ?_
       ·cases ho:e.own with
        | true=>rw [ho] at hg;exact aq.some (.inl ⟨_,rfl,hg⟩)
        | false=>
         rw [ho] at hg
         simp only [b9] at hg ⊢
         obtain ⟨EP,_⟩:=ja (a := -1) hc he (by omega) (by omega) hd
         refine aq.az EP ?_
         have hm1:(-1:Int)∈zq c zw e:=zO.2 (.inr (.inl ⟨hd,ho,rfl⟩))
         refine Vv hc he hr hinv (fun x hx=>by cases hx) hm1 (by simp) (by unfold target;rw [if_neg (by omega)]) hg (fun to L' F' hg ha => ?_) (fun hz=>aq.some (.inr ⟨rfl,hz⟩))
         refine aq.az ha ?_
         exact aq.some (.inl ⟨_,rfl,hg⟩)
       ·rintro o (⟨⟨L2,F2,K2⟩,rfl,fp⟩ | ⟨rfl,hn⟩)
        ·
         refine aq.bind (P:=fun o:XT ⊕ XT=>(∃ x,o=.inl x∧fV c zw p e L (zq c zw e) x)∨(∃ x,o=.inr x∧xq c e (zq c zw e) (L,[])=none)) ?_ ?_
         ·have hsub:∀ i,i≤c.aK.length→∀ x∈(bif e.own then [-2] else [-1])++jl c zw e i,x∈zq c zw e:=by
           intro i hi x hx
           rw [pW]
           obtain ⟨r,hr'⟩:=YR c zw e hi
           rw [hr']
           rcases uo.1 hx with h | h
           ·exact uo.2 (.inl h)
           ·exact uo.2 (.inr (uo.2 (.inl h)))
          refine aq.dP (n:=c.aK.length) (fun i s=>fV c zw p e L ((bif e.own then [-2] else [-1])++jl c zw e i) s) (by omega) ?_ ?_ (fun s hs=>.inl ⟨s,rfl,by rw [pW];exact hs⟩)
          ·show fV c zw p e L ((bif e.own then [-2] else [-1])++jl c zw e 0) (L2,F2,K2)
           have:jl c zw e 0=[]:=rfl
           rw [this,uK];exact fp
          ·rintro i ⟨L3,F3,K3⟩ hi EQ
           simp only
           have hx:=ua hi
           have av:=YJ hv.cv hx
           have tB:iZ c zw e i=(((jJ e.state.aE c.aK[i] == zw) == e.own) && !xZ (zI c e.state i) e.state):=by simp only [iZ,hx]
           have L6:=LA c zw e i
           refine aq.bind (P:=fun o:XT ⊕ Unit=>(∃ x,o=.inl x∧fV c zw p e L ((bif e.own then [-2] else [-1])++jl c zw e (i+1)) x)∨(o=.inr ()∧xq c e ((bif e.own then [-2] else [-1])++jl c zw e (i+1)) (L,[])=none)) ?_ ?_
           ·refine aq.az (zy hx) ?_
            refine aq.az (zja he av) ?_
            refine aq.ite (fun hq => ?_) (fun hq => ?_)
            ·obtain ⟨EP,hvs,_⟩:=ja (a:=(i:Int)) hc he (by omega) (by omega) hd
             have hfew:=hvs.s9 hc
             refine aq.az EP ?_
             refine aq.az (zkX (zI c e.state i) e.state (by omega) (by omega) (by omega)) ?_
             refine aq.ite (fun hs=>aq.some (.inl ⟨_,rfl,?_⟩)) (fun hs => ?_)
             ·rw [Zh,tB,hq,hs]
              simpa using EQ
             ·have hb:iZ c zw e i=true:=by rw [tB,hq,hs];rfl
              have hmi:(i:Int)∈zq c zw e:=zO.2 (.inr (.inr ⟨hd,i,hi,hb,rfl⟩))
              have hact:jl c zw e (i+1)=jl c zw e i++[(i:Int)]:=by rw [Zh,hb];rfl
              rw [hact,←ug]
              refine Vv hc he hr hinv (hsub i (by omega)) hmi (by cases e.own<;>simp<;>omega) (by unfold target;rw [if_neg (by omega)]) EQ (fun to L' F' hg ha => ?_) (fun hz=>aq.some (.inr ⟨rfl,hz⟩))
              refine aq.az ha ?_
              exact aq.some (.inl ⟨_,rfl,hg⟩)
            ·refine aq.some (.inl ⟨_,rfl,?_⟩)
             rw [Zh,tB,hq]
             simpa using EQ
           ·rintro o (⟨x,rfl,CB⟩ | ⟨rfl,hn⟩)
            ·exact aq.some CB
            ·refine aq.some (.inr ⟨_,rfl,?_⟩)
             rw [pW]
             obtain ⟨r,hr'⟩:=YR c zw e (show i+1≤c.aK.length by omega)
             rw [hr',←ug]
             exact kS hn
         ·rintro o (⟨x,rfl,CB⟩ | ⟨x,rfl,hn⟩)
          ·exact aq.some (.inl ⟨_,rfl,CB⟩)
          ·exact aq.some (.inr ⟨rfl,hn⟩)
        ·refine aq.some (.inr ⟨rfl,?_⟩)
         rw [pW];exact kS hn
      ·refine aq.some (.inr ⟨rfl,?_⟩)
       unfold zq;exact kS hn
      ·refine aq.some (.inl ⟨_,rfl,?_⟩)
       have:zq c zw e=(bif e.own then [-2] else []):=by
        unfold zq
        rw [decide_eq_true hd]
        simp
       rw [this];exact hg
    ·rintro o (⟨⟨L',F',K'⟩,rfl,hg⟩ | ⟨rfl,hn⟩)
     ·obtain ⟨h1,⟨r1,e1⟩,T,eT,hT,pU⟩:=Vu hc he hr (zq c zw e) L L' [] K' (fun m hm=>hm) hinv hg.1
      simp only [uL] at eT
      subst eT
      simp only [uk]
      refine aq.az (xT (by simp;omega)) ?_
      rw [qw (by omega) (by omega)]
      refine aq.some ⟨⟨by simp,?_,h1,hg.2,by show L'[0]?=some p;rw [e1];exact WH tA,?_,?_⟩,?_⟩
      ·show (M++[K']).length≤L'.length
       rw [e1];simp;omega
      ·show ∀ (j:Nat) (T:List bh) (e:aH),(M++[K'])[j]?=some T→L'[j]?=some e→l6 c zw L' e (zq c zw e) T
       intro j T e' hj he'
       by_cases s6:j < M.length
       ·rw [ut s6] at hj
        have hjL:L[j]?=some e':=by
         rw [e1,ut (by omega)] at he';exact he'
        rw [e1]
        exact (EM j T e' hj hjL).app r1
       ·have hj2:j=M.length:=by
         have:=(ub.1 hj).1
         simp at this;omega
        subst hj2
        rw [uO (uQ _)] at hj
        simp at hj
        subst hj
        have:L'[M.length]?=some e:=by rw [e1];exact WH heq
        rw [this] at he';cases he'
        exact hT
      ·show kO 0 1 (M++[K'])=some L'.length
       rw [W6,ij]
       simp only [aV,Nat.zero_add]
       rw [if_pos EO];exact pU
      ·show (1501 - ((M.length:Int)+1)).toNat < (1501 - (M.length:Int)).toNat
       omega
     ·obtain ⟨L1,h1,h2⟩:=LY hc he hr (zq c zw e) L [] (fun m hm=>hm) hinv hn
      exact aq.some (.inr ⟨rfl,L1,h1,h2⟩)
   ·have hge:=of_decide_eq_false hge
    exact aq.some (.inl ⟨L,M,rfl,hinv,tA,by omega,EM,ij⟩)
  ·rintro o (⟨L,M,rfl,h⟩ | ⟨rfl,h⟩)
   ·exact aq.some (.inl ⟨L,M,rfl,h⟩)
   ·exact aq.some (.inr ⟨rfl,h⟩)
 ·rintro o (⟨L,M,rfl,h⟩ | ⟨rfl,h⟩)
  ·exact aq.some (.inl ⟨rfl,rfl,h⟩)
  ·exact aq.some (.inr ⟨rfl,h⟩)
def JP (k:aO) (m:aj):aj:=bif k.bt then {aR:=5,left:=0,got:=0,bz := -1,bQ:=false} else {aR:=0,left:=0,got:=0,bz := -1,bQ:=false}
def JQ:aj:={aR:=0,left:=0,got:=0,bz:=0,bQ:=false}
theorem L7 {c:ax} (hc:c.Ok) (h:(zS c).1≠0):qM c=some (Lv,1):=by
 unfold qM
 rw [hc.valid]
 have:((zS c).1 == 0)=false:=beq_eq_false_iff_ne.2 h
 simp only [aV,this,b9];rfl
def zm8 (c:ax):List aj:=(ul c.ay.length JQ).mapIdx (fk c JP)
theorem zfu {c:ax} (hc:c.Ok) (hv:(zS c).1=0):aq (qM c) (fun r=>r.2=0∧VS c r.1∧r.1.day=0∧r.1.aE=c.aE∧r.1.used=ul c.aK.length false∧dM c c.aE (zm8 c) r.1.aI):=by
 have ho:=hc.off.lt (by omega:0 < 8)
 have sm:=qy ho hv
 have s1:=sm.aE
 have s2:=sm.aK
 have s3:=sm.ay
 have s4:=sm.aW
 have s5:=sm.aX
 unfold qM
 refine aq.az hc.valid ?_
 refine aq.ite (fun _ => ?_) (fun h=>absurd hv (beq_eq_false_iff_ne.1 h))
 refine aq.az (ju (by omega)) ?_
 refine aq.az (XY (show c.aK.length < 1000 by omega) (by omega)) ?_
 refine aq.az (XY (show c.ay.length < 1000 by omega) (by omega)) ?_
 have oC:iY c ((ul c.ay.length JQ).mapIdx (fk c JP)):=by
  refine ⟨by simp,fun i k m hk hm => ?_⟩
  rw [uj] at hm
  obtain ⟨m0,_,rfl⟩:=uG.1 hm
  simp only [fk,hk,JP]
  have e4:decide (-1 < c.aW)=true:=decide_eq_true (by omega)
  cases hw:k.bt with
  | true=>
   show jw c.aW k {aR:=5,left:=0,got:=0,bz := -1,bQ:=false}=true
   refine wp.2 (.inr (.inr (.inr ⟨.inr (.inr rfl),?_⟩)))
   show ((0:Int) == 0&&(decide ((0:Int)≤0)&&(decide ((0:Int)≤9)&&(decide ((-1:Int) ≤ -1)&&(decide (-1 < c.aW) && !false)))))=true
   rw [e4];rfl
  | false=>exact wp.2 (.inl ⟨rfl,hw,rfl⟩)
 refine aq.bind (P:=fun o:List aj ⊕ Unit=>o=.inl ((ul c.ay.length JQ).mapIdx (fk c JP))) ?_ ?_
 ·refine aq.of ?_
  have hl:(c.ay.length:Int)=((ul c.ay.length JQ).length:Int):=by simp
  show aD (c.ay.length:Int) _ (ul c.ay.length JQ)=_
  conv=>lhs;arg 1;rw [hl]
  refine wS (ul c.ay.length JQ) (fk c JP) (by simp;omega) ?_
  intro i m s h1 h2 h3
  have hi:i < c.ay.length:=by simpa using (ub.1 h1).1
  have hk:=ua hi
  simp only [zy hk,aV,zM hi,h3,vH h3,fk,hk,JP,Um]
  cases c.ay[i].bt<;>rfl
 ·rintro o rfl
  simp only [uk]
  have hs:=XX c 0 c.aE (ul c.aK.length false) _ ho hv rfl (Lm hv) oC
  unfold yf at hs
  rw [List.length_replicate,show ((ul c.ay.length JQ).mapIdx (fk c JP)).length=c.ay.length by simp] at hs
  refine aq.bind hs fun r hr => ?_
  refine aq.az (wn (by simp)) ?_
  refine aq.az (wn hr.ok.1.symm) ?_
  refine aq.some ⟨rfl,⟨hv,⟨by show (0:Int)≤0;omega,by show (0:Int)≤c.aX;omega⟩,rfl,by simp,hr.ok.1,Lm hv,?_,hr.ok.2,hr.nr⟩,rfl,rfl,rfl,hr⟩
  intro i a _ hu
  simp only [List.getElem?_replicate] at hu
  split at hu
  ·cases hu
  ·cases hu
theorem L8 {c:ax} (hc:c.Ok) (hv:(zS c).1=0):aq (qM c) (fun r=>r.2=0∧VS c r.1):=aq.mono (zfu hc hv) fun _ h=>⟨h.1,h.2.1⟩
def YS:bT:={zw:=0,aU:=[],bp:=[]}
theorem zjk {c:ax} (hc:c.Ok) {zw:Int} {p:aH} (h:jK c zw p.state=false):qD c zw p=some (YS,1):=by
 unfold qD
 rw [YL hc,h];rfl
def zm9 (c:ax) (zw:Int) (r:bT×Int):Prop:=
 r.2≠0∨(r.2=0∧∃ s0,qM c=some (s0,0)∧VS c s0∧0≤zw∧zw < c.aW∧r.1.zw=zw∧eJ c zw {state:=s0,own:=true} r.1.aU r.1.bp)
theorem zhF {c:ax} (hc:c.Ok) (zw:Int):aq (xn c zw) (zm9 c zw):=by
 unfold xn
 by_cases hv:(zS c).1=0
 ·obtain ⟨⟨s0,e0⟩,hst,h0,hvs⟩:=L8 hc hv
  simp only at h0 hvs
  subst h0
  refine aq.az hst ?_
  refine aq.ite (fun _ => ?_) (fun h=>by cases h)
  cases cU:jK c zw s0 with
  | false=>
   refine aq.az (zjk hc (p:={state:=s0,own:=true}) cU) ?_
   exact aq.some (.inl (by simp))
  | true=>
   obtain ⟨h1,h2,_⟩:=qX.1 cU
   refine aq.bind (Vw hc (p:={state:=s0,own:=true}) cU) ?_
   rintro ⟨a,e⟩ (⟨h3,h4,h5⟩ | ⟨h3,_⟩)
   ·exact aq.some (.inr ⟨h3,s0,hst,hvs,h1,h2,h4,h5⟩)
   ·simp only at h3
    exact aq.some (.inl (by show e≠0;omega))
 ·refine aq.az (L7 hc hv) ?_
  exact aq.some (.inl (by simp))
theorem zjl (a b:aG) (h1:a.aE.length < 4611686018427387904) (h2:a.used.length < 4611686018427387904) (h3:a.aI.length < 4611686018427387904):yH a b=some (xZ a b):=by
 unfold yH xZ
 simp only [Q5]
 by_cases e1:a.day=b.day
 ·by_cases e2:a.aE.length=b.aE.length
  ·by_cases e3:a.used.length=b.used.length
   ·by_cases e4:a.aI.length=b.aI.length
    ·simp only [e1,beq_self_eq_true,bW,e2,e3,e4,decide_true,ux,aV,b9,Uk]
     rw [←e2,←e3,←e4]
     rw [yK a.aE b.aE e2 h1 (fun i h1 h2=>by
      simp only [zN,ua h1,ua h2,aV,zs])]
     rw [yK a.used b.used e3 h2 (fun i h1 h2=>by
      simp only [zN,ua h1,ua h2,aV,zs])]
     rw [yK a.aI b.aI e4 h3 (fun i h1 h2=>by
      simp only [zN,ua h1,ua h2,aV,zs];rfl)]
     cases (a.aE == b.aE)<;>cases (a.used == b.used)<;>cases (a.aI == b.aI)<;>rfl
    ·have:(a.aI == b.aI)=false:=beq_eq_false_iff_ne.2 fun e=>e4 (by rw [e])
     simp only [e1,beq_self_eq_true,bW,e2,e3,e4,decide_true,decide_false,Ui,aV,this,u0]
   ·have:(a.used == b.used)=false:=beq_eq_false_iff_ne.2 fun e=>e3 (by rw [e])
    simp only [e1,beq_self_eq_true,bW,e2,e3,decide_true,decide_false,b9,aV,this,u0,uM]
  ·have:(a.aE == b.aE)=false:=beq_eq_false_iff_ne.2 fun e=>e2 (by rw [e])
   simp only [e1,beq_self_eq_true,bW,e2,decide_false,b9,aV,this,u0,uM]
 ·simp only [beq_eq_false_iff_ne.2 e1,b9,aV,bW,uM]
end Go.Proofs.YtlpmnmbebkdocaaGreatDoor
