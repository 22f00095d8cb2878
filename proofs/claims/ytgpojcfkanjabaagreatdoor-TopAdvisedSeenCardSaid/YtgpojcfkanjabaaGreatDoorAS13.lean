/-
  'arena.Moves' and 'arena.After': what they return.
  What a party sees of an act; the acts that it does not see and that change something.
  'arena.After'; 'Few', 'Tame', 'Doer'.
  The text of a position tells it from every other position of the same contract.
  A search through positions, breadth first: what is known of it.
  The texts of states tell them apart; the closure of some states.
  The closure of some states: it contains them, and what acts that are not seen make of its states.
  'arena.From': what it returns.
  'system.Start', 'arena.Build', 'Index'.
  What an arena holds: closed under moves, and all that can be reached.
  region.Ranks: what it returns for an arena is the number of moves in which a breach can be forced.
  region.Ranks: the queue.
  region.Ranks: all of it.
  A clause that has ended stays as it is; a breach stays a breach.
  RegionBreach: a breach is never left.
  What can be forced from a position, told without an arena.
-/
import Derived.Test.YtgpojcfkanjabaaGreatDoorAS12
import Derived.Test.YtgpojcfkanjabaaGreatDoorAS07
open List renaming getElem?_eq_getElem → ua, getElem?_eq_some_iff → ub, mem_cons_of_mem → uc, append_assoc → ud, mem_cons_self → ue, mem_singleton → uh, length_append → ui, mem_append → uj, mem_range → ul, getElem_mem → um, mem_filter → un, mem_map → uo, length_cons → uq, append_nil → ur, nil_append → ut, range → uu, length_singleton → uv, replicate → uw, length_map → ux, getElem?_set_self → uy, mem_cons → uz, getElem?_eq_none → uA, mem_append_left → uB, getElem_of_mem → uC, length_filter_le → uE, count_cons_of_ne → uF, length_range → uG, nodup_iff_pairwise_ne → uH, all_eq_true → uI, getElem?_append_left → uK, length_nil → uL, filter_append → uM, nodup_append → uP, take_succ_eq_append_getElem → uQ, count_append → uR, pairwise_of_forall_mem_list → uS, cons_append → uU, getElem?_mapIdx → uW, pairwise_append → uX, eq_nil_of_length_eq_zero → uY, range_succ → uZ, nodup_cons → u0, getElem?_append_right → u5, ext_getElem? → u6, flatMap_cons → u7, getElem?_map → Ua, Pairwise → Ub, map_cons → Uc, getElem?_replicate → Ud, length_pos_of_mem → Ue, mem_append_right → Uf, mem_of_getElem? → Ug, getElem?_set_ne → Uh, filter_sublist → Ui, idxOf_append → Uj, take_length → Ul, nodup_range → Um, map_append → Un, foldl_cons → Uq, foldl_nil → Ur, set_set → Us
open Option renaming bind → uk, getD_some → Uk, map_some → Uo
open Bool renaming and_eq_true → ug, not_eq_true' → uO, cond_false_right → uT, or_eq_false_iff → uV, not_eq_false' → u4
open Nat renaming lt_or_ge → uJ, le_refl → uN, strongRecOn → Up
open Int renaming toNat_natCast → u9
open Sum renaming elim_inl → uD
namespace Go.Proofs.YtgpojcfkanjabaaGreatDoor
open Go.RowKit
set_option linter.unusedSimpArgs false
set_option linter.unusedVariables false
set_option maxRecDepth 100000
noncomputable def zO (c:ay) (s:ak) (a:Int):ak:=((dx c s a).getD (IW,1)).1
theorem jf {c:ay} {s:ak} {a:Int} (hc:c.Ok) (hv:VS c s) (h1 : -1≤a) (h2:a < c.aJ.length) (hd:s.day < c.bl) :
  dx c s a=some (zO c s a,0)∧VS c (zO c s a)∧(a = -1→IX c s (zO c s a))∧(∀ (i:Nat) (x:bq),a=(i:Int)→c.aJ[i]?=some x→EB c i x s (zO c s a)):=by
 obtain ⟨⟨r1,r2⟩,e,h⟩:=zi0 hc hv h1 h2 hd
 have e2:zO c s a=r1:=by unfold zO;rw [e];rfl
 rw [e2,e]
 obtain ⟨h0,h⟩:=h
 simp only at h0 h
 subst h0
 exact ⟨rfl,h⟩
theorem Kh {α:Type} [BEq α] [LawfulBEq α] {f:Nat→Unit→Option (Unit ⊕ Unit)} (a b:List α) (hl:a.length=b.length) (ha:a.length < 4611686018427387904) (h:∀ (i:Nat) (h1:i < a.length) (h2:i < b.length),f i ()=some (bif a[i] == b[i] then .inl () else .inr ())) :
  aH (a.length:Int) f ()=some (bif a == b then .inl () else .inr ()):=by
 rw [Qm (fun i=>a[i]? == b[i]?) ha (fun i hi=>by
  rw [h i hi (by omega),ua hi,ua (show i < b.length by omega)]
  show _=some (bif (some a[i] == some b[i]) then _ else _)
  rfl)]
 congr 2
 rw [Bool.eq_iff_iff,uI]
 constructor
 ·intro hh
  rw [beq_iff_eq]
  refine u6 fun i => ?_
  by_cases hi:i < a.length
  ·exact beq_iff_eq.1 (hh i (ul.2 hi))
  ·rw [uA (by omega),uA (by omega)]
 ·intro hh i _
  rw [beq_iff_eq.1 hh];exact beq_self_eq_true _
theorem Ki {α:Type} (a b:List α):((a.length:Int) == (b.length:Int))=decide (a.length=b.length):=by
 by_cases h:a.length=b.length
 ·simp [h]
 ·simp only [h,decide_false];exact beq_eq_false_iff_ne.2 (by omega)
theorem zog (a b:List Int) (ha:a.length < 4611686018427387904):Cr a b=some (a == b):=by
 unfold Cr
 rw [Ki]
 by_cases h:a.length=b.length
 ·simp only [h,decide_true,cg]
  rw [←h,Kh a b h ha (fun i h1 h2=>by
   simp only [zV,ua h1,ua h2,aX,zt])]
  cases (a == b)<;>rfl
 ·simp only [h,decide_false,ck]
  have:a≠b:=fun e=>h (by rw [e])
  rw [beq_eq_false_iff_ne.2 this]
theorem zoh (a b:List Bool) (ha:a.length < 4611686018427387904):Cs a b=some (a == b):=by
 unfold Cs
 rw [Ki]
 by_cases h:a.length=b.length
 ·simp only [h,decide_true,cg]
  rw [←h,Kh a b h ha (fun i h1 h2=>by
   simp only [zV,ua h1,ua h2,aX,zt])]
  cases (a == b)<;>rfl
 ·simp only [h,decide_false,ck]
  have:a≠b:=fun e=>h (by rw [e])
  rw [beq_eq_false_iff_ne.2 this]
instance:BEq aj:=⟨fun a b=>(a.aN == b.aN)&&((a.left == b.left)&&((a.got == b.got)&&((a.bw == b.bw)&&((a.bN == b.bN)&&true))))⟩
instance:LawfulBEq aj where
 eq_of_beq {a b} h:=by
  have h':((a.aN == b.aN)&&((a.left == b.left)&&((a.got == b.got)&&((a.bw == b.bw)&&((a.bN == b.bN)&&true)))))=true:=h
  simp only [ug,beq_iff_eq,and_true] at h'
  obtain ⟨h1,h2,h3,h4,h5⟩:=h'
  cases a;cases b;simp_all
 rfl {a}:=by
  show ((a.aN == a.aN)&&((a.left == a.left)&&((a.got == a.got)&&((a.bw == a.bw)&&((a.bN == a.bN)&&true)))))=true
  simp
theorem zoi (a b:List aj) (ha:a.length < 4611686018427387904):Ct a b=some (a == b):=by
 unfold Ct
 rw [Ki]
 by_cases h:a.length=b.length
 ·simp only [h,decide_true,cg]
  rw [←h,Kh a b h ha (fun i h1 h2=>by
   simp only [zV,ua h1,ua h2,aX,zt];rfl)]
  cases (a == b)<;>rfl
 ·simp only [h,decide_false,ck]
  have:a≠b:=fun e=>h (by rw [e])
  rw [beq_eq_false_iff_ne.2 this]
def wZ (a b:ak):Bool:=a.day == b.day&&(a.aE == b.aE&&(a.used == b.used&&a.aI == b.aI))
theorem kK {a b:ak}:wZ a b=true↔a=b:=by
 unfold wZ
 simp only [ug,beq_iff_eq]
 constructor
 ·rintro ⟨h1,h2,h3,h4⟩
  cases a;cases b;simp_all
 ·rintro rfl;exact ⟨rfl,rfl,rfl,rfl⟩
theorem zkC (a b:ak) (h1:a.aE.length < 4611686018427387904) (h2:a.used.length < 4611686018427387904) (h3:a.aI.length < 4611686018427387904):Wf a b=some (wZ a b):=by
 unfold Wf wZ
 rw [zog _ _ h1,zoh _ _ h2,zoi _ _ h3]
 simp only [aX,zt,uT]
theorem VS.tV {c:ay} {s:ak} (hc:c.Ok) (h:VS c s):s.aE.length≤12∧s.used.length≤60∧s.aI.length≤400:=by
 have sm:=ql (hc.off.lt (by omega)) h.cv
 have:=sm.aE
 have:=sm.aJ
 have:=sm.aA
 have:=h.lh
 have:=h.lu
 have:=h.lm
 omega
theorem IZ {c:ay} {s:ak} (hc:c.Ok) (h:VS c s):ZJ s=some s:=by
 have:=h.tV hc
 unfold ZJ
 rw [ju (by omega),ju (by omega),ju (by omega)]
 rfl
noncomputable def xJ (c:ay) (zw:Int) (s:ak):Bool:=decide (0≤zw)&&(decide (zw < c.aR)&&rJ c s)
theorem YC {c:ay} (hc:c.Ok) (zw:Int) (p:aK):kZ c zw p=some (xJ c zw p.state):=by
 unfold kZ xJ
 rw [wm c _ hc]
 simp only [aX,zt,uT]
theorem xy {c:ay} {zw:Int} {s:ak}:xJ c zw s=true↔0≤zw∧zw < c.aR∧VS c s:=by
 simp only [xJ,ug,decide_eq_true_eq]
 exact ⟨fun ⟨a,b,d⟩=>⟨a,b,zof d⟩,fun ⟨a,b,d⟩=>⟨a,b,ZS d⟩⟩
noncomputable def l7 (c:ay) (zw:Int) (p:aK) (i:Nat):Bool:=match c.aJ[i]? with
 | some a=>((jT p.state.aE a == zw) == p.own) && !wZ (zO c p.state i) p.state
 | none=>false
noncomputable def jk (c:ay) (zw:Int) (p:aK) (n:Nat):List Int:=((uu n).filter (l7 c zw p)).map fun i:Nat=>(i:Int)
noncomputable def zr (c:ay) (zw:Int) (p:aK):List Int:=
 (bif p.own then [-2] else [])++(bif decide (c.bl≤p.state.day) then [] else (bif p.own then [] else [-1])++jk c zw p c.aJ.length)
noncomputable def target (c:ay) (p:aK) (move:Int):aK:=if move = -2 then {state:=p.state,own:=false} else {state:=zO c p.state move,own:=true}
theorem Zb (c:ay) (zw:Int) (p:aK) (n:Nat):jk c zw p (n+1)=jk c zw p n++(bif l7 c zw p n then [(n:Int)] else []):=by
 unfold jk
 rw [uZ,uM,Un]
 congr 1
 cases h:l7 c zw p n<;>simp [h]
theorem I0 (c:ay) (zw:Int) (p:aK) (n:Nat):(jk c zw p n).length≤n:=by
 unfold jk
 rw [ux]
 have:=uE (l7 c zw p) (uu n)
 simpa using this
theorem zi1 {c:ay} {s:ak} {a:bq} (hv:VS c s) (av:Ey c a):(bif a.bM == (-1) then some (-1) else (uk (zf s.aE a.bM) fun e2=>some e2))=some (jT s.aE a):=by
 unfold jT
 cases hr:(a.bM == (-1:Int)) with
 | true=>rfl
 | false=>
  have h1:=beq_eq_false_iff_ne.1 hr
  have:=av.bM
  have:=hv.lh
  obtain ⟨h2,h3⟩:=qE (l:=s.aE) (n:=a.bM) (by omega) (by omega)
  rw [h3,ua h2];rfl
section
def xj (hs:List Int) (p:Int) (a:bq):Bool:=(!(a.kind == 1)||(a.to == -1||hs[a.to.toNat]?.getD 0 == p))||(!(a.bM == -1)&&hs[a.bM.toNat]?.getD 0 == p)
theorem zoj {c:ay} (h:(zI c).1=0) {i:Nat} {a:bq} (ha:c.aJ[i]?=some a) (hk:a.kind=1):a.to = -1∨(0≤a.to∧a.to < c.aE.length):=by
 obtain ⟨_,h2,_,_⟩:=wl h
 simp only [je,ug,uO,decide_eq_false_iff_not] at h2
 obtain ⟨_,_,_,_,_,b6,_⟩:=h2
 have:=uI.1 b6 a (Ug ha)
 unfold Vc at this
 rw [hk] at this
 simp only [beq_self_eq_true,cg] at this
 cases hr:xY c.aE.length a.bM<;>rw [hr] at this<;>simp only [cg,ck,ug,Bool.or_eq_true,beq_iff_eq,xY,decide_eq_true_eq] at this
 ·exact this.2.2.2.1
 ·exact this.1.2
section
variable {c:ay} {s:ak} {p:Int} {i:Nat} {a:bq}
theorem I1 (hv:VS c s) (ha:c.aJ[i]?=some a) (p:Int):Zk c s p (i:Int)=some (xj s.aE p a):=by
 have av:=YA hv.cv ha
 have sX:=hv.lh
 refine aq.eq ?_
 unfold Zk
 refine aq.az (zq ha) ?_
 have oO:aq (uk (bif (a.bM == (-1)) then some false else (uk (zf s.aE a.bM) fun e3=>some (e3 == p))) fun v2=>some v2) (· = (!(a.bM == -1)&&s.aE[a.bM.toNat]?.getD 0 == p)):=by
  cases h:(a.bM == -1) with
  | true=>exact ⟨_,rfl,rfl⟩
  | false=>
   have h':=beq_eq_false_iff_ne.1 h
   rcases av.bM with ⟨h1,_⟩ | ⟨h1,h2⟩
   ·exact absurd h1 h'
   obtain ⟨hi,e⟩:=qE (l:=s.aE) h1 (by omega)
   rw [e,ua hi]
   exact ⟨_,rfl,rfl⟩
 cases hk:(a.kind == 1) with
 | false=>
  refine aq.az (v:=true) rfl ?_
  refine aq.ite (fun _=>⟨_,rfl,by simp [xj,hk]⟩) (fun h=>by cases h)
 | true=>
  have hk':=beq_iff_eq.1 hk
  have hto:=zoj hv.cv ha hk'
  refine aq.az (v:=(a.to == -1||s.aE[a.to.toNat]?.getD 0 == p)) ?_ ?_
  ·cases h:(a.to == -1) with
   | true=>rfl
   | false=>
    have h':=beq_eq_false_iff_ne.1 h
    rcases hto with h1 | ⟨h1,h2⟩
    ·exact absurd h1 h'
    obtain ⟨hi,e⟩:=qE (l:=s.aE) h1 (by omega)
    rw [e,ua hi]
    rfl
  ·refine aq.ite (fun h=>⟨_,rfl,by simp [xj,hk,h]⟩) (fun h => ?_)
   refine oO.mono fun r hr => ?_
   rw [hr]
   simp [xj,hk,h]
theorem I2 (hc:c.Ok) (hv:VS c s) (ha:c.aJ[i]?=some a) (hp:0≤p∧p < c.aR):yD c s p (i:Int)=some (xj s.aE p a):=by
 have hi:=(ub.1 ha).1
 unfold yD
 rw [wm c s hc,ZS hv,I1 hv ha,decide_eq_true hp.1,decide_eq_true hp.2,decide_eq_true (show (0:Int)≤(i:Int) by omega),decide_eq_true (show (i:Int) < (c.aJ.length:Int) by omega)]
 rfl
def nO (c:ay) (s:ak) (j:Nat) (i:Int):Prop:=∃ k m,c.aA[j]?=some k∧s.aI[j]?=some m∧qM m=true∧(k.act=i∨(k.aT ≠ -1∧(k.aT=i∨k.resume=i)))
theorem EE {aJ:List bq} {x:Int} (hx:vo aJ x=true):0≤x∧x < (aJ.length:Int):=by
 by_cases hb:0≤x∧x < (aJ.length:Int)
 ·exact hb
 ·unfold vo at hx
  rw [W8 hb] at hx
  cases hx
theorem vp {l:List Bool} {i k:Nat} (h:l[i]?=some true):(l.set k true)[i]?=some true:=by
 rw [List.getElem?_set]
 split
 ·subst_vars;rw [if_pos (ub.1 h).1]
 ·exact h
theorem ye {l:List Bool} {k:Nat} (h:k < l.length):(l.set k true)[k]?=some true:=by
 rw [uy h]
theorem zdE (hc:c.Ok) (hv:VS c s) (ha:c.aJ[i]?=some a) (hd:s.day < c.bl) (hs:xj s.aE p a=false) (hn:∀ j,¬ nO c s j i):zO c s (i:Int)=s:=by
 have hi:=(ub.1 ha).1
 simp only [xj,uV,u4] at hs
 have hk:=beq_iff_eq.1 hs.1.1
 obtain ⟨_,_,_,h4⟩:=jf hc hv (a:=(i:Int)) (by omega) (by omega) hd
 rcases h4 i a rfl ha with ⟨h,_,_⟩ | ⟨_,h1,h2,h3,h5⟩
 ·exact absurd hk h
 have e1:eN c i s.aI=s.aI:=by
  refine u6 fun j => ?_
  rw [eN,uW]
  cases hm:s.aI[j]? with
  | none=>rfl
  | some m=>
   simp only [Uo,eR]
   cases hkc:c.aA[j]? with
   | none=>rfl
   | some k=>
    have kv:=xI (hc.off.lt (by omega:0 < 8)) hv.cv hkc
    simp only [wO]
    cases hr:qM m with
    | false=>rfl
    | true=>
     have BJ:¬ (k.act=(i:Int)∨(k.aT ≠ -1∧(k.aT=(i:Int)∨k.resume=(i:Int)))):=fun h=>hn j ⟨k,m,hkc,hm,hr,h⟩
     have hp1:k.aT≠(i:Int)∧k.resume≠(i:Int):=by
      rcases kv.aT with ⟨q1,q2⟩ | ⟨q1,q2⟩
      ·omega
      ·have:=EE q1
       omega
     rw [beq_eq_false_iff_ne.2 (Ne.symm hp1.1),beq_eq_false_iff_ne.2 (Ne.symm hp1.2)]
     rfl
 have e2:ec c i a s.aE s.aI=s.aI:=by
  rw [ec,e1]
  refine u6 fun j => ?_
  rw [uW]
  cases hm:s.aI[j]? with
  | none=>rfl
  | some m=>
   simp only [Uo,eR]
   cases hkc:c.aA[j]? with
   | none=>rfl
   | some k=>
    simp only [kP]
    cases hr:qM m with
    | false=>rfl
    | true=>
     have BJ:k.act≠(i:Int):=fun h=>hn j ⟨k,m,hkc,hm,hr,.inl h⟩
     rw [beq_eq_false_iff_ne.2 BJ]
     rfl
 have e3:iq c i a s.aE s.aI=s.aI:=by
  rw [iq,e2,hk];rfl
 have e4:(zO c s (i:Int)).aI=s.aI:=by
  rw [e3] at h5
  exact h5.same hv.Be
 have e5:hs3 a s.aE=s.aE:=by rw [hs3,hk];rfl
 have e6:lG i a s.used=s.used:=by rw [lG,hk];rfl
 rw [e5] at h2
 rw [e6] at h3
 generalize zO c s (i:Int)=r at h1 h2 h3 e4
 cases r;cases s
 simp_all
theorem zfs (hc:c.Ok) (hv:VS c s) (hp:0≤p∧p < c.aR):aq (wk c s p) (fun r=>(∀ x∈r,0≤x∧x < (c.aJ.length:Int))∧r.length≤c.aJ.length ∧
  ∀ (i:Nat) (a:bq) (j:Nat),c.aJ[i]?=some a→nO c s j i→xj s.aE p a=false→(i:Int)∈r):=by
 have ho:=hc.off.lt (by omega:0 < 8)
 have sm:=ql ho hv.cv
 have s2:=sm.aJ
 have s3:=sm.aA
 have sY:=hv.lm
 unfold wk
 refine aq.az (Q1 (by omega) (by omega)) ?_
 refine aq.bind (P:=fun o:List Bool ⊕ Unit=>∃ l,o=.inl l∧l.length=c.aJ.length∧∀ (i:Nat) (j:Nat),nO c s j i→l[i]?=some true)
  (aq.cP (fun n l=>l.length=c.aJ.length∧∀ (i:Nat) (j:Nat),j < n→nO c s j i→l[i]?=some true) (by omega) ⟨by simp,fun i j h=>by omega⟩ (fun n l hn hl => ?_)
   (fun l hl=>⟨l,rfl,hl.1,fun i j h=>hl.2 i j (by obtain ⟨k,m,_,h2,_⟩:=h;exact (ub.1 h2).1) h⟩)) ?_
 ·obtain ⟨fK,hl2⟩:=hl
  have hm:=ua hn
  have hkc:=ua (show n < c.aA.length by omega)
  have kv:=xI ho hv.cv hkc
  refine aq.bind (P:=fun l':List Bool=>l'.length=c.aJ.length∧∀ (i:Nat) (j:Nat),j < n+1→nO c s j i→l'[i]?=some true) ?_ (fun l' h=>aq.some h)
  refine aq.az (zq hm) ?_
  refine aq.az (v := !qM s.aI[n]) (by simp only [qM];cases (s.aI[n].aN == 1)<;>rfl) ?_
  have keep:∀ (l':List Bool),(∀ i,l[i]?=some true→l'[i]?=some true)→(∀ i:Nat,nO c s n i→l'[i]?=some true)→∀ (i:Nat) (j:Nat),j < n+1→nO c s j i→l'[i]?=some true:=fun l' h1 h2 i j hj hN=>by
   rcases uJ j n with h | h
   ·exact h1 i (hl2 i j h hN)
   ·obtain rfl:j=n:=by omega
    exact h2 i hN
  refine aq.ite (fun h=>aq.some ⟨fK,keep l (fun _ h=>h) fun i hN => ?_⟩) (fun h => ?_)
  ·obtain ⟨k,m,_,h2,h3,_⟩:=hN
   rw [hm] at h2
   cases h2
   rw [h3] at h
   cases h
  ·refine aq.az (zq hkc) ?_
   have I3:∀ i:Nat,nO c s n i→(c.aA[n].act=(i:Int)∨(c.aA[n].aT ≠ -1∧(c.aA[n].aT=(i:Int)∨c.aA[n].resume=(i:Int)))):=fun i hN=>by
    obtain ⟨k,m,h1,_,_,h4⟩:=hN
    rw [hkc] at h1
    cases h1
    exact h4
   refine aq.az (QO kv.act.1 (by have:=kv.act.2;omega)) ?_
   have AY:c.aA[n].act.toNat < l.length:=by have:=kv.act;omega
   refine aq.az (ua AY) ?_
   refine aq.ite (fun h=>aq.some ⟨by simpa using fK,keep _ (fun i h=>vp h) fun i hN => ?_⟩) (fun h => ?_)
   ·have:=I3 i hN
    have h':=beq_iff_eq.1 h
    rw [show i=c.aA[n].act.toNat by omega]
    exact ye AY
   ·have h':=beq_eq_false_iff_ne.1 h
    have CC:(0≤c.aA[n].aT∧c.aA[n].aT < (c.aJ.length:Int))∧(0≤c.aA[n].resume∧c.aA[n].resume < (c.aJ.length:Int)):=by
     rcases kv.aT with ⟨h1,_⟩ | ⟨h1,h2⟩
     ·exact absurd h1 h'
     exact ⟨EE h1,EE h2⟩
    have lg:c.aA[n].aT.toNat < (l.set c.aA[n].act.toNat true).length:=by simp;omega
    have Bk:c.aA[n].resume.toNat < ((l.set c.aA[n].act.toNat true).set c.aA[n].aT.toNat true).length:=by simp;omega
    refine aq.az (QO CC.1.1 CC.1.2) ?_
    refine aq.az (ua lg) ?_
    refine aq.az (QO CC.2.1 CC.2.2) ?_
    refine aq.az (ua Bk) ?_
    refine aq.some ⟨by simpa using fK,keep _ (fun i h=>vp (vp (vp h))) fun i hN => ?_⟩
    rcases I3 i hN with h1 | ⟨_,h1 | h1⟩
    ·rw [show i=c.aA[n].act.toNat by omega]
     exact vp (vp (ye AY))
    ·rw [show i=c.aA[n].aT.toNat by omega]
     exact vp (ye lg)
    ·rw [show i=c.aA[n].resume.toNat by omega]
     exact ye Bk
 rintro _ ⟨l,rfl,fK,hl2⟩
 simp only [uD]
 refine aq.bind (P:=fun o:List Int ⊕ Unit=>∃ r,o=.inl r∧(∀ x∈r,0≤x∧x < (c.aJ.length:Int))∧r.length≤c.aJ.length∧∀ (i:Nat) (a:bq) (j:Nat),c.aJ[i]?=some a→nO c s j i→xj s.aE p a=false→(i:Int)∈r)
  (aq.cP (fun n r=>(∀ x∈r,0≤x∧x < (c.aJ.length:Int))∧r.length≤n∧∀ (i:Nat) (a:bq) (j:Nat),i < n→c.aJ[i]?=some a→nO c s j i→xj s.aE p a=false→(i:Int)∈r) (by omega) ⟨by simp,by simp,fun i a j h=>by omega⟩ (fun n r hn hr => ?_)
   (fun r hr=>⟨r,rfl,hr.1,hr.2.1,fun i a j ha=>hr.2.2 i a j (ub.1 ha).1 ha⟩)) ?_
 ·obtain ⟨ct,bZ,dJ⟩:=hr
  have ha:=ua hn
  refine aq.bind (P:=fun r':List Int=>(∀ x∈r',0≤x∧x < (c.aJ.length:Int))∧r'.length≤n+1∧∀ (i:Nat) (a:bq) (j:Nat),i < n+1→c.aJ[i]?=some a→nO c s j i→xj s.aE p a=false→(i:Int)∈r') ?_ (fun r' h=>aq.some h)
  refine aq.az (zq ha) ?_
  refine aq.az (v:=(l[n]?.getD false&&(c.aJ[n].kind == 1&&(!(c.aJ[n].to == -1) && !xj s.aE p c.aJ[n])))) ?_ ?_
  ·refine aq.eq ?_
   refine aq.az (zF hn) ?_
   have I4:=ua (show n < l.length by omega)
   refine aq.az I4 ?_
   rw [I4,Uk]
   rw [I2 hc hv ha hp]
   cases l[n]<;>cases (c.aJ[n].kind == 1)<;>cases (c.aJ[n].to == -1)<;>exact ⟨_,rfl,rfl⟩
  ·refine aq.ite (fun h => ?_) (fun h=>aq.some ⟨ct,by omega,fun i a j hi hai hN mT => ?_⟩)
   ·refine aq.az (xt (by simp only [uv];omega)) ?_
    refine aq.some ⟨fun x hx => ?_,by simp;omega,fun i a j hi hai hN mT => ?_⟩
    ·rcases uj.1 hx with hx | hx
     ·exact ct x hx
     ·obtain rfl:=uh.1 hx
      omega
    ·rcases uJ i n with h1 | h1
     ·exact uB _ (dJ i a j h1 hai hN mT)
     ·obtain rfl:i=n:=by omega
      simp
   ·rcases uJ i n with h1 | h1
    ·exact dJ i a j h1 hai hN mT
    ·obtain rfl:i=n:=by omega
     rw [ha] at hai
     cases hai
     rw [hl2 i j hN,mT] at h
     simp only [xj,uV,u4] at mT
     rw [mT.1.1,mT.1.2.1] at h
     cases h
 rintro _ ⟨r,rfl,hr⟩
 exact aq.some hr
end
end
theorem Ve {c:ay} {zw:Int} {p:aK} {n:Nat} {x:Int}:x∈jk c zw p n↔∃ i:Nat,i < n∧l7 c zw p i=true∧x=(i:Int):=by
 unfold jk
 simp only [uo,un,ul]
 constructor
 ·rintro ⟨i,⟨a,b⟩,rfl⟩;exact ⟨i,a,b,rfl⟩
 ·rintro ⟨i,a,b,rfl⟩;exact ⟨i,⟨a,b⟩,rfl⟩
theorem zZ {c:ay} {zw:Int} {p:aK} {x:Int}:x∈zr c zw p↔(p.own=true∧x = -2)∨(p.state.day < c.bl∧p.own=false∧x = -1)∨(p.state.day < c.bl∧∃ i:Nat,i < c.aJ.length∧l7 c zw p i=true∧x=(i:Int)):=by
 unfold zr
 by_cases hd:c.bl≤p.state.day
 ·have:¬ p.state.day < c.bl:=by omega
  simp only [hd,decide_true,cg,ur,this,false_and,or_false]
  cases p.own<;>simp
 ·have:p.state.day < c.bl:=by omega
  simp only [hd,decide_false,ck,uj,Ve,this,true_and]
  cases p.own<;>simp
theorem zi2 (c:ay) (zw:Int) (p:aK) (n:Nat):(jk c zw p n).Pairwise (· < ·):=by
 unfold jk
 refine List.Pairwise.map _ (R:=fun a b:Nat=>a < b) (fun a b h=>by omega) ?_
 exact List.Pairwise.filter _ List.pairwise_lt_range
theorem zhk (c:ay) (zw:Int) (p:aK):(zr c zw p).Pairwise (· < ·):=by
 unfold zr
 refine uX.2 ⟨by cases p.own<;>simp,?_,?_⟩
 ·cases decide (c.bl≤p.state.day) with
  | true=>exact List.Pairwise.nil
  | false=>
   refine uX.2 ⟨by cases p.own<;>simp,zi2 c zw p _,fun a ha b hb => ?_⟩
   obtain ⟨i,_,_,rfl⟩:=Ve.1 hb
   cases hp:p.own with
   | true=>rw [hp] at ha;simp at ha
   | false=>rw [hp] at ha;simp at ha;omega
 ·intro a ha b hb
  cases hp:p.own with
  | false=>rw [hp] at ha;simp at ha
  | true=>
   rw [hp] at ha hb
   simp at ha
   cases hd:decide (c.bl≤p.state.day) with
   | true=>rw [hd] at hb;simp at hb
   | false=>
    rw [hd] at hb
    simp only [ck,cg,ut] at hb
    obtain ⟨i,_,_,rfl⟩:=Ve.1 hb
    omega
def EF (c:ay) (n:Int):Bool:=
 !(decide (20 < (c.aE.length:Int))||(decide (30 < (c.bI.length:Int))||(decide (70 < (c.aJ.length:Int))||(decide (n < (c.aA.length:Int))||decide (100 < (c.off.length:Int))))))&&c.aA.all (fun k=>!decide (20 < (k.start.length:Int)))
theorem zhl (c:ay) (n:Int) (hc:c.aA.length < 4611686018427387904):Qi c n=some (EF c n):=by
 unfold Qi EF
 rw [ZP (l:=c.aA) (fun k=>!decide (20 < (k.start.length:Int))) hc (fun i hi=>by
  simp only [zV,ua hi,aX]
  cases decide (20 < (c.aA[i].start.length:Int))<;>rfl)]
 simp only [zt,aX,Bool.cond_true_left]
 cases (decide (20 < (c.aE.length:Int))||(decide (30 < (c.bI.length:Int))||(decide (70 < (c.aJ.length:Int))||(decide (n < (c.aA.length:Int))||decide (100 < (c.off.length:Int)))))) <;>
  cases c.aA.all (fun k=>!decide (20 < (k.start.length:Int)))<;>rfl
def I5 (c:ay):Bool:=EF c 6&&(decide ((c.aJ.length:Int)≤8)&&decide (c.bl≤20))
theorem zmI {c:ay} (hc:c.Ok):Ym c=some (I5 c):=by
 unfold Ym I5
 rw [zhl c 6 (hc.aA.lt (by omega))]
 simp only [zt,aX,uT]
theorem kj {d:Nat} (h:d < 10):(UInt8.ofNat (48+d)).toNat=48+d:=by
 rw [UInt8.toNat_ofNat'];omega
theorem kL:∀ (u:Nat),∀ b∈Lib.decDigits u,48≤b.toNat∧b.toNat≤57:=by
 intro u
 induction u using Up with
 | _ u ih=>
  intro b hb
  rw [Lib.decDigits] at hb
  by_cases h:u < 10
  ·rw [dif_pos h] at hb
   simp only [uh] at hb
   subst hb
   rw [kj h];omega
  ·rw [dif_neg h] at hb
   rcases uj.1 hb with hb | hb
   ·exact ih (u / 10) (by omega) b hb
   ·simp only [uh] at hb
    subst hb
    rw [kj (by omega)];omega
def XK (l:List UInt8):Nat:=l.foldl (fun a b=>a*10+(b.toNat - 48)) 0
theorem Zc:∀ (u:Nat),XK (Lib.decDigits u)=u:=by
 intro u
 induction u using Up with
 | _ u ih=>
  rw [Lib.decDigits]
  by_cases h:u < 10
  ·rw [dif_pos h]
   simp only [XK,Uq,Ur,kj h];omega
  ·rw [dif_neg h]
   have:=ih (u / 10) (by omega)
   unfold XK at this ⊢
   rw [List.foldl_append,this]
   simp only [Uq,Ur,kj (show u % 10 < 10 by omega)];omega
theorem I6 {a b:Int} (h:Lib.itoa a=Lib.itoa b):a=b:=by
 have key:∀ (u v:Nat),45::Lib.decDigits u=Lib.decDigits v→False:=by
  intro u v h
  have:=kL v 45 (by rw [←h];exact ue)
  have e:(45:UInt8).toNat=45:=rfl
  omega
 unfold Lib.itoa at h
 by_cases ha:a < 0
 ·by_cases hb:b < 0
  ·rw [if_pos ha,if_pos hb] at h
   have h1:=congrArg XK (List.cons.inj h).2
   rw [Zc,Zc] at h1
   omega
  ·rw [if_pos ha,if_neg hb] at h
   exact (key _ _ h).elim
 ·by_cases hb:b < 0
  ·rw [if_neg ha,if_pos hb] at h
   exact (key _ _ h.symm).elim
  ·rw [if_neg ha,if_neg hb] at h
   have h1:=congrArg XK h
   rw [Zc,Zc] at h1
   omega
theorem I7 (n:Int):∀ b∈Lib.itoa n,b≠32:=by
 intro b hb e
 subst e
 have e:(32:UInt8).toNat=32:=rfl
 unfold Lib.itoa at hb
 split at hb
 ·rcases uz.1 hb with h | h
  ·exact absurd h (by decide)
  ·have:=kL _ _ h;omega
 ·have:=kL _ _ hb;omega
def PI {α:Type} (f:α→List UInt8):Prop:=∀ (a b:α) (xs ys:List UInt8),f a++xs=f b++ys→a=b∧xs=ys
theorem I8:∀ {a b xs ys:List UInt8},(∀ x∈a,x≠32)→(∀ x∈b,x≠32)→a++32::xs=b++32::ys→a=b∧xs=ys
 | [],[],xs,ys,_,_,h=>⟨rfl,(List.cons.inj h).2⟩
 | [],y::b,xs,ys,_,hb,h=>absurd (List.cons.inj h).1.symm (hb y ue)
 | x::a,[],xs,ys,ha,_,h=>absurd (List.cons.inj h).1 (ha x ue)
 | x::a,y::b,xs,ys,ha,hb,h=>by
  obtain ⟨h1,h2⟩:=List.cons.inj h
  obtain ⟨h3,h4⟩:=I8 (a:=a) (b:=b) (fun z hz=>ha z (uc _ hz)) (fun z hz=>hb z (uc _ hz)) h2
  exact ⟨by rw [h1,h3],h4⟩
theorem Q4:PI qQ:=fun a b xs ys h=>by
 unfold qQ at h
 rw [ud,ud] at h
 obtain ⟨h1,h2⟩:=I8 (I7 a) (I7 b) h
 exact ⟨I6 h1,h2⟩
theorem Kj:PI jj:=fun a b xs ys h=>by
 unfold jj at h
 obtain ⟨h1,h2⟩:=List.cons.inj h
 refine ⟨?_,h2⟩
 cases a<;>cases b<;>first | rfl | exact absurd h1 (by decide)
theorem zkD:PI wU:=fun a b xs ys h=>by
 unfold wU at h
 simp only [ud] at h
 obtain ⟨h1,h⟩:=Q4 _ _ _ _ h
 obtain ⟨h2,h⟩:=Q4 _ _ _ _ h
 obtain ⟨h3,h⟩:=Q4 _ _ _ _ h
 obtain ⟨h4,h⟩:=Q4 _ _ _ _ h
 obtain ⟨h5,h6⟩:=Kj _ _ _ _ h
 refine ⟨?_,h6⟩
 clear h6 h
 cases a;cases b
 simp only at h1 h2 h3 h4 h5
 subst h1;subst h2;subst h3;subst h4;subst h5
 rfl
theorem yK {α:Type} {f:α→List UInt8} (hf:PI f):∀ {l m:List α} {xs ys:List UInt8},l.length=m.length→l.flatMap f++xs=m.flatMap f++ys→l=m∧xs=ys
 | [],[],_,_,_,h=>⟨rfl,h⟩
 | [],_::_,_,_,hl,_=>by simp at hl
 | _::_,[],_,_,hl,_=>by simp at hl
 | a::l,b::m,xs,ys,hl,h=>by
  rw [u7,u7,ud,ud] at h
  obtain ⟨h1,h⟩:=hf _ _ _ _ h
  obtain ⟨h2,h⟩:=yK hf (by simpa using hl) h
  exact ⟨by rw [h1,h2],h⟩
theorem zi3 {c:ay} {p q:aK} (hp:VS c p.state) (hq:VS c q.state) (h:qJ p=qJ q):p=q:=by
 unfold qJ at h
 simp only [ud] at h
 obtain ⟨h1,h⟩:=Kj _ _ _ _ h
 obtain ⟨h2,h⟩:=Q4 _ _ _ _ h
 obtain ⟨h3,h⟩:=yK Q4 (by rw [hp.lh,hq.lh]) h
 obtain ⟨h4,h⟩:=yK Kj (by rw [hp.lu,hq.lu]) h
 have h5:=(yK (l:=p.state.aI) (m:=q.state.aI) (xs:=[]) (ys:=[]) zkD (by rw [hp.lm,hq.lm]) (by rw [ur,ur];exact h)).1
 clear h
 obtain ⟨⟨d,hs,us,ms⟩,o⟩:=p
 obtain ⟨⟨d',hs',us',ms'⟩,o'⟩:=q
 simp only at h1 h2 h3 h4 h5
 subst h1;subst h2;subst h3;subst h4;subst h5;rfl
theorem vq {α:Type} {f:α→List UInt8} {b:Nat}:∀ {l:List α},(∀ a∈l,(f a).length≤b)→(l.flatMap f).length≤l.length*b
 | [],_=>by simp
 | a::l,h=>by
  have h1:=h a ue
  have h2:=vq (f:=f) (b:=b) (l:=l) fun x hx=>h x (uc _ hx)
  rw [u7,ui,uq,Nat.succ_mul];omega
theorem I9 {c:ay} {i:Nat} {k:aS} {m:aj} (kv:KV c i k) (hp:c.aR≤12) (h:jw c.aR k m=true):(0≤m.aN∧m.aN≤5)∧(0≤m.left∧m.left≤400)∧(0≤m.got∧m.got≤9)∧(-1≤m.bw∧m.bw≤12):=by
 have hn:=kv.need
 rcases wp.1 h with ⟨h0,_,h1⟩ | ⟨h0,h1,h2⟩ | ⟨h0,h1,h2,h3⟩ | ⟨h0,h1⟩
 ·simp only [Cv,ug,beq_iff_eq] at h1
  omega
 ·have hr:qM m=true:=by simp [qM,h0]
  obtain ⟨rv,_,_⟩:=wF kv h hr
  have:=rv.left;have:=rv.got;have:=rv.bw
  omega
 ·have hr:qM m=true:=by simp [qM,h0]
  obtain ⟨rv,_,_⟩:=wF kv h hr
  have:=rv.left;have:=rv.got;have:=rv.bw
  omega
 ·simp only [Cw,ug,beq_iff_eq,decide_eq_true_eq] at h1
  omega
theorem jA {n:Int} (h0 : -1000000≤n) (h1:n≤1000000):qK n=true:=by
 simp only [qK,ug,decide_eq_true_eq];omega
theorem Zm {n:Int} (h0 : -1000000≤n) (h1:n≤1000000):(qQ n).length≤22:=by
 have:=Lib.itoa_length_le n (by omega) (by omega)
 simp only [qQ,ui,uq,uL];omega
def txt (p:aK):ByteArray:=⟨(qJ p).toArray⟩
theorem La {c:ay} {p q:aK} (hp:VS c p.state) (hq:VS c q.state) (h:txt p=txt q):p=q:=by
 refine zi3 hp hq ?_
 unfold txt at h
 have h2:=congrArg (fun b:ByteArray=>b.data.toList) h
 simpa using h2
theorem Lb {c:ay} (hc:c.Ok) {p:aK} (hp:VS c p.state):vX p=some (txt p):=by
 have ho:=hc.off.lt (by omega:0 < 8)
 have sm:=ql ho hp.cv
 have hpa:=sm.aR
 have hda:=sm.bl
 have gB:=hp.day
 have hf:=hp.tV hc
 have hh:∀ h∈p.state.aE,-1000000≤h∧h≤1000000:=fun h hh=>by have:=hp.hold h hh;omega
 have hm:∀ m∈p.state.aI,(0≤m.aN∧m.aN≤5)∧(0≤m.left∧m.left≤400)∧(0≤m.got∧m.got≤9)∧(-1≤m.bw∧m.bw≤12):=fun m hm=>by
  obtain ⟨i,hi,rfl⟩:=uC hm
  have hk:=ua (show i < c.aA.length by have:=hp.lm;omega)
  exact I9 (xI ho hp.cv hk) (by omega) (hp.tQ i _ _ hk (ua hi))
 have hlen:(qJ p).length≤1000000000:=by
  have h1:=Zm (n:=p.state.day) (by omega) (by omega)
  have h2:=vq (f:=qQ) (b:=22) (l:=p.state.aE) fun h Aw=>Zm (hh h Aw).1 (hh h Aw).2
  have h3:=vq (f:=jj) (b:=1) (l:=p.state.used) fun _ _=>by simp [jj]
  have h4:=vq (f:=wU) (b:=89) (l:=p.state.aI) fun m hm'=>by
   have:=hm m hm'
   have a1:=Zm (n:=m.aN) (by omega) (by omega)
   have a2:=Zm (n:=m.left) (by omega) (by omega)
   have a3:=Zm (n:=m.got) (by omega) (by omega)
   have a4:=Zm (n:=m.bw) (by omega) (by omega)
   simp only [wU,jj,ui,uq,uL];omega
  simp only [qJ,ui]
  have:(jj p.own).length=1:=rfl
  omega
 have hok:A1 p=true:=by
  simp only [A1,ug,decide_eq_true_eq,uI]
  refine ⟨⟨⟨jA (by omega) (by omega),fun x hx=>jA (hh x hx).1 (hh x hx).2⟩,fun m hm' => ?_⟩,hlen⟩
  have:=hm m hm'
  exact ⟨⟨⟨jA (by omega) (by omega),jA (by omega) (by omega)⟩,jA (by omega) (by omega)⟩,jA (by omega) (by omega)⟩
 unfold vX txt
 rw [if_pos hok]
instance:BEq aK:=⟨fun a b=>a.own == b.own&&wZ a.state b.state⟩
instance:LawfulBEq aK where
 eq_of_beq {a b} h:=by
  have h':(a.own == b.own&&wZ a.state b.state)=true:=h
  simp only [ug,beq_iff_eq,kK] at h'
  obtain ⟨h1,h2⟩:=h'
  cases a;cases b;simp_all
 rfl {a}:=by
  show (a.own == a.own&&wZ a.state a.state)=true
  simp [kK.2 rfl]
noncomputable instance:DecidableEq aK:=fun a b=>if h:(a == b)=true then isTrue (eq_of_beq h) else isFalse fun e=>h (beq_iff_eq.2 e)
def Q5 (q:aK) (L:List aK):Option Int:=if q∈L then some (L.idxOf q:Int) else none
def visit (L:List aK) (q:aK):Option (Int×List aK):=if q∈L then some ((L.idxOf q:Int),L) else if L.length=1500 then none else some ((L.length:Int),L++[q])
def Bl (L:List aK) (F:List (ByteArray×Int)) (q:aK):List (ByteArray×Int):=if q∈L then F else zN (txt q) (L.length:Int) F
def mU (c:ay) (F:List (ByteArray×Int)) (L:List aK):Prop:=∀ q:aK,VS c q.state→zm (txt q) F=Q5 q L
theorem Q6 {α β:Type} [DecidableEq α] (k:α) (v:β):∀ l:List (α×β),zm k (zN k v l)=some v
 | []=>by simp [zN,zm]
 | (k',v')::r=>by
  unfold zN
  split
  ·simp [zm]
  ·rename_i h;simp only [zm,h,if_false];exact Q6 k v r
theorem XL {α β:Type} [DecidableEq α] {k k2:α} (v:β) (h:k2≠k):∀ l:List (α×β),zm k2 (zN k v l)=zm k2 l
 | []=>by simp [zN,zm,h]
 | (k',v')::r=>by
  unfold zN
  split
  ·rename_i e;subst e;simp only [zm,h,if_false]
  ·by_cases h2:k2=k'
   ·simp only [zm,h2,if_true]
   ·simp only [zm,h2,if_false];exact XL v h r
theorem zdF {q q':aK} {L:List aK} (hq:q ∉ L):Q5 q' (L++[q])=if q'=q then some (L.length:Int) else Q5 q' L:=by
 unfold Q5
 by_cases h:q'=q
 ·subst h
  rw [if_pos (by simp),if_pos rfl,Uj,if_neg hq]
  simp
 ·rw [if_neg h]
  by_cases hm:q'∈L
  ·rw [if_pos (by simp [hm]),if_pos hm,Uj,if_pos hm]
  ·rw [if_neg (by simp [hm,h]),if_neg hm]
theorem mU.visit {c:ay} {F:List (ByteArray×Int)} {L L':List aK} {q:aK} {to:Int} (h:mU c F L) (hq:VS c q.state) (hv:visit L q=some (to,L')):mU c (Bl L F q) L':=by
 unfold Go.Proofs.YtgpojcfkanjabaaGreatDoor.visit at hv
 unfold Bl
 by_cases hm:q∈L
 ·rw [if_pos hm] at hv ⊢; cases hv;exact h
 ·rw [if_neg hm] at hv ⊢
  split at hv
  ·cases hv
  ·cases hv
   intro q' nN
   rw [zdF hm]
   by_cases e:q'=q
   ·subst e;rw [Q6,if_pos rfl]
   ·rw [XL _ (fun h2=>e (La nN hq h2)),if_neg e,h q' nN]
theorem zi4 {c:ay} {F:List (ByteArray×Int)} {L:List aK} {q:aK} (h:mU c F L) (hq:VS c q.state) (hl:L.length≤1500) :
  (bif ((zm (txt q) F).isSome) then some (.inl (((zm (txt q) F).getD 0),L,F)) else (bif ((L.length:Int) == 1500) then some (.inr ()) else (uk (qk (α:=aK) 88 L [q]) fun e2=>some (.inl ((L.length:Int),e2,(zN (txt q) (L.length:Int) F)))))) =
   some (match visit L q with | some (to,L')=>(.inl (to,L',Bl L F q):(Int×(List aK)×(List (ByteArray×Int))) ⊕ Unit) | none=>.inr ()):=by
 rw [h q hq]
 unfold Q5 visit Bl
 by_cases hm:q∈L
 ·simp only [hm,if_true,Option.isSome_some,cg,Uk]
 ·simp only [hm,if_false,Option.isSome_none,ck]
  by_cases h2:L.length=1500
  ·have:((L.length:Int) == 1500)=true:=beq_iff_eq.2 (by omega)
   simp only [h2,if_true];rfl
  ·have:((L.length:Int) == 1500)=false:=beq_eq_false_iff_ne.2 (by omega)
   simp only [h2,if_false,this,ck]
   rw [xt (by simp;omega)];rfl
noncomputable def xv (c:ay) (e:aK):List Int→List aK×List bC→Option (List aK×List bC)
 | [],s=>some s
 | m::ms,(L,K)=>match visit L (target c e m) with
  | none=>none
  | some (to,L')=>xv c e ms (L',K++[{step:=m,to:=to}])
theorem Qx (c:ay) (e:aK):∀ (a b:List Int) (s:List aK×List bC),xv c e (a++b) s=(xv c e a s).bind (xv c e b)
 | [],b,s=>rfl
 | m::a,b,(L,K)=>by
  simp only [uU,xv]
  cases visit L (target c e m) with
  | none=>rfl
  | some x=>exact Qx c e a b _
def Vf:Nat→List bC→Option Nat
 | n,[]=>some n
 | n,t::r=>if 0≤t.to∧t.to≤(n:Int) then Vf (if t.to=(n:Int) then n+1 else n) r else none
def kM:Nat→Nat→List (List bC)→Option Nat
 | i,n,[]=>some n
 | i,n,l::r=>if i < n then (Vf n l).bind fun n'=>kM (i+1) n' r else none
theorem WK (l:List bC):∀ (M:List (List bC)) (i n:Nat),kM i n (M++[l])=(kM i n M).bind fun n'=>if i+M.length < n' then Vf n' l else none
 | [],i,n=>by
  simp only [ut,kM,aX,uL,Nat.add_zero]
  split
  ·cases Vf n l<;>rfl
  ·rfl
 | x::M,i,n=>by
  simp only [uU,kM,uq]
  split
  ·cases Vf n x with
   | none=>rfl
   | some n'=>
    simp only [aX]
    rw [WK l M (i+1) n',show i+1+M.length=i+(M.length+1) by omega]
  ·rfl
inductive mV (c:ay) (zw:Int) (p0:aK):aK→Prop where
 | base:mV c zw p0 p0
 | step {q:aK} {m:Int} (h:mV c zw p0 q) (hm:m∈zr c zw q):mV c zw p0 (target c q m)
theorem XM {c:ay} (hc:c.Ok) {zw:Int} {e:aK} {m:Int} (he:VS c e.state) (hm:m∈zr c zw e):VS c (target c e m).state:=by
 unfold target
 by_cases h2:m = -2
 ·rw [if_pos h2];exact he
 ·rw [if_neg h2]
  rcases zZ.1 hm with h | ⟨hd,_,rfl⟩ | ⟨hd,i,hi,_,rfl⟩
  ·exact absurd h.2 h2
  ·exact (jf hc he (by omega) (by omega) hd).2.1
  ·exact (jf hc he (by omega) (by omega) hd).2.1
structure gC (c:ay) (zw:Int) (p0:aK) (L:List aK):Prop where
 vs:∀ q∈L,VS c q.state
 nd:L.Nodup
 Bn:∀ q∈L,mV c zw p0 q
 len:L.length≤1500
theorem Lc {c:ay} {zw:Int} {p0 q:aK} {L L':List aK} {to:Int} (h:gC c zw p0 L) (hq:VS c q.state) (hr:mV c zw p0 q) (hv:visit L q=some (to,L')) :
  gC c zw p0 L'∧(∃ r,L'=L++r)∧0≤to∧L'[to.toNat]?=some q∧to≤(L.length:Int)∧L'.length=(if to=(L.length:Int) then L.length+1 else L.length):=by
 unfold visit at hv
 by_cases hm:q∈L
 ·rw [if_pos hm] at hv;cases hv
  have hi:=List.idxOf_lt_length_iff.2 hm
  refine ⟨h,⟨[],by simp⟩,by omega,?_,by omega,by rw [if_neg (by omega)]⟩
  rw [u9,ua hi,List.getElem_idxOf hi]
 ·rw [if_neg hm] at hv
  split at hv
  ·cases hv
  ·rename_i hl
   cases hv
   have hlen:=h.len
   refine ⟨⟨fun x hx => ?_,?_,fun x hx => ?_,by simp;omega⟩,⟨[q],rfl⟩,by omega,by simp,Int.le_refl _,by simp⟩
   ·rcases uj.1 hx with hx | hx
    ·exact h.vs x hx
    ·rw [uh.1 hx];exact hq
   ·exact uP.2 ⟨h.nd,by simp,fun a ha b hb=>by rw [uh.1 hb];exact fun e=>hm (e ▸ ha)⟩
   ·rcases uj.1 hx with hx | hx
    ·exact h.Bn x hx
    ·rw [uh.1 hx];exact hr
theorem zho {L:List aK} {q:aK} (hv:visit L q=none):q ∉ L:=by
 unfold visit at hv
 split at hv
 ·cases hv
 ·assumption
theorem zft {L:List aK} {q:aK} (hv:visit L q=none):L.length=1500:=by
 unfold visit at hv
 split at hv
 ·cases hv
 ·split at hv
  ·rename_i h;exact h
  ·cases hv
def l8 (c:ay) (zw:Int) (L:List aK) (e:aK) (ms:List Int) (T:List bC):Prop:=T.map (·.step)=ms∧∀ t∈T,0≤t.to∧L[t.to.toNat]?=some (target c e t.step)
theorem Wl {α:Type} {L r:List α} {i:Nat} {x:α} (h:L[i]?=some x):(L++r)[i]?=some x:=by
 rw [uK (ub.1 h).1];exact h
theorem l8.app {c:ay} {zw:Int} {L:List aK} {e:aK} {ms:List Int} {T:List bC} (h:l8 c zw L e ms T) (r:List aK):l8 c zw (L++r) e ms T:=
 ⟨h.1,fun t ht=>⟨(h.2 t ht).1,Wl (h.2 t ht).2⟩⟩
theorem Vg {c:ay} (hc:c.Ok) {zw:Int} {p0 e:aK} (he:VS c e.state) (hr:mV c zw p0 e):∀ (ms:List Int) (L L':List aK) (K K':List bC),(∀ m∈ms,m∈zr c zw e)→gC c zw p0 L→xv c e ms (L,K)=some (L',K') →
  gC c zw p0 L'∧(∃ r,L'=L++r)∧∃ T,K'=K++T∧l8 c zw L' e ms T∧Vf L.length T=some L'.length
 | [],L,L',K,K',_,h,hp=>by
  cases hp
  exact ⟨h,⟨[],by simp⟩,[],by simp,⟨rfl,fun t ht=>by cases ht⟩,rfl⟩
 | m::ms,L,L',K,K',nL,h,hp=>by
  simp only [xv] at hp
  have hm:=nL m ue
  cases hv:visit L (target c e m) with
  | none=>rw [hv] at hp;cases hp
  | some x=>
   obtain ⟨to,L1⟩:=x
   rw [hv] at hp
   obtain ⟨h1,⟨r1,e1⟩,t0,tq,tl,tn⟩:=Lc h (XM hc he hm) (.step hr hm) hv
   obtain ⟨h2,⟨r2,e2⟩,T,eT,hT,hch⟩:=Vg hc he hr ms L1 L' _ K' (fun x hx=>nL x (uc _ hx)) h1 hp
   refine ⟨h2,⟨r1++r2,by rw [e2,e1,ud]⟩,{step:=m,to:=to}::T,by rw [eT];simp,⟨by simp [hT.1],fun t ht => ?_⟩,?_⟩
   ·rcases uz.1 ht with rfl | ht
    ·exact ⟨t0,by rw [e2];exact Wl tq⟩
    ·exact hT.2 t ht
   ·simp only [Vf]
    rw [if_pos ⟨t0,tl⟩,←tn];exact hch
theorem Ld {c:ay} (hc:c.Ok) {zw:Int} {p0 e:aK} (he:VS c e.state) (hr:mV c zw p0 e):∀ (ms:List Int) (L:List aK) (K:List bC),(∀ m∈ms,m∈zr c zw e)→gC c zw p0 L→xv c e ms (L,K)=none →
  ∃ L1,gC c zw p0 L1∧L1.length=1500∧∃ q,mV c zw p0 q∧q ∉ L1
 | [],L,K,_,h,hp=>by cases hp
 | m::ms,L,K,nL,h,hp=>by
  simp only [xv] at hp
  have hm:=nL m ue
  cases hv:visit L (target c e m) with
  | none=>exact ⟨L,h,zft hv,_,.step hr hm,zho hv⟩
  | some x=>
   obtain ⟨to,L1⟩:=x
   rw [hv] at hp
   obtain ⟨h1,_⟩:=Lc h (XM hc he hm) (.step hr hm) hv
   exact Ld hc he hr ms L1 _ (fun x hx=>nL x (uc _ hx)) h1 hp
section
def kQ (b:UInt8):Prop:=b.toNat=45∨(48≤b.toNat∧b.toNat≤57)
theorem Lf (n:Int):∀ b∈Lib.itoa n,kQ b:=by
 intro b hb
 unfold Lib.itoa at hb
 split at hb
 ·rcases uz.1 hb with h | h
  ·subst h;exact .inl rfl
  ·exact .inr (kL _ _ h)
 ·exact .inr (kL _ _ hb)
theorem Lg:∀ {a b xs ys:List UInt8} {x y:UInt8},(∀ z∈a,kQ z)→(∀ z∈b,kQ z)→¬ kQ x→¬ kQ y→a++x::xs=b++y::ys→a=b∧x=y∧xs=ys
 | [],[],_,_,_,_,_,_,_,_,h=>⟨rfl,(List.cons.inj h).1,(List.cons.inj h).2⟩
 | [],z::b,_,_,_,_,_,hb,hx,_,h=>absurd (hb z ue) (by rw [←(List.cons.inj h).1];exact hx)
 | z::a,[],_,_,_,_,ha,_,_,hy,h=>absurd (ha z ue) (by rw [(List.cons.inj h).1];exact hy)
 | z::a,w::b,_,_,_,_,ha,hb,hx,hy,h=>by
  obtain ⟨h1,h2⟩:=List.cons.inj h
  obtain ⟨h3,h4⟩:=Lg (fun q hq=>ha q (uc _ hq)) (fun q hq=>hb q (uc _ hq)) hx hy h2
  exact ⟨by rw [h1,h3],h4⟩
theorem jZ {a b:Int} {xs ys:List UInt8} {x y:UInt8} (hx:¬ kQ x) (hy:¬ kQ y) (h:Lib.itoa a++x::xs=Lib.itoa b++y::ys):a=b∧x=y∧xs=ys:=
 let ⟨h1,h2⟩:=Lg (Lf a) (Lf b) hx hy h
 ⟨I6 h1,h2⟩
instance (b:UInt8):Decidable (kQ b):=inferInstanceAs (Decidable (_∨_))
theorem Kk:¬ kQ 44:=by decide
theorem Kl:¬ kQ 46:=by decide
theorem Lh:¬ kQ 59:=by decide
theorem CD:¬ kQ 112:=by decide
theorem zkE:PI wc:=fun a b xs ys h=>by
 unfold wc at h
 rw [ud,ud] at h
 obtain ⟨h1,_,h2⟩:=jZ Kk Kk h
 exact ⟨h1,h2⟩
theorem zkF:PI wV:=fun a b xs ys h=>by
 unfold wV at h
 obtain ⟨h1,h2⟩:=List.cons.inj h
 refine ⟨?_,h2⟩
 cases a<;>cases b<;>first | rfl | exact absurd h1 (by decide)
theorem zmK:PI vj:=fun a b xs ys h=>by
 simp only [vj,qw,ud,uU] at h
 obtain ⟨h1,_,h⟩:=jZ Kl Kl h
 obtain ⟨h2,_,h⟩:=jZ Kl Kl h
 obtain ⟨h3,_,h⟩:=jZ Kl Kl h
 have h5:a.bw=b.bw∧a.bN=b.bN∧xs=ys:=by
  cases ha:a.bN<;>cases hb:b.bN<;>rw [ha,hb] at h
  ·obtain ⟨h4,_,h⟩:=jZ Kk Kk h
   exact ⟨h4,rfl,h⟩
  ·obtain ⟨_,h,_⟩:=jZ Kk CD h
   exact absurd h (by decide)
  ·obtain ⟨_,h,_⟩:=jZ CD Kk h
   exact absurd h (by decide)
  ·obtain ⟨h4,_,h⟩:=jZ CD CD h
   exact ⟨h4,rfl,(List.cons.inj h).2⟩
 refine ⟨?_,h5.2.2⟩
 obtain ⟨h5,h6,_⟩:=h5
 clear h
 cases a;cases b
 simp only at h1 h2 h3 h5 h6
 subst h1;subst h2;subst h3;subst h5;subst h6
 rfl
def enc (s:ak):ByteArray:=⟨(ja s).toArray⟩
theorem Q7 {c:ay} {s t:ak} (hs:VS c s) (ht:VS c t) (h:enc s=enc t):s=t:=by
 have h:ja s=ja t:=by
  unfold enc at h
  have h2:=congrArg (fun b:ByteArray=>b.data.toList) h
  simpa using h2
 simp only [ja,ud] at h
 obtain ⟨h1,_,h⟩:=jZ Lh Lh h
 obtain ⟨h2,h⟩:=yK zkE (by rw [hs.lh,ht.lh]) h
 obtain ⟨h3,h⟩:=yK zkF (by rw [hs.lu,ht.lu]) (List.cons.inj h).2
 have h4:=(yK (l:=s.aI) (m:=t.aI) (xs:=[]) (ys:=[]) zmK (by rw [hs.lm,ht.lm]) (by rw [ur,ur];exact (List.cons.inj h).2)).1
 clear h
 cases s;cases t
 simp only at h1 h2 h3 h4
 subst h1;subst h2;subst h3;subst h4;rfl
theorem Li {c:ay} (hc:c.Ok) {s:ak} (hs:VS c s):tP s=true∧(ja s).length≤1000000:=by
 have ho:=hc.off.lt (by omega:0 < 8)
 have sm:=ql ho hs.cv
 have gB:=hs.day
 have sX:=hs.lh
 have CB:=hs.lu
 have sY:=hs.lm
 have sp:=sm.aR
 have sd:=sm.bl
 have s1:=sm.aE
 have s2:=sm.aJ
 have s3:=sm.aA
 have hmk:∀ m∈s.aI,(0≤m.aN∧m.aN≤5)∧(0≤m.left∧m.left≤400)∧(0≤m.got∧m.got≤9)∧(-1≤m.bw∧m.bw≤12):=fun m hm=>by
  obtain ⟨i,hi⟩:=List.getElem?_of_mem hm
  have hi':=(ub.1 hi).1
  have hk:=ua (show i < c.aA.length by omega)
  have:=I9 (xI ho hs.cv hk) sp.2 (hs.tQ i _ m hk hi)
  omega
 have l0:=Lib.itoa_length_le s.day (by omega) (by omega)
 have l1:(s.aE.flatMap wc).length≤s.aE.length*22:=vq fun h hh=>by
  have:=hs.hold h hh
  have:=Lib.itoa_length_le h (by omega) (by omega)
  simp only [wc,ui,uv];omega
 have l2:(s.used.flatMap wV).length≤s.used.length*1:=vq fun h hh=>by simp [wV]
 have l3:(s.aI.flatMap vj).length≤s.aI.length*100:=vq fun m hm=>by
  have:=hmk m hm
  have h1:=Lib.itoa_length_le m.aN (by omega) (by omega)
  have h2:=Lib.itoa_length_le m.left (by omega) (by omega)
  have h3:=Lib.itoa_length_le m.got (by omega) (by omega)
  have h4:=Lib.itoa_length_le m.bw (by omega) (by omega)
  simp only [vj,qw,ui,uv,uq]
  cases m.bN<;>simp<;>omega
 have hlen:(ja s).length≤1000000:=by simp only [ja,ui,uv];omega
 refine ⟨?_,hlen⟩
 simp only [tP,ug,decide_eq_true_eq,uI]
 refine ⟨⟨⟨jA (by omega) (by omega),fun h hh => ?_⟩,fun m hm => ?_⟩,by omega⟩
 ·have:=hs.hold h hh
  exact jA (by omega) (by omega)
 ·have:=hmk m hm
  exact ⟨⟨⟨jA (by omega) (by omega),jA (by omega) (by omega)⟩,jA (by omega) (by omega)⟩,jA (by omega) (by omega)⟩
theorem zi5 {c:ay} (hc:c.Ok) {s:ak} (hs:VS c s):vk s=some (enc s):=by
 unfold vk
 rw [if_pos (Li hc hs).1]
 rfl
def mp (L:List ak):List (ByteArray×ak):=L.map fun s=>(enc s,s)
section
variable {c:ay} {L:List ak} {x:ak}
theorem Km (hL:∀ y∈L,VS c y) (hx:VS c x):(x∈L→zm (enc x) (mp L)=some x)∧(x ∉ L→zm (enc x) (mp L)=none):=by
 induction L with
 | nil=>exact ⟨fun h=>(by cases h),fun _=>rfl⟩
 | cons y L ih=>
  obtain ⟨i1,i2⟩:=ih fun z hz=>hL z (uc _ hz)
  simp only [mp,Uc,zm]
  by_cases e:enc x=enc y
  ·have:=Q7 hx (hL y ue) e
   subst this
   rw [if_pos rfl]
   exact ⟨fun _=>rfl,fun h=>absurd ue h⟩
  ·rw [if_neg e]
   have hne:x≠y:=fun h=>e (by rw [h])
   exact ⟨fun h=>i1 ((uz.1 h).resolve_left hne),fun h=>i2 fun h'=>h (uc _ h')⟩
theorem Lj (hL:∀ y∈L,VS c y) (hx:VS c x) (h:x ∉ L):zN (enc x) x (mp L)=mp (L++[x]):=by
 induction L with
 | nil=>rfl
 | cons y L ih=>
  have hne:enc x≠enc y:=fun e=>h (by rw [Q7 hx (hL y ue) e];exact ue)
  have:=ih (fun z hz=>hL z (uc _ hz)) fun h'=>h (uc _ h')
  simp only [mp,Uc,zN,if_neg hne,uU] at this ⊢
  rw [this]
theorem zkG (hL:∀ y∈L,VS c y) (hx:VS c x) (hd:L.Nodup) (h:x∈L):∃ L',xq (enc x) (mp L)=mp L'∧L'.length+1=L.length∧L'.Nodup∧∀ y,y∈L'↔y∈L∧y≠x:=by
 induction L with
 | nil=>cases h
 | cons y L ih=>
  obtain ⟨d1,d2⟩:=u0.1 hd
  simp only [mp,Uc,xq]
  by_cases e:enc x=enc y
  ·have:=Q7 hx (hL y ue) e
   subst this
   rw [if_pos rfl]
   refine ⟨L,rfl,rfl,d2,fun z=>⟨fun hz=>⟨uc _ hz,fun e=>d1 (by rw [←e];exact hz)⟩,fun hz=>(uz.1 hz.1).resolve_left hz.2⟩⟩
  ·rw [if_neg e]
   have hne:x≠y:=fun h=>e (by rw [h])
   obtain ⟨L',h1,h2,h3,h4⟩:=ih (fun z hz=>hL z (uc _ hz)) d2 ((uz.1 h).resolve_left hne)
   refine ⟨y::L',by simp only [mp,Uc] at h1 ⊢; rw [h1],by simp only [uq];omega,u0.2 ⟨fun hy=>d1 ((h4 y).1 hy).1,h3⟩,fun z => ?_⟩
   rw [uz,uz,h4]
   constructor
   ·rintro (rfl | ⟨a1,a2⟩)
    ·exact ⟨.inl rfl,fun e=>hne e.symm⟩
    ·exact ⟨.inr a1,a2⟩
   ·rintro ⟨rfl | a1,a2⟩
    ·exact .inl rfl
    ·exact .inr ⟨a1,a2⟩
theorem Ll (hc:c.Ok) (hL:∀ y∈L,VS c y) (hd:L.Nodup) (hl:L.length≤1000):∃ ks,qr (mp L)=some ks∧ks.length=L.length∧ks.Nodup∧(∀ k∈ks,∃ y∈L,enc y=k)∧∀ y∈L,enc y∈ks:=by
 have hp:(xi ((mp L).map (·.1))).Perm (L.map enc):=by
  refine (kX _).trans (List.Perm.of_eq ?_)
  simp [mp]
 refine ⟨xi ((mp L).map (·.1)),?_,by simpa using hp.length_eq,?_,fun k hk => ?_,fun y hy=>hp.mem_iff.2 (List.mem_map_of_mem hy)⟩
 ·unfold qr
  rw [if_pos]
  simp only [Cj,ug,decide_eq_true_eq,uI]
  refine ⟨by simp only [mp,ux];omega,fun e he => ?_⟩
  obtain ⟨y,hy,rfl⟩:=uo.1 he
  have:=(Li hc (hL y hy)).2
  show (enc y).size≤1000000000
  have e:(enc y).size=(ja y).length:=by simp [enc,ByteArray.size]
  omega
 ·refine hp.nodup_iff.2 ?_
  rw [uH,List.pairwise_map]
  exact List.Pairwise.imp_of_mem (fun {a b} ha hb hne e=>hne (Q7 (hL a ha) (hL b hb) e)) (uH.1 hd)
 ·obtain ⟨y,hy,e⟩:=uo.1 (hp.mem_iff.1 hk)
  exact ⟨y,hy,e⟩
end
end
section
section
variable {c:ay} {p:Int}
def nY (c:ay) (p:Int) (A:List ak) (x:ak):Prop:=x.day < c.bl→∀ (i:Nat) (a:bq) (j:Nat),c.aJ[i]?=some a→nO c x j i→xj x.aE p a=false→zO c x i∈A
theorem nY.mono {A A':List ak} {x:ak} (h:nY c p A x) (hs:∀ y∈A,y∈A'):nY c p A' x:=fun hd i a j h1 h2 h3=>hs _ (h hd i a j h1 h2 h3)
structure CI (c:ay) (A B:List ak) (k:Nat):Prop where
 vs:∀ x∈A,VS c x
 nd:A.Nodup
 EG:B.Nodup
 sub:∀ x∈B,x∈A
 len:A.length=B.length+k
theorem Lm (hc:c.Ok) {A B:List ak} {s:ak} {k:Nat} (h:CI c A B k) (hs:VS c s):∃ A' B',jQ s (mp A) (mp B)=some (mp A',mp B')∧CI c A' B' k∧s∈A'∧(∀ x∈A,x∈A')∧(∀ x∈B,x∈B')∧(∀ x∈A',x∈A∨x∈B')∧A'.length≤A.length+1:=by
 have hg:=Km h.vs hs
 unfold jQ
 rw [zi5 hc hs,aX]
 by_cases hm:s∈A
 ·rw [hg.1 hm]
  exact ⟨A,B,rfl,h,hm,fun _ h=>h,fun _ h=>h,fun _ h=>.inl h,by omega⟩
 ·have Ln:s ∉ B:=fun hb=>hm (h.sub s hb)
  rw [hg.2 hm,Lj h.vs hs hm,Lj (fun y hy=>h.vs y (h.sub y hy)) hs Ln]
  refine ⟨A++[s],B++[s],rfl,⟨fun x hx => ?_,?_,?_,fun x hx => ?_,by simp only [ui,uv];have:=h.len;omega⟩,by simp,fun x hx=>uB _ hx,fun x hx=>uB _ hx,fun x hx => ?_,by simp⟩
  ·rcases uj.1 hx with hx | hx
   ·exact h.vs x hx
   ·rw [uh.1 hx];exact hs
  ·exact uP.2 ⟨h.nd,by simp,fun x hx y hy=>by rw [uh.1 hy];exact fun e=>hm (by rw [←e];exact hx)⟩
  ·exact uP.2 ⟨h.EG,by simp,fun x hx y hy=>by rw [uh.1 hy];exact fun e=>Ln (by rw [←e];exact hx)⟩
  ·rcases uj.1 hx with hx | hx
   ·exact uB _ (h.sub x hx)
   ·exact Uf _ hx
  ·rcases uj.1 hx with hx | hx
   ·exact .inl hx
   ·exact .inr (Uf _ hx)
theorem XN (A:List ak):(mp A).length=A.length:=by simp [mp]
structure CE (c:ay) (p:Int) (l:List ak) (ks:List ByteArray) (k n:Nat) (A B:List ak):Prop where
 ci:CI c A B (k+n)
 has:∀ x∈l,x∈A
 tW:∀ x∈A,x∈B∨nY c p A x
 todo:∀ m,n≤m→∀ hm:m < ks.length,∃ x∈B,enc x=ks[m]
 len:A.length≤1000
abbrev gY:=List (ByteArray×ak)
theorem WL (hc:c.Ok) (hv:(zI c).1=0) (hp:0≤p∧p < c.aR) {l:List ak} (hl:∀ x∈l,VS c x) (lf:l.length≤500) :
  aq (jY c p l) (fun r=>(r.2=3∧r.1=[])∨(r.2=0∧r.1.length≤300∧(∀ x∈r.1,VS c x)∧(∀ x∈l,x∈r.1)∧∀ x∈r.1,nY c p r.1 x)):=by
 have ho:=hc.off.lt (by omega:0 < 8)
 have sm:=ql ho hv
 have sa:=sm.aJ
 unfold jY
 refine aq.bind (P:=fun o:(gY×gY) ⊕ Unit=>∃ A B,o=.inl (mp A,mp B)∧CI c A B 0∧(∀ x∈l,x∈A)∧(∀ x∈A,x∈B)∧A.length≤500)
  (aq.cP (fun n s=>∃ A B,s=(mp A,mp B)∧CI c A B 0∧(∀ m,m < n→∀ hm:m < l.length,l[m]∈A)∧(∀ x∈A,x∈B)∧A.length≤n) (by omega)
   ⟨[],[],rfl,⟨fun x hx=>(by cases hx),.nil,.nil,fun x hx=>(by cases hx),rfl⟩,fun m hm=>(by omega),fun x hx=>(by cases hx),uN _⟩ (fun n s hn hs => ?_)
   (fun s hs=>by
    obtain ⟨A,B,rfl,h1,h2,h3,h4⟩:=hs
    exact ⟨A,B,rfl,h1,fun x hx=>(by obtain ⟨m,hm,rfl⟩:=uC hx;exact h2 m hm hm),h3,by omega⟩)) ?_
 ·obtain ⟨A,B,rfl,h1,h2,h3,h4⟩:=hs
  refine aq.az (zq (ua hn)) ?_
  obtain ⟨A',B',e,g1,g2,g3,g4,g5,g6⟩:=Lm hc h1 (hl _ (um hn))
  refine aq.az e (aq.some ⟨A',B',rfl,g1,fun m hm hml => ?_,fun x hx=>(g5 x hx).elim (fun h=>g4 x (h3 x h)) id,by omega⟩)
  rcases uJ m n with q | q
  ·exact g3 _ (h2 m q hml)
  ·obtain rfl:m=n:=by omega
   exact g2
 rintro _ ⟨A0,B0,rfl,h1,h2,h3,h4⟩
 simp only [uD]
 refine aq.bind (P:=fun v:Int×gY=>∃ A,v.2=mp A∧(∀ x∈A,VS c x)∧A.Nodup∧A.length≤1000∧(v.1=3∨(v.1=0∧(∀ x∈l,x∈A)∧∀ x∈A,nY c p A x))) ?_ ?_
 ·refine aq.bind (P:=fun v:Int×gY=>∃ A,v.2=mp A∧(∀ x∈A,VS c x)∧A.Nodup∧A.length≤1000∧(v.1=3∨(v.1=0∧(∀ x∈l,x∈A)∧∀ x∈A,nY c p A x))) ?_ (fun v h=>aq.some h)
  refine aq.iter (fun s:Int×gY×gY=>∃ A B k,s=(0,mp A,mp B)∧CI c A B k∧(∀ x∈l,x∈A)∧(∀ x∈A,x∈B∨nY c p A x)∧A.length≤1000) (fun s=>1000 - (s.2.1.length - s.2.2.length)) ⟨A0,B0,0,rfl,h1,h2,fun x hx=>.inl (h3 x hx),by omega⟩ ?_
  rintro _ ⟨A,B,k,rfl,i1,i2,i3,i4⟩
  simp only
  refine aq.ite (fun hne => ?_) (fun hem=>aq.some ⟨A,rfl,i1.vs,i1.nd,i4,.inr ⟨rfl,i2,fun x hx=>(i3 x hx).resolve_left fun hb => ?_⟩⟩)
  ·have hB0:0 < B.length:=by have:=of_decide_eq_true hne;rw [XN] at this;omega
   refine aq.az (v:=()) rfl ?_
   obtain ⟨ks,e1,e2,e3,e4,e5⟩:=Ll hc (fun y hy=>i1.vs y (i1.sub y hy)) i1.EG (by have:=i1.len;omega)
   refine aq.az e1 ?_
   refine aq.bind (P:=fun o:(Int×gY×gY) ⊕ gY=>(∃ A' B',o=.inl (0,mp A',mp B')∧CE c p l ks k ks.length A' B')∨∃ A',o=.inr (mp A')∧(∀ x∈A',VS c x)∧A'.Nodup∧A'.length≤1000)
    (aq.cP (fun n s=>∃ A' B',s=(0,mp A',mp B')∧CE c p l ks k n A' B') (by have:=i1.len;omega) ⟨A,B,rfl,⟨i1,i2,i3,fun m _ hm=>e4 _ (um hm),i4⟩⟩ (fun n s hn hs => ?_)
     (fun s hs=>by obtain ⟨A',B',rfl,h⟩:=hs;exact .inl ⟨A',B',rfl,h⟩)) ?_
   ·obtain ⟨A',B',rfl,r⟩:=hs
    have EH:∀ y∈B',VS c y:=fun y hy=>r.ci.vs y (r.ci.sub y hy)
    obtain ⟨x,hx,ex⟩:=r.todo n (uN _) hn
    have CF:=EH x hx
    have eg:(zm (enc x) (mp B')).getD ({day:=0,aE:=[],used:=[],aI:=[]}:ak)=x:=by rw [(Km EH CF).1 hx];rfl
    obtain ⟨B1,d1,d2,d3,d4⟩:=zkG EH CF r.ci.EG hx
    have rL:∀ m,n+1≤m→∀ hm:m < ks.length,∃ y∈B1,enc y=ks[m]:=fun m hm hml=>by
     obtain ⟨y,hy,ey⟩:=r.todo m (by omega) hml
     refine ⟨y,(d4 y).2 ⟨hy,fun e => ?_⟩,ey⟩
     subst e
     have:=(uH.1 e3)
     have:=List.pairwise_iff_getElem.1 this n m hn hml (by omega)
     exact this (by rw [←ex,ey])
    have Lo:CI c A' B1 (k+(n+1)):=⟨r.ci.vs,r.ci.nd,d3,fun y hy=>r.ci.sub y ((d4 y).1 hy).1,by have:=r.ci.len;omega⟩
    refine aq.bind (P:=fun o:(gY×gY) ⊕ Unit=>(∃ A2 B2,o=.inl (mp A2,mp B2)∧CE c p l ks k (n+1) A2 B2)∨o=.inr ()) ?_ ?_
    ·refine aq.az (zq (ua hn)) ?_
     rw [←ex]
     simp only [eg,d1,XN]
     refine aq.ite (fun _=>aq.some (.inr rfl)) (fun hle => ?_)
     have hle:=of_decide_eq_false hle
     refine aq.ite (fun hd=>aq.some (.inl ⟨A',B1,rfl,⟨Lo,r.has,fun y hy => ?_,rL,r.len⟩⟩)) (fun hd => ?_)
     ·have hd:=of_decide_eq_true hd
      rcases r.tW y hy with h | h
      ·by_cases e:y=x
       ·subst e
        exact .inr fun h=>by omega
       ·exact .inl ((d4 y).2 ⟨h,e⟩)
      ·exact .inr h
     have hd:=of_decide_eq_false hd
     refine aq.bind (zfs hc CF hp) ?_
     rintro r4 ⟨f1,f2,f3⟩
     refine aq.bind (P:=fun o:(gY×gY) ⊕ Unit=>∃ A2 B2,o=.inl (mp A2,mp B2)∧CE c p l ks k (n+1) A2 B2)
      (aq.cP (fun j s=>∃ A2 B2,s=(mp A2,mp B2)∧CI c A2 B2 (k+(n+1))∧(∀ y∈A',y∈A2)∧(∀ y∈B1,y∈B2)∧(∀ y∈A2,y∈A'∨y∈B2)∧(∀ m,m < j→∀ hm:m < r4.length,zO c x r4[m]∈A2)∧A2.length≤A'.length+j) (by omega)
       ⟨A',B1,rfl,Lo,fun _ h=>h,fun _ h=>h,fun _ h=>.inl h,fun m hm=>(by omega),uN _⟩ (fun j s hj hs => ?_)
       (fun s hs=>by
        obtain ⟨A2,B2,rfl,q1,q2,q3,q4,q5,q6⟩:=hs
        refine ⟨A2,B2,rfl,⟨q1,fun y hy=>q2 y (r.has y hy),fun y hy => ?_,fun m hm hml => ?_,by omega⟩⟩
        ·rcases q4 y hy with h | h
         ·by_cases e:y=x
          ·subst e
           refine .inr fun _ i a j g1 g2 g3 => ?_
           obtain ⟨m,hm,em⟩:=uC (f3 i a j g1 g2 g3)
           rw [←em]
           exact q5 m hm hm
          ·rcases r.tW y h with h | h
           ·exact .inl (q3 y ((d4 y).2 ⟨h,e⟩))
           ·exact .inr (h.mono q2)
         ·exact .inl h
        ·obtain ⟨y,hy,ey⟩:=rL m hm hml
         exact ⟨y,q3 y hy,ey⟩)) ?_
     ·obtain ⟨A2,B2,rfl,q1,q2,q3,q4,q5,q6⟩:=hs
      refine aq.bind (P:=fun v:gY×gY=>∃ A3 B3,v=(mp A3,mp B3)∧CI c A3 B3 (k+(n+1))∧(∀ y∈A',y∈A3)∧(∀ y∈B1,y∈B3)∧(∀ y∈A3,y∈A'∨y∈B3)∧(∀ m,m < j+1→∀ hm:m < r4.length,zO c x r4[m]∈A3)∧A3.length≤A'.length+(j+1)) ?_ (fun v h=>aq.some h)
      obtain ⟨y0,y1⟩:=f1 _ (um hj)
      obtain ⟨st,sv,-⟩:=jf hc CF (a:=r4[j]) (by omega) y1 (by omega)
      refine aq.az (zq (ua hj)) ?_
      refine aq.az st ?_
      refine aq.ite (fun _ => ?_) (fun h=>by cases h)
      obtain ⟨A3,B3,e,g1,g2,g3,g4,g5,g6⟩:=Lm hc q1 sv
      refine aq.az e (aq.some ⟨A3,B3,rfl,g1,fun y hy=>g3 y (q2 y hy),fun y hy=>g4 y (q3 y hy),fun y hy => ?_,fun m hm hml => ?_,by omega⟩)
      ·rcases g5 y hy with h | h
       ·exact (q4 y h).elim .inl fun h=>.inr (g4 y h)
       ·exact .inr h
      ·rcases uJ m j with q | q
       ·exact g3 _ (q5 m q hml)
       ·obtain rfl:m=j:=by omega
        exact g2
     rintro _ ⟨A2,B2,rfl,h⟩
     exact aq.some (.inl ⟨A2,B2,rfl,h⟩)
    rintro _ (⟨A2,B2,rfl,h⟩ | rfl)
    ·exact aq.some ⟨A2,B2,rfl,h⟩
    ·exact aq.some (.inr ⟨A',rfl,r.ci.vs,r.ci.nd,r.len⟩)
   rintro _ (⟨A',B',rfl,r⟩ | ⟨A',rfl,g1,g2,g3⟩)
   ·refine aq.some ⟨⟨A',B',_,rfl,r.ci,r.has,r.tW,r.len⟩,?_⟩
    simp only [XN]
    have:=r.ci.len
    have:=i1.len
    have:=r.len
    omega
   ·exact aq.some ⟨A',rfl,g1,g2,g3,.inl rfl⟩
  ·have h0:=of_decide_eq_false hem
   rw [XN] at h0
   rw [uY (by omega:B.length=0)] at hb
   cases hb
 rintro ⟨e,_⟩ ⟨A,rfl,g1,g2,g3,g4⟩
 simp only
 refine aq.az (v:=(!(e == 0)||decide (300 < A.length))) (by rw [XN];rcases g4 with rfl | ⟨rfl,_⟩<;>simp<;>omega) ?_
 refine aq.ite (fun _=>aq.some (.inl ⟨rfl,rfl⟩)) (fun h => ?_)
 simp only [uV,u4,decide_eq_false_iff_not] at h
 rcases g4 with rfl | ⟨rfl,g4,g5⟩
 ·cases h.1
 refine aq.az (v:=()) rfl ?_
 obtain ⟨ks,e1,e2,e3,e4,e5⟩:=Ll hc g1 g2 g3
 refine aq.az e1 ?_
 refine aq.bind (P:=fun o:List ak ⊕ Unit=>∃ r,o=.inl r∧r.length=ks.length∧(∀ x∈r,x∈A)∧∀ x∈A,x∈r)
  (aq.cP (fun n r=>r.length=n∧(∀ x∈r,x∈A)∧∀ m,m < n→∀ hm:m < ks.length,∀ x∈A,enc x=ks[m]→x∈r) (by omega) ⟨rfl,fun x hx=>(by cases hx),fun m hm=>(by omega)⟩ (fun n r hn hr => ?_)
   (fun r hr=>⟨r,rfl,hr.1,hr.2.1,fun x hx=>(by
    obtain ⟨m,hm,em⟩:=uC (e5 x hx)
    exact hr.2.2 m hm hm x hx em.symm)⟩)) ?_
 ·obtain ⟨ct,bZ,dJ⟩:=hr
  refine aq.az (zq (ua hn)) ?_
  obtain ⟨x,hx,ex⟩:=e4 _ (um hn)
  rw [←ex,(Km g1 (g1 x hx)).1 hx]
  refine aq.az (xt (by simp only [uv];omega)) (aq.some ⟨by simp [ct],fun y hy => ?_,fun m hm hml y hy ey => ?_⟩)
  ·rcases uj.1 hy with hy | hy
   ·exact bZ y hy
   ·rw [uh.1 hy];exact hx
  ·rcases uJ m n with q | q
   ·exact uB _ (dJ m q hml y hy ey)
   ·obtain rfl:m=n:=by omega
    rw [←ex] at ey
    rw [Q7 (g1 y hy) (g1 x hx) ey]
    simp
 rintro _ ⟨r,rfl,ct,bZ,dJ⟩
 refine aq.some (.inr ⟨rfl,by have:=h.2;simp only;omega,fun x hx=>g1 x (bZ x hx),fun x hx=>dJ x (g4 x hx),fun x hx=>(g5 x (bZ x hx)).mono dJ⟩)
theorem zdG (l:List ak):ZI c p l=jY c p l:=by
 unfold ZI jY
 have e:(fun (i1:Nat) (s1:gY×gY)=>(uk (zl l.length (i1:Int)) fun k1=>(uk (l[k1]?) fun e1=>(uk (jQ e1 s1.1 s1.2) fun r1=>(some (.inl (r1.1,r1.2)):Option ((gY×gY) ⊕ Unit)))))) =
   fun (i1:Nat) (s1:gY×gY)=>(uk (zf l (i1:Int)) fun e1=>(uk (jQ e1 s1.1 s1.2) fun r1=>(some (.inl (r1.1,r1.2)):Option ((gY×gY) ⊕ Unit)))):=by
  funext i s
  rw [zV]
  rcases uJ i l.length with h | h
  ·rw [zF h];rfl
  ·have:zl l.length (i:Int)=none:=by unfold zl;rw [if_neg (by omega)]
   rw [this,uA h];rfl
 rw [e]
end
end
abbrev XT:Type:=(List aK)×(List (ByteArray×Int))×(List bC)
def fR (c:ay) (zw:Int) (p0 e:aK) (L0:List aK) (ms:List Int) (x:XT):Prop:=xv c e ms (L0,[])=some (x.1,x.2.2)∧mU c x.2.1 x.1
theorem Lp {c:ay} (hc:c.Ok) {zw:Int} {e:aK} (he:VS c e.state):(zr c zw e).length≤62:=by
 have sm:=ql (hc.off.lt (by omega)) he.cv
 have sa:=sm.aJ
 have:=I0 c zw e c.aJ.length
 unfold zr
 cases e.own<;>cases decide (c.bl≤e.state.day)<;>simp<;>omega
theorem fR.facts {c:ay} (hc:c.Ok) {zw:Int} {p0 e:aK} {L0:List aK} {ms:List Int} {x:XT} (he:VS c e.state) (hr:mV c zw p0 e) (hP:gC c zw p0 L0) (nL:∀ m∈ms,m∈zr c zw e) (h:fR c zw p0 e L0 ms x) :
  gC c zw p0 x.1∧x.2.2.length=ms.length:=by
 obtain ⟨h1,_,T,eT,hT,_⟩:=Vg hc he hr ms L0 x.1 [] x.2.2 nL hP h.1
 refine ⟨h1,?_⟩
 rw [eT,ut,←hT.1,ux]
theorem Vh {c:ay} (hc:c.Ok) {zw:Int} {p0 e:aK} {L0:List aK} {ms:List Int} {m:Int} {L:List aK} {F:List (ByteArray×Int)} {K:List bC} {q:aK} (he:VS c e.state) (hr:mV c zw p0 e) (hP:gC c zw p0 L0) (nL:∀ x∈ms,x∈zr c zw e) (hm:m∈zr c zw e) (hlen:ms.length≤100)
  (hq:q=target c e m) (h:fR c zw p0 e L0 ms (L,F,K)) {β:Type} {k:Int×(List aK)×(List (ByteArray×Int))→Option β} {z:Option β} {Q:β→Prop}
  (hk:∀ (to:Int) (L':List aK) (F':List (ByteArray×Int)),fR c zw p0 e L0 (ms++[m]) (L',F',K++[{step:=m,to:=to}])→qk (α:=bC) 16 K [({step:=m,to:=to}:bC)]=some (K++[{step:=m,to:=to}])→aq (k (to,L',F')) Q)
  (hz:xv c e (ms++[m]) (L0,[])=none→aq z Q) :
  aq (uk (vX q) fun r=>(uk (α:=(Int×(List aK)×(List (ByteArray×Int))) ⊕ Unit) (bif ((zm r F).isSome) then some (.inl (((zm r F).getD 0),L,F)) else (bif ((L.length:Int) == 1500) then some (.inr ()) else (uk (qk (α:=aK) 88 L [q]) fun e2=>some (.inl ((L.length:Int),e2,(zN r (L.length:Int) F)))))) (Sum.elim k (fun _=>z)))) Q:=by
 obtain ⟨hPI,Lq⟩:=h.facts hc he hr hP nL
 have EI:VS c q.state:=by rw [hq];exact XM hc he hm
 refine aq.az (Lb hc EI) ?_
 refine aq.az (zi4 h.2 EI hPI.len) ?_
 have pZ:xv c e (ms++[m]) (L0,[])=(match visit L q with | none=>none | some (to,L')=>some (L',K++[{step:=m,to:=to}])):=by
  rw [Qx,h.1]
  simp only [aX,xv,hq]
  all_goals (cases visit L (target c e m)<;>rfl)
 cases hv:visit L q with
 | none=>
  rw [hv] at pZ
  exact hz pZ
 | some x=>
  obtain ⟨to,L'⟩:=x
  rw [hv] at pZ
  refine hk to L' (Bl L F q) ⟨pZ,mU.visit h.2 EI hv⟩ (xt ?_)
  simp only at Lq
  rw [Lq];simp;omega
theorem YD (c:ay) (zw:Int) (p:aK) {m n:Nat} (h:m≤n):∃ r,jk c zw p n=jk c zw p m++r:=by
 induction h with
 | refl=>exact ⟨[],by simp⟩
 | step _ ih=>
  obtain ⟨r,hr⟩:=ih
  rw [Zb,hr]
  exact ⟨_,ud _ _ _⟩
theorem kR {c:ay} {e:aK} {a b:List Int} {s:List aK×List bC} (h:xv c e a s=none):xv c e (a++b) s=none:=by rw [Qx,h];rfl
structure eG (c:ay) (zw:Int) (p:aK) (L:List aK) (M:List (List bC)):Prop where
 inv:gC c zw p L
 first:L[0]?=some p
 len:M.length=L.length
 mv:∀ (j:Nat) (T:List bC) (e:aK),M[j]?=some T→L[j]?=some e→l8 c zw L e (zr c zw e) T
 lD:kM 0 1 M=some L.length
def Bp (c:ay) (zw:Int) (p:aK):Prop:=∃ L1,gC c zw p L1∧L1.length=1500∧∃ q,mV c zw p q∧q ∉ L1
structure EJ (c:ay) (zw:Int) (p:aK) (s:Int×(List aK)×(List (List bC))×(List (ByteArray×Int))):Prop where
 i:s.1=(s.2.2.1.length:Int)
 le:s.2.2.1.length≤s.2.1.length
 inv:gC c zw p s.2.1
 rel:mU c s.2.2.2 s.2.1
 first:s.2.1[0]?=some p
 mv:∀ (j:Nat) (T:List bC) (e:aK),s.2.2.1[j]?=some T→s.2.1[j]?=some e→l8 c zw s.2.1 e (zr c zw e) T
 lD:kM 0 1 s.2.2.1=some s.2.1.length
theorem Lr {c:ay} (hc:c.Ok) {zw:Int} {p:aK} (dK:xJ c zw p.state=true) :
  aq (jt c zw p) (fun r=>(r.2=0∧r.1.zw=zw∧eG c zw p r.1.aW r.1.bK)∨(r.2=3∧Bp c zw p)):=by
 obtain ⟨pW,hp1,hv⟩:=xy.1 dK
 have sm:=ql (hc.off.lt (by omega)) hv.cv
 have sa:=sm.aJ
 unfold jt
 refine aq.az (by rw [YC hc,dK]) ?_
 refine aq.ite (fun _ => ?_) (fun h=>by cases h)
 refine aq.az (IZ hc hv) ?_
 refine aq.az (Lb hc hv) ?_
 refine aq.bind (P:=fun o:((List aK)×(List (List bC))) ⊕ Unit=>(∃ L M,o=.inl (L,M)∧eG c zw p L M)∨(o=.inr ()∧Bp c zw p)) ?_ ?_
 ·refine aq.bind (P:=fun o:((List aK)×(List (List bC))) ⊕ Unit=>(∃ L M,o=.inl (L,M)∧eG c zw p L M)∨(o=.inr ()∧Bp c zw p)) (aq.iter (EJ c zw p) (fun s=>(1501 - s.1).toNat) ?_ ?_) ?_
  ·refine ⟨rfl,by simp,⟨fun q hq => ?_,by simp,fun q hq => ?_,by simp⟩,?_,rfl,fun j T e h=>by simp at h,rfl⟩
   ·rw [uh.1 hq];exact hv
   ·rw [uh.1 hq];exact .base
   ·intro q hq
    simp only [zN,zm,Q5,uh]
    by_cases e:q={state:=p.state,own:=p.own}
    ·subst e
     simp [List.idxOf_cons,txt]
    ·have e2:txt q≠txt p:=fun h=>e (La hq hv h)
     rw [if_neg e2,if_neg e]
  ·rintro ⟨i,L,M,F⟩ ⟨hi,hle,hinv,hrel,sZ,EK,fq⟩
   simp only at hi hle hinv hrel sZ EK fq ⊢
   subst hi
   have hlen:=hinv.len
   refine aq.ite (fun hlt => ?_) (fun hge => ?_)
   ·have hlt:=of_decide_eq_true hlt
    have EL:M.length < L.length:=by omega
    have heq:=ua EL
    have hme:=um EL
    have he:=hinv.vs _ hme
    have hr:=hinv.Bn _ hme
    generalize L[M.length]=e at heq he hr
    have Lt:=Lp hc (zw:=zw) he
    refine aq.bind (P:=fun o:XT ⊕ Unit=>(∃ x,o=.inl x∧fR c zw p e L (zr c zw e) x)∨(o=.inr ()∧xv c e (zr c zw e) (L,[])=none)) ?_ ?_
    ·refine aq.az (zq heq) ?_
     refine aq.az (x:=Cq c zw e) (v:=()) rfl ?_
     refine aq.bind (P:=fun o:XT ⊕ (Unit ⊕ XT)=>(∃ x,o=.inl x∧e.state.day < c.bl∧fR c zw p e L (bif e.own then [-2] else []) x)∨(o=.inr (.inl ())∧xv c e (bif e.own then [-2] else []) (L,[])=none)∨(∃ x,o=.inr (.inr x)∧c.bl≤e.state.day∧fR c zw p e L (bif e.own then [-2] else []) x)) ?_ ?_
     ·have hbase:fR c zw p e L [] (L,F,[]):=⟨rfl,hrel⟩
      cases ho:e.own with
      | false=>
       simp only [ck]
       refine aq.ite (fun hd=>aq.some (.inr (.inr ⟨_,rfl,of_decide_eq_true hd,hbase⟩))) (fun hd=>aq.some (.inl ⟨_,rfl,by have:=of_decide_eq_false hd;omega,hbase⟩))
      | true=>
       simp only [cg]
       refine aq.az (IZ hc he) ?_
       have hm2:(-2:Int)∈zr c zw e:=zZ.2 (.inl ⟨ho,rfl⟩)
       refine Vh hc he hr hinv (fun x hx=>by cases hx) hm2 (by simp) (by unfold target;rw [if_pos rfl]) hbase (fun to L' F' hg ha => ?_) (fun hz=>aq.some (.inr (.inl ⟨rfl,hz⟩)))
       refine aq.az ha ?_
       refine aq.ite (fun hd=>aq.some (.inr (.inr ⟨_,rfl,of_decide_eq_true hd,hg⟩))) (fun hd=>aq.some (.inl ⟨_,rfl,by have:=of_decide_eq_false hd;omega,hg⟩))
     ·rintro o (⟨⟨L1,F1,K1⟩,rfl,hd,hg⟩ | ⟨rfl,hn⟩ | ⟨⟨L1,F1,K1⟩,rfl,hd,hg⟩)
      ·
       have rf:zr c zw e=(bif e.own then [-2] else [-1])++jk c zw e c.aJ.length:=by
        unfold zr
        rw [decide_eq_false (show ¬ c.bl≤e.state.day by omega)]
        cases e.own<;>rfl
       refine aq.bind (P:=fun o:XT ⊕ Unit=>(∃ x,o=.inl x∧fR c zw p e L (bif e.own then [-2] else [-1]) x)∨(o=.inr ()∧xv c e (bif e.own then [-2] else [-1]) (L,[])=none)) ?_ ?_
       ·cases ho:e.own with
        | true=>rw [ho] at hg;exact aq.some (.inl ⟨_,rfl,hg⟩)
        | false=>
         rw [ho] at hg
         simp only [ck] at hg ⊢
         obtain ⟨EM,_⟩:=jf (a := -1) hc he (by omega) (by omega) hd
         refine aq.az EM ?_
         have hm1:(-1:Int)∈zr c zw e:=zZ.2 (.inr (.inl ⟨hd,ho,rfl⟩))
         refine Vh hc he hr hinv (fun x hx=>by cases hx) hm1 (by simp) (by unfold target;rw [if_neg (by omega)]) hg (fun to L' F' hg ha => ?_) (fun hz=>aq.some (.inr ⟨rfl,hz⟩))
         refine aq.az ha ?_
         exact aq.some (.inl ⟨_,rfl,hg⟩)
       ·rintro o (⟨⟨L2,F2,K2⟩,rfl,fc⟩ | ⟨rfl,hn⟩)
        ·
         refine aq.bind (P:=fun o:XT ⊕ XT=>(∃ x,o=.inl x∧fR c zw p e L (zr c zw e) x)∨(∃ x,o=.inr x∧xv c e (zr c zw e) (L,[])=none)) ?_ ?_
         ·have hsub:∀ i,i≤c.aJ.length→∀ x∈(bif e.own then [-2] else [-1])++jk c zw e i,x∈zr c zw e:=by
           intro i hi x hx
           rw [rf]
           obtain ⟨r,hr'⟩:=YD c zw e hi
           rw [hr']
           rcases uj.1 hx with h | h
           ·exact uj.2 (.inl h)
           ·exact uj.2 (.inr (uj.2 (.inl h)))
          refine aq.cP (n:=c.aJ.length) (fun i s=>fR c zw p e L ((bif e.own then [-2] else [-1])++jk c zw e i) s) (by omega) ?_ ?_ (fun s hs=>.inl ⟨s,rfl,by rw [rf];exact hs⟩)
          ·show fR c zw p e L ((bif e.own then [-2] else [-1])++jk c zw e 0) (L2,F2,K2)
           have:jk c zw e 0=[]:=rfl
           rw [this,ur];exact fc
          ·rintro i ⟨L3,F3,K3⟩ hi EO
           simp only
           have hx:=ua hi
           have av:=YA hv.cv hx
           have s6:l7 c zw e i=(((jT e.state.aE c.aJ[i] == zw) == e.own) && !wZ (zO c e.state i) e.state):=by simp only [l7,hx]
           have Lu:=I0 c zw e i
           refine aq.bind (P:=fun o:XT ⊕ Unit=>(∃ x,o=.inl x∧fR c zw p e L ((bif e.own then [-2] else [-1])++jk c zw e (i+1)) x)∨(o=.inr ()∧xv c e ((bif e.own then [-2] else [-1])++jk c zw e (i+1)) (L,[])=none)) ?_ ?_
           ·refine aq.az (zq hx) ?_
            refine aq.az (zi1 he av) ?_
            refine aq.ite (fun hq => ?_) (fun hq => ?_)
            ·obtain ⟨EM,hvs,_⟩:=jf (a:=(i:Int)) hc he (by omega) (by omega) hd
             have hfew:=hvs.tV hc
             refine aq.az EM ?_
             refine aq.az (zkC (zO c e.state i) e.state (by omega) (by omega) (by omega)) ?_
             refine aq.ite (fun hs=>aq.some (.inl ⟨_,rfl,?_⟩)) (fun hs => ?_)
             ·rw [Zb,s6,hq,hs]
              simpa using EO
             ·have hb:l7 c zw e i=true:=by rw [s6,hq,hs];rfl
              have hmi:(i:Int)∈zr c zw e:=zZ.2 (.inr (.inr ⟨hd,i,hi,hb,rfl⟩))
              have hact:jk c zw e (i+1)=jk c zw e i++[(i:Int)]:=by rw [Zb,hb];rfl
              rw [hact,←ud]
              refine Vh hc he hr hinv (hsub i (by omega)) hmi (by cases e.own<;>simp<;>omega) (by unfold target;rw [if_neg (by omega)]) EO (fun to L' F' hg ha => ?_) (fun hz=>aq.some (.inr ⟨rfl,hz⟩))
              refine aq.az ha ?_
              exact aq.some (.inl ⟨_,rfl,hg⟩)
            ·refine aq.some (.inl ⟨_,rfl,?_⟩)
             rw [Zb,s6,hq]
             simpa using EO
           ·rintro o (⟨x,rfl,CG⟩ | ⟨rfl,hn⟩)
            ·exact aq.some CG
            ·refine aq.some (.inr ⟨_,rfl,?_⟩)
             rw [rf]
             obtain ⟨r,hr'⟩:=YD c zw e (show i+1≤c.aJ.length by omega)
             rw [hr',←ud]
             exact kR hn
         ·rintro o (⟨x,rfl,CG⟩ | ⟨x,rfl,hn⟩)
          ·exact aq.some (.inl ⟨_,rfl,CG⟩)
          ·exact aq.some (.inr ⟨rfl,hn⟩)
        ·refine aq.some (.inr ⟨rfl,?_⟩)
         rw [rf];exact kR hn
      ·refine aq.some (.inr ⟨rfl,?_⟩)
       unfold zr;exact kR hn
      ·refine aq.some (.inl ⟨_,rfl,?_⟩)
       have:zr c zw e=(bif e.own then [-2] else []):=by
        unfold zr
        rw [decide_eq_true hd]
        simp
       rw [this];exact hg
    ·rintro o (⟨⟨L',F',K'⟩,rfl,hg⟩ | ⟨rfl,hn⟩)
     ·obtain ⟨h1,⟨r1,e1⟩,T,eT,hT,hch⟩:=Vg hc he hr (zr c zw e) L L' [] K' (fun m hm=>hm) hinv hg.1
      simp only [ut] at eT
      subst eT
      simp only [uD]
      refine aq.az (xt (by simp;omega)) ?_
      rw [qz (by omega) (by omega)]
      refine aq.some ⟨⟨by simp,?_,h1,hg.2,by show L'[0]?=some p;rw [e1];exact Wl sZ,?_,?_⟩,?_⟩
      ·show (M++[K']).length≤L'.length
       rw [e1];simp;omega
      ·show ∀ (j:Nat) (T:List bC) (e:aK),(M++[K'])[j]?=some T→L'[j]?=some e→l8 c zw L' e (zr c zw e) T
       intro j T e' hj he'
       by_cases hjm:j < M.length
       ·rw [uK hjm] at hj
        have hjL:L[j]?=some e':=by
         rw [e1,uK (by omega)] at he';exact he'
        rw [e1]
        exact (EK j T e' hj hjL).app r1
       ·have hj2:j=M.length:=by
         have:=(ub.1 hj).1
         simp at this;omega
        subst hj2
        rw [u5 (uN _)] at hj
        simp at hj
        subst hj
        have:L'[M.length]?=some e:=by rw [e1];exact Wl heq
        rw [this] at he';cases he'
        exact hT
      ·show kM 0 1 (M++[K'])=some L'.length
       rw [WK,fq]
       simp only [aX,Nat.zero_add]
       rw [if_pos EL];exact hch
      ·show (1501 - ((M.length:Int)+1)).toNat < (1501 - (M.length:Int)).toNat
       omega
     ·obtain ⟨L1,h1,h2⟩:=Ld hc he hr (zr c zw e) L [] (fun m hm=>hm) hinv hn
      exact aq.some (.inr ⟨rfl,L1,h1,h2⟩)
   ·have hge:=of_decide_eq_false hge
    exact aq.some (.inl ⟨L,M,rfl,hinv,sZ,by omega,EK,fq⟩)
  ·rintro o (⟨L,M,rfl,h⟩ | ⟨rfl,h⟩)
   ·exact aq.some (.inl ⟨L,M,rfl,h⟩)
   ·exact aq.some (.inr ⟨rfl,h⟩)
 ·rintro o (⟨L,M,rfl,h⟩ | ⟨rfl,h⟩)
  ·exact aq.some (.inl ⟨rfl,rfl,h⟩)
  ·exact aq.some (.inr ⟨rfl,h⟩)
def JJ (k:aS) (m:aj):aj:=bif k.bH then {aN:=5,left:=0,got:=0,bw := -1,bN:=false} else {aN:=0,left:=0,got:=0,bw := -1,bN:=false}
def JK:aj:={aN:=0,left:=0,got:=0,bw:=0,bN:=false}
theorem Lv {c:ay} (hc:c.Ok) (h:(zI c).1≠0):qy c=some (IW,1):=by
 unfold qy
 rw [hc.valid]
 have:((zI c).1 == 0)=false:=beq_eq_false_iff_ne.2 h
 simp only [aX,this,ck];rfl
def zmL (c:ay):List aj:=(uw c.aA.length JK).mapIdx (eR c JJ)
theorem zfu {c:ay} (hc:c.Ok) (hv:(zI c).1=0):aq (qy c) (fun r=>r.2=0∧VS c r.1∧r.1.day=0∧r.1.aE=c.aE∧r.1.used=uw c.aJ.length false∧dH c c.aE (zmL c) r.1.aI):=by
 have ho:=hc.off.lt (by omega:0 < 8)
 have sm:=ql ho hv
 have s1:=sm.aE
 have s2:=sm.aJ
 have s3:=sm.aA
 have s4:=sm.aR
 have s5:=sm.bl
 unfold qy
 refine aq.az hc.valid ?_
 refine aq.ite (fun _ => ?_) (fun h=>absurd hv (beq_eq_false_iff_ne.1 h))
 refine aq.az (ju (by omega)) ?_
 refine aq.az (Q1 (show c.aJ.length < 1000 by omega) (by omega)) ?_
 refine aq.az (Q1 (show c.aA.length < 1000 by omega) (by omega)) ?_
 have sD:iX c ((uw c.aA.length JK).mapIdx (eR c JJ)):=by
  refine ⟨by simp,fun i k m hk hm => ?_⟩
  rw [uW] at hm
  obtain ⟨m0,_,rfl⟩:=Option.map_eq_some_iff.1 hm
  simp only [eR,hk,JJ]
  have e4:decide (-1 < c.aR)=true:=decide_eq_true (by omega)
  cases hw:k.bH with
  | true=>
   show jw c.aR k {aN:=5,left:=0,got:=0,bw := -1,bN:=false}=true
   refine wp.2 (.inr (.inr (.inr ⟨.inr (.inr rfl),?_⟩)))
   show ((0:Int) == 0&&(decide ((0:Int)≤0)&&(decide ((0:Int)≤9)&&(decide ((-1:Int) ≤ -1)&&(decide (-1 < c.aR) && !false)))))=true
   rw [e4];rfl
  | false=>exact wp.2 (.inl ⟨rfl,hw,rfl⟩)
 refine aq.bind (P:=fun o:List aj ⊕ Unit=>o=.inl ((uw c.aA.length JK).mapIdx (eR c JJ))) ?_ ?_
 ·refine aq.of ?_
  have hl:(c.aA.length:Int)=((uw c.aA.length JK).length:Int):=by simp
  show aH (c.aA.length:Int) _ (uw c.aA.length JK)=_
  conv=>lhs;arg 1;rw [hl]
  refine wN (uw c.aA.length JK) (eR c JJ) (by simp;omega) ?_
  intro i m s h1 h2 h3
  have hi:i < c.aA.length:=by simpa using (ub.1 h1).1
  have hk:=ua hi
  simp only [zq hk,aX,zF hi,h3,vJ h3,eR,hk,JJ,Us]
  cases c.aA[i].bH<;>rfl
 ·rintro o rfl
  simp only [uD]
  have hs:=XJ c 0 c.aE (uw c.aJ.length false) _ ho hv rfl (IL hv) sD
  unfold yd at hs
  rw [List.length_replicate,show ((uw c.aA.length JK).mapIdx (eR c JJ)).length=c.aA.length by simp] at hs
  refine aq.bind hs fun r hr => ?_
  refine aq.az (wn (by simp)) ?_
  refine aq.az (wn hr.ok.1.symm) ?_
  refine aq.some ⟨rfl,⟨hv,⟨by show (0:Int)≤0;omega,by show (0:Int)≤c.bl;omega⟩,rfl,by simp,hr.ok.1,IL hv,?_,hr.ok.2,hr.nr⟩,rfl,rfl,rfl,hr⟩
  intro i a _ hu
  simp only [Ud] at hu
  split at hu
  ·cases hu
  ·cases hu
theorem Lw {c:ay} (hc:c.Ok) (hv:(zI c).1=0):aq (qy c) (fun r=>r.2=0∧VS c r.1):=aq.mono (zfu hc hv) fun _ h=>⟨h.1,h.2.1⟩
def YE:cx:={zw:=0,aW:=[],bK:=[]}
theorem zi6 {c:ay} (hc:c.Ok) {zw:Int} {p:aK} (h:xJ c zw p.state=false):jt c zw p=some (YE,1):=by
 unfold jt
 rw [YC hc,h];rfl
def zmM (c:ay) (zw:Int) (r:cx×Int):Prop:=
 r.2≠0∨(r.2=0∧∃ s0,qy c=some (s0,0)∧VS c s0∧0≤zw∧zw < c.aR∧r.1.zw=zw∧eG c zw {state:=s0,own:=true} r.1.aW r.1.bK)
theorem zhq {c:ay} (hc:c.Ok) (zw:Int):aq (vG c zw) (zmM c zw):=by
 unfold vG
 by_cases hv:(zI c).1=0
 ·obtain ⟨⟨s0,e0⟩,hst,h0,hvs⟩:=Lw hc hv
  simp only at h0 hvs
  subst h0
  refine aq.az hst ?_
  refine aq.ite (fun _ => ?_) (fun h=>by cases h)
  cases dK:xJ c zw s0 with
  | false=>
   refine aq.az (zi6 hc (p:={state:=s0,own:=true}) dK) ?_
   exact aq.some (.inl (by simp))
  | true=>
   obtain ⟨h1,h2,_⟩:=xy.1 dK
   refine aq.bind (Lr hc (p:={state:=s0,own:=true}) dK) ?_
   rintro ⟨a,e⟩ (⟨h3,h4,h5⟩ | ⟨h3,_⟩)
   ·exact aq.some (.inr ⟨h3,s0,hst,hvs,h1,h2,h4,h5⟩)
   ·simp only at h3
    exact aq.some (.inl (by show e≠0;omega))
 ·refine aq.az (Lv hc hv) ?_
  exact aq.some (.inl (by simp))
theorem ZV {α:Type} [BEq α] [LawfulBEq α]:∀ {L1 L2:List α},L1.Nodup→(∀ x∈L1,x∈L2)→L1.length≤L2.length
 | [],L2,_,_=>by simp
 | a::l,L2,h,hs=>by
  obtain ⟨ha,hl⟩:=u0.1 h
  have hm:=hs a ue
  have ih:=ZV (L1:=l) (L2:=L2.erase a) hl fun x hx=>(List.mem_erase_of_ne (by rintro rfl;exact ha hx)).2 (hs x (uc _ hx))
  rw [List.length_erase_of_mem hm] at ih
  have:0 < L2.length:=Ue hm
  simp only [uq];omega
theorem eG.closed {c:ay} {zw:Int} {p:aK} {L:List aK} {M:List (List bC)} (F:eG c zw p L M) {q:aK} (hq:q∈L) {m:Int} (hm:m∈zr c zw q):target c q m∈L:=by
 obtain ⟨j,hj,e⟩:=uC hq
 have hjM:j < M.length:=by rw [F.len];exact hj
 have h:=F.mv j M[j] q (ua hjM) (by rw [ua hj,e])
 rw [←h.1] at hm
 obtain ⟨t,ht,rfl⟩:=uo.1 hm
 exact Ug (h.2 t ht).2
theorem eG.Bn {c:ay} {zw:Int} {p:aK} {L:List aK} {M:List (List bC)} (F:eG c zw p L M) {q x:aK} (hq:q∈L) (h:mV c zw q x):x∈L:=by
 induction h with
 | base=>exact hq
 | step _ hm ih=>exact F.closed ih hm
section
def at_ (l:List Int) (i:Nat):Int:=l[i]?.getD 0
theorem yf {l:List Int} {i:Nat} (h:i < l.length):l[i]?=some (at_ l i):=by unfold at_;rw [ua h];rfl
theorem ZW {l:List Int} {i:Nat} (h:i < l.length) (x:Int):at_ (l.set i x)=upd (at_ l) i x:=by
 funext j
 unfold at_ upd
 by_cases e:j=i
 ·subst e;rw [if_pos rfl,uy h];rfl
 ·rw [if_neg e,Uh (Ne.symm e)]
def cst (l:List Nat):List Int:=l.map fun x:Nat=>(x:Int)
theorem Zn (l:List Nat):(cst l).length=l.length:=ux _
theorem Wm (l m:List Nat):cst (l++m)=cst l++cst m:=Un
def Kn (c:ay) (zw:Int) (aI:List aj) (i:Nat):Bool:=match c.aA[i]?,aI[i]? with
 | some k,some m=>k.final&&((m.aN == 4)&&(m.bw == zw))
 | _,_=>false
def qa (c:ay) (s:ak) (zw:Int):Bool := !((uu s.aI.length).all fun i=>!Kn c zw s.aI i)
theorem Lx (c:ay) (s:ak) (zw:Int) (hl:s.aI.length=c.aA.length) (hs:s.aI.length < 4611686018427387904) :
  (aH (σ:=Unit) (ρ:=Unit) (s.aI.length:Int) (fun i1 s1=>(uk (zf s.aI (i1:Int)) fun e1=>(uk (uk (zf c.aA (i1:Int)) fun e2=>(bif e2.final then (bif (e1.aN == 4) then some (e1.bw == zw) else some false) else some false)) fun v1=>(bif v1 then some (.inr ()) else some (.inl ()))))) ()) =
   some (bif qa c s zw then .inr () else .inl ()):=by
 rw [Qm (fun i=>!Kn c zw s.aI i) hs (fun j hj=>by
  have hk:j < c.aA.length:=by omega
  simp only [zV,ua hj,ua hk,aX,Kn]
  cases (c.aA[j].final)<;>cases (s.aI[j].aN == 4)<;>cases (s.aI[j].bw == zw)<;>rfl)]
 unfold qa
 cases ((uu s.aI.length).all fun i=>!Kn c zw s.aI i)<;>rfl
theorem zmN {c:ay} (hc:c.Ok) {s:ak} (hv:VS c s) (zw:Int):Yq c s zw=some (qa c s zw):=by
 have:=(hv.tV hc).2.2
 unfold Yq
 rw [Lx c s zw hv.lm (by omega)]
 cases qa c s zw<;>rfl
theorem zi7 {c:ay} (hc:c.Ok) {s:ak} (hv:VS c s) {zw:Int} (h0:0≤zw) (h1:zw < c.aR):yI c s zw=some (qa c s zw):=by
 have:=(hv.tV hc).2.2
 unfold yI
 rw [decide_eq_false (show ¬ zw < 0 by omega),decide_eq_false (show ¬ c.aR≤zw by omega),wm c s hc,ZS hv]
 simp only [ck,aX,Bool.not_true]
 rw [Lx c s zw hv.lm (by omega)]
 cases qa c s zw<;>rfl
def gm (c:ay) (a:cx):Gm where
 n:=a.aW.length
 own i:=match a.aW[i]? with | some q=>q.own | none=>false
 lost i:=match a.aW[i]? with | some q=>qa c q.state a.zw | none=>false
 succ i:=match a.bK[i]? with | some T=>T.map fun m=>m.to.toNat | none=>[]
structure bQ (c:ay) (zw:Int) (p:aK) (a:cx):Prop where
 p0:0≤zw
 p1:zw < c.aR
 pa:a.zw=zw
 F:eG c zw p a.aW a.bK
section
variable {c:ay} {zw:Int} {p:aK} {a:cx}
theorem bQ.mv (A:bQ c zw p a) {i:Nat} (hi:i < a.aW.length):∃ T,a.bK[i]?=some T∧l8 c zw a.aW a.aW[i] (zr c zw a.aW[i]) T:=by
 have h:i < a.bK.length:=by rw [A.F.len];exact hi
 exact ⟨a.bK[i],ua h,A.F.mv i _ _ (ua h) (ua hi)⟩
theorem bQ.succ (A:bQ c zw p a) {i:Nat} (hi:i < a.aW.length) {T:List bC} (hT:a.bK[i]?=some T):(gm c a).succ i=T.map fun m=>m.to.toNat:=by
 simp only [gm,hT]
theorem bQ.to (A:bQ c zw p a) {i:Nat} (hi:i < a.aW.length) {T:List bC} (hT:a.bK[i]?=some T) {m:bC} (hm:m∈T):0≤m.to∧m.to < a.aW.length:=by
 obtain ⟨T',h1,_,h3⟩:=A.mv hi
 rw [hT] at h1;cases h1
 obtain ⟨h4,h5⟩:=h3 m hm
 have:=(ub.1 h5).1
 omega
theorem bQ.len (hc:c.Ok) (A:bQ c zw p a) {i:Nat} (hi:i < a.aW.length) {T:List bC} (hT:a.bK[i]?=some T):T.length≤62:=by
 obtain ⟨T',h1,h2,_⟩:=A.mv hi
 rw [hT] at h1;cases h1
 have:=Lp hc (zw:=zw) (A.F.inv.vs _ (um hi))
 rw [←ux (f:=fun x:bC=>x.step),h2];exact this
theorem bQ.closed (A:bQ c zw p a):∀ i,i < (gm c a).n→∀ t∈(gm c a).succ i,t < (gm c a).n:=fun i hi t ht=>by
 obtain ⟨T,h1,_⟩:=A.mv hi
 rw [A.succ hi h1] at ht
 obtain ⟨m,hm,rfl⟩:=uo.1 ht
 have:=A.to hi h1 hm
 show m.to.toNat < a.aW.length
 omega
theorem bQ.EP (hc:c.Ok) (A:bQ c zw p a) (i:Nat) (hi:i < (gm c a).n):((gm c a).succ i).length≤62:=by
 obtain ⟨T,h1,_⟩:=A.mv hi
 rw [A.succ hi h1,ux];exact A.len hc hi h1
theorem zcR (hc:c.Ok) (A:bQ c zw p a):yc c a=some true:=by
 have h0:=A.p0
 have h1:=A.p1
 have hlen:=A.F.inv.len
 refine aq.eq ?_
 unfold yc
 rw [A.pa]
 refine aq.az (v:=false) (by rw [decide_eq_false (show ¬ zw < 0 by omega),decide_eq_false (show ¬ c.aR≤zw by omega),A.F.len];simp) ?_
 refine aq.ite (fun h=>by cases h) (fun _ => ?_)
 refine aq.bind (P:=fun o:Unit ⊕ Unit=>o=.inl ()) (aq.cP (fun _ _=>True) (by omega) trivial (fun i s hi _ => ?_) (fun _ _=>rfl)) ?_
 ·obtain ⟨T,hT,hM⟩:=A.mv hi
  have CH:=A.len hc hi hT
  refine aq.az (zq (ua hi)) ?_
  refine aq.az (zq hT) ?_
  refine aq.bind (P:=fun o:Unit ⊕ Unit=>o=.inl ()) (aq.cP (fun _ _=>True) (by omega) trivial (fun k s hk _ => ?_) (fun _ _=>rfl)) ?_
  ·have:=A.to hi hT (um hk)
   refine aq.az (zq (ua hk)) ?_
   refine aq.az (v:=false) (by rw [decide_eq_false (show ¬ T[k].to < 0 by omega),decide_eq_false (show ¬ (a.aW.length:Int)≤T[k].to by omega)];rfl) ?_
   exact aq.some trivial
  ·rintro _ rfl
   refine aq.az (by rw [wm c _ hc,ZS (A.F.inv.vs _ (um hi))]) ?_
   exact aq.some trivial
 ·rintro _ rfl
  exact aq.some rfl
structure L1 (G:Gm) (i k:Nat) (ea:List (List Int)):Prop where
 len:ea.length=G.n
 row:∀ t,t < G.n→∃ l:List Nat,ea[t]?=some (cst l)∧l.length≤62*i+k∧∀ x,l.count x=if x < i then (G.succ x).count t else if x=i then ((G.succ i).take k).count t else 0
theorem L1.next {G:Gm} {i k:Nat} {ea:List (List Int)} (h:L1 G i k ea) (hk:k=(G.succ i).length) (hl:k≤62):L1 G (i+1) 0 ea:=by
 refine ⟨h.len,fun t ht => ?_⟩
 obtain ⟨l,h1,h2,h3⟩:=h.row t ht
 refine ⟨l,h1,by omega,fun x => ?_⟩
 rw [h3 x]
 by_cases e:x < i
 ·rw [if_pos e,if_pos (by omega)]
 ·rw [if_neg e]
  by_cases e2:x=i
  ·subst e2;rw [if_pos rfl,if_pos (by omega),hk,Ul]
  ·rw [if_neg e2,if_neg (by omega)]
   split<;>simp
theorem L1.step {G:Gm} {i k:Nat} {ea:List (List Int)} (h:L1 G i k ea) (hn:G.n≤1500) (hi:i < G.n) (hk:k≤62) {to:Nat} (ht:(G.succ i)[k]?=some to) (hto:to < G.n):aq (yv ea G.n (to:Int) (i:Int)) (L1 G i (k+1)):=by
 obtain ⟨l,h1,h2,h3⟩:=h.row to hto
 have e:yv ea G.n (to:Int) (i:Int)=some (ea.set to (cst (l++[i]))):=by
  unfold yv
  rw [if_pos ⟨by omega,by omega,by omega⟩,u9,h1]
  simp only
  rw [if_pos (by rw [Zn];omega),Wm];rfl
 refine ⟨_,e,by rw [List.length_set];exact h.len,fun t ht2 => ?_⟩
 have htk:(G.succ i).take (k+1)=(G.succ i).take k++[to]:=by
  obtain ⟨h5,h6⟩:=ub.1 ht
  rw [uQ h5,h6]
 by_cases e2:t=to
 ·subst e2
  refine ⟨l++[i],uy (by rw [h.len];exact ht2),by simp;omega,fun x => ?_⟩
  rw [uR,h3 x,htk,uR]
  by_cases a1:x < i
  ·rw [if_pos a1,if_pos a1,uF (by omega)];simp
  ·rw [if_neg a1,if_neg a1]
   by_cases a2:x=i
   ·subst a2;rw [if_pos rfl,if_pos rfl];simp
   ·rw [if_neg a2,if_neg a2,uF (fun h=>a2 h.symm)];simp
 ·obtain ⟨l2,b1,b2,b3⟩:=h.row t ht2
  refine ⟨l2,by rw [Uh (Ne.symm e2)];exact b1,by omega,fun x => ?_⟩
  rw [b3 x,htk,uR,uF (Ne.symm e2)];simp
structure L2 (G:Gm) (i:Nat) (s:List Int×List Int×List (List Int)×List Int):Prop where
 lr:s.1.length=G.n
 lo:s.2.1.length=G.n
 ea:L1 G i 0 s.2.2.1
 r:∀ j,j < i→at_ s.1 j=if G.lost j=true then 0 else -1
 o:∀ j,j < i→at_ s.2.1 j=((G.succ j).length:Int)
 k:s.2.2.2=cst ((uu i).filter G.lost)
theorem Q8 {b n:Nat} (h:n≤1500) (hb:b≤1000):eD b (n:Int)=some n:=by
 unfold eD
 have:n*b≤1500*1000:=Nat.mul_le_mul h hb
 rw [if_pos ⟨by omega,by omega,by push_cast;omega⟩,u9]
end
end
section
section
variable {c:ay} {zw:Int} {p:aK} {a:cx}
theorem Lz {x:Int} {l:List Int} (nx:Int) (h:l.length≤4000):ZK x l nx=some (l++[x]):=by
 unfold ZK
 rw [xt (by simp;omega)];rfl
theorem YF {x:Nat} {v:Int} {r l:List Int} {n:Nat} (nx:Int) (hx:x < n) (hr:r.length=n) (h:l.length≤4000):ZL (x:Int) v r n l nx=some (l++[(x:Int)],r.set x v):=by
 unfold ZL
 rw [zF hx]
 simp only [aX]
 rw [yf (by omega),Lz nx h];rfl
def s7 (G:Gm) (r:Nat→Int) (m:Nat):Prop:=∀ i,i < G.n→r i≤m
theorem zi8 (hc:c.Ok) (A:bQ c zw p a) {r o:List Int} {P Q:List Nat} {u x:Nat} {cn:Nat→Nat} (nx:Int) (hr:r.length=(gm c a).n) (ho:o.length=(gm c a).n)
  (h:fw (gm c a) (at_ r) (at_ o) P u Q cn) (hb:s7 (gm c a) (at_ r) (P++u::Q).length) (hx:x < (gm c a).n) (CJ:cn x < ((gm c a).succ x).count u) :
  aq (XB (x:Int) (u:Int) o (gm c a).n r (gm c a).n a (cst (P++u::Q)) nx) (fun z=>z.1.length=(gm c a).n∧z.2.1.length=(gm c a).n∧∃ Q',z.2.2=cst (P++u::Q')∧fw (gm c a) (at_ z.2.1) (at_ z.1) P u Q' (upd cn x (cn x+1))∧s7 (gm c a) (at_ z.2.1) (P++u::Q').length):=by
 have hn:(gm c a).n≤1500:=A.F.inv.len
 have hroom:=h.room hx CJ
 have hop:=h.core.op x hx
 have tL:=A.EP hc x hx
 have hcp:(((gm c a).succ x).countP (yy P))≤((gm c a).succ x).length:=List.countP_le_length
 have hKn:(P++u::Q).length≤(gm c a).n:=by
  have:=ZV (L2:=uu (gm c a).n) h.core.nd (fun y hy=>ul.2 (h.core.lt y hy))
  rwa [uG] at this
 obtain ⟨hu,hun,Cg,_,_⟩:=h.core.split
 have hgu:=h.core.ge u hun
 have CG:=h.core.ge x hx
 have hbu:=hb u hun
 have hw1:IntKind.i64.wrap (at_ o x - 1)=at_ o x - 1:=qz (by omega) (by omega)
 have oq:IntKind.i64.wrap (at_ r u+1)=at_ r u+1:=qz (by omega) (by omega)
 have EQ:at_ (o.set x (at_ o x - 1))=upd (at_ o) x (at_ o x - 1):=ZW (by omega) _
 have cS:(o.set x (at_ o x - 1))[x]?=some (at_ o x - 1):=uy (by omega)
 have hown:(gm c a).own x=(a.aW[x]'(hx)).own:=by
  show (match a.aW[x]? with | some q=>q.own | none=>false)=_
  rw [ua (show x < a.aW.length from hx)]
  rfl
 have hidx:zf a.aW (x:Int)=some (a.aW[x]'hx):=zq (ua (show x < a.aW.length from hx))
 unfold XB
 refine aq.az (zF hx) ?_
 refine aq.az (yf (by omega)) ?_
 rw [hw1]
 by_cases e1:at_ r x = -1
 ·have CK:(at_ r x == -1)=true:=by rw [e1];rfl
  by_cases e2:(gm c a).own x=false∨at_ o x - 1=0
  ·refine aq.az (v:=true) ?_ ?_
   ·rw [zF hx]
    simp only [aX]
    rw [yf (by omega:x < r.length)]
    simp only [aX,CK,cg,hidx]
    rw [←hown]
    rcases e2 with e2 | e2
    ·rw [e2];rfl
    ·rw [cS]
     simp only [aX,e2]
     cases (gm c a).own x<;>rfl
   ·refine aq.ite (fun _ => ?_) (fun h=>by cases h)
    refine aq.az (zF hun) ?_
    refine aq.az (yf (by omega)) ?_
    rw [oq]
    refine aq.az (YF nx hx hr (by rw [Zn];omega)) ?_
    refine aq.some ⟨by simp [ho],by simp [hr],Q++[x],?_,?_,?_⟩
    ·rw [show P++u::(Q++[x])=(P++u::Q)++[x] by simp];exact (Wm (P++u::Q) [x]).symm
    ·rw [EQ,ZW (by omega)]
     exact h.settle A.closed hx CJ e1 e2
    ·intro i hi
     simp only
     rw [ZW (by omega)]
     have:=hb i hi
     unfold upd
     simp only [ui,uq,uL] at this hbu ⊢
     split<;>omega
  ·refine aq.az (v:=false) ?_ ?_
   ·rw [zF hx]
    simp only [aX]
    rw [yf (by omega:x < r.length)]
    simp only [aX,CK,cg,hidx]
    rw [←hown]
    have e3:(gm c a).own x=true:=by
     cases hq:(gm c a).own x with
     | true=>rfl
     | false=>exact absurd (.inl hq) e2
    rw [e3,cS]
    simp only [aX,cg]
    rw [beq_eq_false_iff_ne.2 (fun h=>e2 (.inr h))]
   ·refine aq.ite (fun h=>by cases h) (fun _ => ?_)
    refine aq.some ⟨by simp [ho],hr,Q,rfl,?_,hb⟩
    rw [EQ]
    exact h.skip hx CJ (.inr ⟨by cases hq:(gm c a).own x with
     | true=>rfl
     | false=>exact absurd (.inl hq) e2,fun h=>e2 (.inr h)⟩)
 ·have CK:(at_ r x == -1)=false:=beq_eq_false_iff_ne.2 e1
  refine aq.az (v:=false) ?_ ?_
  ·rw [zF hx]
   simp only [aX]
   rw [yf (by omega:x < r.length)]
   simp only [aX,CK,ck]
  ·refine aq.ite (fun h=>by cases h) (fun _ => ?_)
   refine aq.some ⟨by simp [ho],hr,Q,rfl,?_,hb⟩
   rw [EQ]
   exact h.skip hx CJ (.inl e1)
theorem zkH {l:List Nat} {k:Nat} (hl:l.length≤4000) (hk:k≤l.length):kI (cst l) (k:Int)=some (match l[k]? with | some u=>((u:Int),true,(k:Int)+1) | none=>(0,false,(k:Int))):=by
 unfold kI
 rw [Zn]
 by_cases e:k=l.length
 ·rw [e,uA (uN _)];simp
 ·have h:k < l.length:=by omega
  have w1:IntKind.i64.wrap ((k:Int)+1)=(k:Int)+1:=qz (by omega) (by omega)
  have w2:IntKind.i64.wrap ((k:Int)+1 - 1)=(k:Int):=by rw [show (k:Int)+1 - 1=(k:Int) by omega];exact qz (by omega) (by omega)
  rw [beq_eq_false_iff_ne.2 (show (k:Int)≠(l.length:Int) by omega),w1,w2,ua h]
  simp only [ck]
  rw [zq (l:=cst l) (i:=k) (e:=(l[k]:Int)) (by unfold cst;rw [Ua,ua h];rfl)]
  rfl
end
end
section
section
variable {c:ay} {zw:Int} {p:aK} {a:cx}
def xZ (G:Gm) (i:Nat):Bool:=G.own i&&(!(G.lost i)&&(G.succ i).isEmpty)
def r2 (G:Gm) (i j:Nat):Int:=if G.lost j=true then 0 else if xZ G j=true∧j < i then 1 else -1
def K2 (G:Gm) (i:Nat):List Nat:=(uu G.n).filter G.lost++(uu i).filter (xZ G)
structure L3 (G:Gm) (i:Nat) (s:List Int×List Int):Prop where
 lr:s.1.length=G.n
 r:∀ j,j < G.n→at_ s.1 j=r2 G i j
 k:s.2=cst (K2 G i)
theorem zmO (G:Gm) (i:Nat):(K2 G i).length≤G.n+i:=by
 unfold K2
 rw [ui]
 have h1:=uE G.lost (uu G.n)
 have h2:=uE (xZ G) (uu i)
 rw [uG] at h1 h2
 omega
theorem zhr {G:Gm} {r o:Nat→Int} (hr:∀ j,j < G.n→r j=r2 G G.n j) (ho:∀ j,j < G.n→o j=((G.succ j).length:Int)):lY G r o [] (K2 G G.n)∧s7 G r (K2 G G.n).length:=by
 have tl:∀ j,xZ G j=true→G.own j=true∧G.lost j=false∧G.succ j=[]:=fun j h=>by
  simpa [xZ,ug,List.isEmpty_iff] using h
 have rl:∀ j,j < G.n→G.lost j=true→r j=0:=fun j hj h=>by rw [hr j hj];unfold r2;rw [if_pos h]
 have rt:∀ j,j < G.n→xZ G j=true→r j=1:=fun j hj h=>by
  rw [hr j hj];unfold r2;rw [if_neg (by rw [(tl j h).2.1];simp),if_pos ⟨h,hj⟩]
 have rn:∀ j,j < G.n→G.lost j=false→xZ G j=false→r j = -1:=fun j hj h h2=>by
  rw [hr j hj];unfold r2;rw [if_neg (by rw [h];simp),if_neg (by rw [h2];simp)]
 have three:∀ j,j < G.n→(G.lost j=true∧r j=0)∨(xZ G j=true∧G.lost j=false∧r j=1)∨(G.lost j=false∧xZ G j=false∧r j = -1):=fun j hj=>by
  cases h:G.lost j with
  | true=>exact .inl ⟨rfl,rl j hj h⟩
  | false=>cases h2:xZ G j with
   | true=>exact .inr (.inl ⟨rfl,rfl,rt j hj h2⟩)
   | false=>exact .inr (.inr ⟨rfl,rfl,rn j hj h h2⟩)
 have hm:∀ j,j∈K2 G G.n↔j < G.n∧(G.lost j=true∨xZ G j=true):=fun j=>by
  unfold K2
  rw [uj,un,un,ul]
  constructor
  ·rintro (⟨h1,h2⟩ | ⟨h1,h2⟩)
   ·exact ⟨h1,.inl h2⟩
   ·exact ⟨h1,.inr h2⟩
  ·rintro ⟨h1,h2 | h2⟩
   ·exact .inl ⟨h1,h2⟩
   ·exact .inr ⟨h1,h2⟩
 have hle:∀ x∈K2 G G.n,r x≤1∧0≤r x:=fun x hx=>by
  obtain ⟨h1,h2⟩:=(hm x).1 hx
  rcases three x h1 with ⟨_,h⟩ | ⟨_,_,h⟩ | ⟨h3,h4,h⟩
  ·omega
  ·omega
  ·rw [h3,h4] at h2;simp at h2
 refine ⟨⟨⟨?_,fun x hx=>((hm x).1 hx).1,fun i hi => ?_,fun i hi => ?_,?_,fun i hi => ?_,fun i hi => ?_,fun i hi h1 h2 h3 => ?_,fun i hi h1 h2 h3 => ?_,fun i hi h1 h2 h3 => ?_,fun i hi h1 h2 h3=>⟨fun t ht h=>(by cases h),rfl⟩⟩,fun q Q' hq x hx => ?_⟩,fun i hi => ?_⟩
 ·rw [ut]
  unfold K2
  refine uP.2 ⟨List.nodup_range.sublist Ui,List.nodup_range.sublist Ui,fun x hx y hy e => ?_⟩
  subst e
  have h1:=(un.1 hx).2
  have h2:=(tl x (un.1 hy).2).2.1
  rw [h1] at h2;cases h2
 ·rw [ut,hm i]
  rcases three i hi with ⟨h1,h⟩ | ⟨h1,_,h⟩ | ⟨h3,h4,h⟩
  ·rw [h];simp [hi,h1]
  ·rw [h];simp [hi,h1]
  ·rw [h];simp [h3,h4]
 ·rcases three i hi with ⟨_,h⟩ | ⟨_,_,h⟩ | ⟨_,_,h⟩<;>omega
 ·rw [ut]
  unfold K2
  refine uX.2 ⟨?_,?_,fun x hx y hy => ?_⟩
  ·refine uS fun x hx y hy => ?_
   have h1:=(un.1 hx);have h2:=(un.1 hy)
   rw [rl x (ul.1 h1.1) h1.2,rl y (ul.1 h2.1) h2.2];omega
  ·refine uS fun x hx y hy => ?_
   have h1:=(un.1 hx);have h2:=(un.1 hy)
   rw [rt x (ul.1 h1.1) h1.2,rt y (ul.1 h2.1) h2.2];omega
  ·have h1:=(un.1 hx);have h2:=(un.1 hy)
   rw [rl x (ul.1 h1.1) h1.2,rt y (ul.1 h2.1) h2.2];omega
 ·rw [ho i hi]
  have:(G.succ i).countP (yy [])=(G.succ i).length:=List.countP_eq_length.2 fun x _=>by simp [yy]
  rw [this];simp
 ·rcases three i hi with ⟨h1,h⟩ | ⟨_,h1,h⟩ | ⟨h1,_,h⟩<;>rw [h,h1]<;>simp
 ·rcases three i hi with ⟨h4,h⟩ | ⟨h4,_,h⟩ | ⟨_,_,h⟩
  ·rw [h2] at h4;cases h4
  ·have h5:=(tl i h4).2.2
   rw [ho i hi,h5,h]
   exact ⟨rfl,fun t ht=>(by cases ht),.inl ⟨rfl,rfl⟩⟩
  ·exact absurd h h3
 ·rw [ho i hi]
  intro h5
  have h6:G.succ i=[]:=uY (by omega)
  have h7:=rt i hi (by simp [xZ,h1,h2,h6])
  omega
 ·rcases three i hi with ⟨h4,h⟩ | ⟨h4,_,h⟩ | ⟨_,_,h⟩
  ·rw [h2] at h4;cases h4
  ·have h5:=(tl i h4).1;rw [h1] at h5;cases h5
  ·exact absurd h h3
 ·rw [ut] at hx
  have h1:=(hle x hx).1
  have h2:=(hle q (by rw [hq];simp)).2
  omega
 ·rcases three i hi with ⟨_,h⟩ | ⟨h1,_,h⟩ | ⟨_,_,h⟩
  ·omega
  ·have:0 < (K2 G G.n).length:=Ue ((hm i).2 ⟨hi,.inr h1⟩)
   omega
  ·omega
structure QI (G:Gm) (ea:List (List Int)) (s:Int×Bool×List Int×List Int×List Int×Int):Prop where
 lr:s.2.2.1.length=G.n
 lo:s.2.2.2.1.length=G.n
 inv:∃ P Q,lY G (at_ s.2.2.1) (at_ s.2.2.2.1) P Q∧s7 G (at_ s.2.2.1) (P++Q).length∧s.2.2.2.2.1=cst (P++Q)∧((s.2.1=false∧Q=[]∧s.2.2.2.2.2=(P.length:Int))∨(s.2.1=true∧∃ u Q',Q=u::Q'∧s.1=(u:Int)∧s.2.2.2.2.2=(P.length:Int)+1))
theorem YG {l:List Nat} {k:Nat} (hk:k < l.length) (x:Nat):(l.take (k+1)).count x=upd (fun y=>(l.take k).count y) l[k] ((l.take k).count l[k]+1) x:=by
 rw [uQ hk,uR]
 unfold upd
 by_cases e:x=l[k]
 ·rw [if_pos e,e];simp
 ·rw [if_neg e,uF (fun h=>e h.symm)];simp
theorem zhs {l:List Nat} {k:Nat} (hk:k < l.length):(fun y=>(l.take (k+1)).count y)=upd (fun y=>(l.take k).count y) l[k] ((l.take k).count l[k]+1):=funext fun x=>YG hk x
theorem LA {G:Gm} {ea:List (List Int)} {P Q:List Nat} {r o:List Int} (hn:G.n≤1500) (hr:r.length=G.n) (ho:o.length=G.n) (h:lY G (at_ r) (at_ o) P Q) (hb:s7 G (at_ r) (P++Q).length) :
  ∃ z:Int×Bool×Int,kI (cst (P++Q)) (P.length:Int)=some z∧QI G ea (z.1,z.2.1,r,o,cst (P++Q),z.2.2)∧((z.2.1=false∧z.2.2=(P.length:Int))∨(z.2.1=true∧z.2.2=(P.length:Int)+1))∧P.length≤G.n:=by
 have hK:(P++Q).length≤G.n:=by
  have:=ZV (L2:=uu G.n) h.core.nd (fun y hy=>ul.2 (h.core.lt y hy))
  rwa [uG] at this
 refine ⟨_,zkH (by omega) (by simp),?_⟩
 cases Q with
 | nil=>
  rw [ur,uA (uN _)]
  exact ⟨⟨hr,ho,P,[],h,hb,by rw [ur],.inl ⟨rfl,rfl,rfl⟩⟩,.inl ⟨rfl,rfl⟩,by simpa using hK⟩
 | cons u Q'=>
  rw [u5 (uN _),Nat.sub_self]
  exact ⟨⟨hr,ho,P,u::Q',h,hb,rfl,.inr ⟨rfl,u,Q',rfl,rfl,rfl⟩⟩,.inr ⟨rfl,rfl⟩,by rw [ui] at hK;omega⟩
theorem zhu (hc:c.Ok) (A:bQ c zw p a):aq (Wg c a) (fun r=>r.length=a.aW.length∧Xu (gm c a) (at_ r)∧∀ i,i < a.aW.length→at_ r i≤1500):=by
 have hn:a.aW.length≤1500:=A.F.inv.len
 have s8:(gm c a).n=a.aW.length:=rfl
 unfold Wg
 refine aq.az (zcR hc A) ?_
 refine aq.ite (fun _ => ?_) (fun h=>by cases h)
 refine aq.az (Q8 hn (by omega)) ?_
 refine aq.az (Q8 hn (by omega)) ?_
 refine aq.az (Q8 hn (by omega)) ?_
 refine aq.bind (P:=fun o:(List Int×List Int×List (List Int)×List Int) ⊕ Unit=>∃ s,o=.inl s∧L2 (gm c a) a.aW.length s) (aq.cP (L2 (gm c a)) (by omega) ?_ (fun i s hi hs => ?_) (fun s h=>⟨s,rfl,h⟩)) ?_
 ·refine ⟨by simp [s8],by simp [s8],⟨by simp [s8],fun t ht=>⟨[],?_,by simp,fun x => ?_⟩⟩,fun j hj=>by omega,fun j hj=>by omega,rfl⟩
  ·rw [Ud,if_pos (by rw [←s8];exact ht)];rfl
  ·simp
 ·obtain ⟨R,O,B,K⟩:=s
  obtain ⟨hlr,hlo,oP,hr,ho,hk⟩:=hs
  simp only at hlr hlo oP hr ho hk ⊢
  obtain ⟨T,hT,hM⟩:=A.mv hi
  have CH:=A.len hc hi hT
  have dl:=A.succ hi hT
  have oQ:(gm c a).lost i=qa c a.aW[i].state a.zw:=by
   show (match a.aW[i]? with | some q=>qa c q.state a.zw | none=>false)=_
   rw [ua hi]
  refine aq.bind (P:=fun v=>L2 (gm c a) (i+1) v) ?_ (fun v hv=>aq.some hv)
  refine aq.az (zq (ua hi)) ?_
  refine aq.az (zq hT) ?_
  refine aq.az (zF hi) ?_
  refine aq.az (yf (by omega)) ?_
  refine aq.az (zF hi) ?_
  refine aq.az (yf (by omega)) ?_
  refine aq.az (zq hT) ?_
  refine aq.bind (P:=fun o:List (List Int) ⊕ Unit=>∃ b,o=.inl b∧L1 (gm c a) i T.length b) (aq.cP (fun k b=>L1 (gm c a) i k b) (by omega) oP (fun k b hk2 hb => ?_) (fun b h=>⟨b,rfl,h⟩)) ?_
  ·have hto:=A.to hi hT (um hk2)
   refine aq.az (zq (ua hk2)) ?_
   have h1:(gm c a).succ i=T.map fun m=>m.to.toNat:=dl
   have h2:=hb.step (G:=gm c a) hn hi (by omega) (to:=T[k].to.toNat) (by rw [h1,Ua,ua hk2];rfl) (by rw [s8];omega)
   rw [Int.toNat_of_nonneg hto.1] at h2
   exact aq.bind h2 (fun v hv=>aq.some hv)
  ·rintro _ ⟨b,rfl,hb⟩
   simp only [uD]
   have hb':=hb.next (by rw [dl,ux]) CH
   have hR1:at_ (R.set i (-1))=upd (at_ R) i (-1):=ZW (by omega) _
   have LB:at_ (O.set i (T.length:Int))=upd (at_ O) i (T.length:Int):=ZW (by omega) _
   have LC:∀ j,j < i+1→upd (at_ O) i (T.length:Int) j=(((gm c a).succ j).length:Int):=fun j hj=>by
    unfold upd
    by_cases e:j=i
    ·rw [if_pos e,e,dl,ux]
    ·rw [if_neg e];exact ho j (by omega)
   have oR:(uu (i+1)).filter (gm c a).lost=(uu i).filter (gm c a).lost++(bif (gm c a).lost i then [i] else []):=by
    rw [uZ,uM]
    cases h:(gm c a).lost i<;>simp [h]
   refine aq.az (zmN hc (A.F.inv.vs _ (um hi)) a.zw) ?_
   refine aq.ite (fun hl => ?_) (fun hl => ?_)
   ·rw [←oQ] at hl
    refine aq.az (zF hi) ?_
    refine aq.az (uy (by omega)) ?_
    have hK:K.length≤1500:=by
     rw [hk,Zn]
     have:=uE (gm c a).lost (uu i)
     rw [uG] at this;omega
    refine aq.az (Lz 0 (by omega)) ?_
    refine aq.some ⟨by simp [hlr],by simp [hlo],hb',fun j hj => ?_,fun j hj => ?_,?_⟩
    ·simp only
     rw [Us,ZW (by omega)]
     unfold upd
     by_cases e:j=i
     ·rw [if_pos e,e,if_pos hl]
     ·rw [if_neg e];exact hr j (by omega)
    ·simp only;rw [LB];exact LC j hj
    ·simp only;rw [hk,oR,hl,cg,Wm];rfl
   ·rw [←oQ] at hl
    refine aq.some ⟨by simp [hlr],by simp [hlo],hb',fun j hj => ?_,fun j hj => ?_,?_⟩
    ·simp only
     rw [hR1]
     unfold upd
     by_cases e:j=i
     ·rw [if_pos e,e,if_neg (by rw [hl];simp)]
     ·rw [if_neg e];exact hr j (by omega)
    ·simp only;rw [LB];exact LC j hj
    ·simp only;rw [hk,oR,hl,ck,ur]
 ·rintro _ ⟨⟨R,O,B,K⟩,rfl,hlr,hlo,oP,hr,ho,hk⟩
  simp only [uD] at hlr hlo oP hr ho hk ⊢
  refine aq.bind (P:=fun o:(List Int×List Int) ⊕ Unit=>∃ s,o=.inl s∧L3 (gm c a) a.aW.length s) (aq.cP (L3 (gm c a)) (by omega) ?_ (fun i s hi hs => ?_) (fun s h=>⟨s,rfl,h⟩)) ?_
  ·refine ⟨hlr,fun j hj => ?_,?_⟩
   ·rw [hr j hj];unfold r2
    split
    ·rfl
    ·rw [if_neg (by omega)]
   ·simp only;rw [hk];unfold K2;rw [List.range_zero,List.filter_nil,ur];rfl
  ·obtain ⟨R1,K1⟩:=s
   obtain ⟨h1,h2,h3⟩:=hs
   simp only at h1 h2 h3 ⊢
   have hown:(gm c a).own i=a.aW[i].own:=by
    show (match a.aW[i]? with | some q=>q.own | none=>false)=_
    rw [ua hi]
   have hsame:xZ (gm c a) i=false→L3 (gm c a) (i+1) (R1,K1):=fun ht=>by
    refine ⟨h1,fun j hj => ?_,?_⟩
    ·simp only;rw [h2 j hj];unfold r2
     split
     ·rfl
     ·by_cases e:j=i
      ·subst e;rw [if_neg (by rw [ht];simp),if_neg (by rw [ht];simp)]
      ·by_cases e2:xZ (gm c a) j=true∧j < i
       ·rw [if_pos e2,if_pos ⟨e2.1,by omega⟩]
       ·rw [if_neg e2,if_neg (fun h=>e2 ⟨h.1,by have:=h.2;omega⟩)]
    ·simp only;rw [h3];unfold K2;rw [uZ,uM];simp [ht]
   refine aq.bind (P:=fun v=>L3 (gm c a) (i+1) v) ?_ (fun v hv=>aq.some hv)
   refine aq.az (zq (ua hi)) ?_
   have ER:(bif a.aW[i].own then (uk (zl a.aW.length (i:Int)) fun k7=>(uk (O[k7]?) fun e9=>(bif (e9 == 0) then (uk (zl a.aW.length (i:Int)) fun k8=>(uk (R1[k8]?) fun ew=>some (ew == (-1)))) else some false))) else some false)=some (xZ (gm c a) i):=by
    rw [zF hi]
    simp only [aX]
    rw [yf (by omega:i < O.length),yf (by omega:i < R1.length)]
    simp only [aX]
    rw [ho i hi,h2 i hi,←hown]
    unfold xZ r2
    cases e1:(gm c a).own i with
    | false=>rfl
    | true=>
     cases e2:(gm c a).succ i with
     | cons x l=>
      rw [beq_eq_false_iff_ne.2 (by simp;omega)];simp
     | nil=>
      cases e3:(gm c a).lost i with
      | true=>rfl
      | false=>simp
   refine aq.az ER ?_
   refine aq.ite (fun ht => ?_) (fun ht=>aq.some (hsame ht))
   have ES:K1.length≤4000:=by
    rw [h3,Zn]
    have:=zmO (gm c a) i
    omega
   refine aq.az (YF 0 hi h1 ES) ?_
   refine aq.some ⟨by simp [h1],fun j hj => ?_,?_⟩
   ·simp only
    rw [ZW (by omega)]
    unfold upd
    by_cases e:j=i
    ·subst e
     have h4:(gm c a).lost j=false:=by
      simp only [xZ,ug,uO] at ht;exact ht.2.1
     rw [if_pos rfl];unfold r2;rw [if_neg (by rw [h4];simp),if_pos ⟨ht,by omega⟩]
    ·rw [if_neg e,h2 j hj];unfold r2
     split
     ·rfl
     ·by_cases e2:xZ (gm c a) j=true∧j < i
      ·rw [if_pos e2,if_pos ⟨e2.1,by omega⟩]
      ·rw [if_neg e2,if_neg (fun h=>e2 ⟨h.1,by have:=h.2;omega⟩)]
   ·simp only;rw [h3];unfold K2;rw [uZ,uM,←ud,Wm];simp [ht,cst]
  ·rintro _ ⟨⟨R1,K1⟩,rfl,h1,h2,h3⟩
   simp only [uD] at h1 h2 h3 ⊢
   obtain ⟨hB,hbd⟩:=zhr (G:=gm c a) (r:=at_ R1) (o:=at_ O) h2 ho
   have hQ0:=LA (ea:=B) (P:=[]) hn h1 hlo hB (by rw [ut];exact hbd)
   refine aq.bind (P:=fun v:List Int=>v.length=(gm c a).n∧Xu (gm c a) (at_ v)∧∀ i,i < (gm c a).n→at_ v i≤1500) ?_ ?_
   ·obtain ⟨z,hz,hq,_⟩:=hQ0
    have ES:K1=cst ([]++K2 (gm c a) (gm c a).n):=by rw [h3,ut];rfl
    rw [ES]
    refine aq.az hz ?_
    refine aq.bind (P:=fun y:List Int=>y.length=(gm c a).n∧Xu (gm c a) (at_ y)∧∀ i,i < (gm c a).n→at_ y i≤1500) (aq.iter (QI (gm c a) B) (fun s=>2*((gm c a).n+2 - s.2.2.2.2.2.toNat)+(bif s.2.1 then 1 else 0)) hq (fun s hs => ?_)) (fun y hy=>aq.some hy)
    obtain ⟨to,ok,R2,O2,K3,nx⟩:=s
    obtain ⟨g1,g2,P,Q,g3,g4,g5,g6⟩:=hs
    simp only at g1 g2 g3 g4 g5 g6 ⊢
    have hKn:(P++Q).length≤(gm c a).n:=by
     have:=ZV (L2:=uu (gm c a).n) g3.core.nd (fun y hy=>ul.2 (g3.core.lt y hy))
     rwa [uG] at this
    rcases g6 with ⟨rfl,rfl,g7⟩ | ⟨rfl,u,Q',rfl,rfl,rfl⟩
    ·refine aq.ite (fun h=>by cases h) (fun _ => ?_)
     exact aq.some ⟨g1,(g3.done A.closed).ok A.closed,fun i hi=>by have:=g4 i hi;omega⟩
    ·refine aq.ite (fun _ => ?_) (fun h=>by cases h)
     have E:=g3.enter
     obtain ⟨_,hun,_⟩:=E.core.split
     obtain ⟨l,l1,l2,l3⟩:=oP.row u hun
     have iU:∀ x,x < (gm c a).n→l.count x=((gm c a).succ x).count u:=fun x hx=>by rw [l3 x,if_pos (by rw [←s8];exact hx)]
     have Bq:∀ x∈l,x < (gm c a).n:=fun x hx=>by
      have h5:0 < l.count x:=List.count_pos_iff.2 hx
      rw [l3 x] at h5
      split at h5
      ·rename_i h6;exact h6
      ·split at h5
       ·simp at h5
       ·omega
     refine aq.az (zF hun) ?_
     refine aq.az l1 ?_
     refine aq.bind (P:=fun o:(List Int×List Int×List Int) ⊕ Unit=>∃ s5,o=.inl s5∧s5.1.length=(gm c a).n∧s5.2.1.length=(gm c a).n∧∃ Q2,s5.2.2=cst (P++u::Q2)∧fw (gm c a) (at_ s5.1) (at_ s5.2.1) P u Q2 (fun y=>l.count y)∧s7 (gm c a) (at_ s5.1) (P++u::Q2).length) ?_ ?_
     ·rw [Zn]
      refine aq.cP (fun k s5=>s5.1.length=(gm c a).n∧s5.2.1.length=(gm c a).n∧∃ Q2,s5.2.2=cst (P++u::Q2)∧fw (gm c a) (at_ s5.1) (at_ s5.2.1) P u Q2 (fun y=>(l.take k).count y)∧s7 (gm c a) (at_ s5.1) (P++u::Q2).length) (by omega) ⟨g1,g2,Q',g5,by simpa using E,g4⟩ (fun k s5 hk hs5 => ?_) (fun s5 h=>⟨s5,rfl,by rw [Ul] at h;exact h⟩)
      obtain ⟨R4,O4,K4⟩:=s5
      obtain ⟨i1,i2,Q2,i3,i4,i5⟩:=hs5
      simp only at i1 i2 i3 i4 i5 ⊢
      have hx:=Bq _ (um hk)
      refine aq.az (zq (e:=(l[k]:Int)) (by unfold cst;rw [Ua,ua hk];rfl)) ?_
      rw [i3]
      refine aq.bind (zi8 hc A _ i1 i2 i4 i5 hx ?_) (fun z hz => ?_)
      ·have h6:=YG hk l[k]
       unfold upd at h6
       rw [if_pos rfl] at h6
       have h7:(l.take (k+1)).count l[k]≤l.count l[k]:=(List.take_sublist _ _).count_le _
       rw [iU _ hx] at h7
       show (l.take k).count l[k] < _
       omega
      ·obtain ⟨j1,j2,Q3,j3,j4,j5⟩:=hz
       refine aq.some ⟨j2,j1,Q3,j3,?_,j5⟩
       simp only
       rw [zhs hk];exact j4
     ·rintro _ ⟨⟨R4,O4,K4⟩,rfl,i1,i2,Q2,i3,i4,i5⟩
      simp only [uD] at i1 i2 i3 i4 i5 ⊢
      have hB2:=i4.leave iU
      have hPQ:P++[u]++Q2=P++u::Q2:=by simp
      obtain ⟨z2,lz,Ak,ET,LD⟩:=LA (ea:=B) (P:=P++[u]) (Q:=Q2) hn i1 i2 hB2 (by rw [hPQ];exact i5)
      rw [hPQ] at lz Ak
      rw [i3]
      have nW:((P++[u]).length:Int)=(P.length:Int)+1:=by simp
      rw [nW] at lz
      refine aq.az lz ?_
      refine aq.some ⟨Ak,?_⟩
      simp only [cg]
      rw [ui] at ET LD
      simp only [uq,uL] at ET LD
      rcases ET with ⟨e1,e2⟩ | ⟨e1,e2⟩
      ·rw [e1,e2,ck];omega
      ·rw [e1,e2,cg];omega
   ·intro v hv
    refine aq.az (wn (s8.symm.trans hv.1.symm)) ?_
    exact aq.some hv
end
end
theorem dH.get {c:ay} {hs:List Int} {ms r:List aj} (h:dH c hs ms r) {i:Nat} {m:aj} (hi:i < c.aA.length) (hm:ms[i]?=some m) (h0:m.aN≠0):r[i]?=some m:=by
 have hl:i < r.length:=by rw [h.ok.1];exact hi
 rw [ua hl]
 rcases h.rel i m r[i] hm (ua hl) with e | ⟨e,_⟩
 ·rw [e]
 ·exact absurd e h0
theorem Qp {c:ay} {s:ak} {zw:Int}:qa c s zw=true↔∃ (i:Nat) (k:aS) (m:aj),c.aA[i]?=some k∧s.aI[i]?=some m∧k.final=true∧m.aN=4∧m.bw=zw:=by
 unfold qa
 rw [uO,List.all_eq_false]
 constructor
 ·rintro ⟨i,hi,h⟩
  simp only [uO,Bool.not_eq_false,Kn] at h
  split at h
  ·rename_i k m hk hm
   simp only [ug,beq_iff_eq] at h
   exact ⟨i,k,m,hk,hm,h.1,h.2.1,h.2.2⟩
  ·cases h
 ·rintro ⟨i,k,m,hk,hm,h1,h2,h3⟩
  refine ⟨i,ul.2 (ub.1 hm).1,?_⟩
  simp [Kn,hk,hm,h1,h2,h3]
theorem zfv {c:ay} {zw:Int} {q:aK} {m:Int} (hm:m∈zr c zw q):(m = -2∧q.own=true)∨(-1≤m∧m < c.aJ.length∧q.state.day < c.bl):=by
 rcases zZ.1 hm with ⟨h1,h2⟩ | ⟨h1,_,h2⟩ | ⟨h1,i,h2,_,h3⟩
 ·exact .inl ⟨h2,h1⟩
 ·exact .inr ⟨by omega,by omega,h1⟩
 ·exact .inr ⟨by omega,by omega,h1⟩
theorem kl (c:ay) (q:aK):target c q (-2)={state:=q.state,own:=false}:=if_pos rfl
theorem xV (c:ay) (q:aK) {m:Int} (h : -1≤m):target c q m={state:=zO c q.state m,own:=true}:=if_neg (by omega)
theorem zi9 {c:ay} {zw:Int} {p:aK} {r:cx×Int} (h:jt c zw p=some r) (hr:r.2≠0):r.1=YE:=by
 unfold jt at h
 obtain ⟨b,_,h⟩:=xh h
 cases b with
 | false=>cases h;rfl
 | true=>
  rw [cg] at h
  obtain ⟨_,_,h⟩:=xh h
  obtain ⟨_,_,h⟩:=xh h
  obtain ⟨o,_,h⟩:=xh h
  cases o with
  | inl s=>cases h;exact absurd rfl hr
  | inr u=>cases h;rfl
theorem zhv {c:ay} {zw:Int} {r:cx×Int} (h:vG c zw=some r) (hr:r.2≠0):r.1=YE:=by
 unfold vG at h
 obtain ⟨s,_,h⟩:=xh h
 cases hs:(s.2 == 0) with
 | true=>
  rw [hs,cg] at h
  obtain ⟨f,hf,h⟩:=xh h
  cases h
  exact zi9 hf hr
 | false=>rw [hs] at h;cases h;rfl
def zmP (c:ay) (zw:Int) (r:cx×Int):Prop:=(r.2≠0∧r.1=YE)∨(r.2=0∧∃ s0,qy c=some (s0,0)∧VS c s0∧bQ c zw {state:=s0,own:=true} r.1)
theorem zkI {c:ay} (hc:c.Ok) (zw:Int):aq (vG c zw) (zmP c zw):=by
 obtain ⟨r,hr,h⟩:=zhq hc zw
 refine ⟨r,hr,?_⟩
 rcases h with h | ⟨h,s0,h1,h2,h3,h4,h5,h6⟩
 ·exact .inl ⟨h,zhv hr h⟩
 ·exact .inr ⟨h,s0,h1,h2,h3,h4,h5,h6⟩
section
section
variable {c:ay} {zw:Int} {p:aK} {a:cx}
theorem bQ.lost (A:bQ c zw p a) {i:Nat} (hi:i < a.aW.length):(gm c a).lost i=qa c a.aW[i].state zw:=by
 show (match a.aW[i]? with | some q=>qa c q.state a.zw | none=>false)=_
 rw [ua hi,A.pa]
theorem bQ.own (A:bQ c zw p a) {i:Nat} (hi:i < a.aW.length):(gm c a).own i=a.aW[i].own:=by
 show (match a.aW[i]? with | some q=>q.own | none=>false)=_
 rw [ua hi]
theorem bQ.pos (A:bQ c zw p a):0 < a.aW.length:=(ub.1 A.F.first).1
theorem bQ.tgt (A:bQ c zw p a) {i:Nat} (hi:i < a.aW.length) {T:List bC} (hT:a.bK[i]?=some T) {m:bC} (hm:m∈T) :
  m.step∈zr c zw a.aW[i]∧0≤m.to∧∃ h:m.to.toNat < a.aW.length,a.aW[m.to.toNat]=target c a.aW[i] m.step:=by
 obtain ⟨T',h1,h2,h3⟩:=A.mv hi
 rw [hT] at h1;cases h1
 obtain ⟨h4,h5⟩:=h3 m hm
 obtain ⟨h6,h7⟩:=ub.1 h5
 exact ⟨by rw [←h2];exact uo.2 ⟨m,hm,rfl⟩,h4,h6,h7⟩
theorem bQ.ne (A:bQ c zw p a) {i:Nat} (hi:i < a.aW.length) {T:List bC} (hT:a.bK[i]?=some T) (ho:a.aW[i].own=true):T≠[]:=by
 obtain ⟨T',h1,h2,_⟩:=A.mv hi
 rw [hT] at h1;cases h1
 intro e
 subst e
 have:(-2:Int)∈zr c zw a.aW[i]:=zZ.2 (.inl ⟨ho,rfl⟩)
 rw [←h2] at this;cases this
end
end
section
def dw (c:ay) (zw:Int):Nat→aK→Prop
 | 0,q=>qa c q.state zw=true
 | k+1,q=>qa c q.state zw=true∨(q.own=true∧∀ m∈zr c zw q,dw c zw k (target c q m))∨(q.own=false∧∃ m∈zr c zw q,dw c zw k (target c q m))
def jG (c:ay) (zw:Int) (q:aK):Prop:=∀ k,¬ dw c zw k q
theorem dw.zero {c:ay} {zw:Int} {q:aK} (h:qa c q.state zw=true):∀ k,dw c zw k q
 | 0=>h
 | k+1=>.inl h
theorem dw.gS {c:ay} {zw:Int}:∀ {k:Nat} {q:aK},dw c zw k q→dw c zw (k+1) q
 | 0,q,h=>.inl h
 | k+1,q,h=>by
  rcases h with h | ⟨h1,h2⟩ | ⟨h1,t,h2,h3⟩
  ·exact .inl h
  ·exact .inr (.inl ⟨h1,fun t ht=>(h2 t ht).gS⟩)
  ·exact .inr (.inr ⟨h1,t,h2,h3.gS⟩)
theorem dw.mono {c:ay} {zw:Int} {k k':Nat} {q:aK} (hk:k≤k') (h:dw c zw k q):dw c zw k' q:=by
 induction hk with
 | refl=>exact h
 | step _ ih=>exact ih.gS
section
variable {c:ay} {zw:Int} {p:aK} {a:cx}
theorem LF (A:bQ c zw p a):∀ (k i:Nat) (hi:i < a.aW.length),Attr (gm c a) k i↔dw c zw k a.aW[i]
 | 0,i,hi=>by show (gm c a).lost i=true↔_;rw [A.lost hi];rfl
 | k+1,i,hi=>by
  obtain ⟨T,hT,hst,_⟩:=A.mv hi
  have hs:=A.succ hi hT
  have go:∀ m∈T,(Attr (gm c a) k m.to.toNat↔dw c zw k (target c a.aW[i] m.step)):=fun m hm=>by
   obtain ⟨_,_,t3,t4⟩:=A.tgt hi hT hm
   rw [LF A k _ t3,t4]
  have hall:(∀ t∈(gm c a).succ i,Attr (gm c a) k t)↔∀ m∈zr c zw a.aW[i],dw c zw k (target c a.aW[i] m):=by
   rw [hs,←hst]
   constructor
   ·intro h x hx
    obtain ⟨m,hm,rfl⟩:=uo.1 hx
    exact (go m hm).1 (h _ (uo.2 ⟨m,hm,rfl⟩))
   ·intro h x hx
    obtain ⟨m,hm,rfl⟩:=uo.1 hx
    exact (go m hm).2 (h _ (uo.2 ⟨m,hm,rfl⟩))
  have hex:(∃ t∈(gm c a).succ i,Attr (gm c a) k t)↔∃ m∈zr c zw a.aW[i],dw c zw k (target c a.aW[i] m):=by
   rw [hs,←hst]
   constructor
   ·rintro ⟨x,hx,h⟩
    obtain ⟨m,hm,rfl⟩:=uo.1 hx
    exact ⟨_,uo.2 ⟨m,hm,rfl⟩,(go m hm).1 h⟩
   ·rintro ⟨x,hx,h⟩
    obtain ⟨m,hm,rfl⟩:=uo.1 hx
    exact ⟨_,uo.2 ⟨m,hm,rfl⟩,(go m hm).2 h⟩
  show ((gm c a).lost i=true∨((gm c a).own i=true∧∀ t∈(gm c a).succ i,Attr (gm c a) k t)∨((gm c a).own i=false∧∃ t∈(gm c a).succ i,Attr (gm c a) k t))↔_
  rw [A.lost hi,A.own hi,hall,hex]
  rfl
def oS (c:ay) (zw:Int) (q:aK) (x:Int):Prop := -1≤x∧∀ k:Nat,(x ≠ -1∧x≤k)↔dw c zw k q
theorem zmQ (A:bQ c zw p a) {r:Nat→Int} (hr:Xu (gm c a) r) {i:Nat} (hi:i < a.aW.length):oS c zw a.aW[i] (r i):=
 ⟨(hr i hi).1,fun k=>((hr i hi).2 k).trans (LF A k i hi)⟩
theorem oS.safe {q:aK} {x:Int} (h:oS c zw q x):x = -1↔jG c zw q:=by
 constructor
 ·intro e k hk
  exact ((h.2 k).2 hk).1 e
 ·intro hs
  have:=h.1
  by_cases e:x = -1
  ·exact e
  ·exact absurd ((h.2 x.toNat).1 ⟨e,by omega⟩) (hs _)
end
theorem zja {c:ay} {zw:Int} {p:aK} {L:List aK} (hl:L.length≤1500) (h:∀ x,mV c zw p x→x∈L):¬ Bp c zw p:=by
 rintro ⟨L1,h1,h2,q,h3,h4⟩
 have h5:(q::L1).Nodup:=u0.2 ⟨h4,h1.nd⟩
 have:=ZV (L2:=L) h5 (fun x hx=>by
  rcases uz.1 hx with e | hx
  ·rw [e];exact h q h3
  ·exact h x (h1.Bn x hx))
 rw [uq] at this
 omega
end
end Go.Proofs.YtgpojcfkanjabaaGreatDoor
