/-
  What is known of a valid contract; what 'start' does.
  What 'system.Step' does.
  What an act does.
  'system.Step': what it returns.
  'arena.Moves' and 'arena.After': what they return.
  'arena.After'; 'Few', 'Tame', 'Doer'.
  The text of a position tells it from every other position of the same contract.
  A search through positions, breadth first: what is known of it.
  'arena.From': what it returns.
  'system.Start', 'arena.Build', 'Index'.
  The reading of a trace, and the state of the system: how they stand to one another.
  The work list of the reading starts what starts.
-/
import Derived.Test.YtcmmhbmgpflmeaaGreatDoorTD12
open List renaming getElem?_eq_getElem → ua, getElem?_eq_some_iff → ub, mem_append → ud, mem_singleton → ue, append_assoc → ug, getElem?_set_self → uh, getElem?_append_left → uj, getElem?_eq_none → uk, all_eq_true → ul, mem_cons_self → um, length_append → un, length_cons → uo, mem_cons_of_mem → ur, replicate → ut, getElem?_set → uu, length_nil → uv, getElem?_set_ne → uw, getElem_mem → ux, set_set → uy, mem_cons → uz, length_set → uD, append_nil → uF, nil_append → uG, getElem?_append_right → uI, ext_getElem? → uJ, flatMap_cons → uK, mem_of_getElem? → uN, getElem?_mapIdx → uP, pairwise_append → uQ, Pairwise → uT, idxOf_append → uU, getElem?_map → uW, cons_append → uX, length_map → uZ, foldl_cons → u4, countP_map → u5, mem_range → u6, foldl_nil → u7, mem_map → u9, range → Ub
open Option renaming bind → ui, getD_some → uC, map_eq_some_iff → uM
open Bool renaming and_eq_true → uc, not_eq_true' → uf, not_true → uq, cond_false_right → uA, or_eq_true → uE, false_and → uH, not_false → uO, and_false → uR, true_and → uS, eq_iff_iff → uY
open Nat renaming le_refl → uL, strongRecOn → u0
open Int renaming toNat_natCast → uV, le_refl → Ua
open Sum renaming elim_inl → uB
namespace Go.Proofs.YtcmmhbmgpflmeaaGreatDoor
open Go.RowKit
set_option linter.unusedSimpArgs false
set_option linter.unusedVariables false
set_option maxRecDepth 100000
structure KV (c:ax) (i:Nat) (k:aL):Prop where
 act:0≤k.act∧k.act < c.aK.length
 after:1≤k.after∧k.after≤400
 kind:k.kind=1∨k.kind=2∨k.kind=3∨k.kind=4
 bW:k.kind=4∨(0≤k.bW∧k.bW < c.aC.length)
 need:1≤k.need∧k.need≤9
 cX:0≤k.cX∧k.cX≤400
 start:k.start.length≤8
 cond:∀ s∈k.start,0≤s.clause∧s.clause < c.aB.length
 bH:(k.bH = -1∧k.resume = -1)∨(vS c.aK k.bH=true∧vS c.aK k.resume=true)
theorem jd {c:ax} (ho:c.off.length < 4611686018427387904) (h:(z8 c).1=0) {i:Nat} {k:aL} (hk:c.aB[i]?=some k):KV c i k:=by
 have sm:=qn ho h
 obtain ⟨_,_,h3,_⟩:=vz h
 have:=h3 i (ub.1 hk).1
 simp only [n4,hk,vw,uc,uf,decide_eq_false_iff_not] at this
 obtain ⟨⟨a1,a2,a3,a4⟩,⟨a5,a6⟩,a7,a8,_⟩:=this
 have Al:(k.kind=1∨k.kind=2∨k.kind=3∨k.kind=4)∧(k.kind=4∨(0≤k.bW∧k.bW < c.aC.length))∧(1≤k.need∧k.need≤9)∧(0≤k.cX∧k.cX≤400):=by
  unfold Q1 at a5
  cases h4:(k.kind == 4) with
  | true=>
   rw [h4] at a5
   simp only [bL,uc,beq_iff_eq] at a5
   have:=beq_iff_eq.1 h4
   omega
  | false=>
   rw [h4] at a5
   simp only [bM,uc,wD,decide_eq_true_eq] at a5
   obtain ⟨⟨b1,_⟩,b2⟩:=a5
   cases h1:(k.kind == 1) with
   | true=>
    rw [h1] at b2
    simp only [bL,uc,decide_eq_true_eq] at b2
    have:=beq_iff_eq.1 h1
    omega
   | false=>
    rw [h1] at b2
    cases h2:(k.kind == 2) with
    | true=>
     rw [h2] at b2
     simp only [bL,bM,uc,beq_iff_eq] at b2
     have:=beq_iff_eq.1 h2
     omega
    | false=>
     rw [h2] at b2
     simp only [bM,uc,beq_iff_eq] at b2
     omega
 refine ⟨⟨by omega,by omega⟩,⟨by omega,by omega⟩,Al.1,Al.2.1,Al.2.2.1,Al.2.2.2,by omega,fun s hs => ?_,?_⟩
 ·have:=sm.cond i k hk s hs;omega
 ·simp only [Qk,uE,uc,beq_iff_eq,uf] at a8
  rcases a8 with h | h
  ·exact .inl h
  ·exact .inr h.2
structure EA (c:ax) (a:aV):Prop where
 bW:(a.bW = -1∧a.kind=1)∨(0≤a.bW∧a.bW < c.aC.length)
 kind:a.kind=1∨((a.kind=2∨a.kind=3)∧(0≤a.cM∧a.cM < c.aC.length)∧(0≤a.to∧a.to < c.aN))
theorem Q4 {c:ax} (h:(z8 c).1=0) {i:Nat} {a:aV} (ha:c.aK[i]?=some a):EA c a:=by
 obtain ⟨_,h2,_,_⟩:=vz h
 simp only [jS,uc,uf,decide_eq_false_iff_not] at h2
 obtain ⟨_,_,_,_,_,b6,_⟩:=h2
 have:=ul.1 b6 a (uN ha)
 unfold Yx at this
 cases hr:wD c.aC.length a.bW with
 | true=>
  rw [hr] at this
  simp only [wD,uc,decide_eq_true_eq] at hr
  cases h1:(a.kind == 1) with
  | true=>exact ⟨.inr hr,.inl (beq_iff_eq.1 h1)⟩
  | false=>
   rw [h1] at this
   simp only [bL,bM,uc,uE,beq_iff_eq,wD,decide_eq_true_eq] at this
   exact ⟨.inr hr,.inr ⟨this.1,this.2.1,by omega⟩⟩
 | false=>
  rw [hr] at this
  simp only [bM,uc,beq_iff_eq] at this
  exact ⟨.inl ⟨this.2.1,this.1⟩,.inl this.1⟩
theorem Yz {c:ax} (h:(z8 c).1=0):∀ x∈c.aC,0≤x∧x < c.aN:=by
 obtain ⟨_,h2,_,_⟩:=vz h
 simp only [jS,uc] at h2
 have:=h2.2.2.2.1
 simp only [yL,ul,uc,decide_eq_true_eq] at this
 exact this
theorem Iz {c:ax} (ho:c.off.length < 4611686018427387904) (h:(z8 c).1=0):c.off.Pairwise (· < ·):=by
 obtain ⟨_,h2,_,_⟩:=vz h
 simp only [jS,uc] at h2
 have b7:=h2.2.2.2.2.2.2
 have e:Xd c.aJ c.off=Zc c.aJ (-1) c.off:=by
  unfold Xd
  rw [HT c.aJ c.off ho (-1)]
  cases Zc c.aJ (-1) c.off<;>rfl
 rw [e] at b7
 exact (Kv b7).2
def fC (c:ax) (ms:List aq):Prop:=ms.length=c.aB.length∧∀ (i:Nat) (k:aL) (m:aq),c.aB[i]?=some k→ms[i]?=some m→qP c.aN k m=true
def NR (c:ax) (ms:List aq):Prop:=∀ i,i < c.aB.length→qv c.aB ms i=false
def qI (k:aL) (b:Int):aq:={aH:=1,left:=k.after,got:=0,bg:=b,aT:=false}
def tH (c:ax) (ms ms':List aq):Prop:=∀ (i:Nat) (m m':aq),ms[i]?=some m→ms'[i]?=some m'→m'=m∨(m.aH=0∧∃ k b,c.aB[i]?=some k∧m'=qI k b)
def qT (ms:List aq):Nat:=ms.countP (fun m=>m.aH == 0)
def qU (hs:List Int) (k:aL):Int:=bif k.kind == 4 then -1 else hs[k.bW.toNat]?.getD 0
def Xf (ks:List aL) (ms:List aq):Nat→Nat→Prop
 | 0,_=>False
 | n+1,i=>∃ k m,ks[i]?=some k∧ms[i]?=some m∧m.aH=0∧k.bq=false∧∀ x∈k.start,qH ms x=true∨(x.is=1∧Xf ks ms n x.clause.toNat)
def rS (ks:List aL) (ms:List aq) (i:Nat):Prop:=∃ n,Xf ks ms n i
def Xg (c:ax) (hs:List Int) (ms r:List aq):Prop:=∀ (i:Nat) (k:aL) (m:aq),c.aB[i]?=some k→ms[i]?=some m→r[i]?=some m∨(rS c.aB ms i∧r[i]?=some (qI k (qU hs k)))
def IA (c:ax) (hs:List Int) (ms r:List aq):Prop:=∀ (i:Nat) (k:aL) (m:aq),c.aB[i]?=some k→ms[i]?=some m→(¬ rS c.aB ms i∧r[i]?=some m)∨(rS c.aB ms i∧r[i]?=some (qI k (qU hs k)))
theorem KC {ks:List aL} {ms:List aq}:∀ (n i:Nat),Xf ks ms n i→Xf ks ms (n+1) i
 | 0,i,h=>h.elim
 | n+1,i,⟨k,m,h1,h2,h3,h4,h5⟩=>⟨k,m,h1,h2,h3,h4,fun x hx=>(h5 x hx).imp id fun h=>⟨h.1,KC n _ h.2⟩⟩
theorem YA {ks:List aL} {ms:List aq} {n i:Nat} (h:Xf ks ms n i):∀ d,Xf ks ms (n+d) i
 | 0=>h
 | d+1=>KC _ _ (YA h d)
theorem IB {ks:List aL} {ms:List aq}:∀ (l:List b8),(∀ x∈l,qH ms x=true∨(x.is=1∧rS ks ms x.clause.toNat))→∃ n,∀ x∈l,qH ms x=true∨(x.is=1∧Xf ks ms n x.clause.toNat)
 | [],_=>⟨0,fun x hx=>by cases hx⟩
 | y::l,h=>by
  obtain ⟨n,hn⟩:=IB l (fun x hx=>h x (ur _ hx))
  rcases h y (um ..) with h1 | ⟨h1,d,h2⟩
  ·refine ⟨n,fun x hx => ?_⟩
   rcases uz.1 hx with rfl | hx
   ·exact .inl h1
   ·exact hn x hx
  ·refine ⟨n+d,fun x hx => ?_⟩
   rcases uz.1 hx with rfl | hx
   ·exact .inr ⟨h1,by rw [Nat.add_comm];exact YA h2 n⟩
   ·exact (hn x hx).imp id fun h=>⟨h.1,YA h.2 d⟩
theorem VJ {ms:List aq} {x:b8} {m:aq} (hx:zf ms x.clause=some m) (h1:m.aH=1):qH ms x=(x.is == 1):=by
 simp only [qH,hx,h1]
 cases (x.is == 1)<;>cases (x.is == 2)<;>cases (x.is == 3)<;>cases (x.is == 4)<;>rfl
theorem KF {ms:List aq} {x:b8} {m:aq} (hx:zf ms x.clause=some m) (h1:m.aH=0):qH ms x=false:=by
 simp only [qH,hx,h1]
 cases (x.is == 1)<;>cases (x.is == 2)<;>cases (x.is == 3)<;>cases (x.is == 4)<;>rfl
structure cz (c:ax) (hs:List Int) (ms r:List aq):Prop where
 ok:fC c r
 nr:NR c r
 rel:tH c ms r
 same:NR c ms→r=ms
 Am:IA c hs ms r
theorem T7 {ks:List aL} {ms:List aq} {i:Nat} {m:aq} (h:rS ks ms i) (hm:ms[i]?=some m):m.aH=0:=by
 obtain ⟨n,h⟩:=h
 cases n with
 | zero=>exact h.elim
 | succ n=>obtain ⟨k,m',_,h2,h3,_⟩:=h;rw [hm] at h2;cases h2;exact h3
theorem KG {c:ax} {hs:List Int} {ms r:List aq} (hl:ms.length=c.aB.length) (hr:r.length=c.aB.length) (hI:Xg c hs ms r) {i:Nat} {k:aL} (hk:c.aB[i]?=some k) (hcd:∀ x∈k.start,0≤x.clause∧x.clause < c.aB.length) (hy:qv c.aB r i=true):rS c.aB ms i:=by
 have hi:=(ub.1 hk).1
 have hm:=ua (show i < ms.length by omega)
 have hmr:=ua (show i < r.length by omega)
 simp only [qv,hk,hmr,uc,uf,beq_iff_eq,ul] at hy
 obtain ⟨⟨h0,hw⟩,hc⟩:=hy
 rcases hI i k _ hk hm with h | ⟨h,_⟩
 ·rw [hmr] at h
  have e:=Option.some.inj h
  obtain ⟨n,hn⟩:=IB (ks:=c.aB) (ms:=ms) k.start (fun x hx=>by
   obtain ⟨x0,x1⟩:=hcd x hx
   have T8:=jg (l:=ms) (n:=x.clause) x0 (by omega)
   obtain ⟨a1,a2⟩:=T8
   obtain ⟨b1,b2⟩:=jg (l:=r) (n:=x.clause) x0 (by omega)
   have oN:=ua (show x.clause.toNat < c.aB.length by omega)
   have hx':=hc x hx
   rcases hI x.clause.toNat _ _ oN (ua a1) with h2 | ⟨h2,h3⟩
   ·left
    rw [ua b1] at h2
    simp only [qH,b2,Option.some.inj h2] at hx'
    simp only [qH,a2];exact hx'
   ·right
    rw [ua b1] at h3
    rw [VJ b2 (by rw [Option.some.inj h3];rfl)] at hx'
    exact ⟨beq_iff_eq.1 hx',h2⟩)
  exact ⟨n+1,k,_,hk,hm,by rw [←e];exact h0,hw,hn⟩
 ·exact h
theorem YB {c:ax} {hs:List Int} {ms r:List aq} (hl:ms.length=c.aB.length) (hr:r.length=c.aB.length) (hI:Xg c hs ms r) (hn:NR c r) (hcd:∀ (i:Nat) (k:aL),c.aB[i]?=some k→∀ x∈k.start,0≤x.clause∧x.clause < c.aB.length):IA c hs ms r:=by
 have key:∀ (n i:Nat) (k:aL),Xf c.aB ms n i→c.aB[i]?=some k→r[i]?=some (qI k (qU hs k)):=by
  intro n
  induction n with
  | zero=>intro i k h;exact h.elim
  | succ n ih=>
   intro i k h hk
   have hi:=(ub.1 hk).1
   obtain ⟨k',m,h1,h2,h3,h4,h5⟩:=h
   rw [hk] at h1
   cases h1
   rcases hI i k m hk h2 with h | ⟨_,h⟩
   ·exfalso
    have:=hn i hi
    have hy:qv c.aB r i=true:=by
     simp only [qv,hk,h,h3,h4,beq_self_eq_true,uO,Bool.and_true,uS,ul]
     intro x hx
     obtain ⟨x0,x1⟩:=hcd i k hk x hx
     obtain ⟨a1,a2⟩:=jg (l:=ms) (n:=x.clause) x0 (by omega)
     obtain ⟨b1,b2⟩:=jg (l:=r) (n:=x.clause) x0 (by omega)
     have oN:=ua (show x.clause.toNat < c.aB.length by omega)
     rcases h5 x hx with h6 | ⟨h6,h7⟩
     ·rcases hI x.clause.toNat _ _ oN (ua a1) with g | ⟨g,g2⟩
      ·rw [ua b1] at g
       simp only [qH,a2] at h6
       simp only [qH,b2,Option.some.inj g];exact h6
      ·rw [KF a2 (T7 g (ua a1))] at h6;cases h6
     ·have g:=ih _ _ h7 oN
      rw [ua b1] at g
      rw [VJ b2 (by rw [Option.some.inj g];rfl),h6];rfl
    rw [hy] at this;cases this
   ·exact h
 intro i k m hk hm
 by_cases hs':rS c.aB ms i
 ·obtain ⟨n,h⟩:=hs'
  exact .inr ⟨⟨n,h⟩,key n i k h hk⟩
 ·rcases hI i k m hk hm with h | ⟨h,_⟩
  ·exact .inl ⟨hs',h⟩
  ·exact absurd h hs'
theorem KH {ms:List aq} {i:Nat} {m m':aq} (h:ms[i]?=some m) (h0:m.aH=0) (h1:m'.aH≠0):qT (ms.set i m') < qT ms:=by
 obtain ⟨hi,rfl⟩:=ub.1 h
 unfold qT
 rw [List.countP_set hi]
 have hp:0 < ms.countP (fun m=>m.aH == 0):=List.countP_pos_iff.2 ⟨_,ux hi,by simp [h0]⟩
 simp only [h0,beq_self_eq_true,if_true,beq_iff_eq,h1,if_false]
 omega
noncomputable def vT (c:ax) (day:Int) (hs:List Int) (us:List Bool) (ms:List aq):Option (List aq):=wS c day hs hs.length us us.length ms ms.length
theorem Q5 (n:Nat):ec n n=some ⟨rfl⟩:=by unfold ec;rw [dif_pos rfl]
theorem wk {a b:Nat} (h:a=b):ec a b=some ⟨h⟩:=by unfold ec;rw [dif_pos h]
theorem Xh (c:ax) (day:Int) (hs:List Int) (us:List Bool) (ms:List aq) (ho:c.off.length < 4611686018427387904) (hv:(z8 c).1=0) (hh:hs.length=c.aC.length) (hb:∀ h∈hs,0≤h∧h < c.aN) (hm:fC c ms) :
  ay (vT c day hs us ms) (cz c hs ms):=by
 have sm:=qn ho hv
 have dY:=sm.aB
 unfold vT wS
 refine ay.bind (P:=fun r=>cz c hs ms r) (ay.iter (fun s=>fC c s.2∧tH c ms s.2∧(NR c ms→s.2=ms)∧Xg c hs ms s.2∧(s.1=false→NR c s.2)) (fun s=>2*qT s.2+(if s.1 then 1 else 0)) ⟨hm,fun i m m' h1 h2=>.inl (by simp only at h2;rw [h1] at h2;exact (Option.some.inj h2).symm),fun _=>rfl,fun i k m h1 h2=>.inl h2,fun h=>by cases h⟩ ?_) (fun r hr=>ay.some hr)
 have mC:=hm.1
 have hcd:∀ (i:Nat) (k:aL),c.aB[i]?=some k→∀ x∈k.start,0≤x.clause∧x.clause < c.aB.length:=fun i k hk=>(jd ho hv hk).cond
 rintro ⟨b,fp⟩ ⟨hok,hrel,hsame,BD,sJ⟩
 cases b with
 | false=>exact ay.some ⟨hok,sJ rfl,hrel,hsame,YB mC hok.1 BD (sJ rfl) hcd⟩
 | true=>
  simp only [bL]
  refine ay.bind (P:=fun o=>∃ s2:Bool×List aq,o=.inl s2∧fC c s2.2∧tH c ms s2.2∧(NR c fp→s2.2=fp)∧Xg c hs ms s2.2∧(s2.1=false→s2.2=fp∧NR c fp)∧(s2.1=true→qT s2.2 < qT fp))
   (ay.dS (n:=c.aB.length) (fun i s=>fC c s.2∧tH c ms s.2∧(NR c fp→s.2=fp)∧Xg c hs ms s.2∧(s.1=false→s.2=fp∧∀ j,j < i→qv c.aB fp j=false)∧(s.1=true→qT s.2 < qT fp)) (by omega) ⟨hok,hrel,fun _=>rfl,BD,fun _=>⟨rfl,fun j hj=>by omega⟩,fun h=>by cases h⟩ ?_ (fun s h=>⟨s,rfl,h⟩)) ?_
  ·rintro i ⟨b0,eN⟩ hi ⟨oO,iM,iU,iN,rf,Ao⟩
   simp only at oO iM iU iN rf Ao
   have hk:=ua hi
   have fY:=oO.1
   have hi2:i < eN.length:=by omega
   have hm2:=ua hi2
   have kv:=jd ho hv hk
   have hmk:=oO.2 i _ _ hk hm2
   rw [zt hk]
   simp only [aS,Q5,wk (show ms.length=eN.length by omega)]
   rw [Iw c _ i _ _ hk hm2 (by have:=kv.start;omega) (fun x hx=>by have:=kv.cond x hx;simp only;omega)]
   simp only [aS]
   cases hr:qv c.aB eN i with
   | false=>
    simp only [bM,aS]
    refine ay.some ⟨oO,iM,iU,iN,fun hb=>⟨(rf hb).1,fun j hj => ?_⟩,Ao⟩
    rcases Nat.lt_or_ge j i with h | h
    ·exact (rf hb).2 j h
    ·obtain rfl:j=i:=by omega
     rw [←(rf hb).1];exact hr
   | true=>
    simp only [bL]
    have hr':=hr
    simp only [qv,hk,hm2,uc,uf,beq_iff_eq] at hr'
    obtain ⟨⟨h0,hw⟩,_⟩:=hr'
    have BE:ay (bif (c.aB[i].kind == 4) then some (-1) else (ui (zo hs.length c.aB[i].bW) fun k1=>(ui (hs[k1]?) fun e2=>some e2))) (fun v=>v=qU hs c.aB[i]∧bif c.aB[i].kind == 4 then v = -1 else 0≤v∧v < c.aN):=by
     refine ay.ite (fun h4=>ay.some (by simp [h4,qU])) (fun h4 => ?_)
     have h4':c.aB[i].kind≠4:=beq_eq_false_iff_ne.1 h4
     have hro:=kv.bW.resolve_left h4'
     rw [kL hro.1 (by omega)]
     have hlt:c.aB[i].bW.toNat < hs.length:=by omega
     simp only [aS,ua hlt]
     exact ay.some ⟨by simp [qU,h4,ua hlt],by rw [h4];exact hb _ (ux hlt)⟩
    refine ay.bind (P:=fun v:Bool×List aq=>∃ b,v=(true,eN.set i (qI c.aB[i] b))∧b=qU hs c.aB[i]∧(bif c.aB[i].kind == 4 then b = -1 else 0≤b∧b < c.aN)) (ay.bind BE fun v BF => ?_) ?_
    ·rw [zC (show i < ms.length by omega)]
     simp only [aS,hm2]
     exact ay.some ⟨v,rfl,BF⟩
    ·rintro _ ⟨b,rfl,nW,nA⟩
     have hnew:qP c.aN c.aB[i] (qI c.aB[i] b)=true:=by
      simp only [qP,qI,kp,hw]
      have h1:=kv.after
      have:¬ c.aB[i].after < 1:=by omega
      cases h4:(c.aB[i].kind == 4) with
      | true=>rw [h4] at nA;simp only [bL] at nA;subst nA;simp [this]
      | false=>rw [h4] at nA;simp only [bM] at nA;simp [this,nA]
     refine ay.some ⟨⟨by simpa using fY,fun j k m hj mS => ?_⟩,fun j m m' h1 h2 => ?_,fun hn => ?_,fun j k m hj mS => ?_,fun h=>by simp at h,fun _ => ?_⟩
     ·rw [uu] at mS
      by_cases hij:i=j
      ·subst hij
       rw [if_pos rfl,if_pos hi2] at mS
       rw [hk] at hj
       cases hj;cases mS;exact hnew
      ·rw [if_neg hij] at mS;exact oO.2 j k m hj mS
     ·simp only at h2
      rw [uu] at h2
      by_cases hij:i=j
      ·subst hij
       rw [if_pos rfl,if_pos hi2] at h2
       cases h2
       refine .inr ⟨?_,_,b,hk,rfl⟩
       rcases iM i m _ h1 hm2 with h | ⟨h,_⟩
       ·rw [←h];exact h0
       ·exact h
      ·rw [if_neg hij] at h2;exact iM j m m' h1 h2
     ·have e:=iU hn
      have:=hn i hi
      rw [←e,hr] at this
      cases this
     ·show (eN.set i (qI c.aB[i] b))[j]?=some m∨rS c.aB ms j∧(eN.set i (qI c.aB[i] b))[j]?=some (qI k (qU hs k))
      rw [uu]
      by_cases hij:i=j
      ·subst hij
       rw [if_pos rfl,if_pos hi2]
       rw [hk] at hj
       cases hj
       exact .inr ⟨KG mC fY iN hk (hcd _ _ hk) hr,by rw [nW]⟩
      ·rw [if_neg hij];exact iN j k m hj mS
     ·have h3:=KH (m':=qI c.aB[i] b) hm2 h0 (by simp [qI])
      show qT (eN.set i (qI c.aB[i] b)) < qT fp
      cases b0 with
      | true=>have:=Ao rfl;omega
      | false=>have e:=(rf rfl).1;subst e;exact h3
  ·rintro _ ⟨⟨b2,eN⟩,rfl,oO,iM,iU,iN,rf,Ao⟩
   simp only at oO iM iU iN rf Ao
   simp only [uB]
   refine ay.some ⟨⟨oO,iM,fun hn => ?_,iN,fun gJ => ?_⟩,?_⟩
   ·have e:=hsame hn
    simp only at e
    subst e
    exact iU hn
   ·obtain ⟨e1,e2⟩:=rf gJ
    simp only;rw [e1];exact e2
   ·simp only
    cases b2 with
    | true=>have:=Ao rfl;simp;omega
    | false=>have:=(rf rfl).1;subst this;simp
def zA (m:aq):Bool:=m.aH == 1||m.aH == 2
theorem ZI (m:aq):jP m=some (zA m):=by
 simp only [jP,zx,aS,zA];cases (m.aH == 1)<;>rfl
def x5 (st:Int) (m:aq):aq:={m with aH:=st,left:=0,aT:=false}
def qV (free:Bool) (k:aL) (m:aq):aq:=
 bif zA m then (bif m.aT||(k.bV&&free) then m else
  bif m.left - 1 == 0 then (bif k.kind == 1 then (bif m.aH == 1&&decide (0 < k.cX) then {m with aH:=2,left:=k.cX} else x5 4 m) else bif k.kind == 2 then x5 3 m else x5 5 m)
  else {m with left:=m.left - 1}) else m
def dB (c:ax) (F:aL→aq→aq) (i:Nat) (m:aq):aq:=match c.aB[i]? with | some k=>F k m | none=>m
structure BG (c:ax) (k:aL) (m:aq):Prop where
 bq:k.bq=false
 left:1≤m.left∧m.left≤400
 aT:m.aT=true→k.bH ≠ -1
 got:m.got=0∨(k.kind=1∧0≤m.got∧m.got < k.need)
 bg:(k.kind=4∧m.bg = -1)∨(k.kind≠4∧0≤m.bg∧m.bg < c.aN)
theorem jG {p:Int} {k:aL} {m:aq}:kp p k m=true↔k.bq=false∧1≤m.left∧(m.aT=true→k.bH ≠ -1)∧(m.got=0∨(k.kind=1∧0≤m.got∧m.got < k.need))∧((k.kind=4∧m.bg = -1)∨(k.kind≠4∧0≤m.bg∧m.bg < p)):=by
 simp only [kp,uc,uf,Bool.or_eq_false_iff,decide_eq_false_iff_not,uE,beq_iff_eq]
 have e1:(m.aT&&k.bH == -1)=false↔(m.aT=true→k.bH ≠ -1):=by cases m.aT<;>simp
 have e2:(bif k.kind == 4 then m.bg == -1 else decide (0≤m.bg)&&decide (m.bg < p))=true↔((k.kind=4∧m.bg = -1)∨(k.kind≠4∧0≤m.bg∧m.bg < p)):=by
  cases h:(k.kind == 4) with
  | true=>have:=beq_iff_eq.1 h;simp [this]
  | false=>have:=beq_eq_false_iff_ne.1 h;simp [this]
 rw [e1,e2]
 constructor
 ·rintro ⟨⟨a,b,d⟩,e,f⟩;exact ⟨a,by omega,d,by omega,f⟩
 ·rintro ⟨a,b,d,e,f⟩;exact ⟨⟨a,by omega,d⟩,by omega,f⟩
theorem j7 {p:Int} {k:aL} {m:aq}:qP p k m=true↔(m.aH=0∧k.bq=false∧VI m=true)∨(m.aH=1∧m.left≤k.after∧kp p k m=true)∨(m.aH=2∧k.kind=1∧m.left≤k.cX∧kp p k m=true)∨((m.aH=3∨m.aH=4∨m.aH=5)∧CC p m=true):=by
 unfold qP
 by_cases h0:m.aH=0
 ·simp [h0]
 by_cases h1:m.aH=1
 ·simp [h1]
 by_cases h2:m.aH=2
 ·simp [h2]
 have e0:(m.aH == 0)=false:=beq_eq_false_iff_ne.2 h0
 have e1:(m.aH == 1)=false:=beq_eq_false_iff_ne.2 h1
 have e2:(m.aH == 2)=false:=beq_eq_false_iff_ne.2 h2
 simp [e0,e1,e2,h0,h1,h2]
theorem xA {c:ax} {i:Nat} {k:aL} {m:aq} (kv:KV c i k) (h:qP c.aN k m=true) (hr:zA m=true):BG c k m∧kp c.aN k m=true∧(m.aH=1∧m.left≤k.after∨m.aH=2∧k.kind=1∧m.left≤k.cX):=by
 simp only [zA,uE,beq_iff_eq] at hr
 have ha:=kv.after
 have hg:=kv.cX
 rcases j7.1 h with ⟨h0,_⟩ | ⟨h0,h1,h2⟩ | ⟨h0,h1,h2,h3⟩ | ⟨h0,_⟩
 ·omega
 ·obtain ⟨a,b,d,e,f⟩:=jG.1 h2
  exact ⟨⟨a,⟨b,by omega⟩,d,e,f⟩,h2,.inl ⟨h0,h1⟩⟩
 ·obtain ⟨a,b,d,e,f⟩:=jG.1 h3
  exact ⟨⟨a,⟨b,by omega⟩,d,e,f⟩,h3,.inr ⟨h0,h1,h2⟩⟩
 ·omega
theorem Ql {c:ax} {i:Nat} {k:aL} {m:aq} {st:Int} (kv:KV c i k) (rv:BG c k m) (hp:0 < c.aN) (hst:st=3∨st=4∨st=5):qP c.aN k (x5 st m)=true:=by
 refine j7.2 (.inr (.inr (.inr ⟨hst,?_⟩)))
 have h1:=rv.got
 have h2:=rv.bg
 have h3:=kv.need
 have e1:decide (0≤m.got)=true:=decide_eq_true (by omega)
 have e2:decide (m.got≤9)=true:=decide_eq_true (by omega)
 have e3:decide (-1≤m.bg)=true:=decide_eq_true (by omega)
 have e4:decide (m.bg < c.aN)=true:=decide_eq_true (by omega)
 show ((0:Int) == 0&&(decide (0≤m.got)&&(decide (m.got≤9)&&(decide (-1≤m.bg)&&(decide (m.bg < c.aN) && !false)))))=true
 rw [e1,e2,e3,e4];rfl
theorem kN {c:ax} {k:aL} {m:aq} (h:(m.aH=1∧m.left≤k.after)∨(m.aH=2∧k.kind=1∧m.left≤k.cX)) (hr:kp c.aN k m=true):qP c.aN k m=true:=by
 rcases h with ⟨h0,h1⟩ | ⟨h0,h1,h2⟩
 ·exact j7.2 (.inr (.inl ⟨h0,h1,hr⟩))
 ·exact j7.2 (.inr (.inr (.inl ⟨h0,h1,h2,hr⟩)))
theorem fC.mapIdx {c:ax} {ms:List aq} (F:aL→aq→aq) (h:fC c ms) (hF:∀ (i:Nat) (k:aL) (m:aq),c.aB[i]?=some k→qP c.aN k m=true→qP c.aN k (F k m)=true):fC c (ms.mapIdx (dB c F)):=by
 refine ⟨by simpa using h.1,fun i k m hk hm => ?_⟩
 rw [uP] at hm
 obtain ⟨m0,h0,rfl⟩:=uM.1 hm
 simp only [dB,hk]
 exact hF i k m0 hk (h.2 i k m0 hk h0)
theorem IC {c:ax} {i:Nat} {k:aL} {m:aq} (free:Bool) (kv:KV c i k) (hp:0 < c.aN) (h:qP c.aN k m=true):qP c.aN k (qV free k m)=true:=by
 unfold qV
 cases hr:zA m with
 | false=>exact h
 | true=>
  obtain ⟨rv,hb,hs⟩:=xA kv h hr
  simp only [bL]
  cases gb:(m.aT||(k.bV&&free)) with
  | true=>exact h
  | false=>
   simp only [bM]
   have hl:=rv.left
   obtain ⟨b1,b2,b3,b4,b5⟩:=jG.1 hb
   cases hz:(m.left - 1 == 0) with
   | false=>
    have:=beq_eq_false_iff_ne.1 hz
    refine kN ?_ (jG.2 ⟨b1,?_,b3,b4,b5⟩)
    ·simp only [bM];omega
    ·simp only [bM];omega
   | true=>
    simp only [bL]
    cases h1:(k.kind == 1) with
    | false=>
     cases h2:(k.kind == 2) with
     | true=>exact Ql kv rv hp (by omega)
     | false=>exact Ql kv rv hp (by omega)
    | true=>
     simp only [bL]
     cases h3:(m.aH == 1&&decide (0 < k.cX)) with
     | false=>exact Ql kv rv hp (by omega)
     | true=>
      simp only [uc,beq_iff_eq,decide_eq_true_eq] at h3
      exact kN (.inr ⟨rfl,beq_iff_eq.1 h1,Ua _⟩) (jG.2 ⟨b1,by simp only [bL];omega,b3,b4,b5⟩)
theorem qK {α:Type} {s:List α} {i:Nat} {m:α} (h:s[i]?=some m):s.set i m=s:=by
 obtain ⟨hi,rfl⟩:=ub.1 h
 exact List.set_getElem_self hi
theorem vA {α:Type} {s:List α} {i:Nat} {m x:α} (h:s[i]?=some m):(s.set i x)[i]?=some x:=by
 have:=(ub.1 h).1
 simp [this]
theorem XO (i:Nat) (st:Int) (c:ax) (p4:Int) (p5:List Int) (p6:Nat) (p7:List Bool) (p8:Nat) (ms:List aq) (n:Nat) (m:aq) (hi:i < n) (hm:ms[i]?=some m):wB i st c p4 p5 p6 p7 p8 ms n=some (ms.set i (x5 st m)):=by
 unfold wB
 simp only [zC hi,aS,hm,uy,x5]
theorem T9 (c:ax) (day:Int) (hs:List Int) (us:List Bool) (ms:List aq) (ho:c.off.length < 4611686018427387904) (hv:(z8 c).1=0) (hm:fC c ms) (rm:0≤day∧day≤2000) :
  iq c day hs hs.length us us.length ms ms.length=vT c (day+1) hs us (ms.mapIdx (dB c (qV (jK c.off day).isSome))):=by
 have sm:=qn ho hv
 have dY:=sm.aB
 have hl:=hm.1
 unfold iq
 obtain ⟨r,hr,_⟩:=Yy c.off day (Iz ho hv) ho
 rw [hr]
 simp only [aS,xK]
 rw [wM ms (dB c (qV (jK c.off day).isSome)) (by omega) ?_]
 ·simp only [aS,uB]
  rw [zZ (by omega) (by omega)]
  unfold vT
  rw [List.length_mapIdx]
  generalize wS _ _ _ _ _ _ _ _=x
  cases x<;>rfl
 ·intro i m s h1 h2 h3
  have hi:i < ms.length:=(ub.1 h1).1
  have hic:i < c.aB.length:=by omega
  have hk:=ua hic
  have kv:=jd ho hv hk
  have hmk:=hm.2 i _ _ hk h1
  simp only [zC hi,aS,h3,ZI,dB,hk]
  generalize c.aB[i]=k at hk kv hmk
  cases ng:zA m with
  | false=>simp only [bM,aS,qV,ng,qK h3]
  | true=>
   obtain ⟨rv,hb,hst⟩:=xA kv hmk ng
   have hleft:=rv.left
   simp only [bL,zt hk,aS,qV,ng,zx]
   have Ui:(bif m.aT then true else bif k.bV then (jK c.off day).isSome else false)=(m.aT||(k.bV&&(jK c.off day).isSome)):=by cases m.aT<;>cases k.bV<;>rfl
   rw [Ui]
   cases gb:(m.aT||(k.bV&&(jK c.off day).isSome)) with
   | true=>simp only [bL,aS,uq,bM,qK h3]
   | false=>
    rw [zZ (show -9223372036854775808≤m.left - 1 by omega) (by omega)]
    simp only [bM,aS,vA h3]
    cases hz:(m.left - 1 == 0) with
    | false=>simp only [bM,aS,uq]
    | true=>
     have iO:=beq_iff_eq.1 hz
     have A2:(k.kind == 0)=false:=beq_eq_false_iff_ne.2 (by have:=kv.kind;omega)
     simp only [bL,A2,bM,Vv,wT,ZE,zC hi,aS,vA h3,zt hk,zx]
     rw [XO i 4 _ _ _ _ _ _ _ _ _ hi (vA h3),XO i 3 _ _ _ _ _ _ _ _ _ hi (vA h3),XO i 5 _ _ _ _ _ _ _ _ _ hi (vA h3)]
     simp only [aS,uy,x5,iO]
     cases h1:(k.kind == 1) with
     | true=>
      simp only [bL]
      have e3:(bif m.aH == 1 then decide (0 < k.cX) else false)=(m.aH == 1&&decide (0 < k.cX)):=by cases (m.aH == 1)<;>rfl
      rw [e3]
      cases h4:(m.aH == 1&&decide (0 < k.cX))<;>simp
     | false=>
      cases h2:(k.kind == 2) with
      | true=>simp
      | false=>
       cases h3:(k.kind == 3) with
       | true=>simp
       | false=>
        have h4:(k.kind == 4)=true:=beq_iff_eq.2 (by have:=kv.kind;have:=beq_eq_false_iff_ne.1 h1;have:=beq_eq_false_iff_ne.1 h2;have:=beq_eq_false_iff_ne.1 h3;omega)
        simp [h4]
def qZ (act:Int) (k:aL) (m:aq):aq:=
 bif zA m then (bif act == k.bH then {m with aT:=true} else bif act == k.resume then {m with aT:=false} else m) else m
def CD (k:aL) (m:aq):aq:=bif m.got+1 == k.need then x5 3 {m with got:=m.got+1} else {m with got:=m.got+1}
def CE (k:aL) (m:aq):aq:=bif k.kind == 1 then CD k m else bif k.kind == 2 then (bif m.aT then m else x5 4 m) else x5 3 m
def x6 (act bI:Int) (k:aL) (m:aq):aq:=bif zA m then (bif k.act == act&&(k.kind == 4||m.bg == bI) then CE k m else m) else m
def jk (a:aV) (k:aL) (m:aq):aq:=bif zA m then (bif !(k.kind == 4)&&k.bW == a.cM then {m with bg:=a.to} else m) else m
def z6 (hs:List Int) (a:aV):Int:=bif a.bW == -1 then -1 else hs[a.bW.toNat]?.getD 0
theorem Uj (c:ax) (s:bn) (i:Nat) (a:aV) (ha:c.aK[i]?=some a) (h:a.bW = -1∨(0≤a.bW∧a.bW < s.aC.length)):Qa c s i=some (z6 s.aC a):=by
 unfold Qa z6
 simp only [zt ha,aS]
 cases hr:(a.bW == -1) with
 | true=>rfl
 | false=>
  have h1:=beq_eq_false_iff_ne.1 hr
  obtain ⟨h2,h3⟩:=jg (l:=s.aC) (n:=a.bW) (by omega) (by omega)
  simp only [bM,h3,aS,ua h2,uC]
theorem KI {c:ax} {i:Nat} {k:aL} {m:aq} {act:Int} (ha:0≤act) (kv:KV c i k) (h:qP c.aN k m=true):qP c.aN k (qZ act k m)=true:=by
 unfold qZ
 cases hr:zA m with
 | false=>exact h
 | true=>
  obtain ⟨rv,hb,hs⟩:=xA kv h hr
  obtain ⟨b1,b2,b3,b4,b5⟩:=jG.1 hb
  simp only [bL]
  cases h1:(act == k.bH) with
  | true=>exact kN hs (jG.2 ⟨b1,b2,fun _=>by have:=beq_iff_eq.1 h1;omega,b4,b5⟩)
  | false=>
   cases h2:(act == k.resume) with
   | true=>exact kN hs (jG.2 ⟨b1,b2,fun h=>absurd (show false=true from h) (by decide),b4,b5⟩)
   | false=>exact h
theorem ID {c:ax} {i:Nat} {k:aL} {m:aq} {act bI:Int} (hp:0 < c.aN) (kv:KV c i k) (h:qP c.aN k m=true):qP c.aN k (x6 act bI k m)=true:=by
 unfold x6
 cases hr:zA m with
 | false=>exact h
 | true=>
  obtain ⟨rv,hb,hs⟩:=xA kv h hr
  obtain ⟨b1,b2,b3,b4,b5⟩:=jG.1 hb
  simp only [bL]
  cases h1:(k.act == act&&(k.kind == 4||m.bg == bI)) with
  | false=>exact h
  | true=>
   simp only [bL,CE]
   have hn:=kv.need
   cases h2:(k.kind == 1) with
   | true=>
    have hk:=beq_iff_eq.1 h2
    simp only [bL,CD]
    cases h3:(m.got+1 == k.need) with
    | true=>
     have h3':=beq_iff_eq.1 h3
     refine j7.2 (.inr (.inr (.inr ⟨.inl rfl,?_⟩)))
     have e1:decide (0≤m.got+1)=true:=decide_eq_true (by omega)
     have e2:decide (m.got+1≤9)=true:=decide_eq_true (by omega)
     have e3:decide (-1≤m.bg)=true:=decide_eq_true (by omega)
     have e4:decide (m.bg < c.aN)=true:=decide_eq_true (by omega)
     show ((0:Int) == 0&&(decide (0≤m.got+1)&&(decide (m.got+1≤9)&&(decide (-1≤m.bg)&&(decide (m.bg < c.aN) && !false)))))=true
     rw [e1,e2,e3,e4];rfl
    | false=>
     have h3':=beq_eq_false_iff_ne.1 h3
     refine kN hs (jG.2 ⟨b1,b2,b3,.inr ⟨hk,?_,?_⟩,b5⟩)
     ·show 0≤m.got+1;omega
     ·show m.got+1 < k.need;omega
   | false=>
    simp only [bM]
    cases h3:(k.kind == 2) with
    | true=>
     simp only [bL]
     cases m.aT with
     | true=>exact h
     | false=>exact Ql kv rv hp (by omega)
    | false=>exact Ql kv rv hp (by omega)
theorem Uk {c:ax} {i:Nat} {k:aL} {m:aq} {a:aV} (kv:KV c i k) (ht:0≤a.to∧a.to < c.aN) (h:qP c.aN k m=true):qP c.aN k (jk a k m)=true:=by
 unfold jk
 cases hr:zA m with
 | false=>exact h
 | true=>
  obtain ⟨rv,hb,hs⟩:=xA kv h hr
  obtain ⟨b1,b2,b3,b4,b5⟩:=jG.1 hb
  simp only [bL]
  cases h1:(!(k.kind == 4)&&k.bW == a.cM) with
  | false=>exact h
  | true=>
   simp only [uc,uf,beq_eq_false_iff_ne] at h1
   exact kN hs (jG.2 ⟨b1,b2,b3,b4,.inr ⟨h1.1,ht.1,ht.2⟩⟩)
def fp (c:ax) (act:Int) (ms:List aq):List aq:=ms.mapIdx (dB c (qZ act))
def eN (c:ax) (act:Int) (a:aV) (hs:List Int) (ms:List aq):List aq:=(fp c act ms).mapIdx (dB c (x6 act (z6 hs a)))
def nQ (c:ax) (act:Int) (a:aV) (hs:List Int) (ms:List aq):List aq:=bif a.kind == 3 then (eN c act a hs ms).mapIdx (dB c (jk a)) else eN c act a hs ms
def hs3 (a:aV) (hs:List Int):List Int:=bif a.kind == 1 then hs else hs.set a.cM.toNat a.to
def l8 (i:Nat) (a:aV) (us:List Bool):List Bool:=bif a.kind == 1 then us else us.set i true
theorem IE {c:ax} {act:Int} {ms:List aq} (ho:c.off.length < 4611686018427387904) (hv:(z8 c).1=0) (ha:0≤act) (hm:fC c ms):fC c (fp c act ms):=
 hm.mapIdx _ fun i k m hk h=>KI ha (jd ho hv hk) h
theorem EB {c:ax} {act:Int} {a:aV} {hs:List Int} {ms:List aq} (ho:c.off.length < 4611686018427387904) (hv:(z8 c).1=0) (ha:0≤act) (hm:fC c ms):fC c (eN c act a hs ms):=
 (IE ho hv ha hm).mapIdx _ fun i k m hk h=>ID (by have:=(qn ho hv).aN;omega) (jd ho hv hk) h
theorem IF {c:ax} {act:Int} {a:aV} {hs:List Int} {ms:List aq} (ho:c.off.length < 4611686018427387904) (hv:(z8 c).1=0) (ha:0≤act) (av:EA c a) (hm:fC c ms):fC c (nQ c act a hs ms):=by
 unfold nQ
 cases h3:(a.kind == 3) with
 | false=>exact EB ho hv ha hm
 | true=>
  refine (EB ho hv ha hm).mapIdx _ fun i k m hk h=>Uk (jd ho hv hk) ?_ h
  have:=beq_iff_eq.1 h3
  have:=av.kind
  omega
theorem Ul (c:ax) (day:Int) (hs:List Int) (us:List Bool) (ms:List aq) (i:Nat) (a:aV) (ho:c.off.length < 4611686018427387904) (hv:(z8 c).1=0) (hh:hs.length=c.aC.length) (hu:us.length=c.aK.length)
  (ha:c.aK[i]?=some a) (hm:fC c ms) :
  QT i c day hs hs.length us us.length ms ms.length=(bif !(a.kind == 1)&&us[i]?.getD false then some (hs,us,ms) else
   (vT c day (hs3 a hs) (l8 i a us) (nQ c i a hs ms)).bind fun r=>some (hs3 a hs,l8 i a us,r)):=by
 have sm:=qn ho hv
 have dY:=sm.aB
 have hl:=hm.1
 have av:=Q4 hv ha
 have IG:i < c.aK.length:=(ub.1 ha).1
 have rp:i < us.length:=by omega
 unfold QT
 have eU:(bif a.kind == 1 then some false else (ui (zo us.length (i:Int)) fun k1=>(ui (us[k1]?) fun e2=>some e2)))=some (!(a.kind == 1)&&us[i]?.getD false):=by
  simp only [zC rp,aS,ua rp,uC]
  cases (a.kind == 1)<;>rfl
 simp only [zt ha,aS]
 rw [eU]
 simp only [aS]
 cases gA:(!(a.kind == 1)&&us[i]?.getD false) with
 | true=>rfl
 | false=>
  simp only [bM,xK,aS]
  rw [wM ms (dB c (qZ i)) (by omega) ?p1]
  case p1=>
   intro j m s h1 h2 h3
   have hj:j < ms.length:=(ub.1 h1).1
   have hk:=ua (show j < c.aB.length by omega)
   simp only [zC hj,aS,h3,ZI,dB,hk,qZ]
   generalize c.aB[j]=k at hk
   cases ng:zA m with
   | false=>simp only [bM,aS,qK h3]
   | true=>
    simp only [bL,zt hk,aS]
    cases ((i:Int) == k.bH) with
    | true=>simp only [bL,aS,uq,bM]
    | false=>
     simp only [bM]
     cases ((i:Int) == k.resume) with
     | true=>simp only [bL,aS,uq,bM]
     | false=>simp only [bM,aS,uq,qK h3]
  simp only [aS,uB]
  show ui (ec hs.length hs.length) _=_
  simp only [Q5,aS,wk (show ms.length=(ms.mapIdx (dB c (qZ (i:Int)))).length by simp)]
  rw [Uj c _ i a ha (by have:=av.bW;simp only;omega)]
  simp only [aS]
  have EC:=IE (act:=(i:Int)) ho hv (by omega) hm
  have BH:(ms.length:Int)=((fp c i ms).length:Int):=by simp [fp]
  show ui (ui (aG (ms.length:Int) _ (fp c i ms)) _) _=_
  rw [BH]
  rw [wM (fp c i ms) (dB c (x6 i (z6 hs a))) (by simp [fp];omega) ?p2]
  case p2=>
   intro j m s h1 h2 h3
   have nE:j < (fp c i ms).length:=(ub.1 h1).1
   have hj:j < ms.length:=by simpa [fp] using nE
   have hk:=ua (show j < c.aB.length by omega)
   have kv:=jd ho hv hk
   have hmk:=EC.2 j _ _ hk h1
   simp only [zC hj,aS,h3,ZI,dB,hk,x6]
   generalize c.aB[j]=k at hk kv hmk
   cases ng:zA m with
   | false=>simp only [bM,aS,qK h3]
   | true=>
    obtain ⟨rv,hb,hst⟩:=xA kv hmk ng
    simp only [bL,zt hk,aS]
    have eT:(bif k.act == (i:Int) then (bif k.kind == 4 then some true else some (m.bg == z6 hs a)) else some false)=some (k.act == (i:Int)&&(k.kind == 4||m.bg == z6 hs a)):=by
     cases (k.act == (i:Int))<;>cases (k.kind == 4)<;>rfl
    rw [eT]
    simp only [aS]
    cases (k.act == (i:Int)&&(k.kind == 4||m.bg == z6 hs a)) with
    | false=>simp only [bM,aS,uq,qK h3]
    | true=>
     have Um:=rv.got
     have II:=kv.need
     have A2:(k.kind == 0)=false:=beq_eq_false_iff_ne.2 (by have:=kv.kind;omega)
     simp only [bL,A2,bM,Vx,Vw,wT,zC hj,aS,h3,vA h3,zt hk,CE,CD]
     rw [zZ (show -9223372036854775808≤m.got+1 by omega) (by omega)]
     rw [XO j 3 _ _ _ _ _ _ _ _ _ hj h3,XO j 3 _ _ _ _ _ _ _ _ _ hj (vA h3),XO j 4 _ _ _ _ _ _ _ _ _ hj h3]
     simp only [aS,uy]
     cases e1:(k.kind == 1) with
     | true=>cases (m.got+1 == k.need)<;>simp
     | false=>
      cases e2:(k.kind == 2) with
      | true=>cases m.aT<;>simp [qK h3]
      | false=>
       cases e3:(k.kind == 3) with
       | true=>simp
       | false=>
        have h4:(k.kind == 4)=true:=beq_iff_eq.2 (by have:=kv.kind;have:=beq_eq_false_iff_ne.1 e1;have:=beq_eq_false_iff_ne.1 e2;have:=beq_eq_false_iff_ne.1 e3;omega)
        simp [h4]
  simp only [aS,uB]
  show ui (bif a.kind == 1 then some (hs,us,eN c i a hs ms) else _) _=_
  have Un:=EB (act:=(i:Int)) (a:=a) (hs:=hs) ho hv (by omega) hm
  cases h1:(a.kind == 1) with
  | true=>
   have h3:(a.kind == 3)=false:=beq_eq_false_iff_ne.2 (by have:=beq_iff_eq.1 h1;omega)
   simp only [bL,aS,hs3,l8,nQ,h1,h3,bM]
   unfold vT
   rw [show (eN c i a hs ms).length=ms.length by simp [eN,fp]]
  | false=>
   have hak:=av.kind.resolve_left (beq_eq_false_iff_ne.1 h1)
   have hg:a.cM.toNat < hs.length:=by omega
   simp only [bM,Vy,zt ha,aS]
   rw [kL (show 0≤a.cM by omega) (by omega),zC rp]
   simp only [aS,ua hg,ua rp,xK,hs3,l8,nQ,h1,bM]
   cases h3:(a.kind == 3) with
   | false=>
    simp only [bM,aS]
    unfold vT
    rw [show (eN c i a hs ms).length=ms.length by simp [eN,fp],uD,uD]
    rfl
   | true=>
    simp only [bL]
    have gZ:(ms.length:Int)=((eN c i a hs ms).length:Int):=by simp [eN,fp]
    rw [gZ,show List.mapIdx (dB c (x6 (i:Int) (z6 hs a))) (fp c i ms)=eN c i a hs ms from rfl]
    rw [wM (eN c i a hs ms) (dB c (jk a)) (by simp [eN,fp];omega) ?p3]
    case p3=>
     intro j m s h1 h2 h3
     have nE:j < (eN c i a hs ms).length:=(ub.1 h1).1
     have hj:j < ms.length:=by simpa [eN,fp] using nE
     have hk:=ua (show j < c.aB.length by omega)
     simp only [zC hj,aS,h3,ZI,dB,hk,jk]
     generalize c.aB[j]=k at hk
     cases ng:zA m with
     | false=>simp only [bM,aS,qK h3]
     | true=>
      simp only [bL,zt hk,aS]
      cases (k.kind == 4) with
      | true=>simp only [bL,aS,uq,uH,bM,qK h3]
      | false=>
       simp only [bM,aS,uO,uS]
       cases (k.bW == a.cM) with
       | true=>simp only [bL,aS,uq,bM]
       | false=>simp only [bM,aS,uq,qK h3]
    simp only [aS,uB]
    unfold vT
    rw [show ((eN c i a hs ms).mapIdx (dB c (jk a))).length=ms.length by simp [eN,fp],uD,uD]
def ED:bn:={day:=0,aC:=[],used:=[],aM:=[]}
def IJ (c:ax) (i:Nat) (a:aV) (s r:bn):Prop:=
 (a.kind≠1∧s.used[i]?=some true∧r=s)∨((a.kind=1∨s.used[i]?=some false)∧r.day=s.day∧r.aC=hs3 a s.aC∧r.used=l8 i a s.used∧cz c (hs3 a s.aC) (nQ c i a s.aC s.aM) r.aM)
def IK (c:ax) (s r:bn):Prop:=r.day=s.day+1∧r.aC=s.aC∧r.used=s.used∧cz c s.aC (s.aM.mapIdx (dB c (qV (jK c.off s.day).isSome))) r.aM
theorem kh {b n:Nat} (h:n < 1000) (hb:b≤1000):eA b (n:Int)=some n:=by
 unfold eA
 have:n*b≤1000*1000:=Nat.mul_le_mul (by omega) hb
 rw [if_pos ⟨by omega,by omega,by omega⟩];simp
theorem WA {α:Type} {l d:List α} {k:Nat} (h:k=d.length) (h2:l.length=k):x8 k d l=some l:=by unfold x8;rw [if_pos ⟨h,h2⟩]
theorem Uo {α:Type} {l:List α} {i:Nat} {x y:α} (h:y∈l.set i x):y∈l∨y=x:=List.mem_or_eq_of_mem_set h
theorem Up {c:ax} {s:bn} {a:Int} (hc:c.Ok) (hv:VS c s) (h1 : -1≤a) (h2:a < c.aK.length) (hd:s.day < c.aJ) :
  ay (cK c s a) (fun r=>r.2=0∧VS c r.1∧(a = -1→IK c s r.1)∧(∀ (i:Nat) (x:aV),a=(i:Int)→c.aK[i]?=some x→IJ c i x s r.1)):=by
 have ho:=hc.off.lt (by omega:0 < 8)
 have sm:=qn ho hv.cv
 have s1:=sm.aC
 have s2:=sm.aK
 have s3:=sm.aB
 have sd:=sm.aJ
 have CF:=hv.lh
 have EE:=hv.lu
 have Uq:=hv.lm
 have rm:=hv.day
 have hmo:fC c s.aM:=⟨Uq,fun i k m hk hm=>hv.BC i k m hk hm⟩
 unfold cK
 have e1:decide (a < -1)=false:=decide_eq_false (by omega)
 have e2:decide ((c.aK.length:Int)≤a)=false:=decide_eq_false (by omega)
 refine ay.az (v:=false) (by rw [Zl c s hc,Xe hv,e1,e2];rfl) ?_
 refine ay.ite (fun h=>by cases h) (fun _ => ?_)
 refine ay.ite (fun h=>absurd (beq_iff_eq.1 h) (by omega)) (fun _ => ?_)
 refine ay.az (kh (show s.aC.length < 1000 by omega) (by omega)) ?_
 refine ay.az (kh (show s.used.length < 1000 by omega) (by omega)) ?_
 refine ay.az (kh (show s.aM.length < 1000 by omega) (by omega)) ?_
 refine ay.az (WA (by simp) rfl) ?_
 refine ay.az (WA (by simp) rfl) ?_
 refine ay.az (WA (by simp) rfl) ?_
 cases ht:(a == (-1:Int)) with
 | true=>
  have ha:=beq_iff_eq.1 ht
  simp only [bL]
  rw [T9 c s.day s.aC s.used s.aM ho hv.cv hmo (by omega)]
  have EF:fC c (s.aM.mapIdx (dB c (qV (jK c.off s.day).isSome))):=hmo.mapIdx _ fun i k m hk h=>IC _ (jd ho hv.cv hk) (by have:=sm.aN;omega) h
  refine ay.bind (P:=fun v:List Int×List Bool×List aq×Int=>v.1=s.aC∧v.2.1=s.used∧v.2.2.2=s.day+1∧cz c s.aC (s.aM.mapIdx (dB c (qV (jK c.off s.day).isSome))) v.2.2.1)
   (ay.bind (Xh c (s.day+1) s.aC s.used _ ho hv.cv CF hv.hold EF) fun r hr=>ay.some ⟨rfl,rfl,zZ (by omega) (by omega),hr⟩) ?_
  rintro ⟨v1,v2,v3,v4⟩ ⟨q1,q2,q3,q4⟩
  simp only at q1 q2 q3 q4
  subst q1;subst q2;subst q3
  have rB:s.aM.length=v3.length:=by have:=q4.ok.1;omega
  simp only [Q5,wk rB,aS]
  refine ay.some ⟨rfl,⟨hv.cv,⟨by show 0≤s.day+1;omega,by show s.day+1≤c.aJ;omega⟩,CF,EE,q4.ok.1,hv.hold,hv.used,q4.ok.2,q4.nr⟩,fun _=>⟨rfl,rfl,rfl,q4⟩,fun i x hi=>by omega⟩
 | false=>
  have ha:=beq_eq_false_iff_ne.1 ht
  obtain ⟨i,rfl⟩:∃ i:Nat,a=(i:Int):=⟨a.toNat,by omega⟩
  have hi:i < c.aK.length:=by omega
  have hx:=ua hi
  generalize c.aK[i]=x at hx
  have av:=Q4 hv.cv hx
  simp only [bM]
  rw [Ul c s.day s.aC s.used s.aM i x ho hv.cv CF EE hx hmo]
  have rp:i < s.used.length:=by omega
  cases gA:(!(x.kind == 1)&&s.used[i]?.getD false) with
  | true=>
   simp only [bL,aS,Q5]
   refine ay.some ⟨rfl,hv,fun h=>by omega,fun j y hj hy => ?_⟩
   obtain rfl:i=j:=by omega
   rw [hx] at hy;cases hy
   simp only [uc,uf,beq_eq_false_iff_ne,ua rp,uC] at gA
   exact .inl ⟨gA.1,by rw [ua rp,gA.2],rfl⟩
  | false=>
   simp only [bM]
   have Al:=av.kind
   have IL:(hs3 x s.aC).length=c.aC.length:=by unfold hs3;cases (x.kind == 1)<;>simp [CF]
   have Ur:(l8 i x s.used).length=c.aK.length:=by unfold l8;cases (x.kind == 1)<;>simp [EE]
   have IM:∀ h∈hs3 x s.aC,0≤h∧h < c.aN:=by
    unfold hs3
    cases hk1:(x.kind == 1) with
    | true=>exact hv.hold
    | false=>
     intro h hh
     have:=Al.resolve_left (beq_eq_false_iff_ne.1 hk1)
     rcases Uo hh with h' | h'
     ·exact hv.hold h h'
     ·omega
   have EG:∀ (j:Nat) (y:aV),c.aK[j]?=some y→(l8 i x s.used)[j]?=some true→y.kind≠1:=by
    unfold l8
    cases hk1:(x.kind == 1) with
    | true=>exact hv.used
    | false=>
     intro j y hy hj
     simp only [bM] at hj
     rw [uu] at hj
     by_cases hij:i=j
     ·subst hij
      rw [hx] at hy;cases hy
      exact beq_eq_false_iff_ne.1 hk1
     ·rw [if_neg hij] at hj;exact hv.used j y hy hj
   refine ay.bind (P:=fun v:List Int×List Bool×List aq×Int=>v.1=hs3 x s.aC∧v.2.1=l8 i x s.used∧v.2.2.2=s.day∧cz c (hs3 x s.aC) (nQ c i x s.aC s.aM) v.2.2.1)
    (ay.bind (P:=fun v:List Int×List Bool×List aq=>v.1=hs3 x s.aC∧v.2.1=l8 i x s.used∧cz c (hs3 x s.aC) (nQ c i x s.aC s.aM) v.2.2) (ay.bind (Xh c s.day _ (l8 i x s.used) _ ho hv.cv IL IM (IF ho hv.cv (by omega) av hmo)) fun r hr=>ay.some ⟨rfl,rfl,hr⟩) fun v BF=>ay.some ⟨BF.1,BF.2.1,rfl,BF.2.2⟩) ?_
   rintro ⟨v1,v2,v3,v4⟩ ⟨q1,q2,q3,q4⟩
   simp only at q1 q2 q3 q4
   subst q1;subst q2;subst q3
   have rB:s.aM.length=v3.length:=by have:=q4.ok.1;omega
   simp only [wk (show s.aC.length=(hs3 x s.aC).length by omega),wk (show s.used.length=(l8 i x s.used).length by omega),wk rB,aS]
   refine ay.some ⟨rfl,⟨hv.cv,rm,IL,Ur,q4.ok.1,IM,EG,q4.ok.2,q4.nr⟩,fun h=>by omega,fun j y hj hy => ?_⟩
   obtain rfl:i=j:=by omega
   rw [hx] at hy;cases hy
   refine .inr ⟨?_,rfl,rfl,rfl,q4⟩
   simp only [Bool.and_eq_false_iff,Bool.not_eq_false',beq_iff_eq,ua rp,uC] at gA
   rcases gA with h | h
   ·exact .inl h
   ·exact .inr (by rw [ua rp,h])
noncomputable def qi (c:ax) (s:bn) (a:Int):bn:=((cK c s a).getD (ED,1)).1
theorem jT {c:ax} {s:bn} {a:Int} (hc:c.Ok) (hv:VS c s) (h1 : -1≤a) (h2:a < c.aK.length) (hd:s.day < c.aJ) :
  cK c s a=some (qi c s a,0)∧VS c (qi c s a)∧(a = -1→IK c s (qi c s a))∧(∀ (i:Nat) (x:aV),a=(i:Int)→c.aK[i]?=some x→IJ c i x s (qi c s a)):=by
 obtain ⟨⟨r1,r2⟩,e,h⟩:=Up hc hv h1 h2 hd
 have e2:qi c s a=r1:=by unfold qi;rw [e];rfl
 rw [e2,e]
 obtain ⟨h0,h⟩:=h
 simp only at h0 h
 subst h0
 exact ⟨rfl,h⟩
theorem kO {α:Type} [BEq α] [LawfulBEq α] {f:Nat→Unit→Option (Unit ⊕ Unit)} (a b:List α) (hl:a.length=b.length) (ha:a.length < 4611686018427387904) (h:∀ (i:Nat) (h1:i < a.length) (h2:i < b.length),f i ()=some (bif a[i] == b[i] then .inl () else .inr ())) :
  aG (a.length:Int) f ()=some (bif a == b then .inl () else .inr ()):=by
 rw [ZH (fun i=>a[i]? == b[i]?) ha (fun i hi=>by
  rw [h i hi (by omega),ua hi,ua (show i < b.length by omega)]
  show _=some (bif (some a[i] == some b[i]) then _ else _)
  rfl)]
 congr 2
 rw [uY,ul]
 constructor
 ·intro hh
  rw [beq_iff_eq]
  refine uJ fun i => ?_
  by_cases hi:i < a.length
  ·exact beq_iff_eq.1 (hh i (u6.2 hi))
  ·rw [uk (by omega),uk (by omega)]
 ·intro hh i _
  rw [beq_iff_eq.1 hh];exact beq_self_eq_true _
theorem XP {α:Type} (a b:List α):((a.length:Int) == (b.length:Int))=decide (a.length=b.length):=by
 by_cases h:a.length=b.length
 ·simp [h]
 ·simp only [h,decide_false];exact beq_eq_false_iff_ne.2 (by omega)
theorem Us (a b:List Int) (ha:a.length < 4611686018427387904):Cz a b=some (a == b):=by
 unfold Cz
 rw [XP]
 by_cases h:a.length=b.length
 ·simp only [h,decide_true,bL]
  rw [←h,kO a b h ha (fun i h1 h2=>by
   simp only [z7,ua h1,ua h2,aS,zx])]
  cases (a == b)<;>rfl
 ·simp only [h,decide_false,bM]
  have:a≠b:=fun e=>h (by rw [e])
  rw [beq_eq_false_iff_ne.2 this]
theorem Ut (a b:List Bool) (ha:a.length < 4611686018427387904):CA a b=some (a == b):=by
 unfold CA
 rw [XP]
 by_cases h:a.length=b.length
 ·simp only [h,decide_true,bL]
  rw [←h,kO a b h ha (fun i h1 h2=>by
   simp only [z7,ua h1,ua h2,aS,zx])]
  cases (a == b)<;>rfl
 ·simp only [h,decide_false,bM]
  have:a≠b:=fun e=>h (by rw [e])
  rw [beq_eq_false_iff_ne.2 this]
instance:BEq aq:=⟨fun a b=>(a.aH == b.aH)&&((a.left == b.left)&&((a.got == b.got)&&((a.bg == b.bg)&&((a.aT == b.aT)&&true))))⟩
instance:LawfulBEq aq where
 eq_of_beq {a b} h:=by
  have h':((a.aH == b.aH)&&((a.left == b.left)&&((a.got == b.got)&&((a.bg == b.bg)&&((a.aT == b.aT)&&true)))))=true:=h
  simp only [uc,beq_iff_eq,and_true] at h'
  obtain ⟨h1,h2,h3,h4,h5⟩:=h'
  cases a;cases b;simp_all
 rfl {a}:=by
  show ((a.aH == a.aH)&&((a.left == a.left)&&((a.got == a.got)&&((a.bg == a.bg)&&((a.aT == a.aT)&&true)))))=true
  simp
theorem Uu (a b:List aq) (ha:a.length < 4611686018427387904):CB a b=some (a == b):=by
 unfold CB
 rw [XP]
 by_cases h:a.length=b.length
 ·simp only [h,decide_true,bL]
  rw [←h,kO a b h ha (fun i h1 h2=>by
   simp only [z7,ua h1,ua h2,aS,zx];rfl)]
  cases (a == b)<;>rfl
 ·simp only [h,decide_false,bM]
  have:a≠b:=fun e=>h (by rw [e])
  rw [beq_eq_false_iff_ne.2 this]
def xM (a b:bn):Bool:=a.day == b.day&&(a.aC == b.aC&&(a.used == b.used&&a.aM == b.aM))
theorem KJ {a b:bn}:xM a b=true↔a=b:=by
 unfold xM
 simp only [uc,beq_iff_eq]
 constructor
 ·rintro ⟨h1,h2,h3,h4⟩
  cases a;cases b;simp_all
 ·rintro rfl;exact ⟨rfl,rfl,rfl,rfl⟩
theorem YC (a b:bn) (h1:a.aC.length < 4611686018427387904) (h2:a.used.length < 4611686018427387904) (h3:a.aM.length < 4611686018427387904):xz a b=some (xM a b):=by
 unfold xz xM
 rw [Us _ _ h1,Ut _ _ h2,Uu _ _ h3]
 simp only [aS,zx,uA]
theorem VS.rq {c:ax} {s:bn} (hc:c.Ok) (h:VS c s):s.aC.length≤12∧s.used.length≤60∧s.aM.length≤400:=by
 have sm:=qn (hc.off.lt (by omega)) h.cv
 have:=sm.aC
 have:=sm.aK
 have:=sm.aB
 have:=h.lh
 have:=h.lu
 have:=h.lm
 omega
theorem Q6 {c:ax} {s:bn} (hc:c.Ok) (h:VS c s):xo s=some s:=by
 have:=h.rq hc
 unfold xo
 rw [kg (by omega),kg (by omega),kg (by omega)]
 rfl
noncomputable def vU (c:ax) (zw:Int) (s:bn):Bool:=decide (0≤zw)&&(decide (zw < c.aN)&&tG c s)
theorem kC {c:ax} (hc:c.Ok) (zw:Int) (p:aA):xj c zw p=some (vU c zw p.state):=by
 unfold xj vU
 rw [Zl c _ hc]
 simp only [aS,zx,uA]
theorem wl {c:ax} {zw:Int} {s:bn}:vU c zw s=true↔0≤zw∧zw < c.aN∧VS c s:=by
 simp only [vU,uc,decide_eq_true_eq]
 exact ⟨fun ⟨a,b,d⟩=>⟨a,b,Iy d⟩,fun ⟨a,b,d⟩=>⟨a,b,Xe d⟩⟩
noncomputable def mT (c:ax) (zw:Int) (p:aA) (i:Nat):Bool:=match c.aK[i]? with
 | some a=>((z6 p.state.aC a == zw) == p.own) && !xM (qi c p.state i) p.state
 | none=>false
noncomputable def qQ (c:ax) (zw:Int) (p:aA) (n:Nat):List Int:=((Ub n).filter (mT c zw p)).map fun i:Nat=>(i:Int)
noncomputable def zn (c:ax) (zw:Int) (p:aA):List Int:=
 (bif p.own then [-2] else [])++(bif decide (c.aJ≤p.state.day) then [] else (bif p.own then [] else [-1])++qQ c zw p c.aK.length)
noncomputable def target (c:ax) (p:aA) (move:Int):aA:=if move = -2 then {state:=p.state,own:=false} else {state:=qi c p.state move,own:=true}
theorem xN (c:ax) (zw:Int) (p:aA) (n:Nat):qQ c zw p (n+1)=qQ c zw p n++(bif mT c zw p n then [(n:Int)] else []):=by
 unfold qQ
 rw [List.range_succ,List.filter_append,List.map_append]
 congr 1
 cases h:mT c zw p n<;>simp [h]
theorem Xi (c:ax) (zw:Int) (p:aA) (n:Nat):(qQ c zw p n).length≤n:=by
 unfold qQ
 rw [uZ]
 have:=List.length_filter_le (mT c zw p) (Ub n)
 simpa using this
theorem WB {c:ax} {s:bn} {a:aV} (hv:VS c s) (av:EA c a):(bif a.bW == (-1) then some (-1) else (ui (zf s.aC a.bW) fun e2=>some e2))=some (z6 s.aC a):=by
 unfold z6
 cases hr:(a.bW == (-1:Int)) with
 | true=>rfl
 | false=>
  have h1:=beq_eq_false_iff_ne.1 hr
  have:=av.bW
  have:=hv.lh
  obtain ⟨h2,h3⟩:=jg (l:=s.aC) (n:=a.bW) (by omega) (by omega)
  rw [h3,ua h2];rfl
theorem wY {c:ax} {zw:Int} {p:aA} {n:Nat} {x:Int}:x∈qQ c zw p n↔∃ i:Nat,i < n∧mT c zw p i=true∧x=(i:Int):=by
 unfold qQ
 simp only [u9,List.mem_filter,u6]
 constructor
 ·rintro ⟨i,⟨a,b⟩,rfl⟩;exact ⟨i,a,b,rfl⟩
 ·rintro ⟨i,a,b,rfl⟩;exact ⟨i,⟨a,b⟩,rfl⟩
theorem jj {c:ax} {zw:Int} {p:aA} {x:Int}:x∈zn c zw p↔(p.own=true∧x = -2)∨(p.state.day < c.aJ∧p.own=false∧x = -1)∨(p.state.day < c.aJ∧∃ i:Nat,i < c.aK.length∧mT c zw p i=true∧x=(i:Int)):=by
 unfold zn
 by_cases hd:c.aJ≤p.state.day
 ·have:¬ p.state.day < c.aJ:=by omega
  simp only [hd,decide_true,bL,uF,this,false_and,or_false]
  cases p.own<;>simp
 ·have:p.state.day < c.aJ:=by omega
  simp only [hd,decide_false,bM,ud,wY,this,true_and]
  cases p.own<;>simp
theorem Uv (c:ax) (zw:Int) (p:aA) (n:Nat):(qQ c zw p n).Pairwise (· < ·):=by
 unfold qQ
 refine List.Pairwise.map _ (R:=fun a b:Nat=>a < b) (fun a b h=>by omega) ?_
 exact List.Pairwise.filter _ List.pairwise_lt_range
theorem Uw (c:ax) (zw:Int) (p:aA):(zn c zw p).Pairwise (· < ·):=by
 unfold zn
 refine uQ.2 ⟨by cases p.own<;>simp,?_,?_⟩
 ·cases decide (c.aJ≤p.state.day) with
  | true=>exact List.Pairwise.nil
  | false=>
   refine uQ.2 ⟨by cases p.own<;>simp,Uv c zw p _,fun a ha b hb => ?_⟩
   obtain ⟨i,_,_,rfl⟩:=wY.1 hb
   cases hp:p.own with
   | true=>rw [hp] at ha;simp at ha
   | false=>rw [hp] at ha;simp at ha;omega
 ·intro a ha b hb
  cases hp:p.own with
  | false=>rw [hp] at ha;simp at ha
  | true=>
   rw [hp] at ha hb
   simp at ha
   cases hd:decide (c.aJ≤p.state.day) with
   | true=>rw [hd] at hb;simp at hb
   | false=>
    rw [hd] at hb
    simp only [bM,bL,uG] at hb
    obtain ⟨i,_,_,rfl⟩:=wY.1 hb
    omega
def Ux:aA:={state:=ED,own:=false}
def VK (s:bn):Int×List Int×List Bool×List aq:=(s.day,s.aC,s.used,s.aM)
theorem Uy (m:Int):((-2:Int) == m)=decide (m = -2):=by
 by_cases h:m = -2
 ·subst h;rfl
 ·rw [decide_eq_false h];exact beq_eq_false_iff_ne.2 (fun e=>h e.symm)
theorem Uz (m:Int):((-1:Int) == m)=decide (m = -1):=by
 by_cases h:m = -1
 ·subst h;rfl
 ·rw [decide_eq_false h];exact beq_eq_false_iff_ne.2 (fun e=>h e.symm)
def VL (c:ax) (n:Int):Bool:=
 !(decide (20 < (c.aC.length:Int))||(decide (30 < (c.bk.length:Int))||(decide (70 < (c.aK.length:Int))||(decide (n < (c.aB.length:Int))||decide (100 < (c.off.length:Int))))))&&c.aB.all (fun k=>!decide (20 < (k.start.length:Int)))
theorem UA (c:ax) (n:Int) (hc:c.aB.length < 4611686018427387904):ZF c n=some (VL c n):=by
 unfold ZF VL
 rw [wj (l:=c.aB) (fun k=>!decide (20 < (k.start.length:Int))) hc (fun i hi=>by
  simp only [z7,ua hi,aS]
  cases decide (20 < (c.aB[i].start.length:Int))<;>rfl)]
 simp only [zx,aS,Bool.cond_true_left]
 cases (decide (20 < (c.aC.length:Int))||(decide (30 < (c.bk.length:Int))||(decide (70 < (c.aK.length:Int))||(decide (n < (c.aB.length:Int))||decide (100 < (c.off.length:Int)))))) <;>
  cases c.aB.all (fun k=>!decide (20 < (k.start.length:Int)))<;>rfl
def CG (c:ax):Bool:=VL c 6&&(decide ((c.aK.length:Int)≤8)&&decide (c.aJ≤20))
theorem UB {c:ax} (hc:c.Ok):VA c=some (CG c):=by
 unfold VA CG
 rw [UA c 6 (hc.aB.lt (by omega))]
 simp only [zx,aS,uA]
theorem yM {d:Nat} (h:d < 10):(UInt8.ofNat (48+d)).toNat=48+d:=by
 rw [UInt8.toNat_ofNat'];omega
theorem Xj:∀ (u:Nat),∀ b∈Lib.decDigits u,48≤b.toNat∧b.toNat≤57:=by
 intro u
 induction u using u0 with
 | _ u ih=>
  intro b hb
  rw [Lib.decDigits] at hb
  by_cases h:u < 10
  ·rw [dif_pos h] at hb
   simp only [ue] at hb
   subst hb
   rw [yM h];omega
  ·rw [dif_neg h] at hb
   rcases ud.1 hb with hb | hb
   ·exact ih (u / 10) (by omega) b hb
   ·simp only [ue] at hb
    subst hb
    rw [yM (by omega)];omega
def Xk (l:List UInt8):Nat:=l.foldl (fun a b=>a*10+(b.toNat - 48)) 0
theorem kD:∀ (u:Nat),Xk (Lib.decDigits u)=u:=by
 intro u
 induction u using u0 with
 | _ u ih=>
  rw [Lib.decDigits]
  by_cases h:u < 10
  ·rw [dif_pos h]
   simp only [Xk,u4,u7,yM h];omega
  ·rw [dif_neg h]
   have:=ih (u / 10) (by omega)
   unfold Xk at this ⊢
   rw [List.foldl_append,this]
   simp only [u4,u7,yM (show u % 10 < 10 by omega)];omega
theorem UC {a b:Int} (h:Lib.itoa a=Lib.itoa b):a=b:=by
 have key:∀ (u v:Nat),45::Lib.decDigits u=Lib.decDigits v→False:=by
  intro u v h
  have:=Xj v 45 (by rw [←h];exact um)
  have e:(45:UInt8).toNat=45:=rfl
  omega
 unfold Lib.itoa at h
 by_cases ha:a < 0
 ·by_cases hb:b < 0
  ·rw [if_pos ha,if_pos hb] at h
   have h1:=congrArg Xk (List.cons.inj h).2
   rw [kD,kD] at h1
   omega
  ·rw [if_pos ha,if_neg hb] at h
   exact (key _ _ h).elim
 ·by_cases hb:b < 0
  ·rw [if_neg ha,if_pos hb] at h
   exact (key _ _ h.symm).elim
  ·rw [if_neg ha,if_neg hb] at h
   have h1:=congrArg Xk h
   rw [kD,kD] at h1
   omega
theorem KL (n:Int):∀ b∈Lib.itoa n,b≠32:=by
 intro b hb e
 subst e
 have e:(32:UInt8).toNat=32:=rfl
 unfold Lib.itoa at hb
 split at hb
 ·rcases uz.1 hb with h | h
  ·exact absurd h (by decide)
  ·have:=Xj _ _ h;omega
 ·have:=Xj _ _ hb;omega
def PI {α:Type} (f:α→List UInt8):Prop:=∀ (a b:α) (xs ys:List UInt8),f a++xs=f b++ys→a=b∧xs=ys
theorem IN:∀ {a b xs ys:List UInt8},(∀ x∈a,x≠32)→(∀ x∈b,x≠32)→a++32::xs=b++32::ys→a=b∧xs=ys
 | [],[],xs,ys,_,_,h=>⟨rfl,(List.cons.inj h).2⟩
 | [],y::b,xs,ys,_,hb,h=>absurd (List.cons.inj h).1.symm (hb y um)
 | x::a,[],xs,ys,ha,_,h=>absurd (List.cons.inj h).1 (ha x um)
 | x::a,y::b,xs,ys,ha,hb,h=>by
  obtain ⟨h1,h2⟩:=List.cons.inj h
  obtain ⟨h3,h4⟩:=IN (a:=a) (b:=b) (fun z hz=>ha z (ur _ hz)) (fun z hz=>hb z (ur _ hz)) h2
  exact ⟨by rw [h1,h3],h4⟩
theorem Qm:PI qa:=fun a b xs ys h=>by
 unfold qa at h
 rw [ug,ug] at h
 obtain ⟨h1,h2⟩:=IN (KL a) (KL b) h
 exact ⟨UC h1,h2⟩
theorem YD:PI qE:=fun a b xs ys h=>by
 unfold qE at h
 obtain ⟨h1,h2⟩:=List.cons.inj h
 refine ⟨?_,h2⟩
 cases a<;>cases b<;>first | rfl | exact absurd h1 (by decide)
theorem UD:PI xu:=fun a b xs ys h=>by
 unfold xu at h
 simp only [ug] at h
 obtain ⟨h1,h⟩:=Qm _ _ _ _ h
 obtain ⟨h2,h⟩:=Qm _ _ _ _ h
 obtain ⟨h3,h⟩:=Qm _ _ _ _ h
 obtain ⟨h4,h⟩:=Qm _ _ _ _ h
 obtain ⟨h5,h6⟩:=YD _ _ _ _ h
 refine ⟨?_,h6⟩
 clear h6 h
 cases a;cases b
 simp only at h1 h2 h3 h4 h5
 subst h1;subst h2;subst h3;subst h4;subst h5
 rfl
theorem XQ {α:Type} {f:α→List UInt8} (hf:PI f):∀ {l m:List α} {xs ys:List UInt8},l.length=m.length→l.flatMap f++xs=m.flatMap f++ys→l=m∧xs=ys
 | [],[],_,_,_,h=>⟨rfl,h⟩
 | [],_::_,_,_,hl,_=>by simp at hl
 | _::_,[],_,_,hl,_=>by simp at hl
 | a::l,b::m,xs,ys,hl,h=>by
  rw [uK,uK,ug,ug] at h
  obtain ⟨h1,h⟩:=hf _ _ _ _ h
  obtain ⟨h2,h⟩:=XQ hf (by simpa using hl) h
  exact ⟨by rw [h1,h2],h⟩
theorem UE {c:ax} {p q:aA} (hp:VS c p.state) (hq:VS c q.state) (h:qu p=qu q):p=q:=by
 unfold qu at h
 simp only [ug] at h
 obtain ⟨h1,h⟩:=YD _ _ _ _ h
 obtain ⟨h2,h⟩:=Qm _ _ _ _ h
 obtain ⟨h3,h⟩:=XQ Qm (by rw [hp.lh,hq.lh]) h
 obtain ⟨h4,h⟩:=XQ YD (by rw [hp.lu,hq.lu]) h
 have h5:=(XQ (l:=p.state.aM) (m:=q.state.aM) (xs:=[]) (ys:=[]) UD (by rw [hp.lm,hq.lm]) (by rw [uF,uF];exact h)).1
 clear h
 obtain ⟨⟨d,hs,us,ms⟩,o⟩:=p
 obtain ⟨⟨d',hs',us',ms'⟩,o'⟩:=q
 simp only at h1 h2 h3 h4 h5
 subst h1;subst h2;subst h3;subst h4;subst h5;rfl
theorem Q7 {α:Type} {f:α→List UInt8} {b:Nat}:∀ {l:List α},(∀ a∈l,(f a).length≤b)→(l.flatMap f).length≤l.length*b
 | [],_=>by simp
 | a::l,h=>by
  have h1:=h a um
  have h2:=Q7 (f:=f) (b:=b) (l:=l) fun x hx=>h x (ur _ hx)
  rw [uK,un,uo,Nat.succ_mul];omega
theorem UF {c:ax} {i:Nat} {k:aL} {m:aq} (kv:KV c i k) (hp:c.aN≤12) (h:qP c.aN k m=true):(0≤m.aH∧m.aH≤5)∧(0≤m.left∧m.left≤400)∧(0≤m.got∧m.got≤9)∧(-1≤m.bg∧m.bg≤12):=by
 have hn:=kv.need
 rcases j7.1 h with ⟨h0,_,h1⟩ | ⟨h0,h1,h2⟩ | ⟨h0,h1,h2,h3⟩ | ⟨h0,h1⟩
 ·simp only [VI,uc,beq_iff_eq] at h1
  omega
 ·have hr:zA m=true:=by simp [zA,h0]
  obtain ⟨rv,_,_⟩:=xA kv h hr
  have:=rv.left;have:=rv.got;have:=rv.bg
  omega
 ·have hr:zA m=true:=by simp [zA,h0]
  obtain ⟨rv,_,_⟩:=xA kv h hr
  have:=rv.left;have:=rv.got;have:=rv.bg
  omega
 ·simp only [CC,uc,beq_iff_eq,decide_eq_true_eq] at h1
  omega
theorem yu {n:Int} (h0 : -1000000≤n) (h1:n≤1000000):wa n=true:=by
 simp only [wa,uc,decide_eq_true_eq];omega
theorem kP {n:Int} (h0 : -1000000≤n) (h1:n≤1000000):(qa n).length≤22:=by
 have:=Lib.itoa_length_le n (by omega) (by omega)
 simp only [qa,un,uo,uv];omega
def txt (p:aA):ByteArray:=⟨(qu p).toArray⟩
theorem YE {c:ax} {p q:aA} (hp:VS c p.state) (hq:VS c q.state) (h:txt p=txt q):p=q:=by
 refine UE hp hq ?_
 unfold txt at h
 have h2:=congrArg (fun b:ByteArray=>b.data.toList) h
 simpa using h2
theorem Xl {c:ax} (hc:c.Ok) {p:aA} (hp:VS c p.state):jc p=some (txt p):=by
 have ho:=hc.off.lt (by omega:0 < 8)
 have sm:=qn ho hp.cv
 have hpa:=sm.aN
 have hda:=sm.aJ
 have rm:=hp.day
 have hf:=hp.rq hc
 have hh:∀ h∈p.state.aC,-1000000≤h∧h≤1000000:=fun h hh=>by have:=hp.hold h hh;omega
 have hm:∀ m∈p.state.aM,(0≤m.aH∧m.aH≤5)∧(0≤m.left∧m.left≤400)∧(0≤m.got∧m.got≤9)∧(-1≤m.bg∧m.bg≤12):=fun m hm=>by
  obtain ⟨i,hi,rfl⟩:=List.getElem_of_mem hm
  have hk:=ua (show i < c.aB.length by have:=hp.lm;omega)
  exact UF (jd ho hp.cv hk) (by omega) (hp.BC i _ _ hk (ua hi))
 have hlen:(qu p).length≤1000000000:=by
  have h1:=kP (n:=p.state.day) (by omega) (by omega)
  have h2:=Q7 (f:=qa) (b:=22) (l:=p.state.aC) fun h AS=>kP (hh h AS).1 (hh h AS).2
  have h3:=Q7 (f:=qE) (b:=1) (l:=p.state.used) fun _ _=>by simp [qE]
  have h4:=Q7 (f:=xu) (b:=89) (l:=p.state.aM) fun m hm'=>by
   have:=hm m hm'
   have a1:=kP (n:=m.aH) (by omega) (by omega)
   have a2:=kP (n:=m.left) (by omega) (by omega)
   have a3:=kP (n:=m.got) (by omega) (by omega)
   have a4:=kP (n:=m.bg) (by omega) (by omega)
   simp only [xu,qE,un,uo,uv];omega
  simp only [qu,un]
  have:(qE p.own).length=1:=rfl
  omega
 have hok:rQ p=true:=by
  simp only [rQ,uc,decide_eq_true_eq,ul]
  refine ⟨⟨⟨yu (by omega) (by omega),fun x hx=>yu (hh x hx).1 (hh x hx).2⟩,fun m hm' => ?_⟩,hlen⟩
  have:=hm m hm'
  exact ⟨⟨⟨yu (by omega) (by omega),yu (by omega) (by omega)⟩,yu (by omega) (by omega)⟩,yu (by omega) (by omega)⟩
 unfold jc txt
 rw [if_pos hok]
instance:BEq aA:=⟨fun a b=>a.own == b.own&&xM a.state b.state⟩
instance:LawfulBEq aA where
 eq_of_beq {a b} h:=by
  have h':(a.own == b.own&&xM a.state b.state)=true:=h
  simp only [uc,beq_iff_eq,KJ] at h'
  obtain ⟨h1,h2⟩:=h'
  cases a;cases b;simp_all
 rfl {a}:=by
  show (a.own == a.own&&xM a.state a.state)=true
  simp [KJ.2 rfl]
noncomputable instance:DecidableEq aA:=fun a b=>if h:(a == b)=true then isTrue (eq_of_beq h) else isFalse fun e=>h (beq_iff_eq.2 e)
def Qn (q:aA) (L:List aA):Option Int:=if q∈L then some (L.idxOf q:Int) else none
def visit (L:List aA) (q:aA):Option (Int×List aA):=if q∈L then some ((L.idxOf q:Int),L) else if L.length=1500 then none else some ((L.length:Int),L++[q])
def BI (L:List aA) (F:List (ByteArray×Int)) (q:aA):List (ByteArray×Int):=if q∈L then F else zO (txt q) (L.length:Int) F
def mU (c:ax) (F:List (ByteArray×Int)) (L:List aA):Prop:=∀ q:aA,VS c q.state→zr (txt q) F=Qn q L
theorem qz {α β:Type} [DecidableEq α] (k:α) (v:β):∀ l:List (α×β),zr k (zO k v l)=some v
 | []=>by simp [zO,zr]
 | (k',v')::r=>by
  unfold zO
  split
  ·simp [zr]
  ·rename_i h;simp only [zr,h,if_false];exact qz k v r
theorem je {α β:Type} [DecidableEq α] {k k2:α} (v:β) (h:k2≠k):∀ l:List (α×β),zr k2 (zO k v l)=zr k2 l
 | []=>by simp [zO,zr,h]
 | (k',v')::r=>by
  unfold zO
  split
  ·rename_i e;subst e;simp only [zr,h,if_false]
  ·by_cases h2:k2=k'
   ·simp only [zr,h2,if_true]
   ·simp only [zr,h2,if_false];exact je v h r
theorem UG {q q':aA} {L:List aA} (hq:q ∉ L):Qn q' (L++[q])=if q'=q then some (L.length:Int) else Qn q' L:=by
 unfold Qn
 by_cases h:q'=q
 ·subst h
  rw [if_pos (by simp),if_pos rfl,uU,if_neg hq]
  simp
 ·rw [if_neg h]
  by_cases hm:q'∈L
  ·rw [if_pos (by simp [hm]),if_pos hm,uU,if_pos hm]
  ·rw [if_neg (by simp [hm,h]),if_neg hm]
theorem mU.visit {c:ax} {F:List (ByteArray×Int)} {L L':List aA} {q:aA} {to:Int} (h:mU c F L) (hq:VS c q.state) (hv:visit L q=some (to,L')):mU c (BI L F q) L':=by
 unfold Go.Proofs.YtcmmhbmgpflmeaaGreatDoor.visit at hv
 unfold BI
 by_cases hm:q∈L
 ·rw [if_pos hm] at hv ⊢; cases hv;exact h
 ·rw [if_neg hm] at hv ⊢
  split at hv
  ·cases hv
  ·cases hv
   intro q' rT
   rw [UG hm]
   by_cases e:q'=q
   ·subst e;rw [qz,if_pos rfl]
   ·rw [je _ (fun h2=>e (YE rT hq h2)),if_neg e,h q' rT]
theorem UH {c:ax} {F:List (ByteArray×Int)} {L:List aA} {q:aA} (h:mU c F L) (hq:VS c q.state) (hl:L.length≤1500) :
  (bif ((zr (txt q) F).isSome) then some (.inl (((zr (txt q) F).getD 0),L,F)) else (bif ((L.length:Int) == 1500) then some (.inr ()) else (ui (zN (α:=aA) 88 L [q]) fun e2=>some (.inl ((L.length:Int),e2,(zO (txt q) (L.length:Int) F)))))) =
   some (match visit L q with | some (to,L')=>(.inl (to,L',BI L F q):(Int×(List aA)×(List (ByteArray×Int))) ⊕ Unit) | none=>.inr ()):=by
 rw [h q hq]
 unfold Qn visit BI
 by_cases hm:q∈L
 ·simp only [hm,if_true,Option.isSome_some,bL,uC]
 ·simp only [hm,if_false,Option.isSome_none,bM]
  by_cases h2:L.length=1500
  ·have:((L.length:Int) == 1500)=true:=beq_iff_eq.2 (by omega)
   simp only [h2,if_true];rfl
  ·have:((L.length:Int) == 1500)=false:=beq_eq_false_iff_ne.2 (by omega)
   simp only [h2,if_false,this,bM]
   rw [jo (by simp;omega)];rfl
noncomputable def xB (c:ax) (e:aA):List Int→List aA×List bA→Option (List aA×List bA)
 | [],s=>some s
 | m::ms,(L,K)=>match visit L (target c e m) with
  | none=>none
  | some (to,L')=>xB c e ms (L',K++[{step:=m,to:=to}])
theorem ZR (c:ax) (e:aA):∀ (a b:List Int) (s:List aA×List bA),xB c e (a++b) s=(xB c e a s).bind (xB c e b)
 | [],b,s=>rfl
 | m::a,b,(L,K)=>by
  simp only [uX,xB]
  cases visit L (target c e m) with
  | none=>rfl
  | some x=>exact ZR c e a b _
def WC:Nat→List bA→Option Nat
 | n,[]=>some n
 | n,t::r=>if 0≤t.to∧t.to≤(n:Int) then WC (if t.to=(n:Int) then n+1 else n) r else none
def ki:Nat→Nat→List (List bA)→Option Nat
 | i,n,[]=>some n
 | i,n,l::r=>if i < n then (WC n l).bind fun n'=>ki (i+1) n' r else none
theorem Wg (l:List bA):∀ (M:List (List bA)) (i n:Nat),ki i n (M++[l])=(ki i n M).bind fun n'=>if i+M.length < n' then WC n' l else none
 | [],i,n=>by
  simp only [uG,ki,aS,uv,Nat.add_zero]
  split
  ·cases WC n l<;>rfl
  ·rfl
 | x::M,i,n=>by
  simp only [uX,ki,uo]
  split
  ·cases WC n x with
   | none=>rfl
   | some n'=>
    simp only [aS]
    rw [Wg l M (i+1) n',show i+1+M.length=i+(M.length+1) by omega]
  ·rfl
inductive n6 (c:ax) (zw:Int) (p0:aA):aA→Prop where
 | base:n6 c zw p0 p0
 | step {q:aA} {m:Int} (h:n6 c zw p0 q) (hm:m∈zn c zw q):n6 c zw p0 (target c q m)
theorem vC {c:ax} (hc:c.Ok) {zw:Int} {e:aA} {m:Int} (he:VS c e.state) (hm:m∈zn c zw e):VS c (target c e m).state:=by
 unfold target
 by_cases h2:m = -2
 ·rw [if_pos h2];exact he
 ·rw [if_neg h2]
  rcases jj.1 hm with h | ⟨hd,_,rfl⟩ | ⟨hd,i,hi,_,rfl⟩
  ·exact absurd h.2 h2
  ·exact (jT hc he (by omega) (by omega) hd).2.1
  ·exact (jT hc he (by omega) (by omega) hd).2.1
structure gR (c:ax) (zw:Int) (p0:aA) (L:List aA):Prop where
 vs:∀ q∈L,VS c q.state
 nd:L.Nodup
 EH:∀ q∈L,n6 c zw p0 q
 len:L.length≤1500
theorem KM {c:ax} {zw:Int} {p0 q:aA} {L L':List aA} {to:Int} (h:gR c zw p0 L) (hq:VS c q.state) (hr:n6 c zw p0 q) (hv:visit L q=some (to,L')) :
  gR c zw p0 L'∧(∃ r,L'=L++r)∧0≤to∧L'[to.toNat]?=some q∧to≤(L.length:Int)∧L'.length=(if to=(L.length:Int) then L.length+1 else L.length):=by
 unfold visit at hv
 by_cases hm:q∈L
 ·rw [if_pos hm] at hv;cases hv
  have hi:=List.idxOf_lt_length_iff.2 hm
  refine ⟨h,⟨[],by simp⟩,by omega,?_,by omega,by rw [if_neg (by omega)]⟩
  rw [uV,ua hi,List.getElem_idxOf hi]
 ·rw [if_neg hm] at hv
  split at hv
  ·cases hv
  ·rename_i hl
   cases hv
   have hlen:=h.len
   refine ⟨⟨fun x hx => ?_,?_,fun x hx => ?_,by simp;omega⟩,⟨[q],rfl⟩,by omega,by simp,Ua _,by simp⟩
   ·rcases ud.1 hx with hx | hx
    ·exact h.vs x hx
    ·rw [ue.1 hx];exact hq
   ·exact List.nodup_append.2 ⟨h.nd,by simp,fun a ha b hb=>by rw [ue.1 hb];exact fun e=>hm (e ▸ ha)⟩
   ·rcases ud.1 hx with hx | hx
    ·exact h.EH x hx
    ·rw [ue.1 hx];exact hr
theorem UI {L:List aA} {q:aA} (hv:visit L q=none):q ∉ L:=by
 unfold visit at hv
 split at hv
 ·cases hv
 ·assumption
theorem UJ {L:List aA} {q:aA} (hv:visit L q=none):L.length=1500:=by
 unfold visit at hv
 split at hv
 ·cases hv
 ·split at hv
  ·rename_i h;exact h
  ·cases hv
def l9 (c:ax) (zw:Int) (L:List aA) (e:aA) (ms:List Int) (T:List bA):Prop:=T.map (·.step)=ms∧∀ t∈T,0≤t.to∧L[t.to.toNat]?=some (target c e t.step)
theorem XR {α:Type} {L r:List α} {i:Nat} {x:α} (h:L[i]?=some x):(L++r)[i]?=some x:=by
 rw [uj (ub.1 h).1];exact h
theorem l9.app {c:ax} {zw:Int} {L:List aA} {e:aA} {ms:List Int} {T:List bA} (h:l9 c zw L e ms T) (r:List aA):l9 c zw (L++r) e ms T:=
 ⟨h.1,fun t ht=>⟨(h.2 t ht).1,XR (h.2 t ht).2⟩⟩
theorem WD {c:ax} (hc:c.Ok) {zw:Int} {p0 e:aA} (he:VS c e.state) (hr:n6 c zw p0 e):∀ (ms:List Int) (L L':List aA) (K K':List bA),(∀ m∈ms,m∈zn c zw e)→gR c zw p0 L→xB c e ms (L,K)=some (L',K') →
  gR c zw p0 L'∧(∃ r,L'=L++r)∧∃ T,K'=K++T∧l9 c zw L' e ms T∧WC L.length T=some L'.length
 | [],L,L',K,K',_,h,hp=>by
  cases hp
  exact ⟨h,⟨[],by simp⟩,[],by simp,⟨rfl,fun t ht=>by cases ht⟩,rfl⟩
 | m::ms,L,L',K,K',nN,h,hp=>by
  simp only [xB] at hp
  have hm:=nN m um
  cases hv:visit L (target c e m) with
  | none=>rw [hv] at hp;cases hp
  | some x=>
   obtain ⟨to,L1⟩:=x
   rw [hv] at hp
   obtain ⟨h1,⟨r1,e1⟩,t0,tq,tl,tn⟩:=KM h (vC hc he hm) (.step hr hm) hv
   obtain ⟨h2,⟨r2,e2⟩,T,eT,hT,Ap⟩:=WD hc he hr ms L1 L' _ K' (fun x hx=>nN x (ur _ hx)) h1 hp
   refine ⟨h2,⟨r1++r2,by rw [e2,e1,ug]⟩,{step:=m,to:=to}::T,by rw [eT];simp,⟨by simp [hT.1],fun t ht => ?_⟩,?_⟩
   ·rcases uz.1 ht with rfl | ht
    ·exact ⟨t0,by rw [e2];exact XR tq⟩
    ·exact hT.2 t ht
   ·simp only [WC]
    rw [if_pos ⟨t0,tl⟩,←tn];exact Ap
theorem KN {c:ax} (hc:c.Ok) {zw:Int} {p0 e:aA} (he:VS c e.state) (hr:n6 c zw p0 e):∀ (ms:List Int) (L:List aA) (K:List bA),(∀ m∈ms,m∈zn c zw e)→gR c zw p0 L→xB c e ms (L,K)=none →
  ∃ L1,gR c zw p0 L1∧L1.length=1500∧∃ q,n6 c zw p0 q∧q ∉ L1
 | [],L,K,_,h,hp=>by cases hp
 | m::ms,L,K,nN,h,hp=>by
  simp only [xB] at hp
  have hm:=nN m um
  cases hv:visit L (target c e m) with
  | none=>exact ⟨L,h,UJ hv,_,.step hr hm,UI hv⟩
  | some x=>
   obtain ⟨to,L1⟩:=x
   rw [hv] at hp
   obtain ⟨h1,_⟩:=KM h (vC hc he hm) (.step hr hm) hv
   exact KN hc he hr ms L1 _ (fun x hx=>nN x (ur _ hx)) h1 hp
abbrev XT:Type:=(List aA)×(List (ByteArray×Int))×(List bA)
def gB (c:ax) (zw:Int) (p0 e:aA) (L0:List aA) (ms:List Int) (x:XT):Prop:=xB c e ms (L0,[])=some (x.1,x.2.2)∧mU c x.2.1 x.1
theorem wn {c:ax} (hc:c.Ok) {zw:Int} {e:aA} (he:VS c e.state):(zn c zw e).length≤62:=by
 have sm:=qn (hc.off.lt (by omega)) he.cv
 have sa:=sm.aK
 have:=Xi c zw e c.aK.length
 unfold zn
 cases e.own<;>cases decide (c.aJ≤e.state.day)<;>simp<;>omega
theorem gB.facts {c:ax} (hc:c.Ok) {zw:Int} {p0 e:aA} {L0:List aA} {ms:List Int} {x:XT} (he:VS c e.state) (hr:n6 c zw p0 e) (hP:gR c zw p0 L0) (nN:∀ m∈ms,m∈zn c zw e) (h:gB c zw p0 e L0 ms x) :
  gR c zw p0 x.1∧x.2.2.length=ms.length:=by
 obtain ⟨h1,_,T,eT,hT,_⟩:=WD hc he hr ms L0 x.1 [] x.2.2 nN hP h.1
 refine ⟨h1,?_⟩
 rw [eT,uG,←hT.1,uZ]
theorem WE {c:ax} (hc:c.Ok) {zw:Int} {p0 e:aA} {L0:List aA} {ms:List Int} {m:Int} {L:List aA} {F:List (ByteArray×Int)} {K:List bA} {q:aA} (he:VS c e.state) (hr:n6 c zw p0 e) (hP:gR c zw p0 L0) (nN:∀ x∈ms,x∈zn c zw e) (hm:m∈zn c zw e) (hlen:ms.length≤100)
  (hq:q=target c e m) (h:gB c zw p0 e L0 ms (L,F,K)) {β:Type} {k:Int×(List aA)×(List (ByteArray×Int))→Option β} {z:Option β} {Q:β→Prop}
  (hk:∀ (to:Int) (L':List aA) (F':List (ByteArray×Int)),gB c zw p0 e L0 (ms++[m]) (L',F',K++[{step:=m,to:=to}])→zN (α:=bA) 16 K [({step:=m,to:=to}:bA)]=some (K++[{step:=m,to:=to}])→ay (k (to,L',F')) Q)
  (hz:xB c e (ms++[m]) (L0,[])=none→ay z Q) :
  ay (ui (jc q) fun r=>(ui (α:=(Int×(List aA)×(List (ByteArray×Int))) ⊕ Unit) (bif ((zr r F).isSome) then some (.inl (((zr r F).getD 0),L,F)) else (bif ((L.length:Int) == 1500) then some (.inr ()) else (ui (zN (α:=aA) 88 L [q]) fun e2=>some (.inl ((L.length:Int),e2,(zO r (L.length:Int) F)))))) (Sum.elim k (fun _=>z)))) Q:=by
 obtain ⟨UK,IP⟩:=h.facts hc he hr hP nN
 have Aq:VS c q.state:=by rw [hq];exact vC hc he hm
 refine ay.az (Xl hc Aq) ?_
 refine ay.az (UH h.2 Aq UK.len) ?_
 have ru:xB c e (ms++[m]) (L0,[])=(match visit L q with | none=>none | some (to,L')=>some (L',K++[{step:=m,to:=to}])):=by
  rw [ZR,h.1]
  simp only [aS,xB,hq]
  all_goals (cases visit L (target c e m)<;>rfl)
 cases hv:visit L q with
 | none=>
  rw [hv] at ru
  exact hz ru
 | some x=>
  obtain ⟨to,L'⟩:=x
  rw [hv] at ru
  refine hk to L' (BI L F q) ⟨ru,mU.visit h.2 Aq hv⟩ (jo ?_)
  simp only at IP
  rw [IP];simp;omega
theorem VM (c:ax) (zw:Int) (p:aA) {m n:Nat} (h:m≤n):∃ r,qQ c zw p n=qQ c zw p m++r:=by
 induction h with
 | refl=>exact ⟨[],by simp⟩
 | step _ ih=>
  obtain ⟨r,hr⟩:=ih
  rw [xN,hr]
  exact ⟨_,ug _ _ _⟩
theorem kq {c:ax} {e:aA} {a b:List Int} {s:List aA×List bA} (h:xB c e a s=none):xB c e (a++b) s=none:=by rw [ZR,h];rfl
structure fq (c:ax) (zw:Int) (p:aA) (L:List aA) (M:List (List bA)):Prop where
 inv:gR c zw p L
 first:L[0]?=some p
 len:M.length=L.length
 mv:∀ (j:Nat) (T:List bA) (e:aA),M[j]?=some T→L[j]?=some e→l9 c zw L e (zn c zw e) T
 lJ:ki 0 1 M=some L.length
def EI (c:ax) (zw:Int) (p:aA):Prop:=∃ L1,gR c zw p L1∧L1.length=1500∧∃ q,n6 c zw p q∧q ∉ L1
structure EJ (c:ax) (zw:Int) (p:aA) (s:Int×(List aA)×(List (List bA))×(List (ByteArray×Int))):Prop where
 i:s.1=(s.2.2.1.length:Int)
 le:s.2.2.1.length≤s.2.1.length
 inv:gR c zw p s.2.1
 rel:mU c s.2.2.2 s.2.1
 first:s.2.1[0]?=some p
 mv:∀ (j:Nat) (T:List bA) (e:aA),s.2.2.1[j]?=some T→s.2.1[j]?=some e→l9 c zw s.2.1 e (zn c zw e) T
 lJ:ki 0 1 s.2.2.1=some s.2.1.length
theorem UL {c:ax} (hc:c.Ok) {zw:Int} {p:aA} (eD:vU c zw p.state=true) :
  ay (xk c zw p) (fun r=>(r.2=0∧r.1.zw=zw∧fq c zw p r.1.aR r.1.bO)∨(r.2=3∧EI c zw p)):=by
 obtain ⟨mg,gb,hv⟩:=wl.1 eD
 have sm:=qn (hc.off.lt (by omega)) hv.cv
 have sa:=sm.aK
 unfold xk
 refine ay.az (by rw [kC hc,eD]) ?_
 refine ay.ite (fun _ => ?_) (fun h=>by cases h)
 refine ay.az (Q6 hc hv) ?_
 refine ay.az (Xl hc hv) ?_
 refine ay.bind (P:=fun o:((List aA)×(List (List bA))) ⊕ Unit=>(∃ L M,o=.inl (L,M)∧fq c zw p L M)∨(o=.inr ()∧EI c zw p)) ?_ ?_
 ·refine ay.bind (P:=fun o:((List aA)×(List (List bA))) ⊕ Unit=>(∃ L M,o=.inl (L,M)∧fq c zw p L M)∨(o=.inr ()∧EI c zw p)) (ay.iter (EJ c zw p) (fun s=>(1501 - s.1).toNat) ?_ ?_) ?_
  ·refine ⟨rfl,by simp,⟨fun q hq => ?_,by simp,fun q hq => ?_,by simp⟩,?_,rfl,fun j T e h=>by simp at h,rfl⟩
   ·rw [ue.1 hq];exact hv
   ·rw [ue.1 hq];exact .base
   ·intro q hq
    simp only [zO,zr,Qn,ue]
    by_cases e:q={state:=p.state,own:=p.own}
    ·subst e
     simp [List.idxOf_cons,txt]
    ·have e2:txt q≠txt p:=fun h=>e (YE hq hv h)
     rw [if_neg e2,if_neg e]
  ·rintro ⟨i,L,M,F⟩ ⟨hi,hle,hinv,hrel,tI,gS,iG⟩
   simp only at hi hle hinv hrel tI gS iG ⊢
   subst hi
   have hlen:=hinv.len
   refine ay.ite (fun hlt => ?_) (fun hge => ?_)
   ·have hlt:=of_decide_eq_true hlt
    have EK:M.length < L.length:=by omega
    have heq:=ua EK
    have hme:=ux EK
    have he:=hinv.vs _ hme
    have hr:=hinv.EH _ hme
    generalize L[M.length]=e at heq he hr
    have IQ:=wn hc (zw:=zw) he
    refine ay.bind (P:=fun o:XT ⊕ Unit=>(∃ x,o=.inl x∧gB c zw p e L (zn c zw e) x)∨(o=.inr ()∧xB c e (zn c zw e) (L,[])=none)) ?_ ?_
    ·refine ay.az (zt heq) ?_
     refine ay.az (x:=Vt c zw e) (v:=()) rfl ?_
     refine ay.bind (P:=fun o:XT ⊕ (Unit ⊕ XT)=>(∃ x,o=.inl x∧e.state.day < c.aJ∧gB c zw p e L (bif e.own then [-2] else []) x)∨(o=.inr (.inl ())∧xB c e (bif e.own then [-2] else []) (L,[])=none)∨(∃ x,o=.inr (.inr x)∧c.aJ≤e.state.day∧gB c zw p e L (bif e.own then [-2] else []) x)) ?_ ?_
     ·have hbase:gB c zw p e L [] (L,F,[]):=⟨rfl,hrel⟩
      cases ho:e.own with
      | false=>
       simp only [bM]
       refine ay.ite (fun hd=>ay.some (.inr (.inr ⟨_,rfl,of_decide_eq_true hd,hbase⟩))) (fun hd=>ay.some (.inl ⟨_,rfl,by have:=of_decide_eq_false hd;omega,hbase⟩))
      | true=>
       simp only [bL]
       refine ay.az (Q6 hc he) ?_
       have hm2:(-2:Int)∈zn c zw e:=jj.2 (.inl ⟨ho,rfl⟩)
       refine WE hc he hr hinv (fun x hx=>by cases hx) hm2 (by simp) (by unfold target;rw [if_pos rfl]) hbase (fun to L' F' hg ha => ?_) (fun hz=>ay.some (.inr (.inl ⟨rfl,hz⟩)))
       refine ay.az ha ?_
       refine ay.ite (fun hd=>ay.some (.inr (.inr ⟨_,rfl,of_decide_eq_true hd,hg⟩))) (fun hd=>ay.some (.inl ⟨_,rfl,by have:=of_decide_eq_false hd;omega,hg⟩))
     ·rintro o (⟨⟨L1,F1,K1⟩,rfl,hd,hg⟩ | ⟨rfl,hn⟩ | ⟨⟨L1,F1,K1⟩,rfl,hd,hg⟩)
      ·
       have ry:zn c zw e=(bif e.own then [-2] else [-1])++qQ c zw e c.aK.length:=by
        unfold zn
        rw [decide_eq_false (show ¬ c.aJ≤e.state.day by omega)]
        cases e.own<;>rfl
       refine ay.bind (P:=fun o:XT ⊕ Unit=>(∃ x,o=.inl x∧gB c zw p e L (bif e.own then [-2] else [-1]) x)∨(o=.inr ()∧xB c e (bif e.own then [-2] else [-1]) (L,[])=none)) ?_ ?_
       ·cases ho:e.own with
        | true=>rw [ho] at hg;exact ay.some (.inl ⟨_,rfl,hg⟩)
        | false=>
         rw [ho] at hg
         simp only [bM] at hg ⊢
         obtain ⟨oP,_⟩:=jT (a := -1) hc he (by omega) (by omega) hd
         refine ay.az oP ?_
         have hm1:(-1:Int)∈zn c zw e:=jj.2 (.inr (.inl ⟨hd,ho,rfl⟩))
         refine WE hc he hr hinv (fun x hx=>by cases hx) hm1 (by simp) (by unfold target;rw [if_neg (by omega)]) hg (fun to L' F' hg ha => ?_) (fun hz=>ay.some (.inr ⟨rfl,hz⟩))
         refine ay.az ha ?_
         exact ay.some (.inl ⟨_,rfl,hg⟩)
       ·rintro o (⟨⟨L2,F2,K2⟩,rfl,fu⟩ | ⟨rfl,hn⟩)
        ·
         refine ay.bind (P:=fun o:XT ⊕ XT=>(∃ x,o=.inl x∧gB c zw p e L (zn c zw e) x)∨(∃ x,o=.inr x∧xB c e (zn c zw e) (L,[])=none)) ?_ ?_
         ·have hsub:∀ i,i≤c.aK.length→∀ x∈(bif e.own then [-2] else [-1])++qQ c zw e i,x∈zn c zw e:=by
           intro i hi x hx
           rw [ry]
           obtain ⟨r,hr'⟩:=VM c zw e hi
           rw [hr']
           rcases ud.1 hx with h | h
           ·exact ud.2 (.inl h)
           ·exact ud.2 (.inr (ud.2 (.inl h)))
          refine ay.dS (n:=c.aK.length) (fun i s=>gB c zw p e L ((bif e.own then [-2] else [-1])++qQ c zw e i) s) (by omega) ?_ ?_ (fun s hs=>.inl ⟨s,rfl,by rw [ry];exact hs⟩)
          ·show gB c zw p e L ((bif e.own then [-2] else [-1])++qQ c zw e 0) (L2,F2,K2)
           have:qQ c zw e 0=[]:=rfl
           rw [this,uF];exact fu
          ·rintro i ⟨L3,F3,K3⟩ hi EL
           simp only
           have hx:=ua hi
           have av:=Q4 hv.cv hx
           have tJ:mT c zw e i=(((z6 e.state.aC c.aK[i] == zw) == e.own) && !xM (qi c e.state i) e.state):=by simp only [mT,hx]
           have IR:=Xi c zw e i
           refine ay.bind (P:=fun o:XT ⊕ Unit=>(∃ x,o=.inl x∧gB c zw p e L ((bif e.own then [-2] else [-1])++qQ c zw e (i+1)) x)∨(o=.inr ()∧xB c e ((bif e.own then [-2] else [-1])++qQ c zw e (i+1)) (L,[])=none)) ?_ ?_
           ·refine ay.az (zt hx) ?_
            refine ay.az (WB he av) ?_
            refine ay.ite (fun hq => ?_) (fun hq => ?_)
            ·obtain ⟨oP,hvs,_⟩:=jT (a:=(i:Int)) hc he (by omega) (by omega) hd
             have BJ:=hvs.rq hc
             refine ay.az oP ?_
             refine ay.az (YC (qi c e.state i) e.state (by omega) (by omega) (by omega)) ?_
             refine ay.ite (fun hs=>ay.some (.inl ⟨_,rfl,?_⟩)) (fun hs => ?_)
             ·rw [xN,tJ,hq,hs]
              simpa using EL
             ·have hb:mT c zw e i=true:=by rw [tJ,hq,hs];rfl
              have rU:(i:Int)∈zn c zw e:=jj.2 (.inr (.inr ⟨hd,i,hi,hb,rfl⟩))
              have hact:qQ c zw e (i+1)=qQ c zw e i++[(i:Int)]:=by rw [xN,hb];rfl
              rw [hact,←ug]
              refine WE hc he hr hinv (hsub i (by omega)) rU (by cases e.own<;>simp<;>omega) (by unfold target;rw [if_neg (by omega)]) EL (fun to L' F' hg ha => ?_) (fun hz=>ay.some (.inr ⟨rfl,hz⟩))
              refine ay.az ha ?_
              exact ay.some (.inl ⟨_,rfl,hg⟩)
            ·refine ay.some (.inl ⟨_,rfl,?_⟩)
             rw [xN,tJ,hq]
             simpa using EL
           ·rintro o (⟨x,rfl,CH⟩ | ⟨rfl,hn⟩)
            ·exact ay.some CH
            ·refine ay.some (.inr ⟨_,rfl,?_⟩)
             rw [ry]
             obtain ⟨r,hr'⟩:=VM c zw e (show i+1≤c.aK.length by omega)
             rw [hr',←ug]
             exact kq hn
         ·rintro o (⟨x,rfl,CH⟩ | ⟨x,rfl,hn⟩)
          ·exact ay.some (.inl ⟨_,rfl,CH⟩)
          ·exact ay.some (.inr ⟨rfl,hn⟩)
        ·refine ay.some (.inr ⟨rfl,?_⟩)
         rw [ry];exact kq hn
      ·refine ay.some (.inr ⟨rfl,?_⟩)
       unfold zn;exact kq hn
      ·refine ay.some (.inl ⟨_,rfl,?_⟩)
       have:zn c zw e=(bif e.own then [-2] else []):=by
        unfold zn
        rw [decide_eq_true hd]
        simp
       rw [this];exact hg
    ·rintro o (⟨⟨L',F',K'⟩,rfl,hg⟩ | ⟨rfl,hn⟩)
     ·obtain ⟨h1,⟨r1,e1⟩,T,eT,hT,Ap⟩:=WD hc he hr (zn c zw e) L L' [] K' (fun m hm=>hm) hinv hg.1
      simp only [uG] at eT
      subst eT
      simp only [uB]
      refine ay.az (jo (by simp;omega)) ?_
      rw [zZ (by omega) (by omega)]
      refine ay.some ⟨⟨by simp,?_,h1,hg.2,by show L'[0]?=some p;rw [e1];exact XR tI,?_,?_⟩,?_⟩
      ·show (M++[K']).length≤L'.length
       rw [e1];simp;omega
      ·show ∀ (j:Nat) (T:List bA) (e:aA),(M++[K'])[j]?=some T→L'[j]?=some e→l9 c zw L' e (zn c zw e) T
       intro j T e' hj he'
       by_cases nP:j < M.length
       ·rw [uj nP] at hj
        have UM:L[j]?=some e':=by
         rw [e1,uj (by omega)] at he';exact he'
        rw [e1]
        exact (gS j T e' hj UM).app r1
       ·have hj2:j=M.length:=by
         have:=(ub.1 hj).1
         simp at this;omega
        subst hj2
        rw [uI (uL _)] at hj
        simp at hj
        subst hj
        have:L'[M.length]?=some e:=by rw [e1];exact XR heq
        rw [this] at he';cases he'
        exact hT
      ·show ki 0 1 (M++[K'])=some L'.length
       rw [Wg,iG]
       simp only [aS,Nat.zero_add]
       rw [if_pos EK];exact Ap
      ·show (1501 - ((M.length:Int)+1)).toNat < (1501 - (M.length:Int)).toNat
       omega
     ·obtain ⟨L1,h1,h2⟩:=KN hc he hr (zn c zw e) L [] (fun m hm=>hm) hinv hn
      exact ay.some (.inr ⟨rfl,L1,h1,h2⟩)
   ·have hge:=of_decide_eq_false hge
    exact ay.some (.inl ⟨L,M,rfl,hinv,tI,by omega,gS,iG⟩)
  ·rintro o (⟨L,M,rfl,h⟩ | ⟨rfl,h⟩)
   ·exact ay.some (.inl ⟨L,M,rfl,h⟩)
   ·exact ay.some (.inr ⟨rfl,h⟩)
 ·rintro o (⟨L,M,rfl,h⟩ | ⟨rfl,h⟩)
  ·exact ay.some (.inl ⟨rfl,rfl,h⟩)
  ·exact ay.some (.inr ⟨rfl,h⟩)
def wU (k:aL) (m:aq):aq:=bif k.bq then {aH:=5,left:=0,got:=0,bg := -1,aT:=false} else {aH:=0,left:=0,got:=0,bg := -1,aT:=false}
def kE:aq:={aH:=0,left:=0,got:=0,bg:=0,aT:=false}
theorem KO {c:ax} (hc:c.Ok) (h:(z8 c).1≠0):xe c=some (ED,1):=by
 unfold xe
 rw [hc.valid]
 have:((z8 c).1 == 0)=false:=beq_eq_false_iff_ne.2 h
 simp only [aS,this,bM];rfl
def j8 (c:ax):List aq:=(ut c.aB.length kE).mapIdx (dB c wU)
theorem VN {c:ax} (hc:c.Ok) (hv:(z8 c).1=0):ay (xe c) (fun r=>r.2=0∧VS c r.1∧r.1.day=0∧r.1.aC=c.aC∧r.1.used=ut c.aK.length false∧cz c c.aC (j8 c) r.1.aM):=by
 have ho:=hc.off.lt (by omega:0 < 8)
 have sm:=qn ho hv
 have s1:=sm.aC
 have s2:=sm.aK
 have s3:=sm.aB
 have s4:=sm.aN
 have s5:=sm.aJ
 unfold xe
 refine ay.az hc.valid ?_
 refine ay.ite (fun _ => ?_) (fun h=>absurd hv (beq_eq_false_iff_ne.1 h))
 refine ay.az (kg (by omega)) ?_
 refine ay.az (kh (show c.aK.length < 1000 by omega) (by omega)) ?_
 refine ay.az (kh (show c.aB.length < 1000 by omega) (by omega)) ?_
 have EM:fC c ((ut c.aB.length kE).mapIdx (dB c wU)):=by
  refine ⟨by simp,fun i k m hk hm => ?_⟩
  rw [uP] at hm
  obtain ⟨m0,_,rfl⟩:=uM.1 hm
  simp only [dB,hk,wU]
  have e4:decide (-1 < c.aN)=true:=decide_eq_true (by omega)
  cases hw:k.bq with
  | true=>
   show qP c.aN k {aH:=5,left:=0,got:=0,bg := -1,aT:=false}=true
   refine j7.2 (.inr (.inr (.inr ⟨.inr (.inr rfl),?_⟩)))
   show ((0:Int) == 0&&(decide ((0:Int)≤0)&&(decide ((0:Int)≤9)&&(decide ((-1:Int) ≤ -1)&&(decide (-1 < c.aN) && !false)))))=true
   rw [e4];rfl
  | false=>exact j7.2 (.inl ⟨rfl,hw,rfl⟩)
 refine ay.bind (P:=fun o:List aq ⊕ Unit=>o=.inl ((ut c.aB.length kE).mapIdx (dB c wU))) ?_ ?_
 ·refine ay.of ?_
  have hl:(c.aB.length:Int)=((ut c.aB.length kE).length:Int):=by simp
  show aG (c.aB.length:Int) _ (ut c.aB.length kE)=_
  conv=>lhs;arg 1;rw [hl]
  refine wM (ut c.aB.length kE) (dB c wU) (by simp;omega) ?_
  intro i m s h1 h2 h3
  have hi:i < c.aB.length:=by simpa using (ub.1 h1).1
  have hk:=ua hi
  simp only [zt hk,aS,zC hi,h3,vA h3,dB,hk,wU,uy]
  cases c.aB[i].bq<;>rfl
 ·rintro o rfl
  simp only [uB]
  have hs:=Xh c 0 c.aC (ut c.aK.length false) _ ho hv rfl (Yz hv) EM
  unfold vT at hs
  rw [List.length_replicate,show ((ut c.aB.length kE).mapIdx (dB c wU)).length=c.aB.length by simp] at hs
  refine ay.bind hs fun r hr => ?_
  refine ay.az (wk (by simp)) ?_
  refine ay.az (wk hr.ok.1.symm) ?_
  refine ay.some ⟨rfl,⟨hv,⟨by show (0:Int)≤0;omega,by show (0:Int)≤c.aJ;omega⟩,rfl,by simp,hr.ok.1,Yz hv,?_,hr.ok.2,hr.nr⟩,rfl,rfl,rfl,hr⟩
  intro i a _ hu
  simp only [List.getElem?_replicate] at hu
  split at hu
  ·cases hu
  ·cases hu
def UN:cF:={zw:=0,aR:=[],bO:=[]}
theorem UO {c:ax} (hc:c.Ok) {zw:Int} {p:aA} (h:vU c zw p.state=false):xk c zw p=some (UN,1):=by
 unfold xk
 rw [kC hc,h];rfl
theorem UP (a b:bn) (h1:a.aC.length < 4611686018427387904) (h2:a.used.length < 4611686018427387904) (h3:a.aM.length < 4611686018427387904):QZ a b=some (xM a b):=by
 unfold QZ xM
 simp only [XP]
 by_cases e1:a.day=b.day
 ·by_cases e2:a.aC.length=b.aC.length
  ·by_cases e3:a.used.length=b.used.length
   ·by_cases e4:a.aM.length=b.aM.length
    ·simp only [e1,beq_self_eq_true,bL,e2,e3,e4,decide_true,uq,aS,bM,uS]
     rw [←e2,←e3,←e4]
     rw [kO a.aC b.aC e2 h1 (fun i h1 h2=>by
      simp only [z7,ua h1,ua h2,aS,zx])]
     rw [kO a.used b.used e3 h2 (fun i h1 h2=>by
      simp only [z7,ua h1,ua h2,aS,zx])]
     rw [kO a.aM b.aM e4 h3 (fun i h1 h2=>by
      simp only [z7,ua h1,ua h2,aS,zx];rfl)]
     cases (a.aC == b.aC)<;>cases (a.used == b.used)<;>cases (a.aM == b.aM)<;>rfl
    ·have:(a.aM == b.aM)=false:=beq_eq_false_iff_ne.2 fun e=>e4 (by rw [e])
     simp only [e1,beq_self_eq_true,bL,e2,e3,e4,decide_true,decide_false,uO,aS,this,uR]
   ·have:(a.used == b.used)=false:=beq_eq_false_iff_ne.2 fun e=>e3 (by rw [e])
    simp only [e1,beq_self_eq_true,bL,e2,e3,decide_true,decide_false,bM,aS,this,uR,uH]
  ·have:(a.aC == b.aC)=false:=beq_eq_false_iff_ne.2 fun e=>e2 (by rw [e])
   simp only [e1,beq_self_eq_true,bL,e2,decide_false,bM,aS,this,uR,uH]
 ·simp only [beq_eq_false_iff_ne.2 e1,bM,aS,bL,uH]
theorem KP (a b:aA) (h1:a.state.aC.length < 4611686018427387904) (h2:a.state.used.length < 4611686018427387904) (h3:a.state.aM.length < 4611686018427387904):wi a b=some (a == b):=by
 unfold wi
 rw [UP _ _ h1 h2 h3]
 simp only [aS,zx,uA]
 rfl
section
theorem VO {c:ax} {hs:List Int} {ms r r':List aq} (hl:ms.length=c.aB.length) (S:cz c hs ms r) (S':cz c hs ms r'):r=r':=by
 have l1:r.length=c.aB.length:=S.ok.1
 have l2:r'.length=c.aB.length:=S'.ok.1
 refine uJ fun i => ?_
 by_cases hi:i < c.aB.length
 ·have hk:=ua hi
  have hm:=ua (show i < ms.length by omega)
  rcases S.Am i _ _ hk hm with ⟨a1,a2⟩ | ⟨a1,a2⟩<;>rcases S'.Am i _ _ hk hm with ⟨b1,b2⟩ | ⟨b1,b2⟩
  ·rw [a2,b2]
  ·exact absurd b1 a1
  ·exact absurd a1 b1
  ·rw [a2,b2]
 ·rw [uk (by omega),uk (by omega)]
theorem UQ {c:ax} {hs:List Int} {ms eN:List aq} (ho:c.off.length < 4611686018427387904) (hv:(z8 c).1=0) (hh:hs.length=c.aC.length) (hb:∀ h∈hs,0≤h∧h < c.aN) (mC:ms.length=c.aB.length) (oO:fC c eN) (iM:tH c ms eN) (iN:Xg c hs ms eN) {i:Nat} {k:aL} (hk:c.aB[i]?=some k) (hr:qv c.aB eN i=true) :
  fC c (eN.set i (qI k (qU hs k)))∧tH c ms (eN.set i (qI k (qU hs k)))∧Xg c hs ms (eN.set i (qI k (qU hs k)))∧qT (eN.set i (qI k (qU hs k))) < qT eN:=by
 have hi:=(ub.1 hk).1
 have fY:=oO.1
 have hi2:i < eN.length:=by omega
 have hm2:=ua hi2
 have kv:=jd ho hv hk
 have hcd:∀ (i:Nat) (k:aL),c.aB[i]?=some k→∀ x∈k.start,0≤x.clause∧x.clause < c.aB.length:=fun i k hk=>(jd ho hv hk).cond
 have hr':=hr
 simp only [qv,hk,hm2,uc,uf,beq_iff_eq] at hr'
 obtain ⟨⟨h0,hw⟩,_⟩:=hr'
 have nA:bif k.kind == 4 then qU hs k = -1 else 0≤qU hs k∧qU hs k < c.aN:=by
  unfold qU
  cases h4:(k.kind == 4) with
  | true=>rfl
  | false=>
   have hro:=kv.bW.resolve_left (beq_eq_false_iff_ne.1 h4)
   have hlt:k.bW.toNat < hs.length:=by omega
   show 0≤hs[k.bW.toNat]?.getD 0∧hs[k.bW.toNat]?.getD 0 < c.aN
   rw [ua hlt]
   exact hb _ (ux hlt)
 have hnew:qP c.aN k (qI k (qU hs k))=true:=by
  generalize qU hs k=b at nA
  simp only [qP,qI,kp,hw]
  have h1:=kv.after
  have:¬ k.after < 1:=by omega
  cases h4:(k.kind == 4) with
  | true=>rw [h4] at nA;simp only [bL] at nA;subst nA;simp [this]
  | false=>rw [h4] at nA;simp only [bM] at nA;simp [this,nA]
 refine ⟨⟨by simpa using fY,fun j k' m hj mS => ?_⟩,fun j m m' h1 h2 => ?_,fun j k' m hj mS => ?_,KH (m':=qI k (qU hs k)) hm2 h0 (by simp [qI])⟩
 ·rw [uu] at mS
  by_cases hij:i=j
  ·subst hij
   rw [if_pos rfl,if_pos hi2] at mS
   rw [hk] at hj
   cases hj;cases mS;exact hnew
  ·rw [if_neg hij] at mS;exact oO.2 j k' m hj mS
 ·rw [uu] at h2
  by_cases hij:i=j
  ·subst hij
   rw [if_pos rfl,if_pos hi2] at h2
   cases h2
   refine .inr ⟨?_,_,_,hk,rfl⟩
   rcases iM i m _ h1 hm2 with h | ⟨h,_⟩
   ·rw [←h];exact h0
   ·exact h
  ·rw [if_neg hij] at h2;exact iM j m m' h1 h2
 ·rw [uu]
  by_cases hij:i=j
  ·subst hij
   rw [if_pos rfl,if_pos hi2]
   rw [hk] at hj
   cases hj
   exact .inr ⟨KG mC fY iN hk (hcd _ _ hk) hr,rfl⟩
  ·rw [if_neg hij];exact iN j k' m hj mS
structure iV (k:aL) (m:aq) (o:ai) (q:aj):Prop where
 st:o.aH=m.aH
 got:o.got=m.got
 br:o.bg=m.bg
 idle:m.aH=0→o.from_ < 0∧o.to < 0∧q.aJ=0∧q.aT=false
 run:zA m=true→0≤o.from_∧o.to < 0∧q.aT=m.aT∧((m.aH=1∧q.aJ=k.after - m.left)∨(m.aH=2∧q.aJ=k.after+k.cX - m.left))
 done:m.aH≠0→zA m=false→0≤o.to
 fr:k.bq=false→m.aH≠0→0≤o.from_
structure eb (c:ax) (ms:List aq) (os:List ai) (cs:List aj):Prop where
 lo:os.length=c.aB.length
 lc:cs.length=c.aB.length
 at_:∀ (i:Nat) (k:aL) (m:aq) (o:ai) (q:aj),c.aB[i]?=some k→ms[i]?=some m→os[i]?=some o→cs[i]?=some q→iV k m o q
def wN (k:aL):List Int:=if k.start=[] then [-1] else k.start.map (·.clause)
structure eO (c:ax) (ms:List aq) (wm:List (Int×List Int)):Prop where
 gN:∀ key L,zr key wm=some L→∀ i∈L,∃ j:Nat,i=(j:Int)∧∃ k,c.aB[j]?=some k∧k.bq=false
 has:∀ (j:Nat) (k:aL) (m:aq),c.aB[j]?=some k→ms[j]?=some m→m.aH=0→k.bq=false→∀ key∈wN k,(j:Int)∈(zr key wm).getD []
 len:∀ key L,zr key wm=some L→L.length≤10000
section
variable {c:ax} {ms:List aq} {os:List ai} {cs:List aj}
theorem eb.get (h:eb c ms os cs) (hl:ms.length=c.aB.length) {i:Nat} (hi:i < c.aB.length):∃ k m o q,c.aB[i]?=some k∧ms[i]?=some m∧os[i]?=some o∧cs[i]?=some q∧iV k m o q:=
 ⟨_,_,_,_,ua hi,ua (by omega),ua (by rw [h.lo];omega),ua (by rw [h.lc];omega),
  h.at_ i _ _ _ _ (ua hi) (ua (by omega)) (ua (by rw [h.lo];omega)) (ua (by rw [h.lc];omega))⟩
def VP (os:List ai):Nat:=os.countP (fun o=>o.aH == 0)
theorem eb.idle (h:eb c ms os cs) (hl:ms.length=c.aB.length):VP os=qT ms:=by
 have e:os.map (·.aH)=ms.map (·.aH):=by
  refine uJ fun i => ?_
  rw [uW,uW]
  by_cases hi:i < c.aB.length
  ·obtain ⟨k,m,o,q,_,h2,h3,_,h5⟩:=h.get hl hi
   rw [h2,h3];simp [h5.st]
  ·rw [uk (by rw [h.lo];omega),uk (by omega)];rfl
 unfold VP qT
 have e1:os.countP (fun o=>o.aH == 0)=(os.map (·.aH)).countP (· == 0):=by rw [u5];rfl
 have e2:ms.countP (fun o=>o.aH == 0)=(ms.map (·.aH)).countP (· == 0):=by rw [u5];rfl
 rw [e1,e2,e]
theorem Q8 {p:Int} {k:aL} {m:aq} (h:qP p k m=true):(m.aH=0∧k.bq=false∧m.got=0∧m.bg = -1∧zA m=false)∨(zA m=true∧(m.aH=1∨m.aH=2))∨((m.aH=3∨m.aH=4∨m.aH=5)∧zA m=false):=by
 rcases j7.1 h with ⟨h0,h1,h2⟩ | ⟨h0,_,_⟩ | ⟨h0,_,_,_⟩ | ⟨h0,_⟩
 ·left
  simp only [VI,uc,beq_iff_eq] at h2
  exact ⟨h0,h1,h2.2.2.1,h2.2.2.2.1,by simp [zA,h0]⟩
 ·exact .inr (.inl ⟨by simp [zA,h0],.inl h0⟩)
 ·exact .inr (.inl ⟨by simp [zA,h0],.inr h0⟩)
 ·refine .inr (.inr ⟨h0,?_⟩)
  rcases h0 with h0 | h0 | h0<;>simp [zA,h0]
theorem iV.runs {p:Int} {k:aL} {m:aq} {o:ai} {q:aj} (h:iV k m o q) (hm:qP p k m=true):(bif decide (0≤o.from_) then some (decide (o.to < 0)) else some false)=some (zA m):=by
 rcases Q8 hm with ⟨h0,_,_,_,hr⟩ | ⟨hr,_⟩ | ⟨h0,hr⟩
 ·obtain ⟨a1,_⟩:=h.idle h0
  rw [decide_eq_false (by omega),hr];rfl
 ·obtain ⟨a1,a2,_⟩:=h.run hr
  rw [decide_eq_true a1,decide_eq_true a2,hr];rfl
 ·have:=h.done (by omega) hr
  rw [hr,decide_eq_false (show ¬ o.to < 0 by omega)]
  cases decide (0≤o.from_)<;>rfl
theorem UR {i:Nat} {k:aL} (hk:c.aB[i]?=some k) (hst:k.start.length≤8) (hcd:∀ x∈k.start,0≤x.clause∧x.clause < c.aB.length) (hl:ms.length=c.aB.length) (hC:eb c ms os cs) (p3 p4:Int) (p5:List Int) (p6:List Bool) (p7:Nat) (p8:List aj) (p9:Nat) (bz:ax) (bJ:List (Int×List Int)) :
  ir (i:Int) c p3 p4 p5 p6 p7 p8 p9 os c.aB.length bz bJ=some (k.start.all (qH ms)):=by
 unfold ir
 rw [zt hk]
 simp only [aS]
 rw [wj (l:=k.start) (qH ms) (by omega) (fun j hj=>by
  have hx:=hcd _ (ux hj)
  obtain ⟨k',m,o,q,_,h2,h3,_,h5⟩:=hC.get hl (show k.start[j].clause.toNat < c.aB.length by omega)
  have e1:zf ms k.start[j].clause=some m:=by
   unfold zf;rw [if_pos hx.1];exact h2
  rw [zt (ua hj)]
  simp only [aS]
  rw [kL hx.1 hx.2]
  simp only [aS,h3]
  unfold qH
  rw [e1]
  simp only [h5.st]
  cases (k.start[j].is == 1)<;>cases (k.start[j].is == 2)<;>cases (k.start[j].is == 3)<;>cases (k.start[j].is == 4)<;>cases (m.aH == 0)<;>cases (m.aH == 3)<;>cases (m.aH == 4)<;>cases (m.aH == 5)<;>rfl)]
 cases k.start.all (qH ms)<;>rfl
end
end
section
def CI (o:ai) (st b:Int):ai:={o with aH:=1,from_:=st,bg:=b}
structure Ar (c:ax) (hs:List Int) (ms:List aq) (cs:List aj) (r:List aq) (os:List ai) (wm:List (Int×List Int)):Prop where
 ok:fC c r
 rel:tH c ms r
 same:NR c ms→r=ms
 Am:Xg c hs ms r
 mh:eb c r os cs
 wait:eO c r wm
section
variable {c:ax} {hs:List Int} {ms r:List aq} {os:List ai} {cs:List aj} {wm:List (Int×List Int)}
theorem xO {i:Nat} {k:aL} {m:aq} (hk:c.aB[i]?=some k) (hm:r[i]?=some m):qv c.aB r i=true↔m.aH=0∧k.bq=false∧k.start.all (qH r)=true:=by
 simp only [qv,hk,hm,uc,uf,beq_iff_eq]
 exact ⟨fun h=>⟨h.1.1,h.1.2,h.2⟩,fun h=>⟨⟨h.1,h.2.1⟩,h.2.2⟩⟩
theorem US {i j:Nat} {k:aL} {b:aq} (hk:c.aB[i]?=some k) (hij:i≠j) (hc:∀ x∈k.start,0≤x.clause∧x.clause≠(j:Int)):qv c.aB (r.set j b) i=qv c.aB r i:=by
 have e:∀ x∈k.start,qH (r.set j b) x=qH r x:=fun x hx=>by
  obtain ⟨x0,x1⟩:=hc x hx
  unfold qH zf
  rw [if_pos x0,if_pos x0,uw (by omega)]
 have e2:k.start.all (qH (r.set j b))=k.start.all (qH r):=by
  rw [uY,ul,ul]
  exact ⟨fun h x hx=>by rw [←e x hx];exact h x hx,fun h x hx=>by rw [e x hx];exact h x hx⟩
 unfold qv
 rw [hk,uw (fun h=>hij h.symm)]
 cases r[i]? with
 | none=>rfl
 | some m=>simp only [e2]
theorem Ar.begin (ho:c.off.length < 4611686018427387904) (hv:(z8 c).1=0) (hh:hs.length=c.aC.length) (hb:∀ h∈hs,0≤h∧h < c.aN) (mC:ms.length=c.aB.length) (h:Ar c hs ms cs r os wm) {j:Nat} {k:aL} {o:ai} {st:Int} (hk:c.aB[j]?=some k) (hr:qv c.aB r j=true) (iJ:os[j]?=some o) (hst:0≤st) :
  Ar c hs ms cs (r.set j (qI k (qU hs k))) (os.set j (CI o st (qU hs k))) wm∧qT (r.set j (qI k (qU hs k))) < qT r:=by
 obtain ⟨b1,b2,b3,b4⟩:=UQ ho hv hh hb mC h.ok h.rel h.Am hk hr
 have hl:=h.ok.1
 have hj:=(ub.1 hk).1
 have gh:=ua (show j < r.length by omega)
 obtain ⟨s0,w0,_⟩:=(xO hk gh).1 hr
 refine ⟨⟨b1,b2,fun hn => ?_,b3,⟨by rw [uD];exact h.mh.lo,h.mh.lc,fun i k' m o' q h1 h2 h3 h4 => ?_⟩,⟨h.wait.gN,fun i k' m h1 h2 h3 h4 key hkey => ?_,h.wait.len⟩⟩,b4⟩
 ·have e:=h.same hn
  have:=hn j hj
  rw [←e,hr] at this
  cases this
 ·by_cases e:j=i
  ·subst e
   rw [hk] at h1
   cases h1
   rw [uh (by omega)] at h2
   rw [uh (by have:=h.mh.lo;omega)] at h3
   cases h2
   cases h3
   have C:=h.mh.at_ j k _ o q hk gh iJ h4
   obtain ⟨i1,i2,i3,i4⟩:=C.idle s0
   have hmk:=h.ok.2 j k _ hk gh
   have hg:o.got=0:=by
    rcases Q8 hmk with ⟨_,_,g,_⟩ | ⟨_,g⟩ | ⟨g,_⟩
    ·rw [C.got,g]
    ·omega
    ·omega
   exact ⟨rfl,hg,rfl,fun h=>by simp [qI] at h,fun _=>⟨hst,i2,i4,.inl ⟨rfl,by rw [i3];show (0:Int)=k.after - k.after;omega⟩⟩,fun _ h=>by simp [zA,qI] at h,fun _ _=>hst⟩
  ·rw [uw e] at h2 h3
   exact h.mh.at_ i k' m o' q h1 h2 h3 h4
 ·by_cases e:j=i
  ·subst e
   rw [uh (by omega)] at h2
   cases h2
   simp [qI] at h3
  ·rw [uw e] at h2
   exact h.wait.has i k' m h1 h2 h3 h4 key hkey
structure EO (c:ax) (hs:List Int) (ms:List aq) (cs:List aj) (wm:List (Int×List Int)) (kn v1:List Int) (p B:Nat) (q:Nat) (s:List Int×List Int×List ai) (r:List aq):Prop where
 I:Ar c hs ms cs r s.2.2 wm
 sz:s.1.length+qT r≤B
 pre:∀ t,t < kn.length→s.1[t]?=kn[t]?
 le:kn.length≤s.1.length
 rl:s.2.1.length≤q
 sub:∀ x∈s.2.1,x∈v1
 keep:∀ (j:Nat) (k:aL) (m:aq),c.aB[j]?=some k→r[j]?=some m→m.aH=0→k.bq=false→(j:Int)∈v1.take q→(j:Int)∈s.2.1
 UT:∀ (i:Nat) (k:aL),c.aB[i]?=some k→qv c.aB r i=true→(∃ key∈wN k,∃ t:Nat,p+1≤t∧s.1[t]?=some key)∨(i:Int)∈v1.drop q
theorem IU {E:List Int} {st:Int} (ho:c.off.length < 4611686018427387904) (hv:(z8 c).1=0) (hh:hs.length=c.aC.length) (hb:∀ h∈hs,0≤h∧h < c.aN) (hm:fC c ms) (hst:0≤st) (hC:eb c ms os cs) (hW:eO c ms wm) (UU:E.length≤1000)
  (hE:∀ (i:Nat) (k:aL),c.aB[i]?=some k→qv c.aB ms i=true→∃ key∈wN k,key∈E) (p4:Int) (p6:List Bool) (p7:Nat) (p8:List aj) (p9:Nat) (bz:ax) :
  ay (Qi E c st p4 hs p6 p7 p8 p9 os c.aB.length bz wm) (fun v=>∃ ms',cz c hs ms ms'∧eb c ms' v.2.2 cs∧eO c ms' v.2.1):=by
 have sm:=qn ho hv
 have dY:=sm.aB
 have mC:=hm.1
 have hcd:∀ (i:Nat) (k:aL),c.aB[i]?=some k→∀ x∈k.start,0≤x.clause∧x.clause < c.aB.length:=fun i k hk=>(jd ho hv hk).cond
 have hid:qT ms≤400:=Nat.le_trans List.countP_le_length (by omega)
 unfold Qi
 refine ay.bind (P:=fun v=>∃ ms',cz c hs ms ms'∧eb c ms' v.2.2 cs∧eO c ms' v.2.1) (ay.iter (fun s=>0≤s.2.1∧s.2.1≤(s.1.length:Int)∧∃ r,Ar c hs ms cs r s.2.2.2 s.2.2.1∧s.1.length+qT r≤E.length+qT ms∧∀ (i:Nat) (k:aL),c.aB[i]?=some k→qv c.aB r i=true→∃ key∈wN k,∃ p:Nat,s.2.1≤(p:Int)∧s.1[p]?=some key)
  (fun s=>s.1.length+VP s.2.2.2 - s.2.1.toNat) ⟨by simp,by simp,ms,⟨hm,fun i m m' h1 h2=>.inl (by rw [h1] at h2;exact (Option.some.inj h2).symm),fun _=>rfl,fun i k m _ h2=>.inl h2,hC,hW⟩,uL _,fun i k hk hr => ?_⟩ ?_) (fun v hv=>ay.some hv)
 ·obtain ⟨key,h1,h2⟩:=hE i k hk hr
  obtain ⟨p,hp⟩:=List.getElem?_of_mem h2
  exact ⟨key,h1,p,by show (0:Int)≤p;omega,hp⟩
 rintro ⟨kn,n,pu,os1⟩ ⟨n0,n1,r,hI,hlen,oQ⟩
 simp only at n0 n1 hI hlen oQ
 refine ay.ite (fun hlt => ?_) (fun hge=>ay.some ?_)
 case refine_2=>
  have hge:=of_decide_eq_false hge
  simp only at hge
  have hn:NR c r:=fun i hi=>by
   cases hr:qv c.aB r i with
   | false=>rfl
   | true=>
    obtain ⟨key,_,p,h1,h2⟩:=oQ i _ (ua hi) hr
    have:=(ub.1 h2).1
    omega
  exact ⟨r,⟨hI.ok,hn,hI.rel,hI.same,YB mC hI.ok.1 hI.Am hn hcd⟩,hI.mh,hI.wait⟩
 have hlt:=of_decide_eq_true hlt
 simp only at hlt
 obtain ⟨p,rfl⟩:∃ p:Nat,n=(p:Int):=⟨n.toNat,by omega⟩
 have hp:p < kn.length:=by omega
 have hkp:=ua hp
 generalize hkk:kn[p]=kk at hkp
 refine ay.az (v:=(zr kk pu).getD []) (by unfold Z7;rw [zt hkp];rfl) ?_
 generalize lI:(zr kk pu).getD []=v1
 have BK:∀ x∈v1,∃ L,zr kk pu=some L∧x∈L:=fun x hx=>by
  rw [←lI] at hx
  cases hg:zr kk pu with
  | none=>rw [hg] at hx;simp at hx
  | some L=>rw [hg] at hx;exact ⟨L,rfl,hx⟩
 have UW:v1.length≤10000:=by
  rw [←lI]
  cases hg:zr kk pu with
  | none=>simp
  | some L=>exact hI.wait.len kk L hg
 refine ay.bind (P:=fun o:(List Int×List Int×List ai) ⊕ Unit=>∃ s r2,o=.inl s∧EO c hs ms cs pu kn v1 p (kn.length+qT r) v1.length s r2)
  (ay.dS (fun q s=>∃ r2,EO c hs ms cs pu kn v1 p (kn.length+qT r) q s r2) (by omega) ⟨r,⟨hI,uL _,fun _ _=>rfl,uL _,by simp,fun x hx=>by simp at hx,fun j k m _ _ _ _ hx=>by simp at hx,fun i k hk hr => ?_⟩⟩ ?_ (fun s ⟨r2,h⟩=>⟨s,r2,rfl,h⟩)) ?_
 ·
  obtain ⟨key,h1,t,h2,h3⟩:=oQ i k hk hr
  by_cases e:t=p
  ·subst e
   right
   rw [hkp] at h3
   cases h3
   rw [List.drop_zero,←lI]
   have hi:=(ub.1 hk).1
   have gT:=ua (show i < r.length by have:=hI.ok.1;omega)
   obtain ⟨s0,w0,_⟩:=(xO hk gT).1 hr
   exact hI.wait.has i k _ hk gT s0 w0 _ h1
  ·exact .inl ⟨key,h1,t,by omega,h3⟩
 ·
  rintro q ⟨n7,rest,os2⟩ hq ⟨r2,J⟩
  obtain ⟨JI,BL,mV,BM,EP,mW,iy,iz⟩:=J
  simp only at JI BL mV BM EP mW iy iz
  have fY:=JI.ok.1
  obtain ⟨L,hL,UX⟩:=BK _ (ux hq)
  obtain ⟨j,ej,k,hk,hw⟩:=JI.wait.gN kk L hL _ UX
  have hj:=(ub.1 hk).1
  have Aq:v1[q]?=some (j:Int):=by rw [ua hq,ej]
  have oR:v1.take (q+1)=v1.take q++[(j:Int)]:=by rw [List.take_succ_eq_append_getElem hq,ej]
  have oS:v1.drop q=(j:Int)::v1.drop (q+1):=by rw [List.drop_eq_getElem_cons hq,ej]
  have AB:j < r2.length:=by omega
  have UY:j < os2.length:=by have:=JI.mh.lo;omega
  have UZ:j < cs.length:=by have:=JI.mh.lc;omega
  have gh:=ua AB
  have iJ:=ua UY
  have U0:=ua UZ
  have C:=JI.mh.at_ j k _ _ _ hk gh iJ U0
  have kv:=jd ho hv hk
  have U1:n7.length≤1400:=by omega
  refine ay.bind (P:=fun s=>∃ r3,EO c hs ms cs pu kn v1 p (kn.length+qT r) (q+1) s r3) ?_ (fun s hs=>ay.some hs)
  refine ay.az (zt Aq) ?_
  refine ay.az (UR hk kv.start (hcd j k hk) fY JI.mh _ _ _ _ _ _ _ _ _) ?_
  refine ay.ite (fun hal => ?_) (fun hal => ?_)
  ·refine ay.az (zC hj) ?_
   refine ay.az iJ ?_
   refine ay.ite (fun hfr=>ay.some ?_) (fun hfr => ?_)
   ·have hfr:=of_decide_eq_true hfr
    have hs0:r2[j].aH≠0:=fun h=>by have:=(C.idle h).1;omega
    refine ⟨r2,JI,BL,mV,BM,by simp only;omega,mW,fun j' k' m' h1 h2 h3 h4 h5 => ?_,fun i k' h1 h2 => ?_⟩
    ·rw [oR] at h5
     rcases ud.1 h5 with h5 | h5
     ·exact iy j' k' m' h1 h2 h3 h4 h5
     ·simp only [ue] at h5
      obtain rfl:j'=j:=by omega
      rw [gh] at h2
      cases h2
      exact absurd h3 hs0
    ·rcases iz i k' h1 h2 with h3 | h3
     ·exact .inl h3
     ·rw [oS] at h3
      rcases uz.1 h3 with h3 | h3
      ·obtain rfl:i=j:=by omega
       rw [hk] at h1
       cases h1
       exact absurd ((xO hk gh).1 h2).1 hs0
      ·exact .inr h3
   ·have hfr:=of_decide_eq_false hfr
    have hs0:r2[j].aH=0:=by
     apply Classical.byContradiction
     intro h
     have:=C.fr hw h
     omega
    have hrd:qv c.aB r2 j=true:=(xO hk gh).2 ⟨hs0,hw,hal⟩
    obtain ⟨N1,N2⟩:=JI.begin ho hv hh hb mC hk hrd iJ hst
    have hmk:=JI.ok.2 j k _ hk gh
    have DP:os2[j].bg = -1:=by
     rcases Q8 hmk with ⟨_,_,_,g,_⟩ | ⟨_,g⟩ | ⟨g,_⟩
     ·rw [C.br,g]
     ·omega
     ·omega
    refine ay.az (zC hj) ?_
    refine ay.az iJ ?_
    refine ay.bind (P:=fun v=>v=os2.set j (CI os2[j] st (qU hs k))) ?_ ?_
    ·refine ay.az (zt hk) ?_
     refine ay.ite (fun h4=>ay.some ?_) (fun h4 => ?_)
     ·rw [uy]
      unfold CI qU
      rw [h4,bL,←DP]
     ·have hro:=kv.bW.resolve_left (beq_eq_false_iff_ne.1 h4)
      have fR:k.bW.toNat < hs.length:=by omega
      refine ay.az (kL hro.1 (by omega)) ?_
      refine ay.az (ua fR) ?_
      refine ay.az (zC hj) ?_
      refine ay.az (v:={os2[j] with aH:=1,from_:=st}) (by rw [uy,uh (by have:=JI.mh.lo;omega)]) ?_
      refine ay.some ?_
      rw [uy,uy]
      unfold CI qU
      rw [h4,bM,ua fR]
      rfl
    ·rintro _ rfl
     refine ay.az (jo (by simp only [uo,uv];omega)) ?_
     refine ay.some ⟨_,N1,?_,fun t ht => ?_,?_,by simp only;omega,mW,fun j' k' m' h1 h2 h3 h4 h5 => ?_,fun i k' h1 h2 => ?_⟩
     ·simp only [un,uo,uv];omega
     ·show (n7++[(j:Int)])[t]?=_
      rw [uj (by omega)];exact mV t ht
     ·simp only [un];omega
     ·have hne:j'≠j:=fun e=>by
       subst e
       rw [uh (by omega)] at h2
       cases h2
       simp [qI] at h3
      rw [uw (fun e=>hne e.symm)] at h2
      rw [oR] at h5
      rcases ud.1 h5 with h5 | h5
      ·exact iy j' k' m' h1 h2 h3 h4 h5
      ·simp only [ue] at h5
       exact absurd (by omega) hne
     ·have hi:=(ub.1 h1).1
      have hne:i≠j:=fun e=>by
       subst e
       have:=((xO h1 (by rw [uh (by omega)])).1 h2).1
       simp [qI] at this
      by_cases hx:∀ x∈k'.start,0≤x.clause∧x.clause≠(j:Int)
      ·rw [US h1 hne hx] at h2
       rcases iz i k' h1 h2 with ⟨key,g1,t,g2,g3⟩ | h3
       ·refine .inl ⟨key,g1,t,g2,?_⟩
        show (n7++[(j:Int)])[t]?=_
        rw [uj (ub.1 g3).1];exact g3
       ·rw [oS] at h3
        rcases uz.1 h3 with h3 | h3
        ·exact absurd (by omega) hne
        ·exact .inr h3
      ·left
       have:∃ x∈k'.start,x.clause=(j:Int):=by
        apply Classical.byContradiction
        intro hno
        exact hx fun x hx'=>⟨(hcd i k' h1 x hx').1,fun e=>hno ⟨x,hx',e⟩⟩
       obtain ⟨x,hx',e⟩:=this
       refine ⟨(j:Int),?_,n7.length,by omega,?_⟩
       ·unfold wN
        rw [if_neg (fun h=>by rw [h] at hx';cases hx')]
        exact u9.2 ⟨x,hx',e⟩
       ·show (n7++[(j:Int)])[n7.length]?=_
        rw [uI (uL _),Nat.sub_self];rfl
  ·refine ay.az (jo (by simp only [uo,uv];omega)) ?_
   refine ay.some ⟨r2,JI,BL,mV,BM,by simp only [un,uo,uv];omega,fun x hx => ?_,fun j' k' m' h1 h2 h3 h4 h5 => ?_,fun i k' h1 h2 => ?_⟩
   ·rcases ud.1 hx with hx | hx
    ·exact mW x hx
    ·simp only [ue] at hx
     rw [hx];exact uN Aq
   ·rw [oR] at h5
    rcases ud.1 h5 with h5 | h5
    ·exact ud.2 (.inl (iy j' k' m' h1 h2 h3 h4 h5))
    ·exact ud.2 (.inr h5)
   ·rcases iz i k' h1 h2 with h3 | h3
    ·exact .inl h3
    ·rw [oS] at h3
     rcases uz.1 h3 with h3 | h3
     ·obtain rfl:i=j:=by omega
      rw [hk] at h1
      cases h1
      have:=((xO hk gh).1 h2).2.2
      rw [this] at hal
      cases hal
     ·exact .inr h3
 ·
  rintro _ ⟨⟨n7,rest,os2⟩,r2,rfl,J⟩
  obtain ⟨JI,BL,mV,BM,EP,mW,iy,iz⟩:=J
  simp only at JI BL mV BM EP mW iy iz
  refine ay.az (zt ((mV p hp).trans hkp)) ?_
  have ew:IntKind.i64.wrap ((p:Int)+1)=((p+1:Nat):Int):=by rw [zZ (by omega) (by omega)];omega
  refine ay.some (show ((0:Int)≤IntKind.i64.wrap ((p:Int)+1)∧IntKind.i64.wrap ((p:Int)+1)≤(n7.length:Int)∧∃ r3,Ar c hs ms cs r3 os2 (zO kk rest pu)∧n7.length+qT r3≤E.length+qT ms∧∀ (i:Nat) (k:aL),c.aB[i]?=some k→qv c.aB r3 i=true→∃ key∈wN k,∃ p':Nat,IntKind.i64.wrap ((p:Int)+1)≤(p':Int)∧n7[p']?=some key)∧n7.length+VP os2 - (IntKind.i64.wrap ((p:Int)+1)).toNat < kn.length+VP os1 - ((p:Int)).toNat from ?_)
  rw [ew]
  refine ⟨⟨by omega,by omega,r2,⟨JI.ok,JI.rel,JI.same,JI.Am,JI.mh,⟨fun key L hL x hx => ?_,fun j k m h1 h2 h3 h4 key hkey => ?_,fun key L hL => ?_⟩⟩,by omega,fun i k h1 h2 => ?_⟩,?_⟩
  ·by_cases e:key=kk
   ·subst e
    rw [qz] at hL
    cases hL
    obtain ⟨L2,g1,g2⟩:=BK x (mW x hx)
    exact JI.wait.gN _ L2 g1 x g2
   ·rw [je _ e] at hL
    exact JI.wait.gN key L hL x hx
  ·have:=JI.wait.has j k m h1 h2 h3 h4 key hkey
   by_cases e:key=kk
   ·subst e
    rw [qz]
    rw [lI] at this
    exact iy j k m h1 h2 h3 h4 (by rw [List.take_length];exact this)
   ·rw [je _ e];exact this
  ·by_cases e:key=kk
   ·subst e
    rw [qz] at hL
    cases hL
    omega
   ·rw [je _ e] at hL
    exact JI.wait.len key L hL
  ·rcases iz i k h1 h2 with ⟨key,g1,t,g2,g3⟩ | h3
   ·exact ⟨key,g1,t,by omega,g3⟩
   ·simp at h3
  ·have e1:=JI.mh.idle JI.ok.1
   have e2:=hI.mh.idle hI.ok.1
   rw [e1,e2]
   simp only [uV]
   omega
end
end
end Go.Proofs.YtcmmhbmgpflmeaaGreatDoor
