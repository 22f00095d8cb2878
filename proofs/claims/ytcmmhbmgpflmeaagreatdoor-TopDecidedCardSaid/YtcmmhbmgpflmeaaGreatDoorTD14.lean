/-
  The reading of no steps.
  The reading of a tick.
  The reading of a tick and of an act: its loops.
  The reading of an act.
  What an arena holds: closed under moves, and all that can be reached.
  region.Ranks: what it returns for an arena is the number of moves in which a breach can be forced.
  region.Ranks: the queue.
  region.Ranks: all of it.
  A clause that has ended stays as it is; a breach stays a breach.
  The reading of a trace has what the system has.
  'trace.Outcomes' and the states of the system.
  RegionBreach: a breach is never left.
  What can be forced from a position, told without an arena.
  region.Safe and strategy's functions, told by positions.
  What a shield and a doom prove, told without the program.
  StrategyKeeps: the advice keeps the party safe.
  Ranks of positions; the shield and the doom that an arena gives.
-/
import Derived.Test.YtcmmhbmgpflmeaaGreatDoorTD13
import Derived.Test.YtcmmhbmgpflmeaaGreatDoorTD07
open List renaming getElem?_eq_getElem → ua, getElem?_eq_some_iff → ub, getElem?_set_self → uc, getElem?_set_ne → ud, getElem?_mapIdx → uf, length_set → ug, mem_filter → uh, mem_map → ui, length_cons → uj, mem_range → uk, mem_append → ul, take_succ_eq_append_getElem → um, getElem?_eq_none → un, length_append → uo, length_nil → uq, range → ur, getElem_mem → ut, getElem?_map → uv, length_pos_of_mem → ux, length_map → uy, nil_append → uz, count_cons_of_ne → uA, length_filter_le → uB, length_range → uD, replicate → uE, take_length → uG, getElem_of_mem → uI, getElem?_replicate → uL, set_set → uN, ext_getElem? → uP, count_append → uQ, pairwise_of_forall_mem_list → uR, mem_of_getElem? → uS, append_nil → uT, mem_singleton → uU, filter_append → uW, pairwise_iff_getElem → uX, range_succ → uZ, mem_cons_of_mem → u0, filter_sublist → u4, mem_cons_self → u6, all_eq_false → u7, foldl_append → Ub, all_eq_true → Uc, nodup_range → Ud
open Option renaming bind → uu, map_eq_some_iff → uw, map_some → uK
open Bool renaming and_eq_true → ue, not_eq_true' → uC, or_eq_false_iff → uF, or_eq_true → uJ, not_eq_false' → uV, not_true → u5, eq_false_iff → u9, false_or → Ue, true_and → Uf
open Nat renaming le_refl → uM, lt_or_ge → uY, le_trans → Ug
open Int renaming toNat_of_nonneg → uH, toNat_natCast → Ua, le_refl → Uh
open Sum renaming elim_inl → uO
namespace Go.Proofs.YtcmmhbmgpflmeaaGreatDoor
open Go.RowKit
set_option linter.unusedSimpArgs false
set_option linter.unusedVariables false
set_option maxRecDepth 100000
section
theorem IW {α:Type} (k:Int) (v:α):∀ l:List (Int×α),(zO k v l).length≤l.length+1
 | []=>by simp [zO]
 | (k',v')::r=>by
  simp only [zO]
  split
  ·simp
  ·have:=IW k v r
   simp only [uj];omega
structure pz (c:ax) (B:Nat) (wm:List (Int×List Int)):Prop where
 ln:wm.length≤B
 ll:∀ key L,zr key wm=some L→L.length≤B
 rg:∀ key L,zr key wm=some L→∀ x∈L,∃ j:Nat,x=(j:Int)∧∃ k,c.aB[j]?=some k∧k.bq=false
section
variable {c:ax} {wm:List (Int×List Int)} {B:Nat}
theorem pz.le (h:pz c B wm) {B':Nat} (hB:B≤B'):pz c B' wm:=⟨Ug h.ln hB,fun key L hL=>Ug (h.ll key L hL) hB,h.rg⟩
theorem pz.app (h:pz c B wm) (hB:B < 900) {i:Nat} {k:aL} (hk:c.aB[i]?=some k) (hw:k.bq=false) (key:Int) :
  ∃ CJ,wH wm key (i:Int)=some CJ∧pz c (B+1) CJ∧(∀ key' x,x∈(zr key' wm).getD []→x∈(zr key' CJ).getD [])∧(i:Int)∈(zr key CJ).getD []:=by
 have hl:((zr key wm).getD []).length≤B:=by
  cases hg:zr key wm with
  | none=>simp
  | some L=>exact h.ll key L hg
 have hln:=h.ln
 refine ⟨zO key ((zr key wm).getD []++[(i:Int)]) wm,by unfold wH;rw [if_pos ⟨by omega,by omega⟩],⟨?_,fun key' L hL => ?_,fun key' L hL x hx => ?_⟩,fun key' x hx => ?_,?_⟩
 ·have:=IW key ((zr key wm).getD []++[(i:Int)]) wm;omega
 ·by_cases e:key'=key
  ·subst e
   rw [qz] at hL
   cases hL
   rw [uo];simp only [uj,uq];omega
  ·rw [je _ e] at hL
   have:=h.ll key' L hL;omega
 ·by_cases e:key'=key
  ·subst e
   rw [qz] at hL
   cases hL
   rcases ul.1 hx with hx | hx
   ·cases hg:zr key' wm with
    | none=>rw [hg] at hx;simp at hx
    | some L=>rw [hg] at hx;exact h.rg key' L hg x hx
   ·simp only [uU] at hx
    exact ⟨i,hx,k,hk,hw⟩
  ·rw [je _ e] at hL
   exact h.rg key' L hL x hx
 ·by_cases e:key'=key
  ·subst e
   rw [qz]
   exact ul.2 (.inl hx)
  ·rw [je _ e];exact hx
 ·rw [qz]
  exact ul.2 (.inr (by simp))
def wZ (k:aL):ai:=bif k.bq then {aH:=5,from_ := -1,to:=0,got:=0,bg := -1} else {aH:=0,from_ := -1,to := -1,got:=0,bg := -1}
structure tK (c:ax) (i:Nat) (s:List Int×List (Int×List Int)×List ai):Prop where
 wm:pz c (9*i) s.2.1
 has:∀ (j:Nat) (k:aL),j < i→c.aB[j]?=some k→k.bq=false→∀ key∈wN k,(j:Int)∈(zr key s.2.1).getD []
 lo:s.2.2.length=c.aB.length
 os:∀ (j:Nat) (k:aL),j < i→c.aB[j]?=some k→s.2.2[j]?=some (wZ k)
 kl:s.1.length≤1+i
 k1:(-1:Int)∈s.1
 kw:∀ (j:Nat) (k:aL),j < i→c.aB[j]?=some k→k.bq=true→(j:Int)∈s.1
theorem Q9 (c:ax) {i:Nat} {k:aL} (hk:c.aB[i]?=some k):(j8 c)[i]?=some (wU k kE):=by
 have hi:=(ub.1 hk).1
 unfold j8
 rw [uf,uL,if_pos hi]
 simp [dB,hk]
theorem U2 (hc:c.Ok) (hv:(z8 c).1=0) (h6:c.aB.length≤6) {s0:bn} (hs0:cz c c.aC (j8 c) s0.aM) (rU:fC c (j8 c)) :
  ay (JZ c) (fun r=>r.1=c.aC∧r.2.1=uE c.aK.length false∧r.2.2.2.1=uE c.aB.length ({aJ:=0,aT:=false}:aj)∧r.2.2.2.2.2=(c.aC.length,c.aK.length,c.aB.length,c.aB.length)∧eb c s0.aM r.2.2.2.2.1 r.2.2.2.1∧eO c s0.aM r.2.2.1):=by
 have ho:=hc.off.lt (by omega:0 < 8)
 have sm:=qn ho hv
 have s1:=sm.aC
 have s2:=sm.aK
 unfold JZ
 refine ay.az (kg (by omega)) ?_
 refine ay.az (kh (show c.aK.length < 1000 by omega) (by omega)) ?_
 refine ay.az (kh (show c.aB.length < 1000 by omega) (by omega)) ?_
 refine ay.az (kh (show c.aB.length < 1000 by omega) (by omega)) ?_
 refine ay.bind (P:=fun o:(List Int×List (Int×List Int)×List ai) ⊕ Unit=>∃ s,o=.inl s∧tK c c.aB.length s)
  (ay.dS (tK c) (by omega) ⟨⟨by simp,fun key L h=>by simp [zr] at h,fun key L h=>by simp [zr] at h⟩,fun j k hj=>by omega,by simp,fun j k hj=>by omega,by simp,by simp,fun j k hj=>by omega⟩ ?_ (fun s h=>⟨s,rfl,h⟩)) ?_
 ·rintro i ⟨kn,wm,os⟩ hi J
  obtain ⟨J1,J2,J3,J4,J5,J6,J7⟩:=J
  simp only at J1 J2 J3 J4 J5 J6 J7
  have hk:=ua hi
  have pE:i < os.length:=by omega
  have kv:=jd ho hv hk
  generalize c.aB[i]=k at hk kv
  refine ay.bind (P:=fun s=>tK c (i+1) s) ?_ (fun s hs=>ay.some hs)
  refine ay.az (zt hk) ?_
  refine ay.az (zC hi) ?_
  refine ay.az (ua pE) ?_
  have fS:∀ x:ai,x=wZ k→∀ (j:Nat) (k':aL),j < i+1→c.aB[j]?=some k'→(os.set i x)[j]?=some (wZ k'):=fun x hx j k' hj hk'=>by
   by_cases e:i=j
   ·subst e
    rw [hk] at hk'
    cases hk'
    rw [uc pE,hx]
   ·rw [ud e]
    exact J4 j k' (by omega) hk'
  refine ay.ite (fun hw => ?_) (fun hw => ?_)
  ·refine ay.az (zC hi) ?_
   refine ay.az (uc pE) ?_
   refine ay.az (jo (by simp only [uj,uq];omega)) ?_
   refine ay.some ⟨J1.le (by omega),fun j k' hj hk' hw' => ?_,by simp only [ug];exact J3,?_,by simp only [uo,uj,uq];omega,ul.2 (.inl J6),fun j k' hj hk' hw' => ?_⟩
   ·by_cases e:i=j
    ·subst e
     rw [hk] at hk'
     cases hk'
     rw [hw] at hw';cases hw'
    ·exact J2 j k' (by omega) hk' hw'
   ·show ∀ (j:Nat) (k':aL),j < i+1→c.aB[j]?=some k'→(((os.set i _).set i _).set i _)[j]?=some (wZ k')
    rw [uN,uN]
    exact fS _ (by unfold wZ;rw [hw];rfl)
   ·by_cases e:i=j
    ·subst e
     exact ul.2 (.inr (by simp))
    ·exact ul.2 (.inl (J7 j k' (by omega) hk' hw'))
  ·have hs8:=kv.start
   refine ay.bind (P:=fun w=>pz c (9*i+1) w∧(∀ key x,x∈(zr key wm).getD []→x∈(zr key w).getD [])∧(k.start=[]→(i:Int)∈(zr (-1) w).getD [])) ?_ ?_
   ·refine ay.ite (fun h0 => ?_) (fun h0=>ay.some ⟨J1.le (by omega),fun _ _ h=>h,fun h => ?_⟩)
    ·obtain ⟨w,a1,a2,a3,a4⟩:=J1.app (by omega) hk hw (-1)
     refine ay.az a1 ?_
     exact ay.some ⟨a2,a3,fun _=>a4⟩
    ·rw [h] at h0;simp at h0
   rintro w ⟨w1,w2,w3⟩
   refine ay.bind (P:=fun o:(List (Int×List Int)) ⊕ Unit=>∃ v,o=.inl v∧pz c (9*i+1+k.start.length) v∧(∀ key x,x∈(zr key w).getD []→x∈(zr key v).getD [])∧∀ x∈k.start,(i:Int)∈(zr x.clause v).getD [])
    (ay.dS (fun t v=>pz c (9*i+1+t) v∧(∀ key x,x∈(zr key w).getD []→x∈(zr key v).getD [])∧∀ x∈k.start.take t,(i:Int)∈(zr x.clause v).getD []) (by omega) ⟨w1,fun _ _ h=>h,fun x hx=>by simp at hx⟩ ?_ (fun v h=>⟨v,rfl,h.1,h.2.1,fun x hx=>h.2.2 x (by rw [uG];exact hx)⟩)) ?_
   ·rintro t v ht ⟨b1,b2,b3⟩
    refine ay.az (zt (ua ht)) ?_
    obtain ⟨v',a1,a2,a3,a4⟩:=b1.app (by omega) hk hw k.start[t].clause
    refine ay.az a1 ?_
    refine ay.some ⟨a2,fun key x hx=>a3 key x (b2 key x hx),fun x hx => ?_⟩
    rw [um ht] at hx
    rcases ul.1 hx with hx | hx
    ·exact a3 _ _ (b3 x hx)
    ·simp only [uU] at hx
     rw [hx];exact a4
   ·rintro _ ⟨v,rfl,b1,b2,b3⟩
    refine ay.some ⟨b1.le (by omega),fun j k' hj hk' hw' key hkey => ?_,by simp only [ug];exact J3,fS _ (by unfold wZ;rw [hw];rfl),by simp only;omega,J6,fun j k' hj hk' hw' => ?_⟩
    ·by_cases e:i=j
     ·subst e
      rw [hk] at hk'
      cases hk'
      unfold wN at hkey
      split at hkey
      ·rename_i h0
       simp only [uU] at hkey
       subst hkey
       exact b2 _ _ (w3 h0)
      ·obtain ⟨x,hx,rfl⟩:=ui.1 hkey
       exact b3 x hx
     ·exact b2 _ _ (w2 _ _ (J2 j k' (by omega) hk' hw' key hkey))
    ·by_cases e:i=j
     ·subst e
      rw [hk] at hk'
      cases hk'
      rw [hw] at hw';cases hw'
     ·exact J7 j k' (by omega) hk' hw'
 ·rintro _ ⟨⟨kn,wm,os⟩,rfl,J⟩
  obtain ⟨J1,J2,J3,J4,J5,J6,J7⟩:=J
  simp only at J1 J2 J3 J4 J5 J6 J7
  have tL:eb c (j8 c) os (uE c.aB.length ({aJ:=0,aT:=false}:aj)):=by
   refine ⟨J3,by simp,fun i k m o q h1 h2 h3 h4 => ?_⟩
   have hi:=(ub.1 h1).1
   rw [Q9 c h1] at h2
   cases h2
   rw [J4 i k hi h1] at h3
   cases h3
   rw [uL,if_pos hi] at h4
   cases h4
   unfold wU wZ
   cases hw:k.bq with
   | true=>exact ⟨rfl,rfl,rfl,fun h=>by simp at h,fun h=>by simp [zA] at h,fun _ _=>by simp,fun h=>by rw [hw] at h;cases h⟩
   | false=>exact ⟨rfl,rfl,rfl,fun _=>by simp,fun h=>by simp [zA] at h,fun h=>by simp at h,fun _ h=>by simp at h⟩
  have BN:eO c (j8 c) wm:=⟨J1.rg,fun j k m h1 h2 h3 h4 key hkey=>J2 j k (ub.1 h1).1 h1 h4 key hkey,fun key L hL=>by have:=J1.ll key L hL;omega⟩
  refine ay.bind (IU ho hv rfl (Yz hv) rU (Uh 0) tL BN (by simp only;omega) (fun i k hk hr => ?_) _ _ _ _ _ _) ?_
  ·have hi:=(ub.1 hk).1
   obtain ⟨a1,a2,a3⟩:=(xO hk (Q9 c hk)).1 hr
   unfold wN
   cases hst:k.start with
   | nil=>exact ⟨-1,by simp,J6⟩
   | cons x l=>
    refine ⟨x.clause,by simp,?_⟩
    have hx:=Uc.1 a3 x (by rw [hst];simp)
    have hcd:=(jd ho hv hk).cond x (by rw [hst];simp)
    have oN:=ua (show x.clause.toNat < c.aB.length by omega)
    have hmx:=Q9 c oN
    cases hw:c.aB[x.clause.toNat].bq with
    | true=>
     have:=J7 x.clause.toNat _ (by omega) oN hw
     rwa [uH hcd.1] at this
    | false=>
     exfalso
     have e:zf (j8 c) x.clause=some (wU c.aB[x.clause.toNat] kE):=by unfold zf;rw [if_pos hcd.1];exact hmx
     rw [KF e (by unfold wU;rw [hw];rfl)] at hx
     cases hx
  ·rintro ⟨n7,BO,os2⟩ ⟨ms',S,C2,W2⟩
   have e:ms'=s0.aM:=VO rU.1 S hs0
   subst e
   exact ay.some ⟨rfl,rfl,rfl,rfl,C2,W2⟩
end
end
section
theorem U3 (c:ax) (v:Int) (hs:c.off.Pairwise (· < ·)) (hl:c.off.length < 4611686018427387904):J0 v c=some (jK c.off v).isSome:=by
 have hp:=uX.1 hs
 refine ay.eq ?_
 unfold J0 VC VB
 refine ay.bind (P:=fun r:Int=>0≤r∧r≤c.off.length∧(∀ (j:Nat) (hj:j < c.off.length),(j:Int) < r→c.off[j] < v)∧(∀ (j:Nat) (hj:j < c.off.length),r≤(j:Int)→v≤c.off[j])) (ay.bind (P:=fun r:Int=>0≤r∧r≤c.off.length∧(∀ (j:Nat) (hj:j < c.off.length),(j:Int) < r→c.off[j] < v)∧(∀ (j:Nat) (hj:j < c.off.length),r≤(j:Int)→v≤c.off[j])) (ay.bind (P:=fun r:Int=>0≤r∧r≤c.off.length∧(∀ (j:Nat) (hj:j < c.off.length),(j:Int) < r→c.off[j] < v)∧(∀ (j:Nat) (hj:j < c.off.length),r≤(j:Int)→v≤c.off[j])) (ay.iter (fun s=>0≤s.1∧s.1≤s.2∧s.2≤c.off.length∧(∀ (j:Nat) (hj:j < c.off.length),(j:Int) < s.1→c.off[j] < v)∧(∀ (j:Nat) (hj:j < c.off.length),s.2≤(j:Int)→v≤c.off[j])) (fun s=>(s.2 - s.1).toNat) ⟨by simp,by simp,by simp,fun j hj h=>by simp only at h;omega,fun j hj h=>by simp only at h;omega⟩ ?_) (fun v hv=>ay.some hv)) (fun v hv=>ay.some hv)) ?_
 ·rintro ⟨lo,hi⟩ ⟨h1,h2,h3,h4,h5⟩
  simp only at h1 h2 h3 h4 h5 ⊢
  refine ay.ite (fun hb => ?_) (fun hb => ?_)
  ·have hlt:=of_decide_eq_true hb
   rw [Iu h1 h2 (by omega)]
   simp only [aS]
   have hm1:lo≤(lo+hi) / 2:=by omega
   have hm2:(lo+hi) / 2 < hi:=by omega
   generalize (lo+hi) / 2=m at hm1 hm2 ⊢
   rw [zZ (by omega) (by omega)]
   obtain ⟨hi',e⟩:=jg (l:=c.off) (n:=m) (by omega) (by omega)
   rw [e,zZ (by omega) (by omega)]
   simp only [aS]
   refine ay.ite (fun gJ => ?_) (fun gJ => ?_)
   ·have hv:=of_decide_eq_true gJ
    refine ay.some ⟨⟨h1,by show lo≤m;omega,by show m≤(c.off.length:Int);omega,h4,fun j hj nP => ?_⟩,by show (m - lo).toNat < (hi - lo).toNat;omega⟩
    have nP:m≤(j:Int):=nP
    rcases uY m.toNat j with h | h
    ·have:=hp m.toNat j hi' hj h;omega
    ·obtain rfl:j=m.toNat:=by omega
     omega
   ·have hv:¬ v≤c.off[m.toNat]:=of_decide_eq_false gJ
    refine ay.some ⟨⟨by show 0≤m+1;omega,by show m+1≤hi;omega,h3,fun j hj nP => ?_,h5⟩,by show (hi - (m+1)).toNat < (hi - lo).toNat;omega⟩
    have nP:(j:Int) < m+1:=nP
    rcases uY j m.toNat with h | h
    ·have:=hp j m.toNat hj hi' h;omega
    ·obtain rfl:j=m.toNat:=by omega
     omega
  ·have hlt:¬ lo < hi:=of_decide_eq_false hb
   have:lo=hi:=by omega
   subst this
   exact ay.some ⟨h1,h3,h4,h5⟩
 ·rintro r ⟨fZ,cq,cg,eB⟩
  by_cases hlt:r < (c.off.length:Int)
  ·obtain ⟨hi',e⟩:=jg (l:=c.off) (n:=r) fZ hlt
   rw [decide_eq_true hlt,bL,e]
   refine ay.some ?_
   by_cases hv:c.off[r.toNat]=v
   ·have hpos:jK c.off v=some (r.toNat:Int):=Iv (Kw hs) (by rw [ua hi',hv])
    rw [hpos,hv];simp
   ·have:v ∉ c.off:=fun hm=>by
     obtain ⟨j,hj,e2⟩:=uI hm
     rcases uY j r.toNat with h | h
     ·have:=cg j hj (by omega);omega
     ·have h3:=eB r.toNat hi' (by omega)
      rcases uY r.toNat j with h4 | h4
      ·have:=hp r.toNat j hi' hj h4;omega
      ·obtain rfl:j=r.toNat:=by omega
       exact hv e2
    unfold jK
    rw [if_neg this,beq_eq_false_iff_ne.2 hv];rfl
  ·rw [decide_eq_false hlt,bM]
   refine ay.some ?_
   have:v ∉ c.off:=fun hm=>by
    obtain ⟨j,hj,e2⟩:=uI hm
    have:=cg j hj (by omega);omega
   unfold jK
   rw [if_neg this];rfl
theorem YF {c:ax} (hv:(z8 c).1=0) {i:Nat} {k:aL} (hk:c.aB[i]?=some k):(k.kind≠1→k.cX=0)∧(k.kind≠4→vS c.aK k.act=false)∧((k.bH = -1∧k.resume = -1)∨k.bH≠k.resume):=by
 obtain ⟨_,_,h3,_⟩:=vz hv
 have:=h3 i (ub.1 hk).1
 simp only [n4,hk,vw,ue] at this
 obtain ⟨_,⟨a5,_⟩,_,a8,_⟩:=this
 refine ⟨fun h1 => ?_,fun h4 => ?_,?_⟩
 ·unfold Q1 at a5
  cases h4:(k.kind == 4) with
  | true=>
   rw [h4] at a5
   simp only [bL,ue,beq_iff_eq] at a5
   exact a5.2.2.1
  | false=>
   rw [h4,beq_eq_false_iff_ne.2 h1] at a5
   simp only [bM,ue] at a5
   obtain ⟨_,b2⟩:=a5
   cases h2:(k.kind == 2) with
   | true=>
    rw [h2] at b2
    simp only [bL,ue,beq_iff_eq] at b2
    exact b2.2
   | false=>
    rw [h2] at b2
    simp only [bM,ue,beq_iff_eq] at b2
    exact b2.2.2.1
 ·unfold Q1 at a5
  rw [beq_eq_false_iff_ne.2 h4] at a5
  simp only [bM,ue,uC] at a5
  exact a5.1.2
 ·simp only [Qk,uJ,ue,beq_iff_eq,uC,beq_eq_false_iff_ne] at a8
  rcases a8 with h | h
  ·exact .inl h
  ·exact .inr h.1
structure nR (c:ax) (ms:List aq) (BP:List ai) (cs0:List aj) (F:aL→aq→aq) (i:Nat) (s:List Int×List aj×List ai):Prop where
 lo:s.2.2.length=c.aB.length
 lc:s.2.1.length=c.aB.length
 dn:∀ (j:Nat) (k:aL) (m:aq) (o:ai) (q:aj),j < i→c.aB[j]?=some k→ms[j]?=some m→s.2.2[j]?=some o→s.2.1[j]?=some q→iV k (F k m) o q
 nt:∀ j,i≤j→s.2.2[j]?=BP[j]?∧s.2.1[j]?=cs0[j]?
 el:s.1.length≤i
 en:∀ (j:Nat) (k:aL) (m:aq),j < i→c.aB[j]?=some k→ms[j]?=some m→zA m=true→zA (F k m)=false→(j:Int)∈s.1
section
variable {c:ax} {ms:List aq} {BP os1:List ai} {cs0 cs1:List aj} {F:aL→aq→aq} {i:Nat} {EQ:List Int}
theorem nR.step {s:List Int×List aj×List ai} (J:nR c ms BP cs0 F i s) {k:aL} {m:aq} {o:ai} {q:aj} (hk:c.aB[i]?=some k) (hm:ms[i]?=some m) (hC:iV k (F k m) o q)
  (lo:os1.length=c.aB.length) (lc:cs1.length=c.aB.length) (ho:os1[i]?=some o) (hq:cs1[i]?=some q) (no:∀ j,i≠j→os1[j]?=s.2.2[j]?) (nq:∀ j,i≠j→cs1[j]?=s.2.1[j]?)
  (he:(EQ=s.1∧(zA m=true→zA (F k m)=true))∨EQ=s.1++[(i:Int)]):nR c ms BP cs0 F (i+1) (EQ,cs1,os1):=by
 refine ⟨lo,lc,fun j k' m' o' q' hj h1 h2 h3 h4 => ?_,fun j hj => ?_,?_,fun j k' m' hj h1 h2 h3 h4 => ?_⟩
 ·simp only at h3 h4
  by_cases e:i=j
  ·subst e
   rw [hk] at h1;rw [hm] at h2;rw [ho] at h3;rw [hq] at h4
   cases h1;cases h2;cases h3;cases h4
   exact hC
  ·rw [no j e] at h3
   rw [nq j e] at h4
   exact J.dn j k' m' o' q' (by omega) h1 h2 h3 h4
 ·have:=J.nt j (by omega)
  simp only
  rw [no j (by omega),nq j (by omega)]
  exact this
 ·have:=J.el
  rcases he with ⟨e,_⟩ | e
  ·simp only [e];omega
  ·simp only [e,uo,uj,uq];omega
 ·by_cases e:i=j
  ·subst e
   rw [hk] at h1;rw [hm] at h2
   cases h1;cases h2
   rcases he with ⟨_,e2⟩ | e2
   ·rw [e2 h3] at h4;cases h4
   ·simp only [e2];exact ul.2 (.inr (by simp))
  ·have:=J.en j k' m' (by omega) h1 h2 h3 h4
   rcases he with ⟨e2,_⟩ | e2
   ·simp only [e2];exact this
   ·simp only [e2];exact ul.2 (.inl this)
theorem nR.fin {s:List Int×List aj×List ai} (J:nR c ms BP cs0 F c.aB.length s) (hl:ms.length=c.aB.length):eb c (ms.mapIdx (dB c F)) s.2.2 s.2.1:=by
 refine ⟨J.lo,J.lc,fun i k m o q h1 h2 h3 h4 => ?_⟩
 have hi:=(ub.1 h1).1
 rw [uf] at h2
 obtain ⟨m0,h5,h6⟩:=uw.1 h2
 simp only [dB,h1] at h6
 rw [←h6]
 exact J.dn i k m0 o q hi h1 h5 h3 h4
theorem U4 (hn:NR c ms) (hl:ms.length=c.aB.length) (hcd:∀ (i:Nat) (k:aL),c.aB[i]?=some k→∀ x∈k.start,0≤x.clause∧x.clause < c.aB.length) (hF:∀ k m,zA m=false→F k m=m) (CK:∀ (i:Nat) (k:aL) (m:aq),c.aB[i]?=some k→ms[i]?=some m→zA m=true→(F k m).aH≠0) {k:aL} (hk:c.aB[i]?=some k) (hr:qv c.aB (ms.mapIdx (dB c F)) i=true) :
  ∃ x∈k.start,∃ k' m',c.aB[x.clause.toNat]?=some k'∧ms[x.clause.toNat]?=some m'∧zA m'=true∧zA (F k' m')=false:=by
 have hi:=(ub.1 hk).1
 have hm:=ua (show i < ms.length by omega)
 have get:∀ (j:Nat) (k':aL) (m':aq),c.aB[j]?=some k'→ms[j]?=some m'→(ms.mapIdx (dB c F))[j]?=some (F k' m'):=fun j k' m' h1 h2=>by
  rw [uf,h2]
  simp [dB,h1]
 obtain ⟨a1,a2,a3⟩:=(xO hk (get i k _ hk hm)).1 hr
 have fZ:zA ms[i]=false:=by
  cases h:zA ms[i] with
  | false=>rfl
  | true=>exact absurd a1 (CK i k _ hk hm h)
 rw [hF k _ fZ] at a1
 have sJ:=hn i hi
 have hna:k.start.all (qH ms)=false:=by
  cases h:k.start.all (qH ms) with
  | false=>rfl
  | true=>rw [(xO hk hm).2 ⟨a1,a2,h⟩] at sJ;cases sJ
 obtain ⟨x,hx,hc⟩:=u7.1 hna
 have hx1:=Uc.1 a3 x hx
 obtain ⟨x0,x1⟩:=hcd i k hk x hx
 have oN:=ua (show x.clause.toNat < c.aB.length by omega)
 have hmx:=ua (show x.clause.toNat < ms.length by omega)
 have e1:zf ms x.clause=some ms[x.clause.toNat]:=by unfold zf;rw [if_pos x0];exact hmx
 have e2:zf (ms.mapIdx (dB c F)) x.clause=some (F c.aB[x.clause.toNat] ms[x.clause.toNat]):=by unfold zf;rw [if_pos x0];exact get _ _ _ oN hmx
 refine ⟨x,hx,_,_,oN,hmx,?_⟩
 generalize c.aB[x.clause.toNat]=k' at e2 oN
 generalize hmm:ms[x.clause.toNat]=m' at e1 e2 hmx
 cases h1:zA m' with
 | false=>
  exfalso
  rw [hF k' m' h1] at e2
  refine hc ?_
  unfold qH at hx1 ⊢
  rw [e2] at hx1
  rw [e1];exact hx1
 | true=>
  refine ⟨rfl,?_⟩
  cases h2:zA (F k' m') with
  | false=>rfl
  | true=>
   exfalso
   refine hc ?_
   unfold qH at hx1 ⊢
   rw [e2] at hx1
   rw [e1]
   simp only [zA,uJ,beq_iff_eq] at h1 h2
   have g:∀ s:Int,s=1∨s=2→(s == 0)=false∧(s == 3)=false∧(s == 4)=false∧(s == 5)=false:=fun s hs=>by
    rcases hs with rfl | rfl<;>decide
   obtain ⟨p1,p2,p3,p4⟩:=g _ h1
   obtain ⟨q1,q2,q3,q4⟩:=g _ h2
   simp only [q1,q2,q3,q4] at hx1
   simp only [p1,p2,p3,p4]
   exact hx1
end
def jL (k:aL) (o:ai) (d st:Int):ai:=if d < k.after then o else if d < k.after+k.cX then {o with aH:=2} else {o with aH:=(if k.kind=1 then 4 else if k.kind=2 then 3 else 5),to:=st}
theorem iV.tick {c:ax} {i:Nat} {k:aL} {m:aq} {o:ai} {q:aj} {st:Int} {free:Bool} (C:iV k m o q) (kv:KV c i k) (hg:k.kind≠1→k.cX=0) (hmk:qP c.aN k m=true) (hr:zA m=true) (hp:(m.aT||(k.bV&&free))=false) (hst:0≤st) :
  iV k (qV free k m) (jL k o (q.aJ+1) st) {aJ:=q.aJ+1,aT:=q.aT}∧(zA (qV free k m)=decide (q.aJ+1 < k.after+k.cX))∧0≤q.aJ∧q.aJ≤800:=by
 obtain ⟨c1,c2,c3,c4⟩:=C.run hr
 obtain ⟨rv,_,hs⟩:=xA kv hmk hr
 have ha:=kv.after
 have hgr:=kv.cX
 have hlf:=rv.left
 have hfr:=C.fr rv.bq
 have hm0:m.aH≠0:=by omega
 have IX:m.aT=false:=by
  cases h:m.aT with
  | false=>rfl
  | true=>rw [h] at hp;cases hp
 have mX:∀ (s:Int),(s=3∨s=4∨s=5)→iV k (x5 s m) {o with aH:=s,to:=st} {aJ:=q.aJ+1,aT:=q.aT}∧zA (x5 s m)=false:=fun s hs=>by
  have e:zA (x5 s m)=false:=by rcases hs with rfl | rfl | rfl<;>rfl
  refine ⟨⟨rfl,C.got,C.br,fun h => ?_,fun h => ?_,fun _ _=>hst,fun _ _=>hfr hm0⟩,e⟩
  ·have h:s=0:=h;omega
  ·rw [e] at h;cases h
 unfold qV
 rw [hr,bL,hp,bM]
 by_cases hz:m.left - 1=0
 ·rw [beq_iff_eq.2 hz,bL]
  by_cases h1:k.kind=1
  ·rw [beq_iff_eq.2 h1,bL]
   by_cases h2:m.aH=1∧0 < k.cX
   ·rw [beq_iff_eq.2 h2.1,decide_eq_true h2.2]
    have hd:q.aJ+1=k.after:=by omega
    have e1:jL k o (q.aJ+1) st={o with aH:=2}:=by unfold jL;rw [if_neg (by omega),if_pos (by omega)]
    rw [e1]
    refine ⟨⟨rfl,C.got,C.br,fun h => ?_,fun _=>⟨c1,c2,c3,.inr ⟨rfl,?_⟩⟩,fun _ h => ?_,fun _ _=>c1⟩,?_,by omega,by omega⟩
    ·have h:(2:Int)=0:=h;omega
    ·show q.aJ+1=k.after+k.cX - k.cX;omega
    ·have h:(((2:Int) == 1)||((2:Int) == 2))=false:=h;cases h
    ·rw [decide_eq_true (by omega)];rfl
   ·have e:(m.aH == 1&&decide (0 < k.cX))=false:=by
     rw [u9];simp only [ne_eq,ue,beq_iff_eq,decide_eq_true_eq];exact h2
    rw [e]
    have hd:¬ q.aJ+1 < k.after+k.cX:=by omega
    have e1:jL k o (q.aJ+1) st={o with aH:=4,to:=st}:=by unfold jL;rw [if_neg (by omega),if_neg hd,if_pos h1]
    rw [e1]
    obtain ⟨g1,g2⟩:=mX 4 (by omega)
    exact ⟨g1,by rw [decide_eq_false hd];exact g2,by omega,by omega⟩
  ·have nT:=hg h1
   rw [beq_eq_false_iff_ne.2 h1,bM]
   have hs1:m.aH=1:=by omega
   have hd:¬ q.aJ+1 < k.after+k.cX:=by omega
   by_cases h2:k.kind=2
   ·rw [beq_iff_eq.2 h2,bL]
    have e1:jL k o (q.aJ+1) st={o with aH:=3,to:=st}:=by unfold jL;rw [if_neg (by omega),if_neg hd,if_neg h1,if_pos h2]
    rw [e1]
    obtain ⟨g1,g2⟩:=mX 3 (by omega)
    exact ⟨g1,by rw [decide_eq_false hd];exact g2,by omega,by omega⟩
   ·rw [beq_eq_false_iff_ne.2 h2,bM]
    have e1:jL k o (q.aJ+1) st={o with aH:=5,to:=st}:=by unfold jL;rw [if_neg (by omega),if_neg hd,if_neg h1,if_neg h2]
    rw [e1]
    obtain ⟨g1,g2⟩:=mX 5 (by omega)
    exact ⟨g1,by rw [decide_eq_false hd];exact g2,by omega,by omega⟩
 ·rw [beq_eq_false_iff_ne.2 hz,bM]
  have hd:q.aJ+1 < k.after+k.cX:=by omega
  have e1:jL k o (q.aJ+1) st={o with aH:=m.aH}:=by
   unfold jL
   by_cases h1:q.aJ+1 < k.after
   ·rw [if_pos h1,←C.st]
   ·rw [if_neg h1,if_pos hd]
    have:m.aH=2:=by omega
    rw [this]
  rw [e1]
  refine ⟨⟨rfl,C.got,C.br,fun h=>absurd h hm0,fun _=>⟨c1,c2,c3,?_⟩,fun _ h => ?_,fun _ _=>c1⟩,?_,by omega,by omega⟩
  ·rcases c4 with ⟨a1,a2⟩ | ⟨a1,a2⟩
   ·exact .inl ⟨a1,by show q.aJ+1=k.after - (m.left - 1);omega⟩
   ·exact .inr ⟨a1,by show q.aJ+1=k.after+k.cX - (m.left - 1);omega⟩
  ·have h:zA m=false:=h
   rw [hr] at h;cases h
  ·rw [decide_eq_true hd];exact hr
end
section
section
variable {c:ax} {ms:List aq} {os os1:List ai} {cs cs1:List aj} {i:Nat} {k:aL} {m:aq} {o:ai} {q:aj} {st:Int}
theorem Qo (s:Int) (hi:i < c.aB.length) (ho:os1[i]?=some o) (p3:ax) (p5:Int) (p6:List Int) (p7:Nat) (p8:List Bool) (p9:Nat) (bE:List aj) (bX:Nat) (bR:ax) (fO:List (Int×List Int)) :
  di (i:Int) s p3 st p5 p6 p7 p8 p9 bE bX os1 c.aB.length bR fO=some (os1.set i {o with aH:=s,to:=st}):=by
 unfold di
 rw [zC hi]
 simp only [aS,ho,uN]
theorem YG (hi:i < c.aB.length) (ho:os1[i]?=some o) (C:iV k m o q) {p:Int} (hm:qP p k m=true) (p2:ax) (p3 p4:Int) (p5:List Int) (p6:Nat) (p7:List Bool) (p8:Nat) (p9:List aj) (bE:Nat) (bJ:ax) (bR:List (Int×List Int)) :
  eM (i:Int) p2 p3 p4 p5 p6 p7 p8 p9 bE os1 c.aB.length bJ bR=some (zA m):=by
 unfold eM
 rw [zC hi]
 simp only [aS,ho]
 rw [C.runs hm];rfl
theorem U5 {free:Bool} (h:(!zA m||(m.aT||(k.bV&&free)))=true):qV free k m=m:=by
 unfold qV
 cases hr:zA m with
 | false=>rfl
 | true=>
  rw [hr] at h
  simp only [u5,Ue] at h
  rw [h];rfl
theorem U6 {day:Int} (ho:c.off.length < 4611686018427387904) (hv:(z8 c).1=0) (hm:fC c ms) (hC:eb c ms os cs) (hst:0≤st) (p1:Int) (p5:List Int) (p6:Nat) (p7:List Bool) (p8:Nat) (bR:List (Int×List Int)) :
  ay (J8 p1 c st day p5 p6 p7 p8 cs c.aB.length os c.aB.length c bR) (fun r=>nR c ms os cs (qV (jK c.off day).isSome) c.aB.length r):=by
 have sm:=qn ho hv
 have dY:=sm.aB
 have hl:=hm.1
 unfold J8
 refine ay.az (U3 c day (Iz ho hv) ho) ?_
 generalize (jK c.off day).isSome=free
 refine ay.bind (P:=fun o:(List Int×List aj×List ai) ⊕ Unit=>∃ s,o=.inl s∧nR c ms os cs (qV free) c.aB.length s)
  (ay.dS (nR c ms os cs (qV free)) (by omega) ⟨hC.lo,hC.lc,fun j _ _ _ _ hj=>by omega,fun _ _=>⟨rfl,rfl⟩,by simp,fun j _ _ hj=>by omega⟩ ?_ (fun s h=>⟨s,rfl,h⟩)) (by rintro _ ⟨s,rfl,h⟩;exact ay.some h)
 rintro i ⟨en,cs1,os1⟩ hi J
 have J1:=J.lo
 have J2:=J.lc
 have J3:=J.el
 obtain ⟨n1,n2⟩:=J.nt i (uM i)
 simp only at J1 J2 J3 n1 n2
 obtain ⟨k,m,o,q,h1,h2,h3,h4,C⟩:=hC.get hl hi
 have hmk:=hm.2 i k m h1 h2
 have kv:=jd ho hv h1
 rw [h3] at n1
 rw [h4] at n2
 refine ay.bind (P:=fun s=>nR c ms os cs (qV free) (i+1) s) ?_ (fun s hs=>ay.some hs)
 refine ay.az (zt h1) ?_
 refine ay.az (v := !zA m||(m.aT||(k.bV&&free))) ?_ ?_
 ·rw [YG hi n1 C hmk]
  simp only [aS]
  cases hr:zA m with
  | false=>rfl
  | true=>
   obtain ⟨_,_,c3,_⟩:=C.run hr
   rw [zC hi]
   simp only [aS,n2,bL,c3,u5,Ue]
   cases m.aT<;>cases k.bV<;>cases free<;>rfl
 refine ay.ite (fun hb=>ay.some ?_) (fun hb => ?_)
 ·have e:=U5 hb
  exact J.step h1 h2 (by rw [e];exact C) J1 J2 n1 n2 (fun _ _=>rfl) (fun _ _=>rfl) (.inl ⟨rfl,fun h=>by rw [e];exact h⟩)
 ·simp only [uF,uV] at hb
  obtain ⟨hr,gb,mq⟩:=hb
  have hp:(m.aT||(k.bV&&free))=false:=by rw [gb,mq];rfl
  obtain ⟨C2,ng,iC,hd8⟩:=C.tick kv (YF hv h1).1 hmk hr hp hst
  have kva:=kv.after
  have kvg:=kv.cX
  have ew:IntKind.i64.wrap (q.aJ+1)=q.aJ+1:=zZ (by omega) (by omega)
  have U7:IntKind.i64.wrap (k.after+k.cX)=k.after+k.cX:=zZ (by omega) (by omega)
  refine ay.az (zC hi) ?_
  refine ay.az n2 ?_
  refine ay.az (zC hi) ?_
  refine ay.az (v:={aJ:=q.aJ+1,aT:=q.aT}) (by rw [uc (show i < cs1.length by omega),ew]) ?_
  rw [ew,U7]
  refine ay.bind (P:=fun v=>(q.aJ+1 < k.after+k.cX∧v=.inr (os1.set i (jL k o (q.aJ+1) st)))∨(¬ q.aJ+1 < k.after+k.cX∧v=.inl (os1.set i (jL k o (q.aJ+1) st)))) ?_ ?_
  ·refine ay.ite (fun g=>ay.some ?_) (fun g => ?_)
   ·have g:=of_decide_eq_true g
    simp only at g
    have e:jL k o (q.aJ+1) st=o:=by unfold jL;rw [if_pos g]
    rw [e,qK n1]
    exact .inl ⟨by omega,rfl⟩
   have g:=of_decide_eq_false g
   simp only at g
   refine ay.ite (fun g2 => ?_) (fun g2 => ?_)
   ·have g2:=of_decide_eq_true g2
    simp only at g2
    refine ay.az (zC hi) ?_
    refine ay.az n1 ?_
    refine ay.some (.inl ⟨g2,?_⟩)
    unfold jL
    rw [if_neg g,if_pos g2]
   have g2:=of_decide_eq_false g2
   simp only at g2
   refine ay.ite (fun g3 => ?_) (fun g3 => ?_)
   ·refine ay.az (Qo 4 hi n1 _ _ _ _ _ _ _ _ _ _) ?_
    refine ay.some (.inr ⟨g2,?_⟩)
    unfold jL
    rw [if_neg g,if_neg g2,if_pos (beq_iff_eq.1 g3)]
   have g3:=beq_eq_false_iff_ne.1 g3
   refine ay.ite (fun g4 => ?_) (fun g4 => ?_)
   ·refine ay.az (Qo 3 hi n1 _ _ _ _ _ _ _ _ _ _) ?_
    refine ay.some (.inr ⟨g2,?_⟩)
    unfold jL
    rw [if_neg g,if_neg g2,if_neg g3,if_pos (beq_iff_eq.1 g4)]
   ·have g4:=beq_eq_false_iff_ne.1 g4
    refine ay.az (Qo 5 hi n1 _ _ _ _ _ _ _ _ _ _) ?_
    refine ay.some (.inr ⟨g2,?_⟩)
    unfold jL
    rw [if_neg g,if_neg g2,if_neg g3,if_neg g4]
  ·rintro _ (⟨g,rfl⟩ | ⟨g,rfl⟩)
   ·refine ay.some (J.step h1 h2 C2 (by rw [ug];exact J1) (by rw [ug];exact J2) (uc (show i < os1.length by omega)) (uc (show i < cs1.length by omega)) (fun j hj=>ud hj) (fun j hj=>ud hj) (.inl ⟨rfl,fun _=>by rw [ng];exact decide_eq_true g⟩))
   ·refine ay.az (jo (by simp only [uj,uq];omega)) ?_
    exact ay.some (J.step h1 h2 C2 (by rw [ug];exact J1) (by rw [ug];exact J2) (uc (show i < os1.length by omega)) (uc (show i < cs1.length by omega)) (fun j hj=>ud hj) (fun j hj=>ud hj) (.inr rfl))
def YH (k:aL) (o:ai) (q:aj) (bI st:Int):Bool×ai:=
 if k.kind=4∨o.bg=bI then (if k.kind=1 then (if o.got+1 < k.need then (false,{o with got:=o.got+1}) else (true,{o with got:=o.got+1,aH:=3,to:=st}))
  else if k.kind=2 then (if q.aT=true then (false,o) else (true,{o with aH:=4,to:=st})) else (true,{o with aH:=3,to:=st})) else (false,o)
theorem U8 (hi:i < c.aB.length) (hk:c.aB[i]?=some k) (ho:os1[i]?=some o) (hq:cs1[i]?=some q) (hg:0≤o.got∧o.got≤9) (bI:Int) (p5:Int) (p6:List Int) (p7:Nat) (p8:List Bool) (p9:Nat) (bR:ax) (fO:List (Int×List Int)) :
  iw (i:Int) bI c st p5 p6 p7 p8 p9 cs1 c.aB.length os1 c.aB.length bR fO=some ((YH k o q bI st).1,os1.set i (YH k o q bI st).2):=by
 have pE:=(ub.1 ho).1
 have ew:IntKind.i64.wrap (o.got+1)=o.got+1:=zZ (by omega) (by omega)
 unfold iw
 rw [zt hk]
 simp only [aS,zC hi,ho]
 have lI:(bif k.kind == 4 then some false else some (!(o.bg == bI)))=some (decide (¬ (k.kind=4∨o.bg=bI))):=by
  by_cases h4:k.kind=4
  ·rw [beq_iff_eq.2 h4,decide_eq_false (by simp [h4])];rfl
  ·rw [beq_eq_false_iff_ne.2 h4]
   by_cases hb:o.bg=bI
   ·rw [beq_iff_eq.2 hb,decide_eq_false (by simp [hb])];rfl
   ·rw [beq_eq_false_iff_ne.2 hb,decide_eq_true (by simp [h4,hb])];rfl
 rw [lI]
 simp only [aS]
 unfold YH
 by_cases hh:k.kind=4∨o.bg=bI
 ·rw [decide_eq_false (by simp [hh]),cond_false,if_pos hh]
  by_cases h1:k.kind=1
  ·rw [beq_iff_eq.2 h1,bL,if_pos h1,ew]
   rw [uc pE]
   simp only [aS]
   by_cases hn:o.got+1 < k.need
   ·rw [decide_eq_true hn,bL,if_pos hn];rfl
   ·rw [decide_eq_false hn,bM,if_neg hn]
    rw [Qo (c:=c) 3 hi (uc pE)]
    simp only [aS,uN,uO]
  ·rw [beq_eq_false_iff_ne.2 h1,bM,if_neg h1]
   by_cases h2:k.kind=2
   ·rw [beq_iff_eq.2 h2,bL,if_pos h2]
    simp only [hq,aS]
    cases hp:q.aT with
    | true=>simp only [bL,aS,Sum.elim_inr,if_true];rw [qK ho]
    | false=>
     rw [bM,Qo (c:=c) 4 hi ho]
     rfl
   ·rw [beq_eq_false_iff_ne.2 h2,bM,if_neg h2]
    rw [Qo (c:=c) 3 hi ho]
    rfl
 ·rw [decide_eq_true hh,bL,if_neg hh]
  simp only [qK ho]
end
end
section
theorem yN {c:ax} (F G:aL→aq→aq) (ms:List aq):(ms.mapIdx (dB c F)).mapIdx (dB c G)=ms.mapIdx (dB c fun k m=>G k (F k m)):=by
 refine uP fun i => ?_
 rw [uf,uf,uf]
 cases ms[i]? with
 | none=>rfl
 | some m=>
  simp only [uK,dB]
  cases c.aB[i]?<;>rfl
def mY (act bI:Int) (a:aV) (k:aL) (m:aq):aq:=bif a.kind == 3 then jk a k (x6 act bI k (qZ act k m)) else x6 act bI k (qZ act k m)
theorem IY (c:ax) (act:Int) (a:aV) (hs:List Int) (ms:List aq):nQ c act a hs ms=ms.mapIdx (dB c (mY act (z6 hs a) a)):=by
 unfold nQ eN fp
 cases h:(a.kind == 3) with
 | false=>
  rw [bM,yN]
  unfold mY
  rw [h];rfl
 | true=>
  rw [bL,yN,yN]
  unfold mY
  rw [h];rfl
theorem Ji {act b:Int} {k:aL} {m:aq} (h:zA m=false):x6 act b k (qZ act k m)=m:=by
 have e1:qZ act k m=m:=by unfold qZ;rw [h];rfl
 rw [e1];unfold x6;rw [h];rfl
theorem U9 {act b:Int} {a:aV} {k:aL} {m:aq} (h:zA m=false):mY act b a k m=m:=by
 have e3:jk a k m=m:=by unfold jk;rw [h];rfl
 unfold mY
 rw [Ji h,e3]
 cases (a.kind == 3)<;>rfl
theorem zhD {a:aV} {k:aL} {m:aq}:(jk a k m).aH=m.aH:=by
 unfold jk
 cases zA m with
 | false=>rfl
 | true=>
  simp only [bL]
  cases (!(k.kind == 4)&&k.bW == a.cM)<;>rfl
theorem VQ {act b:Int} {a:aV} {k:aL} {m:aq}:(mY act b a k m).aH=(x6 act b k (qZ act k m)).aH:=by
 unfold mY
 cases (a.kind == 3) with
 | false=>rfl
 | true=>exact zhD
theorem zcv {m m':aq} (h:m.aH=m'.aH):zA m=zA m':=by unfold zA;rw [h]
section
variable {c:ax} {ms:List aq} {os os1:List ai} {cs cs1:List aj} {i:Nat} {k:aL} {m:aq} {o:ai} {q:aj} {st:Int}
def WF (k:aL) (o:ai) (q:aj) (act bI st:Int):Bool×ai:=if k.act=act then YH k o q bI st else (false,o)
def mZ (k:aL) (q:aj) (act:Int):aj:={aJ:=q.aJ,aT:=if k.resume=act then false else if k.bH=act then true else q.aT}
theorem iV.act {act bI:Int} (C:iV k m o q) (kv:KV c i k) (hna:k.kind≠4→vS c.aK k.act=false) (hpr:(k.bH = -1∧k.resume = -1)∨k.bH≠k.resume) (hmk:qP c.aN k m=true) (hr:zA m=true) (ha:0≤act) (hst:0≤st) :
  iV k (x6 act bI k (qZ act k m)) (WF k o q act bI st).2 (mZ k q act)∧zA (x6 act bI k (qZ act k m))=!(WF k o q act bI st).1∧(x6 act bI k (qZ act k m)).aH≠0:=by
 obtain ⟨c1,c2,c3,c4⟩:=C.run hr
 obtain ⟨rv,_,hs⟩:=xA kv hmk hr
 have hfr:=C.fr rv.bq
 have hm0:m.aH≠0:=by omega
 have IX:qZ act k m={m with aT:=(mZ k q act).aT}:=by
  unfold qZ mZ
  rw [hr,bL]
  by_cases e1:k.bH=act
  ·rw [beq_iff_eq.2 e1.symm,bL]
   have:¬ k.resume=act:=by omega
   rw [if_neg this,if_pos e1]
  ·rw [beq_eq_false_iff_ne.2 (fun h=>e1 h.symm),bM]
   by_cases e2:k.resume=act
   ·rw [beq_iff_eq.2 e2.symm,bL,if_pos e2]
   ·rw [beq_eq_false_iff_ne.2 (fun h=>e2 h.symm),bM,if_neg e2,if_neg e1,c3]
 rw [IX]
 have cq:zA {m with aT:=(mZ k q act).aT}=true:=hr
 unfold x6
 rw [cq,bL]
 have hit:(k.act == act&&(k.kind == 4||({m with aT:=(mZ k q act).aT}:aq).bg == bI))=decide (k.act=act∧(k.kind=4∨o.bg=bI)):=by
  rw [Bool.eq_iff_iff]
  simp only [ue,uJ,beq_iff_eq,decide_eq_true_eq]
  rw [C.br]
 rw [hit]
 by_cases h:k.act=act∧(k.kind=4∨o.bg=bI)
 case neg=>
  rw [decide_eq_false h,bM]
  have e:WF k o q act bI st=(false,o):=by
   unfold WF YH
   by_cases h1:k.act=act
   ·rw [if_pos h1,if_neg (fun g=>h ⟨h1,g⟩)]
   ·rw [if_neg h1]
  rw [e]
  exact ⟨⟨C.st,C.got,C.br,fun g=>absurd g hm0,fun _=>⟨c1,c2,rfl,c4⟩,fun _ g=>(by rw [cq] at g;cases g),fun _ _=>c1⟩,cq,hm0⟩
 case pos=>
  rw [decide_eq_true h,bL]
  obtain ⟨h1,h2⟩:=h
  have mX:∀ (s g:Int) (m1:aq),(s=3∨s=4∨s=5)→m1.got=g→m1.bg=m.bg→iV k (x5 s m1) {o with got:=g,aH:=s,to:=st} (mZ k q act)∧zA (x5 s m1)=false∧(x5 s m1).aH≠0:=fun s g m1 hs hg hb=>by
   have e:zA (x5 s m1)=false:=by rcases hs with rfl | rfl | rfl<;>rfl
   have e0:(x5 s m1).aH≠0:=by show s≠0;omega
   refine ⟨⟨rfl,hg.symm,by show o.bg=m1.bg;rw [hb];exact C.br,fun h=>absurd h e0,fun h => ?_,fun _ _=>hst,fun _ _=>c1⟩,e,e0⟩
   rw [e] at h;cases h
  unfold CE WF YH
  rw [if_pos h1,if_pos h2]
  by_cases k1:k.kind=1
  ·rw [beq_iff_eq.2 k1,bL,if_pos k1]
   unfold CD
   have hg:=rv.got
   have hn:=kv.need
   simp only
   by_cases h3:m.got+1=k.need
   ·rw [beq_iff_eq.2 h3,bL,if_neg (by rw [C.got];omega)]
    obtain ⟨a1,a2,a3⟩:=mX 3 (o.got+1) {m with got:=m.got+1,aT:=(mZ k q act).aT} (by omega) (by rw [C.got]) rfl
    exact ⟨a1,a2,a3⟩
   ·rw [beq_eq_false_iff_ne.2 h3,bM,if_pos (by rw [C.got];omega)]
    refine ⟨⟨C.st,by show o.got+1=m.got+1;rw [C.got],C.br,fun g=>absurd g hm0,fun _=>⟨c1,c2,rfl,c4⟩,fun _ g => ?_,fun _ _=>c1⟩,cq,hm0⟩
    have g:zA m=false:=g
    rw [hr] at g;cases g
  ·rw [beq_eq_false_iff_ne.2 k1,bM,if_neg k1]
   by_cases k2:k.kind=2
   ·rw [beq_iff_eq.2 k2,bL,if_pos k2]
    have oT:=hna (by omega)
    have gb:k.bH≠act∧k.resume≠act:=by
     rcases kv.bH with ⟨p1,p2⟩ | ⟨p1,p2⟩
     ·omega
     ·refine ⟨fun e => ?_,fun e => ?_⟩
      ·rw [e,←h1,oT] at p1;cases p1
      ·rw [e,←h1,oT] at p2;cases p2
    have IZ:(mZ k q act).aT=q.aT:=by unfold mZ;simp only;rw [if_neg gb.2,if_neg gb.1]
    simp only
    rw [IZ]
    by_cases hp:q.aT=true
    ·rw [hp,bL,if_pos rfl]
     refine ⟨⟨C.st,C.got,C.br,fun g=>absurd g hm0,fun _=>⟨c1,c2,by rw [IZ];exact hp,c4⟩,fun _ g => ?_,fun _ _=>c1⟩,hr,hm0⟩
     have g:zA m=false:=g
     rw [hr] at g;cases g
    ·rw [if_neg hp]
     have hp:q.aT=false:=by simpa using hp
     rw [hp,bM]
     obtain ⟨a1,a2,a3⟩:=mX 4 o.got {m with aT:=false} (by omega) C.got.symm rfl
     exact ⟨a1,a2,a3⟩
   ·rw [beq_eq_false_iff_ne.2 k2,bM,if_neg k2]
    obtain ⟨a1,a2,a3⟩:=mX 3 o.got {m with aT:=(mZ k q act).aT} (by omega) C.got.symm rfl
    exact ⟨a1,a2,a3⟩
def F1 (takes:Bool) (act bI:Int) (k:aL) (m:aq):aq:=bif takes then x6 act bI k (qZ act k m) else m
structure BQ (c:ax) (ms:List aq) (hs:List Int) (hp:List Bool) (a:Nat) (x:aV) (takes:Bool) (r:List Int×List Int×List Bool×List aj×List ai):Prop where
 mh:eb c (ms.mapIdx (dB c fun k m=>bif takes then mY (a:Int) (z6 hs x) x k m else m)) r.2.2.2.2 r.2.2.2.1
 el:r.1.length≤c.aB.length
 en:∀ (j:Nat) (k:aL) (m:aq),c.aB[j]?=some k→ms[j]?=some m→zA m=true→zA (bif takes then mY (a:Int) (z6 hs x) x k m else m)=false→(j:Int)∈r.1
 hs:r.2.1=bif takes then hs3 x hs else hs
 hp:r.2.2.1=hp.set a true
theorem zkR {day:Int} {a:Nat} {x:aV} {hs:List Int} {hp:List Bool} {b:Bool} (ho:c.off.length < 4611686018427387904) (hv:(z8 c).1=0) (hm:fC c ms) (hC:eb c ms os cs) (hst:0≤st) (ha:c.aK[a]?=some x) (hh:hs.length=c.aC.length) (eD:hp.length=c.aK.length) (hb:hp[a]?=some b) (bR:List (Int×List Int)) :
  ay (J9 (a:Int) c st day hs hs.length hp c.aK.length cs c.aB.length os c.aB.length c bR) (fun r=>BQ c ms hs hp a x (x.kind == 1 || !b) r):=by
 have sm:=qn ho hv
 have dY:=sm.aB
 have hl:=hm.1
 have hal:=(ub.1 ha).1
 have av:=Q4 hv ha
 unfold J9
 refine ay.az (zt ha) ?_
 refine ay.az (v:=x.kind == 1 || !b) ?_ ?_
 ·cases (x.kind == 1) with
  | true=>rfl
  | false=>
   rw [zC (by omega)]
   simp only [aS,hb];rfl
 generalize htk:(x.kind == 1 || !b)=takes
 refine ay.az (zC (by omega)) ?_
 refine ay.az hb ?_
 refine ay.az (v:=z6 hs x) ?_ ?_
 ·unfold z6
  cases hr:(x.bW == -1) with
  | true=>rfl
  | false=>
   have h1:=beq_eq_false_iff_ne.1 hr
   have hro:0≤x.bW∧x.bW < c.aC.length:=by
    rcases av.bW with ⟨g,_⟩ | g
    ·exact absurd g h1
    ·exact g
   rw [bM,kL hro.1 (by omega)]
   simp only [aS]
   have hlt:x.bW.toNat < hs.length:=by omega
   rw [ua hlt];rfl
 have oT:vS c.aK (a:Int)=true→x.kind=1:=fun h=>by
  unfold vS at h
  rw [z7,ha] at h
  simp only [ue,beq_iff_eq] at h
  exact h.1
 refine ay.bind (P:=fun o:(List Int×List aj×List ai) ⊕ Unit=>∃ s,o=.inl s∧nR c ms os cs (F1 takes (a:Int) (z6 hs x)) c.aB.length s)
  (ay.dS (nR c ms os cs (F1 takes (a:Int) (z6 hs x))) (by omega) ⟨hC.lo,hC.lc,fun j _ _ _ _ hj=>by omega,fun _ _=>⟨rfl,rfl⟩,by simp,fun j _ _ hj=>by omega⟩ ?_ (fun s h=>⟨s,rfl,h⟩)) ?_
 ·rintro i ⟨en,cs1,os1⟩ hi J
  have J1:=J.lo
  have J2:=J.lc
  have J3:=J.el
  obtain ⟨n1,n2⟩:=J.nt i (uM i)
  simp only at J1 J2 J3 n1 n2
  obtain ⟨k,m,o,q,h1,h2,h3,h4,C⟩:=hC.get hl hi
  have hmk:=hm.2 i k m h1 h2
  have kv:=jd ho hv h1
  obtain ⟨km1,ER,ES⟩:=YF hv h1
  rw [h3] at n1
  rw [h4] at n2
  have pE:i < os1.length:=by omega
  have hic:i < cs1.length:=by omega
  refine ay.bind (P:=fun s=>nR c ms os cs (F1 takes (a:Int) (z6 hs x)) (i+1) s) ?_ (fun s hs=>ay.some hs)
  refine ay.az (zt h1) ?_
  refine ay.az (YG hi n1 C hmk _ _ _ _ _ _ _ _ _ _ _) ?_
  refine ay.ite (fun hr => ?_) (fun hr=>ay.some ?_)
  case refine_2=>
   have e:F1 takes (a:Int) (z6 hs x) k m=m:=by
    unfold F1
    rw [Ji hr]
    cases takes<;>rfl
   exact J.step h1 h2 (by rw [e];exact C) J1 J2 n1 n2 (fun _ _=>rfl) (fun _ _=>rfl) (.inl ⟨rfl,fun h=>by rw [e];exact h⟩)
  have hg9:0≤o.got∧o.got≤9:=by
   obtain ⟨rv,_,_⟩:=xA kv hmk hr
   have:=rv.got
   have:=kv.need
   rw [C.got];omega
  have hres:∃ e o' q',iV k (F1 takes (a:Int) (z6 hs x) k m) o' q'∧(zA (F1 takes (a:Int) (z6 hs x) k m)=!e)∧(bif takes then WF k o q a (z6 hs x) st else (false,o))=(e,o')∧q'=mZ k q a:=by
   cases hT:takes with
   | true=>
    obtain ⟨g1,g2,_⟩:=C.act (act:=(a:Int)) (bI:=z6 hs x) kv ER ES hmk hr (by omega) hst
    exact ⟨_,_,_,g1,g2,rfl,rfl⟩
   | false=>
    rw [hT] at htk
    simp only [uF,beq_eq_false_iff_ne] at htk
    have gb:k.bH≠(a:Int)∧k.resume≠(a:Int):=by
     rcases kv.bH with ⟨p1,p2⟩ | ⟨p1,p2⟩
     ·omega
     ·exact ⟨fun e=>htk.1 (oT (by rw [←e];exact p1)),fun e=>htk.1 (oT (by rw [←e];exact p2))⟩
    have eq:mZ k q (a:Int)=q:=by unfold mZ;rw [if_neg gb.2,if_neg gb.1]
    refine ⟨false,o,q,C,hr,rfl,eq.symm⟩
  obtain ⟨e,o',q',CL,ng,rV,rT⟩:=hres
  refine ay.bind (P:=fun v=>v=((if e=true then en++[(i:Int)] else en),os1.set i o')) ?_ ?_
  ·refine ay.az (v:=(e,os1.set i o')) ?_ ?_
   ·cases hT:takes with
    | false=>
     rw [hT] at rV
     cases rV
     rw [bM,qK n1]
    | true=>
     rw [hT,bL] at rV
     rw [bL]
     unfold WF at rV
     by_cases hact:k.act=(a:Int)
     ·rw [if_pos hact] at rV
      rw [beq_iff_eq.2 hact,bL,U8 hi h1 n1 n2 hg9,rV];rfl
     ·rw [if_neg hact] at rV
      cases rV
      rw [beq_eq_false_iff_ne.2 hact,bM,qK n1]
   ·cases e with
    | true=>
     rw [bL]
     refine ay.az (jo (by simp only [uj,uq];omega)) ?_
     exact ay.some rfl
    | false=>exact ay.some rfl
  rintro _ rfl
  refine ay.az (v:=cs1.set i {aJ:=q.aJ,aT:=if k.bH=(a:Int) then true else q.aT}) ?_ ?_
  ·by_cases gb:k.bH=(a:Int)
   ·rw [beq_iff_eq.2 gb,bL,zC hi]
    simp only [aS,n2]
    rw [if_pos gb]
   ·rw [beq_eq_false_iff_ne.2 gb,bM,if_neg gb,qK n2]
  have fin:nR c ms os cs (F1 takes (a:Int) (z6 hs x)) (i+1) ((if e=true then en++[(i:Int)] else en),cs1.set i q',os1.set i o'):=by
   refine J.step h1 h2 CL (by rw [ug];exact J1) (by rw [ug];exact J2) (uc pE) (uc hic) (fun j hj=>ud hj) (fun j hj=>ud hj) ?_
   cases e with
   | true=>exact .inr rfl
   | false=>exact .inl ⟨rfl,fun _=>ng⟩
  by_cases mq:k.resume=(a:Int)
  ·rw [beq_iff_eq.2 mq,bL]
   refine ay.az (zC hi) ?_
   refine ay.az (uc hic) ?_
   refine ay.some ?_
   rw [uN]
   have:q'={aJ:=q.aJ,aT:=false}:=by rw [rT];unfold mZ;rw [if_pos mq]
   rw [←this]
   exact fin
  ·rw [beq_eq_false_iff_ne.2 mq,bM]
   refine ay.some ?_
   have:q'={aJ:=q.aJ,aT:=if k.bH=(a:Int) then true else q.aT}:=by rw [rT];unfold mZ;rw [if_neg mq]
   rw [←this]
   exact fin
 ·rintro _ ⟨⟨en,cs1,os1⟩,rfl,J⟩
  have J1:=J.lo
  have J2:=J.lc
  have J3:=J.el
  have J4:=J.en
  simp only at J1 J2 J3 J4
  have hF:=J.fin hl
  refine ay.az (v := !takes||x.kind == 1) (by cases takes<;>rfl) ?_
  have hall:∀ (k:aL) (m:aq),zA (bif takes then mY (a:Int) (z6 hs x) x k m else m)=zA (F1 takes (a:Int) (z6 hs x) k m):=fun k m=>by
   cases takes with
   | false=>rfl
   | true=>exact zcv VQ
  refine ay.ite (fun h7=>ay.some ?_) (fun h7 => ?_)
  ·have eF:(fun (k:aL) (m:aq)=>bif takes then mY (a:Int) (z6 hs x) x k m else m)=F1 takes (a:Int) (z6 hs x):=by
    funext k m
    unfold F1 mY
    cases hT:takes with
    | false=>rfl
    | true=>
     rw [hT] at h7
     have:x.kind=1:=beq_iff_eq.1 h7
     rw [this];rfl
   refine ⟨by rw [eF];exact hF,J3,fun j k m g1 g2 g3 g4=>J4 j k m (ub.1 g1).1 g1 g2 g3 (by rw [←hall];exact g4),?_,rfl⟩
   cases hT:takes with
   | false=>rfl
   | true=>
    rw [hT] at h7
    have h7:(x.kind == 1)=true:=h7
    show hs=hs3 x hs
    unfold hs3;rw [h7];rfl
  ·simp only [uF,uV] at h7
   obtain ⟨rfl,hk1⟩:=h7
   have ET:=beq_eq_false_iff_ne.1 hk1
   obtain ⟨_,hgi,hto⟩:=av.kind.resolve_left ET
   refine ay.az (kL hgi.1 (by omega)) ?_
   have EU:x.cM.toNat < hs.length:=by omega
   refine ay.az (ua EU) ?_
   have iE:(ms.mapIdx (dB c (F1 true (a:Int) (z6 hs x)))).length=c.aB.length:=by rw [List.length_mapIdx];exact hl
   have I0:eb c (ms.mapIdx (dB c (F1 true (a:Int) (z6 hs x)))) os1 cs1:=hF
   have BR:∀ (j:Nat) (k:aL) (m:aq),c.aB[j]?=some k→(ms.mapIdx (dB c (F1 true (a:Int) (z6 hs x))))[j]?=some m→qP c.aN k m=true:=fun j k m g1 g2=>by
    rw [uf] at g2
    obtain ⟨m0,g3,g4⟩:=uw.1 g2
    simp only [dB,g1] at g4
    rw [←g4]
    exact ID (by have:=sm.aN;omega) (jd ho hv g1) (KI (by omega) (jd ho hv g1) (hm.2 j k m0 g1 g3))
   generalize EV:ms.mapIdx (dB c (F1 true (a:Int) (z6 hs x)))=fp at I0 iE BR
   refine ay.bind (P:=fun o:(List ai) ⊕ Unit=>∃ os2,o=.inl os2∧eb c (fp.mapIdx (dB c fun k m=>bif x.kind == 3 then jk x k m else m)) os2 cs1)
    (ay.dS (fun i os2=>os2.length=c.aB.length∧(∀ (j:Nat) (k:aL) (m:aq) (o:ai) (q:aj),j < i→c.aB[j]?=some k→fp[j]?=some m→os2[j]?=some o→cs1[j]?=some q→iV k (bif x.kind == 3 then jk x k m else m) o q)∧∀ j,i≤j→os2[j]?=os1[j]?) (by omega) ⟨J1,fun j _ _ _ _ hj=>by omega,fun _ _=>rfl⟩ ?_ (fun os2 h=>⟨os2,rfl,h.1,J2,fun i k m o q g1 g2 g3 g4 => ?_⟩)) ?_
   ·rintro i os2 hi ⟨K1,K2,K3⟩
    obtain ⟨k,m,o,q,h1,h2,h3,h4,C⟩:=I0.get iE hi
    have hmk:=BR i k m h1 h2
    have n1:=K3 i (uM i)
    rw [h3] at n1
    have pE:i < os2.length:=by omega
    refine ay.bind (P:=fun os3:List ai=>os3.length=c.aB.length∧(∀ (j:Nat) (k:aL) (m:aq) (o:ai) (q:aj),j < i+1→c.aB[j]?=some k→fp[j]?=some m→os3[j]?=some o→cs1[j]?=some q→iV k (bif x.kind == 3 then jk x k m else m) o q)∧∀ j,i+1≤j→os3[j]?=os1[j]?) ?_ (fun os3 hos=>ay.some hos)
    have I1:∀ (o':ai),iV k (bif x.kind == 3 then jk x k m else m) o' q→(os2.set i o').length=c.aB.length∧(∀ (j:Nat) (k:aL) (m:aq) (o:ai) (q:aj),j < i+1→c.aB[j]?=some k→fp[j]?=some m→(os2.set i o')[j]?=some o→cs1[j]?=some q→iV k (bif x.kind == 3 then jk x k m else m) o q)∧∀ j,i+1≤j→(os2.set i o')[j]?=os1[j]?:=fun o' hC'=>by
     refine ⟨by rw [ug];exact K1,fun j k' m' o2 q2 hj g1 g2 g3 g4 => ?_,fun j hj=>by rw [ud (by omega)];exact K3 j (by omega)⟩
     by_cases e:i=j
     ·subst e
      rw [h1] at g1;rw [h2] at g2;rw [uc pE] at g3;rw [h4] at g4
      cases g1;cases g2;cases g3;cases g4
      exact hC'
     ·rw [ud e] at g3
      exact K2 j k' m' o2 q2 (by omega) g1 g2 g3 g4
    refine ay.az (zt h1) ?_
    refine ay.az (v:=x.kind == 3&&(zA m&&(!(k.kind == 4)&&k.bW == x.cM))) ?_ ?_
    ·rw [YG hi n1 C hmk]
     cases (x.kind == 3)<;>cases zA m<;>cases (k.kind == 4)<;>rfl
    refine ay.ite (fun h8 => ?_) (fun h8=>ay.some ?_)
    ·simp only [ue] at h8
     obtain ⟨k3,hr,gS⟩:=h8
     refine ay.az (zC hi) ?_
     refine ay.az n1 ?_
     refine ay.some (I1 _ ?_)
     rw [k3,bL]
     unfold jk
     have gS:(!(k.kind == 4)&&k.bW == x.cM)=true:=by rw [ue];exact gS
     rw [hr,bL,gS,bL]
     obtain ⟨c1,c2,c3,c4⟩:=C.run hr
     exact ⟨C.st,C.got,rfl,C.idle,fun _=>⟨c1,c2,c3,c4⟩,C.done,C.fr⟩
    ·have:(bif x.kind == 3 then jk x k m else m)=m:=by
      cases h3':(x.kind == 3) with
      | false=>rfl
      | true=>
       rw [h3',Uf] at h8
       unfold jk
       cases hr:zA m with
       | false=>rfl
       | true=>
        rw [hr,Uf] at h8
        simp only [bL,h8,bM]
     have:=I1 o (by rw [this];exact C)
     rw [qK n1] at this
     exact this
   ·have hi:=(ub.1 g1).1
    rw [uf] at g2
    obtain ⟨m0,g5,g6⟩:=uw.1 g2
    simp only [dB,g1] at g6
    rw [←g6]
    exact h.2.1 i k m0 o q hi g1 g5 g3 g4
   ·rintro _ ⟨os2,rfl,CL⟩
    refine ay.some ⟨?_,J3,fun j k m g1 g2 g3 g4=>J4 j k m (ub.1 g1).1 g1 g2 g3 (by rw [←hall];exact g4),?_,rfl⟩
    ·rw [←EV,yN] at CL
     have:(fun (k:aL) (m:aq)=>bif true then mY (a:Int) (z6 hs x) x k m else m)=fun k m=>bif x.kind == 3 then jk x k (F1 true (a:Int) (z6 hs x) k m) else F1 true (a:Int) (z6 hs x) k m:=by
      funext k m;rfl
     rw [this]
     exact CL
    ·show hs.set x.cM.toNat x.to=hs3 x hs
     unfold hs3
     rw [hk1];rfl
end
end
theorem Ja {α:Type} [BEq α] [LawfulBEq α]:∀ {L1 L2:List α},L1.Nodup→(∀ x∈L1,x∈L2)→L1.length≤L2.length
 | [],L2,_,_=>by simp
 | a::l,L2,h,hs=>by
  obtain ⟨ha,hl⟩:=List.nodup_cons.1 h
  have hm:=hs a u6
  have ih:=Ja (L1:=l) (L2:=L2.erase a) hl fun x hx=>(List.mem_erase_of_ne (by rintro rfl;exact ha hx)).2 (hs x (u0 _ hx))
  rw [List.length_erase_of_mem hm] at ih
  have:0 < L2.length:=ux hm
  simp only [uj];omega
theorem fq.closed {c:ax} {zw:Int} {p:aA} {L:List aA} {M:List (List bA)} (F:fq c zw p L M) {q:aA} (hq:q∈L) {m:Int} (hm:m∈zn c zw q):target c q m∈L:=by
 obtain ⟨j,hj,e⟩:=uI hq
 have hjM:j < M.length:=by rw [F.len];exact hj
 have h:=F.mv j M[j] q (ua hjM) (by rw [ua hj,e])
 rw [←h.1] at hm
 obtain ⟨t,ht,rfl⟩:=ui.1 hm
 exact uS (h.2 t ht).2
theorem fq.EH {c:ax} {zw:Int} {p:aA} {L:List aA} {M:List (List bA)} (F:fq c zw p L M) {q x:aA} (hq:q∈L) (h:n6 c zw q x):x∈L:=by
 induction h with
 | base=>exact hq
 | step _ hm ih=>exact F.closed ih hm
section
def at_ (l:List Int) (i:Nat):Int:=l[i]?.getD 0
theorem vV {l:List Int} {i:Nat} (h:i < l.length):l[i]?=some (at_ l i):=by unfold at_;rw [ua h];rfl
theorem Zm {l:List Int} {i:Nat} (h:i < l.length) (x:Int):at_ (l.set i x)=upd (at_ l) i x:=by
 funext j
 unfold at_ upd
 by_cases e:j=i
 ·subst e;rw [if_pos rfl,uc h];rfl
 ·rw [if_neg e,ud (Ne.symm e)]
def cst (l:List Nat):List Int:=l.map fun x:Nat=>(x:Int)
theorem kQ (l:List Nat):(cst l).length=l.length:=uy _
theorem XS (l m:List Nat):cst (l++m)=cst l++cst m:=List.map_append
def YI (c:ax) (zw:Int) (aM:List aq) (i:Nat):Bool:=match c.aB[i]?,aM[i]? with
 | some k,some m=>k.final&&((m.aH == 4)&&(m.bg == zw))
 | _,_=>false
def zR (c:ax) (s:bn) (zw:Int):Bool := !((ur s.aM.length).all fun i=>!YI c zw s.aM i)
theorem KQ (c:ax) (s:bn) (zw:Int) (hl:s.aM.length=c.aB.length) (hs:s.aM.length < 4611686018427387904) :
  (aG (σ:=Unit) (ρ:=Unit) (s.aM.length:Int) (fun i1 s1=>(uu (zf s.aM (i1:Int)) fun e1=>(uu (uu (zf c.aB (i1:Int)) fun e2=>(bif e2.final then (bif (e1.aH == 4) then some (e1.bg == zw) else some false) else some false)) fun v1=>(bif v1 then some (.inr ()) else some (.inl ()))))) ()) =
   some (bif zR c s zw then .inr () else .inl ()):=by
 rw [ZH (fun i=>!YI c zw s.aM i) hs (fun j hj=>by
  have hk:j < c.aB.length:=by omega
  simp only [z7,ua hj,ua hk,aS,YI]
  cases (c.aB[j].final)<;>cases (s.aM[j].aH == 4)<;>cases (s.aM[j].bg == zw)<;>rfl)]
 unfold zR
 cases ((ur s.aM.length).all fun i=>!YI c zw s.aM i)<;>rfl
theorem zkS {c:ax} (hc:c.Ok) {s:bn} (hv:VS c s) (zw:Int):JW c s zw=some (zR c s zw):=by
 have:=(hv.rq hc).2.2
 unfold JW
 rw [KQ c s zw hv.lm (by omega)]
 cases zR c s zw<;>rfl
theorem I2 {c:ax} (hc:c.Ok) {s:bn} (hv:VS c s) {zw:Int} (h0:0≤zw) (h1:zw < c.aN):wX c s zw=some (zR c s zw):=by
 have:=(hv.rq hc).2.2
 unfold wX
 rw [decide_eq_false (show ¬ zw < 0 by omega),decide_eq_false (show ¬ c.aN≤zw by omega),Zl c s hc,Xe hv]
 simp only [bM,aS,u5]
 rw [KQ c s zw hv.lm (by omega)]
 cases zR c s zw<;>rfl
def gm (c:ax) (a:cF):Gm where
 n:=a.aR.length
 own i:=match a.aR[i]? with | some q=>q.own | none=>false
 lost i:=match a.aR[i]? with | some q=>zR c q.state a.zw | none=>false
 succ i:=match a.bO[i]? with | some T=>T.map fun m=>m.to.toNat | none=>[]
structure cC (c:ax) (zw:Int) (p:aA) (a:cF):Prop where
 p0:0≤zw
 p1:zw < c.aN
 pa:a.zw=zw
 F:fq c zw p a.aR a.bO
section
variable {c:ax} {zw:Int} {p:aA} {a:cF}
theorem cC.mv (A:cC c zw p a) {i:Nat} (hi:i < a.aR.length):∃ T,a.bO[i]?=some T∧l9 c zw a.aR a.aR[i] (zn c zw a.aR[i]) T:=by
 have h:i < a.bO.length:=by rw [A.F.len];exact hi
 exact ⟨a.bO[i],ua h,A.F.mv i _ _ (ua h) (ua hi)⟩
theorem cC.succ (A:cC c zw p a) {i:Nat} (hi:i < a.aR.length) {T:List bA} (hT:a.bO[i]?=some T):(gm c a).succ i=T.map fun m=>m.to.toNat:=by
 simp only [gm,hT]
theorem cC.to (A:cC c zw p a) {i:Nat} (hi:i < a.aR.length) {T:List bA} (hT:a.bO[i]?=some T) {m:bA} (hm:m∈T):0≤m.to∧m.to < a.aR.length:=by
 obtain ⟨T',h1,_,h3⟩:=A.mv hi
 rw [hT] at h1;cases h1
 obtain ⟨h4,h5⟩:=h3 m hm
 have:=(ub.1 h5).1
 omega
theorem cC.len (hc:c.Ok) (A:cC c zw p a) {i:Nat} (hi:i < a.aR.length) {T:List bA} (hT:a.bO[i]?=some T):T.length≤62:=by
 obtain ⟨T',h1,h2,_⟩:=A.mv hi
 rw [hT] at h1;cases h1
 have:=wn hc (zw:=zw) (A.F.inv.vs _ (ut hi))
 rw [←uy (f:=fun x:bA=>x.step),h2];exact this
theorem cC.closed (A:cC c zw p a):∀ i,i < (gm c a).n→∀ t∈(gm c a).succ i,t < (gm c a).n:=fun i hi t ht=>by
 obtain ⟨T,h1,_⟩:=A.mv hi
 rw [A.succ hi h1] at ht
 obtain ⟨m,hm,rfl⟩:=ui.1 ht
 have:=A.to hi h1 hm
 show m.to.toNat < a.aR.length
 omega
theorem cC.EW (hc:c.Ok) (A:cC c zw p a) (i:Nat) (hi:i < (gm c a).n):((gm c a).succ i).length≤62:=by
 obtain ⟨T,h1,_⟩:=A.mv hi
 rw [A.succ hi h1,uy];exact A.len hc hi h1
theorem zbJ (hc:c.Ok) (A:cC c zw p a):wh c a=some true:=by
 have h0:=A.p0
 have h1:=A.p1
 have hlen:=A.F.inv.len
 refine ay.eq ?_
 unfold wh
 rw [A.pa]
 refine ay.az (v:=false) (by rw [decide_eq_false (show ¬ zw < 0 by omega),decide_eq_false (show ¬ c.aN≤zw by omega),A.F.len];simp) ?_
 refine ay.ite (fun h=>by cases h) (fun _ => ?_)
 refine ay.bind (P:=fun o:Unit ⊕ Unit=>o=.inl ()) (ay.dS (fun _ _=>True) (by omega) trivial (fun i s hi _ => ?_) (fun _ _=>rfl)) ?_
 ·obtain ⟨T,hT,hM⟩:=A.mv hi
  have CM:=A.len hc hi hT
  refine ay.az (zt (ua hi)) ?_
  refine ay.az (zt hT) ?_
  refine ay.bind (P:=fun o:Unit ⊕ Unit=>o=.inl ()) (ay.dS (fun _ _=>True) (by omega) trivial (fun k s hk _ => ?_) (fun _ _=>rfl)) ?_
  ·have:=A.to hi hT (ut hk)
   refine ay.az (zt (ua hk)) ?_
   refine ay.az (v:=false) (by rw [decide_eq_false (show ¬ T[k].to < 0 by omega),decide_eq_false (show ¬ (a.aR.length:Int)≤T[k].to by omega)];rfl) ?_
   exact ay.some trivial
  ·rintro _ rfl
   refine ay.az (by rw [Zl c _ hc,Xe (A.F.inv.vs _ (ut hi))]) ?_
   exact ay.some trivial
 ·rintro _ rfl
  exact ay.some rfl
structure L1 (G:Gm) (i k:Nat) (dV:List (List Int)):Prop where
 len:dV.length=G.n
 row:∀ t,t < G.n→∃ l:List Nat,dV[t]?=some (cst l)∧l.length≤62*i+k∧∀ x,l.count x=if x < i then (G.succ x).count t else if x=i then ((G.succ i).take k).count t else 0
theorem L1.next {G:Gm} {i k:Nat} {dV:List (List Int)} (h:L1 G i k dV) (hk:k=(G.succ i).length) (hl:k≤62):L1 G (i+1) 0 dV:=by
 refine ⟨h.len,fun t ht => ?_⟩
 obtain ⟨l,h1,h2,h3⟩:=h.row t ht
 refine ⟨l,h1,by omega,fun x => ?_⟩
 rw [h3 x]
 by_cases e:x < i
 ·rw [if_pos e,if_pos (by omega)]
 ·rw [if_neg e]
  by_cases e2:x=i
  ·subst e2;rw [if_pos rfl,if_pos (by omega),hk,uG]
  ·rw [if_neg e2,if_neg (by omega)]
   split<;>simp
theorem L1.step {G:Gm} {i k:Nat} {dV:List (List Int)} (h:L1 G i k dV) (hn:G.n≤1500) (hi:i < G.n) (hk:k≤62) {to:Nat} (ht:(G.succ i)[k]?=some to) (hto:to < G.n):ay (vp dV G.n (to:Int) (i:Int)) (L1 G i (k+1)):=by
 obtain ⟨l,h1,h2,h3⟩:=h.row to hto
 have e:vp dV G.n (to:Int) (i:Int)=some (dV.set to (cst (l++[i]))):=by
  unfold vp
  rw [if_pos ⟨by omega,by omega,by omega⟩,Ua,h1]
  simp only
  rw [if_pos (by rw [kQ];omega),XS];rfl
 refine ⟨_,e,by rw [ug];exact h.len,fun t CN => ?_⟩
 have htk:(G.succ i).take (k+1)=(G.succ i).take k++[to]:=by
  obtain ⟨h5,h6⟩:=ub.1 ht
  rw [um h5,h6]
 by_cases e2:t=to
 ·subst e2
  refine ⟨l++[i],uc (by rw [h.len];exact CN),by simp;omega,fun x => ?_⟩
  rw [uQ,h3 x,htk,uQ]
  by_cases a1:x < i
  ·rw [if_pos a1,if_pos a1,uA (by omega)];simp
  ·rw [if_neg a1,if_neg a1]
   by_cases a2:x=i
   ·subst a2;rw [if_pos rfl,if_pos rfl];simp
   ·rw [if_neg a2,if_neg a2,uA (fun h=>a2 h.symm)];simp
 ·obtain ⟨l2,b1,b2,b3⟩:=h.row t CN
  refine ⟨l2,by rw [ud (Ne.symm e2)];exact b1,by omega,fun x => ?_⟩
  rw [b3 x,htk,uQ,uA (Ne.symm e2)];simp
structure L2 (G:Gm) (i:Nat) (s:List Int×List Int×List (List Int)×List Int):Prop where
 lr:s.1.length=G.n
 lo:s.2.1.length=G.n
 dV:L1 G i 0 s.2.2.1
 r:∀ j,j < i→at_ s.1 j=if G.lost j=true then 0 else -1
 o:∀ j,j < i→at_ s.2.1 j=((G.succ j).length:Int)
 k:s.2.2.2=cst ((ur i).filter G.lost)
theorem XU {b n:Nat} (h:n≤1500) (hb:b≤1000):eA b (n:Int)=some n:=by
 unfold eA
 have:n*b≤1500*1000:=Nat.mul_le_mul h hb
 rw [if_pos ⟨by omega,by omega,by push_cast;omega⟩,Ua]
end
end
section
section
variable {c:ax} {zw:Int} {p:aA} {a:cF}
theorem I3 {x:Int} {l:List Int} (nx:Int) (h:l.length≤4000):kb x l nx=some (l++[x]):=by
 unfold kb
 rw [jo (by simp;omega)];rfl
theorem VR {x:Nat} {v:Int} {r l:List Int} {n:Nat} (nx:Int) (hx:x < n) (hr:r.length=n) (h:l.length≤4000):kc (x:Int) v r n l nx=some (l++[(x:Int)],r.set x v):=by
 unfold kc
 rw [zC hx]
 simp only [aS]
 rw [vV (by omega),I3 nx h];rfl
def tM (G:Gm) (r:Nat→Int) (m:Nat):Prop:=∀ i,i < G.n→r i≤m
theorem zhE (hc:c.Ok) (A:cC c zw p a) {r o:List Int} {P Q:List Nat} {u x:Nat} {cn:Nat→Nat} (nx:Int) (hr:r.length=(gm c a).n) (ho:o.length=(gm c a).n)
  (h:fL (gm c a) (at_ r) (at_ o) P u Q cn) (hb:tM (gm c a) (at_ r) (P++u::Q).length) (hx:x < (gm c a).n) (CO:cn x < ((gm c a).succ x).count u) :
  ay (Qb (x:Int) (u:Int) o (gm c a).n r (gm c a).n a (cst (P++u::Q)) nx) (fun z=>z.1.length=(gm c a).n∧z.2.1.length=(gm c a).n∧∃ Q',z.2.2=cst (P++u::Q')∧fL (gm c a) (at_ z.2.1) (at_ z.1) P u Q' (upd cn x (cn x+1))∧tM (gm c a) (at_ z.2.1) (P++u::Q').length):=by
 have hn:(gm c a).n≤1500:=A.F.inv.len
 have hroom:=h.room hx CO
 have hop:=h.core.op x hx
 have Cg:=A.EW hc x hx
 have hcp:(((gm c a).succ x).countP (yn P))≤((gm c a).succ x).length:=List.countP_le_length
 have hKn:(P++u::Q).length≤(gm c a).n:=by
  have:=Ja (L2:=ur (gm c a).n) h.core.nd (fun y hy=>uk.2 (h.core.lt y hy))
  rwa [uD] at this
 obtain ⟨hu,hun,Cv,_,_⟩:=h.core.split
 have hgu:=h.core.ge u hun
 have CH:=h.core.ge x hx
 have CP:=hb u hun
 have hw1:IntKind.i64.wrap (at_ o x - 1)=at_ o x - 1:=zZ (by omega) (by omega)
 have pI:IntKind.i64.wrap (at_ r u+1)=at_ r u+1:=zZ (by omega) (by omega)
 have EX:at_ (o.set x (at_ o x - 1))=upd (at_ o) x (at_ o x - 1):=Zm (by omega) _
 have dI:(o.set x (at_ o x - 1))[x]?=some (at_ o x - 1):=uc (by omega)
 have hown:(gm c a).own x=(a.aR[x]'(hx)).own:=by
  show (match a.aR[x]? with | some q=>q.own | none=>false)=_
  rw [ua (show x < a.aR.length from hx)]
  rfl
 have hidx:zf a.aR (x:Int)=some (a.aR[x]'hx):=zt (ua (show x < a.aR.length from hx))
 unfold Qb
 refine ay.az (zC hx) ?_
 refine ay.az (vV (by omega)) ?_
 rw [hw1]
 by_cases e1:at_ r x = -1
 ·have CQ:(at_ r x == -1)=true:=by rw [e1];rfl
  by_cases e2:(gm c a).own x=false∨at_ o x - 1=0
  ·refine ay.az (v:=true) ?_ ?_
   ·rw [zC hx]
    simp only [aS]
    rw [vV (by omega:x < r.length)]
    simp only [aS,CQ,bL,hidx]
    rw [←hown]
    rcases e2 with e2 | e2
    ·rw [e2];rfl
    ·rw [dI]
     simp only [aS,e2]
     cases (gm c a).own x<;>rfl
   ·refine ay.ite (fun _ => ?_) (fun h=>by cases h)
    refine ay.az (zC hun) ?_
    refine ay.az (vV (by omega)) ?_
    rw [pI]
    refine ay.az (VR nx hx hr (by rw [kQ];omega)) ?_
    refine ay.some ⟨by simp [ho],by simp [hr],Q++[x],?_,?_,?_⟩
    ·rw [show P++u::(Q++[x])=(P++u::Q)++[x] by simp];exact (XS (P++u::Q) [x]).symm
    ·rw [EX,Zm (by omega)]
     exact h.settle A.closed hx CO e1 e2
    ·intro i hi
     simp only
     rw [Zm (by omega)]
     have:=hb i hi
     unfold upd
     simp only [uo,uj,uq] at this CP ⊢
     split<;>omega
  ·refine ay.az (v:=false) ?_ ?_
   ·rw [zC hx]
    simp only [aS]
    rw [vV (by omega:x < r.length)]
    simp only [aS,CQ,bL,hidx]
    rw [←hown]
    have e3:(gm c a).own x=true:=by
     cases hq:(gm c a).own x with
     | true=>rfl
     | false=>exact absurd (.inl hq) e2
    rw [e3,dI]
    simp only [aS,bL]
    rw [beq_eq_false_iff_ne.2 (fun h=>e2 (.inr h))]
   ·refine ay.ite (fun h=>by cases h) (fun _ => ?_)
    refine ay.some ⟨by simp [ho],hr,Q,rfl,?_,hb⟩
    rw [EX]
    exact h.skip hx CO (.inr ⟨by cases hq:(gm c a).own x with
     | true=>rfl
     | false=>exact absurd (.inl hq) e2,fun h=>e2 (.inr h)⟩)
 ·have CQ:(at_ r x == -1)=false:=beq_eq_false_iff_ne.2 e1
  refine ay.az (v:=false) ?_ ?_
  ·rw [zC hx]
   simp only [aS]
   rw [vV (by omega:x < r.length)]
   simp only [aS,CQ,bM]
  ·refine ay.ite (fun h=>by cases h) (fun _ => ?_)
   refine ay.some ⟨by simp [ho],hr,Q,rfl,?_,hb⟩
   rw [EX]
   exact h.skip hx CO (.inl e1)
theorem ziZ {l:List Nat} {k:Nat} (hl:l.length≤4000) (hk:k≤l.length):wK (cst l) (k:Int)=some (match l[k]? with | some u=>((u:Int),true,(k:Int)+1) | none=>(0,false,(k:Int))):=by
 unfold wK
 rw [kQ]
 by_cases e:k=l.length
 ·rw [e,un (uM _)];simp
 ·have h:k < l.length:=by omega
  have w1:IntKind.i64.wrap ((k:Int)+1)=(k:Int)+1:=zZ (by omega) (by omega)
  have w2:IntKind.i64.wrap ((k:Int)+1 - 1)=(k:Int):=by rw [show (k:Int)+1 - 1=(k:Int) by omega];exact zZ (by omega) (by omega)
  rw [beq_eq_false_iff_ne.2 (show (k:Int)≠(l.length:Int) by omega),w1,w2,ua h]
  simp only [bM]
  rw [zt (l:=cst l) (i:=k) (e:=(l[k]:Int)) (by unfold cst;rw [uv,ua h];rfl)]
  rfl
end
end
section
section
variable {c:ax} {zw:Int} {p:aA} {a:cF}
def x7 (G:Gm) (i:Nat):Bool:=G.own i&&(!(G.lost i)&&(G.succ i).isEmpty)
def r2 (G:Gm) (i j:Nat):Int:=if G.lost j=true then 0 else if x7 G j=true∧j < i then 1 else -1
def K2 (G:Gm) (i:Nat):List Nat:=(ur G.n).filter G.lost++(ur i).filter (x7 G)
structure L3 (G:Gm) (i:Nat) (s:List Int×List Int):Prop where
 lr:s.1.length=G.n
 r:∀ j,j < G.n→at_ s.1 j=r2 G i j
 k:s.2=cst (K2 G i)
theorem zkT (G:Gm) (i:Nat):(K2 G i).length≤G.n+i:=by
 unfold K2
 rw [uo]
 have h1:=uB G.lost (ur G.n)
 have h2:=uB (x7 G) (ur i)
 rw [uD] at h1 h2
 omega
theorem zgg {G:Gm} {r o:Nat→Int} (hr:∀ j,j < G.n→r j=r2 G G.n j) (ho:∀ j,j < G.n→o j=((G.succ j).length:Int)):l5 G r o [] (K2 G G.n)∧tM G r (K2 G G.n).length:=by
 have tl:∀ j,x7 G j=true→G.own j=true∧G.lost j=false∧G.succ j=[]:=fun j h=>by
  simpa [x7,ue,List.isEmpty_iff] using h
 have rl:∀ j,j < G.n→G.lost j=true→r j=0:=fun j hj h=>by rw [hr j hj];unfold r2;rw [if_pos h]
 have rt:∀ j,j < G.n→x7 G j=true→r j=1:=fun j hj h=>by
  rw [hr j hj];unfold r2;rw [if_neg (by rw [(tl j h).2.1];simp),if_pos ⟨h,hj⟩]
 have rn:∀ j,j < G.n→G.lost j=false→x7 G j=false→r j = -1:=fun j hj h h2=>by
  rw [hr j hj];unfold r2;rw [if_neg (by rw [h];simp),if_neg (by rw [h2];simp)]
 have three:∀ j,j < G.n→(G.lost j=true∧r j=0)∨(x7 G j=true∧G.lost j=false∧r j=1)∨(G.lost j=false∧x7 G j=false∧r j = -1):=fun j hj=>by
  cases h:G.lost j with
  | true=>exact .inl ⟨rfl,rl j hj h⟩
  | false=>cases h2:x7 G j with
   | true=>exact .inr (.inl ⟨rfl,rfl,rt j hj h2⟩)
   | false=>exact .inr (.inr ⟨rfl,rfl,rn j hj h h2⟩)
 have hm:∀ j,j∈K2 G G.n↔j < G.n∧(G.lost j=true∨x7 G j=true):=fun j=>by
  unfold K2
  rw [ul,uh,uh,uk]
  constructor
  ·rintro (⟨h1,h2⟩ | ⟨h1,h2⟩)
   ·exact ⟨h1,.inl h2⟩
   ·exact ⟨h1,.inr h2⟩
  ·rintro ⟨h1,h2 | h2⟩
   ·exact .inl ⟨h1,h2⟩
   ·exact .inr ⟨h1,h2⟩
 have hle:∀ x∈K2 G G.n,r x≤1∧0≤r x:=fun x hx=>by
  obtain ⟨h1,h2⟩:=(hm x).1 hx
  rcases three x h1 with ⟨_,h⟩ | ⟨_,_,h⟩ | ⟨h3,h4,h⟩
  ·omega
  ·omega
  ·rw [h3,h4] at h2;simp at h2
 refine ⟨⟨⟨?_,fun x hx=>((hm x).1 hx).1,fun i hi => ?_,fun i hi => ?_,?_,fun i hi => ?_,fun i hi => ?_,fun i hi h1 h2 h3 => ?_,fun i hi h1 h2 h3 => ?_,fun i hi h1 h2 h3 => ?_,fun i hi h1 h2 h3=>⟨fun t ht h=>(by cases h),rfl⟩⟩,fun q Q' hq x hx => ?_⟩,fun i hi => ?_⟩
 ·rw [uz]
  unfold K2
  refine List.nodup_append.2 ⟨List.nodup_range.sublist u4,List.nodup_range.sublist u4,fun x hx y hy e => ?_⟩
  subst e
  have h1:=(uh.1 hx).2
  have h2:=(tl x (uh.1 hy).2).2.1
  rw [h1] at h2;cases h2
 ·rw [uz,hm i]
  rcases three i hi with ⟨h1,h⟩ | ⟨h1,_,h⟩ | ⟨h3,h4,h⟩
  ·rw [h];simp [hi,h1]
  ·rw [h];simp [hi,h1]
  ·rw [h];simp [h3,h4]
 ·rcases three i hi with ⟨_,h⟩ | ⟨_,_,h⟩ | ⟨_,_,h⟩<;>omega
 ·rw [uz]
  unfold K2
  refine List.pairwise_append.2 ⟨?_,?_,fun x hx y hy => ?_⟩
  ·refine uR fun x hx y hy => ?_
   have h1:=(uh.1 hx);have h2:=(uh.1 hy)
   rw [rl x (uk.1 h1.1) h1.2,rl y (uk.1 h2.1) h2.2];omega
  ·refine uR fun x hx y hy => ?_
   have h1:=(uh.1 hx);have h2:=(uh.1 hy)
   rw [rt x (uk.1 h1.1) h1.2,rt y (uk.1 h2.1) h2.2];omega
  ·have h1:=(uh.1 hx);have h2:=(uh.1 hy)
   rw [rl x (uk.1 h1.1) h1.2,rt y (uk.1 h2.1) h2.2];omega
 ·rw [ho i hi]
  have:(G.succ i).countP (yn [])=(G.succ i).length:=List.countP_eq_length.2 fun x _=>by simp [yn]
  rw [this];simp
 ·rcases three i hi with ⟨h1,h⟩ | ⟨_,h1,h⟩ | ⟨h1,_,h⟩<;>rw [h,h1]<;>simp
 ·rcases three i hi with ⟨h4,h⟩ | ⟨h4,_,h⟩ | ⟨_,_,h⟩
  ·rw [h2] at h4;cases h4
  ·have h5:=(tl i h4).2.2
   rw [ho i hi,h5,h]
   exact ⟨rfl,fun t ht=>(by cases ht),.inl ⟨rfl,rfl⟩⟩
  ·exact absurd h h3
 ·rw [ho i hi]
  intro h5
  have h6:G.succ i=[]:=List.eq_nil_of_length_eq_zero (by omega)
  have h7:=rt i hi (by simp [x7,h1,h2,h6])
  omega
 ·rcases three i hi with ⟨h4,h⟩ | ⟨h4,_,h⟩ | ⟨_,_,h⟩
  ·rw [h2] at h4;cases h4
  ·have h5:=(tl i h4).1;rw [h1] at h5;cases h5
  ·exact absurd h h3
 ·rw [uz] at hx
  have h1:=(hle x hx).1
  have h2:=(hle q (by rw [hq];simp)).2
  omega
 ·rcases three i hi with ⟨_,h⟩ | ⟨h1,_,h⟩ | ⟨_,_,h⟩
  ·omega
  ·have:0 < (K2 G G.n).length:=ux ((hm i).2 ⟨hi,.inr h1⟩)
   omega
  ·omega
structure QI (G:Gm) (dV:List (List Int)) (s:Int×Bool×List Int×List Int×List Int×Int):Prop where
 lr:s.2.2.1.length=G.n
 lo:s.2.2.2.1.length=G.n
 inv:∃ P Q,l5 G (at_ s.2.2.1) (at_ s.2.2.2.1) P Q∧tM G (at_ s.2.2.1) (P++Q).length∧s.2.2.2.2.1=cst (P++Q)∧((s.2.1=false∧Q=[]∧s.2.2.2.2.2=(P.length:Int))∨(s.2.1=true∧∃ u Q',Q=u::Q'∧s.1=(u:Int)∧s.2.2.2.2.2=(P.length:Int)+1))
theorem VT {l:List Nat} {k:Nat} (hk:k < l.length) (x:Nat):(l.take (k+1)).count x=upd (fun y=>(l.take k).count y) l[k] ((l.take k).count l[k]+1) x:=by
 rw [um hk,uQ]
 unfold upd
 by_cases e:x=l[k]
 ·rw [if_pos e,e];simp
 ·rw [if_neg e,uA (fun h=>e h.symm)];simp
theorem zgh {l:List Nat} {k:Nat} (hk:k < l.length):(fun y=>(l.take (k+1)).count y)=upd (fun y=>(l.take k).count y) l[k] ((l.take k).count l[k]+1):=funext fun x=>VT hk x
theorem I4 {G:Gm} {dV:List (List Int)} {P Q:List Nat} {r o:List Int} (hn:G.n≤1500) (hr:r.length=G.n) (ho:o.length=G.n) (h:l5 G (at_ r) (at_ o) P Q) (hb:tM G (at_ r) (P++Q).length) :
  ∃ z:Int×Bool×Int,wK (cst (P++Q)) (P.length:Int)=some z∧QI G dV (z.1,z.2.1,r,o,cst (P++Q),z.2.2)∧((z.2.1=false∧z.2.2=(P.length:Int))∨(z.2.1=true∧z.2.2=(P.length:Int)+1))∧P.length≤G.n:=by
 have hK:(P++Q).length≤G.n:=by
  have:=Ja (L2:=ur G.n) h.core.nd (fun y hy=>uk.2 (h.core.lt y hy))
  rwa [uD] at this
 refine ⟨_,ziZ (by omega) (by simp),?_⟩
 cases Q with
 | nil=>
  rw [uT,un (uM _)]
  exact ⟨⟨hr,ho,P,[],h,hb,by rw [uT],.inl ⟨rfl,rfl,rfl⟩⟩,.inl ⟨rfl,rfl⟩,by simpa using hK⟩
 | cons u Q'=>
  rw [List.getElem?_append_right (uM _),Nat.sub_self]
  exact ⟨⟨hr,ho,P,u::Q',h,hb,rfl,.inr ⟨rfl,u,Q',rfl,rfl,rfl⟩⟩,.inr ⟨rfl,rfl⟩,by rw [uo] at hK;omega⟩
theorem Xm (hc:c.Ok) (A:cC c zw p a):ay (vt c a) (fun r=>r.length=a.aR.length∧JQ (gm c a) (at_ r)∧∀ i,i < a.aR.length→at_ r i≤1500):=by
 have hn:a.aR.length≤1500:=A.F.inv.len
 have tN:(gm c a).n=a.aR.length:=rfl
 unfold vt
 refine ay.az (zbJ hc A) ?_
 refine ay.ite (fun _ => ?_) (fun h=>by cases h)
 refine ay.az (XU hn (by omega)) ?_
 refine ay.az (XU hn (by omega)) ?_
 refine ay.az (XU hn (by omega)) ?_
 refine ay.bind (P:=fun o:(List Int×List Int×List (List Int)×List Int) ⊕ Unit=>∃ s,o=.inl s∧L2 (gm c a) a.aR.length s) (ay.dS (L2 (gm c a)) (by omega) ?_ (fun i s hi hs => ?_) (fun s h=>⟨s,rfl,h⟩)) ?_
 ·refine ⟨by simp [tN],by simp [tN],⟨by simp [tN],fun t ht=>⟨[],?_,by simp,fun x => ?_⟩⟩,fun j hj=>by omega,fun j hj=>by omega,rfl⟩
  ·rw [uL,if_pos (by rw [←tN];exact ht)];rfl
  ·simp
 ·obtain ⟨R,O,B,K⟩:=s
  obtain ⟨hlr,hlo,oU,hr,ho,hk⟩:=hs
  simp only at hlr hlo oU hr ho hk ⊢
  obtain ⟨T,hT,hM⟩:=A.mv hi
  have CM:=A.len hc hi hT
  have eG:=A.succ hi hT
  have oV:(gm c a).lost i=zR c a.aR[i].state a.zw:=by
   show (match a.aR[i]? with | some q=>zR c q.state a.zw | none=>false)=_
   rw [ua hi]
  refine ay.bind (P:=fun v=>L2 (gm c a) (i+1) v) ?_ (fun v hv=>ay.some hv)
  refine ay.az (zt (ua hi)) ?_
  refine ay.az (zt hT) ?_
  refine ay.az (zC hi) ?_
  refine ay.az (vV (by omega)) ?_
  refine ay.az (zC hi) ?_
  refine ay.az (vV (by omega)) ?_
  refine ay.az (zt hT) ?_
  refine ay.bind (P:=fun o:List (List Int) ⊕ Unit=>∃ b,o=.inl b∧L1 (gm c a) i T.length b) (ay.dS (fun k b=>L1 (gm c a) i k b) (by omega) oU (fun k b hk2 hb => ?_) (fun b h=>⟨b,rfl,h⟩)) ?_
  ·have hto:=A.to hi hT (ut hk2)
   refine ay.az (zt (ua hk2)) ?_
   have h1:(gm c a).succ i=T.map fun m=>m.to.toNat:=eG
   have h2:=hb.step (G:=gm c a) hn hi (by omega) (to:=T[k].to.toNat) (by rw [h1,uv,ua hk2];rfl) (by rw [tN];omega)
   rw [uH hto.1] at h2
   exact ay.bind h2 (fun v hv=>ay.some hv)
  ·rintro _ ⟨b,rfl,hb⟩
   simp only [uO]
   have hb':=hb.next (by rw [eG,uy]) CM
   have hR1:at_ (R.set i (-1))=upd (at_ R) i (-1):=Zm (by omega) _
   have I5:at_ (O.set i (T.length:Int))=upd (at_ O) i (T.length:Int):=Zm (by omega) _
   have I6:∀ j,j < i+1→upd (at_ O) i (T.length:Int) j=(((gm c a).succ j).length:Int):=fun j hj=>by
    unfold upd
    by_cases e:j=i
    ·rw [if_pos e,e,eG,uy]
    ·rw [if_neg e];exact ho j (by omega)
   have oW:(ur (i+1)).filter (gm c a).lost=(ur i).filter (gm c a).lost++(bif (gm c a).lost i then [i] else []):=by
    rw [uZ,uW]
    cases h:(gm c a).lost i<;>simp [h]
   refine ay.az (zkS hc (A.F.inv.vs _ (ut hi)) a.zw) ?_
   refine ay.ite (fun hl => ?_) (fun hl => ?_)
   ·rw [←oV] at hl
    refine ay.az (zC hi) ?_
    refine ay.az (uc (by omega)) ?_
    have hK:K.length≤1500:=by
     rw [hk,kQ]
     have:=uB (gm c a).lost (ur i)
     rw [uD] at this;omega
    refine ay.az (I3 0 (by omega)) ?_
    refine ay.some ⟨by simp [hlr],by simp [hlo],hb',fun j hj => ?_,fun j hj => ?_,?_⟩
    ·simp only
     rw [uN,Zm (by omega)]
     unfold upd
     by_cases e:j=i
     ·rw [if_pos e,e,if_pos hl]
     ·rw [if_neg e];exact hr j (by omega)
    ·simp only;rw [I5];exact I6 j hj
    ·simp only;rw [hk,oW,hl,bL,XS];rfl
   ·rw [←oV] at hl
    refine ay.some ⟨by simp [hlr],by simp [hlo],hb',fun j hj => ?_,fun j hj => ?_,?_⟩
    ·simp only
     rw [hR1]
     unfold upd
     by_cases e:j=i
     ·rw [if_pos e,e,if_neg (by rw [hl];simp)]
     ·rw [if_neg e];exact hr j (by omega)
    ·simp only;rw [I5];exact I6 j hj
    ·simp only;rw [hk,oW,hl,bM,uT]
 ·rintro _ ⟨⟨R,O,B,K⟩,rfl,hlr,hlo,oU,hr,ho,hk⟩
  simp only [uO] at hlr hlo oU hr ho hk ⊢
  refine ay.bind (P:=fun o:(List Int×List Int) ⊕ Unit=>∃ s,o=.inl s∧L3 (gm c a) a.aR.length s) (ay.dS (L3 (gm c a)) (by omega) ?_ (fun i s hi hs => ?_) (fun s h=>⟨s,rfl,h⟩)) ?_
  ·refine ⟨hlr,fun j hj => ?_,?_⟩
   ·rw [hr j hj];unfold r2
    split
    ·rfl
    ·rw [if_neg (by omega)]
   ·simp only;rw [hk];unfold K2;rw [List.range_zero,List.filter_nil,uT];rfl
  ·obtain ⟨R1,K1⟩:=s
   obtain ⟨h1,h2,h3⟩:=hs
   simp only at h1 h2 h3 ⊢
   have hown:(gm c a).own i=a.aR[i].own:=by
    show (match a.aR[i]? with | some q=>q.own | none=>false)=_
    rw [ua hi]
   have hsame:x7 (gm c a) i=false→L3 (gm c a) (i+1) (R1,K1):=fun ht=>by
    refine ⟨h1,fun j hj => ?_,?_⟩
    ·simp only;rw [h2 j hj];unfold r2
     split
     ·rfl
     ·by_cases e:j=i
      ·subst e;rw [if_neg (by rw [ht];simp),if_neg (by rw [ht];simp)]
      ·by_cases e2:x7 (gm c a) j=true∧j < i
       ·rw [if_pos e2,if_pos ⟨e2.1,by omega⟩]
       ·rw [if_neg e2,if_neg (fun h=>e2 ⟨h.1,by have:=h.2;omega⟩)]
    ·simp only;rw [h3];unfold K2;rw [uZ,uW];simp [ht]
   refine ay.bind (P:=fun v=>L3 (gm c a) (i+1) v) ?_ (fun v hv=>ay.some hv)
   refine ay.az (zt (ua hi)) ?_
   have hv3:(bif a.aR[i].own then (uu (zo a.aR.length (i:Int)) fun k7=>(uu (O[k7]?) fun e9=>(bif (e9 == 0) then (uu (zo a.aR.length (i:Int)) fun k8=>(uu (R1[k8]?) fun dW=>some (dW == (-1)))) else some false))) else some false)=some (x7 (gm c a) i):=by
    rw [zC hi]
    simp only [aS]
    rw [vV (by omega:i < O.length),vV (by omega:i < R1.length)]
    simp only [aS]
    rw [ho i hi,h2 i hi,←hown]
    unfold x7 r2
    cases e1:(gm c a).own i with
    | false=>rfl
    | true=>
     cases e2:(gm c a).succ i with
     | cons x l=>
      rw [beq_eq_false_iff_ne.2 (by simp;omega)];simp
     | nil=>
      cases e3:(gm c a).lost i with
      | true=>rfl
      | false=>simp
   refine ay.az hv3 ?_
   refine ay.ite (fun ht => ?_) (fun ht=>ay.some (hsame ht))
   have EY:K1.length≤4000:=by
    rw [h3,kQ]
    have:=zkT (gm c a) i
    omega
   refine ay.az (VR 0 hi h1 EY) ?_
   refine ay.some ⟨by simp [h1],fun j hj => ?_,?_⟩
   ·simp only
    rw [Zm (by omega)]
    unfold upd
    by_cases e:j=i
    ·subst e
     have h4:(gm c a).lost j=false:=by
      simp only [x7,ue,uC] at ht;exact ht.2.1
     rw [if_pos rfl];unfold r2;rw [if_neg (by rw [h4];simp),if_pos ⟨ht,by omega⟩]
    ·rw [if_neg e,h2 j hj];unfold r2
     split
     ·rfl
     ·by_cases e2:x7 (gm c a) j=true∧j < i
      ·rw [if_pos e2,if_pos ⟨e2.1,by omega⟩]
      ·rw [if_neg e2,if_neg (fun h=>e2 ⟨h.1,by have:=h.2;omega⟩)]
   ·simp only;rw [h3];unfold K2;rw [uZ,uW,←List.append_assoc,XS];simp [ht,cst]
  ·rintro _ ⟨⟨R1,K1⟩,rfl,h1,h2,h3⟩
   simp only [uO] at h1 h2 h3 ⊢
   obtain ⟨hB,hbd⟩:=zgg (G:=gm c a) (r:=at_ R1) (o:=at_ O) h2 ho
   have hQ0:=I4 (dV:=B) (P:=[]) hn h1 hlo hB (by rw [uz];exact hbd)
   refine ay.bind (P:=fun v:List Int=>v.length=(gm c a).n∧JQ (gm c a) (at_ v)∧∀ i,i < (gm c a).n→at_ v i≤1500) ?_ ?_
   ·obtain ⟨z,hz,hq,_⟩:=hQ0
    have EY:K1=cst ([]++K2 (gm c a) (gm c a).n):=by rw [h3,uz];rfl
    rw [EY]
    refine ay.az hz ?_
    refine ay.bind (P:=fun y:List Int=>y.length=(gm c a).n∧JQ (gm c a) (at_ y)∧∀ i,i < (gm c a).n→at_ y i≤1500) (ay.iter (QI (gm c a) B) (fun s=>2*((gm c a).n+2 - s.2.2.2.2.2.toNat)+(bif s.2.1 then 1 else 0)) hq (fun s hs => ?_)) (fun y hy=>ay.some hy)
    obtain ⟨to,ok,R2,O2,K3,nx⟩:=s
    obtain ⟨g1,g2,P,Q,g3,g4,g5,g6⟩:=hs
    simp only at g1 g2 g3 g4 g5 g6 ⊢
    have hKn:(P++Q).length≤(gm c a).n:=by
     have:=Ja (L2:=ur (gm c a).n) g3.core.nd (fun y hy=>uk.2 (g3.core.lt y hy))
     rwa [uD] at this
    rcases g6 with ⟨rfl,rfl,g7⟩ | ⟨rfl,u,Q',rfl,rfl,rfl⟩
    ·refine ay.ite (fun h=>by cases h) (fun _ => ?_)
     exact ay.some ⟨g1,(g3.done A.closed).ok A.closed,fun i hi=>by have:=g4 i hi;omega⟩
    ·refine ay.ite (fun _ => ?_) (fun h=>by cases h)
     have E:=g3.enter
     obtain ⟨_,hun,_⟩:=E.core.split
     obtain ⟨l,l1,l2,l3⟩:=oU.row u hun
     have lg:∀ x,x < (gm c a).n→l.count x=((gm c a).succ x).count u:=fun x hx=>by rw [l3 x,if_pos (by rw [←tN];exact hx)]
     have BS:∀ x∈l,x < (gm c a).n:=fun x hx=>by
      have h5:0 < l.count x:=List.count_pos_iff.2 hx
      rw [l3 x] at h5
      split at h5
      ·rename_i h6;exact h6
      ·split at h5
       ·simp at h5
       ·omega
     refine ay.az (zC hun) ?_
     refine ay.az l1 ?_
     refine ay.bind (P:=fun o:(List Int×List Int×List Int) ⊕ Unit=>∃ s5,o=.inl s5∧s5.1.length=(gm c a).n∧s5.2.1.length=(gm c a).n∧∃ Q2,s5.2.2=cst (P++u::Q2)∧fL (gm c a) (at_ s5.1) (at_ s5.2.1) P u Q2 (fun y=>l.count y)∧tM (gm c a) (at_ s5.1) (P++u::Q2).length) ?_ ?_
     ·rw [kQ]
      refine ay.dS (fun k s5=>s5.1.length=(gm c a).n∧s5.2.1.length=(gm c a).n∧∃ Q2,s5.2.2=cst (P++u::Q2)∧fL (gm c a) (at_ s5.1) (at_ s5.2.1) P u Q2 (fun y=>(l.take k).count y)∧tM (gm c a) (at_ s5.1) (P++u::Q2).length) (by omega) ⟨g1,g2,Q',g5,by simpa using E,g4⟩ (fun k s5 hk hs5 => ?_) (fun s5 h=>⟨s5,rfl,by rw [uG] at h;exact h⟩)
      obtain ⟨R4,O4,K4⟩:=s5
      obtain ⟨i1,i2,Q2,i3,i4,i5⟩:=hs5
      simp only at i1 i2 i3 i4 i5 ⊢
      have hx:=BS _ (ut hk)
      refine ay.az (zt (e:=(l[k]:Int)) (by unfold cst;rw [uv,ua hk];rfl)) ?_
      rw [i3]
      refine ay.bind (zhE hc A _ i1 i2 i4 i5 hx ?_) (fun z hz => ?_)
      ·have h6:=VT hk l[k]
       unfold upd at h6
       rw [if_pos rfl] at h6
       have h7:(l.take (k+1)).count l[k]≤l.count l[k]:=(List.take_sublist _ _).count_le _
       rw [lg _ hx] at h7
       show (l.take k).count l[k] < _
       omega
      ·obtain ⟨j1,j2,Q3,j3,j4,j5⟩:=hz
       refine ay.some ⟨j2,j1,Q3,j3,?_,j5⟩
       simp only
       rw [zgh hk];exact j4
     ·rintro _ ⟨⟨R4,O4,K4⟩,rfl,i1,i2,Q2,i3,i4,i5⟩
      simp only [uO] at i1 i2 i3 i4 i5 ⊢
      have hB2:=i4.leave lg
      have hPQ:P++[u]++Q2=P++u::Q2:=by simp
      obtain ⟨z2,iQ,sD,EZ,I7⟩:=I4 (dV:=B) (P:=P++[u]) (Q:=Q2) hn i1 i2 hB2 (by rw [hPQ];exact i5)
      rw [hPQ] at iQ sD
      rw [i3]
      have nY:((P++[u]).length:Int)=(P.length:Int)+1:=by simp
      rw [nY] at iQ
      refine ay.az iQ ?_
      refine ay.some ⟨sD,?_⟩
      simp only [bL]
      rw [uo] at EZ I7
      simp only [uj,uq] at EZ I7
      rcases EZ with ⟨e1,e2⟩ | ⟨e1,e2⟩
      ·rw [e1,e2,bM];omega
      ·rw [e1,e2,bL];omega
   ·intro v hv
    refine ay.az (wk (tN.symm.trans hv.1.symm)) ?_
    exact ay.some hv
end
end
theorem zgj {free:Bool} {k:aL} {m:aq} (h:zA m=false):qV free k m=m:=by unfold qV;rw [h];rfl
theorem zeh {act:Int} {k:aL} {m:aq} (h:zA m=false):qZ act k m=m:=by unfold qZ;rw [h];rfl
theorem zhF {act b:Int} {k:aL} {m:aq} (h:zA m=false):x6 act b k m=m:=by unfold x6;rw [h];rfl
theorem zgk {a:aV} {k:aL} {m:aq} (h:zA m=false):jk a k m=m:=by unfold jk;rw [h];rfl
theorem XV {c:ax} {F:aL→aq→aq} {ms:List aq} {i:Nat} {m:aq} (h:ms[i]?=some m) (hF:∀ k,F k m=m):(ms.mapIdx (dB c F))[i]?=some m:=by
 rw [uf,h]
 simp only [uK,dB]
 cases c.aB[i]? with
 | none=>rfl
 | some k=>simp [hF k]
theorem cz.get {c:ax} {hs:List Int} {ms r:List aq} (h:cz c hs ms r) {i:Nat} {m:aq} (hi:i < c.aB.length) (hm:ms[i]?=some m) (h0:m.aH≠0):r[i]?=some m:=by
 have hl:i < r.length:=by rw [h.ok.1];exact hi
 rw [ua hl]
 rcases h.rel i m r[i] hm (ua hl) with e | ⟨e,_⟩
 ·rw [e]
 ·exact absurd e h0
theorem zhG {c:ax} (hc:c.Ok) {s:bn} {a:Int} (hv:VS c s) (h1 : -1≤a) (h2:a < c.aK.length) (hd:s.day < c.aJ) {i:Nat} {m:aq} (hm:s.aM[i]?=some m) (hr:zA m=false) (h0:m.aH≠0):(qi c s a).aM[i]?=some m:=by
 obtain ⟨_,_,ht,ha⟩:=jT hc hv h1 h2 hd
 have hi:i < c.aB.length:=by rw [←hv.lm];exact (ub.1 hm).1
 by_cases e:a = -1
 ·obtain ⟨_,_,_,hS⟩:=ht e
  exact hS.get hi (XV hm fun k=>zgj hr) h0
 ·obtain ⟨j,hj⟩:∃ j:Nat,a=(j:Int):=⟨a.toNat,by omega⟩
  have hjl:j < c.aK.length:=by omega
  rcases ha j c.aK[j] hj (ua hjl) with ⟨_,_,e2⟩ | ⟨_,_,_,_,hS⟩
  ·rw [e2];exact hm
  ·have g1:(fp c j s.aM)[i]?=some m:=XV hm fun k=>zeh hr
   have g2:(eN c j c.aK[j] s.aC s.aM)[i]?=some m:=XV g1 fun k=>zhF hr
   have g3:(nQ c j c.aK[j] s.aC s.aM)[i]?=some m:=by
    unfold nQ
    cases c.aK[j].kind == 3 with
    | true=>exact XV g2 fun k=>zgk hr
    | false=>exact g2
   exact hS.get hi g3 h0
theorem ZJ {c:ax} {s:bn} {zw:Int}:zR c s zw=true↔∃ (i:Nat) (k:aL) (m:aq),c.aB[i]?=some k∧s.aM[i]?=some m∧k.final=true∧m.aH=4∧m.bg=zw:=by
 unfold zR
 rw [uC,u7]
 constructor
 ·rintro ⟨i,hi,h⟩
  simp only [uC,Bool.not_eq_false,YI] at h
  split at h
  ·rename_i k m hk hm
   simp only [ue,beq_iff_eq] at h
   exact ⟨i,k,m,hk,hm,h.1,h.2.1,h.2.2⟩
  ·cases h
 ·rintro ⟨i,k,m,hk,hm,h1,h2,h3⟩
  refine ⟨i,uk.2 (ub.1 hm).1,?_⟩
  simp [YI,hk,hm,h1,h2,h3]
theorem zgl {c:ax} (hc:c.Ok) {s:bn} {a:Int} (hv:VS c s) (h1 : -1≤a) (h2:a < c.aK.length) (hd:s.day < c.aJ) {zw:Int} (h:zR c s zw=true):zR c (qi c s a) zw=true:=by
 obtain ⟨i,k,m,hk,hm,g1,g2,g3⟩:=ZJ.1 h
 exact ZJ.2 ⟨i,k,m,hk,zhG hc hv h1 h2 hd hm (by simp [zA,g2]) (by omega),g1,g2,g3⟩
theorem Jb {c:ax} {zw:Int} {q:aA} {m:Int} (hm:m∈zn c zw q):(m = -2∧q.own=true)∨(-1≤m∧m < c.aK.length∧q.state.day < c.aJ):=by
 rcases jj.1 hm with ⟨h1,h2⟩ | ⟨h1,_,h2⟩ | ⟨h1,i,h2,_,h3⟩
 ·exact .inl ⟨h2,h1⟩
 ·exact .inr ⟨by omega,by omega,h1⟩
 ·exact .inr ⟨by omega,by omega,h1⟩
theorem ZS (c:ax) (q:aA):target c q (-2)={state:=q.state,own:=false}:=if_pos rfl
theorem ZT (c:ax) (q:aA) {m:Int} (h : -1≤m):target c q m={state:=qi c q.state m,own:=true}:=if_neg (by omega)
theorem zgm {c:ax} (hc:c.Ok) {zw:Int} {q:aA} {m:Int} (hv:VS c q.state) (hm:m∈zn c zw q) {b:Int} (h:zR c q.state b=true):zR c (target c q m).state b=true:=by
 rcases Jb hm with ⟨rfl,_⟩ | ⟨h1,h2,h3⟩
 ·rw [ZS];exact h
 ·rw [ZT c q h1];exact zgl hc hv h1 h2 h3 h
section
theorem zhH (p1:List Int) (p2:ax) (p3 p4:Int) (p5:List Int) (p6:List Bool) (p7:Nat) (p8:List aj) (p9:Nat) (bE:List ai) (bX:Nat) (bz:ax) (bJ:List (Int×List Int)) {n:Nat} (hn:n=p5.length) :
  fM p1 p2 p3 p4 p5 n p6 p7 p8 p9 bE bX bz bJ=Qi p1 p2 p3 p4 p5 p6 p7 p8 p9 bE bX bz bJ:=by
 subst hn
 rfl
structure BT (c:ax) (s:bn) (hs:List Int) (st day:Int) (os:List ai) (cs:List aj) (wm:List (Int×List Int)) (hp:List Bool):Prop where
 hs:hs=s.aC
 day:day=s.day
 cL:0≤st
 mh:eb c s.aM os cs
 wait:eO c s.aM wm
 lp:hp.length=c.aK.length
 used:∀ (i:Nat) (x:aV),c.aK[i]?=some x→x.kind≠1→hp[i]?=s.used[i]?
section
variable {c:ax} {s:bn} {hs:List Int} {st day:Int} {os:List ai} {cs:List aj} {wm:List (Int×List Int)} {hp:List Bool}
theorem zhI {free:Bool} {k:aL} {m:aq} (h:zA m=false):qV free k m=m:=by unfold qV;rw [h];rfl
theorem zhJ {free:Bool} {k:aL} {m:aq} (h:zA m=true):(qV free k m).aH≠0:=by
 have h0:m.aH≠0:=by
  simp only [zA,uJ,beq_iff_eq] at h;omega
 unfold qV
 rw [h,bL]
 cases (m.aT||(k.bV&&free)) with
 | true=>exact h0
 | false=>
  cases (m.left - 1 == 0) with
  | false=>exact h0
  | true=>
   cases (k.kind == 1) with
   | true=>
    cases (m.aH == 1&&decide (0 < k.cX)) with
    | true=>show (2:Int)≠0;omega
    | false=>show (4:Int)≠0;omega
   | false=>
    cases (k.kind == 2) with
    | true=>show (3:Int)≠0;omega
    | false=>show (5:Int)≠0;omega
theorem WG {ms:List aq} {F:aL→aq→aq} {E:List Int} {r:List aq} {hs':List Int} (hc:c.Ok) (hv:VS c s) (hF:∀ k m,zA m=false→F k m=m) (CK:∀ (i:Nat) (k:aL) (m:aq),c.aB[i]?=some k→s.aM[i]?=some m→zA m=true→(F k m).aH≠0) (hok:fC c (s.aM.mapIdx (dB c F)))
  (tL:eb c (s.aM.mapIdx (dB c F)) os cs) (hW:eO c s.aM wm) (UU:E.length≤c.aB.length) (hen:∀ (j:Nat) (k:aL) (m:aq),c.aB[j]?=some k→s.aM[j]?=some m→zA m=true→zA (F k m)=false→(j:Int)∈E)
  (hh:hs'.length=c.aC.length) (hb:∀ h∈hs',0≤h∧h < c.aN) (S:cz c hs' (s.aM.mapIdx (dB c F)) r) (hst:0≤st) (p4:Int) (p6:List Bool) (p7:Nat) (p8:List aj) (p9:Nat) (bz:ax) :
  ay (fM E c st p4 hs' hs'.length p6 p7 p8 p9 os c.aB.length bz wm) (fun v=>eb c r v.2.2 cs∧eO c r v.2.1):=by
 have ho:=hc.off.lt (by omega:0 < 8)
 have sm:=qn ho hv.cv
 have dY:=sm.aB
 have hcd:∀ (i:Nat) (k:aL),c.aB[i]?=some k→∀ x∈k.start,0≤x.clause∧x.clause < c.aB.length:=fun i k hk=>(jd ho hv.cv hk).cond
 have hn:NR c s.aM:=fun i hi=>hv.Ez i hi
 have hl:=hv.lm
 rw [zhH _ _ _ _ _ _ _ _ _ _ _ _ _ rfl]
 refine ay.mono (IU ho hv.cv hh hb hok hst tL ⟨hW.gN,fun j k m h1 h2 h3 h4 key hkey => ?_,hW.len⟩ (by omega) (fun i k hk hr => ?_) _ _ _ _ _ _) ?_
 ·rw [uf] at h2
  obtain ⟨m0,g1,g2⟩:=uw.1 h2
  simp only [dB,h1] at g2
  have hr:zA m0=false:=by
   cases h:zA m0 with
   | false=>rfl
   | true=>exact absurd (g2 ▸ h3:(F k m0).aH=0) (CK j k m0 h1 g1 h)
  rw [hF k m0 hr] at g2
  subst g2
  exact hW.has j k m0 h1 g1 h3 h4 key hkey
 ·obtain ⟨x,hx,k',m',g1,g2,g3,g4⟩:=U4 hn hl hcd hF CK hk hr
  have hx0:=(hcd i k hk x hx).1
  have:=hen _ k' m' g1 g2 g3 g4
  rw [uH hx0] at this
  refine ⟨x.clause,?_,this⟩
  unfold wN
  rw [if_neg (fun h=>by rw [h] at hx;cases hx)]
  exact ui.2 ⟨x,hx,rfl⟩
 ·rintro v ⟨ms',S',C',W'⟩
  have:ms'=r:=VO hok.1 S' S
  subst this
  exact ⟨C',W'⟩
theorem zi0 {a:Int} (hc:c.Ok) (hv:VS c s) (h1 : -1≤a) (h2:a < c.aK.length) (hd:s.day < c.aJ) (h:BT c s hs st day os cs wm hp) (hst:st < 100000) :
  ay (Xa a c st day hs c.aC.length hp c.aK.length cs c.aB.length os c.aB.length c wm) (fun r=>BT c (qi c s a) r.2.1 (st+1) r.1 r.2.2.2.2.2 r.2.2.2.2.1 r.2.2.2.1 r.2.2.1):=by
 have ho:=hc.off.lt (by omega:0 < 8)
 have sm:=qn ho hv.cv
 obtain ⟨r1,r2,r3,r4,r5,r6,r7⟩:=h
 subst r1
 subst r2
 have rm:=hv.day
 have hsd:=sm.aJ
 have hmo:fC c s.aM:=⟨hv.lm,hv.BC⟩
 obtain ⟨_,pJ,t1,a1⟩:=jT hc hv h1 h2 hd
 have ew:IntKind.i64.wrap (st+1)=st+1:=zZ (by omega) (by omega)
 have ewd:IntKind.i64.wrap (s.day+1)=s.day+1:=zZ (by omega) (by omega)
 unfold Xa
 rw [ew,ewd]
 refine ay.ite (fun ha => ?_) (fun ha => ?_)
 ·have ha:=beq_iff_eq.1 ha
  obtain ⟨x1,x2,x3,x4⟩:=t1 ha
  have tO:fC c (s.aM.mapIdx (dB c (qV (jK c.off s.day).isSome))):=hmo.mapIdx _ fun i k m hk hm=>IC _ (jd ho hv.cv hk) (by have:=sm.aN;omega) hm
  refine ay.bind (U6 ho hv.cv hmo r4 (by omega) _ _ _ _ _ _) ?_
  rintro ⟨en,cs1,os1⟩ J
  have J3:=J.el
  have J4:=J.en
  have hF:=J.fin hv.lm
  simp only at J3 J4 hF
  rw [show c.aC.length=s.aC.length from hv.lh.symm]
  refine ay.bind (WG (ms:=s.aM) hc hv (fun k m hr=>zhI hr) (fun i k m _ _ hr=>zhJ hr) tO hF r5 J3 (fun j k m g1 g2 g3 g4=>J4 j k m (ub.1 g1).1 g1 g2 g3 g4) hv.lh hv.hold x4 (by omega) _ _ _ _ _ _) ?_
  rintro ⟨kn,BO,os2⟩ ⟨C2,W2⟩
  exact ay.some ⟨x2.symm,x1.symm,by omega,C2,W2,r6,fun i x g1 g2=>by rw [x3];exact r7 i x g1 g2⟩
 ·have ha:=beq_eq_false_iff_ne.1 ha
  obtain ⟨i,rfl⟩:∃ i:Nat,a=(i:Int):=⟨a.toNat,by omega⟩
  have hi:i < c.aK.length:=by omega
  have hx:=ua hi
  have E6:i < hp.length:=by omega
  have El:i < s.used.length:=by have:=hv.lu;omega
  have E7:=ua E6
  have oK:=ua El
  generalize c.aK[i]=x at hx
  generalize hp[i]=b at E7
  generalize s.used[i]=u at oK
  have av:=Q4 hv.cv hx
  have CP:x.kind≠1→b=u:=fun hk=>by
   have:=r7 i x hx hk
   rw [E7,oK] at this
   exact Option.some.inj this
  have AP:=a1 i x rfl hx
  rw [show c.aC.length=s.aC.length from hv.lh.symm]
  refine ay.bind (zkR ho hv.cv hmo r4 (show 0≤st+1 by omega) hx hv.lh r6 E7 wm) ?_
  rintro ⟨en,hs',hp',cs1,os1⟩ ⟨J1,J2,J3,J4,J5⟩
  simp only at J1 J2 J3 J4 J5
  subst J4
  subst J5
  have rW:∀ (t:bn),t.used=s.used∨t.used=l8 i x s.used→(x.kind≠1→(t.used[i]?=some true))→∀ (j:Nat) (y:aV),c.aK[j]?=some y→y.kind≠1→(hp.set i true)[j]?=t.used[j]?:=fun t ht CN j y g1 g2=>by
   by_cases e:i=j
   ·subst e
    rw [hx] at g1
    cases g1
    rw [uc (by omega),CN g2]
   ·rw [ud e,r7 j y g1 g2]
    rcases ht with ht | ht
    ·rw [ht]
    ·rw [ht]
     unfold l8
     cases (x.kind == 1) with
     | true=>rfl
     | false=>rw [bM,ud e]
  cases htk:(x.kind == 1 || !b) with
  | false=>
   simp only [uF,beq_eq_false_iff_ne,uV] at htk
   obtain ⟨k1,rfl⟩:=htk
   have hu:=CP k1
   subst hu
   have e:qi c s i=s:=by
    rcases AP with ⟨_,_,g⟩ | ⟨g,_⟩
    ·exact g
    ·rcases g with g | g
     ·exact absurd g k1
     ·rw [oK] at g;cases g
   have E8:(x.kind == 1 || !true)=false:=by rw [beq_eq_false_iff_ne.2 k1];rfl
   rw [E8] at J1 J3
   simp only [bM] at J1 J3
   have hid:s.aM.mapIdx (dB c fun k m=>m)=s.aM:=by
    refine uP fun j => ?_
    rw [uf]
    cases s.aM[j]? with
    | none=>rfl
    | some m=>
     simp only [uK,dB]
     cases c.aB[j]?<;>rfl
   have hn:NR c s.aM:=fun i hi=>hv.Ez i hi
   have S0:cz c s.aC (s.aM.mapIdx (dB c fun k m=>m)) s.aM:=by
    rw [hid]
    refine ⟨hmo,hn,fun j m m' h1 h2=>.inl (by rw [h1] at h2;exact (Option.some.inj h2).symm),fun _=>rfl,YB hv.lm hv.lm (fun j k m g1 g2=>.inl g2) hn (fun j k hk=>(jd ho hv.cv hk).cond)⟩
   rw [e]
   simp only [bM]
   refine ay.bind (WG (ms:=s.aM) (F:=fun k m=>m) hc hv (fun _ _ _=>rfl) (fun j k m _ _ hr=>by
    simp only [zA,uJ,beq_iff_eq] at hr;omega) (by rw [hid];exact hmo) J1 r5 J2 (fun j k m g1 g2 g3 g4=>J3 j k m g1 g2 g3 g4) hv.lh hv.hold S0 (by omega) _ _ _ _ _ _) ?_
   rintro ⟨kn,BO,os2⟩ ⟨C2,W2⟩
   exact ay.some ⟨rfl,rfl,by omega,C2,W2,by rw [ug];exact r6,rW s (.inl rfl) (fun _=>oK)⟩
  | true=>
   rw [htk] at J1 J3
   simp only [bL] at J1 J3 ⊢
   have AP2:(qi c s i).day=s.day∧(qi c s i).aC=hs3 x s.aC∧(qi c s i).used=l8 i x s.used∧cz c (hs3 x s.aC) (nQ c i x s.aC s.aM) (qi c s i).aM:=by
    rcases AP with ⟨g1,g2,_⟩ | ⟨_,g⟩
    ·exfalso
     rw [oK] at g2
     cases g2
     have:=CP g1
     subst this
     rw [beq_eq_false_iff_ne.2 g1] at htk;cases htk
    ·exact g
   obtain ⟨x1,x2,x3,x4⟩:=AP2
   rw [IY] at x4
   have tO:fC c (s.aM.mapIdx (dB c (mY (i:Int) (z6 s.aC x) x))):=by
    have:=IF (act:=(i:Int)) (hs:=s.aC) ho hv.cv (by omega) av hmo
    rwa [IY] at this
   have rX:(hs3 x s.aC).length=s.aC.length:=by
    unfold hs3
    cases (x.kind == 1)<;>simp
   have BU:∀ h∈hs3 x s.aC,0≤h∧h < c.aN:=fun y hy=>pJ.hold y (by rw [x2];exact hy)
   rw [show s.aC.length=(hs3 x s.aC).length from rX.symm]
   refine ay.bind (WG (ms:=s.aM) (F:=mY (i:Int) (z6 s.aC x) x) hc hv (fun k m hr=>U9 hr) (fun j k m g1 g2 hr => ?_) tO J1 r5 J2 (fun j k m g1 g2 g3 g4=>J3 j k m g1 g2 g3 g4) (by rw [rX];exact hv.lh) BU x4 (by omega) _ _ _ _ _ _) ?_
   ·rw [VQ]
    obtain ⟨k',m',o,q,e1,e2,_,_,C⟩:=r4.get hv.lm (ub.1 g1).1
    rw [g1] at e1;rw [g2] at e2
    cases e1;cases e2
    obtain ⟨km1,ER,ES⟩:=YF hv.cv g1
    exact (C.act (st:=0) (jd ho hv.cv g1) ER ES (hv.BC j k m g1 g2) hr (by omega) (by omega)).2.2
   ·rintro ⟨kn,BO,os2⟩ ⟨C2,W2⟩
    exact ay.some ⟨x2.symm,x1.symm,by omega,C2,W2,by rw [ug];exact r6,rW (qi c s i) (.inr x3) (fun hk=>by rw [x3];unfold l8;rw [beq_eq_false_iff_ne.2 hk,bM,uc (by have:=hv.lu;omega)])⟩
end
end
section
def n8 (c:ax):bn→List Int→Prop
 | _,[]=>True
 | s,a::l=>(-1≤a∧a < (c.aK.length:Int)∧s.day < c.aJ)∧n8 c (qi c s a) l
noncomputable def q9 (c:ax) (s:bn) (l:List Int):bn:=l.foldl (qi c) s
section
variable {c:ax}
theorem VU:∀ {l:List Int} {s:bn},n8 c s l→∀ (i:Nat) (hi:i < l.length),-1≤l[i]∧l[i] < (c.aK.length:Int)∧(q9 c s (l.take i)).day < c.aJ
 | [],s,h,i,hi=>by simp at hi
 | a::l,s,h,0,hi=>h.1
 | a::l,s,h,i+1,hi=>by
  have:=VU h.2 i (by simpa using hi)
  exact this
theorem Xn {l:List Int} {s:bn} {i:Nat} (hi:i < l.length):q9 c s (l.take (i+1))=qi c (q9 c s (l.take i)) l[i]:=by
 unfold q9
 rw [um hi,Ub];rfl
theorem XW (hc:c.Ok) {l:List Int} {s:bn} (h:n8 c s l) (hv:VS c s):∀ i,i≤l.length→VS c (q9 c s (l.take i))
 | 0,_=>by simpa [q9] using hv
 | i+1,hi=>by
  have ih:=XW hc h hv i (by omega)
  obtain ⟨a1,a2,a3⟩:=VU h i (by omega)
  rw [Xn (by omega)]
  exact (jT hc ih a1 a2 a3).2.1
theorem I8:∀ {l:List Int} {s:bn} {a:Int},n8 c s l → -1≤a→a < (c.aK.length:Int)→(q9 c s l).day < c.aJ→n8 c s (l++[a])
 | [],s,a,_,h1,h2,h3=>⟨⟨h1,h2,h3⟩,trivial⟩
 | b::l,s,a,h,h1,h2,h3=>⟨h.1,I8 h.2 h1 h2 h3⟩
theorem zgn {l:List Int} {s:bn} {a:Int}:q9 c s (l++[a])=qi c (q9 c s l) a:=by
 unfold q9;rw [Ub];rfl
theorem zhK {l:List Int} {s0:bn} (hc:c.Ok) (hv:VS c s0) (h0:s0.day=0) (hl:n8 c s0 l) (h4:l.length≤4000):Q0 c l=some 0:=by
 have sm:=qn (hc.off.lt (by omega:0 < 8)) hv.cv
 have hsd:=sm.aJ
 refine ay.eq ?_
 unfold Q0
 refine ay.az hc.valid ?_
 refine ay.ite (fun _ => ?_) (fun h=>absurd hv.cv (beq_eq_false_iff_ne.1 h))
 refine ay.ite (fun h=>absurd (of_decide_eq_true h) (by omega)) (fun _ => ?_)
 refine ay.bind (P:=fun o:Int ⊕ Int=>∃ d,o=.inl d) (ay.dS (fun i d=>d=(q9 c s0 (l.take i)).day) (by omega) (by simp [q9,h0]) (fun i d hi hI => ?_) (fun d _=>⟨d,rfl⟩)) (by rintro _ ⟨d,rfl⟩;exact ay.some rfl)
 obtain ⟨a1,a2,a3⟩:=VU hl i hi
 have CR:=XW hc hl hv i (by omega)
 have hdi:=CR.day
 obtain ⟨_,_,t1,b1⟩:=jT hc CR a1 a2 a3
 have hnext:=Xn (c:=c) (s:=s0) hi
 have hla:=zt (ua hi)
 generalize l[i]=a at a1 a2 hnext t1 b1 hla
 refine ay.bind (P:=fun o:Int ⊕ Int=>o=.inl (q9 c s0 (l.take (i+1))).day) ?_ (by rintro _ rfl;exact ay.some rfl)
 have IG:zf l (i:Int)=some a:=hla
 refine ay.az IG ?_
 refine ay.az (v:=false) ?_ ?_
 ·rw [decide_eq_false (by omega),decide_eq_false (by omega)];rfl
 refine ay.ite (fun h=>by cases h) (fun _ => ?_)
 refine ay.ite (fun h=>absurd (beq_iff_eq.1 h) (by rw [hI];omega)) (fun _ => ?_)
 refine ay.ite (fun h=>ay.some ?_) (fun h=>ay.some ?_)
 ·have h:=beq_iff_eq.1 h
  have:=(t1 h).1
  rw [hnext,this,hI,zZ (by omega) (by omega)]
 ·have h:=beq_eq_false_iff_ne.1 h
  have hx:=ua (show a.toNat < c.aK.length by omega)
  have e:(qi c (q9 c s0 (l.take i)) a).day=(q9 c s0 (l.take i)).day:=by
   rcases b1 a.toNat _ (by omega) hx with ⟨_,_,g⟩ | ⟨_,g,_⟩
   ·rw [g]
   ·exact g
  rw [hnext,e,hI]
theorem zgo {l:List Int} {s0:bn} (hc:c.Ok) (h6:c.aB.length≤6) (hv:VS c s0) (iC:s0.day=0) (sS:s0.aC=c.aC) (E9:s0.used=uE c.aK.length false) (hs0:cz c c.aC (j8 c) s0.aM) (rU:fC c (j8 c)) (hl:n8 c s0 l) (h4:l.length≤4000) :
  ay (kB c l) (fun r=>r.2=0∧∃ cs,eb c (q9 c s0 l).aM r.1 cs):=by
 unfold kB
 refine ay.az (zhK hc hv iC hl h4) ?_
 refine ay.ite (fun _ => ?_) (fun h=>by cases h)
 unfold VD
 refine ay.bind (P:=fun r=>r.2.2.2.2.2.2.1=c.aB.length∧∃ cs,eb c (q9 c s0 l).aM r.2.2.2.2.2.2.2.1 cs) ?_ ?_
 ·refine ay.bind (U2 hc hv.cv h6 hs0 rU) ?_
  rintro ⟨hs,hp,wm,cs,os,k1,k2,k3,k4⟩ ⟨e1,e2,e3,e4,C,W⟩
  simp only [Prod.mk.injEq] at e1 e2 e3 e4 C W
  obtain ⟨rfl,rfl,rfl,rfl⟩:=e4
  subst e1
  subst e2
  refine ay.bind (P:=fun o:(List Int×Int×Int×List ai×List aj×List (Int×List Int)×List Bool) ⊕ Unit=>∃ t,o=.inl t∧eb c (q9 c s0 l).aM t.2.2.2.1 t.2.2.2.2.1)
   (ay.dS (fun i t=>t.2.1=(i:Int)∧BT c (q9 c s0 (l.take i)) t.1 t.2.1 t.2.2.1 t.2.2.2.1 t.2.2.2.2.1 t.2.2.2.2.2.1 t.2.2.2.2.2.2) (by omega) ⟨rfl,?_⟩ (fun i t hi hI => ?_) (fun t h=>⟨t,rfl,by have:=h.2.mh;rwa [uG] at this⟩)) (by rintro _ ⟨t,rfl,h⟩;exact ay.some ⟨rfl,_,h⟩)
  ·show BT c s0 c.aC 0 0 os cs wm (uE c.aK.length false)
   exact ⟨sS.symm,iC.symm,Uh 0,C,W,by simp,fun i x _ _=>by rw [E9]⟩
  ·obtain ⟨hs1,st,day,os1,cs1,pu,gb⟩:=t
   obtain ⟨rfl,hR⟩:=hI
   simp only at hR
   obtain ⟨a1,a2,a3⟩:=VU hl i hi
   have CR:=XW hc hl hv i (by omega)
   refine ay.az (zt (ua hi)) ?_
   refine ay.bind (zi0 hc CR a1 a2 a3 hR (show (i:Int) < 100000 by omega)) ?_
   rintro ⟨Fa,hs2,mq,BO,cs2,os2⟩ hR2
   have ew:IntKind.i64.wrap ((i:Int)+1)=(i:Int)+1:=zZ (by omega) (by omega)
   refine ay.some (show IntKind.i64.wrap ((i:Int)+1)=((i+1:Nat):Int)∧BT c (q9 c s0 (l.take (i+1))) hs2 (IntKind.i64.wrap ((i:Int)+1)) Fa os2 cs2 BO mq from ?_)
   rw [ew,Xn hi]
   exact ⟨by omega,hR2⟩
 ·rintro ⟨hs,st,day,k1,k2,k3,k4,os,cs,wm,hp⟩ ⟨e1,cs',C⟩
  simp only at e1 C
  refine ay.az (wk (by rw [C.lo];exact e1)) ?_
  exact ay.some ⟨rfl,cs',C⟩
theorem zgp {l:List Int} {s0:bn} {zw:Int} (hc:c.Ok) (h6:c.aB.length≤6) (hv:VS c s0) (iC:s0.day=0) (sS:s0.aC=c.aC) (E9:s0.used=uE c.aK.length false) (hs0:cz c c.aC (j8 c) s0.aM) (rU:fC c (j8 c)) (hl:n8 c s0 l) (h4:l.length≤4000) :
  eo c l zw=some (zR c (q9 c s0 l) zw,true):=by
 refine ay.eq ?_
 unfold eo
 refine ay.bind (zgo hc h6 hv iC sS E9 hs0 rU hl h4) ?_
 rintro ⟨os,e⟩ ⟨e0,cs,C⟩
 simp only at e0 C
 subst e0
 have hvl:=XW hc hl hv l.length (uM _)
 rw [uG] at hvl
 have hlo:=C.lo
 refine ay.az (v:=false) (by rw [beq_iff_eq.2 (show (os.length:Int)=c.aB.length by omega)];rfl) ?_
 refine ay.ite (fun h=>by cases h) (fun _ => ?_)
 have hbr:∀ i,i < os.length→∃ k m,c.aB[i]?=some k∧(q9 c s0 l).aM[i]?=some m∧(uu (uu (zf c.aB (i:Int)) fun e1=>(bif e1.final then (uu (zf os (i:Int)) fun e2=>(bif (e2.aH == 4) then some (e2.bg == zw) else some false)) else some false)) fun v2=>(bif v2 then some (.inr ()) else some (.inl ())))=some (bif !(k.final&&(m.aH == 4&&m.bg == zw)) then (.inl ():Unit ⊕ Unit) else .inr ()):=fun i hi=>by
  obtain ⟨k,m,o,q,g1,g2,g3,g4,D⟩:=C.get hvl.lm (i:=i) (by omega)
  refine ⟨k,m,g1,g2,?_⟩
  rw [zt g1,zt g3]
  simp only [aS,D.st,D.br]
  cases k.final<;>cases (m.aH == 4)<;>cases (m.bg == zw)<;>rfl
 refine ay.bind (P:=fun o:Unit ⊕ Unit=>(o=.inl ()∧zR c (q9 c s0 l) zw=false)∨(o=.inr ()∧zR c (q9 c s0 l) zw=true))
  (ay.dS (fun i _=>∀ j,j < i→∀ k m,c.aB[j]?=some k→(q9 c s0 l).aM[j]?=some m→¬ (k.final=true∧m.aH=4∧m.bg=zw)) (by simp only;omega) (fun j hj=>by omega) (fun i _ hi hI => ?_) (fun _ hI=>.inl ⟨rfl,?_⟩)) ?_
 ·obtain ⟨k,m,g1,g2,g3⟩:=hbr i hi
  rw [g3]
  by_cases hb:k.final=true∧m.aH=4∧m.bg=zw
  ·obtain ⟨b1,b2,b3⟩:=hb
   rw [b1,beq_iff_eq.2 b2,beq_iff_eq.2 b3]
   exact ay.some (.inr ⟨rfl,ZJ.2 ⟨i,k,m,g1,g2,b1,b2,b3⟩⟩)
  ·have:(k.final&&(m.aH == 4&&m.bg == zw))=false:=by
    rw [u9];simp only [ne_eq,ue,beq_iff_eq];exact hb
   rw [this]
   refine ay.some (fun j hj k' m' h1 h2 => ?_)
   by_cases e:j=i
   ·subst e
    rw [g1] at h1;rw [g2] at h2
    cases h1;cases h2
    exact hb
   ·exact hI j (by omega) k' m' h1 h2
 ·cases h:zR c (q9 c s0 l) zw with
  | false=>rfl
  | true=>
   obtain ⟨i,k,m,g1,g2,g3⟩:=ZJ.1 h
   exact absurd g3 (hI i (by have:=(ub.1 g1).1;show i < os.length;omega) k m g1 g2)
 ·rintro _ (⟨rfl,h⟩ | ⟨rfl,h⟩)
  ·exact ay.some (by rw [h])
  ·exact ay.some (by rw [h])
end
end
section
section
variable {c:ax} {zw:Int} {p:aA} {a:cF}
theorem cC.lost (A:cC c zw p a) {i:Nat} (hi:i < a.aR.length):(gm c a).lost i=zR c a.aR[i].state zw:=by
 show (match a.aR[i]? with | some q=>zR c q.state a.zw | none=>false)=_
 rw [ua hi,A.pa]
theorem cC.own (A:cC c zw p a) {i:Nat} (hi:i < a.aR.length):(gm c a).own i=a.aR[i].own:=by
 show (match a.aR[i]? with | some q=>q.own | none=>false)=_
 rw [ua hi]
theorem cC.pos (A:cC c zw p a):0 < a.aR.length:=(ub.1 A.F.first).1
theorem cC.tgt (A:cC c zw p a) {i:Nat} (hi:i < a.aR.length) {T:List bA} (hT:a.bO[i]?=some T) {m:bA} (hm:m∈T) :
  m.step∈zn c zw a.aR[i]∧0≤m.to∧∃ h:m.to.toNat < a.aR.length,a.aR[m.to.toNat]=target c a.aR[i] m.step:=by
 obtain ⟨T',h1,h2,h3⟩:=A.mv hi
 rw [hT] at h1;cases h1
 obtain ⟨h4,h5⟩:=h3 m hm
 obtain ⟨h6,h7⟩:=ub.1 h5
 exact ⟨by rw [←h2];exact ui.2 ⟨m,hm,rfl⟩,h4,h6,h7⟩
theorem cC.ne (A:cC c zw p a) {i:Nat} (hi:i < a.aR.length) {T:List bA} (hT:a.bO[i]?=some T) (ho:a.aR[i].own=true):T≠[]:=by
 obtain ⟨T',h1,h2,_⟩:=A.mv hi
 rw [hT] at h1;cases h1
 intro e
 subst e
 have:(-2:Int)∈zn c zw a.aR[i]:=jj.2 (.inl ⟨ho,rfl⟩)
 rw [←h2] at this;cases this
end
end
section
def cO (c:ax) (zw:Int):Nat→aA→Prop
 | 0,q=>zR c q.state zw=true
 | k+1,q=>zR c q.state zw=true∨(q.own=true∧∀ m∈zn c zw q,cO c zw k (target c q m))∨(q.own=false∧∃ m∈zn c zw q,cO c zw k (target c q m))
def wC (c:ax) (zw:Int) (q:aA):Prop:=∀ k,¬ cO c zw k q
theorem cO.zero {c:ax} {zw:Int} {q:aA} (h:zR c q.state zw=true):∀ k,cO c zw k q
 | 0=>h
 | k+1=>.inl h
theorem cO.ij {c:ax} {zw:Int}:∀ {k:Nat} {q:aA},cO c zw k q→cO c zw (k+1) q
 | 0,q,h=>.inl h
 | k+1,q,h=>by
  rcases h with h | ⟨h1,h2⟩ | ⟨h1,t,h2,h3⟩
  ·exact .inl h
  ·exact .inr (.inl ⟨h1,fun t ht=>(h2 t ht).ij⟩)
  ·exact .inr (.inr ⟨h1,t,h2,h3.ij⟩)
theorem cO.mono {c:ax} {zw:Int} {k k':Nat} {q:aA} (hk:k≤k') (h:cO c zw k q):cO c zw k' q:=by
 induction hk with
 | refl=>exact h
 | step _ ih=>exact ih.ij
section
variable {c:ax} {zw:Int} {p:aA} {a:cF}
theorem I9 (A:cC c zw p a):∀ (k i:Nat) (hi:i < a.aR.length),Attr (gm c a) k i↔cO c zw k a.aR[i]
 | 0,i,hi=>by show (gm c a).lost i=true↔_;rw [A.lost hi];rfl
 | k+1,i,hi=>by
  obtain ⟨T,hT,hst,_⟩:=A.mv hi
  have hs:=A.succ hi hT
  have go:∀ m∈T,(Attr (gm c a) k m.to.toNat↔cO c zw k (target c a.aR[i] m.step)):=fun m hm=>by
   obtain ⟨_,_,t3,t4⟩:=A.tgt hi hT hm
   rw [I9 A k _ t3,t4]
  have hall:(∀ t∈(gm c a).succ i,Attr (gm c a) k t)↔∀ m∈zn c zw a.aR[i],cO c zw k (target c a.aR[i] m):=by
   rw [hs,←hst]
   constructor
   ·intro h x hx
    obtain ⟨m,hm,rfl⟩:=ui.1 hx
    exact (go m hm).1 (h _ (ui.2 ⟨m,hm,rfl⟩))
   ·intro h x hx
    obtain ⟨m,hm,rfl⟩:=ui.1 hx
    exact (go m hm).2 (h _ (ui.2 ⟨m,hm,rfl⟩))
  have hex:(∃ t∈(gm c a).succ i,Attr (gm c a) k t)↔∃ m∈zn c zw a.aR[i],cO c zw k (target c a.aR[i] m):=by
   rw [hs,←hst]
   constructor
   ·rintro ⟨x,hx,h⟩
    obtain ⟨m,hm,rfl⟩:=ui.1 hx
    exact ⟨_,ui.2 ⟨m,hm,rfl⟩,(go m hm).1 h⟩
   ·rintro ⟨x,hx,h⟩
    obtain ⟨m,hm,rfl⟩:=ui.1 hx
    exact ⟨_,ui.2 ⟨m,hm,rfl⟩,(go m hm).2 h⟩
  show ((gm c a).lost i=true∨((gm c a).own i=true∧∀ t∈(gm c a).succ i,Attr (gm c a) k t)∨((gm c a).own i=false∧∃ t∈(gm c a).succ i,Attr (gm c a) k t))↔_
  rw [A.lost hi,A.own hi,hall,hex]
  rfl
def gG (c:ax) (zw:Int) (q:aA) (x:Int):Prop := -1≤x∧∀ k:Nat,(x ≠ -1∧x≤k)↔cO c zw k q
theorem La (A:cC c zw p a) {r:Nat→Int} (hr:JQ (gm c a) r) {i:Nat} (hi:i < a.aR.length):gG c zw a.aR[i] (r i):=
 ⟨(hr i hi).1,fun k=>((hr i hi).2 k).trans (I9 A k i hi)⟩
theorem gG.Fb {q:aA} {x y:Int} (h1:gG c zw q x) (h2:gG c zw q y):x=y:=by
 by_cases e:x = -1
 ·by_cases e2:y = -1
  ·rw [e,e2]
  ·have:=(h1.2 y.toNat).2 ((h2.2 y.toNat).1 ⟨e2,by have:=h2.1;omega⟩)
   exact absurd e this.1
 ·by_cases e2:y = -1
  ·have:=(h2.2 x.toNat).2 ((h1.2 x.toNat).1 ⟨e,by have:=h1.1;omega⟩)
   exact absurd e2 this.1
  ·have:=(h1.2 y.toNat).2 ((h2.2 y.toNat).1 ⟨e2,by have:=h2.1;omega⟩)
   have:=(h2.2 x.toNat).2 ((h1.2 x.toNat).1 ⟨e,by have:=h1.1;omega⟩)
   have:=h1.1;have:=h2.1
   omega
theorem gG.safe {q:aA} {x:Int} (h:gG c zw q x):x = -1↔wC c zw q:=by
 constructor
 ·intro e k hk
  exact ((h.2 k).2 hk).1 e
 ·intro hs
  have:=h.1
  by_cases e:x = -1
  ·exact e
  ·exact absurd ((h.2 x.toNat).1 ⟨e,by omega⟩) (hs _)
end
end
section
open Classical in
noncomputable def qf (c:ax) (zw:Int) (q:aA):Bool:=decide (wC c zw q)
theorem q5 {c:ax} {zw:Int} {q:aA}:qf c zw q=true↔wC c zw q:=by unfold qf;simp
theorem Xo {c:ax} {zw:Int} {q:aA} (h:wC c zw q):zR c q.state zw=false:=by
 cases e:zR c q.state zw with
 | false=>rfl
 | true=>exact absurd e (h 0)
theorem zei {c:ax} {zw:Int} (l:List Int) (f:Int→aA) (h:∀ m∈l,¬ wC c zw (f m)):∃ k,∀ m∈l,cO c zw k (f m):=by
 induction l with
 | nil=>exact ⟨0,fun m hm=>by cases hm⟩
 | cons x l ih=>
  obtain ⟨k,hk⟩:=ih fun m hm=>h m (u0 _ hm)
  have hx:=h x u6
  obtain ⟨k2,hk2⟩:∃ k,cO c zw k (f x):=Classical.not_forall_not.1 hx
  refine ⟨k+k2,fun m hm => ?_⟩
  rcases List.mem_cons.1 hm with rfl | hm
  ·exact hk2.mono (by omega)
  ·exact (hk m hm).mono (by omega)
theorem Lb {c:ax} {zw:Int} {q:aA} (ho:q.own=true):wC c zw q↔zR c q.state zw=false∧∃ m∈zn c zw q,wC c zw (target c q m):=by
 constructor
 ·intro h
  refine ⟨Xo h,?_⟩
  apply Classical.byContradiction
  intro hn
  obtain ⟨k,hk⟩:=zei (zn c zw q) (target c q) (fun m hm hs=>hn ⟨m,hm,hs⟩)
  exact h (k+1) (.inr (.inl ⟨ho,hk⟩))
 ·rintro ⟨h1,m,hm,h2⟩ k hk
  cases k with
  | zero=>
   have hk:zR c q.state zw=true:=hk
   rw [h1] at hk;cases hk
  | succ k=>
   rcases hk with hk | ⟨_,hk⟩ | ⟨hk,_⟩
   ·rw [h1] at hk;cases hk
   ·exact h2 k (hk m hm)
   ·rw [ho] at hk;cases hk
theorem zhL {c:ax} {zw:Int} {q:aA} (ho:q.own=false):wC c zw q↔zR c q.state zw=false∧∀ m∈zn c zw q,wC c zw (target c q m):=by
 constructor
 ·intro h
  exact ⟨Xo h,fun m hm k hk=>h (k+1) (.inr (.inr ⟨ho,m,hm,hk⟩))⟩
 ·rintro ⟨h1,h2⟩ k hk
  cases k with
  | zero=>
   have hk:zR c q.state zw=true:=hk
   rw [h1] at hk;cases hk
  | succ k=>
   rcases hk with hk | ⟨hk,_⟩ | ⟨_,m,hm,hk⟩
   ·rw [h1] at hk;cases hk
   ·rw [ho] at hk;cases hk
   ·exact h2 m hm k hk
section
variable {c:ax} {zw:Int} {p:aA} {a:cF}
theorem Lc (hc:c.Ok) (A:cC c zw p a):Zf c a=some (a.aR.map (qf c zw)):=by
 refine ay.eq ?_
 have hn:a.aR.length≤1500:=A.F.inv.len
 unfold Zf
 refine ay.bind (Xm hc A) ?_
 rintro r ⟨hl,hr,_⟩
 have hmk:eA 1 (r.length:Int)=some a.aR.length:=by rw [hl];exact XU hn (by omega)
 refine ay.az hmk ?_
 refine ay.bind (P:=fun o:List Bool ⊕ Unit=>o=.inl (a.aR.map (qf c zw))) (ay.dS (fun i s=>s.length=a.aR.length∧∀ j,j < i→s[j]?=(a.aR.map (qf c zw))[j]?) (by omega) ⟨by simp,fun j hj=>by omega⟩ (fun i s hi hs => ?_) (fun s hs => ?_)) ?_
 ·have hi':i < a.aR.length:=by omega
  refine ay.az (zt (vV hi)) ?_
  refine ay.az (zC hi') ?_
  refine ay.az (ua (show i < s.length by omega)) ?_
  refine ay.some ⟨by simp [hs.1],fun j hj => ?_⟩
  by_cases e:j=i
  ·subst e
   rw [uc (by omega),uv,ua hi']
   simp only [uK,Option.some.injEq]
   have h1:=(La A hr hi').safe
   cases h2:qf c zw a.aR[j] with
   | true=>rw [h1.2 (q5.1 h2)];rfl
   | false=>
    refine beq_eq_false_iff_ne.2 fun e => ?_
    rw [q5.2 (h1.1 e)] at h2;cases h2
  ·rw [ud (Ne.symm e)];exact hs.2 j (by omega)
 ·have e:s=a.aR.map (qf c zw):=uP fun j=>by
   by_cases h:j < r.length
   ·exact hs.2 j h
   ·rw [un (by omega),un (by simp;omega)]
  rw [e]
 ·rintro _ rfl
  simp only [uO]
  refine ay.az (wk (by simp)) ?_
  exact ay.some rfl
noncomputable def Zn (c:ax) (zw:Int) (q:aA):Int:=
 bif q.own&&qf c zw q then ((zn c zw q).find? fun m=>qf c zw (target c q m)).getD (-2) else -2
theorem Ld (A:cC c zw p a) {i:Nat} (hi:i < a.aR.length):zf (a.aR.map (qf c zw)) (i:Int)=some (qf c zw a.aR[i]):=zt (by rw [uv,ua hi];rfl)
theorem zi1 (A:cC c zw p a) {i:Nat} (hi:i < a.aR.length) {T:List bA} (hT:a.bO[i]?=some T) {m:bA} (hm:m∈T):zf (a.aR.map (qf c zw)) m.to=some (qf c zw (target c a.aR[i] m.step)):=by
 obtain ⟨_,t2,t3,t4⟩:=A.tgt hi hT hm
 have:=Ld A t3
 rw [uH t2,t4] at this
 exact this
end
end
structure eP (c:ax) (s:eu):Prop where
 p0:0≤s.zw
 p1:s.zw < c.aN
 n1:1≤s.af.length
 n2:s.af.length≤1500
 vs:∀ r∈s.af,VS c r.aW.state
 lost:∀ r∈s.af,zR c r.aW.state s.zw=false
 own:∀ r∈s.af,r.aW.own=true→r.move∈zn c s.zw r.aW∧∃ r'∈s.af,r'.aW=target c r.aW r.move
 tP:∀ r∈s.af,r.aW.own=false→∀ m∈zn c s.zw r.aW,∃ r'∈s.af,r'.aW=target c r.aW m
structure gH (c:ax) (d:bP):Prop where
 p0:0≤d.zw
 p1:d.zw < c.aN
 n1:1≤d.af.length
 n2:d.af.length≤1500
 vs:∀ r∈d.af,VS c r.aW.state
 rk:∀ r∈d.af,0≤r.bl
 zero:∀ r∈d.af,r.bl=0→zR c r.aW.state d.zw=true
 own:∀ r∈d.af,0 < r.bl→r.aW.own=true→∀ m∈zn c d.zw r.aW,∃ r'∈d.af,r'.aW=target c r.aW m∧r'.bl < r.bl
 tP:∀ r∈d.af,0 < r.bl→r.aW.own=false→r.move∈zn c d.zw r.aW∧∃ r'∈d.af,r'.aW=target c r.aW r.move∧r'.bl < r.bl
section
section
variable {c:ax} {zw:Int} {p:aA} {a:cF}
theorem zi2 {q:aA} (ho:q.own=true) (hs:qf c zw q=true):Zn c zw q∈zn c zw q∧qf c zw (target c q (Zn c zw q))=true∧∀ m∈zn c zw q,qf c zw (target c q m)=true→Zn c zw q≤m:=by
 obtain ⟨_,m0,hm0,hs0⟩:=(Lb ho).1 (q5.1 hs)
 have nS:Zn c zw q=((zn c zw q).find? fun m=>qf c zw (target c q m)).getD (-2):=by unfold Zn;rw [ho,hs];rfl
 cases hf:(zn c zw q).find? (fun m=>qf c zw (target c q m)) with
 | none=>
  have:=List.find?_eq_none.1 hf m0 hm0
  rw [q5.2 hs0] at this
  exact absurd rfl this
 | some x=>
  rw [hf] at nS
  have nS:Zn c zw q=x:=nS
  obtain ⟨h1,i,hi,h2,h3⟩:=List.find?_eq_some_iff_getElem.1 hf
  rw [nS]
  refine ⟨by rw [←h2];exact ut hi,h1,fun m hm BV => ?_⟩
  obtain ⟨j,hj,rfl⟩:=uI hm
  by_cases e:j < i
  ·have:=h3 j e
   rw [BV] at this;cases this
  ·by_cases e2:j=i
   ·subst e2;omega
   ·have:=uX.1 (Uw c zw q) i j hi hj (by omega)
    omega
end
end
section
theorem Lf (c:ax) (zw:Int) (q:aA):∃ x,gG c zw q x:=by
 by_cases h:∃ k,cO c zw k q
 ·have least:∀ (n:Nat),cO c zw n q→∃ k,cO c zw k q∧∀ j,cO c zw j q→k≤j:=by
   intro n
   induction n using Nat.strongRecOn with
   | _ n ih=>
    intro hn
    by_cases h2:∃ j,j < n∧cO c zw j q
    ·obtain ⟨j,hj,hp⟩:=h2;exact ih j hj hp
    ·exact ⟨n,hn,fun j hj=>Nat.le_of_not_lt fun hlt=>h2 ⟨j,hlt,hj⟩⟩
  obtain ⟨n,hn⟩:=h
  obtain ⟨k,hk,hl⟩:=least n hn
  refine ⟨(k:Int),by omega,fun j=>⟨fun h=>hk.mono (by omega),fun h=>⟨by omega,by have:=hl j h;omega⟩⟩⟩
 ·exact ⟨-1,by omega,fun j=>⟨fun h=>absurd rfl h.1,fun h'=>absurd ⟨j,h'⟩ h⟩⟩
open Classical in
noncomputable def dw (c:ax) (zw:Int) (q:aA):Int:=(Lf c zw q).choose
theorem kj (c:ax) (zw:Int) (q:aA):gG c zw q (dw c zw q):=(Lf c zw q).choose_spec
theorem Xp (c:ax) (zw:Int) (q:aA) : -1≤dw c zw q:=(kj c zw q).1
theorem Lg {c:ax} {zw:Int} {q:aA}:dw c zw q = -1↔wC c zw q:=(kj c zw q).safe
theorem WH {c:ax} {zw:Int} {q:aA}:dw c zw q=0↔zR c q.state zw=true:=by
 have h:=(kj c zw q).2 0
 have hl:=Xp c zw q
 constructor
 ·intro e;exact h.1 ⟨by omega,by omega⟩
 ·intro e
  have:=h.2 e
  omega
theorem zi3 {c:ax} {zw:Int} {q:aA} (h:0 < dw c zw q) (ho:q.own=true) {m:Int} (hm:m∈zn c zw q):0≤dw c zw (target c q m)∧dw c zw (target c q m) < dw c zw q:=by
 obtain ⟨k,hk⟩:∃ k:Nat,dw c zw q=((k+1:Nat):Int):=⟨(dw c zw q).toNat - 1,by omega⟩
 have hA:=((kj c zw q).2 (k+1)).1 ⟨by omega,by omega⟩
 rcases hA with h1 | ⟨_,h2⟩ | ⟨h2,_⟩
 ·have:=WH.2 h1;omega
 ·have:=((kj c zw (target c q m)).2 k).2 (h2 m hm)
  have:=Xp c zw (target c q m)
  omega
 ·rw [ho] at h2;cases h2
theorem zi4 {c:ax} {zw:Int} {q:aA} (h:0 < dw c zw q) (ho:q.own=false):∃ m∈zn c zw q,0≤dw c zw (target c q m)∧dw c zw (target c q m) < dw c zw q:=by
 obtain ⟨k,hk⟩:∃ k:Nat,dw c zw q=((k+1:Nat):Int):=⟨(dw c zw q).toNat - 1,by omega⟩
 have hA:=((kj c zw q).2 (k+1)).1 ⟨by omega,by omega⟩
 rcases hA with h1 | ⟨h2,_⟩ | ⟨_,m,hm,h2⟩
 ·have:=WH.2 h1;omega
 ·rw [ho] at h2;cases h2
 ·have:=((kj c zw (target c q m)).2 k).2 h2
  have:=Xp c zw (target c q m)
  exact ⟨m,hm,by omega,by omega⟩
section
variable {c:ax} {zw:Int} {p:aA} {a:cF}
theorem VV (hc:c.Ok) (A:cC c zw p a):vt c a=some (a.aR.map (dw c zw)):=by
 refine ay.eq (ay.mono (Xm hc A) ?_)
 rintro r ⟨hl,hr,_⟩
 refine uP fun i => ?_
 rw [uv]
 by_cases hi:i < a.aR.length
 ·have h1:=La A hr hi
  have h2:=h1.Fb (kj c zw a.aR[i])
  rw [ua hi,uK,←h2]
  have:i < r.length:=by rw [hl];exact hi
  rw [ua this]
  simp [at_,this]
 ·rw [un (by omega),un (by omega)];rfl
noncomputable def ZK (c:ax) (zw:Int) (q:aA):Int:=bif q.own then Zn c zw q else 0
noncomputable def jC (c:ax) (zw:Int) (l:List aA):List dh:=(l.filter (qf c zw)).map fun q=>{aW:=q,move:=ZK c zw q}
theorem kF {l:List aA} {P:aA} (h:P∈l) (hs:wC c zw P):∃ r'∈jC c zw l,r'.aW=P:=
 ⟨_,ui.2 ⟨P,uh.2 ⟨h,q5.2 hs⟩,rfl⟩,rfl⟩
theorem zbP (A:cC c zw p a) (hs:wC c zw p):eP c {zw:=zw,af:=jC c zw a.aR}:=by
 have hrow:∀ r∈jC c zw a.aR,∃ q∈a.aR,wC c zw q∧r={aW:=q,move:=ZK c zw q}:=fun r hr=>by
  obtain ⟨q,hq,rfl⟩:=ui.1 hr
  obtain ⟨h1,h2⟩:=uh.1 hq
  exact ⟨q,h1,q5.1 h2,rfl⟩
 refine ⟨A.p0,A.p1,?_,?_,fun r hr => ?_,fun r hr => ?_,fun r hr ho => ?_,fun r hr ho m hm => ?_⟩
 ·obtain ⟨r,hr,_⟩:=kF (uS A.F.first) hs
  exact ux hr
 ·have h1:=A.F.inv.len
  have h2:=uB (qf c zw) a.aR
  show (jC c zw a.aR).length≤1500
  unfold jC
  rw [uy];omega
 ·obtain ⟨q,hq,At,rfl⟩:=hrow r hr;exact A.F.inv.vs q hq
 ·obtain ⟨q,hq,At,rfl⟩:=hrow r hr;exact Xo At
 ·obtain ⟨q,hq,At,rfl⟩:=hrow r hr
  have ho:q.own=true:=ho
  obtain ⟨g1,g2,_⟩:=zi2 (c:=c) (zw:=zw) ho (q5.2 At)
  have e:ZK c zw q=Zn c zw q:=by unfold ZK;rw [ho];rfl
  show ZK c zw q∈zn c zw q∧_
  rw [e]
  exact ⟨g1,kF (A.F.closed hq g1) (q5.1 g2)⟩
 ·obtain ⟨q,hq,At,rfl⟩:=hrow r hr
  have ho:q.own=false:=ho
  have hm:m∈zn c zw q:=hm
  exact kF (A.F.closed hq hm) (((zhL ho).1 At).2 m hm)
theorem zej (A:cC c zw p a) (hp:dw c zw p ≠ -1) {af:List cU} (hl:af.length≤1500)
  (h1:∀ r∈af,r.aW∈a.aR∧r.bl=dw c zw r.aW∧0≤r.bl∧(0 < r.bl→r.aW.own=false→r.move∈zn c zw r.aW∧0≤dw c zw (target c r.aW r.move)∧dw c zw (target c r.aW r.move) < r.bl))
  (h2:∀ q∈a.aR,0≤dw c zw q→∃ r∈af,r.aW=q):gH c {zw:=zw,af:=af}:=by
 have hex:∀ q∈a.aR,0≤dw c zw q→∃ r∈af,r.aW=q∧r.bl=dw c zw q:=fun q hq h0=>by
  obtain ⟨r,hr,e⟩:=h2 q hq h0
  exact ⟨r,hr,e,by rw [(h1 r hr).2.1,e]⟩
 refine ⟨A.p0,A.p1,?_,hl,fun r hr=>A.F.inv.vs _ (h1 r hr).1,fun r hr=>(h1 r hr).2.2.1,fun r hr hz => ?_,fun r hr h0 ho m hm => ?_,fun r hr h0 ho => ?_⟩
 ·obtain ⟨r,hr,_⟩:=h2 p (uS A.F.first) (by have:=Xp c zw p;omega)
  exact ux hr
 ·have:=(h1 r hr).2.1
  exact (WH (zw:=zw)).1 (by omega)
 ·have hm:m∈zn c zw r.aW:=hm
  obtain ⟨g1,g2,g3,_⟩:=h1 r hr
  obtain ⟨k1,k2⟩:=zi3 (c:=c) (zw:=zw) (by omega) ho hm
  obtain ⟨r',hr',e1,e2⟩:=hex _ (A.F.closed g1 hm) k1
  exact ⟨r',hr',e1,by omega⟩
 ·obtain ⟨g1,g2,g3,g4⟩:=h1 r hr
  obtain ⟨k0,k1,k2⟩:=g4 h0 ho
  obtain ⟨r',hr',e1,e2⟩:=hex _ (A.F.closed g1 k0) k1
  exact ⟨k0,r',hr',e1,by omega⟩
end
end
end Go.Proofs.YtcmmhbmgpflmeaaGreatDoor
