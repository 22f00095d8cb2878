/-
  'TopAdvisedSeen': for every input the call returns true, and each argument reads afterwards as it read before.
  The tables of the library that the rows list: from the row's condition to what the contracts ask; the witness.
  TopAdvisedSeen: of a party that follows its advice no monitor says that it is in breach.
  The fixed example of the laws about beliefs at the top: w11Monitors returns true. Printed by mkheads.py.
  Functions of the program as the kernel reckons them: with fuel, and texts of small numbers. Printed by mkheads.py.
  StrategyNoBreach: who can perform and follows the advice never comes into breach.
  'compose.Restrict', 'Lost' and 'Safe': what they return.
-/
import Derived.Test.YtgpojcfkanjabaaGreatDoorAS14
import Derived.Test.YtgpojcfkanjabaaGreatDoorAS13
import Derived.Test.YtgpojcfkanjabaaGreatDoorRows
import Derived.Test.YtgpojcfkanjabaaGreatDoorAS12
import Derived.LaidLaws
import Derived.LaidSub
import Derived.Deep.DeepLaidRun
import Derived.Lib.LaidTab
import Derived.JoinedOf
import Derived.Test.YtgpojcfkanjabaaGreatDoorAS07
import Derived.Test.YtgpojcfkanjabaaGreatDoorTie
import Derived.Test.YtgpojcfkanjabaaGreatDoorCards
import Derived.SevenTiedAt
open List renaming getElem?_eq_getElem → uc, replicate → ue, length_filter_le → ug, all_eq_true → uh, mem_cons_of_mem → ui, length_map → uj, take_length → uk, getElem_of_mem → ul, mem_cons_self → um, mem_map → un, flatMap_cons → uo, getElem_mem → uq, range → ut
open Option renaming bind → ua
open Bool renaming and_eq_true → ud
open Nat renaming le_refl → ur
open Sum renaming elim → ub
namespace Go.Proofs.YtgpojcfkanjabaaGreatDoor
open Go.RowKit
set_option linter.unusedSimpArgs false
set_option linter.unusedVariables false
set_option maxRecDepth 100000
section
section
variable {c:ay} {ρ:Nat→Nat} {zw:Int} {p:aK}
theorem zc6 (hc:c.Ok) {s:ak} (hv:VS c s) {P:List Int} (hr:∀ x∈P,0≤x∧x < c.aA.length) (hl:P.length≤400):yb P s=some (rs P s):=by
 have hf:=hv.tV hc
 have sY:=hv.lm
 unfold yb
 rw [ju (by omega),ju (by omega)]
 simp only [aX]
 rw [Ru (st:=fun l=>l) P (fun i=>s.aI[i.toNat]?.getD default) (by omega) (fun i hi=>by
  obtain ⟨x0,x1⟩:=hr _ (uq hi)
  obtain ⟨h1,h2⟩:=qE (l:=s.aI) (n:=P[i]) x0 (by omega)
  simp only [zV,uc hi,aX,h2]
  rw [xt (by simp;omega)]
  simp only [aX,uc h1,Option.getD_some]) rfl]
 rfl
theorem zjk (hc:c.Ok) {P:List Int} {ks:List aS} (h:bJ c P ks) (hv:VS c p.state) {q:aK} (hq:mV (cp c ks) zw (pp P p) q):∃ x,mV c zw p x∧VS c x.state∧pp P x=q:=by
 induction hq with
 | base=>exact ⟨p,.base,hv,rfl⟩
 | step _ hm ih=>
  obtain ⟨x,h1,h2,rfl⟩:=ih
  obtain ⟨g1,g2⟩:=Zq hc h h2 hm
  exact ⟨_,.step h1 g1,wv hc h2 g1,g2.symm⟩
theorem zhK (hc:c.Ok) {P:List Int} {ks:List aS} (h:bJ c P ks) (hv:VS c p.state) {a:cx} (A:bQ c zw p a):¬ Bp (cp c ks) zw (pp P p):=by
 refine zja (L:=a.aW.map (pp P)) (by rw [uj];exact A.F.inv.len) fun q hq => ?_
 obtain ⟨x,h1,_,rfl⟩:=zjk hc h hv hq
 exact un.2 ⟨x,A.F.Bn (List.mem_of_getElem? A.F.first) h1,rfl⟩
noncomputable def we (c:ay) (zw:Int) (p:aK) (P:List Int):Bool:=zK (YH c P).1 zw (pp P p)
theorem Vl {P:List Int} {ks:List aS} (h:bJ c P ks):we c zw p P=zK (cp c ks) zw (pp P p):=by
 unfold we;rw [h.eq]
theorem Mh {i:Nat} (hi:i < (qx ρ c.aA.length).length):∃ r,r < c.aA.length∧ρ r=r∧(qx ρ c.aA.length)[i]=prt c ρ r:=by
 unfold qx at hi ⊢
 rw [uj] at hi
 rw [List.getElem_map]
 have:=Zd.1 (uq hi)
 exact ⟨_,this.1,this.2,rfl⟩
theorem zhL:(qx ρ c.aA.length).length≤c.aA.length:=by
 unfold qx j6
 rw [uj]
 have:=ug (fun x=>ρ x == x) (ut c.aA.length)
 simpa using this
theorem zkN (r:Nat):(prt c ρ r).length≤c.aA.length:=by
 show (wq ρ r c.aA.length).length≤_
 unfold wq
 rw [uj]
 have:=ug (fun x=>ρ x == r) (ut c.aA.length)
 simpa using this
theorem zkO (r:Nat):∀ x∈prt c ρ r,0≤x∧x < c.aA.length:=fun x hx=>by
 obtain ⟨h1,h2,_⟩:=wt.1 hx;exact ⟨h1,h2⟩
theorem zkP (hc:c.Ok) {P:List Int} {ks:List aS} (hl:P.length≤400) (h:bJ c P ks):XA c P=some (cp c ks,0):=by
 rw [zmR c P (hc.off.lt (by omega)) (fun k hk=>(hc.aA.2 k hk).start.lt (by omega)) (by omega),h.eq]
theorem zkQ (hc:c.Ok) (hv:(zI c).1=0):∃ ρ,dN c ρ∧jR c=some (qx ρ c.aA.length):=
 zc3 c (hc.off.lt (by omega)) (fun k hk=>(hc.aA.2 k hk).start.lt (by omega)) hv
theorem zhM (hc:c.Ok) (dK:xJ c zw p.state=true) {P:List Int} {ks:List aS} (h:bJ c P ks) :
  aq (jt (cp c ks) zw (pp P p)) (fun r=>(r.2=0∧bQ (cp c ks) zw (pp P p) r.1)∨(r.2=3∧¬ ∃ a,bQ c zw p a)):=by
 obtain ⟨h0,h1,hv⟩:=xy.1 dK
 have th:xJ (cp c ks) zw (pp P p).state=true:=xy.2 ⟨h0,h1,Kp hc h hv⟩
 refine aq.mono (Lr (h.By hc) th) ?_
 rintro r (⟨g1,g2,g3⟩ | ⟨g1,g2⟩)
 ·exact .inl ⟨g1,h0,h1,g2,g3⟩
 ·exact .inr ⟨g1,fun ⟨a,A⟩=>zhK hc h hv A g2⟩
theorem zjl {d:ay} {q:aK} {a:cx} (A:bQ d zw q a):∃ hp:0 < a.aW.length,a.aW[0]=q:=by
 have h:=A.F.first
 have hp:=(List.getElem?_eq_some_iff.1 h).1
 refine ⟨hp,?_⟩
 rw [uc hp] at h
 exact Option.some.inj h
theorem zfE {d:ay} (hd:d.Ok) {q:aK} {a:cx} (A:bQ d zw q a):zf (a.aW.map (zK d zw)) 0=some (zK d zw q):=by
 obtain ⟨hp,e⟩:=zjl A
 have:=Ko A hp
 rw [e] at this
 exact this
theorem zdI {α:Type} (f:α→Bool) (l:List α) {i:Nat} (hi:i < l.length):(l.take (i+1)).filter f=(l.take i).filter f++(bif f l[i] then [l[i]] else []):=by
 rw [List.take_succ_eq_append_getElem hi,List.filter_append]
 cases h:f l[i]<;>simp [h]
def zkR (c:ay) (ρ:Nat→Nat) (zw:Int) (p:aK):Prop:=∀ r ks,r < c.aA.length→ρ r=r→bJ c (prt c ρ r) ks→∃ a,bQ (cp c ks) zw (pp (prt c ρ r) p) a∧jt (cp c ks) zw (pp (prt c ρ r) p)=some (a,0)
theorem zjm (hc:c.Ok) (dK:xJ c zw p.state=true) (R:dN c ρ) (hC:jR c=some (qx ρ c.aA.length)) :
  aq (ZM c zw p) (fun r=>(r.2=3∧r.1=[]∧¬ ∃ a,bQ c zw p a)∨(r.2=0∧r.1=(qx ρ c.aA.length).filter (fun P=>!we c zw p P)∧zkR c ρ zw p)):=by
 obtain ⟨h0,h1,hv⟩:=xy.1 dK
 have sm:=ql (hc.off.lt (by omega)) hv.cv
 have dZ:=sm.aA
 have th:=zhL (c:=c) (ρ:=ρ)
 have hat:=fun i (hi:i < (qx ρ c.aA.length).length)=>Mh (c:=c) (ρ:=ρ) hi
 generalize hL:qx ρ c.aA.length=L at hC th hat ⊢
 unfold ZM
 refine aq.bind (P:=fun r:Int×List (List Int)=>(r.1=3∧¬ ∃ a,bQ c zw p a)∨(r.1=0∧r.2=L.filter (fun P=>!we c zw p P)∧∀ j (hj:j < L.length) ks,bJ c L[j] ks→∃ a,bQ (cp c ks) zw (pp L[j] p) a∧jt (cp c ks) zw (pp L[j] p)=some (a,0))) ?_ ?_
 ·unfold XD
  refine aq.az (v:=false) ?_ ?_
  ·rw [decide_eq_false (show ¬ zw < 0 by omega),decide_eq_false (show ¬ c.aR≤zw by omega),wm c _ hc,ZS hv];rfl
  refine aq.ite (fun h=>by cases h) (fun _ => ?_)
  refine aq.bind (P:=fun r:Int×List (List Int)=>(r.1=3∧¬ ∃ a,bQ c zw p a)∨(r.1=0∧r.2=L.filter (fun P=>!we c zw p P)∧∀ j (hj:j < L.length) ks,bJ c L[j] ks→∃ a,bQ (cp c ks) zw (pp L[j] p) a∧jt (cp c ks) zw (pp L[j] p)=some (a,0))) ?_ (fun v hv=>aq.some hv)
  refine aq.az hC ?_
  refine aq.bind (P:=fun o:(Int×List (List Int)) ⊕ (Int×List (List Int))=>match o with
   | .inl s=>s.1=0∧s.2=L.filter (fun P=>!we c zw p P)∧∀ j (hj:j < L.length) ks,bJ c L[j] ks→∃ a,bQ (cp c ks) zw (pp L[j] p) a∧jt (cp c ks) zw (pp L[j] p)=some (a,0)
   | .inr s=>s.1=3∧¬ ∃ a,bQ c zw p a) ?_ ?_
  ·refine aq.cP (fun i s=>s.1=0∧s.2=(L.take i).filter (fun P=>!we c zw p P)∧∀ j (hj:j < L.length) ks,j < i→bJ c L[j] ks→∃ a,bQ (cp c ks) zw (pp L[j] p) a∧jt (cp c ks) zw (pp L[j] p)=some (a,0)) (by omega) ⟨rfl,by simp,fun j hj ks h=>by omega⟩ ?_ (fun s hs=>⟨hs.1,by rw [hs.2.1,uk],fun j hj ks h=>hs.2.2 j hj ks hj h⟩)
   rintro i ⟨e,l⟩ hi ⟨rfl,hl,har⟩
   simp only at hl
   have hlen:l.length≤400:=by
    rw [hl]
    have h1:=ug (fun P=>!we c zw p P) (L.take i)
    rw [List.length_take] at h1
    omega
   obtain ⟨r,hr,er,ep⟩:=hat i hi
   obtain ⟨ks,hks⟩:=XR hc hv.cv R r
   rw [←ep] at hks
   have Mi:L[i].length≤400:=by rw [ep];have:=zkN (c:=c) (ρ:=ρ) r;omega
   have hPr:∀ x∈L[i],0≤x∧x < c.aA.length:=by rw [ep];exact zkO r
   refine aq.az (zq (uc hi)) ?_
   refine aq.az (zkP hc Mi hks) ?_
   refine aq.bind (P:=fun v:Int×List (List Int)=>(v.1=3∧¬ ∃ a,bQ c zw p a)∨(v.1=0∧v.2=l++(bif !we c zw p L[i] then [L[i]] else [])∧∃ a,bQ (cp c ks) zw (pp L[i] p) a∧jt (cp c ks) zw (pp L[i] p)=some (a,0))) ?_ ?_
   ·refine aq.ite (fun _ => ?_) (fun h=>by cases h)
    refine aq.az (zc6 hc hv hPr Mi) ?_
    refine aq.bind (P:=fun v:Int×List (List Int)=>(v.1=3∧¬ ∃ a,bQ c zw p a)∨(v.1=0∧v.2=l++(bif !we c zw p L[i] then [L[i]] else [])∧∃ a,bQ (cp c ks) zw (pp L[i] p) a∧jt (cp c ks) zw (pp L[i] p)=some (a,0))) ?_ (fun v hv=>aq.some hv)
    unfold Yr
    obtain ⟨⟨a,e⟩,hf,bZ⟩:=zhM hc dK hks
    refine aq.az hf ?_
    rcases bZ with ⟨g1,A⟩ | ⟨g1,g2⟩
    ·simp only at g1 A
     subst g1
     refine aq.bind (P:=fun v:List (List Int)=>v=l++(bif !we c zw p L[i] then [L[i]] else [])) ?_ (fun v hv=>aq.some (.inr ⟨rfl,hv,a,A,hf⟩))
     refine aq.az (v := !we c zw p L[i]) ?_ ?_
     ·rw [LG (hks.By hc) A]
      simp only [aX,zfE (hks.By hc) A,Vl hks]
      rfl
     cases hb:(!we c zw p L[i]) with
     | true=>
      simp only [cg]
      rw [xt (by simp;omega)]
      exact aq.some rfl
     | false=>exact aq.some (by simp)
    ·simp only at g1
     subst g1
     exact aq.some (.inl ⟨rfl,g2⟩)
   ·rintro ⟨e,l2⟩ (⟨g1,g2⟩ | ⟨g1,g2,a,A,hf⟩)
    ·simp only at g1
     subst g1
     exact aq.some ⟨rfl,g2⟩
    ·simp only at g1 g2
     subst g1
     refine aq.some ⟨rfl,?_,fun j hj ks' hji oX => ?_⟩
     ·show l2=_
      rw [g2,hl,zdI _ _ hi]
     ·rcases Nat.lt_or_ge j i with h | h
      ·exact har j hj ks' h oX
      ·obtain rfl:j=i:=by omega
       have:ks=ks':=Option.some.inj (hks.sel.symm.trans oX.sel)
       subst this
       exact ⟨a,A,hf⟩
  ·rintro (s | s) hs
   ·exact aq.some (.inr hs)
   ·exact aq.some (.inl hs)
 ·rintro ⟨e,l⟩ (⟨g1,g2⟩ | ⟨g1,g2,g3⟩)
  ·simp only at g1
   subst g1
   exact aq.some (.inl ⟨rfl,rfl,g2⟩)
  ·simp only at g1 g2
   subst g1
   refine aq.some (.inr ⟨rfl,g2,fun r ks hr er hks => ?_⟩)
   have hm:prt c ρ r∈L:=by
    rw [←hL]
    exact un.2 ⟨r,Zd.2 ⟨hr,er⟩,rfl⟩
   obtain ⟨j,hj,e⟩:=ul hm
   have:=g3 j hj ks (by rw [e];exact hks)
   rw [e] at this
   exact this
theorem zjn (hc:c.Ok) (h:xJ c zw p.state=false):ZM c zw p=some ([],1):=by
 unfold ZM XD
 rw [wm c _ hc]
 simp only [xJ] at h
 simp only [aX]
 have:(bif decide (zw < 0) then some true else (bif decide (c.aR≤zw) then some true else some (!rJ c p.state)))=some true:=by
  by_cases h1:zw < 0
  ·rw [decide_eq_true h1];rfl
  by_cases h2:c.aR≤zw
  ·rw [decide_eq_true h2];cases decide (zw < 0)<;>rfl
  rw [decide_eq_false h1,decide_eq_false h2]
  rw [decide_eq_true (show 0≤zw by omega),decide_eq_true (show zw < c.aR by omega)] at h
  simp only [Bool.true_and] at h
  rw [h];rfl
 rw [this];rfl
theorem Mj {r:List (List Int)×Int} (h:ZM c zw p=some r):QX c zw p=some (r.2 == 0&&(r.1.length:Int) == 0,r.2):=by
 unfold QX
 rw [h]
 simp only [aX]
 cases (r.2 == 0)<;>rfl
theorem zfF (hc:c.Ok) (dK:xJ c zw p.state=true) (R:dN c ρ):zK c zw p=true↔(qx ρ c.aA.length).filter (fun P=>!we c zw p P)=[]:=by
 obtain ⟨h0,h1,hv⟩:=xy.1 dK
 rw [jJ,List.filter_eq_nil_iff]
 constructor
 ·intro hs P hP
  obtain ⟨i,hi,rfl⟩:=ul hP
  obtain ⟨r,hr,er,ep⟩:=Mh (c:=c) (ρ:=ρ) hi
  obtain ⟨ks,hks⟩:=XR hc hv.cv R r
  rw [ep,Vl hks,jJ.2 (zhJ hc hks h0 _ ⟨p,hv,hs,rfl⟩)]
  simp
 ·intro h
  refine zfD hc hv.cv R p ⟨hv,fun r ks hr er hks => ?_⟩
  have:=h (prt c ρ r) (un.2 ⟨r,Zd.2 ⟨hr,er⟩,rfl⟩)
  rw [Vl hks] at this
  simpa [jJ] using this
end
end
section
section
variable {c:ay} {zw:Int} {s0:ak} {a:cx}
theorem zjo (hc:c.Ok) {s:ak} (hv:VS c s) (h1:zK c zw (eZ s)=true) (h2:zK c zw (Br s)=true) (hd:s.day < c.bl) {o:Int} (h0 : -1≤o) (ho:o < c.aJ.length) (rz:ve c s o≠zw):zK c zw (eZ (zO c s o))=true:=by
 have hall:=(Vi (q:=Br s) rfl).1 (jJ.1 h2)
 have go:o∈zr c zw (Br s)→zK c zw (eZ (zO c s o))=true:=fun hm=>by
  have:=hall.2 o hm
  rw [xV c _ h0] at this
  exact jJ.2 this
 by_cases e:o = -1
 ·subst e;exact go (LH rfl hd)
 ·obtain ⟨i,rfl⟩:∃ i:Nat,o=(i:Int):=⟨o.toNat,by omega⟩
  have hi:i < c.aJ.length:=by omega
  cases mW:wZ (zO c s i) s with
  | true=>rw [kK.1 mW];exact h1
  | false=>
   refine go (zZ.2 (.inr (.inr ⟨hd,i,hi,?_,rfl⟩)))
   have Fg:ve c s (i:Int)=jT s.aE c.aJ[i]:=by
    unfold ve;rw [if_neg (by omega),Int.toNat_natCast,uc hi]
   rw [Fg] at rz
   simp only [l7,uc hi,mW,Br]
   rw [beq_eq_false_iff_ne.2 rz];rfl
abbrev CP (c:ay) (zw:Int) (s:ak):Prop:=zK c zw (eZ s)=true
theorem YJ (hc:c.Ok) (gl:VS c s0) {l l1:List Int} (h:pG c zw s0 l l1):cT c (CP c zw) s0 l→cT c (CP c zw) s0 l1∧(cB c s0 l1).day=(cB c s0 l).day∧qI c zw (eZ (cB c s0 l1)) = -2:=by
 induction h with
 | stop h=>exact fun ht=>⟨ht,rfl,h⟩
 | go h t ih=>
  intro ht
  obtain ⟨b0,b1,b2,b3,b4,b5⟩:=LM hc (ht.Bt hc gl) h
  obtain ⟨i1,i2,i3⟩:=ih (ht.snoc b2 (by omega) b1 b4)
  exact ⟨i1,by rw [i2,xc,b5],i3⟩
theorem zhN (hc:c.Ok) (gl:VS c s0) {os l l2:List Int} (h:Fw c zw s0 os l l2):(∀ x∈os,-1≤x∧x < c.aJ.length)→cT c (CP c zw) s0 l→cT c (CP c zw) s0 l2:=by
 induction h with
 | done=>exact fun _ ht=>ht
 | stop _=>exact fun _ ht=>ht
 | own h ha hd t ih=>exact fun hos ht=>ih (fun x hx=>hos x (ui _ hx)) (YJ hc gl ha ht).1
 | LL h ha hd t ih=>
  intro hos ht
  rename_i o os l l1 l2
  obtain ⟨h1,h2,h3⟩:=YJ hc gl ha ht
  have lB:=h1.Bt hc gl
  have hs:zK c zw (eZ (cB c s0 l1))=true:=by
   have:=h1.all l1.length (ur _);rw [uk] at this;exact this
  have hx:zK c zw (Br (cB c s0 l1))=true:=by
   obtain ⟨_,g2,_⟩:=LK (c:=c) (zw:=zw) (q:=eZ (cB c s0 l1)) rfl hs
   rw [h3,kl] at g2;exact g2
  have hd2:(cB c s0 l1).day < c.bl:=by
   have:=lB.day
   rw [←h2] at h
   omega
  obtain ⟨o0,o1⟩:=hos o um
  exact ih (fun x hx=>hos x (ui _ hx)) (h1.snoc hd2 o0 o1 (zjo hc lB hs hx hd2 o0 o1 hd))
end
theorem zhO {c:ay} (hc:c.Ok):∃ r,qy c=some r:=by
 by_cases hv:(zI c).1=0
 ·obtain ⟨r,hr,_⟩:=Lw hc hv;exact ⟨r,hr⟩
 ·exact ⟨_,Lv hc hv⟩
end
end Go.Proofs.YtgpojcfkanjabaaGreatDoor
namespace Go.Proofs.YtgpojcfkanjabaaGreatDoor
set_option linter.unusedSimpArgs false
set_option linter.unusedVariables false
set_option maxRecDepth 100000
def Le {α:Type} (x y:Option α):Prop:=∀ r,x=some r→y=some r
theorem Le.refl {α:Type} (x:Option α):Le x x:=fun _ h=>h
theorem Le.bind {α β:Type} {x y:Option α} {f g:α→Option β} (h:Le x y) (hf:∀ a,Le (f a) (g a)):Le (x.bind f) (y.bind g):=fun r hr=>by
 obtain ⟨a,h1,h2⟩:=Option.bind_eq_some_iff.1 hr
 rw [h a h1];exact hf a r h2
theorem Le.cond {α:Type} (b:Bool) {x y x' y':Option α} (h1:Le x x') (h2:Le y y'):Le (bif b then x else y) (bif b then x' else y'):=by
 cases b
 ·exact h2
 ·exact h1
theorem Le.elim {α β γ:Type} {f f':α→Option γ} {g g':β→Option γ} (h1:∀ a,Le (f a) (f' a)) (h2:∀ a,Le (g a) (g' a)) (o:α ⊕ β):Le (ub f g o) (ub f' g' o):=by
 cases o
 ·exact h1 _
 ·exact h2 _
theorem Le.bE {σ ρ:Type} {f g:Nat→σ→Option (σ ⊕ ρ)} (h:∀ i s,Le (f i s) (g i s)):∀ (k i:Nat) (s:σ),Le (bE f i k s) (bE g i k s)
 | 0,i,s=>Le.refl _
 | k+1,i,s=>fun r hr=>by
  simp only [Go.Proofs.YtgpojcfkanjabaaGreatDoor.bE] at hr ⊢
  split at hr
  ·cases hr
  ·rename_i e;rw [h i s _ e];exact hr
  ·rename_i e;rw [h i s _ e];exact Le.bE h k (i+1) _ r hr
theorem Le.aH {σ ρ:Type} {f g:Nat→σ→Option (σ ⊕ ρ)} (h:∀ i s,Le (f i s) (g i s)) (n:Int) (s:σ):Le (aH n f s) (aH n g s):=fun r hr=>by
 obtain ⟨h1,h2⟩:=Xj hr
 rw [ZB h1];exact Le.bE h _ _ _ r h2
theorem Le.cN {σ ρ:Type} {f g:σ→Option (σ ⊕ ρ)} (h:∀ s,Le (f s) (g s)):∀ (k:Nat) (s:σ),Le (Go.Proofs.YtgpojcfkanjabaaGreatDoor.cN f k s) (Go.Proofs.YtgpojcfkanjabaaGreatDoor.cN g k s)
 | 0,s=>Le.refl _
 | k+1,s=>fun r hr=>by
  simp only [Go.Proofs.YtgpojcfkanjabaaGreatDoor.cN] at hr ⊢
  split at hr
  ·cases hr
  ·rename_i e;rw [h s _ e];exact hr
  ·rename_i e;rw [h s _ e];exact Le.cN h k _ r hr
theorem Le.iter {σ ρ:Type} {f g:σ→Option (σ ⊕ ρ)} (h:∀ s,Le (f s) (g s)) (k:Nat) (s:σ):Le (Go.Proofs.YtgpojcfkanjabaaGreatDoor.cN f k s) (Go.Proofs.YtgpojcfkanjabaaGreatDoor.iter g s):=fun r hr=>ku.2 ⟨k,Le.cN h k s r hr⟩
def Ks:Nat→Nat→List UInt8
 | 0,u=>[]
 | f+1,u=>if u < 10 then [UInt8.ofNat (48+u)] else Ks f (u / 10)++[UInt8.ofNat (48+u % 10)]
theorem Kt:∀ (f u:Nat),u < 10 ^ (f+1)→Ks (f+1) u=Lib.decDigits u
 | 0,u,h=>by
  rw [Lib.decDigits]
  simp only [Ks]
  rw [if_pos (by omega),dif_pos (by omega)]
 | f+1,u,h=>by
  rw [Lib.decDigits,Ks]
  by_cases hu:u < 10
  ·rw [if_pos hu,dif_pos hu]
  ·rw [if_neg hu,dif_neg hu,Kt f (u / 10) (by rw [Nat.pow_succ] at h;omega)]
def wP (n:Int):Bool:=decide (-1000 < n)&&decide (n < 1000)
def Qs (n:Int):List UInt8:=if n < 0 then 45::Ks 4 n.natAbs else Ks 4 n.toNat
theorem yM {n:Int} (h:wP n=true):Qs n=Lib.itoa n:=by
 simp only [wP,ud,decide_eq_true_eq] at h
 unfold Qs Lib.itoa
 rw [Kt 3 n.natAbs (by omega),Kt 3 n.toNat (by omega)]
def Fh (m:aj):Bool:=wP m.aN&&(wP m.left&&(wP m.got&&wP m.bw))
theorem ZY {α β:Type} {f g:α→List β}:∀ {l:List α},(∀ a∈l,f a=g a)→l.flatMap f=l.flatMap g
 | [],_=>rfl
 | a::l,h=>by rw [uo,uo,h a um,ZY fun b hb=>h b (ui _ hb)]
theorem yN {n:Int} (h:wP n=true):qK n=true:=by
 simp only [wP,qK,ud,decide_eq_true_eq] at h ⊢
 omega
noncomputable def YK (p1:ay) (p2:Int) (p3:List Int) (p4:Nat) (p5:List Bool) (p6:Nat) (p7:List aj) (p8:Nat):Option ((List aj)):=
 (ua (cN (σ:=Bool×(List aj)) (ρ:=(List aj)) (fun s1=>(bif s1.1 then (ua (aH (σ:=Bool×(List aj)) (ρ:=Unit) (p1.aA.length:Int) (fun i2 s2=>(ua (ua (zf p1.aA (i2:Int)) fun e1=>(ua (dQ p4 p3.length) fun g1=>(ua (dQ p6 p5.length) fun g2=>(ua (dQ p8 s2.2.length) fun g3=>(ua (yC p1 ({day:=p2,aE:=p3,used:=p5,aI:=s2.2}:ak) (i2:Int)) fun r1=>(bif r1 then (ua (bif (e1.kind == 4) then some (-1) else (ua (zl p4 e1.bM) fun k1=>(ua (p3[k1]?) fun e2=>some e2))) fun (v1:Int)=>(ua (zl p8 (i2:Int)) fun k2=>(ua (s2.2[k2]?) fun e3=>some (true,(s2.2.set k2 ({aN:=1,left:=e1.after,got:=0,bw:=v1,bN:=false}:aj)))))) else some (s2.1,s2.2))))))) fun (v2:Bool×(List aj))=>some (.inl (v2.1,v2.2)))) (false,s1.2)) (ub (fun (s2:Bool×(List aj))=>some (.inl (s2.1,s2.2))) (fun _=>none))) else some (.inr s1.2))) 40 (true,p7)) (fun (y1:(List aj))=>some y1))
theorem Fi (p1:ay) (p2:Int) (p3:List Int) (p4:Nat) (p5:List Bool) (p6:Nat) (p7:List aj) (p8:Nat):Le (YK p1 p2 p3 p4 p5 p6 p7 p8) (wX p1 p2 p3 p4 p5 p6 p7 p8):=by
 unfold YK wX
 repeat' (first | with_reducible exact Le.refl _ | with_reducible refine Le.bind ?_ (fun _ => ?_) | with_reducible refine Le.cond _ ?_ ?_ | with_reducible refine Le.aH (fun _ _ => ?_) _ _ | with_reducible refine Le.iter (fun _ => ?_) _ _ | with_reducible refine Le.elim (fun _ => ?_) (fun _ => ?_) _)
noncomputable def Q9 (c:ay):Option (ak×Int):=
 (ua (wC c) fun r1=>(bif (r1.1 == 0) then (ua (qc 8 c.aE) fun e1=>(ua (eD 1 (c.aJ.length:Int)) fun k1=>(ua (eD 40 (c.aA.length:Int)) fun k2=>(ua (aH (σ:=(List aj)) (ρ:=Unit) (c.aA.length:Int) (fun i1 s1=>(ua (ua (zf c.aA (i1:Int)) fun e2=>(ua (zl k2 (i1:Int)) fun k3=>(ua (s1[k3]?) fun e3=>(bif e2.bH then (ua (zl k2 (i1:Int)) fun k4=>(ua ((s1.set k3 ({aN:=0,left:=0,got:=0,bw:=(-1),bN:=false}:aj))[k4]?) fun e4=>some ((s1.set k3 ({aN:=0,left:=0,got:=0,bw:=(-1),bN:=false}:aj)).set k4 ({e4 with aN:=5}:aj)))) else some (s1.set k3 ({aN:=0,left:=0,got:=0,bw:=(-1),bN:=false}:aj)))))) fun (v1:(List aj))=>some (.inl v1))) (ue k2 ({aN:=0,left:=0,got:=0,bw:=0,bN:=false}:aj))) (ub (fun (s1:(List aj))=>(ua (YK c 0 e1 e1.length (ue k1 false) k1 s1 k2) fun r2=>(ua (dQ k1 (ue k1 false).length) fun g1=>(ua (dQ k2 r2.length) fun g2=>some (({day:=0,aE:=e1,used:=(ue k1 false),aI:=r2}:ak),0))))) (fun _=>none)))))) else some (({day:=0,aE:=[],used:=[],aI:=[]}:ak),1)))
theorem Vm (c:ay):Le (Q9 c) (qy c):=by
 unfold Q9 qy
 repeat' (first | with_reducible exact Le.refl _ | with_reducible exact Fi _ _ _ _ _ _ _ _ | with_reducible refine Le.bind ?_ (fun _ => ?_) | with_reducible refine Le.cond _ ?_ ?_ | with_reducible refine Le.aH (fun _ _ => ?_) _ _ | with_reducible refine Le.iter (fun _ => ?_) _ _ | with_reducible refine Le.elim (fun _ => ?_) (fun _ => ?_) _)
noncomputable def yO (l:List Int) (v:Int):Option (Int×Bool):=
 (ua (ua (cN (σ:=Int×Int) (ρ:=Int) (fun s1=>(bif decide (s1.1 < s1.2) then (ua (Xm .u64 .u64 (IntKind.u64.wrap (IntKind.i64.wrap (s1.1+s1.2))) 1) fun e1=>(ua (zf l (IntKind.i64.wrap e1)) fun e2=>(ua (QQ e2 v) fun r1=>(bif r1 then some (.inl ((IntKind.i64.wrap ((IntKind.i64.wrap e1)+1)),s1.2)) else some (.inl (s1.1,(IntKind.i64.wrap e1))))))) else some (.inr s1.1))) 40 (0,(l.length:Int))) (fun (y1:Int)=>some y1)) fun (v1:Int)=>(ua (bif decide (v1 < (l.length:Int)) then (ua (zf l v1) fun e3=>(bif (e3 == v) then some true else (ua (Zj e3) fun r2=>(bif r2 then (ua (Zj v) fun r3=>some r3) else some false)))) else some false) fun v2=>some (v1,v2)))
theorem YL (l:List Int) (v:Int):Le (yO l v) (jd l v):=by
 unfold yO jd
 repeat' (first | with_reducible exact Le.refl _ | with_reducible refine Le.bind ?_ (fun _ => ?_) | with_reducible refine Le.cond _ ?_ ?_ | with_reducible refine Le.aH (fun _ _ => ?_) _ _ | with_reducible refine Le.iter (fun _ => ?_) _ _ | with_reducible refine Le.elim (fun _ => ?_) (fun _ => ?_) _)
noncomputable def Fj (p1:ay) (p2:Int) (p3:List Int) (p4:Nat) (p5:List Bool) (p6:Nat) (p7:List aj) (p8:Nat):Option ((List aj)):=
 (ua (yO p1.off p2) fun r1=>(ua (ua (xG p1 p2 p3 p4 p5 p6 p7 p8) fun r2=>(ua (aH (σ:=(List aj)) (ρ:=(List aj)) (p8:Int) (fun i1 s1=>(ua (ua (zl p8 (i1:Int)) fun k1=>(ua (s1[k1]?) fun e1=>(ua (jI e1) fun r3=>(bif r3 then (ua (ua (zf p1.aA (i1:Int)) fun e2=>(ua (ua (zl p8 (i1:Int)) fun k2=>(ua (s1[k2]?) fun e3=>(bif e3.bN then some true else (bif e2.b9 then some r1.2 else some false)))) fun v1=>(bif v1 then some s1 else (ua (zl p8 (i1:Int)) fun k3=>(ua (s1[k3]?) fun e4=>(ua (zl p8 (i1:Int)) fun k4=>(ua ((s1.set k3 ({e4 with left:=(IntKind.i64.wrap (e4.left - 1))}:aj))[k4]?) fun e5=>(bif (e5.left == 0) then (ua (bif (e2.kind == (0:Int)) then none else (bif (e2.kind == (1:Int)) then (ua (Yd (i1:Int) p1 p2 p3 p4 p5 p6 (s1.set k3 ({e4 with left:=(IntKind.i64.wrap (e4.left - 1))}:aj)) p8) fun r7=>some r7) else (bif (e2.kind == (2:Int)) then (ua (wY (i1:Int) p1 p2 p3 p4 p5 p6 (s1.set k3 ({e4 with left:=(IntKind.i64.wrap (e4.left - 1))}:aj)) p8) fun r6=>some r6) else (bif (e2.kind == (3:Int)) then (ua (Qh (i1:Int) p1 p2 p3 p4 p5 p6 (s1.set k3 ({e4 with left:=(IntKind.i64.wrap (e4.left - 1))}:aj)) p8) fun r5=>some r5) else (bif (e2.kind == (4:Int)) then (ua (Qh (i1:Int) p1 p2 p3 p4 p5 p6 (s1.set k3 ({e4 with left:=(IntKind.i64.wrap (e4.left - 1))}:aj)) p8) fun r4=>some r4) else none))))) fun v2=>some v2) else some (s1.set k3 ({e4 with left:=(IntKind.i64.wrap (e4.left - 1))}:aj)))))))))) fun (v3:(List aj))=>some ((!true),v3)) else some (false,s1))))) fun (v4:Bool×(List aj))=>(bif v4.1 then some (.inr v4.2) else some (.inl v4.2)))) p7) (ub (fun (s1:(List aj))=>some s1) (fun (y1:(List aj))=>some y1)))) fun (v5:(List aj))=>(ua (YK p1 (IntKind.i64.wrap (p2+1)) p3 p4 p5 p6 v5 p8) fun r8=>some r8)))
theorem zmT (p1:ay) (p2:Int) (p3:List Int) (p4:Nat) (p5:List Bool) (p6:Nat) (p7:List aj) (p8:Nat):Le (Fj p1 p2 p3 p4 p5 p6 p7 p8) (gV p1 p2 p3 p4 p5 p6 p7 p8):=by
 unfold Fj gV
 repeat' (first | with_reducible exact Le.refl _ | with_reducible exact YL _ _ | with_reducible exact Fi _ _ _ _ _ _ _ _ | with_reducible refine Le.bind ?_ (fun _ => ?_) | with_reducible refine Le.cond _ ?_ ?_ | with_reducible refine Le.aH (fun _ _ => ?_) _ _ | with_reducible refine Le.iter (fun _ => ?_) _ _ | with_reducible refine Le.elim (fun _ => ?_) (fun _ => ?_) _)
noncomputable def Fk (p1:Int) (p2:ay) (p3:Int) (p4:List Int) (p5:Nat) (p6:List Bool) (p7:Nat) (p8:List aj) (p9:Nat):Option ((List Int)×(List Bool)×(List aj)):=
 (ua (zf p2.aJ p1) fun e1=>(ua (bif (e1.kind == 1) then some false else (ua (zl p7 p1) fun k1=>(ua (p6[k1]?) fun e2=>some e2))) fun v1=>(bif v1 then some (p4,p6,p8) else (ua (ua (xG p2 p3 p4 p5 p6 p7 p8 p9) fun r1=>(ua (aH (σ:=(List aj)) (ρ:=(List aj)) (p9:Int) (fun i1 s1=>(ua (ua (zl p9 (i1:Int)) fun k2=>(ua (s1[k2]?) fun e3=>(ua (jI e3) fun r2=>(bif r2 then (ua (ua (zf p2.aA (i1:Int)) fun e4=>(bif (p1 == e4.aT) then (ua (zl p9 (i1:Int)) fun k3=>(ua (s1[k3]?) fun e5=>some (s1.set k3 ({e5 with bN:=true}:aj)))) else (ua (zf p2.aA (i1:Int)) fun e6=>(bif (p1 == e6.resume) then (ua (zl p9 (i1:Int)) fun k4=>(ua (s1[k4]?) fun e7=>some (s1.set k4 ({e7 with bN:=false}:aj)))) else some s1)))) fun (v2:(List aj))=>some ((!true),v2)) else some (false,s1))))) fun (v3:Bool×(List aj))=>(bif v3.1 then some (.inr v3.2) else some (.inl v3.2)))) p8) (ub (fun (s1:(List aj))=>some s1) (fun (y1:(List aj))=>some y1)))) fun (v4:(List aj))=>(ua (dQ p5 p4.length) fun g1=>(ua (dQ p7 p6.length) fun g2=>(ua (dQ p9 v4.length) fun g3=>(ua (QS p2 ({day:=p3,aE:=p4,used:=p6,aI:=v4}:ak) p1) fun r3=>(ua (ua (xG p2 p3 p4 p5 p6 p7 v4 p9) fun r4=>(ua (aH (σ:=(List aj)) (ρ:=(List aj)) (p9:Int) (fun i2 s2=>(ua (ua (zl p9 (i2:Int)) fun k5=>(ua (s2[k5]?) fun e8=>(ua (jI e8) fun r5=>(bif r5 then (ua (ua (zf p2.aA (i2:Int)) fun e9=>(ua (bif (e9.act == p1) then (bif (e9.kind == 4) then some true else (ua (zl p9 (i2:Int)) fun k6=>(ua (s2[k6]?) fun ew=>some (ew.bw == r3)))) else some false) fun v5=>(bif v5 then (ua (bif (e9.kind == (0:Int)) then none else (bif (e9.kind == (1:Int)) then (ua (Yf (i2:Int) p2 p3 p4 p5 p6 p7 s2 p9) fun r9=>some r9) else (bif (e9.kind == (2:Int)) then (ua (Ye (i2:Int) p2 p3 p4 p5 p6 p7 s2 p9) fun r8=>some r8) else (bif (e9.kind == (3:Int)) then (ua (wY (i2:Int) p2 p3 p4 p5 p6 p7 s2 p9) fun r7=>some r7) else (bif (e9.kind == (4:Int)) then (ua (wY (i2:Int) p2 p3 p4 p5 p6 p7 s2 p9) fun r6=>some r6) else none))))) fun v6=>some v6) else some s2))) fun (v7:(List aj))=>some ((!true),v7)) else some (false,s2))))) fun (v8:Bool×(List aj))=>(bif v8.1 then some (.inr v8.2) else some (.inl v8.2)))) v4) (ub (fun (s2:(List aj))=>some s2) (fun (y2:(List aj))=>some y2)))) fun (v9:(List aj))=>(ua (bif (e1.kind == 1) then some (p4,p6,v9) else (ua (Yg p1 p2 p3 p4 p5 p6 p7 v9 p9) fun iC=>some (iC.1,iC.2.1,iC.2.2))) fun (v10:(List Int)×(List Bool)×(List aj))=>(ua (YK p2 p3 v10.1 p5 v10.2.1 p7 v10.2.2 p9) fun ij=>some (v10.1,v10.2.1,ij))))))))))))
theorem zmU (p1:Int) (p2:ay) (p3:Int) (p4:List Int) (p5:Nat) (p6:List Bool) (p7:Nat) (p8:List aj) (p9:Nat):Le (Fk p1 p2 p3 p4 p5 p6 p7 p8 p9) (JE p1 p2 p3 p4 p5 p6 p7 p8 p9):=by
 unfold Fk JE
 repeat' (first | with_reducible exact Le.refl _ | with_reducible exact Fi _ _ _ _ _ _ _ _ | with_reducible refine Le.bind ?_ (fun _ => ?_) | with_reducible refine Le.cond _ ?_ ?_ | with_reducible refine Le.aH (fun _ _ => ?_) _ _ | with_reducible refine Le.iter (fun _ => ?_) _ _ | with_reducible refine Le.elim (fun _ => ?_) (fun _ => ?_) _)
noncomputable def Ja (c:ay) (s:ak) (step:Int):Option (ak×Int):=
 (ua (ua (jP c s) fun r1=>(bif r1 then (bif decide (step < (-1)) then some true else some (decide ((c.aJ.length:Int)≤step))) else some true)) fun v1=>(bif v1 then some (({day:=0,aE:=[],used:=[],aI:=[]}:ak),1) else (bif (s.day == c.bl) then some (({day:=0,aE:=[],used:=[],aI:=[]}:ak),13) else (ua (eD 8 (s.aE.length:Int)) fun k1=>(ua (eD 1 (s.used.length:Int)) fun k2=>(ua (eD 40 (s.aI.length:Int)) fun k3=>(ua (wa (α:=Int) k1 (ue k1 0) s.aE) fun e1=>(ua (wa (α:=Bool) k2 (ue k2 false) s.used) fun e2=>(ua (wa (α:=aj) k3 (ue k3 ({aN:=0,left:=0,got:=0,bw:=0,bN:=false}:aj)) s.aI) fun e3=>(ua (bif (step == (-1)) then (ua (Fj c s.day e1 k1 e2 k2 e3 k3) fun r2=>some (e1,e2,r2,(IntKind.i64.wrap (s.day+1)))) else (ua (Fk step c s.day e1 k1 e2 k2 e3 k3) fun r3=>some (r3.1,r3.2.1,r3.2.2,s.day))) fun (v2:(List Int)×(List Bool)×(List aj)×Int)=>(ua (dQ k1 v2.1.length) fun g1=>(ua (dQ k2 v2.2.1.length) fun g2=>(ua (dQ k3 v2.2.2.1.length) fun g3=>some (({day:=v2.2.2.2,aE:=v2.1,used:=v2.2.1,aI:=v2.2.2.1}:ak),0))))))))))))))
theorem Wo (c:ay) (s:ak) (step:Int):Le (Ja c s step) (dx c s step):=by
 unfold Ja dx
 repeat' (first | with_reducible exact Le.refl _ | with_reducible exact zmT _ _ _ _ _ _ _ _ | with_reducible exact zmU _ _ _ _ _ _ _ _ _ | with_reducible refine Le.bind ?_ (fun _ => ?_) | with_reducible refine Le.cond _ ?_ ?_ | with_reducible refine Le.aH (fun _ _ => ?_) _ _ | with_reducible refine Le.iter (fun _ => ?_) _ _ | with_reducible refine Le.elim (fun _ => ?_) (fun _ => ?_) _)
def Fl (n:Int):List UInt8:=Qs n++[44]
def Fm (m:aj):List UInt8:=Qs m.aN++46::(Qs m.left++46::(Qs m.got++46::Qs m.bw))++(if m.bN then [112] else [])++[44]
def BB (s:ak):List UInt8:=Qs s.day++[59]++s.aE.flatMap Fl++[59]++s.used.flatMap wV++[59]++s.aI.flatMap Fm
def XU (p:ak):Bool:=wP p.day&&(p.aE.all wP&&p.aI.all Fh)
theorem zkS {s:ak} (h:XU s=true):BB s=ja s:=by
 simp only [XU,ud,uh] at h
 unfold BB ja
 rw [yM h.1,ZY (f:=Fl) (g:=wc) (fun a ha=>by unfold Fl wc;rw [yM (h.2.1 a ha)]),ZY (f:=Fm) (g:=vj) (fun a ha=>by
  have:=h.2.2 a ha
  simp only [Fh,ud] at this
  simp only [Fm,vj,qw]
  rw [yM this.1,yM this.2.1,yM this.2.2.1,yM this.2.2.2])]
def Vn (s:ak):Option ByteArray:=bif XU s&&decide ((BB s).length≤1000000000) then some ⟨(BB s).toArray⟩ else none
theorem zhP (s:ak):Le (Vn s) (vk s):=fun r h=>by
 unfold Vn at h
 cases hq:(XU s&&decide ((BB s).length≤1000000000)) with
 | false=>rw [hq] at h;cases h
 | true=>
  rw [hq] at h
  simp only [ud,decide_eq_true_eq] at hq
  have e:=zkS hq.1
  unfold vk
  rw [if_pos,←e]
  ·exact h
  ·have h1:=hq.1
   simp only [XU,ud,uh] at h1
   simp only [tP,ud,decide_eq_true_eq,uh]
   refine ⟨⟨⟨yN h1.1,fun x hx=>yN (h1.2.1 x hx)⟩,fun m hm => ?_⟩,by rw [←e];exact hq.2⟩
   have:=h1.2.2 m hm
   simp only [Fh,ud] at this
   exact ⟨⟨⟨yN this.1,yN this.2.1⟩,yN this.2.2.1⟩,yN this.2.2.2⟩
noncomputable def Fo (p1:ay) (p2:List Int) (p3:List Int) (p4:ay):Option ((List Int)×Int):=
 (ua (α:=(List Int) ⊕ Int) (ua (Ya p1 p2) fun r1=>(ua (Q9 p1) fun r2=>(bif (r2.2 == 0) then (ua (aH (σ:=(List Int)×Int×(List Int)×(List Bool)×(List aj)) (ρ:=(Int×(List Int)) ⊕ (List Int)) (p2.length:Int) (fun i1 s1=>(ua (zf p2 (i1:Int)) fun e1=>(ua (Ja p1 ({day:=s1.2.1,aE:=s1.2.2.1,used:=s1.2.2.2.1,aI:=s1.2.2.2.2}:ak) e1) fun r3=>(ua (α:=(List Int) ⊕ Unit) (bif (r3.2 == 0) then (ua (bif (e1 == (-1)) then some true else (ua (QU s1.2.1 s1.2.2.1 s1.2.2.2.1 s1.2.2.2.2 e1 p3 p4) fun r4=>some r4)) fun v1=>(bif v1 then (ua (qk (α:=Int) 8 s1.1 [e1]) fun e2=>some (.inl e2)) else some (.inl s1.1))) else some (.inr ())) (ub (fun (v2:(List Int))=>(bif (r3.2 == 0) then some (.inl (v2,r3.1.day,r3.1.aE,r3.1.used,r3.1.aI)) else some (.inr (.inr v2)))) (fun (y1:Unit)=>some (.inr (.inl (r3.2,s1.1))))))))) ([],r2.1.day,r2.1.aE,r2.1.used,r2.1.aI)) (ub (fun (s1:(List Int)×Int×(List Int)×(List Bool)×(List aj))=>some (.inl s1.1)) (ub (fun (y2:Int×(List Int))=>some (.inr y2.1)) (fun (y3:(List Int))=>some (.inl y3))))) else some (.inr r2.2)))) (ub (fun (v3:(List Int))=>some (v3,0)) (fun (y4:Int)=>some ([],y4))))
theorem zkT (p1:ay) (p2:List Int) (p3:List Int) (p4:ay):Le (Fo p1 p2 p3 p4) (QV p1 p2 p3 p4):=by
 unfold Fo QV
 repeat' (first | with_reducible exact Le.refl _ | with_reducible exact Vm _ | with_reducible exact Wo _ _ _ | with_reducible refine Le.bind ?_ (fun _ => ?_) | with_reducible refine Le.cond _ ?_ ?_ | with_reducible refine Le.aH (fun _ _ => ?_) _ _ | with_reducible refine Le.iter (fun _ => ?_) _ _ | with_reducible refine Le.elim (fun _ => ?_) (fun _ => ?_) _)
noncomputable def Fp (p1:ay) (p2:List Int) (p3:List Int):Option ((List Int)×Int):=
 (ua (Q9 p1) fun r1=>(bif (r1.2 == 0) then (ua (bif ((p3.length:Int) == 0) then some true else (bif decide (12 < (p3.length:Int)) then some true else (ua (Wd p3 p1) fun r2=>some r2))) fun v1=>(bif v1 then some ([],1) else (bif decide (4000 < (p2.length:Int)) then some ([],3) else (ua (Fo p1 p2 p3 p1) fun r3=>some (r3.1,r3.2))))) else some ([],1)))
theorem zkU (p1:ay) (p2:List Int) (p3:List Int):Le (Fp p1 p2 p3) (QW p1 p2 p3):=by
 unfold Fp QW
 repeat' (first | with_reducible exact Le.refl _ | with_reducible exact Vm _ | with_reducible exact zkT _ _ _ _ | with_reducible refine Le.bind ?_ (fun _ => ?_) | with_reducible refine Le.cond _ ?_ ?_ | with_reducible refine Le.aH (fun _ _ => ?_) _ _ | with_reducible refine Le.iter (fun _ => ?_) _ _ | with_reducible refine Le.elim (fun _ => ?_) (fun _ => ?_) _)
noncomputable def YM (c:ay) (l:List Int) (zw:Int):Option ((List Int)×Int):=
 (ua (Fp c l [zw]) fun r1=>some (r1.1,r1.2))
theorem zkV (c:ay) (l:List Int) (zw:Int):Le (YM c l zw) (kH c l zw):=by
 unfold YM kH
 repeat' (first | with_reducible exact Le.refl _ | with_reducible exact zkU _ _ _ | with_reducible refine Le.bind ?_ (fun _ => ?_) | with_reducible refine Le.cond _ ?_ ?_ | with_reducible refine Le.aH (fun _ _ => ?_) _ _ | with_reducible refine Le.iter (fun _ => ?_) _ _ | with_reducible refine Le.elim (fun _ => ?_) (fun _ => ?_) _)
noncomputable def Jb (p1:ak) (p2:List (ByteArray×ak)) (p3:List (ByteArray×ak)):Option ((List (ByteArray×ak))×(List (ByteArray×ak))):=
 (ua (Vn p1) fun r1=>(bif ((zm r1 p2).isSome) then some (p2,p3) else some ((zN r1 p1 p2),(zN r1 p1 p3))))
theorem Mk (p1:ak) (p2:List (ByteArray×ak)) (p3:List (ByteArray×ak)):Le (Jb p1 p2 p3) (jQ p1 p2 p3):=by
 unfold Jb jQ
 repeat' (first | with_reducible exact Le.refl _ | with_reducible exact zhP _ | with_reducible refine Le.bind ?_ (fun _ => ?_) | with_reducible refine Le.cond _ ?_ ?_ | with_reducible refine Le.aH (fun _ _ => ?_) _ _ | with_reducible refine Le.iter (fun _ => ?_) _ _ | with_reducible refine Le.elim (fun _ => ?_) (fun _ => ?_) _)
noncomputable def JN (c:ay) (zw:Int) (l:List ak):Option ((List ak)×Int):=
 (ua (aH (σ:=(List (ByteArray×ak))×(List (ByteArray×ak))) (ρ:=Unit) (l.length:Int) (fun i1 s1=>(ua (zf l (i1:Int)) fun e1=>(ua (Jb e1 s1.1 s1.2) fun r1=>some (.inl (r1.1,r1.2))))) ([],[])) (ub (fun (s1:(List (ByteArray×ak))×(List (ByteArray×ak)))=>(ua (ua (cN (σ:=Int×(List (ByteArray×ak))×(List (ByteArray×ak))) (ρ:=Int×(List (ByteArray×ak))) (fun s2=>(bif decide (0 < (s2.2.2.length:Int)) then (ua (xu s2.2.2) fun r2=>(ua (qr s2.2.2) fun r3=>(ua (aH (σ:=Int×(List (ByteArray×ak))×(List (ByteArray×ak))) (ρ:=(List (ByteArray×ak))) (r3.length:Int) (fun i3 s3=>(ua (α:=((List (ByteArray×ak))×(List (ByteArray×ak))) ⊕ Unit) (ua (zf r3 (i3:Int)) fun e2=>(bif decide (300 < (s3.2.1.length:Int)) then some (.inr ()) else (bif decide (c.bl≤((zm e2 s3.2.2).getD ({day:=0,aE:=[],used:=[],aI:=[]}:ak)).day) then some (.inl (s3.2.1,(xq e2 s3.2.2))) else (ua (wk c ((zm e2 s3.2.2).getD ({day:=0,aE:=[],used:=[],aI:=[]}:ak)) zw) fun r4=>(ua (aH (σ:=(List (ByteArray×ak))×(List (ByteArray×ak))) (ρ:=Unit) (r4.length:Int) (fun i4 s4=>(ua (ua (zf r4 (i4:Int)) fun e3=>(ua (Ja c ((zm e2 s3.2.2).getD ({day:=0,aE:=[],used:=[],aI:=[]}:ak)) e3) fun r5=>(bif (r5.2 == 0) then (ua (Jb r5.1 s4.1 s4.2) fun r6=>some (r6.1,r6.2)) else some (s4.1,s4.2)))) fun (v1:(List (ByteArray×ak))×(List (ByteArray×ak)))=>some (.inl (v1.1,v1.2)))) (s3.2.1,(xq e2 s3.2.2))) (ub (fun (s4:(List (ByteArray×ak))×(List (ByteArray×ak)))=>some (.inl (s4.1,s4.2))) (fun _=>none))))))) (ub (fun (v2:(List (ByteArray×ak))×(List (ByteArray×ak)))=>some (.inl (s3.1,v2.1,v2.2))) (fun (y1:Unit)=>some (.inr s3.2.1))))) (s2.1,s2.2.1,s2.2.2)) (ub (fun (s3:Int×(List (ByteArray×ak))×(List (ByteArray×ak)))=>some (.inl (s3.1,s3.2.1,s3.2.2))) (fun (y2:(List (ByteArray×ak)))=>some (.inr (3,y2))))))) else some (.inr (s2.1,s2.2.1)))) 8 (0,s1.1,s1.2)) (fun (y3:Int×(List (ByteArray×ak)))=>some (y3.1,y3.2))) fun (v3:Int×(List (ByteArray×ak)))=>(ua (bif (v3.1 == 0) then some (decide (300 < (v3.2.length:Int))) else some true) fun v4=>(bif v4 then some ([],3) else (ua (xu v3.2) fun r7=>(ua (qr v3.2) fun r8=>(ua (aH (σ:=(List ak)) (ρ:=Unit) (r8.length:Int) (fun i5 s5=>(ua (zf r8 (i5:Int)) fun e4=>(ua (qk (α:=ak) 80 s5 ([((zm e4 v3.2).getD ({day:=0,aE:=[],used:=[],aI:=[]}:ak))])) fun e5=>some (.inl e5)))) []) (ub (fun (s5:(List ak))=>some (s5,0)) (fun _=>none))))))))) (fun _=>none)))
theorem zdJ (c:ay) (zw:Int) (l:List ak):Le (JN c zw l) (jY c zw l):=by
 unfold JN jY
 repeat' (first | with_reducible exact Le.refl _ | with_reducible exact Wo _ _ _ | with_reducible exact Mk _ _ _ | with_reducible refine Le.bind ?_ (fun _ => ?_) | with_reducible refine Le.cond _ ?_ ?_ | with_reducible refine Le.aH (fun _ _ => ?_) _ _ | with_reducible refine Le.iter (fun _ => ?_) _ _ | with_reducible refine Le.elim (fun _ => ?_) (fun _ => ?_) _)
noncomputable def Fq (p1:ay) (p2:Int) (p3:List ak):Option ((List ak)×Int):=
 (ua (aH (σ:=(List (ByteArray×ak))×(List (ByteArray×ak))) (ρ:=Unit) (p3.length:Int) (fun i1 s1=>(ua (zl p3.length (i1:Int)) fun k1=>(ua (p3[k1]?) fun e1=>(ua (Jb e1 s1.1 s1.2) fun r1=>some (.inl (r1.1,r1.2)))))) ([],[])) (ub (fun (s1:(List (ByteArray×ak))×(List (ByteArray×ak)))=>(ua (ua (cN (σ:=Int×(List (ByteArray×ak))×(List (ByteArray×ak))) (ρ:=Int×(List (ByteArray×ak))) (fun s2=>(bif decide (0 < (s2.2.2.length:Int)) then (ua (xu s2.2.2) fun r2=>(ua (qr s2.2.2) fun r3=>(ua (aH (σ:=Int×(List (ByteArray×ak))×(List (ByteArray×ak))) (ρ:=(List (ByteArray×ak))) (r3.length:Int) (fun i3 s3=>(ua (α:=((List (ByteArray×ak))×(List (ByteArray×ak))) ⊕ Unit) (ua (zf r3 (i3:Int)) fun e2=>(bif decide (300 < (s3.2.1.length:Int)) then some (.inr ()) else (bif decide (p1.bl≤((zm e2 s3.2.2).getD ({day:=0,aE:=[],used:=[],aI:=[]}:ak)).day) then some (.inl (s3.2.1,(xq e2 s3.2.2))) else (ua (wk p1 ((zm e2 s3.2.2).getD ({day:=0,aE:=[],used:=[],aI:=[]}:ak)) p2) fun r4=>(ua (aH (σ:=(List (ByteArray×ak))×(List (ByteArray×ak))) (ρ:=Unit) (r4.length:Int) (fun i4 s4=>(ua (ua (zf r4 (i4:Int)) fun e3=>(ua (Ja p1 ((zm e2 s3.2.2).getD ({day:=0,aE:=[],used:=[],aI:=[]}:ak)) e3) fun r5=>(bif (r5.2 == 0) then (ua (Jb r5.1 s4.1 s4.2) fun r6=>some (r6.1,r6.2)) else some (s4.1,s4.2)))) fun (v1:(List (ByteArray×ak))×(List (ByteArray×ak)))=>some (.inl (v1.1,v1.2)))) (s3.2.1,(xq e2 s3.2.2))) (ub (fun (s4:(List (ByteArray×ak))×(List (ByteArray×ak)))=>some (.inl (s4.1,s4.2))) (fun _=>none))))))) (ub (fun (v2:(List (ByteArray×ak))×(List (ByteArray×ak)))=>some (.inl (s3.1,v2.1,v2.2))) (fun (y1:Unit)=>some (.inr s3.2.1))))) (s2.1,s2.2.1,s2.2.2)) (ub (fun (s3:Int×(List (ByteArray×ak))×(List (ByteArray×ak)))=>some (.inl (s3.1,s3.2.1,s3.2.2))) (fun (y2:(List (ByteArray×ak)))=>some (.inr (3,y2))))))) else some (.inr (s2.1,s2.2.1)))) 8 (0,s1.1,s1.2)) (fun (y3:Int×(List (ByteArray×ak)))=>some (y3.1,y3.2))) fun (v3:Int×(List (ByteArray×ak)))=>(ua (bif (v3.1 == 0) then some (decide (300 < (v3.2.length:Int))) else some true) fun v4=>(bif v4 then some ([],3) else (ua (xu v3.2) fun r7=>(ua (qr v3.2) fun r8=>(ua (aH (σ:=(List ak)) (ρ:=Unit) (r8.length:Int) (fun i5 s5=>(ua (zf r8 (i5:Int)) fun e4=>(ua (qk (α:=ak) 80 s5 ([((zm e4 v3.2).getD ({day:=0,aE:=[],used:=[],aI:=[]}:ak))])) fun e5=>some (.inl e5)))) []) (ub (fun (s5:(List ak))=>some (s5,0)) (fun _=>none))))))))) (fun _=>none)))
theorem zkW (p1:ay) (p2:Int) (p3:List ak):Le (Fq p1 p2 p3) (ZI p1 p2 p3):=by
 unfold Fq ZI
 repeat' (first | with_reducible exact Le.refl _ | with_reducible exact Wo _ _ _ | with_reducible exact Mk _ _ _ | with_reducible refine Le.bind ?_ (fun _ => ?_) | with_reducible refine Le.cond _ ?_ ?_ | with_reducible refine Le.aH (fun _ _ => ?_) _ _ | with_reducible refine Le.iter (fun _ => ?_) _ _ | with_reducible refine Le.elim (fun _ => ?_) (fun _ => ?_) _)
noncomputable def Vo (c:ay) (zw:Int):Option (aF×Int):=
 (ua (Q9 c) fun r1=>(ua (bif (r1.2 == 0) then (bif decide (zw < 0) then some true else some (decide (c.aR≤zw))) else some true) fun v1=>(bif v1 then some (({zw:=0,states:=[]}:aF),1) else (ua (Fq c zw [r1.1]) fun r2=>(bif (r2.2 == 0) then some (({zw:=zw,states:=r2.1}:aF),0) else some (({zw:=0,states:=[]}:aF),r2.2))))))
theorem zhQ (c:ay) (zw:Int):Le (Vo c zw) (yE c zw):=by
 unfold Vo yE
 repeat' (first | with_reducible exact Le.refl _ | with_reducible exact Vm _ | with_reducible exact zkW _ _ _ | with_reducible refine Le.bind ?_ (fun _ => ?_) | with_reducible refine Le.cond _ ?_ ?_ | with_reducible refine Le.aH (fun _ _ => ?_) _ _ | with_reducible refine Le.iter (fun _ => ?_) _ _ | with_reducible refine Le.elim (fun _ => ?_) (fun _ => ?_) _)
noncomputable def Vp (c:ay) (b:aF) (step:Int):Option (aF×Int):=
 (ua (bif (step == (-1)) then some false else (bif decide (step < 0) then some true else some (decide ((c.aJ.length:Int)≤step)))) fun v1=>(bif v1 then some (({zw:=0,states:=[]}:aF),1) else (ua (aH (σ:=(List ak)) (ρ:=Unit) (b.states.length:Int) (fun i1 s1=>(ua (ua (zf b.states (i1:Int)) fun e1=>(ua (bif decide (c.bl≤e1.day) then some true else (bif (step == (-1)) then some false else (ua (yD c e1 b.zw step) fun r1=>some (!r1)))) fun v2=>(bif v2 then some s1 else (ua (Ja c e1 step) fun r2=>(bif (r2.2 == 0) then (ua (qk (α:=ak) 80 s1 [r2.1]) fun e2=>some e2) else some s1))))) fun (v3:(List ak))=>some (.inl v3))) []) (ub (fun (s1:(List ak))=>(bif ((s1.length:Int) == 0) then some (({zw:=0,states:=[]}:aF),13) else (ua (JN c b.zw s1) fun r3=>(bif (r3.2 == 0) then some (({zw:=b.zw,states:=r3.1}:aF),0) else some (({zw:=0,states:=[]}:aF),r3.2))))) (fun _=>none)))))
theorem zhR (c:ay) (b:aF) (step:Int):Le (Vp c b step) (yF c b step):=by
 unfold Vp yF
 repeat' (first | with_reducible exact Le.refl _ | with_reducible exact Wo _ _ _ | with_reducible exact zdJ _ _ _ | with_reducible refine Le.bind ?_ (fun _ => ?_) | with_reducible refine Le.cond _ ?_ ?_ | with_reducible refine Le.aH (fun _ _ => ?_) _ _ | with_reducible refine Le.iter (fun _ => ?_) _ _ | with_reducible refine Le.elim (fun _ => ?_) (fun _ => ?_) _)
noncomputable def Wp (c:ay) (zw:Int) (view:List Int):Option (aF×Int):=
 (ua (Vo c zw) fun r1=>(bif (r1.2 == 0) then (bif decide (4000 < (view.length:Int)) then some (({zw:=0,states:=[]}:aF),3) else (ua (aH (σ:=Int×(List ak)) (ρ:=Int) (view.length:Int) (fun i1 s1=>(ua (zf view (i1:Int)) fun e1=>(ua (Vp c ({zw:=s1.1,states:=s1.2}:aF) e1) fun r2=>(bif (r2.2 == 0) then some (.inl (r2.1.zw,r2.1.states)) else some (.inr r2.2))))) (r1.1.zw,r1.1.states)) (ub (fun (s1:Int×(List ak))=>some (({zw:=s1.1,states:=s1.2}:aF),0)) (fun (y1:Int)=>some (({zw:=0,states:=[]}:aF),y1))))) else some (({zw:=0,states:=[]}:aF),r1.2)))
theorem zjq (c:ay) (zw:Int) (view:List Int):Le (Wp c zw view) (vF c zw view):=by
 unfold Wp vF
 repeat' (first | with_reducible exact Le.refl _ | with_reducible exact zhQ _ _ | with_reducible exact zhR _ _ _ | with_reducible refine Le.bind ?_ (fun _ => ?_) | with_reducible refine Le.cond _ ?_ ?_ | with_reducible refine Le.aH (fun _ _ => ?_) _ _ | with_reducible refine Le.iter (fun _ => ?_) _ _ | with_reducible refine Le.elim (fun _ => ?_) (fun _ => ?_) _)
noncomputable def JT:Option (Bool):=
 (ua (ZG) fun r1=>(ua (YM r1 [0,(-1),(-1)] 1) fun r2=>(ua (YM r1 [0,(-1),(-1)] 2) fun r3=>(ua (Wp r1 1 r2.1) fun r4=>(ua (Wp r1 2 r3.1) fun r5=>(ua (bif (r2.2 == 0) then (bif (r3.2 == 0) then (bif (r4.2 == 0) then (bif (r5.2 == 0) then (bif ((r3.1.length:Int) == 2) then (bif ((r4.1.states.length:Int) == 1) then (bif ((r5.1.states.length:Int) == 2) then (ua (ya r1 r4.1 0) fun r6=>(bif (r6 == 1) then (ua (ya r1 r5.1 0) fun r7=>(bif (r7 == 1) then (ua (zf r5.1.states 0) fun e1=>(ua (zf e1.aI 0) fun e2=>(ua (zf r5.1.states 1) fun e3=>(ua (zf e3.aI 0) fun e4=>some (!(e2.aN == e4.aN)))))) else some false)) else some false)) else some false) else some false) else some false) else some false) else some false) else some false) else some false) fun v1=>some v1))))))
theorem Ku:Le JT xO:=by
 unfold JT xO
 repeat' (first | with_reducible exact Le.refl _ | with_reducible exact zkV _ _ _ | with_reducible exact zjq _ _ _ | with_reducible refine Le.bind ?_ (fun _ => ?_) | with_reducible refine Le.cond _ ?_ ?_ | with_reducible refine Le.elim (fun _ => ?_) (fun _ => ?_) _)
theorem zaS:xO=some true:=Ku true (by kernel_rfl)
end Go.Proofs.YtgpojcfkanjabaaGreatDoor
namespace Go.Proofs.YtgpojcfkanjabaaGreatDoor
open Go.RowKit
set_option linter.unusedSimpArgs false
set_option linter.unusedVariables false
set_option maxRecDepth 100000
theorem zhS {c:ay} (hc:c.Ok) (zw:Int) (p:aK):aq (QX c zw p) (fun r=>r.2=0→r.1=true→xJ c zw p.state=true→zK c zw p=true):=by
 cases dK:xJ c zw p.state with
 | false=>exact ⟨_,Mj (zjn hc dK),fun _ _ h=>by cases h⟩
 | true=>
  obtain ⟨h0,h1,hv⟩:=xy.1 dK
  obtain ⟨ρ,R,hC⟩:=zkQ hc hv.cv
  obtain ⟨⟨l,e⟩,hl,hlr⟩:=zjm hc dK R hC
  refine ⟨_,Mj hl,fun g1 g2 _ => ?_⟩
  rcases hlr with ⟨k1,_⟩ | ⟨k1,k2,_⟩
  ·simp only at k1 g1
   rw [k1] at g1
   cases g1
  ·refine (zfF hc dK R).2 ?_
   simp only at k2 g2
   rw [←k2]
   simp only [ud,beq_iff_eq] at g2
   exact List.eq_nil_of_length_eq_zero (by omega)
theorem Vq (c:ay) (zw cj:Int) (cX:List Int) (hc:ay.Ok c) (mY:dW .u8 zw) (tj:dW .u8 cj) (hot:lF 8 (fun x:Int=>dW .i64 x) cX):vn c zw cj cX=some true:=by
 have hk:IntKind.u8.min=0∧IntKind.u8.max=255:=⟨rfl,rfl⟩
 unfold dW at mY tj
 rw [hk.1,hk.2] at mY tj
 refine aq.eq ?_
 unfold vn
 refine aq.az zaS ?_
 refine aq.bind (P:=fun b:Bool=>b=true∨(b=false∧1≤c.aR)) ?_ ?_
 ·refine aq.az (zmI hc) ?_
  refine aq.ite (fun _ => ?_) (fun _=>aq.some (.inl rfl))
  refine aq.ite (fun _=>aq.some (.inl rfl)) (fun _=>aq.some ?_)
  by_cases h:c.aR < 1
  ·exact .inl (decide_eq_true h)
  ·exact .inr ⟨decide_eq_false h,by omega⟩
 rintro _ (rfl | ⟨rfl,hpa⟩)
 ·exact aq.ite (fun _=>aq.some rfl) (fun h=>by cases h)
 refine aq.ite (fun h=>by cases h) (fun _ => ?_)
 have rem:∀ x:Int,0≤x∧x≤255→vi .i64 (IntKind.i64.wrap x) c.aR=some (x.tmod c.aR)∧0≤x.tmod c.aR∧x.tmod c.aR < c.aR:=fun x hx=>by
  rw [qz (by omega) (by omega)]
  refine ⟨by unfold vi;rw [if_neg (by omega)],Int.tmod_nonneg _ hx.1,Int.tmod_lt_of_pos _ (by omega)⟩
 obtain ⟨eo,o0,o1⟩:=rem cj tj
 obtain ⟨ep,p0,p1⟩:=rem zw mY
 refine aq.az eo ?_
 refine aq.az ep ?_
 generalize cj.tmod c.aR=o at o0 o1
 generalize zw.tmod c.aR=p at p0 p1
 obtain ⟨⟨s0,e0⟩,hst⟩:=zhO hc
 refine aq.az hst ?_
 refine aq.bind (zhS hc p _) ?_
 rintro ⟨safe,e1⟩ BC
 refine aq.bind (zfx hc p cX (hot.lt (by omega))) ?_
 rintro ⟨l,e2⟩ Fs
 refine aq.bind (P:=fun b:Bool=>b=true∨(b=false∧e0=0∧e1=0∧e2=0∧safe=true)) ?_ ?_
 ·dsimp only
  by_cases h0:e0=0
  ·by_cases h1:e1=0
   ·by_cases h2:e2=0
    ·rw [h0,h1,h2]
     cases safe with
     | true=>exact aq.some (.inr ⟨rfl,rfl,rfl,rfl,rfl⟩)
     | false=>exact aq.some (.inl rfl)
    ·rw [beq_eq_false_iff_ne.2 h2,h0,h1];exact aq.some (.inl rfl)
   ·rw [beq_eq_false_iff_ne.2 h1,h0];exact aq.some (.inl rfl)
  ·rw [beq_eq_false_iff_ne.2 h0];exact aq.some (.inl rfl)
 rintro _ (rfl | ⟨rfl,rfl,rfl,rfl,rfl⟩)
 ·exact aq.ite (fun _=>aq.some rfl) (fun h=>by cases h)
 refine aq.ite (fun h=>by cases h) (fun _ => ?_)
 rcases Fs with ⟨h1,_⟩ | ⟨_,s1,a,BD,_,A,gl,ht,rM,hl,hos⟩
 ·exact absurd rfl h1
 simp only at ht rM hl
 rw [hst] at BD
 cases BD
 have hs0:zK c p (eZ s0)=true:=BC rfl rfl (xy.2 ⟨p0,p1,gl⟩)
 have hts:=zhN hc gl rM hos (.nil hs0)
 have hend:qa c (cB c s0 l) p=false:=by
  have:=hts.all l.length (ur _)
  rw [uk] at this
  exact vK (jJ.1 this)
 refine aq.az (zjc hc hst gl ht hl ⟨o0,o1⟩) ?_
 refine aq.bind (zhB hc hst gl ht hl ⟨o0,o1⟩) ?_
 rintro ⟨⟨b1,b2⟩,e3⟩ (h | ⟨h,h2,h3,h4⟩)<;>simp only at h<;>subst h
 ·refine aq.ite (fun h=>by cases h) (fun _ => ?_)
  exact aq.az (v:=true) rfl (aq.some rfl)
 ·simp only at h2 h3 h4
  subst h2
  refine aq.ite (fun _ => ?_) (fun h=>by cases h)
  refine aq.az (v:=true) ?_ (aq.some rfl)
  obtain ⟨r,hr,hne⟩:=zfy hc h3 ⟨o0,o1⟩ ⟨p0,p1⟩ h4 hend
  show (ua (ZO c {zw:=b1,states:=b2} p) fun r8=>some (!(r8 == 3)))=some true
  rw [hr,aX,beq_eq_false_iff_ne.2 hne]
  rfl
end Go.Proofs.YtgpojcfkanjabaaGreatDoor
namespace Go.Proofs.YtgpojcfkanjabaaGreatDoor
open Go.ChangeShapes Go.WideShapes Go.RowKit
set_option maxRecDepth 100000
abbrev Wq : List (String × DataW Unit) := [("math/bits.deBruijn32tab", Rows.laid_math_bits_deBruijn32tab), ("math/bits.deBruijn64tab", Rows.laid_math_bits_deBruijn64tab), ("internal/strconv.uint64pow10", Rows.laid_internal_strconv_uint64pow10)]
theorem zjr:(Wq.filter fun x=>x.1 == wz)=[(wz,Lib.tabData .u64 Lib.pow10Tab)]:=by kernel_rfl
theorem zdf {W:World} (h:laidMet Tryz.prog Wq W):C0.tabs.p W∧C0.tabs.n≤W.heap.size:=by
 have h1:=h.filter (fun x=>x.1 == wz)
 rw [zjr] at h1
 have h2:C0.tabs.p W:=Lib.tabIs_of_head (g:=0) (t:=((Tryz.prog.globals[0]?).map (·.type)).getD 0) (e:=179) (n:=20)
  (by kernel_rfl) (by kernel_rfl) (by kernel_rfl) (by kernel_rfl) (by kernel_rfl) (by kernel_rfl) h1
 exact ⟨h2,PV h2⟩
def zmV:DataW Unit→Array Value
 | .agg ds=>(ds.map fun d=>match d with | .lit (.int k n)=>Value.int k n | _=>Value.bool false).toArray
 | _ => #[]
def Ft (w:World) (g:Nat) (d:DataW Unit):World:={w with heap:=w.heap.modify g fun | .cells _ t f=>.cells (zmV d) t f | o=>o}
noncomputable def Ml (os:Os):World:=
 Ft (Ft (Ft (World.holding Tryz.prog os ⟨#[],#[],[]⟩) 1 Rows.laid_math_bits_deBruijn32tab) 2 Rows.laid_math_bits_deBruijn64tab) 0 Rows.laid_internal_strconv_uint64pow10
theorem zaT (os:Os) (args:Array Value):laidMet Tryz.prog Wq ((Ml os).forCall (fun _ _=>0) ⟨#[],args,[]⟩).memory:=
 laidMet_of_run3 8 (by kernel_rfl) (by kernel_rfl) (by kernel_rfl)
end Go.Proofs.YtgpojcfkanjabaaGreatDoor
namespace Go.Proofs.YtgpojcfkanjabaaGreatDoor.LTopAdvisedSeen
open Go.ChangeShapes Go.WideShapes Go.ChangeAt Go.RowKit
set_option linter.unusedVariables false
set_option maxRecDepth 100000
theorem all (dy:List IV) (h:X9 [(true,ay.cJ),(false,[.int .u8]),(false,[.int .u8]),(false,[.slice 8 [.int .i64]])] dy):aL C0 327 dy (.bool true):=by
 match dy,h with
 | [x0,x1,x2,x3],⟨a0,a1,a2,a3,_⟩=>
  obtain ⟨Ag,rfl,r0⟩:=a0
  obtain ⟨c,rfl,Fu⟩:=ay.gK r0
  obtain ⟨c1,_,e1,k1,n1⟩:=zi a1
  cases e1
  obtain ⟨zw,rfl,oY⟩:=zu k1
  obtain ⟨c2,_,e2,k2,n2⟩:=zi a2
  cases e2
  obtain ⟨cj,rfl,mg⟩:=zu k2
  obtain ⟨c3,_,e3,k3,n3⟩:=zi a3
  cases e3
  obtain ⟨cX,rfl,nQ⟩:=z7 yw k3
  exact Vb c zw cj cX true (Vq c zw cj cX Fu oY mg nQ)
theorem own:ownKnob Tryz.prog.godebug=none:=by kernel_rfl
theorem laid:laidOutB Tryz.prog=true:=by kernel_rfl
theorem args:aM (AX Tryz.prog) Tryz.f3.params.toList=some [(true,ay.cJ),(false,[.int .u8]),(false,[.int .u8]),(false,[.slice 8 [.int .i64]])]:=by kernel_rfl
theorem zmW (os:Os) (started:os.Started) (H:Type) (enc:TypeId×Value→H) :
  ReturnsInHanded {} Tryz.checked os 3 .any (fun w args=>(Rows.topAdvisedSeenSpec.pre enc Tryz.prog Tryz.f3 [] false w args∧laidMet Tryz.prog Wq w)∧sizedMet enc Tryz.prog Tryz.f3 (OpenSpec.ofChange Rows.topAdvisedSeenSpec) false w args) (Rows.topAdvisedSeenSpec.post enc Tryz.prog Tryz.f3 false true false false):=by
 refine returnsInHanded_of_change_and (C:=Tryz.checked) (X:=fun w _=>laidMet Tryz.prog Wq w) (fun _ _ _ hh h=>h.of_heap hh) own started (by kernel_rfl) Tryz.func3
  (ChangeSpec.witness_at (enc:=enc) (C:=Tryz.checked) (os:=os) (X:=fun w _=>laidMet Tryz.prog Wq w) false (Ml os) #[.agg #[.int .i64 0,.slice none 0 0,.slice none 0 0,.slice none 0 0,.slice none 0 0,.int .i64 0,.slice none 0 0],.int .u8 0,.int .u8 0,.slice none 0 0] 8 rfl (by kernel_rfl) (by kernel_rfl) (by kernel_rfl) (by kernel_rfl) (by kernel_rfl) (zaT os _)) ?_
 intro W base args ds gs before hval hW _ Cf hL _
 exact Re (Cx:=C0) (tb:=4) 327 rfl LTopAdvisedSeen.args rfl (by kernel_rfl) rfl
  (fun ds h=>by match ds,h with | [_,_,_,_],_=>rfl) LTopAdvisedSeen.laid (by kernel_rfl) LTopAdvisedSeen.all W (zdf hL) base args ds gs before hval hW Cf
theorem zpH:Rows.TopAdvisedSeenSaid:=
 OpenClaim.holds_of_wide 3 Tryz.f3 rfl rfl rfl rfl rfl rfl rfl ⟨rfl,rfl,rfl,rfl,rfl⟩ rfl rfl rfl rfl rfl (by kernel_rfl) Tryz.func3 (by kernel_rfl)
  (of_decide_eq_true (by kernel_rfl)) (by unfold Func.isWrapper;first | (rw [if_pos (by decide +kernel)];kernel_rfl) | (rw [if_neg (by decide +kernel)];exact ⟨rfl,rfl⟩))
  (fun os started H enc _=>zmW os started H enc)
theorem holds:Rows.TopAdvisedSeenCardSaid:=
 Claim7.holds_tied_plain_at .later [] [.data, .data, .data] true (true, "2c1ec6f21508cbd86f0f5eb6a274bc90cbc6a4bca5a63915098fcad2f35d0032") false
  zpH (fun _ h=>by cases h) (by kernel_rfl) (fun _ h=>by cases h) topAdvisedSeen_row_tie rfl ⟨rfl,rfl⟩ (by kernel_rfl) rfl
  (fun f fn hf hfn=>by
   obtain rfl : f = 3 := Option.some.inj ((show Tryz.prog.funcNamed "estoppel/estoppeltop.TopAdvisedSeen" = some 3 by kernel_rfl).symm.trans hf) |>.symm
   obtain rfl:fn=Tryz.f3:=(Option.some.inj (Tryz.func3.symm.trans hfn)).symm
   refine ⟨by kernel_rfl,fun j t ht => ?_⟩
   have hall:(Tryz.f3.params.toList.all fun t=>!(Tryz.prog.wantsStandIn t))=true:=by kernel_rfl
   have:=uh.1 hall t (by rw [Array.mem_toList_iff];exact Array.mem_of_getElem? ht)
   have h2:Tryz.prog.wantsStandIn t=false:=by simpa using this
   exact h2)
  (by kernel_rfl)
end Go.Proofs.YtgpojcfkanjabaaGreatDoor.LTopAdvisedSeen
namespace Go.Proofs.YtgpojcfkanjabaaGreatDoor
theorem topAdvisedSeen_holds:Rows.TopAdvisedSeenCardSaid:=LTopAdvisedSeen.holds
end Go.Proofs.YtgpojcfkanjabaaGreatDoor
