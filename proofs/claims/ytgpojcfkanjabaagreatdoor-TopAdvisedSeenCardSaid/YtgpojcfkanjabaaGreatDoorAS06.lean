/-
  An object whose cells are slices that grow: the tips have names of a range of their own, behind a mark in the list of objects.
  Plans: what a function computes, told so that the kernel can hold it against the function's code. A plan that the kernel has checked is a walk.
  Plans: code against a plan, and that a plan that is checked is a walk.
  Plans: what is live, whole functions, and the parts that printed plans are made of.
  Plans: the parts that printed plans are made of.
  Plans for an object whose cells are slices that grow.
  Data of the program's types.
  The table of the library that the program reads: what is known of it while the program runs.
  The program's functions, by the numbers that plans have for them.
  From the readings of a row's arguments to the abstract machine's data: whatever plain data is handed in (numbers, truth values, texts, slices and structures of these) is data of the abstract machine, of its type; and a law that is proved of all such data is the row's contract.
  A law that holds of all plain data of its types is the row's contract: whatever the arguments, the call returns true, and each argument reads as it read before.
  From data of the abstract machine to typed data.
-/
import Derived.Test.YtgpojcfkanjabaaGreatDoorAS05
import Derived.Test.YtgpojcfkanjabaaGreatDoorChecked
import Derived.Lib.ItoaMem
import Derived.Lib.LaidTab
import Derived.KernelRfl
import Derived.Test.YtgpojcfkanjabaaGreatDoorAS03
import Derived.ProofKit
import Derived.SizedLaws
import Derived.Carry
import Derived.OpenShut
import Derived.Test.YtgpojcfkanjabaaGreatDoorAS04
open List renaming replicate → ub, getElem?_eq_some_iff → ug, map → uh, mem_cons → ui, getElem?_append_right → uk, getElem?_append_left → ul, mem_append_left → ur, mem_of_getElem? → ut, append_nil → uw, getElem?_replicate → ux, mem_append_right → uy, mem_append → uz, length_map → uA, all_append → uB, getD_eq_getElem?_getD → uD, getElem?_eq_getElem → uE, cons_append → uF, getElem?_cons_zero → uG, range → uI, mem_cons_of_mem → uK, mem_cons_self → uN, mem_map → uO, all_eq_true → uP, range' → uQ, nil_append → uS, mapM_cons → uW
open Option renaming map_eq_some_iff → ud, bind → uj, bind_eq_some_iff → um, none_or → uq, bind_eq_bind → uM, map_some → uT, pure_def → uU, some_or → uV
open Bool renaming and_eq_true → uc, or_eq_true → uJ
open Nat renaming le_of_ble_eq_true → ua, lor → ue, le_refl → un, eq_of_beq_eq_true → uo, beq → uv, blt_eq → uC, ble → uH, blt → uL, le_succ → uR, beq_refl → uX, lt_or_ge → uY
open Array renaming getElem?_eq_some_iff → uu
namespace Go.Proofs.YtgpojcfkanjabaaGreatDoor
open Go.RowKit
set_option linter.unusedSimpArgs false
set_option linter.unusedVariables false
def Qb:Nat→List (List Int)→List (Nat×aG)
 | _,[]=>[]
 | b,L::r=>bif uL b 2000000 then (b,.aV 1 L.length)::Qb (b+1) r else []
def wb (Ls:List (List Int)):List (Nat×aG):=(qT,.dead)::Qb zC Ls
def ZD:List (Nat×aG)→List (Nat×aG)
 | []=>[]
 | (k,o)::r=>match uv k qT with
  | true=>[]
  | false=>(k,o)::ZD r
def Qc:List (Nat×aG)→List (Nat×aG)
 | []=>[]
 | (k,o)::r=>match uv k qT with
  | true=>(k,o)::r
  | false=>Qc r
def yu:List (Nat×aG)→Bool
 | []=>true
 | (k,o)::r=>match uv k qT with
  | true=>true
  | false=>(uL k qT||uH 2000000 k)&&yu r
theorem K5:∀ (Ls:List (List Int)) (b:Nat),(qq b Ls).length=Ls.length
 | [],_=>rfl
 | L::r,b=>by simp [qq,K5 r]
theorem K6:∀ (Ls:List (List Int)) (b k:Nat) (L:List Int),(qq b Ls).set k (vD (b+k) L)=qq b (Ls.set k L)
 | [],b,k,L=>by simp [qq]
 | M::r,b,0,L=>by simp [qq]
 | M::r,b,k+1,L=>by
  simp only [qq,List.set_cons_succ]
  rw [←K6 r (b+1) k L,show b+1+k=b+(k+1) by omega]
theorem K7:∀ (Ls:List (List Int)) (b j:Nat),za (Qb b Ls) j=if b≤j∧j < 2000000 then (Ls[j - b]?).map (fun L=>aG.aV 1 L.length) else none
 | [],b,j=>by simp [Qb,za]
 | L::r,b,j=>by
  simp only [Qb]
  cases h:uL b 2000000 with
  | false=>
   have:¬ b < 2000000:=fun hb=>by rw [show uL b 2000000=true by simpa [uC] using hb] at h;cases h
   simp only [ck,za]
   rw [if_neg (by omega)]
  | true=>
   have hb:b < 2000000:=by simpa [uC] using h
   simp only [cg,za]
   by_cases e:b=j
   ·subst e
    rw [if_pos rfl,if_pos ⟨un _,hb⟩];simp
   ·rw [if_neg e,K7 r (b+1) j]
    by_cases h2:b≤j∧j < 2000000
    ·obtain ⟨k,hk⟩:∃ k,j - b=k+1:=⟨j - b - 1,by omega⟩
     rw [if_pos (by omega),if_pos h2,hk,show j - (b+1)=k by omega,List.getElem?_cons_succ]
    ·rw [if_neg (by omega),if_neg h2]
theorem vE (Ls:List (List Int)) (j:Nat):za (wb Ls) j=if j=qT then some .dead else if zC≤j∧j < 2000000 then (Ls[j - zC]?).map (fun L=>aG.aV 1 L.length) else none:=by
 simp only [wb,za]
 by_cases e:qT=j
 ·rw [if_pos e,if_pos e.symm]
 ·rw [if_neg e,if_neg (fun h=>e h.symm),K7]
theorem vW {α:Type}:∀ (a b:List (Nat×α)) (j:Nat),za (a++b) j=(za a j).or (za b j)
 | [],b,j=>by simp [za]
 | (k,v)::a,b,j=>by
  simp only [uF,za]
  by_cases e:k=j
  ·rw [if_pos e,if_pos e];rfl
  ·rw [if_neg e,if_neg e];exact vW a b j
theorem GX:∀ l:List (Nat×aG),ZD l++Qc l=l
 | []=>rfl
 | (k,o)::r=>by
  simp only [ZD,Qc]
  split
  ·rfl
  ·rw [uF,GX r]
theorem kz (l:List (Nat×aG)) (j:Nat):za l j=(za (ZD l) j).or (za (Qc l) j):=by
 conv=>lhs;rw [←GX l]
 exact vW _ _ _
theorem Jr:∀ {l:List (Nat×aG)},yu l=true→∀ {j:Nat} {o:aG},za (ZD l) j=some o→j < qT∨2000000≤j
 | [],h,j,o,e=>by cases e
 | (k,v)::r,h,j,o,e=>by
  simp only [yu,ZD] at h e
  split at h
  ·rename_i hk;rw [hk] at e;cases e
  ·rename_i hk
   rw [hk] at e
   simp only [uc,uJ] at h
   simp only [za] at e
   split at e
   ·rename_i ek
    subst ek
    rcases h.1 with h1 | h1
    ·exact .inl (by simpa [uC] using h1)
    ·exact .inr (ua h1)
   ·exact Jr h.2 e
structure oG (heap:List (Nat×aG)) (P:Nat) (Ls:List (List Int)):Prop where
 obj:za heap P=some (.af 1 (qq zC Ls))
 tail:Qc heap=wb Ls
 out:yu heap=true
theorem oG.aV {heap:List (Nat×aG)} {P:Nat} {Ls:List (List Int)} (h:oG heap P Ls) {k:Nat} {L:List Int} (hL:Ls[k]?=some L) (hk:k < 1000000):za heap (zC+k)=some (.aV 1 L.length):=by
 rw [kz]
 cases e:za (ZD heap) (zC+k) with
 | some o=>have:=Jr h.out e;simp only [zC,qT] at this;omega
 | none=>
  rw [uq,h.tail,vE,if_neg (by simp only [zC,qT];omega),if_pos (by simp only [zC];omega),show zC+k - zC=k by omega,hL];rfl
theorem K8:∀ (Ls:List (List Int)) (b:Nat) (p:Nat×aG),p∈Qb b Ls→∃ (k:Nat) (L:List Int),Ls[k]?=some L∧p=(b+k,.aV 1 L.length)∧b+k < 2000000
 | [],b,p,h=>by simp [Qb] at h
 | L::r,b,p,h=>by
  simp only [Qb] at h
  cases hb:uL b 2000000 with
  | false=>rw [hb] at h;simp at h
  | true=>
   rw [hb,cg] at h
   rcases ui.1 h with h | h
   ·exact ⟨0,L,rfl,h,by simpa [uC] using hb⟩
   ·obtain ⟨k,M,h1,h2,h3⟩:=K8 r (b+1) p h
    exact ⟨k+1,M,by simpa using h1,by rw [h2,show b+1+k=b+(k+1) by omega],by omega⟩
theorem Pp {heap:List (Nat×aG)} {Ls:List (List Int)} (ht:Qc heap=wb Ls) (ho:yu heap=true):∀ p∈wb Ls,za heap p.1=some p.2∧p.1 < 2000000∧∀ m,zQ m p.2:=by
 intro p hp
 have hnone:∀ j,qT≤j→j < 2000000→za (ZD heap) j=none:=fun j h1 h2=>by
  cases e:za (ZD heap) j with
  | none=>rfl
  | some o=>have:=Jr ho e;omega
 rcases ui.1 hp with rfl | hp
 ·refine ⟨?_,by simp [qT],fun m=>trivial⟩
  rw [kz,hnone _ (un _) (by simp [qT]),uq,ht,vE,if_pos rfl]
 ·obtain ⟨k,L,h1,rfl,h3⟩:=K8 _ _ _ hp
  refine ⟨?_,h3,fun m=>trivial⟩
  simp only
  rw [kz,hnone _ (by simp only [qT,zC];omega) h3,uq,ht,vE,if_neg (by simp only [qT,zC];omega),if_pos ⟨by omega,h3⟩,show zC+k - zC=k by omega,h1]
  rfl
theorem Pq {env env':List (Nat×AV)} {heap heap':List (Nat×aG)} {n:Nat} (he:∀ t x,za env' t=some x→za env t=some x) (h:∀ j o,za heap' j=some o→za heap j=some o):bS ⟨env,heap,n⟩ ⟨env',heap',n⟩:=by
 intro C nt g a w R
 obtain ⟨RE,R⟩:=R
 simp only at RE R
 have E:bW g (za heap) (· < n) w g (za heap') (· < n) w:={bW.refl g (za heap) (· < n) w with
  eb:=fun i b hb _ _ _ _=>.inl hb
  cE:=fun i hb _ _ _ _=>.inl hb
  af:=fun i _ s r h1=>⟨r,h i _ h1,rfl⟩
  cR:=fun i _ s l h1=>⟨l,h i _ h1,un _⟩
  maps:=fun i _ es h1=>⟨es,h i _ h1⟩
  fB:=fun i _ ll RR s pe h1=>⟨s,pe,h i _ h1⟩}
 refine ⟨g,⟨⟨RE.size,RE.defers,fun t x hx=>(RE.slot t x (he t x hx)).mono E⟩,⟨R.inj,R.lt,fun i o h1=>R.key i o (h i o h1),fun i b o h1 h2=>(R.obj i b o h1 (h i o h2)).keep E rfl rfl,fun i s l h1 h2=>R.cQ i s l (h i _ h1) h2,R.dX,R.fix.eO E⟩⟩,fun g0 cK w0 hm E0=>E0.trans E⟩
theorem Pr {env:List (Nat×AV)} {heap:List (Nat×aG)} {next:Nat} (P n:Nat) (hP:za heap P=some (.af 1 (ub n [.nil]))) (hn:next≤qT) :
  bS ⟨env,heap,next⟩ ⟨env,zo heap P (.af 1 (qq zC (ub n [])))++wb (ub n []),2000000⟩:=by
 intro C nt g a w R
 obtain ⟨RE,R⟩:=R
 simp only at RE R
 have hPn:P < next:=R.key _ _ hP
 have hmk:qT=999999:=rfl
 have hnb:zC=1000000:=rfl
 have hg:∀ j o,za (zo heap P (.af 1 (qq zC (ub n [])))++wb (ub n [])) j=some o →
   (j=P∧o=.af 1 (qq zC (ub n [])))∨(j≠P∧j < next∧za heap j=some o)∨(j=qT∧o=.dead)∨(zC≤j∧j < 2000000∧o=.aV 1 0):=fun j o h=>by
  rw [vW,zp] at h
  by_cases e:P=j
  ·rw [if_pos e] at h;cases h;exact .inl ⟨e.symm,rfl⟩
  ·rw [if_neg e] at h
   cases h2:za heap j with
   | some o'=>rw [h2,uV] at h;cases h;exact .inr (.inl ⟨fun e2=>e e2.symm,R.key _ _ h2,rfl⟩)
   | none=>
    rw [h2,uq,vE] at h
    split at h
    ·rename_i e3;cases h;exact .inr (.inr (.inl ⟨e3,rfl⟩))
    ·split at h
     ·rename_i e3
      rw [ux] at h
      split at h
      ·cases h;exact .inr (.inr (.inr ⟨e3.1,e3.2,rfl⟩))
      ·cases h
     ·cases h
 have hold:∀ j o,j < next→j≠P→za (zo heap P (.af 1 (qq zC (ub n [])))++wb (ub n [])) j=some o→za heap j=some o:=fun j o h1 h2 h3=>by
  rcases hg j o h3 with ⟨e,_⟩ | ⟨_,_,e⟩ | ⟨e,_⟩ | ⟨e,_⟩
  ·exact absurd e h2
  ·exact e
  ·omega
  ·omega
 have E:bW g (za heap) (· < next) w g (za (zo heap P (.af 1 (qq zC (ub n [])))++wb (ub n []))) (· < 2000000) w:={bW.refl g (za heap) (· < next) w with
  next:=fun i hi=>by have hi:i < next:=hi;show i < 2000000;omega
  eb:=fun i b hb _ _ _ _=>.inl hb
  cE:=fun i hb _ _ _ _=>.inl hb
  af:=fun i hi s r h1=>by
   rcases hg i _ h1 with ⟨e1,e2⟩ | ⟨_,_,e2⟩ | ⟨_,e2⟩ | ⟨_,_,e2⟩
   ·subst e1;cases e2;exact ⟨_,hP,by rw [K5];simp⟩
   ·exact ⟨r,e2,rfl⟩
   ·cases e2
   ·cases e2
  cR:=fun i hi s l h1=>by
   have hi:i < next:=hi
   rcases hg i _ h1 with ⟨_,e2⟩ | ⟨_,_,e2⟩ | ⟨_,e2⟩ | ⟨e1,_,_⟩
   ·cases e2
   ·exact ⟨l,e2,un _⟩
   ·cases e2
   ·omega
  maps:=fun i _ es h1=>by
   rcases hg i _ h1 with ⟨_,e2⟩ | ⟨_,_,e2⟩ | ⟨_,e2⟩ | ⟨_,_,e2⟩
   ·cases e2
   ·exact ⟨es,e2⟩
   ·cases e2
   ·cases e2
  fB:=fun i _ ll RR s pe h1=>by
   rcases hg i _ h1 with ⟨_,e2⟩ | ⟨_,_,e2⟩ | ⟨_,e2⟩ | ⟨_,_,e2⟩
   ·cases e2
   ·exact ⟨s,pe,e2⟩
   ·cases e2
   ·cases e2}
 refine ⟨g,⟨⟨RE.size,RE.defers,fun t x hx=>(RE.slot t x hx).mono E⟩,⟨R.inj,fun i b h1=>⟨(R.lt i b h1).1,E.next _ (R.lt i b h1).2⟩,fun i o h1 => ?_,fun i b o h1 h2 => ?_,fun i s l h1 h2 => ?_,R.dX,R.fix.eO E⟩⟩,fun g0 cK w0 hm E0=>E0.trans E⟩
 ·show i < 2000000
  rcases hg i o h1 with ⟨e1,_⟩ | ⟨_,e1,_⟩ | ⟨e1,_⟩ | ⟨_,e1,_⟩<;>omega
 ·rcases hg i o h2 with ⟨e1,e2⟩ | ⟨_,_,e2⟩ | ⟨e1,_⟩ | ⟨e1,_,_⟩
  ·subst e1 e2
   have hro:=R.obj _ b _ h1 hP
   simp only [cC] at hro ⊢
   obtain ⟨a1,c,e,a2,a3,a4⟩:=hro
   refine ⟨a1,c,e,a2,fun i r hi => ?_,fun i r j x hi hj => ?_⟩
   ·rw [ky] at hi
    obtain ⟨L,_,rfl⟩:=ud.1 hi
    rfl
   ·rw [ky] at hi
    obtain ⟨L,hL,rfl⟩:=ud.1 hi
    rw [ux] at hL
    split at hL
    ·rename_i hin
     cases hL
     have hj0:j=0:=by
      by_cases hb:zC+i < 2000000
      ·rw [wy hb] at hj
       cases j with
       | zero=>rfl
       | succ j=>simp at hj
      ·rw [yZ hb] at hj
       cases j with
       | zero=>rfl
       | succ j=>simp at hj
     subst hj0
     obtain ⟨cv,b1,b2,b3⟩:=a4 i [.nil] 0 .nil (by rw [ux,if_pos hin]) rfl
     refine ⟨cv,b1,b2,?_⟩
     rw [xl b3]
     by_cases hb:zC+i < 2000000
     ·rw [wy hb] at hj
      simp only [uG,Option.some.injEq] at hj
      subst hj
      refine .aU _ _ _ .nil hb fun sz len fc => ?_
      have:sz=1∧len=0:=by
       rcases hg _ _ fc with ⟨e1,_⟩ | ⟨_,e1,_⟩ | ⟨e1,_⟩ | ⟨_,_,e2⟩
       ·omega
       ·omega
       ·omega
       ·cases e2;exact ⟨rfl,rfl⟩
      obtain ⟨rfl,rfl⟩:=this
      refine ⟨un _,fun i row hi=>by simp at hi,fun _=>.inl ⟨?_,rfl⟩⟩
      cases hr:g.ρ (zC+i) with
      | none=>rfl
      | some bb=>
       have h5:zC+i < next:=(R.lt _ _ hr).2
       omega
     ·rw [yZ hb] at hj
      simp only [uG,Option.some.injEq] at hj
      subst hj
      exact .ax _ _ .nil
    ·cases hL
  ·exact (R.obj i b o h1 e2).keep E rfl rfl
  ·have h5:i < next:=(R.lt i b h1).2
   omega
  ·have h5:i < next:=(R.lt i b h1).2
   omega
 ·rcases hg i _ h1 with ⟨_,e2⟩ | ⟨_,_,e2⟩ | ⟨_,e2⟩ | ⟨_,_,e2⟩
  ·cases e2
  ·exact R.cQ i s l e2 h2
  ·cases e2
  ·cases e2;rfl
theorem GY:∀ (Ls:List (List Int)) (b:Nat),dP (qq b Ls) (zc (zM zb) Ls)
 | [],_=>.nil
 | L::r,b=>by
  refine .cons ?_ (GY r (b+1))
  by_cases hb:b < 2000000
  ·rw [wy hb];exact .cons (.aV _ _) .nil
  ·rw [yZ hb];exact .cons (.refl _) .nil
section
inductive Tree:Type 1 where
 | tt
 | bad (why:Nat)
 | step (t:Tree)
 | all (β:Type) (f:β→Tree)
 | and (a b:Tree)
 | eq (β:Type) (a b:β) (t:Tree)
def Tree.Ok:Tree→Prop
 | .tt=>True
 | .bad _=>False
 | .step t=>t.Ok
 | .all _ f=>∀ v,(f v).Ok
 | .and a b=>a.Ok∧b.Ok
 | .eq _ a b t=>a=b∧t.Ok
def Tree.norm:Tree→Tree
 | .tt=>.tt
 | .bad _=>.tt
 | .step t=>.step t.norm
 | .all β f=>.all β fun v=>(f v).norm
 | .and a b=>.and a.norm b.norm
 | .eq β a _ t=>.eq β a a t.norm
theorem Tree.ok:∀ {t:Tree},t=t.norm→t.Ok:=by
 intro t
 induction t with
 | tt=>exact fun _=>trivial
 | bad _=>intro h;cases h
 | step t ih=>intro h;simp only [Tree.norm,Tree.step.injEq] at h;exact ih h
 | all β f ih=>
  intro h v
  simp only [Tree.norm,Tree.all.injEq,heq_eq_eq,true_and] at h
  exact ih v (congrFun h v)
 | and a b iha ihb=>intro h;simp only [Tree.norm,Tree.and.injEq] at h;exact ⟨iha h.1,ihb h.2⟩
 | eq β a b t ih=>intro h;simp only [Tree.norm,Tree.eq.injEq,heq_eq_eq,true_and] at h;exact ⟨h.1.symm,ih h.2⟩
abbrev GZ:=List eF×List Prop
abbrev zU:=List (Nat×GZ)
def bh (Φ:zU):Prop:=∀ k f,za Φ k=some f→cI f.2
structure Spec (β:Type) where
 ks:List Nat
 ov:β→List (Nat×AV)
 hs:List Nat
 oh:β→List (Nat×aG)
 nx:Nat
 BZ:∀ b,cq nx (oh b)
 ns:β→Option (List (List Int))
def VY (hs:List Nat):List (Nat×aG)→List (Nat×aG)
 | []=>[]
 | (k,o)::r=>match uv k qT with
  | true=>[]
  | false=>match hs.contains k with
   | true=>(k,o)::VY hs r
   | false=>VY hs r
def Js:Option (List (List Int))→List (Nat×aG)
 | Option.none=>[]
 | some Ls=>wb Ls
abbrev Spec.k {β:Type} (ks:List Nat) (ov:β→List (Nat×AV)) (hs:List Nat) (oh:β→List (Nat×aG)) (nx:Nat) (BZ:∀ b,cq nx (oh b)):Spec β:=⟨ks,ov,hs,oh,nx,BZ,fun _=>Option.none⟩
def Spec.st {β:Type} (sp:Spec β) (st:St) (b:β):St:=⟨sp.ov b++qC sp.ks st.env,sp.oh b++(VY sp.hs st.heap++Js (sp.ns b)),sp.nx⟩
def Spec.fk {β:Type} (sp:Spec β) (st:St) (idx:Nat) (n:Int) (b:β):St:=⟨(idx,vI n)::(sp.ov b++qC sp.ks st.env),sp.oh b++(VY sp.hs st.heap++Js (sp.ns b)),sp.nx⟩
structure eM where
 to:St→St
 T:St→Tree→Tree
 ok:∀ st t,(T st t).Ok→t.Ok∧bS st (to st)∧st.next≤(to st).next
structure rE (β:Type) where
 x:Option β
 T:cy→St→(β→St→Tree)→Tree
 ok:∀ (C:bB) (nt:Fr) (c:cy) (st:St) (k:β→St→Tree) (K:Exit→St→Prop) (b:β),x=some b→(T c st k).Ok→(∀ s,(k b s).Ok→K .normal s)→cG C nt c K st
inductive aB:Type→Type 1 where
 | ret {α:Type} (a:α):aB α
 | fin {α:Type} (ids:List Nat) (V:AV) (bT:List (Nat×aG)) (iv:IV) (h:DE [V] bT [iv]) (a:α):aB α
 | iz {α:Type} (x y:AV) (h:nJ x y) (a:α):aB α
 | none {α:Type}:aB α
 | bind {α β:Type} (x:Option β) (F:β→zU) (h:∀ v,x=some v→bh (F v)) (k:β→aB α):aB α
 | ite {α:Type} (key:Nat) (b:Bool) (p q:aB α):aB α
 | fact {α:Type} (key:Nat) (o:List eF) (ps:List Prop) (h:cI ps) (p:aB α):aB α
 | use {α:Type} (j key:Nat) (p:aB α):aB α
 | case {α β γ:Type} (o:β ⊕ γ) (p:β→aB α) (q:γ→aB α):aB α
 | cut {α β:Type} (n:Nat) (sp:Spec β) (p:aB β) (k:β→aB α):aB α
 | eu {α β γ:Type} (n:Nat) (sp:Spec β) (p:aB (β ⊕ γ)) (k:β ⊕ γ→aB α):aB α
 | aH {α σ ρ:Type} (key idx:Nat) (n:Int) (s0:σ) (sp:Spec σ) (body:Nat→σ→aB (σ ⊕ ρ)) (k:σ ⊕ ρ→aB α):aB α
 | iter {α σ ρ:Type} (s0:σ) (sp:Spec σ) (body:σ→aB (σ ⊕ ρ)) (k:ρ→aB α):aB α
 | cA {α:Type} (n:Nat) (ws:List eM) (p:aB α):aB α
 | aC {α:Type} (n:Nat) (p:aB α):aB α
 | tM {α β:Type} (n:Nat) (m:rE β) (k:β→aB α):aB α
 | oH {α:Type} (key:Nat) (n:Int) (len i:Nat) (h:uL i len=true) (p q:aB α):aB α
noncomputable def aB.run {α:Type} (p:aB α):Option α:=aB.rec (motive:=fun α _=>Option α)
 (fun a=>some a) (fun _ _ _ _ _ a=>some a) (fun _ _ _ a=>some a) Option.none
 (fun x _ _ _ ih=>uj x ih) (fun _ b _ _ iA lV=>bif b then iA else lV) (fun _ _ _ _ _ ih=>ih) (fun _ _ _ ih=>ih)
 (fun o _ _ iA lV=>Sum.elim iA lV o) (fun _ _ _ _ iA sJ=>uj iA sJ) (fun _ _ _ _ iA sJ=>uj iA sJ)
 (fun _ _ n s0 _ _ _ ihb sJ=>uj (Go.Proofs.YtgpojcfkanjabaaGreatDoor.aH n ihb s0) sJ)
 (fun s0 _ _ _ ihb sJ=>uj (Go.Proofs.YtgpojcfkanjabaaGreatDoor.iter ihb s0) sJ) (fun _ _ _ ih=>ih) (fun _ _ ih=>ih) (fun _ m _ ih=>uj m.x ih) (fun _ n _ i _ _ _ iA lV=>bif n == (i:Int) then iA else lV) p
noncomputable def settle {α:Type} (p:aB α) (Φ:zU) (k:zU→aB α→Tree):Tree:=aB.rec (motive:=fun α _=>zU→(zU→aB α→Tree)→Tree)
 (fun a Φ k=>k Φ (.ret a)) (fun ids V bT iv h a Φ k=>k Φ (.fin ids V bT iv h a)) (fun x y h a Φ k=>k Φ (.iz x y h a)) (fun Φ k=>.tt)
 (fun {_ β} x F h _ ih Φ k=>.all β fun v=>ih v (F v++Φ) k)
 (fun key b _ _ iA lV Φ k=>.and (iA ((key,([.g true],[b=true]))::(key+1,([.g false],[(!b)=false]))::Φ) k) (lV ((key,([.g false],[b=false]))::(key+1,([.g true],[(!b)=true]))::Φ) k))
 (fun key o ps h _ ih Φ k=>ih ((key,(o,ps))::Φ) k) (fun j key p _ Φ k=>k Φ (.use j key p))
 (fun o _ _ iA lV Φ k=>match o with
  | .inl a=>iA a Φ k
  | .inr b=>lV b Φ k)
 (fun n sp p kk _ _ Φ k=>k Φ (.cut n sp p kk)) (fun n sp p kk _ _ Φ k=>k Φ (.eu n sp p kk))
 (fun key idx n s0 sp body kk _ _ Φ k=>k Φ (.aH key idx n s0 sp body kk)) (fun s0 sp body kk _ _ Φ k=>k Φ (.iter s0 sp body kk))
 (fun n ws p _ Φ k=>k Φ (.cA n ws p)) (fun n p _ Φ k=>k Φ (.aC n p)) (fun n m kk _ Φ k=>k Φ (.tM n m kk))
 (fun key n len i _ _ _ iA lV Φ k=>.and (iA ((key,([.k i],[X2 n 0 len i]))::Φ) k) (lV Φ k)) p Φ k
theorem bh.add {Φ:zU} (h:bh Φ) {key:Nat} {f:GZ} (hf:cI f.2):bh ((key,f)::Φ):=fun k g hg=>by
 simp only [za] at hg
 split at hg
 ·cases hg;exact hf
 ·exact h k g hg
theorem G0 {α:Type}:∀ {l m:List (Nat×α)} {k:Nat} {x:α},za (l++m) k=some x→za l k=some x∨za m k=some x
 | [],m,k,x,h=>.inr h
 | (k',y)::l,m,k,x,h=>by
  simp only [uF,za] at h ⊢
  split at h
  ·rename_i e;rw [if_pos e];exact .inl h
  ·rename_i e;rw [if_neg e];exact G0 h
theorem bh.app {Φ Ψ:zU} (h:bh Φ) (h':bh Ψ):bh (Φ++Ψ):=fun k f hf=>(G0 hf).elim (h k f) (h' k f)
theorem bh.nil:bh []:=fun _ _ h=>by cases h
theorem q9 {α:Type} (p:aB α):∀ {Φ:zU} {k:zU→aB α→Tree} {r:α},bh Φ→(settle p Φ k).Ok→p.run=some r→∃ Φ' p',bh Φ'∧p'.run=some r∧(k Φ' p').Ok:=by
 induction p with
 | ret a=>exact fun hΦ hk hr=>⟨_,_,hΦ,hr,hk⟩
 | fin ids V bT iv h a=>exact fun hΦ hk hr=>⟨_,_,hΦ,hr,hk⟩
 | iz x y h a=>exact fun hΦ hk hr=>⟨_,_,hΦ,hr,hk⟩
 | none=>intro Φ k r hΦ hk hr;cases hr
 | bind x F h kk ih=>
  intro Φ k r hΦ hk hr
  obtain ⟨v,h1,h2⟩:=xh hr
  exact ih v ((h v h1).app hΦ) (hk v) h2
 | ite key b p q iA lV=>
  intro Φ k r hΦ hk hr
  have hr':(bif b then p.run else q.run)=some r:=hr
  cases b with
  | true=>exact iA ((hΦ.add (f:=([.g false],[(!true)=false])) (.cons rfl .nil)).add (f:=([.g true],[true=true])) (.cons rfl .nil)) hk.1 hr'
  | false=>exact lV ((hΦ.add (f:=([.g true],[(!false)=true])) (.cons rfl .nil)).add (f:=([.g false],[false=false])) (.cons rfl .nil)) hk.2 hr'
 | fact key o ps h p ih=>exact fun hΦ hk hr=>ih (hΦ.add (f:=(o,ps)) h) hk hr
 | use j key p ih=>exact fun hΦ hk hr=>⟨_,_,hΦ,hr,hk⟩
 | case o p q iA lV=>
  intro Φ k r hΦ hk hr
  cases o with
  | inl a=>exact iA a hΦ hk hr
  | inr b=>exact lV b hΦ hk hr
 | cut n sp p kk _ _=>exact fun hΦ hk hr=>⟨_,_,hΦ,hr,hk⟩
 | eu n sp p kk _ _=>exact fun hΦ hk hr=>⟨_,_,hΦ,hr,hk⟩
 | aH key idx n s0 sp body kk _ _=>exact fun hΦ hk hr=>⟨_,_,hΦ,hr,hk⟩
 | iter s0 sp body kk _ _=>exact fun hΦ hk hr=>⟨_,_,hΦ,hr,hk⟩
 | cA n ws p ih=>exact fun hΦ hk hr=>⟨_,_,hΦ,hr,hk⟩
 | aC n p ih=>exact fun hΦ hk hr=>⟨_,_,hΦ,hr,hk⟩
 | tM n m kk ih=>exact fun hΦ hk hr=>⟨_,_,hΦ,hr,hk⟩
 | oH key n len i hi p q iA lV=>
  intro Φ k r hΦ hk hr
  have hr':(bif n == (i:Int) then p.run else q.run)=some r:=hr
  have hlt:i < len:=by simpa [uC] using hi
  by_cases e:n=(i:Int)
  ·rw [show (n == (i:Int))=true by simp [e]] at hr'
   exact iA (hΦ.add (f:=([.k i],[X2 n 0 len i])) (.cons ⟨by omega,by omega,by omega⟩ .nil)) hk.1 hr'
  ·rw [show (n == (i:Int))=false by simp [e]] at hr'
   exact lV hΦ hk.2 hr'
def aB.used {α:Type} (p:aB α) (j:Nat):Option (Nat×aB α):=match p with
 | .use j' key q=>match uv j' j with
  | true=>some (key,q)
  | false=>Option.none
 | _=>Option.none
theorem WX {α:Type} {p q:aB α} {j key:Nat} (h:p.used j=some (key,q)):q.run=p.run:=by
 unfold aB.used at h
 split at h
 ·split at h
  ·cases h;rfl
  ·cases h
 ·cases h
abbrev YT:=(l id:Nat)→(args:List AV)→(heap:List (Nat×aG))→(next:Nat)→(α:Type)→zU→aB α→(AV→List (Nat×aG)→Nat→zU→aB α→Tree)→Tree
def rF:YT:=fun _ _ _ _ _ _ _ _ _=>.bad 1183
def B4 (C:bB) (Yt:YT):Prop:=∀ (l id:Nat) (args:List AV) (heap:List (Nat×aG)) (next:Nat) (α:Type) (Φ:zU) (p:aB α) (k:AV→List (Nat×aG)→Nat→zU→aB α→Tree) (r:α) (KK:AV→List (Nat×aG)→Nat→Prop),bh Φ→p.run=some r→(Yt l id args heap next α Φ p k).Ok →
 (∀ v h n Φ' p',bh Φ'→p'.run=some r→(k v h n Φ' p').Ok→KK v h n)→C.Y l id args heap next KK
theorem VZ (C:bB):B4 C rF:=fun _ _ _ _ _ _ _ _ _ _ _ _ _ h _=>h.elim
def Y7 (op:cO) (st:St):Option (Nat×Nat×List AV):=match op with
 | .call f args=>match zd st.env f with
  | .eB l id=>some (l,id,args.map (zd st.env))
  | _=>Option.none
 | _=>Option.none
theorem Ps {op:cO} {st:St} {l id:Nat} {args:List AV} (h:Y7 op st=some (l,id,args)):∃ f cD,op=.call f cD∧zd st.env f=.eB l id∧args=cD.map (zd st.env):=by
 unfold Y7 at h
 split at h
 ·split at h
  ·rename_i e;cases h;exact ⟨_,_,rfl,e,rfl⟩
  ·cases h
 ·cases h
section
variable (C:Ctx)
def AR (dr:Option (List Nat)) (op:cO) (X:Nat) (st:St):St:=match dr with
 | Option.none=>st
 | some _=>match fM op with
  | true=>⟨st.env,st.heap,X⟩
  | false=>st
def B5 {α:Type} (dr:Option (List Nat)) (X:Nat) (dst:Option Nat) (j:Nat) (W R:List (Nat×Nat)) (D:List Nat) (st:St) (r:AV) (aO:List (Nat×aG)) (rd:List Nat) (d:Nat) (next:List (Nat×Nat)→List (Nat×Nat)→List Nat→St→Nat→zU→aB α→Tree) (Φ:zU) (q:aB α):Tree:=match dr with
 | Option.none=>next W R (X3 D dst) (st.mL dst r aO d) X Φ q
 | some ord=>match xn ord j W R (zY aO) rd with
  | true=>next (qZ j (zY aO) W) (qZ j rd R) (X3 D dst) (st.after dst r aO) (X+d) Φ q
  | false=>.bad 1215
def DR {α:Type} (dr:Option (List Nat)) (X:Nat) (it:aQ) (j:Nat) (W R:List (Nat×Nat)) (D:List Nat) (st:St) (Φ:zU) (p:aB α) (next:List (Nat×Nat)→List (Nat×Nat)→List Nat→St→Nat→zU→aB α→Tree):Tree:=match p.used j with
 | Option.none=>match fX C it.op [] D (AR dr it.op X st) with
  | some (r,aO,rd,_,[],d)=>B5 dr X it.dst j W R D st r aO rd d next Φ p
  | _=>.bad 1209
 | some (key,q)=>match za Φ key with
  | Option.none=>.bad 1211
  | some (o,ps)=>match fX C it.op o D (AR dr it.op X st) with
   | some (r,aO,rd,_,ps',d)=>.eq (List Prop) ps' ps (B5 dr X it.dst j W R D st r aO rd d next Φ q)
   | Option.none=>.bad 1216
def DS {α:Type} (gd:Option (Nat×Bool)) (j:Nat) (D:List Nat) (st:St) (Φ:zU) (p:aB α) (next:Bool→List Nat→St→zU→aB α→Tree):Tree:=match Xk gd [] D st with
 | some (b,_,[],D',aY)=>next b D' aY Φ p
 | some (_,_,_::_,_,_)=>.bad 1221
 | Option.none=>match p.used j with
  | Option.none=>.bad 1223
  | some (key,q)=>match za Φ key with
   | Option.none=>.bad 1225
   | some (o,ps)=>match Xk gd o D st with
    | some (b,_,ps',D',aY)=>.eq (List Prop) ps' ps (next b D' aY Φ q)
    | Option.none=>.bad 1228
noncomputable def DT {α:Type} (Yt:YT) (dr:Option (List Nat)) (X:Nat) (it:aQ) (j:Nat) (W R:List (Nat×Nat)) (D:List Nat) (st:St) (Φ:zU) (p:aB α) (next:List (Nat×Nat)→List (Nat×Nat)→List Nat→St→Nat→zU→aB α→Tree):Tree:=match Y7 it.op st with
 | Option.none=>DR C dr X it j W R D st Φ p next
 | some (l,id,args)=>match dr with
  | Option.none=>Yt l id args st.heap st.next α Φ p fun r heap nx Φ p=>next W R (X3 D it.dst) (St.put {env:=st.env,heap:=heap,next:=nx+1} it.dst r) X Φ p
  | some _=>.bad 1234
noncomputable def Jt {α:Type} (Yt:YT) (dr:Option (List Nat)):List aQ→Nat→Nat→List (Nat×Nat)→List (Nat×Nat)→List Nat→St→zU→aB α→(St→zU→aB α→Tree)→Tree
 | [],_,X,_,_,_,st,Φ,p,k=>k (match dr with
  | Option.none=>st
  | some _=>⟨st.env,st.heap,X⟩) Φ p
 | it::rest,j,X,W,R,D,st,Φ,p,k=>settle p Φ fun Φ p=>DS it.guard j D st Φ p fun b D st Φ p=>match b with
  | false=>Jt Yt dr rest (j+1) X W R (X3 D it.dst) (st.after it.dst .undef []) Φ p k
  | true=>settle p Φ fun Φ p=>DT C Yt dr X it j W R D st Φ p fun W R D st X Φ p=>Jt Yt dr rest (j+1) X W R D st Φ p k
end
section
variable {C:Ctx}
theorem G1 {α:Type} {gd:Option (Nat×Bool)} {j:Nat} {D:List Nat} {st:St} {Φ:zU} {p:aB α} {next:Bool→List Nat→St→zU→aB α→Tree} {r:α} (hΦ:bh Φ) (hr:p.run=some r) (h:(DS gd j D st Φ p next).Ok) :
  ∃ b D' q,qd st.env gd=some b∧q.run=some r∧(next b D' st Φ q).Ok:=by
 unfold DS at h
 split at h
 ·rename_i b _ D' aY hg
  obtain ⟨rfl,h1⟩:=yY hg .nil
  exact ⟨b,D',p,h1,hr,h⟩
 ·exact h.elim
 ·split at h
  ·exact h.elim
  ·rename_i key q hu
   split at h
   ·exact h.elim
   ·rename_i o ps hk
    split at h
    ·rename_i b _ ps' D' aY hg
     obtain ⟨h1,h2⟩:=h
     subst h1
     obtain ⟨rfl,h3⟩:=yY hg (hΦ _ _ hk)
     exact ⟨b,D',q,h3,(WX hu).trans hr,h2⟩
    ·exact h.elim
theorem G2 {α:Type} {dr:Option (List Nat)} {X:Nat} {it:aQ} {j:Nat} {W R:List (Nat×Nat)} {D:List Nat} {st:St} {Φ:zU} {p:aB α} {next:List (Nat×Nat)→List (Nat×Nat)→List Nat→St→Nat→zU→aB α→Tree} {r:α} (hΦ:bh Φ) (hr:p.run=some r) (h:(DR C dr X it j W R D st Φ p next).Ok) :
  ∃ o x aO rd o' ps d q,fX C it.op o D (AR dr it.op X st)=some (x,aO,rd,o',ps,d)∧cI ps∧q.run=some r∧(B5 dr X it.dst j W R D st x aO rd d next Φ q).Ok:=by
 unfold DR at h
 split at h
 ·split at h
  ·rename_i x aO rd o' d hop
   exact ⟨[],x,aO,rd,o',[],d,p,hop,.nil,hr,h⟩
  ·exact h.elim
 ·rename_i key q hu
  split at h
  ·exact h.elim
  ·rename_i o ps hk
   split at h
   ·rename_i x aO rd o' ps' d hop
    obtain ⟨h1,h2⟩:=h
    subst h1
    exact ⟨o,x,aO,rd,o',ps',d,q,hop,hΦ _ _ hk,(WX hu).trans hr,h2⟩
   ·exact h.elim
theorem Ju {C:bB} {Yt:YT} (hY:B4 C Yt) {α:Type} {r:α} {K:St→Prop} {k:St→zU→aB α→Tree} (hK:∀ st Φ p,bh Φ→p.run=some r→(k st Φ p).Ok→K st):∀ (items:List aQ) (j X:Nat) (W R:List (Nat×Nat)) (D:List Nat) (st:St) (Φ:zU) (p:aB α),
  bh Φ→p.run=some r→(Jt C Yt Option.none items j X W R D st Φ p k).Ok→nv C items K st
 | [],j,X,W,R,D,st,Φ,p,hΦ,hr,h=>hK st Φ p hΦ hr h
 | it::rest,j,X,W,R,D,st,Φ,p,hΦ,hr,h=>by
  simp only [Jt] at h
  obtain ⟨Φ1,p1,iI,ct,h1⟩:=q9 p hΦ h hr
  obtain ⟨b,D2,p2,hg,bZ,h2⟩:=G1 iI ct h1
  refine Y1 hg (fun hb => ?_) (fun hb => ?_)
  ·subst hb
   obtain ⟨Φ3,p3,lW,dJ,h3⟩:=q9 p2 iI h2 bZ
   unfold DT at h3
   split at h3
   ·obtain ⟨o,x,aO,rd,o',ps,d,q,e1,e2,e4,e5⟩:=G2 lW dJ h3
    exact GB e1 e2 (Ju hY hK rest _ _ _ _ _ _ _ _ lW e4 e5)
   ·rename_i l id args Pt
    obtain ⟨f,cD,hop,hf,rfl⟩:=Ps Pt
    rw [hop]
    simp only [b8,hf,VJ]
    exact hY _ _ _ _ _ _ _ _ _ _ _ lW dJ h3 (fun v h n Φ' p' a1 a2 a3=>Ju hY hK rest _ _ _ _ _ _ _ _ a1 a2 a3)
  ·subst hb
   exact Ju hY hK rest _ _ _ _ _ _ _ _ iI bZ h2
theorem Pu {op:cO} {bV o':List eF} {D:List Nat} {st:St} {X:Nat} {r:AV} {aO:List (Nat×aG)} {rd:List Nat} {ps:List Prop} {d:Nat} {ord:List Nat} {dst:Option Nat} {gd:Option (Nat×Bool)} (hg:qd st.env gd=some true) (h:fX C op bV D (AR (some ord) op X st)=some (r,aO,rd,o',ps,d)) (hp:cI ps) :
  nj C ⟨dst,op,gd⟩ st ⟨dst,r,aO,rd,uQ X d⟩:=by
 unfold AR at h
 simp only at h
 split at h
 ·rename_i hc
  cases op<;>first | (cases hc;done) | skip
  rename_i f args
  simp only [nj,hg]
  simp only [fX] at h
  unfold DF at h
  split at h
  ·rename_i f' first bp hf
   have hf':zd st.env f=.func f' first bp:=hf
   simp only [hf']
   split at h
   ·split at h
    ·rename_i dy hiv
     split at h
     ·rename_i hm;cases h;exact dA.pure (d:=5) hp.one hm hiv
     ·cases h
    ·cases h
   ·split at h
    ·rename_i bT ho
     split at h
     ·rename_i hm
      cases h
      cases hp with
      | cons h1 h2=>exact dA.AJ (d:=5) h1 ho (KR ho) h2.one hm
     ·cases h
    ·cases h
   ·split at h
    ·rename_i bT ho
     split at h
     ·rename_i hm
      cases h
      exact dA.dn hp.one hm ho
     ·cases h
    ·cases h
   ·cases h
  ·cases h
 ·rename_i hc
  obtain ⟨e,hr,rfl⟩:=GA hc h hp
  cases op<;>first | (cases hc;done) | (simp only [nj,hg];exact ⟨e,hr,rfl⟩)
theorem G3 {Yt:YT} {α:Type} {r:α} {K:St→Prop} {ord:List Nat} {k:St→zU→aB α→Tree} (hK:∀ st Φ p,bh Φ→p.run=some r→(k st Φ p).Ok→K st):∀ (items:List aQ) (X:Nat) (W R:List (Nat×Nat)) (D:List Nat) (st:St) (Φ:zU) (p:aB α) (pre:List Rec),
  bh Φ→p.run=some r→(Jt C Yt (some ord) items pre.length X W R D st Φ p k).Ok →
  (∀ (i:Nat) (ri:Rec) (x:Nat),pre[i]?=some ri→x∈zY ri.aO→(i,x)∈W)→(∀ (i:Nat) (ri:Rec) (x:Nat),pre[i]?=some ri→x∈ri.rd→(i,x)∈R) →
  (∀ (i j:Nat) (ri rj:Rec),pre[i]?=some ri→pre[j]?=some rj→i < j→jS ri rj=true→ea ord i j=true) →
  ∃ recs aY M,Qu C items st recs aY∧(∀ (i j:Nat) (ri rj:Rec),(pre++recs)[i]?=some ri→(pre++recs)[j]?=some rj→i < j→jS ri rj=true→ea ord i j=true)∧X≤M ∧
   (∀ rc∈recs,∀ i∈rc.ex,X≤i∧i < M)∧(∀ (k l:Nat) (rk rl:Rec) (i:Nat),recs[k]?=some rk→recs[l]?=some rl→i∈rk.ex→i∈rl.ex→k=l)∧K ⟨aY.env,aY.heap,M⟩
 | [],X,W,R,D,st,Φ,p,pre,hΦ,hr,h,hW,hR,hp=>⟨[],st,X,rfl,by simpa using hp,un _,by simp,by simp,hK _ Φ p hΦ hr h⟩
 | it::rest,X,W,R,D,st,Φ,p,pre,hΦ,hr,h,hW,hR,hp=>by
  simp only [Jt] at h
  obtain ⟨Φ1,p1,iI,ct,h1⟩:=q9 p hΦ h hr
  obtain ⟨b,D2,p2,hg,bZ,h2⟩:=G1 iI ct h1
  obtain ⟨rc,d,W',R',D',q,Φ',eW,ig,hex,hok,tN,G4,Pv,hq,mG⟩:∃ (rc:Rec) (d:Nat) (W' R':List (Nat×Nat)) (D':List Nat) (q:aB α) (Φ':zU),rc.dst=it.dst∧nj C it st rc∧rc.ex=uQ X d∧xn ord pre.length W R (zY rc.aO) rc.rd=true ∧
    (∀ p∈qZ pre.length (zY rc.aO) W,p∈W')∧(∀ p∈qZ pre.length rc.rd R,p∈R')∧bh Φ'∧q.run=some r ∧
    (Jt C Yt (some ord) rest (pre.length+1) (X+d) W' R' D' (st.after it.dst rc.r rc.aO) Φ' q k).Ok:=by
   cases b with
   | false=>
    refine ⟨⟨it.dst,.undef,[],[],[]⟩,0,W,R,_,p2,Φ1,rfl,?_,rfl,OP _ _ _ _,fun p hp=>by simpa [qZ,zY] using hp,fun p hp=>by simpa [qZ] using hp,iI,bZ,h2⟩
    simp only [nj,hg,and_self]
   | true=>
    obtain ⟨Φ3,p3,lW,dJ,h3⟩:=q9 p2 iI h2 bZ
    unfold DT at h3
    split at h3
    case h_2=>exact h3.elim
    obtain ⟨o,x,aO,rd,o',ps,d,q,e1,e2,e4,e5⟩:=G2 lW dJ h3
    unfold B5 at e5
    simp only at e5
    split at e5
    ·rename_i hok
     exact ⟨⟨it.dst,x,aO,rd,uQ X d⟩,d,_,_,_,q,Φ3,rfl,Pu hg e1 e2,rfl,hok,fun p hp=>hp,fun p hp=>hp,lW,e4,e5⟩
    ·exact e5.elim
  have hlen:(pre++[rc]).length=pre.length+1:=by simp
  have split:∀ (i:Nat) (ri:Rec),(pre++[rc])[i]?=some ri→pre[i]?=some ri∨(i=pre.length∧ri=rc):=fun i ri hi=>by
   rw [List.getElem?_append] at hi
   split at hi
   ·exact .inl hi
   ·rename_i hge
    rcases Nat.eq_or_lt_of_le (Nat.le_of_not_lt hge) with e | e
    ·rw [←e] at hi;simp at hi;exact .inr ⟨e.symm,hi.symm⟩
    ·have:i - pre.length≠0:=by omega
     obtain ⟨m,hm⟩:=Nat.exists_eq_succ_of_ne_zero this
     rw [hm] at hi;simp at hi
  obtain ⟨recs,aY,M,h4,h5,h6,h7,h8,h9⟩:=G3 hK rest (X+d) W' R' D' (st.after it.dst rc.r rc.aO) Φ' q (pre++[rc]) Pv hq (by rw [hlen];exact mG)
   (fun i ri x hi hx=>by
    rcases split i ri hi with hi | ⟨rfl,rfl⟩
    ·exact tN _ (uy _ (hW i ri x hi hx))
    ·exact tN _ (ur _ (uO.2 ⟨x,hx,rfl⟩)))
   (fun i ri x hi hx=>by
    rcases split i ri hi with hi | ⟨rfl,rfl⟩
    ·exact G4 _ (uy _ (hR i ri x hi hx))
    ·exact G4 _ (ur _ (uO.2 ⟨x,hx,rfl⟩)))
   (fun i j ri rj hi hj hlt hc=>by
    rcases split j rj hj with hj | ⟨rfl,rfl⟩
    ·rcases split i ri hi with hi | ⟨rfl,rfl⟩
     ·exact hp i j ri rj hi hj hlt hc
     ·have:=(ug.1 hj).1;omega
    ·rcases split i ri hi with hi | ⟨rfl,rfl⟩
     ·simp only [xn,uc,uP] at hok
      simp only [jS,uJ,List.any_eq_true] at hc
      rcases hc with ⟨x,hx,hc⟩ | ⟨x,hx,hc⟩
      ·have:=hok.1 (i,x) (hW i ri x hi hx)
       simp only [uJ,Bool.not_eq_true',Bool.or_eq_false_iff] at this
       rcases this with ⟨h7,h8⟩ | h7
       ·simp only [h7,h8] at hc;simp at hc
       ·exact h7
      ·have:=hok.2 x hx (i,x) (hR i ri x hi (by simpa using hc))
       simpa using this
     ·omega)
  have sK:∀ i,i∈rc.ex→X≤i∧i < X+d:=fun i hi=>by rw [hex,List.mem_range'_1] at hi;omega
  refine ⟨rc::recs,aY,M,⟨eW,ig,h4⟩,?_,by omega,fun r' hr' i hi => ?_,fun k l rk rl i hk hl hik hil => ?_,h9⟩
  ·simpa using h5
  ·rcases ui.1 hr' with rfl | hr'
   ·have:=sK i hi;omega
   ·have:=h7 r' hr' i hi;omega
  ·cases k with
   | zero=>
    simp at hk
    subst hk
    cases l with
    | zero=>rfl
    | succ l=>
     have h10:=h7 rl (ut (by simpa using hl)) i hil
     have:=sK i hik
     omega
   | succ k=>
    cases l with
    | zero=>
     simp at hl
     subst hl
     have h10:=h7 rk (ut (by simpa using hk)) i hik
     have:=sK i hil
     omega
    | succ l=>rw [h8 k l rk rl i (by simpa using hk) (by simpa using hl) hik hil]
theorem Pw {C:bB} {nt:Fr} {Yt:YT} {α:Type} {r:α} {K:Exit→St→Prop} {ord:List Nat} {ks:Option (List Nat)} {k:St→zU→aB α→Tree} (hK:∀ st Φ p,bh Φ→p.run=some r→(k st Φ p).Ok→K .normal (st.keep ks)) {items:List aQ} {st:St} {Φ:zU} {p:aB α}
  (hΦ:bh Φ) (hr:p.run=some r) (h:(Jt C Yt (some ord) items 0 (st.next+items.length) [] [] [] st Φ p k).Ok):cG C nt (.region true ord items ks) K st:=by
 obtain ⟨recs,aY,M,h1,h2,h3,h4,h5,h6⟩:=G3 (C:=C) (K:=fun st=>K .normal (st.keep ks)) hK items (st.next+items.length) [] [] [] st Φ p [] hΦ hr h (by simp) (by simp) (by simp)
 have hl:=Jj h1
 obtain ⟨_,_,hn⟩:=WS items st recs aY 0 (fun _=>true) h1 (fun _ _=>rfl)
 exact WT h1 (WU (by simpa using h2)) ⟨fun k rc i hk hi=>by rw [hl];exact (h4 rc (ut hk) i hi).1,h5⟩ M (by omega) (fun rc hrc i hi=>(h4 rc hrc i hi).2) h6
end
def V0 (m:Nat) (env:List (Nat×AV)) (t:Tree):List (Nat×AV)→Tree
 | []=>t
 | (k,b)::l=>match za env k with
  | some a=>match zR m b with
   | true=>.eq AV a b (V0 m env t l)
   | false=>.bad 1340
  | Option.none=>.bad 1341
def B6 (m:Nat) (heap:List (Nat×aG)) (t:Tree):List (Nat×aG)→Tree
 | []=>t
 | (k,b)::l=>match za heap k with
  | some a=>match Y3 m b&&decide (k < m) with
   | true=>.eq aG a b (B6 m heap t l)
   | false=>.bad 1347
  | Option.none=>.bad 1348
def B7 (heap:List (Nat×aG)) (t:Tree):List (Nat×aG)→Tree
 | []=>t
 | (k,b)::l=>match za heap k with
  | some a=>.eq aG a b (B7 heap t l)
  | Option.none=>.bad 1353
theorem WY {m:Nat} {env:List (Nat×AV)} {t:Tree}:∀ {l:List (Nat×AV)},(V0 m env t l).Ok→t.Ok∧∀ p∈l,za env p.1=some p.2∧zR m p.2=true
 | [],h=>⟨h,fun p hp=>by cases hp⟩
 | (k,b)::l,h=>by
  simp only [V0] at h
  split at h
  ·rename_i a ha
   split at h
   ·rename_i hb
    obtain ⟨rfl,h2⟩:=h
    obtain ⟨h3,h4⟩:=WY h2
    refine ⟨h3,fun p hp => ?_⟩
    rcases ui.1 hp with rfl | hp
    ·exact ⟨ha,hb⟩
    ·exact h4 p hp
   ·exact h.elim
  ·exact h.elim
theorem G5 {m:Nat} {heap:List (Nat×aG)} {t:Tree}:∀ {l:List (Nat×aG)},(B6 m heap t l).Ok→t.Ok∧∀ p∈l,za heap p.1=some p.2∧p.1 < m∧zQ m p.2
 | [],h=>⟨h,fun p hp=>by cases hp⟩
 | (k,b)::l,h=>by
  simp only [B6] at h
  split at h
  ·rename_i a ha
   split at h
   ·rename_i hb
    simp only [uc,decide_eq_true_eq] at hb
    obtain ⟨rfl,h2⟩:=h
    obtain ⟨h3,h4⟩:=G5 h2
    refine ⟨h3,fun p hp => ?_⟩
    rcases ui.1 hp with rfl | hp
    ·exact ⟨ha,hb.2,vU hb.1⟩
    ·exact h4 p hp
   ·exact h.elim
  ·exact h.elim
theorem G6 {heap:List (Nat×aG)} {t:Tree}:∀ {l:List (Nat×aG)},(B7 heap t l).Ok→t.Ok∧∀ p∈l,za heap p.1=some p.2
 | [],h=>⟨h,fun p hp=>by cases hp⟩
 | (k,b)::l,h=>by
  simp only [B7] at h
  split at h
  ·rename_i a ha
   obtain ⟨rfl,h2⟩:=h
   obtain ⟨h3,h4⟩:=G6 h2
   refine ⟨h3,fun p hp => ?_⟩
   rcases ui.1 hp with rfl | hp
   ·exact ha
   ·exact h4 p hp
  ·exact h.elim
def Jv (nx:Nat) (ov e0:List (Nat×AV)) (oh h0:List (Nat×aG)) (st:St) (t:Tree):Tree:=match uH nx st.next with
 | true=>V0 nx st.env (V0 nx st.env (B7 st.heap (B6 nx st.heap t h0) oh) e0) ov
 | false=>.bad 1405
def V1 (nx:Nat) (heap:List (Nat×aG)) (t:Tree):Option (List (List Int))→Tree
 | Option.none=>t
 | some Ls=>match uH 2000000 nx&&yu heap with
  | true=>.eq (List (Nat×aG)) (Qc heap) (wb Ls) t
  | false=>.bad 1406
theorem Px {nx:Nat} {heap:List (Nat×aG)} {t:Tree}:∀ {o:Option (List (List Int))},(V1 nx heap t o).Ok→t.Ok∧∀ p∈Js o,za heap p.1=some p.2∧p.1 < nx∧zQ nx p.2
 | Option.none,h=>⟨h,fun p hp=>by cases hp⟩
 | some Ls,h=>by
  unfold V1 at h
  simp only at h
  split at h
  ·rename_i e
   simp only [uc] at e
   obtain ⟨h1,h2⟩:=h
   refine ⟨h2,fun p hp => ?_⟩
   obtain ⟨a1,a2,a3⟩:=Pp h1 e.2 p hp
   exact ⟨a1,Nat.lt_of_lt_of_le a2 (ua e.1),a3 nx⟩
  ·exact h.elim
theorem K9 {nx:Nat} {ov e0:List (Nat×AV)} {oh h0:List (Nat×aG)} {st:St} {t:Tree} {o:Option (List (List Int))} (hb:cq nx oh) (h:(Jv nx ov e0 oh h0 st (V1 nx st.heap t o)).Ok):t.Ok∧nx≤st.next∧(∀ p∈ov++e0,za st.env p.1=some p.2∧zR nx p.2=true)∧∀ p∈oh++(h0++Js o),za st.heap p.1=some p.2∧p.1 < nx∧zQ nx p.2:=by
 unfold Jv at h
 split at h
 ·rename_i hn
  obtain ⟨h1,a1⟩:=WY h
  obtain ⟨h2,a2⟩:=WY h1
  obtain ⟨h3,a3⟩:=G6 h2
  obtain ⟨h4,a4⟩:=G5 h3
  obtain ⟨h5,a5⟩:=Px h4
  refine ⟨h5,ua hn,fun p hp => ?_,fun p hp => ?_⟩
  ·rcases uz.1 hp with hp | hp
   ·exact a1 p hp
   ·exact a2 p hp
  ·rcases uz.1 hp with hp | hp
   ·exact ⟨a3 p hp,hb.all p hp⟩
   ·rcases uz.1 hp with hp | hp
    ·exact a4 p hp
    ·exact a5 p hp
 ·exact h.elim
theorem WZ {nx:Nat} {ov e0:List (Nat×AV)} {oh h0:List (Nat×aG)} {st:St} {t:Tree} {o:Option (List (List Int))} (hb:cq nx oh) (h:(Jv nx ov e0 oh h0 st (V1 nx st.heap t o)).Ok):t.Ok∧bS st ⟨ov++e0,oh++(h0++Js o),nx⟩:=by
 obtain ⟨h1,h2,h3,h4⟩:=K9 hb h
 exact ⟨h1,XX h2 h3 h4⟩
def Spec.cA {β:Type} (sp:Spec β) (cK st:St) (b:β) (t:Tree):Tree:=Jv sp.nx (sp.ov b) (qC sp.ks cK.env) (sp.oh b) (VY sp.hs cK.heap) st (V1 sp.nx st.heap t (sp.ns b))
theorem Spec.gI {β:Type} {sp:Spec β} {cK st:St} {b:β} {t:Tree} (h:(sp.cA cK st b t).Ok):t.Ok∧bS st (sp.st cK b):=WZ (sp.BZ b) h
def Spec.nw {β:Type} (sp:Spec β) (cK st:St) (idx:Nat) (v:AV) (b:β) (t:Tree):Tree:=match za st.env idx with
 | some a=>.eq AV a v (sp.cA cK st b t)
 | Option.none=>.bad 1430
theorem Spec.lX {β:Type} {sp:Spec β} {cK st:St} {idx:Nat} {n:Int} {v:AV} {b:β} {t:Tree} (hv:v=vI n) (h:(sp.nw cK st idx v b t).Ok):t.Ok∧bS st (sp.fk cK idx n b):=by
 unfold Spec.nw at h
 split at h
 ·rename_i a ha
  obtain ⟨rfl,h1⟩:=h
  obtain ⟨h4,hn,a1,a3⟩:=K9 (sp.BZ b) h1
  refine ⟨h4,XX hn (fun p hp => ?_) a3⟩
  rcases ui.1 hp with rfl | hp
  ·exact ⟨by rw [ha,hv],rfl⟩
  ·exact a1 p hp
 ·exact h.elim
end
section
def aB.dec {α:Type} (p:aB α):aB α:=match p with
 | .cut (n+1) sp q k=>.cut n sp q k
 | .eu (n+1) sp q k=>.eu n sp q k
 | .cA (n+1) w q=>.cA n w q
 | .tM (n+1) m q=>.tM n m q
 | p=>p
theorem X6 {α:Type} (p:aB α):p.dec.run=p.run:=by
 unfold aB.dec;split<;>rfl
def aB.enter {α:Type} (p:aB α):aB α:=match p with
 | .aC 0 q=>q
 | .aC (n+1) q=>.aC n q
 | p=>p
theorem G7 {α:Type} (p:aB α):p.enter.run=p.run:=by
 unfold aB.enter;split<;>rfl
abbrev KT (α:Type):=Exit→St→zU→aB α→Tree
abbrev CT:=(α:Type)→St→zU→aB α→KT α→Tree
noncomputable def G8 {β:Type} (sp:Spec β) (cK:St):KT β:=fun e s Φ q=>match e with
 | .normal=>settle q Φ fun _ q=>match q with
  | .ret b=>sp.cA cK s b .tt
  | _=>.bad 2034
 | _=>.bad 2035
noncomputable def G9 {α β γ:Type} (sp:Spec β) (cK:St) (kk:β ⊕ γ→aB α) (k:KT α):KT (β ⊕ γ):=fun e s Φ q=>settle q Φ fun Φ q=>match e with
 | .normal=>match q with
  | .ret (.inl b)=>sp.cA cK s b .tt
  | _=>.bad 2039
 | e=>match q with
  | .ret (.inr c)=>k e s Φ (kk (.inr c))
  | _=>.bad 2042
noncomputable def ZE (go:CT):CT:=fun α st Φ p k=>.step (settle p Φ fun Φ p=>match p with
 | .cut (β:=β) 0 sp q kk=>match uH st.next sp.nx with
  | true=>.and (go β st Φ q (G8 sp st)) (.all β fun b=>k .normal (sp.st st b) Φ (kk b))
  | false=>.bad 2048
 | .eu (β:=β) (γ:=γ) 0 sp q kk=>match uH st.next sp.nx with
  | true=>.and (go (β ⊕ γ) st Φ q (G9 sp st kk k)) (.all β fun b=>k .normal (sp.st st b) Φ (kk (.inl b)))
  | false=>.bad 2051
 | p=>go α st Φ p k)
def DU:List eM→St→(St→Tree)→Tree
 | [],st,f=>f st
 | w::ws,st,f=>w.T st (DU ws (w.to st) f)
noncomputable def jg (go:CT):CT:=fun α st Φ p k=>settle p Φ fun Φ p=>match p with
 | .cA 0 ws q=>DU ws st fun st=>go α st Φ q k
 | p=>go α st Φ p k
noncomputable def DV {α σ ρ:Type} (kk:ρ→aB α) (W:St→σ→Tree) (k:KT α):KT (σ ⊕ ρ):=fun e s Φ q=>settle q Φ fun Φ q=>match e with
 | .normal=>match q with
  | .ret (.inl s')=>W s s'
  | _=>.bad 2063
 | e=>match q with
  | .ret (.inr y)=>k e s Φ (kk y)
  | _=>.bad 2066
noncomputable def He (c:cy) (go:CT):CT:=fun α st Φ p k=>settle p Φ fun Φ p=>match p with
 | .tM 0 m kk=>m.T c st fun b s=>k .normal s Φ (kk b)
 | p=>go α st Φ p k
variable (C:Ctx)
abbrev GT:=Bool→YT→CT
noncomputable def lD (gJ:aZ→List Nat→GT→GT→CT):cy→GT
 | .skip=>fun pl Yt=>jg <| ZE <| jg fun α st Φ p k=>k .normal st Φ p
 | .region d o items ks=>fun pl Yt=>He (.region d o items ks) <| jg <| ZE <| jg fun α st Φ p k=>Jt C Yt (match d with | true=>some o | false=>Option.none) items 0 (st.next+items.length) [] [] [] st Φ p.enter fun s Φ p=>k .normal (s.keep ks) Φ p
 | .seq x y=>fun pl Yt=>jg <| ZE <| jg fun α st Φ p k=>lD gJ x pl Yt α st Φ p.dec fun e s Φ q=>match e with
  | .normal=>lD gJ y pl Yt α s Φ q k
  | e=>k e s Φ q
 | .cond c x y=>fun pl Yt=>jg <| ZE <| jg fun α st Φ p k=>match zd st.env c with
  | .ax (.bool b)=>match p.used 999 with
   | some (key,q)=>match za Φ key with
    | some ([.g true],ps)=>.eq (List Prop) ps [b=true] (lD gJ x pl Yt α st Φ q k)
    | some ([.g false],ps)=>.eq (List Prop) ps [b=false] (lD gJ y pl Yt α st Φ q k)
    | _=>.bad 2083
   | Option.none=>match b with
    | true=>lD gJ x pl Yt α st Φ p k
    | false=>lD gJ y pl Yt α st Φ p k
  | _=>.bad 2087
 | .block id x=>fun pl Yt=>jg <| ZE <| jg fun α st Φ p k=>lD gJ x pl Yt α st Φ p.dec fun e s Φ q=>match e with
  | .exit i=>match uv i id with
   | true=>k .normal s Φ q
   | false=>k (.exit i) s Φ q
  | e=>k e s Φ q
 | .scope x=>fun pl Yt=>jg <| ZE <| jg fun α st Φ p k=>match pl with
  | true=>lD gJ x pl Yt α st Φ p.dec fun e s Φ q=>match e with
   | .goto _=>.bad 2095
   | e=>k e s Φ q
  | false=>.bad 2097
 | .exit id=>fun pl Yt=>jg <| ZE <| jg fun α st Φ p k=>k (.exit id) st Φ p
 | .ret=>fun pl Yt=>jg <| ZE <| jg fun α st Φ p k=>k .ret st Φ p
 | .range f ps x y=>fun pl Yt=>jg <| ZE <| jg fun α st Φ p k=>match pl with
  | true=>gJ f ps (lD gJ x) (lD gJ y) α st Φ p.dec k
  | false=>.bad 2102
 | .loop x=>fun pl Yt=>jg <| ZE <| jg fun α st Φ p k=>match p with
  | .aH (σ:=σ) (ρ:=ρ) key idx n s0 sp body kk=>match uv sp.nx st.next with
   | true=>.and (sp.nw st st idx (vI 0) s0 .tt) (.and
    (.all Nat fun i=>.all σ fun s=>lD gJ x pl Yt (σ ⊕ ρ) (sp.fk st idx (i:Int) s) ((key,([.g true],[decide ((i:Int) < n)=true]))::(key+1,([.g false],[(!decide ((i:Int) < n))=false]))::Φ) (body i s) (DV (fun y=>kk (.inr y)) (fun aY s'=>sp.nw st aY idx (vI (IntKind.i64.wrap ((i:Int)+1))) s' .tt) k))
    (.all Nat fun i=>.all σ fun s=>lD gJ x pl Yt α (sp.fk st idx (i:Int) s) ((key,([.g false],[decide ((i:Int) < n)=false]))::(key+1,([.g true],[(!decide ((i:Int) < n))=true]))::Φ) (kk (.inl s)) fun e s Φ q=>match e with
     | .normal=>.bad 2108
     | e=>k e s Φ q))
   | false=>.bad 2110
  | .iter (σ:=σ) (ρ:=ρ) s0 sp body kk=>match uv sp.nx st.next with
   | true=>.and (sp.cA st st s0 .tt) (.all σ fun s=>lD gJ x pl Yt (σ ⊕ ρ) (sp.st st s) Φ (body s) (DV kk (fun aY s'=>sp.cA st aY s' .tt) k))
   | false=>.bad 2113
  | _=>.bad 2114
variable {C:bB} {nt:Fr}
def Qd (C:bB) (nt:Fr) (c:cy) (go:CT):Prop:=∀ {α:Type} {r:α} (st:St) (Φ:zU) (p:aB α) (k:KT α) (K:Exit→St→Prop),bh Φ→p.run=some r→(go α st Φ p k).Ok →
 (∀ e s Φ q,bh Φ→q.run=some r→(k e s Φ q).Ok→K e s)→cG C nt c K st
theorem W0 {x:cy} {K:Exit→St→Prop} {st:St} (ST:St) (hn:st.next≤ST.next) (hK:K .normal ST) (hx:cG C nt x (vR (fun s=>bS s ST) K) st):cG C nt x K st:=by
 intro code hc g a w R hI
 refine Code.wpIn_mono ?_ (hx code hc g a w R hI)
 rintro e a' w' ⟨aY,g',hk,R',E'⟩
 cases e with
 | normal=>
  obtain ⟨g2,R2,Dh⟩:=hk C nt g' a' w' R'
  exact ⟨ST,g2,hK,R2,Dh g st w hn E'⟩
 | _=>exact ⟨aY,g',hk,R',E'⟩
theorem jh {c:cy} {go:CT} (h:Qd C nt c go):Qd C nt c (ZE go):=by
 intro α r st Φ p k K hΦ hr hok hk
 obtain ⟨Φ1,p1,iI,ct,h1⟩:=q9 p hΦ hok hr
 split at h1
 ·rename_i β sp q kk
  split at h1
  ·rename_i hn
   obtain ⟨b,sG,lg⟩:=xh (show uj q.run (fun b=>(kk b).run)=some r from ct)
   refine W0 (sp.st st b) (ua hn) (hk _ _ _ _ iI lg (h1.2 b)) ?_
   refine h st Φ1 q (G8 sp st) _ iI sG h1.1 ?_
   intro e s Φ2 q2 gw bZ h2
   cases e with
   | normal=>
    obtain ⟨Φ3,q3,lW,dJ,h3⟩:=q9 q2 gw h2 bZ
    split at h3
    ·cases dJ;exact (Spec.gI h3).2
    ·exact h3.elim
   | _=>exact h2.elim
  ·exact h1.elim
 ·rename_i β γ sp q kk
  split at h1
  ·rename_i hn
   obtain ⟨d,iF,hd2⟩:=xh (show uj q.run (fun b=>(kk b).run)=some r from ct)
   have key:∀ (e:Exit) (s:St) (Φ2:zU) (q2:aB (β ⊕ γ)),bh Φ2→q2.run=some d→(G9 sp st kk k e s Φ2 q2).Ok→(∃ b,d=.inl b∧e=.normal∧bS s (sp.st st b))∨(e≠.normal∧(∃ y,d=.inr y)∧K e s):=by
    intro e s Φ2 q2 gw bZ h2
    obtain ⟨Φ3,q3,lW,dJ,h3⟩:=q9 q2 gw h2 bZ
    split at h3
    ·split at h3
     ·rename_i b;exact .inl ⟨b,(Option.some.inj dJ).symm,rfl,(Spec.gI h3).2⟩
     ·exact h3.elim
    ·rename_i hne
     split at h3
     ·rename_i y
      have:d=.inr y:=(Option.some.inj dJ).symm
      subst this
      exact .inr ⟨hne,⟨y,rfl⟩,hk _ _ _ _ lW hd2 h3⟩
     ·exact h3.elim
   cases d with
   | inl b=>
    refine W0 (sp.st st b) (ua hn) (hk _ _ _ _ iI hd2 (h1.2 b)) ?_
    refine h st Φ1 q _ _ iI iF h1.1 ?_
    intro e s Φ2 q2 gw bZ h2
    rcases key e s Φ2 q2 gw bZ h2 with ⟨b',e1,rfl,e3⟩ | ⟨_,⟨y,e1⟩,_⟩
    ·cases e1;exact e3
    ·cases e1
   | inr y=>
    refine h st Φ1 q _ _ iI iF h1.1 ?_
    intro e s Φ2 q2 gw bZ h2
    rcases key e s Φ2 q2 gw bZ h2 with ⟨b',e1,_,_⟩ | ⟨_,_,e3⟩
    ·cases e1
    ·exact e3
  ·exact h1.elim
 ·exact h st Φ1 p1 k K iI ct h1 hk
theorem Hf {c:cy} {K:Exit→St→Prop} {f:St→Tree}:∀ (ws:List eM) (st:St),(DU ws st f).Ok→(∀ aY,(f aY).Ok→cG C nt c K aY)→cG C nt c K st
 | [],st,h,hf=>hf st h
 | w::ws,st,h,hf=>by
  obtain ⟨h1,h2,h3⟩:=w.ok _ _ h
  exact Zw h2 h3 (Hf ws _ h1 hf)
theorem zS {c:cy} {go:CT} (h:Qd C nt c go):Qd C nt c (jg go):=by
 intro α r st Φ p k K hΦ hr hok hk
 obtain ⟨Φ1,p1,iI,ct,h1⟩:=q9 p hΦ hok hr
 split at h1
 ·rename_i ws q
  exact Hf ws st h1 fun aY h2=>h aY Φ1 q k K iI ct h2 hk
 ·exact h _ _ _ k K iI ct h1 hk
theorem Py {c:cy} {go:CT} (h:Qd C nt c go):Qd C nt c (He c go):=by
 intro α r st Φ p k K hΦ hr hc hk
 obtain ⟨Φ1,p1,iI,ct,h1⟩:=q9 p hΦ hc hr
 split at h1
 ·rename_i m kk
  have DW:uj m.x (fun b=>(kk b).run)=some r:=ct
  obtain ⟨b,hb,bZ⟩:=xh DW
  exact m.ok C nt c st _ K b hb h1 fun s hs=>hk _ _ _ _ iI bZ hs
 ·exact h st Φ1 _ k K iI ct h1 hk
theorem Hg {α σ ρ:Type} {kk:ρ→aB α} {W:St→σ→Tree} {k:KT α} {o:σ ⊕ ρ} {e:Exit} {s:St} {Φ:zU} {q:aB (σ ⊕ ρ)} (hΦ:bh Φ) (hr:q.run=some o) (h:(DV kk W k e s Φ q).Ok) :
  (e=.normal∧∃ s',o=.inl s'∧(W s s').Ok)∨(e≠.normal∧∃ y Φ',o=.inr y∧bh Φ'∧(k e s Φ' (kk y)).Ok):=by
 obtain ⟨Φ3,q3,lW,dJ,h3⟩:=q9 q hΦ h hr
 split at h3
 ·split at h3
  ·rename_i s';exact .inl ⟨rfl,s',(Option.some.inj dJ).symm,h3⟩
  ·exact h3.elim
 ·rename_i hne
  split at h3
  ·rename_i y;exact .inr ⟨hne,y,Φ3,(Option.some.inj dJ).symm,lW,h3⟩
  ·exact h3.elim
def DX (C:Ctx) (c:cy) (go:GT):Prop:=∀ (ro:Option Nat) (eP:Option (Gh×St×World)) Y ym yk (pl:Bool) (Yt:YT) (nt:Fr),(pl=true→ro=none)→B4 ⟨C,ro,eP,Y,ym,yk⟩ Yt→Qd ⟨C,ro,eP,Y,ym,yk⟩ nt c (go pl Yt)
def DY (C:Ctx) (gJ:aZ→List Nat→GT→GT→CT):Prop:=∀ (f:aZ) (ps:List Nat) (x y:cy) (gx gy:GT),DX C x gx→DX C y gy →
 ∀ (eP:Option (Gh×St×World)) Y ym yk (nt:Fr),Qd ⟨C,none,eP,Y,ym,yk⟩ nt (.range f ps x y) (gJ f ps gx gy)
theorem qv {C:Ctx} {gJ:aZ→List Nat→GT→GT→CT} (hG:DY C gJ):∀ c:cy,DX C c (lD C gJ c)
 | .skip=>fun ro eP Y ym yk pl Yt nt dK hY=>zS <| jh <| zS fun st Φ p k K hΦ hr h hk=>Jg (hk _ _ _ _ hΦ hr h)
 | .region d o items ks=>fun ro eP Y ym yk pl Yt nt dK hY=>Py <| zS <| jh <| zS fun st Φ p k K hΦ hr h hk=>by
  cases d with
  | false=>exact QD (Ju hY (K:=ZA ks K) (fun s Φ q h1 h2 h3=>hk _ _ _ _ h1 h2 h3) items 0 _ [] [] [] st Φ p.enter hΦ ((G7 p).trans hr) h)
  | true=>exact Pw (fun s Φ q h1 h2 h3=>hk _ _ _ _ h1 h2 h3) hΦ ((G7 p).trans hr) h
 | .seq x y=>fun ro eP Y ym yk pl Yt nt dK hY=>zS <| jh <| zS fun st Φ p k K hΦ hr h hk=>by
  refine qL (qv hG x ro eP Y ym yk pl Yt nt dK hY st Φ p.dec _ _ hΦ ((X6 p).trans hr) h ?_)
  intro e s Φ2 q2 gw bZ h2
  cases e with
  | normal=>exact qv hG y ro eP Y ym yk pl Yt nt dK hY s Φ2 q2 k K gw bZ h2 hk
  | _=>exact hk _ _ _ _ gw bZ h2
 | .cond c x y=>fun ro eP Y ym yk pl Yt nt dK hY=>zS <| jh <| zS fun st Φ p k K hΦ hr h hk=>by
  split at h
  ·rename_i b hc
   split at h
   ·rename_i key q hu
    have hq:=(WX hu).trans hr
    split at h
    ·rename_i ps hf
     obtain ⟨h1,h2⟩:=h
     have hb:b=true:=by have:=hΦ _ _ hf;simp only [h1] at this;exact this.one
     exact xC b hc (fun _=>qv hG x ro eP Y ym yk pl Yt nt dK hY st Φ q k K hΦ hq h2 hk) (fun e=>by rw [hb] at e;cases e)
    ·rename_i ps hf
     obtain ⟨h1,h2⟩:=h
     have hb:b=false:=by have:=hΦ _ _ hf;simp only [h1] at this;exact this.one
     exact xC b hc (fun e=>by rw [hb] at e;cases e) (fun _=>qv hG y ro eP Y ym yk pl Yt nt dK hY st Φ q k K hΦ hq h2 hk)
    ·exact h.elim
   ·split at h
    ·exact xC true hc (fun _=>qv hG x ro eP Y ym yk pl Yt nt dK hY st Φ p k K hΦ hr h hk) (fun e=>by cases e)
    ·exact xC false hc (fun e=>by cases e) (fun _=>qv hG y ro eP Y ym yk pl Yt nt dK hY st Φ p k K hΦ hr h hk)
  ·exact h.elim
 | .block id x=>fun ro eP Y ym yk pl Yt nt dK hY=>zS <| jh <| zS fun st Φ p k K hΦ hr h hk=>by
  refine Z7 (qv hG x ro eP Y ym yk pl Yt nt dK hY st Φ p.dec _ _ hΦ ((X6 p).trans hr) h ?_)
  intro e s Φ2 q2 gw bZ h2
  cases e with
  | exit i=>
   have h2:(match uv i id with
    | true=>k .normal s Φ2 q2
    | false=>k (.exit i) s Φ2 q2).Ok:=h2
   simp only [xS]
   cases hb:uv i id with
   | true=>rw [hb] at h2;rw [if_pos (uo hb)];exact hk _ _ _ _ gw bZ h2
   | false=>
    rw [hb] at h2
    rw [if_neg (fun e=>by subst e;rw [uX] at hb;cases hb)]
    exact hk _ _ _ _ gw bZ h2
  | _=>exact hk _ _ _ _ gw bZ h2
 | .scope x=>fun ro eP Y ym yk pl Yt nt dK hY=>zS <| jh <| zS fun st Φ p k K hΦ hr h hk=>by
  split at h
  ·refine KL (dK rfl) (qv hG x ro eP Y ym yk true Yt nt dK hY st Φ p.dec _ _ hΦ ((X6 p).trans hr) h ?_)
   intro e s Φ2 q2 gw bZ h2
   cases e with
   | goto l=>exact h2.elim
   | _=>exact hk _ _ _ _ gw bZ h2
  ·exact h.elim
 | .range f ps x y=>fun ro eP Y ym yk pl Yt nt dK hY=>zS <| jh <| zS fun st Φ p k K hΦ hr h hk=>by
  split at h
  ·have:=dK rfl
   subst this
   exact hG f ps x y _ _ (qv hG x) (qv hG y) eP Y ym yk nt st Φ p.dec k K hΦ ((X6 p).trans hr) h hk
  ·exact h.elim
 | .exit id=>fun ro eP Y ym yk pl Yt nt dK hY=>zS <| jh <| zS fun st Φ p k K hΦ hr h hk=>WQ (hk _ _ _ _ hΦ hr h)
 | .ret=>fun ro eP Y ym yk pl Yt nt dK hY=>zS <| jh <| zS fun st Φ p k K hΦ hr h hk=>YQ (hk _ _ _ _ hΦ hr h)
 | .loop x=>fun ro eP Y ym yk pl Yt nt dK hY=>zS <| jh <| zS fun {α} {r} st Φ p k K hΦ hr h hk=>by
  split at h
  ·rename_i σ ρ key idx n s0 sp body kk
   split at h
   ·rename_i nW
    have nW:sp.nx=st.next:=uo nW
    obtain ⟨h1,h2,h3⟩:=h
    obtain ⟨out,ho,hq⟩:=xh (show uj (aH n (fun i s=>(body i s).run) s0) (fun o=>(kk o).run)=some r from hr)
    refine On ho (fun i s=>(sp.fk st idx (i:Int) s).env) (fun i s=>(sp.fk st idx (i:Int) s).heap) ?_ ?_ ?_
    ·have:=(Spec.lX (n:=((0:Nat):Int)) rfl h1).2
     simp only [Spec.fk,nW] at this ⊢
     exact this
    ·intro i s o hi hw hb
     have hst:(⟨(sp.fk st idx (i:Int) s).env,(sp.fk st idx (i:Int) s).heap,st.next⟩:St)=sp.fk st idx (i:Int) s:=by simp only [Spec.fk,nW]
     rw [hst]
     refine qv hG x ro eP Y ym yk pl Yt nt dK hY _ _ (body i s) _ _ ((hΦ.add (f:=([.g false],[(!decide ((i:Int) < n))=false])) (.cons (by rw [decide_eq_true hi];rfl) .nil)).add (f:=([.g true],[decide ((i:Int) < n)=true])) (.cons (decide_eq_true hi) .nil)) hb (h2 i s) ?_
     intro e s2 Φ2 q2 gw bZ h4
     rcases Hg gw bZ h4 with ⟨rfl,s',rfl,h5⟩ | ⟨hne,y,Φ3,rfl,lW,h5⟩
     ·refine ⟨s',rfl,?_⟩
      have:=(Spec.lX (n:=((i+1:Nat):Int)) (by rw [hw];rfl) h5).2
      simp only [Spec.fk,nW] at this ⊢
      exact this
     ·have:∀ (K':Exit→St→Prop),(∃ y',(Sum.inr y:σ ⊕ ρ)=.inr y'∧(out=.inr y'→K e s2))→BN (fun s=>⟨(sp.fk st idx ((i+1:Nat):Int) s).env,(sp.fk st idx ((i+1:Nat):Int) s).heap,st.next⟩) K out (.inr y) e s2:=fun _ hh=>by
       cases e with
       | normal=>exact absurd rfl hne
       | _=>exact hh
      refine this K ⟨y,rfl,fun hout => ?_⟩
      subst hout
      exact hk _ _ _ _ lW hq h5
    ·intro m s hm hout
     subst hout
     have hst:(⟨(sp.fk st idx (m:Int) s).env,(sp.fk st idx (m:Int) s).heap,st.next⟩:St)=sp.fk st idx (m:Int) s:=by simp only [Spec.fk,nW]
     rw [hst]
     refine qv hG x ro eP Y ym yk pl Yt nt dK hY _ _ (kk (.inl s)) _ _ ((hΦ.add (f:=([.g true],[(!decide ((m:Int) < n))=true])) (.cons (by rw [decide_eq_false hm];rfl) .nil)).add (f:=([.g false],[decide ((m:Int) < n)=false])) (.cons (decide_eq_false hm) .nil)) hq (h3 m s) ?_
     intro e s2 Φ2 q2 gw bZ h4
     cases e with
     | normal=>exact h4.elim
     | _=>exact hk _ _ _ _ gw bZ h4
   ·exact h.elim
  ·rename_i σ ρ s0 sp body kk
   split at h
   ·rename_i nW
    have nW:sp.nx=st.next:=uo nW
    obtain ⟨h1,h2⟩:=h
    obtain ⟨out,ho,hq⟩:=xh (show uj (iter (fun s=>(body s).run) s0) (fun o=>(kk o).run)=some r from hr)
    have hst:∀ s,(⟨(sp.st st s).env,(sp.st st s).heap,st.next⟩:St)=sp.st st s:=fun s=>by simp only [Spec.st,nW]
    refine Oq ho (fun s=>(sp.st st s).env) (fun s=>(sp.st st s).heap) ?_ ?_
    ·rw [hst];exact (Spec.gI h1).2
    ·intro s o hb
     rw [hst]
     refine qv hG x ro eP Y ym yk pl Yt nt dK hY _ _ (body s) _ _ hΦ hb (h2 s) ?_
     intro e s2 Φ2 q2 gw bZ h4
     rcases Hg gw bZ h4 with ⟨rfl,s',rfl,h5⟩ | ⟨hne,y,Φ3,rfl,lW,h5⟩
     ·refine ⟨s',rfl,?_⟩
      show bS s2 ⟨(sp.st st s').env,(sp.st st s').heap,st.next⟩
      rw [hst];exact (Spec.gI h5).2
     ·have:(∃ y',(Sum.inr y:σ ⊕ ρ)=.inr y'∧((Sum.inr out:σ ⊕ ρ)=.inr y'→K e s2))→BN (fun s=>⟨(sp.st st s).env,(sp.st st s).heap,st.next⟩) K (.inr out) (.inr y) e s2:=fun hh=>by
       cases e with
       | normal=>exact absurd rfl hne
       | _=>exact hh
      refine this ⟨y,rfl,fun hout => ?_⟩
      cases hout
      exact hk _ _ _ _ lW hq h5
   ·exact h.elim
  ·exact h.elim
end
section
def X7 (n:Nat):Nat:=Nat.shiftLeft 1 n
def Hh (m n:Nat):Bool:=uv (Nat.land 1 (Nat.shiftRight m n)) 1
def QH:aZ→Nat
 | .t n=>X7 n
 | .c _=>0
 | .m n _=>X7 n
def W2:List aZ→Nat
 | []=>0
 | x::r=>ue (QH x) (W2 r)
def Y8 (it:aQ):Nat:=match it.guard with
 | none=>W2 (qb it.op)
 | some (t,_)=>ue (X7 t) (W2 (qb it.op))
def Pz (m n:Nat):Nat:=match Hh m n with
 | true=>Nat.sub m (X7 n)
 | false=>m
def Xr (out:Nat):List aQ→Nat
 | []=>out
 | it::rest=>match it.guard,it.dst with
  | none,some d=>ue (Y8 it) (Pz (Xr out rest) d)
  | _,_=>ue (Y8 it) (Xr out rest)
def Hi:List aQ→Nat
 | []=>0
 | it::rest=>ue (Y8 it) (Hi rest)
def wT:cy→Nat
 | .region _ _ items _=>Hi items
 | .seq x y=>ue (wT x) (wT y)
 | .cond c x y=>ue (QH c) (ue (wT x) (wT y))
 | .block _ x | .loop x | .scope x=>wT x
 | .range f _ x y=>ue (QH f) (ue (wT x) (wT y))
 | _=>0
def Hj (ex:List (Nat×Nat)) (id:Nat):Nat:=match ex with
 | []=>0
 | (k,v)::r=>match uv k id with
  | true=>v
  | false=>Hj r id
def B8:List (Nat×Nat)→Nat
 | []=>0
 | (_,v)::r=>ue v (B8 r)
def W3 (ret:Nat):cy→Nat→List (Nat×Nat)→Nat
 | .skip,out,_=>out
 | .region _ _ items _,out,_=>Xr out items
 | .seq x y,out,ex=>W3 ret x (W3 ret y out ex) ex
 | .cond c x y,out,ex=>ue (QH c) (ue (W3 ret x out ex) (W3 ret y out ex))
 | .block id x,out,ex=>W3 ret x out ((id,out)::ex)
 | .loop x,out,ex=>ue ret (ue (wT x) (B8 ex))
 | .scope x,out,ex=>W3 ret x out ex
 | .exit id,_,ex=>Hj ex id
 | .ret,_,_=>ret
 | .range f _ x y,out,ex=>ue (ue ret out) (ue (QH f) (ue (ue (wT x) (wT y)) (B8 ex)))
def W4 (m:Nat):Nat→List Nat
 | 0=>[]
 | n+1=>match Hh m n with
  | true=>n::W4 m n
  | false=>W4 m n
def fG (nt ret:Nat):cy→Nat→List (Nat×Nat)→cy
 | .skip,_,_=>.skip
 | .region d o items _,out,_=>.region d o items (some (W4 out nt))
 | .seq x y,out,ex=>.seq (fG nt ret x (W3 ret y out ex) ex) (fG nt ret y out ex)
 | .cond c x y,out,ex=>.cond c (fG nt ret x out ex) (fG nt ret y out ex)
 | .block id x,out,ex=>.block id (fG nt ret x out ((id,out)::ex))
 | .loop x,out,ex=>.loop (fG nt ret x (ue ret (ue (wT x) (B8 ex))) ex)
 | .scope x,out,ex=>.scope (fG nt ret x out ex)
 | .exit id,_,_=>.exit id
 | .ret,_,_=>.ret
 | .range f ps x y,out,ex=>.range f ps (fG nt ret x (wT y) ex) (fG nt ret y 0 ex)
theorem jH (nt ret:Nat):∀ (c:cy) (out:Nat) (ex:List (Nat×Nat)),(fG nt ret c out ex).erase=c.erase
 | .skip,_,_=>rfl
 | .region _ _ _ _,_,_=>rfl
 | .seq x y,out,ex=>by simp only [fG,cy.erase,jH nt ret x,jH nt ret y]
 | .cond c x y,out,ex=>by simp only [fG,cy.erase,jH nt ret x,jH nt ret y]
 | .block id x,out,ex=>by simp only [fG,cy.erase,jH nt ret x]
 | .loop x,out,ex=>by simp only [fG,cy.erase,jH nt ret x]
 | .scope x,out,ex=>by simp only [fG,cy.erase,jH nt ret x]
 | .exit id,_,_=>rfl
 | .ret,_,_=>rfl
 | .range f ps x y,out,ex=>by simp only [fG,cy.erase,jH nt ret x,jH nt ret y]
theorem ji (C:Ctx) (nt:Nat):∀ (code:Code) (ac:cy),comp C nt code=some ac→ac.erase=ac
 | .skip,ac,h=>by simp only [comp] at h;cases h;rfl
 | .region _ ops draw,ac,h=>by
  simp only [comp] at h
  split at h
  ·split at h
   ·split at h
    ·cases h;rfl
    ·cases h
   ·cases h;rfl
  ·cases h
 | .seq a b,ac,h=>by
  simp only [comp] at h
  split at h
  ·rename_i x y hx hy;cases h;simp only [cy.erase,ji C nt a x hx,ji C nt b y hy]
  ·cases h
 | .cond c a b,ac,h=>by
  simp only [comp] at h
  split at h
  ·rename_i x y hx hy;cases h;simp only [cy.erase,ji C nt a x hx,ji C nt b y hy]
  ·cases h
 | .block id a,ac,h=>by
  simp only [comp] at h
  split at h
  ·rename_i x hx;cases h;simp only [cy.erase,ji C nt a x hx]
  ·cases h
 | .loop a,ac,h=>by
  simp only [comp] at h
  split at h
  ·rename_i x hx;cases h;simp only [cy.erase,ji C nt a x hx]
  ·cases h
 | .scope a,ac,h=>by
  simp only [comp] at h
  split at h
  ·rename_i x hx;cases h;simp only [cy.erase,ji C nt a x hx]
  ·cases h
 | .label _,ac,h=>by simp only [comp] at h;cases h;rfl
 | .exit id,ac,h=>by simp only [comp] at h;cases h;rfl
 | .ret,ac,h=>by simp only [comp] at h;cases h;rfl
 | .rangeFunc _ ps a b,ac,h=>by
  simp only [comp] at h
  split at h
  ·split at h
   ·rename_i x y hx hy;cases h;simp only [cy.erase,ji C nt a x hx,ji C nt b y hy]
   ·cases h
  ·cases h
 | .goto _,ac,h=>by simp only [comp] at h;cases h
 | .refuse _,ac,h=>by simp only [comp] at h;cases h
theorem PA {C:Ctx} {f:Nat} {F:dz} (h:qo C f=some F):F.erase=F:=by
 unfold qo at h
 split at h
 ·split at h
  ·split at h
   ·rename_i ac rs hac rW
    split at h
    ·cases h
    ·cases h;simp only [dz.erase,ji C _ _ _ hac]
   ·cases h
  ·cases h
 ·cases h
def X8:List dL→Nat
 | []=>0
 | .tmp t::r=>ue (X7 t) (X8 r)
 | .cell t _ _::r=>ue (X7 t) (X8 r)
def dz.fG (F:dz):dz:={F with body:=Go.Proofs.YtgpojcfkanjabaaGreatDoor.fG F.nt (X8 F.results) F.body (X8 F.results) []}
theorem W5 {C:Ctx} {f:Nat} {F:dz} (h:qo C f=some F):qo C f=some F.fG.erase:=by
 rw [h]
 have:=PA h
 simp only [dz.erase] at this
 simp only [dz.fG,dz.erase,jH]
 rw [this]
def Hl:aZ→List Nat→GT→GT→CT:=fun _ _ _ _ _ _ _ _ _=>.bad 3161
theorem PB (C:Ctx):DY C Hl:=fun _ _ _ _ _ _ _ _ _ _ _ _ _ {_} {_} _ _ _ _ _ _ _ h _=>h.elim
def V2 (o:Option aG) (o':aG) (t:Tree):Tree:=match o with
 | some x=>.eq aG x o' t
 | none=>.bad 3167
theorem W6 {o:Option aG} {o':aG} {t:Tree} (h:(V2 o o' t).Ok):o=some o'∧t.Ok:=by
 unfold V2 at h
 split at h
 ·obtain ⟨rfl,h2⟩:=h;exact ⟨rfl,h2⟩
 ·exact h.elim
noncomputable def PC {α:Type} (dD L:Nat) (R:LoopState→Option Code→Loop) (k:AV→List (Nat×aG)→Nat→zU→aB α→Tree):KT α:=fun e s Φ q=>V2 (za s.heap dD) (.lp L R .busy none) (match e with
 | .normal=>k (.ax (.bool true)) (zo s.heap dD (.lp L R .ready none)) (s.next+1) Φ q
 | .ret=>k (.ax (.bool false)) (zo s.heap dD (.lp L R .done (some .ret))) (s.next+1) Φ q
 | .exit id=>k (.ax (.bool false)) (zo s.heap dD (.lp L R .done (some (.exit id)))) (s.next+1) Φ q
 | _=>.bad 3178)
noncomputable def Ho (env:List (Nat×AV)) (dD L:Nat) (R:LoopState→Option Code→Loop) (ps:List Nat) (gx gy:GT):YT:=fun l id args heap next α Φ p k=>
 .eq (Nat×Nat) (l,id) (L,dD) (match uv args.length ps.length with
  | true=>V2 (za heap dD) (.lp L R .ready none) (gx false rF α ⟨BW ps args env,heap,next⟩ Φ p fun e s Φ q=>match e with
   | .normal=>V2 (za s.heap dD) (.lp L R .ready none) (gy false rF α ⟨s.env,zo s.heap dD (.lp L R .busy none),s.next+1⟩ Φ q (PC dD L R k))
   | _=>.bad 3183)
  | false=>.bad 3184)
noncomputable def B9 {α:Type} (env:List (Nat×AV)) (dD L:Nat) (R:LoopState→Option Code→Loop) (rs:List dL) (k:KT α) (s:St) (Φ:zU) (q:aB α):Tree:=match jD rs s with
 | some _=>match za s.heap dD with
  | some (.lp L' R' .ready none)=>.eq aG (.lp L' R' .ready none) (.lp L R .ready none) (k .normal ⟨env,zo s.heap dD (.lp L R .exhausted none),s.next+1⟩ Φ q)
  | some (.lp L' R' .done (some .ret))=>.eq aG (.lp L' R' .done (some .ret)) (.lp L R .done (some .ret)) (k .ret ⟨env,zo s.heap dD (.lp L R .exhausted (some .ret)),s.next+1⟩ Φ q)
  | some (.lp L' R' .done (some (.exit id)))=>.eq aG (.lp L' R' .done (some (.exit id))) (.lp L R .done (some (.exit id))) (k (.exit id) ⟨env,zo s.heap dD (.lp L R .exhausted (some (.exit id))),s.next+1⟩ Φ q)
  | _=>.bad 3190
 | none=>.bad 3191
noncomputable def DZ (C:Ctx):aZ→List Nat→GT→GT→CT:=fun f ps gx gy α st Φ p k=>match zd st.env f with
 | .func gf [] bp=>match qo C gf with
  | some F=>match uH (bp.length+1) F.nt with
   | true=>.all Nat fun L=>.all (LoopState→Option Code→Loop) fun R=>lD C Hl F.fG.body true (Ho st.env st.next L R ps gx gy) α ⟨jm 0 (.eB L st.next::bp),zo st.heap st.next (.lp L R .ready none),st.next+1⟩ Φ p fun e s Φ q=>match e with
    | .ret=>B9 st.env st.next L R F.results k s Φ q
    | .normal=>B9 st.env st.next L R F.results k s Φ q
    | _=>.bad 3198
   | false=>.bad 3199
  | none=>.bad 3200
 | _=>.bad 3201
theorem Hp {α:Type} {env:List (Nat×AV)} {dD L:Nat} {R:LoopState→Option Code→Loop} {rs:List dL} {k:KT α} {s:St} {Φ:zU} {q:aB α} {K:Exit→St→Prop} (h:(B9 env dD L R rs k s Φ q).Ok) (hk:∀ e s,(k e s Φ q).Ok→K e s) :
  ∃ r,jD rs s=some r∧GR env dD L R K s.heap s.next:=by
 unfold B9 at h
 split at h
 ·rename_i r hr
  refine ⟨r,hr,?_⟩
  split at h
  ·rename_i ho;obtain ⟨h1,h2⟩:=h;rw [h1] at ho;exact .inl ⟨ho,hk _ _ h2⟩
  ·rename_i ho;obtain ⟨h1,h2⟩:=h;rw [h1] at ho;exact .inr (.inl ⟨ho,hk _ _ h2⟩)
  ·rename_i id ho;obtain ⟨h1,h2⟩:=h;rw [h1] at ho;exact .inr (.inr ⟨id,ho,hk _ _ h2⟩)
  ·exact h.elim
 ·exact h.elim
theorem Hq (C:Ctx):DY C (DZ C):=by
 intro f ps x y gx gy hx hy eP Y ym yk nt α r st Φ p k K hΦ hr h hk
 unfold DZ at h
 split at h
 ·rename_i gf bp hf
  split at h
  ·rename_i F hF
   split at h
   ·rename_i hn
    refine Ph (C:=⟨C,none,eP,Y,ym,yk⟩) rfl hf (F:=F.fG) (W5 hF) (ua hn) ?_
    intro L R AS Hr Hs B
    have PD:B4 ⟨C,none,AS,QG ⟨C,none,eP,Y,ym,yk⟩ nt st.env st.next L R ps x y,Hr,Hs⟩ (Ho st.env st.next L R ps gx gy):=by
     intro l id args heap next β Ψ q kk r' KK hΨ hr' h1 hkk
     obtain ⟨e1,h2⟩:=h1
     cases e1
     split at h2
     ·rename_i hlen
      obtain ⟨e2,h3⟩:=W6 h2
      refine ⟨rfl,rfl,uo hlen,e2,?_⟩
      refine hx (some L) none tD _ _ false rF nt (fun h=>by cases h) (VZ _) _ Ψ q _ _ hΨ hr' h3 ?_
      intro e s Ψ2 q2 PE bZ h4
      cases e with
      | normal=>
       obtain ⟨e3,h5⟩:=W6 h4
       refine ⟨e3,?_⟩
       refine hy (some L) none tD _ _ false rF nt (fun h=>by cases h) (VZ _) _ Ψ2 q2 _ _ PE bZ h5 ?_
       intro e s3 Ψ3 q3 D1 dJ h6
       obtain ⟨e4,h7⟩:=W6 h6
       cases e with
       | normal=>exact ⟨e4,hkk _ _ _ _ _ D1 dJ h7⟩
       | ret=>exact ⟨e4,hkk _ _ _ _ _ D1 dJ h7⟩
       | exit id=>exact ⟨e4,hkk _ _ _ _ _ D1 dJ h7⟩
       | _=>exact h7.elim
      | _=>exact h4.elim
     ·exact h2.elim
    refine qv (PB C) F.fG.body none AS _ Hr Hs true _ ⟨F.fG.nt,B⟩ (fun _=>rfl) PD _ Φ p _ _ hΦ hr (h L R) ?_
    intro e s Φ2 q2 gw bZ h2
    cases e with
    | ret=>obtain ⟨r2,h3,h4⟩:=Hp (K:=K) h2 (fun e s h=>hk e s _ _ gw bZ h);exact ⟨.inl rfl,r2,h3,h4⟩
    | normal=>obtain ⟨r2,h3,h4⟩:=Hp (K:=K) h2 (fun e s h=>hk e s _ _ gw bZ h);exact ⟨.inr rfl,r2,h3,h4⟩
    | _=>exact h2.elim
   ·exact h.elim
  ·exact h.elim
 ·exact h.elim
variable (C:Ctx)
noncomputable def QJ {α:Type} (f:Nat) (args:List AV) (heap:List (Nat×aG)) (m:Nat) (p:aB α) (D3:List dL→KT α):Tree:=match qo C f with
 | some F=>match uH args.length F.nt with
  | true=>lD C (DZ C) F.fG.body true rF α ⟨jm 0 args,heap,m⟩ [] p (D3 F.results)
  | false=>.bad 3266
 | none=>.bad 3267
noncomputable def Ca {α:Type} (iv:α→IV) (rs:List dL) (s:St):aB α→Tree
 | .ret a=>.eq (Option IV) ((jD rs s).bind (zE (za s.heap) 5)) (some (iv a)) .tt
 | .fin ids V bT x h a=>match x9 s.heap ids with
  | some rG=>.eq (List (Nat×aG)) rG bT (.eq (Option AV) (jD rs s) (some V) (.eq IV x (iv a) .tt))
  | Option.none=>.bad 3273
 | _=>.bad 3274
noncomputable def Ht {α:Type} (iv:α→IV) (rs:List dL):KT α:=fun e s Φ q=>settle q Φ fun Φ q=>match e with
 | .ret=>Ca iv rs s q
 | .normal=>Ca iv rs s q
 | _=>.bad 3278
noncomputable def Cb {α:Type} (R:α→AV) (H:α→List (Nat×aG)) (n:Nat) (rs:List dL) (s:St):aB α→Tree
 | .ret a=>match jD rs s with
  | some x=>.eq AV x (R a) (Jv n [(0,R a)] [] (H a) [] ⟨[(0,R a)],s.heap,s.next⟩ .tt)
  | Option.none=>.bad 3283
 | .iz x y h a=>match jD rs s with
  | some x'=>.eq AV x' x (.eq AV y (R a) (Jv n [(0,R a)] [] (H a) [] ⟨[(0,R a)],s.heap,s.next⟩ .tt))
  | Option.none=>.bad 3286
 | _=>.bad 3287
noncomputable def Hu {α:Type} (R:α→AV) (H:α→List (Nat×aG)) (n:Nat) (rs:List dL):KT α:=fun e s Φ q=>settle q Φ fun Φ q=>match e with
 | .ret=>Cb R H n rs s q
 | .normal=>Cb R H n rs s q
 | _=>.bad 3291
variable {C:Ctx}
theorem Hv {α:Type} {iv:α→IV} {rs:List dL} {s:St} {q:aB α} {r:α} (hr:q.run=some r) (h:(Ca iv rs s q).Ok):Xh (YV 5 (iv r)) s.heap s.next (jD rs s):=by
 unfold Ca at h
 split at h
 ·cases hr
  have h1:=h.1
  cases h2:jD rs s with
  | none=>rw [h2] at h1;cases h1
  | some x=>rw [h2] at h1;exact h1
 ·rename_i ids V bT x hs a
  cases hr
  split at h
  ·rename_i rG ho
   obtain ⟨rfl,h2,rfl,_⟩:=h
   rw [h2]
   have:=Jl (Jm ho) hs
   simp only [aM] at this
   split at this
   ·rename_i b hb;cases this;exact hb
   ·cases this
  ·exact h.elim
 ·exact h.elim
theorem aB.pure {f:Nat} {α:Type} {args:List IV} {iv:α→IV} (p:aB α) (h:QJ C f (args.map .ax) [] 0 p (Ht iv)=(QJ C f (args.map .ax) [] 0 p (Ht iv)).norm) {r:α} (hr:p.run=some r):aL C f args (iv r):=by
 have hk:=Tree.ok h
 unfold QJ at hk
 split at hk
 ·rename_i F hF
  split at hk
  ·rename_i hn
   refine aL.start (F:=F.fG) (W5 hF) 5 (by have:=ua hn;rw [uA] at this;exact this) (fun B => ?_)
   refine qv (Hq C) F.fG.body Option.none Option.none tD _ _ true rF _ (fun _=>rfl) (VZ _) _ [] p _ _ (fun k f hf=>by cases hf) hr hk ?_
   intro e s Φ q hΦ bZ h2
   obtain ⟨Φ3,q3,lW,dJ,h3⟩:=q9 q hΦ h2 bZ
   cases e with
   | ret=>exact Hv dJ h3
   | normal=>exact Hv dJ h3
   | _=>exact h3.elim
  ·exact hk.elim
 ·exact hk.elim
theorem Hw {α:Type} {R:α→AV} {H:α→List (Nat×aG)} {n:Nat} (hb:∀ a,cq n (H a)) {rs:List dL} {s:St} {q:aB α} {r:α} (hr:q.run=some r) (h:(Cb R H n rs s q).Ok):∃ x,jD rs s=some x∧bS ⟨[(0,x)],s.heap,s.next⟩ ⟨[(0,R r)],H r,n⟩:=by
 unfold Cb at h
 split at h
 ·cases hr
  split at h
  ·rename_i x hx
   obtain ⟨rfl,h1⟩:=h
   have:=(WZ (o:=Option.none) (t:=.tt) (hb _) h1).2
   simp only [uw,uS,Js] at this
   exact ⟨_,hx,this⟩
  ·exact h.elim
 ·rename_i x y hl a
  cases hr
  split at h
  ·rename_i x' hx
   obtain ⟨rfl,rfl,h1⟩:=h
   have hn:n≤s.next:=by
    unfold Jv at h1
    split at h1
    ·rename_i hn;exact ua hn
    ·exact h1.elim
   have:=(WZ (o:=Option.none) (t:=.tt) (hb _) h1).2
   simp only [uw,uS,Js] at this
   exact ⟨_,hx,(O7 hl).andThen this hn⟩
  ·exact h.elim
 ·exact h.elim
theorem aB.dn {f:Nat} {α:Type} {args:List AV} {heap:List (Nat×aG)} {m d:Nat} {R:α→AV} {H:α→List (Nat×aG)} (p:aB α) (b0:cq m heap) (b1:∀ a,cq (m+d) (H a)) (k0:(args.all (zR m)&&X5 m heap)=true) (k1:∀ a,(zR (m+d) (R a)&&X5 m (H a))=true)
  (h:QJ C f args heap m p (Hu R H (m+d))=(QJ C f args heap m p (Hu R H (m+d))).norm) {r:α} (hr:p.run=some r):cV C f args heap m (R r) (H r) d:=by
 have hk:=Tree.ok h
 have k0:=k0;rw [uc] at k0
 have k1:=k1 r;rw [uc] at k1
 unfold QJ at hk
 split at hk
 ·rename_i F hF
  split at hk
  ·rename_i hn
   refine cV.start (F:=F.fG) (W5 hF) (ua hn) b0 (b1 r) k0.1 k1.1 k0.2 k1.2 (fun B => ?_)
   refine qv (Hq C) F.fG.body Option.none Option.none tD _ _ true rF _ (fun _=>rfl) (VZ _) _ [] p _ _ (fun k f hf=>by cases hf) hr hk ?_
   intro e s Φ q hΦ bZ h2
   obtain ⟨Φ3,q3,lW,dJ,h3⟩:=q9 q hΦ h2 bZ
   cases e with
   | ret=>exact Hw b1 dJ h3
   | normal=>exact Hw b1 dJ h3
   | _=>exact h3.elim
  ·exact hk.elim
 ·exact hk.elim
end
section
section
variable {α β:Type}
def aB.us:List (Nat×Nat)→aB α→aB α
 | [],p=>p
 | (j,k)::l,p=>.use j k (aB.us l p)
abbrev aB.sel (key:Nat) (p:aB α):aB α:=.use 999 key p
theorem bh.c1 {key:Nat} {o:List eF} {p:Prop} (h:p) {Φ:zU} (t:bh Φ):bh ((key,(o,[p]))::Φ):=t.add (.cons h .nil)
theorem bh.c2 {key:Nat} {o:List eF} {p q:Prop} (h:p) (h':q) {Φ:zU} (t:bh Φ):bh ((key,(o,[p,q]))::Φ):=t.add (.cons h (.cons h' .nil))
abbrev aB.b1 (key:Nat) (x:Option β) (o:β→eF) {p:β→Prop} (h:∀ v,x=some v→p v) (k:β→aB α):aB α:=
 .bind x (fun v=>[(key,([o v],[p v]))]) (fun v hv=>.c1 (h v hv) .nil) k
abbrev aB.u1 (j key:Nat) (x:Option β) (o:β→eF) {p:β→Prop} (h:∀ v,x=some v→p v) (k:β→aB α):aB α:=
 .bind x (fun v=>[(key,([o v],[p v]))]) (fun v hv=>.c1 (h v hv) .nil) fun v=>.use j key (k v)
abbrev aB.f1 (key:Nat) (o:eF) {p:Prop} (h:p) (q:aB α):aB α:=.fact key [o] [p] (.cons h .nil) q
abbrev aB.ix (key:Nat) (row:β→List IV) (l:List β) (n:Int) (k:β→aB α):aB α:=
 aB.b1 key (zf l n) (fun e=>.r (row e)) (fun e h=>OR row h) k
abbrev aB.ln (key:Nat) (row:β→List IV) (l:List β) (q:aB α):aB α:=aB.f1 key (.n (l.length:Int)) (OQ row l) q
abbrev aB.call {C:Ctx} {f:Nat} {dy:List IV} {x:Option β} {iv:β→IV} (key:Nat) (t:∀ r,x=some r→aL C f dy (iv r)) (k:β→aB α):aB α:=
 aB.b1 key x (fun r=>.v (iv r)) t k
abbrev Spec.e {β:Type} (ks:List Nat) (ov:β→List (Nat×AV)) (hs:List Nat) (nx:Nat):Spec β:=⟨ks,ov,hs,fun _=>[],nx,fun _=>.nil,fun _=>Option.none⟩
end
def D4 (P:Prop) (t:Tree):List Prop→Tree
 | []=>t
 | p::r=>.eq Prop p P (D4 P t r)
theorem Hx {P:Prop} (hP:P) {t:Tree}:∀ {l:List Prop},(D4 P t l).Ok→t.Ok∧cI l
 | [],h=>⟨h,.nil⟩
 | p::r,h=>by
  obtain ⟨rfl,h2⟩:=h
  obtain ⟨h3,h4⟩:=Hx hP h2
  exact ⟨h3,.cons hP h4⟩
def Hy (id sz len:Nat) (all af:List (List IV)) (ks:List Nat) (iH:List (List AV)) (hrows:all.map (fun r=>r.map AV.ax)=iH) (hD:(all.drop 0).take len=af):eM where
 to st:=⟨Y5 id af st.env,Jq id af ks st.heap,st.next⟩
 T st t:=.eq (Option aG) (za st.heap id) (some (.af sz iH)) (D4 (0=0∧len=len) t (Y4 id 0 len st.env++WW id 0 len ks st.heap))
 ok st t h:=by
  obtain ⟨h1,h2⟩:=h
  obtain ⟨h3,h4⟩:=Hx ⟨rfl,rfl⟩ h2
  exact ⟨h3,Wz id sz 0 len all af ks iH h1 hrows hD h4,un _⟩
abbrev PF {α:Type} (id sz:Nat) (ks:List Nat) (f:α→List IV) (l:List α):eM:=Hy id sz l.length (l.map f) (l.map f) ks (zc f l) (Qa f l) (GO f l)
abbrev PG {α:Type} (id sz:Nat) (ks:List Nat) (f:α→List IV) (l:List α) (n:Nat):eM:=Hy id sz n (l.map f) ((l.take n).map f) ks (zc f l) (Qa f l) (OZ f l n)
def PJ {α:Type} (id sz k:Nat) (row:List AV) (f:α→List IV) (z:α) (hle:ei row (zj (f z))):eM where
 to st:=⟨st.env,zo st.heap id (.af sz (zc f (ub k z))),st.next⟩
 T st t:=.eq (Option aG) (za st.heap id) (some (.af sz (ub k row))) t
 ok st t h:=⟨h.2,O0 id sz k row f z h.1 hle,un _⟩
def PK (id sz:Nat) (l m:List (List AV)) (hle:dP l m):eM where
 to st:=⟨st.env,zo st.heap id (.af sz m),st.next⟩
 T st t:=.eq (Option aG) (za st.heap id) (some (.af sz l)) t
 ok st t h:=⟨h.2,GP id sz l m h.1 hle,un _⟩
def Cc (t0 sz:Nat):eM where
 to st:={env:=zo st.env t0 (.aU st.next []),heap:=zy st.heap st.next (.aV sz 0),next:=st.next+1}
 T st t:=.eq (Option AV) (za st.env t0) (some .nil) t
 ok st t h:=⟨h.2,NM h.1,uR _⟩
def Jw (id sz' r j:Nat):eM where
 to st:=match za st.heap id with
  | some (.af sz af)=>⟨st.env,zo (zy st.heap st.next (.aV sz' 0)) id (.af sz (af.set r ((af.getD r []).set j (.aU st.next [])))),st.next+1⟩
  | _=>st
 T st t:=match za st.heap id with
  | some (.af sz af)=>match af[r]? with
   | some row=>.eq (Option AV) row[j]? (some .nil) t
   | none=>.bad 4074
  | _=>.bad 4075
 ok st t h:=by
  split at h
  ·rename_i sz af ho
   split at h
   ·rename_i row hr
    obtain ⟨h1,h2⟩:=h
    simp only [ho]
    have:af.getD r []=row:=by rw [uD,hr];rfl
    rw [this]
    exact ⟨h2,K0 id sz sz' af r j row ho hr h1,uR _⟩
   ·exact h.elim
  ·exact h.elim
def PL {α:Type} (t id r j i sz':Nat) (f:α→List IV) (l:List α):eM where
 to st:=match za st.heap id with
  | some (.af sz af)=>⟨st.env,zo (zo (zy st.heap st.next (.aV sz' l.length)) i .dead) id (.af sz (af.set r ((af.getD r []).set j (.aU st.next (l.map f))))),st.next+1⟩
  | _=>st
 T st tr:=match za st.env t with
  | some (.ptr id' a0 b0)=>.eq Nat id' id (match za st.heap id with
   | some (.af sz af)=>match af[r]? with
    | some row=>.eq (Option AV) row[j]? (some (.Zak i 0 l.length)) (.eq (Option aG) (za st.heap i) (some (.af sz' (zc f l))) (match uv i id with
     | true=>.bad 4098
     | false=>tr))
    | none=>.bad 4100
   | _=>.bad 4101)
  | _=>.bad 4102
 ok st tr h:=by
  split at h
  ·rename_i id' a0 b0 ht
   obtain ⟨h0,h⟩:=h
   subst h0
   split at h
   ·rename_i sz af ho
    split at h
    ·rename_i row hr
     obtain ⟨h1,h2,h3⟩:=h
     split at h3
     ·exact h3.elim
     ·rename_i hne
      simp only [ho]
      have:af.getD r []=row:=by rw [uD,hr];rfl
      rw [this]
      have hw:=Pc (st:=st) t a0 b0 id' sz i sz' af r j row (l.map f) ht ho hr (by rw [h1,uA]) (by rw [h2,Qa]) (fun e=>by subst e;rw [uX] at hne;cases hne)
      rw [uA] at hw
      exact ⟨h3,hw,uR _⟩
    ·exact h.elim
   ·exact h.elim
  ·exact h.elim
def dQ (a b:Nat):Option (PLift (a=b)):=if h:a=b then some ⟨h⟩ else none
theorem aB.aD {α:Type} {p:aB α} {d:Option α} {r:α} (h:d=some r) (e:d=p.run):p.run=some r:=e ▸ h
end
def PM (P n:Nat):eM where
 to st:=⟨st.env,zo st.heap P (.af 1 (qq zC (ub n [])))++wb (ub n []),2000000⟩
 T st t:=.eq (Option aG) (za st.heap P) (some (.af 1 (ub n [.nil]))) (match uH st.next qT with
  | true=>t
  | false=>.bad 5015)
 ok st t h:=by
  obtain ⟨h1,h2⟩:=h
  split at h2
  ·rename_i hn
   have hn:=ua hn
   have hm:qT=999999:=rfl
   exact ⟨h2,Pr P n h1 hn,by show st.next≤2000000;omega⟩
  ·exact h2.elim
def yv (Ls:List (List Int)) (n:Nat) (to i:Int):Option (List (List Int)):=
 if 0≤to∧to < n∧to < 1000000 then match Ls[to.toNat]? with
  | some L=>if (L.length+1)*8≤140737488355328 then some (Ls.set to.toNat (L++[i])) else none
  | none=>none
 else none
def kA:List aQ:=[⟨some 65,.dR (.t 8),none⟩,⟨some 66,.nR 1 (.t 13),none⟩,⟨some 67,.load false 1 (.t 66),none⟩,⟨some 68,.dR (.t 8),none⟩,⟨some 69,.nR 1 (.t 13),none⟩,⟨some 70,.load false 1 (.t 69),none⟩,
 ⟨some 71,.idx 1 (.t 68) (.t 70),none⟩,⟨some 72,.load false 1 (.t 71),none⟩,⟨some 73,.dR (.t 10),none⟩,⟨some 74,.cZ 1 [.ax (.int .i64 0)] 1 [(0,.t 73)],none⟩,⟨some 75,.app 1 8 (.t 72) (.t 74),none⟩,⟨some 76,.idx 1 (.t 65) (.t 67),none⟩,⟨none,.store 1 (.t 76) (.t 75),none⟩]
def QK:List Nat:=[0,0,2,0,0,16,56,120,0,256,1016,2047,4095]
def PN (ks:List Nat):cy:=.region true QK kA (some ks)
def QL (st:St) (ks:List Nat) (P:Nat) (Ls:List (List Int)):St:=⟨qC (ks.filter fun k=>uL k 65) st.env,zo (ZD st.heap) P (.af 1 (qq zC Ls))++wb Ls,st.next+13⟩
theorem xr {C:bB} {ord:List Nat} {K:St→Prop} {dst:Option Nat} {op:cO} {rest:List aQ} {j:Nat} {W R:List (Nat×Nat)} {st:St} (r:AV) (aO:List (Nat×aG)) (hc:(match op with | .call _ _=>true | _=>false)=false)
  (he:ai op (zd st.env) (za st.heap) st.next=some (r,aO)) (hk:xn ord j W R (zY aO) (zk op (zd st.env))=true)
  (hn:lC C ord K rest (j+1) (qZ j (zY aO) W) (qZ j (zk op (zd st.env)) R) (St.after st dst r aO)):lC C ord K (⟨dst,op,none⟩::rest) j W R st:=by
 rw [F4,F5]
 have e:∀ KD,dS C KD st op=qm KD (zk op (zd st.env)) (ai op (zd st.env) (za st.heap) st.next):=fun KD=>by
  cases op<;>first | rfl | exact Bool.noConfusion hc
 rw [e,he]
 exact ⟨hk,hn⟩
theorem Qw (ks:List Nat):∀ (env:List (Nat×AV)) (t:Nat),za (qC ks env) t=if ks.contains t then za env t else none
 | [],t=>by simp [qC,za]
 | (k,v)::r,t=>by
  have ih:=Qw ks r t
  simp only [qC,List.filter_cons] at ih ⊢
  by_cases hk:ks.contains k=true
  ·rw [if_pos hk]
   simp only [za]
   by_cases e:k=t
   ·subst e;rw [if_pos rfl,if_pos rfl,if_pos hk]
   ·rw [if_neg e,if_neg e];exact ih
  ·rw [if_neg hk,ih]
   by_cases e:k=t
   ·subst e;rw [if_neg hk,if_neg hk]
   ·simp only [za];rw [if_neg e]
set_option maxHeartbeats 1000000 in
theorem PO {C:bB} {nt:Fr} {st:St} {P n M:Nat} {i to:Int} {a:AV} {Ls Hz:List (List Int)} {ks:List Nat} {K:Exit→St→Prop}
  (e8:za st.env 8=some (.Zak P 0 n)) (sL:za st.env 13=some (.ptr M 0 0)) (ew:za st.env 10=some (vI i)) (hN:oG st.heap P Ls) (hM:za st.heap M=some (.af 2 [[a,vI to]]))
  (hlt:∀ j o,za st.heap j=some o→j < st.next) (ha:yv Ls n to i=some Hz) (h:K .normal (QL st ks P Hz)):cG C nt (PN ks) K st:=by
 obtain ⟨env,heap,N⟩:=st
 simp only at e8 sL ew hN hM hlt
 unfold yv at ha
 split at ha
 case isFalse=>cases ha
 rename_i hto
 obtain ⟨t0,t1,t2⟩:=hto
 split at ha
 case h_2=>cases ha
 rename_i L hL
 split at ha
 case isFalse=>cases ha
 rename_i hsz
 cases ha
 obtain ⟨k,hk⟩:∃ k:Nat,to=(k:Int):=⟨to.toNat,by omega⟩
 subst hk
 simp only [Int.toNat_natCast] at hL h
 have AT:k < 1000000:=by omega
 have hkn:k < n:=by omega
 have hq:=hN.aV hL AT
 have hnb:zC+k < 2000000:=by simp only [zC];omega
 have hrow:(qq zC Ls)[k]?=some [.aU (zC+k) (L.map zb)]:=by rw [ky,hL,uT,wy hnb]
 have HA:=hlt _ _ hN.obj
 have hMN:=hlt _ _ hM
 have PP:=hlt _ _ hq
 have hPM:P≠M:=fun e=>by have:=hN.obj;rw [e,hM] at this;simp at this
 have AU:zC+k≠P:=fun e=>by have:=hN.obj;rw [←e,hq] at this;cases this
 have PR:zC+k≠M:=fun e=>by rw [e] at hq;rw [hM] at hq;cases hq
 refine W0 (QL ⟨env,heap,N⟩ ks P (Ls.set k (L++[i]))) (by simp [QL]) h ?_
 refine F6 ?_
 have lk:XY kA=false:=rfl
 rw [lk]
 show lC C _ _ kA 0 [] [] _
 unfold kA
 refine xr (.Zak P 0 n) [] rfl (by simp [ai,zd,e8]) rfl ?_
 refine xr (.ptr M 0 1) [] rfl (by simp [St.after,St.put,zG,ai,zd,zp,sL,hM]) rfl ?_
 refine xr (vI (k:Int)) [] rfl (by simp [St.after,St.put,zG,ai,zd,zp,hM]) rfl ?_
 refine xr (.Zak P 0 n) [] rfl (by simp [St.after,St.put,zG,ai,zd,zp,e8]) rfl ?_
 refine xr (.ptr M 0 1) [] rfl (by simp [St.after,St.put,zG,ai,zd,zp,sL,hM]) rfl ?_
 refine xr (vI (k:Int)) [] rfl (by simp [St.after,St.put,zG,ai,zd,zp,hM]) rfl ?_
 refine xr (.ptr P k 0) [] rfl (by simp [St.after,St.put,zG,ai,zd,zp,hN.obj,vI,hkn]) rfl ?_
 refine xr (.aU (zC+k) (L.map zb)) [] rfl (by simp [St.after,St.put,zG,ai,zd,zp,hN.obj,hrow]) rfl ?_
 refine xr (vI i) [] rfl (by simp [St.after,St.put,zG,ai,zd,zp,ew]) rfl ?_
 have n1:N+9≠P:=by omega
 have n2:N+9≠M:=by omega
 have n3:N+9≠zC+k:=by omega
 have ev8:∀ x,za (zo env 65 x) 8=some (.Zak P 0 n):=fun x=>by rw [zp,if_neg (by omega)];exact e8
 refine xr (.Zak (N+9) 0 1) [(N+9,.af 1 [[vI i]])] rfl (by simp [St.after,St.put,zG,ai,zd,zp,aM,cellsOf,vI,j7,qV]) ?_ ?_
 ·simp [xn,zY,zk,wh,qZ,qb,qN,zd,St.after,St.put,zG,zp,e8,sL,ew,vI,Ne.symm n1,Ne.symm n2]
 refine xr (.aU (zC+k) (L.map zb++[zb i])) [(zC+k,.aV 1 ((L.map zb).length+1))] rfl ?_ ?_ ?_
 ·simp [St.after,St.put,zG,ai,zd,zp,zA,JW,xK,hq,n3,aM,jl,vI,zb,hsz]
 ·simp [xn,zY,zk,wh,qZ,qb,qN,zd,St.after,St.put,zG,zp,e8,sL,ew,vI,ea,QK,Ne.symm AU,Ne.symm PR,n3]
 refine xr (.ptr P k 0) [] rfl ?_ ?_ ?_
 ·simp [St.after,St.put,zG,ai,zd,zp,zA,AU,n1,hN.obj,vI,hkn]
 ·simp [xn,zY,zk,wh,qZ,qb,qN,zd,St.after,St.put,zG,zp,e8,sL,ew,vI,ea,QK]
 refine xr .undef [(P,.af 1 ((qq zC Ls).set k [.aU (zC+k) (L.map zb++[zb i])]))] rfl ?_ ?_ ?_
 ·simp [St.after,St.put,zG,ai,zd,zp,zA,AU,n1,hN.obj,hrow,cellsOf,qV]
 ·simp [xn,zY,zk,wh,qZ,qb,qN,zd,St.after,St.put,zG,zp,e8,sL,ew,vI,ea,QK]
 show bS ⟨qC ks (zo (zo (zo (zo (zo (zo (zo (zo (zo (zo (zo (zo env 65 _) 66 _) 67 _) 68 _) 69 _) 70 _) 71 _) 72 _) 73 _) 74 _) 75 _) 76 _),zy (zy (zy heap (N+9) _) (zC+k) _) P _,N+13⟩ (QL ⟨env,heap,N⟩ ks P (Ls.set k (L++[i])))
 refine Pq (fun t x hx => ?_) fun j o hj => ?_
 ·rw [Qw] at hx
  split at hx
  ·rename_i hc
   rw [List.contains_iff_mem,List.mem_filter] at hc
   have ht:t < 65:=by simpa [uC] using hc.2
   rw [Qw,if_pos (by simpa using hc.1)]
   simp only [zp]
   rw [if_neg (by omega),if_neg (by omega),if_neg (by omega),if_neg (by omega),if_neg (by omega),if_neg (by omega),if_neg (by omega),if_neg (by omega),if_neg (by omega),if_neg (by omega),if_neg (by omega),if_neg (by omega)]
   exact hx
  ·cases hx
 have gj:(qq zC Ls).set k [.aU (zC+k) (L.map zb++[zb i])]=qq zC (Ls.set k (L++[i])):=by
  rw [←K6 Ls zC k (L++[i]),wy hnb];simp
 simp only [QL] at hj
 rw [vW,zp] at hj
 simp only [zA]
 by_cases D5:P=j
 ·rw [if_pos D5] at hj
  rw [if_pos D5,gj];exact hj
 ·rw [if_neg D5] at hj ⊢
  have keep:∀ o',za heap j=some o'→j≠zC+k→(if zC+k=j then some (aG.aV 1 ((L.map zb).length+1)) else if N+9=j then some (.af 1 [[vI i]]) else za heap j)=some o':=fun o' h1 h2=>by
   rw [if_neg (fun e=>h2 e.symm),if_neg (fun e=>by have:=hlt _ _ h1;omega)];exact h1
  cases e:za (ZD heap) j with
  | some o'=>
   rw [e,uV] at hj
   cases hj
   have:=Jr hN.out e
   refine keep _ (by rw [kz,e];rfl) (fun e2 => ?_)
   simp only [zC,qT] at this e2 hnb
   omega
  | none=>
   rw [e,uq,vE] at hj
   split at hj
   ·rename_i ej
    cases hj
    refine keep _ ?_ (by rw [ej];simp only [qT,zC];omega)
    rw [kz,e,hN.tail,uq,vE,if_pos ej]
   ·split at hj
    ·rename_i ej
     by_cases HB:j=zC+k
     ·subst HB
      rw [show zC+k - zC=k by omega,List.getElem?_set_self (ug.1 hL).1] at hj
      simp only [uT,Option.some.injEq] at hj
      subst hj
      rw [if_pos rfl];simp
     ·rw [List.getElem?_set_ne (by omega)] at hj
      obtain ⟨L2,PS,rfl⟩:=ud.1 hj
      refine keep _ ?_ HB
      have:=hN.aV PS (by have:=ej.2;simp only [zC];omega)
      rw [show zC+(j - zC)=j by omega] at this
      exact this
    ·cases hj
theorem PT {C:bB} {nt:Fr} {c:cy} {K:Exit→St→Prop} {st:St} (h:∀ g a w,Rel C nt g st a w→cG C nt c K st):cG C nt c K st:=fun code hc g a w R I=>h g a w R code hc g a w R I
def PU (P n M:Nat) (i to:Int) (a:AV) (Ls:List (List Int)):rE (List (List Int)) where
 x:=yv Ls n to i
 T c st k:=match c with
  | .region true o items (some ks)=>.eq (List Nat) o QK (.eq (List aQ) items kA (.eq (Option AV) (za st.env 8) (some (.Zak P 0 n)) (.eq (Option AV) (za st.env 13) (some (.ptr M 0 0)) (.eq (Option AV) (za st.env 10) (some (vI i))
   (.eq (Option aG) (za st.heap P) (some (.af 1 (qq zC Ls))) (.eq (Option aG) (za st.heap M) (some (.af 2 [[a,vI to]])) (.eq (List (Nat×aG)) (Qc st.heap) (wb Ls)
   (match yu st.heap with
   | true=>.all (List (List Int)) fun b=>k b (QL st ks P b)
   | false=>.bad 5110))))))))
  | _=>.bad 5111
 ok C nt c st k K b hb hT hK:=by
  split at hT
  ·rename_i o items ks
   obtain ⟨rfl,rfl,h8,D6,h10,hP,hM,ht,h1⟩:=hT
   split at h1
   ·rename_i ho
    refine PT fun g a' w R => ?_
    exact PO h8 D6 h10 ⟨hP,ht,ho⟩ hM (fun j o hj=>R.heap.key j o hj) hb (hK _ (h1 b))
   ·exact h1.elim
  ·exact hT.elim
end Go.Proofs.YtgpojcfkanjabaaGreatDoor
namespace Go.Proofs.YtgpojcfkanjabaaGreatDoor
open Go.RowKit
set_option linter.unusedSimpArgs false
set_option linter.unusedVariables false
set_option maxRecDepth 100000
section
structure bu where
 num:Int
 den:Int
 deriving Inhabited,DecidableEq
def bu.row (x:bu):List IV:=[.int .i64 x.num,.int .i64 x.den]
def bu.iv (x:bu):IV:=.agg x.row
structure bX where
 name:ByteArray
 kind:Int
 base:Int
 factor:bu
 deriving Inhabited,DecidableEq
def bX.row (x:bX):List IV:=[.str x.name,.int .i64 x.kind,.int .i64 x.base,.int .i64 x.factor.num,.int .i64 x.factor.den]
def bX.iv (x:bX):IV:=.agg x.row
structure bq where
 kind:Int
 bM:Int
 dh:Int
 to:Int
 unit:Int
 fD:bu
 deriving Inhabited,DecidableEq
def bq.row (x:bq):List IV:=[.int .i64 x.kind,.int .i64 x.bM,.int .i64 x.dh,.int .i64 x.to,.int .i64 x.unit,.int .i64 x.fD.num,.int .i64 x.fD.den]
def bq.iv (x:bq):IV:=.agg x.row
structure bk where
 clause:Int
 is:Int
 deriving Inhabited,DecidableEq
def bk.row (x:bk):List IV:=[.int .i64 x.clause,.int .i64 x.is]
def bk.iv (x:bk):IV:=.agg x.row
structure aS where
 kind:Int
 bM:Int
 act:Int
 need:Int
 start:List bk
 after:Int
 br:Int
 b9:Bool
 final:Bool
 aT:Int
 resume:Int
 value:bu
 unit:Int
 to:Int
 bH:Bool
 deriving Inhabited,DecidableEq
def aS.row (x:aS):List IV:=[.int .i64 x.kind,.int .i64 x.bM,.int .i64 x.act,.int .i64 x.need,.slice (uh bk.row x.start),.int .i64 x.after,.int .i64 x.br,.bool x.b9,.bool x.final,.int .i64 x.aT,.int .i64 x.resume,.int .i64 x.value.num,.int .i64 x.value.den,.int .i64 x.unit,.int .i64 x.to,.bool x.bH]
def aS.iv (x:aS):IV:=.agg x.row
structure ay where
 aR:Int
 aE:List Int
 bI:List bX
 aJ:List bq
 aA:List aS
 bl:Int
 off:List Int
 deriving Inhabited,DecidableEq
def ay.row (x:ay):List IV:=[.int .i64 x.aR,.slice (uh zb x.aE),.slice (uh bX.row x.bI),.slice (uh bq.row x.aJ),.slice (uh aS.row x.aA),.int .i64 x.bl,.slice (uh zb x.off)]
def ay.iv (x:ay):IV:=.agg x.row
structure aj where
 aN:Int
 left:Int
 got:Int
 bw:Int
 bN:Bool
 deriving Inhabited,DecidableEq
def aj.row (x:aj):List IV:=[.int .i64 x.aN,.int .i64 x.left,.int .i64 x.got,.int .i64 x.bw,.bool x.bN]
def aj.iv (x:aj):IV:=.agg x.row
structure ak where
 day:Int
 aE:List Int
 used:List Bool
 aI:List aj
 deriving Inhabited,DecidableEq
def ak.row (x:ak):List IV:=[.int .i64 x.day,.slice (uh zb x.aE),.slice (uh zh x.used),.slice (uh aj.row x.aI)]
def ak.iv (x:ak):IV:=.agg x.row
structure aK where
 state:ak
 own:Bool
 deriving Inhabited,DecidableEq
def aK.row (x:aK):List IV:=[.int .i64 x.state.day,.slice (uh zb x.state.aE),.slice (uh zh x.state.used),.slice (uh aj.row x.state.aI),.bool x.own]
def aK.iv (x:aK):IV:=.agg x.row
structure bC where
 step:Int
 to:Int
 deriving Inhabited,DecidableEq
def bC.row (x:bC):List IV:=[.int .i64 x.step,.int .i64 x.to]
def bC.iv (x:bC):IV:=.agg x.row
structure cx where
 zw:Int
 aW:List aK
 bK:List (List bC)
 deriving Inhabited,DecidableEq
def cx.row (x:cx):List IV:=[.int .i64 x.zw,.slice (uh aK.row x.aW),.slice (uh (zM bC.row) x.bK)]
def cx.iv (x:cx):IV:=.agg x.row
structure cL where
 safe:Bool
 move:Int
 wait:Int
 deriving Inhabited,DecidableEq
def cL.row (x:cL):List IV:=[.bool x.safe,.int .i64 x.move,.int .i64 x.wait]
def cL.iv (x:cL):IV:=.agg x.row
structure aF where
 zw:Int
 states:List ak
 deriving Inhabited,DecidableEq
def aF.row (x:aF):List IV:=[.int .i64 x.zw,.slice (uh ak.row x.states)]
def aF.iv (x:aF):IV:=.agg x.row
structure cM where
 step:Int
 state:ak
 deriving Inhabited,DecidableEq
def cM.row (x:cM):List IV:=[.int .i64 x.step,.int .i64 x.state.day,.slice (uh zb x.state.aE),.slice (uh zh x.state.used),.slice (uh aj.row x.state.aI)]
def cM.iv (x:cM):IV:=.agg x.row
attribute [simp] bu.row bX.row bq.row bk.row aS.row ay.row aj.row ak.row aK.row bC.row cx.row cL.row aF.row cM.row
end
end Go.Proofs.YtgpojcfkanjabaaGreatDoor
namespace Go.Proofs.YtgpojcfkanjabaaGreatDoor
open Go.RowKit
def wz : String := "internal/strconv.uint64pow10"
noncomputable def D7:tY where
 p w:=Lib.TabIs Tryz.prog w wz .u64 Lib.pow10Tab
 n:=(Tryz.prog.globalNamed wz).getD 0+1
 ok w w' h hp:=by
  unfold Lib.TabIs World.var? at *
  cases hg:Tryz.prog.globalNamed wz with
  | none=>rw [hg] at hp;cases hp
  | some g=>
   rw [hg] at hp
   simp only [aX] at hp ⊢
   have:=h g (by rw [hg];simp)
   rw [this];exact hp
theorem PV {w:World} (h:D7.p w):D7.n≤w.heap.size:=by
 have h':w.var? Tryz.prog wz=some (Lib.pow10Tab.map fun z=>Value.int .u64 z).toArray:=h
 unfold World.var? at h'
 show (Tryz.prog.globalNamed wz).getD 0+1≤_
 cases hg:Tryz.prog.globalNamed wz with
 | none=>rw [hg] at h';cases h'
 | some g=>
  rw [hg] at h'
  simp only [aX] at h'
  split at h'
  ·rename_i h2
   have:=(uu.1 h2).1
   simp only [Option.getD_some];omega
  ·cases h'
end Go.Proofs.YtgpojcfkanjabaaGreatDoor
namespace Go.Proofs.YtgpojcfkanjabaaGreatDoor
open Go.RowKit
set_option linter.unusedSimpArgs false
set_option linter.unusedVariables false
set_option maxRecDepth 100000
noncomputable def C0:Ctx:=⟨Tryz.prog,[0,0,0,0,0,0,0,0,15,0,0,0,0,59,0,60,0,0,0,34,35,0,0,0,0,88,42,0,0,84,85,86,87,89,16,90,91,92,93,0,51,52,53,54,55,56,57,58,0,72,0,118,119,120,82,83,131,115,116,117,80,107,128,106,108,110,109,129,113,17,79,111,0,19,39,0,0,63,65,99,62,64,96,98,0,0,0,0,0,0,0,0,0,0,14,0,0,5,0,100,6,49,50,112,36,130,81,114,121,132,155,146,147,156,154,145,144,143,157,159,160,94,95,123,124,122,97,0,0,0,0,0,0,40,69,70,68,71,21,66,67,31,0,0,0,0,0,0,0,0,0,0,0,0,8,22,0,20,0,23,24,0,0,0,0,0,0,0,0,0,0,0,0,0,0,0,61,37,18,38,7,0,0,0,0,0,0,0,0,0,0,0,0,0,0,0,0,0,0,0,0,0,0,0,0,0,0,0,0,0,0,0,0,0,0,0,0,0,0,0,0,0,0,0,0,0,0,0,0,0,0,0,0,0,0,0,0,0,0,0,0,0,0,0,0,0,0,0,0,0,0,0,0,0,0,0,0,0,0,0,0,0,0,0,0,0,0,0,0,0,0,0,0,0,0,0,0,0,0,0,0,0,0,0,0,0,0,0,0,0,0,0,0,0,0,0,0,0,0,0,0,0,0,0,0,0,0,0,0,0,0,0,0,0,0,0,0,0,0,0,0,0,0,0,0,0,0,3,4,12,9,25,41,44,45,43,46,48,73,101,10,11,30,13,32,33,29,26,27,28,47,74,78,75,102,76,77,105],D7,[]⟩
def PW:List aQ:=[⟨some 4,.dR (.c (.nil)),none⟩]
def PX:List aQ:=[⟨some 5,.dR (.c (.nil)),none⟩]
def PY:List aQ:=[⟨some 9,.eV,none⟩,
 ⟨some 6,.dR (.t 9),none⟩]
def PZ:List aQ:=[⟨some 10,.dR (.t 0),none⟩,
 ⟨some 11,.dR (.c (.ax (.int .i64 0))),none⟩]
def P0:List aQ:=[⟨some 12,.bin .lss (.t 11) (.t 10),none⟩]
def P3:List aQ:=[⟨some 13,.dR (.t 11),none⟩,
 ⟨some 7,.dR (.t 13),none⟩]
def D8:List aQ:=[⟨some 14,.dR (.t 1),none⟩,
 ⟨some 15,.dR (.t 7),none⟩,
 ⟨some 16,.call (.t 14) [.t 15],none⟩,
 ⟨some 8,.dR (.t 16),none⟩]
def P5:List aQ:=[⟨some 17,.dR (.t 8),none⟩,
 ⟨some 18,.dR (.t 7),none⟩,
 ⟨some 19,.bin .eql (.t 17) (.t 18),none⟩]
def D9:List aQ:=[⟨some 20,.dR (.t 6),none⟩,
 ⟨some 21,.dR (.t 7),none⟩,
 ⟨some 22,.dR (.t 5),none⟩,
 ⟨some 23,.len (.t 22),none⟩,
 ⟨none,.upd false (.t 20) (.t 21) (.t 23),none⟩]
def Ea:List aQ:=[⟨some 24,.dR (.t 5),none⟩,
 ⟨some 25,.cZ 1 [.nil] 1 [(0,.c (.nil))],none⟩,
 ⟨some 26,.app 1 24 (.t 24) (.t 25),none⟩,
 ⟨some 5,.dR (.t 26),none⟩]
def QM:List aQ:=[⟨some 27,.dR (.t 5),none⟩,
 ⟨some 28,.dR (.t 6),none⟩,
 ⟨some 29,.dR (.t 8),none⟩,
 ⟨some 30,.look false (.ax (.int .i64 0)) false (.t 28) (.t 29),none⟩,
 ⟨some 31,.dR (.t 5),none⟩,
 ⟨some 32,.dR (.t 6),none⟩,
 ⟨some 33,.dR (.t 8),none⟩,
 ⟨some 34,.look false (.ax (.int .i64 0)) false (.t 32) (.t 33),none⟩,
 ⟨some 35,.idx 1 (.t 31) (.t 34),none⟩,
 ⟨some 36,.load false 1 (.t 35),none⟩,
 ⟨some 37,.dR (.t 7),none⟩,
 ⟨some 38,.cZ 1 [.ax (.int .i64 0)] 1 [(0,.t 37)],none⟩,
 ⟨some 39,.app 1 8 (.t 36) (.t 38),none⟩,
 ⟨some 40,.idx 1 (.t 27) (.t 30),none⟩,
 ⟨none,.store 1 (.t 40) (.t 39),none⟩]
def HC:List aQ:=[⟨some 41,.bin .add (.t 11) (.c (.ax (.int .i64 1))),none⟩,
 ⟨some 11,.dR (.t 41),none⟩]
def P6:List aQ:=[⟨some 42,.dR (.t 5),none⟩,
 ⟨some 4,.dR (.t 42),none⟩]
def Cd:dz:=⟨43,[.tmp 4],(
.seq (.region false [] PW (some [0,1])) (
.seq (.region false [] PX (some [0,1,5])) (
.seq (.region false [] PY (some [0,1,5,6])) (
.seq (.seq (.region false [] PZ (some [1,5,6,10,11])) (
.block 0 (.loop (.seq (.region false [] P0 (some [1,5,6,10,11,12])) (
.seq (.cond (.t 12) (.skip) (.exit 0)) (
.seq (.block 1 (.seq (.region false [] P3 (some [1,5,6,7,10,11])) (
.seq (.region false [] D8 (some [1,5,6,7,8,10,11])) (
.seq (.seq (.region false [] P5 (some [1,5,6,7,8,10,11,19])) (
.cond (.t 19) (.seq (.region false [] D9 (some [1,5,6,7,8,10,11])) (
.region false [] Ea (some [1,5,6,7,8,10,11]))) (.skip))) (
.region true [0,0,0,6,0,0,0,96,240,496,0,1024,4080,8191,16383] QM (some [1,5,6,10,11])))))) (
.region false [] HC (some [1,5,6,10,11])))))))) (
.seq (.region false [] P6 (some [4])) (
.ret))))))⟩
theorem P7:qo C0 33=some Cd.erase:=by kernel_rfl
end Go.Proofs.YtgpojcfkanjabaaGreatDoor
namespace Go.Proofs.YtgpojcfkanjabaaGreatDoor
open Go.RowKit Go.ChangeShapes Go.WideShapes
set_option linter.unusedSimpArgs false
set_option linter.unusedVariables false
section
inductive ez where
 | bool
 | int (k:IntKind)
 | str
 | slice (bG:Nat) (row:List ez)
inductive gz:ez→IV→Prop where
 | bool (b:Bool):gz .bool (.bool b)
 | int (k:IntKind) (n:Int) (h:k.min≤n∧n≤k.max):gz (.int k) (.int k n)
 | str (s:ByteArray) (h:s.size≤reachBytes):gz .str (.str s)
 | slice (bG:Nat) (cJ:List ez) (af:List (List IV)) (hl:af.length*bG≤reachBytes) (hr:∀ row∈af,row.length=cJ.length)
  (hc:∀ row∈af,∀ (i:Nat) (t:ez) (c:IV),cJ[i]?=some t→row[i]?=some c→gz t c):gz (.slice bG cJ) (.slice af)
def bP (cJ:List ez) (row:List IV):Prop:=row.length=cJ.length∧∀ (i:Nat) (t:ez) (c:IV),cJ[i]?=some t→row[i]?=some c→gz t c
def QN (P:Program) (f:TypeId→Option (List ez)):Nat→List Field→Option (List ez)
 | _,[]=>some []
 | off,x::r=>if x.offset=off then match f x.type with
   | some a=>if a.length=P.cellsOf x.type then match QN P f (off+a.length) r with
     | some b=>some (a++b)
     | none=>none
    else none
   | none=>none
  else none
def W7 (P:Program):Nat→TypeId→Option (List ez)
 | 0,_=>none
 | n+1,t=>match P.underlying t with
  | some .bool=>some [.bool]
  | some (.int k)=>some [.int k]
  | some .string=>some [.str]
  | some (.slice e)=>match W7 P n e with
   | some r=>if r.length=P.cellsOf e∧0 < r.length then some [.slice (P.bytesOf e) r] else none
   | none=>none
  | some (.struct fs)=>match QN P (W7 P n) 0 fs.toList with
   | some r=>if r.length=P.cellsOf t then some r else none
   | none=>none
  | _=>none
def nX (w:World) (b:Nat):Nat:=match w.heap[b]? with
 | some (.cells c _ _)=>c.size
 | _=>0
theorem P8 {w:World} {b:Nat} (h:0 < nX w b):b < w.heap.size:=by
 unfold nX at h
 split at h
 ·rename_i c t f e;exact (uu.1 e).1
 ·omega
theorem HD {w:World} {b off:Nat} {s:Option Nat} {v:Value} (h:w.cell? ⟨b,off,s⟩=some v):s=none∧off < nX w b:=by
 unfold World.cell? at h
 unfold nX
 simp only at h
 split at h
 ·rename_i c t f e
  rw [e]
  cases s with
  | some _=>simp at h
  | none=>simp at h;exact ⟨rfl,(uu.1 h).1⟩
 ·cases h
theorem Y9 {α β:Type} {f:α→Option β}:∀ {l:List α} {ys:List β},l.mapM f=some ys→ys.length=l.length∧∀ (i:Nat) (x:α),l[i]?=some x→∃ y,ys[i]?=some y∧f x=some y
 | [],ys,h=>by
  simp at h;subst h;exact ⟨rfl,fun i x hx=>by simp at hx⟩
 | a::l,ys,h=>by
  rw [uW] at h
  simp only [uM,um,uU,Option.some.injEq] at h
  obtain ⟨y,hy,r,hr,rfl⟩:=h
  obtain ⟨h1,h2⟩:=Y9 hr
  refine ⟨by simp [h1],fun i x hx => ?_⟩
  cases i with
  | zero=>simp at hx;subst hx;exact ⟨y,rfl,hy⟩
  | succ i=>exact h2 i x (by simpa using hx)
theorem ic.app {Z:Nat→Nat} {w:World} {a b:List IV} {x y:List Value} (h1:ic Z w a x) (h2:ic Z w b y):ic Z w (a++b) (x++y):=by
 refine ⟨by simp [h1.1,h2.1],fun j c u hc hu => ?_⟩
 rcases uY j a.length with h | h
 ·rw [ul h] at hc
  rw [ul (by rw [←h1.1];exact h)] at hu
  exact h1.2 j c u hc hu
 ·rw [uk h] at hc
  rw [uk (by rw [←h1.1];exact h),←h1.1] at hu
  exact h2.2 _ c u hc hu
theorem bP.app {a b:List ez} {x y:List IV} (h1:bP a x) (h2:bP b y):bP (a++b) (x++y):=by
 refine ⟨by simp [h1.1,h2.1],fun j c u hc hu => ?_⟩
 rcases uY j a.length with h | h
 ·rw [ul h] at hc
  rw [ul (by rw [h1.1];exact h)] at hu
  exact h1.2 j c u hc hu
 ·rw [uk h] at hc
  rw [uk (by rw [h1.1];exact h),h1.1] at hu
  exact h2.2 _ c u hc hu
theorem ic.one {Z:Nat→Nat} {w:World} {a:IV} {x:Value} (h:RI Z w a x):ic Z w [a] [x]:=⟨rfl,fun j c u hc hu=>by
 cases j with
 | zero=>simp at hc hu;subst hc;subst hu;exact h
 | succ j=>simp at hc⟩
theorem bP.one {t:ez} {a:IV} (h:gz t a):bP [t] [a]:=⟨rfl,fun j c u hc hu=>by
 cases j with
 | zero=>simp at hc hu;subst hc;subst hu;exact h
 | succ j=>simp at hc⟩
section
variable {H:Type} {enc:TypeId×Value→H} {P:Program} {w:World}
def AW (w:World) (cJ:List ez) (cs:List Value):Prop:=∃ row,ic (nX w) w row cs∧bP cJ row∧∀ v∈cs,v.oneCell'=true
theorem V3 {fuel:Nat} {f:TypeId→Option (List ez)} {cs:List Value}
  (ih:∀ t cs d ps cJ,f t=some cJ→DataW.trod enc P w 0 (fun _=>true) true fuel t cs=some (d,ps)→(d.weights P t).all (· ≤ reachBytes)=true→AW w cJ cs) :
  ∀ (fs:List Field) (off:Nat) (xs:List (DataW H×List MemPlace)) (r:List ez),QN P f off fs=some r →
   (fs.mapM fun x=>DataW.trod enc P w 0 (fun _=>true) true fuel x.type ((cs.drop x.offset).take (P.cellsOf x.type)))=some xs →
   (DataW.weightsEach P (fs.map (·.type)) (xs.map (·.1))).all (· ≤ reachBytes)=true→AW w r ((cs.drop off).take r.length)
 | [],off,xs,r,h1,h2,h3=>by
  simp only [QN,Option.some.injEq] at h1
  subst h1
  exact ⟨[],⟨by simp,fun j c u hc=>by simp at hc⟩,⟨rfl,fun j c u hc=>by simp at hc⟩,fun v hv=>by simp at hv⟩
 | x::fs,off,xs,r,h1,h2,h3=>by
  simp only [QN] at h1
  split at h1
  case isFalse=>cases h1
  rename_i hoff
  split at h1
  case h_2=>cases h1
  rename_i a ha
  split at h1
  case isFalse=>cases h1
  rename_i hlen
  split at h1
  case h_2=>cases h1
  rename_i b hb
  cases h1
  rw [uW] at h2
  simp only [uM,um,uU,Option.some.injEq] at h2
  obtain ⟨y,hy,ys,hys,rfl⟩:=h2
  simp only [List.map_cons,DataW.weightsEach,uB,uc] at h3
  obtain ⟨r1,g1,g2,g3⟩:=ih _ _ _ _ _ ha hy h3.1
  obtain ⟨r2,k1,k2,k3⟩:=V3 ih fs (off+a.length) ys b hb hys h3.2
  rw [←hlen,hoff] at g1 g3
  have hsplit:(cs.drop off).take (a++b).length=(cs.drop off).take a.length++(cs.drop (off+a.length)).take b.length:=by
   rw [List.length_append,List.take_add,List.drop_drop]
  refine ⟨r1++r2,?_,g2.app k2,?_⟩
  ·rw [hsplit];exact g1.app k1
  ·rw [hsplit];intro v hv
   rcases uz.1 hv with hv | hv
   ·exact g3 v hv
   ·exact k3 v hv
theorem WD {e:TypeId}:∀ {l:List (DataW H)},(DataW.weightsAll P e l).all (· ≤ reachBytes)=true→∀ d∈l,(d.weights P e).all (· ≤ reachBytes)=true
 | [],_,d,hd=>by cases hd
 | x::l,h,d,hd=>by
  simp only [DataW.weightsAll,uB,uc] at h
  rcases ui.1 hd with rfl | hd
  ·exact h.1
  ·exact WD h.2 d hd
theorem HE {a:Addr} {n:Nat} {cs:List Value} (h:w.cells? 0 a n=some cs):cs.length=n∧∀ j v,cs[j]?=some v→w.cell? (a.add j)=some v:=by
 unfold World.cells? at h
 rw [if_pos (Nat.zero_le _)] at h
 obtain ⟨h1,h2⟩:=Y9 h
 refine ⟨by simpa using h1,fun j v hv => ?_⟩
 have hj:j < n:=by
  have:=(ug.1 hv).1
  simpa [h1] using this
 obtain ⟨y,hy,e⟩:=h2 j j (by simp [hj])
 rw [hv] at hy;cases hy;exact e
theorem P9 {a:Addr} {len cap sz bG:Nat} {r:List ez} (hr:r.length=sz) (hpos:0 < sz) (hcap:len≤cap) (hb:len*bG≤reachBytes)
  (hel:∀ i,i < len→∃ cs,w.cells? 0 (a.add (i*sz)) sz=some cs∧AW w r cs):AW w [.slice bG r] [.slice (some a) len cap]:=by
 have hrow:∀ i:Nat,∃ row:List IV,i < len→∃ cs,w.cells? 0 (a.add (i*sz)) sz=some cs∧ic (nX w) w row cs∧bP r row∧∀ v∈cs,v.oneCell'=true:=fun i=>by
  by_cases hi:i < len
  ·obtain ⟨cs,h1,row,h2,h3,h4⟩:=hel i hi
   exact ⟨row,fun _=>⟨cs,h1,h2,h3,h4⟩⟩
  ·exact ⟨[],fun h=>absurd h hi⟩
 obtain ⟨R,hR⟩:=Classical.axiomOfChoice hrow
 have cS:∀ (i:Nat) (row:List IV),((uI len).map R)[i]?=some row→i < len∧row=R i:=fun i row h=>by
  simp only [List.getElem?_map,ud] at h
  obtain ⟨k,hk,rfl⟩:=h
  obtain ⟨h1,h2⟩:=ug.1 hk
  simp at h1 h2
  subst h2
  exact ⟨h1,rfl⟩
 have hmem:∀ row∈(uI len).map R,bP r row:=fun row h=>by
  obtain ⟨i,hi⟩:=List.mem_iff_getElem?.1 h
  obtain ⟨h1,rfl⟩:=cS i row hi
  obtain ⟨cs,_,_,h2,_⟩:=hR i h1
  exact h2
 refine ⟨[.slice ((uI len).map R)],.one ?_,.one (.slice _ _ _ (by simpa using hb) (fun row h=>(hmem row h).1) (fun row h=>(hmem row h).2)),fun v hv=>by simp at hv;subst hv;rfl⟩
 rcases Nat.eq_zero_or_pos len with h0 | h0
 ·subst h0;exact .empty a cap
 ·obtain ⟨b,off,spot⟩:=a
  have hs:spot=none:=by
   obtain ⟨cs,h1,_⟩:=hR 0 h0
   obtain ⟨h2,h3⟩:=HE h1
   have hc:=h3 0 _ (uE (by omega))
   rw [Nat.zero_mul] at hc
   exact (HD (s:=spot) (off:=off) hc).1
  subst hs
  have hcell:∀ (i:Nat) (row:List IV) (j:Nat) (c:IV),((uI len).map R)[i]?=some row→row[j]?=some c→∃ v,w.cell? ⟨b,off+i*sz+j,none⟩=some v∧v.oneCell'=true∧RI (nX w) w c v:=fun i row j c hi hj=>by
   obtain ⟨h1,rfl⟩:=cS i row hi
   obtain ⟨cs,h2,h3,h4,h5⟩:=hR i h1
   obtain ⟨h6,h7⟩:=HE h2
   have hjl:j < cs.length:=by rw [←h3.1];exact (ug.1 hj).1
   have hcs:=uE hjl
   exact ⟨cs[j],by have:=h7 j _ hcs;rwa [qO,qO] at this,h5 _ (List.getElem_mem hjl),h3.2 j c _ hj hcs⟩
  have:=RI.slice (Z:=nX w) (w:=w) ((uI len).map R) b off cap sz (fun i j=>(w.cell? ⟨b,off+i*sz+j,none⟩).getD undef) (by simpa using hcap)
   (fun i row hi=>by obtain ⟨h1,rfl⟩:=cS i row hi;obtain ⟨_,_,_,h2,_⟩:=hR i h1;rw [h2.1,hr])
   (fun i row j c hi hj=>by obtain ⟨v,h1,_⟩:=hcell i row j c hi hj;exact (HD h1).2)
   (fun i row j c hi hj=>by obtain ⟨v,h1,h2,_⟩:=hcell i row j c hi hj;rw [h1];exact ⟨rfl,h2⟩)
   (fun i row j c hi hj=>by obtain ⟨v,h1,h2,h3⟩:=hcell i row j c hi hj;rw [h1];exact h3)
  simpa using this
theorem Jx:∀ (n fuel:Nat) (t:TypeId) (cs:List Value) (d:DataW H) (ps:List MemPlace) (cJ:List ez),W7 P n t=some cJ→DataW.trod enc P w 0 (fun _=>true) true fuel t cs=some (d,ps) →
  (d.weights P t).all (· ≤ reachBytes)=true→AW w cJ cs
 | 0,_,_,_,_,_,_,h,_,_=>by simp [W7] at h
 | n+1,0,_,_,_,_,_,_,h,_=>by simp [DataW.trod] at h
 | n+1,fuel+1,t,cs,d,ps,cJ,h,ht,hw=>by
  simp only [W7] at h
  split at h
  ·rename_i hu
   cases h
   simp only [DataW.trod,hu] at ht
   split at ht<;>first | (simp_all;done) | skip
   all_goals first
    | (rename_i b _;exact ⟨[.bool b],.one (.bool b),.one (.bool b),fun v hv=>by simp at hv;subst hv;rfl⟩)
    | skip
  ·rename_i k hu
   cases h
   simp only [DataW.trod,hu] at ht
   split at ht<;>first | (simp_all;done) | skip
   all_goals
    rename_i k1 k' m e1
    cases e1
    split at ht
    case isFalse=>cases ht
    rename_i hk
    obtain ⟨rfl,hwf⟩:=hk
    exact ⟨[.int _ m],.one (.int _ m),.one (.int _ m (by simpa [Lit.wf] using hwf)),fun v hv=>by simp at hv;subst hv;rfl⟩
  ·rename_i hu
   cases h
   simp only [DataW.trod,hu] at ht
   split at ht<;>first | (simp_all;done) | skip
   all_goals
    rename_i s _
    split at ht
    case isFalse=>cases ht
    cases ht
    refine ⟨[.str s],.one (.str s),.one (.str s ?_),fun v hv=>by simp at hv;subst hv;rfl⟩
    simpa [DataW.weights] using hw
  ·rename_i e hu
   split at h
   case h_2=>cases h
   rename_i r hr
   split at h
   case isFalse=>cases h
   rename_i hlen
   cases h
   simp only [DataW.trod,hu] at ht
   split at ht<;>first | (simp_all;done) | skip
   ·cases ht
    exact ⟨[.slice []],.one .nil,.one (.slice _ _ _ (by simp) (fun row h=>by simp at h) (fun row h=>by simp at h)),fun v hv=>by simp at hv;subst hv;rfl⟩
   ·rename_i e' a len cap e1
    cases e1
    split at ht
    case isFalse=>cases ht
    rename_i bD
    simp only [um,ud] at ht
    obtain ⟨elems,hel,rest,mZ,heq⟩:=ht
    simp only [Prod.mk.injEq] at heq
    obtain ⟨rfl,_⟩:=heq
    simp only [DataW.weights,hu,List.all_cons,uB,uc,decide_eq_true_eq] at hw
    obtain ⟨hw1,oq,hw3⟩:=hw
    obtain ⟨hl,hat⟩:=Y9 hel
    simp only [List.length_range,uA] at hl hw1
    refine P9 hlen.1 (by omega) bD.2.1 (Nat.le_trans (Nat.mul_le_mul_right _ (by omega)) hw1) fun i hi => ?_
    obtain ⟨y,hy1,hy2⟩:=hat i i (by simp [hi])
    simp only [um] at hy2
    obtain ⟨cs',hc1,eC⟩:=hy2
    exact ⟨cs',hc1,Jx n fuel e cs' y.1 y.2 r hr eC (WD oq _ (uO.2 ⟨y,ut hy1,rfl⟩))⟩
  ·rename_i fs hu
   split at h
   case h_2=>cases h
   rename_i r0 hr
   split at h
   case isFalse=>cases h
   rename_i hlen
   obtain rfl:r0=cJ:=Option.some.inj h
   simp only [DataW.trod,hu] at ht
   split at ht
   case isFalse=>cases ht
   rename_i dZ
   simp only [ud] at ht
   obtain ⟨xs,hxs,heq⟩:=ht
   simp only [Prod.mk.injEq] at heq
   obtain ⟨rfl,_⟩:=heq
   simp only [DataW.weights,hu] at hw
   have:=V3 (fun t cs d ps cJ h1 h2 h3=>Jx n fuel t cs d ps cJ h1 h2 h3) fs.toList 0 xs r0 hr hxs hw
   rw [hlen,←dZ,List.drop_zero,List.take_length] at this
   exact this
  ·cases h
end
end
section
def AX (P:Program) (t:TypeId):Option (Bool×List ez):=match P.underlying t with
 | some (.struct _)=>match W7 P 12 t with
  | some r=>some (true,r)
  | none=>none
 | some (.array _ _)=>none
 | _=>match W7 P 12 t with
  | some r=>some (false,r)
  | none=>none
def HF:Bool×List ez→IV→Prop
 | (true,cJ),x=>∃ row,x=.agg row∧bP cJ row
 | (false,cJ),x=>bP cJ [x]
def X9:List (Bool×List ez)→List IV→Prop
 | [],[]=>True
 | a::pS,x::xs=>HF a x∧X9 pS xs
 | _,_=>False
section
variable {H:Type} {enc:TypeId×Value→H} {P:Program} {w:World}
theorem Ra {base:Nat} {t:TypeId} {v:Value} {d:DataW H} {ps:List MemPlace} {a:Bool×List ez} (ha:AX P t=some a) (hval:Value.okWide P w .any base t v)
  (h:DataW.Trod enc P w 0 (fun _=>true) true t v d ps) (hw:(d.weights P t).all (· ≤ reachBytes)=true):∃ x,RI (nX w) w x v∧HF a x:=by
 obtain ⟨fuel,hf⟩:=h
 unfold AX at ha
 split at ha
 ·rename_i fs hu
  split at ha
  case h_2=>cases ha
  rename_i r hr
  cases ha
  simp only [Value.okWide,hu] at hval
  obtain ⟨cs,rfl,_,_⟩:=hval
  obtain ⟨row,h1,h2,h3⟩:=Jx 12 fuel t _ d ps r hr hf hw
  refine ⟨.agg row,?_,row,rfl,h2⟩
  have:=RI.agg (Z:=nX w) (w:=w) row cs.toList (by simpa [Value.cells] using h1.1) (fun v hv=>h3 v (by simpa [Value.cells] using hv)) (fun i c v hc hv=>h1.2 i c v hc (by simpa [Value.cells] using hv))
  simpa using this
 ·cases ha
 ·rename_i Ce hna
  split at ha
  case h_2=>cases ha
  rename_i r hr
  cases ha
  have hone:v.oneCell'=true:=by
   have hc:Cell.okWide P w .any base t v:=by
    unfold Value.okWide at hval
    split at hval
    ·rename_i fs hu;exact absurd hu (Ce fs)
    ·rename_i k e hu;exact absurd hu (hna k e)
    ·exact hval
   cases v<;>first | rfl | (exfalso;revert hc;unfold Cell.okWide Cell.ok;cases P.underlying t with
    | none=>simp
    | some u=>cases u<;>simp)
  have hcs:v.cells.toList=[v]:=by cases v<;>first | rfl | simp [Value.oneCell'] at hone
  obtain ⟨row,h1,h2,h3⟩:=Jx 12 fuel t _ d ps r hr hf hw
  rw [hcs] at h1
  obtain ⟨x,rfl⟩:∃ x,row=[x]:=List.length_eq_one_iff.1 (by simpa using h1.1)
  exact ⟨x,h1.2 0 x v rfl rfl,h2⟩
theorem HG {base:Nat}:∀ {ts:List TypeId} {vs:List Value} {ds:List (DataW H)} {ps:List MemPlace} {pS:List (Bool×List ez)},aM (AX P) ts=some pS →
  (∀ (j:Nat) t v,ts[j]?=some t→vs[j]?=some v→Value.okWide P w .any base t v)→DataW.TrodAll enc P w 0 (fun _=>true) true ts vs ds ps→(DataW.weightsEach P ts ds).all (· ≤ reachBytes)=true →
  ∃ dy,ic (nX w) w dy vs∧X9 pS dy
 | [],vs,ds,ps,pS,ha,hval,h,hw=>by
  obtain ⟨rfl,rfl,rfl⟩:=trodAll_nil h
  simp [aM] at ha;subst ha
  exact ⟨[],⟨rfl,fun j c u hc=>by simp at hc⟩,trivial⟩
 | t::ts,vs,ds,ps,pS,ha,hval,h,hw=>by
  obtain ⟨v,HH,d,HI,a,b,rfl,rfl,rfl,h1,h2⟩:=trodAll_cons h
  simp only [aM] at ha
  split at ha
  case h_2=>cases ha
  rename_i a1 AY
  split at ha
  case h_2=>cases ha
  rename_i as1 Eb
  cases ha
  simp only [DataW.weightsEach,uB,uc] at hw
  obtain ⟨x,g1,g2⟩:=Ra AY (hval 0 t v rfl rfl) h1 hw.1
  obtain ⟨xs,g3,g4⟩:=HG Eb (fun j t v hj hv=>hval (j+1) t v (by simpa using hj) (by simpa using hv)) h2 hw.2
  exact ⟨x::xs,ic.app (.one g1) g3,g2,g4⟩
theorem Rb {ts:List TypeId}:∀ {vs:List Value} {ds:List (DataW H)} {ps:List MemPlace},DataW.TrodAll enc P w 0 (fun _=>true) true ts vs ds ps→ds.length=ts.length:=by
 induction ts with
 | nil=>intro vs ds ps h;obtain ⟨rfl,rfl,rfl⟩:=trodAll_nil h;rfl
 | cons t ts ih=>
  intro vs ds ps h
  obtain ⟨v,HH,d,HI,a,b,rfl,rfl,rfl,h1,h2⟩:=trodAll_cons h
  simp [ih h2]
theorem HJ {W':World} (hl:laidOutB P=true) (hb:Below w.heap.size w W'):∀ {ts:List TypeId} {vs:List Value} {ds:List (DataW H)} {ps:List MemPlace},(∀ t∈ts,P.readableRec t=true∧t < P.types.size) →
  DataW.TrodAll enc P w 0 (fun _=>true) true ts vs ds ps→∀ sp:Nat→Bool,(∀ p∈ps,p.block < w.heap.size∧sp p.block=true)→DataW.TrodAll enc P W' 0 sp true ts vs ds ps
 | [],vs,ds,ps,hr,h,sp,hlt=>by
  obtain ⟨rfl,rfl,rfl⟩:=trodAll_nil h;rfl
 | t::ts,vs,ds,ps,hr,h,sp,hlt=>by
  obtain ⟨v,HH,d,HI,a,b,rfl,rfl,rfl,h1,h2⟩:=trodAll_cons h
  have ht:=hr t (uN ..)
  exact ⟨a,b,WideElems.Trod_stays hl ht.1 ht.2 h1 (fun x hx=>hb.same (hlt x (ur _ hx)).1) (fun x hx=>(hlt x (ur _ hx)).2),
   HJ hl hb (fun t ht=>hr t (uK _ ht)) h2 sp (fun p hp=>hlt p (uy _ hp)),rfl⟩
end
theorem Rc {H:Type} {enc:TypeId×Value→H} {P:Program} {f:Func} {s:ChangeSpec} {apart fresh handsOn again:Bool} {W W':World} {args:Array Value} {v:Value} {ds:List (DataW H)} {before:List MemPlace}
  (hW:DataW.Whole enc P f.params.toList s.vars apart W args.toList ds [] before)
  (hres:∀ (b:Nat) (sp:Nat→Bool) (hd:Bool),DataW.TrodAll enc P W' b sp hd f.resultTypes.toList (v.resultList f.resultTypes.size) (s.fn H (ds++[])).results [])
  (hargs:∀ sp:Nat→Bool,(∀ p∈before,sp p.block=true)→DataW.TrodAll enc P W' 0 sp true f.params.toList args.toList (s.fn H (ds++[])).args before)
  (hvars:∀ sp:Nat→Bool,DataW.TrodVars enc P W' sp s.vars (s.fn H (ds++[])).vars [])
  (hk:Below W.heap.size W W')
  (hok:∀ (j:Nat) (t:TypeId) (r:Value),f.resultTypes[j]?=some t→(v.resultList f.resultTypes.size)[j]?=some r→Value.okWide P W' .any 0 t r) :
  s.post enc P f apart fresh handsOn again W args v W':=by
 have hlt:∀ p∈before,p.block < W.heap.size:=fun p hp=>hW.lt p hp
 have hold:∀ p∈before,(fun b=>decide (b < W.heap.size)) p.block=true:=fun p hp=>by simpa using hlt p hp
 refine ⟨ds,[],before,[],before,[],hW,hres _ _ _,hargs _ hold,hvars _,hk.frame _,fun _ => ?_⟩
 obtain ⟨_,_,_,_,_,hz,hn⟩:=hW
 refine ⟨hok,_,_,([]++before)++[],⟨[]++before,[],trodAll_append (hargs _ (fun _ _=>rfl)) (hres _ _ _),hvars _,rfl,?_,?_⟩,?_⟩
 ·intro b off hp
  have hp':MemPlace.cell b off∈before:=by simpa using hp
  rw [hk.frozen (p:=⟨b,off,none⟩) (hlt _ hp')]
  exact hz b off hp'
 ·intro ha
  simpa using hn ha
 ·intro p hp _
  simpa using hp
theorem Re {H:Type} {enc:TypeId×Value→H} {Cx:Ctx} {f:FuncId} {fn:Func} {s:ChangeSpec} {tb:TypeId} {pS:List (Bool×List ez)} {apart fresh handsOn again:Bool} (n:Nat) (hn:Cx.ed n=f)
  (has:aM (AX Cx.P) fn.params.toList=some pS) (hres:fn.resultTypes = #[tb]) (htb:Cx.P.underlying tb=some .bool) (hvars:s.vars=[])
  (hsp:∀ ds:List (DataW H),ds.length=fn.params.toList.length→s.fn H (ds++[])={results:=[.lit (.bool true)],args:=ds})
  (hlaid:laidOutB Cx.P=true) (hread:(fn.params.toList.all fun t=>Cx.P.readableRec t&&decide (t < Cx.P.types.size))=true)
  (Ec:∀ dy,X9 pS dy→aL Cx n dy (.bool true))
  (W:World) (hft:Cx.tabs.p W∧Cx.tabs.n≤W.heap.size)
  (base:Nat) (args:Array Value) (ds gs:List (DataW H)) (before:List MemPlace)
  (hval:∀ (j:Nat) t v,fn.params[j]?=some t→args[j]?=some v→Value.okWide Cx.P W .any base t v)
  (hW:DataW.Whole enc Cx.P fn.params.toList s.vars apart W args.toList ds gs before)
  (Cf:(DataW.weightsEach Cx.P (fn.params.toList++s.plain.varTypes Cx.P) (ds++gs)).all (· ≤ reachBytes)=true) :
  Calls Cx.P f args W fun e W'=>∃ v,e=.returned v∧s.post enc Cx.P fn apart fresh handsOn again W args v W':=by
 have tN:=hW
 obtain ⟨p,q,hA,hV,rfl,hfz,hnd⟩:=hW
 rw [hvars] at hV
 obtain ⟨rfl,rfl⟩:=trodVars_none hV
 have Rf:s.plain.varTypes Cx.P=[]:=by
  have:s.plain.vars=[]:=hvars
  simp [DataSpec.varTypes,this]
 rw [Rf,uw,uw] at Cf
 obtain ⟨dy,h1,h2⟩:=HG has (fun j t v hj hv=>hval j t v (by simpa using hj) (by simpa using hv)) hA Cf
 subst hn
 have fT:=(Ec dy h2).2 (nX W) W args.toList (fun b hb=>P8 hb) hft h1
 simp only [Array.toArray_toList] at fT
 refine fT.mono fun e W' ⟨v,Z',he,hr,_,_,hbel⟩ => ?_
 subst he
 cases hr
 have hlt:∀ x∈p++[],x.block < W.heap.size:=fun x hx=>by simpa using tN.lt x hx
 have hspec:=hsp ds (Rb hA)
 simp only [uw] at tN hlt
 refine ⟨_,rfl,Rc tN ?_ ?_ ?_ hbel ?_⟩
 ·intro b sp hd
  rw [hspec,hres]
  exact trodAll_cons_mk (shut_bool htb _) trodAll_mk0
 ·intro sp Ed
  rw [hspec]
  exact HJ hlaid hbel (fun t ht=>by have:=uP.1 hread t ht;simpa using this) hA sp (fun x hx=>⟨hlt x hx,Ed x hx⟩)
 ·intro sp
  rw [hspec,hvars];rfl
 ·exact ok_one hres rfl (okWide_bool_mk htb _)
end
end Go.Proofs.YtgpojcfkanjabaaGreatDoor
namespace Go.Proofs.YtgpojcfkanjabaaGreatDoor
open Go.RowKit
set_option linter.unusedVariables false
def dW (k:IntKind) (n:Int):Prop:=k.min≤n∧n≤k.max
def lF {α:Type} (bG:Nat) (Ok:α→Prop) (l:List α):Prop:=l.length*bG≤reachBytes∧∀ x∈l,Ok x
theorem zi {t:ez} {ts:List ez} {row:List IV} (h:bP (t::ts) row):∃ c r,row=c::r∧gz t c∧bP ts r:=by
 obtain ⟨hl,hc⟩:=h
 cases row with
 | nil=>simp at hl
 | cons c r=>exact ⟨c,r,rfl,hc 0 t c rfl rfl,by simpa using hl,fun i u d hu hd=>hc (i+1) u d (by simpa using hu) (by simpa using hd)⟩
theorem qS {row:List IV} (h:bP [] row):row=[]:=List.eq_nil_of_length_eq_zero h.1
theorem zu {k:IntKind} {x:IV} (h:gz (.int k) x):∃ n,x=.int k n∧dW k n:=by cases h;exact ⟨_,rfl,by assumption⟩
theorem wi {x:IV} (h:gz .bool x):∃ b,x=.bool b:=by cases h;exact ⟨_,rfl⟩
theorem Rg {x:IV} (h:gz .str x):∃ s,x=.str s∧s.size≤reachBytes:=by cases h;exact ⟨_,rfl,by assumption⟩
theorem HK {α:Type} {f:α→List IV} {Ok:α→Prop} {cJ:List ez} (ho:∀ {row:List IV},bP cJ row→∃ x,row=f x∧Ok x) :
  ∀ af:List (List IV),(∀ row∈af,bP cJ row)→∃ l:List α,af=l.map f∧∀ x∈l,Ok x
 | [],_=>⟨[],rfl,fun x hx=>by cases hx⟩
 | row::af,h=>by
  obtain ⟨x,rfl,hx⟩:=ho (h row (uN ..))
  obtain ⟨l,rfl,hl⟩:=HK ho af fun r hr=>h r (uK _ hr)
  exact ⟨x::l,rfl,fun y hy=>by
   rcases ui.1 hy with rfl | hy
   ·exact hx
   ·exact hl y hy⟩
theorem z7 {α:Type} {f:α→List IV} {Ok:α→Prop} {cJ:List ez} {bG:Nat} {x:IV} (ho:∀ {row:List IV},bP cJ row→∃ x,row=f x∧Ok x) (h:gz (.slice bG cJ) x) :
  ∃ l:List α,x=.slice (l.map f)∧lF bG Ok l:=by
 cases h with
 | slice _ _ af hl hr hc=>
  obtain ⟨l,rfl,hk⟩:=HK ho af fun row h=>⟨hr row h,hc row h⟩
  exact ⟨l,rfl,by simpa using hl,hk⟩
theorem yw {row:List IV} (h:bP [.int .i64] row):∃ x:Int,row=zb x∧dW .i64 x:=by
 obtain ⟨c,_,rfl,h0,h⟩:=zi h
 obtain rfl:=qS h
 obtain ⟨n,rfl,k⟩:=zu h0
 exact ⟨n,rfl,k⟩
theorem Jy {row:List IV} (h:bP [.bool] row):∃ x:Bool,row=zh x∧True:=by
 obtain ⟨c,_,rfl,h0,h⟩:=zi h
 obtain rfl:=qS h
 obtain ⟨n,rfl⟩:=wi h0
 exact ⟨n,rfl,trivial⟩
theorem Rh {α:Type} {f:α→List IV} {Ok:α→Prop} {cJ:List ez} {bG:Nat} (ho:∀ {row:List IV},bP cJ row→∃ x,row=f x∧Ok x) {row:List IV} (h:bP [.slice bG cJ] row) :
  ∃ x:List α,row=zM f x∧lF bG Ok x:=by
 obtain ⟨c,_,rfl,h0,h⟩:=zi h
 obtain rfl:=qS h
 obtain ⟨l,rfl,k⟩:=z7 ho h0
 exact ⟨l,rfl,k⟩
end Go.Proofs.YtgpojcfkanjabaaGreatDoor
