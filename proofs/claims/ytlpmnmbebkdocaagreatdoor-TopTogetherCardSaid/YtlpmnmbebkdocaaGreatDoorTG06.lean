/-
  An object whose cells are slices that grow: the tips have names of a range of their own, behind a mark in the list of objects.
  Plans: what a function computes, told so that the kernel can hold it against the function's code. A plan that the kernel has checked is a walk.
  Plans: code against a plan, and that a plan that is checked is a walk.
  Plans: what is live, whole functions, and the parts that printed plans are made of.
  Plans: the parts that printed plans are made of.
  Plans for an object whose cells are slices that grow.
  Data of the program's types.
  The table of the library that the program reads: what is known of it while the program runs.
  The program's functions, by the numbers that plans have for them.
  From the readings of a row's arguments to the abstract machine's data: whatever plain data is handed in (numbers, truth values, texts, slices and structures of these) is data of the abstract machine, of its type; and a law that is proved of all such data is the row's contract.
  A law that holds of all plain data of its types is the row's contract: whatever the arguments, the call returns true, and each argument reads as it read before.
  From data of the abstract machine to typed data.
-/
import Derived.Test.YtlpmnmbebkdocaaGreatDoorTG05
import Derived.Test.YtlpmnmbebkdocaaGreatDoorChecked
import Derived.Lib.ItoaMem
import Derived.Lib.LaidTab
import Derived.KernelRfl
import Derived.Test.YtlpmnmbebkdocaaGreatDoorTG03
import Derived.ProofKit
import Derived.SizedLaws
import Derived.Carry
import Derived.OpenShut
import Derived.Test.YtlpmnmbebkdocaaGreatDoorTG04
open List renaming replicate → ub, getElem?_eq_some_iff → ug, mem_cons → uh, getElem?_append_right → uj, getElem?_append_left → uk, map → ul, length_map → uo, mem_append_left → ut, mem_of_getElem? → uu, append_nil → ux, getElem?_replicate → uy, mem_append_right → uz, mem_append → uA, all_append → uB, getD_eq_getElem?_getD → uD, getElem?_eq_getElem → uE, cons_append → uF, getElem?_cons_zero → uG, range → uI, mem_cons_of_mem → uL, mem_cons_self → uO, mem_map → uP, all_eq_true → uQ, range' → uR, nil_append → uS, mapM_cons → uW
open Option renaming map_eq_some_iff → ud, bind → ui, bind_eq_some_iff → um, none_or → ur, bind_eq_bind → uN, map_some → uT, pure_def → uU, some_or → uV
open Bool renaming and_eq_true → uc, or_eq_true → uJ
open Nat renaming le_of_ble_eq_true → ua, lor → ue, le_refl → un, eq_of_beq_eq_true → uq, beq → uw, blt_eq → uC, ble → uH, le_succ → uK, blt → uM, beq_refl → uX, lt_or_ge → uY
open Array renaming getElem?_eq_some_iff → uv
namespace Go.Proofs.YtlpmnmbebkdocaaGreatDoor
open Go.RowKit
set_option linter.unusedSimpArgs false
set_option linter.unusedVariables false
def ZY:Nat→List (List Int)→List (Nat×aD)
 | _,[]=>[]
 | b,L::r=>bif uM b 2000000 then (b,.aU 1 L.length)::ZY (b+1) r else []
def x9 (Ls:List (List Int)):List (Nat×aD):=(qT,.dead)::ZY zE Ls
def Zz:List (Nat×aD)→List (Nat×aD)
 | []=>[]
 | (k,o)::r=>match uw k qT with
  | true=>[]
  | false=>(k,o)::Zz r
def ZZ:List (Nat×aD)→List (Nat×aD)
 | []=>[]
 | (k,o)::r=>match uw k qT with
  | true=>(k,o)::r
  | false=>ZZ r
def yp:List (Nat×aD)→Bool
 | []=>true
 | (k,o)::r=>match uw k qT with
  | true=>true
  | false=>(uM k qT||uH 2000000 k)&&yp r
theorem K6:∀ (Ls:List (List Int)) (b:Nat),(qv b Ls).length=Ls.length
 | [],_=>rfl
 | L::r,b=>by simp [qv,K6 r]
theorem K7:∀ (Ls:List (List Int)) (b k:Nat) (L:List Int),(qv b Ls).set k (vr (b+k) L)=qv b (Ls.set k L)
 | [],b,k,L=>by simp [qv]
 | M::r,b,0,L=>by simp [qv]
 | M::r,b,k+1,L=>by
  simp only [qv,List.set_cons_succ]
  rw [←K7 r (b+1) k L,show b+1+k=b+(k+1) by omega]
theorem K8:∀ (Ls:List (List Int)) (b j:Nat),za (ZY b Ls) j=if b≤j∧j < 2000000 then (Ls[j - b]?).map (fun L=>aD.aU 1 L.length) else none
 | [],b,j=>by simp [ZY,za]
 | L::r,b,j=>by
  simp only [ZY]
  cases h:uM b 2000000 with
  | false=>
   have:¬ b < 2000000:=fun hb=>by rw [show uM b 2000000=true by simpa [uC] using hb] at h;cases h
   simp only [cy,za]
   rw [if_neg (by omega)]
  | true=>
   have hb:b < 2000000:=by simpa [uC] using h
   simp only [cond_true,za]
   by_cases e:b=j
   ·subst e
    rw [if_pos rfl,if_pos ⟨un _,hb⟩];simp
   ·rw [if_neg e,K8 r (b+1) j]
    by_cases h2:b≤j∧j < 2000000
    ·obtain ⟨k,hk⟩:∃ k,j - b=k+1:=⟨j - b - 1,by omega⟩
     rw [if_pos (by omega),if_pos h2,hk,show j - (b+1)=k by omega,List.getElem?_cons_succ]
    ·rw [if_neg (by omega),if_neg h2]
theorem vt (Ls:List (List Int)) (j:Nat):za (x9 Ls) j=if j=qT then some .dead else if zE≤j∧j < 2000000 then (Ls[j - zE]?).map (fun L=>aD.aU 1 L.length) else none:=by
 simp only [x9,za]
 by_cases e:qT=j
 ·rw [if_pos e,if_pos e.symm]
 ·rw [if_neg e,if_neg (fun h=>e h.symm),K8]
theorem vT {α:Type}:∀ (a b:List (Nat×α)) (j:Nat),za (a++b) j=(za a j).or (za b j)
 | [],b,j=>by simp [za]
 | (k,v)::a,b,j=>by
  simp only [uF,za]
  by_cases e:k=j
  ·rw [if_pos e,if_pos e];rfl
  ·rw [if_neg e,if_neg e];exact vT a b j
theorem GZ:∀ l:List (Nat×aD),Zz l++ZZ l=l
 | []=>rfl
 | (k,o)::r=>by
  simp only [Zz,ZZ]
  split
  ·rfl
  ·rw [uF,GZ r]
theorem kg (l:List (Nat×aD)) (j:Nat):za l j=(za (Zz l) j).or (za (ZZ l) j):=by
 conv=>lhs;rw [←GZ l]
 exact vT _ _ _
theorem Jk:∀ {l:List (Nat×aD)},yp l=true→∀ {j:Nat} {o:aD},za (Zz l) j=some o→j < qT∨2000000≤j
 | [],h,j,o,e=>by cases e
 | (k,v)::r,h,j,o,e=>by
  simp only [yp,Zz] at h e
  split at h
  ·rename_i hk;rw [hk] at e;cases e
  ·rename_i hk
   rw [hk] at e
   simp only [uc,uJ] at h
   simp only [za] at e
   split at e
   ·rename_i ek
    subst ek
    rcases h.1 with h1 | h1
    ·exact .inl (by simpa [uC] using h1)
    ·exact .inr (ua h1)
   ·exact Jk h.2 e
structure oy (heap:List (Nat×aD)) (P:Nat) (Ls:List (List Int)):Prop where
 obj:za heap P=some (.af 1 (qv zE Ls))
 tail:ZZ heap=x9 Ls
 out:yp heap=true
theorem oy.aU {heap:List (Nat×aD)} {P:Nat} {Ls:List (List Int)} (h:oy heap P Ls) {k:Nat} {L:List Int} (hL:Ls[k]?=some L) (hk:k < 1000000):za heap (zE+k)=some (.aU 1 L.length):=by
 rw [kg]
 cases e:za (Zz heap) (zE+k) with
 | some o=>have:=Jk h.out e;simp only [zE,qT] at this;omega
 | none=>
  rw [ur,h.tail,vt,if_neg (by simp only [zE,qT];omega),if_pos (by simp only [zE];omega),show zE+k - zE=k by omega,hL];rfl
theorem K9:∀ (Ls:List (List Int)) (b:Nat) (p:Nat×aD),p∈ZY b Ls→∃ (k:Nat) (L:List Int),Ls[k]?=some L∧p=(b+k,.aU 1 L.length)∧b+k < 2000000
 | [],b,p,h=>by simp [ZY] at h
 | L::r,b,p,h=>by
  simp only [ZY] at h
  cases hb:uM b 2000000 with
  | false=>rw [hb] at h;simp at h
  | true=>
   rw [hb,cond_true] at h
   rcases uh.1 h with h | h
   ·exact ⟨0,L,rfl,h,by simpa [uC] using hb⟩
   ·obtain ⟨k,M,h1,h2,h3⟩:=K9 r (b+1) p h
    exact ⟨k+1,M,by simpa using h1,by rw [h2,show b+1+k=b+(k+1) by omega],by omega⟩
theorem Pb {heap:List (Nat×aD)} {Ls:List (List Int)} (ht:ZZ heap=x9 Ls) (ho:yp heap=true):∀ p∈x9 Ls,za heap p.1=some p.2∧p.1 < 2000000∧∀ m,zY m p.2:=by
 intro p hp
 have hnone:∀ j,qT≤j→j < 2000000→za (Zz heap) j=none:=fun j h1 h2=>by
  cases e:za (Zz heap) j with
  | none=>rfl
  | some o=>have:=Jk ho e;omega
 rcases uh.1 hp with rfl | hp
 ·refine ⟨?_,by simp [qT],fun m=>trivial⟩
  rw [kg,hnone _ (un _) (by simp [qT]),ur,ht,vt,if_pos rfl]
 ·obtain ⟨k,L,h1,rfl,h3⟩:=K9 _ _ _ hp
  refine ⟨?_,h3,fun m=>trivial⟩
  simp only
  rw [kg,hnone _ (by simp only [qT,zE];omega) h3,ur,ht,vt,if_neg (by simp only [qT,zE];omega),if_pos ⟨by omega,h3⟩,show zE+k - zE=k by omega,h1]
  rfl
theorem Pc {env env':List (Nat×AV)} {heap heap':List (Nat×aD)} {n:Nat} (he:∀ t x,za env' t=some x→za env t=some x) (h:∀ j o,za heap' j=some o→za heap j=some o):bO ⟨env,heap,n⟩ ⟨env',heap',n⟩:=by
 intro C nt g a w R
 obtain ⟨RE,R⟩:=R
 simp only at RE R
 have E:bV g (za heap) (· < n) w g (za heap') (· < n) w:={bV.refl g (za heap) (· < n) w with
  eu:=fun i b hb _ _ _ _=>.inl hb
  cI:=fun i hb _ _ _ _=>.inl hb
  af:=fun i _ s r h1=>⟨r,h i _ h1,rfl⟩
  cR:=fun i _ s l h1=>⟨l,h i _ h1,un _⟩
  maps:=fun i _ es h1=>⟨es,h i _ h1⟩
  fJ:=fun i _ ll RR s pe h1=>⟨s,pe,h i _ h1⟩}
 refine ⟨g,⟨⟨RE.size,RE.defers,fun t x hx=>(RE.slot t x (he t x hx)).mono E⟩,⟨R.inj,R.lt,fun i o h1=>R.key i o (h i o h1),fun i b o h1 h2=>(R.obj i b o h1 (h i o h2)).keep E rfl rfl,fun i s l h1 h2=>R.cQ i s l (h i _ h1) h2,R.dX,R.fix.eN E⟩⟩,fun g0 cM w0 hm E0=>E0.trans E⟩
theorem Pd {env:List (Nat×AV)} {heap:List (Nat×aD)} {next:Nat} (P n:Nat) (hP:za heap P=some (.af 1 (ub n [.nil]))) (hn:next≤qT) :
  bO ⟨env,heap,next⟩ ⟨env,zk heap P (.af 1 (qv zE (ub n [])))++x9 (ub n []),2000000⟩:=by
 intro C nt g a w R
 obtain ⟨RE,R⟩:=R
 simp only at RE R
 have hPn:P < next:=R.key _ _ hP
 have hmk:qT=999999:=rfl
 have hnb:zE=1000000:=rfl
 have hg:∀ j o,za (zk heap P (.af 1 (qv zE (ub n [])))++x9 (ub n [])) j=some o →
   (j=P∧o=.af 1 (qv zE (ub n [])))∨(j≠P∧j < next∧za heap j=some o)∨(j=qT∧o=.dead)∨(zE≤j∧j < 2000000∧o=.aU 1 0):=fun j o h=>by
  rw [vT,zm] at h
  by_cases e:P=j
  ·rw [if_pos e] at h;cases h;exact .inl ⟨e.symm,rfl⟩
  ·rw [if_neg e] at h
   cases h2:za heap j with
   | some o'=>rw [h2,uV] at h;cases h;exact .inr (.inl ⟨fun e2=>e e2.symm,R.key _ _ h2,rfl⟩)
   | none=>
    rw [h2,ur,vt] at h
    split at h
    ·rename_i e3;cases h;exact .inr (.inr (.inl ⟨e3,rfl⟩))
    ·split at h
     ·rename_i e3
      rw [uy] at h
      split at h
      ·cases h;exact .inr (.inr (.inr ⟨e3.1,e3.2,rfl⟩))
      ·cases h
     ·cases h
 have hold:∀ j o,j < next→j≠P→za (zk heap P (.af 1 (qv zE (ub n [])))++x9 (ub n [])) j=some o→za heap j=some o:=fun j o h1 h2 h3=>by
  rcases hg j o h3 with ⟨e,_⟩ | ⟨_,_,e⟩ | ⟨e,_⟩ | ⟨e,_⟩
  ·exact absurd e h2
  ·exact e
  ·omega
  ·omega
 have E:bV g (za heap) (· < next) w g (za (zk heap P (.af 1 (qv zE (ub n [])))++x9 (ub n []))) (· < 2000000) w:={bV.refl g (za heap) (· < next) w with
  next:=fun i hi=>by have hi:i < next:=hi;show i < 2000000;omega
  eu:=fun i b hb _ _ _ _=>.inl hb
  cI:=fun i hb _ _ _ _=>.inl hb
  af:=fun i hi s r h1=>by
   rcases hg i _ h1 with ⟨e1,e2⟩ | ⟨_,_,e2⟩ | ⟨_,e2⟩ | ⟨_,_,e2⟩
   ·subst e1;cases e2;exact ⟨_,hP,by rw [K6];simp⟩
   ·exact ⟨r,e2,rfl⟩
   ·cases e2
   ·cases e2
  cR:=fun i hi s l h1=>by
   have hi:i < next:=hi
   rcases hg i _ h1 with ⟨_,e2⟩ | ⟨_,_,e2⟩ | ⟨_,e2⟩ | ⟨e1,_,_⟩
   ·cases e2
   ·exact ⟨l,e2,un _⟩
   ·cases e2
   ·omega
  maps:=fun i _ es h1=>by
   rcases hg i _ h1 with ⟨_,e2⟩ | ⟨_,_,e2⟩ | ⟨_,e2⟩ | ⟨_,_,e2⟩
   ·cases e2
   ·exact ⟨es,e2⟩
   ·cases e2
   ·cases e2
  fJ:=fun i _ ll RR s pe h1=>by
   rcases hg i _ h1 with ⟨_,e2⟩ | ⟨_,_,e2⟩ | ⟨_,e2⟩ | ⟨_,_,e2⟩
   ·cases e2
   ·exact ⟨s,pe,e2⟩
   ·cases e2
   ·cases e2}
 refine ⟨g,⟨⟨RE.size,RE.defers,fun t x hx=>(RE.slot t x hx).mono E⟩,⟨R.inj,fun i b h1=>⟨(R.lt i b h1).1,E.next _ (R.lt i b h1).2⟩,fun i o h1 => ?_,fun i b o h1 h2 => ?_,fun i s l h1 h2 => ?_,R.dX,R.fix.eN E⟩⟩,fun g0 cM w0 hm E0=>E0.trans E⟩
 ·show i < 2000000
  rcases hg i o h1 with ⟨e1,_⟩ | ⟨_,e1,_⟩ | ⟨e1,_⟩ | ⟨_,e1,_⟩<;>omega
 ·rcases hg i o h2 with ⟨e1,e2⟩ | ⟨_,_,e2⟩ | ⟨e1,_⟩ | ⟨e1,_,_⟩
  ·subst e1 e2
   have hro:=R.obj _ b _ h1 hP
   simp only [cG] at hro ⊢
   obtain ⟨a1,c,e,a2,a3,a4⟩:=hro
   refine ⟨a1,c,e,a2,fun i r hi => ?_,fun i r j x hi hj => ?_⟩
   ·rw [kb] at hi
    obtain ⟨L,_,rfl⟩:=ud.1 hi
    rfl
   ·rw [kb] at hi
    obtain ⟨L,hL,rfl⟩:=ud.1 hi
    rw [uy] at hL
    split at hL
    ·rename_i hin
     cases hL
     have hj0:j=0:=by
      by_cases hb:zE+i < 2000000
      ·rw [ww hb] at hj
       cases j with
       | zero=>rfl
       | succ j=>simp at hj
      ·rw [yL hb] at hj
       cases j with
       | zero=>rfl
       | succ j=>simp at hj
     subst hj0
     obtain ⟨cv,b1,b2,b3⟩:=a4 i [.nil] 0 .nil (by rw [uy,if_pos hin]) rfl
     refine ⟨cv,b1,b2,?_⟩
     rw [xg b3]
     by_cases hb:zE+i < 2000000
     ·rw [ww hb] at hj
      simp only [uG,Option.some.injEq] at hj
      subst hj
      refine .aS _ _ _ .nil hb fun sz len fw => ?_
      have:sz=1∧len=0:=by
       rcases hg _ _ fw with ⟨e1,_⟩ | ⟨_,e1,_⟩ | ⟨e1,_⟩ | ⟨_,_,e2⟩
       ·omega
       ·omega
       ·omega
       ·cases e2;exact ⟨rfl,rfl⟩
      obtain ⟨rfl,rfl⟩:=this
      refine ⟨un _,fun i row hi=>by simp at hi,fun _=>.inl ⟨?_,rfl⟩⟩
      cases hr:g.ρ (zE+i) with
      | none=>rfl
      | some bb=>
       have h5:zE+i < next:=(R.lt _ _ hr).2
       omega
     ·rw [yL hb] at hj
      simp only [uG,Option.some.injEq] at hj
      subst hj
      exact .ap _ _ .nil
    ·cases hL
  ·exact (R.obj i b o h1 e2).keep E rfl rfl
  ·have h5:i < next:=(R.lt i b h1).2
   omega
  ·have h5:i < next:=(R.lt i b h1).2
   omega
 ·rcases hg i _ h1 with ⟨_,e2⟩ | ⟨_,_,e2⟩ | ⟨_,e2⟩ | ⟨_,_,e2⟩
  ·cases e2
  ·exact R.cQ i s l e2 h2
  ·cases e2
  ·cases e2;rfl
theorem G0:∀ (Ls:List (List Int)) (b:Nat),dQ (qv b Ls) (zb (zI zc) Ls)
 | [],_=>.nil
 | L::r,b=>by
  refine .cons ?_ (G0 r (b+1))
  by_cases hb:b < 2000000
  ·rw [ww hb];exact .cons (.aU _ _) .nil
  ·rw [yL hb];exact .cons (.refl _) .nil
section
inductive Tree:Type 1 where
 | tt
 | bad (why:Nat)
 | step (t:Tree)
 | all (β:Type) (f:β→Tree)
 | and (a b:Tree)
 | eq (β:Type) (a b:β) (t:Tree)
def Tree.Ok:Tree→Prop
 | .tt=>True
 | .bad _=>False
 | .step t=>t.Ok
 | .all _ f=>∀ v,(f v).Ok
 | .and a b=>a.Ok∧b.Ok
 | .eq _ a b t=>a=b∧t.Ok
def Tree.norm:Tree→Tree
 | .tt=>.tt
 | .bad _=>.tt
 | .step t=>.step t.norm
 | .all β f=>.all β fun v=>(f v).norm
 | .and a b=>.and a.norm b.norm
 | .eq β a _ t=>.eq β a a t.norm
theorem Tree.ok:∀ {t:Tree},t=t.norm→t.Ok:=by
 intro t
 induction t with
 | tt=>exact fun _=>trivial
 | bad _=>intro h;cases h
 | step t ih=>intro h;simp only [Tree.norm,Tree.step.injEq] at h;exact ih h
 | all β f ih=>
  intro h v
  simp only [Tree.norm,Tree.all.injEq,heq_eq_eq,true_and] at h
  exact ih v (congrFun h v)
 | and a b iha ihb=>intro h;simp only [Tree.norm,Tree.and.injEq] at h;exact ⟨iha h.1,ihb h.2⟩
 | eq β a b t ih=>intro h;simp only [Tree.norm,Tree.eq.injEq,heq_eq_eq,true_and] at h;exact ⟨h.1.symm,ih h.2⟩
abbrev G1:=List eS×List Prop
abbrev zU:=List (Nat×G1)
def bp (Φ:zU):Prop:=∀ k f,za Φ k=some f→cK f.2
structure Spec (β:Type) where
 ks:List Nat
 ov:β→List (Nat×AV)
 hs:List Nat
 oh:β→List (Nat×aD)
 nx:Nat
 B0:∀ b,cw nx (oh b)
 ns:β→Option (List (List Int))
def V7 (hs:List Nat):List (Nat×aD)→List (Nat×aD)
 | []=>[]
 | (k,o)::r=>match uw k qT with
  | true=>[]
  | false=>match hs.contains k with
   | true=>(k,o)::V7 hs r
   | false=>V7 hs r
def Jl:Option (List (List Int))→List (Nat×aD)
 | Option.none=>[]
 | some Ls=>x9 Ls
abbrev Spec.k {β:Type} (ks:List Nat) (ov:β→List (Nat×AV)) (hs:List Nat) (oh:β→List (Nat×aD)) (nx:Nat) (B0:∀ b,cw nx (oh b)):Spec β:=⟨ks,ov,hs,oh,nx,B0,fun _=>Option.none⟩
def Spec.st {β:Type} (sp:Spec β) (st:St) (b:β):St:=⟨sp.ov b++qC sp.ks st.env,sp.oh b++(V7 sp.hs st.heap++Jl (sp.ns b)),sp.nx⟩
def Spec.fA {β:Type} (sp:Spec β) (st:St) (idx:Nat) (n:Int) (b:β):St:=⟨(idx,vI n)::(sp.ov b++qC sp.ks st.env),sp.oh b++(V7 sp.hs st.heap++Jl (sp.ns b)),sp.nx⟩
structure eC where
 to:St→St
 T:St→Tree→Tree
 ok:∀ st t,(T st t).Ok→t.Ok∧bO st (to st)∧st.next≤(to st).next
structure rE (β:Type) where
 x:Option β
 T:cA→St→(β→St→Tree)→Tree
 ok:∀ (C:bz) (nt:Fr) (c:cA) (st:St) (k:β→St→Tree) (K:Exit→St→Prop) (b:β),x=some b→(T c st k).Ok→(∀ s,(k b s).Ok→K .normal s)→cB C nt c K st
inductive az:Type→Type 1 where
 | ret {α:Type} (a:α):az α
 | fin {α:Type} (ids:List Nat) (V:AV) (bU:List (Nat×aD)) (iv:IV) (h:Dn [V] bU [iv]) (a:α):az α
 | sL {α:Type} (x y:AV) (h:nJ x y) (a:α):az α
 | none {α:Type}:az α
 | bind {α β:Type} (x:Option β) (F:β→zU) (h:∀ v,x=some v→bp (F v)) (k:β→az α):az α
 | ite {α:Type} (key:Nat) (b:Bool) (p q:az α):az α
 | fact {α:Type} (key:Nat) (o:List eS) (ps:List Prop) (h:cK ps) (p:az α):az α
 | use {α:Type} (j key:Nat) (p:az α):az α
 | case {α β γ:Type} (o:β ⊕ γ) (p:β→az α) (q:γ→az α):az α
 | cut {α β:Type} (n:Nat) (sp:Spec β) (p:az β) (k:β→az α):az α
 | ei {α β γ:Type} (n:Nat) (sp:Spec β) (p:az (β ⊕ γ)) (k:β ⊕ γ→az α):az α
 | aE {α σ ρ:Type} (key idx:Nat) (n:Int) (s0:σ) (sp:Spec σ) (body:Nat→σ→az (σ ⊕ ρ)) (k:σ ⊕ ρ→az α):az α
 | iter {α σ ρ:Type} (s0:σ) (sp:Spec σ) (body:σ→az (σ ⊕ ρ)) (k:ρ→az α):az α
 | cC {α:Type} (n:Nat) (ws:List eC) (p:az α):az α
 | aA {α:Type} (n:Nat) (p:az α):az α
 | tT {α β:Type} (n:Nat) (m:rE β) (k:β→az α):az α
 | oz {α:Type} (key:Nat) (n:Int) (len i:Nat) (h:uM i len=true) (p q:az α):az α
noncomputable def az.run {α:Type} (p:az α):Option α:=az.rec (motive:=fun α _=>Option α)
 (fun a=>some a) (fun _ _ _ _ _ a=>some a) (fun _ _ _ a=>some a) Option.none
 (fun x _ _ _ ih=>ui x ih) (fun _ b _ _ iD lX=>bif b then iD else lX) (fun _ _ _ _ _ ih=>ih) (fun _ _ _ ih=>ih)
 (fun o _ _ iD lX=>Sum.elim iD lX o) (fun _ _ _ _ iD sM=>ui iD sM) (fun _ _ _ _ iD sM=>ui iD sM)
 (fun _ _ n s0 _ _ _ ihb sM=>ui (Go.Proofs.YtlpmnmbebkdocaaGreatDoor.aE n ihb s0) sM)
 (fun s0 _ _ _ ihb sM=>ui (Go.Proofs.YtlpmnmbebkdocaaGreatDoor.iter ihb s0) sM) (fun _ _ _ ih=>ih) (fun _ _ ih=>ih) (fun _ m _ ih=>ui m.x ih) (fun _ n _ i _ _ _ iD lX=>bif n == (i:Int) then iD else lX) p
noncomputable def settle {α:Type} (p:az α) (Φ:zU) (k:zU→az α→Tree):Tree:=az.rec (motive:=fun α _=>zU→(zU→az α→Tree)→Tree)
 (fun a Φ k=>k Φ (.ret a)) (fun ids V bU iv h a Φ k=>k Φ (.fin ids V bU iv h a)) (fun x y h a Φ k=>k Φ (.sL x y h a)) (fun Φ k=>.tt)
 (fun {_ β} x F h _ ih Φ k=>.all β fun v=>ih v (F v++Φ) k)
 (fun key b _ _ iD lX Φ k=>.and (iD ((key,([.g true],[b=true]))::(key+1,([.g false],[(!b)=false]))::Φ) k) (lX ((key,([.g false],[b=false]))::(key+1,([.g true],[(!b)=true]))::Φ) k))
 (fun key o ps h _ ih Φ k=>ih ((key,(o,ps))::Φ) k) (fun j key p _ Φ k=>k Φ (.use j key p))
 (fun o _ _ iD lX Φ k=>match o with
  | .inl a=>iD a Φ k
  | .inr b=>lX b Φ k)
 (fun n sp p kk _ _ Φ k=>k Φ (.cut n sp p kk)) (fun n sp p kk _ _ Φ k=>k Φ (.ei n sp p kk))
 (fun key idx n s0 sp body kk _ _ Φ k=>k Φ (.aE key idx n s0 sp body kk)) (fun s0 sp body kk _ _ Φ k=>k Φ (.iter s0 sp body kk))
 (fun n ws p _ Φ k=>k Φ (.cC n ws p)) (fun n p _ Φ k=>k Φ (.aA n p)) (fun n m kk _ Φ k=>k Φ (.tT n m kk))
 (fun key n len i _ _ _ iD lX Φ k=>.and (iD ((key,([.k i],[X7 n 0 len i]))::Φ) k) (lX Φ k)) p Φ k
theorem bp.add {Φ:zU} (h:bp Φ) {key:Nat} {f:G1} (hf:cK f.2):bp ((key,f)::Φ):=fun k g hg=>by
 simp only [za] at hg
 split at hg
 ·cases hg;exact hf
 ·exact h k g hg
theorem G2 {α:Type}:∀ {l m:List (Nat×α)} {k:Nat} {x:α},za (l++m) k=some x→za l k=some x∨za m k=some x
 | [],m,k,x,h=>.inr h
 | (k',y)::l,m,k,x,h=>by
  simp only [uF,za] at h ⊢
  split at h
  ·rename_i e;rw [if_pos e];exact .inl h
  ·rename_i e;rw [if_neg e];exact G2 h
theorem bp.app {Φ Ψ:zU} (h:bp Φ) (h':bp Ψ):bp (Φ++Ψ):=fun k f hf=>(G2 hf).elim (h k f) (h' k f)
theorem bp.nil:bp []:=fun _ _ h=>by cases h
theorem q7 {α:Type} (p:az α):∀ {Φ:zU} {k:zU→az α→Tree} {r:α},bp Φ→(settle p Φ k).Ok→p.run=some r→∃ Φ' p',bp Φ'∧p'.run=some r∧(k Φ' p').Ok:=by
 induction p with
 | ret a=>exact fun hΦ hk hr=>⟨_,_,hΦ,hr,hk⟩
 | fin ids V bU iv h a=>exact fun hΦ hk hr=>⟨_,_,hΦ,hr,hk⟩
 | sL x y h a=>exact fun hΦ hk hr=>⟨_,_,hΦ,hr,hk⟩
 | none=>intro Φ k r hΦ hk hr;cases hr
 | bind x F h kk ih=>
  intro Φ k r hΦ hk hr
  obtain ⟨v,h1,h2⟩:=xY hr
  exact ih v ((h v h1).app hΦ) (hk v) h2
 | ite key b p q iD lX=>
  intro Φ k r hΦ hk hr
  have hr':(bif b then p.run else q.run)=some r:=hr
  cases b with
  | true=>exact iD ((hΦ.add (f:=([.g false],[(!true)=false])) (.cons rfl .nil)).add (f:=([.g true],[true=true])) (.cons rfl .nil)) hk.1 hr'
  | false=>exact lX ((hΦ.add (f:=([.g true],[(!false)=true])) (.cons rfl .nil)).add (f:=([.g false],[false=false])) (.cons rfl .nil)) hk.2 hr'
 | fact key o ps h p ih=>exact fun hΦ hk hr=>ih (hΦ.add (f:=(o,ps)) h) hk hr
 | use j key p ih=>exact fun hΦ hk hr=>⟨_,_,hΦ,hr,hk⟩
 | case o p q iD lX=>
  intro Φ k r hΦ hk hr
  cases o with
  | inl a=>exact iD a hΦ hk hr
  | inr b=>exact lX b hΦ hk hr
 | cut n sp p kk _ _=>exact fun hΦ hk hr=>⟨_,_,hΦ,hr,hk⟩
 | ei n sp p kk _ _=>exact fun hΦ hk hr=>⟨_,_,hΦ,hr,hk⟩
 | aE key idx n s0 sp body kk _ _=>exact fun hΦ hk hr=>⟨_,_,hΦ,hr,hk⟩
 | iter s0 sp body kk _ _=>exact fun hΦ hk hr=>⟨_,_,hΦ,hr,hk⟩
 | cC n ws p ih=>exact fun hΦ hk hr=>⟨_,_,hΦ,hr,hk⟩
 | aA n p ih=>exact fun hΦ hk hr=>⟨_,_,hΦ,hr,hk⟩
 | tT n m kk ih=>exact fun hΦ hk hr=>⟨_,_,hΦ,hr,hk⟩
 | oz key n len i hi p q iD lX=>
  intro Φ k r hΦ hk hr
  have hr':(bif n == (i:Int) then p.run else q.run)=some r:=hr
  have hlt:i < len:=by simpa [uC] using hi
  by_cases e:n=(i:Int)
  ·rw [show (n == (i:Int))=true by simp [e]] at hr'
   exact iD (hΦ.add (f:=([.k i],[X7 n 0 len i])) (.cons ⟨by omega,by omega,by omega⟩ .nil)) hk.1 hr'
  ·rw [show (n == (i:Int))=false by simp [e]] at hr'
   exact lX hΦ hk.2 hr'
def az.used {α:Type} (p:az α) (j:Nat):Option (Nat×az α):=match p with
 | .use j' key q=>match uw j' j with
  | true=>some (key,q)
  | false=>Option.none
 | _=>Option.none
theorem W7 {α:Type} {p q:az α} {j key:Nat} (h:p.used j=some (key,q)):q.run=p.run:=by
 unfold az.used at h
 split at h
 ·split at h
  ·cases h;rfl
  ·cases h
 ·cases h
abbrev YT:=(l id:Nat)→(args:List AV)→(heap:List (Nat×aD))→(next:Nat)→(α:Type)→zU→az α→(AV→List (Nat×aD)→Nat→zU→az α→Tree)→Tree
def rF:YT:=fun _ _ _ _ _ _ _ _ _=>.bad 1183
def B1 (C:bz) (Yt:YT):Prop:=∀ (l id:Nat) (args:List AV) (heap:List (Nat×aD)) (next:Nat) (α:Type) (Φ:zU) (p:az α) (k:AV→List (Nat×aD)→Nat→zU→az α→Tree) (r:α) (KK:AV→List (Nat×aD)→Nat→Prop),bp Φ→p.run=some r→(Yt l id args heap next α Φ p k).Ok →
 (∀ v h n Φ' p',bp Φ'→p'.run=some r→(k v h n Φ' p').Ok→KK v h n)→C.Y l id args heap next KK
theorem V8 (C:bz):B1 C rF:=fun _ _ _ _ _ _ _ _ _ _ _ _ _ h _=>h.elim
def Y9 (op:cO) (st:St):Option (Nat×Nat×List AV):=match op with
 | .call f args=>match zd st.env f with
  | .eH l id=>some (l,id,args.map (zd st.env))
  | _=>Option.none
 | _=>Option.none
theorem Pe {op:cO} {st:St} {l id:Nat} {args:List AV} (h:Y9 op st=some (l,id,args)):∃ f cH,op=.call f cH∧zd st.env f=.eH l id∧args=cH.map (zd st.env):=by
 unfold Y9 at h
 split at h
 ·split at h
  ·rename_i e;cases h;exact ⟨_,_,rfl,e,rfl⟩
  ·cases h
 ·cases h
section
variable (C:Ctx)
def A0 (dr:Option (List Nat)) (op:cO) (X:Nat) (st:St):St:=match dr with
 | Option.none=>st
 | some _=>match fR op with
  | true=>⟨st.env,st.heap,X⟩
  | false=>st
def B2 {α:Type} (dr:Option (List Nat)) (X:Nat) (dst:Option Nat) (j:Nat) (W R:List (Nat×Nat)) (D:List Nat) (st:St) (r:AV) (aN:List (Nat×aD)) (rd:List Nat) (d:Nat) (next:List (Nat×Nat)→List (Nat×Nat)→List Nat→St→Nat→zU→az α→Tree) (Φ:zU) (q:az α):Tree:=match dr with
 | Option.none=>next W R (X8 D dst) (st.mP dst r aN d) X Φ q
 | some ord=>match xh ord j W R (z6 aN) rd with
  | true=>next (qY j (z6 aN) W) (qY j rd R) (X8 D dst) (st.after dst r aN) (X+d) Φ q
  | false=>.bad 1215
def DB {α:Type} (dr:Option (List Nat)) (X:Nat) (it:aM) (j:Nat) (W R:List (Nat×Nat)) (D:List Nat) (st:St) (Φ:zU) (p:az α) (next:List (Nat×Nat)→List (Nat×Nat)→List Nat→St→Nat→zU→az α→Tree):Tree:=match p.used j with
 | Option.none=>match gH C it.op [] D (A0 dr it.op X st) with
  | some (r,aN,rd,_,[],d)=>B2 dr X it.dst j W R D st r aN rd d next Φ p
  | _=>.bad 1209
 | some (key,q)=>match za Φ key with
  | Option.none=>.bad 1211
  | some (o,ps)=>match gH C it.op o D (A0 dr it.op X st) with
   | some (r,aN,rd,_,ps',d)=>.eq (List Prop) ps' ps (B2 dr X it.dst j W R D st r aN rd d next Φ q)
   | Option.none=>.bad 1216
def DC {α:Type} (gd:Option (Nat×Bool)) (j:Nat) (D:List Nat) (st:St) (Φ:zU) (p:az α) (next:Bool→List Nat→St→zU→az α→Tree):Tree:=match Xc gd [] D st with
 | some (b,_,[],D',aX)=>next b D' aX Φ p
 | some (_,_,_::_,_,_)=>.bad 1221
 | Option.none=>match p.used j with
  | Option.none=>.bad 1223
  | some (key,q)=>match za Φ key with
   | Option.none=>.bad 1225
   | some (o,ps)=>match Xc gd o D st with
    | some (b,_,ps',D',aX)=>.eq (List Prop) ps' ps (next b D' aX Φ q)
    | Option.none=>.bad 1228
noncomputable def DD {α:Type} (Yt:YT) (dr:Option (List Nat)) (X:Nat) (it:aM) (j:Nat) (W R:List (Nat×Nat)) (D:List Nat) (st:St) (Φ:zU) (p:az α) (next:List (Nat×Nat)→List (Nat×Nat)→List Nat→St→Nat→zU→az α→Tree):Tree:=match Y9 it.op st with
 | Option.none=>DB C dr X it j W R D st Φ p next
 | some (l,id,args)=>match dr with
  | Option.none=>Yt l id args st.heap st.next α Φ p fun r heap nx Φ p=>next W R (X8 D it.dst) (St.put {env:=st.env,heap:=heap,next:=nx+1} it.dst r) X Φ p
  | some _=>.bad 1234
noncomputable def Jm {α:Type} (Yt:YT) (dr:Option (List Nat)):List aM→Nat→Nat→List (Nat×Nat)→List (Nat×Nat)→List Nat→St→zU→az α→(St→zU→az α→Tree)→Tree
 | [],_,X,_,_,_,st,Φ,p,k=>k (match dr with
  | Option.none=>st
  | some _=>⟨st.env,st.heap,X⟩) Φ p
 | it::rest,j,X,W,R,D,st,Φ,p,k=>settle p Φ fun Φ p=>DC it.guard j D st Φ p fun b D st Φ p=>match b with
  | false=>Jm Yt dr rest (j+1) X W R (X8 D it.dst) (st.after it.dst .undef []) Φ p k
  | true=>settle p Φ fun Φ p=>DD C Yt dr X it j W R D st Φ p fun W R D st X Φ p=>Jm Yt dr rest (j+1) X W R D st Φ p k
end
section
variable {C:Ctx}
theorem G3 {α:Type} {gd:Option (Nat×Bool)} {j:Nat} {D:List Nat} {st:St} {Φ:zU} {p:az α} {next:Bool→List Nat→St→zU→az α→Tree} {r:α} (hΦ:bp Φ) (hr:p.run=some r) (h:(DC gd j D st Φ p next).Ok) :
  ∃ b D' q,z8 st.env gd=some b∧q.run=some r∧(next b D' st Φ q).Ok:=by
 unfold DC at h
 split at h
 ·rename_i b _ D' aX hg
  obtain ⟨rfl,h1⟩:=yK hg .nil
  exact ⟨b,D',p,h1,hr,h⟩
 ·exact h.elim
 ·split at h
  ·exact h.elim
  ·rename_i key q hu
   split at h
   ·exact h.elim
   ·rename_i o ps hk
    split at h
    ·rename_i b _ ps' D' aX hg
     obtain ⟨h1,h2⟩:=h
     subst h1
     obtain ⟨rfl,h3⟩:=yK hg (hΦ _ _ hk)
     exact ⟨b,D',q,h3,(W7 hu).trans hr,h2⟩
    ·exact h.elim
theorem G4 {α:Type} {dr:Option (List Nat)} {X:Nat} {it:aM} {j:Nat} {W R:List (Nat×Nat)} {D:List Nat} {st:St} {Φ:zU} {p:az α} {next:List (Nat×Nat)→List (Nat×Nat)→List Nat→St→Nat→zU→az α→Tree} {r:α} (hΦ:bp Φ) (hr:p.run=some r) (h:(DB C dr X it j W R D st Φ p next).Ok) :
  ∃ o x aN rd o' ps d q,gH C it.op o D (A0 dr it.op X st)=some (x,aN,rd,o',ps,d)∧cK ps∧q.run=some r∧(B2 dr X it.dst j W R D st x aN rd d next Φ q).Ok:=by
 unfold DB at h
 split at h
 ·split at h
  ·rename_i x aN rd o' d hop
   exact ⟨[],x,aN,rd,o',[],d,p,hop,.nil,hr,h⟩
  ·exact h.elim
 ·rename_i key q hu
  split at h
  ·exact h.elim
  ·rename_i o ps hk
   split at h
   ·rename_i x aN rd o' ps' d hop
    obtain ⟨h1,h2⟩:=h
    subst h1
    exact ⟨o,x,aN,rd,o',ps',d,q,hop,hΦ _ _ hk,(W7 hu).trans hr,h2⟩
   ·exact h.elim
theorem Jn {C:bz} {Yt:YT} (hY:B1 C Yt) {α:Type} {r:α} {K:St→Prop} {k:St→zU→az α→Tree} (hK:∀ st Φ p,bp Φ→p.run=some r→(k st Φ p).Ok→K st):∀ (items:List aM) (j X:Nat) (W R:List (Nat×Nat)) (D:List Nat) (st:St) (Φ:zU) (p:az α),
  bp Φ→p.run=some r→(Jm C Yt Option.none items j X W R D st Φ p k).Ok→mj C items K st
 | [],j,X,W,R,D,st,Φ,p,hΦ,hr,h=>hK st Φ p hΦ hr h
 | it::rest,j,X,W,R,D,st,Φ,p,hΦ,hr,h=>by
  simp only [Jm] at h
  obtain ⟨Φ1,p1,iK,ct,h1⟩:=q7 p hΦ h hr
  obtain ⟨b,D2,p2,hg,cz,h2⟩:=G3 iK ct h1
  refine Y3 hg (fun hb => ?_) (fun hb => ?_)
  ·subst hb
   obtain ⟨Φ3,p3,lY,eO,h3⟩:=q7 p2 iK h2 cz
   unfold DD at h3
   split at h3
   ·obtain ⟨o,x,aN,rd,o',ps,d,q,e1,e2,e4,e5⟩:=G4 lY eO h3
    exact GD e1 e2 (Jn hY hK rest _ _ _ _ _ _ _ _ lY e4 e5)
   ·rename_i l id args Pf
    obtain ⟨f,cH,hop,hf,rfl⟩:=Pe Pf
    rw [hop]
    simp only [bX,hf,VT]
    exact hY _ _ _ _ _ _ _ _ _ _ _ lY eO h3 (fun v h n Φ' p' a1 a2 a3=>Jn hY hK rest _ _ _ _ _ _ _ _ a1 a2 a3)
  ·subst hb
   exact Jn hY hK rest _ _ _ _ _ _ _ _ iK cz h2
theorem Pg {op:cO} {b8 o':List eS} {D:List Nat} {st:St} {X:Nat} {r:AV} {aN:List (Nat×aD)} {rd:List Nat} {ps:List Prop} {d:Nat} {ord:List Nat} {dst:Option Nat} {gd:Option (Nat×Bool)} (hg:z8 st.env gd=some true) (h:gH C op b8 D (A0 (some ord) op X st)=some (r,aN,rd,o',ps,d)) (hp:cK ps) :
  ny C ⟨dst,op,gd⟩ st ⟨dst,r,aN,rd,uR X d⟩:=by
 unfold A0 at h
 simp only at h
 split at h
 ·rename_i hc
  cases op<;>first | (cases hc;done) | skip
  rename_i f args
  simp only [ny,hg]
  simp only [gH] at h
  unfold Dp at h
  split at h
  ·rename_i f' first bt hf
   have hf':zd st.env f=.func f' first bt:=hf
   simp only [hf']
   split at h
   ·split at h
    ·rename_i dx hiv
     split at h
     ·rename_i hm;cases h;exact dz.pure (d:=5) hp.one hm hiv
     ·cases h
    ·cases h
   ·split at h
    ·rename_i bU ho
     split at h
     ·rename_i hm
      cases h
      cases hp with
      | cons h1 h2=>exact dz.AR (d:=5) h1 ho (KX ho) h2.one hm
     ·cases h
    ·cases h
   ·split at h
    ·rename_i bU ho
     split at h
     ·rename_i hm
      cases h
      exact dz.dA hp.one hm ho
     ·cases h
    ·cases h
   ·cases h
  ·cases h
 ·rename_i hc
  obtain ⟨e,hr,rfl⟩:=GC hc h hp
  cases op<;>first | (cases hc;done) | (simp only [ny,hg];exact ⟨e,hr,rfl⟩)
theorem G5 {Yt:YT} {α:Type} {r:α} {K:St→Prop} {ord:List Nat} {k:St→zU→az α→Tree} (hK:∀ st Φ p,bp Φ→p.run=some r→(k st Φ p).Ok→K st):∀ (items:List aM) (X:Nat) (W R:List (Nat×Nat)) (D:List Nat) (st:St) (Φ:zU) (p:az α) (pre:List Rec),
  bp Φ→p.run=some r→(Jm C Yt (some ord) items pre.length X W R D st Φ p k).Ok →
  (∀ (i:Nat) (ri:Rec) (x:Nat),pre[i]?=some ri→x∈z6 ri.aN→(i,x)∈W)→(∀ (i:Nat) (ri:Rec) (x:Nat),pre[i]?=some ri→x∈ri.rd→(i,x)∈R) →
  (∀ (i j:Nat) (ri rj:Rec),pre[i]?=some ri→pre[j]?=some rj→i < j→jU ri rj=true→ed ord i j=true) →
  ∃ recs aX M,Qq C items st recs aX∧(∀ (i j:Nat) (ri rj:Rec),(pre++recs)[i]?=some ri→(pre++recs)[j]?=some rj→i < j→jU ri rj=true→ed ord i j=true)∧X≤M ∧
   (∀ rc∈recs,∀ i∈rc.ex,X≤i∧i < M)∧(∀ (k l:Nat) (rk rl:Rec) (i:Nat),recs[k]?=some rk→recs[l]?=some rl→i∈rk.ex→i∈rl.ex→k=l)∧K ⟨aX.env,aX.heap,M⟩
 | [],X,W,R,D,st,Φ,p,pre,hΦ,hr,h,hW,hR,hp=>⟨[],st,X,rfl,by simpa using hp,un _,by simp,by simp,hK _ Φ p hΦ hr h⟩
 | it::rest,X,W,R,D,st,Φ,p,pre,hΦ,hr,h,hW,hR,hp=>by
  simp only [Jm] at h
  obtain ⟨Φ1,p1,iK,ct,h1⟩:=q7 p hΦ h hr
  obtain ⟨b,D2,p2,hg,cz,h2⟩:=G3 iK ct h1
  obtain ⟨rc,d,W',R',D',q,Φ',ff,iq,hex,hok,tU,G6,Ph,hq,mJ⟩:∃ (rc:Rec) (d:Nat) (W' R':List (Nat×Nat)) (D':List Nat) (q:az α) (Φ':zU),rc.dst=it.dst∧ny C it st rc∧rc.ex=uR X d∧xh ord pre.length W R (z6 rc.aN) rc.rd=true ∧
    (∀ p∈qY pre.length (z6 rc.aN) W,p∈W')∧(∀ p∈qY pre.length rc.rd R,p∈R')∧bp Φ'∧q.run=some r ∧
    (Jm C Yt (some ord) rest (pre.length+1) (X+d) W' R' D' (st.after it.dst rc.r rc.aN) Φ' q k).Ok:=by
   cases b with
   | false=>
    refine ⟨⟨it.dst,.undef,[],[],[]⟩,0,W,R,_,p2,Φ1,rfl,?_,rfl,Ov _ _ _ _,fun p hp=>by simpa [qY,z6] using hp,fun p hp=>by simpa [qY] using hp,iK,cz,h2⟩
    simp only [ny,hg,and_self]
   | true=>
    obtain ⟨Φ3,p3,lY,eO,h3⟩:=q7 p2 iK h2 cz
    unfold DD at h3
    split at h3
    case h_2=>exact h3.elim
    obtain ⟨o,x,aN,rd,o',ps,d,q,e1,e2,e4,e5⟩:=G4 lY eO h3
    unfold B2 at e5
    simp only at e5
    split at e5
    ·rename_i hok
     exact ⟨⟨it.dst,x,aN,rd,uR X d⟩,d,_,_,_,q,Φ3,rfl,Pg hg e1 e2,rfl,hok,fun p hp=>hp,fun p hp=>hp,lY,e4,e5⟩
    ·exact e5.elim
  have hlen:(pre++[rc]).length=pre.length+1:=by simp
  have split:∀ (i:Nat) (ri:Rec),(pre++[rc])[i]?=some ri→pre[i]?=some ri∨(i=pre.length∧ri=rc):=fun i ri hi=>by
   rw [List.getElem?_append] at hi
   split at hi
   ·exact .inl hi
   ·rename_i hge
    rcases Nat.eq_or_lt_of_le (Nat.le_of_not_lt hge) with e | e
    ·rw [←e] at hi;simp at hi;exact .inr ⟨e.symm,hi.symm⟩
    ·have:i - pre.length≠0:=by omega
     obtain ⟨m,hm⟩:=Nat.exists_eq_succ_of_ne_zero this
     rw [hm] at hi;simp at hi
  obtain ⟨recs,aX,M,h4,h5,h6,h7,h8,h9⟩:=G5 hK rest (X+d) W' R' D' (st.after it.dst rc.r rc.aN) Φ' q (pre++[rc]) Ph hq (by rw [hlen];exact mJ)
   (fun i ri x hi hx=>by
    rcases split i ri hi with hi | ⟨rfl,rfl⟩
    ·exact tU _ (uz _ (hW i ri x hi hx))
    ·exact tU _ (ut _ (uP.2 ⟨x,hx,rfl⟩)))
   (fun i ri x hi hx=>by
    rcases split i ri hi with hi | ⟨rfl,rfl⟩
    ·exact G6 _ (uz _ (hR i ri x hi hx))
    ·exact G6 _ (ut _ (uP.2 ⟨x,hx,rfl⟩)))
   (fun i j ri rj hi hj hlt hc=>by
    rcases split j rj hj with hj | ⟨rfl,rfl⟩
    ·rcases split i ri hi with hi | ⟨rfl,rfl⟩
     ·exact hp i j ri rj hi hj hlt hc
     ·have:=(ug.1 hj).1;omega
    ·rcases split i ri hi with hi | ⟨rfl,rfl⟩
     ·simp only [xh,uc,uQ] at hok
      simp only [jU,uJ,List.any_eq_true] at hc
      rcases hc with ⟨x,hx,hc⟩ | ⟨x,hx,hc⟩
      ·have:=hok.1 (i,x) (hW i ri x hi hx)
       simp only [uJ,Bool.not_eq_true',Bool.or_eq_false_iff] at this
       rcases this with ⟨h7,h8⟩ | h7
       ·simp only [h7,h8] at hc;simp at hc
       ·exact h7
      ·have:=hok.2 x hx (i,x) (hR i ri x hi (by simpa using hc))
       simpa using this
     ·omega)
  have sN:∀ i,i∈rc.ex→X≤i∧i < X+d:=fun i hi=>by rw [hex,List.mem_range'_1] at hi;omega
  refine ⟨rc::recs,aX,M,⟨ff,iq,h4⟩,?_,by omega,fun r' hr' i hi => ?_,fun k l rk rl i hk hl hik ru => ?_,h9⟩
  ·simpa using h5
  ·rcases uh.1 hr' with rfl | hr'
   ·have:=sN i hi;omega
   ·have:=h7 r' hr' i hi;omega
  ·cases k with
   | zero=>
    simp at hk
    subst hk
    cases l with
    | zero=>rfl
    | succ l=>
     have h10:=h7 rl (uu (by simpa using hl)) i ru
     have:=sN i hik
     omega
   | succ k=>
    cases l with
    | zero=>
     simp at hl
     subst hl
     have h10:=h7 rk (uu (by simpa using hk)) i hik
     have:=sN i ru
     omega
    | succ l=>rw [h8 k l rk rl i (by simpa using hk) (by simpa using hl) hik ru]
theorem Pj {C:bz} {nt:Fr} {Yt:YT} {α:Type} {r:α} {K:Exit→St→Prop} {ord:List Nat} {ks:Option (List Nat)} {k:St→zU→az α→Tree} (hK:∀ st Φ p,bp Φ→p.run=some r→(k st Φ p).Ok→K .normal (st.keep ks)) {items:List aM} {st:St} {Φ:zU} {p:az α}
  (hΦ:bp Φ) (hr:p.run=some r) (h:(Jm C Yt (some ord) items 0 (st.next+items.length) [] [] [] st Φ p k).Ok):cB C nt (.region true ord items ks) K st:=by
 obtain ⟨recs,aX,M,h1,h2,h3,h4,h5,h6⟩:=G5 (C:=C) (K:=fun st=>K .normal (st.keep ks)) hK items (st.next+items.length) [] [] [] st Φ p [] hΦ hr h (by simp) (by simp) (by simp)
 have hl:=Ja h1
 obtain ⟨_,_,hn⟩:=W0 items st recs aX 0 (fun _=>true) h1 (fun _ _=>rfl)
 exact W2 h1 (W3 (by simpa using h2)) ⟨fun k rc i hk hi=>by rw [hl];exact (h4 rc (uu hk) i hi).1,h5⟩ M (by omega) (fun rc hrc i hi=>(h4 rc hrc i hi).2) h6
end
def V9 (m:Nat) (env:List (Nat×AV)) (t:Tree):List (Nat×AV)→Tree
 | []=>t
 | (k,b)::l=>match za env k with
  | some a=>match zX m b with
   | true=>.eq AV a b (V9 m env t l)
   | false=>.bad 1340
  | Option.none=>.bad 1341
def B3 (m:Nat) (heap:List (Nat×aD)) (t:Tree):List (Nat×aD)→Tree
 | []=>t
 | (k,b)::l=>match za heap k with
  | some a=>match Y5 m b&&decide (k < m) with
   | true=>.eq aD a b (B3 m heap t l)
   | false=>.bad 1347
  | Option.none=>.bad 1348
def B4 (heap:List (Nat×aD)) (t:Tree):List (Nat×aD)→Tree
 | []=>t
 | (k,b)::l=>match za heap k with
  | some a=>.eq aD a b (B4 heap t l)
  | Option.none=>.bad 1353
theorem W8 {m:Nat} {env:List (Nat×AV)} {t:Tree}:∀ {l:List (Nat×AV)},(V9 m env t l).Ok→t.Ok∧∀ p∈l,za env p.1=some p.2∧zX m p.2=true
 | [],h=>⟨h,fun p hp=>by cases hp⟩
 | (k,b)::l,h=>by
  simp only [V9] at h
  split at h
  ·rename_i a ha
   split at h
   ·rename_i hb
    obtain ⟨rfl,h2⟩:=h
    obtain ⟨h3,h4⟩:=W8 h2
    refine ⟨h3,fun p hp => ?_⟩
    rcases uh.1 hp with rfl | hp
    ·exact ⟨ha,hb⟩
    ·exact h4 p hp
   ·exact h.elim
  ·exact h.elim
theorem G7 {m:Nat} {heap:List (Nat×aD)} {t:Tree}:∀ {l:List (Nat×aD)},(B3 m heap t l).Ok→t.Ok∧∀ p∈l,za heap p.1=some p.2∧p.1 < m∧zY m p.2
 | [],h=>⟨h,fun p hp=>by cases hp⟩
 | (k,b)::l,h=>by
  simp only [B3] at h
  split at h
  ·rename_i a ha
   split at h
   ·rename_i hb
    simp only [uc,decide_eq_true_eq] at hb
    obtain ⟨rfl,h2⟩:=h
    obtain ⟨h3,h4⟩:=G7 h2
    refine ⟨h3,fun p hp => ?_⟩
    rcases uh.1 hp with rfl | hp
    ·exact ⟨ha,hb.2,vQ hb.1⟩
    ·exact h4 p hp
   ·exact h.elim
  ·exact h.elim
theorem G8 {heap:List (Nat×aD)} {t:Tree}:∀ {l:List (Nat×aD)},(B4 heap t l).Ok→t.Ok∧∀ p∈l,za heap p.1=some p.2
 | [],h=>⟨h,fun p hp=>by cases hp⟩
 | (k,b)::l,h=>by
  simp only [B4] at h
  split at h
  ·rename_i a ha
   obtain ⟨rfl,h2⟩:=h
   obtain ⟨h3,h4⟩:=G8 h2
   refine ⟨h3,fun p hp => ?_⟩
   rcases uh.1 hp with rfl | hp
   ·exact ha
   ·exact h4 p hp
  ·exact h.elim
def Jo (nx:Nat) (ov e0:List (Nat×AV)) (oh h0:List (Nat×aD)) (st:St) (t:Tree):Tree:=match uH nx st.next with
 | true=>V9 nx st.env (V9 nx st.env (B4 st.heap (B3 nx st.heap t h0) oh) e0) ov
 | false=>.bad 1405
def Ya (nx:Nat) (heap:List (Nat×aD)) (t:Tree):Option (List (List Int))→Tree
 | Option.none=>t
 | some Ls=>match uH 2000000 nx&&yp heap with
  | true=>.eq (List (Nat×aD)) (ZZ heap) (x9 Ls) t
  | false=>.bad 1406
theorem Pk {nx:Nat} {heap:List (Nat×aD)} {t:Tree}:∀ {o:Option (List (List Int))},(Ya nx heap t o).Ok→t.Ok∧∀ p∈Jl o,za heap p.1=some p.2∧p.1 < nx∧zY nx p.2
 | Option.none,h=>⟨h,fun p hp=>by cases hp⟩
 | some Ls,h=>by
  unfold Ya at h
  simp only at h
  split at h
  ·rename_i e
   simp only [uc] at e
   obtain ⟨h1,h2⟩:=h
   refine ⟨h2,fun p hp => ?_⟩
   obtain ⟨a1,a2,a3⟩:=Pb h1 e.2 p hp
   exact ⟨a1,Nat.lt_of_lt_of_le a2 (ua e.1),a3 nx⟩
  ·exact h.elim
theorem G9 {nx:Nat} {ov e0:List (Nat×AV)} {oh h0:List (Nat×aD)} {st:St} {t:Tree} {o:Option (List (List Int))} (hb:cw nx oh) (h:(Jo nx ov e0 oh h0 st (Ya nx st.heap t o)).Ok):t.Ok∧nx≤st.next∧(∀ p∈ov++e0,za st.env p.1=some p.2∧zX nx p.2=true)∧∀ p∈oh++(h0++Jl o),za st.heap p.1=some p.2∧p.1 < nx∧zY nx p.2:=by
 unfold Jo at h
 split at h
 ·rename_i hn
  obtain ⟨h1,a1⟩:=W8 h
  obtain ⟨h2,a2⟩:=W8 h1
  obtain ⟨h3,a3⟩:=G8 h2
  obtain ⟨h4,a4⟩:=G7 h3
  obtain ⟨h5,a5⟩:=Pk h4
  refine ⟨h5,ua hn,fun p hp => ?_,fun p hp => ?_⟩
  ·rcases uA.1 hp with hp | hp
   ·exact a1 p hp
   ·exact a2 p hp
  ·rcases uA.1 hp with hp | hp
   ·exact ⟨a3 p hp,hb.all p hp⟩
   ·rcases uA.1 hp with hp | hp
    ·exact a4 p hp
    ·exact a5 p hp
 ·exact h.elim
theorem W9 {nx:Nat} {ov e0:List (Nat×AV)} {oh h0:List (Nat×aD)} {st:St} {t:Tree} {o:Option (List (List Int))} (hb:cw nx oh) (h:(Jo nx ov e0 oh h0 st (Ya nx st.heap t o)).Ok):t.Ok∧bO st ⟨ov++e0,oh++(h0++Jl o),nx⟩:=by
 obtain ⟨h1,h2,h3,h4⟩:=G9 hb h
 exact ⟨h1,Qz h2 h3 h4⟩
def Spec.cC {β:Type} (sp:Spec β) (cM st:St) (b:β) (t:Tree):Tree:=Jo sp.nx (sp.ov b) (qC sp.ks cM.env) (sp.oh b) (V7 sp.hs cM.heap) st (Ya sp.nx st.heap t (sp.ns b))
theorem Spec.gI {β:Type} {sp:Spec β} {cM st:St} {b:β} {t:Tree} (h:(sp.cC cM st b t).Ok):t.Ok∧bO st (sp.st cM b):=W9 (sp.B0 b) h
def Spec.nB {β:Type} (sp:Spec β) (cM st:St) (idx:Nat) (v:AV) (b:β) (t:Tree):Tree:=match za st.env idx with
 | some a=>.eq AV a v (sp.cC cM st b t)
 | Option.none=>.bad 1430
theorem Spec.lZ {β:Type} {sp:Spec β} {cM st:St} {idx:Nat} {n:Int} {v:AV} {b:β} {t:Tree} (hv:v=vI n) (h:(sp.nB cM st idx v b t).Ok):t.Ok∧bO st (sp.fA cM idx n b):=by
 unfold Spec.nB at h
 split at h
 ·rename_i a ha
  obtain ⟨rfl,h1⟩:=h
  obtain ⟨h4,hn,a1,a3⟩:=G9 (sp.B0 b) h1
  refine ⟨h4,Qz hn (fun p hp => ?_) a3⟩
  rcases uh.1 hp with rfl | hp
  ·exact ⟨by rw [ha,hv],rfl⟩
  ·exact a1 p hp
 ·exact h.elim
end
section
def az.dec {α:Type} (p:az α):az α:=match p with
 | .cut (n+1) sp q k=>.cut n sp q k
 | .ei (n+1) sp q k=>.ei n sp q k
 | .cC (n+1) w q=>.cC n w q
 | .tT (n+1) m q=>.tT n m q
 | p=>p
theorem Wb {α:Type} (p:az α):p.dec.run=p.run:=by
 unfold az.dec;split<;>rfl
def az.enter {α:Type} (p:az α):az α:=match p with
 | .aA 0 q=>q
 | .aA (n+1) q=>.aA n q
 | p=>p
theorem He {α:Type} (p:az α):p.enter.run=p.run:=by
 unfold az.enter;split<;>rfl
abbrev KT (α:Type):=Exit→St→zU→az α→Tree
abbrev CT:=(α:Type)→St→zU→az α→KT α→Tree
noncomputable def Hf {β:Type} (sp:Spec β) (cM:St):KT β:=fun e s Φ q=>match e with
 | .normal=>settle q Φ fun _ q=>match q with
  | .ret b=>sp.cC cM s b .tt
  | _=>.bad 2034
 | _=>.bad 2035
noncomputable def Hg {α β γ:Type} (sp:Spec β) (cM:St) (kk:β ⊕ γ→az α) (k:KT α):KT (β ⊕ γ):=fun e s Φ q=>settle q Φ fun Φ q=>match e with
 | .normal=>match q with
  | .ret (.inl b)=>sp.cC cM s b .tt
  | _=>.bad 2039
 | e=>match q with
  | .ret (.inr c)=>k e s Φ (kk (.inr c))
  | _=>.bad 2042
noncomputable def ZA (go:CT):CT:=fun α st Φ p k=>.step (settle p Φ fun Φ p=>match p with
 | .cut (β:=β) 0 sp q kk=>match uH st.next sp.nx with
  | true=>.and (go β st Φ q (Hf sp st)) (.all β fun b=>k .normal (sp.st st b) Φ (kk b))
  | false=>.bad 2048
 | .ei (β:=β) (γ:=γ) 0 sp q kk=>match uH st.next sp.nx with
  | true=>.and (go (β ⊕ γ) st Φ q (Hg sp st kk k)) (.all β fun b=>k .normal (sp.st st b) Φ (kk (.inl b)))
  | false=>.bad 2051
 | p=>go α st Φ p k)
def DE:List eC→St→(St→Tree)→Tree
 | [],st,f=>f st
 | w::ws,st,f=>w.T st (DE ws (w.to st) f)
noncomputable def jh (go:CT):CT:=fun α st Φ p k=>settle p Φ fun Φ p=>match p with
 | .cC 0 ws q=>DE ws st fun st=>go α st Φ q k
 | p=>go α st Φ p k
noncomputable def DF {α σ ρ:Type} (kk:ρ→az α) (W:St→σ→Tree) (k:KT α):KT (σ ⊕ ρ):=fun e s Φ q=>settle q Φ fun Φ q=>match e with
 | .normal=>match q with
  | .ret (.inl s')=>W s s'
  | _=>.bad 2063
 | e=>match q with
  | .ret (.inr y)=>k e s Φ (kk y)
  | _=>.bad 2066
noncomputable def Hh (c:cA) (go:CT):CT:=fun α st Φ p k=>settle p Φ fun Φ p=>match p with
 | .tT 0 m kk=>m.T c st fun b s=>k .normal s Φ (kk b)
 | p=>go α st Φ p k
variable (C:Ctx)
abbrev GT:=Bool→YT→CT
noncomputable def lF (gJ:aZ→List Nat→GT→GT→CT):cA→GT
 | .skip=>fun pl Yt=>jh <| ZA <| jh fun α st Φ p k=>k .normal st Φ p
 | .region d o items ks=>fun pl Yt=>Hh (.region d o items ks) <| jh <| ZA <| jh fun α st Φ p k=>Jm C Yt (match d with | true=>some o | false=>Option.none) items 0 (st.next+items.length) [] [] [] st Φ p.enter fun s Φ p=>k .normal (s.keep ks) Φ p
 | .seq x y=>fun pl Yt=>jh <| ZA <| jh fun α st Φ p k=>lF gJ x pl Yt α st Φ p.dec fun e s Φ q=>match e with
  | .normal=>lF gJ y pl Yt α s Φ q k
  | e=>k e s Φ q
 | .cond c x y=>fun pl Yt=>jh <| ZA <| jh fun α st Φ p k=>match zd st.env c with
  | .ap (.bool b)=>match p.used 999 with
   | some (key,q)=>match za Φ key with
    | some ([.g true],ps)=>.eq (List Prop) ps [b=true] (lF gJ x pl Yt α st Φ q k)
    | some ([.g false],ps)=>.eq (List Prop) ps [b=false] (lF gJ y pl Yt α st Φ q k)
    | _=>.bad 2083
   | Option.none=>match b with
    | true=>lF gJ x pl Yt α st Φ p k
    | false=>lF gJ y pl Yt α st Φ p k
  | _=>.bad 2087
 | .block id x=>fun pl Yt=>jh <| ZA <| jh fun α st Φ p k=>lF gJ x pl Yt α st Φ p.dec fun e s Φ q=>match e with
  | .exit i=>match uw i id with
   | true=>k .normal s Φ q
   | false=>k (.exit i) s Φ q
  | e=>k e s Φ q
 | .scope x=>fun pl Yt=>jh <| ZA <| jh fun α st Φ p k=>match pl with
  | true=>lF gJ x pl Yt α st Φ p.dec fun e s Φ q=>match e with
   | .goto _=>.bad 2095
   | e=>k e s Φ q
  | false=>.bad 2097
 | .exit id=>fun pl Yt=>jh <| ZA <| jh fun α st Φ p k=>k (.exit id) st Φ p
 | .ret=>fun pl Yt=>jh <| ZA <| jh fun α st Φ p k=>k .ret st Φ p
 | .range f ps x y=>fun pl Yt=>jh <| ZA <| jh fun α st Φ p k=>match pl with
  | true=>gJ f ps (lF gJ x) (lF gJ y) α st Φ p.dec k
  | false=>.bad 2102
 | .loop x=>fun pl Yt=>jh <| ZA <| jh fun α st Φ p k=>match p with
  | .aE (σ:=σ) (ρ:=ρ) key idx n s0 sp body kk=>match uw sp.nx st.next with
   | true=>.and (sp.nB st st idx (vI 0) s0 .tt) (.and
    (.all Nat fun i=>.all σ fun s=>lF gJ x pl Yt (σ ⊕ ρ) (sp.fA st idx (i:Int) s) ((key,([.g true],[decide ((i:Int) < n)=true]))::(key+1,([.g false],[(!decide ((i:Int) < n))=false]))::Φ) (body i s) (DF (fun y=>kk (.inr y)) (fun aX s'=>sp.nB st aX idx (vI (IntKind.i64.wrap ((i:Int)+1))) s' .tt) k))
    (.all Nat fun i=>.all σ fun s=>lF gJ x pl Yt α (sp.fA st idx (i:Int) s) ((key,([.g false],[decide ((i:Int) < n)=false]))::(key+1,([.g true],[(!decide ((i:Int) < n))=true]))::Φ) (kk (.inl s)) fun e s Φ q=>match e with
     | .normal=>.bad 2108
     | e=>k e s Φ q))
   | false=>.bad 2110
  | .iter (σ:=σ) (ρ:=ρ) s0 sp body kk=>match uw sp.nx st.next with
   | true=>.and (sp.cC st st s0 .tt) (.all σ fun s=>lF gJ x pl Yt (σ ⊕ ρ) (sp.st st s) Φ (body s) (DF kk (fun aX s'=>sp.cC st aX s' .tt) k))
   | false=>.bad 2113
  | _=>.bad 2114
variable {C:bz} {nt:Fr}
def Z0 (C:bz) (nt:Fr) (c:cA) (go:CT):Prop:=∀ {α:Type} {r:α} (st:St) (Φ:zU) (p:az α) (k:KT α) (K:Exit→St→Prop),bp Φ→p.run=some r→(go α st Φ p k).Ok →
 (∀ e s Φ q,bp Φ→q.run=some r→(k e s Φ q).Ok→K e s)→cB C nt c K st
theorem Va {x:cA} {K:Exit→St→Prop} {st:St} (ST:St) (hn:st.next≤ST.next) (hK:K .normal ST) (hx:cB C nt x (vM (fun s=>bO s ST) K) st):cB C nt x K st:=by
 intro code hc g a w R hI
 refine Code.wpIn_mono ?_ (hx code hc g a w R hI)
 rintro e a' w' ⟨aX,g',hk,R',E'⟩
 cases e with
 | normal=>
  obtain ⟨g2,R2,CZ⟩:=hk C nt g' a' w' R'
  exact ⟨ST,g2,hK,R2,CZ g st w hn E'⟩
 | _=>exact ⟨aX,g',hk,R',E'⟩
theorem ji {c:cA} {go:CT} (h:Z0 C nt c go):Z0 C nt c (ZA go):=by
 intro α r st Φ p k K hΦ hr hok hk
 obtain ⟨Φ1,p1,iK,ct,h1⟩:=q7 p hΦ hok hr
 split at h1
 ·rename_i β sp q kk
  split at h1
  ·rename_i hn
   obtain ⟨b,pM,mC⟩:=xY (show ui q.run (fun b=>(kk b).run)=some r from ct)
   refine Va (sp.st st b) (ua hn) (hk _ _ _ _ iK mC (h1.2 b)) ?_
   refine h st Φ1 q (Hf sp st) _ iK pM h1.1 ?_
   intro e s Φ2 q2 gA cz h2
   cases e with
   | normal=>
    obtain ⟨Φ3,q3,lY,eO,h3⟩:=q7 q2 gA h2 cz
    split at h3
    ·cases eO;exact (Spec.gI h3).2
    ·exact h3.elim
   | _=>exact h2.elim
  ·exact h1.elim
 ·rename_i β γ sp q kk
  split at h1
  ·rename_i hn
   obtain ⟨d,o4,hd2⟩:=xY (show ui q.run (fun b=>(kk b).run)=some r from ct)
   have key:∀ (e:Exit) (s:St) (Φ2:zU) (q2:az (β ⊕ γ)),bp Φ2→q2.run=some d→(Hg sp st kk k e s Φ2 q2).Ok→(∃ b,d=.inl b∧e=.normal∧bO s (sp.st st b))∨(e≠.normal∧(∃ y,d=.inr y)∧K e s):=by
    intro e s Φ2 q2 gA cz h2
    obtain ⟨Φ3,q3,lY,eO,h3⟩:=q7 q2 gA h2 cz
    split at h3
    ·split at h3
     ·rename_i b;exact .inl ⟨b,(Option.some.inj eO).symm,rfl,(Spec.gI h3).2⟩
     ·exact h3.elim
    ·rename_i hne
     split at h3
     ·rename_i y
      have:d=.inr y:=(Option.some.inj eO).symm
      subst this
      exact .inr ⟨hne,⟨y,rfl⟩,hk _ _ _ _ lY hd2 h3⟩
     ·exact h3.elim
   cases d with
   | inl b=>
    refine Va (sp.st st b) (ua hn) (hk _ _ _ _ iK hd2 (h1.2 b)) ?_
    refine h st Φ1 q _ _ iK o4 h1.1 ?_
    intro e s Φ2 q2 gA cz h2
    rcases key e s Φ2 q2 gA cz h2 with ⟨b',e1,rfl,e3⟩ | ⟨_,⟨y,e1⟩,_⟩
    ·cases e1;exact e3
    ·cases e1
   | inr y=>
    refine h st Φ1 q _ _ iK o4 h1.1 ?_
    intro e s Φ2 q2 gA cz h2
    rcases key e s Φ2 q2 gA cz h2 with ⟨b',e1,_,_⟩ | ⟨_,_,e3⟩
    ·cases e1
    ·exact e3
  ·exact h1.elim
 ·exact h st Φ1 p1 k K iK ct h1 hk
theorem Hi {c:cA} {K:Exit→St→Prop} {f:St→Tree}:∀ (ws:List eC) (st:St),(DE ws st f).Ok→(∀ aX,(f aX).Ok→cB C nt c K aX)→cB C nt c K st
 | [],st,h,hf=>hf st h
 | w::ws,st,h,hf=>by
  obtain ⟨h1,h2,h3⟩:=w.ok _ _ h
  exact yi h2 h3 (Hi ws _ h1 hf)
theorem zS {c:cA} {go:CT} (h:Z0 C nt c go):Z0 C nt c (jh go):=by
 intro α r st Φ p k K hΦ hr hok hk
 obtain ⟨Φ1,p1,iK,ct,h1⟩:=q7 p hΦ hok hr
 split at h1
 ·rename_i ws q
  exact Hi ws st h1 fun aX h2=>h aX Φ1 q k K iK ct h2 hk
 ·exact h _ _ _ k K iK ct h1 hk
theorem Pm {c:cA} {go:CT} (h:Z0 C nt c go):Z0 C nt c (Hh c go):=by
 intro α r st Φ p k K hΦ hr hc hk
 obtain ⟨Φ1,p1,iK,ct,h1⟩:=q7 p hΦ hc hr
 split at h1
 ·rename_i m kk
  have DG:ui m.x (fun b=>(kk b).run)=some r:=ct
  obtain ⟨b,hb,cz⟩:=xY DG
  exact m.ok C nt c st _ K b hb h1 fun s hs=>hk _ _ _ _ iK cz hs
 ·exact h st Φ1 _ k K iK ct h1 hk
theorem Hj {α σ ρ:Type} {kk:ρ→az α} {W:St→σ→Tree} {k:KT α} {o:σ ⊕ ρ} {e:Exit} {s:St} {Φ:zU} {q:az (σ ⊕ ρ)} (hΦ:bp Φ) (hr:q.run=some o) (h:(DF kk W k e s Φ q).Ok) :
  (e=.normal∧∃ s',o=.inl s'∧(W s s').Ok)∨(e≠.normal∧∃ y Φ',o=.inr y∧bp Φ'∧(k e s Φ' (kk y)).Ok):=by
 obtain ⟨Φ3,q3,lY,eO,h3⟩:=q7 q hΦ h hr
 split at h3
 ·split at h3
  ·rename_i s';exact .inl ⟨rfl,s',(Option.some.inj eO).symm,h3⟩
  ·exact h3.elim
 ·rename_i hne
  split at h3
  ·rename_i y;exact .inr ⟨hne,y,Φ3,(Option.some.inj eO).symm,lY,h3⟩
  ·exact h3.elim
def DH (C:Ctx) (c:cA) (go:GT):Prop:=∀ (ro:Option Nat) (eR:Option (Gh×St×World)) Y ym yk (pl:Bool) (Yt:YT) (nt:Fr),(pl=true→ro=none)→B1 ⟨C,ro,eR,Y,ym,yk⟩ Yt→Z0 ⟨C,ro,eR,Y,ym,yk⟩ nt c (go pl Yt)
def DI (C:Ctx) (gJ:aZ→List Nat→GT→GT→CT):Prop:=∀ (f:aZ) (ps:List Nat) (x y:cA) (gx gy:GT),DH C x gx→DH C y gy →
 ∀ (eR:Option (Gh×St×World)) Y ym yk (nt:Fr),Z0 ⟨C,none,eR,Y,ym,yk⟩ nt (.range f ps x y) (gJ f ps gx gy)
theorem qB {C:Ctx} {gJ:aZ→List Nat→GT→GT→CT} (hG:DI C gJ):∀ c:cA,DH C c (lF C gJ c)
 | .skip=>fun ro eR Y ym yk pl Yt nt ec hY=>zS <| ji <| zS fun st Φ p k K hΦ hr h hk=>Zr (hk _ _ _ _ hΦ hr h)
 | .region d o items ks=>fun ro eR Y ym yk pl Yt nt ec hY=>Pm <| zS <| ji <| zS fun st Φ p k K hΦ hr h hk=>by
  cases d with
  | false=>exact yn (Jn hY (K:=Zw ks K) (fun s Φ q h1 h2 h3=>hk _ _ _ _ h1 h2 h3) items 0 _ [] [] [] st Φ p.enter hΦ ((He p).trans hr) h)
  | true=>exact Pj (fun s Φ q h1 h2 h3=>hk _ _ _ _ h1 h2 h3) hΦ ((He p).trans hr) h
 | .seq x y=>fun ro eR Y ym yk pl Yt nt ec hY=>zS <| ji <| zS fun st Φ p k K hΦ hr h hk=>by
  refine qg (qB hG x ro eR Y ym yk pl Yt nt ec hY st Φ p.dec _ _ hΦ ((Wb p).trans hr) h ?_)
  intro e s Φ2 q2 gA cz h2
  cases e with
  | normal=>exact qB hG y ro eR Y ym yk pl Yt nt ec hY s Φ2 q2 k K gA cz h2 hk
  | _=>exact hk _ _ _ _ gA cz h2
 | .cond c x y=>fun ro eR Y ym yk pl Yt nt ec hY=>zS <| ji <| zS fun st Φ p k K hΦ hr h hk=>by
  split at h
  ·rename_i b hc
   split at h
   ·rename_i key q hu
    have hq:=(W7 hu).trans hr
    split at h
    ·rename_i ps hf
     obtain ⟨h1,h2⟩:=h
     have hb:b=true:=by have:=hΦ _ _ hf;simp only [h1] at this;exact this.one
     exact xw b hc (fun _=>qB hG x ro eR Y ym yk pl Yt nt ec hY st Φ q k K hΦ hq h2 hk) (fun e=>by rw [hb] at e;cases e)
    ·rename_i ps hf
     obtain ⟨h1,h2⟩:=h
     have hb:b=false:=by have:=hΦ _ _ hf;simp only [h1] at this;exact this.one
     exact xw b hc (fun e=>by rw [hb] at e;cases e) (fun _=>qB hG y ro eR Y ym yk pl Yt nt ec hY st Φ q k K hΦ hq h2 hk)
    ·exact h.elim
   ·split at h
    ·exact xw true hc (fun _=>qB hG x ro eR Y ym yk pl Yt nt ec hY st Φ p k K hΦ hr h hk) (fun e=>by cases e)
    ·exact xw false hc (fun e=>by cases e) (fun _=>qB hG y ro eR Y ym yk pl Yt nt ec hY st Φ p k K hΦ hr h hk)
  ·exact h.elim
 | .block id x=>fun ro eR Y ym yk pl Yt nt ec hY=>zS <| ji <| zS fun st Φ p k K hΦ hr h hk=>by
  refine vn (qB hG x ro eR Y ym yk pl Yt nt ec hY st Φ p.dec _ _ hΦ ((Wb p).trans hr) h ?_)
  intro e s Φ2 q2 gA cz h2
  cases e with
  | exit i=>
   have h2:(match uw i id with
    | true=>k .normal s Φ2 q2
    | false=>k (.exit i) s Φ2 q2).Ok:=h2
   simp only [xS]
   cases hb:uw i id with
   | true=>rw [hb] at h2;rw [if_pos (uq hb)];exact hk _ _ _ _ gA cz h2
   | false=>
    rw [hb] at h2
    rw [if_neg (fun e=>by subst e;rw [uX] at hb;cases hb)]
    exact hk _ _ _ _ gA cz h2
  | _=>exact hk _ _ _ _ gA cz h2
 | .scope x=>fun ro eR Y ym yk pl Yt nt ec hY=>zS <| ji <| zS fun st Φ p k K hΦ hr h hk=>by
  split at h
  ·refine KQ (ec rfl) (qB hG x ro eR Y ym yk true Yt nt ec hY st Φ p.dec _ _ hΦ ((Wb p).trans hr) h ?_)
   intro e s Φ2 q2 gA cz h2
   cases e with
   | goto l=>exact h2.elim
   | _=>exact hk _ _ _ _ gA cz h2
  ·exact h.elim
 | .range f ps x y=>fun ro eR Y ym yk pl Yt nt ec hY=>zS <| ji <| zS fun st Φ p k K hΦ hr h hk=>by
  split at h
  ·have:=ec rfl
   subst this
   exact hG f ps x y _ _ (qB hG x) (qB hG y) eR Y ym yk nt st Φ p.dec k K hΦ ((Wb p).trans hr) h hk
  ·exact h.elim
 | .exit id=>fun ro eR Y ym yk pl Yt nt ec hY=>zS <| ji <| zS fun st Φ p k K hΦ hr h hk=>Q6 (hk _ _ _ _ hΦ hr h)
 | .ret=>fun ro eR Y ym yk pl Yt nt ec hY=>zS <| ji <| zS fun st Φ p k K hΦ hr h hk=>X2 (hk _ _ _ _ hΦ hr h)
 | .loop x=>fun ro eR Y ym yk pl Yt nt ec hY=>zS <| ji <| zS fun {α} {r} st Φ p k K hΦ hr h hk=>by
  split at h
  ·rename_i σ ρ key idx n s0 sp body kk
   split at h
   ·rename_i nT
    have nT:sp.nx=st.next:=uq nT
    obtain ⟨h1,h2,h3⟩:=h
    obtain ⟨out,ho,hq⟩:=xY (show ui (aE n (fun i s=>(body i s).run) s0) (fun o=>(kk o).run)=some r from hr)
    refine N8 ho (fun i s=>(sp.fA st idx (i:Int) s).env) (fun i s=>(sp.fA st idx (i:Int) s).heap) ?_ ?_ ?_
    ·have:=(Spec.lZ (n:=((0:Nat):Int)) rfl h1).2
     simp only [Spec.fA,nT] at this ⊢
     exact this
    ·intro i s o hi hw hb
     have hst:(⟨(sp.fA st idx (i:Int) s).env,(sp.fA st idx (i:Int) s).heap,st.next⟩:St)=sp.fA st idx (i:Int) s:=by simp only [Spec.fA,nT]
     rw [hst]
     refine qB hG x ro eR Y ym yk pl Yt nt ec hY _ _ (body i s) _ _ ((hΦ.add (f:=([.g false],[(!decide ((i:Int) < n))=false])) (.cons (by rw [decide_eq_true hi];rfl) .nil)).add (f:=([.g true],[decide ((i:Int) < n)=true])) (.cons (decide_eq_true hi) .nil)) hb (h2 i s) ?_
     intro e s2 Φ2 q2 gA cz h4
     rcases Hj gA cz h4 with ⟨rfl,s',rfl,h5⟩ | ⟨hne,y,Φ3,rfl,lY,h5⟩
     ·refine ⟨s',rfl,?_⟩
      have:=(Spec.lZ (n:=((i+1:Nat):Int)) (by rw [hw];rfl) h5).2
      simp only [Spec.fA,nT] at this ⊢
      exact this
     ·have:∀ (K':Exit→St→Prop),(∃ y',(Sum.inr y:σ ⊕ ρ)=.inr y'∧(out=.inr y'→K e s2))→BR (fun s=>⟨(sp.fA st idx ((i+1:Nat):Int) s).env,(sp.fA st idx ((i+1:Nat):Int) s).heap,st.next⟩) K out (.inr y) e s2:=fun _ hh=>by
       cases e with
       | normal=>exact absurd rfl hne
       | _=>exact hh
      refine this K ⟨y,rfl,fun hout => ?_⟩
      subst hout
      exact hk _ _ _ _ lY hq h5
    ·intro m s hm hout
     subst hout
     have hst:(⟨(sp.fA st idx (m:Int) s).env,(sp.fA st idx (m:Int) s).heap,st.next⟩:St)=sp.fA st idx (m:Int) s:=by simp only [Spec.fA,nT]
     rw [hst]
     refine qB hG x ro eR Y ym yk pl Yt nt ec hY _ _ (kk (.inl s)) _ _ ((hΦ.add (f:=([.g true],[(!decide ((m:Int) < n))=true])) (.cons (by rw [decide_eq_false hm];rfl) .nil)).add (f:=([.g false],[decide ((m:Int) < n)=false])) (.cons (decide_eq_false hm) .nil)) hq (h3 m s) ?_
     intro e s2 Φ2 q2 gA cz h4
     cases e with
     | normal=>exact h4.elim
     | _=>exact hk _ _ _ _ gA cz h4
   ·exact h.elim
  ·rename_i σ ρ s0 sp body kk
   split at h
   ·rename_i nT
    have nT:sp.nx=st.next:=uq nT
    obtain ⟨h1,h2⟩:=h
    obtain ⟨out,ho,hq⟩:=xY (show ui (iter (fun s=>(body s).run) s0) (fun o=>(kk o).run)=some r from hr)
    have hst:∀ s,(⟨(sp.st st s).env,(sp.st st s).heap,st.next⟩:St)=sp.st st s:=fun s=>by simp only [Spec.st,nT]
    refine Oa ho (fun s=>(sp.st st s).env) (fun s=>(sp.st st s).heap) ?_ ?_
    ·rw [hst];exact (Spec.gI h1).2
    ·intro s o hb
     rw [hst]
     refine qB hG x ro eR Y ym yk pl Yt nt ec hY _ _ (body s) _ _ hΦ hb (h2 s) ?_
     intro e s2 Φ2 q2 gA cz h4
     rcases Hj gA cz h4 with ⟨rfl,s',rfl,h5⟩ | ⟨hne,y,Φ3,rfl,lY,h5⟩
     ·refine ⟨s',rfl,?_⟩
      show bO s2 ⟨(sp.st st s').env,(sp.st st s').heap,st.next⟩
      rw [hst];exact (Spec.gI h5).2
     ·have:(∃ y',(Sum.inr y:σ ⊕ ρ)=.inr y'∧((Sum.inr out:σ ⊕ ρ)=.inr y'→K e s2))→BR (fun s=>⟨(sp.st st s).env,(sp.st st s).heap,st.next⟩) K (.inr out) (.inr y) e s2:=fun hh=>by
       cases e with
       | normal=>exact absurd rfl hne
       | _=>exact hh
      refine this ⟨y,rfl,fun hout => ?_⟩
      cases hout
      exact hk _ _ _ _ lY hq h5
   ·exact h.elim
  ·exact h.elim
end
section
def Wc (n:Nat):Nat:=Nat.shiftLeft 1 n
def Hl (m n:Nat):Bool:=uw (Nat.land 1 (Nat.shiftRight m n)) 1
def QB:aZ→Nat
 | .t n=>Wc n
 | .c _=>0
 | .m n _=>Wc n
def Vb:List aZ→Nat
 | []=>0
 | x::r=>ue (QB x) (Vb r)
def Ka (it:aM):Nat:=match it.guard with
 | none=>Vb (qc it.op)
 | some (t,_)=>ue (Wc t) (Vb (qc it.op))
def Pn (m n:Nat):Nat:=match Hl m n with
 | true=>Nat.sub m (Wc n)
 | false=>m
def Xl (out:Nat):List aM→Nat
 | []=>out
 | it::rest=>match it.guard,it.dst with
  | none,some d=>ue (Ka it) (Pn (Xl out rest) d)
  | _,_=>ue (Ka it) (Xl out rest)
def Ho:List aM→Nat
 | []=>0
 | it::rest=>ue (Ka it) (Ho rest)
def wT:cA→Nat
 | .region _ _ items _=>Ho items
 | .seq x y=>ue (wT x) (wT y)
 | .cond c x y=>ue (QB c) (ue (wT x) (wT y))
 | .block _ x | .loop x | .scope x=>wT x
 | .range f _ x y=>ue (QB f) (ue (wT x) (wT y))
 | _=>0
def Hp (ex:List (Nat×Nat)) (id:Nat):Nat:=match ex with
 | []=>0
 | (k,v)::r=>match uw k id with
  | true=>v
  | false=>Hp r id
def B5:List (Nat×Nat)→Nat
 | []=>0
 | (_,v)::r=>ue v (B5 r)
def Vc (ret:Nat):cA→Nat→List (Nat×Nat)→Nat
 | .skip,out,_=>out
 | .region _ _ items _,out,_=>Xl out items
 | .seq x y,out,ex=>Vc ret x (Vc ret y out ex) ex
 | .cond c x y,out,ex=>ue (QB c) (ue (Vc ret x out ex) (Vc ret y out ex))
 | .block id x,out,ex=>Vc ret x out ((id,out)::ex)
 | .loop x,out,ex=>ue ret (ue (wT x) (B5 ex))
 | .scope x,out,ex=>Vc ret x out ex
 | .exit id,_,ex=>Hp ex id
 | .ret,_,_=>ret
 | .range f _ x y,out,ex=>ue (ue ret out) (ue (QB f) (ue (ue (wT x) (wT y)) (B5 ex)))
def Vd (m:Nat):Nat→List Nat
 | 0=>[]
 | n+1=>match Hl m n with
  | true=>n::Vd m n
  | false=>Vd m n
def fM (nt ret:Nat):cA→Nat→List (Nat×Nat)→cA
 | .skip,_,_=>.skip
 | .region d o items _,out,_=>.region d o items (some (Vd out nt))
 | .seq x y,out,ex=>.seq (fM nt ret x (Vc ret y out ex) ex) (fM nt ret y out ex)
 | .cond c x y,out,ex=>.cond c (fM nt ret x out ex) (fM nt ret y out ex)
 | .block id x,out,ex=>.block id (fM nt ret x out ((id,out)::ex))
 | .loop x,out,ex=>.loop (fM nt ret x (ue ret (ue (wT x) (B5 ex))) ex)
 | .scope x,out,ex=>.scope (fM nt ret x out ex)
 | .exit id,_,_=>.exit id
 | .ret,_,_=>.ret
 | .range f ps x y,out,ex=>.range f ps (fM nt ret x (wT y) ex) (fM nt ret y 0 ex)
theorem jI (nt ret:Nat):∀ (c:cA) (out:Nat) (ex:List (Nat×Nat)),(fM nt ret c out ex).erase=c.erase
 | .skip,_,_=>rfl
 | .region _ _ _ _,_,_=>rfl
 | .seq x y,out,ex=>by simp only [fM,cA.erase,jI nt ret x,jI nt ret y]
 | .cond c x y,out,ex=>by simp only [fM,cA.erase,jI nt ret x,jI nt ret y]
 | .block id x,out,ex=>by simp only [fM,cA.erase,jI nt ret x]
 | .loop x,out,ex=>by simp only [fM,cA.erase,jI nt ret x]
 | .scope x,out,ex=>by simp only [fM,cA.erase,jI nt ret x]
 | .exit id,_,_=>rfl
 | .ret,_,_=>rfl
 | .range f ps x y,out,ex=>by simp only [fM,cA.erase,jI nt ret x,jI nt ret y]
theorem jj (C:Ctx) (nt:Nat):∀ (code:Code) (ac:cA),comp C nt code=some ac→ac.erase=ac
 | .skip,ac,h=>by simp only [comp] at h;cases h;rfl
 | .region _ ops draw,ac,h=>by
  simp only [comp] at h
  split at h
  ·split at h
   ·split at h
    ·cases h;rfl
    ·cases h
   ·cases h;rfl
  ·cases h
 | .seq a b,ac,h=>by
  simp only [comp] at h
  split at h
  ·rename_i x y hx hy;cases h;simp only [cA.erase,jj C nt a x hx,jj C nt b y hy]
  ·cases h
 | .cond c a b,ac,h=>by
  simp only [comp] at h
  split at h
  ·rename_i x y hx hy;cases h;simp only [cA.erase,jj C nt a x hx,jj C nt b y hy]
  ·cases h
 | .block id a,ac,h=>by
  simp only [comp] at h
  split at h
  ·rename_i x hx;cases h;simp only [cA.erase,jj C nt a x hx]
  ·cases h
 | .loop a,ac,h=>by
  simp only [comp] at h
  split at h
  ·rename_i x hx;cases h;simp only [cA.erase,jj C nt a x hx]
  ·cases h
 | .scope a,ac,h=>by
  simp only [comp] at h
  split at h
  ·rename_i x hx;cases h;simp only [cA.erase,jj C nt a x hx]
  ·cases h
 | .label _,ac,h=>by simp only [comp] at h;cases h;rfl
 | .exit id,ac,h=>by simp only [comp] at h;cases h;rfl
 | .ret,ac,h=>by simp only [comp] at h;cases h;rfl
 | .rangeFunc _ ps a b,ac,h=>by
  simp only [comp] at h
  split at h
  ·split at h
   ·rename_i x y hx hy;cases h;simp only [cA.erase,jj C nt a x hx,jj C nt b y hy]
   ·cases h
  ·cases h
 | .goto _,ac,h=>by simp only [comp] at h;cases h
 | .refuse _,ac,h=>by simp only [comp] at h;cases h
theorem Po {C:Ctx} {f:Nat} {F:dw} (h:qn C f=some F):F.erase=F:=by
 unfold qn at h
 split at h
 ·split at h
  ·split at h
   ·rename_i ac rs hac rY
    split at h
    ·cases h
    ·cases h;simp only [dw.erase,jj C _ _ _ hac]
   ·cases h
  ·cases h
 ·cases h
def Wd:List dy→Nat
 | []=>0
 | .tmp t::r=>ue (Wc t) (Wd r)
 | .cell t _ _::r=>ue (Wc t) (Wd r)
def dw.fM (F:dw):dw:={F with body:=Go.Proofs.YtlpmnmbebkdocaaGreatDoor.fM F.nt (Wd F.results) F.body (Wd F.results) []}
theorem Ve {C:Ctx} {f:Nat} {F:dw} (h:qn C f=some F):qn C f=some F.fM.erase:=by
 rw [h]
 have:=Po h
 simp only [dw.erase] at this
 simp only [dw.fM,dw.erase,jI]
 rw [this]
def Hq:aZ→List Nat→GT→GT→CT:=fun _ _ _ _ _ _ _ _ _=>.bad 3161
theorem Pp (C:Ctx):DI C Hq:=fun _ _ _ _ _ _ _ _ _ _ _ _ _ {_} {_} _ _ _ _ _ _ _ h _=>h.elim
def Yb (o:Option aD) (o':aD) (t:Tree):Tree:=match o with
 | some x=>.eq aD x o' t
 | none=>.bad 3167
theorem Vf {o:Option aD} {o':aD} {t:Tree} (h:(Yb o o' t).Ok):o=some o'∧t.Ok:=by
 unfold Yb at h
 split at h
 ·obtain ⟨rfl,h2⟩:=h;exact ⟨rfl,h2⟩
 ·exact h.elim
noncomputable def Pq {α:Type} (dH L:Nat) (R:LoopState→Option Code→Loop) (k:AV→List (Nat×aD)→Nat→zU→az α→Tree):KT α:=fun e s Φ q=>Yb (za s.heap dH) (.lp L R .busy none) (match e with
 | .normal=>k (.ap (.bool true)) (zk s.heap dH (.lp L R .ready none)) (s.next+1) Φ q
 | .ret=>k (.ap (.bool false)) (zk s.heap dH (.lp L R .done (some .ret))) (s.next+1) Φ q
 | .exit id=>k (.ap (.bool false)) (zk s.heap dH (.lp L R .done (some (.exit id)))) (s.next+1) Φ q
 | _=>.bad 3178)
noncomputable def Hr (env:List (Nat×AV)) (dH L:Nat) (R:LoopState→Option Code→Loop) (ps:List Nat) (gx gy:GT):YT:=fun l id args heap next α Φ p k=>
 .eq (Nat×Nat) (l,id) (L,dH) (match uw args.length ps.length with
  | true=>Yb (za heap dH) (.lp L R .ready none) (gx false rF α ⟨BZ ps args env,heap,next⟩ Φ p fun e s Φ q=>match e with
   | .normal=>Yb (za s.heap dH) (.lp L R .ready none) (gy false rF α ⟨s.env,zk s.heap dH (.lp L R .busy none),s.next+1⟩ Φ q (Pq dH L R k))
   | _=>.bad 3183)
  | false=>.bad 3184)
noncomputable def B6 {α:Type} (env:List (Nat×AV)) (dH L:Nat) (R:LoopState→Option Code→Loop) (rs:List dy) (k:KT α) (s:St) (Φ:zU) (q:az α):Tree:=match ja rs s with
 | some _=>match za s.heap dH with
  | some (.lp L' R' .ready none)=>.eq aD (.lp L' R' .ready none) (.lp L R .ready none) (k .normal ⟨env,zk s.heap dH (.lp L R .exhausted none),s.next+1⟩ Φ q)
  | some (.lp L' R' .done (some .ret))=>.eq aD (.lp L' R' .done (some .ret)) (.lp L R .done (some .ret)) (k .ret ⟨env,zk s.heap dH (.lp L R .exhausted (some .ret)),s.next+1⟩ Φ q)
  | some (.lp L' R' .done (some (.exit id)))=>.eq aD (.lp L' R' .done (some (.exit id))) (.lp L R .done (some (.exit id))) (k (.exit id) ⟨env,zk s.heap dH (.lp L R .exhausted (some (.exit id))),s.next+1⟩ Φ q)
  | _=>.bad 3190
 | none=>.bad 3191
noncomputable def DJ (C:Ctx):aZ→List Nat→GT→GT→CT:=fun f ps gx gy α st Φ p k=>match zd st.env f with
 | .func gf [] bt=>match qn C gf with
  | some F=>match uH (bt.length+1) F.nt with
   | true=>.all Nat fun L=>.all (LoopState→Option Code→Loop) fun R=>lF C Hq F.fM.body true (Hr st.env st.next L R ps gx gy) α ⟨jn 0 (.eH L st.next::bt),zk st.heap st.next (.lp L R .ready none),st.next+1⟩ Φ p fun e s Φ q=>match e with
    | .ret=>B6 st.env st.next L R F.results k s Φ q
    | .normal=>B6 st.env st.next L R F.results k s Φ q
    | _=>.bad 3198
   | false=>.bad 3199
  | none=>.bad 3200
 | _=>.bad 3201
theorem Hs {α:Type} {env:List (Nat×AV)} {dH L:Nat} {R:LoopState→Option Code→Loop} {rs:List dy} {k:KT α} {s:St} {Φ:zU} {q:az α} {K:Exit→St→Prop} (h:(B6 env dH L R rs k s Φ q).Ok) (hk:∀ e s,(k e s Φ q).Ok→K e s) :
  ∃ r,ja rs s=some r∧GU env dH L R K s.heap s.next:=by
 unfold B6 at h
 split at h
 ·rename_i r hr
  refine ⟨r,hr,?_⟩
  split at h
  ·rename_i ho;obtain ⟨h1,h2⟩:=h;rw [h1] at ho;exact .inl ⟨ho,hk _ _ h2⟩
  ·rename_i ho;obtain ⟨h1,h2⟩:=h;rw [h1] at ho;exact .inr (.inl ⟨ho,hk _ _ h2⟩)
  ·rename_i id ho;obtain ⟨h1,h2⟩:=h;rw [h1] at ho;exact .inr (.inr ⟨id,ho,hk _ _ h2⟩)
  ·exact h.elim
 ·exact h.elim
theorem Ht (C:Ctx):DI C (DJ C):=by
 intro f ps x y gx gy hx hy eR Y ym yk nt α r st Φ p k K hΦ hr h hk
 unfold DJ at h
 split at h
 ·rename_i gf bt hf
  split at h
  ·rename_i F hF
   split at h
   ·rename_i hn
    refine O3 (C:=⟨C,none,eR,Y,ym,yk⟩) rfl hf (F:=F.fM) (Ve hF) (ua hn) ?_
    intro L R A1 Hu Hv B
    have Pr:B1 ⟨C,none,A1,QA ⟨C,none,eR,Y,ym,yk⟩ nt st.env st.next L R ps x y,Hu,Hv⟩ (Hr st.env st.next L R ps gx gy):=by
     intro l id args heap next β Ψ q kk r' KK hΨ hr' h1 hkk
     obtain ⟨e1,h2⟩:=h1
     cases e1
     split at h2
     ·rename_i hlen
      obtain ⟨e2,h3⟩:=Vf h2
      refine ⟨rfl,rfl,uq hlen,e2,?_⟩
      refine hx (some L) none tK _ _ false rF nt (fun h=>by cases h) (V8 _) _ Ψ q _ _ hΨ hr' h3 ?_
      intro e s Ψ2 q2 Pt cz h4
      cases e with
      | normal=>
       obtain ⟨e3,h5⟩:=Vf h4
       refine ⟨e3,?_⟩
       refine hy (some L) none tK _ _ false rF nt (fun h=>by cases h) (V8 _) _ Ψ2 q2 _ _ Pt cz h5 ?_
       intro e s3 Ψ3 q3 DK eO h6
       obtain ⟨e4,h7⟩:=Vf h6
       cases e with
       | normal=>exact ⟨e4,hkk _ _ _ _ _ DK eO h7⟩
       | ret=>exact ⟨e4,hkk _ _ _ _ _ DK eO h7⟩
       | exit id=>exact ⟨e4,hkk _ _ _ _ _ DK eO h7⟩
       | _=>exact h7.elim
      | _=>exact h4.elim
     ·exact h2.elim
    refine qB (Pp C) F.fM.body none A1 _ Hu Hv true _ ⟨F.fM.nt,B⟩ (fun _=>rfl) Pr _ Φ p _ _ hΦ hr (h L R) ?_
    intro e s Φ2 q2 gA cz h2
    cases e with
    | ret=>obtain ⟨r2,h3,h4⟩:=Hs (K:=K) h2 (fun e s h=>hk e s _ _ gA cz h);exact ⟨.inl rfl,r2,h3,h4⟩
    | normal=>obtain ⟨r2,h3,h4⟩:=Hs (K:=K) h2 (fun e s h=>hk e s _ _ gA cz h);exact ⟨.inr rfl,r2,h3,h4⟩
    | _=>exact h2.elim
   ·exact h.elim
  ·exact h.elim
 ·exact h.elim
variable (C:Ctx)
noncomputable def QC {α:Type} (f:Nat) (args:List AV) (heap:List (Nat×aD)) (m:Nat) (p:az α) (DL:List dy→KT α):Tree:=match qn C f with
 | some F=>match uH args.length F.nt with
  | true=>lF C (DJ C) F.fM.body true rF α ⟨jn 0 args,heap,m⟩ [] p (DL F.results)
  | false=>.bad 3266
 | none=>.bad 3267
noncomputable def B7 {α:Type} (iv:α→IV) (rs:List dy) (s:St):az α→Tree
 | .ret a=>.eq (Option IV) ((ja rs s).bind (zC (za s.heap) 5)) (some (iv a)) .tt
 | .fin ids V bU x h a=>match xy s.heap ids with
  | some rG=>.eq (List (Nat×aD)) rG bU (.eq (Option AV) (ja rs s) (some V) (.eq IV x (iv a) .tt))
  | Option.none=>.bad 3273
 | _=>.bad 3274
noncomputable def Hw {α:Type} (iv:α→IV) (rs:List dy):KT α:=fun e s Φ q=>settle q Φ fun Φ q=>match e with
 | .ret=>B7 iv rs s q
 | .normal=>B7 iv rs s q
 | _=>.bad 3278
noncomputable def B8 {α:Type} (R:α→AV) (H:α→List (Nat×aD)) (n:Nat) (rs:List dy) (s:St):az α→Tree
 | .ret a=>match ja rs s with
  | some x=>.eq AV x (R a) (Jo n [(0,R a)] [] (H a) [] ⟨[(0,R a)],s.heap,s.next⟩ .tt)
  | Option.none=>.bad 3283
 | .sL x y h a=>match ja rs s with
  | some x'=>.eq AV x' x (.eq AV y (R a) (Jo n [(0,R a)] [] (H a) [] ⟨[(0,R a)],s.heap,s.next⟩ .tt))
  | Option.none=>.bad 3286
 | _=>.bad 3287
noncomputable def Hx {α:Type} (R:α→AV) (H:α→List (Nat×aD)) (n:Nat) (rs:List dy):KT α:=fun e s Φ q=>settle q Φ fun Φ q=>match e with
 | .ret=>B8 R H n rs s q
 | .normal=>B8 R H n rs s q
 | _=>.bad 3291
variable {C:Ctx}
theorem Hy {α:Type} {iv:α→IV} {rs:List dy} {s:St} {q:az α} {r:α} (hr:q.run=some r) (h:(B7 iv rs s q).Ok):Jc (J9 5 (iv r)) s.heap s.next (ja rs s):=by
 unfold B7 at h
 split at h
 ·cases hr
  have h1:=h.1
  cases h2:ja rs s with
  | none=>rw [h2] at h1;cases h1
  | some x=>rw [h2] at h1;exact h1
 ·rename_i ids V bU x hs a
  cases hr
  split at h
  ·rename_i rG ho
   obtain ⟨rfl,h2,rfl,_⟩:=h
   rw [h2]
   have:=Jf (Jg ho) hs
   simp only [aI] at this
   split at this
   ·rename_i b hb;cases this;exact hb
   ·cases this
  ·exact h.elim
 ·exact h.elim
theorem az.pure {f:Nat} {α:Type} {args:List IV} {iv:α→IV} (p:az α) (h:QC C f (args.map .ap) [] 0 p (Hw iv)=(QC C f (args.map .ap) [] 0 p (Hw iv)).norm) {r:α} (hr:p.run=some r):aJ C f args (iv r):=by
 have hk:=Tree.ok h
 unfold QC at hk
 split at hk
 ·rename_i F hF
  split at hk
  ·rename_i hn
   refine aJ.start (F:=F.fM) (Ve hF) 5 (by have:=ua hn;rw [uo] at this;exact this) (fun B => ?_)
   refine qB (Ht C) F.fM.body Option.none Option.none tK _ _ true rF _ (fun _=>rfl) (V8 _) _ [] p _ _ (fun k f hf=>by cases hf) hr hk ?_
   intro e s Φ q hΦ cz h2
   obtain ⟨Φ3,q3,lY,eO,h3⟩:=q7 q hΦ h2 cz
   cases e with
   | ret=>exact Hy eO h3
   | normal=>exact Hy eO h3
   | _=>exact h3.elim
  ·exact hk.elim
 ·exact hk.elim
theorem Hz {α:Type} {R:α→AV} {H:α→List (Nat×aD)} {n:Nat} (hb:∀ a,cw n (H a)) {rs:List dy} {s:St} {q:az α} {r:α} (hr:q.run=some r) (h:(B8 R H n rs s q).Ok):∃ x,ja rs s=some x∧bO ⟨[(0,x)],s.heap,s.next⟩ ⟨[(0,R r)],H r,n⟩:=by
 unfold B8 at h
 split at h
 ·cases hr
  split at h
  ·rename_i x hx
   obtain ⟨rfl,h1⟩:=h
   have:=(W9 (o:=Option.none) (t:=.tt) (hb _) h1).2
   simp only [ux,uS,Jl] at this
   exact ⟨_,hx,this⟩
  ·exact h.elim
 ·rename_i x y hl a
  cases hr
  split at h
  ·rename_i x' hx
   obtain ⟨rfl,rfl,h1⟩:=h
   have hn:n≤s.next:=by
    unfold Jo at h1
    split at h1
    ·rename_i hn;exact ua hn
    ·exact h1.elim
   have:=(W9 (o:=Option.none) (t:=.tt) (hb _) h1).2
   simp only [ux,uS,Jl] at this
   exact ⟨_,hx,(OT hl).andThen this hn⟩
  ·exact h.elim
 ·exact h.elim
theorem az.dA {f:Nat} {α:Type} {args:List AV} {heap:List (Nat×aD)} {m d:Nat} {R:α→AV} {H:α→List (Nat×aD)} (p:az α) (b0:cw m heap) (b1:∀ a,cw (m+d) (H a)) (k0:(args.all (zX m)&&Wa m heap)=true) (k1:∀ a,(zX (m+d) (R a)&&Wa m (H a))=true)
  (h:QC C f args heap m p (Hx R H (m+d))=(QC C f args heap m p (Hx R H (m+d))).norm) {r:α} (hr:p.run=some r):dm C f args heap m (R r) (H r) d:=by
 have hk:=Tree.ok h
 have k0:=k0;rw [uc] at k0
 have k1:=k1 r;rw [uc] at k1
 unfold QC at hk
 split at hk
 ·rename_i F hF
  split at hk
  ·rename_i hn
   refine dm.start (F:=F.fM) (Ve hF) (ua hn) b0 (b1 r) k0.1 k1.1 k0.2 k1.2 (fun B => ?_)
   refine qB (Ht C) F.fM.body Option.none Option.none tK _ _ true rF _ (fun _=>rfl) (V8 _) _ [] p _ _ (fun k f hf=>by cases hf) hr hk ?_
   intro e s Φ q hΦ cz h2
   obtain ⟨Φ3,q3,lY,eO,h3⟩:=q7 q hΦ h2 cz
   cases e with
   | ret=>exact Hz b1 eO h3
   | normal=>exact Hz b1 eO h3
   | _=>exact h3.elim
  ·exact hk.elim
 ·exact hk.elim
end
section
section
variable {α β:Type}
def az.us:List (Nat×Nat)→az α→az α
 | [],p=>p
 | (j,k)::l,p=>.use j k (az.us l p)
abbrev az.sel (key:Nat) (p:az α):az α:=.use 999 key p
theorem bp.c1 {key:Nat} {o:List eS} {p:Prop} (h:p) {Φ:zU} (t:bp Φ):bp ((key,(o,[p]))::Φ):=t.add (.cons h .nil)
theorem bp.c2 {key:Nat} {o:List eS} {p q:Prop} (h:p) (h':q) {Φ:zU} (t:bp Φ):bp ((key,(o,[p,q]))::Φ):=t.add (.cons h (.cons h' .nil))
abbrev az.b1 (key:Nat) (x:Option β) (o:β→eS) {p:β→Prop} (h:∀ v,x=some v→p v) (k:β→az α):az α:=
 .bind x (fun v=>[(key,([o v],[p v]))]) (fun v hv=>.c1 (h v hv) .nil) k
abbrev az.u1 (j key:Nat) (x:Option β) (o:β→eS) {p:β→Prop} (h:∀ v,x=some v→p v) (k:β→az α):az α:=
 .bind x (fun v=>[(key,([o v],[p v]))]) (fun v hv=>.c1 (h v hv) .nil) fun v=>.use j key (k v)
abbrev az.f1 (key:Nat) (o:eS) {p:Prop} (h:p) (q:az α):az α:=.fact key [o] [p] (.cons h .nil) q
abbrev az.ix (key:Nat) (row:β→List IV) (l:List β) (n:Int) (k:β→az α):az α:=
 az.b1 key (ze l n) (fun e=>.r (row e)) (fun e h=>Ox row h) k
abbrev az.ln (key:Nat) (row:β→List IV) (l:List β) (q:az α):az α:=az.f1 key (.n (l.length:Int)) (Ow row l) q
abbrev az.call {C:Ctx} {f:Nat} {dx:List IV} {x:Option β} {iv:β→IV} (key:Nat) (t:∀ r,x=some r→aJ C f dx (iv r)) (k:β→az α):az α:=
 az.b1 key x (fun r=>.v (iv r)) t k
abbrev Spec.e {β:Type} (ks:List Nat) (ov:β→List (Nat×AV)) (hs:List Nat) (nx:Nat):Spec β:=⟨ks,ov,hs,fun _=>[],nx,fun _=>.nil,fun _=>Option.none⟩
end
def DM (P:Prop) (t:Tree):List Prop→Tree
 | []=>t
 | p::r=>.eq Prop p P (DM P t r)
theorem HA {P:Prop} (hP:P) {t:Tree}:∀ {l:List Prop},(DM P t l).Ok→t.Ok∧cK l
 | [],h=>⟨h,.nil⟩
 | p::r,h=>by
  obtain ⟨rfl,h2⟩:=h
  obtain ⟨h3,h4⟩:=HA hP h2
  exact ⟨h3,.cons hP h4⟩
def HB (id sz len:Nat) (all af:List (List IV)) (ks:List Nat) (iJ:List (List AV)) (hrows:all.map (fun r=>r.map AV.ap)=iJ) (hD:(all.drop 0).take len=af):eC where
 to st:=⟨Y7 id af st.env,Jj id af ks st.heap,st.next⟩
 T st t:=.eq (Option aD) (za st.heap id) (some (.af sz iJ)) (DM (0=0∧len=len) t (Y6 id 0 len st.env++W6 id 0 len ks st.heap))
 ok st t h:=by
  obtain ⟨h1,h2⟩:=h
  obtain ⟨h3,h4⟩:=HA ⟨rfl,rfl⟩ h2
  exact ⟨h3,WL id sz 0 len all af ks iJ h1 hrows hD h4,un _⟩
abbrev DN {α:Type} (id sz:Nat) (ks:List Nat) (f:α→List IV) (l:List α):eC:=HB id sz l.length (l.map f) (l.map f) ks (zb f l) (ke f l) (GN f l)
abbrev Pu {α:Type} (id sz:Nat) (ks:List Nat) (f:α→List IV) (l:List α) (n:Nat):eC:=HB id sz n (l.map f) ((l.take n).map f) ks (zb f l) (ke f l) (OM f l n)
def Pv {α:Type} (id sz k:Nat) (row:List AV) (f:α→List IV) (z:α) (hle:eB row (zu (f z))):eC where
 to st:=⟨st.env,zk st.heap id (.af sz (zb f (ub k z))),st.next⟩
 T st t:=.eq (Option aD) (za st.heap id) (some (.af sz (ub k row))) t
 ok st t h:=⟨h.2,ON id sz k row f z h.1 hle,un _⟩
def Pw (id sz:Nat) (l m:List (List AV)) (hle:dQ l m):eC where
 to st:=⟨st.env,zk st.heap id (.af sz m),st.next⟩
 T st t:=.eq (Option aD) (za st.heap id) (some (.af sz l)) t
 ok st t h:=⟨h.2,GO id sz l m h.1 hle,un _⟩
def HC (t0 sz:Nat):eC where
 to st:={env:=zk st.env t0 (.aS st.next []),heap:=zo st.heap st.next (.aU sz 0),next:=st.next+1}
 T st t:=.eq (Option AV) (za st.env t0) (some .nil) t
 ok st t h:=⟨h.2,NG h.1,uK _⟩
def Z2 (id sz' r j:Nat):eC where
 to st:=match za st.heap id with
  | some (.af sz af)=>⟨st.env,zk (zo st.heap st.next (.aU sz' 0)) id (.af sz (af.set r ((af.getD r []).set j (.aS st.next [])))),st.next+1⟩
  | _=>st
 T st t:=match za st.heap id with
  | some (.af sz af)=>match af[r]? with
   | some row=>.eq (Option AV) row[j]? (some .nil) t
   | none=>.bad 4074
  | _=>.bad 4075
 ok st t h:=by
  split at h
  ·rename_i sz af ho
   split at h
   ·rename_i row hr
    obtain ⟨h1,h2⟩:=h
    simp only [ho]
    have:af.getD r []=row:=by rw [uD,hr];rfl
    rw [this]
    exact ⟨h2,K5 id sz sz' af r j row ho hr h1,uK _⟩
   ·exact h.elim
  ·exact h.elim
def HD {α:Type} (t id r j i sz':Nat) (f:α→List IV) (l:List α):eC where
 to st:=match za st.heap id with
  | some (.af sz af)=>⟨st.env,zk (zk (zo st.heap st.next (.aU sz' l.length)) i .dead) id (.af sz (af.set r ((af.getD r []).set j (.aS st.next (l.map f))))),st.next+1⟩
  | _=>st
 T st tr:=match za st.env t with
  | some (.ptr id' a0 b0)=>.eq Nat id' id (match za st.heap id with
   | some (.af sz af)=>match af[r]? with
    | some row=>.eq (Option AV) row[j]? (some (.Zaj i 0 l.length)) (.eq (Option aD) (za st.heap i) (some (.af sz' (zb f l))) (match uw i id with
     | true=>.bad 4098
     | false=>tr))
    | none=>.bad 4100
   | _=>.bad 4101)
  | _=>.bad 4102
 ok st tr h:=by
  split at h
  ·rename_i id' a0 b0 ht
   obtain ⟨h0,h⟩:=h
   subst h0
   split at h
   ·rename_i sz af ho
    split at h
    ·rename_i row hr
     obtain ⟨h1,h2,h3⟩:=h
     split at h3
     ·exact h3.elim
     ·rename_i hne
      simp only [ho]
      have:af.getD r []=row:=by rw [uD,hr];rfl
      rw [this]
      have hw:=OW (st:=st) t a0 b0 id' sz i sz' af r j row (l.map f) ht ho hr (by rw [h1,uo]) (by rw [h2,ke]) (fun e=>by subst e;rw [uX] at hne;cases hne)
      rw [uo] at hw
      exact ⟨h3,hw,uK _⟩
    ·exact h.elim
   ·exact h.elim
  ·exact h.elim
def Px {α:Type} (t i sz':Nat) (f:α→List IV) (l:List α):eC where
 to st:=⟨zk st.env t (.aS st.next (l.map f)),zk (zo st.heap st.next (.aU sz' l.length)) i .dead,st.next+1⟩
 T st tr:=.eq (Option AV) (za st.env t) (some (.Zaj i 0 l.length)) (.eq (Option aD) (za st.heap i) (some (.af sz' (zb f l))) tr)
 ok st tr h:=by
  obtain ⟨h1,h2,h3⟩:=h
  have hw:=OY (st:=st) t i sz' (l.map f) (by rw [h1,uo]) (by rw [h2,ke])
  rw [uo] at hw
  exact ⟨h3,hw,uK _⟩
def dD (a b:Nat):Option (PLift (a=b)):=if h:a=b then some ⟨h⟩ else none
theorem az.aB {α:Type} {p:az α} {d:Option α} {r:α} (h:d=some r) (e:d=p.run):p.run=some r:=e ▸ h
end
def Py (P n:Nat):eC where
 to st:=⟨st.env,zk st.heap P (.af 1 (qv zE (ub n [])))++x9 (ub n []),2000000⟩
 T st t:=.eq (Option aD) (za st.heap P) (some (.af 1 (ub n [.nil]))) (match uH st.next qT with
  | true=>t
  | false=>.bad 5015)
 ok st t h:=by
  obtain ⟨h1,h2⟩:=h
  split at h2
  ·rename_i hn
   have hn:=ua hn
   have hm:qT=999999:=rfl
   exact ⟨h2,Pd P n h1 hn,by show st.next≤2000000;omega⟩
  ·exact h2.elim
def vv (Ls:List (List Int)) (n:Nat) (to i:Int):Option (List (List Int)):=
 if 0≤to∧to < n∧to < 1000000 then match Ls[to.toNat]? with
  | some L=>if (L.length+1)*8≤140737488355328 then some (Ls.set to.toNat (L++[i])) else none
  | none=>none
 else none
def kh:List aM:=[⟨some 65,.dh (.t 8),none⟩,⟨some 66,.nP 1 (.t 13),none⟩,⟨some 67,.load false 1 (.t 66),none⟩,⟨some 68,.dh (.t 8),none⟩,⟨some 69,.nP 1 (.t 13),none⟩,⟨some 70,.load false 1 (.t 69),none⟩,
 ⟨some 71,.idx 1 (.t 68) (.t 70),none⟩,⟨some 72,.load false 1 (.t 71),none⟩,⟨some 73,.dh (.t 10),none⟩,⟨some 74,.cU 1 [.ap (.int .i64 0)] 1 [(0,.t 73)],none⟩,⟨some 75,.app 1 8 (.t 72) (.t 74),none⟩,⟨some 76,.idx 1 (.t 65) (.t 67),none⟩,⟨none,.store 1 (.t 76) (.t 75),none⟩]
def QD:List Nat:=[0,0,2,0,0,16,56,120,0,256,1016,2047,4095]
def Pz (ks:List Nat):cA:=.region true QD kh (some ks)
def QE (st:St) (ks:List Nat) (P:Nat) (Ls:List (List Int)):St:=⟨qC (ks.filter fun k=>uM k 65) st.env,zk (Zz st.heap) P (.af 1 (qv zE Ls))++x9 Ls,st.next+13⟩
theorem xi {C:bz} {ord:List Nat} {K:St→Prop} {dst:Option Nat} {op:cO} {rest:List aM} {j:Nat} {W R:List (Nat×Nat)} {st:St} (r:AV) (aN:List (Nat×aD)) (hc:(match op with | .call _ _=>true | _=>false)=false)
  (he:ai op (zd st.env) (za st.heap) st.next=some (r,aN)) (hk:xh ord j W R (z6 aN) (zj op (zd st.env))=true)
  (hn:lD C ord K rest (j+1) (qY j (z6 aN) W) (qY j (zj op (zd st.env)) R) (St.after st dst r aN)):lD C ord K (⟨dst,op,none⟩::rest) j W R st:=by
 rw [FZ,F0]
 have e:∀ KD,dW C KD st op=qr KD (zj op (zd st.env)) (ai op (zd st.env) (za st.heap) st.next):=fun KD=>by
  cases op<;>first | rfl | exact Bool.noConfusion hc
 rw [e,he]
 exact ⟨hk,hn⟩
theorem Qs (ks:List Nat):∀ (env:List (Nat×AV)) (t:Nat),za (qC ks env) t=if ks.contains t then za env t else none
 | [],t=>by simp [qC,za]
 | (k,v)::r,t=>by
  have ih:=Qs ks r t
  simp only [qC,List.filter_cons] at ih ⊢
  by_cases hk:ks.contains k=true
  ·rw [if_pos hk]
   simp only [za]
   by_cases e:k=t
   ·subst e;rw [if_pos rfl,if_pos rfl,if_pos hk]
   ·rw [if_neg e,if_neg e];exact ih
  ·rw [if_neg hk,ih]
   by_cases e:k=t
   ·subst e;rw [if_neg hk,if_neg hk]
   ·simp only [za];rw [if_neg e]
set_option maxHeartbeats 1000000 in
theorem PA {C:bz} {nt:Fr} {st:St} {P n M:Nat} {i to:Int} {a:AV} {Ls HE:List (List Int)} {ks:List Nat} {K:Exit→St→Prop}
  (e8:za st.env 8=some (.Zaj P 0 n)) (sO:za st.env 13=some (.ptr M 0 0)) (dR:za st.env 10=some (vI i)) (hN:oy st.heap P Ls) (hM:za st.heap M=some (.af 2 [[a,vI to]]))
  (hlt:∀ j o,za st.heap j=some o→j < st.next) (ha:vv Ls n to i=some HE) (h:K .normal (QE st ks P HE)):cB C nt (Pz ks) K st:=by
 obtain ⟨env,heap,N⟩:=st
 simp only at e8 sO dR hN hM hlt
 unfold vv at ha
 split at ha
 case isFalse=>cases ha
 rename_i hto
 obtain ⟨t0,t1,t2⟩:=hto
 split at ha
 case h_2=>cases ha
 rename_i L hL
 split at ha
 case isFalse=>cases ha
 rename_i hsz
 cases ha
 obtain ⟨k,hk⟩:∃ k:Nat,to=(k:Int):=⟨to.toNat,by omega⟩
 subst hk
 simp only [Int.toNat_natCast] at hL h
 have A2:k < 1000000:=by omega
 have hkn:k < n:=by omega
 have hq:=hN.aU hL A2
 have hnb:zE+k < 2000000:=by simp only [zE];omega
 have hrow:(qv zE Ls)[k]?=some [.aS (zE+k) (L.map zc)]:=by rw [kb,hL,uT,ww hnb]
 have HF:=hlt _ _ hN.obj
 have hMN:=hlt _ _ hM
 have PB:=hlt _ _ hq
 have hPM:P≠M:=fun e=>by have:=hN.obj;rw [e,hM] at this;simp at this
 have A3:zE+k≠P:=fun e=>by have:=hN.obj;rw [←e,hq] at this;cases this
 have PC:zE+k≠M:=fun e=>by rw [e] at hq;rw [hM] at hq;cases hq
 refine Va (QE ⟨env,heap,N⟩ ks P (Ls.set k (L++[i]))) (by simp [QE]) h ?_
 refine F4 ?_
 have lk:X3 kh=false:=rfl
 rw [lk]
 show lD C _ _ kh 0 [] [] _
 unfold kh
 refine xi (.Zaj P 0 n) [] rfl (by simp [ai,zd,e8]) rfl ?_
 refine xi (.ptr M 0 1) [] rfl (by simp [St.after,St.put,zL,ai,zd,zm,sO,hM]) rfl ?_
 refine xi (vI (k:Int)) [] rfl (by simp [St.after,St.put,zL,ai,zd,zm,hM]) rfl ?_
 refine xi (.Zaj P 0 n) [] rfl (by simp [St.after,St.put,zL,ai,zd,zm,e8]) rfl ?_
 refine xi (.ptr M 0 1) [] rfl (by simp [St.after,St.put,zL,ai,zd,zm,sO,hM]) rfl ?_
 refine xi (vI (k:Int)) [] rfl (by simp [St.after,St.put,zL,ai,zd,zm,hM]) rfl ?_
 refine xi (.ptr P k 0) [] rfl (by simp [St.after,St.put,zL,ai,zd,zm,hN.obj,vI,hkn]) rfl ?_
 refine xi (.aS (zE+k) (L.map zc)) [] rfl (by simp [St.after,St.put,zL,ai,zd,zm,hN.obj,hrow]) rfl ?_
 refine xi (vI i) [] rfl (by simp [St.after,St.put,zL,ai,zd,zm,dR]) rfl ?_
 have n1:N+9≠P:=by omega
 have n2:N+9≠M:=by omega
 have n3:N+9≠zE+k:=by omega
 have ev8:∀ x,za (zk env 65 x) 8=some (.Zaj P 0 n):=fun x=>by rw [zm,if_neg (by omega)];exact e8
 refine xi (.Zaj (N+9) 0 1) [(N+9,.af 1 [[vI i]])] rfl (by simp [St.after,St.put,zL,ai,zd,zm,aI,cellsOf,vI,j7,qX]) ?_ ?_
 ·simp [xh,z6,zj,wd,qY,qc,qV,zd,St.after,St.put,zL,zm,e8,sO,dR,vI,Ne.symm n1,Ne.symm n2]
 refine xi (.aS (zE+k) (L.map zc++[zc i])) [(zE+k,.aU 1 ((L.map zc).length+1))] rfl ?_ ?_ ?_
 ·simp [St.after,St.put,zL,ai,zd,zm,zr,JO,xI,hq,n3,aI,jm,vI,zc,hsz]
 ·simp [xh,z6,zj,wd,qY,qc,qV,zd,St.after,St.put,zL,zm,e8,sO,dR,vI,ed,QD,Ne.symm A3,Ne.symm PC,n3]
 refine xi (.ptr P k 0) [] rfl ?_ ?_ ?_
 ·simp [St.after,St.put,zL,ai,zd,zm,zr,A3,n1,hN.obj,vI,hkn]
 ·simp [xh,z6,zj,wd,qY,qc,qV,zd,St.after,St.put,zL,zm,e8,sO,dR,vI,ed,QD]
 refine xi .undef [(P,.af 1 ((qv zE Ls).set k [.aS (zE+k) (L.map zc++[zc i])]))] rfl ?_ ?_ ?_
 ·simp [St.after,St.put,zL,ai,zd,zm,zr,A3,n1,hN.obj,hrow,cellsOf,qX]
 ·simp [xh,z6,zj,wd,qY,qc,qV,zd,St.after,St.put,zL,zm,e8,sO,dR,vI,ed,QD]
 show bO ⟨qC ks (zk (zk (zk (zk (zk (zk (zk (zk (zk (zk (zk (zk env 65 _) 66 _) 67 _) 68 _) 69 _) 70 _) 71 _) 72 _) 73 _) 74 _) 75 _) 76 _),zo (zo (zo heap (N+9) _) (zE+k) _) P _,N+13⟩ (QE ⟨env,heap,N⟩ ks P (Ls.set k (L++[i])))
 refine Pc (fun t x hx => ?_) fun j o hj => ?_
 ·rw [Qs] at hx
  split at hx
  ·rename_i hc
   rw [List.contains_iff_mem,List.mem_filter] at hc
   have ht:t < 65:=by simpa [uC] using hc.2
   rw [Qs,if_pos (by simpa using hc.1)]
   simp only [zm]
   rw [if_neg (by omega),if_neg (by omega),if_neg (by omega),if_neg (by omega),if_neg (by omega),if_neg (by omega),if_neg (by omega),if_neg (by omega),if_neg (by omega),if_neg (by omega),if_neg (by omega),if_neg (by omega)]
   exact hx
  ·cases hx
 have iQ:(qv zE Ls).set k [.aS (zE+k) (L.map zc++[zc i])]=qv zE (Ls.set k (L++[i])):=by
  rw [←K7 Ls zE k (L++[i]),ww hnb];simp
 simp only [QE] at hj
 rw [vT,zm] at hj
 simp only [zr]
 by_cases DO:P=j
 ·rw [if_pos DO] at hj
  rw [if_pos DO,iQ];exact hj
 ·rw [if_neg DO] at hj ⊢
  have keep:∀ o',za heap j=some o'→j≠zE+k→(if zE+k=j then some (aD.aU 1 ((L.map zc).length+1)) else if N+9=j then some (.af 1 [[vI i]]) else za heap j)=some o':=fun o' h1 h2=>by
   rw [if_neg (fun e=>h2 e.symm),if_neg (fun e=>by have:=hlt _ _ h1;omega)];exact h1
  cases e:za (Zz heap) j with
  | some o'=>
   rw [e,uV] at hj
   cases hj
   have:=Jk hN.out e
   refine keep _ (by rw [kg,e];rfl) (fun e2 => ?_)
   simp only [zE,qT] at this e2 hnb
   omega
  | none=>
   rw [e,ur,vt] at hj
   split at hj
   ·rename_i ej
    cases hj
    refine keep _ ?_ (by rw [ej];simp only [qT,zE];omega)
    rw [kg,e,hN.tail,ur,vt,if_pos ej]
   ·split at hj
    ·rename_i ej
     by_cases HG:j=zE+k
     ·subst HG
      rw [show zE+k - zE=k by omega,List.getElem?_set_self (ug.1 hL).1] at hj
      simp only [uT,Option.some.injEq] at hj
      subst hj
      rw [if_pos rfl];simp
     ·rw [List.getElem?_set_ne (by omega)] at hj
      obtain ⟨L2,PD,rfl⟩:=ud.1 hj
      refine keep _ ?_ HG
      have:=hN.aU PD (by have:=ej.2;simp only [zE];omega)
      rw [show zE+(j - zE)=j by omega] at this
      exact this
    ·cases hj
theorem PE {C:bz} {nt:Fr} {c:cA} {K:Exit→St→Prop} {st:St} (h:∀ g a w,Rel C nt g st a w→cB C nt c K st):cB C nt c K st:=fun code hc g a w R I=>h g a w R code hc g a w R I
def PF (P n M:Nat) (i to:Int) (a:AV) (Ls:List (List Int)):rE (List (List Int)) where
 x:=vv Ls n to i
 T c st k:=match c with
  | .region true o items (some ks)=>.eq (List Nat) o QD (.eq (List aM) items kh (.eq (Option AV) (za st.env 8) (some (.Zaj P 0 n)) (.eq (Option AV) (za st.env 13) (some (.ptr M 0 0)) (.eq (Option AV) (za st.env 10) (some (vI i))
   (.eq (Option aD) (za st.heap P) (some (.af 1 (qv zE Ls))) (.eq (Option aD) (za st.heap M) (some (.af 2 [[a,vI to]])) (.eq (List (Nat×aD)) (ZZ st.heap) (x9 Ls)
   (match yp st.heap with
   | true=>.all (List (List Int)) fun b=>k b (QE st ks P b)
   | false=>.bad 5110))))))))
  | _=>.bad 5111
 ok C nt c st k K b hb hT hK:=by
  split at hT
  ·rename_i o items ks
   obtain ⟨rfl,rfl,h8,DP,h10,hP,hM,ht,h1⟩:=hT
   split at h1
   ·rename_i ho
    refine PE fun g a' w R => ?_
    exact PA h8 DP h10 ⟨hP,ht,ho⟩ hM (fun j o hj=>R.heap.key j o hj) hb (hK _ (h1 b))
   ·exact h1.elim
  ·exact hT.elim
end Go.Proofs.YtlpmnmbebkdocaaGreatDoor
namespace Go.Proofs.YtlpmnmbebkdocaaGreatDoor
open Go.RowKit
set_option linter.unusedSimpArgs false
set_option linter.unusedVariables false
set_option maxRecDepth 100000
section
structure aQ where
 num:Int
 den:Int
 deriving Inhabited,DecidableEq
def aQ.row (x:aQ):List IV:=[.int .i64 x.num,.int .i64 x.den]
def aQ.iv (x:aQ):IV:=.agg x.row
structure bQ where
 name:ByteArray
 kind:Int
 base:Int
 factor:aQ
 deriving Inhabited,DecidableEq
def bQ.row (x:bQ):List IV:=[.str x.name,.int .i64 x.kind,.int .i64 x.base,.int .i64 x.factor.num,.int .i64 x.factor.den]
def bQ.iv (x:bQ):IV:=.agg x.row
structure aV where
 kind:Int
 bK:Int
 bN:Int
 to:Int
 unit:Int
 dc:aQ
 deriving Inhabited,DecidableEq
def aV.row (x:aV):List IV:=[.int .i64 x.kind,.int .i64 x.bK,.int .i64 x.bN,.int .i64 x.to,.int .i64 x.unit,.int .i64 x.dc.num,.int .i64 x.dc.den]
def aV.iv (x:aV):IV:=.agg x.row
structure cD where
 clause:Int
 is:Int
 deriving Inhabited,DecidableEq
def cD.row (x:cD):List IV:=[.int .i64 x.clause,.int .i64 x.is]
def cD.iv (x:cD):IV:=.agg x.row
structure aK where
 kind:Int
 bK:Int
 act:Int
 need:Int
 start:List cD
 after:Int
 bq:Int
 bu:Bool
 final:Bool
 aL:Int
 cX:Int
 value:aQ
 unit:Int
 to:Int
 br:Bool
 deriving Inhabited,DecidableEq
def aK.row (x:aK):List IV:=[.int .i64 x.kind,.int .i64 x.bK,.int .i64 x.act,.int .i64 x.need,.slice (ul cD.row x.start),.int .i64 x.after,.int .i64 x.bq,.bool x.bu,.bool x.final,.int .i64 x.aL,.int .i64 x.cX,.int .i64 x.value.num,.int .i64 x.value.den,.int .i64 x.unit,.int .i64 x.to,.bool x.br]
def aK.iv (x:aK):IV:=.agg x.row
structure aq where
 aT:Int
 aF:List Int
 bB:List bQ
 aC:List aV
 zw:List aK
 bh:Int
 off:List Int
 deriving Inhabited,DecidableEq
def aq.row (x:aq):List IV:=[.int .i64 x.aT,.slice (ul zc x.aF),.slice (ul bQ.row x.bB),.slice (ul aV.row x.aC),.slice (ul aK.row x.zw),.int .i64 x.bh,.slice (ul zc x.off)]
def aq.iv (x:aq):IV:=.agg x.row
structure ak where
 aR:Int
 left:Int
 got:Int
 bC:Int
 bR:Bool
 deriving Inhabited,DecidableEq
def ak.row (x:ak):List IV:=[.int .i64 x.aR,.int .i64 x.left,.int .i64 x.got,.int .i64 x.bC,.bool x.bR]
def ak.iv (x:ak):IV:=.agg x.row
structure aH where
 day:Int
 aF:List Int
 used:List Bool
 aO:List ak
 deriving Inhabited,DecidableEq
def aH.row (x:aH):List IV:=[.int .i64 x.day,.slice (ul zc x.aF),.slice (ul zi x.used),.slice (ul ak.row x.aO)]
def aH.iv (x:aH):IV:=.agg x.row
structure aG where
 state:aH
 own:Bool
 deriving Inhabited,DecidableEq
def aG.row (x:aG):List IV:=[.int .i64 x.state.day,.slice (ul zc x.state.aF),.slice (ul zi x.state.used),.slice (ul ak.row x.state.aO),.bool x.own]
def aG.iv (x:aG):IV:=.agg x.row
structure bk where
 step:Int
 to:Int
 deriving Inhabited,DecidableEq
def bk.row (x:bk):List IV:=[.int .i64 x.step,.int .i64 x.to]
def bk.iv (x:bk):IV:=.agg x.row
structure b9 where
 aj:Int
 aY:List aG
 bg:List (List bk)
 deriving Inhabited,DecidableEq
def b9.row (x:b9):List IV:=[.int .i64 x.aj,.slice (ul aG.row x.aY),.slice (ul (zI bk.row) x.bg)]
def b9.iv (x:b9):IV:=.agg x.row
structure aW where
 safe:Bool
 move:Int
 wait:Int
 deriving Inhabited,DecidableEq
def aW.row (x:aW):List IV:=[.bool x.safe,.int .i64 x.move,.int .i64 x.wait]
def aW.iv (x:aW):IV:=.agg x.row
structure bD where
 kind:Int
 aj:Int
 clause:Int
 other:Int
 trace:List Int
 deriving Inhabited,DecidableEq
def bD.row (x:bD):List IV:=[.int .i64 x.kind,.int .i64 x.aj,.int .i64 x.clause,.int .i64 x.other,.slice (ul zc x.trace)]
def bD.iv (x:bD):IV:=.agg x.row
structure bL where
 from_:Int
 step:Int
 deriving Inhabited,DecidableEq
def bL.row (x:bL):List IV:=[.int .i64 x.from_,.int .i64 x.step]
def bL.iv (x:bL):IV:=.agg x.row
attribute [simp] aQ.row bQ.row aV.row cD.row aK.row aq.row ak.row aH.row aG.row bk.row b9.row aW.row bD.row bL.row
end
end Go.Proofs.YtlpmnmbebkdocaaGreatDoor
namespace Go.Proofs.YtlpmnmbebkdocaaGreatDoor
open Go.RowKit
def wx : String := "internal/strconv.uint64pow10"
noncomputable def DQ:Ah where
 p w:=Lib.TabIs Tryz.prog w wx .u64 Lib.pow10Tab
 n:=(Tryz.prog.globalNamed wx).getD 0+1
 ok w w' h hp:=by
  unfold Lib.TabIs World.var? at *
  cases hg:Tryz.prog.globalNamed wx with
  | none=>rw [hg] at hp;cases hp
  | some g=>
   rw [hg] at hp
   simp only [bf] at hp ⊢
   have:=h g (by rw [hg];simp)
   rw [this];exact hp
theorem PG {w:World} (h:DQ.p w):DQ.n≤w.heap.size:=by
 have h':w.var? Tryz.prog wx=some (Lib.pow10Tab.map fun z=>Value.int .u64 z).toArray:=h
 unfold World.var? at h'
 show (Tryz.prog.globalNamed wx).getD 0+1≤_
 cases hg:Tryz.prog.globalNamed wx with
 | none=>rw [hg] at h';cases h'
 | some g=>
  rw [hg] at h'
  simp only [bf] at h'
  split at h'
  ·rename_i h2
   have:=(uv.1 h2).1
   simp only [Option.getD_some];omega
  ·cases h'
end Go.Proofs.YtlpmnmbebkdocaaGreatDoor
namespace Go.Proofs.YtlpmnmbebkdocaaGreatDoor
open Go.RowKit
set_option linter.unusedSimpArgs false
set_option linter.unusedVariables false
set_option maxRecDepth 100000
noncomputable def C0:Ctx:=⟨Tryz.prog,[0,0,0,0,0,0,0,0,15,0,0,0,0,18,0,91,0,0,0,41,42,0,0,0,0,49,0,0,0,45,46,47,48,50,43,126,127,128,101,0,81,82,83,84,85,86,87,88,0,0,0,90,135,136,124,125,149,143,144,145,61,99,134,98,100,103,102,137,105,44,60,104,0,30,53,0,34,94,95,131,93,77,121,123,0,0,0,0,0,0,0,0,0,27,40,0,0,13,23,132,17,22,59,62,89,138,97,133,142,152,159,155,156,160,157,154,153,158,161,162,163,129,130,147,148,146,122,0,0,0,0,0,0,65,110,111,109,112,31,107,108,24,26,0,0,0,0,0,0,0,0,0,0,54,20,56,0,55,96,57,58,0,0,0,0,0,0,25,0,0,0,0,0,0,0,0,92,51,39,80,21,19,52,0,3,4,11,38,37,16,12,14,29,68,66,67,114,69,116,70,117,71,76,75,120,118,119,140,150,151,113,115,139,141,0,0,0,0,0,0,0,0,0,0,0,0,0,0,0,0,0,0,0,0,0,0,0,0,0,0,0,0,0,0,0,0,0,0,0,0,0,0,0,0,0,0,0,0,0,0,0,0,0,0,0,0,0,79,0,0,0,0,0,0,0,0,0,0,0,0,0,0,0,0,0,0,0,0,0,0,0,0,0,0,0,0,0,0,0,0,0,0,0,0,0,0,0,0,10,8,7,5,9,6,36,28,63,64,35,32,106,78,33,73,72,74],DQ,[]⟩
def PJ:List aM:=[⟨some 4,.dh (.c (.nil)),none⟩]
def PK:List aM:=[⟨some 5,.dh (.c (.nil)),none⟩]
def PL:List aM:=[⟨some 6,.dh (.t 1),none⟩,
 ⟨some 7,.bin .neq (.t 6) (.c (.ap (.int .i64 0))),none⟩]
def Kb:List aM:=[⟨some 8,.dh (.t 5),none⟩,
 ⟨some 9,.dh (.t 0),none⟩,
 ⟨some 10,.dh (.t 1),none⟩,
 ⟨some 11,.look false (.ap (.agg [.int .i64 0,.int .i64 0])) false (.t 9) (.t 10),none⟩,
 ⟨some 12,.cut false 1 1 (.t 11),none⟩,
 ⟨some 13,.cU 1 [.ap (.int .i64 0)] 1 [(0,.t 12)],none⟩,
 ⟨some 14,.app 1 8 (.t 8) (.t 13),none⟩,
 ⟨some 5,.dh (.t 14),none⟩]
def PM:List aM:=[⟨some 15,.dh (.t 0),none⟩,
 ⟨some 16,.dh (.t 1),none⟩,
 ⟨some 17,.look false (.ap (.agg [.int .i64 0,.int .i64 0])) false (.t 15) (.t 16),none⟩,
 ⟨some 18,.cut false 0 1 (.t 17),none⟩,
 ⟨some 1,.dh (.t 18),none⟩]
def Kc:List aM:=[⟨some 19,.dh (.t 5),none⟩,
 ⟨some 20,.call (.c (.func 213 [] [])) [.t 19],none⟩]
def PN:List aM:=[⟨some 21,.dh (.t 5),none⟩,
 ⟨some 4,.dh (.t 21),none⟩]
def B9:dw:=⟨22,[.tmp 4],(
.seq (.region false [] PJ (some [0,1])) (
.seq (.region false [] PK (some [0,1,5])) (
.seq (.block 0 (.loop (.seq (.seq (.region false [] PL (some [0,1,5,7])) (
.cond (.t 7) (.skip) (.exit 0))) (
.block 1 (.seq (.region false [] Kb (some [0,1,5])) (
.region false [] PM (some [0,1,5]))))))) (
.seq (.region false [] Kc (some [5])) (
.seq (.region false [] PN (some [4])) (
.ret))))))⟩
theorem PO:qn C0 206=some B9.erase:=by kernel_rfl
def PP:List aM:=[⟨some 4,.dh (.c (.nil)),none⟩]
def PR:List aM:=[⟨some 5,.dh (.c (.nil)),none⟩]
def PS:List aM:=[⟨some 9,.fc,none⟩,
 ⟨some 6,.dh (.t 9),none⟩]
def PT:List aM:=[⟨some 10,.dh (.t 0),none⟩,
 ⟨some 11,.dh (.c (.ap (.int .i64 0))),none⟩]
def PU:List aM:=[⟨some 12,.bin .lss (.t 11) (.t 10),none⟩]
def PV:List aM:=[⟨some 13,.dh (.t 11),none⟩,
 ⟨some 7,.dh (.t 13),none⟩]
def DR:List aM:=[⟨some 14,.dh (.t 1),none⟩,
 ⟨some 15,.dh (.t 7),none⟩,
 ⟨some 16,.call (.t 14) [.t 15],none⟩,
 ⟨some 8,.dh (.t 16),none⟩]
def PW:List aM:=[⟨some 17,.dh (.t 8),none⟩,
 ⟨some 18,.dh (.t 7),none⟩,
 ⟨some 19,.bin .eql (.t 17) (.t 18),none⟩]
def DS:List aM:=[⟨some 20,.dh (.t 6),none⟩,
 ⟨some 21,.dh (.t 7),none⟩,
 ⟨some 22,.dh (.t 5),none⟩,
 ⟨some 23,.len (.t 22),none⟩,
 ⟨none,.upd false (.t 20) (.t 21) (.t 23),none⟩]
def DT:List aM:=[⟨some 24,.dh (.t 5),none⟩,
 ⟨some 25,.cU 1 [.nil] 1 [(0,.c (.nil))],none⟩,
 ⟨some 26,.app 1 24 (.t 24) (.t 25),none⟩,
 ⟨some 5,.dh (.t 26),none⟩]
def QF:List aM:=[⟨some 27,.dh (.t 5),none⟩,
 ⟨some 28,.dh (.t 6),none⟩,
 ⟨some 29,.dh (.t 8),none⟩,
 ⟨some 30,.look false (.ap (.int .i64 0)) false (.t 28) (.t 29),none⟩,
 ⟨some 31,.dh (.t 5),none⟩,
 ⟨some 32,.dh (.t 6),none⟩,
 ⟨some 33,.dh (.t 8),none⟩,
 ⟨some 34,.look false (.ap (.int .i64 0)) false (.t 32) (.t 33),none⟩,
 ⟨some 35,.idx 1 (.t 31) (.t 34),none⟩,
 ⟨some 36,.load false 1 (.t 35),none⟩,
 ⟨some 37,.dh (.t 7),none⟩,
 ⟨some 38,.cU 1 [.ap (.int .i64 0)] 1 [(0,.t 37)],none⟩,
 ⟨some 39,.app 1 8 (.t 36) (.t 38),none⟩,
 ⟨some 40,.idx 1 (.t 27) (.t 30),none⟩,
 ⟨none,.store 1 (.t 40) (.t 39),none⟩]
def HH:List aM:=[⟨some 41,.bin .add (.t 11) (.c (.ap (.int .i64 1))),none⟩,
 ⟨some 11,.dh (.t 41),none⟩]
def PX:List aM:=[⟨some 42,.dh (.t 5),none⟩,
 ⟨some 4,.dh (.t 42),none⟩]
def Ca:dw:=⟨43,[.tmp 4],(
.seq (.region false [] PP (some [0,1])) (
.seq (.region false [] PR (some [0,1,5])) (
.seq (.region false [] PS (some [0,1,5,6])) (
.seq (.seq (.region false [] PT (some [1,5,6,10,11])) (
.block 0 (.loop (.seq (.region false [] PU (some [1,5,6,10,11,12])) (
.seq (.cond (.t 12) (.skip) (.exit 0)) (
.seq (.block 1 (.seq (.region false [] PV (some [1,5,6,7,10,11])) (
.seq (.region false [] DR (some [1,5,6,7,8,10,11])) (
.seq (.seq (.region false [] PW (some [1,5,6,7,8,10,11,19])) (
.cond (.t 19) (.seq (.region false [] DS (some [1,5,6,7,8,10,11])) (
.region false [] DT (some [1,5,6,7,8,10,11]))) (.skip))) (
.region true [0,0,0,6,0,0,0,96,240,496,0,1024,4080,8191,16383] QF (some [1,5,6,10,11])))))) (
.region false [] HH (some [1,5,6,10,11])))))))) (
.seq (.region false [] PX (some [4])) (
.ret))))))⟩
theorem PY:qn C0 33=some Ca.erase:=by kernel_rfl
end Go.Proofs.YtlpmnmbebkdocaaGreatDoor
namespace Go.Proofs.YtlpmnmbebkdocaaGreatDoor
open Go.RowKit Go.ChangeShapes Go.WideShapes
set_option linter.unusedSimpArgs false
set_option linter.unusedVariables false
section
inductive eD where
 | bool
 | int (k:IntKind)
 | str
 | slice (bI:Nat) (row:List eD)
inductive gB:eD→IV→Prop where
 | bool (b:Bool):gB .bool (.bool b)
 | int (k:IntKind) (n:Int) (h:k.min≤n∧n≤k.max):gB (.int k) (.int k n)
 | str (s:ByteArray) (h:s.size≤reachBytes):gB .str (.str s)
 | slice (bI:Nat) (cL:List eD) (af:List (List IV)) (hl:af.length*bI≤reachBytes) (hr:∀ row∈af,row.length=cL.length)
  (hc:∀ row∈af,∀ (i:Nat) (t:eD) (c:IV),cL[i]?=some t→row[i]?=some c→gB t c):gB (.slice bI cL) (.slice af)
def bS (cL:List eD) (row:List IV):Prop:=row.length=cL.length∧∀ (i:Nat) (t:eD) (c:IV),cL[i]?=some t→row[i]?=some c→gB t c
def QG (P:Program) (f:TypeId→Option (List eD)):Nat→List Field→Option (List eD)
 | _,[]=>some []
 | off,x::r=>if x.offset=off then match f x.type with
   | some a=>if a.length=P.cellsOf x.type then match QG P f (off+a.length) r with
     | some b=>some (a++b)
     | none=>none
    else none
   | none=>none
  else none
def Vg (P:Program):Nat→TypeId→Option (List eD)
 | 0,_=>none
 | n+1,t=>match P.underlying t with
  | some .bool=>some [.bool]
  | some (.int k)=>some [.int k]
  | some .string=>some [.str]
  | some (.slice e)=>match Vg P n e with
   | some r=>if r.length=P.cellsOf e∧0 < r.length then some [.slice (P.bytesOf e) r] else none
   | none=>none
  | some (.struct fs)=>match QG P (Vg P n) 0 fs.toList with
   | some r=>if r.length=P.cellsOf t then some r else none
   | none=>none
  | _=>none
def nU (w:World) (b:Nat):Nat:=match w.heap[b]? with
 | some (.cells c _ _)=>c.size
 | _=>0
theorem PZ {w:World} {b:Nat} (h:0 < nU w b):b < w.heap.size:=by
 unfold nU at h
 split at h
 ·rename_i c t f e;exact (uv.1 e).1
 ·omega
theorem HI {w:World} {b off:Nat} {s:Option Nat} {v:Value} (h:w.cell? ⟨b,off,s⟩=some v):s=none∧off < nU w b:=by
 unfold World.cell? at h
 unfold nU
 simp only at h
 split at h
 ·rename_i c t f e
  rw [e]
  cases s with
  | some _=>simp at h
  | none=>simp at h;exact ⟨rfl,(uv.1 h).1⟩
 ·cases h
theorem Kd {α β:Type} {f:α→Option β}:∀ {l:List α} {ys:List β},l.mapM f=some ys→ys.length=l.length∧∀ (i:Nat) (x:α),l[i]?=some x→∃ y,ys[i]?=some y∧f x=some y
 | [],ys,h=>by
  simp at h;subst h;exact ⟨rfl,fun i x hx=>by simp at hx⟩
 | a::l,ys,h=>by
  rw [uW] at h
  simp only [uN,um,uU,Option.some.injEq] at h
  obtain ⟨y,hy,r,hr,rfl⟩:=h
  obtain ⟨h1,h2⟩:=Kd hr
  refine ⟨by simp [h1],fun i x hx => ?_⟩
  cases i with
  | zero=>simp at hx;subst hx;exact ⟨y,rfl,hy⟩
  | succ i=>exact h2 i x (by simpa using hx)
theorem ij.app {Z:Nat→Nat} {w:World} {a b:List IV} {x y:List Value} (h1:ij Z w a x) (h2:ij Z w b y):ij Z w (a++b) (x++y):=by
 refine ⟨by simp [h1.1,h2.1],fun j c u hc hu => ?_⟩
 rcases uY j a.length with h | h
 ·rw [uk h] at hc
  rw [uk (by rw [←h1.1];exact h)] at hu
  exact h1.2 j c u hc hu
 ·rw [uj h] at hc
  rw [uj (by rw [←h1.1];exact h),←h1.1] at hu
  exact h2.2 _ c u hc hu
theorem bS.app {a b:List eD} {x y:List IV} (h1:bS a x) (h2:bS b y):bS (a++b) (x++y):=by
 refine ⟨by simp [h1.1,h2.1],fun j c u hc hu => ?_⟩
 rcases uY j a.length with h | h
 ·rw [uk h] at hc
  rw [uk (by rw [h1.1];exact h)] at hu
  exact h1.2 j c u hc hu
 ·rw [uj h] at hc
  rw [uj (by rw [h1.1];exact h),h1.1] at hu
  exact h2.2 _ c u hc hu
theorem ij.one {Z:Nat→Nat} {w:World} {a:IV} {x:Value} (h:RI Z w a x):ij Z w [a] [x]:=⟨rfl,fun j c u hc hu=>by
 cases j with
 | zero=>simp at hc hu;subst hc;subst hu;exact h
 | succ j=>simp at hc⟩
theorem bS.one {t:eD} {a:IV} (h:gB t a):bS [t] [a]:=⟨rfl,fun j c u hc hu=>by
 cases j with
 | zero=>simp at hc hu;subst hc;subst hu;exact h
 | succ j=>simp at hc⟩
section
variable {H:Type} {enc:TypeId×Value→H} {P:Program} {w:World}
def A4 (w:World) (cL:List eD) (cs:List Value):Prop:=∃ row,ij (nU w) w row cs∧bS cL row∧∀ v∈cs,v.oneCell'=true
theorem Yc {fuel:Nat} {f:TypeId→Option (List eD)} {cs:List Value}
  (ih:∀ t cs d ps cL,f t=some cL→DataW.trod enc P w 0 (fun _=>true) true fuel t cs=some (d,ps)→(d.weights P t).all (· ≤ reachBytes)=true→A4 w cL cs) :
  ∀ (fs:List Field) (off:Nat) (xs:List (DataW H×List MemPlace)) (r:List eD),QG P f off fs=some r →
   (fs.mapM fun x=>DataW.trod enc P w 0 (fun _=>true) true fuel x.type ((cs.drop x.offset).take (P.cellsOf x.type)))=some xs →
   (DataW.weightsEach P (fs.map (·.type)) (xs.map (·.1))).all (· ≤ reachBytes)=true→A4 w r ((cs.drop off).take r.length)
 | [],off,xs,r,h1,h2,h3=>by
  simp only [QG,Option.some.injEq] at h1
  subst h1
  exact ⟨[],⟨by simp,fun j c u hc=>by simp at hc⟩,⟨rfl,fun j c u hc=>by simp at hc⟩,fun v hv=>by simp at hv⟩
 | x::fs,off,xs,r,h1,h2,h3=>by
  simp only [QG] at h1
  split at h1
  case isFalse=>cases h1
  rename_i hoff
  split at h1
  case h_2=>cases h1
  rename_i a ha
  split at h1
  case isFalse=>cases h1
  rename_i hlen
  split at h1
  case h_2=>cases h1
  rename_i b hb
  cases h1
  rw [uW] at h2
  simp only [uN,um,uU,Option.some.injEq] at h2
  obtain ⟨y,hy,ys,hys,rfl⟩:=h2
  simp only [List.map_cons,DataW.weightsEach,uB,uc] at h3
  obtain ⟨r1,g1,g2,g3⟩:=ih _ _ _ _ _ ha hy h3.1
  obtain ⟨r2,k1,k2,k3⟩:=Yc ih fs (off+a.length) ys b hb hys h3.2
  rw [←hlen,hoff] at g1 g3
  have hsplit:(cs.drop off).take (a++b).length=(cs.drop off).take a.length++(cs.drop (off+a.length)).take b.length:=by
   rw [List.length_append,List.take_add,List.drop_drop]
  refine ⟨r1++r2,?_,g2.app k2,?_⟩
  ·rw [hsplit];exact g1.app k1
  ·rw [hsplit];intro v hv
   rcases uA.1 hv with hv | hv
   ·exact g3 v hv
   ·exact k3 v hv
theorem WP {e:TypeId}:∀ {l:List (DataW H)},(DataW.weightsAll P e l).all (· ≤ reachBytes)=true→∀ d∈l,(d.weights P e).all (· ≤ reachBytes)=true
 | [],_,d,hd=>by cases hd
 | x::l,h,d,hd=>by
  simp only [DataW.weightsAll,uB,uc] at h
  rcases uh.1 hd with rfl | hd
  ·exact h.1
  ·exact WP h.2 d hd
theorem HJ {a:Addr} {n:Nat} {cs:List Value} (h:w.cells? 0 a n=some cs):cs.length=n∧∀ j v,cs[j]?=some v→w.cell? (a.add j)=some v:=by
 unfold World.cells? at h
 rw [if_pos (Nat.zero_le _)] at h
 obtain ⟨h1,h2⟩:=Kd h
 refine ⟨by simpa using h1,fun j v hv => ?_⟩
 have hj:j < n:=by
  have:=(ug.1 hv).1
  simpa [h1] using this
 obtain ⟨y,hy,e⟩:=h2 j j (by simp [hj])
 rw [hv] at hy;cases hy;exact e
theorem P0 {a:Addr} {len cap sz bI:Nat} {r:List eD} (hr:r.length=sz) (hpos:0 < sz) (hcap:len≤cap) (hb:len*bI≤reachBytes)
  (hel:∀ i,i < len→∃ cs,w.cells? 0 (a.add (i*sz)) sz=some cs∧A4 w r cs):A4 w [.slice bI r] [.slice (some a) len cap]:=by
 have hrow:∀ i:Nat,∃ row:List IV,i < len→∃ cs,w.cells? 0 (a.add (i*sz)) sz=some cs∧ij (nU w) w row cs∧bS r row∧∀ v∈cs,v.oneCell'=true:=fun i=>by
  by_cases hi:i < len
  ·obtain ⟨cs,h1,row,h2,h3,h4⟩:=hel i hi
   exact ⟨row,fun _=>⟨cs,h1,h2,h3,h4⟩⟩
  ·exact ⟨[],fun h=>absurd h hi⟩
 obtain ⟨R,hR⟩:=Classical.axiomOfChoice hrow
 have cZ:∀ (i:Nat) (row:List IV),((uI len).map R)[i]?=some row→i < len∧row=R i:=fun i row h=>by
  simp only [List.getElem?_map,ud] at h
  obtain ⟨k,hk,rfl⟩:=h
  obtain ⟨h1,h2⟩:=ug.1 hk
  simp at h1 h2
  subst h2
  exact ⟨h1,rfl⟩
 have hmem:∀ row∈(uI len).map R,bS r row:=fun row h=>by
  obtain ⟨i,hi⟩:=List.mem_iff_getElem?.1 h
  obtain ⟨h1,rfl⟩:=cZ i row hi
  obtain ⟨cs,_,_,h2,_⟩:=hR i h1
  exact h2
 refine ⟨[.slice ((uI len).map R)],.one ?_,.one (.slice _ _ _ (by simpa using hb) (fun row h=>(hmem row h).1) (fun row h=>(hmem row h).2)),fun v hv=>by simp at hv;subst hv;rfl⟩
 rcases Nat.eq_zero_or_pos len with h0 | h0
 ·subst h0;exact .empty a cap
 ·obtain ⟨b,off,spot⟩:=a
  have hs:spot=none:=by
   obtain ⟨cs,h1,_⟩:=hR 0 h0
   obtain ⟨h2,h3⟩:=HJ h1
   have hc:=h3 0 _ (uE (by omega))
   rw [Nat.zero_mul] at hc
   exact (HI (s:=spot) (off:=off) hc).1
  subst hs
  have hcell:∀ (i:Nat) (row:List IV) (j:Nat) (c:IV),((uI len).map R)[i]?=some row→row[j]?=some c→∃ v,w.cell? ⟨b,off+i*sz+j,none⟩=some v∧v.oneCell'=true∧RI (nU w) w c v:=fun i row j c hi hj=>by
   obtain ⟨h1,rfl⟩:=cZ i row hi
   obtain ⟨cs,h2,h3,h4,h5⟩:=hR i h1
   obtain ⟨h6,h7⟩:=HJ h2
   have hjl:j < cs.length:=by rw [←h3.1];exact (ug.1 hj).1
   have hcs:=uE hjl
   exact ⟨cs[j],by have:=h7 j _ hcs;rwa [qP,qP] at this,h5 _ (List.getElem_mem hjl),h3.2 j c _ hj hcs⟩
  have:=RI.slice (Z:=nU w) (w:=w) ((uI len).map R) b off cap sz (fun i j=>(w.cell? ⟨b,off+i*sz+j,none⟩).getD undef) (by simpa using hcap)
   (fun i row hi=>by obtain ⟨h1,rfl⟩:=cZ i row hi;obtain ⟨_,_,_,h2,_⟩:=hR i h1;rw [h2.1,hr])
   (fun i row j c hi hj=>by obtain ⟨v,h1,_⟩:=hcell i row j c hi hj;exact (HI h1).2)
   (fun i row j c hi hj=>by obtain ⟨v,h1,h2,_⟩:=hcell i row j c hi hj;rw [h1];exact ⟨rfl,h2⟩)
   (fun i row j c hi hj=>by obtain ⟨v,h1,h2,h3⟩:=hcell i row j c hi hj;rw [h1];exact h3)
  simpa using this
theorem Jp:∀ (n fuel:Nat) (t:TypeId) (cs:List Value) (d:DataW H) (ps:List MemPlace) (cL:List eD),Vg P n t=some cL→DataW.trod enc P w 0 (fun _=>true) true fuel t cs=some (d,ps) →
  (d.weights P t).all (· ≤ reachBytes)=true→A4 w cL cs
 | 0,_,_,_,_,_,_,h,_,_=>by simp [Vg] at h
 | n+1,0,_,_,_,_,_,_,h,_=>by simp [DataW.trod] at h
 | n+1,fuel+1,t,cs,d,ps,cL,h,ht,hw=>by
  simp only [Vg] at h
  split at h
  ·rename_i hu
   cases h
   simp only [DataW.trod,hu] at ht
   split at ht<;>first | (simp_all;done) | skip
   all_goals first
    | (rename_i b _;exact ⟨[.bool b],.one (.bool b),.one (.bool b),fun v hv=>by simp at hv;subst hv;rfl⟩)
    | skip
  ·rename_i k hu
   cases h
   simp only [DataW.trod,hu] at ht
   split at ht<;>first | (simp_all;done) | skip
   all_goals
    rename_i k1 k' m e1
    cases e1
    split at ht
    case isFalse=>cases ht
    rename_i hk
    obtain ⟨rfl,hwf⟩:=hk
    exact ⟨[.int _ m],.one (.int _ m),.one (.int _ m (by simpa [Lit.wf] using hwf)),fun v hv=>by simp at hv;subst hv;rfl⟩
  ·rename_i hu
   cases h
   simp only [DataW.trod,hu] at ht
   split at ht<;>first | (simp_all;done) | skip
   all_goals
    rename_i s _
    split at ht
    case isFalse=>cases ht
    cases ht
    refine ⟨[.str s],.one (.str s),.one (.str s ?_),fun v hv=>by simp at hv;subst hv;rfl⟩
    simpa [DataW.weights] using hw
  ·rename_i e hu
   split at h
   case h_2=>cases h
   rename_i r hr
   split at h
   case isFalse=>cases h
   rename_i hlen
   cases h
   simp only [DataW.trod,hu] at ht
   split at ht<;>first | (simp_all;done) | skip
   ·cases ht
    exact ⟨[.slice []],.one .nil,.one (.slice _ _ _ (by simp) (fun row h=>by simp at h) (fun row h=>by simp at h)),fun v hv=>by simp at hv;subst hv;rfl⟩
   ·rename_i e' a len cap e1
    cases e1
    split at ht
    case isFalse=>cases ht
    rename_i bJ
    simp only [um,ud] at ht
    obtain ⟨elems,hel,rest,nj,heq⟩:=ht
    simp only [Prod.mk.injEq] at heq
    obtain ⟨rfl,_⟩:=heq
    simp only [DataW.weights,hu,List.all_cons,uB,uc,decide_eq_true_eq] at hw
    obtain ⟨hw1,pu,hw3⟩:=hw
    obtain ⟨hl,sP⟩:=Kd hel
    simp only [List.length_range,uo] at hl hw1
    refine P0 hlen.1 (by omega) bJ.2.1 (Nat.le_trans (Nat.mul_le_mul_right _ (by omega)) hw1) fun i hi => ?_
    obtain ⟨y,hy1,HK⟩:=sP i i (by simp [hi])
    simp only [um] at HK
    obtain ⟨cs',eX,eY⟩:=HK
    exact ⟨cs',eX,Jp n fuel e cs' y.1 y.2 r hr eY (WP pu _ (uP.2 ⟨y,uu hy1,rfl⟩))⟩
  ·rename_i fs hu
   split at h
   case h_2=>cases h
   rename_i r0 hr
   split at h
   case isFalse=>cases h
   rename_i hlen
   obtain rfl:r0=cL:=Option.some.inj h
   simp only [DataW.trod,hu] at ht
   split at ht
   case isFalse=>cases ht
   rename_i dZ
   simp only [ud] at ht
   obtain ⟨xs,hxs,heq⟩:=ht
   simp only [Prod.mk.injEq] at heq
   obtain ⟨rfl,_⟩:=heq
   simp only [DataW.weights,hu] at hw
   have:=Yc (fun t cs d ps cL h1 h2 h3=>Jp n fuel t cs d ps cL h1 h2 h3) fs.toList 0 xs r0 hr hxs hw
   rw [hlen,←dZ,List.drop_zero,List.take_length] at this
   exact this
  ·cases h
end
end
section
def A5 (P:Program) (t:TypeId):Option (Bool×List eD):=match P.underlying t with
 | some (.struct _)=>match Vg P 12 t with
  | some r=>some (true,r)
  | none=>none
 | some (.array _ _)=>none
 | _=>match Vg P 12 t with
  | some r=>some (false,r)
  | none=>none
def HM:Bool×List eD→IV→Prop
 | (true,cL),x=>∃ row,x=.agg row∧bS cL row
 | (false,cL),x=>bS cL [x]
def We:List (Bool×List eD)→List IV→Prop
 | [],[]=>True
 | a::pN,x::xs=>HM a x∧We pN xs
 | _,_=>False
section
variable {H:Type} {enc:TypeId×Value→H} {P:Program} {w:World}
theorem P1 {base:Nat} {t:TypeId} {v:Value} {d:DataW H} {ps:List MemPlace} {a:Bool×List eD} (ha:A5 P t=some a) (hval:Value.okWide P w .any base t v)
  (h:DataW.Trod enc P w 0 (fun _=>true) true t v d ps) (hw:(d.weights P t).all (· ≤ reachBytes)=true):∃ x,RI (nU w) w x v∧HM a x:=by
 obtain ⟨fuel,hf⟩:=h
 unfold A5 at ha
 split at ha
 ·rename_i fs hu
  split at ha
  case h_2=>cases ha
  rename_i r hr
  cases ha
  simp only [Value.okWide,hu] at hval
  obtain ⟨cs,rfl,_,_⟩:=hval
  obtain ⟨row,h1,h2,h3⟩:=Jp 12 fuel t _ d ps r hr hf hw
  refine ⟨.agg row,?_,row,rfl,h2⟩
  have:=RI.agg (Z:=nU w) (w:=w) row cs.toList (by simpa [Value.cells] using h1.1) (fun v hv=>h3 v (by simpa [Value.cells] using hv)) (fun i c v hc hv=>h1.2 i c v hc (by simpa [Value.cells] using hv))
  simpa using this
 ·cases ha
 ·rename_i P2 hna
  split at ha
  case h_2=>cases ha
  rename_i r hr
  cases ha
  have hone:v.oneCell'=true:=by
   have hc:Cell.okWide P w .any base t v:=by
    unfold Value.okWide at hval
    split at hval
    ·rename_i fs hu;exact absurd hu (P2 fs)
    ·rename_i k e hu;exact absurd hu (hna k e)
    ·exact hval
   cases v<;>first | rfl | (exfalso;revert hc;unfold Cell.okWide Cell.ok;cases P.underlying t with
    | none=>simp
    | some u=>cases u<;>simp)
  have hcs:v.cells.toList=[v]:=by cases v<;>first | rfl | simp [Value.oneCell'] at hone
  obtain ⟨row,h1,h2,h3⟩:=Jp 12 fuel t _ d ps r hr hf hw
  rw [hcs] at h1
  obtain ⟨x,rfl⟩:∃ x,row=[x]:=List.length_eq_one_iff.1 (by simpa using h1.1)
  exact ⟨x,h1.2 0 x v rfl rfl,h2⟩
theorem HN {base:Nat}:∀ {ts:List TypeId} {vs:List Value} {ds:List (DataW H)} {ps:List MemPlace} {pN:List (Bool×List eD)},aI (A5 P) ts=some pN →
  (∀ (j:Nat) t v,ts[j]?=some t→vs[j]?=some v→Value.okWide P w .any base t v)→DataW.TrodAll enc P w 0 (fun _=>true) true ts vs ds ps→(DataW.weightsEach P ts ds).all (· ≤ reachBytes)=true →
  ∃ dx,ij (nU w) w dx vs∧We pN dx
 | [],vs,ds,ps,pN,ha,hval,h,hw=>by
  obtain ⟨rfl,rfl,rfl⟩:=trodAll_nil h
  simp [aI] at ha;subst ha
  exact ⟨[],⟨rfl,fun j c u hc=>by simp at hc⟩,trivial⟩
 | t::ts,vs,ds,ps,pN,ha,hval,h,hw=>by
  obtain ⟨v,HO,d,HP,a,b,rfl,rfl,rfl,h1,h2⟩:=trodAll_cons h
  simp only [aI] at ha
  split at ha
  case h_2=>cases ha
  rename_i a1 P3
  split at ha
  case h_2=>cases ha
  rename_i as1 DU
  cases ha
  simp only [DataW.weightsEach,uB,uc] at hw
  obtain ⟨x,g1,g2⟩:=P1 P3 (hval 0 t v rfl rfl) h1 hw.1
  obtain ⟨xs,g3,g4⟩:=HN DU (fun j t v hj hv=>hval (j+1) t v (by simpa using hj) (by simpa using hv)) h2 hw.2
  exact ⟨x::xs,ij.app (.one g1) g3,g2,g4⟩
theorem P5 {ts:List TypeId}:∀ {vs:List Value} {ds:List (DataW H)} {ps:List MemPlace},DataW.TrodAll enc P w 0 (fun _=>true) true ts vs ds ps→ds.length=ts.length:=by
 induction ts with
 | nil=>intro vs ds ps h;obtain ⟨rfl,rfl,rfl⟩:=trodAll_nil h;rfl
 | cons t ts ih=>
  intro vs ds ps h
  obtain ⟨v,HO,d,HP,a,b,rfl,rfl,rfl,h1,h2⟩:=trodAll_cons h
  simp [ih h2]
theorem HQ {W':World} (hl:laidOutB P=true) (hb:Below w.heap.size w W'):∀ {ts:List TypeId} {vs:List Value} {ds:List (DataW H)} {ps:List MemPlace},(∀ t∈ts,P.readableRec t=true∧t < P.types.size) →
  DataW.TrodAll enc P w 0 (fun _=>true) true ts vs ds ps→∀ sp:Nat→Bool,(∀ p∈ps,p.block < w.heap.size∧sp p.block=true)→DataW.TrodAll enc P W' 0 sp true ts vs ds ps
 | [],vs,ds,ps,hr,h,sp,hlt=>by
  obtain ⟨rfl,rfl,rfl⟩:=trodAll_nil h;rfl
 | t::ts,vs,ds,ps,hr,h,sp,hlt=>by
  obtain ⟨v,HO,d,HP,a,b,rfl,rfl,rfl,h1,h2⟩:=trodAll_cons h
  have ht:=hr t (uO ..)
  exact ⟨a,b,WideElems.Trod_stays hl ht.1 ht.2 h1 (fun x hx=>hb.same (hlt x (ut _ hx)).1) (fun x hx=>(hlt x (ut _ hx)).2),
   HQ hl hb (fun t ht=>hr t (uL _ ht)) h2 sp (fun p hp=>hlt p (uz _ hp)),rfl⟩
end
theorem P6 {H:Type} {enc:TypeId×Value→H} {P:Program} {f:Func} {s:ChangeSpec} {apart fresh handsOn again:Bool} {W W':World} {args:Array Value} {v:Value} {ds:List (DataW H)} {before:List MemPlace}
  (hW:DataW.Whole enc P f.params.toList s.vars apart W args.toList ds [] before)
  (hres:∀ (b:Nat) (sp:Nat→Bool) (hd:Bool),DataW.TrodAll enc P W' b sp hd f.resultTypes.toList (v.resultList f.resultTypes.size) (s.fn H (ds++[])).results [])
  (hargs:∀ sp:Nat→Bool,(∀ p∈before,sp p.block=true)→DataW.TrodAll enc P W' 0 sp true f.params.toList args.toList (s.fn H (ds++[])).args before)
  (hvars:∀ sp:Nat→Bool,DataW.TrodVars enc P W' sp s.vars (s.fn H (ds++[])).vars [])
  (hk:Below W.heap.size W W')
  (hok:∀ (j:Nat) (t:TypeId) (r:Value),f.resultTypes[j]?=some t→(v.resultList f.resultTypes.size)[j]?=some r→Value.okWide P W' .any 0 t r) :
  s.post enc P f apart fresh handsOn again W args v W':=by
 have hlt:∀ p∈before,p.block < W.heap.size:=fun p hp=>hW.lt p hp
 have hold:∀ p∈before,(fun b=>decide (b < W.heap.size)) p.block=true:=fun p hp=>by simpa using hlt p hp
 refine ⟨ds,[],before,[],before,[],hW,hres _ _ _,hargs _ hold,hvars _,hk.frame _,fun _ => ?_⟩
 obtain ⟨_,_,_,_,_,hz,hn⟩:=hW
 refine ⟨hok,_,_,([]++before)++[],⟨[]++before,[],trodAll_append (hargs _ (fun _ _=>rfl)) (hres _ _ _),hvars _,rfl,?_,?_⟩,?_⟩
 ·intro b off hp
  have hp':MemPlace.cell b off∈before:=by simpa using hp
  rw [hk.frozen (p:=⟨b,off,none⟩) (hlt _ hp')]
  exact hz b off hp'
 ·intro ha
  simpa using hn ha
 ·intro p hp _
  simpa using hp
theorem P7 {H:Type} {enc:TypeId×Value→H} {Cx:Ctx} {f:FuncId} {fn:Func} {s:ChangeSpec} {tb:TypeId} {pN:List (Bool×List eD)} {apart fresh handsOn again:Bool} (n:Nat) (hn:Cx.ez n=f)
  (has:aI (A5 Cx.P) fn.params.toList=some pN) (hres:fn.resultTypes = #[tb]) (htb:Cx.P.underlying tb=some .bool) (hvars:s.vars=[])
  (hsp:∀ ds:List (DataW H),ds.length=fn.params.toList.length→s.fn H (ds++[])={results:=[.lit (.bool true)],args:=ds})
  (hlaid:laidOutB Cx.P=true) (hread:(fn.params.toList.all fun t=>Cx.P.readableRec t&&decide (t < Cx.P.types.size))=true)
  (DV:∀ dx,We pN dx→aJ Cx n dx (.bool true))
  (W:World) (hft:Cx.tabs.p W∧Cx.tabs.n≤W.heap.size)
  (base:Nat) (args:Array Value) (ds gs:List (DataW H)) (before:List MemPlace)
  (hval:∀ (j:Nat) t v,fn.params[j]?=some t→args[j]?=some v→Value.okWide Cx.P W .any base t v)
  (hW:DataW.Whole enc Cx.P fn.params.toList s.vars apart W args.toList ds gs before)
  (Cb:(DataW.weightsEach Cx.P (fn.params.toList++s.plain.varTypes Cx.P) (ds++gs)).all (· ≤ reachBytes)=true) :
  Calls Cx.P f args W fun e W'=>∃ v,e=.returned v∧s.post enc Cx.P fn apart fresh handsOn again W args v W':=by
 have tU:=hW
 obtain ⟨p,q,hA,hV,rfl,hfz,hnd⟩:=hW
 rw [hvars] at hV
 obtain ⟨rfl,rfl⟩:=trodVars_none hV
 have HR:s.plain.varTypes Cx.P=[]:=by
  have:s.plain.vars=[]:=hvars
  simp [DataSpec.varTypes,this]
 rw [HR,ux,ux] at Cb
 obtain ⟨dx,h1,h2⟩:=HN has (fun j t v hj hv=>hval j t v (by simpa using hj) (by simpa using hv)) hA Cb
 subst hn
 have gh:=(DV dx h2).2 (nU W) W args.toList (fun b hb=>PZ hb) hft h1
 simp only [Array.toArray_toList] at gh
 refine gh.mono fun e W' ⟨v,Z',he,hr,_,_,hbel⟩ => ?_
 subst he
 cases hr
 have hlt:∀ x∈p++[],x.block < W.heap.size:=fun x hx=>by simpa using tU.lt x hx
 have hspec:=hsp ds (P5 hA)
 simp only [ux] at tU hlt
 refine ⟨_,rfl,P6 tU ?_ ?_ ?_ hbel ?_⟩
 ·intro b sp hd
  rw [hspec,hres]
  exact trodAll_cons_mk (shut_bool htb _) trodAll_mk0
 ·intro sp DW
  rw [hspec]
  exact HQ hlaid hbel (fun t ht=>by have:=uQ.1 hread t ht;simpa using this) hA sp (fun x hx=>⟨hlt x hx,DW x hx⟩)
 ·intro sp
  rw [hspec,hvars];rfl
 ·exact ok_one hres rfl (okWide_bool_mk htb _)
end
end Go.Proofs.YtlpmnmbebkdocaaGreatDoor
namespace Go.Proofs.YtlpmnmbebkdocaaGreatDoor
open Go.RowKit
set_option linter.unusedVariables false
def dL (k:IntKind) (n:Int):Prop:=k.min≤n∧n≤k.max
def l5 {α:Type} (bI:Nat) (Ok:α→Prop) (l:List α):Prop:=l.length*bI≤reachBytes∧∀ x∈l,Ok x
theorem zg {t:eD} {ts:List eD} {row:List IV} (h:bS (t::ts) row):∃ c r,row=c::r∧gB t c∧bS ts r:=by
 obtain ⟨hl,hc⟩:=h
 cases row with
 | nil=>simp at hl
 | cons c r=>exact ⟨c,r,rfl,hc 0 t c rfl rfl,by simpa using hl,fun i u d hu hd=>hc (i+1) u d (by simpa using hu) (by simpa using hd)⟩
theorem qS {row:List IV} (h:bS [] row):row=[]:=List.eq_nil_of_length_eq_zero h.1
theorem zs {k:IntKind} {x:IV} (h:gB (.int k) x):∃ n,x=.int k n∧dL k n:=by cases h;exact ⟨_,rfl,by assumption⟩
theorem wg {x:IV} (h:gB .bool x):∃ b,x=.bool b:=by cases h;exact ⟨_,rfl⟩
theorem P8 {x:IV} (h:gB .str x):∃ s,x=.str s∧s.size≤reachBytes:=by cases h;exact ⟨_,rfl,by assumption⟩
theorem HT {α:Type} {f:α→List IV} {Ok:α→Prop} {cL:List eD} (ho:∀ {row:List IV},bS cL row→∃ x,row=f x∧Ok x) :
  ∀ af:List (List IV),(∀ row∈af,bS cL row)→∃ l:List α,af=l.map f∧∀ x∈l,Ok x
 | [],_=>⟨[],rfl,fun x hx=>by cases hx⟩
 | row::af,h=>by
  obtain ⟨x,rfl,hx⟩:=ho (h row (uO ..))
  obtain ⟨l,rfl,hl⟩:=HT ho af fun r hr=>h r (uL _ hr)
  exact ⟨x::l,rfl,fun y hy=>by
   rcases uh.1 hy with rfl | hy
   ·exact hx
   ·exact hl y hy⟩
theorem qp {α:Type} {f:α→List IV} {Ok:α→Prop} {cL:List eD} {bI:Nat} {x:IV} (ho:∀ {row:List IV},bS cL row→∃ x,row=f x∧Ok x) (h:gB (.slice bI cL) x) :
  ∃ l:List α,x=.slice (l.map f)∧l5 bI Ok l:=by
 cases h with
 | slice _ _ af hl hr hc=>
  obtain ⟨l,rfl,hk⟩:=HT ho af fun row h=>⟨hr row h,hc row h⟩
  exact ⟨l,rfl,by simpa using hl,hk⟩
theorem ZB {row:List IV} (h:bS [.int .i64] row):∃ x:Int,row=zc x∧dL .i64 x:=by
 obtain ⟨c,_,rfl,h0,h⟩:=zg h
 obtain rfl:=qS h
 obtain ⟨n,rfl,k⟩:=zs h0
 exact ⟨n,rfl,k⟩
theorem Yd {row:List IV} (h:bS [.bool] row):∃ x:Bool,row=zi x∧True:=by
 obtain ⟨c,_,rfl,h0,h⟩:=zg h
 obtain rfl:=qS h
 obtain ⟨n,rfl⟩:=wg h0
 exact ⟨n,rfl,trivial⟩
theorem P9 {α:Type} {f:α→List IV} {Ok:α→Prop} {cL:List eD} {bI:Nat} (ho:∀ {row:List IV},bS cL row→∃ x,row=f x∧Ok x) {row:List IV} (h:bS [.slice bI cL] row) :
  ∃ x:List α,row=zI f x∧l5 bI Ok x:=by
 obtain ⟨c,_,rfl,h0,h⟩:=zg h
 obtain rfl:=qS h
 obtain ⟨l,rfl,k⟩:=qp ho h0
 exact ⟨l,rfl,k⟩
end Go.Proofs.YtlpmnmbebkdocaaGreatDoor
