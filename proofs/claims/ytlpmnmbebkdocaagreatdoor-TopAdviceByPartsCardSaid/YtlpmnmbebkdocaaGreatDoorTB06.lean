/-
  An object whose cells are slices that grow: the tips have names of a range of their own, behind a mark in the list of objects.
  Plans: what a function computes, told so that the kernel can hold it against the function's code. A plan that the kernel has checked is a walk.
  Plans: code against a plan, and that a plan that is checked is a walk.
  Plans: what is live, whole functions, and the parts that printed plans are made of.
  Plans: the parts that printed plans are made of.
  Plans for an object whose cells are slices that grow.
  Data of the program's types.
  The table of the library that the program reads: what is known of it while the program runs.
  The program's functions, by the numbers that plans have for them.
  From the readings of a row's arguments to the abstract machine's data: whatever plain data is handed in (numbers, truth values, texts, slices and structures of these) is data of the abstract machine, of its type; and a law that is proved of all such data is the row's contract.
  A law that holds of all plain data of its types is the row's contract: whatever the arguments, the call returns true, and each argument reads as it read before.
  From data of the abstract machine to typed data.
-/
import Derived.Test.YtlpmnmbebkdocaaGreatDoorTB05
import Derived.Test.YtlpmnmbebkdocaaGreatDoorChecked
import Derived.Lib.ItoaMem
import Derived.Lib.LaidTab
import Derived.KernelRfl
import Derived.Test.YtlpmnmbebkdocaaGreatDoorTB03
import Derived.ProofKit
import Derived.SizedLaws
import Derived.Carry
import Derived.OpenShut
import Derived.Test.YtlpmnmbebkdocaaGreatDoorTB04
open List renaming replicate → ub, getElem?_eq_some_iff → ug, mem_cons → uh, getElem?_append_right → uj, getElem?_append_left → uk, map → ul, length_map → uo, mem_append_left → ut, mem_of_getElem? → uu, append_nil → ux, getElem?_replicate → uy, mem_append_right → uz, mem_append → uA, all_append → uB, getD_eq_getElem?_getD → uD, getElem?_eq_getElem → uE, cons_append → uF, getElem?_cons_zero → uG, range → uI, mem_cons_of_mem → uL, mem_cons_self → uO, mem_map → uP, all_eq_true → uQ, range' → uR, nil_append → uS, mapM_cons → uW
open Option renaming map_eq_some_iff → ud, bind → ui, bind_eq_some_iff → um, none_or → ur, bind_eq_bind → uN, map_some → uT, pure_def → uU, some_or → uV
open Bool renaming and_eq_true → uc, or_eq_true → uJ
open Nat renaming le_of_ble_eq_true → ua, lor → ue, le_refl → un, eq_of_beq_eq_true → uq, beq → uw, blt_eq → uC, ble → uH, le_succ → uK, blt → uM, beq_refl → uX, lt_or_ge → uY
open Array renaming getElem?_eq_some_iff → uv
namespace Go.Proofs.YtlpmnmbebkdocaaGreatDoor
open Go.RowKit
set_option linter.unusedSimpArgs false
set_option linter.unusedVariables false
def Qe:Nat→List (List Int)→List (Nat×aF)
 | _,[]=>[]
 | b,L::r=>bif uM b 2000000 then (b,.aT 1 L.length)::Qe (b+1) r else []
def xY (Ls:List (List Int)):List (Nat×aF):=(qY,.dead)::Qe zE Ls
def ZG:List (Nat×aF)→List (Nat×aF)
 | []=>[]
 | (k,o)::r=>match uw k qY with
  | true=>[]
  | false=>(k,o)::ZG r
def Qf:List (Nat×aF)→List (Nat×aF)
 | []=>[]
 | (k,o)::r=>match uw k qY with
  | true=>(k,o)::r
  | false=>Qf r
def yx:List (Nat×aF)→Bool
 | []=>true
 | (k,o)::r=>match uw k qY with
  | true=>true
  | false=>(uM k qY||uH 2000000 k)&&yx r
theorem Ho:∀ (Ls:List (List Int)) (b:Nat),(qz b Ls).length=Ls.length
 | [],_=>rfl
 | L::r,b=>by simp [qz,Ho r]
theorem Hp:∀ (Ls:List (List Int)) (b k:Nat) (L:List Int),(qz b Ls).set k (vA (b+k) L)=qz b (Ls.set k L)
 | [],b,k,L=>by simp [qz]
 | M::r,b,0,L=>by simp [qz]
 | M::r,b,k+1,L=>by
  simp only [qz,List.set_cons_succ]
  rw [←Hp r (b+1) k L,show b+1+k=b+(k+1) by omega]
theorem Hq:∀ (Ls:List (List Int)) (b j:Nat),za (Qe b Ls) j=if b≤j∧j < 2000000 then (Ls[j - b]?).map (fun L=>aF.aT 1 L.length) else none
 | [],b,j=>by simp [Qe,za]
 | L::r,b,j=>by
  simp only [Qe]
  cases h:uM b 2000000 with
  | false=>
   have:¬ b < 2000000:=fun hb=>by rw [show uM b 2000000=true by simpa [uC] using hb] at h;cases h
   simp only [b9,za]
   rw [if_neg (by omega)]
  | true=>
   have hb:b < 2000000:=by simpa [uC] using h
   simp only [bW,za]
   by_cases e:b=j
   ·subst e
    rw [if_pos rfl,if_pos ⟨un _,hb⟩];simp
   ·rw [if_neg e,Hq r (b+1) j]
    by_cases h2:b≤j∧j < 2000000
    ·obtain ⟨k,hk⟩:∃ k,j - b=k+1:=⟨j - b - 1,by omega⟩
     rw [if_pos (by omega),if_pos h2,hk,show j - (b+1)=k by omega,List.getElem?_cons_succ]
    ·rw [if_neg (by omega),if_neg h2]
theorem vC (Ls:List (List Int)) (j:Nat):za (xY Ls) j=if j=qY then some .dead else if zE≤j∧j < 2000000 then (Ls[j - zE]?).map (fun L=>aF.aT 1 L.length) else none:=by
 simp only [xY,za]
 by_cases e:qY=j
 ·rw [if_pos e,if_pos e.symm]
 ·rw [if_neg e,if_neg (fun h=>e h.symm),Hq]
theorem vZ {α:Type}:∀ (a b:List (Nat×α)) (j:Nat),za (a++b) j=(za a j).or (za b j)
 | [],b,j=>by simp [za]
 | (k,v)::a,b,j=>by
  simp only [uF,za]
  by_cases e:k=j
  ·rw [if_pos e,if_pos e];rfl
  ·rw [if_neg e,if_neg e];exact vZ a b j
theorem Hr:∀ l:List (Nat×aF),ZG l++Qf l=l
 | []=>rfl
 | (k,o)::r=>by
  simp only [ZG,Qf]
  split
  ·rfl
  ·rw [uF,Hr r]
theorem ky (l:List (Nat×aF)) (j:Nat):za l j=(za (ZG l) j).or (za (Qf l) j):=by
 conv=>lhs;rw [←Hr l]
 exact vZ _ _ _
theorem Jx:∀ {l:List (Nat×aF)},yx l=true→∀ {j:Nat} {o:aF},za (ZG l) j=some o→j < qY∨2000000≤j
 | [],h,j,o,e=>by cases e
 | (k,v)::r,h,j,o,e=>by
  simp only [yx,ZG] at h e
  split at h
  ·rename_i hk;rw [hk] at e;cases e
  ·rename_i hk
   rw [hk] at e
   simp only [uc,uJ] at h
   simp only [za] at e
   split at e
   ·rename_i ek
    subst ek
    rcases h.1 with h1 | h1
    ·exact .inl (by simpa [uC] using h1)
    ·exact .inr (ua h1)
   ·exact Jx h.2 e
structure oD (heap:List (Nat×aF)) (P:Nat) (Ls:List (List Int)):Prop where
 obj:za heap P=some (.af 1 (qz zE Ls))
 tail:Qf heap=xY Ls
 out:yx heap=true
theorem oD.aT {heap:List (Nat×aF)} {P:Nat} {Ls:List (List Int)} (h:oD heap P Ls) {k:Nat} {L:List Int} (hL:Ls[k]?=some L) (hk:k < 1000000):za heap (zE+k)=some (.aT 1 L.length):=by
 rw [ky]
 cases e:za (ZG heap) (zE+k) with
 | some o=>have:=Jx h.out e;simp only [zE,qY] at this;omega
 | none=>
  rw [ur,h.tail,vC,if_neg (by simp only [zE,qY];omega),if_pos (by simp only [zE];omega),show zE+k - zE=k by omega,hL];rfl
theorem Hs:∀ (Ls:List (List Int)) (b:Nat) (p:Nat×aF),p∈Qe b Ls→∃ (k:Nat) (L:List Int),Ls[k]?=some L∧p=(b+k,.aT 1 L.length)∧b+k < 2000000
 | [],b,p,h=>by simp [Qe] at h
 | L::r,b,p,h=>by
  simp only [Qe] at h
  cases hb:uM b 2000000 with
  | false=>rw [hb] at h;simp at h
  | true=>
   rw [hb,bW] at h
   rcases uh.1 h with h | h
   ·exact ⟨0,L,rfl,h,by simpa [uC] using hb⟩
   ·obtain ⟨k,M,h1,h2,h3⟩:=Hs r (b+1) p h
    exact ⟨k+1,M,by simpa using h1,by rw [h2,show b+1+k=b+(k+1) by omega],by omega⟩
theorem PK {heap:List (Nat×aF)} {Ls:List (List Int)} (ht:Qf heap=xY Ls) (ho:yx heap=true):∀ p∈xY Ls,za heap p.1=some p.2∧p.1 < 2000000∧∀ m,z6 m p.2:=by
 intro p hp
 have hnone:∀ j,qY≤j→j < 2000000→za (ZG heap) j=none:=fun j h1 h2=>by
  cases e:za (ZG heap) j with
  | none=>rfl
  | some o=>have:=Jx ho e;omega
 rcases uh.1 hp with rfl | hp
 ·refine ⟨?_,by simp [qY],fun m=>trivial⟩
  rw [ky,hnone _ (un _) (by simp [qY]),ur,ht,vC,if_pos rfl]
 ·obtain ⟨k,L,h1,rfl,h3⟩:=Hs _ _ _ hp
  refine ⟨?_,h3,fun m=>trivial⟩
  simp only
  rw [ky,hnone _ (by simp only [qY,zE];omega) h3,ur,ht,vC,if_neg (by simp only [qY,zE];omega),if_pos ⟨by omega,h3⟩,show zE+k - zE=k by omega,h1]
  rfl
theorem PL {env env':List (Nat×AV)} {heap heap':List (Nat×aF)} {n:Nat} (he:∀ t x,za env' t=some x→za env t=some x) (h:∀ j o,za heap' j=some o→za heap j=some o):bR ⟨env,heap,n⟩ ⟨env',heap',n⟩:=by
 intro C nt g a w R
 obtain ⟨RE,R⟩:=R
 simp only at RE R
 have E:b8 g (za heap) (· < n) w g (za heap') (· < n) w:={b8.refl g (za heap) (· < n) w with
  eo:=fun i b hb _ _ _ _=>.inl hb
  cJ:=fun i hb _ _ _ _=>.inl hb
  af:=fun i _ s r h1=>⟨r,h i _ h1,rfl⟩
  cS:=fun i _ s l h1=>⟨l,h i _ h1,un _⟩
  maps:=fun i _ es h1=>⟨es,h i _ h1⟩
  fE:=fun i _ ll RR s pe h1=>⟨s,pe,h i _ h1⟩}
 refine ⟨g,⟨⟨RE.size,RE.defers,fun t x hx=>(RE.slot t x (he t x hx)).mono E⟩,⟨R.inj,R.lt,fun i o h1=>R.key i o (h i o h1),fun i b o h1 h2=>(R.obj i b o h1 (h i o h2)).keep E rfl rfl,fun i s l h1 h2=>R.cR i s l (h i _ h1) h2,R.ea,R.fix.eN E⟩⟩,fun g0 cM w0 hm E0=>E0.trans E⟩
theorem PM {env:List (Nat×AV)} {heap:List (Nat×aF)} {next:Nat} (P n:Nat) (hP:za heap P=some (.af 1 (ub n [.nil]))) (hn:next≤qY) :
  bR ⟨env,heap,next⟩ ⟨env,zk heap P (.af 1 (qz zE (ub n [])))++xY (ub n []),2000000⟩:=by
 intro C nt g a w R
 obtain ⟨RE,R⟩:=R
 simp only at RE R
 have hPn:P < next:=R.key _ _ hP
 have hmk:qY=999999:=rfl
 have hnb:zE=1000000:=rfl
 have hg:∀ j o,za (zk heap P (.af 1 (qz zE (ub n [])))++xY (ub n [])) j=some o →
   (j=P∧o=.af 1 (qz zE (ub n [])))∨(j≠P∧j < next∧za heap j=some o)∨(j=qY∧o=.dead)∨(zE≤j∧j < 2000000∧o=.aT 1 0):=fun j o h=>by
  rw [vZ,zm] at h
  by_cases e:P=j
  ·rw [if_pos e] at h;cases h;exact .inl ⟨e.symm,rfl⟩
  ·rw [if_neg e] at h
   cases h2:za heap j with
   | some o'=>rw [h2,uV] at h;cases h;exact .inr (.inl ⟨fun e2=>e e2.symm,R.key _ _ h2,rfl⟩)
   | none=>
    rw [h2,ur,vC] at h
    split at h
    ·rename_i e3;cases h;exact .inr (.inr (.inl ⟨e3,rfl⟩))
    ·split at h
     ·rename_i e3
      rw [uy] at h
      split at h
      ·cases h;exact .inr (.inr (.inr ⟨e3.1,e3.2,rfl⟩))
      ·cases h
     ·cases h
 have hold:∀ j o,j < next→j≠P→za (zk heap P (.af 1 (qz zE (ub n [])))++xY (ub n [])) j=some o→za heap j=some o:=fun j o h1 h2 h3=>by
  rcases hg j o h3 with ⟨e,_⟩ | ⟨_,_,e⟩ | ⟨e,_⟩ | ⟨e,_⟩
  ·exact absurd e h2
  ·exact e
  ·omega
  ·omega
 have E:b8 g (za heap) (· < next) w g (za (zk heap P (.af 1 (qz zE (ub n [])))++xY (ub n []))) (· < 2000000) w:={b8.refl g (za heap) (· < next) w with
  next:=fun i hi=>by have hi:i < next:=hi;show i < 2000000;omega
  eo:=fun i b hb _ _ _ _=>.inl hb
  cJ:=fun i hb _ _ _ _=>.inl hb
  af:=fun i hi s r h1=>by
   rcases hg i _ h1 with ⟨e1,e2⟩ | ⟨_,_,e2⟩ | ⟨_,e2⟩ | ⟨_,_,e2⟩
   ·subst e1;cases e2;exact ⟨_,hP,by rw [Ho];simp⟩
   ·exact ⟨r,e2,rfl⟩
   ·cases e2
   ·cases e2
  cS:=fun i hi s l h1=>by
   have hi:i < next:=hi
   rcases hg i _ h1 with ⟨_,e2⟩ | ⟨_,_,e2⟩ | ⟨_,e2⟩ | ⟨e1,_,_⟩
   ·cases e2
   ·exact ⟨l,e2,un _⟩
   ·cases e2
   ·omega
  maps:=fun i _ es h1=>by
   rcases hg i _ h1 with ⟨_,e2⟩ | ⟨_,_,e2⟩ | ⟨_,e2⟩ | ⟨_,_,e2⟩
   ·cases e2
   ·exact ⟨es,e2⟩
   ·cases e2
   ·cases e2
  fE:=fun i _ ll RR s pe h1=>by
   rcases hg i _ h1 with ⟨_,e2⟩ | ⟨_,_,e2⟩ | ⟨_,e2⟩ | ⟨_,_,e2⟩
   ·cases e2
   ·exact ⟨s,pe,e2⟩
   ·cases e2
   ·cases e2}
 refine ⟨g,⟨⟨RE.size,RE.defers,fun t x hx=>(RE.slot t x hx).mono E⟩,⟨R.inj,fun i b h1=>⟨(R.lt i b h1).1,E.next _ (R.lt i b h1).2⟩,fun i o h1 => ?_,fun i b o h1 h2 => ?_,fun i s l h1 h2 => ?_,R.ea,R.fix.eN E⟩⟩,fun g0 cM w0 hm E0=>E0.trans E⟩
 ·show i < 2000000
  rcases hg i o h1 with ⟨e1,_⟩ | ⟨_,e1,_⟩ | ⟨e1,_⟩ | ⟨_,e1,_⟩<;>omega
 ·rcases hg i o h2 with ⟨e1,e2⟩ | ⟨_,_,e2⟩ | ⟨e1,_⟩ | ⟨e1,_,_⟩
  ·subst e1 e2
   have hro:=R.obj _ b _ h1 hP
   simp only [cH] at hro ⊢
   obtain ⟨a1,c,e,a2,a3,a4⟩:=hro
   refine ⟨a1,c,e,a2,fun i r hi => ?_,fun i r j x hi hj => ?_⟩
   ·rw [kw] at hi
    obtain ⟨L,_,rfl⟩:=ud.1 hi
    rfl
   ·rw [kw] at hi
    obtain ⟨L,hL,rfl⟩:=ud.1 hi
    rw [uy] at hL
    split at hL
    ·rename_i hin
     cases hL
     have hj0:j=0:=by
      by_cases hb:zE+i < 2000000
      ·rw [wz hb] at hj
       cases j with
       | zero=>rfl
       | succ j=>simp at hj
      ·rw [yY hb] at hj
       cases j with
       | zero=>rfl
       | succ j=>simp at hj
     subst hj0
     obtain ⟨cv,b1,b2,b3⟩:=a4 i [.nil] 0 .nil (by rw [uy,if_pos hin]) rfl
     refine ⟨cv,b1,b2,?_⟩
     rw [xi b3]
     by_cases hb:zE+i < 2000000
     ·rw [wz hb] at hj
      simp only [uG,Option.some.injEq] at hj
      subst hj
      refine .aS _ _ _ .nil hb fun sz len fp => ?_
      have:sz=1∧len=0:=by
       rcases hg _ _ fp with ⟨e1,_⟩ | ⟨_,e1,_⟩ | ⟨e1,_⟩ | ⟨_,_,e2⟩
       ·omega
       ·omega
       ·omega
       ·cases e2;exact ⟨rfl,rfl⟩
      obtain ⟨rfl,rfl⟩:=this
      refine ⟨un _,fun i row hi=>by simp at hi,fun _=>.inl ⟨?_,rfl⟩⟩
      cases hr:g.ρ (zE+i) with
      | none=>rfl
      | some bb=>
       have h5:zE+i < next:=(R.lt _ _ hr).2
       omega
     ·rw [yY hb] at hj
      simp only [uG,Option.some.injEq] at hj
      subst hj
      exact .ak _ _ .nil
    ·cases hL
  ·exact (R.obj i b o h1 e2).keep E rfl rfl
  ·have h5:i < next:=(R.lt i b h1).2
   omega
  ·have h5:i < next:=(R.lt i b h1).2
   omega
 ·rcases hg i _ h1 with ⟨_,e2⟩ | ⟨_,_,e2⟩ | ⟨_,e2⟩ | ⟨_,_,e2⟩
  ·cases e2
  ·exact R.cR i s l e2 h2
  ·cases e2
  ·cases e2;rfl
theorem Ht:∀ (Ls:List (List Int)) (b:Nat),dV (qz b Ls) (zc (zH zb) Ls)
 | [],_=>.nil
 | L::r,b=>by
  refine .cons ?_ (Ht r (b+1))
  by_cases hb:b < 2000000
  ·rw [wz hb];exact .cons (.aT _ _) .nil
  ·rw [yY hb];exact .cons (.refl _) .nil
section
inductive Tree:Type 1 where
 | tt
 | bad (why:Nat)
 | step (t:Tree)
 | all (β:Type) (f:β→Tree)
 | and (a b:Tree)
 | eq (β:Type) (a b:β) (t:Tree)
def Tree.Ok:Tree→Prop
 | .tt=>True
 | .bad _=>False
 | .step t=>t.Ok
 | .all _ f=>∀ v,(f v).Ok
 | .and a b=>a.Ok∧b.Ok
 | .eq _ a b t=>a=b∧t.Ok
def Tree.norm:Tree→Tree
 | .tt=>.tt
 | .bad _=>.tt
 | .step t=>.step t.norm
 | .all β f=>.all β fun v=>(f v).norm
 | .and a b=>.and a.norm b.norm
 | .eq β a _ t=>.eq β a a t.norm
theorem Tree.ok:∀ {t:Tree},t=t.norm→t.Ok:=by
 intro t
 induction t with
 | tt=>exact fun _=>trivial
 | bad _=>intro h;cases h
 | step t ih=>intro h;simp only [Tree.norm,Tree.step.injEq] at h;exact ih h
 | all β f ih=>
  intro h v
  simp only [Tree.norm,Tree.all.injEq,heq_eq_eq,true_and] at h
  exact ih v (congrFun h v)
 | and a b iha ihb=>intro h;simp only [Tree.norm,Tree.and.injEq] at h;exact ⟨iha h.1,ihb h.2⟩
 | eq β a b t ih=>intro h;simp only [Tree.norm,Tree.eq.injEq,heq_eq_eq,true_and] at h;exact ⟨h.1.symm,ih h.2⟩
abbrev Hu:=List eS×List Prop
abbrev zW:=List (Nat×Hu)
def bn (Φ:zW):Prop:=∀ k f,za Φ k=some f→cL f.2
structure Spec (β:Type) where
 ks:List Nat
 ov:β→List (Nat×AV)
 hs:List Nat
 oh:β→List (Nat×aF)
 nx:Nat
 B5:∀ b,cA nx (oh b)
 ns:β→Option (List (List Int))
def Yc (hs:List Nat):List (Nat×aF)→List (Nat×aF)
 | []=>[]
 | (k,o)::r=>match uw k qY with
  | true=>[]
  | false=>match hs.contains k with
   | true=>(k,o)::Yc hs r
   | false=>Yc hs r
def Jy:Option (List (List Int))→List (Nat×aF)
 | Option.none=>[]
 | some Ls=>xY Ls
abbrev Spec.k {β:Type} (ks:List Nat) (ov:β→List (Nat×AV)) (hs:List Nat) (oh:β→List (Nat×aF)) (nx:Nat) (B5:∀ b,cA nx (oh b)):Spec β:=⟨ks,ov,hs,oh,nx,B5,fun _=>Option.none⟩
def Spec.st {β:Type} (sp:Spec β) (st:St) (b:β):St:=⟨sp.ov b++qG sp.ks st.env,sp.oh b++(Yc sp.hs st.heap++Jy (sp.ns b)),sp.nx⟩
def Spec.fu {β:Type} (sp:Spec β) (st:St) (idx:Nat) (n:Int) (b:β):St:=⟨(idx,vI n)::(sp.ov b++qG sp.ks st.env),sp.oh b++(Yc sp.hs st.heap++Jy (sp.ns b)),sp.nx⟩
structure eB where
 to:St→St
 T:St→Tree→Tree
 ok:∀ st t,(T st t).Ok→t.Ok∧bR st (to st)∧st.next≤(to st).next
structure rE (β:Type) where
 x:Option β
 T:cB→St→(β→St→Tree)→Tree
 ok:∀ (C:bA) (nt:Fr) (c:cB) (st:St) (k:β→St→Tree) (K:Exit→St→Prop) (b:β),x=some b→(T c st k).Ok→(∀ s,(k b s).Ok→K .normal s)→cD C nt c K st
inductive aB:Type→Type 1 where
 | ret {α:Type} (a:α):aB α
 | fin {α:Type} (ids:List Nat) (V:AV) (bX:List (Nat×aF)) (iv:IV) (h:Dv [V] bX [iv]) (a:α):aB α
 | sJ {α:Type} (x y:AV) (h:nJ x y) (a:α):aB α
 | none {α:Type}:aB α
 | bind {α β:Type} (x:Option β) (F:β→zW) (h:∀ v,x=some v→bn (F v)) (k:β→aB α):aB α
 | ite {α:Type} (key:Nat) (b:Bool) (p q:aB α):aB α
 | fact {α:Type} (key:Nat) (o:List eS) (ps:List Prop) (h:cL ps) (p:aB α):aB α
 | use {α:Type} (j key:Nat) (p:aB α):aB α
 | case {α β γ:Type} (o:β ⊕ γ) (p:β→aB α) (q:γ→aB α):aB α
 | cut {α β:Type} (n:Nat) (sp:Spec β) (p:aB β) (k:β→aB α):aB α
 | dK {α β γ:Type} (n:Nat) (sp:Spec β) (p:aB (β ⊕ γ)) (k:β ⊕ γ→aB α):aB α
 | aD {α σ ρ:Type} (key idx:Nat) (n:Int) (s0:σ) (sp:Spec σ) (body:Nat→σ→aB (σ ⊕ ρ)) (k:σ ⊕ ρ→aB α):aB α
 | iter {α σ ρ:Type} (s0:σ) (sp:Spec σ) (body:σ→aB (σ ⊕ ρ)) (k:ρ→aB α):aB α
 | cC {α:Type} (n:Nat) (ws:List eB) (p:aB α):aB α
 | aA {α:Type} (n:Nat) (p:aB α):aB α
 | tU {α β:Type} (n:Nat) (m:rE β) (k:β→aB α):aB α
 | oF {α:Type} (key:Nat) (n:Int) (len i:Nat) (h:uM i len=true) (p q:aB α):aB α
noncomputable def aB.run {α:Type} (p:aB α):Option α:=aB.rec (motive:=fun α _=>Option α)
 (fun a=>some a) (fun _ _ _ _ _ a=>some a) (fun _ _ _ a=>some a) Option.none
 (fun x _ _ _ ih=>ui x ih) (fun _ b _ _ iz lV=>bif b then iz else lV) (fun _ _ _ _ _ ih=>ih) (fun _ _ _ ih=>ih)
 (fun o _ _ iz lV=>Sum.elim iz lV o) (fun _ _ _ _ iz sK=>ui iz sK) (fun _ _ _ _ iz sK=>ui iz sK)
 (fun _ _ n s0 _ _ _ ihb sK=>ui (Go.Proofs.YtlpmnmbebkdocaaGreatDoor.aD n ihb s0) sK)
 (fun s0 _ _ _ ihb sK=>ui (Go.Proofs.YtlpmnmbebkdocaaGreatDoor.iter ihb s0) sK) (fun _ _ _ ih=>ih) (fun _ _ ih=>ih) (fun _ m _ ih=>ui m.x ih) (fun _ n _ i _ _ _ iz lV=>bif n == (i:Int) then iz else lV) p
noncomputable def settle {α:Type} (p:aB α) (Φ:zW) (k:zW→aB α→Tree):Tree:=aB.rec (motive:=fun α _=>zW→(zW→aB α→Tree)→Tree)
 (fun a Φ k=>k Φ (.ret a)) (fun ids V bX iv h a Φ k=>k Φ (.fin ids V bX iv h a)) (fun x y h a Φ k=>k Φ (.sJ x y h a)) (fun Φ k=>.tt)
 (fun {_ β} x F h _ ih Φ k=>.all β fun v=>ih v (F v++Φ) k)
 (fun key b _ _ iz lV Φ k=>.and (iz ((key,([.g true],[b=true]))::(key+1,([.g false],[(!b)=false]))::Φ) k) (lV ((key,([.g false],[b=false]))::(key+1,([.g true],[(!b)=true]))::Φ) k))
 (fun key o ps h _ ih Φ k=>ih ((key,(o,ps))::Φ) k) (fun j key p _ Φ k=>k Φ (.use j key p))
 (fun o _ _ iz lV Φ k=>match o with
  | .inl a=>iz a Φ k
  | .inr b=>lV b Φ k)
 (fun n sp p kk _ _ Φ k=>k Φ (.cut n sp p kk)) (fun n sp p kk _ _ Φ k=>k Φ (.dK n sp p kk))
 (fun key idx n s0 sp body kk _ _ Φ k=>k Φ (.aD key idx n s0 sp body kk)) (fun s0 sp body kk _ _ Φ k=>k Φ (.iter s0 sp body kk))
 (fun n ws p _ Φ k=>k Φ (.cC n ws p)) (fun n p _ Φ k=>k Φ (.aA n p)) (fun n m kk _ Φ k=>k Φ (.tU n m kk))
 (fun key n len i _ _ _ iz lV Φ k=>.and (iz ((key,([.k i],[Wl n 0 len i]))::Φ) k) (lV Φ k)) p Φ k
theorem bn.add {Φ:zW} (h:bn Φ) {key:Nat} {f:Hu} (hf:cL f.2):bn ((key,f)::Φ):=fun k g hg=>by
 simp only [za] at hg
 split at hg
 ·cases hg;exact hf
 ·exact h k g hg
theorem Hv {α:Type}:∀ {l m:List (Nat×α)} {k:Nat} {x:α},za (l++m) k=some x→za l k=some x∨za m k=some x
 | [],m,k,x,h=>.inr h
 | (k',y)::l,m,k,x,h=>by
  simp only [uF,za] at h ⊢
  split at h
  ·rename_i e;rw [if_pos e];exact .inl h
  ·rename_i e;rw [if_neg e];exact Hv h
theorem bn.app {Φ Ψ:zW} (h:bn Φ) (h':bn Ψ):bn (Φ++Ψ):=fun k f hf=>(Hv hf).elim (h k f) (h' k f)
theorem bn.nil:bn []:=fun _ _ h=>by cases h
theorem jb {α:Type} (p:aB α):∀ {Φ:zW} {k:zW→aB α→Tree} {r:α},bn Φ→(settle p Φ k).Ok→p.run=some r→∃ Φ' p',bn Φ'∧p'.run=some r∧(k Φ' p').Ok:=by
 induction p with
 | ret a=>exact fun hΦ hk hr=>⟨_,_,hΦ,hr,hk⟩
 | fin ids V bX iv h a=>exact fun hΦ hk hr=>⟨_,_,hΦ,hr,hk⟩
 | sJ x y h a=>exact fun hΦ hk hr=>⟨_,_,hΦ,hr,hk⟩
 | none=>intro Φ k r hΦ hk hr;cases hr
 | bind x F h kk ih=>
  intro Φ k r hΦ hk hr
  obtain ⟨v,h1,h2⟩:=jy hr
  exact ih v ((h v h1).app hΦ) (hk v) h2
 | ite key b p q iz lV=>
  intro Φ k r hΦ hk hr
  have hr':(bif b then p.run else q.run)=some r:=hr
  cases b with
  | true=>exact iz ((hΦ.add (f:=([.g false],[(!true)=false])) (.cons rfl .nil)).add (f:=([.g true],[true=true])) (.cons rfl .nil)) hk.1 hr'
  | false=>exact lV ((hΦ.add (f:=([.g true],[(!false)=true])) (.cons rfl .nil)).add (f:=([.g false],[false=false])) (.cons rfl .nil)) hk.2 hr'
 | fact key o ps h p ih=>exact fun hΦ hk hr=>ih (hΦ.add (f:=(o,ps)) h) hk hr
 | use j key p ih=>exact fun hΦ hk hr=>⟨_,_,hΦ,hr,hk⟩
 | case o p q iz lV=>
  intro Φ k r hΦ hk hr
  cases o with
  | inl a=>exact iz a hΦ hk hr
  | inr b=>exact lV b hΦ hk hr
 | cut n sp p kk _ _=>exact fun hΦ hk hr=>⟨_,_,hΦ,hr,hk⟩
 | dK n sp p kk _ _=>exact fun hΦ hk hr=>⟨_,_,hΦ,hr,hk⟩
 | aD key idx n s0 sp body kk _ _=>exact fun hΦ hk hr=>⟨_,_,hΦ,hr,hk⟩
 | iter s0 sp body kk _ _=>exact fun hΦ hk hr=>⟨_,_,hΦ,hr,hk⟩
 | cC n ws p ih=>exact fun hΦ hk hr=>⟨_,_,hΦ,hr,hk⟩
 | aA n p ih=>exact fun hΦ hk hr=>⟨_,_,hΦ,hr,hk⟩
 | tU n m kk ih=>exact fun hΦ hk hr=>⟨_,_,hΦ,hr,hk⟩
 | oF key n len i hi p q iz lV=>
  intro Φ k r hΦ hk hr
  have hr':(bif n == (i:Int) then p.run else q.run)=some r:=hr
  have hlt:i < len:=by simpa [uC] using hi
  by_cases e:n=(i:Int)
  ·rw [show (n == (i:Int))=true by simp [e]] at hr'
   exact iz (hΦ.add (f:=([.k i],[Wl n 0 len i])) (.cons ⟨by omega,by omega,by omega⟩ .nil)) hk.1 hr'
  ·rw [show (n == (i:Int))=false by simp [e]] at hr'
   exact lV hΦ hk.2 hr'
def aB.used {α:Type} (p:aB α) (j:Nat):Option (Nat×aB α):=match p with
 | .use j' key q=>match uw j' j with
  | true=>some (key,q)
  | false=>Option.none
 | _=>Option.none
theorem Vg {α:Type} {p q:aB α} {j key:Nat} (h:p.used j=some (key,q)):q.run=p.run:=by
 unfold aB.used at h
 split at h
 ·split at h
  ·cases h;rfl
  ·cases h
 ·cases h
abbrev YT:=(l id:Nat)→(args:List AV)→(heap:List (Nat×aF))→(next:Nat)→(α:Type)→zW→aB α→(AV→List (Nat×aF)→Nat→zW→aB α→Tree)→Tree
def rF:YT:=fun _ _ _ _ _ _ _ _ _=>.bad 1183
def B6 (C:bA) (Yt:YT):Prop:=∀ (l id:Nat) (args:List AV) (heap:List (Nat×aF)) (next:Nat) (α:Type) (Φ:zW) (p:aB α) (k:AV→List (Nat×aF)→Nat→zW→aB α→Tree) (r:α) (KK:AV→List (Nat×aF)→Nat→Prop),bn Φ→p.run=some r→(Yt l id args heap next α Φ p k).Ok →
 (∀ v h n Φ' p',bn Φ'→p'.run=some r→(k v h n Φ' p').Ok→KK v h n)→C.Y l id args heap next KK
theorem Yd (C:bA):B6 C rF:=fun _ _ _ _ _ _ _ _ _ _ _ _ _ h _=>h.elim
def Kl (op:cP) (st:St):Option (Nat×Nat×List AV):=match op with
 | .call f args=>match zd st.env f with
  | .eE l id=>some (l,id,args.map (zd st.env))
  | _=>Option.none
 | _=>Option.none
theorem PN {op:cP} {st:St} {l id:Nat} {args:List AV} (h:Kl op st=some (l,id,args)):∃ f cI,op=.call f cI∧zd st.env f=.eE l id∧args=cI.map (zd st.env):=by
 unfold Kl at h
 split at h
 ·split at h
  ·rename_i e;cases h;exact ⟨_,_,rfl,e,rfl⟩
  ·cases h
 ·cases h
section
variable (C:Ctx)
def A1 (dr:Option (List Nat)) (op:cP) (X:Nat) (st:St):St:=match dr with
 | Option.none=>st
 | some _=>match fN op with
  | true=>⟨st.env,st.heap,X⟩
  | false=>st
def B7 {α:Type} (dr:Option (List Nat)) (X:Nat) (dst:Option Nat) (j:Nat) (W R:List (Nat×Nat)) (D:List Nat) (st:St) (r:AV) (aN:List (Nat×aF)) (rd:List Nat) (d:Nat) (next:List (Nat×Nat)→List (Nat×Nat)→List Nat→St→Nat→zW→aB α→Tree) (Φ:zW) (q:aB α):Tree:=match dr with
 | Option.none=>next W R (Wm D dst) (st.mL dst r aN d) X Φ q
 | some ord=>match xj ord j W R (z8 aN) rd with
  | true=>next (q7 j (z8 aN) W) (q7 j rd R) (Wm D dst) (st.after dst r aN) (X+d) Φ q
  | false=>.bad 1215
def DH {α:Type} (dr:Option (List Nat)) (X:Nat) (it:aM) (j:Nat) (W R:List (Nat×Nat)) (D:List Nat) (st:St) (Φ:zW) (p:aB α) (next:List (Nat×Nat)→List (Nat×Nat)→List Nat→St→Nat→zW→aB α→Tree):Tree:=match p.used j with
 | Option.none=>match gF C it.op [] D (A1 dr it.op X st) with
  | some (r,aN,rd,_,[],d)=>B7 dr X it.dst j W R D st r aN rd d next Φ p
  | _=>.bad 1209
 | some (key,q)=>match za Φ key with
  | Option.none=>.bad 1211
  | some (o,ps)=>match gF C it.op o D (A1 dr it.op X st) with
   | some (r,aN,rd,_,ps',d)=>.eq (List Prop) ps' ps (B7 dr X it.dst j W R D st r aN rd d next Φ q)
   | Option.none=>.bad 1216
def DI {α:Type} (gd:Option (Nat×Bool)) (j:Nat) (D:List Nat) (st:St) (Φ:zW) (p:aB α) (next:Bool→List Nat→St→zW→aB α→Tree):Tree:=match Xs gd [] D st with
 | some (b,_,[],D',aY)=>next b D' aY Φ p
 | some (_,_,_::_,_,_)=>.bad 1221
 | Option.none=>match p.used j with
  | Option.none=>.bad 1223
  | some (key,q)=>match za Φ key with
   | Option.none=>.bad 1225
   | some (o,ps)=>match Xs gd o D st with
    | some (b,_,ps',D',aY)=>.eq (List Prop) ps' ps (next b D' aY Φ q)
    | Option.none=>.bad 1228
noncomputable def DJ {α:Type} (Yt:YT) (dr:Option (List Nat)) (X:Nat) (it:aM) (j:Nat) (W R:List (Nat×Nat)) (D:List Nat) (st:St) (Φ:zW) (p:aB α) (next:List (Nat×Nat)→List (Nat×Nat)→List Nat→St→Nat→zW→aB α→Tree):Tree:=match Kl it.op st with
 | Option.none=>DH C dr X it j W R D st Φ p next
 | some (l,id,args)=>match dr with
  | Option.none=>Yt l id args st.heap st.next α Φ p fun r heap nx Φ p=>next W R (Wm D it.dst) (St.put {env:=st.env,heap:=heap,next:=nx+1} it.dst r) X Φ p
  | some _=>.bad 1234
noncomputable def Jz {α:Type} (Yt:YT) (dr:Option (List Nat)):List aM→Nat→Nat→List (Nat×Nat)→List (Nat×Nat)→List Nat→St→zW→aB α→(St→zW→aB α→Tree)→Tree
 | [],_,X,_,_,_,st,Φ,p,k=>k (match dr with
  | Option.none=>st
  | some _=>⟨st.env,st.heap,X⟩) Φ p
 | it::rest,j,X,W,R,D,st,Φ,p,k=>settle p Φ fun Φ p=>DI it.guard j D st Φ p fun b D st Φ p=>match b with
  | false=>Jz Yt dr rest (j+1) X W R (Wm D it.dst) (st.after it.dst .undef []) Φ p k
  | true=>settle p Φ fun Φ p=>DJ C Yt dr X it j W R D st Φ p fun W R D st X Φ p=>Jz Yt dr rest (j+1) X W R D st Φ p k
end
section
variable {C:Ctx}
theorem Hw {α:Type} {gd:Option (Nat×Bool)} {j:Nat} {D:List Nat} {st:St} {Φ:zW} {p:aB α} {next:Bool→List Nat→St→zW→aB α→Tree} {r:α} (hΦ:bn Φ) (hr:p.run=some r) (h:(DI gd j D st Φ p next).Ok) :
  ∃ b D' q,qd st.env gd=some b∧q.run=some r∧(next b D' st Φ q).Ok:=by
 unfold DI at h
 split at h
 ·rename_i b _ D' aY hg
  obtain ⟨rfl,h1⟩:=yX hg .nil
  exact ⟨b,D',p,h1,hr,h⟩
 ·exact h.elim
 ·split at h
  ·exact h.elim
  ·rename_i key q hu
   split at h
   ·exact h.elim
   ·rename_i o ps hk
    split at h
    ·rename_i b _ ps' D' aY hg
     obtain ⟨h1,h2⟩:=h
     subst h1
     obtain ⟨rfl,h3⟩:=yX hg (hΦ _ _ hk)
     exact ⟨b,D',q,h3,(Vg hu).trans hr,h2⟩
    ·exact h.elim
theorem Hx {α:Type} {dr:Option (List Nat)} {X:Nat} {it:aM} {j:Nat} {W R:List (Nat×Nat)} {D:List Nat} {st:St} {Φ:zW} {p:aB α} {next:List (Nat×Nat)→List (Nat×Nat)→List Nat→St→Nat→zW→aB α→Tree} {r:α} (hΦ:bn Φ) (hr:p.run=some r) (h:(DH C dr X it j W R D st Φ p next).Ok) :
  ∃ o x aN rd o' ps d q,gF C it.op o D (A1 dr it.op X st)=some (x,aN,rd,o',ps,d)∧cL ps∧q.run=some r∧(B7 dr X it.dst j W R D st x aN rd d next Φ q).Ok:=by
 unfold DH at h
 split at h
 ·split at h
  ·rename_i x aN rd o' d hop
   exact ⟨[],x,aN,rd,o',[],d,p,hop,.nil,hr,h⟩
  ·exact h.elim
 ·rename_i key q hu
  split at h
  ·exact h.elim
  ·rename_i o ps hk
   split at h
   ·rename_i x aN rd o' ps' d hop
    obtain ⟨h1,h2⟩:=h
    subst h1
    exact ⟨o,x,aN,rd,o',ps',d,q,hop,hΦ _ _ hk,(Vg hu).trans hr,h2⟩
   ·exact h.elim
theorem JA {C:bA} {Yt:YT} (hY:B6 C Yt) {α:Type} {r:α} {K:St→Prop} {k:St→zW→aB α→Tree} (hK:∀ st Φ p,bn Φ→p.run=some r→(k st Φ p).Ok→K st):∀ (items:List aM) (j X:Nat) (W R:List (Nat×Nat)) (D:List Nat) (st:St) (Φ:zW) (p:aB α),
  bn Φ→p.run=some r→(Jz C Yt Option.none items j X W R D st Φ p k).Ok→l9 C items K st
 | [],j,X,W,R,D,st,Φ,p,hΦ,hr,h=>hK st Φ p hΦ hr h
 | it::rest,j,X,W,R,D,st,Φ,p,hΦ,hr,h=>by
  simp only [Jz] at h
  obtain ⟨Φ1,p1,iJ,cz,h1⟩:=jb p hΦ h hr
  obtain ⟨b,D2,p2,hg,cy,h2⟩:=Hw iJ cz h1
  refine Kf hg (fun hb => ?_) (fun hb => ?_)
  ·subst hb
   obtain ⟨Φ3,p3,lW,eP,h3⟩:=jb p2 iJ h2 cy
   unfold DJ at h3
   split at h3
   ·obtain ⟨o,x,aN,rd,o',ps,d,q,e1,e2,e4,e5⟩:=Hx lW eP h3
    exact GU e1 e2 (JA hY hK rest _ _ _ _ _ _ _ _ lW e4 e5)
   ·rename_i l id args PO
    obtain ⟨f,cI,hop,hf,rfl⟩:=PN PO
    rw [hop]
    simp only [cj,hf,VY]
    exact hY _ _ _ _ _ _ _ _ _ _ _ lW eP h3 (fun v h n Φ' p' a1 a2 a3=>JA hY hK rest _ _ _ _ _ _ _ _ a1 a2 a3)
  ·subst hb
   exact JA hY hK rest _ _ _ _ _ _ _ _ iJ cy h2
theorem PP {op:cP} {cq o':List eS} {D:List Nat} {st:St} {X:Nat} {r:AV} {aN:List (Nat×aF)} {rd:List Nat} {ps:List Prop} {d:Nat} {ord:List Nat} {dst:Option Nat} {gd:Option (Nat×Bool)} (hg:qd st.env gd=some true) (h:gF C op cq D (A1 (some ord) op X st)=some (r,aN,rd,o',ps,d)) (hp:cL ps) :
  nj C ⟨dst,op,gd⟩ st ⟨dst,r,aN,rd,uR X d⟩:=by
 unfold A1 at h
 simp only at h
 split at h
 ·rename_i hc
  cases op<;>first | (cases hc;done) | skip
  rename_i f args
  simp only [nj,hg]
  simp only [gF] at h
  unfold Dw at h
  split at h
  ·rename_i f' first bq hf
   have hf':zd st.env f=.func f' first bq:=hf
   simp only [hf']
   split at h
   ·split at h
    ·rename_i dA hiv
     split at h
     ·rename_i hm;cases h;exact dF.pure (d:=5) hp.one hm hiv
     ·cases h
    ·cases h
   ·split at h
    ·rename_i bX ho
     split at h
     ·rename_i hm
      cases h
      cases hp with
      | cons h1 h2=>exact dF.AS (d:=5) h1 ho (Gv ho) h2.one hm
     ·cases h
    ·cases h
   ·split at h
    ·rename_i bX ho
     split at h
     ·rename_i hm
      cases h
      exact dF.dB hp.one hm ho
     ·cases h
    ·cases h
   ·cases h
  ·cases h
 ·rename_i hc
  obtain ⟨e,hr,rfl⟩:=GR hc h hp
  cases op<;>first | (cases hc;done) | (simp only [nj,hg];exact ⟨e,hr,rfl⟩)
theorem Hy {Yt:YT} {α:Type} {r:α} {K:St→Prop} {ord:List Nat} {k:St→zW→aB α→Tree} (hK:∀ st Φ p,bn Φ→p.run=some r→(k st Φ p).Ok→K st):∀ (items:List aM) (X:Nat) (W R:List (Nat×Nat)) (D:List Nat) (st:St) (Φ:zW) (p:aB α) (pre:List Rec),
  bn Φ→p.run=some r→(Jz C Yt (some ord) items pre.length X W R D st Φ p k).Ok →
  (∀ (i:Nat) (ri:Rec) (x:Nat),pre[i]?=some ri→x∈z8 ri.aN→(i,x)∈W)→(∀ (i:Nat) (ri:Rec) (x:Nat),pre[i]?=some ri→x∈ri.rd→(i,x)∈R) →
  (∀ (i j:Nat) (ri rj:Rec),pre[i]?=some ri→pre[j]?=some rj→i < j→jU ri rj=true→ef ord i j=true) →
  ∃ recs aY M,Qz C items st recs aY∧(∀ (i j:Nat) (ri rj:Rec),(pre++recs)[i]?=some ri→(pre++recs)[j]?=some rj→i < j→jU ri rj=true→ef ord i j=true)∧X≤M ∧
   (∀ rc∈recs,∀ i∈rc.ex,X≤i∧i < M)∧(∀ (k l:Nat) (rk rl:Rec) (i:Nat),recs[k]?=some rk→recs[l]?=some rl→i∈rk.ex→i∈rl.ex→k=l)∧K ⟨aY.env,aY.heap,M⟩
 | [],X,W,R,D,st,Φ,p,pre,hΦ,hr,h,hW,hR,hp=>⟨[],st,X,rfl,by simpa using hp,un _,by simp,by simp,hK _ Φ p hΦ hr h⟩
 | it::rest,X,W,R,D,st,Φ,p,pre,hΦ,hr,h,hW,hR,hp=>by
  simp only [Jz] at h
  obtain ⟨Φ1,p1,iJ,cz,h1⟩:=jb p hΦ h hr
  obtain ⟨b,D2,p2,hg,cy,h2⟩:=Hw iJ cz h1
  obtain ⟨rc,d,W',R',D',q,Φ',fe,gZ,hex,hok,tV,Hz,PR,hq,mF⟩:∃ (rc:Rec) (d:Nat) (W' R':List (Nat×Nat)) (D':List Nat) (q:aB α) (Φ':zW),rc.dst=it.dst∧nj C it st rc∧rc.ex=uR X d∧xj ord pre.length W R (z8 rc.aN) rc.rd=true ∧
    (∀ p∈q7 pre.length (z8 rc.aN) W,p∈W')∧(∀ p∈q7 pre.length rc.rd R,p∈R')∧bn Φ'∧q.run=some r ∧
    (Jz C Yt (some ord) rest (pre.length+1) (X+d) W' R' D' (st.after it.dst rc.r rc.aN) Φ' q k).Ok:=by
   cases b with
   | false=>
    refine ⟨⟨it.dst,.undef,[],[],[]⟩,0,W,R,_,p2,Φ1,rfl,?_,rfl,OZ _ _ _ _,fun p hp=>by simpa [q7,z8] using hp,fun p hp=>by simpa [q7] using hp,iJ,cy,h2⟩
    simp only [nj,hg,and_self]
   | true=>
    obtain ⟨Φ3,p3,lW,eP,h3⟩:=jb p2 iJ h2 cy
    unfold DJ at h3
    split at h3
    case h_2=>exact h3.elim
    obtain ⟨o,x,aN,rd,o',ps,d,q,e1,e2,e4,e5⟩:=Hx lW eP h3
    unfold B7 at e5
    simp only at e5
    split at e5
    ·rename_i hok
     exact ⟨⟨it.dst,x,aN,rd,uR X d⟩,d,_,_,_,q,Φ3,rfl,PP hg e1 e2,rfl,hok,fun p hp=>hp,fun p hp=>hp,lW,e4,e5⟩
    ·exact e5.elim
  have hlen:(pre++[rc]).length=pre.length+1:=by simp
  have split:∀ (i:Nat) (ri:Rec),(pre++[rc])[i]?=some ri→pre[i]?=some ri∨(i=pre.length∧ri=rc):=fun i ri hi=>by
   rw [List.getElem?_append] at hi
   split at hi
   ·exact .inl hi
   ·rename_i hge
    rcases Nat.eq_or_lt_of_le (Nat.le_of_not_lt hge) with e | e
    ·rw [←e] at hi;simp at hi;exact .inr ⟨e.symm,hi.symm⟩
    ·have:i - pre.length≠0:=by omega
     obtain ⟨m,hm⟩:=Nat.exists_eq_succ_of_ne_zero this
     rw [hm] at hi;simp at hi
  obtain ⟨recs,aY,M,h4,h5,h6,h7,h8,h9⟩:=Hy hK rest (X+d) W' R' D' (st.after it.dst rc.r rc.aN) Φ' q (pre++[rc]) PR hq (by rw [hlen];exact mF)
   (fun i ri x hi hx=>by
    rcases split i ri hi with hi | ⟨rfl,rfl⟩
    ·exact tV _ (uz _ (hW i ri x hi hx))
    ·exact tV _ (ut _ (uP.2 ⟨x,hx,rfl⟩)))
   (fun i ri x hi hx=>by
    rcases split i ri hi with hi | ⟨rfl,rfl⟩
    ·exact Hz _ (uz _ (hR i ri x hi hx))
    ·exact Hz _ (ut _ (uP.2 ⟨x,hx,rfl⟩)))
   (fun i j ri rj hi hj hlt hc=>by
    rcases split j rj hj with hj | ⟨rfl,rfl⟩
    ·rcases split i ri hi with hi | ⟨rfl,rfl⟩
     ·exact hp i j ri rj hi hj hlt hc
     ·have:=(ug.1 hj).1;omega
    ·rcases split i ri hi with hi | ⟨rfl,rfl⟩
     ·simp only [xj,uc,uQ] at hok
      simp only [jU,uJ,List.any_eq_true] at hc
      rcases hc with ⟨x,hx,hc⟩ | ⟨x,hx,hc⟩
      ·have:=hok.1 (i,x) (hW i ri x hi hx)
       simp only [uJ,Bool.not_eq_true',Bool.or_eq_false_iff] at this
       rcases this with ⟨h7,h8⟩ | h7
       ·simp only [h7,h8] at hc;simp at hc
       ·exact h7
      ·have:=hok.2 x hx (i,x) (hR i ri x hi (by simpa using hc))
       simpa using this
     ·omega)
  have sL:∀ i,i∈rc.ex→X≤i∧i < X+d:=fun i hi=>by rw [hex,List.mem_range'_1] at hi;omega
  refine ⟨rc::recs,aY,M,⟨fe,gZ,h4⟩,?_,by omega,fun r' hr' i hi => ?_,fun k l rk rl i hk hl hik nH => ?_,h9⟩
  ·simpa using h5
  ·rcases uh.1 hr' with rfl | hr'
   ·have:=sL i hi;omega
   ·have:=h7 r' hr' i hi;omega
  ·cases k with
   | zero=>
    simp at hk
    subst hk
    cases l with
    | zero=>rfl
    | succ l=>
     have h10:=h7 rl (uu (by simpa using hl)) i nH
     have:=sL i hik
     omega
   | succ k=>
    cases l with
    | zero=>
     simp at hl
     subst hl
     have h10:=h7 rk (uu (by simpa using hk)) i hik
     have:=sL i nH
     omega
    | succ l=>rw [h8 k l rk rl i (by simpa using hk) (by simpa using hl) hik nH]
theorem PS {C:bA} {nt:Fr} {Yt:YT} {α:Type} {r:α} {K:Exit→St→Prop} {ord:List Nat} {ks:Option (List Nat)} {k:St→zW→aB α→Tree} (hK:∀ st Φ p,bn Φ→p.run=some r→(k st Φ p).Ok→K .normal (st.keep ks)) {items:List aM} {st:St} {Φ:zW} {p:aB α}
  (hΦ:bn Φ) (hr:p.run=some r) (h:(Jz C Yt (some ord) items 0 (st.next+items.length) [] [] [] st Φ p k).Ok):cD C nt (.region true ord items ks) K st:=by
 obtain ⟨recs,aY,M,h1,h2,h3,h4,h5,h6⟩:=Hy (C:=C) (K:=fun st=>K .normal (st.keep ks)) hK items (st.next+items.length) [] [] [] st Φ p [] hΦ hr h (by simp) (by simp) (by simp)
 have hl:=Jn h1
 obtain ⟨_,_,hn⟩:=Va items st recs aY 0 (fun _=>true) h1 (fun _ _=>rfl)
 exact Vb h1 (Vc (by simpa using h2)) ⟨fun k rc i hk hi=>by rw [hl];exact (h4 rc (uu hk) i hi).1,h5⟩ M (by omega) (fun rc hrc i hi=>(h4 rc hrc i hi).2) h6
end
def Ye (m:Nat) (env:List (Nat×AV)) (t:Tree):List (Nat×AV)→Tree
 | []=>t
 | (k,b)::l=>match za env k with
  | some a=>match zZ m b with
   | true=>.eq AV a b (Ye m env t l)
   | false=>.bad 1340
  | Option.none=>.bad 1341
def B8 (m:Nat) (heap:List (Nat×aF)) (t:Tree):List (Nat×aF)→Tree
 | []=>t
 | (k,b)::l=>match za heap k with
  | some a=>match Kh m b&&decide (k < m) with
   | true=>.eq aF a b (B8 m heap t l)
   | false=>.bad 1347
  | Option.none=>.bad 1348
def B9 (heap:List (Nat×aF)) (t:Tree):List (Nat×aF)→Tree
 | []=>t
 | (k,b)::l=>match za heap k with
  | some a=>.eq aF a b (B9 heap t l)
  | Option.none=>.bad 1353
theorem Vh {m:Nat} {env:List (Nat×AV)} {t:Tree}:∀ {l:List (Nat×AV)},(Ye m env t l).Ok→t.Ok∧∀ p∈l,za env p.1=some p.2∧zZ m p.2=true
 | [],h=>⟨h,fun p hp=>by cases hp⟩
 | (k,b)::l,h=>by
  simp only [Ye] at h
  split at h
  ·rename_i a ha
   split at h
   ·rename_i hb
    obtain ⟨rfl,h2⟩:=h
    obtain ⟨h3,h4⟩:=Vh h2
    refine ⟨h3,fun p hp => ?_⟩
    rcases uh.1 hp with rfl | hp
    ·exact ⟨ha,hb⟩
    ·exact h4 p hp
   ·exact h.elim
  ·exact h.elim
theorem HA {m:Nat} {heap:List (Nat×aF)} {t:Tree}:∀ {l:List (Nat×aF)},(B8 m heap t l).Ok→t.Ok∧∀ p∈l,za heap p.1=some p.2∧p.1 < m∧z6 m p.2
 | [],h=>⟨h,fun p hp=>by cases hp⟩
 | (k,b)::l,h=>by
  simp only [B8] at h
  split at h
  ·rename_i a ha
   split at h
   ·rename_i hb
    simp only [uc,decide_eq_true_eq] at hb
    obtain ⟨rfl,h2⟩:=h
    obtain ⟨h3,h4⟩:=HA h2
    refine ⟨h3,fun p hp => ?_⟩
    rcases uh.1 hp with rfl | hp
    ·exact ⟨ha,hb.2,vX hb.1⟩
    ·exact h4 p hp
   ·exact h.elim
  ·exact h.elim
theorem HB {heap:List (Nat×aF)} {t:Tree}:∀ {l:List (Nat×aF)},(B9 heap t l).Ok→t.Ok∧∀ p∈l,za heap p.1=some p.2
 | [],h=>⟨h,fun p hp=>by cases hp⟩
 | (k,b)::l,h=>by
  simp only [B9] at h
  split at h
  ·rename_i a ha
   obtain ⟨rfl,h2⟩:=h
   obtain ⟨h3,h4⟩:=HB h2
   refine ⟨h3,fun p hp => ?_⟩
   rcases uh.1 hp with rfl | hp
   ·exact ha
   ·exact h4 p hp
  ·exact h.elim
def JB (nx:Nat) (ov e0:List (Nat×AV)) (oh h0:List (Nat×aF)) (st:St) (t:Tree):Tree:=match uH nx st.next with
 | true=>Ye nx st.env (Ye nx st.env (B9 st.heap (B8 nx st.heap t h0) oh) e0) ov
 | false=>.bad 1405
def Yf (nx:Nat) (heap:List (Nat×aF)) (t:Tree):Option (List (List Int))→Tree
 | Option.none=>t
 | some Ls=>match uH 2000000 nx&&yx heap with
  | true=>.eq (List (Nat×aF)) (Qf heap) (xY Ls) t
  | false=>.bad 1406
theorem PT {nx:Nat} {heap:List (Nat×aF)} {t:Tree}:∀ {o:Option (List (List Int))},(Yf nx heap t o).Ok→t.Ok∧∀ p∈Jy o,za heap p.1=some p.2∧p.1 < nx∧z6 nx p.2
 | Option.none,h=>⟨h,fun p hp=>by cases hp⟩
 | some Ls,h=>by
  unfold Yf at h
  simp only at h
  split at h
  ·rename_i e
   simp only [uc] at e
   obtain ⟨h1,h2⟩:=h
   refine ⟨h2,fun p hp => ?_⟩
   obtain ⟨a1,a2,a3⟩:=PK h1 e.2 p hp
   exact ⟨a1,Nat.lt_of_lt_of_le a2 (ua e.1),a3 nx⟩
  ·exact h.elim
theorem HC {nx:Nat} {ov e0:List (Nat×AV)} {oh h0:List (Nat×aF)} {st:St} {t:Tree} {o:Option (List (List Int))} (hb:cA nx oh) (h:(JB nx ov e0 oh h0 st (Yf nx st.heap t o)).Ok):t.Ok∧nx≤st.next∧(∀ p∈ov++e0,za st.env p.1=some p.2∧zZ nx p.2=true)∧∀ p∈oh++(h0++Jy o),za st.heap p.1=some p.2∧p.1 < nx∧z6 nx p.2:=by
 unfold JB at h
 split at h
 ·rename_i hn
  obtain ⟨h1,a1⟩:=Vh h
  obtain ⟨h2,a2⟩:=Vh h1
  obtain ⟨h3,a3⟩:=HB h2
  obtain ⟨h4,a4⟩:=HA h3
  obtain ⟨h5,a5⟩:=PT h4
  refine ⟨h5,ua hn,fun p hp => ?_,fun p hp => ?_⟩
  ·rcases uA.1 hp with hp | hp
   ·exact a1 p hp
   ·exact a2 p hp
  ·rcases uA.1 hp with hp | hp
   ·exact ⟨a3 p hp,hb.all p hp⟩
   ·rcases uA.1 hp with hp | hp
    ·exact a4 p hp
    ·exact a5 p hp
 ·exact h.elim
theorem Vi {nx:Nat} {ov e0:List (Nat×AV)} {oh h0:List (Nat×aF)} {st:St} {t:Tree} {o:Option (List (List Int))} (hb:cA nx oh) (h:(JB nx ov e0 oh h0 st (Yf nx st.heap t o)).Ok):t.Ok∧bR st ⟨ov++e0,oh++(h0++Jy o),nx⟩:=by
 obtain ⟨h1,h2,h3,h4⟩:=HC hb h
 exact ⟨h1,QH h2 h3 h4⟩
def Spec.cC {β:Type} (sp:Spec β) (cM st:St) (b:β) (t:Tree):Tree:=JB sp.nx (sp.ov b) (qG sp.ks cM.env) (sp.oh b) (Yc sp.hs cM.heap) st (Yf sp.nx st.heap t (sp.ns b))
theorem Spec.gG {β:Type} {sp:Spec β} {cM st:St} {b:β} {t:Tree} (h:(sp.cC cM st b t).Ok):t.Ok∧bR st (sp.st cM b):=Vi (sp.B5 b) h
def Spec.nv {β:Type} (sp:Spec β) (cM st:St) (idx:Nat) (v:AV) (b:β) (t:Tree):Tree:=match za st.env idx with
 | some a=>.eq AV a v (sp.cC cM st b t)
 | Option.none=>.bad 1430
theorem Spec.lX {β:Type} {sp:Spec β} {cM st:St} {idx:Nat} {n:Int} {v:AV} {b:β} {t:Tree} (hv:v=vI n) (h:(sp.nv cM st idx v b t).Ok):t.Ok∧bR st (sp.fu cM idx n b):=by
 unfold Spec.nv at h
 split at h
 ·rename_i a ha
  obtain ⟨rfl,h1⟩:=h
  obtain ⟨h4,hn,a1,a3⟩:=HC (sp.B5 b) h1
  refine ⟨h4,QH hn (fun p hp => ?_) a3⟩
  rcases uh.1 hp with rfl | hp
  ·exact ⟨by rw [ha,hv],rfl⟩
  ·exact a1 p hp
 ·exact h.elim
end
section
def aB.dec {α:Type} (p:aB α):aB α:=match p with
 | .cut (n+1) sp q k=>.cut n sp q k
 | .dK (n+1) sp q k=>.dK n sp q k
 | .cC (n+1) w q=>.cC n w q
 | .tU (n+1) m q=>.tU n m q
 | p=>p
theorem Wp {α:Type} (p:aB α):p.dec.run=p.run:=by
 unfold aB.dec;split<;>rfl
def aB.enter {α:Type} (p:aB α):aB α:=match p with
 | .aA 0 q=>q
 | .aA (n+1) q=>.aA n q
 | p=>p
theorem HD {α:Type} (p:aB α):p.enter.run=p.run:=by
 unfold aB.enter;split<;>rfl
abbrev KT (α:Type):=Exit→St→zW→aB α→Tree
abbrev CT:=(α:Type)→St→zW→aB α→KT α→Tree
noncomputable def HE {β:Type} (sp:Spec β) (cM:St):KT β:=fun e s Φ q=>match e with
 | .normal=>settle q Φ fun _ q=>match q with
  | .ret b=>sp.cC cM s b .tt
  | _=>.bad 2034
 | _=>.bad 2035
noncomputable def HF {α β γ:Type} (sp:Spec β) (cM:St) (kk:β ⊕ γ→aB α) (k:KT α):KT (β ⊕ γ):=fun e s Φ q=>settle q Φ fun Φ q=>match e with
 | .normal=>match q with
  | .ret (.inl b)=>sp.cC cM s b .tt
  | _=>.bad 2039
 | e=>match q with
  | .ret (.inr c)=>k e s Φ (kk (.inr c))
  | _=>.bad 2042
noncomputable def ZH (go:CT):CT:=fun α st Φ p k=>.step (settle p Φ fun Φ p=>match p with
 | .cut (β:=β) 0 sp q kk=>match uH st.next sp.nx with
  | true=>.and (go β st Φ q (HE sp st)) (.all β fun b=>k .normal (sp.st st b) Φ (kk b))
  | false=>.bad 2048
 | .dK (β:=β) (γ:=γ) 0 sp q kk=>match uH st.next sp.nx with
  | true=>.and (go (β ⊕ γ) st Φ q (HF sp st kk k)) (.all β fun b=>k .normal (sp.st st b) Φ (kk (.inl b)))
  | false=>.bad 2051
 | p=>go α st Φ p k)
def DK:List eB→St→(St→Tree)→Tree
 | [],st,f=>f st
 | w::ws,st,f=>w.T st (DK ws (w.to st) f)
noncomputable def ji (go:CT):CT:=fun α st Φ p k=>settle p Φ fun Φ p=>match p with
 | .cC 0 ws q=>DK ws st fun st=>go α st Φ q k
 | p=>go α st Φ p k
noncomputable def DL {α σ ρ:Type} (kk:ρ→aB α) (W:St→σ→Tree) (k:KT α):KT (σ ⊕ ρ):=fun e s Φ q=>settle q Φ fun Φ q=>match e with
 | .normal=>match q with
  | .ret (.inl s')=>W s s'
  | _=>.bad 2063
 | e=>match q with
  | .ret (.inr y)=>k e s Φ (kk y)
  | _=>.bad 2066
noncomputable def HG (c:cB) (go:CT):CT:=fun α st Φ p k=>settle p Φ fun Φ p=>match p with
 | .tU 0 m kk=>m.T c st fun b s=>k .normal s Φ (kk b)
 | p=>go α st Φ p k
variable (C:Ctx)
abbrev GT:=Bool→YT→CT
noncomputable def lC (gH:bf→List Nat→GT→GT→CT):cB→GT
 | .skip=>fun pl Yt=>ji <| ZH <| ji fun α st Φ p k=>k .normal st Φ p
 | .region d o items ks=>fun pl Yt=>HG (.region d o items ks) <| ji <| ZH <| ji fun α st Φ p k=>Jz C Yt (match d with | true=>some o | false=>Option.none) items 0 (st.next+items.length) [] [] [] st Φ p.enter fun s Φ p=>k .normal (s.keep ks) Φ p
 | .seq x y=>fun pl Yt=>ji <| ZH <| ji fun α st Φ p k=>lC gH x pl Yt α st Φ p.dec fun e s Φ q=>match e with
  | .normal=>lC gH y pl Yt α s Φ q k
  | e=>k e s Φ q
 | .cond c x y=>fun pl Yt=>ji <| ZH <| ji fun α st Φ p k=>match zd st.env c with
  | .ak (.bool b)=>match p.used 999 with
   | some (key,q)=>match za Φ key with
    | some ([.g true],ps)=>.eq (List Prop) ps [b=true] (lC gH x pl Yt α st Φ q k)
    | some ([.g false],ps)=>.eq (List Prop) ps [b=false] (lC gH y pl Yt α st Φ q k)
    | _=>.bad 2083
   | Option.none=>match b with
    | true=>lC gH x pl Yt α st Φ p k
    | false=>lC gH y pl Yt α st Φ p k
  | _=>.bad 2087
 | .block id x=>fun pl Yt=>ji <| ZH <| ji fun α st Φ p k=>lC gH x pl Yt α st Φ p.dec fun e s Φ q=>match e with
  | .exit i=>match uw i id with
   | true=>k .normal s Φ q
   | false=>k (.exit i) s Φ q
  | e=>k e s Φ q
 | .scope x=>fun pl Yt=>ji <| ZH <| ji fun α st Φ p k=>match pl with
  | true=>lC gH x pl Yt α st Φ p.dec fun e s Φ q=>match e with
   | .goto _=>.bad 2095
   | e=>k e s Φ q
  | false=>.bad 2097
 | .exit id=>fun pl Yt=>ji <| ZH <| ji fun α st Φ p k=>k (.exit id) st Φ p
 | .ret=>fun pl Yt=>ji <| ZH <| ji fun α st Φ p k=>k .ret st Φ p
 | .range f ps x y=>fun pl Yt=>ji <| ZH <| ji fun α st Φ p k=>match pl with
  | true=>gH f ps (lC gH x) (lC gH y) α st Φ p.dec k
  | false=>.bad 2102
 | .loop x=>fun pl Yt=>ji <| ZH <| ji fun α st Φ p k=>match p with
  | .aD (σ:=σ) (ρ:=ρ) key idx n s0 sp body kk=>match uw sp.nx st.next with
   | true=>.and (sp.nv st st idx (vI 0) s0 .tt) (.and
    (.all Nat fun i=>.all σ fun s=>lC gH x pl Yt (σ ⊕ ρ) (sp.fu st idx (i:Int) s) ((key,([.g true],[decide ((i:Int) < n)=true]))::(key+1,([.g false],[(!decide ((i:Int) < n))=false]))::Φ) (body i s) (DL (fun y=>kk (.inr y)) (fun aY s'=>sp.nv st aY idx (vI (IntKind.i64.wrap ((i:Int)+1))) s' .tt) k))
    (.all Nat fun i=>.all σ fun s=>lC gH x pl Yt α (sp.fu st idx (i:Int) s) ((key,([.g false],[decide ((i:Int) < n)=false]))::(key+1,([.g true],[(!decide ((i:Int) < n))=true]))::Φ) (kk (.inl s)) fun e s Φ q=>match e with
     | .normal=>.bad 2108
     | e=>k e s Φ q))
   | false=>.bad 2110
  | .iter (σ:=σ) (ρ:=ρ) s0 sp body kk=>match uw sp.nx st.next with
   | true=>.and (sp.cC st st s0 .tt) (.all σ fun s=>lC gH x pl Yt (σ ⊕ ρ) (sp.st st s) Φ (body s) (DL kk (fun aY s'=>sp.cC st aY s' .tt) k))
   | false=>.bad 2113
  | _=>.bad 2114
variable {C:bA} {nt:Fr}
def Qg (C:bA) (nt:Fr) (c:cB) (go:CT):Prop:=∀ {α:Type} {r:α} (st:St) (Φ:zW) (p:aB α) (k:KT α) (K:Exit→St→Prop),bn Φ→p.run=some r→(go α st Φ p k).Ok →
 (∀ e s Φ q,bn Φ→q.run=some r→(k e s Φ q).Ok→K e s)→cD C nt c K st
theorem Vj {x:cB} {K:Exit→St→Prop} {st:St} (ST:St) (hn:st.next≤ST.next) (hK:K .normal ST) (hx:cD C nt x (vT (fun s=>bR s ST) K) st):cD C nt x K st:=by
 intro code hc g a w R hI
 refine Code.wpIn_mono ?_ (hx code hc g a w R hI)
 rintro e a' w' ⟨aY,g',hk,R',E'⟩
 cases e with
 | normal=>
  obtain ⟨g2,R2,C7⟩:=hk C nt g' a' w' R'
  exact ⟨ST,g2,hK,R2,C7 g st w hn E'⟩
 | _=>exact ⟨aY,g',hk,R',E'⟩
theorem jj {c:cB} {go:CT} (h:Qg C nt c go):Qg C nt c (ZH go):=by
 intro α r st Φ p k K hΦ hr hok hk
 obtain ⟨Φ1,p1,iJ,cz,h1⟩:=jb p hΦ hok hr
 split at h1
 ·rename_i β sp q kk
  split at h1
  ·rename_i hn
   obtain ⟨b,pN,mr⟩:=jy (show ui q.run (fun b=>(kk b).run)=some r from cz)
   refine Vj (sp.st st b) (ua hn) (hk _ _ _ _ iJ mr (h1.2 b)) ?_
   refine h st Φ1 q (HE sp st) _ iJ pN h1.1 ?_
   intro e s Φ2 q2 gw cy h2
   cases e with
   | normal=>
    obtain ⟨Φ3,q3,lW,eP,h3⟩:=jb q2 gw h2 cy
    split at h3
    ·cases eP;exact (Spec.gG h3).2
    ·exact h3.elim
   | _=>exact h2.elim
  ·exact h1.elim
 ·rename_i β γ sp q kk
  split at h1
  ·rename_i hn
   obtain ⟨d,iG,hd2⟩:=jy (show ui q.run (fun b=>(kk b).run)=some r from cz)
   have key:∀ (e:Exit) (s:St) (Φ2:zW) (q2:aB (β ⊕ γ)),bn Φ2→q2.run=some d→(HF sp st kk k e s Φ2 q2).Ok→(∃ b,d=.inl b∧e=.normal∧bR s (sp.st st b))∨(e≠.normal∧(∃ y,d=.inr y)∧K e s):=by
    intro e s Φ2 q2 gw cy h2
    obtain ⟨Φ3,q3,lW,eP,h3⟩:=jb q2 gw h2 cy
    split at h3
    ·split at h3
     ·rename_i b;exact .inl ⟨b,(Option.some.inj eP).symm,rfl,(Spec.gG h3).2⟩
     ·exact h3.elim
    ·rename_i hne
     split at h3
     ·rename_i y
      have:d=.inr y:=(Option.some.inj eP).symm
      subst this
      exact .inr ⟨hne,⟨y,rfl⟩,hk _ _ _ _ lW hd2 h3⟩
     ·exact h3.elim
   cases d with
   | inl b=>
    refine Vj (sp.st st b) (ua hn) (hk _ _ _ _ iJ hd2 (h1.2 b)) ?_
    refine h st Φ1 q _ _ iJ iG h1.1 ?_
    intro e s Φ2 q2 gw cy h2
    rcases key e s Φ2 q2 gw cy h2 with ⟨b',e1,rfl,e3⟩ | ⟨_,⟨y,e1⟩,_⟩
    ·cases e1;exact e3
    ·cases e1
   | inr y=>
    refine h st Φ1 q _ _ iJ iG h1.1 ?_
    intro e s Φ2 q2 gw cy h2
    rcases key e s Φ2 q2 gw cy h2 with ⟨b',e1,_,_⟩ | ⟨_,_,e3⟩
    ·cases e1
    ·exact e3
  ·exact h1.elim
 ·exact h st Φ1 p1 k K iJ cz h1 hk
theorem HH {c:cB} {K:Exit→St→Prop} {f:St→Tree}:∀ (ws:List eB) (st:St),(DK ws st f).Ok→(∀ aY,(f aY).Ok→cD C nt c K aY)→cD C nt c K st
 | [],st,h,hf=>hf st h
 | w::ws,st,h,hf=>by
  obtain ⟨h1,h2,h3⟩:=w.ok _ _ h
  exact yr h2 h3 (HH ws _ h1 hf)
theorem zU {c:cB} {go:CT} (h:Qg C nt c go):Qg C nt c (ji go):=by
 intro α r st Φ p k K hΦ hr hok hk
 obtain ⟨Φ1,p1,iJ,cz,h1⟩:=jb p hΦ hok hr
 split at h1
 ·rename_i ws q
  exact HH ws st h1 fun aY h2=>h aY Φ1 q k K iJ cz h2 hk
 ·exact h _ _ _ k K iJ cz h1 hk
theorem PU {c:cB} {go:CT} (h:Qg C nt c go):Qg C nt c (HG c go):=by
 intro α r st Φ p k K hΦ hr hc hk
 obtain ⟨Φ1,p1,iJ,cz,h1⟩:=jb p hΦ hc hr
 split at h1
 ·rename_i m kk
  have DM:ui m.x (fun b=>(kk b).run)=some r:=cz
  obtain ⟨b,hb,cy⟩:=jy DM
  exact m.ok C nt c st _ K b hb h1 fun s hs=>hk _ _ _ _ iJ cy hs
 ·exact h st Φ1 _ k K iJ cz h1 hk
theorem HI {α σ ρ:Type} {kk:ρ→aB α} {W:St→σ→Tree} {k:KT α} {o:σ ⊕ ρ} {e:Exit} {s:St} {Φ:zW} {q:aB (σ ⊕ ρ)} (hΦ:bn Φ) (hr:q.run=some o) (h:(DL kk W k e s Φ q).Ok) :
  (e=.normal∧∃ s',o=.inl s'∧(W s s').Ok)∨(e≠.normal∧∃ y Φ',o=.inr y∧bn Φ'∧(k e s Φ' (kk y)).Ok):=by
 obtain ⟨Φ3,q3,lW,eP,h3⟩:=jb q hΦ h hr
 split at h3
 ·split at h3
  ·rename_i s';exact .inl ⟨rfl,s',(Option.some.inj eP).symm,h3⟩
  ·exact h3.elim
 ·rename_i hne
  split at h3
  ·rename_i y;exact .inr ⟨hne,y,Φ3,(Option.some.inj eP).symm,lW,h3⟩
  ·exact h3.elim
def DN (C:Ctx) (c:cB) (go:GT):Prop:=∀ (ro:Option Nat) (eO:Option (Gh×St×World)) Y ym yk (pl:Bool) (Yt:YT) (nt:Fr),(pl=true→ro=none)→B6 ⟨C,ro,eO,Y,ym,yk⟩ Yt→Qg ⟨C,ro,eO,Y,ym,yk⟩ nt c (go pl Yt)
def DO (C:Ctx) (gH:bf→List Nat→GT→GT→CT):Prop:=∀ (f:bf) (ps:List Nat) (x y:cB) (gx gy:GT),DN C x gx→DN C y gy →
 ∀ (eO:Option (Gh×St×World)) Y ym yk (nt:Fr),Qg ⟨C,none,eO,Y,ym,yk⟩ nt (.range f ps x y) (gH f ps gx gy)
theorem qE {C:Ctx} {gH:bf→List Nat→GT→GT→CT} (hG:DO C gH):∀ c:cB,DN C c (lC C gH c)
 | .skip=>fun ro eO Y ym yk pl Yt nt cU hY=>zU <| jj <| zU fun st Φ p k K hΦ hr h hk=>Zy (hk _ _ _ _ hΦ hr h)
 | .region d o items ks=>fun ro eO Y ym yk pl Yt nt cU hY=>PU <| zU <| jj <| zU fun st Φ p k K hΦ hr h hk=>by
  cases d with
  | false=>exact yv (JA hY (K:=ZD ks K) (fun s Φ q h1 h2 h3=>hk _ _ _ _ h1 h2 h3) items 0 _ [] [] [] st Φ p.enter hΦ ((HD p).trans hr) h)
  | true=>exact PS (fun s Φ q h1 h2 h3=>hk _ _ _ _ h1 h2 h3) hΦ ((HD p).trans hr) h
 | .seq x y=>fun ro eO Y ym yk pl Yt nt cU hY=>zU <| jj <| zU fun st Φ p k K hΦ hr h hk=>by
  refine qk (qE hG x ro eO Y ym yk pl Yt nt cU hY st Φ p.dec _ _ hΦ ((Wp p).trans hr) h ?_)
  intro e s Φ2 q2 gw cy h2
  cases e with
  | normal=>exact qE hG y ro eO Y ym yk pl Yt nt cU hY s Φ2 q2 k K gw cy h2 hk
  | _=>exact hk _ _ _ _ gw cy h2
 | .cond c x y=>fun ro eO Y ym yk pl Yt nt cU hY=>zU <| jj <| zU fun st Φ p k K hΦ hr h hk=>by
  split at h
  ·rename_i b hc
   split at h
   ·rename_i key q hu
    have hq:=(Vg hu).trans hr
    split at h
    ·rename_i ps hf
     obtain ⟨h1,h2⟩:=h
     have hb:b=true:=by have:=hΦ _ _ hf;simp only [h1] at this;exact this.one
     exact xy b hc (fun _=>qE hG x ro eO Y ym yk pl Yt nt cU hY st Φ q k K hΦ hq h2 hk) (fun e=>by rw [hb] at e;cases e)
    ·rename_i ps hf
     obtain ⟨h1,h2⟩:=h
     have hb:b=false:=by have:=hΦ _ _ hf;simp only [h1] at this;exact this.one
     exact xy b hc (fun e=>by rw [hb] at e;cases e) (fun _=>qE hG y ro eO Y ym yk pl Yt nt cU hY st Φ q k K hΦ hq h2 hk)
    ·exact h.elim
   ·split at h
    ·exact xy true hc (fun _=>qE hG x ro eO Y ym yk pl Yt nt cU hY st Φ p k K hΦ hr h hk) (fun e=>by cases e)
    ·exact xy false hc (fun e=>by cases e) (fun _=>qE hG y ro eO Y ym yk pl Yt nt cU hY st Φ p k K hΦ hr h hk)
  ·exact h.elim
 | .block id x=>fun ro eO Y ym yk pl Yt nt cU hY=>zU <| jj <| zU fun st Φ p k K hΦ hr h hk=>by
  refine vt (qE hG x ro eO Y ym yk pl Yt nt cU hY st Φ p.dec _ _ hΦ ((Wp p).trans hr) h ?_)
  intro e s Φ2 q2 gw cy h2
  cases e with
  | exit i=>
   have h2:(match uw i id with
    | true=>k .normal s Φ2 q2
    | false=>k (.exit i) s Φ2 q2).Ok:=h2
   simp only [xR]
   cases hb:uw i id with
   | true=>rw [hb] at h2;rw [if_pos (uq hb)];exact hk _ _ _ _ gw cy h2
   | false=>
    rw [hb] at h2
    rw [if_neg (fun e=>by subst e;rw [uX] at hb;cases hb)]
    exact hk _ _ _ _ gw cy h2
  | _=>exact hk _ _ _ _ gw cy h2
 | .scope x=>fun ro eO Y ym yk pl Yt nt cU hY=>zU <| jj <| zU fun st Φ p k K hΦ hr h hk=>by
  split at h
  ·refine K9 (cU rfl) (qE hG x ro eO Y ym yk true Yt nt cU hY st Φ p.dec _ _ hΦ ((Wp p).trans hr) h ?_)
   intro e s Φ2 q2 gw cy h2
   cases e with
   | goto l=>exact h2.elim
   | _=>exact hk _ _ _ _ gw cy h2
  ·exact h.elim
 | .range f ps x y=>fun ro eO Y ym yk pl Yt nt cU hY=>zU <| jj <| zU fun st Φ p k K hΦ hr h hk=>by
  split at h
  ·have:=cU rfl
   subst this
   exact hG f ps x y _ _ (qE hG x) (qE hG y) eO Y ym yk nt st Φ p.dec k K hΦ ((Wp p).trans hr) h hk
  ·exact h.elim
 | .exit id=>fun ro eO Y ym yk pl Yt nt cU hY=>zU <| jj <| zU fun st Φ p k K hΦ hr h hk=>Jj (hk _ _ _ _ hΦ hr h)
 | .ret=>fun ro eO Y ym yk pl Yt nt cU hY=>zU <| jj <| zU fun st Φ p k K hΦ hr h hk=>Wg (hk _ _ _ _ hΦ hr h)
 | .loop x=>fun ro eO Y ym yk pl Yt nt cU hY=>zU <| jj <| zU fun {α} {r} st Φ p k K hΦ hr h hk=>by
  split at h
  ·rename_i σ ρ key idx n s0 sp body kk
   split at h
   ·rename_i nX
    have nX:sp.nx=st.next:=uq nX
    obtain ⟨h1,h2,h3⟩:=h
    obtain ⟨out,ho,hq⟩:=jy (show ui (aD n (fun i s=>(body i s).run) s0) (fun o=>(kk o).run)=some r from hr)
    refine OE ho (fun i s=>(sp.fu st idx (i:Int) s).env) (fun i s=>(sp.fu st idx (i:Int) s).heap) ?_ ?_ ?_
    ·have:=(Spec.lX (n:=((0:Nat):Int)) rfl h1).2
     simp only [Spec.fu,nX] at this ⊢
     exact this
    ·intro i s o hi hw hb
     have hst:(⟨(sp.fu st idx (i:Int) s).env,(sp.fu st idx (i:Int) s).heap,st.next⟩:St)=sp.fu st idx (i:Int) s:=by simp only [Spec.fu,nX]
     rw [hst]
     refine qE hG x ro eO Y ym yk pl Yt nt cU hY _ _ (body i s) _ _ ((hΦ.add (f:=([.g false],[(!decide ((i:Int) < n))=false])) (.cons (by rw [decide_eq_true hi];rfl) .nil)).add (f:=([.g true],[decide ((i:Int) < n)=true])) (.cons (decide_eq_true hi) .nil)) hb (h2 i s) ?_
     intro e s2 Φ2 q2 gw cy h4
     rcases HI gw cy h4 with ⟨rfl,s',rfl,h5⟩ | ⟨hne,y,Φ3,rfl,lW,h5⟩
     ·refine ⟨s',rfl,?_⟩
      have:=(Spec.lX (n:=((i+1:Nat):Int)) (by rw [hw];rfl) h5).2
      simp only [Spec.fu,nX] at this ⊢
      exact this
     ·have:∀ (K':Exit→St→Prop),(∃ y',(Sum.inr y:σ ⊕ ρ)=.inr y'∧(out=.inr y'→K e s2))→BW (fun s=>⟨(sp.fu st idx ((i+1:Nat):Int) s).env,(sp.fu st idx ((i+1:Nat):Int) s).heap,st.next⟩) K out (.inr y) e s2:=fun _ hh=>by
       cases e with
       | normal=>exact absurd rfl hne
       | _=>exact hh
      refine this K ⟨y,rfl,fun hout => ?_⟩
      subst hout
      exact hk _ _ _ _ lW hq h5
    ·intro m s hm hout
     subst hout
     have hst:(⟨(sp.fu st idx (m:Int) s).env,(sp.fu st idx (m:Int) s).heap,st.next⟩:St)=sp.fu st idx (m:Int) s:=by simp only [Spec.fu,nX]
     rw [hst]
     refine qE hG x ro eO Y ym yk pl Yt nt cU hY _ _ (kk (.inl s)) _ _ ((hΦ.add (f:=([.g true],[(!decide ((m:Int) < n))=true])) (.cons (by rw [decide_eq_false hm];rfl) .nil)).add (f:=([.g false],[decide ((m:Int) < n)=false])) (.cons (decide_eq_false hm) .nil)) hq (h3 m s) ?_
     intro e s2 Φ2 q2 gw cy h4
     cases e with
     | normal=>exact h4.elim
     | _=>exact hk _ _ _ _ gw cy h4
   ·exact h.elim
  ·rename_i σ ρ s0 sp body kk
   split at h
   ·rename_i nX
    have nX:sp.nx=st.next:=uq nX
    obtain ⟨h1,h2⟩:=h
    obtain ⟨out,ho,hq⟩:=jy (show ui (iter (fun s=>(body s).run) s0) (fun o=>(kk o).run)=some r from hr)
    have hst:∀ s,(⟨(sp.st st s).env,(sp.st st s).heap,st.next⟩:St)=sp.st st s:=fun s=>by simp only [Spec.st,nX]
    refine OH ho (fun s=>(sp.st st s).env) (fun s=>(sp.st st s).heap) ?_ ?_
    ·rw [hst];exact (Spec.gG h1).2
    ·intro s o hb
     rw [hst]
     refine qE hG x ro eO Y ym yk pl Yt nt cU hY _ _ (body s) _ _ hΦ hb (h2 s) ?_
     intro e s2 Φ2 q2 gw cy h4
     rcases HI gw cy h4 with ⟨rfl,s',rfl,h5⟩ | ⟨hne,y,Φ3,rfl,lW,h5⟩
     ·refine ⟨s',rfl,?_⟩
      show bR s2 ⟨(sp.st st s').env,(sp.st st s').heap,st.next⟩
      rw [hst];exact (Spec.gG h5).2
     ·have:(∃ y',(Sum.inr y:σ ⊕ ρ)=.inr y'∧((Sum.inr out:σ ⊕ ρ)=.inr y'→K e s2))→BW (fun s=>⟨(sp.st st s).env,(sp.st st s).heap,st.next⟩) K (.inr out) (.inr y) e s2:=fun hh=>by
       cases e with
       | normal=>exact absurd rfl hne
       | _=>exact hh
      refine this ⟨y,rfl,fun hout => ?_⟩
      cases hout
      exact hk _ _ _ _ lW hq h5
   ·exact h.elim
  ·exact h.elim
end
section
def Wq (n:Nat):Nat:=Nat.shiftLeft 1 n
def HJ (m n:Nat):Bool:=uw (Nat.land 1 (Nat.shiftRight m n)) 1
def QK:bf→Nat
 | .t n=>Wq n
 | .c _=>0
 | .m n _=>Wq n
def Vk:List bf→Nat
 | []=>0
 | x::r=>ue (QK x) (Vk r)
def Km (it:aM):Nat:=match it.guard with
 | none=>Vk (qg it.op)
 | some (t,_)=>ue (Wq t) (Vk (qg it.op))
def PV (m n:Nat):Nat:=match HJ m n with
 | true=>Nat.sub m (Wq n)
 | false=>m
def XA (out:Nat):List aM→Nat
 | []=>out
 | it::rest=>match it.guard,it.dst with
  | none,some d=>ue (Km it) (PV (XA out rest) d)
  | _,_=>ue (Km it) (XA out rest)
def HK:List aM→Nat
 | []=>0
 | it::rest=>ue (Km it) (HK rest)
def wY:cB→Nat
 | .region _ _ items _=>HK items
 | .seq x y=>ue (wY x) (wY y)
 | .cond c x y=>ue (QK c) (ue (wY x) (wY y))
 | .block _ x | .loop x | .scope x=>wY x
 | .range f _ x y=>ue (QK f) (ue (wY x) (wY y))
 | _=>0
def HM (ex:List (Nat×Nat)) (id:Nat):Nat:=match ex with
 | []=>0
 | (k,v)::r=>match uw k id with
  | true=>v
  | false=>HM r id
def Ca:List (Nat×Nat)→Nat
 | []=>0
 | (_,v)::r=>ue v (Ca r)
def Vl (ret:Nat):cB→Nat→List (Nat×Nat)→Nat
 | .skip,out,_=>out
 | .region _ _ items _,out,_=>XA out items
 | .seq x y,out,ex=>Vl ret x (Vl ret y out ex) ex
 | .cond c x y,out,ex=>ue (QK c) (ue (Vl ret x out ex) (Vl ret y out ex))
 | .block id x,out,ex=>Vl ret x out ((id,out)::ex)
 | .loop x,out,ex=>ue ret (ue (wY x) (Ca ex))
 | .scope x,out,ex=>Vl ret x out ex
 | .exit id,_,ex=>HM ex id
 | .ret,_,_=>ret
 | .range f _ x y,out,ex=>ue (ue ret out) (ue (QK f) (ue (ue (wY x) (wY y)) (Ca ex)))
def Vm (m:Nat):Nat→List Nat
 | 0=>[]
 | n+1=>match HJ m n with
  | true=>n::Vm m n
  | false=>Vm m n
def fH (nt ret:Nat):cB→Nat→List (Nat×Nat)→cB
 | .skip,_,_=>.skip
 | .region d o items _,out,_=>.region d o items (some (Vm out nt))
 | .seq x y,out,ex=>.seq (fH nt ret x (Vl ret y out ex) ex) (fH nt ret y out ex)
 | .cond c x y,out,ex=>.cond c (fH nt ret x out ex) (fH nt ret y out ex)
 | .block id x,out,ex=>.block id (fH nt ret x out ((id,out)::ex))
 | .loop x,out,ex=>.loop (fH nt ret x (ue ret (ue (wY x) (Ca ex))) ex)
 | .scope x,out,ex=>.scope (fH nt ret x out ex)
 | .exit id,_,_=>.exit id
 | .ret,_,_=>.ret
 | .range f ps x y,out,ex=>.range f ps (fH nt ret x (wY y) ex) (fH nt ret y 0 ex)
theorem jL (nt ret:Nat):∀ (c:cB) (out:Nat) (ex:List (Nat×Nat)),(fH nt ret c out ex).erase=c.erase
 | .skip,_,_=>rfl
 | .region _ _ _ _,_,_=>rfl
 | .seq x y,out,ex=>by simp only [fH,cB.erase,jL nt ret x,jL nt ret y]
 | .cond c x y,out,ex=>by simp only [fH,cB.erase,jL nt ret x,jL nt ret y]
 | .block id x,out,ex=>by simp only [fH,cB.erase,jL nt ret x]
 | .loop x,out,ex=>by simp only [fH,cB.erase,jL nt ret x]
 | .scope x,out,ex=>by simp only [fH,cB.erase,jL nt ret x]
 | .exit id,_,_=>rfl
 | .ret,_,_=>rfl
 | .range f ps x y,out,ex=>by simp only [fH,cB.erase,jL nt ret x,jL nt ret y]
theorem jk (C:Ctx) (nt:Nat):∀ (code:Code) (ac:cB),comp C nt code=some ac→ac.erase=ac
 | .skip,ac,h=>by simp only [comp] at h;cases h;rfl
 | .region _ ops draw,ac,h=>by
  simp only [comp] at h
  split at h
  ·split at h
   ·split at h
    ·cases h;rfl
    ·cases h
   ·cases h;rfl
  ·cases h
 | .seq a b,ac,h=>by
  simp only [comp] at h
  split at h
  ·rename_i x y hx hy;cases h;simp only [cB.erase,jk C nt a x hx,jk C nt b y hy]
  ·cases h
 | .cond c a b,ac,h=>by
  simp only [comp] at h
  split at h
  ·rename_i x y hx hy;cases h;simp only [cB.erase,jk C nt a x hx,jk C nt b y hy]
  ·cases h
 | .block id a,ac,h=>by
  simp only [comp] at h
  split at h
  ·rename_i x hx;cases h;simp only [cB.erase,jk C nt a x hx]
  ·cases h
 | .loop a,ac,h=>by
  simp only [comp] at h
  split at h
  ·rename_i x hx;cases h;simp only [cB.erase,jk C nt a x hx]
  ·cases h
 | .scope a,ac,h=>by
  simp only [comp] at h
  split at h
  ·rename_i x hx;cases h;simp only [cB.erase,jk C nt a x hx]
  ·cases h
 | .label _,ac,h=>by simp only [comp] at h;cases h;rfl
 | .exit id,ac,h=>by simp only [comp] at h;cases h;rfl
 | .ret,ac,h=>by simp only [comp] at h;cases h;rfl
 | .rangeFunc _ ps a b,ac,h=>by
  simp only [comp] at h
  split at h
  ·split at h
   ·rename_i x y hx hy;cases h;simp only [cB.erase,jk C nt a x hx,jk C nt b y hy]
   ·cases h
  ·cases h
 | .goto _,ac,h=>by simp only [comp] at h;cases h
 | .refuse _,ac,h=>by simp only [comp] at h;cases h
theorem PW {C:Ctx} {f:Nat} {F:dz} (h:qr C f=some F):F.erase=F:=by
 unfold qr at h
 split at h
 ·split at h
  ·split at h
   ·rename_i ac rs hac rZ
    split at h
    ·cases h
    ·cases h;simp only [dz.erase,jk C _ _ _ hac]
   ·cases h
  ·cases h
 ·cases h
def Wr:List dD→Nat
 | []=>0
 | .tmp t::r=>ue (Wq t) (Wr r)
 | .cell t _ _::r=>ue (Wq t) (Wr r)
def dz.fH (F:dz):dz:={F with body:=Go.Proofs.YtlpmnmbebkdocaaGreatDoor.fH F.nt (Wr F.results) F.body (Wr F.results) []}
theorem Vn {C:Ctx} {f:Nat} {F:dz} (h:qr C f=some F):qr C f=some F.fH.erase:=by
 rw [h]
 have:=PW h
 simp only [dz.erase] at this
 simp only [dz.fH,dz.erase,jL]
 rw [this]
def HN:bf→List Nat→GT→GT→CT:=fun _ _ _ _ _ _ _ _ _=>.bad 3161
theorem PX (C:Ctx):DO C HN:=fun _ _ _ _ _ _ _ _ _ _ _ _ _ {_} {_} _ _ _ _ _ _ _ h _=>h.elim
def Yg (o:Option aF) (o':aF) (t:Tree):Tree:=match o with
 | some x=>.eq aF x o' t
 | none=>.bad 3167
theorem Vo {o:Option aF} {o':aF} {t:Tree} (h:(Yg o o' t).Ok):o=some o'∧t.Ok:=by
 unfold Yg at h
 split at h
 ·obtain ⟨rfl,h2⟩:=h;exact ⟨rfl,h2⟩
 ·exact h.elim
noncomputable def PY {α:Type} (dJ L:Nat) (R:LoopState→Option Code→Loop) (k:AV→List (Nat×aF)→Nat→zW→aB α→Tree):KT α:=fun e s Φ q=>Yg (za s.heap dJ) (.lp L R .busy none) (match e with
 | .normal=>k (.ak (.bool true)) (zk s.heap dJ (.lp L R .ready none)) (s.next+1) Φ q
 | .ret=>k (.ak (.bool false)) (zk s.heap dJ (.lp L R .done (some .ret))) (s.next+1) Φ q
 | .exit id=>k (.ak (.bool false)) (zk s.heap dJ (.lp L R .done (some (.exit id)))) (s.next+1) Φ q
 | _=>.bad 3178)
noncomputable def HO (env:List (Nat×AV)) (dJ L:Nat) (R:LoopState→Option Code→Loop) (ps:List Nat) (gx gy:GT):YT:=fun l id args heap next α Φ p k=>
 .eq (Nat×Nat) (l,id) (L,dJ) (match uw args.length ps.length with
  | true=>Yg (za heap dJ) (.lp L R .ready none) (gx false rF α ⟨B4 ps args env,heap,next⟩ Φ p fun e s Φ q=>match e with
   | .normal=>Yg (za s.heap dJ) (.lp L R .ready none) (gy false rF α ⟨s.env,zk s.heap dJ (.lp L R .busy none),s.next+1⟩ Φ q (PY dJ L R k))
   | _=>.bad 3183)
  | false=>.bad 3184)
noncomputable def Cb {α:Type} (env:List (Nat×AV)) (dJ L:Nat) (R:LoopState→Option Code→Loop) (rs:List dD) (k:KT α) (s:St) (Φ:zW) (q:aB α):Tree:=match jd rs s with
 | some _=>match za s.heap dJ with
  | some (.lp L' R' .ready none)=>.eq aF (.lp L' R' .ready none) (.lp L R .ready none) (k .normal ⟨env,zk s.heap dJ (.lp L R .exhausted none),s.next+1⟩ Φ q)
  | some (.lp L' R' .done (some .ret))=>.eq aF (.lp L' R' .done (some .ret)) (.lp L R .done (some .ret)) (k .ret ⟨env,zk s.heap dJ (.lp L R .exhausted (some .ret)),s.next+1⟩ Φ q)
  | some (.lp L' R' .done (some (.exit id)))=>.eq aF (.lp L' R' .done (some (.exit id))) (.lp L R .done (some (.exit id))) (k (.exit id) ⟨env,zk s.heap dJ (.lp L R .exhausted (some (.exit id))),s.next+1⟩ Φ q)
  | _=>.bad 3190
 | none=>.bad 3191
noncomputable def DP (C:Ctx):bf→List Nat→GT→GT→CT:=fun f ps gx gy α st Φ p k=>match zd st.env f with
 | .func gf [] bq=>match qr C gf with
  | some F=>match uH (bq.length+1) F.nt with
   | true=>.all Nat fun L=>.all (LoopState→Option Code→Loop) fun R=>lC C HN F.fH.body true (HO st.env st.next L R ps gx gy) α ⟨jn 0 (.eE L st.next::bq),zk st.heap st.next (.lp L R .ready none),st.next+1⟩ Φ p fun e s Φ q=>match e with
    | .ret=>Cb st.env st.next L R F.results k s Φ q
    | .normal=>Cb st.env st.next L R F.results k s Φ q
    | _=>.bad 3198
   | false=>.bad 3199
  | none=>.bad 3200
 | _=>.bad 3201
theorem HP {α:Type} {env:List (Nat×AV)} {dJ L:Nat} {R:LoopState→Option Code→Loop} {rs:List dD} {k:KT α} {s:St} {Φ:zW} {q:aB α} {K:Exit→St→Prop} (h:(Cb env dJ L R rs k s Φ q).Ok) (hk:∀ e s,(k e s Φ q).Ok→K e s) :
  ∃ r,jd rs s=some r∧Hg env dJ L R K s.heap s.next:=by
 unfold Cb at h
 split at h
 ·rename_i r hr
  refine ⟨r,hr,?_⟩
  split at h
  ·rename_i ho;obtain ⟨h1,h2⟩:=h;rw [h1] at ho;exact .inl ⟨ho,hk _ _ h2⟩
  ·rename_i ho;obtain ⟨h1,h2⟩:=h;rw [h1] at ho;exact .inr (.inl ⟨ho,hk _ _ h2⟩)
  ·rename_i id ho;obtain ⟨h1,h2⟩:=h;rw [h1] at ho;exact .inr (.inr ⟨id,ho,hk _ _ h2⟩)
  ·exact h.elim
 ·exact h.elim
theorem HQ (C:Ctx):DO C (DP C):=by
 intro f ps x y gx gy hx hy eO Y ym yk nt α r st Φ p k K hΦ hr h hk
 unfold DP at h
 split at h
 ·rename_i gf bq hf
  split at h
  ·rename_i F hF
   split at h
   ·rename_i hn
    refine PB (C:=⟨C,none,eO,Y,ym,yk⟩) rfl hf (F:=F.fH) (Vn hF) (ua hn) ?_
    intro L R A2 HR HT B
    have PZ:B6 ⟨C,none,A2,QJ ⟨C,none,eO,Y,ym,yk⟩ nt st.env st.next L R ps x y,HR,HT⟩ (HO st.env st.next L R ps gx gy):=by
     intro l id args heap next β Ψ q kk r' KK hΨ hr' h1 hkk
     obtain ⟨e1,h2⟩:=h1
     cases e1
     split at h2
     ·rename_i hlen
      obtain ⟨e2,h3⟩:=Vo h2
      refine ⟨rfl,rfl,uq hlen,e2,?_⟩
      refine hx (some L) none tL _ _ false rF nt (fun h=>by cases h) (Yd _) _ Ψ q _ _ hΨ hr' h3 ?_
      intro e s Ψ2 q2 P0 cy h4
      cases e with
      | normal=>
       obtain ⟨e3,h5⟩:=Vo h4
       refine ⟨e3,?_⟩
       refine hy (some L) none tL _ _ false rF nt (fun h=>by cases h) (Yd _) _ Ψ2 q2 _ _ P0 cy h5 ?_
       intro e s3 Ψ3 q3 DQ eP h6
       obtain ⟨e4,h7⟩:=Vo h6
       cases e with
       | normal=>exact ⟨e4,hkk _ _ _ _ _ DQ eP h7⟩
       | ret=>exact ⟨e4,hkk _ _ _ _ _ DQ eP h7⟩
       | exit id=>exact ⟨e4,hkk _ _ _ _ _ DQ eP h7⟩
       | _=>exact h7.elim
      | _=>exact h4.elim
     ·exact h2.elim
    refine qE (PX C) F.fH.body none A2 _ HR HT true _ ⟨F.fH.nt,B⟩ (fun _=>rfl) PZ _ Φ p _ _ hΦ hr (h L R) ?_
    intro e s Φ2 q2 gw cy h2
    cases e with
    | ret=>obtain ⟨r2,h3,h4⟩:=HP (K:=K) h2 (fun e s h=>hk e s _ _ gw cy h);exact ⟨.inl rfl,r2,h3,h4⟩
    | normal=>obtain ⟨r2,h3,h4⟩:=HP (K:=K) h2 (fun e s h=>hk e s _ _ gw cy h);exact ⟨.inr rfl,r2,h3,h4⟩
    | _=>exact h2.elim
   ·exact h.elim
  ·exact h.elim
 ·exact h.elim
variable (C:Ctx)
noncomputable def QL {α:Type} (f:Nat) (args:List AV) (heap:List (Nat×aF)) (m:Nat) (p:aB α) (DR:List dD→KT α):Tree:=match qr C f with
 | some F=>match uH args.length F.nt with
  | true=>lC C (DP C) F.fH.body true rF α ⟨jn 0 args,heap,m⟩ [] p (DR F.results)
  | false=>.bad 3266
 | none=>.bad 3267
noncomputable def Cc {α:Type} (iv:α→IV) (rs:List dD) (s:St):aB α→Tree
 | .ret a=>.eq (Option IV) ((jd rs s).bind (zD (za s.heap) 5)) (some (iv a)) .tt
 | .fin ids V bX x h a=>match xA s.heap ids with
  | some rG=>.eq (List (Nat×aF)) rG bX (.eq (Option AV) (jd rs s) (some V) (.eq IV x (iv a) .tt))
  | Option.none=>.bad 3273
 | _=>.bad 3274
noncomputable def HU {α:Type} (iv:α→IV) (rs:List dD):KT α:=fun e s Φ q=>settle q Φ fun Φ q=>match e with
 | .ret=>Cc iv rs s q
 | .normal=>Cc iv rs s q
 | _=>.bad 3278
noncomputable def Cd {α:Type} (R:α→AV) (H:α→List (Nat×aF)) (n:Nat) (rs:List dD) (s:St):aB α→Tree
 | .ret a=>match jd rs s with
  | some x=>.eq AV x (R a) (JB n [(0,R a)] [] (H a) [] ⟨[(0,R a)],s.heap,s.next⟩ .tt)
  | Option.none=>.bad 3283
 | .sJ x y h a=>match jd rs s with
  | some x'=>.eq AV x' x (.eq AV y (R a) (JB n [(0,R a)] [] (H a) [] ⟨[(0,R a)],s.heap,s.next⟩ .tt))
  | Option.none=>.bad 3286
 | _=>.bad 3287
noncomputable def HV {α:Type} (R:α→AV) (H:α→List (Nat×aF)) (n:Nat) (rs:List dD):KT α:=fun e s Φ q=>settle q Φ fun Φ q=>match e with
 | .ret=>Cd R H n rs s q
 | .normal=>Cd R H n rs s q
 | _=>.bad 3291
variable {C:Ctx}
theorem HW {α:Type} {iv:α→IV} {rs:List dD} {s:St} {q:aB α} {r:α} (hr:q.run=some r) (h:(Cc iv rs s q).Ok):Jp (Xp 5 (iv r)) s.heap s.next (jd rs s):=by
 unfold Cc at h
 split at h
 ·cases hr
  have h1:=h.1
  cases h2:jd rs s with
  | none=>rw [h2] at h1;cases h1
  | some x=>rw [h2] at h1;exact h1
 ·rename_i ids V bX x hs a
  cases hr
  split at h
  ·rename_i rG ho
   obtain ⟨rfl,h2,rfl,_⟩:=h
   rw [h2]
   have:=Js (Jt ho) hs
   simp only [aL] at this
   split at this
   ·rename_i b hb;cases this;exact hb
   ·cases this
  ·exact h.elim
 ·exact h.elim
theorem aB.pure {f:Nat} {α:Type} {args:List IV} {iv:α→IV} (p:aB α) (h:QL C f (args.map .ak) [] 0 p (HU iv)=(QL C f (args.map .ak) [] 0 p (HU iv)).norm) {r:α} (hr:p.run=some r):aJ C f args (iv r):=by
 have hk:=Tree.ok h
 unfold QL at hk
 split at hk
 ·rename_i F hF
  split at hk
  ·rename_i hn
   refine aJ.start (F:=F.fH) (Vn hF) 5 (by have:=ua hn;rw [uo] at this;exact this) (fun B => ?_)
   refine qE (HQ C) F.fH.body Option.none Option.none tL _ _ true rF _ (fun _=>rfl) (Yd _) _ [] p _ _ (fun k f hf=>by cases hf) hr hk ?_
   intro e s Φ q hΦ cy h2
   obtain ⟨Φ3,q3,lW,eP,h3⟩:=jb q hΦ h2 cy
   cases e with
   | ret=>exact HW eP h3
   | normal=>exact HW eP h3
   | _=>exact h3.elim
  ·exact hk.elim
 ·exact hk.elim
theorem HX {α:Type} {R:α→AV} {H:α→List (Nat×aF)} {n:Nat} (hb:∀ a,cA n (H a)) {rs:List dD} {s:St} {q:aB α} {r:α} (hr:q.run=some r) (h:(Cd R H n rs s q).Ok):∃ x,jd rs s=some x∧bR ⟨[(0,x)],s.heap,s.next⟩ ⟨[(0,R r)],H r,n⟩:=by
 unfold Cd at h
 split at h
 ·cases hr
  split at h
  ·rename_i x hx
   obtain ⟨rfl,h1⟩:=h
   have:=(Vi (o:=Option.none) (t:=.tt) (hb _) h1).2
   simp only [ux,uS,Jy] at this
   exact ⟨_,hx,this⟩
  ·exact h.elim
 ·rename_i x y hl a
  cases hr
  split at h
  ·rename_i x' hx
   obtain ⟨rfl,rfl,h1⟩:=h
   have hn:n≤s.next:=by
    unfold JB at h1
    split at h1
    ·rename_i hn;exact ua hn
    ·exact h1.elim
   have:=(Vi (o:=Option.none) (t:=.tt) (hb _) h1).2
   simp only [ux,uS,Jy] at this
   exact ⟨_,hx,(Pr hl).andThen this hn⟩
  ·exact h.elim
 ·exact h.elim
theorem aB.dB {f:Nat} {α:Type} {args:List AV} {heap:List (Nat×aF)} {m d:Nat} {R:α→AV} {H:α→List (Nat×aF)} (p:aB α) (b0:cA m heap) (b1:∀ a,cA (m+d) (H a)) (k0:(args.all (zZ m)&&Wo m heap)=true) (k1:∀ a,(zZ (m+d) (R a)&&Wo m (H a))=true)
  (h:QL C f args heap m p (HV R H (m+d))=(QL C f args heap m p (HV R H (m+d))).norm) {r:α} (hr:p.run=some r):dm C f args heap m (R r) (H r) d:=by
 have hk:=Tree.ok h
 have k0:=k0;rw [uc] at k0
 have k1:=k1 r;rw [uc] at k1
 unfold QL at hk
 split at hk
 ·rename_i F hF
  split at hk
  ·rename_i hn
   refine dm.start (F:=F.fH) (Vn hF) (ua hn) b0 (b1 r) k0.1 k1.1 k0.2 k1.2 (fun B => ?_)
   refine qE (HQ C) F.fH.body Option.none Option.none tL _ _ true rF _ (fun _=>rfl) (Yd _) _ [] p _ _ (fun k f hf=>by cases hf) hr hk ?_
   intro e s Φ q hΦ cy h2
   obtain ⟨Φ3,q3,lW,eP,h3⟩:=jb q hΦ h2 cy
   cases e with
   | ret=>exact HX b1 eP h3
   | normal=>exact HX b1 eP h3
   | _=>exact h3.elim
  ·exact hk.elim
 ·exact hk.elim
end
section
section
variable {α β:Type}
def aB.us:List (Nat×Nat)→aB α→aB α
 | [],p=>p
 | (j,k)::l,p=>.use j k (aB.us l p)
abbrev aB.sel (key:Nat) (p:aB α):aB α:=.use 999 key p
theorem bn.c1 {key:Nat} {o:List eS} {p:Prop} (h:p) {Φ:zW} (t:bn Φ):bn ((key,(o,[p]))::Φ):=t.add (.cons h .nil)
theorem bn.c2 {key:Nat} {o:List eS} {p q:Prop} (h:p) (h':q) {Φ:zW} (t:bn Φ):bn ((key,(o,[p,q]))::Φ):=t.add (.cons h (.cons h' .nil))
abbrev aB.b1 (key:Nat) (x:Option β) (o:β→eS) {p:β→Prop} (h:∀ v,x=some v→p v) (k:β→aB α):aB α:=
 .bind x (fun v=>[(key,([o v],[p v]))]) (fun v hv=>.c1 (h v hv) .nil) k
abbrev aB.u1 (j key:Nat) (x:Option β) (o:β→eS) {p:β→Prop} (h:∀ v,x=some v→p v) (k:β→aB α):aB α:=
 .bind x (fun v=>[(key,([o v],[p v]))]) (fun v hv=>.c1 (h v hv) .nil) fun v=>.use j key (k v)
abbrev aB.f1 (key:Nat) (o:eS) {p:Prop} (h:p) (q:aB α):aB α:=.fact key [o] [p] (.cons h .nil) q
abbrev aB.ix (key:Nat) (row:β→List IV) (l:List β) (n:Int) (k:β→aB α):aB α:=
 aB.b1 key (ze l n) (fun e=>.r (row e)) (fun e h=>O1 row h) k
abbrev aB.ln (key:Nat) (row:β→List IV) (l:List β) (q:aB α):aB α:=aB.f1 key (.n (l.length:Int)) (O0 row l) q
abbrev aB.call {C:Ctx} {f:Nat} {dA:List IV} {x:Option β} {iv:β→IV} (key:Nat) (t:∀ r,x=some r→aJ C f dA (iv r)) (k:β→aB α):aB α:=
 aB.b1 key x (fun r=>.v (iv r)) t k
abbrev Spec.e {β:Type} (ks:List Nat) (ov:β→List (Nat×AV)) (hs:List Nat) (nx:Nat):Spec β:=⟨ks,ov,hs,fun _=>[],nx,fun _=>.nil,fun _=>Option.none⟩
end
def DS (P:Prop) (t:Tree):List Prop→Tree
 | []=>t
 | p::r=>.eq Prop p P (DS P t r)
theorem HZ {P:Prop} (hP:P) {t:Tree}:∀ {l:List Prop},(DS P t l).Ok→t.Ok∧cL l
 | [],h=>⟨h,.nil⟩
 | p::r,h=>by
  obtain ⟨rfl,h2⟩:=h
  obtain ⟨h3,h4⟩:=HZ hP h2
  exact ⟨h3,.cons hP h4⟩
def H6 (id sz len:Nat) (all af:List (List IV)) (ks:List Nat) (iI:List (List AV)) (hrows:all.map (fun r=>r.map AV.ak)=iI) (hD:(all.drop 0).take len=af):eB where
 to st:=⟨Kj id af st.env,Jw id af ks st.heap,st.next⟩
 T st t:=.eq (Option aF) (za st.heap id) (some (.af sz iI)) (DS (0=0∧len=len) t (Ki id 0 len st.env++Vf id 0 len ks st.heap))
 ok st t h:=by
  obtain ⟨h1,h2⟩:=h
  obtain ⟨h3,h4⟩:=HZ ⟨rfl,rfl⟩ h2
  exact ⟨h3,WW id sz 0 len all af ks iI h1 hrows hD h4,un _⟩
abbrev DT {α:Type} (id sz:Nat) (ks:List Nat) (f:α→List IV) (l:List α):eB:=H6 id sz l.length (l.map f) (l.map f) ks (zc f l) (kx f l) (G7 f l)
abbrev P1 {α:Type} (id sz:Nat) (ks:List Nat) (f:α→List IV) (l:List α) (n:Nat):eB:=H6 id sz n (l.map f) ((l.take n).map f) ks (zc f l) (kx f l) (Ph f l n)
def P2 {α:Type} (id sz k:Nat) (row:List AV) (f:α→List IV) (z:α) (hle:eA row (zt (f z))):eB where
 to st:=⟨st.env,zk st.heap id (.af sz (zc f (ub k z))),st.next⟩
 T st t:=.eq (Option aF) (za st.heap id) (some (.af sz (ub k row))) t
 ok st t h:=⟨h.2,Pj id sz k row f z h.1 hle,un _⟩
def P3 (id sz:Nat) (l m:List (List AV)) (hle:dV l m):eB where
 to st:=⟨st.env,zk st.heap id (.af sz m),st.next⟩
 T st t:=.eq (Option aF) (za st.heap id) (some (.af sz l)) t
 ok st t h:=⟨h.2,G8 id sz l m h.1 hle,un _⟩
def DU (t0 sz:Nat):eB where
 to st:={env:=zk st.env t0 (.aS st.next []),heap:=zo st.heap st.next (.aT sz 0),next:=st.next+1}
 T st t:=.eq (Option AV) (za st.env t0) (some .nil) t
 ok st t h:=⟨h.2,Ob h.1,uK _⟩
def Qh (id sz' r j:Nat):eB where
 to st:=match za st.heap id with
  | some (.af sz af)=>⟨st.env,zk (zo st.heap st.next (.aT sz' 0)) id (.af sz (af.set r ((af.getD r []).set j (.aS st.next [])))),st.next+1⟩
  | _=>st
 T st t:=match za st.heap id with
  | some (.af sz af)=>match af[r]? with
   | some row=>.eq (Option AV) row[j]? (some .nil) t
   | none=>.bad 4074
  | _=>.bad 4075
 ok st t h:=by
  split at h
  ·rename_i sz af ho
   split at h
   ·rename_i row hr
    obtain ⟨h1,h2⟩:=h
    simp only [ho]
    have:af.getD r []=row:=by rw [uD,hr];rfl
    rw [this]
    exact ⟨h2,G9 id sz sz' af r j row ho hr h1,uK _⟩
   ·exact h.elim
  ·exact h.elim
def P5 {α:Type} (t id r j i sz':Nat) (f:α→List IV) (l:List α):eB where
 to st:=match za st.heap id with
  | some (.af sz af)=>⟨st.env,zk (zk (zo st.heap st.next (.aT sz' l.length)) i .dead) id (.af sz (af.set r ((af.getD r []).set j (.aS st.next (l.map f))))),st.next+1⟩
  | _=>st
 T st tr:=match za st.env t with
  | some (.ptr id' a0 b0)=>.eq Nat id' id (match za st.heap id with
   | some (.af sz af)=>match af[r]? with
    | some row=>.eq (Option AV) row[j]? (some (.Zai i 0 l.length)) (.eq (Option aF) (za st.heap i) (some (.af sz' (zc f l))) (match uw i id with
     | true=>.bad 4098
     | false=>tr))
    | none=>.bad 4100
   | _=>.bad 4101)
  | _=>.bad 4102
 ok st tr h:=by
  split at h
  ·rename_i id' a0 b0 ht
   obtain ⟨h0,h⟩:=h
   subst h0
   split at h
   ·rename_i sz af ho
    split at h
    ·rename_i row hr
     obtain ⟨h1,h2,h3⟩:=h
     split at h3
     ·exact h3.elim
     ·rename_i hne
      simp only [ho]
      have:af.getD r []=row:=by rw [uD,hr];rfl
      rw [this]
      have hw:=Pv (st:=st) t a0 b0 id' sz i sz' af r j row (l.map f) ht ho hr (by rw [h1,uo]) (by rw [h2,kx]) (fun e=>by subst e;rw [uX] at hne;cases hne)
      rw [uo] at hw
      exact ⟨h3,hw,uK _⟩
    ·exact h.elim
   ·exact h.elim
  ·exact h.elim
def H7 {α:Type} (t i sz':Nat) (f:α→List IV) (l:List α):eB where
 to st:=⟨zk st.env t (.aS st.next (l.map f)),zk (zo st.heap st.next (.aT sz' l.length)) i .dead,st.next+1⟩
 T st tr:=.eq (Option AV) (za st.env t) (some (.Zai i 0 l.length)) (.eq (Option aF) (za st.heap i) (some (.af sz' (zc f l))) tr)
 ok st tr h:=by
  obtain ⟨h1,h2,h3⟩:=h
  have hw:=Px (st:=st) t i sz' (l.map f) (by rw [h1,uo]) (by rw [h2,kx])
  rw [uo] at hw
  exact ⟨h3,hw,uK _⟩
def dH (a b:Nat):Option (PLift (a=b)):=if h:a=b then some ⟨h⟩ else none
theorem aB.aC {α:Type} {p:aB α} {d:Option α} {r:α} (h:d=some r) (e:d=p.run):p.run=some r:=e ▸ h
end
def P6 (P n:Nat):eB where
 to st:=⟨st.env,zk st.heap P (.af 1 (qz zE (ub n [])))++xY (ub n []),2000000⟩
 T st t:=.eq (Option aF) (za st.heap P) (some (.af 1 (ub n [.nil]))) (match uH st.next qY with
  | true=>t
  | false=>.bad 5015)
 ok st t h:=by
  obtain ⟨h1,h2⟩:=h
  split at h2
  ·rename_i hn
   have hn:=ua hn
   have hm:qY=999999:=rfl
   exact ⟨h2,PM P n h1 hn,by show st.next≤2000000;omega⟩
  ·exact h2.elim
def vD (Ls:List (List Int)) (n:Nat) (to i:Int):Option (List (List Int)):=
 if 0≤to∧to < n∧to < 1000000 then match Ls[to.toNat]? with
  | some L=>if (L.length+1)*8≤140737488355328 then some (Ls.set to.toNat (L++[i])) else none
  | none=>none
 else none
def kz:List aM:=[⟨some 65,.dl (.t 8),none⟩,⟨some 66,.nS 1 (.t 13),none⟩,⟨some 67,.load false 1 (.t 66),none⟩,⟨some 68,.dl (.t 8),none⟩,⟨some 69,.nS 1 (.t 13),none⟩,⟨some 70,.load false 1 (.t 69),none⟩,
 ⟨some 71,.idx 1 (.t 68) (.t 70),none⟩,⟨some 72,.load false 1 (.t 71),none⟩,⟨some 73,.dl (.t 10),none⟩,⟨some 74,.cY 1 [.ak (.int .i64 0)] 1 [(0,.t 73)],none⟩,⟨some 75,.app 1 8 (.t 72) (.t 74),none⟩,⟨some 76,.idx 1 (.t 65) (.t 67),none⟩,⟨none,.store 1 (.t 76) (.t 75),none⟩]
def QM:List Nat:=[0,0,2,0,0,16,56,120,0,256,1016,2047,4095]
def P7 (ks:List Nat):cB:=.region true QM kz (some ks)
def QN (st:St) (ks:List Nat) (P:Nat) (Ls:List (List Int)):St:=⟨qG (ks.filter fun k=>uM k 65) st.env,zk (ZG st.heap) P (.af 1 (qz zE Ls))++xY Ls,st.next+13⟩
theorem xk {C:bA} {ord:List Nat} {K:St→Prop} {dst:Option Nat} {op:cP} {rest:List aM} {j:Nat} {W R:List (Nat×Nat)} {st:St} (r:AV) (aN:List (Nat×aF)) (hc:(match op with | .call _ _=>true | _=>false)=false)
  (he:ai op (zd st.env) (za st.heap) st.next=some (r,aN)) (hk:xj ord j W R (z8 aN) (zj op (zd st.env))=true)
  (hn:lB C ord K rest (j+1) (q7 j (z8 aN) W) (q7 j (zj op (zd st.env)) R) (St.after st dst r aN)):lB C ord K (⟨dst,op,none⟩::rest) j W R st:=by
 rw [Gg,Gi]
 have e:∀ KD,dZ C KD st op=qv KD (zj op (zd st.env)) (ai op (zd st.env) (za st.heap) st.next):=fun KD=>by
  cases op<;>first | rfl | exact Bool.noConfusion hc
 rw [e,he]
 exact ⟨hk,hn⟩
theorem QB (ks:List Nat):∀ (env:List (Nat×AV)) (t:Nat),za (qG ks env) t=if ks.contains t then za env t else none
 | [],t=>by simp [qG,za]
 | (k,v)::r,t=>by
  have ih:=QB ks r t
  simp only [qG,List.filter_cons] at ih ⊢
  by_cases hk:ks.contains k=true
  ·rw [if_pos hk]
   simp only [za]
   by_cases e:k=t
   ·subst e;rw [if_pos rfl,if_pos rfl,if_pos hk]
   ·rw [if_neg e,if_neg e];exact ih
  ·rw [if_neg hk,ih]
   by_cases e:k=t
   ·subst e;rw [if_neg hk,if_neg hk]
   ·simp only [za];rw [if_neg e]
set_option maxHeartbeats 1000000 in
theorem P8 {C:bA} {nt:Fr} {st:St} {P n M:Nat} {i to:Int} {a:AV} {Ls H8:List (List Int)} {ks:List Nat} {K:Exit→St→Prop}
  (e8:za st.env 8=some (.Zai P 0 n)) (sM:za st.env 13=some (.ptr M 0 0)) (dW:za st.env 10=some (vI i)) (hN:oD st.heap P Ls) (hM:za st.heap M=some (.af 2 [[a,vI to]]))
  (hlt:∀ j o,za st.heap j=some o→j < st.next) (ha:vD Ls n to i=some H8) (h:K .normal (QN st ks P H8)):cD C nt (P7 ks) K st:=by
 obtain ⟨env,heap,N⟩:=st
 simp only at e8 sM dW hN hM hlt
 unfold vD at ha
 split at ha
 case isFalse=>cases ha
 rename_i hto
 obtain ⟨t0,t1,t2⟩:=hto
 split at ha
 case h_2=>cases ha
 rename_i L hL
 split at ha
 case isFalse=>cases ha
 rename_i hsz
 cases ha
 obtain ⟨k,hk⟩:∃ k:Nat,to=(k:Int):=⟨to.toNat,by omega⟩
 subst hk
 simp only [Int.toNat_natCast] at hL h
 have A3:k < 1000000:=by omega
 have hkn:k < n:=by omega
 have hq:=hN.aT hL A3
 have hnb:zE+k < 2000000:=by simp only [zE];omega
 have hrow:(qz zE Ls)[k]?=some [.aS (zE+k) (L.map zb)]:=by rw [kw,hL,uT,wz hnb]
 have H9:=hlt _ _ hN.obj
 have hMN:=hlt _ _ hM
 have P9:=hlt _ _ hq
 have hPM:P≠M:=fun e=>by have:=hN.obj;rw [e,hM] at this;simp at this
 have A4:zE+k≠P:=fun e=>by have:=hN.obj;rw [←e,hq] at this;cases this
 have Ra:zE+k≠M:=fun e=>by rw [e] at hq;rw [hM] at hq;cases hq
 refine Vj (QN ⟨env,heap,N⟩ ks P (Ls.set k (L++[i]))) (by simp [QN]) h ?_
 refine Gj ?_
 have lk:Wh kz=false:=rfl
 rw [lk]
 show lB C _ _ kz 0 [] [] _
 unfold kz
 refine xk (.Zai P 0 n) [] rfl (by simp [ai,zd,e8]) rfl ?_
 refine xk (.ptr M 0 1) [] rfl (by simp [St.after,St.put,zL,ai,zd,zm,sM,hM]) rfl ?_
 refine xk (vI (k:Int)) [] rfl (by simp [St.after,St.put,zL,ai,zd,zm,hM]) rfl ?_
 refine xk (.Zai P 0 n) [] rfl (by simp [St.after,St.put,zL,ai,zd,zm,e8]) rfl ?_
 refine xk (.ptr M 0 1) [] rfl (by simp [St.after,St.put,zL,ai,zd,zm,sM,hM]) rfl ?_
 refine xk (vI (k:Int)) [] rfl (by simp [St.after,St.put,zL,ai,zd,zm,hM]) rfl ?_
 refine xk (.ptr P k 0) [] rfl (by simp [St.after,St.put,zL,ai,zd,zm,hN.obj,vI,hkn]) rfl ?_
 refine xk (.aS (zE+k) (L.map zb)) [] rfl (by simp [St.after,St.put,zL,ai,zd,zm,hN.obj,hrow]) rfl ?_
 refine xk (vI i) [] rfl (by simp [St.after,St.put,zL,ai,zd,zm,dW]) rfl ?_
 have n1:N+9≠P:=by omega
 have n2:N+9≠M:=by omega
 have n3:N+9≠zE+k:=by omega
 have ev8:∀ x,za (zk env 65 x) 8=some (.Zai P 0 n):=fun x=>by rw [zm,if_neg (by omega)];exact e8
 refine xk (.Zai (N+9) 0 1) [(N+9,.af 1 [[vI i]])] rfl (by simp [St.after,St.put,zL,ai,zd,zm,aL,cellsOf,vI,xb,q6]) ?_ ?_
 ·simp [xj,z8,zj,wb,q7,qg,q5,zd,St.after,St.put,zL,zm,e8,sM,dW,vI,Ne.symm n1,Ne.symm n2]
 refine xk (.aS (zE+k) (L.map zb++[zb i])) [(zE+k,.aT 1 ((L.map zb).length+1))] rfl ?_ ?_ ?_
 ·simp [St.after,St.put,zL,ai,zd,zm,zr,J4,xI,hq,n3,aL,jm,vI,zb,hsz]
 ·simp [xj,z8,zj,wb,q7,qg,q5,zd,St.after,St.put,zL,zm,e8,sM,dW,vI,ef,QM,Ne.symm A4,Ne.symm Ra,n3]
 refine xk (.ptr P k 0) [] rfl ?_ ?_ ?_
 ·simp [St.after,St.put,zL,ai,zd,zm,zr,A4,n1,hN.obj,vI,hkn]
 ·simp [xj,z8,zj,wb,q7,qg,q5,zd,St.after,St.put,zL,zm,e8,sM,dW,vI,ef,QM]
 refine xk .undef [(P,.af 1 ((qz zE Ls).set k [.aS (zE+k) (L.map zb++[zb i])]))] rfl ?_ ?_ ?_
 ·simp [St.after,St.put,zL,ai,zd,zm,zr,A4,n1,hN.obj,hrow,cellsOf,q6]
 ·simp [xj,z8,zj,wb,q7,qg,q5,zd,St.after,St.put,zL,zm,e8,sM,dW,vI,ef,QM]
 show bR ⟨qG ks (zk (zk (zk (zk (zk (zk (zk (zk (zk (zk (zk (zk env 65 _) 66 _) 67 _) 68 _) 69 _) 70 _) 71 _) 72 _) 73 _) 74 _) 75 _) 76 _),zo (zo (zo heap (N+9) _) (zE+k) _) P _,N+13⟩ (QN ⟨env,heap,N⟩ ks P (Ls.set k (L++[i])))
 refine PL (fun t x hx => ?_) fun j o hj => ?_
 ·rw [QB] at hx
  split at hx
  ·rename_i hc
   rw [List.contains_iff_mem,List.mem_filter] at hc
   have ht:t < 65:=by simpa [uC] using hc.2
   rw [QB,if_pos (by simpa using hc.1)]
   simp only [zm]
   rw [if_neg (by omega),if_neg (by omega),if_neg (by omega),if_neg (by omega),if_neg (by omega),if_neg (by omega),if_neg (by omega),if_neg (by omega),if_neg (by omega),if_neg (by omega),if_neg (by omega),if_neg (by omega)]
   exact hx
  ·cases hx
 have iO:(qz zE Ls).set k [.aS (zE+k) (L.map zb++[zb i])]=qz zE (Ls.set k (L++[i])):=by
  rw [←Hp Ls zE k (L++[i]),wz hnb];simp
 simp only [QN] at hj
 rw [vZ,zm] at hj
 simp only [zr]
 by_cases DV:P=j
 ·rw [if_pos DV] at hj
  rw [if_pos DV,iO];exact hj
 ·rw [if_neg DV] at hj ⊢
  have keep:∀ o',za heap j=some o'→j≠zE+k→(if zE+k=j then some (aF.aT 1 ((L.map zb).length+1)) else if N+9=j then some (.af 1 [[vI i]]) else za heap j)=some o':=fun o' h1 h2=>by
   rw [if_neg (fun e=>h2 e.symm),if_neg (fun e=>by have:=hlt _ _ h1;omega)];exact h1
  cases e:za (ZG heap) j with
  | some o'=>
   rw [e,uV] at hj
   cases hj
   have:=Jx hN.out e
   refine keep _ (by rw [ky,e];rfl) (fun e2 => ?_)
   simp only [zE,qY] at this e2 hnb
   omega
  | none=>
   rw [e,ur,vC] at hj
   split at hj
   ·rename_i ej
    cases hj
    refine keep _ ?_ (by rw [ej];simp only [qY,zE];omega)
    rw [ky,e,hN.tail,ur,vC,if_pos ej]
   ·split at hj
    ·rename_i ej
     by_cases Ia:j=zE+k
     ·subst Ia
      rw [show zE+k - zE=k by omega,List.getElem?_set_self (ug.1 hL).1] at hj
      simp only [uT,Option.some.injEq] at hj
      subst hj
      rw [if_pos rfl];simp
     ·rw [List.getElem?_set_ne (by omega)] at hj
      obtain ⟨L2,Rb,rfl⟩:=ud.1 hj
      refine keep _ ?_ Ia
      have:=hN.aT Rb (by have:=ej.2;simp only [zE];omega)
      rw [show zE+(j - zE)=j by omega] at this
      exact this
    ·cases hj
theorem Rc {C:bA} {nt:Fr} {c:cB} {K:Exit→St→Prop} {st:St} (h:∀ g a w,Rel C nt g st a w→cD C nt c K st):cD C nt c K st:=fun code hc g a w R I=>h g a w R code hc g a w R I
def Rd (P n M:Nat) (i to:Int) (a:AV) (Ls:List (List Int)):rE (List (List Int)) where
 x:=vD Ls n to i
 T c st k:=match c with
  | .region true o items (some ks)=>.eq (List Nat) o QM (.eq (List aM) items kz (.eq (Option AV) (za st.env 8) (some (.Zai P 0 n)) (.eq (Option AV) (za st.env 13) (some (.ptr M 0 0)) (.eq (Option AV) (za st.env 10) (some (vI i))
   (.eq (Option aF) (za st.heap P) (some (.af 1 (qz zE Ls))) (.eq (Option aF) (za st.heap M) (some (.af 2 [[a,vI to]])) (.eq (List (Nat×aF)) (Qf st.heap) (xY Ls)
   (match yx st.heap with
   | true=>.all (List (List Int)) fun b=>k b (QN st ks P b)
   | false=>.bad 5110))))))))
  | _=>.bad 5111
 ok C nt c st k K b hb hT hK:=by
  split at hT
  ·rename_i o items ks
   obtain ⟨rfl,rfl,h8,DW,h10,hP,hM,ht,h1⟩:=hT
   split at h1
   ·rename_i ho
    refine Rc fun g a' w R => ?_
    exact P8 h8 DW h10 ⟨hP,ht,ho⟩ hM (fun j o hj=>R.heap.key j o hj) hb (hK _ (h1 b))
   ·exact h1.elim
  ·exact hT.elim
end Go.Proofs.YtlpmnmbebkdocaaGreatDoor
namespace Go.Proofs.YtlpmnmbebkdocaaGreatDoor
open Go.RowKit
set_option linter.unusedSimpArgs false
set_option linter.unusedVariables false
set_option maxRecDepth 100000
section
structure aQ where
 num:Int
 den:Int
 deriving Inhabited,DecidableEq
def aQ.row (x:aQ):List IV:=[.int .i64 x.num,.int .i64 x.den]
def aQ.iv (x:aQ):IV:=.agg x.row
structure bZ where
 name:ByteArray
 kind:Int
 base:Int
 factor:aQ
 deriving Inhabited,DecidableEq
def bZ.row (x:bZ):List IV:=[.str x.name,.int .i64 x.kind,.int .i64 x.base,.int .i64 x.factor.num,.int .i64 x.factor.den]
def bZ.iv (x:bZ):IV:=.agg x.row
structure aZ where
 kind:Int
 bK:Int
 bP:Int
 to:Int
 unit:Int
 dh:aQ
 deriving Inhabited,DecidableEq
def aZ.row (x:aZ):List IV:=[.int .i64 x.kind,.int .i64 x.bK,.int .i64 x.bP,.int .i64 x.to,.int .i64 x.unit,.int .i64 x.dh.num,.int .i64 x.dh.den]
def aZ.iv (x:aZ):IV:=.agg x.row
structure bl where
 clause:Int
 is:Int
 deriving Inhabited,DecidableEq
def bl.row (x:bl):List IV:=[.int .i64 x.clause,.int .i64 x.is]
def bl.iv (x:bl):IV:=.agg x.row
structure aO where
 kind:Int
 bK:Int
 act:Int
 need:Int
 start:List bl
 after:Int
 br:Int
 bC:Bool
 final:Bool
 bg:Int
 resume:Int
 value:aQ
 unit:Int
 to:Int
 bt:Bool
 deriving Inhabited,DecidableEq
def aO.row (x:aO):List IV:=[.int .i64 x.kind,.int .i64 x.bK,.int .i64 x.act,.int .i64 x.need,.slice (ul bl.row x.start),.int .i64 x.after,.int .i64 x.br,.bool x.bC,.bool x.final,.int .i64 x.bg,.int .i64 x.resume,.int .i64 x.value.num,.int .i64 x.value.den,.int .i64 x.unit,.int .i64 x.to,.bool x.bt]
def aO.iv (x:aO):IV:=.agg x.row
structure ax where
 aW:Int
 aE:List Int
 bE:List bZ
 aK:List aZ
 ay:List aO
 aX:Int
 off:List Int
 deriving Inhabited,DecidableEq
def ax.row (x:ax):List IV:=[.int .i64 x.aW,.slice (ul zb x.aE),.slice (ul bZ.row x.bE),.slice (ul aZ.row x.aK),.slice (ul aO.row x.ay),.int .i64 x.aX,.slice (ul zb x.off)]
def ax.iv (x:ax):IV:=.agg x.row
structure aj where
 aR:Int
 left:Int
 got:Int
 bz:Int
 bQ:Bool
 deriving Inhabited,DecidableEq
def aj.row (x:aj):List IV:=[.int .i64 x.aR,.int .i64 x.left,.int .i64 x.got,.int .i64 x.bz,.bool x.bQ]
def aj.iv (x:aj):IV:=.agg x.row
structure aG where
 day:Int
 aE:List Int
 used:List Bool
 aI:List aj
 deriving Inhabited,DecidableEq
def aG.row (x:aG):List IV:=[.int .i64 x.day,.slice (ul zb x.aE),.slice (ul zg x.used),.slice (ul aj.row x.aI)]
def aG.iv (x:aG):IV:=.agg x.row
structure aH where
 state:aG
 own:Bool
 deriving Inhabited,DecidableEq
def aH.row (x:aH):List IV:=[.int .i64 x.state.day,.slice (ul zb x.state.aE),.slice (ul zg x.state.used),.slice (ul aj.row x.state.aI),.bool x.own]
def aH.iv (x:aH):IV:=.agg x.row
structure bh where
 step:Int
 to:Int
 deriving Inhabited,DecidableEq
def bh.row (x:bh):List IV:=[.int .i64 x.step,.int .i64 x.to]
def bh.iv (x:bh):IV:=.agg x.row
structure bT where
 zw:Int
 aU:List aH
 bp:List (List bh)
 deriving Inhabited,DecidableEq
def bT.row (x:bT):List IV:=[.int .i64 x.zw,.slice (ul aH.row x.aU),.slice (ul (zH bh.row) x.bp)]
def bT.iv (x:bT):IV:=.agg x.row
structure eF where
 safe:Bool
 move:Int
 wait:Int
 deriving Inhabited,DecidableEq
def eF.row (x:eF):List IV:=[.bool x.safe,.int .i64 x.move,.int .i64 x.wait]
def eF.iv (x:eF):IV:=.agg x.row
structure bF where
 kind:Int
 zw:Int
 clause:Int
 other:Int
 trace:List Int
 deriving Inhabited,DecidableEq
def bF.row (x:bF):List IV:=[.int .i64 x.kind,.int .i64 x.zw,.int .i64 x.clause,.int .i64 x.other,.slice (ul zb x.trace)]
def bF.iv (x:bF):IV:=.agg x.row
structure bO where
 from_:Int
 step:Int
 deriving Inhabited,DecidableEq
def bO.row (x:bO):List IV:=[.int .i64 x.from_,.int .i64 x.step]
def bO.iv (x:bO):IV:=.agg x.row
attribute [simp] aQ.row bZ.row aZ.row bl.row aO.row ax.row aj.row aG.row aH.row bh.row bT.row eF.row bF.row bO.row
end
end Go.Proofs.YtlpmnmbebkdocaaGreatDoor
namespace Go.Proofs.YtlpmnmbebkdocaaGreatDoor
open Go.RowKit
def wA : String := "internal/strconv.uint64pow10"
noncomputable def DX:Ag where
 p w:=Lib.TabIs Tryz.prog w wA .u64 Lib.pow10Tab
 n:=(Tryz.prog.globalNamed wA).getD 0+1
 ok w w' h hp:=by
  unfold Lib.TabIs World.var? at *
  cases hg:Tryz.prog.globalNamed wA with
  | none=>rw [hg] at hp;cases hp
  | some g=>
   rw [hg] at hp
   simp only [aV] at hp ⊢
   have:=h g (by rw [hg];simp)
   rw [this];exact hp
theorem Re {w:World} (h:DX.p w):DX.n≤w.heap.size:=by
 have h':w.var? Tryz.prog wA=some (Lib.pow10Tab.map fun z=>Value.int .u64 z).toArray:=h
 unfold World.var? at h'
 show (Tryz.prog.globalNamed wA).getD 0+1≤_
 cases hg:Tryz.prog.globalNamed wA with
 | none=>rw [hg] at h';cases h'
 | some g=>
  rw [hg] at h'
  simp only [aV] at h'
  split at h'
  ·rename_i h2
   have:=(uv.1 h2).1
   simp only [Option.getD_some];omega
  ·cases h'
end Go.Proofs.YtlpmnmbebkdocaaGreatDoor
namespace Go.Proofs.YtlpmnmbebkdocaaGreatDoor
open Go.RowKit
set_option linter.unusedSimpArgs false
set_option linter.unusedVariables false
set_option maxRecDepth 100000
noncomputable def C0:Ctx:=⟨Tryz.prog,[0,0,0,0,0,0,0,0,15,0,0,0,0,18,0,91,0,0,0,41,42,0,0,0,0,49,0,0,0,45,46,47,48,50,43,126,127,128,101,0,81,82,83,84,85,86,87,88,0,0,0,90,135,136,124,125,149,143,144,145,61,99,134,98,100,103,102,137,105,44,60,104,0,30,53,0,34,94,95,131,93,77,121,123,0,0,0,0,0,0,0,0,0,27,40,0,0,13,23,132,17,22,59,62,89,138,97,133,142,152,159,155,156,160,157,154,153,158,161,162,163,129,130,147,148,146,122,0,0,0,0,0,0,65,110,111,109,112,31,107,108,24,26,0,0,0,0,0,0,0,0,0,0,54,20,56,0,55,96,57,58,0,0,0,0,0,0,25,0,0,0,0,0,0,0,0,92,51,39,80,21,19,52,0,3,4,11,38,37,16,12,14,29,68,66,67,114,69,116,70,117,71,76,75,120,118,119,140,150,151,113,115,139,141,0,0,0,0,0,0,0,0,0,0,0,0,0,0,0,0,0,0,0,0,0,0,0,0,0,0,0,0,0,0,0,0,0,0,0,0,0,0,0,0,0,0,0,0,0,0,0,0,0,0,0,0,0,79,0,0,0,0,0,0,0,0,0,0,0,0,0,0,0,0,0,0,0,0,0,0,0,0,0,0,0,0,0,0,0,0,0,0,0,0,0,0,0,0,10,8,7,5,9,6,36,28,63,64,35,32,106,78,33,73,72,74],DX,[]⟩
def Rf:List aM:=[⟨some 4,.dl (.c (.nil)),none⟩]
def Rg:List aM:=[⟨some 5,.dl (.c (.nil)),none⟩]
def Rh:List aM:=[⟨some 6,.dl (.t 1),none⟩,
 ⟨some 7,.bin .neq (.t 6) (.c (.ak (.int .i64 0))),none⟩]
def Kn:List aM:=[⟨some 8,.dl (.t 5),none⟩,
 ⟨some 9,.dl (.t 0),none⟩,
 ⟨some 10,.dl (.t 1),none⟩,
 ⟨some 11,.look false (.ak (.agg [.int .i64 0,.int .i64 0])) false (.t 9) (.t 10),none⟩,
 ⟨some 12,.cut false 1 1 (.t 11),none⟩,
 ⟨some 13,.cY 1 [.ak (.int .i64 0)] 1 [(0,.t 12)],none⟩,
 ⟨some 14,.app 1 8 (.t 8) (.t 13),none⟩,
 ⟨some 5,.dl (.t 14),none⟩]
def Ri:List aM:=[⟨some 15,.dl (.t 0),none⟩,
 ⟨some 16,.dl (.t 1),none⟩,
 ⟨some 17,.look false (.ak (.agg [.int .i64 0,.int .i64 0])) false (.t 15) (.t 16),none⟩,
 ⟨some 18,.cut false 0 1 (.t 17),none⟩,
 ⟨some 1,.dl (.t 18),none⟩]
def Ko:List aM:=[⟨some 19,.dl (.t 5),none⟩,
 ⟨some 20,.call (.c (.func 213 [] [])) [.t 19],none⟩]
def Rj:List aM:=[⟨some 21,.dl (.t 5),none⟩,
 ⟨some 4,.dl (.t 21),none⟩]
def Ce:dz:=⟨22,[.tmp 4],(
.seq (.region false [] Rf (some [0,1])) (
.seq (.region false [] Rg (some [0,1,5])) (
.seq (.block 0 (.loop (.seq (.seq (.region false [] Rh (some [0,1,5,7])) (
.cond (.t 7) (.skip) (.exit 0))) (
.block 1 (.seq (.region false [] Kn (some [0,1,5])) (
.region false [] Ri (some [0,1,5]))))))) (
.seq (.region false [] Ko (some [5])) (
.seq (.region false [] Rj (some [4])) (
.ret))))))⟩
theorem Rk:qr C0 206=some Ce.erase:=by kernel_rfl
def Rm:List aM:=[⟨some 4,.dl (.c (.nil)),none⟩]
def Rn:List aM:=[⟨some 5,.dl (.c (.nil)),none⟩]
def Ro:List aM:=[⟨some 9,.fc,none⟩,
 ⟨some 6,.dl (.t 9),none⟩]
def Rp:List aM:=[⟨some 10,.dl (.t 0),none⟩,
 ⟨some 11,.dl (.c (.ak (.int .i64 0))),none⟩]
def Rq:List aM:=[⟨some 12,.bin .lss (.t 11) (.t 10),none⟩]
def Rr:List aM:=[⟨some 13,.dl (.t 11),none⟩,
 ⟨some 7,.dl (.t 13),none⟩]
def DY:List aM:=[⟨some 14,.dl (.t 1),none⟩,
 ⟨some 15,.dl (.t 7),none⟩,
 ⟨some 16,.call (.t 14) [.t 15],none⟩,
 ⟨some 8,.dl (.t 16),none⟩]
def Rs:List aM:=[⟨some 17,.dl (.t 8),none⟩,
 ⟨some 18,.dl (.t 7),none⟩,
 ⟨some 19,.bin .eql (.t 17) (.t 18),none⟩]
def DZ:List aM:=[⟨some 20,.dl (.t 6),none⟩,
 ⟨some 21,.dl (.t 7),none⟩,
 ⟨some 22,.dl (.t 5),none⟩,
 ⟨some 23,.len (.t 22),none⟩,
 ⟨none,.upd false (.t 20) (.t 21) (.t 23),none⟩]
def D0:List aM:=[⟨some 24,.dl (.t 5),none⟩,
 ⟨some 25,.cY 1 [.nil] 1 [(0,.c (.nil))],none⟩,
 ⟨some 26,.app 1 24 (.t 24) (.t 25),none⟩,
 ⟨some 5,.dl (.t 26),none⟩]
def QO:List aM:=[⟨some 27,.dl (.t 5),none⟩,
 ⟨some 28,.dl (.t 6),none⟩,
 ⟨some 29,.dl (.t 8),none⟩,
 ⟨some 30,.look false (.ak (.int .i64 0)) false (.t 28) (.t 29),none⟩,
 ⟨some 31,.dl (.t 5),none⟩,
 ⟨some 32,.dl (.t 6),none⟩,
 ⟨some 33,.dl (.t 8),none⟩,
 ⟨some 34,.look false (.ak (.int .i64 0)) false (.t 32) (.t 33),none⟩,
 ⟨some 35,.idx 1 (.t 31) (.t 34),none⟩,
 ⟨some 36,.load false 1 (.t 35),none⟩,
 ⟨some 37,.dl (.t 7),none⟩,
 ⟨some 38,.cY 1 [.ak (.int .i64 0)] 1 [(0,.t 37)],none⟩,
 ⟨some 39,.app 1 8 (.t 36) (.t 38),none⟩,
 ⟨some 40,.idx 1 (.t 27) (.t 30),none⟩,
 ⟨none,.store 1 (.t 40) (.t 39),none⟩]
def Ib:List aM:=[⟨some 41,.bin .add (.t 11) (.c (.ak (.int .i64 1))),none⟩,
 ⟨some 11,.dl (.t 41),none⟩]
def Rt:List aM:=[⟨some 42,.dl (.t 5),none⟩,
 ⟨some 4,.dl (.t 42),none⟩]
def Cf:dz:=⟨43,[.tmp 4],(
.seq (.region false [] Rm (some [0,1])) (
.seq (.region false [] Rn (some [0,1,5])) (
.seq (.region false [] Ro (some [0,1,5,6])) (
.seq (.seq (.region false [] Rp (some [1,5,6,10,11])) (
.block 0 (.loop (.seq (.region false [] Rq (some [1,5,6,10,11,12])) (
.seq (.cond (.t 12) (.skip) (.exit 0)) (
.seq (.block 1 (.seq (.region false [] Rr (some [1,5,6,7,10,11])) (
.seq (.region false [] DY (some [1,5,6,7,8,10,11])) (
.seq (.seq (.region false [] Rs (some [1,5,6,7,8,10,11,19])) (
.cond (.t 19) (.seq (.region false [] DZ (some [1,5,6,7,8,10,11])) (
.region false [] D0 (some [1,5,6,7,8,10,11]))) (.skip))) (
.region true [0,0,0,6,0,0,0,96,240,496,0,1024,4080,8191,16383] QO (some [1,5,6,10,11])))))) (
.region false [] Ib (some [1,5,6,10,11])))))))) (
.seq (.region false [] Rt (some [4])) (
.ret))))))⟩
theorem Ru:qr C0 33=some Cf.erase:=by kernel_rfl
end Go.Proofs.YtlpmnmbebkdocaaGreatDoor
namespace Go.Proofs.YtlpmnmbebkdocaaGreatDoor
open Go.RowKit Go.ChangeShapes Go.WideShapes
set_option linter.unusedSimpArgs false
set_option linter.unusedVariables false
section
inductive eC where
 | bool
 | int (k:IntKind)
 | str
 | slice (bL:Nat) (row:List eC)
inductive gz:eC→IV→Prop where
 | bool (b:Bool):gz .bool (.bool b)
 | int (k:IntKind) (n:Int) (h:k.min≤n∧n≤k.max):gz (.int k) (.int k n)
 | str (s:ByteArray) (h:s.size≤reachBytes):gz .str (.str s)
 | slice (bL:Nat) (cN:List eC) (af:List (List IV)) (hl:af.length*bL≤reachBytes) (hr:∀ row∈af,row.length=cN.length)
  (hc:∀ row∈af,∀ (i:Nat) (t:eC) (c:IV),cN[i]?=some t→row[i]?=some c→gz t c):gz (.slice bL cN) (.slice af)
def bU (cN:List eC) (row:List IV):Prop:=row.length=cN.length∧∀ (i:Nat) (t:eC) (c:IV),cN[i]?=some t→row[i]?=some c→gz t c
def QP (P:Program) (f:TypeId→Option (List eC)):Nat→List Field→Option (List eC)
 | _,[]=>some []
 | off,x::r=>if x.offset=off then match f x.type with
   | some a=>if a.length=P.cellsOf x.type then match QP P f (off+a.length) r with
     | some b=>some (a++b)
     | none=>none
    else none
   | none=>none
  else none
def Vp (P:Program):Nat→TypeId→Option (List eC)
 | 0,_=>none
 | n+1,t=>match P.underlying t with
  | some .bool=>some [.bool]
  | some (.int k)=>some [.int k]
  | some .string=>some [.str]
  | some (.slice e)=>match Vp P n e with
   | some r=>if r.length=P.cellsOf e∧0 < r.length then some [.slice (P.bytesOf e) r] else none
   | none=>none
  | some (.struct fs)=>match QP P (Vp P n) 0 fs.toList with
   | some r=>if r.length=P.cellsOf t then some r else none
   | none=>none
  | _=>none
def nY (w:World) (b:Nat):Nat:=match w.heap[b]? with
 | some (.cells c _ _)=>c.size
 | _=>0
theorem Rv {w:World} {b:Nat} (h:0 < nY w b):b < w.heap.size:=by
 unfold nY at h
 split at h
 ·rename_i c t f e;exact (uv.1 e).1
 ·omega
theorem Ic {w:World} {b off:Nat} {s:Option Nat} {v:Value} (h:w.cell? ⟨b,off,s⟩=some v):s=none∧off < nY w b:=by
 unfold World.cell? at h
 unfold nY
 simp only at h
 split at h
 ·rename_i c t f e
  rw [e]
  cases s with
  | some _=>simp at h
  | none=>simp at h;exact ⟨rfl,(uv.1 h).1⟩
 ·cases h
theorem Kp {α β:Type} {f:α→Option β}:∀ {l:List α} {ys:List β},l.mapM f=some ys→ys.length=l.length∧∀ (i:Nat) (x:α),l[i]?=some x→∃ y,ys[i]?=some y∧f x=some y
 | [],ys,h=>by
  simp at h;subst h;exact ⟨rfl,fun i x hx=>by simp at hx⟩
 | a::l,ys,h=>by
  rw [uW] at h
  simp only [uN,um,uU,Option.some.injEq] at h
  obtain ⟨y,hy,r,hr,rfl⟩:=h
  obtain ⟨h1,h2⟩:=Kp hr
  refine ⟨by simp [h1],fun i x hx => ?_⟩
  cases i with
  | zero=>simp at hx;subst hx;exact ⟨y,rfl,hy⟩
  | succ i=>exact h2 i x (by simpa using hx)
theorem gY.app {Z:Nat→Nat} {w:World} {a b:List IV} {x y:List Value} (h1:gY Z w a x) (h2:gY Z w b y):gY Z w (a++b) (x++y):=by
 refine ⟨by simp [h1.1,h2.1],fun j c u hc hu => ?_⟩
 rcases uY j a.length with h | h
 ·rw [uk h] at hc
  rw [uk (by rw [←h1.1];exact h)] at hu
  exact h1.2 j c u hc hu
 ·rw [uj h] at hc
  rw [uj (by rw [←h1.1];exact h),←h1.1] at hu
  exact h2.2 _ c u hc hu
theorem bU.app {a b:List eC} {x y:List IV} (h1:bU a x) (h2:bU b y):bU (a++b) (x++y):=by
 refine ⟨by simp [h1.1,h2.1],fun j c u hc hu => ?_⟩
 rcases uY j a.length with h | h
 ·rw [uk h] at hc
  rw [uk (by rw [h1.1];exact h)] at hu
  exact h1.2 j c u hc hu
 ·rw [uj h] at hc
  rw [uj (by rw [h1.1];exact h),h1.1] at hu
  exact h2.2 _ c u hc hu
theorem gY.one {Z:Nat→Nat} {w:World} {a:IV} {x:Value} (h:RI Z w a x):gY Z w [a] [x]:=⟨rfl,fun j c u hc hu=>by
 cases j with
 | zero=>simp at hc hu;subst hc;subst hu;exact h
 | succ j=>simp at hc⟩
theorem bU.one {t:eC} {a:IV} (h:gz t a):bU [t] [a]:=⟨rfl,fun j c u hc hu=>by
 cases j with
 | zero=>simp at hc hu;subst hc;subst hu;exact h
 | succ j=>simp at hc⟩
section
variable {H:Type} {enc:TypeId×Value→H} {P:Program} {w:World}
def A5 (w:World) (cN:List eC) (cs:List Value):Prop:=∃ row,gY (nY w) w row cs∧bU cN row∧∀ v∈cs,v.oneCell'=true
theorem Yh {fuel:Nat} {f:TypeId→Option (List eC)} {cs:List Value}
  (ih:∀ t cs d ps cN,f t=some cN→DataW.trod enc P w 0 (fun _=>true) true fuel t cs=some (d,ps)→(d.weights P t).all (· ≤ reachBytes)=true→A5 w cN cs) :
  ∀ (fs:List Field) (off:Nat) (xs:List (DataW H×List MemPlace)) (r:List eC),QP P f off fs=some r →
   (fs.mapM fun x=>DataW.trod enc P w 0 (fun _=>true) true fuel x.type ((cs.drop x.offset).take (P.cellsOf x.type)))=some xs →
   (DataW.weightsEach P (fs.map (·.type)) (xs.map (·.1))).all (· ≤ reachBytes)=true→A5 w r ((cs.drop off).take r.length)
 | [],off,xs,r,h1,h2,h3=>by
  simp only [QP,Option.some.injEq] at h1
  subst h1
  exact ⟨[],⟨by simp,fun j c u hc=>by simp at hc⟩,⟨rfl,fun j c u hc=>by simp at hc⟩,fun v hv=>by simp at hv⟩
 | x::fs,off,xs,r,h1,h2,h3=>by
  simp only [QP] at h1
  split at h1
  case isFalse=>cases h1
  rename_i hoff
  split at h1
  case h_2=>cases h1
  rename_i a ha
  split at h1
  case isFalse=>cases h1
  rename_i hlen
  split at h1
  case h_2=>cases h1
  rename_i b hb
  cases h1
  rw [uW] at h2
  simp only [uN,um,uU,Option.some.injEq] at h2
  obtain ⟨y,hy,ys,hys,rfl⟩:=h2
  simp only [List.map_cons,DataW.weightsEach,uB,uc] at h3
  obtain ⟨r1,g1,g2,g3⟩:=ih _ _ _ _ _ ha hy h3.1
  obtain ⟨r2,k1,k2,k3⟩:=Yh ih fs (off+a.length) ys b hb hys h3.2
  rw [←hlen,hoff] at g1 g3
  have hsplit:(cs.drop off).take (a++b).length=(cs.drop off).take a.length++(cs.drop (off+a.length)).take b.length:=by
   rw [List.length_append,List.take_add,List.drop_drop]
  refine ⟨r1++r2,?_,g2.app k2,?_⟩
  ·rw [hsplit];exact g1.app k1
  ·rw [hsplit];intro v hv
   rcases uA.1 hv with hv | hv
   ·exact g3 v hv
   ·exact k3 v hv
theorem W0 {e:TypeId}:∀ {l:List (DataW H)},(DataW.weightsAll P e l).all (· ≤ reachBytes)=true→∀ d∈l,(d.weights P e).all (· ≤ reachBytes)=true
 | [],_,d,hd=>by cases hd
 | x::l,h,d,hd=>by
  simp only [DataW.weightsAll,uB,uc] at h
  rcases uh.1 hd with rfl | hd
  ·exact h.1
  ·exact W0 h.2 d hd
theorem Ie {a:Addr} {n:Nat} {cs:List Value} (h:w.cells? 0 a n=some cs):cs.length=n∧∀ j v,cs[j]?=some v→w.cell? (a.add j)=some v:=by
 unfold World.cells? at h
 rw [if_pos (Nat.zero_le _)] at h
 obtain ⟨h1,h2⟩:=Kp h
 refine ⟨by simpa using h1,fun j v hv => ?_⟩
 have hj:j < n:=by
  have:=(ug.1 hv).1
  simpa [h1] using this
 obtain ⟨y,hy,e⟩:=h2 j j (by simp [hj])
 rw [hv] at hy;cases hy;exact e
theorem Rw {a:Addr} {len cap sz bL:Nat} {r:List eC} (hr:r.length=sz) (hpos:0 < sz) (hcap:len≤cap) (hb:len*bL≤reachBytes)
  (hel:∀ i,i < len→∃ cs,w.cells? 0 (a.add (i*sz)) sz=some cs∧A5 w r cs):A5 w [.slice bL r] [.slice (some a) len cap]:=by
 have hrow:∀ i:Nat,∃ row:List IV,i < len→∃ cs,w.cells? 0 (a.add (i*sz)) sz=some cs∧gY (nY w) w row cs∧bU r row∧∀ v∈cs,v.oneCell'=true:=fun i=>by
  by_cases hi:i < len
  ·obtain ⟨cs,h1,row,h2,h3,h4⟩:=hel i hi
   exact ⟨row,fun _=>⟨cs,h1,h2,h3,h4⟩⟩
  ·exact ⟨[],fun h=>absurd h hi⟩
 obtain ⟨R,hR⟩:=Classical.axiomOfChoice hrow
 have cT:∀ (i:Nat) (row:List IV),((uI len).map R)[i]?=some row→i < len∧row=R i:=fun i row h=>by
  simp only [List.getElem?_map,ud] at h
  obtain ⟨k,hk,rfl⟩:=h
  obtain ⟨h1,h2⟩:=ug.1 hk
  simp at h1 h2
  subst h2
  exact ⟨h1,rfl⟩
 have hmem:∀ row∈(uI len).map R,bU r row:=fun row h=>by
  obtain ⟨i,hi⟩:=List.mem_iff_getElem?.1 h
  obtain ⟨h1,rfl⟩:=cT i row hi
  obtain ⟨cs,_,_,h2,_⟩:=hR i h1
  exact h2
 refine ⟨[.slice ((uI len).map R)],.one ?_,.one (.slice _ _ _ (by simpa using hb) (fun row h=>(hmem row h).1) (fun row h=>(hmem row h).2)),fun v hv=>by simp at hv;subst hv;rfl⟩
 rcases Nat.eq_zero_or_pos len with h0 | h0
 ·subst h0;exact .empty a cap
 ·obtain ⟨b,off,spot⟩:=a
  have hs:spot=none:=by
   obtain ⟨cs,h1,_⟩:=hR 0 h0
   obtain ⟨h2,h3⟩:=Ie h1
   have hc:=h3 0 _ (uE (by omega))
   rw [Nat.zero_mul] at hc
   exact (Ic (s:=spot) (off:=off) hc).1
  subst hs
  have hcell:∀ (i:Nat) (row:List IV) (j:Nat) (c:IV),((uI len).map R)[i]?=some row→row[j]?=some c→∃ v,w.cell? ⟨b,off+i*sz+j,none⟩=some v∧v.oneCell'=true∧RI (nY w) w c v:=fun i row j c hi hj=>by
   obtain ⟨h1,rfl⟩:=cT i row hi
   obtain ⟨cs,h2,h3,h4,h5⟩:=hR i h1
   obtain ⟨h6,h7⟩:=Ie h2
   have hjl:j < cs.length:=by rw [←h3.1];exact (ug.1 hj).1
   have hcs:=uE hjl
   exact ⟨cs[j],by have:=h7 j _ hcs;rwa [qS,qS] at this,h5 _ (List.getElem_mem hjl),h3.2 j c _ hj hcs⟩
  have:=RI.slice (Z:=nY w) (w:=w) ((uI len).map R) b off cap sz (fun i j=>(w.cell? ⟨b,off+i*sz+j,none⟩).getD undef) (by simpa using hcap)
   (fun i row hi=>by obtain ⟨h1,rfl⟩:=cT i row hi;obtain ⟨_,_,_,h2,_⟩:=hR i h1;rw [h2.1,hr])
   (fun i row j c hi hj=>by obtain ⟨v,h1,_⟩:=hcell i row j c hi hj;exact (Ic h1).2)
   (fun i row j c hi hj=>by obtain ⟨v,h1,h2,_⟩:=hcell i row j c hi hj;rw [h1];exact ⟨rfl,h2⟩)
   (fun i row j c hi hj=>by obtain ⟨v,h1,h2,h3⟩:=hcell i row j c hi hj;rw [h1];exact h3)
  simpa using this
theorem JC:∀ (n fuel:Nat) (t:TypeId) (cs:List Value) (d:DataW H) (ps:List MemPlace) (cN:List eC),Vp P n t=some cN→DataW.trod enc P w 0 (fun _=>true) true fuel t cs=some (d,ps) →
  (d.weights P t).all (· ≤ reachBytes)=true→A5 w cN cs
 | 0,_,_,_,_,_,_,h,_,_=>by simp [Vp] at h
 | n+1,0,_,_,_,_,_,_,h,_=>by simp [DataW.trod] at h
 | n+1,fuel+1,t,cs,d,ps,cN,h,ht,hw=>by
  simp only [Vp] at h
  split at h
  ·rename_i hu
   cases h
   simp only [DataW.trod,hu] at ht
   split at ht<;>first | (simp_all;done) | skip
   all_goals first
    | (rename_i b _;exact ⟨[.bool b],.one (.bool b),.one (.bool b),fun v hv=>by simp at hv;subst hv;rfl⟩)
    | skip
  ·rename_i k hu
   cases h
   simp only [DataW.trod,hu] at ht
   split at ht<;>first | (simp_all;done) | skip
   all_goals
    rename_i k1 k' m e1
    cases e1
    split at ht
    case isFalse=>cases ht
    rename_i hk
    obtain ⟨rfl,hwf⟩:=hk
    exact ⟨[.int _ m],.one (.int _ m),.one (.int _ m (by simpa [Lit.wf] using hwf)),fun v hv=>by simp at hv;subst hv;rfl⟩
  ·rename_i hu
   cases h
   simp only [DataW.trod,hu] at ht
   split at ht<;>first | (simp_all;done) | skip
   all_goals
    rename_i s _
    split at ht
    case isFalse=>cases ht
    cases ht
    refine ⟨[.str s],.one (.str s),.one (.str s ?_),fun v hv=>by simp at hv;subst hv;rfl⟩
    simpa [DataW.weights] using hw
  ·rename_i e hu
   split at h
   case h_2=>cases h
   rename_i r hr
   split at h
   case isFalse=>cases h
   rename_i hlen
   cases h
   simp only [DataW.trod,hu] at ht
   split at ht<;>first | (simp_all;done) | skip
   ·cases ht
    exact ⟨[.slice []],.one .nil,.one (.slice _ _ _ (by simp) (fun row h=>by simp at h) (fun row h=>by simp at h)),fun v hv=>by simp at hv;subst hv;rfl⟩
   ·rename_i e' a len cap e1
    cases e1
    split at ht
    case isFalse=>cases ht
    rename_i bM
    simp only [um,ud] at ht
    obtain ⟨elems,hel,rest,fX,heq⟩:=ht
    simp only [Prod.mk.injEq] at heq
    obtain ⟨rfl,_⟩:=heq
    simp only [DataW.weights,hu,List.all_cons,uB,uc,decide_eq_true_eq] at hw
    obtain ⟨hw1,pF,hw3⟩:=hw
    obtain ⟨hl,nK⟩:=Kp hel
    simp only [List.length_range,uo] at hl hw1
    refine Rw hlen.1 (by omega) bM.2.1 (Nat.le_trans (Nat.mul_le_mul_right _ (by omega)) hw1) fun i hi => ?_
    obtain ⟨y,hy1,Ig⟩:=nK i i (by simp [hi])
    simp only [um] at Ig
    obtain ⟨cs',eV,eW⟩:=Ig
    exact ⟨cs',eV,JC n fuel e cs' y.1 y.2 r hr eW (W0 pF _ (uP.2 ⟨y,uu hy1,rfl⟩))⟩
  ·rename_i fs hu
   split at h
   case h_2=>cases h
   rename_i r0 hr
   split at h
   case isFalse=>cases h
   rename_i hlen
   obtain rfl:r0=cN:=Option.some.inj h
   simp only [DataW.trod,hu] at ht
   split at ht
   case isFalse=>cases ht
   rename_i dY
   simp only [ud] at ht
   obtain ⟨xs,hxs,heq⟩:=ht
   simp only [Prod.mk.injEq] at heq
   obtain ⟨rfl,_⟩:=heq
   simp only [DataW.weights,hu] at hw
   have:=Yh (fun t cs d ps cN h1 h2 h3=>JC n fuel t cs d ps cN h1 h2 h3) fs.toList 0 xs r0 hr hxs hw
   rw [hlen,←dY,List.drop_zero,List.take_length] at this
   exact this
  ·cases h
end
end
section
def A6 (P:Program) (t:TypeId):Option (Bool×List eC):=match P.underlying t with
 | some (.struct _)=>match Vp P 12 t with
  | some r=>some (true,r)
  | none=>none
 | some (.array _ _)=>none
 | _=>match Vp P 12 t with
  | some r=>some (false,r)
  | none=>none
def Ih:Bool×List eC→IV→Prop
 | (true,cN),x=>∃ row,x=.agg row∧bU cN row
 | (false,cN),x=>bU cN [x]
def Ws:List (Bool×List eC)→List IV→Prop
 | [],[]=>True
 | a::pO,x::xs=>Ih a x∧Ws pO xs
 | _,_=>False
section
variable {H:Type} {enc:TypeId×Value→H} {P:Program} {w:World}
theorem Rx {base:Nat} {t:TypeId} {v:Value} {d:DataW H} {ps:List MemPlace} {a:Bool×List eC} (ha:A6 P t=some a) (hval:Value.okWide P w .any base t v)
  (h:DataW.Trod enc P w 0 (fun _=>true) true t v d ps) (hw:(d.weights P t).all (· ≤ reachBytes)=true):∃ x,RI (nY w) w x v∧Ih a x:=by
 obtain ⟨fuel,hf⟩:=h
 unfold A6 at ha
 split at ha
 ·rename_i fs hu
  split at ha
  case h_2=>cases ha
  rename_i r hr
  cases ha
  simp only [Value.okWide,hu] at hval
  obtain ⟨cs,rfl,_,_⟩:=hval
  obtain ⟨row,h1,h2,h3⟩:=JC 12 fuel t _ d ps r hr hf hw
  refine ⟨.agg row,?_,row,rfl,h2⟩
  have:=RI.agg (Z:=nY w) (w:=w) row cs.toList (by simpa [Value.cells] using h1.1) (fun v hv=>h3 v (by simpa [Value.cells] using hv)) (fun i c v hc hv=>h1.2 i c v hc (by simpa [Value.cells] using hv))
  simpa using this
 ·cases ha
 ·rename_i Ry hna
  split at ha
  case h_2=>cases ha
  rename_i r hr
  cases ha
  have hone:v.oneCell'=true:=by
   have hc:Cell.okWide P w .any base t v:=by
    unfold Value.okWide at hval
    split at hval
    ·rename_i fs hu;exact absurd hu (Ry fs)
    ·rename_i k e hu;exact absurd hu (hna k e)
    ·exact hval
   cases v<;>first | rfl | (exfalso;revert hc;unfold Cell.okWide Cell.ok;cases P.underlying t with
    | none=>simp
    | some u=>cases u<;>simp)
  have hcs:v.cells.toList=[v]:=by cases v<;>first | rfl | simp [Value.oneCell'] at hone
  obtain ⟨row,h1,h2,h3⟩:=JC 12 fuel t _ d ps r hr hf hw
  rw [hcs] at h1
  obtain ⟨x,rfl⟩:∃ x,row=[x]:=List.length_eq_one_iff.1 (by simpa using h1.1)
  exact ⟨x,h1.2 0 x v rfl rfl,h2⟩
theorem Ii {base:Nat}:∀ {ts:List TypeId} {vs:List Value} {ds:List (DataW H)} {ps:List MemPlace} {pO:List (Bool×List eC)},aL (A6 P) ts=some pO →
  (∀ (j:Nat) t v,ts[j]?=some t→vs[j]?=some v→Value.okWide P w .any base t v)→DataW.TrodAll enc P w 0 (fun _=>true) true ts vs ds ps→(DataW.weightsEach P ts ds).all (· ≤ reachBytes)=true →
  ∃ dA,gY (nY w) w dA vs∧Ws pO dA
 | [],vs,ds,ps,pO,ha,hval,h,hw=>by
  obtain ⟨rfl,rfl,rfl⟩:=trodAll_nil h
  simp [aL] at ha;subst ha
  exact ⟨[],⟨rfl,fun j c u hc=>by simp at hc⟩,trivial⟩
 | t::ts,vs,ds,ps,pO,ha,hval,h,hw=>by
  obtain ⟨v,Ij,d,Ik,a,b,rfl,rfl,rfl,h1,h2⟩:=trodAll_cons h
  simp only [aL] at ha
  split at ha
  case h_2=>cases ha
  rename_i a1 Rz
  split at ha
  case h_2=>cases ha
  rename_i as1 D1
  cases ha
  simp only [DataW.weightsEach,uB,uc] at hw
  obtain ⟨x,g1,g2⟩:=Rx Rz (hval 0 t v rfl rfl) h1 hw.1
  obtain ⟨xs,g3,g4⟩:=Ii D1 (fun j t v hj hv=>hval (j+1) t v (by simpa using hj) (by simpa using hv)) h2 hw.2
  exact ⟨x::xs,gY.app (.one g1) g3,g2,g4⟩
theorem RA {ts:List TypeId}:∀ {vs:List Value} {ds:List (DataW H)} {ps:List MemPlace},DataW.TrodAll enc P w 0 (fun _=>true) true ts vs ds ps→ds.length=ts.length:=by
 induction ts with
 | nil=>intro vs ds ps h;obtain ⟨rfl,rfl,rfl⟩:=trodAll_nil h;rfl
 | cons t ts ih=>
  intro vs ds ps h
  obtain ⟨v,Ij,d,Ik,a,b,rfl,rfl,rfl,h1,h2⟩:=trodAll_cons h
  simp [ih h2]
theorem Il {W':World} (hl:laidOutB P=true) (hb:Below w.heap.size w W'):∀ {ts:List TypeId} {vs:List Value} {ds:List (DataW H)} {ps:List MemPlace},(∀ t∈ts,P.readableRec t=true∧t < P.types.size) →
  DataW.TrodAll enc P w 0 (fun _=>true) true ts vs ds ps→∀ sp:Nat→Bool,(∀ p∈ps,p.block < w.heap.size∧sp p.block=true)→DataW.TrodAll enc P W' 0 sp true ts vs ds ps
 | [],vs,ds,ps,hr,h,sp,hlt=>by
  obtain ⟨rfl,rfl,rfl⟩:=trodAll_nil h;rfl
 | t::ts,vs,ds,ps,hr,h,sp,hlt=>by
  obtain ⟨v,Ij,d,Ik,a,b,rfl,rfl,rfl,h1,h2⟩:=trodAll_cons h
  have ht:=hr t (uO ..)
  exact ⟨a,b,WideElems.Trod_stays hl ht.1 ht.2 h1 (fun x hx=>hb.same (hlt x (ut _ hx)).1) (fun x hx=>(hlt x (ut _ hx)).2),
   Il hl hb (fun t ht=>hr t (uL _ ht)) h2 sp (fun p hp=>hlt p (uz _ hp)),rfl⟩
end
theorem RB {H:Type} {enc:TypeId×Value→H} {P:Program} {f:Func} {s:ChangeSpec} {apart fresh handsOn again:Bool} {W W':World} {args:Array Value} {v:Value} {ds:List (DataW H)} {before:List MemPlace}
  (hW:DataW.Whole enc P f.params.toList s.vars apart W args.toList ds [] before)
  (hres:∀ (b:Nat) (sp:Nat→Bool) (hd:Bool),DataW.TrodAll enc P W' b sp hd f.resultTypes.toList (v.resultList f.resultTypes.size) (s.fn H (ds++[])).results [])
  (hargs:∀ sp:Nat→Bool,(∀ p∈before,sp p.block=true)→DataW.TrodAll enc P W' 0 sp true f.params.toList args.toList (s.fn H (ds++[])).args before)
  (hvars:∀ sp:Nat→Bool,DataW.TrodVars enc P W' sp s.vars (s.fn H (ds++[])).vars [])
  (hk:Below W.heap.size W W')
  (hok:∀ (j:Nat) (t:TypeId) (r:Value),f.resultTypes[j]?=some t→(v.resultList f.resultTypes.size)[j]?=some r→Value.okWide P W' .any 0 t r) :
  s.post enc P f apart fresh handsOn again W args v W':=by
 have hlt:∀ p∈before,p.block < W.heap.size:=fun p hp=>hW.lt p hp
 have hold:∀ p∈before,(fun b=>decide (b < W.heap.size)) p.block=true:=fun p hp=>by simpa using hlt p hp
 refine ⟨ds,[],before,[],before,[],hW,hres _ _ _,hargs _ hold,hvars _,hk.frame _,fun _ => ?_⟩
 obtain ⟨_,_,_,_,_,hz,hn⟩:=hW
 refine ⟨hok,_,_,([]++before)++[],⟨[]++before,[],trodAll_append (hargs _ (fun _ _=>rfl)) (hres _ _ _),hvars _,rfl,?_,?_⟩,?_⟩
 ·intro b off hp
  have hp':MemPlace.cell b off∈before:=by simpa using hp
  rw [hk.frozen (p:=⟨b,off,none⟩) (hlt _ hp')]
  exact hz b off hp'
 ·intro ha
  simpa using hn ha
 ·intro p hp _
  simpa using hp
theorem RC {H:Type} {enc:TypeId×Value→H} {Cx:Ctx} {f:FuncId} {fn:Func} {s:ChangeSpec} {tb:TypeId} {pO:List (Bool×List eC)} {apart fresh handsOn again:Bool} (n:Nat) (hn:Cx.ew n=f)
  (has:aL (A6 Cx.P) fn.params.toList=some pO) (hres:fn.resultTypes = #[tb]) (htb:Cx.P.underlying tb=some .bool) (hvars:s.vars=[])
  (hsp:∀ ds:List (DataW H),ds.length=fn.params.toList.length→s.fn H (ds++[])={results:=[.lit (.bool true)],args:=ds})
  (hlaid:laidOutB Cx.P=true) (hread:(fn.params.toList.all fun t=>Cx.P.readableRec t&&decide (t < Cx.P.types.size))=true)
  (D3:∀ dA,Ws pO dA→aJ Cx n dA (.bool true))
  (W:World) (hft:Cx.tabs.p W∧Cx.tabs.n≤W.heap.size)
  (base:Nat) (args:Array Value) (ds gs:List (DataW H)) (before:List MemPlace)
  (hval:∀ (j:Nat) t v,fn.params[j]?=some t→args[j]?=some v→Value.okWide Cx.P W .any base t v)
  (hW:DataW.Whole enc Cx.P fn.params.toList s.vars apart W args.toList ds gs before)
  (Cg:(DataW.weightsEach Cx.P (fn.params.toList++s.plain.varTypes Cx.P) (ds++gs)).all (· ≤ reachBytes)=true) :
  Calls Cx.P f args W fun e W'=>∃ v,e=.returned v∧s.post enc Cx.P fn apart fresh handsOn again W args v W':=by
 have tV:=hW
 obtain ⟨p,q,hA,hV,rfl,hfz,hnd⟩:=hW
 rw [hvars] at hV
 obtain ⟨rfl,rfl⟩:=trodVars_none hV
 have D4:s.plain.varTypes Cx.P=[]:=by
  have:s.plain.vars=[]:=hvars
  simp [DataSpec.varTypes,this]
 rw [D4,ux,ux] at Cg
 obtain ⟨dA,h1,h2⟩:=Ii has (fun j t v hj hv=>hval j t v (by simpa using hj) (by simpa using hv)) hA Cg
 subst hn
 have fZ:=(D3 dA h2).2 (nY W) W args.toList (fun b hb=>Rv hb) hft h1
 simp only [Array.toArray_toList] at fZ
 refine fZ.mono fun e W' ⟨v,Z',he,hr,_,_,hbel⟩ => ?_
 subst he
 cases hr
 have hlt:∀ x∈p++[],x.block < W.heap.size:=fun x hx=>by simpa using tV.lt x hx
 have hspec:=hsp ds (RA hA)
 simp only [ux] at tV hlt
 refine ⟨_,rfl,RB tV ?_ ?_ ?_ hbel ?_⟩
 ·intro b sp hd
  rw [hspec,hres]
  exact trodAll_cons_mk (shut_bool htb _) trodAll_mk0
 ·intro sp D5
  rw [hspec]
  exact Il hlaid hbel (fun t ht=>by have:=uQ.1 hread t ht;simpa using this) hA sp (fun x hx=>⟨hlt x hx,D5 x hx⟩)
 ·intro sp
  rw [hspec,hvars];rfl
 ·exact ok_one hres rfl (okWide_bool_mk htb _)
end
end Go.Proofs.YtlpmnmbebkdocaaGreatDoor
namespace Go.Proofs.YtlpmnmbebkdocaaGreatDoor
open Go.RowKit
set_option linter.unusedVariables false
def dR (k:IntKind) (n:Int):Prop:=k.min≤n∧n≤k.max
def lD {α:Type} (bL:Nat) (Ok:α→Prop) (l:List α):Prop:=l.length*bL≤reachBytes∧∀ x∈l,Ok x
theorem zh {t:eC} {ts:List eC} {row:List IV} (h:bU (t::ts) row):∃ c r,row=c::r∧gz t c∧bU ts r:=by
 obtain ⟨hl,hc⟩:=h
 cases row with
 | nil=>simp at hl
 | cons c r=>exact ⟨c,r,rfl,hc 0 t c rfl rfl,by simpa using hl,fun i u d hu hd=>hc (i+1) u d (by simpa using hu) (by simpa using hd)⟩
theorem qV {row:List IV} (h:bU [] row):row=[]:=List.eq_nil_of_length_eq_zero h.1
theorem zu {k:IntKind} {x:IV} (h:gz (.int k) x):∃ n,x=.int k n∧dR k n:=by cases h;exact ⟨_,rfl,by assumption⟩
theorem wd {x:IV} (h:gz .bool x):∃ b,x=.bool b:=by cases h;exact ⟨_,rfl⟩
theorem RD {x:IV} (h:gz .str x):∃ s,x=.str s∧s.size≤reachBytes:=by cases h;exact ⟨_,rfl,by assumption⟩
theorem Im {α:Type} {f:α→List IV} {Ok:α→Prop} {cN:List eC} (ho:∀ {row:List IV},bU cN row→∃ x,row=f x∧Ok x) :
  ∀ af:List (List IV),(∀ row∈af,bU cN row)→∃ l:List α,af=l.map f∧∀ x∈l,Ok x
 | [],_=>⟨[],rfl,fun x hx=>by cases hx⟩
 | row::af,h=>by
  obtain ⟨x,rfl,hx⟩:=ho (h row (uO ..))
  obtain ⟨l,rfl,hl⟩:=Im ho af fun r hr=>h r (uL _ hr)
  exact ⟨x::l,rfl,fun y hy=>by
   rcases uh.1 hy with rfl | hy
   ·exact hx
   ·exact hl y hy⟩
theorem qp {α:Type} {f:α→List IV} {Ok:α→Prop} {cN:List eC} {bL:Nat} {x:IV} (ho:∀ {row:List IV},bU cN row→∃ x,row=f x∧Ok x) (h:gz (.slice bL cN) x) :
  ∃ l:List α,x=.slice (l.map f)∧lD bL Ok l:=by
 cases h with
 | slice _ _ af hl hr hc=>
  obtain ⟨l,rfl,hk⟩:=Im ho af fun row h=>⟨hr row h,hc row h⟩
  exact ⟨l,rfl,by simpa using hl,hk⟩
theorem yy {row:List IV} (h:bU [.int .i64] row):∃ x:Int,row=zb x∧dR .i64 x:=by
 obtain ⟨c,_,rfl,h0,h⟩:=zh h
 obtain rfl:=qV h
 obtain ⟨n,rfl,k⟩:=zu h0
 exact ⟨n,rfl,k⟩
theorem Yi {row:List IV} (h:bU [.bool] row):∃ x:Bool,row=zg x∧True:=by
 obtain ⟨c,_,rfl,h0,h⟩:=zh h
 obtain rfl:=qV h
 obtain ⟨n,rfl⟩:=wd h0
 exact ⟨n,rfl,trivial⟩
theorem RF {α:Type} {f:α→List IV} {Ok:α→Prop} {cN:List eC} {bL:Nat} (ho:∀ {row:List IV},bU cN row→∃ x,row=f x∧Ok x) {row:List IV} (h:bU [.slice bL cN] row) :
  ∃ x:List α,row=zH f x∧lD bL Ok x:=by
 obtain ⟨c,_,rfl,h0,h⟩:=zh h
 obtain rfl:=qV h
 obtain ⟨l,rfl,k⟩:=qp ho h0
 exact ⟨l,rfl,k⟩
end Go.Proofs.YtlpmnmbebkdocaaGreatDoor
