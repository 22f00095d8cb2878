/-
  'StrategyAgain': for every input the call returns true, and each argument reads afterwards as it read before.
  The tables of the library that the rows list: from the row's condition to what the contracts ask; the witness.
  StrategyAgain: against the trace that results, the advice gives this trace.
  strategy.Follow: a play that is told is what it returns.
-/
import Derived.Test.YtjkljacdbljkpaaDoorSF11
import Derived.Test.YtjkljacdbljkpaaDoorRows
import Derived.Test.YtjkljacdbljkpaaDoorSF09
import Derived.LaidLaws
import Derived.LaidSub
import Derived.Deep.DeepLaidRun
import Derived.Lib.LaidTab
import Derived.JoinedOf
import Derived.Test.YtjkljacdbljkpaaDoorSF06
import Derived.Test.YtjkljacdbljkpaaDoorTie
import Derived.Test.YtjkljacdbljkpaaDoorCards
import Derived.SevenTiedAt
namespace Go.Proofs.YtjkljacdbljkpaaDoor
open Go.RowKit
set_option linter.unusedVariables false
set_option linter.unusedSimpArgs false
set_option maxRecDepth 100000
section
variable {c:ContractT} {party:Int} {s0:StateT} {a:ArenaT}
theorem follow_run (hc:c.Ok) (hB:d_Build c party=some (a,0)) (A:ArOk c party (atO s0) a) {others L:List Int} (hoth:∀ x∈others,-1≤x∧x < c.acts.length) (hol:others.length≤4000) (hL:L.length≤4000) (hfw:Fw c party s0 others [] L):d_Follow c party others=some (L,0):=by
  refine Ret.eq ?_
  unfold d_Follow
  refine Ret.bindE hB ?_
  refine Ret.ite (fun h=>by cases h) (fun _ => ?_)
  refine Ret.bind (P:=fun o:Unit ⊕ Unit=>o=.inl ()) (Ret.forL (fun i _=>True) (by omega) trivial (fun i _ hi _ => ?_) (fun _ _=>rfl)) ?_
  · have:=hoth _ (List.getElem_mem hi)
    refine Ret.bindE (idxI_at (List.getElem?_eq_getElem hi)) ?_
    refine Ret.bindE (v:=false) (by rw [decide_eq_false (show ¬ others[i] < -1 by omega),decide_eq_false (show ¬ (c.acts.length:Int)≤others[i] by omega)];rfl) ?_
    exact Ret.some trivial
  rintro _ rfl
  simp only [Sum.elim_inl]
  refine Ret.bindE (v:=decide (4000 < (others.length:Int))) rfl ?_
  refine Ret.ite (fun h=>by have:=of_decide_eq_true h;omega) (fun _ => ?_)
  refine Ret.bindE (safe_ret hc A) ?_
  refine Ret.bindE (advised_ret hc A) ?_
  have hadvI:∀ (j:Nat) (hj:j < a.positions.length),idxI (a.positions.map (advM c party)) (j:Int)=some (advM c party a.positions[j]):=fun j hj=>idxI_at (by rw [List.getElem?_map,List.getElem?_eq_getElem hj];rfl)
  have hp:=A.pos
  have hpos0:a.positions[0]=atO s0:=by have:=A.F.first;rw [List.getElem?_eq_getElem hp] at this;exact Option.some.inj this
  have hvs:∀ {j:Nat} {s:StateT} (hj:j < a.positions.length),a.positions[j]=atO s→VS c s:=fun hj h=>by
    have:=A.F.inv.vs _ (List.getElem_mem hj);rw [h] at this;exact this
  refine Ret.bind (P:=fun o:List Int ⊕ Unit=>o=.inl L) ?_ (fun o ho=>by subst ho;exact Ret.some rfl)
  refine Ret.bind (P:=fun o:(List Int×Int) ⊕ (List Int ⊕ Unit)=>(∃ x,o=.inl x∧x.1=L)∨o=.inr (.inl L))
    (Ret.forL (fun i x=>(∃ j,∃ hj:j < a.positions.length,x.2=(j:Int)∧a.positions[j]=atO (stF c s0 x.1))∧Fw c party s0 (others.drop i) x.1 L) (by omega)
      ⟨⟨0,hp,rfl,hpos0⟩,hfw⟩ (fun i x hi hx => ?_) (fun x hx => ?_)) ?_
  · obtain ⟨l,at0⟩:=x
    obtain ⟨⟨j,hj,hat,hpj⟩,hf⟩:=hx
    simp only at hat hpj hf ⊢
    subst hat
    rw [List.drop_eq_getElem_cons hi] at hf
    have hvl:=hvs hj hpj
    have ho:=hoth _ (List.getElem_mem hi)
    refine Ret.bindE (idxI_at (List.getElem?_eq_getElem hi)) ?_
    refine Ret.bindE (idxI_at (List.getElem?_eq_getElem hj)) ?_
    rw [hpj]
    refine Ret.ite (fun h => ?_) (fun h => ?_)
    · have hday:(stF c s0 l).day=c.days:=by simpa [atO] using h
      cases hf with
      | stop _=>exact Ret.some (.inr rfl)
      | own hd _ _ _=>exact absurd hday hd
      | oth hd _ _ _=>exact absurd hday hd
    have hday:(stF c s0 l).day≠c.days:=by
      intro e
      have h:((stF c s0 l).day == c.days)=false:=h
      rw [e,beq_self_eq_true] at h;cases h
    have hdlt:(stF c s0 l).day < c.days:=by have:=hvl.day;omega
    obtain ⟨l1,ha,hrest⟩:∃ l1,Adv c party s0 l l1∧((doerF c (stF c s0 l1) others[i]=party∧Fw c party s0 (others.drop (i+1)) l1 L)∨(doerF c (stF c s0 l1) others[i]≠party∧Fw c party s0 (others.drop (i+1)) (l1++[others[i]]) L)):=by
      cases hf with
      | stop h=>exact absurd h hday
      | own _ ha hp t=>exact ⟨_,ha,.inl ⟨hp,t⟩⟩
      | oth _ ha hp t=>exact ⟨_,ha,.inr ⟨hp,t⟩⟩
    have hl1L:l1.length≤4000:=by
      rcases hrest with ⟨_,t⟩ | ⟨_,t⟩
      · have:=t.pre.length_le;omega
      · have:=t.pre.length_le;rw [List.length_append] at this;omega
    refine Ret.bind (P:=fun v:List Int×Int=>v.1=l1∧(∃ j,∃ hj:j < a.positions.length,v.2=(j:Int)∧a.positions[j]=atO (stF c s0 v.1))∧(stF c s0 v.1).day < c.days) ?_ ?_
    · refine Ret.bind (P:=fun v:List Int×Int=>v.1=l1∧(∃ j,∃ hj:j < a.positions.length,v.2=(j:Int)∧a.positions[j]=atO (stF c s0 v.1))∧(stF c s0 v.1).day < c.days)
        (Ret.iter (fun v:List Int×Int=>(∃ j,∃ hj:j < a.positions.length,v.2=(j:Int)∧a.positions[j]=atO (stF c s0 v.1))∧(stF c s0 v.1).day < c.days∧Adv c party s0 v.1 l1) (fun v=>5000 - v.1.length)
          ⟨⟨j,hj,rfl,hpj⟩,hdlt,ha⟩ (fun v hv => ?_)) (fun v hv=>Ret.some hv)
      obtain ⟨l2,at1⟩:=v
      obtain ⟨⟨j1,hj1,hat1,hpj1⟩,hd1,hadv⟩:=hv
      simp only at hat1 hpj1 hd1 hadv ⊢
      subst hat1
      have hv1:=hvs hj1 hpj1
      have hlen2:=hadv.pre.length_le
      have hI:=hadvI j1 hj1
      rw [hpj1] at hI
      refine Ret.bindE (v:=(!(advM c party (atO (stF c s0 l2)) == -2)&&decide ((l2.length:Int)≤4000))) ?_ ?_
      · rw [hI]
        simp only [Option.bind_some]
        cases (advM c party (atO (stF c s0 l2)) == -2)<;>rfl
      rw [decide_eq_true (show (l2.length:Int)≤4000 by omega),Bool.and_true]
      cases hadv with
      | stop e=>
        rw [e]
        exact Ret.some ⟨rfl,⟨j1,hj1,rfl,hpj1⟩,hd1⟩
      | go e t=>
        rw [beq_eq_false_iff_ne.2 e]
        obtain ⟨b0,b1,_,_,_,b2⟩:=adv_act hc hv1 e
        refine Ret.bindE hI ?_
        refine Ret.bind (do_ret hc A hj1 hpj1 hd1 (by omega) b1 (by omega)) ?_
        rintro ⟨l3,at3⟩ ⟨g1,j3,hj3,g2,g3⟩
        simp only at g1 g2 g3
        subst g1 g2
        refine Ret.some ⟨⟨⟨j3,hj3,rfl,by rw [stF_snoc];exact g3⟩,by rw [stF_snoc,b2];exact hd1,t⟩,by show 5000 - (l2++[_]).length < 5000 - l2.length;simp;omega⟩
    rintro ⟨l2,at1⟩ ⟨e1,⟨j1,hj1,hat1,hpj1⟩,hd1⟩
    simp only at e1 hat1 hpj1 hd1 ⊢
    subst hat1 e1
    have hv1:=hvs hj1 hpj1
    refine Ret.bind (P:=fun v:List Int×Int=>(∃ j,∃ hj:j < a.positions.length,v.2=(j:Int)∧a.positions[j]=atO (stF c s0 v.1))∧Fw c party s0 (others.drop (i+1)) v.1 L) ?_ ?_
    · refine Ret.bindE (idxI_at (List.getElem?_eq_getElem hj1)) ?_
      rw [hpj1]
      refine Ret.bindE (doerS_ret hv1 ho.1 ho.2) ?_
      rcases hrest with ⟨hd2,t⟩ | ⟨hd2,t⟩
      · rw [hd2,beq_self_eq_true]
        exact Ret.some ⟨⟨j1,hj1,rfl,hpj1⟩,t⟩
      · rw [beq_eq_false_iff_ne.2 hd2]
        refine Ret.bind (do_ret hc A hj1 hpj1 hd1 ho.1 ho.2 (by omega)) ?_
        rintro ⟨l3,at3⟩ ⟨g1,j3,hj3,g2,g3⟩
        simp only at g1 g2 g3
        subst g1 g2
        exact Ret.some ⟨⟨j3,hj3,rfl,by rw [stF_snoc];exact g3⟩,t⟩
    rintro ⟨l3,at3⟩ ⟨hp3,t⟩
    simp only at hp3 t ⊢
    have:=t.pre.length_le
    refine Ret.ite (fun h=>by have:=of_decide_eq_true h;omega) (fun _ => ?_)
    exact Ret.some ⟨hp3,t⟩
  · obtain ⟨_,hf⟩:=hx
    rw [List.drop_length] at hf
    cases hf
    exact .inl ⟨x,rfl,rfl⟩
  · rintro _ (⟨x,rfl,h⟩ | rfl)
    · rw [←h];exact Ret.some rfl
    · exact Ret.some rfl
end
end Go.Proofs.YtjkljacdbljkpaaDoor
namespace Go.Proofs.YtjkljacdbljkpaaDoor
open Go.RowKit
set_option linter.unusedVariables false
set_option linter.unusedSimpArgs false
set_option maxRecDepth 100000
section
variable {c:ContractT} {party:Int} {s0:StateT}
theorem step_hold (hc:c.Ok) (hk:∀ x∈c.acts,x.kind=1) {s:StateT} (hv:VS c s) {x:Int} (h0 : -1≤x) (h1:x < c.acts.length) (hd:s.day < c.days):(stepS c s x).holders=s.holders:=by
  obtain ⟨_,_,ht,ha⟩:=step_ok hc hv h0 h1 hd
  by_cases e:x = -1
  · exact (ht e).2.1
  · obtain ⟨i,rfl⟩:∃ i:Nat,x=(i:Int):=⟨x.toNat,by omega⟩
    have hi:i < c.acts.length:=by omega
    rcases ha i c.acts[i] rfl (List.getElem?_eq_getElem hi) with ⟨_,_,e⟩ | ⟨_,_,e,_⟩
    · rw [e]
    · rw [e];unfold hs3;rw [hk _ (List.getElem_mem hi)];rfl
theorem tr_hold (hc:c.Ok) (hk:∀ x∈c.acts,x.kind=1) (hv0:VS c s0) {P:StateT→Prop} {l:List Int} (h:TrOk c P s0 l):∀ k,k≤l.length→(stF c s0 (l.take k)).holders=s0.holders
  | 0,_=>by rw [List.take_zero];rfl
  | k+1,hk1=>by
    obtain ⟨a1,a2,a3,_⟩:=h.step k (by omega)
    rw [List.take_succ_eq_append_getElem (by omega),stF_snoc,step_hold hc hk (h.vs hc hv0 k (by omega)) a2 a3 a1]
    exact tr_hold hc hk hv0 h k (by omega)
theorem doerF_hold {s t:StateT} (h:s.holders=t.holders) (x:Int):doerF c s x=doerF c t x:=by unfold doerF;rw [h]
theorem Adv.fin {l l1:List Int} (h:Adv c party s0 l l1):advM c party (atO (stF c s0 l1)) = -2:=by
  induction h with
  | stop h=>exact h
  | go _ _ ih=>exact ih
theorem Adv.own {L:List Int} (hold:∀ k,k≤L.length→(stF c s0 (L.take k)).holders=s0.holders) {l l1:List Int} (h:Adv c party s0 l l1):l1 <+: L→∀ j (hj:j < L.length),l.length≤j→j < l1.length→doerF c s0 L[j]=party:=by
  induction h with
  | stop _=>intro _ j _ h1 h2;omega
  | go h t ih=>
    intro hp j hj h1 h2
    rename_i l l1
    by_cases e:j=l.length
    · subst e
      obtain ⟨_,h3,_⟩:=pre_snoc (t.pre.trans hp)
      have h4:=adv_doer h
      have h5:l=L.take l.length:=pre_take ((List.prefix_append _ _).trans (t.pre.trans hp))
      have h6:=hold l.length (by omega)
      rw [←h5] at h6
      rw [h3,←doerF_hold h6];exact h4
    · exact ih hp j hj (by rw [List.length_append];simp;omega) h2
theorem Fw.phase {os l L:List Int} (h:Fw c party s0 os l L) (hlen:l.length < L.length) (hday:∀ l1,Adv c party s0 l l1→l1 <+: L→l1.length < L.length→(stF c s0 l1).day≠c.days):∃ l1 os2,Adv c party s0 l l1∧l1 <+: L∧Fw c party s0 os2 l1 L:=by
  cases h with
  | done=>omega
  | stop _=>omega
  | own _ ha hp t=>exact ⟨_,_,ha,t.pre,t⟩
  | oth _ ha hp t=>
    have hpre:=(List.prefix_append _ _).trans t.pre
    have h1:=t.pre.length_le
    rw [List.length_append] at h1
    simp only [List.length_cons,List.length_nil] at h1
    exact ⟨_,_,ha,hpre,.oth (hday _ ha hpre (by omega)) (.stop ha.fin) hp t⟩
theorem Fw.stays {os l L:List Int} (h:Fw c party s0 os l L) (hd:(stF c s0 l).day=c.days):l=L:=by
  cases h with
  | done=>rfl
  | stop _=>rfl
  | own h _ _ _=>exact absurd hd h
  | oth h _ _ _=>exact absurd hd h
theorem again (hc:c.Ok) (hk:∀ x∈c.acts,x.kind=1) (hv0:VS c s0) {L:List Int} (ht:TrOk c Any s0 L):∀ (d i m:Nat) (os:List Int),L.length - i=d→i≤m→m≤L.length→(∀ j (hj:j < L.length),i≤j→j < m→doerF c s0 L[j]=party)→(i < m→advM c party (atO (stF c s0 (L.take m))) = -2) →
    Fw c party s0 os (L.take m) L→Fw c party s0 (L.drop i) (L.take m) L:=by
  have hold:=tr_hold hc hk hv0 ht
  intro d
  induction d with
  | zero=>
    intro i m os hd him hm _ _ _
    have e1:m=L.length:=by omega
    rw [List.drop_eq_nil_of_le (by omega),e1,List.take_length]
    exact .done
  | succ d ih=>
    intro i m os hd him hm hown hadv hf
    have hi:i < L.length:=by omega
    rw [List.drop_eq_getElem_cons hi]
    have htl:(L.take m).length=m:=by rw [List.length_take];omega
    by_cases hdm:(stF c s0 (L.take m)).day=c.days
    · have e:=hf.stays hdm
      have key:∀ M,M=L.take m→Fw c party s0 (L[i]::L.drop (i+1)) (L.take m) M:=fun M hM=>by rw [hM];exact .stop hdm
      exact key L e.symm
    by_cases him2:i < m
    · refine .own hdm (.stop (hadv him2)) ?_ (ih (i+1) m os (by omega) (by omega) hm (fun j hj h1 h2=>hown j hj (by omega) h2) (fun _=>hadv him2) hf)
      rw [doerF_hold (hold m hm)]
      exact hown i hi (Nat.le_refl _) him2
    · obtain rfl:i=m:=by omega
      obtain ⟨l1,os2,ha,hpre,hf2⟩:=hf.phase (by rw [htl];exact hi) (fun l1 _ hpre hlt=>by
        have h1:=(ht.step l1.length hlt).1
        rw [←pre_take hpre] at h1
        omega)
      have hl1:=hpre.length_le
      have hl0:=ha.pre.length_le
      rw [htl] at hl0
      have el1:=pre_take hpre
      by_cases hgt:i < l1.length
      · have hown2:=ha.own hold hpre
        rw [htl] at hown2
        refine .own hdm ha ?_ ?_
        · rw [el1,doerF_hold (hold l1.length hl1)]
          exact hown2 i hi (Nat.le_refl _) hgt
        · have:=ih (i+1) l1.length os2 (by omega) (by omega) hl1 (fun j hj h1 h2=>hown2 j hj (by omega) h2) (fun _=>by rw [←el1];exact ha.fin) (by rw [←el1];exact hf2)
          rw [←el1] at this;exact this
      · have e2:l1.length=i:=by omega
        have e3:l1=L.take i:=by rw [el1,e2]
        rw [e3] at ha hf2
        have hvi:=ht.vs hc hv0 i (by omega)
        rcases hf2.next hc hv0 hvi (by rw [htl];exact hi) with ⟨g1,_,_⟩ | ⟨sk2,o,os3,_,_,g3,g4,g5,g6⟩
        · exact absurd ha.fin g1
        · obtain ⟨_,hLo,htk⟩:=pre_snoc g5
          simp only [htl] at hLo htk
          refine .oth hdm ha (by rw [hLo];exact g4) ?_
          rw [hLo,←htk]
          exact ih (i+1) (i+1) os3 (by omega) (Nat.le_refl _) (by omega) (fun j hj h1 h2=>by omega) (fun h=>by omega) (by rw [htk];exact g6)
end
theorem s_Ints18 (a b:List Int) (ha:a.length < 4611686018427387904):a=b→d_Ints18 a b=some true:=by
  intro e
  subst e
  unfold d_Ints18
  rw [beq_self_eq_true,cond_true,all_true ha (fun j hj=>by
    rw [idxI_at (List.getElem?_eq_getElem hj)]
    simp)]
  rfl
theorem m_StrategyAgain (c:ContractT) (party:Int) (others:List Int) (hc:ContractT.Ok c) (hparty:InK .i64 party) (ho:LOk 8 (fun x:Int=>InK .i64 x) others):d_StrategyAgain c party others=some true:=by
  refine Ret.eq ?_
  unfold d_StrategyAgain
  refine Ret.bindE s_head20 ?_
  refine Ret.bind (ok20_ret hc others) ?_
  intro b _
  refine Ret.ite (fun _ => ?_) (fun _=>Ret.some rfl)
  refine Ret.bind (P:=fun o:Unit ⊕ Unit=>o=.inr ()∨(o=.inl ()∧∀ x∈c.acts,x.kind=1)) (Ret.forL (fun i _=>∀ (j:Nat) (hj:j < c.acts.length),j < i→c.acts[j].kind=1) (hc.acts.lt (by omega)) (fun j _ h=>by omega) (fun i _ hi h => ?_) (fun _ h=>.inr ⟨rfl,fun x hx=>by obtain ⟨j,hj,rfl⟩:=List.getElem_of_mem hx;exact h j hj hj⟩)) ?_
  · refine Ret.bindE (idxI_at (List.getElem?_eq_getElem hi)) ?_
    refine Ret.ite (fun hq=>Ret.some fun j hj hji => ?_) (fun _=>Ret.some (.inl rfl))
    by_cases e:j=i
    · subst e;simpa using hq
    · exact h j hj (by omega)
  rintro _ (rfl | ⟨rfl,hk⟩)
  · exact Ret.some rfl
  simp only [Sum.elim_inl]
  refine Ret.bind (follow_ret hc party others (ho.lt (by omega))) ?_
  rintro ⟨L,e2⟩ hfol
  rcases hfol with ⟨h1,h2⟩ | ⟨h1,s0,a,hst,hB,A,hv0,ht,hfw,hl,hos⟩
  · simp only at h1 h2
    rw [show (((L,e2):List Int×Int).2 == 0)=false from beq_eq_false_iff_ne.2 h1]
    exact Ret.some rfl
  simp only at h1 ht hfw hl
  subst h1
  refine Ret.ite (fun _ => ?_) (fun h=>by cases h)
  have h2:=again hc hk hv0 ht L.length 0 0 others (by omega) (Nat.le_refl _) (Nat.zero_le _) (fun j _ _ h=>by omega) (fun h=>by omega) (by rw [List.take_zero];exact hfw)
  rw [List.drop_zero,List.take_zero] at h2
  have hLo:∀ x∈L,-1≤x∧x < c.acts.length:=fun x hx=>by
    obtain ⟨j,hj,rfl⟩:=List.getElem_of_mem hx
    obtain ⟨_,a2,a3,_⟩:=ht.step j hj
    exact ⟨a2,a3⟩
  refine Ret.bindE (follow_run hc hB A hLo hl hl h2) ?_
  refine Ret.bindE (v:=true) ?_ (Ret.some rfl)
  rw [s_Ints18 L L (by omega) rfl];rfl
end Go.Proofs.YtjkljacdbljkpaaDoor
namespace Go.Proofs.YtjkljacdbljkpaaDoor
open Go.ChangeShapes Go.WideShapes Go.RowKit
set_option maxRecDepth 100000
abbrev laidL : List (String × DataW Unit) := [("math/bits.deBruijn32tab", Rows.laid_math_bits_deBruijn32tab), ("math/bits.deBruijn64tab", Rows.laid_math_bits_deBruijn64tab), ("internal/strconv.uint64pow10", Rows.laid_internal_strconv_uint64pow10)]
theorem pow_data:(laidL.filter fun x=>x.1 == powName)=[(powName,Lib.tabData .u64 Lib.pow10Tab)]:=by kernel_rfl
theorem tabs_of_laid {W:World} (h:laidMet Tryd.prog laidL W):C0.tabs.p W∧C0.tabs.n≤W.heap.size:=by
  have h1:=h.filter (fun x=>x.1 == powName)
  rw [pow_data] at h1
  have h2:C0.tabs.p W:=Lib.tabIs_of_head (g:=0) (t:=((Tryd.prog.globals[0]?).map (·.type)).getD 0) (e:=134) (n:=20)
    (by kernel_rfl) (by kernel_rfl) (by kernel_rfl) (by kernel_rfl) (by kernel_rfl) (by kernel_rfl) h1
  exact ⟨h2,tabs0_size h2⟩
def cellsD:DataW Unit→Array Value
  | .agg ds=>(ds.map fun d=>match d with | .lit (.int k n)=>Value.int k n | _=>Value.bool false).toArray
  | _ => #[]
def setTab (w:World) (g:Nat) (d:DataW Unit):World:={w with heap:=w.heap.modify g fun | .cells _ t f=>.cells (cellsD d) t f | o=>o}
noncomputable def laidWorld (os:Os):World:=
  setTab (setTab (setTab (World.holding Tryd.prog os ⟨#[],#[],[]⟩) 1 Rows.laid_math_bits_deBruijn32tab) 2 Rows.laid_math_bits_deBruijn64tab) 0 Rows.laid_internal_strconv_uint64pow10
theorem laidWorld_met (os:Os) (args:Array Value):laidMet Tryd.prog laidL ((laidWorld os).forCall (fun _ _=>0) ⟨#[],args,[]⟩).memory:=
  laidMet_of_run3 8 (by kernel_rfl) (by kernel_rfl) (by kernel_rfl)
end Go.Proofs.YtjkljacdbljkpaaDoor
namespace Go.Proofs.YtjkljacdbljkpaaDoor.LStrategyAgain
open Go.ChangeShapes Go.WideShapes Go.ChangeAt Go.RowKit
set_option linter.unusedVariables false
set_option maxRecDepth 100000
theorem all (ivs:List IV) (h:HasArgs [(true,ContractT.tys),(false,[.int .i64]),(false,[.slice 8 [.int .i64]])] ivs):APure C0 144 ivs (.bool true):=by
  match ivs,h with
  | [x0,x1,x2],⟨a0,a1,a2,_⟩=>
    obtain ⟨row0,rfl,r0⟩:=a0
    obtain ⟨c,rfl,ok_c⟩:=ContractT.opn r0
    obtain ⟨c1,_,e1,k1,n1⟩:=hcs_cons a1
    cases e1
    obtain ⟨party,rfl,ok_party⟩:=hasC_int k1
    obtain ⟨c2,_,e2,k2,n2⟩:=hcs_cons a2
    cases e2
    obtain ⟨others,rfl,ok_others⟩:=hasC_slice open_i64 k2
    exact t_StrategyAgain c party others true (m_StrategyAgain c party others ok_c ok_party ok_others)
theorem own:ownKnob Tryd.prog.godebug=none:=by kernel_rfl
theorem laid:laidOutB Tryd.prog=true:=by kernel_rfl
theorem args:mapO (argC Tryd.prog) Tryd.f3.params.toList=some [(true,ContractT.tys),(false,[.int .i64]),(false,[.slice 8 [.int .i64]])]:=by kernel_rfl
theorem lifted (os:Os) (started:os.Started) (H:Type) (enc:TypeId×Value→H) :
    ReturnsInHanded {} Tryd.checked os 3 .any (fun w args=>(Rows.strategyAgainSpec.pre enc Tryd.prog Tryd.f3 [] false w args∧laidMet Tryd.prog laidL w)∧sizedMet enc Tryd.prog Tryd.f3 (OpenSpec.ofChange Rows.strategyAgainSpec) false w args) (Rows.strategyAgainSpec.post enc Tryd.prog Tryd.f3 false true false false):=by
  refine returnsInHanded_of_change_and (C:=Tryd.checked) (X:=fun w _=>laidMet Tryd.prog laidL w) (fun _ _ _ hh h=>h.of_heap hh) own started (by kernel_rfl) Tryd.func3
    (ChangeSpec.witness_at (enc:=enc) (C:=Tryd.checked) (os:=os) (X:=fun w _=>laidMet Tryd.prog laidL w) false (laidWorld os) #[.agg #[.int .i64 0,.slice none 0 0,.slice none 0 0,.slice none 0 0,.slice none 0 0,.int .i64 0,.slice none 0 0],.int .i64 0,.slice none 0 0] 8 rfl (by kernel_rfl) (by kernel_rfl) (by kernel_rfl) (by kernel_rfl) (by kernel_rfl) (laidWorld_met os _)) ?_
  intro W base args ds gs before hval hW _ hwt hL _
  exact law_contract (Cx:=C0) (tb:=4) 144 rfl LStrategyAgain.args rfl (by kernel_rfl) rfl
    (fun ds h=>by match ds,h with | [_,_,_],_=>rfl) LStrategyAgain.laid (by kernel_rfl) LStrategyAgain.all W (tabs_of_laid hL) base args ds gs before hval hW hwt
theorem said:Rows.StrategyAgainSaid:=
  OpenClaim.holds_of_wide 3 Tryd.f3 rfl rfl rfl rfl rfl rfl rfl ⟨rfl,rfl,rfl,rfl,rfl⟩ rfl rfl rfl rfl rfl (by kernel_rfl) Tryd.func3 (by kernel_rfl)
    (of_decide_eq_true (by kernel_rfl)) (by unfold Func.isWrapper;first | (rw [if_pos (by decide +kernel)];kernel_rfl) | (rw [if_neg (by decide +kernel)];exact ⟨rfl,rfl⟩))
    (fun os started H enc _=>lifted os started H enc)
theorem holds:Rows.StrategyAgainCardSaid:=
  Claim7.holds_tied_plain_at .later [] [.data, .data, .data] true (true, "94758beab3a224d1d04748c404db287718d4095c7f830e28774aac0f29ec07c5") false
    said (fun _ h=>by cases h) (by kernel_rfl) (fun _ h=>by cases h) strategyAgain_row_tie rfl ⟨rfl,rfl⟩ (by kernel_rfl) rfl
    (fun f fn hf hfn=>by
      obtain rfl : f = 3 := Option.some.inj ((show Tryd.prog.funcNamed "estoppel/estoppellaw20.StrategyAgain" = some 3 by kernel_rfl).symm.trans hf) |>.symm
      obtain rfl:fn=Tryd.f3:=(Option.some.inj (Tryd.func3.symm.trans hfn)).symm
      refine ⟨by kernel_rfl,fun j t ht => ?_⟩
      have hall:(Tryd.f3.params.toList.all fun t => !(Tryd.prog.wantsStandIn t))=true:=by kernel_rfl
      have:=List.all_eq_true.1 hall t (by rw [Array.mem_toList_iff];exact Array.mem_of_getElem? ht)
      have h2:Tryd.prog.wantsStandIn t=false:=by simpa using this
      exact h2)
    (by kernel_rfl)
end Go.Proofs.YtjkljacdbljkpaaDoor.LStrategyAgain
namespace Go.Proofs.YtjkljacdbljkpaaDoor
theorem strategyAgain_holds:Rows.StrategyAgainCardSaid:=LStrategyAgain.holds
end Go.Proofs.YtjkljacdbljkpaaDoor
