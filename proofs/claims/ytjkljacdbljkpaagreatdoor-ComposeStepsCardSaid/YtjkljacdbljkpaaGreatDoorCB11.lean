/-
  What 'contract.Valid' comes to.
  What Valid says.
  What 'slices.BinarySearch' comes to; sizes of valid contracts.
  What 'system.Valid' comes to.
  What is known of a valid contract; what 'start' does.
  What 'system.Step' does.
  What an act does.
  'system.Step': what it returns.
  'arena.Moves' and 'arena.After': what they return.
  What 'slices.BinarySearch' and 'contract.Part' come to.
  States of parts of a contract: a step of the contract is a step of each part.
  Trees of clauses: what 'root', 'join' and 'gather' of package contract come to.
  What 'contract.Components' and the law's 'part' come to.
-/
import Derived.Test.YtjkljacdbljkpaaGreatDoorCB10
import Derived.Test.YtjkljacdbljkpaaGreatDoorCB06
namespace Go.Proofs.YtjkljacdbljkpaaGreatDoor
set_option linter.unusedVariables false
set_option linter.unusedSimpArgs false
set_option maxRecDepth 100000
theorem gcd_total (a b:Int):∃ r,iter (σ:=Int×Int) (ρ:=Int) (fun s2=>(bif (s2.2 == 0) then some (.inr s2.1) else (Option.bind (remI .u64 s2.1 s2.2) fun e2=>some (.inl (s2.2,e2))))) (a,b)=some r:=by
  have:=iter_rule (f:=fun s2:Int×Int=>(bif (s2.2 == 0) then some (.inr s2.1) else (Option.bind (remI .u64 s2.1 s2.2) fun e2=>some (.inl (s2.2,e2))))) (fun _=>True) (fun _:Int=>True) (fun s=>s.2.natAbs) (fun s _=>by
    by_cases h:s.2=0
    · exact ⟨.inr s.1,by simp [h],trivial⟩
    · refine ⟨.inl (s.2,s.1.tmod s.2),by simp [beq_eq_false_iff_ne.2 h,h,remI],trivial,?_⟩
      show (s.1.tmod s.2).natAbs < s.2.natAbs
      rw [Int.natAbs_tmod]
      exact Nat.mod_lt _ (by omega)) (a,b) trivial
  obtain ⟨r,h,_⟩:=this
  exact ⟨r,h⟩
theorem divisor_total (l:List Int) (hl:l.length < 1000):∃ r,d_divisor l=some r:=by
  unfold d_divisor
  obtain ⟨o,h1,h2⟩:=forR_ruleL (n:=l.length) (s0:=(0:Int)) (f:=(fun i1 s1=>(Option.bind (Option.bind (idxI l (i1:Int)) fun e1=>(Option.bind (iter (σ:=Int×Int) (ρ:=Int) (fun s2=>(bif (s2.2 == 0) then some (.inr s2.1) else (Option.bind (remI .u64 s2.1 s2.2) fun e2=>some (.inl (s2.2,e2))))) (s1,e1)) (fun (y1:Int)=>some y1))) fun (v1:Int)=>some (.inl v1)))) (fun _ _=>True) (fun _:Unit=>False) (by omega) trivial (fun i s hi _=>by
    obtain ⟨r,hr⟩:=gcd_total s l[i]
    exact ⟨.inl r,by simp only [idxI_nat',List.getElem?_eq_getElem hi,Option.bind_some,hr],trivial⟩)
  rw [h1]
  cases o with
  | inl s=>exact ⟨s,rfl⟩
  | inr r=>exact h2.elim
theorem magnitude_total (n:Int):∃ r,d_magnitude n=some r:=by
  unfold d_magnitude;simp only [cond_some];exact ⟨_,rfl⟩
noncomputable def rvB (r:Ratio):Bool:=(d_ratioValid r).getD false
theorem s_ratioValid (r:Ratio):d_ratioValid r=some (rvB r):=by
  have:∃ b,d_ratioValid r=some b:=by
    unfold d_ratioValid
    obtain ⟨a,ha⟩:=magnitude_total r.num
    obtain ⟨b,hb⟩:=magnitude_total r.den
    obtain ⟨g,hg⟩:=divisor_total [a,b] (by simp)
    simp only [ha,hb,hg,cond_some,Option.bind_some]
    exact ⟨_,rfl⟩
  obtain ⟨b,hb⟩:=this
  unfold rvB;rw [hb];rfl
def snd0 (x:Option (Int×Bool)):Bool:=(x.getD (0,false)).2
theorem snd0_of {x:Option (Int×Bool)} {r:Int×Bool} (h:x=some r):x=some (r.1,snd0 x):=by subst h;rfl
noncomputable def quB (l:List UnitT):Bool:=snd0 (d_quantityValid l)
theorem unitValid_total (t:List UnitT) (i:Nat) (hi:i < t.length) (ht:t.length < 1000):∃ b,d_unitValid t i=some b:=by
  unfold d_unitValid
  have hs:slcI t 0 (i:Int)=some (t.take i):=by
    unfold slcI;rw [if_pos ⟨by omega,by omega,by omega⟩];simp
  have hf:forR (σ:=Unit) (ρ:=Unit) ((t.take i).length:Int) (fun i1 s1=>(Option.bind (idxI (t.take i) (i1:Int)) fun e3=>(bif (e3.name.toList == t[i].name.toList) then some (.inr ()) else some (.inl ())))) ()=some (match (List.range (t.take i).length).find? (fun j => !(match (t.take i)[j]? with | some e => !(e.name.toList == t[i].name.toList) | none=>true)) with | none=>.inl () | some j=>.inr ()):=by
    refine forR_first _ (fun _=>()) (by simp;omega) (fun j hj => ?_)
    simp only [idxI_nat',List.getElem?_eq_getElem hj,Option.bind_some]
    cases ((t.take i)[j].name.toList == t[i].name.toList)<;>rfl
  rw [idxI_at (List.getElem?_eq_getElem hi)]
  simp only [Option.bind_some]
  rw [hs]
  simp only [Option.bind_some]
  rw [hf]
  simp only [s_ratioValid,cond_some,Option.bind_some,d_isIndex]
  split
  all_goals simp only [Sum.elim_inl,Sum.elim_inr,cond_some]
  · by_cases hb:0≤t[i].base∧t[i].base < t.length
    · obtain ⟨h1,h2⟩:=idxI_lt hb.1 hb.2
      simp only [h2,Option.bind_some,cond_some]
      exact ⟨_,rfl⟩
    · by_cases h1:0≤t[i].base
      · have:¬ t[i].base < t.length:=fun h=>hb ⟨h1,h⟩
        simp only [h1,this,decide_true,decide_false,cond_true,cond_false,Option.bind_some,cond_some]
        exact ⟨_,rfl⟩
      · simp only [h1,decide_false,cond_false,Option.bind_some,cond_some]
        exact ⟨_,rfl⟩
  · exact ⟨_,rfl⟩
theorem s_quantityValid (l:List UnitT) (hl:l.length < 1000):∃ k,d_quantityValid l=some (k,quB l):=by
  have:∃ r,d_quantityValid l=some r:=by
    unfold d_quantityValid
    obtain ⟨o,h1,h2⟩:=forR_ruleL (n:=l.length) (s0:=()) (f:=(fun i1 s1=>(Option.bind (d_unitValid l (i1:Int)) fun r1=>(bif r1 then some (.inl ()) else some (.inr (i1:Int)))))) (fun _ _=>True) (fun _:Int=>True) (by omega) trivial (fun i s hi _=>by
      obtain ⟨b,hb⟩:=unitValid_total l i hi hl
      cases b with
      | true=>exact ⟨.inl (),by simp [hb],trivial⟩
      | false=>exact ⟨.inr i,by simp [hb],trivial⟩)
    rw [h1]
    cases o with
    | inl s=>exact ⟨_,rfl⟩
    | inr r=>exact ⟨_,rfl⟩
  obtain ⟨r,hr⟩:=this
  exact ⟨r.1,snd0_of hr⟩
def movB (nh:Nat) (r:Int):Bool:=decide (0≤r)&&decide (r < nh)
theorem s_movable (c:ContractT) (r:Int):d_movable c r=some (movB c.holders.length r):=by
  simp only [d_movable,cond_some,Option.bind_some,movB,Bool.cond_false_right]
noncomputable def posB (r:Ratio):Bool:=decide (0 < r.num)&&rvB r
theorem s_positive (r:Ratio):d_positive r=some (posB r):=by
  simp only [d_positive,s_ratioValid,cond_some,Option.bind_some,posB,Bool.cond_false_right]
def noneB (r:Ratio):Bool:=r.num == 0&&(r.den == 1&&true)
noncomputable def actB (nh nu:Nat) (parties:Int) (a:ActT):Bool:=
  bif movB nh a.role then
    (bif a.kind == 1 then (a.give == 0&&(a.to == -1||movB nh a.to))&&(bif a.unit == -1 then noneB a.lot else (decide (0≤a.unit)&&(decide (a.unit < nu)&&posB a.lot)))
    else (a.kind == 2||a.kind == 3)&&(movB nh a.give&&(decide (0≤a.to)&&(decide (a.to < parties)&&(a.unit == -1&&noneB a.lot)))))
  else a.kind == 1&&(a.role == -1&&(a.give == 0&&((a.to == -1||movB nh a.to)&&(a.unit == -1&&noneB a.lot))))
theorem s_validAct (c:ContractT) (a:ActT):d_validAct c a=some (actB c.holders.length c.units.length c.parties a):=by
  simp only [d_validAct,s_movable,s_positive,d_none,Option.bind_some,cond_some,actB,noneB]
  cases movB c.holders.length a.role<;>cases (a.kind == 1)<;>cases (a.give == 0)<;>cases (a.to == -1)<;>cases (movB c.holders.length a.to)<;>cases (a.unit == -1) <;>
    simp only [cond_true,cond_false,Bool.not_true,Bool.not_false,Option.bind_some,Bool.true_or,Bool.false_or,Bool.true_and,Bool.false_and,cond_some,Bool.cond_false_right,Bool.cond_self,Bool.and_false] <;>
    first | rfl | (cases (a.role == -1)<;>rfl) | (cases (a.kind == 2)<;>rfl)
def heldB (parties:Int) (hs:List Int):Bool:=hs.all fun h=>decide (0≤h)&&decide (h < parties)
theorem s_held (c:ContractT) (hp:c.parties < 4611686018427387904) (hl:c.holders.length < 4611686018427387904):d_held c=some (heldB c.parties c.holders):=by
  unfold d_held
  have hin:∀ (i:Nat) (hi:i < c.holders.length),(Option.bind (α:=Unit ⊕ Unit) (Option.bind (forR (σ:=Unit) (ρ:=Unit) c.parties (fun i2 s2=>(Option.bind (idxI c.holders (i:Int)) fun e1=>(bif (e1 == (i2:Int)) then some (.inr ()) else some (.inl ())))) ()) (Sum.elim (fun (s2:Unit)=>some (.inr ())) (fun (y1:Unit)=>some (.inl ())))) (Sum.elim (fun (v1:Unit)=>some (.inl ())) (fun (y2:Unit)=>some (.inr ())))) =
      some (bif decide (0≤c.holders[i])&&decide (c.holders[i] < c.parties) then (.inl ():Unit ⊕ Unit) else .inr ()):=fun i hi=>by
    obtain ⟨o,h1,h2⟩:=forR_rule (n:=c.parties) (s0:=()) (f:=(fun i2 s2=>(Option.bind (idxI c.holders (i:Int)) fun e1=>(bif (e1 == (i2:Int)) then some (.inr ()) else some (.inl ()))))) (fun k _=>∀ j:Nat,j < k→c.holders[i]≠(j:Int)) (fun _:Unit=>0≤c.holders[i]∧c.holders[i] < c.parties) hp (fun j hj=>by omega) (fun k s hk hI=>by
      simp only [idxI_nat',List.getElem?_eq_getElem hi,Option.bind_some]
      by_cases he:c.holders[i]=(k:Int)
      · exact ⟨.inr (),by simp [he],by show 0≤c.holders[i]∧c.holders[i] < c.parties;omega⟩
      · refine ⟨.inl (),by rw [beq_eq_false_iff_ne.2 he];rfl,fun j hj => ?_⟩
        rcases Nat.lt_or_ge j k with h | h
        · exact hI j h
        · obtain rfl:j=k:=by omega
          exact he)
    rw [h1]
    cases o with
    | inl s=>
      have:¬ (0≤c.holders[i]∧c.holders[i] < c.parties):=fun h=>h2 c.holders[i].toNat (by omega) (by omega)
      have hb:(decide (0≤c.holders[i])&&decide (c.holders[i] < c.parties))=false:=by
        rw [Bool.eq_false_iff];simp only [ne_eq,Bool.and_eq_true,decide_eq_true_eq];exact this
      rw [hb];rfl
    | inr r=>
      have hb:(decide (0≤c.holders[i])&&decide (c.holders[i] < c.parties))=true:=by
        simp only [Bool.and_eq_true,decide_eq_true_eq];exact h2
      rw [hb];rfl
  rw [forR_first (fun i=>match c.holders[i]? with | some h=>decide (0≤h)&&decide (h < c.parties) | none=>true) (fun _=>()) hl (fun i hi=>by
    rw [hin i hi];simp only [List.getElem?_eq_getElem hi])]
  cases hf:(List.range c.holders.length).find? (fun j => !(match c.holders[j]? with | some h=>decide (0≤h)&&decide (h < c.parties) | none=>true)) with
  | none=>
    simp only [Option.bind_some,Sum.elim_inl]
    have:heldB c.parties c.holders=true:=List.all_eq_true.2 fun h hh=>by
      obtain ⟨i,hi,rfl⟩:=List.getElem_of_mem hh
      have:=find_none hf i hi
      simpa only [List.getElem?_eq_getElem hi] using this
    rw [this]
  | some k=>
    simp only [Option.bind_some,Sum.elim_inr]
    obtain ⟨h1,h2,_⟩:=find_some hf
    have:heldB c.parties c.holders=false:=by
      rw [Bool.eq_false_iff]
      intro h
      have:=List.all_eq_true.1 h c.holders[k] (List.getElem_mem h1)
      simp only [List.getElem?_eq_getElem h1] at h2
      rw [h2] at this;cases this
    rw [this]
noncomputable def offB (days:Int) (off:List Int):Bool:=((Option.bind (forR (σ:=Int) (ρ:=Unit) (off.length:Int) (fun i2 s2=>(Option.bind (idxI off (i2:Int)) fun e2=>(Option.bind (bif decide (e2≤s2) then some true else some (decide (days≤e2))) fun v2=>(bif v2 then some (.inr ()) else some (.inl e2))))) (-1)) (Sum.elim (fun (s2:Int)=>some true) (fun (y2:Unit)=>some false)))).getD false
theorem s_off (days:Int) (off:List Int) (hl:off.length < 4611686018427387904):(Option.bind (forR (σ:=Int) (ρ:=Unit) (off.length:Int) (fun i2 s2=>(Option.bind (idxI off (i2:Int)) fun e2=>(Option.bind (bif decide (e2≤s2) then some true else some (decide (days≤e2))) fun v2=>(bif v2 then some (.inr ()) else some (.inl e2))))) (-1)) (Sum.elim (fun (s2:Int)=>some true) (fun (y2:Unit)=>some false)))=some (offB days off):=by
  obtain ⟨o,h1,h2⟩:=forR_ruleL (n:=off.length) (s0:=(-1:Int)) (f:=(fun i2 s2=>(Option.bind (idxI off (i2:Int)) fun e2=>(Option.bind (bif decide (e2≤s2) then some true else some (decide (days≤e2))) fun v2=>(bif v2 then some (.inr ()) else some (.inl e2)))))) (fun _ _=>True) (fun _:Unit=>True) hl trivial (fun i s hi _=>by
    simp only [idxI_nat',List.getElem?_eq_getElem hi,Option.bind_some,cond_some]
    cases (bif decide (off[i]≤s) then true else decide (days≤off[i])) with
    | true=>exact ⟨.inr (),rfl,trivial⟩
    | false=>exact ⟨.inl _,rfl,trivial⟩)
  unfold offB
  rw [h1]
  cases o<;>rfl
noncomputable def framedB (c:ContractT):Bool:=
  !(decide (c.parties < 1))&&(!(decide (c.days < 1))&&(!((c.holders.length:Int) == 0)&&(heldB c.parties c.holders&&(quB c.units&&(c.acts.all (actB c.holders.length c.units.length c.parties)&&offB c.days c.off)))))
theorem forR_all {α:Type} {l:List α} {f:Nat→Unit→Option (Unit ⊕ Unit)} (p:α→Bool) (hl:l.length < 4611686018427387904) (h:∀ (i:Nat) (hi:i < l.length),f i ()=some (bif p l[i] then .inl () else .inr ())) :
    forR (l.length:Int) f ()=some (bif l.all p then .inl () else .inr ()):=by
  rw [forR_first (fun i=>match l[i]? with | some x=>p x | none=>true) (fun _=>()) hl (fun i hi=>by rw [h i hi];simp only [List.getElem?_eq_getElem hi])]
  cases hf:(List.range l.length).find? (fun j => !(match l[j]? with | some x=>p x | none=>true)) with
  | none=>
    have:l.all p=true:=List.all_eq_true.2 fun x hx=>by
      obtain ⟨i,hi,rfl⟩:=List.getElem_of_mem hx
      have:=find_none hf i hi
      simpa only [List.getElem?_eq_getElem hi] using this
    rw [this];rfl
  | some k=>
    obtain ⟨h1,h2,_⟩:=find_some hf
    have:l.all p=false:=by
      rw [Bool.eq_false_iff]
      intro h
      have:=List.all_eq_true.1 h l[k] (List.getElem_mem h1)
      simp only [List.getElem?_eq_getElem h1] at h2
      rw [h2] at this;cases this
    rw [this];rfl
theorem s_framed (c:ContractT) (hp:c.parties < 4611686018427387904) (hh:c.holders.length < 4611686018427387904) (hu:c.units.length < 1000) (ha:c.acts.length < 1000) (ho:c.off.length < 4611686018427387904):d_framed c=some (framedB c):=by
  unfold d_framed
  obtain ⟨k,hk⟩:=s_quantityValid c.units hu
  have hacts:=forR_all (l:=c.acts) (f:=(fun i1 s1=>(Option.bind (idxI c.acts (i1:Int)) fun e1=>(Option.bind (d_validAct c e1) fun r3=>(bif r3 then some (.inl ()) else some (.inr ())))))) (actB c.holders.length c.units.length c.parties) (by omega) (fun i hi=>by
    simp only [idxI_nat',List.getElem?_eq_getElem hi,Option.bind_some,s_validAct,cond_some])
  rw [s_held c hp hh,hk]
  simp only [Option.bind_some]
  rw [hacts]
  simp only [Option.bind_some]
  rw [s_off c.days c.off ho]
  simp only [Option.bind_some,cond_some,framedB]
  cases decide (c.parties < 1)<;>cases decide (c.days < 1)<;>cases ((c.holders.length:Int) == 0)<;>cases heldB c.parties c.holders<;>cases quB c.units<;>cases c.acts.all (actB c.holders.length c.units.length c.parties) <;>
    simp only [cond_true,cond_false,Bool.not_true,Bool.not_false,Option.bind_some,Bool.true_and,Bool.false_and,Sum.elim_inl,Sum.elim_inr]
def natB (acts:List ActT) (a:Int):Bool:=match idxI acts a with
  | some e=>e.kind == 1&&e.role == -1
  | none=>false
theorem s_natural (c:ContractT) (a:Int):d_natural c a=some (natB c.acts a):=by
  unfold d_natural natB
  by_cases h:0≤a∧a < c.acts.length
  · obtain ⟨h1,h2⟩:=idxI_lt h.1 h.2
    simp only [h2,h.1,h.2,decide_true,cond_true,Option.bind_some,cond_some,Bool.cond_false_right]
  · rw [idxI_neg h]
    by_cases h1:0≤a
    · have:¬ a < c.acts.length:=fun h2=>h ⟨h1,h2⟩
      simp only [h1,this,decide_true,decide_false,cond_true,cond_false,Option.bind_some]
    · simp only [h1,decide_false,cond_false,Option.bind_some]
def kindB (nh:Nat) (acts:List ActT) (k:ClauseT):Bool:=
  bif k.kind == 4 then k.role == -1&&(k.need == 1&&(k.grace == 0 && !k.final))
  else (movB nh k.role && !natB acts k.act)&&(bif k.kind == 1 then decide (1≤k.need)&&(decide (k.need≤9)&&(decide (0≤k.grace)&&decide (k.grace≤400)))
    else bif k.kind == 2 then k.need == 1&&k.grace == 0 else k.kind == 3&&(k.need == 1&&(k.grace == 0 && !k.final)))
theorem s_validKind (c:ContractT) (k:ClauseT):d_validKind c k=some (kindB c.holders.length c.acts k):=by
  simp only [d_validKind,s_movable,s_natural,Option.bind_some,cond_some,kindB]
  cases (k.kind == 4)<;>cases movB c.holders.length k.role<;>cases natB c.acts k.act<;>cases (k.kind == 1)<;>cases (k.kind == 2)<;>cases (k.kind == 3) <;>
    simp only [cond_true,cond_false,Bool.not_true,Bool.not_false,Option.bind_some,Bool.true_and,Bool.false_and,Bool.and_false,Bool.cond_false_right,cond_some]
def condB (n:Nat) (i:Int) (s:CondT):Bool := !(decide (s.clause < 0))&&(!(decide ((n:Int)≤s.clause))&&(!(s.clause == i)&&(!(decide (s.is < 1)) && !(decide (4 < s.is)))))
noncomputable def moneyB (nh:Nat) (units:List UnitT) (k:ClauseT):Bool:=
  (k.kind == 1||k.kind == 2)&&((match idxI units k.unit with | some u=>u.kind == 2 | none=>false)&&(posB k.value&&movB nh k.to))
def pauseB (acts:List ActT) (k:ClauseT):Bool:=(k.pause == -1&&k.resume == -1)||(!(k.pause == k.resume)&&(natB acts k.pause&&natB acts k.resume))
noncomputable def clauseB (nh:Nat) (units:List UnitT) (acts:List ActT) (n:Nat) (i:Int) (k:ClauseT):Bool:=
  (!(decide (k.act < 0))&&(!(decide ((acts.length:Int)≤k.act))&&(!(decide (k.after < 1)) && !(decide (400 < k.after))))) &&
  ((kindB nh acts k && !(decide (8 < (k.start.length:Int)))) &&
  (k.start.all (condB n i) &&
  (pauseB acts k &&
  (bif k.unit == -1 then noneB k.value&&k.to == -1 else moneyB nh units k))))
theorem s_validClause (c:ContractT) (i:Nat) (k:ClauseT) (hk:c.clauses[i]?=some k) (hs:k.start.length < 4611686018427387904):d_validClause c i=some (clauseB c.holders.length c.units c.acts c.clauses.length i k):=by
  unfold d_validClause
  have hst:=forR_all (l:=k.start) (f:=(fun i1 s1=>(Option.bind (idxI k.start (i1:Int)) fun e2=>(Option.bind (bif decide (e2.clause < 0) then some true else (bif decide ((c.clauses.length:Int)≤e2.clause) then some true else (bif (e2.clause == (i:Int)) then some true else (bif decide (e2.is < 1) then some true else some (decide (4 < e2.is)))))) fun v3=>(bif v3 then some (.inr ()) else some (.inl ())))))) (condB c.clauses.length i) hs (fun j hj=>by
    simp only [idxI_nat',List.getElem?_eq_getElem hj,Option.bind_some,cond_some,condB]
    cases decide (k.start[j].clause < 0)<;>cases decide ((c.clauses.length:Int)≤k.start[j].clause)<;>cases (k.start[j].clause == (i:Int))<;>cases decide (k.start[j].is < 1)<;>cases decide (4 < k.start[j].is)<;>rfl)
  have hu:(bif decide (0≤k.unit) then (bif decide (k.unit < (c.units.length:Int)) then (Option.bind (idxI c.units k.unit) fun e3=>(bif (e3.kind == 2) then (Option.bind (d_positive k.value) fun r5=>(bif r5 then (Option.bind (d_movable c k.to) fun r6=>some r6) else some false)) else some false)) else some false) else some false) =
      some ((match idxI c.units k.unit with | some u=>u.kind == 2 | none=>false)&&(posB k.value&&movB c.holders.length k.to)):=by
    by_cases h:0≤k.unit∧k.unit < c.units.length
    · obtain ⟨h1,h2⟩:=idxI_lt h.1 h.2
      simp only [h2,h.1,h.2,decide_true,cond_true,Option.bind_some,cond_some,Bool.cond_false_right,s_positive,s_movable]
    · rw [idxI_neg h]
      by_cases h1:0≤k.unit
      · have:¬ k.unit < c.units.length:=fun h2=>h ⟨h1,h2⟩
        simp only [h1,this,decide_true,decide_false,cond_true,cond_false,Bool.false_and]
      · simp only [h1,decide_false,cond_false,Bool.false_and]
  have hp:(Option.bind (bif (k.pause == (-1)) then some (!(k.resume == (-1))) else some true) fun v4=>(bif v4 then (Option.bind (bif (k.pause == k.resume) then some true else (Option.bind (d_natural c k.pause) fun r2=>(bif r2 then (Option.bind (d_natural c k.resume) fun r3=>some (!r3)) else some true))) fun v5=>(bif v5 then some (.inr ()) else some (.inl ()))) else some (.inl ()))) =
      some (bif pauseB c.acts k then (.inl ():Unit ⊕ Unit) else .inr ()):=by
    simp only [s_natural,pauseB,cond_some,Option.bind_some]
    cases (k.pause == -1)<;>cases (k.resume == -1)<;>cases (k.pause == k.resume)<;>cases natB c.acts k.pause<;>cases natB c.acts k.resume<;>rfl
  rw [idxI_at hk]
  simp only [Option.bind_some]
  rw [hst]
  simp only [Option.bind_some]
  rw [hp,hu]
  simp only [Option.bind_some,s_validKind,d_none,cond_some,clauseB,moneyB,noneB]
  cases decide (k.act < 0)<;>simp only [cond_true,cond_false,Bool.not_true,Bool.not_false,Bool.true_and,Bool.false_and,Option.bind_some]
  cases decide ((c.acts.length:Int)≤k.act)<;>simp only [cond_true,cond_false,Bool.not_true,Bool.not_false,Bool.true_and,Bool.false_and,Option.bind_some]
  cases decide (k.after < 1)<;>simp only [cond_true,cond_false,Bool.not_true,Bool.not_false,Bool.true_and,Bool.false_and,Option.bind_some]
  cases decide (400 < k.after)<;>simp only [cond_true,cond_false,Bool.not_true,Bool.not_false,Bool.true_and,Bool.false_and,Option.bind_some]
  cases kindB c.holders.length c.acts k<;>simp only [cond_true,cond_false,Bool.not_true,Bool.not_false,Bool.true_and,Bool.false_and,Option.bind_some]
  cases decide (8 < (k.start.length:Int))<;>simp only [cond_true,cond_false,Bool.not_true,Bool.not_false,Bool.true_and,Bool.false_and,Option.bind_some]
  cases k.start.all (condB c.clauses.length i)<;>simp only [cond_true,cond_false,Bool.not_true,Bool.not_false,Bool.true_and,Bool.false_and,Option.bind_some,Sum.elim_inl,Sum.elim_inr]
  cases pauseB c.acts k<;>simp only [cond_true,cond_false,Bool.true_and,Bool.false_and,Sum.elim_inl,Sum.elim_inr]
  cases (k.kind == 1)<;>cases (k.kind == 2)<;>simp only [cond_true,cond_false,Bool.cond_false_right,Bool.true_or,Bool.or_true,Bool.or_self,Bool.true_and,Bool.false_and]
def limB (c:ContractT):Bool:=decide (12 < c.parties)||(decide (2000 < c.days)||(decide (12 < (c.holders.length:Int))||(decide (20 < (c.units.length:Int))||(decide (60 < (c.acts.length:Int))||decide (400 < (c.clauses.length:Int))))))
noncomputable def clB (c:ContractT) (i:Nat):Bool:=match c.clauses[i]? with
  | some k=>clauseB c.holders.length c.units c.acts c.clauses.length i k
  | none=>true
noncomputable def validR (c:ContractT):Int×Int:=
  bif limB c then (3,-1) else bif framedB c then (match (List.range c.clauses.length).find? (fun j => !clB c j) with | none=>(0,-1) | some j=>(1,(j:Int))) else (1,-1)
theorem s_Valid (c:ContractT) (ho:c.off.length < 4611686018427387904) (hs:∀ k∈c.clauses,k.start.length < 4611686018427387904):d_Valid c=some (validR c):=by
  unfold d_Valid validR
  simp only [cond_some,Bool.cond_true_left,Option.bind_some]
  show (bif limB c then _ else _)=_
  cases hlim:limB c with
  | true=>rfl
  | false=>
    simp only [limB,Bool.or_eq_false_iff,decide_eq_false_iff_not] at hlim
    obtain ⟨h1,h2,h3,h4,h5,h6⟩:=hlim
    simp only [cond_false,s_framed c (by omega) (by omega) (by omega) (by omega) ho,Option.bind_some]
    cases framedB c with
    | false=>rfl
    | true=>
      simp only [cond_true]
      rw [forR_first (fun i=>clB c i) (fun i=>(i:Int)) (by omega) (fun i hi=>by
        rw [s_validClause c i c.clauses[i] (List.getElem?_eq_getElem hi) (hs _ (List.getElem_mem hi))]
        simp only [Option.bind_some,clB,List.getElem?_eq_getElem hi,cond_some])]
      cases (List.range c.clauses.length).find? (fun j => !clB c j)<;>rfl
end Go.Proofs.YtjkljacdbljkpaaGreatDoor
namespace Go.Proofs.YtjkljacdbljkpaaGreatDoor
open Go.RowKit
set_option linter.unusedVariables false
set_option linter.unusedSimpArgs false
set_option maxRecDepth 100000
theorem LOk.lt {α:Type} {n:Nat} {p:α→Prop} {l:List α} (h:LOk n p l) (hn:0 < n):l.length < 4611686018427387904:=by
  have h1:=h.1
  have h2:reachBytes≤140737488355328:=by decide +kernel
  have:=Nat.le_mul_of_pos_right l.length hn
  omega
theorem ContractT.Ok.valid {c:ContractT} (hc:c.Ok):d_Valid c=some (validR c):=
  s_Valid c (hc.off.lt (by omega)) (fun k hk=>(hc.clauses.2 k hk).start.lt (by omega))
inductive ValidIs (c:ContractT):Int×Int→Prop where
  | lim (h:limB c=true):ValidIs c (3,-1)
  | frame (h:limB c=false) (hf:framedB c=false):ValidIs c (1,-1)
  | bad (h:limB c=false) (hf:framedB c=true) (i:Nat) (hi:i < c.clauses.length) (hb:clB c i=false) (hl:∀ j,j < i→clB c j=true):ValidIs c (1,(i:Int))
  | ok (h:limB c=false) (hf:framedB c=true) (ha:∀ j,j < c.clauses.length→clB c j=true):ValidIs c (0,-1)
theorem valid_is (c:ContractT):ValidIs c (validR c):=by
  unfold validR
  cases h:limB c with
  | true=>exact .lim h
  | false=>
    simp only [cond_false]
    cases hf:framedB c with
    | false=>exact .frame h hf
    | true=>
      simp only [cond_true]
      cases hq:(List.range c.clauses.length).find? (fun j => !clB c j) with
      | none=>exact .ok h hf (find_none hq)
      | some j=>obtain ⟨h1,h2,h3⟩:=find_some hq;exact .bad h hf j h1 h2 h3
theorem validR_ok {c:ContractT} (h:(validR c).1=0):limB c=false∧framedB c=true∧(∀ j,j < c.clauses.length→clB c j=true)∧validR c=(0,-1):=by
  have hv:=valid_is c
  generalize hr:validR c=r at h hv ⊢
  cases hv with
  | lim _=>simp at h
  | frame _ _=>simp at h
  | bad _ _ i _ _ _=>simp at h
  | ok a b d=>exact ⟨a,b,d,rfl⟩
theorem validR_of {c:ContractT} (h:limB c=false) (hf:framedB c=true) (ha:∀ j,j < c.clauses.length→clB c j=true):validR c=(0,-1):=by
  unfold validR;rw [h,hf,find_none_of ha];rfl
end Go.Proofs.YtjkljacdbljkpaaGreatDoor
namespace Go.Proofs.YtjkljacdbljkpaaGreatDoor
open Go.RowKit
set_option linter.unusedVariables false
set_option linter.unusedSimpArgs false
set_option maxRecDepth 100000
theorem s_less (x y:Int):d_less x y=some (decide (x < y)):=by
  simp [d_less,d_isNaN2]
theorem s_half {a b:Int} (h0:0≤a) (h1:a≤b) (h2:b < 4611686018427387904):shrI .u64 .u64 (IntKind.u64.wrap (IntKind.i64.wrap (a+b))) 1=some ((a+b) / 2):=by
  rw [wrap_i64 (by omega) (by omega),wrap_u64 (by omega) (by omega)]
  unfold shrI
  rw [if_neg (by omega)]
  have:(2:Int) ^ (min (1:Int).toNat IntKind.u64.bits)=2:=by decide
  rw [this,Int.fdiv_eq_ediv_of_nonneg _ (by omega)]
def posI (l:List Int) (v:Int):Option Int:=if v∈l then some (l.idxOf v:Int) else none
theorem idxOf_eq {l:List Int} (hn:l.Nodup) {i:Nat} (hi:i < l.length):l.idxOf l[i]=i:=by
  have h1:l.idxOf l[i] < l.length:=List.idxOf_lt_length_iff.2 (List.getElem_mem hi)
  have h2:=List.getElem_idxOf h1
  exact (List.getElem?_inj h1 hn).1 (by rw [List.getElem?_eq_getElem h1,List.getElem?_eq_getElem hi,h2])
theorem posI_some {l:List Int} {v p:Int} (h:posI l v=some p):0≤p∧l[p.toNat]?=some v:=by
  unfold posI at h
  split at h
  · rename_i hm
    cases h
    have h1:l.idxOf v < l.length:=List.idxOf_lt_length_iff.2 hm
    exact ⟨by omega,by simp only [Int.toNat_natCast];rw [List.getElem?_eq_getElem h1,List.getElem_idxOf h1]⟩
  · cases h
theorem posI_at {l:List Int} (hn:l.Nodup) {i:Nat} {v:Int} (h:l[i]?=some v):posI l v=some (i:Int):=by
  obtain ⟨hi,rfl⟩:=List.getElem?_eq_some_iff.1 h
  unfold posI
  rw [if_pos (List.getElem_mem hi),idxOf_eq hn hi]
theorem s_BinarySearch (l:List Int) (v:Int) (hs:l.Pairwise (· < ·)) (hl:l.length < 4611686018427387904):∃ r:Int,d_BinarySearch l v=some (r,(posI l v).isSome)∧∀ p,posI l v=some p→r=p:=by
  have hp:=List.pairwise_iff_getElem.1 hs
  unfold d_BinarySearch
  have hit:Ret (iter (σ:=Int×Int) (ρ:=Int) (fun s1=>(bif decide (s1.1 < s1.2) then (Option.bind (shrI .u64 .u64 (IntKind.u64.wrap (IntKind.i64.wrap (s1.1+s1.2))) 1) fun e1=>(Option.bind (idxI l (IntKind.i64.wrap e1)) fun e2=>(Option.bind (d_less e2 v) fun r1=>(bif r1 then some (.inl ((IntKind.i64.wrap ((IntKind.i64.wrap e1)+1)),s1.2)) else some (.inl (s1.1,(IntKind.i64.wrap e1))))))) else some (.inr s1.1))) (0,(l.length:Int)))
      (fun r=>0≤r∧r≤l.length∧(∀ (j:Nat) (hj:j < l.length),(j:Int) < r→l[j] < v)∧(∀ (j:Nat) (hj:j < l.length),r≤(j:Int)→v≤l[j])):=by
    refine Ret.iter (fun s=>0≤s.1∧s.1≤s.2∧s.2≤l.length∧(∀ (j:Nat) (hj:j < l.length),(j:Int) < s.1→l[j] < v)∧(∀ (j:Nat) (hj:j < l.length),s.2≤(j:Int)→v≤l[j])) (fun s=>(s.2 - s.1).toNat) ⟨by simp,by simp,by simp,fun j hj h=>by simp only at h;omega,fun j hj h=>by simp only at h;omega⟩ ?_
    rintro ⟨lo,hi⟩ ⟨h1,h2,h3,h4,h5⟩
    simp only at h1 h2 h3 h4 h5 ⊢
    refine Ret.ite (fun hb => ?_) (fun hb => ?_)
    · have hlt:=of_decide_eq_true hb
      rw [s_half h1 h2 (by omega)]
      simp only [Option.bind_some]
      have hm1:lo≤(lo+hi) / 2:=by omega
      have hm2:(lo+hi) / 2 < hi:=by omega
      generalize (lo+hi) / 2=m at hm1 hm2 ⊢
      rw [wrap_i64 (by omega) (by omega)]
      obtain ⟨hi',e⟩:=idxI_lt (l:=l) (n:=m) (by omega) (by omega)
      rw [e,wrap_i64 (by omega) (by omega)]
      simp only [Option.bind_some,s_less]
      refine Ret.ite (fun hb2 => ?_) (fun hb2 => ?_)
      · have hv:=of_decide_eq_true hb2
        refine Ret.some ⟨⟨by show 0≤m+1;omega,by show m+1≤hi;omega,h3,fun j hj hjm => ?_,h5⟩,by show (hi - (m+1)).toNat < (hi - lo).toNat;omega⟩
        have hjm:(j:Int) < m+1:=hjm
        rcases Nat.lt_or_ge j m.toNat with h | h
        · have:=hp j m.toNat hj hi' h;omega
        · obtain rfl:j=m.toNat:=by omega
          exact hv
      · have hv:¬ l[m.toNat] < v:=of_decide_eq_false hb2
        refine Ret.some ⟨⟨h1,by show lo≤m;omega,by show m≤(l.length:Int);omega,h4,fun j hj hjm => ?_⟩,by show (m - lo).toNat < (hi - lo).toNat;omega⟩
        have hjm:m≤(j:Int):=hjm
        rcases Nat.lt_or_ge m.toNat j with h | h
        · have:=hp m.toNat j hi' hj h;omega
        · obtain rfl:j=m.toNat:=by omega
          omega
    · have hlt:¬ lo < hi:=of_decide_eq_false hb
      have:lo=hi:=by omega
      subst this
      exact Ret.some ⟨h1,h3,h4,h5⟩
  obtain ⟨r,hr,hr0,hr1,hr2,hr3⟩:=hit
  rw [hr]
  simp only [Option.bind_some]
  by_cases hlt:r < (l.length:Int)
  · obtain ⟨hi',e⟩:=idxI_lt (l:=l) (n:=r) hr0 hlt
    simp only [hlt,decide_true,cond_true,e,Option.bind_some]
    by_cases hv:l[r.toNat]=v
    · have hpos:posI l v=some (r.toNat:Int):=posI_at (inc_nodup hs) (by rw [List.getElem?_eq_getElem hi',hv])
      refine ⟨r,by simp [hv,hpos],fun p hp => ?_⟩
      rw [hpos] at hp;cases hp;omega
    · have hn:posI l v=none:=by
        unfold posI
        rw [if_neg]
        intro hm
        obtain ⟨j,hj,e2⟩:=List.getElem_of_mem hm
        rcases Nat.lt_trichotomy j r.toNat with h | h | h
        · have:=hr2 j hj (by omega);omega
        · subst h;exact hv e2
        · have h6:=hp r.toNat j hi' hj h
          have h7:=hr3 r.toNat hi' (by omega)
          omega
      refine ⟨r,?_,fun p hp=>by rw [hn] at hp;cases hp⟩
      rw [hn]
      have:(l[r.toNat] == v)=false:=beq_eq_false_iff_ne.2 hv
      simp [this,d_isNaN]
  · have hn:posI l v=none:=by
      unfold posI
      rw [if_neg]
      intro hm
      obtain ⟨j,hj,e2⟩:=List.getElem_of_mem hm
      have:=hr2 j hj (by omega);omega
    refine ⟨r,?_,fun p hp=>by rw [hn] at hp;cases hp⟩
    rw [hn]
    simp [hlt]
theorem off_len {days:Int} {off:List Int} (hl:off.length < 4611686018427387904) (h:offB days off=true):(off.length:Int)≤days∨off.length=0:=by
  have e:offB days off=incB days (-1) off:=by
    unfold offB
    rw [s_inc days off hl (-1)]
    cases incB days (-1) off<;>rfl
  rw [e] at h
  rcases incB_len h with h1 | h1<;>omega
structure Small (c:ContractT):Prop where
  parties:1≤c.parties∧c.parties≤12
  days:1≤c.days∧c.days≤2000
  holders:c.holders.length≤12
  units:c.units.length≤20
  acts:c.acts.length≤60
  clauses:c.clauses.length≤400
  off:c.off.length≤2000
  start:∀ k∈c.clauses,k.start.length≤8
  cond:∀ (i:Nat) (k:ClauseT),c.clauses[i]?=some k→∀ s∈k.start,0≤s.clause∧s.clause < c.clauses.length∧s.clause≠(i:Int)
theorem small_of {c:ContractT} (ho:c.off.length < 4611686018427387904) (h:(validR c).1=0):Small c:=by
  obtain ⟨h1,h2,h3,_⟩:=validR_ok h
  simp only [limB,Bool.or_eq_false_iff,decide_eq_false_iff_not] at h1
  obtain ⟨a1,a2,a3,a4,a5,a6⟩:=h1
  simp only [framedB,Bool.and_eq_true,Bool.not_eq_true',decide_eq_false_iff_not] at h2
  obtain ⟨b1,b2,b3,b4,b5,b6,b7⟩:=h2
  have hcl:∀ (i:Nat) (k:ClauseT),c.clauses[i]?=some k→clauseB c.holders.length c.units c.acts c.clauses.length i k=true:=fun i k hk=>by
    have:=h3 i (List.getElem?_eq_some_iff.1 hk).1
    simp only [clB,hk] at this
    exact this
  refine ⟨⟨by omega,by omega⟩,⟨by omega,by omega⟩,by omega,by omega,by omega,by omega,?_,fun k hk => ?_,fun i k hk s hs => ?_⟩
  · rcases off_len ho b7 with h | h<;>omega
  · obtain ⟨i,hi,e⟩:=List.getElem_of_mem hk
    have:=hcl i k (by rw [←e];exact List.getElem?_eq_getElem hi)
    simp only [clauseB,Bool.and_eq_true,Bool.not_eq_true',decide_eq_false_iff_not] at this
    omega
  · have:=hcl i k hk
    simp only [clauseB,Bool.and_eq_true] at this
    have:=List.all_eq_true.1 this.2.2.1 s hs
    simp only [condB,Bool.and_eq_true,Bool.not_eq_true',decide_eq_false_iff_not,beq_eq_false_iff_ne] at this
    exact ⟨by omega,by omega,this.2.2.1⟩
theorem cloneI_of {α:Type} {by_:Nat} {l:List α} (h:l.length*by_≤140737488355328):cloneI by_ l=some l:=by unfold cloneI;rw [if_pos h]
end Go.Proofs.YtjkljacdbljkpaaGreatDoor
namespace Go.Proofs.YtjkljacdbljkpaaGreatDoor
open Go.RowKit
set_option linter.unusedVariables false
set_option linter.unusedSimpArgs false
set_option maxRecDepth 100000
theorem forR_allN {f:Nat→Unit→Option (Unit ⊕ Unit)} {n:Nat} (p:Nat→Bool) (hn:n < 4611686018427387904) (h:∀ j,j < n→f j ()=some (bif p j then .inl () else .inr ())) :
    forR (n:Int) f ()=some (bif (List.range n).all p then .inl () else .inr ()):=by
  rw [forR_first p (fun _=>()) hn h]
  cases hf:(List.range n).find? (fun j => !p j) with
  | none=>
    have:(List.range n).all p=true:=List.all_eq_true.2 fun j hj=>find_none hf j (List.mem_range.1 hj)
    rw [this];rfl
  | some k=>
    obtain ⟨h1,h2,_⟩:=find_some hf
    have:(List.range n).all p=false:=by
      rw [Bool.eq_false_iff]
      intro h
      have:=List.all_eq_true.1 h k (List.mem_range.2 h1)
      rw [h2] at this;cases this
    rw [this];rfl
theorem forR_mapIdx {α ρ:Type} {f:Nat→List α→Option (List α ⊕ ρ)} (s0:List α) (F:Nat→α→α) (hl:s0.length < 4611686018427387904)
    (h:∀ (i:Nat) (m:α) (s:List α),s0[i]?=some m→s.length=s0.length→s[i]?=some m→f i s=some (.inl (s.set i (F i m)))) :
    forR (s0.length:Int) f s0=some (.inl (s0.mapIdx F)):=by
  obtain ⟨o,h1,h2⟩:=forR_ruleL (n:=s0.length) (s0:=s0) (f:=f) (fun i s=>s.length=s0.length∧∀ j,s[j]?=if j < i then (s0[j]?).map (F j) else s0[j]?) (fun _=>False) hl ⟨rfl,fun j=>by simp⟩ (fun i s hi ⟨a,b⟩=>by
    have hs:s[i]?=some s0[i]:=by rw [b i,if_neg (by omega),List.getElem?_eq_getElem hi]
    refine ⟨_,h i s0[i] s (List.getElem?_eq_getElem hi) a hs,by simpa using a,fun j => ?_⟩
    rw [List.getElem?_set]
    by_cases hij:i=j
    · subst hij
      rw [if_pos rfl,if_pos (by omega),if_pos (by omega),List.getElem?_eq_getElem hi];rfl
    · rw [if_neg hij,b j]
      by_cases h3:j < i
      · rw [if_pos h3,if_pos (by omega)]
      · rw [if_neg h3,if_neg (by omega)])
  rw [h1]
  cases o with
  | inr r=>exact h2.elim
  | inl s=>
    obtain ⟨a,b⟩:=h2
    congr 2
    refine List.ext_getElem? fun j => ?_
    rw [b j,List.getElem?_mapIdx]
    by_cases hj:j < s0.length
    · rw [if_pos hj]
    · rw [if_neg hj,List.getElem?_eq_none (by omega)];rfl
def condM (marks:List MarkT) (s:CondT):Bool:=match idxI marks s.clause with
  | some m=>bif s.is == 1 then !(m.status == 0) else bif s.is == 2 then m.status == 3 else bif s.is == 3 then m.status == 4 else bif s.is == 4 then m.status == 5 else false
  | none=>false
def readyB (ks:List ClauseT) (marks:List MarkT) (i:Nat):Bool:=match ks[i]?,marks[i]? with
  | some k,some m=>(m.status == 0 && !k.waived)&&k.start.all (condM marks)
  | _,_=>false
def runB (parties:Int) (k:ClauseT) (m:MarkT):Bool:=
  !(k.waived||(decide (m.left < 1)||(m.paused&&k.pause == -1)))&&(((m.got == 0)||(k.kind == 1 && !(decide (m.got < 0)||decide (k.need≤m.got)))) &&
    (bif k.kind == 4 then m.bearer == -1 else decide (0≤m.bearer)&&decide (m.bearer < parties)))
def idleB (m:MarkT):Bool:=(m.status == 0)&&((m.left == 0)&&((m.got == 0)&&((m.bearer == (-1))&&((m.paused == false)&&true))))
def endB (parties:Int) (m:MarkT):Bool:=(m.left == 0)&&(decide (0≤m.got)&&(decide (m.got≤9)&&(decide ((-1)≤m.bearer)&&(decide (m.bearer < parties) && !m.paused))))
def mrkB (parties:Int) (k:ClauseT) (m:MarkT):Bool:=
  bif m.status == 0 then !k.waived&&idleB m else bif m.status == 1 then decide (m.left≤k.after)&&runB parties k m
  else bif m.status == 2 then k.kind == 1&&(decide (m.left≤k.grace)&&runB parties k m) else (m.status == 3||(m.status == 4||m.status == 5))&&endB parties m
theorem s_validRun (c:ContractT) (k:ClauseT) (m:MarkT):d_validRun c k m=some (runB c.parties k m):=by
  simp only [d_validRun,runB,cond_some,Option.bind_some]
  cases k.waived<;>cases decide (m.left < 1)<;>cases m.paused<;>cases (k.pause == -1)<;>cases (m.got == 0)<;>cases (k.kind == 1)<;>cases decide (m.got < 0)<;>cases decide (k.need≤m.got)<;>cases (k.kind == 4)<;>cases decide (0≤m.bearer)<;>rfl
theorem s_validMark (c:ContractT) (i:Nat) (k:ClauseT) (m:MarkT) (hk:c.clauses[i]?=some k):d_validMark c i m=some (mrkB c.parties k m):=by
  unfold d_validMark
  rw [idxI_at hk]
  simp only [Option.bind_some,s_validRun,cond_some,mrkB,idleB,endB]
  cases (m.status == 0)
  · cases (m.status == 1)
    · cases (m.status == 2)
      · cases (m.status == 3)<;>cases (m.status == 4)<;>cases (m.status == 5)<;>cases (m.left == 0)<;>cases decide (0≤m.got)<;>cases decide (m.got≤9)<;>cases decide ((-1)≤m.bearer)<;>cases decide (m.bearer < c.parties)<;>rfl
      · cases (k.kind == 1)<;>cases decide (m.left≤k.grace)<;>rfl
    · cases decide (m.left≤k.after)<;>rfl
  · cases k.waived<;>rfl
theorem s_ready (c:ContractT) (s:StateT) (i:Nat) (k:ClauseT) (m:MarkT) (hk:c.clauses[i]?=some k) (hm:s.marks[i]?=some m) (hst:k.start.length < 4611686018427387904)
    (hc:∀ x∈k.start,0≤x.clause∧x.clause < s.marks.length):d_ready c s i=some (readyB c.clauses s.marks i):=by
  unfold d_ready readyB
  rw [idxI_at hm,idxI_at hk,hk,hm]
  simp only [Option.bind_some]
  rw [forR_all (l:=k.start) (condM s.marks) hst (fun j hj=>by
    obtain ⟨h0,h1⟩:=hc _ (List.getElem_mem hj)
    obtain ⟨h2,h3⟩:=idxI_lt h0 h1
    simp only [idxI_nat',List.getElem?_eq_getElem hj,Option.bind_some,h3,condM,cond_some])]
  simp only [Option.bind_some,cond_some]
  cases (m.status == 0)<;>cases k.waived<;>cases k.start.all (condM s.marks)<;>rfl
def usedB (acts:List ActT) (used:List Bool) (i:Nat):Bool:=match acts[i]?,used[i]? with
  | some a,some u => !(u&&a.kind == 1)
  | _,_=>false
def markIB (c:ContractT) (marks:List MarkT) (i:Nat):Bool:=match c.clauses[i]?,marks[i]? with
  | some k,some m=>mrkB c.parties k m && !readyB c.clauses marks i
  | _,_=>false
noncomputable def vsB (c:ContractT) (s:StateT):Bool:=
  ((validR c).1 == 0)&&((!(decide (s.day < 0))&&(!(decide (c.days < s.day))&&((s.holders.length:Int) == c.holders.length&&((s.used.length:Int) == c.acts.length&&(s.marks.length:Int) == c.clauses.length)))) &&
    (heldB c.parties s.holders&&((List.range s.used.length).all (usedB c.acts s.used)&&(List.range s.marks.length).all (markIB c s.marks))))
theorem s_ValidS (c:ContractT) (s:StateT) (hc:c.Ok):d_ValidS c s=some (vsB c s):=by
  unfold d_ValidS vsB
  rw [hc.valid]
  simp only [Option.bind_some]
  cases hv:((validR c).1 == 0) with
  | false=>rfl
  | true=>
    have sm:=small_of (hc.off.lt (by omega)) (beq_iff_eq.1 hv)
    simp only [cond_true,cond_some,Option.bind_some,Bool.true_and]
    cases h1:decide (s.day < 0)<;>cases h2:decide (c.days < s.day)<;>cases h3:((s.holders.length:Int) == c.holders.length)<;>cases h4:((s.used.length:Int) == c.acts.length)<;>cases h5:((s.marks.length:Int) == c.clauses.length)<;>try rfl
    simp only [cond_true,cond_false,Bool.not_true,Bool.not_false,Bool.true_and]
    have e3:=beq_iff_eq.1 h3
    have e4:=beq_iff_eq.1 h4
    have e5:=beq_iff_eq.1 h5
    have:=sm.holders
    have:=sm.acts
    have:=sm.clauses
    rw [forR_all (l:=s.holders) (fun h=>decide (0≤h)&&decide (h < c.parties)) (by omega) (fun j hj=>by
      simp only [idxI_nat',List.getElem?_eq_getElem hj,Option.bind_some,cond_some]
      generalize s.holders[j]=h
      by_cases a:h < 0
      · have b:¬ 0≤h:=by omega
        simp [a,b]
      · have b:0≤h:=by omega
        by_cases d:h < c.parties
        · have d':¬ c.parties≤h:=by omega
          simp [a,b,d,d']
        · have d':c.parties≤h:=by omega
          simp [a,b,d,d'])]
    rw [forR_allN (n:=s.used.length) (usedB c.acts s.used) (by omega) (fun j hj=>by
      have hj':j < c.acts.length:=by omega
      simp only [idxI_nat',List.getElem?_eq_getElem hj,List.getElem?_eq_getElem hj',Option.bind_some,cond_some,usedB]
      cases s.used[j]<;>cases (c.acts[j].kind == 1)<;>rfl)]
    rw [forR_allN (n:=s.marks.length) (markIB c s.marks) (by omega) (fun j hj=>by
      have hj':j < c.clauses.length:=by omega
      have hk:=List.getElem?_eq_getElem hj'
      have hm:=List.getElem?_eq_getElem hj
      simp only [idxI_nat',hm,Option.bind_some]
      rw [s_validMark c j _ _ hk,s_ready c s j _ _ hk hm (by have:=sm.start _ (List.getElem_mem hj');omega) (fun x hx=>by have:=sm.cond j _ hk x hx;omega)]
      simp only [Option.bind_some,markIB,hk,hm]
      cases mrkB c.parties c.clauses[j] s.marks[j]<;>cases readyB c.clauses s.marks j<;>rfl)]
    simp only [heldB,Option.bind_some]
    cases s.holders.all (fun h=>decide (0≤h)&&decide (h < c.parties))<;>cases (List.range s.used.length).all (usedB c.acts s.used)<;>cases (List.range s.marks.length).all (markIB c s.marks)<;>rfl
structure VS (c:ContractT) (s:StateT):Prop where
  cv:(validR c).1=0
  day:0≤s.day∧s.day≤c.days
  lh:s.holders.length=c.holders.length
  lu:s.used.length=c.acts.length
  lm:s.marks.length=c.clauses.length
  hold:∀ h∈s.holders,0≤h∧h < c.parties
  used:∀ (i:Nat) (a:ActT),c.acts[i]?=some a→s.used[i]?=some true→a.kind≠1
  mrk:∀ (i:Nat) (k:ClauseT) (m:MarkT),c.clauses[i]?=some k→s.marks[i]?=some m→mrkB c.parties k m=true
  rdy:∀ i,i < c.clauses.length→readyB c.clauses s.marks i=false
theorem vs_of {c:ContractT} {s:StateT} (h:vsB c s=true):VS c s:=by
  simp only [vsB,Bool.and_eq_true,Bool.not_eq_true',decide_eq_false_iff_not,beq_iff_eq,List.all_eq_true,List.mem_range,heldB,decide_eq_true_eq] at h
  obtain ⟨h1,⟨h2,h3,h4,h5,h6⟩,h7,h8,h9⟩:=h
  refine ⟨h1,⟨by omega,by omega⟩,by omega,by omega,by omega,fun x hx=>h7 x hx,fun i a ha hu hk => ?_,fun i k m hk hm => ?_,fun i hi => ?_⟩
  · have:=h8 i (by have:=(List.getElem?_eq_some_iff.1 hu).1;exact this)
    simp only [usedB,ha,hu,hk] at this
    cases this
  · have:=h9 i (List.getElem?_eq_some_iff.1 hm).1
    simp only [markIB,hk,hm,Bool.and_eq_true] at this
    exact this.1
  · have hi':i < s.marks.length:=by omega
    have:=h9 i hi'
    simp only [markIB,List.getElem?_eq_getElem hi,List.getElem?_eq_getElem hi',Bool.and_eq_true,Bool.not_eq_true'] at this
    exact this.2
theorem vsB_of {c:ContractT} {s:StateT} (h:VS c s):vsB c s=true:=by
  have hd:=h.day
  have h4:=h.lh
  have h5:=h.lu
  have h6:=h.lm
  simp only [vsB,Bool.and_eq_true,Bool.not_eq_true',decide_eq_false_iff_not,beq_iff_eq,List.all_eq_true,List.mem_range,heldB,decide_eq_true_eq]
  refine ⟨h.cv,⟨by omega,by omega,by omega,by omega,by omega⟩,fun x hx=>h.hold x hx,fun i hi => ?_,fun i hi => ?_⟩
  · have hi':i < c.acts.length:=by omega
    have ha:=List.getElem?_eq_getElem hi'
    have hu:=List.getElem?_eq_getElem hi
    simp only [usedB,ha,hu]
    cases hq:s.used[i] with
    | false=>rfl
    | true=>
      have:=h.used i _ ha (by rw [hu,hq])
      simp [this]
  · have hi':i < c.clauses.length:=by omega
    have ha:=List.getElem?_eq_getElem hi'
    have hu:=List.getElem?_eq_getElem hi
    simp only [markIB,ha,hu,Bool.and_eq_true,Bool.not_eq_true']
    exact ⟨h.mrk i _ _ ha hu,h.rdy i hi'⟩
end Go.Proofs.YtjkljacdbljkpaaGreatDoor
namespace Go.Proofs.YtjkljacdbljkpaaGreatDoor
open Go.RowKit
set_option linter.unusedVariables false
set_option linter.unusedSimpArgs false
set_option maxRecDepth 100000
structure KV (c:ContractT) (i:Nat) (k:ClauseT):Prop where
  act:0≤k.act∧k.act < c.acts.length
  after:1≤k.after∧k.after≤400
  kind:k.kind=1∨k.kind=2∨k.kind=3∨k.kind=4
  role:k.kind=4∨(0≤k.role∧k.role < c.holders.length)
  need:1≤k.need∧k.need≤9
  grace:0≤k.grace∧k.grace≤400
  start:k.start.length≤8
  cond:∀ s∈k.start,0≤s.clause∧s.clause < c.clauses.length
  pause:(k.pause = -1∧k.resume = -1)∨(natB c.acts k.pause=true∧natB c.acts k.resume=true)
theorem kv_of {c:ContractT} (ho:c.off.length < 4611686018427387904) (h:(validR c).1=0) {i:Nat} {k:ClauseT} (hk:c.clauses[i]?=some k):KV c i k:=by
  have sm:=small_of ho h
  obtain ⟨_,_,h3,_⟩:=validR_ok h
  have:=h3 i (List.getElem?_eq_some_iff.1 hk).1
  simp only [clB,hk,clauseB,Bool.and_eq_true,Bool.not_eq_true',decide_eq_false_iff_not] at this
  obtain ⟨⟨a1,a2,a3,a4⟩,⟨a5,a6⟩,a7,a8,_⟩:=this
  have hkd:(k.kind=1∨k.kind=2∨k.kind=3∨k.kind=4)∧(k.kind=4∨(0≤k.role∧k.role < c.holders.length))∧(1≤k.need∧k.need≤9)∧(0≤k.grace∧k.grace≤400):=by
    unfold kindB at a5
    cases h4:(k.kind == 4) with
    | true=>
      rw [h4] at a5
      simp only [cond_true,Bool.and_eq_true,beq_iff_eq] at a5
      have:=beq_iff_eq.1 h4
      omega
    | false=>
      rw [h4] at a5
      simp only [cond_false,Bool.and_eq_true,movB,decide_eq_true_eq] at a5
      obtain ⟨⟨b1,_⟩,b2⟩:=a5
      cases h1:(k.kind == 1) with
      | true=>
        rw [h1] at b2
        simp only [cond_true,Bool.and_eq_true,decide_eq_true_eq] at b2
        have:=beq_iff_eq.1 h1
        omega
      | false=>
        rw [h1] at b2
        cases h2:(k.kind == 2) with
        | true=>
          rw [h2] at b2
          simp only [cond_true,cond_false,Bool.and_eq_true,beq_iff_eq] at b2
          have:=beq_iff_eq.1 h2
          omega
        | false=>
          rw [h2] at b2
          simp only [cond_false,Bool.and_eq_true,beq_iff_eq] at b2
          omega
  refine ⟨⟨by omega,by omega⟩,⟨by omega,by omega⟩,hkd.1,hkd.2.1,hkd.2.2.1,hkd.2.2.2,by omega,fun s hs => ?_,?_⟩
  · have:=sm.cond i k hk s hs;omega
  · simp only [pauseB,Bool.or_eq_true,Bool.and_eq_true,beq_iff_eq,Bool.not_eq_true'] at a8
    rcases a8 with h | h
    · exact .inl h
    · exact .inr h.2
structure AV2 (c:ContractT) (a:ActT):Prop where
  role:(a.role = -1∧a.kind=1)∨(0≤a.role∧a.role < c.holders.length)
  kind:a.kind=1∨((a.kind=2∨a.kind=3)∧(0≤a.give∧a.give < c.holders.length)∧(0≤a.to∧a.to < c.parties))
theorem av_of {c:ContractT} (h:(validR c).1=0) {i:Nat} {a:ActT} (ha:c.acts[i]?=some a):AV2 c a:=by
  obtain ⟨_,h2,_,_⟩:=validR_ok h
  simp only [framedB,Bool.and_eq_true,Bool.not_eq_true',decide_eq_false_iff_not] at h2
  obtain ⟨_,_,_,_,_,b6,_⟩:=h2
  have:=List.all_eq_true.1 b6 a (List.mem_of_getElem? ha)
  unfold actB at this
  cases hr:movB c.holders.length a.role with
  | true=>
    rw [hr] at this
    simp only [movB,Bool.and_eq_true,decide_eq_true_eq] at hr
    cases h1:(a.kind == 1) with
    | true=>exact ⟨.inr hr,.inl (beq_iff_eq.1 h1)⟩
    | false=>
      rw [h1] at this
      simp only [cond_true,cond_false,Bool.and_eq_true,Bool.or_eq_true,beq_iff_eq,movB,decide_eq_true_eq] at this
      exact ⟨.inr hr,.inr ⟨this.1,this.2.1,by omega⟩⟩
  | false=>
    rw [hr] at this
    simp only [cond_false,Bool.and_eq_true,beq_iff_eq] at this
    exact ⟨.inl ⟨this.2.1,this.1⟩,.inl this.1⟩
theorem off_of {c:ContractT} (ho:c.off.length < 4611686018427387904) (h:(validR c).1=0):c.off.Pairwise (· < ·):=by
  obtain ⟨_,h2,_,_⟩:=validR_ok h
  simp only [framedB,Bool.and_eq_true] at h2
  have b7:=h2.2.2.2.2.2.2
  have e:offB c.days c.off=incB c.days (-1) c.off:=by
    unfold offB
    rw [s_inc c.days c.off ho (-1)]
    cases incB c.days (-1) c.off<;>rfl
  rw [e] at b7
  exact (incB_spec b7).2
def MOk (c:ContractT) (ms:List MarkT):Prop:=ms.length=c.clauses.length∧∀ (i:Nat) (k:ClauseT) (m:MarkT),c.clauses[i]?=some k→ms[i]?=some m→mrkB c.parties k m=true
def NR (c:ContractT) (ms:List MarkT):Prop:=∀ i,i < c.clauses.length→readyB c.clauses ms i=false
def begun (k:ClauseT) (b:Int):MarkT:={status:=1,left:=k.after,got:=0,bearer:=b,paused:=false}
def StR (c:ContractT) (ms ms':List MarkT):Prop:=∀ (i:Nat) (m m':MarkT),ms[i]?=some m→ms'[i]?=some m'→m'=m∨(m.status=0∧∃ k b,c.clauses[i]?=some k∧m'=begun k b)
def idleN (ms:List MarkT):Nat:=ms.countP (fun m=>m.status == 0)
def bearF (hs:List Int) (k:ClauseT):Int:=bif k.kind == 4 then -1 else hs[k.role.toNat]?.getD 0
def staN (ks:List ClauseT) (ms:List MarkT):Nat→Nat→Prop
  | 0,_=>False
  | n+1,i=>∃ k m,ks[i]?=some k∧ms[i]?=some m∧m.status=0∧k.waived=false∧∀ x∈k.start,condM ms x=true∨(x.is=1∧staN ks ms n x.clause.toNat)
def Sta (ks:List ClauseT) (ms:List MarkT) (i:Nat):Prop:=∃ n,staN ks ms n i
def StaI (c:ContractT) (hs:List Int) (ms r:List MarkT):Prop:=∀ (i:Nat) (k:ClauseT) (m:MarkT),c.clauses[i]?=some k→ms[i]?=some m→r[i]?=some m∨(Sta c.clauses ms i∧r[i]?=some (begun k (bearF hs k)))
def StaR (c:ContractT) (hs:List Int) (ms r:List MarkT):Prop:=∀ (i:Nat) (k:ClauseT) (m:MarkT),c.clauses[i]?=some k→ms[i]?=some m→(¬ Sta c.clauses ms i∧r[i]?=some m)∨(Sta c.clauses ms i∧r[i]?=some (begun k (bearF hs k)))
theorem staN_mono {ks:List ClauseT} {ms:List MarkT}:∀ (n i:Nat),staN ks ms n i→staN ks ms (n+1) i
  | 0,i,h=>h.elim
  | n+1,i,⟨k,m,h1,h2,h3,h4,h5⟩=>⟨k,m,h1,h2,h3,h4,fun x hx=>(h5 x hx).imp id fun h=>⟨h.1,staN_mono n _ h.2⟩⟩
theorem staN_le {ks:List ClauseT} {ms:List MarkT} {n i:Nat} (h:staN ks ms n i):∀ d,staN ks ms (n+d) i
  | 0=>h
  | d+1=>staN_mono _ _ (staN_le h d)
theorem sta_all {ks:List ClauseT} {ms:List MarkT}:∀ (l:List CondT),(∀ x∈l,condM ms x=true∨(x.is=1∧Sta ks ms x.clause.toNat))→∃ n,∀ x∈l,condM ms x=true∨(x.is=1∧staN ks ms n x.clause.toNat)
  | [],_=>⟨0,fun x hx=>by cases hx⟩
  | y::l,h=>by
    obtain ⟨n,hn⟩:=sta_all l (fun x hx=>h x (List.mem_cons_of_mem _ hx))
    rcases h y (List.mem_cons_self ..) with h1 | ⟨h1,d,h2⟩
    · refine ⟨n,fun x hx => ?_⟩
      rcases List.mem_cons.1 hx with rfl | hx
      · exact .inl h1
      · exact hn x hx
    · refine ⟨n+d,fun x hx => ?_⟩
      rcases List.mem_cons.1 hx with rfl | hx
      · exact .inr ⟨h1,by rw [Nat.add_comm];exact staN_le h2 n⟩
      · exact (hn x hx).imp id fun h=>⟨h.1,staN_le h.2 d⟩
theorem cond_begun {ms:List MarkT} {x:CondT} {m:MarkT} (hx:idxI ms x.clause=some m) (h1:m.status=1):condM ms x=(x.is == 1):=by
  simp only [condM,hx,h1]
  cases (x.is == 1)<;>cases (x.is == 2)<;>cases (x.is == 3)<;>cases (x.is == 4)<;>rfl
theorem cond_idle {ms:List MarkT} {x:CondT} {m:MarkT} (hx:idxI ms x.clause=some m) (h1:m.status=0):condM ms x=false:=by
  simp only [condM,hx,h1]
  cases (x.is == 1)<;>cases (x.is == 2)<;>cases (x.is == 3)<;>cases (x.is == 4)<;>rfl
structure StartP (c:ContractT) (hs:List Int) (ms r:List MarkT):Prop where
  ok:MOk c r
  nr:NR c r
  rel:StR c ms r
  same:NR c ms→r=ms
  sta:StaR c hs ms r
theorem sta_status {ks:List ClauseT} {ms:List MarkT} {i:Nat} {m:MarkT} (h:Sta ks ms i) (hm:ms[i]?=some m):m.status=0:=by
  obtain ⟨n,h⟩:=h
  cases n with
  | zero=>exact h.elim
  | succ n=>obtain ⟨k,m',_,h2,h3,_⟩:=h;rw [hm] at h2;cases h2;exact h3
theorem sta_ready {c:ContractT} {hs:List Int} {ms r:List MarkT} (hl:ms.length=c.clauses.length) (hr:r.length=c.clauses.length) (hI:StaI c hs ms r) {i:Nat} {k:ClauseT} (hk:c.clauses[i]?=some k) (hcd:∀ x∈k.start,0≤x.clause∧x.clause < c.clauses.length) (hy:readyB c.clauses r i=true):Sta c.clauses ms i:=by
  have hi:=(List.getElem?_eq_some_iff.1 hk).1
  have hm:=List.getElem?_eq_getElem (show i < ms.length by omega)
  have hmr:=List.getElem?_eq_getElem (show i < r.length by omega)
  simp only [readyB,hk,hmr,Bool.and_eq_true,Bool.not_eq_true',beq_iff_eq,List.all_eq_true] at hy
  obtain ⟨⟨h0,hw⟩,hc⟩:=hy
  rcases hI i k _ hk hm with h | ⟨h,_⟩
  · rw [hmr] at h
    have e:=Option.some.inj h
    obtain ⟨n,hn⟩:=sta_all (ks:=c.clauses) (ms:=ms) k.start (fun x hx=>by
      obtain ⟨x0,x1⟩:=hcd x hx
      have hxi:=idxI_lt (l:=ms) (n:=x.clause) x0 (by omega)
      obtain ⟨a1,a2⟩:=hxi
      obtain ⟨b1,b2⟩:=idxI_lt (l:=r) (n:=x.clause) x0 (by omega)
      have hkx:=List.getElem?_eq_getElem (show x.clause.toNat < c.clauses.length by omega)
      have hx':=hc x hx
      rcases hI x.clause.toNat _ _ hkx (List.getElem?_eq_getElem a1) with h2 | ⟨h2,h3⟩
      · left
        rw [List.getElem?_eq_getElem b1] at h2
        simp only [condM,b2,Option.some.inj h2] at hx'
        simp only [condM,a2];exact hx'
      · right
        rw [List.getElem?_eq_getElem b1] at h3
        rw [cond_begun b2 (by rw [Option.some.inj h3];rfl)] at hx'
        exact ⟨beq_iff_eq.1 hx',h2⟩)
    exact ⟨n+1,k,_,hk,hm,by rw [←e];exact h0,hw,hn⟩
  · exact h
theorem sta_end {c:ContractT} {hs:List Int} {ms r:List MarkT} (hl:ms.length=c.clauses.length) (hr:r.length=c.clauses.length) (hI:StaI c hs ms r) (hn:NR c r) (hcd:∀ (i:Nat) (k:ClauseT),c.clauses[i]?=some k→∀ x∈k.start,0≤x.clause∧x.clause < c.clauses.length):StaR c hs ms r:=by
  have key:∀ (n i:Nat) (k:ClauseT),staN c.clauses ms n i→c.clauses[i]?=some k→r[i]?=some (begun k (bearF hs k)):=by
    intro n
    induction n with
    | zero=>intro i k h;exact h.elim
    | succ n ih=>
      intro i k h hk
      have hi:=(List.getElem?_eq_some_iff.1 hk).1
      obtain ⟨k',m,h1,h2,h3,h4,h5⟩:=h
      rw [hk] at h1
      cases h1
      rcases hI i k m hk h2 with h | ⟨_,h⟩
      · exfalso
        have:=hn i hi
        have hy:readyB c.clauses r i=true:=by
          simp only [readyB,hk,h,h3,h4,beq_self_eq_true,Bool.not_false,Bool.and_true,Bool.true_and,List.all_eq_true]
          intro x hx
          obtain ⟨x0,x1⟩:=hcd i k hk x hx
          obtain ⟨a1,a2⟩:=idxI_lt (l:=ms) (n:=x.clause) x0 (by omega)
          obtain ⟨b1,b2⟩:=idxI_lt (l:=r) (n:=x.clause) x0 (by omega)
          have hkx:=List.getElem?_eq_getElem (show x.clause.toNat < c.clauses.length by omega)
          rcases h5 x hx with h6 | ⟨h6,h7⟩
          · rcases hI x.clause.toNat _ _ hkx (List.getElem?_eq_getElem a1) with g | ⟨g,g2⟩
            · rw [List.getElem?_eq_getElem b1] at g
              simp only [condM,a2] at h6
              simp only [condM,b2,Option.some.inj g];exact h6
            · rw [cond_idle a2 (sta_status g (List.getElem?_eq_getElem a1))] at h6;cases h6
          · have g:=ih _ _ h7 hkx
            rw [List.getElem?_eq_getElem b1] at g
            rw [cond_begun b2 (by rw [Option.some.inj g];rfl),h6];rfl
        rw [hy] at this;cases this
      · exact h
  intro i k m hk hm
  by_cases hs':Sta c.clauses ms i
  · obtain ⟨n,h⟩:=hs'
    exact .inr ⟨⟨n,h⟩,key n i k h hk⟩
  · rcases hI i k m hk hm with h | ⟨h,_⟩
    · exact .inl ⟨hs',h⟩
    · exact absurd h hs'
theorem idleN_set {ms:List MarkT} {i:Nat} {m m':MarkT} (h:ms[i]?=some m) (h0:m.status=0) (h1:m'.status≠0):idleN (ms.set i m') < idleN ms:=by
  obtain ⟨hi,rfl⟩:=List.getElem?_eq_some_iff.1 h
  unfold idleN
  rw [List.countP_set hi]
  have hp:0 < ms.countP (fun m=>m.status == 0):=List.countP_pos_iff.2 ⟨_,List.getElem_mem hi,by simp [h0]⟩
  simp only [h0,beq_self_eq_true,if_true,beq_iff_eq,h1,if_false]
  omega
noncomputable def startO (c:ContractT) (day:Int) (hs:List Int) (us:List Bool) (ms:List MarkT):Option (List MarkT):=d_69a c day hs hs.length us us.length ms ms.length
theorem eqN_self (n:Nat):eqN n n=some ⟨rfl⟩:=by unfold eqN;rw [dif_pos rfl]
theorem eqN_of {a b:Nat} (h:a=b):eqN a b=some ⟨h⟩:=by unfold eqN;rw [dif_pos h]
theorem start_ret (c:ContractT) (day:Int) (hs:List Int) (us:List Bool) (ms:List MarkT) (ho:c.off.length < 4611686018427387904) (hv:(validR c).1=0) (hh:hs.length=c.holders.length) (hb:∀ h∈hs,0≤h∧h < c.parties) (hm:MOk c ms) :
    Ret (startO c day hs us ms) (StartP c hs ms):=by
  have sm:=small_of ho hv
  have hcl:=sm.clauses
  unfold startO d_69a
  refine Ret.bind (P:=fun r=>StartP c hs ms r) (Ret.iter (fun s=>MOk c s.2∧StR c ms s.2∧(NR c ms→s.2=ms)∧StaI c hs ms s.2∧(s.1=false→NR c s.2)) (fun s=>2*idleN s.2+(if s.1 then 1 else 0)) ⟨hm,fun i m m' h1 h2=>.inl (by simp only at h2;rw [h1] at h2;exact (Option.some.inj h2).symm),fun _=>rfl,fun i k m h1 h2=>.inl h2,fun h=>by cases h⟩ ?_) (fun r hr=>Ret.some hr)
  have hl0:=hm.1
  have hcd:∀ (i:Nat) (k:ClauseT),c.clauses[i]?=some k→∀ x∈k.start,0≤x.clause∧x.clause < c.clauses.length:=fun i k hk=>(kv_of ho hv hk).cond
  rintro ⟨b,ms1⟩ ⟨hok,hrel,hsame,hsta,hnr⟩
  cases b with
  | false=>exact Ret.some ⟨hok,hnr rfl,hrel,hsame,sta_end hl0 hok.1 hsta (hnr rfl) hcd⟩
  | true=>
    simp only [cond_true]
    refine Ret.bind (P:=fun o=>∃ s2:Bool×List MarkT,o=.inl s2∧MOk c s2.2∧StR c ms s2.2∧(NR c ms1→s2.2=ms1)∧StaI c hs ms s2.2∧(s2.1=false→s2.2=ms1∧NR c ms1)∧(s2.1=true→idleN s2.2 < idleN ms1))
      (Ret.forL (n:=c.clauses.length) (fun i s=>MOk c s.2∧StR c ms s.2∧(NR c ms1→s.2=ms1)∧StaI c hs ms s.2∧(s.1=false→s.2=ms1∧∀ j,j < i→readyB c.clauses ms1 j=false)∧(s.1=true→idleN s.2 < idleN ms1)) (by omega) ⟨hok,hrel,fun _=>rfl,hsta,fun _=>⟨rfl,fun j hj=>by omega⟩,fun h=>by cases h⟩ ?_ (fun s h=>⟨s,rfl,h⟩)) ?_
    · rintro i ⟨b0,ms2⟩ hi ⟨ok2,rel2,same2,sta2,nr2,lt2⟩
      simp only at ok2 rel2 same2 sta2 nr2 lt2
      have hk:=List.getElem?_eq_getElem hi
      have hl2:=ok2.1
      have hi2:i < ms2.length:=by omega
      have hm2:=List.getElem?_eq_getElem hi2
      have kv:=kv_of ho hv hk
      have hmk:=ok2.2 i _ _ hk hm2
      rw [idxI_at hk]
      simp only [Option.bind_some,eqN_self,eqN_of (show ms.length=ms2.length by omega)]
      rw [s_ready c _ i _ _ hk hm2 (by have:=kv.start;omega) (fun x hx=>by have:=kv.cond x hx;simp only;omega)]
      simp only [Option.bind_some]
      cases hr:readyB c.clauses ms2 i with
      | false=>
        simp only [cond_false,Option.bind_some]
        refine Ret.some ⟨ok2,rel2,same2,sta2,fun hb=>⟨(nr2 hb).1,fun j hj => ?_⟩,lt2⟩
        rcases Nat.lt_or_ge j i with h | h
        · exact (nr2 hb).2 j h
        · obtain rfl:j=i:=by omega
          rw [←(nr2 hb).1];exact hr
      | true=>
        simp only [cond_true]
        have hr':=hr
        simp only [readyB,hk,hm2,Bool.and_eq_true,Bool.not_eq_true',beq_iff_eq] at hr'
        obtain ⟨⟨h0,hw⟩,_⟩:=hr'
        have hbear:Ret (bif (c.clauses[i].kind == 4) then some (-1) else (Option.bind (idxN hs.length c.clauses[i].role) fun k1=>(Option.bind (hs[k1]?) fun e2=>some e2))) (fun v=>v=bearF hs c.clauses[i]∧bif c.clauses[i].kind == 4 then v = -1 else 0≤v∧v < c.parties):=by
          refine Ret.ite (fun h4=>Ret.some (by simp [h4,bearF])) (fun h4 => ?_)
          have h4':c.clauses[i].kind≠4:=beq_eq_false_iff_ne.1 h4
          have hro:=kv.role.resolve_left h4'
          rw [idxN_lt hro.1 (by omega)]
          have hlt:c.clauses[i].role.toNat < hs.length:=by omega
          simp only [Option.bind_some,List.getElem?_eq_getElem hlt]
          exact Ret.some ⟨by simp [bearF,h4,List.getElem?_eq_getElem hlt],by rw [h4];exact hb _ (List.getElem_mem hlt)⟩
        refine Ret.bind (P:=fun v:Bool×List MarkT=>∃ b,v=(true,ms2.set i (begun c.clauses[i] b))∧b=bearF hs c.clauses[i]∧(bif c.clauses[i].kind == 4 then b = -1 else 0≤b∧b < c.parties)) (Ret.bind hbear fun v hv' => ?_) ?_
        · rw [idxN_nat (show i < ms.length by omega)]
          simp only [Option.bind_some,hm2]
          exact Ret.some ⟨v,rfl,hv'⟩
        · rintro _ ⟨b,rfl,hbe,hbv⟩
          have hnew:mrkB c.parties c.clauses[i] (begun c.clauses[i] b)=true:=by
            simp only [mrkB,begun,runB,hw]
            have h1:=kv.after
            have:¬ c.clauses[i].after < 1:=by omega
            cases h4:(c.clauses[i].kind == 4) with
            | true=>rw [h4] at hbv;simp only [cond_true] at hbv;subst hbv;simp [this]
            | false=>rw [h4] at hbv;simp only [cond_false] at hbv;simp [this,hbv]
          refine Ret.some ⟨⟨by simpa using hl2,fun j k m hj hmj => ?_⟩,fun j m m' h1 h2 => ?_,fun hn => ?_,fun j k m hj hmj => ?_,fun h=>by simp at h,fun _ => ?_⟩
          · rw [List.getElem?_set] at hmj
            by_cases hij:i=j
            · subst hij
              rw [if_pos rfl,if_pos hi2] at hmj
              rw [hk] at hj
              cases hj;cases hmj;exact hnew
            · rw [if_neg hij] at hmj;exact ok2.2 j k m hj hmj
          · simp only at h2
            rw [List.getElem?_set] at h2
            by_cases hij:i=j
            · subst hij
              rw [if_pos rfl,if_pos hi2] at h2
              cases h2
              refine .inr ⟨?_,_,b,hk,rfl⟩
              rcases rel2 i m _ h1 hm2 with h | ⟨h,_⟩
              · rw [←h];exact h0
              · exact h
            · rw [if_neg hij] at h2;exact rel2 j m m' h1 h2
          · have e:=same2 hn
            have:=hn i hi
            rw [←e,hr] at this
            cases this
          · show (ms2.set i (begun c.clauses[i] b))[j]?=some m∨Sta c.clauses ms j∧(ms2.set i (begun c.clauses[i] b))[j]?=some (begun k (bearF hs k))
            rw [List.getElem?_set]
            by_cases hij:i=j
            · subst hij
              rw [if_pos rfl,if_pos hi2]
              rw [hk] at hj
              cases hj
              exact .inr ⟨sta_ready hl0 hl2 sta2 hk (hcd _ _ hk) hr,by rw [hbe]⟩
            · rw [if_neg hij];exact sta2 j k m hj hmj
          · have h3:=idleN_set (m':=begun c.clauses[i] b) hm2 h0 (by simp [begun])
            show idleN (ms2.set i (begun c.clauses[i] b)) < idleN ms1
            cases b0 with
            | true=>have:=lt2 rfl;omega
            | false=>have e:=(nr2 rfl).1;subst e;exact h3
    · rintro _ ⟨⟨b2,ms2⟩,rfl,ok2,rel2,same2,sta2,nr2,lt2⟩
      simp only at ok2 rel2 same2 sta2 nr2 lt2
      simp only [Sum.elim_inl]
      refine Ret.some ⟨⟨ok2,rel2,fun hn => ?_,sta2,fun hb2 => ?_⟩,?_⟩
      · have e:=hsame hn
        simp only at e
        subst e
        exact same2 hn
      · obtain ⟨e1,e2⟩:=nr2 hb2
        simp only;rw [e1];exact e2
      · simp only
        cases b2 with
        | true=>have:=lt2 rfl;simp;omega
        | false=>have:=(nr2 rfl).1;subst this;simp
end Go.Proofs.YtjkljacdbljkpaaGreatDoor
namespace Go.Proofs.YtjkljacdbljkpaaGreatDoor
open Go.RowKit
set_option linter.unusedVariables false
set_option linter.unusedSimpArgs false
set_option maxRecDepth 100000
def runN (m:MarkT):Bool:=m.status == 1||m.status == 2
theorem s_running (m:MarkT):d_running m=some (runN m):=by
  simp only [d_running,cond_some,Option.bind_some,runN];cases (m.status == 1)<;>rfl
def endM (st:Int) (m:MarkT):MarkT:={m with status:=st,left:=0,paused:=false}
def tickK (free:Bool) (k:ClauseT) (m:MarkT):MarkT:=
  bif runN m then (bif m.paused||(k.business&&free) then m else
    bif m.left - 1 == 0 then (bif k.kind == 1 then (bif m.status == 1&&decide (0 < k.grace) then {m with status:=2,left:=k.grace} else endM 4 m) else bif k.kind == 2 then endM 3 m else endM 5 m)
    else {m with left:=m.left - 1}) else m
def atK (c:ContractT) (F:ClauseT→MarkT→MarkT) (i:Nat) (m:MarkT):MarkT:=match c.clauses[i]? with | some k=>F k m | none=>m
structure RunV (c:ContractT) (k:ClauseT) (m:MarkT):Prop where
  waived:k.waived=false
  left:1≤m.left∧m.left≤400
  paused:m.paused=true→k.pause ≠ -1
  got:m.got=0∨(k.kind=1∧0≤m.got∧m.got < k.need)
  bearer:(k.kind=4∧m.bearer = -1)∨(k.kind≠4∧0≤m.bearer∧m.bearer < c.parties)
theorem runB_iff {p:Int} {k:ClauseT} {m:MarkT}:runB p k m=true↔k.waived=false∧1≤m.left∧(m.paused=true→k.pause ≠ -1)∧(m.got=0∨(k.kind=1∧0≤m.got∧m.got < k.need))∧((k.kind=4∧m.bearer = -1)∨(k.kind≠4∧0≤m.bearer∧m.bearer < p)):=by
  simp only [runB,Bool.and_eq_true,Bool.not_eq_true',Bool.or_eq_false_iff,decide_eq_false_iff_not,Bool.or_eq_true,beq_iff_eq]
  have e1:(m.paused&&k.pause == -1)=false↔(m.paused=true→k.pause ≠ -1):=by cases m.paused<;>simp
  have e2:(bif k.kind == 4 then m.bearer == -1 else decide (0≤m.bearer)&&decide (m.bearer < p))=true↔((k.kind=4∧m.bearer = -1)∨(k.kind≠4∧0≤m.bearer∧m.bearer < p)):=by
    cases h:(k.kind == 4) with
    | true=>have:=beq_iff_eq.1 h;simp [this]
    | false=>have:=beq_eq_false_iff_ne.1 h;simp [this]
  rw [e1,e2]
  constructor
  · rintro ⟨⟨a,b,d⟩,e,f⟩;exact ⟨a,by omega,d,by omega,f⟩
  · rintro ⟨a,b,d,e,f⟩;exact ⟨⟨a,by omega,d⟩,by omega,f⟩
theorem mrkB_iff {p:Int} {k:ClauseT} {m:MarkT}:mrkB p k m=true↔(m.status=0∧k.waived=false∧idleB m=true)∨(m.status=1∧m.left≤k.after∧runB p k m=true)∨(m.status=2∧k.kind=1∧m.left≤k.grace∧runB p k m=true)∨((m.status=3∨m.status=4∨m.status=5)∧endB p m=true):=by
  unfold mrkB
  by_cases h0:m.status=0
  · simp [h0]
  by_cases h1:m.status=1
  · simp [h1]
  by_cases h2:m.status=2
  · simp [h2]
  have e0:(m.status == 0)=false:=beq_eq_false_iff_ne.2 h0
  have e1:(m.status == 1)=false:=beq_eq_false_iff_ne.2 h1
  have e2:(m.status == 2)=false:=beq_eq_false_iff_ne.2 h2
  simp [e0,e1,e2,h0,h1,h2]
theorem runV_of {c:ContractT} {i:Nat} {k:ClauseT} {m:MarkT} (kv:KV c i k) (h:mrkB c.parties k m=true) (hr:runN m=true):RunV c k m∧runB c.parties k m=true∧(m.status=1∧m.left≤k.after∨m.status=2∧k.kind=1∧m.left≤k.grace):=by
  simp only [runN,Bool.or_eq_true,beq_iff_eq] at hr
  have ha:=kv.after
  have hg:=kv.grace
  rcases mrkB_iff.1 h with ⟨h0,_⟩ | ⟨h0,h1,h2⟩ | ⟨h0,h1,h2,h3⟩ | ⟨h0,_⟩
  · omega
  · obtain ⟨a,b,d,e,f⟩:=runB_iff.1 h2
    exact ⟨⟨a,⟨b,by omega⟩,d,e,f⟩,h2,.inl ⟨h0,h1⟩⟩
  · obtain ⟨a,b,d,e,f⟩:=runB_iff.1 h3
    exact ⟨⟨a,⟨b,by omega⟩,d,e,f⟩,h3,.inr ⟨h0,h1,h2⟩⟩
  · omega
theorem mrk_end {c:ContractT} {i:Nat} {k:ClauseT} {m:MarkT} {st:Int} (kv:KV c i k) (rv:RunV c k m) (hp:0 < c.parties) (hst:st=3∨st=4∨st=5):mrkB c.parties k (endM st m)=true:=by
  refine mrkB_iff.2 (.inr (.inr (.inr ⟨hst,?_⟩)))
  have h1:=rv.got
  have h2:=rv.bearer
  have h3:=kv.need
  have e1:decide (0≤m.got)=true:=decide_eq_true (by omega)
  have e2:decide (m.got≤9)=true:=decide_eq_true (by omega)
  have e3:decide (-1≤m.bearer)=true:=decide_eq_true (by omega)
  have e4:decide (m.bearer < c.parties)=true:=decide_eq_true (by omega)
  show ((0:Int) == 0&&(decide (0≤m.got)&&(decide (m.got≤9)&&(decide (-1≤m.bearer)&&(decide (m.bearer < c.parties) && !false)))))=true
  rw [e1,e2,e3,e4];rfl
theorem mrk_run {c:ContractT} {k:ClauseT} {m:MarkT} (h:(m.status=1∧m.left≤k.after)∨(m.status=2∧k.kind=1∧m.left≤k.grace)) (hr:runB c.parties k m=true):mrkB c.parties k m=true:=by
  rcases h with ⟨h0,h1⟩ | ⟨h0,h1,h2⟩
  · exact mrkB_iff.2 (.inr (.inl ⟨h0,h1,hr⟩))
  · exact mrkB_iff.2 (.inr (.inr (.inl ⟨h0,h1,h2,hr⟩)))
theorem MOk.mapIdx {c:ContractT} {ms:List MarkT} (F:ClauseT→MarkT→MarkT) (h:MOk c ms) (hF:∀ (i:Nat) (k:ClauseT) (m:MarkT),c.clauses[i]?=some k→mrkB c.parties k m=true→mrkB c.parties k (F k m)=true):MOk c (ms.mapIdx (atK c F)):=by
  refine ⟨by simpa using h.1,fun i k m hk hm => ?_⟩
  rw [List.getElem?_mapIdx] at hm
  obtain ⟨m0,h0,rfl⟩:=Option.map_eq_some_iff.1 hm
  simp only [atK,hk]
  exact hF i k m0 hk (h.2 i k m0 hk h0)
theorem mrk_tick {c:ContractT} {i:Nat} {k:ClauseT} {m:MarkT} (free:Bool) (kv:KV c i k) (hp:0 < c.parties) (h:mrkB c.parties k m=true):mrkB c.parties k (tickK free k m)=true:=by
  unfold tickK
  cases hr:runN m with
  | false=>exact h
  | true=>
    obtain ⟨rv,hb,hs⟩:=runV_of kv h hr
    simp only [cond_true]
    cases hp1:(m.paused||(k.business&&free)) with
    | true=>exact h
    | false=>
      simp only [cond_false]
      have hl:=rv.left
      obtain ⟨b1,b2,b3,b4,b5⟩:=runB_iff.1 hb
      cases hz:(m.left - 1 == 0) with
      | false=>
        have:=beq_eq_false_iff_ne.1 hz
        refine mrk_run ?_ (runB_iff.2 ⟨b1,?_,b3,b4,b5⟩)
        · simp only [cond_false];omega
        · simp only [cond_false];omega
      | true=>
        simp only [cond_true]
        cases h1:(k.kind == 1) with
        | false=>
          cases h2:(k.kind == 2) with
          | true=>exact mrk_end kv rv hp (by omega)
          | false=>exact mrk_end kv rv hp (by omega)
        | true=>
          simp only [cond_true]
          cases h3:(m.status == 1&&decide (0 < k.grace)) with
          | false=>exact mrk_end kv rv hp (by omega)
          | true=>
            simp only [Bool.and_eq_true,beq_iff_eq,decide_eq_true_eq] at h3
            exact mrk_run (.inr ⟨rfl,beq_iff_eq.1 h1,Int.le_refl _⟩) (runB_iff.2 ⟨b1,by simp only [cond_true];omega,b3,b4,b5⟩)
theorem set_self {α:Type} {s:List α} {i:Nat} {m:α} (h:s[i]?=some m):s.set i m=s:=by
  obtain ⟨hi,rfl⟩:=List.getElem?_eq_some_iff.1 h
  exact List.set_getElem_self hi
theorem get_set {α:Type} {s:List α} {i:Nat} {m x:α} (h:s[i]?=some m):(s.set i x)[i]?=some x:=by
  have:=(List.getElem?_eq_some_iff.1 h).1
  simp [this]
theorem s_end (i:Nat) (st:Int) (c:ContractT) (p4:Int) (p5:List Int) (p6:Nat) (p7:List Bool) (p8:Nat) (ms:List MarkT) (n:Nat) (m:MarkT) (hi:i < n) (hm:ms[i]?=some m):d_62a i st c p4 p5 p6 p7 p8 ms n=some (ms.set i (endM st m)):=by
  unfold d_62a
  simp only [idxN_nat hi,Option.bind_some,hm,List.set_set,endM]
theorem tick_eq (c:ContractT) (day:Int) (hs:List Int) (us:List Bool) (ms:List MarkT) (ho:c.off.length < 4611686018427387904) (hv:(validR c).1=0) (hm:MOk c ms) (hday:0≤day∧day≤2000) :
    d_70a c day hs hs.length us us.length ms ms.length=startO c (day+1) hs us (ms.mapIdx (atK c (tickK (posI c.off day).isSome))):=by
  have sm:=small_of ho hv
  have hcl:=sm.clauses
  have hl:=hm.1
  unfold d_70a
  obtain ⟨r,hr,_⟩:=s_BinarySearch c.off day (off_of ho hv) ho
  rw [hr]
  simp only [Option.bind_some,d_66a]
  rw [forR_mapIdx ms (atK c (tickK (posI c.off day).isSome)) (by omega) ?_]
  · simp only [Option.bind_some,Sum.elim_inl]
    rw [wrap_i64 (by omega) (by omega)]
    unfold startO
    rw [List.length_mapIdx]
    generalize d_69a _ _ _ _ _ _ _ _=x
    cases x<;>rfl
  · intro i m s h1 h2 h3
    have hi:i < ms.length:=(List.getElem?_eq_some_iff.1 h1).1
    have hic:i < c.clauses.length:=by omega
    have hk:=List.getElem?_eq_getElem hic
    have kv:=kv_of ho hv hk
    have hmk:=hm.2 i _ _ hk h1
    simp only [idxN_nat hi,Option.bind_some,h3,s_running,atK,hk]
    generalize c.clauses[i]=k at hk kv hmk
    cases hrn:runN m with
    | false=>simp only [cond_false,Option.bind_some,tickK,hrn,set_self h3]
    | true=>
      obtain ⟨rv,hb,hst⟩:=runV_of kv hmk hrn
      have hleft:=rv.left
      simp only [cond_true,idxI_at hk,Option.bind_some,tickK,hrn,cond_some]
      have epb:(bif m.paused then true else bif k.business then (posI c.off day).isSome else false)=(m.paused||(k.business&&(posI c.off day).isSome)):=by cases m.paused<;>cases k.business<;>rfl
      rw [epb]
      cases hp1:(m.paused||(k.business&&(posI c.off day).isSome)) with
      | true=>simp only [cond_true,Option.bind_some,Bool.not_true,cond_false,set_self h3]
      | false=>
        rw [wrap_i64 (show -9223372036854775808≤m.left - 1 by omega) (by omega)]
        simp only [cond_false,Option.bind_some,get_set h3]
        cases hz:(m.left - 1 == 0) with
        | false=>simp only [cond_false,Option.bind_some,Bool.not_true]
        | true=>
          have hz':=beq_iff_eq.1 hz
          have hk0:(k.kind == 0)=false:=beq_eq_false_iff_ne.2 (by have:=kv.kind;omega)
          simp only [cond_true,hk0,cond_false,d_63a,d_61a,d_64a,idxN_nat hi,Option.bind_some,get_set h3,idxI_at hk,cond_some]
          rw [s_end i 4 _ _ _ _ _ _ _ _ _ hi (get_set h3),s_end i 3 _ _ _ _ _ _ _ _ _ hi (get_set h3),s_end i 5 _ _ _ _ _ _ _ _ _ hi (get_set h3)]
          simp only [Option.bind_some,List.set_set,endM,hz']
          cases h1:(k.kind == 1) with
          | true=>
            simp only [cond_true]
            have e3:(bif m.status == 1 then decide (0 < k.grace) else false)=(m.status == 1&&decide (0 < k.grace)):=by cases (m.status == 1)<;>rfl
            rw [e3]
            cases h4:(m.status == 1&&decide (0 < k.grace))<;>simp
          | false=>
            cases h2:(k.kind == 2) with
            | true=>simp
            | false=>
              cases h3:(k.kind == 3) with
              | true=>simp
              | false=>
                have h4:(k.kind == 4)=true:=beq_iff_eq.2 (by have:=kv.kind;have:=beq_eq_false_iff_ne.1 h1;have:=beq_eq_false_iff_ne.1 h2;have:=beq_eq_false_iff_ne.1 h3;omega)
                simp [h4]
end Go.Proofs.YtjkljacdbljkpaaGreatDoor
namespace Go.Proofs.YtjkljacdbljkpaaGreatDoor
open Go.RowKit
set_option linter.unusedVariables false
set_option linter.unusedSimpArgs false
set_option maxRecDepth 100000
def pauseK (act:Int) (k:ClauseT) (m:MarkT):MarkT:=
  bif runN m then (bif act == k.pause then {m with paused:=true} else bif act == k.resume then {m with paused:=false} else m) else m
def perfK (k:ClauseT) (m:MarkT):MarkT:=bif m.got+1 == k.need then endM 3 {m with got:=m.got+1} else {m with got:=m.got+1}
def effK (k:ClauseT) (m:MarkT):MarkT:=bif k.kind == 1 then perfK k m else bif k.kind == 2 then (bif m.paused then m else endM 4 m) else endM 3 m
def actK (act by_:Int) (k:ClauseT) (m:MarkT):MarkT:=bif runN m then (bif k.act == act&&(k.kind == 4||m.bearer == by_) then effK k m else m) else m
def moveK (a:ActT) (k:ClauseT) (m:MarkT):MarkT:=bif runN m then (bif !(k.kind == 4)&&k.role == a.give then {m with bearer:=a.to} else m) else m
def doerI (hs:List Int) (a:ActT):Int:=bif a.role == -1 then -1 else hs[a.role.toNat]?.getD 0
theorem s_doer (c:ContractT) (s:StateT) (i:Nat) (a:ActT) (ha:c.acts[i]?=some a) (h:a.role = -1∨(0≤a.role∧a.role < s.holders.length)):d_doer c s i=some (doerI s.holders a):=by
  unfold d_doer doerI
  simp only [idxI_at ha,Option.bind_some]
  cases hr:(a.role == -1) with
  | true=>rfl
  | false=>
    have h1:=beq_eq_false_iff_ne.1 hr
    obtain ⟨h2,h3⟩:=idxI_lt (l:=s.holders) (n:=a.role) (by omega) (by omega)
    simp only [cond_false,h3,Option.bind_some,List.getElem?_eq_getElem h2,Option.getD_some]
theorem mrk_pause {c:ContractT} {i:Nat} {k:ClauseT} {m:MarkT} {act:Int} (ha:0≤act) (kv:KV c i k) (h:mrkB c.parties k m=true):mrkB c.parties k (pauseK act k m)=true:=by
  unfold pauseK
  cases hr:runN m with
  | false=>exact h
  | true=>
    obtain ⟨rv,hb,hs⟩:=runV_of kv h hr
    obtain ⟨b1,b2,b3,b4,b5⟩:=runB_iff.1 hb
    simp only [cond_true]
    cases h1:(act == k.pause) with
    | true=>exact mrk_run hs (runB_iff.2 ⟨b1,b2,fun _=>by have:=beq_iff_eq.1 h1;omega,b4,b5⟩)
    | false=>
      cases h2:(act == k.resume) with
      | true=>exact mrk_run hs (runB_iff.2 ⟨b1,b2,fun h=>absurd (show false=true from h) (by decide),b4,b5⟩)
      | false=>exact h
theorem mrk_act {c:ContractT} {i:Nat} {k:ClauseT} {m:MarkT} {act by_:Int} (hp:0 < c.parties) (kv:KV c i k) (h:mrkB c.parties k m=true):mrkB c.parties k (actK act by_ k m)=true:=by
  unfold actK
  cases hr:runN m with
  | false=>exact h
  | true=>
    obtain ⟨rv,hb,hs⟩:=runV_of kv h hr
    obtain ⟨b1,b2,b3,b4,b5⟩:=runB_iff.1 hb
    simp only [cond_true]
    cases h1:(k.act == act&&(k.kind == 4||m.bearer == by_)) with
    | false=>exact h
    | true=>
      simp only [cond_true,effK]
      have hn:=kv.need
      cases h2:(k.kind == 1) with
      | true=>
        have hk:=beq_iff_eq.1 h2
        simp only [cond_true,perfK]
        cases h3:(m.got+1 == k.need) with
        | true=>
          have h3':=beq_iff_eq.1 h3
          refine mrkB_iff.2 (.inr (.inr (.inr ⟨.inl rfl,?_⟩)))
          have e1:decide (0≤m.got+1)=true:=decide_eq_true (by omega)
          have e2:decide (m.got+1≤9)=true:=decide_eq_true (by omega)
          have e3:decide (-1≤m.bearer)=true:=decide_eq_true (by omega)
          have e4:decide (m.bearer < c.parties)=true:=decide_eq_true (by omega)
          show ((0:Int) == 0&&(decide (0≤m.got+1)&&(decide (m.got+1≤9)&&(decide (-1≤m.bearer)&&(decide (m.bearer < c.parties) && !false)))))=true
          rw [e1,e2,e3,e4];rfl
        | false=>
          have h3':=beq_eq_false_iff_ne.1 h3
          refine mrk_run hs (runB_iff.2 ⟨b1,b2,b3,.inr ⟨hk,?_,?_⟩,b5⟩)
          · show 0≤m.got+1;omega
          · show m.got+1 < k.need;omega
      | false=>
        simp only [cond_false]
        cases h3:(k.kind == 2) with
        | true=>
          simp only [cond_true]
          cases m.paused with
          | true=>exact h
          | false=>exact mrk_end kv rv hp (by omega)
        | false=>exact mrk_end kv rv hp (by omega)
theorem mrk_move {c:ContractT} {i:Nat} {k:ClauseT} {m:MarkT} {a:ActT} (kv:KV c i k) (ht:0≤a.to∧a.to < c.parties) (h:mrkB c.parties k m=true):mrkB c.parties k (moveK a k m)=true:=by
  unfold moveK
  cases hr:runN m with
  | false=>exact h
  | true=>
    obtain ⟨rv,hb,hs⟩:=runV_of kv h hr
    obtain ⟨b1,b2,b3,b4,b5⟩:=runB_iff.1 hb
    simp only [cond_true]
    cases h1:(!(k.kind == 4)&&k.role == a.give) with
    | false=>exact h
    | true=>
      simp only [Bool.and_eq_true,Bool.not_eq_true',beq_eq_false_iff_ne] at h1
      exact mrk_run hs (runB_iff.2 ⟨b1,b2,b3,b4,.inr ⟨h1.1,ht.1,ht.2⟩⟩)
def ms1 (c:ContractT) (act:Int) (ms:List MarkT):List MarkT:=ms.mapIdx (atK c (pauseK act))
def ms2 (c:ContractT) (act:Int) (a:ActT) (hs:List Int) (ms:List MarkT):List MarkT:=(ms1 c act ms).mapIdx (atK c (actK act (doerI hs a)))
def ms3 (c:ContractT) (act:Int) (a:ActT) (hs:List Int) (ms:List MarkT):List MarkT:=bif a.kind == 3 then (ms2 c act a hs ms).mapIdx (atK c (moveK a)) else ms2 c act a hs ms
def hs3 (a:ActT) (hs:List Int):List Int:=bif a.kind == 1 then hs else hs.set a.give.toNat a.to
def us3 (i:Nat) (a:ActT) (us:List Bool):List Bool:=bif a.kind == 1 then us else us.set i true
theorem ms1_ok {c:ContractT} {act:Int} {ms:List MarkT} (ho:c.off.length < 4611686018427387904) (hv:(validR c).1=0) (ha:0≤act) (hm:MOk c ms):MOk c (ms1 c act ms):=
  hm.mapIdx _ fun i k m hk h=>mrk_pause ha (kv_of ho hv hk) h
theorem ms2_ok {c:ContractT} {act:Int} {a:ActT} {hs:List Int} {ms:List MarkT} (ho:c.off.length < 4611686018427387904) (hv:(validR c).1=0) (ha:0≤act) (hm:MOk c ms):MOk c (ms2 c act a hs ms):=
  (ms1_ok ho hv ha hm).mapIdx _ fun i k m hk h=>mrk_act (by have:=(small_of ho hv).parties;omega) (kv_of ho hv hk) h
theorem ms3_ok {c:ContractT} {act:Int} {a:ActT} {hs:List Int} {ms:List MarkT} (ho:c.off.length < 4611686018427387904) (hv:(validR c).1=0) (ha:0≤act) (av:AV2 c a) (hm:MOk c ms):MOk c (ms3 c act a hs ms):=by
  unfold ms3
  cases h3:(a.kind == 3) with
  | false=>exact ms2_ok ho hv ha hm
  | true=>
    refine (ms2_ok ho hv ha hm).mapIdx _ fun i k m hk h=>mrk_move (kv_of ho hv hk) ?_ h
    have:=beq_iff_eq.1 h3
    have:=av.kind
    omega
theorem act_eq (c:ContractT) (day:Int) (hs:List Int) (us:List Bool) (ms:List MarkT) (i:Nat) (a:ActT) (ho:c.off.length < 4611686018427387904) (hv:(validR c).1=0) (hh:hs.length=c.holders.length) (hu:us.length=c.acts.length)
    (ha:c.acts[i]?=some a) (hm:MOk c ms) :
    d_60a i c day hs hs.length us us.length ms ms.length=(bif !(a.kind == 1)&&us[i]?.getD false then some (hs,us,ms) else
      (startO c day (hs3 a hs) (us3 i a us) (ms3 c i a hs ms)).bind fun r=>some (hs3 a hs,us3 i a us,r)):=by
  have sm:=small_of ho hv
  have hcl:=sm.clauses
  have hl:=hm.1
  have av:=av_of hv ha
  have hia:i < c.acts.length:=(List.getElem?_eq_some_iff.1 ha).1
  have hiu:i < us.length:=by omega
  unfold d_60a
  have eU:(bif a.kind == 1 then some false else (Option.bind (idxN us.length (i:Int)) fun k1=>(Option.bind (us[k1]?) fun e2=>some e2)))=some (!(a.kind == 1)&&us[i]?.getD false):=by
    simp only [idxN_nat hiu,Option.bind_some,List.getElem?_eq_getElem hiu,Option.getD_some]
    cases (a.kind == 1)<;>rfl
  simp only [idxI_at ha,Option.bind_some]
  rw [eU]
  simp only [Option.bind_some]
  cases hearly:(!(a.kind == 1)&&us[i]?.getD false) with
  | true=>rfl
  | false=>
    simp only [cond_false,d_66a,Option.bind_some]
    rw [forR_mapIdx ms (atK c (pauseK i)) (by omega) ?p1]
    case p1=>
      intro j m s h1 h2 h3
      have hj:j < ms.length:=(List.getElem?_eq_some_iff.1 h1).1
      have hk:=List.getElem?_eq_getElem (show j < c.clauses.length by omega)
      simp only [idxN_nat hj,Option.bind_some,h3,s_running,atK,hk,pauseK]
      generalize c.clauses[j]=k at hk
      cases hrn:runN m with
      | false=>simp only [cond_false,Option.bind_some,set_self h3]
      | true=>
        simp only [cond_true,idxI_at hk,Option.bind_some]
        cases ((i:Int) == k.pause) with
        | true=>simp only [cond_true,Option.bind_some,Bool.not_true,cond_false]
        | false=>
          simp only [cond_false]
          cases ((i:Int) == k.resume) with
          | true=>simp only [cond_true,Option.bind_some,Bool.not_true,cond_false]
          | false=>simp only [cond_false,Option.bind_some,Bool.not_true,set_self h3]
    simp only [Option.bind_some,Sum.elim_inl]
    show Option.bind (eqN hs.length hs.length) _=_
    simp only [eqN_self,Option.bind_some,eqN_of (show ms.length=(ms.mapIdx (atK c (pauseK (i:Int)))).length by simp)]
    rw [s_doer c _ i a ha (by have:=av.role;simp only;omega)]
    simp only [Option.bind_some]
    have m1ok:=ms1_ok (act:=(i:Int)) ho hv (by omega) hm
    have hlen1:(ms.length:Int)=((ms1 c i ms).length:Int):=by simp [ms1]
    show Option.bind (Option.bind (forR (ms.length:Int) _ (ms1 c i ms)) _) _=_
    rw [hlen1]
    rw [forR_mapIdx (ms1 c i ms) (atK c (actK i (doerI hs a))) (by simp [ms1];omega) ?p2]
    case p2=>
      intro j m s h1 h2 h3
      have hj1:j < (ms1 c i ms).length:=(List.getElem?_eq_some_iff.1 h1).1
      have hj:j < ms.length:=by simpa [ms1] using hj1
      have hk:=List.getElem?_eq_getElem (show j < c.clauses.length by omega)
      have kv:=kv_of ho hv hk
      have hmk:=m1ok.2 j _ _ hk h1
      simp only [idxN_nat hj,Option.bind_some,h3,s_running,atK,hk,actK]
      generalize c.clauses[j]=k at hk kv hmk
      cases hrn:runN m with
      | false=>simp only [cond_false,Option.bind_some,set_self h3]
      | true=>
        obtain ⟨rv,hb,hst⟩:=runV_of kv hmk hrn
        simp only [cond_true,idxI_at hk,Option.bind_some]
        have eT:(bif k.act == (i:Int) then (bif k.kind == 4 then some true else some (m.bearer == doerI hs a)) else some false)=some (k.act == (i:Int)&&(k.kind == 4||m.bearer == doerI hs a)):=by
          cases (k.act == (i:Int))<;>cases (k.kind == 4)<;>rfl
        rw [eT]
        simp only [Option.bind_some]
        cases (k.act == (i:Int)&&(k.kind == 4||m.bearer == doerI hs a)) with
        | false=>simp only [cond_false,Option.bind_some,Bool.not_true,set_self h3]
        | true=>
          have hgot:=rv.got
          have hneed:=kv.need
          have hk0:(k.kind == 0)=false:=beq_eq_false_iff_ne.2 (by have:=kv.kind;omega)
          simp only [cond_true,hk0,cond_false,d_65a,d_71a,d_61a,idxN_nat hj,Option.bind_some,h3,get_set h3,idxI_at hk,effK,perfK]
          rw [wrap_i64 (show -9223372036854775808≤m.got+1 by omega) (by omega)]
          rw [s_end j 3 _ _ _ _ _ _ _ _ _ hj h3,s_end j 3 _ _ _ _ _ _ _ _ _ hj (get_set h3),s_end j 4 _ _ _ _ _ _ _ _ _ hj h3]
          simp only [Option.bind_some,List.set_set]
          cases e1:(k.kind == 1) with
          | true=>cases (m.got+1 == k.need)<;>simp
          | false=>
            cases e2:(k.kind == 2) with
            | true=>cases m.paused<;>simp [set_self h3]
            | false=>
              cases e3:(k.kind == 3) with
              | true=>simp
              | false=>
                have h4:(k.kind == 4)=true:=beq_iff_eq.2 (by have:=kv.kind;have:=beq_eq_false_iff_ne.1 e1;have:=beq_eq_false_iff_ne.1 e2;have:=beq_eq_false_iff_ne.1 e3;omega)
                simp [h4]
    simp only [Option.bind_some,Sum.elim_inl]
    show Option.bind (bif a.kind == 1 then some (hs,us,ms2 c i a hs ms) else _) _=_
    have m2ok:=ms2_ok (act:=(i:Int)) (a:=a) (hs:=hs) ho hv (by omega) hm
    cases h1:(a.kind == 1) with
    | true=>
      have h3:(a.kind == 3)=false:=beq_eq_false_iff_ne.2 (by have:=beq_iff_eq.1 h1;omega)
      simp only [cond_true,Option.bind_some,hs3,us3,ms3,h1,h3,cond_false]
      unfold startO
      rw [show (ms2 c i a hs ms).length=ms.length by simp [ms2,ms1]]
    | false=>
      have hak:=av.kind.resolve_left (beq_eq_false_iff_ne.1 h1)
      have hg:a.give.toNat < hs.length:=by omega
      simp only [cond_false,d_68a,idxI_at ha,Option.bind_some]
      rw [idxN_lt (show 0≤a.give by omega) (by omega),idxN_nat hiu]
      simp only [Option.bind_some,List.getElem?_eq_getElem hg,List.getElem?_eq_getElem hiu,d_66a,hs3,us3,ms3,h1,cond_false]
      cases h3:(a.kind == 3) with
      | false=>
        simp only [cond_false,Option.bind_some]
        unfold startO
        rw [show (ms2 c i a hs ms).length=ms.length by simp [ms2,ms1],List.length_set,List.length_set]
        rfl
      | true=>
        simp only [cond_true]
        have hlen2:(ms.length:Int)=((ms2 c i a hs ms).length:Int):=by simp [ms2,ms1]
        rw [hlen2,show List.mapIdx (atK c (actK (i:Int) (doerI hs a))) (ms1 c i ms)=ms2 c i a hs ms from rfl]
        rw [forR_mapIdx (ms2 c i a hs ms) (atK c (moveK a)) (by simp [ms2,ms1];omega) ?p3]
        case p3=>
          intro j m s h1 h2 h3
          have hj1:j < (ms2 c i a hs ms).length:=(List.getElem?_eq_some_iff.1 h1).1
          have hj:j < ms.length:=by simpa [ms2,ms1] using hj1
          have hk:=List.getElem?_eq_getElem (show j < c.clauses.length by omega)
          simp only [idxN_nat hj,Option.bind_some,h3,s_running,atK,hk,moveK]
          generalize c.clauses[j]=k at hk
          cases hrn:runN m with
          | false=>simp only [cond_false,Option.bind_some,set_self h3]
          | true=>
            simp only [cond_true,idxI_at hk,Option.bind_some]
            cases (k.kind == 4) with
            | true=>simp only [cond_true,Option.bind_some,Bool.not_true,Bool.false_and,cond_false,set_self h3]
            | false=>
              simp only [cond_false,Option.bind_some,Bool.not_false,Bool.true_and]
              cases (k.role == a.give) with
              | true=>simp only [cond_true,Option.bind_some,Bool.not_true,cond_false]
              | false=>simp only [cond_false,Option.bind_some,Bool.not_true,set_self h3]
        simp only [Option.bind_some,Sum.elim_inl]
        unfold startO
        rw [show ((ms2 c i a hs ms).mapIdx (atK c (moveK a))).length=ms.length by simp [ms2,ms1],List.length_set,List.length_set]
end Go.Proofs.YtjkljacdbljkpaaGreatDoor
namespace Go.Proofs.YtjkljacdbljkpaaGreatDoor
open Go.RowKit
set_option linter.unusedVariables false
set_option linter.unusedSimpArgs false
set_option maxRecDepth 100000
def noS:StateT:={day:=0,holders:=[],used:=[],marks:=[]}
def ActP (c:ContractT) (i:Nat) (a:ActT) (s r:StateT):Prop:=
  (a.kind≠1∧s.used[i]?=some true∧r=s)∨((a.kind=1∨s.used[i]?=some false)∧r.day=s.day∧r.holders=hs3 a s.holders∧r.used=us3 i a s.used∧StartP c (hs3 a s.holders) (ms3 c i a s.holders s.marks) r.marks)
def TickP (c:ContractT) (s r:StateT):Prop:=r.day=s.day+1∧r.holders=s.holders∧r.used=s.used∧StartP c s.holders (s.marks.mapIdx (atK c (tickK (posI c.off s.day).isSome))) r.marks
theorem mkN_of {b n:Nat} (h:n < 1000) (hb:b≤1000):mkN b (n:Int)=some n:=by
  unfold mkN
  have:n*b≤1000*1000:=Nat.mul_le_mul (by omega) hb
  rw [if_pos ⟨by omega,by omega,by omega⟩];simp
theorem copyI_of {α:Type} {l d:List α} {k:Nat} (h:k=d.length) (h2:l.length=k):copyI k d l=some l:=by unfold copyI;rw [if_pos ⟨h,h2⟩]
theorem mem_set {α:Type} {l:List α} {i:Nat} {x y:α} (h:y∈l.set i x):y∈l∨y=x:=List.mem_or_eq_of_mem_set h
theorem step_err {c:ContractT} {s:StateT} {a:Int} (hc:c.Ok) (h:vsB c s=false∨a < -1∨(c.acts.length:Int)≤a):d_Step c s a=some (noS,1):=by
  unfold d_Step
  rw [s_ValidS c s hc]
  simp only [Option.bind_some,cond_some]
  have:(bif vsB c s then (bif decide (a < -1) then true else decide ((c.acts.length:Int)≤a)) else true)=true:=by
    rcases h with h | h | h
    · rw [h];rfl
    · rw [decide_eq_true h];cases vsB c s<;>rfl
    · rw [decide_eq_true h];cases vsB c s<;>cases decide (a < -1)<;>rfl
  rw [this];rfl
theorem step_end {c:ContractT} {s:StateT} {a:Int} (hc:c.Ok) (h:vsB c s=true) (h1 : -1≤a) (h2:a < c.acts.length) (hd:s.day=c.days):d_Step c s a=some (noS,13):=by
  unfold d_Step
  rw [s_ValidS c s hc]
  have e1:decide (a < -1)=false:=decide_eq_false (by omega)
  have e2:decide ((c.acts.length:Int)≤a)=false:=decide_eq_false (by omega)
  have e3:(s.day == c.days)=true:=beq_iff_eq.2 hd
  simp only [Option.bind_some,h,e1,e2,e3,cond_true,cond_false];rfl
theorem step_ret {c:ContractT} {s:StateT} {a:Int} (hc:c.Ok) (hv:VS c s) (h1 : -1≤a) (h2:a < c.acts.length) (hd:s.day < c.days) :
    Ret (d_Step c s a) (fun r=>r.2=0∧VS c r.1∧(a = -1→TickP c s r.1)∧(∀ (i:Nat) (x:ActT),a=(i:Int)→c.acts[i]?=some x→ActP c i x s r.1)):=by
  have ho:=hc.off.lt (by omega:0 < 8)
  have sm:=small_of ho hv.cv
  have s1:=sm.holders
  have s2:=sm.acts
  have s3:=sm.clauses
  have sd:=sm.days
  have hlh:=hv.lh
  have hlu:=hv.lu
  have hlm:=hv.lm
  have hday:=hv.day
  have hmo:MOk c s.marks:=⟨hlm,fun i k m hk hm=>hv.mrk i k m hk hm⟩
  unfold d_Step
  have e1:decide (a < -1)=false:=decide_eq_false (by omega)
  have e2:decide ((c.acts.length:Int)≤a)=false:=decide_eq_false (by omega)
  refine Ret.bindE (v:=false) (by rw [s_ValidS c s hc,vsB_of hv,e1,e2];rfl) ?_
  refine Ret.ite (fun h=>by cases h) (fun _ => ?_)
  refine Ret.ite (fun h=>absurd (beq_iff_eq.1 h) (by omega)) (fun _ => ?_)
  refine Ret.bindE (mkN_of (show s.holders.length < 1000 by omega) (by omega)) ?_
  refine Ret.bindE (mkN_of (show s.used.length < 1000 by omega) (by omega)) ?_
  refine Ret.bindE (mkN_of (show s.marks.length < 1000 by omega) (by omega)) ?_
  refine Ret.bindE (copyI_of (by simp) rfl) ?_
  refine Ret.bindE (copyI_of (by simp) rfl) ?_
  refine Ret.bindE (copyI_of (by simp) rfl) ?_
  cases ht:(a == (-1:Int)) with
  | true=>
    have ha:=beq_iff_eq.1 ht
    simp only [cond_true]
    rw [tick_eq c s.day s.holders s.used s.marks ho hv.cv hmo (by omega)]
    have hmo2:MOk c (s.marks.mapIdx (atK c (tickK (posI c.off s.day).isSome))):=hmo.mapIdx _ fun i k m hk h=>mrk_tick _ (kv_of ho hv.cv hk) (by have:=sm.parties;omega) h
    refine Ret.bind (P:=fun v:List Int×List Bool×List MarkT×Int=>v.1=s.holders∧v.2.1=s.used∧v.2.2.2=s.day+1∧StartP c s.holders (s.marks.mapIdx (atK c (tickK (posI c.off s.day).isSome))) v.2.2.1)
      (Ret.bind (start_ret c (s.day+1) s.holders s.used _ ho hv.cv hlh hv.hold hmo2) fun r hr=>Ret.some ⟨rfl,rfl,wrap_i64 (by omega) (by omega),hr⟩) ?_
    rintro ⟨v1,v2,v3,v4⟩ ⟨q1,q2,q3,q4⟩
    simp only at q1 q2 q3 q4
    subst q1;subst q2;subst q3
    have hl3:s.marks.length=v3.length:=by have:=q4.ok.1;omega
    simp only [eqN_self,eqN_of hl3,Option.bind_some]
    refine Ret.some ⟨rfl,⟨hv.cv,⟨by show 0≤s.day+1;omega,by show s.day+1≤c.days;omega⟩,hlh,hlu,q4.ok.1,hv.hold,hv.used,q4.ok.2,q4.nr⟩,fun _=>⟨rfl,rfl,rfl,q4⟩,fun i x hi=>by omega⟩
  | false=>
    have ha:=beq_eq_false_iff_ne.1 ht
    obtain ⟨i,rfl⟩:∃ i:Nat,a=(i:Int):=⟨a.toNat,by omega⟩
    have hi:i < c.acts.length:=by omega
    have hx:=List.getElem?_eq_getElem hi
    generalize c.acts[i]=x at hx
    have av:=av_of hv.cv hx
    simp only [cond_false]
    rw [act_eq c s.day s.holders s.used s.marks i x ho hv.cv hlh hlu hx hmo]
    have hiu:i < s.used.length:=by omega
    cases hearly:(!(x.kind == 1)&&s.used[i]?.getD false) with
    | true=>
      simp only [cond_true,Option.bind_some,eqN_self]
      refine Ret.some ⟨rfl,hv,fun h=>by omega,fun j y hj hy => ?_⟩
      obtain rfl:i=j:=by omega
      rw [hx] at hy;cases hy
      simp only [Bool.and_eq_true,Bool.not_eq_true',beq_eq_false_iff_ne,List.getElem?_eq_getElem hiu,Option.getD_some] at hearly
      exact .inl ⟨hearly.1,by rw [List.getElem?_eq_getElem hiu,hearly.2],rfl⟩
    | false=>
      simp only [cond_false]
      have hkd:=av.kind
      have hh3:(hs3 x s.holders).length=c.holders.length:=by unfold hs3;cases (x.kind == 1)<;>simp [hlh]
      have hu3:(us3 i x s.used).length=c.acts.length:=by unfold us3;cases (x.kind == 1)<;>simp [hlu]
      have hb3:∀ h∈hs3 x s.holders,0≤h∧h < c.parties:=by
        unfold hs3
        cases hk1:(x.kind == 1) with
        | true=>exact hv.hold
        | false=>
          intro h hh
          have:=hkd.resolve_left (beq_eq_false_iff_ne.1 hk1)
          rcases mem_set hh with h' | h'
          · exact hv.hold h h'
          · omega
      have hus3:∀ (j:Nat) (y:ActT),c.acts[j]?=some y→(us3 i x s.used)[j]?=some true→y.kind≠1:=by
        unfold us3
        cases hk1:(x.kind == 1) with
        | true=>exact hv.used
        | false=>
          intro j y hy hj
          simp only [cond_false] at hj
          rw [List.getElem?_set] at hj
          by_cases hij:i=j
          · subst hij
            rw [hx] at hy;cases hy
            exact beq_eq_false_iff_ne.1 hk1
          · rw [if_neg hij] at hj;exact hv.used j y hy hj
      refine Ret.bind (P:=fun v:List Int×List Bool×List MarkT×Int=>v.1=hs3 x s.holders∧v.2.1=us3 i x s.used∧v.2.2.2=s.day∧StartP c (hs3 x s.holders) (ms3 c i x s.holders s.marks) v.2.2.1)
        (Ret.bind (P:=fun v:List Int×List Bool×List MarkT=>v.1=hs3 x s.holders∧v.2.1=us3 i x s.used∧StartP c (hs3 x s.holders) (ms3 c i x s.holders s.marks) v.2.2) (Ret.bind (start_ret c s.day _ (us3 i x s.used) _ ho hv.cv hh3 hb3 (ms3_ok ho hv.cv (by omega) av hmo)) fun r hr=>Ret.some ⟨rfl,rfl,hr⟩) fun v hv'=>Ret.some ⟨hv'.1,hv'.2.1,rfl,hv'.2.2⟩) ?_
      rintro ⟨v1,v2,v3,v4⟩ ⟨q1,q2,q3,q4⟩
      simp only at q1 q2 q3 q4
      subst q1;subst q2;subst q3
      have hl3:s.marks.length=v3.length:=by have:=q4.ok.1;omega
      simp only [eqN_of (show s.holders.length=(hs3 x s.holders).length by omega),eqN_of (show s.used.length=(us3 i x s.used).length by omega),eqN_of hl3,Option.bind_some]
      refine Ret.some ⟨rfl,⟨hv.cv,hday,hh3,hu3,q4.ok.1,hb3,hus3,q4.ok.2,q4.nr⟩,fun h=>by omega,fun j y hj hy => ?_⟩
      obtain rfl:i=j:=by omega
      rw [hx] at hy;cases hy
      refine .inr ⟨?_,rfl,rfl,rfl,q4⟩
      simp only [Bool.and_eq_false_iff,Bool.not_eq_false',beq_iff_eq,List.getElem?_eq_getElem hiu,Option.getD_some] at hearly
      rcases hearly with h | h
      · exact .inl h
      · exact .inr (by rw [List.getElem?_eq_getElem hiu,h])
end Go.Proofs.YtjkljacdbljkpaaGreatDoor
namespace Go.Proofs.YtjkljacdbljkpaaGreatDoor
open Go.RowKit
set_option linter.unusedVariables false
set_option linter.unusedSimpArgs false
set_option maxRecDepth 100000
noncomputable def stepS (c:ContractT) (s:StateT) (a:Int):StateT:=((d_Step c s a).getD (noS,1)).1
theorem step_ok {c:ContractT} {s:StateT} {a:Int} (hc:c.Ok) (hv:VS c s) (h1 : -1≤a) (h2:a < c.acts.length) (hd:s.day < c.days) :
    d_Step c s a=some (stepS c s a,0)∧VS c (stepS c s a)∧(a = -1→TickP c s (stepS c s a))∧(∀ (i:Nat) (x:ActT),a=(i:Int)→c.acts[i]?=some x→ActP c i x s (stepS c s a)):=by
  obtain ⟨⟨r1,r2⟩,e,h⟩:=step_ret hc hv h1 h2 hd
  have e2:stepS c s a=r1:=by unfold stepS;rw [e];rfl
  rw [e2,e]
  obtain ⟨h0,h⟩:=h
  simp only at h0 h
  subst h0
  exact ⟨rfl,h⟩
theorem eq_loop {α:Type} [BEq α] [LawfulBEq α] {f:Nat→Unit→Option (Unit ⊕ Unit)} (a b:List α) (hl:a.length=b.length) (ha:a.length < 4611686018427387904) (h:∀ (i:Nat) (h1:i < a.length) (h2:i < b.length),f i ()=some (bif a[i] == b[i] then .inl () else .inr ())) :
    forR (a.length:Int) f ()=some (bif a == b then .inl () else .inr ()):=by
  rw [forR_allN (fun i=>a[i]? == b[i]?) ha (fun i hi=>by
    rw [h i hi (by omega),List.getElem?_eq_getElem hi,List.getElem?_eq_getElem (show i < b.length by omega)]
    show _=some (bif (some a[i] == some b[i]) then _ else _)
    rfl)]
  congr 2
  rw [Bool.eq_iff_iff,List.all_eq_true]
  constructor
  · intro hh
    rw [beq_iff_eq]
    refine List.ext_getElem? fun i => ?_
    by_cases hi:i < a.length
    · exact beq_iff_eq.1 (hh i (List.mem_range.2 hi))
    · rw [List.getElem?_eq_none (by omega),List.getElem?_eq_none (by omega)]
  · intro hh i _
    rw [beq_iff_eq.1 hh];exact beq_self_eq_true _
theorem len_beq {α:Type} (a b:List α):((a.length:Int) == (b.length:Int))=decide (a.length=b.length):=by
  by_cases h:a.length=b.length
  · simp [h]
  · simp only [h,decide_false];exact beq_eq_false_iff_ne.2 (by omega)
theorem s_EqI (a b:List Int) (ha:a.length < 4611686018427387904):d_EqI a b=some (a == b):=by
  unfold d_EqI
  rw [len_beq]
  by_cases h:a.length=b.length
  · simp only [h,decide_true,cond_true]
    rw [←h,eq_loop a b h ha (fun i h1 h2=>by
      simp only [idxI_nat',List.getElem?_eq_getElem h1,List.getElem?_eq_getElem h2,Option.bind_some,cond_some])]
    cases (a == b)<;>rfl
  · simp only [h,decide_false,cond_false]
    have:a≠b:=fun e=>h (by rw [e])
    rw [beq_eq_false_iff_ne.2 this]
theorem s_EqB (a b:List Bool) (ha:a.length < 4611686018427387904):d_EqB a b=some (a == b):=by
  unfold d_EqB
  rw [len_beq]
  by_cases h:a.length=b.length
  · simp only [h,decide_true,cond_true]
    rw [←h,eq_loop a b h ha (fun i h1 h2=>by
      simp only [idxI_nat',List.getElem?_eq_getElem h1,List.getElem?_eq_getElem h2,Option.bind_some,cond_some])]
    cases (a == b)<;>rfl
  · simp only [h,decide_false,cond_false]
    have:a≠b:=fun e=>h (by rw [e])
    rw [beq_eq_false_iff_ne.2 this]
instance:BEq MarkT:=⟨fun a b=>(a.status == b.status)&&((a.left == b.left)&&((a.got == b.got)&&((a.bearer == b.bearer)&&((a.paused == b.paused)&&true))))⟩
instance:LawfulBEq MarkT where
  eq_of_beq {a b} h:=by
    have h':((a.status == b.status)&&((a.left == b.left)&&((a.got == b.got)&&((a.bearer == b.bearer)&&((a.paused == b.paused)&&true)))))=true:=h
    simp only [Bool.and_eq_true,beq_iff_eq,and_true] at h'
    obtain ⟨h1,h2,h3,h4,h5⟩:=h'
    cases a;cases b;simp_all
  rfl {a}:=by
    show ((a.status == a.status)&&((a.left == a.left)&&((a.got == a.got)&&((a.bearer == a.bearer)&&((a.paused == a.paused)&&true)))))=true
    simp
theorem s_EqM (a b:List MarkT) (ha:a.length < 4611686018427387904):d_EqM a b=some (a == b):=by
  unfold d_EqM
  rw [len_beq]
  by_cases h:a.length=b.length
  · simp only [h,decide_true,cond_true]
    rw [←h,eq_loop a b h ha (fun i h1 h2=>by
      simp only [idxI_nat',List.getElem?_eq_getElem h1,List.getElem?_eq_getElem h2,Option.bind_some,cond_some];rfl)]
    cases (a == b)<;>rfl
  · simp only [h,decide_false,cond_false]
    have:a≠b:=fun e=>h (by rw [e])
    rw [beq_eq_false_iff_ne.2 this]
def sameB (a b:StateT):Bool:=a.day == b.day&&(a.holders == b.holders&&(a.used == b.used&&a.marks == b.marks))
theorem sameB_iff {a b:StateT}:sameB a b=true↔a=b:=by
  unfold sameB
  simp only [Bool.and_eq_true,beq_iff_eq]
  constructor
  · rintro ⟨h1,h2,h3,h4⟩
    cases a;cases b;simp_all
  · rintro rfl;exact ⟨rfl,rfl,rfl,rfl⟩
theorem s_SameS (a b:StateT) (h1:a.holders.length < 4611686018427387904) (h2:a.used.length < 4611686018427387904) (h3:a.marks.length < 4611686018427387904):d_SameS a b=some (sameB a b):=by
  unfold d_SameS sameB
  rw [s_EqI _ _ h1,s_EqB _ _ h2,s_EqM _ _ h3]
  simp only [Option.bind_some,cond_some,Bool.cond_false_right]
theorem VS.few {c:ContractT} {s:StateT} (hc:c.Ok) (h:VS c s):s.holders.length≤12∧s.used.length≤60∧s.marks.length≤400:=by
  have sm:=small_of (hc.off.lt (by omega)) h.cv
  have:=sm.holders
  have:=sm.acts
  have:=sm.clauses
  have:=h.lh
  have:=h.lu
  have:=h.lm
  omega
noncomputable def playB (c:ContractT) (party:Int) (s:StateT):Bool:=decide (0≤party)&&(decide (party < c.parties)&&vsB c s)
theorem playB_iff {c:ContractT} {party:Int} {s:StateT}:playB c party s=true↔0≤party∧party < c.parties∧VS c s:=by
  simp only [playB,Bool.and_eq_true,decide_eq_true_eq]
  exact ⟨fun ⟨a,b,d⟩=>⟨a,b,vs_of d⟩,fun ⟨a,b,d⟩=>⟨a,b,vsB_of d⟩⟩
noncomputable def mvB (c:ContractT) (party:Int) (p:PosT) (i:Nat):Bool:=match c.acts[i]? with
  | some a=>((doerI p.state.holders a == party) == p.own) && !sameB (stepS c p.state i) p.state
  | none=>false
noncomputable def actsL (c:ContractT) (party:Int) (p:PosT) (n:Nat):List Int:=((List.range n).filter (mvB c party p)).map fun i:Nat=>(i:Int)
noncomputable def movesL (c:ContractT) (party:Int) (p:PosT):List Int:=
  (bif p.own then [-2] else [])++(bif decide (c.days≤p.state.day) then [] else (bif p.own then [] else [-1])++actsL c party p c.acts.length)
noncomputable def target (c:ContractT) (p:PosT) (move:Int):PosT:=if move = -2 then {state:=p.state,own:=false} else {state:=stepS c p.state move,own:=true}
theorem actsL_len (c:ContractT) (party:Int) (p:PosT) (n:Nat):(actsL c party p n).length≤n:=by
  unfold actsL
  rw [List.length_map]
  have:=List.length_filter_le (mvB c party p) (List.range n)
  simpa using this
end Go.Proofs.YtjkljacdbljkpaaGreatDoor
namespace Go.Proofs.YtjkljacdbljkpaaGreatDoor
open Go.RowKit
set_option linter.unusedVariables false
set_option linter.unusedSimpArgs false
set_option maxRecDepth 100000
def emptyC:ContractT:={parties:=0,holders:=[],units:=[],acts:=[],clauses:=[],days:=0,off:=[]}
def condP (l:List Int) (s:CondT):Option CondT:=(posI l s.clause).map fun p=>({clause:=p,is:=s.is}:CondT)
def selK (c:ContractT) (l:List Int) (i:Int):Option ClauseT:=(idxI c.clauses i).bind fun k=>(mapO (condP l) k.start).map fun st=>({k with start:=st}:ClauseT)
noncomputable def partR (c:ContractT) (l:List Int):ContractT×Int:=
  bif (validR c).1 == 0 then bif incB c.clauses.length (-1) l then (match mapO (selK c l) l with
    | some ks=>(({c with clauses:=ks}:ContractT),0)
    | none=>(emptyC,1)) else (emptyC,1) else (emptyC,1)
theorem s_Part (c:ContractT) (l:List Int) (ho:c.off.length < 4611686018427387904) (hst:∀ k∈c.clauses,k.start.length < 4611686018427387904) (hl:l.length < 4611686018427387904):d_Part c l=some (partR c l):=by
  unfold d_Part partR
  rw [s_Valid c ho hst]
  simp only [Option.bind_some]
  cases hv:((validR c).1 == 0) with
  | false=>rfl
  | true=>
    have sm:=small_of ho (by simpa using hv)
    simp only [cond_true]
    rw [s_inc c.clauses.length l hl (-1)]
    simp only [Option.bind_some]
    cases hi:incB c.clauses.length (-1) l with
    | false=>rfl
    | true=>
      obtain ⟨hr,hp⟩:=incB_spec hi
      have hlen:l.length≤400:=by
        have:=incB_len hi;have:=sm.clauses;omega
      have e1:=sm.holders
      have e2:=sm.units
      have e3:=sm.acts
      have e4:=sm.off
      simp only [cond_true,Sum.elim_inl]
      rw [cloneI_of (by omega),cloneI_of (by omega),cloneI_of (by omega),cloneI_of (by omega)]
      have hmk:mkN 136 (l.length:Int)=some l.length:=by
        unfold mkN;rw [if_pos (by omega)];simp
      simp only [Option.bind_some,hmk]
      rw [forR_sets l (selK c l) _ () (by simp) (by omega) (fun i hi' ks hks=>by
        have hx:=hr l[i] (List.getElem_mem hi')
        obtain ⟨hci,eci⟩:=idxI_lt (l:=c.clauses) (n:=l[i]) (by omega) (by omega)
        simp only [idxI_nat',List.getElem?_eq_getElem hi',Option.bind_some,eci,selK]
        have hsl:=sm.start _ (List.getElem_mem hci)
        rw [cloneI_of (by omega)]
        simp only [Option.bind_some]
        generalize hk:c.clauses[l[i].toNat]=k at hsl ⊢
        rw [forR_sets k.start (condP l) k.start () rfl (by omega) (fun i3 hi3 ks3 hks3=>by
          have hg:(ks3++k.start.drop i3)[i3]?=some k.start[i3]:=by
            rw [List.getElem?_append_right (by omega),hks3,Nat.sub_self,List.getElem?_drop];simp [hi3]
          obtain ⟨r,hb1,hb2⟩:=s_BinarySearch l k.start[i3].clause hp hl
          simp only [idxN_nat hi3,Option.bind_some,hg,hb1,condP]
          cases hpos:posI l k.start[i3].clause with
          | none=>rfl
          | some p=>rw [hb2 p hpos];rfl)]
        simp only [Option.bind_some]
        cases hm:mapO (condP l) k.start with
        | none=>rfl
        | some st=>
          have hst':=mapO_len hm
          simp only [Sum.elim_inl,idxN_nat hi',Option.bind_some,Option.map_some]
          have hg:(ks++(List.replicate l.length ({kind:=0,role:=0,act:=0,need:=0,start:=[],after:=0,grace:=0,business:=false,final:=false,pause:=0,resume:=0,value:=({num:=0,den:=0}:Ratio),unit:=0,to:=0,waived:=false}:ClauseT)).drop i)[i]?.isSome=true:=by
            simp [hks,hi'];omega
          obtain ⟨z,hz⟩:=Option.isSome_iff_exists.1 hg
          rw [hz]
          simp only [Option.bind_some]
          rw [List.take_of_length_le (by omega)])]
      simp only [Option.bind_some]
      cases hm:mapO (selK c l) l with
      | none=>rfl
      | some ks=>
        simp only [Sum.elim_inl]
        first
          | rw [List.take_of_length_le (by rw [mapO_len hm];exact Nat.le_refl _)]
          | (unfold eqN;rw [dif_pos (mapO_len hm).symm];rfl)
structure PartOk (c:ContractT) (l:List Int) (ks:List ClauseT):Prop where
  valid:(validR c).1=0
  inc:incB c.clauses.length (-1) l=true
  sel:mapO (selK c l) l=some ks
theorem PartOk.eq {c:ContractT} {l:List Int} {ks:List ClauseT} (h:PartOk c l ks):partR c l=(({c with clauses:=ks}:ContractT),0):=by
  unfold partR
  rw [h.valid,h.inc,h.sel];rfl
theorem selK_some {c:ContractT} {l:List Int} {i:Int} {k':ClauseT} (h:selK c l i=some k'):∃ k st,0≤i∧c.clauses[i.toNat]?=some k∧mapO (condP l) k.start=some st∧k'=({k with start:=st}:ClauseT):=by
  unfold selK at h
  obtain ⟨k,h1,h2⟩:=obind h
  obtain ⟨h3,h4,_⟩:=idxI_some h1
  rw [Option.map_eq_some_iff] at h2
  obtain ⟨st,h5,h6⟩:=h2
  exact ⟨k,st,h3,h4,h5,h6.symm⟩
theorem condP_some {l:List Int} {s s':CondT} (h:condP l s=some s'):∃ p,posI l s.clause=some p∧s'=({clause:=p,is:=s.is}:CondT):=by
  unfold condP at h
  rw [Option.map_eq_some_iff] at h
  obtain ⟨p,h1,h2⟩:=h
  exact ⟨p,h1,h2.symm⟩
theorem PartOk.ok {c:ContractT} {l:List Int} {ks:List ClauseT} (ho:c.off.length < 4611686018427387904) (h:PartOk c l ks):validR ({c with clauses:=ks}:ContractT)=(0,-1):=by
  have sm:=small_of ho h.valid
  obtain ⟨v1,v2,v3,_⟩:=validR_ok h.valid
  obtain ⟨hr,hp⟩:=incB_spec h.inc
  have hkl:=mapO_len h.sel
  have hlen:=incB_len h.inc
  have hcl:=sm.clauses
  refine validR_of ?_ v2 ?_
  · simp only [limB,Bool.or_eq_false_iff,decide_eq_false_iff_not] at v1 ⊢
    refine ⟨v1.1,v1.2.1,v1.2.2.1,v1.2.2.2.1,v1.2.2.2.2.1,by omega⟩
  · intro j hj
    have hj:j < ks.length:=hj
    obtain ⟨k',h1,h2⟩:=mapO_at h.sel j l[j] (List.getElem?_eq_getElem (by omega))
    obtain ⟨k,st,h3,h4,h5,rfl⟩:=selK_some h1
    have hold:=v3 l[j].toNat (List.getElem?_eq_some_iff.1 h4).1
    simp only [clB,h4] at hold
    simp only [clB,h2]
    simp only [clauseB,Bool.and_eq_true] at hold ⊢
    obtain ⟨a1,⟨a2,a3⟩,a4,a5,a6⟩:=hold
    refine ⟨a1,⟨a2,by rw [mapO_len h5];exact a3⟩,?_,a5,a6⟩
    refine List.all_eq_true.2 fun s' hs' => ?_
    obtain ⟨q,hq,e⟩:=List.getElem_of_mem hs'
    have hq':q < k.start.length:=by rw [←mapO_len h5];exact hq
    obtain ⟨b,h6,h7⟩:=mapO_at h5 q k.start[q] (List.getElem?_eq_getElem hq')
    rw [List.getElem?_eq_getElem hq] at h7
    cases h7
    obtain ⟨p,h8,h9⟩:=condP_some h6
    have hold:=List.all_eq_true.1 a4 k.start[q] (List.getElem_mem hq')
    obtain ⟨p1,p2⟩:=posI_some h8
    have p3:=(List.getElem?_eq_some_iff.1 p2).1
    rw [←e,h9]
    simp only [condB,Bool.and_eq_true,Bool.not_eq_true',decide_eq_false_iff_not,beq_eq_false_iff_ne] at hold ⊢
    refine ⟨by omega,by omega,fun hpj => ?_,hold.2.2.2⟩
    subst hpj
    simp only [Int.toNat_natCast] at p2
    rw [List.getElem?_eq_getElem (by omega)] at p2
    have p4:=Option.some.inj p2
    exact hold.2.2.1 (by omega)
end Go.Proofs.YtjkljacdbljkpaaGreatDoor
namespace Go.Proofs.YtjkljacdbljkpaaGreatDoor
open Go.RowKit
set_option linter.unusedVariables false
set_option linter.unusedSimpArgs false
set_option maxRecDepth 100000
abbrev cp (c:ContractT) (ks:List ClauseT):ContractT:={c with clauses:=ks}
def rsM (P:List Int) (ms:List MarkT):List MarkT:=P.map fun i=>ms[i.toNat]?.getD default
def rs (P:List Int) (s:StateT):StateT:={s with marks:=rsM P s.marks}
theorem st_ext {a b:StateT} (h1:a.day=b.day) (h2:a.holders=b.holders) (h3:a.used=b.used) (h4:a.marks=b.marks):a=b:=by
  cases a;cases b;simp only at h1 h2 h3 h4;subst h1 h2 h3 h4;rfl
theorem mapO_mem {α β:Type} {g:α→Option β} {l:List α} {m:List β} (h:mapO g l=some m):(∀ y∈m,∃ x∈l,g x=some y)∧∀ x∈l,∃ y∈m,g x=some y:=by
  have hl:=mapO_len h
  refine ⟨fun y hy => ?_,fun x hx => ?_⟩
  · obtain ⟨i,hi,rfl⟩:=List.getElem_of_mem hy
    obtain ⟨b,h1,h2⟩:=mapO_at h i l[i] (List.getElem?_eq_getElem (by omega))
    rw [List.getElem?_eq_getElem hi] at h2
    cases h2
    exact ⟨_,List.getElem_mem (by omega),h1⟩
  · obtain ⟨i,hi,rfl⟩:=List.getElem_of_mem hx
    obtain ⟨b,h1,h2⟩:=mapO_at h i l[i] (List.getElem?_eq_getElem hi)
    exact ⟨b,List.mem_of_getElem? h2,h1⟩
theorem mapO_allB {α β:Type} {g:α→Option β} {l:List α} {m:List β} (h:mapO g l=some m) {f:β→Bool} {f':α→Bool} (hf:∀ x y,x∈l→g x=some y→f y=f' x):m.all f=l.all f':=by
  obtain ⟨h1,h2⟩:=mapO_mem h
  rw [Bool.eq_iff_iff,List.all_eq_true,List.all_eq_true]
  constructor
  · intro hm x hx
    obtain ⟨y,hy,e⟩:=h2 x hx
    rw [←hf x y hx e];exact hm y hy
  · intro hm y hy
    obtain ⟨x,hx,e⟩:=h1 y hy
    rw [hf x y hx e];exact hm x hx
structure Pos (c:ContractT) (P:List Int) (ks:List ClauseT):Prop where
  len:ks.length=P.length
  rng:∀ x∈P,0≤x∧x < c.clauses.length
  at_:∀ (p:Nat),p < P.length→∃ (i:Nat) (k:ClauseT) (st:List CondT),P[p]?=some (i:Int)∧c.clauses[i]?=some k∧mapO (condP P) k.start=some st∧ks[p]?=some ({k with start:=st}:ClauseT)
theorem PartOk.pos {c:ContractT} {P:List Int} {ks:List ClauseT} (h:PartOk c P ks):Pos c P ks:=by
  obtain ⟨hr,hp⟩:=incB_spec h.inc
  refine ⟨mapO_len h.sel,fun x hx=>by have:=hr x hx;omega,fun p hp => ?_⟩
  obtain ⟨k',h1,h2⟩:=mapO_at h.sel p P[p] (List.getElem?_eq_getElem hp)
  obtain ⟨k,st,h3,h4,h5,rfl⟩:=selK_some h1
  refine ⟨P[p].toNat,k,st,?_,h4,h5,h2⟩
  rw [List.getElem?_eq_getElem hp];congr 1;omega
section
variable {c:ContractT} {P:List Int} {ks:List ClauseT}
theorem rsM_len (ms:List MarkT):(rsM P ms).length=P.length:=by simp [rsM]
theorem rsM_get {ms:List MarkT} {p i:Nat} (hp:P[p]?=some (i:Int)) (hi:i < ms.length):(rsM P ms)[p]?=ms[i]?:=by
  unfold rsM
  rw [List.getElem?_map,hp]
  simp [hi]
theorem cond_part (h:Pos c P ks) {ms:List MarkT} (hl:ms.length=c.clauses.length) {x y:CondT} (hx:condP P x=some y):condM (rsM P ms) y=condM ms x∧y.is=x.is∧P[y.clause.toNat]?=some (x.clause.toNat:Int):=by
  obtain ⟨q,h1,rfl⟩:=condP_some hx
  obtain ⟨q0,q1⟩:=posI_some h1
  have hr:=h.rng _ (List.mem_of_getElem? q1)
  have e:x.clause=(x.clause.toNat:Int):=by omega
  have q2:P[q.toNat]?=some (x.clause.toNat:Int):=by rw [q1];congr 1
  refine ⟨?_,rfl,q2⟩
  have e1:idxI (rsM P ms) q=idxI ms x.clause:=by
    unfold idxI
    rw [if_pos q0,if_pos hr.1,rsM_get q2 (by omega)]
  unfold condM
  simp only [e1]
theorem ready_part (h:Pos c P ks) {ms:List MarkT} (hl:ms.length=c.clauses.length) {p i:Nat} (hp:P[p]?=some (i:Int)):readyB ks (rsM P ms) p=readyB c.clauses ms i:=by
  obtain ⟨hlt,_⟩:=List.getElem?_eq_some_iff.1 hp
  obtain ⟨i',k,st,h1,h2,h3,h4⟩:=h.at_ p hlt
  rw [hp] at h1
  have e:i=i':=by have:=Option.some.inj h1;omega
  subst e
  have hi:=(List.getElem?_eq_some_iff.1 h2).1
  unfold readyB
  rw [h4,h2,rsM_get hp (by omega),List.getElem?_eq_getElem (by omega:i < ms.length)]
  simp only
  rw [mapO_allB h3 (f':=condM ms) fun x y _ hxy=>(cond_part h hl hxy).1]
theorem staN_part (h:Pos c P ks) {ms:List MarkT} (hl:ms.length=c.clauses.length):∀ (n p i:Nat),P[p]?=some (i:Int)→(staN ks (rsM P ms) n p↔staN c.clauses ms n i)
  | 0,p,i,hp=>Iff.rfl
  | n+1,p,i,hp=>by
    obtain ⟨hlt,_⟩:=List.getElem?_eq_some_iff.1 hp
    obtain ⟨i',k,st,h1,h2,h3,h4⟩:=h.at_ p hlt
    rw [hp] at h1
    have e:i=i':=by have:=Option.some.inj h1;omega
    subst e
    have hi:=(List.getElem?_eq_some_iff.1 h2).1
    obtain ⟨m1,m2⟩:=mapO_mem h3
    simp only [staN,h4,h2,rsM_get hp (by omega:i < ms.length)]
    constructor
    · rintro ⟨k',m,e1,e2,e3,e4,e5⟩
      cases e1
      refine ⟨k,m,rfl,e2,e3,e4,fun x hx => ?_⟩
      obtain ⟨y,hy,hxy⟩:=m2 x hx
      obtain ⟨g1,g2,g3⟩:=cond_part h hl hxy
      rcases e5 y hy with g | ⟨g,g'⟩
      · exact .inl (by rw [←g1];exact g)
      · exact .inr ⟨by rw [←g2];exact g,(staN_part h hl n _ _ g3).1 g'⟩
    · rintro ⟨k',m,e1,e2,e3,e4,e5⟩
      cases e1
      refine ⟨_,m,rfl,e2,e3,e4,fun y hy => ?_⟩
      obtain ⟨x,hx,hxy⟩:=m1 y hy
      obtain ⟨g1,g2,g3⟩:=cond_part h hl hxy
      rcases e5 x hx with g | ⟨g,g'⟩
      · exact .inl (by rw [g1];exact g)
      · exact .inr ⟨by rw [g2];exact g,(staN_part h hl n _ _ g3).2 g'⟩
theorem sta_part (h:Pos c P ks) {ms:List MarkT} (hl:ms.length=c.clauses.length) {p i:Nat} (hp:P[p]?=some (i:Int)):Sta ks (rsM P ms) p↔Sta c.clauses ms i:=
  ⟨fun ⟨n,hn⟩=>⟨n,(staN_part h hl n p i hp).1 hn⟩,fun ⟨n,hn⟩=>⟨n,(staN_part h hl n p i hp).2 hn⟩⟩
theorem start_part (h:Pos c P ks) {hs:List Int} {ms r r':List MarkT} (hl:ms.length=c.clauses.length) (S:StartP c hs ms r) (S':StartP (cp c ks) hs (rsM P ms) r'):r'=rsM P r:=by
  have hl':r'.length=P.length:=S'.ok.1.trans h.len
  refine List.ext_getElem? fun p => ?_
  by_cases hp:p < P.length
  · obtain ⟨i,k,st,h1,h2,h3,h4⟩:=h.at_ p hp
    have hi:=(List.getElem?_eq_some_iff.1 h2).1
    have him:i < ms.length:=by omega
    have hm:=List.getElem?_eq_getElem him
    have hr:=S.ok.1
    rw [rsM_get h1 (by omega:i < r.length)]
    have hs1:=S.sta i k _ h2 hm
    have hs2:=S'.sta p _ ms[i] h4 (by rw [rsM_get h1 him];exact hm)
    have e:=sta_part h hl h1
    rcases hs1 with ⟨a1,a2⟩ | ⟨a1,a2⟩
    · rcases hs2 with ⟨b1,b2⟩ | ⟨b1,b2⟩
      · rw [a2,b2]
      · exact absurd (e.1 b1) a1
    · rcases hs2 with ⟨b1,b2⟩ | ⟨b1,b2⟩
      · exact absurd (e.2 a1) b1
      · rw [a2,b2];rfl
  · rw [List.getElem?_eq_none (by omega),List.getElem?_eq_none (by rw [rsM_len];omega)]
theorem mapIdx_part (h:Pos c P ks) (F:ClauseT→MarkT→MarkT) (hF:∀ (k:ClauseT) (st:List CondT) (m:MarkT),F ({k with start:=st}:ClauseT) m=F k m) {ms:List MarkT} (hl:ms.length=c.clauses.length):rsM P (ms.mapIdx (atK c F))=(rsM P ms).mapIdx (atK (cp c ks) F):=by
  refine List.ext_getElem? fun p => ?_
  rw [List.getElem?_mapIdx]
  by_cases hp:p < P.length
  · obtain ⟨i,k,st,h1,h2,h3,h4⟩:=h.at_ p hp
    have hi:=(List.getElem?_eq_some_iff.1 h2).1
    rw [rsM_get h1 (by rw [List.length_mapIdx];omega),rsM_get h1 (by omega:i < ms.length),List.getElem?_mapIdx,List.getElem?_eq_getElem (by omega:i < ms.length)]
    simp only [Option.map_some,atK,h2]
    have h4':(cp c ks).clauses[p]?=some ({k with start:=st}:ClauseT):=h4
    rw [h4']
    simp only [hF]
  · rw [List.getElem?_eq_none (by rw [rsM_len];omega),List.getElem?_eq_none (by rw [rsM_len];omega)];rfl
theorem ms3_part (h:Pos c P ks) (act:Int) (a:ActT) (hs:List Int) {ms:List MarkT} (hl:ms.length=c.clauses.length):rsM P (ms3 c act a hs ms)=ms3 (cp c ks) act a hs (rsM P ms):=by
  have e1:rsM P (ms1 c act ms)=ms1 (cp c ks) act (rsM P ms):=mapIdx_part h _ (fun k st m=>rfl) hl
  have l1:(ms1 c act ms).length=c.clauses.length:=by unfold ms1;rw [List.length_mapIdx];exact hl
  have e2:rsM P (ms2 c act a hs ms)=ms2 (cp c ks) act a hs (rsM P ms):=by
    unfold ms2
    rw [mapIdx_part h _ (fun k st m=>rfl) l1,e1]
  have l2:(ms2 c act a hs ms).length=c.clauses.length:=by unfold ms2;rw [List.length_mapIdx];exact l1
  unfold ms3
  cases (a.kind == 3) with
  | false=>exact e2
  | true=>
    simp only [cond_true]
    rw [mapIdx_part h _ (fun k st m=>rfl) l2,e2]
theorem ms3_len (act:Int) (a:ActT) (hs:List Int) {ms:List MarkT}:(ms3 c act a hs ms).length=ms.length:=by
  unfold ms3 ms2 ms1
  cases (a.kind == 3)<;>simp
theorem PartOk.okk (hc:c.Ok) (h:PartOk c P ks):(cp c ks).Ok:=by
  have hpos:=h.pos
  have sm:=small_of (hc.off.lt (by omega)) h.valid
  have hcl:=sm.clauses
  have hlen:=incB_len h.inc
  refine {hc with clauses:=⟨?_,fun k' hk' => ?_⟩}
  · have:=hpos.len
    have hr:(54400:Nat)≤reachBytes:=by decide
    have:ks.length≤400:=by omega
    have:ks.length*136≤54400:=by omega
    first | omega | exact Nat.le_trans (by omega) hr
  · obtain ⟨p,hp,rfl⟩:=List.getElem_of_mem hk'
    obtain ⟨i,k,st,h1,h2,h3,h4⟩:=hpos.at_ p (by rw [←hpos.len];exact hp)
    rw [List.getElem?_eq_getElem hp] at h4
    rw [Option.some.inj h4]
    have hk:=hc.clauses.2 k (List.mem_of_getElem? h2)
    have hs8:=sm.start k (List.mem_of_getElem? h2)
    refine {hk with start:=⟨?_,fun y hy => ?_⟩}
    · rw [mapO_len h3];exact hk.start.1
    · obtain ⟨x,hx,hxy⟩:=(mapO_mem h3).1 y hy
      obtain ⟨q,g1,rfl⟩:=condP_some hxy
      obtain ⟨q0,q1⟩:=posI_some g1
      have hq:=(List.getElem?_eq_some_iff.1 q1).1
      refine ⟨?_,(hk.start.2 x hx).is⟩
      unfold InK
      have e1:IntKind.i64.min = -9223372036854775808:=by decide
      have e2:IntKind.i64.max=9223372036854775807:=by decide
      rw [e1,e2]
      simp only
      omega
theorem vs_part (hc:c.Ok) (h:PartOk c P ks) {s:StateT} (hv:VS c s):VS (cp c ks) (rs P s):=by
  have hp:=h.pos
  refine ⟨by rw [h.ok (hc.off.lt (by omega))],hv.day,hv.lh,hv.lu,?_,hv.hold,hv.used,fun p k' m hk hm => ?_,fun p hlt => ?_⟩
  · show (rsM P s.marks).length=ks.length
    rw [rsM_len,hp.len]
  · have hlt:p < ks.length:=(List.getElem?_eq_some_iff.1 hk).1
    obtain ⟨i,k,st,h1,h2,h3,h4⟩:=hp.at_ p (by rw [←hp.len];exact hlt)
    have hk:ks[p]?=some k':=hk
    rw [h4] at hk
    cases hk
    have hi:=(List.getElem?_eq_some_iff.1 h2).1
    have hlm:=hv.lm
    have hm:(rsM P s.marks)[p]?=some m:=hm
    rw [rsM_get h1 (by omega)] at hm
    exact hv.mrk i k m h2 hm
  · have hlt:p < ks.length:=hlt
    obtain ⟨i,k,st,h1,h2,h3,h4⟩:=hp.at_ p (by rw [←hp.len];exact hlt)
    show readyB ks (rsM P s.marks) p=false
    rw [ready_part hp hv.lm h1]
    exact hv.rdy i (List.getElem?_eq_some_iff.1 h2).1
theorem step_part (hc:c.Ok) (h:PartOk c P ks) {s:StateT} (hv:VS c s) {a:Int} (h1 : -1≤a) (h2:a < c.acts.length) (hd:s.day < c.days):stepS (cp c ks) (rs P s) a=rs P (stepS c s a):=by
  have hp:=h.pos
  obtain ⟨_,_,t1,a1⟩:=step_ok hc hv h1 h2 hd
  obtain ⟨_,_,t2,a2⟩:=step_ok (h.okk hc) (vs_part hc h hv) h1 h2 hd
  rcases Int.lt_or_le a 0 with hneg | hpos
  · obtain ⟨x1,x2,x3,x4⟩:=t1 (by omega)
    obtain ⟨y1,y2,y3,y4⟩:=t2 (by omega)
    refine st_ext (y1.trans (by rw [show (rs P (stepS c s a)).day=(stepS c s a).day from rfl,x1];rfl)) (y2.trans x2.symm) (y3.trans x3.symm) ?_
    refine start_part hp (by rw [List.length_mapIdx];exact hv.lm) x4 ?_
    have e:=mapIdx_part hp (tickK (posI c.off s.day).isSome) (fun k st m=>rfl) hv.lm
    rw [e]
    exact y4
  · have ha:c.acts[a.toNat]?=some c.acts[a.toNat]:=List.getElem?_eq_getElem (by omega)
    have g1:=a1 a.toNat _ (by omega) ha
    have g2:=a2 a.toNat _ (by omega) ha
    rcases g1 with ⟨x1,x2,x3⟩ | ⟨x1,x2,x3,x4,x5⟩
    · rcases g2 with ⟨y1,y2,y3⟩ | ⟨y1,_⟩
      · rw [x3,y3]
      · have y1:c.acts[a.toNat].kind=1∨s.used[a.toNat]?=some false:=y1
        rw [x2] at y1
        simp [x1] at y1
    · rcases g2 with ⟨y1,y2,y3⟩ | ⟨y1,y2,y3,y4,y5⟩
      · have y2:s.used[a.toNat]?=some true:=y2
        rw [y2] at x1
        simp [y1] at x1
      · refine st_ext (y2.trans x2.symm) (y3.trans x3.symm) (y4.trans x4.symm) ?_
        refine start_part hp (by rw [ms3_len];exact hv.lm) x5 ?_
        rw [ms3_part hp _ _ _ hv.lm]
        exact y5
end
end Go.Proofs.YtjkljacdbljkpaaGreatDoor
namespace Go.Proofs.YtjkljacdbljkpaaGreatDoor
open Go.RowKit
set_option linter.unusedVariables false
set_option linter.unusedSimpArgs false
set_option maxRecDepth 100000
def up (above:List Int) (i:Nat):Nat:=(above.getD i 0).toNat
structure UF (n:Nat) (above:List Int):Prop where
  len:above.length=400
  le:∀ i,i < n→0≤above.getD i 0∧above.getD i 0≤(i:Int)
  n400:n≤400
def rt (above:List Int):Nat→Nat→Nat
  | 0,i=>i
  | k+1,i=>if up above i=i then i else rt above k (up above i)
def root (above:List Int) (i:Nat):Nat:=rt above (i+1) i
theorem UF.up_le {n:Nat} {above:List Int} (h:UF n above) {i:Nat} (hi:i < n):up above i≤i:=by
  have:=h.le i hi;unfold up;omega
theorem UF.rt_eq {n:Nat} {above:List Int} (h:UF n above):∀ (k k' i:Nat),i < n→i < k→i < k'→rt above k i=rt above k' i
  | 0,_,i,_,h1,_=>by omega
  | _,0,i,_,_,h1=>by omega
  | k+1,k'+1,i,hi,h1,h2=>by
    simp only [rt]
    split
    · rfl
    · have:=h.up_le hi
      exact h.rt_eq k k' (up above i) (by omega) (by omega) (by omega)
theorem UF.root_eq {n:Nat} {above:List Int} (h:UF n above) {i:Nat} (hi:i < n):root above i=if up above i=i then i else root above (up above i):=by
  show (if up above i=i then i else rt above i (up above i))=_
  have hu:=h.up_le hi
  split
  · rfl
  · exact h.rt_eq i (up above i+1) (up above i) (by omega) (by omega) (by omega)
theorem UF.root_le {n:Nat} {above:List Int} (h:UF n above):∀ (i:Nat),i < n→root above i≤i:=by
  intro i
  induction i using Nat.strongRecOn with
  | _ i ih=>
    intro hi
    rw [h.root_eq hi]
    have hu:=h.up_le hi
    split
    · exact Nat.le_refl _
    · have:=ih (up above i) (by omega) (by omega);omega
theorem UF.root_up {n:Nat} {above:List Int} (h:UF n above):∀ (i:Nat),i < n→up above (root above i)=root above i:=by
  intro i
  induction i using Nat.strongRecOn with
  | _ i ih=>
    intro hi
    rw [h.root_eq hi]
    have hu:=h.up_le hi
    split
    · assumption
    · exact ih (up above i) (by omega) (by omega)
theorem UF.root_root {n:Nat} {above:List Int} (h:UF n above) {i:Nat} (hi:i < n):root above (root above i)=root above i:=by
  have h1:=h.root_up i hi
  have h2:=h.root_le i hi
  rw [h.root_eq (i:=root above i) (by omega),if_pos h1]
theorem up_set {above:List Int} {k i:Nat} {v:Int} (hk:k < above.length):up (above.set k v) i=if i=k then v.toNat else up above i:=by
  unfold up
  rw [List.getD_eq_getElem?_getD,List.getD_eq_getElem?_getD,List.getElem?_set]
  by_cases h:k=i
  · subst h;simp [hk]
  · rw [if_neg h,if_neg (fun e=>h e.symm)]
theorem UF.set {n:Nat} {above:List Int} (h:UF n above) {k:Nat} {v:Int} (hv:0≤v) (hv2:v≤k):UF n (above.set k v):=by
  refine ⟨by simp [h.len],fun i hi => ?_,h.n400⟩
  rw [List.getD_eq_getElem?_getD,List.getElem?_set]
  by_cases e:k=i
  · subst e
    rw [if_pos rfl]
    have:=h.n400
    rw [if_pos (by rw [h.len];omega)]
    exact ⟨hv,hv2⟩
  · rw [if_neg e,←List.getD_eq_getElem?_getD]
    exact h.le i hi
theorem UF.compress {n:Nat} {above:List Int} (h:UF n above) {k:Nat} (hk:k < n):UF n (above.set k (root above k:Int))∧∀ i,i < n→root (above.set k (root above k:Int)) i=root above i:=by
  have hle:=h.root_le k hk
  have h':UF n (above.set k (root above k:Int)):=h.set (by omega) (by omega)
  refine ⟨h',fun i => ?_⟩
  have hkl:k < above.length:=by rw [h.len];have:=h.n400;omega
  induction i using Nat.strongRecOn with
  | _ i ih=>
    intro hi
    rw [h'.root_eq hi,up_set hkl]
    by_cases e:i=k
    · subst e
      rw [if_pos rfl]
      simp only [Int.toNat_natCast]
      split
      · rename_i e2;exact e2.symm
      · have:root above i < i:=by omega
        rw [ih (root above i) this (by omega),h.root_root hi]
    · rw [if_neg e,h.root_eq hi]
      have hu:=h.up_le hi
      split
      · rfl
      · exact ih (up above i) (by omega) (by omega)
theorem UF.join {n:Nat} {above:List Int} (h:UF n above) {a b:Nat} (ha:a < n) (hb:b≤a) (hra:root above a=a) (hrb:root above b=b):UF n (above.set a (b:Int))∧∀ i,i < n→root (above.set a (b:Int)) i=if root above i=a then b else root above i:=by
  have h':UF n (above.set a (b:Int)):=h.set (by omega) (by omega)
  refine ⟨h',fun i => ?_⟩
  have hkl:a < above.length:=by rw [h.len];have:=h.n400;omega
  have hua:up above a=a:=by have:=h.root_up a ha;rw [hra] at this;exact this
  have hub:up above b=b:=by have:=h.root_up b (by omega);rw [hrb] at this;exact this
  induction i using Nat.strongRecOn with
  | _ i ih=>
    intro hi
    rw [h'.root_eq hi,up_set hkl]
    by_cases e:i=a
    · subst e
      rw [if_pos rfl,hra,if_pos rfl]
      simp only [Int.toNat_natCast]
      split
      · rename_i e2;exact e2.symm
      · rw [ih b (by omega) (by omega),hrb]
        split
        · rfl
        · rfl
    · rw [if_neg e]
      have hu:=h.up_le hi
      split
      · rename_i e2
        have:root above i=i:=by rw [h.root_eq hi,if_pos e2]
        rw [this,if_neg e]
      · rename_i e2
        have:root above i=root above (up above i):=by rw [h.root_eq hi,if_neg e2]
        rw [this]
        exact ih (up above i) (by omega) (by omega)
theorem getD_at {above:List Int} {k:Nat} (hk:k < above.length):above[k]?=some (above.getD k 0):=by
  rw [List.getD_eq_getElem?_getD,List.getElem?_eq_getElem hk];rfl
structure SameR (n:Nat) (above above':List Int):Prop where
  uf:UF n above'
  eq:∀ i,i < n→root above' i=root above i
theorem root_n {n:Nat}:∀ (k i:Nat) (above:List Int),UF n above→i < n→i < k→∃ above',d_29a_n k (i:Int) above=some ((root above i:Int),above')∧SameR n above above'
  | 0,i,above,_,_,h=>by omega
  | k+1,i,above,h,hi,hik=>by
    have h400:=h.n400
    have hl:=h.len
    have hle:=h.le i hi
    simp only [d_29a_n]
    unfold d_29a_s
    have e1:idxN 400 (i:Int)=some i:=idxN_nat (by omega)
    simp only [e1,Option.bind_some,getD_at (show i < above.length by omega)]
    by_cases e:above.getD i 0=(i:Int)
    · have hb:(above.getD i 0 == (i:Int))=true:=by rw [e];simp
      rw [hb]
      simp only [cond_true,Option.bind_some,getD_at (show i < above.length by omega)]
      have hr:root above i=i:=by rw [h.root_eq hi,if_pos (by unfold up;omega)]
      exact ⟨above,by rw [hr,e],h,fun _ _=>rfl⟩
    · have hb:(above.getD i 0 == (i:Int))=false:=beq_eq_false_iff_ne.2 e
      rw [hb]
      simp only [cond_false,Option.bind_some]
      have hup:above.getD i 0=(up above i:Int):=by unfold up;omega
      have hult:up above i < i:=by unfold up;omega
      obtain ⟨a1,h1,h2⟩:=root_n k (up above i) above h (by omega) (by omega)
      have hre:root above i=root above (up above i):=by rw [h.root_eq hi,if_neg (by omega)]
      have hl1:=h2.uf.len
      rw [hup,h1]
      simp only [Option.bind_some,getD_at (show i < a1.length by omega)]
      have hri:root a1 i=root above (up above i):=by rw [h2.eq i hi,hre]
      obtain ⟨c1,c2⟩:=h2.uf.compress hi
      rw [hri] at c1 c2
      rw [List.getElem?_set_self (by omega)]
      simp only [Option.bind_some]
      exact ⟨_,by rw [hre],c1,fun j hj=>by rw [c2 j hj,h2.eq j hj]⟩
theorem root_lim {n i:Nat} {above:List Int} (h:UF n above) (hi:i < n):d_29a (i:Int) above=d_29a_n (i+1) (i:Int) above:=by
  obtain ⟨a1,h1,h2⟩:=root_n (i+1) i above h hi (Nat.lt_succ_self _)
  have key:∀ (k k' i:Nat) (above:List Int),UF n above→i < n→i < k→i < k'→d_29a_n k (i:Int) above=d_29a_n k' (i:Int) above:=by
    intro k
    induction k with
    | zero=>intro k' i above _ _ h;omega
    | succ k ih=>
      intro k' i above h hi h1 h2
      cases k' with
      | zero=>omega
      | succ k'=>
        have h400:=h.n400
        have hl:=h.len
        have hle:=h.le i hi
        simp only [d_29a_n]
        unfold d_29a_s
        have e1:idxN 400 (i:Int)=some i:=idxN_nat (by omega)
        simp only [e1,Option.bind_some,getD_at (show i < above.length by omega)]
        cases hb:(above.getD i 0 == (i:Int)) with
        | true=>rfl
        | false=>
          have e:=beq_eq_false_iff_ne.1 hb
          have hup:above.getD i 0=(up above i:Int):=by unfold up;omega
          have hult:up above i < i:=by unfold up;omega
          simp only [cond_false]
          rw [hup,ih k' (up above i) above h (by omega) (by omega) (by omega)]
  rw [h1]
  unfold d_29a
  exact lim_of (i+1) fun k' hk=>by rw [key k' (i+1) i above h hi (by omega) (by omega)];exact h1
theorem s_root {n i:Nat} {above:List Int} (h:UF n above) (hi:i < n):∃ above',d_29a (i:Int) above=some ((root above i:Int),above')∧SameR n above above':=by
  rw [root_lim h hi]
  exact root_n (i+1) i above h hi (Nat.lt_succ_self _)
theorem s_join {n i j:Nat} {above:List Int} (h:UF n above) (hi:i < n) (hj:j < n):∃ above',d_30a (i:Int) (j:Int) above=some above'∧UF n above'∧root above' i=root above' j∧(∀ x y,x < n→y < n→root above x=root above y→root above' x=root above' y)∧∀ x y,x < n→y < n→root above' x=root above' y→root above x=root above y∨((root above x=root above i∨root above x=root above j)∧(root above y=root above i∨root above y=root above j)):=by
  unfold d_30a
  obtain ⟨a1,e1,s1⟩:=s_root h hi
  obtain ⟨a2,e2,s2⟩:=s_root s1.uf hj
  obtain ⟨a3,e3,s3⟩:=s_root s2.uf hi
  obtain ⟨a4,e4,s4⟩:=s_root s3.uf hj
  have r2:root a1 j=root above j:=s1.eq j hj
  have r3:root a2 i=root above i:=by rw [s2.eq i hi,s1.eq i hi]
  have r4:root a3 j=root above j:=by rw [s3.eq j hj,s2.eq j hj,r2]
  have heq:∀ x,x < n→root a4 x=root above x:=fun x hx=>by rw [s4.eq x hx,s3.eq x hx,s2.eq x hx,s1.eq x hx]
  rw [r2] at e2
  rw [r3] at e3
  rw [r4] at e4
  simp only [e1,Option.bind_some,e2,e3,e4]
  have hli:=h.root_le i hi
  have hlj:=h.root_le j hj
  have h400:=h.n400
  have hl4:=s4.uf.len
  have rri:root a4 (root above i)=root above i:=by rw [heq _ (by omega),h.root_root hi]
  have rrj:root a4 (root above j)=root above j:=by rw [heq _ (by omega),h.root_root hj]
  have main:∀ a b:Nat,a < n→b≤a→root a4 a=a→root a4 b=b→(a=root above i∧b=root above j∨a=root above j∧b=root above i) →
      ∃ above',(Option.bind (idxN 400 (a:Int)) fun k1=>Option.bind (a4[k1]?) fun e1=>some (a4.set k1 (b:Int)))=some above'∧UF n above'∧root above' i=root above' j∧(∀ x y,x < n→y < n→root above x=root above y→root above' x=root above' y)∧∀ x y,x < n→y < n→root above' x=root above' y→root above x=root above y∨((root above x=root above i∨root above x=root above j)∧(root above y=root above i∨root above y=root above j)):=fun a b ha hb ra rb hc=>by
    obtain ⟨u1,u2⟩:=s4.uf.join ha hb ra rb
    refine ⟨_,by rw [idxN_nat (by omega)];simp only [Option.bind_some,getD_at (show a < a4.length by omega)],u1,?_,fun x y hx hy hxy => ?_,fun x y hx hy hxy => ?_⟩
    · rw [u2 i hi,u2 j hj,heq i hi,heq j hj]
      rcases hc with ⟨c1,c2⟩ | ⟨c1,c2⟩
      · rw [if_pos c1.symm]
        split
        · rfl
        · exact c2
      · rw [if_pos c1.symm]
        split
        · rfl
        · exact c2.symm
    · rw [u2 x hx,u2 y hy,heq x hx,heq y hy,hxy]
    · rw [u2 x hx,u2 y hy,heq x hx,heq y hy] at hxy
      by_cases e1:root above x=a
      · rw [if_pos e1] at hxy
        by_cases e2:root above y=a
        · exact .inl (e1.trans e2.symm)
        · rw [if_neg e2] at hxy
          right
          rcases hc with ⟨c1,c2⟩ | ⟨c1,c2⟩
          · exact ⟨.inl (by omega),.inr (by omega)⟩
          · exact ⟨.inr (by omega),.inl (by omega)⟩
      · rw [if_neg e1] at hxy
        by_cases e2:root above y=a
        · rw [if_pos e2] at hxy
          right
          rcases hc with ⟨c1,c2⟩ | ⟨c1,c2⟩
          · exact ⟨.inr (by omega),.inl (by omega)⟩
          · exact ⟨.inl (by omega),.inr (by omega)⟩
        · rw [if_neg e2] at hxy
          exact .inl hxy
  by_cases hlt:root above i < root above j
  · rw [if_pos (by omega),if_neg (by omega)]
    exact main _ _ (by omega) (by omega) rrj rri (.inr ⟨rfl,rfl⟩)
  · rw [if_neg (by omega)]
    by_cases hlt2:root above j < root above i
    · rw [if_pos (by omega)]
      exact main _ _ (by omega) (by omega) rri rrj (.inl ⟨rfl,rfl⟩)
    · have:root above i=root above j:=by omega
      rw [if_neg (by omega)]
      exact main _ _ (by omega) (by omega) rri rri (.inl ⟨rfl,this⟩)
end Go.Proofs.YtjkljacdbljkpaaGreatDoor
namespace Go.Proofs.YtjkljacdbljkpaaGreatDoor
open Go.RowKit
set_option linter.unusedVariables false
set_option linter.unusedSimpArgs false
set_option maxRecDepth 100000
structure RootFn (n:Nat) (ρ:Nat→Nat):Prop where
  le:∀ x,x < n→ρ x≤x
  idem:∀ x,x < n→ρ (ρ x)=ρ x
def rootsB (ρ:Nat→Nat) (i:Nat):List Nat:=(List.range i).filter (fun x=>ρ x == x)
def memb (ρ:Nat→Nat) (r i:Nat):List Int:=((List.range i).filter (fun x=>ρ x == r)).map fun x:Nat=>(x:Int)
def partsL (ρ:Nat→Nat) (i:Nat):List (List Int):=(rootsB ρ i).map fun r=>memb ρ r i
theorem rootsB_succ (ρ:Nat→Nat) (i:Nat):rootsB ρ (i+1)=if ρ i=i then rootsB ρ i++[i] else rootsB ρ i:=by
  unfold rootsB
  rw [List.range_succ,List.filter_append]
  by_cases h:ρ i=i<;>simp [h]
theorem memb_succ (ρ:Nat→Nat) (r i:Nat):memb ρ r (i+1)=if ρ i=r then memb ρ r i++[(i:Int)] else memb ρ r i:=by
  unfold memb
  rw [List.range_succ,List.filter_append]
  by_cases h:ρ i=r<;>simp [h]
theorem rootsB_mem {ρ:Nat→Nat} {i r:Nat}:r∈rootsB ρ i↔r < i∧ρ r=r:=by simp [rootsB]
theorem memb_mem {ρ:Nat→Nat} {r i:Nat} {x:Int}:x∈memb ρ r i↔0≤x∧x < i∧ρ x.toNat=r:=by
  simp only [memb,List.mem_map,List.mem_filter,List.mem_range,beq_iff_eq]
  constructor
  · rintro ⟨y,⟨h1,h2⟩,rfl⟩;exact ⟨by omega,by omega,by simpa using h2⟩
  · rintro ⟨h1,h2,h3⟩;exact ⟨x.toNat,⟨by omega,h3⟩,by omega⟩
theorem rootsB_nodup (ρ:Nat→Nat) (i:Nat):(rootsB ρ i).Nodup:=List.Pairwise.sublist List.filter_sublist List.nodup_range
theorem rootsB_at {ρ:Nat→Nat} {r:Nat} (hr:ρ r=r):∀ {i:Nat},r < i→(rootsB ρ i)[(rootsB ρ r).length]?=some r
  | 0,h=>by omega
  | i+1,h=>by
    rw [rootsB_succ]
    rcases Nat.lt_or_ge r i with h1 | h1
    · have ih:=rootsB_at hr h1
      split
      · rw [List.getElem?_append_left (List.getElem?_eq_some_iff.1 ih).1];exact ih
      · exact ih
    · obtain rfl:r=i:=by omega
      rw [if_pos hr];simp
theorem map_set {α β:Type} {f g:α→β} {v:β}:∀ {l:List α} {p:Nat} {r:α},l.Nodup→l[p]?=some r→g r=v→(∀ x∈l,x≠r→g x=f x)→(l.map f).set p v=l.map g
  | [],p,r,_,h,_,_=>by simp at h
  | x::l,0,r,hn,h,hv,hg=>by
    simp at h
    subst h
    simp only [List.map_cons,List.set_cons_zero,hv]
    congr 1
    refine List.map_congr_left fun y hy=>(hg y (by simp [hy]) fun e => ?_).symm
    subst e
    exact (List.nodup_cons.1 hn).1 hy
  | x::l,p+1,r,hn,h,hv,hg=>by
    simp only [List.getElem?_cons_succ] at h
    simp only [List.map_cons,List.set_cons_succ]
    rw [map_set (List.nodup_cons.1 hn).2 h hv (fun y hy=>hg y (by simp [hy]))]
    rw [hg x (by simp) (fun e=>by subst e;exact (List.nodup_cons.1 hn).1 (List.mem_of_getElem? h))]
theorem mget_msetI {β:Type} (a b:Int) (v:β):∀ es:List (Int×β),mget a (mset b v es)=if a=b then some v else mget a es
  | []=>by simp only [mset,mget]
  | (k,w)::r=>by
    have ih:=mget_msetI a b v r
    simp only [mset]
    by_cases h:b=k
    · subst h
      simp only [if_pos,mget]
      by_cases h2:a=b
      · simp [h2]
      · simp [h2]
    · rw [if_neg h]
      simp only [mget,ih]
      by_cases h2:a=k
      · subst h2;rw [if_pos rfl,if_neg (fun e=>h e.symm),if_pos rfl]
      · rw [if_neg h2,if_neg h2]
structure GInv (n:Nat) (above:List Int) (i:Nat) (s:List (List Int)×List (Int×Int)×List Int):Prop where
  same:SameR n above s.2.2
  parts:s.1=partsL (root above) i
  places:∀ r:Nat,r < i→root above r=r→mget (r:Int) s.2.1=some ((rootsB (root above) r).length:Int)
theorem rootFn {n:Nat} {above:List Int} (h:UF n above):RootFn n (root above):=⟨h.root_le,fun _ hx=>h.root_root hx⟩
theorem partsL_new {n i:Nat} {ρ:Nat→Nat} (R:RootFn n ρ) (hi:i < n) (h:ρ i=i):partsL ρ (i+1)=partsL ρ i++[[(i:Int)]]:=by
  unfold partsL
  rw [rootsB_succ,if_pos h,List.map_append]
  congr 1
  · refine List.map_congr_left fun r hr => ?_
    rw [rootsB_mem] at hr
    rw [memb_succ,if_neg (by omega)]
  · simp only [List.map_cons,List.map_nil]
    rw [memb_succ,if_pos h]
    have:memb ρ i i=[]:=List.eq_nil_iff_forall_not_mem.2 fun x hx=>by
      rw [memb_mem] at hx
      have:=R.le x.toNat (by omega)
      omega
    rw [this];rfl
theorem partsL_old {n i:Nat} {ρ:Nat→Nat} (R:RootFn n ρ) (hi:i < n) (h:ρ i≠i):(partsL ρ i)[(rootsB ρ (ρ i)).length]?=some (memb ρ (ρ i) i)∧partsL ρ (i+1)=(partsL ρ i).set (rootsB ρ (ρ i)).length (memb ρ (ρ i) i++[(i:Int)]):=by
  have hle:=R.le i hi
  have hat:=rootsB_at (ρ:=ρ) (R.idem i hi) (i:=i) (by omega)
  refine ⟨by unfold partsL;rw [List.getElem?_map,hat];rfl,?_⟩
  unfold partsL
  rw [rootsB_succ,if_neg h]
  refine (map_set (rootsB_nodup ρ i) hat ?_ fun r hr hne => ?_).symm
  · show memb ρ (ρ i) (i+1)=_
    rw [memb_succ,if_pos rfl]
  · show memb ρ r (i+1)=_
    rw [memb_succ,if_neg (fun e=>hne e.symm)]
theorem s_gather {n:Nat} {above:List Int} (h:UF n above):∃ ab,d_gather (n:Int) above=some (partsL (root above) n,ab):=by
  have h400:=h.n400
  have R:=rootFn h
  unfold d_gather
  have hg:decide ((n:Int)≤1000000000000)=true:=by simp only [decide_eq_true_eq];omega
  rw [hg]
  simp only [cond_true]
  have:Ret (forR (σ:=List (List Int)×List (Int×Int)×List Int) (ρ:=Unit) (n:Int) d_gather_step ([],[],above)) (fun o=>match o with | .inl s=>GInv n above n s | .inr _=>False):=by
    refine Ret.forL (GInv n above) (by omega) ⟨⟨h,fun _ _=>rfl⟩,rfl,fun r hr=>by omega⟩ ?_ (fun s hs=>hs)
    rintro i ⟨Ls,es,ab⟩ hi ⟨g1,g2,g3⟩
    simp only at g1 g2 g3
    unfold d_gather_step
    obtain ⟨ab',e1,e2⟩:=s_root g1.uf hi
    rw [g1.eq i hi] at e1
    have hsame:SameR n above ab':=⟨e2.uf,fun j hj=>by rw [e2.eq j hj,g1.eq j hj]⟩
    simp only [e1,Option.bind_some]
    have hle:=R.le i hi
    by_cases he:root above i=i
    · have hb:((root above i:Int) == (i:Int))=true:=by rw [he];simp
      rw [hb]
      refine Ret.some ⟨hsame,?_,fun r hr hrr => ?_⟩
      · show Ls++[[(i:Int)]]=_
        rw [partsL_new R hi he,g2]
      · show mget (r:Int) (mset (i:Int) (Ls.length:Int) es)=_
        rw [mget_msetI]
        split
        · rename_i e3
          obtain rfl:r=i:=by omega
          rw [g2];simp [partsL]
        · exact g3 r (by omega) hrr
    · have hb:((root above i:Int) == (i:Int))=false:=by rw [beq_eq_false_iff_ne];omega
      rw [hb]
      obtain ⟨o1,o2⟩:=partsL_old R hi he
      have hpl:=g3 (root above i) (by omega) (R.idem i hi)
      simp only [cond_false,hpl,Option.getD_some]
      rw [idxI_nat',g2,o1]
      simp only [Option.bind_some,Int.toNat_natCast]
      exact Ret.some ⟨hsame,o2.symm,fun r hr hrr=>g3 r (by
        rcases Nat.lt_or_ge r i with h5 | h5
        · exact h5
        · obtain rfl:r=i:=by omega
          exact absurd hrr he) hrr⟩
  obtain ⟨o,h1,h2⟩:=this
  rw [h1]
  cases o with
  | inl s=>exact ⟨s.2.2,by simp only [Option.bind_some,Sum.elim_inl];rw [←h2.parts]⟩
  | inr _=>exact h2.elim
end Go.Proofs.YtjkljacdbljkpaaGreatDoor
