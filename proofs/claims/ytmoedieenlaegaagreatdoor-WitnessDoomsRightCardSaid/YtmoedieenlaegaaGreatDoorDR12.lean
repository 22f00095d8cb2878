/-
  'WitnessDoomsRight': for every input the call returns true, and each argument reads afterwards as it read before.
  The tables of the library that the rows list: from the row's condition to what the contracts ask; the witness.
  A doom that is a proof: its rows have ranks.
  'witness.Shield' and 'witness.Doom': what they return; sizes.
  The fixed examples of the laws of layer 22: 'head' returns true. Printed by mkheads.py.
  Functions of the program as the kernel reckons them: with fuel, and texts of small numbers. Printed by mkheads.py.
  'witness.CheckShield' and 'witness.CheckDoom': what they decide.
-/
import Derived.Test.YtmoedieenlaegaaGreatDoorDR11
import Derived.Test.YtmoedieenlaegaaGreatDoorRows
import Derived.Test.YtmoedieenlaegaaGreatDoorDR10
import Derived.LaidLaws
import Derived.LaidSub
import Derived.Deep.DeepLaidRun
import Derived.Lib.LaidTab
import Derived.JoinedOf
import Derived.Test.YtmoedieenlaegaaGreatDoorDR06
import Derived.Test.YtmoedieenlaegaaGreatDoorTie
import Derived.Test.YtmoedieenlaegaaGreatDoorCards
import Derived.SevenTiedAt
namespace Go.Proofs.YtmoedieenlaegaaGreatDoor
open Go.RowKit
set_option linter.unusedSimpArgs false
set_option linter.unusedVariables false
set_option maxRecDepth 100000
section
theorem zbq (l:List Int) (v:Int) (hl:l.length < 4611686018427387904):jN l v=some (l.contains v):=by
  unfold jN Wm
  rw [jH (fun q=>match l[q]? with | some x=>!(v == x) | none=>true) (fun q=>(q:Int)) hl (fun q hq=>by
    simp only [z6,List.getElem?_eq_getElem hq,Option.bind_some]
    cases (v == l[q])<;>rfl)]
  cases hf:(List.range l.length).find? (fun q=>!(match l[q]? with | some x=>!(v == x) | none=>true)) with
  | none=>
    have:l.contains v=false:=by
      rw [Bool.eq_false_iff]
      intro hm
      rw [List.contains_iff_mem] at hm
      obtain ⟨q,hq,e⟩:=List.getElem_of_mem hm
      have:=x3 hf q hq
      simp only [List.getElem?_eq_getElem hq] at this
      rw [e] at this
      simp at this
    rw [this];rfl
  | some q=>
    obtain ⟨h1,h2,_⟩:=x4 hf
    have:l.contains v=true:=by
      rw [List.contains_iff_mem]
      simp only [List.getElem?_eq_getElem h1,Bool.not_eq_false',beq_iff_eq] at h2
      rw [h2];exact List.getElem_mem h1
    rw [this]
    simp
theorem zee {l:List Int} {f:Nat→Unit→Option (Unit ⊕ Int)} (p:Int→Bool) (hl:l.length < 4611686018427387904) (h:∀ (i:Nat) (hi:i < l.length),f i ()=some (bif p l[i] then .inr (i:Int) else .inl ())) :
    (Option.bind (forR (l.length:Int) f ()) (Sum.elim (fun (_:Unit)=>some (-1)) (fun (y:Int)=>some y))).bind (fun r=>some (decide (0≤r)))=some (l.any p):=by
  rw [jH (fun q=>match l[q]? with | some x=>!(p x) | none=>true) (fun q=>(q:Int)) hl (fun q hq=>by
    rw [h q hq]
    simp only [List.getElem?_eq_getElem hq]
    cases p l[q]<;>rfl)]
  cases hf:(List.range l.length).find? (fun q=>!(match l[q]? with | some x=>!(p x) | none=>true)) with
  | none=>
    have:l.any p=false:=by
      rw [List.any_eq_false]
      intro x hx
      obtain ⟨q,hq,e⟩:=List.getElem_of_mem hx
      have:=x3 hf q hq
      simp only [List.getElem?_eq_getElem hq,e] at this
      simpa using this
    rw [this];rfl
  | some q=>
    obtain ⟨h1,h2,_⟩:=x4 hf
    have:l.any p=true:=by
      rw [List.any_eq_true]
      simp only [List.getElem?_eq_getElem h1] at h2
      exact ⟨_,List.getElem_mem h1,by simpa using h2⟩
    rw [this]
    simp
section
variable {c:ContractT} {party:Int} {F:List (ByteArray×Int)}
theorem zdd (hc:c.Ok) {p:PosT} (hv:VS c p.state) {m:Int} (hm:m∈zq c party p) (q:Int):wl p m c q F=some ((zp (txt (target c p m)) F).getD 0,(zp (txt (target c p m)) F).isSome):=by
  unfold wl
  rcases zbn hm with ⟨rfl,_⟩ | ⟨h1,h2,h3⟩
  · have ht:=QB hc (p:={state:=p.state,own:=false}) hv
    show Option.bind (qC ({state:=p.state,own:=false}:PosT)) _=_
    rw [ht,KI];rfl
  · obtain ⟨e,hv2,_,_⟩:=wR hc hv h1 h2 h3
    have hne:(m == (-2:Int))=false:=beq_eq_false_iff_ne.2 (by omega)
    have ht:=QB hc (p:={state:=jP c p.state m,own:=true}) hv2
    simp only [hne,cond_false,e,Option.bind_some,Bool.not_false]
    show Option.bind (qC ({state:=jP c p.state m,own:=true}:PosT)) _=_
    rw [ht,KJ c p h1];rfl
def blB (F:List (ByteArray×Int)) (n:Int) (q:PosT):Bool:=bif (zp (txt q) F).isSome then decide ((zp (txt q) F).getD 0 < n) else false
theorem zah (hc:c.Ok) {p:PosT} (hv:VS c p.state) {m:Int} (hm:m∈zq c party p) (n q:Int):wm p m n c q F=some (blB F n (target c p m)):=by
  unfold wm
  rw [zdd hc hv hm]
  simp only [Option.bind_some,zn]
  rfl
theorem zik (hc:c.Ok) {p:PosT} (hv:VS c p.state) (n q:Int):ZB (zq c party p) p n c q F=some ((zq c party p).any fun m=>!blB F n (target c p m)):=by
  have:=ko hc (party:=party) hv
  unfold ZB QV
  rw [zee (l:=zq c party p) (fun m=>!blB F n (target c p m)) (by omega) fun i hi=>by
    simp only [z6,List.getElem?_eq_getElem hi,Option.bind_some,kW]
    rw [zah hc hv (List.getElem_mem hi)];simp only [Option.bind_some,zn]]
noncomputable def doB (c:ContractT) (party:Int) (F:List (ByteArray×Int)) (r:DoomRowT):Bool:=
  bif decide (r.rank≤0) then r.rank == 0&&q9 c r.position.state party
  else bif r.position.own then !((zq c party r.position).any fun m=>!blB F r.rank (target c r.position m)) else (zq c party r.position).contains r.move&&blB F r.rank (target c r.position r.move)
theorem zgU (hc:c.Ok) {s:DoomT} {i:Nat} (hi:i < s.rows.length) (h0:0≤party) (h1:party < c.parties) (hv:VS c s.rows[i].position.state):yE ({d:=s}:DoomW) (i:Int) c party F=some (doB c party F s.rows[i]):=by
  have hl:=ko hc (party:=party) hv
  unfold yE vQ doB
  rw [idxI_at (List.getElem?_eq_getElem hi)]
  simp only [Option.bind_some]
  rw [zea hc hv h0 h1]
  simp only [Option.bind_some]
  generalize s.rows[i]=r at *
  cases decide (r.rank≤0) with
  | true=>cases (r.rank == 0)<;>cases q9 c r.position.state party<;>rfl
  | false=>
    have hmv:wM c party r.position=some (zq c party r.position,0):=by
      rw [zft hc,kl.2 ⟨h0,h1,hv⟩];rfl
    simp only [cond_false,hmv,Option.bind_some]
    rw [zbq _ _ (by omega),zik hc hv]
    simp only [Option.bind_some]
    cases r.position.own with
    | true=>rfl
    | false=>
      simp only [cond_false]
      cases hm:(zq c party r.position).contains r.move with
      | false=>rfl
      | true=>
        have hm':=List.contains_iff_mem.1 hm
        simp only [cond_true,zah hc hv hm',Option.bind_some,Bool.true_and]
theorem zef (hc:c.Ok) {α:Type} (rows:List α) (pos:α→PosT) (rk:α→Int) (hl:rows.length < 4611686018427387904) (row:Int→Option (PosT×Int)) (hrow:∀ (i:Nat) (hi:i < rows.length),row (i:Int)=some (pos rows[i],rk rows[i])) {x:Option (List (ByteArray×Int) ⊕ Unit)}
    (hx:x=forR (σ:=(List (ByteArray×Int))) (ρ:=Unit) (rows.length:Int) (fun i1 s1=>(Option.bind (α:=(List (ByteArray×Int)) ⊕ Unit) (Option.bind (row (i1:Int)) fun r5=>(Option.bind (qI c r5.1.state) fun r6=>(bif r6 then (Option.bind (qC r5.1) fun r7=>(Option.bind (bif ((zp r7 s1).isSome) then some (decide (r5.2 < ((zp r7 s1).getD 0))) else some true) fun v2=>(bif v2 then some (.inl (zU r7 r5.2 s1)) else some (.inl s1)))) else some (.inr ())))) (Sum.elim (fun (v3:(List (ByteArray×Int)))=>some (.inl v3)) (fun (y1:Unit)=>some (.inr ()))))) []) :
    Ret x (fun o=>(∃ F,o=.inl F∧x8 c F (rows.map fun r=>(pos r,rk r))∧∀ r∈rows,VS c (pos r).state)∨(o=.inr ()∧∃ r∈rows,¬ VS c (pos r).state)):=by
  subst hx
  refine Ret.forL (fun i F=>x8 c F ((rows.take i).map fun r=>(pos r,rk r))∧∀ (j:Nat) (hj:j < rows.length),j < i→VS c (pos rows[j]).state) hl ⟨zdb c,fun j _ hj=>by omega⟩ (fun i F hi hI => ?_) (fun F h => ?_)
  · obtain ⟨h1,h2⟩:=hI
    refine Ret.bind (P:=fun o=>(∃ F',o=.inl F'∧(x8 c F' ((rows.take (i+1)).map fun r=>(pos r,rk r))∧∀ (j:Nat) (hj:j < rows.length),j < i+1→VS c (pos rows[j]).state))∨(o=.inr ()∧∃ r∈rows,¬ VS c (pos r).state)) ?_ ?_
    · refine Ret.bindE (hrow i hi) ?_
      refine Ret.bindE (yJ c _ hc) ?_
      refine Ret.ite (fun hv => ?_) (fun hv=>Ret.some (.inr ⟨rfl,_,List.getElem_mem hi,fun h=>by rw [Qw h] at hv;cases hv⟩))
      have hv:=zeH hv
      refine Ret.bindE (QB hc hv) ?_
      have hs:=zbp h1 hv (rk rows[i])
      have et:(rows.take (i+1)).map (fun r=>(pos r,rk r))=(rows.take i).map (fun r=>(pos r,rk r))++[(pos rows[i],rk rows[i])]:=by
        rw [List.take_succ_eq_append_getElem hi,List.map_append];rfl
      have hvs:∀ (j:Nat) (hj:j < rows.length),j < i+1→VS c (pos rows[j]).state:=fun j hj hji=>by
        by_cases e:j=i
        · subst e;exact hv
        · exact h2 j hj (by omega)
      rw [←et] at hs
      refine Ret.bindE (v:=(bif !(zp (txt (pos rows[i])) F).isSome then true else decide (rk rows[i] < (zp (txt (pos rows[i])) F).getD 0))) ?_ ?_
      · cases (zp (txt (pos rows[i])) F).isSome<;>rfl
      · refine Ret.ite (fun hb => ?_) (fun hb => ?_)
        · rw [hb] at hs
          exact Ret.some (.inl ⟨_,rfl,hs,hvs⟩)
        · rw [hb] at hs
          exact Ret.some (.inl ⟨_,rfl,hs,hvs⟩)
    · rintro o (⟨F',rfl,h⟩ | ⟨rfl,h⟩)
      · exact Ret.some h
      · exact Ret.some (.inr ⟨rfl,h⟩)
  · refine .inl ⟨F,rfl,?_,fun r hr => ?_⟩
    · have:=h.1
      rwa [List.take_of_length_le (Nat.le_refl _)] at this
    · obtain ⟨j,hj,rfl⟩:=List.getElem_of_mem hr
      exact h.2 j hj hj
theorem zai {l:List (PosT×Int)} {rows:List DoomRowT} (hF:x8 c F l) (hl:∀ q n,(∃ x∈l,x.1=q∧x.2 < n)↔∃ r∈rows,r.position=q∧r.rank < n) {r:DoomRowT} (hc:c.Ok) (hv:VS c r.position.state):doB c party F r=true↔0≤r.rank∧(r.rank=0→q9 c r.position.state party=true)∧(0 < r.rank→r.position.own=true→∀ m∈zq c party r.position,∃ r'∈rows,DoomRowT.position r'=target c r.position m∧DoomRowT.rank r' < r.rank)∧(0 < r.rank→r.position.own=false→r.move∈zq c party r.position∧∃ r'∈rows,DoomRowT.position r'=target c r.position r.move∧DoomRowT.rank r' < r.rank):=by
  have kn:∀ m∈zq c party r.position,(blB F r.rank (target c r.position m)=true↔∃ r'∈rows,DoomRowT.position r'=target c r.position m∧DoomRowT.rank r' < r.rank):=fun m hm=>(zdc hF (km hc hv hm)).trans (hl _ _)
  unfold doB
  by_cases h0:r.rank≤0
  · rw [decide_eq_true h0,cond_true,Bool.and_eq_true,beq_iff_eq]
    constructor
    · rintro ⟨g1,g2⟩
      exact ⟨by omega,fun _=>g2,fun h=>by omega,fun h=>by omega⟩
    · rintro ⟨g1,g2,_⟩
      have:r.rank=0:=by omega
      exact ⟨this,g2 this⟩
  · rw [decide_eq_false h0,cond_false]
    cases ho:r.position.own with
    | true=>
      rw [cond_true,Bool.not_eq_true',List.any_eq_false]
      constructor
      · intro g
        refine ⟨by omega,fun h=>by omega,fun _ _ m hm=>(kn m hm).1 ?_,fun _ h=>by cases h⟩
        have:=g m hm
        simpa using this
      · rintro ⟨_,_,g,_⟩ m hm
        have:=(kn m hm).2 (g (by omega) rfl m hm)
        simp [this]
    | false=>
      rw [cond_false,Bool.and_eq_true,List.contains_iff_mem]
      constructor
      · rintro ⟨g1,g2⟩
        exact ⟨by omega,fun h=>by omega,fun _ h=>by (cases h),fun _ _=>⟨g1,(kn _ g1).1 g2⟩⟩
      · rintro ⟨_,_,_,g⟩
        obtain ⟨g1,g2⟩:=g (by omega) rfl
        exact ⟨g1,(kn _ g1).2 g2⟩
end
open Classical in
open Classical in
noncomputable def VR (c:ContractT) (d:DoomT):Bool:=decide (DoomP c d)
theorem Vl {c:ContractT} {d:DoomT}:VR c d=true↔DoomP c d:=by unfold VR;simp
theorem zeg {c:ContractT} {d:DoomT} {b:Bool} (h:b=true↔DoomP c d):b=VR c d:=by
  rw [Bool.eq_iff_iff,h,Vl]
theorem KL {c:ContractT} (hc:c.Ok) (s:DoomT) (hl:s.rows.length < 4611686018427387904):qN c s=some (VR c s):=by
  refine Ret.eq (Ret.mono (P:=fun b=>b=true↔DoomP c s) ?_ fun b h=>zeg h)
  unfold qN kX
  refine Ret.bind (P:=fun b=>b=true↔DoomP c s) ?_ (fun b h=>Ret.some h)
  refine Ret.bindE (v:=s.party) rfl ?_
  simp only [jq,Option.bind_some]
  refine Ret.bindE (v := !(decide (0≤s.party)&&(decide (s.party < c.parties)&&(decide (1≤s.rows.length)&&decide (s.rows.length≤1500))))) ?_ ?_
  · by_cases h1:s.party < 0
    · rw [decide_eq_true h1,decide_eq_false (show ¬ 0≤s.party by omega)];rfl
    · rw [decide_eq_false h1,decide_eq_true (show 0≤s.party by omega)]
      by_cases h2:c.parties≤s.party
      · rw [decide_eq_true h2,decide_eq_false (show ¬ s.party < c.parties by omega)];rfl
      · rw [decide_eq_false h2,decide_eq_true (show s.party < c.parties by omega)]
        by_cases h3:(s.rows.length:Int) < 1
        · rw [decide_eq_true h3,decide_eq_false (show ¬ 1≤s.rows.length by omega)];rfl
        · rw [decide_eq_false h3,decide_eq_true (show 1≤s.rows.length by omega)]
          by_cases h4:(1500:Int) < (s.rows.length:Int)
          · rw [decide_eq_true h4,decide_eq_false (show ¬ s.rows.length≤1500 by omega)];rfl
          · rw [decide_eq_false h4,decide_eq_true (show s.rows.length≤1500 by omega)];rfl
  refine Ret.ite (fun hb=>Ret.some ⟨fun h=>by (cases h),fun h => ?_⟩) (fun hb => ?_)
  · rw [decide_eq_true h.p0,decide_eq_true h.p1,decide_eq_true h.n1,decide_eq_true h.n2] at hb;cases hb
  simp only [Bool.not_eq_false',Bool.and_eq_true,decide_eq_true_eq] at hb
  obtain ⟨p0,p1,n1,n2⟩:=hb
  refine Ret.bind (zef hc s.rows (·.position) (·.rank) hl (kV ({d:=s}:DoomW)) (fun i hi=>by unfold kV;rw [idxI_at (List.getElem?_eq_getElem hi)];rfl) rfl) ?_
  rintro _ (⟨F,rfl,hF,hvs⟩ | ⟨rfl,r,hr,hn⟩)
  · simp only [Sum.elim_inl]
    have hll:∀ q n,(∃ x∈s.rows.map (fun r=>(r.position,r.rank)),x.1=q∧x.2 < n)↔∃ r∈s.rows,r.position=q∧r.rank < n:=fun q n=>by
      constructor
      · rintro ⟨x,hx,e⟩
        obtain ⟨r,hr,rfl⟩:=List.mem_map.1 hx
        exact ⟨r,hr,e⟩
      · rintro ⟨r,hr,e⟩
        exact ⟨_,List.mem_map.2 ⟨r,hr,rfl⟩,e⟩
    have key:s.rows.all (doB c s.party F)=true↔DoomP c s:=by
      rw [List.all_eq_true]
      constructor
      · intro h
        have h':=fun r hr=>(zai hF hll hc (hvs r hr)).1 (h r hr)
        exact ⟨p0,p1,n1,n2,hvs,fun r hr=>(h' r hr).1,fun r hr=>(h' r hr).2.1,fun r hr=>(h' r hr).2.2.1,fun r hr=>(h' r hr).2.2.2⟩
      · intro h r hr
        exact (zai hF hll hc (hvs r hr)).2 ⟨h.rk r hr,h.zero r hr,h.own r hr,h.oth r hr⟩
    rw [wN (l:=s.rows) (doB c s.party F) hl (fun i hi=>by
      rw [zgU hc hi p0 p1 (hvs _ (List.getElem_mem hi))];simp only [Option.bind_some,zn])]
    cases hall:s.rows.all (doB c s.party F) with
    | true=>exact Ret.some ⟨fun _=>key.1 hall,fun _=>rfl⟩
    | false=>exact Ret.some ⟨fun h=>by (cases h),fun h=>by rw [key.2 h] at hall;cases hall⟩
  · exact Ret.some ⟨fun h=>by (cases h),fun h=>absurd (h.vs r hr) hn⟩
end
end Go.Proofs.YtmoedieenlaegaaGreatDoor
namespace Go.Proofs.YtmoedieenlaegaaGreatDoor
set_option linter.unusedSimpArgs false
set_option linter.unusedVariables false
set_option maxRecDepth 100000
def Le {α:Type} (x y:Option α):Prop:=∀ r,x=some r→y=some r
theorem Le.refl {α:Type} (x:Option α):Le x x:=fun _ h=>h
theorem Le.bind {α β:Type} {x y:Option α} {f g:α→Option β} (h:Le x y) (hf:∀ a,Le (f a) (g a)):Le (x.bind f) (y.bind g):=fun r hr=>by
  obtain ⟨a,h1,h2⟩:=Option.bind_eq_some_iff.1 hr
  rw [h a h1];exact hf a r h2
theorem Le.cond {α:Type} (b:Bool) {x y x' y':Option α} (h1:Le x x') (h2:Le y y'):Le (bif b then x else y) (bif b then x' else y'):=by
  cases b
  · exact h2
  · exact h1
theorem Le.elim {α β γ:Type} {f f':α→Option γ} {g g':β→Option γ} (h1:∀ a,Le (f a) (f' a)) (h2:∀ a,Le (g a) (g' a)) (o:α ⊕ β):Le (Sum.elim f g o) (Sum.elim f' g' o):=by
  cases o
  · exact h1 _
  · exact h2 _
theorem Le.forFrom {σ ρ:Type} {f g:Nat→σ→Option (σ ⊕ ρ)} (h:∀ i s,Le (f i s) (g i s)):∀ (k i:Nat) (s:σ),Le (forFrom f i k s) (forFrom g i k s)
  | 0,i,s=>Le.refl _
  | k+1,i,s=>fun r hr=>by
    simp only [Go.Proofs.YtmoedieenlaegaaGreatDoor.forFrom] at hr ⊢
    split at hr
    · cases hr
    · rename_i e;rw [h i s _ e];exact hr
    · rename_i e;rw [h i s _ e];exact Le.forFrom h k (i+1) _ r hr
theorem Le.forR {σ ρ:Type} {f g:Nat→σ→Option (σ ⊕ ρ)} (h:∀ i s,Le (f i s) (g i s)) (n:Int) (s:σ):Le (forR n f s) (forR n g s):=fun r hr=>by
  obtain ⟨h1,h2⟩:=WT hr
  rw [yy h1];exact Le.forFrom h _ _ _ r h2
theorem Le.iterN {σ ρ:Type} {f g:σ→Option (σ ⊕ ρ)} (h:∀ s,Le (f s) (g s)):∀ (k:Nat) (s:σ),Le (Go.Proofs.YtmoedieenlaegaaGreatDoor.iterN f k s) (Go.Proofs.YtmoedieenlaegaaGreatDoor.iterN g k s)
  | 0,s=>Le.refl _
  | k+1,s=>fun r hr=>by
    simp only [Go.Proofs.YtmoedieenlaegaaGreatDoor.iterN] at hr ⊢
    split at hr
    · cases hr
    · rename_i e;rw [h s _ e];exact hr
    · rename_i e;rw [h s _ e];exact Le.iterN h k _ r hr
theorem Le.iter {σ ρ:Type} {f g:σ→Option (σ ⊕ ρ)} (h:∀ s,Le (f s) (g s)) (k:Nat) (s:σ):Le (Go.Proofs.YtmoedieenlaegaaGreatDoor.iterN f k s) (Go.Proofs.YtmoedieenlaegaaGreatDoor.iter g s):=fun r hr=>vE.2 ⟨k,Le.iterN h k s r hr⟩
def Ww:Nat→Nat→List UInt8
  | 0,u=>[]
  | f+1,u=>if u < 10 then [UInt8.ofNat (48+u)] else Ww f (u / 10)++[UInt8.ofNat (48+u % 10)]
theorem Wx:∀ (f u:Nat),u < 10 ^ (f+1)→Ww (f+1) u=Lib.decDigits u
  | 0,u,h=>by
    rw [Lib.decDigits]
    simp only [Ww]
    rw [if_pos (by omega),dif_pos (by omega)]
  | f+1,u,h=>by
    rw [Lib.decDigits,Ww]
    by_cases hu:u < 10
    · rw [if_pos hu,dif_pos hu]
    · rw [if_neg hu,dif_neg hu,Wx f (u / 10) (by rw [Nat.pow_succ] at h;omega)]
def xl (n:Int):Bool:=decide (-1000 < n)&&decide (n < 1000)
def zbr (n:Int):List UInt8:=if n < 0 then 45::Ww 4 n.natAbs else Ww 4 n.toNat
theorem zeh {n:Int} (h:xl n=true):zbr n=Lib.itoa n:=by
  simp only [xl,Bool.and_eq_true,decide_eq_true_eq] at h
  unfold zbr Lib.itoa
  rw [Wx 3 n.natAbs (by omega),Wx 3 n.toNat (by omega)]
def wT (n:Int):List UInt8:=zbr n++[32]
theorem yo {n:Int} (h:xl n=true):wT n=zM n:=by unfold wT zM;rw [zeh h]
def zeJ (m:MarkT):List UInt8:=wT m.status++wT m.left++wT m.got++wT m.bearer++qf m.paused
def Y5 (m:MarkT):Bool:=xl m.status&&(xl m.left&&(xl m.got&&xl m.bearer))
def XQ (p:PosT):List UInt8:=qf p.own++wT p.state.day++p.state.holders.flatMap wT++p.state.used.flatMap qf++p.state.marks.flatMap zeJ
def QD (p:PosT):Bool:=xl p.state.day&&(p.state.holders.all xl&&p.state.marks.all Y5)
theorem yM {α β:Type} {f g:α→List β}:∀ {l:List α},(∀ a∈l,f a=g a)→l.flatMap f=l.flatMap g
  | [],_=>rfl
  | a::l,h=>by rw [List.flatMap_cons,List.flatMap_cons,h a List.mem_cons_self,yM fun b hb=>h b (List.mem_cons_of_mem _ hb)]
theorem zei {p:PosT} (h:QD p=true):XQ p=z1 p:=by
  simp only [QD,Bool.and_eq_true,List.all_eq_true] at h
  unfold XQ z1
  rw [yo h.1,yM (f:=wT) (g:=zM) (fun a ha=>yo (h.2.1 a ha)),yM (f:=zeJ) (g:=jt) (fun a ha=>by
    have:=h.2.2 a ha
    simp only [Y5,Bool.and_eq_true] at this
    show wT a.status++wT a.left++wT a.got++wT a.bearer++qf a.paused=zM a.status++zM a.left++zM a.got++zM a.bearer++qf a.paused
    rw [yo this.1,yo this.2.1,yo this.2.2.1,yo this.2.2.2])]
theorem wU {n:Int} (h:xl n=true):xa n=true:=by
  simp only [xl,xa,Bool.and_eq_true,decide_eq_true_eq] at h ⊢
  omega
def wp (p:PosT):Option ByteArray:=bif QD p&&decide ((XQ p).length≤1000000000) then some ⟨(XQ p).toArray⟩ else none
theorem Q6 (p:PosT):Le (wp p) (qC p):=fun r h=>by
  unfold wp at h
  cases hq:(QD p&&decide ((XQ p).length≤1000000000)) with
  | false=>rw [hq] at h;cases h
  | true=>
    rw [hq] at h
    simp only [Bool.and_eq_true,decide_eq_true_eq] at hq
    have e:=zei hq.1
    unfold qC
    rw [if_pos,←e]
    · exact h
    · have h1:=hq.1
      simp only [QD,Bool.and_eq_true,List.all_eq_true] at h1
      simp only [okP,Bool.and_eq_true,decide_eq_true_eq,List.all_eq_true]
      refine ⟨⟨⟨wU h1.1,fun x hx=>wU (h1.2.1 x hx)⟩,fun m hm => ?_⟩,by rw [←e];exact hq.2⟩
      have:=h1.2.2 m hm
      simp only [Y5,Bool.and_eq_true] at this
      exact ⟨⟨⟨wU this.1,wU this.2.1⟩,wU this.2.2.1⟩,wU this.2.2.2⟩
noncomputable def XR (p1:ContractT) (p2:Int) (p3:List Int) (p4:Nat) (p5:List Bool) (p6:Nat) (p7:List MarkT) (p8:Nat):Option ((List MarkT)):=
  (Option.bind (iterN (σ:=Bool×(List MarkT)) (ρ:=(List MarkT)) (fun s1=>(bif s1.1 then (Option.bind (forR (σ:=Bool×(List MarkT)) (ρ:=Unit) (p1.clauses.length:Int) (fun i2 s2=>(Option.bind (Option.bind (ze p1.clauses (i2:Int)) fun e1=>(Option.bind (eqN p4 p3.length) fun g1=>(Option.bind (eqN p6 p5.length) fun g2=>(Option.bind (eqN p8 s2.2.length) fun g3=>(Option.bind (wK p1 ({day:=p2,holders:=p3,used:=p5,marks:=s2.2}:StateT) (i2:Int)) fun r1=>(bif r1 then (Option.bind (bif (e1.kind == 4) then some (-1) else (Option.bind (zk p4 e1.role) fun k1=>(Option.bind (p3[k1]?) fun e2=>some e2))) fun (v1:Int)=>(Option.bind (zk p8 (i2:Int)) fun k2=>(Option.bind (s2.2[k2]?) fun e3=>some (true,(s2.2.set k2 ({status:=1,left:=e1.after,got:=0,bearer:=v1,paused:=false}:MarkT)))))) else some (s2.1,s2.2))))))) fun (v2:Bool×(List MarkT))=>some (.inl (v2.1,v2.2)))) (false,s1.2)) (Sum.elim (fun (s2:Bool×(List MarkT))=>some (.inl (s2.1,s2.2))) (fun _=>none))) else some (.inr s1.2))) 40 (true,p7)) (fun (y1:(List MarkT))=>some y1))
theorem Y6 (p1:ContractT) (p2:Int) (p3:List Int) (p4:Nat) (p5:List Bool) (p6:Nat) (p7:List MarkT) (p8:Nat):Le (XR p1 p2 p3 p4 p5 p6 p7 p8) (xM p1 p2 p3 p4 p5 p6 p7 p8):=by
  unfold XR xM
  repeat' (first | with_reducible exact Le.refl _ | with_reducible refine Le.bind ?_ (fun _ => ?_) | with_reducible refine Le.cond _ ?_ ?_ | with_reducible refine Le.forR (fun _ _ => ?_) _ _ | with_reducible refine Le.iter (fun _ => ?_) _ _ | with_reducible refine Le.elim (fun _ => ?_) (fun _ => ?_) _)
noncomputable def Wy (c:ContractT):Option (StateT×Int):=
  (Option.bind (wJ c) fun r1=>(bif (r1.1 == 0) then (Option.bind (qZ 8 c.holders) fun e1=>(Option.bind (mkN 1 (c.acts.length:Int)) fun k1=>(Option.bind (mkN 40 (c.clauses.length:Int)) fun k2=>(Option.bind (forR (σ:=(List MarkT)) (ρ:=Unit) (c.clauses.length:Int) (fun i1 s1=>(Option.bind (Option.bind (ze c.clauses (i1:Int)) fun e2=>(Option.bind (zk k2 (i1:Int)) fun k3=>(Option.bind (s1[k3]?) fun e3=>(bif e2.waived then (Option.bind (zk k2 (i1:Int)) fun k4=>(Option.bind ((s1.set k3 ({status:=0,left:=0,got:=0,bearer:=(-1),paused:=false}:MarkT))[k4]?) fun e4=>some ((s1.set k3 ({status:=0,left:=0,got:=0,bearer:=(-1),paused:=false}:MarkT)).set k4 ({e4 with status:=5}:MarkT)))) else some (s1.set k3 ({status:=0,left:=0,got:=0,bearer:=(-1),paused:=false}:MarkT)))))) fun (v1:(List MarkT))=>some (.inl v1))) (List.replicate k2 ({status:=0,left:=0,got:=0,bearer:=0,paused:=false}:MarkT))) (Sum.elim (fun (s1:(List MarkT))=>(Option.bind (XR c 0 e1 e1.length (List.replicate k1 false) k1 s1 k2) fun r2=>(Option.bind (eqN k1 (List.replicate k1 false).length) fun g1=>(Option.bind (eqN k2 r2.length) fun g2=>some (({day:=0,holders:=e1,used:=(List.replicate k1 false),marks:=r2}:StateT),0))))) (fun _=>none)))))) else some (({day:=0,holders:=[],used:=[],marks:=[]}:StateT),1)))
theorem zej (c:ContractT):Le (Wy c) (QU c):=by
  unfold Wy QU
  repeat' (first | with_reducible exact Le.refl _ | with_reducible exact Y6 _ _ _ _ _ _ _ _ | with_reducible refine Le.bind ?_ (fun _ => ?_) | with_reducible refine Le.cond _ ?_ ?_ | with_reducible refine Le.forR (fun _ _ => ?_) _ _ | with_reducible refine Le.iter (fun _ => ?_) _ _ | with_reducible refine Le.elim (fun _ => ?_) (fun _ => ?_) _)
noncomputable def wV (l:List Int) (v:Int):Option (Int×Bool):=
  (Option.bind (Option.bind (iterN (σ:=Int×Int) (ρ:=Int) (fun s1=>(bif decide (s1.1 < s1.2) then (Option.bind (Z9 .u64 .u64 (IntKind.u64.wrap (IntKind.i64.wrap (s1.1+s1.2))) 1) fun e1=>(Option.bind (ze l (IntKind.i64.wrap e1)) fun e2=>(Option.bind (kR e2 v) fun r1=>(bif r1 then some (.inl ((IntKind.i64.wrap ((IntKind.i64.wrap e1)+1)),s1.2)) else some (.inl (s1.1,(IntKind.i64.wrap e1))))))) else some (.inr s1.1))) 40 (0,(l.length:Int))) (fun (y1:Int)=>some y1)) fun (v1:Int)=>(Option.bind (bif decide (v1 < (l.length:Int)) then (Option.bind (ze l v1) fun e3=>(bif (e3 == v) then some true else (Option.bind (yi e3) fun r2=>(bif r2 then (Option.bind (yi v) fun r3=>some r3) else some false)))) else some false) fun v2=>some (v1,v2)))
theorem XS (l:List Int) (v:Int):Le (wV l v) (jd l v):=by
  unfold wV jd
  repeat' (first | with_reducible exact Le.refl _ | with_reducible refine Le.bind ?_ (fun _ => ?_) | with_reducible refine Le.cond _ ?_ ?_ | with_reducible refine Le.forR (fun _ _ => ?_) _ _ | with_reducible refine Le.iter (fun _ => ?_) _ _ | with_reducible refine Le.elim (fun _ => ?_) (fun _ => ?_) _)
noncomputable def zbs (p1:ContractT) (p2:Int) (p3:List Int) (p4:Nat) (p5:List Bool) (p6:Nat) (p7:List MarkT) (p8:Nat):Option ((List MarkT)):=
  (Option.bind (wV p1.off p2) fun r1=>(Option.bind (Option.bind (jL p1 p2 p3 p4 p5 p6 p7 p8) fun r2=>(Option.bind (forR (σ:=(List MarkT)) (ρ:=(List MarkT)) (p8:Int) (fun i1 s1=>(Option.bind (Option.bind (zk p8 (i1:Int)) fun k1=>(Option.bind (s1[k1]?) fun e1=>(Option.bind (jb e1) fun r3=>(bif r3 then (Option.bind (Option.bind (ze p1.clauses (i1:Int)) fun e2=>(Option.bind (Option.bind (zk p8 (i1:Int)) fun k2=>(Option.bind (s1[k2]?) fun e3=>(bif e3.paused then some true else (bif e2.business then some r1.2 else some false)))) fun v1=>(bif v1 then some s1 else (Option.bind (zk p8 (i1:Int)) fun k3=>(Option.bind (s1[k3]?) fun e4=>(Option.bind (zk p8 (i1:Int)) fun k4=>(Option.bind ((s1.set k3 ({e4 with left:=(IntKind.i64.wrap (e4.left - 1))}:MarkT))[k4]?) fun e5=>(bif (e5.left == 0) then (Option.bind (bif (e2.kind == (0:Int)) then none else (bif (e2.kind == (1:Int)) then (Option.bind (Xv (i1:Int) p1 p2 p3 p4 p5 p6 (s1.set k3 ({e4 with left:=(IntKind.i64.wrap (e4.left - 1))}:MarkT)) p8) fun r7=>some r7) else (bif (e2.kind == (2:Int)) then (Option.bind (xN (i1:Int) p1 p2 p3 p4 p5 p6 (s1.set k3 ({e4 with left:=(IntKind.i64.wrap (e4.left - 1))}:MarkT)) p8) fun r6=>some r6) else (bif (e2.kind == (3:Int)) then (Option.bind (kb (i1:Int) p1 p2 p3 p4 p5 p6 (s1.set k3 ({e4 with left:=(IntKind.i64.wrap (e4.left - 1))}:MarkT)) p8) fun r5=>some r5) else (bif (e2.kind == (4:Int)) then (Option.bind (kb (i1:Int) p1 p2 p3 p4 p5 p6 (s1.set k3 ({e4 with left:=(IntKind.i64.wrap (e4.left - 1))}:MarkT)) p8) fun r4=>some r4) else none))))) fun v2=>some v2) else some (s1.set k3 ({e4 with left:=(IntKind.i64.wrap (e4.left - 1))}:MarkT)))))))))) fun (v3:(List MarkT))=>some ((!true),v3)) else some (false,s1))))) fun (v4:Bool×(List MarkT))=>(bif v4.1 then some (.inr v4.2) else some (.inl v4.2)))) p7) (Sum.elim (fun (s1:(List MarkT))=>some s1) (fun (y1:(List MarkT))=>some y1)))) fun (v5:(List MarkT))=>(Option.bind (XR p1 (IntKind.i64.wrap (p2+1)) p3 p4 p5 p6 v5 p8) fun r8=>some r8)))
theorem zgV (p1:ContractT) (p2:Int) (p3:List Int) (p4:Nat) (p5:List Bool) (p6:Nat) (p7:List MarkT) (p8:Nat):Le (zbs p1 p2 p3 p4 p5 p6 p7 p8) (d_70a p1 p2 p3 p4 p5 p6 p7 p8):=by
  unfold zbs d_70a
  repeat' (first | with_reducible exact Le.refl _ | with_reducible exact XS _ _ | with_reducible exact Y6 _ _ _ _ _ _ _ _ | with_reducible refine Le.bind ?_ (fun _ => ?_) | with_reducible refine Le.cond _ ?_ ?_ | with_reducible refine Le.forR (fun _ _ => ?_) _ _ | with_reducible refine Le.iter (fun _ => ?_) _ _ | with_reducible refine Le.elim (fun _ => ?_) (fun _ => ?_) _)
noncomputable def zbt (p1:Int) (p2:ContractT) (p3:Int) (p4:List Int) (p5:Nat) (p6:List Bool) (p7:Nat) (p8:List MarkT) (p9:Nat):Option ((List Int)×(List Bool)×(List MarkT)):=
  (Option.bind (ze p2.acts p1) fun e1=>(Option.bind (bif (e1.kind == 1) then some false else (Option.bind (zk p7 p1) fun k1=>(Option.bind (p6[k1]?) fun e2=>some e2))) fun v1=>(bif v1 then some (p4,p6,p8) else (Option.bind (Option.bind (jL p2 p3 p4 p5 p6 p7 p8 p9) fun r1=>(Option.bind (forR (σ:=(List MarkT)) (ρ:=(List MarkT)) (p9:Int) (fun i1 s1=>(Option.bind (Option.bind (zk p9 (i1:Int)) fun k2=>(Option.bind (s1[k2]?) fun e3=>(Option.bind (jb e3) fun r2=>(bif r2 then (Option.bind (Option.bind (ze p2.clauses (i1:Int)) fun e4=>(bif (p1 == e4.pause) then (Option.bind (zk p9 (i1:Int)) fun k3=>(Option.bind (s1[k3]?) fun e5=>some (s1.set k3 ({e5 with paused:=true}:MarkT)))) else (Option.bind (ze p2.clauses (i1:Int)) fun e6=>(bif (p1 == e6.resume) then (Option.bind (zk p9 (i1:Int)) fun k4=>(Option.bind (s1[k4]?) fun e7=>some (s1.set k4 ({e7 with paused:=false}:MarkT)))) else some s1)))) fun (v2:(List MarkT))=>some ((!true),v2)) else some (false,s1))))) fun (v3:Bool×(List MarkT))=>(bif v3.1 then some (.inr v3.2) else some (.inl v3.2)))) p8) (Sum.elim (fun (s1:(List MarkT))=>some s1) (fun (y1:(List MarkT))=>some y1)))) fun (v4:(List MarkT))=>(Option.bind (eqN p5 p4.length) fun g1=>(Option.bind (eqN p7 p6.length) fun g2=>(Option.bind (eqN p9 v4.length) fun g3=>(Option.bind (kS p2 ({day:=p3,holders:=p4,used:=p6,marks:=v4}:StateT) p1) fun r3=>(Option.bind (Option.bind (jL p2 p3 p4 p5 p6 p7 v4 p9) fun r4=>(Option.bind (forR (σ:=(List MarkT)) (ρ:=(List MarkT)) (p9:Int) (fun i2 s2=>(Option.bind (Option.bind (zk p9 (i2:Int)) fun k5=>(Option.bind (s2[k5]?) fun e8=>(Option.bind (jb e8) fun r5=>(bif r5 then (Option.bind (Option.bind (ze p2.clauses (i2:Int)) fun e9=>(Option.bind (bif (e9.act == p1) then (bif (e9.kind == 4) then some true else (Option.bind (zk p9 (i2:Int)) fun k6=>(Option.bind (s2[k6]?) fun e10=>some (e10.bearer == r3)))) else some false) fun v5=>(bif v5 then (Option.bind (bif (e9.kind == (0:Int)) then none else (bif (e9.kind == (1:Int)) then (Option.bind (Xx (i2:Int) p2 p3 p4 p5 p6 p7 s2 p9) fun r9=>some r9) else (bif (e9.kind == (2:Int)) then (Option.bind (Xw (i2:Int) p2 p3 p4 p5 p6 p7 s2 p9) fun r8=>some r8) else (bif (e9.kind == (3:Int)) then (Option.bind (xN (i2:Int) p2 p3 p4 p5 p6 p7 s2 p9) fun r7=>some r7) else (bif (e9.kind == (4:Int)) then (Option.bind (xN (i2:Int) p2 p3 p4 p5 p6 p7 s2 p9) fun r6=>some r6) else none))))) fun v6=>some v6) else some s2))) fun (v7:(List MarkT))=>some ((!true),v7)) else some (false,s2))))) fun (v8:Bool×(List MarkT))=>(bif v8.1 then some (.inr v8.2) else some (.inl v8.2)))) v4) (Sum.elim (fun (s2:(List MarkT))=>some s2) (fun (y2:(List MarkT))=>some y2)))) fun (v9:(List MarkT))=>(Option.bind (bif (e1.kind == 1) then some (p4,p6,v9) else (Option.bind (Xy p1 p2 p3 p4 p5 p6 p7 v9 p9) fun r10=>some (r10.1,r10.2.1,r10.2.2))) fun (v10:(List Int)×(List Bool)×(List MarkT))=>(Option.bind (XR p2 p3 v10.1 p5 v10.2.1 p7 v10.2.2 p9) fun r11=>some (v10.1,v10.2.1,r11))))))))))))
theorem zgW (p1:Int) (p2:ContractT) (p3:Int) (p4:List Int) (p5:Nat) (p6:List Bool) (p7:Nat) (p8:List MarkT) (p9:Nat):Le (zbt p1 p2 p3 p4 p5 p6 p7 p8 p9) (Zy p1 p2 p3 p4 p5 p6 p7 p8 p9):=by
  unfold zbt Zy
  repeat' (first | with_reducible exact Le.refl _ | with_reducible exact Y6 _ _ _ _ _ _ _ _ | with_reducible refine Le.bind ?_ (fun _ => ?_) | with_reducible refine Le.cond _ ?_ ?_ | with_reducible refine Le.forR (fun _ _ => ?_) _ _ | with_reducible refine Le.iter (fun _ => ?_) _ _ | with_reducible refine Le.elim (fun _ => ?_) (fun _ => ?_) _)
noncomputable def yN (c:ContractT) (s:StateT) (step:Int):Option (StateT×Int):=
  (Option.bind (Option.bind (qI c s) fun r1=>(bif r1 then (bif decide (step < (-1)) then some true else some (decide ((c.acts.length:Int)≤step))) else some true)) fun v1=>(bif v1 then some (({day:=0,holders:=[],used:=[],marks:=[]}:StateT),1) else (bif (s.day == c.days) then some (({day:=0,holders:=[],used:=[],marks:=[]}:StateT),13) else (Option.bind (mkN 8 (s.holders.length:Int)) fun k1=>(Option.bind (mkN 1 (s.used.length:Int)) fun k2=>(Option.bind (mkN 40 (s.marks.length:Int)) fun k3=>(Option.bind (j7 (α:=Int) k1 (List.replicate k1 0) s.holders) fun e1=>(Option.bind (j7 (α:=Bool) k2 (List.replicate k2 false) s.used) fun e2=>(Option.bind (j7 (α:=MarkT) k3 (List.replicate k3 ({status:=0,left:=0,got:=0,bearer:=0,paused:=false}:MarkT)) s.marks) fun e3=>(Option.bind (bif (step == (-1)) then (Option.bind (zbs c s.day e1 k1 e2 k2 e3 k3) fun r2=>some (e1,e2,r2,(IntKind.i64.wrap (s.day+1)))) else (Option.bind (zbt step c s.day e1 k1 e2 k2 e3 k3) fun r3=>some (r3.1,r3.2.1,r3.2.2,s.day))) fun (v2:(List Int)×(List Bool)×(List MarkT)×Int)=>(Option.bind (eqN k1 v2.1.length) fun g1=>(Option.bind (eqN k2 v2.2.1.length) fun g2=>(Option.bind (eqN k3 v2.2.2.1.length) fun g3=>some (({day:=v2.2.2.2,holders:=v2.1,used:=v2.2.1,marks:=v2.2.2.1}:StateT),0))))))))))))))
theorem Wz (c:ContractT) (s:StateT) (step:Int):Le (yN c s step) (d_Step c s step):=by
  unfold yN d_Step
  repeat' (first | with_reducible exact Le.refl _ | with_reducible exact zgV _ _ _ _ _ _ _ _ | with_reducible exact zgW _ _ _ _ _ _ _ _ _ | with_reducible refine Le.bind ?_ (fun _ => ?_) | with_reducible refine Le.cond _ ?_ ?_ | with_reducible refine Le.forR (fun _ _ => ?_) _ _ | with_reducible refine Le.iter (fun _ => ?_) _ _ | with_reducible refine Le.elim (fun _ => ?_) (fun _ => ?_) _)
noncomputable def XU (c:ContractT) (party:Int) (p:PosT):Option (ArenaT×Int):=
  (Option.bind (jJ c party p) fun r1=>(bif r1 then (Option.bind (jK p.state) fun r2=>(Option.bind (wp p) fun r3=>(Option.bind (α:=((List PosT)×(List (List MoveT))) ⊕ Unit) (Option.bind (iterN (σ:=Int×(List PosT)×(List (List MoveT))×(List (ByteArray×Int))) (ρ:=((List PosT)×(List (List MoveT))) ⊕ Unit) (fun s1=>(bif decide (s1.1 < (s1.2.1.length:Int)) then (Option.bind (α:=((List PosT)×(List (ByteArray×Int))×(List MoveT)) ⊕ Unit) (Option.bind (ze s1.2.1 s1.1) fun e1=>(Option.bind (Xt c party e1) fun r4=>(Option.bind (α:=((List PosT)×(List (ByteArray×Int))×(List MoveT)) ⊕ (Unit ⊕ ((List PosT)×(List (ByteArray×Int))×(List MoveT)))) (bif e1.own then (Option.bind (jK e1.state) fun r5=>(Option.bind (wp ({state:=r5,own:=false}:PosT)) fun r6=>(Option.bind (α:=(Int×(List PosT)×(List (ByteArray×Int))) ⊕ Unit) (bif ((zp r6 s1.2.2.2).isSome) then some (.inl (((zp r6 s1.2.2.2).getD 0),s1.2.1,s1.2.2.2)) else (bif ((s1.2.1.length:Int) == 1500) then some (.inr ()) else (Option.bind (zQ (α:=PosT) 88 s1.2.1 [({state:=r5,own:=false}:PosT)]) fun e2=>some (.inl ((s1.2.1.length:Int),e2,(zU r6 (s1.2.1.length:Int) s1.2.2.2)))))) (Sum.elim (fun (v1:Int×(List PosT)×(List (ByteArray×Int)))=>(Option.bind (zQ (α:=MoveT) 16 [] [({step:=(-2),to:=v1.1}:MoveT)]) fun e3=>(bif decide (c.days≤e1.state.day) then some (.inr (.inr (v1.2.1,v1.2.2,e3))) else some (.inl (v1.2.1,v1.2.2,e3))))) (fun (y1:Unit)=>some (.inr (.inl ()))))))) else (bif decide (c.days≤e1.state.day) then some (.inr (.inr (s1.2.1,s1.2.2.2,[]))) else some (.inl (s1.2.1,s1.2.2.2,[])))) (Sum.elim (fun (v2:(List PosT)×(List (ByteArray×Int))×(List MoveT))=>(Option.bind (α:=((List PosT)×(List (ByteArray×Int))×(List MoveT)) ⊕ Unit) (bif e1.own then some (.inl (v2.1,v2.2.1,v2.2.2)) else (Option.bind (yN c e1.state (-1)) fun r7=>(Option.bind (wp ({state:=r7.1,own:=true}:PosT)) fun r8=>(Option.bind (α:=(Int×(List PosT)×(List (ByteArray×Int))) ⊕ Unit) (bif ((zp r8 v2.2.1).isSome) then some (.inl (((zp r8 v2.2.1).getD 0),v2.1,v2.2.1)) else (bif ((v2.1.length:Int) == 1500) then some (.inr ()) else (Option.bind (zQ (α:=PosT) 88 v2.1 [({state:=r7.1,own:=true}:PosT)]) fun e4=>some (.inl ((v2.1.length:Int),e4,(zU r8 (v2.1.length:Int) v2.2.1)))))) (Sum.elim (fun (v3:Int×(List PosT)×(List (ByteArray×Int)))=>(Option.bind (zQ (α:=MoveT) 16 v2.2.2 [({step:=(-1),to:=v3.1}:MoveT)]) fun e5=>some (.inl (v3.2.1,v3.2.2,e5)))) (fun (y4:Unit)=>some (.inr ()))))))) (Sum.elim (fun (v4:(List PosT)×(List (ByteArray×Int))×(List MoveT))=>(Option.bind (forR (σ:=(List PosT)×(List (ByteArray×Int))×(List MoveT)) (ρ:=(List PosT)×(List (ByteArray×Int))×(List MoveT)) (c.acts.length:Int) (fun i2 s2=>(Option.bind (α:=((List PosT)×(List (ByteArray×Int))×(List MoveT)) ⊕ Unit) (Option.bind (ze c.acts (i2:Int)) fun e6=>(Option.bind (bif (e6.role == (-1)) then some (-1) else (Option.bind (ze e1.state.holders e6.role) fun e7=>some e7)) fun (v5:Int)=>(bif ((v5 == party) == e1.own) then (Option.bind (yN c e1.state (i2:Int)) fun r9=>(Option.bind (xu r9.1 e1.state) fun r10=>(bif r10 then some (.inl (s2.1,s2.2.1,s2.2.2)) else (Option.bind (wp ({state:=r9.1,own:=true}:PosT)) fun r11=>(Option.bind (α:=(Int×(List PosT)×(List (ByteArray×Int))) ⊕ Unit) (bif ((zp r11 s2.2.1).isSome) then some (.inl (((zp r11 s2.2.1).getD 0),s2.1,s2.2.1)) else (bif ((s2.1.length:Int) == 1500) then some (.inr ()) else (Option.bind (zQ (α:=PosT) 88 s2.1 [({state:=r9.1,own:=true}:PosT)]) fun e8=>some (.inl ((s2.1.length:Int),e8,(zU r11 (s2.1.length:Int) s2.2.1)))))) (Sum.elim (fun (v6:Int×(List PosT)×(List (ByteArray×Int)))=>(Option.bind (zQ (α:=MoveT) 16 s2.2.2 [({step:=(i2:Int),to:=v6.1}:MoveT)]) fun e9=>some (.inl (v6.2.1,v6.2.2,e9)))) (fun (y6:Unit)=>some (.inr ())))))))) else some (.inl (s2.1,s2.2.1,s2.2.2))))) (Sum.elim (fun (v7:(List PosT)×(List (ByteArray×Int))×(List MoveT))=>some (.inl (v7.1,v7.2.1,v7.2.2))) (fun (y7:Unit)=>some (.inr (s2.1,s2.2.1,s2.2.2)))))) (v4.1,v4.2.1,v4.2.2)) (Sum.elim (fun (s2:(List PosT)×(List (ByteArray×Int))×(List MoveT))=>some (.inl (s2.1,s2.2.1,s2.2.2))) (fun (y8:(List PosT)×(List (ByteArray×Int))×(List MoveT))=>some (.inr ()))))) (fun (y5:Unit)=>some (.inr ()))))) (Sum.elim (fun (y2:Unit)=>some (.inr ())) (fun (y3:(List PosT)×(List (ByteArray×Int))×(List MoveT))=>some (.inl (y3.1,y3.2.1,y3.2.2)))))))) (Sum.elim (fun (v8:(List PosT)×(List (ByteArray×Int))×(List MoveT))=>(Option.bind (zQ (α:=List MoveT) 24 s1.2.2.1 [v8.2.2]) fun e10=>some (.inl ((IntKind.i64.wrap (s1.1+1)),v8.1,e10,v8.2.1)))) (fun (y9:Unit)=>some (.inr (.inr ()))))) else some (.inr (.inl (s1.2.1,s1.2.2.1))))) 40 (0,[({state:=r2,own:=p.own}:PosT)],[],(zU r3 0 []))) (Sum.elim (fun (y10:(List PosT)×(List (List MoveT)))=>some (.inl (y10.1,y10.2))) (fun (y11:Unit)=>some (.inr ())))) (Sum.elim (fun (v9:(List PosT)×(List (List MoveT)))=>some (({party:=party,positions:=v9.1,moves:=v9.2}:ArenaT),0)) (fun (y12:Unit)=>some (({party:=0,positions:=[],moves:=[]}:ArenaT),3)))))) else some (({party:=0,positions:=[],moves:=[]}:ArenaT),1)))
theorem zaj (c:ContractT) (party:Int) (p:PosT):Le (XU c party p) (xG c party p):=by
  unfold XU xG
  repeat' (first | with_reducible exact Le.refl _ | with_reducible exact Q6 _ | with_reducible exact Wz _ _ _ | with_reducible refine Le.bind ?_ (fun _ => ?_) | with_reducible refine Le.cond _ ?_ ?_ | with_reducible refine Le.forR (fun _ _ => ?_) _ _ | with_reducible refine Le.iter (fun _ => ?_) _ _ | with_reducible refine Le.elim (fun _ => ?_) (fun _ => ?_) _)
noncomputable def Q7 (c:ContractT) (a:ArenaT):Option (List Int):=
  (Option.bind (jh c a) fun r1=>(bif r1 then (Option.bind (mkN 8 (a.positions.length:Int)) fun k1=>(Option.bind (mkN 8 (a.positions.length:Int)) fun k2=>(Option.bind (mkN 24 (a.positions.length:Int)) fun k3=>(Option.bind (forR (σ:=(List Int)×(List Int)×(List (List Int))×(List Int)) (ρ:=Unit) (a.positions.length:Int) (fun i1 s1=>(Option.bind (Option.bind (ze a.positions (i1:Int)) fun e1=>(Option.bind (ze a.moves (i1:Int)) fun e2=>(Option.bind (zk k1 (i1:Int)) fun k4=>(Option.bind (s1.1[k4]?) fun e3=>(Option.bind (zk k2 (i1:Int)) fun k5=>(Option.bind (s1.2.1[k5]?) fun e4=>(Option.bind (ze a.moves (i1:Int)) fun e5=>(Option.bind (forR (σ:=(List (List Int))) (ρ:=Unit) (e5.length:Int) (fun i2 s2=>(Option.bind (ze e5 (i2:Int)) fun e6=>(Option.bind (xZ s2 k3 e6.to (i1:Int)) fun v1=>some (.inl v1)))) s1.2.2.1) (Sum.elim (fun (s2:(List (List Int)))=>(Option.bind (Qk c e1.state a.party) fun r2=>(bif r2 then (Option.bind (zk k1 (i1:Int)) fun k6=>(Option.bind ((s1.1.set k4 (-1))[k6]?) fun e7=>(Option.bind (vN (i1:Int) s1.2.2.2 0) fun r3=>some (((s1.1.set k4 (-1)).set k6 0),(s1.2.1.set k5 (e2.length:Int)),s2,r3)))) else some ((s1.1.set k4 (-1)),(s1.2.1.set k5 (e2.length:Int)),s2,s1.2.2.2)))) (fun _=>none)))))))))) fun (v2:(List Int)×(List Int)×(List (List Int))×(List Int))=>some (.inl (v2.1,v2.2.1,v2.2.2.1,v2.2.2.2)))) ((List.replicate k1 0),(List.replicate k2 0),(List.replicate k3 []),[])) (Sum.elim (fun (s1:(List Int)×(List Int)×(List (List Int))×(List Int))=>(Option.bind (forR (σ:=(List Int)×(List Int)) (ρ:=Unit) (a.positions.length:Int) (fun i3 s3=>(Option.bind (Option.bind (ze a.positions (i3:Int)) fun e8=>(Option.bind (bif e8.own then (Option.bind (zk k2 (i3:Int)) fun k7=>(Option.bind (s1.2.1[k7]?) fun e9=>(bif (e9 == 0) then (Option.bind (zk k1 (i3:Int)) fun k8=>(Option.bind (s3.1[k8]?) fun e10=>some (e10 == (-1)))) else some false))) else some false) fun v3=>(bif v3 then (Option.bind (vO (i3:Int) 1 s3.1 k1 s3.2 0) fun r4=>some (r4.2,r4.1)) else some (s3.1,s3.2)))) fun (v4:(List Int)×(List Int))=>some (.inl (v4.1,v4.2)))) (s1.1,s1.2.2.2)) (Sum.elim (fun (s3:(List Int)×(List Int))=>(Option.bind (Option.bind (xj s3.2 0) fun r5=>(Option.bind (iterN (σ:=Int×Bool×(List Int)×(List Int)×(List Int)×Int) (ρ:=(List Int)) (fun s4=>(bif s4.2.1 then (Option.bind (zk k3 s4.1) fun k9=>(Option.bind (s1.2.2.1[k9]?) fun e11=>(Option.bind (forR (σ:=(List Int)×(List Int)×(List Int)) (ρ:=Unit) (e11.length:Int) (fun i5 s5=>(Option.bind (ze e11 (i5:Int)) fun e12=>(Option.bind (kT e12 s4.1 s5.2.1 k2 s5.1 k1 a s5.2.2 s4.2.2.2.2.2) fun r6=>some (.inl (r6.2.1,r6.1,r6.2.2))))) (s4.2.2.1,s4.2.2.2.1,s4.2.2.2.2.1)) (Sum.elim (fun (s5:(List Int)×(List Int)×(List Int))=>(Option.bind (xj s5.2.2 s4.2.2.2.2.2) fun r7=>some (.inl (r7.1,r7.2.1,s5.1,s5.2.1,s5.2.2,r7.2.2)))) (fun _=>none))))) else some (.inr s4.2.2.1))) 40 (r5.1,r5.2.1,s3.1,s1.2.1,s3.2,r5.2.2)) (fun (y1:(List Int))=>some y1))) fun (v5:(List Int))=>(Option.bind (eqN k1 v5.length) fun g1=>some v5))) (fun _=>none)))) (fun _=>none)))))) else some []))
theorem Y7 (c:ContractT) (a:ArenaT):Le (Q7 c a) (jy c a):=by
  unfold Q7 jy
  repeat' (first | with_reducible exact Le.refl _ | with_reducible refine Le.bind ?_ (fun _ => ?_) | with_reducible refine Le.cond _ ?_ ?_ | with_reducible refine Le.forR (fun _ _ => ?_) _ _ | with_reducible refine Le.iter (fun _ => ?_) _ _ | with_reducible refine Le.elim (fun _ => ?_) (fun _ => ?_) _)
noncomputable def Y8 (c:ContractT) (a:ArenaT):Option (List Bool):=
  (Option.bind (Q7 c a) fun r1=>(Option.bind (mkN 1 (r1.length:Int)) fun k1=>(Option.bind (forR (σ:=(List Bool)) (ρ:=Unit) (r1.length:Int) (fun i1 s1=>(Option.bind (ze r1 (i1:Int)) fun e1=>(Option.bind (zk k1 (i1:Int)) fun k2=>(Option.bind (s1[k2]?) fun e2=>some (.inl (s1.set k2 (e1 == (-1)))))))) (List.replicate k1 false)) (Sum.elim (fun (s1:(List Bool))=>(Option.bind (eqN k1 s1.length) fun g1=>some s1)) (fun _=>none)))))
theorem zfu (c:ContractT) (a:ArenaT):Le (Y8 c a) (Xz c a):=by
  unfold Y8 Xz
  repeat' (first | with_reducible exact Le.refl _ | with_reducible exact Y7 _ _ | with_reducible refine Le.bind ?_ (fun _ => ?_) | with_reducible refine Le.cond _ ?_ ?_ | with_reducible refine Le.forR (fun _ _ => ?_) _ _ | with_reducible refine Le.iter (fun _ => ?_) _ _ | with_reducible refine Le.elim (fun _ => ?_) (fun _ => ?_) _)
noncomputable def kp (c:ContractT) (party:Int) (p:PosT):Option (ShieldT×Int):=
  (Option.bind (XU c party p) fun r1=>(bif (r1.2 == 0) then (Option.bind (Y8 c r1.1) fun r2=>(Option.bind (ze r2 0) fun e1=>(bif e1 then (Option.bind (forR (σ:=(List ShieldRowT)) (ρ:=Unit) (r1.1.positions.length:Int) (fun i1 s1=>(Option.bind (Option.bind (ze r1.1.positions (i1:Int)) fun e2=>(Option.bind (ze r2 (i1:Int)) fun e3=>(bif e3 then (Option.bind (Ql r1.1 r2 (i1:Int)) fun r3=>(Option.bind (zQ (α:=ShieldRowT) 96 s1 [({position:=e2,move:=r3}:ShieldRowT)]) fun e4=>some e4)) else some s1))) fun (v1:(List ShieldRowT))=>some (.inl v1))) []) (Sum.elim (fun (s1:(List ShieldRowT))=>some (({party:=party,rows:=s1}:ShieldT),0)) (fun _=>none))) else some (({party:=0,rows:=[]}:ShieldT),13)))) else some (({party:=0,rows:=[]}:ShieldT),r1.2)))
theorem zbu (c:ContractT) (party:Int) (p:PosT):Le (kp c party p) (vP c party p):=by
  unfold kp vP
  repeat' (first | with_reducible exact Le.refl _ | with_reducible exact zaj _ _ _ | with_reducible exact zfu _ _ | with_reducible refine Le.bind ?_ (fun _ => ?_) | with_reducible refine Le.cond _ ?_ ?_ | with_reducible refine Le.forR (fun _ _ => ?_) _ _ | with_reducible refine Le.iter (fun _ => ?_) _ _ | with_reducible refine Le.elim (fun _ => ?_) (fun _ => ?_) _)
noncomputable def Q8 (c:ContractT) (party:Int) (p:PosT):Option (DoomT×Int):=
  (Option.bind (XU c party p) fun r1=>(bif (r1.2 == 0) then (Option.bind (Q7 c r1.1) fun r2=>(Option.bind (ze r2 0) fun e1=>(bif decide (e1 < 0) then some (({party:=0,rows:=[]}:DoomT),13) else (Option.bind (forR (σ:=(List DoomRowT)) (ρ:=Unit) (r1.1.positions.length:Int) (fun i1 s1=>(Option.bind (Option.bind (ze r1.1.positions (i1:Int)) fun e2=>(Option.bind (ze r2 (i1:Int)) fun e3=>(bif decide (0≤e3) then (Option.bind (ze r2 (i1:Int)) fun e4=>(Option.bind (Qm r1.1 r2 (i1:Int)) fun r3=>(Option.bind (zQ (α:=DoomRowT) 104 s1 [({position:=e2,rank:=e4,move:=r3}:DoomRowT)]) fun e5=>some e5))) else some s1))) fun (v1:(List DoomRowT))=>some (.inl v1))) []) (Sum.elim (fun (s1:(List DoomRowT))=>some (({party:=party,rows:=s1}:DoomT),0)) (fun _=>none)))))) else some (({party:=0,rows:=[]}:DoomT),r1.2)))
theorem zek (c:ContractT) (party:Int) (p:PosT):Le (Q8 c party p) (kU c party p):=by
  unfold Q8 kU
  repeat' (first | with_reducible exact Le.refl _ | with_reducible exact zaj _ _ _ | with_reducible exact Y7 _ _ | with_reducible refine Le.bind ?_ (fun _ => ?_) | with_reducible refine Le.cond _ ?_ ?_ | with_reducible refine Le.forR (fun _ _ => ?_) _ _ | with_reducible refine Le.iter (fun _ => ?_) _ _ | with_reducible refine Le.elim (fun _ => ?_) (fun _ => ?_) _)
noncomputable def WA (c:ContractT) (party:Int) (p:PosT):Option ((List Int)×Int):=
  (Option.bind (jJ c party p) fun r1=>(bif r1 then (Option.bind (Option.bind (Xs c party p) fun r2=>(Option.bind (bif p.own then (Option.bind (jK p.state) fun r3=>(Option.bind (zQ (α:=Int) 8 [] [(-2)]) fun e1=>some e1)) else some []) fun (v1:(List Int))=>(bif decide (c.days≤p.state.day) then some v1 else (Option.bind (bif p.own then some v1 else (Option.bind (yN c p.state (-1)) fun r4=>(Option.bind (zQ (α:=Int) 8 v1 [(-1)]) fun e2=>some e2))) fun (v2:(List Int))=>(Option.bind (forR (σ:=(List Int)) (ρ:=(List Int)) (c.acts.length:Int) (fun i1 s1=>(Option.bind (α:=(List Int) ⊕ (List Int)) (Option.bind (ze c.acts (i1:Int)) fun e3=>(Option.bind (bif (e3.role == (-1)) then some (-1) else (Option.bind (ze p.state.holders e3.role) fun e4=>some e4)) fun (v3:Int)=>(bif ((v3 == party) == p.own) then (Option.bind (yN c p.state (i1:Int)) fun r5=>(Option.bind (Option.bind (xu r5.1 p.state) fun r6=>(bif r6 then some (false,s1) else (Option.bind (zQ (α:=Int) 8 s1 [(i1:Int)]) fun e5=>some ((!true),e5)))) fun (v4:Bool×(List Int))=>(bif v4.1 then some (.inr v4.2) else some (.inl v4.2)))) else some (.inl s1)))) (Sum.elim (fun (v5:(List Int))=>some (.inl v5)) (fun (y1:(List Int))=>some (.inr y1))))) v2) (Sum.elim (fun (s1:(List Int))=>some s1) (fun (y2:(List Int))=>some y2))))))) fun (v6:(List Int))=>some (v6,0)) else some ([],1)))
theorem zel (c:ContractT) (party:Int) (p:PosT):Le (WA c party p) (wM c party p):=by
  unfold WA wM
  repeat' (first | with_reducible exact Le.refl _ | with_reducible exact Wz _ _ _ | with_reducible refine Le.bind ?_ (fun _ => ?_) | with_reducible refine Le.cond _ ?_ ?_ | with_reducible refine Le.forR (fun _ _ => ?_) _ _ | with_reducible refine Le.iter (fun _ => ?_) _ _ | with_reducible refine Le.elim (fun _ => ?_) (fun _ => ?_) _)
noncomputable def XV (p1:PosT) (p2:Int) (p3:ContractT) (p4:Int) (p5:List (ByteArray×Int)):Option (Int×Bool):=
  (Option.bind (bif (p2 == (-2)) then some (p1.state.day,p1.state.holders,p1.state.used,p1.state.marks) else (Option.bind (yN p3 p1.state p2) fun r1=>some (r1.1.day,r1.1.holders,r1.1.used,r1.1.marks))) fun (v1:Int×(List Int)×(List Bool)×(List MarkT))=>(Option.bind (wp ({state:=({day:=v1.1,holders:=v1.2.1,used:=v1.2.2.1,marks:=v1.2.2.2}:StateT),own:=(!(p2 == (-2)))}:PosT)) fun r2=>some (((zp r2 p5).getD 0),(zp r2 p5).isSome)))
theorem zak (p1:PosT) (p2:Int) (p3:ContractT) (p4:Int) (p5:List (ByteArray×Int)):Le (XV p1 p2 p3 p4 p5) (wl p1 p2 p3 p4 p5):=by
  unfold XV wl
  repeat' (first | with_reducible exact Le.refl _ | with_reducible exact Wz _ _ _ | with_reducible exact Q6 _ | with_reducible refine Le.bind ?_ (fun _ => ?_) | with_reducible refine Le.cond _ ?_ ?_ | with_reducible refine Le.forR (fun _ _ => ?_) _ _ | with_reducible refine Le.iter (fun _ => ?_) _ _ | with_reducible refine Le.elim (fun _ => ?_) (fun _ => ?_) _)
noncomputable def XW (p1:PosT) (p2:ContractT) (p3:Int) (p4:List (ByteArray×Int)):Option ((List Int)):=
  (Option.bind (WA p2 p3 p1) fun r1=>some r1.1)
theorem zal (p1:PosT) (p2:ContractT) (p3:Int) (p4:List (ByteArray×Int)):Le (XW p1 p2 p3 p4) (vQ p1 p2 p3 p4):=by
  unfold XW vQ
  repeat' (first | with_reducible exact Le.refl _ | with_reducible exact zel _ _ _ | with_reducible refine Le.bind ?_ (fun _ => ?_) | with_reducible refine Le.cond _ ?_ ?_ | with_reducible refine Le.forR (fun _ _ => ?_) _ _ | with_reducible refine Le.iter (fun _ => ?_) _ _ | with_reducible refine Le.elim (fun _ => ?_) (fun _ => ?_) _)
noncomputable def XX (p1:Int) (p2:PosT) (p3:ContractT) (p4:Int) (p5:List (ByteArray×Int)):Option (Bool):=
  (Option.bind (XV p2 p1 p3 p4 p5) fun r1=>some (!r1.2))
theorem zam (p1:Int) (p2:PosT) (p3:ContractT) (p4:Int) (p5:List (ByteArray×Int)):Le (XX p1 p2 p3 p4 p5) (yD p1 p2 p3 p4 p5):=by
  unfold XX yD
  repeat' (first | with_reducible exact Le.refl _ | with_reducible exact zak _ _ _ _ _ | with_reducible refine Le.bind ?_ (fun _ => ?_) | with_reducible refine Le.cond _ ?_ ?_ | with_reducible refine Le.forR (fun _ _ => ?_) _ _ | with_reducible refine Le.iter (fun _ => ?_) _ _ | with_reducible refine Le.elim (fun _ => ?_) (fun _ => ?_) _)
noncomputable def zbv (p1:List Int) (p2:PosT) (p3:ContractT) (p4:Int) (p5:List (ByteArray×Int)):Option (Int):=
  (Option.bind (forR (σ:=Unit) (ρ:=Int) (p1.length:Int) (fun i1 s1=>(Option.bind (zk p1.length (i1:Int)) fun k1=>(Option.bind (p1[k1]?) fun e1=>(Option.bind (XX e1 p2 p3 p4 p5) fun r1=>(bif r1 then some (.inr (i1:Int)) else some (.inl ())))))) ()) (Sum.elim (fun (s1:Unit)=>some (-1)) (fun (y1:Int)=>some y1)))
theorem zgX (p1:List Int) (p2:PosT) (p3:ContractT) (p4:Int) (p5:List (ByteArray×Int)):Le (zbv p1 p2 p3 p4 p5) (XB p1 p2 p3 p4 p5):=by
  unfold zbv XB
  repeat' (first | with_reducible exact Le.refl _ | with_reducible exact zam _ _ _ _ _ | with_reducible refine Le.bind ?_ (fun _ => ?_) | with_reducible refine Le.cond _ ?_ ?_ | with_reducible refine Le.forR (fun _ _ => ?_) _ _ | with_reducible refine Le.iter (fun _ => ?_) _ _ | with_reducible refine Le.elim (fun _ => ?_) (fun _ => ?_) _)
noncomputable def zbw (p1:List Int) (p2:PosT) (p3:ContractT) (p4:Int) (p5:List (ByteArray×Int)):Option (Int):=
  (Option.bind (forR (σ:=Unit) (ρ:=Int) (p1.length:Int) (fun i1 s1=>(Option.bind (ze p1 (i1:Int)) fun e1=>(Option.bind (XX e1 p2 p3 p4 p5) fun r1=>(bif r1 then some (.inr (i1:Int)) else some (.inl ()))))) ()) (Sum.elim (fun (s1:Unit)=>some (-1)) (fun (y1:Int)=>some y1)))
theorem zgY (p1:List Int) (p2:PosT) (p3:ContractT) (p4:Int) (p5:List (ByteArray×Int)):Le (zbw p1 p2 p3 p4 p5) (XD p1 p2 p3 p4 p5):=by
  unfold zbw XD
  repeat' (first | with_reducible exact Le.refl _ | with_reducible exact zam _ _ _ _ _ | with_reducible refine Le.bind ?_ (fun _ => ?_) | with_reducible refine Le.cond _ ?_ ?_ | with_reducible refine Le.forR (fun _ _ => ?_) _ _ | with_reducible refine Le.iter (fun _ => ?_) _ _ | with_reducible refine Le.elim (fun _ => ?_) (fun _ => ?_) _)
noncomputable def zbx (p1:List Int) (p2:PosT) (p3:ContractT) (p4:Int) (p5:List (ByteArray×Int)):Option (Bool):=
  (Option.bind (zbv p1 p2 p3 p4 p5) fun r1=>some (decide (0≤r1)))
theorem zgZ (p1:List Int) (p2:PosT) (p3:ContractT) (p4:Int) (p5:List (ByteArray×Int)):Le (zbx p1 p2 p3 p4 p5) (XC p1 p2 p3 p4 p5):=by
  unfold zbx XC
  repeat' (first | with_reducible exact Le.refl _ | with_reducible exact zgX _ _ _ _ _ | with_reducible refine Le.bind ?_ (fun _ => ?_) | with_reducible refine Le.cond _ ?_ ?_ | with_reducible refine Le.forR (fun _ _ => ?_) _ _ | with_reducible refine Le.iter (fun _ => ?_) _ _ | with_reducible refine Le.elim (fun _ => ?_) (fun _ => ?_) _)
noncomputable def zby (p1:List Int) (p2:PosT) (p3:ContractT) (p4:Int) (p5:List (ByteArray×Int)):Option (Bool):=
  (Option.bind (zbw p1 p2 p3 p4 p5) fun r1=>some (decide (0≤r1)))
theorem zg0 (p1:List Int) (p2:PosT) (p3:ContractT) (p4:Int) (p5:List (ByteArray×Int)):Le (zby p1 p2 p3 p4 p5) (XE p1 p2 p3 p4 p5):=by
  unfold zby XE
  repeat' (first | with_reducible exact Le.refl _ | with_reducible exact zgY _ _ _ _ _ | with_reducible refine Le.bind ?_ (fun _ => ?_) | with_reducible refine Le.cond _ ?_ ?_ | with_reducible refine Le.forR (fun _ _ => ?_) _ _ | with_reducible refine Le.iter (fun _ => ?_) _ _ | with_reducible refine Le.elim (fun _ => ?_) (fun _ => ?_) _)
noncomputable def Y9 (p1:ShieldW) (p2:Int) (p3:ContractT) (p4:Int) (p5:List (ByteArray×Int)):Option (Bool):=
  (Option.bind (ze p1.s.rows p2) fun e1=>(Option.bind (xP p3 e1.position.state p4) fun r1=>(bif r1 then some false else (Option.bind (XW e1.position p3 p4 p5) fun r2=>(bif e1.position.own then (Option.bind (jN r2 e1.move) fun r3=>(bif r3 then (Option.bind (zbx [e1.move] e1.position p3 p4 p5) fun r4=>some (!r4)) else some false)) else (Option.bind (zby r2 e1.position p3 p4 p5) fun r5=>some (!r5)))))))
theorem zfv (p1:ShieldW) (p2:Int) (p3:ContractT) (p4:Int) (p5:List (ByteArray×Int)):Le (Y9 p1 p2 p3 p4 p5) (Qo p1 p2 p3 p4 p5):=by
  unfold Y9 Qo
  repeat' (first | with_reducible exact Le.refl _ | with_reducible exact zal _ _ _ _ | with_reducible exact zgZ _ _ _ _ _ | with_reducible exact zg0 _ _ _ _ _ | with_reducible refine Le.bind ?_ (fun _ => ?_) | with_reducible refine Le.cond _ ?_ ?_ | with_reducible refine Le.forR (fun _ _ => ?_) _ _ | with_reducible refine Le.iter (fun _ => ?_) _ _ | with_reducible refine Le.elim (fun _ => ?_) (fun _ => ?_) _)
noncomputable def Ka (p1:ContractT) (p2:ShieldW):Option (Bool):=
  (Option.bind (Qn p2) fun r1=>(Option.bind (bif decide (r1 < 0) then some true else (bif decide (p1.parties≤r1) then some true else (Option.bind (jM p2) fun r2=>(bif decide (r2 < 1) then some true else (Option.bind (jM p2) fun r3=>some (decide (1500 < r3))))))) fun v1=>(bif v1 then some false else (Option.bind (jM p2) fun r4=>(Option.bind (forR (σ:=(List (ByteArray×Int))) (ρ:=Unit) r4 (fun i1 s1=>(Option.bind (α:=(List (ByteArray×Int)) ⊕ Unit) (Option.bind (Wl p2 (i1:Int)) fun r5=>(Option.bind (qI p1 r5.1.state) fun r6=>(bif r6 then (Option.bind (wp r5.1) fun r7=>(Option.bind (bif ((zp r7 s1).isSome) then some (decide (r5.2 < ((zp r7 s1).getD 0))) else some true) fun v2=>(bif v2 then some (.inl (zU r7 r5.2 s1)) else some (.inl s1)))) else some (.inr ())))) (Sum.elim (fun (v3:(List (ByteArray×Int)))=>some (.inl v3)) (fun (y1:Unit)=>some (.inr ()))))) []) (Sum.elim (fun (s1:(List (ByteArray×Int)))=>(Option.bind (jM p2) fun r8=>(Option.bind (forR (σ:=Unit) (ρ:=Unit) r8 (fun i2 s2=>(Option.bind (Y9 p2 (i2:Int) p1 r1 s1) fun r9=>(bif r9 then some (.inl ()) else some (.inr ())))) ()) (Sum.elim (fun (s2:Unit)=>some true) (fun (y3:Unit)=>some false))))) (fun (y2:Unit)=>some false)))))))
theorem zfw (p1:ContractT) (p2:ShieldW):Le (Ka p1 p2) (Qp p1 p2):=by
  unfold Ka Qp
  repeat' (first | with_reducible exact Le.refl _ | with_reducible exact Q6 _ | with_reducible exact zfv _ _ _ _ _ | with_reducible refine Le.bind ?_ (fun _ => ?_) | with_reducible refine Le.cond _ ?_ ?_ | with_reducible refine Le.forR (fun _ _ => ?_) _ _ | with_reducible refine Le.iter (fun _ => ?_) _ _ | with_reducible refine Le.elim (fun _ => ?_) (fun _ => ?_) _)
noncomputable def jR (c:ContractT) (s:ShieldT):Option (Bool):=
  (Option.bind (Ka c ({s:=s}:ShieldW)) fun r1=>some r1)
theorem WB (c:ContractT) (s:ShieldT):Le (jR c s) (jj c s):=by
  unfold jR jj
  repeat' (first | with_reducible exact Le.refl _ | with_reducible exact zfw _ _ | with_reducible refine Le.bind ?_ (fun _ => ?_) | with_reducible refine Le.cond _ ?_ ?_ | with_reducible refine Le.forR (fun _ _ => ?_) _ _ | with_reducible refine Le.iter (fun _ => ?_) _ _ | with_reducible refine Le.elim (fun _ => ?_) (fun _ => ?_) _)
noncomputable def XY (p1:PosT) (p2:Int) (p3:Int) (p4:ContractT) (p5:Int) (p6:List (ByteArray×Int)):Option (Bool):=
  (Option.bind (XV p1 p2 p4 p5 p6) fun r1=>(Option.bind (bif r1.2 then some (decide (r1.1 < p3)) else some false) fun v1=>some v1))
theorem zan (p1:PosT) (p2:Int) (p3:Int) (p4:ContractT) (p5:Int) (p6:List (ByteArray×Int)):Le (XY p1 p2 p3 p4 p5 p6) (wm p1 p2 p3 p4 p5 p6):=by
  unfold XY wm
  repeat' (first | with_reducible exact Le.refl _ | with_reducible exact zak _ _ _ _ _ | with_reducible refine Le.bind ?_ (fun _ => ?_) | with_reducible refine Le.cond _ ?_ ?_ | with_reducible refine Le.forR (fun _ _ => ?_) _ _ | with_reducible refine Le.iter (fun _ => ?_) _ _ | with_reducible refine Le.elim (fun _ => ?_) (fun _ => ?_) _)
noncomputable def Kb (p1:Int) (p2:PosT) (p3:Int) (p4:ContractT) (p5:Int) (p6:List (ByteArray×Int)):Option (Bool):=
  (Option.bind (XY p2 p1 p3 p4 p5 p6) fun r1=>some (!r1))
theorem zfx (p1:Int) (p2:PosT) (p3:Int) (p4:ContractT) (p5:Int) (p6:List (ByteArray×Int)):Le (Kb p1 p2 p3 p4 p5 p6) (kW p1 p2 p3 p4 p5 p6):=by
  unfold Kb kW
  repeat' (first | with_reducible exact Le.refl _ | with_reducible exact zan _ _ _ _ _ _ | with_reducible refine Le.bind ?_ (fun _ => ?_) | with_reducible refine Le.cond _ ?_ ?_ | with_reducible refine Le.forR (fun _ _ => ?_) _ _ | with_reducible refine Le.iter (fun _ => ?_) _ _ | with_reducible refine Le.elim (fun _ => ?_) (fun _ => ?_) _)
noncomputable def zbz (p1:List Int) (p2:PosT) (p3:Int) (p4:ContractT) (p5:Int) (p6:List (ByteArray×Int)):Option (Int):=
  (Option.bind (forR (σ:=Unit) (ρ:=Int) (p1.length:Int) (fun i1 s1=>(Option.bind (ze p1 (i1:Int)) fun e1=>(Option.bind (Kb e1 p2 p3 p4 p5 p6) fun r1=>(bif r1 then some (.inr (i1:Int)) else some (.inl ()))))) ()) (Sum.elim (fun (s1:Unit)=>some (-1)) (fun (y1:Int)=>some y1)))
theorem zg1 (p1:List Int) (p2:PosT) (p3:Int) (p4:ContractT) (p5:Int) (p6:List (ByteArray×Int)):Le (zbz p1 p2 p3 p4 p5 p6) (QV p1 p2 p3 p4 p5 p6):=by
  unfold zbz QV
  repeat' (first | with_reducible exact Le.refl _ | with_reducible exact zfx _ _ _ _ _ _ | with_reducible refine Le.bind ?_ (fun _ => ?_) | with_reducible refine Le.cond _ ?_ ?_ | with_reducible refine Le.forR (fun _ _ => ?_) _ _ | with_reducible refine Le.iter (fun _ => ?_) _ _ | with_reducible refine Le.elim (fun _ => ?_) (fun _ => ?_) _)
noncomputable def zbA (p1:List Int) (p2:PosT) (p3:Int) (p4:ContractT) (p5:Int) (p6:List (ByteArray×Int)):Option (Bool):=
  (Option.bind (zbz p1 p2 p3 p4 p5 p6) fun r1=>some (decide (0≤r1)))
theorem zg2 (p1:List Int) (p2:PosT) (p3:Int) (p4:ContractT) (p5:Int) (p6:List (ByteArray×Int)):Le (zbA p1 p2 p3 p4 p5 p6) (ZB p1 p2 p3 p4 p5 p6):=by
  unfold zbA ZB
  repeat' (first | with_reducible exact Le.refl _ | with_reducible exact zg1 _ _ _ _ _ _ | with_reducible refine Le.bind ?_ (fun _ => ?_) | with_reducible refine Le.cond _ ?_ ?_ | with_reducible refine Le.forR (fun _ _ => ?_) _ _ | with_reducible refine Le.iter (fun _ => ?_) _ _ | with_reducible refine Le.elim (fun _ => ?_) (fun _ => ?_) _)
noncomputable def Kc (p1:DoomW) (p2:Int) (p3:ContractT) (p4:Int) (p5:List (ByteArray×Int)):Option (Bool):=
  (Option.bind (ze p1.d.rows p2) fun e1=>(bif decide (e1.rank≤0) then (Option.bind (bif (e1.rank == 0) then (Option.bind (xP p3 e1.position.state p4) fun r1=>some r1) else some false) fun v1=>some v1) else (Option.bind (XW e1.position p3 p4 p5) fun r2=>(bif e1.position.own then (Option.bind (zbA r2 e1.position e1.rank p3 p4 p5) fun r5=>some (!r5)) else (Option.bind (Option.bind (jN r2 e1.move) fun r3=>(bif r3 then (Option.bind (XY e1.position e1.move e1.rank p3 p4 p5) fun r4=>some r4) else some false)) fun v2=>some v2)))))
theorem zfy (p1:DoomW) (p2:Int) (p3:ContractT) (p4:Int) (p5:List (ByteArray×Int)):Le (Kc p1 p2 p3 p4 p5) (yE p1 p2 p3 p4 p5):=by
  unfold Kc yE
  repeat' (first | with_reducible exact Le.refl _ | with_reducible exact zal _ _ _ _ | with_reducible exact zg2 _ _ _ _ _ _ | with_reducible exact zan _ _ _ _ _ _ | with_reducible refine Le.bind ?_ (fun _ => ?_) | with_reducible refine Le.cond _ ?_ ?_ | with_reducible refine Le.forR (fun _ _ => ?_) _ _ | with_reducible refine Le.iter (fun _ => ?_) _ _ | with_reducible refine Le.elim (fun _ => ?_) (fun _ => ?_) _)
noncomputable def Kd (p1:ContractT) (p2:DoomW):Option (Bool):=
  (Option.bind (Qq p2) fun r1=>(Option.bind (bif decide (r1 < 0) then some true else (bif decide (p1.parties≤r1) then some true else (Option.bind (jq p2) fun r2=>(bif decide (r2 < 1) then some true else (Option.bind (jq p2) fun r3=>some (decide (1500 < r3))))))) fun v1=>(bif v1 then some false else (Option.bind (jq p2) fun r4=>(Option.bind (forR (σ:=(List (ByteArray×Int))) (ρ:=Unit) r4 (fun i1 s1=>(Option.bind (α:=(List (ByteArray×Int)) ⊕ Unit) (Option.bind (kV p2 (i1:Int)) fun r5=>(Option.bind (qI p1 r5.1.state) fun r6=>(bif r6 then (Option.bind (wp r5.1) fun r7=>(Option.bind (bif ((zp r7 s1).isSome) then some (decide (r5.2 < ((zp r7 s1).getD 0))) else some true) fun v2=>(bif v2 then some (.inl (zU r7 r5.2 s1)) else some (.inl s1)))) else some (.inr ())))) (Sum.elim (fun (v3:(List (ByteArray×Int)))=>some (.inl v3)) (fun (y1:Unit)=>some (.inr ()))))) []) (Sum.elim (fun (s1:(List (ByteArray×Int)))=>(Option.bind (jq p2) fun r8=>(Option.bind (forR (σ:=Unit) (ρ:=Unit) r8 (fun i2 s2=>(Option.bind (Kc p2 (i2:Int) p1 r1 s1) fun r9=>(bif r9 then some (.inl ()) else some (.inr ())))) ()) (Sum.elim (fun (s2:Unit)=>some true) (fun (y3:Unit)=>some false))))) (fun (y2:Unit)=>some false)))))))
theorem zfz (p1:ContractT) (p2:DoomW):Le (Kd p1 p2) (kX p1 p2):=by
  unfold Kd kX
  repeat' (first | with_reducible exact Le.refl _ | with_reducible exact Q6 _ | with_reducible exact zfy _ _ _ _ _ | with_reducible refine Le.bind ?_ (fun _ => ?_) | with_reducible refine Le.cond _ ?_ ?_ | with_reducible refine Le.forR (fun _ _ => ?_) _ _ | with_reducible refine Le.iter (fun _ => ?_) _ _ | with_reducible refine Le.elim (fun _ => ?_) (fun _ => ?_) _)
noncomputable def vw (c:ContractT) (d:DoomT):Option (Bool):=
  (Option.bind (Kd c ({d:=d}:DoomW)) fun r1=>some r1)
theorem Ke (c:ContractT) (d:DoomT):Le (vw c d) (qN c d):=by
  unfold vw qN
  repeat' (first | with_reducible exact Le.refl _ | with_reducible exact zfz _ _ | with_reducible refine Le.bind ?_ (fun _ => ?_) | with_reducible refine Le.cond _ ?_ ?_ | with_reducible refine Le.forR (fun _ _ => ?_) _ _ | with_reducible refine Le.iter (fun _ => ?_) _ _ | with_reducible refine Le.elim (fun _ => ?_) (fun _ => ?_) _)
noncomputable def Kf:Option (Bool):=
  (Option.bind (kB) fun r1=>(Option.bind (Wy r1) fun r2=>(Option.bind (kp r1 0 ({state:=r2.1,own:=true}:PosT)) fun r3=>(Option.bind (Q8 r1 0 ({state:=r2.1,own:=true}:PosT)) fun r4=>(Option.bind (Q8 r1 0 ({state:=r2.1,own:=false}:PosT)) fun r5=>(Option.bind (kp r1 0 ({state:=r2.1,own:=false}:PosT)) fun r6=>(Option.bind (bif (r2.2 == 0) then (bif (r3.2 == 0) then (bif (r4.2 == 13) then (bif (r5.2 == 0) then (bif (r6.2 == 13) then (bif ((r3.1.rows.length:Int) == 5) then some (!((r5.1.rows.length:Int) == 3)) else some true) else some true) else some true) else some true) else some true) else some true) fun v1=>(bif v1 then some false else (Option.bind (Option.bind (ze r3.1.rows 0) fun e1=>(bif (e1.move == 0) then (Option.bind (ze r3.1.rows 1) fun e2=>(bif (e2.move == (-2)) then (Option.bind (ze r5.1.rows 0) fun e3=>(bif (e3.rank == 1) then (bif (e3.move == (-1)) then (Option.bind (ze r5.1.rows 1) fun e4=>some (e4.rank == 0)) else some false) else some false)) else some false)) else some false)) fun v2=>(Option.bind (Option.bind (jR r1 r3.1) fun r7=>(bif r7 then (Option.bind (vw r1 r5.1) fun r8=>some r8) else some false)) fun v3=>(Option.bind (kw r3.1.rows 0 4) fun e5=>(Option.bind (Yq (α:=DoomRowT) 104 [] r5.1.rows) fun e6=>(Option.bind (zk e6.length 0) fun k1=>(Option.bind (e6[k1]?) fun e7=>(Option.bind (bif v2 then (bif v3 then (Option.bind (jR r1 ({party:=0,rows:=e5}:ShieldT)) fun r9=>(bif r9 then some false else (Option.bind (vw r1 ({party:=0,rows:=(e6.set k1 ({e7 with move:=0}:DoomRowT))}:DoomT)) fun r10=>(bif r10 then some false else (Option.bind (jR r1 ({party:=0,rows:=[]}:ShieldT)) fun r11=>some (!r11)))))) else some false) else some false) fun v4=>some v4)))))))))))))))
theorem zde:Le Kf yF:=by
  unfold Kf yF
  repeat' (first | with_reducible exact Le.refl _ | with_reducible exact zej _ | with_reducible exact zbu _ _ _ | with_reducible exact zek _ _ _ | with_reducible exact WB _ _ | with_reducible exact Ke _ _ | with_reducible refine Le.bind ?_ (fun _ => ?_) | with_reducible refine Le.cond _ ?_ ?_ | with_reducible refine Le.elim (fun _ => ?_) (fun _ => ?_) _)
theorem zem:yF=some true:=zde true (by kernel_rfl)
end Go.Proofs.YtmoedieenlaegaaGreatDoor
namespace Go.Proofs.YtmoedieenlaegaaGreatDoor
open Go.RowKit
set_option linter.unusedSimpArgs false
set_option linter.unusedVariables false
set_option maxRecDepth 100000
section
theorem Kg {b:Bool}:kA (fun _:Unit=>True) (fun _:Unit=>True) (bif b then (.inr ():Unit ⊕ Unit) else .inl ()):=by cases b<;>trivial
theorem zfA {c:ContractT} (hc:c.Ok) (s:ShieldT) (d:DoomT):Ret (QW c s d) (fun b=>b=true→s.rows.length≤300∧d.rows.length≤300):=by
  unfold QW
  refine Ret.bindE (v := !(VQ c&&(decide (s.rows.length≤300)&&decide (d.rows.length≤300)))) ?_ ?_
  · rw [zgO hc]
    simp only [Option.bind_some]
    cases VQ c with
    | false=>rfl
    | true=>
      by_cases h1:(300:Int) < (s.rows.length:Int)
      · rw [decide_eq_true h1,decide_eq_false (show ¬ s.rows.length≤300 by omega)];rfl
      · rw [decide_eq_false h1,decide_eq_true (show s.rows.length≤300 by omega)]
        by_cases h2:(300:Int) < (d.rows.length:Int)
        · rw [decide_eq_true h2,decide_eq_false (show ¬ d.rows.length≤300 by omega)];rfl
        · rw [decide_eq_false h2,decide_eq_true (show d.rows.length≤300 by omega)];rfl
  refine Ret.ite (fun _=>Ret.some fun h=>by cases h) (fun hb => ?_)
  simp only [Bool.not_eq_false',Bool.and_eq_true,decide_eq_true_eq] at hb
  obtain ⟨_,h1,h2⟩:=hb
  refine Ret.bind (P:=fun _=>True) (Ret.forL (fun _ _=>True) (by omega) trivial (fun i _ hi _ => ?_) (fun _ _=>trivial)) ?_
  · refine Ret.bindE (idxI_at (List.getElem?_eq_getElem hi)) ?_
    simp only [zn,Option.bind_some]
    exact Ret.some Kg
  · rintro (_ | _) _
    · simp only [Sum.elim_inl]
      refine Ret.bind (P:=fun _=>True) (Ret.forL (fun _ _=>True) (by omega) trivial (fun i _ hi _ => ?_) (fun _ _=>trivial)) ?_
      · refine Ret.bindE (idxI_at (List.getElem?_eq_getElem hi)) ?_
        simp only [zn,Option.bind_some]
        exact Ret.some Kg
      · rintro (_ | _) _
        · exact Ret.some fun _=>⟨h1,h2⟩
        · exact Ret.some fun h=>by cases h
    · exact Ret.some fun h=>by cases h
theorem zfB {α:Type} {l:List α} (h:0 < l.length) {raw:Int} (hraw:InK .u16 raw):∃ (i:Nat) (hi:i < l.length) (n:Int),wz .i64 (IntKind.i64.wrap raw) (l.length:Int)=some n∧ze l n=some l[i]:=by
  have hraw':0≤raw∧raw≤65535:=hraw
  rw [qu (by omega) (by omega)]
  have h3:0≤raw.tmod l.length:=Int.tmod_nonneg _ hraw'.1
  have h4:raw.tmod l.length < l.length:=Int.tmod_lt_of_pos _ (by omega)
  obtain ⟨h5,h6⟩:=qU (l:=l) h3 h4
  exact ⟨_,h5,_,by unfold wz;rw [if_neg (by omega)],h6⟩
section
variable {c:ContractT} {party:Int} {p:PosT} {a:ArenaT}
structure DRow (c:ContractT) (party:Int) (r:DoomRowT):Prop where
  rk:r.rank=rkP c party r.position
  lo:0≤r.rank
  mv:0 < r.rank→r.position.own=false→r.move∈zq c party r.position∧0≤rkP c party (target c r.position r.move)∧rkP c party (target c r.position r.move) < r.rank
end
end
theorem ZN (c:ContractT) (d:DoomT) (raw:Int) (hc:ContractT.Ok c) (hs:DoomT.Ok d) (hraw:InK .u16 raw):jY c d raw=some true:=by
  refine Ret.eq ?_
  have hl:d.rows.length < 4611686018427387904:=hs.rows.lt (by omega)
  unfold jY
  refine Ret.bindE zem ?_
  refine Ret.bind (P:=fun v:Bool=>v=false→DoomP c d) ?_ ?_
  · refine Ret.bind (zfA hc _ d) fun b hb => ?_
    refine Ret.ite (fun _ => ?_) (fun _=>Ret.some fun h=>by cases h)
    refine Ret.bindE (KL hc d hl) ?_
    exact Ret.some fun h=>Vl.1 (by simpa using h)
  intro v hv
  refine Ret.ite (fun _=>Ret.some rfl) (fun h => ?_)
  have H:=hv h
  have h1:=H.n1
  refine Ret.ite (fun h=>absurd (beq_iff_eq.1 h) (by omega)) (fun _ => ?_)
  obtain ⟨i,hi,n,hn,hx⟩:=zfB (l:=d.rows) (by omega) hraw
  refine Ret.bindE hn ?_
  refine Ret.bindE hx ?_
  have hmem:=List.getElem_mem hi
  generalize d.rows[i]=r at hmem
  have hv:=H.vs r hmem
  have hpl:kj c d.party r.position.state=true:=kl.2 ⟨H.p0,H.p1,hv⟩
  obtain ⟨⟨a,e⟩,hf,hr⟩:=zd9 hc (p:=r.position) hpl
  refine Ret.bindE hf ?_
  rcases hr with ⟨he,hpa,hF⟩ | ⟨he,_⟩
  · simp only at he hpa hF
    subst he
    have A:ArOk c d.party r.position a:=⟨H.p0,H.p1,hpa,hF⟩
    refine Ret.bindE (zbo hc A) ?_
    refine Ret.ite (fun h=>by cases h) (fun _ => ?_)
    have hpos:=A.pos
    have hp0:0 < a.positions.length:=by omega
    have i0:ze (a.positions.map (rkP c d.party)) 0=some (rkP c d.party r.position):=
      idxI_at (l:=a.positions.map (rkP c d.party)) (i:=0) (e:=rkP c d.party r.position) (by rw [List.getElem?_map,A.F.first];rfl)
    have hrk:=H.rk r hmem
    have ha:=((Y4 c d.party r.position).2 r.rank.toNat).2 (QC H _ r hmem (by omega))
    have hlo:=zgT c d.party r.position
    refine Ret.bindE (v:=true) ?_ (Ret.some rfl)
    rw [i0,List.length_map,decide_eq_true (show 0 < (a.positions.length:Int) by omega)]
    show (bif decide (0≤rkP c d.party r.position) then some (decide (rkP c d.party r.position≤r.rank)) else some false)=some true
    rw [decide_eq_true (show 0≤rkP c d.party r.position by omega),decide_eq_true (show rkP c d.party r.position≤r.rank by omega)]
    rfl
  · simp only at he
    subst he
    have:=zec hf (by simp)
    simp only at this
    subst this
    refine Ret.bindE (Y3 c) ?_
    exact Ret.ite (fun _=>Ret.some rfl) (fun h=>by cases h)
end Go.Proofs.YtmoedieenlaegaaGreatDoor
namespace Go.Proofs.YtmoedieenlaegaaGreatDoor
open Go.ChangeShapes Go.WideShapes Go.RowKit
set_option maxRecDepth 100000
abbrev Q9 : List (String × DataW Unit) := [("math/bits.deBruijn32tab", Rows.laid_math_bits_deBruijn32tab), ("math/bits.deBruijn64tab", Rows.laid_math_bits_deBruijn64tab), ("internal/strconv.uint64pow10", Rows.laid_internal_strconv_uint64pow10)]
theorem zen:(Q9.filter fun x=>x.1 == xq)=[(xq,Lib.tabData .u64 Lib.pow10Tab)]:=by kernel_rfl
theorem Kh {W:World} (h:laidMet Tryz.prog Q9 W):C0.tabs.p W∧C0.tabs.n≤W.heap.size:=by
  have h1:=h.filter (fun x=>x.1 == xq)
  rw [zen] at h1
  have h2:C0.tabs.p W:=Lib.tabIs_of_head (g:=0) (t:=((Tryz.prog.globals[0]?).map (·.type)).getD 0) (e:=181) (n:=20)
    (by kernel_rfl) (by kernel_rfl) (by kernel_rfl) (by kernel_rfl) (by kernel_rfl) (by kernel_rfl) h1
  exact ⟨h2,za1 h2⟩
def zg3:DataW Unit→Array Value
  | .agg ds=>(ds.map fun d=>match d with | .lit (.int k n)=>Value.int k n | _=>Value.bool false).toArray
  | _ => #[]
def Ki (w:World) (g:Nat) (d:DataW Unit):World:={w with heap:=w.heap.modify g fun | .cells _ t f=>.cells (zg3 d) t f | o=>o}
noncomputable def Vm (os:Os):World:=
  Ki (Ki (Ki (World.holding Tryz.prog os ⟨#[],#[],[]⟩) 1 Rows.laid_math_bits_deBruijn32tab) 2 Rows.laid_math_bits_deBruijn64tab) 0 Rows.laid_internal_strconv_uint64pow10
theorem Vx (os:Os) (args:Array Value):laidMet Tryz.prog Q9 ((Vm os).forCall (fun _ _=>0) ⟨#[],args,[]⟩).memory:=
  laidMet_of_run3 8 (by kernel_rfl) (by kernel_rfl) (by kernel_rfl)
end Go.Proofs.YtmoedieenlaegaaGreatDoor
namespace Go.Proofs.YtmoedieenlaegaaGreatDoor.LWitnessDoomsRight
open Go.ChangeShapes Go.WideShapes Go.ChangeAt Go.RowKit
set_option linter.unusedVariables false
set_option maxRecDepth 100000
theorem all (ivs:List IV) (h:QS [(true,ContractT.tys),(true,DoomT.tys),(false,[.int .u16])] ivs):APure C0 237 ivs (.bool true):=by
  match ivs,h with
  | [x0,x1,x2],⟨a0,a1,a2,_⟩=>
    obtain ⟨row0,rfl,r0⟩:=a0
    obtain ⟨c,rfl,ok_c⟩:=ContractT.opn r0
    obtain ⟨row1,rfl,r1⟩:=a1
    obtain ⟨d,rfl,ok_d⟩:=DoomT.opn r1
    obtain ⟨c2,_,e2,k2,n2⟩:=zf a2
    cases e2
    obtain ⟨raw,rfl,ok_raw⟩:=zo k2
    exact ZM c d raw true (ZN c d raw ok_c ok_d ok_raw)
theorem own:ownKnob Tryz.prog.godebug=none:=by kernel_rfl
theorem laid:laidOutB Tryz.prog=true:=by kernel_rfl
theorem args:mapO (YI Tryz.prog) Tryz.f6.params.toList=some [(true,ContractT.tys),(true,DoomT.tys),(false,[.int .u16])]:=by kernel_rfl
theorem zg4 (os:Os) (started:os.Started) (H:Type) (enc:TypeId×Value→H) :
    ReturnsInHanded {} Tryz.checked os 6 .any (fun w args=>(Rows.witnessDoomsRightSpec.pre enc Tryz.prog Tryz.f6 [] false w args∧laidMet Tryz.prog Q9 w)∧sizedMet enc Tryz.prog Tryz.f6 (OpenSpec.ofChange Rows.witnessDoomsRightSpec) false w args) (Rows.witnessDoomsRightSpec.post enc Tryz.prog Tryz.f6 false true false false):=by
  refine returnsInHanded_of_change_and (C:=Tryz.checked) (X:=fun w _=>laidMet Tryz.prog Q9 w) (fun _ _ _ hh h=>h.of_heap hh) own started (by kernel_rfl) Tryz.func6
    (ChangeSpec.witness_at (enc:=enc) (C:=Tryz.checked) (os:=os) (X:=fun w _=>laidMet Tryz.prog Q9 w) false (Vm os) #[.agg #[.int .i64 0,.slice none 0 0,.slice none 0 0,.slice none 0 0,.slice none 0 0,.int .i64 0,.slice none 0 0],.agg #[.int .i64 0,.slice none 0 0],.int .u16 0] 8 rfl (by kernel_rfl) (by kernel_rfl) (by kernel_rfl) (by kernel_rfl) (by kernel_rfl) (Vx os _)) ?_
  intro W base args ds gs before hval hW _ hwt hL _
  exact YJ (Cx:=C0) (tb:=4) 237 rfl LWitnessDoomsRight.args rfl (by kernel_rfl) rfl
    (fun ds h=>by match ds,h with | [_,_,_],_=>rfl) LWitnessDoomsRight.laid (by kernel_rfl) LWitnessDoomsRight.all W (Kh hL) base args ds gs before hval hW hwt
theorem zjJ:Rows.WitnessDoomsRightSaid:=
  OpenClaim.holds_of_wide 6 Tryz.f6 rfl rfl rfl rfl rfl rfl rfl ⟨rfl,rfl,rfl,rfl,rfl⟩ rfl rfl rfl rfl rfl (by kernel_rfl) Tryz.func6 (by kernel_rfl)
    (of_decide_eq_true (by kernel_rfl)) (by unfold Func.isWrapper;first | (rw [if_pos (by decide +kernel)];kernel_rfl) | (rw [if_neg (by decide +kernel)];exact ⟨rfl,rfl⟩))
    (fun os started H enc _=>zg4 os started H enc)
theorem holds:Rows.WitnessDoomsRightCardSaid:=
  Claim7.holds_tied_plain_at .later [] [.data, .data, .data] true (true, "b058ca6a5d8bd6675ccef3ced02f7ff2ab9252a87f4ffe3492fe47a417083e47") false
    zjJ (fun _ h=>by cases h) (by kernel_rfl) (fun _ h=>by cases h) witnessDoomsRight_row_tie rfl ⟨rfl,rfl⟩ (by kernel_rfl) rfl
    (fun f fn hf hfn=>by
      obtain rfl : f = 6 := Option.some.inj ((show Tryz.prog.funcNamed "estoppel/estoppellaw22.WitnessDoomsRight" = some 6 by kernel_rfl).symm.trans hf) |>.symm
      obtain rfl:fn=Tryz.f6:=(Option.some.inj (Tryz.func6.symm.trans hfn)).symm
      refine ⟨by kernel_rfl,fun j t ht => ?_⟩
      have hall:(Tryz.f6.params.toList.all fun t=>!(Tryz.prog.wantsStandIn t))=true:=by kernel_rfl
      have:=List.all_eq_true.1 hall t (by rw [Array.mem_toList_iff];exact Array.mem_of_getElem? ht)
      have h2:Tryz.prog.wantsStandIn t=false:=by simpa using this
      exact h2)
    (by kernel_rfl)
end Go.Proofs.YtmoedieenlaegaaGreatDoor.LWitnessDoomsRight
namespace Go.Proofs.YtmoedieenlaegaaGreatDoor
theorem witnessDoomsRight_holds:Rows.WitnessDoomsRightCardSaid:=LWitnessDoomsRight.holds
end Go.Proofs.YtmoedieenlaegaaGreatDoor
