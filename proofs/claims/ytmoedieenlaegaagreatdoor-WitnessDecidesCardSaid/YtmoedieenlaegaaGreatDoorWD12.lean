/-
  'WitnessDecides': for every input the call returns true, and each argument reads afterwards as it read before.
  The tables of the library that the rows list: from the row's condition to what the contracts ask; the witness.
  A position has either a shield or a doom.
  'witness.Shield' and 'witness.Doom': what they return; sizes.
  The fixed examples of the laws of layer 22: 'head' returns true. Printed by mkheads.py.
  Functions of the program as the kernel reckons them: with fuel, and texts of small numbers. Printed by mkheads.py.
  'witness.CheckShield' and 'witness.CheckDoom': what they decide.
-/
import Derived.Test.YtmoedieenlaegaaGreatDoorWD11
import Derived.Test.YtmoedieenlaegaaGreatDoorRows
import Derived.Test.YtmoedieenlaegaaGreatDoorWD10
import Derived.LaidLaws
import Derived.LaidSub
import Derived.Deep.DeepLaidRun
import Derived.Lib.LaidTab
import Derived.JoinedOf
import Derived.Test.YtmoedieenlaegaaGreatDoorWD06
import Derived.Test.YtmoedieenlaegaaGreatDoorTie
import Derived.Test.YtmoedieenlaegaaGreatDoorCards
import Derived.SevenTiedAt
namespace Go.Proofs.YtmoedieenlaegaaGreatDoor
open Go.RowKit
set_option linter.unusedSimpArgs false
set_option linter.unusedVariables false
set_option maxRecDepth 100000
section
theorem We (l:List Int) (v:Int) (hl:l.length < 4611686018427387904):jS l v=some (l.contains v):=by
  unfold jS WK
  rw [jN (fun q=>match l[q]? with | some x=>!(v == x) | none=>true) (fun q=>(q:Int)) hl (fun q hq=>by
    simp only [zO,List.getElem?_eq_getElem hq,Option.bind_some]
    cases (v == l[q])<;>rfl)]
  cases hf:(List.range l.length).find? (fun q=>!(match l[q]? with | some x=>!(v == x) | none=>true)) with
  | none=>
    have:l.contains v=false:=by
      rw [Bool.eq_false_iff]
      intro hm
      rw [List.contains_iff_mem] at hm
      obtain ⟨q,hq,e⟩:=List.getElem_of_mem hm
      have:=we hf q hq
      simp only [List.getElem?_eq_getElem hq] at this
      rw [e] at this
      simp at this
    rw [this];rfl
  | some q=>
    obtain ⟨h1,h2,_⟩:=wg hf
    have:l.contains v=true:=by
      rw [List.contains_iff_mem]
      simp only [List.getElem?_eq_getElem h1,Bool.not_eq_false',beq_iff_eq] at h2
      rw [h2];exact List.getElem_mem h1
    rw [this]
    simp
theorem Xb {l:List Int} {f:Nat→Unit→Option (Unit ⊕ Int)} (p:Int→Bool) (hl:l.length < 4611686018427387904) (h:∀ (i:Nat) (hi:i < l.length),f i ()=some (bif p l[i] then .inr (i:Int) else .inl ())) :
    (Option.bind (forR (l.length:Int) f ()) (Sum.elim (fun (_:Unit)=>some (-1)) (fun (y:Int)=>some y))).bind (fun r=>some (decide (0≤r)))=some (l.any p):=by
  rw [jN (fun q=>match l[q]? with | some x=>!(p x) | none=>true) (fun q=>(q:Int)) hl (fun q hq=>by
    rw [h q hq]
    simp only [List.getElem?_eq_getElem hq]
    cases p l[q]<;>rfl)]
  cases hf:(List.range l.length).find? (fun q=>!(match l[q]? with | some x=>!(p x) | none=>true)) with
  | none=>
    have:l.any p=false:=by
      rw [List.any_eq_false]
      intro x hx
      obtain ⟨q,hq,e⟩:=List.getElem_of_mem hx
      have:=we hf q hq
      simp only [List.getElem?_eq_getElem hq,e] at this
      simpa using this
    rw [this];rfl
  | some q=>
    obtain ⟨h1,h2,_⟩:=wg hf
    have:l.any p=true:=by
      rw [List.any_eq_true]
      simp only [List.getElem?_eq_getElem h1] at h2
      exact ⟨_,List.getElem_mem h1,by simpa using h2⟩
    rw [this]
    simp
section
variable {c:ContractT} {party:Int} {F:List (ByteArray×Int)}
theorem QU (hc:c.Ok) {p:PosT} (hv:VS c p.state) {m:Int} (hm:m∈zh c party p) (q:Int):wC p m c q F=some ((zq (txt (target c p m)) F).getD 0,(zq (txt (target c p m)) F).isSome):=by
  unfold wC
  rcases zbS hm with ⟨rfl,_⟩ | ⟨h1,h2,h3⟩
  · have ht:=QR hc (p:={state:=p.state,own:=false}) hv
    show Option.bind (qK ({state:=p.state,own:=false}:PosT)) _=_
    rw [ht,zaf];rfl
  · obtain ⟨e,hv2,_,_⟩:=vi hc hv h1 h2 h3
    have hne:(m == (-2:Int))=false:=beq_eq_false_iff_ne.2 (by omega)
    have ht:=QR hc (p:={state:=jU c p.state m,own:=true}) hv2
    simp only [hne,cond_false,e,Option.bind_some,Bool.not_false]
    show Option.bind (qK ({state:=jU c p.state m,own:=true}:PosT)) _=_
    rw [ht,zag c p h1];rfl
def knB (F:List (ByteArray×Int)) (q:PosT):Bool:=(zq (txt q) F).isSome
def blB (F:List (ByteArray×Int)) (n:Int) (q:PosT):Bool:=bif (zq (txt q) F).isSome then decide ((zq (txt q) F).getD 0 < n) else false
theorem zaL (hc:c.Ok) {p:PosT} (hv:VS c p.state) {m:Int} (hm:m∈zh c party p) (n q:Int):wE p m n c q F=some (blB F n (target c p m)):=by
  unfold wE
  rw [QU hc hv hm]
  simp only [Option.bind_some,zk]
  rfl
theorem zi3 (hc:c.Ok) {p:PosT} (hv:VS c p.state) {m:Int} (hm:m∈zh c party p) (q:Int):ZQ [m] p c q F=some (!knB F (target c p m)):=by
  unfold ZQ Jf
  rw [Xb (l:=[m]) (fun m=>!knB F (target c p m)) (by simp) fun i hi=>by
    obtain rfl:i=0:=by simpa using hi
    rw [zU hi]
    simp only [Option.bind_some,List.getElem?_eq_getElem hi,wD,List.getElem_cons_zero]
    rw [QU hc hv hm];simp only [Option.bind_some,zk];rfl]
  simp
theorem zi4 (hc:c.Ok) {p:PosT} (hv:VS c p.state) (q:Int):ZR (zh c party p) p c q F=some ((zh c party p).any fun m=>!knB F (target c p m)):=by
  have:=wm hc (party:=party) hv
  unfold ZR Jg
  rw [Xb (l:=zh c party p) (fun m=>!knB F (target c p m)) (by omega) fun i hi=>by
    simp only [zO,List.getElem?_eq_getElem hi,Option.bind_some,wD]
    rw [QU hc hv (List.getElem_mem hi)];simp only [Option.bind_some,zk];rfl]
theorem zi5 (hc:c.Ok) {p:PosT} (hv:VS c p.state) (n q:Int):ZT (zh c party p) p n c q F=some ((zh c party p).any fun m=>!blB F n (target c p m)):=by
  have:=wm hc (party:=party) hv
  unfold ZT Jh
  rw [Xb (l:=zh c party p) (fun m=>!blB F n (target c p m)) (by omega) fun i hi=>by
    simp only [zO,List.getElem?_eq_getElem hi,Option.bind_some,Zi]
    rw [zaL hc hv (List.getElem_mem hi)];simp only [Option.bind_some,zk]]
noncomputable def shB (c:ContractT) (party:Int) (F:List (ByteArray×Int)) (r:ShieldRowT):Bool:=
  !qn c r.position.state party&&(bif r.position.own then (zh c party r.position).contains r.move&&knB F (target c r.position r.move) else !((zh c party r.position).any fun m=>!knB F (target c r.position m)))
theorem zhC (hc:c.Ok) {s:ShieldT} {i:Nat} (hi:i < s.rows.length) (h0:0≤party) (h1:party < c.parties) (hv:VS c s.rows[i].position.state):yQ ({s:=s}:ShieldW) (i:Int) c party F=some (shB c party F s.rows[i]):=by
  have hl:=wm hc (party:=party) hv
  unfold yQ wB shB
  rw [zx (List.getElem?_eq_getElem hi)]
  simp only [Option.bind_some]
  rw [Ko hc hv h0 h1]
  simp only [Option.bind_some]
  generalize s.rows[i]=r at *
  cases qn c r.position.state party with
  | true=>rfl
  | false=>
    have hmv:wj c party r.position=some (zh c party r.position,0):=by
      rw [zaK hc,yd.2 ⟨h0,h1,hv⟩];rfl
    simp only [cond_false,hmv,Option.bind_some,Bool.not_false,Bool.true_and]
    rw [We _ _ (by omega),zi4 hc hv]
    simp only [Option.bind_some]
    cases r.position.own with
    | false=>rfl
    | true=>
      simp only [cond_true]
      cases hm:(zh c party r.position).contains r.move with
      | false=>rfl
      | true=>
        have hm':=List.contains_iff_mem.1 hm
        simp only [cond_true,zi3 hc hv hm',Option.bind_some,Bool.not_not,Bool.true_and]
noncomputable def doB (c:ContractT) (party:Int) (F:List (ByteArray×Int)) (r:DoomRowT):Bool:=
  bif decide (r.rank≤0) then r.rank == 0&&qn c r.position.state party
  else bif r.position.own then !((zh c party r.position).any fun m=>!blB F r.rank (target c r.position m)) else (zh c party r.position).contains r.move&&blB F r.rank (target c r.position r.move)
theorem zhD (hc:c.Ok) {s:DoomT} {i:Nat} (hi:i < s.rows.length) (h0:0≤party) (h1:party < c.parties) (hv:VS c s.rows[i].position.state):yR ({d:=s}:DoomW) (i:Int) c party F=some (doB c party F s.rows[i]):=by
  have hl:=wm hc (party:=party) hv
  unfold yR wB doB
  rw [zx (List.getElem?_eq_getElem hi)]
  simp only [Option.bind_some]
  rw [Ko hc hv h0 h1]
  simp only [Option.bind_some]
  generalize s.rows[i]=r at *
  cases decide (r.rank≤0) with
  | true=>cases (r.rank == 0)<;>cases qn c r.position.state party<;>rfl
  | false=>
    have hmv:wj c party r.position=some (zh c party r.position,0):=by
      rw [zaK hc,yd.2 ⟨h0,h1,hv⟩];rfl
    simp only [cond_false,hmv,Option.bind_some]
    rw [We _ _ (by omega),zi5 hc hv]
    simp only [Option.bind_some]
    cases r.position.own with
    | true=>rfl
    | false=>
      simp only [cond_false]
      cases hm:(zh c party r.position).contains r.move with
      | false=>rfl
      | true=>
        have hm':=List.contains_iff_mem.1 hm
        simp only [cond_true,zaL hc hv hm',Option.bind_some,Bool.true_and]
theorem Ku (hc:c.Ok) {α:Type} (rows:List α) (pos:α→PosT) (rk:α→Int) (hl:rows.length < 4611686018427387904) (row:Int→Option (PosT×Int)) (hrow:∀ (i:Nat) (hi:i < rows.length),row (i:Int)=some (pos rows[i],rk rows[i])) {x:Option (List (ByteArray×Int) ⊕ Unit)}
    (hx:x=forR (σ:=(List (ByteArray×Int))) (ρ:=Unit) (rows.length:Int) (fun i1 s1=>(Option.bind (α:=(List (ByteArray×Int)) ⊕ Unit) (Option.bind (row (i1:Int)) fun r5=>(Option.bind (qP c r5.1.state) fun r6=>(bif r6 then (Option.bind (qK r5.1) fun r7=>(Option.bind (bif ((zq r7 s1).isSome) then some (decide (r5.2 < ((zq r7 s1).getD 0))) else some true) fun v2=>(bif v2 then some (.inl (zX r7 r5.2 s1)) else some (.inl s1)))) else some (.inr ())))) (Sum.elim (fun (v3:(List (ByteArray×Int)))=>some (.inl v3)) (fun (y1:Unit)=>some (.inr ()))))) []) :
    Ret x (fun o=>(∃ F,o=.inl F∧j9 c F (rows.map fun r=>(pos r,rk r))∧∀ r∈rows,VS c (pos r).state)∨(o=.inr ()∧∃ r∈rows,¬ VS c (pos r).state)):=by
  subst hx
  refine Ret.forL (fun i F=>j9 c F ((rows.take i).map fun r=>(pos r,rk r))∧∀ (j:Nat) (hj:j < rows.length),j < i→VS c (pos rows[j]).state) hl ⟨zdJ c,fun j _ hj=>by omega⟩ (fun i F hi hI => ?_) (fun F h => ?_)
  · obtain ⟨h1,h2⟩:=hI
    refine Ret.bind (P:=fun o=>(∃ F',o=.inl F'∧(j9 c F' ((rows.take (i+1)).map fun r=>(pos r,rk r))∧∀ (j:Nat) (hj:j < rows.length),j < i+1→VS c (pos rows[j]).state))∨(o=.inr ()∧∃ r∈rows,¬ VS c (pos r).state)) ?_ ?_
    · refine Ret.bindE (hrow i hi) ?_
      refine Ret.bindE (yW c _ hc) ?_
      refine Ret.ite (fun hv => ?_) (fun hv=>Ret.some (.inr ⟨rfl,_,List.getElem_mem hi,fun h=>by rw [QM h] at hv;cases hv⟩))
      have hv:=zfn hv
      refine Ret.bindE (QR hc hv) ?_
      have hs:=zbW h1 hv (rk rows[i])
      have et:(rows.take (i+1)).map (fun r=>(pos r,rk r))=(rows.take i).map (fun r=>(pos r,rk r))++[(pos rows[i],rk rows[i])]:=by
        rw [List.take_succ_eq_append_getElem hi,List.map_append];rfl
      have hvs:∀ (j:Nat) (hj:j < rows.length),j < i+1→VS c (pos rows[j]).state:=fun j hj hji=>by
        by_cases e:j=i
        · subst e;exact hv
        · exact h2 j hj (by omega)
      rw [←et] at hs
      refine Ret.bindE (v:=(bif !(zq (txt (pos rows[i])) F).isSome then true else decide (rk rows[i] < (zq (txt (pos rows[i])) F).getD 0))) ?_ ?_
      · cases (zq (txt (pos rows[i])) F).isSome<;>rfl
      · refine Ret.ite (fun hb => ?_) (fun hb => ?_)
        · rw [hb] at hs
          exact Ret.some (.inl ⟨_,rfl,hs,hvs⟩)
        · rw [hb] at hs
          exact Ret.some (.inl ⟨_,rfl,hs,hvs⟩)
    · rintro o (⟨F',rfl,h⟩ | ⟨rfl,h⟩)
      · exact Ret.some h
      · exact Ret.some (.inr ⟨rfl,h⟩)
  · refine .inl ⟨F,rfl,?_,fun r hr => ?_⟩
    · have:=h.1
      rwa [List.take_of_length_le (Nat.le_refl _)] at this
    · obtain ⟨j,hj,rfl⟩:=List.getElem_of_mem hr
      exact h.2 j hj hj
theorem zaM {l:List (PosT×Int)} {rows:List ShieldRowT} (hF:j9 c F l) (hl:∀ q,(∃ x∈l,x.1=q)↔∃ r∈rows,r.position=q) {r:ShieldRowT} (hc:c.Ok) (hv:VS c r.position.state):shB c party F r=true↔qn c r.position.state party=false∧(r.position.own=true→r.move∈zh c party r.position∧∃ r'∈rows,ShieldRowT.position r'=target c r.position r.move)∧(r.position.own=false→∀ m∈zh c party r.position,∃ r'∈rows,ShieldRowT.position r'=target c r.position m):=by
  have kn:∀ m∈zh c party r.position,(knB F (target c r.position m)=true↔∃ r'∈rows,ShieldRowT.position r'=target c r.position m):=fun m hm=>(zdK hF (yf hc hv hm)).trans (hl _)
  unfold shB
  rw [Bool.and_eq_true,Bool.not_eq_true']
  refine and_congr Iff.rfl ?_
  cases ho:r.position.own with
  | true=>
    rw [cond_true,Bool.and_eq_true,List.contains_iff_mem]
    constructor
    · rintro ⟨g1,g2⟩
      exact ⟨fun _=>⟨g1,(kn _ g1).1 g2⟩,fun h=>by cases h⟩
    · rintro ⟨g,_⟩
      obtain ⟨g1,g2⟩:=g rfl
      exact ⟨g1,(kn _ g1).2 g2⟩
  | false=>
    rw [cond_false,Bool.not_eq_true',List.any_eq_false]
    constructor
    · intro g
      refine ⟨fun h=>by (cases h),fun _ m hm=>(kn m hm).1 ?_⟩
      have:=g m hm
      simpa using this
    · rintro ⟨_,g⟩ m hm
      have:=(kn m hm).2 (g rfl m hm)
      simp [this]
theorem zaN {l:List (PosT×Int)} {rows:List DoomRowT} (hF:j9 c F l) (hl:∀ q n,(∃ x∈l,x.1=q∧x.2 < n)↔∃ r∈rows,r.position=q∧r.rank < n) {r:DoomRowT} (hc:c.Ok) (hv:VS c r.position.state):doB c party F r=true↔0≤r.rank∧(r.rank=0→qn c r.position.state party=true)∧(0 < r.rank→r.position.own=true→∀ m∈zh c party r.position,∃ r'∈rows,DoomRowT.position r'=target c r.position m∧DoomRowT.rank r' < r.rank)∧(0 < r.rank→r.position.own=false→r.move∈zh c party r.position∧∃ r'∈rows,DoomRowT.position r'=target c r.position r.move∧DoomRowT.rank r' < r.rank):=by
  have kn:∀ m∈zh c party r.position,(blB F r.rank (target c r.position m)=true↔∃ r'∈rows,DoomRowT.position r'=target c r.position m∧DoomRowT.rank r' < r.rank):=fun m hm=>(zdL hF (yf hc hv hm)).trans (hl _ _)
  unfold doB
  by_cases h0:r.rank≤0
  · rw [decide_eq_true h0,cond_true,Bool.and_eq_true,beq_iff_eq]
    constructor
    · rintro ⟨g1,g2⟩
      exact ⟨by omega,fun _=>g2,fun h=>by omega,fun h=>by omega⟩
    · rintro ⟨g1,g2,_⟩
      have:r.rank=0:=by omega
      exact ⟨this,g2 this⟩
  · rw [decide_eq_false h0,cond_false]
    cases ho:r.position.own with
    | true=>
      rw [cond_true,Bool.not_eq_true',List.any_eq_false]
      constructor
      · intro g
        refine ⟨by omega,fun h=>by omega,fun _ _ m hm=>(kn m hm).1 ?_,fun _ h=>by cases h⟩
        have:=g m hm
        simpa using this
      · rintro ⟨_,_,g,_⟩ m hm
        have:=(kn m hm).2 (g (by omega) rfl m hm)
        simp [this]
    | false=>
      rw [cond_false,Bool.and_eq_true,List.contains_iff_mem]
      constructor
      · rintro ⟨g1,g2⟩
        exact ⟨by omega,fun h=>by omega,fun _ h=>by (cases h),fun _ _=>⟨g1,(kn _ g1).1 g2⟩⟩
      · rintro ⟨_,_,_,g⟩
        obtain ⟨g1,g2⟩:=g (by omega) rfl
        exact ⟨g1,(kn _ g1).2 g2⟩
end
open Classical in
noncomputable def Jr (c:ContractT) (s:ShieldT):Bool:=decide (ShieldP c s)
open Classical in
noncomputable def Yg (c:ContractT) (d:DoomT):Bool:=decide (DoomP c d)
theorem JJ {c:ContractT} {s:ShieldT}:Jr c s=true↔ShieldP c s:=by unfold Jr;simp
theorem VI {c:ContractT} {d:DoomT}:Yg c d=true↔DoomP c d:=by unfold Yg;simp
theorem zbX {c:ContractT} {s:ShieldT} {b:Bool} (h:b=true↔ShieldP c s):b=Jr c s:=by
  rw [Bool.eq_iff_iff,h,JJ]
theorem zeW {c:ContractT} {d:DoomT} {b:Bool} (h:b=true↔DoomP c d):b=Yg c d:=by
  rw [Bool.eq_iff_iff,h,VI]
theorem VV {c:ContractT} (hc:c.Ok) (s:ShieldT) (hl:s.rows.length < 4611686018427387904):qk c s=some (Jr c s):=by
  refine Ret.eq (Ret.mono (P:=fun b=>b=true↔ShieldP c s) ?_ fun b h=>zbX h)
  unfold qk Zg
  refine Ret.bind (P:=fun b=>b=true↔ShieldP c s) ?_ (fun b h=>Ret.some h)
  refine Ret.bindE (v:=s.party) rfl ?_
  simp only [jv,Option.bind_some]
  refine Ret.bindE (v := !(decide (0≤s.party)&&(decide (s.party < c.parties)&&(decide (1≤s.rows.length)&&decide (s.rows.length≤1500))))) ?_ ?_
  · by_cases h1:s.party < 0
    · rw [decide_eq_true h1,decide_eq_false (show ¬ 0≤s.party by omega)];rfl
    · rw [decide_eq_false h1,decide_eq_true (show 0≤s.party by omega)]
      by_cases h2:c.parties≤s.party
      · rw [decide_eq_true h2,decide_eq_false (show ¬ s.party < c.parties by omega)];rfl
      · rw [decide_eq_false h2,decide_eq_true (show s.party < c.parties by omega)]
        by_cases h3:(s.rows.length:Int) < 1
        · rw [decide_eq_true h3,decide_eq_false (show ¬ 1≤s.rows.length by omega)];rfl
        · rw [decide_eq_false h3,decide_eq_true (show 1≤s.rows.length by omega)]
          by_cases h4:(1500:Int) < (s.rows.length:Int)
          · rw [decide_eq_true h4,decide_eq_false (show ¬ s.rows.length≤1500 by omega)];rfl
          · rw [decide_eq_false h4,decide_eq_true (show s.rows.length≤1500 by omega)];rfl
  refine Ret.ite (fun hb=>Ret.some ⟨fun h=>by (cases h),fun h => ?_⟩) (fun hb => ?_)
  · rw [decide_eq_true h.p0,decide_eq_true h.p1,decide_eq_true h.n1,decide_eq_true h.n2] at hb;cases hb
  simp only [Bool.not_eq_false',Bool.and_eq_true,decide_eq_true_eq] at hb
  obtain ⟨p0,p1,n1,n2⟩:=hb
  refine Ret.bind (Ku hc s.rows (·.position) (fun _=>0) hl (Zf ({s:=s}:ShieldW)) (fun i hi=>by unfold Zf;rw [zx (List.getElem?_eq_getElem hi)];rfl) rfl) ?_
  rintro _ (⟨F,rfl,hF,hvs⟩ | ⟨rfl,r,hr,hn⟩)
  · simp only [Sum.elim_inl]
    have hll:∀ q,(∃ x∈s.rows.map (fun r=>(r.position,(0:Int))),x.1=q)↔∃ r∈s.rows,r.position=q:=fun q=>by
      constructor
      · rintro ⟨x,hx,e⟩
        obtain ⟨r,hr,rfl⟩:=List.mem_map.1 hx
        exact ⟨r,hr,e⟩
      · rintro ⟨r,hr,e⟩
        exact ⟨_,List.mem_map.2 ⟨r,hr,rfl⟩,e⟩
    have key:s.rows.all (shB c s.party F)=true↔ShieldP c s:=by
      rw [List.all_eq_true]
      constructor
      · intro h
        have h':=fun r hr=>(zaM hF hll hc (hvs r hr)).1 (h r hr)
        exact ⟨p0,p1,n1,n2,hvs,fun r hr=>(h' r hr).1,fun r hr=>(h' r hr).2.1,fun r hr=>(h' r hr).2.2⟩
      · intro h r hr
        exact (zaM hF hll hc (hvs r hr)).2 ⟨h.lost r hr,h.own r hr,h.oth r hr⟩
    rw [x3 (l:=s.rows) (shB c s.party F) hl (fun i hi=>by
      rw [zhC hc hi p0 p1 (hvs _ (List.getElem_mem hi))];simp only [Option.bind_some,zk])]
    cases hall:s.rows.all (shB c s.party F) with
    | true=>exact Ret.some ⟨fun _=>key.1 hall,fun _=>rfl⟩
    | false=>exact Ret.some ⟨fun h=>by (cases h),fun h=>by rw [key.2 h] at hall;cases hall⟩
  · exact Ret.some ⟨fun h=>by (cases h),fun h=>absurd (h.vs r hr) hn⟩
theorem zah {c:ContractT} (hc:c.Ok) (s:DoomT) (hl:s.rows.length < 4611686018427387904):qF c s=some (Yg c s):=by
  refine Ret.eq (Ret.mono (P:=fun b=>b=true↔DoomP c s) ?_ fun b h=>zeW h)
  unfold qF Zj
  refine Ret.bind (P:=fun b=>b=true↔DoomP c s) ?_ (fun b h=>Ret.some h)
  refine Ret.bindE (v:=s.party) rfl ?_
  simp only [jw,Option.bind_some]
  refine Ret.bindE (v := !(decide (0≤s.party)&&(decide (s.party < c.parties)&&(decide (1≤s.rows.length)&&decide (s.rows.length≤1500))))) ?_ ?_
  · by_cases h1:s.party < 0
    · rw [decide_eq_true h1,decide_eq_false (show ¬ 0≤s.party by omega)];rfl
    · rw [decide_eq_false h1,decide_eq_true (show 0≤s.party by omega)]
      by_cases h2:c.parties≤s.party
      · rw [decide_eq_true h2,decide_eq_false (show ¬ s.party < c.parties by omega)];rfl
      · rw [decide_eq_false h2,decide_eq_true (show s.party < c.parties by omega)]
        by_cases h3:(s.rows.length:Int) < 1
        · rw [decide_eq_true h3,decide_eq_false (show ¬ 1≤s.rows.length by omega)];rfl
        · rw [decide_eq_false h3,decide_eq_true (show 1≤s.rows.length by omega)]
          by_cases h4:(1500:Int) < (s.rows.length:Int)
          · rw [decide_eq_true h4,decide_eq_false (show ¬ s.rows.length≤1500 by omega)];rfl
          · rw [decide_eq_false h4,decide_eq_true (show s.rows.length≤1500 by omega)];rfl
  refine Ret.ite (fun hb=>Ret.some ⟨fun h=>by (cases h),fun h => ?_⟩) (fun hb => ?_)
  · rw [decide_eq_true h.p0,decide_eq_true h.p1,decide_eq_true h.n1,decide_eq_true h.n2] at hb;cases hb
  simp only [Bool.not_eq_false',Bool.and_eq_true,decide_eq_true_eq] at hb
  obtain ⟨p0,p1,n1,n2⟩:=hb
  refine Ret.bind (Ku hc s.rows (·.position) (·.rank) hl (Zh ({d:=s}:DoomW)) (fun i hi=>by unfold Zh;rw [zx (List.getElem?_eq_getElem hi)];rfl) rfl) ?_
  rintro _ (⟨F,rfl,hF,hvs⟩ | ⟨rfl,r,hr,hn⟩)
  · simp only [Sum.elim_inl]
    have hll:∀ q n,(∃ x∈s.rows.map (fun r=>(r.position,r.rank)),x.1=q∧x.2 < n)↔∃ r∈s.rows,r.position=q∧r.rank < n:=fun q n=>by
      constructor
      · rintro ⟨x,hx,e⟩
        obtain ⟨r,hr,rfl⟩:=List.mem_map.1 hx
        exact ⟨r,hr,e⟩
      · rintro ⟨r,hr,e⟩
        exact ⟨_,List.mem_map.2 ⟨r,hr,rfl⟩,e⟩
    have key:s.rows.all (doB c s.party F)=true↔DoomP c s:=by
      rw [List.all_eq_true]
      constructor
      · intro h
        have h':=fun r hr=>(zaN hF hll hc (hvs r hr)).1 (h r hr)
        exact ⟨p0,p1,n1,n2,hvs,fun r hr=>(h' r hr).1,fun r hr=>(h' r hr).2.1,fun r hr=>(h' r hr).2.2.1,fun r hr=>(h' r hr).2.2.2⟩
      · intro h r hr
        exact (zaN hF hll hc (hvs r hr)).2 ⟨h.rk r hr,h.zero r hr,h.own r hr,h.oth r hr⟩
    rw [x3 (l:=s.rows) (doB c s.party F) hl (fun i hi=>by
      rw [zhD hc hi p0 p1 (hvs _ (List.getElem_mem hi))];simp only [Option.bind_some,zk])]
    cases hall:s.rows.all (doB c s.party F) with
    | true=>exact Ret.some ⟨fun _=>key.1 hall,fun _=>rfl⟩
    | false=>exact Ret.some ⟨fun h=>by (cases h),fun h=>by rw [key.2 h] at hall;cases hall⟩
  · exact Ret.some ⟨fun h=>by (cases h),fun h=>absurd (h.vs r hr) hn⟩
end
end Go.Proofs.YtmoedieenlaegaaGreatDoor
namespace Go.Proofs.YtmoedieenlaegaaGreatDoor
set_option linter.unusedSimpArgs false
set_option linter.unusedVariables false
set_option maxRecDepth 100000
def Le {α:Type} (x y:Option α):Prop:=∀ r,x=some r→y=some r
theorem Le.refl {α:Type} (x:Option α):Le x x:=fun _ h=>h
theorem Le.bind {α β:Type} {x y:Option α} {f g:α→Option β} (h:Le x y) (hf:∀ a,Le (f a) (g a)):Le (x.bind f) (y.bind g):=fun r hr=>by
  obtain ⟨a,h1,h2⟩:=Option.bind_eq_some_iff.1 hr
  rw [h a h1];exact hf a r h2
theorem Le.cond {α:Type} (b:Bool) {x y x' y':Option α} (h1:Le x x') (h2:Le y y'):Le (bif b then x else y) (bif b then x' else y'):=by
  cases b
  · exact h2
  · exact h1
theorem Le.elim {α β γ:Type} {f f':α→Option γ} {g g':β→Option γ} (h1:∀ a,Le (f a) (f' a)) (h2:∀ a,Le (g a) (g' a)) (o:α ⊕ β):Le (Sum.elim f g o) (Sum.elim f' g' o):=by
  cases o
  · exact h1 _
  · exact h2 _
theorem Le.forFrom {σ ρ:Type} {f g:Nat→σ→Option (σ ⊕ ρ)} (h:∀ i s,Le (f i s) (g i s)):∀ (k i:Nat) (s:σ),Le (forFrom f i k s) (forFrom g i k s)
  | 0,i,s=>Le.refl _
  | k+1,i,s=>fun r hr=>by
    simp only [Go.Proofs.YtmoedieenlaegaaGreatDoor.forFrom] at hr ⊢
    split at hr
    · cases hr
    · rename_i e;rw [h i s _ e];exact hr
    · rename_i e;rw [h i s _ e];exact Le.forFrom h k (i+1) _ r hr
theorem Le.forR {σ ρ:Type} {f g:Nat→σ→Option (σ ⊕ ρ)} (h:∀ i s,Le (f i s) (g i s)) (n:Int) (s:σ):Le (forR n f s) (forR n g s):=fun r hr=>by
  obtain ⟨h1,h2⟩:=Vf hr
  rw [Zy h1];exact Le.forFrom h _ _ _ r h2
theorem Le.iterN {σ ρ:Type} {f g:σ→Option (σ ⊕ ρ)} (h:∀ s,Le (f s) (g s)):∀ (k:Nat) (s:σ),Le (Go.Proofs.YtmoedieenlaegaaGreatDoor.iterN f k s) (Go.Proofs.YtmoedieenlaegaaGreatDoor.iterN g k s)
  | 0,s=>Le.refl _
  | k+1,s=>fun r hr=>by
    simp only [Go.Proofs.YtmoedieenlaegaaGreatDoor.iterN] at hr ⊢
    split at hr
    · cases hr
    · rename_i e;rw [h s _ e];exact hr
    · rename_i e;rw [h s _ e];exact Le.iterN h k _ r hr
theorem Le.iter {σ ρ:Type} {f g:σ→Option (σ ⊕ ρ)} (h:∀ s,Le (f s) (g s)) (k:Nat) (s:σ):Le (Go.Proofs.YtmoedieenlaegaaGreatDoor.iterN f k s) (Go.Proofs.YtmoedieenlaegaaGreatDoor.iter g s):=fun r hr=>vP.2 ⟨k,Le.iterN h k s r hr⟩
def WR:Nat→Nat→List UInt8
  | 0,u=>[]
  | f+1,u=>if u < 10 then [UInt8.ofNat (48+u)] else WR f (u / 10)++[UInt8.ofNat (48+u % 10)]
theorem WS:∀ (f u:Nat),u < 10 ^ (f+1)→WR (f+1) u=Lib.decDigits u
  | 0,u,h=>by
    rw [Lib.decDigits]
    simp only [WR]
    rw [if_pos (by omega),dif_pos (by omega)]
  | f+1,u,h=>by
    rw [Lib.decDigits,WR]
    by_cases hu:u < 10
    · rw [if_pos hu,dif_pos hu]
    · rw [if_neg hu,dif_neg hu,WS f (u / 10) (by rw [Nat.pow_succ] at h;omega)]
def xt (n:Int):Bool:=decide (-1000 < n)&&decide (n < 1000)
def zbY (n:Int):List UInt8:=if n < 0 then 45::WR 4 n.natAbs else WR 4 n.toNat
theorem zeX {n:Int} (h:xt n=true):zbY n=Lib.itoa n:=by
  simp only [xt,Bool.and_eq_true,decide_eq_true_eq] at h
  unfold zbY Lib.itoa
  rw [WS 3 n.natAbs (by omega),WS 3 n.toNat (by omega)]
def vk (n:Int):List UInt8:=zbY n++[32]
theorem yD {n:Int} (h:xt n=true):vk n=zN n:=by unfold vk zN;rw [zeX h]
def zfp (m:MarkT):List UInt8:=vk m.status++vk m.left++vk m.got++vk m.bearer++qh m.paused
def Kv (m:MarkT):Bool:=xt m.status&&(xt m.left&&(xt m.got&&xt m.bearer))
def Wf (p:PosT):List UInt8:=qh p.own++vk p.state.day++p.state.holders.flatMap vk++p.state.used.flatMap qh++p.state.marks.flatMap zfp
def QV (p:PosT):Bool:=xt p.state.day&&(p.state.holders.all xt&&p.state.marks.all Kv)
theorem y0 {α β:Type} {f g:α→List β}:∀ {l:List α},(∀ a∈l,f a=g a)→l.flatMap f=l.flatMap g
  | [],_=>rfl
  | a::l,h=>by rw [List.flatMap_cons,List.flatMap_cons,h a List.mem_cons_self,y0 fun b hb=>h b (List.mem_cons_of_mem _ hb)]
theorem zeY {p:PosT} (h:QV p=true):Wf p=z8 p:=by
  simp only [QV,Bool.and_eq_true,List.all_eq_true] at h
  unfold Wf z8
  rw [yD h.1,y0 (f:=vk) (g:=zN) (fun a ha=>yD (h.2.1 a ha)),y0 (f:=zfp) (g:=jz) (fun a ha=>by
    have:=h.2.2 a ha
    simp only [Kv,Bool.and_eq_true] at this
    show vk a.status++vk a.left++vk a.got++vk a.bearer++qh a.paused=zN a.status++zN a.left++zN a.got++zN a.bearer++qh a.paused
    rw [yD this.1,yD this.2.1,yD this.2.2.1,yD this.2.2.2])]
theorem vl {n:Int} (h:xt n=true):xg n=true:=by
  simp only [xt,xg,Bool.and_eq_true,decide_eq_true_eq] at h ⊢
  omega
def wG (p:PosT):Option ByteArray:=bif QV p&&decide ((Wf p).length≤1000000000) then some ⟨(Wf p).toArray⟩ else none
theorem Js (p:PosT):Le (wG p) (qK p):=fun r h=>by
  unfold wG at h
  cases hq:(QV p&&decide ((Wf p).length≤1000000000)) with
  | false=>rw [hq] at h;cases h
  | true=>
    rw [hq] at h
    simp only [Bool.and_eq_true,decide_eq_true_eq] at hq
    have e:=zeY hq.1
    unfold qK
    rw [if_pos,←e]
    · exact h
    · have h1:=hq.1
      simp only [QV,Bool.and_eq_true,List.all_eq_true] at h1
      simp only [okP,Bool.and_eq_true,decide_eq_true_eq,List.all_eq_true]
      refine ⟨⟨⟨vl h1.1,fun x hx=>vl (h1.2.1 x hx)⟩,fun m hm => ?_⟩,by rw [←e];exact hq.2⟩
      have:=h1.2.2 m hm
      simp only [Kv,Bool.and_eq_true] at this
      exact ⟨⟨⟨vl this.1,vl this.2.1⟩,vl this.2.2.1⟩,vl this.2.2.2⟩
noncomputable def Wg (p1:ContractT) (p2:Int) (p3:List Int) (p4:Nat) (p5:List Bool) (p6:Nat) (p7:List MarkT) (p8:Nat):Option ((List MarkT)):=
  (Option.bind (iterN (σ:=Bool×(List MarkT)) (ρ:=(List MarkT)) (fun s1=>(bif s1.1 then (Option.bind (forR (σ:=Bool×(List MarkT)) (ρ:=Unit) (p1.clauses.length:Int) (fun i2 s2=>(Option.bind (Option.bind (ze p1.clauses (i2:Int)) fun e1=>(Option.bind (eqN p4 p3.length) fun g1=>(Option.bind (eqN p6 p5.length) fun g2=>(Option.bind (eqN p8 s2.2.length) fun g3=>(Option.bind (wX p1 ({day:=p2,holders:=p3,used:=p5,marks:=s2.2}:StateT) (i2:Int)) fun r1=>(bif r1 then (Option.bind (bif (e1.kind == 4) then some (-1) else (Option.bind (zm p4 e1.role) fun k1=>(Option.bind (p3[k1]?) fun e2=>some e2))) fun (v1:Int)=>(Option.bind (zm p8 (i2:Int)) fun k2=>(Option.bind (s2.2[k2]?) fun e3=>some (true,(s2.2.set k2 ({status:=1,left:=e1.after,got:=0,bearer:=v1,paused:=false}:MarkT)))))) else some (s2.1,s2.2))))))) fun (v2:Bool×(List MarkT))=>some (.inl (v2.1,v2.2)))) (false,s1.2)) (Sum.elim (fun (s2:Bool×(List MarkT))=>some (.inl (s2.1,s2.2))) (fun _=>none))) else some (.inr s1.2))) 40 (true,p7)) (fun (y1:(List MarkT))=>some y1))
theorem Kw (p1:ContractT) (p2:Int) (p3:List Int) (p4:Nat) (p5:List Bool) (p6:Nat) (p7:List MarkT) (p8:Nat):Le (Wg p1 p2 p3 p4 p5 p6 p7 p8) (xU p1 p2 p3 p4 p5 p6 p7 p8):=by
  unfold Wg xU
  repeat' (first | with_reducible exact Le.refl _ | with_reducible refine Le.bind ?_ (fun _ => ?_) | with_reducible refine Le.cond _ ?_ ?_ | with_reducible refine Le.forR (fun _ _ => ?_) _ _ | with_reducible refine Le.iter (fun _ => ?_) _ _ | with_reducible refine Le.elim (fun _ => ?_) (fun _ => ?_) _)
noncomputable def WT (c:ContractT):Option (StateT×Int):=
  (Option.bind (wW c) fun r1=>(bif (r1.1 == 0) then (Option.bind (ja 8 c.holders) fun e1=>(Option.bind (mkN 1 (c.acts.length:Int)) fun k1=>(Option.bind (mkN 40 (c.clauses.length:Int)) fun k2=>(Option.bind (forR (σ:=(List MarkT)) (ρ:=Unit) (c.clauses.length:Int) (fun i1 s1=>(Option.bind (Option.bind (ze c.clauses (i1:Int)) fun e2=>(Option.bind (zm k2 (i1:Int)) fun k3=>(Option.bind (s1[k3]?) fun e3=>(bif e2.waived then (Option.bind (zm k2 (i1:Int)) fun k4=>(Option.bind ((s1.set k3 ({status:=0,left:=0,got:=0,bearer:=(-1),paused:=false}:MarkT))[k4]?) fun e4=>some ((s1.set k3 ({status:=0,left:=0,got:=0,bearer:=(-1),paused:=false}:MarkT)).set k4 ({e4 with status:=5}:MarkT)))) else some (s1.set k3 ({status:=0,left:=0,got:=0,bearer:=(-1),paused:=false}:MarkT)))))) fun (v1:(List MarkT))=>some (.inl v1))) (List.replicate k2 ({status:=0,left:=0,got:=0,bearer:=0,paused:=false}:MarkT))) (Sum.elim (fun (s1:(List MarkT))=>(Option.bind (Wg c 0 e1 e1.length (List.replicate k1 false) k1 s1 k2) fun r2=>(Option.bind (eqN k1 (List.replicate k1 false).length) fun g1=>(Option.bind (eqN k2 r2.length) fun g2=>some (({day:=0,holders:=e1,used:=(List.replicate k1 false),marks:=r2}:StateT),0))))) (fun _=>none)))))) else some (({day:=0,holders:=[],used:=[],marks:=[]}:StateT),1)))
theorem zeZ (c:ContractT):Le (WT c) (Je c):=by
  unfold WT Je
  repeat' (first | with_reducible exact Le.refl _ | with_reducible exact Kw _ _ _ _ _ _ _ _ | with_reducible refine Le.bind ?_ (fun _ => ?_) | with_reducible refine Le.cond _ ?_ ?_ | with_reducible refine Le.forR (fun _ _ => ?_) _ _ | with_reducible refine Le.iter (fun _ => ?_) _ _ | with_reducible refine Le.elim (fun _ => ?_) (fun _ => ?_) _)
noncomputable def vn (l:List Int) (v:Int):Option (Int×Bool):=
  (Option.bind (Option.bind (iterN (σ:=Int×Int) (ρ:=Int) (fun s1=>(bif decide (s1.1 < s1.2) then (Option.bind (Qr .u64 .u64 (IntKind.u64.wrap (IntKind.i64.wrap (s1.1+s1.2))) 1) fun e1=>(Option.bind (ze l (IntKind.i64.wrap e1)) fun e2=>(Option.bind (Zb e2 v) fun r1=>(bif r1 then some (.inl ((IntKind.i64.wrap ((IntKind.i64.wrap e1)+1)),s1.2)) else some (.inl (s1.1,(IntKind.i64.wrap e1))))))) else some (.inr s1.1))) 40 (0,(l.length:Int))) (fun (y1:Int)=>some y1)) fun (v1:Int)=>(Option.bind (bif decide (v1 < (l.length:Int)) then (Option.bind (ze l v1) fun e3=>(bif (e3 == v) then some true else (Option.bind (yy e3) fun r2=>(bif r2 then (Option.bind (yy v) fun r3=>some r3) else some false)))) else some false) fun v2=>some (v1,v2)))
theorem Wh (l:List Int) (v:Int):Le (vn l v) (jk l v):=by
  unfold vn jk
  repeat' (first | with_reducible exact Le.refl _ | with_reducible refine Le.bind ?_ (fun _ => ?_) | with_reducible refine Le.cond _ ?_ ?_ | with_reducible refine Le.forR (fun _ _ => ?_) _ _ | with_reducible refine Le.iter (fun _ => ?_) _ _ | with_reducible refine Le.elim (fun _ => ?_) (fun _ => ?_) _)
noncomputable def zbZ (p1:ContractT) (p2:Int) (p3:List Int) (p4:Nat) (p5:List Bool) (p6:Nat) (p7:List MarkT) (p8:Nat):Option ((List MarkT)):=
  (Option.bind (vn p1.off p2) fun r1=>(Option.bind (Option.bind (jR p1 p2 p3 p4 p5 p6 p7 p8) fun r2=>(Option.bind (forR (σ:=(List MarkT)) (ρ:=(List MarkT)) (p8:Int) (fun i1 s1=>(Option.bind (Option.bind (zm p8 (i1:Int)) fun k1=>(Option.bind (s1[k1]?) fun e1=>(Option.bind (jh e1) fun r3=>(bif r3 then (Option.bind (Option.bind (ze p1.clauses (i1:Int)) fun e2=>(Option.bind (Option.bind (zm p8 (i1:Int)) fun k2=>(Option.bind (s1[k2]?) fun e3=>(bif e3.paused then some true else (bif e2.business then some r1.2 else some false)))) fun v1=>(bif v1 then some s1 else (Option.bind (zm p8 (i1:Int)) fun k3=>(Option.bind (s1[k3]?) fun e4=>(Option.bind (zm p8 (i1:Int)) fun k4=>(Option.bind ((s1.set k3 ({e4 with left:=(IntKind.i64.wrap (e4.left - 1))}:MarkT))[k4]?) fun e5=>(bif (e5.left == 0) then (Option.bind (bif (e2.kind == (0:Int)) then none else (bif (e2.kind == (1:Int)) then (Option.bind (XZ (i1:Int) p1 p2 p3 p4 p5 p6 (s1.set k3 ({e4 with left:=(IntKind.i64.wrap (e4.left - 1))}:MarkT)) p8) fun r7=>some r7) else (bif (e2.kind == (2:Int)) then (Option.bind (xV (i1:Int) p1 p2 p3 p4 p5 p6 (s1.set k3 ({e4 with left:=(IntKind.i64.wrap (e4.left - 1))}:MarkT)) p8) fun r6=>some r6) else (bif (e2.kind == (3:Int)) then (Option.bind (kw (i1:Int) p1 p2 p3 p4 p5 p6 (s1.set k3 ({e4 with left:=(IntKind.i64.wrap (e4.left - 1))}:MarkT)) p8) fun r5=>some r5) else (bif (e2.kind == (4:Int)) then (Option.bind (kw (i1:Int) p1 p2 p3 p4 p5 p6 (s1.set k3 ({e4 with left:=(IntKind.i64.wrap (e4.left - 1))}:MarkT)) p8) fun r4=>some r4) else none))))) fun v2=>some v2) else some (s1.set k3 ({e4 with left:=(IntKind.i64.wrap (e4.left - 1))}:MarkT)))))))))) fun (v3:(List MarkT))=>some ((!true),v3)) else some (false,s1))))) fun (v4:Bool×(List MarkT))=>(bif v4.1 then some (.inr v4.2) else some (.inl v4.2)))) p7) (Sum.elim (fun (s1:(List MarkT))=>some s1) (fun (y1:(List MarkT))=>some y1)))) fun (v5:(List MarkT))=>(Option.bind (Wg p1 (IntKind.i64.wrap (p2+1)) p3 p4 p5 p6 v5 p8) fun r8=>some r8)))
theorem zhE (p1:ContractT) (p2:Int) (p3:List Int) (p4:Nat) (p5:List Bool) (p6:Nat) (p7:List MarkT) (p8:Nat):Le (zbZ p1 p2 p3 p4 p5 p6 p7 p8) (d_70a p1 p2 p3 p4 p5 p6 p7 p8):=by
  unfold zbZ d_70a
  repeat' (first | with_reducible exact Le.refl _ | with_reducible exact Wh _ _ | with_reducible exact Kw _ _ _ _ _ _ _ _ | with_reducible refine Le.bind ?_ (fun _ => ?_) | with_reducible refine Le.cond _ ?_ ?_ | with_reducible refine Le.forR (fun _ _ => ?_) _ _ | with_reducible refine Le.iter (fun _ => ?_) _ _ | with_reducible refine Le.elim (fun _ => ?_) (fun _ => ?_) _)
noncomputable def zb0 (p1:Int) (p2:ContractT) (p3:Int) (p4:List Int) (p5:Nat) (p6:List Bool) (p7:Nat) (p8:List MarkT) (p9:Nat):Option ((List Int)×(List Bool)×(List MarkT)):=
  (Option.bind (ze p2.acts p1) fun e1=>(Option.bind (bif (e1.kind == 1) then some false else (Option.bind (zm p7 p1) fun k1=>(Option.bind (p6[k1]?) fun e2=>some e2))) fun v1=>(bif v1 then some (p4,p6,p8) else (Option.bind (Option.bind (jR p2 p3 p4 p5 p6 p7 p8 p9) fun r1=>(Option.bind (forR (σ:=(List MarkT)) (ρ:=(List MarkT)) (p9:Int) (fun i1 s1=>(Option.bind (Option.bind (zm p9 (i1:Int)) fun k2=>(Option.bind (s1[k2]?) fun e3=>(Option.bind (jh e3) fun r2=>(bif r2 then (Option.bind (Option.bind (ze p2.clauses (i1:Int)) fun e4=>(bif (p1 == e4.pause) then (Option.bind (zm p9 (i1:Int)) fun k3=>(Option.bind (s1[k3]?) fun e5=>some (s1.set k3 ({e5 with paused:=true}:MarkT)))) else (Option.bind (ze p2.clauses (i1:Int)) fun e6=>(bif (p1 == e6.resume) then (Option.bind (zm p9 (i1:Int)) fun k4=>(Option.bind (s1[k4]?) fun e7=>some (s1.set k4 ({e7 with paused:=false}:MarkT)))) else some s1)))) fun (v2:(List MarkT))=>some ((!true),v2)) else some (false,s1))))) fun (v3:Bool×(List MarkT))=>(bif v3.1 then some (.inr v3.2) else some (.inl v3.2)))) p8) (Sum.elim (fun (s1:(List MarkT))=>some s1) (fun (y1:(List MarkT))=>some y1)))) fun (v4:(List MarkT))=>(Option.bind (eqN p5 p4.length) fun g1=>(Option.bind (eqN p7 p6.length) fun g2=>(Option.bind (eqN p9 v4.length) fun g3=>(Option.bind (Zc p2 ({day:=p3,holders:=p4,used:=p6,marks:=v4}:StateT) p1) fun r3=>(Option.bind (Option.bind (jR p2 p3 p4 p5 p6 p7 v4 p9) fun r4=>(Option.bind (forR (σ:=(List MarkT)) (ρ:=(List MarkT)) (p9:Int) (fun i2 s2=>(Option.bind (Option.bind (zm p9 (i2:Int)) fun k5=>(Option.bind (s2[k5]?) fun e8=>(Option.bind (jh e8) fun r5=>(bif r5 then (Option.bind (Option.bind (ze p2.clauses (i2:Int)) fun e9=>(Option.bind (bif (e9.act == p1) then (bif (e9.kind == 4) then some true else (Option.bind (zm p9 (i2:Int)) fun k6=>(Option.bind (s2[k6]?) fun e10=>some (e10.bearer == r3)))) else some false) fun v5=>(bif v5 then (Option.bind (bif (e9.kind == (0:Int)) then none else (bif (e9.kind == (1:Int)) then (Option.bind (X1 (i2:Int) p2 p3 p4 p5 p6 p7 s2 p9) fun r9=>some r9) else (bif (e9.kind == (2:Int)) then (Option.bind (X0 (i2:Int) p2 p3 p4 p5 p6 p7 s2 p9) fun r8=>some r8) else (bif (e9.kind == (3:Int)) then (Option.bind (xV (i2:Int) p2 p3 p4 p5 p6 p7 s2 p9) fun r7=>some r7) else (bif (e9.kind == (4:Int)) then (Option.bind (xV (i2:Int) p2 p3 p4 p5 p6 p7 s2 p9) fun r6=>some r6) else none))))) fun v6=>some v6) else some s2))) fun (v7:(List MarkT))=>some ((!true),v7)) else some (false,s2))))) fun (v8:Bool×(List MarkT))=>(bif v8.1 then some (.inr v8.2) else some (.inl v8.2)))) v4) (Sum.elim (fun (s2:(List MarkT))=>some s2) (fun (y2:(List MarkT))=>some y2)))) fun (v9:(List MarkT))=>(Option.bind (bif (e1.kind == 1) then some (p4,p6,v9) else (Option.bind (X2 p1 p2 p3 p4 p5 p6 p7 v9 p9) fun r10=>some (r10.1,r10.2.1,r10.2.2))) fun (v10:(List Int)×(List Bool)×(List MarkT))=>(Option.bind (Wg p2 p3 v10.1 p5 v10.2.1 p7 v10.2.2 p9) fun r11=>some (v10.1,v10.2.1,r11))))))))))))
theorem zhF (p1:Int) (p2:ContractT) (p3:Int) (p4:List Int) (p5:Nat) (p6:List Bool) (p7:Nat) (p8:List MarkT) (p9:Nat):Le (zb0 p1 p2 p3 p4 p5 p6 p7 p8 p9) (ZO p1 p2 p3 p4 p5 p6 p7 p8 p9):=by
  unfold zb0 ZO
  repeat' (first | with_reducible exact Le.refl _ | with_reducible exact Kw _ _ _ _ _ _ _ _ | with_reducible refine Le.bind ?_ (fun _ => ?_) | with_reducible refine Le.cond _ ?_ ?_ | with_reducible refine Le.forR (fun _ _ => ?_) _ _ | with_reducible refine Le.iter (fun _ => ?_) _ _ | with_reducible refine Le.elim (fun _ => ?_) (fun _ => ?_) _)
noncomputable def kb (c:ContractT) (s:StateT) (step:Int):Option (StateT×Int):=
  (Option.bind (Option.bind (qP c s) fun r1=>(bif r1 then (bif decide (step < (-1)) then some true else some (decide ((c.acts.length:Int)≤step))) else some true)) fun v1=>(bif v1 then some (({day:=0,holders:=[],used:=[],marks:=[]}:StateT),1) else (bif (s.day == c.days) then some (({day:=0,holders:=[],used:=[],marks:=[]}:StateT),13) else (Option.bind (mkN 8 (s.holders.length:Int)) fun k1=>(Option.bind (mkN 1 (s.used.length:Int)) fun k2=>(Option.bind (mkN 40 (s.marks.length:Int)) fun k3=>(Option.bind (xd (α:=Int) k1 (List.replicate k1 0) s.holders) fun e1=>(Option.bind (xd (α:=Bool) k2 (List.replicate k2 false) s.used) fun e2=>(Option.bind (xd (α:=MarkT) k3 (List.replicate k3 ({status:=0,left:=0,got:=0,bearer:=0,paused:=false}:MarkT)) s.marks) fun e3=>(Option.bind (bif (step == (-1)) then (Option.bind (zbZ c s.day e1 k1 e2 k2 e3 k3) fun r2=>some (e1,e2,r2,(IntKind.i64.wrap (s.day+1)))) else (Option.bind (zb0 step c s.day e1 k1 e2 k2 e3 k3) fun r3=>some (r3.1,r3.2.1,r3.2.2,s.day))) fun (v2:(List Int)×(List Bool)×(List MarkT)×Int)=>(Option.bind (eqN k1 v2.1.length) fun g1=>(Option.bind (eqN k2 v2.2.1.length) fun g2=>(Option.bind (eqN k3 v2.2.2.1.length) fun g3=>some (({day:=v2.2.2.2,holders:=v2.1,used:=v2.2.1,marks:=v2.2.2.1}:StateT),0))))))))))))))
theorem WU (c:ContractT) (s:StateT) (step:Int):Le (kb c s step) (d_Step c s step):=by
  unfold kb d_Step
  repeat' (first | with_reducible exact Le.refl _ | with_reducible exact zhE _ _ _ _ _ _ _ _ | with_reducible exact zhF _ _ _ _ _ _ _ _ _ | with_reducible refine Le.bind ?_ (fun _ => ?_) | with_reducible refine Le.cond _ ?_ ?_ | with_reducible refine Le.forR (fun _ _ => ?_) _ _ | with_reducible refine Le.iter (fun _ => ?_) _ _ | with_reducible refine Le.elim (fun _ => ?_) (fun _ => ?_) _)
noncomputable def Wi (c:ContractT) (party:Int) (p:PosT):Option (ArenaT×Int):=
  (Option.bind (jP c party p) fun r1=>(bif r1 then (Option.bind (jQ p.state) fun r2=>(Option.bind (wG p) fun r3=>(Option.bind (α:=((List PosT)×(List (List MoveT))) ⊕ Unit) (Option.bind (iterN (σ:=Int×(List PosT)×(List (List MoveT))×(List (ByteArray×Int))) (ρ:=((List PosT)×(List (List MoveT))) ⊕ Unit) (fun s1=>(bif decide (s1.1 < (s1.2.1.length:Int)) then (Option.bind (α:=((List PosT)×(List (ByteArray×Int))×(List MoveT)) ⊕ Unit) (Option.bind (ze s1.2.1 s1.1) fun e1=>(Option.bind (XX c party e1) fun r4=>(Option.bind (α:=((List PosT)×(List (ByteArray×Int))×(List MoveT)) ⊕ (Unit ⊕ ((List PosT)×(List (ByteArray×Int))×(List MoveT)))) (bif e1.own then (Option.bind (jQ e1.state) fun r5=>(Option.bind (wG ({state:=r5,own:=false}:PosT)) fun r6=>(Option.bind (α:=(Int×(List PosT)×(List (ByteArray×Int))) ⊕ Unit) (bif ((zq r6 s1.2.2.2).isSome) then some (.inl (((zq r6 s1.2.2.2).getD 0),s1.2.1,s1.2.2.2)) else (bif ((s1.2.1.length:Int) == 1500) then some (.inr ()) else (Option.bind (zS (α:=PosT) 88 s1.2.1 [({state:=r5,own:=false}:PosT)]) fun e2=>some (.inl ((s1.2.1.length:Int),e2,(zX r6 (s1.2.1.length:Int) s1.2.2.2)))))) (Sum.elim (fun (v1:Int×(List PosT)×(List (ByteArray×Int)))=>(Option.bind (zS (α:=MoveT) 16 [] [({step:=(-2),to:=v1.1}:MoveT)]) fun e3=>(bif decide (c.days≤e1.state.day) then some (.inr (.inr (v1.2.1,v1.2.2,e3))) else some (.inl (v1.2.1,v1.2.2,e3))))) (fun (y1:Unit)=>some (.inr (.inl ()))))))) else (bif decide (c.days≤e1.state.day) then some (.inr (.inr (s1.2.1,s1.2.2.2,[]))) else some (.inl (s1.2.1,s1.2.2.2,[])))) (Sum.elim (fun (v2:(List PosT)×(List (ByteArray×Int))×(List MoveT))=>(Option.bind (α:=((List PosT)×(List (ByteArray×Int))×(List MoveT)) ⊕ Unit) (bif e1.own then some (.inl (v2.1,v2.2.1,v2.2.2)) else (Option.bind (kb c e1.state (-1)) fun r7=>(Option.bind (wG ({state:=r7.1,own:=true}:PosT)) fun r8=>(Option.bind (α:=(Int×(List PosT)×(List (ByteArray×Int))) ⊕ Unit) (bif ((zq r8 v2.2.1).isSome) then some (.inl (((zq r8 v2.2.1).getD 0),v2.1,v2.2.1)) else (bif ((v2.1.length:Int) == 1500) then some (.inr ()) else (Option.bind (zS (α:=PosT) 88 v2.1 [({state:=r7.1,own:=true}:PosT)]) fun e4=>some (.inl ((v2.1.length:Int),e4,(zX r8 (v2.1.length:Int) v2.2.1)))))) (Sum.elim (fun (v3:Int×(List PosT)×(List (ByteArray×Int)))=>(Option.bind (zS (α:=MoveT) 16 v2.2.2 [({step:=(-1),to:=v3.1}:MoveT)]) fun e5=>some (.inl (v3.2.1,v3.2.2,e5)))) (fun (y4:Unit)=>some (.inr ()))))))) (Sum.elim (fun (v4:(List PosT)×(List (ByteArray×Int))×(List MoveT))=>(Option.bind (forR (σ:=(List PosT)×(List (ByteArray×Int))×(List MoveT)) (ρ:=(List PosT)×(List (ByteArray×Int))×(List MoveT)) (c.acts.length:Int) (fun i2 s2=>(Option.bind (α:=((List PosT)×(List (ByteArray×Int))×(List MoveT)) ⊕ Unit) (Option.bind (ze c.acts (i2:Int)) fun e6=>(Option.bind (bif (e6.role == (-1)) then some (-1) else (Option.bind (ze e1.state.holders e6.role) fun e7=>some e7)) fun (v5:Int)=>(bif ((v5 == party) == e1.own) then (Option.bind (kb c e1.state (i2:Int)) fun r9=>(Option.bind (xB r9.1 e1.state) fun r10=>(bif r10 then some (.inl (s2.1,s2.2.1,s2.2.2)) else (Option.bind (wG ({state:=r9.1,own:=true}:PosT)) fun r11=>(Option.bind (α:=(Int×(List PosT)×(List (ByteArray×Int))) ⊕ Unit) (bif ((zq r11 s2.2.1).isSome) then some (.inl (((zq r11 s2.2.1).getD 0),s2.1,s2.2.1)) else (bif ((s2.1.length:Int) == 1500) then some (.inr ()) else (Option.bind (zS (α:=PosT) 88 s2.1 [({state:=r9.1,own:=true}:PosT)]) fun e8=>some (.inl ((s2.1.length:Int),e8,(zX r11 (s2.1.length:Int) s2.2.1)))))) (Sum.elim (fun (v6:Int×(List PosT)×(List (ByteArray×Int)))=>(Option.bind (zS (α:=MoveT) 16 s2.2.2 [({step:=(i2:Int),to:=v6.1}:MoveT)]) fun e9=>some (.inl (v6.2.1,v6.2.2,e9)))) (fun (y6:Unit)=>some (.inr ())))))))) else some (.inl (s2.1,s2.2.1,s2.2.2))))) (Sum.elim (fun (v7:(List PosT)×(List (ByteArray×Int))×(List MoveT))=>some (.inl (v7.1,v7.2.1,v7.2.2))) (fun (y7:Unit)=>some (.inr (s2.1,s2.2.1,s2.2.2)))))) (v4.1,v4.2.1,v4.2.2)) (Sum.elim (fun (s2:(List PosT)×(List (ByteArray×Int))×(List MoveT))=>some (.inl (s2.1,s2.2.1,s2.2.2))) (fun (y8:(List PosT)×(List (ByteArray×Int))×(List MoveT))=>some (.inr ()))))) (fun (y5:Unit)=>some (.inr ()))))) (Sum.elim (fun (y2:Unit)=>some (.inr ())) (fun (y3:(List PosT)×(List (ByteArray×Int))×(List MoveT))=>some (.inl (y3.1,y3.2.1,y3.2.2)))))))) (Sum.elim (fun (v8:(List PosT)×(List (ByteArray×Int))×(List MoveT))=>(Option.bind (zS (α:=List MoveT) 24 s1.2.2.1 [v8.2.2]) fun e10=>some (.inl ((IntKind.i64.wrap (s1.1+1)),v8.1,e10,v8.2.1)))) (fun (y9:Unit)=>some (.inr (.inr ()))))) else some (.inr (.inl (s1.2.1,s1.2.2.1))))) 40 (0,[({state:=r2,own:=p.own}:PosT)],[],(zX r3 0 []))) (Sum.elim (fun (y10:(List PosT)×(List (List MoveT)))=>some (.inl (y10.1,y10.2))) (fun (y11:Unit)=>some (.inr ())))) (Sum.elim (fun (v9:(List PosT)×(List (List MoveT)))=>some (({party:=party,positions:=v9.1,moves:=v9.2}:ArenaT),0)) (fun (y12:Unit)=>some (({party:=0,positions:=[],moves:=[]}:ArenaT),3)))))) else some (({party:=0,positions:=[],moves:=[]}:ArenaT),1)))
theorem zaO (c:ContractT) (party:Int) (p:PosT):Le (Wi c party p) (jb c party p):=by
  unfold Wi jb
  repeat' (first | with_reducible exact Le.refl _ | with_reducible exact Js _ | with_reducible exact WU _ _ _ | with_reducible refine Le.bind ?_ (fun _ => ?_) | with_reducible refine Le.cond _ ?_ ?_ | with_reducible refine Le.forR (fun _ _ => ?_) _ _ | with_reducible refine Le.iter (fun _ => ?_) _ _ | with_reducible refine Le.elim (fun _ => ?_) (fun _ => ?_) _)
noncomputable def Jt (c:ContractT) (a:ArenaT):Option (List Int):=
  (Option.bind (xp c a) fun r1=>(bif r1 then (Option.bind (mkN 8 (a.positions.length:Int)) fun k1=>(Option.bind (mkN 8 (a.positions.length:Int)) fun k2=>(Option.bind (mkN 24 (a.positions.length:Int)) fun k3=>(Option.bind (forR (σ:=(List Int)×(List Int)×(List (List Int))×(List Int)) (ρ:=Unit) (a.positions.length:Int) (fun i1 s1=>(Option.bind (Option.bind (ze a.positions (i1:Int)) fun e1=>(Option.bind (ze a.moves (i1:Int)) fun e2=>(Option.bind (zm k1 (i1:Int)) fun k4=>(Option.bind (s1.1[k4]?) fun e3=>(Option.bind (zm k2 (i1:Int)) fun k5=>(Option.bind (s1.2.1[k5]?) fun e4=>(Option.bind (ze a.moves (i1:Int)) fun e5=>(Option.bind (forR (σ:=(List (List Int))) (ρ:=Unit) (e5.length:Int) (fun i2 s2=>(Option.bind (ze e5 (i2:Int)) fun e6=>(Option.bind (wd s2 k3 e6.to (i1:Int)) fun v1=>some (.inl v1)))) s1.2.2.1) (Sum.elim (fun (s2:(List (List Int)))=>(Option.bind (QC c e1.state a.party) fun r2=>(bif r2 then (Option.bind (zm k1 (i1:Int)) fun k6=>(Option.bind ((s1.1.set k4 (-1))[k6]?) fun e7=>(Option.bind (vX (i1:Int) s1.2.2.2 0) fun r3=>some (((s1.1.set k4 (-1)).set k6 0),(s1.2.1.set k5 (e2.length:Int)),s2,r3)))) else some ((s1.1.set k4 (-1)),(s1.2.1.set k5 (e2.length:Int)),s2,s1.2.2.2)))) (fun _=>none)))))))))) fun (v2:(List Int)×(List Int)×(List (List Int))×(List Int))=>some (.inl (v2.1,v2.2.1,v2.2.2.1,v2.2.2.2)))) ((List.replicate k1 0),(List.replicate k2 0),(List.replicate k3 []),[])) (Sum.elim (fun (s1:(List Int)×(List Int)×(List (List Int))×(List Int))=>(Option.bind (forR (σ:=(List Int)×(List Int)) (ρ:=Unit) (a.positions.length:Int) (fun i3 s3=>(Option.bind (Option.bind (ze a.positions (i3:Int)) fun e8=>(Option.bind (bif e8.own then (Option.bind (zm k2 (i3:Int)) fun k7=>(Option.bind (s1.2.1[k7]?) fun e9=>(bif (e9 == 0) then (Option.bind (zm k1 (i3:Int)) fun k8=>(Option.bind (s3.1[k8]?) fun e10=>some (e10 == (-1)))) else some false))) else some false) fun v3=>(bif v3 then (Option.bind (vY (i3:Int) 1 s3.1 k1 s3.2 0) fun r4=>some (r4.2,r4.1)) else some (s3.1,s3.2)))) fun (v4:(List Int)×(List Int))=>some (.inl (v4.1,v4.2)))) (s1.1,s1.2.2.2)) (Sum.elim (fun (s3:(List Int)×(List Int))=>(Option.bind (Option.bind (xP s3.2 0) fun r5=>(Option.bind (iterN (σ:=Int×Bool×(List Int)×(List Int)×(List Int)×Int) (ρ:=(List Int)) (fun s4=>(bif s4.2.1 then (Option.bind (zm k3 s4.1) fun k9=>(Option.bind (s1.2.2.1[k9]?) fun e11=>(Option.bind (forR (σ:=(List Int)×(List Int)×(List Int)) (ρ:=Unit) (e11.length:Int) (fun i5 s5=>(Option.bind (ze e11 (i5:Int)) fun e12=>(Option.bind (Zd e12 s4.1 s5.2.1 k2 s5.1 k1 a s5.2.2 s4.2.2.2.2.2) fun r6=>some (.inl (r6.2.1,r6.1,r6.2.2))))) (s4.2.2.1,s4.2.2.2.1,s4.2.2.2.2.1)) (Sum.elim (fun (s5:(List Int)×(List Int)×(List Int))=>(Option.bind (xP s5.2.2 s4.2.2.2.2.2) fun r7=>some (.inl (r7.1,r7.2.1,s5.1,s5.2.1,s5.2.2,r7.2.2)))) (fun _=>none))))) else some (.inr s4.2.2.1))) 40 (r5.1,r5.2.1,s3.1,s1.2.1,s3.2,r5.2.2)) (fun (y1:(List Int))=>some y1))) fun (v5:(List Int))=>(Option.bind (eqN k1 v5.length) fun g1=>some v5))) (fun _=>none)))) (fun _=>none)))))) else some []))
theorem Kx (c:ContractT) (a:ArenaT):Le (Jt c a) (wi c a):=by
  unfold Jt wi
  repeat' (first | with_reducible exact Le.refl _ | with_reducible refine Le.bind ?_ (fun _ => ?_) | with_reducible refine Le.cond _ ?_ ?_ | with_reducible refine Le.forR (fun _ _ => ?_) _ _ | with_reducible refine Le.iter (fun _ => ?_) _ _ | with_reducible refine Le.elim (fun _ => ?_) (fun _ => ?_) _)
noncomputable def Ky (c:ContractT) (a:ArenaT):Option (List Bool):=
  (Option.bind (Jt c a) fun r1=>(Option.bind (mkN 1 (r1.length:Int)) fun k1=>(Option.bind (forR (σ:=(List Bool)) (ρ:=Unit) (r1.length:Int) (fun i1 s1=>(Option.bind (ze r1 (i1:Int)) fun e1=>(Option.bind (zm k1 (i1:Int)) fun k2=>(Option.bind (s1[k2]?) fun e2=>some (.inl (s1.set k2 (e1 == (-1)))))))) (List.replicate k1 false)) (Sum.elim (fun (s1:(List Bool))=>(Option.bind (eqN k1 s1.length) fun g1=>some s1)) (fun _=>none)))))
theorem zgd (c:ContractT) (a:ArenaT):Le (Ky c a) (Ze c a):=by
  unfold Ky Ze
  repeat' (first | with_reducible exact Le.refl _ | with_reducible exact Kx _ _ | with_reducible refine Le.bind ?_ (fun _ => ?_) | with_reducible refine Le.cond _ ?_ ?_ | with_reducible refine Le.forR (fun _ _ => ?_) _ _ | with_reducible refine Le.iter (fun _ => ?_) _ _ | with_reducible refine Le.elim (fun _ => ?_) (fun _ => ?_) _)
noncomputable def kD (c:ContractT) (party:Int) (p:PosT):Option (ShieldT×Int):=
  (Option.bind (Wi c party p) fun r1=>(bif (r1.2 == 0) then (Option.bind (Ky c r1.1) fun r2=>(Option.bind (ze r2 0) fun e1=>(bif e1 then (Option.bind (forR (σ:=(List ShieldRowT)) (ρ:=Unit) (r1.1.positions.length:Int) (fun i1 s1=>(Option.bind (Option.bind (ze r1.1.positions (i1:Int)) fun e2=>(Option.bind (ze r2 (i1:Int)) fun e3=>(bif e3 then (Option.bind (vZ r1.1 r2 (i1:Int)) fun r3=>(Option.bind (zS (α:=ShieldRowT) 96 s1 [({position:=e2,move:=r3}:ShieldRowT)]) fun e4=>some e4)) else some s1))) fun (v1:(List ShieldRowT))=>some (.inl v1))) []) (Sum.elim (fun (s1:(List ShieldRowT))=>some (({party:=party,rows:=s1}:ShieldT),0)) (fun _=>none))) else some (({party:=0,rows:=[]}:ShieldT),13)))) else some (({party:=0,rows:=[]}:ShieldT),r1.2)))
theorem zb1 (c:ContractT) (party:Int) (p:PosT):Le (kD c party p) (qZ c party p):=by
  unfold kD qZ
  repeat' (first | with_reducible exact Le.refl _ | with_reducible exact zaO _ _ _ | with_reducible exact zgd _ _ | with_reducible refine Le.bind ?_ (fun _ => ?_) | with_reducible refine Le.cond _ ?_ ?_ | with_reducible refine Le.forR (fun _ _ => ?_) _ _ | with_reducible refine Le.iter (fun _ => ?_) _ _ | with_reducible refine Le.elim (fun _ => ?_) (fun _ => ?_) _)
noncomputable def Ju (c:ContractT) (party:Int) (p:PosT):Option (DoomT×Int):=
  (Option.bind (Wi c party p) fun r1=>(bif (r1.2 == 0) then (Option.bind (Jt c r1.1) fun r2=>(Option.bind (ze r2 0) fun e1=>(bif decide (e1 < 0) then some (({party:=0,rows:=[]}:DoomT),13) else (Option.bind (forR (σ:=(List DoomRowT)) (ρ:=Unit) (r1.1.positions.length:Int) (fun i1 s1=>(Option.bind (Option.bind (ze r1.1.positions (i1:Int)) fun e2=>(Option.bind (ze r2 (i1:Int)) fun e3=>(bif decide (0≤e3) then (Option.bind (ze r2 (i1:Int)) fun e4=>(Option.bind (ya r1.1 r2 (i1:Int)) fun r3=>(Option.bind (zS (α:=DoomRowT) 104 s1 [({position:=e2,rank:=e4,move:=r3}:DoomRowT)]) fun e5=>some e5))) else some s1))) fun (v1:(List DoomRowT))=>some (.inl v1))) []) (Sum.elim (fun (s1:(List DoomRowT))=>some (({party:=party,rows:=s1}:DoomT),0)) (fun _=>none)))))) else some (({party:=0,rows:=[]}:DoomT),r1.2)))
theorem ze0 (c:ContractT) (party:Int) (p:PosT):Le (Ju c party p) (jE c party p):=by
  unfold Ju jE
  repeat' (first | with_reducible exact Le.refl _ | with_reducible exact zaO _ _ _ | with_reducible exact Kx _ _ | with_reducible refine Le.bind ?_ (fun _ => ?_) | with_reducible refine Le.cond _ ?_ ?_ | with_reducible refine Le.forR (fun _ _ => ?_) _ _ | with_reducible refine Le.iter (fun _ => ?_) _ _ | with_reducible refine Le.elim (fun _ => ?_) (fun _ => ?_) _)
noncomputable def WV (c:ContractT) (party:Int) (p:PosT):Option ((List Int)×Int):=
  (Option.bind (jP c party p) fun r1=>(bif r1 then (Option.bind (Option.bind (XW c party p) fun r2=>(Option.bind (bif p.own then (Option.bind (jQ p.state) fun r3=>(Option.bind (zS (α:=Int) 8 [] [(-2)]) fun e1=>some e1)) else some []) fun (v1:(List Int))=>(bif decide (c.days≤p.state.day) then some v1 else (Option.bind (bif p.own then some v1 else (Option.bind (kb c p.state (-1)) fun r4=>(Option.bind (zS (α:=Int) 8 v1 [(-1)]) fun e2=>some e2))) fun (v2:(List Int))=>(Option.bind (forR (σ:=(List Int)) (ρ:=(List Int)) (c.acts.length:Int) (fun i1 s1=>(Option.bind (α:=(List Int) ⊕ (List Int)) (Option.bind (ze c.acts (i1:Int)) fun e3=>(Option.bind (bif (e3.role == (-1)) then some (-1) else (Option.bind (ze p.state.holders e3.role) fun e4=>some e4)) fun (v3:Int)=>(bif ((v3 == party) == p.own) then (Option.bind (kb c p.state (i1:Int)) fun r5=>(Option.bind (Option.bind (xB r5.1 p.state) fun r6=>(bif r6 then some (false,s1) else (Option.bind (zS (α:=Int) 8 s1 [(i1:Int)]) fun e5=>some ((!true),e5)))) fun (v4:Bool×(List Int))=>(bif v4.1 then some (.inr v4.2) else some (.inl v4.2)))) else some (.inl s1)))) (Sum.elim (fun (v5:(List Int))=>some (.inl v5)) (fun (y1:(List Int))=>some (.inr y1))))) v2) (Sum.elim (fun (s1:(List Int))=>some s1) (fun (y2:(List Int))=>some y2))))))) fun (v6:(List Int))=>some (v6,0)) else some ([],1)))
theorem ze1 (c:ContractT) (party:Int) (p:PosT):Le (WV c party p) (wj c party p):=by
  unfold WV wj
  repeat' (first | with_reducible exact Le.refl _ | with_reducible exact WU _ _ _ | with_reducible refine Le.bind ?_ (fun _ => ?_) | with_reducible refine Le.cond _ ?_ ?_ | with_reducible refine Le.forR (fun _ _ => ?_) _ _ | with_reducible refine Le.iter (fun _ => ?_) _ _ | with_reducible refine Le.elim (fun _ => ?_) (fun _ => ?_) _)
noncomputable def Wj (p1:PosT) (p2:Int) (p3:ContractT) (p4:Int) (p5:List (ByteArray×Int)):Option (Int×Bool):=
  (Option.bind (bif (p2 == (-2)) then some (p1.state.day,p1.state.holders,p1.state.used,p1.state.marks) else (Option.bind (kb p3 p1.state p2) fun r1=>some (r1.1.day,r1.1.holders,r1.1.used,r1.1.marks))) fun (v1:Int×(List Int)×(List Bool)×(List MarkT))=>(Option.bind (wG ({state:=({day:=v1.1,holders:=v1.2.1,used:=v1.2.2.1,marks:=v1.2.2.2}:StateT),own:=(!(p2 == (-2)))}:PosT)) fun r2=>some (((zq r2 p5).getD 0),(zq r2 p5).isSome)))
theorem zaP (p1:PosT) (p2:Int) (p3:ContractT) (p4:Int) (p5:List (ByteArray×Int)):Le (Wj p1 p2 p3 p4 p5) (wC p1 p2 p3 p4 p5):=by
  unfold Wj wC
  repeat' (first | with_reducible exact Le.refl _ | with_reducible exact WU _ _ _ | with_reducible exact Js _ | with_reducible refine Le.bind ?_ (fun _ => ?_) | with_reducible refine Le.cond _ ?_ ?_ | with_reducible refine Le.forR (fun _ _ => ?_) _ _ | with_reducible refine Le.iter (fun _ => ?_) _ _ | with_reducible refine Le.elim (fun _ => ?_) (fun _ => ?_) _)
noncomputable def Wk (p1:PosT) (p2:ContractT) (p3:Int) (p4:List (ByteArray×Int)):Option ((List Int)):=
  (Option.bind (WV p2 p3 p1) fun r1=>some r1.1)
theorem zaQ (p1:PosT) (p2:ContractT) (p3:Int) (p4:List (ByteArray×Int)):Le (Wk p1 p2 p3 p4) (wB p1 p2 p3 p4):=by
  unfold Wk wB
  repeat' (first | with_reducible exact Le.refl _ | with_reducible exact ze1 _ _ _ | with_reducible refine Le.bind ?_ (fun _ => ?_) | with_reducible refine Le.cond _ ?_ ?_ | with_reducible refine Le.forR (fun _ _ => ?_) _ _ | with_reducible refine Le.iter (fun _ => ?_) _ _ | with_reducible refine Le.elim (fun _ => ?_) (fun _ => ?_) _)
noncomputable def Wl (p1:Int) (p2:PosT) (p3:ContractT) (p4:Int) (p5:List (ByteArray×Int)):Option (Bool):=
  (Option.bind (Wj p2 p1 p3 p4 p5) fun r1=>some (!r1.2))
theorem zaR (p1:Int) (p2:PosT) (p3:ContractT) (p4:Int) (p5:List (ByteArray×Int)):Le (Wl p1 p2 p3 p4 p5) (wD p1 p2 p3 p4 p5):=by
  unfold Wl wD
  repeat' (first | with_reducible exact Le.refl _ | with_reducible exact zaP _ _ _ _ _ | with_reducible refine Le.bind ?_ (fun _ => ?_) | with_reducible refine Le.cond _ ?_ ?_ | with_reducible refine Le.forR (fun _ _ => ?_) _ _ | with_reducible refine Le.iter (fun _ => ?_) _ _ | with_reducible refine Le.elim (fun _ => ?_) (fun _ => ?_) _)
noncomputable def zb2 (p1:List Int) (p2:PosT) (p3:ContractT) (p4:Int) (p5:List (ByteArray×Int)):Option (Int):=
  (Option.bind (forR (σ:=Unit) (ρ:=Int) (p1.length:Int) (fun i1 s1=>(Option.bind (zm p1.length (i1:Int)) fun k1=>(Option.bind (p1[k1]?) fun e1=>(Option.bind (Wl e1 p2 p3 p4 p5) fun r1=>(bif r1 then some (.inr (i1:Int)) else some (.inl ())))))) ()) (Sum.elim (fun (s1:Unit)=>some (-1)) (fun (y1:Int)=>some y1)))
theorem zhG (p1:List Int) (p2:PosT) (p3:ContractT) (p4:Int) (p5:List (ByteArray×Int)):Le (zb2 p1 p2 p3 p4 p5) (Jf p1 p2 p3 p4 p5):=by
  unfold zb2 Jf
  repeat' (first | with_reducible exact Le.refl _ | with_reducible exact zaR _ _ _ _ _ | with_reducible refine Le.bind ?_ (fun _ => ?_) | with_reducible refine Le.cond _ ?_ ?_ | with_reducible refine Le.forR (fun _ _ => ?_) _ _ | with_reducible refine Le.iter (fun _ => ?_) _ _ | with_reducible refine Le.elim (fun _ => ?_) (fun _ => ?_) _)
noncomputable def zb3 (p1:List Int) (p2:PosT) (p3:ContractT) (p4:Int) (p5:List (ByteArray×Int)):Option (Int):=
  (Option.bind (forR (σ:=Unit) (ρ:=Int) (p1.length:Int) (fun i1 s1=>(Option.bind (ze p1 (i1:Int)) fun e1=>(Option.bind (Wl e1 p2 p3 p4 p5) fun r1=>(bif r1 then some (.inr (i1:Int)) else some (.inl ()))))) ()) (Sum.elim (fun (s1:Unit)=>some (-1)) (fun (y1:Int)=>some y1)))
theorem zhH (p1:List Int) (p2:PosT) (p3:ContractT) (p4:Int) (p5:List (ByteArray×Int)):Le (zb3 p1 p2 p3 p4 p5) (Jg p1 p2 p3 p4 p5):=by
  unfold zb3 Jg
  repeat' (first | with_reducible exact Le.refl _ | with_reducible exact zaR _ _ _ _ _ | with_reducible refine Le.bind ?_ (fun _ => ?_) | with_reducible refine Le.cond _ ?_ ?_ | with_reducible refine Le.forR (fun _ _ => ?_) _ _ | with_reducible refine Le.iter (fun _ => ?_) _ _ | with_reducible refine Le.elim (fun _ => ?_) (fun _ => ?_) _)
noncomputable def zb4 (p1:List Int) (p2:PosT) (p3:ContractT) (p4:Int) (p5:List (ByteArray×Int)):Option (Bool):=
  (Option.bind (zb2 p1 p2 p3 p4 p5) fun r1=>some (decide (0≤r1)))
theorem zhI (p1:List Int) (p2:PosT) (p3:ContractT) (p4:Int) (p5:List (ByteArray×Int)):Le (zb4 p1 p2 p3 p4 p5) (ZQ p1 p2 p3 p4 p5):=by
  unfold zb4 ZQ
  repeat' (first | with_reducible exact Le.refl _ | with_reducible exact zhG _ _ _ _ _ | with_reducible refine Le.bind ?_ (fun _ => ?_) | with_reducible refine Le.cond _ ?_ ?_ | with_reducible refine Le.forR (fun _ _ => ?_) _ _ | with_reducible refine Le.iter (fun _ => ?_) _ _ | with_reducible refine Le.elim (fun _ => ?_) (fun _ => ?_) _)
noncomputable def zb5 (p1:List Int) (p2:PosT) (p3:ContractT) (p4:Int) (p5:List (ByteArray×Int)):Option (Bool):=
  (Option.bind (zb3 p1 p2 p3 p4 p5) fun r1=>some (decide (0≤r1)))
theorem zhJ (p1:List Int) (p2:PosT) (p3:ContractT) (p4:Int) (p5:List (ByteArray×Int)):Le (zb5 p1 p2 p3 p4 p5) (ZR p1 p2 p3 p4 p5):=by
  unfold zb5 ZR
  repeat' (first | with_reducible exact Le.refl _ | with_reducible exact zhH _ _ _ _ _ | with_reducible refine Le.bind ?_ (fun _ => ?_) | with_reducible refine Le.cond _ ?_ ?_ | with_reducible refine Le.forR (fun _ _ => ?_) _ _ | with_reducible refine Le.iter (fun _ => ?_) _ _ | with_reducible refine Le.elim (fun _ => ?_) (fun _ => ?_) _)
noncomputable def Kz (p1:ShieldW) (p2:Int) (p3:ContractT) (p4:Int) (p5:List (ByteArray×Int)):Option (Bool):=
  (Option.bind (ze p1.s.rows p2) fun e1=>(Option.bind (xY p3 e1.position.state p4) fun r1=>(bif r1 then some false else (Option.bind (Wk e1.position p3 p4 p5) fun r2=>(bif e1.position.own then (Option.bind (jS r2 e1.move) fun r3=>(bif r3 then (Option.bind (zb4 [e1.move] e1.position p3 p4 p5) fun r4=>some (!r4)) else some false)) else (Option.bind (zb5 r2 e1.position p3 p4 p5) fun r5=>some (!r5)))))))
theorem zge (p1:ShieldW) (p2:Int) (p3:ContractT) (p4:Int) (p5:List (ByteArray×Int)):Le (Kz p1 p2 p3 p4 p5) (yQ p1 p2 p3 p4 p5):=by
  unfold Kz yQ
  repeat' (first | with_reducible exact Le.refl _ | with_reducible exact zaQ _ _ _ _ | with_reducible exact zhI _ _ _ _ _ | with_reducible exact zhJ _ _ _ _ _ | with_reducible refine Le.bind ?_ (fun _ => ?_) | with_reducible refine Le.cond _ ?_ ?_ | with_reducible refine Le.forR (fun _ _ => ?_) _ _ | with_reducible refine Le.iter (fun _ => ?_) _ _ | with_reducible refine Le.elim (fun _ => ?_) (fun _ => ?_) _)
noncomputable def KB (p1:ContractT) (p2:ShieldW):Option (Bool):=
  (Option.bind (QE p2) fun r1=>(Option.bind (bif decide (r1 < 0) then some true else (bif decide (p1.parties≤r1) then some true else (Option.bind (jv p2) fun r2=>(bif decide (r2 < 1) then some true else (Option.bind (jv p2) fun r3=>some (decide (1500 < r3))))))) fun v1=>(bif v1 then some false else (Option.bind (jv p2) fun r4=>(Option.bind (forR (σ:=(List (ByteArray×Int))) (ρ:=Unit) r4 (fun i1 s1=>(Option.bind (α:=(List (ByteArray×Int)) ⊕ Unit) (Option.bind (Zf p2 (i1:Int)) fun r5=>(Option.bind (qP p1 r5.1.state) fun r6=>(bif r6 then (Option.bind (wG r5.1) fun r7=>(Option.bind (bif ((zq r7 s1).isSome) then some (decide (r5.2 < ((zq r7 s1).getD 0))) else some true) fun v2=>(bif v2 then some (.inl (zX r7 r5.2 s1)) else some (.inl s1)))) else some (.inr ())))) (Sum.elim (fun (v3:(List (ByteArray×Int)))=>some (.inl v3)) (fun (y1:Unit)=>some (.inr ()))))) []) (Sum.elim (fun (s1:(List (ByteArray×Int)))=>(Option.bind (jv p2) fun r8=>(Option.bind (forR (σ:=Unit) (ρ:=Unit) r8 (fun i2 s2=>(Option.bind (Kz p2 (i2:Int) p1 r1 s1) fun r9=>(bif r9 then some (.inl ()) else some (.inr ())))) ()) (Sum.elim (fun (s2:Unit)=>some true) (fun (y3:Unit)=>some false))))) (fun (y2:Unit)=>some false)))))))
theorem zgf (p1:ContractT) (p2:ShieldW):Le (KB p1 p2) (Zg p1 p2):=by
  unfold KB Zg
  repeat' (first | with_reducible exact Le.refl _ | with_reducible exact Js _ | with_reducible exact zge _ _ _ _ _ | with_reducible refine Le.bind ?_ (fun _ => ?_) | with_reducible refine Le.cond _ ?_ ?_ | with_reducible refine Le.forR (fun _ _ => ?_) _ _ | with_reducible refine Le.iter (fun _ => ?_) _ _ | with_reducible refine Le.elim (fun _ => ?_) (fun _ => ?_) _)
noncomputable def jW (c:ContractT) (s:ShieldT):Option (Bool):=
  (Option.bind (KB c ({s:=s}:ShieldW)) fun r1=>some r1)
theorem WW (c:ContractT) (s:ShieldT):Le (jW c s) (qk c s):=by
  unfold jW qk
  repeat' (first | with_reducible exact Le.refl _ | with_reducible exact zgf _ _ | with_reducible refine Le.bind ?_ (fun _ => ?_) | with_reducible refine Le.cond _ ?_ ?_ | with_reducible refine Le.forR (fun _ _ => ?_) _ _ | with_reducible refine Le.iter (fun _ => ?_) _ _ | with_reducible refine Le.elim (fun _ => ?_) (fun _ => ?_) _)
noncomputable def Wm (p1:PosT) (p2:Int) (p3:Int) (p4:ContractT) (p5:Int) (p6:List (ByteArray×Int)):Option (Bool):=
  (Option.bind (Wj p1 p2 p4 p5 p6) fun r1=>(Option.bind (bif r1.2 then some (decide (r1.1 < p3)) else some false) fun v1=>some v1))
theorem zaS (p1:PosT) (p2:Int) (p3:Int) (p4:ContractT) (p5:Int) (p6:List (ByteArray×Int)):Le (Wm p1 p2 p3 p4 p5 p6) (wE p1 p2 p3 p4 p5 p6):=by
  unfold Wm wE
  repeat' (first | with_reducible exact Le.refl _ | with_reducible exact zaP _ _ _ _ _ | with_reducible refine Le.bind ?_ (fun _ => ?_) | with_reducible refine Le.cond _ ?_ ?_ | with_reducible refine Le.forR (fun _ _ => ?_) _ _ | with_reducible refine Le.iter (fun _ => ?_) _ _ | with_reducible refine Le.elim (fun _ => ?_) (fun _ => ?_) _)
noncomputable def KC (p1:Int) (p2:PosT) (p3:Int) (p4:ContractT) (p5:Int) (p6:List (ByteArray×Int)):Option (Bool):=
  (Option.bind (Wm p2 p1 p3 p4 p5 p6) fun r1=>some (!r1))
theorem zgg (p1:Int) (p2:PosT) (p3:Int) (p4:ContractT) (p5:Int) (p6:List (ByteArray×Int)):Le (KC p1 p2 p3 p4 p5 p6) (Zi p1 p2 p3 p4 p5 p6):=by
  unfold KC Zi
  repeat' (first | with_reducible exact Le.refl _ | with_reducible exact zaS _ _ _ _ _ _ | with_reducible refine Le.bind ?_ (fun _ => ?_) | with_reducible refine Le.cond _ ?_ ?_ | with_reducible refine Le.forR (fun _ _ => ?_) _ _ | with_reducible refine Le.iter (fun _ => ?_) _ _ | with_reducible refine Le.elim (fun _ => ?_) (fun _ => ?_) _)
noncomputable def zb6 (p1:List Int) (p2:PosT) (p3:Int) (p4:ContractT) (p5:Int) (p6:List (ByteArray×Int)):Option (Int):=
  (Option.bind (forR (σ:=Unit) (ρ:=Int) (p1.length:Int) (fun i1 s1=>(Option.bind (ze p1 (i1:Int)) fun e1=>(Option.bind (KC e1 p2 p3 p4 p5 p6) fun r1=>(bif r1 then some (.inr (i1:Int)) else some (.inl ()))))) ()) (Sum.elim (fun (s1:Unit)=>some (-1)) (fun (y1:Int)=>some y1)))
theorem zhK (p1:List Int) (p2:PosT) (p3:Int) (p4:ContractT) (p5:Int) (p6:List (ByteArray×Int)):Le (zb6 p1 p2 p3 p4 p5 p6) (Jh p1 p2 p3 p4 p5 p6):=by
  unfold zb6 Jh
  repeat' (first | with_reducible exact Le.refl _ | with_reducible exact zgg _ _ _ _ _ _ | with_reducible refine Le.bind ?_ (fun _ => ?_) | with_reducible refine Le.cond _ ?_ ?_ | with_reducible refine Le.forR (fun _ _ => ?_) _ _ | with_reducible refine Le.iter (fun _ => ?_) _ _ | with_reducible refine Le.elim (fun _ => ?_) (fun _ => ?_) _)
noncomputable def zb7 (p1:List Int) (p2:PosT) (p3:Int) (p4:ContractT) (p5:Int) (p6:List (ByteArray×Int)):Option (Bool):=
  (Option.bind (zb6 p1 p2 p3 p4 p5 p6) fun r1=>some (decide (0≤r1)))
theorem zhL (p1:List Int) (p2:PosT) (p3:Int) (p4:ContractT) (p5:Int) (p6:List (ByteArray×Int)):Le (zb7 p1 p2 p3 p4 p5 p6) (ZT p1 p2 p3 p4 p5 p6):=by
  unfold zb7 ZT
  repeat' (first | with_reducible exact Le.refl _ | with_reducible exact zhK _ _ _ _ _ _ | with_reducible refine Le.bind ?_ (fun _ => ?_) | with_reducible refine Le.cond _ ?_ ?_ | with_reducible refine Le.forR (fun _ _ => ?_) _ _ | with_reducible refine Le.iter (fun _ => ?_) _ _ | with_reducible refine Le.elim (fun _ => ?_) (fun _ => ?_) _)
noncomputable def KF (p1:DoomW) (p2:Int) (p3:ContractT) (p4:Int) (p5:List (ByteArray×Int)):Option (Bool):=
  (Option.bind (ze p1.d.rows p2) fun e1=>(bif decide (e1.rank≤0) then (Option.bind (bif (e1.rank == 0) then (Option.bind (xY p3 e1.position.state p4) fun r1=>some r1) else some false) fun v1=>some v1) else (Option.bind (Wk e1.position p3 p4 p5) fun r2=>(bif e1.position.own then (Option.bind (zb7 r2 e1.position e1.rank p3 p4 p5) fun r5=>some (!r5)) else (Option.bind (Option.bind (jS r2 e1.move) fun r3=>(bif r3 then (Option.bind (Wm e1.position e1.move e1.rank p3 p4 p5) fun r4=>some r4) else some false)) fun v2=>some v2)))))
theorem zgh (p1:DoomW) (p2:Int) (p3:ContractT) (p4:Int) (p5:List (ByteArray×Int)):Le (KF p1 p2 p3 p4 p5) (yR p1 p2 p3 p4 p5):=by
  unfold KF yR
  repeat' (first | with_reducible exact Le.refl _ | with_reducible exact zaQ _ _ _ _ | with_reducible exact zhL _ _ _ _ _ _ | with_reducible exact zaS _ _ _ _ _ _ | with_reducible refine Le.bind ?_ (fun _ => ?_) | with_reducible refine Le.cond _ ?_ ?_ | with_reducible refine Le.forR (fun _ _ => ?_) _ _ | with_reducible refine Le.iter (fun _ => ?_) _ _ | with_reducible refine Le.elim (fun _ => ?_) (fun _ => ?_) _)
noncomputable def KG (p1:ContractT) (p2:DoomW):Option (Bool):=
  (Option.bind (QF p2) fun r1=>(Option.bind (bif decide (r1 < 0) then some true else (bif decide (p1.parties≤r1) then some true else (Option.bind (jw p2) fun r2=>(bif decide (r2 < 1) then some true else (Option.bind (jw p2) fun r3=>some (decide (1500 < r3))))))) fun v1=>(bif v1 then some false else (Option.bind (jw p2) fun r4=>(Option.bind (forR (σ:=(List (ByteArray×Int))) (ρ:=Unit) r4 (fun i1 s1=>(Option.bind (α:=(List (ByteArray×Int)) ⊕ Unit) (Option.bind (Zh p2 (i1:Int)) fun r5=>(Option.bind (qP p1 r5.1.state) fun r6=>(bif r6 then (Option.bind (wG r5.1) fun r7=>(Option.bind (bif ((zq r7 s1).isSome) then some (decide (r5.2 < ((zq r7 s1).getD 0))) else some true) fun v2=>(bif v2 then some (.inl (zX r7 r5.2 s1)) else some (.inl s1)))) else some (.inr ())))) (Sum.elim (fun (v3:(List (ByteArray×Int)))=>some (.inl v3)) (fun (y1:Unit)=>some (.inr ()))))) []) (Sum.elim (fun (s1:(List (ByteArray×Int)))=>(Option.bind (jw p2) fun r8=>(Option.bind (forR (σ:=Unit) (ρ:=Unit) r8 (fun i2 s2=>(Option.bind (KF p2 (i2:Int) p1 r1 s1) fun r9=>(bif r9 then some (.inl ()) else some (.inr ())))) ()) (Sum.elim (fun (s2:Unit)=>some true) (fun (y3:Unit)=>some false))))) (fun (y2:Unit)=>some false)))))))
theorem zgi (p1:ContractT) (p2:DoomW):Le (KG p1 p2) (Zj p1 p2):=by
  unfold KG Zj
  repeat' (first | with_reducible exact Le.refl _ | with_reducible exact Js _ | with_reducible exact zgh _ _ _ _ _ | with_reducible refine Le.bind ?_ (fun _ => ?_) | with_reducible refine Le.cond _ ?_ ?_ | with_reducible refine Le.forR (fun _ _ => ?_) _ _ | with_reducible refine Le.iter (fun _ => ?_) _ _ | with_reducible refine Le.elim (fun _ => ?_) (fun _ => ?_) _)
noncomputable def vK (c:ContractT) (d:DoomT):Option (Bool):=
  (Option.bind (KG c ({d:=d}:DoomW)) fun r1=>some r1)
theorem KH (c:ContractT) (d:DoomT):Le (vK c d) (qF c d):=by
  unfold vK qF
  repeat' (first | with_reducible exact Le.refl _ | with_reducible exact zgi _ _ | with_reducible refine Le.bind ?_ (fun _ => ?_) | with_reducible refine Le.cond _ ?_ ?_ | with_reducible refine Le.forR (fun _ _ => ?_) _ _ | with_reducible refine Le.iter (fun _ => ?_) _ _ | with_reducible refine Le.elim (fun _ => ?_) (fun _ => ?_) _)
noncomputable def KI:Option (Bool):=
  (Option.bind (kL) fun r1=>(Option.bind (WT r1) fun r2=>(Option.bind (kD r1 0 ({state:=r2.1,own:=true}:PosT)) fun r3=>(Option.bind (Ju r1 0 ({state:=r2.1,own:=true}:PosT)) fun r4=>(Option.bind (Ju r1 0 ({state:=r2.1,own:=false}:PosT)) fun r5=>(Option.bind (kD r1 0 ({state:=r2.1,own:=false}:PosT)) fun r6=>(Option.bind (bif (r2.2 == 0) then (bif (r3.2 == 0) then (bif (r4.2 == 13) then (bif (r5.2 == 0) then (bif (r6.2 == 13) then (bif ((r3.1.rows.length:Int) == 5) then some (!((r5.1.rows.length:Int) == 3)) else some true) else some true) else some true) else some true) else some true) else some true) fun v1=>(bif v1 then some false else (Option.bind (Option.bind (ze r3.1.rows 0) fun e1=>(bif (e1.move == 0) then (Option.bind (ze r3.1.rows 1) fun e2=>(bif (e2.move == (-2)) then (Option.bind (ze r5.1.rows 0) fun e3=>(bif (e3.rank == 1) then (bif (e3.move == (-1)) then (Option.bind (ze r5.1.rows 1) fun e4=>some (e4.rank == 0)) else some false) else some false)) else some false)) else some false)) fun v2=>(Option.bind (Option.bind (jW r1 r3.1) fun r7=>(bif r7 then (Option.bind (vK r1 r5.1) fun r8=>some r8) else some false)) fun v3=>(Option.bind (kG r3.1.rows 0 4) fun e5=>(Option.bind (YO (α:=DoomRowT) 104 [] r5.1.rows) fun e6=>(Option.bind (zm e6.length 0) fun k1=>(Option.bind (e6[k1]?) fun e7=>(Option.bind (bif v2 then (bif v3 then (Option.bind (jW r1 ({party:=0,rows:=e5}:ShieldT)) fun r9=>(bif r9 then some false else (Option.bind (vK r1 ({party:=0,rows:=(e6.set k1 ({e7 with move:=0}:DoomRowT))}:DoomT)) fun r10=>(bif r10 then some false else (Option.bind (jW r1 ({party:=0,rows:=[]}:ShieldT)) fun r11=>some (!r11)))))) else some false) else some false) fun v4=>some v4)))))))))))))))
theorem zdM:Le KI yS:=by
  unfold KI yS
  repeat' (first | with_reducible exact Le.refl _ | with_reducible exact zeZ _ | with_reducible exact zb1 _ _ _ | with_reducible exact ze0 _ _ _ | with_reducible exact WW _ _ | with_reducible exact KH _ _ | with_reducible refine Le.bind ?_ (fun _ => ?_) | with_reducible refine Le.cond _ ?_ ?_ | with_reducible refine Le.elim (fun _ => ?_) (fun _ => ?_) _)
theorem ze2:yS=some true:=zdM true (by kernel_rfl)
end Go.Proofs.YtmoedieenlaegaaGreatDoor
namespace Go.Proofs.YtmoedieenlaegaaGreatDoor
open Go.RowKit
set_option linter.unusedSimpArgs false
set_option linter.unusedVariables false
set_option maxRecDepth 100000
section
theorem KJ {b:Bool}:kK (fun _:Unit=>True) (fun _:Unit=>True) (bif b then (.inr ():Unit ⊕ Unit) else .inl ()):=by cases b<;>trivial
theorem zgj {c:ContractT} (hc:c.Ok) (s:ShieldT) (d:DoomT):Ret (Zk c s d) (fun b=>b=true→s.rows.length≤300∧d.rows.length≤300):=by
  unfold Zk
  refine Ret.bindE (v := !(Yf c&&(decide (s.rows.length≤300)&&decide (d.rows.length≤300)))) ?_ ?_
  · rw [zhx hc]
    simp only [Option.bind_some]
    cases Yf c with
    | false=>rfl
    | true=>
      by_cases h1:(300:Int) < (s.rows.length:Int)
      · rw [decide_eq_true h1,decide_eq_false (show ¬ s.rows.length≤300 by omega)];rfl
      · rw [decide_eq_false h1,decide_eq_true (show s.rows.length≤300 by omega)]
        by_cases h2:(300:Int) < (d.rows.length:Int)
        · rw [decide_eq_true h2,decide_eq_false (show ¬ d.rows.length≤300 by omega)];rfl
        · rw [decide_eq_false h2,decide_eq_true (show d.rows.length≤300 by omega)];rfl
  refine Ret.ite (fun _=>Ret.some fun h=>by cases h) (fun hb => ?_)
  simp only [Bool.not_eq_false',Bool.and_eq_true,decide_eq_true_eq] at hb
  obtain ⟨_,h1,h2⟩:=hb
  refine Ret.bind (P:=fun _=>True) (Ret.forL (fun _ _=>True) (by omega) trivial (fun i _ hi _ => ?_) (fun _ _=>trivial)) ?_
  · refine Ret.bindE (zx (List.getElem?_eq_getElem hi)) ?_
    simp only [zk,Option.bind_some]
    exact Ret.some KJ
  · rintro (_ | _) _
    · simp only [Sum.elim_inl]
      refine Ret.bind (P:=fun _=>True) (Ret.forL (fun _ _=>True) (by omega) trivial (fun i _ hi _ => ?_) (fun _ _=>trivial)) ?_
      · refine Ret.bindE (zx (List.getElem?_eq_getElem hi)) ?_
        simp only [zk,Option.bind_some]
        exact Ret.some KJ
      · rintro (_ | _) _
        · exact Ret.some fun _=>⟨h1,h2⟩
        · exact Ret.some fun h=>by cases h
    · exact Ret.some fun h=>by cases h
section
variable {c:ContractT} {party:Int} {p:PosT} {a:ArenaT}
theorem zdN (hc:c.Ok) (A:ArOk c party p a) {i:Nat} (hi:i < a.positions.length) (hs:z7 c party a.positions[i]=true):vZ a (a.positions.map (z7 c party)) (i:Int)=some (vJ c party a.positions[i]):=by
  refine Ret.eq ?_
  unfold vZ
  obtain ⟨T,hT,hst,_⟩:=A.mv hi
  have hTl:=A.len hc hi hT
  refine Ret.bindE (zx (List.getElem?_eq_getElem hi)) ?_
  unfold vJ
  refine Ret.ite (fun ho => ?_) (fun ho=>Ret.some (by rw [ho];rfl))
  rw [ho,cond_true]
  have hadv:yZ c party a.positions[i]=((T.map (·.step)).find? fun m=>z7 c party (target c a.positions[i] m)).getD (-2):=by
    unfold yZ;rw [ho,hs,hst];rfl
  refine Ret.bindE (zx hT) ?_
  refine Ret.bind (P:=fun o:Unit ⊕ Int=>(o=.inl ()∧∀ m∈T,z7 c party (target c a.positions[i] m.step)=false)∨o=.inr (yZ c party a.positions[i]))
    (Ret.forL (fun k _=>∀ (j:Nat) (hj:j < T.length),j < k→z7 c party (target c a.positions[i] T[j].step)=false) (by omega) (fun j _ hj=>by omega) (fun k _ hk hk2 => ?_) (fun _ h=>.inl ⟨rfl,fun m hm=>by obtain ⟨j,hj,rfl⟩:=List.getElem_of_mem hm;exact h j hj hj⟩)) ?_
  · refine Ret.bindE (zx (List.getElem?_eq_getElem hk)) ?_
    refine Ret.bindE (zf9 A hi hT (List.getElem_mem hk)) ?_
    refine Ret.ite (fun hsf=>Ret.some (.inr ?_)) (fun hsf=>Ret.some fun j hj hjk => ?_)
    · rw [hadv]
      have hf2:T.find? ((fun m=>z7 c party (target c a.positions[i] m))∘fun x=>x.step)=some T[k]:=by
        refine List.find?_eq_some_iff_getElem.2 ⟨hsf,k,hk,rfl,fun j hj => ?_⟩
        have:=hk2 j (by omega) hj
        simp only [Function.comp_apply,this,Bool.not_false]
      rw [List.find?_map,hf2];rfl
    · by_cases e:j=k
      · subst e;exact hsf
      · exact hk2 j hj (by omega)
  · rintro _ (⟨rfl,h⟩ | rfl)
    · exfalso
      obtain ⟨_,m,hm,h2⟩:=(Kr ho).1 (qA.1 hs)
      rw [←hst] at hm
      obtain ⟨t,ht,rfl⟩:=List.mem_map.1 hm
      have:=h t ht
      rw [qA.2 h2] at this
      cases this
    · exact Ret.some rfl
theorem zai {l:List PosT} {i:Nat} (hi:i < l.length):qq c party (l.take (i+1))=qq c party (l.take i)++(bif z7 c party l[i] then [{position:=l[i],move:=vJ c party l[i]}] else []):=by
  unfold qq
  rw [List.take_succ_eq_append_getElem hi,List.filter_append,List.map_append]
  congr 1
  cases h:z7 c party l[i]<;>simp [h]
theorem Wn (l:List PosT):(qq c party l).length≤l.length:=by
  unfold qq
  rw [List.length_map]
  exact List.length_filter_le _ _
theorem zdO (hc:c.Ok) (A:ArOk c party p a) (hf:jb c party p=some (a,0)):qZ c party p=some (bif z7 c party p then ({party:=party,rows:=qq c party a.positions},0) else ({party:=0,rows:=[]},13)):=by
  refine Ret.eq ?_
  have hn:a.positions.length≤1500:=A.F.inv.len
  have hpos:=A.pos
  have hp0:0 < a.positions.length:=by omega
  have e0:a.positions[0]=p:=by
    have:=A.F.first
    rw [List.getElem?_eq_getElem hp0] at this
    exact Option.some.inj this
  unfold qZ
  refine Ret.bindE hf ?_
  refine Ret.ite (fun _ => ?_) (fun h=>by cases h)
  dsimp only
  refine Ret.bindE (zeV hc A) ?_
  have i0:ze (a.positions.map (z7 c party)) 0=some (z7 c party p):=by
    have:=zx (l:=a.positions.map (z7 c party)) (i:=0) (e:=z7 c party p) (by rw [List.getElem?_map,List.getElem?_eq_getElem hp0,e0];rfl)
    exact this
  refine Ret.bindE i0 ?_
  refine Ret.ite (fun hs => ?_) (fun hs=>Ret.some (by rw [hs];rfl))
  rw [hs]
  refine Ret.bind (P:=fun o:List ShieldRowT ⊕ Unit=>o=.inl (qq c party a.positions)) (Ret.forL (fun i s=>s=qq c party (a.positions.take i)) (by omega) (by simp [qq]) (fun i s hi h => ?_) (fun s h=>by rw [h,List.take_of_length_le (Nat.le_refl _)])) ?_
  · have hl:=Wn (c:=c) (party:=party) (a.positions.take i)
    have hl2:(a.positions.take i).length≤i:=by rw [List.length_take];omega
    refine Ret.bind (P:=fun l=>l=qq c party (a.positions.take (i+1))) ?_ (fun l h=>Ret.some h)
    refine Ret.bindE (zx (List.getElem?_eq_getElem hi)) ?_
    refine Ret.bindE (zaI A hi) ?_
    rw [zai hi,h]
    refine Ret.ite (fun hb => ?_) (fun hb=>Ret.some (by rw [hb,cond_false,List.append_nil]))
    refine Ret.bindE (zdN hc A hi hb) ?_
    refine Ret.bindE (xz (by simp only [List.length_cons,List.length_nil];omega)) ?_
    exact Ret.some (by rw [hb];rfl)
  · rintro _ rfl
    exact Ret.some rfl
structure DRow (c:ContractT) (party:Int) (r:DoomRowT):Prop where
  rk:r.rank=rkP c party r.position
  lo:0≤r.rank
  mv:0 < r.rank→r.position.own=false→r.move∈zh c party r.position∧0≤rkP c party (target c r.position r.move)∧rkP c party (target c r.position r.move) < r.rank
theorem Zp (A:ArOk c party p a) {i:Nat} (hi:i < a.positions.length):ze (a.positions.map (rkP c party)) (i:Int)=some (rkP c party a.positions[i]):=zx (by rw [List.getElem?_map,List.getElem?_eq_getElem hi];rfl)
theorem zgk (A:ArOk c party p a) {i:Nat} (hi:i < a.positions.length) {T:List MoveT} (hT:a.moves[i]?=some T) {m:MoveT} (hm:m∈T):ze (a.positions.map (rkP c party)) m.to=some (rkP c party (target c a.positions[i] m.step)):=by
  obtain ⟨t1,t2⟩:=A.to hi hT hm
  obtain ⟨_,_,t3,t4⟩:=A.tgt hi hT hm
  have:=Zp A t3
  rw [t4] at this
  rw [←this]
  congr 1
  omega
theorem zdP (hc:c.Ok) (A:ArOk c party p a) {i:Nat} (hi:i < a.positions.length):Ret (ya a (a.positions.map (rkP c party)) (i:Int)) (fun m=>0 < rkP c party a.positions[i]→a.positions[i].own=false→m∈zh c party a.positions[i]∧0≤rkP c party (target c a.positions[i] m)∧rkP c party (target c a.positions[i] m) < rkP c party a.positions[i]):=by
  unfold ya
  obtain ⟨T,hT,hst,_⟩:=A.mv hi
  have hTl:=A.len hc hi hT
  refine Ret.bindE (v:=a.positions[i].own||(rkP c party a.positions[i] == 0)) ?_ ?_
  · rw [zx (List.getElem?_eq_getElem hi),Zp A hi]
    simp only [Option.bind_some]
    cases a.positions[i].own<;>rfl
  refine Ret.ite (fun hb=>Ret.some fun h0 ho => ?_) (fun hb => ?_)
  · rw [ho,Bool.false_or,beq_iff_eq] at hb
    omega
  simp only [Bool.or_eq_false_iff,beq_eq_false_iff_ne] at hb
  refine Ret.bindE (zx hT) ?_
  refine Ret.bind (P:=fun o:(Int×Int) ⊕ Unit=>∃ s,o=.inl s∧((s.2 = -1∧∀ (j:Nat) (hj:j < T.length),rkP c party (target c a.positions[i] T[j].step) < 0)∨(0≤s.2∧s.1∈zh c party a.positions[i]∧s.2=rkP c party (target c a.positions[i] s.1)∧∀ (j:Nat) (hj:j < T.length),0≤rkP c party (target c a.positions[i] T[j].step)→s.2≤rkP c party (target c a.positions[i] T[j].step))))
    (Ret.forL (fun k s=>(s.2 = -1∧∀ (j:Nat) (hj:j < T.length),j < k→rkP c party (target c a.positions[i] T[j].step) < 0)∨(0≤s.2∧s.1∈zh c party a.positions[i]∧s.2=rkP c party (target c a.positions[i] s.1)∧∀ (j:Nat) (hj:j < T.length),j < k→0≤rkP c party (target c a.positions[i] T[j].step)→s.2≤rkP c party (target c a.positions[i] T[j].step))) (by omega) (.inl ⟨rfl,fun j _ hj=>by omega⟩) (fun k s hk hI => ?_) (fun s h=>⟨s,rfl,?_⟩)) ?_
  · have hmem:T[k].step∈zh c party a.positions[i]:=by rw [←hst];exact List.mem_map.2 ⟨_,List.getElem_mem hk,rfl⟩
    refine Ret.bind (P:=fun v:Int×Int=>(v.2 = -1∧∀ (j:Nat) (hj:j < T.length),j < k+1→rkP c party (target c a.positions[i] T[j].step) < 0)∨(0≤v.2∧v.1∈zh c party a.positions[i]∧v.2=rkP c party (target c a.positions[i] v.1)∧∀ (j:Nat) (hj:j < T.length),j < k+1→0≤rkP c party (target c a.positions[i] T[j].step)→v.2≤rkP c party (target c a.positions[i] T[j].step))) ?_ (fun v h=>Ret.some h)
    refine Ret.bindE (zx (List.getElem?_eq_getElem hk)) ?_
    refine Ret.bindE (zgk A hi hT (List.getElem_mem hk)) ?_
    generalize hx:rkP c party (target c a.positions[i] T[k].step)=x at *
    have last:∀ (j:Nat) (hj:j < T.length),j < k+1→¬ j < k→rkP c party (target c a.positions[i] T[j].step)=x:=fun j hj h1 h2=>by
      obtain rfl:j=k:=by omega
      exact hx
    refine Ret.bindE (v:=decide (0≤x)&&(decide (s.2 < 0)||decide (x < s.2))) ?_ ?_
    · cases decide (0≤x)<;>cases decide (s.2 < 0)<;>rfl
    refine Ret.ite (fun hb2=>Ret.some (.inr ?_)) (fun hb2=>Ret.some ?_)
    · simp only [Bool.and_eq_true,Bool.or_eq_true,decide_eq_true_eq] at hb2
      refine ⟨hb2.1,hmem,hx.symm,fun j hj hjk h0 => ?_⟩
      by_cases hjk2:j < k
      · rcases hI with ⟨g1,g2⟩ | ⟨g1,g2,g3,g4⟩
        · have:=g2 j hj hjk2;omega
        · have:=g4 j hj hjk2 h0
          show x≤_
          omega
      · rw [last j hj hjk hjk2];exact Int.le_refl _
    · rcases hI with ⟨g1,g2⟩ | ⟨g1,g2,g3,g4⟩
      · left
        refine ⟨g1,fun j hj hjk => ?_⟩
        by_cases hjk2:j < k
        · exact g2 j hj hjk2
        · rw [last j hj hjk hjk2]
          rw [decide_eq_true (show s.2 < 0 by omega),Bool.true_or,Bool.and_true] at hb2
          have:=of_decide_eq_false hb2
          omega
      · right
        refine ⟨g1,g2,g3,fun j hj hjk h0 => ?_⟩
        by_cases hjk2:j < k
        · exact g4 j hj hjk2 h0
        · rw [last j hj hjk hjk2] at h0 ⊢
          rw [decide_eq_true h0,Bool.true_and,Bool.or_eq_false_iff] at hb2
          have:=of_decide_eq_false hb2.2
          show s.2≤x
          omega
  · rcases h with ⟨g1,g2⟩ | ⟨g1,g2,g3,g4⟩
    · exact .inl ⟨g1,fun j hj=>g2 j hj hj⟩
    · exact .inr ⟨g1,g2,g3,fun j hj=>g4 j hj hj⟩
  · rintro _ ⟨s,rfl,h⟩
    refine Ret.some fun h0 ho => ?_
    obtain ⟨m,hm,k1,k2⟩:=zgc h0 ho
    rw [←hst] at hm
    obtain ⟨t,ht,rfl⟩:=List.mem_map.1 hm
    obtain ⟨j,hj,rfl⟩:=List.getElem_of_mem ht
    rcases h with ⟨g1,g2⟩ | ⟨g1,g2,g3,g4⟩
    · have:=g2 j hj;omega
    · have:=g4 j hj k1
      exact ⟨g2,by omega,by omega⟩
theorem zdQ (hc:c.Ok) (A:ArOk c party p a) (hf:jb c party p=some (a,0)):Ret (jE c party p) (fun r=>(rkP c party p = -1∧r=({party:=0,rows:=[]},13))∨(rkP c party p ≠ -1∧r.2=0∧r.1.party=party∧DoomP c r.1∧(∀ x∈r.1.rows,DRow c party x)∧r.1.rows.length≤1500∧(∀ q∈a.positions,0≤rkP c party q→∃ x∈r.1.rows,x.position=q)∧∃ x,r.1.rows[0]?=some x∧x.position=p)):=by
  have hn:a.positions.length≤1500:=A.F.inv.len
  have hpos:=A.pos
  have hp0:0 < a.positions.length:=by omega
  have e0:a.positions[0]=p:=by
    have:=A.F.first
    rw [List.getElem?_eq_getElem hp0] at this
    exact Option.some.inj this
  have hlo:=QT c party p
  unfold jE
  refine Ret.bindE hf ?_
  refine Ret.ite (fun _ => ?_) (fun h=>by cases h)
  dsimp only
  refine Ret.bindE (zbU hc A) ?_
  have i0:ze (a.positions.map (rkP c party)) 0=some (rkP c party p):=by
    have:=Zp A hp0
    rw [e0] at this
    exact this
  refine Ret.bindE i0 ?_
  refine Ret.ite (fun hs=>Ret.some (.inl ⟨by have:=of_decide_eq_true hs;omega,rfl⟩)) (fun hs => ?_)
  have hs:=of_decide_eq_false hs
  refine Ret.bind (P:=fun o:List DoomRowT ⊕ Unit=>∃ s,o=.inl s∧(∀ x∈s,x.position∈a.positions∧DRow c party x)∧s.length≤1500∧(∀ q∈a.positions,0≤rkP c party q→∃ x∈s,x.position=q)∧∃ x,s[0]?=some x∧x.position=p)
    (Ret.forL (fun i s=>s.length≤i∧(∀ x∈s,x.position∈a.positions∧DRow c party x)∧(∀ (j:Nat) (hj:j < a.positions.length),j < i→0≤rkP c party a.positions[j]→∃ x∈s,x.position=a.positions[j])∧(0 < i→∃ x,s[0]?=some x∧x.position=p)) (by omega) ⟨by simp,fun x hx=>by simp at hx,fun j _ hj=>by omega,fun h=>by omega⟩ (fun i s hi h => ?_) (fun s h=>⟨s,rfl,h.2.1,by omega,fun q hq h0=>by obtain ⟨j,hj,rfl⟩:=List.getElem_of_mem hq;exact h.2.2.1 j hj hj h0,h.2.2.2 hp0⟩)) ?_
  · obtain ⟨h1,h2,h3,h4⟩:=h
    refine Ret.bind (P:=fun s:List DoomRowT=>s.length≤i+1∧(∀ x∈s,x.position∈a.positions∧DRow c party x)∧(∀ (j:Nat) (hj:j < a.positions.length),j < i+1→0≤rkP c party a.positions[j]→∃ x∈s,x.position=a.positions[j])∧(0 < i+1→∃ x:DoomRowT,s[0]?=some x∧x.position=p)) ?_ (fun l h=>Ret.some h)
    refine Ret.bindE (zx (List.getElem?_eq_getElem hi)) ?_
    refine Ret.bindE (Zp A hi) ?_
    refine Ret.ite (fun hb => ?_) (fun hb=>Ret.some ⟨by omega,h2,fun j hj hji h0 => ?_,fun _ => ?_⟩)
    · have hb:=of_decide_eq_true hb
      refine Ret.bindE (Zp A hi) ?_
      refine Ret.bind (zdP hc A hi) fun m hm => ?_
      refine Ret.bindE (xz (by simp only [List.length_cons,List.length_nil];omega)) ?_
      refine Ret.some ⟨by simp;omega,fun x hx => ?_,fun j hj hji h0 => ?_,fun _ => ?_⟩
      · rcases List.mem_append.1 hx with g | g
        · exact h2 x g
        · rw [List.mem_singleton.1 g]
          exact ⟨List.getElem_mem hi,rfl,hb,hm⟩
      · by_cases e:j=i
        · subst e
          exact ⟨_,List.mem_append_right _ (List.mem_singleton.2 rfl),rfl⟩
        · obtain ⟨x,hx,e2⟩:=h3 j hj (by omega) h0
          exact ⟨x,List.mem_append_left _ hx,e2⟩
      · by_cases hi0:0 < i
        · obtain ⟨x,hx,e2⟩:=h4 hi0
          refine ⟨x,?_,e2⟩
          rw [List.getElem?_append_left (List.getElem?_eq_some_iff.1 hx).1]
          exact hx
        · obtain rfl:i=0:=by omega
          have:s=[]:=List.length_eq_zero_iff.1 (by omega)
          subst this
          exact ⟨_,rfl,e0⟩
    · have hb:=of_decide_eq_false hb
      by_cases e:j=i
      · subst e;exact absurd h0 hb
      · exact h3 j hj (by omega) h0
    · by_cases hi0:0 < i
      · exact h4 hi0
      · obtain rfl:i=0:=by omega
        have hb:=of_decide_eq_false hb
        rw [e0] at hb
        omega
  · rintro _ ⟨s,rfl,g1,g2,g3,g4⟩
    refine Ret.some (.inr ⟨by omega,rfl,rfl,?_,fun x hx=>(g1 x hx).2,g2,g3,g4⟩)
    exact zbV A (by omega) g2 (fun r hr=>⟨(g1 r hr).1,(g1 r hr).2.rk,(g1 r hr).2.lo,(g1 r hr).2.mv⟩) g3
theorem zaj {r:ArenaT×Int} (hf:jb c party p=some r) (he:r.2≠0):qZ c party p=some ({party:=0,rows:=[]},r.2):=by
  unfold qZ
  rw [hf]
  simp only [Option.bind_some]
  rw [beq_eq_false_iff_ne.2 he];rfl
theorem zdR {r:ArenaT×Int} (hf:jb c party p=some r) (he:r.2≠0):jE c party p=some ({party:=0,rows:=[]},r.2):=by
  unfold jE
  rw [hf]
  simp only [Option.bind_some]
  rw [beq_eq_false_iff_ne.2 he];rfl
end
end
theorem Xc (c:ContractT) (party:Int) (p:PosT) (hc:ContractT.Ok c) (hparty:InK .i64 party) (hp:PosT.Ok p):xZ c party p=some true:=by
  refine Ret.eq ?_
  unfold xZ
  refine Ret.bindE ze2 ?_
  refine Ret.bind (zgj hc _ _) fun b hb => ?_
  refine Ret.ite (fun _ => ?_) (fun _=>Ret.some rfl)
  have bad:∀ r:ArenaT×Int,jb c party p=some r→r.2≠0→Ret (Option.bind (jb c party p) fun r3=>(Option.bind (qZ c party p) fun r4=>(Option.bind (jE c party p) fun r5=>(bif (r3.2 == 0) then (bif (r4.2 == 0) then (Option.bind (bif true then (bif (r5.2 == 13) then (bif ((r5.1.rows.length:Int) == 0) then (Option.bind (qk c r4.1) fun r6=>(bif r6 then (bif decide (0 < (r4.1.rows.length:Int)) then (bif (r4.1.party == party) then (Option.bind (ze r4.1.rows 0) fun e1=>(Option.bind (xq e1.position p) fun r7=>some r7)) else some false) else some false) else some false)) else some false) else some false) else some false) fun v2=>some v2) else (Option.bind (bif true then (bif (r4.2 == 13) then (bif ((r4.1.rows.length:Int) == 0) then (bif (r5.2 == 0) then (Option.bind (qF c r5.1) fun r8=>(bif r8 then (bif decide (0 < (r5.1.rows.length:Int)) then (bif (r5.1.party == party) then (Option.bind (ze r5.1.rows 0) fun e2=>(Option.bind (xq e2.position p) fun r9=>some r9)) else some false) else some false) else some false)) else some false) else some false) else some false) else some false) fun v3=>some v3)) else (Option.bind (bif true then (bif (r4.2 == r3.2) then (bif (r5.2 == r3.2) then some ((IntKind.i64.wrap ((r4.1.rows.length:Int)+(r5.1.rows.length:Int))) == 0) else some false) else some false) else some false) fun v1=>some v1))))) (· = true):=fun r hf he=>by
    refine Ret.bindE hf ?_
    refine Ret.bindE (zaj hf he) ?_
    refine Ret.bindE (zdR hf he) ?_
    dsimp only
    rw [beq_eq_false_iff_ne.2 he,beq_self_eq_true]
    exact Ret.some rfl
  cases hpl:yt c party p.state with
  | false=>exact bad _ (zeR hc hpl) (by simp)
  | true=>
    obtain ⟨p0,p1,hv⟩:=yd.1 hpl
    obtain ⟨⟨a,e⟩,hf,hr⟩:=zeQ hc (p:=p) hpl
    rcases hr with ⟨he,hpa,hF⟩ | ⟨he,_⟩
    · simp only at he hpa hF
      subst he
      have A:ArOk c party p a:=⟨p0,p1,hpa,hF⟩
      have hfew:=hv.few hc
      have hn:a.positions.length≤1500:=A.F.inv.len
      refine Ret.bindE hf ?_
      refine Ret.bindE (zdO hc A hf) ?_
      refine Ret.bind (zdQ hc A hf) ?_
      rintro ⟨d,g⟩ hd
      refine Ret.ite (fun _ => ?_) (fun h=>by cases h)
      rcases hd with ⟨hrk,hd⟩ | ⟨hrk,hg,hdp,hD,_,hdl,_,x,hx0,hxp⟩
      · cases hd
        have hsafe:=Ks.1 hrk
        have hP:=Kt A hsafe
        have hl:=Wn (c:=c) (party:=party) a.positions
        rw [qA.2 hsafe,cond_true]
        dsimp only
        refine Ret.ite (fun _ => ?_) (fun h=>by cases h)
        refine Ret.bindE (v:=true) ?_ (Ret.some rfl)
        have hfirst:(qq c party a.positions)[0]?=some {position:=p,move:=vJ c party p}:=by
          have hpos:=A.pos
          have hp0:0 < a.positions.length:=by omega
          have e0:a.positions[0]=p:=by
            have:=A.F.first
            rw [List.getElem?_eq_getElem hp0] at this
            exact Option.some.inj this
          have e1:a.positions=p::a.positions.drop 1:=by
            have:=List.drop_eq_getElem_cons hp0
            rw [e0] at this
            exact this
          rw [e1]
          unfold qq
          rw [List.filter_cons_of_pos (qA.2 hsafe)]
          rfl
        have hlen:0 < (qq c party a.positions).length:=(List.getElem?_eq_some_iff.1 hfirst).1
        have hchk:qk c {party:=party,rows:=qq c party a.positions}=some true:=by
          rw [VV hc _ (by show (qq c party a.positions).length < _;omega),JJ.2 hP]
        rw [hchk]
        have hi0:ze (qq c party a.positions) 0=some {position:=p,move:=vJ c party p}:=zx (i:=0) hfirst
        rw [decide_eq_true (show 0 < ((qq c party a.positions).length:Int) by omega),beq_self_eq_true,hi0]
        rw [show ((([]:List DoomRowT).length:Int) == 0)=true from rfl]
        simp only [cond_true,Option.bind_some,beq_self_eq_true]
        rw [VF p p (by omega) (by omega) (by omega)]
        simp only [beq_self_eq_true,Option.bind_some]
      · simp only at hg hdp hD hdl hx0
        subst hg
        have hns:z7 c party p=false:=by
          cases hs:z7 c party p with
          | false=>rfl
          | true=>exact absurd (Ks.2 (qA.1 hs)) hrk
        rw [hns,cond_false]
        dsimp only
        refine Ret.ite (fun h=>by cases h) (fun _ => ?_)
        refine Ret.bindE (v:=true) ?_ (Ret.some rfl)
        have hlen:0 < d.rows.length:=(List.getElem?_eq_some_iff.1 hx0).1
        rw [zah hc d (by omega),VI.2 hD]
        have hi0:ze d.rows 0=some x:=zx (i:=0) hx0
        rw [decide_eq_true (show 0 < (d.rows.length:Int) by omega),hdp,beq_self_eq_true,hi0]
        rw [show ((([]:List ShieldRowT).length:Int) == 0)=true from rfl]
        simp only [cond_true,Option.bind_some,beq_self_eq_true,hxp]
        rw [VF p p (by omega) (by omega) (by omega)]
        simp only [beq_self_eq_true,Option.bind_some]
    · simp only at he
      subst he
      exact bad _ hf (by simp)
end Go.Proofs.YtmoedieenlaegaaGreatDoor
namespace Go.Proofs.YtmoedieenlaegaaGreatDoor
open Go.ChangeShapes Go.WideShapes Go.RowKit
set_option maxRecDepth 100000
abbrev Jv : List (String × DataW Unit) := [("math/bits.deBruijn32tab", Rows.laid_math_bits_deBruijn32tab), ("math/bits.deBruijn64tab", Rows.laid_math_bits_deBruijn64tab), ("internal/strconv.uint64pow10", Rows.laid_internal_strconv_uint64pow10)]
theorem ze3:(Jv.filter fun x=>x.1 == xx)=[(xx,Lib.tabData .u64 Lib.pow10Tab)]:=by kernel_rfl
theorem KL {W:World} (h:laidMet Tryz.prog Jv W):C0.tabs.p W∧C0.tabs.n≤W.heap.size:=by
  have h1:=h.filter (fun x=>x.1 == xx)
  rw [ze3] at h1
  have h2:C0.tabs.p W:=Lib.tabIs_of_head (g:=0) (t:=((Tryz.prog.globals[0]?).map (·.type)).getD 0) (e:=181) (n:=20)
    (by kernel_rfl) (by kernel_rfl) (by kernel_rfl) (by kernel_rfl) (by kernel_rfl) (by kernel_rfl) h1
  exact ⟨h2,zbw h2⟩
def zhM:DataW Unit→Array Value
  | .agg ds=>(ds.map fun d=>match d with | .lit (.int k n)=>Value.int k n | _=>Value.bool false).toArray
  | _ => #[]
def KM (w:World) (g:Nat) (d:DataW Unit):World:={w with heap:=w.heap.modify g fun | .cells _ t f=>.cells (zhM d) t f | o=>o}
noncomputable def VJ (os:Os):World:=
  KM (KM (KM (World.holding Tryz.prog os ⟨#[],#[],[]⟩) 1 Rows.laid_math_bits_deBruijn32tab) 2 Rows.laid_math_bits_deBruijn64tab) 0 Rows.laid_internal_strconv_uint64pow10
theorem VW (os:Os) (args:Array Value):laidMet Tryz.prog Jv ((VJ os).forCall (fun _ _=>0) ⟨#[],args,[]⟩).memory:=
  laidMet_of_run3 8 (by kernel_rfl) (by kernel_rfl) (by kernel_rfl)
end Go.Proofs.YtmoedieenlaegaaGreatDoor
namespace Go.Proofs.YtmoedieenlaegaaGreatDoor.LWitnessDecides
open Go.ChangeShapes Go.WideShapes Go.ChangeAt Go.RowKit
set_option linter.unusedVariables false
set_option maxRecDepth 100000
theorem all (ivs:List IV) (h:Jc [(true,ContractT.tys),(false,[.int .i64]),(true,PosT.tys)] ivs):APure C0 236 ivs (.bool true):=by
  match ivs,h with
  | [x0,x1,x2],⟨a0,a1,a2,_⟩=>
    obtain ⟨row0,rfl,r0⟩:=a0
    obtain ⟨c,rfl,ok_c⟩:=ContractT.opn r0
    obtain ⟨c1,_,e1,k1,n1⟩:=zf a1
    cases e1
    obtain ⟨party,rfl,ok_party⟩:=zp k1
    obtain ⟨row2,rfl,r2⟩:=a2
    obtain ⟨p,rfl,ok_p⟩:=PosT.opn r2
    exact J3 c party p true (Xc c party p ok_c ok_party ok_p)
theorem own:ownKnob Tryz.prog.godebug=none:=by kernel_rfl
theorem laid:laidOutB Tryz.prog=true:=by kernel_rfl
theorem args:mapO (Y6 Tryz.prog) Tryz.f7.params.toList=some [(true,ContractT.tys),(false,[.int .i64]),(true,PosT.tys)]:=by kernel_rfl
theorem zhN (os:Os) (started:os.Started) (H:Type) (enc:TypeId×Value→H) :
    ReturnsInHanded {} Tryz.checked os 7 .any (fun w args=>(Rows.witnessDecidesSpec.pre enc Tryz.prog Tryz.f7 [] false w args∧laidMet Tryz.prog Jv w)∧sizedMet enc Tryz.prog Tryz.f7 (OpenSpec.ofChange Rows.witnessDecidesSpec) false w args) (Rows.witnessDecidesSpec.post enc Tryz.prog Tryz.f7 false true false false):=by
  refine returnsInHanded_of_change_and (C:=Tryz.checked) (X:=fun w _=>laidMet Tryz.prog Jv w) (fun _ _ _ hh h=>h.of_heap hh) own started (by kernel_rfl) Tryz.func7
    (ChangeSpec.witness_at (enc:=enc) (C:=Tryz.checked) (os:=os) (X:=fun w _=>laidMet Tryz.prog Jv w) false (VJ os) #[.agg #[.int .i64 0,.slice none 0 0,.slice none 0 0,.slice none 0 0,.slice none 0 0,.int .i64 0,.slice none 0 0],.int .i64 0,.agg #[.int .i64 0,.slice none 0 0,.slice none 0 0,.slice none 0 0,.bool false]] 8 rfl (by kernel_rfl) (by kernel_rfl) (by kernel_rfl) (by kernel_rfl) (by kernel_rfl) (VW os _)) ?_
  intro W base args ds gs before hval hW _ hwt hL _
  exact Y7 (Cx:=C0) (tb:=4) 236 rfl LWitnessDecides.args rfl (by kernel_rfl) rfl
    (fun ds h=>by match ds,h with | [_,_,_],_=>rfl) LWitnessDecides.laid (by kernel_rfl) LWitnessDecides.all W (KL hL) base args ds gs before hval hW hwt
theorem zkt:Rows.WitnessDecidesSaid:=
  OpenClaim.holds_of_wide 7 Tryz.f7 rfl rfl rfl rfl rfl rfl rfl ⟨rfl,rfl,rfl,rfl,rfl⟩ rfl rfl rfl rfl rfl (by kernel_rfl) Tryz.func7 (by kernel_rfl)
    (of_decide_eq_true (by kernel_rfl)) (by unfold Func.isWrapper;first | (rw [if_pos (by decide +kernel)];kernel_rfl) | (rw [if_neg (by decide +kernel)];exact ⟨rfl,rfl⟩))
    (fun os started H enc _=>zhN os started H enc)
theorem holds:Rows.WitnessDecidesCardSaid:=
  Claim7.holds_tied_plain_at .later [] [.data, .data, .data] true (true, "b058ca6a5d8bd6675ccef3ced02f7ff2ab9252a87f4ffe3492fe47a417083e47") false
    zkt (fun _ h=>by cases h) (by kernel_rfl) (fun _ h=>by cases h) witnessDecides_row_tie rfl ⟨rfl,rfl⟩ (by kernel_rfl) rfl
    (fun f fn hf hfn=>by
      obtain rfl : f = 7 := Option.some.inj ((show Tryz.prog.funcNamed "estoppel/estoppellaw22.WitnessDecides" = some 7 by kernel_rfl).symm.trans hf) |>.symm
      obtain rfl:fn=Tryz.f7:=(Option.some.inj (Tryz.func7.symm.trans hfn)).symm
      refine ⟨by kernel_rfl,fun j t ht => ?_⟩
      have hall:(Tryz.f7.params.toList.all fun t=>!(Tryz.prog.wantsStandIn t))=true:=by kernel_rfl
      have:=List.all_eq_true.1 hall t (by rw [Array.mem_toList_iff];exact Array.mem_of_getElem? ht)
      have h2:Tryz.prog.wantsStandIn t=false:=by simpa using this
      exact h2)
    (by kernel_rfl)
end Go.Proofs.YtmoedieenlaegaaGreatDoor.LWitnessDecides
namespace Go.Proofs.YtmoedieenlaegaaGreatDoor
theorem witnessDecides_holds:Rows.WitnessDecidesCardSaid:=LWitnessDecides.holds
end Go.Proofs.YtmoedieenlaegaaGreatDoor
