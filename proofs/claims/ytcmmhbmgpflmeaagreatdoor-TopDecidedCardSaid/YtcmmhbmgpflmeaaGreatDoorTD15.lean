/-
  'TopDecided': for every input the call returns true, and each argument reads afterwards as it read before.
  The tables of the library that the rows list: from the row's condition to what the contracts ask; the witness.
  estoppeltop.TopDecided.
  The fixed example of the laws about witnesses at the top: returns true. Printed by mkheads.py.
  'witness.Shield' and 'witness.Doom': what they return; sizes.
  The fixed examples of the laws of layer 22: 'head' returns true. Printed by mkheads.py.
  Functions of the program as the kernel reckons them: with fuel, and texts of small numbers. Printed by mkheads.py.
  'witness.CheckShield' and 'witness.CheckDoom': what they decide.
  The functions Moves and After.
  A table that keeps the least rank of the rows with a position.
-/
import Derived.Test.YtcmmhbmgpflmeaaGreatDoorTD13
import Derived.Test.YtcmmhbmgpflmeaaGreatDoorTD14
import Derived.Test.YtcmmhbmgpflmeaaGreatDoorRows
import Derived.Test.YtcmmhbmgpflmeaaGreatDoorTD12
import Derived.LaidLaws
import Derived.LaidSub
import Derived.Deep.DeepLaidRun
import Derived.Lib.LaidTab
import Derived.JoinedOf
import Derived.Test.YtcmmhbmgpflmeaaGreatDoorTD07
import Derived.Test.YtcmmhbmgpflmeaaGreatDoorTie
import Derived.Test.YtcmmhbmgpflmeaaGreatDoorCards
import Derived.SevenTiedAt
open List renaming getElem?_eq_getElem → ub, getElem_mem → uc, mem_singleton → uf, replicate → ug, getElem_of_mem → uh, contains_iff_mem → ui, all_eq_true → uj, mem_append → uk, mem_map → ul, take_succ_eq_append_getElem → un, getElem?_map → uq, mem_append_right → ur, length_cons → ut, mem_append_left → uu, length_nil → uw, any_eq_false → uz, take_of_length_le → uB, flatMap_cons → uC, append_nil → uF, map_append → uG, length_map → uI, range → uJ
open Option renaming bind → ua
open Bool renaming and_eq_true → ue, not_eq_false' → um, not_eq_true' → uo, or_eq_false_iff → uv, not_false → uy, true_and → uA, eq_iff_iff → uH
open Nat renaming le_refl → uK
open Int renaming toNat_natCast → uD, le_refl → uE
open Sum renaming elim → ud, elim_inl → ux
namespace Go.Proofs.YtcmmhbmgpflmeaaGreatDoor
open Go.RowKit
set_option linter.unusedSimpArgs false
set_option linter.unusedVariables false
set_option maxRecDepth 100000
def xY (c:ax) (F:List (ByteArray×Int)) (l:List (aA×Int)):Prop:=
 ∀ q:aA,VS c q.state→(∀ v,zr (txt q) F=some v→(∃ x∈l,x.1=q∧x.2=v)∧∀ x∈l,x.1=q→v≤x.2)∧(zr (txt q) F=none→∀ x∈l,x.1≠q)
theorem zgs (c:ax):xY c [] []:=by
 intro q _
 exact ⟨fun v h=>by simp [zr] at h,fun _ x hx=>by simp at hx⟩
theorem zek {c:ax} {F:List (ByteArray×Int)} {l:List (aA×Int)} {q:aA} (h:xY c F l) (hq:VS c q.state) (r:Int):xY c (bif (bif !(zr (txt q) F).isSome then true else decide (r < (zr (txt q) F).getD 0)) then zO (txt q) r F else F) (l++[(q,r)]):=by
 intro q' rT
 obtain ⟨h1,h2⟩:=h q' rT
 by_cases e:q'=q
 ·subst e
  cases hm:zr (txt q') F with
  | none=>
   have h2:=h2 hm
   show (∀ v,zr (txt q') (zO (txt q') r F)=some v→_)∧(zr (txt q') (zO (txt q') r F)=none→_)
   rw [qz]
   refine ⟨fun v hv => ?_,fun hv=>by cases hv⟩
   cases hv
   refine ⟨⟨_,ur _ (uf.2 rfl),rfl,rfl⟩,fun x hx rz => ?_⟩
   rcases uk.1 hx with g | g
   ·exact absurd rz (h2 x g)
   ·rw [uf.1 g];exact uE _
  | some v=>
   obtain ⟨⟨y,hy,hy1,rP⟩,g2⟩:=h1 v hm
   by_cases hlt:r < v
   ·have e2:decide (r < (some v).getD 0)=true:=decide_eq_true hlt
    rw [e2]
    show (∀ v,zr (txt q') (zO (txt q') r F)=some v→_)∧(zr (txt q') (zO (txt q') r F)=none→_)
    rw [qz]
    refine ⟨fun w hw => ?_,fun hw=>by cases hw⟩
    cases hw
    refine ⟨⟨_,ur _ (uf.2 rfl),rfl,rfl⟩,fun x hx rz => ?_⟩
    rcases uk.1 hx with g | g
    ·have:=g2 x g rz;omega
    ·rw [uf.1 g];exact uE _
   ·have e2:decide (r < (some v).getD 0)=false:=decide_eq_false hlt
    rw [e2]
    show (∀ v,zr (txt q') F=some v→_)∧(zr (txt q') F=none→_)
    rw [hm]
    refine ⟨fun w hw => ?_,fun hw=>by cases hw⟩
    cases hw
    refine ⟨⟨y,uu _ hy,hy1,rP⟩,fun x hx rz => ?_⟩
    rcases uk.1 hx with g | g
    ·exact g2 x g rz
    ·rw [uf.1 g];show v≤r;omega
 ·have ne:txt q'≠txt q:=fun h=>e (YE rT hq h)
  have e1:∀ b:Bool,zr (txt q') (bif b then zO (txt q) r F else F)=zr (txt q') F:=fun b=>by
   cases b with
   | true=>exact je r ne F
   | false=>rfl
  rw [e1]
  refine ⟨fun v hv => ?_,fun hv x hx => ?_⟩
  ·obtain ⟨⟨y,hy,hy1,rP⟩,g2⟩:=h1 v hv
   refine ⟨⟨y,uu _ hy,hy1,rP⟩,fun x hx rz => ?_⟩
   rcases uk.1 hx with g | g
   ·exact g2 x g rz
   ·rw [uf.1 g] at rz;exact absurd rz.symm e
  ·rcases uk.1 hx with g | g
   ·exact h2 hv x g
   ·rw [uf.1 g];exact fun h=>e h.symm
theorem zgt {c:ax} {F:List (ByteArray×Int)} {l:List (aA×Int)} (h:xY c F l) {q:aA} (hq:VS c q.state):(zr (txt q) F).isSome=true↔∃ x∈l,x.1=q:=by
 obtain ⟨h1,h2⟩:=h q hq
 cases hm:zr (txt q) F with
 | none=>
  simp only [Option.isSome_none]
  refine ⟨fun h=>by (cases h),fun ⟨x,hx,e⟩=>absurd e (h2 hm x hx)⟩
 | some v=>
  simp only [Option.isSome_some,true_iff]
  obtain ⟨⟨y,hy,hy1,rP⟩,_⟩:=h1 v hm
  exact ⟨y,hy,hy1⟩
theorem zgu {c:ax} {F:List (ByteArray×Int)} {l:List (aA×Int)} (h:xY c F l) {q:aA} (hq:VS c q.state) {n:Int}:(bif (zr (txt q) F).isSome then decide ((zr (txt q) F).getD 0 < n) else false)=true↔∃ x∈l,x.1=q∧x.2 < n:=by
 obtain ⟨h1,h2⟩:=h q hq
 cases hm:zr (txt q) F with
 | none=>exact ⟨fun h=>by (cases h),fun ⟨x,hx,e,_⟩=>absurd e (h2 hm x hx)⟩
 | some v=>
  obtain ⟨⟨y,hy,hy1,rP⟩,g2⟩:=h1 v hm
  show decide (v < n)=true↔_
  rw [decide_eq_true_eq]
  refine ⟨fun hv=>⟨y,hy,hy1,by omega⟩,fun ⟨x,hx,e,hlt⟩=>by have:=g2 x hx e;omega⟩
theorem YJ {c:ax} (hc:c.Ok) (zw:Int) (p:aA):xX c zw p=some (bif vU c zw p.state then (zn c zw p,0) else ([],1)):=by
 unfold xX
 rw [kC hc]
 simp only [aS]
 cases eD:vU c zw p.state with
 | false=>rfl
 | true=>
  obtain ⟨mg,gb,hv⟩:=wl.1 eD
  have sm:=qn (hc.off.lt (by omega)) hv.cv
  have sa:=sm.aK
  simp only [bL,ZC,aS,Q6 hc hv]
  have e1:(bif p.own then (ua (zN (α:=Int) 8 [] [(-2)]) fun e1=>some e1) else some [])=some (bif p.own then [-2] else []):=by
   rw [jo (by simp)];cases p.own<;>rfl
  rw [e1]
  simp only [aS]
  cases hd:decide (c.aJ≤p.state.day) with
  | true=>simp only [bL,aS,zn,hd,uF]
  | false=>
   have De:=of_decide_eq_false hd
   obtain ⟨oP,_⟩:=jT (a := -1) hc hv (by omega) (by omega) (by omega)
   have e2:(bif p.own then some (bif p.own then [-2] else []) else (ua (cK c p.state (-1)) fun r4=>(ua (zN (α:=Int) 8 (bif p.own then [-2] else []) [(-1)]) fun e2=>some e2)))=some (bif p.own then [-2] else [-1]):=by
    cases p.own with
    | true=>rfl
    | false=>rw [oP];simp only [bM,aS,List.nil_append];rw [jo (by simp)];rfl
   simp only [bM]
   rw [e2]
   simp only [aS]
   have BW:aG (σ:=(List Int)) (ρ:=(List Int)) (c.aK.length:Int) (fun i1 s1=>(ua (α:=(List Int) ⊕ (List Int)) (ua (zf c.aK (i1:Int)) fun e3=>(ua (bif (e3.bW == (-1)) then some (-1) else (ua (zf p.state.aC e3.bW) fun e4=>some e4)) fun (v3:Int)=>(bif ((v3 == zw) == p.own) then (ua (cK c p.state (i1:Int)) fun r5=>(ua (ua (xz r5.1 p.state) fun r6=>(bif r6 then some (false,s1) else (ua (zN (α:=Int) 8 s1 [(i1:Int)]) fun e5=>some ((!true),e5)))) fun (v4:Bool×(List Int))=>(bif v4.1 then some (.inr v4.2) else some (.inl v4.2)))) else some (.inl s1)))) (ud (fun (v5:(List Int))=>some (.inl v5)) (fun (y1:(List Int))=>some (.inr y1))))) (bif p.own then [-2] else [-1])
     = some (.inl ((bif p.own then [-2] else [-1])++qQ c zw p c.aK.length)):=by
    obtain ⟨o,h1,h2⟩:=wA (n:=c.aK.length) (s0:=(bif p.own then [(-2:Int)] else [-1])) (f:=(fun i1 s1=>(ua (α:=(List Int) ⊕ (List Int)) (ua (zf c.aK (i1:Int)) fun e3=>(ua (bif (e3.bW == (-1)) then some (-1) else (ua (zf p.state.aC e3.bW) fun e4=>some e4)) fun (v3:Int)=>(bif ((v3 == zw) == p.own) then (ua (cK c p.state (i1:Int)) fun r5=>(ua (ua (xz r5.1 p.state) fun r6=>(bif r6 then some (false,s1) else (ua (zN (α:=Int) 8 s1 [(i1:Int)]) fun e5=>some ((!true),e5)))) fun (v4:Bool×(List Int))=>(bif v4.1 then some (.inr v4.2) else some (.inl v4.2)))) else some (.inl s1)))) (ud (fun (v5:(List Int))=>some (.inl v5)) (fun (y1:(List Int))=>some (.inr y1)))))) (fun i s=>s=(bif p.own then [-2] else [-1])++qQ c zw p i) (fun _=>False) (by omega) (by simp [qQ]) (fun i s hi hs=>by
     have hx:=ub hi
     have av:=Q4 hv.cv hx
     rw [zt hx]
     simp only [aS,WB hv av]
     have gS:mT c zw p i=(((z6 p.state.aC c.aK[i] == zw) == p.own) && !xM (qi c p.state i) p.state):=by simp only [mT,hx]
     cases hq:((z6 p.state.aC c.aK[i] == zw) == p.own) with
     | false=>
      refine ⟨.inl s,rfl,?_⟩
      show s=_
      rw [xN,gS,hq,hs];simp
     | true=>
      obtain ⟨oP,hvs,_⟩:=jT (a:=(i:Int)) hc hv (by omega) (by omega) (by omega)
      have BJ:=hvs.rq hc
      rw [oP]
      simp only [bL,aS]
      rw [YC _ _ (by omega) (by omega) (by omega)]
      simp only [aS]
      cases BV:xM (qi c p.state i) p.state with
      | true=>
       refine ⟨.inl s,rfl,?_⟩
       show s=_
       rw [xN,gS,hq,BV,hs];simp
      | false=>
       have hl:=Xi c zw p i
       have hls:s.length≤1+i:=by rw [hs];cases p.own<;>simp<;>omega
       simp only [bM]
       rw [jo (by simp;omega)]
       refine ⟨.inl (s++[(i:Int)]),rfl,?_⟩
       show s++[(i:Int)]=_
       rw [xN,gS,hq,BV,hs];simp)
    rw [h1]
    cases o with
    | inl s=>exact congrArg _ (congrArg _ h2)
    | inr r=>exact h2.elim
   rw [BW]
   simp only [aS,ux,zn,hd,bM]
   cases p.own<;>rfl
theorem zel {c:ax} (hc:c.Ok) {zw:Int} {p:aA} (move:Int) (hv:VS c p.state) (hd:p.state.day < c.aJ) :
  aG (σ:=Unit) (ρ:=Int×(List Int)×(List Bool)×(List aq)) (c.aK.length:Int) (fun i1 s1=>(ua (α:=Unit ⊕ (Int×(List Int)×(List Bool)×(List aq))) (ua (zf c.aK (i1:Int)) fun e1=>(ua (bif (e1.bW == (-1)) then some (-1) else (ua (zf p.state.aC e1.bW) fun e2=>some e2)) fun (v3:Int)=>(bif ((v3 == zw) == p.own) then (ua (cK c p.state (i1:Int)) fun r5=>(ua (xz r5.1 p.state) fun r6=>(bif r6 then some (.inl ()) else (bif ((i1:Int) == move) then some (.inr (r5.1.day,r5.1.aC,r5.1.used,r5.1.aM)) else some (.inl ()))))) else some (.inl ())))) (ud (fun (v4:Unit)=>some (.inl ())) (fun (y4:Int×(List Int)×(List Bool)×(List aq))=>some (.inr (y4.1,y4.2.1,y4.2.2.1,y4.2.2.2)))))) ()
   = some (if move∈qQ c zw p c.aK.length then .inr (VK (qi c p.state move)) else .inl ()):=by
 have sm:=qn (hc.off.lt (by omega)) hv.cv
 have sa:=sm.aK
 rw [xi (fun i=>!(mT c zw p i&&(i:Int) == move)) (fun i=>VK (qi c p.state i)) (by omega) (fun i hi=>by
  have hx:=ub hi
  have av:=Q4 hv.cv hx
  rw [zt hx]
  simp only [aS,WB hv av]
  have gS:mT c zw p i=(((z6 p.state.aC c.aK[i] == zw) == p.own) && !xM (qi c p.state i) p.state):=by simp only [mT,hx]
  rw [gS]
  cases hq:((z6 p.state.aC c.aK[i] == zw) == p.own) with
  | false=>rfl
  | true=>
   obtain ⟨oP,hvs,_⟩:=jT (a:=(i:Int)) hc hv (by omega) (by omega) (by omega)
   have BJ:=hvs.rq hc
   rw [oP]
   simp only [bL,aS]
   rw [YC _ _ (by omega) (by omega) (by omega)]
   simp only [aS]
   cases BV:xM (qi c p.state i) p.state with
   | true=>rfl
   | false=>cases ((i:Int) == move)<;>rfl)]
 cases hf:(uJ c.aK.length).find? (fun j=>!(!(mT c zw p j&&(j:Int) == move))) with
 | none=>
  have:=wd hf
  rw [if_neg]
  intro hm
  obtain ⟨i,hi,gS,rfl⟩:=wY.1 hm
  have:=this i hi
  simp [gS] at this
 | some k=>
  obtain ⟨h1,h2,_⟩:=we hf
  simp only [um,ue,beq_iff_eq] at h2
  rw [if_pos (wY.2 ⟨k,h1,h2.1,h2.2.symm⟩)]
  show some (Sum.inr (VK (qi c p.state (k:Int))))=_
  rw [h2.2]
theorem zi5 {c:ax} (hc:c.Ok) {zw:Int} {p:aA} (move:Int) (h:vU c zw p.state=true):Qh c zw p move=some (if move∈zn c zw p then (target c p move,0) else (Ux,13)):=by
 obtain ⟨mg,gb,hv⟩:=wl.1 h
 unfold Qh
 rw [kC hc,h]
 simp only [aS,bL,ZC,Q6 hc hv,Uy,Uz]
 by_cases h2:p.own=true∧move = -2
 ·obtain ⟨e1,rfl⟩:=h2
  have hm:(-2:Int)∈zn c zw p:=jj.2 (.inl ⟨e1,rfl⟩)
  rw [if_pos hm,e1];rfl
 ·by_cases hd:c.aJ≤p.state.day
  ·have hm:¬ move∈zn c zw p:=fun hm=>by
    rcases jj.1 hm with h | h | h
    ·exact h2 h
    ·omega
    ·omega
   rw [if_neg hm]
   simp only [hd,decide_true,bL]
   cases ho:p.own with
   | false=>rfl
   | true=>
    have:¬ move = -2:=fun e=>h2 ⟨ho,e⟩
    simp only [this,decide_false,bL,bM];rfl
  ·have e0:(bif p.own then (bif decide (move = -2) then some (.inr (.inl (p.state.day,p.state.aC,p.state.used,p.state.aM))) else (bif decide (c.aJ≤p.state.day) then some (.inr (.inr ())) else some (.inl ()))) else (bif decide (c.aJ≤p.state.day) then some (.inr (.inr ())) else some (.inl ())))=some (.inl ():Unit ⊕ ((Int×(List Int)×(List Bool)×(List aq)) ⊕ Unit)):=by
    simp only [hd,decide_false,bM]
    cases ho:p.own with
    | false=>rfl
    | true=>
     have:¬ move = -2:=fun e=>h2 ⟨ho,e⟩
     simp only [this,decide_false,bL,bM]
   rw [e0]
   simp only [aS,ux]
   rw [zel hc move hv (by omega)]
   obtain ⟨oP,_⟩:=jT (a := -1) hc hv (by omega) (by omega) (by omega)
   rw [oP]
   simp only [aS]
   by_cases h1:p.own=false∧move = -1
   ·obtain ⟨e1,rfl⟩:=h1
    have hm:(-1:Int)∈zn c zw p:=jj.2 (.inr (.inl ⟨by omega,e1,rfl⟩))
    rw [if_pos hm,e1];rfl
   ·have e1:(bif p.own then some (.inl ()) else (bif decide (move = -1) then some (.inr ((qi c p.state (-1)).day,(qi c p.state (-1)).aC,(qi c p.state (-1)).used,(qi c p.state (-1)).aM)) else some (.inl ())))=some (.inl ():Unit ⊕ (Int×(List Int)×(List Bool)×(List aq))):=by
     cases ho:p.own with
     | true=>rfl
     | false=>
      have:¬ move = -1:=fun e=>h1 ⟨ho,e⟩
      simp only [this,decide_false,bM]
    rw [e1]
    simp only [aS,ux]
    by_cases ha:move∈qQ c zw p c.aK.length
    ·obtain ⟨i,hi,gS,rfl⟩:=wY.1 ha
     have hm:(i:Int)∈zn c zw p:=jj.2 (.inr (.inr ⟨by omega,i,hi,gS,rfl⟩))
     rw [if_pos ha,if_pos hm]
     have:¬ (i:Int) = -2:=by omega
     simp only [aS,Sum.elim_inr,VK,target,this,if_false]
    ·have hm:¬ move∈zn c zw p:=fun hm=>by
      rcases jj.1 hm with h | h | ⟨_,i,hi,gS,rfl⟩
      ·exact h2 h
      ·exact h1 h.2
      ·exact ha (wY.2 ⟨i,hi,gS,rfl⟩)
     rw [if_neg ha,if_neg hm];rfl
section
theorem VW (l:List Int) (v:Int) (hl:l.length < 4611686018427387904):xL l v=some (l.contains v):=by
 unfold xL Yw
 rw [xi (fun q=>match l[q]? with | some x=>!(v == x) | none=>true) (fun q=>(q:Int)) hl (fun q hq=>by
  simp only [z7,ub hq,aS]
  cases (v == l[q])<;>rfl)]
 cases hf:(uJ l.length).find? (fun q=>!(match l[q]? with | some x=>!(v == x) | none=>true)) with
 | none=>
  have:l.contains v=false:=by
   rw [Bool.eq_false_iff]
   intro hm
   rw [ui] at hm
   obtain ⟨q,hq,e⟩:=uh hm
   have:=wd hf q hq
   simp only [ub hq] at this
   rw [e] at this
   simp at this
  rw [this];rfl
 | some q=>
  obtain ⟨h1,h2,_⟩:=we hf
  have:l.contains v=true:=by
   rw [ui]
   simp only [ub h1,um,beq_iff_eq] at h2
   rw [h2];exact uc h1
  rw [this]
  simp
theorem WI {l:List Int} {f:Nat→Unit→Option (Unit ⊕ Int)} (p:Int→Bool) (hl:l.length < 4611686018427387904) (h:∀ (i:Nat) (hi:i < l.length),f i ()=some (bif p l[i] then .inr (i:Int) else .inl ())) :
  (ua (aG (l.length:Int) f ()) (ud (fun (_:Unit)=>some (-1)) (fun (y:Int)=>some y))).bind (fun r=>some (decide (0≤r)))=some (l.any p):=by
 rw [xi (fun q=>match l[q]? with | some x=>!(p x) | none=>true) (fun q=>(q:Int)) hl (fun q hq=>by
  rw [h q hq]
  simp only [ub hq]
  cases p l[q]<;>rfl)]
 cases hf:(uJ l.length).find? (fun q=>!(match l[q]? with | some x=>!(p x) | none=>true)) with
 | none=>
  have:l.any p=false:=by
   rw [uz]
   intro x hx
   obtain ⟨q,hq,e⟩:=uh hx
   have:=wd hf q hq
   simp only [ub hq,e] at this
   simpa using this
  rw [this];rfl
 | some q=>
  obtain ⟨h1,h2,_⟩:=we hf
  have:l.any p=true:=by
   rw [List.any_eq_true]
   simp only [ub h1] at h2
   exact ⟨_,uc h1,by simpa using h2⟩
  rw [this]
  simp
section
variable {c:ax} {zw:Int} {F:List (ByteArray×Int)}
theorem Xq (hc:c.Ok) {p:aA} (hv:VS c p.state) {m:Int} (hm:m∈zn c zw p) (q:Int):vP p m c q F=some ((zr (txt (target c p m)) F).getD 0,(zr (txt (target c p m)) F).isSome):=by
 unfold vP
 rcases Jb hm with ⟨rfl,_⟩ | ⟨h1,h2,h3⟩
 ·have ht:=Xl hc (p:={state:=p.state,own:=false}) hv
  show ua (jc ({state:=p.state,own:=false}:aA)) _=_
  rw [ht,ZS];rfl
 ·obtain ⟨e,pJ,_,_⟩:=jT hc hv h1 h2 h3
  have hne:(m == (-2:Int))=false:=beq_eq_false_iff_ne.2 (by omega)
  have ht:=Xl hc (p:={state:=qi c p.state m,own:=true}) pJ
  simp only [hne,bM,e,aS,uy]
  show ua (jc ({state:=qi c p.state m,own:=true}:aA)) _=_
  rw [ht,ZT c p h1];rfl
def tQ (F:List (ByteArray×Int)) (q:aA):Bool:=(zr (txt q) F).isSome
def Au (F:List (ByteArray×Int)) (n:Int) (q:aA):Bool:=bif (zr (txt q) F).isSome then decide ((zr (txt q) F).getD 0 < n) else false
theorem Lh (hc:c.Ok) {p:aA} (hv:VS c p.state) {m:Int} (hm:m∈zn c zw p) (n q:Int):vR p m n c q F=some (Au F n (target c p m)):=by
 unfold vR
 rw [Xq hc hv hm]
 simp only [aS,zx]
 rfl
theorem zmr (hc:c.Ok) {p:aA} (hv:VS c p.state) {m:Int} (hm:m∈zn c zw p) (q:Int):QV [m] p c q F=some (!tQ F (target c p m)):=by
 unfold QV XI
 rw [WI (l:=[m]) (fun m=>!tQ F (target c p m)) (by simp) fun i hi=>by
  obtain rfl:i=0:=by simpa using hi
  rw [zC hi]
  simp only [aS,ub hi,vQ,List.getElem_cons_zero]
  rw [Xq hc hv hm];simp only [aS,zx];rfl]
 simp
theorem zms (hc:c.Ok) {p:aA} (hv:VS c p.state) (q:Int):QW (zn c zw p) p c q F=some ((zn c zw p).any fun m=>!tQ F (target c p m)):=by
 have:=wn hc (zw:=zw) hv
 unfold QW XJ
 rw [WI (l:=zn c zw p) (fun m=>!tQ F (target c p m)) (by omega) fun i hi=>by
  simp only [z7,ub hi,aS,vQ]
  rw [Xq hc hv (uc hi)];simp only [aS,zx];rfl]
theorem zmt (hc:c.Ok) {p:aA} (hv:VS c p.state) (n q:Int):QY (zn c zw p) p n c q F=some ((zn c zw p).any fun m=>!Au F n (target c p m)):=by
 have:=wn hc (zw:=zw) hv
 unfold QY XK
 rw [WI (l:=zn c zw p) (fun m=>!Au F n (target c p m)) (by omega) fun i hi=>by
  simp only [z7,ub hi,aS,Qf]
  rw [Lh hc hv (uc hi)];simp only [aS,zx]]
noncomputable def tR (c:ax) (zw:Int) (F:List (ByteArray×Int)) (r:dh):Bool:=
 !zR c r.aW.state zw&&(bif r.aW.own then (zn c zw r.aW).contains r.move&&tQ F (target c r.aW r.move) else !((zn c zw r.aW).any fun m=>!tQ F (target c r.aW m)))
theorem zkU (hc:c.Ok) {s:eu} {i:Nat} (hi:i < s.af.length) (h0:0≤zw) (h1:zw < c.aN) (hv:VS c s.af[i].aW.state):Zg ({s:=s}:ez) (i:Int) c zw F=some (tR c zw F s.af[i]):=by
 have hl:=wn hc (zw:=zw) hv
 unfold Zg vO tR
 rw [zt (ub hi)]
 simp only [aS]
 rw [I2 hc hv h0 h1]
 simp only [aS]
 generalize s.af[i]=r at *
 cases zR c r.aW.state zw with
 | true=>rfl
 | false=>
  have gS:xX c zw r.aW=some (zn c zw r.aW,0):=by
   rw [YJ hc,wl.2 ⟨h0,h1,hv⟩];rfl
  simp only [bM,gS,aS,uy,uA]
  rw [VW _ _ (by omega),zms hc hv]
  simp only [aS]
  cases r.aW.own with
  | false=>rfl
  | true=>
   simp only [bL]
   cases hm:(zn c zw r.aW).contains r.move with
   | false=>rfl
   | true=>
    have hm':=ui.1 hm
    simp only [bL,zmr hc hv hm',aS,Bool.not_not,uA]
noncomputable def tS (c:ax) (zw:Int) (F:List (ByteArray×Int)) (r:cU):Bool:=
 bif decide (r.bl≤0) then r.bl == 0&&zR c r.aW.state zw
 else bif r.aW.own then !((zn c zw r.aW).any fun m=>!Au F r.bl (target c r.aW m)) else (zn c zw r.aW).contains r.move&&Au F r.bl (target c r.aW r.move)
theorem zkV (hc:c.Ok) {s:bP} {i:Nat} (hi:i < s.af.length) (h0:0≤zw) (h1:zw < c.aN) (hv:VS c s.af[i].aW.state):Zh ({d:=s}:bQ) (i:Int) c zw F=some (tS c zw F s.af[i]):=by
 have hl:=wn hc (zw:=zw) hv
 unfold Zh vO tS
 rw [zt (ub hi)]
 simp only [aS]
 rw [I2 hc hv h0 h1]
 simp only [aS]
 generalize s.af[i]=r at *
 cases decide (r.bl≤0) with
 | true=>cases (r.bl == 0)<;>cases zR c r.aW.state zw<;>rfl
 | false=>
  have gS:xX c zw r.aW=some (zn c zw r.aW,0):=by
   rw [YJ hc,wl.2 ⟨h0,h1,hv⟩];rfl
  simp only [bM,gS,aS]
  rw [VW _ _ (by omega),zmt hc hv]
  simp only [aS]
  cases r.aW.own with
  | true=>rfl
  | false=>
   simp only [bM]
   cases hm:(zn c zw r.aW).contains r.move with
   | false=>rfl
   | true=>
    have hm':=ui.1 hm
    simp only [bL,Lh hc hv hm',aS,uA]
theorem Li (hc:c.Ok) {α:Type} (af:List α) (pos:α→aA) (rk:α→Int) (hl:af.length < 4611686018427387904) (row:Int→Option (aA×Int)) (hrow:∀ (i:Nat) (hi:i < af.length),row (i:Int)=some (pos af[i],rk af[i])) {x:Option (List (ByteArray×Int) ⊕ Unit)}
  (hx:x=aG (σ:=(List (ByteArray×Int))) (ρ:=Unit) (af.length:Int) (fun i1 s1=>(ua (α:=(List (ByteArray×Int)) ⊕ Unit) (ua (row (i1:Int)) fun r5=>(ua (jp c r5.1.state) fun r6=>(bif r6 then (ua (jc r5.1) fun r7=>(ua (bif ((zr r7 s1).isSome) then some (decide (r5.2 < ((zr r7 s1).getD 0))) else some true) fun v2=>(bif v2 then some (.inl (zO r7 r5.2 s1)) else some (.inl s1)))) else some (.inr ())))) (ud (fun (v3:(List (ByteArray×Int)))=>some (.inl v3)) (fun (y1:Unit)=>some (.inr ()))))) []) :
  ay x (fun o=>(∃ F,o=.inl F∧xY c F (af.map fun r=>(pos r,rk r))∧∀ r∈af,VS c (pos r).state)∨(o=.inr ()∧∃ r∈af,¬ VS c (pos r).state)):=by
 subst hx
 refine ay.dS (fun i F=>xY c F ((af.take i).map fun r=>(pos r,rk r))∧∀ (j:Nat) (hj:j < af.length),j < i→VS c (pos af[j]).state) hl ⟨zgs c,fun j _ hj=>by omega⟩ (fun i F hi hI => ?_) (fun F h => ?_)
 ·obtain ⟨h1,h2⟩:=hI
  refine ay.bind (P:=fun o=>(∃ F',o=.inl F'∧(xY c F' ((af.take (i+1)).map fun r=>(pos r,rk r))∧∀ (j:Nat) (hj:j < af.length),j < i+1→VS c (pos af[j]).state))∨(o=.inr ()∧∃ r∈af,¬ VS c (pos r).state)) ?_ ?_
  ·refine ay.az (hrow i hi) ?_
   refine ay.az (Zl c _ hc) ?_
   refine ay.ite (fun hv => ?_) (fun hv=>ay.some (.inr ⟨rfl,_,uc hi,fun h=>by rw [Xe h] at hv;cases hv⟩))
   have hv:=Iy hv
   refine ay.az (Xl hc hv) ?_
   have hs:=zek h1 hv (rk af[i])
   have et:(af.take (i+1)).map (fun r=>(pos r,rk r))=(af.take i).map (fun r=>(pos r,rk r))++[(pos af[i],rk af[i])]:=by
    rw [un hi,uG];rfl
   have hvs:∀ (j:Nat) (hj:j < af.length),j < i+1→VS c (pos af[j]).state:=fun j hj hji=>by
    by_cases e:j=i
    ·subst e;exact hv
    ·exact h2 j hj (by omega)
   rw [←et] at hs
   refine ay.az (v:=(bif !(zr (txt (pos af[i])) F).isSome then true else decide (rk af[i] < (zr (txt (pos af[i])) F).getD 0))) ?_ ?_
   ·cases (zr (txt (pos af[i])) F).isSome<;>rfl
   ·refine ay.ite (fun hb => ?_) (fun hb => ?_)
    ·rw [hb] at hs
     exact ay.some (.inl ⟨_,rfl,hs,hvs⟩)
    ·rw [hb] at hs
     exact ay.some (.inl ⟨_,rfl,hs,hvs⟩)
  ·rintro o (⟨F',rfl,h⟩ | ⟨rfl,h⟩)
   ·exact ay.some h
   ·exact ay.some (.inr ⟨rfl,h⟩)
 ·refine .inl ⟨F,rfl,?_,fun r hr => ?_⟩
  ·have:=h.1
   rwa [uB (uK _)] at this
  ·obtain ⟨j,hj,rfl⟩:=uh hr
   exact h.2 j hj hj
theorem Lj {l:List (aA×Int)} {af:List dh} (hF:xY c F l) (hl:∀ q,(∃ x∈l,x.1=q)↔∃ r∈af,r.aW=q) {r:dh} (hc:c.Ok) (hv:VS c r.aW.state):tR c zw F r=true↔zR c r.aW.state zw=false∧(r.aW.own=true→r.move∈zn c zw r.aW∧∃ r'∈af,dh.aW r'=target c r.aW r.move)∧(r.aW.own=false→∀ m∈zn c zw r.aW,∃ r'∈af,dh.aW r'=target c r.aW m):=by
 have kn:∀ m∈zn c zw r.aW,(tQ F (target c r.aW m)=true↔∃ r'∈af,dh.aW r'=target c r.aW m):=fun m hm=>(zgt hF (vC hc hv hm)).trans (hl _)
 unfold tR
 rw [ue,uo]
 refine and_congr Iff.rfl ?_
 cases ho:r.aW.own with
 | true=>
  rw [bL,ue,ui]
  constructor
  ·rintro ⟨g1,g2⟩
   exact ⟨fun _=>⟨g1,(kn _ g1).1 g2⟩,fun h=>by cases h⟩
  ·rintro ⟨g,_⟩
   obtain ⟨g1,g2⟩:=g rfl
   exact ⟨g1,(kn _ g1).2 g2⟩
 | false=>
  rw [bM,uo,uz]
  constructor
  ·intro g
   refine ⟨fun h=>by (cases h),fun _ m hm=>(kn m hm).1 ?_⟩
   have:=g m hm
   simpa using this
  ·rintro ⟨_,g⟩ m hm
   have:=(kn m hm).2 (g rfl m hm)
   simp [this]
theorem Ll {l:List (aA×Int)} {af:List cU} (hF:xY c F l) (hl:∀ q n,(∃ x∈l,x.1=q∧x.2 < n)↔∃ r∈af,r.aW=q∧r.bl < n) {r:cU} (hc:c.Ok) (hv:VS c r.aW.state):tS c zw F r=true↔0≤r.bl∧(r.bl=0→zR c r.aW.state zw=true)∧(0 < r.bl→r.aW.own=true→∀ m∈zn c zw r.aW,∃ r'∈af,cU.aW r'=target c r.aW m∧cU.bl r' < r.bl)∧(0 < r.bl→r.aW.own=false→r.move∈zn c zw r.aW∧∃ r'∈af,cU.aW r'=target c r.aW r.move∧cU.bl r' < r.bl):=by
 have kn:∀ m∈zn c zw r.aW,(Au F r.bl (target c r.aW m)=true↔∃ r'∈af,cU.aW r'=target c r.aW m∧cU.bl r' < r.bl):=fun m hm=>(zgu hF (vC hc hv hm)).trans (hl _ _)
 unfold tS
 by_cases h0:r.bl≤0
 ·rw [decide_eq_true h0,bL,ue,beq_iff_eq]
  constructor
  ·rintro ⟨g1,g2⟩
   exact ⟨by omega,fun _=>g2,fun h=>by omega,fun h=>by omega⟩
  ·rintro ⟨g1,g2,_⟩
   have:r.bl=0:=by omega
   exact ⟨this,g2 this⟩
 ·rw [decide_eq_false h0,bM]
  cases ho:r.aW.own with
  | true=>
   rw [bL,uo,uz]
   constructor
   ·intro g
    refine ⟨by omega,fun h=>by omega,fun _ _ m hm=>(kn m hm).1 ?_,fun _ h=>by cases h⟩
    have:=g m hm
    simpa using this
   ·rintro ⟨_,_,g,_⟩ m hm
    have:=(kn m hm).2 (g (by omega) rfl m hm)
    simp [this]
  | false=>
   rw [bM,ue,ui]
   constructor
   ·rintro ⟨g1,g2⟩
    exact ⟨by omega,fun h=>by omega,fun _ h=>by (cases h),fun _ _=>⟨g1,(kn _ g1).1 g2⟩⟩
   ·rintro ⟨_,_,_,g⟩
    obtain ⟨g1,g2⟩:=g (by omega) rfl
    exact ⟨g1,(kn _ g1).2 g2⟩
end
open Classical in
noncomputable def XX (c:ax) (s:eu):Bool:=decide (eP c s)
open Classical in
noncomputable def CS (c:ax) (d:bP):Bool:=decide (gH c d)
theorem Wh {c:ax} {s:eu}:XX c s=true↔eP c s:=by unfold XX;simp
theorem KR {c:ax} {d:bP}:CS c d=true↔gH c d:=by unfold CS;simp
theorem zem {c:ax} {s:eu} {b:Bool} (h:b=true↔eP c s):b=XX c s:=by
 rw [uH,h,Wh]
theorem zhM {c:ax} {d:bP} {b:Bool} (h:b=true↔gH c d):b=CS c d:=by
 rw [uH,h,KR]
theorem zab {c:ax} (hc:c.Ok) (s:eu) (hl:s.af.length < 4611686018427387904):ji c s=some (XX c s):=by
 refine ay.eq (ay.mono (P:=fun b=>b=true↔eP c s) ?_ fun b h=>zem h)
 unfold ji Qd
 refine ay.bind (P:=fun b=>b=true↔eP c s) ?_ (fun b h=>ay.some h)
 refine ay.az (v:=s.zw) rfl ?_
 simp only [xp,aS]
 refine ay.az (v := !(decide (0≤s.zw)&&(decide (s.zw < c.aN)&&(decide (1≤s.af.length)&&decide (s.af.length≤1500))))) ?_ ?_
 ·by_cases h1:s.zw < 0
  ·rw [decide_eq_true h1,decide_eq_false (show ¬ 0≤s.zw by omega)];rfl
  ·rw [decide_eq_false h1,decide_eq_true (show 0≤s.zw by omega)]
   by_cases h2:c.aN≤s.zw
   ·rw [decide_eq_true h2,decide_eq_false (show ¬ s.zw < c.aN by omega)];rfl
   ·rw [decide_eq_false h2,decide_eq_true (show s.zw < c.aN by omega)]
    by_cases h3:(s.af.length:Int) < 1
    ·rw [decide_eq_true h3,decide_eq_false (show ¬ 1≤s.af.length by omega)];rfl
    ·rw [decide_eq_false h3,decide_eq_true (show 1≤s.af.length by omega)]
     by_cases h4:(1500:Int) < (s.af.length:Int)
     ·rw [decide_eq_true h4,decide_eq_false (show ¬ s.af.length≤1500 by omega)];rfl
     ·rw [decide_eq_false h4,decide_eq_true (show s.af.length≤1500 by omega)];rfl
 refine ay.ite (fun hb=>ay.some ⟨fun h=>by (cases h),fun h => ?_⟩) (fun hb => ?_)
 ·rw [decide_eq_true h.p0,decide_eq_true h.p1,decide_eq_true h.n1,decide_eq_true h.n2] at hb;cases hb
 simp only [um,ue,decide_eq_true_eq] at hb
 obtain ⟨p0,p1,n1,n2⟩:=hb
 refine ay.bind (Li hc s.af (·.aW) (fun _=>0) hl (Qc ({s:=s}:ez)) (fun i hi=>by unfold Qc;rw [zt (ub hi)];rfl) rfl) ?_
 rintro _ (⟨F,rfl,hF,hvs⟩ | ⟨rfl,r,hr,hn⟩)
 ·simp only [ux]
  have gl:∀ q,(∃ x∈s.af.map (fun r=>(r.aW,(0:Int))),x.1=q)↔∃ r∈s.af,r.aW=q:=fun q=>by
   constructor
   ·rintro ⟨x,hx,e⟩
    obtain ⟨r,hr,rfl⟩:=ul.1 hx
    exact ⟨r,hr,e⟩
   ·rintro ⟨r,hr,e⟩
    exact ⟨_,ul.2 ⟨r,hr,rfl⟩,e⟩
  have key:s.af.all (tR c s.zw F)=true↔eP c s:=by
   rw [uj]
   constructor
   ·intro h
    have h':=fun r hr=>(Lj hF gl hc (hvs r hr)).1 (h r hr)
    exact ⟨p0,p1,n1,n2,hvs,fun r hr=>(h' r hr).1,fun r hr=>(h' r hr).2.1,fun r hr=>(h' r hr).2.2⟩
   ·intro h r hr
    exact (Lj hF gl hc (hvs r hr)).2 ⟨h.lost r hr,h.own r hr,h.tP r hr⟩
  rw [wj (l:=s.af) (tR c s.zw F) hl (fun i hi=>by
   rw [zkU hc hi p0 p1 (hvs _ (uc hi))];simp only [aS,zx])]
  cases hall:s.af.all (tR c s.zw F) with
  | true=>exact ay.some ⟨fun _=>key.1 hall,fun _=>rfl⟩
  | false=>exact ay.some ⟨fun h=>by (cases h),fun h=>by rw [key.2 h] at hall;cases hall⟩
 ·exact ay.some ⟨fun h=>by (cases h),fun h=>absurd (h.vs r hr) hn⟩
theorem zcw {c:ax} (hc:c.Ok) (s:bP) (hl:s.af.length < 4611686018427387904):jt c s=some (CS c s):=by
 refine ay.eq (ay.mono (P:=fun b=>b=true↔gH c s) ?_ fun b h=>zhM h)
 unfold jt Qg
 refine ay.bind (P:=fun b=>b=true↔gH c s) ?_ (fun b h=>ay.some h)
 refine ay.az (v:=s.zw) rfl ?_
 simp only [xq,aS]
 refine ay.az (v := !(decide (0≤s.zw)&&(decide (s.zw < c.aN)&&(decide (1≤s.af.length)&&decide (s.af.length≤1500))))) ?_ ?_
 ·by_cases h1:s.zw < 0
  ·rw [decide_eq_true h1,decide_eq_false (show ¬ 0≤s.zw by omega)];rfl
  ·rw [decide_eq_false h1,decide_eq_true (show 0≤s.zw by omega)]
   by_cases h2:c.aN≤s.zw
   ·rw [decide_eq_true h2,decide_eq_false (show ¬ s.zw < c.aN by omega)];rfl
   ·rw [decide_eq_false h2,decide_eq_true (show s.zw < c.aN by omega)]
    by_cases h3:(s.af.length:Int) < 1
    ·rw [decide_eq_true h3,decide_eq_false (show ¬ 1≤s.af.length by omega)];rfl
    ·rw [decide_eq_false h3,decide_eq_true (show 1≤s.af.length by omega)]
     by_cases h4:(1500:Int) < (s.af.length:Int)
     ·rw [decide_eq_true h4,decide_eq_false (show ¬ s.af.length≤1500 by omega)];rfl
     ·rw [decide_eq_false h4,decide_eq_true (show s.af.length≤1500 by omega)];rfl
 refine ay.ite (fun hb=>ay.some ⟨fun h=>by (cases h),fun h => ?_⟩) (fun hb => ?_)
 ·rw [decide_eq_true h.p0,decide_eq_true h.p1,decide_eq_true h.n1,decide_eq_true h.n2] at hb;cases hb
 simp only [um,ue,decide_eq_true_eq] at hb
 obtain ⟨p0,p1,n1,n2⟩:=hb
 refine ay.bind (Li hc s.af (·.aW) (·.bl) hl (Qe ({d:=s}:bQ)) (fun i hi=>by unfold Qe;rw [zt (ub hi)];rfl) rfl) ?_
 rintro _ (⟨F,rfl,hF,hvs⟩ | ⟨rfl,r,hr,hn⟩)
 ·simp only [ux]
  have gl:∀ q n,(∃ x∈s.af.map (fun r=>(r.aW,r.bl)),x.1=q∧x.2 < n)↔∃ r∈s.af,r.aW=q∧r.bl < n:=fun q n=>by
   constructor
   ·rintro ⟨x,hx,e⟩
    obtain ⟨r,hr,rfl⟩:=ul.1 hx
    exact ⟨r,hr,e⟩
   ·rintro ⟨r,hr,e⟩
    exact ⟨_,ul.2 ⟨r,hr,rfl⟩,e⟩
  have key:s.af.all (tS c s.zw F)=true↔gH c s:=by
   rw [uj]
   constructor
   ·intro h
    have h':=fun r hr=>(Ll hF gl hc (hvs r hr)).1 (h r hr)
    exact ⟨p0,p1,n1,n2,hvs,fun r hr=>(h' r hr).1,fun r hr=>(h' r hr).2.1,fun r hr=>(h' r hr).2.2.1,fun r hr=>(h' r hr).2.2.2⟩
   ·intro h r hr
    exact (Ll hF gl hc (hvs r hr)).2 ⟨h.rk r hr,h.zero r hr,h.own r hr,h.tP r hr⟩
  rw [wj (l:=s.af) (tS c s.zw F) hl (fun i hi=>by
   rw [zkV hc hi p0 p1 (hvs _ (uc hi))];simp only [aS,zx])]
  cases hall:s.af.all (tS c s.zw F) with
  | true=>exact ay.some ⟨fun _=>key.1 hall,fun _=>rfl⟩
  | false=>exact ay.some ⟨fun h=>by (cases h),fun h=>by rw [key.2 h] at hall;cases hall⟩
 ·exact ay.some ⟨fun h=>by (cases h),fun h=>absurd (h.vs r hr) hn⟩
end
end Go.Proofs.YtcmmhbmgpflmeaaGreatDoor
namespace Go.Proofs.YtcmmhbmgpflmeaaGreatDoor
set_option linter.unusedSimpArgs false
set_option linter.unusedVariables false
set_option maxRecDepth 100000
def Le {α:Type} (x y:Option α):Prop:=∀ r,x=some r→y=some r
theorem Le.refl {α:Type} (x:Option α):Le x x:=fun _ h=>h
theorem Le.bind {α β:Type} {x y:Option α} {f g:α→Option β} (h:Le x y) (hf:∀ a,Le (f a) (g a)):Le (x.bind f) (y.bind g):=fun r hr=>by
 obtain ⟨a,h1,h2⟩:=Option.bind_eq_some_iff.1 hr
 rw [h a h1];exact hf a r h2
theorem Le.cond {α:Type} (b:Bool) {x y x' y':Option α} (h1:Le x x') (h2:Le y y'):Le (bif b then x else y) (bif b then x' else y'):=by
 cases b
 ·exact h2
 ·exact h1
theorem Le.elim {α β γ:Type} {f f':α→Option γ} {g g':β→Option γ} (h1:∀ a,Le (f a) (f' a)) (h2:∀ a,Le (g a) (g' a)) (o:α ⊕ β):Le (ud f g o) (ud f' g' o):=by
 cases o
 ·exact h1 _
 ·exact h2 _
theorem Le.ck {σ ρ:Type} {f g:Nat→σ→Option (σ ⊕ ρ)} (h:∀ i s,Le (f i s) (g i s)):∀ (k i:Nat) (s:σ),Le (ck f i k s) (ck g i k s)
 | 0,i,s=>Le.refl _
 | k+1,i,s=>fun r hr=>by
  simp only [Go.Proofs.YtcmmhbmgpflmeaaGreatDoor.ck] at hr ⊢
  split at hr
  ·cases hr
  ·rename_i e;rw [h i s _ e];exact hr
  ·rename_i e;rw [h i s _ e];exact Le.ck h k (i+1) _ r hr
theorem Le.aG {σ ρ:Type} {f g:Nat→σ→Option (σ ⊕ ρ)} (h:∀ i s,Le (f i s) (g i s)) (n:Int) (s:σ):Le (aG n f s) (aG n g s):=fun r hr=>by
 obtain ⟨h1,h2⟩:=Ka hr
 rw [Qz h1];exact Le.ck h _ _ _ r h2
theorem Le.cS {σ ρ:Type} {f g:σ→Option (σ ⊕ ρ)} (h:∀ s,Le (f s) (g s)):∀ (k:Nat) (s:σ),Le (Go.Proofs.YtcmmhbmgpflmeaaGreatDoor.cS f k s) (Go.Proofs.YtcmmhbmgpflmeaaGreatDoor.cS g k s)
 | 0,s=>Le.refl _
 | k+1,s=>fun r hr=>by
  simp only [Go.Proofs.YtcmmhbmgpflmeaaGreatDoor.cS] at hr ⊢
  split at hr
  ·cases hr
  ·rename_i e;rw [h s _ e];exact hr
  ·rename_i e;rw [h s _ e];exact Le.cS h k _ r hr
theorem Le.iter {σ ρ:Type} {f g:σ→Option (σ ⊕ ρ)} (h:∀ s,Le (f s) (g s)) (k:Nat) (s:σ):Le (Go.Proofs.YtcmmhbmgpflmeaaGreatDoor.cS f k s) (Go.Proofs.YtcmmhbmgpflmeaaGreatDoor.iter g s):=fun r hr=>yR.2 ⟨k,Le.cS h k s r hr⟩
def YK:Nat→Nat→List UInt8
 | 0,u=>[]
 | f+1,u=>if u < 10 then [UInt8.ofNat (48+u)] else YK f (u / 10)++[UInt8.ofNat (48+u % 10)]
theorem YL:∀ (f u:Nat),u < 10 ^ (f+1)→YK (f+1) u=Lib.decDigits u
 | 0,u,h=>by
  rw [Lib.decDigits]
  simp only [YK]
  rw [if_pos (by omega),dif_pos (by omega)]
 | f+1,u,h=>by
  rw [Lib.decDigits,YK]
  by_cases hu:u < 10
  ·rw [if_pos hu,dif_pos hu]
  ·rw [if_neg hu,dif_neg hu,YL f (u / 10) (by rw [Nat.pow_succ] at h;omega)]
def wp (n:Int):Bool:=decide (-1000 < n)&&decide (n < 1000)
def Fc (n:Int):List UInt8:=if n < 0 then 45::YK 4 n.natAbs else YK 4 n.toNat
theorem zhN {n:Int} (h:wp n=true):Fc n=Lib.itoa n:=by
 simp only [wp,ue,decide_eq_true_eq] at h
 unfold Fc Lib.itoa
 rw [YL 3 n.natAbs (by omega),YL 3 n.toNat (by omega)]
def yw (n:Int):List UInt8:=Fc n++[32]
theorem kR {n:Int} (h:wp n=true):yw n=qa n:=by unfold yw qa;rw [zhN h]
def Lm (m:aq):List UInt8:=yw m.aH++yw m.left++yw m.got++yw m.bg++qE m.aT
def Fe (m:aq):Bool:=wp m.aH&&(wp m.left&&(wp m.got&&wp m.bg))
def VX (p:aA):List UInt8:=qE p.own++yw p.state.day++p.state.aC.flatMap yw++p.state.used.flatMap qE++p.state.aM.flatMap Lm
def Xr (p:aA):Bool:=wp p.state.day&&(p.state.aC.all wp&&p.state.aM.all Fe)
theorem Zo {α β:Type} {f g:α→List β}:∀ {l:List α},(∀ a∈l,f a=g a)→l.flatMap f=l.flatMap g
 | [],_=>rfl
 | a::l,h=>by rw [uC,uC,h a List.mem_cons_self,Zo fun b hb=>h b (List.mem_cons_of_mem _ hb)]
theorem zhO {p:aA} (h:Xr p=true):VX p=qu p:=by
 simp only [Xr,ue,uj] at h
 unfold VX qu
 rw [kR h.1,Zo (f:=yw) (g:=qa) (fun a ha=>kR (h.2.1 a ha)),Zo (f:=Lm) (g:=xu) (fun a ha=>by
  have:=h.2.2 a ha
  simp only [Fe,ue] at this
  show yw a.aH++yw a.left++yw a.got++yw a.bg++qE a.aT=qa a.aH++qa a.left++qa a.got++qa a.bg++qE a.aT
  rw [kR this.1,kR this.2.1,kR this.2.2.1,kR this.2.2.2])]
theorem yx {n:Int} (h:wp n=true):wa n=true:=by
 simp only [wp,wa,ue,decide_eq_true_eq] at h ⊢
 omega
def vW (p:aA):Option ByteArray:=bif Xr p&&decide ((VX p).length≤1000000000) then some ⟨(VX p).toArray⟩ else none
theorem XY (p:aA):Le (vW p) (jc p):=fun r h=>by
 unfold vW at h
 cases hq:(Xr p&&decide ((VX p).length≤1000000000)) with
 | false=>rw [hq] at h;cases h
 | true=>
  rw [hq] at h
  simp only [ue,decide_eq_true_eq] at hq
  have e:=zhO hq.1
  unfold jc
  rw [if_pos,←e]
  ·exact h
  ·have h1:=hq.1
   simp only [Xr,ue,uj] at h1
   simp only [rQ,ue,decide_eq_true_eq,uj]
   refine ⟨⟨⟨yx h1.1,fun x hx=>yx (h1.2.1 x hx)⟩,fun m hm => ?_⟩,by rw [←e];exact hq.2⟩
   have:=h1.2.2 m hm
   simp only [Fe,ue] at this
   exact ⟨⟨⟨yx this.1,yx this.2.1⟩,yx this.2.2.1⟩,yx this.2.2.2⟩
noncomputable def VY (p1:ax) (p2:Int) (p3:List Int) (p4:Nat) (p5:List Bool) (p6:Nat) (p7:List aq) (p8:Nat):Option ((List aq)):=
 (ua (cS (σ:=Bool×(List aq)) (ρ:=(List aq)) (fun s1=>(bif s1.1 then (ua (aG (σ:=Bool×(List aq)) (ρ:=Unit) (p1.aB.length:Int) (fun i2 s2=>(ua (ua (zf p1.aB (i2:Int)) fun e1=>(ua (ec p4 p3.length) fun g1=>(ua (ec p6 p5.length) fun g2=>(ua (ec p8 s2.2.length) fun g3=>(ua (yr p1 ({day:=p2,aC:=p3,used:=p5,aM:=s2.2}:bn) (i2:Int)) fun r1=>(bif r1 then (ua (bif (e1.kind == 4) then some (-1) else (ua (zo p4 e1.bW) fun k1=>(ua (p3[k1]?) fun e2=>some e2))) fun (v1:Int)=>(ua (zo p8 (i2:Int)) fun k2=>(ua (s2.2[k2]?) fun e3=>some (true,(s2.2.set k2 ({aH:=1,left:=e1.after,got:=0,bg:=v1,aT:=false}:aq)))))) else some (s2.1,s2.2))))))) fun (v2:Bool×(List aq))=>some (.inl (v2.1,v2.2)))) (false,s1.2)) (ud (fun (s2:Bool×(List aq))=>some (.inl (s2.1,s2.2))) (fun _=>none))) else some (.inr s1.2))) 40 (true,p7)) (fun (y1:(List aq))=>some y1))
theorem Ff (p1:ax) (p2:Int) (p3:List Int) (p4:Nat) (p5:List Bool) (p6:Nat) (p7:List aq) (p8:Nat):Le (VY p1 p2 p3 p4 p5 p6 p7 p8) (wS p1 p2 p3 p4 p5 p6 p7 p8):=by
 unfold VY wS
 repeat' (first | with_reducible exact Le.refl _ | with_reducible refine Le.bind ?_ (fun _ => ?_) | with_reducible refine Le.cond _ ?_ ?_ | with_reducible refine Le.aG (fun _ _ => ?_) _ _ | with_reducible refine Le.iter (fun _ => ?_) _ _ | with_reducible refine Le.elim (fun _ => ?_) (fun _ => ?_) _)
noncomputable def YM (c:ax):Option (bn×Int):=
 (ua (vr c) fun r1=>(bif (r1.1 == 0) then (ua (jl 8 c.aC) fun e1=>(ua (eA 1 (c.aK.length:Int)) fun k1=>(ua (eA 40 (c.aB.length:Int)) fun k2=>(ua (aG (σ:=(List aq)) (ρ:=Unit) (c.aB.length:Int) (fun i1 s1=>(ua (ua (zf c.aB (i1:Int)) fun e2=>(ua (zo k2 (i1:Int)) fun k3=>(ua (s1[k3]?) fun e3=>(bif e2.bq then (ua (zo k2 (i1:Int)) fun k4=>(ua ((s1.set k3 ({aH:=0,left:=0,got:=0,bg:=(-1),aT:=false}:aq))[k4]?) fun e4=>some ((s1.set k3 ({aH:=0,left:=0,got:=0,bg:=(-1),aT:=false}:aq)).set k4 ({e4 with aH:=5}:aq)))) else some (s1.set k3 ({aH:=0,left:=0,got:=0,bg:=(-1),aT:=false}:aq)))))) fun (v1:(List aq))=>some (.inl v1))) (ug k2 ({aH:=0,left:=0,got:=0,bg:=0,aT:=false}:aq))) (ud (fun (s1:(List aq))=>(ua (VY c 0 e1 e1.length (ug k1 false) k1 s1 k2) fun r2=>(ua (ec k1 (ug k1 false).length) fun g1=>(ua (ec k2 r2.length) fun g2=>some (({day:=0,aC:=e1,used:=(ug k1 false),aM:=r2}:bn),0))))) (fun _=>none)))))) else some (({day:=0,aC:=[],used:=[],aM:=[]}:bn),1)))
theorem zhP (c:ax):Le (YM c) (xe c):=by
 unfold YM xe
 repeat' (first | with_reducible exact Le.refl _ | with_reducible exact Ff _ _ _ _ _ _ _ _ | with_reducible refine Le.bind ?_ (fun _ => ?_) | with_reducible refine Le.cond _ ?_ ?_ | with_reducible refine Le.aG (fun _ _ => ?_) _ _ | with_reducible refine Le.iter (fun _ => ?_) _ _ | with_reducible refine Le.elim (fun _ => ?_) (fun _ => ?_) _)
noncomputable def yy (l:List Int) (v:Int):Option (Int×Bool):=
 (ua (ua (cS (σ:=Int×Int) (ρ:=Int) (fun s1=>(bif decide (s1.1 < s1.2) then (ua (ZP .u64 .u64 (IntKind.u64.wrap (IntKind.i64.wrap (s1.1+s1.2))) 1) fun e1=>(ua (zf l (IntKind.i64.wrap e1)) fun e2=>(ua (Z9 e2 v) fun r1=>(bif r1 then some (.inl ((IntKind.i64.wrap ((IntKind.i64.wrap e1)+1)),s1.2)) else some (.inl (s1.1,(IntKind.i64.wrap e1))))))) else some (.inr s1.1))) 40 (0,(l.length:Int))) (fun (y1:Int)=>some y1)) fun (v1:Int)=>(ua (bif decide (v1 < (l.length:Int)) then (ua (zf l v1) fun e3=>(bif (e3 == v) then some true else (ua (kM e3) fun r2=>(bif r2 then (ua (kM v) fun r3=>some r3) else some false)))) else some false) fun v2=>some (v1,v2)))
theorem VZ (l:List Int) (v:Int):Le (yy l v) (jR l v):=by
 unfold yy jR
 repeat' (first | with_reducible exact Le.refl _ | with_reducible refine Le.bind ?_ (fun _ => ?_) | with_reducible refine Le.cond _ ?_ ?_ | with_reducible refine Le.aG (fun _ _ => ?_) _ _ | with_reducible refine Le.iter (fun _ => ?_) _ _ | with_reducible refine Le.elim (fun _ => ?_) (fun _ => ?_) _)
noncomputable def Fg (p1:ax) (p2:Int) (p3:List Int) (p4:Nat) (p5:List Bool) (p6:Nat) (p7:List aq) (p8:Nat):Option ((List aq)):=
 (ua (yy p1.off p2) fun r1=>(ua (ua (xK p1 p2 p3 p4 p5 p6 p7 p8) fun r2=>(ua (aG (σ:=(List aq)) (ρ:=(List aq)) (p8:Int) (fun i1 s1=>(ua (ua (zo p8 (i1:Int)) fun k1=>(ua (s1[k1]?) fun e1=>(ua (jP e1) fun r3=>(bif r3 then (ua (ua (zf p1.aB (i1:Int)) fun e2=>(ua (ua (zo p8 (i1:Int)) fun k2=>(ua (s1[k2]?) fun e3=>(bif e3.aT then some true else (bif e2.bV then some r1.2 else some false)))) fun v1=>(bif v1 then some s1 else (ua (zo p8 (i1:Int)) fun k3=>(ua (s1[k3]?) fun e4=>(ua (zo p8 (i1:Int)) fun k4=>(ua ((s1.set k3 ({e4 with left:=(IntKind.i64.wrap (e4.left - 1))}:aq))[k4]?) fun e5=>(bif (e5.left == 0) then (ua (bif (e2.kind == (0:Int)) then none else (bif (e2.kind == (1:Int)) then (ua (Vv (i1:Int) p1 p2 p3 p4 p5 p6 (s1.set k3 ({e4 with left:=(IntKind.i64.wrap (e4.left - 1))}:aq)) p8) fun r7=>some r7) else (bif (e2.kind == (2:Int)) then (ua (wT (i1:Int) p1 p2 p3 p4 p5 p6 (s1.set k3 ({e4 with left:=(IntKind.i64.wrap (e4.left - 1))}:aq)) p8) fun r6=>some r6) else (bif (e2.kind == (3:Int)) then (ua (ZE (i1:Int) p1 p2 p3 p4 p5 p6 (s1.set k3 ({e4 with left:=(IntKind.i64.wrap (e4.left - 1))}:aq)) p8) fun r5=>some r5) else (bif (e2.kind == (4:Int)) then (ua (ZE (i1:Int) p1 p2 p3 p4 p5 p6 (s1.set k3 ({e4 with left:=(IntKind.i64.wrap (e4.left - 1))}:aq)) p8) fun r4=>some r4) else none))))) fun v2=>some v2) else some (s1.set k3 ({e4 with left:=(IntKind.i64.wrap (e4.left - 1))}:aq)))))))))) fun (v3:(List aq))=>some ((!true),v3)) else some (false,s1))))) fun (v4:Bool×(List aq))=>(bif v4.1 then some (.inr v4.2) else some (.inl v4.2)))) p7) (ud (fun (s1:(List aq))=>some s1) (fun (y1:(List aq))=>some y1)))) fun (v5:(List aq))=>(ua (VY p1 (IntKind.i64.wrap (p2+1)) p3 p4 p5 p6 v5 p8) fun r8=>some r8)))
theorem zkW (p1:ax) (p2:Int) (p3:List Int) (p4:Nat) (p5:List Bool) (p6:Nat) (p7:List aq) (p8:Nat):Le (Fg p1 p2 p3 p4 p5 p6 p7 p8) (iq p1 p2 p3 p4 p5 p6 p7 p8):=by
 unfold Fg iq
 repeat' (first | with_reducible exact Le.refl _ | with_reducible exact VZ _ _ | with_reducible exact Ff _ _ _ _ _ _ _ _ | with_reducible refine Le.bind ?_ (fun _ => ?_) | with_reducible refine Le.cond _ ?_ ?_ | with_reducible refine Le.aG (fun _ _ => ?_) _ _ | with_reducible refine Le.iter (fun _ => ?_) _ _ | with_reducible refine Le.elim (fun _ => ?_) (fun _ => ?_) _)
noncomputable def Fh (p1:Int) (p2:ax) (p3:Int) (p4:List Int) (p5:Nat) (p6:List Bool) (p7:Nat) (p8:List aq) (p9:Nat):Option ((List Int)×(List Bool)×(List aq)):=
 (ua (zf p2.aK p1) fun e1=>(ua (bif (e1.kind == 1) then some false else (ua (zo p7 p1) fun k1=>(ua (p6[k1]?) fun e2=>some e2))) fun v1=>(bif v1 then some (p4,p6,p8) else (ua (ua (xK p2 p3 p4 p5 p6 p7 p8 p9) fun r1=>(ua (aG (σ:=(List aq)) (ρ:=(List aq)) (p9:Int) (fun i1 s1=>(ua (ua (zo p9 (i1:Int)) fun k2=>(ua (s1[k2]?) fun e3=>(ua (jP e3) fun r2=>(bif r2 then (ua (ua (zf p2.aB (i1:Int)) fun e4=>(bif (p1 == e4.bH) then (ua (zo p9 (i1:Int)) fun k3=>(ua (s1[k3]?) fun e5=>some (s1.set k3 ({e5 with aT:=true}:aq)))) else (ua (zf p2.aB (i1:Int)) fun e6=>(bif (p1 == e6.resume) then (ua (zo p9 (i1:Int)) fun k4=>(ua (s1[k4]?) fun e7=>some (s1.set k4 ({e7 with aT:=false}:aq)))) else some s1)))) fun (v2:(List aq))=>some ((!true),v2)) else some (false,s1))))) fun (v3:Bool×(List aq))=>(bif v3.1 then some (.inr v3.2) else some (.inl v3.2)))) p8) (ud (fun (s1:(List aq))=>some s1) (fun (y1:(List aq))=>some y1)))) fun (v4:(List aq))=>(ua (ec p5 p4.length) fun g1=>(ua (ec p7 p6.length) fun g2=>(ua (ec p9 v4.length) fun g3=>(ua (Qa p2 ({day:=p3,aC:=p4,used:=p6,aM:=v4}:bn) p1) fun r3=>(ua (ua (xK p2 p3 p4 p5 p6 p7 v4 p9) fun r4=>(ua (aG (σ:=(List aq)) (ρ:=(List aq)) (p9:Int) (fun i2 s2=>(ua (ua (zo p9 (i2:Int)) fun k5=>(ua (s2[k5]?) fun e8=>(ua (jP e8) fun r5=>(bif r5 then (ua (ua (zf p2.aB (i2:Int)) fun e9=>(ua (bif (e9.act == p1) then (bif (e9.kind == 4) then some true else (ua (zo p9 (i2:Int)) fun k6=>(ua (s2[k6]?) fun dW=>some (dW.bg == r3)))) else some false) fun v5=>(bif v5 then (ua (bif (e9.kind == (0:Int)) then none else (bif (e9.kind == (1:Int)) then (ua (Vx (i2:Int) p2 p3 p4 p5 p6 p7 s2 p9) fun r9=>some r9) else (bif (e9.kind == (2:Int)) then (ua (Vw (i2:Int) p2 p3 p4 p5 p6 p7 s2 p9) fun r8=>some r8) else (bif (e9.kind == (3:Int)) then (ua (wT (i2:Int) p2 p3 p4 p5 p6 p7 s2 p9) fun r7=>some r7) else (bif (e9.kind == (4:Int)) then (ua (wT (i2:Int) p2 p3 p4 p5 p6 p7 s2 p9) fun r6=>some r6) else none))))) fun v6=>some v6) else some s2))) fun (v7:(List aq))=>some ((!true),v7)) else some (false,s2))))) fun (v8:Bool×(List aq))=>(bif v8.1 then some (.inr v8.2) else some (.inl v8.2)))) v4) (ud (fun (s2:(List aq))=>some s2) (fun (y2:(List aq))=>some y2)))) fun (v9:(List aq))=>(ua (bif (e1.kind == 1) then some (p4,p6,v9) else (ua (Vy p1 p2 p3 p4 p5 p6 p7 v9 p9) fun gz=>some (gz.1,gz.2.1,gz.2.2))) fun (v10:(List Int)×(List Bool)×(List aq))=>(ua (VY p2 p3 v10.1 p5 v10.2.1 p7 v10.2.2 p9) fun eK=>some (v10.1,v10.2.1,eK))))))))))))
theorem zkX (p1:Int) (p2:ax) (p3:Int) (p4:List Int) (p5:Nat) (p6:List Bool) (p7:Nat) (p8:List aq) (p9:Nat):Le (Fh p1 p2 p3 p4 p5 p6 p7 p8 p9) (QT p1 p2 p3 p4 p5 p6 p7 p8 p9):=by
 unfold Fh QT
 repeat' (first | with_reducible exact Le.refl _ | with_reducible exact Ff _ _ _ _ _ _ _ _ | with_reducible refine Le.bind ?_ (fun _ => ?_) | with_reducible refine Le.cond _ ?_ ?_ | with_reducible refine Le.aG (fun _ _ => ?_) _ _ | with_reducible refine Le.iter (fun _ => ?_) _ _ | with_reducible refine Le.elim (fun _ => ?_) (fun _ => ?_) _)
noncomputable def Zp (c:ax) (s:bn) (step:Int):Option (bn×Int):=
 (ua (ua (jp c s) fun r1=>(bif r1 then (bif decide (step < (-1)) then some true else some (decide ((c.aK.length:Int)≤step))) else some true)) fun v1=>(bif v1 then some (({day:=0,aC:=[],used:=[],aM:=[]}:bn),1) else (bif (s.day == c.aJ) then some (({day:=0,aC:=[],used:=[],aM:=[]}:bn),13) else (ua (eA 8 (s.aC.length:Int)) fun k1=>(ua (eA 1 (s.used.length:Int)) fun k2=>(ua (eA 40 (s.aM.length:Int)) fun k3=>(ua (x8 (α:=Int) k1 (ug k1 0) s.aC) fun e1=>(ua (x8 (α:=Bool) k2 (ug k2 false) s.used) fun e2=>(ua (x8 (α:=aq) k3 (ug k3 ({aH:=0,left:=0,got:=0,bg:=0,aT:=false}:aq)) s.aM) fun e3=>(ua (bif (step == (-1)) then (ua (Fg c s.day e1 k1 e2 k2 e3 k3) fun r2=>some (e1,e2,r2,(IntKind.i64.wrap (s.day+1)))) else (ua (Fh step c s.day e1 k1 e2 k2 e3 k3) fun r3=>some (r3.1,r3.2.1,r3.2.2,s.day))) fun (v2:(List Int)×(List Bool)×(List aq)×Int)=>(ua (ec k1 v2.1.length) fun g1=>(ua (ec k2 v2.2.1.length) fun g2=>(ua (ec k3 v2.2.2.1.length) fun g3=>some (({day:=v2.2.2.2,aC:=v2.1,used:=v2.2.1,aM:=v2.2.2.1}:bn),0))))))))))))))
theorem YN (c:ax) (s:bn) (step:Int):Le (Zp c s step) (cK c s step):=by
 unfold Zp cK
 repeat' (first | with_reducible exact Le.refl _ | with_reducible exact zkW _ _ _ _ _ _ _ _ | with_reducible exact zkX _ _ _ _ _ _ _ _ _ | with_reducible refine Le.bind ?_ (fun _ => ?_) | with_reducible refine Le.cond _ ?_ ?_ | with_reducible refine Le.aG (fun _ _ => ?_) _ _ | with_reducible refine Le.iter (fun _ => ?_) _ _ | with_reducible refine Le.elim (fun _ => ?_) (fun _ => ?_) _)
noncomputable def V0 (c:ax) (zw:Int) (p:aA):Option (cF×Int):=
 (ua (xj c zw p) fun r1=>(bif r1 then (ua (xo p.state) fun r2=>(ua (vW p) fun r3=>(ua (α:=((List aA)×(List (List bA))) ⊕ Unit) (ua (cS (σ:=Int×(List aA)×(List (List bA))×(List (ByteArray×Int))) (ρ:=((List aA)×(List (List bA))) ⊕ Unit) (fun s1=>(bif decide (s1.1 < (s1.2.1.length:Int)) then (ua (α:=((List aA)×(List (ByteArray×Int))×(List bA)) ⊕ Unit) (ua (zf s1.2.1 s1.1) fun e1=>(ua (Vt c zw e1) fun r4=>(ua (α:=((List aA)×(List (ByteArray×Int))×(List bA)) ⊕ (Unit ⊕ ((List aA)×(List (ByteArray×Int))×(List bA)))) (bif e1.own then (ua (xo e1.state) fun r5=>(ua (vW ({state:=r5,own:=false}:aA)) fun r6=>(ua (α:=(Int×(List aA)×(List (ByteArray×Int))) ⊕ Unit) (bif ((zr r6 s1.2.2.2).isSome) then some (.inl (((zr r6 s1.2.2.2).getD 0),s1.2.1,s1.2.2.2)) else (bif ((s1.2.1.length:Int) == 1500) then some (.inr ()) else (ua (zN (α:=aA) 88 s1.2.1 [({state:=r5,own:=false}:aA)]) fun e2=>some (.inl ((s1.2.1.length:Int),e2,(zO r6 (s1.2.1.length:Int) s1.2.2.2)))))) (ud (fun (v1:Int×(List aA)×(List (ByteArray×Int)))=>(ua (zN (α:=bA) 16 [] [({step:=(-2),to:=v1.1}:bA)]) fun e3=>(bif decide (c.aJ≤e1.state.day) then some (.inr (.inr (v1.2.1,v1.2.2,e3))) else some (.inl (v1.2.1,v1.2.2,e3))))) (fun (y1:Unit)=>some (.inr (.inl ()))))))) else (bif decide (c.aJ≤e1.state.day) then some (.inr (.inr (s1.2.1,s1.2.2.2,[]))) else some (.inl (s1.2.1,s1.2.2.2,[])))) (ud (fun (v2:(List aA)×(List (ByteArray×Int))×(List bA))=>(ua (α:=((List aA)×(List (ByteArray×Int))×(List bA)) ⊕ Unit) (bif e1.own then some (.inl (v2.1,v2.2.1,v2.2.2)) else (ua (Zp c e1.state (-1)) fun r7=>(ua (vW ({state:=r7.1,own:=true}:aA)) fun r8=>(ua (α:=(Int×(List aA)×(List (ByteArray×Int))) ⊕ Unit) (bif ((zr r8 v2.2.1).isSome) then some (.inl (((zr r8 v2.2.1).getD 0),v2.1,v2.2.1)) else (bif ((v2.1.length:Int) == 1500) then some (.inr ()) else (ua (zN (α:=aA) 88 v2.1 [({state:=r7.1,own:=true}:aA)]) fun e4=>some (.inl ((v2.1.length:Int),e4,(zO r8 (v2.1.length:Int) v2.2.1)))))) (ud (fun (v3:Int×(List aA)×(List (ByteArray×Int)))=>(ua (zN (α:=bA) 16 v2.2.2 [({step:=(-1),to:=v3.1}:bA)]) fun e5=>some (.inl (v3.2.1,v3.2.2,e5)))) (fun (y4:Unit)=>some (.inr ()))))))) (ud (fun (v4:(List aA)×(List (ByteArray×Int))×(List bA))=>(ua (aG (σ:=(List aA)×(List (ByteArray×Int))×(List bA)) (ρ:=(List aA)×(List (ByteArray×Int))×(List bA)) (c.aK.length:Int) (fun i2 s2=>(ua (α:=((List aA)×(List (ByteArray×Int))×(List bA)) ⊕ Unit) (ua (zf c.aK (i2:Int)) fun e6=>(ua (bif (e6.bW == (-1)) then some (-1) else (ua (zf e1.state.aC e6.bW) fun e7=>some e7)) fun (v5:Int)=>(bif ((v5 == zw) == e1.own) then (ua (Zp c e1.state (i2:Int)) fun r9=>(ua (xz r9.1 e1.state) fun gz=>(bif gz then some (.inl (s2.1,s2.2.1,s2.2.2)) else (ua (vW ({state:=r9.1,own:=true}:aA)) fun eK=>(ua (α:=(Int×(List aA)×(List (ByteArray×Int))) ⊕ Unit) (bif ((zr eK s2.2.1).isSome) then some (.inl (((zr eK s2.2.1).getD 0),s2.1,s2.2.1)) else (bif ((s2.1.length:Int) == 1500) then some (.inr ()) else (ua (zN (α:=aA) 88 s2.1 [({state:=r9.1,own:=true}:aA)]) fun e8=>some (.inl ((s2.1.length:Int),e8,(zO eK (s2.1.length:Int) s2.2.1)))))) (ud (fun (v6:Int×(List aA)×(List (ByteArray×Int)))=>(ua (zN (α:=bA) 16 s2.2.2 [({step:=(i2:Int),to:=v6.1}:bA)]) fun e9=>some (.inl (v6.2.1,v6.2.2,e9)))) (fun (y6:Unit)=>some (.inr ())))))))) else some (.inl (s2.1,s2.2.1,s2.2.2))))) (ud (fun (v7:(List aA)×(List (ByteArray×Int))×(List bA))=>some (.inl (v7.1,v7.2.1,v7.2.2))) (fun (y7:Unit)=>some (.inr (s2.1,s2.2.1,s2.2.2)))))) (v4.1,v4.2.1,v4.2.2)) (ud (fun (s2:(List aA)×(List (ByteArray×Int))×(List bA))=>some (.inl (s2.1,s2.2.1,s2.2.2))) (fun (y8:(List aA)×(List (ByteArray×Int))×(List bA))=>some (.inr ()))))) (fun (y5:Unit)=>some (.inr ()))))) (ud (fun (y2:Unit)=>some (.inr ())) (fun (y3:(List aA)×(List (ByteArray×Int))×(List bA))=>some (.inl (y3.1,y3.2.1,y3.2.2)))))))) (ud (fun (v8:(List aA)×(List (ByteArray×Int))×(List bA))=>(ua (zN (α:=List bA) 24 s1.2.2.1 [v8.2.2]) fun dW=>some (.inl ((IntKind.i64.wrap (s1.1+1)),v8.1,dW,v8.2.1)))) (fun (y9:Unit)=>some (.inr (.inr ()))))) else some (.inr (.inl (s1.2.1,s1.2.2.1))))) 40 (0,[({state:=r2,own:=p.own}:aA)],[],(zO r3 0 []))) (ud (fun (rR:(List aA)×(List (List bA)))=>some (.inl (rR.1,rR.2))) (fun (Ia:Unit)=>some (.inr ())))) (ud (fun (v9:(List aA)×(List (List bA)))=>some (({zw:=zw,aR:=v9.1,bO:=v9.2}:cF),0)) (fun (Ib:Unit)=>some (({zw:=0,aR:=[],bO:=[]}:cF),3)))))) else some (({zw:=0,aR:=[],bO:=[]}:cF),1)))
theorem Ln (c:ax) (zw:Int) (p:aA):Le (V0 c zw p) (xk c zw p):=by
 unfold V0 xk
 repeat' (first | with_reducible exact Le.refl _ | with_reducible exact XY _ | with_reducible exact YN _ _ _ | with_reducible refine Le.bind ?_ (fun _ => ?_) | with_reducible refine Le.cond _ ?_ ?_ | with_reducible refine Le.aG (fun _ _ => ?_) _ _ | with_reducible refine Le.iter (fun _ => ?_) _ _ | with_reducible refine Le.elim (fun _ => ?_) (fun _ => ?_) _)
noncomputable def XZ (c:ax) (a:cF):Option (List Int):=
 (ua (wh c a) fun r1=>(bif r1 then (ua (eA 8 (a.aR.length:Int)) fun k1=>(ua (eA 8 (a.aR.length:Int)) fun k2=>(ua (eA 24 (a.aR.length:Int)) fun k3=>(ua (aG (σ:=(List Int)×(List Int)×(List (List Int))×(List Int)) (ρ:=Unit) (a.aR.length:Int) (fun i1 s1=>(ua (ua (zf a.aR (i1:Int)) fun e1=>(ua (zf a.bO (i1:Int)) fun e2=>(ua (zo k1 (i1:Int)) fun k4=>(ua (s1.1[k4]?) fun e3=>(ua (zo k2 (i1:Int)) fun k5=>(ua (s1.2.1[k5]?) fun e4=>(ua (zf a.bO (i1:Int)) fun e5=>(ua (aG (σ:=(List (List Int))) (ρ:=Unit) (e5.length:Int) (fun i2 s2=>(ua (zf e5 (i2:Int)) fun e6=>(ua (vp s2 k3 e6.to (i1:Int)) fun v1=>some (.inl v1)))) s1.2.2.1) (ud (fun (s2:(List (List Int)))=>(ua (JW c e1.state a.zw) fun r2=>(bif r2 then (ua (zo k1 (i1:Int)) fun k6=>(ua ((s1.1.set k4 (-1))[k6]?) fun e7=>(ua (kb (i1:Int) s1.2.2.2 0) fun r3=>some (((s1.1.set k4 (-1)).set k6 0),(s1.2.1.set k5 (e2.length:Int)),s2,r3)))) else some ((s1.1.set k4 (-1)),(s1.2.1.set k5 (e2.length:Int)),s2,s1.2.2.2)))) (fun _=>none)))))))))) fun (v2:(List Int)×(List Int)×(List (List Int))×(List Int))=>some (.inl (v2.1,v2.2.1,v2.2.2.1,v2.2.2.2)))) ((ug k1 0),(ug k2 0),(ug k3 []),[])) (ud (fun (s1:(List Int)×(List Int)×(List (List Int))×(List Int))=>(ua (aG (σ:=(List Int)×(List Int)) (ρ:=Unit) (a.aR.length:Int) (fun i3 s3=>(ua (ua (zf a.aR (i3:Int)) fun e8=>(ua (bif e8.own then (ua (zo k2 (i3:Int)) fun k7=>(ua (s1.2.1[k7]?) fun e9=>(bif (e9 == 0) then (ua (zo k1 (i3:Int)) fun k8=>(ua (s3.1[k8]?) fun dW=>some (dW == (-1)))) else some false))) else some false) fun v3=>(bif v3 then (ua (kc (i3:Int) 1 s3.1 k1 s3.2 0) fun r4=>some (r4.2,r4.1)) else some (s3.1,s3.2)))) fun (v4:(List Int)×(List Int))=>some (.inl (v4.1,v4.2)))) (s1.1,s1.2.2.2)) (ud (fun (s3:(List Int)×(List Int))=>(ua (ua (wK s3.2 0) fun r5=>(ua (cS (σ:=Int×Bool×(List Int)×(List Int)×(List Int)×Int) (ρ:=(List Int)) (fun s4=>(bif s4.2.1 then (ua (zo k3 s4.1) fun k9=>(ua (s1.2.2.1[k9]?) fun fU=>(ua (aG (σ:=(List Int)×(List Int)×(List Int)) (ρ:=Unit) (fU.length:Int) (fun i5 s5=>(ua (zf fU (i5:Int)) fun Ak=>(ua (Qb Ak s4.1 s5.2.1 k2 s5.1 k1 a s5.2.2 s4.2.2.2.2.2) fun r6=>some (.inl (r6.2.1,r6.1,r6.2.2))))) (s4.2.2.1,s4.2.2.2.1,s4.2.2.2.2.1)) (ud (fun (s5:(List Int)×(List Int)×(List Int))=>(ua (wK s5.2.2 s4.2.2.2.2.2) fun r7=>some (.inl (r7.1,r7.2.1,s5.1,s5.2.1,s5.2.2,r7.2.2)))) (fun _=>none))))) else some (.inr s4.2.2.1))) 40 (r5.1,r5.2.1,s3.1,s1.2.1,s3.2,r5.2.2)) (fun (y1:(List Int))=>some y1))) fun (v5:(List Int))=>(ua (ec k1 v5.length) fun g1=>some v5))) (fun _=>none)))) (fun _=>none)))))) else some []))
theorem Lo (c:ax) (a:cF):Le (XZ c a) (vt c a):=by
 unfold XZ vt
 repeat' (first | with_reducible exact Le.refl _ | with_reducible refine Le.bind ?_ (fun _ => ?_) | with_reducible refine Le.cond _ ?_ ?_ | with_reducible refine Le.aG (fun _ _ => ?_) _ _ | with_reducible refine Le.iter (fun _ => ?_) _ _ | with_reducible refine Le.elim (fun _ => ?_) (fun _ => ?_) _)
noncomputable def Fi (c:ax) (a:cF):Option (List Bool):=
 (ua (XZ c a) fun r1=>(ua (eA 1 (r1.length:Int)) fun k1=>(ua (aG (σ:=(List Bool)) (ρ:=Unit) (r1.length:Int) (fun i1 s1=>(ua (zf r1 (i1:Int)) fun e1=>(ua (zo k1 (i1:Int)) fun k2=>(ua (s1[k2]?) fun e2=>some (.inl (s1.set k2 (e1 == (-1)))))))) (ug k1 false)) (ud (fun (s1:(List Bool))=>(ua (ec k1 s1.length) fun g1=>some s1)) (fun _=>none)))))
theorem zi6 (c:ax) (a:cF):Le (Fi c a) (Zf c a):=by
 unfold Fi Zf
 repeat' (first | with_reducible exact Le.refl _ | with_reducible exact Lo _ _ | with_reducible refine Le.bind ?_ (fun _ => ?_) | with_reducible refine Le.cond _ ?_ ?_ | with_reducible refine Le.aG (fun _ _ => ?_) _ _ | with_reducible refine Le.iter (fun _ => ?_) _ _ | with_reducible refine Le.elim (fun _ => ?_) (fun _ => ?_) _)
noncomputable def Xs (c:ax) (zw:Int) (p:aA):Option (eu×Int):=
 (ua (V0 c zw p) fun r1=>(bif (r1.2 == 0) then (ua (Fi c r1.1) fun r2=>(ua (zf r2 0) fun e1=>(bif e1 then (ua (aG (σ:=(List dh)) (ρ:=Unit) (r1.1.aR.length:Int) (fun i1 s1=>(ua (ua (zf r1.1.aR (i1:Int)) fun e2=>(ua (zf r2 (i1:Int)) fun e3=>(bif e3 then (ua (kd r1.1 r2 (i1:Int)) fun r3=>(ua (zN (α:=dh) 96 s1 [({aW:=e2,move:=r3}:dh)]) fun e4=>some e4)) else some s1))) fun (v1:(List dh))=>some (.inl v1))) []) (ud (fun (s1:(List dh))=>some (({zw:=zw,af:=s1}:eu),0)) (fun _=>none))) else some (({zw:=0,af:=[]}:eu),13)))) else some (({zw:=0,af:=[]}:eu),r1.2)))
theorem zeq (c:ax) (zw:Int) (p:aA):Le (Xs c zw p) (xE c zw p):=by
 unfold Xs xE
 repeat' (first | with_reducible exact Le.refl _ | with_reducible exact Ln _ _ _ | with_reducible exact zi6 _ _ | with_reducible refine Le.bind ?_ (fun _ => ?_) | with_reducible refine Le.cond _ ?_ ?_ | with_reducible refine Le.aG (fun _ _ => ?_) _ _ | with_reducible refine Le.iter (fun _ => ?_) _ _ | with_reducible refine Le.elim (fun _ => ?_) (fun _ => ?_) _)
noncomputable def YO (c:ax) (zw:Int) (p:aA):Option (bP×Int):=
 (ua (V0 c zw p) fun r1=>(bif (r1.2 == 0) then (ua (XZ c r1.1) fun r2=>(ua (zf r2 0) fun e1=>(bif decide (e1 < 0) then some (({zw:=0,af:=[]}:bP),13) else (ua (aG (σ:=(List cU)) (ρ:=Unit) (r1.1.aR.length:Int) (fun i1 s1=>(ua (ua (zf r1.1.aR (i1:Int)) fun e2=>(ua (zf r2 (i1:Int)) fun e3=>(bif decide (0≤e3) then (ua (zf r2 (i1:Int)) fun e4=>(ua (ke r1.1 r2 (i1:Int)) fun r3=>(ua (zN (α:=cU) 104 s1 [({aW:=e2,bl:=e4,move:=r3}:cU)]) fun e5=>some e5))) else some s1))) fun (v1:(List cU))=>some (.inl v1))) []) (ud (fun (s1:(List cU))=>some (({zw:=zw,af:=s1}:bP),0)) (fun _=>none)))))) else some (({zw:=0,af:=[]}:bP),r1.2)))
theorem zhQ (c:ax) (zw:Int) (p:aA):Le (YO c zw p) (vv c zw p):=by
 unfold YO vv
 repeat' (first | with_reducible exact Le.refl _ | with_reducible exact Ln _ _ _ | with_reducible exact Lo _ _ | with_reducible refine Le.bind ?_ (fun _ => ?_) | with_reducible refine Le.cond _ ?_ ?_ | with_reducible refine Le.aG (fun _ _ => ?_) _ _ | with_reducible refine Le.iter (fun _ => ?_) _ _ | with_reducible refine Le.elim (fun _ => ?_) (fun _ => ?_) _)
noncomputable def YP (c:ax) (zw:Int) (p:aA):Option ((List Int)×Int):=
 (ua (xj c zw p) fun r1=>(bif r1 then (ua (ua (ZC c zw p) fun r2=>(ua (bif p.own then (ua (xo p.state) fun r3=>(ua (zN (α:=Int) 8 [] [(-2)]) fun e1=>some e1)) else some []) fun (v1:(List Int))=>(bif decide (c.aJ≤p.state.day) then some v1 else (ua (bif p.own then some v1 else (ua (Zp c p.state (-1)) fun r4=>(ua (zN (α:=Int) 8 v1 [(-1)]) fun e2=>some e2))) fun (v2:(List Int))=>(ua (aG (σ:=(List Int)) (ρ:=(List Int)) (c.aK.length:Int) (fun i1 s1=>(ua (α:=(List Int) ⊕ (List Int)) (ua (zf c.aK (i1:Int)) fun e3=>(ua (bif (e3.bW == (-1)) then some (-1) else (ua (zf p.state.aC e3.bW) fun e4=>some e4)) fun (v3:Int)=>(bif ((v3 == zw) == p.own) then (ua (Zp c p.state (i1:Int)) fun r5=>(ua (ua (xz r5.1 p.state) fun r6=>(bif r6 then some (false,s1) else (ua (zN (α:=Int) 8 s1 [(i1:Int)]) fun e5=>some ((!true),e5)))) fun (v4:Bool×(List Int))=>(bif v4.1 then some (.inr v4.2) else some (.inl v4.2)))) else some (.inl s1)))) (ud (fun (v5:(List Int))=>some (.inl v5)) (fun (y1:(List Int))=>some (.inr y1))))) v2) (ud (fun (s1:(List Int))=>some s1) (fun (y2:(List Int))=>some y2))))))) fun (v6:(List Int))=>some (v6,0)) else some ([],1)))
theorem zhR (c:ax) (zw:Int) (p:aA):Le (YP c zw p) (xX c zw p):=by
 unfold YP xX
 repeat' (first | with_reducible exact Le.refl _ | with_reducible exact YN _ _ _ | with_reducible refine Le.bind ?_ (fun _ => ?_) | with_reducible refine Le.cond _ ?_ ?_ | with_reducible refine Le.aG (fun _ _ => ?_) _ _ | with_reducible refine Le.iter (fun _ => ?_) _ _ | with_reducible refine Le.elim (fun _ => ?_) (fun _ => ?_) _)
noncomputable def V1 (p1:aA) (p2:Int) (p3:ax) (p4:Int) (p5:List (ByteArray×Int)):Option (Int×Bool):=
 (ua (bif (p2 == (-2)) then some (p1.state.day,p1.state.aC,p1.state.used,p1.state.aM) else (ua (Zp p3 p1.state p2) fun r1=>some (r1.1.day,r1.1.aC,r1.1.used,r1.1.aM))) fun (v1:Int×(List Int)×(List Bool)×(List aq))=>(ua (vW ({state:=({day:=v1.1,aC:=v1.2.1,used:=v1.2.2.1,aM:=v1.2.2.2}:bn),own:=(!(p2 == (-2)))}:aA)) fun r2=>some (((zr r2 p5).getD 0),(zr r2 p5).isSome)))
theorem Lp (p1:aA) (p2:Int) (p3:ax) (p4:Int) (p5:List (ByteArray×Int)):Le (V1 p1 p2 p3 p4 p5) (vP p1 p2 p3 p4 p5):=by
 unfold V1 vP
 repeat' (first | with_reducible exact Le.refl _ | with_reducible exact YN _ _ _ | with_reducible exact XY _ | with_reducible refine Le.bind ?_ (fun _ => ?_) | with_reducible refine Le.cond _ ?_ ?_ | with_reducible refine Le.aG (fun _ _ => ?_) _ _ | with_reducible refine Le.iter (fun _ => ?_) _ _ | with_reducible refine Le.elim (fun _ => ?_) (fun _ => ?_) _)
noncomputable def V2 (p1:aA) (p2:ax) (p3:Int) (p4:List (ByteArray×Int)):Option ((List Int)):=
 (ua (YP p2 p3 p1) fun r1=>some r1.1)
theorem Lq (p1:aA) (p2:ax) (p3:Int) (p4:List (ByteArray×Int)):Le (V2 p1 p2 p3 p4) (vO p1 p2 p3 p4):=by
 unfold V2 vO
 repeat' (first | with_reducible exact Le.refl _ | with_reducible exact zhR _ _ _ | with_reducible refine Le.bind ?_ (fun _ => ?_) | with_reducible refine Le.cond _ ?_ ?_ | with_reducible refine Le.aG (fun _ _ => ?_) _ _ | with_reducible refine Le.iter (fun _ => ?_) _ _ | with_reducible refine Le.elim (fun _ => ?_) (fun _ => ?_) _)
noncomputable def V3 (p1:Int) (p2:aA) (p3:ax) (p4:Int) (p5:List (ByteArray×Int)):Option (Bool):=
 (ua (V1 p2 p1 p3 p4 p5) fun r1=>some (!r1.2))
theorem Lr (p1:Int) (p2:aA) (p3:ax) (p4:Int) (p5:List (ByteArray×Int)):Le (V3 p1 p2 p3 p4 p5) (vQ p1 p2 p3 p4 p5):=by
 unfold V3 vQ
 repeat' (first | with_reducible exact Le.refl _ | with_reducible exact Lp _ _ _ _ _ | with_reducible refine Le.bind ?_ (fun _ => ?_) | with_reducible refine Le.cond _ ?_ ?_ | with_reducible refine Le.aG (fun _ _ => ?_) _ _ | with_reducible refine Le.iter (fun _ => ?_) _ _ | with_reducible refine Le.elim (fun _ => ?_) (fun _ => ?_) _)
noncomputable def Fj (p1:List Int) (p2:aA) (p3:ax) (p4:Int) (p5:List (ByteArray×Int)):Option (Int):=
 (ua (aG (σ:=Unit) (ρ:=Int) (p1.length:Int) (fun i1 s1=>(ua (zo p1.length (i1:Int)) fun k1=>(ua (p1[k1]?) fun e1=>(ua (V3 e1 p2 p3 p4 p5) fun r1=>(bif r1 then some (.inr (i1:Int)) else some (.inl ())))))) ()) (ud (fun (s1:Unit)=>some (-1)) (fun (y1:Int)=>some y1)))
theorem zkY (p1:List Int) (p2:aA) (p3:ax) (p4:Int) (p5:List (ByteArray×Int)):Le (Fj p1 p2 p3 p4 p5) (XI p1 p2 p3 p4 p5):=by
 unfold Fj XI
 repeat' (first | with_reducible exact Le.refl _ | with_reducible exact Lr _ _ _ _ _ | with_reducible refine Le.bind ?_ (fun _ => ?_) | with_reducible refine Le.cond _ ?_ ?_ | with_reducible refine Le.aG (fun _ _ => ?_) _ _ | with_reducible refine Le.iter (fun _ => ?_) _ _ | with_reducible refine Le.elim (fun _ => ?_) (fun _ => ?_) _)
noncomputable def Fk (p1:List Int) (p2:aA) (p3:ax) (p4:Int) (p5:List (ByteArray×Int)):Option (Int):=
 (ua (aG (σ:=Unit) (ρ:=Int) (p1.length:Int) (fun i1 s1=>(ua (zf p1 (i1:Int)) fun e1=>(ua (V3 e1 p2 p3 p4 p5) fun r1=>(bif r1 then some (.inr (i1:Int)) else some (.inl ()))))) ()) (ud (fun (s1:Unit)=>some (-1)) (fun (y1:Int)=>some y1)))
theorem zkZ (p1:List Int) (p2:aA) (p3:ax) (p4:Int) (p5:List (ByteArray×Int)):Le (Fk p1 p2 p3 p4 p5) (XJ p1 p2 p3 p4 p5):=by
 unfold Fk XJ
 repeat' (first | with_reducible exact Le.refl _ | with_reducible exact Lr _ _ _ _ _ | with_reducible refine Le.bind ?_ (fun _ => ?_) | with_reducible refine Le.cond _ ?_ ?_ | with_reducible refine Le.aG (fun _ _ => ?_) _ _ | with_reducible refine Le.iter (fun _ => ?_) _ _ | with_reducible refine Le.elim (fun _ => ?_) (fun _ => ?_) _)
noncomputable def Fl (p1:List Int) (p2:aA) (p3:ax) (p4:Int) (p5:List (ByteArray×Int)):Option (Bool):=
 (ua (Fj p1 p2 p3 p4 p5) fun r1=>some (decide (0≤r1)))
theorem zk0 (p1:List Int) (p2:aA) (p3:ax) (p4:Int) (p5:List (ByteArray×Int)):Le (Fl p1 p2 p3 p4 p5) (QV p1 p2 p3 p4 p5):=by
 unfold Fl QV
 repeat' (first | with_reducible exact Le.refl _ | with_reducible exact zkY _ _ _ _ _ | with_reducible refine Le.bind ?_ (fun _ => ?_) | with_reducible refine Le.cond _ ?_ ?_ | with_reducible refine Le.aG (fun _ _ => ?_) _ _ | with_reducible refine Le.iter (fun _ => ?_) _ _ | with_reducible refine Le.elim (fun _ => ?_) (fun _ => ?_) _)
noncomputable def Fm (p1:List Int) (p2:aA) (p3:ax) (p4:Int) (p5:List (ByteArray×Int)):Option (Bool):=
 (ua (Fk p1 p2 p3 p4 p5) fun r1=>some (decide (0≤r1)))
theorem zk1 (p1:List Int) (p2:aA) (p3:ax) (p4:Int) (p5:List (ByteArray×Int)):Le (Fm p1 p2 p3 p4 p5) (QW p1 p2 p3 p4 p5):=by
 unfold Fm QW
 repeat' (first | with_reducible exact Le.refl _ | with_reducible exact zkZ _ _ _ _ _ | with_reducible refine Le.bind ?_ (fun _ => ?_) | with_reducible refine Le.cond _ ?_ ?_ | with_reducible refine Le.aG (fun _ _ => ?_) _ _ | with_reducible refine Le.iter (fun _ => ?_) _ _ | with_reducible refine Le.elim (fun _ => ?_) (fun _ => ?_) _)
noncomputable def Fo (p1:ez) (p2:Int) (p3:ax) (p4:Int) (p5:List (ByteArray×Int)):Option (Bool):=
 (ua (zf p1.s.af p2) fun e1=>(ua (wX p3 e1.aW.state p4) fun r1=>(bif r1 then some false else (ua (V2 e1.aW p3 p4 p5) fun r2=>(bif e1.aW.own then (ua (xL r2 e1.move) fun r3=>(bif r3 then (ua (Fl [e1.move] e1.aW p3 p4 p5) fun r4=>some (!r4)) else some false)) else (ua (Fm r2 e1.aW p3 p4 p5) fun r5=>some (!r5)))))))
theorem zi7 (p1:ez) (p2:Int) (p3:ax) (p4:Int) (p5:List (ByteArray×Int)):Le (Fo p1 p2 p3 p4 p5) (Zg p1 p2 p3 p4 p5):=by
 unfold Fo Zg
 repeat' (first | with_reducible exact Le.refl _ | with_reducible exact Lq _ _ _ _ | with_reducible exact zk0 _ _ _ _ _ | with_reducible exact zk1 _ _ _ _ _ | with_reducible refine Le.bind ?_ (fun _ => ?_) | with_reducible refine Le.cond _ ?_ ?_ | with_reducible refine Le.aG (fun _ _ => ?_) _ _ | with_reducible refine Le.iter (fun _ => ?_) _ _ | with_reducible refine Le.elim (fun _ => ?_) (fun _ => ?_) _)
noncomputable def Fp (p1:ax) (p2:ez):Option (Bool):=
 (ua (JX p2) fun r1=>(ua (bif decide (r1 < 0) then some true else (bif decide (p1.aN≤r1) then some true else (ua (xp p2) fun r2=>(bif decide (r2 < 1) then some true else (ua (xp p2) fun r3=>some (decide (1500 < r3))))))) fun v1=>(bif v1 then some false else (ua (xp p2) fun r4=>(ua (aG (σ:=(List (ByteArray×Int))) (ρ:=Unit) r4 (fun i1 s1=>(ua (α:=(List (ByteArray×Int)) ⊕ Unit) (ua (Qc p2 (i1:Int)) fun r5=>(ua (jp p1 r5.1.state) fun r6=>(bif r6 then (ua (vW r5.1) fun r7=>(ua (bif ((zr r7 s1).isSome) then some (decide (r5.2 < ((zr r7 s1).getD 0))) else some true) fun v2=>(bif v2 then some (.inl (zO r7 r5.2 s1)) else some (.inl s1)))) else some (.inr ())))) (ud (fun (v3:(List (ByteArray×Int)))=>some (.inl v3)) (fun (y1:Unit)=>some (.inr ()))))) []) (ud (fun (s1:(List (ByteArray×Int)))=>(ua (xp p2) fun r8=>(ua (aG (σ:=Unit) (ρ:=Unit) r8 (fun i2 s2=>(ua (Fo p2 (i2:Int) p1 r1 s1) fun r9=>(bif r9 then some (.inl ()) else some (.inr ())))) ()) (ud (fun (s2:Unit)=>some true) (fun (y3:Unit)=>some false))))) (fun (y2:Unit)=>some false)))))))
theorem zi8 (p1:ax) (p2:ez):Le (Fp p1 p2) (Qd p1 p2):=by
 unfold Fp Qd
 repeat' (first | with_reducible exact Le.refl _ | with_reducible exact XY _ | with_reducible exact zi7 _ _ _ _ _ | with_reducible refine Le.bind ?_ (fun _ => ?_) | with_reducible refine Le.cond _ ?_ ?_ | with_reducible refine Le.aG (fun _ _ => ?_) _ _ | with_reducible refine Le.iter (fun _ => ?_) _ _ | with_reducible refine Le.elim (fun _ => ?_) (fun _ => ?_) _)
noncomputable def ku (c:ax) (s:eu):Option (Bool):=
 (ua (Fp c ({s:=s}:ez)) fun r1=>some r1)
theorem YQ (c:ax) (s:eu):Le (ku c s) (ji c s):=by
 unfold ku ji
 repeat' (first | with_reducible exact Le.refl _ | with_reducible exact zi8 _ _ | with_reducible refine Le.bind ?_ (fun _ => ?_) | with_reducible refine Le.cond _ ?_ ?_ | with_reducible refine Le.aG (fun _ _ => ?_) _ _ | with_reducible refine Le.iter (fun _ => ?_) _ _ | with_reducible refine Le.elim (fun _ => ?_) (fun _ => ?_) _)
noncomputable def V4 (p1:aA) (p2:Int) (p3:Int) (p4:ax) (p5:Int) (p6:List (ByteArray×Int)):Option (Bool):=
 (ua (V1 p1 p2 p4 p5 p6) fun r1=>(ua (bif r1.2 then some (decide (r1.1 < p3)) else some false) fun v1=>some v1))
theorem Lt (p1:aA) (p2:Int) (p3:Int) (p4:ax) (p5:Int) (p6:List (ByteArray×Int)):Le (V4 p1 p2 p3 p4 p5 p6) (vR p1 p2 p3 p4 p5 p6):=by
 unfold V4 vR
 repeat' (first | with_reducible exact Le.refl _ | with_reducible exact Lp _ _ _ _ _ | with_reducible refine Le.bind ?_ (fun _ => ?_) | with_reducible refine Le.cond _ ?_ ?_ | with_reducible refine Le.aG (fun _ _ => ?_) _ _ | with_reducible refine Le.iter (fun _ => ?_) _ _ | with_reducible refine Le.elim (fun _ => ?_) (fun _ => ?_) _)
noncomputable def Fq (p1:Int) (p2:aA) (p3:Int) (p4:ax) (p5:Int) (p6:List (ByteArray×Int)):Option (Bool):=
 (ua (V4 p2 p1 p3 p4 p5 p6) fun r1=>some (!r1))
theorem zi9 (p1:Int) (p2:aA) (p3:Int) (p4:ax) (p5:Int) (p6:List (ByteArray×Int)):Le (Fq p1 p2 p3 p4 p5 p6) (Qf p1 p2 p3 p4 p5 p6):=by
 unfold Fq Qf
 repeat' (first | with_reducible exact Le.refl _ | with_reducible exact Lt _ _ _ _ _ _ | with_reducible refine Le.bind ?_ (fun _ => ?_) | with_reducible refine Le.cond _ ?_ ?_ | with_reducible refine Le.aG (fun _ _ => ?_) _ _ | with_reducible refine Le.iter (fun _ => ?_) _ _ | with_reducible refine Le.elim (fun _ => ?_) (fun _ => ?_) _)
noncomputable def Fs (p1:List Int) (p2:aA) (p3:Int) (p4:ax) (p5:Int) (p6:List (ByteArray×Int)):Option (Int):=
 (ua (aG (σ:=Unit) (ρ:=Int) (p1.length:Int) (fun i1 s1=>(ua (zf p1 (i1:Int)) fun e1=>(ua (Fq e1 p2 p3 p4 p5 p6) fun r1=>(bif r1 then some (.inr (i1:Int)) else some (.inl ()))))) ()) (ud (fun (s1:Unit)=>some (-1)) (fun (y1:Int)=>some y1)))
theorem zk2 (p1:List Int) (p2:aA) (p3:Int) (p4:ax) (p5:Int) (p6:List (ByteArray×Int)):Le (Fs p1 p2 p3 p4 p5 p6) (XK p1 p2 p3 p4 p5 p6):=by
 unfold Fs XK
 repeat' (first | with_reducible exact Le.refl _ | with_reducible exact zi9 _ _ _ _ _ _ | with_reducible refine Le.bind ?_ (fun _ => ?_) | with_reducible refine Le.cond _ ?_ ?_ | with_reducible refine Le.aG (fun _ _ => ?_) _ _ | with_reducible refine Le.iter (fun _ => ?_) _ _ | with_reducible refine Le.elim (fun _ => ?_) (fun _ => ?_) _)
noncomputable def Ft (p1:List Int) (p2:aA) (p3:Int) (p4:ax) (p5:Int) (p6:List (ByteArray×Int)):Option (Bool):=
 (ua (Fs p1 p2 p3 p4 p5 p6) fun r1=>some (decide (0≤r1)))
theorem zk3 (p1:List Int) (p2:aA) (p3:Int) (p4:ax) (p5:Int) (p6:List (ByteArray×Int)):Le (Ft p1 p2 p3 p4 p5 p6) (QY p1 p2 p3 p4 p5 p6):=by
 unfold Ft QY
 repeat' (first | with_reducible exact Le.refl _ | with_reducible exact zk2 _ _ _ _ _ _ | with_reducible refine Le.bind ?_ (fun _ => ?_) | with_reducible refine Le.cond _ ?_ ?_ | with_reducible refine Le.aG (fun _ _ => ?_) _ _ | with_reducible refine Le.iter (fun _ => ?_) _ _ | with_reducible refine Le.elim (fun _ => ?_) (fun _ => ?_) _)
noncomputable def Fu (p1:bQ) (p2:Int) (p3:ax) (p4:Int) (p5:List (ByteArray×Int)):Option (Bool):=
 (ua (zf p1.d.af p2) fun e1=>(bif decide (e1.bl≤0) then (ua (bif (e1.bl == 0) then (ua (wX p3 e1.aW.state p4) fun r1=>some r1) else some false) fun v1=>some v1) else (ua (V2 e1.aW p3 p4 p5) fun r2=>(bif e1.aW.own then (ua (Ft r2 e1.aW e1.bl p3 p4 p5) fun r5=>some (!r5)) else (ua (ua (xL r2 e1.move) fun r3=>(bif r3 then (ua (V4 e1.aW e1.move e1.bl p3 p4 p5) fun r4=>some r4) else some false)) fun v2=>some v2)))))
theorem zja (p1:bQ) (p2:Int) (p3:ax) (p4:Int) (p5:List (ByteArray×Int)):Le (Fu p1 p2 p3 p4 p5) (Zh p1 p2 p3 p4 p5):=by
 unfold Fu Zh
 repeat' (first | with_reducible exact Le.refl _ | with_reducible exact Lq _ _ _ _ | with_reducible exact zk3 _ _ _ _ _ _ | with_reducible exact Lt _ _ _ _ _ _ | with_reducible refine Le.bind ?_ (fun _ => ?_) | with_reducible refine Le.cond _ ?_ ?_ | with_reducible refine Le.aG (fun _ _ => ?_) _ _ | with_reducible refine Le.iter (fun _ => ?_) _ _ | with_reducible refine Le.elim (fun _ => ?_) (fun _ => ?_) _)
noncomputable def Fv (p1:ax) (p2:bQ):Option (Bool):=
 (ua (JY p2) fun r1=>(ua (bif decide (r1 < 0) then some true else (bif decide (p1.aN≤r1) then some true else (ua (xq p2) fun r2=>(bif decide (r2 < 1) then some true else (ua (xq p2) fun r3=>some (decide (1500 < r3))))))) fun v1=>(bif v1 then some false else (ua (xq p2) fun r4=>(ua (aG (σ:=(List (ByteArray×Int))) (ρ:=Unit) r4 (fun i1 s1=>(ua (α:=(List (ByteArray×Int)) ⊕ Unit) (ua (Qe p2 (i1:Int)) fun r5=>(ua (jp p1 r5.1.state) fun r6=>(bif r6 then (ua (vW r5.1) fun r7=>(ua (bif ((zr r7 s1).isSome) then some (decide (r5.2 < ((zr r7 s1).getD 0))) else some true) fun v2=>(bif v2 then some (.inl (zO r7 r5.2 s1)) else some (.inl s1)))) else some (.inr ())))) (ud (fun (v3:(List (ByteArray×Int)))=>some (.inl v3)) (fun (y1:Unit)=>some (.inr ()))))) []) (ud (fun (s1:(List (ByteArray×Int)))=>(ua (xq p2) fun r8=>(ua (aG (σ:=Unit) (ρ:=Unit) r8 (fun i2 s2=>(ua (Fu p2 (i2:Int) p1 r1 s1) fun r9=>(bif r9 then some (.inl ()) else some (.inr ())))) ()) (ud (fun (s2:Unit)=>some true) (fun (y3:Unit)=>some false))))) (fun (y2:Unit)=>some false)))))))
theorem zjb (p1:ax) (p2:bQ):Le (Fv p1 p2) (Qg p1 p2):=by
 unfold Fv Qg
 repeat' (first | with_reducible exact Le.refl _ | with_reducible exact XY _ | with_reducible exact zja _ _ _ _ _ | with_reducible refine Le.bind ?_ (fun _ => ?_) | with_reducible refine Le.cond _ ?_ ?_ | with_reducible refine Le.aG (fun _ _ => ?_) _ _ | with_reducible refine Le.iter (fun _ => ?_) _ _ | with_reducible refine Le.elim (fun _ => ?_) (fun _ => ?_) _)
noncomputable def ZU (c:ax) (d:bP):Option (Bool):=
 (ua (Fv c ({d:=d}:bQ)) fun r1=>some r1)
theorem zb0 (c:ax) (d:bP):Le (ZU c d) (jt c d):=by
 unfold ZU jt
 repeat' (first | with_reducible exact Le.refl _ | with_reducible exact zjb _ _ | with_reducible refine Le.bind ?_ (fun _ => ?_) | with_reducible refine Le.cond _ ?_ ?_ | with_reducible refine Le.aG (fun _ _ => ?_) _ _ | with_reducible refine Le.iter (fun _ => ?_) _ _ | with_reducible refine Le.elim (fun _ => ?_) (fun _ => ?_) _)
end Go.Proofs.YtcmmhbmgpflmeaaGreatDoor
namespace Go.Proofs.YtcmmhbmgpflmeaaGreatDoor
open Go.RowKit
set_option linter.unusedSimpArgs false
set_option linter.unusedVariables false
set_option maxRecDepth 100000
section
theorem zhS {α:Type} {l:List α} (h:0 < l.length) {raw:Int} (Fw:dL .u8 raw):∃ (i:Nat) (hi:i < l.length) (n:Int),ye .i64 (IntKind.i64.wrap raw) (l.length:Int)=some n∧zf l n=some l[i]:=by
 have BX:0≤raw∧raw≤255:=Fw
 rw [zZ (by omega) (by omega)]
 have h3:0≤raw.tmod l.length:=Int.tmod_nonneg _ BX.1
 have h4:raw.tmod l.length < l.length:=Int.tmod_lt_of_pos _ (by omega)
 obtain ⟨h5,h6⟩:=jg (l:=l) h3 h4
 exact ⟨_,h5,_,by unfold ye;rw [if_neg (by omega)],h6⟩
section
variable {c:ax} {zw:Int} {p:aA} {a:cF}
theorem zgv (hc:c.Ok) (A:cC c zw p a) {i:Nat} (hi:i < a.aR.length) (hs:qf c zw a.aR[i]=true):kd a (a.aR.map (qf c zw)) (i:Int)=some (ZK c zw a.aR[i]):=by
 refine ay.eq ?_
 unfold kd
 obtain ⟨T,hT,hst,_⟩:=A.mv hi
 have CM:=A.len hc hi hT
 refine ay.az (zt (ub hi)) ?_
 unfold ZK
 refine ay.ite (fun ho => ?_) (fun ho=>ay.some (by rw [ho];rfl))
 rw [ho,bL]
 have nS:Zn c zw a.aR[i]=((T.map (·.step)).find? fun m=>qf c zw (target c a.aR[i] m)).getD (-2):=by
  unfold Zn;rw [ho,hs,hst];rfl
 refine ay.az (zt hT) ?_
 refine ay.bind (P:=fun o:Unit ⊕ Int=>(o=.inl ()∧∀ m∈T,qf c zw (target c a.aR[i] m.step)=false)∨o=.inr (Zn c zw a.aR[i]))
  (ay.dS (fun k _=>∀ (j:Nat) (hj:j < T.length),j < k→qf c zw (target c a.aR[i] T[j].step)=false) (by omega) (fun j _ hj=>by omega) (fun k _ hk hk2 => ?_) (fun _ h=>.inl ⟨rfl,fun m hm=>by obtain ⟨j,hj,rfl⟩:=uh hm;exact h j hj hj⟩)) ?_
 ·refine ay.az (zt (ub hk)) ?_
  refine ay.az (zi1 A hi hT (uc hk)) ?_
  refine ay.ite (fun rY=>ay.some (.inr ?_)) (fun rY=>ay.some fun j hj Av => ?_)
  ·rw [nS]
   have Dv:T.find? ((fun m=>qf c zw (target c a.aR[i] m))∘fun x=>x.step)=some T[k]:=by
    refine List.find?_eq_some_iff_getElem.2 ⟨rY,k,hk,rfl,fun j hj => ?_⟩
    have:=hk2 j (by omega) hj
    simp only [Function.comp_apply,this,uy]
   rw [List.find?_map,Dv];rfl
  ·by_cases e:j=k
   ·subst e;exact rY
   ·exact hk2 j hj (by omega)
 ·rintro _ (⟨rfl,h⟩ | rfl)
  ·exfalso
   obtain ⟨_,m,hm,h2⟩:=(Lb ho).1 (q5.1 hs)
   rw [←hst] at hm
   obtain ⟨t,ht,rfl⟩:=ul.1 hm
   have:=h t ht
   rw [q5.2 h2] at this
   cases this
  ·exact ay.some rfl
theorem zcx {l:List aA} {i:Nat} (hi:i < l.length):jC c zw (l.take (i+1))=jC c zw (l.take i)++(bif qf c zw l[i] then [{aW:=l[i],move:=ZK c zw l[i]}] else []):=by
 unfold jC
 rw [un hi,List.filter_append,uG]
 congr 1
 cases h:qf c zw l[i]<;>simp [h]
theorem V5 (l:List aA):(jC c zw l).length≤l.length:=by
 unfold jC
 rw [uI]
 exact List.length_filter_le _ _
theorem zgw (hc:c.Ok) (A:cC c zw p a) (hf:xk c zw p=some (a,0)):xE c zw p=some (bif qf c zw p then ({zw:=zw,af:=jC c zw a.aR},0) else ({zw:=0,af:=[]},13)):=by
 refine ay.eq ?_
 have hn:a.aR.length≤1500:=A.F.inv.len
 have hpos:=A.pos
 have mg:0 < a.aR.length:=by omega
 have e0:a.aR[0]=p:=by
  have:=A.F.first
  rw [ub mg] at this
  exact Option.some.inj this
 unfold xE
 refine ay.az hf ?_
 refine ay.ite (fun _ => ?_) (fun h=>by cases h)
 dsimp only
 refine ay.az (Lc hc A) ?_
 have i0:zf (a.aR.map (qf c zw)) 0=some (qf c zw p):=by
  have:=zt (l:=a.aR.map (qf c zw)) (i:=0) (e:=qf c zw p) (by rw [uq,ub mg,e0];rfl)
  exact this
 refine ay.az i0 ?_
 refine ay.ite (fun hs => ?_) (fun hs=>ay.some (by rw [hs];rfl))
 rw [hs]
 refine ay.bind (P:=fun o:List dh ⊕ Unit=>o=.inl (jC c zw a.aR)) (ay.dS (fun i s=>s=jC c zw (a.aR.take i)) (by omega) (by simp [jC]) (fun i s hi h => ?_) (fun s h=>by rw [h,uB (uK _)])) ?_
 ·have hl:=V5 (c:=c) (zw:=zw) (a.aR.take i)
  have fY:(a.aR.take i).length≤i:=by rw [List.length_take];omega
  refine ay.bind (P:=fun l=>l=jC c zw (a.aR.take (i+1))) ?_ (fun l h=>ay.some h)
  refine ay.az (zt (ub hi)) ?_
  refine ay.az (Ld A hi) ?_
  rw [zcx hi,h]
  refine ay.ite (fun hb => ?_) (fun hb=>ay.some (by rw [hb,bM,uF]))
  refine ay.az (zgv hc A hi hb) ?_
  refine ay.az (jo (by simp only [ut,uw];omega)) ?_
  exact ay.some (by rw [hb];rfl)
 ·rintro _ rfl
  exact ay.some rfl
structure rA (c:ax) (zw:Int) (r:cU):Prop where
 rk:r.bl=dw c zw r.aW
 lo:0≤r.bl
 mv:0 < r.bl→r.aW.own=false→r.move∈zn c zw r.aW∧0≤dw c zw (target c r.aW r.move)∧dw c zw (target c r.aW r.move) < r.bl
theorem Qp (A:cC c zw p a) {i:Nat} (hi:i < a.aR.length):zf (a.aR.map (dw c zw)) (i:Int)=some (dw c zw a.aR[i]):=zt (by rw [uq,ub hi];rfl)
theorem zjc (A:cC c zw p a) {i:Nat} (hi:i < a.aR.length) {T:List bA} (hT:a.bO[i]?=some T) {m:bA} (hm:m∈T):zf (a.aR.map (dw c zw)) m.to=some (dw c zw (target c a.aR[i] m.step)):=by
 obtain ⟨t1,t2⟩:=A.to hi hT hm
 obtain ⟨_,_,t3,t4⟩:=A.tgt hi hT hm
 have:=Qp A t3
 rw [t4] at this
 rw [←this]
 congr 1
 omega
theorem zgx (hc:c.Ok) (A:cC c zw p a) {i:Nat} (hi:i < a.aR.length):ay (ke a (a.aR.map (dw c zw)) (i:Int)) (fun m=>0 < dw c zw a.aR[i]→a.aR[i].own=false→m∈zn c zw a.aR[i]∧0≤dw c zw (target c a.aR[i] m)∧dw c zw (target c a.aR[i] m) < dw c zw a.aR[i]):=by
 unfold ke
 obtain ⟨T,hT,hst,_⟩:=A.mv hi
 have CM:=A.len hc hi hT
 refine ay.az (v:=a.aR[i].own||(dw c zw a.aR[i] == 0)) ?_ ?_
 ·rw [zt (ub hi),Qp A hi]
  simp only [aS]
  cases a.aR[i].own<;>rfl
 refine ay.ite (fun hb=>ay.some fun h0 ho => ?_) (fun hb => ?_)
 ·rw [ho,Bool.false_or,beq_iff_eq] at hb
  omega
 simp only [uv,beq_eq_false_iff_ne] at hb
 refine ay.az (zt hT) ?_
 refine ay.bind (P:=fun o:(Int×Int) ⊕ Unit=>∃ s,o=.inl s∧((s.2 = -1∧∀ (j:Nat) (hj:j < T.length),dw c zw (target c a.aR[i] T[j].step) < 0)∨(0≤s.2∧s.1∈zn c zw a.aR[i]∧s.2=dw c zw (target c a.aR[i] s.1)∧∀ (j:Nat) (hj:j < T.length),0≤dw c zw (target c a.aR[i] T[j].step)→s.2≤dw c zw (target c a.aR[i] T[j].step))))
  (ay.dS (fun k s=>(s.2 = -1∧∀ (j:Nat) (hj:j < T.length),j < k→dw c zw (target c a.aR[i] T[j].step) < 0)∨(0≤s.2∧s.1∈zn c zw a.aR[i]∧s.2=dw c zw (target c a.aR[i] s.1)∧∀ (j:Nat) (hj:j < T.length),j < k→0≤dw c zw (target c a.aR[i] T[j].step)→s.2≤dw c zw (target c a.aR[i] T[j].step))) (by omega) (.inl ⟨rfl,fun j _ hj=>by omega⟩) (fun k s hk hI => ?_) (fun s h=>⟨s,rfl,?_⟩)) ?_
 ·have hmem:T[k].step∈zn c zw a.aR[i]:=by rw [←hst];exact ul.2 ⟨_,uc hk,rfl⟩
  refine ay.bind (P:=fun v:Int×Int=>(v.2 = -1∧∀ (j:Nat) (hj:j < T.length),j < k+1→dw c zw (target c a.aR[i] T[j].step) < 0)∨(0≤v.2∧v.1∈zn c zw a.aR[i]∧v.2=dw c zw (target c a.aR[i] v.1)∧∀ (j:Nat) (hj:j < T.length),j < k+1→0≤dw c zw (target c a.aR[i] T[j].step)→v.2≤dw c zw (target c a.aR[i] T[j].step))) ?_ (fun v h=>ay.some h)
  refine ay.az (zt (ub hk)) ?_
  refine ay.az (zjc A hi hT (uc hk)) ?_
  generalize hx:dw c zw (target c a.aR[i] T[k].step)=x at *
  have last:∀ (j:Nat) (hj:j < T.length),j < k+1→¬ j < k→dw c zw (target c a.aR[i] T[j].step)=x:=fun j hj h1 h2=>by
   obtain rfl:j=k:=by omega
   exact hx
  refine ay.az (v:=decide (0≤x)&&(decide (s.2 < 0)||decide (x < s.2))) ?_ ?_
  ·cases decide (0≤x)<;>cases decide (s.2 < 0)<;>rfl
  refine ay.ite (fun gJ=>ay.some (.inr ?_)) (fun gJ=>ay.some ?_)
  ·simp only [ue,Bool.or_eq_true,decide_eq_true_eq] at gJ
   refine ⟨gJ.1,hmem,hx.symm,fun j hj Av h0 => ?_⟩
   by_cases lD:j < k
   ·rcases hI with ⟨g1,g2⟩ | ⟨g1,g2,g3,g4⟩
    ·have:=g2 j hj lD;omega
    ·have:=g4 j hj lD h0
     show x≤_
     omega
   ·rw [last j hj Av lD];exact uE _
  ·rcases hI with ⟨g1,g2⟩ | ⟨g1,g2,g3,g4⟩
   ·left
    refine ⟨g1,fun j hj Av => ?_⟩
    by_cases lD:j < k
    ·exact g2 j hj lD
    ·rw [last j hj Av lD]
     rw [decide_eq_true (show s.2 < 0 by omega),Bool.true_or,Bool.and_true] at gJ
     have:=of_decide_eq_false gJ
     omega
   ·right
    refine ⟨g1,g2,g3,fun j hj Av h0 => ?_⟩
    by_cases lD:j < k
    ·exact g4 j hj lD h0
    ·rw [last j hj Av lD] at h0 ⊢
     rw [decide_eq_true h0,uA,uv] at gJ
     have:=of_decide_eq_false gJ.2
     show s.2≤x
     omega
 ·rcases h with ⟨g1,g2⟩ | ⟨g1,g2,g3,g4⟩
  ·exact .inl ⟨g1,fun j hj=>g2 j hj hj⟩
  ·exact .inr ⟨g1,g2,g3,fun j hj=>g4 j hj hj⟩
 ·rintro _ ⟨s,rfl,h⟩
  refine ay.some fun h0 ho => ?_
  obtain ⟨m,hm,k1,k2⟩:=zi4 h0 ho
  rw [←hst] at hm
  obtain ⟨t,ht,rfl⟩:=ul.1 hm
  obtain ⟨j,hj,rfl⟩:=uh ht
  rcases h with ⟨g1,g2⟩ | ⟨g1,g2,g3,g4⟩
  ·have:=g2 j hj;omega
  ·have:=g4 j hj k1
   exact ⟨g2,by omega,by omega⟩
theorem zgy (hc:c.Ok) (A:cC c zw p a) (hf:xk c zw p=some (a,0)):ay (vv c zw p) (fun r=>(dw c zw p = -1∧r=({zw:=0,af:=[]},13))∨(dw c zw p ≠ -1∧r.2=0∧r.1.zw=zw∧gH c r.1∧(∀ x∈r.1.af,rA c zw x)∧r.1.af.length≤1500∧(∀ q∈a.aR,0≤dw c zw q→∃ x∈r.1.af,x.aW=q)∧∃ x,r.1.af[0]?=some x∧x.aW=p)):=by
 have hn:a.aR.length≤1500:=A.F.inv.len
 have hpos:=A.pos
 have mg:0 < a.aR.length:=by omega
 have e0:a.aR[0]=p:=by
  have:=A.F.first
  rw [ub mg] at this
  exact Option.some.inj this
 have hlo:=Xp c zw p
 unfold vv
 refine ay.az hf ?_
 refine ay.ite (fun _ => ?_) (fun h=>by cases h)
 dsimp only
 refine ay.az (VV hc A) ?_
 have i0:zf (a.aR.map (dw c zw)) 0=some (dw c zw p):=by
  have:=Qp A mg
  rw [e0] at this
  exact this
 refine ay.az i0 ?_
 refine ay.ite (fun hs=>ay.some (.inl ⟨by have:=of_decide_eq_true hs;omega,rfl⟩)) (fun hs => ?_)
 have hs:=of_decide_eq_false hs
 refine ay.bind (P:=fun o:List cU ⊕ Unit=>∃ s,o=.inl s∧(∀ x∈s,x.aW∈a.aR∧rA c zw x)∧s.length≤1500∧(∀ q∈a.aR,0≤dw c zw q→∃ x∈s,x.aW=q)∧∃ x,s[0]?=some x∧x.aW=p)
  (ay.dS (fun i s=>s.length≤i∧(∀ x∈s,x.aW∈a.aR∧rA c zw x)∧(∀ (j:Nat) (hj:j < a.aR.length),j < i→0≤dw c zw a.aR[j]→∃ x∈s,x.aW=a.aR[j])∧(0 < i→∃ x,s[0]?=some x∧x.aW=p)) (by omega) ⟨by simp,fun x hx=>by simp at hx,fun j _ hj=>by omega,fun h=>by omega⟩ (fun i s hi h => ?_) (fun s h=>⟨s,rfl,h.2.1,by omega,fun q hq h0=>by obtain ⟨j,hj,rfl⟩:=uh hq;exact h.2.2.1 j hj hj h0,h.2.2.2 mg⟩)) ?_
 ·obtain ⟨h1,h2,h3,h4⟩:=h
  refine ay.bind (P:=fun s:List cU=>s.length≤i+1∧(∀ x∈s,x.aW∈a.aR∧rA c zw x)∧(∀ (j:Nat) (hj:j < a.aR.length),j < i+1→0≤dw c zw a.aR[j]→∃ x∈s,x.aW=a.aR[j])∧(0 < i+1→∃ x:cU,s[0]?=some x∧x.aW=p)) ?_ (fun l h=>ay.some h)
  refine ay.az (zt (ub hi)) ?_
  refine ay.az (Qp A hi) ?_
  refine ay.ite (fun hb => ?_) (fun hb=>ay.some ⟨by omega,h2,fun j hj hji h0 => ?_,fun _ => ?_⟩)
  ·have hb:=of_decide_eq_true hb
   refine ay.az (Qp A hi) ?_
   refine ay.bind (zgx hc A hi) fun m hm => ?_
   refine ay.az (jo (by simp only [ut,uw];omega)) ?_
   refine ay.some ⟨by simp;omega,fun x hx => ?_,fun j hj hji h0 => ?_,fun _ => ?_⟩
   ·rcases uk.1 hx with g | g
    ·exact h2 x g
    ·rw [uf.1 g]
     exact ⟨uc hi,rfl,hb,hm⟩
   ·by_cases e:j=i
    ·subst e
     exact ⟨_,ur _ (uf.2 rfl),rfl⟩
    ·obtain ⟨x,hx,e2⟩:=h3 j hj (by omega) h0
     exact ⟨x,uu _ hx,e2⟩
   ·by_cases pH:0 < i
    ·obtain ⟨x,hx,e2⟩:=h4 pH
     refine ⟨x,?_,e2⟩
     rw [List.getElem?_append_left (List.getElem?_eq_some_iff.1 hx).1]
     exact hx
    ·obtain rfl:i=0:=by omega
     have:s=[]:=List.length_eq_zero_iff.1 (by omega)
     subst this
     exact ⟨_,rfl,e0⟩
  ·have hb:=of_decide_eq_false hb
   by_cases e:j=i
   ·subst e;exact absurd h0 hb
   ·exact h3 j hj (by omega) h0
  ·by_cases pH:0 < i
   ·exact h4 pH
   ·obtain rfl:i=0:=by omega
    have hb:=of_decide_eq_false hb
    rw [e0] at hb
    omega
 ·rintro _ ⟨s,rfl,g1,g2,g3,g4⟩
  refine ay.some (.inr ⟨by omega,rfl,rfl,?_,fun x hx=>(g1 x hx).2,g2,g3,g4⟩)
  exact zej A (by omega) g2 (fun r hr=>⟨(g1 r hr).1,(g1 r hr).2.rk,(g1 r hr).2.lo,(g1 r hr).2.mv⟩) g3
end
end
end Go.Proofs.YtcmmhbmgpflmeaaGreatDoor
namespace Go.Proofs.YtcmmhbmgpflmeaaGreatDoor
set_option linter.unusedSimpArgs false
set_option linter.unusedVariables false
set_option maxRecDepth 100000
noncomputable def Wi:Option (Bool):=
 (ua (JR 2) fun r1=>(ua (YM r1) fun r2=>(ua (Xs r1 0 ({state:=r2.1,own:=true}:aA)) fun r3=>(ua (YO r1 0 ({state:=r2.1,own:=false}:aA)) fun r4=>(ua (bif (r2.2 == 0) then (bif (r3.2 == 0) then (bif (r4.2 == 0) then (bif decide (0 < (r3.1.af.length:Int)) then (ua (zf r3.1.af 0) fun e1=>(bif (e1.move == 0) then (bif decide (0 < (r4.1.af.length:Int)) then (ua (zf r4.1.af 0) fun e2=>(bif (e2.bl == 1) then (ua (ku r1 r3.1) fun r5=>(bif r5 then (ua (ZU r1 r4.1) fun r6=>some r6) else some false)) else some false)) else some false) else some false)) else some false) else some false) else some false) else some false) fun v1=>some v1)))))
theorem zb1:Le Wi wL:=by
 unfold Wi wL
 repeat' (first | with_reducible exact Le.refl _ | with_reducible exact zhP _ | with_reducible exact zeq _ _ _ | with_reducible exact zhQ _ _ _ | with_reducible exact YQ _ _ | with_reducible exact zb0 _ _ | with_reducible refine Le.bind ?_ (fun _ => ?_) | with_reducible refine Le.cond _ ?_ ?_ | with_reducible refine Le.elim (fun _ => ?_) (fun _ => ?_) _)
theorem zcy:wL=some true:=zb1 true (by kernel_rfl)
end Go.Proofs.YtcmmhbmgpflmeaaGreatDoor
namespace Go.Proofs.YtcmmhbmgpflmeaaGreatDoor
open Go.RowKit
set_option linter.unusedSimpArgs false
set_option linter.unusedVariables false
set_option maxRecDepth 100000
section
abbrev xb (t:Int×(List Int)×(List Bool)×(List aq)×Bool):aA:={state:={day:=t.1,aC:=t.2.1,used:=t.2.2.1,aM:=t.2.2.2.1},own:=t.2.2.2.2}
section
variable {c:ax} {zw:Int}
theorem zjd (hv:(z8 c).1=0) (ho:c.off.length < 4611686018427387904):fC c (j8 c):=by
 have sm:=qn ho hv
 refine ⟨by simp [j8],fun i k m h1 h2 => ?_⟩
 rw [Q9 c h1] at h2
 cases h2
 have hp:=sm.aN
 have e4:decide (-1 < c.aN)=true:=decide_eq_true (by omega)
 unfold wU
 cases hw:k.bq with
 | true=>
  refine j7.2 (.inr (.inr (.inr ⟨.inr (.inr rfl),?_⟩)))
  show ((0:Int) == 0&&(decide ((0:Int)≤0)&&(decide ((0:Int)≤9)&&(decide ((-1:Int) ≤ -1)&&(decide (-1 < c.aN) && !false)))))=true
  rw [e4];rfl
 | false=>exact j7.2 (.inl ⟨rfl,hw,rfl⟩)
theorem zhT (hc:c.Ok) (zw:Int):ay (XL c zw) (fun r=>r.2≠0∨(r.2=0∧∃ s0,xe c=some (s0,0)∧VS c s0∧s0.day=0∧s0.aC=c.aC∧s0.used=ug c.aK.length false∧cz c c.aC (j8 c) s0.aM∧cC c zw {state:=s0,own:=true} r.1∧xk c zw {state:=s0,own:=true}=some (r.1,0))):=by
 unfold XL
 by_cases hv:(z8 c).1=0
 ·obtain ⟨⟨s0,e0⟩,hst,h0,hvs,b1,b2,b3,b4⟩:=VN hc hv
  simp only at h0 hvs b1 b2 b3 b4
  subst h0
  refine ay.az hst ?_
  refine ay.ite (fun _ => ?_) (fun h=>by cases h)
  cases eD:vU c zw s0 with
  | false=>
   refine ay.az (UO hc (p:={state:=s0,own:=true}) eD) ?_
   exact ay.some (.inl (by simp))
  | true=>
   obtain ⟨h1,h2,_⟩:=wl.1 eD
   obtain ⟨⟨a,e⟩,hf,hr⟩:=UL hc (p:={state:=s0,own:=true}) eD
   refine ay.az hf ?_
   rcases hr with ⟨h3,h4,h5⟩ | ⟨h3,_⟩
   ·simp only at h3 h4 h5
    subst h3
    exact ay.some (.inr ⟨rfl,s0,hst,hvs,b1,b2,b3,b4,⟨h1,h2,h4,h5⟩,hf⟩)
   ·simp only at h3
    subst h3
    exact ay.some (.inl (by simp))
 ·refine ay.az (KO hc hv) ?_
  refine ay.ite (fun h=>by cases h) (fun _ => ?_)
  exact ay.some (.inl (by simp))
theorem zmu {X:List dh} {p:aA} (hX:X.length≤1500) (hvs:∀ r∈X,VS c r.aW.state) (hc:c.Ok) (v6:Int) :
  ay (iter (σ:=Int×Int) (ρ:=Int) (fun s2=>(ua (bif decide (s2.2 < (X.length:Int)) then some p.own else some false) fun v7=>(bif v7 then (ua (ua (zf X s2.2) fun e7=>(ua (wi e7.aW p) fun Bw=>(bif Bw then (ua (zf X s2.2) fun e8=>some e8.move) else some s2.1))) fun (v8:Int)=>some (.inl (v8,(IntKind.i64.wrap (s2.2+1))))) else some (.inr s2.1)))) (v6,0))
   (fun v=>(p.own=true∧∃ r∈X,r.aW=p∧v=r.move)∨(v=v6∧(p.own=true→∀ r∈X,r.aW≠p))):=by
 refine ay.iter (fun s=>0≤s.2∧s.2≤(X.length:Int)∧((p.own=true∧∃ r∈X,r.aW=p∧s.1=r.move)∨(s.1=v6∧(p.own=true→∀ (j:Nat) (hj:j < X.length),(j:Int) < s.2→X[j].aW≠p)))) (fun s=>X.length - s.2.toNat) ⟨by simp,by simp,.inr ⟨rfl,fun _ j hj h=>by simp only at h;omega⟩⟩ ?_
 rintro ⟨v,n⟩ ⟨n0,n1,hI⟩
 simp only at n0 n1 hI
 by_cases hlt:n < (X.length:Int)
 ·refine ay.az (v:=p.own) (by rw [decide_eq_true hlt];rfl) ?_
  cases ho:p.own with
  | false=>
   refine ay.some ?_
   rcases hI with ⟨h,_⟩ | ⟨h,_⟩
   ·rw [ho] at h;cases h
   ·exact .inr ⟨h,fun h=>by cases h⟩
  | true=>
   rw [bL]
   obtain ⟨k,rfl⟩:∃ k:Nat,n=(k:Int):=⟨n.toNat,by omega⟩
   have hk:k < X.length:=by omega
   have hx:=zt (ub hk)
   have hf:=(hvs _ (uc hk)).rq hc
   have ew:IntKind.i64.wrap ((k:Int)+1)=((k+1:Nat):Int):=by rw [zZ (by omega) (by omega)];omega
   refine ay.bind (P:=fun v2=>(∃ r∈X,r.aW=p∧v2=r.move)∨(v2=v6∧∀ (j:Nat) (hj:j < X.length),(j:Int) < ((k+1:Nat):Int)→X[j].aW≠p)) ?_ ?_
   ·refine ay.az hx ?_
    refine ay.az (KP _ _ (by omega) (by omega) (by omega)) ?_
    refine ay.ite (fun he => ?_) (fun he=>ay.some ?_)
    ·refine ay.az hx ?_
     exact ay.some (.inl ⟨_,uc hk,beq_iff_eq.1 he,rfl⟩)
    ·rcases hI with ⟨_,h⟩ | ⟨h1,h2⟩
     ·exact .inl h
     ·refine .inr ⟨h1,fun j hj fR => ?_⟩
      by_cases e:j=k
      ·subst e;exact beq_eq_false_iff_ne.1 he
      ·exact h2 ho j hj (by omega)
   ·intro v2 pJ
    refine ay.some (show (0≤IntKind.i64.wrap ((k:Int)+1)∧IntKind.i64.wrap ((k:Int)+1)≤(X.length:Int)∧((true=true∧∃ r∈X,r.aW=p∧v2=r.move)∨(v2=v6∧(true=true→∀ (j:Nat) (hj:j < X.length),(j:Int) < IntKind.i64.wrap ((k:Int)+1)→X[j].aW≠p))))∧X.length - (IntKind.i64.wrap ((k:Int)+1)).toNat < X.length - ((k:Int)).toNat from ?_)
    rw [ew]
    refine ⟨⟨by omega,by omega,?_⟩,by simp only [uD];omega⟩
    rcases pJ with h | ⟨h1,h2⟩
    ·exact .inl ⟨rfl,h⟩
    ·exact .inr ⟨h1,fun _=>h2⟩
 ·refine ay.az (v:=false) (by rw [decide_eq_false hlt];rfl) ?_
  refine ay.some ?_
  rcases hI with h | ⟨h1,h2⟩
  ·exact .inl h
  ·refine .inr ⟨h1,fun ho r hr => ?_⟩
   obtain ⟨j,hj,rfl⟩:=uh hr
   exact h2 ho j hj (by omega)
theorem zmv {Y:List cU} {p:aA} (hY:Y.length≤1500) (hvs:∀ r∈Y,VS c r.aW.state) (hc:c.Ok) (v9:Int) :
  ay (iter (σ:=Int×Int) (ρ:=Int) (fun s3=>(ua (bif decide (s3.2 < (Y.length:Int)) then some (!p.own) else some false) fun v10=>(bif v10 then (ua (ua (ua (zf Y s3.2) fun e9=>(ua (wi e9.aW p) fun Bx=>(bif Bx then some (decide (0 < e9.bl)) else some false))) fun v11=>(bif v11 then (ua (zf Y s3.2) fun dW=>some dW.move) else some s3.1)) fun (v12:Int)=>some (.inl (v12,(IntKind.i64.wrap (s3.2+1))))) else some (.inr s3.1)))) (v9,0))
   (fun v=>(p.own=false∧∃ r∈Y,r.aW=p∧0 < r.bl∧v=r.move)∨(v=v9∧(p.own=false→∀ r∈Y,r.aW=p→¬ 0 < r.bl))):=by
 refine ay.iter (fun s=>0≤s.2∧s.2≤(Y.length:Int)∧((p.own=false∧∃ r∈Y,r.aW=p∧0 < r.bl∧s.1=r.move)∨(s.1=v9∧(p.own=false→∀ (j:Nat) (hj:j < Y.length),(j:Int) < s.2→Y[j].aW=p→¬ 0 < Y[j].bl)))) (fun s=>Y.length - s.2.toNat) ⟨by simp,by simp,.inr ⟨rfl,fun _ j hj h=>by simp only at h;omega⟩⟩ ?_
 rintro ⟨v,n⟩ ⟨n0,n1,hI⟩
 simp only at n0 n1 hI
 by_cases hlt:n < (Y.length:Int)
 ·refine ay.az (v := !p.own) (by rw [decide_eq_true hlt];rfl) ?_
  cases ho:p.own with
  | true=>
   refine ay.some ?_
   rcases hI with ⟨h,_⟩ | ⟨h,_⟩
   ·rw [ho] at h;cases h
   ·exact .inr ⟨h,fun h=>by cases h⟩
  | false=>
   rw [uy,bL]
   obtain ⟨k,rfl⟩:∃ k:Nat,n=(k:Int):=⟨n.toNat,by omega⟩
   have hk:k < Y.length:=by omega
   have hx:=zt (ub hk)
   have hf:=(hvs _ (uc hk)).rq hc
   have ew:IntKind.i64.wrap ((k:Int)+1)=((k+1:Nat):Int):=by rw [zZ (by omega) (by omega)];omega
   refine ay.bind (P:=fun v2=>(∃ r∈Y,r.aW=p∧0 < r.bl∧v2=r.move)∨(v2=v9∧∀ (j:Nat) (hj:j < Y.length),(j:Int) < ((k+1:Nat):Int)→Y[j].aW=p→¬ 0 < Y[j].bl)) ?_ ?_
   ·refine ay.az (v:=decide (Y[k].aW=p∧0 < Y[k].bl)) ?_ ?_
    ·rw [hx]
     simp only [aS]
     rw [KP _ _ (by omega) (by omega) (by omega)]
     simp only [aS]
     by_cases h1:Y[k].aW=p
     ·rw [beq_iff_eq.2 h1,bL]
      by_cases h2:0 < Y[k].bl
      ·rw [decide_eq_true h2,decide_eq_true ⟨h1,h2⟩]
      ·rw [decide_eq_false h2,decide_eq_false (fun h=>h2 h.2)]
     ·rw [beq_eq_false_iff_ne.2 h1,bM,decide_eq_false (fun h=>h1 h.1)]
    refine ay.ite (fun he => ?_) (fun he=>ay.some ?_)
    ·have he:=of_decide_eq_true he
     refine ay.az hx ?_
     exact ay.some (.inl ⟨_,uc hk,he.1,he.2,rfl⟩)
    ·have he:=of_decide_eq_false he
     rcases hI with ⟨_,h⟩ | ⟨h1,h2⟩
     ·exact .inl h
     ·refine .inr ⟨h1,fun j hj fR => ?_⟩
      by_cases e:j=k
      ·subst e;exact fun a b=>he ⟨a,b⟩
      ·exact h2 ho j hj (by omega)
   ·intro v2 pJ
    refine ay.some (show (0≤IntKind.i64.wrap ((k:Int)+1)∧IntKind.i64.wrap ((k:Int)+1)≤(Y.length:Int)∧((false=false∧∃ r∈Y,r.aW=p∧0 < r.bl∧v2=r.move)∨(v2=v9∧(false=false→∀ (j:Nat) (hj:j < Y.length),(j:Int) < IntKind.i64.wrap ((k:Int)+1)→Y[j].aW=p→¬ 0 < Y[j].bl))))∧Y.length - (IntKind.i64.wrap ((k:Int)+1)).toNat < Y.length - ((k:Int)).toNat from ?_)
    rw [ew]
    refine ⟨⟨by omega,by omega,?_⟩,by simp only [uD];omega⟩
    rcases pJ with h | ⟨h1,h2⟩
    ·exact .inl ⟨rfl,h⟩
    ·exact .inr ⟨h1,fun _=>h2⟩
 ·refine ay.az (v:=false) (by rw [decide_eq_false hlt];rfl) ?_
  refine ay.some ?_
  rcases hI with h | ⟨h1,h2⟩
  ·exact .inl h
  ·refine .inr ⟨h1,fun ho r hr => ?_⟩
   obtain ⟨j,hj,rfl⟩:=uh hr
   exact h2 ho j hj (by omega)
def Lu (c:ax) (zw:Int) (X:List dh) (Y:List cU) (p:aA) (v:Int):Prop:=
 (p.own=true→(∃ r∈X,r.aW=p∧v=r.move)∨(v∈zn c zw p∧∀ r∈X,r.aW≠p)) ∧
 (p.own=false→(∃ r∈Y,r.aW=p∧0 < r.bl∧v=r.move)∨(v∈zn c zw p∧∀ r∈Y,r.aW=p→¬ 0 < r.bl))
structure Fx (c:ax) (zw:Int) (p0:aA) (bw:List Int) (sh:eu) (e5:Int) (dm:bP) (e6:Int) (most:Nat) (Inv:Nat→aA→Prop):Prop where
 sf:xE c zw p0=some (sh,e5)
 df:vv c zw p0=some (dm,e6)
 xor:(e5=0∧e6=13)∨(e5=13∧e6=0)
 safe:qf c zw p0=(e5 == 0)
 ch1:e5=0→ji c sh=some true
 ch2:e6=0→jt c dm=some true
 mo:(bif e6 == 0 then (ua (zf dm.af 0) fun e2=>some e2.bl) else some (bw.length:Int))=some (most:Int)
 m4:most≤4000
 xl:sh.af.length≤1500
 yl:dm.af.length≤1500
 xv:∀ r∈sh.af,VS c r.aW.state
 yv:∀ r∈dm.af,VS c r.aW.state
 i0:Inv 0 p0
 step:∀ n p v,n < most→VS c p.state→Inv n p→Lu c zw sh.af dm.af p v→v∈zn c zw p∧Inv (n+1) (target c p v)
 fin:∀ p,VS c p.state→Inv most p→zR c p.state zw=(e6 == 0)
 brk:∀ n p,VS c p.state→Inv n p→zn c zw p=[]→zR c p.state zw=(e6 == 0)
theorem zje {p0:aA} {a:cF} {bw:List Int} (hc:c.Ok) (A:cC c zw p0 a) (hf:xk c zw p0=some (a,0)) (Ap:bw.length≤100):∃ sh e5 dm e6 most Inv,Fx c zw p0 bw sh e5 dm e6 most Inv:=by
 have hn:a.aR.length≤1500:=A.F.inv.len
 have hpos:=A.pos
 have mg:0 < a.aR.length:=by omega
 have e0:a.aR[0]=p0:=by
  have:=A.F.first
  rw [ub mg] at this
  exact Option.some.inj this
 obtain ⟨⟨d,g⟩,hdf,hd⟩:=zgy hc A hf
 have rY:=zgw hc A hf
 rcases hd with ⟨tW,hd⟩ | ⟨tW,hg,BZ,hD,hrows,Lv,_,x,hx0,Lw⟩
 ·cases hd
  have nB:=Lg.1 tW
  have hP:=zbP A nB
  have hl:=V5 (c:=c) (zw:=zw) a.aR
  rw [q5.2 nB,bL] at rY
  refine ⟨_,_,_,_,bw.length,fun _ p=>∃ r∈jC c zw a.aR,r.aW=p,⟨rY,hdf,.inl ⟨rfl,rfl⟩,by rw [q5.2 nB];rfl,fun _ => ?_,fun h=>(by cases h),rfl,by omega,by simp only;omega,by simp,hP.vs,fun r hr=>by simp at hr,?_,fun n p v _ hv hI hT => ?_,fun p _ hI => ?_,fun n p _ hI _ => ?_⟩⟩
  ·rw [zab hc _ (by show (jC c zw a.aR).length < _;omega),Wh.2 hP]
  ·exact kF (by rw [←e0];exact uc mg) nB
  ·obtain ⟨r,hr,rfl⟩:=hI
   cases ho:r.aW.own with
   | true=>
    rcases hT.1 ho with ⟨r2,cg,e2,rfl⟩ | ⟨_,h⟩
    ·have:=hP.own r2 cg (by rw [e2];exact ho)
     rw [e2] at this
     exact this
    ·exact absurd rfl (h r hr)
   | false=>
    rcases hT.2 ho with ⟨r2,cg,_⟩ | ⟨h,_⟩
    ·simp at cg
    ·exact ⟨h,hP.tP r hr ho v h⟩
  ·obtain ⟨r,hr,rfl⟩:=hI
   exact hP.lost r hr
  ·obtain ⟨r,hr,rfl⟩:=hI
   exact hP.lost r hr
 ·simp only at hg BZ hD hrows Lv hx0
  subst hg
  have Ct:qf c zw p0=false:=by
   cases hs:qf c zw p0 with
   | false=>rfl
   | true=>exact absurd (Lg.2 (q5.1 hs)) tW
  rw [Ct,bM] at rY
  have Ae:=List.mem_of_getElem? hx0
  have Lx:=hrows x Ae
  have hlo:=Lx.lo
  have hhi:x.bl≤1500:=by
   obtain ⟨r,cq,cg,_,l7⟩:=Xm hc A
   have e1:r=a.aR.map (dw c zw):=Option.some.inj (cq.symm.trans (VV hc A))
   have h2:=l7 0 mg
   have h3:at_ r 0=dw c zw p0:=by
    subst e1
    unfold at_
    rw [uq,ub mg,e0];rfl
   rw [Lx.rk,Lw,←h3];exact h2
  have mi:∀ y∈d.af,y.bl=0→zR c y.aW.state zw=true:=fun y hy hz=>by
   have:=hD.zero y hy hz
   rwa [BZ] at this
  refine ⟨_,_,_,_,x.bl.toNat,fun n p=>zR c p.state zw=true∨∃ y∈d.af,y.aW=p∧y.bl≤x.bl - (n:Int),⟨rY,hdf,.inr ⟨rfl,rfl⟩,by rw [Ct];rfl,fun h=>(by cases h),fun _ => ?_,?_,by omega,by simp,Lv,fun r hr=>by simp at hr,hD.vs,.inr ⟨x,Ae,Lw,by simp⟩,fun n p v hnm hv hI hT => ?_,fun p _ hI => ?_,fun n p _ hI hm => ?_⟩⟩
  ·rw [zcw hc d (by omega),KR.2 hD]
  ·show ua (zf d.af 0) _=_
   have pH:zf d.af 0=some x:=zt (i:=0) hx0
   rw [pH]
   show some x.bl=some _
   rw [Int.toNat_of_nonneg hlo]
  ·have tT:v∈zn c zw p:=by
    cases ho:p.own with
    | true=>
     rcases hT.1 ho with ⟨r2,cg,_⟩ | ⟨h,_⟩
     ·simp at cg
     ·exact h
    | false=>
     rcases hT.2 ho with ⟨r2,cg,e2,h0,rfl⟩ | ⟨h,_⟩
     ·have:=(hD.tP r2 cg h0 (by rw [e2];exact ho)).1
      rwa [e2,BZ] at this
     ·exact h
   refine ⟨tT,?_⟩
   have rZ:zR c p.state zw=true→zR c (target c p v).state zw=true:=fun h=>zgm hc hv tT h
   rcases hI with h | ⟨y,hy,rfl,Ly⟩
   ·exact .inl (rZ h)
   ·have hy0:=(hrows y hy).lo
    by_cases hz:y.bl=0
    ·exact .inl (rZ (mi y hy hz))
    ·right
     cases ho:y.aW.own with
     | true=>
      obtain ⟨r',g1,g2,g3⟩:=hD.own y hy (by omega) ho v (by rw [BZ];exact tT)
      exact ⟨r',g1,g2,by omega⟩
     | false=>
      rcases hT.2 ho with ⟨r2,cg,e2,h0,rfl⟩ | ⟨_,h⟩
      ·obtain ⟨_,r',g1,g2,g3⟩:=hD.tP r2 cg h0 (by rw [e2];exact ho)
       have e3:r2.bl=y.bl:=by rw [(hrows r2 cg).rk,(hrows y hy).rk,e2]
       rw [e2] at g2
       exact ⟨r',g1,g2,by omega⟩
      ·exact absurd (show 0 < y.bl by omega) (h y hy rfl)
  ·rcases hI with h | ⟨y,hy,rfl,Ly⟩
   ·exact h
   ·have hy0:=(hrows y hy).lo
    exact mi y hy (by omega)
  ·rcases hI with h | ⟨y,hy,rfl,Ly⟩
   ·exact h
   ·have hy0:=(hrows y hy).lo
    by_cases hz:y.bl=0
    ·exact mi y hy hz
    ·exfalso
     cases ho:y.aW.own with
     | true=>
      have:(-2:Int)∈zn c zw y.aW:=jj.2 (.inl ⟨ho,rfl⟩)
      rw [hm] at this
      cases this
     | false=>
      have:=(hD.tP y hy (by omega) ho).1
      rw [BZ,hm] at this
      cases this
end
theorem zex {c:ax} (hc:c.Ok):∃ r,xe c=some r:=by
 by_cases hv:(z8 c).1=0
 ·obtain ⟨r,h,_⟩:=VN hc hv
  exact ⟨r,h⟩
 ·exact ⟨_,KO hc hv⟩
theorem zb2 (c:ax) (zw:Int) (bw:List Int) (hc:ax.Ok c) (Fy:dL .i64 zw) (Ap:lz 1 (fun x:Int=>dL .u8 x) bw):Zi c zw bw=some true:=by
 refine ay.eq ?_
 unfold Zi
 refine ay.az zcy ?_
 refine ay.bind (P:=fun b:Bool=>b=true∨(b=false∧CG c=true∧bw.length≤100)) ?_ ?_
 ·refine ay.az (UB hc) ?_
  refine ay.ite (fun ht=>ay.some ?_) (fun _=>ay.some (.inl rfl))
  by_cases h:100 < (bw.length:Int)
  ·exact .inl (decide_eq_true h)
  ·exact .inr ⟨decide_eq_false h,ht,by omega⟩
 rintro b (rfl | ⟨rfl,si,dY⟩)
 ·exact ay.ite (fun _=>ay.some rfl) (fun h=>by cases h)
 refine ay.ite (fun h=>by cases h) (fun _ => ?_)
 have h6:c.aB.length≤6:=by
  simp only [CG,VL,ue,uo,uv,decide_eq_false_iff_not] at si
  have:=si.1.1.2.2.2.1
  omega
 refine ay.bind (zhT hc zw) ?_
 rintro ⟨a,e⟩ (he | ⟨he,s0,hst,nG,b1,b2,b3,b4,A,hf⟩)
 ·simp only at he
  obtain ⟨q0,Fz⟩:=zex hc
  refine ay.az Fz ?_
  refine ay.az (v:=true) (by rw [beq_eq_false_iff_ne.2 he];rfl) ?_
  exact ay.ite (fun _=>ay.some rfl) (fun h=>by cases h)
 simp only at he A hf
 subst he
 refine ay.az hst ?_
 refine ay.az (v:=false) rfl ?_
 refine ay.ite (fun h=>by cases h) (fun _ => ?_)
 obtain ⟨sh,e5,dm,e6,most,Inv,H⟩:=zje (bw:=bw) hc A hf dY
 have ho:=hc.off.lt (by omega:0 < 8)
 have hpos:=A.pos
 have mg:0 < a.aR.length:=by omega
 have e0:a.aR[0]={state:=s0,own:=true}:=by
  have:=A.F.first
  rw [ub mg] at this
  exact Option.some.inj this
 refine ay.az H.sf ?_
 refine ay.az H.df ?_
 refine ay.az (Lc hc A) ?_
 refine ay.az (v:=false) ?_ ?_
 ·have i0:zf (a.aR.map (qf c zw)) 0=some (qf c zw {state:=s0,own:=true}):=by
   refine zt (i:=0) ?_
   rw [uq,ub mg,e0];rfl
  have hx:((e5 == 0) == (e6 == 0))=false:=by
   rcases H.xor with ⟨rfl,rfl⟩ | ⟨rfl,rfl⟩<;>rfl
  simp only [hx,bM]
  rw [beq_eq_false_iff_ne.2 (show ((a.aR.map (qf c zw)).length:Int)≠0 by rw [uI];omega),cond_false,i0]
  simp only [aS]
  rw [H.safe,beq_self_eq_true];rfl
 refine ay.ite (fun h=>by cases h) (fun _ => ?_)
 refine ay.az (v:=false) ?_ ?_
 ·rcases H.xor with ⟨x1,x2⟩ | ⟨x1,x2⟩
  ·have:=H.ch1 x1
   subst x1
   subst x2
   simp only [this];rfl
  ·have:=H.ch2 x2
   subst x1
   subst x2
   simp only [this];rfl
 refine ay.ite (fun h=>by cases h) (fun _ => ?_)
 refine ay.az H.mo ?_
 have hm4:=H.m4
 obtain ⟨q0,q1,_⟩:0≤zw∧zw < c.aN∧True:=⟨A.p0,A.p1,trivial⟩
 refine ay.bind (P:=fun o:List Int ⊕ Unit=>∃ l,o=.inl l∧n8 c s0 l∧l.length≤4000∧zR c (q9 c s0 l) zw=(e6 == 0))
  (ay.bind (P:=fun o:(List Int×Int×(List Int)×(List Bool)×(List aq)×Bool) ⊕ (Unit ⊕ List Int)=>∃ l,((∃ t,o=.inl (l,t))∨o=.inr (.inr l))∧n8 c s0 l∧l.length≤4000∧zR c (q9 c s0 l) zw=(e6 == 0))
   (ay.dS (fun n s=>VS c (xb s.2).state∧n8 c s0 s.1∧q9 c s0 s.1=(xb s.2).state∧s.1.length≤n∧Inv n (xb s.2)) (by omega) ⟨nG,trivial,rfl,by simp,H.i0⟩ ?_ ?_) ?_) ?_
 ·rintro n ⟨l,t⟩ hn ⟨hv,hl,hr,gl,hI⟩
  simp only at hv hl hr gl hI
  have eD:vU c zw (xb t).state=true:=wl.2 ⟨q0,q1,hv⟩
  have gS:xX c zw (xb t)=some (zn c zw (xb t),0):=by rw [YJ hc,eD];rfl
  have hml:=wn hc (zw:=zw) (e:=xb t) hv
  refine ay.az gS ?_
  refine ay.ite (fun _ => ?_) (fun h=>by cases h)
  refine ay.ite (fun h0=>ay.some ?_) (fun h0 => ?_)
  ·have h0:((zn c zw (xb t)).length:Int)=0:=beq_iff_eq.1 h0
   exact ⟨l,.inr rfl,hl,by omega,by rw [hr];exact H.brk n _ hv hI (List.eq_nil_of_length_eq_zero (by omega))⟩
  have hne:0 < (zn c zw (xb t)).length:=by
   have h9:((zn c zw (xb t)).length:Int)≠0:=beq_eq_false_iff_ne.1 h0
   omega
  have i0:zf (zn c zw (xb t)) 0=some (zn c zw (xb t))[0]:=zt (i:=0) (ub hne)
  refine ay.az i0 ?_
  refine ay.bind (P:=fun v6:Int=>v6∈zn c zw (xb t)) (ay.ite (fun hlt => ?_) (fun _=>ay.some (uc hne))) ?_
  ·have hlt:=of_decide_eq_true hlt
   have hlt:n < bw.length:=by omega
   refine ay.az (zt (ub hlt)) ?_
   obtain ⟨m,hm,n2,hn2,hx2⟩:=zhS (l:=zn c zw (xb t)) hne (Ap.2 _ (uc hlt))
   refine ay.az hn2 ?_
   refine ay.az hx2 ?_
   exact ay.some (uc hm)
  intro v6 Lz
  refine ay.bind (ay.bind (zmu (p:=xb t) H.xl H.xv hc v6) (fun v hv=>ay.some hv)) ?_
  intro v9 LA
  refine ay.bind (ay.bind (zmv (p:=xb t) H.yl H.yv hc v9) (fun v hv=>ay.some hv)) ?_
  intro v LB
  have hT:Lu c zw sh.af dm.af (xb t) v:=by
   constructor
   ·intro hown
    rcases LB with ⟨h,_⟩ | ⟨rfl,_⟩
    ·rw [hown] at h;cases h
    ·rcases LA with ⟨_,h⟩ | ⟨rfl,h⟩
     ·exact .inl h
     ·exact .inr ⟨Lz,h hown⟩
   ·intro hown
    rcases LB with ⟨_,h⟩ | ⟨rfl,h⟩
    ·exact .inl h
    ·rcases LA with ⟨h2,_⟩ | ⟨rfl,_⟩
     ·rw [hown] at h2;cases h2
     ·exact .inr ⟨Lz,h hown⟩
  obtain ⟨tT,hI2⟩:=H.step n (xb t) v hn hv hI hT
  have haf:Qh c zw (xb t) v=some (target c (xb t) v,0):=by rw [zi5 hc v eD,if_pos tT]
  refine ay.az haf ?_
  refine ay.ite (fun _ => ?_) (fun h=>by cases h)
  have Ed:=vC hc hv tT
  refine ay.bind (P:=fun l':List Int=>n8 c s0 l'∧q9 c s0 l'=(target c (xb t) v).state∧l'.length≤n+1) (ay.ite (fun hp=>ay.some ?_) (fun hp => ?_)) ?_
  ·have hp:=beq_iff_eq.1 hp
   subst hp
   rw [ZS]
   exact ⟨hl,hr,by simp only;omega⟩
  ·have hp:=beq_eq_false_iff_ne.1 hp
   rcases Jb tT with ⟨h,_⟩ | ⟨m1,m2,m3⟩
   ·exact absurd h hp
   ·refine ay.az (jo (by simp only [ut,uw];omega)) ?_
    rw [ZT c (xb t) m1]
    refine ay.some ⟨I8 hl m1 m2 (by rw [hr];exact m3),by rw [zgn,hr],by simp only [List.length_append,ut,uw];omega⟩
  ·rintro l' ⟨k1,k2,k3⟩
   exact ay.some ⟨Ed,k1,k2,k3,hI2⟩
 ·rintro ⟨l,t⟩ ⟨hv,hl,hr,gl,hI⟩
  simp only at hv hl hr gl hI
  exact ⟨l,.inl ⟨t,rfl⟩,hl,by omega,by rw [hr];exact H.fin _ hv hI⟩
 ·rintro _ ⟨l,(⟨t,rfl⟩ | rfl),h⟩
  ·exact ay.some ⟨l,rfl,h⟩
  ·exact ay.some ⟨l,rfl,h⟩
 ·rintro _ ⟨l,rfl,hl,h4,mi⟩
  refine ay.az (zgp hc h6 nG b1 b2 b3 b4 (zjd nG.cv ho) hl h4) ?_
  refine ay.az (v:=true) ?_ (ay.some rfl)
  simp only [mi,beq_self_eq_true];rfl
end
end Go.Proofs.YtcmmhbmgpflmeaaGreatDoor
namespace Go.Proofs.YtcmmhbmgpflmeaaGreatDoor
open Go.ChangeShapes Go.WideShapes Go.RowKit
set_option maxRecDepth 100000
abbrev X0 : List (String × DataW Unit) := [("math/bits.deBruijn32tab", Rows.laid_math_bits_deBruijn32tab), ("math/bits.deBruijn64tab", Rows.laid_math_bits_deBruijn64tab), ("internal/strconv.uint64pow10", Rows.laid_internal_strconv_uint64pow10)]
theorem zhU:(X0.filter fun x=>x.1 == wz)=[(wz,Lib.tabData .u64 Lib.pow10Tab)]:=by kernel_rfl
theorem zb3 {W:World} (h:laidMet Tryz.prog X0 W):C0.tabs.p W∧C0.tabs.n≤W.heap.size:=by
 have h1:=h.filter (fun x=>x.1 == wz)
 rw [zhU] at h1
 have h2:C0.tabs.p W:=Lib.tabIs_of_head (g:=0) (t:=((Tryz.prog.globals[0]?).map (·.type)).getD 0) (e:=173) (n:=20)
  (by kernel_rfl) (by kernel_rfl) (by kernel_rfl) (by kernel_rfl) (by kernel_rfl) (by kernel_rfl) h1
 exact ⟨h2,O8 h2⟩
def zk4:DataW Unit→Array Value
 | .agg ds=>(ds.map fun d=>match d with | .lit (.int k n)=>Value.int k n | _=>Value.bool false).toArray
 | _ => #[]
def FA (w:World) (g:Nat) (d:DataW Unit):World:={w with heap:=w.heap.modify g fun | .cells _ t f=>.cells (zk4 d) t f | o=>o}
noncomputable def KS (os:Os):World:=
 FA (FA (FA (World.holding Tryz.prog os ⟨#[],#[],[]⟩) 1 Rows.laid_math_bits_deBruijn32tab) 2 Rows.laid_math_bits_deBruijn64tab) 0 Rows.laid_internal_strconv_uint64pow10
theorem zac (os:Os) (args:Array Value):laidMet Tryz.prog X0 ((KS os).forCall (fun _ _=>0) ⟨#[],args,[]⟩).memory:=
 laidMet_of_run3 8 (by kernel_rfl) (by kernel_rfl) (by kernel_rfl)
end Go.Proofs.YtcmmhbmgpflmeaaGreatDoor
namespace Go.Proofs.YtcmmhbmgpflmeaaGreatDoor.LTopDecided
open Go.ChangeShapes Go.WideShapes Go.ChangeAt Go.RowKit
set_option linter.unusedVariables false
set_option maxRecDepth 100000
theorem all (dH:List IV) (h:XG [(true,ax.cy),(false,[.int .i64]),(false,[.slice 1 [.int .u8]])] dH):aO C0 287 dH (.bool true):=by
 match dH,h with
 | [x0,x1,x2],⟨a0,a1,a2,_⟩=>
  obtain ⟨AH,rfl,r0⟩:=a0
  obtain ⟨c,rfl,FB⟩:=ax.fw r0
  obtain ⟨c1,_,e1,k1,n1⟩:=zj a1
  cases e1
  obtain ⟨zw,rfl,oX⟩:=zu k1
  obtain ⟨c2,_,e2,k2,n2⟩:=zj a2
  cases e2
  obtain ⟨bw,rfl,nc⟩:=zL (Pj .u8) k2
  exact TQ c zw bw true (zb2 c zw bw FB oX nc)
theorem own:ownKnob Tryz.prog.godebug=none:=by kernel_rfl
theorem laid:laidOutB Tryz.prog=true:=by kernel_rfl
theorem args:aY (Bk Tryz.prog) Tryz.f3.params.toList=some [(true,ax.cy),(false,[.int .i64]),(false,[.slice 1 [.int .u8]])]:=by kernel_rfl
theorem zk5 (os:Os) (started:os.Started) (H:Type) (enc:TypeId×Value→H) :
  ReturnsInHanded {} Tryz.checked os 3 .any (fun w args=>(Rows.topDecidedSpec.pre enc Tryz.prog Tryz.f3 [] false w args∧laidMet Tryz.prog X0 w)∧sizedMet enc Tryz.prog Tryz.f3 (OpenSpec.ofChange Rows.topDecidedSpec) false w args) (Rows.topDecidedSpec.post enc Tryz.prog Tryz.f3 false true false false):=by
 refine returnsInHanded_of_change_and (C:=Tryz.checked) (X:=fun w _=>laidMet Tryz.prog X0 w) (fun _ _ _ hh h=>h.of_heap hh) own started (by kernel_rfl) Tryz.func3
  (ChangeSpec.witness_at (enc:=enc) (C:=Tryz.checked) (os:=os) (X:=fun w _=>laidMet Tryz.prog X0 w) false (KS os) #[.agg #[.int .i64 0,.slice none 0 0,.slice none 0 0,.slice none 0 0,.slice none 0 0,.int .i64 0,.slice none 0 0],.int .i64 0,.slice none 0 0] 8 rfl (by kernel_rfl) (by kernel_rfl) (by kernel_rfl) (by kernel_rfl) (by kernel_rfl) (zac os _)) ?_
 intro W base args ds gs before hval hW _ Cu hL _
 exact Pg (Cx:=C0) (tb:=4) 287 rfl LTopDecided.args rfl (by kernel_rfl) rfl
  (fun ds h=>by match ds,h with | [_,_,_],_=>rfl) LTopDecided.laid (by kernel_rfl) LTopDecided.all W (zb3 hL) base args ds gs before hval hW Cu
theorem znX:Rows.TopDecidedSaid:=
 OpenClaim.holds_of_wide 3 Tryz.f3 rfl rfl rfl rfl rfl rfl rfl ⟨rfl,rfl,rfl,rfl,rfl⟩ rfl rfl rfl rfl rfl (by kernel_rfl) Tryz.func3 (by kernel_rfl)
  (of_decide_eq_true (by kernel_rfl)) (by unfold Func.isWrapper;first | (rw [if_pos (by decide +kernel)];kernel_rfl) | (rw [if_neg (by decide +kernel)];exact ⟨rfl,rfl⟩))
  (fun os started H enc _=>zk5 os started H enc)
theorem holds:Rows.TopDecidedCardSaid:=
 Claim7.holds_tied_plain_at .later [] [.data, .data, .data] true (true, "8bd5698f10dcb61da21205c18483184976c2d1ccbcc39f1ba920db4c6a81be3b") false
  znX (fun _ h=>by cases h) (by kernel_rfl) (fun _ h=>by cases h) topDecided_row_tie rfl ⟨rfl,rfl⟩ (by kernel_rfl) rfl
  (fun f fn hf hfn=>by
   obtain rfl : f = 3 := Option.some.inj ((show Tryz.prog.funcNamed "estoppel/estoppeltop.TopDecided" = some 3 by kernel_rfl).symm.trans hf) |>.symm
   obtain rfl:fn=Tryz.f3:=(Option.some.inj (Tryz.func3.symm.trans hfn)).symm
   refine ⟨by kernel_rfl,fun j t ht => ?_⟩
   have hall:(Tryz.f3.params.toList.all fun t=>!(Tryz.prog.wantsStandIn t))=true:=by kernel_rfl
   have:=uj.1 hall t (by rw [Array.mem_toList_iff];exact Array.mem_of_getElem? ht)
   have h2:Tryz.prog.wantsStandIn t=false:=by simpa using this
   exact h2)
  (by kernel_rfl)
end Go.Proofs.YtcmmhbmgpflmeaaGreatDoor.LTopDecided
namespace Go.Proofs.YtcmmhbmgpflmeaaGreatDoor
theorem topDecided_holds:Rows.TopDecidedCardSaid:=LTopDecided.holds
end Go.Proofs.YtcmmhbmgpflmeaaGreatDoor
