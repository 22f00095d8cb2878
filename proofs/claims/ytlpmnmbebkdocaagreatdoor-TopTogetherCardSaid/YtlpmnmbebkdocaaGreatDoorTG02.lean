/-
  The abstract machine: maps with keys of one scalar kind; equality of structs of scalars.
  The abstract machine: append.
  The abstract machine: append, onto slices that a name owns.
  The abstract machine: append is sound.
  The abstract machine: equality of structs of scalars.
  The abstract machine: append onto a slice that its owner also writes into.
  The abstract machine: slices against nil; slice expressions.
  The abstract machine: tests for nil, copy, elements of arrays, arrays that are built, entries of map literals.
  The abstract machine: maps compared with nil; fields of a struct that is a value.
  The abstract machine: every operation that it reads is sound.
  The abstract machine: code, how it is read off the model's code, and what it asks of a state.
-/
import Derived.Test.YtlpmnmbebkdocaaGreatDoorTG01
import Derived.Laws.Append
open List renaming getElem?_eq_some_iff → ua, getElem?_eq_getElem → ub, mem_of_getElem? → ue, eq_nil_of_length_eq_zero → ui, getElem?_append → uk, getElem?_map → um, getElem?_of_mem → uo, getElem?_drop → uq, length_eq_one_iff → ur, length_nil → uu, mem_append → uv, getElem?_append_right → uw, all_eq_true → ux, getElem?_append_left → uz, range → uB, size_toArray → uE, getElem_mem → uG, getD_cons_zero → uJ, getElem?_take → uK, extract_eq_take_drop → uL, getElem?_take_of_lt → uN, take_of_length_le → uR, getElem?_toArray → uT, length_pos_iff → uW, length_append → uY, drop_take → u6, drop_drop → u7, drop_zero → u9, all_cons → Ua, getD → Ub, mem_map → Uc
open Option renaming map_eq_some_iff → uh, map_some → uH, isSome_iff_exists → uM, map_none → uS
open Bool renaming false_eq_true → ut, and_eq_true → uF, not_eq_true' → u4, not_eq_false → u5
open Nat renaming le_refl → uc, mul_le_mul_right → ud, add_mul → ug, mul_comm → uj, div_lt_of_lt_mul → un, zero_add → uy, mul_sub_right_distrib → uA, pos_of_ne_zero → uC, div_add_mod → uI, le_add_right → uO, mod_lt → uQ, eq_zero_or_pos → uX, lt_of_lt_of_le → uZ, zero_mul → u0, add_zero → Ud
open Int renaming eq_ofNat_of_zero_le → uP
open Array renaming getElem?_append_left → ul, size_append → uD, getElem?_toList → uU, getElem?_push → uV, ext' → Ue
namespace Go.Proofs.YtlpmnmbebkdocaaGreatDoor
open Go.RowKit
set_option linter.unusedSimpArgs false
set_option linter.unusedVariables false
section
section
variable {C:Ctx} {g g':Gh} {h h':Nat→Option aD} {N N':Nat→Prop} {w w':World} {id:Nat}
theorem Fp {k:IV} {v u:Value} (hk:IV.key k=some u) (hv:RV C g h N w (.ap k) v):v=u:=by
 cases hv with
 | ap _ _ hr=>cases hr<;>simp [IV.key] at hk<;>exact hk
theorem Fq (a b:ByteArray):(a == b)=true↔a=b:=by
 rw [beq_toListBytes,ByteArray.toList_eq,ByteArray.toList_eq]
 obtain ⟨⟨x⟩⟩:=a
 obtain ⟨⟨y⟩⟩:=b
 simp
def Za:Bool→TypeDesc→Prop
 | false,d=>∃ k,d=.int k
 | true,d=>d=.string
theorem YS {str:Bool} {d:TypeDesc} (hd:Za str d) {k k':IV} {u u':Value} (hk:IV.key k=some u) (hk':IV.key k'=some u') {b:Bool} (he:jY k k'=some b)
  (hs:wP str k=true):Instr.sameNow d u u'=some b∧(b=true→u'=u):=by
 cases str with
 | false=>
  obtain ⟨kk,rfl⟩:=hd
  cases k<;>simp [wP] at hs
  cases k'<;>simp [jY] at he
  obtain ⟨rfl,rfl⟩:=he
  simp [IV.key] at hk hk'
  subst hk;subst hk'
  simp [Instr.sameNow]
  exact fun e=>e.symm
 | true=>
  cases hd
  cases k<;>simp [wP] at hs
  cases k'<;>simp [jY] at he
  subst he
  simp [IV.key] at hk hk'
  subst hk;subst hk'
  simp [Instr.sameNow]
  exact fun e=>((Fq _ _).1 e).symm
theorem JS {str:Bool} {d:TypeDesc} (hd:Za str d) {k:IV} {u:Value} (hk:IV.key k=some u) (hs:wP str k=true) :
  ∀ (es:List (IV×AV)) (cF:List MapEntry) (i0:Nat),cF.length=es.length →
   (∀ (i:Nat) (k':IV) (x:AV),es[i]?=some (k',x)→∃ e,cF[i]?=some e∧IV.key k'=some e.key∧RV C g h N w x e.val)→xK k es=true →
   (qo k es=none∧Instr.findNow d u cF i0=some none) ∨
   (∃ x j v,qo k es=some x∧Instr.findNow d u cF i0=some (some (i0+j,v))∧RV C g h N w x v∧j < es.length ∧
    (∃ e,cF[j]?=some e∧e.key=u)∧∀ y,qH k y es=es.set j (k,y)):=by
 intro es
 induction es with
 | nil=>intro cF i0 hl _ _;simp at hl;subst hl;exact .inl ⟨rfl,rfl⟩
 | cons p es ih=>
  intro cF i0 hl hr hok
  obtain ⟨k',x⟩:=p
  cases cF with
  | nil=>simp at hl
  | cons e cF=>
   obtain ⟨e',he',hk',hx⟩:=hr 0 k' x rfl
   simp at he'
   subst he'
   simp only [xK,Ua,uF] at hok
   obtain ⟨b,hb⟩:=uM.1 hok.1
   obtain ⟨rW,hsame⟩:=YS hd hk hk' hb hs
   replace hb:jY k k'=some b:=hb
   cases b with
   | true=>
    have hkey:e.key=u:=hsame rfl
    refine .inr ⟨x,0,e.val,by simp [qo,hb],by simp [Instr.findNow,rW],hx,by simp,⟨e,rfl,hkey⟩,fun y=>by simp [qH,hb]⟩
   | false=>
    rcases ih cF (i0+1) (by simpa using hl) (fun i k' x hi=>by have:=hr (i+1) k' x (by simpa using hi);simpa using this) hok.2 with ⟨h1,h2⟩ | ⟨x',j,v,h1,h2,h3,h4,h5,h6⟩
    ·exact .inl ⟨by simp [qo,hb,h1],by simp [Instr.findNow,rW,h2]⟩
    ·refine .inr ⟨x',j+1,v,by simp [qo,hb,h1],by simp [Instr.findNow,rW,h2];omega,h3,by simp;omega,by simpa using h5,fun y=>by simp [qH,hb,h6 y]⟩
theorem MO {k:IV}:∀ {es:List (IV×AV)},qo k es=none→xK k es=true→∀ y,qH k y es=es++[(k,y)]:=by
 intro es
 induction es with
 | nil=>intro _ _ y;rfl
 | cons p es ih=>
  obtain ⟨k',x⟩:=p
  intro h1 h2 y
  simp only [xK,Ua,uF] at h2
  obtain ⟨b,hb⟩:=uM.1 h2.1
  replace hb:jY k k'=some b:=hb
  cases b with
  | true=>simp [qo,hb] at h1
  | false=>simp [qo,hb] at h1;simp [qH,hb,ih h1 h2.2 y]
theorem JT {P:Program} {str:Bool} {t:TypeId} {d:TypeDesc} (ht:P.underlying t=some d) (hd:Za str d) (w:World) (b:Bool) (v:Value) (n:Nat):(Instr.checkKey b (n+1) t v).run P w=.ok () w:=by
 cases str with
 | false=>obtain ⟨kk,rfl⟩:=hd;simp [Instr.checkKey,run_underlying ht]
 | true=>cases hd;simp [Instr.checkKey,run_underlying ht]
theorem KF {str:Bool} {k:IV} (hk:wP str k=true):∃ u,IV.key k=some u:=by
 cases str<;>cases k<;>simp [wP] at hk<;>simp [IV.key]
theorem KG {x:AV} {v:Value} (hv:RV C g h N w x v):RV C g h N w (xJ x) v:=by
 cases x with
 | agg cs=>
  simp only [xJ]
  split
  ·rename_i l hl
   obtain ⟨h1,h2⟩:=qi hl
   cases hv with
   | agg _ vs hl' h1' hr=>
    refine .ap _ _ (.agg l vs (by rw [h1];exact hl') h1' fun j c u hj hu => ?_)
    have hlt:j < cs.length:=by rw [←h1];exact (ua.1 hj).1
    obtain ⟨c',eX,eY⟩:=h2 j cs[j] (by simp)
    rw [hj] at eX
    cases eX
    have hc:=hr j cs[j] u (by simp) hu
    generalize cs[j]=y at hc eY
    cases hc with
    | ap z _ hr=>simp [jm] at eY;subst eY;exact hr
    | nil=>simp [jm] at eY;subst eY;exact .nil
    | cr a cap=>simp [jm] at eY;subst eY;exact .empty a cap
    | aS i af _ hr _ _=>simp [jm] at eY;subst eY;exact hr
    | _=>simp [jm] at eY
  ·exact hv
 | _=>exact hv
theorem Fs (z:Value):RV C g h N w (vG z) z:=by
 cases z with
 | agg vs=>
  simp only [vG]
  split
  ·rename_i hall
   have:RV C g h N w (.agg (vs.toList.map xP)) (.agg vs.toList.toArray):=.agg _ _ (by simp) (fun v hv=>ux.1 hall v hv) fun i c u hc hu=>by
    rw [um,hu] at hc
    cases hc
    exact vg u
   exact KG this
  ·exact .top _
 | _=>simp only [vG];exact vg _
theorem MP (R:RH C g h N w) {x:AV} {v:Value} {es:List (IV×AV)} (he:jw h x=some es) (hv:RV C g h N w x v) :
  (v=.map none∧es=[])∨∃ b cF clock,v=.map (some b)∧w.heap[b]?=some (.map cF clock)∧cF.size=es.length ∧
   ∀ (i:Nat) (k:IV) (y:AV),es[i]?=some (k,y)→∃ e,cF[i]?=some e∧IV.key k=some e.key∧RV C g h N w y e.val:=by
 unfold jw at he
 split at he
 ·rename_i i
  split at he
  ·rename_i es' cN
   cases he
   cases hv with
   | map _ _ hni hone hp=>
    obtain ⟨b,hb,hval⟩:=hp _ cN
    obtain ⟨gO,cF,clock,hw,hl,hr⟩:=R.obj i b _ hb cN
    exact .inr ⟨b,cF,clock,hval,hw,hl,hr⟩
  ·cases he
 ·rename_i es'
  cases he
  cases hv with
  | ap _ _ hr=>
   cases hr with
   | eI _ b cF clock ev hz hb hl hk hr=>
    refine .inr ⟨b,cF,clock,rfl,hb,by simpa using hl,fun i k y hi => ?_⟩
    rw [um,uh] at hi
    obtain ⟨⟨k0,y0⟩,h1,h2⟩:=hi
    cases h2
    obtain ⟨h3,h4⟩:=hk i _ y0 h1
    exact ⟨ev i,h3,h4,.ap _ _ (hr i _ y0 h1)⟩
 ·cases he
  cases hv with
  | ap _ _ hr=>
   cases hr with
   | cP=>exact .inl ⟨rfl,rfl⟩
 ·cases he
theorem VE {o:Oper} {str:Bool} {t kt et:TypeId} {m k:Operand} {ok:Bool} {d:TypeDesc} {ti:TypeInfo} {z:Value} (ho:o.op=.lookup t m k ok)
  (ht:C.P.underlying t=some (.map kt et)) (oV:C.P.underlying kt=some d) (hd:Za str d) (hi:C.P.info? et=some ti) (hz:ti.zero=some z) :
  aP C o (.look str (vG z) ok (C.bl m) (C.bl k)):=by
 intro g h N w id ev val r aN R hid hv he
 have hm:=hv m (by simp [ho,Op.operands])
 have hk:=hv k (by simp [ho,Op.operands])
 simp only [ai] at he
 split at he
 ·rename_i es kv e1 e2
  rw [e2] at hk
  split at he
  ·rename_i bJ
   simp only [uF] at bJ
   obtain ⟨eX,eY⟩:=bJ
   obtain ⟨u,hu⟩:=KF eX
   have hkv:=Fp hu hk
   have hzero:RV C g h N w (if ok then .tuple [vG z,.ap (.bool false)] else vG z) (if ok then .tuple #[z,.bool false] else z):=by
    cases ok with
    | true=>exact .tuple [vG z,.ap (.bool false)] [z,.bool false] rfl (fun j c v hj hj'=>by
     rcases j with _ | _ | j
     ·simp at hj hj';subst hj;subst hj';exact Fs z
     ·simp at hj hj';subst hj;subst hj';exact .ap _ _ (.bool _)
     ·simp at hj)
    | false=>exact Fs z
   have iy:=fun bb=>JT (P:=C.P) oV hd w bb u 9999
   rcases MP R e1 hm with ⟨hval,rfl⟩ | ⟨b,cF,clock,hval,hw,hl,hr⟩
   ·simp only [qo,Option.some.injEq,Prod.mk.injEq] at he
    obtain ⟨rfl,rfl⟩:=he
    have h2:Instr.findNow d u [] 0=some none:=by simp [Instr.findNow]
    refine ⟨if ok then .tuple #[z,.bool false] else z,w,.inl ?_,zt R hzero⟩
    have hrun:(Instr.lookup t (.map none) u ok).run C.P w=.ok (if ok then .tuple #[z,.bool false] else z) w:=by
     simp only [Instr.lookup,Sem.run_bind,run_underlying ht,Result.andThen_ok,Sem.run_pure,iy,Instr.findKey,run_underlying oV,h2,zeroValue,typeInfo,run_program,hi,hz]
    simp only [execOp,ho,hval,hkv,Sem.run_bind,hrun,Result.andThen_ok,Sem.run_pure]
   have hfind:=JS (C:=C) (g:=g) (h:=h) (N:=N) (w:=w) hd hu eX es cF.toList 0 (by simpa using hl) (fun i k' x hi=>by obtain ⟨e,h1,h2⟩:=hr i k' x hi;exact ⟨e,by simpa using h1,h2⟩) eY
   rcases hfind with ⟨h1,h2⟩ | ⟨x,j,v,h1,h2,h3,h4,h5,h6⟩
   ·rw [h1] at he
    simp only [Option.some.injEq,Prod.mk.injEq] at he
    obtain ⟨rfl,rfl⟩:=he
    refine ⟨if ok then .tuple #[z,.bool false] else z,w,.inl ?_,zt R hzero⟩
    have hrun:(Instr.lookup t (.map (some b)) u ok).run C.P w=.ok (if ok then .tuple #[z,.bool false] else z) w:=by
     simp only [Instr.lookup,Sem.run_bind,run_underlying ht,Result.andThen_ok,vJ hw,Sem.run_pure,iy,Instr.findKey,run_underlying oV,h2,zeroValue,typeInfo,run_program,hi,hz]
    simp only [execOp,ho,hval,hkv,Sem.run_bind,hrun,Result.andThen_ok,Sem.run_pure]
   ·rw [h1] at he
    simp only [Option.some.injEq,Prod.mk.injEq] at he
    obtain ⟨rfl,rfl⟩:=he
    refine ⟨if ok then .tuple #[v,.bool true] else v,w,.inl ?_,zt R ?_⟩
    ·have hrun:(Instr.lookup t (.map (some b)) u ok).run C.P w=.ok (if ok then .tuple #[v,.bool true] else v) w:=by
      simp only [Instr.lookup,Sem.run_bind,run_underlying ht,Result.andThen_ok,vJ hw,Sem.run_pure,iy,Instr.findKey,run_underlying oV,h2]
     simp only [execOp,ho,hval,hkv,Sem.run_bind,hrun,Result.andThen_ok,Sem.run_pure]
    ·cases ok with
     | true=>exact .tuple [x,.ap (.bool true)] [v,.bool true] rfl (fun j c v' hj hj'=>by
      rcases j with _ | _ | j
      ·simp at hj hj';subst hj;subst hj';exact h3
      ·simp at hj hj';subst hj;subst hj';exact .ap _ _ (.bool _)
      ·simp at hj)
     | false=>exact h3
  ·cases he
 ·cases he
theorem MQ {k:IV} {u:Value} (hk:IV.key k=some u) (n:Nat):Instr.sameBits n u u=true:=by
 cases k<;>simp [IV.key] at hk<;>subst hk<;>simp [Instr.sameBits,Fq]
theorem JU {o:Oper} {str:Bool} {t kt et:TypeId} {m k v:Operand} {d:TypeDesc} (ho:o.op=.mapUpdate t m k v)
  (ht:C.P.underlying t=some (.map kt et)) (oV:C.P.underlying kt=some d) (hd:Za str d) :
  aP C o (.upd str (C.bl m) (C.bl k) (C.bl v)):=by
 intro g h N w id ev val r aN R hid hv he
 have hm:=hv m (by simp [ho,Op.operands])
 have hk:=hv k (by simp [ho,Op.operands])
 have hx:=KG (hv v (by simp [ho,Op.operands]))
 simp only [ai] at he
 split at he
 ·rename_i i kv e1 e2
  rw [e1] at hm
  rw [e2] at hk
  split at he
  ·rename_i es cN
   split at he
   ·rename_i bJ
    simp only [uF] at bJ
    obtain ⟨eX,eY⟩:=bJ
    obtain ⟨u,hu⟩:=KF eX
    have hkv:=Fp hu hk
    simp only [Option.some.injEq,Prod.mk.injEq] at he
    obtain ⟨rfl,rfl⟩:=he
    cases hm with
    | map _ _ hni hone hp=>
     obtain ⟨b,hb,hval⟩:=hp es cN
     obtain ⟨gO,cF,clock,hw,hl,hr⟩:=R.obj i b _ hb cN
     have iy:=fun bb=>JT (P:=C.P) oV hd w bb u 9999
     have close:∀ (nD:Array MapEntry) (clock':Nat),nD.size=(qH kv (xJ (ev (C.bl v))) es).length →
       (∀ (i:Nat) (k':IV) (x:AV),(qH kv (xJ (ev (C.bl v))) es)[i]?=some (k',x)→∃ e,nD[i]?=some e∧IV.key k'=some e.key∧RV C g h N w x e.val) →
       Good C g h N w id .undef [(i,.map (qH kv (xJ (ev (C.bl v))) es))] undef (zA w b (.map nD clock')):=fun nD clock' hl' hr'=>by
      have E:bV g h N w g (bA [(i,.map (qH kv (xJ (ev (C.bl v))) es))] h) (qj N id) (zA w b (.map nD clock')):=
       X1 R hb gO (.map es) _ cN _ trivial fun c e hc=>by rw [hw] at hc;cases hc
      refine ⟨g,E,VB R hb _ _ (fun _ _=>by simp) E ?_,.undef⟩
      refine ⟨gO,nD,clock',by rw [zG w b _ (qb hw)];simp,hl',fun i k' x hi => ?_⟩
      obtain ⟨e,h1,h2,h3⟩:=hr' i k' x hi
      exact ⟨e,h1,h2,h3.mono E⟩
     have hfind:=JS (C:=C) (g:=g) (h:=h) (N:=N) (w:=w) hd hu eX es cF.toList 0 (by simpa using hl) (fun i k' x hi=>by obtain ⟨e,h1,h2⟩:=hr i k' x hi;exact ⟨e,by simpa using h1,h2⟩) eY
     rcases hfind with ⟨h1,h2⟩ | ⟨x,j,y,h1,h2,h3,h4,⟨e0,h5,MR⟩,h6⟩
     ·have iQ:=MO h1 eY (xJ (ev (C.bl v)))
      refine ⟨undef,zA w b (.map (cF.push {key:=u,val:=val v,born:=clock}) (clock+1)),.inr ⟨?_,rfl⟩,close _ _ (by rw [iQ];simp [hl]) (fun i k' x hi => ?_)⟩
      ·have hrun:(Instr.mapUpdate t (.map (some b)) u (val v)).run C.P w=.ok () (zA w b (.map (cF.push {key:=u,val:=val v,born:=clock}) (clock+1))):=by
        simp only [Instr.mapUpdate,Sem.run_bind,run_underlying ht,Result.andThen_ok,vJ hw,Sem.run_pure,iy,Instr.findKey,run_underlying oV,h2,VC hw]
       simp only [execOp,ho,hval,hkv,Sem.run_bind,hrun,Result.andThen_ok,Sem.run_pure]
      ·rw [iQ,uk] at hi
       split at hi
       ·rename_i hlt
        obtain ⟨e,h7,h8⟩:=hr i k' x hi
        exact ⟨e,by rw [uV,if_neg (by omega)];exact h7,h8⟩
       ·rename_i hge
        have CN:i - es.length=0:=by
         have:=(ua.1 hi).1
         simp at this;omega
        rw [CN] at hi
        simp at hi
        obtain ⟨rfl,rfl⟩:=hi
        exact ⟨_,by rw [uV,if_pos (by omega)],hu,hx⟩
     ·have iQ:=h6 (xJ (ev (C.bl v)))
      simp only [uy] at h2
      have Ft:cF[j]?=some e0:=by simpa using h5
      refine ⟨undef,zA w b (.map (cF.modify j fun e=>{e with key:=u,val:=val v}) clock),.inr ⟨?_,rfl⟩,close _ _ (by rw [iQ];simp [hl]) (fun i k' x hi => ?_)⟩
      ·have hrun:(Instr.mapUpdate t (.map (some b)) u (val v)).run C.P w=.ok () (zA w b (.map (cF.modify j fun e=>{e with key:=u,val:=val v}) clock)):=by
        simp only [Instr.mapUpdate,Sem.run_bind,run_underlying ht,Result.andThen_ok,vJ hw,Sem.run_pure,iy,Instr.findKey,run_underlying oV,h2,Instr.keyThatStays,Ft,uH,Option.getD_some,MR,MQ hu,if_true,VC hw]
       simp only [execOp,ho,hval,hkv,Sem.run_bind,hrun,Result.andThen_ok,Sem.run_pure]
      ·rw [iQ,List.getElem?_set] at hi
       rw [Array.getElem?_modify]
       split at hi
       ·rename_i e3
        subst e3
        cases hi
        rw [if_pos rfl,Ft]
        exact ⟨_,rfl,hu,hx⟩
       ·rename_i e3
        rw [if_neg e3]
        exact hr i k' x hi
   ·cases he
  ·cases he
 ·cases he
end
end
section
section
variable {C:Ctx} {g g':Gh} {h h':Nat→Option aD} {N N':Nat→Prop} {w w':World} {id:Nat}
theorem yf {Z:Nat→Nat} {a:Addr} {cap:Nat}:RI Z w (.slice []) (.slice (some a) 0 cap):=.empty a cap
theorem YU {x:AV} {v:Value} {y:IV} (hx:jm x=some y) (hv:RV C g h N w x v):RI g.Z w y v:=by
 cases hv with
 | ap z _ hr=>simp [jm] at hx;subst hx;exact hr
 | nil=>simp [jm] at hx;subst hx;exact .nil
 | cr a cap=>simp [jm] at hx;subst hx;exact yf
 | aS i af _ hr _ _=>simp [jm] at hx;subst hx;exact hr
 | _=>simp [jm] at hx
theorem JV (R:RH C g h N w) {x:AV} {v:Value} {new:List (List IV)} {sz:Nat} (hx:xI h x=some new) (hv:RV C g h N w x v) (hsz:∀ row∈new,row.length=sz) :
  ∃ a cap,v=.slice a new.length cap∧∃ news:List Value,news.length=new.length*sz∧(∀ u∈news,u.oneCell'=true) ∧
   (∀ (i:Nat) (row:List IV) (j:Nat) (c:IV),new[i]?=some row→row[j]?=some c→∃ u,news[i*sz+j]?=some u∧RI g.Z w c u) ∧
   ∀ (P:Program) (w1:World),w1.heap=w.heap→(Builtin.firstCells sz new.length v).run P w1=.ok news.toArray w1:=by
 have iR:∀ (af:List (List IV)),af=new→RI g.Z w (.slice af) v→∃ a cap,v=.slice a new.length cap∧∃ news:List Value,news.length=new.length*sz∧(∀ u∈news,u.oneCell'=true) ∧
   (∀ (i:Nat) (row:List IV) (j:Nat) (c:IV),new[i]?=some row→row[j]?=some c→∃ u,news[i*sz+j]?=some u∧RI g.Z w c u) ∧
   ∀ (P:Program) (w1:World),w1.heap=w.heap→(Builtin.firstCells sz new.length v).run P w1=.ok news.toArray w1:=fun af oW gq=>by
  subst oW
  rcases Q1 gq with ⟨rfl,hval⟩ | ⟨b,off,cap,sz',cv,hval,hcap,CO,hz,hc,hr⟩
  ·rcases hval with hval | ⟨aa,cap,hval⟩
   ·exact ⟨none,0,hval,[],by simp,by simp,fun i row j c hi=>by simp at hi,fun P w1 _=>by rw [hval];simp [Builtin.firstCells]⟩
   ·exact ⟨some aa,cap,hval,[],by simp,by simp,fun i row j c hi=>by simp at hi,fun P w1 _=>by rw [hval];simp only [Builtin.firstCells,uu,u0];exact (run_loadCells w1 _ _ (fun _=>undef) (fun k hk=>by simp at hk))⟩
  ·refine ⟨_,cap,hval,(uB (af.length*sz)).map (fun k=>cv (k / sz) (k % sz)),by simp,fun u hu => ?_,fun i row j c hi hj => ?_,fun P w1 hw1 => ?_⟩
   ·simp only [Uc,List.mem_range] at hu
    obtain ⟨k,hk,rfl⟩:=hu
    have hpos:0 < sz:=uC fun e=>by subst e;simp at hk
    have hi:k / sz < af.length:=un (by rw [uj];exact hk)
    have hrow:=hsz (af[k / sz]) (uG hi)
    have hj:k % sz < (af[k / sz]).length:=by rw [hrow];exact uQ _ hpos
    exact (hc (k / sz) _ (k % sz) ((af[k / sz])[k % sz]) (ub hi) (ub hj)).2
   ·have hrow:=hsz row (ue hi)
    have hj':j < sz:=by rw [←hrow];exact (ua.1 hj).1
    have hi':i < af.length:=(ua.1 hi).1
    have hb:(i+1)*sz≤af.length*sz:=ud _ hi'
    rw [ug] at hb
    have hlt:i*sz+j < af.length*sz:=by omega
    have hdiv:(i*sz+j) / sz=i:=by rw [uj,Nat.mul_add_div (by omega),Nat.div_eq_of_lt hj'];simp
    have hmod:(i*sz+j) % sz=j:=by rw [uj,Nat.mul_add_mod,Nat.mod_eq_of_lt hj']
    refine ⟨cv i j,by simp [hlt,hdiv,hmod],hr i row j c hi hj⟩
   ·rw [hval]
    simp only [Builtin.firstCells]
    refine run_loadCells w1 _ _ _ fun k hk => ?_
    have hpos:0 < sz:=uC fun e=>by subst e;simp at hk
    have hi:k / sz < af.length:=un (by rw [uj];exact hk)
    have hrow:=hsz (af[k / sz]) (uG hi)
    have hj:k % sz < (af[k / sz]).length:=by rw [hrow];exact uQ _ hpos
    have CH:sz'=sz:=(CO (k / sz) _ (ub hi)).symm.trans hrow
    subst CH
    have:=(hc (k / sz') _ (k % sz') ((af[k / sz'])[k % sz']) (ub hi) (ub hj)).1
    rw [qP]
    rw [←this]
    have e2:off+k=off+k / sz'*sz'+k % sz':=by have:=uI k sz';rw [uj] at this;omega
    rw [e2]
    simp only [World.cell?,hw1]
 unfold xI at hx
 split at hx
 ·cases hx
  cases hv with
  | ap _ _ hr=>exact iR _ rfl hr
 ·cases hx
  cases hv with
  | aS _ _ _ hr _ _=>exact iR _ rfl hr
 ·cases hx
  have:=xg hv
  subst this
  exact iR [] rfl .nil
 ·cases hx
  cases hv with
  | cr a cap=>exact iR [] rfl yf
 ·rename_i i off len
  split at hx
  ·rename_i mh af cN
   split at hx
   ·rename_i hle
    obtain ⟨hl,cZ⟩:=qi hx
    have lM:((af.drop off).take len).length=len:=by simp;omega
    cases hv with
    | Zaj _ _ _ _ hni hone hp=>
     obtain ⟨h1,h2⟩:=hp _ _ cN
     rcases h2 with ⟨hn,hr,hval⟩ | ⟨b,cap,c,e,hb,hval,fL,hw,hcap⟩
     ·subst hr
      have h0:len=0:=by simp at h1;omega
      have hnew:new=[]:=ui (by rw [hl];simp)
      subst hnew
      exact ⟨none,0,hval,[],by simp,by simp,fun i row j c hi=>by simp at hi,fun P w1 _=>by rw [hval];simp [Builtin.firstCells]⟩
     ·obtain ⟨hz,c',e',ic,hlen,hcells⟩:=R.obj i b _ hb cN
      have lB:new.length=len:=by rw [hl,lM]
      have cellAt:∀ (i':Nat) (row:List IV) (j:Nat) (x:IV),new[i']?=some row→row[j]?=some x→∃ u,c'[(off+i')*sz+j]?=some u∧u.oneCell'=true∧RI g.Z w x u∧mh=sz:=fun i' row j x hi hj=>by
       have hi':i' < len:=by rw [←lB];exact (ua.1 hi).1
       have gG:((af.drop off).take len)[i']?=some (af[off+i']'(by omega)):=by
        rw [uN hi',uq];simp
       obtain ⟨row',ct,cz⟩:=cZ i' _ gG
       rw [hi] at ct
       cases ct
       obtain ⟨rf,n6⟩:=qi cz
       have hj':j < (af[off+i']'(by omega)).length:=by rw [←rf];exact (ua.1 hj).1
       obtain ⟨x',hx1,hx2⟩:=n6 j ((af[off+i']'(by omega))[j]) (by simp [hj'])
       rw [hj] at hx1
       cases hx1
       have hrow:af[off+i']?=some (af[off+i']'(by omega)):=by simp
       obtain ⟨cv,h3,h4,h5⟩:=hcells (off+i') _ j _ hrow (ub hj')
       have hs0:mh=sz:=by
        have a1:=hlen (off+i') _ hrow
        have a2:=hsz row (ue hi)
        omega
       subst hs0
       exact ⟨cv,h3,h4,YU hx2 h5,rfl⟩
      have nE:∀ k,k < len*sz→∃ u,c'[off*sz+k]?=some u∧u.oneCell'=true∧mh=sz:=fun k hk=>by
       have hpos:0 < sz:=uC fun e=>by subst e;simp at hk
       have hi:k / sz < new.length:=by rw [lB];exact un (by rw [uj];exact hk)
       have hrow:=hsz (new[k / sz]) (uG hi)
       have hj:k % sz < (new[k / sz]).length:=by rw [hrow];exact uQ _ hpos
       obtain ⟨u,h3,h4,h5,h6⟩:=cellAt (k / sz) _ (k % sz) ((new[k / sz])[k % sz]) (ub hi) (ub hj)
       refine ⟨u,?_,h4,h6⟩
       rw [←h3]
       congr 1
       have:=uI k sz
       rw [ug,uj (k / sz) sz]
       omega
      obtain ⟨news,hn1,hn2⟩:=yF (uB (len*sz)) (fun _ k u=>c'[off*sz+k]?=some u∧u.oneCell'=true) (fun j k hj=>by
       obtain ⟨fe,hj2⟩:=ua.1 hj
       simp at fe hj2
       subst hj2
       obtain ⟨u,a1,a2,_⟩:=nE j fe
       exact ⟨u,a1,a2⟩)
      have mB:news.length=len*sz:=by simpa using hn1
      have gP:∀ k u,news[k]?=some u→c'[off*sz+k]?=some u∧u.oneCell'=true:=fun k u hk=>by
       have hlt:k < len*sz:=by rw [←mB];exact (ua.1 hk).1
       exact hn2 k k u (by simp [hlt]) hk
      refine ⟨_,cap,by rw [lB];exact hval,news,by rw [lB];exact mB,fun u hu => ?_,fun i' row j x hi hj => ?_,fun P w1 hw1 => ?_⟩
      ·obtain ⟨k,hk⟩:=uo hu
       exact (gP k u hk).2
      ·obtain ⟨u,h3,h4,h5,h6⟩:=cellAt i' row j x hi hj
       have hi':i' < len:=by rw [←lB];exact (ua.1 hi).1
       have hj':j < sz:=by rw [←hsz row (ue hi)];exact (ua.1 hj).1
       have mC:(i'+1)*sz≤len*sz:=ud _ hi'
       rw [ug] at mC
       have hlt:i'*sz+j < news.length:=by omega
       refine ⟨u,?_,h5⟩
       have:=(gP (i'*sz+j) news[i'*sz+j] (by simp [hlt])).1
       rw [ub hlt]
       rw [show off*sz+(i'*sz+j)=(off+i')*sz+j by rw [ug];omega,h3] at this
       exact this.symm
      ·rw [hval,lB]
       simp only [Builtin.firstCells]
       rw [←mB]
       have hs0:off*mh=off*sz∨len*sz=0:=by
        rcases uX (len*sz) with h0 | h0
        ·exact .inr h0
        ·obtain ⟨_,_,_,h6⟩:=nE 0 h0;exact .inl (by rw [h6])
       have:=run_loadCells_list (P:=P) w1 ⟨b,off*mh,none⟩ news (fun k u hk=>by
        rw [qP]
        have hlt:k < news.length:=(ua.1 hk).1
        have:w1.heap[b]?=some (.cells c' e' (0,0)):=by rw [hw1];exact ic
        rw [qF this]
        rcases hs0 with h7 | h7
        ·rw [h7];exact (gP k u hk).1
        ·omega)
       exact this
   ·cases hx
  ·cases hx
 ·cases hx
theorem VF (R:RH C g h N w) {x:AV} {v:Value} {new:List (List AV)} {sz:Nat} (hx:jP h x=some new) (hv:RV C g h N w x v) (hsz:∀ row∈new,row.length=sz) :
  ∃ a cap,v=.slice a new.length cap∧∃ news:List Value,news.length=new.length*sz∧(∀ u∈news,u.oneCell'=true) ∧
   (∀ (i:Nat) (row:List AV) (j:Nat) (c:AV),new[i]?=some row→row[j]?=some c→∃ u,news[i*sz+j]?=some u∧RV C g h N w c u) ∧
   ∀ (P:Program) (w1:World),w1.heap=w.heap→(Builtin.firstCells sz new.length v).run P w1=.ok news.toArray w1:=by
 unfold jP at hx
 split at hx
 ·rename_i i off len
  split at hx
  ·rename_i mh af cN
   split at hx
   ·rename_i hle
    have lM:((af.drop off).take len).length=len:=by simp;omega
    cases hx
    cases hv with
    | Zaj _ _ _ _ hni hone hp=>
     obtain ⟨h1,h2⟩:=hp _ _ cN
     rcases h2 with ⟨hn,hr,hval⟩ | ⟨b,cap,c,e,hb,hval,fL,hw,hcap⟩
     ·subst hr
      have h0:len=0:=by simp at h1;omega
      subst h0
      simp only [List.take_zero]
      exact ⟨none,0,hval,[],by simp,by simp,fun i row j c hi=>by simp at hi,fun P w1 _=>by rw [hval];simp [Builtin.firstCells]⟩
     ·obtain ⟨hz,c',e',ic,hlen,hcells⟩:=R.obj i b _ hb cN
      have lB:((af.drop off).take len).length=len:=lM
      generalize hnd:(af.drop off).take len=new at hsz lB ⊢
      have cellAt:∀ (i':Nat) (row:List AV) (j:Nat) (x:AV),new[i']?=some row→row[j]?=some x→∃ u,c'[(off+i')*sz+j]?=some u∧u.oneCell'=true∧RV C g h N w x u∧mh=sz:=fun i' row j x hi hj=>by
       have hi':i' < len:=by rw [←lB];exact (ua.1 hi).1
       have hrow:af[off+i']?=some row:=by
        rw [←hnd,uN hi',uq] at hi
        exact hi
       obtain ⟨cv,h3,h4,h5⟩:=hcells (off+i') _ j _ hrow hj
       have hs0:mh=sz:=by
        have a1:=hlen (off+i') _ hrow
        have a2:=hsz row (ue hi)
        omega
       subst hs0
       exact ⟨cv,h3,h4,h5,rfl⟩
      have nE:∀ k,k < len*sz→∃ u,c'[off*sz+k]?=some u∧u.oneCell'=true∧mh=sz:=fun k hk=>by
       have hpos:0 < sz:=uC fun e=>by subst e;simp at hk
       have hi:k / sz < new.length:=by rw [lB];exact un (by rw [uj];exact hk)
       have hrow:=hsz (new[k / sz]) (uG hi)
       have hj:k % sz < (new[k / sz]).length:=by rw [hrow];exact uQ _ hpos
       obtain ⟨u,h3,h4,h5,h6⟩:=cellAt (k / sz) _ (k % sz) ((new[k / sz])[k % sz]) (ub hi) (ub hj)
       refine ⟨u,?_,h4,h6⟩
       rw [←h3]
       congr 1
       have:=uI k sz
       rw [ug,uj (k / sz) sz]
       omega
      obtain ⟨news,hn1,hn2⟩:=yF (uB (len*sz)) (fun _ k u=>c'[off*sz+k]?=some u∧u.oneCell'=true) (fun j k hj=>by
       obtain ⟨fe,hj2⟩:=ua.1 hj
       simp at fe hj2
       subst hj2
       obtain ⟨u,a1,a2,_⟩:=nE j fe
       exact ⟨u,a1,a2⟩)
      have mB:news.length=len*sz:=by simpa using hn1
      have gP:∀ k u,news[k]?=some u→c'[off*sz+k]?=some u∧u.oneCell'=true:=fun k u hk=>by
       have hlt:k < len*sz:=by rw [←mB];exact (ua.1 hk).1
       exact hn2 k k u (by simp [hlt]) hk
      refine ⟨_,cap,by rw [lB];exact hval,news,by rw [lB];exact mB,fun u hu => ?_,fun i' row j x hi hj => ?_,fun P w1 hw1 => ?_⟩
      ·obtain ⟨k,hk⟩:=uo hu
       exact (gP k u hk).2
      ·obtain ⟨u,h3,h4,h5,h6⟩:=cellAt i' row j x hi hj
       have hi':i' < len:=by rw [←lB];exact (ua.1 hi).1
       have hj':j < sz:=by rw [←hsz row (ue hi)];exact (ua.1 hj).1
       have mC:(i'+1)*sz≤len*sz:=ud _ hi'
       rw [ug] at mC
       have hlt:i'*sz+j < news.length:=by omega
       refine ⟨u,?_,h5⟩
       have:=(gP (i'*sz+j) news[i'*sz+j] (by simp [hlt])).1
       rw [ub hlt]
       rw [show off*sz+(i'*sz+j)=(off+i')*sz+j by rw [ug];omega,h3] at this
       exact this.symm
      ·rw [hval,lB]
       simp only [Builtin.firstCells]
       rw [←mB]
       have hs0:off*mh=off*sz∨len*sz=0:=by
        rcases uX (len*sz) with h0 | h0
        ·exact .inr h0
        ·obtain ⟨_,_,_,h6⟩:=nE 0 h0;exact .inl (by rw [h6])
       have:=run_loadCells_list (P:=P) w1 ⟨b,off*mh,none⟩ news (fun k u hk=>by
        rw [qP]
        have hlt:k < news.length:=(ua.1 hk).1
        have:w1.heap[b]?=some (.cells c' e' (0,0)):=by rw [hw1];exact ic
        rw [qF this]
        rcases hs0 with h7 | h7
        ·rw [h7];exact (gP k u hk).1
        ·omega)
       exact this
   ·cases hx
  ·cases hx
 ·rw [uh] at hx
  obtain ⟨af,hrows,rfl⟩:=hx
  obtain ⟨a,cap,h1,news,h2,h3,h4,h5⟩:=JV (sz:=sz) R hrows hv (fun row hr=>by
   have:=hsz (row.map .ap) (Uc.2 ⟨row,hr,rfl⟩)
   simpa using this)
  refine ⟨a,cap,by simpa using h1,news,by simpa using h2,h3,fun i row j c hi hj => ?_,fun P w1 hw1=>by simpa using h5 P w1 hw1⟩
  simp only [um,uh] at hi
  obtain ⟨Aq,CN,rfl⟩:=hi
  simp only [um,uh] at hj
  obtain ⟨c0,hj0,rfl⟩:=hj
  obtain ⟨u,h6,h7⟩:=h4 i Aq j c0 CN hj0
  exact ⟨u,h6,.ap _ _ h7⟩
end
end
section
section
variable {C:Ctx} {g g':Gh} {h h':Nat→Option aD} {N N':Nat→Prop} {w w':World} {id:Nat}
def Src (P:Program) (w:World) (sz m:Nat) (v:Value) (news:List Value):Prop:=
 (∃ a cap,v=.slice a m cap)∧news.length=m*sz∧(∀ u∈news,u.oneCell'=true)∧∀ w1:World,w1.heap=w.heap→(Builtin.firstCells sz m v).run P w1=.ok news.toArray w1
theorem JW {P:Program} {t t' ty e:TypeId} {i:TypeInfo} {d:TypeDesc} (ht:P.underlying t=some (.slice e)) (hi:P.info? e=some i) (ht':P.underlying t'=some d) (hd:∀ k,d≠.int k)
  {b L cap m:Nat} {c:Array Value} {e':TypeId} (hb:w.heap[b]?=some (.cells c e' (0,0))) {v:Value} {news:List Value} (hs:Src P w i.size m v news)
  (hroom:L+m≤cap) (hfit:L*i.size+news.length≤c.size) :
  (Builtin.append_ #[t,t'] ty #[.slice (some ⟨b,0,none⟩) L cap,v]).run P w=.ok (.slice (some ⟨b,0,none⟩) (L+m) cap) (zA w b (.cells (qq c (L*i.size) news) e' (0,0))):=by
 obtain ⟨⟨a,cp,rfl⟩,h1,h2,h3⟩:=hs
 have hst:=ye (P:=P) news w b (L*i.size) 0 c e' hb h2 (by omega)
 simp only [Ud] at hst
 have hz:(match d with | .int _=>true | _=>false)=false:=by cases d<;>first | rfl | exact absurd rfl (hd _)
 simp [Builtin.append_,run_underlying ht,sizeOf,typeInfo,hi,Builtin.lenOf,run_underlying ht',hz,hroom,h3 w rfl,qP,hst]
theorem Zo {P:Program} {t t' ty e:TypeId} {i:TypeInfo} {d:TypeDesc} (ht:P.underlying t=some (.slice e)) (hi:P.info? e=some i) (ht':P.underlying t'=some d) (hd:∀ k,d≠.int k)
  {v:Value} {news:List Value} (hs:Src P w i.size 0 v news) :
  (Builtin.append_ #[t,t'] ty #[.slice none 0 0,v]).run P w=.ok (.slice none 0 0) w:=by
 obtain ⟨⟨a,cp,rfl⟩,h1,h2,h3⟩:=hs
 have hz:(match d with | .int _=>true | _=>false)=false:=by cases d<;>first | rfl | exact absurd rfl (hd _)
 simp [Builtin.append_,run_underlying ht,sizeOf,typeInfo,hi,Builtin.lenOf,run_underlying ht',hz,h3 w rfl]
theorem Zp {P:Program} {t t' ty e:TypeId} {i:TypeInfo} {d:TypeDesc} {z:Value} (ht:P.underlying t=some (.slice e)) (hi:P.info? e=some i) (gO:i.zero=some z) (ht':P.underlying t'=some d) (hd:∀ k,d≠.int k)
  {s:Value} {L cap m:Nat} {base:Option Addr} (lC:s=.slice base L cap) {olds:List Value} (hold:Src P w i.size L s olds)
  {v:Value} {news:List Value} (hs:Src P w i.size m v news) (hroom:cap < L+m) (hby:0 < i.bytes) (hbytes:(L+m)*i.bytes≤140737488355328) :
  ∃ cJ rest,L+m≤cJ∧rest.size=(cJ - (L+m))*z.cells.size∧(Builtin.append_ #[t,t'] ty #[s,v]).run P w=.ok (.slice (some ⟨w.heap.size,0,none⟩) (L+m) cJ) (w.drew.alloc (.cells ((olds++news).toArray++rest) e (0,0))):=by
 subst lC
 obtain ⟨⟨a,cp,rfl⟩,h1,h2,h3⟩:=hs
 obtain ⟨_,g1,g2,g3⟩:=hold
 have hz:(match d with | .int _=>true | _=>false)=false:=by cases d<;>first | rfl | exact absurd rfl (hd _)
 have Fu:=growslice_fits hroom hbytes
 refine ⟨(Question.appendCap (L+m) cap e).cut (w.tape w.drawn (.appendCap (L+m) cap e)),Builtin.zeroCells z.cells ((Question.appendCap (L+m) cap e).cut (w.tape w.drawn (.appendCap (L+m) cap e)) - (L+m)),by simp [Question.cut],by simp [Builtin.zeroCells],?_⟩
 have hb0:¬ i.bytes=0:=by omega
 simp [Builtin.append_,run_underlying ht,sizeOf,typeInfo,hi,Builtin.lenOf,run_underlying ht',hz,show ¬ L+m≤cap by omega,hb0,show ¬ 281474976710656 < Builtin.nextslicecap (L+m) cap*i.bytes by omega,Question.forced,h3 w.drew rfl,g3 w.drew rfl,zeroValue,gO,newRow]
 congr 2
 apply Ue
 simp [List.append_assoc]
theorem bV.drew (g:Gh) (h:Nat→Option aD) (N:Nat→Prop) (w:World):bV g h N w g h N w.drew:=by
 have E:=bV.refl g h N w
 exact ⟨rfl,rfl,rfl,uc _,fun b hb ho=>⟨rfl,rfl⟩,E.own,E.bW,⟨fun _ _ _=>rfl,fun _ _ _ _ _=>rfl⟩,fun b c e hb=>⟨c,hb,rfl⟩,E.next,E.eu,E.cI,E.af,E.cR,E.maps,E.fJ⟩
theorem RH.drew (R:RH C g h N w):RH C g h N w.drew:=
 ⟨R.inj,R.lt,R.key,fun i b o hb ho=>(R.obj i b o hb ho).keep (bV.drew g h N w) rfl rfl,R.cQ,R.dX,R.fix.eN (bV.drew g h N w)⟩
theorem JX (R:RH C g h N w) (hid:¬ N id) (sz:Nat):Good C g h N w id (.aS id []) [(id,.aU sz 0)] (.slice none 0 0) w:=by
 have ne:∀ i,N i→id≠i:=fun i hi e=>hid (e ▸ hi)
 have E:bV g h N w g (bA [(id,.aU sz 0)] h) (qj N id) w:=
  ⟨rfl,rfl,rfl,uc _,fun _ _ _=>⟨rfl,rfl⟩,fun _ h=>.inl h,fun _=>uc _,⟨fun _ _ _=>rfl,fun _ _ _ _ _=>rfl⟩,fun b c e hb=>⟨c,hb,rfl⟩,fun _ h=>.inl h,fun i b hb _ _ _ _=>.inl hb,fun i hb _ _ _ _=>.inl hb,
   fun i hi s r ho=>⟨r,by simp only [bA] at ho;rwa [if_neg (ne i hi)] at ho,rfl⟩,fun i hi s r ho=>⟨r,by simp only [bA] at ho;rwa [if_neg (ne i hi)] at ho,uc _⟩,
   fun i hi r ho=>⟨r,by simp only [bA] at ho;rwa [if_neg (ne i hi)] at ho⟩,
   fun i hi l R s pe ho=>⟨s,pe,by simp only [bA] at ho;rwa [if_neg (ne i hi)] at ho⟩⟩
 have hn:=R.lJ hid
 refine ⟨g,E,⟨R.inj,fun i b hb=>⟨(R.lt i b hb).1,.inl (R.lt i b hb).2⟩,fun i o ho => ?_,fun i b o hb ho => ?_,fun i s l ho hr => ?_,R.dX,R.fix.eN E⟩,?_⟩
 ·simp only [bA] at ho
  split at ho
  ·rename_i e;exact .inr e.symm
  ·exact .inl (R.key i o ho)
 ·simp only [bA] at ho
  split at ho
  ·rename_i e;subst e;rw [hn] at hb;cases hb
  ·exact (R.obj i b o hb ho).keep E rfl rfl
 ·simp only [bA] at ho
  split at ho
  ·cases ho;rfl
  ·exact R.cQ i s l ho hr
 ·refine .aS id [] _ .nil (.inr rfl) fun s l ho => ?_
  simp only [bA,if_pos] at ho
  cases ho
  exact ⟨uc _,fun i row hi=>by simp at hi,fun _=>.inl ⟨hn,rfl⟩⟩
theorem MS (R:RH C g h N w) {i sz L:Nat} (hi:h i=some (.aU sz L)) {af:List (List IV)} {v:Value} (hv:RV C g h N w (.aS i af) v) :
  Good C g h N w id (.aS i af) [(i,.aU sz L)] v w:=by
 have e:bA [(i,.aU sz L)] h=h:=by
  funext j
  simp only [bA]
  split
  ·rename_i e;subst e;exact hi.symm
  ·rfl
 obtain ⟨g',h1,h2,h3⟩:=zt (id:=id) R hv
 refine ⟨g',?_⟩
 rw [e]
 exact ⟨h1,h2,h3⟩
theorem Fv {Z:Nat→Nat} {w':World} {b sz cJ:Nat} {af new:List (List IV)} {c:Array Value} {e:TypeId} {vals:List Value}
  (hw:w'.heap[b]?=some (.cells c e (0,0))) (hz:(af++new).length*sz≤Z b) (hcap:(af++new).length≤cJ)
  (hsz:∀ row∈af++new,row.length=sz)
  (hc:∀ (k:Nat) (u:Value),vals[k]?=some u→c[k]?=some u) (h1:∀ u∈vals,u.oneCell'=true)
  (hr:∀ (i:Nat) (row:List IV) (j:Nat) (x:IV),(af++new)[i]?=some row→row[j]?=some x→∃ u,vals[i*sz+j]?=some u∧RI Z w' x u) :
  RI Z w' (.slice (af++new)) (.slice (some ⟨b,0,none⟩) (af++new).length cJ):=by
 refine .slice (af++new) b 0 cJ sz (fun i j=>vals.getD (i*sz+j) undef) hcap (fun i row hi=>hsz row (ue hi)) (fun i row j x hi hj => ?_) (fun i row j x hi hj => ?_) (fun i row j x hi hj => ?_)
 ·have hi':i < (af++new).length:=(ua.1 hi).1
  have hj':j < sz:=by rw [←hsz row (ue hi)];exact (ua.1 hj).1
  have hb:(i+1)*sz≤(af++new).length*sz:=ud _ hi'
  rw [ug] at hb
  omega
 ·obtain ⟨u,h2,h3⟩:=hr i row j x hi hj
  have:vals.getD (i*sz+j) undef=u:=by simp [Ub,h2]
  rw [this,qF hw,uy]
  exact ⟨hc _ u h2,h1 u (ue h2)⟩
 ·obtain ⟨u,h2,h3⟩:=hr i row j x hi hj
  have:vals.getD (i*sz+j) undef=u:=by simp [Ub,h2]
  rw [this]
  exact h3
end
end
section
section
variable {C:Ctx} {g g':Gh} {h h':Nat→Option aD} {N N':Nat→Prop} {w w':World} {id:Nat}
theorem WF (R:RH C g h N w) {i sz L L':Nat} (hk:(¬ N i∧i=id)∨(h i=some (.aU sz L)∧L < L')) (o:Obj) (z:Nat) :
  bV g h N w (g.at i w.heap.size z) (bA [(i,.aU sz L')] h) (qj N id) (w.drew.alloc o):=by
 have hold:∀ j,N j→∀ ob,bA [(i,aD.aU sz L')] h j=some ob→(i≠j∧h j=some ob)∨(i=j∧ob=.aU sz L'∧h j=some (.aU sz L)∧L < L'):=fun j hj ob ho=>by
  simp only [bA] at ho
  split at ho
  ·rename_i e
   cases ho
   rcases hk with ⟨hn,_⟩ | ⟨h1,h2⟩
   ·exact absurd (e ▸ hj) hn
   ·exact .inr ⟨e,rfl,e ▸ h1,h2⟩
  ·rename_i e;exact .inl ⟨e,ho⟩
 exact {
  os:=rfl
  tape:=rfl
  output:=rfl
  size:=by simp
  old:=fun b hb ho=>⟨qz w.drew o hb,by simp only [Gh.at];rw [if_neg (by omega)]⟩
  own:=fun b ⟨j,hj⟩=>by
   simp only [Gh.at] at hj
   split at hj
   ·cases hj;exact .inr (uc _)
   ·exact .inl ⟨j,hj⟩
  bW:=fun b=>by
   simp only [Gh.at]
   split
   ·rename_i hb;subst hb;rw [R.mz];omega
   ·exact uc _
  cell:=iF.heap (w:=w) fun b hk=>qz w.drew o (R.dX b hk)
  shape:=fun b c e hb=>⟨c,(qz w.drew o (qb hb)).trans hb,rfl⟩
  next:=fun i hi=>.inl hi
  eu:=fun j b hb ob ho hnd hj=>by
   rcases hold j hj ob ho with ⟨h1,h2⟩ | ⟨h1,h2,h3,h4⟩
   ·exact .inl (by simp only [Gh.at];rw [if_neg (Ne.symm h1)];exact hb)
   ·exact .inr ⟨sz,L,sz,L',h3,h2,h4⟩
  cI:=fun j hb hj ob ho hnd=>by
   rcases hold j hj ob ho with ⟨h1,h2⟩ | ⟨h1,h2,h3,h4⟩
   ·exact .inl (by simp only [Gh.at];rw [if_neg (Ne.symm h1)];exact hb)
   ·exact .inr ⟨sz,L,sz,L',h3,h2,h4⟩
  af:=fun j hj s r ho=>by
   rcases hold j hj _ ho with ⟨h1,h2⟩ | ⟨h1,h2,h3,h4⟩
   ·exact ⟨r,h2,rfl⟩
   ·cases h2
  cR:=fun j hj s l ho=>by
   rcases hold j hj _ ho with ⟨h1,h2⟩ | ⟨h1,h2,h3,h4⟩
   ·exact ⟨l,h2,uc _⟩
   ·cases h2;exact ⟨L,h3,by omega⟩
  maps:=fun j hj es ho=>by
   rcases hold j hj _ ho with ⟨h1,h2⟩ | ⟨h1,h2,h3,h4⟩
   ·exact ⟨es,h2⟩
   ·cases h2
  fJ:=fun j hj ll RR s pe ho=>by
   rcases hold j hj _ ho with ⟨h1,h2⟩ | ⟨h1,h2,h3,h4⟩
   ·exact ⟨s,pe,h2⟩
   ·cases h2}
theorem MT (R:RH C g h N w) {i sz L L':Nat} (hk:(¬ N i∧i=id)∨(h i=some (.aU sz L)∧L < L')) (c:Array Value) (e:TypeId) (hc:L'*sz≤c.size) :
  RH C (g.at i w.heap.size (L'*sz)) (bA [(i,.aU sz L')] h) (qj N id) (w.drew.alloc (.cells c e (0,0))):=by
 have E:=WF (id:=id) R hk (.cells c e (0,0)) (L'*sz)
 have ec:qj N id i:=by
  rcases hk with ⟨_,h1⟩ | ⟨h1,_⟩
  ·exact .inr h1
  ·exact .inl (R.key i _ h1)
 refine ⟨fun j k b hj hk => ?_,fun j b hb => ?_,fun j o' ho' => ?_,fun j b o' hb ho' => ?_,fun j s l ht hn => ?_,fun b hb => ?_,R.fix.eN E⟩
 ·simp only [Gh.at] at hj hk
  split at hj<;>split at hk
  ·rename_i h1 h2;rw [h1,h2]
  ·cases hj;have:=(R.lt k _ hk).1;omega
  ·cases hk;have:=(R.lt j _ hj).1;omega
  ·exact R.inj j k b hj hk
 ·simp only [Gh.at] at hb
  split at hb
  ·rename_i hi;subst hi;cases hb;exact ⟨by simp,ec⟩
  ·have:=R.lt j b hb;exact ⟨by simp;omega,.inl this.2⟩
 ·simp only [bA] at ho'
  split at ho'
  ·rename_i hi;subst hi;exact ec
  ·exact .inl (R.key j o' ho')
 ·simp only [Gh.at] at hb
  simp only [bA] at ho'
  split at hb
  ·rename_i hi
   subst hi
   cases hb
   rw [if_pos rfl] at ho'
   cases ho'
   exact ⟨c,e,zW w.drew _,by simp [Gh.at],hc⟩
  ·rename_i hi
   rw [if_neg (fun e=>hi e.symm)] at ho'
   have hlt:=(R.lt j b hb).1
   exact (R.obj j b o' hb ho').keep E (qz w.drew _ hlt) (by simp only [Gh.at];rw [if_neg (by omega)])
 ·simp only [Gh.at] at hn
  simp only [bA] at ht
  split at hn
  ·cases hn
  ·rename_i hi
   rw [if_neg (fun e=>hi e.symm)] at ht
   exact R.cQ j s l ht hn
 ·simp only [Gh.at] at hb
  split at hb
  ·rename_i hh;subst hh;simp
  ·have:=R.dX b hb;simp;omega
theorem JY (R:RH C g h N w) {i b sz L L':Nat} (hi:h i=some (.aU sz L)) (hb:g.ρ i=some b) {c:Array Value} {e:TypeId} (hw:w.heap[b]?=some (.cells c e (0,0))) (hz:g.Z b=L*sz) (hL:L≤L')
  (news:List Value) (hfit:L*sz+news.length≤c.size) :
  bV g h N w (g.at i b (L'*sz)) (bA [(i,.aU sz L')] h) (qj N id) (zA w b (.cells (qq c (L*sz) news) e (0,0))):=by
 have hlt:=qb hw
 have dP:∀ j,(g.at i b (L'*sz)).ρ j=g.ρ j:=fun j=>by
  simp only [Gh.at]
  split
  ·rename_i e;subst e;exact hb.symm
  ·rfl
 exact {
  os:=rfl
  tape:=rfl
  output:=rfl
  size:=by rw [jc];exact uc _
  old:=fun k hk ho=>by
   have hne:k≠b:=fun e=>ho ⟨i,by rw [e];exact hb⟩
   exact ⟨by rw [zG w b _ hlt,if_neg hne],by simp only [Gh.at];rw [if_neg hne]⟩
  own:=fun k ⟨j,hj⟩=>.inl ⟨j,by rw [←dP];exact hj⟩
  bW:=fun k=>by
   simp only [Gh.at]
   split
   ·rename_i e;subst e;rw [hz];exact ud _ hL
   ·exact uc _
  cell:=⟨fun k o ho=>by
   by_cases e1:k=b
   ·subst e1
    rw [hz] at ho
    have:(zA w k (.cells (qq c (L*sz) news) e (0,0))).heap[k]?=some (.cells (qq c (L*sz) news) e (0,0)):=by rw [zG w k _ hlt];simp
    rw [qF this,qF hw,xQ c _ news hfit,if_neg (by omega)]
   ·refine JN ?_
    rw [zG w b _ hlt,if_neg e1],fun k cF clock _ hm=>by
   have e1:k≠b:=fun e1=>by rw [e1,hw] at hm;cases hm
   rw [zG w b _ hlt,if_neg e1]⟩
  shape:=fun k c' e' ic=>by
   by_cases e1:k=b
   ·subst e1
    rw [hw] at ic
    cases ic
    exact ⟨_,by rw [zG w k _ hlt,if_pos rfl],jQ _ _ _⟩
   ·exact ⟨c',by rw [zG w b _ hlt,if_neg e1];exact ic,rfl⟩
  next:=fun i hi=>.inl hi
  eu:=fun j b' hj _ _ _ _=>.inl (by rw [dP];exact hj)
  cI:=fun j hj _ _ _ _=>.inl (by rw [dP];exact hj)
  af:=fun j hj s r ho=>by
   simp only [bA] at ho
   split at ho
   ·cases ho
   ·exact ⟨r,ho,rfl⟩
  cR:=fun j hj s l ho=>by
   simp only [bA] at ho
   split at ho
   ·rename_i e1;subst e1;cases ho;exact ⟨L,hi,hL⟩
   ·exact ⟨l,ho,uc _⟩
  maps:=fun j hj es ho=>by
   simp only [bA] at ho
   split at ho
   ·cases ho
   ·exact ⟨es,ho⟩
  fJ:=fun j hj ll RR s pe ho=>by
   simp only [bA] at ho
   split at ho
   ·cases ho
   ·exact ⟨s,pe,ho⟩}
theorem MU (R:RH C g h N w) {i b sz L L':Nat} (hi:h i=some (.aU sz L)) (hb:g.ρ i=some b) {c:Array Value} {e:TypeId} (hw:w.heap[b]?=some (.cells c e (0,0))) (hz:g.Z b=L*sz) (hL:L≤L')
  (news:List Value) (hfit:L*sz+news.length≤c.size) (hcap:L'*sz≤c.size) :
  RH C (g.at i b (L'*sz)) (bA [(i,.aU sz L')] h) (qj N id) (zA w b (.cells (qq c (L*sz) news) e (0,0))):=by
 have E:=JY (id:=id) R hi hb hw hz hL news hfit
 have hlt:=qb hw
 have dP:∀ j,(g.at i b (L'*sz)).ρ j=g.ρ j:=fun j=>by
  simp only [Gh.at]
  split
  ·rename_i e;subst e;exact hb.symm
  ·rfl
 refine ⟨fun j k b' hj hk => ?_,fun j b' hb' => ?_,fun j o' ho' => ?_,fun j b' o' hb' ho' => ?_,fun j s l ht hn => ?_,fun k hk => ?_,R.fix.eN E⟩
 ·rw [dP] at hj hk;exact R.inj j k b' hj hk
 ·rw [dP] at hb'
  rw [jc]
  exact ⟨(R.lt j b' hb').1,.inl (R.lt j b' hb').2⟩
 ·simp only [bA] at ho'
  split at ho'
  ·rename_i e1;subst e1;exact .inl (R.key i _ hi)
  ·exact .inl (R.key j o' ho')
 ·rw [dP] at hb'
  simp only [bA] at ho'
  split at ho'
  ·rename_i e1
   subst e1
   cases ho'
   rw [hb] at hb'
   cases hb'
   exact ⟨qq c (L*sz) news,e,by rw [zG w b _ hlt];simp,by simp [Gh.at],by rw [jQ];exact hcap⟩
  ·rename_i e1
   have hne:b'≠b:=fun e2=>e1 (R.inj i j b hb (e2 ▸ hb'))
   exact (R.obj j b' o' hb' ho').keep E (by rw [zG w b _ hlt,if_neg hne]) (by simp only [Gh.at];rw [if_neg hne])
 ·rw [dP] at hn
  simp only [bA] at ht
  split at ht
  ·rename_i e1;subst e1;rw [hb] at hn;cases hn
  ·exact R.cQ j s l ht hn
 ·rw [jc]
  simp only [Gh.at] at hk
  split at hk
  ·rename_i e1;subst e1;exact hlt
  ·exact R.dX k hk
def MV (C:Ctx) (o:Oper) (sz bI:Nat) (s x:aZ):Prop:=
 ∀ (g:Gh) (h:Nat→Option aD) (N:Nat→Prop) (w:World) (id:Nat) (ev:aZ→AV) (val:Operand→Value) (r:AV) (aN:List (Nat×aD)),
  RH C g h N w→¬ N id→(∀ x∈o.op.operands,RV C g h N w (ev (C.bl x)) (val x))→JO sz bI (ev s) (ev x) h id=some (r,aN) →
  ∃ v w',pq C.P (execOp val o) w v w'∧Good C g h N w id r aN v w'
def MW (C:Ctx) (o:Oper) (sz bI:Nat) (s x:aZ):Prop:=
 ∀ (g:Gh) (h:Nat→Option aD) (N:Nat→Prop) (w:World) (id:Nat) (ev:aZ→AV) (val:Operand→Value) (r:AV) (aN:List (Nat×aD)),
  RH C g h N w→¬ N id→(∀ x∈o.op.operands,RV C g h N w (ev (C.bl x)) (val x))→QZ sz bI (ev s) (ev x) h id=some (r,aN) →
  ∃ v w',pq C.P (execOp val o) w v w'∧Good C g h N w id r aN v w'
theorem MX {o:Oper} {t t' e:TypeId} {d:TypeDesc} {s x:Operand} {sz bI:Nat} {z:List AV} (ho:o.op=.call {callee:=.builtin .append,args := #[s,x],argTypes := #[t,t']})
  (ht:C.P.underlying t=some (.slice e)) (ht':C.P.underlying t'=some d) (hd:∀ k,d≠.int k) (hsz:zz C.P e=some sz) (hby:xt C.P e=some bI) (hz:qE C.P e=some z)
  (h0:0 < sz) (hzl:z.length=sz) (mD:0 < bI):MV C o sz bI (C.bl s) (C.bl x):=by
 intro g h N w id ev val r aN R hid hv he
 have hs:=hv s (by simp [ho,Op.operands,Call.operands])
 have hx:=hv x (by simp [ho,Op.operands,Call.operands])
 obtain ⟨i,zv,hi,iP,rfl⟩:=jR hz
 have hzs:zv.cells.size=sz:=by simpa using hzl
 have hsize:i.size=sz:=by simpa [zz,hi] using hsz
 have hbytes:i.bytes=bI:=by simpa [xt,hi] using hby
 subst hsize
 subst hbytes
 have exec:∀ v' w',(Builtin.append_ #[t,t'] o.type #[val s,val x]).run C.P w=.ok v' w'→pq C.P (execOp val o) w v' w':=fun v' w' hrun=>by
  refine .inl ?_
  simp [execOp,ho,resolve,invoke,builtin,hrun]
 unfold JO at he
 split at he
 case h_2=>cases he
 rename_i new hnew
 split at he
 ·cases he
 rename_i hall
 have rm:∀ row∈new,row.length=i.size:=fun row hr=>by
  simp only [u4,u5] at hall
  have:=ux.1 hall row hr
  simpa using this
 obtain ⟨a,cp,CP,news,hn1,hn2,rX,Ar⟩:=JV R hnew hx rm
 have hsrc:Src C.P w i.size new.length (val x) news:=⟨⟨a,cp,CP⟩,hn1,hn2,fun w1 hw1=>Ar C.P w1 hw1⟩
 have grow:∀ (j L cap:Nat) (base:Option Addr) (af:List (List IV)) (olds:List Value),(¬ N j∧j=id)∨(h j=some (.aU i.size L)∧L < L+new.length)→af.length=L →
   val s=.slice base L cap→cap < L+new.length→(L+new.length)*i.bytes≤140737488355328→(∀ row∈af,row.length=i.size) →
   Src C.P w i.size L (val s) olds→(∀ (k:Nat) (row:List IV) (q:Nat) (c:IV),af[k]?=some row→row[q]?=some c→∃ u,olds[k*i.size+q]?=some u∧RI g.Z w c u) →
   ∃ v w',pq C.P (execOp val o) w v w'∧Good C g h N w id (.aS j (af++new)) [(j,.aU i.size (L+new.length))] v w':=fun j L cap base af olds hk hrl lC hroom hbound rY hold At=>by
  obtain ⟨cJ,rest,eX,eY,hrun⟩:=Zp (w:=w) (ty:=o.type) ht hi iP ht' hd lC hold hsrc hroom mD hbound
  have iT:olds.length=L*i.size:=hold.2.1
  have hlen:(olds++news).length=(L+new.length)*i.size:=by simp [iT,hn1,ug]
  have rZ:(L+new.length)*i.size≤((olds++news).toArray++rest).size:=by simp only [uD,uE];omega
  have E:=WF (id:=id) R hk (.cells ((olds++news).toArray++rest) e (0,0)) ((L+new.length)*i.size)
  refine ⟨_,_,exec _ _ hrun,_,E,MT R hk _ e rZ,?_⟩
  have hw':(w.drew.alloc (.cells ((olds++news).toArray++rest) e (0,0))).heap[w.heap.size]?=some (.cells ((olds++news).toArray++rest) e (0,0)):=zW w.drew _
  have rS:(g.at j w.heap.size ((L+new.length)*i.size)).Z w.heap.size=(L+new.length)*i.size:=by simp [Gh.at]
  have lM:(af++new).length=L+new.length:=by simp [hrl]
  have Au:RI (g.at j w.heap.size ((L+new.length)*i.size)).Z (w.drew.alloc (.cells ((olds++news).toArray++rest) e (0,0))) (.slice (af++new)) (.slice (some ⟨w.heap.size,0,none⟩) (af++new).length cJ):=by
   refine Fv (vals:=olds++news) hw' (by rw [rS,lM];exact uc _) (by rw [lM];exact eX) (fun row hr => ?_) (fun k u hk => ?_) (fun u hu => ?_) (fun k row q c hk hq => ?_)
   ·rcases uv.1 hr with hr | hr
    ·exact rY row hr
    ·exact rm row hr
   ·have hlt:k < (olds++news).length:=(ua.1 hk).1
    rw [ul (by simpa using hlt)]
    simpa using hk
   ·rcases uv.1 hu with hu | hu
    ·exact hold.2.2.1 u hu
    ·exact hn2 u hu
   ·rw [uk] at hk
    split at hk
    ·rename_i hlt
     obtain ⟨u,h2,h3⟩:=At k row q c hk hq
     have iw:k*i.size+q < olds.length:=(ua.1 h2).1
     exact ⟨u,by rw [uz iw];exact h2,h3.mono E.bW E.cell⟩
    ·rename_i hge
     obtain ⟨u,h2,h3⟩:=rX _ row q c hk hq
     have si:olds.length≤k*i.size+q:=by
      rw [iT]
      have:L*i.size≤k*i.size:=ud _ (by omega)
      omega
     refine ⟨u,?_,h3.mono E.bW E.cell⟩
     rw [uw si,←h2]
     congr 1
     rw [iT,hrl,uA]
     have:L*i.size≤k*i.size:=ud _ (by omega)
     omega
  rw [lM] at Au
  refine .aS j (af++new) _ Au ?_ fun sz' len' ht => ?_
  ·rcases hk with ⟨_,h1⟩ | ⟨h1,_⟩
   ·exact .inr h1
   ·exact .inl (R.key j _ h1)
  ·simp only [bA,if_pos] at ht
   cases ht
   refine ⟨by rw [lM];exact uc _,fun k row hk => ?_,fun _=>.inr ⟨w.heap.size,cJ,_,e,by simp [Gh.at],by rw [lM],hw',?_⟩⟩
   ·rcases uv.1 (ue hk) with hr | hr
    ·exact rY row hr
    ·exact rm row hr
   ·simp only [uD,uE,hlen,eY,hzs]
    have:cJ*i.size=(L+new.length)*i.size+(cJ - (L+new.length))*i.size:=by
     rw [←ug];congr 1;omega
    omega
 split at he
 ·rename_i e1
  rw [e1] at hs
  have lC:=xg hs
  split at he
  ·rename_i hbound
   simp only [Option.some.injEq,Prod.mk.injEq] at he
   obtain ⟨rfl,rfl⟩:=he
   by_cases hm:new=[]
   ·subst hm
    have hrun:=Zo (w:=w) (ty:=o.type) ht hi ht' hd (news:=news) (by simpa using hsrc)
    exact ⟨_,_,exec _ _ (by rw [lC];exact hrun),by simpa using JX R hid i.size⟩
   ·have hpos:0 < new.length:=uW.2 hm
    have:=grow id 0 0 none [] [] (.inl ⟨hid,rfl⟩) rfl lC (by omega) (by simpa using hbound) (by simp) ⟨⟨none,0,lC⟩,by simp,by simp,fun w1 _=>by rw [lC];simp [Builtin.firstCells]⟩ (fun k row q c hk=>by simp at hk)
    simpa using this
  ·cases he
 ·rename_i j af e1
  rw [e1] at hs
  split at he
  ·rename_i sz' len htip
   split at he
   ·rename_i bJ
    obtain ⟨rfl,hrl,hbound⟩:=bJ
    simp only [Option.some.injEq,Prod.mk.injEq] at he
    obtain ⟨rfl,rfl⟩:=he
    have hs':=hs
    cases hs with
    | aS _ _ _ gq hni tI=>
     obtain ⟨_,rY,CQ⟩:=tI _ _ htip
     have nF:∀ row∈af,row.length=i.size:=fun row hr=>by
      obtain ⟨k,hk⟩:=uo hr
      exact rY k row hk
     have tJ:xI h (.aS j af)=some af:=rfl
     obtain ⟨a0,MY,sj,olds,rp,BL,CR,Fw⟩:=JV R tJ hs' nF
     have hold:Src C.P w i.size af.length (val s) olds:=⟨⟨a0,MY,sj⟩,rp,BL,fun w1 hw1=>Fw C.P w1 hw1⟩
     rcases CQ hrl with ⟨hn,lC⟩ | ⟨b,cap,c,e',hb,lC,hw,hcap⟩
     ·have pZ:af.length=0:=by rw [lC] at sj;simp at sj;omega
      have gG:af=[]:=ui pZ
      subst gG
      simp at hrl
      subst hrl
      by_cases hm:new=[]
      ·subst hm
       have hrun:=Zo (w:=w) (ty:=o.type) ht hi ht' hd (news:=news) (by simpa using hsrc)
       refine ⟨_,_,exec _ _ (by rw [lC];exact hrun),?_⟩
       rw [lC] at hs'
       simpa using MS (id:=id) R htip hs'
      ·have hpos:0 < new.length:=uW.2 hm
       exact grow j 0 0 none [] olds (.inr ⟨htip,by omega⟩) rfl lC (by omega) hbound (by simp) (by simpa using hold) CR
     ·by_cases hroom:len+new.length≤cap
      ·subst hrl
       obtain ⟨c',e2,pu,iH,hsz2⟩:=R.obj j b _ hb htip
       rw [hw] at pu
       cases pu
       have hm1:(af.length+new.length)*i.size≤cap*i.size:=ud _ hroom
       have hfit:af.length*i.size+news.length≤c.size:=by rw [hn1,←ug];omega
       have hrun:=JW (P:=C.P) (w:=w) (ty:=o.type) ht hi ht' hd hw hsrc hroom hfit
       have E:=JY (id:=id) R htip hb hw iH (uO af.length new.length) news hfit
       refine ⟨_,_,exec _ _ (by rw [lC];exact hrun),_,E,MU R htip hb hw iH (uO _ _) news hfit (by omega),?_⟩
       have hw':(zA w b (.cells (qq c (af.length*i.size) news) e' (0,0))).heap[b]?=some (.cells (qq c (af.length*i.size) news) e' (0,0)):=by rw [zG w b _ (qb hw)];simp
       have lM:(af++new).length=af.length+new.length:=by simp
       have Au:RI (g.at j b ((af.length+new.length)*i.size)).Z (zA w b (.cells (qq c (af.length*i.size) news) e' (0,0))) (.slice (af++new)) (.slice (some ⟨b,0,none⟩) (af++new).length cap):=by
        refine Fv (vals:=olds++news) hw' (by simp only [Gh.at,if_pos];rw [lM];exact uc _) (by rw [lM];exact hroom) (fun row hr => ?_) (fun k u hk => ?_) (fun u hu => ?_) (fun k row q x hk hq => ?_)
        ·rcases uv.1 hr with hr | hr
         ·exact nF row hr
         ·exact rm row hr
        ·rw [xQ c _ news hfit]
         rw [uk] at hk
         split at hk
         ·rename_i hlt
          rw [if_neg (by omega)]
          have hread:=Fw C.P w rfl
          rw [lC] at hread
          simp only [Builtin.firstCells] at hread
          have hcell:∀ q,q < af.length*i.size→w.cell? ((⟨b,0,none⟩:Addr).add q)=some (c.getD q undef):=fun q hq=>by
           rw [qP,qF hw,uy]
           have:q < c.size:=by omega
           simp [this]
          rw [run_loadCells (P:=C.P) w _ _ _ hcell] at hread
          simp only [Result.ok.injEq,and_true] at hread
          have sk:(uB (af.length*i.size)).map (fun q=>c.getD q undef)=olds:=by
           have:=congrArg Array.toList hread
           simpa using this
          rw [←sk] at hk
          simp only [um,uh] at hk
          obtain ⟨q,hq1,Av⟩:=hk
          obtain ⟨MZ,Fx⟩:=ua.1 hq1
          simp at MZ Fx
          subst Fx
          have:k < c.size:=by omega
          simp [this] at Av
          simp [this,Av]
         ·rename_i hge
          have hlt:k - olds.length < news.length:=(ua.1 hk).1
          rw [if_pos (by omega),←rp]
          exact hk
        ·rcases uv.1 hu with hu | hu
         ·exact BL u hu
         ·exact hn2 u hu
        ·rw [uk] at hk
         split at hk
         ·obtain ⟨u,h2,h3⟩:=CR k row q x hk hq
          have iw:k*i.size+q < olds.length:=(ua.1 h2).1
          exact ⟨u,by rw [uz iw];exact h2,h3.mono E.bW E.cell⟩
         ·rename_i hge
          obtain ⟨u,h2,h3⟩:=rX _ row q x hk hq
          have CL:af.length*i.size≤k*i.size:=ud _ (by omega)
          have si:olds.length≤k*i.size+q:=by rw [rp];omega
          refine ⟨u,?_,h3.mono E.bW E.cell⟩
          rw [uw si,←h2]
          congr 1
          rw [rp,uA]
          omega
       rw [lM] at Au
       refine .aS j (af++new) _ Au (.inl hni) fun sz' len' ht => ?_
       simp only [bA,if_pos] at ht
       cases ht
       refine ⟨by rw [lM];exact uc _,fun k row hk => ?_,fun _=>.inr ⟨b,cap,_,e',by simp [Gh.at],by rw [lM],hw',by rw [jQ];exact hcap⟩⟩
       rcases uv.1 (ue hk) with hr | hr
       ·exact nF row hr
       ·exact rm row hr
      ·subst hrl
       have mE:cap < af.length+new.length:=by omega
       have hle:af.length≤cap:=by
        rcases Q1 gq with ⟨gG,_⟩ | ⟨b1,off1,M0,tG,cv1,ni,CS,_⟩
        ·subst gG;simp
        ·rw [lC] at ni;cases ni;exact CS
       exact grow j af.length cap _ af olds (.inr ⟨htip,by omega⟩) rfl lC mE hbound nF hold CR
   ·cases he
  ·cases he
 ·cases he
end
end
section
section
variable {C:Ctx} {g g':Gh} {h h':Nat→Option aD} {N N':Nat→Prop} {w w':World} {id:Nat}
theorem Qp:∀ {ks:List Nat} {cH bs:List IV} {r:Bool},qx ks cH bs=some r→cH.length=ks.length∧bs.length=ks.length
 | [],[],[],_,_=>⟨rfl,rfl⟩
 | [],[],_::_,_,h=>by simp [qx] at h
 | [],_::_,_,_,h=>by simp [qx] at h
 | _::_,[],_,_,h=>by simp [qx] at h
 | _::_,_::_,[],_,h=>by simp [qx] at h
 | k::ks,a::cH,b::bs,r,h=>by
  simp only [qx] at h
  split at h
  ·split at h
   ·rename_i y h2
    have:=Qp h2
    simp [this.1,this.2]
   ·cases h
  ·cases h
theorem JG:∀ {k1 k2:List Nat} {cH bs:List IV} {r:Bool},qx (k1++k2) cH bs=some r →
  ∃ r1 r2,qx k1 (cH.take k1.length) (bs.take k1.length)=some r1∧qx k2 (cH.drop k1.length) (bs.drop k1.length)=some r2∧r=(r1&&r2)
 | [],k2,cH,bs,r,h=>⟨true,r,by simp [qx],by simpa using h,by simp⟩
 | k::k1,k2,[],bs,r,h=>by simp [qx] at h
 | k::k1,k2,a::cH,[],r,h=>by simp [qx] at h
 | k::k1,k2,a::cH,b::bs,r,h=>by
  simp only [List.cons_append,qx] at h
  split at h
  ·rename_i x h1
   split at h
   ·rename_i y h2
    cases h
    obtain ⟨r1,r2,h3,h4,rfl⟩:=JG h2
    exact ⟨x&&r1,r2,by simp [qx,h1,h3],by simpa using h4,by simp [Bool.and_assoc]⟩
   ·cases h
  ·cases h
def ij (Z:Nat→Nat) (w:World) (cH:List IV) (vs:List Value):Prop:=cH.length=vs.length∧∀ (j:Nat) (c:IV) (u:Value),cH[j]?=some c→vs[j]?=some u→RI Z w c u
theorem ij.drop {Z:Nat→Nat} {cH:List IV} {vs:List Value} (H:ij Z w cH vs) (n:Nat):ij Z w (cH.drop n) (vs.drop n):=by
 refine ⟨by simp [H.1],fun j c u h1 h2 => ?_⟩
 rw [uq] at h1 h2
 exact H.2 _ c u h1 h2
theorem ij.take {Z:Nat→Nat} {cH:List IV} {vs:List Value} (H:ij Z w cH vs) (n:Nat):ij Z w (cH.take n) (vs.take n):=by
 refine ⟨by simp [H.1],fun j c u h1 h2 => ?_⟩
 rw [uK] at h1 h2
 split at h1
 ·rename_i hj
  rw [if_pos hj] at h2
  exact H.2 _ c u h1 h2
 ·cases h1
def xu (P:Program) (t:TypeId) (vs:List Value):Value:=match P.underlying t with
 | some (.struct _)=>.agg vs.toArray
 | _=>vs.getD 0 undef
theorem JZ {P:Program} {t:TypeId} {k:Nat} {dd:TypeDesc} (ht:P.underlying t=some dd) (hk:(k=0∧∃ kk,dd=.int kk)∨(k=1∧dd=.bool)∨(k=2∧dd=.string)) {Z:Nat→Nat} {cH bs:List IV} {us vs:List Value} {r:Bool}
  (ha:ij Z w cH us) (hb:ij Z w bs vs) (he:qx [k] cH bs=some r) (D:Nat):(Op.equalIn (D+1) t (xu P t us) (xu P t vs)).run P w=.ok r w:=by
 obtain ⟨h1,h2⟩:=Qp he
 obtain ⟨a,rfl⟩:=ur.1 h1
 obtain ⟨b,rfl⟩:=ur.1 h2
 obtain ⟨u,rfl⟩:=ur.1 ha.1.symm
 obtain ⟨v,rfl⟩:=ur.1 hb.1.symm
 have oX:=ha.2 0 a u rfl rfl
 have hrb:=hb.2 0 b v rfl rfl
 simp only [qx] at he
 split at he
 ·rename_i x hx
  simp at he
  subst he
  rcases hk with ⟨rfl,kk,rfl⟩ | ⟨rfl,rfl⟩ | ⟨rfl,rfl⟩
  ·simp only [xu,ht,uJ]
   cases a<;>cases b<;>simp [Qw] at hx
   obtain ⟨rfl,rfl⟩:=hx
   cases oX;cases hrb
   exact run_equalIn_int w D t _ kk _ _ ht
  ·simp only [xu,ht,uJ]
   cases a<;>cases b<;>simp [Qw] at hx
   subst hx
   cases oX;cases hrb
   exact run_equalIn_bool' w D t _ _ ht
  ·simp only [xu,ht,uJ]
   cases a<;>cases b<;>simp [Qw] at hx
   subst hx
   cases oX;cases hrb
   rw [run_equalIn_string w D t _ _ ht,beq_toListBytes]
 ·cases he
theorem Fy {P:Program} {t:TypeId} {n:Nat} (hn:zz P t=some n) (w:World) (vs:List Value) (off:Nat) (hs:(∃ fs,P.underlying t=some (.struct fs))∨(n=1∧∃ dd,P.underlying t=some dd∧((∃ k,dd=.int k)∨dd=.bool∨dd=.string)))
  (hl:off+n≤vs.length):(part t vs.toArray off).run P w=.ok (xu P t ((vs.drop off).take n)) w:=by
 rcases hs with ⟨fs,hu⟩ | ⟨rfl,dd,hu,hk⟩
 ·have hag:jE P t=some true:=by simp [jE,hu]
  simp only [part,Sem.run_bind,wb hag,Result.andThen_ok,if_true,Sem.run_pure,zT hn,xu,hu]
  congr 2
  apply Ue
  simp [uL]
 ·have hag:jE P t=some false:=by rcases hk with ⟨k,rfl⟩ | rfl | rfl<;>simp [jE,hu]
  have hv:xu P t ((vs.drop off).take 1)=vs[off]'(by omega):=by
   have:((vs.drop off).take 1)[0]?=some (vs[off]'(by omega)):=by simp
   rcases hk with ⟨k,rfl⟩ | rfl | rfl<;>simp [xu,hu,Ub,this]
  have hg:vs.toArray[off]?=some (vs[off]'(by omega)):=by simp
  simp only [part,Sem.run_bind,wb hag,Result.andThen_ok,ut,if_false,hg,Sem.run_pure,hv]
theorem KH {P:Program} {d:Nat} {t:TypeId} {ks:List Nat} (hf:yD P d t=some ks) :
  (∃ fs,P.underlying t=some (.struct fs))∨(ks.length=1∧∃ dd,P.underlying t=some dd∧((∃ k,dd=.int k)∨dd=.bool∨dd=.string)):=by
 cases d with
 | zero=>simp [yD] at hf
 | succ d=>
  simp only [yD] at hf
  split at hf
  ·rename_i k hu;cases hf;exact .inr ⟨rfl,_,hu,.inl ⟨k,rfl⟩⟩
  ·rename_i hu;cases hf;exact .inr ⟨rfl,_,hu,.inr (.inl rfl)⟩
  ·rename_i hu;cases hf;exact .inr ⟨rfl,_,hu,.inr (.inr rfl)⟩
  ·rename_i fs hu;exact .inl ⟨fs,hu⟩
  ·cases hf
theorem M2 {P:Program} {Z:Nat→Nat}:∀ (d D:Nat) (t:TypeId) (ks:List Nat),yD P d t=some ks→d≤D→∀ (cH bs:List IV) (us vs:List Value) (r:Bool),ij Z w cH us→ij Z w bs vs→qx ks cH bs=some r →
  (Op.equalIn D t (xu P t us) (xu P t vs)).run P w=.ok r w:=by
 intro d
 induction d with
 | zero=>intro D t ks hf;simp [yD] at hf
 | succ d ih=>
  intro D t ks hf hD cH bs us vs r ha hb he
  cases D with
  | zero=>omega
  | succ D=>
   simp only [yD] at hf
   split at hf
   ·rename_i kk hu;cases hf;exact JZ hu (.inl ⟨rfl,kk,rfl⟩) ha hb he D
   ·rename_i hu;cases hf;exact JZ hu (.inr (.inl ⟨rfl,rfl⟩)) ha hb he D
   ·rename_i hu;cases hf;exact JZ hu (.inr (.inr ⟨rfl,rfl⟩)) ha hb he D
   ·rename_i fs hu
    split at hf
    ·cases hf
    ·rename_i hst
     have Aw:P.stoodInHeld t=false:=by simpa using hst
     have hfo:P.fieldsOf t=fs:=by simp [Program.fieldsOf,hu]
     have hv:∀ l:List Value,xu P t l=.agg l.toArray:=fun l=>by simp [xu,hu]
     rw [hv,hv,run_equalIn_struct w D t _ _ (by rw [hfo];exact hu) Aw,hfo]
     have key:∀ (fl:List Field) (n:Nat) (ks:List Nat) (r:Bool),JP P (yD P d) n fl=some ks→n+ks.length≤us.length→n+ks.length≤vs.length→qx ks (cH.drop n |>.take ks.length) (bs.drop n |>.take ks.length)=some r →
       (Op.eqFields D us.toArray vs.toArray fl).run P w=.ok r w:=by
      intro fl
      induction fl with
      | nil=>
       intro n ks r h1 _ _ h2
       simp [JP] at h1
       subst h1
       simp [qx] at h2
       subst h2
       simp [Op.eqFields]
      | cons f fl Ak=>
       intro n ks r h1 lI ig h2
       simp only [JP] at h1
       split at h1
       ·rename_i hname
        split at h1
        ·rename_i kf CU
         split at h1
         ·rename_i hsize
          split at h1
          ·rename_i rest nj
           cases h1
           simp only [uY] at lI ig
           obtain ⟨r1,r2,h3,h4,rfl⟩:=JG h2
           obtain ⟨hn1,hn2⟩:=hname
           have mi:=Fy (P:=P) (n:=kf.length) hsize w us f.offset (KH CU) (by omega)
           have pz:=Fy (P:=P) (n:=kf.length) hsize w vs f.offset (KH CU) (by omega)
           have heq:=ih D f.type kf CU (by omega) ((cH.drop f.offset).take kf.length) ((bs.drop f.offset).take kf.length) ((us.drop f.offset).take kf.length) ((vs.drop f.offset).take kf.length) r1
            ((ha.drop _).take _) ((hb.drop _).take _) (by
             rw [hn2]
             simpa [List.take_take,Nat.min_eq_left (uO kf.length rest.length)] using h3)
           simp only [Op.eqFields,if_pos hn1,Sem.run_bind,mi,pz,Result.andThen_ok,heq,Sem.run_ite]
           cases r1 with
           | false=>simp
           | true=>
            simp only [Bool.not_true,ut,if_false,Bool.true_and]
            refine Ak (n+kf.length) rest r2 nj (by omega) (by omega) ?_
            rw [←h4]
            congr 1
            ·rw [u6,u7];congr 1;simp
            ·rw [u6,u7];congr 1;simp
          ·cases h1
         ·cases h1
        ·cases h1
       ·cases h1
     obtain ⟨lI,ig⟩:=Qp he
     refine key fs.toList 0 ks r hf (by rw [←ha.1];omega) (by rw [←hb.1];omega) ?_
     rw [u9,u9,uR (by omega),uR (by omega)]
     exact he
   ·cases hf
theorem VG {x:AV} {v:Value} {l:List IV} (hx:ZN x=some l) (hv:RV C g h N w x v):∃ vs,v=.agg vs.toArray∧ij g.Z w l vs:=by
 unfold ZN at hx
 split at hx
 ·cases hx
  cases hv with
  | ap _ _ hr=>cases hr with | agg _ vs hl h1 hr=>exact ⟨vs,rfl,hl,hr⟩
 ·rename_i cs
  obtain ⟨h1,h2⟩:=qi hx
  cases hv with
  | agg _ vs hl h1' hr=>
   refine ⟨vs,rfl,by rw [h1];exact hl,fun j c u hj hu => ?_⟩
   have hlt:j < cs.length:=by rw [←h1];exact (ua.1 hj).1
   obtain ⟨c',eX,eY⟩:=h2 j cs[j] (by simp)
   rw [hj] at eX
   cases eX
   exact YU eY (hr j cs[j] u (by simp) hu)
 ·cases hx
theorem M3 {x:AV} {v:Value} {l:List IV} (hx:ZN x=some l) (hv:RV C g h N w x v):RI g.Z w (.agg l) v:=by
 unfold ZN at hx
 split at hx
 ·cases hx
  cases hv with
  | ap _ _ hr=>exact hr
 ·rename_i cs
  obtain ⟨h1,h2⟩:=qi hx
  cases hv with
  | agg _ vs hl h1' hr=>
   refine .agg _ vs (by rw [h1];exact hl) h1' fun j c u hj hu => ?_
   have hlt:j < cs.length:=by rw [←h1];exact (ua.1 hj).1
   obtain ⟨c',eX,eY⟩:=h2 j cs[j] (by simp)
   rw [hj] at eX
   cases eX
   exact YU eY (hr j cs[j] u (by simp) hu)
 ·cases hx
theorem M4 {o:Oper} {t:TypeId} {fs:Array Field} {x:Operand} (ho:o.op=.makeInterface t x) (ht:C.P.underlying t=some (.struct fs)):aP C o (.BI t (C.bl x)):=by
 intro g h N w id ev val r aN R hid hv he
 have hx:=hv x (by simp [ho,Op.operands])
 simp only [ai] at he
 split at he
 ·rename_i l e1
  simp only [Option.some.injEq,Prod.mk.injEq] at he
  obtain ⟨rfl,rfl⟩:=he
  exact ⟨.iface t (val x),w,.inl (by simp [execOp,ho,Instr.makeInterface,run_underlying ht]),zt R (.ap _ _ (.iface t _ _ (M3 e1 hx)))⟩
 ·cases he
theorem KI {o:Oper} {t t':TypeId} {op:BinOp} {neg:Bool} {ks:List Nat} {fs:Array Field} {x y:Operand} (ho:o.op=.binOp op t x y t') (ht:C.P.underlying t=some (.struct fs))
  (hf:yD C.P 9 t=some ks) (hg:C.P.eqGuardType C.P.depth t=false) (hop:op=if neg then .neq else .eql):aP C o (.eqs neg ks (C.bl x) (C.bl y)):=by
 intro g h N w id ev val r aN R hid hv he
 have hx:=hv x (by simp [ho,Op.operands])
 have hy:=hv y (by simp [ho,Op.operands])
 simp only [ai] at he
 split at he
 ·rename_i a b e1 e2
  split at he
  ·rename_i rr hr
   simp only [Option.some.injEq,Prod.mk.injEq] at he
   obtain ⟨rfl,rfl⟩:=he
   obtain ⟨us,Fz,M5⟩:=VG e1 hx
   obtain ⟨vs,ni,sq⟩:=VG e2 hy
   have:=M2 (P:=C.P) (w:=w) 9 10000 t ks hf (by omega) a b us vs rr M5 sq hr
   have FA:∀ l:List Value,xu C.P t l=.agg l.toArray:=fun l=>by simp [xu,ht]
   rw [FA,FA] at this
   refine ⟨.bool (if neg then !rr else rr),w,.inl ?_,zt R (.ap _ _ (.bool _))⟩
   subst hop
   cases neg with
   | false=>simp only [ut,if_false] at ho ⊢; simp [execOp,ho,Fz,ni,run_eqGuard_agg w _ t x y _ _ hg,run_eql_struct,this]
   | true=>simp only [if_true] at ho ⊢; simp [execOp,ho,Fz,ni,run_eqGuard_agg w _ t x y _ _ hg,run_neq_struct,this]
  ·cases he
 ·cases he
end
end
section
section
variable {C:Ctx} {g g':Gh} {h h':Nat→Option aD} {N N':Nat→Prop} {w w':World} {id:Nat}
def Gh.move (g:Gh) (i id b:Nat):Gh:=⟨fun k=>if k=id then some b else if k=i then none else g.ρ k,g.Z⟩
theorem ZT (R:RH C g h N w) (hid:¬ N id) {i mh:Nat} {eM:List (List AV)} (hi:h i=some (.af mh eM)) {b':Nat} {w1:World} {c':Array Value} {e':TypeId}
  (hos:w1.os=w.os) (tI:w1.tape=w.tape) (hout:w1.output=w.output) (hsize:w.heap.size≤w1.heap.size) (iU:∀ k,k < w.heap.size→k≠b'→w1.heap[k]?=w.heap[k]?)
  (hfresh:w.heap.size≤b'∨g.ρ i=some b') (hz:g.Z b'=0) (sr:w1.heap[b']?=some (.cells c' e' (0,0)))
  (su:∀ (c:Array Value) (e:TypeId),w.heap[b']?=some (.cells c e (0,0))→∃ pY:Array Value,w1.heap[b']?=some (.cells pY e (0,0))∧pY.size=c.size)
  {sz:Nat} {af:List (List AV)} (hrl:∀ (k:Nat) (row:List AV),af[k]?=some row→row.length=sz)
  (hrc:∀ (k:Nat) (row:List AV) (j:Nat) (x:AV),af[k]?=some row→row[j]?=some x→∃ cv,c'[k*sz+j]?=some cv∧cv.oneCell'=true∧RV C g h N w x cv)
  {len cap:Nat} (hlen:len=af.length) (Ax:len≤cap) (hcap2:cap*sz≤c'.size) :
  Good C g h N w id (.Zaj id 0 len) [(id,.af sz af),(i,.dead)] (.slice (some ⟨b',0,none⟩) len cap) w1:=by
 have hN:=R.key i _ hi
 have hne:i≠id:=fun e=>hid (e ▸ hN)
 have mF:∀ k,N k→k≠id:=fun k hk e=>hid (e ▸ hk)
 have iV:∀ k o,bA [(id,aD.af sz af),(i,.dead)] h k=some o→(k=id∧o=.af sz af)∨(k=i∧o=.dead)∨(k≠id∧k≠i∧h k=some o):=fun k o ho=>by
  simp only [bA] at ho
  split at ho
  ·rename_i e;cases ho;exact .inl ⟨e.symm,rfl⟩
  ·rename_i e
   split at ho
   ·rename_i e2;cases ho;exact .inr (.inl ⟨e2.symm,rfl⟩)
   ·rename_i e2;exact .inr (.inr ⟨fun e3=>e e3.symm,fun e3=>e2 e3.symm,ho⟩)
 have sw:∀ k b,g.ρ k=some b→k≠i→b≠b':=fun k b hk hki e=>by
  rcases hfresh with hf | hf
  ·have:=(R.lt k b hk).1;omega
  ·exact hki (R.inj k i b hk (e ▸ hf))
 have E:bV g h N w (g.move i id b') (bA [(id,.af sz af),(i,.dead)] h) (qj N id) w1:={
  os:=hos
  tape:=tI
  output:=hout
  size:=hsize
  old:=fun b hb ho=>⟨iU b hb (fun e=>by
   rcases hfresh with hf | hf
   ·omega
   ·exact ho ⟨i,by rw [e];exact hf⟩),rfl⟩
  own:=fun b ⟨k,hk⟩=>by
   simp only [Gh.move] at hk
   split at hk
   ·cases hk
    rcases hfresh with hf | hf
    ·exact .inr hf
    ·exact .inl ⟨i,hf⟩
   ·split at hk
    ·cases hk
    ·exact .inl ⟨k,hk⟩
  bW:=fun _=>uc _
  cell:=iF.heap fun b ho=>iU b (R.dX b ho) (fun e=>by subst e;omega)
  shape:=fun b c e hb=>by
   by_cases FB:b=b'
   ·subst FB;exact su c e hb
   ·exact ⟨c,(iU b (qb hb) FB).trans hb,rfl⟩
  next:=fun k hk=>.inl hk
  eu:=fun k b hb o ho hnd hk=>by
   rcases iV k o ho with ⟨h1,h2⟩ | ⟨h1,h2⟩ | ⟨h1,h2,h3⟩
   ·exact absurd h1 (mF k hk)
   ·exact absurd h2 hnd
   ·exact .inl (by simp only [Gh.move];rw [if_neg h1,if_neg h2];exact hb)
  cI:=fun k hb hk o ho hnd=>by
   rcases iV k o ho with ⟨h1,h2⟩ | ⟨h1,h2⟩ | ⟨h1,h2,h3⟩
   ·exact absurd h1 (mF k hk)
   ·exact absurd h2 hnd
   ·exact .inl (by simp only [Gh.move];rw [if_neg h1,if_neg h2];exact hb)
  af:=fun k hk s r ho=>by
   rcases iV k _ ho with ⟨h1,h2⟩ | ⟨h1,h2⟩ | ⟨h1,h2,h3⟩
   ·exact absurd h1 (mF k hk)
   ·cases h2
   ·exact ⟨r,h3,rfl⟩
  cR:=fun k hk s l ho=>by
   rcases iV k _ ho with ⟨h1,h2⟩ | ⟨h1,h2⟩ | ⟨h1,h2,h3⟩
   ·cases h2
   ·cases h2
   ·exact ⟨l,h3,uc _⟩
  maps:=fun k hk es ho=>by
   rcases iV k _ ho with ⟨h1,h2⟩ | ⟨h1,h2⟩ | ⟨h1,h2,h3⟩
   ·cases h2
   ·cases h2
   ·exact ⟨es,h3⟩
  fJ:=fun k hk ll RR s pe ho=>by
   rcases iV k _ ho with ⟨h1,h2⟩ | ⟨h1,h2⟩ | ⟨h1,h2,h3⟩
   ·cases h2
   ·cases h2
   ·exact ⟨s,pe,h3⟩}
 refine ⟨g.move i id b',E,⟨fun k l b hk hl => ?_,fun k b hk => ?_,fun k o ho => ?_,fun k b o hk ho => ?_,fun k s l ho hn => ?_,fun b hb=>uZ (R.dX b hb) hsize,R.fix.eN E⟩,?_⟩
 ·simp only [Gh.move] at hk hl
  split at hk
  ·rename_i e1
   cases hk
   split at hl
   ·rename_i e2;rw [e1,e2]
   ·split at hl
    ·cases hl
    ·rename_i e2 e3;exact absurd rfl (sw l _ hl e3)
  ·rename_i e1
   split at hk
   ·cases hk
   ·rename_i e2
    split at hl
    ·cases hl;exact absurd rfl (sw k _ hk e2)
    ·split at hl
     ·cases hl
     ·exact R.inj k l b hk hl
 ·simp only [Gh.move] at hk
  split at hk
  ·rename_i e1;cases hk;exact ⟨qb sr,.inr e1⟩
  ·split at hk
   ·cases hk
   ·exact ⟨uZ (R.lt k b hk).1 hsize,.inl (R.lt k b hk).2⟩
 ·rcases iV k o ho with ⟨h1,_⟩ | ⟨h1,_⟩ | ⟨_,_,h3⟩
  ·exact .inr h1
  ·exact .inl (h1 ▸ hN)
  ·exact .inl (R.key k o h3)
 ·rcases iV k o ho with ⟨h1,h2⟩ | ⟨h1,h2⟩ | ⟨h1,h2,h3⟩
  ·subst h2
   simp only [Gh.move,if_pos h1] at hk
   cases hk
   refine ⟨hz,c',e',sr,hrl,fun q row j x hq hj => ?_⟩
   obtain ⟨cv,a1,a2,a3⟩:=hrc q row j x hq hj
   exact ⟨cv,a1,a2,a3.mono E⟩
  ·subst h2;trivial
  ·simp only [Gh.move] at hk
   rw [if_neg h1,if_neg h2] at hk
   exact (R.obj k b o hk h3).keep E (iU b (R.lt k b hk).1 (sw k b hk h2)) rfl
 ·rcases iV k _ ho with ⟨h1,h2⟩ | ⟨h1,h2⟩ | ⟨h1,h2,h3⟩
  ·cases h2
  ·cases h2
  ·simp only [Gh.move] at hn
   rw [if_neg h1,if_neg h2] at hn
   exact R.cQ k s l h3 hn
 ·refine .Zaj id 0 len _ (.inr rfl) rfl fun sz' dY ho => ?_
  simp only [bA,if_pos] at ho
  cases ho
  exact ⟨by omega,.inr ⟨b',cap,c',e',by simp [Gh.move],by simp,Ax,sr,by simpa using hcap2⟩⟩
theorem KJ (R:RH C g h N w) (hid:¬ N id) (sz:Nat):Good C g h N w id (.Zaj id 0 0) [(id,.af sz [])] (.slice none 0 0) w:=by
 have ne:∀ i,N i→id≠i:=fun i hi e=>hid (e ▸ hi)
 have E:bV g h N w g (bA [(id,.af sz [])] h) (qj N id) w:=
  ⟨rfl,rfl,rfl,uc _,fun _ _ _=>⟨rfl,rfl⟩,fun _ h=>.inl h,fun _=>uc _,⟨fun _ _ _=>rfl,fun _ _ _ _ _=>rfl⟩,fun b c e hb=>⟨c,hb,rfl⟩,fun _ h=>.inl h,fun i b hb _ _ _ _=>.inl hb,fun i hb _ _ _ _=>.inl hb,
   fun i hi s r ho=>⟨r,by simp only [bA] at ho;rwa [if_neg (ne i hi)] at ho,rfl⟩,fun i hi s r ho=>⟨r,by simp only [bA] at ho;rwa [if_neg (ne i hi)] at ho,uc _⟩,
   fun i hi r ho=>⟨r,by simp only [bA] at ho;rwa [if_neg (ne i hi)] at ho⟩,
   fun i hi l R s pe ho=>⟨s,pe,by simp only [bA] at ho;rwa [if_neg (ne i hi)] at ho⟩⟩
 have hn:=R.lJ hid
 refine ⟨g,E,⟨R.inj,fun i b hb=>⟨(R.lt i b hb).1,.inl (R.lt i b hb).2⟩,fun i o ho => ?_,fun i b o hb ho => ?_,fun i s l ho hr => ?_,R.dX,R.fix.eN E⟩,?_⟩
 ·simp only [bA] at ho
  split at ho
  ·rename_i e;exact .inr e.symm
  ·exact .inl (R.key i o ho)
 ·simp only [bA] at ho
  split at ho
  ·rename_i e;subst e;rw [hn] at hb;cases hb
  ·exact (R.obj i b o hb ho).keep E rfl rfl
 ·simp only [bA] at ho
  split at ho
  ·cases ho
  ·exact R.cQ i s l ho hr
 ·refine .Zaj id 0 0 _ (.inr rfl) rfl fun s af ho => ?_
  simp only [bA,if_pos] at ho
  cases ho
  exact ⟨uc _,.inl ⟨hn,rfl,rfl⟩⟩
theorem FC {i len sz:Nat} {af:List (List AV)} {v:Value} (R:RH C g h N w) (hid:¬ N id) (hv:RV C g h N w (.Zaj i 0 len) v) (ho:h i=some (.af sz af)) (hl:len=af.length):Good C g h N w id (.Zaj id 0 len) [(id,.af sz af),(i,.dead)] v w:=by
 cases hv with
 | Zaj _ _ _ _ hni h1 hp=>
  obtain ⟨h2,h3⟩:=hp sz af ho
  rcases h3 with ⟨a1,a2,a3⟩ | ⟨b,cap,c,e,b1,b2,b3,b4,b5⟩
  ·subst a2 a3 hl
   obtain ⟨g',E,H,hv⟩:=KJ (id:=id) R hid sz
   have ne:i≠id:=fun e=>hid (e ▸ hni)
   have hh:∀ k o,bA [(id,aD.af sz []),(i,.dead)] h k=some o→(k=i∧o=.dead)∨(k≠i∧bA [(id,aD.af sz [])] h k=some o):=fun k o hk=>by
    simp only [bA] at hk ⊢
    split at hk
    ·rename_i e;subst e;cases hk;exact .inr ⟨fun e=>ne e.symm,by rw [if_pos rfl]⟩
    ·rename_i e
     split at hk
     ·rename_i e2;cases hk;exact .inl ⟨e2.symm,rfl⟩
     ·rename_i e2;exact .inr ⟨fun e3=>e2 e3.symm,by rw [if_neg e];exact hk⟩
   have oW:g'.ρ i=none:=by
    cases hr:g'.ρ i with
    | none=>rfl
    | some b=>
     have h4:=H.obj i b (.af sz []) hr (by simp only [bA];rw [if_neg (fun e=>ne e.symm)];exact ho)
     have h5:g'.ρ i=none:=by
      rcases E.cI i a1 hni (.af sz []) (by simp only [bA];rw [if_neg (fun e=>ne e.symm)];exact ho) (by simp) with h6 | ⟨_,_,_,_,_,h7,_⟩
      ·exact h6
      ·cases h7
     rw [h5] at hr;cases hr
   have E2:bV g' (bA [(id,aD.af sz [])] h) (qj N id) w g' (bA [(id,aD.af sz []),(i,.dead)] h) (qj N id) w:={
    os:=rfl
    tape:=rfl
    output:=rfl
    size:=uc _
    old:=fun _ _ _=>⟨rfl,rfl⟩
    own:=fun _ h=>.inl h
    bW:=fun _=>uc _
    cell:=iF.refl _ _
    shape:=fun b c e h=>⟨c,h,rfl⟩
    next:=fun _ h=>h
    eu:=fun k b h _ _ _ _=>.inl h
    cI:=fun k h _ _ _ _=>.inl h
    af:=fun k _ s r hk=>by
     rcases hh k _ hk with ⟨_,h7⟩ | ⟨_,h7⟩
     ·cases h7
     ·exact ⟨r,h7,rfl⟩
    cR:=fun k _ s r hk=>by
     rcases hh k _ hk with ⟨_,h7⟩ | ⟨_,h7⟩
     ·cases h7
     ·exact ⟨r,h7,uc _⟩
    maps:=fun k _ r hk=>by
     rcases hh k _ hk with ⟨_,h7⟩ | ⟨_,h7⟩
     ·cases h7
     ·exact ⟨r,h7⟩
    fJ:=fun k _ ll RR s pe hk=>by
     rcases hh k _ hk with ⟨_,h7⟩ | ⟨_,h7⟩
     ·cases h7
     ·exact ⟨s,pe,h7⟩}
   refine ⟨g',E.trans E2,⟨H.inj,H.lt,fun k o hk => ?_,fun k b o hb hk => ?_,fun k s l hk hr => ?_,H.dX,H.fix.eN E2⟩,hv.mono E2⟩
   ·rcases hh k o hk with ⟨h7,h8⟩ | ⟨h7,h8⟩
    ·subst h7;exact .inl hni
    ·exact H.key k o h8
   ·rcases hh k o hk with ⟨h7,h8⟩ | ⟨h7,h8⟩
    ·subst h8;trivial
    ·exact (H.obj k b o hb h8).keep E2 rfl rfl
   ·rcases hh k _ hk with ⟨h7,h8⟩ | ⟨h7,h8⟩
    ·cases h8
    ·exact H.cQ k s l h8 hr
  ·subst hl b2
   have mG:=R.obj i b _ b1 ho
   simp only [cG] at mG
   obtain ⟨z0,c2,e2,c3,c4,c5⟩:=mG
   rw [b4] at c3
   cases c3
   have:=ZT (id:=id) (b':=b) (w1:=w) R hid ho rfl rfl rfl (uc _) (fun _ _ _=>rfl) (.inr b1) z0 b4 (fun c e hc=>⟨c,hc,rfl⟩) c4 c5 rfl b3 (by simpa using b5)
   simpa using this
theorem M6 {o:Oper} {t t' e:TypeId} {d:TypeDesc} {s x:Operand} {sz bI:Nat} {z:List AV} (ho:o.op=.call {callee:=.builtin .append,args := #[s,x],argTypes := #[t,t']})
  (ht:C.P.underlying t=some (.slice e)) (ht':C.P.underlying t'=some d) (hd:∀ k,d≠.int k) (hsz:zz C.P e=some sz) (hby:xt C.P e=some bI) (hz:qE C.P e=some z)
  (h0:0 < sz) (hzl:z.length=sz) (mD:0 < bI):MW C o sz bI (C.bl s) (C.bl x):=by
 intro g h N w id ev val r aN R hid hv he
 have hs:=hv s (by simp [ho,Op.operands,Call.operands])
 have hx:=hv x (by simp [ho,Op.operands,Call.operands])
 obtain ⟨i,zv,hi,iP,rfl⟩:=jR hz
 have hzs:zv.cells.size=sz:=by simpa using hzl
 have hsize:i.size=sz:=by simpa [zz,hi] using hsz
 have hbytes:i.bytes=bI:=by simpa [xt,hi] using hby
 subst hsize
 subst hbytes
 have exec:∀ v' w',(Builtin.append_ #[t,t'] o.type #[val s,val x]).run C.P w=.ok v' w'→pq C.P (execOp val o) w v' w':=fun v' w' hrun=>by
  refine .inl ?_
  simp [execOp,ho,resolve,invoke,builtin,hrun]
 unfold QZ at he
 split at he
 case h_2=>cases he
 rename_i new hnew
 split at he
 ·cases he
 rename_i hall
 have rm:∀ row∈new,row.length=i.size:=fun row hr=>by
  simp only [u4,u5] at hall
  have:=ux.1 hall row hr
  simpa using this
 obtain ⟨a,cp,CP,news,hn1,hn2,rX,Ar⟩:=VF R hnew hx rm
 have hsrc:Src C.P w i.size new.length (val x) news:=⟨⟨a,cp,CP⟩,hn1,hn2,fun w1 hw1=>Ar C.P w1 hw1⟩
 have BM:∀ (k:Nat) (row:List AV) (j:Nat) (y:AV),new[k]?=some row→row[j]?=some y→∃ u,news[k*i.size+j]?=some u∧u.oneCell'=true∧RV C g h N w y u:=fun k row j y hk hj=>by
  obtain ⟨u,h1,h2⟩:=rX k row j y hk hj
  exact ⟨u,h1,hn2 u (ue h1),h2⟩
 have lB:∀ (k:Nat) (row:List AV),new[k]?=some row→row.length=i.size:=fun k row hk=>rm row (ue hk)
 split at he
 ·rename_i q off len e1
  rw [e1] at hs
  split at he
  ·rename_i sz' af cN
   cases new with
   | nil=>
    split at he
    case isFalse=>cases he
    rename_i bJ
    obtain ⟨rfl,rfl,hlen,hbound⟩:=bJ
    simp only [Option.some.injEq,Prod.mk.injEq] at he
    obtain ⟨rfl,rfl⟩:=he
    have nk:=FC (id:=id) R hid hs cN hlen
    simp only [uu,Ud,List.append_nil]
    have hs0:=hs
    cases hs with
    | Zaj _ _ _ _ hni hone hp=>
     obtain ⟨h3,h4⟩:=hp _ _ cN
     rcases h4 with ⟨hn,hr,hval⟩ | ⟨b,cap,c,e',hb,hval,hle,hw,hcap⟩
     ·subst hr
      have pZ:len=0:=by simp at h3;omega
      have hrun:=Zo (w:=w) (ty:=o.type) ht hi ht' hd (news:=news) (by simpa using hsrc)
      refine ⟨_,_,exec _ _ (by rw [hval];exact hrun),nk⟩
     ·have M7:news=[]:=ui (by rw [hn1];simp)
      obtain ⟨⟨a9,M8,M9⟩,_,_,hread⟩:=hsrc
      have gG:=hread w rfl
      have iz:(match d with | .int _=>true | _=>false)=false:=by cases d<;>first | rfl | exact absurd rfl (hd _)
      refine ⟨val s,w,exec _ _ ?_,nk⟩
      rw [hval]
      rw [M9] at gG ⊢
      simp only [uu] at gG
      simp [Builtin.append_,run_underlying ht,sizeOf,typeInfo,hi,Builtin.lenOf,run_underlying ht',iz,hle,gG,M7,storeCells]
   | cons lN oY=>
    split at he
    ·rename_i bJ
     obtain ⟨rfl,rfl,rfl,hbound⟩:=bJ
     simp only [Option.some.injEq,Prod.mk.injEq] at he
     obtain ⟨rfl,rfl⟩:=he
     have hpos:0 < (lN::oY).length:=by simp
     cases hs with
     | Zaj _ _ _ _ hni hone hp=>
      obtain ⟨h3,h4⟩:=hp _ _ cN
      have FD:(af++(lN::oY)).length=af.length+(lN::oY).length:=by simp
      have mH:(∀ (k:Nat) (row:List AV),af[k]?=some row→row.length=i.size)→∀ (k:Nat) (row:List AV),(af++(lN::oY))[k]?=some row→row.length=i.size:=fun hh k row hk=>by
       rw [uk] at hk
       split at hk
       ·exact hh k row hk
       ·exact lB _ row hk
      have mI:∀ (c':Array Value) ,(∀ (k:Nat) (row:List AV) (j:Nat) (y:AV),af[k]?=some row→row[j]?=some y→∃ u,c'[k*i.size+j]?=some u∧u.oneCell'=true∧RV C g h N w y u)→(∀ q u,news[q]?=some u→c'[af.length*i.size+q]?=some u) →
        ∀ (k:Nat) (row:List AV) (j:Nat) (y:AV),(af++(lN::oY))[k]?=some row→row[j]?=some y→∃ u,c'[k*i.size+j]?=some u∧u.oneCell'=true∧RV C g h N w y u:=fun c' hA hB k row j y hk hj=>by
       rw [uk] at hk
       split at hk
       ·exact hA k row j y hk hj
       ·rename_i hge
        obtain ⟨u,a1,a2,a3⟩:=BM _ row j y hk hj
        refine ⟨u,?_,a2,a3⟩
        rw [←hB _ u a1]
        congr 1
        have:af.length*i.size≤k*i.size:=ud _ (by omega)
        rw [uA]
        omega
      rcases h4 with ⟨hn,hr,hval⟩ | ⟨b,cap,c,e',hb,hval,hle,hw,hcap⟩
      ·subst hr
       obtain ⟨cJ,rest,eX,eY,hrun⟩:=Zp (w:=w) (ty:=o.type) (olds:=[]) (L:=0) (cap:=0) (base:=none) ht hi iP ht' hd hval ⟨⟨none,0,hval⟩,by simp,by simp,fun w1 _=>by rw [hval];simp [Builtin.firstCells]⟩ hsrc (by simp) mD (by simpa using hbound)
       simp only [uy,List.nil_append] at hrun eX eY
       have sx:(news.toArray++rest).size=cJ*i.size:=by
        simp only [uD,uE,hn1,eY,hzs]
        rw [←ug];congr 1;omega
       refine ⟨_,_,exec _ _ hrun,?_⟩
       have:=ZT (id:=id) (b':=w.heap.size) (w1:=w.drew.alloc (.cells (news.toArray++rest) e (0,0))) R hid cN rfl rfl rfl (by simp) (fun k hk _=>qz w.drew _ hk) (.inl (uc _)) R.mz (zW w.drew _)
        (fun c e hc=>by have:=qb hc;omega) (sz:=i.size) (af:=[]++(lN::oY)) (mH (fun k row hk=>by simp at hk)) (mI _ (fun k row j y hk=>by simp at hk) (fun q u hq=>by
         have hlt:q < news.length:=(ua.1 hq).1
         simp only [uu,u0,uy]
         rw [ul (by simpa using hlt)]
         simpa using hq)) (len:=0+(lN::oY).length) (cap:=cJ) (by simp) (by omega) (by omega)
       simpa using this
      ·obtain ⟨gO,c2,e2,pu,gQ,iW⟩:=R.obj q b _ hb cN
       rw [hw] at pu
       cases pu
       simp only [uy,u0] at hcap hval
       by_cases hroom:af.length+(lN::oY).length≤cap
       ·have hm1:(af.length+(lN::oY).length)*i.size≤cap*i.size:=ud _ hroom
        have hfit:af.length*i.size+news.length≤c.size:=by rw [hn1,←ug];omega
        have hrun:=JW (P:=C.P) (w:=w) (ty:=o.type) ht hi ht' hd hw hsrc hroom hfit
        refine ⟨_,_,exec _ _ (by rw [hval];exact hrun),?_⟩
        refine ZT (id:=id) (b':=b) (w1:=zA w b (.cells (qq c (af.length*i.size) news) e' (0,0))) R hid cN rfl rfl rfl (by rw [jc];exact uc _) (fun k hk hne=>by rw [zG w b _ (qb hw),if_neg hne]) (.inr hb) gO (c':=qq c (af.length*i.size) news) (e':=e') (by rw [zG w b _ (qb hw)];simp)
         (fun c3 e3 nQ=>by rw [hw] at nQ;cases nQ;exact ⟨_,by rw [zG w b _ (qb hw),if_pos rfl],jQ _ _ _⟩) (mH gQ) (mI _ (fun k row j y hk hj => ?_) (fun p u pz => ?_)) (by simp) hroom (by rw [jQ];exact hcap)
        ·obtain ⟨cv,a1,a2,a3⟩:=iW k row j y hk hj
         refine ⟨cv,?_,a2,a3⟩
         rw [xQ c _ news hfit,if_neg ?_]
         ·exact a1
         ·have hk':k < af.length:=(ua.1 hk).1
          have hj':j < i.size:=by rw [←gQ k row hk];exact (ua.1 hj).1
          have:(k+1)*i.size≤af.length*i.size:=ud _ hk'
          rw [ug] at this
          omega
        ·have hlt:p < news.length:=(ua.1 pz).1
         rw [xQ c _ news hfit,if_pos (by omega),show af.length*i.size+p - af.length*i.size=p by omega]
         exact pz
       ·have mE:cap < af.length+(lN::oY).length:=by omega
        have hcell:∀ k,k < af.length*i.size→∃ u,c[k]?=some u∧u.oneCell'=true:=fun k hk=>by
         have hi':k / i.size < af.length:=un (by rw [uj];exact hk)
         have hrow:af[k / i.size]?=some af[k / i.size]:=ub hi'
         have hj':k % i.size < (af[k / i.size]).length:=by rw [gQ _ _ hrow];exact uQ _ h0
         obtain ⟨cv,a1,a2,_⟩:=iW _ _ (k % i.size) _ hrow (ub hj')
         refine ⟨cv,?_,a2⟩
         rw [←a1];congr 1
         have:=uI k i.size
         rw [uj] at this;omega
        obtain ⟨olds,rp,BL⟩:=yF (β:=Value) (uB (af.length*i.size)) (fun _ k u=>c[k]?=some u∧u.oneCell'=true) (fun j k hj=>by
         obtain ⟨fe,hj2⟩:=ua.1 hj
         simp at fe hj2
         subst hj2
         exact hcell j fe)
        have pE:olds.length=af.length*i.size:=by simpa using rp
        have mJ:∀ (k:Nat) (u:Value),olds[k]?=some u→c[k]?=some u∧u.oneCell'=true:=fun k u hk=>by
         have hlt:k < af.length*i.size:=by rw [←pE];exact (ua.1 hk).1
         exact BL k k u (by simp [hlt]) hk
        have hold:Src C.P w i.size af.length (val s) olds:=⟨⟨_,cap,hval⟩,pE,fun u hu=>by
         obtain ⟨k,hk⟩:=uo hu
         exact (mJ k u hk).2,fun w1 hw1=>by
         rw [hval]
         simp only [Builtin.firstCells]
         rw [←pE]
         refine run_loadCells_list (P:=C.P) w1 _ olds fun k u hk => ?_
         have:w1.heap[b]?=some (.cells c e' (0,0)):=by rw [hw1];exact hw
         rw [qP,qF this,uy]
         exact (mJ k u hk).1⟩
        obtain ⟨cJ,rest,eX,eY,hrun⟩:=Zp (w:=w) (ty:=o.type) ht hi iP ht' hd hval hold hsrc mE mD hbound
        have sx:((olds++news).toArray++rest).size=cJ*i.size:=by
         simp only [uD,uE,uY,pE,hn1,eY,hzs]
         rw [←ug,←ug];congr 1;omega
        refine ⟨_,_,exec _ _ hrun,?_⟩
        refine ZT (id:=id) (b':=w.heap.size) (w1:=w.drew.alloc (.cells ((olds++news).toArray++rest) e (0,0))) R hid cN rfl rfl rfl (by simp) (fun k hk _=>qz w.drew _ hk) (.inl (uc _)) R.mz (zW w.drew _)
         (fun c3 e3 nQ=>by have:=qb nQ;omega) (mH gQ) (mI _ (fun k row j y hk hj => ?_) (fun p u pz => ?_)) (by simp) eX (by omega)
        ·obtain ⟨cv,a1,a2,a3⟩:=iW k row j y hk hj
         refine ⟨cv,?_,a2,a3⟩
         have hk':k < af.length:=(ua.1 hk).1
         have hj':j < i.size:=by rw [←gQ k row hk];exact (ua.1 hj).1
         have:(k+1)*i.size≤af.length*i.size:=ud _ hk'
         rw [ug] at this
         have hlt:k*i.size+j < olds.length:=by omega
         have fw:=(mJ (k*i.size+j) olds[k*i.size+j] (ub hlt)).1
         rw [a1] at fw
         cases fw
         rw [ul (by simp;omega),uT,uz hlt]
         exact ub hlt
        ·have hlt:p < news.length:=(ua.1 pz).1
         rw [ul (by simp;omega)]
         simp only [uT]
         rw [uw (by omega),←pz]
         congr 1;omega
    ·cases he
  ·cases he
 ·cases he
theorem Na {o:Oper} {t t' e:TypeId} {d:TypeDesc} {s x:Operand} {sz bI:Nat} {z:List AV} (ho:o.op=.call {callee:=.builtin .append,args := #[s,x],argTypes := #[t,t']})
  (ht:C.P.underlying t=some (.slice e)) (ht':C.P.underlying t'=some d) (hd:∀ k,d≠.int k) (hsz:zz C.P e=some sz) (hby:xt C.P e=some bI) (hz:qE C.P e=some z)
  (h0:0 < sz) (hzl:z.length=sz) (mD:0 < bI):aP C o (.app sz bI (C.bl s) (C.bl x)):=by
 intro g h N w id ev val r aN R hid hv he
 simp only [ai] at he
 split at he
 ·rename_i i off len e1
  rw [←e1] at he
  exact M6 ho ht ht' hd hsz hby hz h0 hzl mD g h N w id ev val r aN R hid hv he
 ·exact MX ho ht ht' hd hsz hby hz h0 hzl mD g h N w id ev val r aN R hid hv he
end
end
section
section
variable {C:Ctx} {g g':Gh} {h h':Nat→Option aD} {N N':Nat→Prop} {w w':World} {id:Nat}
theorem FE {Z:Nat→Nat} {row:List IV} {af:List (List IV)} {v:Value} (hr:RI Z w (.slice (row::af)) v):∃ a n cap,v=.slice (some a) n cap:=by
 cases hr with
 | slice _ b off cap sz cv _ _ _ _ _=>exact ⟨_,_,_,rfl⟩
theorem JM {P:Program} {t e:TypeId} (ht:P.underlying t=some (.slice e)) (w:World) (o:Option Addr) (n cap:Nat) :
  (Op.equal t (.slice o n cap) (.slice none 0 0)).run P w=.ok o.isNone w:=by
 have h:∀ d:Nat,(Op.equalIn (d+1) t (.slice o n cap) (.slice none 0 0)).run P w=.ok o.isNone w:=fun d=>by
  cases o<;>simp [Op.equalIn,run_underlying ht]
 exact h 9999
theorem KL {P:Program} {t e:TypeId} (ht:P.underlying t=some (.slice e)) (neg:Bool) (x y:Operand) (w:World) (o:Option Addr) (n cap:Nat) :
  ((do eqGuard (if neg then .neq else .eql) t x y (.slice o n cap) (.slice none 0 0);binOp (if neg then .neq else .eql) t (.slice o n cap) (.slice none 0 0):Sem Value)).run P w=.ok (.bool (if neg then o.isSome else o.isNone)) w:=by
 cases neg<;>simp [eqGuard,binOp,JM ht]
theorem WG {o:Oper} {t t' e:TypeId} {op:BinOp} {neg:Bool} {x y:Operand} (ho:o.op=.binOp op t x y t') (ht:C.P.underlying t=some (.slice e))
  (hop:op=if neg then .neq else .eql):aP C o (.eZ neg (C.bl x) (C.bl y)):=by
 intro g h N w id ev val r aN R hid hv he
 have hx:=hv x (by simp [ho,Op.operands])
 have hy:=hv y (by simp [ho,Op.operands])
 subst hop
 simp only [ai] at he
 split at he
 ·rename_i ey
  rw [ey] at hy
  have hcv:=xg hy
  have exec:∀ v,((do eqGuard (if neg then .neq else .eql) t x y (val x) (.slice none 0 0);binOp (if neg then .neq else .eql) t (val x) (.slice none 0 0):Sem Value)).run C.P w=.ok v w→(execOp val o).run C.P w=.ok (.value v) w:=fun v hr=>by
   simp only [Sem.run_bind] at hr
   simp only [execOp,ho,hcv,Sem.run_bind]
   generalize (eqGuard (if neg then BinOp.neq else .eql) t x y (val x) (.slice none 0 0)).run C.P w=r1 at hr ⊢
   cases r1 with
   | ok u w1=>
    simp only [Result.andThen_ok] at hr ⊢
    rw [hr];rfl
   | halt x w1=>simp [Result.andThen] at hr
  have n7:∀ a n cap,val x=.slice (some a) n cap→AV.ap (.bool neg)=r→[]=aN→∃ v w',pq C.P (execOp val o) w v w'∧Good C g h N w id r aN v w':=fun a n cap hval hr hu=>by
   subst hr;subst hu
   have:=KL ht neg x y w (some a) n cap
   simp only [Option.isSome_some,Option.isNone_some] at this
   exact ⟨.bool neg,w,.inl (exec _ (by rw [hval,this];cases neg<;>rfl)),zt R (.ap _ _ (.bool _))⟩
  split at he
  ·rename_i e1
   rw [e1] at hx
   have hval:=xg hx
   simp only [Option.some.injEq,Prod.mk.injEq] at he
   obtain ⟨rfl,rfl⟩:=he
   have:=KL ht neg x y w none 0 0
   simp only [Option.isSome_none,Option.isNone_none] at this
   exact ⟨.bool (!neg),w,.inl (exec _ (by rw [hval,this];cases neg<;>rfl)),zt R (.ap _ _ (.bool _))⟩
  ·rename_i e1
   rw [e1] at hx
   generalize hval:val x=vx at hx
   simp only [Option.some.injEq,Prod.mk.injEq] at he
   cases hx with
   | cr a cap=>exact n7 _ _ _ hval he.1 he.2
  ·rename_i e1
   rw [e1] at hx
   simp only [Option.some.injEq,Prod.mk.injEq] at he
   cases hx with
   | ap _ _ hr=>
    obtain ⟨a,n,cap,hval⟩:=FE hr
    exact n7 a n cap hval he.1 he.2
  ·rename_i e1
   rw [e1] at hx
   simp only [Option.some.injEq,Prod.mk.injEq] at he
   cases hx with
   | aS _ _ _ hr _ _=>
    obtain ⟨a,n,cap,hval⟩:=FE hr
    exact n7 a n cap hval he.1 he.2
  ·cases he
 ·cases he
theorem Nb {Z:Nat→Nat} {af:List (List IV)} {b off cap sz a r:Nat} {cv:Nat→Nat→Value} (hcap:af.length≤cap) (hsz:∀ (i:Nat) (row:List IV),af[i]?=some row→row.length=sz)
  (hz:∀ (i:Nat) (row:List IV) (j:Nat) (c:IV),af[i]?=some row→row[j]?=some c→off+i*sz+j < Z b)
  (hc:∀ (i:Nat) (row:List IV) (j:Nat) (c:IV),af[i]?=some row→row[j]?=some c→w.cell? ⟨b,off+i*sz+j,none⟩=some (cv i j)∧(cv i j).oneCell'=true)
  (hr:∀ (i:Nat) (row:List IV) (j:Nat) (c:IV),af[i]?=some row→row[j]?=some c→RI Z w c (cv i j)) (har:a≤r) (hrl:r≤af.length) :
  RI Z w (.slice ((af.take r).drop a)) (.slice (some ⟨b,off+a*sz,none⟩) (r - a) (cap - a)):=by
 have hlen:((af.take r).drop a).length=r - a:=by simp;omega
 have cZ:∀ (i:Nat) (row:List IV),((af.take r).drop a)[i]?=some row→af[a+i]?=some row:=fun i row hi=>by
  rw [uq,uK] at hi
  split at hi
  ·exact hi
  ·cases hi
 rw [←hlen]
 refine .slice _ b _ (cap - a) sz (fun i j=>cv (a+i) j) (by rw [hlen];omega) (fun i row hi=>hsz _ row (cZ i row hi)) (fun i row j c hi hj => ?_) (fun i row j c hi hj => ?_) (fun i row j c hi hj=>hr _ row j c (cZ i row hi) hj)
 ·have:=hz _ row j c (cZ i row hi) hj
  rw [ug] at this;omega
 ·have:=hc _ row j c (cZ i row hi) hj
  rw [ug,←Nat.add_assoc] at this
  exact this
theorem Nc {o:Oper} {t e:TypeId} {x:Operand} {lo hi:Option Operand} {sz:Nat} (ho:o.op=.slice t x lo hi none) (ht:C.P.underlying t=some (.slice e)) (hs:zz C.P e=some sz) :
  aP C o (.slc sz (C.bl x) (lo.map C.bl) (hi.map C.bl)):=by
 intro g h N w id ev val r aN R hid hv he
 have hx:=hv x (by simp [ho,Op.operands])
 have key:∀ (af:List (List IV)),RI g.Z w (.slice af) (val x)→∀ (a b:Int),
   (match lo.map C.bl with | none=>some (0:Int) | some y=>match ev y with | .ap (.int _ n)=>some n | _=>none)=some a →
   (match hi.map C.bl with | none=>some (af.length:Int) | some y=>match ev y with | .ap (.int _ n)=>some n | _=>none)=some b →
   0≤a→a≤b→b≤(af.length:Int)→(af.all fun row=>row.length == sz)=true→r=.ap (.slice ((af.take b.toNat).drop a.toNat))→aN=[] →
   ∃ v w',pq C.P (execOp val o) w v w'∧Good C g h N w id r aN v w':=fun af gq a b ha hb h1 h2 h3 h4 hr hu=>by
  subst hr;subst hu
  obtain ⟨a,rfl⟩:=uP h1
  obtain ⟨b,rfl⟩:=uP (by omega:0≤b)
  simp only [Int.toNat_natCast]
  have hlo:∀ (y:Nat) (cd:BoundsCode),a≤y→∀ (Q:Option Value),Q=lo.map val→(match Q with | some v=>Instr.sliceBound v y cd | none=>pure 0:Sem Nat).run C.P w=.ok a w:=fun y cd hy Q hQ=>by
   cases hl:lo with
   | none=>
    rw [hl] at ha hQ
    simp only [uS,Option.some.injEq] at ha
    subst hQ
    have:a=0:=by omega
    subst this
    rfl
   | some z=>
    rw [hl] at ha hQ
    subst hQ
    simp only [uH] at ha ⊢
    have hz:=hv z (by simp [ho,hl,Op.operands])
    split at ha
    ·rename_i n e1
     cases ha
     rw [e1] at hz
     have:=wH hz
     simp [Instr.sliceBound,this,asIntOf,show (a:Int)≤(y:Int) by omega]
    ·cases ha
  have hhi:∀ (y:Nat) (cd:BoundsCode),b≤y→∀ (Q:Option Value),Q=hi.map val→(match Q with | some v=>Instr.sliceBound v y cd | none=>pure af.length:Sem Nat).run C.P w=.ok b w:=fun y cd hy Q hQ=>by
   cases hl:hi with
   | none=>
    rw [hl] at hb hQ
    simp only [uS,Option.some.injEq] at hb
    subst hQ
    have:b=af.length:=by omega
    subst this
    rfl
   | some z=>
    rw [hl] at hb hQ
    subst hQ
    simp only [uH] at hb ⊢
    have hz:=hv z (by simp [ho,hl,Op.operands])
    split at hb
    ·rename_i n e1
     cases hb
     rw [e1] at hz
     have:=wH hz
     simp [Instr.sliceBound,this,asIntOf,show (b:Int)≤(y:Int) by omega]
    ·cases hb
  have bounds:∀ cap,af.length≤cap→(Instr.sliceBounds true af.length cap (lo.map val) (hi.map val) none).run C.P w=.ok (a,b,cap) w:=fun cap hcap=>by
   have h5:=hhi cap .sliceAcap (by omega) _ rfl
   have h6:=hlo b .sliceB (by omega) _ rfl
   unfold Instr.sliceBounds
   cases hh:hi<;>cases hl:lo<;>simp only [hh,hl,uS,uH,Sem.run_pure,Result.ok.injEq,and_true] at h5 h6<;>simp [h5,h6]
  rcases Q1 gq with ⟨rfl,hval⟩ | ⟨bb,off,cap,sz',cv,hval,hcap,hsz,rS,hc,hr⟩
  ·have hb0:b=0:=by simp at h3;omega
   have ha0:a=0:=by omega
   subst hb0;subst ha0
   rcases hval with hval | ⟨aa,cap,hval⟩
   ·refine ⟨.slice none 0 0,w,.inl ?_,zt R (by simpa using RV.ap (C:=C) (g:=g) (h:=h) (N:=N) _ _ RI.nil)⟩
    have hbd:=bounds 0 (by simp)
    simp only [uu] at hbd
    simp [execOp,ho,Instr.sliceAt,Instr.slice,run_underlying ht,hval,hbd,zT hs]
   ·have hbd:=bounds cap (by simp)
    simp only [uu] at hbd
    refine ⟨.slice (some (if cap=0 then aa else aa.add 0)) 0 cap,w,.inl ?_,zt R (by simpa using RV.ap (C:=C) (g:=g) (h:=h) (N:=N) _ _ yf)⟩
    by_cases hca:cap=0
    ·subst hca
     simp [execOp,ho,Instr.sliceAt,Instr.slice,run_underlying ht,hval,hbd,zT hs]
    ·simp [execOp,ho,Instr.sliceAt,Instr.slice,run_underlying ht,hval,hbd,zT hs,hca]
  ·refine ⟨.slice (some (if cap=a then ⟨bb,off,none⟩ else ⟨bb,off+a*sz,none⟩)) (b - a) (cap - a),w,.inl ?_,zt R (.ap _ _ ?_)⟩
   ·have hbd:=bounds cap hcap
    by_cases hca:cap=a
    ·subst hca
     simp [execOp,ho,Instr.sliceAt,Instr.slice,run_underlying ht,hval,hbd,zT hs]
    ·simp [execOp,ho,Instr.sliceAt,Instr.slice,run_underlying ht,hval,hbd,zT hs,hca,qP]
   ·by_cases hca:cap=a
    ·rw [if_pos hca]
     have hba:b - a=0:=by omega
     have hl:((af.take b).drop a)=[]:=ui (by simp;omega)
     rw [hl,hba]
     exact yf
    ·rw [if_neg hca]
     by_cases gG:af=[]
     ·subst gG
      have hb0:b=0:=by simp at h3;omega
      subst hb0
      simp
      exact yf
     ·have hs0:sz'=sz:=by
       cases af with
       | nil=>exact absurd rfl gG
       | cons row rest=>
        have h7:=hsz 0 row rfl
        have h8:=ux.1 h4 row List.mem_cons_self
        simp at h8
        omega
      subst hs0
      exact Nb hcap hsz rS hc hr (by omega) (by omega)
 simp only [ai] at he
 split at he
 ·rename_i af e1
  rw [e1] at hx
  split at he
  ·rename_i a b ha hb
   split at he
   ·rename_i bJ
    simp only [Option.some.injEq,Prod.mk.injEq] at he
    cases hx with
    | ap _ _ gq=>exact key af gq a b ha hb bJ.1 bJ.2.1 bJ.2.2.1 bJ.2.2.2 he.1.symm he.2.symm
   ·cases he
  ·cases he
 ·rename_i j af e1
  rw [e1] at hx
  split at he
  ·rename_i a b ha hb
   split at he
   ·rename_i bJ
    simp only [Option.some.injEq,Prod.mk.injEq] at he
    cases hx with
    | aS _ _ _ gq _ _=>exact key af gq a b ha hb bJ.1 bJ.2.1 bJ.2.2.1 bJ.2.2.2 he.1.symm he.2.symm
   ·cases he
  ·cases he
 ·cases he
end
end
section
section
variable {C:Ctx} {g g':Gh} {h h':Nat→Option aD} {N N':Nat→Prop} {w w':World} {id:Nat}
theorem Nd {o:Oper} {x:Operand} (ho:o.op=.nilCheck x):aP C o (.oS (C.bl x)):=by
 intro g h N w id ev val r aN R hid hv he
 have hx:=hv x (by simp [ho,Op.operands])
 simp only [ai] at he
 split at he
 ·rename_i i r o e1
  rw [e1] at hx
  split at he
  ·rename_i sz af cN
   cases he
   have hx':=hx
   cases hx with
   | ptr _ _ _ _ hni hone hp=>
    obtain ⟨b,hb,hval⟩:=hp _ _ cN
    refine ⟨val x,w,.inl ?_,zt R hx'⟩
    simp [execOp,ho,hval]
  ·cases he
 ·rename_i cs e1
  rw [e1] at hx
  cases he
  have hx':=hx
  generalize hval:val x=v at hx hx'
  cases hx with
  | cE _ b off cv hz hc hr=>
   exact ⟨_,w,.inl (by simp [execOp,ho,hval]),zt R hx'⟩
 ·rename_i f a b e1
  rw [e1] at hx
  cases he
  have hx':=hx
  generalize hval:val x=v at hx hx'
  cases hx with
  | func _ _ _ vf vc hlf hlc hf hc=>
   exact ⟨_,w,.inl (by simp [execOp,ho,hval]),zt R hx'⟩
 ·cases he
theorem Nf {o:Oper} {t e:TypeId} {x ix:Operand} {sz n:Nat} (ho:o.op=.index t x ix) (ht:C.P.underlying t=some (.array n e)) (hn:zz C.P e=some sz) (hag:jE C.P e=some false) :
  aP C o (.ixa n sz (C.bl x) (C.bl ix)):=by
 intro g h N w id ev val r aN R hid hv he
 have hx:=hv x (by simp [ho,Op.operands])
 have hi:=hv ix (by simp [ho,Op.operands])
 simp only [ai] at he
 split at he
 ·rename_i k m cs e1 e2
  rw [e1] at hi
  rw [e2] at hx
  have iG:=wH hi
  split at he
  ·rename_i hle
   obtain ⟨rfl,gM,fL⟩:=hle
   rw [uh] at he
   obtain ⟨c,hc,he⟩:=he
   cases he
   generalize hval:val x=v at hx
   cases hx with
   | agg _ vs hl h1 hr=>
    have hlt:m.toNat < vs.length:=by rw [←hl];exact (ua.1 hc).1
    refine ⟨vs[m.toNat],w,.inl ?_,zt R (hr _ _ _ hc (by simp))⟩
    have hg:vs.toArray[m.toNat]?=some (vs[m.toNat]'hlt):=by simp
    have hp:(part e vs.toArray m.toNat).run C.P w=.ok vs[m.toNat] w:=by
     simp only [part,Sem.run_bind,wb hag,Result.andThen_ok,ut,if_false,hg,Sem.run_pure]
    simp [execOp,ho,Instr.index,iG,asIntOf,run_underlying ht,hval,gM,fL,zT hn,hp]
  ·cases he
 ·cases he
theorem VH {o:Oper} {t:TypeId} {parts:Array (Nat×Operand)} {n sz:Nat} {e:TypeId} {z:List AV} (ho:o.op=.build t parts)
  (ht:C.P.underlying t=some (.array n e)) (hz:qE C.P t=some z) (hsz:zz C.P e=some sz)
  (h1:∀ i v,C.P.info? t=some i→i.zero=some v→j8 v=true):aP C o (.build z (parts.toList.map fun p=>(p.1*sz,sz,C.bl p.2))):=by
 intro g h N w id ev val r aN R hid hv he
 obtain ⟨i,zv,hi,iP,rfl⟩:=jR hz
 have hone:=h1 i zv hi iP
 simp only [ai] at he
 split at he
 ·rename_i qs Ap
  split at he
  ·rename_i out hout
   simp only [Option.some.injEq,Prod.mk.injEq] at he
   obtain ⟨rfl,rfl⟩:=he
   have n5:aI (fun p:Nat×Operand=>match (fun i=>some (i*sz,sz):Nat→Option (Nat×Nat)) p.1 with
     | some (o,n)=>some (o,n,C.bl p.2)
     | none=>none) parts.toList=some (parts.toList.map fun p=>(p.1*sz,sz,C.bl p.2)):=by
    generalize parts.toList=l
    induction l with
    | nil=>rfl
    | cons a l ih=>simp only [aI,ih,List.map_cons]
   obtain ⟨c',h2,h3⟩:=WE (C:=C) (g:=g) (h:=h) (N:=N) (w:=w) (fun i=>some (i*sz,sz)) ev val parts.toList _ qs _ out zv.cells n5 Ap
    (fun p hp=>hv p.2 (by simp only [ho,Op.operands];simp;exact ⟨p.1,by simpa using hp⟩)) (ZS hone) hout
   refine ⟨.agg c',w,.inl ?_,zt R ?_⟩
   ·have h2':Instr.fill (fun i=>some (i*sz,sz)) zv.cells (List.map (fun p=>(p.fst,val p.snd)) parts.toList)=some c':=h2
    simp [execOp,ho,Instr.build,zeroValue,typeInfo,hi,iP,run_underlying ht,zT hsz,h2']
   ·have:=RV.agg (C:=C) (g:=g) (h:=h) (N:=N) (w:=w) out c'.toList (by simpa using h3.1) (fun v hv=>by
     obtain ⟨j,hj⟩:=uo hv
     have hlt:j < out.length:=by rw [h3.1];simpa using (ua.1 hj).1
     obtain ⟨u,hu,h4,_⟩:=h3.2 j out[j] (by simp)
     simp only [uU] at hj
     rw [hj] at hu;cases hu;exact h4) (fun j x v hj hj'=>by
     obtain ⟨u,hu,_,h5⟩:=h3.2 j x hj
     simp only [uU] at hj'
     rw [hj'] at hu;cases hu;exact h5)
    simpa using this
  ·cases he
 ·cases he
theorem aP.like {o o':Oper} {ao:cO} (hs:aP C o' ao) (h1:o.op.operands=o'.op.operands) (h2:∀ val,execOp val o=execOp val o'):aP C o ao:=by
 intro g h N w id ev val r aN R hid hv he
 obtain ⟨v,w',h3,h4⟩:=hs g h N w id ev val r aN R hid (fun x hx=>hv x (by rw [h1];exact hx)) he
 exact ⟨v,w',by rw [h2];exact h3,h4⟩
theorem KM {o:Oper} {str:Bool} {t kt et:TypeId} {m k v:Operand} {d:TypeDesc} (ho:o.op=.insert t m k v)
  (ht:C.P.underlying t=some (.map kt et)) (oV:C.P.underlying kt=some d) (hd:Za str d) :
  aP C o (.upd str (C.bl m) (C.bl k) (C.bl v)):=
 aP.like (o':={o with op:=.mapUpdate t m k v}) (JU rfl ht oV hd) (by simp [ho,Op.operands]) (fun val=>by simp only [execOp,ho])
theorem Ng {o:Oper} {t e:TypeId} {ts:Array TypeId} {d x:Operand} {sz:Nat} (ho:o.op=.call {callee:=.builtin .copy,args := #[d,x],argTypes:=ts}) (h0:ts[0]?=some t)
  (ht:C.P.underlying t=some (.slice e)) (hn:zz C.P e=some sz):aP C o (.copy sz (C.bl d) (C.bl x)):=by
 intro g h N w id ev val r aN R hid hv he
 have hd:=hv d (by simp [ho,Op.operands,Call.operands])
 have hx:=hv x (by simp [ho,Op.operands,Call.operands])
 simp only [ai,BJ] at he
 split at he
 ·rename_i i len e1
  rw [e1] at hd
  split at he
  ·rename_i sz' af cN
   split at he
   ·rename_i new hnew
    split at he
    ·rename_i bJ
     obtain ⟨hs1,lI,ig,hall⟩:=bJ
     subst hs1
     simp only [Option.some.injEq,Prod.mk.injEq] at he
     obtain ⟨rfl,rfl⟩:=he
     have hsz:∀ row∈new,row.length=sz':=fun row hr=>by simpa using ux.1 hall row hr
     obtain ⟨a,cap,hval,news,hn1,hn2,rX,Ar⟩:=VF R hnew hx hsz
     generalize FF:val d=vd at hd
     cases hd with
     | Zaj _ _ _ _ hni hone hp=>
      obtain ⟨_,h2⟩:=hp _ _ cN
      have hf:=Ar C.P w rfl
      rw [hval] at hf
      rcases h2 with ⟨_,gG,pF⟩ | ⟨b,cap',c,e',hb,pF,hle,hw,hcap⟩
      ·subst gG pF
       have Ay:len=0:=by simpa using lI
       subst Ay
       have Az:new=[]:=ui ig
       subst Az
       refine ⟨.int .i64 0,w,.inl ?_,?_⟩
       ·simp [execOp,ho,resolve,invoke,builtin,Builtin.copy_,FF,hval,h0,run_underlying ht,Builtin.lenOf,zT hn,goInt] at hf ⊢
        simp [hf]
       ·have hne:g.ρ i=none∨∃ b,g.ρ i=some b:=by cases g.ρ i<;>simp
        have e0:bA [(i,aD.af sz' [])] h=h:=by
         funext k;simp only [bA];split
         ·rename_i e;subst e;exact cN.symm
         ·rfl
        refine ⟨g,?_,?_,.ap _ _ (.int _ _)⟩
        ·rw [e0];exact bV.add g h N w id
        ·rw [e0];exact R.add id
      ·subst pF
       obtain ⟨w',hs1,hs2⟩:=JQ (id:=id) R hb cN (by omega) hsz news hn1 hn2 rX (.ap (.int .i64 (len:Int))) (.int .i64 (len:Int)) (fun _ _ _ _=>.ap _ _ (.int _ _))
       refine ⟨_,w',.inl ?_,hs2⟩
       rw [ig] at hf hval
       simp [execOp,ho,resolve,invoke,builtin,Builtin.copy_,FF,hval,h0,run_underlying ht,Builtin.lenOf,zT hn,goInt,hf,hs1]
    ·cases he
   ·cases he
  ·cases he
 ·cases he
end
end
section
section
variable {C:Ctx} {g g':Gh} {h h':Nat→Option aD} {N N':Nat→Prop} {w w':World} {id:Nat}
theorem Nh (R:RH C g h N w) {x:AV} {v:Value} {b:Bool} (he:vF h x=some b) (hv:RV C g h N w x v):∃ o:Option Nat,v=.map o∧o.isNone=b:=by
 unfold vF at he
 split at he
 ·rename_i i
  split at he
  ·rename_i es cN
   cases he
   cases hv with
   | map _ _ hni hone hp=>
    obtain ⟨b,hb,hval⟩:=hp _ cN
    exact ⟨some b,hval,rfl⟩
  ·cases he
 ·cases he
  cases hv with
  | ap _ _ hr=>cases hr with | eI _ b=>exact ⟨some b,rfl,rfl⟩
 ·cases he
  cases hv with
  | ap _ _ hr=>cases hr with | cP=>exact ⟨none,rfl,rfl⟩
 ·cases he
theorem WD {P:Program} {t k e:TypeId} (ht:P.underlying t=some (.map k e)) (w:World) (o:Option Nat) :
  (Op.equal t (.map o) (.map none)).run P w=.ok o.isNone w:=by
 have h:∀ d:Nat,(Op.equalIn (d+1) t (.map o) (.map none)).run P w=.ok o.isNone w:=fun d=>by
  cases o<;>simp [Op.equalIn,run_underlying ht]
 exact h 9999
theorem Ni {P:Program} {t k e:TypeId} (ht:P.underlying t=some (.map k e)) (neg:Bool) (x y:Operand) (w:World) (o:Option Nat) :
  ((do eqGuard (if neg then .neq else .eql) t x y (.map o) (.map none);binOp (if neg then .neq else .eql) t (.map o) (.map none):Sem Value)).run P w=.ok (.bool (if neg then !o.isNone else o.isNone)) w:=by
 cases neg<;>simp [eqGuard,binOp,WD ht]
theorem VI {o:Oper} {t t' kt et:TypeId} {op:BinOp} {neg:Bool} {x y:Operand} (ho:o.op=.binOp op t x y t') (ht:C.P.underlying t=some (.map kt et))
  (hop:op=if neg then .neq else .eql):aP C o (.eqnm neg (C.bl x) (C.bl y)):=by
 intro g h N w id ev val r aN R hid hv he
 have hx:=hv x (by simp [ho,Op.operands])
 have hy:=hv y (by simp [ho,Op.operands])
 subst hop
 simp only [ai] at he
 split at he
 ·rename_i b ey en
  rw [ey] at hy
  have hcv:val y=.map none:=by
   generalize val y=vy at hy
   cases hy with
   | ap _ _ hr=>cases hr with | cP=>rfl
  obtain ⟨om,hval,Nj⟩:=Nh R en hx
  simp only [Option.some.injEq,Prod.mk.injEq] at he
  obtain ⟨rfl,rfl⟩:=he
  have exec:∀ v,((do eqGuard (if neg then .neq else .eql) t x y (val x) (.map none);binOp (if neg then .neq else .eql) t (val x) (.map none):Sem Value)).run C.P w=.ok v w→(execOp val o).run C.P w=.ok (.value v) w:=fun v hr=>by
   simp only [Sem.run_bind] at hr
   simp only [execOp,ho,hcv,Sem.run_bind]
   generalize (eqGuard (if neg then BinOp.neq else .eql) t x y (val x) (.map none)).run C.P w=r1 at hr ⊢
   cases r1 with
   | ok u w1=>
    simp only [Result.andThen_ok] at hr ⊢
    rw [hr];rfl
   | halt x w1=>simp [Result.andThen] at hr
  refine ⟨.bool (if neg then !b else b),w,.inl (exec _ ?_),zt R (.ap _ _ (.bool _))⟩
  rw [hval,Ni ht neg x y w om,Nj]
 ·cases he
theorem Nk {x:AV} {v:Value} {cs:List AV} (hx:QY x=some cs) (hv:RV C g h N w x v):∃ vs:List Value,v=.agg vs.toArray∧cs.length=vs.length∧(∀ u∈vs,u.oneCell'=true) ∧
  ∀ (i:Nat) (c:AV) (u:Value),cs[i]?=some c→vs[i]?=some u→RV C g h N w c u:=by
 unfold QY at hx
 split at hx
 ·cases hx
  cases hv with
  | ap _ _ hr=>
   cases hr with
   | agg _ vs hl h1 hr=>
    refine ⟨vs,rfl,by simpa using hl,h1,fun i c u hc hu => ?_⟩
    rw [um,uh] at hc
    obtain ⟨y,hy,rfl⟩:=hc
    exact .ap _ _ (hr i y u hy hu)
 ·cases hx
  cases hv with
  | agg _ vs hl h1 hr=>exact ⟨vs,rfl,hl,h1,hr⟩
 ·cases hx
theorem Nl {o:Oper} {s:TypeId} {x:Operand} {f n:Nat} {ag:Bool} {fs:Array Field} {fd:Field} (ho:o.op=.field s x f) (hs:C.P.underlying s=some (.struct fs)) (hf:fs[f]?=some fd)
  (hn:zz C.P fd.type=some n) (hag:jE C.P fd.type=some ag) (hn0:n≠0):aP C o (.cut ag fd.offset n (C.bl x)):=by
 intro g h N w id ev val r aN R hid hv he
 have hx:=hv x (by simp [ho,Op.operands])
 simp only [ai] at he
 split at he
 ·rename_i cs e1
  obtain ⟨vs,hval,hl,h1,hr⟩:=Nk e1 hx
  split at he
  ·rename_i hle
   cases ag with
   | true=>
    simp only [if_true,Option.some.injEq,Prod.mk.injEq] at he
    obtain ⟨rfl,rfl⟩:=he
    refine ⟨.agg ((vs.drop fd.offset).take n).toArray,w,.inl ?_,zt R ?_⟩
    ·have e2:vs.toArray.extract fd.offset (fd.offset+n)=((vs.drop fd.offset).take n).toArray:=by
      simp [List.extract_toArray,uL]
     simp [execOp,ho,Instr.field,run_underlying hs,hf,hval,part,asAgg,wb hag,zT hn,e2]
    ·refine .agg _ _ (by simp [hl]) (fun u hu=>h1 u (List.mem_of_mem_drop (List.mem_of_mem_take hu))) fun i c u hc hu => ?_
     rw [uK] at hc hu
     split at hc
     ·rename_i hi
      rw [if_pos hi] at hu
      rw [uq] at hc hu
      exact hr _ c u hc hu
     ·cases hc
   | false=>
    simp only [ut,if_false,uh] at he
    obtain ⟨c,hc,he⟩:=he
    simp only [Prod.mk.injEq] at he
    obtain ⟨rfl,rfl⟩:=he
    have hlt:fd.offset < vs.length:=by omega
    refine ⟨vs[fd.offset],w,.inl ?_,zt R (hr _ c _ hc (by simp))⟩
    simp [execOp,ho,Instr.field,run_underlying hs,hf,hval,part,asAgg,wb hag,hlt]
  ·cases he
 ·cases he
end
end
section
section
variable {C:Ctx}
theorem VJ (o:Oper) (f:aZ) (args:List aZ):aP C o (.call f args):=by
 intro g h N w id ev val r aN R hid hv he
 simp [ai] at he
theorem Nn {o:Oper} {op:BinOp} {t t':TypeId} {x y:Operand} {ao:cO} (ho:o.op=.binOp op t x y t') (hc:XZ C op t x y=some ao):aP C o ao:=by
 unfold XZ at hc
 split at hc
 ·cases hc;exact KB ho
 ·cases hc;exact KB ho
 ·rename_i hu
  split at hc
  ·cases hc;exact KC (neg:=false) ho hu rfl
  ·cases hc;exact KC (neg:=true) ho hu rfl
  ·cases hc
 ·rename_i e hu
  split at hc
  ·cases hc;exact WG (neg:=false) ho hu rfl
  ·cases hc;exact WG (neg:=true) ho hu rfl
  ·cases hc
 ·rename_i kt et hu
  split at hc
  ·cases hc;exact VI (neg:=false) ho hu rfl
  ·cases hc;exact VI (neg:=true) ho hu rfl
  ·cases hc
 ·rename_i fs hu
  split at hc
  ·rename_i ks hks
   split at hc
   ·cases hc
   ·rename_i hg
    have hg':C.P.eqGuardType C.P.depth t=false:=by simpa using hg
    split at hc
    ·cases hc;exact KI (neg:=false) ho hu hks hg' rfl
    ·cases hc;exact KI (neg:=true) ho hu hks hg' rfl
    ·cases hc
  ·cases hc
 ·cases hc
theorem WZ {o:Oper} {b:Builtin} {args:Array Operand} {ts:Array TypeId} {ao:cO} (ho:o.op=.call {callee:=.builtin b,args,argTypes:=ts}) (hc:yE C b args.toList ts.toList=some ao):aP C o ao:=by
 obtain ⟨args⟩:=args
 obtain ⟨ts⟩:=ts
 simp only at hc
 unfold yE at hc
 split at hc
 ·split at hc
  ·rename_i hu;cases hc;exact Mx ho hu
  ·rename_i hu;cases hc;exact My ho hu
  ·rename_i hu;cases hc;exact Mz ho hu
  ·cases hc
 ·cases hc;exact Fm (mx:=true) ho
 ·cases hc;exact Fm (mx:=false) ho
 ·split at hc
  ·rename_i e e2 hu oU
   split at hc
   ·rename_i sz bI z h1 h2 h3
    split at hc
    ·rename_i bJ
     cases hc
     exact Na ho hu oU (fun k=>by simp) h1 h2 h3 bJ.1 bJ.2.1 bJ.2.2
    ·cases hc
   ·cases hc
  ·cases hc
 ·rename_i d x t r
  split at hc
  ·rename_i e hu
   split at hc
   ·rename_i sz h1;cases hc;exact Ng ho (by simp) hu h1
   ·cases hc
  ·cases hc
 ·cases hc
theorem FG {o:Oper} {ao:cO} (hc:yU C o.op=some ao):aP C o ao:=by
 unfold yU at hc
 split at hc
 ·rename_i x ho;cases hc;exact Ky (.inl ho)
 ·rename_i x ho;cases hc;exact Ky (.inr ho)
 ·rename_i c a b ho;cases hc;exact Mk ho
 ·rename_i t ho
  split at hc
  ·rename_i n e hu
   split at hc
   ·rename_i sz z h1 h2
    split at hc
    ·rename_i bJ;cases hc;exact kL (e:=e) ho h2 bJ.1 (xR h2)
    ·cases hc
   ·cases hc
  ·split at hc
   ·rename_i z h2;cases hc;exact Ml ho h2 (xR h2)
   ·cases hc
  ·cases hc
 ·rename_i t x ho
  split at hc
  ·cases hc;exact Mm ho
  ·cases hc
 ·rename_i t parts ho
  split at hc
  ·rename_i fs z hu hz
   split at hc
   ·rename_i ps hps
    split at hc
    ·rename_i hs;cases hc;exact MG ho hu hz (xR hz) hs hps
    ·cases hc
   ·cases hc
  ·rename_i n e z hu hz
   split at hc
   ·rename_i sz hs;cases hc;exact VH ho hu hz hs (xR hz)
   ·cases hc
  ·cases hc
 ·rename_i t len parts ho
  split at hc
  ·rename_i e hu
   split at hc
   ·rename_i sz z h1 h2
    split at hc
    ·rename_i bJ;cases hc;exact MK ho hu h1 h2 bJ.1 bJ.2.1 bJ.2.2 (xR h2)
    ·cases hc
   ·cases hc
  ·cases hc
 ·rename_i t a ho
  split at hc
  ·rename_i ag n h1 h2;cases hc;exact Mn ho h1 h2
  ·cases hc
 ·rename_i t a v ho
  split at hc
  ·rename_i n h1;cases hc;exact Mo ho h1
  ·cases hc
 ·rename_i s x f ho
  split at hc
  ·rename_i fs hu
   split at hc
   ·rename_i fd hf
    split at hc
    ·rename_i n hn
     split at hc
     ·cases hc
     ·rename_i hn0;cases hc;exact Mq ho hu hf hn hn0
    ·cases hc
   ·cases hc
  ·cases hc
 ·rename_i s x f ho
  split at hc
  ·rename_i fs hu
   split at hc
   ·rename_i fd hf
    split at hc
    ·rename_i n ag hn hag
     split at hc
     ·cases hc
     ·rename_i hn0;cases hc;exact Nl ho hu hf hn hag hn0
    ·cases hc
   ·cases hc
  ·cases hc
 ·rename_i t x i ho
  split at hc
  ·rename_i e hu
   split at hc
   ·rename_i sz h1;cases hc;exact Mr ho hu h1
   ·cases hc
  ·rename_i n e hu
   split at hc
   ·rename_i sz h1;cases hc;exact Ms ho hu h1
   ·cases hc
  ·cases hc
 ·rename_i op t x y t' ho;exact Nn ho hc
 ·rename_i t x ho;cases hc;exact Mu ho
 ·rename_i t x ho;cases hc;exact Mv ho
 ·rename_i s d x ho
  split at hc
  ·rename_i k0 k h1 h2;cases hc;exact Mw ho h1 h2
  ·cases hc
 ·rename_i x i ho;cases hc;exact MA ho
 ·rename_i f first bt ho
  split at hc
  ·rename_i i hi;cases hc;exact MC ho hi
  ·cases hc
 ·rename_i t ho;cases hc;exact MD ho
 ·rename_i t m k ok ho
  split at hc
  ·rename_i kt et hu
   split at hc
   ·rename_i kk i hk hi
    split at hc
    ·rename_i z hz;cases hc;exact VE (str:=false) ho hu hk ⟨kk,rfl⟩ hi hz
    ·cases hc
   ·rename_i i hk hi
    split at hc
    ·rename_i z hz;cases hc;exact VE (str:=true) ho hu hk rfl hi hz
    ·cases hc
   ·cases hc
  ·cases hc
 ·rename_i t m k v ho
  split at hc
  ·rename_i kt et hu
   split at hc
   ·rename_i kk hk;cases hc;exact JU (str:=false) ho hu hk ⟨kk,rfl⟩
   ·rename_i hk;cases hc;exact JU (str:=true) ho hu hk rfl
   ·cases hc
  ·cases hc
 ·rename_i t m k v ho
  split at hc
  ·rename_i kt et hu
   split at hc
   ·rename_i kk hk;cases hc;exact KM (str:=false) ho hu hk ⟨kk,rfl⟩
   ·rename_i hk;cases hc;exact KM (str:=true) ho hu hk rfl
   ·cases hc
  ·cases hc
 ·rename_i x ho;cases hc;exact Nd ho
 ·rename_i t x i ho
  split at hc
  ·rename_i n e hu
   split at hc
   ·rename_i sz h1 h2;cases hc;exact Nf ho hu h1 h2
   ·cases hc
  ·cases hc
 ·rename_i t l c ho
  split at hc
  ·rename_i e hu
   split at hc
   ·rename_i sz bI z h1 h2 h3
    split at hc
    ·rename_i bJ
     obtain ⟨rfl,h4,h5⟩:=bJ
     cases hc
     exact MN ho hu h1 h2 h3 h4 h5 (xR h3)
    ·cases hc
   ·cases hc
  ·cases hc
 ·rename_i t x lo hi ho
  split at hc
  ·rename_i e hu
   split at hc
   ·rename_i sz h1;cases hc;exact Nc ho hu h1
   ·cases hc
  ·cases hc
 ·rename_i b args ts ho;exact WZ ho hc
 ·cases hc;exact VJ _ _ _
 ·cases hc;exact VJ _ _ _
 ·rename_i t x ho
  split at hc
  ·rename_i fs hu;cases hc;exact M4 ho hu
  ·cases hc
 ·cases hc
end
end
structure aM where
 dst:Option Nat
 op:cO
 guard:Option (Nat×Bool)
 deriving Inhabited
inductive cA where
 | skip
 | region (draw:Bool) (ord:List Nat) (items:List aM) (keep:Option (List Nat))
 | seq (x y:cA)
 | cond (c:aZ) (x y:cA)
 | block (id:Nat) (x:cA)
 | loop (x:cA)
 | scope (x:cA)
 | exit (id:Nat)
 | ret
 | range (f:aZ) (ps:List Nat) (assign body:cA)
 deriving Inhabited
def cA.erase:cA→cA
 | .region d ord items _=>.region d ord items none
 | .seq x y=>.seq x.erase y.erase
 | .cond c x y=>.cond c x.erase y.erase
 | .block id x=>.block id x.erase
 | .loop x=>.loop x.erase
 | .scope x=>.scope x.erase
 | .range f ps x y=>.range f ps x.erase y.erase
 | c=>c
def FH (nt:Nat):Option Nat→Bool
 | some d=>decide (d < nt)
 | none=>true
def xv (C:Ctx) (nt:Nat) (ops:Array Oper) (o:Oper):Option aM:=
 match yU C o.op with
 | some ao=>
  if FH nt o.dst then
   match o.guard with
   | none=>some ⟨o.dst,ao,none⟩
   | some (j,want)=>match (ops[j]?).bind (·.dst) with
    | some t=>if t < nt then some ⟨o.dst,ao,some (t,want)⟩ else none
    | none=>none
  else none
 | none=>none
def ed (ord:List Nat) (i j:Nat):Bool:=(ord.getD j 0).testBit i
def vK (ops:Array Oper) (ord:List Nat):Bool:=
 ((uB ops.size).all fun i=>match ops[i]? with
  | some oi=>oi.after.all fun e=>!Region.binds .any e||decide (e.on < i)
  | none=>true) &&
 (uB ops.size).all fun i=>match ops[i]? with
  | some oi=>match oi.dst with
   | some d=>(uB ops.size).all fun j=>i == j||match ops[j]? with
    | some oj=>oj.dst != some d&&(!((oj.looksAt ops).contains d)||(if i < j then ed ord i j else ed ord j i))
    | none=>true
   | none=>true
  | none=>true
def comp (C:Ctx) (nt:Nat):Code→Option cA
 | .skip=>some .skip
 | .region _ ops draw=>match aI (xv C nt ops) ops.toList with
  | some items=>if draw then (if C.P.follows .mixedOrders&&vK ops (Region.before ops).toList then some (.region true (Region.before ops).toList items none) else none) else some (.region false [] items none)
  | none=>none
 | .seq a b=>match comp C nt a,comp C nt b with
  | some x,some y=>some (.seq x y)
  | _,_=>none
 | .cond c a b=>match comp C nt a,comp C nt b with
  | some x,some y=>some (.cond (C.bl c) x y)
  | _,_=>none
 | .block id a=>match comp C nt a with
  | some x=>some (.block id x)
  | none=>none
 | .loop a=>match comp C nt a with
  | some x=>some (.loop x)
  | none=>none
 | .scope a=>match comp C nt a with
  | some x=>some (.scope x)
  | none=>none
 | .label _=>some .skip
 | .exit id=>some (.exit id)
 | .ret=>some .ret
 | .rangeFunc f ps a b=>if ps.toList.all (fun t=>decide (t < nt)) then match comp C nt a,comp C nt b with
  | some x,some y=>some (.range (C.bl f) ps.toList x y)
  | _,_=>none
  else none
 | _=>none
inductive dy where
 | tmp (t:Nat)
 | cell (t:Nat) (agg:Bool) (n:Nat)
 deriving Inhabited
structure dw where
 nt:Nat
 results:List dy
 body:cA
 deriving Inhabited
def yg (C:Ctx):ResultVar→Option dy
 | .tmp t=>some (.tmp t)
 | .cell t ty=>match jE C.P ty,zz C.P ty with
  | some ag,some n=>some (.cell t ag n)
  | _,_=>none
def dw.erase (F:dw):dw:={F with body:=F.body.erase}
def qn (C:Ctx) (f:Nat):Option dw:=match C.P.funcs[C.ez f]? with
 | some fn=>match fn.body with
  | some code=>match comp C fn.ntmps code,aI (yg C) fn.results.toList with
   | some ac, some rs => if fn.name == "runtime.NumGoroutine" then none else some ⟨fn.ntmps, rs, ac⟩
   | _,_=>none
  | none=>none
 | none=>none
end Go.Proofs.YtlpmnmbebkdocaaGreatDoor
