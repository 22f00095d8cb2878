/-
  The abstract machine: maps with keys of one scalar kind; equality of structs of scalars.
  The abstract machine: append.
  The abstract machine: append, onto slices that a name owns.
  The abstract machine: append is sound.
  The abstract machine: equality of structs of scalars.
  The abstract machine: append onto a slice that its owner also writes into.
  The abstract machine: slices against nil; slice expressions.
  The abstract machine: tests for nil, copy, elements of arrays, arrays that are built, entries of map literals.
  The abstract machine: maps compared with nil; fields of a struct that is a value.
  The abstract machine: every operation that it reads is sound.
  The abstract machine: code, how it is read off the model's code, and what it asks of a state.
-/
import Derived.Test.YtlpmnmbebkdocaaGreatDoorTB01
import Derived.Laws.Append
open List renaming getElem?_eq_some_iff → ua, getElem?_eq_getElem → ub, mem_of_getElem? → ue, eq_nil_of_length_eq_zero → ui, getElem?_append → uk, getElem?_map → um, getElem?_of_mem → uo, getElem?_drop → uq, length_eq_one_iff → ur, length_nil → uu, mem_append → uv, getElem?_append_right → uw, all_eq_true → ux, getElem?_append_left → uz, range → uB, size_toArray → uE, getElem_mem → uG, getD_cons_zero → uJ, getElem?_take → uK, extract_eq_take_drop → uL, getElem?_take_of_lt → uN, take_of_length_le → uR, getElem?_toArray → uT, length_pos_iff → uW, length_append → uY, drop_take → u6, drop_drop → u7, drop_zero → u9, all_cons → Ua, getD → Ub, mem_map → Uc
open Option renaming map_eq_some_iff → uh, map_some → uH, isSome_iff_exists → uM, map_none → uS
open Bool renaming false_eq_true → ut, and_eq_true → uF, not_eq_true' → u4, not_eq_false → u5
open Nat renaming le_refl → uc, mul_le_mul_right → ud, add_mul → ug, mul_comm → uj, div_lt_of_lt_mul → un, zero_add → uy, mul_sub_right_distrib → uA, pos_of_ne_zero → uC, div_add_mod → uI, le_add_right → uO, mod_lt → uQ, eq_zero_or_pos → uX, lt_of_lt_of_le → uZ, zero_mul → u0, add_zero → Ud
open Int renaming eq_ofNat_of_zero_le → uP
open Array renaming getElem?_append_left → ul, size_append → uD, getElem?_toList → uU, getElem?_push → uV, ext' → Ue
namespace Go.Proofs.YtlpmnmbebkdocaaGreatDoor
open Go.RowKit
set_option linter.unusedSimpArgs false
set_option linter.unusedVariables false
section
section
variable {C:Ctx} {g g':Gh} {h h':Nat→Option aF} {N N':Nat→Prop} {w w':World} {id:Nat}
theorem FB {k:IV} {v u:Value} (hk:IV.key k=some u) (hv:RV C g h N w (.ak k) v):v=u:=by
 cases hv with
 | ak _ _ hr=>cases hr<;>simp [IV.key] at hk<;>exact hk
theorem FC (a b:ByteArray):(a == b)=true↔a=b:=by
 rw [beq_toListBytes,ByteArray.toList_eq,ByteArray.toList_eq]
 obtain ⟨⟨x⟩⟩:=a
 obtain ⟨⟨y⟩⟩:=b
 simp
def Zk:Bool→TypeDesc→Prop
 | false,d=>∃ k,d=.int k
 | true,d=>d=.string
theorem Y5 {str:Bool} {d:TypeDesc} (hd:Zk str d) {k k':IV} {u u':Value} (hk:IV.key k=some u) (hk':IV.key k'=some u') {b:Bool} (he:jZ k k'=some b)
  (hs:wU str k=true):Instr.sameNow d u u'=some b∧(b=true→u'=u):=by
 cases str with
 | false=>
  obtain ⟨kk,rfl⟩:=hd
  cases k<;>simp [wU] at hs
  cases k'<;>simp [jZ] at he
  obtain ⟨rfl,rfl⟩:=he
  simp [IV.key] at hk hk'
  subst hk;subst hk'
  simp [Instr.sameNow]
  exact fun e=>e.symm
 | true=>
  cases hd
  cases k<;>simp [wU] at hs
  cases k'<;>simp [jZ] at he
  subst he
  simp [IV.key] at hk hk'
  subst hk;subst hk'
  simp [Instr.sameNow]
  exact fun e=>((FC _ _).1 e).symm
theorem J8 {str:Bool} {d:TypeDesc} (hd:Zk str d) {k:IV} {u:Value} (hk:IV.key k=some u) (hs:wU str k=true) :
  ∀ (es:List (IV×AV)) (cG:List MapEntry) (i0:Nat),cG.length=es.length →
   (∀ (i:Nat) (k':IV) (x:AV),es[i]?=some (k',x)→∃ e,cG[i]?=some e∧IV.key k'=some e.key∧RV C g h N w x e.val)→xK k es=true →
   (qt k es=none∧Instr.findNow d u cG i0=some none) ∨
   (∃ x j v,qt k es=some x∧Instr.findNow d u cG i0=some (some (i0+j,v))∧RV C g h N w x v∧j < es.length ∧
    (∃ e,cG[j]?=some e∧e.key=u)∧∀ y,qO k y es=es.set j (k,y)):=by
 intro es
 induction es with
 | nil=>intro cG i0 hl _ _;simp at hl;subst hl;exact .inl ⟨rfl,rfl⟩
 | cons p es ih=>
  intro cG i0 hl hr hok
  obtain ⟨k',x⟩:=p
  cases cG with
  | nil=>simp at hl
  | cons e cG=>
   obtain ⟨e',he',hk',hx⟩:=hr 0 k' x rfl
   simp at he'
   subst he'
   simp only [xK,Ua,uF] at hok
   obtain ⟨b,hb⟩:=uM.1 hok.1
   obtain ⟨rX,hsame⟩:=Y5 hd hk hk' hb hs
   replace hb:jZ k k'=some b:=hb
   cases b with
   | true=>
    have hkey:e.key=u:=hsame rfl
    refine .inr ⟨x,0,e.val,by simp [qt,hb],by simp [Instr.findNow,rX],hx,by simp,⟨e,rfl,hkey⟩,fun y=>by simp [qO,hb]⟩
   | false=>
    rcases ih cG (i0+1) (by simpa using hl) (fun i k' x hi=>by have:=hr (i+1) k' x (by simpa using hi);simpa using this) hok.2 with ⟨h1,h2⟩ | ⟨x',j,v,h1,h2,h3,h4,h5,h6⟩
    ·exact .inl ⟨by simp [qt,hb,h1],by simp [Instr.findNow,rX,h2]⟩
    ·refine .inr ⟨x',j+1,v,by simp [qt,hb,h1],by simp [Instr.findNow,rX,h2];omega,h3,by simp;omega,by simpa using h5,fun y=>by simp [qO,hb,h6 y]⟩
theorem Ni {k:IV}:∀ {es:List (IV×AV)},qt k es=none→xK k es=true→∀ y,qO k y es=es++[(k,y)]:=by
 intro es
 induction es with
 | nil=>intro _ _ y;rfl
 | cons p es ih=>
  obtain ⟨k',x⟩:=p
  intro h1 h2 y
  simp only [xK,Ua,uF] at h2
  obtain ⟨b,hb⟩:=uM.1 h2.1
  replace hb:jZ k k'=some b:=hb
  cases b with
  | true=>simp [qt,hb] at h1
  | false=>simp [qt,hb] at h1;simp [qO,hb,ih h1 h2.2 y]
theorem J9 {P:Program} {str:Bool} {t:TypeId} {d:TypeDesc} (ht:P.underlying t=some d) (hd:Zk str d) (w:World) (b:Bool) (v:Value) (n:Nat):(Instr.checkKey b (n+1) t v).run P w=.ok () w:=by
 cases str with
 | false=>obtain ⟨kk,rfl⟩:=hd;simp [Instr.checkKey,run_underlying ht]
 | true=>cases hd;simp [Instr.checkKey,run_underlying ht]
theorem KW {str:Bool} {k:IV} (hk:wU str k=true):∃ u,IV.key k=some u:=by
 cases str<;>cases k<;>simp [wU] at hk<;>simp [IV.key]
theorem KX {x:AV} {v:Value} (hv:RV C g h N w x v):RV C g h N w (xJ x) v:=by
 cases x with
 | agg cs=>
  simp only [xJ]
  split
  ·rename_i l hl
   obtain ⟨h1,h2⟩:=ql hl
   cases hv with
   | agg _ vs hl' h1' hr=>
    refine .ak _ _ (.agg l vs (by rw [h1];exact hl') h1' fun j c u hj hu => ?_)
    have hlt:j < cs.length:=by rw [←h1];exact (ua.1 hj).1
    obtain ⟨c',eV,eW⟩:=h2 j cs[j] (by simp)
    rw [hj] at eV
    cases eV
    have hc:=hr j cs[j] u (by simp) hu
    generalize cs[j]=y at hc eW
    cases hc with
    | ak z _ hr=>simp [jm] at eW;subst eW;exact hr
    | nil=>simp [jm] at eW;subst eW;exact .nil
    | cx a cap=>simp [jm] at eW;subst eW;exact .empty a cap
    | aS i af _ hr _ _=>simp [jm] at eW;subst eW;exact hr
    | _=>simp [jm] at eW
  ·exact hv
 | _=>exact hv
theorem FD (z:Value):RV C g h N w (vO z) z:=by
 cases z with
 | agg vs=>
  simp only [vO]
  split
  ·rename_i hall
   have:RV C g h N w (.agg (vs.toList.map xO)) (.agg vs.toList.toArray):=.agg _ _ (by simp) (fun v hv=>ux.1 hall v hv) fun i c u hc hu=>by
    rw [um,hu] at hc
    cases hc
    exact vk u
   exact KX this
  ·exact .top _
 | _=>simp only [vO];exact vk _
theorem Nj (R:RH C g h N w) {x:AV} {v:Value} {es:List (IV×AV)} (he:jx h x=some es) (hv:RV C g h N w x v) :
  (v=.map none∧es=[])∨∃ b cG clock,v=.map (some b)∧w.heap[b]?=some (.map cG clock)∧cG.size=es.length ∧
   ∀ (i:Nat) (k:IV) (y:AV),es[i]?=some (k,y)→∃ e,cG[i]?=some e∧IV.key k=some e.key∧RV C g h N w y e.val:=by
 unfold jx at he
 split at he
 ·rename_i i
  split at he
  ·rename_i es' cO
   cases he
   cases hv with
   | map _ _ hni hone hp=>
    obtain ⟨b,hb,hval⟩:=hp _ cO
    obtain ⟨gM,cG,clock,hw,hl,hr⟩:=R.obj i b _ hb cO
    exact .inr ⟨b,cG,clock,hval,hw,hl,hr⟩
  ·cases he
 ·rename_i es'
  cases he
  cases hv with
  | ak _ _ hr=>
   cases hr with
   | eH _ b cG clock ev hz hb hl hk hr=>
    refine .inr ⟨b,cG,clock,rfl,hb,by simpa using hl,fun i k y hi => ?_⟩
    rw [um,uh] at hi
    obtain ⟨⟨k0,y0⟩,h1,h2⟩:=hi
    cases h2
    obtain ⟨h3,h4⟩:=hk i _ y0 h1
    exact ⟨ev i,h3,h4,.ak _ _ (hr i _ y0 h1)⟩
 ·cases he
  cases hv with
  | ak _ _ hr=>
   cases hr with
   | cQ=>exact .inl ⟨rfl,rfl⟩
 ·cases he
theorem VJ {o:Oper} {str:Bool} {t kt et:TypeId} {m k:Operand} {ok:Bool} {d:TypeDesc} {ti:TypeInfo} {z:Value} (ho:o.op=.lookup t m k ok)
  (ht:C.P.underlying t=some (.map kt et)) (oX:C.P.underlying kt=some d) (hd:Zk str d) (hi:C.P.info? et=some ti) (hz:ti.zero=some z) :
  aP C o (.look str (vO z) ok (C.bk m) (C.bk k)):=by
 intro g h N w id ev val r aN R hid hv he
 have hm:=hv m (by simp [ho,Op.operands])
 have hk:=hv k (by simp [ho,Op.operands])
 simp only [ai] at he
 split at he
 ·rename_i es kv e1 e2
  rw [e2] at hk
  split at he
  ·rename_i bM
   simp only [uF] at bM
   obtain ⟨eV,eW⟩:=bM
   obtain ⟨u,hu⟩:=KW eV
   have hkv:=FB hu hk
   have hzero:RV C g h N w (if ok then .tuple [vO z,.ak (.bool false)] else vO z) (if ok then .tuple #[z,.bool false] else z):=by
    cases ok with
    | true=>exact .tuple [vO z,.ak (.bool false)] [z,.bool false] rfl (fun j c v hj hj'=>by
     rcases j with _ | _ | j
     ·simp at hj hj';subst hj;subst hj';exact FD z
     ·simp at hj hj';subst hj;subst hj';exact .ak _ _ (.bool _)
     ·simp at hj)
    | false=>exact FD z
   have ij:=fun bb=>J9 (P:=C.P) oX hd w bb u 9999
   rcases Nj R e1 hm with ⟨hval,rfl⟩ | ⟨b,cG,clock,hval,hw,hl,hr⟩
   ·simp only [qt,Option.some.injEq,Prod.mk.injEq] at he
    obtain ⟨rfl,rfl⟩:=he
    have h2:Instr.findNow d u [] 0=some none:=by simp [Instr.findNow]
    refine ⟨if ok then .tuple #[z,.bool false] else z,w,.inl ?_,zx R hzero⟩
    have hrun:(Instr.lookup t (.map none) u ok).run C.P w=.ok (if ok then .tuple #[z,.bool false] else z) w:=by
     simp only [Instr.lookup,Sem.run_bind,run_underlying ht,Result.andThen_ok,Sem.run_pure,ij,Instr.findKey,run_underlying oX,h2,zeroValue,typeInfo,run_program,hi,hz]
    simp only [execOp,ho,hval,hkv,Sem.run_bind,hrun,Result.andThen_ok,Sem.run_pure]
   have hfind:=J8 (C:=C) (g:=g) (h:=h) (N:=N) (w:=w) hd hu eV es cG.toList 0 (by simpa using hl) (fun i k' x hi=>by obtain ⟨e,h1,h2⟩:=hr i k' x hi;exact ⟨e,by simpa using h1,h2⟩) eW
   rcases hfind with ⟨h1,h2⟩ | ⟨x,j,v,h1,h2,h3,h4,h5,h6⟩
   ·rw [h1] at he
    simp only [Option.some.injEq,Prod.mk.injEq] at he
    obtain ⟨rfl,rfl⟩:=he
    refine ⟨if ok then .tuple #[z,.bool false] else z,w,.inl ?_,zx R hzero⟩
    have hrun:(Instr.lookup t (.map (some b)) u ok).run C.P w=.ok (if ok then .tuple #[z,.bool false] else z) w:=by
     simp only [Instr.lookup,Sem.run_bind,run_underlying ht,Result.andThen_ok,vQ hw,Sem.run_pure,ij,Instr.findKey,run_underlying oX,h2,zeroValue,typeInfo,run_program,hi,hz]
    simp only [execOp,ho,hval,hkv,Sem.run_bind,hrun,Result.andThen_ok,Sem.run_pure]
   ·rw [h1] at he
    simp only [Option.some.injEq,Prod.mk.injEq] at he
    obtain ⟨rfl,rfl⟩:=he
    refine ⟨if ok then .tuple #[v,.bool true] else v,w,.inl ?_,zx R ?_⟩
    ·have hrun:(Instr.lookup t (.map (some b)) u ok).run C.P w=.ok (if ok then .tuple #[v,.bool true] else v) w:=by
      simp only [Instr.lookup,Sem.run_bind,run_underlying ht,Result.andThen_ok,vQ hw,Sem.run_pure,ij,Instr.findKey,run_underlying oX,h2]
     simp only [execOp,ho,hval,hkv,Sem.run_bind,hrun,Result.andThen_ok,Sem.run_pure]
    ·cases ok with
     | true=>exact .tuple [x,.ak (.bool true)] [v,.bool true] rfl (fun j c v' hj hj'=>by
      rcases j with _ | _ | j
      ·simp at hj hj';subst hj;subst hj';exact h3
      ·simp at hj hj';subst hj;subst hj';exact .ak _ _ (.bool _)
      ·simp at hj)
     | false=>exact h3
  ·cases he
 ·cases he
theorem Nk {k:IV} {u:Value} (hk:IV.key k=some u) (n:Nat):Instr.sameBits n u u=true:=by
 cases k<;>simp [IV.key] at hk<;>subst hk<;>simp [Instr.sameBits,FC]
theorem Xa {o:Oper} {str:Bool} {t kt et:TypeId} {m k v:Operand} {d:TypeDesc} (ho:o.op=.mapUpdate t m k v)
  (ht:C.P.underlying t=some (.map kt et)) (oX:C.P.underlying kt=some d) (hd:Zk str d) :
  aP C o (.upd str (C.bk m) (C.bk k) (C.bk v)):=by
 intro g h N w id ev val r aN R hid hv he
 have hm:=hv m (by simp [ho,Op.operands])
 have hk:=hv k (by simp [ho,Op.operands])
 have hx:=KX (hv v (by simp [ho,Op.operands]))
 simp only [ai] at he
 split at he
 ·rename_i i kv e1 e2
  rw [e1] at hm
  rw [e2] at hk
  split at he
  ·rename_i es cO
   split at he
   ·rename_i bM
    simp only [uF] at bM
    obtain ⟨eV,eW⟩:=bM
    obtain ⟨u,hu⟩:=KW eV
    have hkv:=FB hu hk
    simp only [Option.some.injEq,Prod.mk.injEq] at he
    obtain ⟨rfl,rfl⟩:=he
    cases hm with
    | map _ _ hni hone hp=>
     obtain ⟨b,hb,hval⟩:=hp es cO
     obtain ⟨gM,cG,clock,hw,hl,hr⟩:=R.obj i b _ hb cO
     have ij:=fun bb=>J9 (P:=C.P) oX hd w bb u 9999
     have close:∀ (nC:Array MapEntry) (clock':Nat),nC.size=(qO kv (xJ (ev (C.bk v))) es).length →
       (∀ (i:Nat) (k':IV) (x:AV),(qO kv (xJ (ev (C.bk v))) es)[i]?=some (k',x)→∃ e,nC[i]?=some e∧IV.key k'=some e.key∧RV C g h N w x e.val) →
       Good C g h N w id .undef [(i,.map (qO kv (xJ (ev (C.bk v))) es))] undef (zC w b (.map nC clock')):=fun nC clock' hl' hr'=>by
      have E:b8 g h N w g (bB [(i,.map (qO kv (xJ (ev (C.bk v))) es))] h) (qn N id) (zC w b (.map nC clock')):=
       Wf R hb gM (.map es) _ cO _ trivial fun c e hc=>by rw [hw] at hc;cases hc
      refine ⟨g,E,VG R hb _ _ (fun _ _=>by simp) E ?_,.undef⟩
      refine ⟨gM,nC,clock',by rw [zF w b _ (qf hw)];simp,hl',fun i k' x hi => ?_⟩
      obtain ⟨e,h1,h2,h3⟩:=hr' i k' x hi
      exact ⟨e,h1,h2,h3.mono E⟩
     have hfind:=J8 (C:=C) (g:=g) (h:=h) (N:=N) (w:=w) hd hu eV es cG.toList 0 (by simpa using hl) (fun i k' x hi=>by obtain ⟨e,h1,h2⟩:=hr i k' x hi;exact ⟨e,by simpa using h1,h2⟩) eW
     rcases hfind with ⟨h1,h2⟩ | ⟨x,j,y,h1,h2,h3,h4,⟨e0,h5,Nl⟩,h6⟩
     ·have iO:=Ni h1 eW (xJ (ev (C.bk v)))
      refine ⟨undef,zC w b (.map (cG.push {key:=u,val:=val v,born:=clock}) (clock+1)),.inr ⟨?_,rfl⟩,close _ _ (by rw [iO];simp [hl]) (fun i k' x hi => ?_)⟩
      ·have hrun:(Instr.mapUpdate t (.map (some b)) u (val v)).run C.P w=.ok () (zC w b (.map (cG.push {key:=u,val:=val v,born:=clock}) (clock+1))):=by
        simp only [Instr.mapUpdate,Sem.run_bind,run_underlying ht,Result.andThen_ok,vQ hw,Sem.run_pure,ij,Instr.findKey,run_underlying oX,h2,VH hw]
       simp only [execOp,ho,hval,hkv,Sem.run_bind,hrun,Result.andThen_ok,Sem.run_pure]
      ·rw [iO,uk] at hi
       split at hi
       ·rename_i hlt
        obtain ⟨e,h7,h8⟩:=hr i k' x hi
        exact ⟨e,by rw [uV,if_neg (by omega)];exact h7,h8⟩
       ·rename_i hge
        have CV:i - es.length=0:=by
         have:=(ua.1 hi).1
         simp at this;omega
        rw [CV] at hi
        simp at hi
        obtain ⟨rfl,rfl⟩:=hi
        exact ⟨_,by rw [uV,if_pos (by omega)],hu,hx⟩
     ·have iO:=h6 (xJ (ev (C.bk v)))
      simp only [uy] at h2
      have FE:cG[j]?=some e0:=by simpa using h5
      refine ⟨undef,zC w b (.map (cG.modify j fun e=>{e with key:=u,val:=val v}) clock),.inr ⟨?_,rfl⟩,close _ _ (by rw [iO];simp [hl]) (fun i k' x hi => ?_)⟩
      ·have hrun:(Instr.mapUpdate t (.map (some b)) u (val v)).run C.P w=.ok () (zC w b (.map (cG.modify j fun e=>{e with key:=u,val:=val v}) clock)):=by
        simp only [Instr.mapUpdate,Sem.run_bind,run_underlying ht,Result.andThen_ok,vQ hw,Sem.run_pure,ij,Instr.findKey,run_underlying oX,h2,Instr.keyThatStays,FE,uH,Option.getD_some,Nl,Nk hu,if_true,VH hw]
       simp only [execOp,ho,hval,hkv,Sem.run_bind,hrun,Result.andThen_ok,Sem.run_pure]
      ·rw [iO,List.getElem?_set] at hi
       rw [Array.getElem?_modify]
       split at hi
       ·rename_i e3
        subst e3
        cases hi
        rw [if_pos rfl,FE]
        exact ⟨_,rfl,hu,hx⟩
       ·rename_i e3
        rw [if_neg e3]
        exact hr i k' x hi
   ·cases he
  ·cases he
 ·cases he
end
end
section
section
variable {C:Ctx} {g g':Gh} {h h':Nat→Option aF} {N N':Nat→Prop} {w w':World} {id:Nat}
theorem yo {Z:Nat→Nat} {a:Addr} {cap:Nat}:RI Z w (.slice []) (.slice (some a) 0 cap):=.empty a cap
theorem Y6 {x:AV} {v:Value} {y:IV} (hx:jm x=some y) (hv:RV C g h N w x v):RI g.Z w y v:=by
 cases hv with
 | ak z _ hr=>simp [jm] at hx;subst hx;exact hr
 | nil=>simp [jm] at hx;subst hx;exact .nil
 | cx a cap=>simp [jm] at hx;subst hx;exact yo
 | aS i af _ hr _ _=>simp [jm] at hx;subst hx;exact hr
 | _=>simp [jm] at hx
theorem Xb (R:RH C g h N w) {x:AV} {v:Value} {new:List (List IV)} {sz:Nat} (hx:xI h x=some new) (hv:RV C g h N w x v) (hsz:∀ row∈new,row.length=sz) :
  ∃ a cap,v=.slice a new.length cap∧∃ news:List Value,news.length=new.length*sz∧(∀ u∈news,u.oneCell'=true) ∧
   (∀ (i:Nat) (row:List IV) (j:Nat) (c:IV),new[i]?=some row→row[j]?=some c→∃ u,news[i*sz+j]?=some u∧RI g.Z w c u) ∧
   ∀ (P:Program) (w1:World),w1.heap=w.heap→(Builtin.firstCells sz new.length v).run P w1=.ok news.toArray w1:=by
 have iP:∀ (af:List (List IV)),af=new→RI g.Z w (.slice af) v→∃ a cap,v=.slice a new.length cap∧∃ news:List Value,news.length=new.length*sz∧(∀ u∈news,u.oneCell'=true) ∧
   (∀ (i:Nat) (row:List IV) (j:Nat) (c:IV),new[i]?=some row→row[j]?=some c→∃ u,news[i*sz+j]?=some u∧RI g.Z w c u) ∧
   ∀ (P:Program) (w1:World),w1.heap=w.heap→(Builtin.firstCells sz new.length v).run P w1=.ok news.toArray w1:=fun af oY gl=>by
  subst oY
  rcases Jg gl with ⟨rfl,hval⟩ | ⟨b,off,cap,sz',cv,hval,hcap,CW,hz,hc,hr⟩
  ·rcases hval with hval | ⟨aa,cap,hval⟩
   ·exact ⟨none,0,hval,[],by simp,by simp,fun i row j c hi=>by simp at hi,fun P w1 _=>by rw [hval];simp [Builtin.firstCells]⟩
   ·exact ⟨some aa,cap,hval,[],by simp,by simp,fun i row j c hi=>by simp at hi,fun P w1 _=>by rw [hval];simp only [Builtin.firstCells,uu,u0];exact (run_loadCells w1 _ _ (fun _=>undef) (fun k hk=>by simp at hk))⟩
  ·refine ⟨_,cap,hval,(uB (af.length*sz)).map (fun k=>cv (k / sz) (k % sz)),by simp,fun u hu => ?_,fun i row j c hi hj => ?_,fun P w1 hw1 => ?_⟩
   ·simp only [Uc,List.mem_range] at hu
    obtain ⟨k,hk,rfl⟩:=hu
    have hpos:0 < sz:=uC fun e=>by subst e;simp at hk
    have hi:k / sz < af.length:=un (by rw [uj];exact hk)
    have hrow:=hsz (af[k / sz]) (uG hi)
    have hj:k % sz < (af[k / sz]).length:=by rw [hrow];exact uQ _ hpos
    exact (hc (k / sz) _ (k % sz) ((af[k / sz])[k % sz]) (ub hi) (ub hj)).2
   ·have hrow:=hsz row (ue hi)
    have hj':j < sz:=by rw [←hrow];exact (ua.1 hj).1
    have hi':i < af.length:=(ua.1 hi).1
    have hb:(i+1)*sz≤af.length*sz:=ud _ hi'
    rw [ug] at hb
    have hlt:i*sz+j < af.length*sz:=by omega
    have hdiv:(i*sz+j) / sz=i:=by rw [uj,Nat.mul_add_div (by omega),Nat.div_eq_of_lt hj'];simp
    have hmod:(i*sz+j) % sz=j:=by rw [uj,Nat.mul_add_mod,Nat.mod_eq_of_lt hj']
    refine ⟨cv i j,by simp [hlt,hdiv,hmod],hr i row j c hi hj⟩
   ·rw [hval]
    simp only [Builtin.firstCells]
    refine run_loadCells w1 _ _ _ fun k hk => ?_
    have hpos:0 < sz:=uC fun e=>by subst e;simp at hk
    have hi:k / sz < af.length:=un (by rw [uj];exact hk)
    have hrow:=hsz (af[k / sz]) (uG hi)
    have hj:k % sz < (af[k / sz]).length:=by rw [hrow];exact uQ _ hpos
    have CO:sz'=sz:=(CW (k / sz) _ (ub hi)).symm.trans hrow
    subst CO
    have:=(hc (k / sz') _ (k % sz') ((af[k / sz'])[k % sz']) (ub hi) (ub hj)).1
    rw [qS]
    rw [←this]
    have e2:off+k=off+k / sz'*sz'+k % sz':=by have:=uI k sz';rw [uj] at this;omega
    rw [e2]
    simp only [World.cell?,hw1]
 unfold xI at hx
 split at hx
 ·cases hx
  cases hv with
  | ak _ _ hr=>exact iP _ rfl hr
 ·cases hx
  cases hv with
  | aS _ _ _ hr _ _=>exact iP _ rfl hr
 ·cases hx
  have:=xi hv
  subst this
  exact iP [] rfl .nil
 ·cases hx
  cases hv with
  | cx a cap=>exact iP [] rfl yo
 ·rename_i i off len
  split at hx
  ·rename_i l7 af cO
   split at hx
   ·rename_i hle
    obtain ⟨hl,cT⟩:=ql hx
    have lI:((af.drop off).take len).length=len:=by simp;omega
    cases hv with
    | Zai _ _ _ _ hni hone hp=>
     obtain ⟨h1,h2⟩:=hp _ _ cO
     rcases h2 with ⟨hn,hr,hval⟩ | ⟨b,cap,c,e,hb,hval,fG,hw,hcap⟩
     ·subst hr
      have h0:len=0:=by simp at h1;omega
      have hnew:new=[]:=ui (by rw [hl];simp)
      subst hnew
      exact ⟨none,0,hval,[],by simp,by simp,fun i row j c hi=>by simp at hi,fun P w1 _=>by rw [hval];simp [Builtin.firstCells]⟩
     ·obtain ⟨hz,c',e',gX,hlen,hcells⟩:=R.obj i b _ hb cO
      have lz:new.length=len:=by rw [hl,lI]
      have cellAt:∀ (i':Nat) (row:List IV) (j:Nat) (x:IV),new[i']?=some row→row[j]?=some x→∃ u,c'[(off+i')*sz+j]?=some u∧u.oneCell'=true∧RI g.Z w x u∧l7=sz:=fun i' row j x hi hj=>by
       have hi':i' < len:=by rw [←lz];exact (ua.1 hi).1
       have gC:((af.drop off).take len)[i']?=some (af[off+i']'(by omega)):=by
        rw [uN hi',uq];simp
       obtain ⟨row',cz,cy⟩:=cT i' _ gC
       rw [hi] at cz
       cases cz
       obtain ⟨pE,n9⟩:=ql cy
       have hj':j < (af[off+i']'(by omega)).length:=by rw [←pE];exact (ua.1 hj).1
       obtain ⟨x',hx1,hx2⟩:=n9 j ((af[off+i']'(by omega))[j]) (by simp [hj'])
       rw [hj] at hx1
       cases hx1
       have hrow:af[off+i']?=some (af[off+i']'(by omega)):=by simp
       obtain ⟨cv,h3,h4,h5⟩:=hcells (off+i') _ j _ hrow (ub hj')
       have hs0:l7=sz:=by
        have a1:=hlen (off+i') _ hrow
        have a2:=hsz row (ue hi)
        omega
       subst hs0
       exact ⟨cv,h3,h4,Y6 hx2 h5,rfl⟩
      have nD:∀ k,k < len*sz→∃ u,c'[off*sz+k]?=some u∧u.oneCell'=true∧l7=sz:=fun k hk=>by
       have hpos:0 < sz:=uC fun e=>by subst e;simp at hk
       have hi:k / sz < new.length:=by rw [lz];exact un (by rw [uj];exact hk)
       have hrow:=hsz (new[k / sz]) (uG hi)
       have hj:k % sz < (new[k / sz]).length:=by rw [hrow];exact uQ _ hpos
       obtain ⟨u,h3,h4,h5,h6⟩:=cellAt (k / sz) _ (k % sz) ((new[k / sz])[k % sz]) (ub hi) (ub hj)
       refine ⟨u,?_,h4,h6⟩
       rw [←h3]
       congr 1
       have:=uI k sz
       rw [ug,uj (k / sz) sz]
       omega
      obtain ⟨news,hn1,hn2⟩:=yS (uB (len*sz)) (fun _ k u=>c'[off*sz+k]?=some u∧u.oneCell'=true) (fun j k hj=>by
       obtain ⟨fM,hj2⟩:=ua.1 hj
       simp at fM hj2
       subst hj2
       obtain ⟨u,a1,a2,_⟩:=nD j fM
       exact ⟨u,a1,a2⟩)
      have mq:news.length=len*sz:=by simpa using hn1
      have gN:∀ k u,news[k]?=some u→c'[off*sz+k]?=some u∧u.oneCell'=true:=fun k u hk=>by
       have hlt:k < len*sz:=by rw [←mq];exact (ua.1 hk).1
       exact hn2 k k u (by simp [hlt]) hk
      refine ⟨_,cap,by rw [lz];exact hval,news,by rw [lz];exact mq,fun u hu => ?_,fun i' row j x hi hj => ?_,fun P w1 hw1 => ?_⟩
      ·obtain ⟨k,hk⟩:=uo hu
       exact (gN k u hk).2
      ·obtain ⟨u,h3,h4,h5,h6⟩:=cellAt i' row j x hi hj
       have hi':i' < len:=by rw [←lz];exact (ua.1 hi).1
       have hj':j < sz:=by rw [←hsz row (ue hi)];exact (ua.1 hj).1
       have mr:(i'+1)*sz≤len*sz:=ud _ hi'
       rw [ug] at mr
       have hlt:i'*sz+j < news.length:=by omega
       refine ⟨u,?_,h5⟩
       have:=(gN (i'*sz+j) news[i'*sz+j] (by simp [hlt])).1
       rw [ub hlt]
       rw [show off*sz+(i'*sz+j)=(off+i')*sz+j by rw [ug];omega,h3] at this
       exact this.symm
      ·rw [hval,lz]
       simp only [Builtin.firstCells]
       rw [←mq]
       have hs0:off*l7=off*sz∨len*sz=0:=by
        rcases uX (len*sz) with h0 | h0
        ·exact .inr h0
        ·obtain ⟨_,_,_,h6⟩:=nD 0 h0;exact .inl (by rw [h6])
       have:=run_loadCells_list (P:=P) w1 ⟨b,off*l7,none⟩ news (fun k u hk=>by
        rw [qS]
        have hlt:k < news.length:=(ua.1 hk).1
        have:w1.heap[b]?=some (.cells c' e' (0,0)):=by rw [hw1];exact gX
        rw [qK this]
        rcases hs0 with h7 | h7
        ·rw [h7];exact (gN k u hk).1
        ·omega)
       exact this
   ·cases hx
  ·cases hx
 ·cases hx
theorem VK (R:RH C g h N w) {x:AV} {v:Value} {new:List (List AV)} {sz:Nat} (hx:jQ h x=some new) (hv:RV C g h N w x v) (hsz:∀ row∈new,row.length=sz) :
  ∃ a cap,v=.slice a new.length cap∧∃ news:List Value,news.length=new.length*sz∧(∀ u∈news,u.oneCell'=true) ∧
   (∀ (i:Nat) (row:List AV) (j:Nat) (c:AV),new[i]?=some row→row[j]?=some c→∃ u,news[i*sz+j]?=some u∧RV C g h N w c u) ∧
   ∀ (P:Program) (w1:World),w1.heap=w.heap→(Builtin.firstCells sz new.length v).run P w1=.ok news.toArray w1:=by
 unfold jQ at hx
 split at hx
 ·rename_i i off len
  split at hx
  ·rename_i l7 af cO
   split at hx
   ·rename_i hle
    have lI:((af.drop off).take len).length=len:=by simp;omega
    cases hx
    cases hv with
    | Zai _ _ _ _ hni hone hp=>
     obtain ⟨h1,h2⟩:=hp _ _ cO
     rcases h2 with ⟨hn,hr,hval⟩ | ⟨b,cap,c,e,hb,hval,fG,hw,hcap⟩
     ·subst hr
      have h0:len=0:=by simp at h1;omega
      subst h0
      simp only [List.take_zero]
      exact ⟨none,0,hval,[],by simp,by simp,fun i row j c hi=>by simp at hi,fun P w1 _=>by rw [hval];simp [Builtin.firstCells]⟩
     ·obtain ⟨hz,c',e',gX,hlen,hcells⟩:=R.obj i b _ hb cO
      have lz:((af.drop off).take len).length=len:=lI
      generalize hnd:(af.drop off).take len=new at hsz lz ⊢
      have cellAt:∀ (i':Nat) (row:List AV) (j:Nat) (x:AV),new[i']?=some row→row[j]?=some x→∃ u,c'[(off+i')*sz+j]?=some u∧u.oneCell'=true∧RV C g h N w x u∧l7=sz:=fun i' row j x hi hj=>by
       have hi':i' < len:=by rw [←lz];exact (ua.1 hi).1
       have hrow:af[off+i']?=some row:=by
        rw [←hnd,uN hi',uq] at hi
        exact hi
       obtain ⟨cv,h3,h4,h5⟩:=hcells (off+i') _ j _ hrow hj
       have hs0:l7=sz:=by
        have a1:=hlen (off+i') _ hrow
        have a2:=hsz row (ue hi)
        omega
       subst hs0
       exact ⟨cv,h3,h4,h5,rfl⟩
      have nD:∀ k,k < len*sz→∃ u,c'[off*sz+k]?=some u∧u.oneCell'=true∧l7=sz:=fun k hk=>by
       have hpos:0 < sz:=uC fun e=>by subst e;simp at hk
       have hi:k / sz < new.length:=by rw [lz];exact un (by rw [uj];exact hk)
       have hrow:=hsz (new[k / sz]) (uG hi)
       have hj:k % sz < (new[k / sz]).length:=by rw [hrow];exact uQ _ hpos
       obtain ⟨u,h3,h4,h5,h6⟩:=cellAt (k / sz) _ (k % sz) ((new[k / sz])[k % sz]) (ub hi) (ub hj)
       refine ⟨u,?_,h4,h6⟩
       rw [←h3]
       congr 1
       have:=uI k sz
       rw [ug,uj (k / sz) sz]
       omega
      obtain ⟨news,hn1,hn2⟩:=yS (uB (len*sz)) (fun _ k u=>c'[off*sz+k]?=some u∧u.oneCell'=true) (fun j k hj=>by
       obtain ⟨fM,hj2⟩:=ua.1 hj
       simp at fM hj2
       subst hj2
       obtain ⟨u,a1,a2,_⟩:=nD j fM
       exact ⟨u,a1,a2⟩)
      have mq:news.length=len*sz:=by simpa using hn1
      have gN:∀ k u,news[k]?=some u→c'[off*sz+k]?=some u∧u.oneCell'=true:=fun k u hk=>by
       have hlt:k < len*sz:=by rw [←mq];exact (ua.1 hk).1
       exact hn2 k k u (by simp [hlt]) hk
      refine ⟨_,cap,by rw [lz];exact hval,news,by rw [lz];exact mq,fun u hu => ?_,fun i' row j x hi hj => ?_,fun P w1 hw1 => ?_⟩
      ·obtain ⟨k,hk⟩:=uo hu
       exact (gN k u hk).2
      ·obtain ⟨u,h3,h4,h5,h6⟩:=cellAt i' row j x hi hj
       have hi':i' < len:=by rw [←lz];exact (ua.1 hi).1
       have hj':j < sz:=by rw [←hsz row (ue hi)];exact (ua.1 hj).1
       have mr:(i'+1)*sz≤len*sz:=ud _ hi'
       rw [ug] at mr
       have hlt:i'*sz+j < news.length:=by omega
       refine ⟨u,?_,h5⟩
       have:=(gN (i'*sz+j) news[i'*sz+j] (by simp [hlt])).1
       rw [ub hlt]
       rw [show off*sz+(i'*sz+j)=(off+i')*sz+j by rw [ug];omega,h3] at this
       exact this.symm
      ·rw [hval,lz]
       simp only [Builtin.firstCells]
       rw [←mq]
       have hs0:off*l7=off*sz∨len*sz=0:=by
        rcases uX (len*sz) with h0 | h0
        ·exact .inr h0
        ·obtain ⟨_,_,_,h6⟩:=nD 0 h0;exact .inl (by rw [h6])
       have:=run_loadCells_list (P:=P) w1 ⟨b,off*l7,none⟩ news (fun k u hk=>by
        rw [qS]
        have hlt:k < news.length:=(ua.1 hk).1
        have:w1.heap[b]?=some (.cells c' e' (0,0)):=by rw [hw1];exact gX
        rw [qK this]
        rcases hs0 with h7 | h7
        ·rw [h7];exact (gN k u hk).1
        ·omega)
       exact this
   ·cases hx
  ·cases hx
 ·rw [uh] at hx
  obtain ⟨af,hrows,rfl⟩:=hx
  obtain ⟨a,cap,h1,news,h2,h3,h4,h5⟩:=Xb (sz:=sz) R hrows hv (fun row hr=>by
   have:=hsz (row.map .ak) (Uc.2 ⟨row,hr,rfl⟩)
   simpa using this)
  refine ⟨a,cap,by simpa using h1,news,by simpa using h2,h3,fun i row j c hi hj => ?_,fun P w1 hw1=>by simpa using h5 P w1 hw1⟩
  simp only [um,uh] at hi
  obtain ⟨Aq,CV,rfl⟩:=hi
  simp only [um,uh] at hj
  obtain ⟨c0,hj0,rfl⟩:=hj
  obtain ⟨u,h6,h7⟩:=h4 i Aq j c0 CV hj0
  exact ⟨u,h6,.ak _ _ h7⟩
end
end
section
section
variable {C:Ctx} {g g':Gh} {h h':Nat→Option aF} {N N':Nat→Prop} {w w':World} {id:Nat}
def Src (P:Program) (w:World) (sz m:Nat) (v:Value) (news:List Value):Prop:=
 (∃ a cap,v=.slice a m cap)∧news.length=m*sz∧(∀ u∈news,u.oneCell'=true)∧∀ w1:World,w1.heap=w.heap→(Builtin.firstCells sz m v).run P w1=.ok news.toArray w1
theorem Xc {P:Program} {t t' ty e:TypeId} {i:TypeInfo} {d:TypeDesc} (ht:P.underlying t=some (.slice e)) (hi:P.info? e=some i) (ht':P.underlying t'=some d) (hd:∀ k,d≠.int k)
  {b L cap m:Nat} {c:Array Value} {e':TypeId} (hb:w.heap[b]?=some (.cells c e' (0,0))) {v:Value} {news:List Value} (hs:Src P w i.size m v news)
  (hroom:L+m≤cap) (hfit:L*i.size+news.length≤c.size) :
  (Builtin.append_ #[t,t'] ty #[.slice (some ⟨b,0,none⟩) L cap,v]).run P w=.ok (.slice (some ⟨b,0,none⟩) (L+m) cap) (zC w b (.cells (qu c (L*i.size) news) e' (0,0))):=by
 obtain ⟨⟨a,cp,rfl⟩,h1,h2,h3⟩:=hs
 have hst:=yn (P:=P) news w b (L*i.size) 0 c e' hb h2 (by omega)
 simp only [Ud] at hst
 have hz:(match d with | .int _=>true | _=>false)=false:=by cases d<;>first | rfl | exact absurd rfl (hd _)
 simp [Builtin.append_,run_underlying ht,sizeOf,typeInfo,hi,Builtin.lenOf,run_underlying ht',hz,hroom,h3 w rfl,qS,hst]
theorem Zv {P:Program} {t t' ty e:TypeId} {i:TypeInfo} {d:TypeDesc} (ht:P.underlying t=some (.slice e)) (hi:P.info? e=some i) (ht':P.underlying t'=some d) (hd:∀ k,d≠.int k)
  {v:Value} {news:List Value} (hs:Src P w i.size 0 v news) :
  (Builtin.append_ #[t,t'] ty #[.slice none 0 0,v]).run P w=.ok (.slice none 0 0) w:=by
 obtain ⟨⟨a,cp,rfl⟩,h1,h2,h3⟩:=hs
 have hz:(match d with | .int _=>true | _=>false)=false:=by cases d<;>first | rfl | exact absurd rfl (hd _)
 simp [Builtin.append_,run_underlying ht,sizeOf,typeInfo,hi,Builtin.lenOf,run_underlying ht',hz,h3 w rfl]
theorem Zw {P:Program} {t t' ty e:TypeId} {i:TypeInfo} {d:TypeDesc} {z:Value} (ht:P.underlying t=some (.slice e)) (hi:P.info? e=some i) (gM:i.zero=some z) (ht':P.underlying t'=some d) (hd:∀ k,d≠.int k)
  {s:Value} {L cap m:Nat} {base:Option Addr} (lA:s=.slice base L cap) {olds:List Value} (hold:Src P w i.size L s olds)
  {v:Value} {news:List Value} (hs:Src P w i.size m v news) (hroom:cap < L+m) (hby:0 < i.bytes) (hbytes:(L+m)*i.bytes≤140737488355328) :
  ∃ cK rest,L+m≤cK∧rest.size=(cK - (L+m))*z.cells.size∧(Builtin.append_ #[t,t'] ty #[s,v]).run P w=.ok (.slice (some ⟨w.heap.size,0,none⟩) (L+m) cK) (w.drew.alloc (.cells ((olds++news).toArray++rest) e (0,0))):=by
 subst lA
 obtain ⟨⟨a,cp,rfl⟩,h1,h2,h3⟩:=hs
 obtain ⟨_,g1,g2,g3⟩:=hold
 have hz:(match d with | .int _=>true | _=>false)=false:=by cases d<;>first | rfl | exact absurd rfl (hd _)
 have FF:=growslice_fits hroom hbytes
 refine ⟨(Question.appendCap (L+m) cap e).cut (w.tape w.drawn (.appendCap (L+m) cap e)),Builtin.zeroCells z.cells ((Question.appendCap (L+m) cap e).cut (w.tape w.drawn (.appendCap (L+m) cap e)) - (L+m)),by simp [Question.cut],by simp [Builtin.zeroCells],?_⟩
 have hb0:¬ i.bytes=0:=by omega
 simp [Builtin.append_,run_underlying ht,sizeOf,typeInfo,hi,Builtin.lenOf,run_underlying ht',hz,show ¬ L+m≤cap by omega,hb0,show ¬ 281474976710656 < Builtin.nextslicecap (L+m) cap*i.bytes by omega,Question.forced,h3 w.drew rfl,g3 w.drew rfl,zeroValue,gM,newRow]
 congr 2
 apply Ue
 simp [List.append_assoc]
theorem b8.drew (g:Gh) (h:Nat→Option aF) (N:Nat→Prop) (w:World):b8 g h N w g h N w.drew:=by
 have E:=b8.refl g h N w
 exact ⟨rfl,rfl,rfl,uc _,fun b hb ho=>⟨rfl,rfl⟩,E.own,E.cg,⟨fun _ _ _=>rfl,fun _ _ _ _ _=>rfl⟩,fun b c e hb=>⟨c,hb,rfl⟩,E.next,E.eo,E.cJ,E.af,E.cS,E.maps,E.fE⟩
theorem RH.drew (R:RH C g h N w):RH C g h N w.drew:=
 ⟨R.inj,R.lt,R.key,fun i b o hb ho=>(R.obj i b o hb ho).keep (b8.drew g h N w) rfl rfl,R.cR,R.ea,R.fix.eN (b8.drew g h N w)⟩
theorem Xd (R:RH C g h N w) (hid:¬ N id) (sz:Nat):Good C g h N w id (.aS id []) [(id,.aT sz 0)] (.slice none 0 0) w:=by
 have ne:∀ i,N i→id≠i:=fun i hi e=>hid (e ▸ hi)
 have E:b8 g h N w g (bB [(id,.aT sz 0)] h) (qn N id) w:=
  ⟨rfl,rfl,rfl,uc _,fun _ _ _=>⟨rfl,rfl⟩,fun _ h=>.inl h,fun _=>uc _,⟨fun _ _ _=>rfl,fun _ _ _ _ _=>rfl⟩,fun b c e hb=>⟨c,hb,rfl⟩,fun _ h=>.inl h,fun i b hb _ _ _ _=>.inl hb,fun i hb _ _ _ _=>.inl hb,
   fun i hi s r ho=>⟨r,by simp only [bB] at ho;rwa [if_neg (ne i hi)] at ho,rfl⟩,fun i hi s r ho=>⟨r,by simp only [bB] at ho;rwa [if_neg (ne i hi)] at ho,uc _⟩,
   fun i hi r ho=>⟨r,by simp only [bB] at ho;rwa [if_neg (ne i hi)] at ho⟩,
   fun i hi l R s pe ho=>⟨s,pe,by simp only [bB] at ho;rwa [if_neg (ne i hi)] at ho⟩⟩
 have hn:=R.lG hid
 refine ⟨g,E,⟨R.inj,fun i b hb=>⟨(R.lt i b hb).1,.inl (R.lt i b hb).2⟩,fun i o ho => ?_,fun i b o hb ho => ?_,fun i s l ho hr => ?_,R.ea,R.fix.eN E⟩,?_⟩
 ·simp only [bB] at ho
  split at ho
  ·rename_i e;exact .inr e.symm
  ·exact .inl (R.key i o ho)
 ·simp only [bB] at ho
  split at ho
  ·rename_i e;subst e;rw [hn] at hb;cases hb
  ·exact (R.obj i b o hb ho).keep E rfl rfl
 ·simp only [bB] at ho
  split at ho
  ·cases ho;rfl
  ·exact R.cR i s l ho hr
 ·refine .aS id [] _ .nil (.inr rfl) fun s l ho => ?_
  simp only [bB,if_pos] at ho
  cases ho
  exact ⟨uc _,fun i row hi=>by simp at hi,fun _=>.inl ⟨hn,rfl⟩⟩
theorem Nn (R:RH C g h N w) {i sz L:Nat} (hi:h i=some (.aT sz L)) {af:List (List IV)} {v:Value} (hv:RV C g h N w (.aS i af) v) :
  Good C g h N w id (.aS i af) [(i,.aT sz L)] v w:=by
 have e:bB [(i,.aT sz L)] h=h:=by
  funext j
  simp only [bB]
  split
  ·rename_i e;subst e;exact hi.symm
  ·rfl
 obtain ⟨g',h1,h2,h3⟩:=zx (id:=id) R hv
 refine ⟨g',?_⟩
 rw [e]
 exact ⟨h1,h2,h3⟩
theorem FG {Z:Nat→Nat} {w':World} {b sz cK:Nat} {af new:List (List IV)} {c:Array Value} {e:TypeId} {vals:List Value}
  (hw:w'.heap[b]?=some (.cells c e (0,0))) (hz:(af++new).length*sz≤Z b) (hcap:(af++new).length≤cK)
  (hsz:∀ row∈af++new,row.length=sz)
  (hc:∀ (k:Nat) (u:Value),vals[k]?=some u→c[k]?=some u) (h1:∀ u∈vals,u.oneCell'=true)
  (hr:∀ (i:Nat) (row:List IV) (j:Nat) (x:IV),(af++new)[i]?=some row→row[j]?=some x→∃ u,vals[i*sz+j]?=some u∧RI Z w' x u) :
  RI Z w' (.slice (af++new)) (.slice (some ⟨b,0,none⟩) (af++new).length cK):=by
 refine .slice (af++new) b 0 cK sz (fun i j=>vals.getD (i*sz+j) undef) hcap (fun i row hi=>hsz row (ue hi)) (fun i row j x hi hj => ?_) (fun i row j x hi hj => ?_) (fun i row j x hi hj => ?_)
 ·have hi':i < (af++new).length:=(ua.1 hi).1
  have hj':j < sz:=by rw [←hsz row (ue hi)];exact (ua.1 hj).1
  have hb:(i+1)*sz≤(af++new).length*sz:=ud _ hi'
  rw [ug] at hb
  omega
 ·obtain ⟨u,h2,h3⟩:=hr i row j x hi hj
  have:vals.getD (i*sz+j) undef=u:=by simp [Ub,h2]
  rw [this,qK hw,uy]
  exact ⟨hc _ u h2,h1 u (ue h2)⟩
 ·obtain ⟨u,h2,h3⟩:=hr i row j x hi hj
  have:vals.getD (i*sz+j) undef=u:=by simp [Ub,h2]
  rw [this]
  exact h3
end
end
section
section
variable {C:Ctx} {g g':Gh} {h h':Nat→Option aF} {N N':Nat→Prop} {w w':World} {id:Nat}
theorem WQ (R:RH C g h N w) {i sz L L':Nat} (hk:(¬ N i∧i=id)∨(h i=some (.aT sz L)∧L < L')) (o:Obj) (z:Nat) :
  b8 g h N w (g.at i w.heap.size z) (bB [(i,.aT sz L')] h) (qn N id) (w.drew.alloc o):=by
 have hold:∀ j,N j→∀ ob,bB [(i,aF.aT sz L')] h j=some ob→(i≠j∧h j=some ob)∨(i=j∧ob=.aT sz L'∧h j=some (.aT sz L)∧L < L'):=fun j hj ob ho=>by
  simp only [bB] at ho
  split at ho
  ·rename_i e
   cases ho
   rcases hk with ⟨hn,_⟩ | ⟨h1,h2⟩
   ·exact absurd (e ▸ hj) hn
   ·exact .inr ⟨e,rfl,e ▸ h1,h2⟩
  ·rename_i e;exact .inl ⟨e,ho⟩
 exact {
  os:=rfl
  tape:=rfl
  output:=rfl
  size:=by simp
  old:=fun b hb ho=>⟨qB w.drew o hb,by simp only [Gh.at];rw [if_neg (by omega)]⟩
  own:=fun b ⟨j,hj⟩=>by
   simp only [Gh.at] at hj
   split at hj
   ·cases hj;exact .inr (uc _)
   ·exact .inl ⟨j,hj⟩
  cg:=fun b=>by
   simp only [Gh.at]
   split
   ·rename_i hb;subst hb;rw [R.mj];omega
   ·exact uc _
  cell:=iD.heap (w:=w) fun b hk=>qB w.drew o (R.ea b hk)
  shape:=fun b c e hb=>⟨c,(qB w.drew o (qf hb)).trans hb,rfl⟩
  next:=fun i hi=>.inl hi
  eo:=fun j b hb ob ho hnd hj=>by
   rcases hold j hj ob ho with ⟨h1,h2⟩ | ⟨h1,h2,h3,h4⟩
   ·exact .inl (by simp only [Gh.at];rw [if_neg (Ne.symm h1)];exact hb)
   ·exact .inr ⟨sz,L,sz,L',h3,h2,h4⟩
  cJ:=fun j hb hj ob ho hnd=>by
   rcases hold j hj ob ho with ⟨h1,h2⟩ | ⟨h1,h2,h3,h4⟩
   ·exact .inl (by simp only [Gh.at];rw [if_neg (Ne.symm h1)];exact hb)
   ·exact .inr ⟨sz,L,sz,L',h3,h2,h4⟩
  af:=fun j hj s r ho=>by
   rcases hold j hj _ ho with ⟨h1,h2⟩ | ⟨h1,h2,h3,h4⟩
   ·exact ⟨r,h2,rfl⟩
   ·cases h2
  cS:=fun j hj s l ho=>by
   rcases hold j hj _ ho with ⟨h1,h2⟩ | ⟨h1,h2,h3,h4⟩
   ·exact ⟨l,h2,uc _⟩
   ·cases h2;exact ⟨L,h3,by omega⟩
  maps:=fun j hj es ho=>by
   rcases hold j hj _ ho with ⟨h1,h2⟩ | ⟨h1,h2,h3,h4⟩
   ·exact ⟨es,h2⟩
   ·cases h2
  fE:=fun j hj ll RR s pe ho=>by
   rcases hold j hj _ ho with ⟨h1,h2⟩ | ⟨h1,h2,h3,h4⟩
   ·exact ⟨s,pe,h2⟩
   ·cases h2}
theorem Np (R:RH C g h N w) {i sz L L':Nat} (hk:(¬ N i∧i=id)∨(h i=some (.aT sz L)∧L < L')) (c:Array Value) (e:TypeId) (hc:L'*sz≤c.size) :
  RH C (g.at i w.heap.size (L'*sz)) (bB [(i,.aT sz L')] h) (qn N id) (w.drew.alloc (.cells c e (0,0))):=by
 have E:=WQ (id:=id) R hk (.cells c e (0,0)) (L'*sz)
 have cU:qn N id i:=by
  rcases hk with ⟨_,h1⟩ | ⟨h1,_⟩
  ·exact .inr h1
  ·exact .inl (R.key i _ h1)
 refine ⟨fun j k b hj hk => ?_,fun j b hb => ?_,fun j o' ho' => ?_,fun j b o' hb ho' => ?_,fun j s l ht hn => ?_,fun b hb => ?_,R.fix.eN E⟩
 ·simp only [Gh.at] at hj hk
  split at hj<;>split at hk
  ·rename_i h1 h2;rw [h1,h2]
  ·cases hj;have:=(R.lt k _ hk).1;omega
  ·cases hk;have:=(R.lt j _ hj).1;omega
  ·exact R.inj j k b hj hk
 ·simp only [Gh.at] at hb
  split at hb
  ·rename_i hi;subst hi;cases hb;exact ⟨by simp,cU⟩
  ·have:=R.lt j b hb;exact ⟨by simp;omega,.inl this.2⟩
 ·simp only [bB] at ho'
  split at ho'
  ·rename_i hi;subst hi;exact cU
  ·exact .inl (R.key j o' ho')
 ·simp only [Gh.at] at hb
  simp only [bB] at ho'
  split at hb
  ·rename_i hi
   subst hi
   cases hb
   rw [if_pos rfl] at ho'
   cases ho'
   exact ⟨c,e,zY w.drew _,by simp [Gh.at],hc⟩
  ·rename_i hi
   rw [if_neg (fun e=>hi e.symm)] at ho'
   have hlt:=(R.lt j b hb).1
   exact (R.obj j b o' hb ho').keep E (qB w.drew _ hlt) (by simp only [Gh.at];rw [if_neg (by omega)])
 ·simp only [Gh.at] at hn
  simp only [bB] at ht
  split at hn
  ·cases hn
  ·rename_i hi
   rw [if_neg (fun e=>hi e.symm)] at ht
   exact R.cR j s l ht hn
 ·simp only [Gh.at] at hb
  split at hb
  ·rename_i hh;subst hh;simp
  ·have:=R.ea b hb;simp;omega
theorem Xe (R:RH C g h N w) {i b sz L L':Nat} (hi:h i=some (.aT sz L)) (hb:g.ρ i=some b) {c:Array Value} {e:TypeId} (hw:w.heap[b]?=some (.cells c e (0,0))) (hz:g.Z b=L*sz) (hL:L≤L')
  (news:List Value) (hfit:L*sz+news.length≤c.size) :
  b8 g h N w (g.at i b (L'*sz)) (bB [(i,.aT sz L')] h) (qn N id) (zC w b (.cells (qu c (L*sz) news) e (0,0))):=by
 have hlt:=qf hw
 have dU:∀ j,(g.at i b (L'*sz)).ρ j=g.ρ j:=fun j=>by
  simp only [Gh.at]
  split
  ·rename_i e;subst e;exact hb.symm
  ·rfl
 exact {
  os:=rfl
  tape:=rfl
  output:=rfl
  size:=by rw [jf];exact uc _
  old:=fun k hk ho=>by
   have hne:k≠b:=fun e=>ho ⟨i,by rw [e];exact hb⟩
   exact ⟨by rw [zF w b _ hlt,if_neg hne],by simp only [Gh.at];rw [if_neg hne]⟩
  own:=fun k ⟨j,hj⟩=>.inl ⟨j,by rw [←dU];exact hj⟩
  cg:=fun k=>by
   simp only [Gh.at]
   split
   ·rename_i e;subst e;rw [hz];exact ud _ hL
   ·exact uc _
  cell:=⟨fun k o ho=>by
   by_cases e1:k=b
   ·subst e1
    rw [hz] at ho
    have:(zC w k (.cells (qu c (L*sz) news) e (0,0))).heap[k]?=some (.cells (qu c (L*sz) news) e (0,0)):=by rw [zF w k _ hlt];simp
    rw [qK this,qK hw,xP c _ news hfit,if_neg (by omega)]
   ·refine J3 ?_
    rw [zF w b _ hlt,if_neg e1],fun k cG clock _ hm=>by
   have e1:k≠b:=fun e1=>by rw [e1,hw] at hm;cases hm
   rw [zF w b _ hlt,if_neg e1]⟩
  shape:=fun k c' e' gX=>by
   by_cases e1:k=b
   ·subst e1
    rw [hw] at gX
    cases gX
    exact ⟨_,by rw [zF w k _ hlt,if_pos rfl],jR _ _ _⟩
   ·exact ⟨c',by rw [zF w b _ hlt,if_neg e1];exact gX,rfl⟩
  next:=fun i hi=>.inl hi
  eo:=fun j b' hj _ _ _ _=>.inl (by rw [dU];exact hj)
  cJ:=fun j hj _ _ _ _=>.inl (by rw [dU];exact hj)
  af:=fun j hj s r ho=>by
   simp only [bB] at ho
   split at ho
   ·cases ho
   ·exact ⟨r,ho,rfl⟩
  cS:=fun j hj s l ho=>by
   simp only [bB] at ho
   split at ho
   ·rename_i e1;subst e1;cases ho;exact ⟨L,hi,hL⟩
   ·exact ⟨l,ho,uc _⟩
  maps:=fun j hj es ho=>by
   simp only [bB] at ho
   split at ho
   ·cases ho
   ·exact ⟨es,ho⟩
  fE:=fun j hj ll RR s pe ho=>by
   simp only [bB] at ho
   split at ho
   ·cases ho
   ·exact ⟨s,pe,ho⟩}
theorem Nq (R:RH C g h N w) {i b sz L L':Nat} (hi:h i=some (.aT sz L)) (hb:g.ρ i=some b) {c:Array Value} {e:TypeId} (hw:w.heap[b]?=some (.cells c e (0,0))) (hz:g.Z b=L*sz) (hL:L≤L')
  (news:List Value) (hfit:L*sz+news.length≤c.size) (hcap:L'*sz≤c.size) :
  RH C (g.at i b (L'*sz)) (bB [(i,.aT sz L')] h) (qn N id) (zC w b (.cells (qu c (L*sz) news) e (0,0))):=by
 have E:=Xe (id:=id) R hi hb hw hz hL news hfit
 have hlt:=qf hw
 have dU:∀ j,(g.at i b (L'*sz)).ρ j=g.ρ j:=fun j=>by
  simp only [Gh.at]
  split
  ·rename_i e;subst e;exact hb.symm
  ·rfl
 refine ⟨fun j k b' hj hk => ?_,fun j b' hb' => ?_,fun j o' ho' => ?_,fun j b' o' hb' ho' => ?_,fun j s l ht hn => ?_,fun k hk => ?_,R.fix.eN E⟩
 ·rw [dU] at hj hk;exact R.inj j k b' hj hk
 ·rw [dU] at hb'
  rw [jf]
  exact ⟨(R.lt j b' hb').1,.inl (R.lt j b' hb').2⟩
 ·simp only [bB] at ho'
  split at ho'
  ·rename_i e1;subst e1;exact .inl (R.key i _ hi)
  ·exact .inl (R.key j o' ho')
 ·rw [dU] at hb'
  simp only [bB] at ho'
  split at ho'
  ·rename_i e1
   subst e1
   cases ho'
   rw [hb] at hb'
   cases hb'
   exact ⟨qu c (L*sz) news,e,by rw [zF w b _ hlt];simp,by simp [Gh.at],by rw [jR];exact hcap⟩
  ·rename_i e1
   have hne:b'≠b:=fun e2=>e1 (R.inj i j b hb (e2 ▸ hb'))
   exact (R.obj j b' o' hb' ho').keep E (by rw [zF w b _ hlt,if_neg hne]) (by simp only [Gh.at];rw [if_neg hne])
 ·rw [dU] at hn
  simp only [bB] at ht
  split at ht
  ·rename_i e1;subst e1;rw [hb] at hn;cases hn
  ·exact R.cR j s l ht hn
 ·rw [jf]
  simp only [Gh.at] at hk
  split at hk
  ·rename_i e1;subst e1;exact hlt
  ·exact R.ea k hk
def Nr (C:Ctx) (o:Oper) (sz bL:Nat) (s x:bf):Prop:=
 ∀ (g:Gh) (h:Nat→Option aF) (N:Nat→Prop) (w:World) (id:Nat) (ev:bf→AV) (val:Operand→Value) (r:AV) (aN:List (Nat×aF)),
  RH C g h N w→¬ N id→(∀ x∈o.op.operands,RV C g h N w (ev (C.bk x)) (val x))→J4 sz bL (ev s) (ev x) h id=some (r,aN) →
  ∃ v w',pz C.P (execOp val o) w v w'∧Good C g h N w id r aN v w'
def Ns (C:Ctx) (o:Oper) (sz bL:Nat) (s x:bf):Prop:=
 ∀ (g:Gh) (h:Nat→Option aF) (N:Nat→Prop) (w:World) (id:Nat) (ev:bf→AV) (val:Operand→Value) (r:AV) (aN:List (Nat×aF)),
  RH C g h N w→¬ N id→(∀ x∈o.op.operands,RV C g h N w (ev (C.bk x)) (val x))→Je sz bL (ev s) (ev x) h id=some (r,aN) →
  ∃ v w',pz C.P (execOp val o) w v w'∧Good C g h N w id r aN v w'
theorem Nt {o:Oper} {t t' e:TypeId} {d:TypeDesc} {s x:Operand} {sz bL:Nat} {z:List AV} (ho:o.op=.call {callee:=.builtin .append,args := #[s,x],argTypes := #[t,t']})
  (ht:C.P.underlying t=some (.slice e)) (ht':C.P.underlying t'=some d) (hd:∀ k,d≠.int k) (hsz:zA C.P e=some sz) (hby:xv C.P e=some bL) (hz:qJ C.P e=some z)
  (h0:0 < sz) (hzl:z.length=sz) (mz:0 < bL):Nr C o sz bL (C.bk s) (C.bk x):=by
 intro g h N w id ev val r aN R hid hv he
 have hs:=hv s (by simp [ho,Op.operands,Call.operands])
 have hx:=hv x (by simp [ho,Op.operands,Call.operands])
 obtain ⟨i,zv,hi,iN,rfl⟩:=jS hz
 have hzs:zv.cells.size=sz:=by simpa using hzl
 have hsize:i.size=sz:=by simpa [zA,hi] using hsz
 have hbytes:i.bytes=bL:=by simpa [xv,hi] using hby
 subst hsize
 subst hbytes
 have exec:∀ v' w',(Builtin.append_ #[t,t'] o.type #[val s,val x]).run C.P w=.ok v' w'→pz C.P (execOp val o) w v' w':=fun v' w' hrun=>by
  refine .inl ?_
  simp [execOp,ho,resolve,invoke,builtin,hrun]
 unfold J4 at he
 split at he
 case h_2=>cases he
 rename_i new hnew
 split at he
 ·cases he
 rename_i hall
 have rm:∀ row∈new,row.length=i.size:=fun row hr=>by
  simp only [u4,u5] at hall
  have:=ux.1 hall row hr
  simpa using this
 obtain ⟨a,cp,CX,news,hn1,hn2,rY,Ar⟩:=Xb R hnew hx rm
 have hsrc:Src C.P w i.size new.length (val x) news:=⟨⟨a,cp,CX⟩,hn1,hn2,fun w1 hw1=>Ar C.P w1 hw1⟩
 have grow:∀ (j L cap:Nat) (base:Option Addr) (af:List (List IV)) (olds:List Value),(¬ N j∧j=id)∨(h j=some (.aT i.size L)∧L < L+new.length)→af.length=L →
   val s=.slice base L cap→cap < L+new.length→(L+new.length)*i.bytes≤140737488355328→(∀ row∈af,row.length=i.size) →
   Src C.P w i.size L (val s) olds→(∀ (k:Nat) (row:List IV) (q:Nat) (c:IV),af[k]?=some row→row[q]?=some c→∃ u,olds[k*i.size+q]?=some u∧RI g.Z w c u) →
   ∃ v w',pz C.P (execOp val o) w v w'∧Good C g h N w id (.aS j (af++new)) [(j,.aT i.size (L+new.length))] v w':=fun j L cap base af olds hk hrl lA hroom hbound rZ hold At=>by
  obtain ⟨cK,rest,eV,eW,hrun⟩:=Zw (w:=w) (ty:=o.type) ht hi iN ht' hd lA hold hsrc hroom mz hbound
  have oa:olds.length=L*i.size:=hold.2.1
  have hlen:(olds++news).length=(L+new.length)*i.size:=by simp [oa,hn1,ug]
  have si:(L+new.length)*i.size≤((olds++news).toArray++rest).size:=by simp only [uD,uE];omega
  have E:=WQ (id:=id) R hk (.cells ((olds++news).toArray++rest) e (0,0)) ((L+new.length)*i.size)
  refine ⟨_,_,exec _ _ hrun,_,E,Np R hk _ e si,?_⟩
  have hw':(w.drew.alloc (.cells ((olds++news).toArray++rest) e (0,0))).heap[w.heap.size]?=some (.cells ((olds++news).toArray++rest) e (0,0)):=zY w.drew _
  have rT:(g.at j w.heap.size ((L+new.length)*i.size)).Z w.heap.size=(L+new.length)*i.size:=by simp [Gh.at]
  have lI:(af++new).length=L+new.length:=by simp [hrl]
  have Au:RI (g.at j w.heap.size ((L+new.length)*i.size)).Z (w.drew.alloc (.cells ((olds++news).toArray++rest) e (0,0))) (.slice (af++new)) (.slice (some ⟨w.heap.size,0,none⟩) (af++new).length cK):=by
   refine FG (vals:=olds++news) hw' (by rw [rT,lI];exact uc _) (by rw [lI];exact eV) (fun row hr => ?_) (fun k u hk => ?_) (fun u hu => ?_) (fun k row q c hk hq => ?_)
   ·rcases uv.1 hr with hr | hr
    ·exact rZ row hr
    ·exact rm row hr
   ·have hlt:k < (olds++news).length:=(ua.1 hk).1
    rw [ul (by simpa using hlt)]
    simpa using hk
   ·rcases uv.1 hu with hu | hu
    ·exact hold.2.2.1 u hu
    ·exact hn2 u hu
   ·rw [uk] at hk
    split at hk
    ·rename_i hlt
     obtain ⟨u,h2,h3⟩:=At k row q c hk hq
     have ig:k*i.size+q < olds.length:=(ua.1 h2).1
     exact ⟨u,by rw [uz ig];exact h2,h3.mono E.cg E.cell⟩
    ·rename_i hge
     obtain ⟨u,h2,h3⟩:=rY _ row q c hk hq
     have oc:olds.length≤k*i.size+q:=by
      rw [oa]
      have:L*i.size≤k*i.size:=ud _ (by omega)
      omega
     refine ⟨u,?_,h3.mono E.cg E.cell⟩
     rw [uw oc,←h2]
     congr 1
     rw [oa,hrl,uA]
     have:L*i.size≤k*i.size:=ud _ (by omega)
     omega
  rw [lI] at Au
  refine .aS j (af++new) _ Au ?_ fun sz' len' ht => ?_
  ·rcases hk with ⟨_,h1⟩ | ⟨h1,_⟩
   ·exact .inr h1
   ·exact .inl (R.key j _ h1)
  ·simp only [bB,if_pos] at ht
   cases ht
   refine ⟨by rw [lI];exact uc _,fun k row hk => ?_,fun _=>.inr ⟨w.heap.size,cK,_,e,by simp [Gh.at],by rw [lI],hw',?_⟩⟩
   ·rcases uv.1 (ue hk) with hr | hr
    ·exact rZ row hr
    ·exact rm row hr
   ·simp only [uD,uE,hlen,eW,hzs]
    have:cK*i.size=(L+new.length)*i.size+(cK - (L+new.length))*i.size:=by
     rw [←ug];congr 1;omega
    omega
 split at he
 ·rename_i e1
  rw [e1] at hs
  have lA:=xi hs
  split at he
  ·rename_i hbound
   simp only [Option.some.injEq,Prod.mk.injEq] at he
   obtain ⟨rfl,rfl⟩:=he
   by_cases hm:new=[]
   ·subst hm
    have hrun:=Zv (w:=w) (ty:=o.type) ht hi ht' hd (news:=news) (by simpa using hsrc)
    exact ⟨_,_,exec _ _ (by rw [lA];exact hrun),by simpa using Xd R hid i.size⟩
   ·have hpos:0 < new.length:=uW.2 hm
    have:=grow id 0 0 none [] [] (.inl ⟨hid,rfl⟩) rfl lA (by omega) (by simpa using hbound) (by simp) ⟨⟨none,0,lA⟩,by simp,by simp,fun w1 _=>by rw [lA];simp [Builtin.firstCells]⟩ (fun k row q c hk=>by simp at hk)
    simpa using this
  ·cases he
 ·rename_i j af e1
  rw [e1] at hs
  split at he
  ·rename_i sz' len htip
   split at he
   ·rename_i bM
    obtain ⟨rfl,hrl,hbound⟩:=bM
    simp only [Option.some.injEq,Prod.mk.injEq] at he
    obtain ⟨rfl,rfl⟩:=he
    have hs':=hs
    cases hs with
    | aS _ _ _ gl hni tJ=>
     obtain ⟨_,rZ,CY⟩:=tJ _ _ htip
     have nE:∀ row∈af,row.length=i.size:=fun row hr=>by
      obtain ⟨k,hk⟩:=uo hr
      exact rZ k row hk
     have tK:xI h (.aS j af)=some af:=rfl
     obtain ⟨a0,Nu,sj,olds,rp,BQ,CZ,FH⟩:=Xb R tK hs' nE
     have hold:Src C.P w i.size af.length (val s) olds:=⟨⟨a0,Nu,sj⟩,rp,BQ,fun w1 hw1=>FH C.P w1 hw1⟩
     rcases CY hrl with ⟨hn,lA⟩ | ⟨b,cap,c,e',hb,lA,hw,hcap⟩
     ·have rf:af.length=0:=by rw [lA] at sj;simp at sj;omega
      have gC:af=[]:=ui rf
      subst gC
      simp at hrl
      subst hrl
      by_cases hm:new=[]
      ·subst hm
       have hrun:=Zv (w:=w) (ty:=o.type) ht hi ht' hd (news:=news) (by simpa using hsrc)
       refine ⟨_,_,exec _ _ (by rw [lA];exact hrun),?_⟩
       rw [lA] at hs'
       simpa using Nn (id:=id) R htip hs'
      ·have hpos:0 < new.length:=uW.2 hm
       exact grow j 0 0 none [] olds (.inr ⟨htip,by omega⟩) rfl lA (by omega) hbound (by simp) (by simpa using hold) CZ
     ·by_cases hroom:len+new.length≤cap
      ·subst hrl
       obtain ⟨c',e2,pF,iF,hsz2⟩:=R.obj j b _ hb htip
       rw [hw] at pF
       cases pF
       have hm1:(af.length+new.length)*i.size≤cap*i.size:=ud _ hroom
       have hfit:af.length*i.size+news.length≤c.size:=by rw [hn1,←ug];omega
       have hrun:=Xc (P:=C.P) (w:=w) (ty:=o.type) ht hi ht' hd hw hsrc hroom hfit
       have E:=Xe (id:=id) R htip hb hw iF (uO af.length new.length) news hfit
       refine ⟨_,_,exec _ _ (by rw [lA];exact hrun),_,E,Nq R htip hb hw iF (uO _ _) news hfit (by omega),?_⟩
       have hw':(zC w b (.cells (qu c (af.length*i.size) news) e' (0,0))).heap[b]?=some (.cells (qu c (af.length*i.size) news) e' (0,0)):=by rw [zF w b _ (qf hw)];simp
       have lI:(af++new).length=af.length+new.length:=by simp
       have Au:RI (g.at j b ((af.length+new.length)*i.size)).Z (zC w b (.cells (qu c (af.length*i.size) news) e' (0,0))) (.slice (af++new)) (.slice (some ⟨b,0,none⟩) (af++new).length cap):=by
        refine FG (vals:=olds++news) hw' (by simp only [Gh.at,if_pos];rw [lI];exact uc _) (by rw [lI];exact hroom) (fun row hr => ?_) (fun k u hk => ?_) (fun u hu => ?_) (fun k row q x hk hq => ?_)
        ·rcases uv.1 hr with hr | hr
         ·exact nE row hr
         ·exact rm row hr
        ·rw [xP c _ news hfit]
         rw [uk] at hk
         split at hk
         ·rename_i hlt
          rw [if_neg (by omega)]
          have hread:=FH C.P w rfl
          rw [lA] at hread
          simp only [Builtin.firstCells] at hread
          have hcell:∀ q,q < af.length*i.size→w.cell? ((⟨b,0,none⟩:Addr).add q)=some (c.getD q undef):=fun q hq=>by
           rw [qS,qK hw,uy]
           have:q < c.size:=by omega
           simp [this]
          rw [run_loadCells (P:=C.P) w _ _ _ hcell] at hread
          simp only [Result.ok.injEq,and_true] at hread
          have sk:(uB (af.length*i.size)).map (fun q=>c.getD q undef)=olds:=by
           have:=congrArg Array.toList hread
           simpa using this
          rw [←sk] at hk
          simp only [um,uh] at hk
          obtain ⟨q,hq1,Av⟩:=hk
          obtain ⟨Nv,FI⟩:=ua.1 hq1
          simp at Nv FI
          subst FI
          have:k < c.size:=by omega
          simp [this] at Av
          simp [this,Av]
         ·rename_i hge
          have hlt:k - olds.length < news.length:=(ua.1 hk).1
          rw [if_pos (by omega),←rp]
          exact hk
        ·rcases uv.1 hu with hu | hu
         ·exact BQ u hu
         ·exact hn2 u hu
        ·rw [uk] at hk
         split at hk
         ·obtain ⟨u,h2,h3⟩:=CZ k row q x hk hq
          have ig:k*i.size+q < olds.length:=(ua.1 h2).1
          exact ⟨u,by rw [uz ig];exact h2,h3.mono E.cg E.cell⟩
         ·rename_i hge
          obtain ⟨u,h2,h3⟩:=rY _ row q x hk hq
          have CS:af.length*i.size≤k*i.size:=ud _ (by omega)
          have oc:olds.length≤k*i.size+q:=by rw [rp];omega
          refine ⟨u,?_,h3.mono E.cg E.cell⟩
          rw [uw oc,←h2]
          congr 1
          rw [rp,uA]
          omega
       rw [lI] at Au
       refine .aS j (af++new) _ Au (.inl hni) fun sz' len' ht => ?_
       simp only [bB,if_pos] at ht
       cases ht
       refine ⟨by rw [lI];exact uc _,fun k row hk => ?_,fun _=>.inr ⟨b,cap,_,e',by simp [Gh.at],by rw [lI],hw',by rw [jR];exact hcap⟩⟩
       rcases uv.1 (ue hk) with hr | hr
       ·exact nE row hr
       ·exact rm row hr
      ·subst hrl
       have mA:cap < af.length+new.length:=by omega
       have hle:af.length≤cap:=by
        rcases Jg gl with ⟨gC,_⟩ | ⟨b1,off1,Nw,tH,cv1,gD,C1,_⟩
        ·subst gC;simp
        ·rw [lA] at gD;cases gD;exact C1
       exact grow j af.length cap _ af olds (.inr ⟨htip,by omega⟩) rfl lA mA hbound nE hold CZ
   ·cases he
  ·cases he
 ·cases he
end
end
section
section
variable {C:Ctx} {g g':Gh} {h h':Nat→Option aF} {N N':Nat→Prop} {w w':World} {id:Nat}
theorem Qy:∀ {ks:List Nat} {cI bs:List IV} {r:Bool},qA ks cI bs=some r→cI.length=ks.length∧bs.length=ks.length
 | [],[],[],_,_=>⟨rfl,rfl⟩
 | [],[],_::_,_,h=>by simp [qA] at h
 | [],_::_,_,_,h=>by simp [qA] at h
 | _::_,[],_,_,h=>by simp [qA] at h
 | _::_,_::_,[],_,h=>by simp [qA] at h
 | k::ks,a::cI,b::bs,r,h=>by
  simp only [qA] at h
  split at h
  ·split at h
   ·rename_i y h2
    have:=Qy h2
    simp [this.1,this.2]
   ·cases h
  ·cases h
theorem JW:∀ {k1 k2:List Nat} {cI bs:List IV} {r:Bool},qA (k1++k2) cI bs=some r →
  ∃ r1 r2,qA k1 (cI.take k1.length) (bs.take k1.length)=some r1∧qA k2 (cI.drop k1.length) (bs.drop k1.length)=some r2∧r=(r1&&r2)
 | [],k2,cI,bs,r,h=>⟨true,r,by simp [qA],by simpa using h,by simp⟩
 | k::k1,k2,[],bs,r,h=>by simp [qA] at h
 | k::k1,k2,a::cI,[],r,h=>by simp [qA] at h
 | k::k1,k2,a::cI,b::bs,r,h=>by
  simp only [List.cons_append,qA] at h
  split at h
  ·rename_i x h1
   split at h
   ·rename_i y h2
    cases h
    obtain ⟨r1,r2,h3,h4,rfl⟩:=JW h2
    exact ⟨x&&r1,r2,by simp [qA,h1,h3],by simpa using h4,by simp [Bool.and_assoc]⟩
   ·cases h
  ·cases h
def gY (Z:Nat→Nat) (w:World) (cI:List IV) (vs:List Value):Prop:=cI.length=vs.length∧∀ (j:Nat) (c:IV) (u:Value),cI[j]?=some c→vs[j]?=some u→RI Z w c u
theorem gY.drop {Z:Nat→Nat} {cI:List IV} {vs:List Value} (H:gY Z w cI vs) (n:Nat):gY Z w (cI.drop n) (vs.drop n):=by
 refine ⟨by simp [H.1],fun j c u h1 h2 => ?_⟩
 rw [uq] at h1 h2
 exact H.2 _ c u h1 h2
theorem gY.take {Z:Nat→Nat} {cI:List IV} {vs:List Value} (H:gY Z w cI vs) (n:Nat):gY Z w (cI.take n) (vs.take n):=by
 refine ⟨by simp [H.1],fun j c u h1 h2 => ?_⟩
 rw [uK] at h1 h2
 split at h1
 ·rename_i hj
  rw [if_pos hj] at h2
  exact H.2 _ c u h1 h2
 ·cases h1
def xw (P:Program) (t:TypeId) (vs:List Value):Value:=match P.underlying t with
 | some (.struct _)=>.agg vs.toArray
 | _=>vs.getD 0 undef
theorem Xf {P:Program} {t:TypeId} {k:Nat} {dd:TypeDesc} (ht:P.underlying t=some dd) (hk:(k=0∧∃ kk,dd=.int kk)∨(k=1∧dd=.bool)∨(k=2∧dd=.string)) {Z:Nat→Nat} {cI bs:List IV} {us vs:List Value} {r:Bool}
  (ha:gY Z w cI us) (hb:gY Z w bs vs) (he:qA [k] cI bs=some r) (D:Nat):(Op.equalIn (D+1) t (xw P t us) (xw P t vs)).run P w=.ok r w:=by
 obtain ⟨h1,h2⟩:=Qy he
 obtain ⟨a,rfl⟩:=ur.1 h1
 obtain ⟨b,rfl⟩:=ur.1 h2
 obtain ⟨u,rfl⟩:=ur.1 ha.1.symm
 obtain ⟨v,rfl⟩:=ur.1 hb.1.symm
 have oZ:=ha.2 0 a u rfl rfl
 have hrb:=hb.2 0 b v rfl rfl
 simp only [qA] at he
 split at he
 ·rename_i x hx
  simp at he
  subst he
  rcases hk with ⟨rfl,kk,rfl⟩ | ⟨rfl,rfl⟩ | ⟨rfl,rfl⟩
  ·simp only [xw,ht,uJ]
   cases a<;>cases b<;>simp [QE] at hx
   obtain ⟨rfl,rfl⟩:=hx
   cases oZ;cases hrb
   exact run_equalIn_int w D t _ kk _ _ ht
  ·simp only [xw,ht,uJ]
   cases a<;>cases b<;>simp [QE] at hx
   subst hx
   cases oZ;cases hrb
   exact run_equalIn_bool' w D t _ _ ht
  ·simp only [xw,ht,uJ]
   cases a<;>cases b<;>simp [QE] at hx
   subst hx
   cases oZ;cases hrb
   rw [run_equalIn_string w D t _ _ ht,beq_toListBytes]
 ·cases he
theorem FJ {P:Program} {t:TypeId} {n:Nat} (hn:zA P t=some n) (w:World) (vs:List Value) (off:Nat) (hs:(∃ fs,P.underlying t=some (.struct fs))∨(n=1∧∃ dd,P.underlying t=some dd∧((∃ k,dd=.int k)∨dd=.bool∨dd=.string)))
  (hl:off+n≤vs.length):(part t vs.toArray off).run P w=.ok (xw P t ((vs.drop off).take n)) w:=by
 rcases hs with ⟨fs,hu⟩ | ⟨rfl,dd,hu,hk⟩
 ·have hag:jG P t=some true:=by simp [jG,hu]
  simp only [part,Sem.run_bind,x9 hag,Result.andThen_ok,if_true,Sem.run_pure,zV hn,xw,hu]
  congr 2
  apply Ue
  simp [uL]
 ·have hag:jG P t=some false:=by rcases hk with ⟨k,rfl⟩ | rfl | rfl<;>simp [jG,hu]
  have hv:xw P t ((vs.drop off).take 1)=vs[off]'(by omega):=by
   have:((vs.drop off).take 1)[0]?=some (vs[off]'(by omega)):=by simp
   rcases hk with ⟨k,rfl⟩ | rfl | rfl<;>simp [xw,hu,Ub,this]
  have hg:vs.toArray[off]?=some (vs[off]'(by omega)):=by simp
  simp only [part,Sem.run_bind,x9 hag,Result.andThen_ok,ut,if_false,hg,Sem.run_pure,hv]
theorem KY {P:Program} {d:Nat} {t:TypeId} {ks:List Nat} (hf:yQ P d t=some ks) :
  (∃ fs,P.underlying t=some (.struct fs))∨(ks.length=1∧∃ dd,P.underlying t=some dd∧((∃ k,dd=.int k)∨dd=.bool∨dd=.string)):=by
 cases d with
 | zero=>simp [yQ] at hf
 | succ d=>
  simp only [yQ] at hf
  split at hf
  ·rename_i k hu;cases hf;exact .inr ⟨rfl,_,hu,.inl ⟨k,rfl⟩⟩
  ·rename_i hu;cases hf;exact .inr ⟨rfl,_,hu,.inr (.inl rfl)⟩
  ·rename_i hu;cases hf;exact .inr ⟨rfl,_,hu,.inr (.inr rfl)⟩
  ·rename_i fs hu;exact .inl ⟨fs,hu⟩
  ·cases hf
theorem Nx {P:Program} {Z:Nat→Nat}:∀ (d D:Nat) (t:TypeId) (ks:List Nat),yQ P d t=some ks→d≤D→∀ (cI bs:List IV) (us vs:List Value) (r:Bool),gY Z w cI us→gY Z w bs vs→qA ks cI bs=some r →
  (Op.equalIn D t (xw P t us) (xw P t vs)).run P w=.ok r w:=by
 intro d
 induction d with
 | zero=>intro D t ks hf;simp [yQ] at hf
 | succ d ih=>
  intro D t ks hf hD cI bs us vs r ha hb he
  cases D with
  | zero=>omega
  | succ D=>
   simp only [yQ] at hf
   split at hf
   ·rename_i kk hu;cases hf;exact Xf hu (.inl ⟨rfl,kk,rfl⟩) ha hb he D
   ·rename_i hu;cases hf;exact Xf hu (.inr (.inl ⟨rfl,rfl⟩)) ha hb he D
   ·rename_i hu;cases hf;exact Xf hu (.inr (.inr ⟨rfl,rfl⟩)) ha hb he D
   ·rename_i fs hu
    split at hf
    ·cases hf
    ·rename_i hst
     have Aw:P.stoodInHeld t=false:=by simpa using hst
     have hfo:P.fieldsOf t=fs:=by simp [Program.fieldsOf,hu]
     have hv:∀ l:List Value,xw P t l=.agg l.toArray:=fun l=>by simp [xw,hu]
     rw [hv,hv,run_equalIn_struct w D t _ _ (by rw [hfo];exact hu) Aw,hfo]
     have key:∀ (fl:List Field) (n:Nat) (ks:List Nat) (r:Bool),J5 P (yQ P d) n fl=some ks→n+ks.length≤us.length→n+ks.length≤vs.length→qA ks (cI.drop n |>.take ks.length) (bs.drop n |>.take ks.length)=some r →
       (Op.eqFields D us.toArray vs.toArray fl).run P w=.ok r w:=by
      intro fl
      induction fl with
      | nil=>
       intro n ks r h1 _ _ h2
       simp [J5] at h1
       subst h1
       simp [qA] at h2
       subst h2
       simp [Op.eqFields]
      | cons f fl Aj=>
       intro n ks r h1 gJ gI h2
       simp only [J5] at h1
       split at h1
       ·rename_i hname
        split at h1
        ·rename_i kf C2
         split at h1
         ·rename_i hsize
          split at h1
          ·rename_i rest fX
           cases h1
           simp only [uY] at gJ gI
           obtain ⟨r1,r2,h3,h4,rfl⟩:=JW h2
           obtain ⟨hn1,hn2⟩:=hname
           have l8:=FJ (P:=P) (n:=kf.length) hsize w us f.offset (KY C2) (by omega)
           have nF:=FJ (P:=P) (n:=kf.length) hsize w vs f.offset (KY C2) (by omega)
           have heq:=ih D f.type kf C2 (by omega) ((cI.drop f.offset).take kf.length) ((bs.drop f.offset).take kf.length) ((us.drop f.offset).take kf.length) ((vs.drop f.offset).take kf.length) r1
            ((ha.drop _).take _) ((hb.drop _).take _) (by
             rw [hn2]
             simpa [List.take_take,Nat.min_eq_left (uO kf.length rest.length)] using h3)
           simp only [Op.eqFields,if_pos hn1,Sem.run_bind,l8,nF,Result.andThen_ok,heq,Sem.run_ite]
           cases r1 with
           | false=>simp
           | true=>
            simp only [Bool.not_true,ut,if_false,Bool.true_and]
            refine Aj (n+kf.length) rest r2 fX (by omega) (by omega) ?_
            rw [←h4]
            congr 1
            ·rw [u6,u7];congr 1;simp
            ·rw [u6,u7];congr 1;simp
          ·cases h1
         ·cases h1
        ·cases h1
       ·cases h1
     obtain ⟨gJ,gI⟩:=Qy he
     refine key fs.toList 0 ks r hf (by rw [←ha.1];omega) (by rw [←hb.1];omega) ?_
     rw [u9,u9,uR (by omega),uR (by omega)]
     exact he
   ·cases hf
theorem VL {x:AV} {v:Value} {l:List IV} (hx:Z3 x=some l) (hv:RV C g h N w x v):∃ vs,v=.agg vs.toArray∧gY g.Z w l vs:=by
 unfold Z3 at hx
 split at hx
 ·cases hx
  cases hv with
  | ak _ _ hr=>cases hr with | agg _ vs hl h1 hr=>exact ⟨vs,rfl,hl,hr⟩
 ·rename_i cs
  obtain ⟨h1,h2⟩:=ql hx
  cases hv with
  | agg _ vs hl h1' hr=>
   refine ⟨vs,rfl,by rw [h1];exact hl,fun j c u hj hu => ?_⟩
   have hlt:j < cs.length:=by rw [←h1];exact (ua.1 hj).1
   obtain ⟨c',eV,eW⟩:=h2 j cs[j] (by simp)
   rw [hj] at eV
   cases eV
   exact Y6 eW (hr j cs[j] u (by simp) hu)
 ·cases hx
theorem Ny {x:AV} {v:Value} {l:List IV} (hx:Z3 x=some l) (hv:RV C g h N w x v):RI g.Z w (.agg l) v:=by
 unfold Z3 at hx
 split at hx
 ·cases hx
  cases hv with
  | ak _ _ hr=>exact hr
 ·rename_i cs
  obtain ⟨h1,h2⟩:=ql hx
  cases hv with
  | agg _ vs hl h1' hr=>
   refine .agg _ vs (by rw [h1];exact hl) h1' fun j c u hj hu => ?_
   have hlt:j < cs.length:=by rw [←h1];exact (ua.1 hj).1
   obtain ⟨c',eV,eW⟩:=h2 j cs[j] (by simp)
   rw [hj] at eV
   cases eV
   exact Y6 eW (hr j cs[j] u (by simp) hu)
 ·cases hx
theorem Nz {o:Oper} {t:TypeId} {fs:Array Field} {x:Operand} (ho:o.op=.makeInterface t x) (ht:C.P.underlying t=some (.struct fs)):aP C o (.BN t (C.bk x)):=by
 intro g h N w id ev val r aN R hid hv he
 have hx:=hv x (by simp [ho,Op.operands])
 simp only [ai] at he
 split at he
 ·rename_i l e1
  simp only [Option.some.injEq,Prod.mk.injEq] at he
  obtain ⟨rfl,rfl⟩:=he
  exact ⟨.iface t (val x),w,.inl (by simp [execOp,ho,Instr.makeInterface,run_underlying ht]),zx R (.ak _ _ (.iface t _ _ (Ny e1 hx)))⟩
 ·cases he
theorem KZ {o:Oper} {t t':TypeId} {op:BinOp} {neg:Bool} {ks:List Nat} {fs:Array Field} {x y:Operand} (ho:o.op=.binOp op t x y t') (ht:C.P.underlying t=some (.struct fs))
  (hf:yQ C.P 9 t=some ks) (hg:C.P.eqGuardType C.P.depth t=false) (hop:op=if neg then .neq else .eql):aP C o (.eqs neg ks (C.bk x) (C.bk y)):=by
 intro g h N w id ev val r aN R hid hv he
 have hx:=hv x (by simp [ho,Op.operands])
 have hy:=hv y (by simp [ho,Op.operands])
 simp only [ai] at he
 split at he
 ·rename_i a b e1 e2
  split at he
  ·rename_i rr hr
   simp only [Option.some.injEq,Prod.mk.injEq] at he
   obtain ⟨rfl,rfl⟩:=he
   obtain ⟨us,FK,NA⟩:=VL e1 hx
   obtain ⟨vs,gD,nT⟩:=VL e2 hy
   have:=Nx (P:=C.P) (w:=w) 9 10000 t ks hf (by omega) a b us vs rr NA nT hr
   have FL:∀ l:List Value,xw C.P t l=.agg l.toArray:=fun l=>by simp [xw,ht]
   rw [FL,FL] at this
   refine ⟨.bool (if neg then !rr else rr),w,.inl ?_,zx R (.ak _ _ (.bool _))⟩
   subst hop
   cases neg with
   | false=>simp only [ut,if_false] at ho ⊢; simp [execOp,ho,FK,gD,run_eqGuard_agg w _ t x y _ _ hg,run_eql_struct,this]
   | true=>simp only [if_true] at ho ⊢; simp [execOp,ho,FK,gD,run_eqGuard_agg w _ t x y _ _ hg,run_neq_struct,this]
  ·cases he
 ·cases he
end
end
section
section
variable {C:Ctx} {g g':Gh} {h h':Nat→Option aF} {N N':Nat→Prop} {w w':World} {id:Nat}
def Gh.move (g:Gh) (i id b:Nat):Gh:=⟨fun k=>if k=id then some b else if k=i then none else g.ρ k,g.Z⟩
theorem Z9 (R:RH C g h N w) (hid:¬ N id) {i l7:Nat} {eM:List (List AV)} (hi:h i=some (.af l7 eM)) {b':Nat} {w1:World} {c':Array Value} {e':TypeId}
  (hos:w1.os=w.os) (tJ:w1.tape=w.tape) (hout:w1.output=w.output) (hsize:w.heap.size≤w1.heap.size) (iQ:∀ k,k < w.heap.size→k≠b'→w1.heap[k]?=w.heap[k]?)
  (hfresh:w.heap.size≤b'∨g.ρ i=some b') (hz:g.Z b'=0) (sq:w1.heap[b']?=some (.cells c' e' (0,0)))
  (sr:∀ (c:Array Value) (e:TypeId),w.heap[b']?=some (.cells c e (0,0))→∃ pZ:Array Value,w1.heap[b']?=some (.cells pZ e (0,0))∧pZ.size=c.size)
  {sz:Nat} {af:List (List AV)} (hrl:∀ (k:Nat) (row:List AV),af[k]?=some row→row.length=sz)
  (hrc:∀ (k:Nat) (row:List AV) (j:Nat) (x:AV),af[k]?=some row→row[j]?=some x→∃ cv,c'[k*sz+j]?=some cv∧cv.oneCell'=true∧RV C g h N w x cv)
  {len cap:Nat} (hlen:len=af.length) (Ax:len≤cap) (hcap2:cap*sz≤c'.size) :
  Good C g h N w id (.Zai id 0 len) [(id,.af sz af),(i,.dead)] (.slice (some ⟨b',0,none⟩) len cap) w1:=by
 have hN:=R.key i _ hi
 have hne:i≠id:=fun e=>hid (e ▸ hN)
 have mB:∀ k,N k→k≠id:=fun k hk e=>hid (e ▸ hk)
 have iR:∀ k o,bB [(id,aF.af sz af),(i,.dead)] h k=some o→(k=id∧o=.af sz af)∨(k=i∧o=.dead)∨(k≠id∧k≠i∧h k=some o):=fun k o ho=>by
  simp only [bB] at ho
  split at ho
  ·rename_i e;cases ho;exact .inl ⟨e.symm,rfl⟩
  ·rename_i e
   split at ho
   ·rename_i e2;cases ho;exact .inr (.inl ⟨e2.symm,rfl⟩)
   ·rename_i e2;exact .inr (.inr ⟨fun e3=>e e3.symm,fun e3=>e2 e3.symm,ho⟩)
 have su:∀ k b,g.ρ k=some b→k≠i→b≠b':=fun k b hk hki e=>by
  rcases hfresh with hf | hf
  ·have:=(R.lt k b hk).1;omega
  ·exact hki (R.inj k i b hk (e ▸ hf))
 have E:b8 g h N w (g.move i id b') (bB [(id,.af sz af),(i,.dead)] h) (qn N id) w1:={
  os:=hos
  tape:=tJ
  output:=hout
  size:=hsize
  old:=fun b hb ho=>⟨iQ b hb (fun e=>by
   rcases hfresh with hf | hf
   ·omega
   ·exact ho ⟨i,by rw [e];exact hf⟩),rfl⟩
  own:=fun b ⟨k,hk⟩=>by
   simp only [Gh.move] at hk
   split at hk
   ·cases hk
    rcases hfresh with hf | hf
    ·exact .inr hf
    ·exact .inl ⟨i,hf⟩
   ·split at hk
    ·cases hk
    ·exact .inl ⟨k,hk⟩
  cg:=fun _=>uc _
  cell:=iD.heap fun b ho=>iQ b (R.ea b ho) (fun e=>by subst e;omega)
  shape:=fun b c e hb=>by
   by_cases FM:b=b'
   ·subst FM;exact sr c e hb
   ·exact ⟨c,(iQ b (qf hb) FM).trans hb,rfl⟩
  next:=fun k hk=>.inl hk
  eo:=fun k b hb o ho hnd hk=>by
   rcases iR k o ho with ⟨h1,h2⟩ | ⟨h1,h2⟩ | ⟨h1,h2,h3⟩
   ·exact absurd h1 (mB k hk)
   ·exact absurd h2 hnd
   ·exact .inl (by simp only [Gh.move];rw [if_neg h1,if_neg h2];exact hb)
  cJ:=fun k hb hk o ho hnd=>by
   rcases iR k o ho with ⟨h1,h2⟩ | ⟨h1,h2⟩ | ⟨h1,h2,h3⟩
   ·exact absurd h1 (mB k hk)
   ·exact absurd h2 hnd
   ·exact .inl (by simp only [Gh.move];rw [if_neg h1,if_neg h2];exact hb)
  af:=fun k hk s r ho=>by
   rcases iR k _ ho with ⟨h1,h2⟩ | ⟨h1,h2⟩ | ⟨h1,h2,h3⟩
   ·exact absurd h1 (mB k hk)
   ·cases h2
   ·exact ⟨r,h3,rfl⟩
  cS:=fun k hk s l ho=>by
   rcases iR k _ ho with ⟨h1,h2⟩ | ⟨h1,h2⟩ | ⟨h1,h2,h3⟩
   ·cases h2
   ·cases h2
   ·exact ⟨l,h3,uc _⟩
  maps:=fun k hk es ho=>by
   rcases iR k _ ho with ⟨h1,h2⟩ | ⟨h1,h2⟩ | ⟨h1,h2,h3⟩
   ·cases h2
   ·cases h2
   ·exact ⟨es,h3⟩
  fE:=fun k hk ll RR s pe ho=>by
   rcases iR k _ ho with ⟨h1,h2⟩ | ⟨h1,h2⟩ | ⟨h1,h2,h3⟩
   ·cases h2
   ·cases h2
   ·exact ⟨s,pe,h3⟩}
 refine ⟨g.move i id b',E,⟨fun k l b hk hl => ?_,fun k b hk => ?_,fun k o ho => ?_,fun k b o hk ho => ?_,fun k s l ho hn => ?_,fun b hb=>uZ (R.ea b hb) hsize,R.fix.eN E⟩,?_⟩
 ·simp only [Gh.move] at hk hl
  split at hk
  ·rename_i e1
   cases hk
   split at hl
   ·rename_i e2;rw [e1,e2]
   ·split at hl
    ·cases hl
    ·rename_i e2 e3;exact absurd rfl (su l _ hl e3)
  ·rename_i e1
   split at hk
   ·cases hk
   ·rename_i e2
    split at hl
    ·cases hl;exact absurd rfl (su k _ hk e2)
    ·split at hl
     ·cases hl
     ·exact R.inj k l b hk hl
 ·simp only [Gh.move] at hk
  split at hk
  ·rename_i e1;cases hk;exact ⟨qf sq,.inr e1⟩
  ·split at hk
   ·cases hk
   ·exact ⟨uZ (R.lt k b hk).1 hsize,.inl (R.lt k b hk).2⟩
 ·rcases iR k o ho with ⟨h1,_⟩ | ⟨h1,_⟩ | ⟨_,_,h3⟩
  ·exact .inr h1
  ·exact .inl (h1 ▸ hN)
  ·exact .inl (R.key k o h3)
 ·rcases iR k o ho with ⟨h1,h2⟩ | ⟨h1,h2⟩ | ⟨h1,h2,h3⟩
  ·subst h2
   simp only [Gh.move,if_pos h1] at hk
   cases hk
   refine ⟨hz,c',e',sq,hrl,fun q row j x hq hj => ?_⟩
   obtain ⟨cv,a1,a2,a3⟩:=hrc q row j x hq hj
   exact ⟨cv,a1,a2,a3.mono E⟩
  ·subst h2;trivial
  ·simp only [Gh.move] at hk
   rw [if_neg h1,if_neg h2] at hk
   exact (R.obj k b o hk h3).keep E (iQ b (R.lt k b hk).1 (su k b hk h2)) rfl
 ·rcases iR k _ ho with ⟨h1,h2⟩ | ⟨h1,h2⟩ | ⟨h1,h2,h3⟩
  ·cases h2
  ·cases h2
  ·simp only [Gh.move] at hn
   rw [if_neg h1,if_neg h2] at hn
   exact R.cR k s l h3 hn
 ·refine .Zai id 0 len _ (.inr rfl) rfl fun sz' eb ho => ?_
  simp only [bB,if_pos] at ho
  cases ho
  exact ⟨by omega,.inr ⟨b',cap,c',e',by simp [Gh.move],by simp,Ax,sq,by simpa using hcap2⟩⟩
theorem K0 (R:RH C g h N w) (hid:¬ N id) (sz:Nat):Good C g h N w id (.Zai id 0 0) [(id,.af sz [])] (.slice none 0 0) w:=by
 have ne:∀ i,N i→id≠i:=fun i hi e=>hid (e ▸ hi)
 have E:b8 g h N w g (bB [(id,.af sz [])] h) (qn N id) w:=
  ⟨rfl,rfl,rfl,uc _,fun _ _ _=>⟨rfl,rfl⟩,fun _ h=>.inl h,fun _=>uc _,⟨fun _ _ _=>rfl,fun _ _ _ _ _=>rfl⟩,fun b c e hb=>⟨c,hb,rfl⟩,fun _ h=>.inl h,fun i b hb _ _ _ _=>.inl hb,fun i hb _ _ _ _=>.inl hb,
   fun i hi s r ho=>⟨r,by simp only [bB] at ho;rwa [if_neg (ne i hi)] at ho,rfl⟩,fun i hi s r ho=>⟨r,by simp only [bB] at ho;rwa [if_neg (ne i hi)] at ho,uc _⟩,
   fun i hi r ho=>⟨r,by simp only [bB] at ho;rwa [if_neg (ne i hi)] at ho⟩,
   fun i hi l R s pe ho=>⟨s,pe,by simp only [bB] at ho;rwa [if_neg (ne i hi)] at ho⟩⟩
 have hn:=R.lG hid
 refine ⟨g,E,⟨R.inj,fun i b hb=>⟨(R.lt i b hb).1,.inl (R.lt i b hb).2⟩,fun i o ho => ?_,fun i b o hb ho => ?_,fun i s l ho hr => ?_,R.ea,R.fix.eN E⟩,?_⟩
 ·simp only [bB] at ho
  split at ho
  ·rename_i e;exact .inr e.symm
  ·exact .inl (R.key i o ho)
 ·simp only [bB] at ho
  split at ho
  ·rename_i e;subst e;rw [hn] at hb;cases hb
  ·exact (R.obj i b o hb ho).keep E rfl rfl
 ·simp only [bB] at ho
  split at ho
  ·cases ho
  ·exact R.cR i s l ho hr
 ·refine .Zai id 0 0 _ (.inr rfl) rfl fun s af ho => ?_
  simp only [bB,if_pos] at ho
  cases ho
  exact ⟨uc _,.inl ⟨hn,rfl,rfl⟩⟩
theorem FN {i len sz:Nat} {af:List (List AV)} {v:Value} (R:RH C g h N w) (hid:¬ N id) (hv:RV C g h N w (.Zai i 0 len) v) (ho:h i=some (.af sz af)) (hl:len=af.length):Good C g h N w id (.Zai id 0 len) [(id,.af sz af),(i,.dead)] v w:=by
 cases hv with
 | Zai _ _ _ _ hni h1 hp=>
  obtain ⟨h2,h3⟩:=hp sz af ho
  rcases h3 with ⟨a1,a2,a3⟩ | ⟨b,cap,c,e,b1,b2,b3,b4,b5⟩
  ·subst a2 a3 hl
   obtain ⟨g',E,H,hv⟩:=K0 (id:=id) R hid sz
   have ne:i≠id:=fun e=>hid (e ▸ hni)
   have hh:∀ k o,bB [(id,aF.af sz []),(i,.dead)] h k=some o→(k=i∧o=.dead)∨(k≠i∧bB [(id,aF.af sz [])] h k=some o):=fun k o hk=>by
    simp only [bB] at hk ⊢
    split at hk
    ·rename_i e;subst e;cases hk;exact .inr ⟨fun e=>ne e.symm,by rw [if_pos rfl]⟩
    ·rename_i e
     split at hk
     ·rename_i e2;cases hk;exact .inl ⟨e2.symm,rfl⟩
     ·rename_i e2;exact .inr ⟨fun e3=>e2 e3.symm,by rw [if_neg e];exact hk⟩
   have oY:g'.ρ i=none:=by
    cases hr:g'.ρ i with
    | none=>rfl
    | some b=>
     have h4:=H.obj i b (.af sz []) hr (by simp only [bB];rw [if_neg (fun e=>ne e.symm)];exact ho)
     have h5:g'.ρ i=none:=by
      rcases E.cJ i a1 hni (.af sz []) (by simp only [bB];rw [if_neg (fun e=>ne e.symm)];exact ho) (by simp) with h6 | ⟨_,_,_,_,_,h7,_⟩
      ·exact h6
      ·cases h7
     rw [h5] at hr;cases hr
   have E2:b8 g' (bB [(id,aF.af sz [])] h) (qn N id) w g' (bB [(id,aF.af sz []),(i,.dead)] h) (qn N id) w:={
    os:=rfl
    tape:=rfl
    output:=rfl
    size:=uc _
    old:=fun _ _ _=>⟨rfl,rfl⟩
    own:=fun _ h=>.inl h
    cg:=fun _=>uc _
    cell:=iD.refl _ _
    shape:=fun b c e h=>⟨c,h,rfl⟩
    next:=fun _ h=>h
    eo:=fun k b h _ _ _ _=>.inl h
    cJ:=fun k h _ _ _ _=>.inl h
    af:=fun k _ s r hk=>by
     rcases hh k _ hk with ⟨_,h7⟩ | ⟨_,h7⟩
     ·cases h7
     ·exact ⟨r,h7,rfl⟩
    cS:=fun k _ s r hk=>by
     rcases hh k _ hk with ⟨_,h7⟩ | ⟨_,h7⟩
     ·cases h7
     ·exact ⟨r,h7,uc _⟩
    maps:=fun k _ r hk=>by
     rcases hh k _ hk with ⟨_,h7⟩ | ⟨_,h7⟩
     ·cases h7
     ·exact ⟨r,h7⟩
    fE:=fun k _ ll RR s pe hk=>by
     rcases hh k _ hk with ⟨_,h7⟩ | ⟨_,h7⟩
     ·cases h7
     ·exact ⟨s,pe,h7⟩}
   refine ⟨g',E.trans E2,⟨H.inj,H.lt,fun k o hk => ?_,fun k b o hb hk => ?_,fun k s l hk hr => ?_,H.ea,H.fix.eN E2⟩,hv.mono E2⟩
   ·rcases hh k o hk with ⟨h7,h8⟩ | ⟨h7,h8⟩
    ·subst h7;exact .inl hni
    ·exact H.key k o h8
   ·rcases hh k o hk with ⟨h7,h8⟩ | ⟨h7,h8⟩
    ·subst h8;trivial
    ·exact (H.obj k b o hb h8).keep E2 rfl rfl
   ·rcases hh k _ hk with ⟨h7,h8⟩ | ⟨h7,h8⟩
    ·cases h8
    ·exact H.cR k s l h8 hr
  ·subst hl b2
   have mC:=R.obj i b _ b1 ho
   simp only [cH] at mC
   obtain ⟨z0,c2,e2,c3,c4,c5⟩:=mC
   rw [b4] at c3
   cases c3
   have:=Z9 (id:=id) (b':=b) (w1:=w) R hid ho rfl rfl rfl (uc _) (fun _ _ _=>rfl) (.inr b1) z0 b4 (fun c e hc=>⟨c,hc,rfl⟩) c4 c5 rfl b3 (by simpa using b5)
   simpa using this
theorem NB {o:Oper} {t t' e:TypeId} {d:TypeDesc} {s x:Operand} {sz bL:Nat} {z:List AV} (ho:o.op=.call {callee:=.builtin .append,args := #[s,x],argTypes := #[t,t']})
  (ht:C.P.underlying t=some (.slice e)) (ht':C.P.underlying t'=some d) (hd:∀ k,d≠.int k) (hsz:zA C.P e=some sz) (hby:xv C.P e=some bL) (hz:qJ C.P e=some z)
  (h0:0 < sz) (hzl:z.length=sz) (mz:0 < bL):Ns C o sz bL (C.bk s) (C.bk x):=by
 intro g h N w id ev val r aN R hid hv he
 have hs:=hv s (by simp [ho,Op.operands,Call.operands])
 have hx:=hv x (by simp [ho,Op.operands,Call.operands])
 obtain ⟨i,zv,hi,iN,rfl⟩:=jS hz
 have hzs:zv.cells.size=sz:=by simpa using hzl
 have hsize:i.size=sz:=by simpa [zA,hi] using hsz
 have hbytes:i.bytes=bL:=by simpa [xv,hi] using hby
 subst hsize
 subst hbytes
 have exec:∀ v' w',(Builtin.append_ #[t,t'] o.type #[val s,val x]).run C.P w=.ok v' w'→pz C.P (execOp val o) w v' w':=fun v' w' hrun=>by
  refine .inl ?_
  simp [execOp,ho,resolve,invoke,builtin,hrun]
 unfold Je at he
 split at he
 case h_2=>cases he
 rename_i new hnew
 split at he
 ·cases he
 rename_i hall
 have rm:∀ row∈new,row.length=i.size:=fun row hr=>by
  simp only [u4,u5] at hall
  have:=ux.1 hall row hr
  simpa using this
 obtain ⟨a,cp,CX,news,hn1,hn2,rY,Ar⟩:=VK R hnew hx rm
 have hsrc:Src C.P w i.size new.length (val x) news:=⟨⟨a,cp,CX⟩,hn1,hn2,fun w1 hw1=>Ar C.P w1 hw1⟩
 have BR:∀ (k:Nat) (row:List AV) (j:Nat) (y:AV),new[k]?=some row→row[j]?=some y→∃ u,news[k*i.size+j]?=some u∧u.oneCell'=true∧RV C g h N w y u:=fun k row j y hk hj=>by
  obtain ⟨u,h1,h2⟩:=rY k row j y hk hj
  exact ⟨u,h1,hn2 u (ue h1),h2⟩
 have lz:∀ (k:Nat) (row:List AV),new[k]?=some row→row.length=i.size:=fun k row hk=>rm row (ue hk)
 split at he
 ·rename_i q off len e1
  rw [e1] at hs
  split at he
  ·rename_i sz' af cO
   cases new with
   | nil=>
    split at he
    case isFalse=>cases he
    rename_i bM
    obtain ⟨rfl,rfl,hlen,hbound⟩:=bM
    simp only [Option.some.injEq,Prod.mk.injEq] at he
    obtain ⟨rfl,rfl⟩:=he
    have nc:=FN (id:=id) R hid hs cO hlen
    simp only [uu,Ud,List.append_nil]
    have hs0:=hs
    cases hs with
    | Zai _ _ _ _ hni hone hp=>
     obtain ⟨h3,h4⟩:=hp _ _ cO
     rcases h4 with ⟨hn,hr,hval⟩ | ⟨b,cap,c,e',hb,hval,hle,hw,hcap⟩
     ·subst hr
      have rf:len=0:=by simp at h3;omega
      have hrun:=Zv (w:=w) (ty:=o.type) ht hi ht' hd (news:=news) (by simpa using hsrc)
      refine ⟨_,_,exec _ _ (by rw [hval];exact hrun),nc⟩
     ·have NC:news=[]:=ui (by rw [hn1];simp)
      obtain ⟨⟨a9,ND,NE⟩,_,_,hread⟩:=hsrc
      have gC:=hread w rfl
      have iq:(match d with | .int _=>true | _=>false)=false:=by cases d<;>first | rfl | exact absurd rfl (hd _)
      refine ⟨val s,w,exec _ _ ?_,nc⟩
      rw [hval]
      rw [NE] at gC ⊢
      simp only [uu] at gC
      simp [Builtin.append_,run_underlying ht,sizeOf,typeInfo,hi,Builtin.lenOf,run_underlying ht',iq,hle,gC,NC,storeCells]
   | cons lJ o3=>
    split at he
    ·rename_i bM
     obtain ⟨rfl,rfl,rfl,hbound⟩:=bM
     simp only [Option.some.injEq,Prod.mk.injEq] at he
     obtain ⟨rfl,rfl⟩:=he
     have hpos:0 < (lJ::o3).length:=by simp
     cases hs with
     | Zai _ _ _ _ hni hone hp=>
      obtain ⟨h3,h4⟩:=hp _ _ cO
      have FO:(af++(lJ::o3)).length=af.length+(lJ::o3).length:=by simp
      have mD:(∀ (k:Nat) (row:List AV),af[k]?=some row→row.length=i.size)→∀ (k:Nat) (row:List AV),(af++(lJ::o3))[k]?=some row→row.length=i.size:=fun hh k row hk=>by
       rw [uk] at hk
       split at hk
       ·exact hh k row hk
       ·exact lz _ row hk
      have mE:∀ (c':Array Value) ,(∀ (k:Nat) (row:List AV) (j:Nat) (y:AV),af[k]?=some row→row[j]?=some y→∃ u,c'[k*i.size+j]?=some u∧u.oneCell'=true∧RV C g h N w y u)→(∀ q u,news[q]?=some u→c'[af.length*i.size+q]?=some u) →
        ∀ (k:Nat) (row:List AV) (j:Nat) (y:AV),(af++(lJ::o3))[k]?=some row→row[j]?=some y→∃ u,c'[k*i.size+j]?=some u∧u.oneCell'=true∧RV C g h N w y u:=fun c' hA hB k row j y hk hj=>by
       rw [uk] at hk
       split at hk
       ·exact hA k row j y hk hj
       ·rename_i hge
        obtain ⟨u,a1,a2,a3⟩:=BR _ row j y hk hj
        refine ⟨u,?_,a2,a3⟩
        rw [←hB _ u a1]
        congr 1
        have:af.length*i.size≤k*i.size:=ud _ (by omega)
        rw [uA]
        omega
      rcases h4 with ⟨hn,hr,hval⟩ | ⟨b,cap,c,e',hb,hval,hle,hw,hcap⟩
      ·subst hr
       obtain ⟨cK,rest,eV,eW,hrun⟩:=Zw (w:=w) (ty:=o.type) (olds:=[]) (L:=0) (cap:=0) (base:=none) ht hi iN ht' hd hval ⟨⟨none,0,hval⟩,by simp,by simp,fun w1 _=>by rw [hval];simp [Builtin.firstCells]⟩ hsrc (by simp) mz (by simpa using hbound)
       simp only [uy,List.nil_append] at hrun eV eW
       have sw:(news.toArray++rest).size=cK*i.size:=by
        simp only [uD,uE,hn1,eW,hzs]
        rw [←ug];congr 1;omega
       refine ⟨_,_,exec _ _ hrun,?_⟩
       have:=Z9 (id:=id) (b':=w.heap.size) (w1:=w.drew.alloc (.cells (news.toArray++rest) e (0,0))) R hid cO rfl rfl rfl (by simp) (fun k hk _=>qB w.drew _ hk) (.inl (uc _)) R.mj (zY w.drew _)
        (fun c e hc=>by have:=qf hc;omega) (sz:=i.size) (af:=[]++(lJ::o3)) (mD (fun k row hk=>by simp at hk)) (mE _ (fun k row j y hk=>by simp at hk) (fun q u hq=>by
         have hlt:q < news.length:=(ua.1 hq).1
         simp only [uu,u0,uy]
         rw [ul (by simpa using hlt)]
         simpa using hq)) (len:=0+(lJ::o3).length) (cap:=cK) (by simp) (by omega) (by omega)
       simpa using this
      ·obtain ⟨gM,c2,e2,pF,gO,iT⟩:=R.obj q b _ hb cO
       rw [hw] at pF
       cases pF
       simp only [uy,u0] at hcap hval
       by_cases hroom:af.length+(lJ::o3).length≤cap
       ·have hm1:(af.length+(lJ::o3).length)*i.size≤cap*i.size:=ud _ hroom
        have hfit:af.length*i.size+news.length≤c.size:=by rw [hn1,←ug];omega
        have hrun:=Xc (P:=C.P) (w:=w) (ty:=o.type) ht hi ht' hd hw hsrc hroom hfit
        refine ⟨_,_,exec _ _ (by rw [hval];exact hrun),?_⟩
        refine Z9 (id:=id) (b':=b) (w1:=zC w b (.cells (qu c (af.length*i.size) news) e' (0,0))) R hid cO rfl rfl rfl (by rw [jf];exact uc _) (fun k hk hne=>by rw [zF w b _ (qf hw),if_neg hne]) (.inr hb) gM (c':=qu c (af.length*i.size) news) (e':=e') (by rw [zF w b _ (qf hw)];simp)
         (fun c3 e3 nU=>by rw [hw] at nU;cases nU;exact ⟨_,by rw [zF w b _ (qf hw),if_pos rfl],jR _ _ _⟩) (mD gO) (mE _ (fun k row j y hk hj => ?_) (fun p u nF => ?_)) (by simp) hroom (by rw [jR];exact hcap)
        ·obtain ⟨cv,a1,a2,a3⟩:=iT k row j y hk hj
         refine ⟨cv,?_,a2,a3⟩
         rw [xP c _ news hfit,if_neg ?_]
         ·exact a1
         ·have hk':k < af.length:=(ua.1 hk).1
          have hj':j < i.size:=by rw [←gO k row hk];exact (ua.1 hj).1
          have:(k+1)*i.size≤af.length*i.size:=ud _ hk'
          rw [ug] at this
          omega
        ·have hlt:p < news.length:=(ua.1 nF).1
         rw [xP c _ news hfit,if_pos (by omega),show af.length*i.size+p - af.length*i.size=p by omega]
         exact nF
       ·have mA:cap < af.length+(lJ::o3).length:=by omega
        have hcell:∀ k,k < af.length*i.size→∃ u,c[k]?=some u∧u.oneCell'=true:=fun k hk=>by
         have hi':k / i.size < af.length:=un (by rw [uj];exact hk)
         have hrow:af[k / i.size]?=some af[k / i.size]:=ub hi'
         have hj':k % i.size < (af[k / i.size]).length:=by rw [gO _ _ hrow];exact uQ _ h0
         obtain ⟨cv,a1,a2,_⟩:=iT _ _ (k % i.size) _ hrow (ub hj')
         refine ⟨cv,?_,a2⟩
         rw [←a1];congr 1
         have:=uI k i.size
         rw [uj] at this;omega
        obtain ⟨olds,rp,BQ⟩:=yS (β:=Value) (uB (af.length*i.size)) (fun _ k u=>c[k]?=some u∧u.oneCell'=true) (fun j k hj=>by
         obtain ⟨fM,hj2⟩:=ua.1 hj
         simp at fM hj2
         subst hj2
         exact hcell j fM)
        have pG:olds.length=af.length*i.size:=by simpa using rp
        have mF:∀ (k:Nat) (u:Value),olds[k]?=some u→c[k]?=some u∧u.oneCell'=true:=fun k u hk=>by
         have hlt:k < af.length*i.size:=by rw [←pG];exact (ua.1 hk).1
         exact BQ k k u (by simp [hlt]) hk
        have hold:Src C.P w i.size af.length (val s) olds:=⟨⟨_,cap,hval⟩,pG,fun u hu=>by
         obtain ⟨k,hk⟩:=uo hu
         exact (mF k u hk).2,fun w1 hw1=>by
         rw [hval]
         simp only [Builtin.firstCells]
         rw [←pG]
         refine run_loadCells_list (P:=C.P) w1 _ olds fun k u hk => ?_
         have:w1.heap[b]?=some (.cells c e' (0,0)):=by rw [hw1];exact hw
         rw [qS,qK this,uy]
         exact (mF k u hk).1⟩
        obtain ⟨cK,rest,eV,eW,hrun⟩:=Zw (w:=w) (ty:=o.type) ht hi iN ht' hd hval hold hsrc mA mz hbound
        have sw:((olds++news).toArray++rest).size=cK*i.size:=by
         simp only [uD,uE,uY,pG,hn1,eW,hzs]
         rw [←ug,←ug];congr 1;omega
        refine ⟨_,_,exec _ _ hrun,?_⟩
        refine Z9 (id:=id) (b':=w.heap.size) (w1:=w.drew.alloc (.cells ((olds++news).toArray++rest) e (0,0))) R hid cO rfl rfl rfl (by simp) (fun k hk _=>qB w.drew _ hk) (.inl (uc _)) R.mj (zY w.drew _)
         (fun c3 e3 nU=>by have:=qf nU;omega) (mD gO) (mE _ (fun k row j y hk hj => ?_) (fun p u nF => ?_)) (by simp) eV (by omega)
        ·obtain ⟨cv,a1,a2,a3⟩:=iT k row j y hk hj
         refine ⟨cv,?_,a2,a3⟩
         have hk':k < af.length:=(ua.1 hk).1
         have hj':j < i.size:=by rw [←gO k row hk];exact (ua.1 hj).1
         have:(k+1)*i.size≤af.length*i.size:=ud _ hk'
         rw [ug] at this
         have hlt:k*i.size+j < olds.length:=by omega
         have fp:=(mF (k*i.size+j) olds[k*i.size+j] (ub hlt)).1
         rw [a1] at fp
         cases fp
         rw [ul (by simp;omega),uT,uz hlt]
         exact ub hlt
        ·have hlt:p < news.length:=(ua.1 nF).1
         rw [ul (by simp;omega)]
         simp only [uT]
         rw [uw (by omega),←nF]
         congr 1;omega
    ·cases he
  ·cases he
 ·cases he
theorem NF {o:Oper} {t t' e:TypeId} {d:TypeDesc} {s x:Operand} {sz bL:Nat} {z:List AV} (ho:o.op=.call {callee:=.builtin .append,args := #[s,x],argTypes := #[t,t']})
  (ht:C.P.underlying t=some (.slice e)) (ht':C.P.underlying t'=some d) (hd:∀ k,d≠.int k) (hsz:zA C.P e=some sz) (hby:xv C.P e=some bL) (hz:qJ C.P e=some z)
  (h0:0 < sz) (hzl:z.length=sz) (mz:0 < bL):aP C o (.app sz bL (C.bk s) (C.bk x)):=by
 intro g h N w id ev val r aN R hid hv he
 simp only [ai] at he
 split at he
 ·rename_i i off len e1
  rw [←e1] at he
  exact NB ho ht ht' hd hsz hby hz h0 hzl mz g h N w id ev val r aN R hid hv he
 ·exact Nt ho ht ht' hd hsz hby hz h0 hzl mz g h N w id ev val r aN R hid hv he
end
end
section
section
variable {C:Ctx} {g g':Gh} {h h':Nat→Option aF} {N N':Nat→Prop} {w w':World} {id:Nat}
theorem FQ {Z:Nat→Nat} {row:List IV} {af:List (List IV)} {v:Value} (hr:RI Z w (.slice (row::af)) v):∃ a n cap,v=.slice (some a) n cap:=by
 cases hr with
 | slice _ b off cap sz cv _ _ _ _ _=>exact ⟨_,_,_,rfl⟩
theorem J2 {P:Program} {t e:TypeId} (ht:P.underlying t=some (.slice e)) (w:World) (o:Option Addr) (n cap:Nat) :
  (Op.equal t (.slice o n cap) (.slice none 0 0)).run P w=.ok o.isNone w:=by
 have h:∀ d:Nat,(Op.equalIn (d+1) t (.slice o n cap) (.slice none 0 0)).run P w=.ok o.isNone w:=fun d=>by
  cases o<;>simp [Op.equalIn,run_underlying ht]
 exact h 9999
theorem K5 {P:Program} {t e:TypeId} (ht:P.underlying t=some (.slice e)) (neg:Bool) (x y:Operand) (w:World) (o:Option Addr) (n cap:Nat) :
  ((do eqGuard (if neg then .neq else .eql) t x y (.slice o n cap) (.slice none 0 0);binOp (if neg then .neq else .eql) t (.slice o n cap) (.slice none 0 0):Sem Value)).run P w=.ok (.bool (if neg then o.isSome else o.isNone)) w:=by
 cases neg<;>simp [eqGuard,binOp,J2 ht]
theorem WR {o:Oper} {t t' e:TypeId} {op:BinOp} {neg:Bool} {x y:Operand} (ho:o.op=.binOp op t x y t') (ht:C.P.underlying t=some (.slice e))
  (hop:op=if neg then .neq else .eql):aP C o (.eZ neg (C.bk x) (C.bk y)):=by
 intro g h N w id ev val r aN R hid hv he
 have hx:=hv x (by simp [ho,Op.operands])
 have hy:=hv y (by simp [ho,Op.operands])
 subst hop
 simp only [ai] at he
 split at he
 ·rename_i ey
  rw [ey] at hy
  have hcv:=xi hy
  have exec:∀ v,((do eqGuard (if neg then .neq else .eql) t x y (val x) (.slice none 0 0);binOp (if neg then .neq else .eql) t (val x) (.slice none 0 0):Sem Value)).run C.P w=.ok v w→(execOp val o).run C.P w=.ok (.value v) w:=fun v hr=>by
   simp only [Sem.run_bind] at hr
   simp only [execOp,ho,hcv,Sem.run_bind]
   generalize (eqGuard (if neg then BinOp.neq else .eql) t x y (val x) (.slice none 0 0)).run C.P w=r1 at hr ⊢
   cases r1 with
   | ok u w1=>
    simp only [Result.andThen_ok] at hr ⊢
    rw [hr];rfl
   | halt x w1=>simp [Result.andThen] at hr
  have oe:∀ a n cap,val x=.slice (some a) n cap→AV.ak (.bool neg)=r→[]=aN→∃ v w',pz C.P (execOp val o) w v w'∧Good C g h N w id r aN v w':=fun a n cap hval hr hu=>by
   subst hr;subst hu
   have:=K5 ht neg x y w (some a) n cap
   simp only [Option.isSome_some,Option.isNone_some] at this
   exact ⟨.bool neg,w,.inl (exec _ (by rw [hval,this];cases neg<;>rfl)),zx R (.ak _ _ (.bool _))⟩
  split at he
  ·rename_i e1
   rw [e1] at hx
   have hval:=xi hx
   simp only [Option.some.injEq,Prod.mk.injEq] at he
   obtain ⟨rfl,rfl⟩:=he
   have:=K5 ht neg x y w none 0 0
   simp only [Option.isSome_none,Option.isNone_none] at this
   exact ⟨.bool (!neg),w,.inl (exec _ (by rw [hval,this];cases neg<;>rfl)),zx R (.ak _ _ (.bool _))⟩
  ·rename_i e1
   rw [e1] at hx
   generalize hval:val x=vx at hx
   simp only [Option.some.injEq,Prod.mk.injEq] at he
   cases hx with
   | cx a cap=>exact oe _ _ _ hval he.1 he.2
  ·rename_i e1
   rw [e1] at hx
   simp only [Option.some.injEq,Prod.mk.injEq] at he
   cases hx with
   | ak _ _ hr=>
    obtain ⟨a,n,cap,hval⟩:=FQ hr
    exact oe a n cap hval he.1 he.2
  ·rename_i e1
   rw [e1] at hx
   simp only [Option.some.injEq,Prod.mk.injEq] at he
   cases hx with
   | aS _ _ _ hr _ _=>
    obtain ⟨a,n,cap,hval⟩:=FQ hr
    exact oe a n cap hval he.1 he.2
  ·cases he
 ·cases he
theorem NG {Z:Nat→Nat} {af:List (List IV)} {b off cap sz a r:Nat} {cv:Nat→Nat→Value} (hcap:af.length≤cap) (hsz:∀ (i:Nat) (row:List IV),af[i]?=some row→row.length=sz)
  (hz:∀ (i:Nat) (row:List IV) (j:Nat) (c:IV),af[i]?=some row→row[j]?=some c→off+i*sz+j < Z b)
  (hc:∀ (i:Nat) (row:List IV) (j:Nat) (c:IV),af[i]?=some row→row[j]?=some c→w.cell? ⟨b,off+i*sz+j,none⟩=some (cv i j)∧(cv i j).oneCell'=true)
  (hr:∀ (i:Nat) (row:List IV) (j:Nat) (c:IV),af[i]?=some row→row[j]?=some c→RI Z w c (cv i j)) (har:a≤r) (hrl:r≤af.length) :
  RI Z w (.slice ((af.take r).drop a)) (.slice (some ⟨b,off+a*sz,none⟩) (r - a) (cap - a)):=by
 have hlen:((af.take r).drop a).length=r - a:=by simp;omega
 have cT:∀ (i:Nat) (row:List IV),((af.take r).drop a)[i]?=some row→af[a+i]?=some row:=fun i row hi=>by
  rw [uq,uK] at hi
  split at hi
  ·exact hi
  ·cases hi
 rw [←hlen]
 refine .slice _ b _ (cap - a) sz (fun i j=>cv (a+i) j) (by rw [hlen];omega) (fun i row hi=>hsz _ row (cT i row hi)) (fun i row j c hi hj => ?_) (fun i row j c hi hj => ?_) (fun i row j c hi hj=>hr _ row j c (cT i row hi) hj)
 ·have:=hz _ row j c (cT i row hi) hj
  rw [ug] at this;omega
 ·have:=hc _ row j c (cT i row hi) hj
  rw [ug,←Nat.add_assoc] at this
  exact this
theorem NH {o:Oper} {t e:TypeId} {x:Operand} {lo hi:Option Operand} {sz:Nat} (ho:o.op=.slice t x lo hi none) (ht:C.P.underlying t=some (.slice e)) (hs:zA C.P e=some sz) :
  aP C o (.slc sz (C.bk x) (lo.map C.bk) (hi.map C.bk)):=by
 intro g h N w id ev val r aN R hid hv he
 have hx:=hv x (by simp [ho,Op.operands])
 have key:∀ (af:List (List IV)),RI g.Z w (.slice af) (val x)→∀ (a b:Int),
   (match lo.map C.bk with | none=>some (0:Int) | some y=>match ev y with | .ak (.int _ n)=>some n | _=>none)=some a →
   (match hi.map C.bk with | none=>some (af.length:Int) | some y=>match ev y with | .ak (.int _ n)=>some n | _=>none)=some b →
   0≤a→a≤b→b≤(af.length:Int)→(af.all fun row=>row.length == sz)=true→r=.ak (.slice ((af.take b.toNat).drop a.toNat))→aN=[] →
   ∃ v w',pz C.P (execOp val o) w v w'∧Good C g h N w id r aN v w':=fun af gl a b ha hb h1 h2 h3 h4 hr hu=>by
  subst hr;subst hu
  obtain ⟨a,rfl⟩:=uP h1
  obtain ⟨b,rfl⟩:=uP (by omega:0≤b)
  simp only [Int.toNat_natCast]
  have hlo:∀ (y:Nat) (cd:BoundsCode),a≤y→∀ (Q:Option Value),Q=lo.map val→(match Q with | some v=>Instr.sliceBound v y cd | none=>pure 0:Sem Nat).run C.P w=.ok a w:=fun y cd hy Q hQ=>by
   cases hl:lo with
   | none=>
    rw [hl] at ha hQ
    simp only [uS,Option.some.injEq] at ha
    subst hQ
    have:a=0:=by omega
    subst this
    rfl
   | some z=>
    rw [hl] at ha hQ
    subst hQ
    simp only [uH] at ha ⊢
    have hz:=hv z (by simp [ho,hl,Op.operands])
    split at ha
    ·rename_i n e1
     cases ha
     rw [e1] at hz
     have:=wL hz
     simp [Instr.sliceBound,this,asIntOf,show (a:Int)≤(y:Int) by omega]
    ·cases ha
  have hhi:∀ (y:Nat) (cd:BoundsCode),b≤y→∀ (Q:Option Value),Q=hi.map val→(match Q with | some v=>Instr.sliceBound v y cd | none=>pure af.length:Sem Nat).run C.P w=.ok b w:=fun y cd hy Q hQ=>by
   cases hl:hi with
   | none=>
    rw [hl] at hb hQ
    simp only [uS,Option.some.injEq] at hb
    subst hQ
    have:b=af.length:=by omega
    subst this
    rfl
   | some z=>
    rw [hl] at hb hQ
    subst hQ
    simp only [uH] at hb ⊢
    have hz:=hv z (by simp [ho,hl,Op.operands])
    split at hb
    ·rename_i n e1
     cases hb
     rw [e1] at hz
     have:=wL hz
     simp [Instr.sliceBound,this,asIntOf,show (b:Int)≤(y:Int) by omega]
    ·cases hb
  have bounds:∀ cap,af.length≤cap→(Instr.sliceBounds true af.length cap (lo.map val) (hi.map val) none).run C.P w=.ok (a,b,cap) w:=fun cap hcap=>by
   have h5:=hhi cap .sliceAcap (by omega) _ rfl
   have h6:=hlo b .sliceB (by omega) _ rfl
   unfold Instr.sliceBounds
   cases hh:hi<;>cases hl:lo<;>simp only [hh,hl,uS,uH,Sem.run_pure,Result.ok.injEq,and_true] at h5 h6<;>simp [h5,h6]
  rcases Jg gl with ⟨rfl,hval⟩ | ⟨bb,off,cap,sz',cv,hval,hcap,hsz,rT,hc,hr⟩
  ·have hb0:b=0:=by simp at h3;omega
   have ha0:a=0:=by omega
   subst hb0;subst ha0
   rcases hval with hval | ⟨aa,cap,hval⟩
   ·refine ⟨.slice none 0 0,w,.inl ?_,zx R (by simpa using RV.ak (C:=C) (g:=g) (h:=h) (N:=N) _ _ RI.nil)⟩
    have hbd:=bounds 0 (by simp)
    simp only [uu] at hbd
    simp [execOp,ho,Instr.sliceAt,Instr.slice,run_underlying ht,hval,hbd,zV hs]
   ·have hbd:=bounds cap (by simp)
    simp only [uu] at hbd
    refine ⟨.slice (some (if cap=0 then aa else aa.add 0)) 0 cap,w,.inl ?_,zx R (by simpa using RV.ak (C:=C) (g:=g) (h:=h) (N:=N) _ _ yo)⟩
    by_cases hca:cap=0
    ·subst hca
     simp [execOp,ho,Instr.sliceAt,Instr.slice,run_underlying ht,hval,hbd,zV hs]
    ·simp [execOp,ho,Instr.sliceAt,Instr.slice,run_underlying ht,hval,hbd,zV hs,hca]
  ·refine ⟨.slice (some (if cap=a then ⟨bb,off,none⟩ else ⟨bb,off+a*sz,none⟩)) (b - a) (cap - a),w,.inl ?_,zx R (.ak _ _ ?_)⟩
   ·have hbd:=bounds cap hcap
    by_cases hca:cap=a
    ·subst hca
     simp [execOp,ho,Instr.sliceAt,Instr.slice,run_underlying ht,hval,hbd,zV hs]
    ·simp [execOp,ho,Instr.sliceAt,Instr.slice,run_underlying ht,hval,hbd,zV hs,hca,qS]
   ·by_cases hca:cap=a
    ·rw [if_pos hca]
     have hba:b - a=0:=by omega
     have hl:((af.take b).drop a)=[]:=ui (by simp;omega)
     rw [hl,hba]
     exact yo
    ·rw [if_neg hca]
     by_cases gC:af=[]
     ·subst gC
      have hb0:b=0:=by simp at h3;omega
      subst hb0
      simp
      exact yo
     ·have hs0:sz'=sz:=by
       cases af with
       | nil=>exact absurd rfl gC
       | cons row rest=>
        have h7:=hsz 0 row rfl
        have h8:=ux.1 h4 row List.mem_cons_self
        simp at h8
        omega
      subst hs0
      exact NG hcap hsz rT hc hr (by omega) (by omega)
 simp only [ai] at he
 split at he
 ·rename_i af e1
  rw [e1] at hx
  split at he
  ·rename_i a b ha hb
   split at he
   ·rename_i bM
    simp only [Option.some.injEq,Prod.mk.injEq] at he
    cases hx with
    | ak _ _ gl=>exact key af gl a b ha hb bM.1 bM.2.1 bM.2.2.1 bM.2.2.2 he.1.symm he.2.symm
   ·cases he
  ·cases he
 ·rename_i j af e1
  rw [e1] at hx
  split at he
  ·rename_i a b ha hb
   split at he
   ·rename_i bM
    simp only [Option.some.injEq,Prod.mk.injEq] at he
    cases hx with
    | aS _ _ _ gl _ _=>exact key af gl a b ha hb bM.1 bM.2.1 bM.2.2.1 bM.2.2.2 he.1.symm he.2.symm
   ·cases he
  ·cases he
 ·cases he
end
end
section
section
variable {C:Ctx} {g g':Gh} {h h':Nat→Option aF} {N N':Nat→Prop} {w w':World} {id:Nat}
theorem NI {o:Oper} {x:Operand} (ho:o.op=.nilCheck x):aP C o (.oU (C.bk x)):=by
 intro g h N w id ev val r aN R hid hv he
 have hx:=hv x (by simp [ho,Op.operands])
 simp only [ai] at he
 split at he
 ·rename_i i r o e1
  rw [e1] at hx
  split at he
  ·rename_i sz af cO
   cases he
   have hx':=hx
   cases hx with
   | ptr _ _ _ _ hni hone hp=>
    obtain ⟨b,hb,hval⟩:=hp _ _ cO
    refine ⟨val x,w,.inl ?_,zx R hx'⟩
    simp [execOp,ho,hval]
  ·cases he
 ·rename_i cs e1
  rw [e1] at hx
  cases he
  have hx':=hx
  generalize hval:val x=v at hx hx'
  cases hx with
  | cF _ b off cv hz hc hr=>
   exact ⟨_,w,.inl (by simp [execOp,ho,hval]),zx R hx'⟩
 ·rename_i f a b e1
  rw [e1] at hx
  cases he
  have hx':=hx
  generalize hval:val x=v at hx hx'
  cases hx with
  | func _ _ _ vf vc hlf hlc hf hc=>
   exact ⟨_,w,.inl (by simp [execOp,ho,hval]),zx R hx'⟩
 ·cases he
theorem NJ {o:Oper} {t e:TypeId} {x ix:Operand} {sz n:Nat} (ho:o.op=.index t x ix) (ht:C.P.underlying t=some (.array n e)) (hn:zA C.P e=some sz) (hag:jG C.P e=some false) :
  aP C o (.ixa n sz (C.bk x) (C.bk ix)):=by
 intro g h N w id ev val r aN R hid hv he
 have hx:=hv x (by simp [ho,Op.operands])
 have hi:=hv ix (by simp [ho,Op.operands])
 simp only [ai] at he
 split at he
 ·rename_i k m cs e1 e2
  rw [e1] at hi
  rw [e2] at hx
  have iE:=wL hi
  split at he
  ·rename_i hle
   obtain ⟨rfl,gK,fG⟩:=hle
   rw [uh] at he
   obtain ⟨c,hc,he⟩:=he
   cases he
   generalize hval:val x=v at hx
   cases hx with
   | agg _ vs hl h1 hr=>
    have hlt:m.toNat < vs.length:=by rw [←hl];exact (ua.1 hc).1
    refine ⟨vs[m.toNat],w,.inl ?_,zx R (hr _ _ _ hc (by simp))⟩
    have hg:vs.toArray[m.toNat]?=some (vs[m.toNat]'hlt):=by simp
    have hp:(part e vs.toArray m.toNat).run C.P w=.ok vs[m.toNat] w:=by
     simp only [part,Sem.run_bind,x9 hag,Result.andThen_ok,ut,if_false,hg,Sem.run_pure]
    simp [execOp,ho,Instr.index,iE,asIntOf,run_underlying ht,hval,gK,fG,zV hn,hp]
  ·cases he
 ·cases he
theorem VM {o:Oper} {t:TypeId} {parts:Array (Nat×Operand)} {n sz:Nat} {e:TypeId} {z:List AV} (ho:o.op=.build t parts)
  (ht:C.P.underlying t=some (.array n e)) (hz:qJ C.P t=some z) (hsz:zA C.P e=some sz)
  (h1:∀ i v,C.P.info? t=some i→i.zero=some v→xc v=true):aP C o (.build z (parts.toList.map fun p=>(p.1*sz,sz,C.bk p.2))):=by
 intro g h N w id ev val r aN R hid hv he
 obtain ⟨i,zv,hi,iN,rfl⟩:=jS hz
 have hone:=h1 i zv hi iN
 simp only [ai] at he
 split at he
 ·rename_i qs Ao
  split at he
  ·rename_i out hout
   simp only [Option.some.injEq,Prod.mk.injEq] at he
   obtain ⟨rfl,rfl⟩:=he
   have n8:aL (fun p:Nat×Operand=>match (fun i=>some (i*sz,sz):Nat→Option (Nat×Nat)) p.1 with
     | some (o,n)=>some (o,n,C.bk p.2)
     | none=>none) parts.toList=some (parts.toList.map fun p=>(p.1*sz,sz,C.bk p.2)):=by
    generalize parts.toList=l
    induction l with
    | nil=>rfl
    | cons a l ih=>simp only [aL,ih,List.map_cons]
   obtain ⟨c',h2,h3⟩:=WP (C:=C) (g:=g) (h:=h) (N:=N) (w:=w) (fun i=>some (i*sz,sz)) ev val parts.toList _ qs _ out zv.cells n8 Ao
    (fun p hp=>hv p.2 (by simp only [ho,Op.operands];simp;exact ⟨p.1,by simpa using hp⟩)) (Z8 hone) hout
   refine ⟨.agg c',w,.inl ?_,zx R ?_⟩
   ·have h2':Instr.fill (fun i=>some (i*sz,sz)) zv.cells (List.map (fun p=>(p.fst,val p.snd)) parts.toList)=some c':=h2
    simp [execOp,ho,Instr.build,zeroValue,typeInfo,hi,iN,run_underlying ht,zV hsz,h2']
   ·have:=RV.agg (C:=C) (g:=g) (h:=h) (N:=N) (w:=w) out c'.toList (by simpa using h3.1) (fun v hv=>by
     obtain ⟨j,hj⟩:=uo hv
     have hlt:j < out.length:=by rw [h3.1];simpa using (ua.1 hj).1
     obtain ⟨u,hu,h4,_⟩:=h3.2 j out[j] (by simp)
     simp only [uU] at hj
     rw [hj] at hu;cases hu;exact h4) (fun j x v hj hj'=>by
     obtain ⟨u,hu,_,h5⟩:=h3.2 j x hj
     simp only [uU] at hj'
     rw [hj'] at hu;cases hu;exact h5)
    simpa using this
  ·cases he
 ·cases he
theorem aP.like {o o':Oper} {ao:cP} (hs:aP C o' ao) (h1:o.op.operands=o'.op.operands) (h2:∀ val,execOp val o=execOp val o'):aP C o ao:=by
 intro g h N w id ev val r aN R hid hv he
 obtain ⟨v,w',h3,h4⟩:=hs g h N w id ev val r aN R hid (fun x hx=>hv x (by rw [h1];exact hx)) he
 exact ⟨v,w',by rw [h2];exact h3,h4⟩
theorem K6 {o:Oper} {str:Bool} {t kt et:TypeId} {m k v:Operand} {d:TypeDesc} (ho:o.op=.insert t m k v)
  (ht:C.P.underlying t=some (.map kt et)) (oX:C.P.underlying kt=some d) (hd:Zk str d) :
  aP C o (.upd str (C.bk m) (C.bk k) (C.bk v)):=
 aP.like (o':={o with op:=.mapUpdate t m k v}) (Xa rfl ht oX hd) (by simp [ho,Op.operands]) (fun val=>by simp only [execOp,ho])
theorem NK {o:Oper} {t e:TypeId} {ts:Array TypeId} {d x:Operand} {sz:Nat} (ho:o.op=.call {callee:=.builtin .copy,args := #[d,x],argTypes:=ts}) (h0:ts[0]?=some t)
  (ht:C.P.underlying t=some (.slice e)) (hn:zA C.P e=some sz):aP C o (.copy sz (C.bk d) (C.bk x)):=by
 intro g h N w id ev val r aN R hid hv he
 have hd:=hv d (by simp [ho,Op.operands,Call.operands])
 have hx:=hv x (by simp [ho,Op.operands,Call.operands])
 simp only [ai,BO] at he
 split at he
 ·rename_i i len e1
  rw [e1] at hd
  split at he
  ·rename_i sz' af cO
   split at he
   ·rename_i new hnew
    split at he
    ·rename_i bM
     obtain ⟨hs1,gJ,gI,hall⟩:=bM
     subst hs1
     simp only [Option.some.injEq,Prod.mk.injEq] at he
     obtain ⟨rfl,rfl⟩:=he
     have hsz:∀ row∈new,row.length=sz':=fun row hr=>by simpa using ux.1 hall row hr
     obtain ⟨a,cap,hval,news,hn1,hn2,rY,Ar⟩:=VK R hnew hx hsz
     generalize Ay:val d=vd at hd
     cases hd with
     | Zai _ _ _ _ hni hone hp=>
      obtain ⟨_,h2⟩:=hp _ _ cO
      have hf:=Ar C.P w rfl
      rw [hval] at hf
      rcases h2 with ⟨_,gC,fY⟩ | ⟨b,cap',c,e',hb,fY,hle,hw,hcap⟩
      ·subst gC fY
       have Az:len=0:=by simpa using gJ
       subst Az
       have AA:new=[]:=ui gI
       subst AA
       refine ⟨.int .i64 0,w,.inl ?_,?_⟩
       ·simp [execOp,ho,resolve,invoke,builtin,Builtin.copy_,Ay,hval,h0,run_underlying ht,Builtin.lenOf,zV hn,goInt] at hf ⊢
        simp [hf]
       ·have hne:g.ρ i=none∨∃ b,g.ρ i=some b:=by cases g.ρ i<;>simp
        have e0:bB [(i,aF.af sz' [])] h=h:=by
         funext k;simp only [bB];split
         ·rename_i e;subst e;exact cO.symm
         ·rfl
        refine ⟨g,?_,?_,.ak _ _ (.int _ _)⟩
        ·rw [e0];exact b8.add g h N w id
        ·rw [e0];exact R.add id
      ·subst fY
       obtain ⟨w',hs1,hs2⟩:=J6 (id:=id) R hb cO (by omega) hsz news hn1 hn2 rY (.ak (.int .i64 (len:Int))) (.int .i64 (len:Int)) (fun _ _ _ _=>.ak _ _ (.int _ _))
       refine ⟨_,w',.inl ?_,hs2⟩
       rw [gI] at hf hval
       simp [execOp,ho,resolve,invoke,builtin,Builtin.copy_,Ay,hval,h0,run_underlying ht,Builtin.lenOf,zV hn,goInt,hf,hs1]
    ·cases he
   ·cases he
  ·cases he
 ·cases he
end
end
section
section
variable {C:Ctx} {g g':Gh} {h h':Nat→Option aF} {N N':Nat→Prop} {w w':World} {id:Nat}
theorem NL (R:RH C g h N w) {x:AV} {v:Value} {b:Bool} (he:vN h x=some b) (hv:RV C g h N w x v):∃ o:Option Nat,v=.map o∧o.isNone=b:=by
 unfold vN at he
 split at he
 ·rename_i i
  split at he
  ·rename_i es cO
   cases he
   cases hv with
   | map _ _ hni hone hp=>
    obtain ⟨b,hb,hval⟩:=hp _ cO
    exact ⟨some b,hval,rfl⟩
  ·cases he
 ·cases he
  cases hv with
  | ak _ _ hr=>cases hr with | eH _ b=>exact ⟨some b,rfl,rfl⟩
 ·cases he
  cases hv with
  | ak _ _ hr=>cases hr with | cQ=>exact ⟨none,rfl,rfl⟩
 ·cases he
theorem WO {P:Program} {t k e:TypeId} (ht:P.underlying t=some (.map k e)) (w:World) (o:Option Nat) :
  (Op.equal t (.map o) (.map none)).run P w=.ok o.isNone w:=by
 have h:∀ d:Nat,(Op.equalIn (d+1) t (.map o) (.map none)).run P w=.ok o.isNone w:=fun d=>by
  cases o<;>simp [Op.equalIn,run_underlying ht]
 exact h 9999
theorem NM {P:Program} {t k e:TypeId} (ht:P.underlying t=some (.map k e)) (neg:Bool) (x y:Operand) (w:World) (o:Option Nat) :
  ((do eqGuard (if neg then .neq else .eql) t x y (.map o) (.map none);binOp (if neg then .neq else .eql) t (.map o) (.map none):Sem Value)).run P w=.ok (.bool (if neg then !o.isNone else o.isNone)) w:=by
 cases neg<;>simp [eqGuard,binOp,WO ht]
theorem VN {o:Oper} {t t' kt et:TypeId} {op:BinOp} {neg:Bool} {x y:Operand} (ho:o.op=.binOp op t x y t') (ht:C.P.underlying t=some (.map kt et))
  (hop:op=if neg then .neq else .eql):aP C o (.eqnm neg (C.bk x) (C.bk y)):=by
 intro g h N w id ev val r aN R hid hv he
 have hx:=hv x (by simp [ho,Op.operands])
 have hy:=hv y (by simp [ho,Op.operands])
 subst hop
 simp only [ai] at he
 split at he
 ·rename_i b ey en
  rw [ey] at hy
  have hcv:val y=.map none:=by
   generalize val y=vy at hy
   cases hy with
   | ak _ _ hr=>cases hr with | cQ=>rfl
  obtain ⟨om,hval,NN⟩:=NL R en hx
  simp only [Option.some.injEq,Prod.mk.injEq] at he
  obtain ⟨rfl,rfl⟩:=he
  have exec:∀ v,((do eqGuard (if neg then .neq else .eql) t x y (val x) (.map none);binOp (if neg then .neq else .eql) t (val x) (.map none):Sem Value)).run C.P w=.ok v w→(execOp val o).run C.P w=.ok (.value v) w:=fun v hr=>by
   simp only [Sem.run_bind] at hr
   simp only [execOp,ho,hcv,Sem.run_bind]
   generalize (eqGuard (if neg then BinOp.neq else .eql) t x y (val x) (.map none)).run C.P w=r1 at hr ⊢
   cases r1 with
   | ok u w1=>
    simp only [Result.andThen_ok] at hr ⊢
    rw [hr];rfl
   | halt x w1=>simp [Result.andThen] at hr
  refine ⟨.bool (if neg then !b else b),w,.inl (exec _ ?_),zx R (.ak _ _ (.bool _))⟩
  rw [hval,NM ht neg x y w om,NN]
 ·cases he
theorem NO {x:AV} {v:Value} {cs:List AV} (hx:Jd x=some cs) (hv:RV C g h N w x v):∃ vs:List Value,v=.agg vs.toArray∧cs.length=vs.length∧(∀ u∈vs,u.oneCell'=true) ∧
  ∀ (i:Nat) (c:AV) (u:Value),cs[i]?=some c→vs[i]?=some u→RV C g h N w c u:=by
 unfold Jd at hx
 split at hx
 ·cases hx
  cases hv with
  | ak _ _ hr=>
   cases hr with
   | agg _ vs hl h1 hr=>
    refine ⟨vs,rfl,by simpa using hl,h1,fun i c u hc hu => ?_⟩
    rw [um,uh] at hc
    obtain ⟨y,hy,rfl⟩:=hc
    exact .ak _ _ (hr i y u hy hu)
 ·cases hx
  cases hv with
  | agg _ vs hl h1 hr=>exact ⟨vs,rfl,hl,h1,hr⟩
 ·cases hx
theorem NP {o:Oper} {s:TypeId} {x:Operand} {f n:Nat} {ag:Bool} {fs:Array Field} {fd:Field} (ho:o.op=.field s x f) (hs:C.P.underlying s=some (.struct fs)) (hf:fs[f]?=some fd)
  (hn:zA C.P fd.type=some n) (hag:jG C.P fd.type=some ag) (hn0:n≠0):aP C o (.cut ag fd.offset n (C.bk x)):=by
 intro g h N w id ev val r aN R hid hv he
 have hx:=hv x (by simp [ho,Op.operands])
 simp only [ai] at he
 split at he
 ·rename_i cs e1
  obtain ⟨vs,hval,hl,h1,hr⟩:=NO e1 hx
  split at he
  ·rename_i hle
   cases ag with
   | true=>
    simp only [if_true,Option.some.injEq,Prod.mk.injEq] at he
    obtain ⟨rfl,rfl⟩:=he
    refine ⟨.agg ((vs.drop fd.offset).take n).toArray,w,.inl ?_,zx R ?_⟩
    ·have e2:vs.toArray.extract fd.offset (fd.offset+n)=((vs.drop fd.offset).take n).toArray:=by
      simp [List.extract_toArray,uL]
     simp [execOp,ho,Instr.field,run_underlying hs,hf,hval,part,asAgg,x9 hag,zV hn,e2]
    ·refine .agg _ _ (by simp [hl]) (fun u hu=>h1 u (List.mem_of_mem_drop (List.mem_of_mem_take hu))) fun i c u hc hu => ?_
     rw [uK] at hc hu
     split at hc
     ·rename_i hi
      rw [if_pos hi] at hu
      rw [uq] at hc hu
      exact hr _ c u hc hu
     ·cases hc
   | false=>
    simp only [ut,if_false,uh] at he
    obtain ⟨c,hc,he⟩:=he
    simp only [Prod.mk.injEq] at he
    obtain ⟨rfl,rfl⟩:=he
    have hlt:fd.offset < vs.length:=by omega
    refine ⟨vs[fd.offset],w,.inl ?_,zx R (hr _ c _ hc (by simp))⟩
    simp [execOp,ho,Instr.field,run_underlying hs,hf,hval,part,asAgg,x9 hag,hlt]
  ·cases he
 ·cases he
end
end
section
section
variable {C:Ctx}
theorem VO (o:Oper) (f:bf) (args:List bf):aP C o (.call f args):=by
 intro g h N w id ev val r aN R hid hv he
 simp [ai] at he
theorem NQ {o:Oper} {op:BinOp} {t t':TypeId} {x y:Operand} {ao:cP} (ho:o.op=.binOp op t x y t') (hc:Wd C op t x y=some ao):aP C o ao:=by
 unfold Wd at hc
 split at hc
 ·cases hc;exact KS ho
 ·cases hc;exact KS ho
 ·rename_i hu
  split at hc
  ·cases hc;exact KU (neg:=false) ho hu rfl
  ·cases hc;exact KU (neg:=true) ho hu rfl
  ·cases hc
 ·rename_i e hu
  split at hc
  ·cases hc;exact WR (neg:=false) ho hu rfl
  ·cases hc;exact WR (neg:=true) ho hu rfl
  ·cases hc
 ·rename_i kt et hu
  split at hc
  ·cases hc;exact VN (neg:=false) ho hu rfl
  ·cases hc;exact VN (neg:=true) ho hu rfl
  ·cases hc
 ·rename_i fs hu
  split at hc
  ·rename_i ks hks
   split at hc
   ·cases hc
   ·rename_i hg
    have hg':C.P.eqGuardType C.P.depth t=false:=by simpa using hg
    split at hc
    ·cases hc;exact KZ (neg:=false) ho hu hks hg' rfl
    ·cases hc;exact KZ (neg:=true) ho hu hks hg' rfl
    ·cases hc
  ·cases hc
 ·cases hc
theorem W9 {o:Oper} {b:Builtin} {args:Array Operand} {ts:Array TypeId} {ao:cP} (ho:o.op=.call {callee:=.builtin b,args,argTypes:=ts}) (hc:yR C b args.toList ts.toList=some ao):aP C o ao:=by
 obtain ⟨args⟩:=args
 obtain ⟨ts⟩:=ts
 simp only at hc
 unfold yR at hc
 split at hc
 ·split at hc
  ·rename_i hu;cases hc;exact M0 ho hu
  ·rename_i hu;cases hc;exact M2 ho hu
  ·rename_i hu;cases hc;exact M3 ho hu
  ·cases hc
 ·cases hc;exact FA (mx:=true) ho
 ·cases hc;exact FA (mx:=false) ho
 ·split at hc
  ·rename_i e e2 hu oW
   split at hc
   ·rename_i sz bL z h1 h2 h3
    split at hc
    ·rename_i bM
     cases hc
     exact NF ho hu oW (fun k=>by simp) h1 h2 h3 bM.1 bM.2.1 bM.2.2
    ·cases hc
   ·cases hc
  ·cases hc
 ·rename_i d x t r
  split at hc
  ·rename_i e hu
   split at hc
   ·rename_i sz h1;cases hc;exact NK ho (by simp) hu h1
   ·cases hc
  ·cases hc
 ·cases hc
theorem FR {o:Oper} {ao:cP} (hc:kl C o.op=some ao):aP C o ao:=by
 unfold kl at hc
 split at hc
 ·rename_i x ho;cases hc;exact KQ (.inl ho)
 ·rename_i x ho;cases hc;exact KQ (.inr ho)
 ·rename_i c a b ho;cases hc;exact MN ho
 ·rename_i t ho
  split at hc
  ·rename_i n e hu
   split at hc
   ·rename_i sz z h1 h2
    split at hc
    ·rename_i bM;cases hc;exact kU (e:=e) ho h2 bM.1 (xQ h2)
    ·cases hc
   ·cases hc
  ·split at hc
   ·rename_i z h2;cases hc;exact MO ho h2 (xQ h2)
   ·cases hc
  ·cases hc
 ·rename_i t x ho
  split at hc
  ·cases hc;exact MP ho
  ·cases hc
 ·rename_i t parts ho
  split at hc
  ·rename_i fs z hu hz
   split at hc
   ·rename_i ps hps
    split at hc
    ·rename_i hs;cases hc;exact M9 ho hu hz (xQ hz) hs hps
    ·cases hc
   ·cases hc
  ·rename_i n e z hu hz
   split at hc
   ·rename_i sz hs;cases hc;exact VM ho hu hz hs (xQ hz)
   ·cases hc
  ·cases hc
 ·rename_i t len parts ho
  split at hc
  ·rename_i e hu
   split at hc
   ·rename_i sz z h1 h2
    split at hc
    ·rename_i bM;cases hc;exact Nd ho hu h1 h2 bM.1 bM.2.1 bM.2.2 (xQ h2)
    ·cases hc
   ·cases hc
  ·cases hc
 ·rename_i t a ho
  split at hc
  ·rename_i ag n h1 h2;cases hc;exact MQ ho h1 h2
  ·cases hc
 ·rename_i t a v ho
  split at hc
  ·rename_i n h1;cases hc;exact MR ho h1
  ·cases hc
 ·rename_i s x f ho
  split at hc
  ·rename_i fs hu
   split at hc
   ·rename_i fd hf
    split at hc
    ·rename_i n hn
     split at hc
     ·cases hc
     ·rename_i hn0;cases hc;exact MT ho hu hf hn hn0
    ·cases hc
   ·cases hc
  ·cases hc
 ·rename_i s x f ho
  split at hc
  ·rename_i fs hu
   split at hc
   ·rename_i fd hf
    split at hc
    ·rename_i n ag hn hag
     split at hc
     ·cases hc
     ·rename_i hn0;cases hc;exact NP ho hu hf hn hag hn0
    ·cases hc
   ·cases hc
  ·cases hc
 ·rename_i t x i ho
  split at hc
  ·rename_i e hu
   split at hc
   ·rename_i sz h1;cases hc;exact MU ho hu h1
   ·cases hc
  ·rename_i n e hu
   split at hc
   ·rename_i sz h1;cases hc;exact MV ho hu h1
   ·cases hc
  ·cases hc
 ·rename_i op t x y t' ho;exact NQ ho hc
 ·rename_i t x ho;cases hc;exact MX ho
 ·rename_i t x ho;cases hc;exact MY ho
 ·rename_i s d x ho
  split at hc
  ·rename_i k0 k h1 h2;cases hc;exact MZ ho h1 h2
  ·cases hc
 ·rename_i x i ho;cases hc;exact M4 ho
 ·rename_i f first bq ho
  split at hc
  ·rename_i i hi;cases hc;exact M5 ho hi
  ·cases hc
 ·rename_i t ho;cases hc;exact M6 ho
 ·rename_i t m k ok ho
  split at hc
  ·rename_i kt et hu
   split at hc
   ·rename_i kk i hk hi
    split at hc
    ·rename_i z hz;cases hc;exact VJ (str:=false) ho hu hk ⟨kk,rfl⟩ hi hz
    ·cases hc
   ·rename_i i hk hi
    split at hc
    ·rename_i z hz;cases hc;exact VJ (str:=true) ho hu hk rfl hi hz
    ·cases hc
   ·cases hc
  ·cases hc
 ·rename_i t m k v ho
  split at hc
  ·rename_i kt et hu
   split at hc
   ·rename_i kk hk;cases hc;exact Xa (str:=false) ho hu hk ⟨kk,rfl⟩
   ·rename_i hk;cases hc;exact Xa (str:=true) ho hu hk rfl
   ·cases hc
  ·cases hc
 ·rename_i t m k v ho
  split at hc
  ·rename_i kt et hu
   split at hc
   ·rename_i kk hk;cases hc;exact K6 (str:=false) ho hu hk ⟨kk,rfl⟩
   ·rename_i hk;cases hc;exact K6 (str:=true) ho hu hk rfl
   ·cases hc
  ·cases hc
 ·rename_i x ho;cases hc;exact NI ho
 ·rename_i t x i ho
  split at hc
  ·rename_i n e hu
   split at hc
   ·rename_i sz h1 h2;cases hc;exact NJ ho hu h1 h2
   ·cases hc
  ·cases hc
 ·rename_i t l c ho
  split at hc
  ·rename_i e hu
   split at hc
   ·rename_i sz bL z h1 h2 h3
    split at hc
    ·rename_i bM
     obtain ⟨rfl,h4,h5⟩:=bM
     cases hc
     exact Nh ho hu h1 h2 h3 h4 h5 (xQ h3)
    ·cases hc
   ·cases hc
  ·cases hc
 ·rename_i t x lo hi ho
  split at hc
  ·rename_i e hu
   split at hc
   ·rename_i sz h1;cases hc;exact NH ho hu h1
   ·cases hc
  ·cases hc
 ·rename_i b args ts ho;exact W9 ho hc
 ·cases hc;exact VO _ _ _
 ·cases hc;exact VO _ _ _
 ·rename_i t x ho
  split at hc
  ·rename_i fs hu;cases hc;exact Nz ho hu
  ·cases hc
 ·cases hc
end
end
structure aM where
 dst:Option Nat
 op:cP
 guard:Option (Nat×Bool)
 deriving Inhabited
inductive cB where
 | skip
 | region (draw:Bool) (ord:List Nat) (items:List aM) (keep:Option (List Nat))
 | seq (x y:cB)
 | cond (c:bf) (x y:cB)
 | block (id:Nat) (x:cB)
 | loop (x:cB)
 | scope (x:cB)
 | exit (id:Nat)
 | ret
 | range (f:bf) (ps:List Nat) (assign body:cB)
 deriving Inhabited
def cB.erase:cB→cB
 | .region d ord items _=>.region d ord items none
 | .seq x y=>.seq x.erase y.erase
 | .cond c x y=>.cond c x.erase y.erase
 | .block id x=>.block id x.erase
 | .loop x=>.loop x.erase
 | .scope x=>.scope x.erase
 | .range f ps x y=>.range f ps x.erase y.erase
 | c=>c
def FT (nt:Nat):Option Nat→Bool
 | some d=>decide (d < nt)
 | none=>true
def xx (C:Ctx) (nt:Nat) (ops:Array Oper) (o:Oper):Option aM:=
 match kl C o.op with
 | some ao=>
  if FT nt o.dst then
   match o.guard with
   | none=>some ⟨o.dst,ao,none⟩
   | some (j,want)=>match (ops[j]?).bind (·.dst) with
    | some t=>if t < nt then some ⟨o.dst,ao,some (t,want)⟩ else none
    | none=>none
  else none
 | none=>none
def ef (ord:List Nat) (i j:Nat):Bool:=(ord.getD j 0).testBit i
def vR (ops:Array Oper) (ord:List Nat):Bool:=
 ((uB ops.size).all fun i=>match ops[i]? with
  | some oi=>oi.after.all fun e=>!Region.binds .any e||decide (e.on < i)
  | none=>true) &&
 (uB ops.size).all fun i=>match ops[i]? with
  | some oi=>match oi.dst with
   | some d=>(uB ops.size).all fun j=>i == j||match ops[j]? with
    | some oj=>oj.dst != some d&&(!((oj.looksAt ops).contains d)||(if i < j then ef ord i j else ef ord j i))
    | none=>true
   | none=>true
  | none=>true
def comp (C:Ctx) (nt:Nat):Code→Option cB
 | .skip=>some .skip
 | .region _ ops draw=>match aL (xx C nt ops) ops.toList with
  | some items=>if draw then (if C.P.follows .mixedOrders&&vR ops (Region.before ops).toList then some (.region true (Region.before ops).toList items none) else none) else some (.region false [] items none)
  | none=>none
 | .seq a b=>match comp C nt a,comp C nt b with
  | some x,some y=>some (.seq x y)
  | _,_=>none
 | .cond c a b=>match comp C nt a,comp C nt b with
  | some x,some y=>some (.cond (C.bk c) x y)
  | _,_=>none
 | .block id a=>match comp C nt a with
  | some x=>some (.block id x)
  | none=>none
 | .loop a=>match comp C nt a with
  | some x=>some (.loop x)
  | none=>none
 | .scope a=>match comp C nt a with
  | some x=>some (.scope x)
  | none=>none
 | .label _=>some .skip
 | .exit id=>some (.exit id)
 | .ret=>some .ret
 | .rangeFunc f ps a b=>if ps.toList.all (fun t=>decide (t < nt)) then match comp C nt a,comp C nt b with
  | some x,some y=>some (.range (C.bk f) ps.toList x y)
  | _,_=>none
  else none
 | _=>none
inductive dD where
 | tmp (t:Nat)
 | cell (t:Nat) (agg:Bool) (n:Nat)
 deriving Inhabited
structure dz where
 nt:Nat
 results:List dD
 body:cB
 deriving Inhabited
def yp (C:Ctx):ResultVar→Option dD
 | .tmp t=>some (.tmp t)
 | .cell t ty=>match jG C.P ty,zA C.P ty with
  | some ag,some n=>some (.cell t ag n)
  | _,_=>none
def dz.erase (F:dz):dz:={F with body:=F.body.erase}
def qr (C:Ctx) (f:Nat):Option dz:=match C.P.funcs[C.ew f]? with
 | some fn=>match fn.body with
  | some code=>match comp C fn.ntmps code,aL (yp C) fn.results.toList with
   | some ac, some rs => if fn.name == "runtime.NumGoroutine" then none else some ⟨fn.ntmps, rs, ac⟩
   | _,_=>none
  | none=>none
 | none=>none
end Go.Proofs.YtlpmnmbebkdocaaGreatDoor
