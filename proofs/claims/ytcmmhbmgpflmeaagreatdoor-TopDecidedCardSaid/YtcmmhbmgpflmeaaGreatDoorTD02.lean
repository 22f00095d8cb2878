/-
  The abstract machine: maps with keys of one scalar kind; equality of structs of scalars.
  The abstract machine: append.
  The abstract machine: append, onto slices that a name owns.
  The abstract machine: append is sound.
  The abstract machine: equality of structs of scalars.
  The abstract machine: append onto a slice that its owner also writes into.
  The abstract machine: slices against nil; slice expressions.
  The abstract machine: tests for nil, copy, elements of arrays, arrays that are built, entries of map literals.
  The abstract machine: maps compared with nil; fields of a struct that is a value.
  The abstract machine: every operation that it reads is sound.
  The abstract machine: code, how it is read off the model's code, and what it asks of a state.
-/
import Derived.Test.YtcmmhbmgpflmeaaGreatDoorTD01
import Derived.Laws.Append
open List renaming getElem?_eq_some_iff → ua, getElem?_eq_getElem → ub, mem_of_getElem? → ue, eq_nil_of_length_eq_zero → uh, getElem?_append → uj, getElem?_map → ul, getElem?_of_mem → un, getElem?_drop → uo, length_eq_one_iff → uq, length_nil → ut, mem_append → uu, getElem?_append_right → uv, all_eq_true → uw, getElem?_append_left → uy, range → uA, size_toArray → uD, getElem_mem → uF, getD_cons_zero → uI, getElem?_take → uJ, extract_eq_take_drop → uK, getElem?_take_of_lt → uM, take_of_length_le → uQ, getElem?_toArray → uS, length_pos_iff → uV, length_append → uX, drop_take → u5, drop_drop → u6, drop_zero → u7, all_cons → u9, getD → Ua, mem_map → Ub
open Option renaming map_eq_some_iff → ug, map_some → uG, isSome_iff_exists → uL, map_none → uR
open Bool renaming false_eq_true → ur, and_eq_true → uE, not_eq_true' → u0, not_eq_false → u4
open Nat renaming le_refl → uc, mul_le_mul_right → ud, add_mul → uf, mul_comm → ui, div_lt_of_lt_mul → um, zero_add → ux, mul_sub_right_distrib → uz, pos_of_ne_zero → uB, div_add_mod → uH, le_add_right → uN, mod_lt → uP, eq_zero_or_pos → uW, lt_of_lt_of_le → uY, zero_mul → uZ, add_zero → Uc
open Int renaming eq_ofNat_of_zero_le → uO
open Array renaming getElem?_append_left → uk, size_append → uC, getElem?_toList → uT, getElem?_push → uU, ext' → Ud
namespace Go.Proofs.YtcmmhbmgpflmeaaGreatDoor
open Go.RowKit
set_option linter.unusedSimpArgs false
set_option linter.unusedVariables false
section
section
variable {C:Ctx} {g g':Gh} {h h':Nat→Option aI} {N N':Nat→Prop} {w w':World} {id:Nat}
theorem FF {k:IV} {v u:Value} (hk:IV.key k=some u) (hv:RV C g h N w (.ak k) v):v=u:=by
 cases hv with
 | ak _ _ hr=>cases hr<;>simp [IV.key] at hk<;>exact hk
theorem FG (a b:ByteArray):(a == b)=true↔a=b:=by
 rw [beq_toListBytes,ByteArray.toList_eq,ByteArray.toList_eq]
 obtain ⟨⟨x⟩⟩:=a
 obtain ⟨⟨y⟩⟩:=b
 simp
def kG:Bool→TypeDesc→Prop
 | false,d=>∃ k,d=.int k
 | true,d=>d=.string
theorem V7 {str:Bool} {d:TypeDesc} (hd:kG str d) {k k':IV} {u u':Value} (hk:IV.key k=some u) (hk':IV.key k'=some u') {b:Bool} (he:qR k k'=some b)
  (hs:jD str k=true):Instr.sameNow d u u'=some b∧(b=true→u'=u):=by
 cases str with
 | false=>
  obtain ⟨kk,rfl⟩:=hd
  cases k<;>simp [jD] at hs
  cases k'<;>simp [qR] at he
  obtain ⟨rfl,rfl⟩:=he
  simp [IV.key] at hk hk'
  subst hk;subst hk'
  simp [Instr.sameNow]
  exact fun e=>e.symm
 | true=>
  cases hd
  cases k<;>simp [jD] at hs
  cases k'<;>simp [qR] at he
  subst he
  simp [IV.key] at hk hk'
  subst hk;subst hk'
  simp [Instr.sameNow]
  exact fun e=>((FG _ _).1 e).symm
theorem Jo {str:Bool} {d:TypeDesc} (hd:kG str d) {k:IV} {u:Value} (hk:IV.key k=some u) (hs:jD str k=true) :
  ∀ (es:List (IV×AV)) (cG:List MapEntry) (i0:Nat),cG.length=es.length →
   (∀ (i:Nat) (k':IV) (x:AV),es[i]?=some (k',x)→∃ e,cG[i]?=some e∧IV.key k'=some e.key∧RV C g h N w x e.val)→xf k es=true →
   (zW k es=none∧Instr.findNow d u cG i0=some none) ∨
   (∃ x j v,zW k es=some x∧Instr.findNow d u cG i0=some (some (i0+j,v))∧RV C g h N w x v∧j < es.length ∧
    (∃ e,cG[j]?=some e∧e.key=u)∧∀ y,qj k y es=es.set j (k,y)):=by
 intro es
 induction es with
 | nil=>intro cG i0 hl _ _;simp at hl;subst hl;exact .inl ⟨rfl,rfl⟩
 | cons p es ih=>
  intro cG i0 hl hr hok
  obtain ⟨k',x⟩:=p
  cases cG with
  | nil=>simp at hl
  | cons e cG=>
   obtain ⟨e',he',hk',hx⟩:=hr 0 k' x rfl
   simp at he'
   subst he'
   simp only [xf,u9,uE] at hok
   obtain ⟨b,hb⟩:=uL.1 hok.1
   obtain ⟨su,hsame⟩:=V7 hd hk hk' hb hs
   replace hb:qR k k'=some b:=hb
   cases b with
   | true=>
    have hkey:e.key=u:=hsame rfl
    refine .inr ⟨x,0,e.val,by simp [zW,hb],by simp [Instr.findNow,su],hx,by simp,⟨e,rfl,hkey⟩,fun y=>by simp [qj,hb]⟩
   | false=>
    rcases ih cG (i0+1) (by simpa using hl) (fun i k' x hi=>by have:=hr (i+1) k' x (by simpa using hi);simpa using this) hok.2 with ⟨h1,h2⟩ | ⟨x',j,v,h1,h2,h3,h4,h5,h6⟩
    ·exact .inl ⟨by simp [zW,hb,h1],by simp [Instr.findNow,su,h2]⟩
    ·refine .inr ⟨x',j+1,v,by simp [zW,hb,h1],by simp [Instr.findNow,su,h2];omega,h3,by simp;omega,by simpa using h5,fun y=>by simp [qj,hb,h6 y]⟩
theorem KU {k:IV}:∀ {es:List (IV×AV)},zW k es=none→xf k es=true→∀ y,qj k y es=es++[(k,y)]:=by
 intro es
 induction es with
 | nil=>intro _ _ y;rfl
 | cons p es ih=>
  obtain ⟨k',x⟩:=p
  intro h1 h2 y
  simp only [xf,u9,uE] at h2
  obtain ⟨b,hb⟩:=uL.1 h2.1
  replace hb:qR k k'=some b:=hb
  cases b with
  | true=>simp [zW,hb] at h1
  | false=>simp [zW,hb] at h1;simp [qj,hb,ih h1 h2.2 y]
theorem Jp {P:Program} {str:Bool} {t:TypeId} {d:TypeDesc} (ht:P.underlying t=some d) (hd:kG str d) (w:World) (b:Bool) (v:Value) (n:Nat):(Instr.checkKey b (n+1) t v).run P w=.ok () w:=by
 cases str with
 | false=>obtain ⟨kk,rfl⟩:=hd;simp [Instr.checkKey,run_underlying ht]
 | true=>cases hd;simp [Instr.checkKey,run_underlying ht]
theorem YW {str:Bool} {k:IV} (hk:jD str k=true):∃ u,IV.key k=some u:=by
 cases str<;>cases k<;>simp [jD] at hk<;>simp [IV.key]
theorem YX {x:AV} {v:Value} (hv:RV C g h N w x v):RV C g h N w (jV x) v:=by
 cases x with
 | agg cs=>
  simp only [jV]
  split
  ·rename_i l hl
   obtain ⟨h1,h2⟩:=qm hl
   cases hv with
   | agg _ vs hl' h1' hr=>
    refine .ak _ _ (.agg l vs (by rw [h1];exact hl') h1' fun j c u hj hu => ?_)
    have hlt:j < cs.length:=by rw [←h1];exact (ua.1 hj).1
    obtain ⟨c',eW,eX⟩:=h2 j cs[j] (by simp)
    rw [hj] at eW
    cases eW
    have hc:=hr j cs[j] u (by simp) hu
    generalize cs[j]=y at hc eX
    cases hc with
    | ak z _ hr=>simp [qY] at eX;subst eX;exact hr
    | nil=>simp [qY] at eX;subst eX;exact .nil
    | cA a cap=>simp [qY] at eX;subst eX;exact .empty a cap
    | aX i af _ hr _ _=>simp [qY] at eX;subst eX;exact hr
    | _=>simp [qY] at eX
  ·exact hv
 | _=>exact hv
theorem FH (z:Value):RV C g h N w (vE z) z:=by
 cases z with
 | agg vs=>
  simp only [vE]
  split
  ·rename_i hall
   have:RV C g h N w (.agg (vs.toList.map xS)) (.agg vs.toList.toArray):=.agg _ _ (by simp) (fun v hv=>uw.1 hall v hv) fun i c u hc hu=>by
    rw [ul,hu] at hc
    cases hc
    exact wV u
   exact YX this
  ·exact .top _
 | _=>simp only [vE];exact wV _
theorem Me (R:RH C g h N w) {x:AV} {v:Value} {es:List (IV×AV)} (he:jf h x=some es) (hv:RV C g h N w x v) :
  (v=.map none∧es=[])∨∃ b cG clock,v=.map (some b)∧w.heap[b]?=some (.map cG clock)∧cG.size=es.length ∧
   ∀ (i:Nat) (k:IV) (y:AV),es[i]?=some (k,y)→∃ e,cG[i]?=some e∧IV.key k=some e.key∧RV C g h N w y e.val:=by
 unfold jf at he
 split at he
 ·rename_i i
  split at he
  ·rename_i es' cR
   cases he
   cases hv with
   | map _ _ hni hone hp=>
    obtain ⟨b,hb,hval⟩:=hp _ cR
    obtain ⟨gX,cG,clock,hw,hl,hr⟩:=R.obj i b _ hb cR
    exact .inr ⟨b,cG,clock,hval,hw,hl,hr⟩
  ·cases he
 ·rename_i es'
  cases he
  cases hv with
  | ak _ _ hr=>
   cases hr with
   | eZ _ b cG clock ev hz hb hl hk hr=>
    refine .inr ⟨b,cG,clock,rfl,hb,by simpa using hl,fun i k y hi => ?_⟩
    rw [ul,ug] at hi
    obtain ⟨⟨k0,y0⟩,h1,h2⟩:=hi
    cases h2
    obtain ⟨h3,h4⟩:=hk i _ y0 h1
    exact ⟨ev i,h3,h4,.ak _ _ (hr i _ y0 h1)⟩
 ·cases he
  cases hv with
  | ak _ _ hr=>
   cases hr with
   | dl=>exact .inl ⟨rfl,rfl⟩
 ·cases he
theorem WP {o:Oper} {str:Bool} {t kt et:TypeId} {m k:Operand} {ok:Bool} {d:TypeDesc} {ti:TypeInfo} {z:Value} (ho:o.op=.lookup t m k ok)
  (ht:C.P.underlying t=some (.map kt et)) (o4:C.P.underlying kt=some d) (hd:kG str d) (hi:C.P.info? et=some ti) (hz:ti.zero=some z) :
  aP C o (.look str (vE z) ok (C.bt m) (C.bt k)):=by
 intro g h N w id ev val r aQ R hid hv he
 have hm:=hv m (by simp [ho,Op.operands])
 have hk:=hv k (by simp [ho,Op.operands])
 simp only [ap] at he
 split at he
 ·rename_i es kv e1 e2
  rw [e2] at hk
  split at he
  ·rename_i bT
   simp only [uE] at bT
   obtain ⟨eW,eX⟩:=bT
   obtain ⟨u,hu⟩:=YW eW
   have hkv:=FF hu hk
   have hzero:RV C g h N w (if ok then .tuple [vE z,.ak (.bool false)] else vE z) (if ok then .tuple #[z,.bool false] else z):=by
    cases ok with
    | true=>exact .tuple [vE z,.ak (.bool false)] [z,.bool false] rfl (fun j c v hj hj'=>by
     rcases j with _ | _ | j
     ·simp at hj hj';subst hj;subst hj';exact FH z
     ·simp at hj hj';subst hj;subst hj';exact .ak _ _ (.bool _)
     ·simp at hj)
    | false=>exact FH z
   have iG:=fun bb=>Jp (P:=C.P) o4 hd w bb u 9999
   rcases Me R e1 hm with ⟨hval,rfl⟩ | ⟨b,cG,clock,hval,hw,hl,hr⟩
   ·simp only [zW,Option.some.injEq,Prod.mk.injEq] at he
    obtain ⟨rfl,rfl⟩:=he
    have h2:Instr.findNow d u [] 0=some none:=by simp [Instr.findNow]
    refine ⟨if ok then .tuple #[z,.bool false] else z,w,.inl ?_,zz R hzero⟩
    have hrun:(Instr.lookup t (.map none) u ok).run C.P w=.ok (if ok then .tuple #[z,.bool false] else z) w:=by
     simp only [Instr.lookup,Sem.run_bind,run_underlying ht,Result.andThen_ok,Sem.run_pure,iG,Instr.findKey,run_underlying o4,h2,zeroValue,typeInfo,run_program,hi,hz]
    simp only [execOp,ho,hval,hkv,Sem.run_bind,hrun,Result.andThen_ok,Sem.run_pure]
   have hfind:=Jo (C:=C) (g:=g) (h:=h) (N:=N) (w:=w) hd hu eW es cG.toList 0 (by simpa using hl) (fun i k' x hi=>by obtain ⟨e,h1,h2⟩:=hr i k' x hi;exact ⟨e,by simpa using h1,h2⟩) eX
   rcases hfind with ⟨h1,h2⟩ | ⟨x,j,v,h1,h2,h3,h4,h5,h6⟩
   ·rw [h1] at he
    simp only [Option.some.injEq,Prod.mk.injEq] at he
    obtain ⟨rfl,rfl⟩:=he
    refine ⟨if ok then .tuple #[z,.bool false] else z,w,.inl ?_,zz R hzero⟩
    have hrun:(Instr.lookup t (.map (some b)) u ok).run C.P w=.ok (if ok then .tuple #[z,.bool false] else z) w:=by
     simp only [Instr.lookup,Sem.run_bind,run_underlying ht,Result.andThen_ok,vG hw,Sem.run_pure,iG,Instr.findKey,run_underlying o4,h2,zeroValue,typeInfo,run_program,hi,hz]
    simp only [execOp,ho,hval,hkv,Sem.run_bind,hrun,Result.andThen_ok,Sem.run_pure]
   ·rw [h1] at he
    simp only [Option.some.injEq,Prod.mk.injEq] at he
    obtain ⟨rfl,rfl⟩:=he
    refine ⟨if ok then .tuple #[v,.bool true] else v,w,.inl ?_,zz R ?_⟩
    ·have hrun:(Instr.lookup t (.map (some b)) u ok).run C.P w=.ok (if ok then .tuple #[v,.bool true] else v) w:=by
      simp only [Instr.lookup,Sem.run_bind,run_underlying ht,Result.andThen_ok,vG hw,Sem.run_pure,iG,Instr.findKey,run_underlying o4,h2]
     simp only [execOp,ho,hval,hkv,Sem.run_bind,hrun,Result.andThen_ok,Sem.run_pure]
    ·cases ok with
     | true=>exact .tuple [x,.ak (.bool true)] [v,.bool true] rfl (fun j c v' hj hj'=>by
      rcases j with _ | _ | j
      ·simp at hj hj';subst hj;subst hj';exact h3
      ·simp at hj hj';subst hj;subst hj';exact .ak _ _ (.bool _)
      ·simp at hj)
     | false=>exact h3
  ·cases he
 ·cases he
theorem Mf {k:IV} {u:Value} (hk:IV.key k=some u) (n:Nat):Instr.sameBits n u u=true:=by
 cases k<;>simp [IV.key] at hk<;>subst hk<;>simp [Instr.sameBits,FG]
theorem Jq {o:Oper} {str:Bool} {t kt et:TypeId} {m k v:Operand} {d:TypeDesc} (ho:o.op=.mapUpdate t m k v)
  (ht:C.P.underlying t=some (.map kt et)) (o4:C.P.underlying kt=some d) (hd:kG str d) :
  aP C o (.upd str (C.bt m) (C.bt k) (C.bt v)):=by
 intro g h N w id ev val r aQ R hid hv he
 have hm:=hv m (by simp [ho,Op.operands])
 have hk:=hv k (by simp [ho,Op.operands])
 have hx:=YX (hv v (by simp [ho,Op.operands]))
 simp only [ap] at he
 split at he
 ·rename_i i kv e1 e2
  rw [e1] at hm
  rw [e2] at hk
  split at he
  ·rename_i es cR
   split at he
   ·rename_i bT
    simp only [uE] at bT
    obtain ⟨eW,eX⟩:=bT
    obtain ⟨u,hu⟩:=YW eW
    have hkv:=FF hu hk
    simp only [Option.some.injEq,Prod.mk.injEq] at he
    obtain ⟨rfl,rfl⟩:=he
    cases hm with
    | map _ _ hni hone hp=>
     obtain ⟨b,hb,hval⟩:=hp es cR
     obtain ⟨gX,cG,clock,hw,hl,hr⟩:=R.obj i b _ hb cR
     have iG:=fun bb=>Jp (P:=C.P) o4 hd w bb u 9999
     have close:∀ (nC:Array MapEntry) (clock':Nat),nC.size=(qj kv (jV (ev (C.bt v))) es).length →
       (∀ (i:Nat) (k':IV) (x:AV),(qj kv (jV (ev (C.bt v))) es)[i]?=some (k',x)→∃ e,nC[i]?=some e∧IV.key k'=some e.key∧RV C g h N w x e.val) →
       Good C g h N w id .undef [(i,.map (qj kv (jV (ev (C.bt v))) es))] undef (zE w b (.map nC clock')):=fun nC clock' hl' hr'=>by
      have E:b9 g h N w g (bK [(i,.map (qj kv (jV (ev (C.bt v))) es))] h) (qo N id) (zE w b (.map nC clock')):=
       Xv R hb gX (.map es) _ cR _ trivial fun c e hc=>by rw [hw] at hc;cases hc
      refine ⟨g,E,WM R hb _ _ (fun _ _=>by simp) E ?_,.undef⟩
      refine ⟨gX,nC,clock',by rw [zI w b _ (qd hw)];simp,hl',fun i k' x hi => ?_⟩
      obtain ⟨e,h1,h2,h3⟩:=hr' i k' x hi
      exact ⟨e,h1,h2,h3.mono E⟩
     have hfind:=Jo (C:=C) (g:=g) (h:=h) (N:=N) (w:=w) hd hu eW es cG.toList 0 (by simpa using hl) (fun i k' x hi=>by obtain ⟨e,h1,h2⟩:=hr i k' x hi;exact ⟨e,by simpa using h1,h2⟩) eX
     rcases hfind with ⟨h1,h2⟩ | ⟨x,j,y,h1,h2,h3,h4,⟨e0,h5,Mg⟩,h6⟩
     ·have fS:=KU h1 eX (jV (ev (C.bt v)))
      refine ⟨undef,zE w b (.map (cG.push {key:=u,val:=val v,born:=clock}) (clock+1)),.inr ⟨?_,rfl⟩,close _ _ (by rw [fS];simp [hl]) (fun i k' x hi => ?_)⟩
      ·have hrun:(Instr.mapUpdate t (.map (some b)) u (val v)).run C.P w=.ok () (zE w b (.map (cG.push {key:=u,val:=val v,born:=clock}) (clock+1))):=by
        simp only [Instr.mapUpdate,Sem.run_bind,run_underlying ht,Result.andThen_ok,vG hw,Sem.run_pure,iG,Instr.findKey,run_underlying o4,h2,WN hw]
       simp only [execOp,ho,hval,hkv,Sem.run_bind,hrun,Result.andThen_ok,Sem.run_pure]
      ·rw [fS,uj] at hi
       split at hi
       ·rename_i hlt
        obtain ⟨e,h7,h8⟩:=hr i k' x hi
        exact ⟨e,by rw [uU,if_neg (by omega)];exact h7,h8⟩
       ·rename_i hge
        have pH:i - es.length=0:=by
         have:=(ua.1 hi).1
         simp at this;omega
        rw [pH] at hi
        simp at hi
        obtain ⟨rfl,rfl⟩:=hi
        exact ⟨_,by rw [uU,if_pos (by omega)],hu,hx⟩
     ·have fS:=h6 (jV (ev (C.bt v)))
      simp only [ux] at h2
      have FI:cG[j]?=some e0:=by simpa using h5
      refine ⟨undef,zE w b (.map (cG.modify j fun e=>{e with key:=u,val:=val v}) clock),.inr ⟨?_,rfl⟩,close _ _ (by rw [fS];simp [hl]) (fun i k' x hi => ?_)⟩
      ·have hrun:(Instr.mapUpdate t (.map (some b)) u (val v)).run C.P w=.ok () (zE w b (.map (cG.modify j fun e=>{e with key:=u,val:=val v}) clock)):=by
        simp only [Instr.mapUpdate,Sem.run_bind,run_underlying ht,Result.andThen_ok,vG hw,Sem.run_pure,iG,Instr.findKey,run_underlying o4,h2,Instr.keyThatStays,FI,uG,Option.getD_some,Mg,Mf hu,if_true,WN hw]
       simp only [execOp,ho,hval,hkv,Sem.run_bind,hrun,Result.andThen_ok,Sem.run_pure]
      ·rw [fS,List.getElem?_set] at hi
       rw [Array.getElem?_modify]
       split at hi
       ·rename_i e3
        subst e3
        cases hi
        rw [if_pos rfl,FI]
        exact ⟨_,rfl,hu,hx⟩
       ·rename_i e3
        rw [if_neg e3]
        exact hr i k' x hi
   ·cases he
  ·cases he
 ·cases he
end
end
section
section
variable {C:Ctx} {g g':Gh} {h h':Nat→Option aI} {N N':Nat→Prop} {w w':World} {id:Nat}
theorem vZ {Z:Nat→Nat} {a:Addr} {cap:Nat}:RI Z w (.slice []) (.slice (some a) 0 cap):=.empty a cap
theorem V8 {x:AV} {v:Value} {y:IV} (hx:qY x=some y) (hv:RV C g h N w x v):RI g.Z w y v:=by
 cases hv with
 | ak z _ hr=>simp [qY] at hx;subst hx;exact hr
 | nil=>simp [qY] at hx;subst hx;exact .nil
 | cA a cap=>simp [qY] at hx;subst hx;exact vZ
 | aX i af _ hr _ _=>simp [qY] at hx;subst hx;exact hr
 | _=>simp [qY] at hx
theorem Jr (R:RH C g h N w) {x:AV} {v:Value} {new:List (List IV)} {sz:Nat} (hx:jU h x=some new) (hv:RV C g h N w x v) (hsz:∀ row∈new,row.length=sz) :
  ∃ a cap,v=.slice a new.length cap∧∃ news:List Value,news.length=new.length*sz∧(∀ u∈news,u.oneCell'=true) ∧
   (∀ (i:Nat) (row:List IV) (j:Nat) (c:IV),new[i]?=some row→row[j]?=some c→∃ u,news[i*sz+j]?=some u∧RI g.Z w c u) ∧
   ∀ (P:Program) (w1:World),w1.heap=w.heap→(Builtin.firstCells sz new.length v).run P w1=.ok news.toArray w1:=by
 have iY:∀ (af:List (List IV)),af=new→RI g.Z w (.slice af) v→∃ a cap,v=.slice a new.length cap∧∃ news:List Value,news.length=new.length*sz∧(∀ u∈news,u.oneCell'=true) ∧
   (∀ (i:Nat) (row:List IV) (j:Nat) (c:IV),new[i]?=some row→row[j]?=some c→∃ u,news[i*sz+j]?=some u∧RI g.Z w c u) ∧
   ∀ (P:Program) (w1:World),w1.heap=w.heap→(Builtin.firstCells sz new.length v).run P w1=.ok news.toArray w1:=fun af ng gT=>by
  subst ng
  rcases Qr gT with ⟨rfl,hval⟩ | ⟨b,off,cap,sz',cv,hval,hcap,C6,hz,hc,hr⟩
  ·rcases hval with hval | ⟨aa,cap,hval⟩
   ·exact ⟨none,0,hval,[],by simp,by simp,fun i row j c hi=>by simp at hi,fun P w1 _=>by rw [hval];simp [Builtin.firstCells]⟩
   ·exact ⟨some aa,cap,hval,[],by simp,by simp,fun i row j c hi=>by simp at hi,fun P w1 _=>by rw [hval];simp only [Builtin.firstCells,ut,uZ];exact (run_loadCells w1 _ _ (fun _=>undef) (fun k hk=>by simp at hk))⟩
  ·refine ⟨_,cap,hval,(uA (af.length*sz)).map (fun k=>cv (k / sz) (k % sz)),by simp,fun u hu => ?_,fun i row j c hi hj => ?_,fun P w1 hw1 => ?_⟩
   ·simp only [Ub,List.mem_range] at hu
    obtain ⟨k,hk,rfl⟩:=hu
    have hpos:0 < sz:=uB fun e=>by subst e;simp at hk
    have hi:k / sz < af.length:=um (by rw [ui];exact hk)
    have hrow:=hsz (af[k / sz]) (uF hi)
    have hj:k % sz < (af[k / sz]).length:=by rw [hrow];exact uP _ hpos
    exact (hc (k / sz) _ (k % sz) ((af[k / sz])[k % sz]) (ub hi) (ub hj)).2
   ·have hrow:=hsz row (ue hi)
    have hj':j < sz:=by rw [←hrow];exact (ua.1 hj).1
    have hi':i < af.length:=(ua.1 hi).1
    have hb:(i+1)*sz≤af.length*sz:=ud _ hi'
    rw [uf] at hb
    have hlt:i*sz+j < af.length*sz:=by omega
    have hdiv:(i*sz+j) / sz=i:=by rw [ui,Nat.mul_add_div (by omega),Nat.div_eq_of_lt hj'];simp
    have hmod:(i*sz+j) % sz=j:=by rw [ui,Nat.mul_add_mod,Nat.mod_eq_of_lt hj']
    refine ⟨cv i j,by simp [hlt,hdiv,hmod],hr i row j c hi hj⟩
   ·rw [hval]
    simp only [Builtin.firstCells]
    refine run_loadCells w1 _ _ _ fun k hk => ?_
    have hpos:0 < sz:=uB fun e=>by subst e;simp at hk
    have hi:k / sz < af.length:=um (by rw [ui];exact hk)
    have hrow:=hsz (af[k / sz]) (uF hi)
    have hj:k % sz < (af[k / sz]).length:=by rw [hrow];exact uP _ hpos
    have CY:sz'=sz:=(C6 (k / sz) _ (ub hi)).symm.trans hrow
    subst CY
    have:=(hc (k / sz') _ (k % sz') ((af[k / sz'])[k % sz']) (ub hi) (ub hj)).1
    rw [qW]
    rw [←this]
    have e2:off+k=off+k / sz'*sz'+k % sz':=by have:=uH k sz';rw [ui] at this;omega
    rw [e2]
    simp only [World.cell?,hw1]
 unfold jU at hx
 split at hx
 ·cases hx
  cases hv with
  | ak _ _ hr=>exact iY _ rfl hr
 ·cases hx
  cases hv with
  | aX _ _ _ hr _ _=>exact iY _ rfl hr
 ·cases hx
  have:=xP hv
  subst this
  exact iY [] rfl .nil
 ·cases hx
  cases hv with
  | cA a cap=>exact iY [] rfl vZ
 ·rename_i i off len
  split at hx
  ·rename_i mj af cR
   split at hx
   ·rename_i hle
    obtain ⟨hl,dI⟩:=qm hx
    have gl:((af.drop off).take len).length=len:=by simp;omega
    cases hv with
    | Zag _ _ _ _ hni hone hp=>
     obtain ⟨h1,h2⟩:=hp _ _ cR
     rcases h2 with ⟨hn,hr,hval⟩ | ⟨b,cap,c,e,hb,hval,fQ,hw,hcap⟩
     ·subst hr
      have h0:len=0:=by simp at h1;omega
      have hnew:new=[]:=uh (by rw [hl];simp)
      subst hnew
      exact ⟨none,0,hval,[],by simp,by simp,fun i row j c hi=>by simp at hi,fun P w1 _=>by rw [hval];simp [Builtin.firstCells]⟩
     ·obtain ⟨hz,c',e',iA,hlen,hcells⟩:=R.obj i b _ hb cR
      have lG:new.length=len:=by rw [hl,gl]
      have cellAt:∀ (i':Nat) (row:List IV) (j:Nat) (x:IV),new[i']?=some row→row[j]?=some x→∃ u,c'[(off+i')*sz+j]?=some u∧u.oneCell'=true∧RI g.Z w x u∧mj=sz:=fun i' row j x hi hj=>by
       have hi':i' < len:=by rw [←lG];exact (ua.1 hi).1
       have fZ:((af.drop off).take len)[i']?=some (af[off+i']'(by omega)):=by
        rw [uM hi',uo];simp
       obtain ⟨row',cq,cg⟩:=dI i' _ fZ
       rw [hi] at cq
       cases cq
       obtain ⟨rB,oe⟩:=qm cg
       have hj':j < (af[off+i']'(by omega)).length:=by rw [←rB];exact (ua.1 hj).1
       obtain ⟨x',hx1,hx2⟩:=oe j ((af[off+i']'(by omega))[j]) (by simp [hj'])
       rw [hj] at hx1
       cases hx1
       have hrow:af[off+i']?=some (af[off+i']'(by omega)):=by simp
       obtain ⟨cv,h3,h4,h5⟩:=hcells (off+i') _ j _ hrow (ub hj')
       have hs0:mj=sz:=by
        have a1:=hlen (off+i') _ hrow
        have a2:=hsz row (ue hi)
        omega
       subst hs0
       exact ⟨cv,h3,h4,V8 hx2 h5,rfl⟩
      have nD:∀ k,k < len*sz→∃ u,c'[off*sz+k]?=some u∧u.oneCell'=true∧mj=sz:=fun k hk=>by
       have hpos:0 < sz:=uB fun e=>by subst e;simp at hk
       have hi:k / sz < new.length:=by rw [lG];exact um (by rw [ui];exact hk)
       have hrow:=hsz (new[k / sz]) (uF hi)
       have hj:k % sz < (new[k / sz]).length:=by rw [hrow];exact uP _ hpos
       obtain ⟨u,h3,h4,h5,h6⟩:=cellAt (k / sz) _ (k % sz) ((new[k / sz])[k % sz]) (ub hi) (ub hj)
       refine ⟨u,?_,h4,h6⟩
       rw [←h3]
       congr 1
       have:=uH k sz
       rw [uf,ui (k / sz) sz]
       omega
      obtain ⟨news,hn1,hn2⟩:=yC (uA (len*sz)) (fun _ k u=>c'[off*sz+k]?=some u∧u.oneCell'=true) (fun j k hj=>by
       obtain ⟨nE,hj2⟩:=ua.1 hj
       simp at nE hj2
       subst hj2
       obtain ⟨u,a1,a2,_⟩:=nD j nE
       exact ⟨u,a1,a2⟩)
      have mD:news.length=len*sz:=by simpa using hn1
      have gY:∀ k u,news[k]?=some u→c'[off*sz+k]?=some u∧u.oneCell'=true:=fun k u hk=>by
       have hlt:k < len*sz:=by rw [←mD];exact (ua.1 hk).1
       exact hn2 k k u (by simp [hlt]) hk
      refine ⟨_,cap,by rw [lG];exact hval,news,by rw [lG];exact mD,fun u hu => ?_,fun i' row j x hi hj => ?_,fun P w1 hw1 => ?_⟩
      ·obtain ⟨k,hk⟩:=un hu
       exact (gY k u hk).2
      ·obtain ⟨u,h3,h4,h5,h6⟩:=cellAt i' row j x hi hj
       have hi':i' < len:=by rw [←lG];exact (ua.1 hi).1
       have hj':j < sz:=by rw [←hsz row (ue hi)];exact (ua.1 hj).1
       have gJ:(i'+1)*sz≤len*sz:=ud _ hi'
       rw [uf] at gJ
       have hlt:i'*sz+j < news.length:=by omega
       refine ⟨u,?_,h5⟩
       have:=(gY (i'*sz+j) news[i'*sz+j] (by simp [hlt])).1
       rw [ub hlt]
       rw [show off*sz+(i'*sz+j)=(off+i')*sz+j by rw [uf];omega,h3] at this
       exact this.symm
      ·rw [hval,lG]
       simp only [Builtin.firstCells]
       rw [←mD]
       have hs0:off*mj=off*sz∨len*sz=0:=by
        rcases uW (len*sz) with h0 | h0
        ·exact .inr h0
        ·obtain ⟨_,_,_,h6⟩:=nD 0 h0;exact .inl (by rw [h6])
       have:=run_loadCells_list (P:=P) w1 ⟨b,off*mj,none⟩ news (fun k u hk=>by
        rw [qW]
        have hlt:k < news.length:=(ua.1 hk).1
        have:w1.heap[b]?=some (.cells c' e' (0,0)):=by rw [hw1];exact iA
        rw [qS this]
        rcases hs0 with h7 | h7
        ·rw [h7];exact (gY k u hk).1
        ·omega)
       exact this
   ·cases hx
  ·cases hx
 ·cases hx
theorem WQ (R:RH C g h N w) {x:AV} {v:Value} {new:List (List AV)} {sz:Nat} (hx:xw h x=some new) (hv:RV C g h N w x v) (hsz:∀ row∈new,row.length=sz) :
  ∃ a cap,v=.slice a new.length cap∧∃ news:List Value,news.length=new.length*sz∧(∀ u∈news,u.oneCell'=true) ∧
   (∀ (i:Nat) (row:List AV) (j:Nat) (c:AV),new[i]?=some row→row[j]?=some c→∃ u,news[i*sz+j]?=some u∧RV C g h N w c u) ∧
   ∀ (P:Program) (w1:World),w1.heap=w.heap→(Builtin.firstCells sz new.length v).run P w1=.ok news.toArray w1:=by
 unfold xw at hx
 split at hx
 ·rename_i i off len
  split at hx
  ·rename_i mj af cR
   split at hx
   ·rename_i hle
    have gl:((af.drop off).take len).length=len:=by simp;omega
    cases hx
    cases hv with
    | Zag _ _ _ _ hni hone hp=>
     obtain ⟨h1,h2⟩:=hp _ _ cR
     rcases h2 with ⟨hn,hr,hval⟩ | ⟨b,cap,c,e,hb,hval,fQ,hw,hcap⟩
     ·subst hr
      have h0:len=0:=by simp at h1;omega
      subst h0
      simp only [List.take_zero]
      exact ⟨none,0,hval,[],by simp,by simp,fun i row j c hi=>by simp at hi,fun P w1 _=>by rw [hval];simp [Builtin.firstCells]⟩
     ·obtain ⟨hz,c',e',iA,hlen,hcells⟩:=R.obj i b _ hb cR
      have lG:((af.drop off).take len).length=len:=gl
      generalize hnd:(af.drop off).take len=new at hsz lG ⊢
      have cellAt:∀ (i':Nat) (row:List AV) (j:Nat) (x:AV),new[i']?=some row→row[j]?=some x→∃ u,c'[(off+i')*sz+j]?=some u∧u.oneCell'=true∧RV C g h N w x u∧mj=sz:=fun i' row j x hi hj=>by
       have hi':i' < len:=by rw [←lG];exact (ua.1 hi).1
       have hrow:af[off+i']?=some row:=by
        rw [←hnd,uM hi',uo] at hi
        exact hi
       obtain ⟨cv,h3,h4,h5⟩:=hcells (off+i') _ j _ hrow hj
       have hs0:mj=sz:=by
        have a1:=hlen (off+i') _ hrow
        have a2:=hsz row (ue hi)
        omega
       subst hs0
       exact ⟨cv,h3,h4,h5,rfl⟩
      have nD:∀ k,k < len*sz→∃ u,c'[off*sz+k]?=some u∧u.oneCell'=true∧mj=sz:=fun k hk=>by
       have hpos:0 < sz:=uB fun e=>by subst e;simp at hk
       have hi:k / sz < new.length:=by rw [lG];exact um (by rw [ui];exact hk)
       have hrow:=hsz (new[k / sz]) (uF hi)
       have hj:k % sz < (new[k / sz]).length:=by rw [hrow];exact uP _ hpos
       obtain ⟨u,h3,h4,h5,h6⟩:=cellAt (k / sz) _ (k % sz) ((new[k / sz])[k % sz]) (ub hi) (ub hj)
       refine ⟨u,?_,h4,h6⟩
       rw [←h3]
       congr 1
       have:=uH k sz
       rw [uf,ui (k / sz) sz]
       omega
      obtain ⟨news,hn1,hn2⟩:=yC (uA (len*sz)) (fun _ k u=>c'[off*sz+k]?=some u∧u.oneCell'=true) (fun j k hj=>by
       obtain ⟨nE,hj2⟩:=ua.1 hj
       simp at nE hj2
       subst hj2
       obtain ⟨u,a1,a2,_⟩:=nD j nE
       exact ⟨u,a1,a2⟩)
      have mD:news.length=len*sz:=by simpa using hn1
      have gY:∀ k u,news[k]?=some u→c'[off*sz+k]?=some u∧u.oneCell'=true:=fun k u hk=>by
       have hlt:k < len*sz:=by rw [←mD];exact (ua.1 hk).1
       exact hn2 k k u (by simp [hlt]) hk
      refine ⟨_,cap,by rw [lG];exact hval,news,by rw [lG];exact mD,fun u hu => ?_,fun i' row j x hi hj => ?_,fun P w1 hw1 => ?_⟩
      ·obtain ⟨k,hk⟩:=un hu
       exact (gY k u hk).2
      ·obtain ⟨u,h3,h4,h5,h6⟩:=cellAt i' row j x hi hj
       have hi':i' < len:=by rw [←lG];exact (ua.1 hi).1
       have hj':j < sz:=by rw [←hsz row (ue hi)];exact (ua.1 hj).1
       have gJ:(i'+1)*sz≤len*sz:=ud _ hi'
       rw [uf] at gJ
       have hlt:i'*sz+j < news.length:=by omega
       refine ⟨u,?_,h5⟩
       have:=(gY (i'*sz+j) news[i'*sz+j] (by simp [hlt])).1
       rw [ub hlt]
       rw [show off*sz+(i'*sz+j)=(off+i')*sz+j by rw [uf];omega,h3] at this
       exact this.symm
      ·rw [hval,lG]
       simp only [Builtin.firstCells]
       rw [←mD]
       have hs0:off*mj=off*sz∨len*sz=0:=by
        rcases uW (len*sz) with h0 | h0
        ·exact .inr h0
        ·obtain ⟨_,_,_,h6⟩:=nD 0 h0;exact .inl (by rw [h6])
       have:=run_loadCells_list (P:=P) w1 ⟨b,off*mj,none⟩ news (fun k u hk=>by
        rw [qW]
        have hlt:k < news.length:=(ua.1 hk).1
        have:w1.heap[b]?=some (.cells c' e' (0,0)):=by rw [hw1];exact iA
        rw [qS this]
        rcases hs0 with h7 | h7
        ·rw [h7];exact (gY k u hk).1
        ·omega)
       exact this
   ·cases hx
  ·cases hx
 ·rw [ug] at hx
  obtain ⟨af,hrows,rfl⟩:=hx
  obtain ⟨a,cap,h1,news,h2,h3,h4,h5⟩:=Jr (sz:=sz) R hrows hv (fun row hr=>by
   have:=hsz (row.map .ak) (Ub.2 ⟨row,hr,rfl⟩)
   simpa using this)
  refine ⟨a,cap,by simpa using h1,news,by simpa using h2,h3,fun i row j c hi hj => ?_,fun P w1 hw1=>by simpa using h5 P w1 hw1⟩
  simp only [ul,ug] at hi
  obtain ⟨AH,pH,rfl⟩:=hi
  simp only [ul,ug] at hj
  obtain ⟨c0,hj0,rfl⟩:=hj
  obtain ⟨u,h6,h7⟩:=h4 i AH j c0 pH hj0
  exact ⟨u,h6,.ak _ _ h7⟩
end
end
section
section
variable {C:Ctx} {g g':Gh} {h h':Nat→Option aI} {N N':Nat→Prop} {w w':World} {id:Nat}
def Src (P:Program) (w:World) (sz m:Nat) (v:Value) (news:List Value):Prop:=
 (∃ a cap,v=.slice a m cap)∧news.length=m*sz∧(∀ u∈news,u.oneCell'=true)∧∀ w1:World,w1.heap=w.heap→(Builtin.firstCells sz m v).run P w1=.ok news.toArray w1
theorem Js {P:Program} {t t' ty e:TypeId} {i:TypeInfo} {d:TypeDesc} (ht:P.underlying t=some (.slice e)) (hi:P.info? e=some i) (ht':P.underlying t'=some d) (hd:∀ k,d≠.int k)
  {b L cap m:Nat} {c:Array Value} {e':TypeId} (hb:w.heap[b]?=some (.cells c e' (0,0))) {v:Value} {news:List Value} (hs:Src P w i.size m v news)
  (hroom:L+m≤cap) (hfit:L*i.size+news.length≤c.size) :
  (Builtin.append_ #[t,t'] ty #[.slice (some ⟨b,0,none⟩) L cap,v]).run P w=.ok (.slice (some ⟨b,0,none⟩) (L+m) cap) (zE w b (.cells (qw c (L*i.size) news) e' (0,0))):=by
 obtain ⟨⟨a,cp,rfl⟩,h1,h2,h3⟩:=hs
 have hst:=vY (P:=P) news w b (L*i.size) 0 c e' hb h2 (by omega)
 simp only [Uc] at hst
 have hz:(match d with | .int _=>true | _=>false)=false:=by cases d<;>first | rfl | exact absurd rfl (hd _)
 simp [Builtin.append_,run_underlying ht,sizeOf,typeInfo,hi,Builtin.lenOf,run_underlying ht',hz,hroom,h3 w rfl,qW,hst]
theorem kT {P:Program} {t t' ty e:TypeId} {i:TypeInfo} {d:TypeDesc} (ht:P.underlying t=some (.slice e)) (hi:P.info? e=some i) (ht':P.underlying t'=some d) (hd:∀ k,d≠.int k)
  {v:Value} {news:List Value} (hs:Src P w i.size 0 v news) :
  (Builtin.append_ #[t,t'] ty #[.slice none 0 0,v]).run P w=.ok (.slice none 0 0) w:=by
 obtain ⟨⟨a,cp,rfl⟩,h1,h2,h3⟩:=hs
 have hz:(match d with | .int _=>true | _=>false)=false:=by cases d<;>first | rfl | exact absurd rfl (hd _)
 simp [Builtin.append_,run_underlying ht,sizeOf,typeInfo,hi,Builtin.lenOf,run_underlying ht',hz,h3 w rfl]
theorem kU {P:Program} {t t' ty e:TypeId} {i:TypeInfo} {d:TypeDesc} {z:Value} (ht:P.underlying t=some (.slice e)) (hi:P.info? e=some i) (gX:i.zero=some z) (ht':P.underlying t'=some d) (hd:∀ k,d≠.int k)
  {s:Value} {L cap m:Nat} {base:Option Addr} (lH:s=.slice base L cap) {olds:List Value} (hold:Src P w i.size L s olds)
  {v:Value} {news:List Value} (hs:Src P w i.size m v news) (hroom:cap < L+m) (hby:0 < i.bytes) (hbytes:(L+m)*i.bytes≤140737488355328) :
  ∃ cN rest,L+m≤cN∧rest.size=(cN - (L+m))*z.cells.size∧(Builtin.append_ #[t,t'] ty #[s,v]).run P w=.ok (.slice (some ⟨w.heap.size,0,none⟩) (L+m) cN) (w.drew.alloc (.cells ((olds++news).toArray++rest) e (0,0))):=by
 subst lH
 obtain ⟨⟨a,cp,rfl⟩,h1,h2,h3⟩:=hs
 obtain ⟨_,g1,g2,g3⟩:=hold
 have hz:(match d with | .int _=>true | _=>false)=false:=by cases d<;>first | rfl | exact absurd rfl (hd _)
 have FJ:=growslice_fits hroom hbytes
 refine ⟨(Question.appendCap (L+m) cap e).cut (w.tape w.drawn (.appendCap (L+m) cap e)),Builtin.zeroCells z.cells ((Question.appendCap (L+m) cap e).cut (w.tape w.drawn (.appendCap (L+m) cap e)) - (L+m)),by simp [Question.cut],by simp [Builtin.zeroCells],?_⟩
 have hb0:¬ i.bytes=0:=by omega
 simp [Builtin.append_,run_underlying ht,sizeOf,typeInfo,hi,Builtin.lenOf,run_underlying ht',hz,show ¬ L+m≤cap by omega,hb0,show ¬ 281474976710656 < Builtin.nextslicecap (L+m) cap*i.bytes by omega,Question.forced,h3 w.drew rfl,g3 w.drew rfl,zeroValue,gX,newRow]
 congr 2
 apply Ud
 simp [List.append_assoc]
theorem b9.drew (g:Gh) (h:Nat→Option aI) (N:Nat→Prop) (w:World):b9 g h N w g h N w.drew:=by
 have E:=b9.refl g h N w
 exact ⟨rfl,rfl,rfl,uc _,fun b hb ho=>⟨rfl,rfl⟩,E.own,E.cr,⟨fun _ _ _=>rfl,fun _ _ _ _ _=>rfl⟩,fun b c e hb=>⟨c,hb,rfl⟩,E.next,E.ep,E.cI,E.af,E.cV,E.maps,E.fH⟩
theorem RH.drew (R:RH C g h N w):RH C g h N w.drew:=
 ⟨R.inj,R.lt,R.key,fun i b o hb ho=>(R.obj i b o hb ho).keep (b9.drew g h N w) rfl rfl,R.cP,R.ed,R.fix.eS (b9.drew g h N w)⟩
theorem Jt (R:RH C g h N w) (hid:¬ N id) (sz:Nat):Good C g h N w id (.aX id []) [(id,.bf sz 0)] (.slice none 0 0) w:=by
 have ne:∀ i,N i→id≠i:=fun i hi e=>hid (e ▸ hi)
 have E:b9 g h N w g (bK [(id,.bf sz 0)] h) (qo N id) w:=
  ⟨rfl,rfl,rfl,uc _,fun _ _ _=>⟨rfl,rfl⟩,fun _ h=>.inl h,fun _=>uc _,⟨fun _ _ _=>rfl,fun _ _ _ _ _=>rfl⟩,fun b c e hb=>⟨c,hb,rfl⟩,fun _ h=>.inl h,fun i b hb _ _ _ _=>.inl hb,fun i hb _ _ _ _=>.inl hb,
   fun i hi s r ho=>⟨r,by simp only [bK] at ho;rwa [if_neg (ne i hi)] at ho,rfl⟩,fun i hi s r ho=>⟨r,by simp only [bK] at ho;rwa [if_neg (ne i hi)] at ho,uc _⟩,
   fun i hi r ho=>⟨r,by simp only [bK] at ho;rwa [if_neg (ne i hi)] at ho⟩,
   fun i hi l R s pe ho=>⟨s,pe,by simp only [bK] at ho;rwa [if_neg (ne i hi)] at ho⟩⟩
 have hn:=R.lK hid
 refine ⟨g,E,⟨R.inj,fun i b hb=>⟨(R.lt i b hb).1,.inl (R.lt i b hb).2⟩,fun i o ho => ?_,fun i b o hb ho => ?_,fun i s l ho hr => ?_,R.ed,R.fix.eS E⟩,?_⟩
 ·simp only [bK] at ho
  split at ho
  ·rename_i e;exact .inr e.symm
  ·exact .inl (R.key i o ho)
 ·simp only [bK] at ho
  split at ho
  ·rename_i e;subst e;rw [hn] at hb;cases hb
  ·exact (R.obj i b o hb ho).keep E rfl rfl
 ·simp only [bK] at ho
  split at ho
  ·cases ho;rfl
  ·exact R.cP i s l ho hr
 ·refine .aX id [] _ .nil (.inr rfl) fun s l ho => ?_
  simp only [bK,if_pos] at ho
  cases ho
  exact ⟨uc _,fun i row hi=>by simp at hi,fun _=>.inl ⟨hn,rfl⟩⟩
theorem KW (R:RH C g h N w) {i sz L:Nat} (hi:h i=some (.bf sz L)) {af:List (List IV)} {v:Value} (hv:RV C g h N w (.aX i af) v) :
  Good C g h N w id (.aX i af) [(i,.bf sz L)] v w:=by
 have e:bK [(i,.bf sz L)] h=h:=by
  funext j
  simp only [bK]
  split
  ·rename_i e;subst e;exact hi.symm
  ·rfl
 obtain ⟨g',h1,h2,h3⟩:=zz (id:=id) R hv
 refine ⟨g',?_⟩
 rw [e]
 exact ⟨h1,h2,h3⟩
theorem FK {Z:Nat→Nat} {w':World} {b sz cN:Nat} {af new:List (List IV)} {c:Array Value} {e:TypeId} {vals:List Value}
  (hw:w'.heap[b]?=some (.cells c e (0,0))) (hz:(af++new).length*sz≤Z b) (hcap:(af++new).length≤cN)
  (hsz:∀ row∈af++new,row.length=sz)
  (hc:∀ (k:Nat) (u:Value),vals[k]?=some u→c[k]?=some u) (h1:∀ u∈vals,u.oneCell'=true)
  (hr:∀ (i:Nat) (row:List IV) (j:Nat) (x:IV),(af++new)[i]?=some row→row[j]?=some x→∃ u,vals[i*sz+j]?=some u∧RI Z w' x u) :
  RI Z w' (.slice (af++new)) (.slice (some ⟨b,0,none⟩) (af++new).length cN):=by
 refine .slice (af++new) b 0 cN sz (fun i j=>vals.getD (i*sz+j) undef) hcap (fun i row hi=>hsz row (ue hi)) (fun i row j x hi hj => ?_) (fun i row j x hi hj => ?_) (fun i row j x hi hj => ?_)
 ·have hi':i < (af++new).length:=(ua.1 hi).1
  have hj':j < sz:=by rw [←hsz row (ue hi)];exact (ua.1 hj).1
  have hb:(i+1)*sz≤(af++new).length*sz:=ud _ hi'
  rw [uf] at hb
  omega
 ·obtain ⟨u,h2,h3⟩:=hr i row j x hi hj
  have:vals.getD (i*sz+j) undef=u:=by simp [Ua,h2]
  rw [this,qS hw,ux]
  exact ⟨hc _ u h2,h1 u (ue h2)⟩
 ·obtain ⟨u,h2,h3⟩:=hr i row j x hi hj
  have:vals.getD (i*sz+j) undef=u:=by simp [Ua,h2]
  rw [this]
  exact h3
end
end
section
section
variable {C:Ctx} {g g':Gh} {h h':Nat→Option aI} {N N':Nat→Prop} {w w':World} {id:Nat}
theorem X3 (R:RH C g h N w) {i sz L L':Nat} (hk:(¬ N i∧i=id)∨(h i=some (.bf sz L)∧L < L')) (o:Obj) (z:Nat) :
  b9 g h N w (g.at i w.heap.size z) (bK [(i,.bf sz L')] h) (qo N id) (w.drew.alloc o):=by
 have hold:∀ j,N j→∀ ob,bK [(i,aI.bf sz L')] h j=some ob→(i≠j∧h j=some ob)∨(i=j∧ob=.bf sz L'∧h j=some (.bf sz L)∧L < L'):=fun j hj ob ho=>by
  simp only [bK] at ho
  split at ho
  ·rename_i e
   cases ho
   rcases hk with ⟨hn,_⟩ | ⟨h1,h2⟩
   ·exact absurd (e ▸ hj) hn
   ·exact .inr ⟨e,rfl,e ▸ h1,h2⟩
  ·rename_i e;exact .inl ⟨e,ho⟩
 exact {
  os:=rfl
  tape:=rfl
  output:=rfl
  size:=by simp
  old:=fun b hb ho=>⟨qF w.drew o hb,by simp only [Gh.at];rw [if_neg (by omega)]⟩
  own:=fun b ⟨j,hj⟩=>by
   simp only [Gh.at] at hj
   split at hj
   ·cases hj;exact .inr (uc _)
   ·exact .inl ⟨j,hj⟩
  cr:=fun b=>by
   simp only [Gh.at]
   split
   ·rename_i hb;subst hb;rw [R.mA];omega
   ·exact uc _
  cell:=lF.heap (w:=w) fun b hk=>qF w.drew o (R.ed b hk)
  shape:=fun b c e hb=>⟨c,(qF w.drew o (qd hb)).trans hb,rfl⟩
  next:=fun i hi=>.inl hi
  ep:=fun j b hb ob ho hnd hj=>by
   rcases hold j hj ob ho with ⟨h1,h2⟩ | ⟨h1,h2,h3,h4⟩
   ·exact .inl (by simp only [Gh.at];rw [if_neg (Ne.symm h1)];exact hb)
   ·exact .inr ⟨sz,L,sz,L',h3,h2,h4⟩
  cI:=fun j hb hj ob ho hnd=>by
   rcases hold j hj ob ho with ⟨h1,h2⟩ | ⟨h1,h2,h3,h4⟩
   ·exact .inl (by simp only [Gh.at];rw [if_neg (Ne.symm h1)];exact hb)
   ·exact .inr ⟨sz,L,sz,L',h3,h2,h4⟩
  af:=fun j hj s r ho=>by
   rcases hold j hj _ ho with ⟨h1,h2⟩ | ⟨h1,h2,h3,h4⟩
   ·exact ⟨r,h2,rfl⟩
   ·cases h2
  cV:=fun j hj s l ho=>by
   rcases hold j hj _ ho with ⟨h1,h2⟩ | ⟨h1,h2,h3,h4⟩
   ·exact ⟨l,h2,uc _⟩
   ·cases h2;exact ⟨L,h3,by omega⟩
  maps:=fun j hj es ho=>by
   rcases hold j hj _ ho with ⟨h1,h2⟩ | ⟨h1,h2,h3,h4⟩
   ·exact ⟨es,h2⟩
   ·cases h2
  fH:=fun j hj ll RR s pe ho=>by
   rcases hold j hj _ ho with ⟨h1,h2⟩ | ⟨h1,h2,h3,h4⟩
   ·exact ⟨s,pe,h2⟩
   ·cases h2}
theorem Mh (R:RH C g h N w) {i sz L L':Nat} (hk:(¬ N i∧i=id)∨(h i=some (.bf sz L)∧L < L')) (c:Array Value) (e:TypeId) (hc:L'*sz≤c.size) :
  RH C (g.at i w.heap.size (L'*sz)) (bK [(i,.bf sz L')] h) (qo N id) (w.drew.alloc (.cells c e (0,0))):=by
 have E:=X3 (id:=id) R hk (.cells c e (0,0)) (L'*sz)
 have eD:qo N id i:=by
  rcases hk with ⟨_,h1⟩ | ⟨h1,_⟩
  ·exact .inr h1
  ·exact .inl (R.key i _ h1)
 refine ⟨fun j k b hj hk => ?_,fun j b hb => ?_,fun j o' ho' => ?_,fun j b o' hb ho' => ?_,fun j s l ht hn => ?_,fun b hb => ?_,R.fix.eS E⟩
 ·simp only [Gh.at] at hj hk
  split at hj<;>split at hk
  ·rename_i h1 h2;rw [h1,h2]
  ·cases hj;have:=(R.lt k _ hk).1;omega
  ·cases hk;have:=(R.lt j _ hj).1;omega
  ·exact R.inj j k b hj hk
 ·simp only [Gh.at] at hb
  split at hb
  ·rename_i hi;subst hi;cases hb;exact ⟨by simp,eD⟩
  ·have:=R.lt j b hb;exact ⟨by simp;omega,.inl this.2⟩
 ·simp only [bK] at ho'
  split at ho'
  ·rename_i hi;subst hi;exact eD
  ·exact .inl (R.key j o' ho')
 ·simp only [Gh.at] at hb
  simp only [bK] at ho'
  split at hb
  ·rename_i hi
   subst hi
   cases hb
   rw [if_pos rfl] at ho'
   cases ho'
   exact ⟨c,e,zX w.drew _,by simp [Gh.at],hc⟩
  ·rename_i hi
   rw [if_neg (fun e=>hi e.symm)] at ho'
   have hlt:=(R.lt j b hb).1
   exact (R.obj j b o' hb ho').keep E (qF w.drew _ hlt) (by simp only [Gh.at];rw [if_neg (by omega)])
 ·simp only [Gh.at] at hn
  simp only [bK] at ht
  split at hn
  ·cases hn
  ·rename_i hi
   rw [if_neg (fun e=>hi e.symm)] at ht
   exact R.cP j s l ht hn
 ·simp only [Gh.at] at hb
  split at hb
  ·rename_i hh;subst hh;simp
  ·have:=R.ed b hb;simp;omega
theorem Ju (R:RH C g h N w) {i b sz L L':Nat} (hi:h i=some (.bf sz L)) (hb:g.ρ i=some b) {c:Array Value} {e:TypeId} (hw:w.heap[b]?=some (.cells c e (0,0))) (hz:g.Z b=L*sz) (hL:L≤L')
  (news:List Value) (hfit:L*sz+news.length≤c.size) :
  b9 g h N w (g.at i b (L'*sz)) (bK [(i,.bf sz L')] h) (qo N id) (zE w b (.cells (qw c (L*sz) news) e (0,0))):=by
 have hlt:=qd hw
 have dZ:∀ j,(g.at i b (L'*sz)).ρ j=g.ρ j:=fun j=>by
  simp only [Gh.at]
  split
  ·rename_i e;subst e;exact hb.symm
  ·rfl
 exact {
  os:=rfl
  tape:=rfl
  output:=rfl
  size:=by rw [jm];exact uc _
  old:=fun k hk ho=>by
   have hne:k≠b:=fun e=>ho ⟨i,by rw [e];exact hb⟩
   exact ⟨by rw [zI w b _ hlt,if_neg hne],by simp only [Gh.at];rw [if_neg hne]⟩
  own:=fun k ⟨j,hj⟩=>.inl ⟨j,by rw [←dZ];exact hj⟩
  cr:=fun k=>by
   simp only [Gh.at]
   split
   ·rename_i e;subst e;rw [hz];exact ud _ hL
   ·exact uc _
  cell:=⟨fun k o ho=>by
   by_cases e1:k=b
   ·subst e1
    rw [hz] at ho
    have:(zE w k (.cells (qw c (L*sz) news) e (0,0))).heap[k]?=some (.cells (qw c (L*sz) news) e (0,0)):=by rw [zI w k _ hlt];simp
    rw [qS this,qS hw,xT c _ news hfit,if_neg (by omega)]
   ·refine Jk ?_
    rw [zI w b _ hlt,if_neg e1],fun k cG clock _ hm=>by
   have e1:k≠b:=fun e1=>by rw [e1,hw] at hm;cases hm
   rw [zI w b _ hlt,if_neg e1]⟩
  shape:=fun k c' e' iA=>by
   by_cases e1:k=b
   ·subst e1
    rw [hw] at iA
    cases iA
    exact ⟨_,by rw [zI w k _ hlt,if_pos rfl],jW _ _ _⟩
   ·exact ⟨c',by rw [zI w b _ hlt,if_neg e1];exact iA,rfl⟩
  next:=fun i hi=>.inl hi
  ep:=fun j b' hj _ _ _ _=>.inl (by rw [dZ];exact hj)
  cI:=fun j hj _ _ _ _=>.inl (by rw [dZ];exact hj)
  af:=fun j hj s r ho=>by
   simp only [bK] at ho
   split at ho
   ·cases ho
   ·exact ⟨r,ho,rfl⟩
  cV:=fun j hj s l ho=>by
   simp only [bK] at ho
   split at ho
   ·rename_i e1;subst e1;cases ho;exact ⟨L,hi,hL⟩
   ·exact ⟨l,ho,uc _⟩
  maps:=fun j hj es ho=>by
   simp only [bK] at ho
   split at ho
   ·cases ho
   ·exact ⟨es,ho⟩
  fH:=fun j hj ll RR s pe ho=>by
   simp only [bK] at ho
   split at ho
   ·cases ho
   ·exact ⟨s,pe,ho⟩}
theorem Mi (R:RH C g h N w) {i b sz L L':Nat} (hi:h i=some (.bf sz L)) (hb:g.ρ i=some b) {c:Array Value} {e:TypeId} (hw:w.heap[b]?=some (.cells c e (0,0))) (hz:g.Z b=L*sz) (hL:L≤L')
  (news:List Value) (hfit:L*sz+news.length≤c.size) (hcap:L'*sz≤c.size) :
  RH C (g.at i b (L'*sz)) (bK [(i,.bf sz L')] h) (qo N id) (zE w b (.cells (qw c (L*sz) news) e (0,0))):=by
 have E:=Ju (id:=id) R hi hb hw hz hL news hfit
 have hlt:=qd hw
 have dZ:∀ j,(g.at i b (L'*sz)).ρ j=g.ρ j:=fun j=>by
  simp only [Gh.at]
  split
  ·rename_i e;subst e;exact hb.symm
  ·rfl
 refine ⟨fun j k b' hj hk => ?_,fun j b' hb' => ?_,fun j o' ho' => ?_,fun j b' o' hb' ho' => ?_,fun j s l ht hn => ?_,fun k hk => ?_,R.fix.eS E⟩
 ·rw [dZ] at hj hk;exact R.inj j k b' hj hk
 ·rw [dZ] at hb'
  rw [jm]
  exact ⟨(R.lt j b' hb').1,.inl (R.lt j b' hb').2⟩
 ·simp only [bK] at ho'
  split at ho'
  ·rename_i e1;subst e1;exact .inl (R.key i _ hi)
  ·exact .inl (R.key j o' ho')
 ·rw [dZ] at hb'
  simp only [bK] at ho'
  split at ho'
  ·rename_i e1
   subst e1
   cases ho'
   rw [hb] at hb'
   cases hb'
   exact ⟨qw c (L*sz) news,e,by rw [zI w b _ hlt];simp,by simp [Gh.at],by rw [jW];exact hcap⟩
  ·rename_i e1
   have hne:b'≠b:=fun e2=>e1 (R.inj i j b hb (e2 ▸ hb'))
   exact (R.obj j b' o' hb' ho').keep E (by rw [zI w b _ hlt,if_neg hne]) (by simp only [Gh.at];rw [if_neg hne])
 ·rw [dZ] at hn
  simp only [bK] at ht
  split at ht
  ·rename_i e1;subst e1;rw [hb] at hn;cases hn
  ·exact R.cP j s l ht hn
 ·rw [jm]
  simp only [Gh.at] at hk
  split at hk
  ·rename_i e1;subst e1;exact hlt
  ·exact R.ed k hk
def Mj (C:Ctx) (o:Oper) (sz bI:Nat) (s x:bD):Prop:=
 ∀ (g:Gh) (h:Nat→Option aI) (N:Nat→Prop) (w:World) (id:Nat) (ev:bD→AV) (val:Operand→Value) (r:AV) (aQ:List (Nat×aI)),
  RH C g h N w→¬ N id→(∀ x∈o.op.operands,RV C g h N w (ev (C.bt x)) (val x))→kS sz bI (ev s) (ev x) h id=some (r,aQ) →
  ∃ v w',pG C.P (execOp val o) w v w'∧Good C g h N w id r aQ v w'
def Mk (C:Ctx) (o:Oper) (sz bI:Nat) (s x:bD):Prop:=
 ∀ (g:Gh) (h:Nat→Option aI) (N:Nat→Prop) (w:World) (id:Nat) (ev:bD→AV) (val:Operand→Value) (r:AV) (aQ:List (Nat×aI)),
  RH C g h N w→¬ N id→(∀ x∈o.op.operands,RV C g h N w (ev (C.bt x)) (val x))→Wk sz bI (ev s) (ev x) h id=some (r,aQ) →
  ∃ v w',pG C.P (execOp val o) w v w'∧Good C g h N w id r aQ v w'
theorem Ml {o:Oper} {t t' e:TypeId} {d:TypeDesc} {s x:Operand} {sz bI:Nat} {z:List AV} (ho:o.op=.call {callee:=.builtin .append,args := #[s,x],argTypes := #[t,t']})
  (ht:C.P.underlying t=some (.slice e)) (ht':C.P.underlying t'=some d) (hd:∀ k,d≠.int k) (hsz:zB C.P e=some sz) (hby:xF C.P e=some bI) (hz:qL C.P e=some z)
  (h0:0 < sz) (hzl:z.length=sz) (mE:0 < bI):Mj C o sz bI (C.bt s) (C.bt x):=by
 intro g h N w id ev val r aQ R hid hv he
 have hs:=hv s (by simp [ho,Op.operands,Call.operands])
 have hx:=hv x (by simp [ho,Op.operands,Call.operands])
 obtain ⟨i,zv,hi,iX,rfl⟩:=jX hz
 have hzs:zv.cells.size=sz:=by simpa using hzl
 have hsize:i.size=sz:=by simpa [zB,hi] using hsz
 have hbytes:i.bytes=bI:=by simpa [xF,hi] using hby
 subst hsize
 subst hbytes
 have exec:∀ v' w',(Builtin.append_ #[t,t'] o.type #[val s,val x]).run C.P w=.ok v' w'→pG C.P (execOp val o) w v' w':=fun v' w' hrun=>by
  refine .inl ?_
  simp [execOp,ho,resolve,invoke,builtin,hrun]
 unfold kS at he
 split at he
 case h_2=>cases he
 rename_i new hnew
 split at he
 ·cases he
 rename_i hall
 have rC:∀ row∈new,row.length=i.size:=fun row hr=>by
  simp only [u0,u4] at hall
  have:=uw.1 hall row hr
  simpa using this
 obtain ⟨a,cp,C7,news,hn1,hn2,tY,AI⟩:=Jr R hnew hx rC
 have hsrc:Src C.P w i.size new.length (val x) news:=⟨⟨a,cp,C7⟩,hn1,hn2,fun w1 hw1=>AI C.P w1 hw1⟩
 have grow:∀ (j L cap:Nat) (base:Option Addr) (af:List (List IV)) (olds:List Value),(¬ N j∧j=id)∨(h j=some (.bf i.size L)∧L < L+new.length)→af.length=L →
   val s=.slice base L cap→cap < L+new.length→(L+new.length)*i.bytes≤140737488355328→(∀ row∈af,row.length=i.size) →
   Src C.P w i.size L (val s) olds→(∀ (k:Nat) (row:List IV) (q:Nat) (c:IV),af[k]?=some row→row[q]?=some c→∃ u,olds[k*i.size+q]?=some u∧RI g.Z w c u) →
   ∃ v w',pG C.P (execOp val o) w v w'∧Good C g h N w id (.aX j (af++new)) [(j,.bf i.size (L+new.length))] v w':=fun j L cap base af olds hk hrl lH hroom hbound sw hold AJ=>by
  obtain ⟨cN,rest,eW,eX,hrun⟩:=kU (w:=w) (ty:=o.type) ht hi iX ht' hd lH hold hsrc hroom mE hbound
  have sx:olds.length=L*i.size:=hold.2.1
  have hlen:(olds++news).length=(L+new.length)*i.size:=by simp [sx,hn1,uf]
  have sy:(L+new.length)*i.size≤((olds++news).toArray++rest).size:=by simp only [uC,uD];omega
  have E:=X3 (id:=id) R hk (.cells ((olds++news).toArray++rest) e (0,0)) ((L+new.length)*i.size)
  refine ⟨_,_,exec _ _ hrun,_,E,Mh R hk _ e sy,?_⟩
  have hw':(w.drew.alloc (.cells ((olds++news).toArray++rest) e (0,0))).heap[w.heap.size]?=some (.cells ((olds++news).toArray++rest) e (0,0)):=zX w.drew _
  have sk:(g.at j w.heap.size ((L+new.length)*i.size)).Z w.heap.size=(L+new.length)*i.size:=by simp [Gh.at]
  have gl:(af++new).length=L+new.length:=by simp [hrl]
  have AK:RI (g.at j w.heap.size ((L+new.length)*i.size)).Z (w.drew.alloc (.cells ((olds++news).toArray++rest) e (0,0))) (.slice (af++new)) (.slice (some ⟨w.heap.size,0,none⟩) (af++new).length cN):=by
   refine FK (vals:=olds++news) hw' (by rw [sk,gl];exact uc _) (by rw [gl];exact eW) (fun row hr => ?_) (fun k u hk => ?_) (fun u hu => ?_) (fun k row q c hk hq => ?_)
   ·rcases uu.1 hr with hr | hr
    ·exact sw row hr
    ·exact rC row hr
   ·have hlt:k < (olds++news).length:=(ua.1 hk).1
    rw [uk (by simpa using hlt)]
    simpa using hk
   ·rcases uu.1 hu with hu | hu
    ·exact hold.2.2.1 u hu
    ·exact hn2 u hu
   ·rw [uj] at hk
    split at hk
    ·rename_i hlt
     obtain ⟨u,h2,h3⟩:=AJ k row q c hk hq
     have fR:k*i.size+q < olds.length:=(ua.1 h2).1
     exact ⟨u,by rw [uy fR];exact h2,h3.mono E.cr E.cell⟩
    ·rename_i hge
     obtain ⟨u,h2,h3⟩:=tY _ row q c hk hq
     have sA:olds.length≤k*i.size+q:=by
      rw [sx]
      have:L*i.size≤k*i.size:=ud _ (by omega)
      omega
     refine ⟨u,?_,h3.mono E.cr E.cell⟩
     rw [uv sA,←h2]
     congr 1
     rw [sx,hrl,uz]
     have:L*i.size≤k*i.size:=ud _ (by omega)
     omega
  rw [gl] at AK
  refine .aX j (af++new) _ AK ?_ fun sz' len' ht => ?_
  ·rcases hk with ⟨_,h1⟩ | ⟨h1,_⟩
   ·exact .inr h1
   ·exact .inl (R.key j _ h1)
  ·simp only [bK,if_pos] at ht
   cases ht
   refine ⟨by rw [gl];exact uc _,fun k row hk => ?_,fun _=>.inr ⟨w.heap.size,cN,_,e,by simp [Gh.at],by rw [gl],hw',?_⟩⟩
   ·rcases uu.1 (ue hk) with hr | hr
    ·exact sw row hr
    ·exact rC row hr
   ·simp only [uC,uD,hlen,eX,hzs]
    have:cN*i.size=(L+new.length)*i.size+(cN - (L+new.length))*i.size:=by
     rw [←uf];congr 1;omega
    omega
 split at he
 ·rename_i e1
  rw [e1] at hs
  have lH:=xP hs
  split at he
  ·rename_i hbound
   simp only [Option.some.injEq,Prod.mk.injEq] at he
   obtain ⟨rfl,rfl⟩:=he
   by_cases hm:new=[]
   ·subst hm
    have hrun:=kT (w:=w) (ty:=o.type) ht hi ht' hd (news:=news) (by simpa using hsrc)
    exact ⟨_,_,exec _ _ (by rw [lH];exact hrun),by simpa using Jt R hid i.size⟩
   ·have hpos:0 < new.length:=uV.2 hm
    have:=grow id 0 0 none [] [] (.inl ⟨hid,rfl⟩) rfl lH (by omega) (by simpa using hbound) (by simp) ⟨⟨none,0,lH⟩,by simp,by simp,fun w1 _=>by rw [lH];simp [Builtin.firstCells]⟩ (fun k row q c hk=>by simp at hk)
    simpa using this
  ·cases he
 ·rename_i j af e1
  rw [e1] at hs
  split at he
  ·rename_i sz' len htip
   split at he
   ·rename_i bT
    obtain ⟨rfl,hrl,hbound⟩:=bT
    simp only [Option.some.injEq,Prod.mk.injEq] at he
    obtain ⟨rfl,rfl⟩:=he
    have hs':=hs
    cases hs with
    | aX _ _ _ gT hni tZ=>
     obtain ⟨_,sw,C8⟩:=tZ _ _ htip
     have nF:∀ row∈af,row.length=i.size:=fun row hr=>by
      obtain ⟨k,hk⟩:=un hr
      exact sw k row hk
     have Mm:jU h (.aX j af)=some af:=rfl
     obtain ⟨a0,Mn,sB,olds,rD,B4,C9,FL⟩:=Jr R Mm hs' nF
     have hold:Src C.P w i.size af.length (val s) olds:=⟨⟨a0,Mn,sB⟩,rD,B4,fun w1 hw1=>FL C.P w1 hw1⟩
     rcases C8 hrl with ⟨hn,lH⟩ | ⟨b,cap,c,e',hb,lH,hw,hcap⟩
     ·have mC:af.length=0:=by rw [lH] at sB;simp at sB;omega
      have fZ:af=[]:=uh mC
      subst fZ
      simp at hrl
      subst hrl
      by_cases hm:new=[]
      ·subst hm
       have hrun:=kT (w:=w) (ty:=o.type) ht hi ht' hd (news:=news) (by simpa using hsrc)
       refine ⟨_,_,exec _ _ (by rw [lH];exact hrun),?_⟩
       rw [lH] at hs'
       simpa using KW (id:=id) R htip hs'
      ·have hpos:0 < new.length:=uV.2 hm
       exact grow j 0 0 none [] olds (.inr ⟨htip,by omega⟩) rfl lH (by omega) hbound (by simp) (by simpa using hold) C9
     ·by_cases hroom:len+new.length≤cap
      ·subst hrl
       obtain ⟨c',e2,pI,iQ,hsz2⟩:=R.obj j b _ hb htip
       rw [hw] at pI
       cases pI
       have hm1:(af.length+new.length)*i.size≤cap*i.size:=ud _ hroom
       have hfit:af.length*i.size+news.length≤c.size:=by rw [hn1,←uf];omega
       have hrun:=Js (P:=C.P) (w:=w) (ty:=o.type) ht hi ht' hd hw hsrc hroom hfit
       have E:=Ju (id:=id) R htip hb hw iQ (uN af.length new.length) news hfit
       refine ⟨_,_,exec _ _ (by rw [lH];exact hrun),_,E,Mi R htip hb hw iQ (uN _ _) news hfit (by omega),?_⟩
       have hw':(zE w b (.cells (qw c (af.length*i.size) news) e' (0,0))).heap[b]?=some (.cells (qw c (af.length*i.size) news) e' (0,0)):=by rw [zI w b _ (qd hw)];simp
       have gl:(af++new).length=af.length+new.length:=by simp
       have AK:RI (g.at j b ((af.length+new.length)*i.size)).Z (zE w b (.cells (qw c (af.length*i.size) news) e' (0,0))) (.slice (af++new)) (.slice (some ⟨b,0,none⟩) (af++new).length cap):=by
        refine FK (vals:=olds++news) hw' (by simp only [Gh.at,if_pos];rw [gl];exact uc _) (by rw [gl];exact hroom) (fun row hr => ?_) (fun k u hk => ?_) (fun u hu => ?_) (fun k row q x hk hq => ?_)
        ·rcases uu.1 hr with hr | hr
         ·exact nF row hr
         ·exact rC row hr
        ·rw [xT c _ news hfit]
         rw [uj] at hk
         split at hk
         ·rename_i hlt
          rw [if_neg (by omega)]
          have hread:=FL C.P w rfl
          rw [lH] at hread
          simp only [Builtin.firstCells] at hread
          have hcell:∀ q,q < af.length*i.size→w.cell? ((⟨b,0,none⟩:Addr).add q)=some (c.getD q undef):=fun q hq=>by
           rw [qW,qS hw,ux]
           have:q < c.size:=by omega
           simp [this]
          rw [run_loadCells (P:=C.P) w _ _ _ hcell] at hread
          simp only [Result.ok.injEq,and_true] at hread
          have sC:(uA (af.length*i.size)).map (fun q=>c.getD q undef)=olds:=by
           have:=congrArg Array.toList hread
           simpa using this
          rw [←sC] at hk
          simp only [ul,ug] at hk
          obtain ⟨q,hq1,sD⟩:=hk
          obtain ⟨Mo,FM⟩:=ua.1 hq1
          simp at Mo FM
          subst FM
          have:k < c.size:=by omega
          simp [this] at sD
          simp [this,sD]
         ·rename_i hge
          have hlt:k - olds.length < news.length:=(ua.1 hk).1
          rw [if_pos (by omega),←rD]
          exact hk
        ·rcases uu.1 hu with hu | hu
         ·exact B4 u hu
         ·exact hn2 u hu
        ·rw [uj] at hk
         split at hk
         ·obtain ⟨u,h2,h3⟩:=C9 k row q x hk hq
          have fR:k*i.size+q < olds.length:=(ua.1 h2).1
          exact ⟨u,by rw [uy fR];exact h2,h3.mono E.cr E.cell⟩
         ·rename_i hge
          obtain ⟨u,h2,h3⟩:=tY _ row q x hk hq
          have C4:af.length*i.size≤k*i.size:=ud _ (by omega)
          have sA:olds.length≤k*i.size+q:=by rw [rD];omega
          refine ⟨u,?_,h3.mono E.cr E.cell⟩
          rw [uv sA,←h2]
          congr 1
          rw [rD,uz]
          omega
       rw [gl] at AK
       refine .aX j (af++new) _ AK (.inl hni) fun sz' len' ht => ?_
       simp only [bK,if_pos] at ht
       cases ht
       refine ⟨by rw [gl];exact uc _,fun k row hk => ?_,fun _=>.inr ⟨b,cap,_,e',by simp [Gh.at],by rw [gl],hw',by rw [jW];exact hcap⟩⟩
       rcases uu.1 (ue hk) with hr | hr
       ·exact nF row hr
       ·exact rC row hr
      ·subst hrl
       have mF:cap < af.length+new.length:=by omega
       have hle:af.length≤cap:=by
        rcases Qr gT with ⟨fZ,_⟩ | ⟨b1,off1,Mp,tV,cv1,lI,Da,_⟩
        ·subst fZ;simp
        ·rw [lH] at lI;cases lI;exact Da
       exact grow j af.length cap _ af olds (.inr ⟨htip,by omega⟩) rfl lH mF hbound nF hold C9
   ·cases he
  ·cases he
 ·cases he
end
end
section
section
variable {C:Ctx} {g g':Gh} {h h':Nat→Option aI} {N N':Nat→Prop} {w w':World} {id:Nat}
theorem ZL:∀ {ks:List Nat} {cJ bs:List IV} {r:Bool},qC ks cJ bs=some r→cJ.length=ks.length∧bs.length=ks.length
 | [],[],[],_,_=>⟨rfl,rfl⟩
 | [],[],_::_,_,h=>by simp [qC] at h
 | [],_::_,_,_,h=>by simp [qC] at h
 | _::_,[],_,_,h=>by simp [qC] at h
 | _::_,_::_,[],_,h=>by simp [qC] at h
 | k::ks,a::cJ,b::bs,r,h=>by
  simp only [qC] at h
  split at h
  ·split at h
   ·rename_i y h2
    have:=ZL h2
    simp [this.1,this.2]
   ·cases h
  ·cases h
theorem Jd:∀ {k1 k2:List Nat} {cJ bs:List IV} {r:Bool},qC (k1++k2) cJ bs=some r →
  ∃ r1 r2,qC k1 (cJ.take k1.length) (bs.take k1.length)=some r1∧qC k2 (cJ.drop k1.length) (bs.drop k1.length)=some r2∧r=(r1&&r2)
 | [],k2,cJ,bs,r,h=>⟨true,r,by simp [qC],by simpa using h,by simp⟩
 | k::k1,k2,[],bs,r,h=>by simp [qC] at h
 | k::k1,k2,a::cJ,[],r,h=>by simp [qC] at h
 | k::k1,k2,a::cJ,b::bs,r,h=>by
  simp only [List.cons_append,qC] at h
  split at h
  ·rename_i x h1
   split at h
   ·rename_i y h2
    cases h
    obtain ⟨r1,r2,h3,h4,rfl⟩:=Jd h2
    exact ⟨x&&r1,r2,by simp [qC,h1,h3],by simpa using h4,by simp [Bool.and_assoc]⟩
   ·cases h
  ·cases h
def iB (Z:Nat→Nat) (w:World) (cJ:List IV) (vs:List Value):Prop:=cJ.length=vs.length∧∀ (j:Nat) (c:IV) (u:Value),cJ[j]?=some c→vs[j]?=some u→RI Z w c u
theorem iB.drop {Z:Nat→Nat} {cJ:List IV} {vs:List Value} (H:iB Z w cJ vs) (n:Nat):iB Z w (cJ.drop n) (vs.drop n):=by
 refine ⟨by simp [H.1],fun j c u h1 h2 => ?_⟩
 rw [uo] at h1 h2
 exact H.2 _ c u h1 h2
theorem iB.take {Z:Nat→Nat} {cJ:List IV} {vs:List Value} (H:iB Z w cJ vs) (n:Nat):iB Z w (cJ.take n) (vs.take n):=by
 refine ⟨by simp [H.1],fun j c u h1 h2 => ?_⟩
 rw [uJ] at h1 h2
 split at h1
 ·rename_i hj
  rw [if_pos hj] at h2
  exact H.2 _ c u h1 h2
 ·cases h1
def xG (P:Program) (t:TypeId) (vs:List Value):Value:=match P.underlying t with
 | some (.struct _)=>.agg vs.toArray
 | _=>vs.getD 0 undef
theorem Jv {P:Program} {t:TypeId} {k:Nat} {dd:TypeDesc} (ht:P.underlying t=some dd) (hk:(k=0∧∃ kk,dd=.int kk)∨(k=1∧dd=.bool)∨(k=2∧dd=.string)) {Z:Nat→Nat} {cJ bs:List IV} {us vs:List Value} {r:Bool}
  (ha:iB Z w cJ us) (hb:iB Z w bs vs) (he:qC [k] cJ bs=some r) (D:Nat):(Op.equalIn (D+1) t (xG P t us) (xG P t vs)).run P w=.ok r w:=by
 obtain ⟨h1,h2⟩:=ZL he
 obtain ⟨a,rfl⟩:=uq.1 h1
 obtain ⟨b,rfl⟩:=uq.1 h2
 obtain ⟨u,rfl⟩:=uq.1 ha.1.symm
 obtain ⟨v,rfl⟩:=uq.1 hb.1.symm
 have sF:=ha.2 0 a u rfl rfl
 have hrb:=hb.2 0 b v rfl rfl
 simp only [qC] at he
 split at he
 ·rename_i x hx
  simp at he
  subst he
  rcases hk with ⟨rfl,kk,rfl⟩ | ⟨rfl,rfl⟩ | ⟨rfl,rfl⟩
  ·simp only [xG,ht,uI]
   cases a<;>cases b<;>simp [ZV] at hx
   obtain ⟨rfl,rfl⟩:=hx
   cases sF;cases hrb
   exact run_equalIn_int w D t _ kk _ _ ht
  ·simp only [xG,ht,uI]
   cases a<;>cases b<;>simp [ZV] at hx
   subst hx
   cases sF;cases hrb
   exact run_equalIn_bool' w D t _ _ ht
  ·simp only [xG,ht,uI]
   cases a<;>cases b<;>simp [ZV] at hx
   subst hx
   cases sF;cases hrb
   rw [run_equalIn_string w D t _ _ ht,beq_toListBytes]
 ·cases he
theorem FN {P:Program} {t:TypeId} {n:Nat} (hn:zB P t=some n) (w:World) (vs:List Value) (off:Nat) (hs:(∃ fs,P.underlying t=some (.struct fs))∨(n=1∧∃ dd,P.underlying t=some dd∧((∃ k,dd=.int k)∨dd=.bool∨dd=.string)))
  (hl:off+n≤vs.length):(part t vs.toArray off).run P w=.ok (xG P t ((vs.drop off).take n)) w:=by
 rcases hs with ⟨fs,hu⟩ | ⟨rfl,dd,hu,hk⟩
 ·have hag:jH P t=some true:=by simp [jH,hu]
  simp only [part,Sem.run_bind,wb hag,Result.andThen_ok,if_true,Sem.run_pure,zU hn,xG,hu]
  congr 2
  apply Ud
  simp [uK]
 ·have hag:jH P t=some false:=by rcases hk with ⟨k,rfl⟩ | rfl | rfl<;>simp [jH,hu]
  have hv:xG P t ((vs.drop off).take 1)=vs[off]'(by omega):=by
   have:((vs.drop off).take 1)[0]?=some (vs[off]'(by omega)):=by simp
   rcases hk with ⟨k,rfl⟩ | rfl | rfl<;>simp [xG,hu,Ua,this]
  have hg:vs.toArray[off]?=some (vs[off]'(by omega)):=by simp
  simp only [part,Sem.run_bind,wb hag,Result.andThen_ok,ur,if_false,hg,Sem.run_pure,hv]
theorem YY {P:Program} {d:Nat} {t:TypeId} {ks:List Nat} (hf:yA P d t=some ks) :
  (∃ fs,P.underlying t=some (.struct fs))∨(ks.length=1∧∃ dd,P.underlying t=some dd∧((∃ k,dd=.int k)∨dd=.bool∨dd=.string)):=by
 cases d with
 | zero=>simp [yA] at hf
 | succ d=>
  simp only [yA] at hf
  split at hf
  ·rename_i k hu;cases hf;exact .inr ⟨rfl,_,hu,.inl ⟨k,rfl⟩⟩
  ·rename_i hu;cases hf;exact .inr ⟨rfl,_,hu,.inr (.inl rfl)⟩
  ·rename_i hu;cases hf;exact .inr ⟨rfl,_,hu,.inr (.inr rfl)⟩
  ·rename_i fs hu;exact .inl ⟨fs,hu⟩
  ·cases hf
theorem Mq {P:Program} {Z:Nat→Nat}:∀ (d D:Nat) (t:TypeId) (ks:List Nat),yA P d t=some ks→d≤D→∀ (cJ bs:List IV) (us vs:List Value) (r:Bool),iB Z w cJ us→iB Z w bs vs→qC ks cJ bs=some r →
  (Op.equalIn D t (xG P t us) (xG P t vs)).run P w=.ok r w:=by
 intro d
 induction d with
 | zero=>intro D t ks hf;simp [yA] at hf
 | succ d ih=>
  intro D t ks hf hD cJ bs us vs r ha hb he
  cases D with
  | zero=>omega
  | succ D=>
   simp only [yA] at hf
   split at hf
   ·rename_i kk hu;cases hf;exact Jv hu (.inl ⟨rfl,kk,rfl⟩) ha hb he D
   ·rename_i hu;cases hf;exact Jv hu (.inr (.inl ⟨rfl,rfl⟩)) ha hb he D
   ·rename_i hu;cases hf;exact Jv hu (.inr (.inr ⟨rfl,rfl⟩)) ha hb he D
   ·rename_i fs hu
    split at hf
    ·cases hf
    ·rename_i hst
     have Db:P.stoodInHeld t=false:=by simpa using hst
     have hfo:P.fieldsOf t=fs:=by simp [Program.fieldsOf,hu]
     have hv:∀ l:List Value,xG P t l=.agg l.toArray:=fun l=>by simp [xG,hu]
     rw [hv,hv,run_equalIn_struct w D t _ _ (by rw [hfo];exact hu) Db,hfo]
     have key:∀ (fl:List Field) (n:Nat) (ks:List Nat) (r:Bool),Jl P (yA P d) n fl=some ks→n+ks.length≤us.length→n+ks.length≤vs.length→qC ks (cJ.drop n |>.take ks.length) (bs.drop n |>.take ks.length)=some r →
       (Op.eqFields D us.toArray vs.toArray fl).run P w=.ok r w:=by
      intro fl
      induction fl with
      | nil=>
       intro n ks r h1 _ _ h2
       simp [Jl] at h1
       subst h1
       simp [qC] at h2
       subst h2
       simp [Op.eqFields]
      | cons f fl Az=>
       intro n ks r h1 iE fY h2
       simp only [Jl] at h1
       split at h1
       ·rename_i hname
        split at h1
        ·rename_i kf Dc
         split at h1
         ·rename_i hsize
          split at h1
          ·rename_i rest ni
           cases h1
           simp only [uX] at iE fY
           obtain ⟨r1,r2,h3,h4,rfl⟩:=Jd h2
           obtain ⟨hn1,hn2⟩:=hname
           have gb:=FN (P:=P) (n:=kf.length) hsize w us f.offset (YY Dc) (by omega)
           have mq:=FN (P:=P) (n:=kf.length) hsize w vs f.offset (YY Dc) (by omega)
           have heq:=ih D f.type kf Dc (by omega) ((cJ.drop f.offset).take kf.length) ((bs.drop f.offset).take kf.length) ((us.drop f.offset).take kf.length) ((vs.drop f.offset).take kf.length) r1
            ((ha.drop _).take _) ((hb.drop _).take _) (by
             rw [hn2]
             simpa [List.take_take,Nat.min_eq_left (uN kf.length rest.length)] using h3)
           simp only [Op.eqFields,if_pos hn1,Sem.run_bind,gb,mq,Result.andThen_ok,heq,Sem.run_ite]
           cases r1 with
           | false=>simp
           | true=>
            simp only [Bool.not_true,ur,if_false,Bool.true_and]
            refine Az (n+kf.length) rest r2 ni (by omega) (by omega) ?_
            rw [←h4]
            congr 1
            ·rw [u5,u6];congr 1;simp
            ·rw [u5,u6];congr 1;simp
          ·cases h1
         ·cases h1
        ·cases h1
       ·cases h1
     obtain ⟨iE,fY⟩:=ZL he
     refine key fs.toList 0 ks r hf (by rw [←ha.1];omega) (by rw [←hb.1];omega) ?_
     rw [u7,u7,uQ (by omega),uQ (by omega)]
     exact he
   ·cases hf
theorem WR {x:AV} {v:Value} {l:List IV} (hx:Zq x=some l) (hv:RV C g h N w x v):∃ vs,v=.agg vs.toArray∧iB g.Z w l vs:=by
 unfold Zq at hx
 split at hx
 ·cases hx
  cases hv with
  | ak _ _ hr=>cases hr with | agg _ vs hl h1 hr=>exact ⟨vs,rfl,hl,hr⟩
 ·rename_i cs
  obtain ⟨h1,h2⟩:=qm hx
  cases hv with
  | agg _ vs hl h1' hr=>
   refine ⟨vs,rfl,by rw [h1];exact hl,fun j c u hj hu => ?_⟩
   have hlt:j < cs.length:=by rw [←h1];exact (ua.1 hj).1
   obtain ⟨c',eW,eX⟩:=h2 j cs[j] (by simp)
   rw [hj] at eW
   cases eW
   exact V8 eX (hr j cs[j] u (by simp) hu)
 ·cases hx
theorem Mr {x:AV} {v:Value} {l:List IV} (hx:Zq x=some l) (hv:RV C g h N w x v):RI g.Z w (.agg l) v:=by
 unfold Zq at hx
 split at hx
 ·cases hx
  cases hv with
  | ak _ _ hr=>exact hr
 ·rename_i cs
  obtain ⟨h1,h2⟩:=qm hx
  cases hv with
  | agg _ vs hl h1' hr=>
   refine .agg _ vs (by rw [h1];exact hl) h1' fun j c u hj hu => ?_
   have hlt:j < cs.length:=by rw [←h1];exact (ua.1 hj).1
   obtain ⟨c',eW,eX⟩:=h2 j cs[j] (by simp)
   rw [hj] at eW
   cases eW
   exact V8 eX (hr j cs[j] u (by simp) hu)
 ·cases hx
theorem Ms {o:Oper} {t:TypeId} {fs:Array Field} {x:Operand} (ho:o.op=.makeInterface t x) (ht:C.P.underlying t=some (.struct fs)):aP C o (.B1 t (C.bt x)):=by
 intro g h N w id ev val r aQ R hid hv he
 have hx:=hv x (by simp [ho,Op.operands])
 simp only [ap] at he
 split at he
 ·rename_i l e1
  simp only [Option.some.injEq,Prod.mk.injEq] at he
  obtain ⟨rfl,rfl⟩:=he
  exact ⟨.iface t (val x),w,.inl (by simp [execOp,ho,Instr.makeInterface,run_underlying ht]),zz R (.ak _ _ (.iface t _ _ (Mr e1 hx)))⟩
 ·cases he
theorem YZ {o:Oper} {t t':TypeId} {op:BinOp} {neg:Bool} {ks:List Nat} {fs:Array Field} {x y:Operand} (ho:o.op=.binOp op t x y t') (ht:C.P.underlying t=some (.struct fs))
  (hf:yA C.P 9 t=some ks) (hg:C.P.eqGuardType C.P.depth t=false) (hop:op=if neg then .neq else .eql):aP C o (.eqs neg ks (C.bt x) (C.bt y)):=by
 intro g h N w id ev val r aQ R hid hv he
 have hx:=hv x (by simp [ho,Op.operands])
 have hy:=hv y (by simp [ho,Op.operands])
 simp only [ap] at he
 split at he
 ·rename_i a b e1 e2
  split at he
  ·rename_i rr hr
   simp only [Option.some.injEq,Prod.mk.injEq] at he
   obtain ⟨rfl,rfl⟩:=he
   obtain ⟨us,FO,Mt⟩:=WR e1 hx
   obtain ⟨vs,lI,pJ⟩:=WR e2 hy
   have:=Mq (P:=C.P) (w:=w) 9 10000 t ks hf (by omega) a b us vs rr Mt pJ hr
   have FP:∀ l:List Value,xG C.P t l=.agg l.toArray:=fun l=>by simp [xG,ht]
   rw [FP,FP] at this
   refine ⟨.bool (if neg then !rr else rr),w,.inl ?_,zz R (.ak _ _ (.bool _))⟩
   subst hop
   cases neg with
   | false=>simp only [ur,if_false] at ho ⊢; simp [execOp,ho,FO,lI,run_eqGuard_agg w _ t x y _ _ hg,run_eql_struct,this]
   | true=>simp only [if_true] at ho ⊢; simp [execOp,ho,FO,lI,run_eqGuard_agg w _ t x y _ _ hg,run_neq_struct,this]
  ·cases he
 ·cases he
end
end
section
section
variable {C:Ctx} {g g':Gh} {h h':Nat→Option aI} {N N':Nat→Prop} {w w':World} {id:Nat}
def Gh.move (g:Gh) (i id b:Nat):Gh:=⟨fun k=>if k=id then some b else if k=i then none else g.ρ k,g.Z⟩
theorem Zw (R:RH C g h N w) (hid:¬ N id) {i mj:Nat} {eR:List (List AV)} (hi:h i=some (.af mj eR)) {b':Nat} {w1:World} {c':Array Value} {e':TypeId}
  (hos:w1.os=w.os) (tZ:w1.tape=w.tape) (hout:w1.output=w.output) (hsize:w.heap.size≤w1.heap.size) (iZ:∀ k,k < w.heap.size→k≠b'→w1.heap[k]?=w.heap[k]?)
  (hfresh:w.heap.size≤b'∨g.ρ i=some b') (hz:g.Z b'=0) (sG:w1.heap[b']?=some (.cells c' e' (0,0)))
  (sH:∀ (c:Array Value) (e:TypeId),w.heap[b']?=some (.cells c e (0,0))→∃ B0:Array Value,w1.heap[b']?=some (.cells B0 e (0,0))∧B0.size=c.size)
  {sz:Nat} {af:List (List AV)} (hrl:∀ (k:Nat) (row:List AV),af[k]?=some row→row.length=sz)
  (hrc:∀ (k:Nat) (row:List AV) (j:Nat) (x:AV),af[k]?=some row→row[j]?=some x→∃ cv,c'[k*sz+j]?=some cv∧cv.oneCell'=true∧RV C g h N w x cv)
  {len cap:Nat} (hlen:len=af.length) (AL:len≤cap) (hcap2:cap*sz≤c'.size) :
  Good C g h N w id (.Zag id 0 len) [(id,.af sz af),(i,.dead)] (.slice (some ⟨b',0,none⟩) len cap) w1:=by
 have hN:=R.key i _ hi
 have hne:i≠id:=fun e=>hid (e ▸ hN)
 have mG:∀ k,N k→k≠id:=fun k hk e=>hid (e ▸ hk)
 have ld:∀ k o,bK [(id,aI.af sz af),(i,.dead)] h k=some o→(k=id∧o=.af sz af)∨(k=i∧o=.dead)∨(k≠id∧k≠i∧h k=some o):=fun k o ho=>by
  simp only [bK] at ho
  split at ho
  ·rename_i e;cases ho;exact .inl ⟨e.symm,rfl⟩
  ·rename_i e
   split at ho
   ·rename_i e2;cases ho;exact .inr (.inl ⟨e2.symm,rfl⟩)
   ·rename_i e2;exact .inr (.inr ⟨fun e3=>e e3.symm,fun e3=>e2 e3.symm,ho⟩)
 have sI:∀ k b,g.ρ k=some b→k≠i→b≠b':=fun k b hk hki e=>by
  rcases hfresh with hf | hf
  ·have:=(R.lt k b hk).1;omega
  ·exact hki (R.inj k i b hk (e ▸ hf))
 have E:b9 g h N w (g.move i id b') (bK [(id,.af sz af),(i,.dead)] h) (qo N id) w1:={
  os:=hos
  tape:=tZ
  output:=hout
  size:=hsize
  old:=fun b hb ho=>⟨iZ b hb (fun e=>by
   rcases hfresh with hf | hf
   ·omega
   ·exact ho ⟨i,by rw [e];exact hf⟩),rfl⟩
  own:=fun b ⟨k,hk⟩=>by
   simp only [Gh.move] at hk
   split at hk
   ·cases hk
    rcases hfresh with hf | hf
    ·exact .inr hf
    ·exact .inl ⟨i,hf⟩
   ·split at hk
    ·cases hk
    ·exact .inl ⟨k,hk⟩
  cr:=fun _=>uc _
  cell:=lF.heap fun b ho=>iZ b (R.ed b ho) (fun e=>by subst e;omega)
  shape:=fun b c e hb=>by
   by_cases FQ:b=b'
   ·subst FQ;exact sH c e hb
   ·exact ⟨c,(iZ b (qd hb) FQ).trans hb,rfl⟩
  next:=fun k hk=>.inl hk
  ep:=fun k b hb o ho hnd hk=>by
   rcases ld k o ho with ⟨h1,h2⟩ | ⟨h1,h2⟩ | ⟨h1,h2,h3⟩
   ·exact absurd h1 (mG k hk)
   ·exact absurd h2 hnd
   ·exact .inl (by simp only [Gh.move];rw [if_neg h1,if_neg h2];exact hb)
  cI:=fun k hb hk o ho hnd=>by
   rcases ld k o ho with ⟨h1,h2⟩ | ⟨h1,h2⟩ | ⟨h1,h2,h3⟩
   ·exact absurd h1 (mG k hk)
   ·exact absurd h2 hnd
   ·exact .inl (by simp only [Gh.move];rw [if_neg h1,if_neg h2];exact hb)
  af:=fun k hk s r ho=>by
   rcases ld k _ ho with ⟨h1,h2⟩ | ⟨h1,h2⟩ | ⟨h1,h2,h3⟩
   ·exact absurd h1 (mG k hk)
   ·cases h2
   ·exact ⟨r,h3,rfl⟩
  cV:=fun k hk s l ho=>by
   rcases ld k _ ho with ⟨h1,h2⟩ | ⟨h1,h2⟩ | ⟨h1,h2,h3⟩
   ·cases h2
   ·cases h2
   ·exact ⟨l,h3,uc _⟩
  maps:=fun k hk es ho=>by
   rcases ld k _ ho with ⟨h1,h2⟩ | ⟨h1,h2⟩ | ⟨h1,h2,h3⟩
   ·cases h2
   ·cases h2
   ·exact ⟨es,h3⟩
  fH:=fun k hk ll RR s pe ho=>by
   rcases ld k _ ho with ⟨h1,h2⟩ | ⟨h1,h2⟩ | ⟨h1,h2,h3⟩
   ·cases h2
   ·cases h2
   ·exact ⟨s,pe,h3⟩}
 refine ⟨g.move i id b',E,⟨fun k l b hk hl => ?_,fun k b hk => ?_,fun k o ho => ?_,fun k b o hk ho => ?_,fun k s l ho hn => ?_,fun b hb=>uY (R.ed b hb) hsize,R.fix.eS E⟩,?_⟩
 ·simp only [Gh.move] at hk hl
  split at hk
  ·rename_i e1
   cases hk
   split at hl
   ·rename_i e2;rw [e1,e2]
   ·split at hl
    ·cases hl
    ·rename_i e2 e3;exact absurd rfl (sI l _ hl e3)
  ·rename_i e1
   split at hk
   ·cases hk
   ·rename_i e2
    split at hl
    ·cases hl;exact absurd rfl (sI k _ hk e2)
    ·split at hl
     ·cases hl
     ·exact R.inj k l b hk hl
 ·simp only [Gh.move] at hk
  split at hk
  ·rename_i e1;cases hk;exact ⟨qd sG,.inr e1⟩
  ·split at hk
   ·cases hk
   ·exact ⟨uY (R.lt k b hk).1 hsize,.inl (R.lt k b hk).2⟩
 ·rcases ld k o ho with ⟨h1,_⟩ | ⟨h1,_⟩ | ⟨_,_,h3⟩
  ·exact .inr h1
  ·exact .inl (h1 ▸ hN)
  ·exact .inl (R.key k o h3)
 ·rcases ld k o ho with ⟨h1,h2⟩ | ⟨h1,h2⟩ | ⟨h1,h2,h3⟩
  ·subst h2
   simp only [Gh.move,if_pos h1] at hk
   cases hk
   refine ⟨hz,c',e',sG,hrl,fun q row j x hq hj => ?_⟩
   obtain ⟨cv,a1,a2,a3⟩:=hrc q row j x hq hj
   exact ⟨cv,a1,a2,a3.mono E⟩
  ·subst h2;trivial
  ·simp only [Gh.move] at hk
   rw [if_neg h1,if_neg h2] at hk
   exact (R.obj k b o hk h3).keep E (iZ b (R.lt k b hk).1 (sI k b hk h2)) rfl
 ·rcases ld k _ ho with ⟨h1,h2⟩ | ⟨h1,h2⟩ | ⟨h1,h2,h3⟩
  ·cases h2
  ·cases h2
  ·simp only [Gh.move] at hn
   rw [if_neg h1,if_neg h2] at hn
   exact R.cP k s l h3 hn
 ·refine .Zag id 0 len _ (.inr rfl) rfl fun sz' ef ho => ?_
  simp only [bK,if_pos] at ho
  cases ho
  exact ⟨by omega,.inr ⟨b',cap,c',e',by simp [Gh.move],by simp,AL,sG,by simpa using hcap2⟩⟩
theorem Y0 (R:RH C g h N w) (hid:¬ N id) (sz:Nat):Good C g h N w id (.Zag id 0 0) [(id,.af sz [])] (.slice none 0 0) w:=by
 have ne:∀ i,N i→id≠i:=fun i hi e=>hid (e ▸ hi)
 have E:b9 g h N w g (bK [(id,.af sz [])] h) (qo N id) w:=
  ⟨rfl,rfl,rfl,uc _,fun _ _ _=>⟨rfl,rfl⟩,fun _ h=>.inl h,fun _=>uc _,⟨fun _ _ _=>rfl,fun _ _ _ _ _=>rfl⟩,fun b c e hb=>⟨c,hb,rfl⟩,fun _ h=>.inl h,fun i b hb _ _ _ _=>.inl hb,fun i hb _ _ _ _=>.inl hb,
   fun i hi s r ho=>⟨r,by simp only [bK] at ho;rwa [if_neg (ne i hi)] at ho,rfl⟩,fun i hi s r ho=>⟨r,by simp only [bK] at ho;rwa [if_neg (ne i hi)] at ho,uc _⟩,
   fun i hi r ho=>⟨r,by simp only [bK] at ho;rwa [if_neg (ne i hi)] at ho⟩,
   fun i hi l R s pe ho=>⟨s,pe,by simp only [bK] at ho;rwa [if_neg (ne i hi)] at ho⟩⟩
 have hn:=R.lK hid
 refine ⟨g,E,⟨R.inj,fun i b hb=>⟨(R.lt i b hb).1,.inl (R.lt i b hb).2⟩,fun i o ho => ?_,fun i b o hb ho => ?_,fun i s l ho hr => ?_,R.ed,R.fix.eS E⟩,?_⟩
 ·simp only [bK] at ho
  split at ho
  ·rename_i e;exact .inr e.symm
  ·exact .inl (R.key i o ho)
 ·simp only [bK] at ho
  split at ho
  ·rename_i e;subst e;rw [hn] at hb;cases hb
  ·exact (R.obj i b o hb ho).keep E rfl rfl
 ·simp only [bK] at ho
  split at ho
  ·cases ho
  ·exact R.cP i s l ho hr
 ·refine .Zag id 0 0 _ (.inr rfl) rfl fun s af ho => ?_
  simp only [bK,if_pos] at ho
  cases ho
  exact ⟨uc _,.inl ⟨hn,rfl,rfl⟩⟩
theorem FR {i len sz:Nat} {af:List (List AV)} {v:Value} (R:RH C g h N w) (hid:¬ N id) (hv:RV C g h N w (.Zag i 0 len) v) (ho:h i=some (.af sz af)) (hl:len=af.length):Good C g h N w id (.Zag id 0 len) [(id,.af sz af),(i,.dead)] v w:=by
 cases hv with
 | Zag _ _ _ _ hni h1 hp=>
  obtain ⟨h2,h3⟩:=hp sz af ho
  rcases h3 with ⟨a1,a2,a3⟩ | ⟨b,cap,c,e,b1,b2,b3,b4,b5⟩
  ·subst a2 a3 hl
   obtain ⟨g',E,H,hv⟩:=Y0 (id:=id) R hid sz
   have ne:i≠id:=fun e=>hid (e ▸ hni)
   have hh:∀ k o,bK [(id,aI.af sz []),(i,.dead)] h k=some o→(k=i∧o=.dead)∨(k≠i∧bK [(id,aI.af sz [])] h k=some o):=fun k o hk=>by
    simp only [bK] at hk ⊢
    split at hk
    ·rename_i e;subst e;cases hk;exact .inr ⟨fun e=>ne e.symm,by rw [if_pos rfl]⟩
    ·rename_i e
     split at hk
     ·rename_i e2;cases hk;exact .inl ⟨e2.symm,rfl⟩
     ·rename_i e2;exact .inr ⟨fun e3=>e2 e3.symm,by rw [if_neg e];exact hk⟩
   have ng:g'.ρ i=none:=by
    cases hr:g'.ρ i with
    | none=>rfl
    | some b=>
     have h4:=H.obj i b (.af sz []) hr (by simp only [bK];rw [if_neg (fun e=>ne e.symm)];exact ho)
     have h5:g'.ρ i=none:=by
      rcases E.cI i a1 hni (.af sz []) (by simp only [bK];rw [if_neg (fun e=>ne e.symm)];exact ho) (by simp) with h6 | ⟨_,_,_,_,_,h7,_⟩
      ·exact h6
      ·cases h7
     rw [h5] at hr;cases hr
   have E2:b9 g' (bK [(id,aI.af sz [])] h) (qo N id) w g' (bK [(id,aI.af sz []),(i,.dead)] h) (qo N id) w:={
    os:=rfl
    tape:=rfl
    output:=rfl
    size:=uc _
    old:=fun _ _ _=>⟨rfl,rfl⟩
    own:=fun _ h=>.inl h
    cr:=fun _=>uc _
    cell:=lF.refl _ _
    shape:=fun b c e h=>⟨c,h,rfl⟩
    next:=fun _ h=>h
    ep:=fun k b h _ _ _ _=>.inl h
    cI:=fun k h _ _ _ _=>.inl h
    af:=fun k _ s r hk=>by
     rcases hh k _ hk with ⟨_,h7⟩ | ⟨_,h7⟩
     ·cases h7
     ·exact ⟨r,h7,rfl⟩
    cV:=fun k _ s r hk=>by
     rcases hh k _ hk with ⟨_,h7⟩ | ⟨_,h7⟩
     ·cases h7
     ·exact ⟨r,h7,uc _⟩
    maps:=fun k _ r hk=>by
     rcases hh k _ hk with ⟨_,h7⟩ | ⟨_,h7⟩
     ·cases h7
     ·exact ⟨r,h7⟩
    fH:=fun k _ ll RR s pe hk=>by
     rcases hh k _ hk with ⟨_,h7⟩ | ⟨_,h7⟩
     ·cases h7
     ·exact ⟨s,pe,h7⟩}
   refine ⟨g',E.trans E2,⟨H.inj,H.lt,fun k o hk => ?_,fun k b o hb hk => ?_,fun k s l hk hr => ?_,H.ed,H.fix.eS E2⟩,hv.mono E2⟩
   ·rcases hh k o hk with ⟨h7,h8⟩ | ⟨h7,h8⟩
    ·subst h7;exact .inl hni
    ·exact H.key k o h8
   ·rcases hh k o hk with ⟨h7,h8⟩ | ⟨h7,h8⟩
    ·subst h8;trivial
    ·exact (H.obj k b o hb h8).keep E2 rfl rfl
   ·rcases hh k _ hk with ⟨h7,h8⟩ | ⟨h7,h8⟩
    ·cases h8
    ·exact H.cP k s l h8 hr
  ·subst hl b2
   have pK:=R.obj i b _ b1 ho
   simp only [dx] at pK
   obtain ⟨z0,c2,e2,c3,c4,c5⟩:=pK
   rw [b4] at c3
   cases c3
   have:=Zw (id:=id) (b':=b) (w1:=w) R hid ho rfl rfl rfl (uc _) (fun _ _ _=>rfl) (.inr b1) z0 b4 (fun c e hc=>⟨c,hc,rfl⟩) c4 c5 rfl b3 (by simpa using b5)
   simpa using this
theorem Mu {o:Oper} {t t' e:TypeId} {d:TypeDesc} {s x:Operand} {sz bI:Nat} {z:List AV} (ho:o.op=.call {callee:=.builtin .append,args := #[s,x],argTypes := #[t,t']})
  (ht:C.P.underlying t=some (.slice e)) (ht':C.P.underlying t'=some d) (hd:∀ k,d≠.int k) (hsz:zB C.P e=some sz) (hby:xF C.P e=some bI) (hz:qL C.P e=some z)
  (h0:0 < sz) (hzl:z.length=sz) (mE:0 < bI):Mk C o sz bI (C.bt s) (C.bt x):=by
 intro g h N w id ev val r aQ R hid hv he
 have hs:=hv s (by simp [ho,Op.operands,Call.operands])
 have hx:=hv x (by simp [ho,Op.operands,Call.operands])
 obtain ⟨i,zv,hi,iX,rfl⟩:=jX hz
 have hzs:zv.cells.size=sz:=by simpa using hzl
 have hsize:i.size=sz:=by simpa [zB,hi] using hsz
 have hbytes:i.bytes=bI:=by simpa [xF,hi] using hby
 subst hsize
 subst hbytes
 have exec:∀ v' w',(Builtin.append_ #[t,t'] o.type #[val s,val x]).run C.P w=.ok v' w'→pG C.P (execOp val o) w v' w':=fun v' w' hrun=>by
  refine .inl ?_
  simp [execOp,ho,resolve,invoke,builtin,hrun]
 unfold Wk at he
 split at he
 case h_2=>cases he
 rename_i new hnew
 split at he
 ·cases he
 rename_i hall
 have rC:∀ row∈new,row.length=i.size:=fun row hr=>by
  simp only [u0,u4] at hall
  have:=uw.1 hall row hr
  simpa using this
 obtain ⟨a,cp,C7,news,hn1,hn2,tY,AI⟩:=WQ R hnew hx rC
 have hsrc:Src C.P w i.size new.length (val x) news:=⟨⟨a,cp,C7⟩,hn1,hn2,fun w1 hw1=>AI C.P w1 hw1⟩
 have sJ:∀ (k:Nat) (row:List AV) (j:Nat) (y:AV),new[k]?=some row→row[j]?=some y→∃ u,news[k*i.size+j]?=some u∧u.oneCell'=true∧RV C g h N w y u:=fun k row j y hk hj=>by
  obtain ⟨u,h1,h2⟩:=tY k row j y hk hj
  exact ⟨u,h1,hn2 u (ue h1),h2⟩
 have lG:∀ (k:Nat) (row:List AV),new[k]?=some row→row.length=i.size:=fun k row hk=>rC row (ue hk)
 split at he
 ·rename_i q off len e1
  rw [e1] at hs
  split at he
  ·rename_i sz' af cR
   cases new with
   | nil=>
    split at he
    case isFalse=>cases he
    rename_i bT
    obtain ⟨rfl,rfl,hlen,hbound⟩:=bT
    simp only [Option.some.injEq,Prod.mk.injEq] at he
    obtain ⟨rfl,rfl⟩:=he
    have nj:=FR (id:=id) R hid hs cR hlen
    simp only [ut,Uc,List.append_nil]
    have hs0:=hs
    cases hs with
    | Zag _ _ _ _ hni hone hp=>
     obtain ⟨h3,h4⟩:=hp _ _ cR
     rcases h4 with ⟨hn,hr,hval⟩ | ⟨b,cap,c,e',hb,hval,hle,hw,hcap⟩
     ·subst hr
      have mC:len=0:=by simp at h3;omega
      have hrun:=kT (w:=w) (ty:=o.type) ht hi ht' hd (news:=news) (by simpa using hsrc)
      refine ⟨_,_,exec _ _ (by rw [hval];exact hrun),nj⟩
     ·have Mv:news=[]:=uh (by rw [hn1];simp)
      obtain ⟨⟨a9,Mw,Mx⟩,_,_,hread⟩:=hsrc
      have fZ:=hread w rfl
      have iH:(match d with | .int _=>true | _=>false)=false:=by cases d<;>first | rfl | exact absurd rfl (hd _)
      refine ⟨val s,w,exec _ _ ?_,nj⟩
      rw [hval]
      rw [Mx] at fZ ⊢
      simp only [ut] at fZ
      simp [Builtin.append_,run_underlying ht,sizeOf,typeInfo,hi,Builtin.lenOf,run_underlying ht',iH,hle,fZ,Mv,storeCells]
   | cons iC o5=>
    split at he
    ·rename_i bT
     obtain ⟨rfl,rfl,rfl,hbound⟩:=bT
     simp only [Option.some.injEq,Prod.mk.injEq] at he
     obtain ⟨rfl,rfl⟩:=he
     have hpos:0 < (iC::o5).length:=by simp
     cases hs with
     | Zag _ _ _ _ hni hone hp=>
      obtain ⟨h3,h4⟩:=hp _ _ cR
      have FT:(af++(iC::o5)).length=af.length+(iC::o5).length:=by simp
      have mH:(∀ (k:Nat) (row:List AV),af[k]?=some row→row.length=i.size)→∀ (k:Nat) (row:List AV),(af++(iC::o5))[k]?=some row→row.length=i.size:=fun hh k row hk=>by
       rw [uj] at hk
       split at hk
       ·exact hh k row hk
       ·exact lG _ row hk
      have mI:∀ (c':Array Value) ,(∀ (k:Nat) (row:List AV) (j:Nat) (y:AV),af[k]?=some row→row[j]?=some y→∃ u,c'[k*i.size+j]?=some u∧u.oneCell'=true∧RV C g h N w y u)→(∀ q u,news[q]?=some u→c'[af.length*i.size+q]?=some u) →
        ∀ (k:Nat) (row:List AV) (j:Nat) (y:AV),(af++(iC::o5))[k]?=some row→row[j]?=some y→∃ u,c'[k*i.size+j]?=some u∧u.oneCell'=true∧RV C g h N w y u:=fun c' hA hB k row j y hk hj=>by
       rw [uj] at hk
       split at hk
       ·exact hA k row j y hk hj
       ·rename_i hge
        obtain ⟨u,a1,a2,a3⟩:=sJ _ row j y hk hj
        refine ⟨u,?_,a2,a3⟩
        rw [←hB _ u a1]
        congr 1
        have:af.length*i.size≤k*i.size:=ud _ (by omega)
        rw [uz]
        omega
      rcases h4 with ⟨hn,hr,hval⟩ | ⟨b,cap,c,e',hb,hval,hle,hw,hcap⟩
      ·subst hr
       obtain ⟨cN,rest,eW,eX,hrun⟩:=kU (w:=w) (ty:=o.type) (olds:=[]) (L:=0) (cap:=0) (base:=none) ht hi iX ht' hd hval ⟨⟨none,0,hval⟩,by simp,by simp,fun w1 _=>by rw [hval];simp [Builtin.firstCells]⟩ hsrc (by simp) mE (by simpa using hbound)
       simp only [ux,List.nil_append] at hrun eW eX
       have sK:(news.toArray++rest).size=cN*i.size:=by
        simp only [uC,uD,hn1,eX,hzs]
        rw [←uf];congr 1;omega
       refine ⟨_,_,exec _ _ hrun,?_⟩
       have:=Zw (id:=id) (b':=w.heap.size) (w1:=w.drew.alloc (.cells (news.toArray++rest) e (0,0))) R hid cR rfl rfl rfl (by simp) (fun k hk _=>qF w.drew _ hk) (.inl (uc _)) R.mA (zX w.drew _)
        (fun c e hc=>by have:=qd hc;omega) (sz:=i.size) (af:=[]++(iC::o5)) (mH (fun k row hk=>by simp at hk)) (mI _ (fun k row j y hk=>by simp at hk) (fun q u hq=>by
         have hlt:q < news.length:=(ua.1 hq).1
         simp only [ut,uZ,ux]
         rw [uk (by simpa using hlt)]
         simpa using hq)) (len:=0+(iC::o5).length) (cap:=cN) (by simp) (by omega) (by omega)
       simpa using this
      ·obtain ⟨gX,c2,e2,pI,gZ,lf⟩:=R.obj q b _ hb cR
       rw [hw] at pI
       cases pI
       simp only [ux,uZ] at hcap hval
       by_cases hroom:af.length+(iC::o5).length≤cap
       ·have hm1:(af.length+(iC::o5).length)*i.size≤cap*i.size:=ud _ hroom
        have hfit:af.length*i.size+news.length≤c.size:=by rw [hn1,←uf];omega
        have hrun:=Js (P:=C.P) (w:=w) (ty:=o.type) ht hi ht' hd hw hsrc hroom hfit
        refine ⟨_,_,exec _ _ (by rw [hval];exact hrun),?_⟩
        refine Zw (id:=id) (b':=b) (w1:=zE w b (.cells (qw c (af.length*i.size) news) e' (0,0))) R hid cR rfl rfl rfl (by rw [jm];exact uc _) (fun k hk hne=>by rw [zI w b _ (qd hw),if_neg hne]) (.inr hb) gX (c':=qw c (af.length*i.size) news) (e':=e') (by rw [zI w b _ (qd hw)];simp)
         (fun c3 e3 nU=>by rw [hw] at nU;cases nU;exact ⟨_,by rw [zI w b _ (qd hw),if_pos rfl],jW _ _ _⟩) (mH gZ) (mI _ (fun k row j y hk hj => ?_) (fun p u mq => ?_)) (by simp) hroom (by rw [jW];exact hcap)
        ·obtain ⟨cv,a1,a2,a3⟩:=lf k row j y hk hj
         refine ⟨cv,?_,a2,a3⟩
         rw [xT c _ news hfit,if_neg ?_]
         ·exact a1
         ·have hk':k < af.length:=(ua.1 hk).1
          have hj':j < i.size:=by rw [←gZ k row hk];exact (ua.1 hj).1
          have:(k+1)*i.size≤af.length*i.size:=ud _ hk'
          rw [uf] at this
          omega
        ·have hlt:p < news.length:=(ua.1 mq).1
         rw [xT c _ news hfit,if_pos (by omega),show af.length*i.size+p - af.length*i.size=p by omega]
         exact mq
       ·have mF:cap < af.length+(iC::o5).length:=by omega
        have hcell:∀ k,k < af.length*i.size→∃ u,c[k]?=some u∧u.oneCell'=true:=fun k hk=>by
         have hi':k / i.size < af.length:=um (by rw [ui];exact hk)
         have hrow:af[k / i.size]?=some af[k / i.size]:=ub hi'
         have hj':k % i.size < (af[k / i.size]).length:=by rw [gZ _ _ hrow];exact uP _ h0
         obtain ⟨cv,a1,a2,_⟩:=lf _ _ (k % i.size) _ hrow (ub hj')
         refine ⟨cv,?_,a2⟩
         rw [←a1];congr 1
         have:=uH k i.size
         rw [ui] at this;omega
        obtain ⟨olds,rD,B4⟩:=yC (β:=Value) (uA (af.length*i.size)) (fun _ k u=>c[k]?=some u∧u.oneCell'=true) (fun j k hj=>by
         obtain ⟨nE,hj2⟩:=ua.1 hj
         simp at nE hj2
         subst hj2
         exact hcell j nE)
        have pL:olds.length=af.length*i.size:=by simpa using rD
        have mJ:∀ (k:Nat) (u:Value),olds[k]?=some u→c[k]?=some u∧u.oneCell'=true:=fun k u hk=>by
         have hlt:k < af.length*i.size:=by rw [←pL];exact (ua.1 hk).1
         exact B4 k k u (by simp [hlt]) hk
        have hold:Src C.P w i.size af.length (val s) olds:=⟨⟨_,cap,hval⟩,pL,fun u hu=>by
         obtain ⟨k,hk⟩:=un hu
         exact (mJ k u hk).2,fun w1 hw1=>by
         rw [hval]
         simp only [Builtin.firstCells]
         rw [←pL]
         refine run_loadCells_list (P:=C.P) w1 _ olds fun k u hk => ?_
         have:w1.heap[b]?=some (.cells c e' (0,0)):=by rw [hw1];exact hw
         rw [qW,qS this,ux]
         exact (mJ k u hk).1⟩
        obtain ⟨cN,rest,eW,eX,hrun⟩:=kU (w:=w) (ty:=o.type) ht hi iX ht' hd hval hold hsrc mF mE hbound
        have sK:((olds++news).toArray++rest).size=cN*i.size:=by
         simp only [uC,uD,uX,pL,hn1,eX,hzs]
         rw [←uf,←uf];congr 1;omega
        refine ⟨_,_,exec _ _ hrun,?_⟩
        refine Zw (id:=id) (b':=w.heap.size) (w1:=w.drew.alloc (.cells ((olds++news).toArray++rest) e (0,0))) R hid cR rfl rfl rfl (by simp) (fun k hk _=>qF w.drew _ hk) (.inl (uc _)) R.mA (zX w.drew _)
         (fun c3 e3 nU=>by have:=qd nU;omega) (mH gZ) (mI _ (fun k row j y hk hj => ?_) (fun p u mq => ?_)) (by simp) eW (by omega)
        ·obtain ⟨cv,a1,a2,a3⟩:=lf k row j y hk hj
         refine ⟨cv,?_,a2,a3⟩
         have hk':k < af.length:=(ua.1 hk).1
         have hj':j < i.size:=by rw [←gZ k row hk];exact (ua.1 hj).1
         have:(k+1)*i.size≤af.length*i.size:=ud _ hk'
         rw [uf] at this
         have hlt:k*i.size+j < olds.length:=by omega
         have fu:=(mJ (k*i.size+j) olds[k*i.size+j] (ub hlt)).1
         rw [a1] at fu
         cases fu
         rw [uk (by simp;omega),uS,uy hlt]
         exact ub hlt
        ·have hlt:p < news.length:=(ua.1 mq).1
         rw [uk (by simp;omega)]
         simp only [uS]
         rw [uv (by omega),←mq]
         congr 1;omega
    ·cases he
  ·cases he
 ·cases he
theorem My {o:Oper} {t t' e:TypeId} {d:TypeDesc} {s x:Operand} {sz bI:Nat} {z:List AV} (ho:o.op=.call {callee:=.builtin .append,args := #[s,x],argTypes := #[t,t']})
  (ht:C.P.underlying t=some (.slice e)) (ht':C.P.underlying t'=some d) (hd:∀ k,d≠.int k) (hsz:zB C.P e=some sz) (hby:xF C.P e=some bI) (hz:qL C.P e=some z)
  (h0:0 < sz) (hzl:z.length=sz) (mE:0 < bI):aP C o (.app sz bI (C.bt s) (C.bt x)):=by
 intro g h N w id ev val r aQ R hid hv he
 simp only [ap] at he
 split at he
 ·rename_i i off len e1
  rw [←e1] at he
  exact Mu ho ht ht' hd hsz hby hz h0 hzl mE g h N w id ev val r aQ R hid hv he
 ·exact Ml ho ht ht' hd hsz hby hz h0 hzl mE g h N w id ev val r aQ R hid hv he
end
end
section
section
variable {C:Ctx} {g g':Gh} {h h':Nat→Option aI} {N N':Nat→Prop} {w w':World} {id:Nat}
theorem FU {Z:Nat→Nat} {row:List IV} {af:List (List IV)} {v:Value} (hr:RI Z w (.slice (row::af)) v):∃ a n cap,v=.slice (some a) n cap:=by
 cases hr with
 | slice _ b off cap sz cv _ _ _ _ _=>exact ⟨_,_,_,rfl⟩
theorem Jj {P:Program} {t e:TypeId} (ht:P.underlying t=some (.slice e)) (w:World) (o:Option Addr) (n cap:Nat) :
  (Op.equal t (.slice o n cap) (.slice none 0 0)).run P w=.ok o.isNone w:=by
 have h:∀ d:Nat,(Op.equalIn (d+1) t (.slice o n cap) (.slice none 0 0)).run P w=.ok o.isNone w:=fun d=>by
  cases o<;>simp [Op.equalIn,run_underlying ht]
 exact h 9999
theorem Y1 {P:Program} {t e:TypeId} (ht:P.underlying t=some (.slice e)) (neg:Bool) (x y:Operand) (w:World) (o:Option Addr) (n cap:Nat) :
  ((do eqGuard (if neg then .neq else .eql) t x y (.slice o n cap) (.slice none 0 0);binOp (if neg then .neq else .eql) t (.slice o n cap) (.slice none 0 0):Sem Value)).run P w=.ok (.bool (if neg then o.isSome else o.isNone)) w:=by
 cases neg<;>simp [eqGuard,binOp,Jj ht]
theorem X4 {o:Oper} {t t' e:TypeId} {op:BinOp} {neg:Bool} {x y:Operand} (ho:o.op=.binOp op t x y t') (ht:C.P.underlying t=some (.slice e))
  (hop:op=if neg then .neq else .eql):aP C o (.fc neg (C.bt x) (C.bt y)):=by
 intro g h N w id ev val r aQ R hid hv he
 have hx:=hv x (by simp [ho,Op.operands])
 have hy:=hv y (by simp [ho,Op.operands])
 subst hop
 simp only [ap] at he
 split at he
 ·rename_i ey
  rw [ey] at hy
  have hcv:=xP hy
  have exec:∀ v,((do eqGuard (if neg then .neq else .eql) t x y (val x) (.slice none 0 0);binOp (if neg then .neq else .eql) t (val x) (.slice none 0 0):Sem Value)).run C.P w=.ok v w→(execOp val o).run C.P w=.ok (.value v) w:=fun v hr=>by
   simp only [Sem.run_bind] at hr
   simp only [execOp,ho,hcv,Sem.run_bind]
   generalize (eqGuard (if neg then BinOp.neq else .eql) t x y (val x) (.slice none 0 0)).run C.P w=r1 at hr ⊢
   cases r1 with
   | ok u w1=>
    simp only [Result.andThen_ok] at hr ⊢
    rw [hr];rfl
   | halt x w1=>simp [Result.andThen] at hr
  have og:∀ a n cap,val x=.slice (some a) n cap→AV.ak (.bool neg)=r→[]=aQ→∃ v w',pG C.P (execOp val o) w v w'∧Good C g h N w id r aQ v w':=fun a n cap hval hr hu=>by
   subst hr;subst hu
   have:=Y1 ht neg x y w (some a) n cap
   simp only [Option.isSome_some,Option.isNone_some] at this
   exact ⟨.bool neg,w,.inl (exec _ (by rw [hval,this];cases neg<;>rfl)),zz R (.ak _ _ (.bool _))⟩
  split at he
  ·rename_i e1
   rw [e1] at hx
   have hval:=xP hx
   simp only [Option.some.injEq,Prod.mk.injEq] at he
   obtain ⟨rfl,rfl⟩:=he
   have:=Y1 ht neg x y w none 0 0
   simp only [Option.isSome_none,Option.isNone_none] at this
   exact ⟨.bool (!neg),w,.inl (exec _ (by rw [hval,this];cases neg<;>rfl)),zz R (.ak _ _ (.bool _))⟩
  ·rename_i e1
   rw [e1] at hx
   generalize hval:val x=vx at hx
   simp only [Option.some.injEq,Prod.mk.injEq] at he
   cases hx with
   | cA a cap=>exact og _ _ _ hval he.1 he.2
  ·rename_i e1
   rw [e1] at hx
   simp only [Option.some.injEq,Prod.mk.injEq] at he
   cases hx with
   | ak _ _ hr=>
    obtain ⟨a,n,cap,hval⟩:=FU hr
    exact og a n cap hval he.1 he.2
  ·rename_i e1
   rw [e1] at hx
   simp only [Option.some.injEq,Prod.mk.injEq] at he
   cases hx with
   | aX _ _ _ hr _ _=>
    obtain ⟨a,n,cap,hval⟩:=FU hr
    exact og a n cap hval he.1 he.2
  ·cases he
 ·cases he
theorem Mz {Z:Nat→Nat} {af:List (List IV)} {b off cap sz a r:Nat} {cv:Nat→Nat→Value} (hcap:af.length≤cap) (hsz:∀ (i:Nat) (row:List IV),af[i]?=some row→row.length=sz)
  (hz:∀ (i:Nat) (row:List IV) (j:Nat) (c:IV),af[i]?=some row→row[j]?=some c→off+i*sz+j < Z b)
  (hc:∀ (i:Nat) (row:List IV) (j:Nat) (c:IV),af[i]?=some row→row[j]?=some c→w.cell? ⟨b,off+i*sz+j,none⟩=some (cv i j)∧(cv i j).oneCell'=true)
  (hr:∀ (i:Nat) (row:List IV) (j:Nat) (c:IV),af[i]?=some row→row[j]?=some c→RI Z w c (cv i j)) (har:a≤r) (hrl:r≤af.length) :
  RI Z w (.slice ((af.take r).drop a)) (.slice (some ⟨b,off+a*sz,none⟩) (r - a) (cap - a)):=by
 have hlen:((af.take r).drop a).length=r - a:=by simp;omega
 have dI:∀ (i:Nat) (row:List IV),((af.take r).drop a)[i]?=some row→af[a+i]?=some row:=fun i row hi=>by
  rw [uo,uJ] at hi
  split at hi
  ·exact hi
  ·cases hi
 rw [←hlen]
 refine .slice _ b _ (cap - a) sz (fun i j=>cv (a+i) j) (by rw [hlen];omega) (fun i row hi=>hsz _ row (dI i row hi)) (fun i row j c hi hj => ?_) (fun i row j c hi hj => ?_) (fun i row j c hi hj=>hr _ row j c (dI i row hi) hj)
 ·have:=hz _ row j c (dI i row hi) hj
  rw [uf] at this;omega
 ·have:=hc _ row j c (dI i row hi) hj
  rw [uf,←Nat.add_assoc] at this
  exact this
theorem MA {o:Oper} {t e:TypeId} {x:Operand} {lo hi:Option Operand} {sz:Nat} (ho:o.op=.slice t x lo hi none) (ht:C.P.underlying t=some (.slice e)) (hs:zB C.P e=some sz) :
  aP C o (.slc sz (C.bt x) (lo.map C.bt) (hi.map C.bt)):=by
 intro g h N w id ev val r aQ R hid hv he
 have hx:=hv x (by simp [ho,Op.operands])
 have key:∀ (af:List (List IV)),RI g.Z w (.slice af) (val x)→∀ (a b:Int),
   (match lo.map C.bt with | none=>some (0:Int) | some y=>match ev y with | .ak (.int _ n)=>some n | _=>none)=some a →
   (match hi.map C.bt with | none=>some (af.length:Int) | some y=>match ev y with | .ak (.int _ n)=>some n | _=>none)=some b →
   0≤a→a≤b→b≤(af.length:Int)→(af.all fun row=>row.length == sz)=true→r=.ak (.slice ((af.take b.toNat).drop a.toNat))→aQ=[] →
   ∃ v w',pG C.P (execOp val o) w v w'∧Good C g h N w id r aQ v w':=fun af gT a b ha hb h1 h2 h3 h4 hr hu=>by
  subst hr;subst hu
  obtain ⟨a,rfl⟩:=uO h1
  obtain ⟨b,rfl⟩:=uO (by omega:0≤b)
  simp only [Int.toNat_natCast]
  have hlo:∀ (y:Nat) (cd:BoundsCode),a≤y→∀ (Q:Option Value),Q=lo.map val→(match Q with | some v=>Instr.sliceBound v y cd | none=>pure 0:Sem Nat).run C.P w=.ok a w:=fun y cd hy Q hQ=>by
   cases hl:lo with
   | none=>
    rw [hl] at ha hQ
    simp only [uR,Option.some.injEq] at ha
    subst hQ
    have:a=0:=by omega
    subst this
    rfl
   | some z=>
    rw [hl] at ha hQ
    subst hQ
    simp only [uG] at ha ⊢
    have hz:=hv z (by simp [ho,hl,Op.operands])
    split at ha
    ·rename_i n e1
     cases ha
     rw [e1] at hz
     have:=wE hz
     simp [Instr.sliceBound,this,asIntOf,show (a:Int)≤(y:Int) by omega]
    ·cases ha
  have hhi:∀ (y:Nat) (cd:BoundsCode),b≤y→∀ (Q:Option Value),Q=hi.map val→(match Q with | some v=>Instr.sliceBound v y cd | none=>pure af.length:Sem Nat).run C.P w=.ok b w:=fun y cd hy Q hQ=>by
   cases hl:hi with
   | none=>
    rw [hl] at hb hQ
    simp only [uR,Option.some.injEq] at hb
    subst hQ
    have:b=af.length:=by omega
    subst this
    rfl
   | some z=>
    rw [hl] at hb hQ
    subst hQ
    simp only [uG] at hb ⊢
    have hz:=hv z (by simp [ho,hl,Op.operands])
    split at hb
    ·rename_i n e1
     cases hb
     rw [e1] at hz
     have:=wE hz
     simp [Instr.sliceBound,this,asIntOf,show (b:Int)≤(y:Int) by omega]
    ·cases hb
  have bounds:∀ cap,af.length≤cap→(Instr.sliceBounds true af.length cap (lo.map val) (hi.map val) none).run C.P w=.ok (a,b,cap) w:=fun cap hcap=>by
   have h5:=hhi cap .sliceAcap (by omega) _ rfl
   have h6:=hlo b .sliceB (by omega) _ rfl
   unfold Instr.sliceBounds
   cases hh:hi<;>cases hl:lo<;>simp only [hh,hl,uR,uG,Sem.run_pure,Result.ok.injEq,and_true] at h5 h6<;>simp [h5,h6]
  rcases Qr gT with ⟨rfl,hval⟩ | ⟨bb,off,cap,sz',cv,hval,hcap,hsz,sk,hc,hr⟩
  ·have hb0:b=0:=by simp at h3;omega
   have ha0:a=0:=by omega
   subst hb0;subst ha0
   rcases hval with hval | ⟨aa,cap,hval⟩
   ·refine ⟨.slice none 0 0,w,.inl ?_,zz R (by simpa using RV.ak (C:=C) (g:=g) (h:=h) (N:=N) _ _ RI.nil)⟩
    have hbd:=bounds 0 (by simp)
    simp only [ut] at hbd
    simp [execOp,ho,Instr.sliceAt,Instr.slice,run_underlying ht,hval,hbd,zU hs]
   ·have hbd:=bounds cap (by simp)
    simp only [ut] at hbd
    refine ⟨.slice (some (if cap=0 then aa else aa.add 0)) 0 cap,w,.inl ?_,zz R (by simpa using RV.ak (C:=C) (g:=g) (h:=h) (N:=N) _ _ vZ)⟩
    by_cases hca:cap=0
    ·subst hca
     simp [execOp,ho,Instr.sliceAt,Instr.slice,run_underlying ht,hval,hbd,zU hs]
    ·simp [execOp,ho,Instr.sliceAt,Instr.slice,run_underlying ht,hval,hbd,zU hs,hca]
  ·refine ⟨.slice (some (if cap=a then ⟨bb,off,none⟩ else ⟨bb,off+a*sz,none⟩)) (b - a) (cap - a),w,.inl ?_,zz R (.ak _ _ ?_)⟩
   ·have hbd:=bounds cap hcap
    by_cases hca:cap=a
    ·subst hca
     simp [execOp,ho,Instr.sliceAt,Instr.slice,run_underlying ht,hval,hbd,zU hs]
    ·simp [execOp,ho,Instr.sliceAt,Instr.slice,run_underlying ht,hval,hbd,zU hs,hca,qW]
   ·by_cases hca:cap=a
    ·rw [if_pos hca]
     have hba:b - a=0:=by omega
     have hl:((af.take b).drop a)=[]:=uh (by simp;omega)
     rw [hl,hba]
     exact vZ
    ·rw [if_neg hca]
     by_cases fZ:af=[]
     ·subst fZ
      have hb0:b=0:=by simp at h3;omega
      subst hb0
      simp
      exact vZ
     ·have hs0:sz'=sz:=by
       cases af with
       | nil=>exact absurd rfl fZ
       | cons row rest=>
        have h7:=hsz 0 row rfl
        have h8:=uw.1 h4 row List.mem_cons_self
        simp at h8
        omega
      subst hs0
      exact Mz hcap hsz sk hc hr (by omega) (by omega)
 simp only [ap] at he
 split at he
 ·rename_i af e1
  rw [e1] at hx
  split at he
  ·rename_i a b ha hb
   split at he
   ·rename_i bT
    simp only [Option.some.injEq,Prod.mk.injEq] at he
    cases hx with
    | ak _ _ gT=>exact key af gT a b ha hb bT.1 bT.2.1 bT.2.2.1 bT.2.2.2 he.1.symm he.2.symm
   ·cases he
  ·cases he
 ·rename_i j af e1
  rw [e1] at hx
  split at he
  ·rename_i a b ha hb
   split at he
   ·rename_i bT
    simp only [Option.some.injEq,Prod.mk.injEq] at he
    cases hx with
    | aX _ _ _ gT _ _=>exact key af gT a b ha hb bT.1 bT.2.1 bT.2.2.1 bT.2.2.2 he.1.symm he.2.symm
   ·cases he
  ·cases he
 ·cases he
end
end
section
section
variable {C:Ctx} {g g':Gh} {h h':Nat→Option aI} {N N':Nat→Prop} {w w':World} {id:Nat}
theorem MC {o:Oper} {x:Operand} (ho:o.op=.nilCheck x):aP C o (.mz (C.bt x)):=by
 intro g h N w id ev val r aQ R hid hv he
 have hx:=hv x (by simp [ho,Op.operands])
 simp only [ap] at he
 split at he
 ·rename_i i r o e1
  rw [e1] at hx
  split at he
  ·rename_i sz af cR
   cases he
   have hx':=hx
   cases hx with
   | ptr _ _ _ _ hni hone hp=>
    obtain ⟨b,hb,hval⟩:=hp _ _ cR
    refine ⟨val x,w,.inl ?_,zz R hx'⟩
    simp [execOp,ho,hval]
  ·cases he
 ·rename_i cs e1
  rw [e1] at hx
  cases he
  have hx':=hx
  generalize hval:val x=v at hx hx'
  cases hx with
  | cD _ b off cv hz hc hr=>
   exact ⟨_,w,.inl (by simp [execOp,ho,hval]),zz R hx'⟩
 ·rename_i f a b e1
  rw [e1] at hx
  cases he
  have hx':=hx
  generalize hval:val x=v at hx hx'
  cases hx with
  | func _ _ _ vf vc hlf hlc hf hc=>
   exact ⟨_,w,.inl (by simp [execOp,ho,hval]),zz R hx'⟩
 ·cases he
theorem MD {o:Oper} {t e:TypeId} {x ix:Operand} {sz n:Nat} (ho:o.op=.index t x ix) (ht:C.P.underlying t=some (.array n e)) (hn:zB C.P e=some sz) (hag:jH C.P e=some false) :
  aP C o (.ixa n sz (C.bt x) (C.bt ix)):=by
 intro g h N w id ev val r aQ R hid hv he
 have hx:=hv x (by simp [ho,Op.operands])
 have hi:=hv ix (by simp [ho,Op.operands])
 simp only [ap] at he
 split at he
 ·rename_i k m cs e1 e2
  rw [e1] at hi
  rw [e2] at hx
  have iP:=wE hi
  split at he
  ·rename_i hle
   obtain ⟨rfl,gV,fQ⟩:=hle
   rw [ug] at he
   obtain ⟨c,hc,he⟩:=he
   cases he
   generalize hval:val x=v at hx
   cases hx with
   | agg _ vs hl h1 hr=>
    have hlt:m.toNat < vs.length:=by rw [←hl];exact (ua.1 hc).1
    refine ⟨vs[m.toNat],w,.inl ?_,zz R (hr _ _ _ hc (by simp))⟩
    have hg:vs.toArray[m.toNat]?=some (vs[m.toNat]'hlt):=by simp
    have hp:(part e vs.toArray m.toNat).run C.P w=.ok vs[m.toNat] w:=by
     simp only [part,Sem.run_bind,wb hag,Result.andThen_ok,ur,if_false,hg,Sem.run_pure]
    simp [execOp,ho,Instr.index,iP,asIntOf,run_underlying ht,hval,gV,fQ,zU hn,hp]
  ·cases he
 ·cases he
theorem WS {o:Oper} {t:TypeId} {parts:Array (Nat×Operand)} {n sz:Nat} {e:TypeId} {z:List AV} (ho:o.op=.build t parts)
  (ht:C.P.underlying t=some (.array n e)) (hz:qL C.P t=some z) (hsz:zB C.P e=some sz)
  (h1:∀ i v,C.P.info? t=some i→i.zero=some v→xm v=true):aP C o (.build z (parts.toList.map fun p=>(p.1*sz,sz,C.bt p.2))):=by
 intro g h N w id ev val r aQ R hid hv he
 obtain ⟨i,zv,hi,iX,rfl⟩:=jX hz
 have hone:=h1 i zv hi iX
 simp only [ap] at he
 split at he
 ·rename_i qs AG
  split at he
  ·rename_i out hout
   simp only [Option.some.injEq,Prod.mk.injEq] at he
   obtain ⟨rfl,rfl⟩:=he
   have oc:aY (fun p:Nat×Operand=>match (fun i=>some (i*sz,sz):Nat→Option (Nat×Nat)) p.1 with
     | some (o,n)=>some (o,n,C.bt p.2)
     | none=>none) parts.toList=some (parts.toList.map fun p=>(p.1*sz,sz,C.bt p.2)):=by
    generalize parts.toList=l
    induction l with
    | nil=>rfl
    | cons a l ih=>simp only [aY,ih,List.map_cons]
   obtain ⟨c',h2,h3⟩:=X2 (C:=C) (g:=g) (h:=h) (N:=N) (w:=w) (fun i=>some (i*sz,sz)) ev val parts.toList _ qs _ out zv.cells oc AG
    (fun p hp=>hv p.2 (by simp only [ho,Op.operands];simp;exact ⟨p.1,by simpa using hp⟩)) (Zv hone) hout
   refine ⟨.agg c',w,.inl ?_,zz R ?_⟩
   ·have h2':Instr.fill (fun i=>some (i*sz,sz)) zv.cells (List.map (fun p=>(p.fst,val p.snd)) parts.toList)=some c':=h2
    simp [execOp,ho,Instr.build,zeroValue,typeInfo,hi,iX,run_underlying ht,zU hsz,h2']
   ·have:=RV.agg (C:=C) (g:=g) (h:=h) (N:=N) (w:=w) out c'.toList (by simpa using h3.1) (fun v hv=>by
     obtain ⟨j,hj⟩:=un hv
     have hlt:j < out.length:=by rw [h3.1];simpa using (ua.1 hj).1
     obtain ⟨u,hu,h4,_⟩:=h3.2 j out[j] (by simp)
     simp only [uT] at hj
     rw [hj] at hu;cases hu;exact h4) (fun j x v hj hj'=>by
     obtain ⟨u,hu,_,h5⟩:=h3.2 j x hj
     simp only [uT] at hj'
     rw [hj'] at hu;cases hu;exact h5)
    simpa using this
  ·cases he
 ·cases he
theorem aP.like {o o':Oper} {ao:dc} (hs:aP C o' ao) (h1:o.op.operands=o'.op.operands) (h2:∀ val,execOp val o=execOp val o'):aP C o ao:=by
 intro g h N w id ev val r aQ R hid hv he
 obtain ⟨v,w',h3,h4⟩:=hs g h N w id ev val r aQ R hid (fun x hx=>hv x (by rw [h1];exact hx)) he
 exact ⟨v,w',by rw [h2];exact h3,h4⟩
theorem Y2 {o:Oper} {str:Bool} {t kt et:TypeId} {m k v:Operand} {d:TypeDesc} (ho:o.op=.insert t m k v)
  (ht:C.P.underlying t=some (.map kt et)) (o4:C.P.underlying kt=some d) (hd:kG str d) :
  aP C o (.upd str (C.bt m) (C.bt k) (C.bt v)):=
 aP.like (o':={o with op:=.mapUpdate t m k v}) (Jq rfl ht o4 hd) (by simp [ho,Op.operands]) (fun val=>by simp only [execOp,ho])
theorem zdt {o:Oper} {t e:TypeId} {ts:Array TypeId} {d x:Operand} {sz:Nat} (ho:o.op=.call {callee:=.builtin .copy,args := #[d,x],argTypes:=ts}) (h0:ts[0]?=some t)
  (ht:C.P.underlying t=some (.slice e)) (hn:zB C.P e=some sz):aP C o (.copy sz (C.bt d) (C.bt x)):=by
 intro g h N w id ev val r aQ R hid hv he
 have hd:=hv d (by simp [ho,Op.operands,Call.operands])
 have hx:=hv x (by simp [ho,Op.operands,Call.operands])
 simp only [ap,B2] at he
 split at he
 ·rename_i i len e1
  rw [e1] at hd
  split at he
  ·rename_i sz' af cR
   split at he
   ·rename_i new hnew
    split at he
    ·rename_i bT
     obtain ⟨hs1,iE,fY,hall⟩:=bT
     subst hs1
     simp only [Option.some.injEq,Prod.mk.injEq] at he
     obtain ⟨rfl,rfl⟩:=he
     have hsz:∀ row∈new,row.length=sz':=fun row hr=>by simpa using uw.1 hall row hr
     obtain ⟨a,cap,hval,news,hn1,hn2,tY,AI⟩:=WQ R hnew hx hsz
     generalize FV:val d=vd at hd
     cases hd with
     | Zag _ _ _ _ hni hone hp=>
      obtain ⟨_,h2⟩:=hp _ _ cR
      have hf:=AI C.P w rfl
      rw [hval] at hf
      rcases h2 with ⟨_,fZ,nG⟩ | ⟨b,cap',c,e',hb,nG,hle,hw,hcap⟩
      ·subst fZ nG
       have AM:len=0:=by simpa using iE
       subst AM
       have AN:new=[]:=uh fY
       subst AN
       refine ⟨.int .i64 0,w,.inl ?_,?_⟩
       ·simp [execOp,ho,resolve,invoke,builtin,Builtin.copy_,FV,hval,h0,run_underlying ht,Builtin.lenOf,zU hn,goInt] at hf ⊢
        simp [hf]
       ·have hne:g.ρ i=none∨∃ b,g.ρ i=some b:=by cases g.ρ i<;>simp
        have e0:bK [(i,aI.af sz' [])] h=h:=by
         funext k;simp only [bK];split
         ·rename_i e;subst e;exact cR.symm
         ·rfl
        refine ⟨g,?_,?_,.ak _ _ (.int _ _)⟩
        ·rw [e0];exact b9.add g h N w id
        ·rw [e0];exact R.add id
      ·subst nG
       obtain ⟨w',hs1,hs2⟩:=Jm (id:=id) R hb cR (by omega) hsz news hn1 hn2 tY (.ak (.int .i64 (len:Int))) (.int .i64 (len:Int)) (fun _ _ _ _=>.ak _ _ (.int _ _))
       refine ⟨_,w',.inl ?_,hs2⟩
       rw [fY] at hf hval
       simp [execOp,ho,resolve,invoke,builtin,Builtin.copy_,FV,hval,h0,run_underlying ht,Builtin.lenOf,zU hn,goInt,hf,hs1]
    ·cases he
   ·cases he
  ·cases he
 ·cases he
end
end
section
section
variable {C:Ctx} {g g':Gh} {h h':Nat→Option aI} {N N':Nat→Prop} {w w':World} {id:Nat}
theorem ME (R:RH C g h N w) {x:AV} {v:Value} {b:Bool} (he:vD h x=some b) (hv:RV C g h N w x v):∃ o:Option Nat,v=.map o∧o.isNone=b:=by
 unfold vD at he
 split at he
 ·rename_i i
  split at he
  ·rename_i es cR
   cases he
   cases hv with
   | map _ _ hni hone hp=>
    obtain ⟨b,hb,hval⟩:=hp _ cR
    exact ⟨some b,hval,rfl⟩
  ·cases he
 ·cases he
  cases hv with
  | ak _ _ hr=>cases hr with | eZ _ b=>exact ⟨some b,rfl,rfl⟩
 ·cases he
  cases hv with
  | ak _ _ hr=>cases hr with | dl=>exact ⟨none,rfl,rfl⟩
 ·cases he
theorem X1 {P:Program} {t k e:TypeId} (ht:P.underlying t=some (.map k e)) (w:World) (o:Option Nat) :
  (Op.equal t (.map o) (.map none)).run P w=.ok o.isNone w:=by
 have h:∀ d:Nat,(Op.equalIn (d+1) t (.map o) (.map none)).run P w=.ok o.isNone w:=fun d=>by
  cases o<;>simp [Op.equalIn,run_underlying ht]
 exact h 9999
theorem MF {P:Program} {t k e:TypeId} (ht:P.underlying t=some (.map k e)) (neg:Bool) (x y:Operand) (w:World) (o:Option Nat) :
  ((do eqGuard (if neg then .neq else .eql) t x y (.map o) (.map none);binOp (if neg then .neq else .eql) t (.map o) (.map none):Sem Value)).run P w=.ok (.bool (if neg then !o.isNone else o.isNone)) w:=by
 cases neg<;>simp [eqGuard,binOp,X1 ht]
theorem WT {o:Oper} {t t' kt et:TypeId} {op:BinOp} {neg:Bool} {x y:Operand} (ho:o.op=.binOp op t x y t') (ht:C.P.underlying t=some (.map kt et))
  (hop:op=if neg then .neq else .eql):aP C o (.eqnm neg (C.bt x) (C.bt y)):=by
 intro g h N w id ev val r aQ R hid hv he
 have hx:=hv x (by simp [ho,Op.operands])
 have hy:=hv y (by simp [ho,Op.operands])
 subst hop
 simp only [ap] at he
 split at he
 ·rename_i b ey en
  rw [ey] at hy
  have hcv:val y=.map none:=by
   generalize val y=vy at hy
   cases hy with
   | ak _ _ hr=>cases hr with | dl=>rfl
  obtain ⟨om,hval,MG⟩:=ME R en hx
  simp only [Option.some.injEq,Prod.mk.injEq] at he
  obtain ⟨rfl,rfl⟩:=he
  have exec:∀ v,((do eqGuard (if neg then .neq else .eql) t x y (val x) (.map none);binOp (if neg then .neq else .eql) t (val x) (.map none):Sem Value)).run C.P w=.ok v w→(execOp val o).run C.P w=.ok (.value v) w:=fun v hr=>by
   simp only [Sem.run_bind] at hr
   simp only [execOp,ho,hcv,Sem.run_bind]
   generalize (eqGuard (if neg then BinOp.neq else .eql) t x y (val x) (.map none)).run C.P w=r1 at hr ⊢
   cases r1 with
   | ok u w1=>
    simp only [Result.andThen_ok] at hr ⊢
    rw [hr];rfl
   | halt x w1=>simp [Result.andThen] at hr
  refine ⟨.bool (if neg then !b else b),w,.inl (exec _ ?_),zz R (.ak _ _ (.bool _))⟩
  rw [hval,MF ht neg x y w om,MG]
 ·cases he
theorem KX {x:AV} {v:Value} {cs:List AV} (hx:Wj x=some cs) (hv:RV C g h N w x v):∃ vs:List Value,v=.agg vs.toArray∧cs.length=vs.length∧(∀ u∈vs,u.oneCell'=true) ∧
  ∀ (i:Nat) (c:AV) (u:Value),cs[i]?=some c→vs[i]?=some u→RV C g h N w c u:=by
 unfold Wj at hx
 split at hx
 ·cases hx
  cases hv with
  | ak _ _ hr=>
   cases hr with
   | agg _ vs hl h1 hr=>
    refine ⟨vs,rfl,by simpa using hl,h1,fun i c u hc hu => ?_⟩
    rw [ul,ug] at hc
    obtain ⟨y,hy,rfl⟩:=hc
    exact .ak _ _ (hr i y u hy hu)
 ·cases hx
  cases hv with
  | agg _ vs hl h1 hr=>exact ⟨vs,rfl,hl,h1,hr⟩
 ·cases hx
theorem MH {o:Oper} {s:TypeId} {x:Operand} {f n:Nat} {ag:Bool} {fs:Array Field} {fd:Field} (ho:o.op=.field s x f) (hs:C.P.underlying s=some (.struct fs)) (hf:fs[f]?=some fd)
  (hn:zB C.P fd.type=some n) (hag:jH C.P fd.type=some ag) (hn0:n≠0):aP C o (.cut ag fd.offset n (C.bt x)):=by
 intro g h N w id ev val r aQ R hid hv he
 have hx:=hv x (by simp [ho,Op.operands])
 simp only [ap] at he
 split at he
 ·rename_i cs e1
  obtain ⟨vs,hval,hl,h1,hr⟩:=KX e1 hx
  split at he
  ·rename_i hle
   cases ag with
   | true=>
    simp only [if_true,Option.some.injEq,Prod.mk.injEq] at he
    obtain ⟨rfl,rfl⟩:=he
    refine ⟨.agg ((vs.drop fd.offset).take n).toArray,w,.inl ?_,zz R ?_⟩
    ·have e2:vs.toArray.extract fd.offset (fd.offset+n)=((vs.drop fd.offset).take n).toArray:=by
      simp [List.extract_toArray,uK]
     simp [execOp,ho,Instr.field,run_underlying hs,hf,hval,part,asAgg,wb hag,zU hn,e2]
    ·refine .agg _ _ (by simp [hl]) (fun u hu=>h1 u (List.mem_of_mem_drop (List.mem_of_mem_take hu))) fun i c u hc hu => ?_
     rw [uJ] at hc hu
     split at hc
     ·rename_i hi
      rw [if_pos hi] at hu
      rw [uo] at hc hu
      exact hr _ c u hc hu
     ·cases hc
   | false=>
    simp only [ur,if_false,ug] at he
    obtain ⟨c,hc,he⟩:=he
    simp only [Prod.mk.injEq] at he
    obtain ⟨rfl,rfl⟩:=he
    have hlt:fd.offset < vs.length:=by omega
    refine ⟨vs[fd.offset],w,.inl ?_,zz R (hr _ c _ hc (by simp))⟩
    simp [execOp,ho,Instr.field,run_underlying hs,hf,hval,part,asAgg,wb hag,hlt]
  ·cases he
 ·cases he
end
end
section
section
variable {C:Ctx}
theorem WU (o:Oper) (f:bD) (args:List bD):aP C o (.call f args):=by
 intro g h N w id ev val r aQ R hid hv he
 simp [ap] at he
theorem MI {o:Oper} {op:BinOp} {t t':TypeId} {x y:Operand} {ao:dc} (ho:o.op=.binOp op t x y t') (hc:Xt C op t x y=some ao):aP C o ao:=by
 unfold Xt at hc
 split at hc
 ·cases hc;exact YU ho
 ·cases hc;exact YU ho
 ·rename_i hu
  split at hc
  ·cases hc;exact YV (neg:=false) ho hu rfl
  ·cases hc;exact YV (neg:=true) ho hu rfl
  ·cases hc
 ·rename_i e hu
  split at hc
  ·cases hc;exact X4 (neg:=false) ho hu rfl
  ·cases hc;exact X4 (neg:=true) ho hu rfl
  ·cases hc
 ·rename_i kt et hu
  split at hc
  ·cases hc;exact WT (neg:=false) ho hu rfl
  ·cases hc;exact WT (neg:=true) ho hu rfl
  ·cases hc
 ·rename_i fs hu
  split at hc
  ·rename_i ks hks
   split at hc
   ·cases hc
   ·rename_i hg
    have hg':C.P.eqGuardType C.P.depth t=false:=by simpa using hg
    split at hc
    ·cases hc;exact YZ (neg:=false) ho hu hks hg' rfl
    ·cases hc;exact YZ (neg:=true) ho hu hks hg' rfl
    ·cases hc
  ·cases hc
 ·cases hc
theorem Wl {o:Oper} {b:Builtin} {args:Array Operand} {ts:Array TypeId} {ao:dc} (ho:o.op=.call {callee:=.builtin b,args,argTypes:=ts}) (hc:yB C b args.toList ts.toList=some ao):aP C o ao:=by
 obtain ⟨args⟩:=args
 obtain ⟨ts⟩:=ts
 simp only at hc
 unfold yB at hc
 split at hc
 ·split at hc
  ·rename_i hu;cases hc;exact LU ho hu
  ·rename_i hu;cases hc;exact LV ho hu
  ·rename_i hu;cases hc;exact LW ho hu
  ·cases hc
 ·cases hc;exact FD (mx:=true) ho
 ·cases hc;exact FD (mx:=false) ho
 ·split at hc
  ·rename_i e e2 hu o3
   split at hc
   ·rename_i sz bI z h1 h2 h3
    split at hc
    ·rename_i bT
     cases hc
     exact My ho hu o3 (fun k=>by simp) h1 h2 h3 bT.1 bT.2.1 bT.2.2
    ·cases hc
   ·cases hc
  ·cases hc
 ·rename_i d x t r
  split at hc
  ·rename_i e hu
   split at hc
   ·rename_i sz h1;cases hc;exact zdt ho (by simp) hu h1
   ·cases hc
  ·cases hc
 ·cases hc
theorem FW {o:Oper} {ao:dc} (hc:yO C o.op=some ao):aP C o ao:=by
 unfold yO at hc
 split at hc
 ·rename_i x ho;cases hc;exact YR (.inl ho)
 ·rename_i x ho;cases hc;exact YR (.inr ho)
 ·rename_i c a b ho;cases hc;exact LG ho
 ·rename_i t ho
  split at hc
  ·rename_i n e hu
   split at hc
   ·rename_i sz z h1 h2
    split at hc
    ·rename_i bT;cases hc;exact kx (e:=e) ho h2 bT.1 (xU h2)
    ·cases hc
   ·cases hc
  ·split at hc
   ·rename_i z h2;cases hc;exact LH ho h2 (xU h2)
   ·cases hc
  ·cases hc
 ·rename_i t x ho
  split at hc
  ·cases hc;exact LI ho
  ·cases hc
 ·rename_i t parts ho
  split at hc
  ·rename_i fs z hu hz
   split at hc
   ·rename_i ps hps
    split at hc
    ·rename_i hs;cases hc;exact L6 ho hu hz (xU hz) hs hps
    ·cases hc
   ·cases hc
  ·rename_i n e z hu hz
   split at hc
   ·rename_i sz hs;cases hc;exact WS ho hu hz hs (xU hz)
   ·cases hc
  ·cases hc
 ·rename_i t len parts ho
  split at hc
  ·rename_i e hu
   split at hc
   ·rename_i sz z h1 h2
    split at hc
    ·rename_i bT;cases hc;exact Ma ho hu h1 h2 bT.1 bT.2.1 bT.2.2 (xU h2)
    ·cases hc
   ·cases hc
  ·cases hc
 ·rename_i t a ho
  split at hc
  ·rename_i ag n h1 h2;cases hc;exact LJ ho h1 h2
  ·cases hc
 ·rename_i t a v ho
  split at hc
  ·rename_i n h1;cases hc;exact LK ho h1
  ·cases hc
 ·rename_i s x f ho
  split at hc
  ·rename_i fs hu
   split at hc
   ·rename_i fd hf
    split at hc
    ·rename_i n hn
     split at hc
     ·cases hc
     ·rename_i hn0;cases hc;exact LM ho hu hf hn hn0
    ·cases hc
   ·cases hc
  ·cases hc
 ·rename_i s x f ho
  split at hc
  ·rename_i fs hu
   split at hc
   ·rename_i fd hf
    split at hc
    ·rename_i n ag hn hag
     split at hc
     ·cases hc
     ·rename_i hn0;cases hc;exact MH ho hu hf hn hag hn0
    ·cases hc
   ·cases hc
  ·cases hc
 ·rename_i t x i ho
  split at hc
  ·rename_i e hu
   split at hc
   ·rename_i sz h1;cases hc;exact LN ho hu h1
   ·cases hc
  ·rename_i n e hu
   split at hc
   ·rename_i sz h1;cases hc;exact LO ho hu h1
   ·cases hc
  ·cases hc
 ·rename_i op t x y t' ho;exact MI ho hc
 ·rename_i t x ho;cases hc;exact LQ ho
 ·rename_i t x ho;cases hc;exact LR ho
 ·rename_i s d x ho
  split at hc
  ·rename_i k0 k h1 h2;cases hc;exact LS ho h1 h2
  ·cases hc
 ·rename_i x i ho;cases hc;exact LX ho
 ·rename_i f first bC ho
  split at hc
  ·rename_i i hi;cases hc;exact LY ho hi
  ·cases hc
 ·rename_i t ho;cases hc;exact LZ ho
 ·rename_i t m k ok ho
  split at hc
  ·rename_i kt et hu
   split at hc
   ·rename_i kk i hk hi
    split at hc
    ·rename_i z hz;cases hc;exact WP (str:=false) ho hu hk ⟨kk,rfl⟩ hi hz
    ·cases hc
   ·rename_i i hk hi
    split at hc
    ·rename_i z hz;cases hc;exact WP (str:=true) ho hu hk rfl hi hz
    ·cases hc
   ·cases hc
  ·cases hc
 ·rename_i t m k v ho
  split at hc
  ·rename_i kt et hu
   split at hc
   ·rename_i kk hk;cases hc;exact Jq (str:=false) ho hu hk ⟨kk,rfl⟩
   ·rename_i hk;cases hc;exact Jq (str:=true) ho hu hk rfl
   ·cases hc
  ·cases hc
 ·rename_i t m k v ho
  split at hc
  ·rename_i kt et hu
   split at hc
   ·rename_i kk hk;cases hc;exact Y2 (str:=false) ho hu hk ⟨kk,rfl⟩
   ·rename_i hk;cases hc;exact Y2 (str:=true) ho hu hk rfl
   ·cases hc
  ·cases hc
 ·rename_i x ho;cases hc;exact MC ho
 ·rename_i t x i ho
  split at hc
  ·rename_i n e hu
   split at hc
   ·rename_i sz h1 h2;cases hc;exact MD ho hu h1 h2
   ·cases hc
  ·cases hc
 ·rename_i t l c ho
  split at hc
  ·rename_i e hu
   split at hc
   ·rename_i sz bI z h1 h2 h3
    split at hc
    ·rename_i bT
     obtain ⟨rfl,h4,h5⟩:=bT
     cases hc
     exact Md ho hu h1 h2 h3 h4 h5 (xU h3)
    ·cases hc
   ·cases hc
  ·cases hc
 ·rename_i t x lo hi ho
  split at hc
  ·rename_i e hu
   split at hc
   ·rename_i sz h1;cases hc;exact MA ho hu h1
   ·cases hc
  ·cases hc
 ·rename_i b args ts ho;exact Wl ho hc
 ·cases hc;exact WU _ _ _
 ·cases hc;exact WU _ _ _
 ·rename_i t x ho
  split at hc
  ·rename_i fs hu;cases hc;exact Ms ho hu
  ·cases hc
 ·cases hc
end
end
structure bh where
 dst:Option Nat
 op:dc
 guard:Option (Nat×Bool)
 deriving Inhabited
inductive cH where
 | skip
 | region (draw:Bool) (ord:List Nat) (items:List bh) (keep:Option (List Nat))
 | seq (x y:cH)
 | cond (c:bD) (x y:cH)
 | block (id:Nat) (x:cH)
 | loop (x:cH)
 | scope (x:cH)
 | exit (id:Nat)
 | ret
 | range (f:bD) (ps:List Nat) (assign body:cH)
 deriving Inhabited
def cH.erase:cH→cH
 | .region d ord items _=>.region d ord items none
 | .seq x y=>.seq x.erase y.erase
 | .cond c x y=>.cond c x.erase y.erase
 | .block id x=>.block id x.erase
 | .loop x=>.loop x.erase
 | .scope x=>.scope x.erase
 | .range f ps x y=>.range f ps x.erase y.erase
 | c=>c
def FX (nt:Nat):Option Nat→Bool
 | some d=>decide (d < nt)
 | none=>true
def xH (C:Ctx) (nt:Nat) (ops:Array Oper) (o:Oper):Option bh:=
 match yO C o.op with
 | some ao=>
  if FX nt o.dst then
   match o.guard with
   | none=>some ⟨o.dst,ao,none⟩
   | some (j,want)=>match (ops[j]?).bind (·.dst) with
    | some t=>if t < nt then some ⟨o.dst,ao,some (t,want)⟩ else none
    | none=>none
  else none
 | none=>none
def dV (ord:List Nat) (i j:Nat):Bool:=(ord.getD j 0).testBit i
def vH (ops:Array Oper) (ord:List Nat):Bool:=
 ((uA ops.size).all fun i=>match ops[i]? with
  | some oi=>oi.after.all fun e=>!Region.binds .any e||decide (e.on < i)
  | none=>true) &&
 (uA ops.size).all fun i=>match ops[i]? with
  | some oi=>match oi.dst with
   | some d=>(uA ops.size).all fun j=>i == j||match ops[j]? with
    | some oj=>oj.dst != some d&&(!((oj.looksAt ops).contains d)||(if i < j then dV ord i j else dV ord j i))
    | none=>true
   | none=>true
  | none=>true
def comp (C:Ctx) (nt:Nat):Code→Option cH
 | .skip=>some .skip
 | .region _ ops draw=>match aY (xH C nt ops) ops.toList with
  | some items=>if draw then (if C.P.follows .mixedOrders&&vH ops (Region.before ops).toList then some (.region true (Region.before ops).toList items none) else none) else some (.region false [] items none)
  | none=>none
 | .seq a b=>match comp C nt a,comp C nt b with
  | some x,some y=>some (.seq x y)
  | _,_=>none
 | .cond c a b=>match comp C nt a,comp C nt b with
  | some x,some y=>some (.cond (C.bt c) x y)
  | _,_=>none
 | .block id a=>match comp C nt a with
  | some x=>some (.block id x)
  | none=>none
 | .loop a=>match comp C nt a with
  | some x=>some (.loop x)
  | none=>none
 | .scope a=>match comp C nt a with
  | some x=>some (.scope x)
  | none=>none
 | .label _=>some .skip
 | .exit id=>some (.exit id)
 | .ret=>some .ret
 | .rangeFunc f ps a b=>if ps.toList.all (fun t=>decide (t < nt)) then match comp C nt a,comp C nt b with
  | some x,some y=>some (.range (C.bt f) ps.toList x y)
  | _,_=>none
  else none
 | _=>none
inductive dR where
 | tmp (t:Nat)
 | cell (t:Nat) (agg:Bool) (n:Nat)
 deriving Inhabited
structure dM where
 nt:Nat
 results:List dR
 body:cH
 deriving Inhabited
def ya (C:Ctx):ResultVar→Option dR
 | .tmp t=>some (.tmp t)
 | .cell t ty=>match jH C.P ty,zB C.P ty with
  | some ag,some n=>some (.cell t ag n)
  | _,_=>none
def dM.erase (F:dM):dM:={F with body:=F.body.erase}
def qM (C:Ctx) (f:Nat):Option dM:=match C.P.funcs[C.eC f]? with
 | some fn=>match fn.body with
  | some code=>match comp C fn.ntmps code,aY (ya C) fn.results.toList with
   | some ac, some rs => if fn.name == "runtime.NumGoroutine" then none else some ⟨fn.ntmps, rs, ac⟩
   | _,_=>none
  | none=>none
 | none=>none
end Go.Proofs.YtcmmhbmgpflmeaaGreatDoor
