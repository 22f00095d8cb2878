/-
  The abstract machine: maps with keys of one scalar kind; equality of structs of scalars.
  The abstract machine: append.
  The abstract machine: append, onto slices that a name owns.
  The abstract machine: append is sound.
  The abstract machine: equality of structs of scalars.
  The abstract machine: append onto a slice that its owner also writes into.
  The abstract machine: slices against nil; slice expressions.
  The abstract machine: tests for nil, copy, elements of arrays, arrays that are built, entries of map literals.
  The abstract machine: maps compared with nil; fields of a struct that is a value.
-/
import Derived.Test.YtgpojcfkanjabaaGreatDoorAS01
import Derived.Laws.Append
open List renaming getElem?_eq_some_iff → ua, getElem?_eq_getElem → ub, mem_of_getElem? → ue, eq_nil_of_length_eq_zero → ui, getElem?_of_mem → uk, getElem?_append → ul, getElem?_map → uo, getElem?_drop → uu, length_eq_one_iff → uv, length_nil → ux, mem_append → uy, getElem?_append_right → uz, all_eq_true → uA, getElem_mem → uB, getElem?_append_left → uC, size_toArray → uG, getD_cons_zero → uK, getElem?_take → uL, extract_eq_take_drop → uM, all_cons → uN, getElem?_take_of_lt → uO, range → uS, take_of_length_le → uU, getElem?_toArray → uW, length_pos_iff → uY, length_append → u0, drop_take → u9, drop_drop → Ua, drop_zero → Ub, getD → Uc, mem_map → Ud, map → Uf
open Option renaming map_eq_some_iff → uh, isSome_iff_exists → ur, map_some → uI, map_none → uV
open Bool renaming and_eq_true → um, false_eq_true → uw, not_eq_true' → u6, not_eq_false → u7
open Nat renaming le_refl → uc, mul_le_mul_right → ud, add_mul → ug, mul_comm → uj, div_lt_of_lt_mul → uq, zero_add → ut, mul_sub_right_distrib → uD, pos_of_ne_zero → uE, div_add_mod → uJ, le_add_right → uQ, mod_lt → uT, eq_zero_or_pos → uZ, lt_of_lt_of_le → u4, zero_mul → u5, add_zero → Ue
open Int renaming eq_ofNat_of_zero_le → uR
open Array renaming getElem?_append_left → un, size_append → uF, getElem?_toList → uH, eraseIdxIfInBounds → uP, getElem?_push → uX, ext' → Ug, map → Uh
namespace Go.Proofs.YtgpojcfkanjabaaGreatDoor
open Go.RowKit
set_option linter.unusedSimpArgs false
set_option linter.unusedVariables false
section
section
variable {C:Ctx} {g g':Gh} {h h':Nat→Option aG} {N N':Nat→Prop} {w w':World} {id:Nat}
theorem C3 {k:IV} {v u:Value} (hk:IV.key k=some u) (hv:RV C g h N w (.ax k) v):v=u:=by
 cases hv with
 | ax _ _ hr=>cases hr<;>simp [IV.key] at hk<;>exact hk
theorem C4 (a b:ByteArray):(a == b)=true↔a=b:=by
 rw [beq_toListBytes,ByteArray.toList_eq,ByteArray.toList_eq]
 obtain ⟨⟨x⟩⟩:=a
 obtain ⟨⟨y⟩⟩:=b
 simp
def yj:Bool→TypeDesc→Prop
 | false,d=>∃ k,d=.int k
 | true,d=>d=.string
theorem YO {str:Bool} {d:TypeDesc} (hd:yj str d) {k k':IV} {u u':Value} (hk:IV.key k=some u) (hk':IV.key k'=some u') {b:Bool} (he:qR k k'=some b)
  (hs:xf str k=true):Instr.sameNow d u u'=some b∧(b=true→u'=u):=by
 cases str with
 | false=>
  obtain ⟨kk,rfl⟩:=hd
  cases k<;>simp [xf] at hs
  cases k'<;>simp [qR] at he
  obtain ⟨rfl,rfl⟩:=he
  simp [IV.key] at hk hk'
  subst hk;subst hk'
  simp [Instr.sameNow]
  exact fun e=>e.symm
 | true=>
  cases hd
  cases k<;>simp [xf] at hs
  cases k'<;>simp [qR] at he
  subst he
  simp [IV.key] at hk hk'
  subst hk;subst hk'
  simp [Instr.sameNow]
  exact fun e=>((C4 _ _).1 e).symm
theorem Zr {str:Bool} {d:TypeDesc} (hd:yj str d) {k:IV} {u:Value} (hk:IV.key k=some u) (hs:xf str k=true) :
  ∀ (es:List (IV×AV)) (bO:List MapEntry) (i0:Nat),bO.length=es.length →
   (∀ (i:Nat) (k':IV) (x:AV),es[i]?=some (k',x)→∃ e,bO[i]?=some e∧IV.key k'=some e.key∧RV C g h N w x e.val)→qX k es=true →
   (zP k es=none∧Instr.findNow d u bO i0=some none) ∨
   (∃ x j v,zP k es=some x∧Instr.findNow d u bO i0=some (some (i0+j,v))∧RV C g h N w x v∧j < es.length ∧
    (∃ e,bO[j]?=some e∧e.key=u)∧(∀ y,qF k y es=es.set j (k,y))∧qW k es=es.eraseIdx j):=by
 intro es
 induction es with
 | nil=>intro bO i0 hl _ _;simp at hl;subst hl;exact .inl ⟨rfl,rfl⟩
 | cons p es ih=>
  intro bO i0 hl hr hok
  obtain ⟨k',x⟩:=p
  cases bO with
  | nil=>simp at hl
  | cons e bO=>
   obtain ⟨e',he',hk',hx⟩:=hr 0 k' x rfl
   simp at he'
   subst he'
   simp only [qX,uN,um] at hok
   obtain ⟨b,hb⟩:=ur.1 hok.1
   obtain ⟨rU,hsame⟩:=YO hd hk hk' hb hs
   replace hb:qR k k'=some b:=hb
   cases b with
   | true=>
    have hkey:e.key=u:=hsame rfl
    refine .inr ⟨x,0,e.val,by simp [zP,hb],by simp [Instr.findNow,rU],hx,by simp,⟨e,rfl,hkey⟩,fun y=>by simp [qF,hb],by simp [qW,hb]⟩
   | false=>
    rcases ih bO (i0+1) (by simpa using hl) (fun i k' x hi=>by have:=hr (i+1) k' x (by simpa using hi);simpa using this) hok.2 with ⟨h1,h2⟩ | ⟨x',j,v,h1,h2,h3,h4,h5,h6,h7⟩
    ·exact .inl ⟨by simp [zP,hb,h1],by simp [Instr.findNow,rU,h2]⟩
    ·refine .inr ⟨x',j+1,v,by simp [zP,hb,h1],by simp [Instr.findNow,rU,h2];omega,h3,by simp;omega,by simpa using h5,fun y=>by simp [qF,hb,h6 y],by simp [qW,hb,h7]⟩
theorem MT {k:IV}:∀ {es:List (IV×AV)},zP k es=none→qX k es=true→∀ y,qF k y es=es++[(k,y)]:=by
 intro es
 induction es with
 | nil=>intro _ _ y;rfl
 | cons p es ih=>
  obtain ⟨k',x⟩:=p
  intro h1 h2 y
  simp only [qX,uN,um] at h2
  obtain ⟨b,hb⟩:=ur.1 h2.1
  replace hb:qR k k'=some b:=hb
  cases b with
  | true=>simp [zP,hb] at h1
  | false=>simp [zP,hb] at h1;simp [qF,hb,ih h1 h2.2 y]
theorem MU {k:IV}:∀ {es:List (IV×AV)},zP k es=none→qX k es=true→qW k es=es:=by
 intro es
 induction es with
 | nil=>intro _ _;rfl
 | cons p es ih=>
  obtain ⟨k',x⟩:=p
  intro h1 h2
  simp only [qX,uN,um] at h2
  obtain ⟨b,hb⟩:=ur.1 h2.1
  replace hb:qR k k'=some b:=hb
  cases b with
  | true=>simp [zP,hb] at h1
  | false=>simp [zP,hb] at h1;simp [qW,hb,ih h1 h2.2]
theorem Zs {P:Program} {str:Bool} {t:TypeId} {d:TypeDesc} (ht:P.underlying t=some d) (hd:yj str d) (w:World) (b:Bool) (v:Value) (n:Nat):(Instr.checkKey b (n+1) t v).run P w=.ok () w:=by
 cases str with
 | false=>obtain ⟨kk,rfl⟩:=hd;simp [Instr.checkKey,run_underlying ht]
 | true=>cases hd;simp [Instr.checkKey,run_underlying ht]
theorem J2 {str:Bool} {k:IV} (hk:xf str k=true):∃ u,IV.key k=some u:=by
 cases str<;>cases k<;>simp [xf] at hk<;>simp [IV.key]
theorem Kz {x:AV} {v:Value} (hv:RV C g h N w x v):RV C g h N w (xL x) v:=by
 cases x with
 | agg cs=>
  simp only [xL]
  split
  ·rename_i l hl
   obtain ⟨h1,h2⟩:=qi hl
   cases hv with
   | agg _ vs hl' h1' hr=>
    refine .ax _ _ (.agg l vs (by rw [h1];exact hl') h1' fun j c u hj hu => ?_)
    have hlt:j < cs.length:=by rw [←h1];exact (ua.1 hj).1
    obtain ⟨c',hc1,eC⟩:=h2 j cs[j] (by simp)
    rw [hj] at hc1
    cases hc1
    have hc:=hr j cs[j] u (by simp) hu
    generalize cs[j]=y at hc eC
    cases hc with
    | ax z _ hr=>simp [jl] at eC;subst eC;exact hr
    | nil=>simp [jl] at eC;subst eC;exact .nil
    | cw a cap=>simp [jl] at eC;subst eC;exact .empty a cap
    | aU i af _ hr _ _=>simp [jl] at eC;subst eC;exact hr
    | _=>simp [jl] at eC
  ·exact hv
 | _=>exact hv
theorem Fz (z:Value):RV C g h N w (vN z) z:=by
 cases z with
 | agg vs=>
  simp only [vN]
  split
  ·rename_i hall
   have:RV C g h N w (.agg (vs.toList.map xP)) (.agg vs.toList.toArray):=.agg _ _ (by simp) (fun v hv=>uA.1 hall v hv) fun i c u hc hu=>by
    rw [uo,hu] at hc
    cases hc
    exact vg u
   exact Kz this
  ·exact .top _
 | _=>simp only [vN];exact vg _
theorem MV (R:RH C g h N w) {x:AV} {v:Value} {es:List (IV×AV)} (he:xk h x=some es) (hv:RV C g h N w x v) :
  (v=.map none∧es=[])∨∃ b bO clock,v=.map (some b)∧w.heap[b]?=some (.map bO clock)∧bO.size=es.length ∧
   ∀ (i:Nat) (k:IV) (y:AV),es[i]?=some (k,y)→∃ e,bO[i]?=some e∧IV.key k=some e.key∧RV C g h N w y e.val:=by
 unfold xk at he
 split at he
 ·rename_i i
  split at he
  ·rename_i es' cF
   cases he
   cases hv with
   | map _ _ hni hone hp=>
    obtain ⟨b,hb,hval⟩:=hp _ cF
    obtain ⟨gG,bO,clock,hw,hl,hr⟩:=R.obj i b _ hb cF
    exact .inr ⟨b,bO,clock,hval,hw,hl.l,hr⟩
  ·cases he
 ·rename_i es'
  cases he
  cases hv with
  | ax _ _ hr=>
   cases hr with
   | ff _ b bO clock ev hz hb hl hk hr=>
    refine .inr ⟨b,bO,clock,rfl,hb,by simpa using hl,fun i k y hi => ?_⟩
    rw [uo,uh] at hi
    obtain ⟨⟨k0,y0⟩,h1,h2⟩:=hi
    cases h2
    obtain ⟨h3,h4⟩:=hk i _ y0 h1
    exact ⟨ev i,h3,h4,.ax _ _ (hr i _ y0 h1)⟩
 ·cases he
  cases hv with
  | ax _ _ hr=>
   cases hr with
   | cY=>exact .inl ⟨rfl,rfl⟩
 ·cases he
theorem Vv {o:Oper} {str:Bool} {t kt et:TypeId} {m k:Operand} {ok:Bool} {d:TypeDesc} {ti:TypeInfo} {z:Value} (ho:o.op=.lookup t m k ok)
  (ht:C.P.underlying t=some (.map kt et)) (mi:C.P.underlying kt=some d) (hd:yj str d) (hi:C.P.info? et=some ti) (hz:ti.zero=some z) :
  aP C o (.look str (vN z) ok (C.bf m) (C.bf k)):=by
 intro g h N w id ev val r aO R hid hv he
 have hm:=hv m (by simp [ho,Op.operands])
 have hk:=hv k (by simp [ho,Op.operands])
 simp only [ai] at he
 split at he
 ·rename_i es kv e1 e2
  rw [e2] at hk
  split at he
  ·rename_i bD
   simp only [um] at bD
   obtain ⟨hc1,eC⟩:=bD
   obtain ⟨u,hu⟩:=J2 hc1
   have hkv:=C3 hu hk
   have hzero:RV C g h N w (if ok then .tuple [vN z,.ax (.bool false)] else vN z) (if ok then .tuple #[z,.bool false] else z):=by
    cases ok with
    | true=>exact .tuple [vN z,.ax (.bool false)] [z,.bool false] rfl (fun j c v hj hj'=>by
     rcases j with _ | _ | j
     ·simp at hj hj';subst hj;subst hj';exact Fz z
     ·simp at hj hj';subst hj;subst hj';exact .ax _ _ (.bool _)
     ·simp at hj)
    | false=>exact Fz z
   have fq:=fun bb=>Zs (P:=C.P) mi hd w bb u 9999
   rcases MV R e1 hm with ⟨hval,rfl⟩ | ⟨b,bO,clock,hval,hw,hl,hr⟩
   ·simp only [zP,Option.some.injEq,Prod.mk.injEq] at he
    obtain ⟨rfl,rfl⟩:=he
    have h2:Instr.findNow d u [] 0=some none:=by simp [Instr.findNow]
    refine ⟨if ok then .tuple #[z,.bool false] else z,w,.inl ?_,zs R hzero⟩
    have hrun:(Instr.lookup t (.map none) u ok).run C.P w=.ok (if ok then .tuple #[z,.bool false] else z) w:=by
     simp only [Instr.lookup,Sem.run_bind,run_underlying ht,Result.andThen_ok,Sem.run_pure,fq,Instr.findKey,run_underlying mi,h2,zeroValue,typeInfo,run_program,hi,hz]
    simp only [execOp,ho,hval,hkv,Sem.run_bind,hrun,Result.andThen_ok,Sem.run_pure]
   have hfind:=Zr (C:=C) (g:=g) (h:=h) (N:=N) (w:=w) hd hu hc1 es bO.toList 0 (by simpa using hl) (fun i k' x hi=>by obtain ⟨e,h1,h2⟩:=hr i k' x hi;exact ⟨e,by simpa using h1,h2⟩) eC
   rcases hfind with ⟨h1,h2⟩ | ⟨x,j,v,h1,h2,h3,h4,h5,h6⟩
   ·rw [h1] at he
    simp only [Option.some.injEq,Prod.mk.injEq] at he
    obtain ⟨rfl,rfl⟩:=he
    refine ⟨if ok then .tuple #[z,.bool false] else z,w,.inl ?_,zs R hzero⟩
    have hrun:(Instr.lookup t (.map (some b)) u ok).run C.P w=.ok (if ok then .tuple #[z,.bool false] else z) w:=by
     simp only [Instr.lookup,Sem.run_bind,run_underlying ht,Result.andThen_ok,jC hw,Sem.run_pure,fq,Instr.findKey,run_underlying mi,h2,zeroValue,typeInfo,run_program,hi,hz]
    simp only [execOp,ho,hval,hkv,Sem.run_bind,hrun,Result.andThen_ok,Sem.run_pure]
   ·rw [h1] at he
    simp only [Option.some.injEq,Prod.mk.injEq] at he
    obtain ⟨rfl,rfl⟩:=he
    refine ⟨if ok then .tuple #[v,.bool true] else v,w,.inl ?_,zs R ?_⟩
    ·have hrun:(Instr.lookup t (.map (some b)) u ok).run C.P w=.ok (if ok then .tuple #[v,.bool true] else v) w:=by
      simp only [Instr.lookup,Sem.run_bind,run_underlying ht,Result.andThen_ok,jC hw,Sem.run_pure,fq,Instr.findKey,run_underlying mi,h2]
     simp only [execOp,ho,hval,hkv,Sem.run_bind,hrun,Result.andThen_ok,Sem.run_pure]
    ·cases ok with
     | true=>exact .tuple [x,.ax (.bool true)] [v,.bool true] rfl (fun j c v' hj hj'=>by
      rcases j with _ | _ | j
      ·simp at hj hj';subst hj;subst hj';exact h3
      ·simp at hj hj';subst hj;subst hj';exact .ax _ _ (.bool _)
      ·simp at hj)
     | false=>exact h3
  ·cases he
 ·cases he
theorem MW {k:IV} {u:Value} (hk:IV.key k=some u) (n:Nat):Instr.sameBits n u u=true:=by
 cases k<;>simp [IV.key] at hk<;>subst hk<;>simp [Instr.sameBits,C4]
theorem MX {str:Bool} {k:IV} {u:Value} (hk:IV.key k=some u) (hs:xf str k=true):∀ {es:List (IV×AV)} {bO:Array MapEntry},zP k es=none→qX k es=true→bO.size=es.length →
  (∀ (i:Nat) (k':IV) (x:AV),es[i]?=some (k',x)→∃ e,bO[i]?=some e∧IV.key k'=some e.key∧RV C g h N w x e.val)→∀ e∈bO.toList,e.key≠u:=by
 intro es bO h1 h2 hl hr e he heq
 obtain ⟨i,hi⟩:=uk he
 have hlt:i < es.length:=by rw [←hl];simpa using (ua.1 hi).1
 obtain ⟨e',a1,a2,_⟩:=hr i es[i].1 es[i].2 (by rw [ub hlt])
 rw [uH] at hi
 rw [hi] at a1
 cases a1
 have hc:∀ {l:List (IV×AV)},zP k l=none→qX k l=true→∀ p∈l,qR k p.1=some false:=by
  intro l
  induction l with
  | nil=>intro _ _ p hp;cases hp
  | cons q l ih=>
   obtain ⟨k',x⟩:=q
   intro h3 h4 p hp
   simp only [qX,uN,um] at h4
   obtain ⟨b,hb⟩:=ur.1 h4.1
   replace hb:qR k k'=some b:=hb
   cases b with
   | true=>simp [zP,hb] at h3
   | false=>
    simp [zP,hb] at h3
    rcases List.mem_cons.1 hp with rfl | hp
    ·exact hb
    ·exact ih h3 h4.2 p hp
 have h5:=hc h1 h2 es[i] (uB hlt)
 rw [heq] at a2
 generalize es[i].1=k2 at a2 h5
 have:k2=k:=by
  cases str<;>cases k<;>simp [xf] at hs<;>cases k2<;>simp [IV.key] at hk a2<;>subst hk<;>first | (cases a2;rfl) | simp_all
 subst this
 cases k2<;>simp [qR] at h5
 rw [(C4 _ _).2 rfl] at h5
 cases h5
theorem J3 {o:Oper} {str:Bool} {t kt et:TypeId} {m k v:Operand} {d:TypeDesc} (ho:o.op=.mapUpdate t m k v)
  (ht:C.P.underlying t=some (.map kt et)) (mi:C.P.underlying kt=some d) (hd:yj str d) :
  aP C o (.upd str (C.bf m) (C.bf k) (C.bf v)):=by
 intro g h N w id ev val r aO R hid hv he
 have hm:=hv m (by simp [ho,Op.operands])
 have hk:=hv k (by simp [ho,Op.operands])
 have hx:=Kz (hv v (by simp [ho,Op.operands]))
 simp only [ai] at he
 split at he
 ·rename_i i kv e1 e2
  rw [e1] at hm
  rw [e2] at hk
  split at he
  ·rename_i es cF
   split at he
   ·rename_i bD
    simp only [um] at bD
    obtain ⟨hc1,eC⟩:=bD
    obtain ⟨u,hu⟩:=J2 hc1
    have hkv:=C3 hu hk
    simp only [Option.some.injEq,Prod.mk.injEq] at he
    obtain ⟨rfl,rfl⟩:=he
    cases hm with
    | map _ _ hni hone hp=>
     obtain ⟨b,hb,hval⟩:=hp es cF
     obtain ⟨gG,bO,clock,hw,⟨hl,hst⟩,hr⟩:=R.obj i b _ hb cF
     have fq:=fun bb=>Zs (P:=C.P) mi hd w bb u 9999
     have close:∀ (fL:Array MapEntry) (clock':Nat),CQ fL clock' (qF kv (xL (ev (C.bf v))) es).length →
       (∀ (i:Nat) (k':IV) (x:AV),(qF kv (xL (ev (C.bf v))) es)[i]?=some (k',x)→∃ e,fL[i]?=some e∧IV.key k'=some e.key∧RV C g h N w x e.val) →
       Good C g h N w id .undef [(i,.map (qF kv (xL (ev (C.bf v))) es))] undef (zx w b (.map fL clock')):=fun fL clock' hl' hr'=>by
      have E:bW g h N w g (bz [(i,.map (qF kv (xL (ev (C.bf v))) es))] h) (qh N id) (zx w b (.map fL clock')):=
       QA R hb gG (.map es) _ cF _ trivial fun c e hc=>by rw [hw] at hc;cases hc
      refine ⟨g,E,JZ R hb _ _ (fun _ _=>by simp) E ?_,.undef⟩
      refine ⟨gG,fL,clock',by rw [zD w b _ (z6 hw)];simp,hl',fun i k' x hi => ?_⟩
      obtain ⟨e,h1,h2,h3⟩:=hr' i k' x hi
      exact ⟨e,h1,h2,h3.mono E⟩
     have hfind:=Zr (C:=C) (g:=g) (h:=h) (N:=N) (w:=w) hd hu hc1 es bO.toList 0 (by simpa using hl) (fun i k' x hi=>by obtain ⟨e,h1,h2⟩:=hr i k' x hi;exact ⟨e,by simpa using h1,h2⟩) eC
     rcases hfind with ⟨h1,h2⟩ | ⟨x,j,y,h1,h2,h3,h4,⟨e0,h5,C5⟩,h6⟩
     ·have gj:=MT h1 eC (xL (ev (C.bf v)))
      refine ⟨undef,zx w b (.map (bO.push {key:=u,val:=val v,born:=clock}) (clock+1)),.inr ⟨?_,rfl⟩,close _ _ ⟨by rw [gj];simp [hl],Go.MapKept.stamped_push hst (MX hu hc1 h1 eC hl hr)⟩ (fun i k' x hi => ?_)⟩
      ·have hrun:(Instr.mapUpdate t (.map (some b)) u (val v)).run C.P w=.ok () (zx w b (.map (bO.push {key:=u,val:=val v,born:=clock}) (clock+1))):=by
        simp only [Instr.mapUpdate,Sem.run_bind,run_underlying ht,Result.andThen_ok,jC hw,Sem.run_pure,fq,Instr.findKey,run_underlying mi,h2,wx hw]
       simp only [execOp,ho,hval,hkv,Sem.run_bind,hrun,Result.andThen_ok,Sem.run_pure]
      ·rw [gj,ul] at hi
       split at hi
       ·rename_i hlt
        obtain ⟨e,h7,h8⟩:=hr i k' x hi
        exact ⟨e,by rw [uX,if_neg (by omega)];exact h7,h8⟩
       ·rename_i hge
        have C6:i - es.length=0:=by
         have:=(ua.1 hi).1
         simp at this;omega
        rw [C6] at hi
        simp at hi
        obtain ⟨rfl,rfl⟩:=hi
        exact ⟨_,by rw [uX,if_pos (by omega)],hu,hx⟩
     ·have gj:=h6.1 (xL (ev (C.bf v)))
      simp only [ut] at h2
      have C7:bO[j]?=some e0:=by simpa using h5
      refine ⟨undef,zx w b (.map (bO.modify j fun e=>{e with key:=u,val:=val v}) clock),.inr ⟨?_,rfl⟩,close _ _ ⟨by rw [gj];simp [hl],Go.MapKept.stamped_modify hst _ _ (fun _ _=>rfl) (fun e _ he=>by rw [C7] at he;cases he;exact C5.symm)⟩ (fun i k' x hi => ?_)⟩
      ·have hrun:(Instr.mapUpdate t (.map (some b)) u (val v)).run C.P w=.ok () (zx w b (.map (bO.modify j fun e=>{e with key:=u,val:=val v}) clock)):=by
        simp only [Instr.mapUpdate,Sem.run_bind,run_underlying ht,Result.andThen_ok,jC hw,Sem.run_pure,fq,Instr.findKey,run_underlying mi,h2,Instr.keyThatStays,C7,uI,Option.getD_some,C5,MW hu,if_true,wx hw]
       simp only [execOp,ho,hval,hkv,Sem.run_bind,hrun,Result.andThen_ok,Sem.run_pure]
      ·rw [gj,List.getElem?_set] at hi
       rw [Array.getElem?_modify]
       split at hi
       ·rename_i e3
        subst e3
        cases hi
        rw [if_pos rfl,C7]
        exact ⟨_,rfl,hu,hx⟩
       ·rename_i e3
        rw [if_neg e3]
        exact hr i k' x hi
   ·cases he
  ·cases he
 ·cases he
end
end
section
section
variable {C:Ctx} {g g':Gh} {h h':Nat→Option aG} {N N':Nat→Prop} {w w':World} {id:Nat}
theorem yl {Z:Nat→Nat} {a:Addr} {cap:Nat}:RI Z w (.slice []) (.slice (some a) 0 cap):=.empty a cap
theorem YP {x:AV} {v:Value} {y:IV} (hx:jl x=some y) (hv:RV C g h N w x v):RI g.Z w y v:=by
 cases hv with
 | ax z _ hr=>simp [jl] at hx;subst hx;exact hr
 | nil=>simp [jl] at hx;subst hx;exact .nil
 | cw a cap=>simp [jl] at hx;subst hx;exact yl
 | aU i af _ hr _ _=>simp [jl] at hx;subst hx;exact hr
 | _=>simp [jl] at hx
theorem J4 (R:RH C g h N w) {x:AV} {v:Value} {new:List (List IV)} {sz:Nat} (hx:xK h x=some new) (hv:RV C g h N w x v) (hsz:∀ row∈new,row.length=sz) :
  ∃ a cap,v=.slice a new.length cap∧∃ news:List Value,news.length=new.length*sz∧(∀ u∈news,u.oneCell'=true) ∧
   (∀ (i:Nat) (row:List IV) (j:Nat) (c:IV),new[i]?=some row→row[j]?=some c→∃ u,news[i*sz+j]?=some u∧RI g.Z w c u) ∧
   ∀ (P:Program) (w1:World),w1.heap=w.heap→(Builtin.firstCells sz new.length v).run P w1=.ok news.toArray w1:=by
 have iO:∀ (af:List (List IV)),af=new→RI g.Z w (.slice af) v→∃ a cap,v=.slice a new.length cap∧∃ news:List Value,news.length=new.length*sz∧(∀ u∈news,u.oneCell'=true) ∧
   (∀ (i:Nat) (row:List IV) (j:Nat) (c:IV),new[i]?=some row→row[j]?=some c→∃ u,news[i*sz+j]?=some u∧RI g.Z w c u) ∧
   ∀ (P:Program) (w1:World),w1.heap=w.heap→(Builtin.firstCells sz new.length v).run P w1=.ok news.toArray w1:=fun af o6 gh=>by
  subst o6
  rcases Jd gh with ⟨rfl,hval⟩ | ⟨b,off,cap,sz',cv,hval,hcap,C8,hz,hc,hr⟩
  ·rcases hval with hval | ⟨aa,cap,hval⟩
   ·exact ⟨none,0,hval,[],by simp,by simp,fun i row j c hi=>by simp at hi,fun P w1 _=>by rw [hval];simp [Builtin.firstCells]⟩
   ·exact ⟨some aa,cap,hval,[],by simp,by simp,fun i row j c hi=>by simp at hi,fun P w1 _=>by rw [hval];simp only [Builtin.firstCells,ux,u5];exact (run_loadCells w1 _ _ (fun _=>undef) (fun k hk=>by simp at hk))⟩
  ·refine ⟨_,cap,hval,(uS (af.length*sz)).map (fun k=>cv (k / sz) (k % sz)),by simp,fun u hu => ?_,fun i row j c hi hj => ?_,fun P w1 hw1 => ?_⟩
   ·simp only [Ud,List.mem_range] at hu
    obtain ⟨k,hk,rfl⟩:=hu
    have hpos:0 < sz:=uE fun e=>by subst e;simp at hk
    have hi:k / sz < af.length:=uq (by rw [uj];exact hk)
    have hrow:=hsz (af[k / sz]) (uB hi)
    have hj:k % sz < (af[k / sz]).length:=by rw [hrow];exact uT _ hpos
    exact (hc (k / sz) _ (k % sz) ((af[k / sz])[k % sz]) (ub hi) (ub hj)).2
   ·have hrow:=hsz row (ue hi)
    have hj':j < sz:=by rw [←hrow];exact (ua.1 hj).1
    have hi':i < af.length:=(ua.1 hi).1
    have hb:(i+1)*sz≤af.length*sz:=ud _ hi'
    rw [ug] at hb
    have hlt:i*sz+j < af.length*sz:=by omega
    have hdiv:(i*sz+j) / sz=i:=by rw [uj,Nat.mul_add_div (by omega),Nat.div_eq_of_lt hj'];simp
    have hmod:(i*sz+j) % sz=j:=by rw [uj,Nat.mul_add_mod,Nat.mod_eq_of_lt hj']
    refine ⟨cv i j,by simp [hlt,hdiv,hmod],hr i row j c hi hj⟩
   ·rw [hval]
    simp only [Builtin.firstCells]
    refine run_loadCells w1 _ _ _ fun k hk => ?_
    have hpos:0 < sz:=uE fun e=>by subst e;simp at hk
    have hi:k / sz < af.length:=uq (by rw [uj];exact hk)
    have hrow:=hsz (af[k / sz]) (uB hi)
    have hj:k % sz < (af[k / sz]).length:=by rw [hrow];exact uT _ hpos
    have CX:sz'=sz:=(C8 (k / sz) _ (ub hi)).symm.trans hrow
    subst CX
    have:=(hc (k / sz') _ (k % sz') ((af[k / sz'])[k % sz']) (ub hi) (ub hj)).1
    rw [qO]
    rw [←this]
    have e2:off+k=off+k / sz'*sz'+k % sz':=by have:=uJ k sz';rw [uj] at this;omega
    rw [e2]
    simp only [World.cell?,hw1]
 unfold xK at hx
 split at hx
 ·cases hx
  cases hv with
  | ax _ _ hr=>exact iO _ rfl hr
 ·cases hx
  cases hv with
  | aU _ _ _ hr _ _=>exact iO _ rfl hr
 ·cases hx
  have:=xl hv
  subst this
  exact iO [] rfl .nil
 ·cases hx
  cases hv with
  | cw a cap=>exact iO [] rfl yl
 ·rename_i i off len
  split at hx
  ·rename_i mh af cF
   split at hx
   ·rename_i hle
    obtain ⟨hl,cS⟩:=qi hx
    have lf:((af.drop off).take len).length=len:=by simp;omega
    cases hv with
    | Zak _ _ _ _ hni hone hp=>
     obtain ⟨h1,h2⟩:=hp _ _ cF
     rcases h2 with ⟨hn,hr,hval⟩ | ⟨b,cap,c,e,hb,hval,hle2,hw,hcap⟩
     ·subst hr
      have h0:len=0:=by simp at h1;omega
      have hnew:new=[]:=ui (by rw [hl];simp)
      subst hnew
      exact ⟨none,0,hval,[],by simp,by simp,fun i row j c hi=>by simp at hi,fun P w1 _=>by rw [hval];simp [Builtin.firstCells]⟩
     ·obtain ⟨hz,c',e',ia,hlen,hcells⟩:=R.obj i b _ hb cF
      have hnl:new.length=len:=by rw [hl,lf]
      have cellAt:∀ (i':Nat) (row:List IV) (j:Nat) (x:IV),new[i']?=some row→row[j]?=some x→∃ u,c'[(off+i')*sz+j]?=some u∧u.oneCell'=true∧RI g.Z w x u∧mh=sz:=fun i' row j x hi hj=>by
       have hi':i' < len:=by rw [←hnl];exact (ua.1 hi).1
       have gF:((af.drop off).take len)[i']?=some (af[off+i']'(by omega)):=by
        rw [uO hi',uu];simp
       obtain ⟨row',ct,bZ⟩:=cS i' _ gF
       rw [hi] at ct
       cases ct
       obtain ⟨og,ol⟩:=qi bZ
       have hj':j < (af[off+i']'(by omega)).length:=by rw [←og];exact (ua.1 hj).1
       obtain ⟨x',hx1,hx2⟩:=ol j ((af[off+i']'(by omega))[j]) (by simp [hj'])
       rw [hj] at hx1
       cases hx1
       have hrow:af[off+i']?=some (af[off+i']'(by omega)):=by simp
       obtain ⟨cv,h3,h4,h5⟩:=hcells (off+i') _ j _ hrow (ub hj')
       have hs0:mh=sz:=by
        have a1:=hlen (off+i') _ hrow
        have a2:=hsz row (ue hi)
        omega
       subst hs0
       exact ⟨cv,h3,h4,YP hx2 h5,rfl⟩
      have nE:∀ k,k < len*sz→∃ u,c'[off*sz+k]?=some u∧u.oneCell'=true∧mh=sz:=fun k hk=>by
       have hpos:0 < sz:=uE fun e=>by subst e;simp at hk
       have hi:k / sz < new.length:=by rw [hnl];exact uq (by rw [uj];exact hk)
       have hrow:=hsz (new[k / sz]) (uB hi)
       have hj:k % sz < (new[k / sz]).length:=by rw [hrow];exact uT _ hpos
       obtain ⟨u,h3,h4,h5,h6⟩:=cellAt (k / sz) _ (k % sz) ((new[k / sz])[k % sz]) (ub hi) (ub hj)
       refine ⟨u,?_,h4,h6⟩
       rw [←h3]
       congr 1
       have:=uJ k sz
       rw [ug,uj (k / sz) sz]
       omega
      obtain ⟨news,hn1,hn2⟩:=yS (uS (len*sz)) (fun _ k u=>c'[off*sz+k]?=some u∧u.oneCell'=true) (fun j k hj=>by
       obtain ⟨fS,hj2⟩:=ua.1 hj
       simp at fS hj2
       subst hj2
       obtain ⟨u,a1,a2,_⟩:=nE j fS
       exact ⟨u,a1,a2⟩)
      have mz:news.length=len*sz:=by simpa using hn1
      have gO:∀ k u,news[k]?=some u→c'[off*sz+k]?=some u∧u.oneCell'=true:=fun k u hk=>by
       have hlt:k < len*sz:=by rw [←mz];exact (ua.1 hk).1
       exact hn2 k k u (by simp [hlt]) hk
      refine ⟨_,cap,by rw [hnl];exact hval,news,by rw [hnl];exact mz,fun u hu => ?_,fun i' row j x hi hj => ?_,fun P w1 hw1 => ?_⟩
      ·obtain ⟨k,hk⟩:=uk hu
       exact (gO k u hk).2
      ·obtain ⟨u,h3,h4,h5,h6⟩:=cellAt i' row j x hi hj
       have hi':i' < len:=by rw [←hnl];exact (ua.1 hi).1
       have hj':j < sz:=by rw [←hsz row (ue hi)];exact (ua.1 hj).1
       have lg:(i'+1)*sz≤len*sz:=ud _ hi'
       rw [ug] at lg
       have hlt:i'*sz+j < news.length:=by omega
       refine ⟨u,?_,h5⟩
       have:=(gO (i'*sz+j) news[i'*sz+j] (by simp [hlt])).1
       rw [ub hlt]
       rw [show off*sz+(i'*sz+j)=(off+i')*sz+j by rw [ug];omega,h3] at this
       exact this.symm
      ·rw [hval,hnl]
       simp only [Builtin.firstCells]
       rw [←mz]
       have hs0:off*mh=off*sz∨len*sz=0:=by
        rcases uZ (len*sz) with h0 | h0
        ·exact .inr h0
        ·obtain ⟨_,_,_,h6⟩:=nE 0 h0;exact .inl (by rw [h6])
       have:=run_loadCells_list (P:=P) w1 ⟨b,off*mh,none⟩ news (fun k u hk=>by
        rw [qO]
        have hlt:k < news.length:=(ua.1 hk).1
        have:w1.heap[b]?=some (.cells c' e' (0,0)):=by rw [hw1];exact ia
        rw [qB this]
        rcases hs0 with h7 | h7
        ·rw [h7];exact (gO k u hk).1
        ·omega)
       exact this
   ·cases hx
  ·cases hx
 ·cases hx
theorem Vw (R:RH C g h N w) {x:AV} {v:Value} {new:List (List AV)} {sz:Nat} (hx:jV h x=some new) (hv:RV C g h N w x v) (hsz:∀ row∈new,row.length=sz) :
  ∃ a cap,v=.slice a new.length cap∧∃ news:List Value,news.length=new.length*sz∧(∀ u∈news,u.oneCell'=true) ∧
   (∀ (i:Nat) (row:List AV) (j:Nat) (c:AV),new[i]?=some row→row[j]?=some c→∃ u,news[i*sz+j]?=some u∧RV C g h N w c u) ∧
   ∀ (P:Program) (w1:World),w1.heap=w.heap→(Builtin.firstCells sz new.length v).run P w1=.ok news.toArray w1:=by
 unfold jV at hx
 split at hx
 ·rename_i i off len
  split at hx
  ·rename_i mh af cF
   split at hx
   ·rename_i hle
    have lf:((af.drop off).take len).length=len:=by simp;omega
    cases hx
    cases hv with
    | Zak _ _ _ _ hni hone hp=>
     obtain ⟨h1,h2⟩:=hp _ _ cF
     rcases h2 with ⟨hn,hr,hval⟩ | ⟨b,cap,c,e,hb,hval,hle2,hw,hcap⟩
     ·subst hr
      have h0:len=0:=by simp at h1;omega
      subst h0
      simp only [List.take_zero]
      exact ⟨none,0,hval,[],by simp,by simp,fun i row j c hi=>by simp at hi,fun P w1 _=>by rw [hval];simp [Builtin.firstCells]⟩
     ·obtain ⟨hz,c',e',ia,hlen,hcells⟩:=R.obj i b _ hb cF
      have hnl:((af.drop off).take len).length=len:=lf
      generalize hnd:(af.drop off).take len=new at hsz hnl ⊢
      have cellAt:∀ (i':Nat) (row:List AV) (j:Nat) (x:AV),new[i']?=some row→row[j]?=some x→∃ u,c'[(off+i')*sz+j]?=some u∧u.oneCell'=true∧RV C g h N w x u∧mh=sz:=fun i' row j x hi hj=>by
       have hi':i' < len:=by rw [←hnl];exact (ua.1 hi).1
       have hrow:af[off+i']?=some row:=by
        rw [←hnd,uO hi',uu] at hi
        exact hi
       obtain ⟨cv,h3,h4,h5⟩:=hcells (off+i') _ j _ hrow hj
       have hs0:mh=sz:=by
        have a1:=hlen (off+i') _ hrow
        have a2:=hsz row (ue hi)
        omega
       subst hs0
       exact ⟨cv,h3,h4,h5,rfl⟩
      have nE:∀ k,k < len*sz→∃ u,c'[off*sz+k]?=some u∧u.oneCell'=true∧mh=sz:=fun k hk=>by
       have hpos:0 < sz:=uE fun e=>by subst e;simp at hk
       have hi:k / sz < new.length:=by rw [hnl];exact uq (by rw [uj];exact hk)
       have hrow:=hsz (new[k / sz]) (uB hi)
       have hj:k % sz < (new[k / sz]).length:=by rw [hrow];exact uT _ hpos
       obtain ⟨u,h3,h4,h5,h6⟩:=cellAt (k / sz) _ (k % sz) ((new[k / sz])[k % sz]) (ub hi) (ub hj)
       refine ⟨u,?_,h4,h6⟩
       rw [←h3]
       congr 1
       have:=uJ k sz
       rw [ug,uj (k / sz) sz]
       omega
      obtain ⟨news,hn1,hn2⟩:=yS (uS (len*sz)) (fun _ k u=>c'[off*sz+k]?=some u∧u.oneCell'=true) (fun j k hj=>by
       obtain ⟨fS,hj2⟩:=ua.1 hj
       simp at fS hj2
       subst hj2
       obtain ⟨u,a1,a2,_⟩:=nE j fS
       exact ⟨u,a1,a2⟩)
      have mz:news.length=len*sz:=by simpa using hn1
      have gO:∀ k u,news[k]?=some u→c'[off*sz+k]?=some u∧u.oneCell'=true:=fun k u hk=>by
       have hlt:k < len*sz:=by rw [←mz];exact (ua.1 hk).1
       exact hn2 k k u (by simp [hlt]) hk
      refine ⟨_,cap,by rw [hnl];exact hval,news,by rw [hnl];exact mz,fun u hu => ?_,fun i' row j x hi hj => ?_,fun P w1 hw1 => ?_⟩
      ·obtain ⟨k,hk⟩:=uk hu
       exact (gO k u hk).2
      ·obtain ⟨u,h3,h4,h5,h6⟩:=cellAt i' row j x hi hj
       have hi':i' < len:=by rw [←hnl];exact (ua.1 hi).1
       have hj':j < sz:=by rw [←hsz row (ue hi)];exact (ua.1 hj).1
       have lg:(i'+1)*sz≤len*sz:=ud _ hi'
       rw [ug] at lg
       have hlt:i'*sz+j < news.length:=by omega
       refine ⟨u,?_,h5⟩
       have:=(gO (i'*sz+j) news[i'*sz+j] (by simp [hlt])).1
       rw [ub hlt]
       rw [show off*sz+(i'*sz+j)=(off+i')*sz+j by rw [ug];omega,h3] at this
       exact this.symm
      ·rw [hval,hnl]
       simp only [Builtin.firstCells]
       rw [←mz]
       have hs0:off*mh=off*sz∨len*sz=0:=by
        rcases uZ (len*sz) with h0 | h0
        ·exact .inr h0
        ·obtain ⟨_,_,_,h6⟩:=nE 0 h0;exact .inl (by rw [h6])
       have:=run_loadCells_list (P:=P) w1 ⟨b,off*mh,none⟩ news (fun k u hk=>by
        rw [qO]
        have hlt:k < news.length:=(ua.1 hk).1
        have:w1.heap[b]?=some (.cells c' e' (0,0)):=by rw [hw1];exact ia
        rw [qB this]
        rcases hs0 with h7 | h7
        ·rw [h7];exact (gO k u hk).1
        ·omega)
       exact this
   ·cases hx
  ·cases hx
 ·rw [uh] at hx
  obtain ⟨af,hrows,rfl⟩:=hx
  obtain ⟨a,cap,h1,news,h2,h3,h4,h5⟩:=J4 (sz:=sz) R hrows hv (fun row hr=>by
   have:=hsz (row.map .ax) (Ud.2 ⟨row,hr,rfl⟩)
   simpa using this)
  refine ⟨a,cap,by simpa using h1,news,by simpa using h2,h3,fun i row j c hi hj => ?_,fun P w1 hw1=>by simpa using h5 P w1 hw1⟩
  simp only [uo,uh] at hi
  obtain ⟨Ag,C6,rfl⟩:=hi
  simp only [uo,uh] at hj
  obtain ⟨c0,hj0,rfl⟩:=hj
  obtain ⟨u,h6,h7⟩:=h4 i Ag j c0 C6 hj0
  exact ⟨u,h6,.ax _ _ h7⟩
end
end
section
section
variable {C:Ctx} {g g':Gh} {h h':Nat→Option aG} {N N':Nat→Prop} {w w':World} {id:Nat}
def Src (P:Program) (w:World) (sz m:Nat) (v:Value) (news:List Value):Prop:=
 (∃ a cap,v=.slice a m cap)∧news.length=m*sz∧(∀ u∈news,u.oneCell'=true)∧∀ w1:World,w1.heap=w.heap→(Builtin.firstCells sz m v).run P w1=.ok news.toArray w1
theorem J5 {P:Program} {t t' ty e:TypeId} {i:TypeInfo} {d:TypeDesc} (ht:P.underlying t=some (.slice e)) (hi:P.info? e=some i) (ht':P.underlying t'=some d) (hd:∀ k,d≠.int k)
  {b L cap m:Nat} {c:Array Value} {e':TypeId} (hb:w.heap[b]?=some (.cells c e' (0,0))) {v:Value} {news:List Value} (hs:Src P w i.size m v news)
  (hroom:L+m≤cap) (hfit:L*i.size+news.length≤c.size) :
  (Builtin.append_ #[t,t'] ty #[.slice (some ⟨b,0,none⟩) L cap,v]).run P w=.ok (.slice (some ⟨b,0,none⟩) (L+m) cap) (zx w b (.cells (qn c (L*i.size) news) e' (0,0))):=by
 obtain ⟨⟨a,cp,rfl⟩,h1,h2,h3⟩:=hs
 have hst:=yi (P:=P) news w b (L*i.size) 0 c e' hb h2 (by omega)
 simp only [Ue] at hst
 have hz:(match d with | .int _=>true | _=>false)=false:=by cases d<;>first | rfl | exact absurd rfl (hd _)
 simp [Builtin.append_,run_underlying ht,sizeOf,typeInfo,hi,Builtin.lenOf,run_underlying ht',hz,hroom,h3 w rfl,qO,hst]
theorem Zt {P:Program} {t t' ty e:TypeId} {i:TypeInfo} {d:TypeDesc} (ht:P.underlying t=some (.slice e)) (hi:P.info? e=some i) (ht':P.underlying t'=some d) (hd:∀ k,d≠.int k)
  {v:Value} {news:List Value} (hs:Src P w i.size 0 v news) :
  (Builtin.append_ #[t,t'] ty #[.slice none 0 0,v]).run P w=.ok (.slice none 0 0) w:=by
 obtain ⟨⟨a,cp,rfl⟩,h1,h2,h3⟩:=hs
 have hz:(match d with | .int _=>true | _=>false)=false:=by cases d<;>first | rfl | exact absurd rfl (hd _)
 simp [Builtin.append_,run_underlying ht,sizeOf,typeInfo,hi,Builtin.lenOf,run_underlying ht',hz,h3 w rfl]
theorem Zu {P:Program} {t t' ty e:TypeId} {i:TypeInfo} {d:TypeDesc} {z:Value} (ht:P.underlying t=some (.slice e)) (hi:P.info? e=some i) (gG:i.zero=some z) (ht':P.underlying t'=some d) (hd:∀ k,d≠.int k)
  {s:Value} {L cap m:Nat} {base:Option Addr} (lq:s=.slice base L cap) {olds:List Value} (hold:Src P w i.size L s olds)
  {v:Value} {news:List Value} (hs:Src P w i.size m v news) (hroom:cap < L+m) (hby:0 < i.bytes) (hbytes:(L+m)*i.bytes≤140737488355328) :
  ∃ cH rest,L+m≤cH∧rest.size=(cH - (L+m))*z.cells.size∧(Builtin.append_ #[t,t'] ty #[s,v]).run P w=.ok (.slice (some ⟨w.heap.size,0,none⟩) (L+m) cH) (w.drew.alloc (.cells ((olds++news).toArray++rest) e (0,0))):=by
 subst lq
 obtain ⟨⟨a,cp,rfl⟩,h1,h2,h3⟩:=hs
 obtain ⟨_,g1,g2,g3⟩:=hold
 have hz:(match d with | .int _=>true | _=>false)=false:=by cases d<;>first | rfl | exact absurd rfl (hd _)
 have FA:=growslice_fits hroom hbytes
 refine ⟨(Question.appendCap (L+m) cap e).cut (w.tape w.drawn (.appendCap (L+m) cap e)),Builtin.zeroCells z.cells ((Question.appendCap (L+m) cap e).cut (w.tape w.drawn (.appendCap (L+m) cap e)) - (L+m)),by simp [Question.cut],by simp [Builtin.zeroCells],?_⟩
 have hb0:¬ i.bytes=0:=by omega
 simp [Builtin.append_,run_underlying ht,sizeOf,typeInfo,hi,Builtin.lenOf,run_underlying ht',hz,show ¬ L+m≤cap by omega,hb0,show ¬ 281474976710656 < Builtin.nextslicecap (L+m) cap*i.bytes by omega,Question.forced,h3 w.drew rfl,g3 w.drew rfl,zeroValue,gG,newRow]
 congr 2
 apply Ug
 simp [List.append_assoc]
theorem bW.drew (g:Gh) (h:Nat→Option aG) (N:Nat→Prop) (w:World):bW g h N w g h N w.drew:=by
 have E:=bW.refl g h N w
 exact ⟨rfl,rfl,rfl,uc _,fun b hb ho=>⟨rfl,rfl⟩,E.own,E.bY,⟨fun _ _ _=>rfl,fun _ _ _ _ _=>rfl⟩,fun b c e hb=>⟨c,hb,rfl⟩,E.next,E.eb,E.cE,E.af,E.cR,E.maps,E.fB⟩
theorem RH.drew (R:RH C g h N w):RH C g h N w.drew:=
 ⟨R.inj,R.lt,R.key,fun i b o hb ho=>(R.obj i b o hb ho).keep (bW.drew g h N w) rfl rfl,R.cQ,R.dX,R.fix.eO (bW.drew g h N w)⟩
theorem J6 (R:RH C g h N w) (hid:¬ N id) (sz:Nat):Good C g h N w id (.aU id []) [(id,.aV sz 0)] (.slice none 0 0) w:=by
 have ne:∀ i,N i→id≠i:=fun i hi e=>hid (e ▸ hi)
 have E:bW g h N w g (bz [(id,.aV sz 0)] h) (qh N id) w:=
  ⟨rfl,rfl,rfl,uc _,fun _ _ _=>⟨rfl,rfl⟩,fun _ h=>.inl h,fun _=>uc _,⟨fun _ _ _=>rfl,fun _ _ _ _ _=>rfl⟩,fun b c e hb=>⟨c,hb,rfl⟩,fun _ h=>.inl h,fun i b hb _ _ _ _=>.inl hb,fun i hb _ _ _ _=>.inl hb,
   fun i hi s r ho=>⟨r,by simp only [bz] at ho;rwa [if_neg (ne i hi)] at ho,rfl⟩,fun i hi s r ho=>⟨r,by simp only [bz] at ho;rwa [if_neg (ne i hi)] at ho,uc _⟩,
   fun i hi r ho=>⟨r,by simp only [bz] at ho;rwa [if_neg (ne i hi)] at ho⟩,
   fun i hi l R s pe ho=>⟨s,pe,by simp only [bz] at ho;rwa [if_neg (ne i hi)] at ho⟩⟩
 have hn:=R.lH hid
 refine ⟨g,E,⟨R.inj,fun i b hb=>⟨(R.lt i b hb).1,.inl (R.lt i b hb).2⟩,fun i o ho => ?_,fun i b o hb ho => ?_,fun i s l ho hr => ?_,R.dX,R.fix.eO E⟩,?_⟩
 ·simp only [bz] at ho
  split at ho
  ·rename_i e;exact .inr e.symm
  ·exact .inl (R.key i o ho)
 ·simp only [bz] at ho
  split at ho
  ·rename_i e;subst e;rw [hn] at hb;cases hb
  ·exact (R.obj i b o hb ho).keep E rfl rfl
 ·simp only [bz] at ho
  split at ho
  ·cases ho;rfl
  ·exact R.cQ i s l ho hr
 ·refine .aU id [] _ .nil (.inr rfl) fun s l ho => ?_
  simp only [bz,if_pos] at ho
  cases ho
  exact ⟨uc _,fun i row hi=>by simp at hi,fun _=>.inl ⟨hn,rfl⟩⟩
theorem MY (R:RH C g h N w) {i sz L:Nat} (hi:h i=some (.aV sz L)) {af:List (List IV)} {v:Value} (hv:RV C g h N w (.aU i af) v) :
  Good C g h N w id (.aU i af) [(i,.aV sz L)] v w:=by
 have e:bz [(i,.aV sz L)] h=h:=by
  funext j
  simp only [bz]
  split
  ·rename_i e;subst e;exact hi.symm
  ·rfl
 obtain ⟨g',h1,h2,h3⟩:=zs (id:=id) R hv
 refine ⟨g',?_⟩
 rw [e]
 exact ⟨h1,h2,h3⟩
theorem FB {Z:Nat→Nat} {w':World} {b sz cH:Nat} {af new:List (List IV)} {c:Array Value} {e:TypeId} {vals:List Value}
  (hw:w'.heap[b]?=some (.cells c e (0,0))) (hz:(af++new).length*sz≤Z b) (hcap:(af++new).length≤cH)
  (hsz:∀ row∈af++new,row.length=sz)
  (hc:∀ (k:Nat) (u:Value),vals[k]?=some u→c[k]?=some u) (h1:∀ u∈vals,u.oneCell'=true)
  (hr:∀ (i:Nat) (row:List IV) (j:Nat) (x:IV),(af++new)[i]?=some row→row[j]?=some x→∃ u,vals[i*sz+j]?=some u∧RI Z w' x u) :
  RI Z w' (.slice (af++new)) (.slice (some ⟨b,0,none⟩) (af++new).length cH):=by
 refine .slice (af++new) b 0 cH sz (fun i j=>vals.getD (i*sz+j) undef) hcap (fun i row hi=>hsz row (ue hi)) (fun i row j x hi hj => ?_) (fun i row j x hi hj => ?_) (fun i row j x hi hj => ?_)
 ·have hi':i < (af++new).length:=(ua.1 hi).1
  have hj':j < sz:=by rw [←hsz row (ue hi)];exact (ua.1 hj).1
  have hb:(i+1)*sz≤(af++new).length*sz:=ud _ hi'
  rw [ug] at hb
  omega
 ·obtain ⟨u,h2,h3⟩:=hr i row j x hi hj
  have:vals.getD (i*sz+j) undef=u:=by simp [Uc,h2]
  rw [this,qB hw,ut]
  exact ⟨hc _ u h2,h1 u (ue h2)⟩
 ·obtain ⟨u,h2,h3⟩:=hr i row j x hi hj
  have:vals.getD (i*sz+j) undef=u:=by simp [Uc,h2]
  rw [this]
  exact h3
end
end
section
section
variable {C:Ctx} {g g':Gh} {h h':Nat→Option aG} {N N':Nat→Prop} {w w':World} {id:Nat}
theorem Wt (R:RH C g h N w) {i sz L L':Nat} (hk:(¬ N i∧i=id)∨(h i=some (.aV sz L)∧L < L')) (o:Obj) (z:Nat) :
  bW g h N w (g.at i w.heap.size z) (bz [(i,.aV sz L')] h) (qh N id) (w.drew.alloc o):=by
 have hold:∀ j,N j→∀ ob,bz [(i,aG.aV sz L')] h j=some ob→(i≠j∧h j=some ob)∨(i=j∧ob=.aV sz L'∧h j=some (.aV sz L)∧L < L'):=fun j hj ob ho=>by
  simp only [bz] at ho
  split at ho
  ·rename_i e
   cases ho
   rcases hk with ⟨hn,_⟩ | ⟨h1,h2⟩
   ·exact absurd (e ▸ hj) hn
   ·exact .inr ⟨e,rfl,e ▸ h1,h2⟩
  ·rename_i e;exact .inl ⟨e,ho⟩
 exact {
  os:=rfl
  tape:=rfl
  output:=rfl
  size:=by simp
  old:=fun b hb ho=>⟨qu w.drew o hb,by simp only [Gh.at];rw [if_neg (by omega)]⟩
  own:=fun b ⟨j,hj⟩=>by
   simp only [Gh.at] at hj
   split at hj
   ·cases hj;exact .inr (uc _)
   ·exact .inl ⟨j,hj⟩
  bY:=fun b=>by
   simp only [Gh.at]
   split
   ·rename_i hb;subst hb;rw [R.mq];omega
   ·exact uc _
  cell:=iD.heap (w:=w) fun b hk=>qu w.drew o (R.dX b hk)
  shape:=fun b c e hb=>⟨c,(qu w.drew o (z6 hb)).trans hb,rfl⟩
  next:=fun i hi=>.inl hi
  eb:=fun j b hb ob ho hnd hj=>by
   rcases hold j hj ob ho with ⟨h1,h2⟩ | ⟨h1,h2,h3,h4⟩
   ·exact .inl (by simp only [Gh.at];rw [if_neg (Ne.symm h1)];exact hb)
   ·exact .inr ⟨sz,L,sz,L',h3,h2,h4⟩
  cE:=fun j hb hj ob ho hnd=>by
   rcases hold j hj ob ho with ⟨h1,h2⟩ | ⟨h1,h2,h3,h4⟩
   ·exact .inl (by simp only [Gh.at];rw [if_neg (Ne.symm h1)];exact hb)
   ·exact .inr ⟨sz,L,sz,L',h3,h2,h4⟩
  af:=fun j hj s r ho=>by
   rcases hold j hj _ ho with ⟨h1,h2⟩ | ⟨h1,h2,h3,h4⟩
   ·exact ⟨r,h2,rfl⟩
   ·cases h2
  cR:=fun j hj s l ho=>by
   rcases hold j hj _ ho with ⟨h1,h2⟩ | ⟨h1,h2,h3,h4⟩
   ·exact ⟨l,h2,uc _⟩
   ·cases h2;exact ⟨L,h3,by omega⟩
  maps:=fun j hj es ho=>by
   rcases hold j hj _ ho with ⟨h1,h2⟩ | ⟨h1,h2,h3,h4⟩
   ·exact ⟨es,h2⟩
   ·cases h2
  fB:=fun j hj ll RR s pe ho=>by
   rcases hold j hj _ ho with ⟨h1,h2⟩ | ⟨h1,h2,h3,h4⟩
   ·exact ⟨s,pe,h2⟩
   ·cases h2}
theorem MZ (R:RH C g h N w) {i sz L L':Nat} (hk:(¬ N i∧i=id)∨(h i=some (.aV sz L)∧L < L')) (c:Array Value) (e:TypeId) (hc:L'*sz≤c.size) :
  RH C (g.at i w.heap.size (L'*sz)) (bz [(i,.aV sz L')] h) (qh N id) (w.drew.alloc (.cells c e (0,0))):=by
 have E:=Wt (id:=id) R hk (.cells c e (0,0)) (L'*sz)
 have dK:qh N id i:=by
  rcases hk with ⟨_,h1⟩ | ⟨h1,_⟩
  ·exact .inr h1
  ·exact .inl (R.key i _ h1)
 refine ⟨fun j k b hj hk => ?_,fun j b hb => ?_,fun j o' ho' => ?_,fun j b o' hb ho' => ?_,fun j s l ht hn => ?_,fun b hb => ?_,R.fix.eO E⟩
 ·simp only [Gh.at] at hj hk
  split at hj<;>split at hk
  ·rename_i h1 h2;rw [h1,h2]
  ·cases hj;have:=(R.lt k _ hk).1;omega
  ·cases hk;have:=(R.lt j _ hj).1;omega
  ·exact R.inj j k b hj hk
 ·simp only [Gh.at] at hb
  split at hb
  ·rename_i hi;subst hi;cases hb;exact ⟨by simp,dK⟩
  ·have:=R.lt j b hb;exact ⟨by simp;omega,.inl this.2⟩
 ·simp only [bz] at ho'
  split at ho'
  ·rename_i hi;subst hi;exact dK
  ·exact .inl (R.key j o' ho')
 ·simp only [Gh.at] at hb
  simp only [bz] at ho'
  split at hb
  ·rename_i hi
   subst hi
   cases hb
   rw [if_pos rfl] at ho'
   cases ho'
   exact ⟨c,e,zW w.drew _,by simp [Gh.at],hc⟩
  ·rename_i hi
   rw [if_neg (fun e=>hi e.symm)] at ho'
   have hlt:=(R.lt j b hb).1
   exact (R.obj j b o' hb ho').keep E (qu w.drew _ hlt) (by simp only [Gh.at];rw [if_neg (by omega)])
 ·simp only [Gh.at] at hn
  simp only [bz] at ht
  split at hn
  ·cases hn
  ·rename_i hi
   rw [if_neg (fun e=>hi e.symm)] at ht
   exact R.cQ j s l ht hn
 ·simp only [Gh.at] at hb
  split at hb
  ·rename_i hh;subst hh;simp
  ·have:=R.dX b hb;simp;omega
theorem J7 (R:RH C g h N w) {i b sz L L':Nat} (hi:h i=some (.aV sz L)) (hb:g.ρ i=some b) {c:Array Value} {e:TypeId} (hw:w.heap[b]?=some (.cells c e (0,0))) (hz:g.Z b=L*sz) (hL:L≤L')
  (news:List Value) (hfit:L*sz+news.length≤c.size) :
  bW g h N w (g.at i b (L'*sz)) (bz [(i,.aV sz L')] h) (qh N id) (zx w b (.cells (qn c (L*sz) news) e (0,0))):=by
 have hlt:=z6 hw
 have dV:∀ j,(g.at i b (L'*sz)).ρ j=g.ρ j:=fun j=>by
  simp only [Gh.at]
  split
  ·rename_i e;subst e;exact hb.symm
  ·rfl
 exact {
  os:=rfl
  tape:=rfl
  output:=rfl
  size:=by rw [jc];exact uc _
  old:=fun k hk ho=>by
   have hne:k≠b:=fun e=>ho ⟨i,by rw [e];exact hb⟩
   exact ⟨by rw [zD w b _ hlt,if_neg hne],by simp only [Gh.at];rw [if_neg hne]⟩
  own:=fun k ⟨j,hj⟩=>.inl ⟨j,by rw [←dV];exact hj⟩
  bY:=fun k=>by
   simp only [Gh.at]
   split
   ·rename_i e;subst e;rw [hz];exact ud _ hL
   ·exact uc _
  cell:=⟨fun k o ho=>by
   by_cases e1:k=b
   ·subst e1
    rw [hz] at ho
    have:(zx w k (.cells (qn c (L*sz) news) e (0,0))).heap[k]?=some (.cells (qn c (L*sz) news) e (0,0)):=by rw [zD w k _ hlt];simp
    rw [qB this,qB hw,xQ c _ news hfit,if_neg (by omega)]
   ·refine JV ?_
    rw [zD w b _ hlt,if_neg e1],fun k bO clock _ hm=>by
   have e1:k≠b:=fun e1=>by rw [e1,hw] at hm;cases hm
   rw [zD w b _ hlt,if_neg e1]⟩
  shape:=fun k c' e' ia=>by
   by_cases e1:k=b
   ·subst e1
    rw [hw] at ia
    cases ia
    exact ⟨_,by rw [zD w k _ hlt,if_pos rfl],jM _ _ _⟩
   ·exact ⟨c',by rw [zD w b _ hlt,if_neg e1];exact ia,rfl⟩
  next:=fun i hi=>.inl hi
  eb:=fun j b' hj _ _ _ _=>.inl (by rw [dV];exact hj)
  cE:=fun j hj _ _ _ _=>.inl (by rw [dV];exact hj)
  af:=fun j hj s r ho=>by
   simp only [bz] at ho
   split at ho
   ·cases ho
   ·exact ⟨r,ho,rfl⟩
  cR:=fun j hj s l ho=>by
   simp only [bz] at ho
   split at ho
   ·rename_i e1;subst e1;cases ho;exact ⟨L,hi,hL⟩
   ·exact ⟨l,ho,uc _⟩
  maps:=fun j hj es ho=>by
   simp only [bz] at ho
   split at ho
   ·cases ho
   ·exact ⟨es,ho⟩
  fB:=fun j hj ll RR s pe ho=>by
   simp only [bz] at ho
   split at ho
   ·cases ho
   ·exact ⟨s,pe,ho⟩}
theorem M0 (R:RH C g h N w) {i b sz L L':Nat} (hi:h i=some (.aV sz L)) (hb:g.ρ i=some b) {c:Array Value} {e:TypeId} (hw:w.heap[b]?=some (.cells c e (0,0))) (hz:g.Z b=L*sz) (hL:L≤L')
  (news:List Value) (hfit:L*sz+news.length≤c.size) (hcap:L'*sz≤c.size) :
  RH C (g.at i b (L'*sz)) (bz [(i,.aV sz L')] h) (qh N id) (zx w b (.cells (qn c (L*sz) news) e (0,0))):=by
 have E:=J7 (id:=id) R hi hb hw hz hL news hfit
 have hlt:=z6 hw
 have dV:∀ j,(g.at i b (L'*sz)).ρ j=g.ρ j:=fun j=>by
  simp only [Gh.at]
  split
  ·rename_i e;subst e;exact hb.symm
  ·rfl
 refine ⟨fun j k b' hj hk => ?_,fun j b' hb' => ?_,fun j o' ho' => ?_,fun j b' o' hb' ho' => ?_,fun j s l ht hn => ?_,fun k hk => ?_,R.fix.eO E⟩
 ·rw [dV] at hj hk;exact R.inj j k b' hj hk
 ·rw [dV] at hb'
  rw [jc]
  exact ⟨(R.lt j b' hb').1,.inl (R.lt j b' hb').2⟩
 ·simp only [bz] at ho'
  split at ho'
  ·rename_i e1;subst e1;exact .inl (R.key i _ hi)
  ·exact .inl (R.key j o' ho')
 ·rw [dV] at hb'
  simp only [bz] at ho'
  split at ho'
  ·rename_i e1
   subst e1
   cases ho'
   rw [hb] at hb'
   cases hb'
   exact ⟨qn c (L*sz) news,e,by rw [zD w b _ hlt];simp,by simp [Gh.at],by rw [jM];exact hcap⟩
  ·rename_i e1
   have hne:b'≠b:=fun e2=>e1 (R.inj i j b hb (e2 ▸ hb'))
   exact (R.obj j b' o' hb' ho').keep E (by rw [zD w b _ hlt,if_neg hne]) (by simp only [Gh.at];rw [if_neg hne])
 ·rw [dV] at hn
  simp only [bz] at ht
  split at ht
  ·rename_i e1;subst e1;rw [hb] at hn;cases hn
  ·exact R.cQ j s l ht hn
 ·rw [jc]
  simp only [Gh.at] at hk
  split at hk
  ·rename_i e1;subst e1;exact hlt
  ·exact R.dX k hk
def M2 (C:Ctx) (o:Oper) (sz bG:Nat) (s x:aZ):Prop:=
 ∀ (g:Gh) (h:Nat→Option aG) (N:Nat→Prop) (w:World) (id:Nat) (ev:aZ→AV) (val:Operand→Value) (r:AV) (aO:List (Nat×aG)),
  RH C g h N w→¬ N id→(∀ x∈o.op.operands,RV C g h N w (ev (C.bf x)) (val x))→JW sz bG (ev s) (ev x) h id=some (r,aO) →
  ∃ v w',pI C.P (execOp val o) w v w'∧Good C g h N w id r aO v w'
def M3 (C:Ctx) (o:Oper) (sz bG:Nat) (s x:aZ):Prop:=
 ∀ (g:Gh) (h:Nat→Option aG) (N:Nat→Prop) (w:World) (id:Nat) (ev:aZ→AV) (val:Operand→Value) (r:AV) (aO:List (Nat×aG)),
  RH C g h N w→¬ N id→(∀ x∈o.op.operands,RV C g h N w (ev (C.bf x)) (val x))→JX sz bG (ev s) (ev x) h id=some (r,aO) →
  ∃ v w',pI C.P (execOp val o) w v w'∧Good C g h N w id r aO v w'
theorem M4 {o:Oper} {t t' e:TypeId} {d:TypeDesc} {s x:Operand} {sz bG:Nat} {z:List AV} (ho:o.op=.call {callee:=.builtin .append,args := #[s,x],argTypes := #[t,t']})
  (ht:C.P.underlying t=some (.slice e)) (ht':C.P.underlying t'=some d) (hd:∀ k,d≠.int k) (hsz:zz C.P e=some sz) (hby:xz C.P e=some bG) (hz:qA C.P e=some z)
  (h0:0 < sz) (hzl:z.length=sz) (mA:0 < bG):M2 C o sz bG (C.bf s) (C.bf x):=by
 intro g h N w id ev val r aO R hid hv he
 have hs:=hv s (by simp [ho,Op.operands,Call.operands])
 have hx:=hv x (by simp [ho,Op.operands,Call.operands])
 obtain ⟨i,zv,hi,iN,rfl⟩:=jN hz
 have hzs:zv.cells.size=sz:=by simpa using hzl
 have hsize:i.size=sz:=by simpa [zz,hi] using hsz
 have hbytes:i.bytes=bG:=by simpa [xz,hi] using hby
 subst hsize
 subst hbytes
 have exec:∀ v' w',(Builtin.append_ #[t,t'] o.type #[val s,val x]).run C.P w=.ok v' w'→pI C.P (execOp val o) w v' w':=fun v' w' hrun=>by
  refine .inl ?_
  simp [execOp,ho,resolve,invoke,builtin,hrun]
 unfold JW at he
 split at he
 case h_2=>cases he
 rename_i new hnew
 split at he
 ·cases he
 rename_i hall
 have rp:∀ row∈new,row.length=i.size:=fun row hr=>by
  simp only [u6,u7] at hall
  have:=uA.1 hall row hr
  simpa using this
 obtain ⟨a,cp,C9,news,hn1,hn2,rV,Ah⟩:=J4 R hnew hx rp
 have hsrc:Src C.P w i.size new.length (val x) news:=⟨⟨a,cp,C9⟩,hn1,hn2,fun w1 hw1=>Ah C.P w1 hw1⟩
 have grow:∀ (j L cap:Nat) (base:Option Addr) (af:List (List IV)) (olds:List Value),(¬ N j∧j=id)∨(h j=some (.aV i.size L)∧L < L+new.length)→af.length=L →
   val s=.slice base L cap→cap < L+new.length→(L+new.length)*i.bytes≤140737488355328→(∀ row∈af,row.length=i.size) →
   Src C.P w i.size L (val s) olds→(∀ (k:Nat) (row:List IV) (q:Nat) (c:IV),af[k]?=some row→row[q]?=some c→∃ u,olds[k*i.size+q]?=some u∧RI g.Z w c u) →
   ∃ v w',pI C.P (execOp val o) w v w'∧Good C g h N w id (.aU j (af++new)) [(j,.aV i.size (L+new.length))] v w':=fun j L cap base af olds hk hrl lq hroom hbound rW hold Ai=>by
  obtain ⟨cH,rest,hc1,eC,hrun⟩:=Zu (w:=w) (ty:=o.type) ht hi iN ht' hd lq hold hsrc hroom mA hbound
  have o7:olds.length=L*i.size:=hold.2.1
  have hlen:(olds++news).length=(L+new.length)*i.size:=by simp [o7,hn1,ug]
  have rX:(L+new.length)*i.size≤((olds++news).toArray++rest).size:=by simp only [uF,uG];omega
  have E:=Wt (id:=id) R hk (.cells ((olds++news).toArray++rest) e (0,0)) ((L+new.length)*i.size)
  refine ⟨_,_,exec _ _ hrun,_,E,MZ R hk _ e rX,?_⟩
  have hw':(w.drew.alloc (.cells ((olds++news).toArray++rest) e (0,0))).heap[w.heap.size]?=some (.cells ((olds++news).toArray++rest) e (0,0)):=zW w.drew _
  have tA:(g.at j w.heap.size ((L+new.length)*i.size)).Z w.heap.size=(L+new.length)*i.size:=by simp [Gh.at]
  have lf:(af++new).length=L+new.length:=by simp [hrl]
  have Aj:RI (g.at j w.heap.size ((L+new.length)*i.size)).Z (w.drew.alloc (.cells ((olds++news).toArray++rest) e (0,0))) (.slice (af++new)) (.slice (some ⟨w.heap.size,0,none⟩) (af++new).length cH):=by
   refine FB (vals:=olds++news) hw' (by rw [tA,lf];exact uc _) (by rw [lf];exact hc1) (fun row hr => ?_) (fun k u hk => ?_) (fun u hu => ?_) (fun k row q c hk hq => ?_)
   ·rcases uy.1 hr with hr | hr
    ·exact rW row hr
    ·exact rp row hr
   ·have hlt:k < (olds++news).length:=(ua.1 hk).1
    rw [un (by simpa using hlt)]
    simpa using hk
   ·rcases uy.1 hu with hu | hu
    ·exact hold.2.2.1 u hu
    ·exact hn2 u hu
   ·rw [ul] at hk
    split at hk
    ·rename_i hlt
     obtain ⟨u,h2,h3⟩:=Ai k row q c hk hq
     have ir:k*i.size+q < olds.length:=(ua.1 h2).1
     exact ⟨u,by rw [uC ir];exact h2,h3.mono E.bY E.cell⟩
    ·rename_i hge
     obtain ⟨u,h2,h3⟩:=rV _ row q c hk hq
     have rY:olds.length≤k*i.size+q:=by
      rw [o7]
      have:L*i.size≤k*i.size:=ud _ (by omega)
      omega
     refine ⟨u,?_,h3.mono E.bY E.cell⟩
     rw [uz rY,←h2]
     congr 1
     rw [o7,hrl,uD]
     have:L*i.size≤k*i.size:=ud _ (by omega)
     omega
  rw [lf] at Aj
  refine .aU j (af++new) _ Aj ?_ fun sz' len' ht => ?_
  ·rcases hk with ⟨_,h1⟩ | ⟨h1,_⟩
   ·exact .inr h1
   ·exact .inl (R.key j _ h1)
  ·simp only [bz,if_pos] at ht
   cases ht
   refine ⟨by rw [lf];exact uc _,fun k row hk => ?_,fun _=>.inr ⟨w.heap.size,cH,_,e,by simp [Gh.at],by rw [lf],hw',?_⟩⟩
   ·rcases uy.1 (ue hk) with hr | hr
    ·exact rW row hr
    ·exact rp row hr
   ·simp only [uF,uG,hlen,eC,hzs]
    have:cH*i.size=(L+new.length)*i.size+(cH - (L+new.length))*i.size:=by
     rw [←ug];congr 1;omega
    omega
 split at he
 ·rename_i e1
  rw [e1] at hs
  have lq:=xl hs
  split at he
  ·rename_i hbound
   simp only [Option.some.injEq,Prod.mk.injEq] at he
   obtain ⟨rfl,rfl⟩:=he
   by_cases hm:new=[]
   ·subst hm
    have hrun:=Zt (w:=w) (ty:=o.type) ht hi ht' hd (news:=news) (by simpa using hsrc)
    exact ⟨_,_,exec _ _ (by rw [lq];exact hrun),by simpa using J6 R hid i.size⟩
   ·have hpos:0 < new.length:=uY.2 hm
    have:=grow id 0 0 none [] [] (.inl ⟨hid,rfl⟩) rfl lq (by omega) (by simpa using hbound) (by simp) ⟨⟨none,0,lq⟩,by simp,by simp,fun w1 _=>by rw [lq];simp [Builtin.firstCells]⟩ (fun k row q c hk=>by simp at hk)
    simpa using this
  ·cases he
 ·rename_i j af e1
  rw [e1] at hs
  split at he
  ·rename_i sz' len htip
   split at he
   ·rename_i bD
    obtain ⟨rfl,hrl,hbound⟩:=bD
    simp only [Option.some.injEq,Prod.mk.injEq] at he
    obtain ⟨rfl,rfl⟩:=he
    have hs':=hs
    cases hs with
    | aU _ _ _ gh hni tB=>
     obtain ⟨_,rW,Da⟩:=tB _ _ htip
     have nF:∀ row∈af,row.length=i.size:=fun row hr=>by
      obtain ⟨k,hk⟩:=uk hr
      exact rW k row hk
     have tC:xK h (.aU j af)=some af:=rfl
     obtain ⟨a0,M5,rZ,olds,rq,BH,Db,FC⟩:=J4 R tC hs' nF
     have hold:Src C.P w i.size af.length (val s) olds:=⟨⟨a0,M5,rZ⟩,rq,BH,fun w1 hw1=>FC C.P w1 hw1⟩
     rcases Da hrl with ⟨hn,lq⟩ | ⟨b,cap,c,e',hb,lq,hw,hcap⟩
     ·have hl0:af.length=0:=by rw [lq] at rZ;simp at rZ;omega
      have gF:af=[]:=ui hl0
      subst gF
      simp at hrl
      subst hrl
      by_cases hm:new=[]
      ·subst hm
       have hrun:=Zt (w:=w) (ty:=o.type) ht hi ht' hd (news:=news) (by simpa using hsrc)
       refine ⟨_,_,exec _ _ (by rw [lq];exact hrun),?_⟩
       rw [lq] at hs'
       simpa using MY (id:=id) R htip hs'
      ·have hpos:0 < new.length:=uY.2 hm
       exact grow j 0 0 none [] olds (.inr ⟨htip,by omega⟩) rfl lq (by omega) hbound (by simp) (by simpa using hold) Db
     ·by_cases hroom:len+new.length≤cap
      ·subst hrl
       obtain ⟨c',e2,oq,lz,hsz2⟩:=R.obj j b _ hb htip
       rw [hw] at oq
       cases oq
       have hm1:(af.length+new.length)*i.size≤cap*i.size:=ud _ hroom
       have hfit:af.length*i.size+news.length≤c.size:=by rw [hn1,←ug];omega
       have hrun:=J5 (P:=C.P) (w:=w) (ty:=o.type) ht hi ht' hd hw hsrc hroom hfit
       have E:=J7 (id:=id) R htip hb hw lz (uQ af.length new.length) news hfit
       refine ⟨_,_,exec _ _ (by rw [lq];exact hrun),_,E,M0 R htip hb hw lz (uQ _ _) news hfit (by omega),?_⟩
       have hw':(zx w b (.cells (qn c (af.length*i.size) news) e' (0,0))).heap[b]?=some (.cells (qn c (af.length*i.size) news) e' (0,0)):=by rw [zD w b _ (z6 hw)];simp
       have lf:(af++new).length=af.length+new.length:=by simp
       have Aj:RI (g.at j b ((af.length+new.length)*i.size)).Z (zx w b (.cells (qn c (af.length*i.size) news) e' (0,0))) (.slice (af++new)) (.slice (some ⟨b,0,none⟩) (af++new).length cap):=by
        refine FB (vals:=olds++news) hw' (by simp only [Gh.at,if_pos];rw [lf];exact uc _) (by rw [lf];exact hroom) (fun row hr => ?_) (fun k u hk => ?_) (fun u hu => ?_) (fun k row q x hk hq => ?_)
        ·rcases uy.1 hr with hr | hr
         ·exact nF row hr
         ·exact rp row hr
        ·rw [xQ c _ news hfit]
         rw [ul] at hk
         split at hk
         ·rename_i hlt
          rw [if_neg (by omega)]
          have hread:=FC C.P w rfl
          rw [lq] at hread
          simp only [Builtin.firstCells] at hread
          have hcell:∀ q,q < af.length*i.size→w.cell? ((⟨b,0,none⟩:Addr).add q)=some (c.getD q undef):=fun q hq=>by
           rw [qO,qB hw,ut]
           have:q < c.size:=by omega
           simp [this]
          rw [run_loadCells (P:=C.P) w _ _ _ hcell] at hread
          simp only [Result.ok.injEq,and_true] at hread
          have si:(uS (af.length*i.size)).map (fun q=>c.getD q undef)=olds:=by
           have:=congrArg Array.toList hread
           simpa using this
          rw [←si] at hk
          simp only [uo,uh] at hk
          obtain ⟨q,hq1,Ak⟩:=hk
          obtain ⟨M6,FD⟩:=ua.1 hq1
          simp at M6 FD
          subst FD
          have:k < c.size:=by omega
          simp [this] at Ak
          simp [this,Ak]
         ·rename_i hge
          have hlt:k - olds.length < news.length:=(ua.1 hk).1
          rw [if_pos (by omega),←rq]
          exact hk
        ·rcases uy.1 hu with hu | hu
         ·exact BH u hu
         ·exact hn2 u hu
        ·rw [ul] at hk
         split at hk
         ·obtain ⟨u,h2,h3⟩:=Db k row q x hk hq
          have ir:k*i.size+q < olds.length:=(ua.1 h2).1
          exact ⟨u,by rw [uC ir];exact h2,h3.mono E.bY E.cell⟩
         ·rename_i hge
          obtain ⟨u,h2,h3⟩:=rV _ row q x hk hq
          have C1:af.length*i.size≤k*i.size:=ud _ (by omega)
          have rY:olds.length≤k*i.size+q:=by rw [rq];omega
          refine ⟨u,?_,h3.mono E.bY E.cell⟩
          rw [uz rY,←h2]
          congr 1
          rw [rq,uD]
          omega
       rw [lf] at Aj
       refine .aU j (af++new) _ Aj (.inl hni) fun sz' len' ht => ?_
       simp only [bz,if_pos] at ht
       cases ht
       refine ⟨by rw [lf];exact uc _,fun k row hk => ?_,fun _=>.inr ⟨b,cap,_,e',by simp [Gh.at],by rw [lf],hw',by rw [jM];exact hcap⟩⟩
       rcases uy.1 (ue hk) with hr | hr
       ·exact nF row hr
       ·exact rp row hr
      ·subst hrl
       have mB:cap < af.length+new.length:=by omega
       have hle:af.length≤cap:=by
        rcases Jd gh with ⟨gF,_⟩ | ⟨b1,off1,M7,tv,cv1,lB,Dc,_⟩
        ·subst gF;simp
        ·rw [lq] at lB;cases lB;exact Dc
       exact grow j af.length cap _ af olds (.inr ⟨htip,by omega⟩) rfl lq mB hbound nF hold Db
   ·cases he
  ·cases he
 ·cases he
end
end
section
section
variable {C:Ctx} {g g':Gh} {h h':Nat→Option aG} {N N':Nat→Prop} {w w':World} {id:Nat}
theorem Qt:∀ {ks:List Nat} {cD bs:List IV} {r:Bool},qt ks cD bs=some r→cD.length=ks.length∧bs.length=ks.length
 | [],[],[],_,_=>⟨rfl,rfl⟩
 | [],[],_::_,_,h=>by simp [qt] at h
 | [],_::_,_,_,h=>by simp [qt] at h
 | _::_,[],_,_,h=>by simp [qt] at h
 | _::_,_::_,[],_,h=>by simp [qt] at h
 | k::ks,a::cD,b::bs,r,h=>by
  simp only [qt] at h
  split at h
  ·split at h
   ·rename_i y h2
    have:=Qt h2
    simp [this.1,this.2]
   ·cases h
  ·cases h
theorem JP:∀ {k1 k2:List Nat} {cD bs:List IV} {r:Bool},qt (k1++k2) cD bs=some r →
  ∃ r1 r2,qt k1 (cD.take k1.length) (bs.take k1.length)=some r1∧qt k2 (cD.drop k1.length) (bs.drop k1.length)=some r2∧r=(r1&&r2)
 | [],k2,cD,bs,r,h=>⟨true,r,by simp [qt],by simpa using h,by simp⟩
 | k::k1,k2,[],bs,r,h=>by simp [qt] at h
 | k::k1,k2,a::cD,[],r,h=>by simp [qt] at h
 | k::k1,k2,a::cD,b::bs,r,h=>by
  simp only [List.cons_append,qt] at h
  split at h
  ·rename_i x h1
   split at h
   ·rename_i y h2
    cases h
    obtain ⟨r1,r2,h3,h4,rfl⟩:=JP h2
    exact ⟨x&&r1,r2,by simp [qt,h1,h3],by simpa using h4,by simp [Bool.and_assoc]⟩
   ·cases h
  ·cases h
def ic (Z:Nat→Nat) (w:World) (cD:List IV) (vs:List Value):Prop:=cD.length=vs.length∧∀ (j:Nat) (c:IV) (u:Value),cD[j]?=some c→vs[j]?=some u→RI Z w c u
theorem ic.drop {Z:Nat→Nat} {cD:List IV} {vs:List Value} (H:ic Z w cD vs) (n:Nat):ic Z w (cD.drop n) (vs.drop n):=by
 refine ⟨by simp [H.1],fun j c u h1 h2 => ?_⟩
 rw [uu] at h1 h2
 exact H.2 _ c u h1 h2
theorem ic.take {Z:Nat→Nat} {cD:List IV} {vs:List Value} (H:ic Z w cD vs) (n:Nat):ic Z w (cD.take n) (vs.take n):=by
 refine ⟨by simp [H.1],fun j c u h1 h2 => ?_⟩
 rw [uL] at h1 h2
 split at h1
 ·rename_i hj
  rw [if_pos hj] at h2
  exact H.2 _ c u h1 h2
 ·cases h1
def xA (P:Program) (t:TypeId) (vs:List Value):Value:=match P.underlying t with
 | some (.struct _)=>.agg vs.toArray
 | _=>vs.getD 0 undef
theorem J8 {P:Program} {t:TypeId} {k:Nat} {dd:TypeDesc} (ht:P.underlying t=some dd) (hk:(k=0∧∃ kk,dd=.int kk)∨(k=1∧dd=.bool)∨(k=2∧dd=.string)) {Z:Nat→Nat} {cD bs:List IV} {us vs:List Value} {r:Bool}
  (ha:ic Z w cD us) (hb:ic Z w bs vs) (he:qt [k] cD bs=some r) (D:Nat):(Op.equalIn (D+1) t (xA P t us) (xA P t vs)).run P w=.ok r w:=by
 obtain ⟨h1,h2⟩:=Qt he
 obtain ⟨a,rfl⟩:=uv.1 h1
 obtain ⟨b,rfl⟩:=uv.1 h2
 obtain ⟨u,rfl⟩:=uv.1 ha.1.symm
 obtain ⟨v,rfl⟩:=uv.1 hb.1.symm
 have o8:=ha.2 0 a u rfl rfl
 have hrb:=hb.2 0 b v rfl rfl
 simp only [qt] at he
 split at he
 ·rename_i x hx
  simp at he
  subst he
  rcases hk with ⟨rfl,kk,rfl⟩ | ⟨rfl,rfl⟩ | ⟨rfl,rfl⟩
  ·simp only [xA,ht,uK]
   cases a<;>cases b<;>simp [Qz] at hx
   obtain ⟨rfl,rfl⟩:=hx
   cases o8;cases hrb
   exact run_equalIn_int w D t _ kk _ _ ht
  ·simp only [xA,ht,uK]
   cases a<;>cases b<;>simp [Qz] at hx
   subst hx
   cases o8;cases hrb
   exact run_equalIn_bool' w D t _ _ ht
  ·simp only [xA,ht,uK]
   cases a<;>cases b<;>simp [Qz] at hx
   subst hx
   cases o8;cases hrb
   rw [run_equalIn_string w D t _ _ ht,beq_toListBytes]
 ·cases he
theorem FE {P:Program} {t:TypeId} {n:Nat} (hn:zz P t=some n) (w:World) (vs:List Value) (off:Nat) (hs:(∃ fs,P.underlying t=some (.struct fs))∨(n=1∧∃ dd,P.underlying t=some dd∧((∃ k,dd=.int k)∨dd=.bool∨dd=.string)))
  (hl:off+n≤vs.length):(part t vs.toArray off).run P w=.ok (xA P t ((vs.drop off).take n)) w:=by
 rcases hs with ⟨fs,hu⟩ | ⟨rfl,dd,hu,hk⟩
 ·have hag:jB P t=some true:=by simp [jB,hu]
  simp only [part,Sem.run_bind,wg hag,Result.andThen_ok,if_true,Sem.run_pure,zT hn,xA,hu]
  congr 2
  apply Ug
  simp [uM]
 ·have hag:jB P t=some false:=by rcases hk with ⟨k,rfl⟩ | rfl | rfl<;>simp [jB,hu]
  have hv:xA P t ((vs.drop off).take 1)=vs[off]'(by omega):=by
   have:((vs.drop off).take 1)[0]?=some (vs[off]'(by omega)):=by simp
   rcases hk with ⟨k,rfl⟩ | rfl | rfl<;>simp [xA,hu,Uc,this]
  have hg:vs.toArray[off]?=some (vs[off]'(by omega)):=by simp
  simp only [part,Sem.run_bind,wg hag,Result.andThen_ok,uw,if_false,hg,Sem.run_pure,hv]
theorem KB {P:Program} {d:Nat} {t:TypeId} {ks:List Nat} (hf:yQ P d t=some ks) :
  (∃ fs,P.underlying t=some (.struct fs))∨(ks.length=1∧∃ dd,P.underlying t=some dd∧((∃ k,dd=.int k)∨dd=.bool∨dd=.string)):=by
 cases d with
 | zero=>simp [yQ] at hf
 | succ d=>
  simp only [yQ] at hf
  split at hf
  ·rename_i k hu;cases hf;exact .inr ⟨rfl,_,hu,.inl ⟨k,rfl⟩⟩
  ·rename_i hu;cases hf;exact .inr ⟨rfl,_,hu,.inr (.inl rfl)⟩
  ·rename_i hu;cases hf;exact .inr ⟨rfl,_,hu,.inr (.inr rfl)⟩
  ·rename_i fs hu;exact .inl ⟨fs,hu⟩
  ·cases hf
theorem M8 {P:Program} {Z:Nat→Nat}:∀ (d D:Nat) (t:TypeId) (ks:List Nat),yQ P d t=some ks→d≤D→∀ (cD bs:List IV) (us vs:List Value) (r:Bool),ic Z w cD us→ic Z w bs vs→qt ks cD bs=some r →
  (Op.equalIn D t (xA P t us) (xA P t vs)).run P w=.ok r w:=by
 intro d
 induction d with
 | zero=>intro D t ks hf;simp [yQ] at hf
 | succ d ih=>
  intro D t ks hf hD cD bs us vs r ha hb he
  cases D with
  | zero=>omega
  | succ D=>
   simp only [yQ] at hf
   split at hf
   ·rename_i kk hu;cases hf;exact J8 hu (.inl ⟨rfl,kk,rfl⟩) ha hb he D
   ·rename_i hu;cases hf;exact J8 hu (.inr (.inl ⟨rfl,rfl⟩)) ha hb he D
   ·rename_i hu;cases hf;exact J8 hu (.inr (.inr ⟨rfl,rfl⟩)) ha hb he D
   ·rename_i fs hu
    split at hf
    ·cases hf
    ·rename_i hst
     have Al:P.stoodInHeld t=false:=by simpa using hst
     have hfo:P.fieldsOf t=fs:=by simp [Program.fieldsOf,hu]
     have hv:∀ l:List Value,xA P t l=.agg l.toArray:=fun l=>by simp [xA,hu]
     rw [hv,hv,run_equalIn_struct w D t _ _ (by rw [hfo];exact hu) Al,hfo]
     have key:∀ (fl:List Field) (n:Nat) (ks:List Nat) (r:Bool),JY P (yQ P d) n fl=some ks→n+ks.length≤us.length→n+ks.length≤vs.length→qt ks (cD.drop n |>.take ks.length) (bs.drop n |>.take ks.length)=some r →
       (Op.eqFields D us.toArray vs.toArray fl).run P w=.ok r w:=by
      intro fl
      induction fl with
      | nil=>
       intro n ks r h1 _ _ h2
       simp [JY] at h1
       subst h1
       simp [qt] at h2
       subst h2
       simp [Op.eqFields]
      | cons f fl Ab=>
       intro n ks r h1 fK hl2 h2
       simp only [JY] at h1
       split at h1
       ·rename_i hname
        split at h1
        ·rename_i kf Dd
         split at h1
         ·rename_i hsize
          split at h1
          ·rename_i rest mZ
           cases h1
           simp only [u0] at fK hl2
           obtain ⟨r1,r2,h3,h4,rfl⟩:=JP h2
           obtain ⟨hn1,hn2⟩:=hname
           have hp1:=FE (P:=P) (n:=kf.length) hsize w us f.offset (KB Dd) (by omega)
           have hp2:=FE (P:=P) (n:=kf.length) hsize w vs f.offset (KB Dd) (by omega)
           have heq:=ih D f.type kf Dd (by omega) ((cD.drop f.offset).take kf.length) ((bs.drop f.offset).take kf.length) ((us.drop f.offset).take kf.length) ((vs.drop f.offset).take kf.length) r1
            ((ha.drop _).take _) ((hb.drop _).take _) (by
             rw [hn2]
             simpa [List.take_take,Nat.min_eq_left (uQ kf.length rest.length)] using h3)
           simp only [Op.eqFields,if_pos hn1,Sem.run_bind,hp1,hp2,Result.andThen_ok,heq,Sem.run_ite]
           cases r1 with
           | false=>simp
           | true=>
            simp only [Bool.not_true,uw,if_false,Bool.true_and]
            refine Ab (n+kf.length) rest r2 mZ (by omega) (by omega) ?_
            rw [←h4]
            congr 1
            ·rw [u9,Ua];congr 1;simp
            ·rw [u9,Ua];congr 1;simp
          ·cases h1
         ·cases h1
        ·cases h1
       ·cases h1
     obtain ⟨fK,hl2⟩:=Qt he
     refine key fs.toList 0 ks r hf (by rw [←ha.1];omega) (by rw [←hb.1];omega) ?_
     rw [Ub,Ub,uU (by omega),uU (by omega)]
     exact he
   ·cases hf
theorem Vx {x:AV} {v:Value} {l:List IV} (hx:ZZ x=some l) (hv:RV C g h N w x v):∃ vs,v=.agg vs.toArray∧ic g.Z w l vs:=by
 unfold ZZ at hx
 split at hx
 ·cases hx
  cases hv with
  | ax _ _ hr=>cases hr with | agg _ vs hl h1 hr=>exact ⟨vs,rfl,hl,hr⟩
 ·rename_i cs
  obtain ⟨h1,h2⟩:=qi hx
  cases hv with
  | agg _ vs hl h1' hr=>
   refine ⟨vs,rfl,by rw [h1];exact hl,fun j c u hj hu => ?_⟩
   have hlt:j < cs.length:=by rw [←h1];exact (ua.1 hj).1
   obtain ⟨c',hc1,eC⟩:=h2 j cs[j] (by simp)
   rw [hj] at hc1
   cases hc1
   exact YP eC (hr j cs[j] u (by simp) hu)
 ·cases hx
theorem M9 {x:AV} {v:Value} {l:List IV} (hx:ZZ x=some l) (hv:RV C g h N w x v):RI g.Z w (.agg l) v:=by
 unfold ZZ at hx
 split at hx
 ·cases hx
  cases hv with
  | ax _ _ hr=>exact hr
 ·rename_i cs
  obtain ⟨h1,h2⟩:=qi hx
  cases hv with
  | agg _ vs hl h1' hr=>
   refine .agg _ vs (by rw [h1];exact hl) h1' fun j c u hj hu => ?_
   have hlt:j < cs.length:=by rw [←h1];exact (ua.1 hj).1
   obtain ⟨c',hc1,eC⟩:=h2 j cs[j] (by simp)
   rw [hj] at hc1
   cases hc1
   exact YP eC (hr j cs[j] u (by simp) hu)
 ·cases hx
theorem Na {o:Oper} {t:TypeId} {fs:Array Field} {x:Operand} (ho:o.op=.makeInterface t x) (ht:C.P.underlying t=some (.struct fs)):aP C o (.BE t (C.bf x)):=by
 intro g h N w id ev val r aO R hid hv he
 have hx:=hv x (by simp [ho,Op.operands])
 simp only [ai] at he
 split at he
 ·rename_i l e1
  simp only [Option.some.injEq,Prod.mk.injEq] at he
  obtain ⟨rfl,rfl⟩:=he
  exact ⟨.iface t (val x),w,.inl (by simp [execOp,ho,Instr.makeInterface,run_underlying ht]),zs R (.ax _ _ (.iface t _ _ (M9 e1 hx)))⟩
 ·cases he
theorem KC {o:Oper} {t t':TypeId} {op:BinOp} {neg:Bool} {ks:List Nat} {fs:Array Field} {x y:Operand} (ho:o.op=.binOp op t x y t') (ht:C.P.underlying t=some (.struct fs))
  (hf:yQ C.P 9 t=some ks) (hg:C.P.eqGuardType C.P.depth t=false) (hop:op=if neg then .neq else .eql):aP C o (.eqs neg ks (C.bf x) (C.bf y)):=by
 intro g h N w id ev val r aO R hid hv he
 have hx:=hv x (by simp [ho,Op.operands])
 have hy:=hv y (by simp [ho,Op.operands])
 simp only [ai] at he
 split at he
 ·rename_i a b e1 e2
  split at he
  ·rename_i rr hr
   simp only [Option.some.injEq,Prod.mk.injEq] at he
   obtain ⟨rfl,rfl⟩:=he
   obtain ⟨us,FF,Nb⟩:=Vx e1 hx
   obtain ⟨vs,lB,sj⟩:=Vx e2 hy
   have:=M8 (P:=C.P) (w:=w) 9 10000 t ks hf (by omega) a b us vs rr Nb sj hr
   have FG:∀ l:List Value,xA C.P t l=.agg l.toArray:=fun l=>by simp [xA,ht]
   rw [FG,FG] at this
   refine ⟨.bool (if neg then !rr else rr),w,.inl ?_,zs R (.ax _ _ (.bool _))⟩
   subst hop
   cases neg with
   | false=>simp only [uw,if_false] at ho ⊢; simp [execOp,ho,FF,lB,run_eqGuard_agg w _ t x y _ _ hg,run_eql_struct,this]
   | true=>simp only [if_true] at ho ⊢; simp [execOp,ho,FF,lB,run_eqGuard_agg w _ t x y _ _ hg,run_neq_struct,this]
  ·cases he
 ·cases he
end
end
section
section
variable {C:Ctx} {g g':Gh} {h h':Nat→Option aG} {N N':Nat→Prop} {w w':World} {id:Nat}
def Gh.move (g:Gh) (i id b:Nat):Gh:=⟨fun k=>if k=id then some b else if k=i then none else g.ρ k,g.Z⟩
theorem Z6 (R:RH C g h N w) (hid:¬ N id) {i mh:Nat} {eH:List (List AV)} (hi:h i=some (.af mh eH)) {b':Nat} {w1:World} {c':Array Value} {e':TypeId}
  (hos:w1.os=w.os) (tB:w1.tape=w.tape) (hout:w1.output=w.output) (hsize:w.heap.size≤w1.heap.size) (iP:∀ k,k < w.heap.size→k≠b'→w1.heap[k]?=w.heap[k]?)
  (hfresh:w.heap.size≤b'∨g.ρ i=some b') (hz:g.Z b'=0) (hblk:w1.heap[b']?=some (.cells c' e' (0,0)))
  (sk:∀ (c:Array Value) (e:TypeId),w.heap[b']?=some (.cells c e (0,0))→∃ c'':Array Value,w1.heap[b']?=some (.cells c'' e (0,0))∧c''.size=c.size)
  {sz:Nat} {af:List (List AV)} (hrl:∀ (k:Nat) (row:List AV),af[k]?=some row→row.length=sz)
  (hrc:∀ (k:Nat) (row:List AV) (j:Nat) (x:AV),af[k]?=some row→row[j]?=some x→∃ cv,c'[k*sz+j]?=some cv∧cv.oneCell'=true∧RV C g h N w x cv)
  {len cap:Nat} (hlen:len=af.length) (Am:len≤cap) (hcap2:cap*sz≤c'.size) :
  Good C g h N w id (.Zak id 0 len) [(id,.af sz af),(i,.dead)] (.slice (some ⟨b',0,none⟩) len cap) w1:=by
 have hN:=R.key i _ hi
 have hne:i≠id:=fun e=>hid (e ▸ hN)
 have mC:∀ k,N k→k≠id:=fun k hk e=>hid (e ▸ hk)
 have iQ:∀ k o,bz [(id,aG.af sz af),(i,.dead)] h k=some o→(k=id∧o=.af sz af)∨(k=i∧o=.dead)∨(k≠id∧k≠i∧h k=some o):=fun k o ho=>by
  simp only [bz] at ho
  split at ho
  ·rename_i e;cases ho;exact .inl ⟨e.symm,rfl⟩
  ·rename_i e
   split at ho
   ·rename_i e2;cases ho;exact .inr (.inl ⟨e2.symm,rfl⟩)
   ·rename_i e2;exact .inr (.inr ⟨fun e3=>e e3.symm,fun e3=>e2 e3.symm,ho⟩)
 have sq:∀ k b,g.ρ k=some b→k≠i→b≠b':=fun k b hk hki e=>by
  rcases hfresh with hf | hf
  ·have:=(R.lt k b hk).1;omega
  ·exact hki (R.inj k i b hk (e ▸ hf))
 have E:bW g h N w (g.move i id b') (bz [(id,.af sz af),(i,.dead)] h) (qh N id) w1:={
  os:=hos
  tape:=tB
  output:=hout
  size:=hsize
  old:=fun b hb ho=>⟨iP b hb (fun e=>by
   rcases hfresh with hf | hf
   ·omega
   ·exact ho ⟨i,by rw [e];exact hf⟩),rfl⟩
  own:=fun b ⟨k,hk⟩=>by
   simp only [Gh.move] at hk
   split at hk
   ·cases hk
    rcases hfresh with hf | hf
    ·exact .inr hf
    ·exact .inl ⟨i,hf⟩
   ·split at hk
    ·cases hk
    ·exact .inl ⟨k,hk⟩
  bY:=fun _=>uc _
  cell:=iD.heap fun b ho=>iP b (R.dX b ho) (fun e=>by subst e;omega)
  shape:=fun b c e hb=>by
   by_cases FH:b=b'
   ·subst FH;exact sk c e hb
   ·exact ⟨c,(iP b (z6 hb) FH).trans hb,rfl⟩
  next:=fun k hk=>.inl hk
  eb:=fun k b hb o ho hnd hk=>by
   rcases iQ k o ho with ⟨h1,h2⟩ | ⟨h1,h2⟩ | ⟨h1,h2,h3⟩
   ·exact absurd h1 (mC k hk)
   ·exact absurd h2 hnd
   ·exact .inl (by simp only [Gh.move];rw [if_neg h1,if_neg h2];exact hb)
  cE:=fun k hb hk o ho hnd=>by
   rcases iQ k o ho with ⟨h1,h2⟩ | ⟨h1,h2⟩ | ⟨h1,h2,h3⟩
   ·exact absurd h1 (mC k hk)
   ·exact absurd h2 hnd
   ·exact .inl (by simp only [Gh.move];rw [if_neg h1,if_neg h2];exact hb)
  af:=fun k hk s r ho=>by
   rcases iQ k _ ho with ⟨h1,h2⟩ | ⟨h1,h2⟩ | ⟨h1,h2,h3⟩
   ·exact absurd h1 (mC k hk)
   ·cases h2
   ·exact ⟨r,h3,rfl⟩
  cR:=fun k hk s l ho=>by
   rcases iQ k _ ho with ⟨h1,h2⟩ | ⟨h1,h2⟩ | ⟨h1,h2,h3⟩
   ·cases h2
   ·cases h2
   ·exact ⟨l,h3,uc _⟩
  maps:=fun k hk es ho=>by
   rcases iQ k _ ho with ⟨h1,h2⟩ | ⟨h1,h2⟩ | ⟨h1,h2,h3⟩
   ·cases h2
   ·cases h2
   ·exact ⟨es,h3⟩
  fB:=fun k hk ll RR s pe ho=>by
   rcases iQ k _ ho with ⟨h1,h2⟩ | ⟨h1,h2⟩ | ⟨h1,h2,h3⟩
   ·cases h2
   ·cases h2
   ·exact ⟨s,pe,h3⟩}
 refine ⟨g.move i id b',E,⟨fun k l b hk hl => ?_,fun k b hk => ?_,fun k o ho => ?_,fun k b o hk ho => ?_,fun k s l ho hn => ?_,fun b hb=>u4 (R.dX b hb) hsize,R.fix.eO E⟩,?_⟩
 ·simp only [Gh.move] at hk hl
  split at hk
  ·rename_i e1
   cases hk
   split at hl
   ·rename_i e2;rw [e1,e2]
   ·split at hl
    ·cases hl
    ·rename_i e2 e3;exact absurd rfl (sq l _ hl e3)
  ·rename_i e1
   split at hk
   ·cases hk
   ·rename_i e2
    split at hl
    ·cases hl;exact absurd rfl (sq k _ hk e2)
    ·split at hl
     ·cases hl
     ·exact R.inj k l b hk hl
 ·simp only [Gh.move] at hk
  split at hk
  ·rename_i e1;cases hk;exact ⟨z6 hblk,.inr e1⟩
  ·split at hk
   ·cases hk
   ·exact ⟨u4 (R.lt k b hk).1 hsize,.inl (R.lt k b hk).2⟩
 ·rcases iQ k o ho with ⟨h1,_⟩ | ⟨h1,_⟩ | ⟨_,_,h3⟩
  ·exact .inr h1
  ·exact .inl (h1 ▸ hN)
  ·exact .inl (R.key k o h3)
 ·rcases iQ k o ho with ⟨h1,h2⟩ | ⟨h1,h2⟩ | ⟨h1,h2,h3⟩
  ·subst h2
   simp only [Gh.move,if_pos h1] at hk
   cases hk
   refine ⟨hz,c',e',hblk,hrl,fun q row j x hq hj => ?_⟩
   obtain ⟨cv,a1,a2,a3⟩:=hrc q row j x hq hj
   exact ⟨cv,a1,a2,a3.mono E⟩
  ·subst h2;trivial
  ·simp only [Gh.move] at hk
   rw [if_neg h1,if_neg h2] at hk
   exact (R.obj k b o hk h3).keep E (iP b (R.lt k b hk).1 (sq k b hk h2)) rfl
 ·rcases iQ k _ ho with ⟨h1,h2⟩ | ⟨h1,h2⟩ | ⟨h1,h2,h3⟩
  ·cases h2
  ·cases h2
  ·simp only [Gh.move] at hn
   rw [if_neg h1,if_neg h2] at hn
   exact R.cQ k s l h3 hn
 ·refine .Zak id 0 len _ (.inr rfl) rfl fun sz' dY ho => ?_
  simp only [bz,if_pos] at ho
  cases ho
  exact ⟨by omega,.inr ⟨b',cap,c',e',by simp [Gh.move],by simp,Am,hblk,by simpa using hcap2⟩⟩
theorem KF (R:RH C g h N w) (hid:¬ N id) (sz:Nat):Good C g h N w id (.Zak id 0 0) [(id,.af sz [])] (.slice none 0 0) w:=by
 have ne:∀ i,N i→id≠i:=fun i hi e=>hid (e ▸ hi)
 have E:bW g h N w g (bz [(id,.af sz [])] h) (qh N id) w:=
  ⟨rfl,rfl,rfl,uc _,fun _ _ _=>⟨rfl,rfl⟩,fun _ h=>.inl h,fun _=>uc _,⟨fun _ _ _=>rfl,fun _ _ _ _ _=>rfl⟩,fun b c e hb=>⟨c,hb,rfl⟩,fun _ h=>.inl h,fun i b hb _ _ _ _=>.inl hb,fun i hb _ _ _ _=>.inl hb,
   fun i hi s r ho=>⟨r,by simp only [bz] at ho;rwa [if_neg (ne i hi)] at ho,rfl⟩,fun i hi s r ho=>⟨r,by simp only [bz] at ho;rwa [if_neg (ne i hi)] at ho,uc _⟩,
   fun i hi r ho=>⟨r,by simp only [bz] at ho;rwa [if_neg (ne i hi)] at ho⟩,
   fun i hi l R s pe ho=>⟨s,pe,by simp only [bz] at ho;rwa [if_neg (ne i hi)] at ho⟩⟩
 have hn:=R.lH hid
 refine ⟨g,E,⟨R.inj,fun i b hb=>⟨(R.lt i b hb).1,.inl (R.lt i b hb).2⟩,fun i o ho => ?_,fun i b o hb ho => ?_,fun i s l ho hr => ?_,R.dX,R.fix.eO E⟩,?_⟩
 ·simp only [bz] at ho
  split at ho
  ·rename_i e;exact .inr e.symm
  ·exact .inl (R.key i o ho)
 ·simp only [bz] at ho
  split at ho
  ·rename_i e;subst e;rw [hn] at hb;cases hb
  ·exact (R.obj i b o hb ho).keep E rfl rfl
 ·simp only [bz] at ho
  split at ho
  ·cases ho
  ·exact R.cQ i s l ho hr
 ·refine .Zak id 0 0 _ (.inr rfl) rfl fun s af ho => ?_
  simp only [bz,if_pos] at ho
  cases ho
  exact ⟨uc _,.inl ⟨hn,rfl,rfl⟩⟩
theorem FI {i len sz:Nat} {af:List (List AV)} {v:Value} (R:RH C g h N w) (hid:¬ N id) (hv:RV C g h N w (.Zak i 0 len) v) (ho:h i=some (.af sz af)) (hl:len=af.length):Good C g h N w id (.Zak id 0 len) [(id,.af sz af),(i,.dead)] v w:=by
 cases hv with
 | Zak _ _ _ _ hni h1 hp=>
  obtain ⟨h2,h3⟩:=hp sz af ho
  rcases h3 with ⟨a1,a2,a3⟩ | ⟨b,cap,c,e,b1,b2,b3,b4,b5⟩
  ·subst a2 a3 hl
   obtain ⟨g',E,H,hv⟩:=KF (id:=id) R hid sz
   have ne:i≠id:=fun e=>hid (e ▸ hni)
   have hh:∀ k o,bz [(id,aG.af sz []),(i,.dead)] h k=some o→(k=i∧o=.dead)∨(k≠i∧bz [(id,aG.af sz [])] h k=some o):=fun k o hk=>by
    simp only [bz] at hk ⊢
    split at hk
    ·rename_i e;subst e;cases hk;exact .inr ⟨fun e=>ne e.symm,by rw [if_pos rfl]⟩
    ·rename_i e
     split at hk
     ·rename_i e2;cases hk;exact .inl ⟨e2.symm,rfl⟩
     ·rename_i e2;exact .inr ⟨fun e3=>e2 e3.symm,by rw [if_neg e];exact hk⟩
   have o6:g'.ρ i=none:=by
    cases hr:g'.ρ i with
    | none=>rfl
    | some b=>
     have h4:=H.obj i b (.af sz []) hr (by simp only [bz];rw [if_neg (fun e=>ne e.symm)];exact ho)
     have h5:g'.ρ i=none:=by
      rcases E.cE i a1 hni (.af sz []) (by simp only [bz];rw [if_neg (fun e=>ne e.symm)];exact ho) (by simp) with h6 | ⟨_,_,_,_,_,h7,_⟩
      ·exact h6
      ·cases h7
     rw [h5] at hr;cases hr
   have E2:bW g' (bz [(id,aG.af sz [])] h) (qh N id) w g' (bz [(id,aG.af sz []),(i,.dead)] h) (qh N id) w:={
    os:=rfl
    tape:=rfl
    output:=rfl
    size:=uc _
    old:=fun _ _ _=>⟨rfl,rfl⟩
    own:=fun _ h=>.inl h
    bY:=fun _=>uc _
    cell:=iD.refl _ _
    shape:=fun b c e h=>⟨c,h,rfl⟩
    next:=fun _ h=>h
    eb:=fun k b h _ _ _ _=>.inl h
    cE:=fun k h _ _ _ _=>.inl h
    af:=fun k _ s r hk=>by
     rcases hh k _ hk with ⟨_,h7⟩ | ⟨_,h7⟩
     ·cases h7
     ·exact ⟨r,h7,rfl⟩
    cR:=fun k _ s r hk=>by
     rcases hh k _ hk with ⟨_,h7⟩ | ⟨_,h7⟩
     ·cases h7
     ·exact ⟨r,h7,uc _⟩
    maps:=fun k _ r hk=>by
     rcases hh k _ hk with ⟨_,h7⟩ | ⟨_,h7⟩
     ·cases h7
     ·exact ⟨r,h7⟩
    fB:=fun k _ ll RR s pe hk=>by
     rcases hh k _ hk with ⟨_,h7⟩ | ⟨_,h7⟩
     ·cases h7
     ·exact ⟨s,pe,h7⟩}
   refine ⟨g',E.trans E2,⟨H.inj,H.lt,fun k o hk => ?_,fun k b o hb hk => ?_,fun k s l hk hr => ?_,H.dX,H.fix.eO E2⟩,hv.mono E2⟩
   ·rcases hh k o hk with ⟨h7,h8⟩ | ⟨h7,h8⟩
    ·subst h7;exact .inl hni
    ·exact H.key k o h8
   ·rcases hh k o hk with ⟨h7,h8⟩ | ⟨h7,h8⟩
    ·subst h8;trivial
    ·exact (H.obj k b o hb h8).keep E2 rfl rfl
   ·rcases hh k _ hk with ⟨h7,h8⟩ | ⟨h7,h8⟩
    ·cases h8
    ·exact H.cQ k s l h8 hr
  ·subst hl b2
   have mD:=R.obj i b _ b1 ho
   simp only [cC] at mD
   obtain ⟨z0,c2,e2,c3,c4,c5⟩:=mD
   rw [b4] at c3
   cases c3
   have:=Z6 (id:=id) (b':=b) (w1:=w) R hid ho rfl rfl rfl (uc _) (fun _ _ _=>rfl) (.inr b1) z0 b4 (fun c e hc=>⟨c,hc,rfl⟩) c4 c5 rfl b3 (by simpa using b5)
   simpa using this
theorem Nc {o:Oper} {t t' e:TypeId} {d:TypeDesc} {s x:Operand} {sz bG:Nat} {z:List AV} (ho:o.op=.call {callee:=.builtin .append,args := #[s,x],argTypes := #[t,t']})
  (ht:C.P.underlying t=some (.slice e)) (ht':C.P.underlying t'=some d) (hd:∀ k,d≠.int k) (hsz:zz C.P e=some sz) (hby:xz C.P e=some bG) (hz:qA C.P e=some z)
  (h0:0 < sz) (hzl:z.length=sz) (mA:0 < bG):M3 C o sz bG (C.bf s) (C.bf x):=by
 intro g h N w id ev val r aO R hid hv he
 have hs:=hv s (by simp [ho,Op.operands,Call.operands])
 have hx:=hv x (by simp [ho,Op.operands,Call.operands])
 obtain ⟨i,zv,hi,iN,rfl⟩:=jN hz
 have hzs:zv.cells.size=sz:=by simpa using hzl
 have hsize:i.size=sz:=by simpa [zz,hi] using hsz
 have hbytes:i.bytes=bG:=by simpa [xz,hi] using hby
 subst hsize
 subst hbytes
 have exec:∀ v' w',(Builtin.append_ #[t,t'] o.type #[val s,val x]).run C.P w=.ok v' w'→pI C.P (execOp val o) w v' w':=fun v' w' hrun=>by
  refine .inl ?_
  simp [execOp,ho,resolve,invoke,builtin,hrun]
 unfold JX at he
 split at he
 case h_2=>cases he
 rename_i new hnew
 split at he
 ·cases he
 rename_i hall
 have rp:∀ row∈new,row.length=i.size:=fun row hr=>by
  simp only [u6,u7] at hall
  have:=uA.1 hall row hr
  simpa using this
 obtain ⟨a,cp,C9,news,hn1,hn2,rV,Ah⟩:=Vw R hnew hx rp
 have hsrc:Src C.P w i.size new.length (val x) news:=⟨⟨a,cp,C9⟩,hn1,hn2,fun w1 hw1=>Ah C.P w1 hw1⟩
 have BI:∀ (k:Nat) (row:List AV) (j:Nat) (y:AV),new[k]?=some row→row[j]?=some y→∃ u,news[k*i.size+j]?=some u∧u.oneCell'=true∧RV C g h N w y u:=fun k row j y hk hj=>by
  obtain ⟨u,h1,h2⟩:=rV k row j y hk hj
  exact ⟨u,h1,hn2 u (ue h1),h2⟩
 have hnl:∀ (k:Nat) (row:List AV),new[k]?=some row→row.length=i.size:=fun k row hk=>rp row (ue hk)
 split at he
 ·rename_i q off len e1
  rw [e1] at hs
  split at he
  ·rename_i sz' af cF
   cases new with
   | nil=>
    split at he
    case isFalse=>cases he
    rename_i bD
    obtain ⟨rfl,rfl,hlen,hbound⟩:=bD
    simp only [Option.some.injEq,Prod.mk.injEq] at he
    obtain ⟨rfl,rfl⟩:=he
    have nc:=FI (id:=id) R hid hs cF hlen
    simp only [ux,Ue,List.append_nil]
    have hs0:=hs
    cases hs with
    | Zak _ _ _ _ hni hone hp=>
     obtain ⟨h3,h4⟩:=hp _ _ cF
     rcases h4 with ⟨hn,hr,hval⟩ | ⟨b,cap,c,e',hb,hval,hle,hw,hcap⟩
     ·subst hr
      have hl0:len=0:=by simp at h3;omega
      have hrun:=Zt (w:=w) (ty:=o.type) ht hi ht' hd (news:=news) (by simpa using hsrc)
      refine ⟨_,_,exec _ _ (by rw [hval];exact hrun),nc⟩
     ·have BJ:news=[]:=ui (by rw [hn1];simp)
      obtain ⟨⟨a9,Nd,Nf⟩,_,_,hread⟩:=hsrc
      have gF:=hread w rfl
      have iR:(match d with | .int _=>true | _=>false)=false:=by cases d<;>first | rfl | exact absurd rfl (hd _)
      refine ⟨val s,w,exec _ _ ?_,nc⟩
      rw [hval]
      rw [Nf] at gF ⊢
      simp only [ux] at gF
      simp [Builtin.append_,run_underlying ht,sizeOf,typeInfo,hi,Builtin.lenOf,run_underlying ht',iR,hle,gF,BJ,storeCells]
   | cons mj o9=>
    split at he
    ·rename_i bD
     obtain ⟨rfl,rfl,rfl,hbound⟩:=bD
     simp only [Option.some.injEq,Prod.mk.injEq] at he
     obtain ⟨rfl,rfl⟩:=he
     have hpos:0 < (mj::o9).length:=by simp
     cases hs with
     | Zak _ _ _ _ hni hone hp=>
      obtain ⟨h3,h4⟩:=hp _ _ cF
      have FJ:(af++(mj::o9)).length=af.length+(mj::o9).length:=by simp
      have mE:(∀ (k:Nat) (row:List AV),af[k]?=some row→row.length=i.size)→∀ (k:Nat) (row:List AV),(af++(mj::o9))[k]?=some row→row.length=i.size:=fun hh k row hk=>by
       rw [ul] at hk
       split at hk
       ·exact hh k row hk
       ·exact hnl _ row hk
      have mF:∀ (c':Array Value) ,(∀ (k:Nat) (row:List AV) (j:Nat) (y:AV),af[k]?=some row→row[j]?=some y→∃ u,c'[k*i.size+j]?=some u∧u.oneCell'=true∧RV C g h N w y u)→(∀ q u,news[q]?=some u→c'[af.length*i.size+q]?=some u) →
        ∀ (k:Nat) (row:List AV) (j:Nat) (y:AV),(af++(mj::o9))[k]?=some row→row[j]?=some y→∃ u,c'[k*i.size+j]?=some u∧u.oneCell'=true∧RV C g h N w y u:=fun c' hA hB k row j y hk hj=>by
       rw [ul] at hk
       split at hk
       ·exact hA k row j y hk hj
       ·rename_i hge
        obtain ⟨u,a1,a2,a3⟩:=BI _ row j y hk hj
        refine ⟨u,?_,a2,a3⟩
        rw [←hB _ u a1]
        congr 1
        have:af.length*i.size≤k*i.size:=ud _ (by omega)
        rw [uD]
        omega
      rcases h4 with ⟨hn,hr,hval⟩ | ⟨b,cap,c,e',hb,hval,hle,hw,hcap⟩
      ·subst hr
       obtain ⟨cH,rest,hc1,eC,hrun⟩:=Zu (w:=w) (ty:=o.type) (olds:=[]) (L:=0) (cap:=0) (base:=none) ht hi iN ht' hd hval ⟨⟨none,0,hval⟩,by simp,by simp,fun w1 _=>by rw [hval];simp [Builtin.firstCells]⟩ hsrc (by simp) mA (by simpa using hbound)
       simp only [ut,List.nil_append] at hrun hc1 eC
       have sr:(news.toArray++rest).size=cH*i.size:=by
        simp only [uF,uG,hn1,eC,hzs]
        rw [←ug];congr 1;omega
       refine ⟨_,_,exec _ _ hrun,?_⟩
       have:=Z6 (id:=id) (b':=w.heap.size) (w1:=w.drew.alloc (.cells (news.toArray++rest) e (0,0))) R hid cF rfl rfl rfl (by simp) (fun k hk _=>qu w.drew _ hk) (.inl (uc _)) R.mq (zW w.drew _)
        (fun c e hc=>by have:=z6 hc;omega) (sz:=i.size) (af:=[]++(mj::o9)) (mE (fun k row hk=>by simp at hk)) (mF _ (fun k row j y hk=>by simp at hk) (fun q u hq=>by
         have hlt:q < news.length:=(ua.1 hq).1
         simp only [ux,u5,ut]
         rw [un (by simpa using hlt)]
         simpa using hq)) (len:=0+(mj::o9).length) (cap:=cH) (by simp) (by omega) (by omega)
       simpa using this
      ·obtain ⟨gG,c2,e2,oq,gP,iT⟩:=R.obj q b _ hb cF
       rw [hw] at oq
       cases oq
       simp only [ut,u5] at hcap hval
       by_cases hroom:af.length+(mj::o9).length≤cap
       ·have hm1:(af.length+(mj::o9).length)*i.size≤cap*i.size:=ud _ hroom
        have hfit:af.length*i.size+news.length≤c.size:=by rw [hn1,←ug];omega
        have hrun:=J5 (P:=C.P) (w:=w) (ty:=o.type) ht hi ht' hd hw hsrc hroom hfit
        refine ⟨_,_,exec _ _ (by rw [hval];exact hrun),?_⟩
        refine Z6 (id:=id) (b':=b) (w1:=zx w b (.cells (qn c (af.length*i.size) news) e' (0,0))) R hid cF rfl rfl rfl (by rw [jc];exact uc _) (fun k hk hne=>by rw [zD w b _ (z6 hw),if_neg hne]) (.inr hb) gG (c':=qn c (af.length*i.size) news) (e':=e') (by rw [zD w b _ (z6 hw)];simp)
         (fun c3 e3 nS=>by rw [hw] at nS;cases nS;exact ⟨_,by rw [zD w b _ (z6 hw),if_pos rfl],jM _ _ _⟩) (mE gP) (mF _ (fun k row j y hk hj => ?_) (fun p u hp2 => ?_)) (by simp) hroom (by rw [jM];exact hcap)
        ·obtain ⟨cv,a1,a2,a3⟩:=iT k row j y hk hj
         refine ⟨cv,?_,a2,a3⟩
         rw [xQ c _ news hfit,if_neg ?_]
         ·exact a1
         ·have hk':k < af.length:=(ua.1 hk).1
          have hj':j < i.size:=by rw [←gP k row hk];exact (ua.1 hj).1
          have:(k+1)*i.size≤af.length*i.size:=ud _ hk'
          rw [ug] at this
          omega
        ·have hlt:p < news.length:=(ua.1 hp2).1
         rw [xQ c _ news hfit,if_pos (by omega),show af.length*i.size+p - af.length*i.size=p by omega]
         exact hp2
       ·have mB:cap < af.length+(mj::o9).length:=by omega
        have hcell:∀ k,k < af.length*i.size→∃ u,c[k]?=some u∧u.oneCell'=true:=fun k hk=>by
         have hi':k / i.size < af.length:=uq (by rw [uj];exact hk)
         have hrow:af[k / i.size]?=some af[k / i.size]:=ub hi'
         have hj':k % i.size < (af[k / i.size]).length:=by rw [gP _ _ hrow];exact uT _ h0
         obtain ⟨cv,a1,a2,_⟩:=iT _ _ (k % i.size) _ hrow (ub hj')
         refine ⟨cv,?_,a2⟩
         rw [←a1];congr 1
         have:=uJ k i.size
         rw [uj] at this;omega
        obtain ⟨olds,rq,BH⟩:=yS (β:=Value) (uS (af.length*i.size)) (fun _ k u=>c[k]?=some u∧u.oneCell'=true) (fun j k hj=>by
         obtain ⟨fS,hj2⟩:=ua.1 hj
         simp at fS hj2
         subst hj2
         exact hcell j fS)
        have pK:olds.length=af.length*i.size:=by simpa using rq
        have mG:∀ (k:Nat) (u:Value),olds[k]?=some u→c[k]?=some u∧u.oneCell'=true:=fun k u hk=>by
         have hlt:k < af.length*i.size:=by rw [←pK];exact (ua.1 hk).1
         exact BH k k u (by simp [hlt]) hk
        have hold:Src C.P w i.size af.length (val s) olds:=⟨⟨_,cap,hval⟩,pK,fun u hu=>by
         obtain ⟨k,hk⟩:=uk hu
         exact (mG k u hk).2,fun w1 hw1=>by
         rw [hval]
         simp only [Builtin.firstCells]
         rw [←pK]
         refine run_loadCells_list (P:=C.P) w1 _ olds fun k u hk => ?_
         have:w1.heap[b]?=some (.cells c e' (0,0)):=by rw [hw1];exact hw
         rw [qO,qB this,ut]
         exact (mG k u hk).1⟩
        obtain ⟨cH,rest,hc1,eC,hrun⟩:=Zu (w:=w) (ty:=o.type) ht hi iN ht' hd hval hold hsrc mB mA hbound
        have sr:((olds++news).toArray++rest).size=cH*i.size:=by
         simp only [uF,uG,u0,pK,hn1,eC,hzs]
         rw [←ug,←ug];congr 1;omega
        refine ⟨_,_,exec _ _ hrun,?_⟩
        refine Z6 (id:=id) (b':=w.heap.size) (w1:=w.drew.alloc (.cells ((olds++news).toArray++rest) e (0,0))) R hid cF rfl rfl rfl (by simp) (fun k hk _=>qu w.drew _ hk) (.inl (uc _)) R.mq (zW w.drew _)
         (fun c3 e3 nS=>by have:=z6 nS;omega) (mE gP) (mF _ (fun k row j y hk hj => ?_) (fun p u hp2 => ?_)) (by simp) hc1 (by omega)
        ·obtain ⟨cv,a1,a2,a3⟩:=iT k row j y hk hj
         refine ⟨cv,?_,a2,a3⟩
         have hk':k < af.length:=(ua.1 hk).1
         have hj':j < i.size:=by rw [←gP k row hk];exact (ua.1 hj).1
         have:(k+1)*i.size≤af.length*i.size:=ud _ hk'
         rw [ug] at this
         have hlt:k*i.size+j < olds.length:=by omega
         have fc:=(mG (k*i.size+j) olds[k*i.size+j] (ub hlt)).1
         rw [a1] at fc
         cases fc
         rw [un (by simp;omega),uW,uC hlt]
         exact ub hlt
        ·have hlt:p < news.length:=(ua.1 hp2).1
         rw [un (by simp;omega)]
         simp only [uW]
         rw [uz (by omega),←hp2]
         congr 1;omega
    ·cases he
  ·cases he
 ·cases he
theorem Ng {o:Oper} {t t' e:TypeId} {d:TypeDesc} {s x:Operand} {sz bG:Nat} {z:List AV} (ho:o.op=.call {callee:=.builtin .append,args := #[s,x],argTypes := #[t,t']})
  (ht:C.P.underlying t=some (.slice e)) (ht':C.P.underlying t'=some d) (hd:∀ k,d≠.int k) (hsz:zz C.P e=some sz) (hby:xz C.P e=some bG) (hz:qA C.P e=some z)
  (h0:0 < sz) (hzl:z.length=sz) (mA:0 < bG):aP C o (.app sz bG (C.bf s) (C.bf x)):=by
 intro g h N w id ev val r aO R hid hv he
 simp only [ai] at he
 split at he
 ·rename_i i off len e1
  rw [←e1] at he
  exact Nc ho ht ht' hd hsz hby hz h0 hzl mA g h N w id ev val r aO R hid hv he
 ·exact M4 ho ht ht' hd hsz hby hz h0 hzl mA g h N w id ev val r aO R hid hv he
end
end
section
section
variable {C:Ctx} {g g':Gh} {h h':Nat→Option aG} {N N':Nat→Prop} {w w':World} {id:Nat}
theorem FK {Z:Nat→Nat} {row:List IV} {af:List (List IV)} {v:Value} (hr:RI Z w (.slice (row::af)) v):∃ a n cap,v=.slice (some a) n cap:=by
 cases hr with
 | slice _ b off cap sz cv _ _ _ _ _=>exact ⟨_,_,_,rfl⟩
theorem JU {P:Program} {t e:TypeId} (ht:P.underlying t=some (.slice e)) (w:World) (o:Option Addr) (n cap:Nat) :
  (Op.equal t (.slice o n cap) (.slice none 0 0)).run P w=.ok o.isNone w:=by
 have h:∀ d:Nat,(Op.equalIn (d+1) t (.slice o n cap) (.slice none 0 0)).run P w=.ok o.isNone w:=fun d=>by
  cases o<;>simp [Op.equalIn,run_underlying ht]
 exact h 9999
theorem KG {P:Program} {t e:TypeId} (ht:P.underlying t=some (.slice e)) (neg:Bool) (x y:Operand) (w:World) (o:Option Addr) (n cap:Nat) :
  ((do eqGuard (if neg then .neq else .eql) t x y (.slice o n cap) (.slice none 0 0);binOp (if neg then .neq else .eql) t (.slice o n cap) (.slice none 0 0):Sem Value)).run P w=.ok (.bool (if neg then o.isSome else o.isNone)) w:=by
 cases neg<;>simp [eqGuard,binOp,JU ht]
theorem Wu {o:Oper} {t t' e:TypeId} {op:BinOp} {neg:Bool} {x y:Operand} (ho:o.op=.binOp op t x y t') (ht:C.P.underlying t=some (.slice e))
  (hop:op=if neg then .neq else .eql):aP C o (.eS neg (C.bf x) (C.bf y)):=by
 intro g h N w id ev val r aO R hid hv he
 have hx:=hv x (by simp [ho,Op.operands])
 have hy:=hv y (by simp [ho,Op.operands])
 subst hop
 simp only [ai] at he
 split at he
 ·rename_i ey
  rw [ey] at hy
  have hcv:=xl hy
  have exec:∀ v,((do eqGuard (if neg then .neq else .eql) t x y (val x) (.slice none 0 0);binOp (if neg then .neq else .eql) t (val x) (.slice none 0 0):Sem Value)).run C.P w=.ok v w→(execOp val o).run C.P w=.ok (.value v) w:=fun v hr=>by
   simp only [Sem.run_bind] at hr
   simp only [execOp,ho,hcv,Sem.run_bind]
   generalize (eqGuard (if neg then BinOp.neq else .eql) t x y (val x) (.slice none 0 0)).run C.P w=r1 at hr ⊢
   cases r1 with
   | ok u w1=>
    simp only [Result.andThen_ok] at hr ⊢
    rw [hr];rfl
   | halt x w1=>simp [Result.andThen] at hr
  have ot:∀ a n cap,val x=.slice (some a) n cap→AV.ax (.bool neg)=r→[]=aO→∃ v w',pI C.P (execOp val o) w v w'∧Good C g h N w id r aO v w':=fun a n cap hval hr hu=>by
   subst hr;subst hu
   have:=KG ht neg x y w (some a) n cap
   simp only [Option.isSome_some,Option.isNone_some] at this
   exact ⟨.bool neg,w,.inl (exec _ (by rw [hval,this];cases neg<;>rfl)),zs R (.ax _ _ (.bool _))⟩
  split at he
  ·rename_i e1
   rw [e1] at hx
   have hval:=xl hx
   simp only [Option.some.injEq,Prod.mk.injEq] at he
   obtain ⟨rfl,rfl⟩:=he
   have:=KG ht neg x y w none 0 0
   simp only [Option.isSome_none,Option.isNone_none] at this
   exact ⟨.bool (!neg),w,.inl (exec _ (by rw [hval,this];cases neg<;>rfl)),zs R (.ax _ _ (.bool _))⟩
  ·rename_i e1
   rw [e1] at hx
   generalize hval:val x=vx at hx
   simp only [Option.some.injEq,Prod.mk.injEq] at he
   cases hx with
   | cw a cap=>exact ot _ _ _ hval he.1 he.2
  ·rename_i e1
   rw [e1] at hx
   simp only [Option.some.injEq,Prod.mk.injEq] at he
   cases hx with
   | ax _ _ hr=>
    obtain ⟨a,n,cap,hval⟩:=FK hr
    exact ot a n cap hval he.1 he.2
  ·rename_i e1
   rw [e1] at hx
   simp only [Option.some.injEq,Prod.mk.injEq] at he
   cases hx with
   | aU _ _ _ hr _ _=>
    obtain ⟨a,n,cap,hval⟩:=FK hr
    exact ot a n cap hval he.1 he.2
  ·cases he
 ·cases he
theorem Nh {Z:Nat→Nat} {af:List (List IV)} {b off cap sz a r:Nat} {cv:Nat→Nat→Value} (hcap:af.length≤cap) (hsz:∀ (i:Nat) (row:List IV),af[i]?=some row→row.length=sz)
  (hz:∀ (i:Nat) (row:List IV) (j:Nat) (c:IV),af[i]?=some row→row[j]?=some c→off+i*sz+j < Z b)
  (hc:∀ (i:Nat) (row:List IV) (j:Nat) (c:IV),af[i]?=some row→row[j]?=some c→w.cell? ⟨b,off+i*sz+j,none⟩=some (cv i j)∧(cv i j).oneCell'=true)
  (hr:∀ (i:Nat) (row:List IV) (j:Nat) (c:IV),af[i]?=some row→row[j]?=some c→RI Z w c (cv i j)) (har:a≤r) (hrl:r≤af.length) :
  RI Z w (.slice ((af.take r).drop a)) (.slice (some ⟨b,off+a*sz,none⟩) (r - a) (cap - a)):=by
 have hlen:((af.take r).drop a).length=r - a:=by simp;omega
 have cS:∀ (i:Nat) (row:List IV),((af.take r).drop a)[i]?=some row→af[a+i]?=some row:=fun i row hi=>by
  rw [uu,uL] at hi
  split at hi
  ·exact hi
  ·cases hi
 rw [←hlen]
 refine .slice _ b _ (cap - a) sz (fun i j=>cv (a+i) j) (by rw [hlen];omega) (fun i row hi=>hsz _ row (cS i row hi)) (fun i row j c hi hj => ?_) (fun i row j c hi hj => ?_) (fun i row j c hi hj=>hr _ row j c (cS i row hi) hj)
 ·have:=hz _ row j c (cS i row hi) hj
  rw [ug] at this;omega
 ·have:=hc _ row j c (cS i row hi) hj
  rw [ug,←Nat.add_assoc] at this
  exact this
theorem Ni {o:Oper} {t e:TypeId} {x:Operand} {lo hi:Option Operand} {sz:Nat} (ho:o.op=.slice t x lo hi none) (ht:C.P.underlying t=some (.slice e)) (hs:zz C.P e=some sz) :
  aP C o (.slc sz (C.bf x) (lo.map C.bf) (hi.map C.bf)):=by
 intro g h N w id ev val r aO R hid hv he
 have hx:=hv x (by simp [ho,Op.operands])
 have key:∀ (af:List (List IV)),RI g.Z w (.slice af) (val x)→∀ (a b:Int),
   (match lo.map C.bf with | none=>some (0:Int) | some y=>match ev y with | .ax (.int _ n)=>some n | _=>none)=some a →
   (match hi.map C.bf with | none=>some (af.length:Int) | some y=>match ev y with | .ax (.int _ n)=>some n | _=>none)=some b →
   0≤a→a≤b→b≤(af.length:Int)→(af.all fun row=>row.length == sz)=true→r=.ax (.slice ((af.take b.toNat).drop a.toNat))→aO=[] →
   ∃ v w',pI C.P (execOp val o) w v w'∧Good C g h N w id r aO v w':=fun af gh a b ha hb h1 h2 h3 h4 hr hu=>by
  subst hr;subst hu
  obtain ⟨a,rfl⟩:=uR h1
  obtain ⟨b,rfl⟩:=uR (by omega:0≤b)
  simp only [Int.toNat_natCast]
  have hlo:∀ (y:Nat) (cd:BoundsCode),a≤y→∀ (Q:Option Value),Q=lo.map val→(match Q with | some v=>Instr.sliceBound v y cd | none=>pure 0:Sem Nat).run C.P w=.ok a w:=fun y cd hy Q hQ=>by
   cases hl:lo with
   | none=>
    rw [hl] at ha hQ
    simp only [uV,Option.some.injEq] at ha
    subst hQ
    have:a=0:=by omega
    subst this
    rfl
   | some z=>
    rw [hl] at ha hQ
    subst hQ
    simp only [uI] at ha ⊢
    have hz:=hv z (by simp [ho,hl,Op.operands])
    split at ha
    ·rename_i n e1
     cases ha
     rw [e1] at hz
     have:=wI hz
     simp [Instr.sliceBound,this,asIntOf,show (a:Int)≤(y:Int) by omega]
    ·cases ha
  have hhi:∀ (y:Nat) (cd:BoundsCode),b≤y→∀ (Q:Option Value),Q=hi.map val→(match Q with | some v=>Instr.sliceBound v y cd | none=>pure af.length:Sem Nat).run C.P w=.ok b w:=fun y cd hy Q hQ=>by
   cases hl:hi with
   | none=>
    rw [hl] at hb hQ
    simp only [uV,Option.some.injEq] at hb
    subst hQ
    have:b=af.length:=by omega
    subst this
    rfl
   | some z=>
    rw [hl] at hb hQ
    subst hQ
    simp only [uI] at hb ⊢
    have hz:=hv z (by simp [ho,hl,Op.operands])
    split at hb
    ·rename_i n e1
     cases hb
     rw [e1] at hz
     have:=wI hz
     simp [Instr.sliceBound,this,asIntOf,show (b:Int)≤(y:Int) by omega]
    ·cases hb
  have bounds:∀ cap,af.length≤cap→(Instr.sliceBounds true af.length cap (lo.map val) (hi.map val) none).run C.P w=.ok (a,b,cap) w:=fun cap hcap=>by
   have h5:=hhi cap .sliceAcap (by omega) _ rfl
   have h6:=hlo b .sliceB (by omega) _ rfl
   unfold Instr.sliceBounds
   cases hh:hi<;>cases hl:lo<;>simp only [hh,hl,uV,uI,Sem.run_pure,Result.ok.injEq,and_true] at h5 h6<;>simp [h5,h6]
  rcases Jd gh with ⟨rfl,hval⟩ | ⟨bb,off,cap,sz',cv,hval,hcap,hsz,tA,hc,hr⟩
  ·have hb0:b=0:=by simp at h3;omega
   have ha0:a=0:=by omega
   subst hb0;subst ha0
   rcases hval with hval | ⟨aa,cap,hval⟩
   ·refine ⟨.slice none 0 0,w,.inl ?_,zs R (by simpa using RV.ax (C:=C) (g:=g) (h:=h) (N:=N) _ _ RI.nil)⟩
    have hbd:=bounds 0 (by simp)
    simp only [ux] at hbd
    simp [execOp,ho,Instr.sliceAt,Instr.slice,run_underlying ht,hval,hbd,zT hs]
   ·have hbd:=bounds cap (by simp)
    simp only [ux] at hbd
    refine ⟨.slice (some (if cap=0 then aa else aa.add 0)) 0 cap,w,.inl ?_,zs R (by simpa using RV.ax (C:=C) (g:=g) (h:=h) (N:=N) _ _ yl)⟩
    by_cases hca:cap=0
    ·subst hca
     simp [execOp,ho,Instr.sliceAt,Instr.slice,run_underlying ht,hval,hbd,zT hs]
    ·simp [execOp,ho,Instr.sliceAt,Instr.slice,run_underlying ht,hval,hbd,zT hs,hca]
  ·refine ⟨.slice (some (if cap=a then ⟨bb,off,none⟩ else ⟨bb,off+a*sz,none⟩)) (b - a) (cap - a),w,.inl ?_,zs R (.ax _ _ ?_)⟩
   ·have hbd:=bounds cap hcap
    by_cases hca:cap=a
    ·subst hca
     simp [execOp,ho,Instr.sliceAt,Instr.slice,run_underlying ht,hval,hbd,zT hs]
    ·simp [execOp,ho,Instr.sliceAt,Instr.slice,run_underlying ht,hval,hbd,zT hs,hca,qO]
   ·by_cases hca:cap=a
    ·rw [if_pos hca]
     have hba:b - a=0:=by omega
     have hl:((af.take b).drop a)=[]:=ui (by simp;omega)
     rw [hl,hba]
     exact yl
    ·rw [if_neg hca]
     by_cases gF:af=[]
     ·subst gF
      have hb0:b=0:=by simp at h3;omega
      subst hb0
      simp
      exact yl
     ·have hs0:sz'=sz:=by
       cases af with
       | nil=>exact absurd rfl gF
       | cons row rest=>
        have h7:=hsz 0 row rfl
        have h8:=uA.1 h4 row List.mem_cons_self
        simp at h8
        omega
      subst hs0
      exact Nh hcap hsz tA hc hr (by omega) (by omega)
 simp only [ai] at he
 split at he
 ·rename_i af e1
  rw [e1] at hx
  split at he
  ·rename_i a b ha hb
   split at he
   ·rename_i bD
    simp only [Option.some.injEq,Prod.mk.injEq] at he
    cases hx with
    | ax _ _ gh=>exact key af gh a b ha hb bD.1 bD.2.1 bD.2.2.1 bD.2.2.2 he.1.symm he.2.symm
   ·cases he
  ·cases he
 ·rename_i j af e1
  rw [e1] at hx
  split at he
  ·rename_i a b ha hb
   split at he
   ·rename_i bD
    simp only [Option.some.injEq,Prod.mk.injEq] at he
    cases hx with
    | aU _ _ _ gh _ _=>exact key af gh a b ha hb bD.1 bD.2.1 bD.2.2.1 bD.2.2.2 he.1.symm he.2.symm
   ·cases he
  ·cases he
 ·cases he
end
end
section
section
variable {C:Ctx} {g g':Gh} {h h':Nat→Option aG} {N N':Nat→Prop} {w w':World} {id:Nat}
theorem Nj {o:Oper} {x:Operand} (ho:o.op=.nilCheck x):aP C o (.o3 (C.bf x)):=by
 intro g h N w id ev val r aO R hid hv he
 have hx:=hv x (by simp [ho,Op.operands])
 simp only [ai] at he
 split at he
 ·rename_i i r o e1
  rw [e1] at hx
  split at he
  ·rename_i sz af cF
   cases he
   have hx':=hx
   cases hx with
   | ptr _ _ _ _ hni hone hp=>
    obtain ⟨b,hb,hval⟩:=hp _ _ cF
    refine ⟨val x,w,.inl ?_,zs R hx'⟩
    simp [execOp,ho,hval]
  ·cases he
 ·rename_i cs e1
  rw [e1] at hx
  cases he
  have hx':=hx
  generalize hval:val x=v at hx hx'
  cases hx with
  | cz _ b off cv hz hc hr=>
   exact ⟨_,w,.inl (by simp [execOp,ho,hval]),zs R hx'⟩
 ·rename_i f a b e1
  rw [e1] at hx
  cases he
  have hx':=hx
  generalize hval:val x=v at hx hx'
  cases hx with
  | func _ _ _ vf vc hlf hlc hf hc=>
   exact ⟨_,w,.inl (by simp [execOp,ho,hval]),zs R hx'⟩
 ·cases he
theorem Nk {o:Oper} {t e:TypeId} {x ix:Operand} {sz n:Nat} (ho:o.op=.index t x ix) (ht:C.P.underlying t=some (.array n e)) (hn:zz C.P e=some sz) (hag:jB C.P e=some false) :
  aP C o (.ixa n sz (C.bf x) (C.bf ix)):=by
 intro g h N w id ev val r aO R hid hv he
 have hx:=hv x (by simp [ho,Op.operands])
 have hi:=hv ix (by simp [ho,Op.operands])
 simp only [ai] at he
 split at he
 ·rename_i k m cs e1 e2
  rw [e1] at hi
  rw [e2] at hx
  have iE:=wI hi
  split at he
  ·rename_i hle
   obtain ⟨rfl,gM,hle2⟩:=hle
   rw [uh] at he
   obtain ⟨c,hc,he⟩:=he
   cases he
   generalize hval:val x=v at hx
   cases hx with
   | agg _ vs hl h1 hr=>
    have hlt:m.toNat < vs.length:=by rw [←hl];exact (ua.1 hc).1
    refine ⟨vs[m.toNat],w,.inl ?_,zs R (hr _ _ _ hc (by simp))⟩
    have hg:vs.toArray[m.toNat]?=some (vs[m.toNat]'hlt):=by simp
    have hp:(part e vs.toArray m.toNat).run C.P w=.ok vs[m.toNat] w:=by
     simp only [part,Sem.run_bind,wg hag,Result.andThen_ok,uw,if_false,hg,Sem.run_pure]
    simp [execOp,ho,Instr.index,iE,asIntOf,run_underlying ht,hval,gM,hle2,zT hn,hp]
  ·cases he
 ·cases he
theorem Vy {o:Oper} {t:TypeId} {parts:Array (Nat×Operand)} {n sz:Nat} {e:TypeId} {z:List AV} (ho:o.op=.build t parts)
  (ht:C.P.underlying t=some (.array n e)) (hz:qA C.P t=some z) (hsz:zz C.P e=some sz)
  (h1:∀ i v,C.P.info? t=some i→i.zero=some v→j8 v=true):aP C o (.build z (parts.toList.map fun p=>(p.1*sz,sz,C.bf p.2))):=by
 intro g h N w id ev val r aO R hid hv he
 obtain ⟨i,zv,hi,iN,rfl⟩:=jN hz
 have hone:=h1 i zv hi iN
 simp only [ai] at he
 split at he
 ·rename_i qs Af
  split at he
  ·rename_i out hout
   simp only [Option.some.injEq,Prod.mk.injEq] at he
   obtain ⟨rfl,rfl⟩:=he
   have oe:aM (fun p:Nat×Operand=>match (fun i=>some (i*sz,sz):Nat→Option (Nat×Nat)) p.1 with
     | some (o,n)=>some (o,n,C.bf p.2)
     | none=>none) parts.toList=some (parts.toList.map fun p=>(p.1*sz,sz,C.bf p.2)):=by
    generalize parts.toList=l
    induction l with
    | nil=>rfl
    | cons a l ih=>simp only [aM,ih,List.map_cons]
   obtain ⟨c',h2,h3⟩:=Ws (C:=C) (g:=g) (h:=h) (N:=N) (w:=w) (fun i=>some (i*sz,sz)) ev val parts.toList _ qs _ out zv.cells oe Af
    (fun p hp=>hv p.2 (by simp only [ho,Op.operands];simp;exact ⟨p.1,by simpa using hp⟩)) (Z5 hone) hout
   refine ⟨.agg c',w,.inl ?_,zs R ?_⟩
   ·have h2':Instr.fill (fun i=>some (i*sz,sz)) zv.cells (Uf (fun p=>(p.fst,val p.snd)) parts.toList)=some c':=h2
    simp [execOp,ho,Instr.build,zeroValue,typeInfo,hi,iN,run_underlying ht,zT hsz,h2']
   ·have:=RV.agg (C:=C) (g:=g) (h:=h) (N:=N) (w:=w) out c'.toList (by simpa using h3.1) (fun v hv=>by
     obtain ⟨j,hj⟩:=uk hv
     have hlt:j < out.length:=by rw [h3.1];simpa using (ua.1 hj).1
     obtain ⟨u,hu,h4,_⟩:=h3.2 j out[j] (by simp)
     simp only [uH] at hj
     rw [hj] at hu;cases hu;exact h4) (fun j x v hj hj'=>by
     obtain ⟨u,hu,_,h5⟩:=h3.2 j x hj
     simp only [uH] at hj'
     rw [hj'] at hu;cases hu;exact h5)
    simpa using this
  ·cases he
 ·cases he
theorem aP.like {o o':Oper} {ao:cO} (hs:aP C o' ao) (h1:o.op.operands=o'.op.operands) (h2:∀ val,execOp val o=execOp val o'):aP C o ao:=by
 intro g h N w id ev val r aO R hid hv he
 obtain ⟨v,w',h3,h4⟩:=hs g h N w id ev val r aO R hid (fun x hx=>hv x (by rw [h1];exact hx)) he
 exact ⟨v,w',by rw [h2];exact h3,h4⟩
theorem KH {o:Oper} {str:Bool} {t kt et:TypeId} {m k v:Operand} {d:TypeDesc} (ho:o.op=.insert t m k v)
  (ht:C.P.underlying t=some (.map kt et)) (mi:C.P.underlying kt=some d) (hd:yj str d) :
  aP C o (.upd str (C.bf m) (C.bf k) (C.bf v)):=
 aP.like (o':={o with op:=.mapUpdate t m k v}) (J3 rfl ht mi hd) (by simp [ho,Op.operands]) (fun val=>by simp only [execOp,ho])
theorem Nl {o:Oper} {str:Bool} {t kt et:TypeId} {ts:Array TypeId} {m k:Operand} {d:TypeDesc} (ho:o.op=.call {callee:=.builtin .delete,args := #[m,k],argTypes:=ts}) (h0:ts[0]?=some t)
  (ht:C.P.underlying t=some (.map kt et)) (mi:C.P.underlying kt=some d) (hd:yj str d) :
  aP C o (.del str (C.bf m) (C.bf k)):=by
 intro g h N w id ev val r aO R hid hv he
 have hm:=hv m (by simp [ho,Op.operands,Call.operands])
 have hk:=hv k (by simp [ho,Op.operands,Call.operands])
 simp only [ai] at he
 split at he
 ·rename_i i kv e1 e2
  rw [e1] at hm
  rw [e2] at hk
  split at he
  ·rename_i es cF
   split at he
   ·rename_i bD
    simp only [um] at bD
    obtain ⟨hc1,eC⟩:=bD
    obtain ⟨u,hu⟩:=J2 hc1
    have hkv:=C3 hu hk
    simp only [Option.some.injEq,Prod.mk.injEq] at he
    obtain ⟨rfl,rfl⟩:=he
    cases hm with
    | map _ _ hni hone hp=>
     obtain ⟨b,hb,hval⟩:=hp es cF
     obtain ⟨gG,bO,clock,hw,⟨hl,hst⟩,hr⟩:=R.obj i b _ hb cF
     have fq:=fun bb=>Zs (P:=C.P) mi hd w bb u 9999
     have close:∀ (fL:Array MapEntry) (clock':Nat),CQ fL clock' (qW kv es).length →
       (∀ (i:Nat) (k':IV) (x:AV),(qW kv es)[i]?=some (k',x)→∃ e,fL[i]?=some e∧IV.key k'=some e.key∧RV C g h N w x e.val) →
       Good C g h N w id (.tuple []) [(i,.map (qW kv es))] (.tuple #[]) (zx w b (.map fL clock')):=fun fL clock' hl' hr'=>by
      have E:bW g h N w g (bz [(i,.map (qW kv es))] h) (qh N id) (zx w b (.map fL clock')):=
       QA R hb gG (.map es) _ cF _ trivial fun c e hc=>by rw [hw] at hc;cases hc
      refine ⟨g,E,JZ R hb _ _ (fun _ _=>by simp) E ?_,.tuple [] [] rfl (fun j c v hj=>by simp at hj)⟩
      refine ⟨gG,fL,clock',by rw [zD w b _ (z6 hw)];simp,hl',fun i k' x hi => ?_⟩
      obtain ⟨e,h1,h2,h3⟩:=hr' i k' x hi
      exact ⟨e,h1,h2,h3.mono E⟩
     have hfind:=Zr (C:=C) (g:=g) (h:=h) (N:=N) (w:=w) hd hu hc1 es bO.toList 0 (by simpa using hl) (fun i k' x hi=>by obtain ⟨e,h1,h2⟩:=hr i k' x hi;exact ⟨e,by simpa using h1,h2⟩) eC
     rcases hfind with ⟨h1,h2⟩ | ⟨x,j,y,h1,h2,h3,h4,⟨e0,h5,C5⟩,_,h6⟩
     ·have gj:=MU h1 eC
      refine ⟨.tuple #[],zx w b (.map bO clock),.inl ?_,close _ _ ⟨by rw [gj];exact hl,hst⟩ (fun i k' x hi => ?_)⟩
      ·simp only [execOp,ho,resolve,invoke,builtin,Builtin.delete_,hval,hkv,Sem.run_bind,Result.andThen_ok,Sem.run_pure,Uf,Uh,h0,run_underlying ht,jC hw,fq,Instr.findKey,run_underlying mi,h2,wx hw]
       simp [h0,hval,hkv,run_underlying ht,jC hw,fq,Instr.findKey,run_underlying mi,h2,wx hw]
      ·rw [gj] at hi
       exact hr i k' x hi
     ·simp only [ut] at h2
      have hj:j < bO.size:=by rw [hl];exact h4
      refine ⟨.tuple #[],zx w b (.map (bO.eraseIdxIfInBounds j) clock),.inl ?_,close _ _ ⟨by rw [h6,List.length_eraseIdx,if_pos h4,uP,dif_pos hj,Array.size_eraseIdx,hl],Go.MapKept.stamped_erase hst j⟩ (fun i k' x hi => ?_)⟩
      ·simp only [execOp,ho,resolve,invoke,builtin,Builtin.delete_,hval,hkv,Sem.run_bind,Result.andThen_ok,Sem.run_pure,Uf,Uh,h0,run_underlying ht,jC hw,fq,Instr.findKey,run_underlying mi,h2,wx hw]
       simp [h0,hval,hkv,run_underlying ht,jC hw,fq,Instr.findKey,run_underlying mi,h2,wx hw]
      ·rw [h6,List.getElem?_eraseIdx] at hi
       have cS:(bO.eraseIdxIfInBounds j)[i]?=if i < j then bO[i]? else bO[i+1]?:=by
        rw [uP,dif_pos hj,Array.getElem?_eraseIdx]
       rw [cS]
       split at hi
       ·rename_i e3;rw [if_pos e3];exact hr _ k' x hi
       ·rename_i e3;rw [if_neg e3];exact hr _ k' x hi
   ·cases he
  ·cases he
 ·cases he
theorem Nn {o:Oper} {t e:TypeId} {ts:Array TypeId} {d x:Operand} {sz:Nat} (ho:o.op=.call {callee:=.builtin .copy,args := #[d,x],argTypes:=ts}) (h0:ts[0]?=some t)
  (ht:C.P.underlying t=some (.slice e)) (hn:zz C.P e=some sz):aP C o (.copy sz (C.bf d) (C.bf x)):=by
 intro g h N w id ev val r aO R hid hv he
 have hd:=hv d (by simp [ho,Op.operands,Call.operands])
 have hx:=hv x (by simp [ho,Op.operands,Call.operands])
 simp only [ai,BF] at he
 split at he
 ·rename_i i len e1
  rw [e1] at hd
  split at he
  ·rename_i sz' af cF
   split at he
   ·rename_i new hnew
    split at he
    ·rename_i bD
     obtain ⟨hs1,fK,hl2,hall⟩:=bD
     subst hs1
     simp only [Option.some.injEq,Prod.mk.injEq] at he
     obtain ⟨rfl,rfl⟩:=he
     have hsz:∀ row∈new,row.length=sz':=fun row hr=>by simpa using uA.1 hall row hr
     obtain ⟨a,cap,hval,news,hn1,hn2,rV,Ah⟩:=Vw R hnew hx hsz
     generalize Ao:val d=vd at hd
     cases hd with
     | Zak _ _ _ _ hni hone hp=>
      obtain ⟨_,h2⟩:=hp _ _ cF
      have hf:=Ah C.P w rfl
      rw [hval] at hf
      rcases h2 with ⟨_,gF,gl⟩ | ⟨b,cap',c,e',hb,gl,hle,hw,hcap⟩
      ·subst gF gl
       have Ap:len=0:=by simpa using fK
       subst Ap
       have Aq:new=[]:=ui hl2
       subst Aq
       refine ⟨.int .i64 0,w,.inl ?_,?_⟩
       ·simp [execOp,ho,resolve,invoke,builtin,Builtin.copy_,Ao,hval,h0,run_underlying ht,Builtin.lenOf,zT hn,goInt] at hf ⊢
        simp [hf]
       ·have hne:g.ρ i=none∨∃ b,g.ρ i=some b:=by cases g.ρ i<;>simp
        have e0:bz [(i,aG.af sz' [])] h=h:=by
         funext k;simp only [bz];split
         ·rename_i e;subst e;exact cF.symm
         ·rfl
        refine ⟨g,?_,?_,.ax _ _ (.int _ _)⟩
        ·rw [e0];exact bW.add g h N w id
        ·rw [e0];exact R.add id
      ·subst gl
       obtain ⟨w',hs1,hs2⟩:=J0 (id:=id) R hb cF (by omega) hsz news hn1 hn2 rV (.ax (.int .i64 (len:Int))) (.int .i64 (len:Int)) (fun _ _ _ _=>.ax _ _ (.int _ _))
       refine ⟨_,w',.inl ?_,hs2⟩
       rw [hl2] at hf hval
       simp [execOp,ho,resolve,invoke,builtin,Builtin.copy_,Ao,hval,h0,run_underlying ht,Builtin.lenOf,zT hn,goInt,hf,hs1]
    ·cases he
   ·cases he
  ·cases he
 ·cases he
end
end
section
section
variable {C:Ctx} {g g':Gh} {h h':Nat→Option aG} {N N':Nat→Prop} {w w':World} {id:Nat}
theorem Np (R:RH C g h N w) {x:AV} {v:Value} {b:Bool} (he:vM h x=some b) (hv:RV C g h N w x v):∃ o:Option Nat,v=.map o∧o.isNone=b:=by
 unfold vM at he
 split at he
 ·rename_i i
  split at he
  ·rename_i es cF
   cases he
   cases hv with
   | map _ _ hni hone hp=>
    obtain ⟨b,hb,hval⟩:=hp _ cF
    exact ⟨some b,hval,rfl⟩
  ·cases he
 ·cases he
  cases hv with
  | ax _ _ hr=>cases hr with | ff _ b=>exact ⟨some b,rfl,rfl⟩
 ·cases he
  cases hv with
  | ax _ _ hr=>cases hr with | cY=>exact ⟨none,rfl,rfl⟩
 ·cases he
theorem Wr {P:Program} {t k e:TypeId} (ht:P.underlying t=some (.map k e)) (w:World) (o:Option Nat) :
  (Op.equal t (.map o) (.map none)).run P w=.ok o.isNone w:=by
 have h:∀ d:Nat,(Op.equalIn (d+1) t (.map o) (.map none)).run P w=.ok o.isNone w:=fun d=>by
  cases o<;>simp [Op.equalIn,run_underlying ht]
 exact h 9999
theorem Nq {P:Program} {t k e:TypeId} (ht:P.underlying t=some (.map k e)) (neg:Bool) (x y:Operand) (w:World) (o:Option Nat) :
  ((do eqGuard (if neg then .neq else .eql) t x y (.map o) (.map none);binOp (if neg then .neq else .eql) t (.map o) (.map none):Sem Value)).run P w=.ok (.bool (if neg then !o.isNone else o.isNone)) w:=by
 cases neg<;>simp [eqGuard,binOp,Wr ht]
theorem Vz {o:Oper} {t t' kt et:TypeId} {op:BinOp} {neg:Bool} {x y:Operand} (ho:o.op=.binOp op t x y t') (ht:C.P.underlying t=some (.map kt et))
  (hop:op=if neg then .neq else .eql):aP C o (.eqnm neg (C.bf x) (C.bf y)):=by
 intro g h N w id ev val r aO R hid hv he
 have hx:=hv x (by simp [ho,Op.operands])
 have hy:=hv y (by simp [ho,Op.operands])
 subst hop
 simp only [ai] at he
 split at he
 ·rename_i b ey en
  rw [ey] at hy
  have hcv:val y=.map none:=by
   generalize val y=vy at hy
   cases hy with
   | ax _ _ hr=>cases hr with | cY=>rfl
  obtain ⟨om,hval,Nr⟩:=Np R en hx
  simp only [Option.some.injEq,Prod.mk.injEq] at he
  obtain ⟨rfl,rfl⟩:=he
  have exec:∀ v,((do eqGuard (if neg then .neq else .eql) t x y (val x) (.map none);binOp (if neg then .neq else .eql) t (val x) (.map none):Sem Value)).run C.P w=.ok v w→(execOp val o).run C.P w=.ok (.value v) w:=fun v hr=>by
   simp only [Sem.run_bind] at hr
   simp only [execOp,ho,hcv,Sem.run_bind]
   generalize (eqGuard (if neg then BinOp.neq else .eql) t x y (val x) (.map none)).run C.P w=r1 at hr ⊢
   cases r1 with
   | ok u w1=>
    simp only [Result.andThen_ok] at hr ⊢
    rw [hr];rfl
   | halt x w1=>simp [Result.andThen] at hr
  refine ⟨.bool (if neg then !b else b),w,.inl (exec _ ?_),zs R (.ax _ _ (.bool _))⟩
  rw [hval,Nq ht neg x y w om,Nr]
 ·cases he
theorem Ns {x:AV} {v:Value} {cs:List AV} (hx:WO x=some cs) (hv:RV C g h N w x v):∃ vs:List Value,v=.agg vs.toArray∧cs.length=vs.length∧(∀ u∈vs,u.oneCell'=true) ∧
  ∀ (i:Nat) (c:AV) (u:Value),cs[i]?=some c→vs[i]?=some u→RV C g h N w c u:=by
 unfold WO at hx
 split at hx
 ·cases hx
  cases hv with
  | ax _ _ hr=>
   cases hr with
   | agg _ vs hl h1 hr=>
    refine ⟨vs,rfl,by simpa using hl,h1,fun i c u hc hu => ?_⟩
    rw [uo,uh] at hc
    obtain ⟨y,hy,rfl⟩:=hc
    exact .ax _ _ (hr i y u hy hu)
 ·cases hx
  cases hv with
  | agg _ vs hl h1 hr=>exact ⟨vs,rfl,hl,h1,hr⟩
 ·cases hx
theorem Nt {o:Oper} {s:TypeId} {x:Operand} {f n:Nat} {ag:Bool} {fs:Array Field} {fd:Field} (ho:o.op=.field s x f) (hs:C.P.underlying s=some (.struct fs)) (hf:fs[f]?=some fd)
  (hn:zz C.P fd.type=some n) (hag:jB C.P fd.type=some ag) (hn0:n≠0):aP C o (.cut ag fd.offset n (C.bf x)):=by
 intro g h N w id ev val r aO R hid hv he
 have hx:=hv x (by simp [ho,Op.operands])
 simp only [ai] at he
 split at he
 ·rename_i cs e1
  obtain ⟨vs,hval,hl,h1,hr⟩:=Ns e1 hx
  split at he
  ·rename_i hle
   cases ag with
   | true=>
    simp only [if_true,Option.some.injEq,Prod.mk.injEq] at he
    obtain ⟨rfl,rfl⟩:=he
    refine ⟨.agg ((vs.drop fd.offset).take n).toArray,w,.inl ?_,zs R ?_⟩
    ·have e2:vs.toArray.extract fd.offset (fd.offset+n)=((vs.drop fd.offset).take n).toArray:=by
      simp [List.extract_toArray,uM]
     simp [execOp,ho,Instr.field,run_underlying hs,hf,hval,part,asAgg,wg hag,zT hn,e2]
    ·refine .agg _ _ (by simp [hl]) (fun u hu=>h1 u (List.mem_of_mem_drop (List.mem_of_mem_take hu))) fun i c u hc hu => ?_
     rw [uL] at hc hu
     split at hc
     ·rename_i hi
      rw [if_pos hi] at hu
      rw [uu] at hc hu
      exact hr _ c u hc hu
     ·cases hc
   | false=>
    simp only [uw,if_false,uh] at he
    obtain ⟨c,hc,he⟩:=he
    simp only [Prod.mk.injEq] at he
    obtain ⟨rfl,rfl⟩:=he
    have hlt:fd.offset < vs.length:=by omega
    refine ⟨vs[fd.offset],w,.inl ?_,zs R (hr _ c _ hc (by simp))⟩
    simp [execOp,ho,Instr.field,run_underlying hs,hf,hval,part,asAgg,wg hag,hlt]
  ·cases he
 ·cases he
end
end
end Go.Proofs.YtgpojcfkanjabaaGreatDoor
