/-
  The abstract machine: maps with keys of one scalar kind; equality of structs of scalars.
  The abstract machine: append.
  The abstract machine: append, onto slices that a name owns.
  The abstract machine: append is sound.
  The abstract machine: equality of structs of scalars.
  The abstract machine: append onto a slice that its owner also writes into.
  The abstract machine: slices against nil; slice expressions.
  The abstract machine: tests for nil, copy, elements of arrays, arrays that are built, entries of map literals.
  The abstract machine: maps compared with nil; fields of a struct that is a value.
  The abstract machine: every operation that it reads is sound.
  The abstract machine: code, how it is read off the model's code, and what it asks of a state.
-/
import Derived.Test.YtlpmnmbebkdocaaGreatDoorTC01
import Derived.Laws.Append
namespace Go.Proofs.YtlpmnmbebkdocaaGreatDoor
open Go.RowKit
set_option linter.unusedSimpArgs false
set_option linter.unusedVariables false
section
section
variable {C:Ctx} {g g':Gh} {h h':Nat→Option Zaf} {N N':Nat→Prop} {w w':World} {id:Nat}
theorem zdk {k:IV} {v u:Value} (hk:IV.key k=some u) (hv:RV C g h N w (.imm k) v):v=u:=by
  cases hv with
  | imm _ _ hr=>cases hr<;>simp [IV.key] at hk<;>exact hk
theorem zdl (a b:ByteArray):(a == b)=true↔a=b:=by
  rw [beq_toListBytes,ByteArray.toList_eq,ByteArray.toList_eq]
  obtain ⟨⟨x⟩⟩:=a
  obtain ⟨⟨y⟩⟩:=b
  simp
def yL:Bool→TypeDesc→Prop
  | false,d=>∃ k,d=.int k
  | true,d=>d=.string
theorem W9 {str:Bool} {d:TypeDesc} (hd:yL str d) {k k':IV} {u u':Value} (hk:IV.key k=some u) (hk':IV.key k'=some u') {b:Bool} (he:jE k k'=some b)
    (hs:vN str k=true):Instr.sameNow d u u'=some b∧(b=true→u'=u):=by
  cases str with
  | false=>
    obtain ⟨kk,rfl⟩:=hd
    cases k<;>simp [vN] at hs
    cases k'<;>simp [jE] at he
    obtain ⟨rfl,rfl⟩:=he
    simp [IV.key] at hk hk'
    subst hk;subst hk'
    simp [Instr.sameNow]
    exact fun e=>e.symm
  | true=>
    cases hd
    cases k<;>simp [vN] at hs
    cases k'<;>simp [jE] at he
    subst he
    simp [IV.key] at hk hk'
    subst hk;subst hk'
    simp [Instr.sameNow]
    exact fun e=>((zdl _ _).1 e).symm
theorem Qz {str:Bool} {d:TypeDesc} (hd:yL str d) {k:IV} {u:Value} (hk:IV.key k=some u) (hs:vN str k=true) :
    ∀ (es:List (IV×AV)) (ces:List MapEntry) (i0:Nat),ces.length=es.length →
      (∀ (i:Nat) (k':IV) (x:AV),es[i]?=some (k',x)→∃ e,ces[i]?=some e∧IV.key k'=some e.key∧RV C g h N w x e.val)→xf k es=true →
      (ql k es=none∧Instr.findNow d u ces i0=some none) ∨
      (∃ x j v,ql k es=some x∧Instr.findNow d u ces i0=some (some (i0+j,v))∧RV C g h N w x v∧j < es.length ∧
        (∃ e,ces[j]?=some e∧e.key=u)∧∀ y,qx k y es=es.set j (k,y)):=by
  intro es
  induction es with
  | nil=>intro ces i0 hl _ _;simp at hl;subst hl;exact .inl ⟨rfl,rfl⟩
  | cons p es ih=>
    intro ces i0 hl hr hok
    obtain ⟨k',x⟩:=p
    cases ces with
    | nil=>simp at hl
    | cons e ces=>
      obtain ⟨e',he',hk',hx⟩:=hr 0 k' x rfl
      simp at he'
      subst he'
      simp only [xf,List.all_cons,Bool.and_eq_true] at hok
      obtain ⟨b,hb⟩:=Option.isSome_iff_exists.1 hok.1
      obtain ⟨hnow,hsame⟩:=W9 hd hk hk' hb hs
      replace hb:jE k k'=some b:=hb
      cases b with
      | true=>
        have hkey:e.key=u:=hsame rfl
        refine .inr ⟨x,0,e.val,by simp [ql,hb],by simp [Instr.findNow,hnow],hx,by simp,⟨e,rfl,hkey⟩,fun y=>by simp [qx,hb]⟩
      | false=>
        rcases ih ces (i0+1) (by simpa using hl) (fun i k' x hi=>by have:=hr (i+1) k' x (by simpa using hi);simpa using this) hok.2 with ⟨h1,h2⟩ | ⟨x',j,v,h1,h2,h3,h4,h5,h6⟩
        · exact .inl ⟨by simp [ql,hb,h1],by simp [Instr.findNow,hnow,h2]⟩
        · refine .inr ⟨x',j+1,v,by simp [ql,hb,h1],by simp [Instr.findNow,hnow,h2];omega,h3,by simp;omega,by simpa using h5,fun y=>by simp [qx,hb,h6 y]⟩
theorem YD {k:IV}:∀ {es:List (IV×AV)},ql k es=none→xf k es=true→∀ y,qx k y es=es++[(k,y)]:=by
  intro es
  induction es with
  | nil=>intro _ _ y;rfl
  | cons p es ih=>
    obtain ⟨k',x⟩:=p
    intro h1 h2 y
    simp only [xf,List.all_cons,Bool.and_eq_true] at h2
    obtain ⟨b,hb⟩:=Option.isSome_iff_exists.1 h2.1
    replace hb:jE k k'=some b:=hb
    cases b with
    | true=>simp [ql,hb] at h1
    | false=>simp [ql,hb] at h1;simp [qx,hb,ih h1 h2.2 y]
theorem QA {P:Program} {str:Bool} {t:TypeId} {d:TypeDesc} (ht:P.underlying t=some d) (hd:yL str d) (w:World) (b:Bool) (v:Value) (n:Nat):(Instr.checkKey b (n+1) t v).run P w=.ok () w:=by
  cases str with
  | false=>obtain ⟨kk,rfl⟩:=hd;simp [Instr.checkKey,run_underlying ht]
  | true=>cases hd;simp [Instr.checkKey,run_underlying ht]
theorem VQ {str:Bool} {k:IV} (hk:vN str k=true):∃ u,IV.key k=some u:=by
  cases str<;>cases k<;>simp [vN] at hk<;>simp [IV.key]
theorem VR {x:AV} {v:Value} (hv:RV C g h N w x v):RV C g h N w (xC x) v:=by
  cases x with
  | agg cs=>
    simp only [xC]
    split
    · rename_i l hl
      obtain ⟨h1,h2⟩:=z7 hl
      cases hv with
      | agg _ vs hl' h1' hr=>
        refine .imm _ _ (.agg l vs (by rw [h1];exact hl') h1' fun j c u hj hu => ?_)
        have hlt:j < cs.length:=by rw [←h1];exact (List.getElem?_eq_some_iff.1 hj).1
        obtain ⟨c',hc1,hc2⟩:=h2 j cs[j] (by simp)
        rw [hj] at hc1
        cases hc1
        have hc:=hr j cs[j] u (by simp) hu
        generalize cs[j]=y at hc hc2
        cases hc with
        | imm z _ hr=>simp [jk] at hc2;subst hc2;exact hr
        | nil=>simp [jk] at hc2;subst hc2;exact .nil
        | nnil a cap=>simp [jk] at hc2;subst hc2;exact .empty a cap
        | Zas i rows _ hr _ _=>simp [jk] at hc2;subst hc2;exact hr
        | _=>simp [jk] at hc2
    · exact hv
  | _=>exact hv
theorem zbn (z:Value):RV C g h N w (wL z) z:=by
  cases z with
  | agg vs=>
    simp only [wL]
    split
    · rename_i hall
      have:RV C g h N w (.agg (vs.toList.map xk)) (.agg vs.toList.toArray):=.agg _ _ (by simp) (fun v hv=>List.all_eq_true.1 hall v hv) fun i c u hc hu=>by
        rw [List.getElem?_map,hu] at hc
        cases hc
        exact wk u
      exact VR this
    · exact .top _
  | _=>simp only [wL];exact wk _
theorem Kf (R:RH C g h N w) {x:AV} {v:Value} {es:List (IV×AV)} (he:jq h x=some es) (hv:RV C g h N w x v) :
    (v=.map none∧es=[])∨∃ b ces clock,v=.map (some b)∧w.heap[b]?=some (.map ces clock)∧ces.size=es.length ∧
      ∀ (i:Nat) (k:IV) (y:AV),es[i]?=some (k,y)→∃ e,ces[i]?=some e∧IV.key k=some e.key∧RV C g h N w y e.val:=by
  unfold jq at he
  split at he
  · rename_i i
    split at he
    · rename_i es' hob
      cases he
      cases hv with
      | map _ _ hni hone hp=>
        obtain ⟨b,hb,hval⟩:=hp _ hob
        obtain ⟨hz0,ces,clock,hw,hl,hr⟩:=R.obj i b _ hb hob
        exact .inr ⟨b,ces,clock,hval,hw,hl,hr⟩
    · cases he
  · rename_i es'
    cases he
    cases hv with
    | imm _ _ hr=>
      cases hr with
      | omap _ b ces clock ev hz hb hl hk hr=>
        refine .inr ⟨b,ces,clock,rfl,hb,by simpa using hl,fun i k y hi => ?_⟩
        rw [List.getElem?_map,Option.map_eq_some_iff] at hi
        obtain ⟨⟨k0,y0⟩,h1,h2⟩:=hi
        cases h2
        obtain ⟨h3,h4⟩:=hk i _ y0 h1
        exact ⟨ev i,h3,h4,.imm _ _ (hr i _ y0 h1)⟩
  · cases he
    cases hv with
    | imm _ _ hr=>
      cases hr with
      | nomap=>exact .inl ⟨rfl,rfl⟩
  · cases he
theorem XO {o:Oper} {str:Bool} {t kt et:TypeId} {m k:Operand} {ok:Bool} {d:TypeDesc} {ti:TypeInfo} {z:Value} (ho:o.op=.lookup t m k ok)
    (ht:C.P.underlying t=some (.map kt et)) (hkt:C.P.underlying kt=some d) (hd:yL str d) (hi:C.P.info? et=some ti) (hz:ti.zero=some z) :
    OpSound C o (.look str (wL z) ok (C.opd m) (C.opd k)):=by
  intro g h N w id ev val r ups R hid hv he
  have hm:=hv m (by simp [ho,Op.operands])
  have hk:=hv k (by simp [ho,Op.operands])
  simp only [evalOp] at he
  split at he
  · rename_i es kv e1 e2
    rw [e2] at hk
    split at he
    · rename_i hcond
      simp only [Bool.and_eq_true] at hcond
      obtain ⟨hc1,hc2⟩:=hcond
      obtain ⟨u,hu⟩:=VQ hc1
      have hkv:=zdk hu hk
      have hzero:RV C g h N w (if ok then .tuple [wL z,.imm (.bool false)] else wL z) (if ok then .tuple #[z,.bool false] else z):=by
        cases ok with
        | true=>exact .tuple [wL z,.imm (.bool false)] [z,.bool false] rfl (fun j c v hj hj'=>by
            rcases j with _ | _ | j
            · simp at hj hj';subst hj;subst hj';exact zbn z
            · simp at hj hj';subst hj;subst hj';exact .imm _ _ (.bool _)
            · simp at hj)
        | false=>exact zbn z
      have hchk:=fun bb=>QA (P:=C.P) hkt hd w bb u 9999
      rcases Kf R e1 hm with ⟨hval,rfl⟩ | ⟨b,ces,clock,hval,hw,hl,hr⟩
      · simp only [ql,Option.some.injEq,Prod.mk.injEq] at he
        obtain ⟨rfl,rfl⟩:=he
        have h2:Instr.findNow d u [] 0=some none:=by simp [Instr.findNow]
        refine ⟨if ok then .tuple #[z,.bool false] else z,w,.inl ?_,zm R hzero⟩
        have hrun:(Instr.lookup t (.map none) u ok).run C.P w=.ok (if ok then .tuple #[z,.bool false] else z) w:=by
          simp only [Instr.lookup,Sem.run_bind,run_underlying ht,Result.andThen_ok,Sem.run_pure,hchk,Instr.findKey,run_underlying hkt,h2,zeroValue,typeInfo,run_program,hi,hz]
        simp only [execOp,ho,hval,hkv,Sem.run_bind,hrun,Result.andThen_ok,Sem.run_pure]
      have hfind:=Qz (C:=C) (g:=g) (h:=h) (N:=N) (w:=w) hd hu hc1 es ces.toList 0 (by simpa using hl) (fun i k' x hi=>by obtain ⟨e,h1,h2⟩:=hr i k' x hi;exact ⟨e,by simpa using h1,h2⟩) hc2
      rcases hfind with ⟨h1,h2⟩ | ⟨x,j,v,h1,h2,h3,h4,h5,h6⟩
      · rw [h1] at he
        simp only [Option.some.injEq,Prod.mk.injEq] at he
        obtain ⟨rfl,rfl⟩:=he
        refine ⟨if ok then .tuple #[z,.bool false] else z,w,.inl ?_,zm R hzero⟩
        have hrun:(Instr.lookup t (.map (some b)) u ok).run C.P w=.ok (if ok then .tuple #[z,.bool false] else z) w:=by
          simp only [Instr.lookup,Sem.run_bind,run_underlying ht,Result.andThen_ok,wN hw,Sem.run_pure,hchk,Instr.findKey,run_underlying hkt,h2,zeroValue,typeInfo,run_program,hi,hz]
        simp only [execOp,ho,hval,hkv,Sem.run_bind,hrun,Result.andThen_ok,Sem.run_pure]
      · rw [h1] at he
        simp only [Option.some.injEq,Prod.mk.injEq] at he
        obtain ⟨rfl,rfl⟩:=he
        refine ⟨if ok then .tuple #[v,.bool true] else v,w,.inl ?_,zm R ?_⟩
        · have hrun:(Instr.lookup t (.map (some b)) u ok).run C.P w=.ok (if ok then .tuple #[v,.bool true] else v) w:=by
            simp only [Instr.lookup,Sem.run_bind,run_underlying ht,Result.andThen_ok,wN hw,Sem.run_pure,hchk,Instr.findKey,run_underlying hkt,h2]
          simp only [execOp,ho,hval,hkv,Sem.run_bind,hrun,Result.andThen_ok,Sem.run_pure]
        · cases ok with
          | true=>exact .tuple [x,.imm (.bool true)] [v,.bool true] rfl (fun j c v' hj hj'=>by
              rcases j with _ | _ | j
              · simp at hj hj';subst hj;subst hj';exact h3
              · simp at hj hj';subst hj;subst hj';exact .imm _ _ (.bool _)
              · simp at hj)
          | false=>exact h3
    · cases he
  · cases he
theorem Kg {k:IV} {u:Value} (hk:IV.key k=some u) (n:Nat):Instr.sameBits n u u=true:=by
  cases k<;>simp [IV.key] at hk<;>subst hk<;>simp [Instr.sameBits,zdl]
theorem QB {o:Oper} {str:Bool} {t kt et:TypeId} {m k v:Operand} {d:TypeDesc} (ho:o.op=.mapUpdate t m k v)
    (ht:C.P.underlying t=some (.map kt et)) (hkt:C.P.underlying kt=some d) (hd:yL str d) :
    OpSound C o (.upd str (C.opd m) (C.opd k) (C.opd v)):=by
  intro g h N w id ev val r ups R hid hv he
  have hm:=hv m (by simp [ho,Op.operands])
  have hk:=hv k (by simp [ho,Op.operands])
  have hx:=VR (hv v (by simp [ho,Op.operands]))
  simp only [evalOp] at he
  split at he
  · rename_i i kv e1 e2
    rw [e1] at hm
    rw [e2] at hk
    split at he
    · rename_i es hob
      split at he
      · rename_i hcond
        simp only [Bool.and_eq_true] at hcond
        obtain ⟨hc1,hc2⟩:=hcond
        obtain ⟨u,hu⟩:=VQ hc1
        have hkv:=zdk hu hk
        simp only [Option.some.injEq,Prod.mk.injEq] at he
        obtain ⟨rfl,rfl⟩:=he
        cases hm with
        | map _ _ hni hone hp=>
          obtain ⟨b,hb,hval⟩:=hp es hob
          obtain ⟨hz0,ces,clock,hw,hl,hr⟩:=R.obj i b _ hb hob
          have hchk:=fun bb=>QA (P:=C.P) hkt hd w bb u 9999
          have close:∀ (ces':Array MapEntry) (clock':Nat),ces'.size=(qx kv (xC (ev (C.opd v))) es).length →
              (∀ (i:Nat) (k':IV) (x:AV),(qx kv (xC (ev (C.opd v))) es)[i]?=some (k',x)→∃ e,ces'[i]?=some e∧IV.key k'=some e.key∧RV C g h N w x e.val) →
              Good C g h N w id .undef [(i,.map (qx kv (xC (ev (C.opd v))) es))] undef (zt w b (.map ces' clock')):=fun ces' clock' hl' hr'=>by
            have E:Evo g h N w g (hup [(i,.map (qx kv (xC (ev (C.opd v))) es))] h) (z8 N id) (zt w b (.map ces' clock')):=
              Jy R hb hz0 (.map es) _ hob _ trivial fun c e hc=>by rw [hw] at hc;cases hc
            refine ⟨g,E,XL R hb _ _ (fun _ _=>by simp) E ?_,.undef⟩
            refine ⟨hz0,ces',clock',by rw [zA w b _ (zR hw)];simp,hl',fun i k' x hi => ?_⟩
            obtain ⟨e,h1,h2,h3⟩:=hr' i k' x hi
            exact ⟨e,h1,h2,h3.mono E⟩
          have hfind:=Qz (C:=C) (g:=g) (h:=h) (N:=N) (w:=w) hd hu hc1 es ces.toList 0 (by simpa using hl) (fun i k' x hi=>by obtain ⟨e,h1,h2⟩:=hr i k' x hi;exact ⟨e,by simpa using h1,h2⟩) hc2
          rcases hfind with ⟨h1,h2⟩ | ⟨x,j,y,h1,h2,h3,h4,⟨e0,h5,h5'⟩,h6⟩
          · have hset:=YD h1 hc2 (xC (ev (C.opd v)))
            refine ⟨undef,zt w b (.map (ces.push {key:=u,val:=val v,born:=clock}) (clock+1)),.inr ⟨?_,rfl⟩,close _ _ (by rw [hset];simp [hl]) (fun i k' x hi => ?_)⟩
            · have hrun:(Instr.mapUpdate t (.map (some b)) u (val v)).run C.P w=.ok () (zt w b (.map (ces.push {key:=u,val:=val v,born:=clock}) (clock+1))):=by
                simp only [Instr.mapUpdate,Sem.run_bind,run_underlying ht,Result.andThen_ok,wN hw,Sem.run_pure,hchk,Instr.findKey,run_underlying hkt,h2,XM hw]
              simp only [execOp,ho,hval,hkv,Sem.run_bind,hrun,Result.andThen_ok,Sem.run_pure]
            · rw [hset,List.getElem?_append] at hi
              split at hi
              · rename_i hlt
                obtain ⟨e,h7,h8⟩:=hr i k' x hi
                exact ⟨e,by rw [Array.getElem?_push,if_neg (by omega)];exact h7,h8⟩
              · rename_i hge
                have hi0:i - es.length=0:=by
                  have:=(List.getElem?_eq_some_iff.1 hi).1
                  simp at this;omega
                rw [hi0] at hi
                simp at hi
                obtain ⟨rfl,rfl⟩:=hi
                exact ⟨_,by rw [Array.getElem?_push,if_pos (by omega)],hu,hx⟩
          · have hset:=h6 (xC (ev (C.opd v)))
            simp only [Nat.zero_add] at h2
            have h5a:ces[j]?=some e0:=by simpa using h5
            refine ⟨undef,zt w b (.map (ces.modify j fun e=>{e with key:=u,val:=val v}) clock),.inr ⟨?_,rfl⟩,close _ _ (by rw [hset];simp [hl]) (fun i k' x hi => ?_)⟩
            · have hrun:(Instr.mapUpdate t (.map (some b)) u (val v)).run C.P w=.ok () (zt w b (.map (ces.modify j fun e=>{e with key:=u,val:=val v}) clock)):=by
                simp only [Instr.mapUpdate,Sem.run_bind,run_underlying ht,Result.andThen_ok,wN hw,Sem.run_pure,hchk,Instr.findKey,run_underlying hkt,h2,Instr.keyThatStays,h5a,Option.map_some,Option.getD_some,h5',Kg hu,if_true,XM hw]
              simp only [execOp,ho,hval,hkv,Sem.run_bind,hrun,Result.andThen_ok,Sem.run_pure]
            · rw [hset,List.getElem?_set] at hi
              rw [Array.getElem?_modify]
              split at hi
              · rename_i e3
                subst e3
                cases hi
                rw [if_pos rfl,h5a]
                exact ⟨_,rfl,hu,hx⟩
              · rename_i e3
                rw [if_neg e3]
                exact hr i k' x hi
      · cases he
    · cases he
  · cases he
end
end
section
section
variable {C:Ctx} {g g':Gh} {h h':Nat→Option Zaf} {N N':Nat→Prop} {w w':World} {id:Nat}
theorem vj {Z:Nat→Nat} {a:Addr} {cap:Nat}:RI Z w (.slice []) (.slice (some a) 0 cap):=.empty a cap
theorem Va {x:AV} {v:Value} {y:IV} (hx:jk x=some y) (hv:RV C g h N w x v):RI g.Z w y v:=by
  cases hv with
  | imm z _ hr=>simp [jk] at hx;subst hx;exact hr
  | nil=>simp [jk] at hx;subst hx;exact .nil
  | nnil a cap=>simp [jk] at hx;subst hx;exact vj
  | Zas i rows _ hr _ _=>simp [jk] at hx;subst hx;exact hr
  | _=>simp [jk] at hx
theorem QC (R:RH C g h N w) {x:AV} {v:Value} {new:List (List IV)} {sz:Nat} (hx:xB h x=some new) (hv:RV C g h N w x v) (hsz:∀ row∈new,row.length=sz) :
    ∃ a cap,v=.slice a new.length cap∧∃ news:List Value,news.length=new.length*sz∧(∀ u∈news,u.oneCell'=true) ∧
      (∀ (i:Nat) (row:List IV) (j:Nat) (c:IV),new[i]?=some row→row[j]?=some c→∃ u,news[i*sz+j]?=some u∧RI g.Z w c u) ∧
      ∀ (P:Program) (w1:World),w1.heap=w.heap→(Builtin.firstCells sz new.length v).run P w1=.ok news.toArray w1:=by
  have fromRI:∀ (rows:List (List IV)),rows=new→RI g.Z w (.slice rows) v→∃ a cap,v=.slice a new.length cap∧∃ news:List Value,news.length=new.length*sz∧(∀ u∈news,u.oneCell'=true) ∧
      (∀ (i:Nat) (row:List IV) (j:Nat) (c:IV),new[i]?=some row→row[j]?=some c→∃ u,news[i*sz+j]?=some u∧RI g.Z w c u) ∧
      ∀ (P:Program) (w1:World),w1.heap=w.heap→(Builtin.firstCells sz new.length v).run P w1=.ok news.toArray w1:=fun rows hrn hri=>by
    subst hrn
    rcases ZJ hri with ⟨rfl,hval⟩ | ⟨b,off,cap,sz',cv,hval,hcap,hsz',hz,hc,hr⟩
    · rcases hval with hval | ⟨aa,cap,hval⟩
      · exact ⟨none,0,hval,[],by simp,by simp,fun i row j c hi=>by simp at hi,fun P w1 _=>by rw [hval];simp [Builtin.firstCells]⟩
      · exact ⟨some aa,cap,hval,[],by simp,by simp,fun i row j c hi=>by simp at hi,fun P w1 _=>by rw [hval];simp only [Builtin.firstCells,List.length_nil,Nat.zero_mul];exact (run_loadCells w1 _ _ (fun _=>undef) (fun k hk=>by simp at hk))⟩
    · refine ⟨_,cap,hval,(List.range (rows.length*sz)).map (fun k=>cv (k / sz) (k % sz)),by simp,fun u hu => ?_,fun i row j c hi hj => ?_,fun P w1 hw1 => ?_⟩
      · simp only [List.mem_map,List.mem_range] at hu
        obtain ⟨k,hk,rfl⟩:=hu
        have hpos:0 < sz:=Nat.pos_of_ne_zero fun e=>by subst e;simp at hk
        have hi:k / sz < rows.length:=Nat.div_lt_of_lt_mul (by rw [Nat.mul_comm];exact hk)
        have hrow:=hsz (rows[k / sz]) (List.getElem_mem hi)
        have hj:k % sz < (rows[k / sz]).length:=by rw [hrow];exact Nat.mod_lt _ hpos
        exact (hc (k / sz) _ (k % sz) ((rows[k / sz])[k % sz]) (List.getElem?_eq_getElem hi) (List.getElem?_eq_getElem hj)).2
      · have hrow:=hsz row (List.mem_of_getElem? hi)
        have hj':j < sz:=by rw [←hrow];exact (List.getElem?_eq_some_iff.1 hj).1
        have hi':i < rows.length:=(List.getElem?_eq_some_iff.1 hi).1
        have hb:(i+1)*sz≤rows.length*sz:=Nat.mul_le_mul_right _ hi'
        rw [Nat.add_mul] at hb
        have hlt:i*sz+j < rows.length*sz:=by omega
        have hdiv:(i*sz+j) / sz=i:=by rw [Nat.mul_comm,Nat.mul_add_div (by omega),Nat.div_eq_of_lt hj'];simp
        have hmod:(i*sz+j) % sz=j:=by rw [Nat.mul_comm,Nat.mul_add_mod,Nat.mod_eq_of_lt hj']
        refine ⟨cv i j,by simp [hlt,hdiv,hmod],hr i row j c hi hj⟩
      · rw [hval]
        simp only [Builtin.firstCells]
        refine run_loadCells w1 _ _ _ fun k hk => ?_
        have hpos:0 < sz:=Nat.pos_of_ne_zero fun e=>by subst e;simp at hk
        have hi:k / sz < rows.length:=Nat.div_lt_of_lt_mul (by rw [Nat.mul_comm];exact hk)
        have hrow:=hsz (rows[k / sz]) (List.getElem_mem hi)
        have hj:k % sz < (rows[k / sz]).length:=by rw [hrow];exact Nat.mod_lt _ hpos
        have hse:sz'=sz:=(hsz' (k / sz) _ (List.getElem?_eq_getElem hi)).symm.trans hrow
        subst hse
        have:=(hc (k / sz') _ (k % sz') ((rows[k / sz'])[k % sz']) (List.getElem?_eq_getElem hi) (List.getElem?_eq_getElem hj)).1
        rw [qD]
        rw [←this]
        have e2:off+k=off+k / sz'*sz'+k % sz':=by have:=Nat.div_add_mod k sz';rw [Nat.mul_comm] at this;omega
        rw [e2]
        simp only [World.cell?,hw1]
  unfold xB at hx
  split at hx
  · cases hx
    cases hv with
    | imm _ _ hr=>exact fromRI _ rfl hr
  · cases hx
    cases hv with
    | Zas _ _ _ hr _ _=>exact fromRI _ rfl hr
  · cases hx
    have:=xg hv
    subst this
    exact fromRI [] rfl .nil
  · cases hx
    cases hv with
    | nnil a cap=>exact fromRI [] rfl vj
  · rename_i i off len
    split at hx
    · rename_i sz0 rows hob
      split at hx
      · rename_i hle
        obtain ⟨hl,hget⟩:=z7 hx
        have hll:((rows.drop off).take len).length=len:=by simp;omega
        cases hv with
        | Zal _ _ _ _ hni hone hp=>
          obtain ⟨h1,h2⟩:=hp _ _ hob
          rcases h2 with ⟨hn,hr,hval⟩ | ⟨b,cap,c,e,hb,hval,hle2,hw,hcap⟩
          · subst hr
            have h0:len=0:=by simp at h1;omega
            have hnew:new=[]:=List.eq_nil_of_length_eq_zero (by rw [hl];simp)
            subst hnew
            exact ⟨none,0,hval,[],by simp,by simp,fun i row j c hi=>by simp at hi,fun P w1 _=>by rw [hval];simp [Builtin.firstCells]⟩
          · obtain ⟨hz,c',e',hc',hlen,hcells⟩:=R.obj i b _ hb hob
            have hnl:new.length=len:=by rw [hl,hll]
            have cellAt:∀ (i':Nat) (row:List IV) (j:Nat) (x:IV),new[i']?=some row→row[j]?=some x→∃ u,c'[(off+i')*sz+j]?=some u∧u.oneCell'=true∧RI g.Z w x u∧sz0=sz:=fun i' row j x hi hj=>by
              have hi':i' < len:=by rw [←hnl];exact (List.getElem?_eq_some_iff.1 hi).1
              have hr0:((rows.drop off).take len)[i']?=some (rows[off+i']'(by omega)):=by
                rw [List.getElem?_take_of_lt hi',List.getElem?_drop];simp
              obtain ⟨row',hr1,hr2⟩:=hget i' _ hr0
              rw [hi] at hr1
              cases hr1
              obtain ⟨hl3,hget3⟩:=z7 hr2
              have hj':j < (rows[off+i']'(by omega)).length:=by rw [←hl3];exact (List.getElem?_eq_some_iff.1 hj).1
              obtain ⟨x',hx1,hx2⟩:=hget3 j ((rows[off+i']'(by omega))[j]) (by simp [hj'])
              rw [hj] at hx1
              cases hx1
              have hrow:rows[off+i']?=some (rows[off+i']'(by omega)):=by simp
              obtain ⟨cv,h3,h4,h5⟩:=hcells (off+i') _ j _ hrow (List.getElem?_eq_getElem hj')
              have hs0:sz0=sz:=by
                have a1:=hlen (off+i') _ hrow
                have a2:=hsz row (List.mem_of_getElem? hi)
                omega
              subst hs0
              exact ⟨cv,h3,h4,Va hx2 h5,rfl⟩
            have hbig:∀ k,k < len*sz→∃ u,c'[off*sz+k]?=some u∧u.oneCell'=true∧sz0=sz:=fun k hk=>by
              have hpos:0 < sz:=Nat.pos_of_ne_zero fun e=>by subst e;simp at hk
              have hi:k / sz < new.length:=by rw [hnl];exact Nat.div_lt_of_lt_mul (by rw [Nat.mul_comm];exact hk)
              have hrow:=hsz (new[k / sz]) (List.getElem_mem hi)
              have hj:k % sz < (new[k / sz]).length:=by rw [hrow];exact Nat.mod_lt _ hpos
              obtain ⟨u,h3,h4,h5,h6⟩:=cellAt (k / sz) _ (k % sz) ((new[k / sz])[k % sz]) (List.getElem?_eq_getElem hi) (List.getElem?_eq_getElem hj)
              refine ⟨u,?_,h4,h6⟩
              rw [←h3]
              congr 1
              have:=Nat.div_add_mod k sz
              rw [Nat.add_mul,Nat.mul_comm (k / sz) sz]
              omega
            obtain ⟨news,hn1,hn2⟩:=vQ (List.range (len*sz)) (fun _ k u=>c'[off*sz+k]?=some u∧u.oneCell'=true) (fun j k hj=>by
              obtain ⟨hj1,hj2⟩:=List.getElem?_eq_some_iff.1 hj
              simp at hj1 hj2
              subst hj2
              obtain ⟨u,a1,a2,_⟩:=hbig j hj1
              exact ⟨u,a1,a2⟩)
            have hn1':news.length=len*sz:=by simpa using hn1
            have hgetn:∀ k u,news[k]?=some u→c'[off*sz+k]?=some u∧u.oneCell'=true:=fun k u hk=>by
              have hlt:k < len*sz:=by rw [←hn1'];exact (List.getElem?_eq_some_iff.1 hk).1
              exact hn2 k k u (by simp [hlt]) hk
            refine ⟨_,cap,by rw [hnl];exact hval,news,by rw [hnl];exact hn1',fun u hu => ?_,fun i' row j x hi hj => ?_,fun P w1 hw1 => ?_⟩
            · obtain ⟨k,hk⟩:=List.getElem?_of_mem hu
              exact (hgetn k u hk).2
            · obtain ⟨u,h3,h4,h5,h6⟩:=cellAt i' row j x hi hj
              have hi':i' < len:=by rw [←hnl];exact (List.getElem?_eq_some_iff.1 hi).1
              have hj':j < sz:=by rw [←hsz row (List.mem_of_getElem? hi)];exact (List.getElem?_eq_some_iff.1 hj).1
              have hb2:(i'+1)*sz≤len*sz:=Nat.mul_le_mul_right _ hi'
              rw [Nat.add_mul] at hb2
              have hlt:i'*sz+j < news.length:=by omega
              refine ⟨u,?_,h5⟩
              have:=(hgetn (i'*sz+j) news[i'*sz+j] (by simp [hlt])).1
              rw [List.getElem?_eq_getElem hlt]
              rw [show off*sz+(i'*sz+j)=(off+i')*sz+j by rw [Nat.add_mul];omega,h3] at this
              exact this.symm
            · rw [hval,hnl]
              simp only [Builtin.firstCells]
              rw [←hn1']
              have hs0:off*sz0=off*sz∨len*sz=0:=by
                rcases Nat.eq_zero_or_pos (len*sz) with h0 | h0
                · exact .inr h0
                · obtain ⟨_,_,_,h6⟩:=hbig 0 h0;exact .inl (by rw [h6])
              have:=run_loadCells_list (P:=P) w1 ⟨b,off*sz0,none⟩ news (fun k u hk=>by
                rw [qD]
                have hlt:k < news.length:=(List.getElem?_eq_some_iff.1 hk).1
                have:w1.heap[b]?=some (.cells c' e' (0,0)):=by rw [hw1];exact hc'
                rw [qv this]
                rcases hs0 with h7 | h7
                · rw [h7];exact (hgetn k u hk).1
                · omega)
              exact this
      · cases hx
    · cases hx
  · cases hx
theorem XP (R:RH C g h N w) {x:AV} {v:Value} {new:List (List AV)} {sz:Nat} (hx:jF h x=some new) (hv:RV C g h N w x v) (hsz:∀ row∈new,row.length=sz) :
    ∃ a cap,v=.slice a new.length cap∧∃ news:List Value,news.length=new.length*sz∧(∀ u∈news,u.oneCell'=true) ∧
      (∀ (i:Nat) (row:List AV) (j:Nat) (c:AV),new[i]?=some row→row[j]?=some c→∃ u,news[i*sz+j]?=some u∧RV C g h N w c u) ∧
      ∀ (P:Program) (w1:World),w1.heap=w.heap→(Builtin.firstCells sz new.length v).run P w1=.ok news.toArray w1:=by
  unfold jF at hx
  split at hx
  · rename_i i off len
    split at hx
    · rename_i sz0 rows hob
      split at hx
      · rename_i hle
        have hll:((rows.drop off).take len).length=len:=by simp;omega
        cases hx
        cases hv with
        | Zal _ _ _ _ hni hone hp=>
          obtain ⟨h1,h2⟩:=hp _ _ hob
          rcases h2 with ⟨hn,hr,hval⟩ | ⟨b,cap,c,e,hb,hval,hle2,hw,hcap⟩
          · subst hr
            have h0:len=0:=by simp at h1;omega
            subst h0
            simp only [List.take_zero]
            exact ⟨none,0,hval,[],by simp,by simp,fun i row j c hi=>by simp at hi,fun P w1 _=>by rw [hval];simp [Builtin.firstCells]⟩
          · obtain ⟨hz,c',e',hc',hlen,hcells⟩:=R.obj i b _ hb hob
            have hnl:((rows.drop off).take len).length=len:=hll
            generalize hnd:(rows.drop off).take len=new at hsz hnl ⊢
            have cellAt:∀ (i':Nat) (row:List AV) (j:Nat) (x:AV),new[i']?=some row→row[j]?=some x→∃ u,c'[(off+i')*sz+j]?=some u∧u.oneCell'=true∧RV C g h N w x u∧sz0=sz:=fun i' row j x hi hj=>by
              have hi':i' < len:=by rw [←hnl];exact (List.getElem?_eq_some_iff.1 hi).1
              have hrow:rows[off+i']?=some row:=by
                rw [←hnd,List.getElem?_take_of_lt hi',List.getElem?_drop] at hi
                exact hi
              obtain ⟨cv,h3,h4,h5⟩:=hcells (off+i') _ j _ hrow hj
              have hs0:sz0=sz:=by
                have a1:=hlen (off+i') _ hrow
                have a2:=hsz row (List.mem_of_getElem? hi)
                omega
              subst hs0
              exact ⟨cv,h3,h4,h5,rfl⟩
            have hbig:∀ k,k < len*sz→∃ u,c'[off*sz+k]?=some u∧u.oneCell'=true∧sz0=sz:=fun k hk=>by
              have hpos:0 < sz:=Nat.pos_of_ne_zero fun e=>by subst e;simp at hk
              have hi:k / sz < new.length:=by rw [hnl];exact Nat.div_lt_of_lt_mul (by rw [Nat.mul_comm];exact hk)
              have hrow:=hsz (new[k / sz]) (List.getElem_mem hi)
              have hj:k % sz < (new[k / sz]).length:=by rw [hrow];exact Nat.mod_lt _ hpos
              obtain ⟨u,h3,h4,h5,h6⟩:=cellAt (k / sz) _ (k % sz) ((new[k / sz])[k % sz]) (List.getElem?_eq_getElem hi) (List.getElem?_eq_getElem hj)
              refine ⟨u,?_,h4,h6⟩
              rw [←h3]
              congr 1
              have:=Nat.div_add_mod k sz
              rw [Nat.add_mul,Nat.mul_comm (k / sz) sz]
              omega
            obtain ⟨news,hn1,hn2⟩:=vQ (List.range (len*sz)) (fun _ k u=>c'[off*sz+k]?=some u∧u.oneCell'=true) (fun j k hj=>by
              obtain ⟨hj1,hj2⟩:=List.getElem?_eq_some_iff.1 hj
              simp at hj1 hj2
              subst hj2
              obtain ⟨u,a1,a2,_⟩:=hbig j hj1
              exact ⟨u,a1,a2⟩)
            have hn1':news.length=len*sz:=by simpa using hn1
            have hgetn:∀ k u,news[k]?=some u→c'[off*sz+k]?=some u∧u.oneCell'=true:=fun k u hk=>by
              have hlt:k < len*sz:=by rw [←hn1'];exact (List.getElem?_eq_some_iff.1 hk).1
              exact hn2 k k u (by simp [hlt]) hk
            refine ⟨_,cap,by rw [hnl];exact hval,news,by rw [hnl];exact hn1',fun u hu => ?_,fun i' row j x hi hj => ?_,fun P w1 hw1 => ?_⟩
            · obtain ⟨k,hk⟩:=List.getElem?_of_mem hu
              exact (hgetn k u hk).2
            · obtain ⟨u,h3,h4,h5,h6⟩:=cellAt i' row j x hi hj
              have hi':i' < len:=by rw [←hnl];exact (List.getElem?_eq_some_iff.1 hi).1
              have hj':j < sz:=by rw [←hsz row (List.mem_of_getElem? hi)];exact (List.getElem?_eq_some_iff.1 hj).1
              have hb2:(i'+1)*sz≤len*sz:=Nat.mul_le_mul_right _ hi'
              rw [Nat.add_mul] at hb2
              have hlt:i'*sz+j < news.length:=by omega
              refine ⟨u,?_,h5⟩
              have:=(hgetn (i'*sz+j) news[i'*sz+j] (by simp [hlt])).1
              rw [List.getElem?_eq_getElem hlt]
              rw [show off*sz+(i'*sz+j)=(off+i')*sz+j by rw [Nat.add_mul];omega,h3] at this
              exact this.symm
            · rw [hval,hnl]
              simp only [Builtin.firstCells]
              rw [←hn1']
              have hs0:off*sz0=off*sz∨len*sz=0:=by
                rcases Nat.eq_zero_or_pos (len*sz) with h0 | h0
                · exact .inr h0
                · obtain ⟨_,_,_,h6⟩:=hbig 0 h0;exact .inl (by rw [h6])
              have:=run_loadCells_list (P:=P) w1 ⟨b,off*sz0,none⟩ news (fun k u hk=>by
                rw [qD]
                have hlt:k < news.length:=(List.getElem?_eq_some_iff.1 hk).1
                have:w1.heap[b]?=some (.cells c' e' (0,0)):=by rw [hw1];exact hc'
                rw [qv this]
                rcases hs0 with h7 | h7
                · rw [h7];exact (hgetn k u hk).1
                · omega)
              exact this
      · cases hx
    · cases hx
  · rw [Option.map_eq_some_iff] at hx
    obtain ⟨rows,hrows,rfl⟩:=hx
    obtain ⟨a,cap,h1,news,h2,h3,h4,h5⟩:=QC (sz:=sz) R hrows hv (fun row hr=>by
      have:=hsz (row.map .imm) (List.mem_map.2 ⟨row,hr,rfl⟩)
      simpa using this)
    refine ⟨a,cap,by simpa using h1,news,by simpa using h2,h3,fun i row j c hi hj => ?_,fun P w1 hw1=>by simpa using h5 P w1 hw1⟩
    simp only [List.getElem?_map,Option.map_eq_some_iff] at hi
    obtain ⟨row0,hi0,rfl⟩:=hi
    simp only [List.getElem?_map,Option.map_eq_some_iff] at hj
    obtain ⟨c0,hj0,rfl⟩:=hj
    obtain ⟨u,h6,h7⟩:=h4 i row0 j c0 hi0 hj0
    exact ⟨u,h6,.imm _ _ h7⟩
end
end
section
section
variable {C:Ctx} {g g':Gh} {h h':Nat→Option Zaf} {N N':Nat→Prop} {w w':World} {id:Nat}
def Src (P:Program) (w:World) (sz m:Nat) (v:Value) (news:List Value):Prop:=
  (∃ a cap,v=.slice a m cap)∧news.length=m*sz∧(∀ u∈news,u.oneCell'=true)∧∀ w1:World,w1.heap=w.heap→(Builtin.firstCells sz m v).run P w1=.ok news.toArray w1
theorem QD {P:Program} {t t' ty e:TypeId} {i:TypeInfo} {d:TypeDesc} (ht:P.underlying t=some (.slice e)) (hi:P.info? e=some i) (ht':P.underlying t'=some d) (hd:∀ k,d≠.int k)
    {b L cap m:Nat} {c:Array Value} {e':TypeId} (hb:w.heap[b]?=some (.cells c e' (0,0))) {v:Value} {news:List Value} (hs:Src P w i.size m v news)
    (hroom:L+m≤cap) (hfit:L*i.size+news.length≤c.size) :
    (Builtin.append_ #[t,t'] ty #[.slice (some ⟨b,0,none⟩) L cap,v]).run P w=.ok (.slice (some ⟨b,0,none⟩) (L+m) cap) (zt w b (.cells (qf c (L*i.size) news) e' (0,0))):=by
  obtain ⟨⟨a,cp,rfl⟩,h1,h2,h3⟩:=hs
  have hst:=vi (P:=P) news w b (L*i.size) 0 c e' hb h2 (by omega)
  simp only [Nat.add_zero] at hst
  have hz:(match d with | .int _=>true | _=>false)=false:=by cases d<;>first | rfl | exact absurd rfl (hd _)
  simp [Builtin.append_,run_underlying ht,sizeOf,typeInfo,hi,Builtin.lenOf,run_underlying ht',hz,hroom,h3 w rfl,qD,hst]
theorem yV {P:Program} {t t' ty e:TypeId} {i:TypeInfo} {d:TypeDesc} (ht:P.underlying t=some (.slice e)) (hi:P.info? e=some i) (ht':P.underlying t'=some d) (hd:∀ k,d≠.int k)
    {v:Value} {news:List Value} (hs:Src P w i.size 0 v news) :
    (Builtin.append_ #[t,t'] ty #[.slice none 0 0,v]).run P w=.ok (.slice none 0 0) w:=by
  obtain ⟨⟨a,cp,rfl⟩,h1,h2,h3⟩:=hs
  have hz:(match d with | .int _=>true | _=>false)=false:=by cases d<;>first | rfl | exact absurd rfl (hd _)
  simp [Builtin.append_,run_underlying ht,sizeOf,typeInfo,hi,Builtin.lenOf,run_underlying ht',hz,h3 w rfl]
theorem yW {P:Program} {t t' ty e:TypeId} {i:TypeInfo} {d:TypeDesc} {z:Value} (ht:P.underlying t=some (.slice e)) (hi:P.info? e=some i) (hz0:i.zero=some z) (ht':P.underlying t'=some d) (hd:∀ k,d≠.int k)
    {s:Value} {L cap m:Nat} {base:Option Addr} (hsv:s=.slice base L cap) {olds:List Value} (hold:Src P w i.size L s olds)
    {v:Value} {news:List Value} (hs:Src P w i.size m v news) (hroom:cap < L+m) (hby:0 < i.bytes) (hbytes:(L+m)*i.bytes≤140737488355328) :
    ∃ newCap rest,L+m≤newCap∧rest.size=(newCap - (L+m))*z.cells.size∧(Builtin.append_ #[t,t'] ty #[s,v]).run P w=.ok (.slice (some ⟨w.heap.size,0,none⟩) (L+m) newCap) (w.drew.alloc (.cells ((olds++news).toArray++rest) e (0,0))):=by
  subst hsv
  obtain ⟨⟨a,cp,rfl⟩,h1,h2,h3⟩:=hs
  obtain ⟨_,g1,g2,g3⟩:=hold
  have hz:(match d with | .int _=>true | _=>false)=false:=by cases d<;>first | rfl | exact absurd rfl (hd _)
  have hfits:=growslice_fits hroom hbytes
  refine ⟨(Question.appendCap (L+m) cap e).cut (w.tape w.drawn (.appendCap (L+m) cap e)),Builtin.zeroCells z.cells ((Question.appendCap (L+m) cap e).cut (w.tape w.drawn (.appendCap (L+m) cap e)) - (L+m)),by simp [Question.cut],by simp [Builtin.zeroCells],?_⟩
  have hb0:¬ i.bytes=0:=by omega
  simp [Builtin.append_,run_underlying ht,sizeOf,typeInfo,hi,Builtin.lenOf,run_underlying ht',hz,show ¬ L+m≤cap by omega,hb0,show ¬ 281474976710656 < Builtin.nextslicecap (L+m) cap*i.bytes by omega,Question.forced,h3 w.drew rfl,g3 w.drew rfl,zeroValue,hz0,newRow]
  congr 2
  apply Array.ext'
  simp [List.append_assoc]
theorem Evo.drew (g:Gh) (h:Nat→Option Zaf) (N:Nat→Prop) (w:World):Evo g h N w g h N w.drew:=by
  have E:=Evo.refl g h N w
  exact ⟨rfl,rfl,rfl,Nat.le_refl _,fun b hb ho=>⟨rfl,rfl⟩,E.own,E.zmono,⟨fun _ _ _=>rfl,fun _ _ _ _ _=>rfl⟩,fun b c e hb=>⟨c,hb,rfl⟩,E.next,E.rho,E.rho0,E.rows,E.tips,E.maps,E.lps⟩
theorem RH.drew (R:RH C g h N w):RH C g h N w.drew:=
  ⟨R.inj,R.lt,R.key,fun i b o hb ho=>(R.obj i b o hb ho).keep (Evo.drew g h N w) rfl rfl,R.tip0,R.zlt,R.fix.evo (Evo.drew g h N w)⟩
theorem QE (R:RH C g h N w) (hid:¬ N id) (sz:Nat):Good C g h N w id (.Zas id []) [(id,.tip sz 0)] (.slice none 0 0) w:=by
  have ne:∀ i,N i→id≠i:=fun i hi e=>hid (e ▸ hi)
  have E:Evo g h N w g (hup [(id,.tip sz 0)] h) (z8 N id) w:=
    ⟨rfl,rfl,rfl,Nat.le_refl _,fun _ _ _=>⟨rfl,rfl⟩,fun _ h=>.inl h,fun _=>Nat.le_refl _,⟨fun _ _ _=>rfl,fun _ _ _ _ _=>rfl⟩,fun b c e hb=>⟨c,hb,rfl⟩,fun _ h=>.inl h,fun i b hb _ _ _ _=>.inl hb,fun i hb _ _ _ _=>.inl hb,
      fun i hi s r ho=>⟨r,by simp only [hup] at ho;rwa [if_neg (ne i hi)] at ho,rfl⟩,fun i hi s r ho=>⟨r,by simp only [hup] at ho;rwa [if_neg (ne i hi)] at ho,Nat.le_refl _⟩,
      fun i hi r ho=>⟨r,by simp only [hup] at ho;rwa [if_neg (ne i hi)] at ho⟩,
      fun i hi l R s pe ho=>⟨s,pe,by simp only [hup] at ho;rwa [if_neg (ne i hi)] at ho⟩⟩
  have hn:=R.rho_none hid
  refine ⟨g,E,⟨R.inj,fun i b hb=>⟨(R.lt i b hb).1,.inl (R.lt i b hb).2⟩,fun i o ho => ?_,fun i b o hb ho => ?_,fun i s l ho hr => ?_,R.zlt,R.fix.evo E⟩,?_⟩
  · simp only [hup] at ho
    split at ho
    · rename_i e;exact .inr e.symm
    · exact .inl (R.key i o ho)
  · simp only [hup] at ho
    split at ho
    · rename_i e;subst e;rw [hn] at hb;cases hb
    · exact (R.obj i b o hb ho).keep E rfl rfl
  · simp only [hup] at ho
    split at ho
    · cases ho;rfl
    · exact R.tip0 i s l ho hr
  · refine .Zas id [] _ .nil (.inr rfl) fun s l ho => ?_
    simp only [hup,if_pos] at ho
    cases ho
    exact ⟨Nat.le_refl _,fun i row hi=>by simp at hi,fun _=>.inl ⟨hn,rfl⟩⟩
theorem YE (R:RH C g h N w) {i sz L:Nat} (hi:h i=some (.tip sz L)) {rows:List (List IV)} {v:Value} (hv:RV C g h N w (.Zas i rows) v) :
    Good C g h N w id (.Zas i rows) [(i,.tip sz L)] v w:=by
  have e:hup [(i,.tip sz L)] h=h:=by
    funext j
    simp only [hup]
    split
    · rename_i e;subst e;exact hi.symm
    · rfl
  obtain ⟨g',h1,h2,h3⟩:=zm (id:=id) R hv
  refine ⟨g',?_⟩
  rw [e]
  exact ⟨h1,h2,h3⟩
theorem Kh {Z:Nat→Nat} {w':World} {b sz newCap:Nat} {rows new:List (List IV)} {c:Array Value} {e:TypeId} {vals:List Value}
    (hw:w'.heap[b]?=some (.cells c e (0,0))) (hz:(rows++new).length*sz≤Z b) (hcap:(rows++new).length≤newCap)
    (hsz:∀ row∈rows++new,row.length=sz)
    (hc:∀ (k:Nat) (u:Value),vals[k]?=some u→c[k]?=some u) (h1:∀ u∈vals,u.oneCell'=true)
    (hr:∀ (i:Nat) (row:List IV) (j:Nat) (x:IV),(rows++new)[i]?=some row→row[j]?=some x→∃ u,vals[i*sz+j]?=some u∧RI Z w' x u) :
    RI Z w' (.slice (rows++new)) (.slice (some ⟨b,0,none⟩) (rows++new).length newCap):=by
  refine .slice (rows++new) b 0 newCap sz (fun i j=>vals.getD (i*sz+j) undef) hcap (fun i row hi=>hsz row (List.mem_of_getElem? hi)) (fun i row j x hi hj => ?_) (fun i row j x hi hj => ?_) (fun i row j x hi hj => ?_)
  · have hi':i < (rows++new).length:=(List.getElem?_eq_some_iff.1 hi).1
    have hj':j < sz:=by rw [←hsz row (List.mem_of_getElem? hi)];exact (List.getElem?_eq_some_iff.1 hj).1
    have hb:(i+1)*sz≤(rows++new).length*sz:=Nat.mul_le_mul_right _ hi'
    rw [Nat.add_mul] at hb
    omega
  · obtain ⟨u,h2,h3⟩:=hr i row j x hi hj
    have:vals.getD (i*sz+j) undef=u:=by simp [List.getD,h2]
    rw [this,qv hw,Nat.zero_add]
    exact ⟨hc _ u h2,h1 u (List.mem_of_getElem? h2)⟩
  · obtain ⟨u,h2,h3⟩:=hr i row j x hi hj
    have:vals.getD (i*sz+j) undef=u:=by simp [List.getD,h2]
    rw [this]
    exact h3
end
end
section
section
variable {C:Ctx} {g g':Gh} {h h':Nat→Option Zaf} {N N':Nat→Prop} {w w':World} {id:Nat}
theorem J7 (R:RH C g h N w) {i sz L L':Nat} (hk:(¬ N i∧i=id)∨(h i=some (.tip sz L)∧L < L')) (o:Obj) (z:Nat) :
    Evo g h N w (g.at i w.heap.size z) (hup [(i,.tip sz L')] h) (z8 N id) (w.drew.alloc o):=by
  have hold:∀ j,N j→∀ ob,hup [(i,Zaf.tip sz L')] h j=some ob→(i≠j∧h j=some ob)∨(i=j∧ob=.tip sz L'∧h j=some (.tip sz L)∧L < L'):=fun j hj ob ho=>by
    simp only [hup] at ho
    split at ho
    · rename_i e
      cases ho
      rcases hk with ⟨hn,_⟩ | ⟨h1,h2⟩
      · exact absurd (e ▸ hj) hn
      · exact .inr ⟨e,rfl,e ▸ h1,h2⟩
    · rename_i e;exact .inl ⟨e,ho⟩
  exact {
    os:=rfl
    tape:=rfl
    output:=rfl
    size:=by simp
    old:=fun b hb ho=>⟨qn w.drew o hb,by simp only [Gh.at];rw [if_neg (by omega)]⟩
    own:=fun b ⟨j,hj⟩=>by
      simp only [Gh.at] at hj
      split at hj
      · cases hj;exact .inr (Nat.le_refl _)
      · exact .inl ⟨j,hj⟩
    zmono:=fun b=>by
      simp only [Gh.at]
      split
      · rename_i hb;subst hb;rw [R.z_size];omega
      · exact Nat.le_refl _
    cell:=Frz.heap (w:=w) fun b hk=>qn w.drew o (R.zlt b hk)
    shape:=fun b c e hb=>⟨c,(qn w.drew o (zR hb)).trans hb,rfl⟩
    next:=fun i hi=>.inl hi
    rho:=fun j b hb ob ho hnd hj=>by
      rcases hold j hj ob ho with ⟨h1,h2⟩ | ⟨h1,h2,h3,h4⟩
      · exact .inl (by simp only [Gh.at];rw [if_neg (Ne.symm h1)];exact hb)
      · exact .inr ⟨sz,L,sz,L',h3,h2,h4⟩
    rho0:=fun j hb hj ob ho hnd=>by
      rcases hold j hj ob ho with ⟨h1,h2⟩ | ⟨h1,h2,h3,h4⟩
      · exact .inl (by simp only [Gh.at];rw [if_neg (Ne.symm h1)];exact hb)
      · exact .inr ⟨sz,L,sz,L',h3,h2,h4⟩
    rows:=fun j hj s r ho=>by
      rcases hold j hj _ ho with ⟨h1,h2⟩ | ⟨h1,h2,h3,h4⟩
      · exact ⟨r,h2,rfl⟩
      · cases h2
    tips:=fun j hj s l ho=>by
      rcases hold j hj _ ho with ⟨h1,h2⟩ | ⟨h1,h2,h3,h4⟩
      · exact ⟨l,h2,Nat.le_refl _⟩
      · cases h2;exact ⟨L,h3,by omega⟩
    maps:=fun j hj es ho=>by
      rcases hold j hj _ ho with ⟨h1,h2⟩ | ⟨h1,h2,h3,h4⟩
      · exact ⟨es,h2⟩
      · cases h2
    lps:=fun j hj ll RR s pe ho=>by
      rcases hold j hj _ ho with ⟨h1,h2⟩ | ⟨h1,h2,h3,h4⟩
      · exact ⟨s,pe,h2⟩
      · cases h2}
theorem zb3 (R:RH C g h N w) {i sz L L':Nat} (hk:(¬ N i∧i=id)∨(h i=some (.tip sz L)∧L < L')) (c:Array Value) (e:TypeId) (hc:L'*sz≤c.size) :
    RH C (g.at i w.heap.size (L'*sz)) (hup [(i,.tip sz L')] h) (z8 N id) (w.drew.alloc (.cells c e (0,0))):=by
  have E:=J7 (id:=id) R hk (.cells c e (0,0)) (L'*sz)
  have hpl:z8 N id i:=by
    rcases hk with ⟨_,h1⟩ | ⟨h1,_⟩
    · exact .inr h1
    · exact .inl (R.key i _ h1)
  refine ⟨fun j k b hj hk => ?_,fun j b hb => ?_,fun j o' ho' => ?_,fun j b o' hb ho' => ?_,fun j s l ht hn => ?_,fun b hb => ?_,R.fix.evo E⟩
  · simp only [Gh.at] at hj hk
    split at hj<;>split at hk
    · rename_i h1 h2;rw [h1,h2]
    · cases hj;have:=(R.lt k _ hk).1;omega
    · cases hk;have:=(R.lt j _ hj).1;omega
    · exact R.inj j k b hj hk
  · simp only [Gh.at] at hb
    split at hb
    · rename_i hi;subst hi;cases hb;exact ⟨by simp,hpl⟩
    · have:=R.lt j b hb;exact ⟨by simp;omega,.inl this.2⟩
  · simp only [hup] at ho'
    split at ho'
    · rename_i hi;subst hi;exact hpl
    · exact .inl (R.key j o' ho')
  · simp only [Gh.at] at hb
    simp only [hup] at ho'
    split at hb
    · rename_i hi
      subst hi
      cases hb
      rw [if_pos rfl] at ho'
      cases ho'
      exact ⟨c,e,zK w.drew _,by simp [Gh.at],hc⟩
    · rename_i hi
      rw [if_neg (fun e=>hi e.symm)] at ho'
      have hlt:=(R.lt j b hb).1
      exact (R.obj j b o' hb ho').keep E (qn w.drew _ hlt) (by simp only [Gh.at];rw [if_neg (by omega)])
  · simp only [Gh.at] at hn
    simp only [hup] at ht
    split at hn
    · cases hn
    · rename_i hi
      rw [if_neg (fun e=>hi e.symm)] at ht
      exact R.tip0 j s l ht hn
  · simp only [Gh.at] at hb
    split at hb
    · rename_i hh;subst hh;simp
    · have:=R.zlt b hb;simp;omega
theorem QF (R:RH C g h N w) {i b sz L L':Nat} (hi:h i=some (.tip sz L)) (hb:g.ρ i=some b) {c:Array Value} {e:TypeId} (hw:w.heap[b]?=some (.cells c e (0,0))) (hz:g.Z b=L*sz) (hL:L≤L')
    (news:List Value) (hfit:L*sz+news.length≤c.size) :
    Evo g h N w (g.at i b (L'*sz)) (hup [(i,.tip sz L')] h) (z8 N id) (zt w b (.cells (qf c (L*sz) news) e (0,0))):=by
  have hlt:=zR hw
  have hrho:∀ j,(g.at i b (L'*sz)).ρ j=g.ρ j:=fun j=>by
    simp only [Gh.at]
    split
    · rename_i e;subst e;exact hb.symm
    · rfl
  exact {
    os:=rfl
    tape:=rfl
    output:=rfl
    size:=by rw [qR];exact Nat.le_refl _
    old:=fun k hk ho=>by
      have hne:k≠b:=fun e=>ho ⟨i,by rw [e];exact hb⟩
      exact ⟨by rw [zA w b _ hlt,if_neg hne],by simp only [Gh.at];rw [if_neg hne]⟩
    own:=fun k ⟨j,hj⟩=>.inl ⟨j,by rw [←hrho];exact hj⟩
    zmono:=fun k=>by
      simp only [Gh.at]
      split
      · rename_i e;subst e;rw [hz];exact Nat.mul_le_mul_right _ hL
      · exact Nat.le_refl _
    cell:=⟨fun k o ho=>by
      by_cases e1:k=b
      · subst e1
        rw [hz] at ho
        have:(zt w k (.cells (qf c (L*sz) news) e (0,0))).heap[k]?=some (.cells (qf c (L*sz) news) e (0,0)):=by rw [zA w k _ hlt];simp
        rw [qv this,qv hw,xl c _ news hfit,if_neg (by omega)]
      · refine Qu ?_
        rw [zA w b _ hlt,if_neg e1],fun k ces clock _ hm=>by
      have e1:k≠b:=fun e1=>by rw [e1,hw] at hm;cases hm
      rw [zA w b _ hlt,if_neg e1]⟩
    shape:=fun k c' e' hc'=>by
      by_cases e1:k=b
      · subst e1
        rw [hw] at hc'
        cases hc'
        exact ⟨_,by rw [zA w k _ hlt,if_pos rfl],jx _ _ _⟩
      · exact ⟨c',by rw [zA w b _ hlt,if_neg e1];exact hc',rfl⟩
    next:=fun i hi=>.inl hi
    rho:=fun j b' hj _ _ _ _=>.inl (by rw [hrho];exact hj)
    rho0:=fun j hj _ _ _ _=>.inl (by rw [hrho];exact hj)
    rows:=fun j hj s r ho=>by
      simp only [hup] at ho
      split at ho
      · cases ho
      · exact ⟨r,ho,rfl⟩
    tips:=fun j hj s l ho=>by
      simp only [hup] at ho
      split at ho
      · rename_i e1;subst e1;cases ho;exact ⟨L,hi,hL⟩
      · exact ⟨l,ho,Nat.le_refl _⟩
    maps:=fun j hj es ho=>by
      simp only [hup] at ho
      split at ho
      · cases ho
      · exact ⟨es,ho⟩
    lps:=fun j hj ll RR s pe ho=>by
      simp only [hup] at ho
      split at ho
      · cases ho
      · exact ⟨s,pe,ho⟩}
theorem zaY (R:RH C g h N w) {i b sz L L':Nat} (hi:h i=some (.tip sz L)) (hb:g.ρ i=some b) {c:Array Value} {e:TypeId} (hw:w.heap[b]?=some (.cells c e (0,0))) (hz:g.Z b=L*sz) (hL:L≤L')
    (news:List Value) (hfit:L*sz+news.length≤c.size) (hcap:L'*sz≤c.size) :
    RH C (g.at i b (L'*sz)) (hup [(i,.tip sz L')] h) (z8 N id) (zt w b (.cells (qf c (L*sz) news) e (0,0))):=by
  have E:=QF (id:=id) R hi hb hw hz hL news hfit
  have hlt:=zR hw
  have hrho:∀ j,(g.at i b (L'*sz)).ρ j=g.ρ j:=fun j=>by
    simp only [Gh.at]
    split
    · rename_i e;subst e;exact hb.symm
    · rfl
  refine ⟨fun j k b' hj hk => ?_,fun j b' hb' => ?_,fun j o' ho' => ?_,fun j b' o' hb' ho' => ?_,fun j s l ht hn => ?_,fun k hk => ?_,R.fix.evo E⟩
  · rw [hrho] at hj hk;exact R.inj j k b' hj hk
  · rw [hrho] at hb'
    rw [qR]
    exact ⟨(R.lt j b' hb').1,.inl (R.lt j b' hb').2⟩
  · simp only [hup] at ho'
    split at ho'
    · rename_i e1;subst e1;exact .inl (R.key i _ hi)
    · exact .inl (R.key j o' ho')
  · rw [hrho] at hb'
    simp only [hup] at ho'
    split at ho'
    · rename_i e1
      subst e1
      cases ho'
      rw [hb] at hb'
      cases hb'
      exact ⟨qf c (L*sz) news,e,by rw [zA w b _ hlt];simp,by simp [Gh.at],by rw [jx];exact hcap⟩
    · rename_i e1
      have hne:b'≠b:=fun e2=>e1 (R.inj i j b hb (e2 ▸ hb'))
      exact (R.obj j b' o' hb' ho').keep E (by rw [zA w b _ hlt,if_neg hne]) (by simp only [Gh.at];rw [if_neg hne])
  · rw [hrho] at hn
    simp only [hup] at ht
    split at ht
    · rename_i e1;subst e1;rw [hb] at hn;cases hn
    · exact R.tip0 j s l ht hn
  · rw [qR]
    simp only [Gh.at] at hk
    split at hk
    · rename_i e1;subst e1;exact hlt
    · exact R.zlt k hk
def zlx (C:Ctx) (o:Oper) (sz by_:Nat) (s x:Opd):Prop:=
  ∀ (g:Gh) (h:Nat→Option Zaf) (N:Nat→Prop) (w:World) (id:Nat) (ev:Opd→AV) (val:Operand→Value) (r:AV) (ups:List (Nat×Zaf)),
    RH C g h N w→¬ N id→(∀ x∈o.op.operands,RV C g h N w (ev (C.opd x)) (val x))→Xh sz by_ (ev s) (ev x) h id=some (r,ups) →
    ∃ v w',Ran C.P (execOp val o) w v w'∧Good C g h N w id r ups v w'
def zly (C:Ctx) (o:Oper) (sz by_:Nat) (s x:Opd):Prop:=
  ∀ (g:Gh) (h:Nat→Option Zaf) (N:Nat→Prop) (w:World) (id:Nat) (ev:Opd→AV) (val:Operand→Value) (r:AV) (ups:List (Nat×Zaf)),
    RH C g h N w→¬ N id→(∀ x∈o.op.operands,RV C g h N w (ev (C.opd x)) (val x))→Qv sz by_ (ev s) (ev x) h id=some (r,ups) →
    ∃ v w',Ran C.P (execOp val o) w v w'∧Good C g h N w id r ups v w'
theorem zb4 {o:Oper} {t t' e:TypeId} {d:TypeDesc} {s x:Operand} {sz by_:Nat} {z:List AV} (ho:o.op=.call {callee:=.builtin .append,args := #[s,x],argTypes := #[t,t']})
    (ht:C.P.underlying t=some (.slice e)) (ht':C.P.underlying t'=some d) (hd:∀ k,d≠.int k) (hsz:zr C.P e=some sz) (hby:j7 C.P e=some by_) (hz:qu C.P e=some z)
    (h0:0 < sz) (hzl:z.length=sz) (hby0:0 < by_):zlx C o sz by_ (C.opd s) (C.opd x):=by
  intro g h N w id ev val r ups R hid hv he
  have hs:=hv s (by simp [ho,Op.operands,Call.operands])
  have hx:=hv x (by simp [ho,Op.operands,Call.operands])
  obtain ⟨i,zv,hi,hzv,rfl⟩:=jy hz
  have hzs:zv.cells.size=sz:=by simpa using hzl
  have hsize:i.size=sz:=by simpa [zr,hi] using hsz
  have hbytes:i.bytes=by_:=by simpa [j7,hi] using hby
  subst hsize
  subst hbytes
  have exec:∀ v' w',(Builtin.append_ #[t,t'] o.type #[val s,val x]).run C.P w=.ok v' w'→Ran C.P (execOp val o) w v' w':=fun v' w' hrun=>by
    refine .inl ?_
    simp [execOp,ho,resolve,invoke,builtin,hrun]
  unfold Xh at he
  split at he
  case h_2=>cases he
  rename_i new hnew
  split at he
  · cases he
  rename_i hall
  have hsn:∀ row∈new,row.length=i.size:=fun row hr=>by
    simp only [Bool.not_eq_true',Bool.not_eq_false] at hall
    have:=List.all_eq_true.1 hall row hr
    simpa using this
  obtain ⟨a,cp,hxv,news,hn1,hn2,hn3,hn4⟩:=QC R hnew hx hsn
  have hsrc:Src C.P w i.size new.length (val x) news:=⟨⟨a,cp,hxv⟩,hn1,hn2,fun w1 hw1=>hn4 C.P w1 hw1⟩
  have grow:∀ (j L cap:Nat) (base:Option Addr) (rows:List (List IV)) (olds:List Value),(¬ N j∧j=id)∨(h j=some (.tip i.size L)∧L < L+new.length)→rows.length=L →
      val s=.slice base L cap→cap < L+new.length→(L+new.length)*i.bytes≤140737488355328→(∀ row∈rows,row.length=i.size) →
      Src C.P w i.size L (val s) olds→(∀ (k:Nat) (row:List IV) (q:Nat) (c:IV),rows[k]?=some row→row[q]?=some c→∃ u,olds[k*i.size+q]?=some u∧RI g.Z w c u) →
      ∃ v w',Ran C.P (execOp val o) w v w'∧Good C g h N w id (.Zas j (rows++new)) [(j,.tip i.size (L+new.length))] v w':=fun j L cap base rows olds hk hrl hsv hroom hbound hrs hold hold2=>by
    obtain ⟨newCap,rest,hc1,hc2,hrun⟩:=yW (w:=w) (ty:=o.type) ht hi hzv ht' hd hsv hold hsrc hroom hby0 hbound
    have hol:olds.length=L*i.size:=hold.2.1
    have hlen:(olds++news).length=(L+new.length)*i.size:=by simp [hol,hn1,Nat.add_mul]
    have hcsize:(L+new.length)*i.size≤((olds++news).toArray++rest).size:=by simp only [Array.size_append,List.size_toArray];omega
    have E:=J7 (id:=id) R hk (.cells ((olds++news).toArray++rest) e (0,0)) ((L+new.length)*i.size)
    refine ⟨_,_,exec _ _ hrun,_,E,zb3 R hk _ e hcsize,?_⟩
    have hw':(w.drew.alloc (.cells ((olds++news).toArray++rest) e (0,0))).heap[w.heap.size]?=some (.cells ((olds++news).toArray++rest) e (0,0)):=zK w.drew _
    have hzz:(g.at j w.heap.size ((L+new.length)*i.size)).Z w.heap.size=(L+new.length)*i.size:=by simp [Gh.at]
    have hll:(rows++new).length=L+new.length:=by simp [hrl]
    have hRI:RI (g.at j w.heap.size ((L+new.length)*i.size)).Z (w.drew.alloc (.cells ((olds++news).toArray++rest) e (0,0))) (.slice (rows++new)) (.slice (some ⟨w.heap.size,0,none⟩) (rows++new).length newCap):=by
      refine Kh (vals:=olds++news) hw' (by rw [hzz,hll];exact Nat.le_refl _) (by rw [hll];exact hc1) (fun row hr => ?_) (fun k u hk => ?_) (fun u hu => ?_) (fun k row q c hk hq => ?_)
      · rcases List.mem_append.1 hr with hr | hr
        · exact hrs row hr
        · exact hsn row hr
      · have hlt:k < (olds++news).length:=(List.getElem?_eq_some_iff.1 hk).1
        rw [Array.getElem?_append_left (by simpa using hlt)]
        simpa using hk
      · rcases List.mem_append.1 hu with hu | hu
        · exact hold.2.2.1 u hu
        · exact hn2 u hu
      · rw [List.getElem?_append] at hk
        split at hk
        · rename_i hlt
          obtain ⟨u,h2,h3⟩:=hold2 k row q c hk hq
          have hlt2:k*i.size+q < olds.length:=(List.getElem?_eq_some_iff.1 h2).1
          exact ⟨u,by rw [List.getElem?_append_left hlt2];exact h2,h3.mono E.zmono E.cell⟩
        · rename_i hge
          obtain ⟨u,h2,h3⟩:=hn3 _ row q c hk hq
          have hge2:olds.length≤k*i.size+q:=by
            rw [hol]
            have:L*i.size≤k*i.size:=Nat.mul_le_mul_right _ (by omega)
            omega
          refine ⟨u,?_,h3.mono E.zmono E.cell⟩
          rw [List.getElem?_append_right hge2,←h2]
          congr 1
          rw [hol,hrl,Nat.mul_sub_right_distrib]
          have:L*i.size≤k*i.size:=Nat.mul_le_mul_right _ (by omega)
          omega
    rw [hll] at hRI
    refine .Zas j (rows++new) _ hRI ?_ fun sz' len' ht => ?_
    · rcases hk with ⟨_,h1⟩ | ⟨h1,_⟩
      · exact .inr h1
      · exact .inl (R.key j _ h1)
    · simp only [hup,if_pos] at ht
      cases ht
      refine ⟨by rw [hll];exact Nat.le_refl _,fun k row hk => ?_,fun _=>.inr ⟨w.heap.size,newCap,_,e,by simp [Gh.at],by rw [hll],hw',?_⟩⟩
      · rcases List.mem_append.1 (List.mem_of_getElem? hk) with hr | hr
        · exact hrs row hr
        · exact hsn row hr
      · simp only [Array.size_append,List.size_toArray,hlen,hc2,hzs]
        have:newCap*i.size=(L+new.length)*i.size+(newCap - (L+new.length))*i.size:=by
          rw [←Nat.add_mul];congr 1;omega
        omega
  split at he
  · rename_i e1
    rw [e1] at hs
    have hsv:=xg hs
    split at he
    · rename_i hbound
      simp only [Option.some.injEq,Prod.mk.injEq] at he
      obtain ⟨rfl,rfl⟩:=he
      by_cases hm:new=[]
      · subst hm
        have hrun:=yV (w:=w) (ty:=o.type) ht hi ht' hd (news:=news) (by simpa using hsrc)
        exact ⟨_,_,exec _ _ (by rw [hsv];exact hrun),by simpa using QE R hid i.size⟩
      · have hpos:0 < new.length:=List.length_pos_iff.2 hm
        have:=grow id 0 0 none [] [] (.inl ⟨hid,rfl⟩) rfl hsv (by omega) (by simpa using hbound) (by simp) ⟨⟨none,0,hsv⟩,by simp,by simp,fun w1 _=>by rw [hsv];simp [Builtin.firstCells]⟩ (fun k row q c hk=>by simp at hk)
        simpa using this
    · cases he
  · rename_i j rows e1
    rw [e1] at hs
    split at he
    · rename_i sz' len htip
      split at he
      · rename_i hcond
        obtain ⟨rfl,hrl,hbound⟩:=hcond
        simp only [Option.some.injEq,Prod.mk.injEq] at he
        obtain ⟨rfl,rfl⟩:=he
        have hs':=hs
        cases hs with
        | Zas _ _ _ hri hni htp=>
          obtain ⟨_,hrs,htp2⟩:=htp _ _ htip
          have hrs':∀ row∈rows,row.length=i.size:=fun row hr=>by
            obtain ⟨k,hk⟩:=List.getElem?_of_mem hr
            exact hrs k row hk
          have hrr:xB h (.Zas j rows)=some rows:=rfl
          obtain ⟨a0,cp0,hsv0,olds,ho1,ho2,ho3,ho4⟩:=QC R hrr hs' hrs'
          have hold:Src C.P w i.size rows.length (val s) olds:=⟨⟨a0,cp0,hsv0⟩,ho1,ho2,fun w1 hw1=>ho4 C.P w1 hw1⟩
          rcases htp2 hrl with ⟨hn,hsv⟩ | ⟨b,cap,c,e',hb,hsv,hw,hcap⟩
          · have hl0:rows.length=0:=by rw [hsv] at hsv0;simp at hsv0;omega
            have hr0:rows=[]:=List.eq_nil_of_length_eq_zero hl0
            subst hr0
            simp at hrl
            subst hrl
            by_cases hm:new=[]
            · subst hm
              have hrun:=yV (w:=w) (ty:=o.type) ht hi ht' hd (news:=news) (by simpa using hsrc)
              refine ⟨_,_,exec _ _ (by rw [hsv];exact hrun),?_⟩
              rw [hsv] at hs'
              simpa using YE (id:=id) R htip hs'
            · have hpos:0 < new.length:=List.length_pos_iff.2 hm
              exact grow j 0 0 none [] olds (.inr ⟨htip,by omega⟩) rfl hsv (by omega) hbound (by simp) (by simpa using hold) ho3
          · by_cases hroom:len+new.length≤cap
            · subst hrl
              obtain ⟨c',e2,hw2,hz2,hsz2⟩:=R.obj j b _ hb htip
              rw [hw] at hw2
              cases hw2
              have hm1:(rows.length+new.length)*i.size≤cap*i.size:=Nat.mul_le_mul_right _ hroom
              have hfit:rows.length*i.size+news.length≤c.size:=by rw [hn1,←Nat.add_mul];omega
              have hrun:=QD (P:=C.P) (w:=w) (ty:=o.type) ht hi ht' hd hw hsrc hroom hfit
              have E:=QF (id:=id) R htip hb hw hz2 (Nat.le_add_right rows.length new.length) news hfit
              refine ⟨_,_,exec _ _ (by rw [hsv];exact hrun),_,E,zaY R htip hb hw hz2 (Nat.le_add_right _ _) news hfit (by omega),?_⟩
              have hw':(zt w b (.cells (qf c (rows.length*i.size) news) e' (0,0))).heap[b]?=some (.cells (qf c (rows.length*i.size) news) e' (0,0)):=by rw [zA w b _ (zR hw)];simp
              have hll:(rows++new).length=rows.length+new.length:=by simp
              have hRI:RI (g.at j b ((rows.length+new.length)*i.size)).Z (zt w b (.cells (qf c (rows.length*i.size) news) e' (0,0))) (.slice (rows++new)) (.slice (some ⟨b,0,none⟩) (rows++new).length cap):=by
                refine Kh (vals:=olds++news) hw' (by simp only [Gh.at,if_pos];rw [hll];exact Nat.le_refl _) (by rw [hll];exact hroom) (fun row hr => ?_) (fun k u hk => ?_) (fun u hu => ?_) (fun k row q x hk hq => ?_)
                · rcases List.mem_append.1 hr with hr | hr
                  · exact hrs' row hr
                  · exact hsn row hr
                · rw [xl c _ news hfit]
                  rw [List.getElem?_append] at hk
                  split at hk
                  · rename_i hlt
                    rw [if_neg (by omega)]
                    have hread:=ho4 C.P w rfl
                    rw [hsv] at hread
                    simp only [Builtin.firstCells] at hread
                    have hcell:∀ q,q < rows.length*i.size→w.cell? ((⟨b,0,none⟩:Addr).add q)=some (c.getD q undef):=fun q hq=>by
                      rw [qD,qv hw,Nat.zero_add]
                      have:q < c.size:=by omega
                      simp [this]
                    rw [run_loadCells (P:=C.P) w _ _ _ hcell] at hread
                    simp only [Result.ok.injEq,and_true] at hread
                    have hread':(List.range (rows.length*i.size)).map (fun q=>c.getD q undef)=olds:=by
                      have:=congrArg Array.toList hread
                      simpa using this
                    rw [←hread'] at hk
                    simp only [List.getElem?_map,Option.map_eq_some_iff] at hk
                    obtain ⟨q,hq1,hq2⟩:=hk
                    obtain ⟨hq3,hq4⟩:=List.getElem?_eq_some_iff.1 hq1
                    simp at hq3 hq4
                    subst hq4
                    have:k < c.size:=by omega
                    simp [this] at hq2
                    simp [this,hq2]
                  · rename_i hge
                    have hlt:k - olds.length < news.length:=(List.getElem?_eq_some_iff.1 hk).1
                    rw [if_pos (by omega),←ho1]
                    exact hk
                · rcases List.mem_append.1 hu with hu | hu
                  · exact ho2 u hu
                  · exact hn2 u hu
                · rw [List.getElem?_append] at hk
                  split at hk
                  · obtain ⟨u,h2,h3⟩:=ho3 k row q x hk hq
                    have hlt2:k*i.size+q < olds.length:=(List.getElem?_eq_some_iff.1 h2).1
                    exact ⟨u,by rw [List.getElem?_append_left hlt2];exact h2,h3.mono E.zmono E.cell⟩
                  · rename_i hge
                    obtain ⟨u,h2,h3⟩:=hn3 _ row q x hk hq
                    have hle3:rows.length*i.size≤k*i.size:=Nat.mul_le_mul_right _ (by omega)
                    have hge2:olds.length≤k*i.size+q:=by rw [ho1];omega
                    refine ⟨u,?_,h3.mono E.zmono E.cell⟩
                    rw [List.getElem?_append_right hge2,←h2]
                    congr 1
                    rw [ho1,Nat.mul_sub_right_distrib]
                    omega
              rw [hll] at hRI
              refine .Zas j (rows++new) _ hRI (.inl hni) fun sz' len' ht => ?_
              simp only [hup,if_pos] at ht
              cases ht
              refine ⟨by rw [hll];exact Nat.le_refl _,fun k row hk => ?_,fun _=>.inr ⟨b,cap,_,e',by simp [Gh.at],by rw [hll],hw',by rw [jx];exact hcap⟩⟩
              rcases List.mem_append.1 (List.mem_of_getElem? hk) with hr | hr
              · exact hrs' row hr
              · exact hsn row hr
            · subst hrl
              have hroom':cap < rows.length+new.length:=by omega
              have hle:rows.length≤cap:=by
                rcases ZJ hri with ⟨hr0,_⟩ | ⟨b1,off1,cap1,sz1,cv1,hv1,hcp1,_⟩
                · subst hr0;simp
                · rw [hsv] at hv1;cases hv1;exact hcp1
              exact grow j rows.length cap _ rows olds (.inr ⟨htip,by omega⟩) rfl hsv hroom' hbound hrs' hold ho3
      · cases he
    · cases he
  · cases he
end
end
section
section
variable {C:Ctx} {g g':Gh} {h h':Nat→Option Zaf} {N N':Nat→Prop} {w w':World} {id:Nat}
theorem kZ:∀ {ks:List Nat} {ags bs:List IV} {r:Bool},qm ks ags bs=some r→ags.length=ks.length∧bs.length=ks.length
  | [],[],[],_,_=>⟨rfl,rfl⟩
  | [],[],_::_,_,h=>by simp [qm] at h
  | [],_::_,_,_,h=>by simp [qm] at h
  | _::_,[],_,_,h=>by simp [qm] at h
  | _::_,_::_,[],_,h=>by simp [qm] at h
  | k::ks,a::ags,b::bs,r,h=>by
    simp only [qm] at h
    split at h
    · split at h
      · rename_i y h2
        have:=kZ h2
        simp [this.1,this.2]
      · cases h
    · cases h
theorem Qo:∀ {k1 k2:List Nat} {ags bs:List IV} {r:Bool},qm (k1++k2) ags bs=some r →
    ∃ r1 r2,qm k1 (ags.take k1.length) (bs.take k1.length)=some r1∧qm k2 (ags.drop k1.length) (bs.drop k1.length)=some r2∧r=(r1&&r2)
  | [],k2,ags,bs,r,h=>⟨true,r,by simp [qm],by simpa using h,by simp⟩
  | k::k1,k2,[],bs,r,h=>by simp [qm] at h
  | k::k1,k2,a::ags,[],r,h=>by simp [qm] at h
  | k::k1,k2,a::ags,b::bs,r,h=>by
    simp only [List.cons_append,qm] at h
    split at h
    · rename_i x h1
      split at h
      · rename_i y h2
        cases h
        obtain ⟨r1,r2,h3,h4,rfl⟩:=Qo h2
        exact ⟨x&&r1,r2,by simp [qm,h1,h3],by simpa using h4,by simp [Bool.and_assoc]⟩
      · cases h
    · cases h
def RCs (Z:Nat→Nat) (w:World) (ags:List IV) (vs:List Value):Prop:=ags.length=vs.length∧∀ (j:Nat) (c:IV) (u:Value),ags[j]?=some c→vs[j]?=some u→RI Z w c u
theorem RCs.drop {Z:Nat→Nat} {ags:List IV} {vs:List Value} (H:RCs Z w ags vs) (n:Nat):RCs Z w (ags.drop n) (vs.drop n):=by
  refine ⟨by simp [H.1],fun j c u h1 h2 => ?_⟩
  rw [List.getElem?_drop] at h1 h2
  exact H.2 _ c u h1 h2
theorem RCs.take {Z:Nat→Nat} {ags:List IV} {vs:List Value} (H:RCs Z w ags vs) (n:Nat):RCs Z w (ags.take n) (vs.take n):=by
  refine ⟨by simp [H.1],fun j c u h1 h2 => ?_⟩
  rw [List.getElem?_take] at h1 h2
  split at h1
  · rename_i hj
    rw [if_pos hj] at h2
    exact H.2 _ c u h1 h2
  · cases h1
def j8 (P:Program) (t:TypeId) (vs:List Value):Value:=match P.underlying t with
  | some (.struct _)=>.agg vs.toArray
  | _=>vs.getD 0 undef
theorem QG {P:Program} {t:TypeId} {k:Nat} {dd:TypeDesc} (ht:P.underlying t=some dd) (hk:(k=0∧∃ kk,dd=.int kk)∨(k=1∧dd=.bool)∨(k=2∧dd=.string)) {Z:Nat→Nat} {ags bs:List IV} {us vs:List Value} {r:Bool}
    (ha:RCs Z w ags us) (hb:RCs Z w bs vs) (he:qm [k] ags bs=some r) (D:Nat):(Op.equalIn (D+1) t (j8 P t us) (j8 P t vs)).run P w=.ok r w:=by
  obtain ⟨h1,h2⟩:=kZ he
  obtain ⟨a,rfl⟩:=List.length_eq_one_iff.1 h1
  obtain ⟨b,rfl⟩:=List.length_eq_one_iff.1 h2
  obtain ⟨u,rfl⟩:=List.length_eq_one_iff.1 ha.1.symm
  obtain ⟨v,rfl⟩:=List.length_eq_one_iff.1 hb.1.symm
  have hra:=ha.2 0 a u rfl rfl
  have hrb:=hb.2 0 b v rfl rfl
  simp only [qm] at he
  split at he
  · rename_i x hx
    simp at he
    subst he
    rcases hk with ⟨rfl,kk,rfl⟩ | ⟨rfl,rfl⟩ | ⟨rfl,rfl⟩
    · simp only [j8,ht,List.getD_cons_zero]
      cases a<;>cases b<;>simp [Zi] at hx
      obtain ⟨rfl,rfl⟩:=hx
      cases hra;cases hrb
      exact run_equalIn_int w D t _ kk _ _ ht
    · simp only [j8,ht,List.getD_cons_zero]
      cases a<;>cases b<;>simp [Zi] at hx
      subst hx
      cases hra;cases hrb
      exact run_equalIn_bool' w D t _ _ ht
    · simp only [j8,ht,List.getD_cons_zero]
      cases a<;>cases b<;>simp [Zi] at hx
      subst hx
      cases hra;cases hrb
      rw [run_equalIn_string w D t _ _ ht,beq_toListBytes]
  · cases he
theorem Ki {P:Program} {t:TypeId} {n:Nat} (hn:zr P t=some n) (w:World) (vs:List Value) (off:Nat) (hs:(∃ fs,P.underlying t=some (.struct fs))∨(n=1∧∃ dd,P.underlying t=some dd∧((∃ k,dd=.int k)∨dd=.bool∨dd=.string)))
    (hl:off+n≤vs.length):(part t vs.toArray off).run P w=.ok (j8 P t ((vs.drop off).take n)) w:=by
  rcases hs with ⟨fs,hu⟩ | ⟨rfl,dd,hu,hk⟩
  · have hag:jl P t=some true:=by simp [jl,hu]
    simp only [part,Sem.run_bind,xD hag,Result.andThen_ok,if_true,Sem.run_pure,zH hn,j8,hu]
    congr 2
    apply Array.ext'
    simp [List.extract_eq_take_drop]
  · have hag:jl P t=some false:=by rcases hk with ⟨k,rfl⟩ | rfl | rfl<;>simp [jl,hu]
    have hv:j8 P t ((vs.drop off).take 1)=vs[off]'(by omega):=by
      have:((vs.drop off).take 1)[0]?=some (vs[off]'(by omega)):=by simp
      rcases hk with ⟨k,rfl⟩ | rfl | rfl<;>simp [j8,hu,List.getD,this]
    have hg:vs.toArray[off]?=some (vs[off]'(by omega)):=by simp
    simp only [part,Sem.run_bind,xD hag,Result.andThen_ok,Bool.false_eq_true,if_false,hg,Sem.run_pure,hv]
theorem VT {P:Program} {d:Nat} {t:TypeId} {ks:List Nat} (hf:vO P d t=some ks) :
    (∃ fs,P.underlying t=some (.struct fs))∨(ks.length=1∧∃ dd,P.underlying t=some dd∧((∃ k,dd=.int k)∨dd=.bool∨dd=.string)):=by
  cases d with
  | zero=>simp [vO] at hf
  | succ d=>
    simp only [vO] at hf
    split at hf
    · rename_i k hu;cases hf;exact .inr ⟨rfl,_,hu,.inl ⟨k,rfl⟩⟩
    · rename_i hu;cases hf;exact .inr ⟨rfl,_,hu,.inr (.inl rfl)⟩
    · rename_i hu;cases hf;exact .inr ⟨rfl,_,hu,.inr (.inr rfl)⟩
    · rename_i fs hu;exact .inl ⟨fs,hu⟩
    · cases hf
theorem zb5 {P:Program} {Z:Nat→Nat}:∀ (d D:Nat) (t:TypeId) (ks:List Nat),vO P d t=some ks→d≤D→∀ (ags bs:List IV) (us vs:List Value) (r:Bool),RCs Z w ags us→RCs Z w bs vs→qm ks ags bs=some r →
    (Op.equalIn D t (j8 P t us) (j8 P t vs)).run P w=.ok r w:=by
  intro d
  induction d with
  | zero=>intro D t ks hf;simp [vO] at hf
  | succ d ih=>
    intro D t ks hf hD ags bs us vs r ha hb he
    cases D with
    | zero=>omega
    | succ D=>
      simp only [vO] at hf
      split at hf
      · rename_i kk hu;cases hf;exact QG hu (.inl ⟨rfl,kk,rfl⟩) ha hb he D
      · rename_i hu;cases hf;exact QG hu (.inr (.inl ⟨rfl,rfl⟩)) ha hb he D
      · rename_i hu;cases hf;exact QG hu (.inr (.inr ⟨rfl,rfl⟩)) ha hb he D
      · rename_i fs hu
        split at hf
        · cases hf
        · rename_i hst
          have hst':P.stoodInHeld t=false:=by simpa using hst
          have hfo:P.fieldsOf t=fs:=by simp [Program.fieldsOf,hu]
          have hv:∀ l:List Value,j8 P t l=.agg l.toArray:=fun l=>by simp [j8,hu]
          rw [hv,hv,run_equalIn_struct w D t _ _ (by rw [hfo];exact hu) hst',hfo]
          have key:∀ (fl:List Field) (n:Nat) (ks:List Nat) (r:Bool),Qw P (vO P d) n fl=some ks→n+ks.length≤us.length→n+ks.length≤vs.length→qm ks (ags.drop n |>.take ks.length) (bs.drop n |>.take ks.length)=some r →
              (Op.eqFields D us.toArray vs.toArray fl).run P w=.ok r w:=by
            intro fl
            induction fl with
            | nil=>
              intro n ks r h1 _ _ h2
              simp [Qw] at h1
              subst h1
              simp [qm] at h2
              subst h2
              simp [Op.eqFields]
            | cons f fl ihf=>
              intro n ks r h1 hl1 hl2 h2
              simp only [Qw] at h1
              split at h1
              · rename_i hname
                split at h1
                · rename_i kf hkf
                  split at h1
                  · rename_i hsize
                    split at h1
                    · rename_i rest hrest
                      cases h1
                      simp only [List.length_append] at hl1 hl2
                      obtain ⟨r1,r2,h3,h4,rfl⟩:=Qo h2
                      obtain ⟨hn1,hn2⟩:=hname
                      have hp1:=Ki (P:=P) (n:=kf.length) hsize w us f.offset (VT hkf) (by omega)
                      have hp2:=Ki (P:=P) (n:=kf.length) hsize w vs f.offset (VT hkf) (by omega)
                      have heq:=ih D f.type kf hkf (by omega) ((ags.drop f.offset).take kf.length) ((bs.drop f.offset).take kf.length) ((us.drop f.offset).take kf.length) ((vs.drop f.offset).take kf.length) r1
                        ((ha.drop _).take _) ((hb.drop _).take _) (by
                          rw [hn2]
                          simpa [List.take_take,Nat.min_eq_left (Nat.le_add_right kf.length rest.length)] using h3)
                      simp only [Op.eqFields,if_pos hn1,Sem.run_bind,hp1,hp2,Result.andThen_ok,heq,Sem.run_ite]
                      cases r1 with
                      | false=>simp
                      | true=>
                        simp only [Bool.not_true,Bool.false_eq_true,if_false,Bool.true_and]
                        refine ihf (n+kf.length) rest r2 hrest (by omega) (by omega) ?_
                        rw [←h4]
                        congr 1
                        · rw [List.drop_take,List.drop_drop];congr 1;simp
                        · rw [List.drop_take,List.drop_drop];congr 1;simp
                    · cases h1
                  · cases h1
                · cases h1
              · cases h1
          obtain ⟨hl1,hl2⟩:=kZ he
          refine key fs.toList 0 ks r hf (by rw [←ha.1];omega) (by rw [←hb.1];omega) ?_
          rw [List.drop_zero,List.drop_zero,List.take_of_length_le (by omega),List.take_of_length_le (by omega)]
          exact he
      · cases hf
theorem XQ {x:AV} {v:Value} {l:List IV} (hx:kB x=some l) (hv:RV C g h N w x v):∃ vs,v=.agg vs.toArray∧RCs g.Z w l vs:=by
  unfold kB at hx
  split at hx
  · cases hx
    cases hv with
    | imm _ _ hr=>cases hr with | agg _ vs hl h1 hr=>exact ⟨vs,rfl,hl,hr⟩
  · rename_i cs
    obtain ⟨h1,h2⟩:=z7 hx
    cases hv with
    | agg _ vs hl h1' hr=>
      refine ⟨vs,rfl,by rw [h1];exact hl,fun j c u hj hu => ?_⟩
      have hlt:j < cs.length:=by rw [←h1];exact (List.getElem?_eq_some_iff.1 hj).1
      obtain ⟨c',hc1,hc2⟩:=h2 j cs[j] (by simp)
      rw [hj] at hc1
      cases hc1
      exact Va hc2 (hr j cs[j] u (by simp) hu)
  · cases hx
theorem zeX {x:AV} {v:Value} {l:List IV} (hx:kB x=some l) (hv:RV C g h N w x v):RI g.Z w (.agg l) v:=by
  unfold kB at hx
  split at hx
  · cases hx
    cases hv with
    | imm _ _ hr=>exact hr
  · rename_i cs
    obtain ⟨h1,h2⟩:=z7 hx
    cases hv with
    | agg _ vs hl h1' hr=>
      refine .agg _ vs (by rw [h1];exact hl) h1' fun j c u hj hu => ?_
      have hlt:j < cs.length:=by rw [←h1];exact (List.getElem?_eq_some_iff.1 hj).1
      obtain ⟨c',hc1,hc2⟩:=h2 j cs[j] (by simp)
      rw [hj] at hc1
      cases hc1
      exact Va hc2 (hr j cs[j] u (by simp) hu)
  · cases hx
theorem zdm {o:Oper} {t:TypeId} {fs:Array Field} {x:Operand} (ho:o.op=.makeInterface t x) (ht:C.P.underlying t=some (.struct fs)):OpSound C o (.mki t (C.opd x)):=by
  intro g h N w id ev val r ups R hid hv he
  have hx:=hv x (by simp [ho,Op.operands])
  simp only [evalOp] at he
  split at he
  · rename_i l e1
    simp only [Option.some.injEq,Prod.mk.injEq] at he
    obtain ⟨rfl,rfl⟩:=he
    exact ⟨.iface t (val x),w,.inl (by simp [execOp,ho,Instr.makeInterface,run_underlying ht]),zm R (.imm _ _ (.iface t _ _ (zeX e1 hx)))⟩
  · cases he
theorem VU {o:Oper} {t t':TypeId} {op:BinOp} {neg:Bool} {ks:List Nat} {fs:Array Field} {x y:Operand} (ho:o.op=.binOp op t x y t') (ht:C.P.underlying t=some (.struct fs))
    (hf:vO C.P 9 t=some ks) (hg:C.P.eqGuardType C.P.depth t=false) (hop:op=if neg then .neq else .eql):OpSound C o (.eqs neg ks (C.opd x) (C.opd y)):=by
  intro g h N w id ev val r ups R hid hv he
  have hx:=hv x (by simp [ho,Op.operands])
  have hy:=hv y (by simp [ho,Op.operands])
  simp only [evalOp] at he
  split at he
  · rename_i a b e1 e2
    split at he
    · rename_i rr hr
      simp only [Option.some.injEq,Prod.mk.injEq] at he
      obtain ⟨rfl,rfl⟩:=he
      obtain ⟨us,hu1,hu2⟩:=XQ e1 hx
      obtain ⟨vs,hv1,hv2⟩:=XQ e2 hy
      have:=zb5 (P:=C.P) (w:=w) 9 10000 t ks hf (by omega) a b us vs rr hu2 hv2 hr
      have hvo:∀ l:List Value,j8 C.P t l=.agg l.toArray:=fun l=>by simp [j8,ht]
      rw [hvo,hvo] at this
      refine ⟨.bool (if neg then !rr else rr),w,.inl ?_,zm R (.imm _ _ (.bool _))⟩
      subst hop
      cases neg with
      | false=>simp only [Bool.false_eq_true,if_false] at ho ⊢; simp [execOp,ho,hu1,hv1,run_eqGuard_agg w _ t x y _ _ hg,run_eql_struct,this]
      | true=>simp only [if_true] at ho ⊢; simp [execOp,ho,hu1,hv1,run_eqGuard_agg w _ t x y _ _ hg,run_neq_struct,this]
    · cases he
  · cases he
end
end
section
section
variable {C:Ctx} {g g':Gh} {h h':Nat→Option Zaf} {N N':Nat→Prop} {w w':World} {id:Nat}
def Gh.move (g:Gh) (i id b:Nat):Gh:=⟨fun k=>if k=id then some b else if k=i then none else g.ρ k,g.Z⟩
theorem kH (R:RH C g h N w) (hid:¬ N id) {i sz0:Nat} {rows0:List (List AV)} (hi:h i=some (.rows sz0 rows0)) {b':Nat} {w1:World} {c':Array Value} {e':TypeId}
    (hos:w1.os=w.os) (htp:w1.tape=w.tape) (hout:w1.output=w.output) (hsize:w.heap.size≤w1.heap.size) (hother:∀ k,k < w.heap.size→k≠b'→w1.heap[k]?=w.heap[k]?)
    (hfresh:w.heap.size≤b'∨g.ρ i=some b') (hz:g.Z b'=0) (hblk:w1.heap[b']?=some (.cells c' e' (0,0)))
    (hshape:∀ (c:Array Value) (e:TypeId),w.heap[b']?=some (.cells c e (0,0))→∃ c'':Array Value,w1.heap[b']?=some (.cells c'' e (0,0))∧c''.size=c.size)
    {sz:Nat} {rows:List (List AV)} (hrl:∀ (k:Nat) (row:List AV),rows[k]?=some row→row.length=sz)
    (hrc:∀ (k:Nat) (row:List AV) (j:Nat) (x:AV),rows[k]?=some row→row[j]?=some x→∃ cv,c'[k*sz+j]?=some cv∧cv.oneCell'=true∧RV C g h N w x cv)
    {len cap:Nat} (hlen:len=rows.length) (hcap1:len≤cap) (hcap2:cap*sz≤c'.size) :
    Good C g h N w id (.Zal id 0 len) [(id,.rows sz rows),(i,.dead)] (.slice (some ⟨b',0,none⟩) len cap) w1:=by
  have hN:=R.key i _ hi
  have hne:i≠id:=fun e=>hid (e ▸ hN)
  have hidN:∀ k,N k→k≠id:=fun k hk e=>hid (e ▸ hk)
  have hupv:∀ k o,hup [(id,Zaf.rows sz rows),(i,.dead)] h k=some o→(k=id∧o=.rows sz rows)∨(k=i∧o=.dead)∨(k≠id∧k≠i∧h k=some o):=fun k o ho=>by
    simp only [hup] at ho
    split at ho
    · rename_i e;cases ho;exact .inl ⟨e.symm,rfl⟩
    · rename_i e
      split at ho
      · rename_i e2;cases ho;exact .inr (.inl ⟨e2.symm,rfl⟩)
      · rename_i e2;exact .inr (.inr ⟨fun e3=>e e3.symm,fun e3=>e2 e3.symm,ho⟩)
  have hnob:∀ k b,g.ρ k=some b→k≠i→b≠b':=fun k b hk hki e=>by
    rcases hfresh with hf | hf
    · have:=(R.lt k b hk).1;omega
    · exact hki (R.inj k i b hk (e ▸ hf))
  have E:Evo g h N w (g.move i id b') (hup [(id,.rows sz rows),(i,.dead)] h) (z8 N id) w1:={
    os:=hos
    tape:=htp
    output:=hout
    size:=hsize
    old:=fun b hb ho=>⟨hother b hb (fun e=>by
      rcases hfresh with hf | hf
      · omega
      · exact ho ⟨i,by rw [e];exact hf⟩),rfl⟩
    own:=fun b ⟨k,hk⟩=>by
      simp only [Gh.move] at hk
      split at hk
      · cases hk
        rcases hfresh with hf | hf
        · exact .inr hf
        · exact .inl ⟨i,hf⟩
      · split at hk
        · cases hk
        · exact .inl ⟨k,hk⟩
    zmono:=fun _=>Nat.le_refl _
    cell:=Frz.heap fun b ho=>hother b (R.zlt b ho) (fun e=>by subst e;omega)
    shape:=fun b c e hb=>by
      by_cases hbb:b=b'
      · subst hbb;exact hshape c e hb
      · exact ⟨c,(hother b (zR hb) hbb).trans hb,rfl⟩
    next:=fun k hk=>.inl hk
    rho:=fun k b hb o ho hnd hk=>by
      rcases hupv k o ho with ⟨h1,h2⟩ | ⟨h1,h2⟩ | ⟨h1,h2,h3⟩
      · exact absurd h1 (hidN k hk)
      · exact absurd h2 hnd
      · exact .inl (by simp only [Gh.move];rw [if_neg h1,if_neg h2];exact hb)
    rho0:=fun k hb hk o ho hnd=>by
      rcases hupv k o ho with ⟨h1,h2⟩ | ⟨h1,h2⟩ | ⟨h1,h2,h3⟩
      · exact absurd h1 (hidN k hk)
      · exact absurd h2 hnd
      · exact .inl (by simp only [Gh.move];rw [if_neg h1,if_neg h2];exact hb)
    rows:=fun k hk s r ho=>by
      rcases hupv k _ ho with ⟨h1,h2⟩ | ⟨h1,h2⟩ | ⟨h1,h2,h3⟩
      · exact absurd h1 (hidN k hk)
      · cases h2
      · exact ⟨r,h3,rfl⟩
    tips:=fun k hk s l ho=>by
      rcases hupv k _ ho with ⟨h1,h2⟩ | ⟨h1,h2⟩ | ⟨h1,h2,h3⟩
      · cases h2
      · cases h2
      · exact ⟨l,h3,Nat.le_refl _⟩
    maps:=fun k hk es ho=>by
      rcases hupv k _ ho with ⟨h1,h2⟩ | ⟨h1,h2⟩ | ⟨h1,h2,h3⟩
      · cases h2
      · cases h2
      · exact ⟨es,h3⟩
    lps:=fun k hk ll RR s pe ho=>by
      rcases hupv k _ ho with ⟨h1,h2⟩ | ⟨h1,h2⟩ | ⟨h1,h2,h3⟩
      · cases h2
      · cases h2
      · exact ⟨s,pe,h3⟩}
  refine ⟨g.move i id b',E,⟨fun k l b hk hl => ?_,fun k b hk => ?_,fun k o ho => ?_,fun k b o hk ho => ?_,fun k s l ho hn => ?_,fun b hb=>Nat.lt_of_lt_of_le (R.zlt b hb) hsize,R.fix.evo E⟩,?_⟩
  · simp only [Gh.move] at hk hl
    split at hk
    · rename_i e1
      cases hk
      split at hl
      · rename_i e2;rw [e1,e2]
      · split at hl
        · cases hl
        · rename_i e2 e3;exact absurd rfl (hnob l _ hl e3)
    · rename_i e1
      split at hk
      · cases hk
      · rename_i e2
        split at hl
        · cases hl;exact absurd rfl (hnob k _ hk e2)
        · split at hl
          · cases hl
          · exact R.inj k l b hk hl
  · simp only [Gh.move] at hk
    split at hk
    · rename_i e1;cases hk;exact ⟨zR hblk,.inr e1⟩
    · split at hk
      · cases hk
      · exact ⟨Nat.lt_of_lt_of_le (R.lt k b hk).1 hsize,.inl (R.lt k b hk).2⟩
  · rcases hupv k o ho with ⟨h1,_⟩ | ⟨h1,_⟩ | ⟨_,_,h3⟩
    · exact .inr h1
    · exact .inl (h1 ▸ hN)
    · exact .inl (R.key k o h3)
  · rcases hupv k o ho with ⟨h1,h2⟩ | ⟨h1,h2⟩ | ⟨h1,h2,h3⟩
    · subst h2
      simp only [Gh.move,if_pos h1] at hk
      cases hk
      refine ⟨hz,c',e',hblk,hrl,fun q row j x hq hj => ?_⟩
      obtain ⟨cv,a1,a2,a3⟩:=hrc q row j x hq hj
      exact ⟨cv,a1,a2,a3.mono E⟩
    · subst h2;trivial
    · simp only [Gh.move] at hk
      rw [if_neg h1,if_neg h2] at hk
      exact (R.obj k b o hk h3).keep E (hother b (R.lt k b hk).1 (hnob k b hk h2)) rfl
  · rcases hupv k _ ho with ⟨h1,h2⟩ | ⟨h1,h2⟩ | ⟨h1,h2,h3⟩
    · cases h2
    · cases h2
    · simp only [Gh.move] at hn
      rw [if_neg h1,if_neg h2] at hn
      exact R.tip0 k s l h3 hn
  · refine .Zal id 0 len _ (.inr rfl) rfl fun sz' rows' ho => ?_
    simp only [hup,if_pos] at ho
    cases ho
    exact ⟨by omega,.inr ⟨b',cap,c',e',by simp [Gh.move],by simp,hcap1,hblk,by simpa using hcap2⟩⟩
theorem VV (R:RH C g h N w) (hid:¬ N id) (sz:Nat):Good C g h N w id (.Zal id 0 0) [(id,.rows sz [])] (.slice none 0 0) w:=by
  have ne:∀ i,N i→id≠i:=fun i hi e=>hid (e ▸ hi)
  have E:Evo g h N w g (hup [(id,.rows sz [])] h) (z8 N id) w:=
    ⟨rfl,rfl,rfl,Nat.le_refl _,fun _ _ _=>⟨rfl,rfl⟩,fun _ h=>.inl h,fun _=>Nat.le_refl _,⟨fun _ _ _=>rfl,fun _ _ _ _ _=>rfl⟩,fun b c e hb=>⟨c,hb,rfl⟩,fun _ h=>.inl h,fun i b hb _ _ _ _=>.inl hb,fun i hb _ _ _ _=>.inl hb,
      fun i hi s r ho=>⟨r,by simp only [hup] at ho;rwa [if_neg (ne i hi)] at ho,rfl⟩,fun i hi s r ho=>⟨r,by simp only [hup] at ho;rwa [if_neg (ne i hi)] at ho,Nat.le_refl _⟩,
      fun i hi r ho=>⟨r,by simp only [hup] at ho;rwa [if_neg (ne i hi)] at ho⟩,
      fun i hi l R s pe ho=>⟨s,pe,by simp only [hup] at ho;rwa [if_neg (ne i hi)] at ho⟩⟩
  have hn:=R.rho_none hid
  refine ⟨g,E,⟨R.inj,fun i b hb=>⟨(R.lt i b hb).1,.inl (R.lt i b hb).2⟩,fun i o ho => ?_,fun i b o hb ho => ?_,fun i s l ho hr => ?_,R.zlt,R.fix.evo E⟩,?_⟩
  · simp only [hup] at ho
    split at ho
    · rename_i e;exact .inr e.symm
    · exact .inl (R.key i o ho)
  · simp only [hup] at ho
    split at ho
    · rename_i e;subst e;rw [hn] at hb;cases hb
    · exact (R.obj i b o hb ho).keep E rfl rfl
  · simp only [hup] at ho
    split at ho
    · cases ho
    · exact R.tip0 i s l ho hr
  · refine .Zal id 0 0 _ (.inr rfl) rfl fun s rows ho => ?_
    simp only [hup,if_pos] at ho
    cases ho
    exact ⟨Nat.le_refl _,.inl ⟨hn,rfl,rfl⟩⟩
theorem Kj {i len sz:Nat} {rows:List (List AV)} {v:Value} (R:RH C g h N w) (hid:¬ N id) (hv:RV C g h N w (.Zal i 0 len) v) (ho:h i=some (.rows sz rows)) (hl:len=rows.length):Good C g h N w id (.Zal id 0 len) [(id,.rows sz rows),(i,.dead)] v w:=by
  cases hv with
  | Zal _ _ _ _ hni h1 hp=>
    obtain ⟨h2,h3⟩:=hp sz rows ho
    rcases h3 with ⟨a1,a2,a3⟩ | ⟨b,cap,c,e,b1,b2,b3,b4,b5⟩
    · subst a2 a3 hl
      obtain ⟨g',E,H,hv⟩:=VV (id:=id) R hid sz
      have ne:i≠id:=fun e=>hid (e ▸ hni)
      have hh:∀ k o,hup [(id,Zaf.rows sz []),(i,.dead)] h k=some o→(k=i∧o=.dead)∨(k≠i∧hup [(id,Zaf.rows sz [])] h k=some o):=fun k o hk=>by
        simp only [hup] at hk ⊢
        split at hk
        · rename_i e;subst e;cases hk;exact .inr ⟨fun e=>ne e.symm,by rw [if_pos rfl]⟩
        · rename_i e
          split at hk
          · rename_i e2;cases hk;exact .inl ⟨e2.symm,rfl⟩
          · rename_i e2;exact .inr ⟨fun e3=>e2 e3.symm,by rw [if_neg e];exact hk⟩
      have hrn:g'.ρ i=none:=by
        cases hr:g'.ρ i with
        | none=>rfl
        | some b=>
          have h4:=H.obj i b (.rows sz []) hr (by simp only [hup];rw [if_neg (fun e=>ne e.symm)];exact ho)
          have h5:g'.ρ i=none:=by
            rcases E.rho0 i a1 hni (.rows sz []) (by simp only [hup];rw [if_neg (fun e=>ne e.symm)];exact ho) (by simp) with h6 | ⟨_,_,_,_,_,h7,_⟩
            · exact h6
            · cases h7
          rw [h5] at hr;cases hr
      have E2:Evo g' (hup [(id,Zaf.rows sz [])] h) (z8 N id) w g' (hup [(id,Zaf.rows sz []),(i,.dead)] h) (z8 N id) w:={
        os:=rfl
        tape:=rfl
        output:=rfl
        size:=Nat.le_refl _
        old:=fun _ _ _=>⟨rfl,rfl⟩
        own:=fun _ h=>.inl h
        zmono:=fun _=>Nat.le_refl _
        cell:=Frz.refl _ _
        shape:=fun b c e h=>⟨c,h,rfl⟩
        next:=fun _ h=>h
        rho:=fun k b h _ _ _ _=>.inl h
        rho0:=fun k h _ _ _ _=>.inl h
        rows:=fun k _ s r hk=>by
          rcases hh k _ hk with ⟨_,h7⟩ | ⟨_,h7⟩
          · cases h7
          · exact ⟨r,h7,rfl⟩
        tips:=fun k _ s r hk=>by
          rcases hh k _ hk with ⟨_,h7⟩ | ⟨_,h7⟩
          · cases h7
          · exact ⟨r,h7,Nat.le_refl _⟩
        maps:=fun k _ r hk=>by
          rcases hh k _ hk with ⟨_,h7⟩ | ⟨_,h7⟩
          · cases h7
          · exact ⟨r,h7⟩
        lps:=fun k _ ll RR s pe hk=>by
          rcases hh k _ hk with ⟨_,h7⟩ | ⟨_,h7⟩
          · cases h7
          · exact ⟨s,pe,h7⟩}
      refine ⟨g',E.trans E2,⟨H.inj,H.lt,fun k o hk => ?_,fun k b o hb hk => ?_,fun k s l hk hr => ?_,H.zlt,H.fix.evo E2⟩,hv.mono E2⟩
      · rcases hh k o hk with ⟨h7,h8⟩ | ⟨h7,h8⟩
        · subst h7;exact .inl hni
        · exact H.key k o h8
      · rcases hh k o hk with ⟨h7,h8⟩ | ⟨h7,h8⟩
        · subst h8;trivial
        · exact (H.obj k b o hb h8).keep E2 rfl rfl
      · rcases hh k _ hk with ⟨h7,h8⟩ | ⟨h7,h8⟩
        · cases h8
        · exact H.tip0 k s l h8 hr
    · subst hl b2
      have hobj:=R.obj i b _ b1 ho
      simp only [RObj] at hobj
      obtain ⟨z0,c2,e2,c3,c4,c5⟩:=hobj
      rw [b4] at c3
      cases c3
      have:=kH (id:=id) (b':=b) (w1:=w) R hid ho rfl rfl rfl (Nat.le_refl _) (fun _ _ _=>rfl) (.inr b1) z0 b4 (fun c e hc=>⟨c,hc,rfl⟩) c4 c5 rfl b3 (by simpa using b5)
      simpa using this
theorem zb6 {o:Oper} {t t' e:TypeId} {d:TypeDesc} {s x:Operand} {sz by_:Nat} {z:List AV} (ho:o.op=.call {callee:=.builtin .append,args := #[s,x],argTypes := #[t,t']})
    (ht:C.P.underlying t=some (.slice e)) (ht':C.P.underlying t'=some d) (hd:∀ k,d≠.int k) (hsz:zr C.P e=some sz) (hby:j7 C.P e=some by_) (hz:qu C.P e=some z)
    (h0:0 < sz) (hzl:z.length=sz) (hby0:0 < by_):zly C o sz by_ (C.opd s) (C.opd x):=by
  intro g h N w id ev val r ups R hid hv he
  have hs:=hv s (by simp [ho,Op.operands,Call.operands])
  have hx:=hv x (by simp [ho,Op.operands,Call.operands])
  obtain ⟨i,zv,hi,hzv,rfl⟩:=jy hz
  have hzs:zv.cells.size=sz:=by simpa using hzl
  have hsize:i.size=sz:=by simpa [zr,hi] using hsz
  have hbytes:i.bytes=by_:=by simpa [j7,hi] using hby
  subst hsize
  subst hbytes
  have exec:∀ v' w',(Builtin.append_ #[t,t'] o.type #[val s,val x]).run C.P w=.ok v' w'→Ran C.P (execOp val o) w v' w':=fun v' w' hrun=>by
    refine .inl ?_
    simp [execOp,ho,resolve,invoke,builtin,hrun]
  unfold Qv at he
  split at he
  case h_2=>cases he
  rename_i new hnew
  split at he
  · cases he
  rename_i hall
  have hsn:∀ row∈new,row.length=i.size:=fun row hr=>by
    simp only [Bool.not_eq_true',Bool.not_eq_false] at hall
    have:=List.all_eq_true.1 hall row hr
    simpa using this
  obtain ⟨a,cp,hxv,news,hn1,hn2,hn3,hn4⟩:=XP R hnew hx hsn
  have hsrc:Src C.P w i.size new.length (val x) news:=⟨⟨a,cp,hxv⟩,hn1,hn2,fun w1 hw1=>hn4 C.P w1 hw1⟩
  have hnr:∀ (k:Nat) (row:List AV) (j:Nat) (y:AV),new[k]?=some row→row[j]?=some y→∃ u,news[k*i.size+j]?=some u∧u.oneCell'=true∧RV C g h N w y u:=fun k row j y hk hj=>by
    obtain ⟨u,h1,h2⟩:=hn3 k row j y hk hj
    exact ⟨u,h1,hn2 u (List.mem_of_getElem? h1),h2⟩
  have hnl:∀ (k:Nat) (row:List AV),new[k]?=some row→row.length=i.size:=fun k row hk=>hsn row (List.mem_of_getElem? hk)
  split at he
  · rename_i q off len e1
    rw [e1] at hs
    split at he
    · rename_i sz' rows hob
      cases new with
      | nil=>
        split at he
        case isFalse=>cases he
        rename_i hcond
        obtain ⟨rfl,rfl,hlen,hbound⟩:=hcond
        simp only [Option.some.injEq,Prod.mk.injEq] at he
        obtain ⟨rfl,rfl⟩:=he
        have hgood:=Kj (id:=id) R hid hs hob hlen
        simp only [List.length_nil,Nat.add_zero,List.append_nil]
        have hs0:=hs
        cases hs with
        | Zal _ _ _ _ hni hone hp=>
          obtain ⟨h3,h4⟩:=hp _ _ hob
          rcases h4 with ⟨hn,hr,hval⟩ | ⟨b,cap,c,e',hb,hval,hle,hw,hcap⟩
          · subst hr
            have hl0:len=0:=by simp at h3;omega
            have hrun:=yV (w:=w) (ty:=o.type) ht hi ht' hd (news:=news) (by simpa using hsrc)
            refine ⟨_,_,exec _ _ (by rw [hval];exact hrun),hgood⟩
          · have hnn:news=[]:=List.eq_nil_of_length_eq_zero (by rw [hn1];simp)
            obtain ⟨⟨a9,cap9,hx9⟩,_,_,hread⟩:=hsrc
            have hr0:=hread w rfl
            have hz1:(match d with | .int _=>true | _=>false)=false:=by cases d<;>first | rfl | exact absurd rfl (hd _)
            refine ⟨val s,w,exec _ _ ?_,hgood⟩
            rw [hval]
            rw [hx9] at hr0 ⊢
            simp only [List.length_nil] at hr0
            simp [Builtin.append_,run_underlying ht,sizeOf,typeInfo,hi,Builtin.lenOf,run_underlying ht',hz1,hle,hr0,hnn,storeCells]
      | cons hd0 tl0=>
        split at he
        · rename_i hcond
          obtain ⟨rfl,rfl,rfl,hbound⟩:=hcond
          simp only [Option.some.injEq,Prod.mk.injEq] at he
          obtain ⟨rfl,rfl⟩:=he
          have hpos:0 < (hd0::tl0).length:=by simp
          cases hs with
          | Zal _ _ _ _ hni hone hp=>
            obtain ⟨h3,h4⟩:=hp _ _ hob
            have hlist:(rows++(hd0::tl0)).length=rows.length+(hd0::tl0).length:=by simp
            have joinRL:(∀ (k:Nat) (row:List AV),rows[k]?=some row→row.length=i.size)→∀ (k:Nat) (row:List AV),(rows++(hd0::tl0))[k]?=some row→row.length=i.size:=fun hh k row hk=>by
              rw [List.getElem?_append] at hk
              split at hk
              · exact hh k row hk
              · exact hnl _ row hk
            have joinRC:∀ (c':Array Value) ,(∀ (k:Nat) (row:List AV) (j:Nat) (y:AV),rows[k]?=some row→row[j]?=some y→∃ u,c'[k*i.size+j]?=some u∧u.oneCell'=true∧RV C g h N w y u)→(∀ q u,news[q]?=some u→c'[rows.length*i.size+q]?=some u) →
                ∀ (k:Nat) (row:List AV) (j:Nat) (y:AV),(rows++(hd0::tl0))[k]?=some row→row[j]?=some y→∃ u,c'[k*i.size+j]?=some u∧u.oneCell'=true∧RV C g h N w y u:=fun c' hA hB k row j y hk hj=>by
              rw [List.getElem?_append] at hk
              split at hk
              · exact hA k row j y hk hj
              · rename_i hge
                obtain ⟨u,a1,a2,a3⟩:=hnr _ row j y hk hj
                refine ⟨u,?_,a2,a3⟩
                rw [←hB _ u a1]
                congr 1
                have:rows.length*i.size≤k*i.size:=Nat.mul_le_mul_right _ (by omega)
                rw [Nat.mul_sub_right_distrib]
                omega
            rcases h4 with ⟨hn,hr,hval⟩ | ⟨b,cap,c,e',hb,hval,hle,hw,hcap⟩
            · subst hr
              obtain ⟨newCap,rest,hc1,hc2,hrun⟩:=yW (w:=w) (ty:=o.type) (olds:=[]) (L:=0) (cap:=0) (base:=none) ht hi hzv ht' hd hval ⟨⟨none,0,hval⟩,by simp,by simp,fun w1 _=>by rw [hval];simp [Builtin.firstCells]⟩ hsrc (by simp) hby0 (by simpa using hbound)
              simp only [Nat.zero_add,List.nil_append] at hrun hc1 hc2
              have hsize2:(news.toArray++rest).size=newCap*i.size:=by
                simp only [Array.size_append,List.size_toArray,hn1,hc2,hzs]
                rw [←Nat.add_mul];congr 1;omega
              refine ⟨_,_,exec _ _ hrun,?_⟩
              have:=kH (id:=id) (b':=w.heap.size) (w1:=w.drew.alloc (.cells (news.toArray++rest) e (0,0))) R hid hob rfl rfl rfl (by simp) (fun k hk _=>qn w.drew _ hk) (.inl (Nat.le_refl _)) R.z_size (zK w.drew _)
                (fun c e hc=>by have:=zR hc;omega) (sz:=i.size) (rows:=[]++(hd0::tl0)) (joinRL (fun k row hk=>by simp at hk)) (joinRC _ (fun k row j y hk=>by simp at hk) (fun q u hq=>by
                  have hlt:q < news.length:=(List.getElem?_eq_some_iff.1 hq).1
                  simp only [List.length_nil,Nat.zero_mul,Nat.zero_add]
                  rw [Array.getElem?_append_left (by simpa using hlt)]
                  simpa using hq)) (len:=0+(hd0::tl0).length) (cap:=newCap) (by simp) (by omega) (by omega)
              simpa using this
            · obtain ⟨hz0,c2,e2,hw2,hlen2,hcells2⟩:=R.obj q b _ hb hob
              rw [hw] at hw2
              cases hw2
              simp only [Nat.zero_add,Nat.zero_mul] at hcap hval
              by_cases hroom:rows.length+(hd0::tl0).length≤cap
              · have hm1:(rows.length+(hd0::tl0).length)*i.size≤cap*i.size:=Nat.mul_le_mul_right _ hroom
                have hfit:rows.length*i.size+news.length≤c.size:=by rw [hn1,←Nat.add_mul];omega
                have hrun:=QD (P:=C.P) (w:=w) (ty:=o.type) ht hi ht' hd hw hsrc hroom hfit
                refine ⟨_,_,exec _ _ (by rw [hval];exact hrun),?_⟩
                refine kH (id:=id) (b':=b) (w1:=zt w b (.cells (qf c (rows.length*i.size) news) e' (0,0))) R hid hob rfl rfl rfl (by rw [qR];exact Nat.le_refl _) (fun k hk hne=>by rw [zA w b _ (zR hw),if_neg hne]) (.inr hb) hz0 (c':=qf c (rows.length*i.size) news) (e':=e') (by rw [zA w b _ (zR hw)];simp)
                  (fun c3 e3 hc3=>by rw [hw] at hc3;cases hc3;exact ⟨_,by rw [zA w b _ (zR hw),if_pos rfl],jx _ _ _⟩) (joinRL hlen2) (joinRC _ (fun k row j y hk hj => ?_) (fun p u hp2 => ?_)) (by simp) hroom (by rw [jx];exact hcap)
                · obtain ⟨cv,a1,a2,a3⟩:=hcells2 k row j y hk hj
                  refine ⟨cv,?_,a2,a3⟩
                  rw [xl c _ news hfit,if_neg ?_]
                  · exact a1
                  · have hk':k < rows.length:=(List.getElem?_eq_some_iff.1 hk).1
                    have hj':j < i.size:=by rw [←hlen2 k row hk];exact (List.getElem?_eq_some_iff.1 hj).1
                    have:(k+1)*i.size≤rows.length*i.size:=Nat.mul_le_mul_right _ hk'
                    rw [Nat.add_mul] at this
                    omega
                · have hlt:p < news.length:=(List.getElem?_eq_some_iff.1 hp2).1
                  rw [xl c _ news hfit,if_pos (by omega),show rows.length*i.size+p - rows.length*i.size=p by omega]
                  exact hp2
              · have hroom':cap < rows.length+(hd0::tl0).length:=by omega
                have hcell:∀ k,k < rows.length*i.size→∃ u,c[k]?=some u∧u.oneCell'=true:=fun k hk=>by
                  have hi':k / i.size < rows.length:=Nat.div_lt_of_lt_mul (by rw [Nat.mul_comm];exact hk)
                  have hrow:rows[k / i.size]?=some rows[k / i.size]:=List.getElem?_eq_getElem hi'
                  have hj':k % i.size < (rows[k / i.size]).length:=by rw [hlen2 _ _ hrow];exact Nat.mod_lt _ h0
                  obtain ⟨cv,a1,a2,_⟩:=hcells2 _ _ (k % i.size) _ hrow (List.getElem?_eq_getElem hj')
                  refine ⟨cv,?_,a2⟩
                  rw [←a1];congr 1
                  have:=Nat.div_add_mod k i.size
                  rw [Nat.mul_comm] at this;omega
                obtain ⟨olds,ho1,ho2⟩:=vQ (β:=Value) (List.range (rows.length*i.size)) (fun _ k u=>c[k]?=some u∧u.oneCell'=true) (fun j k hj=>by
                  obtain ⟨hj1,hj2⟩:=List.getElem?_eq_some_iff.1 hj
                  simp at hj1 hj2
                  subst hj2
                  exact hcell j hj1)
                have ho1':olds.length=rows.length*i.size:=by simpa using ho1
                have hgo:∀ (k:Nat) (u:Value),olds[k]?=some u→c[k]?=some u∧u.oneCell'=true:=fun k u hk=>by
                  have hlt:k < rows.length*i.size:=by rw [←ho1'];exact (List.getElem?_eq_some_iff.1 hk).1
                  exact ho2 k k u (by simp [hlt]) hk
                have hold:Src C.P w i.size rows.length (val s) olds:=⟨⟨_,cap,hval⟩,ho1',fun u hu=>by
                    obtain ⟨k,hk⟩:=List.getElem?_of_mem hu
                    exact (hgo k u hk).2,fun w1 hw1=>by
                    rw [hval]
                    simp only [Builtin.firstCells]
                    rw [←ho1']
                    refine run_loadCells_list (P:=C.P) w1 _ olds fun k u hk => ?_
                    have:w1.heap[b]?=some (.cells c e' (0,0)):=by rw [hw1];exact hw
                    rw [qD,qv this,Nat.zero_add]
                    exact (hgo k u hk).1⟩
                obtain ⟨newCap,rest,hc1,hc2,hrun⟩:=yW (w:=w) (ty:=o.type) ht hi hzv ht' hd hval hold hsrc hroom' hby0 hbound
                have hsize2:((olds++news).toArray++rest).size=newCap*i.size:=by
                  simp only [Array.size_append,List.size_toArray,List.length_append,ho1',hn1,hc2,hzs]
                  rw [←Nat.add_mul,←Nat.add_mul];congr 1;omega
                refine ⟨_,_,exec _ _ hrun,?_⟩
                refine kH (id:=id) (b':=w.heap.size) (w1:=w.drew.alloc (.cells ((olds++news).toArray++rest) e (0,0))) R hid hob rfl rfl rfl (by simp) (fun k hk _=>qn w.drew _ hk) (.inl (Nat.le_refl _)) R.z_size (zK w.drew _)
                  (fun c3 e3 hc3=>by have:=zR hc3;omega) (joinRL hlen2) (joinRC _ (fun k row j y hk hj => ?_) (fun p u hp2 => ?_)) (by simp) hc1 (by omega)
                · obtain ⟨cv,a1,a2,a3⟩:=hcells2 k row j y hk hj
                  refine ⟨cv,?_,a2,a3⟩
                  have hk':k < rows.length:=(List.getElem?_eq_some_iff.1 hk).1
                  have hj':j < i.size:=by rw [←hlen2 k row hk];exact (List.getElem?_eq_some_iff.1 hj).1
                  have:(k+1)*i.size≤rows.length*i.size:=Nat.mul_le_mul_right _ hk'
                  rw [Nat.add_mul] at this
                  have hlt:k*i.size+j < olds.length:=by omega
                  have hg2:=(hgo (k*i.size+j) olds[k*i.size+j] (List.getElem?_eq_getElem hlt)).1
                  rw [a1] at hg2
                  cases hg2
                  rw [Array.getElem?_append_left (by simp;omega),List.getElem?_toArray,List.getElem?_append_left hlt]
                  exact List.getElem?_eq_getElem hlt
                · have hlt:p < news.length:=(List.getElem?_eq_some_iff.1 hp2).1
                  rw [Array.getElem?_append_left (by simp;omega)]
                  simp only [List.getElem?_toArray]
                  rw [List.getElem?_append_right (by omega),←hp2]
                  congr 1;omega
        · cases he
    · cases he
  · cases he
theorem zdn {o:Oper} {t t' e:TypeId} {d:TypeDesc} {s x:Operand} {sz by_:Nat} {z:List AV} (ho:o.op=.call {callee:=.builtin .append,args := #[s,x],argTypes := #[t,t']})
    (ht:C.P.underlying t=some (.slice e)) (ht':C.P.underlying t'=some d) (hd:∀ k,d≠.int k) (hsz:zr C.P e=some sz) (hby:j7 C.P e=some by_) (hz:qu C.P e=some z)
    (h0:0 < sz) (hzl:z.length=sz) (hby0:0 < by_):OpSound C o (.app sz by_ (C.opd s) (C.opd x)):=by
  intro g h N w id ev val r ups R hid hv he
  simp only [evalOp] at he
  split at he
  · rename_i i off len e1
    rw [←e1] at he
    exact zb6 ho ht ht' hd hsz hby hz h0 hzl hby0 g h N w id ev val r ups R hid hv he
  · exact zb4 ho ht ht' hd hsz hby hz h0 hzl hby0 g h N w id ev val r ups R hid hv he
end
end
section
section
variable {C:Ctx} {g g':Gh} {h h':Nat→Option Zaf} {N N':Nat→Prop} {w w':World} {id:Nat}
theorem zbo {Z:Nat→Nat} {row:List IV} {rows:List (List IV)} {v:Value} (hr:RI Z w (.slice (row::rows)) v):∃ a n cap,v=.slice (some a) n cap:=by
  cases hr with
  | slice _ b off cap sz cv _ _ _ _ _=>exact ⟨_,_,_,rfl⟩
theorem Qt {P:Program} {t e:TypeId} (ht:P.underlying t=some (.slice e)) (w:World) (o:Option Addr) (n cap:Nat) :
    (Op.equal t (.slice o n cap) (.slice none 0 0)).run P w=.ok o.isNone w:=by
  have h:∀ d:Nat,(Op.equalIn (d+1) t (.slice o n cap) (.slice none 0 0)).run P w=.ok o.isNone w:=fun d=>by
    cases o<;>simp [Op.equalIn,run_underlying ht]
  exact h 9999
theorem VW {P:Program} {t e:TypeId} (ht:P.underlying t=some (.slice e)) (neg:Bool) (x y:Operand) (w:World) (o:Option Addr) (n cap:Nat) :
    ((do eqGuard (if neg then .neq else .eql) t x y (.slice o n cap) (.slice none 0 0);binOp (if neg then .neq else .eql) t (.slice o n cap) (.slice none 0 0):Sem Value)).run P w=.ok (.bool (if neg then o.isSome else o.isNone)) w:=by
  cases neg<;>simp [eqGuard,binOp,Qt ht]
theorem J8 {o:Oper} {t t' e:TypeId} {op:BinOp} {neg:Bool} {x y:Operand} (ho:o.op=.binOp op t x y t') (ht:C.P.underlying t=some (.slice e))
    (hop:op=if neg then .neq else .eql):OpSound C o (.eqnil neg (C.opd x) (C.opd y)):=by
  intro g h N w id ev val r ups R hid hv he
  have hx:=hv x (by simp [ho,Op.operands])
  have hy:=hv y (by simp [ho,Op.operands])
  subst hop
  simp only [evalOp] at he
  split at he
  · rename_i ey
    rw [ey] at hy
    have hcv:=xg hy
    have exec:∀ v,((do eqGuard (if neg then .neq else .eql) t x y (val x) (.slice none 0 0);binOp (if neg then .neq else .eql) t (val x) (.slice none 0 0):Sem Value)).run C.P w=.ok v w→(execOp val o).run C.P w=.ok (.value v) w:=fun v hr=>by
      simp only [Sem.run_bind] at hr
      simp only [execOp,ho,hcv,Sem.run_bind]
      generalize (eqGuard (if neg then BinOp.neq else .eql) t x y (val x) (.slice none 0 0)).run C.P w=r1 at hr ⊢
      cases r1 with
      | ok u w1=>
        simp only [Result.andThen_ok] at hr ⊢
        rw [hr];rfl
      | halt x w1=>simp [Result.andThen] at hr
    have some':∀ a n cap,val x=.slice (some a) n cap→AV.imm (.bool neg)=r→[]=ups→∃ v w',Ran C.P (execOp val o) w v w'∧Good C g h N w id r ups v w':=fun a n cap hval hr hu=>by
      subst hr;subst hu
      have:=VW ht neg x y w (some a) n cap
      simp only [Option.isSome_some,Option.isNone_some] at this
      exact ⟨.bool neg,w,.inl (exec _ (by rw [hval,this];cases neg<;>rfl)),zm R (.imm _ _ (.bool _))⟩
    split at he
    · rename_i e1
      rw [e1] at hx
      have hval:=xg hx
      simp only [Option.some.injEq,Prod.mk.injEq] at he
      obtain ⟨rfl,rfl⟩:=he
      have:=VW ht neg x y w none 0 0
      simp only [Option.isSome_none,Option.isNone_none] at this
      exact ⟨.bool (!neg),w,.inl (exec _ (by rw [hval,this];cases neg<;>rfl)),zm R (.imm _ _ (.bool _))⟩
    · rename_i e1
      rw [e1] at hx
      generalize hval:val x=vx at hx
      simp only [Option.some.injEq,Prod.mk.injEq] at he
      cases hx with
      | nnil a cap=>exact some' _ _ _ hval he.1 he.2
    · rename_i e1
      rw [e1] at hx
      simp only [Option.some.injEq,Prod.mk.injEq] at he
      cases hx with
      | imm _ _ hr=>
        obtain ⟨a,n,cap,hval⟩:=zbo hr
        exact some' a n cap hval he.1 he.2
    · rename_i e1
      rw [e1] at hx
      simp only [Option.some.injEq,Prod.mk.injEq] at he
      cases hx with
      | Zas _ _ _ hr _ _=>
        obtain ⟨a,n,cap,hval⟩:=zbo hr
        exact some' a n cap hval he.1 he.2
    · cases he
  · cases he
theorem zgU {Z:Nat→Nat} {rows:List (List IV)} {b off cap sz a r:Nat} {cv:Nat→Nat→Value} (hcap:rows.length≤cap) (hsz:∀ (i:Nat) (row:List IV),rows[i]?=some row→row.length=sz)
    (hz:∀ (i:Nat) (row:List IV) (j:Nat) (c:IV),rows[i]?=some row→row[j]?=some c→off+i*sz+j < Z b)
    (hc:∀ (i:Nat) (row:List IV) (j:Nat) (c:IV),rows[i]?=some row→row[j]?=some c→w.cell? ⟨b,off+i*sz+j,none⟩=some (cv i j)∧(cv i j).oneCell'=true)
    (hr:∀ (i:Nat) (row:List IV) (j:Nat) (c:IV),rows[i]?=some row→row[j]?=some c→RI Z w c (cv i j)) (har:a≤r) (hrl:r≤rows.length) :
    RI Z w (.slice ((rows.take r).drop a)) (.slice (some ⟨b,off+a*sz,none⟩) (r - a) (cap - a)):=by
  have hlen:((rows.take r).drop a).length=r - a:=by simp;omega
  have hget:∀ (i:Nat) (row:List IV),((rows.take r).drop a)[i]?=some row→rows[a+i]?=some row:=fun i row hi=>by
    rw [List.getElem?_drop,List.getElem?_take] at hi
    split at hi
    · exact hi
    · cases hi
  rw [←hlen]
  refine .slice _ b _ (cap - a) sz (fun i j=>cv (a+i) j) (by rw [hlen];omega) (fun i row hi=>hsz _ row (hget i row hi)) (fun i row j c hi hj => ?_) (fun i row j c hi hj => ?_) (fun i row j c hi hj=>hr _ row j c (hget i row hi) hj)
  · have:=hz _ row j c (hget i row hi) hj
    rw [Nat.add_mul] at this;omega
  · have:=hc _ row j c (hget i row hi) hj
    rw [Nat.add_mul,←Nat.add_assoc] at this
    exact this
theorem zdo {o:Oper} {t e:TypeId} {x:Operand} {lo hi:Option Operand} {sz:Nat} (ho:o.op=.slice t x lo hi none) (ht:C.P.underlying t=some (.slice e)) (hs:zr C.P e=some sz) :
    OpSound C o (.slc sz (C.opd x) (lo.map C.opd) (hi.map C.opd)):=by
  intro g h N w id ev val r ups R hid hv he
  have hx:=hv x (by simp [ho,Op.operands])
  have key:∀ (rows:List (List IV)),RI g.Z w (.slice rows) (val x)→∀ (a b:Int),
      (match lo.map C.opd with | none=>some (0:Int) | some y=>match ev y with | .imm (.int _ n)=>some n | _=>none)=some a →
      (match hi.map C.opd with | none=>some (rows.length:Int) | some y=>match ev y with | .imm (.int _ n)=>some n | _=>none)=some b →
      0≤a→a≤b→b≤(rows.length:Int)→(rows.all fun row=>row.length == sz)=true→r=.imm (.slice ((rows.take b.toNat).drop a.toNat))→ups=[] →
      ∃ v w',Ran C.P (execOp val o) w v w'∧Good C g h N w id r ups v w':=fun rows hri a b ha hb h1 h2 h3 h4 hr hu=>by
    subst hr;subst hu
    obtain ⟨a,rfl⟩:=Int.eq_ofNat_of_zero_le h1
    obtain ⟨b,rfl⟩:=Int.eq_ofNat_of_zero_le (by omega:0≤b)
    simp only [Int.toNat_natCast]
    have hlo:∀ (y:Nat) (cd:BoundsCode),a≤y→∀ (Q:Option Value),Q=lo.map val→(match Q with | some v=>Instr.sliceBound v y cd | none=>pure 0:Sem Nat).run C.P w=.ok a w:=fun y cd hy Q hQ=>by
      cases hl:lo with
      | none=>
        rw [hl] at ha hQ
        simp only [Option.map_none,Option.some.injEq] at ha
        subst hQ
        have:a=0:=by omega
        subst this
        rfl
      | some z=>
        rw [hl] at ha hQ
        subst hQ
        simp only [Option.map_some] at ha ⊢
        have hz:=hv z (by simp [ho,hl,Op.operands])
        split at ha
        · rename_i n e1
          cases ha
          rw [e1] at hz
          have:=xW hz
          simp [Instr.sliceBound,this,asIntOf,show (a:Int)≤(y:Int) by omega]
        · cases ha
    have hhi:∀ (y:Nat) (cd:BoundsCode),b≤y→∀ (Q:Option Value),Q=hi.map val→(match Q with | some v=>Instr.sliceBound v y cd | none=>pure rows.length:Sem Nat).run C.P w=.ok b w:=fun y cd hy Q hQ=>by
      cases hl:hi with
      | none=>
        rw [hl] at hb hQ
        simp only [Option.map_none,Option.some.injEq] at hb
        subst hQ
        have:b=rows.length:=by omega
        subst this
        rfl
      | some z=>
        rw [hl] at hb hQ
        subst hQ
        simp only [Option.map_some] at hb ⊢
        have hz:=hv z (by simp [ho,hl,Op.operands])
        split at hb
        · rename_i n e1
          cases hb
          rw [e1] at hz
          have:=xW hz
          simp [Instr.sliceBound,this,asIntOf,show (b:Int)≤(y:Int) by omega]
        · cases hb
    have bounds:∀ cap,rows.length≤cap→(Instr.sliceBounds true rows.length cap (lo.map val) (hi.map val) none).run C.P w=.ok (a,b,cap) w:=fun cap hcap=>by
      have h5:=hhi cap .sliceAcap (by omega) _ rfl
      have h6:=hlo b .sliceB (by omega) _ rfl
      unfold Instr.sliceBounds
      cases hh:hi<;>cases hl:lo<;>simp only [hh,hl,Option.map_none,Option.map_some,Sem.run_pure,Result.ok.injEq,and_true] at h5 h6<;>simp [h5,h6]
    rcases ZJ hri with ⟨rfl,hval⟩ | ⟨bb,off,cap,sz',cv,hval,hcap,hsz,hzz,hc,hr⟩
    · have hb0:b=0:=by simp at h3;omega
      have ha0:a=0:=by omega
      subst hb0;subst ha0
      rcases hval with hval | ⟨aa,cap,hval⟩
      · refine ⟨.slice none 0 0,w,.inl ?_,zm R (by simpa using RV.imm (C:=C) (g:=g) (h:=h) (N:=N) _ _ RI.nil)⟩
        have hbd:=bounds 0 (by simp)
        simp only [List.length_nil] at hbd
        simp [execOp,ho,Instr.sliceAt,Instr.slice,run_underlying ht,hval,hbd,zH hs]
      · have hbd:=bounds cap (by simp)
        simp only [List.length_nil] at hbd
        refine ⟨.slice (some (if cap=0 then aa else aa.add 0)) 0 cap,w,.inl ?_,zm R (by simpa using RV.imm (C:=C) (g:=g) (h:=h) (N:=N) _ _ vj)⟩
        by_cases hca:cap=0
        · subst hca
          simp [execOp,ho,Instr.sliceAt,Instr.slice,run_underlying ht,hval,hbd,zH hs]
        · simp [execOp,ho,Instr.sliceAt,Instr.slice,run_underlying ht,hval,hbd,zH hs,hca]
    · refine ⟨.slice (some (if cap=a then ⟨bb,off,none⟩ else ⟨bb,off+a*sz,none⟩)) (b - a) (cap - a),w,.inl ?_,zm R (.imm _ _ ?_)⟩
      · have hbd:=bounds cap hcap
        by_cases hca:cap=a
        · subst hca
          simp [execOp,ho,Instr.sliceAt,Instr.slice,run_underlying ht,hval,hbd,zH hs]
        · simp [execOp,ho,Instr.sliceAt,Instr.slice,run_underlying ht,hval,hbd,zH hs,hca,qD]
      · by_cases hca:cap=a
        · rw [if_pos hca]
          have hba:b - a=0:=by omega
          have hl:((rows.take b).drop a)=[]:=List.eq_nil_of_length_eq_zero (by simp;omega)
          rw [hl,hba]
          exact vj
        · rw [if_neg hca]
          by_cases hr0:rows=[]
          · subst hr0
            have hb0:b=0:=by simp at h3;omega
            subst hb0
            simp
            exact vj
          · have hs0:sz'=sz:=by
              cases rows with
              | nil=>exact absurd rfl hr0
              | cons row rest=>
                have h7:=hsz 0 row rfl
                have h8:=List.all_eq_true.1 h4 row List.mem_cons_self
                simp at h8
                omega
            subst hs0
            exact zgU hcap hsz hzz hc hr (by omega) (by omega)
  simp only [evalOp] at he
  split at he
  · rename_i rows e1
    rw [e1] at hx
    split at he
    · rename_i a b ha hb
      split at he
      · rename_i hcond
        simp only [Option.some.injEq,Prod.mk.injEq] at he
        cases hx with
        | imm _ _ hri=>exact key rows hri a b ha hb hcond.1 hcond.2.1 hcond.2.2.1 hcond.2.2.2 he.1.symm he.2.symm
      · cases he
    · cases he
  · rename_i j rows e1
    rw [e1] at hx
    split at he
    · rename_i a b ha hb
      split at he
      · rename_i hcond
        simp only [Option.some.injEq,Prod.mk.injEq] at he
        cases hx with
        | Zas _ _ _ hri _ _=>exact key rows hri a b ha hb hcond.1 hcond.2.1 hcond.2.2.1 hcond.2.2.2 he.1.symm he.2.symm
      · cases he
    · cases he
  · cases he
end
end
section
section
variable {C:Ctx} {g g':Gh} {h h':Nat→Option Zaf} {N N':Nat→Prop} {w w':World} {id:Nat}
theorem zdp {o:Oper} {x:Operand} (ho:o.op=.nilCheck x):OpSound C o (.nck (C.opd x)):=by
  intro g h N w id ev val r ups R hid hv he
  have hx:=hv x (by simp [ho,Op.operands])
  simp only [evalOp] at he
  split at he
  · rename_i i r o e1
    rw [e1] at hx
    split at he
    · rename_i sz rows hob
      cases he
      have hx':=hx
      cases hx with
      | ptr _ _ _ _ hni hone hp=>
        obtain ⟨b,hb,hval⟩:=hp _ _ hob
        refine ⟨val x,w,.inl ?_,zm R hx'⟩
        simp [execOp,ho,hval]
    · cases he
  · rename_i cs e1
    rw [e1] at hx
    cases he
    have hx':=hx
    generalize hval:val x=v at hx hx'
    cases hx with
    | eptr _ b off cv hz hc hr=>
      exact ⟨_,w,.inl (by simp [execOp,ho,hval]),zm R hx'⟩
  · rename_i f a b e1
    rw [e1] at hx
    cases he
    have hx':=hx
    generalize hval:val x=v at hx hx'
    cases hx with
    | func _ _ _ vf vc hlf hlc hf hc=>
      exact ⟨_,w,.inl (by simp [execOp,ho,hval]),zm R hx'⟩
  · cases he
theorem zdq {o:Oper} {t e:TypeId} {x ix:Operand} {sz n:Nat} (ho:o.op=.index t x ix) (ht:C.P.underlying t=some (.array n e)) (hn:zr C.P e=some sz) (hag:jl C.P e=some false) :
    OpSound C o (.ixa n sz (C.opd x) (C.opd ix)):=by
  intro g h N w id ev val r ups R hid hv he
  have hx:=hv x (by simp [ho,Op.operands])
  have hi:=hv ix (by simp [ho,Op.operands])
  simp only [evalOp] at he
  split at he
  · rename_i k m cs e1 e2
    rw [e1] at hi
    rw [e2] at hx
    have hival:=xW hi
    split at he
    · rename_i hle
      obtain ⟨rfl,hle1,hle2⟩:=hle
      rw [Option.map_eq_some_iff] at he
      obtain ⟨c,hc,he⟩:=he
      cases he
      generalize hval:val x=v at hx
      cases hx with
      | agg _ vs hl h1 hr=>
        have hlt:m.toNat < vs.length:=by rw [←hl];exact (List.getElem?_eq_some_iff.1 hc).1
        refine ⟨vs[m.toNat],w,.inl ?_,zm R (hr _ _ _ hc (by simp))⟩
        have hg:vs.toArray[m.toNat]?=some (vs[m.toNat]'hlt):=by simp
        have hp:(part e vs.toArray m.toNat).run C.P w=.ok vs[m.toNat] w:=by
          simp only [part,Sem.run_bind,xD hag,Result.andThen_ok,Bool.false_eq_true,if_false,hg,Sem.run_pure]
        simp [execOp,ho,Instr.index,hival,asIntOf,run_underlying ht,hval,hle1,hle2,zH hn,hp]
    · cases he
  · cases he
theorem XR {o:Oper} {t:TypeId} {parts:Array (Nat×Operand)} {n sz:Nat} {e:TypeId} {z:List AV} (ho:o.op=.build t parts)
    (ht:C.P.underlying t=some (.array n e)) (hz:qu C.P t=some z) (hsz:zr C.P e=some sz)
    (h1:∀ i v,C.P.info? t=some i→i.zero=some v→jL v=true):OpSound C o (.build z (parts.toList.map fun p=>(p.1*sz,sz,C.opd p.2))):=by
  intro g h N w id ev val r ups R hid hv he
  obtain ⟨i,zv,hi,hzv,rfl⟩:=jy hz
  have hone:=h1 i zv hi hzv
  simp only [evalOp] at he
  split at he
  · rename_i qs hqs
    split at he
    · rename_i out hout
      simp only [Option.some.injEq,Prod.mk.injEq] at he
      obtain ⟨rfl,rfl⟩:=he
      have hps':mapO (fun p:Nat×Operand=>match (fun i=>some (i*sz,sz):Nat→Option (Nat×Nat)) p.1 with
          | some (o,n)=>some (o,n,C.opd p.2)
          | none=>none) parts.toList=some (parts.toList.map fun p=>(p.1*sz,sz,C.opd p.2)):=by
        generalize parts.toList=l
        induction l with
        | nil=>rfl
        | cons a l ih=>simp only [mapO,ih,List.map_cons]
      obtain ⟨c',h2,h3⟩:=J6 (C:=C) (g:=g) (h:=h) (N:=N) (w:=w) (fun i=>some (i*sz,sz)) ev val parts.toList _ qs _ out zv.cells hps' hqs
        (fun p hp=>hv p.2 (by simp only [ho,Op.operands];simp;exact ⟨p.1,by simpa using hp⟩)) (kG hone) hout
      refine ⟨.agg c',w,.inl ?_,zm R ?_⟩
      · have h2':Instr.fill (fun i=>some (i*sz,sz)) zv.cells (List.map (fun p=>(p.fst,val p.snd)) parts.toList)=some c':=h2
        simp [execOp,ho,Instr.build,zeroValue,typeInfo,hi,hzv,run_underlying ht,zH hsz,h2']
      · have:=RV.agg (C:=C) (g:=g) (h:=h) (N:=N) (w:=w) out c'.toList (by simpa using h3.1) (fun v hv=>by
            obtain ⟨j,hj⟩:=List.getElem?_of_mem hv
            have hlt:j < out.length:=by rw [h3.1];simpa using (List.getElem?_eq_some_iff.1 hj).1
            obtain ⟨u,hu,h4,_⟩:=h3.2 j out[j] (by simp)
            simp only [Array.getElem?_toList] at hj
            rw [hj] at hu;cases hu;exact h4) (fun j x v hj hj'=>by
            obtain ⟨u,hu,_,h5⟩:=h3.2 j x hj
            simp only [Array.getElem?_toList] at hj'
            rw [hj'] at hu;cases hu;exact h5)
        simpa using this
    · cases he
  · cases he
theorem OpSound.like {o o':Oper} {ao:AOp} (hs:OpSound C o' ao) (h1:o.op.operands=o'.op.operands) (h2:∀ val,execOp val o=execOp val o'):OpSound C o ao:=by
  intro g h N w id ev val r ups R hid hv he
  obtain ⟨v,w',h3,h4⟩:=hs g h N w id ev val r ups R hid (fun x hx=>hv x (by rw [h1];exact hx)) he
  exact ⟨v,w',by rw [h2];exact h3,h4⟩
theorem VX {o:Oper} {str:Bool} {t kt et:TypeId} {m k v:Operand} {d:TypeDesc} (ho:o.op=.insert t m k v)
    (ht:C.P.underlying t=some (.map kt et)) (hkt:C.P.underlying kt=some d) (hd:yL str d) :
    OpSound C o (.upd str (C.opd m) (C.opd k) (C.opd v)):=
  OpSound.like (o':={o with op:=.mapUpdate t m k v}) (QB rfl ht hkt hd) (by simp [ho,Op.operands]) (fun val=>by simp only [execOp,ho])
theorem zb7 {o:Oper} {t e:TypeId} {ts:Array TypeId} {d x:Operand} {sz:Nat} (ho:o.op=.call {callee:=.builtin .copy,args := #[d,x],argTypes:=ts}) (h0:ts[0]?=some t)
    (ht:C.P.underlying t=some (.slice e)) (hn:zr C.P e=some sz):OpSound C o (.copy sz (C.opd d) (C.opd x)):=by
  intro g h N w id ev val r ups R hid hv he
  have hd:=hv d (by simp [ho,Op.operands,Call.operands])
  have hx:=hv x (by simp [ho,Op.operands,Call.operands])
  simp only [evalOp,YQ] at he
  split at he
  · rename_i i len e1
    rw [e1] at hd
    split at he
    · rename_i sz' rows hob
      split at he
      · rename_i new hnew
        split at he
        · rename_i hcond
          obtain ⟨hs1,hl1,hl2,hall⟩:=hcond
          subst hs1
          simp only [Option.some.injEq,Prod.mk.injEq] at he
          obtain ⟨rfl,rfl⟩:=he
          have hsz:∀ row∈new,row.length=sz':=fun row hr=>by simpa using List.all_eq_true.1 hall row hr
          obtain ⟨a,cap,hval,news,hn1,hn2,hn3,hn4⟩:=XP R hnew hx hsz
          generalize hvd:val d=vd at hd
          cases hd with
          | Zal _ _ _ _ hni hone hp=>
            obtain ⟨_,h2⟩:=hp _ _ hob
            have hf:=hn4 C.P w rfl
            rw [hval] at hf
            rcases h2 with ⟨_,hr0,hv0⟩ | ⟨b,cap',c,e',hb,hv0,hle,hw,hcap⟩
            · subst hr0 hv0
              have hlen0:len=0:=by simpa using hl1
              subst hlen0
              have hnew0:new=[]:=List.eq_nil_of_length_eq_zero hl2
              subst hnew0
              refine ⟨.int .i64 0,w,.inl ?_,?_⟩
              · simp [execOp,ho,resolve,invoke,builtin,Builtin.copy_,hvd,hval,h0,run_underlying ht,Builtin.lenOf,zH hn,goInt] at hf ⊢
                simp [hf]
              · have hne:g.ρ i=none∨∃ b,g.ρ i=some b:=by cases g.ρ i<;>simp
                have e0:hup [(i,Zaf.rows sz' [])] h=h:=by
                  funext k;simp only [hup];split
                  · rename_i e;subst e;exact hob.symm
                  · rfl
                refine ⟨g,?_,?_,.imm _ _ (.int _ _)⟩
                · rw [e0];exact Evo.add g h N w id
                · rw [e0];exact R.add id
            · subst hv0
              obtain ⟨w',hs1,hs2⟩:=Qx (id:=id) R hb hob (by omega) hsz news hn1 hn2 hn3 (.imm (.int .i64 (len:Int))) (.int .i64 (len:Int)) (fun _ _ _ _=>.imm _ _ (.int _ _))
              refine ⟨_,w',.inl ?_,hs2⟩
              rw [hl2] at hf hval
              simp [execOp,ho,resolve,invoke,builtin,Builtin.copy_,hvd,hval,h0,run_underlying ht,Builtin.lenOf,zH hn,goInt,hf,hs1]
        · cases he
      · cases he
    · cases he
  · cases he
end
end
section
section
variable {C:Ctx} {g g':Gh} {h h':Nat→Option Zaf} {N N':Nat→Prop} {w w':World} {id:Nat}
theorem zaZ (R:RH C g h N w) {x:AV} {v:Value} {b:Bool} (he:wK h x=some b) (hv:RV C g h N w x v):∃ o:Option Nat,v=.map o∧o.isNone=b:=by
  unfold wK at he
  split at he
  · rename_i i
    split at he
    · rename_i es hob
      cases he
      cases hv with
      | map _ _ hni hone hp=>
        obtain ⟨b,hb,hval⟩:=hp _ hob
        exact ⟨some b,hval,rfl⟩
    · cases he
  · cases he
    cases hv with
    | imm _ _ hr=>cases hr with | omap _ b=>exact ⟨some b,rfl,rfl⟩
  · cases he
    cases hv with
    | imm _ _ hr=>cases hr with | nomap=>exact ⟨none,rfl,rfl⟩
  · cases he
theorem J5 {P:Program} {t k e:TypeId} (ht:P.underlying t=some (.map k e)) (w:World) (o:Option Nat) :
    (Op.equal t (.map o) (.map none)).run P w=.ok o.isNone w:=by
  have h:∀ d:Nat,(Op.equalIn (d+1) t (.map o) (.map none)).run P w=.ok o.isNone w:=fun d=>by
    cases o<;>simp [Op.equalIn,run_underlying ht]
  exact h 9999
theorem zeY {P:Program} {t k e:TypeId} (ht:P.underlying t=some (.map k e)) (neg:Bool) (x y:Operand) (w:World) (o:Option Nat) :
    ((do eqGuard (if neg then .neq else .eql) t x y (.map o) (.map none);binOp (if neg then .neq else .eql) t (.map o) (.map none):Sem Value)).run P w=.ok (.bool (if neg then !o.isNone else o.isNone)) w:=by
  cases neg<;>simp [eqGuard,binOp,J5 ht]
theorem XS {o:Oper} {t t' kt et:TypeId} {op:BinOp} {neg:Bool} {x y:Operand} (ho:o.op=.binOp op t x y t') (ht:C.P.underlying t=some (.map kt et))
    (hop:op=if neg then .neq else .eql):OpSound C o (.eqnm neg (C.opd x) (C.opd y)):=by
  intro g h N w id ev val r ups R hid hv he
  have hx:=hv x (by simp [ho,Op.operands])
  have hy:=hv y (by simp [ho,Op.operands])
  subst hop
  simp only [evalOp] at he
  split at he
  · rename_i b ey en
    rw [ey] at hy
    have hcv:val y=.map none:=by
      generalize val y=vy at hy
      cases hy with
      | imm _ _ hr=>cases hr with | nomap=>rfl
    obtain ⟨om,hval,hom⟩:=zaZ R en hx
    simp only [Option.some.injEq,Prod.mk.injEq] at he
    obtain ⟨rfl,rfl⟩:=he
    have exec:∀ v,((do eqGuard (if neg then .neq else .eql) t x y (val x) (.map none);binOp (if neg then .neq else .eql) t (val x) (.map none):Sem Value)).run C.P w=.ok v w→(execOp val o).run C.P w=.ok (.value v) w:=fun v hr=>by
      simp only [Sem.run_bind] at hr
      simp only [execOp,ho,hcv,Sem.run_bind]
      generalize (eqGuard (if neg then BinOp.neq else .eql) t x y (val x) (.map none)).run C.P w=r1 at hr ⊢
      cases r1 with
      | ok u w1=>
        simp only [Result.andThen_ok] at hr ⊢
        rw [hr];rfl
      | halt x w1=>simp [Result.andThen] at hr
    refine ⟨.bool (if neg then !b else b),w,.inl (exec _ ?_),zm R (.imm _ _ (.bool _))⟩
    rw [hval,zeY ht neg x y w om,hom]
  · cases he
theorem YF {x:AV} {v:Value} {cs:List AV} (hx:ZH x=some cs) (hv:RV C g h N w x v):∃ vs:List Value,v=.agg vs.toArray∧cs.length=vs.length∧(∀ u∈vs,u.oneCell'=true) ∧
    ∀ (i:Nat) (c:AV) (u:Value),cs[i]?=some c→vs[i]?=some u→RV C g h N w c u:=by
  unfold ZH at hx
  split at hx
  · cases hx
    cases hv with
    | imm _ _ hr=>
      cases hr with
      | agg _ vs hl h1 hr=>
        refine ⟨vs,rfl,by simpa using hl,h1,fun i c u hc hu => ?_⟩
        rw [List.getElem?_map,Option.map_eq_some_iff] at hc
        obtain ⟨y,hy,rfl⟩:=hc
        exact .imm _ _ (hr i y u hy hu)
  · cases hx
    cases hv with
    | agg _ vs hl h1 hr=>exact ⟨vs,rfl,hl,h1,hr⟩
  · cases hx
theorem zdr {o:Oper} {s:TypeId} {x:Operand} {f n:Nat} {ag:Bool} {fs:Array Field} {fd:Field} (ho:o.op=.field s x f) (hs:C.P.underlying s=some (.struct fs)) (hf:fs[f]?=some fd)
    (hn:zr C.P fd.type=some n) (hag:jl C.P fd.type=some ag) (hn0:n≠0):OpSound C o (.cut ag fd.offset n (C.opd x)):=by
  intro g h N w id ev val r ups R hid hv he
  have hx:=hv x (by simp [ho,Op.operands])
  simp only [evalOp] at he
  split at he
  · rename_i cs e1
    obtain ⟨vs,hval,hl,h1,hr⟩:=YF e1 hx
    split at he
    · rename_i hle
      cases ag with
      | true=>
        simp only [if_true,Option.some.injEq,Prod.mk.injEq] at he
        obtain ⟨rfl,rfl⟩:=he
        refine ⟨.agg ((vs.drop fd.offset).take n).toArray,w,.inl ?_,zm R ?_⟩
        · have e2:vs.toArray.extract fd.offset (fd.offset+n)=((vs.drop fd.offset).take n).toArray:=by
            simp [List.extract_toArray,List.extract_eq_take_drop]
          simp [execOp,ho,Instr.field,run_underlying hs,hf,hval,part,asAgg,xD hag,zH hn,e2]
        · refine .agg _ _ (by simp [hl]) (fun u hu=>h1 u (List.mem_of_mem_drop (List.mem_of_mem_take hu))) fun i c u hc hu => ?_
          rw [List.getElem?_take] at hc hu
          split at hc
          · rename_i hi
            rw [if_pos hi] at hu
            rw [List.getElem?_drop] at hc hu
            exact hr _ c u hc hu
          · cases hc
      | false=>
        simp only [Bool.false_eq_true,if_false,Option.map_eq_some_iff] at he
        obtain ⟨c,hc,he⟩:=he
        simp only [Prod.mk.injEq] at he
        obtain ⟨rfl,rfl⟩:=he
        have hlt:fd.offset < vs.length:=by omega
        refine ⟨vs[fd.offset],w,.inl ?_,zm R (hr _ c _ hc (by simp))⟩
        simp [execOp,ho,Instr.field,run_underlying hs,hf,hval,part,asAgg,xD hag,hlt]
    · cases he
  · cases he
end
end
section
section
variable {C:Ctx}
theorem XU (o:Oper) (f:Opd) (args:List Opd):OpSound C o (.call f args):=by
  intro g h N w id ev val r ups R hid hv he
  simp [evalOp] at he
theorem Kk {o:Oper} {op:BinOp} {t t':TypeId} {x y:Operand} {ao:AOp} (ho:o.op=.binOp op t x y t') (hc:Jw C op t x y=some ao):OpSound C o ao:=by
  unfold Jw at hc
  split at hc
  · cases hc;exact VO ho
  · cases hc;exact VO ho
  · rename_i hu
    split at hc
    · cases hc;exact VP (neg:=false) ho hu rfl
    · cases hc;exact VP (neg:=true) ho hu rfl
    · cases hc
  · rename_i e hu
    split at hc
    · cases hc;exact J8 (neg:=false) ho hu rfl
    · cases hc;exact J8 (neg:=true) ho hu rfl
    · cases hc
  · rename_i kt et hu
    split at hc
    · cases hc;exact XS (neg:=false) ho hu rfl
    · cases hc;exact XS (neg:=true) ho hu rfl
    · cases hc
  · rename_i fs hu
    split at hc
    · rename_i ks hks
      split at hc
      · cases hc
      · rename_i hg
        have hg':C.P.eqGuardType C.P.depth t=false:=by simpa using hg
        split at hc
        · cases hc;exact VU (neg:=false) ho hu hks hg' rfl
        · cases hc;exact VU (neg:=true) ho hu hks hg' rfl
        · cases hc
    · cases hc
  · cases hc
theorem Xi {o:Oper} {b:Builtin} {args:Array Operand} {ts:Array TypeId} {ao:AOp} (ho:o.op=.call {callee:=.builtin b,args,argTypes:=ts}) (hc:vP C b args.toList ts.toList=some ao):OpSound C o ao:=by
  obtain ⟨args⟩:=args
  obtain ⟨ts⟩:=ts
  simp only at hc
  unfold vP at hc
  split at hc
  · split at hc
    · rename_i hu;cases hc;exact zde ho hu
    · rename_i hu;cases hc;exact zbZ ho hu
    · rename_i hu;cases hc;exact zb0 ho hu
    · cases hc
  · cases hc;exact Kd (mx:=true) ho
  · cases hc;exact Kd (mx:=false) ho
  · split at hc
    · rename_i e e2 hu hu'
      split at hc
      · rename_i sz by_ z h1 h2 h3
        split at hc
        · rename_i hcond
          cases hc
          exact zdn ho hu hu' (fun k=>by simp) h1 h2 h3 hcond.1 hcond.2.1 hcond.2.2
        · cases hc
      · cases hc
    · cases hc
  · rename_i d x t r
    split at hc
    · rename_i e hu
      split at hc
      · rename_i sz h1;cases hc;exact zb7 ho (by simp) hu h1
      · cases hc
    · cases hc
  · cases hc
theorem Kl {o:Oper} {ao:AOp} (hc:yf C o.op=some ao):OpSound C o ao:=by
  unfold yf at hc
  split at hc
  · rename_i x ho;cases hc;exact VM (.inl ho)
  · rename_i x ho;cases hc;exact VM (.inr ho)
  · rename_i c a b ho;cases hc;exact zbV ho
  · rename_i t ho
    split at hc
    · rename_i n e hu
      split at hc
      · rename_i sz z h1 h2
        split at hc
        · rename_i hcond;cases hc;exact yF (e:=e) ho h2 hcond.1 (xm h2)
        · cases hc
      · cases hc
    · split at hc
      · rename_i z h2;cases hc;exact zaU ho h2 (xm h2)
      · cases hc
    · cases hc
  · rename_i t x ho
    split at hc
    · cases hc;exact zc7 ho
    · cases hc
  · rename_i t parts ho
    split at hc
    · rename_i fs z hu hz
      split at hc
      · rename_i ps hps
        split at hc
        · rename_i hs;cases hc;exact zaX ho hu hz (xm hz) hs hps
        · cases hc
      · cases hc
    · rename_i n e z hu hz
      split at hc
      · rename_i sz hs;cases hc;exact XR ho hu hz hs (xm hz)
      · cases hc
    · cases hc
  · rename_i t len parts ho
    split at hc
    · rename_i e hu
      split at hc
      · rename_i sz z h1 h2
        split at hc
        · rename_i hcond;cases hc;exact Ke ho hu h1 h2 hcond.1 hcond.2.1 hcond.2.2 (xm h2)
        · cases hc
      · cases hc
    · cases hc
  · rename_i t a ho
    split at hc
    · rename_i ag n h1 h2;cases hc;exact zbW ho h1 h2
    · cases hc
  · rename_i t a v ho
    split at hc
    · rename_i n h1;cases hc;exact zaV ho h1
    · cases hc
  · rename_i s x f ho
    split at hc
    · rename_i fs hu
      split at hc
      · rename_i fd hf
        split at hc
        · rename_i n hn
          split at hc
          · cases hc
          · rename_i hn0;cases hc;exact zc8 ho hu hf hn hn0
        · cases hc
      · cases hc
    · cases hc
  · rename_i s x f ho
    split at hc
    · rename_i fs hu
      split at hc
      · rename_i fd hf
        split at hc
        · rename_i n ag hn hag
          split at hc
          · cases hc
          · rename_i hn0;cases hc;exact zdr ho hu hf hn hag hn0
        · cases hc
      · cases hc
    · cases hc
  · rename_i t x i ho
    split at hc
    · rename_i e hu
      split at hc
      · rename_i sz h1;cases hc;exact zc9 ho hu h1
      · cases hc
    · rename_i n e hu
      split at hc
      · rename_i sz h1;cases hc;exact zbX ho hu h1
      · cases hc
    · cases hc
  · rename_i op t x y t' ho;exact Kk ho hc
  · rename_i t x ho;cases hc;exact zdb ho
  · rename_i t x ho;cases hc;exact zdc ho
  · rename_i s d x ho
    split at hc
    · rename_i k0 k h1 h2;cases hc;exact zbY ho h1 h2
    · cases hc
  · rename_i x i ho;cases hc;exact zdf ho
  · rename_i f first caps ho
    split at hc
    · rename_i i hi;cases hc;exact zdg ho hi
    · cases hc
  · rename_i t ho;cases hc;exact zaW ho
  · rename_i t m k ok ho
    split at hc
    · rename_i kt et hu
      split at hc
      · rename_i kk i hk hi
        split at hc
        · rename_i z hz;cases hc;exact XO (str:=false) ho hu hk ⟨kk,rfl⟩ hi hz
        · cases hc
      · rename_i i hk hi
        split at hc
        · rename_i z hz;cases hc;exact XO (str:=true) ho hu hk rfl hi hz
        · cases hc
      · cases hc
    · cases hc
  · rename_i t m k v ho
    split at hc
    · rename_i kt et hu
      split at hc
      · rename_i kk hk;cases hc;exact QB (str:=false) ho hu hk ⟨kk,rfl⟩
      · rename_i hk;cases hc;exact QB (str:=true) ho hu hk rfl
      · cases hc
    · cases hc
  · rename_i t m k v ho
    split at hc
    · rename_i kt et hu
      split at hc
      · rename_i kk hk;cases hc;exact VX (str:=false) ho hu hk ⟨kk,rfl⟩
      · rename_i hk;cases hc;exact VX (str:=true) ho hu hk rfl
      · cases hc
    · cases hc
  · rename_i x ho;cases hc;exact zdp ho
  · rename_i t x i ho
    split at hc
    · rename_i n e hu
      split at hc
      · rename_i sz h1 h2;cases hc;exact zdq ho hu h1 h2
      · cases hc
    · cases hc
  · rename_i t l c ho
    split at hc
    · rename_i e hu
      split at hc
      · rename_i sz by_ z h1 h2 h3
        split at hc
        · rename_i hcond
          obtain ⟨rfl,h4,h5⟩:=hcond
          cases hc
          exact zdj ho hu h1 h2 h3 h4 h5 (xm h3)
        · cases hc
      · cases hc
    · cases hc
  · rename_i t x lo hi ho
    split at hc
    · rename_i e hu
      split at hc
      · rename_i sz h1;cases hc;exact zdo ho hu h1
      · cases hc
    · cases hc
  · rename_i b args ts ho;exact Xi ho hc
  · cases hc;exact XU _ _ _
  · cases hc;exact XU _ _ _
  · rename_i t x ho
    split at hc
    · rename_i fs hu;cases hc;exact zdm ho hu
    · cases hc
  · cases hc
end
end
structure AItem where
  dst:Option Nat
  op:AOp
  guard:Option (Nat×Bool)
  deriving Inhabited
inductive ZaG where
  | skip
  | region (draw:Bool) (ord:List Nat) (items:List AItem) (keep:Option (List Nat))
  | seq (x y:ZaG)
  | cond (c:Opd) (x y:ZaG)
  | block (id:Nat) (x:ZaG)
  | loop (x:ZaG)
  | scope (x:ZaG)
  | exit (id:Nat)
  | ret
  | range (f:Opd) (ps:List Nat) (assign body:ZaG)
  deriving Inhabited
def ZaG.erase:ZaG→ZaG
  | .region d ord items _=>.region d ord items none
  | .seq x y=>.seq x.erase y.erase
  | .cond c x y=>.cond c x.erase y.erase
  | .block id x=>.block id x.erase
  | .loop x=>.loop x.erase
  | .scope x=>.scope x.erase
  | .range f ps x y=>.range f ps x.erase y.erase
  | c=>c
def zgv (nt:Nat):Option Nat→Bool
  | some d=>decide (d < nt)
  | none=>true
def j9 (C:Ctx) (nt:Nat) (ops:Array Oper) (o:Oper):Option AItem:=
  match yf C o.op with
  | some ao=>
    if zgv nt o.dst then
      match o.guard with
      | none=>some ⟨o.dst,ao,none⟩
      | some (j,want)=>match (ops[j]?).bind (·.dst) with
        | some t=>if t < nt then some ⟨o.dst,ao,some (t,want)⟩ else none
        | none=>none
    else none
  | none=>none
def bef (ord:List Nat) (i j:Nat):Bool:=(ord.getD j 0).testBit i
def wO (ops:Array Oper) (ord:List Nat):Bool:=
  ((List.range ops.size).all fun i=>match ops[i]? with
    | some oi=>oi.after.all fun e=>!Region.binds .any e||decide (e.on < i)
    | none=>true) &&
  (List.range ops.size).all fun i=>match ops[i]? with
    | some oi=>match oi.dst with
      | some d=>(List.range ops.size).all fun j=>i == j||match ops[j]? with
        | some oj=>oj.dst != some d&&(!((oj.looksAt ops).contains d)||(if i < j then bef ord i j else bef ord j i))
        | none=>true
      | none=>true
    | none=>true
def comp (C:Ctx) (nt:Nat):Code→Option ZaG
  | .skip=>some .skip
  | .region _ ops draw=>match mapO (j9 C nt ops) ops.toList with
    | some items=>if draw then (if C.P.follows .mixedOrders&&wO ops (Region.before ops).toList then some (.region true (Region.before ops).toList items none) else none) else some (.region false [] items none)
    | none=>none
  | .seq a b=>match comp C nt a,comp C nt b with
    | some x,some y=>some (.seq x y)
    | _,_=>none
  | .cond c a b=>match comp C nt a,comp C nt b with
    | some x,some y=>some (.cond (C.opd c) x y)
    | _,_=>none
  | .block id a=>match comp C nt a with
    | some x=>some (.block id x)
    | none=>none
  | .loop a=>match comp C nt a with
    | some x=>some (.loop x)
    | none=>none
  | .scope a=>match comp C nt a with
    | some x=>some (.scope x)
    | none=>none
  | .label _=>some .skip
  | .exit id=>some (.exit id)
  | .ret=>some .ret
  | .rangeFunc f ps a b=>if ps.toList.all (fun t=>decide (t < nt)) then match comp C nt a,comp C nt b with
    | some x,some y=>some (.range (C.opd f) ps.toList x y)
    | _,_=>none
    else none
  | _=>none
inductive ARes where
  | tmp (t:Nat)
  | cell (t:Nat) (agg:Bool) (n:Nat)
  deriving Inhabited
structure AFun where
  nt:Nat
  results:List ARes
  body:ZaG
  deriving Inhabited
def vk (C:Ctx):ResultVar→Option ARes
  | .tmp t=>some (.tmp t)
  | .cell t ty=>match jl C.P ty,zr C.P ty with
    | some ag,some n=>some (.cell t ag n)
    | _,_=>none
def AFun.erase (F:AFun):AFun:={F with body:=F.body.erase}
def qt (C:Ctx) (f:Nat):Option AFun:=match C.P.funcs[C.fnum f]? with
  | some fn=>match fn.body with
    | some code=>match comp C fn.ntmps code,mapO (vk C) fn.results.toList with
      | some ac, some rs => if fn.name == "runtime.NumGoroutine" then none else some ⟨fn.ntmps, rs, ac⟩
      | _,_=>none
    | none=>none
  | none=>none
end Go.Proofs.YtlpmnmbebkdocaaGreatDoor
