/-
  Functions of the program: what they compute, and plans of their code that the kernel checks (printed by a program of ours).
  What 'contract.Valid' comes to.
  What Valid says.
  What 'slices.BinarySearch' comes to; sizes of valid contracts.
  What 'system.Valid' comes to.
-/
import Derived.Test.YtlpmnmbebkdocaaGreatDoorTC10
import Derived.Test.YtlpmnmbebkdocaaGreatDoorTC06
import Derived.Test.YtlpmnmbebkdocaaGreatDoorTC07
namespace Go.Proofs.YtlpmnmbebkdocaaGreatDoor
open Go.RowKit
set_option linter.unusedSimpArgs false
set_option linter.unusedVariables false
set_option maxRecDepth 100000
noncomputable def yQ (c:Zab) (states:List Zac):Option (Option (List (Int×Zax))):=
  (Option.bind (forR (σ:=(List (ByteArray×Int))) (ρ:=Unit) (states.length:Int) (fun i1 s1=>(Option.bind (ze states (i1:Int)) fun e1=>(Option.bind (wD e1) fun r1=>some (.inl (zP r1 (i1:Int) s1))))) []) (Sum.elim (fun (s1:(List (ByteArray×Int)))=>(Option.bind (forR (σ:=(List (Int×Zax))) (ρ:=Unit) (states.length:Int) (fun i2 s2=>(Option.bind (Option.bind (ze states (i2:Int)) fun e2=>(bif (e2.day == c.Zat) then some s2 else (Option.bind (iter (σ:=Int×(List (Int×Zax))) (ρ:=(List (Int×Zax))) (fun s3=>(bif decide (s3.1 < (c.Zai.length:Int)) then (Option.bind (Option.bind (d_Step c e2 s3.1) fun r2=>(Option.bind (wD r2.1) fun r3=>(Option.bind (bif ((zq ((zq r3 s1).getD 0) s3.2).isSome) then some false else some (!(((zq r3 s1).getD 0) == 0))) fun v1=>(bif v1 then some (zP ((zq r3 s1).getD 0) ({from_:=(i2:Int),step:=s3.1}:Zax) s3.2) else some s3.2)))) fun (v2:(List (Int×Zax)))=>some (.inl ((IntKind.i64.wrap (s3.1+1)),v2))) else some (.inr s3.2))) ((-1),s2)) (fun (y1:(List (Int×Zax)))=>some y1)))) fun (v3:(List (Int×Zax)))=>some (.inl v3))) []) (Sum.elim (fun (s2:(List (Int×Zax)))=>some (some s2)) (fun _=>none)))) (fun _=>none)))
noncomputable def zhr (c:Zab) (states:List Zac):Zad (Option (List (Int×Zax))):=
  .reg 2 (.ln 2174 Zac.row states (.use 1 2174 (.forR (σ:=(List (ByteArray×Int))) (ρ:=Unit) 2116 20 (states.length:Int) [] (.k [1,2,5,18,19] (fun _=>[]) [0] (fun s1=>[(2,.map (zu IV.str IV.i64 s1))]) 7 fun _=>(.ents rfl .nil)) (fun i1 s1=>.sel 2116 (.reg 0 (.ix 2152 Zac.row states (i1:Int) fun e1=>.use 1 2152 (.reg 0 (.call 2154 (zbD e1) fun r1=>.use 2 2154 (.f1 2156 (.u (zu IV.str IV.i64 (zP r1 (i1:Int) s1))) (xH IV.i64 r1 (i1:Int) s1) (.use 4 2156 (.ret (.inl (zP r1 (i1:Int) s1)))))))))) fun os1=>.case os1 (fun s1=>.sel 2116 (.reg 1 (.ln 2172 Zac.row states (.use 1 2172 (.forR (σ:=(List (Int×Zax))) (ρ:=Unit) 2118 33 (states.length:Int) [] (.k [2,5,8,31,32] (fun _=>[]) [0] (fun s2=>[(2,.map (zu IV.str IV.i64 s1)),(8,.map (zu IV.i64 Zax.iv s2))]) 13 fun _=>(.ents rfl (.ents rfl .nil))) (fun i2 s2=>.sel 2118 (.cut (β:=(List (Int×Zax))) 1 (.k [2,5,8,31,32,33] (fun _=>[]) [0] (fun v3=>[(2,.map (zu IV.str IV.i64 s1)),(8,.map (zu IV.i64 Zax.iv v3))]) 25 fun _=>(.ents rfl (.ents rfl .nil))) (.reg 0 (.ix 2158 Zac.row states (i2:Int) fun e2=>.use 1 2158 (.ite 2136 (e2.day == c.Zat) (.sel 2136 (.ret s2)) (.sel 2136 (.iter (σ:=Int×(List (Int×Zax))) (ρ:=(List (Int×Zax))) ((-1),s2) (.k [2,5,8,31,32,33,10,9] (fun s3=>[(11,vI s3.1)]) [0,17] (fun s3=>[(2,.map (zu IV.str IV.i64 s1)),(8,.map (zu IV.i64 Zax.iv s3.2))]) 26 fun _=>(.ents rfl (.ents rfl .nil))) (fun s3=>.reg 0 (.ln 2170 Zaq.row c.Zai (.use 3 2170 (.ite 2146 (decide (s3.1 < (c.Zai.length:Int))) (.sel 2146 (.cut (β:=(List (Int×Zax))) 1 (.k [2,5,8,31,32,33,10,9,11] (fun _=>[]) [0,17] (fun v2=>[(2,.map (zu IV.str IV.i64 s1)),(8,.map (zu IV.i64 Zax.iv v2))]) 61 fun _=>(.ents rfl (.ents rfl .nil))) (.reg 0 (.call 2160 (yu c e2 s3.1) fun r2=>.use 3 2160 (.reg 0 (.call 2162 (zbD r2.1) fun r3=>.use 2 2162 (.f1 2168 (.l (vI ((zq r3 s1).getD 0)) ((zq r3 s1).isSome)) (wS IV.i64 0 r3 s1) (.use 3 2168 (.reg 0 (.f1 2166 (.l (.imm (.agg (Zax.row ((zq ((zq r3 s1).getD 0) s3.2).getD ({from_:=0,step:=0}:Zax))))) ((zq ((zq r3 s1).getD 0) s3.2).isSome)) (V7 Zax.iv ({from_:=0,step:=0}:Zax) ((zq r3 s1).getD 0) s3.2) (.use 2 2166 (.cut (β:=Bool) 1 (.k [2,5,8,31,32,33,10,9,11,14] (fun v1=>[(72,vB v1)]) [0,17,38,52] (fun _=>[(2,.map (zu IV.str IV.i64 s1)),(8,.map (zu IV.i64 Zax.iv s3.2))]) 61 fun _=>(.ents rfl (.ents rfl .nil))) (.reg 0 (.ite 2148 ((zq ((zq r3 s1).getD 0) s3.2).isSome) (.use 3 2149 (.ret false)) (.use 3 2149 (.ret (!(((zq r3 s1).getD 0) == 0)))))) fun v1=>.ite 2150 v1 (.sel 2150 (.reg 0 (.f1 2164 (.u (zu IV.i64 Zax.iv (zP ((zq r3 s1).getD 0) ({from_:=(i2:Int),step:=s3.1}:Zax) s3.2))) (zfo Zax.iv ((zq r3 s1).getD 0) ({from_:=(i2:Int),step:=s3.1}:Zax) s3.2) (.use 5 2164 (.ret (zP ((zq r3 s1).getD 0) ({from_:=(i2:Int),step:=s3.1}:Zax) s3.2)))))) (.sel 2150 (.ret s3.2)))))))))))) fun v2=>.ret (.inl ((IntKind.i64.wrap (s3.1+1)),v2)))) (.sel 2146 (.ret (.inr s3.2))))))) fun y1=>.ret y1))))) fun v3=>.ret (.inl v3))) fun os2=>.case os2 (fun s2=>.sel 2118 (.fin [8] (.map 8) [(8,.map (zu IV.i64 Zax.iv s2))] (qC IV.i64 Zax.iv (some s2)) (js _ _ _ (zD (zkd IV.i64 Zax.iv 8 s2 rfl) jH)) (some s2))) fun _=>.none))))) fun _=>.none)))
theorem zhs (c:Zab) (states:List Zac) (res:Option (List (Int×Zax))) (hd:yQ c states=some res):APure C0 205 [.agg (Zab.row c),.slice (List.map Zac.row states)] (qC IV.i64 Zax.iv res):=
  Zad.pure (iv:=fun res=>qC IV.i64 Zax.iv res) (zhr c states) (by kernel_rfl) (Zad.run_of hd (by kernel_rfl))
noncomputable def ko (p1:List Int):Option (List Int):=
  (Option.bind (iter (σ:=Int×Int×(List Int)) (ρ:=(List Int)) (fun s1=>(bif decide (s1.1 < s1.2.1) then (Option.bind (zk p1.length s1.2.1) fun k1=>(Option.bind (s1.2.2[k1]?) fun e1=>(Option.bind (zk p1.length s1.1) fun k2=>(Option.bind (s1.2.2[k2]?) fun e2=>(Option.bind ((s1.2.2.set k2 e1)[k1]?) fun e3=>some (.inl ((IntKind.i64.wrap (s1.1+1)),(IntKind.i64.wrap (s1.2.1 - 1)),((s1.2.2.set k2 e1).set k1 e2)))))))) else some (.inr s1.2.2))) (0,(IntKind.i64.wrap ((p1.length:Int) - 1)),p1)) (fun (y1:(List Int))=>some y1))
noncomputable def zi6 (p1:List Int):Zad (List Int):=
  .iter (σ:=Int×Int×(List Int)) (ρ:=(List Int)) (0,(IntKind.i64.wrap ((p1.length:Int) - 1)),p1) (.k [0] (fun s1=>[(2,vI s1.1),(3,vI s1.2.1)]) [] (fun s1=>[(0,.rows 1 (zb zc s1.2.2))]) 6 fun _=>(.rows rfl .nil)) (fun s1=>.ite 2180 (decide (s1.1 < s1.2.1)) (.sel 2180 (.reg 0 (.b1 2182 (zk p1.length s1.2.1) (fun k1=>.k k1) (fun k1 hk1=>(zs hk1)) fun k1=>.b1 2184 (s1.2.2[k1]?) (fun e1=>.ar (zz (zc e1))) (fun e1 he1=>(zT zc he1)) fun e1=>.b1 2186 (zk p1.length s1.1) (fun k2=>.k k2) (fun k2 hk2=>(zs hk2)) fun k2=>.bind (s1.2.2[k2]?) (fun e2=>[(2188,([.ar (zz (zc e2))],_)),(2190,([.aw (zz (zc e2)) (zb zc (s1.2.2.set k2 e1))],_))]) (fun e2 he2=>(.c1 (zT zc he2) (.c1 (zZ zc e1 he2) .nil))) fun e2=>.b1 2192 ((s1.2.2.set k2 e1)[k1]?) (fun e3=>.aw (zz (zc e3)) (zb zc ((s1.2.2.set k2 e1).set k1 e2))) (fun e3 he3=>(zZ zc e2 he3)) fun e3=>.us [(6,2182),(7,2184),(10,2186),(11,2188),(12,2186),(13,2190),(14,2182),(15,2192)] (.ret (.inl ((IntKind.i64.wrap (s1.1+1)),(IntKind.i64.wrap (s1.2.1 - 1)),((s1.2.2.set k2 e1).set k1 e2))))))) (.sel 2180 (.ret (.inr s1.2.2)))) fun y1=>.ret y1
theorem zi7 (p1:List Int) (res:(List Int)) (hd:ko p1=some res):DOk C0 213 [.Zal 0 0 p1.length] [(0,.rows 1 (zb zc p1))] 1 (.tuple []) [(0,.rows 1 (zb zc res))] 0:=
  Zad.det (R:=fun res=>.tuple []) (H:=fun res=>[(0,.rows 1 (zb zc res))]) (zi6 p1) (.rows rfl .nil) (fun _=>(.rows rfl .nil)) (by kernel_rfl) (fun _=>by kernel_rfl) (by kernel_rfl) (Zad.run_of hd (by kernel_rfl))
noncomputable def jM (came:Option (List (Int×Zax))) (n:Int):Zax:=(zq n (came.getD [])).getD ({from_:=0,step:=0}:Zax)
noncomputable def Qc (came:Option (List (Int×Zax))) (s:List Int×Int):Option ((List Int×Int) ⊕ List Int):=
  bif (!(s.2 == 0)) then Option.bind (zfm (α:=Int) 8 s.1 [(jM came s.2).step]) fun e=>some (.inl (e,(jM came s.2).from_)) else some (.inr s.1)
noncomputable def Qd (came:Option (List (Int×Zax))) (n:Int):Option (List Int):=
  Option.bind (iter (σ:=List Int×Int) (ρ:=List Int) (Qc came) ([],n)) fun l=>Option.bind (ko l) fun r=>Option.bind (eqN l.length r.length) fun _=>some r
theorem zeo {C:CtxY} {nt:Fr} {x:ZaG} {K:Exit→St→Prop} {st:St} {σ ρ γ:Type} {f:σ→Option (σ ⊕ ρ)} {s0:σ} {out:ρ} (hl:iter f s0=some out)
    (Ok:σ→γ→Prop) (S:σ→γ→St) (hmin:∀ s c,Ok s c→st.next≤(S s c).next) (c0:γ) (hok0:Ok s0 c0) (hn0:(S s0 c0).next=st.next) (h0:Weak st (S s0 c0))
    (body:∀ (s:σ) (c:γ) (o:σ ⊕ ρ),Ok s c→f s=some o→awp C nt x (zke Ok S K (.inr out) o) (S s c)):awp C nt (.loop x) K st:=by
  obtain ⟨k,hk⟩:=wx.1 hl
  refine Xm (ι:={p:Nat×σ×γ // iterN f p.1 p.2.1=some out∧Ok p.2.1 p.2.2}) (fun p=>S p.1.2.1 p.1.2.2) (fun p=>p.1.1) ⟨(k,s0,c0),hk,hok0⟩ (fun p=>by rw [hn0];exact hmin _ _ p.2.2) h0 (Nat.le_of_eq hn0.symm) ?_
  rintro ⟨⟨i,s,c⟩,hf,hok⟩
  simp only at hf hok
  cases i with
  | zero=>cases hf
  | succ i=>
    simp only [iterN] at hf
    split at hf
    · cases hf
    · rename_i r hr
      cases hf
      refine qS ?_ (body s c _ hok hr)
      intro e st' hK
      cases e with
      | normal=>obtain ⟨s',_,h1,_⟩:=hK;cases h1
      | _=>obtain ⟨y,h1,h2⟩:=hK;cases h1;exact h2 rfl
    · rename_i s' hr
      refine qS ?_ (body s c _ hok hr)
      intro e st' hK
      cases e with
      | normal=>
        obtain ⟨s'',c'',h1,h2,h3⟩:=hK
        cases h1
        exact ⟨⟨(i,s',c''),hf,h2⟩,by simp only;omega,h3⟩
      | _=>obtain ⟨y,h1,h2⟩:=hK;cases h1
theorem yy {C:CtxY} {K:St→Prop} {dst:Option Nat} {op:AOp} {rest:List AItem} {env:List (Nat×AV)} {heap:List (Nat×Zaf)} {next:Nat} (r:AV) (ups:List (Nat×Zaf)) (hc:(match op with | .call _ _=>true | _=>false)=false)
    (he:evalOp op (zd env) (za heap) next=some (r,ups)) (hn:evl C rest K (St.after ⟨env,heap,next⟩ dst r ups)):evl C (⟨dst,op,none⟩::rest) K ⟨env,heap,next⟩:=by
  rw [Ky,V3]
  have e:∀ K,evOp C dst K ⟨env,heap,next⟩ op=zS dst K ⟨env,heap,next⟩ (evalOp op (zd env) (za heap) next):=fun KD=>by
    cases op<;>first | rfl | exact Bool.noConfusion hc
  rw [e,he]
  exact hn
theorem zfN {ev:Opd→AV} {h:Nat→Option Zaf} {id:Nat} {a b:Opd} {zero:AV} {k:Int} {y:IV} {x:AV} {bb:Bool} (hp:zcd false zero (.int .i64 k) y x bb) (ha:ev a=.imm y) (hb:ev b=vI k):evalOp (.look false zero false a b) ev h id=some (x,[]):=by
  obtain ⟨es,h1,h2,h3⟩:=hp
  have h1':jq h (.imm y)=some es:=by
    rw [←h1];cases y<;>rfl
  simp only [evalOp,ha,hb,vI,h1',h2,if_pos]
  rcases h3 with ⟨h4,_⟩ | ⟨h4,h5,_⟩
  · rw [h4];rfl
  · rw [h4];simp [h5]
theorem zht {ev:Opd→AV} {h:Nat→Option Zaf} {id:Nat} {a:Opd} (off:Nat) {x:Zax} {v:Int} (ha:ev a=.imm (Zax.iv x)) (ho:off < 2) (hv:x.row[off]?=some (.int .i64 v)):evalOp (.cut false off 1 a) ev h id=some (vI v,[]):=by
  simp only [evalOp,ha,Zax.iv,ZH]
  have hl:(x.row.map AV.imm).length=2:=rfl
  rw [if_pos (by omega)]
  simp only [Bool.false_eq_true,if_false,List.getElem?_map,hv,Option.map_some,vI]
theorem zhu {ev:Opd→AV} {h:Nat→Option Zaf} {id Q B k:Nat} {a b:Opd} {v:AV} {rows:List (List AV)} (ha:ev a=.Zal Q 0 k) (hb:ev b=.Zal B 0 1) (hB:h B=some (.rows 1 [[v]])) (hQ:h Q=some (.rows 1 rows)) (hk:k=rows.length) (hl:(k+1)*8≤140737488355328) :
    evalOp (.app 1 8 a b) ev h id=some (.Zal id 0 (k+1),[(id,.rows 1 (rows++[[v]])),(Q,.dead)]):=by
  subst hk
  simp [evalOp,ha,hb,Qv,jF,hB,hQ,hl]
theorem zkN {C:CtxY} {nt:Fr} (came:Option (List (Int×Zax))) (n:Int) (x7:AV) (l:List Int) (Q N:Nat) (hQN:Q < N) (hl:(l.length+1)*8≤140737488355328) (P:Exit→St→Prop)
    (h:P .normal ⟨[(0,.imm (qC IV.i64 Zax.iv came)),(1,vI n),(5,.Zal (N+6) 0 (l.length+1))],zJ (zJ (zJ [(Q,Zaf.rows 1 (zb zc l))] (N+5) (Zaf.rows 1 [[vI (jM came n).step]])) Q Zaf.dead) (N+6) (Zaf.rows 1 (zb zc l++[[vI (jM came n).step]])),N+8⟩) :
    awp C nt (.region false [] Vr (some [0,1,5])) P ⟨[(0,.imm (qC IV.i64 Zax.iv came)),(1,vI n),(5,.Zal Q 0 l.length),(7,x7)],[(Q,.rows 1 (zb zc l))],N⟩:=by
  refine JA ?_
  unfold Vr
  refine yy _ _ rfl rfl ?_
  refine yy _ _ rfl rfl ?_
  refine yy _ _ rfl rfl ?_
  refine yy (.imm (Zax.iv (jM came n))) [] rfl (zfN (Wf Zax.iv ({from_:=0,step:=0}:Zax) n came) rfl rfl) ?_
  refine yy (vI (jM came n).step) [] rfl (zht 1 rfl (by omega) rfl) ?_
  refine yy (.Zal (N+5) 0 1) [(N+5,.rows 1 [[vI (jM came n).step]])] rfl rfl ?_
  have hB:za (zJ [(Q,Zaf.rows 1 (zb zc l))] (N+5) (Zaf.rows 1 [[vI (jM came n).step]])) (N+5)=some (.rows 1 [[vI (jM came n).step]]):=by rw [z6,if_pos rfl]
  have hQ1:za (zJ [(Q,Zaf.rows 1 (zb zc l))] (N+5) (Zaf.rows 1 [[vI (jM came n).step]])) Q=some (.rows 1 (zb zc l)):=by rw [z6,if_neg (by omega)];simp [za]
  refine yy _ _ rfl (zhu rfl rfl hB hQ1 (by simp [zb]) hl) ?_
  refine yy _ _ rfl rfl ?_
  exact h
theorem zkO {nt:Fr} (x0 x1 x7:AV) (l r:List Int) (hr:ko l=some r) (Q N:Nat) (hQN:Q < N) (P:Exit→St→Prop)
    (h:P .normal ⟨[(5,.Zal Q 0 l.length)],[(Q,.rows 1 (zb zc r))],N+2⟩) :
    awp C0.plain nt (.region false [] Vs (some [5])) P ⟨[(0,x0),(1,x1),(5,.Zal Q 0 l.length),(7,x7)],[(Q,.rows 1 (zb zc l))],N⟩:=by
  refine JA ?_
  have hd:=zi7 l r hr
  simp only [Vs,Ky,zg0,V3,ze5,evalOp,zg1,X7,zdE,reduceIte,Option.getD_some,X5,X6,QP,X8,V4,zdD,List.map_cons,List.map_nil,za0,List.nil_append,List.append_nil,List.cons_append,Kz,Nat.reduceEqDiff,if_false]
  refine ACall.det (l:=[Q]) (zi hd [Q] (N+1) (.keep .nil) (rhI rhN) (rhI rhN)) ?_ ?_ ?_
  · simp only [ke,Zl,List.length_cons,List.length_nil,List.all_cons,List.all_nil]
    simp;try omega
  · simp [xx,za,phi]
  · simp only [yN,St.put,X5,X6,QP,X8,V4,Nat.reduceEqDiff,if_false,reduceIte,X7,Option.getD_some,zdC,YI]
    simp [qw,List.filter,phi,wR,zJ]
    exact h
def SW (came:Option (List (Int×Zax))) (s:List Int×Int) (Q:Nat):St:=⟨[(0,.imm (qC IV.i64 Zax.iv came)),(1,vI s.2),(5,.Zal Q 0 s.1.length)],[(Q,.rows 1 (zb zc s.1))],Q+1⟩
set_option maxHeartbeats 4000000 in
theorem zkP (came:Option (List (Int×Zax))) (n:Int) (res:List Int) (hd:Qd came n=some res):APure C0 206 [qC IV.i64 Zax.iv came,.int .i64 n] (.slice (List.map zc res)):=by
  unfold Qd at hd
  obtain ⟨l,hl,hd⟩:=jQ hd
  obtain ⟨r,hr,hd⟩:=jQ hd
  obtain ⟨⟨hlen⟩,_,hd⟩:=jQ hd
  have ee:=Option.some.inj hd;subst ee
  refine APure.start (d:=2) zkj (by simp [Y4]) ?_
  intro B
  show awp C0.plain _ Y4.body (yH Y4.results _) ⟨[(0,.imm (qC IV.i64 Zax.iv came)),(1,vI n)],[],0⟩
  refine xn ?_
  refine kg (st':=⟨[(0,.imm (qC IV.i64 Zax.iv came)),(1,vI n)],[],1⟩) [] .nil ?_ (by kernel_rfl)
  refine yi ?_
  refine xn ?_
  refine kg (st':=⟨[(0,.imm (qC IV.i64 Zax.iv came)),(1,vI n),(5,.nil)],[],2⟩) [] .nil ?_ (by kernel_rfl)
  refine yi ?_
  refine xn ?_
  refine kI ?_
  refine Xl (V9 (t:=5) 1 rfl) (by simp) ?_
  show awp C0.plain _ _ _ ⟨[(0,.imm (qC IV.i64 Zax.iv came)),(1,vI n),(5,.Zal 2 0 0)],[(2,.rows 1 [])],3⟩
  refine zeo hl (fun _ Q=>2≤Q) (SW came) (fun s Q hQ=>by simp only [SW];omega) 2 (Nat.le_refl _) rfl (Weak.refl _) ?_
  rintro ⟨l,n⟩ Q o hQ hs
  show awp C0.plain _ _ _ ⟨[(0,.imm (qC IV.i64 Zax.iv came)),(1,vI n),(5,.Zal Q 0 l.length)],[(Q,.rows 1 (zb zc l))],Q+1⟩
  refine xn ?_
  refine xn ?_
  refine kg (st':=⟨[(0,.imm (qC IV.i64 Zax.iv came)),(1,vI n),(5,.Zal Q 0 l.length),(7,vB (!(n == 0)))],[(Q,.rows 1 (zb zc l))],Q+3⟩) [] .nil ?_ (by kernel_rfl)
  refine yi ?_
  refine zh0 (!(n == 0)) rfl (fun g => ?_) (fun g => ?_)
  · replace hs:=zh2 g hs
    obtain ⟨e,he,hs⟩:=jQ hs
    cases hs
    have hb:(l.length+1)*8≤140737488355328∧e=l++[(jM came n).step]:=by
      unfold zfm at he
      split at he
      · rename_i hh;cases he;exact ⟨hh,rfl⟩
      · cases he
    obtain ⟨hb,rfl⟩:=hb
    refine Xj ?_
    refine yi ?_
    refine kI ?_
    refine xn ?_
    refine zkN came n _ l Q (Q+3) (by omega) hb _ ?_
    refine yi ?_
    have ag:∀ j,za (zJ (zJ (zJ [(Q,Zaf.rows 1 (zb zc l))] (Q+3+5) (Zaf.rows 1 [[vI (jM came n).step]])) Q Zaf.dead) (Q+3+6) (Zaf.rows 1 (zb zc l++[[vI (jM came n).step]]))) j=if Q+3+6=j then some (.rows 1 (zb zc l++[[vI (jM came n).step]])) else if Q=j then some .dead else if Q+3+5=j then some (.rows 1 [[vI (jM came n).step]]) else za [(Q,Zaf.rows 1 (zb zc l))] j:=fun j=>by
      simp only [z6]
    have ag2:=ag (Q+9)
    rw [if_pos rfl] at ag2
    generalize zJ (zJ (zJ [(Q,Zaf.rows 1 (zb zc l))] (Q+3+5) (Zaf.rows 1 [[vI (jM came n).step]])) Q Zaf.dead) (Q+3+6) (Zaf.rows 1 (zb zc l++[[vI (jM came n).step]]))=hp at *
    refine kg (st':=⟨[(0,.imm (qC IV.i64 Zax.iv came)),(1,vI (jM came n).from_),(5,.Zal (Q+3+6) 0 (l.length+1))],hp,Q+3+8+5⟩) [.l (.imm (Zax.iv (jM came n))) (zq n (came.getD [])).isSome] (.cons (Wf Zax.iv ({from_:=0,step:=0}:Zax) n came) .nil) ?_ (by kernel_rfl)
    refine zka ?_
    refine ⟨_,Q+9,rfl,by omega,?_⟩
    refine Jz (by simp only [SW];omega) ?_ ?_
    · intro p hp
      simp only [SW,List.mem_cons,List.not_mem_nil,or_false] at hp
      rcases hp with rfl | rfl | rfl
      · exact ⟨rfl,rfl⟩
      · exact ⟨rfl,rfl⟩
      · refine ⟨by simp [za],by simp [zL,xa,zF,SW]⟩
    · intro p hp
      simp only [SW,List.mem_cons,List.not_mem_nil,or_false] at hp
      subst hp
      refine ⟨by rw [ag2];simp [zb,zz,zc,vI],by simp [SW],vV _ _ _ _⟩
  · replace hs:=zh3 g hs
    cases hs
    refine Xk ?_
    refine ⟨_,rfl,fun e => ?_⟩
    have e:=Sum.inr.inj e
    subst e
    refine zh1 ?_
    refine yi ?_
    refine xn ?_
    refine zkO _ _ _ _ r hr Q (Q+3) (by omega) _ ?_
    refine yi ?_
    refine xn ?_
    refine kg (st':=⟨[(4,.Zal Q 0 l.length)],[(Q,.rows 1 (zb zc r))],Q+3+2+2⟩) [] .nil ?_ (by kernel_rfl)
    refine yi ?_
    refine Vb ?_
    exact zfs _ rfl (xz zc Q 1 _ r hlen (by simp [za]))
noncomputable def wF (c:Zab) (states:List Zac):Option (List Zak):=
  (Option.bind (forR (σ:=(List Zak)×(Option (List (Int×Zax)))) (ρ:=Unit) (c.Zag.length:Int) (fun i1 s1=>(Option.bind (forR (σ:=(List Zak)×(Option (List (Int×Zax)))) (ρ:=Unit) (c.Zag.length:Int) (fun i2 s2=>(Option.bind (Option.bind (xL c (i1:Int) (i2:Int)) fun r1=>(bif r1 then (Option.bind (forR (σ:=(List Zak)×(Option (List (Int×Zax)))) (ρ:=(List Zak)×(Option (List (Int×Zax)))) (states.length:Int) (fun i3 s3=>(Option.bind (ze states (i3:Int)) fun e1=>(Option.bind (vE c e1 (i1:Int) (i2:Int)) fun r2=>(bif r2 then (Option.bind (bif s3.2.isSome then some s3.2 else (Option.bind (yQ c states) fun r3=>some r3)) fun (v1:(Option (List (Int×Zax))))=>(Option.bind (Qd v1 (i3:Int)) fun r4=>(Option.bind (jb 4 (-1) (i1:Int) (i2:Int) r4) fun r5=>(Option.bind (zO (α:=Zak) 56 s3.1 [r5]) fun e2=>some (.inr (e2,v1)))))) else some (.inl (s3.1,s3.2)))))) (s2.1,s2.2)) (Sum.elim (fun (s3:(List Zak)×(Option (List (Int×Zax))))=>some (s3.1,s3.2)) (fun (y1:(List Zak)×(Option (List (Int×Zax))))=>some (y1.1,y1.2)))) else some (s2.1,s2.2))) fun (v2:(List Zak)×(Option (List (Int×Zax))))=>some (.inl (v2.1,v2.2)))) (s1.1,s1.2)) (Sum.elim (fun (s2:(List Zak)×(Option (List (Int×Zax))))=>some (.inl (s2.1,s2.2))) (fun _=>none)))) ([],none)) (Sum.elim (fun (s1:(List Zak)×(Option (List (Int×Zax))))=>some s1.1) (fun _=>none)))
noncomputable def zep (c:Zab) (states:List Zac):Zad (List Zak):=
  .reg 3 (.ln 2232 Zan.row c.Zag (.use 2 2232 (.weak 1 [zio 5 5] (.forR (σ:=(List Zak)×(Option (List (Int×Zax)))) (ρ:=Unit) 1962 14 (c.Zag.length:Int) ([],none) (.k [1,2,13] (fun s1=>[(5,.Zas 8 (List.map Zak.row s1.1)),(6,.imm (qC IV.i64 Zax.iv s1.2))]) [0] (fun s1=>[(8,.tip 5 s1.1.length)]) 9 fun _=>(.exp rfl rfl .nil)) (fun i1 s1=>.sel 1962 (.reg 1 (.ln 2230 Zan.row c.Zag (.use 2 2230 (.forR (σ:=(List Zak)×(Option (List (Int×Zax)))) (ρ:=Unit) 2202 20 (c.Zag.length:Int) (s1.1,s1.2) (.k [1,2,13,14,7,19] (fun s2=>[(5,.Zas 8 (List.map Zak.row s2.1)),(6,.imm (qC IV.i64 Zax.iv s2.2))]) [0] (fun s2=>[(8,.tip 5 s2.1.length)]) 16 fun _=>(.exp rfl rfl .nil)) (fun i2 s2=>.sel 2202 (.cut (β:=(List Zak)×(Option (List (Int×Zax)))) 1 (.k [1,2,13,14,7,19,20] (fun v2=>[(5,.Zas 8 (List.map Zak.row v2.1)),(6,.imm (qC IV.i64 Zax.iv v2.2))]) [0] (fun v2=>[(8,.tip 5 v2.1.length)]) 24 fun _=>(.exp rfl rfl .nil)) (.reg 1 (.call 2212 (Yo c (i1:Int) (i2:Int)) fun r1=>.use 3 2212 (.ite 2204 r1 (.sel 2205 (.reg 0 (.ln 2228 Zac.row states (.use 1 2228 (.forR (σ:=(List Zak)×(Option (List (Int×Zax)))) (ρ:=(List Zak)×(Option (List (Int×Zax)))) 2206 30 (states.length:Int) (s2.1,s2.2) (.k [1,2,13,14,7,19,20,8,28,29] (fun s3=>[(5,.Zas 8 (List.map Zak.row s3.1)),(6,.imm (qC IV.i64 Zax.iv s3.2))]) [0] (fun s3=>[(8,.tip 5 s3.1.length)]) 27 fun _=>(.exp rfl rfl .nil)) (fun i3 s3=>.sel 2206 (.reg 0 (.ix 2214 Zac.row states (i3:Int) fun e1=>.use 1 2214 (.reg 0 (.call 2216 (zbK c e1 (i1:Int) (i2:Int)) fun r2=>.use 4 2216 (.ite 2208 r2 (.sel 2209 (.cut (β:=(Option (List (Int×Zax)))) 1 (.e [1,2,5,13,14,7,19,20,8,9] (fun v1=>[(6,.imm (qC IV.i64 Zax.iv v1))]) [0,8] 42) (.reg 0 (.f1 2220 (.v (.bool (!s3.2.isSome))) (zfp false IV.i64 Zax.iv s3.2) (.use 1 2220 (.ite 2210 s3.2.isSome (.sel 2211 (.ret s3.2)) (.sel 2211 (.reg 0 (.call 2218 (zhs c states) fun r3=>.use 2 2218 (.ret r3)))))))) fun v1=>.reg 0 (.call 2222 (zkP v1 (i3:Int)) fun r4=>.call 2224 (kQ 4 (-1) (i1:Int) (i2:Int) r4) fun r5=>.b1 2226 (zO (α:=Zak) 56 s3.1 [r5]) (fun e2=>.a (List.map Zak.row e2) e2.length) (fun e2 he2=>(qz Zak.row 5 56 (fun _=>rfl) he2)) fun e2=>.us [(5,2222),(6,2224),(8,2226)] (.ret (.inr (e2,v1)))))) (.sel 2209 (.ret (.inl (s3.1,s3.2)))))))))) fun os3=>.case os3 (fun s3=>.sel 2206 (.ret (s3.1,s3.2))) fun y1=>.ret (y1.1,y1.2)))))) (.sel 2205 (.ret (s2.1,s2.2)))))) fun v2=>.ret (.inl (v2.1,v2.2)))) fun os2=>.case os2 (fun s2=>.sel 2202 (.ret (.inl (s2.1,s2.2)))) fun _=>.none))))) fun os1=>.case os1 (fun s1=>.sel 1962 (.ret s1.1)) fun _=>.none))))
theorem zeq (c:Zab) (states:List Zac) (res:List Zak) (hd:wF c states=some res):APure C0 201 [.agg (Zab.row c),.slice (List.map Zac.row states)] (.slice (List.map Zak.row res)):=
  Zad.pure (iv:=fun res=>.slice (List.map Zak.row res)) (zep c states) (by kernel_rfl) (Zad.run_of hd (by kernel_rfl))
noncomputable def jU (c:Zab):Option ((List Zak)×Int):=
  (Option.bind (xr c) fun r1=>(bif (r1.2 == 0) then (Option.bind (forR (σ:=(List Zak)) (ρ:=Int) c.Zao (fun i1 s1=>(Option.bind (α:=(List Zak) ⊕ Int) (Option.bind (ju c (i1:Int)) fun r2=>(bif (r2.2 == 0) then (Option.bind (vC c r2.1) fun r3=>(Option.bind (ze r3 0) fun e1=>(bif decide (0≤e1) then (Option.bind (Zz r2.1 r3) fun r4=>(Option.bind (jb 1 (i1:Int) (-1) (-1) r4) fun r5=>(Option.bind (zO (α:=Zak) 56 s1 [r5]) fun e2=>some (.inl e2)))) else some (.inl s1)))) else some (.inr r2.2))) (Sum.elim (fun (v1:(List Zak))=>some (.inl v1)) (fun (y1:Int)=>some (.inr y1))))) []) (Sum.elim (fun (s1:(List Zak))=>(Option.bind (forR (σ:=(List Zak)×(List Zak)) (ρ:=Unit) (c.Zag.length:Int) (fun i2 s2=>(Option.bind (Q8 (i2:Int) r1.1 s2.1 c s2.2) fun r6=>some (.inl (r6.1,r6.2)))) (s1,[])) (Sum.elim (fun (s2:(List Zak)×(List Zak))=>(Option.bind (zO (α:=Zak) 56 s2.1 s2.2) fun e3=>(Option.bind (wF c r1.1) fun r7=>(Option.bind (zO (α:=Zak) 56 e3 r7) fun e4=>some (e4,0))))) (fun _=>none)))) (fun (y2:Int)=>some ([],y2)))) else some ([],r1.2)))
noncomputable def zi8 (c:Zab):Zad ((List Zak)×Int):=
  .reg 1 (.call 2234 (zbH c) fun r1=>.use 1 2234 (.ite 1304 (r1.2 == 0) (.sel 1305 (.weak 4 [Wr 13 5 0 0] (.forR (σ:=(List Zak)) (ρ:=Int) 1306 24 c.Zao [] (.k [1,4,6,23] (fun _=>[]) [0,8] (fun s1=>[(13,.rows 1 [[.Zas 17 (List.map Zak.row s1)]]),(17,.tip 5 s1.length)]) 18 fun _=>(.exp rfl rfl (.exp rfl rfl .nil))) (fun i1 s1=>.sel 1306 (.cutO (β:=(List Zak)) (γ:=Int) 1 (.k [1,4,6,23,24] (fun _=>[]) [0,8] (fun v1=>[(13,.rows 1 [[.Zas 17 (List.map Zak.row v1)]]),(17,.tip 5 v1.length)]) 40 fun _=>(.exp rfl rfl (.exp rfl rfl .nil))) (.reg 1 (.call 2236 (zbI c (i1:Int)) fun r2=>.use 2 2236 (.ite 1892 (r2.2 == 0) (.sel 1893 (.reg 0 (.call 2238 (zbJ c r2.1) fun r3=>.use 2 2238 (.reg 0 (.ix 2240 zc r3 0 fun e1=>.use 1 2240 (.ite 1894 (decide (0≤e1)) (.sel 1894 (.reg 0 (.call 2242 (ziO r2.1 r3) fun r4=>.call 2244 (kQ 1 (i1:Int) (-1) (-1) r4) fun r5=>.b1 2246 (zO (α:=Zak) 56 s1 [r5]) (fun e2=>.a (List.map Zak.row e2) e2.length) (fun e2 he2=>(qz Zak.row 5 56 (fun _=>rfl) he2)) fun e2=>.us [(4,2242),(5,2244),(7,2246)] (.ret (.inl e2))))) (.sel 1894 (.ret (.inl s1))))))))) (.sel 1893 (.ret (.inr r2.2)))))) fun o_v1=>.case o_v1 (fun v1=>.ret (.inl v1)) fun y1=>.ret (.inr y1))) fun os1=>.case os1 (fun s1=>.sel 1306 (.reg 2 (.ln 2256 Zan.row c.Zag (.use 2 2256 (.weak 1 [Wr 19 5 0 0] (.forR (σ:=(List Zak)×(List Zak)) (ρ:=Unit) 1896 56 (c.Zag.length:Int) (s1,[]) (.k [1,4,6,11,12,55] (fun _=>[]) [0,8] (fun s2=>[(13,.rows 1 [[.Zas 17 (List.map Zak.row s2.1)]]),(17,.tip 5 s2.1.length),(19,.rows 1 [[.Zas 26 (List.map Zak.row s2.2)]]),(26,.tip 5 s2.2.length)]) 27 fun _=>(.exp rfl rfl (.exp rfl rfl (.exp rfl rfl (.exp rfl rfl .nil))))) (fun i2 s2=>.sel 1896 (.reg 1 (.b1 2248 (Q8 (i2:Int) r1.1 s2.1 c s2.2) (fun r6=>.c [8,13,0,19,17,26] 6 (.tuple []) [(13,.rows 1 [[.Zas 17 (List.map Zak.row r6.1)]]),(19,.rows 1 [[.Zas 26 (List.map Zak.row r6.2)]]),(17,.tip 5 r6.1.length),(26,.tip 5 r6.2.length)] 0) (fun r6 hr6=>(zi (zi3 (i2:Int) r1.1 s2.1 c s2.2 r6 hr6) [8,13,0,19,17,26] 32 (.drop rfl rfl (.keep (.drop rfl rfl (.keep (.keep (.keep .nil)))))) (rhR (rhR (rhR (rhR (rhR (rhR rhN)))))) (rhR (rhR (rhR (rhR rhN)))))) fun r6=>.use 2 2248 (.ret (.inl (r6.1,r6.2)))))) fun os2=>.case os2 (fun s2=>.sel 1896 (.reg 0 (.b1 2250 (zO (α:=Zak) 56 s2.1 s2.2) (fun e3=>.a (List.map Zak.row e3) e3.length) (fun e3 he3=>(qz Zak.row 5 56 (fun _=>rfl) he3)) fun e3=>.call 2252 (zeq c r1.1) fun r7=>.b1 2254 (zO (α:=Zak) 56 e3 r7) (fun e4=>.a (List.map Zak.row e4) e4.length) (fun e4 he4=>(qz Zak.row 5 56 (fun _=>rfl) he4)) fun e4=>.us [(2,2250),(5,2252),(6,2254)] (.ret (e4,0))))) fun _=>.none)))))) fun y2=>.ret ([],y2)))) (.sel 1305 (.ret ([],r1.2)))))
theorem WM (c:Zab) (res:(List Zak)×Int) (hd:jU c=some res):APure C0 192 [.agg (Zab.row c)] (.tuple [.slice (List.map Zak.row res.1),.int .i64 res.2]):=
  Zad.pure (iv:=fun res=>.tuple [.slice (List.map Zak.row res.1),.int .i64 res.2]) (zi8 c) (by kernel_rfl) (Zad.run_of hd (by kernel_rfl))
noncomputable def zar (a:List Int) (b:List Int):Option Bool:=
  (bif ((a.length:Int) == (b.length:Int)) then (Option.bind (forR (σ:=Unit) (ρ:=Unit) (a.length:Int) (fun i1 s1=>(Option.bind (ze a (i1:Int)) fun e1=>(Option.bind (ze b (i1:Int)) fun e2=>(bif (e1 == e2) then some (.inl ()) else some (.inr ()))))) ()) (Sum.elim (fun (s1:Unit)=>some true) (fun (y1:Unit)=>some false))) else some false)
noncomputable def zfO (a:List Int) (b:List Int):Zad Bool:=
  .reg 1 (.ln 2288 zc a (.use 1 2288 (.ln 2286 zc b (.use 3 2286 (.ite 2272 ((a.length:Int) == (b.length:Int)) (.sel 2273 (.forR (σ:=Unit) (ρ:=Unit) 2274 5 (a.length:Int) () (.e [0,1] (fun _=>[]) [] 7) (fun i1 s1=>.reg 0 (.ln 2282 zc a (.use 2 2282 (.sel 2274 (.reg 0 (.ix 2278 zc a (i1:Int) fun e1=>.ix 2280 zc b (i1:Int) fun e2=>.us [(2,2278),(6,2280)] (.ite 2276 (e1 == e2) (.sel 2277 (.ret (.inl ()))) (.sel 2277 (.ret (.inr ())))))))))) fun os1=>.case os1 (fun s1=>.reg 0 (.ln 2284 zc a (.use 2 2284 (.sel 2274 (.ret true))))) fun y1=>.ret false)) (.sel 2273 (.ret false)))))))
theorem zfP (a:List Int) (b:List Int) (res:Bool) (hd:zar a b=some res):APure C0 142 [.slice (List.map zc a),.slice (List.map zc b)] (.bool res):=
  Zad.pure (iv:=fun res=>.bool res) (zfO a b) (by kernel_rfl) (Zad.run_of hd (by kernel_rfl))
noncomputable def zas (a:Zak) (b:Zak):Option Bool:=
  (Option.bind (bif (a.kind == b.kind) then (bif (a.Zaa == b.Zaa) then (bif (a.clause == b.clause) then (bif (a.other == b.other) then (Option.bind (zar a.Zaz b.Zaz) fun r1=>some r1) else some false) else some false) else some false) else some false) fun v1=>some v1)
noncomputable def zfQ (a:Zak) (b:Zak):Zad Bool:=
  .cut (β:=Bool) 2 (.e [] (fun v1=>[(4,vB v1)]) [0,1] 37) (.reg 0 (.ite 2264 (a.kind == b.kind) (.ite 2266 (a.Zaa == b.Zaa) (.ite 2268 (a.clause == b.clause) (.ite 2270 (a.other == b.other) (.call 2290 (zfP a.Zaz b.Zaz) fun r1=>.us [(6,2264),(13,2266),(20,2268),(27,2270),(31,2290)] (.ret r1)) (.us [(6,2264),(13,2266),(20,2268),(27,2270)] (.ret false))) (.us [(6,2264),(13,2266),(20,2268)] (.f1 2292 (.g false) (rfl:false=false) (.use 27 2292 (.ret false))))) (.us [(6,2264),(13,2266)] (.f1 2296 (.g false) (rfl:false=false) (.use 20 2296 (.f1 2294 (.g false) (rfl:false=false) (.use 27 2294 (.ret false))))))) (.use 6 2264 (.f1 2302 (.g false) (rfl:false=false) (.use 13 2302 (.f1 2300 (.g false) (rfl:false=false) (.use 20 2300 (.f1 2298 (.g false) (rfl:false=false) (.use 27 2298 (.ret false)))))))))) fun v1=>.ret v1
theorem zfR (a:Zak) (b:Zak) (res:Bool) (hd:zas a b=some res):APure C0 320 [.agg (Zak.row a),.agg (Zak.row b)] (.bool res):=
  Zad.pure (iv:=fun res=>.bool res) (zfQ a b) (by kernel_rfl) (Zad.run_of hd (by kernel_rfl))
noncomputable def vF (a:List Zak) (b:List Zak):Option Bool:=
  (bif ((a.length:Int) == (b.length:Int)) then (Option.bind (forR (σ:=Unit) (ρ:=Unit) (a.length:Int) (fun i1 s1=>(Option.bind (ze a (i1:Int)) fun e1=>(Option.bind (ze b (i1:Int)) fun e2=>(Option.bind (zas e1 e2) fun r1=>(bif r1 then some (.inl ()) else some (.inr ())))))) ()) (Sum.elim (fun (s1:Unit)=>some true) (fun (y1:Unit)=>some false))) else some false)
noncomputable def zhv (a:List Zak) (b:List Zak):Zad Bool:=
  .reg 1 (.ln 2318 Zak.row a (.use 1 2318 (.ln 2316 Zak.row b (.use 3 2316 (.ite 2260 ((a.length:Int) == (b.length:Int)) (.sel 2261 (.forR (σ:=Unit) (ρ:=Unit) 2262 5 (a.length:Int) () (.e [0,1] (fun _=>[]) [] 7) (fun i1 s1=>.reg 0 (.ln 2312 Zak.row a (.use 2 2312 (.sel 2262 (.reg 0 (.ix 2306 Zak.row a (i1:Int) fun e1=>.ix 2308 Zak.row b (i1:Int) fun e2=>.call 2310 (zfR e1 e2) fun r1=>.us [(2,2306),(6,2308),(8,2310)] (.ite 2304 r1 (.sel 2305 (.ret (.inl ()))) (.sel 2305 (.ret (.inr ())))))))))) fun os1=>.case os1 (fun s1=>.reg 0 (.ln 2314 Zak.row a (.use 2 2314 (.sel 2262 (.ret true))))) fun y1=>.ret false)) (.sel 2261 (.ret false)))))))
theorem zbL (a:List Zak) (b:List Zak) (res:Bool) (hd:vF a b=some res):APure C0 317 [.slice (List.map Zak.row a),.slice (List.map Zak.row b)] (.bool res):=
  Zad.pure (iv:=fun res=>.bool res) (zhv a b) (by kernel_rfl) (Zad.run_of hd (by kernel_rfl))
noncomputable def zat (c:Zab) (s:Zac) (act:Int):Option Int:=
  (Option.bind (Option.bind (xc c s) fun r1=>(bif r1 then (bif decide (act < 0) then some true else some (decide ((c.Zai.length:Int)≤act))) else some true)) fun v1=>(bif v1 then some (-2) else (Option.bind (kn c s act) fun r2=>some r2)))
noncomputable def zi9 (c:Zab) (s:Zac) (act:Int):Zad Int:=
  .cut (β:=Bool) 3 (.e [2,3,4] (fun v1=>[(21,vB v1)]) [0,1] 18) (.reg 0 (.call 2356 (km c s) fun r1=>.ite 2350 r1 (.ite 2352 (decide (act < 0)) (.us [(2,2356),(5,2351),(9,2352)] (.ret true)) (.us [(2,2356),(5,2351),(9,2352)] (.ln 2358 Zaq.row c.Zai (.use 12 2358 (.ret (decide ((c.Zai.length:Int)≤act))))))) (.us [(2,2356),(5,2351)] (.f1 2360 (.g true) (rfl:true=true) (.use 9 2360 (.ret true)))))) fun v1=>.ite 2354 v1 (.sel 2354 (.ret (-2))) (.sel 2354 (.reg 0 (.call 2362 (zei c s act) fun r2=>.use 3 2362 (.ret r2))))
theorem zja (c:Zab) (s:Zac) (act:Int) (res:Int) (hd:zat c s act=some res):APure C0 98 [.agg (Zab.row c),.agg (Zac.row s),.int .i64 act] (.int .i64 res):=
  Zad.pure (iv:=fun res=>.int .i64 res) (zi9 c s act) (by kernel_rfl) (Zad.run_of hd (by kernel_rfl))
noncomputable def kp (c:Zab) (s:Zac) (Zaa:Int):Option Bool:=
  (Option.bind (bif decide (Zaa < 0) then some true else (bif decide (c.Zao≤Zaa) then some true else (Option.bind (xc c s) fun r1=>some (!r1)))) fun v1=>(bif v1 then some false else (Option.bind (forR (σ:=Unit) (ρ:=Unit) (s.Zaj.length:Int) (fun i1 s1=>(Option.bind (ze s.Zaj (i1:Int)) fun e1=>(Option.bind (Option.bind (ze c.Zag (i1:Int)) fun e2=>(bif e2.final then (bif (e1.Zam == 4) then some (e1.Zau == Zaa) else some false) else some false)) fun v2=>(bif v2 then some (.inr ()) else some (.inl ()))))) ()) (Sum.elim (fun (s1:Unit)=>some false) (fun (y1:Unit)=>some true)))))
noncomputable def zfS (c:Zab) (s:Zac) (Zaa:Int):Zad Bool:=
  .cut (β:=Bool) 3 (.e [2,3,4] (fun v1=>[(22,vB v1)]) [0,1] 17) (.reg 0 (.ite 2370 (decide (Zaa < 0)) (.use 3 2370 (.f1 2384 (.g true) (rfl:true=true) (.use 9 2384 (.ret true)))) (.ite 2372 (decide (c.Zao≤Zaa)) (.us [(3,2370),(9,2372)] (.ret true)) (.call 2386 (km c s) fun r1=>.us [(3,2370),(9,2372),(11,2386)] (.ret (!r1)))))) fun v1=>.ite 2374 v1 (.sel 2374 (.ret false)) (.sel 2374 (.reg 0 (.ln 2394 zw.row s.Zaj (.use 2 2394 (.forR (σ:=Unit) (ρ:=Unit) 2376 26 (s.Zaj.length:Int) () (.e [2,3,24,25] (fun _=>[]) [0] 21) (fun i1 s1=>.sel 2376 (.reg 0 (.ix 2388 zw.row s.Zaj (i1:Int) fun e1=>.use 1 2388 (.cut (β:=Bool) 1 (.e [2,3,24,25,26] (fun v2=>[(47,vB v2)]) [0,25] 45) (.reg 0 (.ix 2390 Zan.row c.Zag (i1:Int) fun e2=>.ite 2378 e2.final (.ite 2380 (e1.Zam == 4) (.us [(3,2390),(7,2378),(12,2380)] (.ret (e1.Zau == Zaa))) (.us [(3,2390),(7,2378),(12,2380)] (.ret false))) (.us [(3,2390),(7,2378)] (.f1 2392 (.g false) (rfl:false=false) (.use 12 2392 (.ret false)))))) fun v2=>.ite 2382 v2 (.sel 2382 (.ret (.inr ()))) (.sel 2382 (.ret (.inl ()))))))) fun os1=>.case os1 (fun s1=>.sel 2376 (.ret false)) fun y1=>.ret true)))))
theorem zau (c:Zab) (s:Zac) (Zaa:Int) (res:Bool) (hd:kp c s Zaa=some res):APure C0 141 [.agg (Zab.row c),.agg (Zac.row s),.int .i64 Zaa] (.bool res):=
  Zad.pure (iv:=fun res=>.bool res) (zfS c s Zaa) (by kernel_rfl) (Zad.run_of hd (by kernel_rfl))
noncomputable def Qe (c:Zab) (s:Zac) (f:Zak):Option Bool:=
  (Option.bind (forR (σ:=Int×(List Int)×(List Bool)×(List zw)) (ρ:=Unit) (f.Zaz.length:Int) (fun i1 s1=>(Option.bind (ze f.Zaz (i1:Int)) fun e1=>(Option.bind (bif (e1 == (-1)) then some false else (Option.bind (zat c ({day:=s1.1,Zae:=s1.2.1,used:=s1.2.2.1,Zaj:=s1.2.2.2}:Zac) e1) fun r1=>some (r1 == f.Zaa))) fun v1=>(bif v1 then some (.inr ()) else (Option.bind (d_Step c ({day:=s1.1,Zae:=s1.2.1,used:=s1.2.2.1,Zaj:=s1.2.2.2}:Zac) e1) fun r2=>(bif (r2.2 == 0) then (Option.bind (bif ((i1:Int) == (IntKind.i64.wrap ((f.Zaz.length:Int) - 1))) then (Option.bind (kp c ({day:=s1.1,Zae:=s1.2.1,used:=s1.2.2.1,Zaj:=s1.2.2.2}:Zac) f.Zaa) fun r3=>some r3) else some false) fun v2=>(bif v2 then some (.inr ()) else some (.inl (r2.1.day,r2.1.Zae,r2.1.used,r2.1.Zaj)))) else some (.inr ()))))))) (s.day,s.Zae,s.used,s.Zaj)) (Sum.elim (fun (s1:Int×(List Int)×(List Bool)×(List zw))=>(Option.bind (kp c ({day:=s1.1,Zae:=s1.2.1,used:=s1.2.2.1,Zaj:=s1.2.2.2}:Zac) f.Zaa) fun r4=>some r4)) (fun (y1:Unit)=>some false)))
noncomputable def zfT (c:Zab) (s:Zac) (f:Zak):Zad Bool:=
  .reg 1 (.ln 2422 zc f.Zaz (.use 2 2422 (.forR (σ:=Int×(List Int)×(List Bool)×(List zw)) (ρ:=Unit) 2346 14 (f.Zaz.length:Int) (s.day,s.Zae,s.used,s.Zaj) (.k [3,4,5,12,13] (fun _=>[]) [0,2] (fun s1=>[(1,.rows 4 [[vI s1.1,.imm (.slice (List.map zc s1.2.1)),.imm (.slice (List.map zh s1.2.2.1)),.imm (.slice (List.map zw.row s1.2.2.2))]])]) 8 fun _=>(.exp rfl rfl .nil)) (fun i1 s1=>.sel 2346 (.reg 0 (.ix 2408 zc f.Zaz (i1:Int) fun e1=>.use 1 2408 (.cut (β:=Bool) 2 (.e [3,4,5,12,13,14,7,8] (fun v1=>[(29,vB v1)]) [0,1,2] 25) (.reg 0 (.ite 2398 (e1 == (-1)) (.use 3 2399 (.ret false)) (.call 2410 (zja c ({day:=s1.1,Zae:=s1.2.1,used:=s1.2.2.1,Zaj:=s1.2.2.2}:Zac) e1) fun r1=>.us [(3,2399),(6,2410)] (.ret (r1 == f.Zaa))))) fun v1=>.ite 2400 v1 (.sel 2400 (.ret (.inr ()))) (.sel 2400 (.reg 0 (.call 2412 (yu c ({day:=s1.1,Zae:=s1.2.1,used:=s1.2.2.1,Zaj:=s1.2.2.2}:Zac) e1) fun r2=>.use 3 2412 (.ite 2402 (r2.2 == 0) (.sel 2403 (.cut (β:=Bool) 2 (.e [3,4,5,12,13,14,9] (fun v2=>[(51,vB v2)]) [0,1,2,32] 50) (.reg 0 (.ite 2404 ((i1:Int) == (IntKind.i64.wrap ((f.Zaz.length:Int) - 1))) (.call 2414 (zau c ({day:=s1.1,Zae:=s1.2.1,used:=s1.2.2.1,Zaj:=s1.2.2.2}:Zac) f.Zaa) fun r3=>.ln 2416 zc f.Zaz (.us [(3,2416),(7,2404),(11,2414)] (.ret r3))) (.ln 2418 zc f.Zaz (.us [(3,2418),(7,2404)] (.ret false))))) fun v2=>.ite 2406 v2 (.sel 2406 (.ret (.inr ()))) (.sel 2406 (.ret (.inl (r2.1.day,r2.1.Zae,r2.1.used,r2.1.Zaj)))))) (.sel 2403 (.ret (.inr ()))))))))))) fun os1=>.case os1 (fun s1=>.sel 2346 (.reg 0 (.call 2420 (zau c ({day:=s1.1,Zae:=s1.2.1,used:=s1.2.2.1,Zaj:=s1.2.2.2}:Zac) f.Zaa) fun r4=>.use 4 2420 (.ret r4)))) fun y1=>.ret false)))
theorem zfU (c:Zab) (s:Zac) (f:Zak) (res:Bool) (hd:Qe c s f=some res):APure C0 324 [.agg (Zab.row c),.agg (Zac.row s),.agg (Zak.row f)] (.bool res):=
  Zad.pure (iv:=fun res=>.bool res) (zfT c s f) (by kernel_rfl) (Zad.run_of hd (by kernel_rfl))
noncomputable def WN (c:Zab) (a:ZaF):Option (List Bool):=
  (Option.bind (vC c a) fun r1=>(Option.bind (mkN 1 (r1.length:Int)) fun k1=>(Option.bind (forR (σ:=(List Bool)) (ρ:=Unit) (r1.length:Int) (fun i1 s1=>(Option.bind (ze r1 (i1:Int)) fun e1=>(Option.bind (zk k1 (i1:Int)) fun k2=>(Option.bind (s1[k2]?) fun e2=>some (.inl (s1.set k2 (e1 == (-1)))))))) (List.replicate k1 false)) (Sum.elim (fun (s1:(List Bool))=>(Option.bind (eqN k1 s1.length) fun g1=>some s1)) (fun _=>none)))))
noncomputable def zjb (c:Zab) (a:ZaF):Zad (List Bool):=
  .reg 1 (.call 2430 (zbJ c a) fun r1=>.use 2 2430 (.reg 0 (.b1 2432 (mkN 1 (r1.length:Int)) (fun k1=>.m k1 (zb zh (List.replicate k1 false))) (fun k1 hk1=>(xG zh false hk1)) fun k1=>.ln 2442 zc r1 (.us [(1,2442),(2,2432)] (.reg 0 (.ln 2440 zc r1 (.use 1 2440 (.forR (σ:=(List Bool)) (ρ:=Unit) 2428 17 (r1.length:Int) (List.replicate k1 false) (.k [6,15,16] (fun _=>[]) [] (fun s1=>[(9,.rows 1 (zb zh s1))]) 14 fun _=>(.rows rfl .nil)) (fun i1 s1=>.sel 2428 (.reg 0 (.ix 2434 zc r1 (i1:Int) fun e1=>.use 1 2434 (.reg 0 (.b1 2436 (zk k1 (i1:Int)) (fun k2=>.k k2) (fun k2 hk2=>(zs hk2)) fun k2=>.b1 2438 (s1[k2]?) (fun e2=>.aw (zz (zh e2)) (zb zh (s1.set k2 (e1 == (-1))))) (fun e2 he2=>(zZ zh (e1 == (-1)) he2)) fun e2=>.us [(4,2436),(5,2438)] (.ret (.inl (s1.set k2 (e1 == (-1)))))))))) fun os1=>.case os1 (fun s1=>.sel 2428 (.bind (eqN k1 s1.length) (fun _=>[]) (fun _ _=>.nil) fun g2=>.fin [9] (.Zal 9 0 k1) [(9,.rows 1 (zb zh s1))] (.slice (List.map zh s1)) (js _ _ _ (zD (xz zh 9 1 k1 s1 g2.down rfl) jH)) s1)) fun _=>.none))))))))
theorem zjc (c:Zab) (a:ZaF) (res:List Bool) (hd:WN c a=some res):APure C0 138 [.agg (Zab.row c),.agg (ZaF.row a)] (.slice (List.map zh res)):=
  Zad.pure (iv:=fun res=>.slice (List.map zh res)) (zjb c a) (by kernel_rfl) (Zad.run_of hd (by kernel_rfl))
noncomputable def Qf (c:Zab) (Zaa:Int):Option Bool:=
  (Option.bind (ju c Zaa) fun r1=>(Option.bind (bif (r1.2 == 0) then (Option.bind (WN c r1.1) fun r2=>(Option.bind (ze r2 0) fun e1=>some (!e1))) else some false) fun v1=>some v1))
noncomputable def zfV (c:Zab) (Zaa:Int):Zad Bool:=
  .reg 1 (.call 2444 (zbI c Zaa) fun r1=>.use 2 2444 (.cut (β:=Bool) 1 (.e [] (fun v1=>[(4,vB v1)]) [0,8] 22) (.reg 0 (.ite 2426 (r1.2 == 0) (.call 2446 (zjc c r1.1) fun r2=>.ix 2448 zh r2 0 fun e1=>.us [(3,2426),(5,2446),(6,2448)] (.ret (!e1))) (.use 3 2426 (.ret false)))) fun v1=>.ret v1))
theorem zfW (c:Zab) (Zaa:Int) (res:Bool) (hd:Qf c Zaa=some res):APure C0 323 [.agg (Zab.row c),.int .i64 Zaa] (.bool res):=
  Zad.pure (iv:=fun res=>.bool res) (zfV c Zaa) (by kernel_rfl) (Zad.run_of hd (by kernel_rfl))
noncomputable def JQ (c:Zab) (f:Zak):Option Bool:=
  (Option.bind (xr c) fun r1=>(bif (r1.2 == 0) then (bif (f.kind == 2) then (Option.bind (yx r1.1 f.clause) fun r2=>some r2) else (Option.bind (Option.bind (yx r1.1 f.clause) fun r3=>(bif r3 then some false else (Option.bind (vD c r1.1 f.clause) fun r4=>some r4))) fun v1=>some v1)) else some false))
noncomputable def zhw (c:Zab) (f:Zak):Zad Bool:=
  .reg 1 (.call 2466 (zbH c) fun r1=>.use 1 2466 (.ite 2460 (r1.2 == 0) (.sel 2461 (.ite 2462 (f.kind == 2) (.sel 2462 (.reg 0 (.call 2468 (zap r1.1 f.clause) fun r2=>.use 3 2468 (.ret r2)))) (.sel 2462 (.cut (β:=Bool) 1 (.e [] (fun v1=>[(4,vB v1)]) [0,1] 28) (.reg 0 (.call 2470 (zap r1.1 f.clause) fun r3=>.ite 2464 r3 (.us [(3,2470),(6,2465)] (.ret false)) (.call 2472 (zaq c r1.1 f.clause) fun r4=>.us [(3,2470),(6,2465),(10,2472)] (.ret r4)))) fun v1=>.ret v1)))) (.sel 2461 (.ret false))))
theorem zhx (c:Zab) (f:Zak) (res:Bool) (hd:JQ c f=some res):APure C0 325 [.agg (Zab.row c),.agg (Zak.row f)] (.bool res):=
  Zad.pure (iv:=fun res=>.bool res) (zhw c f) (by kernel_rfl) (Zad.run_of hd (by kernel_rfl))
noncomputable def qH (c:Zab) (f:Zak):Option Bool:=
  (Option.bind (qA c) fun r1=>(bif (r1.2 == 0) then (Option.bind (bif decide (0≤f.clause) then (bif decide (f.clause < (c.Zag.length:Int)) then some (f.Zaa == (-1)) else some false) else some false) fun v1=>(bif (f.kind == 1) then (Option.bind (bif decide (0≤f.Zaa) then (bif decide (f.Zaa < c.Zao) then (bif (f.clause == (-1)) then (bif (f.other == (-1)) then (Option.bind (Qe c r1.1 f) fun r2=>(bif r2 then (Option.bind (Qf c f.Zaa) fun r3=>some r3) else some false)) else some false) else some false) else some false) else some false) fun v2=>some v2) else (Option.bind (bif (f.kind == 2) then some (f.kind == 2) else some (f.kind == 3)) fun (v3:Bool)=>(bif v3 then (Option.bind (bif v1 then (bif (f.other == (-1)) then (bif ((f.Zaz.length:Int) == 0) then (Option.bind (JQ c f) fun r4=>some r4) else some false) else some false) else some false) fun v4=>some v4) else (bif (f.kind == 4) then (Option.bind (bif v1 then (bif decide (f.other < 0) then some true else (bif decide ((c.Zag.length:Int)≤f.other) then some true else (Option.bind (xL c f.clause f.other) fun r5=>some (!r5)))) else some true) fun v5=>(bif v5 then some false else (Option.bind (forR (σ:=Int×(List Int)×(List Bool)×(List zw)) (ρ:=Unit) (f.Zaz.length:Int) (fun i1 s1=>(Option.bind (ze f.Zaz (i1:Int)) fun e1=>(Option.bind (d_Step c ({day:=s1.1,Zae:=s1.2.1,used:=s1.2.2.1,Zaj:=s1.2.2.2}:Zac) e1) fun r6=>(bif (r6.2 == 0) then some (.inl (r6.1.day,r6.1.Zae,r6.1.used,r6.1.Zaj)) else some (.inr ()))))) (r1.1.day,r1.1.Zae,r1.1.used,r1.1.Zaj)) (Sum.elim (fun (s1:Int×(List Int)×(List Bool)×(List zw))=>(Option.bind (vE c ({day:=s1.1,Zae:=s1.2.1,used:=s1.2.2.1,Zaj:=s1.2.2.2}:Zac) f.clause f.other) fun r7=>some r7)) (fun (y1:Unit)=>some false))))) else some false))))) else some false))
noncomputable def zhy (c:Zab) (f:Zak):Zad Bool:=
  .reg 1 (.call 2490 (JP c) fun r1=>.use 1 2490 (.ite 2330 (r1.2 == 0) (.sel 2331 (.cut (β:=Bool) 1 (.e [2,3,5] (fun v1=>[(7,vB v1)]) [0,1,8] 30) (.reg 0 (.ite 2332 (decide (0≤f.clause)) (.ite 2334 (decide (f.clause < (c.Zag.length:Int))) (.use 4 2332 (.ln 2492 Zan.row c.Zag (.us [(8,2492),(12,2334)] (.ret (f.Zaa == (-1)))))) (.use 4 2332 (.ln 2494 Zan.row c.Zag (.us [(8,2494),(12,2334)] (.ret false))))) (.use 4 2332 (.f1 2496 (.g false) (rfl:false=false) (.use 12 2496 (.ret false)))))) fun v1=>.ite 2336 (f.kind == 1) (.sel 2336 (.cut (β:=Bool) 1 (.e [] (fun v2=>[(4,vB v2)]) [0,1,8] 67) (.reg 0 (.ite 2338 (decide (0≤f.Zaa)) (.ite 2340 (decide (f.Zaa < c.Zao)) (.ite 2342 (f.clause == (-1)) (.ite 2344 (f.other == (-1)) (.call 2498 (zfU c r1.1 f) fun r2=>.ite 2424 r2 (.call 2500 (zfW c f.Zaa) fun r3=>.us [(4,2338),(11,2340),(16,2342),(21,2344),(24,2498),(27,2424),(30,2500)] (.ret r3)) (.us [(4,2338),(11,2340),(16,2342),(21,2344),(24,2498),(27,2424)] (.ret false))) (.us [(4,2338),(11,2340),(16,2342),(21,2344)] (.f1 2502 (.g false) (rfl:false=false) (.use 27 2502 (.ret false))))) (.us [(4,2338),(11,2340),(16,2342)] (.f1 2506 (.g false) (rfl:false=false) (.use 21 2506 (.f1 2504 (.g false) (rfl:false=false) (.use 27 2504 (.ret false))))))) (.us [(4,2338),(11,2340)] (.f1 2512 (.g false) (rfl:false=false) (.use 16 2512 (.f1 2510 (.g false) (rfl:false=false) (.use 21 2510 (.f1 2508 (.g false) (rfl:false=false) (.use 27 2508 (.ret false))))))))) (.use 4 2338 (.f1 2520 (.g false) (rfl:false=false) (.use 11 2520 (.f1 2518 (.g false) (rfl:false=false) (.use 16 2518 (.f1 2516 (.g false) (rfl:false=false) (.use 21 2516 (.f1 2514 (.g false) (rfl:false=false) (.use 27 2514 (.ret false)))))))))))) fun v2=>.ret v2)) (.sel 2336 (.cut (β:=Bool) 1 (.e [2,3,5,7,35] (fun v3=>[(70,vB v3)]) [0,1,8] 36) (.ite 2450 (f.kind == 2) (.sel 2450 (.ret (f.kind == 2))) (.sel 2450 (.ret (f.kind == 3)))) fun v3=>.ite 2452 v3 (.sel 2452 (.cut (β:=Bool) 1 (.e [] (fun v4=>[(4,vB v4)]) [0,1,8] 54) (.reg 0 (.ite 2454 v1 (.ite 2456 (f.other == (-1)) (.ite 2458 ((f.Zaz.length:Int) == 0) (.call 2522 (zhx c f) fun r4=>.us [(2,2454),(7,2456)] (.ln 2524 zc f.Zaz (.us [(9,2524),(13,2458),(15,2522)] (.ret r4)))) (.us [(2,2454),(7,2456)] (.ln 2526 zc f.Zaz (.us [(9,2526),(13,2458)] (.ret false))))) (.us [(2,2454),(7,2456)] (.f1 2528 (.g false) (rfl:false=false) (.use 13 2528 (.ret false))))) (.use 2 2454 (.f1 2532 (.g false) (rfl:false=false) (.use 7 2532 (.f1 2530 (.g false) (rfl:false=false) (.use 13 2530 (.ret false)))))))) fun v4=>.ret v4)) (.sel 2452 (.ite 2474 (f.kind == 4) (.sel 2474 (.cut (β:=Bool) 2 (.e [2,3,5] (fun v5=>[(115,vB v5)]) [0,1,8] 62) (.reg 0 (.ite 2476 v1 (.ite 2478 (decide (f.other < 0)) (.us [(3,2477),(8,2478)] (.f1 2534 (.g true) (rfl:true=true) (.use 16 2534 (.ret true)))) (.ite 2480 (decide ((c.Zag.length:Int)≤f.other)) (.us [(3,2477),(8,2478)] (.ln 2536 Zan.row c.Zag (.us [(12,2536),(16,2480)] (.ret true)))) (.call 2538 (Yo c f.clause f.other) fun r5=>.us [(3,2477),(8,2478)] (.ln 2540 Zan.row c.Zag (.us [(12,2540),(16,2480),(21,2538)] (.ret (!r5))))))) (.use 3 2477 (.f1 2544 (.g true) (rfl:true=true) (.use 8 2544 (.f1 2542 (.g true) (rfl:true=true) (.use 16 2542 (.ret true)))))))) fun v5=>.ite 2482 v5 (.sel 2482 (.ret false)) (.sel 2482 (.reg 1 (.ln 2552 zc f.Zaz (.use 2 2552 (.forR (σ:=Int×(List Int)×(List Bool)×(List zw)) (ρ:=Unit) 2484 120 (f.Zaz.length:Int) (r1.1.day,r1.1.Zae,r1.1.used,r1.1.Zaj) (.k [2,3,8,118,119] (fun _=>[]) [0,1] (fun s1=>[(63,.rows 4 [[vI s1.1,.imm (.slice (List.map zc s1.2.1)),.imm (.slice (List.map zh s1.2.2.1)),.imm (.slice (List.map zw.row s1.2.2.2))]])]) 69 fun _=>(.exp rfl rfl .nil)) (fun i1 s1=>.sel 2484 (.reg 0 (.ix 2546 zc f.Zaz (i1:Int) fun e1=>.use 0 2546 (.reg 0 (.call 2548 (yu c ({day:=s1.1,Zae:=s1.2.1,used:=s1.2.2.1,Zaj:=s1.2.2.2}:Zac) e1) fun r6=>.use 3 2548 (.ite 2488 (r6.2 == 0) (.sel 2489 (.ret (.inl (r6.1.day,r6.1.Zae,r6.1.used,r6.1.Zaj)))) (.sel 2489 (.ret (.inr ()))))))))) fun os1=>.case os1 (fun s1=>.sel 2484 (.reg 0 (.call 2550 (zbK c ({day:=s1.1,Zae:=s1.2.1,used:=s1.2.2.1,Zaj:=s1.2.2.2}:Zac) f.clause f.other) fun r7=>.use 6 2550 (.ret r7)))) fun y1=>.ret false))))))) (.sel 2474 (.ret false)))))))) (.sel 2331 (.ret false))))
theorem yR (c:Zab) (f:Zak) (res:Bool) (hd:qH c f=some res):APure C0 322 [.agg (Zab.row c),.agg (Zak.row f)] (.bool res):=
  Zad.pure (iv:=fun res=>.bool res) (zhy c f) (by kernel_rfl) (Zad.run_of hd (by kernel_rfl))
noncomputable def kq  : Option Bool:=
  (Option.bind (xZ 3) fun r1=>(Option.bind (xZ 1) fun r2=>(Option.bind (xZ 3) fun r3=>(Option.bind (jU ({Zao:=1,Zae:=[0],Zav:=[],Zai:=[({kind:=1,Zap:=0,give:=0,to:=(-1),unit:=(-1),lot:=({num:=0,den:=1}:Ratio)}:Zaq)],Zag:=[({kind:=1,Zap:=0,act:=0,need:=1,start:=[],after:=2,Zay:=0,ZaE:=false,final:=true,pause:=(-1),ZaC:=(-1),value:=({num:=0,den:=1}:Ratio),unit:=(-1),to:=(-1),ZaB:=false}:Zan),({kind:=2,Zap:=0,act:=0,need:=1,start:=[],after:=3,Zay:=0,ZaE:=false,final:=true,pause:=(-1),ZaC:=(-1),value:=({num:=0,den:=1}:Ratio),unit:=(-1),to:=(-1),ZaB:=false}:Zan)],Zat:=5,off:=[]}:Zab)) fun r4=>(Option.bind (jU ({Zao:=1,Zae:=[0],Zav:=[],Zai:=[({kind:=1,Zap:=0,give:=0,to:=(-1),unit:=(-1),lot:=({num:=0,den:=1}:Ratio)}:Zaq)],Zag:=[({kind:=1,Zap:=0,act:=0,need:=1,start:=[],after:=2,Zay:=0,ZaE:=false,final:=true,pause:=(-1),ZaC:=(-1),value:=({num:=0,den:=1}:Ratio),unit:=(-1),to:=(-1),ZaB:=false}:Zan),({kind:=2,Zap:=0,act:=0,need:=1,start:=[],after:=1,Zay:=0,ZaE:=false,final:=true,pause:=(-1),ZaC:=(-1),value:=({num:=0,den:=1}:Ratio),unit:=(-1),to:=(-1),ZaB:=false}:Zan)],Zat:=5,off:=[]}:Zab)) fun r5=>(Option.bind (jU ({Zao:=1,Zae:=[0],Zav:=[],Zai:=[({kind:=1,Zap:=0,give:=0,to:=(-1),unit:=(-1),lot:=({num:=0,den:=1}:Ratio)}:Zaq)],Zag:=[({kind:=1,Zap:=0,act:=0,need:=1,start:=[],after:=2,Zay:=0,ZaE:=false,final:=true,pause:=(-1),ZaC:=(-1),value:=({num:=0,den:=1}:Ratio),unit:=(-1),to:=(-1),ZaB:=false}:Zan),({kind:=2,Zap:=0,act:=0,need:=1,start:=[({clause:=0,is:=4}:CondT)],after:=3,Zay:=0,ZaE:=false,final:=true,pause:=(-1),ZaC:=(-1),value:=({num:=0,den:=1}:Ratio),unit:=(-1),to:=(-1),ZaB:=false}:Zan)],Zat:=5,off:=[]}:Zab)) fun r6=>(Option.bind (bif (r4.2 == 0) then (Option.bind (vF r4.1 ([({kind:=1,Zaa:=0,clause:=(-1),other:=(-1),Zaz:=[(-1),(-1)]}:Zak),({kind:=4,Zaa:=(-1),clause:=0,other:=1,Zaz:=[]}:Zak)])) fun r7=>(bif r7 then (bif (r5.2 == 0) then (bif ((r5.1.length:Int) == 0) then (bif (r6.2 == 0) then (Option.bind (vF r6.1 ([({kind:=2,Zaa:=(-1),clause:=1,other:=(-1),Zaz:=[]}:Zak)])) fun r8=>some r8) else some false) else some false) else some false) else some false)) else some false) fun v1=>(Option.bind (bif v1 then (Option.bind (qH ({Zao:=1,Zae:=[0],Zav:=[],Zai:=[({kind:=1,Zap:=0,give:=0,to:=(-1),unit:=(-1),lot:=({num:=0,den:=1}:Ratio)}:Zaq)],Zag:=[({kind:=1,Zap:=0,act:=0,need:=1,start:=[],after:=2,Zay:=0,ZaE:=false,final:=true,pause:=(-1),ZaC:=(-1),value:=({num:=0,den:=1}:Ratio),unit:=(-1),to:=(-1),ZaB:=false}:Zan),({kind:=2,Zap:=0,act:=0,need:=1,start:=[],after:=3,Zay:=0,ZaE:=false,final:=true,pause:=(-1),ZaC:=(-1),value:=({num:=0,den:=1}:Ratio),unit:=(-1),to:=(-1),ZaB:=false}:Zan)],Zat:=5,off:=[]}:Zab) ({kind:=1,Zaa:=0,clause:=(-1),other:=(-1),Zaz:=[(-1),(-1)]}:Zak)) fun r9=>(bif r9 then (Option.bind (qH ({Zao:=1,Zae:=[0],Zav:=[],Zai:=[({kind:=1,Zap:=0,give:=0,to:=(-1),unit:=(-1),lot:=({num:=0,den:=1}:Ratio)}:Zaq)],Zag:=[({kind:=1,Zap:=0,act:=0,need:=1,start:=[],after:=2,Zay:=0,ZaE:=false,final:=true,pause:=(-1),ZaC:=(-1),value:=({num:=0,den:=1}:Ratio),unit:=(-1),to:=(-1),ZaB:=false}:Zan),({kind:=2,Zap:=0,act:=0,need:=1,start:=[],after:=3,Zay:=0,ZaE:=false,final:=true,pause:=(-1),ZaC:=(-1),value:=({num:=0,den:=1}:Ratio),unit:=(-1),to:=(-1),ZaB:=false}:Zan)],Zat:=5,off:=[]}:Zab) ({kind:=4,Zaa:=(-1),clause:=0,other:=1,Zaz:=[]}:Zak)) fun r10=>(bif r10 then (Option.bind (qH ({Zao:=1,Zae:=[0],Zav:=[],Zai:=[({kind:=1,Zap:=0,give:=0,to:=(-1),unit:=(-1),lot:=({num:=0,den:=1}:Ratio)}:Zaq)],Zag:=[({kind:=1,Zap:=0,act:=0,need:=1,start:=[],after:=2,Zay:=0,ZaE:=false,final:=true,pause:=(-1),ZaC:=(-1),value:=({num:=0,den:=1}:Ratio),unit:=(-1),to:=(-1),ZaB:=false}:Zan),({kind:=2,Zap:=0,act:=0,need:=1,start:=[({clause:=0,is:=4}:CondT)],after:=3,Zay:=0,ZaE:=false,final:=true,pause:=(-1),ZaC:=(-1),value:=({num:=0,den:=1}:Ratio),unit:=(-1),to:=(-1),ZaB:=false}:Zan)],Zat:=5,off:=[]}:Zab) ({kind:=2,Zaa:=(-1),clause:=1,other:=(-1),Zaz:=[]}:Zak)) fun r11=>(bif r11 then (Option.bind (qH ({Zao:=1,Zae:=[0],Zav:=[],Zai:=[({kind:=1,Zap:=0,give:=0,to:=(-1),unit:=(-1),lot:=({num:=0,den:=1}:Ratio)}:Zaq)],Zag:=[({kind:=1,Zap:=0,act:=0,need:=1,start:=[],after:=2,Zay:=0,ZaE:=false,final:=true,pause:=(-1),ZaC:=(-1),value:=({num:=0,den:=1}:Ratio),unit:=(-1),to:=(-1),ZaB:=false}:Zan),({kind:=2,Zap:=0,act:=0,need:=1,start:=[],after:=1,Zay:=0,ZaE:=false,final:=true,pause:=(-1),ZaC:=(-1),value:=({num:=0,den:=1}:Ratio),unit:=(-1),to:=(-1),ZaB:=false}:Zan)],Zat:=5,off:=[]}:Zab) ({kind:=1,Zaa:=0,clause:=(-1),other:=(-1),Zaz:=[(-1),(-1)]}:Zak)) fun r12=>(bif r12 then some false else (Option.bind (qH ({Zao:=1,Zae:=[0],Zav:=[],Zai:=[({kind:=1,Zap:=0,give:=0,to:=(-1),unit:=(-1),lot:=({num:=0,den:=1}:Ratio)}:Zaq)],Zag:=[({kind:=1,Zap:=0,act:=0,need:=1,start:=[],after:=2,Zay:=0,ZaE:=false,final:=true,pause:=(-1),ZaC:=(-1),value:=({num:=0,den:=1}:Ratio),unit:=(-1),to:=(-1),ZaB:=false}:Zan),({kind:=2,Zap:=0,act:=0,need:=1,start:=[],after:=1,Zay:=0,ZaE:=false,final:=true,pause:=(-1),ZaC:=(-1),value:=({num:=0,den:=1}:Ratio),unit:=(-1),to:=(-1),ZaB:=false}:Zan)],Zat:=5,off:=[]}:Zab) ({kind:=4,Zaa:=(-1),clause:=0,other:=1,Zaz:=[]}:Zak)) fun r13=>(bif r13 then some false else (Option.bind (qH ({Zao:=1,Zae:=[0],Zav:=[],Zai:=[({kind:=1,Zap:=0,give:=0,to:=(-1),unit:=(-1),lot:=({num:=0,den:=1}:Ratio)}:Zaq)],Zag:=[({kind:=1,Zap:=0,act:=0,need:=1,start:=[],after:=2,Zay:=0,ZaE:=false,final:=true,pause:=(-1),ZaC:=(-1),value:=({num:=0,den:=1}:Ratio),unit:=(-1),to:=(-1),ZaB:=false}:Zan),({kind:=2,Zap:=0,act:=0,need:=1,start:=[],after:=3,Zay:=0,ZaE:=false,final:=true,pause:=(-1),ZaC:=(-1),value:=({num:=0,den:=1}:Ratio),unit:=(-1),to:=(-1),ZaB:=false}:Zan)],Zat:=5,off:=[]}:Zab) ({kind:=2,Zaa:=(-1),clause:=1,other:=(-1),Zaz:=[]}:Zak)) fun r14=>some (!r14)))))) else some false)) else some false)) else some false)) else some false) fun v2=>some v2))))))))
noncomputable def zfX  : Zad Bool:=
  .reg 1 (.b1 2564 (xZ 3) (fun r1=>.c [] 0 (.agg [vI 1,.Zal 21 0 1,.nil,.Zal 23 0 1,.Zal 26 0 2,vI 5,.nil]) [(21,.rows 1 [[vI 0]]),(23,.rows 7 [[vI 1,vI 0,vI 0,vI (-1),vI (-1),vI 0,vI 1]]),(26,.rows 16 [[vI 1,vI 0,vI 0,vI 1,.nil,vI 2,vI 0,vB false,vB true,vI (-1),vI (-1),vI 0,vI 1,vI (-1),vI (-1),vB false],[vI 2,vI 0,vI 0,vI 1,.nil,vI 3,vI 0,vB false,vB true,vI (-1),vI (-1),vI 0,vI 1,vI (-1),vI (-1),vB false]])] 26) (fun r1 hr1=>(zi (zaj 3 r1 hr1) [] 1 (.keep (.keep (.keep .nil))) rhN (rhR (rhR (rhR rhN))))) fun r1=>.b1 2566 (xZ 1) (fun r2=>.c [] 0 (.agg [vI 1,.Zal 48 0 1,.nil,.Zal 50 0 1,.Zal 53 0 2,vI 5,.nil]) [(48,.rows 1 [[vI 0]]),(50,.rows 7 [[vI 1,vI 0,vI 0,vI (-1),vI (-1),vI 0,vI 1]]),(53,.rows 16 [[vI 1,vI 0,vI 0,vI 1,.nil,vI 2,vI 0,vB false,vB true,vI (-1),vI (-1),vI 0,vI 1,vI (-1),vI (-1),vB false],[vI 2,vI 0,vI 0,vI 1,.nil,vI 1,vI 0,vB false,vB true,vI (-1),vI (-1),vI 0,vI 1,vI (-1),vI (-1),vB false]])] 26) (fun r2 hr2=>(zi (zaj 1 r2 hr2) [] 28 (.keep (.keep (.keep .nil))) rhN (rhR (rhR (rhR rhN))))) fun r2=>.b1 2568 (xZ 3) (fun r3=>.c [] 0 (.agg [vI 1,.Zal 75 0 1,.nil,.Zal 77 0 1,.Zal 80 0 2,vI 5,.nil]) [(75,.rows 1 [[vI 0]]),(77,.rows 7 [[vI 1,vI 0,vI 0,vI (-1),vI (-1),vI 0,vI 1]]),(80,.rows 16 [[vI 1,vI 0,vI 0,vI 1,.nil,vI 2,vI 0,vB false,vB true,vI (-1),vI (-1),vI 0,vI 1,vI (-1),vI (-1),vB false],[vI 2,vI 0,vI 0,vI 1,.nil,vI 3,vI 0,vB false,vB true,vI (-1),vI (-1),vI 0,vI 1,vI (-1),vI (-1),vB false]])] 26) (fun r3 hr3=>(zi (zaj 3 r3 hr3) [] 55 (.keep (.keep (.keep .nil))) rhN (rhR (rhR (rhR rhN))))) fun r3=>.us [(0,2564),(1,2566),(2,2568)] (.weak 2 [vY 21 1 [82] zc [0],vY 23 7 [82] Zaq.row [({kind:=1,Zap:=0,give:=0,to:=(-1),unit:=(-1),lot:=({num:=0,den:=1}:Ratio)}:Zaq)],zcu 26 16 [[vI 1,vI 0,vI 0,vI 1,.nil,vI 2,vI 0,vB false,vB true,vI (-1),vI (-1),vI 0,vI 1,vI (-1),vI (-1),vB false],[vI 2,vI 0,vI 0,vI 1,.nil,vI 3,vI 0,vB false,vB true,vI (-1),vI (-1),vI 0,vI 1,vI (-1),vI (-1),vB false]] [[vI 1,vI 0,vI 0,vI 1,.imm (.slice (List.map CondT.row [])),vI 2,vI 0,vB false,vB true,vI (-1),vI (-1),vI 0,vI 1,vI (-1),vI (-1),vB false],[vI 2,vI 0,vI 0,vI 1,.imm (.slice (List.map CondT.row [])),vI 3,vI 0,vB false,vB true,vI (-1),vI (-1),vI 0,vI 1,vI (-1),vI (-1),vB false]] (.cons (.cons (.refl _) (.cons (.refl _) (.cons (.refl _) (.cons (.refl _) (.cons .nil (.cons (.refl _) (.cons (.refl _) (.cons (.refl _) (.cons (.refl _) (.cons (.refl _) (.cons (.refl _) (.cons (.refl _) (.cons (.refl _) (.cons (.refl _) (.cons (.refl _) (.cons (.refl _) .nil)))))))))))))))) (.cons (.cons (.refl _) (.cons (.refl _) (.cons (.refl _) (.cons (.refl _) (.cons .nil (.cons (.refl _) (.cons (.refl _) (.cons (.refl _) (.cons (.refl _) (.cons (.refl _) (.cons (.refl _) (.cons (.refl _) (.cons (.refl _) (.cons (.refl _) (.cons (.refl _) (.cons (.refl _) .nil)))))))))))))))) .nil)),vY 26 16 [82] Zan.row ([({kind:=1,Zap:=0,act:=0,need:=1,start:=[],after:=2,Zay:=0,ZaE:=false,final:=true,pause:=(-1),ZaC:=(-1),value:=({num:=0,den:=1}:Ratio),unit:=(-1),to:=(-1),ZaB:=false}:Zan),({kind:=2,Zap:=0,act:=0,need:=1,start:=[],after:=3,Zay:=0,ZaE:=false,final:=true,pause:=(-1),ZaC:=(-1),value:=({num:=0,den:=1}:Ratio),unit:=(-1),to:=(-1),ZaB:=false}:Zan)])] (.reg 0 (.call 2570 (WM ({Zao:=1,Zae:=[0],Zav:=[],Zai:=[({kind:=1,Zap:=0,give:=0,to:=(-1),unit:=(-1),lot:=({num:=0,den:=1}:Ratio)}:Zaq)],Zag:=[({kind:=1,Zap:=0,act:=0,need:=1,start:=[],after:=2,Zay:=0,ZaE:=false,final:=true,pause:=(-1),ZaC:=(-1),value:=({num:=0,den:=1}:Ratio),unit:=(-1),to:=(-1),ZaB:=false}:Zan),({kind:=2,Zap:=0,act:=0,need:=1,start:=[],after:=3,Zay:=0,ZaE:=false,final:=true,pause:=(-1),ZaC:=(-1),value:=({num:=0,den:=1}:Ratio),unit:=(-1),to:=(-1),ZaB:=false}:Zan)],Zat:=5,off:=[]}:Zab)) fun r4=>.use 1 2570 (.weak 1 [vY 48 1 [83] zc [0],vY 50 7 [83] Zaq.row [({kind:=1,Zap:=0,give:=0,to:=(-1),unit:=(-1),lot:=({num:=0,den:=1}:Ratio)}:Zaq)],zcu 53 16 [[vI 1,vI 0,vI 0,vI 1,.nil,vI 2,vI 0,vB false,vB true,vI (-1),vI (-1),vI 0,vI 1,vI (-1),vI (-1),vB false],[vI 2,vI 0,vI 0,vI 1,.nil,vI 1,vI 0,vB false,vB true,vI (-1),vI (-1),vI 0,vI 1,vI (-1),vI (-1),vB false]] [[vI 1,vI 0,vI 0,vI 1,.imm (.slice (List.map CondT.row [])),vI 2,vI 0,vB false,vB true,vI (-1),vI (-1),vI 0,vI 1,vI (-1),vI (-1),vB false],[vI 2,vI 0,vI 0,vI 1,.imm (.slice (List.map CondT.row [])),vI 1,vI 0,vB false,vB true,vI (-1),vI (-1),vI 0,vI 1,vI (-1),vI (-1),vB false]] (.cons (.cons (.refl _) (.cons (.refl _) (.cons (.refl _) (.cons (.refl _) (.cons .nil (.cons (.refl _) (.cons (.refl _) (.cons (.refl _) (.cons (.refl _) (.cons (.refl _) (.cons (.refl _) (.cons (.refl _) (.cons (.refl _) (.cons (.refl _) (.cons (.refl _) (.cons (.refl _) .nil)))))))))))))))) (.cons (.cons (.refl _) (.cons (.refl _) (.cons (.refl _) (.cons (.refl _) (.cons .nil (.cons (.refl _) (.cons (.refl _) (.cons (.refl _) (.cons (.refl _) (.cons (.refl _) (.cons (.refl _) (.cons (.refl _) (.cons (.refl _) (.cons (.refl _) (.cons (.refl _) (.cons (.refl _) .nil)))))))))))))))) .nil)),vY 53 16 [83] Zan.row ([({kind:=1,Zap:=0,act:=0,need:=1,start:=[],after:=2,Zay:=0,ZaE:=false,final:=true,pause:=(-1),ZaC:=(-1),value:=({num:=0,den:=1}:Ratio),unit:=(-1),to:=(-1),ZaB:=false}:Zan),({kind:=2,Zap:=0,act:=0,need:=1,start:=[],after:=1,Zay:=0,ZaE:=false,final:=true,pause:=(-1),ZaC:=(-1),value:=({num:=0,den:=1}:Ratio),unit:=(-1),to:=(-1),ZaB:=false}:Zan)])] (.reg 0 (.call 2572 (WM ({Zao:=1,Zae:=[0],Zav:=[],Zai:=[({kind:=1,Zap:=0,give:=0,to:=(-1),unit:=(-1),lot:=({num:=0,den:=1}:Ratio)}:Zaq)],Zag:=[({kind:=1,Zap:=0,act:=0,need:=1,start:=[],after:=2,Zay:=0,ZaE:=false,final:=true,pause:=(-1),ZaC:=(-1),value:=({num:=0,den:=1}:Ratio),unit:=(-1),to:=(-1),ZaB:=false}:Zan),({kind:=2,Zap:=0,act:=0,need:=1,start:=[],after:=1,Zay:=0,ZaE:=false,final:=true,pause:=(-1),ZaC:=(-1),value:=({num:=0,den:=1}:Ratio),unit:=(-1),to:=(-1),ZaB:=false}:Zan)],Zat:=5,off:=[]}:Zab)) fun r5=>.use 1 2572 (.weak 1 [vY 75 1 [84] zc [0],vY 77 7 [84] Zaq.row [({kind:=1,Zap:=0,give:=0,to:=(-1),unit:=(-1),lot:=({num:=0,den:=1}:Ratio)}:Zaq)],vY 91 2 [80] CondT.row [({clause:=0,is:=4}:CondT)],zcu 80 16 [[vI 1,vI 0,vI 0,vI 1,.nil,vI 2,vI 0,vB false,vB true,vI (-1),vI (-1),vI 0,vI 1,vI (-1),vI (-1),vB false],[vI 2,vI 0,vI 0,vI 1,.imm (.slice (List.map CondT.row [({clause:=0,is:=4}:CondT)])),vI 3,vI 0,vB false,vB true,vI (-1),vI (-1),vI 0,vI 1,vI (-1),vI (-1),vB false]] [[vI 1,vI 0,vI 0,vI 1,.imm (.slice (List.map CondT.row [])),vI 2,vI 0,vB false,vB true,vI (-1),vI (-1),vI 0,vI 1,vI (-1),vI (-1),vB false],[vI 2,vI 0,vI 0,vI 1,.imm (.slice (List.map CondT.row [({clause:=0,is:=4}:CondT)])),vI 3,vI 0,vB false,vB true,vI (-1),vI (-1),vI 0,vI 1,vI (-1),vI (-1),vB false]] (.cons (.cons (.refl _) (.cons (.refl _) (.cons (.refl _) (.cons (.refl _) (.cons .nil (.cons (.refl _) (.cons (.refl _) (.cons (.refl _) (.cons (.refl _) (.cons (.refl _) (.cons (.refl _) (.cons (.refl _) (.cons (.refl _) (.cons (.refl _) (.cons (.refl _) (.cons (.refl _) .nil)))))))))))))))) (.cons (.cons (.refl _) (.cons (.refl _) (.cons (.refl _) (.cons (.refl _) (.cons (.refl _) (.cons (.refl _) (.cons (.refl _) (.cons (.refl _) (.cons (.refl _) (.cons (.refl _) (.cons (.refl _) (.cons (.refl _) (.cons (.refl _) (.cons (.refl _) (.cons (.refl _) (.cons (.refl _) .nil)))))))))))))))) .nil)),vY 80 16 [84] Zan.row ([({kind:=1,Zap:=0,act:=0,need:=1,start:=[],after:=2,Zay:=0,ZaE:=false,final:=true,pause:=(-1),ZaC:=(-1),value:=({num:=0,den:=1}:Ratio),unit:=(-1),to:=(-1),ZaB:=false}:Zan),({kind:=2,Zap:=0,act:=0,need:=1,start:=[({clause:=0,is:=4}:CondT)],after:=3,Zay:=0,ZaE:=false,final:=true,pause:=(-1),ZaC:=(-1),value:=({num:=0,den:=1}:Ratio),unit:=(-1),to:=(-1),ZaB:=false}:Zan)])] (.reg 0 (.call 2574 (WM ({Zao:=1,Zae:=[0],Zav:=[],Zai:=[({kind:=1,Zap:=0,give:=0,to:=(-1),unit:=(-1),lot:=({num:=0,den:=1}:Ratio)}:Zaq)],Zag:=[({kind:=1,Zap:=0,act:=0,need:=1,start:=[],after:=2,Zay:=0,ZaE:=false,final:=true,pause:=(-1),ZaC:=(-1),value:=({num:=0,den:=1}:Ratio),unit:=(-1),to:=(-1),ZaB:=false}:Zan),({kind:=2,Zap:=0,act:=0,need:=1,start:=[({clause:=0,is:=4}:CondT)],after:=3,Zay:=0,ZaE:=false,final:=true,pause:=(-1),ZaC:=(-1),value:=({num:=0,den:=1}:Ratio),unit:=(-1),to:=(-1),ZaB:=false}:Zan)],Zat:=5,off:=[]}:Zab)) fun r6=>.use 1 2574 (.cut (β:=Bool) 4 (.e [1,2,3,10,11,12] (fun v1=>[(13,vB v1)]) [82,83,84,116,118,121,124] 155) (.reg 0 (.ite 2258 (r4.2 == 0) (.bind (vF r4.1 ([({kind:=1,Zaa:=0,clause:=(-1),other:=(-1),Zaz:=[(-1),(-1)]}:Zak),({kind:=4,Zaa:=(-1),clause:=0,other:=1,Zaz:=[]}:Zak)])) (fun r7=>[(2576,([.w [132,116] [.slice (List.map Zak.row r4.1),.slice (List.map Zak.row ([({kind:=1,Zaa:=0,clause:=(-1),other:=(-1),Zaz:=[(-1),(-1)]}:Zak),({kind:=4,Zaa:=(-1),clause:=0,other:=1,Zaz:=[]}:Zak)]))] (.bool r7)],_))]) (fun r7 hr7=>(.c2 (zbL r4.1 ([({kind:=1,Zaa:=0,clause:=(-1),other:=(-1),Zaz:=[(-1),(-1)]}:Zak),({kind:=4,Zaa:=(-1),clause:=0,other:=1,Zaz:=[]}:Zak)]) r7 hr7) (js [.imm (.slice (List.map Zak.row r4.1)),.Zal 132 0 2] [(132,.rows 5 [[vI 1,vI 0,vI (-1),vI (-1),.Zal 116 0 2],[vI 4,vI (-1),vI 0,vI 1,.nil]]),(116,.rows 1 [[vI (-1)],[vI (-1)]])] [.slice (List.map Zak.row r4.1),.slice (List.map Zak.row ([({kind:=1,Zaa:=0,clause:=(-1),other:=(-1),Zaz:=[(-1),(-1)]}:Zak),({kind:=4,Zaa:=(-1),clause:=0,other:=1,Zaz:=[]}:Zak)]))] (by kernel_rfl)) .nil)) fun r7=>.ite 2320 r7 (.ite 2322 (r5.2 == 0) (.ite 2324 ((r5.1.length:Int) == 0) (.ite 2326 (r6.2 == 0) (.bind (vF r6.1 ([({kind:=2,Zaa:=(-1),clause:=1,other:=(-1),Zaz:=[]}:Zak)])) (fun r8=>[(2578,([.w [151] [.slice (List.map Zak.row r6.1),.slice (List.map Zak.row ([({kind:=2,Zaa:=(-1),clause:=1,other:=(-1),Zaz:=[]}:Zak)]))] (.bool r8)],_))]) (fun r8 hr8=>(.c2 (zbL r6.1 ([({kind:=2,Zaa:=(-1),clause:=1,other:=(-1),Zaz:=[]}:Zak)]) r8 hr8) (js [.imm (.slice (List.map Zak.row r6.1)),.Zal 151 0 1] [(151,.rows 5 [[vI 2,vI (-1),vI 1,vI (-1),.nil]])] [.slice (List.map Zak.row r6.1),.slice (List.map Zak.row ([({kind:=2,Zaa:=(-1),clause:=1,other:=(-1),Zaz:=[]}:Zak)]))] (by kernel_rfl)) .nil)) fun r8=>.us [(3,2258),(7,2576),(10,2320),(14,2322)] (.ln 2580 Zak.row r5.1 (.us [(15,2580),(19,2324),(23,2326),(26,2578)] (.ret r8)))) (.us [(3,2258),(7,2576),(10,2320),(14,2322)] (.ln 2582 Zak.row r5.1 (.us [(15,2582),(19,2324),(23,2326)] (.ret false))))) (.us [(3,2258),(7,2576),(10,2320),(14,2322)] (.ln 2586 Zak.row r5.1 (.us [(15,2586),(19,2324)] (.f1 2584 (.g false) (rfl:false=false) (.use 23 2584 (.ret false))))))) (.us [(3,2258),(7,2576),(10,2320),(14,2322)] (.f1 2590 (.g false) (rfl:false=false) (.use 19 2590 (.f1 2588 (.g false) (rfl:false=false) (.use 23 2588 (.ret false))))))) (.us [(3,2258),(7,2576),(10,2320)] (.f1 2596 (.g false) (rfl:false=false) (.use 14 2596 (.f1 2594 (.g false) (rfl:false=false) (.use 19 2594 (.f1 2592 (.g false) (rfl:false=false) (.use 23 2592 (.ret false))))))))) (.use 3 2258 (.f1 2604 (.g false) (rfl:false=false) (.use 10 2604 (.f1 2602 (.g false) (rfl:false=false) (.use 14 2602 (.f1 2600 (.g false) (rfl:false=false) (.use 19 2600 (.f1 2598 (.g false) (rfl:false=false) (.use 23 2598 (.ret false)))))))))))) fun v1=>.cut (β:=Bool) 1 (.e [] (fun v2=>[(0,vB v2)]) [82,83,84,116,118,121,124] 190) (.reg 0 (.ite 2328 v1 (.bind (qH ({Zao:=1,Zae:=[0],Zav:=[],Zai:=[({kind:=1,Zap:=0,give:=0,to:=(-1),unit:=(-1),lot:=({num:=0,den:=1}:Ratio)}:Zaq)],Zag:=[({kind:=1,Zap:=0,act:=0,need:=1,start:=[],after:=2,Zay:=0,ZaE:=false,final:=true,pause:=(-1),ZaC:=(-1),value:=({num:=0,den:=1}:Ratio),unit:=(-1),to:=(-1),ZaB:=false}:Zan),({kind:=2,Zap:=0,act:=0,need:=1,start:=[],after:=3,Zay:=0,ZaE:=false,final:=true,pause:=(-1),ZaC:=(-1),value:=({num:=0,den:=1}:Ratio),unit:=(-1),to:=(-1),ZaB:=false}:Zan)],Zat:=5,off:=[]}:Zab) ({kind:=1,Zaa:=0,clause:=(-1),other:=(-1),Zaz:=[(-1),(-1)]}:Zak)) (fun r9=>[(2606,([.w [116] [.agg (Zab.row ({Zao:=1,Zae:=[0],Zav:=[],Zai:=[({kind:=1,Zap:=0,give:=0,to:=(-1),unit:=(-1),lot:=({num:=0,den:=1}:Ratio)}:Zaq)],Zag:=[({kind:=1,Zap:=0,act:=0,need:=1,start:=[],after:=2,Zay:=0,ZaE:=false,final:=true,pause:=(-1),ZaC:=(-1),value:=({num:=0,den:=1}:Ratio),unit:=(-1),to:=(-1),ZaB:=false}:Zan),({kind:=2,Zap:=0,act:=0,need:=1,start:=[],after:=3,Zay:=0,ZaE:=false,final:=true,pause:=(-1),ZaC:=(-1),value:=({num:=0,den:=1}:Ratio),unit:=(-1),to:=(-1),ZaB:=false}:Zan)],Zat:=5,off:=[]}:Zab)),.agg (Zak.row ({kind:=1,Zaa:=0,clause:=(-1),other:=(-1),Zaz:=[(-1),(-1)]}:Zak))] (.bool r9)],_))]) (fun r9 hr9=>(.c2 (yR ({Zao:=1,Zae:=[0],Zav:=[],Zai:=[({kind:=1,Zap:=0,give:=0,to:=(-1),unit:=(-1),lot:=({num:=0,den:=1}:Ratio)}:Zaq)],Zag:=[({kind:=1,Zap:=0,act:=0,need:=1,start:=[],after:=2,Zay:=0,ZaE:=false,final:=true,pause:=(-1),ZaC:=(-1),value:=({num:=0,den:=1}:Ratio),unit:=(-1),to:=(-1),ZaB:=false}:Zan),({kind:=2,Zap:=0,act:=0,need:=1,start:=[],after:=3,Zay:=0,ZaE:=false,final:=true,pause:=(-1),ZaC:=(-1),value:=({num:=0,den:=1}:Ratio),unit:=(-1),to:=(-1),ZaB:=false}:Zan)],Zat:=5,off:=[]}:Zab) ({kind:=1,Zaa:=0,clause:=(-1),other:=(-1),Zaz:=[(-1),(-1)]}:Zak) r9 hr9) (js [.agg ([vI 1,.imm (.slice (List.map zc [0])),.nil,.imm (.slice (List.map Zaq.row [({kind:=1,Zap:=0,give:=0,to:=(-1),unit:=(-1),lot:=({num:=0,den:=1}:Ratio)}:Zaq)])),.imm (.slice (List.map Zan.row ([({kind:=1,Zap:=0,act:=0,need:=1,start:=[],after:=2,Zay:=0,ZaE:=false,final:=true,pause:=(-1),ZaC:=(-1),value:=({num:=0,den:=1}:Ratio),unit:=(-1),to:=(-1),ZaB:=false}:Zan),({kind:=2,Zap:=0,act:=0,need:=1,start:=[],after:=3,Zay:=0,ZaE:=false,final:=true,pause:=(-1),ZaC:=(-1),value:=({num:=0,den:=1}:Ratio),unit:=(-1),to:=(-1),ZaB:=false}:Zan)]))),vI 5,.nil]),.agg [vI 1,vI 0,vI (-1),vI (-1),.Zal 116 0 2]] [(116,.rows 1 [[vI (-1)],[vI (-1)]])] [.agg (Zab.row ({Zao:=1,Zae:=[0],Zav:=[],Zai:=[({kind:=1,Zap:=0,give:=0,to:=(-1),unit:=(-1),lot:=({num:=0,den:=1}:Ratio)}:Zaq)],Zag:=[({kind:=1,Zap:=0,act:=0,need:=1,start:=[],after:=2,Zay:=0,ZaE:=false,final:=true,pause:=(-1),ZaC:=(-1),value:=({num:=0,den:=1}:Ratio),unit:=(-1),to:=(-1),ZaB:=false}:Zan),({kind:=2,Zap:=0,act:=0,need:=1,start:=[],after:=3,Zay:=0,ZaE:=false,final:=true,pause:=(-1),ZaC:=(-1),value:=({num:=0,den:=1}:Ratio),unit:=(-1),to:=(-1),ZaB:=false}:Zan)],Zat:=5,off:=[]}:Zab)),.agg (Zak.row ({kind:=1,Zaa:=0,clause:=(-1),other:=(-1),Zaz:=[(-1),(-1)]}:Zak))] (by kernel_rfl)) .nil)) fun r9=>.ite 2554 r9 (.call 2608 (yR ({Zao:=1,Zae:=[0],Zav:=[],Zai:=[({kind:=1,Zap:=0,give:=0,to:=(-1),unit:=(-1),lot:=({num:=0,den:=1}:Ratio)}:Zaq)],Zag:=[({kind:=1,Zap:=0,act:=0,need:=1,start:=[],after:=2,Zay:=0,ZaE:=false,final:=true,pause:=(-1),ZaC:=(-1),value:=({num:=0,den:=1}:Ratio),unit:=(-1),to:=(-1),ZaB:=false}:Zan),({kind:=2,Zap:=0,act:=0,need:=1,start:=[],after:=3,Zay:=0,ZaE:=false,final:=true,pause:=(-1),ZaC:=(-1),value:=({num:=0,den:=1}:Ratio),unit:=(-1),to:=(-1),ZaB:=false}:Zan)],Zat:=5,off:=[]}:Zab) ({kind:=4,Zaa:=(-1),clause:=0,other:=1,Zaz:=[]}:Zak)) fun r10=>.ite 2556 r10 (.call 2610 (yR ({Zao:=1,Zae:=[0],Zav:=[],Zai:=[({kind:=1,Zap:=0,give:=0,to:=(-1),unit:=(-1),lot:=({num:=0,den:=1}:Ratio)}:Zaq)],Zag:=[({kind:=1,Zap:=0,act:=0,need:=1,start:=[],after:=2,Zay:=0,ZaE:=false,final:=true,pause:=(-1),ZaC:=(-1),value:=({num:=0,den:=1}:Ratio),unit:=(-1),to:=(-1),ZaB:=false}:Zan),({kind:=2,Zap:=0,act:=0,need:=1,start:=[({clause:=0,is:=4}:CondT)],after:=3,Zay:=0,ZaE:=false,final:=true,pause:=(-1),ZaC:=(-1),value:=({num:=0,den:=1}:Ratio),unit:=(-1),to:=(-1),ZaB:=false}:Zan)],Zat:=5,off:=[]}:Zab) ({kind:=2,Zaa:=(-1),clause:=1,other:=(-1),Zaz:=[]}:Zak)) fun r11=>.ite 2558 r11 (.bind (qH ({Zao:=1,Zae:=[0],Zav:=[],Zai:=[({kind:=1,Zap:=0,give:=0,to:=(-1),unit:=(-1),lot:=({num:=0,den:=1}:Ratio)}:Zaq)],Zag:=[({kind:=1,Zap:=0,act:=0,need:=1,start:=[],after:=2,Zay:=0,ZaE:=false,final:=true,pause:=(-1),ZaC:=(-1),value:=({num:=0,den:=1}:Ratio),unit:=(-1),to:=(-1),ZaB:=false}:Zan),({kind:=2,Zap:=0,act:=0,need:=1,start:=[],after:=1,Zay:=0,ZaE:=false,final:=true,pause:=(-1),ZaC:=(-1),value:=({num:=0,den:=1}:Ratio),unit:=(-1),to:=(-1),ZaB:=false}:Zan)],Zat:=5,off:=[]}:Zab) ({kind:=1,Zaa:=0,clause:=(-1),other:=(-1),Zaz:=[(-1),(-1)]}:Zak)) (fun r12=>[(2612,([.w [116] [.agg (Zab.row ({Zao:=1,Zae:=[0],Zav:=[],Zai:=[({kind:=1,Zap:=0,give:=0,to:=(-1),unit:=(-1),lot:=({num:=0,den:=1}:Ratio)}:Zaq)],Zag:=[({kind:=1,Zap:=0,act:=0,need:=1,start:=[],after:=2,Zay:=0,ZaE:=false,final:=true,pause:=(-1),ZaC:=(-1),value:=({num:=0,den:=1}:Ratio),unit:=(-1),to:=(-1),ZaB:=false}:Zan),({kind:=2,Zap:=0,act:=0,need:=1,start:=[],after:=1,Zay:=0,ZaE:=false,final:=true,pause:=(-1),ZaC:=(-1),value:=({num:=0,den:=1}:Ratio),unit:=(-1),to:=(-1),ZaB:=false}:Zan)],Zat:=5,off:=[]}:Zab)),.agg (Zak.row ({kind:=1,Zaa:=0,clause:=(-1),other:=(-1),Zaz:=[(-1),(-1)]}:Zak))] (.bool r12)],_))]) (fun r12 hr12=>(.c2 (yR ({Zao:=1,Zae:=[0],Zav:=[],Zai:=[({kind:=1,Zap:=0,give:=0,to:=(-1),unit:=(-1),lot:=({num:=0,den:=1}:Ratio)}:Zaq)],Zag:=[({kind:=1,Zap:=0,act:=0,need:=1,start:=[],after:=2,Zay:=0,ZaE:=false,final:=true,pause:=(-1),ZaC:=(-1),value:=({num:=0,den:=1}:Ratio),unit:=(-1),to:=(-1),ZaB:=false}:Zan),({kind:=2,Zap:=0,act:=0,need:=1,start:=[],after:=1,Zay:=0,ZaE:=false,final:=true,pause:=(-1),ZaC:=(-1),value:=({num:=0,den:=1}:Ratio),unit:=(-1),to:=(-1),ZaB:=false}:Zan)],Zat:=5,off:=[]}:Zab) ({kind:=1,Zaa:=0,clause:=(-1),other:=(-1),Zaz:=[(-1),(-1)]}:Zak) r12 hr12) (js [.agg ([vI 1,.imm (.slice (List.map zc [0])),.nil,.imm (.slice (List.map Zaq.row [({kind:=1,Zap:=0,give:=0,to:=(-1),unit:=(-1),lot:=({num:=0,den:=1}:Ratio)}:Zaq)])),.imm (.slice (List.map Zan.row ([({kind:=1,Zap:=0,act:=0,need:=1,start:=[],after:=2,Zay:=0,ZaE:=false,final:=true,pause:=(-1),ZaC:=(-1),value:=({num:=0,den:=1}:Ratio),unit:=(-1),to:=(-1),ZaB:=false}:Zan),({kind:=2,Zap:=0,act:=0,need:=1,start:=[],after:=1,Zay:=0,ZaE:=false,final:=true,pause:=(-1),ZaC:=(-1),value:=({num:=0,den:=1}:Ratio),unit:=(-1),to:=(-1),ZaB:=false}:Zan)]))),vI 5,.nil]),.agg [vI 1,vI 0,vI (-1),vI (-1),.Zal 116 0 2]] [(116,.rows 1 [[vI (-1)],[vI (-1)]])] [.agg (Zab.row ({Zao:=1,Zae:=[0],Zav:=[],Zai:=[({kind:=1,Zap:=0,give:=0,to:=(-1),unit:=(-1),lot:=({num:=0,den:=1}:Ratio)}:Zaq)],Zag:=[({kind:=1,Zap:=0,act:=0,need:=1,start:=[],after:=2,Zay:=0,ZaE:=false,final:=true,pause:=(-1),ZaC:=(-1),value:=({num:=0,den:=1}:Ratio),unit:=(-1),to:=(-1),ZaB:=false}:Zan),({kind:=2,Zap:=0,act:=0,need:=1,start:=[],after:=1,Zay:=0,ZaE:=false,final:=true,pause:=(-1),ZaC:=(-1),value:=({num:=0,den:=1}:Ratio),unit:=(-1),to:=(-1),ZaB:=false}:Zan)],Zat:=5,off:=[]}:Zab)),.agg (Zak.row ({kind:=1,Zaa:=0,clause:=(-1),other:=(-1),Zaz:=[(-1),(-1)]}:Zak))] (by kernel_rfl)) .nil)) fun r12=>.ite 2560 r12 (.us [(2,2328),(4,2606),(7,2554),(9,2608),(12,2556),(14,2610),(17,2558),(19,2612),(23,2561)] (.f1 2614 (.g false) (rfl:false=false) (.use 29 2614 (.ret false)))) (.call 2616 (yR ({Zao:=1,Zae:=[0],Zav:=[],Zai:=[({kind:=1,Zap:=0,give:=0,to:=(-1),unit:=(-1),lot:=({num:=0,den:=1}:Ratio)}:Zaq)],Zag:=[({kind:=1,Zap:=0,act:=0,need:=1,start:=[],after:=2,Zay:=0,ZaE:=false,final:=true,pause:=(-1),ZaC:=(-1),value:=({num:=0,den:=1}:Ratio),unit:=(-1),to:=(-1),ZaB:=false}:Zan),({kind:=2,Zap:=0,act:=0,need:=1,start:=[],after:=1,Zay:=0,ZaE:=false,final:=true,pause:=(-1),ZaC:=(-1),value:=({num:=0,den:=1}:Ratio),unit:=(-1),to:=(-1),ZaB:=false}:Zan)],Zat:=5,off:=[]}:Zab) ({kind:=4,Zaa:=(-1),clause:=0,other:=1,Zaz:=[]}:Zak)) fun r13=>.ite 2562 r13 (.us [(2,2328),(4,2606),(7,2554),(9,2608),(12,2556),(14,2610),(17,2558),(19,2612),(23,2561),(25,2616),(29,2563)] (.ret false)) (.call 2618 (yR ({Zao:=1,Zae:=[0],Zav:=[],Zai:=[({kind:=1,Zap:=0,give:=0,to:=(-1),unit:=(-1),lot:=({num:=0,den:=1}:Ratio)}:Zaq)],Zag:=[({kind:=1,Zap:=0,act:=0,need:=1,start:=[],after:=2,Zay:=0,ZaE:=false,final:=true,pause:=(-1),ZaC:=(-1),value:=({num:=0,den:=1}:Ratio),unit:=(-1),to:=(-1),ZaB:=false}:Zan),({kind:=2,Zap:=0,act:=0,need:=1,start:=[],after:=3,Zay:=0,ZaE:=false,final:=true,pause:=(-1),ZaC:=(-1),value:=({num:=0,den:=1}:Ratio),unit:=(-1),to:=(-1),ZaB:=false}:Zan)],Zat:=5,off:=[]}:Zab) ({kind:=2,Zaa:=(-1),clause:=1,other:=(-1),Zaz:=[]}:Zak)) fun r14=>.us [(2,2328),(4,2606),(7,2554),(9,2608),(12,2556),(14,2610),(17,2558),(19,2612),(23,2561),(25,2616),(29,2563),(31,2618)] (.ret (!r14))))) (.us [(2,2328),(4,2606),(7,2554),(9,2608),(12,2556),(14,2610),(17,2558)] (.f1 2622 (.g false) (rfl:false=false) (.use 23 2622 (.f1 2620 (.g false) (rfl:false=false) (.use 29 2620 (.ret false))))))) (.us [(2,2328),(4,2606),(7,2554),(9,2608),(12,2556)] (.f1 2628 (.g false) (rfl:false=false) (.use 17 2628 (.f1 2626 (.g false) (rfl:false=false) (.use 23 2626 (.f1 2624 (.g false) (rfl:false=false) (.use 29 2624 (.ret false))))))))) (.us [(2,2328),(4,2606),(7,2554)] (.f1 2636 (.g false) (rfl:false=false) (.use 12 2636 (.f1 2634 (.g false) (rfl:false=false) (.use 17 2634 (.f1 2632 (.g false) (rfl:false=false) (.use 23 2632 (.f1 2630 (.g false) (rfl:false=false) (.use 29 2630 (.ret false))))))))))) (.use 2 2328 (.f1 2646 (.g false) (rfl:false=false) (.use 7 2646 (.f1 2644 (.g false) (rfl:false=false) (.use 12 2644 (.f1 2642 (.g false) (rfl:false=false) (.use 17 2642 (.f1 2640 (.g false) (rfl:false=false) (.use 23 2640 (.f1 2638 (.g false) (rfl:false=false) (.use 29 2638 (.ret false)))))))))))))) fun v2=>.ret v2)))))))))))
theorem zfY  (res:Bool) (hd:kq  = some res):APure C0 315 [] (.bool res):=
  Zad.pure (iv:=fun res=>.bool res) (zfX ) (by kernel_rfl) (Zad.run_of hd (by kernel_rfl))
noncomputable def kR (c:Zab) (n:Int):Option Bool:=
  (Option.bind (bif decide (20 < (c.Zae.length:Int)) then some true else (bif decide (30 < (c.Zav.length:Int)) then some true else (bif decide (70 < (c.Zai.length:Int)) then some true else (bif decide (n < (c.Zag.length:Int)) then some true else some (decide (100 < (c.off.length:Int))))))) fun v1=>(bif v1 then some false else (Option.bind (forR (σ:=Unit) (ρ:=Unit) (c.Zag.length:Int) (fun i1 s1=>(Option.bind (ze c.Zag (i1:Int)) fun e1=>(bif decide (20 < (e1.start.length:Int)) then some (.inr ()) else some (.inl ())))) ()) (Sum.elim (fun (s1:Unit)=>some true) (fun (y1:Unit)=>some false)))))
noncomputable def zer (c:Zab) (n:Int):Zad Bool:=
  .cut (β:=Bool) 3 (.e [2] (fun v1=>[(34,vB v1)]) [0] 31) (.reg 0 (.ite 2648 (decide (20 < (c.Zae.length:Int))) (.ln 2668 zc c.Zae (.us [(2,2668),(5,2648)] (.f1 2666 (.g true) (rfl:true=true) (.use 11 2666 (.f1 2664 (.g true) (rfl:true=true) (.use 17 2664 (.f1 2662 (.g true) (rfl:true=true) (.use 24 2662 (.ret true))))))))) (.ite 2650 (decide (30 < (c.Zav.length:Int))) (.ln 2676 zc c.Zae (.us [(2,2676),(5,2648)] (.ln 2674 ZaD.row c.Zav (.us [(7,2674),(11,2650)] (.f1 2672 (.g true) (rfl:true=true) (.use 17 2672 (.f1 2670 (.g true) (rfl:true=true) (.use 24 2670 (.ret true))))))))) (.ite 2652 (decide (70 < (c.Zai.length:Int))) (.ln 2684 zc c.Zae (.us [(2,2684),(5,2648)] (.ln 2682 ZaD.row c.Zav (.us [(7,2682),(11,2650)] (.ln 2680 Zaq.row c.Zai (.us [(13,2680),(17,2652)] (.f1 2678 (.g true) (rfl:true=true) (.use 24 2678 (.ret true))))))))) (.ite 2654 (decide (n < (c.Zag.length:Int))) (.ln 2692 zc c.Zae (.us [(2,2692),(5,2648)] (.ln 2690 ZaD.row c.Zav (.us [(7,2690),(11,2650)] (.ln 2688 Zaq.row c.Zai (.us [(13,2688),(17,2652)] (.ln 2686 Zan.row c.Zag (.us [(19,2686),(24,2654)] (.ret true))))))))) (.ln 2702 zc c.Zae (.us [(2,2702),(5,2648)] (.ln 2700 ZaD.row c.Zav (.us [(7,2700),(11,2650)] (.ln 2698 Zaq.row c.Zai (.us [(13,2698),(17,2652)] (.ln 2696 Zan.row c.Zag (.us [(19,2696),(24,2654)] (.ln 2694 zc c.off (.use 26 2694 (.ret (decide (100 < (c.off.length:Int))))))))))))))))))) fun v1=>.ite 2656 v1 (.sel 2656 (.ret false)) (.sel 2656 (.forR (σ:=Unit) (ρ:=Unit) 2658 5 (c.Zag.length:Int) () (.e [2] (fun _=>[]) [0] 32) (fun i1 s1=>.reg 0 (.ln 2708 Zan.row c.Zag (.use 3 2708 (.sel 2658 (.reg 0 (.ix 2704 Zan.row c.Zag (i1:Int) fun e1=>.use 3 2704 (.ln 2706 CondT.row e1.start (.use 6 2706 (.ite 2660 (decide (20 < (e1.start.length:Int))) (.sel 2660 (.ret (.inr ()))) (.sel 2660 (.ret (.inl ())))))))))))) fun os1=>.case os1 (fun s1=>.reg 0 (.ln 2710 Zan.row c.Zag (.use 3 2710 (.sel 2658 (.ret true))))) fun y1=>.ret false))
theorem zes (c:Zab) (n:Int) (res:Bool) (hd:kR c n=some res):APure C0 94 [.agg (Zab.row c),.int .i64 n] (.bool res):=
  Zad.pure (iv:=fun res=>.bool res) (zer c n) (by kernel_rfl) (Zad.run_of hd (by kernel_rfl))
noncomputable def WO (c:Zab):Option Bool:=
  (Option.bind (Option.bind (kR c 6) fun r1=>(bif r1 then (bif decide ((c.Zai.length:Int)≤8) then some (decide (c.Zat≤20)) else some false) else some false)) fun v1=>some v1)
noncomputable def zjd (c:Zab):Zad Bool:=
  .cut (β:=Bool) 2 (.e [] (fun v1=>[(2,vB v1)]) [0] 16) (.reg 0 (.call 2716 (zes c 6) fun r1=>.ite 2712 r1 (.ite 2714 (decide ((c.Zai.length:Int)≤8)) (.us [(1,2716),(3,2712)] (.ln 2718 Zaq.row c.Zai (.us [(5,2718),(9,2714)] (.ret (decide (c.Zat≤20)))))) (.us [(1,2716),(3,2712)] (.ln 2720 Zaq.row c.Zai (.us [(5,2720),(9,2714)] (.ret false))))) (.us [(1,2716),(3,2712)] (.f1 2722 (.g false) (rfl:false=false) (.use 9 2722 (.ret false)))))) fun v1=>.ret v1
theorem zje (c:Zab) (res:Bool) (hd:WO c=some res):APure C0 97 [.agg (Zab.row c)] (.bool res):=
  Zad.pure (iv:=fun res=>.bool res) (zjd c) (by kernel_rfl) (Zad.run_of hd (by kernel_rfl))
noncomputable def Zd (c:Zab) (further:List Int):Option Bool:=
  (Option.bind (kq) fun r1=>(Option.bind (Option.bind (WO c) fun r2=>(bif r2 then some (decide (40 < (further.length:Int))) else some true)) fun v1=>(bif v1 then some r1 else (Option.bind (jU c) fun r3=>(bif (r3.2 == 0) then (Option.bind (forR (σ:=Unit) (ρ:=Unit) (r3.1.length:Int) (fun i1 s1=>(Option.bind (α:=Unit ⊕ Unit) (Option.bind (ze r3.1 (i1:Int)) fun e1=>(bif (e1.kind == 4) then (Option.bind (qA c) fun r4=>(Option.bind (Option.bind (iter (σ:=Int×Int×Int×(List Int)×(List Bool)×(List zw)) (ρ:=Int×Int×(List Int)×(List Bool)×(List zw)) (fun s2=>(Option.bind (Option.bind (ze r3.1 (i1:Int)) fun e2=>(bif decide (s2.2.1 < (e2.Zaz.length:Int)) then some (s2.1 == 0) else some false)) fun v2=>(bif v2 then (Option.bind (ze r3.1 (i1:Int)) fun e3=>(Option.bind (ze e3.Zaz s2.2.1) fun e4=>(Option.bind (d_Step c ({day:=s2.2.2.1,Zae:=s2.2.2.2.1,used:=s2.2.2.2.2.1,Zaj:=s2.2.2.2.2.2}:Zac) e4) fun r5=>some (.inl (r5.2,(IntKind.i64.wrap (s2.2.1+1)),r5.1.day,r5.1.Zae,r5.1.used,r5.1.Zaj))))) else some (.inr (s2.1,s2.2.2.1,s2.2.2.2.1,s2.2.2.2.2.1,s2.2.2.2.2.2))))) (r4.2,0,r4.1.day,r4.1.Zae,r4.1.used,r4.1.Zaj)) (fun (y1:Int×Int×(List Int)×(List Bool)×(List zw))=>some (y1.1,y1.2.1,y1.2.2.1,y1.2.2.2.1,y1.2.2.2.2))) fun (v3:Int×Int×(List Int)×(List Bool)×(List zw))=>(bif (v3.1 == 0) then (Option.bind (forR (σ:=Int×(List Int)×(List Bool)×(List zw)) (ρ:=Unit ⊕ Unit) (further.length:Int) (fun i3 s3=>(Option.bind (ze further (i3:Int)) fun e5=>(Option.bind (d_Step c ({day:=s3.1,Zae:=s3.2.1,used:=s3.2.2.1,Zaj:=s3.2.2.2}:Zac) e5) fun r6=>(bif (r6.2 == 0) then (Option.bind (ze r3.1 (i1:Int)) fun e6=>(Option.bind (ze r6.1.Zaj e6.clause) fun e7=>(Option.bind (ze r6.1.Zaj e6.other) fun e8=>(Option.bind (bif (e7.Zam == 1) then some false else (bif (e7.Zam == 2) then some false else (bif (e7.Zam == 4) then some false else some (!(e8.Zam == 4))))) fun v4=>(bif v4 then some (.inr (.inr ())) else some (.inl (r6.1.day,r6.1.Zae,r6.1.used,r6.1.Zaj))))))) else some (.inr (.inl ())))))) (v3.2.1,v3.2.2.1,v3.2.2.2.1,v3.2.2.2.2)) (Sum.elim (fun (s3:Int×(List Int)×(List Bool)×(List zw))=>some (.inl ())) (Sum.elim (fun (y2:Unit)=>some (.inl ())) (fun (y3:Unit)=>some (.inr ()))))) else some (.inr ())))) else some (.inl ()))) (Sum.elim (fun (v5:Unit)=>some (.inl ())) (fun (y4:Unit)=>some (.inr ()))))) ()) (Sum.elim (fun (s1:Unit)=>some r1) (fun (y5:Unit)=>some false))) else some r1)))))
noncomputable def zbe (c:Zab) (further:List Int):Zad Bool:=
  .reg 1 (.call 3256 zfY fun r1=>.use 0 3256 (.cut (β:=Bool) 2 (.e [1,2,5] (fun v1=>[(25,vB v1)]) [0] 12) (.reg 0 (.call 3258 (zje c) fun r2=>.ite 3210 r2 (.us [(1,3258),(4,3211)] (.ln 3260 zc further (.use 5 3260 (.ret (decide (40 < (further.length:Int))))))) (.us [(1,3258),(4,3211)] (.ret true)))) fun v1=>.ite 3212 v1 (.sel 3212 (.ret r1)) (.sel 3212 (.reg 0 (.call 3262 (WM c) fun r3=>.use 1 3262 (.ite 3214 (r3.2 == 0) (.sel 3215 (.forR (σ:=Unit) (ρ:=Unit) 3216 8 (r3.1.length:Int) () (.e [1,2,5,6] (fun _=>[]) [0] 22) (fun i1 s1=>.reg 0 (.ln 3300 Zak.row r3.1 (.use 2 3300 (.sel 3216 (.cutO (β:=Unit) (γ:=Unit) 1 (.e [1,2,5,6,8] (fun _=>[]) [0] 32) (.reg 0 (.ix 3264 Zak.row r3.1 (i1:Int) fun e1=>.use 2 3264 (.ite 3218 (e1.kind == 4) (.sel 3219 (.reg 0 (.call 3266 (JP c) fun r4=>.use 1 3266 (.cut (β:=Int×Int×(List Int)×(List Bool)×(List zw)) 1 (.k [1,2,5,6,8,9] (fun v3=>[(10,vI v3.1)]) [0] (fun v3=>[(37,.rows 4 [[vI v3.2.1,.imm (.slice (List.map zc v3.2.2.1)),.imm (.slice (List.map zh v3.2.2.2.1)),.imm (.slice (List.map zw.row v3.2.2.2.2))]])]) 41 fun _=>(.exp rfl rfl .nil)) (.iter (σ:=Int×Int×Int×(List Int)×(List Bool)×(List zw)) (ρ:=Int×Int×(List Int)×(List Bool)×(List zw)) (r4.2,0,r4.1.day,r4.1.Zae,r4.1.used,r4.1.Zaj) (.k [1,2,5,6,8,9] (fun s2=>[(10,vI s2.1),(11,vI s2.2.1)]) [0] (fun s2=>[(37,.rows 4 [[vI s2.2.2.1,.imm (.slice (List.map zc s2.2.2.2.1)),.imm (.slice (List.map zh s2.2.2.2.2.1)),.imm (.slice (List.map zw.row s2.2.2.2.2.2))]])]) 41 fun _=>(.exp rfl rfl .nil)) (fun s2=>.cut (β:=Bool) 2 (.e [1,2,5,6,8,9,10,11] (fun v2=>[(63,vB v2)]) [0,37] 53) (.reg 0 (.ix 3268 Zak.row r3.1 (i1:Int) fun e2=>.ite 3228 (decide (s2.2.1 < (e2.Zaz.length:Int))) (.use 3 3268 (.ln 3270 zc e2.Zaz (.us [(6,3270),(9,3228)] (.ret (s2.1 == 0))))) (.use 3 3268 (.ln 3272 zc e2.Zaz (.us [(6,3272),(9,3228)] (.ret false)))))) fun v2=>.ite 3230 v2 (.sel 3230 (.reg 0 (.ix 3274 Zak.row r3.1 (i1:Int) fun e3=>.ix 3276 zc e3.Zaz s2.2.1 fun e4=>.call 3278 (yu c ({day:=s2.2.2.1,Zae:=s2.2.2.2.1,used:=s2.2.2.2.2.1,Zaj:=s2.2.2.2.2.2}:Zac) e4) fun r5=>.us [(4,3274),(8,3276),(10,3278)] (.ret (.inl (r5.2,(IntKind.i64.wrap (s2.2.1+1)),r5.1.day,r5.1.Zae,r5.1.used,r5.1.Zaj)))))) (.sel 3230 (.ret (.inr (s2.1,s2.2.2.1,s2.2.2.2.1,s2.2.2.2.2.1,s2.2.2.2.2.2))))) fun y1=>.ret (y1.1,y1.2.1,y1.2.2.1,y1.2.2.2.1,y1.2.2.2.2)) fun v3=>.ite 3232 (v3.1 == 0) (.sel 3233 (.forR (σ:=Int×(List Int)×(List Bool)×(List zw)) (ρ:=Unit ⊕ Unit) 3234 12 (further.length:Int) (v3.2.1,v3.2.2.1,v3.2.2.2.1,v3.2.2.2.2) (.k [1,2,5,6,8,9] (fun _=>[]) [0] (fun s3=>[(37,.rows 4 [[vI s3.1,.imm (.slice (List.map zc s3.2.1)),.imm (.slice (List.map zh s3.2.2.1)),.imm (.slice (List.map zw.row s3.2.2.2))]])]) 44 fun _=>(.exp rfl rfl .nil)) (fun i3 s3=>.reg 0 (.ln 3296 zc further (.use 2 3296 (.sel 3234 (.reg 0 (.ix 3280 zc further (i3:Int) fun e5=>.call 3282 (yu c ({day:=s3.1,Zae:=s3.2.1,used:=s3.2.2.1,Zaj:=s3.2.2.2}:Zac) e5) fun r6=>.us [(4,3280),(6,3282)] (.ite 3246 (r6.2 == 0) (.sel 3247 (.reg 1 (.ix 3284 Zak.row r3.1 (i1:Int) fun e6=>.ix 3286 zw.row r6.1.Zaj e6.clause fun e7=>.ix 3288 zw.row r6.1.Zaj e6.other fun e8=>.us [(4,3284),(7,3286),(14,3284),(17,3288)] (.cut (β:=Bool) 1 (.e [1,2,5,6,8,9,12] (fun v4=>[(134,vB v4)]) [0,37,58] 101) (.reg 0 (.ite 3248 (e7.Zam == 1) (.use 3 3249 (.f1 3292 (.g false) (rfl:false=false) (.use 7 3292 (.f1 3290 (.g false) (rfl:false=false) (.use 11 3290 (.ret false)))))) (.ite 3250 (e7.Zam == 2) (.us [(3,3249),(7,3251)] (.f1 3294 (.g false) (rfl:false=false) (.use 11 3294 (.ret false)))) (.ite 3252 (e7.Zam == 4) (.us [(3,3249),(7,3251),(11,3253)] (.ret false)) (.us [(3,3249),(7,3251),(11,3253)] (.ret (!(e8.Zam == 4)))))))) fun v4=>.ite 3254 v4 (.sel 3254 (.ret (.inr (.inr ())))) (.sel 3254 (.ret (.inl (r6.1.day,r6.1.Zae,r6.1.used,r6.1.Zaj)))))))) (.sel 3247 (.ret (.inr (.inl ()))))))))))) fun os3=>.case os3 (fun s3=>.reg 0 (.ln 3298 zc further (.use 2 3298 (.sel 3234 (.ret (.inl ())))))) fun zy2=>.case zy2 (fun y2=>.ret (.inl ())) fun y3=>.ret (.inr ()))) (.sel 3233 (.ret (.inr ()))))))) (.sel 3219 (.ret (.inl ())))))) fun o_v5=>.case o_v5 (fun v5=>.ret (.inl ())) fun y4=>.ret (.inr ())))))) fun os1=>.case os1 (fun s1=>.reg 0 (.ln 3302 Zak.row r3.1 (.use 2 3302 (.sel 3216 (.ret r1))))) fun y5=>.ret false)) (.sel 3215 (.ret r1))))))))
theorem zbf (c:Zab) (further:List Int) (res:Bool) (hd:Zd c further=some res):APure C0 309 [.agg (Zab.row c),.slice (List.map zc further)] (.bool res):=
  Zad.pure (iv:=fun res=>.bool res) (zbe c further) (by kernel_rfl) (Zad.run_of hd (by kernel_rfl))
abbrev F29:AV:=.func 29 [] [.ptr 0 0 0,.ptr 1 0 0]
structure GCtx where
  heap:List (Nat×Zaf)
  N:Nat
  P:Nat
  qs:List Nat
structure GOk (i:Nat) (s:List (List Int)×List (Int×Int)×List Int) (c:GCtx):Prop where
  nest:NestOk c.heap c.N c.P c.qs s.1
  min:9≤c.N
  lt:∀ j o,za c.heap j=some o→j < c.N
  p0:c.P≠0
  p1:c.P≠1
  h0:za c.heap 0=some (.rows 1 (zb zc s.2.2))
  h1:za c.heap 1=some (.rows 1 [[F29]])
  h4:za c.heap 4=some (.map (zu IV.i64 IV.i64 s.2.1))
  len:s.1.length≤i
  lens:∀ (k:Nat) (L:List Int),s.1[k]?=some L→L.length≤i
theorem NestOk.push {heap heap':List (Nat×Zaf)} {N N' P P' q:Nat} {qs:List Nat} {Ls:List (List Int)} (h:NestOk heap N P qs Ls) (hlt:∀ j o,za heap j=some o→j < q) (hP:za heap' P'=some (.rows 1 (Vn (qs++[q]) (Ls++[[]])))) (hq:za heap' q=some (.tip 1 0))
    (hE:∀ (k q':Nat),qs[k]?=some q'→(za heap q').isSome=true→za heap' q'=za heap q'):NestOk heap' N' P' (qs++[q]) (Ls++[[]]):=by
  have hold:∀ (k q':Nat),qs[k]?=some q'→q' < q:=fun k q' hk=>by
    have hl:k < Ls.length:=by rw [←h.len];exact (List.getElem?_eq_some_iff.1 hk).1
    exact hlt q' _ (h.tip k q' Ls[k] hk (by simp))
  refine ⟨hP,fun k q' L h1 h2 => ?_,by simp [h.len],fun i j q' h1 h2 => ?_⟩
  · rcases Nat.lt_or_ge k qs.length with hk | hk
    · rw [List.getElem?_append_left hk] at h1
      rw [List.getElem?_append_left (by rw [←h.len];exact hk)] at h2
      have:=h.tip k q' L h1 h2
      rw [hE k q' h1 (by rw [this];rfl)];exact this
    · rw [List.getElem?_append_right hk] at h1
      rw [List.getElem?_append_right (by rw [←h.len];exact hk)] at h2
      rw [←h.len] at h2
      cases hd:k - qs.length with
      | zero=>rw [hd] at h1 h2;simp at h1 h2;subst h1 h2;exact hq
      | succ n=>rw [hd] at h1;simp at h1
  · have key:∀ k,(qs++[q])[k]?=some q'→(k < qs.length∧qs[k]?=some q')∨(k=qs.length∧q'=q):=fun k hk=>by
      rcases Nat.lt_or_ge k qs.length with hlt | hge
      · rw [List.getElem?_append_left hlt] at hk;exact .inl ⟨hlt,hk⟩
      · rw [List.getElem?_append_right hge] at hk
        cases hd:k - qs.length with
        | zero=>rw [hd] at hk;simp at hk;exact .inr ⟨by omega,hk.symm⟩
        | succ n=>rw [hd] at hk;simp at hk
    rcases key i h1 with ⟨a1,a2⟩ | ⟨a1,a2⟩<;>rcases key j h2 with ⟨b1,b2⟩ | ⟨b1,b2⟩
    · exact h.nd i j q' a2 b2
    · have:=hold i q' a2;omega
    · have:=hold j q' b2;omega
    · omega
theorem NestOk.frame {heap:List (Nat×Zaf)} {N N' P:Nat} {qs:List Nat} {Ls:List (List Int)} (h:NestOk heap N P qs Ls) (x:Nat) (hx:x≠P) (hx2:∀ sz len,za heap x≠some (.tip sz len)) (o:Zaf):NestOk (zJ heap x o) N' P qs Ls:=
  ⟨by rw [z6,if_neg hx];exact h.obj,fun k q L h1 h2=>by
    have:=h.tip k q L h1 h2
    rw [z6,if_neg (fun e=>hx2 _ _ (by rw [e];exact this))];exact this,h.len,h.nd⟩
end Go.Proofs.YtlpmnmbebkdocaaGreatDoor
namespace Go.Proofs.YtlpmnmbebkdocaaGreatDoor
set_option linter.unusedSimpArgs false
set_option linter.unusedVariables false
set_option maxRecDepth 100000
theorem zet (a b:Int):∃ r,iter (σ:=Int×Int) (ρ:=Int) (fun s2=>(bif (s2.2 == 0) then some (.inr s2.1) else (Option.bind (ZT .u64 s2.1 s2.2) fun e2=>some (.inl (s2.2,e2))))) (a,b)=some r:=by
  have:=Yl (f:=fun s2:Int×Int=>(bif (s2.2 == 0) then some (.inr s2.1) else (Option.bind (ZT .u64 s2.1 s2.2) fun e2=>some (.inl (s2.2,e2))))) (fun _=>True) (fun _:Int=>True) (fun s=>s.2.natAbs) (fun s _=>by
    by_cases h:s.2=0
    · exact ⟨.inr s.1,by simp [h],trivial⟩
    · refine ⟨.inl (s.2,s.1.tmod s.2),by simp [beq_eq_false_iff_ne.2 h,h,ZT],trivial,?_⟩
      show (s.1.tmod s.2).natAbs < s.2.natAbs
      rw [Int.natAbs_tmod]
      exact Nat.mod_lt _ (by omega)) (a,b) trivial
  obtain ⟨r,h,_⟩:=this
  exact ⟨r,h⟩
theorem YN (l:List Int) (hl:l.length < 1000):∃ r,yr l=some r:=by
  unfold yr
  obtain ⟨o,h1,h2⟩:=wV (n:=l.length) (s0:=(0:Int)) (f:=(fun i1 s1=>(Option.bind (Option.bind (ze l (i1:Int)) fun e1=>(Option.bind (iter (σ:=Int×Int) (ρ:=Int) (fun s2=>(bif (s2.2 == 0) then some (.inr s2.1) else (Option.bind (ZT .u64 s2.1 s2.2) fun e2=>some (.inl (s2.2,e2))))) (s1,e1)) (fun (y1:Int)=>some y1))) fun (v1:Int)=>some (.inl v1)))) (fun _ _=>True) (fun _:Unit=>False) (by omega) trivial (fun i s hi _=>by
    obtain ⟨r,hr⟩:=zet s l[i]
    exact ⟨.inl r,by simp only [qq,List.getElem?_eq_getElem hi,Option.bind_some,hr],trivial⟩)
  rw [h1]
  cases o with
  | inl s=>exact ⟨s,rfl⟩
  | inr r=>exact h2.elim
theorem kS (n:Int):∃ r,x2 n=some r:=by
  unfold x2;simp only [zn];exact ⟨_,rfl⟩
noncomputable def rvB (r:Ratio):Bool:=(q9 r).getD false
theorem Q9 (r:Ratio):q9 r=some (rvB r):=by
  have:∃ b,q9 r=some b:=by
    unfold q9
    obtain ⟨a,ha⟩:=kS r.num
    obtain ⟨b,hb⟩:=kS r.den
    obtain ⟨g,hg⟩:=YN [a,b] (by simp)
    simp only [ha,hb,hg,zn,ZaI]
    exact ⟨_,rfl⟩
  obtain ⟨b,hb⟩:=this
  unfold rvB;rw [hb];rfl
def zjf (x:Option (Int×Bool)):Bool:=(x.getD (0,false)).2
theorem zhz {x:Option (Int×Bool)} {r:Int×Bool} (h:x=some r):x=some (r.1,zjf x):=by subst h;rfl
noncomputable def quB (l:List ZaD):Bool:=zjf (jf l)
theorem WP (t:List ZaD) (i:Nat) (hi:i < t.length) (ht:t.length < 1000):∃ b,x3 t i=some b:=by
  unfold x3
  have hs:Xq t 0 (i:Int)=some (t.take i):=by
    unfold Xq;rw [if_pos ⟨by omega,by omega,by omega⟩];simp
  have hf:forR (σ:=Unit) (ρ:=Unit) ((t.take i).length:Int) (fun i1 s1=>(Option.bind (ze (t.take i) (i1:Int)) fun e3=>(bif (e3.name.toList == t[i].name.toList) then some (.inr ()) else some (.inl ())))) ()=some (match (List.range (t.take i).length).find? (fun j=>!(match (t.take i)[j]? with | some e=>!(e.name.toList == t[i].name.toList) | none=>true)) with | none=>.inl () | some j=>.inr ()):=by
    refine jn _ (fun _=>()) (by simp;omega) (fun j hj => ?_)
    simp only [qq,List.getElem?_eq_getElem hj,ZaI]
    cases ((t.take i)[j].name.toList == t[i].name.toList)<;>rfl
  rw [zl (List.getElem?_eq_getElem hi)]
  simp only [ZaI]
  rw [hs]
  simp only [ZaI]
  rw [hf]
  simp only [Q9,zn,ZaI,Q1]
  split
  all_goals simp only [Sum.elim_inl,Sum.elim_inr,zn]
  · by_cases hb:0≤t[i].base∧t[i].base < t.length
    · obtain ⟨h1,h2⟩:=jd hb.1 hb.2
      simp only [h2,ZaI,zn]
      exact ⟨_,rfl⟩
    · by_cases h1:0≤t[i].base
      · have:¬ t[i].base < t.length:=fun h=>hb ⟨h1,h⟩
        simp only [h1,this,decide_true,decide_false,cond_true,ZaH,ZaI,zn]
        exact ⟨_,rfl⟩
      · simp only [h1,decide_false,ZaH,ZaI,zn]
        exact ⟨_,rfl⟩
  · exact ⟨_,rfl⟩
theorem WQ (l:List ZaD) (hl:l.length < 1000):∃ k,jf l=some (k,quB l):=by
  have:∃ r,jf l=some r:=by
    unfold jf
    obtain ⟨o,h1,h2⟩:=wV (n:=l.length) (s0:=()) (f:=(fun i1 s1=>(Option.bind (x3 l (i1:Int)) fun r1=>(bif r1 then some (.inl ()) else some (.inr (i1:Int)))))) (fun _ _=>True) (fun _:Int=>True) (by omega) trivial (fun i s hi _=>by
      obtain ⟨b,hb⟩:=WP l i hi hl
      cases b with
      | true=>exact ⟨.inl (),by simp [hb],trivial⟩
      | false=>exact ⟨.inr i,by simp [hb],trivial⟩)
    rw [h1]
    cases o with
    | inl s=>exact ⟨_,rfl⟩
    | inr r=>exact ⟨_,rfl⟩
  obtain ⟨r,hr⟩:=this
  exact ⟨r.1,zhz hr⟩
def xV (nh:Nat) (r:Int):Bool:=decide (0≤r)&&decide (r < nh)
theorem Ja (c:Zab) (r:Int):ja c r=some (xV c.Zae.length r):=by
  simp only [ja,zn,ZaI,xV,Bool.cond_false_right]
noncomputable def zav (r:Ratio):Bool:=decide (0 < r.num)&&rvB r
theorem WR (r:Ratio):xb r=some (zav r):=by
  simp only [xb,Q9,zn,ZaI,zav,Bool.cond_false_right]
def JR (r:Ratio):Bool:=r.num == 0&&(r.den == 1&&true)
noncomputable def Vy (nh nu:Nat) (Zao:Int) (a:Zaq):Bool:=
  bif xV nh a.Zap then
    (bif a.kind == 1 then (a.give == 0&&(a.to == -1||xV nh a.to))&&(bif a.unit == -1 then JR a.lot else (decide (0≤a.unit)&&(decide (a.unit < nu)&&zav a.lot)))
    else (a.kind == 2||a.kind == 3)&&(xV nh a.give&&(decide (0≤a.to)&&(decide (a.to < Zao)&&(a.unit == -1&&JR a.lot)))))
  else a.kind == 1&&(a.Zap == -1&&(a.give == 0&&((a.to == -1||xV nh a.to)&&(a.unit == -1&&JR a.lot))))
theorem zcL (c:Zab) (a:Zaq):wW c a=some (Vy c.Zae.length c.Zav.length c.Zao a):=by
  simp only [wW,Ja,WR,yt,ZaI,zn,Vy,JR]
  cases xV c.Zae.length a.Zap<;>cases (a.kind == 1)<;>cases (a.give == 0)<;>cases (a.to == -1)<;>cases (xV c.Zae.length a.to)<;>cases (a.unit == -1) <;>
    simp only [cond_true,ZaH,Bool.not_true,Bool.not_false,ZaI,Bool.true_or,Bool.false_or,Bool.true_and,Bool.false_and,zn,Bool.cond_false_right,Bool.cond_self,Bool.and_false] <;>
    first | rfl | (cases (a.Zap == -1)<;>rfl) | (cases (a.kind == 2)<;>rfl)
def yb (Zao:Int) (hs:List Int):Bool:=hs.all fun h=>decide (0≤h)&&decide (h < Zao)
theorem zjg (c:Zab) (hp:c.Zao < 4611686018427387904) (hl:c.Zae.length < 4611686018427387904):Wu c=some (yb c.Zao c.Zae):=by
  unfold Wu
  have hin:∀ (i:Nat) (hi:i < c.Zae.length),(Option.bind (α:=Unit ⊕ Unit) (Option.bind (forR (σ:=Unit) (ρ:=Unit) c.Zao (fun i2 s2=>(Option.bind (ze c.Zae (i:Int)) fun e1=>(bif (e1 == (i2:Int)) then some (.inr ()) else some (.inl ())))) ()) (Sum.elim (fun (s2:Unit)=>some (.inr ())) (fun (y1:Unit)=>some (.inl ())))) (Sum.elim (fun (v1:Unit)=>some (.inl ())) (fun (y2:Unit)=>some (.inr ())))) =
      some (bif decide (0≤c.Zae[i])&&decide (c.Zae[i] < c.Zao) then (.inl ():Unit ⊕ Unit) else .inr ()):=fun i hi=>by
    obtain ⟨o,h1,h2⟩:=Yk (n:=c.Zao) (s0:=()) (f:=(fun i2 s2=>(Option.bind (ze c.Zae (i:Int)) fun e1=>(bif (e1 == (i2:Int)) then some (.inr ()) else some (.inl ()))))) (fun k _=>∀ j:Nat,j < k→c.Zae[i]≠(j:Int)) (fun _:Unit=>0≤c.Zae[i]∧c.Zae[i] < c.Zao) hp (fun j hj=>by omega) (fun k s hk hI=>by
      simp only [qq,List.getElem?_eq_getElem hi,ZaI]
      by_cases he:c.Zae[i]=(k:Int)
      · exact ⟨.inr (),by simp [he],by show 0≤c.Zae[i]∧c.Zae[i] < c.Zao;omega⟩
      · refine ⟨.inl (),by rw [beq_eq_false_iff_ne.2 he];rfl,fun j hj => ?_⟩
        rcases Nat.lt_or_ge j k with h | h
        · exact hI j h
        · obtain rfl:j=k:=by omega
          exact he)
    rw [h1]
    cases o with
    | inl s=>
      have:¬ (0≤c.Zae[i]∧c.Zae[i] < c.Zao):=fun h=>h2 c.Zae[i].toNat (by omega) (by omega)
      have hb:(decide (0≤c.Zae[i])&&decide (c.Zae[i] < c.Zao))=false:=by
        rw [Bool.eq_false_iff];simp only [ne_eq,Bool.and_eq_true,decide_eq_true_eq];exact this
      rw [hb];rfl
    | inr r=>
      have hb:(decide (0≤c.Zae[i])&&decide (c.Zae[i] < c.Zao))=true:=by
        simp only [Bool.and_eq_true,decide_eq_true_eq];exact h2
      rw [hb];rfl
  rw [jn (fun i=>match c.Zae[i]? with | some h=>decide (0≤h)&&decide (h < c.Zao) | none=>true) (fun _=>()) hl (fun i hi=>by
    rw [hin i hi];simp only [List.getElem?_eq_getElem hi])]
  cases hf:(List.range c.Zae.length).find? (fun j=>!(match c.Zae[j]? with | some h=>decide (0≤h)&&decide (h < c.Zao) | none=>true)) with
  | none=>
    simp only [ZaI,Sum.elim_inl]
    have:yb c.Zao c.Zae=true:=List.all_eq_true.2 fun h hh=>by
      obtain ⟨i,hi,rfl⟩:=List.getElem_of_mem hh
      have:=wB hf i hi
      simpa only [List.getElem?_eq_getElem hi] using this
    rw [this]
  | some k=>
    simp only [ZaI,Sum.elim_inr]
    obtain ⟨h1,h2,_⟩:=wC hf
    have:yb c.Zao c.Zae=false:=by
      rw [Bool.eq_false_iff]
      intro h
      have:=List.all_eq_true.1 h c.Zae[k] (List.getElem_mem h1)
      simp only [List.getElem?_eq_getElem h1] at h2
      rw [h2] at this;cases this
    rw [this]
noncomputable def Jb (Zat:Int) (off:List Int):Bool:=((Option.bind (forR (σ:=Int) (ρ:=Unit) (off.length:Int) (fun i2 s2=>(Option.bind (ze off (i2:Int)) fun e2=>(Option.bind (bif decide (e2≤s2) then some true else some (decide (Zat≤e2))) fun v2=>(bif v2 then some (.inr ()) else some (.inl e2))))) (-1)) (Sum.elim (fun (s2:Int)=>some true) (fun (y2:Unit)=>some false)))).getD false
theorem zkQ (Zat:Int) (off:List Int) (hl:off.length < 4611686018427387904):(Option.bind (forR (σ:=Int) (ρ:=Unit) (off.length:Int) (fun i2 s2=>(Option.bind (ze off (i2:Int)) fun e2=>(Option.bind (bif decide (e2≤s2) then some true else some (decide (Zat≤e2))) fun v2=>(bif v2 then some (.inr ()) else some (.inl e2))))) (-1)) (Sum.elim (fun (s2:Int)=>some true) (fun (y2:Unit)=>some false)))=some (Jb Zat off):=by
  obtain ⟨o,h1,h2⟩:=wV (n:=off.length) (s0:=(-1:Int)) (f:=(fun i2 s2=>(Option.bind (ze off (i2:Int)) fun e2=>(Option.bind (bif decide (e2≤s2) then some true else some (decide (Zat≤e2))) fun v2=>(bif v2 then some (.inr ()) else some (.inl e2)))))) (fun _ _=>True) (fun _:Unit=>True) hl trivial (fun i s hi _=>by
    simp only [qq,List.getElem?_eq_getElem hi,ZaI,zn]
    cases (bif decide (off[i]≤s) then true else decide (Zat≤off[i])) with
    | true=>exact ⟨.inr (),rfl,trivial⟩
    | false=>exact ⟨.inl _,rfl,trivial⟩)
  unfold Jb
  rw [h1]
  cases o<;>rfl
noncomputable def jv (c:Zab):Bool:=
  !(decide (c.Zao < 1))&&(!(decide (c.Zat < 1))&&(!((c.Zae.length:Int) == 0)&&(yb c.Zao c.Zae&&(quB c.Zav&&(c.Zai.all (Vy c.Zae.length c.Zav.length c.Zao)&&Jb c.Zat c.off)))))
theorem ku {α:Type} {l:List α} {f:Nat→Unit→Option (Unit ⊕ Unit)} (p:α→Bool) (hl:l.length < 4611686018427387904) (h:∀ (i:Nat) (hi:i < l.length),f i ()=some (bif p l[i] then .inl () else .inr ())) :
    forR (l.length:Int) f ()=some (bif l.all p then .inl () else .inr ()):=by
  rw [jn (fun i=>match l[i]? with | some x=>p x | none=>true) (fun _=>()) hl (fun i hi=>by rw [h i hi];simp only [List.getElem?_eq_getElem hi])]
  cases hf:(List.range l.length).find? (fun j=>!(match l[j]? with | some x=>p x | none=>true)) with
  | none=>
    have:l.all p=true:=List.all_eq_true.2 fun x hx=>by
      obtain ⟨i,hi,rfl⟩:=List.getElem_of_mem hx
      have:=wB hf i hi
      simpa only [List.getElem?_eq_getElem hi] using this
    rw [this];rfl
  | some k=>
    obtain ⟨h1,h2,_⟩:=wC hf
    have:l.all p=false:=by
      rw [Bool.eq_false_iff]
      intro h
      have:=List.all_eq_true.1 h l[k] (List.getElem_mem h1)
      simp only [List.getElem?_eq_getElem h1] at h2
      rw [h2] at this;cases this
    rw [this];rfl
theorem zfZ (c:Zab) (hp:c.Zao < 4611686018427387904) (hh:c.Zae.length < 4611686018427387904) (hu:c.Zav.length < 1000) (ha:c.Zai.length < 1000) (ho:c.off.length < 4611686018427387904):Z9 c=some (jv c):=by
  unfold Z9
  obtain ⟨k,hk⟩:=WQ c.Zav hu
  have hacts:=ku (l:=c.Zai) (f:=(fun i1 s1=>(Option.bind (ze c.Zai (i1:Int)) fun e1=>(Option.bind (wW c e1) fun r3=>(bif r3 then some (.inl ()) else some (.inr ())))))) (Vy c.Zae.length c.Zav.length c.Zao) (by omega) (fun i hi=>by
    simp only [qq,List.getElem?_eq_getElem hi,ZaI,zcL,zn])
  rw [zjg c hp hh,hk]
  simp only [ZaI]
  rw [hacts]
  simp only [ZaI]
  rw [zkQ c.Zat c.off ho]
  simp only [ZaI,zn,jv]
  cases decide (c.Zao < 1)<;>cases decide (c.Zat < 1)<;>cases ((c.Zae.length:Int) == 0)<;>cases yb c.Zao c.Zae<;>cases quB c.Zav<;>cases c.Zai.all (Vy c.Zae.length c.Zav.length c.Zao) <;>
    simp only [cond_true,ZaH,Bool.not_true,Bool.not_false,ZaI,Bool.true_and,Bool.false_and,Sum.elim_inl,Sum.elim_inr]
def Ze (Zai:List Zaq) (a:Int):Bool:=match ze Zai a with
  | some e=>e.kind == 1&&e.Zap == -1
  | none=>false
theorem Yp (c:Zab) (a:Int):j6 c a=some (Ze c.Zai a):=by
  unfold j6 Ze
  by_cases h:0≤a∧a < c.Zai.length
  · obtain ⟨h1,h2⟩:=jd h.1 h.2
    simp only [h2,h.1,h.2,decide_true,cond_true,ZaI,zn,Bool.cond_false_right]
  · rw [zae h]
    by_cases h1:0≤a
    · have:¬ a < c.Zai.length:=fun h2=>h ⟨h1,h2⟩
      simp only [h1,this,decide_true,decide_false,cond_true,ZaH,ZaI]
    · simp only [h1,decide_false,ZaH,ZaI]
def WS (nh:Nat) (Zai:List Zaq) (k:Zan):Bool:=
  bif k.kind == 4 then k.Zap == -1&&(k.need == 1&&(k.Zay == 0 && !k.final))
  else (xV nh k.Zap && !Ze Zai k.act)&&(bif k.kind == 1 then decide (1≤k.need)&&(decide (k.need≤9)&&(decide (0≤k.Zay)&&decide (k.Zay≤400)))
    else bif k.kind == 2 then k.need == 1&&k.Zay == 0 else k.kind == 3&&(k.need == 1&&(k.Zay == 0 && !k.final)))
theorem zbg (c:Zab) (k:Zan):vZ c k=some (WS c.Zae.length c.Zai k):=by
  simp only [vZ,Ja,Yp,ZaI,zn,WS]
  cases (k.kind == 4)<;>cases xV c.Zae.length k.Zap<;>cases Ze c.Zai k.act<;>cases (k.kind == 1)<;>cases (k.kind == 2)<;>cases (k.kind == 3) <;>
    simp only [cond_true,ZaH,Bool.not_true,Bool.not_false,ZaI,Bool.true_and,Bool.false_and,Bool.and_false,Bool.cond_false_right,zn]
def WT (n:Nat) (i:Int) (s:CondT):Bool := !(decide (s.clause < 0))&&(!(decide ((n:Int)≤s.clause))&&(!(s.clause == i)&&(!(decide (s.is < 1)) && !(decide (4 < s.is)))))
noncomputable def zeu (nh:Nat) (Zav:List ZaD) (k:Zan):Bool:=
  (k.kind == 1||k.kind == 2)&&((match ze Zav k.unit with | some u=>u.kind == 2 | none=>false)&&(zav k.value&&xV nh k.to))
def Jc (Zai:List Zaq) (k:Zan):Bool:=(k.pause == -1&&k.ZaC == -1)||(!(k.pause == k.ZaC)&&(Ze Zai k.pause&&Ze Zai k.ZaC))
noncomputable def vG (nh:Nat) (Zav:List ZaD) (Zai:List Zaq) (n:Nat) (i:Int) (k:Zan):Bool:=
  (!(decide (k.act < 0))&&(!(decide ((Zai.length:Int)≤k.act))&&(!(decide (k.after < 1)) && !(decide (400 < k.after))))) &&
  ((WS nh Zai k && !(decide (8 < (k.start.length:Int)))) &&
  (k.start.all (WT n i) &&
  (Jc Zai k &&
  (bif k.unit == -1 then JR k.value&&k.to == -1 else zeu nh Zav k))))
theorem YO (c:Zab) (i:Nat) (k:Zan) (hk:c.Zag[i]?=some k) (hs:k.start.length < 4611686018427387904):wc c i=some (vG c.Zae.length c.Zav c.Zai c.Zag.length i k):=by
  unfold wc
  have hst:=ku (l:=k.start) (f:=(fun i1 s1=>(Option.bind (ze k.start (i1:Int)) fun e2=>(Option.bind (bif decide (e2.clause < 0) then some true else (bif decide ((c.Zag.length:Int)≤e2.clause) then some true else (bif (e2.clause == (i:Int)) then some true else (bif decide (e2.is < 1) then some true else some (decide (4 < e2.is)))))) fun v3=>(bif v3 then some (.inr ()) else some (.inl ())))))) (WT c.Zag.length i) hs (fun j hj=>by
    simp only [qq,List.getElem?_eq_getElem hj,ZaI,zn,WT]
    cases decide (k.start[j].clause < 0)<;>cases decide ((c.Zag.length:Int)≤k.start[j].clause)<;>cases (k.start[j].clause == (i:Int))<;>cases decide (k.start[j].is < 1)<;>cases decide (4 < k.start[j].is)<;>rfl)
  have hu:(bif decide (0≤k.unit) then (bif decide (k.unit < (c.Zav.length:Int)) then (Option.bind (ze c.Zav k.unit) fun e3=>(bif (e3.kind == 2) then (Option.bind (xb k.value) fun r5=>(bif r5 then (Option.bind (ja c k.to) fun r6=>some r6) else some false)) else some false)) else some false) else some false) =
      some ((match ze c.Zav k.unit with | some u=>u.kind == 2 | none=>false)&&(zav k.value&&xV c.Zae.length k.to)):=by
    by_cases h:0≤k.unit∧k.unit < c.Zav.length
    · obtain ⟨h1,h2⟩:=jd h.1 h.2
      simp only [h2,h.1,h.2,decide_true,cond_true,ZaI,zn,Bool.cond_false_right,WR,Ja]
    · rw [zae h]
      by_cases h1:0≤k.unit
      · have:¬ k.unit < c.Zav.length:=fun h2=>h ⟨h1,h2⟩
        simp only [h1,this,decide_true,decide_false,cond_true,ZaH,Bool.false_and]
      · simp only [h1,decide_false,ZaH,Bool.false_and]
  have hp:(Option.bind (bif (k.pause == (-1)) then some (!(k.ZaC == (-1))) else some true) fun v4=>(bif v4 then (Option.bind (bif (k.pause == k.ZaC) then some true else (Option.bind (j6 c k.pause) fun r2=>(bif r2 then (Option.bind (j6 c k.ZaC) fun r3=>some (!r3)) else some true))) fun v5=>(bif v5 then some (.inr ()) else some (.inl ()))) else some (.inl ()))) =
      some (bif Jc c.Zai k then (.inl ():Unit ⊕ Unit) else .inr ()):=by
    simp only [Yp,Jc,zn,ZaI]
    cases (k.pause == -1)<;>cases (k.ZaC == -1)<;>cases (k.pause == k.ZaC)<;>cases Ze c.Zai k.pause<;>cases Ze c.Zai k.ZaC<;>rfl
  rw [zl hk]
  simp only [ZaI]
  rw [hst]
  simp only [ZaI]
  rw [hp,hu]
  simp only [ZaI,zbg,yt,zn,vG,zeu,JR]
  cases decide (k.act < 0)<;>simp only [cond_true,ZaH,Bool.not_true,Bool.not_false,Bool.true_and,Bool.false_and,ZaI]
  cases decide ((c.Zai.length:Int)≤k.act)<;>simp only [cond_true,ZaH,Bool.not_true,Bool.not_false,Bool.true_and,Bool.false_and,ZaI]
  cases decide (k.after < 1)<;>simp only [cond_true,ZaH,Bool.not_true,Bool.not_false,Bool.true_and,Bool.false_and,ZaI]
  cases decide (400 < k.after)<;>simp only [cond_true,ZaH,Bool.not_true,Bool.not_false,Bool.true_and,Bool.false_and,ZaI]
  cases WS c.Zae.length c.Zai k<;>simp only [cond_true,ZaH,Bool.not_true,Bool.not_false,Bool.true_and,Bool.false_and,ZaI]
  cases decide (8 < (k.start.length:Int))<;>simp only [cond_true,ZaH,Bool.not_true,Bool.not_false,Bool.true_and,Bool.false_and,ZaI]
  cases k.start.all (WT c.Zag.length i)<;>simp only [cond_true,ZaH,Bool.not_true,Bool.not_false,Bool.true_and,Bool.false_and,ZaI,Sum.elim_inl,Sum.elim_inr]
  cases Jc c.Zai k<;>simp only [cond_true,ZaH,Bool.true_and,Bool.false_and,Sum.elim_inl,Sum.elim_inr]
  cases (k.kind == 1)<;>cases (k.kind == 2)<;>simp only [cond_true,ZaH,Bool.cond_false_right,Bool.true_or,Bool.or_true,Bool.or_self,Bool.true_and,Bool.false_and]
def kw (c:Zab):Bool:=decide (12 < c.Zao)||(decide (2000 < c.Zat)||(decide (12 < (c.Zae.length:Int))||(decide (20 < (c.Zav.length:Int))||(decide (60 < (c.Zai.length:Int))||decide (400 < (c.Zag.length:Int))))))
noncomputable def clB (c:Zab) (i:Nat):Bool:=match c.Zag[i]? with
  | some k=>vG c.Zae.length c.Zav c.Zai c.Zag.length i k
  | none=>true
noncomputable def qe (c:Zab):Int×Int:=
  bif kw c then (3,-1) else bif jv c then (match (List.range c.Zag.length).find? (fun j=>!clB c j) with | none=>(0,-1) | some j=>(1,(j:Int))) else (1,-1)
theorem zhA (c:Zab) (ho:c.off.length < 4611686018427387904) (hs:∀ k∈c.Zag,k.start.length < 4611686018427387904):vz c=some (qe c):=by
  unfold vz qe
  simp only [zn,Bool.cond_true_left,ZaI]
  show (bif kw c then _ else _)=_
  cases hlim:kw c with
  | true=>rfl
  | false=>
    simp only [kw,Bool.or_eq_false_iff,decide_eq_false_iff_not] at hlim
    obtain ⟨h1,h2,h3,h4,h5,h6⟩:=hlim
    simp only [ZaH,zfZ c (by omega) (by omega) (by omega) (by omega) ho,ZaI]
    cases jv c with
    | false=>rfl
    | true=>
      simp only [cond_true]
      rw [jn (fun i=>clB c i) (fun i=>(i:Int)) (by omega) (fun i hi=>by
        rw [YO c i c.Zag[i] (List.getElem?_eq_getElem hi) (hs _ (List.getElem_mem hi))]
        simp only [ZaI,clB,List.getElem?_eq_getElem hi,zn])]
      cases (List.range c.Zag.length).find? (fun j=>!clB c j)<;>rfl
end Go.Proofs.YtlpmnmbebkdocaaGreatDoor
namespace Go.Proofs.YtlpmnmbebkdocaaGreatDoor
open Go.RowKit
set_option linter.unusedSimpArgs false
set_option linter.unusedVariables false
set_option maxRecDepth 100000
theorem LOk.lt {α:Type} {n:Nat} {p:α→Prop} {l:List α} (h:LOk n p l) (hn:0 < n):l.length < 4611686018427387904:=by
  have h1:=h.1
  have h2:reachBytes≤140737488355328:=by decide +kernel
  have:=Nat.le_mul_of_pos_right l.length hn
  omega
theorem Zab.Ok.valid {c:Zab} (hc:c.Ok):vz c=some (qe c):=
  zhA c (hc.off.lt (by omega)) (fun k hk=>(hc.Zag.2 k hk).start.lt (by omega))
inductive ValidIs (c:Zab):Int×Int→Prop where
  | lim (h:kw c=true):ValidIs c (3,-1)
  | frame (h:kw c=false) (hf:jv c=false):ValidIs c (1,-1)
  | bad (h:kw c=false) (hf:jv c=true) (i:Nat) (hi:i < c.Zag.length) (hb:clB c i=false) (hl:∀ j,j < i→clB c j=true):ValidIs c (1,(i:Int))
  | ok (h:kw c=false) (hf:jv c=true) (ha:∀ j,j < c.Zag.length→clB c j=true):ValidIs c (0,-1)
theorem zf0 (c:Zab):ValidIs c (qe c):=by
  unfold qe
  cases h:kw c with
  | true=>exact .lim h
  | false=>
    simp only [ZaH]
    cases hf:jv c with
    | false=>exact .frame h hf
    | true=>
      simp only [cond_true]
      cases hq:(List.range c.Zag.length).find? (fun j=>!clB c j) with
      | none=>exact .ok h hf (wB hq)
      | some j=>obtain ⟨h1,h2,h3⟩:=wC hq;exact .bad h hf j h1 h2 h3
theorem yz {c:Zab} (h:(qe c).1=0):kw c=false∧jv c=true∧(∀ j,j < c.Zag.length→clB c j=true)∧qe c=(0,-1):=by
  have hv:=zf0 c
  generalize hr:qe c=r at h hv ⊢
  cases hv with
  | lim _=>simp at h
  | frame _ _=>simp at h
  | bad _ _ i _ _ _=>simp at h
  | ok a b d=>exact ⟨a,b,d,rfl⟩
theorem zjh (x y:Int):Zv x y=some (decide (x < y)):=by
  simp [Zv,Qa]
theorem zji {a b:Int} (h0:0≤a) (h1:a≤b) (h2:b < 4611686018427387904):QT .u64 .u64 (IntKind.u64.wrap (IntKind.i64.wrap (a+b))) 1=some ((a+b) / 2):=by
  rw [zY (by omega) (by omega),ze8 (by omega) (by omega)]
  unfold QT
  rw [if_neg (by omega)]
  have:(2:Int) ^ (min (1:Int).toNat IntKind.u64.bits)=2:=by decide
  rw [this,Int.fdiv_eq_ediv_of_nonneg _ (by omega)]
def xv (l:List Int) (v:Int):Option Int:=if v∈l then some (l.idxOf v:Int) else none
theorem zf1 {l:List Int} (hn:l.Nodup) {i:Nat} (hi:i < l.length):l.idxOf l[i]=i:=by
  have h1:l.idxOf l[i] < l.length:=List.idxOf_lt_length_iff.2 (List.getElem_mem hi)
  have h2:=List.getElem_idxOf h1
  exact (List.getElem?_inj h1 hn).1 (by rw [List.getElem?_eq_getElem h1,List.getElem?_eq_getElem hi,h2])
theorem zhB {l:List Int} (hn:l.Nodup) {i:Nat} {v:Int} (h:l[i]?=some v):xv l v=some (i:Int):=by
  obtain ⟨hi,rfl⟩:=List.getElem?_eq_some_iff.1 h
  unfold xv
  rw [if_pos (List.getElem_mem hi),zf1 hn hi]
theorem Vz (l:List Int) (v:Int) (hs:l.Pairwise (· < ·)) (hl:l.length < 4611686018427387904):∃ r:Int,jt l v=some (r,(xv l v).isSome)∧∀ p,xv l v=some p→r=p:=by
  have hp:=List.pairwise_iff_getElem.1 hs
  unfold jt
  have hit:Ret (iter (σ:=Int×Int) (ρ:=Int) (fun s1=>(bif decide (s1.1 < s1.2) then (Option.bind (QT .u64 .u64 (IntKind.u64.wrap (IntKind.i64.wrap (s1.1+s1.2))) 1) fun e1=>(Option.bind (ze l (IntKind.i64.wrap e1)) fun e2=>(Option.bind (Zv e2 v) fun r1=>(bif r1 then some (.inl ((IntKind.i64.wrap ((IntKind.i64.wrap e1)+1)),s1.2)) else some (.inl (s1.1,(IntKind.i64.wrap e1))))))) else some (.inr s1.1))) (0,(l.length:Int)))
      (fun r=>0≤r∧r≤l.length∧(∀ (j:Nat) (hj:j < l.length),(j:Int) < r→l[j] < v)∧(∀ (j:Nat) (hj:j < l.length),r≤(j:Int)→v≤l[j])):=by
    refine Ret.iter (fun s=>0≤s.1∧s.1≤s.2∧s.2≤l.length∧(∀ (j:Nat) (hj:j < l.length),(j:Int) < s.1→l[j] < v)∧(∀ (j:Nat) (hj:j < l.length),s.2≤(j:Int)→v≤l[j])) (fun s=>(s.2 - s.1).toNat) ⟨by simp,by simp,by simp,fun j hj h=>by simp only at h;omega,fun j hj h=>by simp only at h;omega⟩ ?_
    rintro ⟨lo,hi⟩ ⟨h1,h2,h3,h4,h5⟩
    simp only at h1 h2 h3 h4 h5 ⊢
    refine Ret.ite (fun hb => ?_) (fun hb => ?_)
    · have hlt:=of_decide_eq_true hb
      rw [zji h1 h2 (by omega)]
      simp only [ZaI]
      have hm1:lo≤(lo+hi) / 2:=by omega
      have hm2:(lo+hi) / 2 < hi:=by omega
      generalize (lo+hi) / 2=m at hm1 hm2 ⊢
      rw [zY (by omega) (by omega)]
      obtain ⟨hi',e⟩:=jd (l:=l) (n:=m) (by omega) (by omega)
      rw [e,zY (by omega) (by omega)]
      simp only [ZaI,zjh]
      refine Ret.ite (fun hb2 => ?_) (fun hb2 => ?_)
      · have hv:=of_decide_eq_true hb2
        refine Ret.some ⟨⟨by show 0≤m+1;omega,by show m+1≤hi;omega,h3,fun j hj hjm => ?_,h5⟩,by show (hi - (m+1)).toNat < (hi - lo).toNat;omega⟩
        have hjm:(j:Int) < m+1:=hjm
        rcases Nat.lt_or_ge j m.toNat with h | h
        · have:=hp j m.toNat hj hi' h;omega
        · obtain rfl:j=m.toNat:=by omega
          exact hv
      · have hv:¬ l[m.toNat] < v:=of_decide_eq_false hb2
        refine Ret.some ⟨⟨h1,by show lo≤m;omega,by show m≤(l.length:Int);omega,h4,fun j hj hjm => ?_⟩,by show (m - lo).toNat < (hi - lo).toNat;omega⟩
        have hjm:m≤(j:Int):=hjm
        rcases Nat.lt_or_ge m.toNat j with h | h
        · have:=hp m.toNat j hi' hj h;omega
        · obtain rfl:j=m.toNat:=by omega
          omega
    · have hlt:¬ lo < hi:=of_decide_eq_false hb
      have:lo=hi:=by omega
      subst this
      exact Ret.some ⟨h1,h3,h4,h5⟩
  obtain ⟨r,hr,hr0,hr1,hr2,hr3⟩:=hit
  rw [hr]
  simp only [ZaI]
  by_cases hlt:r < (l.length:Int)
  · obtain ⟨hi',e⟩:=jd (l:=l) (n:=r) hr0 hlt
    simp only [hlt,decide_true,cond_true,e,ZaI]
    by_cases hv:l[r.toNat]=v
    · have hpos:xv l v=some (r.toNat:Int):=zhB (zd1 hs) (by rw [List.getElem?_eq_getElem hi',hv])
      refine ⟨r,by simp [hv,hpos],fun p hp => ?_⟩
      rw [hpos] at hp;cases hp;omega
    · have hn:xv l v=none:=by
        unfold xv
        rw [if_neg]
        intro hm
        obtain ⟨j,hj,e2⟩:=List.getElem_of_mem hm
        rcases Nat.lt_trichotomy j r.toNat with h | h | h
        · have:=hr2 j hj (by omega);omega
        · subst h;exact hv e2
        · have h6:=hp r.toNat j hi' hj h
          have h7:=hr3 r.toNat hi' (by omega)
          omega
      refine ⟨r,?_,fun p hp=>by rw [hn] at hp;cases hp⟩
      rw [hn]
      have:(l[r.toNat] == v)=false:=beq_eq_false_iff_ne.2 hv
      simp [this,yP]
  · have hn:xv l v=none:=by
      unfold xv
      rw [if_neg]
      intro hm
      obtain ⟨j,hj,e2⟩:=List.getElem_of_mem hm
      have:=hr2 j hj (by omega);omega
    refine ⟨r,?_,fun p hp=>by rw [hn] at hp;cases hp⟩
    rw [hn]
    simp [hlt]
theorem zhC {Zat:Int} {off:List Int} (hl:off.length < 4611686018427387904) (h:Jb Zat off=true):(off.length:Int)≤Zat∨off.length=0:=by
  have e:Jb Zat off=kj Zat (-1) off:=by
    unfold Jb
    rw [zgM Zat off hl (-1)]
    cases kj Zat (-1) off<;>rfl
  rw [e] at h
  rcases zaf h with h1 | h1<;>omega
structure Small (c:Zab):Prop where
  Zao:1≤c.Zao∧c.Zao≤12
  Zat:1≤c.Zat∧c.Zat≤2000
  Zae:c.Zae.length≤12
  Zav:c.Zav.length≤20
  Zai:c.Zai.length≤60
  Zag:c.Zag.length≤400
  off:c.off.length≤2000
  start:∀ k∈c.Zag,k.start.length≤8
  cond:∀ (i:Nat) (k:Zan),c.Zag[i]?=some k→∀ s∈k.start,0≤s.clause∧s.clause < c.Zag.length∧s.clause≠(i:Int)
theorem qr {c:Zab} (ho:c.off.length < 4611686018427387904) (h:(qe c).1=0):Small c:=by
  obtain ⟨h1,h2,h3,_⟩:=yz h
  simp only [kw,Bool.or_eq_false_iff,decide_eq_false_iff_not] at h1
  obtain ⟨a1,a2,a3,a4,a5,a6⟩:=h1
  simp only [jv,Bool.and_eq_true,Bool.not_eq_true',decide_eq_false_iff_not] at h2
  obtain ⟨b1,b2,b3,b4,b5,b6,b7⟩:=h2
  have hcl:∀ (i:Nat) (k:Zan),c.Zag[i]?=some k→vG c.Zae.length c.Zav c.Zai c.Zag.length i k=true:=fun i k hk=>by
    have:=h3 i (List.getElem?_eq_some_iff.1 hk).1
    simp only [clB,hk] at this
    exact this
  refine ⟨⟨by omega,by omega⟩,⟨by omega,by omega⟩,by omega,by omega,by omega,by omega,?_,fun k hk => ?_,fun i k hk s hs => ?_⟩
  · rcases zhC ho b7 with h | h<;>omega
  · obtain ⟨i,hi,e⟩:=List.getElem_of_mem hk
    have:=hcl i k (by rw [←e];exact List.getElem?_eq_getElem hi)
    simp only [vG,Bool.and_eq_true,Bool.not_eq_true',decide_eq_false_iff_not] at this
    omega
  · have:=hcl i k hk
    simp only [vG,Bool.and_eq_true] at this
    have:=List.all_eq_true.1 this.2.2.1 s hs
    simp only [WT,Bool.and_eq_true,Bool.not_eq_true',decide_eq_false_iff_not,beq_eq_false_iff_ne] at this
    exact ⟨by omega,by omega,this.2.2.1⟩
theorem kT {α:Type} {by_:Nat} {l:List α} (h:l.length*by_≤140737488355328):jm by_ l=some l:=by unfold jm;rw [if_pos h]
theorem kU {f:Nat→Unit→Option (Unit ⊕ Unit)} {n:Nat} (p:Nat→Bool) (hn:n < 4611686018427387904) (h:∀ j,j < n→f j ()=some (bif p j then .inl () else .inr ())) :
    forR (n:Int) f ()=some (bif (List.range n).all p then .inl () else .inr ()):=by
  rw [jn p (fun _=>()) hn h]
  cases hf:(List.range n).find? (fun j=>!p j) with
  | none=>
    have:(List.range n).all p=true:=List.all_eq_true.2 fun j hj=>wB hf j (List.mem_range.1 hj)
    rw [this];rfl
  | some k=>
    obtain ⟨h1,h2,_⟩:=wC hf
    have:(List.range n).all p=false:=by
      rw [Bool.eq_false_iff]
      intro h
      have:=List.all_eq_true.1 h k (List.mem_range.2 h1)
      rw [h2] at this;cases this
    rw [this];rfl
theorem x6 {α ρ:Type} {f:Nat→List α→Option (List α ⊕ ρ)} (s0:List α) (F:Nat→α→α) (hl:s0.length < 4611686018427387904)
    (h:∀ (i:Nat) (m:α) (s:List α),s0[i]?=some m→s.length=s0.length→s[i]?=some m→f i s=some (.inl (s.set i (F i m)))) :
    forR (s0.length:Int) f s0=some (.inl (s0.mapIdx F)):=by
  obtain ⟨o,h1,h2⟩:=wV (n:=s0.length) (s0:=s0) (f:=f) (fun i s=>s.length=s0.length∧∀ j,s[j]?=if j < i then (s0[j]?).map (F j) else s0[j]?) (fun _=>False) hl ⟨rfl,fun j=>by simp⟩ (fun i s hi ⟨a,b⟩=>by
    have hs:s[i]?=some s0[i]:=by rw [b i,if_neg (by omega),List.getElem?_eq_getElem hi]
    refine ⟨_,h i s0[i] s (List.getElem?_eq_getElem hi) a hs,by simpa using a,fun j => ?_⟩
    rw [List.getElem?_set]
    by_cases hij:i=j
    · subst hij
      rw [if_pos rfl,if_pos (by omega),if_pos (by omega),List.getElem?_eq_getElem hi];rfl
    · rw [if_neg hij,b j]
      by_cases h3:j < i
      · rw [if_pos h3,if_pos (by omega)]
      · rw [if_neg h3,if_neg (by omega)])
  rw [h1]
  cases o with
  | inr r=>exact h2.elim
  | inl s=>
    obtain ⟨a,b⟩:=h2
    congr 2
    refine List.ext_getElem? fun j => ?_
    rw [b j,List.getElem?_mapIdx]
    by_cases hj:j < s0.length
    · rw [if_pos hj]
    · rw [if_neg hj,List.getElem?_eq_none (by omega)];rfl
def xe (Zaj:List zw) (s:CondT):Bool:=match ze Zaj s.clause with
  | some m=>bif s.is == 1 then !(m.Zam == 0) else bif s.is == 2 then m.Zam == 3 else bif s.is == 3 then m.Zam == 4 else bif s.is == 4 then m.Zam == 5 else false
  | none=>false
def jV (ks:List Zan) (Zaj:List zw) (i:Nat):Bool:=match ks[i]?,Zaj[i]? with
  | some k,some m=>(m.Zam == 0 && !k.ZaB)&&k.start.all (xe Zaj)
  | _,_=>false
def kx (Zao:Int) (k:Zan) (m:zw):Bool:=
  !(k.ZaB||(decide (m.left < 1)||(m.ZaA&&k.pause == -1)))&&(((m.got == 0)||(k.kind == 1 && !(decide (m.got < 0)||decide (k.need≤m.got)))) &&
    (bif k.kind == 4 then m.Zau == -1 else decide (0≤m.Zau)&&decide (m.Zau < Zao)))
def Ka (m:zw):Bool:=(m.Zam == 0)&&((m.left == 0)&&((m.got == 0)&&((m.Zau == (-1))&&((m.ZaA == false)&&true))))
def zcM (Zao:Int) (m:zw):Bool:=(m.left == 0)&&(decide (0≤m.got)&&(decide (m.got≤9)&&(decide ((-1)≤m.Zau)&&(decide (m.Zau < Zao) && !m.ZaA))))
def jh (Zao:Int) (k:Zan) (m:zw):Bool:=
  bif m.Zam == 0 then !k.ZaB&&Ka m else bif m.Zam == 1 then decide (m.left≤k.after)&&kx Zao k m
  else bif m.Zam == 2 then k.kind == 1&&(decide (m.left≤k.Zay)&&kx Zao k m) else (m.Zam == 3||(m.Zam == 4||m.Zam == 5))&&zcM Zao m
theorem zcN (c:Zab) (k:Zan) (m:zw):wX c k m=some (kx c.Zao k m):=by
  simp only [wX,kx,zn,ZaI]
  cases k.ZaB<;>cases decide (m.left < 1)<;>cases m.ZaA<;>cases (k.pause == -1)<;>cases (m.got == 0)<;>cases (k.kind == 1)<;>cases decide (m.got < 0)<;>cases decide (k.need≤m.got)<;>cases (k.kind == 4)<;>cases decide (0≤m.Zau)<;>rfl
theorem zbh (c:Zab) (i:Nat) (k:Zan) (m:zw) (hk:c.Zag[i]?=some k):ya c i m=some (jh c.Zao k m):=by
  unfold ya
  rw [zl hk]
  simp only [ZaI,zcN,zn,jh,Ka,zcM]
  cases (m.Zam == 0)
  · cases (m.Zam == 1)
    · cases (m.Zam == 2)
      · cases (m.Zam == 3)<;>cases (m.Zam == 4)<;>cases (m.Zam == 5)<;>cases (m.left == 0)<;>cases decide (0≤m.got)<;>cases decide (m.got≤9)<;>cases decide ((-1)≤m.Zau)<;>cases decide (m.Zau < c.Zao)<;>rfl
      · cases (k.kind == 1)<;>cases decide (m.left≤k.Zay)<;>rfl
    · cases decide (m.left≤k.after)<;>rfl
  · cases k.ZaB<;>rfl
theorem zbM (c:Zab) (s:Zac) (i:Nat) (k:Zan) (m:zw) (hk:c.Zag[i]?=some k) (hm:s.Zaj[i]?=some m) (hst:k.start.length < 4611686018427387904)
    (hc:∀ x∈k.start,0≤x.clause∧x.clause < s.Zaj.length):vA c s i=some (jV c.Zag s.Zaj i):=by
  unfold vA jV
  rw [zl hm,zl hk,hk,hm]
  simp only [ZaI]
  rw [ku (l:=k.start) (xe s.Zaj) hst (fun j hj=>by
    obtain ⟨h0,h1⟩:=hc _ (List.getElem_mem hj)
    obtain ⟨h2,h3⟩:=jd h0 h1
    simp only [qq,List.getElem?_eq_getElem hj,ZaI,h3,xe,zn])]
  simp only [ZaI,zn]
  cases (m.Zam == 0)<;>cases k.ZaB<;>cases k.start.all (xe s.Zaj)<;>rfl
def JS (Zai:List Zaq) (used:List Bool) (i:Nat):Bool:=match Zai[i]?,used[i]? with
  | some a,some u=>!(u&&a.kind == 1)
  | _,_=>false
def ky (c:Zab) (Zaj:List zw) (i:Nat):Bool:=match c.Zag[i]?,Zaj[i]? with
  | some k,some m=>jh c.Zao k m && !jV c.Zag Zaj i
  | _,_=>false
noncomputable def vsB (c:Zab) (s:Zac):Bool:=
  ((qe c).1 == 0)&&((!(decide (s.day < 0))&&(!(decide (c.Zat < s.day))&&((s.Zae.length:Int) == c.Zae.length&&((s.used.length:Int) == c.Zai.length&&(s.Zaj.length:Int) == c.Zag.length)))) &&
    (yb c.Zao s.Zae&&((List.range s.used.length).all (JS c.Zai s.used)&&(List.range s.Zaj.length).all (ky c s.Zaj))))
theorem kz (c:Zab) (s:Zac) (hc:c.Ok):xc c s=some (vsB c s):=by
  unfold xc vsB
  rw [hc.valid]
  simp only [ZaI]
  cases hv:((qe c).1 == 0) with
  | false=>rfl
  | true=>
    have sm:=qr (hc.off.lt (by omega)) (beq_iff_eq.1 hv)
    simp only [cond_true,zn,ZaI,Bool.true_and]
    cases h1:decide (s.day < 0)<;>cases h2:decide (c.Zat < s.day)<;>cases h3:((s.Zae.length:Int) == c.Zae.length)<;>cases h4:((s.used.length:Int) == c.Zai.length)<;>cases h5:((s.Zaj.length:Int) == c.Zag.length)<;>try rfl
    simp only [cond_true,ZaH,Bool.not_true,Bool.not_false,Bool.true_and]
    have e3:=beq_iff_eq.1 h3
    have e4:=beq_iff_eq.1 h4
    have e5:=beq_iff_eq.1 h5
    have:=sm.Zae
    have:=sm.Zai
    have:=sm.Zag
    rw [ku (l:=s.Zae) (fun h=>decide (0≤h)&&decide (h < c.Zao)) (by omega) (fun j hj=>by
      simp only [qq,List.getElem?_eq_getElem hj,ZaI,zn]
      generalize s.Zae[j]=h
      by_cases a:h < 0
      · have b:¬ 0≤h:=by omega
        simp [a,b]
      · have b:0≤h:=by omega
        by_cases d:h < c.Zao
        · have d':¬ c.Zao≤h:=by omega
          simp [a,b,d,d']
        · have d':c.Zao≤h:=by omega
          simp [a,b,d,d'])]
    rw [kU (n:=s.used.length) (JS c.Zai s.used) (by omega) (fun j hj=>by
      have hj':j < c.Zai.length:=by omega
      simp only [qq,List.getElem?_eq_getElem hj,List.getElem?_eq_getElem hj',ZaI,zn,JS]
      cases s.used[j]<;>cases (c.Zai[j].kind == 1)<;>rfl)]
    rw [kU (n:=s.Zaj.length) (ky c s.Zaj) (by omega) (fun j hj=>by
      have hj':j < c.Zag.length:=by omega
      have hk:=List.getElem?_eq_getElem hj'
      have hm:=List.getElem?_eq_getElem hj
      simp only [qq,hm,ZaI]
      rw [zbh c j _ _ hk,zbM c s j _ _ hk hm (by have:=sm.start _ (List.getElem_mem hj');omega) (fun x hx=>by have:=sm.cond j _ hk x hx;omega)]
      simp only [ZaI,ky,hk,hm]
      cases jh c.Zao c.Zag[j] s.Zaj[j]<;>cases jV c.Zag s.Zaj j<;>rfl)]
    simp only [yb,ZaI]
    cases s.Zae.all (fun h=>decide (0≤h)&&decide (h < c.Zao))<;>cases (List.range s.used.length).all (JS c.Zai s.used)<;>cases (List.range s.Zaj.length).all (ky c s.Zaj)<;>rfl
structure VS (c:Zab) (s:Zac):Prop where
  cv:(qe c).1=0
  day:0≤s.day∧s.day≤c.Zat
  lh:s.Zae.length=c.Zae.length
  lu:s.used.length=c.Zai.length
  lm:s.Zaj.length=c.Zag.length
  hold:∀ h∈s.Zae,0≤h∧h < c.Zao
  used:∀ (i:Nat) (a:Zaq),c.Zai[i]?=some a→s.used[i]?=some true→a.kind≠1
  mrk:∀ (i:Nat) (k:Zan) (m:zw),c.Zag[i]?=some k→s.Zaj[i]?=some m→jh c.Zao k m=true
  rdy:∀ i,i < c.Zag.length→jV c.Zag s.Zaj i=false
theorem zkR {c:Zab} {s:Zac} (h:vsB c s=true):VS c s:=by
  simp only [vsB,Bool.and_eq_true,Bool.not_eq_true',decide_eq_false_iff_not,beq_iff_eq,List.all_eq_true,List.mem_range,yb,decide_eq_true_eq] at h
  obtain ⟨h1,⟨h2,h3,h4,h5,h6⟩,h7,h8,h9⟩:=h
  refine ⟨h1,⟨by omega,by omega⟩,by omega,by omega,by omega,fun x hx=>h7 x hx,fun i a ha hu hk => ?_,fun i k m hk hm => ?_,fun i hi => ?_⟩
  · have:=h8 i (by have:=(List.getElem?_eq_some_iff.1 hu).1;exact this)
    simp only [JS,ha,hu,hk] at this
    cases this
  · have:=h9 i (List.getElem?_eq_some_iff.1 hm).1
    simp only [ky,hk,hm,Bool.and_eq_true] at this
    exact this.1
  · have hi':i < s.Zaj.length:=by omega
    have:=h9 i hi'
    simp only [ky,List.getElem?_eq_getElem hi,List.getElem?_eq_getElem hi',Bool.and_eq_true,Bool.not_eq_true'] at this
    exact this.2
theorem WU {c:Zab} {s:Zac} (h:VS c s):vsB c s=true:=by
  have hd:=h.day
  have h4:=h.lh
  have h5:=h.lu
  have h6:=h.lm
  simp only [vsB,Bool.and_eq_true,Bool.not_eq_true',decide_eq_false_iff_not,beq_iff_eq,List.all_eq_true,List.mem_range,yb,decide_eq_true_eq]
  refine ⟨h.cv,⟨by omega,by omega,by omega,by omega,by omega⟩,fun x hx=>h.hold x hx,fun i hi => ?_,fun i hi => ?_⟩
  · have hi':i < c.Zai.length:=by omega
    have ha:=List.getElem?_eq_getElem hi'
    have hu:=List.getElem?_eq_getElem hi
    simp only [JS,ha,hu]
    cases hq:s.used[i] with
    | false=>rfl
    | true=>
      have:=h.used i _ ha (by rw [hu,hq])
      simp [this]
  · have hi':i < c.Zag.length:=by omega
    have ha:=List.getElem?_eq_getElem hi'
    have hu:=List.getElem?_eq_getElem hi
    simp only [ky,ha,hu,Bool.and_eq_true,Bool.not_eq_true']
    exact ⟨h.mrk i _ _ ha hu,h.rdy i hi'⟩
end Go.Proofs.YtlpmnmbebkdocaaGreatDoor
