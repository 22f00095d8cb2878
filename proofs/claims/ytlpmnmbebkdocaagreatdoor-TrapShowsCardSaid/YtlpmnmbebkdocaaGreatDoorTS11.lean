/-
  Functions of the program: what they compute, and plans of their code that the kernel checks (printed by a program of ours).
  What 'contract.Valid' comes to.
  What Valid says.
  What 'slices.BinarySearch' comes to; sizes of valid contracts.
  What 'system.Valid' comes to.
-/
import Derived.Test.YtlpmnmbebkdocaaGreatDoorTS10
import Derived.Test.YtlpmnmbebkdocaaGreatDoorTS06
import Derived.Test.YtlpmnmbebkdocaaGreatDoorTS07
namespace Go.Proofs.YtlpmnmbebkdocaaGreatDoor
open Go.RowKit
set_option linter.unusedSimpArgs false
set_option linter.unusedVariables false
set_option maxRecDepth 100000
noncomputable def yP (c:Zab) (states:List Zac):Option (Option (List (Int×Zax))):=
  (Option.bind (forR (σ:=(List (ByteArray×Int))) (ρ:=Unit) (states.length:Int) (fun i1 s1=>(Option.bind (ze states (i1:Int)) fun e1=>(Option.bind (wA e1) fun r1=>some (.inl (zP r1 (i1:Int) s1))))) []) (Sum.elim (fun (s1:(List (ByteArray×Int)))=>(Option.bind (forR (σ:=(List (Int×Zax))) (ρ:=Unit) (states.length:Int) (fun i2 s2=>(Option.bind (Option.bind (ze states (i2:Int)) fun e2=>(bif (e2.day == c.Zat) then some s2 else (Option.bind (iter (σ:=Int×(List (Int×Zax))) (ρ:=(List (Int×Zax))) (fun s3=>(bif decide (s3.1 < (c.Zaj.length:Int)) then (Option.bind (Option.bind (d_Step c e2 s3.1) fun r2=>(Option.bind (wA r2.1) fun r3=>(Option.bind (bif ((zp ((zp r3 s1).getD 0) s3.2).isSome) then some false else some (!(((zp r3 s1).getD 0) == 0))) fun v1=>(bif v1 then some (zP ((zp r3 s1).getD 0) ({from_:=(i2:Int),step:=s3.1}:Zax) s3.2) else some s3.2)))) fun (v2:(List (Int×Zax)))=>some (.inl ((IntKind.i64.wrap (s3.1+1)),v2))) else some (.inr s3.2))) ((-1),s2)) (fun (y1:(List (Int×Zax)))=>some y1)))) fun (v3:(List (Int×Zax)))=>some (.inl v3))) []) (Sum.elim (fun (s2:(List (Int×Zax)))=>some (some s2)) (fun _=>none)))) (fun _=>none)))
noncomputable def zhq (c:Zab) (states:List Zac):Zad (Option (List (Int×Zax))):=
  .reg 2 (.ln 2174 Zac.row states (.use 1 2174 (.forR (σ:=(List (ByteArray×Int))) (ρ:=Unit) 2116 20 (states.length:Int) [] (.k [1,2,5,18,19] (fun _=>[]) [0] (fun s1=>[(2,.map (zu IV.str IV.i64 s1))]) 7 fun _=>(.ents rfl .nil)) (fun i1 s1=>.sel 2116 (.reg 0 (.ix 2152 Zac.row states (i1:Int) fun e1=>.use 1 2152 (.reg 0 (.call 2154 (zbF e1) fun r1=>.use 2 2154 (.f1 2156 (.u (zu IV.str IV.i64 (zP r1 (i1:Int) s1))) (xJ IV.i64 r1 (i1:Int) s1) (.use 4 2156 (.ret (.inl (zP r1 (i1:Int) s1)))))))))) fun os1=>.case os1 (fun s1=>.sel 2116 (.reg 1 (.ln 2172 Zac.row states (.use 1 2172 (.forR (σ:=(List (Int×Zax))) (ρ:=Unit) 2118 33 (states.length:Int) [] (.k [2,5,8,31,32] (fun _=>[]) [0] (fun s2=>[(2,.map (zu IV.str IV.i64 s1)),(8,.map (zu IV.i64 Zax.iv s2))]) 13 fun _=>(.ents rfl (.ents rfl .nil))) (fun i2 s2=>.sel 2118 (.cut (β:=(List (Int×Zax))) 1 (.k [2,5,8,31,32,33] (fun _=>[]) [0] (fun v3=>[(2,.map (zu IV.str IV.i64 s1)),(8,.map (zu IV.i64 Zax.iv v3))]) 25 fun _=>(.ents rfl (.ents rfl .nil))) (.reg 0 (.ix 2158 Zac.row states (i2:Int) fun e2=>.use 1 2158 (.ite 2136 (e2.day == c.Zat) (.sel 2136 (.ret s2)) (.sel 2136 (.iter (σ:=Int×(List (Int×Zax))) (ρ:=(List (Int×Zax))) ((-1),s2) (.k [2,5,8,31,32,33,10,9] (fun s3=>[(11,vI s3.1)]) [0,17] (fun s3=>[(2,.map (zu IV.str IV.i64 s1)),(8,.map (zu IV.i64 Zax.iv s3.2))]) 26 fun _=>(.ents rfl (.ents rfl .nil))) (fun s3=>.reg 0 (.ln 2170 Zaq.row c.Zaj (.use 3 2170 (.ite 2146 (decide (s3.1 < (c.Zaj.length:Int))) (.sel 2146 (.cut (β:=(List (Int×Zax))) 1 (.k [2,5,8,31,32,33,10,9,11] (fun _=>[]) [0,17] (fun v2=>[(2,.map (zu IV.str IV.i64 s1)),(8,.map (zu IV.i64 Zax.iv v2))]) 61 fun _=>(.ents rfl (.ents rfl .nil))) (.reg 0 (.call 2160 (Zz c e2 s3.1) fun r2=>.use 3 2160 (.reg 0 (.call 2162 (zbF r2.1) fun r3=>.use 2 2162 (.f1 2168 (.l (vI ((zp r3 s1).getD 0)) ((zp r3 s1).isSome)) (wQ IV.i64 0 r3 s1) (.use 3 2168 (.reg 0 (.f1 2166 (.l (.imm (.agg (Zax.row ((zp ((zp r3 s1).getD 0) s3.2).getD ({from_:=0,step:=0}:Zax))))) ((zp ((zp r3 s1).getD 0) s3.2).isSome)) (V9 Zax.iv ({from_:=0,step:=0}:Zax) ((zp r3 s1).getD 0) s3.2) (.use 2 2166 (.cut (β:=Bool) 1 (.k [2,5,8,31,32,33,10,9,11,14] (fun v1=>[(72,vB v1)]) [0,17,38,52] (fun _=>[(2,.map (zu IV.str IV.i64 s1)),(8,.map (zu IV.i64 Zax.iv s3.2))]) 61 fun _=>(.ents rfl (.ents rfl .nil))) (.reg 0 (.ite 2148 ((zp ((zp r3 s1).getD 0) s3.2).isSome) (.use 3 2149 (.ret false)) (.use 3 2149 (.ret (!(((zp r3 s1).getD 0) == 0)))))) fun v1=>.ite 2150 v1 (.sel 2150 (.reg 0 (.f1 2164 (.u (zu IV.i64 Zax.iv (zP ((zp r3 s1).getD 0) ({from_:=(i2:Int),step:=s3.1}:Zax) s3.2))) (zfo Zax.iv ((zp r3 s1).getD 0) ({from_:=(i2:Int),step:=s3.1}:Zax) s3.2) (.use 5 2164 (.ret (zP ((zp r3 s1).getD 0) ({from_:=(i2:Int),step:=s3.1}:Zax) s3.2)))))) (.sel 2150 (.ret s3.2)))))))))))) fun v2=>.ret (.inl ((IntKind.i64.wrap (s3.1+1)),v2)))) (.sel 2146 (.ret (.inr s3.2))))))) fun y1=>.ret y1))))) fun v3=>.ret (.inl v3))) fun os2=>.case os2 (fun s2=>.sel 2118 (.fin [8] (.map 8) [(8,.map (zu IV.i64 Zax.iv s2))] (qC IV.i64 Zax.iv (some s2)) (jt _ _ _ (zD (zka IV.i64 Zax.iv 8 s2 rfl) jH)) (some s2))) fun _=>.none))))) fun _=>.none)))
theorem zhr (c:Zab) (states:List Zac) (res:Option (List (Int×Zax))) (hd:yP c states=some res):APure C0 205 [.agg (Zab.row c),.slice (List.map Zac.row states)] (qC IV.i64 Zax.iv res):=
  Zad.pure (iv:=fun res=>qC IV.i64 Zax.iv res) (zhq c states) (by kernel_rfl) (Zad.run_of hd (by kernel_rfl))
noncomputable def km (p1:List Int):Option (List Int):=
  (Option.bind (iter (σ:=Int×Int×(List Int)) (ρ:=(List Int)) (fun s1=>(bif decide (s1.1 < s1.2.1) then (Option.bind (zk p1.length s1.2.1) fun k1=>(Option.bind (s1.2.2[k1]?) fun e1=>(Option.bind (zk p1.length s1.1) fun k2=>(Option.bind (s1.2.2[k2]?) fun e2=>(Option.bind ((s1.2.2.set k2 e1)[k1]?) fun e3=>some (.inl ((IntKind.i64.wrap (s1.1+1)),(IntKind.i64.wrap (s1.2.1 - 1)),((s1.2.2.set k2 e1).set k1 e2)))))))) else some (.inr s1.2.2))) (0,(IntKind.i64.wrap ((p1.length:Int) - 1)),p1)) (fun (y1:(List Int))=>some y1))
noncomputable def zi4 (p1:List Int):Zad (List Int):=
  .iter (σ:=Int×Int×(List Int)) (ρ:=(List Int)) (0,(IntKind.i64.wrap ((p1.length:Int) - 1)),p1) (.k [0] (fun s1=>[(2,vI s1.1),(3,vI s1.2.1)]) [] (fun s1=>[(0,.rows 1 (zb zc s1.2.2))]) 6 fun _=>(.rows rfl .nil)) (fun s1=>.ite 2180 (decide (s1.1 < s1.2.1)) (.sel 2180 (.reg 0 (.b1 2182 (zk p1.length s1.2.1) (fun k1=>.k k1) (fun k1 hk1=>(zs hk1)) fun k1=>.b1 2184 (s1.2.2[k1]?) (fun e1=>.ar (zz (zc e1))) (fun e1 he1=>(zU zc he1)) fun e1=>.b1 2186 (zk p1.length s1.1) (fun k2=>.k k2) (fun k2 hk2=>(zs hk2)) fun k2=>.bind (s1.2.2[k2]?) (fun e2=>[(2188,([.ar (zz (zc e2))],_)),(2190,([.aw (zz (zc e2)) (zb zc (s1.2.2.set k2 e1))],_))]) (fun e2 he2=>(.c1 (zU zc he2) (.c1 (zY zc e1 he2) .nil))) fun e2=>.b1 2192 ((s1.2.2.set k2 e1)[k1]?) (fun e3=>.aw (zz (zc e3)) (zb zc ((s1.2.2.set k2 e1).set k1 e2))) (fun e3 he3=>(zY zc e2 he3)) fun e3=>.us [(6,2182),(7,2184),(10,2186),(11,2188),(12,2186),(13,2190),(14,2182),(15,2192)] (.ret (.inl ((IntKind.i64.wrap (s1.1+1)),(IntKind.i64.wrap (s1.2.1 - 1)),((s1.2.2.set k2 e1).set k1 e2))))))) (.sel 2180 (.ret (.inr s1.2.2)))) fun y1=>.ret y1
theorem zi5 (p1:List Int) (res:(List Int)) (hd:km p1=some res):DOk C0 213 [.Zak 0 0 p1.length] [(0,.rows 1 (zb zc p1))] 1 (.tuple []) [(0,.rows 1 (zb zc res))] 0:=
  Zad.det (R:=fun res=>.tuple []) (H:=fun res=>[(0,.rows 1 (zb zc res))]) (zi4 p1) (.rows rfl .nil) (fun _=>(.rows rfl .nil)) (by kernel_rfl) (fun _=>by kernel_rfl) (by kernel_rfl) (Zad.run_of hd (by kernel_rfl))
noncomputable def jM (came:Option (List (Int×Zax))) (n:Int):Zax:=(zp n (came.getD [])).getD ({from_:=0,step:=0}:Zax)
noncomputable def Qj (came:Option (List (Int×Zax))) (s:List Int×Int):Option ((List Int×Int) ⊕ List Int):=
  bif (!(s.2 == 0)) then Option.bind (zfm (α:=Int) 8 s.1 [(jM came s.2).step]) fun e=>some (.inl (e,(jM came s.2).from_)) else some (.inr s.1)
noncomputable def Qk (came:Option (List (Int×Zax))) (n:Int):Option (List Int):=
  Option.bind (iter (σ:=List Int×Int) (ρ:=List Int) (Qj came) ([],n)) fun l=>Option.bind (km l) fun r=>Option.bind (eqN l.length r.length) fun _=>some r
theorem zeo {C:CtxY} {nt:Fr} {x:ZaG} {K:Exit→St→Prop} {st:St} {σ ρ γ:Type} {f:σ→Option (σ ⊕ ρ)} {s0:σ} {out:ρ} (hl:iter f s0=some out)
    (Ok:σ→γ→Prop) (S:σ→γ→St) (hmin:∀ s c,Ok s c→st.next≤(S s c).next) (c0:γ) (hok0:Ok s0 c0) (hn0:(S s0 c0).next=st.next) (h0:Weak st (S s0 c0))
    (body:∀ (s:σ) (c:γ) (o:σ ⊕ ρ),Ok s c→f s=some o→awp C nt x (zkb Ok S K (.inr out) o) (S s c)):awp C nt (.loop x) K st:=by
  obtain ⟨k,hk⟩:=wu.1 hl
  refine Xp (ι:={p:Nat×σ×γ // iterN f p.1 p.2.1=some out∧Ok p.2.1 p.2.2}) (fun p=>S p.1.2.1 p.1.2.2) (fun p=>p.1.1) ⟨(k,s0,c0),hk,hok0⟩ (fun p=>by rw [hn0];exact hmin _ _ p.2.2) h0 (Nat.le_of_eq hn0.symm) ?_
  rintro ⟨⟨i,s,c⟩,hf,hok⟩
  simp only at hf hok
  cases i with
  | zero=>cases hf
  | succ i=>
    simp only [iterN] at hf
    split at hf
    · cases hf
    · rename_i r hr
      cases hf
      refine qR ?_ (body s c _ hok hr)
      intro e st' hK
      cases e with
      | normal=>obtain ⟨s',_,h1,_⟩:=hK;cases h1
      | _=>obtain ⟨y,h1,h2⟩:=hK;cases h1;exact h2 rfl
    · rename_i s' hr
      refine qR ?_ (body s c _ hok hr)
      intro e st' hK
      cases e with
      | normal=>
        obtain ⟨s'',c'',h1,h2,h3⟩:=hK
        cases h1
        exact ⟨⟨(i,s',c''),hf,h2⟩,by simp only;omega,h3⟩
      | _=>obtain ⟨y,h1,h2⟩:=hK;cases h1
theorem yw {C:CtxY} {K:St→Prop} {dst:Option Nat} {op:AOp} {rest:List AItem} {env:List (Nat×AV)} {heap:List (Nat×Zae)} {next:Nat} (r:AV) (ups:List (Nat×Zae)) (hc:(match op with | .call _ _=>true | _=>false)=false)
    (he:evalOp op (zd env) (za heap) next=some (r,ups)) (hn:evl C rest K (St.after ⟨env,heap,next⟩ dst r ups)):evl C (⟨dst,op,none⟩::rest) K ⟨env,heap,next⟩:=by
  rw [KF,V5]
  have e:∀ K,evOp C dst K ⟨env,heap,next⟩ op=zT dst K ⟨env,heap,next⟩ (evalOp op (zd env) (za heap) next):=fun KD=>by
    cases op<;>first | rfl | exact Bool.noConfusion hc
  rw [e,he]
  exact hn
theorem zfN {ev:Opd→AV} {h:Nat→Option Zae} {id:Nat} {a b:Opd} {zero:AV} {k:Int} {y:IV} {x:AV} {bb:Bool} (hp:zcg false zero (.int .i64 k) y x bb) (ha:ev a=.imm y) (hb:ev b=vI k):evalOp (.look false zero false a b) ev h id=some (x,[]):=by
  obtain ⟨es,h1,h2,h3⟩:=hp
  have h1':jr h (.imm y)=some es:=by
    rw [←h1];cases y<;>rfl
  simp only [evalOp,ha,hb,vI,h1',h2,if_pos]
  rcases h3 with ⟨h4,_⟩ | ⟨h4,h5,_⟩
  · rw [h4];rfl
  · rw [h4];simp [h5]
theorem zhs {ev:Opd→AV} {h:Nat→Option Zae} {id:Nat} {a:Opd} (off:Nat) {x:Zax} {v:Int} (ha:ev a=.imm (Zax.iv x)) (ho:off < 2) (hv:x.row[off]?=some (.int .i64 v)):evalOp (.cut false off 1 a) ev h id=some (vI v,[]):=by
  simp only [evalOp,ha,Zax.iv,ZO]
  have hl:(x.row.map AV.imm).length=2:=rfl
  rw [if_pos (by omega)]
  simp only [Bool.false_eq_true,if_false,List.getElem?_map,hv,Option.map_some,vI]
theorem zht {ev:Opd→AV} {h:Nat→Option Zae} {id Q B k:Nat} {a b:Opd} {v:AV} {rows:List (List AV)} (ha:ev a=.Zak Q 0 k) (hb:ev b=.Zak B 0 1) (hB:h B=some (.rows 1 [[v]])) (hQ:h Q=some (.rows 1 rows)) (hk:k=rows.length) (hl:(k+1)*8≤140737488355328) :
    evalOp (.app 1 8 a b) ev h id=some (.Zak id 0 (k+1),[(id,.rows 1 (rows++[[v]])),(Q,.dead)]):=by
  subst hk
  simp [evalOp,ha,hb,QA,jF,hB,hQ,hl]
theorem zkK {C:CtxY} {nt:Fr} (came:Option (List (Int×Zax))) (n:Int) (x7:AV) (l:List Int) (Q N:Nat) (hQN:Q < N) (hl:(l.length+1)*8≤140737488355328) (P:Exit→St→Prop)
    (h:P .normal ⟨[(0,.imm (qC IV.i64 Zax.iv came)),(1,vI n),(5,.Zak (N+6) 0 (l.length+1))],zJ (zJ (zJ [(Q,Zae.rows 1 (zb zc l))] (N+5) (Zae.rows 1 [[vI (jM came n).step]])) Q Zae.dead) (N+6) (Zae.rows 1 (zb zc l++[[vI (jM came n).step]])),N+8⟩) :
    awp C nt (.region false [] Vt (some [0,1,5])) P ⟨[(0,.imm (qC IV.i64 Zax.iv came)),(1,vI n),(5,.Zak Q 0 l.length),(7,x7)],[(Q,.rows 1 (zb zc l))],N⟩:=by
  refine JE ?_
  unfold Vt
  refine yw _ _ rfl rfl ?_
  refine yw _ _ rfl rfl ?_
  refine yw _ _ rfl rfl ?_
  refine yw (.imm (Zax.iv (jM came n))) [] rfl (zfN (Wk Zax.iv ({from_:=0,step:=0}:Zax) n came) rfl rfl) ?_
  refine yw (vI (jM came n).step) [] rfl (zhs 1 rfl (by omega) rfl) ?_
  refine yw (.Zak (N+5) 0 1) [(N+5,.rows 1 [[vI (jM came n).step]])] rfl rfl ?_
  have hB:za (zJ [(Q,Zae.rows 1 (zb zc l))] (N+5) (Zae.rows 1 [[vI (jM came n).step]])) (N+5)=some (.rows 1 [[vI (jM came n).step]]):=by rw [z1,if_pos rfl]
  have hQ1:za (zJ [(Q,Zae.rows 1 (zb zc l))] (N+5) (Zae.rows 1 [[vI (jM came n).step]])) Q=some (.rows 1 (zb zc l)):=by rw [z1,if_neg (by omega)];simp [za]
  refine yw _ _ rfl (zht rfl rfl hB hQ1 (by simp [zb]) hl) ?_
  refine yw _ _ rfl rfl ?_
  exact h
theorem zkL {nt:Fr} (x0 x1 x7:AV) (l r:List Int) (hr:km l=some r) (Q N:Nat) (hQN:Q < N) (P:Exit→St→Prop)
    (h:P .normal ⟨[(5,.Zak Q 0 l.length)],[(Q,.rows 1 (zb zc r))],N+2⟩) :
    awp C0.plain nt (.region false [] Vu (some [5])) P ⟨[(0,x0),(1,x1),(5,.Zak Q 0 l.length),(7,x7)],[(Q,.rows 1 (zb zc l))],N⟩:=by
  refine JE ?_
  have hd:=zi5 l r hr
  simp only [Vu,KF,zgZ,V5,ze5,evalOp,zg0,Wc,zdE,reduceIte,Option.getD_some,Wa,Wb,QU,Wd,V6,zdD,List.map_cons,List.map_nil,za2,List.nil_append,List.append_nil,List.cons_append,KG,Nat.reduceEqDiff,if_false]
  refine ACall.det (l:=[Q]) (zi hd [Q] (N+1) (.keep .nil) (rhI rhN) (rhI rhN)) ?_ ?_ ?_
  · simp only [kb,Zo,List.length_cons,List.length_nil,List.all_cons,List.all_nil]
    simp;try omega
  · simp [xw,za,phi]
  · simp only [yM,St.put,Wa,Wb,QU,Wd,V6,Nat.reduceEqDiff,if_false,reduceIte,Wc,Option.getD_some,zdC,YL]
    simp [qx,List.filter,phi,wP,zJ]
    exact h
def SW (came:Option (List (Int×Zax))) (s:List Int×Int) (Q:Nat):St:=⟨[(0,.imm (qC IV.i64 Zax.iv came)),(1,vI s.2),(5,.Zak Q 0 s.1.length)],[(Q,.rows 1 (zb zc s.1))],Q+1⟩
set_option maxHeartbeats 4000000 in
theorem zkM (came:Option (List (Int×Zax))) (n:Int) (res:List Int) (hd:Qk came n=some res):APure C0 206 [qC IV.i64 Zax.iv came,.int .i64 n] (.slice (List.map zc res)):=by
  unfold Qk at hd
  obtain ⟨l,hl,hd⟩:=jQ hd
  obtain ⟨r,hr,hd⟩:=jQ hd
  obtain ⟨⟨hlen⟩,_,hd⟩:=jQ hd
  have ee:=Option.some.inj hd;subst ee
  refine APure.start (d:=2) zkg (by simp [Y7]) ?_
  intro B
  show awp C0.plain _ Y7.body (yF Y7.results _) ⟨[(0,.imm (qC IV.i64 Zax.iv came)),(1,vI n)],[],0⟩
  refine xo ?_
  refine kc (st':=⟨[(0,.imm (qC IV.i64 Zax.iv came)),(1,vI n)],[],1⟩) [] .nil ?_ (by kernel_rfl)
  refine yh ?_
  refine xo ?_
  refine kc (st':=⟨[(0,.imm (qC IV.i64 Zax.iv came)),(1,vI n),(5,.nil)],[],2⟩) [] .nil ?_ (by kernel_rfl)
  refine yh ?_
  refine xo ?_
  refine kK ?_
  refine Xo (Yb (t:=5) 1 rfl) (by simp) ?_
  show awp C0.plain _ _ _ ⟨[(0,.imm (qC IV.i64 Zax.iv came)),(1,vI n),(5,.Zak 2 0 0)],[(2,.rows 1 [])],3⟩
  refine zeo hl (fun _ Q=>2≤Q) (SW came) (fun s Q hQ=>by simp only [SW];omega) 2 (Nat.le_refl _) rfl (Weak.refl _) ?_
  rintro ⟨l,n⟩ Q o hQ hs
  show awp C0.plain _ _ _ ⟨[(0,.imm (qC IV.i64 Zax.iv came)),(1,vI n),(5,.Zak Q 0 l.length)],[(Q,.rows 1 (zb zc l))],Q+1⟩
  refine xo ?_
  refine xo ?_
  refine kc (st':=⟨[(0,.imm (qC IV.i64 Zax.iv came)),(1,vI n),(5,.Zak Q 0 l.length),(7,vB (!(n == 0)))],[(Q,.rows 1 (zb zc l))],Q+3⟩) [] .nil ?_ (by kernel_rfl)
  refine yh ?_
  refine zhY (!(n == 0)) rfl (fun g => ?_) (fun g => ?_)
  · replace hs:=zh0 g hs
    obtain ⟨e,he,hs⟩:=jQ hs
    cases hs
    have hb:(l.length+1)*8≤140737488355328∧e=l++[(jM came n).step]:=by
      unfold zfm at he
      split at he
      · rename_i hh;cases he;exact ⟨hh,rfl⟩
      · cases he
    obtain ⟨hb,rfl⟩:=hb
    refine Xm ?_
    refine yh ?_
    refine kK ?_
    refine xo ?_
    refine zkK came n _ l Q (Q+3) (by omega) hb _ ?_
    refine yh ?_
    have ag:∀ j,za (zJ (zJ (zJ [(Q,Zae.rows 1 (zb zc l))] (Q+3+5) (Zae.rows 1 [[vI (jM came n).step]])) Q Zae.dead) (Q+3+6) (Zae.rows 1 (zb zc l++[[vI (jM came n).step]]))) j=if Q+3+6=j then some (.rows 1 (zb zc l++[[vI (jM came n).step]])) else if Q=j then some .dead else if Q+3+5=j then some (.rows 1 [[vI (jM came n).step]]) else za [(Q,Zae.rows 1 (zb zc l))] j:=fun j=>by
      simp only [z1]
    have ag2:=ag (Q+9)
    rw [if_pos rfl] at ag2
    generalize zJ (zJ (zJ [(Q,Zae.rows 1 (zb zc l))] (Q+3+5) (Zae.rows 1 [[vI (jM came n).step]])) Q Zae.dead) (Q+3+6) (Zae.rows 1 (zb zc l++[[vI (jM came n).step]]))=hp at *
    refine kc (st':=⟨[(0,.imm (qC IV.i64 Zax.iv came)),(1,vI (jM came n).from_),(5,.Zak (Q+3+6) 0 (l.length+1))],hp,Q+3+8+5⟩) [.l (.imm (Zax.iv (jM came n))) (zp n (came.getD [])).isSome] (.cons (Wk Zax.iv ({from_:=0,step:=0}:Zax) n came) .nil) ?_ (by kernel_rfl)
    refine zj7 ?_
    refine ⟨_,Q+9,rfl,by omega,?_⟩
    refine JD (by simp only [SW];omega) ?_ ?_
    · intro p hp
      simp only [SW,List.mem_cons,List.not_mem_nil,or_false] at hp
      rcases hp with rfl | rfl | rfl
      · exact ⟨rfl,rfl⟩
      · exact ⟨rfl,rfl⟩
      · refine ⟨by simp [za],by simp [zL,xa,zF,SW]⟩
    · intro p hp
      simp only [SW,List.mem_cons,List.not_mem_nil,or_false] at hp
      subst hp
      refine ⟨by rw [ag2];simp [zb,zz,zc,vI],by simp [SW],vT _ _ _ _⟩
  · replace hs:=zh1 g hs
    cases hs
    refine Xn ?_
    refine ⟨_,rfl,fun e => ?_⟩
    have e:=Sum.inr.inj e
    subst e
    refine zhZ ?_
    refine yh ?_
    refine xo ?_
    refine zkL _ _ _ _ r hr Q (Q+3) (by omega) _ ?_
    refine yh ?_
    refine xo ?_
    refine kc (st':=⟨[(4,.Zak Q 0 l.length)],[(Q,.rows 1 (zb zc r))],Q+3+2+2⟩) [] .nil ?_ (by kernel_rfl)
    refine yh ?_
    refine Vd ?_
    exact zfs _ rfl (xy zc Q 1 _ r hlen (by simp [za]))
noncomputable def wD (c:Zab) (states:List Zac):Option (List Zai):=
  (Option.bind (forR (σ:=(List Zai)×(Option (List (Int×Zax)))) (ρ:=Unit) (c.Zaf.length:Int) (fun i1 s1=>(Option.bind (forR (σ:=(List Zai)×(Option (List (Int×Zax)))) (ρ:=Unit) (c.Zaf.length:Int) (fun i2 s2=>(Option.bind (Option.bind (xN c (i1:Int) (i2:Int)) fun r1=>(bif r1 then (Option.bind (forR (σ:=(List Zai)×(Option (List (Int×Zax)))) (ρ:=(List Zai)×(Option (List (Int×Zax)))) (states.length:Int) (fun i3 s3=>(Option.bind (ze states (i3:Int)) fun e1=>(Option.bind (wC c e1 (i1:Int) (i2:Int)) fun r2=>(bif r2 then (Option.bind (bif s3.2.isSome then some s3.2 else (Option.bind (yP c states) fun r3=>some r3)) fun (v1:(Option (List (Int×Zax))))=>(Option.bind (Qk v1 (i3:Int)) fun r4=>(Option.bind (jb 4 (-1) (i1:Int) (i2:Int) r4) fun r5=>(Option.bind (zO (α:=Zai) 56 s3.1 [r5]) fun e2=>some (.inr (e2,v1)))))) else some (.inl (s3.1,s3.2)))))) (s2.1,s2.2)) (Sum.elim (fun (s3:(List Zai)×(Option (List (Int×Zax))))=>some (s3.1,s3.2)) (fun (y1:(List Zai)×(Option (List (Int×Zax))))=>some (y1.1,y1.2)))) else some (s2.1,s2.2))) fun (v2:(List Zai)×(Option (List (Int×Zax))))=>some (.inl (v2.1,v2.2)))) (s1.1,s1.2)) (Sum.elim (fun (s2:(List Zai)×(Option (List (Int×Zax))))=>some (.inl (s2.1,s2.2))) (fun _=>none)))) ([],none)) (Sum.elim (fun (s1:(List Zai)×(Option (List (Int×Zax))))=>some s1.1) (fun _=>none)))
noncomputable def zep (c:Zab) (states:List Zac):Zad (List Zai):=
  .reg 3 (.ln 2232 Zam.row c.Zaf (.use 2 2232 (.weak 1 [zim 5 5] (.forR (σ:=(List Zai)×(Option (List (Int×Zax)))) (ρ:=Unit) 1962 14 (c.Zaf.length:Int) ([],none) (.k [1,2,13] (fun s1=>[(5,.Zas 8 (List.map Zai.row s1.1)),(6,.imm (qC IV.i64 Zax.iv s1.2))]) [0] (fun s1=>[(8,.tip 5 s1.1.length)]) 9 fun _=>(.exp rfl rfl .nil)) (fun i1 s1=>.sel 1962 (.reg 1 (.ln 2230 Zam.row c.Zaf (.use 2 2230 (.forR (σ:=(List Zai)×(Option (List (Int×Zax)))) (ρ:=Unit) 2202 20 (c.Zaf.length:Int) (s1.1,s1.2) (.k [1,2,13,14,7,19] (fun s2=>[(5,.Zas 8 (List.map Zai.row s2.1)),(6,.imm (qC IV.i64 Zax.iv s2.2))]) [0] (fun s2=>[(8,.tip 5 s2.1.length)]) 16 fun _=>(.exp rfl rfl .nil)) (fun i2 s2=>.sel 2202 (.cut (β:=(List Zai)×(Option (List (Int×Zax)))) 1 (.k [1,2,13,14,7,19,20] (fun v2=>[(5,.Zas 8 (List.map Zai.row v2.1)),(6,.imm (qC IV.i64 Zax.iv v2.2))]) [0] (fun v2=>[(8,.tip 5 v2.1.length)]) 24 fun _=>(.exp rfl rfl .nil)) (.reg 1 (.call 2212 (Yq c (i1:Int) (i2:Int)) fun r1=>.use 3 2212 (.ite 2204 r1 (.sel 2205 (.reg 0 (.ln 2228 Zac.row states (.use 1 2228 (.forR (σ:=(List Zai)×(Option (List (Int×Zax)))) (ρ:=(List Zai)×(Option (List (Int×Zax)))) 2206 30 (states.length:Int) (s2.1,s2.2) (.k [1,2,13,14,7,19,20,8,28,29] (fun s3=>[(5,.Zas 8 (List.map Zai.row s3.1)),(6,.imm (qC IV.i64 Zax.iv s3.2))]) [0] (fun s3=>[(8,.tip 5 s3.1.length)]) 27 fun _=>(.exp rfl rfl .nil)) (fun i3 s3=>.sel 2206 (.reg 0 (.ix 2214 Zac.row states (i3:Int) fun e1=>.use 1 2214 (.reg 0 (.call 2216 (zbM c e1 (i1:Int) (i2:Int)) fun r2=>.use 4 2216 (.ite 2208 r2 (.sel 2209 (.cut (β:=(Option (List (Int×Zax)))) 1 (.e [1,2,5,13,14,7,19,20,8,9] (fun v1=>[(6,.imm (qC IV.i64 Zax.iv v1))]) [0,8] 42) (.reg 0 (.f1 2220 (.v (.bool (!s3.2.isSome))) (zfp false IV.i64 Zax.iv s3.2) (.use 1 2220 (.ite 2210 s3.2.isSome (.sel 2211 (.ret s3.2)) (.sel 2211 (.reg 0 (.call 2218 (zhr c states) fun r3=>.use 2 2218 (.ret r3)))))))) fun v1=>.reg 0 (.call 2222 (zkM v1 (i3:Int)) fun r4=>.call 2224 (kS 4 (-1) (i1:Int) (i2:Int) r4) fun r5=>.b1 2226 (zO (α:=Zai) 56 s3.1 [r5]) (fun e2=>.a (List.map Zai.row e2) e2.length) (fun e2 he2=>(qA Zai.row 5 56 (fun _=>rfl) he2)) fun e2=>.us [(5,2222),(6,2224),(8,2226)] (.ret (.inr (e2,v1)))))) (.sel 2209 (.ret (.inl (s3.1,s3.2)))))))))) fun os3=>.case os3 (fun s3=>.sel 2206 (.ret (s3.1,s3.2))) fun y1=>.ret (y1.1,y1.2)))))) (.sel 2205 (.ret (s2.1,s2.2)))))) fun v2=>.ret (.inl (v2.1,v2.2)))) fun os2=>.case os2 (fun s2=>.sel 2202 (.ret (.inl (s2.1,s2.2)))) fun _=>.none))))) fun os1=>.case os1 (fun s1=>.sel 1962 (.ret s1.1)) fun _=>.none))))
theorem zeq (c:Zab) (states:List Zac) (res:List Zai) (hd:wD c states=some res):APure C0 201 [.agg (Zab.row c),.slice (List.map Zac.row states)] (.slice (List.map Zai.row res)):=
  Zad.pure (iv:=fun res=>.slice (List.map Zai.row res)) (zep c states) (by kernel_rfl) (Zad.run_of hd (by kernel_rfl))
noncomputable def jT (c:Zab):Option ((List Zai)×Int):=
  (Option.bind (jS c) fun r1=>(bif (r1.2 == 0) then (Option.bind (forR (σ:=(List Zai)) (ρ:=Int) c.Zao (fun i1 s1=>(Option.bind (α:=(List Zai) ⊕ Int) (Option.bind (jg c (i1:Int)) fun r2=>(bif (r2.2 == 0) then (Option.bind (vv c r2.1) fun r3=>(Option.bind (ze r3 0) fun e1=>(bif decide (0≤e1) then (Option.bind (ZD r2.1 r3) fun r4=>(Option.bind (jb 1 (i1:Int) (-1) (-1) r4) fun r5=>(Option.bind (zO (α:=Zai) 56 s1 [r5]) fun e2=>some (.inl e2)))) else some (.inl s1)))) else some (.inr r2.2))) (Sum.elim (fun (v1:(List Zai))=>some (.inl v1)) (fun (y1:Int)=>some (.inr y1))))) []) (Sum.elim (fun (s1:(List Zai))=>(Option.bind (forR (σ:=(List Zai)×(List Zai)) (ρ:=Unit) (c.Zaf.length:Int) (fun i2 s2=>(Option.bind (Jd (i2:Int) r1.1 s2.1 c s2.2) fun r6=>some (.inl (r6.1,r6.2)))) (s1,[])) (Sum.elim (fun (s2:(List Zai)×(List Zai))=>(Option.bind (zO (α:=Zai) 56 s2.1 s2.2) fun e3=>(Option.bind (wD c r1.1) fun r7=>(Option.bind (zO (α:=Zai) 56 e3 r7) fun e4=>some (e4,0))))) (fun _=>none)))) (fun (y2:Int)=>some ([],y2)))) else some ([],r1.2)))
noncomputable def zi6 (c:Zab):Zad ((List Zai)×Int):=
  .reg 1 (.call 2234 (zbJ c) fun r1=>.use 1 2234 (.ite 1304 (r1.2 == 0) (.sel 1305 (.weak 4 [Ww 13 5 0 0] (.forR (σ:=(List Zai)) (ρ:=Int) 1306 24 c.Zao [] (.k [1,4,6,23] (fun _=>[]) [0,8] (fun s1=>[(13,.rows 1 [[.Zas 17 (List.map Zai.row s1)]]),(17,.tip 5 s1.length)]) 18 fun _=>(.exp rfl rfl (.exp rfl rfl .nil))) (fun i1 s1=>.sel 1306 (.cutO (β:=(List Zai)) (γ:=Int) 1 (.k [1,4,6,23,24] (fun _=>[]) [0,8] (fun v1=>[(13,.rows 1 [[.Zas 17 (List.map Zai.row v1)]]),(17,.tip 5 v1.length)]) 40 fun _=>(.exp rfl rfl (.exp rfl rfl .nil))) (.reg 1 (.call 2236 (zbK c (i1:Int)) fun r2=>.use 2 2236 (.ite 1892 (r2.2 == 0) (.sel 1893 (.reg 0 (.call 2238 (zbL c r2.1) fun r3=>.use 2 2238 (.reg 0 (.ix 2240 zc r3 0 fun e1=>.use 1 2240 (.ite 1894 (decide (0≤e1)) (.sel 1894 (.reg 0 (.call 2242 (ziM r2.1 r3) fun r4=>.call 2244 (kS 1 (i1:Int) (-1) (-1) r4) fun r5=>.b1 2246 (zO (α:=Zai) 56 s1 [r5]) (fun e2=>.a (List.map Zai.row e2) e2.length) (fun e2 he2=>(qA Zai.row 5 56 (fun _=>rfl) he2)) fun e2=>.us [(4,2242),(5,2244),(7,2246)] (.ret (.inl e2))))) (.sel 1894 (.ret (.inl s1))))))))) (.sel 1893 (.ret (.inr r2.2)))))) fun o_v1=>.case o_v1 (fun v1=>.ret (.inl v1)) fun y1=>.ret (.inr y1))) fun os1=>.case os1 (fun s1=>.sel 1306 (.reg 2 (.ln 2256 Zam.row c.Zaf (.use 2 2256 (.weak 1 [Ww 19 5 0 0] (.forR (σ:=(List Zai)×(List Zai)) (ρ:=Unit) 1896 56 (c.Zaf.length:Int) (s1,[]) (.k [1,4,6,11,12,55] (fun _=>[]) [0,8] (fun s2=>[(13,.rows 1 [[.Zas 17 (List.map Zai.row s2.1)]]),(17,.tip 5 s2.1.length),(19,.rows 1 [[.Zas 26 (List.map Zai.row s2.2)]]),(26,.tip 5 s2.2.length)]) 27 fun _=>(.exp rfl rfl (.exp rfl rfl (.exp rfl rfl (.exp rfl rfl .nil))))) (fun i2 s2=>.sel 1896 (.reg 1 (.b1 2248 (Jd (i2:Int) r1.1 s2.1 c s2.2) (fun r6=>.c [8,13,0,19,17,26] 6 (.tuple []) [(13,.rows 1 [[.Zas 17 (List.map Zai.row r6.1)]]),(19,.rows 1 [[.Zas 26 (List.map Zai.row r6.2)]]),(17,.tip 5 r6.1.length),(26,.tip 5 r6.2.length)] 0) (fun r6 hr6=>(zi (zi1 (i2:Int) r1.1 s2.1 c s2.2 r6 hr6) [8,13,0,19,17,26] 32 (.drop rfl rfl (.keep (.drop rfl rfl (.keep (.keep (.keep .nil)))))) (rhR (rhR (rhR (rhR (rhR (rhR rhN)))))) (rhR (rhR (rhR (rhR rhN)))))) fun r6=>.use 2 2248 (.ret (.inl (r6.1,r6.2)))))) fun os2=>.case os2 (fun s2=>.sel 1896 (.reg 0 (.b1 2250 (zO (α:=Zai) 56 s2.1 s2.2) (fun e3=>.a (List.map Zai.row e3) e3.length) (fun e3 he3=>(qA Zai.row 5 56 (fun _=>rfl) he3)) fun e3=>.call 2252 (zeq c r1.1) fun r7=>.b1 2254 (zO (α:=Zai) 56 e3 r7) (fun e4=>.a (List.map Zai.row e4) e4.length) (fun e4 he4=>(qA Zai.row 5 56 (fun _=>rfl) he4)) fun e4=>.us [(2,2250),(5,2252),(6,2254)] (.ret (e4,0))))) fun _=>.none)))))) fun y2=>.ret ([],y2)))) (.sel 1305 (.ret ([],r1.2)))))
theorem WR (c:Zab) (res:(List Zai)×Int) (hd:jT c=some res):APure C0 192 [.agg (Zab.row c)] (.tuple [.slice (List.map Zai.row res.1),.int .i64 res.2]):=
  Zad.pure (iv:=fun res=>.tuple [.slice (List.map Zai.row res.1),.int .i64 res.2]) (zi6 c) (by kernel_rfl) (Zad.run_of hd (by kernel_rfl))
noncomputable def zav (a:List Int) (b:List Int):Option Bool:=
  (bif ((a.length:Int) == (b.length:Int)) then (Option.bind (forR (σ:=Unit) (ρ:=Unit) (a.length:Int) (fun i1 s1=>(Option.bind (ze a (i1:Int)) fun e1=>(Option.bind (ze b (i1:Int)) fun e2=>(bif (e1 == e2) then some (.inl ()) else some (.inr ()))))) ()) (Sum.elim (fun (s1:Unit)=>some true) (fun (y1:Unit)=>some false))) else some false)
noncomputable def zfO (a:List Int) (b:List Int):Zad Bool:=
  .reg 1 (.ln 2288 zc a (.use 1 2288 (.ln 2286 zc b (.use 3 2286 (.ite 2272 ((a.length:Int) == (b.length:Int)) (.sel 2273 (.forR (σ:=Unit) (ρ:=Unit) 2274 5 (a.length:Int) () (.e [0,1] (fun _=>[]) [] 7) (fun i1 s1=>.reg 0 (.ln 2282 zc a (.use 2 2282 (.sel 2274 (.reg 0 (.ix 2278 zc a (i1:Int) fun e1=>.ix 2280 zc b (i1:Int) fun e2=>.us [(2,2278),(6,2280)] (.ite 2276 (e1 == e2) (.sel 2277 (.ret (.inl ()))) (.sel 2277 (.ret (.inr ())))))))))) fun os1=>.case os1 (fun s1=>.reg 0 (.ln 2284 zc a (.use 2 2284 (.sel 2274 (.ret true))))) fun y1=>.ret false)) (.sel 2273 (.ret false)))))))
theorem zfP (a:List Int) (b:List Int) (res:Bool) (hd:zav a b=some res):APure C0 142 [.slice (List.map zc a),.slice (List.map zc b)] (.bool res):=
  Zad.pure (iv:=fun res=>.bool res) (zfO a b) (by kernel_rfl) (Zad.run_of hd (by kernel_rfl))
noncomputable def zaw (a:Zai) (b:Zai):Option Bool:=
  (Option.bind (bif (a.kind == b.kind) then (bif (a.Zaa == b.Zaa) then (bif (a.clause == b.clause) then (bif (a.other == b.other) then (Option.bind (zav a.ZaA b.ZaA) fun r1=>some r1) else some false) else some false) else some false) else some false) fun v1=>some v1)
noncomputable def zfQ (a:Zai) (b:Zai):Zad Bool:=
  .cut (β:=Bool) 2 (.e [] (fun v1=>[(4,vB v1)]) [0,1] 37) (.reg 0 (.ite 2264 (a.kind == b.kind) (.ite 2266 (a.Zaa == b.Zaa) (.ite 2268 (a.clause == b.clause) (.ite 2270 (a.other == b.other) (.call 2290 (zfP a.ZaA b.ZaA) fun r1=>.us [(6,2264),(13,2266),(20,2268),(27,2270),(31,2290)] (.ret r1)) (.us [(6,2264),(13,2266),(20,2268),(27,2270)] (.ret false))) (.us [(6,2264),(13,2266),(20,2268)] (.f1 2292 (.g false) (rfl:false=false) (.use 27 2292 (.ret false))))) (.us [(6,2264),(13,2266)] (.f1 2296 (.g false) (rfl:false=false) (.use 20 2296 (.f1 2294 (.g false) (rfl:false=false) (.use 27 2294 (.ret false))))))) (.use 6 2264 (.f1 2302 (.g false) (rfl:false=false) (.use 13 2302 (.f1 2300 (.g false) (rfl:false=false) (.use 20 2300 (.f1 2298 (.g false) (rfl:false=false) (.use 27 2298 (.ret false)))))))))) fun v1=>.ret v1
theorem zfR (a:Zai) (b:Zai) (res:Bool) (hd:zaw a b=some res):APure C0 320 [.agg (Zai.row a),.agg (Zai.row b)] (.bool res):=
  Zad.pure (iv:=fun res=>.bool res) (zfQ a b) (by kernel_rfl) (Zad.run_of hd (by kernel_rfl))
noncomputable def vz (a:List Zai) (b:List Zai):Option Bool:=
  (bif ((a.length:Int) == (b.length:Int)) then (Option.bind (forR (σ:=Unit) (ρ:=Unit) (a.length:Int) (fun i1 s1=>(Option.bind (ze a (i1:Int)) fun e1=>(Option.bind (ze b (i1:Int)) fun e2=>(Option.bind (zaw e1 e2) fun r1=>(bif r1 then some (.inl ()) else some (.inr ())))))) ()) (Sum.elim (fun (s1:Unit)=>some true) (fun (y1:Unit)=>some false))) else some false)
noncomputable def zhu (a:List Zai) (b:List Zai):Zad Bool:=
  .reg 1 (.ln 2318 Zai.row a (.use 1 2318 (.ln 2316 Zai.row b (.use 3 2316 (.ite 2260 ((a.length:Int) == (b.length:Int)) (.sel 2261 (.forR (σ:=Unit) (ρ:=Unit) 2262 5 (a.length:Int) () (.e [0,1] (fun _=>[]) [] 7) (fun i1 s1=>.reg 0 (.ln 2312 Zai.row a (.use 2 2312 (.sel 2262 (.reg 0 (.ix 2306 Zai.row a (i1:Int) fun e1=>.ix 2308 Zai.row b (i1:Int) fun e2=>.call 2310 (zfR e1 e2) fun r1=>.us [(2,2306),(6,2308),(8,2310)] (.ite 2304 r1 (.sel 2305 (.ret (.inl ()))) (.sel 2305 (.ret (.inr ())))))))))) fun os1=>.case os1 (fun s1=>.reg 0 (.ln 2314 Zai.row a (.use 2 2314 (.sel 2262 (.ret true))))) fun y1=>.ret false)) (.sel 2261 (.ret false)))))))
theorem zbN (a:List Zai) (b:List Zai) (res:Bool) (hd:vz a b=some res):APure C0 317 [.slice (List.map Zai.row a),.slice (List.map Zai.row b)] (.bool res):=
  Zad.pure (iv:=fun res=>.bool res) (zhu a b) (by kernel_rfl) (Zad.run_of hd (by kernel_rfl))
noncomputable def ZE (c:Zab) (s:Zac) (act:Int):Option Int:=
  (Option.bind (Option.bind (xc c s) fun r1=>(bif r1 then (bif decide (act < 0) then some true else some (decide ((c.Zaj.length:Int)≤act))) else some true)) fun v1=>(bif v1 then some (-2) else (Option.bind (kl c s act) fun r2=>some r2)))
noncomputable def zi7 (c:Zab) (s:Zac) (act:Int):Zad Int:=
  .cut (β:=Bool) 3 (.e [2,3,4] (fun v1=>[(21,vB v1)]) [0,1] 18) (.reg 0 (.call 2356 (kj c s) fun r1=>.ite 2350 r1 (.ite 2352 (decide (act < 0)) (.us [(2,2356),(5,2351),(9,2352)] (.ret true)) (.us [(2,2356),(5,2351),(9,2352)] (.ln 2358 Zaq.row c.Zaj (.use 12 2358 (.ret (decide ((c.Zaj.length:Int)≤act))))))) (.us [(2,2356),(5,2351)] (.f1 2360 (.g true) (rfl:true=true) (.use 9 2360 (.ret true)))))) fun v1=>.ite 2354 v1 (.sel 2354 (.ret (-2))) (.sel 2354 (.reg 0 (.call 2362 (zei c s act) fun r2=>.use 3 2362 (.ret r2))))
theorem zi8 (c:Zab) (s:Zac) (act:Int) (res:Int) (hd:ZE c s act=some res):APure C0 98 [.agg (Zab.row c),.agg (Zac.row s),.int .i64 act] (.int .i64 res):=
  Zad.pure (iv:=fun res=>.int .i64 res) (zi7 c s act) (by kernel_rfl) (Zad.run_of hd (by kernel_rfl))
noncomputable def xe (c:Zab) (s:Zac) (Zaa:Int):Option Bool:=
  (Option.bind (bif decide (Zaa < 0) then some true else (bif decide (c.Zao≤Zaa) then some true else (Option.bind (xc c s) fun r1=>some (!r1)))) fun v1=>(bif v1 then some false else (Option.bind (forR (σ:=Unit) (ρ:=Unit) (s.Zal.length:Int) (fun i1 s1=>(Option.bind (ze s.Zal (i1:Int)) fun e1=>(Option.bind (Option.bind (ze c.Zaf (i1:Int)) fun e2=>(bif e2.final then (bif (e1.Zan == 4) then some (e1.Zav == Zaa) else some false) else some false)) fun v2=>(bif v2 then some (.inr ()) else some (.inl ()))))) ()) (Sum.elim (fun (s1:Unit)=>some false) (fun (y1:Unit)=>some true)))))
noncomputable def zfS (c:Zab) (s:Zac) (Zaa:Int):Zad Bool:=
  .cut (β:=Bool) 3 (.e [2,3,4] (fun v1=>[(22,vB v1)]) [0,1] 17) (.reg 0 (.ite 2370 (decide (Zaa < 0)) (.use 3 2370 (.f1 2384 (.g true) (rfl:true=true) (.use 9 2384 (.ret true)))) (.ite 2372 (decide (c.Zao≤Zaa)) (.us [(3,2370),(9,2372)] (.ret true)) (.call 2386 (kj c s) fun r1=>.us [(3,2370),(9,2372),(11,2386)] (.ret (!r1)))))) fun v1=>.ite 2374 v1 (.sel 2374 (.ret false)) (.sel 2374 (.reg 0 (.ln 2394 zw.row s.Zal (.use 2 2394 (.forR (σ:=Unit) (ρ:=Unit) 2376 26 (s.Zal.length:Int) () (.e [2,3,24,25] (fun _=>[]) [0] 21) (fun i1 s1=>.sel 2376 (.reg 0 (.ix 2388 zw.row s.Zal (i1:Int) fun e1=>.use 1 2388 (.cut (β:=Bool) 1 (.e [2,3,24,25,26] (fun v2=>[(47,vB v2)]) [0,25] 45) (.reg 0 (.ix 2390 Zam.row c.Zaf (i1:Int) fun e2=>.ite 2378 e2.final (.ite 2380 (e1.Zan == 4) (.us [(3,2390),(7,2378),(12,2380)] (.ret (e1.Zav == Zaa))) (.us [(3,2390),(7,2378),(12,2380)] (.ret false))) (.us [(3,2390),(7,2378)] (.f1 2392 (.g false) (rfl:false=false) (.use 12 2392 (.ret false)))))) fun v2=>.ite 2382 v2 (.sel 2382 (.ret (.inr ()))) (.sel 2382 (.ret (.inl ()))))))) fun os1=>.case os1 (fun s1=>.sel 2376 (.ret false)) fun y1=>.ret true)))))
theorem zax (c:Zab) (s:Zac) (Zaa:Int) (res:Bool) (hd:xe c s Zaa=some res):APure C0 141 [.agg (Zab.row c),.agg (Zac.row s),.int .i64 Zaa] (.bool res):=
  Zad.pure (iv:=fun res=>.bool res) (zfS c s Zaa) (by kernel_rfl) (Zad.run_of hd (by kernel_rfl))
noncomputable def vA (c:Zab) (s:Zac) (f:Zai):Option Bool:=
  (Option.bind (forR (σ:=Int×(List Int)×(List Bool)×(List zw)) (ρ:=Unit) (f.ZaA.length:Int) (fun i1 s1=>(Option.bind (ze f.ZaA (i1:Int)) fun e1=>(Option.bind (bif (e1 == (-1)) then some false else (Option.bind (ZE c ({day:=s1.1,Zag:=s1.2.1,used:=s1.2.2.1,Zal:=s1.2.2.2}:Zac) e1) fun r1=>some (r1 == f.Zaa))) fun v1=>(bif v1 then some (.inr ()) else (Option.bind (d_Step c ({day:=s1.1,Zag:=s1.2.1,used:=s1.2.2.1,Zal:=s1.2.2.2}:Zac) e1) fun r2=>(bif (r2.2 == 0) then (Option.bind (bif ((i1:Int) == (IntKind.i64.wrap ((f.ZaA.length:Int) - 1))) then (Option.bind (xe c ({day:=s1.1,Zag:=s1.2.1,used:=s1.2.2.1,Zal:=s1.2.2.2}:Zac) f.Zaa) fun r3=>some r3) else some false) fun v2=>(bif v2 then some (.inr ()) else some (.inl (r2.1.day,r2.1.Zag,r2.1.used,r2.1.Zal)))) else some (.inr ()))))))) (s.day,s.Zag,s.used,s.Zal)) (Sum.elim (fun (s1:Int×(List Int)×(List Bool)×(List zw))=>(Option.bind (xe c ({day:=s1.1,Zag:=s1.2.1,used:=s1.2.2.1,Zal:=s1.2.2.2}:Zac) f.Zaa) fun r4=>some r4)) (fun (y1:Unit)=>some false)))
noncomputable def zfT (c:Zab) (s:Zac) (f:Zai):Zad Bool:=
  .reg 1 (.ln 2422 zc f.ZaA (.use 2 2422 (.forR (σ:=Int×(List Int)×(List Bool)×(List zw)) (ρ:=Unit) 2346 14 (f.ZaA.length:Int) (s.day,s.Zag,s.used,s.Zal) (.k [3,4,5,12,13] (fun _=>[]) [0,2] (fun s1=>[(1,.rows 4 [[vI s1.1,.imm (.slice (List.map zc s1.2.1)),.imm (.slice (List.map zh s1.2.2.1)),.imm (.slice (List.map zw.row s1.2.2.2))]])]) 8 fun _=>(.exp rfl rfl .nil)) (fun i1 s1=>.sel 2346 (.reg 0 (.ix 2408 zc f.ZaA (i1:Int) fun e1=>.use 1 2408 (.cut (β:=Bool) 2 (.e [3,4,5,12,13,14,7,8] (fun v1=>[(29,vB v1)]) [0,1,2] 25) (.reg 0 (.ite 2398 (e1 == (-1)) (.use 3 2399 (.ret false)) (.call 2410 (zi8 c ({day:=s1.1,Zag:=s1.2.1,used:=s1.2.2.1,Zal:=s1.2.2.2}:Zac) e1) fun r1=>.us [(3,2399),(6,2410)] (.ret (r1 == f.Zaa))))) fun v1=>.ite 2400 v1 (.sel 2400 (.ret (.inr ()))) (.sel 2400 (.reg 0 (.call 2412 (Zz c ({day:=s1.1,Zag:=s1.2.1,used:=s1.2.2.1,Zal:=s1.2.2.2}:Zac) e1) fun r2=>.use 3 2412 (.ite 2402 (r2.2 == 0) (.sel 2403 (.cut (β:=Bool) 2 (.e [3,4,5,12,13,14,9] (fun v2=>[(51,vB v2)]) [0,1,2,32] 50) (.reg 0 (.ite 2404 ((i1:Int) == (IntKind.i64.wrap ((f.ZaA.length:Int) - 1))) (.call 2414 (zax c ({day:=s1.1,Zag:=s1.2.1,used:=s1.2.2.1,Zal:=s1.2.2.2}:Zac) f.Zaa) fun r3=>.ln 2416 zc f.ZaA (.us [(3,2416),(7,2404),(11,2414)] (.ret r3))) (.ln 2418 zc f.ZaA (.us [(3,2418),(7,2404)] (.ret false))))) fun v2=>.ite 2406 v2 (.sel 2406 (.ret (.inr ()))) (.sel 2406 (.ret (.inl (r2.1.day,r2.1.Zag,r2.1.used,r2.1.Zal)))))) (.sel 2403 (.ret (.inr ()))))))))))) fun os1=>.case os1 (fun s1=>.sel 2346 (.reg 0 (.call 2420 (zax c ({day:=s1.1,Zag:=s1.2.1,used:=s1.2.2.1,Zal:=s1.2.2.2}:Zac) f.Zaa) fun r4=>.use 4 2420 (.ret r4)))) fun y1=>.ret false)))
theorem zfU (c:Zab) (s:Zac) (f:Zai) (res:Bool) (hd:vA c s f=some res):APure C0 324 [.agg (Zab.row c),.agg (Zac.row s),.agg (Zai.row f)] (.bool res):=
  Zad.pure (iv:=fun res=>.bool res) (zfT c s f) (by kernel_rfl) (Zad.run_of hd (by kernel_rfl))
noncomputable def ZF (c:Zab) (a:ZaF):Option (List Bool):=
  (Option.bind (vv c a) fun r1=>(Option.bind (mkN 1 (r1.length:Int)) fun k1=>(Option.bind (forR (σ:=(List Bool)) (ρ:=Unit) (r1.length:Int) (fun i1 s1=>(Option.bind (ze r1 (i1:Int)) fun e1=>(Option.bind (zk k1 (i1:Int)) fun k2=>(Option.bind (s1[k2]?) fun e2=>some (.inl (s1.set k2 (e1 == (-1)))))))) (List.replicate k1 false)) (Sum.elim (fun (s1:(List Bool))=>(Option.bind (eqN k1 s1.length) fun g1=>some s1)) (fun _=>none)))))
noncomputable def zi9 (c:Zab) (a:ZaF):Zad (List Bool):=
  .reg 1 (.call 2430 (zbL c a) fun r1=>.use 2 2430 (.reg 0 (.b1 2432 (mkN 1 (r1.length:Int)) (fun k1=>.m k1 (zb zh (List.replicate k1 false))) (fun k1 hk1=>(xI zh false hk1)) fun k1=>.ln 2442 zc r1 (.us [(1,2442),(2,2432)] (.reg 0 (.ln 2440 zc r1 (.use 1 2440 (.forR (σ:=(List Bool)) (ρ:=Unit) 2428 17 (r1.length:Int) (List.replicate k1 false) (.k [6,15,16] (fun _=>[]) [] (fun s1=>[(9,.rows 1 (zb zh s1))]) 14 fun _=>(.rows rfl .nil)) (fun i1 s1=>.sel 2428 (.reg 0 (.ix 2434 zc r1 (i1:Int) fun e1=>.use 1 2434 (.reg 0 (.b1 2436 (zk k1 (i1:Int)) (fun k2=>.k k2) (fun k2 hk2=>(zs hk2)) fun k2=>.b1 2438 (s1[k2]?) (fun e2=>.aw (zz (zh e2)) (zb zh (s1.set k2 (e1 == (-1))))) (fun e2 he2=>(zY zh (e1 == (-1)) he2)) fun e2=>.us [(4,2436),(5,2438)] (.ret (.inl (s1.set k2 (e1 == (-1)))))))))) fun os1=>.case os1 (fun s1=>.sel 2428 (.bind (eqN k1 s1.length) (fun _=>[]) (fun _ _=>.nil) fun g2=>.fin [9] (.Zak 9 0 k1) [(9,.rows 1 (zb zh s1))] (.slice (List.map zh s1)) (jt _ _ _ (zD (xy zh 9 1 k1 s1 g2.down rfl) jH)) s1)) fun _=>.none))))))))
theorem zja (c:Zab) (a:ZaF) (res:List Bool) (hd:ZF c a=some res):APure C0 138 [.agg (Zab.row c),.agg (ZaF.row a)] (.slice (List.map zh res)):=
  Zad.pure (iv:=fun res=>.slice (List.map zh res)) (zi9 c a) (by kernel_rfl) (Zad.run_of hd (by kernel_rfl))
noncomputable def vC (c:Zab) (Zaa:Int):Option Bool:=
  (Option.bind (jg c Zaa) fun r1=>(Option.bind (bif (r1.2 == 0) then (Option.bind (ZF c r1.1) fun r2=>(Option.bind (ze r2 0) fun e1=>some (!e1))) else some false) fun v1=>some v1))
noncomputable def zfV (c:Zab) (Zaa:Int):Zad Bool:=
  .reg 1 (.call 2444 (zbK c Zaa) fun r1=>.use 2 2444 (.cut (β:=Bool) 1 (.e [] (fun v1=>[(4,vB v1)]) [0,8] 22) (.reg 0 (.ite 2426 (r1.2 == 0) (.call 2446 (zja c r1.1) fun r2=>.ix 2448 zh r2 0 fun e1=>.us [(3,2426),(5,2446),(6,2448)] (.ret (!e1))) (.use 3 2426 (.ret false)))) fun v1=>.ret v1))
theorem zfW (c:Zab) (Zaa:Int) (res:Bool) (hd:vC c Zaa=some res):APure C0 323 [.agg (Zab.row c),.int .i64 Zaa] (.bool res):=
  Zad.pure (iv:=fun res=>.bool res) (zfV c Zaa) (by kernel_rfl) (Zad.run_of hd (by kernel_rfl))
noncomputable def xt (c:Zab) (f:Zai):Option Bool:=
  (Option.bind (jS c) fun r1=>(bif (r1.2 == 0) then (bif (f.kind == 2) then (Option.bind (yv r1.1 f.clause) fun r2=>some r2) else (Option.bind (Option.bind (yv r1.1 f.clause) fun r3=>(bif r3 then some false else (Option.bind (vw c r1.1 f.clause) fun r4=>some r4))) fun v1=>some v1)) else some false))
noncomputable def zhv (c:Zab) (f:Zai):Zad Bool:=
  .reg 1 (.call 2466 (zbJ c) fun r1=>.use 1 2466 (.ite 2460 (r1.2 == 0) (.sel 2461 (.ite 2462 (f.kind == 2) (.sel 2462 (.reg 0 (.call 2468 (zat r1.1 f.clause) fun r2=>.use 3 2468 (.ret r2)))) (.sel 2462 (.cut (β:=Bool) 1 (.e [] (fun v1=>[(4,vB v1)]) [0,1] 28) (.reg 0 (.call 2470 (zat r1.1 f.clause) fun r3=>.ite 2464 r3 (.us [(3,2470),(6,2465)] (.ret false)) (.call 2472 (zau c r1.1 f.clause) fun r4=>.us [(3,2470),(6,2465),(10,2472)] (.ret r4)))) fun v1=>.ret v1)))) (.sel 2461 (.ret false))))
theorem zhw (c:Zab) (f:Zai) (res:Bool) (hd:xt c f=some res):APure C0 325 [.agg (Zab.row c),.agg (Zai.row f)] (.bool res):=
  Zad.pure (iv:=fun res=>.bool res) (zhv c f) (by kernel_rfl) (Zad.run_of hd (by kernel_rfl))
noncomputable def qu (c:Zab) (f:Zai):Option Bool:=
  (Option.bind (qB c) fun r1=>(bif (r1.2 == 0) then (Option.bind (bif decide (0≤f.clause) then (bif decide (f.clause < (c.Zaf.length:Int)) then some (f.Zaa == (-1)) else some false) else some false) fun v1=>(bif (f.kind == 1) then (Option.bind (bif decide (0≤f.Zaa) then (bif decide (f.Zaa < c.Zao) then (bif (f.clause == (-1)) then (bif (f.other == (-1)) then (Option.bind (vA c r1.1 f) fun r2=>(bif r2 then (Option.bind (vC c f.Zaa) fun r3=>some r3) else some false)) else some false) else some false) else some false) else some false) fun v2=>some v2) else (Option.bind (bif (f.kind == 2) then some (f.kind == 2) else some (f.kind == 3)) fun (v3:Bool)=>(bif v3 then (Option.bind (bif v1 then (bif (f.other == (-1)) then (bif ((f.ZaA.length:Int) == 0) then (Option.bind (xt c f) fun r4=>some r4) else some false) else some false) else some false) fun v4=>some v4) else (bif (f.kind == 4) then (Option.bind (bif v1 then (bif decide (f.other < 0) then some true else (bif decide ((c.Zaf.length:Int)≤f.other) then some true else (Option.bind (xN c f.clause f.other) fun r5=>some (!r5)))) else some true) fun v5=>(bif v5 then some false else (Option.bind (forR (σ:=Int×(List Int)×(List Bool)×(List zw)) (ρ:=Unit) (f.ZaA.length:Int) (fun i1 s1=>(Option.bind (ze f.ZaA (i1:Int)) fun e1=>(Option.bind (d_Step c ({day:=s1.1,Zag:=s1.2.1,used:=s1.2.2.1,Zal:=s1.2.2.2}:Zac) e1) fun r6=>(bif (r6.2 == 0) then some (.inl (r6.1.day,r6.1.Zag,r6.1.used,r6.1.Zal)) else some (.inr ()))))) (r1.1.day,r1.1.Zag,r1.1.used,r1.1.Zal)) (Sum.elim (fun (s1:Int×(List Int)×(List Bool)×(List zw))=>(Option.bind (wC c ({day:=s1.1,Zag:=s1.2.1,used:=s1.2.2.1,Zal:=s1.2.2.2}:Zac) f.clause f.other) fun r7=>some r7)) (fun (y1:Unit)=>some false))))) else some false))))) else some false))
noncomputable def zhx (c:Zab) (f:Zai):Zad Bool:=
  .reg 1 (.call 2490 (Vy c) fun r1=>.use 1 2490 (.ite 2330 (r1.2 == 0) (.sel 2331 (.cut (β:=Bool) 1 (.e [2,3,5] (fun v1=>[(7,vB v1)]) [0,1,8] 30) (.reg 0 (.ite 2332 (decide (0≤f.clause)) (.ite 2334 (decide (f.clause < (c.Zaf.length:Int))) (.use 4 2332 (.ln 2492 Zam.row c.Zaf (.us [(8,2492),(12,2334)] (.ret (f.Zaa == (-1)))))) (.use 4 2332 (.ln 2494 Zam.row c.Zaf (.us [(8,2494),(12,2334)] (.ret false))))) (.use 4 2332 (.f1 2496 (.g false) (rfl:false=false) (.use 12 2496 (.ret false)))))) fun v1=>.ite 2336 (f.kind == 1) (.sel 2336 (.cut (β:=Bool) 1 (.e [] (fun v2=>[(4,vB v2)]) [0,1,8] 67) (.reg 0 (.ite 2338 (decide (0≤f.Zaa)) (.ite 2340 (decide (f.Zaa < c.Zao)) (.ite 2342 (f.clause == (-1)) (.ite 2344 (f.other == (-1)) (.call 2498 (zfU c r1.1 f) fun r2=>.ite 2424 r2 (.call 2500 (zfW c f.Zaa) fun r3=>.us [(4,2338),(11,2340),(16,2342),(21,2344),(24,2498),(27,2424),(30,2500)] (.ret r3)) (.us [(4,2338),(11,2340),(16,2342),(21,2344),(24,2498),(27,2424)] (.ret false))) (.us [(4,2338),(11,2340),(16,2342),(21,2344)] (.f1 2502 (.g false) (rfl:false=false) (.use 27 2502 (.ret false))))) (.us [(4,2338),(11,2340),(16,2342)] (.f1 2506 (.g false) (rfl:false=false) (.use 21 2506 (.f1 2504 (.g false) (rfl:false=false) (.use 27 2504 (.ret false))))))) (.us [(4,2338),(11,2340)] (.f1 2512 (.g false) (rfl:false=false) (.use 16 2512 (.f1 2510 (.g false) (rfl:false=false) (.use 21 2510 (.f1 2508 (.g false) (rfl:false=false) (.use 27 2508 (.ret false))))))))) (.use 4 2338 (.f1 2520 (.g false) (rfl:false=false) (.use 11 2520 (.f1 2518 (.g false) (rfl:false=false) (.use 16 2518 (.f1 2516 (.g false) (rfl:false=false) (.use 21 2516 (.f1 2514 (.g false) (rfl:false=false) (.use 27 2514 (.ret false)))))))))))) fun v2=>.ret v2)) (.sel 2336 (.cut (β:=Bool) 1 (.e [2,3,5,7,35] (fun v3=>[(70,vB v3)]) [0,1,8] 36) (.ite 2450 (f.kind == 2) (.sel 2450 (.ret (f.kind == 2))) (.sel 2450 (.ret (f.kind == 3)))) fun v3=>.ite 2452 v3 (.sel 2452 (.cut (β:=Bool) 1 (.e [] (fun v4=>[(4,vB v4)]) [0,1,8] 54) (.reg 0 (.ite 2454 v1 (.ite 2456 (f.other == (-1)) (.ite 2458 ((f.ZaA.length:Int) == 0) (.call 2522 (zhw c f) fun r4=>.us [(2,2454),(7,2456)] (.ln 2524 zc f.ZaA (.us [(9,2524),(13,2458),(15,2522)] (.ret r4)))) (.us [(2,2454),(7,2456)] (.ln 2526 zc f.ZaA (.us [(9,2526),(13,2458)] (.ret false))))) (.us [(2,2454),(7,2456)] (.f1 2528 (.g false) (rfl:false=false) (.use 13 2528 (.ret false))))) (.use 2 2454 (.f1 2532 (.g false) (rfl:false=false) (.use 7 2532 (.f1 2530 (.g false) (rfl:false=false) (.use 13 2530 (.ret false)))))))) fun v4=>.ret v4)) (.sel 2452 (.ite 2474 (f.kind == 4) (.sel 2474 (.cut (β:=Bool) 2 (.e [2,3,5] (fun v5=>[(115,vB v5)]) [0,1,8] 62) (.reg 0 (.ite 2476 v1 (.ite 2478 (decide (f.other < 0)) (.us [(3,2477),(8,2478)] (.f1 2534 (.g true) (rfl:true=true) (.use 16 2534 (.ret true)))) (.ite 2480 (decide ((c.Zaf.length:Int)≤f.other)) (.us [(3,2477),(8,2478)] (.ln 2536 Zam.row c.Zaf (.us [(12,2536),(16,2480)] (.ret true)))) (.call 2538 (Yq c f.clause f.other) fun r5=>.us [(3,2477),(8,2478)] (.ln 2540 Zam.row c.Zaf (.us [(12,2540),(16,2480),(21,2538)] (.ret (!r5))))))) (.use 3 2477 (.f1 2544 (.g true) (rfl:true=true) (.use 8 2544 (.f1 2542 (.g true) (rfl:true=true) (.use 16 2542 (.ret true)))))))) fun v5=>.ite 2482 v5 (.sel 2482 (.ret false)) (.sel 2482 (.reg 1 (.ln 2552 zc f.ZaA (.use 2 2552 (.forR (σ:=Int×(List Int)×(List Bool)×(List zw)) (ρ:=Unit) 2484 120 (f.ZaA.length:Int) (r1.1.day,r1.1.Zag,r1.1.used,r1.1.Zal) (.k [2,3,8,118,119] (fun _=>[]) [0,1] (fun s1=>[(63,.rows 4 [[vI s1.1,.imm (.slice (List.map zc s1.2.1)),.imm (.slice (List.map zh s1.2.2.1)),.imm (.slice (List.map zw.row s1.2.2.2))]])]) 69 fun _=>(.exp rfl rfl .nil)) (fun i1 s1=>.sel 2484 (.reg 0 (.ix 2546 zc f.ZaA (i1:Int) fun e1=>.use 0 2546 (.reg 0 (.call 2548 (Zz c ({day:=s1.1,Zag:=s1.2.1,used:=s1.2.2.1,Zal:=s1.2.2.2}:Zac) e1) fun r6=>.use 3 2548 (.ite 2488 (r6.2 == 0) (.sel 2489 (.ret (.inl (r6.1.day,r6.1.Zag,r6.1.used,r6.1.Zal)))) (.sel 2489 (.ret (.inr ()))))))))) fun os1=>.case os1 (fun s1=>.sel 2484 (.reg 0 (.call 2550 (zbM c ({day:=s1.1,Zag:=s1.2.1,used:=s1.2.2.1,Zal:=s1.2.2.2}:Zac) f.clause f.other) fun r7=>.use 6 2550 (.ret r7)))) fun y1=>.ret false))))))) (.sel 2474 (.ret false)))))))) (.sel 2331 (.ret false))))
theorem vD (c:Zab) (f:Zai) (res:Bool) (hd:qu c f=some res):APure C0 322 [.agg (Zab.row c),.agg (Zai.row f)] (.bool res):=
  Zad.pure (iv:=fun res=>.bool res) (zhx c f) (by kernel_rfl) (Zad.run_of hd (by kernel_rfl))
noncomputable def kn  : Option Bool:=
  (Option.bind (x3 3) fun r1=>(Option.bind (x3 1) fun r2=>(Option.bind (x3 3) fun r3=>(Option.bind (jT ({Zao:=1,Zag:=[0],Zaw:=[],Zaj:=[({kind:=1,Zap:=0,give:=0,to:=(-1),unit:=(-1),lot:=({num:=0,den:=1}:Ratio)}:Zaq)],Zaf:=[({kind:=1,Zap:=0,act:=0,need:=1,start:=[],after:=2,Zay:=0,ZaE:=false,final:=true,pause:=(-1),ZaC:=(-1),value:=({num:=0,den:=1}:Ratio),unit:=(-1),to:=(-1),Zaz:=false}:Zam),({kind:=2,Zap:=0,act:=0,need:=1,start:=[],after:=3,Zay:=0,ZaE:=false,final:=true,pause:=(-1),ZaC:=(-1),value:=({num:=0,den:=1}:Ratio),unit:=(-1),to:=(-1),Zaz:=false}:Zam)],Zat:=5,off:=[]}:Zab)) fun r4=>(Option.bind (jT ({Zao:=1,Zag:=[0],Zaw:=[],Zaj:=[({kind:=1,Zap:=0,give:=0,to:=(-1),unit:=(-1),lot:=({num:=0,den:=1}:Ratio)}:Zaq)],Zaf:=[({kind:=1,Zap:=0,act:=0,need:=1,start:=[],after:=2,Zay:=0,ZaE:=false,final:=true,pause:=(-1),ZaC:=(-1),value:=({num:=0,den:=1}:Ratio),unit:=(-1),to:=(-1),Zaz:=false}:Zam),({kind:=2,Zap:=0,act:=0,need:=1,start:=[],after:=1,Zay:=0,ZaE:=false,final:=true,pause:=(-1),ZaC:=(-1),value:=({num:=0,den:=1}:Ratio),unit:=(-1),to:=(-1),Zaz:=false}:Zam)],Zat:=5,off:=[]}:Zab)) fun r5=>(Option.bind (jT ({Zao:=1,Zag:=[0],Zaw:=[],Zaj:=[({kind:=1,Zap:=0,give:=0,to:=(-1),unit:=(-1),lot:=({num:=0,den:=1}:Ratio)}:Zaq)],Zaf:=[({kind:=1,Zap:=0,act:=0,need:=1,start:=[],after:=2,Zay:=0,ZaE:=false,final:=true,pause:=(-1),ZaC:=(-1),value:=({num:=0,den:=1}:Ratio),unit:=(-1),to:=(-1),Zaz:=false}:Zam),({kind:=2,Zap:=0,act:=0,need:=1,start:=[({clause:=0,is:=4}:CondT)],after:=3,Zay:=0,ZaE:=false,final:=true,pause:=(-1),ZaC:=(-1),value:=({num:=0,den:=1}:Ratio),unit:=(-1),to:=(-1),Zaz:=false}:Zam)],Zat:=5,off:=[]}:Zab)) fun r6=>(Option.bind (bif (r4.2 == 0) then (Option.bind (vz r4.1 ([({kind:=1,Zaa:=0,clause:=(-1),other:=(-1),ZaA:=[(-1),(-1)]}:Zai),({kind:=4,Zaa:=(-1),clause:=0,other:=1,ZaA:=[]}:Zai)])) fun r7=>(bif r7 then (bif (r5.2 == 0) then (bif ((r5.1.length:Int) == 0) then (bif (r6.2 == 0) then (Option.bind (vz r6.1 ([({kind:=2,Zaa:=(-1),clause:=1,other:=(-1),ZaA:=[]}:Zai)])) fun r8=>some r8) else some false) else some false) else some false) else some false)) else some false) fun v1=>(Option.bind (bif v1 then (Option.bind (qu ({Zao:=1,Zag:=[0],Zaw:=[],Zaj:=[({kind:=1,Zap:=0,give:=0,to:=(-1),unit:=(-1),lot:=({num:=0,den:=1}:Ratio)}:Zaq)],Zaf:=[({kind:=1,Zap:=0,act:=0,need:=1,start:=[],after:=2,Zay:=0,ZaE:=false,final:=true,pause:=(-1),ZaC:=(-1),value:=({num:=0,den:=1}:Ratio),unit:=(-1),to:=(-1),Zaz:=false}:Zam),({kind:=2,Zap:=0,act:=0,need:=1,start:=[],after:=3,Zay:=0,ZaE:=false,final:=true,pause:=(-1),ZaC:=(-1),value:=({num:=0,den:=1}:Ratio),unit:=(-1),to:=(-1),Zaz:=false}:Zam)],Zat:=5,off:=[]}:Zab) ({kind:=1,Zaa:=0,clause:=(-1),other:=(-1),ZaA:=[(-1),(-1)]}:Zai)) fun r9=>(bif r9 then (Option.bind (qu ({Zao:=1,Zag:=[0],Zaw:=[],Zaj:=[({kind:=1,Zap:=0,give:=0,to:=(-1),unit:=(-1),lot:=({num:=0,den:=1}:Ratio)}:Zaq)],Zaf:=[({kind:=1,Zap:=0,act:=0,need:=1,start:=[],after:=2,Zay:=0,ZaE:=false,final:=true,pause:=(-1),ZaC:=(-1),value:=({num:=0,den:=1}:Ratio),unit:=(-1),to:=(-1),Zaz:=false}:Zam),({kind:=2,Zap:=0,act:=0,need:=1,start:=[],after:=3,Zay:=0,ZaE:=false,final:=true,pause:=(-1),ZaC:=(-1),value:=({num:=0,den:=1}:Ratio),unit:=(-1),to:=(-1),Zaz:=false}:Zam)],Zat:=5,off:=[]}:Zab) ({kind:=4,Zaa:=(-1),clause:=0,other:=1,ZaA:=[]}:Zai)) fun r10=>(bif r10 then (Option.bind (qu ({Zao:=1,Zag:=[0],Zaw:=[],Zaj:=[({kind:=1,Zap:=0,give:=0,to:=(-1),unit:=(-1),lot:=({num:=0,den:=1}:Ratio)}:Zaq)],Zaf:=[({kind:=1,Zap:=0,act:=0,need:=1,start:=[],after:=2,Zay:=0,ZaE:=false,final:=true,pause:=(-1),ZaC:=(-1),value:=({num:=0,den:=1}:Ratio),unit:=(-1),to:=(-1),Zaz:=false}:Zam),({kind:=2,Zap:=0,act:=0,need:=1,start:=[({clause:=0,is:=4}:CondT)],after:=3,Zay:=0,ZaE:=false,final:=true,pause:=(-1),ZaC:=(-1),value:=({num:=0,den:=1}:Ratio),unit:=(-1),to:=(-1),Zaz:=false}:Zam)],Zat:=5,off:=[]}:Zab) ({kind:=2,Zaa:=(-1),clause:=1,other:=(-1),ZaA:=[]}:Zai)) fun r11=>(bif r11 then (Option.bind (qu ({Zao:=1,Zag:=[0],Zaw:=[],Zaj:=[({kind:=1,Zap:=0,give:=0,to:=(-1),unit:=(-1),lot:=({num:=0,den:=1}:Ratio)}:Zaq)],Zaf:=[({kind:=1,Zap:=0,act:=0,need:=1,start:=[],after:=2,Zay:=0,ZaE:=false,final:=true,pause:=(-1),ZaC:=(-1),value:=({num:=0,den:=1}:Ratio),unit:=(-1),to:=(-1),Zaz:=false}:Zam),({kind:=2,Zap:=0,act:=0,need:=1,start:=[],after:=1,Zay:=0,ZaE:=false,final:=true,pause:=(-1),ZaC:=(-1),value:=({num:=0,den:=1}:Ratio),unit:=(-1),to:=(-1),Zaz:=false}:Zam)],Zat:=5,off:=[]}:Zab) ({kind:=1,Zaa:=0,clause:=(-1),other:=(-1),ZaA:=[(-1),(-1)]}:Zai)) fun r12=>(bif r12 then some false else (Option.bind (qu ({Zao:=1,Zag:=[0],Zaw:=[],Zaj:=[({kind:=1,Zap:=0,give:=0,to:=(-1),unit:=(-1),lot:=({num:=0,den:=1}:Ratio)}:Zaq)],Zaf:=[({kind:=1,Zap:=0,act:=0,need:=1,start:=[],after:=2,Zay:=0,ZaE:=false,final:=true,pause:=(-1),ZaC:=(-1),value:=({num:=0,den:=1}:Ratio),unit:=(-1),to:=(-1),Zaz:=false}:Zam),({kind:=2,Zap:=0,act:=0,need:=1,start:=[],after:=1,Zay:=0,ZaE:=false,final:=true,pause:=(-1),ZaC:=(-1),value:=({num:=0,den:=1}:Ratio),unit:=(-1),to:=(-1),Zaz:=false}:Zam)],Zat:=5,off:=[]}:Zab) ({kind:=4,Zaa:=(-1),clause:=0,other:=1,ZaA:=[]}:Zai)) fun r13=>(bif r13 then some false else (Option.bind (qu ({Zao:=1,Zag:=[0],Zaw:=[],Zaj:=[({kind:=1,Zap:=0,give:=0,to:=(-1),unit:=(-1),lot:=({num:=0,den:=1}:Ratio)}:Zaq)],Zaf:=[({kind:=1,Zap:=0,act:=0,need:=1,start:=[],after:=2,Zay:=0,ZaE:=false,final:=true,pause:=(-1),ZaC:=(-1),value:=({num:=0,den:=1}:Ratio),unit:=(-1),to:=(-1),Zaz:=false}:Zam),({kind:=2,Zap:=0,act:=0,need:=1,start:=[],after:=3,Zay:=0,ZaE:=false,final:=true,pause:=(-1),ZaC:=(-1),value:=({num:=0,den:=1}:Ratio),unit:=(-1),to:=(-1),Zaz:=false}:Zam)],Zat:=5,off:=[]}:Zab) ({kind:=2,Zaa:=(-1),clause:=1,other:=(-1),ZaA:=[]}:Zai)) fun r14=>some (!r14)))))) else some false)) else some false)) else some false)) else some false) fun v2=>some v2))))))))
noncomputable def zfX  : Zad Bool:=
  .reg 1 (.b1 2564 (x3 3) (fun r1=>.c [] 0 (.agg [vI 1,.Zak 21 0 1,.nil,.Zak 23 0 1,.Zak 26 0 2,vI 5,.nil]) [(21,.rows 1 [[vI 0]]),(23,.rows 7 [[vI 1,vI 0,vI 0,vI (-1),vI (-1),vI 0,vI 1]]),(26,.rows 16 [[vI 1,vI 0,vI 0,vI 1,.nil,vI 2,vI 0,vB false,vB true,vI (-1),vI (-1),vI 0,vI 1,vI (-1),vI (-1),vB false],[vI 2,vI 0,vI 0,vI 1,.nil,vI 3,vI 0,vB false,vB true,vI (-1),vI (-1),vI 0,vI 1,vI (-1),vI (-1),vB false]])] 26) (fun r1 hr1=>(zi (zan 3 r1 hr1) [] 1 (.keep (.keep (.keep .nil))) rhN (rhR (rhR (rhR rhN))))) fun r1=>.b1 2566 (x3 1) (fun r2=>.c [] 0 (.agg [vI 1,.Zak 48 0 1,.nil,.Zak 50 0 1,.Zak 53 0 2,vI 5,.nil]) [(48,.rows 1 [[vI 0]]),(50,.rows 7 [[vI 1,vI 0,vI 0,vI (-1),vI (-1),vI 0,vI 1]]),(53,.rows 16 [[vI 1,vI 0,vI 0,vI 1,.nil,vI 2,vI 0,vB false,vB true,vI (-1),vI (-1),vI 0,vI 1,vI (-1),vI (-1),vB false],[vI 2,vI 0,vI 0,vI 1,.nil,vI 1,vI 0,vB false,vB true,vI (-1),vI (-1),vI 0,vI 1,vI (-1),vI (-1),vB false]])] 26) (fun r2 hr2=>(zi (zan 1 r2 hr2) [] 28 (.keep (.keep (.keep .nil))) rhN (rhR (rhR (rhR rhN))))) fun r2=>.b1 2568 (x3 3) (fun r3=>.c [] 0 (.agg [vI 1,.Zak 75 0 1,.nil,.Zak 77 0 1,.Zak 80 0 2,vI 5,.nil]) [(75,.rows 1 [[vI 0]]),(77,.rows 7 [[vI 1,vI 0,vI 0,vI (-1),vI (-1),vI 0,vI 1]]),(80,.rows 16 [[vI 1,vI 0,vI 0,vI 1,.nil,vI 2,vI 0,vB false,vB true,vI (-1),vI (-1),vI 0,vI 1,vI (-1),vI (-1),vB false],[vI 2,vI 0,vI 0,vI 1,.nil,vI 3,vI 0,vB false,vB true,vI (-1),vI (-1),vI 0,vI 1,vI (-1),vI (-1),vB false]])] 26) (fun r3 hr3=>(zi (zan 3 r3 hr3) [] 55 (.keep (.keep (.keep .nil))) rhN (rhR (rhR (rhR rhN))))) fun r3=>.us [(0,2564),(1,2566),(2,2568)] (.weak 2 [vW 21 1 [82] zc [0],vW 23 7 [82] Zaq.row [({kind:=1,Zap:=0,give:=0,to:=(-1),unit:=(-1),lot:=({num:=0,den:=1}:Ratio)}:Zaq)],zcx 26 16 [[vI 1,vI 0,vI 0,vI 1,.nil,vI 2,vI 0,vB false,vB true,vI (-1),vI (-1),vI 0,vI 1,vI (-1),vI (-1),vB false],[vI 2,vI 0,vI 0,vI 1,.nil,vI 3,vI 0,vB false,vB true,vI (-1),vI (-1),vI 0,vI 1,vI (-1),vI (-1),vB false]] [[vI 1,vI 0,vI 0,vI 1,.imm (.slice (List.map CondT.row [])),vI 2,vI 0,vB false,vB true,vI (-1),vI (-1),vI 0,vI 1,vI (-1),vI (-1),vB false],[vI 2,vI 0,vI 0,vI 1,.imm (.slice (List.map CondT.row [])),vI 3,vI 0,vB false,vB true,vI (-1),vI (-1),vI 0,vI 1,vI (-1),vI (-1),vB false]] (.cons (.cons (.refl _) (.cons (.refl _) (.cons (.refl _) (.cons (.refl _) (.cons .nil (.cons (.refl _) (.cons (.refl _) (.cons (.refl _) (.cons (.refl _) (.cons (.refl _) (.cons (.refl _) (.cons (.refl _) (.cons (.refl _) (.cons (.refl _) (.cons (.refl _) (.cons (.refl _) .nil)))))))))))))))) (.cons (.cons (.refl _) (.cons (.refl _) (.cons (.refl _) (.cons (.refl _) (.cons .nil (.cons (.refl _) (.cons (.refl _) (.cons (.refl _) (.cons (.refl _) (.cons (.refl _) (.cons (.refl _) (.cons (.refl _) (.cons (.refl _) (.cons (.refl _) (.cons (.refl _) (.cons (.refl _) .nil)))))))))))))))) .nil)),vW 26 16 [82] Zam.row ([({kind:=1,Zap:=0,act:=0,need:=1,start:=[],after:=2,Zay:=0,ZaE:=false,final:=true,pause:=(-1),ZaC:=(-1),value:=({num:=0,den:=1}:Ratio),unit:=(-1),to:=(-1),Zaz:=false}:Zam),({kind:=2,Zap:=0,act:=0,need:=1,start:=[],after:=3,Zay:=0,ZaE:=false,final:=true,pause:=(-1),ZaC:=(-1),value:=({num:=0,den:=1}:Ratio),unit:=(-1),to:=(-1),Zaz:=false}:Zam)])] (.reg 0 (.call 2570 (WR ({Zao:=1,Zag:=[0],Zaw:=[],Zaj:=[({kind:=1,Zap:=0,give:=0,to:=(-1),unit:=(-1),lot:=({num:=0,den:=1}:Ratio)}:Zaq)],Zaf:=[({kind:=1,Zap:=0,act:=0,need:=1,start:=[],after:=2,Zay:=0,ZaE:=false,final:=true,pause:=(-1),ZaC:=(-1),value:=({num:=0,den:=1}:Ratio),unit:=(-1),to:=(-1),Zaz:=false}:Zam),({kind:=2,Zap:=0,act:=0,need:=1,start:=[],after:=3,Zay:=0,ZaE:=false,final:=true,pause:=(-1),ZaC:=(-1),value:=({num:=0,den:=1}:Ratio),unit:=(-1),to:=(-1),Zaz:=false}:Zam)],Zat:=5,off:=[]}:Zab)) fun r4=>.use 1 2570 (.weak 1 [vW 48 1 [83] zc [0],vW 50 7 [83] Zaq.row [({kind:=1,Zap:=0,give:=0,to:=(-1),unit:=(-1),lot:=({num:=0,den:=1}:Ratio)}:Zaq)],zcx 53 16 [[vI 1,vI 0,vI 0,vI 1,.nil,vI 2,vI 0,vB false,vB true,vI (-1),vI (-1),vI 0,vI 1,vI (-1),vI (-1),vB false],[vI 2,vI 0,vI 0,vI 1,.nil,vI 1,vI 0,vB false,vB true,vI (-1),vI (-1),vI 0,vI 1,vI (-1),vI (-1),vB false]] [[vI 1,vI 0,vI 0,vI 1,.imm (.slice (List.map CondT.row [])),vI 2,vI 0,vB false,vB true,vI (-1),vI (-1),vI 0,vI 1,vI (-1),vI (-1),vB false],[vI 2,vI 0,vI 0,vI 1,.imm (.slice (List.map CondT.row [])),vI 1,vI 0,vB false,vB true,vI (-1),vI (-1),vI 0,vI 1,vI (-1),vI (-1),vB false]] (.cons (.cons (.refl _) (.cons (.refl _) (.cons (.refl _) (.cons (.refl _) (.cons .nil (.cons (.refl _) (.cons (.refl _) (.cons (.refl _) (.cons (.refl _) (.cons (.refl _) (.cons (.refl _) (.cons (.refl _) (.cons (.refl _) (.cons (.refl _) (.cons (.refl _) (.cons (.refl _) .nil)))))))))))))))) (.cons (.cons (.refl _) (.cons (.refl _) (.cons (.refl _) (.cons (.refl _) (.cons .nil (.cons (.refl _) (.cons (.refl _) (.cons (.refl _) (.cons (.refl _) (.cons (.refl _) (.cons (.refl _) (.cons (.refl _) (.cons (.refl _) (.cons (.refl _) (.cons (.refl _) (.cons (.refl _) .nil)))))))))))))))) .nil)),vW 53 16 [83] Zam.row ([({kind:=1,Zap:=0,act:=0,need:=1,start:=[],after:=2,Zay:=0,ZaE:=false,final:=true,pause:=(-1),ZaC:=(-1),value:=({num:=0,den:=1}:Ratio),unit:=(-1),to:=(-1),Zaz:=false}:Zam),({kind:=2,Zap:=0,act:=0,need:=1,start:=[],after:=1,Zay:=0,ZaE:=false,final:=true,pause:=(-1),ZaC:=(-1),value:=({num:=0,den:=1}:Ratio),unit:=(-1),to:=(-1),Zaz:=false}:Zam)])] (.reg 0 (.call 2572 (WR ({Zao:=1,Zag:=[0],Zaw:=[],Zaj:=[({kind:=1,Zap:=0,give:=0,to:=(-1),unit:=(-1),lot:=({num:=0,den:=1}:Ratio)}:Zaq)],Zaf:=[({kind:=1,Zap:=0,act:=0,need:=1,start:=[],after:=2,Zay:=0,ZaE:=false,final:=true,pause:=(-1),ZaC:=(-1),value:=({num:=0,den:=1}:Ratio),unit:=(-1),to:=(-1),Zaz:=false}:Zam),({kind:=2,Zap:=0,act:=0,need:=1,start:=[],after:=1,Zay:=0,ZaE:=false,final:=true,pause:=(-1),ZaC:=(-1),value:=({num:=0,den:=1}:Ratio),unit:=(-1),to:=(-1),Zaz:=false}:Zam)],Zat:=5,off:=[]}:Zab)) fun r5=>.use 1 2572 (.weak 1 [vW 75 1 [84] zc [0],vW 77 7 [84] Zaq.row [({kind:=1,Zap:=0,give:=0,to:=(-1),unit:=(-1),lot:=({num:=0,den:=1}:Ratio)}:Zaq)],vW 91 2 [80] CondT.row [({clause:=0,is:=4}:CondT)],zcx 80 16 [[vI 1,vI 0,vI 0,vI 1,.nil,vI 2,vI 0,vB false,vB true,vI (-1),vI (-1),vI 0,vI 1,vI (-1),vI (-1),vB false],[vI 2,vI 0,vI 0,vI 1,.imm (.slice (List.map CondT.row [({clause:=0,is:=4}:CondT)])),vI 3,vI 0,vB false,vB true,vI (-1),vI (-1),vI 0,vI 1,vI (-1),vI (-1),vB false]] [[vI 1,vI 0,vI 0,vI 1,.imm (.slice (List.map CondT.row [])),vI 2,vI 0,vB false,vB true,vI (-1),vI (-1),vI 0,vI 1,vI (-1),vI (-1),vB false],[vI 2,vI 0,vI 0,vI 1,.imm (.slice (List.map CondT.row [({clause:=0,is:=4}:CondT)])),vI 3,vI 0,vB false,vB true,vI (-1),vI (-1),vI 0,vI 1,vI (-1),vI (-1),vB false]] (.cons (.cons (.refl _) (.cons (.refl _) (.cons (.refl _) (.cons (.refl _) (.cons .nil (.cons (.refl _) (.cons (.refl _) (.cons (.refl _) (.cons (.refl _) (.cons (.refl _) (.cons (.refl _) (.cons (.refl _) (.cons (.refl _) (.cons (.refl _) (.cons (.refl _) (.cons (.refl _) .nil)))))))))))))))) (.cons (.cons (.refl _) (.cons (.refl _) (.cons (.refl _) (.cons (.refl _) (.cons (.refl _) (.cons (.refl _) (.cons (.refl _) (.cons (.refl _) (.cons (.refl _) (.cons (.refl _) (.cons (.refl _) (.cons (.refl _) (.cons (.refl _) (.cons (.refl _) (.cons (.refl _) (.cons (.refl _) .nil)))))))))))))))) .nil)),vW 80 16 [84] Zam.row ([({kind:=1,Zap:=0,act:=0,need:=1,start:=[],after:=2,Zay:=0,ZaE:=false,final:=true,pause:=(-1),ZaC:=(-1),value:=({num:=0,den:=1}:Ratio),unit:=(-1),to:=(-1),Zaz:=false}:Zam),({kind:=2,Zap:=0,act:=0,need:=1,start:=[({clause:=0,is:=4}:CondT)],after:=3,Zay:=0,ZaE:=false,final:=true,pause:=(-1),ZaC:=(-1),value:=({num:=0,den:=1}:Ratio),unit:=(-1),to:=(-1),Zaz:=false}:Zam)])] (.reg 0 (.call 2574 (WR ({Zao:=1,Zag:=[0],Zaw:=[],Zaj:=[({kind:=1,Zap:=0,give:=0,to:=(-1),unit:=(-1),lot:=({num:=0,den:=1}:Ratio)}:Zaq)],Zaf:=[({kind:=1,Zap:=0,act:=0,need:=1,start:=[],after:=2,Zay:=0,ZaE:=false,final:=true,pause:=(-1),ZaC:=(-1),value:=({num:=0,den:=1}:Ratio),unit:=(-1),to:=(-1),Zaz:=false}:Zam),({kind:=2,Zap:=0,act:=0,need:=1,start:=[({clause:=0,is:=4}:CondT)],after:=3,Zay:=0,ZaE:=false,final:=true,pause:=(-1),ZaC:=(-1),value:=({num:=0,den:=1}:Ratio),unit:=(-1),to:=(-1),Zaz:=false}:Zam)],Zat:=5,off:=[]}:Zab)) fun r6=>.use 1 2574 (.cut (β:=Bool) 4 (.e [1,2,3,10,11,12] (fun v1=>[(13,vB v1)]) [82,83,84,116,118,121,124] 155) (.reg 0 (.ite 2258 (r4.2 == 0) (.bind (vz r4.1 ([({kind:=1,Zaa:=0,clause:=(-1),other:=(-1),ZaA:=[(-1),(-1)]}:Zai),({kind:=4,Zaa:=(-1),clause:=0,other:=1,ZaA:=[]}:Zai)])) (fun r7=>[(2576,([.w [132,116] [.slice (List.map Zai.row r4.1),.slice (List.map Zai.row ([({kind:=1,Zaa:=0,clause:=(-1),other:=(-1),ZaA:=[(-1),(-1)]}:Zai),({kind:=4,Zaa:=(-1),clause:=0,other:=1,ZaA:=[]}:Zai)]))] (.bool r7)],_))]) (fun r7 hr7=>(.c2 (zbN r4.1 ([({kind:=1,Zaa:=0,clause:=(-1),other:=(-1),ZaA:=[(-1),(-1)]}:Zai),({kind:=4,Zaa:=(-1),clause:=0,other:=1,ZaA:=[]}:Zai)]) r7 hr7) (jt [.imm (.slice (List.map Zai.row r4.1)),.Zak 132 0 2] [(132,.rows 5 [[vI 1,vI 0,vI (-1),vI (-1),.Zak 116 0 2],[vI 4,vI (-1),vI 0,vI 1,.nil]]),(116,.rows 1 [[vI (-1)],[vI (-1)]])] [.slice (List.map Zai.row r4.1),.slice (List.map Zai.row ([({kind:=1,Zaa:=0,clause:=(-1),other:=(-1),ZaA:=[(-1),(-1)]}:Zai),({kind:=4,Zaa:=(-1),clause:=0,other:=1,ZaA:=[]}:Zai)]))] (by kernel_rfl)) .nil)) fun r7=>.ite 2320 r7 (.ite 2322 (r5.2 == 0) (.ite 2324 ((r5.1.length:Int) == 0) (.ite 2326 (r6.2 == 0) (.bind (vz r6.1 ([({kind:=2,Zaa:=(-1),clause:=1,other:=(-1),ZaA:=[]}:Zai)])) (fun r8=>[(2578,([.w [151] [.slice (List.map Zai.row r6.1),.slice (List.map Zai.row ([({kind:=2,Zaa:=(-1),clause:=1,other:=(-1),ZaA:=[]}:Zai)]))] (.bool r8)],_))]) (fun r8 hr8=>(.c2 (zbN r6.1 ([({kind:=2,Zaa:=(-1),clause:=1,other:=(-1),ZaA:=[]}:Zai)]) r8 hr8) (jt [.imm (.slice (List.map Zai.row r6.1)),.Zak 151 0 1] [(151,.rows 5 [[vI 2,vI (-1),vI 1,vI (-1),.nil]])] [.slice (List.map Zai.row r6.1),.slice (List.map Zai.row ([({kind:=2,Zaa:=(-1),clause:=1,other:=(-1),ZaA:=[]}:Zai)]))] (by kernel_rfl)) .nil)) fun r8=>.us [(3,2258),(7,2576),(10,2320),(14,2322)] (.ln 2580 Zai.row r5.1 (.us [(15,2580),(19,2324),(23,2326),(26,2578)] (.ret r8)))) (.us [(3,2258),(7,2576),(10,2320),(14,2322)] (.ln 2582 Zai.row r5.1 (.us [(15,2582),(19,2324),(23,2326)] (.ret false))))) (.us [(3,2258),(7,2576),(10,2320),(14,2322)] (.ln 2586 Zai.row r5.1 (.us [(15,2586),(19,2324)] (.f1 2584 (.g false) (rfl:false=false) (.use 23 2584 (.ret false))))))) (.us [(3,2258),(7,2576),(10,2320),(14,2322)] (.f1 2590 (.g false) (rfl:false=false) (.use 19 2590 (.f1 2588 (.g false) (rfl:false=false) (.use 23 2588 (.ret false))))))) (.us [(3,2258),(7,2576),(10,2320)] (.f1 2596 (.g false) (rfl:false=false) (.use 14 2596 (.f1 2594 (.g false) (rfl:false=false) (.use 19 2594 (.f1 2592 (.g false) (rfl:false=false) (.use 23 2592 (.ret false))))))))) (.use 3 2258 (.f1 2604 (.g false) (rfl:false=false) (.use 10 2604 (.f1 2602 (.g false) (rfl:false=false) (.use 14 2602 (.f1 2600 (.g false) (rfl:false=false) (.use 19 2600 (.f1 2598 (.g false) (rfl:false=false) (.use 23 2598 (.ret false)))))))))))) fun v1=>.cut (β:=Bool) 1 (.e [] (fun v2=>[(0,vB v2)]) [82,83,84,116,118,121,124] 190) (.reg 0 (.ite 2328 v1 (.bind (qu ({Zao:=1,Zag:=[0],Zaw:=[],Zaj:=[({kind:=1,Zap:=0,give:=0,to:=(-1),unit:=(-1),lot:=({num:=0,den:=1}:Ratio)}:Zaq)],Zaf:=[({kind:=1,Zap:=0,act:=0,need:=1,start:=[],after:=2,Zay:=0,ZaE:=false,final:=true,pause:=(-1),ZaC:=(-1),value:=({num:=0,den:=1}:Ratio),unit:=(-1),to:=(-1),Zaz:=false}:Zam),({kind:=2,Zap:=0,act:=0,need:=1,start:=[],after:=3,Zay:=0,ZaE:=false,final:=true,pause:=(-1),ZaC:=(-1),value:=({num:=0,den:=1}:Ratio),unit:=(-1),to:=(-1),Zaz:=false}:Zam)],Zat:=5,off:=[]}:Zab) ({kind:=1,Zaa:=0,clause:=(-1),other:=(-1),ZaA:=[(-1),(-1)]}:Zai)) (fun r9=>[(2606,([.w [116] [.agg (Zab.row ({Zao:=1,Zag:=[0],Zaw:=[],Zaj:=[({kind:=1,Zap:=0,give:=0,to:=(-1),unit:=(-1),lot:=({num:=0,den:=1}:Ratio)}:Zaq)],Zaf:=[({kind:=1,Zap:=0,act:=0,need:=1,start:=[],after:=2,Zay:=0,ZaE:=false,final:=true,pause:=(-1),ZaC:=(-1),value:=({num:=0,den:=1}:Ratio),unit:=(-1),to:=(-1),Zaz:=false}:Zam),({kind:=2,Zap:=0,act:=0,need:=1,start:=[],after:=3,Zay:=0,ZaE:=false,final:=true,pause:=(-1),ZaC:=(-1),value:=({num:=0,den:=1}:Ratio),unit:=(-1),to:=(-1),Zaz:=false}:Zam)],Zat:=5,off:=[]}:Zab)),.agg (Zai.row ({kind:=1,Zaa:=0,clause:=(-1),other:=(-1),ZaA:=[(-1),(-1)]}:Zai))] (.bool r9)],_))]) (fun r9 hr9=>(.c2 (vD ({Zao:=1,Zag:=[0],Zaw:=[],Zaj:=[({kind:=1,Zap:=0,give:=0,to:=(-1),unit:=(-1),lot:=({num:=0,den:=1}:Ratio)}:Zaq)],Zaf:=[({kind:=1,Zap:=0,act:=0,need:=1,start:=[],after:=2,Zay:=0,ZaE:=false,final:=true,pause:=(-1),ZaC:=(-1),value:=({num:=0,den:=1}:Ratio),unit:=(-1),to:=(-1),Zaz:=false}:Zam),({kind:=2,Zap:=0,act:=0,need:=1,start:=[],after:=3,Zay:=0,ZaE:=false,final:=true,pause:=(-1),ZaC:=(-1),value:=({num:=0,den:=1}:Ratio),unit:=(-1),to:=(-1),Zaz:=false}:Zam)],Zat:=5,off:=[]}:Zab) ({kind:=1,Zaa:=0,clause:=(-1),other:=(-1),ZaA:=[(-1),(-1)]}:Zai) r9 hr9) (jt [.agg ([vI 1,.imm (.slice (List.map zc [0])),.nil,.imm (.slice (List.map Zaq.row [({kind:=1,Zap:=0,give:=0,to:=(-1),unit:=(-1),lot:=({num:=0,den:=1}:Ratio)}:Zaq)])),.imm (.slice (List.map Zam.row ([({kind:=1,Zap:=0,act:=0,need:=1,start:=[],after:=2,Zay:=0,ZaE:=false,final:=true,pause:=(-1),ZaC:=(-1),value:=({num:=0,den:=1}:Ratio),unit:=(-1),to:=(-1),Zaz:=false}:Zam),({kind:=2,Zap:=0,act:=0,need:=1,start:=[],after:=3,Zay:=0,ZaE:=false,final:=true,pause:=(-1),ZaC:=(-1),value:=({num:=0,den:=1}:Ratio),unit:=(-1),to:=(-1),Zaz:=false}:Zam)]))),vI 5,.nil]),.agg [vI 1,vI 0,vI (-1),vI (-1),.Zak 116 0 2]] [(116,.rows 1 [[vI (-1)],[vI (-1)]])] [.agg (Zab.row ({Zao:=1,Zag:=[0],Zaw:=[],Zaj:=[({kind:=1,Zap:=0,give:=0,to:=(-1),unit:=(-1),lot:=({num:=0,den:=1}:Ratio)}:Zaq)],Zaf:=[({kind:=1,Zap:=0,act:=0,need:=1,start:=[],after:=2,Zay:=0,ZaE:=false,final:=true,pause:=(-1),ZaC:=(-1),value:=({num:=0,den:=1}:Ratio),unit:=(-1),to:=(-1),Zaz:=false}:Zam),({kind:=2,Zap:=0,act:=0,need:=1,start:=[],after:=3,Zay:=0,ZaE:=false,final:=true,pause:=(-1),ZaC:=(-1),value:=({num:=0,den:=1}:Ratio),unit:=(-1),to:=(-1),Zaz:=false}:Zam)],Zat:=5,off:=[]}:Zab)),.agg (Zai.row ({kind:=1,Zaa:=0,clause:=(-1),other:=(-1),ZaA:=[(-1),(-1)]}:Zai))] (by kernel_rfl)) .nil)) fun r9=>.ite 2554 r9 (.call 2608 (vD ({Zao:=1,Zag:=[0],Zaw:=[],Zaj:=[({kind:=1,Zap:=0,give:=0,to:=(-1),unit:=(-1),lot:=({num:=0,den:=1}:Ratio)}:Zaq)],Zaf:=[({kind:=1,Zap:=0,act:=0,need:=1,start:=[],after:=2,Zay:=0,ZaE:=false,final:=true,pause:=(-1),ZaC:=(-1),value:=({num:=0,den:=1}:Ratio),unit:=(-1),to:=(-1),Zaz:=false}:Zam),({kind:=2,Zap:=0,act:=0,need:=1,start:=[],after:=3,Zay:=0,ZaE:=false,final:=true,pause:=(-1),ZaC:=(-1),value:=({num:=0,den:=1}:Ratio),unit:=(-1),to:=(-1),Zaz:=false}:Zam)],Zat:=5,off:=[]}:Zab) ({kind:=4,Zaa:=(-1),clause:=0,other:=1,ZaA:=[]}:Zai)) fun r10=>.ite 2556 r10 (.call 2610 (vD ({Zao:=1,Zag:=[0],Zaw:=[],Zaj:=[({kind:=1,Zap:=0,give:=0,to:=(-1),unit:=(-1),lot:=({num:=0,den:=1}:Ratio)}:Zaq)],Zaf:=[({kind:=1,Zap:=0,act:=0,need:=1,start:=[],after:=2,Zay:=0,ZaE:=false,final:=true,pause:=(-1),ZaC:=(-1),value:=({num:=0,den:=1}:Ratio),unit:=(-1),to:=(-1),Zaz:=false}:Zam),({kind:=2,Zap:=0,act:=0,need:=1,start:=[({clause:=0,is:=4}:CondT)],after:=3,Zay:=0,ZaE:=false,final:=true,pause:=(-1),ZaC:=(-1),value:=({num:=0,den:=1}:Ratio),unit:=(-1),to:=(-1),Zaz:=false}:Zam)],Zat:=5,off:=[]}:Zab) ({kind:=2,Zaa:=(-1),clause:=1,other:=(-1),ZaA:=[]}:Zai)) fun r11=>.ite 2558 r11 (.bind (qu ({Zao:=1,Zag:=[0],Zaw:=[],Zaj:=[({kind:=1,Zap:=0,give:=0,to:=(-1),unit:=(-1),lot:=({num:=0,den:=1}:Ratio)}:Zaq)],Zaf:=[({kind:=1,Zap:=0,act:=0,need:=1,start:=[],after:=2,Zay:=0,ZaE:=false,final:=true,pause:=(-1),ZaC:=(-1),value:=({num:=0,den:=1}:Ratio),unit:=(-1),to:=(-1),Zaz:=false}:Zam),({kind:=2,Zap:=0,act:=0,need:=1,start:=[],after:=1,Zay:=0,ZaE:=false,final:=true,pause:=(-1),ZaC:=(-1),value:=({num:=0,den:=1}:Ratio),unit:=(-1),to:=(-1),Zaz:=false}:Zam)],Zat:=5,off:=[]}:Zab) ({kind:=1,Zaa:=0,clause:=(-1),other:=(-1),ZaA:=[(-1),(-1)]}:Zai)) (fun r12=>[(2612,([.w [116] [.agg (Zab.row ({Zao:=1,Zag:=[0],Zaw:=[],Zaj:=[({kind:=1,Zap:=0,give:=0,to:=(-1),unit:=(-1),lot:=({num:=0,den:=1}:Ratio)}:Zaq)],Zaf:=[({kind:=1,Zap:=0,act:=0,need:=1,start:=[],after:=2,Zay:=0,ZaE:=false,final:=true,pause:=(-1),ZaC:=(-1),value:=({num:=0,den:=1}:Ratio),unit:=(-1),to:=(-1),Zaz:=false}:Zam),({kind:=2,Zap:=0,act:=0,need:=1,start:=[],after:=1,Zay:=0,ZaE:=false,final:=true,pause:=(-1),ZaC:=(-1),value:=({num:=0,den:=1}:Ratio),unit:=(-1),to:=(-1),Zaz:=false}:Zam)],Zat:=5,off:=[]}:Zab)),.agg (Zai.row ({kind:=1,Zaa:=0,clause:=(-1),other:=(-1),ZaA:=[(-1),(-1)]}:Zai))] (.bool r12)],_))]) (fun r12 hr12=>(.c2 (vD ({Zao:=1,Zag:=[0],Zaw:=[],Zaj:=[({kind:=1,Zap:=0,give:=0,to:=(-1),unit:=(-1),lot:=({num:=0,den:=1}:Ratio)}:Zaq)],Zaf:=[({kind:=1,Zap:=0,act:=0,need:=1,start:=[],after:=2,Zay:=0,ZaE:=false,final:=true,pause:=(-1),ZaC:=(-1),value:=({num:=0,den:=1}:Ratio),unit:=(-1),to:=(-1),Zaz:=false}:Zam),({kind:=2,Zap:=0,act:=0,need:=1,start:=[],after:=1,Zay:=0,ZaE:=false,final:=true,pause:=(-1),ZaC:=(-1),value:=({num:=0,den:=1}:Ratio),unit:=(-1),to:=(-1),Zaz:=false}:Zam)],Zat:=5,off:=[]}:Zab) ({kind:=1,Zaa:=0,clause:=(-1),other:=(-1),ZaA:=[(-1),(-1)]}:Zai) r12 hr12) (jt [.agg ([vI 1,.imm (.slice (List.map zc [0])),.nil,.imm (.slice (List.map Zaq.row [({kind:=1,Zap:=0,give:=0,to:=(-1),unit:=(-1),lot:=({num:=0,den:=1}:Ratio)}:Zaq)])),.imm (.slice (List.map Zam.row ([({kind:=1,Zap:=0,act:=0,need:=1,start:=[],after:=2,Zay:=0,ZaE:=false,final:=true,pause:=(-1),ZaC:=(-1),value:=({num:=0,den:=1}:Ratio),unit:=(-1),to:=(-1),Zaz:=false}:Zam),({kind:=2,Zap:=0,act:=0,need:=1,start:=[],after:=1,Zay:=0,ZaE:=false,final:=true,pause:=(-1),ZaC:=(-1),value:=({num:=0,den:=1}:Ratio),unit:=(-1),to:=(-1),Zaz:=false}:Zam)]))),vI 5,.nil]),.agg [vI 1,vI 0,vI (-1),vI (-1),.Zak 116 0 2]] [(116,.rows 1 [[vI (-1)],[vI (-1)]])] [.agg (Zab.row ({Zao:=1,Zag:=[0],Zaw:=[],Zaj:=[({kind:=1,Zap:=0,give:=0,to:=(-1),unit:=(-1),lot:=({num:=0,den:=1}:Ratio)}:Zaq)],Zaf:=[({kind:=1,Zap:=0,act:=0,need:=1,start:=[],after:=2,Zay:=0,ZaE:=false,final:=true,pause:=(-1),ZaC:=(-1),value:=({num:=0,den:=1}:Ratio),unit:=(-1),to:=(-1),Zaz:=false}:Zam),({kind:=2,Zap:=0,act:=0,need:=1,start:=[],after:=1,Zay:=0,ZaE:=false,final:=true,pause:=(-1),ZaC:=(-1),value:=({num:=0,den:=1}:Ratio),unit:=(-1),to:=(-1),Zaz:=false}:Zam)],Zat:=5,off:=[]}:Zab)),.agg (Zai.row ({kind:=1,Zaa:=0,clause:=(-1),other:=(-1),ZaA:=[(-1),(-1)]}:Zai))] (by kernel_rfl)) .nil)) fun r12=>.ite 2560 r12 (.us [(2,2328),(4,2606),(7,2554),(9,2608),(12,2556),(14,2610),(17,2558),(19,2612),(23,2561)] (.f1 2614 (.g false) (rfl:false=false) (.use 29 2614 (.ret false)))) (.call 2616 (vD ({Zao:=1,Zag:=[0],Zaw:=[],Zaj:=[({kind:=1,Zap:=0,give:=0,to:=(-1),unit:=(-1),lot:=({num:=0,den:=1}:Ratio)}:Zaq)],Zaf:=[({kind:=1,Zap:=0,act:=0,need:=1,start:=[],after:=2,Zay:=0,ZaE:=false,final:=true,pause:=(-1),ZaC:=(-1),value:=({num:=0,den:=1}:Ratio),unit:=(-1),to:=(-1),Zaz:=false}:Zam),({kind:=2,Zap:=0,act:=0,need:=1,start:=[],after:=1,Zay:=0,ZaE:=false,final:=true,pause:=(-1),ZaC:=(-1),value:=({num:=0,den:=1}:Ratio),unit:=(-1),to:=(-1),Zaz:=false}:Zam)],Zat:=5,off:=[]}:Zab) ({kind:=4,Zaa:=(-1),clause:=0,other:=1,ZaA:=[]}:Zai)) fun r13=>.ite 2562 r13 (.us [(2,2328),(4,2606),(7,2554),(9,2608),(12,2556),(14,2610),(17,2558),(19,2612),(23,2561),(25,2616),(29,2563)] (.ret false)) (.call 2618 (vD ({Zao:=1,Zag:=[0],Zaw:=[],Zaj:=[({kind:=1,Zap:=0,give:=0,to:=(-1),unit:=(-1),lot:=({num:=0,den:=1}:Ratio)}:Zaq)],Zaf:=[({kind:=1,Zap:=0,act:=0,need:=1,start:=[],after:=2,Zay:=0,ZaE:=false,final:=true,pause:=(-1),ZaC:=(-1),value:=({num:=0,den:=1}:Ratio),unit:=(-1),to:=(-1),Zaz:=false}:Zam),({kind:=2,Zap:=0,act:=0,need:=1,start:=[],after:=3,Zay:=0,ZaE:=false,final:=true,pause:=(-1),ZaC:=(-1),value:=({num:=0,den:=1}:Ratio),unit:=(-1),to:=(-1),Zaz:=false}:Zam)],Zat:=5,off:=[]}:Zab) ({kind:=2,Zaa:=(-1),clause:=1,other:=(-1),ZaA:=[]}:Zai)) fun r14=>.us [(2,2328),(4,2606),(7,2554),(9,2608),(12,2556),(14,2610),(17,2558),(19,2612),(23,2561),(25,2616),(29,2563),(31,2618)] (.ret (!r14))))) (.us [(2,2328),(4,2606),(7,2554),(9,2608),(12,2556),(14,2610),(17,2558)] (.f1 2622 (.g false) (rfl:false=false) (.use 23 2622 (.f1 2620 (.g false) (rfl:false=false) (.use 29 2620 (.ret false))))))) (.us [(2,2328),(4,2606),(7,2554),(9,2608),(12,2556)] (.f1 2628 (.g false) (rfl:false=false) (.use 17 2628 (.f1 2626 (.g false) (rfl:false=false) (.use 23 2626 (.f1 2624 (.g false) (rfl:false=false) (.use 29 2624 (.ret false))))))))) (.us [(2,2328),(4,2606),(7,2554)] (.f1 2636 (.g false) (rfl:false=false) (.use 12 2636 (.f1 2634 (.g false) (rfl:false=false) (.use 17 2634 (.f1 2632 (.g false) (rfl:false=false) (.use 23 2632 (.f1 2630 (.g false) (rfl:false=false) (.use 29 2630 (.ret false))))))))))) (.use 2 2328 (.f1 2646 (.g false) (rfl:false=false) (.use 7 2646 (.f1 2644 (.g false) (rfl:false=false) (.use 12 2644 (.f1 2642 (.g false) (rfl:false=false) (.use 17 2642 (.f1 2640 (.g false) (rfl:false=false) (.use 23 2640 (.f1 2638 (.g false) (rfl:false=false) (.use 29 2638 (.ret false)))))))))))))) fun v2=>.ret v2)))))))))))
theorem zfY  (res:Bool) (hd:kn  = some res):APure C0 315 [] (.bool res):=
  Zad.pure (iv:=fun res=>.bool res) (zfX ) (by kernel_rfl) (Zad.run_of hd (by kernel_rfl))
noncomputable def kT (c:Zab) (n:Int):Option Bool:=
  (Option.bind (bif decide (20 < (c.Zag.length:Int)) then some true else (bif decide (30 < (c.Zaw.length:Int)) then some true else (bif decide (70 < (c.Zaj.length:Int)) then some true else (bif decide (n < (c.Zaf.length:Int)) then some true else some (decide (100 < (c.off.length:Int))))))) fun v1=>(bif v1 then some false else (Option.bind (forR (σ:=Unit) (ρ:=Unit) (c.Zaf.length:Int) (fun i1 s1=>(Option.bind (ze c.Zaf (i1:Int)) fun e1=>(bif decide (20 < (e1.start.length:Int)) then some (.inr ()) else some (.inl ())))) ()) (Sum.elim (fun (s1:Unit)=>some true) (fun (y1:Unit)=>some false)))))
noncomputable def zer (c:Zab) (n:Int):Zad Bool:=
  .cut (β:=Bool) 3 (.e [2] (fun v1=>[(34,vB v1)]) [0] 31) (.reg 0 (.ite 2648 (decide (20 < (c.Zag.length:Int))) (.ln 2668 zc c.Zag (.us [(2,2668),(5,2648)] (.f1 2666 (.g true) (rfl:true=true) (.use 11 2666 (.f1 2664 (.g true) (rfl:true=true) (.use 17 2664 (.f1 2662 (.g true) (rfl:true=true) (.use 24 2662 (.ret true))))))))) (.ite 2650 (decide (30 < (c.Zaw.length:Int))) (.ln 2676 zc c.Zag (.us [(2,2676),(5,2648)] (.ln 2674 ZaD.row c.Zaw (.us [(7,2674),(11,2650)] (.f1 2672 (.g true) (rfl:true=true) (.use 17 2672 (.f1 2670 (.g true) (rfl:true=true) (.use 24 2670 (.ret true))))))))) (.ite 2652 (decide (70 < (c.Zaj.length:Int))) (.ln 2684 zc c.Zag (.us [(2,2684),(5,2648)] (.ln 2682 ZaD.row c.Zaw (.us [(7,2682),(11,2650)] (.ln 2680 Zaq.row c.Zaj (.us [(13,2680),(17,2652)] (.f1 2678 (.g true) (rfl:true=true) (.use 24 2678 (.ret true))))))))) (.ite 2654 (decide (n < (c.Zaf.length:Int))) (.ln 2692 zc c.Zag (.us [(2,2692),(5,2648)] (.ln 2690 ZaD.row c.Zaw (.us [(7,2690),(11,2650)] (.ln 2688 Zaq.row c.Zaj (.us [(13,2688),(17,2652)] (.ln 2686 Zam.row c.Zaf (.us [(19,2686),(24,2654)] (.ret true))))))))) (.ln 2702 zc c.Zag (.us [(2,2702),(5,2648)] (.ln 2700 ZaD.row c.Zaw (.us [(7,2700),(11,2650)] (.ln 2698 Zaq.row c.Zaj (.us [(13,2698),(17,2652)] (.ln 2696 Zam.row c.Zaf (.us [(19,2696),(24,2654)] (.ln 2694 zc c.off (.use 26 2694 (.ret (decide (100 < (c.off.length:Int))))))))))))))))))) fun v1=>.ite 2656 v1 (.sel 2656 (.ret false)) (.sel 2656 (.forR (σ:=Unit) (ρ:=Unit) 2658 5 (c.Zaf.length:Int) () (.e [2] (fun _=>[]) [0] 32) (fun i1 s1=>.reg 0 (.ln 2708 Zam.row c.Zaf (.use 3 2708 (.sel 2658 (.reg 0 (.ix 2704 Zam.row c.Zaf (i1:Int) fun e1=>.use 3 2704 (.ln 2706 CondT.row e1.start (.use 6 2706 (.ite 2660 (decide (20 < (e1.start.length:Int))) (.sel 2660 (.ret (.inr ()))) (.sel 2660 (.ret (.inl ())))))))))))) fun os1=>.case os1 (fun s1=>.reg 0 (.ln 2710 Zam.row c.Zaf (.use 3 2710 (.sel 2658 (.ret true))))) fun y1=>.ret false))
theorem zes (c:Zab) (n:Int) (res:Bool) (hd:kT c n=some res):APure C0 94 [.agg (Zab.row c),.int .i64 n] (.bool res):=
  Zad.pure (iv:=fun res=>.bool res) (zer c n) (by kernel_rfl) (Zad.run_of hd (by kernel_rfl))
noncomputable def WS (c:Zab):Option Bool:=
  (Option.bind (Option.bind (kT c 6) fun r1=>(bif r1 then (bif decide ((c.Zaj.length:Int)≤8) then some (decide (c.Zat≤20)) else some false) else some false)) fun v1=>some v1)
noncomputable def zjb (c:Zab):Zad Bool:=
  .cut (β:=Bool) 2 (.e [] (fun v1=>[(2,vB v1)]) [0] 16) (.reg 0 (.call 2716 (zes c 6) fun r1=>.ite 2712 r1 (.ite 2714 (decide ((c.Zaj.length:Int)≤8)) (.us [(1,2716),(3,2712)] (.ln 2718 Zaq.row c.Zaj (.us [(5,2718),(9,2714)] (.ret (decide (c.Zat≤20)))))) (.us [(1,2716),(3,2712)] (.ln 2720 Zaq.row c.Zaj (.us [(5,2720),(9,2714)] (.ret false))))) (.us [(1,2716),(3,2712)] (.f1 2722 (.g false) (rfl:false=false) (.use 9 2722 (.ret false)))))) fun v1=>.ret v1
theorem zjc (c:Zab) (res:Bool) (hd:WS c=some res):APure C0 97 [.agg (Zab.row c)] (.bool res):=
  Zad.pure (iv:=fun res=>.bool res) (zjb c) (by kernel_rfl) (Zad.run_of hd (by kernel_rfl))
noncomputable def Zf (c:Zab):Option Bool:=
  (Option.bind (kn) fun r1=>(Option.bind (WS c) fun r2=>(bif r2 then (Option.bind (jT c) fun r3=>(Option.bind (forR (σ:=Unit) (ρ:=Unit) (r3.1.length:Int) (fun i1 s1=>(Option.bind (α:=Unit ⊕ Unit) (Option.bind (ze r3.1 (i1:Int)) fun e1=>(Option.bind (qu c e1) fun r4=>(bif r4 then (bif ((i1:Int) == 0) then some (.inl ()) else (Option.bind (ze r3.1 (IntKind.i64.wrap ((i1:Int) - 1))) fun e2=>(Option.bind (ze r3.1 (i1:Int)) fun e3=>(Option.bind (bif decide (e3.kind < e2.kind) then some true else (bif (e2.kind == e3.kind) then (bif decide (e3.Zaa < e2.Zaa) then some true else (bif (e2.Zaa == e3.Zaa) then (bif decide (e3.clause < e2.clause) then some true else (bif (e2.clause == e3.clause) then some (decide (e3.other≤e2.other)) else some false)) else some false)) else some false)) fun v1=>(bif v1 then some (.inr ()) else some (.inl ())))))) else some (.inr ())))) (Sum.elim (fun (v2:Unit)=>some (.inl ())) (fun (y1:Unit)=>some (.inr ()))))) ()) (Sum.elim (fun (s1:Unit)=>some r1) (fun (y2:Unit)=>some false)))) else some r1)))
noncomputable def zbg (c:Zab):Zad Bool:=
  .reg 1 (.call 2796 zfY fun r1=>.use 0 2796 (.reg 0 (.call 2798 (zjc c) fun r2=>.use 1 2798 (.ite 2774 r2 (.sel 2775 (.reg 0 (.call 2800 (WR c) fun r3=>.use 1 2800 (.forR (σ:=Unit) (ρ:=Unit) 2776 6 (r3.1.length:Int) () (.e [1,3,4] (fun _=>[]) [0] 15) (fun i1 s1=>.reg 0 (.ln 2810 Zai.row r3.1 (.use 2 2810 (.sel 2776 (.cutO (β:=Unit) (γ:=Unit) 1 (.e [1,3,4,6] (fun _=>[]) [0] 28) (.reg 0 (.ix 2802 Zai.row r3.1 (i1:Int) fun e1=>.call 2804 (vD c e1) fun r4=>.us [(3,2802),(5,2804)] (.ite 2778 r4 (.sel 2779 (.ite 2780 ((i1:Int) == 0) (.sel 2780 (.ret (.inl ()))) (.sel 2780 (.reg 0 (.ix 2806 Zai.row r3.1 (IntKind.i64.wrap ((i1:Int) - 1)) fun e2=>.ix 2808 Zai.row r3.1 (i1:Int) fun e3=>.us [(3,2806),(7,2808)] (.cut (β:=Bool) 1 (.e [1,3,4,6] (fun v1=>[(89,vB v1)]) [0,37,38] 88) (.reg 0 (.ite 2782 (decide (e3.kind < e2.kind)) (.use 6 2782 (.ret true)) (.ite 2784 (e2.kind == e3.kind) (.ite 2786 (decide (e3.Zaa < e2.Zaa)) (.us [(6,2782),(12,2784),(18,2786)] (.ret true)) (.ite 2788 (e2.Zaa == e3.Zaa) (.ite 2790 (decide (e3.clause < e2.clause)) (.us [(6,2782),(12,2784),(18,2786),(24,2788),(30,2790)] (.ret true)) (.ite 2792 (e2.clause == e3.clause) (.us [(6,2782),(12,2784),(18,2786),(24,2788),(30,2790),(36,2792)] (.ret (decide (e3.other≤e2.other)))) (.us [(6,2782),(12,2784),(18,2786),(24,2788),(30,2790),(36,2792)] (.ret false)))) (.us [(6,2782),(12,2784),(18,2786),(24,2788)] (.ret false)))) (.us [(6,2782),(12,2784)] (.ret false))))) fun v1=>.ite 2794 v1 (.sel 2794 (.ret (.inr ()))) (.sel 2794 (.ret (.inl ()))))))))) (.sel 2779 (.ret (.inr ())))))) fun o_v2=>.case o_v2 (fun v2=>.ret (.inl ())) fun y1=>.ret (.inr ())))))) fun os1=>.case os1 (fun s1=>.reg 0 (.ln 2812 Zai.row r3.1 (.use 2 2812 (.sel 2776 (.ret r1))))) fun y2=>.ret false)))) (.sel 2775 (.ret r1))))))
theorem zbh (c:Zab) (res:Bool) (hd:Zf c=some res):APure C0 313 [.agg (Zab.row c)] (.bool res):=
  Zad.pure (iv:=fun res=>.bool res) (zbg c) (by kernel_rfl) (Zad.run_of hd (by kernel_rfl))
abbrev F29:AV:=.func 29 [] [.ptr 0 0 0,.ptr 1 0 0]
structure GCtx where
  heap:List (Nat×Zae)
  N:Nat
  P:Nat
  qs:List Nat
structure GOk (i:Nat) (s:List (List Int)×List (Int×Int)×List Int) (c:GCtx):Prop where
  nest:NestOk c.heap c.N c.P c.qs s.1
  min:9≤c.N
  lt:∀ j o,za c.heap j=some o→j < c.N
  p0:c.P≠0
  p1:c.P≠1
  h0:za c.heap 0=some (.rows 1 (zb zc s.2.2))
  h1:za c.heap 1=some (.rows 1 [[F29]])
  h4:za c.heap 4=some (.map (zu IV.i64 IV.i64 s.2.1))
  len:s.1.length≤i
  lens:∀ (k:Nat) (L:List Int),s.1[k]?=some L→L.length≤i
theorem NestOk.push {heap heap':List (Nat×Zae)} {N N' P P' q:Nat} {qs:List Nat} {Ls:List (List Int)} (h:NestOk heap N P qs Ls) (hlt:∀ j o,za heap j=some o→j < q) (hP:za heap' P'=some (.rows 1 (Vp (qs++[q]) (Ls++[[]])))) (hq:za heap' q=some (.tip 1 0))
    (hE:∀ (k q':Nat),qs[k]?=some q'→(za heap q').isSome=true→za heap' q'=za heap q'):NestOk heap' N' P' (qs++[q]) (Ls++[[]]):=by
  have hold:∀ (k q':Nat),qs[k]?=some q'→q' < q:=fun k q' hk=>by
    have hl:k < Ls.length:=by rw [←h.len];exact (List.getElem?_eq_some_iff.1 hk).1
    exact hlt q' _ (h.tip k q' Ls[k] hk (by simp))
  refine ⟨hP,fun k q' L h1 h2 => ?_,by simp [h.len],fun i j q' h1 h2 => ?_⟩
  · rcases Nat.lt_or_ge k qs.length with hk | hk
    · rw [List.getElem?_append_left hk] at h1
      rw [List.getElem?_append_left (by rw [←h.len];exact hk)] at h2
      have:=h.tip k q' L h1 h2
      rw [hE k q' h1 (by rw [this];rfl)];exact this
    · rw [List.getElem?_append_right hk] at h1
      rw [List.getElem?_append_right (by rw [←h.len];exact hk)] at h2
      rw [←h.len] at h2
      cases hd:k - qs.length with
      | zero=>rw [hd] at h1 h2;simp at h1 h2;subst h1 h2;exact hq
      | succ n=>rw [hd] at h1;simp at h1
  · have key:∀ k,(qs++[q])[k]?=some q'→(k < qs.length∧qs[k]?=some q')∨(k=qs.length∧q'=q):=fun k hk=>by
      rcases Nat.lt_or_ge k qs.length with hlt | hge
      · rw [List.getElem?_append_left hlt] at hk;exact .inl ⟨hlt,hk⟩
      · rw [List.getElem?_append_right hge] at hk
        cases hd:k - qs.length with
        | zero=>rw [hd] at hk;simp at hk;exact .inr ⟨by omega,hk.symm⟩
        | succ n=>rw [hd] at hk;simp at hk
    rcases key i h1 with ⟨a1,a2⟩ | ⟨a1,a2⟩<;>rcases key j h2 with ⟨b1,b2⟩ | ⟨b1,b2⟩
    · exact h.nd i j q' a2 b2
    · have:=hold i q' a2;omega
    · have:=hold j q' b2;omega
    · omega
theorem NestOk.frame {heap:List (Nat×Zae)} {N N' P:Nat} {qs:List Nat} {Ls:List (List Int)} (h:NestOk heap N P qs Ls) (x:Nat) (hx:x≠P) (hx2:∀ sz len,za heap x≠some (.tip sz len)) (o:Zae):NestOk (zJ heap x o) N' P qs Ls:=
  ⟨by rw [z1,if_neg hx];exact h.obj,fun k q L h1 h2=>by
    have:=h.tip k q L h1 h2
    rw [z1,if_neg (fun e=>hx2 _ _ (by rw [e];exact this))];exact this,h.len,h.nd⟩
end Go.Proofs.YtlpmnmbebkdocaaGreatDoor
namespace Go.Proofs.YtlpmnmbebkdocaaGreatDoor
set_option linter.unusedSimpArgs false
set_option linter.unusedVariables false
set_option maxRecDepth 100000
theorem zet (a b:Int):∃ r,iter (σ:=Int×Int) (ρ:=Int) (fun s2=>(bif (s2.2 == 0) then some (.inr s2.1) else (Option.bind (Z0 .u64 s2.1 s2.2) fun e2=>some (.inl (s2.2,e2))))) (a,b)=some r:=by
  have:=Yn (f:=fun s2:Int×Int=>(bif (s2.2 == 0) then some (.inr s2.1) else (Option.bind (Z0 .u64 s2.1 s2.2) fun e2=>some (.inl (s2.2,e2))))) (fun _=>True) (fun _:Int=>True) (fun s=>s.2.natAbs) (fun s _=>by
    by_cases h:s.2=0
    · exact ⟨.inr s.1,by simp [h],trivial⟩
    · refine ⟨.inl (s.2,s.1.tmod s.2),by simp [beq_eq_false_iff_ne.2 h,h,Z0],trivial,?_⟩
      show (s.1.tmod s.2).natAbs < s.2.natAbs
      rw [Int.natAbs_tmod]
      exact Nat.mod_lt _ (by omega)) (a,b) trivial
  obtain ⟨r,h,_⟩:=this
  exact ⟨r,h⟩
theorem YQ (l:List Int) (hl:l.length < 1000):∃ r,yq l=some r:=by
  unfold yq
  obtain ⟨o,h1,h2⟩:=wT (n:=l.length) (s0:=(0:Int)) (f:=(fun i1 s1=>(Option.bind (Option.bind (ze l (i1:Int)) fun e1=>(Option.bind (iter (σ:=Int×Int) (ρ:=Int) (fun s2=>(bif (s2.2 == 0) then some (.inr s2.1) else (Option.bind (Z0 .u64 s2.1 s2.2) fun e2=>some (.inl (s2.2,e2))))) (s1,e1)) (fun (y1:Int)=>some y1))) fun (v1:Int)=>some (.inl v1)))) (fun _ _=>True) (fun _:Unit=>False) (by omega) trivial (fun i s hi _=>by
    obtain ⟨r,hr⟩:=zet s l[i]
    exact ⟨.inl r,by simp only [qr,List.getElem?_eq_getElem hi,Option.bind_some,hr],trivial⟩)
  rw [h1]
  cases o with
  | inl s=>exact ⟨s,rfl⟩
  | inr r=>exact h2.elim
theorem kU (n:Int):∃ r,x4 n=some r:=by
  unfold x4;simp only [zq];exact ⟨_,rfl⟩
noncomputable def rvB (r:Ratio):Bool:=(q9 r).getD false
theorem Je (r:Ratio):q9 r=some (rvB r):=by
  have:∃ b,q9 r=some b:=by
    unfold q9
    obtain ⟨a,ha⟩:=kU r.num
    obtain ⟨b,hb⟩:=kU r.den
    obtain ⟨g,hg⟩:=YQ [a,b] (by simp)
    simp only [ha,hb,hg,zq,ZaI]
    exact ⟨_,rfl⟩
  obtain ⟨b,hb⟩:=this
  unfold rvB;rw [hb];rfl
def zjd (x:Option (Int×Bool)):Bool:=(x.getD (0,false)).2
theorem zhy {x:Option (Int×Bool)} {r:Int×Bool} (h:x=some r):x=some (r.1,zjd x):=by subst h;rfl
noncomputable def quB (l:List ZaD):Bool:=zjd (jf l)
theorem WT (t:List ZaD) (i:Nat) (hi:i < t.length) (ht:t.length < 1000):∃ b,x5 t i=some b:=by
  unfold x5
  have hs:Xt t 0 (i:Int)=some (t.take i):=by
    unfold Xt;rw [if_pos ⟨by omega,by omega,by omega⟩];simp
  have hf:forR (σ:=Unit) (ρ:=Unit) ((t.take i).length:Int) (fun i1 s1=>(Option.bind (ze (t.take i) (i1:Int)) fun e3=>(bif (e3.name.toList == t[i].name.toList) then some (.inr ()) else some (.inl ())))) ()=some (match (List.range (t.take i).length).find? (fun j=>!(match (t.take i)[j]? with | some e=>!(e.name.toList == t[i].name.toList) | none=>true)) with | none=>.inl () | some j=>.inr ()):=by
    refine jo _ (fun _=>()) (by simp;omega) (fun j hj => ?_)
    simp only [qr,List.getElem?_eq_getElem hj,ZaI]
    cases ((t.take i)[j].name.toList == t[i].name.toList)<;>rfl
  rw [zl (List.getElem?_eq_getElem hi)]
  simp only [ZaI]
  rw [hs]
  simp only [ZaI]
  rw [hf]
  simp only [Je,zq,ZaI,Q8]
  split
  all_goals simp only [Sum.elim_inl,Sum.elim_inr,zq]
  · by_cases hb:0≤t[i].base∧t[i].base < t.length
    · obtain ⟨h1,h2⟩:=jd hb.1 hb.2
      simp only [h2,ZaI,zq]
      exact ⟨_,rfl⟩
    · by_cases h1:0≤t[i].base
      · have:¬ t[i].base < t.length:=fun h=>hb ⟨h1,h⟩
        simp only [h1,this,decide_true,decide_false,cond_true,ZaH,ZaI,zq]
        exact ⟨_,rfl⟩
      · simp only [h1,decide_false,ZaH,ZaI,zq]
        exact ⟨_,rfl⟩
  · exact ⟨_,rfl⟩
theorem WU (l:List ZaD) (hl:l.length < 1000):∃ k,jf l=some (k,quB l):=by
  have:∃ r,jf l=some r:=by
    unfold jf
    obtain ⟨o,h1,h2⟩:=wT (n:=l.length) (s0:=()) (f:=(fun i1 s1=>(Option.bind (x5 l (i1:Int)) fun r1=>(bif r1 then some (.inl ()) else some (.inr (i1:Int)))))) (fun _ _=>True) (fun _:Int=>True) (by omega) trivial (fun i s hi _=>by
      obtain ⟨b,hb⟩:=WT l i hi hl
      cases b with
      | true=>exact ⟨.inl (),by simp [hb],trivial⟩
      | false=>exact ⟨.inr i,by simp [hb],trivial⟩)
    rw [h1]
    cases o with
    | inl s=>exact ⟨_,rfl⟩
    | inr r=>exact ⟨_,rfl⟩
  obtain ⟨r,hr⟩:=this
  exact ⟨r.1,zhy hr⟩
def xX (nh:Nat) (r:Int):Bool:=decide (0≤r)&&decide (r < nh)
theorem Jf (c:Zab) (r:Int):ja c r=some (xX c.Zag.length r):=by
  simp only [ja,zq,ZaI,xX,Bool.cond_false_right]
noncomputable def zay (r:Ratio):Bool:=decide (0 < r.num)&&rvB r
theorem WV (r:Ratio):xb r=some (zay r):=by
  simp only [xb,Je,zq,ZaI,zay,Bool.cond_false_right]
def JT (r:Ratio):Bool:=r.num == 0&&(r.den == 1&&true)
noncomputable def VB (nh nu:Nat) (Zao:Int) (a:Zaq):Bool:=
  bif xX nh a.Zap then
    (bif a.kind == 1 then (a.give == 0&&(a.to == -1||xX nh a.to))&&(bif a.unit == -1 then JT a.lot else (decide (0≤a.unit)&&(decide (a.unit < nu)&&zay a.lot)))
    else (a.kind == 2||a.kind == 3)&&(xX nh a.give&&(decide (0≤a.to)&&(decide (a.to < Zao)&&(a.unit == -1&&JT a.lot)))))
  else a.kind == 1&&(a.Zap == -1&&(a.give == 0&&((a.to == -1||xX nh a.to)&&(a.unit == -1&&JT a.lot))))
theorem zcO (c:Zab) (a:Zaq):wU c a=some (VB c.Zag.length c.Zaw.length c.Zao a):=by
  simp only [wU,Jf,WV,yr,ZaI,zq,VB,JT]
  cases xX c.Zag.length a.Zap<;>cases (a.kind == 1)<;>cases (a.give == 0)<;>cases (a.to == -1)<;>cases (xX c.Zag.length a.to)<;>cases (a.unit == -1) <;>
    simp only [cond_true,ZaH,Bool.not_true,Bool.not_false,ZaI,Bool.true_or,Bool.false_or,Bool.true_and,Bool.false_and,zq,Bool.cond_false_right,Bool.cond_self,Bool.and_false] <;>
    first | rfl | (cases (a.Zap == -1)<;>rfl) | (cases (a.kind == 2)<;>rfl)
def vZ (Zao:Int) (hs:List Int):Bool:=hs.all fun h=>decide (0≤h)&&decide (h < Zao)
theorem zje (c:Zab) (hp:c.Zao < 4611686018427387904) (hl:c.Zag.length < 4611686018427387904):Wz c=some (vZ c.Zao c.Zag):=by
  unfold Wz
  have hin:∀ (i:Nat) (hi:i < c.Zag.length),(Option.bind (α:=Unit ⊕ Unit) (Option.bind (forR (σ:=Unit) (ρ:=Unit) c.Zao (fun i2 s2=>(Option.bind (ze c.Zag (i:Int)) fun e1=>(bif (e1 == (i2:Int)) then some (.inr ()) else some (.inl ())))) ()) (Sum.elim (fun (s2:Unit)=>some (.inr ())) (fun (y1:Unit)=>some (.inl ())))) (Sum.elim (fun (v1:Unit)=>some (.inl ())) (fun (y2:Unit)=>some (.inr ())))) =
      some (bif decide (0≤c.Zag[i])&&decide (c.Zag[i] < c.Zao) then (.inl ():Unit ⊕ Unit) else .inr ()):=fun i hi=>by
    obtain ⟨o,h1,h2⟩:=Ym (n:=c.Zao) (s0:=()) (f:=(fun i2 s2=>(Option.bind (ze c.Zag (i:Int)) fun e1=>(bif (e1 == (i2:Int)) then some (.inr ()) else some (.inl ()))))) (fun k _=>∀ j:Nat,j < k→c.Zag[i]≠(j:Int)) (fun _:Unit=>0≤c.Zag[i]∧c.Zag[i] < c.Zao) hp (fun j hj=>by omega) (fun k s hk hI=>by
      simp only [qr,List.getElem?_eq_getElem hi,ZaI]
      by_cases he:c.Zag[i]=(k:Int)
      · exact ⟨.inr (),by simp [he],by show 0≤c.Zag[i]∧c.Zag[i] < c.Zao;omega⟩
      · refine ⟨.inl (),by rw [beq_eq_false_iff_ne.2 he];rfl,fun j hj => ?_⟩
        rcases Nat.lt_or_ge j k with h | h
        · exact hI j h
        · obtain rfl:j=k:=by omega
          exact he)
    rw [h1]
    cases o with
    | inl s=>
      have:¬ (0≤c.Zag[i]∧c.Zag[i] < c.Zao):=fun h=>h2 c.Zag[i].toNat (by omega) (by omega)
      have hb:(decide (0≤c.Zag[i])&&decide (c.Zag[i] < c.Zao))=false:=by
        rw [Bool.eq_false_iff];simp only [ne_eq,Bool.and_eq_true,decide_eq_true_eq];exact this
      rw [hb];rfl
    | inr r=>
      have hb:(decide (0≤c.Zag[i])&&decide (c.Zag[i] < c.Zao))=true:=by
        simp only [Bool.and_eq_true,decide_eq_true_eq];exact h2
      rw [hb];rfl
  rw [jo (fun i=>match c.Zag[i]? with | some h=>decide (0≤h)&&decide (h < c.Zao) | none=>true) (fun _=>()) hl (fun i hi=>by
    rw [hin i hi];simp only [List.getElem?_eq_getElem hi])]
  cases hf:(List.range c.Zag.length).find? (fun j=>!(match c.Zag[j]? with | some h=>decide (0≤h)&&decide (h < c.Zao) | none=>true)) with
  | none=>
    simp only [ZaI,Sum.elim_inl]
    have:vZ c.Zao c.Zag=true:=List.all_eq_true.2 fun h hh=>by
      obtain ⟨i,hi,rfl⟩:=List.getElem_of_mem hh
      have:=wy hf i hi
      simpa only [List.getElem?_eq_getElem hi] using this
    rw [this]
  | some k=>
    simp only [ZaI,Sum.elim_inr]
    obtain ⟨h1,h2,_⟩:=wz hf
    have:vZ c.Zao c.Zag=false:=by
      rw [Bool.eq_false_iff]
      intro h
      have:=List.all_eq_true.1 h c.Zag[k] (List.getElem_mem h1)
      simp only [List.getElem?_eq_getElem h1] at h2
      rw [h2] at this;cases this
    rw [this]
noncomputable def Jg (Zat:Int) (off:List Int):Bool:=((Option.bind (forR (σ:=Int) (ρ:=Unit) (off.length:Int) (fun i2 s2=>(Option.bind (ze off (i2:Int)) fun e2=>(Option.bind (bif decide (e2≤s2) then some true else some (decide (Zat≤e2))) fun v2=>(bif v2 then some (.inr ()) else some (.inl e2))))) (-1)) (Sum.elim (fun (s2:Int)=>some true) (fun (y2:Unit)=>some false)))).getD false
theorem zkN (Zat:Int) (off:List Int) (hl:off.length < 4611686018427387904):(Option.bind (forR (σ:=Int) (ρ:=Unit) (off.length:Int) (fun i2 s2=>(Option.bind (ze off (i2:Int)) fun e2=>(Option.bind (bif decide (e2≤s2) then some true else some (decide (Zat≤e2))) fun v2=>(bif v2 then some (.inr ()) else some (.inl e2))))) (-1)) (Sum.elim (fun (s2:Int)=>some true) (fun (y2:Unit)=>some false)))=some (Jg Zat off):=by
  obtain ⟨o,h1,h2⟩:=wT (n:=off.length) (s0:=(-1:Int)) (f:=(fun i2 s2=>(Option.bind (ze off (i2:Int)) fun e2=>(Option.bind (bif decide (e2≤s2) then some true else some (decide (Zat≤e2))) fun v2=>(bif v2 then some (.inr ()) else some (.inl e2)))))) (fun _ _=>True) (fun _:Unit=>True) hl trivial (fun i s hi _=>by
    simp only [qr,List.getElem?_eq_getElem hi,ZaI,zq]
    cases (bif decide (off[i]≤s) then true else decide (Zat≤off[i])) with
    | true=>exact ⟨.inr (),rfl,trivial⟩
    | false=>exact ⟨.inl _,rfl,trivial⟩)
  unfold Jg
  rw [h1]
  cases o<;>rfl
noncomputable def jv (c:Zab):Bool:=
  !(decide (c.Zao < 1))&&(!(decide (c.Zat < 1))&&(!((c.Zag.length:Int) == 0)&&(vZ c.Zao c.Zag&&(quB c.Zaw&&(c.Zaj.all (VB c.Zag.length c.Zaw.length c.Zao)&&Jg c.Zat c.off)))))
theorem ko {α:Type} {l:List α} {f:Nat→Unit→Option (Unit ⊕ Unit)} (p:α→Bool) (hl:l.length < 4611686018427387904) (h:∀ (i:Nat) (hi:i < l.length),f i ()=some (bif p l[i] then .inl () else .inr ())) :
    forR (l.length:Int) f ()=some (bif l.all p then .inl () else .inr ()):=by
  rw [jo (fun i=>match l[i]? with | some x=>p x | none=>true) (fun _=>()) hl (fun i hi=>by rw [h i hi];simp only [List.getElem?_eq_getElem hi])]
  cases hf:(List.range l.length).find? (fun j=>!(match l[j]? with | some x=>p x | none=>true)) with
  | none=>
    have:l.all p=true:=List.all_eq_true.2 fun x hx=>by
      obtain ⟨i,hi,rfl⟩:=List.getElem_of_mem hx
      have:=wy hf i hi
      simpa only [List.getElem?_eq_getElem hi] using this
    rw [this];rfl
  | some k=>
    obtain ⟨h1,h2,_⟩:=wz hf
    have:l.all p=false:=by
      rw [Bool.eq_false_iff]
      intro h
      have:=List.all_eq_true.1 h l[k] (List.getElem_mem h1)
      simp only [List.getElem?_eq_getElem h1] at h2
      rw [h2] at this;cases this
    rw [this];rfl
theorem zfZ (c:Zab) (hp:c.Zao < 4611686018427387904) (hh:c.Zag.length < 4611686018427387904) (hu:c.Zaw.length < 1000) (ha:c.Zaj.length < 1000) (ho:c.off.length < 4611686018427387904):Qg c=some (jv c):=by
  unfold Qg
  obtain ⟨k,hk⟩:=WU c.Zaw hu
  have hacts:=ko (l:=c.Zaj) (f:=(fun i1 s1=>(Option.bind (ze c.Zaj (i1:Int)) fun e1=>(Option.bind (wU c e1) fun r3=>(bif r3 then some (.inl ()) else some (.inr ())))))) (VB c.Zag.length c.Zaw.length c.Zao) (by omega) (fun i hi=>by
    simp only [qr,List.getElem?_eq_getElem hi,ZaI,zcO,zq])
  rw [zje c hp hh,hk]
  simp only [ZaI]
  rw [hacts]
  simp only [ZaI]
  rw [zkN c.Zat c.off ho]
  simp only [ZaI,zq,jv]
  cases decide (c.Zao < 1)<;>cases decide (c.Zat < 1)<;>cases ((c.Zag.length:Int) == 0)<;>cases vZ c.Zao c.Zag<;>cases quB c.Zaw<;>cases c.Zaj.all (VB c.Zag.length c.Zaw.length c.Zao) <;>
    simp only [cond_true,ZaH,Bool.not_true,Bool.not_false,ZaI,Bool.true_and,Bool.false_and,Sum.elim_inl,Sum.elim_inr]
def Zg (Zaj:List Zaq) (a:Int):Bool:=match ze Zaj a with
  | some e=>e.kind == 1&&e.Zap == -1
  | none=>false
theorem Yr (c:Zab) (a:Int):j6 c a=some (Zg c.Zaj a):=by
  unfold j6 Zg
  by_cases h:0≤a∧a < c.Zaj.length
  · obtain ⟨h1,h2⟩:=jd h.1 h.2
    simp only [h2,h.1,h.2,decide_true,cond_true,ZaI,zq,Bool.cond_false_right]
  · rw [zai h]
    by_cases h1:0≤a
    · have:¬ a < c.Zaj.length:=fun h2=>h ⟨h1,h2⟩
      simp only [h1,this,decide_true,decide_false,cond_true,ZaH,ZaI]
    · simp only [h1,decide_false,ZaH,ZaI]
def WW (nh:Nat) (Zaj:List Zaq) (k:Zam):Bool:=
  bif k.kind == 4 then k.Zap == -1&&(k.need == 1&&(k.Zay == 0 && !k.final))
  else (xX nh k.Zap && !Zg Zaj k.act)&&(bif k.kind == 1 then decide (1≤k.need)&&(decide (k.need≤9)&&(decide (0≤k.Zay)&&decide (k.Zay≤400)))
    else bif k.kind == 2 then k.need == 1&&k.Zay == 0 else k.kind == 3&&(k.need == 1&&(k.Zay == 0 && !k.final)))
theorem zbi (c:Zab) (k:Zam):vX c k=some (WW c.Zag.length c.Zaj k):=by
  simp only [vX,Jf,Yr,ZaI,zq,WW]
  cases (k.kind == 4)<;>cases xX c.Zag.length k.Zap<;>cases Zg c.Zaj k.act<;>cases (k.kind == 1)<;>cases (k.kind == 2)<;>cases (k.kind == 3) <;>
    simp only [cond_true,ZaH,Bool.not_true,Bool.not_false,ZaI,Bool.true_and,Bool.false_and,Bool.and_false,Bool.cond_false_right,zq]
def WX (n:Nat) (i:Int) (s:CondT):Bool := !(decide (s.clause < 0))&&(!(decide ((n:Int)≤s.clause))&&(!(s.clause == i)&&(!(decide (s.is < 1)) && !(decide (4 < s.is)))))
noncomputable def zeu (nh:Nat) (Zaw:List ZaD) (k:Zam):Bool:=
  (k.kind == 1||k.kind == 2)&&((match ze Zaw k.unit with | some u=>u.kind == 2 | none=>false)&&(zay k.value&&xX nh k.to))
def Jh (Zaj:List Zaq) (k:Zam):Bool:=(k.pause == -1&&k.ZaC == -1)||(!(k.pause == k.ZaC)&&(Zg Zaj k.pause&&Zg Zaj k.ZaC))
noncomputable def vE (nh:Nat) (Zaw:List ZaD) (Zaj:List Zaq) (n:Nat) (i:Int) (k:Zam):Bool:=
  (!(decide (k.act < 0))&&(!(decide ((Zaj.length:Int)≤k.act))&&(!(decide (k.after < 1)) && !(decide (400 < k.after))))) &&
  ((WW nh Zaj k && !(decide (8 < (k.start.length:Int)))) &&
  (k.start.all (WX n i) &&
  (Jh Zaj k &&
  (bif k.unit == -1 then JT k.value&&k.to == -1 else zeu nh Zaw k))))
theorem YR (c:Zab) (i:Nat) (k:Zam) (hk:c.Zaf[i]?=some k) (hs:k.start.length < 4611686018427387904):wd c i=some (vE c.Zag.length c.Zaw c.Zaj c.Zaf.length i k):=by
  unfold wd
  have hst:=ko (l:=k.start) (f:=(fun i1 s1=>(Option.bind (ze k.start (i1:Int)) fun e2=>(Option.bind (bif decide (e2.clause < 0) then some true else (bif decide ((c.Zaf.length:Int)≤e2.clause) then some true else (bif (e2.clause == (i:Int)) then some true else (bif decide (e2.is < 1) then some true else some (decide (4 < e2.is)))))) fun v3=>(bif v3 then some (.inr ()) else some (.inl ())))))) (WX c.Zaf.length i) hs (fun j hj=>by
    simp only [qr,List.getElem?_eq_getElem hj,ZaI,zq,WX]
    cases decide (k.start[j].clause < 0)<;>cases decide ((c.Zaf.length:Int)≤k.start[j].clause)<;>cases (k.start[j].clause == (i:Int))<;>cases decide (k.start[j].is < 1)<;>cases decide (4 < k.start[j].is)<;>rfl)
  have hu:(bif decide (0≤k.unit) then (bif decide (k.unit < (c.Zaw.length:Int)) then (Option.bind (ze c.Zaw k.unit) fun e3=>(bif (e3.kind == 2) then (Option.bind (xb k.value) fun r5=>(bif r5 then (Option.bind (ja c k.to) fun r6=>some r6) else some false)) else some false)) else some false) else some false) =
      some ((match ze c.Zaw k.unit with | some u=>u.kind == 2 | none=>false)&&(zay k.value&&xX c.Zag.length k.to)):=by
    by_cases h:0≤k.unit∧k.unit < c.Zaw.length
    · obtain ⟨h1,h2⟩:=jd h.1 h.2
      simp only [h2,h.1,h.2,decide_true,cond_true,ZaI,zq,Bool.cond_false_right,WV,Jf]
    · rw [zai h]
      by_cases h1:0≤k.unit
      · have:¬ k.unit < c.Zaw.length:=fun h2=>h ⟨h1,h2⟩
        simp only [h1,this,decide_true,decide_false,cond_true,ZaH,Bool.false_and]
      · simp only [h1,decide_false,ZaH,Bool.false_and]
  have hp:(Option.bind (bif (k.pause == (-1)) then some (!(k.ZaC == (-1))) else some true) fun v4=>(bif v4 then (Option.bind (bif (k.pause == k.ZaC) then some true else (Option.bind (j6 c k.pause) fun r2=>(bif r2 then (Option.bind (j6 c k.ZaC) fun r3=>some (!r3)) else some true))) fun v5=>(bif v5 then some (.inr ()) else some (.inl ()))) else some (.inl ()))) =
      some (bif Jh c.Zaj k then (.inl ():Unit ⊕ Unit) else .inr ()):=by
    simp only [Yr,Jh,zq,ZaI]
    cases (k.pause == -1)<;>cases (k.ZaC == -1)<;>cases (k.pause == k.ZaC)<;>cases Zg c.Zaj k.pause<;>cases Zg c.Zaj k.ZaC<;>rfl
  rw [zl hk]
  simp only [ZaI]
  rw [hst]
  simp only [ZaI]
  rw [hp,hu]
  simp only [ZaI,zbi,yr,zq,vE,zeu,JT]
  cases decide (k.act < 0)<;>simp only [cond_true,ZaH,Bool.not_true,Bool.not_false,Bool.true_and,Bool.false_and,ZaI]
  cases decide ((c.Zaj.length:Int)≤k.act)<;>simp only [cond_true,ZaH,Bool.not_true,Bool.not_false,Bool.true_and,Bool.false_and,ZaI]
  cases decide (k.after < 1)<;>simp only [cond_true,ZaH,Bool.not_true,Bool.not_false,Bool.true_and,Bool.false_and,ZaI]
  cases decide (400 < k.after)<;>simp only [cond_true,ZaH,Bool.not_true,Bool.not_false,Bool.true_and,Bool.false_and,ZaI]
  cases WW c.Zag.length c.Zaj k<;>simp only [cond_true,ZaH,Bool.not_true,Bool.not_false,Bool.true_and,Bool.false_and,ZaI]
  cases decide (8 < (k.start.length:Int))<;>simp only [cond_true,ZaH,Bool.not_true,Bool.not_false,Bool.true_and,Bool.false_and,ZaI]
  cases k.start.all (WX c.Zaf.length i)<;>simp only [cond_true,ZaH,Bool.not_true,Bool.not_false,Bool.true_and,Bool.false_and,ZaI,Sum.elim_inl,Sum.elim_inr]
  cases Jh c.Zaj k<;>simp only [cond_true,ZaH,Bool.true_and,Bool.false_and,Sum.elim_inl,Sum.elim_inr]
  cases (k.kind == 1)<;>cases (k.kind == 2)<;>simp only [cond_true,ZaH,Bool.cond_false_right,Bool.true_or,Bool.or_true,Bool.or_self,Bool.true_and,Bool.false_and]
def kp (c:Zab):Bool:=decide (12 < c.Zao)||(decide (2000 < c.Zat)||(decide (12 < (c.Zag.length:Int))||(decide (20 < (c.Zaw.length:Int))||(decide (60 < (c.Zaj.length:Int))||decide (400 < (c.Zaf.length:Int))))))
noncomputable def clB (c:Zab) (i:Nat):Bool:=match c.Zaf[i]? with
  | some k=>vE c.Zag.length c.Zaw c.Zaj c.Zaf.length i k
  | none=>true
noncomputable def qd (c:Zab):Int×Int:=
  bif kp c then (3,-1) else bif jv c then (match (List.range c.Zaf.length).find? (fun j=>!clB c j) with | none=>(0,-1) | some j=>(1,(j:Int))) else (1,-1)
theorem zhz (c:Zab) (ho:c.off.length < 4611686018427387904) (hs:∀ k∈c.Zaf,k.start.length < 4611686018427387904):vr c=some (qd c):=by
  unfold vr qd
  simp only [zq,Bool.cond_true_left,ZaI]
  show (bif kp c then _ else _)=_
  cases hlim:kp c with
  | true=>rfl
  | false=>
    simp only [kp,Bool.or_eq_false_iff,decide_eq_false_iff_not] at hlim
    obtain ⟨h1,h2,h3,h4,h5,h6⟩:=hlim
    simp only [ZaH,zfZ c (by omega) (by omega) (by omega) (by omega) ho,ZaI]
    cases jv c with
    | false=>rfl
    | true=>
      simp only [cond_true]
      rw [jo (fun i=>clB c i) (fun i=>(i:Int)) (by omega) (fun i hi=>by
        rw [YR c i c.Zaf[i] (List.getElem?_eq_getElem hi) (hs _ (List.getElem_mem hi))]
        simp only [ZaI,clB,List.getElem?_eq_getElem hi,zq])]
      cases (List.range c.Zaf.length).find? (fun j=>!clB c j)<;>rfl
end Go.Proofs.YtlpmnmbebkdocaaGreatDoor
namespace Go.Proofs.YtlpmnmbebkdocaaGreatDoor
open Go.RowKit
set_option linter.unusedSimpArgs false
set_option linter.unusedVariables false
set_option maxRecDepth 100000
theorem LOk.lt {α:Type} {n:Nat} {p:α→Prop} {l:List α} (h:LOk n p l) (hn:0 < n):l.length < 4611686018427387904:=by
  have h1:=h.1
  have h2:reachBytes≤140737488355328:=by decide +kernel
  have:=Nat.le_mul_of_pos_right l.length hn
  omega
theorem Zab.Ok.valid {c:Zab} (hc:c.Ok):vr c=some (qd c):=
  zhz c (hc.off.lt (by omega)) (fun k hk=>(hc.Zaf.2 k hk).start.lt (by omega))
inductive ValidIs (c:Zab):Int×Int→Prop where
  | lim (h:kp c=true):ValidIs c (3,-1)
  | frame (h:kp c=false) (hf:jv c=false):ValidIs c (1,-1)
  | bad (h:kp c=false) (hf:jv c=true) (i:Nat) (hi:i < c.Zaf.length) (hb:clB c i=false) (hl:∀ j,j < i→clB c j=true):ValidIs c (1,(i:Int))
  | ok (h:kp c=false) (hf:jv c=true) (ha:∀ j,j < c.Zaf.length→clB c j=true):ValidIs c (0,-1)
theorem zf0 (c:Zab):ValidIs c (qd c):=by
  unfold qd
  cases h:kp c with
  | true=>exact .lim h
  | false=>
    simp only [ZaH]
    cases hf:jv c with
    | false=>exact .frame h hf
    | true=>
      simp only [cond_true]
      cases hq:(List.range c.Zaf.length).find? (fun j=>!clB c j) with
      | none=>exact .ok h hf (wy hq)
      | some j=>obtain ⟨h1,h2,h3⟩:=wz hq;exact .bad h hf j h1 h2 h3
theorem yx {c:Zab} (h:(qd c).1=0):kp c=false∧jv c=true∧(∀ j,j < c.Zaf.length→clB c j=true)∧qd c=(0,-1):=by
  have hv:=zf0 c
  generalize hr:qd c=r at h hv ⊢
  cases hv with
  | lim _=>simp at h
  | frame _ _=>simp at h
  | bad _ _ i _ _ _=>simp at h
  | ok a b d=>exact ⟨a,b,d,rfl⟩
theorem zjf (x y:Int):Zy x y=some (decide (x < y)):=by
  simp [Zy,Qh]
theorem zjg {a b:Int} (h0:0≤a) (h1:a≤b) (h2:b < 4611686018427387904):QY .u64 .u64 (IntKind.u64.wrap (IntKind.i64.wrap (a+b))) 1=some ((a+b) / 2):=by
  rw [z7 (by omega) (by omega),ze8 (by omega) (by omega)]
  unfold QY
  rw [if_neg (by omega)]
  have:(2:Int) ^ (min (1:Int).toNat IntKind.u64.bits)=2:=by decide
  rw [this,Int.fdiv_eq_ediv_of_nonneg _ (by omega)]
def xO (l:List Int) (v:Int):Option Int:=if v∈l then some (l.idxOf v:Int) else none
theorem zf1 {l:List Int} (hn:l.Nodup) {i:Nat} (hi:i < l.length):l.idxOf l[i]=i:=by
  have h1:l.idxOf l[i] < l.length:=List.idxOf_lt_length_iff.2 (List.getElem_mem hi)
  have h2:=List.getElem_idxOf h1
  exact (List.getElem?_inj h1 hn).1 (by rw [List.getElem?_eq_getElem h1,List.getElem?_eq_getElem hi,h2])
theorem zhA {l:List Int} (hn:l.Nodup) {i:Nat} {v:Int} (h:l[i]?=some v):xO l v=some (i:Int):=by
  obtain ⟨hi,rfl⟩:=List.getElem?_eq_some_iff.1 h
  unfold xO
  rw [if_pos (List.getElem_mem hi),zf1 hn hi]
theorem VC (l:List Int) (v:Int) (hs:l.Pairwise (· < ·)) (hl:l.length < 4611686018427387904):∃ r:Int,ju l v=some (r,(xO l v).isSome)∧∀ p,xO l v=some p→r=p:=by
  have hp:=List.pairwise_iff_getElem.1 hs
  unfold ju
  have hit:Ret (iter (σ:=Int×Int) (ρ:=Int) (fun s1=>(bif decide (s1.1 < s1.2) then (Option.bind (QY .u64 .u64 (IntKind.u64.wrap (IntKind.i64.wrap (s1.1+s1.2))) 1) fun e1=>(Option.bind (ze l (IntKind.i64.wrap e1)) fun e2=>(Option.bind (Zy e2 v) fun r1=>(bif r1 then some (.inl ((IntKind.i64.wrap ((IntKind.i64.wrap e1)+1)),s1.2)) else some (.inl (s1.1,(IntKind.i64.wrap e1))))))) else some (.inr s1.1))) (0,(l.length:Int)))
      (fun r=>0≤r∧r≤l.length∧(∀ (j:Nat) (hj:j < l.length),(j:Int) < r→l[j] < v)∧(∀ (j:Nat) (hj:j < l.length),r≤(j:Int)→v≤l[j])):=by
    refine Ret.iter (fun s=>0≤s.1∧s.1≤s.2∧s.2≤l.length∧(∀ (j:Nat) (hj:j < l.length),(j:Int) < s.1→l[j] < v)∧(∀ (j:Nat) (hj:j < l.length),s.2≤(j:Int)→v≤l[j])) (fun s=>(s.2 - s.1).toNat) ⟨by simp,by simp,by simp,fun j hj h=>by simp only at h;omega,fun j hj h=>by simp only at h;omega⟩ ?_
    rintro ⟨lo,hi⟩ ⟨h1,h2,h3,h4,h5⟩
    simp only at h1 h2 h3 h4 h5 ⊢
    refine Ret.ite (fun hb => ?_) (fun hb => ?_)
    · have hlt:=of_decide_eq_true hb
      rw [zjg h1 h2 (by omega)]
      simp only [ZaI]
      have hm1:lo≤(lo+hi) / 2:=by omega
      have hm2:(lo+hi) / 2 < hi:=by omega
      generalize (lo+hi) / 2=m at hm1 hm2 ⊢
      rw [z7 (by omega) (by omega)]
      obtain ⟨hi',e⟩:=jd (l:=l) (n:=m) (by omega) (by omega)
      rw [e,z7 (by omega) (by omega)]
      simp only [ZaI,zjf]
      refine Ret.ite (fun hb2 => ?_) (fun hb2 => ?_)
      · have hv:=of_decide_eq_true hb2
        refine Ret.some ⟨⟨by show 0≤m+1;omega,by show m+1≤hi;omega,h3,fun j hj hjm => ?_,h5⟩,by show (hi - (m+1)).toNat < (hi - lo).toNat;omega⟩
        have hjm:(j:Int) < m+1:=hjm
        rcases Nat.lt_or_ge j m.toNat with h | h
        · have:=hp j m.toNat hj hi' h;omega
        · obtain rfl:j=m.toNat:=by omega
          exact hv
      · have hv:¬ l[m.toNat] < v:=of_decide_eq_false hb2
        refine Ret.some ⟨⟨h1,by show lo≤m;omega,by show m≤(l.length:Int);omega,h4,fun j hj hjm => ?_⟩,by show (m - lo).toNat < (hi - lo).toNat;omega⟩
        have hjm:m≤(j:Int):=hjm
        rcases Nat.lt_or_ge m.toNat j with h | h
        · have:=hp m.toNat j hi' hj h;omega
        · obtain rfl:j=m.toNat:=by omega
          omega
    · have hlt:¬ lo < hi:=of_decide_eq_false hb
      have:lo=hi:=by omega
      subst this
      exact Ret.some ⟨h1,h3,h4,h5⟩
  obtain ⟨r,hr,hr0,hr1,hr2,hr3⟩:=hit
  rw [hr]
  simp only [ZaI]
  by_cases hlt:r < (l.length:Int)
  · obtain ⟨hi',e⟩:=jd (l:=l) (n:=r) hr0 hlt
    simp only [hlt,decide_true,cond_true,e,ZaI]
    by_cases hv:l[r.toNat]=v
    · have hpos:xO l v=some (r.toNat:Int):=zhA (zd1 hs) (by rw [List.getElem?_eq_getElem hi',hv])
      refine ⟨r,by simp [hv,hpos],fun p hp => ?_⟩
      rw [hpos] at hp;cases hp;omega
    · have hn:xO l v=none:=by
        unfold xO
        rw [if_neg]
        intro hm
        obtain ⟨j,hj,e2⟩:=List.getElem_of_mem hm
        rcases Nat.lt_trichotomy j r.toNat with h | h | h
        · have:=hr2 j hj (by omega);omega
        · subst h;exact hv e2
        · have h6:=hp r.toNat j hi' hj h
          have h7:=hr3 r.toNat hi' (by omega)
          omega
      refine ⟨r,?_,fun p hp=>by rw [hn] at hp;cases hp⟩
      rw [hn]
      have:(l[r.toNat] == v)=false:=beq_eq_false_iff_ne.2 hv
      simp [this,yO]
  · have hn:xO l v=none:=by
      unfold xO
      rw [if_neg]
      intro hm
      obtain ⟨j,hj,e2⟩:=List.getElem_of_mem hm
      have:=hr2 j hj (by omega);omega
    refine ⟨r,?_,fun p hp=>by rw [hn] at hp;cases hp⟩
    rw [hn]
    simp [hlt]
theorem zhB {Zat:Int} {off:List Int} (hl:off.length < 4611686018427387904) (h:Jg Zat off=true):(off.length:Int)≤Zat∨off.length=0:=by
  have e:Jg Zat off=kh Zat (-1) off:=by
    unfold Jg
    rw [zgL Zat off hl (-1)]
    cases kh Zat (-1) off<;>rfl
  rw [e] at h
  rcases zaj h with h1 | h1<;>omega
structure Small (c:Zab):Prop where
  Zao:1≤c.Zao∧c.Zao≤12
  Zat:1≤c.Zat∧c.Zat≤2000
  Zag:c.Zag.length≤12
  Zaw:c.Zaw.length≤20
  Zaj:c.Zaj.length≤60
  Zaf:c.Zaf.length≤400
  off:c.off.length≤2000
  start:∀ k∈c.Zaf,k.start.length≤8
  cond:∀ (i:Nat) (k:Zam),c.Zaf[i]?=some k→∀ s∈k.start,0≤s.clause∧s.clause < c.Zaf.length∧s.clause≠(i:Int)
theorem qn {c:Zab} (ho:c.off.length < 4611686018427387904) (h:(qd c).1=0):Small c:=by
  obtain ⟨h1,h2,h3,_⟩:=yx h
  simp only [kp,Bool.or_eq_false_iff,decide_eq_false_iff_not] at h1
  obtain ⟨a1,a2,a3,a4,a5,a6⟩:=h1
  simp only [jv,Bool.and_eq_true,Bool.not_eq_true',decide_eq_false_iff_not] at h2
  obtain ⟨b1,b2,b3,b4,b5,b6,b7⟩:=h2
  have hcl:∀ (i:Nat) (k:Zam),c.Zaf[i]?=some k→vE c.Zag.length c.Zaw c.Zaj c.Zaf.length i k=true:=fun i k hk=>by
    have:=h3 i (List.getElem?_eq_some_iff.1 hk).1
    simp only [clB,hk] at this
    exact this
  refine ⟨⟨by omega,by omega⟩,⟨by omega,by omega⟩,by omega,by omega,by omega,by omega,?_,fun k hk => ?_,fun i k hk s hs => ?_⟩
  · rcases zhB ho b7 with h | h<;>omega
  · obtain ⟨i,hi,e⟩:=List.getElem_of_mem hk
    have:=hcl i k (by rw [←e];exact List.getElem?_eq_getElem hi)
    simp only [vE,Bool.and_eq_true,Bool.not_eq_true',decide_eq_false_iff_not] at this
    omega
  · have:=hcl i k hk
    simp only [vE,Bool.and_eq_true] at this
    have:=List.all_eq_true.1 this.2.2.1 s hs
    simp only [WX,Bool.and_eq_true,Bool.not_eq_true',decide_eq_false_iff_not,beq_eq_false_iff_ne] at this
    exact ⟨by omega,by omega,this.2.2.1⟩
theorem kV {α:Type} {by_:Nat} {l:List α} (h:l.length*by_≤140737488355328):jn by_ l=some l:=by unfold jn;rw [if_pos h]
theorem kW {f:Nat→Unit→Option (Unit ⊕ Unit)} {n:Nat} (p:Nat→Bool) (hn:n < 4611686018427387904) (h:∀ j,j < n→f j ()=some (bif p j then .inl () else .inr ())) :
    forR (n:Int) f ()=some (bif (List.range n).all p then .inl () else .inr ()):=by
  rw [jo p (fun _=>()) hn h]
  cases hf:(List.range n).find? (fun j=>!p j) with
  | none=>
    have:(List.range n).all p=true:=List.all_eq_true.2 fun j hj=>wy hf j (List.mem_range.1 hj)
    rw [this];rfl
  | some k=>
    obtain ⟨h1,h2,_⟩:=wz hf
    have:(List.range n).all p=false:=by
      rw [Bool.eq_false_iff]
      intro h
      have:=List.all_eq_true.1 h k (List.mem_range.2 h1)
      rw [h2] at this;cases this
    rw [this];rfl
theorem x9 {α ρ:Type} {f:Nat→List α→Option (List α ⊕ ρ)} (s0:List α) (F:Nat→α→α) (hl:s0.length < 4611686018427387904)
    (h:∀ (i:Nat) (m:α) (s:List α),s0[i]?=some m→s.length=s0.length→s[i]?=some m→f i s=some (.inl (s.set i (F i m)))) :
    forR (s0.length:Int) f s0=some (.inl (s0.mapIdx F)):=by
  obtain ⟨o,h1,h2⟩:=wT (n:=s0.length) (s0:=s0) (f:=f) (fun i s=>s.length=s0.length∧∀ j,s[j]?=if j < i then (s0[j]?).map (F j) else s0[j]?) (fun _=>False) hl ⟨rfl,fun j=>by simp⟩ (fun i s hi ⟨a,b⟩=>by
    have hs:s[i]?=some s0[i]:=by rw [b i,if_neg (by omega),List.getElem?_eq_getElem hi]
    refine ⟨_,h i s0[i] s (List.getElem?_eq_getElem hi) a hs,by simpa using a,fun j => ?_⟩
    rw [List.getElem?_set]
    by_cases hij:i=j
    · subst hij
      rw [if_pos rfl,if_pos (by omega),if_pos (by omega),List.getElem?_eq_getElem hi];rfl
    · rw [if_neg hij,b j]
      by_cases h3:j < i
      · rw [if_pos h3,if_pos (by omega)]
      · rw [if_neg h3,if_neg (by omega)])
  rw [h1]
  cases o with
  | inr r=>exact h2.elim
  | inl s=>
    obtain ⟨a,b⟩:=h2
    congr 2
    refine List.ext_getElem? fun j => ?_
    rw [b j,List.getElem?_mapIdx]
    by_cases hj:j < s0.length
    · rw [if_pos hj]
    · rw [if_neg hj,List.getElem?_eq_none (by omega)];rfl
def xf (Zal:List zw) (s:CondT):Bool:=match ze Zal s.clause with
  | some m=>bif s.is == 1 then !(m.Zan == 0) else bif s.is == 2 then m.Zan == 3 else bif s.is == 3 then m.Zan == 4 else bif s.is == 4 then m.Zan == 5 else false
  | none=>false
def jU (ks:List Zam) (Zal:List zw) (i:Nat):Bool:=match ks[i]?,Zal[i]? with
  | some k,some m=>(m.Zan == 0 && !k.Zaz)&&k.start.all (xf Zal)
  | _,_=>false
def kq (Zao:Int) (k:Zam) (m:zw):Bool:=
  !(k.Zaz||(decide (m.left < 1)||(m.ZaB&&k.pause == -1)))&&(((m.got == 0)||(k.kind == 1 && !(decide (m.got < 0)||decide (k.need≤m.got)))) &&
    (bif k.kind == 4 then m.Zav == -1 else decide (0≤m.Zav)&&decide (m.Zav < Zao)))
def Kd (m:zw):Bool:=(m.Zan == 0)&&((m.left == 0)&&((m.got == 0)&&((m.Zav == (-1))&&((m.ZaB == false)&&true))))
def zcP (Zao:Int) (m:zw):Bool:=(m.left == 0)&&(decide (0≤m.got)&&(decide (m.got≤9)&&(decide ((-1)≤m.Zav)&&(decide (m.Zav < Zao) && !m.ZaB))))
def ji (Zao:Int) (k:Zam) (m:zw):Bool:=
  bif m.Zan == 0 then !k.Zaz&&Kd m else bif m.Zan == 1 then decide (m.left≤k.after)&&kq Zao k m
  else bif m.Zan == 2 then k.kind == 1&&(decide (m.left≤k.Zay)&&kq Zao k m) else (m.Zan == 3||(m.Zan == 4||m.Zan == 5))&&zcP Zao m
theorem zcQ (c:Zab) (k:Zam) (m:zw):wV c k m=some (kq c.Zao k m):=by
  simp only [wV,kq,zq,ZaI]
  cases k.Zaz<;>cases decide (m.left < 1)<;>cases m.ZaB<;>cases (k.pause == -1)<;>cases (m.got == 0)<;>cases (k.kind == 1)<;>cases decide (m.got < 0)<;>cases decide (k.need≤m.got)<;>cases (k.kind == 4)<;>cases decide (0≤m.Zav)<;>rfl
theorem zbj (c:Zab) (i:Nat) (k:Zam) (m:zw) (hk:c.Zaf[i]?=some k):vY c i m=some (ji c.Zao k m):=by
  unfold vY
  rw [zl hk]
  simp only [ZaI,zcQ,zq,ji,Kd,zcP]
  cases (m.Zan == 0)
  · cases (m.Zan == 1)
    · cases (m.Zan == 2)
      · cases (m.Zan == 3)<;>cases (m.Zan == 4)<;>cases (m.Zan == 5)<;>cases (m.left == 0)<;>cases decide (0≤m.got)<;>cases decide (m.got≤9)<;>cases decide ((-1)≤m.Zav)<;>cases decide (m.Zav < c.Zao)<;>rfl
      · cases (k.kind == 1)<;>cases decide (m.left≤k.Zay)<;>rfl
    · cases decide (m.left≤k.after)<;>rfl
  · cases k.Zaz<;>rfl
theorem zbO (c:Zab) (s:Zac) (i:Nat) (k:Zam) (m:zw) (hk:c.Zaf[i]?=some k) (hm:s.Zal[i]?=some m) (hst:k.start.length < 4611686018427387904)
    (hc:∀ x∈k.start,0≤x.clause∧x.clause < s.Zal.length):vt c s i=some (jU c.Zaf s.Zal i):=by
  unfold vt jU
  rw [zl hm,zl hk,hk,hm]
  simp only [ZaI]
  rw [ko (l:=k.start) (xf s.Zal) hst (fun j hj=>by
    obtain ⟨h0,h1⟩:=hc _ (List.getElem_mem hj)
    obtain ⟨h2,h3⟩:=jd h0 h1
    simp only [qr,List.getElem?_eq_getElem hj,ZaI,h3,xf,zq])]
  simp only [ZaI,zq]
  cases (m.Zan == 0)<;>cases k.Zaz<;>cases k.start.all (xf s.Zal)<;>rfl
def JU (Zaj:List Zaq) (used:List Bool) (i:Nat):Bool:=match Zaj[i]?,used[i]? with
  | some a,some u=>!(u&&a.kind == 1)
  | _,_=>false
def ku (c:Zab) (Zal:List zw) (i:Nat):Bool:=match c.Zaf[i]?,Zal[i]? with
  | some k,some m=>ji c.Zao k m && !jU c.Zaf Zal i
  | _,_=>false
noncomputable def vsB (c:Zab) (s:Zac):Bool:=
  ((qd c).1 == 0)&&((!(decide (s.day < 0))&&(!(decide (c.Zat < s.day))&&((s.Zag.length:Int) == c.Zag.length&&((s.used.length:Int) == c.Zaj.length&&(s.Zal.length:Int) == c.Zaf.length)))) &&
    (vZ c.Zao s.Zag&&((List.range s.used.length).all (JU c.Zaj s.used)&&(List.range s.Zal.length).all (ku c s.Zal))))
theorem kw (c:Zab) (s:Zac) (hc:c.Ok):xc c s=some (vsB c s):=by
  unfold xc vsB
  rw [hc.valid]
  simp only [ZaI]
  cases hv:((qd c).1 == 0) with
  | false=>rfl
  | true=>
    have sm:=qn (hc.off.lt (by omega)) (beq_iff_eq.1 hv)
    simp only [cond_true,zq,ZaI,Bool.true_and]
    cases h1:decide (s.day < 0)<;>cases h2:decide (c.Zat < s.day)<;>cases h3:((s.Zag.length:Int) == c.Zag.length)<;>cases h4:((s.used.length:Int) == c.Zaj.length)<;>cases h5:((s.Zal.length:Int) == c.Zaf.length)<;>try rfl
    simp only [cond_true,ZaH,Bool.not_true,Bool.not_false,Bool.true_and]
    have e3:=beq_iff_eq.1 h3
    have e4:=beq_iff_eq.1 h4
    have e5:=beq_iff_eq.1 h5
    have:=sm.Zag
    have:=sm.Zaj
    have:=sm.Zaf
    rw [ko (l:=s.Zag) (fun h=>decide (0≤h)&&decide (h < c.Zao)) (by omega) (fun j hj=>by
      simp only [qr,List.getElem?_eq_getElem hj,ZaI,zq]
      generalize s.Zag[j]=h
      by_cases a:h < 0
      · have b:¬ 0≤h:=by omega
        simp [a,b]
      · have b:0≤h:=by omega
        by_cases d:h < c.Zao
        · have d':¬ c.Zao≤h:=by omega
          simp [a,b,d,d']
        · have d':c.Zao≤h:=by omega
          simp [a,b,d,d'])]
    rw [kW (n:=s.used.length) (JU c.Zaj s.used) (by omega) (fun j hj=>by
      have hj':j < c.Zaj.length:=by omega
      simp only [qr,List.getElem?_eq_getElem hj,List.getElem?_eq_getElem hj',ZaI,zq,JU]
      cases s.used[j]<;>cases (c.Zaj[j].kind == 1)<;>rfl)]
    rw [kW (n:=s.Zal.length) (ku c s.Zal) (by omega) (fun j hj=>by
      have hj':j < c.Zaf.length:=by omega
      have hk:=List.getElem?_eq_getElem hj'
      have hm:=List.getElem?_eq_getElem hj
      simp only [qr,hm,ZaI]
      rw [zbj c j _ _ hk,zbO c s j _ _ hk hm (by have:=sm.start _ (List.getElem_mem hj');omega) (fun x hx=>by have:=sm.cond j _ hk x hx;omega)]
      simp only [ZaI,ku,hk,hm]
      cases ji c.Zao c.Zaf[j] s.Zal[j]<;>cases jU c.Zaf s.Zal j<;>rfl)]
    simp only [vZ,ZaI]
    cases s.Zag.all (fun h=>decide (0≤h)&&decide (h < c.Zao))<;>cases (List.range s.used.length).all (JU c.Zaj s.used)<;>cases (List.range s.Zal.length).all (ku c s.Zal)<;>rfl
structure VS (c:Zab) (s:Zac):Prop where
  cv:(qd c).1=0
  day:0≤s.day∧s.day≤c.Zat
  lh:s.Zag.length=c.Zag.length
  lu:s.used.length=c.Zaj.length
  lm:s.Zal.length=c.Zaf.length
  hold:∀ h∈s.Zag,0≤h∧h < c.Zao
  used:∀ (i:Nat) (a:Zaq),c.Zaj[i]?=some a→s.used[i]?=some true→a.kind≠1
  mrk:∀ (i:Nat) (k:Zam) (m:zw),c.Zaf[i]?=some k→s.Zal[i]?=some m→ji c.Zao k m=true
  rdy:∀ i,i < c.Zaf.length→jU c.Zaf s.Zal i=false
theorem zkO {c:Zab} {s:Zac} (h:vsB c s=true):VS c s:=by
  simp only [vsB,Bool.and_eq_true,Bool.not_eq_true',decide_eq_false_iff_not,beq_iff_eq,List.all_eq_true,List.mem_range,vZ,decide_eq_true_eq] at h
  obtain ⟨h1,⟨h2,h3,h4,h5,h6⟩,h7,h8,h9⟩:=h
  refine ⟨h1,⟨by omega,by omega⟩,by omega,by omega,by omega,fun x hx=>h7 x hx,fun i a ha hu hk => ?_,fun i k m hk hm => ?_,fun i hi => ?_⟩
  · have:=h8 i (by have:=(List.getElem?_eq_some_iff.1 hu).1;exact this)
    simp only [JU,ha,hu,hk] at this
    cases this
  · have:=h9 i (List.getElem?_eq_some_iff.1 hm).1
    simp only [ku,hk,hm,Bool.and_eq_true] at this
    exact this.1
  · have hi':i < s.Zal.length:=by omega
    have:=h9 i hi'
    simp only [ku,List.getElem?_eq_getElem hi,List.getElem?_eq_getElem hi',Bool.and_eq_true,Bool.not_eq_true'] at this
    exact this.2
theorem Ji {c:Zab} {s:Zac} (h:VS c s):vsB c s=true:=by
  have hd:=h.day
  have h4:=h.lh
  have h5:=h.lu
  have h6:=h.lm
  simp only [vsB,Bool.and_eq_true,Bool.not_eq_true',decide_eq_false_iff_not,beq_iff_eq,List.all_eq_true,List.mem_range,vZ,decide_eq_true_eq]
  refine ⟨h.cv,⟨by omega,by omega,by omega,by omega,by omega⟩,fun x hx=>h.hold x hx,fun i hi => ?_,fun i hi => ?_⟩
  · have hi':i < c.Zaj.length:=by omega
    have ha:=List.getElem?_eq_getElem hi'
    have hu:=List.getElem?_eq_getElem hi
    simp only [JU,ha,hu]
    cases hq:s.used[i] with
    | false=>rfl
    | true=>
      have:=h.used i _ ha (by rw [hu,hq])
      simp [this]
  · have hi':i < c.Zaf.length:=by omega
    have ha:=List.getElem?_eq_getElem hi'
    have hu:=List.getElem?_eq_getElem hi
    simp only [ku,ha,hu,Bool.and_eq_true,Bool.not_eq_true']
    exact ⟨h.mrk i _ _ ha hu,h.rdy i hi'⟩
end Go.Proofs.YtlpmnmbebkdocaaGreatDoor
