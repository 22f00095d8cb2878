/-
  Functions of the program: what they compute, and plans of their code that the kernel checks (printed by a program of ours).
  What 'contract.Valid' comes to.
  What Valid says.
  What 'slices.BinarySearch' comes to; sizes of valid contracts.
-/
import Derived.Test.YtlpmnmbebkdocaaGreatDoorTD10
import Derived.Test.YtlpmnmbebkdocaaGreatDoorTD06
import Derived.Test.YtlpmnmbebkdocaaGreatDoorTD07
namespace Go.Proofs.YtlpmnmbebkdocaaGreatDoor
open Go.RowKit
set_option linter.unusedSimpArgs false
set_option linter.unusedVariables false
set_option maxRecDepth 100000
noncomputable def yN (c:Zab) (states:List Zac):Option (Option (List (Int×Zax))):=
  (Option.bind (forR (σ:=(List (ByteArray×Int))) (ρ:=Unit) (states.length:Int) (fun i1 s1=>(Option.bind (ze states (i1:Int)) fun e1=>(Option.bind (wy e1) fun r1=>some (.inl (zP r1 (i1:Int) s1))))) []) (Sum.elim (fun (s1:(List (ByteArray×Int)))=>(Option.bind (forR (σ:=(List (Int×Zax))) (ρ:=Unit) (states.length:Int) (fun i2 s2=>(Option.bind (Option.bind (ze states (i2:Int)) fun e2=>(bif (e2.day == c.Zat) then some s2 else (Option.bind (iter (σ:=Int×(List (Int×Zax))) (ρ:=(List (Int×Zax))) (fun s3=>(bif decide (s3.1 < (c.Zaj.length:Int)) then (Option.bind (Option.bind (d_Step c e2 s3.1) fun r2=>(Option.bind (wy r2.1) fun r3=>(Option.bind (bif ((zq ((zq r3 s1).getD 0) s3.2).isSome) then some false else some (!(((zq r3 s1).getD 0) == 0))) fun v1=>(bif v1 then some (zP ((zq r3 s1).getD 0) ({from_:=(i2:Int),step:=s3.1}:Zax) s3.2) else some s3.2)))) fun (v2:(List (Int×Zax)))=>some (.inl ((IntKind.i64.wrap (s3.1+1)),v2))) else some (.inr s3.2))) ((-1),s2)) (fun (y1:(List (Int×Zax)))=>some y1)))) fun (v3:(List (Int×Zax)))=>some (.inl v3))) []) (Sum.elim (fun (s2:(List (Int×Zax)))=>some (some s2)) (fun _=>none)))) (fun _=>none)))
noncomputable def zhj (c:Zab) (states:List Zac):Zad (Option (List (Int×Zax))):=
  .reg 2 (.ln 2174 Zac.row states (.use 1 2174 (.forR (σ:=(List (ByteArray×Int))) (ρ:=Unit) 2116 20 (states.length:Int) [] (.k [1,2,5,18,19] (fun _=>[]) [0] (fun s1=>[(2,.map (zu IV.str IV.i64 s1))]) 7 fun _=>(.ents rfl .nil)) (fun i1 s1=>.sel 2116 (.reg 0 (.ix 2152 Zac.row states (i1:Int) fun e1=>.use 1 2152 (.reg 0 (.call 2154 (zbz e1) fun r1=>.use 2 2154 (.f1 2156 (.u (zu IV.str IV.i64 (zP r1 (i1:Int) s1))) (xE IV.i64 r1 (i1:Int) s1) (.use 4 2156 (.ret (.inl (zP r1 (i1:Int) s1)))))))))) fun os1=>.case os1 (fun s1=>.sel 2116 (.reg 1 (.ln 2172 Zac.row states (.use 1 2172 (.forR (σ:=(List (Int×Zax))) (ρ:=Unit) 2118 33 (states.length:Int) [] (.k [2,5,8,31,32] (fun _=>[]) [0] (fun s2=>[(2,.map (zu IV.str IV.i64 s1)),(8,.map (zu IV.i64 Zax.iv s2))]) 13 fun _=>(.ents rfl (.ents rfl .nil))) (fun i2 s2=>.sel 2118 (.cut (β:=(List (Int×Zax))) 1 (.k [2,5,8,31,32,33] (fun _=>[]) [0] (fun v3=>[(2,.map (zu IV.str IV.i64 s1)),(8,.map (zu IV.i64 Zax.iv v3))]) 25 fun _=>(.ents rfl (.ents rfl .nil))) (.reg 0 (.ix 2158 Zac.row states (i2:Int) fun e2=>.use 1 2158 (.ite 2136 (e2.day == c.Zat) (.sel 2136 (.ret s2)) (.sel 2136 (.iter (σ:=Int×(List (Int×Zax))) (ρ:=(List (Int×Zax))) ((-1),s2) (.k [2,5,8,31,32,33,10,9] (fun s3=>[(11,vI s3.1)]) [0,17] (fun s3=>[(2,.map (zu IV.str IV.i64 s1)),(8,.map (zu IV.i64 Zax.iv s3.2))]) 26 fun _=>(.ents rfl (.ents rfl .nil))) (fun s3=>.reg 0 (.ln 2170 Zar.row c.Zaj (.use 3 2170 (.ite 2146 (decide (s3.1 < (c.Zaj.length:Int))) (.sel 2146 (.cut (β:=(List (Int×Zax))) 1 (.k [2,5,8,31,32,33,10,9,11] (fun _=>[]) [0,17] (fun v2=>[(2,.map (zu IV.str IV.i64 s1)),(8,.map (zu IV.i64 Zax.iv v2))]) 61 fun _=>(.ents rfl (.ents rfl .nil))) (.reg 0 (.call 2160 (kl c e2 s3.1) fun r2=>.use 3 2160 (.reg 0 (.call 2162 (zbz r2.1) fun r3=>.use 2 2162 (.f1 2168 (.l (vI ((zq r3 s1).getD 0)) ((zq r3 s1).isSome)) (wO IV.i64 0 r3 s1) (.use 3 2168 (.reg 0 (.f1 2166 (.l (.imm (.agg (Zax.row ((zq ((zq r3 s1).getD 0) s3.2).getD ({from_:=0,step:=0}:Zax))))) ((zq ((zq r3 s1).getD 0) s3.2).isSome)) (V3 Zax.iv ({from_:=0,step:=0}:Zax) ((zq r3 s1).getD 0) s3.2) (.use 2 2166 (.cut (β:=Bool) 1 (.k [2,5,8,31,32,33,10,9,11,14] (fun v1=>[(72,vB v1)]) [0,17,38,52] (fun _=>[(2,.map (zu IV.str IV.i64 s1)),(8,.map (zu IV.i64 Zax.iv s3.2))]) 61 fun _=>(.ents rfl (.ents rfl .nil))) (.reg 0 (.ite 2148 ((zq ((zq r3 s1).getD 0) s3.2).isSome) (.use 3 2149 (.ret false)) (.use 3 2149 (.ret (!(((zq r3 s1).getD 0) == 0)))))) fun v1=>.ite 2150 v1 (.sel 2150 (.reg 0 (.f1 2164 (.u (zu IV.i64 Zax.iv (zP ((zq r3 s1).getD 0) ({from_:=(i2:Int),step:=s3.1}:Zax) s3.2))) (zfg Zax.iv ((zq r3 s1).getD 0) ({from_:=(i2:Int),step:=s3.1}:Zax) s3.2) (.use 5 2164 (.ret (zP ((zq r3 s1).getD 0) ({from_:=(i2:Int),step:=s3.1}:Zax) s3.2)))))) (.sel 2150 (.ret s3.2)))))))))))) fun v2=>.ret (.inl ((IntKind.i64.wrap (s3.1+1)),v2)))) (.sel 2146 (.ret (.inr s3.2))))))) fun y1=>.ret y1))))) fun v3=>.ret (.inl v3))) fun os2=>.case os2 (fun s2=>.sel 2118 (.fin [8] (.map 8) [(8,.map (zu IV.i64 Zax.iv s2))] (qB IV.i64 Zax.iv (some s2)) (jr _ _ _ (zD (zj7 IV.i64 Zax.iv 8 s2 rfl) jH)) (some s2))) fun _=>.none))))) fun _=>.none)))
theorem zhk (c:Zab) (states:List Zac) (res:Option (List (Int×Zax))) (hd:yN c states=some res):APure C0 205 [.agg (Zab.row c),.slice (List.map Zac.row states)] (qB IV.i64 Zax.iv res):=
  Zad.pure (iv:=fun res=>qB IV.i64 Zax.iv res) (zhj c states) (by kernel_rfl) (Zad.run_of hd (by kernel_rfl))
noncomputable def km (p1:List Int):Option (List Int):=
  (Option.bind (iter (σ:=Int×Int×(List Int)) (ρ:=(List Int)) (fun s1=>(bif decide (s1.1 < s1.2.1) then (Option.bind (zk p1.length s1.2.1) fun k1=>(Option.bind (s1.2.2[k1]?) fun e1=>(Option.bind (zk p1.length s1.1) fun k2=>(Option.bind (s1.2.2[k2]?) fun e2=>(Option.bind ((s1.2.2.set k2 e1)[k1]?) fun e3=>some (.inl ((IntKind.i64.wrap (s1.1+1)),(IntKind.i64.wrap (s1.2.1 - 1)),((s1.2.2.set k2 e1).set k1 e2)))))))) else some (.inr s1.2.2))) (0,(IntKind.i64.wrap ((p1.length:Int) - 1)),p1)) (fun (y1:(List Int))=>some y1))
noncomputable def ziY (p1:List Int):Zad (List Int):=
  .iter (σ:=Int×Int×(List Int)) (ρ:=(List Int)) (0,(IntKind.i64.wrap ((p1.length:Int) - 1)),p1) (.k [0] (fun s1=>[(2,vI s1.1),(3,vI s1.2.1)]) [] (fun s1=>[(0,.rows 1 (zb zc s1.2.2))]) 6 fun _=>(.rows rfl .nil)) (fun s1=>.ite 2180 (decide (s1.1 < s1.2.1)) (.sel 2180 (.reg 0 (.b1 2182 (zk p1.length s1.2.1) (fun k1=>.k k1) (fun k1 hk1=>(zs hk1)) fun k1=>.b1 2184 (s1.2.2[k1]?) (fun e1=>.ar (zz (zc e1))) (fun e1 he1=>(zT zc he1)) fun e1=>.b1 2186 (zk p1.length s1.1) (fun k2=>.k k2) (fun k2 hk2=>(zs hk2)) fun k2=>.bind (s1.2.2[k2]?) (fun e2=>[(2188,([.ar (zz (zc e2))],_)),(2190,([.aw (zz (zc e2)) (zb zc (s1.2.2.set k2 e1))],_))]) (fun e2 he2=>(.c1 (zT zc he2) (.c1 (zZ zc e1 he2) .nil))) fun e2=>.b1 2192 ((s1.2.2.set k2 e1)[k1]?) (fun e3=>.aw (zz (zc e3)) (zb zc ((s1.2.2.set k2 e1).set k1 e2))) (fun e3 he3=>(zZ zc e2 he3)) fun e3=>.us [(6,2182),(7,2184),(10,2186),(11,2188),(12,2186),(13,2190),(14,2182),(15,2192)] (.ret (.inl ((IntKind.i64.wrap (s1.1+1)),(IntKind.i64.wrap (s1.2.1 - 1)),((s1.2.2.set k2 e1).set k1 e2))))))) (.sel 2180 (.ret (.inr s1.2.2)))) fun y1=>.ret y1
theorem ziZ (p1:List Int) (res:(List Int)) (hd:km p1=some res):DOk C0 213 [.Zak 0 0 p1.length] [(0,.rows 1 (zb zc p1))] 1 (.tuple []) [(0,.rows 1 (zb zc res))] 0:=
  Zad.det (R:=fun res=>.tuple []) (H:=fun res=>[(0,.rows 1 (zb zc res))]) (ziY p1) (.rows rfl .nil) (fun _=>(.rows rfl .nil)) (by kernel_rfl) (fun _=>by kernel_rfl) (by kernel_rfl) (Zad.run_of hd (by kernel_rfl))
noncomputable def jL (came:Option (List (Int×Zax))) (n:Int):Zax:=(zq n (came.getD [])).getD ({from_:=0,step:=0}:Zax)
noncomputable def Qb (came:Option (List (Int×Zax))) (s:List Int×Int):Option ((List Int×Int) ⊕ List Int):=
  bif (!(s.2 == 0)) then Option.bind (zfe (α:=Int) 8 s.1 [(jL came s.2).step]) fun e=>some (.inl (e,(jL came s.2).from_)) else some (.inr s.1)
noncomputable def Qc (came:Option (List (Int×Zax))) (n:Int):Option (List Int):=
  Option.bind (iter (σ:=List Int×Int) (ρ:=List Int) (Qb came) ([],n)) fun l=>Option.bind (km l) fun r=>Option.bind (eqN l.length r.length) fun _=>some r
theorem zek {C:CtxY} {nt:Fr} {x:ZaG} {K:Exit→St→Prop} {st:St} {σ ρ γ:Type} {f:σ→Option (σ ⊕ ρ)} {s0:σ} {out:ρ} (hl:iter f s0=some out)
    (Ok:σ→γ→Prop) (S:σ→γ→St) (hmin:∀ s c,Ok s c→st.next≤(S s c).next) (c0:γ) (hok0:Ok s0 c0) (hn0:(S s0 c0).next=st.next) (h0:Weak st (S s0 c0))
    (body:∀ (s:σ) (c:γ) (o:σ ⊕ ρ),Ok s c→f s=some o→awp C nt x (zj8 Ok S K (.inr out) o) (S s c)):awp C nt (.loop x) K st:=by
  obtain ⟨k,hk⟩:=wq.1 hl
  refine Xh (ι:={p:Nat×σ×γ // iterN f p.1 p.2.1=some out∧Ok p.2.1 p.2.2}) (fun p=>S p.1.2.1 p.1.2.2) (fun p=>p.1.1) ⟨(k,s0,c0),hk,hok0⟩ (fun p=>by rw [hn0];exact hmin _ _ p.2.2) h0 (Nat.le_of_eq hn0.symm) ?_
  rintro ⟨⟨i,s,c⟩,hf,hok⟩
  simp only at hf hok
  cases i with
  | zero=>cases hf
  | succ i=>
    simp only [iterN] at hf
    split at hf
    · cases hf
    · rename_i r hr
      cases hf
      refine qR ?_ (body s c _ hok hr)
      intro e st' hK
      cases e with
      | normal=>obtain ⟨s',_,h1,_⟩:=hK;cases h1
      | _=>obtain ⟨y,h1,h2⟩:=hK;cases h1;exact h2 rfl
    · rename_i s' hr
      refine qR ?_ (body s c _ hok hr)
      intro e st' hK
      cases e with
      | normal=>
        obtain ⟨s'',c'',h1,h2,h3⟩:=hK
        cases h1
        exact ⟨⟨(i,s',c''),hf,h2⟩,by simp only;omega,h3⟩
      | _=>obtain ⟨y,h1,h2⟩:=hK;cases h1
theorem yu {C:CtxY} {K:St→Prop} {dst:Option Nat} {op:AOp} {rest:List AItem} {env:List (Nat×AV)} {heap:List (Nat×Zae)} {next:Nat} (r:AV) (ups:List (Nat×Zae)) (hc:(match op with | .call _ _=>true | _=>false)=false)
    (he:evalOp op (zd env) (za heap) next=some (r,ups)) (hn:evl C rest K (St.after ⟨env,heap,next⟩ dst r ups)):evl C (⟨dst,op,none⟩::rest) K ⟨env,heap,next⟩:=by
  rw [Kw,VZ]
  have e:∀ K,evOp C dst K ⟨env,heap,next⟩ op=zS dst K ⟨env,heap,next⟩ (evalOp op (zd env) (za heap) next):=fun KD=>by
    cases op<;>first | rfl | exact Bool.noConfusion hc
  rw [e,he]
  exact hn
theorem zfF {ev:Opd→AV} {h:Nat→Option Zae} {id:Nat} {a b:Opd} {zero:AV} {k:Int} {y:IV} {x:AV} {bb:Bool} (hp:zb9 false zero (.int .i64 k) y x bb) (ha:ev a=.imm y) (hb:ev b=vI k):evalOp (.look false zero false a b) ev h id=some (x,[]):=by
  obtain ⟨es,h1,h2,h3⟩:=hp
  have h1':jp h (.imm y)=some es:=by
    rw [←h1];cases y<;>rfl
  simp only [evalOp,ha,hb,vI,h1',h2,if_pos]
  rcases h3 with ⟨h4,_⟩ | ⟨h4,h5,_⟩
  · rw [h4];rfl
  · rw [h4];simp [h5]
theorem zhl {ev:Opd→AV} {h:Nat→Option Zae} {id:Nat} {a:Opd} (off:Nat) {x:Zax} {v:Int} (ha:ev a=.imm (Zax.iv x)) (ho:off < 2) (hv:x.row[off]?=some (.int .i64 v)):evalOp (.cut false off 1 a) ev h id=some (vI v,[]):=by
  simp only [evalOp,ha,Zax.iv,ZG]
  have hl:(x.row.map AV.imm).length=2:=rfl
  rw [if_pos (by omega)]
  simp only [Bool.false_eq_true,if_false,List.getElem?_map,hv,Option.map_some,vI]
theorem zhm {ev:Opd→AV} {h:Nat→Option Zae} {id Q B k:Nat} {a b:Opd} {v:AV} {rows:List (List AV)} (ha:ev a=.Zak Q 0 k) (hb:ev b=.Zak B 0 1) (hB:h B=some (.rows 1 [[v]])) (hQ:h Q=some (.rows 1 rows)) (hk:k=rows.length) (hl:(k+1)*8≤140737488355328) :
    evalOp (.app 1 8 a b) ev h id=some (.Zak id 0 (k+1),[(id,.rows 1 (rows++[[v]])),(Q,.dead)]):=by
  subst hk
  simp [evalOp,ha,hb,Qu,jF,hB,hQ,hl]
theorem zkH {C:CtxY} {nt:Fr} (came:Option (List (Int×Zax))) (n:Int) (x7:AV) (l:List Int) (Q N:Nat) (hQN:Q < N) (hl:(l.length+1)*8≤140737488355328) (P:Exit→St→Prop)
    (h:P .normal ⟨[(0,.imm (qB IV.i64 Zax.iv came)),(1,vI n),(5,.Zak (N+6) 0 (l.length+1))],zJ (zJ (zJ [(Q,Zae.rows 1 (zb zc l))] (N+5) (Zae.rows 1 [[vI (jL came n).step]])) Q Zae.dead) (N+6) (Zae.rows 1 (zb zc l++[[vI (jL came n).step]])),N+8⟩) :
    awp C nt (.region false [] Vn (some [0,1,5])) P ⟨[(0,.imm (qB IV.i64 Zax.iv came)),(1,vI n),(5,.Zak Q 0 l.length),(7,x7)],[(Q,.rows 1 (zb zc l))],N⟩:=by
  refine Jv ?_
  unfold Vn
  refine yu _ _ rfl rfl ?_
  refine yu _ _ rfl rfl ?_
  refine yu _ _ rfl rfl ?_
  refine yu (.imm (Zax.iv (jL came n))) [] rfl (zfF (Wc Zax.iv ({from_:=0,step:=0}:Zax) n came) rfl rfl) ?_
  refine yu (vI (jL came n).step) [] rfl (zhl 1 rfl (by omega) rfl) ?_
  refine yu (.Zak (N+5) 0 1) [(N+5,.rows 1 [[vI (jL came n).step]])] rfl rfl ?_
  have hB:za (zJ [(Q,Zae.rows 1 (zb zc l))] (N+5) (Zae.rows 1 [[vI (jL came n).step]])) (N+5)=some (.rows 1 [[vI (jL came n).step]]):=by rw [z6,if_pos rfl]
  have hQ1:za (zJ [(Q,Zae.rows 1 (zb zc l))] (N+5) (Zae.rows 1 [[vI (jL came n).step]])) Q=some (.rows 1 (zb zc l)):=by rw [z6,if_neg (by omega)];simp [za]
  refine yu _ _ rfl (zhm rfl rfl hB hQ1 (by simp [zb]) hl) ?_
  refine yu _ _ rfl rfl ?_
  exact h
theorem zkI {nt:Fr} (x0 x1 x7:AV) (l r:List Int) (hr:km l=some r) (Q N:Nat) (hQN:Q < N) (P:Exit→St→Prop)
    (h:P .normal ⟨[(5,.Zak Q 0 l.length)],[(Q,.rows 1 (zb zc r))],N+2⟩) :
    awp C0.plain nt (.region false [] Vo (some [5])) P ⟨[(0,x0),(1,x1),(5,.Zak Q 0 l.length),(7,x7)],[(Q,.rows 1 (zb zc l))],N⟩:=by
  refine Jv ?_
  have hd:=ziZ l r hr
  simp only [Vo,Kw,zgS,VZ,zeX,evalOp,zgT,X4,zdA,reduceIte,Option.getD_some,X2,X3,QO,X5,V0,zdz,List.map_cons,List.map_nil,zaZ,List.nil_append,List.append_nil,List.cons_append,Kx,Nat.reduceEqDiff,if_false]
  refine ACall.det (l:=[Q]) (zi hd [Q] (N+1) (.keep .nil) (rhI rhN) (rhI rhN)) ?_ ?_ ?_
  · simp only [kb,Zi,List.length_cons,List.length_nil,List.all_cons,List.all_nil]
    simp;try omega
  · simp [xt,za,phi]
  · simp only [yK,St.put,X2,X3,QO,X5,V0,Nat.reduceEqDiff,if_false,reduceIte,X4,Option.getD_some,zdy,YF]
    simp [qw,List.filter,phi,wN,zJ]
    exact h
def SW (came:Option (List (Int×Zax))) (s:List Int×Int) (Q:Nat):St:=⟨[(0,.imm (qB IV.i64 Zax.iv came)),(1,vI s.2),(5,.Zak Q 0 s.1.length)],[(Q,.rows 1 (zb zc s.1))],Q+1⟩
set_option maxHeartbeats 4000000 in
theorem zkJ (came:Option (List (Int×Zax))) (n:Int) (res:List Int) (hd:Qc came n=some res):APure C0 206 [qB IV.i64 Zax.iv came,.int .i64 n] (.slice (List.map zc res)):=by
  unfold Qc at hd
  obtain ⟨l,hl,hd⟩:=jP hd
  obtain ⟨r,hr,hd⟩:=jP hd
  obtain ⟨⟨hlen⟩,_,hd⟩:=jP hd
  have ee:=Option.some.inj hd;subst ee
  refine APure.start (d:=2) zkd (by simp [Y1]) ?_
  intro B
  show awp C0.plain _ Y1.body (yD Y1.results _) ⟨[(0,.imm (qB IV.i64 Zax.iv came)),(1,vI n)],[],0⟩
  refine xm ?_
  refine kc (st':=⟨[(0,.imm (qB IV.i64 Zax.iv came)),(1,vI n)],[],1⟩) [] .nil ?_ (by kernel_rfl)
  refine yf ?_
  refine xm ?_
  refine kc (st':=⟨[(0,.imm (qB IV.i64 Zax.iv came)),(1,vI n),(5,.nil)],[],2⟩) [] .nil ?_ (by kernel_rfl)
  refine yf ?_
  refine xm ?_
  refine kG ?_
  refine Xg (V5 (t:=5) 1 rfl) (by simp) ?_
  show awp C0.plain _ _ _ ⟨[(0,.imm (qB IV.i64 Zax.iv came)),(1,vI n),(5,.Zak 2 0 0)],[(2,.rows 1 [])],3⟩
  refine zek hl (fun _ Q=>2≤Q) (SW came) (fun s Q hQ=>by simp only [SW];omega) 2 (Nat.le_refl _) rfl (Weak.refl _) ?_
  rintro ⟨l,n⟩ Q o hQ hs
  show awp C0.plain _ _ _ ⟨[(0,.imm (qB IV.i64 Zax.iv came)),(1,vI n),(5,.Zak Q 0 l.length)],[(Q,.rows 1 (zb zc l))],Q+1⟩
  refine xm ?_
  refine xm ?_
  refine kc (st':=⟨[(0,.imm (qB IV.i64 Zax.iv came)),(1,vI n),(5,.Zak Q 0 l.length),(7,vB (!(n == 0)))],[(Q,.rows 1 (zb zc l))],Q+3⟩) [] .nil ?_ (by kernel_rfl)
  refine yf ?_
  refine zhS (!(n == 0)) rfl (fun g => ?_) (fun g => ?_)
  · replace hs:=zhU g hs
    obtain ⟨e,he,hs⟩:=jP hs
    cases hs
    have hb:(l.length+1)*8≤140737488355328∧e=l++[(jL came n).step]:=by
      unfold zfe at he
      split at he
      · rename_i hh;cases he;exact ⟨hh,rfl⟩
      · cases he
    obtain ⟨hb,rfl⟩:=hb
    refine Xe ?_
    refine yf ?_
    refine kG ?_
    refine xm ?_
    refine zkH came n _ l Q (Q+3) (by omega) hb _ ?_
    refine yf ?_
    have ag:∀ j,za (zJ (zJ (zJ [(Q,Zae.rows 1 (zb zc l))] (Q+3+5) (Zae.rows 1 [[vI (jL came n).step]])) Q Zae.dead) (Q+3+6) (Zae.rows 1 (zb zc l++[[vI (jL came n).step]]))) j=if Q+3+6=j then some (.rows 1 (zb zc l++[[vI (jL came n).step]])) else if Q=j then some .dead else if Q+3+5=j then some (.rows 1 [[vI (jL came n).step]]) else za [(Q,Zae.rows 1 (zb zc l))] j:=fun j=>by
      simp only [z6]
    have ag2:=ag (Q+9)
    rw [if_pos rfl] at ag2
    generalize zJ (zJ (zJ [(Q,Zae.rows 1 (zb zc l))] (Q+3+5) (Zae.rows 1 [[vI (jL came n).step]])) Q Zae.dead) (Q+3+6) (Zae.rows 1 (zb zc l++[[vI (jL came n).step]]))=hp at *
    refine kc (st':=⟨[(0,.imm (qB IV.i64 Zax.iv came)),(1,vI (jL came n).from_),(5,.Zak (Q+3+6) 0 (l.length+1))],hp,Q+3+8+5⟩) [.l (.imm (Zax.iv (jL came n))) (zq n (came.getD [])).isSome] (.cons (Wc Zax.iv ({from_:=0,step:=0}:Zax) n came) .nil) ?_ (by kernel_rfl)
    refine zj4 ?_
    refine ⟨_,Q+9,rfl,by omega,?_⟩
    refine Ju (by simp only [SW];omega) ?_ ?_
    · intro p hp
      simp only [SW,List.mem_cons,List.not_mem_nil,or_false] at hp
      rcases hp with rfl | rfl | rfl
      · exact ⟨rfl,rfl⟩
      · exact ⟨rfl,rfl⟩
      · refine ⟨by simp [za],by simp [zL,xa,zF,SW]⟩
    · intro p hp
      simp only [SW,List.mem_cons,List.not_mem_nil,or_false] at hp
      subst hp
      refine ⟨by rw [ag2];simp [zb,zz,zc,vI],by simp [SW],vR _ _ _ _⟩
  · replace hs:=zhV g hs
    cases hs
    refine Xf ?_
    refine ⟨_,rfl,fun e => ?_⟩
    have e:=Sum.inr.inj e
    subst e
    refine zhT ?_
    refine yf ?_
    refine xm ?_
    refine zkI _ _ _ _ r hr Q (Q+3) (by omega) _ ?_
    refine yf ?_
    refine xm ?_
    refine kc (st':=⟨[(4,.Zak Q 0 l.length)],[(Q,.rows 1 (zb zc r))],Q+3+2+2⟩) [] .nil ?_ (by kernel_rfl)
    refine yf ?_
    refine W7 ?_
    exact zfk _ rfl (xv zc Q 1 _ r hlen (by simp [za]))
noncomputable def wA (c:Zab) (states:List Zac):Option (List Zai):=
  (Option.bind (forR (σ:=(List Zai)×(Option (List (Int×Zax)))) (ρ:=Unit) (c.Zaf.length:Int) (fun i1 s1=>(Option.bind (forR (σ:=(List Zai)×(Option (List (Int×Zax)))) (ρ:=Unit) (c.Zaf.length:Int) (fun i2 s2=>(Option.bind (Option.bind (xI c (i1:Int) (i2:Int)) fun r1=>(bif r1 then (Option.bind (forR (σ:=(List Zai)×(Option (List (Int×Zax)))) (ρ:=(List Zai)×(Option (List (Int×Zax)))) (states.length:Int) (fun i3 s3=>(Option.bind (ze states (i3:Int)) fun e1=>(Option.bind (vz c e1 (i1:Int) (i2:Int)) fun r2=>(bif r2 then (Option.bind (bif s3.2.isSome then some s3.2 else (Option.bind (yN c states) fun r3=>some r3)) fun (v1:(Option (List (Int×Zax))))=>(Option.bind (Qc v1 (i3:Int)) fun r4=>(Option.bind (ja 4 (-1) (i1:Int) (i2:Int) r4) fun r5=>(Option.bind (zO (α:=Zai) 56 s3.1 [r5]) fun e2=>some (.inr (e2,v1)))))) else some (.inl (s3.1,s3.2)))))) (s2.1,s2.2)) (Sum.elim (fun (s3:(List Zai)×(Option (List (Int×Zax))))=>some (s3.1,s3.2)) (fun (y1:(List Zai)×(Option (List (Int×Zax))))=>some (y1.1,y1.2)))) else some (s2.1,s2.2))) fun (v2:(List Zai)×(Option (List (Int×Zax))))=>some (.inl (v2.1,v2.2)))) (s1.1,s1.2)) (Sum.elim (fun (s2:(List Zai)×(Option (List (Int×Zax))))=>some (.inl (s2.1,s2.2))) (fun _=>none)))) ([],none)) (Sum.elim (fun (s1:(List Zai)×(Option (List (Int×Zax))))=>some s1.1) (fun _=>none)))
noncomputable def zel (c:Zab) (states:List Zac):Zad (List Zai):=
  .reg 3 (.ln 2232 Zan.row c.Zaf (.use 2 2232 (.weak 1 [zig 5 5] (.forR (σ:=(List Zai)×(Option (List (Int×Zax)))) (ρ:=Unit) 1962 14 (c.Zaf.length:Int) ([],none) (.k [1,2,13] (fun s1=>[(5,.Zas 8 (List.map Zai.row s1.1)),(6,.imm (qB IV.i64 Zax.iv s1.2))]) [0] (fun s1=>[(8,.tip 5 s1.1.length)]) 9 fun _=>(.exp rfl rfl .nil)) (fun i1 s1=>.sel 1962 (.reg 1 (.ln 2230 Zan.row c.Zaf (.use 2 2230 (.forR (σ:=(List Zai)×(Option (List (Int×Zax)))) (ρ:=Unit) 2202 20 (c.Zaf.length:Int) (s1.1,s1.2) (.k [1,2,13,14,7,19] (fun s2=>[(5,.Zas 8 (List.map Zai.row s2.1)),(6,.imm (qB IV.i64 Zax.iv s2.2))]) [0] (fun s2=>[(8,.tip 5 s2.1.length)]) 16 fun _=>(.exp rfl rfl .nil)) (fun i2 s2=>.sel 2202 (.cut (β:=(List Zai)×(Option (List (Int×Zax)))) 1 (.k [1,2,13,14,7,19,20] (fun v2=>[(5,.Zas 8 (List.map Zai.row v2.1)),(6,.imm (qB IV.i64 Zax.iv v2.2))]) [0] (fun v2=>[(8,.tip 5 v2.1.length)]) 24 fun _=>(.exp rfl rfl .nil)) (.reg 1 (.call 2212 (Yk c (i1:Int) (i2:Int)) fun r1=>.use 3 2212 (.ite 2204 r1 (.sel 2205 (.reg 0 (.ln 2228 Zac.row states (.use 1 2228 (.forR (σ:=(List Zai)×(Option (List (Int×Zax)))) (ρ:=(List Zai)×(Option (List (Int×Zax)))) 2206 30 (states.length:Int) (s2.1,s2.2) (.k [1,2,13,14,7,19,20,8,28,29] (fun s3=>[(5,.Zas 8 (List.map Zai.row s3.1)),(6,.imm (qB IV.i64 Zax.iv s3.2))]) [0] (fun s3=>[(8,.tip 5 s3.1.length)]) 27 fun _=>(.exp rfl rfl .nil)) (fun i3 s3=>.sel 2206 (.reg 0 (.ix 2214 Zac.row states (i3:Int) fun e1=>.use 1 2214 (.reg 0 (.call 2216 (zbF c e1 (i1:Int) (i2:Int)) fun r2=>.use 4 2216 (.ite 2208 r2 (.sel 2209 (.cut (β:=(Option (List (Int×Zax)))) 1 (.e [1,2,5,13,14,7,19,20,8,9] (fun v1=>[(6,.imm (qB IV.i64 Zax.iv v1))]) [0,8] 42) (.reg 0 (.f1 2220 (.v (.bool (!s3.2.isSome))) (zfh false IV.i64 Zax.iv s3.2) (.use 1 2220 (.ite 2210 s3.2.isSome (.sel 2211 (.ret s3.2)) (.sel 2211 (.reg 0 (.call 2218 (zhk c states) fun r3=>.use 2 2218 (.ret r3)))))))) fun v1=>.reg 0 (.call 2222 (zkJ v1 (i3:Int)) fun r4=>.call 2224 (kO 4 (-1) (i1:Int) (i2:Int) r4) fun r5=>.b1 2226 (zO (α:=Zai) 56 s3.1 [r5]) (fun e2=>.a (List.map Zai.row e2) e2.length) (fun e2 he2=>(qz Zai.row 5 56 (fun _=>rfl) he2)) fun e2=>.us [(5,2222),(6,2224),(8,2226)] (.ret (.inr (e2,v1)))))) (.sel 2209 (.ret (.inl (s3.1,s3.2)))))))))) fun os3=>.case os3 (fun s3=>.sel 2206 (.ret (s3.1,s3.2))) fun y1=>.ret (y1.1,y1.2)))))) (.sel 2205 (.ret (s2.1,s2.2)))))) fun v2=>.ret (.inl (v2.1,v2.2)))) fun os2=>.case os2 (fun s2=>.sel 2202 (.ret (.inl (s2.1,s2.2)))) fun _=>.none))))) fun os1=>.case os1 (fun s1=>.sel 1962 (.ret s1.1)) fun _=>.none))))
theorem zem (c:Zab) (states:List Zac) (res:List Zai) (hd:wA c states=some res):APure C0 201 [.agg (Zab.row c),.slice (List.map Zac.row states)] (.slice (List.map Zai.row res)):=
  Zad.pure (iv:=fun res=>.slice (List.map Zai.row res)) (zel c states) (by kernel_rfl) (Zad.run_of hd (by kernel_rfl))
noncomputable def jT (c:Zab):Option ((List Zai)×Int):=
  (Option.bind (jS c) fun r1=>(bif (r1.2 == 0) then (Option.bind (forR (σ:=(List Zai)) (ρ:=Int) c.Zao (fun i1 s1=>(Option.bind (α:=(List Zai) ⊕ Int) (Option.bind (jt c (i1:Int)) fun r2=>(bif (r2.2 == 0) then (Option.bind (vv c r2.1) fun r3=>(Option.bind (ze r3 0) fun e1=>(bif decide (0≤e1) then (Option.bind (Zw r2.1 r3) fun r4=>(Option.bind (ja 1 (i1:Int) (-1) (-1) r4) fun r5=>(Option.bind (zO (α:=Zai) 56 s1 [r5]) fun e2=>some (.inl e2)))) else some (.inl s1)))) else some (.inr r2.2))) (Sum.elim (fun (v1:(List Zai))=>some (.inl v1)) (fun (y1:Int)=>some (.inr y1))))) []) (Sum.elim (fun (s1:(List Zai))=>(Option.bind (forR (σ:=(List Zai)×(List Zai)) (ρ:=Unit) (c.Zaf.length:Int) (fun i2 s2=>(Option.bind (Q7 (i2:Int) r1.1 s2.1 c s2.2) fun r6=>some (.inl (r6.1,r6.2)))) (s1,[])) (Sum.elim (fun (s2:(List Zai)×(List Zai))=>(Option.bind (zO (α:=Zai) 56 s2.1 s2.2) fun e3=>(Option.bind (wA c r1.1) fun r7=>(Option.bind (zO (α:=Zai) 56 e3 r7) fun e4=>some (e4,0))))) (fun _=>none)))) (fun (y2:Int)=>some ([],y2)))) else some ([],r1.2)))
noncomputable def zi0 (c:Zab):Zad ((List Zai)×Int):=
  .reg 1 (.call 2234 (Vu c) fun r1=>.use 1 2234 (.ite 1304 (r1.2 == 0) (.sel 1305 (.weak 4 [Wo 13 5 0 0] (.forR (σ:=(List Zai)) (ρ:=Int) 1306 24 c.Zao [] (.k [1,4,6,23] (fun _=>[]) [0,8] (fun s1=>[(13,.rows 1 [[.Zas 17 (List.map Zai.row s1)]]),(17,.tip 5 s1.length)]) 18 fun _=>(.exp rfl rfl (.exp rfl rfl .nil))) (fun i1 s1=>.sel 1306 (.cutO (β:=(List Zai)) (γ:=Int) 1 (.k [1,4,6,23,24] (fun _=>[]) [0,8] (fun v1=>[(13,.rows 1 [[.Zas 17 (List.map Zai.row v1)]]),(17,.tip 5 v1.length)]) 40 fun _=>(.exp rfl rfl (.exp rfl rfl .nil))) (.reg 1 (.call 2236 (zbD c (i1:Int)) fun r2=>.use 2 2236 (.ite 1892 (r2.2 == 0) (.sel 1893 (.reg 0 (.call 2238 (zbE c r2.1) fun r3=>.use 2 2238 (.reg 0 (.ix 2240 zc r3 0 fun e1=>.use 1 2240 (.ite 1894 (decide (0≤e1)) (.sel 1894 (.reg 0 (.call 2242 (ziG r2.1 r3) fun r4=>.call 2244 (kO 1 (i1:Int) (-1) (-1) r4) fun r5=>.b1 2246 (zO (α:=Zai) 56 s1 [r5]) (fun e2=>.a (List.map Zai.row e2) e2.length) (fun e2 he2=>(qz Zai.row 5 56 (fun _=>rfl) he2)) fun e2=>.us [(4,2242),(5,2244),(7,2246)] (.ret (.inl e2))))) (.sel 1894 (.ret (.inl s1))))))))) (.sel 1893 (.ret (.inr r2.2)))))) fun o_v1=>.case o_v1 (fun v1=>.ret (.inl v1)) fun y1=>.ret (.inr y1))) fun os1=>.case os1 (fun s1=>.sel 1306 (.reg 2 (.ln 2256 Zan.row c.Zaf (.use 2 2256 (.weak 1 [Wo 19 5 0 0] (.forR (σ:=(List Zai)×(List Zai)) (ρ:=Unit) 1896 56 (c.Zaf.length:Int) (s1,[]) (.k [1,4,6,11,12,55] (fun _=>[]) [0,8] (fun s2=>[(13,.rows 1 [[.Zas 17 (List.map Zai.row s2.1)]]),(17,.tip 5 s2.1.length),(19,.rows 1 [[.Zas 26 (List.map Zai.row s2.2)]]),(26,.tip 5 s2.2.length)]) 27 fun _=>(.exp rfl rfl (.exp rfl rfl (.exp rfl rfl (.exp rfl rfl .nil))))) (fun i2 s2=>.sel 1896 (.reg 1 (.b1 2248 (Q7 (i2:Int) r1.1 s2.1 c s2.2) (fun r6=>.c [8,13,0,19,17,26] 6 (.tuple []) [(13,.rows 1 [[.Zas 17 (List.map Zai.row r6.1)]]),(19,.rows 1 [[.Zas 26 (List.map Zai.row r6.2)]]),(17,.tip 5 r6.1.length),(26,.tip 5 r6.2.length)] 0) (fun r6 hr6=>(zi (ziV (i2:Int) r1.1 s2.1 c s2.2 r6 hr6) [8,13,0,19,17,26] 32 (.drop rfl rfl (.keep (.drop rfl rfl (.keep (.keep (.keep .nil)))))) (rhR (rhR (rhR (rhR (rhR (rhR rhN)))))) (rhR (rhR (rhR (rhR rhN)))))) fun r6=>.use 2 2248 (.ret (.inl (r6.1,r6.2)))))) fun os2=>.case os2 (fun s2=>.sel 1896 (.reg 0 (.b1 2250 (zO (α:=Zai) 56 s2.1 s2.2) (fun e3=>.a (List.map Zai.row e3) e3.length) (fun e3 he3=>(qz Zai.row 5 56 (fun _=>rfl) he3)) fun e3=>.call 2252 (zem c r1.1) fun r7=>.b1 2254 (zO (α:=Zai) 56 e3 r7) (fun e4=>.a (List.map Zai.row e4) e4.length) (fun e4 he4=>(qz Zai.row 5 56 (fun _=>rfl) he4)) fun e4=>.us [(2,2250),(5,2252),(6,2254)] (.ret (e4,0))))) fun _=>.none)))))) fun y2=>.ret ([],y2)))) (.sel 1305 (.ret ([],r1.2)))))
theorem WJ (c:Zab) (res:(List Zai)×Int) (hd:jT c=some res):APure C0 192 [.agg (Zab.row c)] (.tuple [.slice (List.map Zai.row res.1),.int .i64 res.2]):=
  Zad.pure (iv:=fun res=>.tuple [.slice (List.map Zai.row res.1),.int .i64 res.2]) (zi0 c) (by kernel_rfl) (Zad.run_of hd (by kernel_rfl))
noncomputable def zap (a:List Int) (b:List Int):Option Bool:=
  (bif ((a.length:Int) == (b.length:Int)) then (Option.bind (forR (σ:=Unit) (ρ:=Unit) (a.length:Int) (fun i1 s1=>(Option.bind (ze a (i1:Int)) fun e1=>(Option.bind (ze b (i1:Int)) fun e2=>(bif (e1 == e2) then some (.inl ()) else some (.inr ()))))) ()) (Sum.elim (fun (s1:Unit)=>some true) (fun (y1:Unit)=>some false))) else some false)
noncomputable def zfG (a:List Int) (b:List Int):Zad Bool:=
  .reg 1 (.ln 2288 zc a (.use 1 2288 (.ln 2286 zc b (.use 3 2286 (.ite 2272 ((a.length:Int) == (b.length:Int)) (.sel 2273 (.forR (σ:=Unit) (ρ:=Unit) 2274 5 (a.length:Int) () (.e [0,1] (fun _=>[]) [] 7) (fun i1 s1=>.reg 0 (.ln 2282 zc a (.use 2 2282 (.sel 2274 (.reg 0 (.ix 2278 zc a (i1:Int) fun e1=>.ix 2280 zc b (i1:Int) fun e2=>.us [(2,2278),(6,2280)] (.ite 2276 (e1 == e2) (.sel 2277 (.ret (.inl ()))) (.sel 2277 (.ret (.inr ())))))))))) fun os1=>.case os1 (fun s1=>.reg 0 (.ln 2284 zc a (.use 2 2284 (.sel 2274 (.ret true))))) fun y1=>.ret false)) (.sel 2273 (.ret false)))))))
theorem zfH (a:List Int) (b:List Int) (res:Bool) (hd:zap a b=some res):APure C0 142 [.slice (List.map zc a),.slice (List.map zc b)] (.bool res):=
  Zad.pure (iv:=fun res=>.bool res) (zfG a b) (by kernel_rfl) (Zad.run_of hd (by kernel_rfl))
noncomputable def zaq (a:Zai) (b:Zai):Option Bool:=
  (Option.bind (bif (a.kind == b.kind) then (bif (a.Zaa == b.Zaa) then (bif (a.clause == b.clause) then (bif (a.other == b.other) then (Option.bind (zap a.ZaA b.ZaA) fun r1=>some r1) else some false) else some false) else some false) else some false) fun v1=>some v1)
noncomputable def zfI (a:Zai) (b:Zai):Zad Bool:=
  .cut (β:=Bool) 2 (.e [] (fun v1=>[(4,vB v1)]) [0,1] 37) (.reg 0 (.ite 2264 (a.kind == b.kind) (.ite 2266 (a.Zaa == b.Zaa) (.ite 2268 (a.clause == b.clause) (.ite 2270 (a.other == b.other) (.call 2290 (zfH a.ZaA b.ZaA) fun r1=>.us [(6,2264),(13,2266),(20,2268),(27,2270),(31,2290)] (.ret r1)) (.us [(6,2264),(13,2266),(20,2268),(27,2270)] (.ret false))) (.us [(6,2264),(13,2266),(20,2268)] (.f1 2292 (.g false) (rfl:false=false) (.use 27 2292 (.ret false))))) (.us [(6,2264),(13,2266)] (.f1 2296 (.g false) (rfl:false=false) (.use 20 2296 (.f1 2294 (.g false) (rfl:false=false) (.use 27 2294 (.ret false))))))) (.use 6 2264 (.f1 2302 (.g false) (rfl:false=false) (.use 13 2302 (.f1 2300 (.g false) (rfl:false=false) (.use 20 2300 (.f1 2298 (.g false) (rfl:false=false) (.use 27 2298 (.ret false)))))))))) fun v1=>.ret v1
theorem zfJ (a:Zai) (b:Zai) (res:Bool) (hd:zaq a b=some res):APure C0 320 [.agg (Zai.row a),.agg (Zai.row b)] (.bool res):=
  Zad.pure (iv:=fun res=>.bool res) (zfI a b) (by kernel_rfl) (Zad.run_of hd (by kernel_rfl))
noncomputable def vA (a:List Zai) (b:List Zai):Option Bool:=
  (bif ((a.length:Int) == (b.length:Int)) then (Option.bind (forR (σ:=Unit) (ρ:=Unit) (a.length:Int) (fun i1 s1=>(Option.bind (ze a (i1:Int)) fun e1=>(Option.bind (ze b (i1:Int)) fun e2=>(Option.bind (zaq e1 e2) fun r1=>(bif r1 then some (.inl ()) else some (.inr ())))))) ()) (Sum.elim (fun (s1:Unit)=>some true) (fun (y1:Unit)=>some false))) else some false)
noncomputable def zhn (a:List Zai) (b:List Zai):Zad Bool:=
  .reg 1 (.ln 2318 Zai.row a (.use 1 2318 (.ln 2316 Zai.row b (.use 3 2316 (.ite 2260 ((a.length:Int) == (b.length:Int)) (.sel 2261 (.forR (σ:=Unit) (ρ:=Unit) 2262 5 (a.length:Int) () (.e [0,1] (fun _=>[]) [] 7) (fun i1 s1=>.reg 0 (.ln 2312 Zai.row a (.use 2 2312 (.sel 2262 (.reg 0 (.ix 2306 Zai.row a (i1:Int) fun e1=>.ix 2308 Zai.row b (i1:Int) fun e2=>.call 2310 (zfJ e1 e2) fun r1=>.us [(2,2306),(6,2308),(8,2310)] (.ite 2304 r1 (.sel 2305 (.ret (.inl ()))) (.sel 2305 (.ret (.inr ())))))))))) fun os1=>.case os1 (fun s1=>.reg 0 (.ln 2314 Zai.row a (.use 2 2314 (.sel 2262 (.ret true))))) fun y1=>.ret false)) (.sel 2261 (.ret false)))))))
theorem zbG (a:List Zai) (b:List Zai) (res:Bool) (hd:vA a b=some res):APure C0 317 [.slice (List.map Zai.row a),.slice (List.map Zai.row b)] (.bool res):=
  Zad.pure (iv:=fun res=>.bool res) (zhn a b) (by kernel_rfl) (Zad.run_of hd (by kernel_rfl))
noncomputable def zar (c:Zab) (s:Zac) (act:Int):Option Int:=
  (Option.bind (Option.bind (xc c s) fun r1=>(bif r1 then (bif decide (act < 0) then some true else some (decide ((c.Zaj.length:Int)≤act))) else some true)) fun v1=>(bif v1 then some (-2) else (Option.bind (kj c s act) fun r2=>some r2)))
noncomputable def zi1 (c:Zab) (s:Zac) (act:Int):Zad Int:=
  .cut (β:=Bool) 3 (.e [2,3,4] (fun v1=>[(21,vB v1)]) [0,1] 18) (.reg 0 (.call 2356 (ki c s) fun r1=>.ite 2350 r1 (.ite 2352 (decide (act < 0)) (.us [(2,2356),(5,2351),(9,2352)] (.ret true)) (.us [(2,2356),(5,2351),(9,2352)] (.ln 2358 Zar.row c.Zaj (.use 12 2358 (.ret (decide ((c.Zaj.length:Int)≤act))))))) (.us [(2,2356),(5,2351)] (.f1 2360 (.g true) (rfl:true=true) (.use 9 2360 (.ret true)))))) fun v1=>.ite 2354 v1 (.sel 2354 (.ret (-2))) (.sel 2354 (.reg 0 (.call 2362 (zee c s act) fun r2=>.use 3 2362 (.ret r2))))
theorem zi2 (c:Zab) (s:Zac) (act:Int) (res:Int) (hd:zar c s act=some res):APure C0 98 [.agg (Zab.row c),.agg (Zac.row s),.int .i64 act] (.int .i64 res):=
  Zad.pure (iv:=fun res=>.int .i64 res) (zi1 c s act) (by kernel_rfl) (Zad.run_of hd (by kernel_rfl))
noncomputable def kn (c:Zab) (s:Zac) (Zaa:Int):Option Bool:=
  (Option.bind (bif decide (Zaa < 0) then some true else (bif decide (c.Zao≤Zaa) then some true else (Option.bind (xc c s) fun r1=>some (!r1)))) fun v1=>(bif v1 then some false else (Option.bind (forR (σ:=Unit) (ρ:=Unit) (s.Zal.length:Int) (fun i1 s1=>(Option.bind (ze s.Zal (i1:Int)) fun e1=>(Option.bind (Option.bind (ze c.Zaf (i1:Int)) fun e2=>(bif e2.final then (bif (e1.Zam == 4) then some (e1.Zau == Zaa) else some false) else some false)) fun v2=>(bif v2 then some (.inr ()) else some (.inl ()))))) ()) (Sum.elim (fun (s1:Unit)=>some false) (fun (y1:Unit)=>some true)))))
noncomputable def zfK (c:Zab) (s:Zac) (Zaa:Int):Zad Bool:=
  .cut (β:=Bool) 3 (.e [2,3,4] (fun v1=>[(22,vB v1)]) [0,1] 17) (.reg 0 (.ite 2370 (decide (Zaa < 0)) (.use 3 2370 (.f1 2384 (.g true) (rfl:true=true) (.use 9 2384 (.ret true)))) (.ite 2372 (decide (c.Zao≤Zaa)) (.us [(3,2370),(9,2372)] (.ret true)) (.call 2386 (ki c s) fun r1=>.us [(3,2370),(9,2372),(11,2386)] (.ret (!r1)))))) fun v1=>.ite 2374 v1 (.sel 2374 (.ret false)) (.sel 2374 (.reg 0 (.ln 2394 zw.row s.Zal (.use 2 2394 (.forR (σ:=Unit) (ρ:=Unit) 2376 26 (s.Zal.length:Int) () (.e [2,3,24,25] (fun _=>[]) [0] 21) (fun i1 s1=>.sel 2376 (.reg 0 (.ix 2388 zw.row s.Zal (i1:Int) fun e1=>.use 1 2388 (.cut (β:=Bool) 1 (.e [2,3,24,25,26] (fun v2=>[(47,vB v2)]) [0,25] 45) (.reg 0 (.ix 2390 Zan.row c.Zaf (i1:Int) fun e2=>.ite 2378 e2.final (.ite 2380 (e1.Zam == 4) (.us [(3,2390),(7,2378),(12,2380)] (.ret (e1.Zau == Zaa))) (.us [(3,2390),(7,2378),(12,2380)] (.ret false))) (.us [(3,2390),(7,2378)] (.f1 2392 (.g false) (rfl:false=false) (.use 12 2392 (.ret false)))))) fun v2=>.ite 2382 v2 (.sel 2382 (.ret (.inr ()))) (.sel 2382 (.ret (.inl ()))))))) fun os1=>.case os1 (fun s1=>.sel 2376 (.ret false)) fun y1=>.ret true)))))
theorem zas (c:Zab) (s:Zac) (Zaa:Int) (res:Bool) (hd:kn c s Zaa=some res):APure C0 141 [.agg (Zab.row c),.agg (Zac.row s),.int .i64 Zaa] (.bool res):=
  Zad.pure (iv:=fun res=>.bool res) (zfK c s Zaa) (by kernel_rfl) (Zad.run_of hd (by kernel_rfl))
noncomputable def Qd (c:Zab) (s:Zac) (f:Zai):Option Bool:=
  (Option.bind (forR (σ:=Int×(List Int)×(List Bool)×(List zw)) (ρ:=Unit) (f.ZaA.length:Int) (fun i1 s1=>(Option.bind (ze f.ZaA (i1:Int)) fun e1=>(Option.bind (bif (e1 == (-1)) then some false else (Option.bind (zar c ({day:=s1.1,Zag:=s1.2.1,used:=s1.2.2.1,Zal:=s1.2.2.2}:Zac) e1) fun r1=>some (r1 == f.Zaa))) fun v1=>(bif v1 then some (.inr ()) else (Option.bind (d_Step c ({day:=s1.1,Zag:=s1.2.1,used:=s1.2.2.1,Zal:=s1.2.2.2}:Zac) e1) fun r2=>(bif (r2.2 == 0) then (Option.bind (bif ((i1:Int) == (IntKind.i64.wrap ((f.ZaA.length:Int) - 1))) then (Option.bind (kn c ({day:=s1.1,Zag:=s1.2.1,used:=s1.2.2.1,Zal:=s1.2.2.2}:Zac) f.Zaa) fun r3=>some r3) else some false) fun v2=>(bif v2 then some (.inr ()) else some (.inl (r2.1.day,r2.1.Zag,r2.1.used,r2.1.Zal)))) else some (.inr ()))))))) (s.day,s.Zag,s.used,s.Zal)) (Sum.elim (fun (s1:Int×(List Int)×(List Bool)×(List zw))=>(Option.bind (kn c ({day:=s1.1,Zag:=s1.2.1,used:=s1.2.2.1,Zal:=s1.2.2.2}:Zac) f.Zaa) fun r4=>some r4)) (fun (y1:Unit)=>some false)))
noncomputable def zfL (c:Zab) (s:Zac) (f:Zai):Zad Bool:=
  .reg 1 (.ln 2422 zc f.ZaA (.use 2 2422 (.forR (σ:=Int×(List Int)×(List Bool)×(List zw)) (ρ:=Unit) 2346 14 (f.ZaA.length:Int) (s.day,s.Zag,s.used,s.Zal) (.k [3,4,5,12,13] (fun _=>[]) [0,2] (fun s1=>[(1,.rows 4 [[vI s1.1,.imm (.slice (List.map zc s1.2.1)),.imm (.slice (List.map zh s1.2.2.1)),.imm (.slice (List.map zw.row s1.2.2.2))]])]) 8 fun _=>(.exp rfl rfl .nil)) (fun i1 s1=>.sel 2346 (.reg 0 (.ix 2408 zc f.ZaA (i1:Int) fun e1=>.use 1 2408 (.cut (β:=Bool) 2 (.e [3,4,5,12,13,14,7,8] (fun v1=>[(29,vB v1)]) [0,1,2] 25) (.reg 0 (.ite 2398 (e1 == (-1)) (.use 3 2399 (.ret false)) (.call 2410 (zi2 c ({day:=s1.1,Zag:=s1.2.1,used:=s1.2.2.1,Zal:=s1.2.2.2}:Zac) e1) fun r1=>.us [(3,2399),(6,2410)] (.ret (r1 == f.Zaa))))) fun v1=>.ite 2400 v1 (.sel 2400 (.ret (.inr ()))) (.sel 2400 (.reg 0 (.call 2412 (kl c ({day:=s1.1,Zag:=s1.2.1,used:=s1.2.2.1,Zal:=s1.2.2.2}:Zac) e1) fun r2=>.use 3 2412 (.ite 2402 (r2.2 == 0) (.sel 2403 (.cut (β:=Bool) 2 (.e [3,4,5,12,13,14,9] (fun v2=>[(51,vB v2)]) [0,1,2,32] 50) (.reg 0 (.ite 2404 ((i1:Int) == (IntKind.i64.wrap ((f.ZaA.length:Int) - 1))) (.call 2414 (zas c ({day:=s1.1,Zag:=s1.2.1,used:=s1.2.2.1,Zal:=s1.2.2.2}:Zac) f.Zaa) fun r3=>.ln 2416 zc f.ZaA (.us [(3,2416),(7,2404),(11,2414)] (.ret r3))) (.ln 2418 zc f.ZaA (.us [(3,2418),(7,2404)] (.ret false))))) fun v2=>.ite 2406 v2 (.sel 2406 (.ret (.inr ()))) (.sel 2406 (.ret (.inl (r2.1.day,r2.1.Zag,r2.1.used,r2.1.Zal)))))) (.sel 2403 (.ret (.inr ()))))))))))) fun os1=>.case os1 (fun s1=>.sel 2346 (.reg 0 (.call 2420 (zas c ({day:=s1.1,Zag:=s1.2.1,used:=s1.2.2.1,Zal:=s1.2.2.2}:Zac) f.Zaa) fun r4=>.use 4 2420 (.ret r4)))) fun y1=>.ret false)))
theorem zfM (c:Zab) (s:Zac) (f:Zai) (res:Bool) (hd:Qd c s f=some res):APure C0 324 [.agg (Zab.row c),.agg (Zac.row s),.agg (Zai.row f)] (.bool res):=
  Zad.pure (iv:=fun res=>.bool res) (zfL c s f) (by kernel_rfl) (Zad.run_of hd (by kernel_rfl))
noncomputable def WK (c:Zab) (a:ZaF):Option (List Bool):=
  (Option.bind (vv c a) fun r1=>(Option.bind (mkN 1 (r1.length:Int)) fun k1=>(Option.bind (forR (σ:=(List Bool)) (ρ:=Unit) (r1.length:Int) (fun i1 s1=>(Option.bind (ze r1 (i1:Int)) fun e1=>(Option.bind (zk k1 (i1:Int)) fun k2=>(Option.bind (s1[k2]?) fun e2=>some (.inl (s1.set k2 (e1 == (-1)))))))) (List.replicate k1 false)) (Sum.elim (fun (s1:(List Bool))=>(Option.bind (eqN k1 s1.length) fun g1=>some s1)) (fun _=>none)))))
noncomputable def zi3 (c:Zab) (a:ZaF):Zad (List Bool):=
  .reg 1 (.call 2430 (zbE c a) fun r1=>.use 2 2430 (.reg 0 (.b1 2432 (mkN 1 (r1.length:Int)) (fun k1=>.m k1 (zb zh (List.replicate k1 false))) (fun k1 hk1=>(xD zh false hk1)) fun k1=>.ln 2442 zc r1 (.us [(1,2442),(2,2432)] (.reg 0 (.ln 2440 zc r1 (.use 1 2440 (.forR (σ:=(List Bool)) (ρ:=Unit) 2428 17 (r1.length:Int) (List.replicate k1 false) (.k [6,15,16] (fun _=>[]) [] (fun s1=>[(9,.rows 1 (zb zh s1))]) 14 fun _=>(.rows rfl .nil)) (fun i1 s1=>.sel 2428 (.reg 0 (.ix 2434 zc r1 (i1:Int) fun e1=>.use 1 2434 (.reg 0 (.b1 2436 (zk k1 (i1:Int)) (fun k2=>.k k2) (fun k2 hk2=>(zs hk2)) fun k2=>.b1 2438 (s1[k2]?) (fun e2=>.aw (zz (zh e2)) (zb zh (s1.set k2 (e1 == (-1))))) (fun e2 he2=>(zZ zh (e1 == (-1)) he2)) fun e2=>.us [(4,2436),(5,2438)] (.ret (.inl (s1.set k2 (e1 == (-1)))))))))) fun os1=>.case os1 (fun s1=>.sel 2428 (.bind (eqN k1 s1.length) (fun _=>[]) (fun _ _=>.nil) fun g2=>.fin [9] (.Zak 9 0 k1) [(9,.rows 1 (zb zh s1))] (.slice (List.map zh s1)) (jr _ _ _ (zD (xv zh 9 1 k1 s1 g2.down rfl) jH)) s1)) fun _=>.none))))))))
theorem zi4 (c:Zab) (a:ZaF) (res:List Bool) (hd:WK c a=some res):APure C0 138 [.agg (Zab.row c),.agg (ZaF.row a)] (.slice (List.map zh res)):=
  Zad.pure (iv:=fun res=>.slice (List.map zh res)) (zi3 c a) (by kernel_rfl) (Zad.run_of hd (by kernel_rfl))
noncomputable def Qe (c:Zab) (Zaa:Int):Option Bool:=
  (Option.bind (jt c Zaa) fun r1=>(Option.bind (bif (r1.2 == 0) then (Option.bind (WK c r1.1) fun r2=>(Option.bind (ze r2 0) fun e1=>some (!e1))) else some false) fun v1=>some v1))
noncomputable def zfN (c:Zab) (Zaa:Int):Zad Bool:=
  .reg 1 (.call 2444 (zbD c Zaa) fun r1=>.use 2 2444 (.cut (β:=Bool) 1 (.e [] (fun v1=>[(4,vB v1)]) [0,8] 22) (.reg 0 (.ite 2426 (r1.2 == 0) (.call 2446 (zi4 c r1.1) fun r2=>.ix 2448 zh r2 0 fun e1=>.us [(3,2426),(5,2446),(6,2448)] (.ret (!e1))) (.use 3 2426 (.ret false)))) fun v1=>.ret v1))
theorem zfO (c:Zab) (Zaa:Int) (res:Bool) (hd:Qe c Zaa=some res):APure C0 323 [.agg (Zab.row c),.int .i64 Zaa] (.bool res):=
  Zad.pure (iv:=fun res=>.bool res) (zfN c Zaa) (by kernel_rfl) (Zad.run_of hd (by kernel_rfl))
noncomputable def JL (c:Zab) (f:Zai):Option Bool:=
  (Option.bind (jS c) fun r1=>(bif (r1.2 == 0) then (bif (f.kind == 2) then (Option.bind (yt r1.1 f.clause) fun r2=>some r2) else (Option.bind (Option.bind (yt r1.1 f.clause) fun r3=>(bif r3 then some false else (Option.bind (vw c r1.1 f.clause) fun r4=>some r4))) fun v1=>some v1)) else some false))
noncomputable def zho (c:Zab) (f:Zai):Zad Bool:=
  .reg 1 (.call 2466 (Vu c) fun r1=>.use 1 2466 (.ite 2460 (r1.2 == 0) (.sel 2461 (.ite 2462 (f.kind == 2) (.sel 2462 (.reg 0 (.call 2468 (zan r1.1 f.clause) fun r2=>.use 3 2468 (.ret r2)))) (.sel 2462 (.cut (β:=Bool) 1 (.e [] (fun v1=>[(4,vB v1)]) [0,1] 28) (.reg 0 (.call 2470 (zan r1.1 f.clause) fun r3=>.ite 2464 r3 (.us [(3,2470),(6,2465)] (.ret false)) (.call 2472 (zao c r1.1 f.clause) fun r4=>.us [(3,2470),(6,2465),(10,2472)] (.ret r4)))) fun v1=>.ret v1)))) (.sel 2461 (.ret false))))
theorem zhp (c:Zab) (f:Zai) (res:Bool) (hd:JL c f=some res):APure C0 325 [.agg (Zab.row c),.agg (Zai.row f)] (.bool res):=
  Zad.pure (iv:=fun res=>.bool res) (zho c f) (by kernel_rfl) (Zad.run_of hd (by kernel_rfl))
noncomputable def qG (c:Zab) (f:Zai):Option Bool:=
  (Option.bind (qA c) fun r1=>(bif (r1.2 == 0) then (Option.bind (bif decide (0≤f.clause) then (bif decide (f.clause < (c.Zaf.length:Int)) then some (f.Zaa == (-1)) else some false) else some false) fun v1=>(bif (f.kind == 1) then (Option.bind (bif decide (0≤f.Zaa) then (bif decide (f.Zaa < c.Zao) then (bif (f.clause == (-1)) then (bif (f.other == (-1)) then (Option.bind (Qd c r1.1 f) fun r2=>(bif r2 then (Option.bind (Qe c f.Zaa) fun r3=>some r3) else some false)) else some false) else some false) else some false) else some false) fun v2=>some v2) else (Option.bind (bif (f.kind == 2) then some (f.kind == 2) else some (f.kind == 3)) fun (v3:Bool)=>(bif v3 then (Option.bind (bif v1 then (bif (f.other == (-1)) then (bif ((f.ZaA.length:Int) == 0) then (Option.bind (JL c f) fun r4=>some r4) else some false) else some false) else some false) fun v4=>some v4) else (bif (f.kind == 4) then (Option.bind (bif v1 then (bif decide (f.other < 0) then some true else (bif decide ((c.Zaf.length:Int)≤f.other) then some true else (Option.bind (xI c f.clause f.other) fun r5=>some (!r5)))) else some true) fun v5=>(bif v5 then some false else (Option.bind (forR (σ:=Int×(List Int)×(List Bool)×(List zw)) (ρ:=Unit) (f.ZaA.length:Int) (fun i1 s1=>(Option.bind (ze f.ZaA (i1:Int)) fun e1=>(Option.bind (d_Step c ({day:=s1.1,Zag:=s1.2.1,used:=s1.2.2.1,Zal:=s1.2.2.2}:Zac) e1) fun r6=>(bif (r6.2 == 0) then some (.inl (r6.1.day,r6.1.Zag,r6.1.used,r6.1.Zal)) else some (.inr ()))))) (r1.1.day,r1.1.Zag,r1.1.used,r1.1.Zal)) (Sum.elim (fun (s1:Int×(List Int)×(List Bool)×(List zw))=>(Option.bind (vz c ({day:=s1.1,Zag:=s1.2.1,used:=s1.2.2.1,Zal:=s1.2.2.2}:Zac) f.clause f.other) fun r7=>some r7)) (fun (y1:Unit)=>some false))))) else some false))))) else some false))
noncomputable def zhq (c:Zab) (f:Zai):Zad Bool:=
  .reg 1 (.call 2490 (JK c) fun r1=>.use 1 2490 (.ite 2330 (r1.2 == 0) (.sel 2331 (.cut (β:=Bool) 1 (.e [2,3,5] (fun v1=>[(7,vB v1)]) [0,1,8] 30) (.reg 0 (.ite 2332 (decide (0≤f.clause)) (.ite 2334 (decide (f.clause < (c.Zaf.length:Int))) (.use 4 2332 (.ln 2492 Zan.row c.Zaf (.us [(8,2492),(12,2334)] (.ret (f.Zaa == (-1)))))) (.use 4 2332 (.ln 2494 Zan.row c.Zaf (.us [(8,2494),(12,2334)] (.ret false))))) (.use 4 2332 (.f1 2496 (.g false) (rfl:false=false) (.use 12 2496 (.ret false)))))) fun v1=>.ite 2336 (f.kind == 1) (.sel 2336 (.cut (β:=Bool) 1 (.e [] (fun v2=>[(4,vB v2)]) [0,1,8] 67) (.reg 0 (.ite 2338 (decide (0≤f.Zaa)) (.ite 2340 (decide (f.Zaa < c.Zao)) (.ite 2342 (f.clause == (-1)) (.ite 2344 (f.other == (-1)) (.call 2498 (zfM c r1.1 f) fun r2=>.ite 2424 r2 (.call 2500 (zfO c f.Zaa) fun r3=>.us [(4,2338),(11,2340),(16,2342),(21,2344),(24,2498),(27,2424),(30,2500)] (.ret r3)) (.us [(4,2338),(11,2340),(16,2342),(21,2344),(24,2498),(27,2424)] (.ret false))) (.us [(4,2338),(11,2340),(16,2342),(21,2344)] (.f1 2502 (.g false) (rfl:false=false) (.use 27 2502 (.ret false))))) (.us [(4,2338),(11,2340),(16,2342)] (.f1 2506 (.g false) (rfl:false=false) (.use 21 2506 (.f1 2504 (.g false) (rfl:false=false) (.use 27 2504 (.ret false))))))) (.us [(4,2338),(11,2340)] (.f1 2512 (.g false) (rfl:false=false) (.use 16 2512 (.f1 2510 (.g false) (rfl:false=false) (.use 21 2510 (.f1 2508 (.g false) (rfl:false=false) (.use 27 2508 (.ret false))))))))) (.use 4 2338 (.f1 2520 (.g false) (rfl:false=false) (.use 11 2520 (.f1 2518 (.g false) (rfl:false=false) (.use 16 2518 (.f1 2516 (.g false) (rfl:false=false) (.use 21 2516 (.f1 2514 (.g false) (rfl:false=false) (.use 27 2514 (.ret false)))))))))))) fun v2=>.ret v2)) (.sel 2336 (.cut (β:=Bool) 1 (.e [2,3,5,7,35] (fun v3=>[(70,vB v3)]) [0,1,8] 36) (.ite 2450 (f.kind == 2) (.sel 2450 (.ret (f.kind == 2))) (.sel 2450 (.ret (f.kind == 3)))) fun v3=>.ite 2452 v3 (.sel 2452 (.cut (β:=Bool) 1 (.e [] (fun v4=>[(4,vB v4)]) [0,1,8] 54) (.reg 0 (.ite 2454 v1 (.ite 2456 (f.other == (-1)) (.ite 2458 ((f.ZaA.length:Int) == 0) (.call 2522 (zhp c f) fun r4=>.us [(2,2454),(7,2456)] (.ln 2524 zc f.ZaA (.us [(9,2524),(13,2458),(15,2522)] (.ret r4)))) (.us [(2,2454),(7,2456)] (.ln 2526 zc f.ZaA (.us [(9,2526),(13,2458)] (.ret false))))) (.us [(2,2454),(7,2456)] (.f1 2528 (.g false) (rfl:false=false) (.use 13 2528 (.ret false))))) (.use 2 2454 (.f1 2532 (.g false) (rfl:false=false) (.use 7 2532 (.f1 2530 (.g false) (rfl:false=false) (.use 13 2530 (.ret false)))))))) fun v4=>.ret v4)) (.sel 2452 (.ite 2474 (f.kind == 4) (.sel 2474 (.cut (β:=Bool) 2 (.e [2,3,5] (fun v5=>[(115,vB v5)]) [0,1,8] 62) (.reg 0 (.ite 2476 v1 (.ite 2478 (decide (f.other < 0)) (.us [(3,2477),(8,2478)] (.f1 2534 (.g true) (rfl:true=true) (.use 16 2534 (.ret true)))) (.ite 2480 (decide ((c.Zaf.length:Int)≤f.other)) (.us [(3,2477),(8,2478)] (.ln 2536 Zan.row c.Zaf (.us [(12,2536),(16,2480)] (.ret true)))) (.call 2538 (Yk c f.clause f.other) fun r5=>.us [(3,2477),(8,2478)] (.ln 2540 Zan.row c.Zaf (.us [(12,2540),(16,2480),(21,2538)] (.ret (!r5))))))) (.use 3 2477 (.f1 2544 (.g true) (rfl:true=true) (.use 8 2544 (.f1 2542 (.g true) (rfl:true=true) (.use 16 2542 (.ret true)))))))) fun v5=>.ite 2482 v5 (.sel 2482 (.ret false)) (.sel 2482 (.reg 1 (.ln 2552 zc f.ZaA (.use 2 2552 (.forR (σ:=Int×(List Int)×(List Bool)×(List zw)) (ρ:=Unit) 2484 120 (f.ZaA.length:Int) (r1.1.day,r1.1.Zag,r1.1.used,r1.1.Zal) (.k [2,3,8,118,119] (fun _=>[]) [0,1] (fun s1=>[(63,.rows 4 [[vI s1.1,.imm (.slice (List.map zc s1.2.1)),.imm (.slice (List.map zh s1.2.2.1)),.imm (.slice (List.map zw.row s1.2.2.2))]])]) 69 fun _=>(.exp rfl rfl .nil)) (fun i1 s1=>.sel 2484 (.reg 0 (.ix 2546 zc f.ZaA (i1:Int) fun e1=>.use 0 2546 (.reg 0 (.call 2548 (kl c ({day:=s1.1,Zag:=s1.2.1,used:=s1.2.2.1,Zal:=s1.2.2.2}:Zac) e1) fun r6=>.use 3 2548 (.ite 2488 (r6.2 == 0) (.sel 2489 (.ret (.inl (r6.1.day,r6.1.Zag,r6.1.used,r6.1.Zal)))) (.sel 2489 (.ret (.inr ()))))))))) fun os1=>.case os1 (fun s1=>.sel 2484 (.reg 0 (.call 2550 (zbF c ({day:=s1.1,Zag:=s1.2.1,used:=s1.2.2.1,Zal:=s1.2.2.2}:Zac) f.clause f.other) fun r7=>.use 6 2550 (.ret r7)))) fun y1=>.ret false))))))) (.sel 2474 (.ret false)))))))) (.sel 2331 (.ret false))))
theorem yO (c:Zab) (f:Zai) (res:Bool) (hd:qG c f=some res):APure C0 322 [.agg (Zab.row c),.agg (Zai.row f)] (.bool res):=
  Zad.pure (iv:=fun res=>.bool res) (zhq c f) (by kernel_rfl) (Zad.run_of hd (by kernel_rfl))
noncomputable def ko  : Option Bool:=
  (Option.bind (xZ 3) fun r1=>(Option.bind (xZ 1) fun r2=>(Option.bind (xZ 3) fun r3=>(Option.bind (jT ({Zao:=1,Zag:=[0],Zav:=[],Zaj:=[({kind:=1,Zap:=0,give:=0,to:=(-1),unit:=(-1),lot:=({num:=0,den:=1}:Ratio)}:Zar)],Zaf:=[({kind:=1,Zap:=0,act:=0,need:=1,start:=[],after:=2,Zay:=0,ZaE:=false,final:=true,pause:=(-1),ZaC:=(-1),value:=({num:=0,den:=1}:Ratio),unit:=(-1),to:=(-1),Zaz:=false}:Zan),({kind:=2,Zap:=0,act:=0,need:=1,start:=[],after:=3,Zay:=0,ZaE:=false,final:=true,pause:=(-1),ZaC:=(-1),value:=({num:=0,den:=1}:Ratio),unit:=(-1),to:=(-1),Zaz:=false}:Zan)],Zat:=5,off:=[]}:Zab)) fun r4=>(Option.bind (jT ({Zao:=1,Zag:=[0],Zav:=[],Zaj:=[({kind:=1,Zap:=0,give:=0,to:=(-1),unit:=(-1),lot:=({num:=0,den:=1}:Ratio)}:Zar)],Zaf:=[({kind:=1,Zap:=0,act:=0,need:=1,start:=[],after:=2,Zay:=0,ZaE:=false,final:=true,pause:=(-1),ZaC:=(-1),value:=({num:=0,den:=1}:Ratio),unit:=(-1),to:=(-1),Zaz:=false}:Zan),({kind:=2,Zap:=0,act:=0,need:=1,start:=[],after:=1,Zay:=0,ZaE:=false,final:=true,pause:=(-1),ZaC:=(-1),value:=({num:=0,den:=1}:Ratio),unit:=(-1),to:=(-1),Zaz:=false}:Zan)],Zat:=5,off:=[]}:Zab)) fun r5=>(Option.bind (jT ({Zao:=1,Zag:=[0],Zav:=[],Zaj:=[({kind:=1,Zap:=0,give:=0,to:=(-1),unit:=(-1),lot:=({num:=0,den:=1}:Ratio)}:Zar)],Zaf:=[({kind:=1,Zap:=0,act:=0,need:=1,start:=[],after:=2,Zay:=0,ZaE:=false,final:=true,pause:=(-1),ZaC:=(-1),value:=({num:=0,den:=1}:Ratio),unit:=(-1),to:=(-1),Zaz:=false}:Zan),({kind:=2,Zap:=0,act:=0,need:=1,start:=[({clause:=0,is:=4}:CondT)],after:=3,Zay:=0,ZaE:=false,final:=true,pause:=(-1),ZaC:=(-1),value:=({num:=0,den:=1}:Ratio),unit:=(-1),to:=(-1),Zaz:=false}:Zan)],Zat:=5,off:=[]}:Zab)) fun r6=>(Option.bind (bif (r4.2 == 0) then (Option.bind (vA r4.1 ([({kind:=1,Zaa:=0,clause:=(-1),other:=(-1),ZaA:=[(-1),(-1)]}:Zai),({kind:=4,Zaa:=(-1),clause:=0,other:=1,ZaA:=[]}:Zai)])) fun r7=>(bif r7 then (bif (r5.2 == 0) then (bif ((r5.1.length:Int) == 0) then (bif (r6.2 == 0) then (Option.bind (vA r6.1 ([({kind:=2,Zaa:=(-1),clause:=1,other:=(-1),ZaA:=[]}:Zai)])) fun r8=>some r8) else some false) else some false) else some false) else some false)) else some false) fun v1=>(Option.bind (bif v1 then (Option.bind (qG ({Zao:=1,Zag:=[0],Zav:=[],Zaj:=[({kind:=1,Zap:=0,give:=0,to:=(-1),unit:=(-1),lot:=({num:=0,den:=1}:Ratio)}:Zar)],Zaf:=[({kind:=1,Zap:=0,act:=0,need:=1,start:=[],after:=2,Zay:=0,ZaE:=false,final:=true,pause:=(-1),ZaC:=(-1),value:=({num:=0,den:=1}:Ratio),unit:=(-1),to:=(-1),Zaz:=false}:Zan),({kind:=2,Zap:=0,act:=0,need:=1,start:=[],after:=3,Zay:=0,ZaE:=false,final:=true,pause:=(-1),ZaC:=(-1),value:=({num:=0,den:=1}:Ratio),unit:=(-1),to:=(-1),Zaz:=false}:Zan)],Zat:=5,off:=[]}:Zab) ({kind:=1,Zaa:=0,clause:=(-1),other:=(-1),ZaA:=[(-1),(-1)]}:Zai)) fun r9=>(bif r9 then (Option.bind (qG ({Zao:=1,Zag:=[0],Zav:=[],Zaj:=[({kind:=1,Zap:=0,give:=0,to:=(-1),unit:=(-1),lot:=({num:=0,den:=1}:Ratio)}:Zar)],Zaf:=[({kind:=1,Zap:=0,act:=0,need:=1,start:=[],after:=2,Zay:=0,ZaE:=false,final:=true,pause:=(-1),ZaC:=(-1),value:=({num:=0,den:=1}:Ratio),unit:=(-1),to:=(-1),Zaz:=false}:Zan),({kind:=2,Zap:=0,act:=0,need:=1,start:=[],after:=3,Zay:=0,ZaE:=false,final:=true,pause:=(-1),ZaC:=(-1),value:=({num:=0,den:=1}:Ratio),unit:=(-1),to:=(-1),Zaz:=false}:Zan)],Zat:=5,off:=[]}:Zab) ({kind:=4,Zaa:=(-1),clause:=0,other:=1,ZaA:=[]}:Zai)) fun r10=>(bif r10 then (Option.bind (qG ({Zao:=1,Zag:=[0],Zav:=[],Zaj:=[({kind:=1,Zap:=0,give:=0,to:=(-1),unit:=(-1),lot:=({num:=0,den:=1}:Ratio)}:Zar)],Zaf:=[({kind:=1,Zap:=0,act:=0,need:=1,start:=[],after:=2,Zay:=0,ZaE:=false,final:=true,pause:=(-1),ZaC:=(-1),value:=({num:=0,den:=1}:Ratio),unit:=(-1),to:=(-1),Zaz:=false}:Zan),({kind:=2,Zap:=0,act:=0,need:=1,start:=[({clause:=0,is:=4}:CondT)],after:=3,Zay:=0,ZaE:=false,final:=true,pause:=(-1),ZaC:=(-1),value:=({num:=0,den:=1}:Ratio),unit:=(-1),to:=(-1),Zaz:=false}:Zan)],Zat:=5,off:=[]}:Zab) ({kind:=2,Zaa:=(-1),clause:=1,other:=(-1),ZaA:=[]}:Zai)) fun r11=>(bif r11 then (Option.bind (qG ({Zao:=1,Zag:=[0],Zav:=[],Zaj:=[({kind:=1,Zap:=0,give:=0,to:=(-1),unit:=(-1),lot:=({num:=0,den:=1}:Ratio)}:Zar)],Zaf:=[({kind:=1,Zap:=0,act:=0,need:=1,start:=[],after:=2,Zay:=0,ZaE:=false,final:=true,pause:=(-1),ZaC:=(-1),value:=({num:=0,den:=1}:Ratio),unit:=(-1),to:=(-1),Zaz:=false}:Zan),({kind:=2,Zap:=0,act:=0,need:=1,start:=[],after:=1,Zay:=0,ZaE:=false,final:=true,pause:=(-1),ZaC:=(-1),value:=({num:=0,den:=1}:Ratio),unit:=(-1),to:=(-1),Zaz:=false}:Zan)],Zat:=5,off:=[]}:Zab) ({kind:=1,Zaa:=0,clause:=(-1),other:=(-1),ZaA:=[(-1),(-1)]}:Zai)) fun r12=>(bif r12 then some false else (Option.bind (qG ({Zao:=1,Zag:=[0],Zav:=[],Zaj:=[({kind:=1,Zap:=0,give:=0,to:=(-1),unit:=(-1),lot:=({num:=0,den:=1}:Ratio)}:Zar)],Zaf:=[({kind:=1,Zap:=0,act:=0,need:=1,start:=[],after:=2,Zay:=0,ZaE:=false,final:=true,pause:=(-1),ZaC:=(-1),value:=({num:=0,den:=1}:Ratio),unit:=(-1),to:=(-1),Zaz:=false}:Zan),({kind:=2,Zap:=0,act:=0,need:=1,start:=[],after:=1,Zay:=0,ZaE:=false,final:=true,pause:=(-1),ZaC:=(-1),value:=({num:=0,den:=1}:Ratio),unit:=(-1),to:=(-1),Zaz:=false}:Zan)],Zat:=5,off:=[]}:Zab) ({kind:=4,Zaa:=(-1),clause:=0,other:=1,ZaA:=[]}:Zai)) fun r13=>(bif r13 then some false else (Option.bind (qG ({Zao:=1,Zag:=[0],Zav:=[],Zaj:=[({kind:=1,Zap:=0,give:=0,to:=(-1),unit:=(-1),lot:=({num:=0,den:=1}:Ratio)}:Zar)],Zaf:=[({kind:=1,Zap:=0,act:=0,need:=1,start:=[],after:=2,Zay:=0,ZaE:=false,final:=true,pause:=(-1),ZaC:=(-1),value:=({num:=0,den:=1}:Ratio),unit:=(-1),to:=(-1),Zaz:=false}:Zan),({kind:=2,Zap:=0,act:=0,need:=1,start:=[],after:=3,Zay:=0,ZaE:=false,final:=true,pause:=(-1),ZaC:=(-1),value:=({num:=0,den:=1}:Ratio),unit:=(-1),to:=(-1),Zaz:=false}:Zan)],Zat:=5,off:=[]}:Zab) ({kind:=2,Zaa:=(-1),clause:=1,other:=(-1),ZaA:=[]}:Zai)) fun r14=>some (!r14)))))) else some false)) else some false)) else some false)) else some false) fun v2=>some v2))))))))
noncomputable def zfP  : Zad Bool:=
  .reg 1 (.b1 2564 (xZ 3) (fun r1=>.c [] 0 (.agg [vI 1,.Zak 21 0 1,.nil,.Zak 23 0 1,.Zak 26 0 2,vI 5,.nil]) [(21,.rows 1 [[vI 0]]),(23,.rows 7 [[vI 1,vI 0,vI 0,vI (-1),vI (-1),vI 0,vI 1]]),(26,.rows 16 [[vI 1,vI 0,vI 0,vI 1,.nil,vI 2,vI 0,vB false,vB true,vI (-1),vI (-1),vI 0,vI 1,vI (-1),vI (-1),vB false],[vI 2,vI 0,vI 0,vI 1,.nil,vI 3,vI 0,vB false,vB true,vI (-1),vI (-1),vI 0,vI 1,vI (-1),vI (-1),vB false]])] 26) (fun r1 hr1=>(zi (zah 3 r1 hr1) [] 1 (.keep (.keep (.keep .nil))) rhN (rhR (rhR (rhR rhN))))) fun r1=>.b1 2566 (xZ 1) (fun r2=>.c [] 0 (.agg [vI 1,.Zak 48 0 1,.nil,.Zak 50 0 1,.Zak 53 0 2,vI 5,.nil]) [(48,.rows 1 [[vI 0]]),(50,.rows 7 [[vI 1,vI 0,vI 0,vI (-1),vI (-1),vI 0,vI 1]]),(53,.rows 16 [[vI 1,vI 0,vI 0,vI 1,.nil,vI 2,vI 0,vB false,vB true,vI (-1),vI (-1),vI 0,vI 1,vI (-1),vI (-1),vB false],[vI 2,vI 0,vI 0,vI 1,.nil,vI 1,vI 0,vB false,vB true,vI (-1),vI (-1),vI 0,vI 1,vI (-1),vI (-1),vB false]])] 26) (fun r2 hr2=>(zi (zah 1 r2 hr2) [] 28 (.keep (.keep (.keep .nil))) rhN (rhR (rhR (rhR rhN))))) fun r2=>.b1 2568 (xZ 3) (fun r3=>.c [] 0 (.agg [vI 1,.Zak 75 0 1,.nil,.Zak 77 0 1,.Zak 80 0 2,vI 5,.nil]) [(75,.rows 1 [[vI 0]]),(77,.rows 7 [[vI 1,vI 0,vI 0,vI (-1),vI (-1),vI 0,vI 1]]),(80,.rows 16 [[vI 1,vI 0,vI 0,vI 1,.nil,vI 2,vI 0,vB false,vB true,vI (-1),vI (-1),vI 0,vI 1,vI (-1),vI (-1),vB false],[vI 2,vI 0,vI 0,vI 1,.nil,vI 3,vI 0,vB false,vB true,vI (-1),vI (-1),vI 0,vI 1,vI (-1),vI (-1),vB false]])] 26) (fun r3 hr3=>(zi (zah 3 r3 hr3) [] 55 (.keep (.keep (.keep .nil))) rhN (rhR (rhR (rhR rhN))))) fun r3=>.us [(0,2564),(1,2566),(2,2568)] (.weak 2 [vU 21 1 [82] zc [0],vU 23 7 [82] Zar.row [({kind:=1,Zap:=0,give:=0,to:=(-1),unit:=(-1),lot:=({num:=0,den:=1}:Ratio)}:Zar)],zcq 26 16 [[vI 1,vI 0,vI 0,vI 1,.nil,vI 2,vI 0,vB false,vB true,vI (-1),vI (-1),vI 0,vI 1,vI (-1),vI (-1),vB false],[vI 2,vI 0,vI 0,vI 1,.nil,vI 3,vI 0,vB false,vB true,vI (-1),vI (-1),vI 0,vI 1,vI (-1),vI (-1),vB false]] [[vI 1,vI 0,vI 0,vI 1,.imm (.slice (List.map CondT.row [])),vI 2,vI 0,vB false,vB true,vI (-1),vI (-1),vI 0,vI 1,vI (-1),vI (-1),vB false],[vI 2,vI 0,vI 0,vI 1,.imm (.slice (List.map CondT.row [])),vI 3,vI 0,vB false,vB true,vI (-1),vI (-1),vI 0,vI 1,vI (-1),vI (-1),vB false]] (.cons (.cons (.refl _) (.cons (.refl _) (.cons (.refl _) (.cons (.refl _) (.cons .nil (.cons (.refl _) (.cons (.refl _) (.cons (.refl _) (.cons (.refl _) (.cons (.refl _) (.cons (.refl _) (.cons (.refl _) (.cons (.refl _) (.cons (.refl _) (.cons (.refl _) (.cons (.refl _) .nil)))))))))))))))) (.cons (.cons (.refl _) (.cons (.refl _) (.cons (.refl _) (.cons (.refl _) (.cons .nil (.cons (.refl _) (.cons (.refl _) (.cons (.refl _) (.cons (.refl _) (.cons (.refl _) (.cons (.refl _) (.cons (.refl _) (.cons (.refl _) (.cons (.refl _) (.cons (.refl _) (.cons (.refl _) .nil)))))))))))))))) .nil)),vU 26 16 [82] Zan.row ([({kind:=1,Zap:=0,act:=0,need:=1,start:=[],after:=2,Zay:=0,ZaE:=false,final:=true,pause:=(-1),ZaC:=(-1),value:=({num:=0,den:=1}:Ratio),unit:=(-1),to:=(-1),Zaz:=false}:Zan),({kind:=2,Zap:=0,act:=0,need:=1,start:=[],after:=3,Zay:=0,ZaE:=false,final:=true,pause:=(-1),ZaC:=(-1),value:=({num:=0,den:=1}:Ratio),unit:=(-1),to:=(-1),Zaz:=false}:Zan)])] (.reg 0 (.call 2570 (WJ ({Zao:=1,Zag:=[0],Zav:=[],Zaj:=[({kind:=1,Zap:=0,give:=0,to:=(-1),unit:=(-1),lot:=({num:=0,den:=1}:Ratio)}:Zar)],Zaf:=[({kind:=1,Zap:=0,act:=0,need:=1,start:=[],after:=2,Zay:=0,ZaE:=false,final:=true,pause:=(-1),ZaC:=(-1),value:=({num:=0,den:=1}:Ratio),unit:=(-1),to:=(-1),Zaz:=false}:Zan),({kind:=2,Zap:=0,act:=0,need:=1,start:=[],after:=3,Zay:=0,ZaE:=false,final:=true,pause:=(-1),ZaC:=(-1),value:=({num:=0,den:=1}:Ratio),unit:=(-1),to:=(-1),Zaz:=false}:Zan)],Zat:=5,off:=[]}:Zab)) fun r4=>.use 1 2570 (.weak 1 [vU 48 1 [83] zc [0],vU 50 7 [83] Zar.row [({kind:=1,Zap:=0,give:=0,to:=(-1),unit:=(-1),lot:=({num:=0,den:=1}:Ratio)}:Zar)],zcq 53 16 [[vI 1,vI 0,vI 0,vI 1,.nil,vI 2,vI 0,vB false,vB true,vI (-1),vI (-1),vI 0,vI 1,vI (-1),vI (-1),vB false],[vI 2,vI 0,vI 0,vI 1,.nil,vI 1,vI 0,vB false,vB true,vI (-1),vI (-1),vI 0,vI 1,vI (-1),vI (-1),vB false]] [[vI 1,vI 0,vI 0,vI 1,.imm (.slice (List.map CondT.row [])),vI 2,vI 0,vB false,vB true,vI (-1),vI (-1),vI 0,vI 1,vI (-1),vI (-1),vB false],[vI 2,vI 0,vI 0,vI 1,.imm (.slice (List.map CondT.row [])),vI 1,vI 0,vB false,vB true,vI (-1),vI (-1),vI 0,vI 1,vI (-1),vI (-1),vB false]] (.cons (.cons (.refl _) (.cons (.refl _) (.cons (.refl _) (.cons (.refl _) (.cons .nil (.cons (.refl _) (.cons (.refl _) (.cons (.refl _) (.cons (.refl _) (.cons (.refl _) (.cons (.refl _) (.cons (.refl _) (.cons (.refl _) (.cons (.refl _) (.cons (.refl _) (.cons (.refl _) .nil)))))))))))))))) (.cons (.cons (.refl _) (.cons (.refl _) (.cons (.refl _) (.cons (.refl _) (.cons .nil (.cons (.refl _) (.cons (.refl _) (.cons (.refl _) (.cons (.refl _) (.cons (.refl _) (.cons (.refl _) (.cons (.refl _) (.cons (.refl _) (.cons (.refl _) (.cons (.refl _) (.cons (.refl _) .nil)))))))))))))))) .nil)),vU 53 16 [83] Zan.row ([({kind:=1,Zap:=0,act:=0,need:=1,start:=[],after:=2,Zay:=0,ZaE:=false,final:=true,pause:=(-1),ZaC:=(-1),value:=({num:=0,den:=1}:Ratio),unit:=(-1),to:=(-1),Zaz:=false}:Zan),({kind:=2,Zap:=0,act:=0,need:=1,start:=[],after:=1,Zay:=0,ZaE:=false,final:=true,pause:=(-1),ZaC:=(-1),value:=({num:=0,den:=1}:Ratio),unit:=(-1),to:=(-1),Zaz:=false}:Zan)])] (.reg 0 (.call 2572 (WJ ({Zao:=1,Zag:=[0],Zav:=[],Zaj:=[({kind:=1,Zap:=0,give:=0,to:=(-1),unit:=(-1),lot:=({num:=0,den:=1}:Ratio)}:Zar)],Zaf:=[({kind:=1,Zap:=0,act:=0,need:=1,start:=[],after:=2,Zay:=0,ZaE:=false,final:=true,pause:=(-1),ZaC:=(-1),value:=({num:=0,den:=1}:Ratio),unit:=(-1),to:=(-1),Zaz:=false}:Zan),({kind:=2,Zap:=0,act:=0,need:=1,start:=[],after:=1,Zay:=0,ZaE:=false,final:=true,pause:=(-1),ZaC:=(-1),value:=({num:=0,den:=1}:Ratio),unit:=(-1),to:=(-1),Zaz:=false}:Zan)],Zat:=5,off:=[]}:Zab)) fun r5=>.use 1 2572 (.weak 1 [vU 75 1 [84] zc [0],vU 77 7 [84] Zar.row [({kind:=1,Zap:=0,give:=0,to:=(-1),unit:=(-1),lot:=({num:=0,den:=1}:Ratio)}:Zar)],vU 91 2 [80] CondT.row [({clause:=0,is:=4}:CondT)],zcq 80 16 [[vI 1,vI 0,vI 0,vI 1,.nil,vI 2,vI 0,vB false,vB true,vI (-1),vI (-1),vI 0,vI 1,vI (-1),vI (-1),vB false],[vI 2,vI 0,vI 0,vI 1,.imm (.slice (List.map CondT.row [({clause:=0,is:=4}:CondT)])),vI 3,vI 0,vB false,vB true,vI (-1),vI (-1),vI 0,vI 1,vI (-1),vI (-1),vB false]] [[vI 1,vI 0,vI 0,vI 1,.imm (.slice (List.map CondT.row [])),vI 2,vI 0,vB false,vB true,vI (-1),vI (-1),vI 0,vI 1,vI (-1),vI (-1),vB false],[vI 2,vI 0,vI 0,vI 1,.imm (.slice (List.map CondT.row [({clause:=0,is:=4}:CondT)])),vI 3,vI 0,vB false,vB true,vI (-1),vI (-1),vI 0,vI 1,vI (-1),vI (-1),vB false]] (.cons (.cons (.refl _) (.cons (.refl _) (.cons (.refl _) (.cons (.refl _) (.cons .nil (.cons (.refl _) (.cons (.refl _) (.cons (.refl _) (.cons (.refl _) (.cons (.refl _) (.cons (.refl _) (.cons (.refl _) (.cons (.refl _) (.cons (.refl _) (.cons (.refl _) (.cons (.refl _) .nil)))))))))))))))) (.cons (.cons (.refl _) (.cons (.refl _) (.cons (.refl _) (.cons (.refl _) (.cons (.refl _) (.cons (.refl _) (.cons (.refl _) (.cons (.refl _) (.cons (.refl _) (.cons (.refl _) (.cons (.refl _) (.cons (.refl _) (.cons (.refl _) (.cons (.refl _) (.cons (.refl _) (.cons (.refl _) .nil)))))))))))))))) .nil)),vU 80 16 [84] Zan.row ([({kind:=1,Zap:=0,act:=0,need:=1,start:=[],after:=2,Zay:=0,ZaE:=false,final:=true,pause:=(-1),ZaC:=(-1),value:=({num:=0,den:=1}:Ratio),unit:=(-1),to:=(-1),Zaz:=false}:Zan),({kind:=2,Zap:=0,act:=0,need:=1,start:=[({clause:=0,is:=4}:CondT)],after:=3,Zay:=0,ZaE:=false,final:=true,pause:=(-1),ZaC:=(-1),value:=({num:=0,den:=1}:Ratio),unit:=(-1),to:=(-1),Zaz:=false}:Zan)])] (.reg 0 (.call 2574 (WJ ({Zao:=1,Zag:=[0],Zav:=[],Zaj:=[({kind:=1,Zap:=0,give:=0,to:=(-1),unit:=(-1),lot:=({num:=0,den:=1}:Ratio)}:Zar)],Zaf:=[({kind:=1,Zap:=0,act:=0,need:=1,start:=[],after:=2,Zay:=0,ZaE:=false,final:=true,pause:=(-1),ZaC:=(-1),value:=({num:=0,den:=1}:Ratio),unit:=(-1),to:=(-1),Zaz:=false}:Zan),({kind:=2,Zap:=0,act:=0,need:=1,start:=[({clause:=0,is:=4}:CondT)],after:=3,Zay:=0,ZaE:=false,final:=true,pause:=(-1),ZaC:=(-1),value:=({num:=0,den:=1}:Ratio),unit:=(-1),to:=(-1),Zaz:=false}:Zan)],Zat:=5,off:=[]}:Zab)) fun r6=>.use 1 2574 (.cut (β:=Bool) 4 (.e [1,2,3,10,11,12] (fun v1=>[(13,vB v1)]) [82,83,84,116,118,121,124] 155) (.reg 0 (.ite 2258 (r4.2 == 0) (.bind (vA r4.1 ([({kind:=1,Zaa:=0,clause:=(-1),other:=(-1),ZaA:=[(-1),(-1)]}:Zai),({kind:=4,Zaa:=(-1),clause:=0,other:=1,ZaA:=[]}:Zai)])) (fun r7=>[(2576,([.w [132,116] [.slice (List.map Zai.row r4.1),.slice (List.map Zai.row ([({kind:=1,Zaa:=0,clause:=(-1),other:=(-1),ZaA:=[(-1),(-1)]}:Zai),({kind:=4,Zaa:=(-1),clause:=0,other:=1,ZaA:=[]}:Zai)]))] (.bool r7)],_))]) (fun r7 hr7=>(.c2 (zbG r4.1 ([({kind:=1,Zaa:=0,clause:=(-1),other:=(-1),ZaA:=[(-1),(-1)]}:Zai),({kind:=4,Zaa:=(-1),clause:=0,other:=1,ZaA:=[]}:Zai)]) r7 hr7) (jr [.imm (.slice (List.map Zai.row r4.1)),.Zak 132 0 2] [(132,.rows 5 [[vI 1,vI 0,vI (-1),vI (-1),.Zak 116 0 2],[vI 4,vI (-1),vI 0,vI 1,.nil]]),(116,.rows 1 [[vI (-1)],[vI (-1)]])] [.slice (List.map Zai.row r4.1),.slice (List.map Zai.row ([({kind:=1,Zaa:=0,clause:=(-1),other:=(-1),ZaA:=[(-1),(-1)]}:Zai),({kind:=4,Zaa:=(-1),clause:=0,other:=1,ZaA:=[]}:Zai)]))] (by kernel_rfl)) .nil)) fun r7=>.ite 2320 r7 (.ite 2322 (r5.2 == 0) (.ite 2324 ((r5.1.length:Int) == 0) (.ite 2326 (r6.2 == 0) (.bind (vA r6.1 ([({kind:=2,Zaa:=(-1),clause:=1,other:=(-1),ZaA:=[]}:Zai)])) (fun r8=>[(2578,([.w [151] [.slice (List.map Zai.row r6.1),.slice (List.map Zai.row ([({kind:=2,Zaa:=(-1),clause:=1,other:=(-1),ZaA:=[]}:Zai)]))] (.bool r8)],_))]) (fun r8 hr8=>(.c2 (zbG r6.1 ([({kind:=2,Zaa:=(-1),clause:=1,other:=(-1),ZaA:=[]}:Zai)]) r8 hr8) (jr [.imm (.slice (List.map Zai.row r6.1)),.Zak 151 0 1] [(151,.rows 5 [[vI 2,vI (-1),vI 1,vI (-1),.nil]])] [.slice (List.map Zai.row r6.1),.slice (List.map Zai.row ([({kind:=2,Zaa:=(-1),clause:=1,other:=(-1),ZaA:=[]}:Zai)]))] (by kernel_rfl)) .nil)) fun r8=>.us [(3,2258),(7,2576),(10,2320),(14,2322)] (.ln 2580 Zai.row r5.1 (.us [(15,2580),(19,2324),(23,2326),(26,2578)] (.ret r8)))) (.us [(3,2258),(7,2576),(10,2320),(14,2322)] (.ln 2582 Zai.row r5.1 (.us [(15,2582),(19,2324),(23,2326)] (.ret false))))) (.us [(3,2258),(7,2576),(10,2320),(14,2322)] (.ln 2586 Zai.row r5.1 (.us [(15,2586),(19,2324)] (.f1 2584 (.g false) (rfl:false=false) (.use 23 2584 (.ret false))))))) (.us [(3,2258),(7,2576),(10,2320),(14,2322)] (.f1 2590 (.g false) (rfl:false=false) (.use 19 2590 (.f1 2588 (.g false) (rfl:false=false) (.use 23 2588 (.ret false))))))) (.us [(3,2258),(7,2576),(10,2320)] (.f1 2596 (.g false) (rfl:false=false) (.use 14 2596 (.f1 2594 (.g false) (rfl:false=false) (.use 19 2594 (.f1 2592 (.g false) (rfl:false=false) (.use 23 2592 (.ret false))))))))) (.use 3 2258 (.f1 2604 (.g false) (rfl:false=false) (.use 10 2604 (.f1 2602 (.g false) (rfl:false=false) (.use 14 2602 (.f1 2600 (.g false) (rfl:false=false) (.use 19 2600 (.f1 2598 (.g false) (rfl:false=false) (.use 23 2598 (.ret false)))))))))))) fun v1=>.cut (β:=Bool) 1 (.e [] (fun v2=>[(0,vB v2)]) [82,83,84,116,118,121,124] 190) (.reg 0 (.ite 2328 v1 (.bind (qG ({Zao:=1,Zag:=[0],Zav:=[],Zaj:=[({kind:=1,Zap:=0,give:=0,to:=(-1),unit:=(-1),lot:=({num:=0,den:=1}:Ratio)}:Zar)],Zaf:=[({kind:=1,Zap:=0,act:=0,need:=1,start:=[],after:=2,Zay:=0,ZaE:=false,final:=true,pause:=(-1),ZaC:=(-1),value:=({num:=0,den:=1}:Ratio),unit:=(-1),to:=(-1),Zaz:=false}:Zan),({kind:=2,Zap:=0,act:=0,need:=1,start:=[],after:=3,Zay:=0,ZaE:=false,final:=true,pause:=(-1),ZaC:=(-1),value:=({num:=0,den:=1}:Ratio),unit:=(-1),to:=(-1),Zaz:=false}:Zan)],Zat:=5,off:=[]}:Zab) ({kind:=1,Zaa:=0,clause:=(-1),other:=(-1),ZaA:=[(-1),(-1)]}:Zai)) (fun r9=>[(2606,([.w [116] [.agg (Zab.row ({Zao:=1,Zag:=[0],Zav:=[],Zaj:=[({kind:=1,Zap:=0,give:=0,to:=(-1),unit:=(-1),lot:=({num:=0,den:=1}:Ratio)}:Zar)],Zaf:=[({kind:=1,Zap:=0,act:=0,need:=1,start:=[],after:=2,Zay:=0,ZaE:=false,final:=true,pause:=(-1),ZaC:=(-1),value:=({num:=0,den:=1}:Ratio),unit:=(-1),to:=(-1),Zaz:=false}:Zan),({kind:=2,Zap:=0,act:=0,need:=1,start:=[],after:=3,Zay:=0,ZaE:=false,final:=true,pause:=(-1),ZaC:=(-1),value:=({num:=0,den:=1}:Ratio),unit:=(-1),to:=(-1),Zaz:=false}:Zan)],Zat:=5,off:=[]}:Zab)),.agg (Zai.row ({kind:=1,Zaa:=0,clause:=(-1),other:=(-1),ZaA:=[(-1),(-1)]}:Zai))] (.bool r9)],_))]) (fun r9 hr9=>(.c2 (yO ({Zao:=1,Zag:=[0],Zav:=[],Zaj:=[({kind:=1,Zap:=0,give:=0,to:=(-1),unit:=(-1),lot:=({num:=0,den:=1}:Ratio)}:Zar)],Zaf:=[({kind:=1,Zap:=0,act:=0,need:=1,start:=[],after:=2,Zay:=0,ZaE:=false,final:=true,pause:=(-1),ZaC:=(-1),value:=({num:=0,den:=1}:Ratio),unit:=(-1),to:=(-1),Zaz:=false}:Zan),({kind:=2,Zap:=0,act:=0,need:=1,start:=[],after:=3,Zay:=0,ZaE:=false,final:=true,pause:=(-1),ZaC:=(-1),value:=({num:=0,den:=1}:Ratio),unit:=(-1),to:=(-1),Zaz:=false}:Zan)],Zat:=5,off:=[]}:Zab) ({kind:=1,Zaa:=0,clause:=(-1),other:=(-1),ZaA:=[(-1),(-1)]}:Zai) r9 hr9) (jr [.agg ([vI 1,.imm (.slice (List.map zc [0])),.nil,.imm (.slice (List.map Zar.row [({kind:=1,Zap:=0,give:=0,to:=(-1),unit:=(-1),lot:=({num:=0,den:=1}:Ratio)}:Zar)])),.imm (.slice (List.map Zan.row ([({kind:=1,Zap:=0,act:=0,need:=1,start:=[],after:=2,Zay:=0,ZaE:=false,final:=true,pause:=(-1),ZaC:=(-1),value:=({num:=0,den:=1}:Ratio),unit:=(-1),to:=(-1),Zaz:=false}:Zan),({kind:=2,Zap:=0,act:=0,need:=1,start:=[],after:=3,Zay:=0,ZaE:=false,final:=true,pause:=(-1),ZaC:=(-1),value:=({num:=0,den:=1}:Ratio),unit:=(-1),to:=(-1),Zaz:=false}:Zan)]))),vI 5,.nil]),.agg [vI 1,vI 0,vI (-1),vI (-1),.Zak 116 0 2]] [(116,.rows 1 [[vI (-1)],[vI (-1)]])] [.agg (Zab.row ({Zao:=1,Zag:=[0],Zav:=[],Zaj:=[({kind:=1,Zap:=0,give:=0,to:=(-1),unit:=(-1),lot:=({num:=0,den:=1}:Ratio)}:Zar)],Zaf:=[({kind:=1,Zap:=0,act:=0,need:=1,start:=[],after:=2,Zay:=0,ZaE:=false,final:=true,pause:=(-1),ZaC:=(-1),value:=({num:=0,den:=1}:Ratio),unit:=(-1),to:=(-1),Zaz:=false}:Zan),({kind:=2,Zap:=0,act:=0,need:=1,start:=[],after:=3,Zay:=0,ZaE:=false,final:=true,pause:=(-1),ZaC:=(-1),value:=({num:=0,den:=1}:Ratio),unit:=(-1),to:=(-1),Zaz:=false}:Zan)],Zat:=5,off:=[]}:Zab)),.agg (Zai.row ({kind:=1,Zaa:=0,clause:=(-1),other:=(-1),ZaA:=[(-1),(-1)]}:Zai))] (by kernel_rfl)) .nil)) fun r9=>.ite 2554 r9 (.call 2608 (yO ({Zao:=1,Zag:=[0],Zav:=[],Zaj:=[({kind:=1,Zap:=0,give:=0,to:=(-1),unit:=(-1),lot:=({num:=0,den:=1}:Ratio)}:Zar)],Zaf:=[({kind:=1,Zap:=0,act:=0,need:=1,start:=[],after:=2,Zay:=0,ZaE:=false,final:=true,pause:=(-1),ZaC:=(-1),value:=({num:=0,den:=1}:Ratio),unit:=(-1),to:=(-1),Zaz:=false}:Zan),({kind:=2,Zap:=0,act:=0,need:=1,start:=[],after:=3,Zay:=0,ZaE:=false,final:=true,pause:=(-1),ZaC:=(-1),value:=({num:=0,den:=1}:Ratio),unit:=(-1),to:=(-1),Zaz:=false}:Zan)],Zat:=5,off:=[]}:Zab) ({kind:=4,Zaa:=(-1),clause:=0,other:=1,ZaA:=[]}:Zai)) fun r10=>.ite 2556 r10 (.call 2610 (yO ({Zao:=1,Zag:=[0],Zav:=[],Zaj:=[({kind:=1,Zap:=0,give:=0,to:=(-1),unit:=(-1),lot:=({num:=0,den:=1}:Ratio)}:Zar)],Zaf:=[({kind:=1,Zap:=0,act:=0,need:=1,start:=[],after:=2,Zay:=0,ZaE:=false,final:=true,pause:=(-1),ZaC:=(-1),value:=({num:=0,den:=1}:Ratio),unit:=(-1),to:=(-1),Zaz:=false}:Zan),({kind:=2,Zap:=0,act:=0,need:=1,start:=[({clause:=0,is:=4}:CondT)],after:=3,Zay:=0,ZaE:=false,final:=true,pause:=(-1),ZaC:=(-1),value:=({num:=0,den:=1}:Ratio),unit:=(-1),to:=(-1),Zaz:=false}:Zan)],Zat:=5,off:=[]}:Zab) ({kind:=2,Zaa:=(-1),clause:=1,other:=(-1),ZaA:=[]}:Zai)) fun r11=>.ite 2558 r11 (.bind (qG ({Zao:=1,Zag:=[0],Zav:=[],Zaj:=[({kind:=1,Zap:=0,give:=0,to:=(-1),unit:=(-1),lot:=({num:=0,den:=1}:Ratio)}:Zar)],Zaf:=[({kind:=1,Zap:=0,act:=0,need:=1,start:=[],after:=2,Zay:=0,ZaE:=false,final:=true,pause:=(-1),ZaC:=(-1),value:=({num:=0,den:=1}:Ratio),unit:=(-1),to:=(-1),Zaz:=false}:Zan),({kind:=2,Zap:=0,act:=0,need:=1,start:=[],after:=1,Zay:=0,ZaE:=false,final:=true,pause:=(-1),ZaC:=(-1),value:=({num:=0,den:=1}:Ratio),unit:=(-1),to:=(-1),Zaz:=false}:Zan)],Zat:=5,off:=[]}:Zab) ({kind:=1,Zaa:=0,clause:=(-1),other:=(-1),ZaA:=[(-1),(-1)]}:Zai)) (fun r12=>[(2612,([.w [116] [.agg (Zab.row ({Zao:=1,Zag:=[0],Zav:=[],Zaj:=[({kind:=1,Zap:=0,give:=0,to:=(-1),unit:=(-1),lot:=({num:=0,den:=1}:Ratio)}:Zar)],Zaf:=[({kind:=1,Zap:=0,act:=0,need:=1,start:=[],after:=2,Zay:=0,ZaE:=false,final:=true,pause:=(-1),ZaC:=(-1),value:=({num:=0,den:=1}:Ratio),unit:=(-1),to:=(-1),Zaz:=false}:Zan),({kind:=2,Zap:=0,act:=0,need:=1,start:=[],after:=1,Zay:=0,ZaE:=false,final:=true,pause:=(-1),ZaC:=(-1),value:=({num:=0,den:=1}:Ratio),unit:=(-1),to:=(-1),Zaz:=false}:Zan)],Zat:=5,off:=[]}:Zab)),.agg (Zai.row ({kind:=1,Zaa:=0,clause:=(-1),other:=(-1),ZaA:=[(-1),(-1)]}:Zai))] (.bool r12)],_))]) (fun r12 hr12=>(.c2 (yO ({Zao:=1,Zag:=[0],Zav:=[],Zaj:=[({kind:=1,Zap:=0,give:=0,to:=(-1),unit:=(-1),lot:=({num:=0,den:=1}:Ratio)}:Zar)],Zaf:=[({kind:=1,Zap:=0,act:=0,need:=1,start:=[],after:=2,Zay:=0,ZaE:=false,final:=true,pause:=(-1),ZaC:=(-1),value:=({num:=0,den:=1}:Ratio),unit:=(-1),to:=(-1),Zaz:=false}:Zan),({kind:=2,Zap:=0,act:=0,need:=1,start:=[],after:=1,Zay:=0,ZaE:=false,final:=true,pause:=(-1),ZaC:=(-1),value:=({num:=0,den:=1}:Ratio),unit:=(-1),to:=(-1),Zaz:=false}:Zan)],Zat:=5,off:=[]}:Zab) ({kind:=1,Zaa:=0,clause:=(-1),other:=(-1),ZaA:=[(-1),(-1)]}:Zai) r12 hr12) (jr [.agg ([vI 1,.imm (.slice (List.map zc [0])),.nil,.imm (.slice (List.map Zar.row [({kind:=1,Zap:=0,give:=0,to:=(-1),unit:=(-1),lot:=({num:=0,den:=1}:Ratio)}:Zar)])),.imm (.slice (List.map Zan.row ([({kind:=1,Zap:=0,act:=0,need:=1,start:=[],after:=2,Zay:=0,ZaE:=false,final:=true,pause:=(-1),ZaC:=(-1),value:=({num:=0,den:=1}:Ratio),unit:=(-1),to:=(-1),Zaz:=false}:Zan),({kind:=2,Zap:=0,act:=0,need:=1,start:=[],after:=1,Zay:=0,ZaE:=false,final:=true,pause:=(-1),ZaC:=(-1),value:=({num:=0,den:=1}:Ratio),unit:=(-1),to:=(-1),Zaz:=false}:Zan)]))),vI 5,.nil]),.agg [vI 1,vI 0,vI (-1),vI (-1),.Zak 116 0 2]] [(116,.rows 1 [[vI (-1)],[vI (-1)]])] [.agg (Zab.row ({Zao:=1,Zag:=[0],Zav:=[],Zaj:=[({kind:=1,Zap:=0,give:=0,to:=(-1),unit:=(-1),lot:=({num:=0,den:=1}:Ratio)}:Zar)],Zaf:=[({kind:=1,Zap:=0,act:=0,need:=1,start:=[],after:=2,Zay:=0,ZaE:=false,final:=true,pause:=(-1),ZaC:=(-1),value:=({num:=0,den:=1}:Ratio),unit:=(-1),to:=(-1),Zaz:=false}:Zan),({kind:=2,Zap:=0,act:=0,need:=1,start:=[],after:=1,Zay:=0,ZaE:=false,final:=true,pause:=(-1),ZaC:=(-1),value:=({num:=0,den:=1}:Ratio),unit:=(-1),to:=(-1),Zaz:=false}:Zan)],Zat:=5,off:=[]}:Zab)),.agg (Zai.row ({kind:=1,Zaa:=0,clause:=(-1),other:=(-1),ZaA:=[(-1),(-1)]}:Zai))] (by kernel_rfl)) .nil)) fun r12=>.ite 2560 r12 (.us [(2,2328),(4,2606),(7,2554),(9,2608),(12,2556),(14,2610),(17,2558),(19,2612),(23,2561)] (.f1 2614 (.g false) (rfl:false=false) (.use 29 2614 (.ret false)))) (.call 2616 (yO ({Zao:=1,Zag:=[0],Zav:=[],Zaj:=[({kind:=1,Zap:=0,give:=0,to:=(-1),unit:=(-1),lot:=({num:=0,den:=1}:Ratio)}:Zar)],Zaf:=[({kind:=1,Zap:=0,act:=0,need:=1,start:=[],after:=2,Zay:=0,ZaE:=false,final:=true,pause:=(-1),ZaC:=(-1),value:=({num:=0,den:=1}:Ratio),unit:=(-1),to:=(-1),Zaz:=false}:Zan),({kind:=2,Zap:=0,act:=0,need:=1,start:=[],after:=1,Zay:=0,ZaE:=false,final:=true,pause:=(-1),ZaC:=(-1),value:=({num:=0,den:=1}:Ratio),unit:=(-1),to:=(-1),Zaz:=false}:Zan)],Zat:=5,off:=[]}:Zab) ({kind:=4,Zaa:=(-1),clause:=0,other:=1,ZaA:=[]}:Zai)) fun r13=>.ite 2562 r13 (.us [(2,2328),(4,2606),(7,2554),(9,2608),(12,2556),(14,2610),(17,2558),(19,2612),(23,2561),(25,2616),(29,2563)] (.ret false)) (.call 2618 (yO ({Zao:=1,Zag:=[0],Zav:=[],Zaj:=[({kind:=1,Zap:=0,give:=0,to:=(-1),unit:=(-1),lot:=({num:=0,den:=1}:Ratio)}:Zar)],Zaf:=[({kind:=1,Zap:=0,act:=0,need:=1,start:=[],after:=2,Zay:=0,ZaE:=false,final:=true,pause:=(-1),ZaC:=(-1),value:=({num:=0,den:=1}:Ratio),unit:=(-1),to:=(-1),Zaz:=false}:Zan),({kind:=2,Zap:=0,act:=0,need:=1,start:=[],after:=3,Zay:=0,ZaE:=false,final:=true,pause:=(-1),ZaC:=(-1),value:=({num:=0,den:=1}:Ratio),unit:=(-1),to:=(-1),Zaz:=false}:Zan)],Zat:=5,off:=[]}:Zab) ({kind:=2,Zaa:=(-1),clause:=1,other:=(-1),ZaA:=[]}:Zai)) fun r14=>.us [(2,2328),(4,2606),(7,2554),(9,2608),(12,2556),(14,2610),(17,2558),(19,2612),(23,2561),(25,2616),(29,2563),(31,2618)] (.ret (!r14))))) (.us [(2,2328),(4,2606),(7,2554),(9,2608),(12,2556),(14,2610),(17,2558)] (.f1 2622 (.g false) (rfl:false=false) (.use 23 2622 (.f1 2620 (.g false) (rfl:false=false) (.use 29 2620 (.ret false))))))) (.us [(2,2328),(4,2606),(7,2554),(9,2608),(12,2556)] (.f1 2628 (.g false) (rfl:false=false) (.use 17 2628 (.f1 2626 (.g false) (rfl:false=false) (.use 23 2626 (.f1 2624 (.g false) (rfl:false=false) (.use 29 2624 (.ret false))))))))) (.us [(2,2328),(4,2606),(7,2554)] (.f1 2636 (.g false) (rfl:false=false) (.use 12 2636 (.f1 2634 (.g false) (rfl:false=false) (.use 17 2634 (.f1 2632 (.g false) (rfl:false=false) (.use 23 2632 (.f1 2630 (.g false) (rfl:false=false) (.use 29 2630 (.ret false))))))))))) (.use 2 2328 (.f1 2646 (.g false) (rfl:false=false) (.use 7 2646 (.f1 2644 (.g false) (rfl:false=false) (.use 12 2644 (.f1 2642 (.g false) (rfl:false=false) (.use 17 2642 (.f1 2640 (.g false) (rfl:false=false) (.use 23 2640 (.f1 2638 (.g false) (rfl:false=false) (.use 29 2638 (.ret false)))))))))))))) fun v2=>.ret v2)))))))))))
theorem zfQ  (res:Bool) (hd:ko  = some res):APure C0 315 [] (.bool res):=
  Zad.pure (iv:=fun res=>.bool res) (zfP ) (by kernel_rfl) (Zad.run_of hd (by kernel_rfl))
noncomputable def kP (c:Zab) (n:Int):Option Bool:=
  (Option.bind (bif decide (20 < (c.Zag.length:Int)) then some true else (bif decide (30 < (c.Zav.length:Int)) then some true else (bif decide (70 < (c.Zaj.length:Int)) then some true else (bif decide (n < (c.Zaf.length:Int)) then some true else some (decide (100 < (c.off.length:Int))))))) fun v1=>(bif v1 then some false else (Option.bind (forR (σ:=Unit) (ρ:=Unit) (c.Zaf.length:Int) (fun i1 s1=>(Option.bind (ze c.Zaf (i1:Int)) fun e1=>(bif decide (20 < (e1.start.length:Int)) then some (.inr ()) else some (.inl ())))) ()) (Sum.elim (fun (s1:Unit)=>some true) (fun (y1:Unit)=>some false)))))
noncomputable def zen (c:Zab) (n:Int):Zad Bool:=
  .cut (β:=Bool) 3 (.e [2] (fun v1=>[(34,vB v1)]) [0] 31) (.reg 0 (.ite 2648 (decide (20 < (c.Zag.length:Int))) (.ln 2668 zc c.Zag (.us [(2,2668),(5,2648)] (.f1 2666 (.g true) (rfl:true=true) (.use 11 2666 (.f1 2664 (.g true) (rfl:true=true) (.use 17 2664 (.f1 2662 (.g true) (rfl:true=true) (.use 24 2662 (.ret true))))))))) (.ite 2650 (decide (30 < (c.Zav.length:Int))) (.ln 2676 zc c.Zag (.us [(2,2676),(5,2648)] (.ln 2674 ZaD.row c.Zav (.us [(7,2674),(11,2650)] (.f1 2672 (.g true) (rfl:true=true) (.use 17 2672 (.f1 2670 (.g true) (rfl:true=true) (.use 24 2670 (.ret true))))))))) (.ite 2652 (decide (70 < (c.Zaj.length:Int))) (.ln 2684 zc c.Zag (.us [(2,2684),(5,2648)] (.ln 2682 ZaD.row c.Zav (.us [(7,2682),(11,2650)] (.ln 2680 Zar.row c.Zaj (.us [(13,2680),(17,2652)] (.f1 2678 (.g true) (rfl:true=true) (.use 24 2678 (.ret true))))))))) (.ite 2654 (decide (n < (c.Zaf.length:Int))) (.ln 2692 zc c.Zag (.us [(2,2692),(5,2648)] (.ln 2690 ZaD.row c.Zav (.us [(7,2690),(11,2650)] (.ln 2688 Zar.row c.Zaj (.us [(13,2688),(17,2652)] (.ln 2686 Zan.row c.Zaf (.us [(19,2686),(24,2654)] (.ret true))))))))) (.ln 2702 zc c.Zag (.us [(2,2702),(5,2648)] (.ln 2700 ZaD.row c.Zav (.us [(7,2700),(11,2650)] (.ln 2698 Zar.row c.Zaj (.us [(13,2698),(17,2652)] (.ln 2696 Zan.row c.Zaf (.us [(19,2696),(24,2654)] (.ln 2694 zc c.off (.use 26 2694 (.ret (decide (100 < (c.off.length:Int))))))))))))))))))) fun v1=>.ite 2656 v1 (.sel 2656 (.ret false)) (.sel 2656 (.forR (σ:=Unit) (ρ:=Unit) 2658 5 (c.Zaf.length:Int) () (.e [2] (fun _=>[]) [0] 32) (fun i1 s1=>.reg 0 (.ln 2708 Zan.row c.Zaf (.use 3 2708 (.sel 2658 (.reg 0 (.ix 2704 Zan.row c.Zaf (i1:Int) fun e1=>.use 3 2704 (.ln 2706 CondT.row e1.start (.use 6 2706 (.ite 2660 (decide (20 < (e1.start.length:Int))) (.sel 2660 (.ret (.inr ()))) (.sel 2660 (.ret (.inl ())))))))))))) fun os1=>.case os1 (fun s1=>.reg 0 (.ln 2710 Zan.row c.Zaf (.use 3 2710 (.sel 2658 (.ret true))))) fun y1=>.ret false))
theorem zeo (c:Zab) (n:Int) (res:Bool) (hd:kP c n=some res):APure C0 94 [.agg (Zab.row c),.int .i64 n] (.bool res):=
  Zad.pure (iv:=fun res=>.bool res) (zen c n) (by kernel_rfl) (Zad.run_of hd (by kernel_rfl))
noncomputable def WL (c:Zab):Option Bool:=
  (Option.bind (Option.bind (kP c 6) fun r1=>(bif r1 then (bif decide ((c.Zaj.length:Int)≤8) then some (decide (c.Zat≤20)) else some false) else some false)) fun v1=>some v1)
noncomputable def zi5 (c:Zab):Zad Bool:=
  .cut (β:=Bool) 2 (.e [] (fun v1=>[(2,vB v1)]) [0] 16) (.reg 0 (.call 2716 (zeo c 6) fun r1=>.ite 2712 r1 (.ite 2714 (decide ((c.Zaj.length:Int)≤8)) (.us [(1,2716),(3,2712)] (.ln 2718 Zar.row c.Zaj (.us [(5,2718),(9,2714)] (.ret (decide (c.Zat≤20)))))) (.us [(1,2716),(3,2712)] (.ln 2720 Zar.row c.Zaj (.us [(5,2720),(9,2714)] (.ret false))))) (.us [(1,2716),(3,2712)] (.f1 2722 (.g false) (rfl:false=false) (.use 9 2722 (.ret false)))))) fun v1=>.ret v1
theorem zi6 (c:Zab) (res:Bool) (hd:WL c=some res):APure C0 97 [.agg (Zab.row c)] (.bool res):=
  Zad.pure (iv:=fun res=>.bool res) (zi5 c) (by kernel_rfl) (Zad.run_of hd (by kernel_rfl))
noncomputable def Zx (l:List Zai) (kind:Int) (Zaa:Int) (clause:Int):Option Bool:=
  (Option.bind (forR (σ:=Unit) (ρ:=Unit) (l.length:Int) (fun i1 s1=>(Option.bind (Option.bind (ze l (i1:Int)) fun e1=>(bif (e1.kind == kind) then (bif (e1.Zaa == Zaa) then some (e1.clause == clause) else some false) else some false)) fun v1=>(bif v1 then some (.inr ()) else some (.inl ())))) ()) (Sum.elim (fun (s1:Unit)=>some false) (fun (y1:Unit)=>some true)))
noncomputable def zhr (l:List Zai) (kind:Int) (Zaa:Int) (clause:Int):Zad Bool:=
  .forR (σ:=Unit) (ρ:=Unit) 2738 9 (l.length:Int) () (.e [0,1,2,3] (fun _=>[]) [] 2) (fun i1 s1=>.reg 0 (.ln 2750 Zai.row l (.use 2 2750 (.sel 2738 (.cut (β:=Bool) 3 (.e [0,1,2,3,9] (fun v1=>[(40,vB v1)]) [] 31) (.reg 0 (.ix 2746 Zai.row l (i1:Int) fun e1=>.ite 2740 (e1.kind == kind) (.ite 2742 (e1.Zaa == Zaa) (.us [(2,2746),(8,2740),(10,2746),(17,2742),(19,2746)] (.ret (e1.clause == clause))) (.us [(2,2746),(8,2740),(10,2746),(17,2742)] (.ret false))) (.us [(2,2746),(8,2740)] (.f1 2748 (.g false) (rfl:false=false) (.use 17 2748 (.ret false)))))) fun v1=>.ite 2744 v1 (.sel 2744 (.ret (.inr ()))) (.sel 2744 (.ret (.inl ())))))))) fun os1=>.case os1 (fun s1=>.reg 0 (.ln 2752 Zai.row l (.use 2 2752 (.sel 2738 (.ret false))))) fun y1=>.ret true
theorem zbH (l:List Zai) (kind:Int) (Zaa:Int) (clause:Int) (res:Bool) (hd:Zx l kind Zaa clause=some res):APure C0 319 [.slice (List.map Zai.row l),.int .i64 kind,.int .i64 Zaa,.int .i64 clause] (.bool res):=
  Zad.pure (iv:=fun res=>.bool res) (zhr l kind Zaa clause) (by kernel_rfl) (Zad.run_of hd (by kernel_rfl))
noncomputable def Qf (c:Zab) (ZaA:List Int):Option Bool:=
  (Option.bind (ko) fun r1=>(Option.bind (Option.bind (WL c) fun r2=>(bif r2 then some (decide (40 < (ZaA.length:Int))) else some true)) fun v1=>(bif v1 then some r1 else (Option.bind (jT c) fun r3=>(bif (r3.2 == 0) then (Option.bind (qA c) fun r4=>(Option.bind (Option.bind (iter (σ:=Int×Int×(List Int)×(List Bool)×(List zw)) (ρ:=Int×(List Int)×(List Bool)×(List zw)) (fun s1=>(Option.bind (bif decide (s1.1 < (ZaA.length:Int)) then some (r4.2 == 0) else some false) fun v2=>(bif v2 then (Option.bind (ze ZaA s1.1) fun e1=>(Option.bind (d_Step c ({day:=s1.2.1,Zag:=s1.2.2.1,used:=s1.2.2.2.1,Zal:=s1.2.2.2.2}:Zac) e1) fun r5=>(bif (r5.2 == 0) then some (.inl ((IntKind.i64.wrap (s1.1+1)),r5.1.day,r5.1.Zag,r5.1.used,r5.1.Zal)) else some (.inr (s1.2.1,s1.2.2.1,s1.2.2.2.1,s1.2.2.2.2))))) else some (.inr (s1.2.1,s1.2.2.1,s1.2.2.2.1,s1.2.2.2.2))))) (0,r4.1.day,r4.1.Zag,r4.1.used,r4.1.Zal)) (fun (y1:Int×(List Int)×(List Bool)×(List zw))=>some (y1.1,y1.2.1,y1.2.2.1,y1.2.2.2))) fun (v3:Int×(List Int)×(List Bool)×(List zw))=>(Option.bind (jS c) fun r6=>(Option.bind (bif (r4.2 == 0) then (bif (r6.2 == 0) then some (!((v3.2.2.2.length:Int) == (c.Zaf.length:Int))) else some true) else some true) fun v4=>(bif v4 then some false else (Option.bind (forR (σ:=Unit) (ρ:=Unit) (c.Zaf.length:Int) (fun i2 s2=>(Option.bind (forR (σ:=Bool×Bool) (ρ:=Unit) (r6.1.length:Int) (fun i3 s3=>(Option.bind (bif s3.1 then some true else (Option.bind (ze r6.1 (i3:Int)) fun e2=>(Option.bind (ze e2.Zal (i2:Int)) fun e3=>some (!(e3.Zam == 0))))) fun v5=>(Option.bind (bif s3.2 then some true else (Option.bind (ze r6.1 (i3:Int)) fun e4=>(Option.bind (ze e4.Zal (i2:Int)) fun e5=>some (e5.Zam == 3)))) fun v6=>some (.inl (v5,v6))))) (false,false)) (Sum.elim (fun (s3:Bool×Bool)=>(Option.bind (Zx r3.1 2 (-1) (i2:Int)) fun r7=>(Option.bind (Zx r3.1 3 (-1) (i2:Int)) fun r8=>(Option.bind (bif (r7 == s3.1) then some true else (bif r7 then (Option.bind (ze v3.2.2.2 (i2:Int)) fun e6=>(bif (e6.Zam == 0) then (bif r8 then (bif s3.2 then some true else some (e6.Zam == 3)) else some false) else some true)) else (bif r8 then (bif s3.2 then some true else (Option.bind (ze v3.2.2.2 (i2:Int)) fun e7=>some (e7.Zam == 3))) else some false))) fun v7=>(bif v7 then some (.inr ()) else (Option.bind (Option.bind (ze c.Zaf (i2:Int)) fun e8=>(bif (e8.kind == 3) then (bif r8 then some false else (bif s3.2 then some false else (bif s3.1 then some (!e8.Zaz) else some false))) else some false)) fun v8=>(bif v8 then some (.inr ()) else some (.inl ())))))))) (fun _=>none)))) ()) (Sum.elim (fun (s2:Unit)=>some r1) (fun (y2:Unit)=>some false)))))))) else some r1)))))
noncomputable def zcH (c:Zab) (ZaA:List Int):Zad Bool:=
  .reg 1 (.call 3138 zfQ fun r1=>.use 0 3138 (.cut (β:=Bool) 2 (.e [1,2,5] (fun v1=>[(29,vB v1)]) [0] 12) (.reg 0 (.call 3140 (zi6 c) fun r2=>.ite 3076 r2 (.us [(1,3140),(4,3077)] (.ln 3142 zc ZaA (.use 5 3142 (.ret (decide (40 < (ZaA.length:Int))))))) (.us [(1,3140),(4,3077)] (.ret true)))) fun v1=>.ite 3078 v1 (.sel 3078 (.ret r1)) (.sel 3078 (.reg 0 (.call 3144 (WJ c) fun r3=>.use 1 3144 (.ite 3080 (r3.2 == 0) (.sel 3081 (.reg 0 (.call 3146 (JK c) fun r4=>.use 1 3146 (.cut (β:=Int×(List Int)×(List Bool)×(List zw)) 1 (.k [2,5,6,8,9] (fun _=>[]) [0] (fun v3=>[(26,.rows 4 [[vI v3.1,.imm (.slice (List.map zc v3.2.1)),.imm (.slice (List.map zh v3.2.2.1)),.imm (.slice (List.map zw.row v3.2.2.2))]])]) 30 fun _=>(.exp rfl rfl .nil)) (.iter (σ:=Int×Int×(List Int)×(List Bool)×(List zw)) (ρ:=Int×(List Int)×(List Bool)×(List zw)) (0,r4.1.day,r4.1.Zag,r4.1.used,r4.1.Zal) (.k [1,2,5,6,8,9] (fun s1=>[(10,vI s1.1)]) [0] (fun s1=>[(26,.rows 4 [[vI s1.2.1,.imm (.slice (List.map zc s1.2.2.1)),.imm (.slice (List.map zh s1.2.2.2.1)),.imm (.slice (List.map zw.row s1.2.2.2.2))]])]) 30 fun _=>(.exp rfl rfl .nil)) (fun s1=>.cut (β:=Bool) 2 (.e [1,2,5,6,8,9,10] (fun v2=>[(51,vB v2)]) [0,26] 38) (.reg 0 (.ite 3092 (decide (s1.1 < (ZaA.length:Int))) (.ln 3148 zc ZaA (.us [(2,3148),(5,3092)] (.ret (r4.2 == 0)))) (.ln 3150 zc ZaA (.us [(2,3150),(5,3092)] (.ret false))))) fun v2=>.ite 3094 v2 (.sel 3094 (.reg 0 (.ix 3152 zc ZaA s1.1 fun e1=>.call 3154 (kl c ({day:=s1.2.1,Zag:=s1.2.2.1,used:=s1.2.2.2.1,Zal:=s1.2.2.2.2}:Zac) e1) fun r5=>.us [(4,3152),(6,3154)] (.ite 3096 (r5.2 == 0) (.sel 3097 (.ret (.inl ((IntKind.i64.wrap (s1.1+1)),r5.1.day,r5.1.Zag,r5.1.used,r5.1.Zal)))) (.sel 3097 (.ret (.inr (s1.2.1,s1.2.2.1,s1.2.2.2.1,s1.2.2.2.2)))))))) (.sel 3094 (.ret (.inr (s1.2.1,s1.2.2.1,s1.2.2.2.1,s1.2.2.2.2))))) fun y1=>.ret (y1.1,y1.2.1,y1.2.2.1,y1.2.2.2)) fun v3=>.reg 0 (.call 3156 (Vu c) fun r6=>.use 1 3156 (.cut (β:=Bool) 2 (.e [2,5,6,8,13] (fun v4=>[(86,vB v4)]) [0,26] 52) (.reg 0 (.ite 3098 (r4.2 == 0) (.ite 3100 (r6.2 == 0) (.us [(3,3099),(7,3101)] (.ln 3160 zw.row v3.2.2.2 (.use 9 3160 (.ln 3158 Zan.row c.Zaf (.use 12 3158 (.ret (!((v3.2.2.2.length:Int) == (c.Zaf.length:Int))))))))) (.us [(3,3099),(7,3101)] (.ret true))) (.use 3 3099 (.f1 3162 (.g true) (rfl:true=true) (.use 7 3162 (.ret true)))))) fun v4=>.ite 3102 v4 (.sel 3102 (.ret false)) (.sel 3102 (.forR (σ:=Unit) (ρ:=Unit) 3104 15 (c.Zaf.length:Int) () (.e [2,5,6,8,13] (fun _=>[]) [0,26] 53) (fun i2 s2=>.reg 0 (.ln 3206 Zan.row c.Zaf (.use 3 3206 (.sel 3104 (.forR (σ:=Bool×Bool) (ρ:=Unit) 3106 18 (r6.1.length:Int) (false,false) (.e [2,5,6,8,13,15] (fun s3=>[(16,vB s3.1),(17,vB s3.2)]) [0,26] 61) (fun i3 s3=>.reg 0 (.ln 3172 Zac.row r6.1 (.use 2 3172 (.sel 3106 (.cut (β:=Bool) 3 (.e [2,5,6,8,13,15,17,18] (fun v5=>[(16,vB v5)]) [0,26] 79) (.reg 0 (.ite 3108 s3.1 (.use 2 3108 (.ret true)) (.ix 3164 Zac.row r6.1 (i3:Int) fun e2=>.ix 3166 zw.row e2.Zal (i2:Int) fun e3=>.us [(2,3108),(4,3164),(8,3166)] (.ret (!(e3.Zam == 0)))))) fun v5=>.cut (β:=Bool) 0 (.e [2,5,6,8,13,15,16,18] (fun v6=>[(17,vB v6)]) [0,26] 93) (.reg 0 (.ite 3110 s3.2 (.use 2 3110 (.ret true)) (.ix 3168 Zac.row r6.1 (i3:Int) fun e4=>.ix 3170 zw.row e4.Zal (i2:Int) fun e5=>.us [(2,3110),(4,3168),(8,3170)] (.ret (e5.Zam == 3))))) fun v6=>.ret (.inl (v5,v6))))))) fun os3=>.case os3 (fun s3=>.reg 0 (.ln 3204 Zac.row r6.1 (.use 2 3204 (.sel 3106 (.reg 0 (.call 3174 (zbH r3.1 2 (-1) (i2:Int)) fun r7=>.call 3176 (zbH r3.1 3 (-1) (i2:Int)) fun r8=>.us [(2,3174),(5,3176)] (.cut (β:=Bool) 2 (.e [2,5,6,8,13,15,16,17,20] (fun v7=>[(161,vB v7)]) [0,26] 103) (.reg 0 (.ite 3112 (r7 == s3.1) (.use 4 3112 (.f1 3178 (.g true) (rfl:true=true) (.use 16 3178 (.ret true)))) (.ite 3114 r7 (.ix 3180 zw.row v3.2.2.2 (i2:Int) fun e6=>.ite 3116 (e6.Zam == 0) (.ite 3118 r8 (.ite 3120 s3.2 (.us [(4,3112),(6,3114),(9,3180),(16,3117),(18,3118),(20,3120)] (.ret true)) (.us [(4,3112),(6,3114),(9,3180),(16,3117),(18,3118),(20,3120),(23,3180)] (.ret (e6.Zam == 3)))) (.us [(4,3112),(6,3114),(9,3180),(16,3117),(18,3118)] (.ret false))) (.us [(4,3112),(6,3114),(9,3180),(16,3117)] (.ret true))) (.ite 3122 r8 (.ite 3124 s3.2 (.us [(4,3112),(6,3114)] (.f1 3182 (.g false) (rfl:false=false) (.us [(16,3182),(18,3122),(20,3124)] (.ret true)))) (.ix 3184 zw.row v3.2.2.2 (i2:Int) fun e7=>.us [(4,3112),(6,3114)] (.f1 3186 (.g false) (rfl:false=false) (.us [(16,3186),(18,3122),(20,3124),(23,3184)] (.ret (e7.Zam == 3)))))) (.us [(4,3112),(6,3114)] (.f1 3188 (.g false) (rfl:false=false) (.us [(16,3188),(18,3122)] (.ret false)))))))) fun v7=>.ite 3126 v7 (.sel 3126 (.ret (.inr ()))) (.sel 3126 (.cut (β:=Bool) 1 (.e [2,5,6,8,13,15] (fun v8=>[(188,vB v8)]) [0,26] 130) (.reg 0 (.ix 3190 Zan.row c.Zaf (i2:Int) fun e8=>.ite 3128 (e8.kind == 3) (.ite 3130 r8 (.us [(3,3190),(8,3128),(12,3131)] (.f1 3194 (.g false) (rfl:false=false) (.use 16 3194 (.f1 3192 (.g false) (rfl:false=false) (.use 19 3192 (.ret false)))))) (.ite 3132 s3.2 (.us [(3,3190),(8,3128),(12,3131),(16,3133)] (.f1 3196 (.g false) (rfl:false=false) (.use 19 3196 (.ret false)))) (.ite 3134 s3.1 (.us [(3,3190),(8,3128),(12,3131),(16,3133),(19,3134),(22,3190)] (.ret (!e8.Zaz))) (.us [(3,3190),(8,3128),(12,3131),(16,3133),(19,3134)] (.ret false))))) (.us [(3,3190),(8,3128)] (.f1 3202 (.g false) (rfl:false=false) (.use 12 3202 (.f1 3200 (.g false) (rfl:false=false) (.use 16 3200 (.f1 3198 (.g false) (rfl:false=false) (.use 19 3198 (.ret false)))))))))) fun v8=>.ite 3136 v8 (.sel 3136 (.ret (.inr ()))) (.sel 3136 (.ret (.inl ())))))))))))) fun _=>.none))))) fun os2=>.case os2 (fun s2=>.reg 0 (.ln 3208 Zan.row c.Zaf (.use 3 3208 (.sel 3104 (.ret r1))))) fun y2=>.ret false)))))))) (.sel 3081 (.ret r1))))))))
theorem zcI (c:Zab) (ZaA:List Int) (res:Bool) (hd:Qf c ZaA=some res):APure C0 310 [.agg (Zab.row c),.slice (List.map zc ZaA)] (.bool res):=
  Zad.pure (iv:=fun res=>.bool res) (zcH c ZaA) (by kernel_rfl) (Zad.run_of hd (by kernel_rfl))
abbrev F29:AV:=.func 29 [] [.ptr 0 0 0,.ptr 1 0 0]
structure GCtx where
  heap:List (Nat×Zae)
  N:Nat
  P:Nat
  qs:List Nat
structure GOk (i:Nat) (s:List (List Int)×List (Int×Int)×List Int) (c:GCtx):Prop where
  nest:NestOk c.heap c.N c.P c.qs s.1
  min:9≤c.N
  lt:∀ j o,za c.heap j=some o→j < c.N
  p0:c.P≠0
  p1:c.P≠1
  h0:za c.heap 0=some (.rows 1 (zb zc s.2.2))
  h1:za c.heap 1=some (.rows 1 [[F29]])
  h4:za c.heap 4=some (.map (zu IV.i64 IV.i64 s.2.1))
  len:s.1.length≤i
  lens:∀ (k:Nat) (L:List Int),s.1[k]?=some L→L.length≤i
theorem NestOk.push {heap heap':List (Nat×Zae)} {N N' P P' q:Nat} {qs:List Nat} {Ls:List (List Int)} (h:NestOk heap N P qs Ls) (hlt:∀ j o,za heap j=some o→j < q) (hP:za heap' P'=some (.rows 1 (Vj (qs++[q]) (Ls++[[]])))) (hq:za heap' q=some (.tip 1 0))
    (hE:∀ (k q':Nat),qs[k]?=some q'→(za heap q').isSome=true→za heap' q'=za heap q'):NestOk heap' N' P' (qs++[q]) (Ls++[[]]):=by
  have hold:∀ (k q':Nat),qs[k]?=some q'→q' < q:=fun k q' hk=>by
    have hl:k < Ls.length:=by rw [←h.len];exact (List.getElem?_eq_some_iff.1 hk).1
    exact hlt q' _ (h.tip k q' Ls[k] hk (by simp))
  refine ⟨hP,fun k q' L h1 h2 => ?_,by simp [h.len],fun i j q' h1 h2 => ?_⟩
  · rcases Nat.lt_or_ge k qs.length with hk | hk
    · rw [List.getElem?_append_left hk] at h1
      rw [List.getElem?_append_left (by rw [←h.len];exact hk)] at h2
      have:=h.tip k q' L h1 h2
      rw [hE k q' h1 (by rw [this];rfl)];exact this
    · rw [List.getElem?_append_right hk] at h1
      rw [List.getElem?_append_right (by rw [←h.len];exact hk)] at h2
      rw [←h.len] at h2
      cases hd:k - qs.length with
      | zero=>rw [hd] at h1 h2;simp at h1 h2;subst h1 h2;exact hq
      | succ n=>rw [hd] at h1;simp at h1
  · have key:∀ k,(qs++[q])[k]?=some q'→(k < qs.length∧qs[k]?=some q')∨(k=qs.length∧q'=q):=fun k hk=>by
      rcases Nat.lt_or_ge k qs.length with hlt | hge
      · rw [List.getElem?_append_left hlt] at hk;exact .inl ⟨hlt,hk⟩
      · rw [List.getElem?_append_right hge] at hk
        cases hd:k - qs.length with
        | zero=>rw [hd] at hk;simp at hk;exact .inr ⟨by omega,hk.symm⟩
        | succ n=>rw [hd] at hk;simp at hk
    rcases key i h1 with ⟨a1,a2⟩ | ⟨a1,a2⟩<;>rcases key j h2 with ⟨b1,b2⟩ | ⟨b1,b2⟩
    · exact h.nd i j q' a2 b2
    · have:=hold i q' a2;omega
    · have:=hold j q' b2;omega
    · omega
theorem NestOk.frame {heap:List (Nat×Zae)} {N N' P:Nat} {qs:List Nat} {Ls:List (List Int)} (h:NestOk heap N P qs Ls) (x:Nat) (hx:x≠P) (hx2:∀ sz len,za heap x≠some (.tip sz len)) (o:Zae):NestOk (zJ heap x o) N' P qs Ls:=
  ⟨by rw [z6,if_neg hx];exact h.obj,fun k q L h1 h2=>by
    have:=h.tip k q L h1 h2
    rw [z6,if_neg (fun e=>hx2 _ _ (by rw [e];exact this))];exact this,h.len,h.nd⟩
end Go.Proofs.YtlpmnmbebkdocaaGreatDoor
namespace Go.Proofs.YtlpmnmbebkdocaaGreatDoor
set_option linter.unusedSimpArgs false
set_option linter.unusedVariables false
set_option maxRecDepth 100000
theorem zep (a b:Int):∃ r,iter (σ:=Int×Int) (ρ:=Int) (fun s2=>(bif (s2.2 == 0) then some (.inr s2.1) else (Option.bind (ZS .u64 s2.1 s2.2) fun e2=>some (.inl (s2.2,e2))))) (a,b)=some r:=by
  have:=Yh (f:=fun s2:Int×Int=>(bif (s2.2 == 0) then some (.inr s2.1) else (Option.bind (ZS .u64 s2.1 s2.2) fun e2=>some (.inl (s2.2,e2))))) (fun _=>True) (fun _:Int=>True) (fun s=>s.2.natAbs) (fun s _=>by
    by_cases h:s.2=0
    · exact ⟨.inr s.1,by simp [h],trivial⟩
    · refine ⟨.inl (s.2,s.1.tmod s.2),by simp [beq_eq_false_iff_ne.2 h,h,ZS],trivial,?_⟩
      show (s.1.tmod s.2).natAbs < s.2.natAbs
      rw [Int.natAbs_tmod]
      exact Nat.mod_lt _ (by omega)) (a,b) trivial
  obtain ⟨r,h,_⟩:=this
  exact ⟨r,h⟩
theorem YK (l:List Int) (hl:l.length < 1000):∃ r,yo l=some r:=by
  unfold yo
  obtain ⟨o,h1,h2⟩:=wR (n:=l.length) (s0:=(0:Int)) (f:=(fun i1 s1=>(Option.bind (Option.bind (ze l (i1:Int)) fun e1=>(Option.bind (iter (σ:=Int×Int) (ρ:=Int) (fun s2=>(bif (s2.2 == 0) then some (.inr s2.1) else (Option.bind (ZS .u64 s2.1 s2.2) fun e2=>some (.inl (s2.2,e2))))) (s1,e1)) (fun (y1:Int)=>some y1))) fun (v1:Int)=>some (.inl v1)))) (fun _ _=>True) (fun _:Unit=>False) (by omega) trivial (fun i s hi _=>by
    obtain ⟨r,hr⟩:=zep s l[i]
    exact ⟨.inl r,by simp only [qq,List.getElem?_eq_getElem hi,Option.bind_some,hr],trivial⟩)
  rw [h1]
  cases o with
  | inl s=>exact ⟨s,rfl⟩
  | inr r=>exact h2.elim
theorem kQ (n:Int):∃ r,x2 n=some r:=by
  unfold x2;simp only [zm];exact ⟨_,rfl⟩
noncomputable def rvB (r:Ratio):Bool:=(q8 r).getD false
theorem Q8 (r:Ratio):q8 r=some (rvB r):=by
  have:∃ b,q8 r=some b:=by
    unfold q8
    obtain ⟨a,ha⟩:=kQ r.num
    obtain ⟨b,hb⟩:=kQ r.den
    obtain ⟨g,hg⟩:=YK [a,b] (by simp)
    simp only [ha,hb,hg,zm,ZaI]
    exact ⟨_,rfl⟩
  obtain ⟨b,hb⟩:=this
  unfold rvB;rw [hb];rfl
def zi7 (x:Option (Int×Bool)):Bool:=(x.getD (0,false)).2
theorem zhs {x:Option (Int×Bool)} {r:Int×Bool} (h:x=some r):x=some (r.1,zi7 x):=by subst h;rfl
noncomputable def quB (l:List ZaD):Bool:=zi7 (je l)
theorem WM (t:List ZaD) (i:Nat) (hi:i < t.length) (ht:t.length < 1000):∃ b,x3 t i=some b:=by
  unfold x3
  have hs:Xl t 0 (i:Int)=some (t.take i):=by
    unfold Xl;rw [if_pos ⟨by omega,by omega,by omega⟩];simp
  have hf:forR (σ:=Unit) (ρ:=Unit) ((t.take i).length:Int) (fun i1 s1=>(Option.bind (ze (t.take i) (i1:Int)) fun e3=>(bif (e3.name.toList == t[i].name.toList) then some (.inr ()) else some (.inl ())))) ()=some (match (List.range (t.take i).length).find? (fun j=>!(match (t.take i)[j]? with | some e=>!(e.name.toList == t[i].name.toList) | none=>true)) with | none=>.inl () | some j=>.inr ()):=by
    refine qW _ (fun _=>()) (by simp;omega) (fun j hj => ?_)
    simp only [qq,List.getElem?_eq_getElem hj,ZaI]
    cases ((t.take i)[j].name.toList == t[i].name.toList)<;>rfl
  rw [zo (List.getElem?_eq_getElem hi)]
  simp only [ZaI]
  rw [hs]
  simp only [ZaI]
  rw [hf]
  simp only [Q8,zm,ZaI,Q0]
  split
  all_goals simp only [Sum.elim_inl,Sum.elim_inr,zm]
  · by_cases hb:0≤t[i].base∧t[i].base < t.length
    · obtain ⟨h1,h2⟩:=jc hb.1 hb.2
      simp only [h2,ZaI,zm]
      exact ⟨_,rfl⟩
    · by_cases h1:0≤t[i].base
      · have:¬ t[i].base < t.length:=fun h=>hb ⟨h1,h⟩
        simp only [h1,this,decide_true,decide_false,cond_true,ZaH,ZaI,zm]
        exact ⟨_,rfl⟩
      · simp only [h1,decide_false,ZaH,ZaI,zm]
        exact ⟨_,rfl⟩
  · exact ⟨_,rfl⟩
theorem WN (l:List ZaD) (hl:l.length < 1000):∃ k,je l=some (k,quB l):=by
  have:∃ r,je l=some r:=by
    unfold je
    obtain ⟨o,h1,h2⟩:=wR (n:=l.length) (s0:=()) (f:=(fun i1 s1=>(Option.bind (x3 l (i1:Int)) fun r1=>(bif r1 then some (.inl ()) else some (.inr (i1:Int)))))) (fun _ _=>True) (fun _:Int=>True) (by omega) trivial (fun i s hi _=>by
      obtain ⟨b,hb⟩:=WM l i hi hl
      cases b with
      | true=>exact ⟨.inl (),by simp [hb],trivial⟩
      | false=>exact ⟨.inr i,by simp [hb],trivial⟩)
    rw [h1]
    cases o with
    | inl s=>exact ⟨_,rfl⟩
    | inr r=>exact ⟨_,rfl⟩
  obtain ⟨r,hr⟩:=this
  exact ⟨r.1,zhs hr⟩
def xV (nh:Nat) (r:Int):Bool:=decide (0≤r)&&decide (r < nh)
theorem Q9 (c:Zab) (r:Int):q9 c r=some (xV c.Zag.length r):=by
  simp only [q9,zm,ZaI,xV,Bool.cond_false_right]
noncomputable def zat (r:Ratio):Bool:=decide (0 < r.num)&&rvB r
theorem WO (r:Ratio):xb r=some (zat r):=by
  simp only [xb,Q8,zm,ZaI,zat,Bool.cond_false_right]
def JM (r:Ratio):Bool:=r.num == 0&&(r.den == 1&&true)
noncomputable def Vv (nh nu:Nat) (Zao:Int) (a:Zar):Bool:=
  bif xV nh a.Zap then
    (bif a.kind == 1 then (a.give == 0&&(a.to == -1||xV nh a.to))&&(bif a.unit == -1 then JM a.lot else (decide (0≤a.unit)&&(decide (a.unit < nu)&&zat a.lot)))
    else (a.kind == 2||a.kind == 3)&&(xV nh a.give&&(decide (0≤a.to)&&(decide (a.to < Zao)&&(a.unit == -1&&JM a.lot)))))
  else a.kind == 1&&(a.Zap == -1&&(a.give == 0&&((a.to == -1||xV nh a.to)&&(a.unit == -1&&JM a.lot))))
theorem zcJ (c:Zab) (a:Zar):wS c a=some (Vv c.Zag.length c.Zav.length c.Zao a):=by
  simp only [wS,Q9,WO,yp,ZaI,zm,Vv,JM]
  cases xV c.Zag.length a.Zap<;>cases (a.kind == 1)<;>cases (a.give == 0)<;>cases (a.to == -1)<;>cases (xV c.Zag.length a.to)<;>cases (a.unit == -1) <;>
    simp only [cond_true,ZaH,Bool.not_true,Bool.not_false,ZaI,Bool.true_or,Bool.false_or,Bool.true_and,Bool.false_and,zm,Bool.cond_false_right,Bool.cond_self,Bool.and_false] <;>
    first | rfl | (cases (a.Zap == -1)<;>rfl) | (cases (a.kind == 2)<;>rfl)
def vX (Zao:Int) (hs:List Int):Bool:=hs.all fun h=>decide (0≤h)&&decide (h < Zao)
theorem zi8 (c:Zab) (hp:c.Zao < 4611686018427387904) (hl:c.Zag.length < 4611686018427387904):Wr c=some (vX c.Zao c.Zag):=by
  unfold Wr
  have hin:∀ (i:Nat) (hi:i < c.Zag.length),(Option.bind (α:=Unit ⊕ Unit) (Option.bind (forR (σ:=Unit) (ρ:=Unit) c.Zao (fun i2 s2=>(Option.bind (ze c.Zag (i:Int)) fun e1=>(bif (e1 == (i2:Int)) then some (.inr ()) else some (.inl ())))) ()) (Sum.elim (fun (s2:Unit)=>some (.inr ())) (fun (y1:Unit)=>some (.inl ())))) (Sum.elim (fun (v1:Unit)=>some (.inl ())) (fun (y2:Unit)=>some (.inr ())))) =
      some (bif decide (0≤c.Zag[i])&&decide (c.Zag[i] < c.Zao) then (.inl ():Unit ⊕ Unit) else .inr ()):=fun i hi=>by
    obtain ⟨o,h1,h2⟩:=Yg (n:=c.Zao) (s0:=()) (f:=(fun i2 s2=>(Option.bind (ze c.Zag (i:Int)) fun e1=>(bif (e1 == (i2:Int)) then some (.inr ()) else some (.inl ()))))) (fun k _=>∀ j:Nat,j < k→c.Zag[i]≠(j:Int)) (fun _:Unit=>0≤c.Zag[i]∧c.Zag[i] < c.Zao) hp (fun j hj=>by omega) (fun k s hk hI=>by
      simp only [qq,List.getElem?_eq_getElem hi,ZaI]
      by_cases he:c.Zag[i]=(k:Int)
      · exact ⟨.inr (),by simp [he],by show 0≤c.Zag[i]∧c.Zag[i] < c.Zao;omega⟩
      · refine ⟨.inl (),by rw [beq_eq_false_iff_ne.2 he];rfl,fun j hj => ?_⟩
        rcases Nat.lt_or_ge j k with h | h
        · exact hI j h
        · obtain rfl:j=k:=by omega
          exact he)
    rw [h1]
    cases o with
    | inl s=>
      have:¬ (0≤c.Zag[i]∧c.Zag[i] < c.Zao):=fun h=>h2 c.Zag[i].toNat (by omega) (by omega)
      have hb:(decide (0≤c.Zag[i])&&decide (c.Zag[i] < c.Zao))=false:=by
        rw [Bool.eq_false_iff];simp only [ne_eq,Bool.and_eq_true,decide_eq_true_eq];exact this
      rw [hb];rfl
    | inr r=>
      have hb:(decide (0≤c.Zag[i])&&decide (c.Zag[i] < c.Zao))=true:=by
        simp only [Bool.and_eq_true,decide_eq_true_eq];exact h2
      rw [hb];rfl
  rw [qW (fun i=>match c.Zag[i]? with | some h=>decide (0≤h)&&decide (h < c.Zao) | none=>true) (fun _=>()) hl (fun i hi=>by
    rw [hin i hi];simp only [List.getElem?_eq_getElem hi])]
  cases hf:(List.range c.Zag.length).find? (fun j=>!(match c.Zag[j]? with | some h=>decide (0≤h)&&decide (h < c.Zao) | none=>true)) with
  | none=>
    simp only [ZaI,Sum.elim_inl]
    have:vX c.Zao c.Zag=true:=List.all_eq_true.2 fun h hh=>by
      obtain ⟨i,hi,rfl⟩:=List.getElem_of_mem hh
      have:=ww hf i hi
      simpa only [List.getElem?_eq_getElem hi] using this
    rw [this]
  | some k=>
    simp only [ZaI,Sum.elim_inr]
    obtain ⟨h1,h2,_⟩:=wx hf
    have:vX c.Zao c.Zag=false:=by
      rw [Bool.eq_false_iff]
      intro h
      have:=List.all_eq_true.1 h c.Zag[k] (List.getElem_mem h1)
      simp only [List.getElem?_eq_getElem h1] at h2
      rw [h2] at this;cases this
    rw [this]
noncomputable def Ja (Zat:Int) (off:List Int):Bool:=((Option.bind (forR (σ:=Int) (ρ:=Unit) (off.length:Int) (fun i2 s2=>(Option.bind (ze off (i2:Int)) fun e2=>(Option.bind (bif decide (e2≤s2) then some true else some (decide (Zat≤e2))) fun v2=>(bif v2 then some (.inr ()) else some (.inl e2))))) (-1)) (Sum.elim (fun (s2:Int)=>some true) (fun (y2:Unit)=>some false)))).getD false
theorem zkK (Zat:Int) (off:List Int) (hl:off.length < 4611686018427387904):(Option.bind (forR (σ:=Int) (ρ:=Unit) (off.length:Int) (fun i2 s2=>(Option.bind (ze off (i2:Int)) fun e2=>(Option.bind (bif decide (e2≤s2) then some true else some (decide (Zat≤e2))) fun v2=>(bif v2 then some (.inr ()) else some (.inl e2))))) (-1)) (Sum.elim (fun (s2:Int)=>some true) (fun (y2:Unit)=>some false)))=some (Ja Zat off):=by
  obtain ⟨o,h1,h2⟩:=wR (n:=off.length) (s0:=(-1:Int)) (f:=(fun i2 s2=>(Option.bind (ze off (i2:Int)) fun e2=>(Option.bind (bif decide (e2≤s2) then some true else some (decide (Zat≤e2))) fun v2=>(bif v2 then some (.inr ()) else some (.inl e2)))))) (fun _ _=>True) (fun _:Unit=>True) hl trivial (fun i s hi _=>by
    simp only [qq,List.getElem?_eq_getElem hi,ZaI,zm]
    cases (bif decide (off[i]≤s) then true else decide (Zat≤off[i])) with
    | true=>exact ⟨.inr (),rfl,trivial⟩
    | false=>exact ⟨.inl _,rfl,trivial⟩)
  unfold Ja
  rw [h1]
  cases o<;>rfl
noncomputable def ju (c:Zab):Bool:=
  !(decide (c.Zao < 1))&&(!(decide (c.Zat < 1))&&(!((c.Zag.length:Int) == 0)&&(vX c.Zao c.Zag&&(quB c.Zav&&(c.Zaj.all (Vv c.Zag.length c.Zav.length c.Zao)&&Ja c.Zat c.off)))))
theorem kp {α:Type} {l:List α} {f:Nat→Unit→Option (Unit ⊕ Unit)} (p:α→Bool) (hl:l.length < 4611686018427387904) (h:∀ (i:Nat) (hi:i < l.length),f i ()=some (bif p l[i] then .inl () else .inr ())) :
    forR (l.length:Int) f ()=some (bif l.all p then .inl () else .inr ()):=by
  rw [qW (fun i=>match l[i]? with | some x=>p x | none=>true) (fun _=>()) hl (fun i hi=>by rw [h i hi];simp only [List.getElem?_eq_getElem hi])]
  cases hf:(List.range l.length).find? (fun j=>!(match l[j]? with | some x=>p x | none=>true)) with
  | none=>
    have:l.all p=true:=List.all_eq_true.2 fun x hx=>by
      obtain ⟨i,hi,rfl⟩:=List.getElem_of_mem hx
      have:=ww hf i hi
      simpa only [List.getElem?_eq_getElem hi] using this
    rw [this];rfl
  | some k=>
    obtain ⟨h1,h2,_⟩:=wx hf
    have:l.all p=false:=by
      rw [Bool.eq_false_iff]
      intro h
      have:=List.all_eq_true.1 h l[k] (List.getElem_mem h1)
      simp only [List.getElem?_eq_getElem h1] at h2
      rw [h2] at this;cases this
    rw [this];rfl
theorem zfR (c:Zab) (hp:c.Zao < 4611686018427387904) (hh:c.Zag.length < 4611686018427387904) (hu:c.Zav.length < 1000) (ha:c.Zaj.length < 1000) (ho:c.off.length < 4611686018427387904):Z8 c=some (ju c):=by
  unfold Z8
  obtain ⟨k,hk⟩:=WN c.Zav hu
  have hacts:=kp (l:=c.Zaj) (f:=(fun i1 s1=>(Option.bind (ze c.Zaj (i1:Int)) fun e1=>(Option.bind (wS c e1) fun r3=>(bif r3 then some (.inl ()) else some (.inr ())))))) (Vv c.Zag.length c.Zav.length c.Zao) (by omega) (fun i hi=>by
    simp only [qq,List.getElem?_eq_getElem hi,ZaI,zcJ,zm])
  rw [zi8 c hp hh,hk]
  simp only [ZaI]
  rw [hacts]
  simp only [ZaI]
  rw [zkK c.Zat c.off ho]
  simp only [ZaI,zm,ju]
  cases decide (c.Zao < 1)<;>cases decide (c.Zat < 1)<;>cases ((c.Zag.length:Int) == 0)<;>cases vX c.Zao c.Zag<;>cases quB c.Zav<;>cases c.Zaj.all (Vv c.Zag.length c.Zav.length c.Zao) <;>
    simp only [cond_true,ZaH,Bool.not_true,Bool.not_false,ZaI,Bool.true_and,Bool.false_and,Sum.elim_inl,Sum.elim_inr]
def Zb (Zaj:List Zar) (a:Int):Bool:=match ze Zaj a with
  | some e=>e.kind == 1&&e.Zap == -1
  | none=>false
theorem Yl (c:Zab) (a:Int):j6 c a=some (Zb c.Zaj a):=by
  unfold j6 Zb
  by_cases h:0≤a∧a < c.Zaj.length
  · obtain ⟨h1,h2⟩:=jc h.1 h.2
    simp only [h2,h.1,h.2,decide_true,cond_true,ZaI,zm,Bool.cond_false_right]
  · rw [zac h]
    by_cases h1:0≤a
    · have:¬ a < c.Zaj.length:=fun h2=>h ⟨h1,h2⟩
      simp only [h1,this,decide_true,decide_false,cond_true,ZaH,ZaI]
    · simp only [h1,decide_false,ZaH,ZaI]
def WP (nh:Nat) (Zaj:List Zar) (k:Zan):Bool:=
  bif k.kind == 4 then k.Zap == -1&&(k.need == 1&&(k.Zay == 0 && !k.final))
  else (xV nh k.Zap && !Zb Zaj k.act)&&(bif k.kind == 1 then decide (1≤k.need)&&(decide (k.need≤9)&&(decide (0≤k.Zay)&&decide (k.Zay≤400)))
    else bif k.kind == 2 then k.need == 1&&k.Zay == 0 else k.kind == 3&&(k.need == 1&&(k.Zay == 0 && !k.final)))
theorem zbd (c:Zab) (k:Zan):vV c k=some (WP c.Zag.length c.Zaj k):=by
  simp only [vV,Q9,Yl,ZaI,zm,WP]
  cases (k.kind == 4)<;>cases xV c.Zag.length k.Zap<;>cases Zb c.Zaj k.act<;>cases (k.kind == 1)<;>cases (k.kind == 2)<;>cases (k.kind == 3) <;>
    simp only [cond_true,ZaH,Bool.not_true,Bool.not_false,ZaI,Bool.true_and,Bool.false_and,Bool.and_false,Bool.cond_false_right,zm]
def WQ (n:Nat) (i:Int) (s:CondT):Bool := !(decide (s.clause < 0))&&(!(decide ((n:Int)≤s.clause))&&(!(s.clause == i)&&(!(decide (s.is < 1)) && !(decide (4 < s.is)))))
noncomputable def zeq (nh:Nat) (Zav:List ZaD) (k:Zan):Bool:=
  (k.kind == 1||k.kind == 2)&&((match ze Zav k.unit with | some u=>u.kind == 2 | none=>false)&&(zat k.value&&xV nh k.to))
def Jb (Zaj:List Zar) (k:Zan):Bool:=(k.pause == -1&&k.ZaC == -1)||(!(k.pause == k.ZaC)&&(Zb Zaj k.pause&&Zb Zaj k.ZaC))
noncomputable def vC (nh:Nat) (Zav:List ZaD) (Zaj:List Zar) (n:Nat) (i:Int) (k:Zan):Bool:=
  (!(decide (k.act < 0))&&(!(decide ((Zaj.length:Int)≤k.act))&&(!(decide (k.after < 1)) && !(decide (400 < k.after))))) &&
  ((WP nh Zaj k && !(decide (8 < (k.start.length:Int)))) &&
  (k.start.all (WQ n i) &&
  (Jb Zaj k &&
  (bif k.unit == -1 then JM k.value&&k.to == -1 else zeq nh Zav k))))
theorem YL (c:Zab) (i:Nat) (k:Zan) (hk:c.Zaf[i]?=some k) (hs:k.start.length < 4611686018427387904):wc c i=some (vC c.Zag.length c.Zav c.Zaj c.Zaf.length i k):=by
  unfold wc
  have hst:=kp (l:=k.start) (f:=(fun i1 s1=>(Option.bind (ze k.start (i1:Int)) fun e2=>(Option.bind (bif decide (e2.clause < 0) then some true else (bif decide ((c.Zaf.length:Int)≤e2.clause) then some true else (bif (e2.clause == (i:Int)) then some true else (bif decide (e2.is < 1) then some true else some (decide (4 < e2.is)))))) fun v3=>(bif v3 then some (.inr ()) else some (.inl ())))))) (WQ c.Zaf.length i) hs (fun j hj=>by
    simp only [qq,List.getElem?_eq_getElem hj,ZaI,zm,WQ]
    cases decide (k.start[j].clause < 0)<;>cases decide ((c.Zaf.length:Int)≤k.start[j].clause)<;>cases (k.start[j].clause == (i:Int))<;>cases decide (k.start[j].is < 1)<;>cases decide (4 < k.start[j].is)<;>rfl)
  have hu:(bif decide (0≤k.unit) then (bif decide (k.unit < (c.Zav.length:Int)) then (Option.bind (ze c.Zav k.unit) fun e3=>(bif (e3.kind == 2) then (Option.bind (xb k.value) fun r5=>(bif r5 then (Option.bind (q9 c k.to) fun r6=>some r6) else some false)) else some false)) else some false) else some false) =
      some ((match ze c.Zav k.unit with | some u=>u.kind == 2 | none=>false)&&(zat k.value&&xV c.Zag.length k.to)):=by
    by_cases h:0≤k.unit∧k.unit < c.Zav.length
    · obtain ⟨h1,h2⟩:=jc h.1 h.2
      simp only [h2,h.1,h.2,decide_true,cond_true,ZaI,zm,Bool.cond_false_right,WO,Q9]
    · rw [zac h]
      by_cases h1:0≤k.unit
      · have:¬ k.unit < c.Zav.length:=fun h2=>h ⟨h1,h2⟩
        simp only [h1,this,decide_true,decide_false,cond_true,ZaH,Bool.false_and]
      · simp only [h1,decide_false,ZaH,Bool.false_and]
  have hp:(Option.bind (bif (k.pause == (-1)) then some (!(k.ZaC == (-1))) else some true) fun v4=>(bif v4 then (Option.bind (bif (k.pause == k.ZaC) then some true else (Option.bind (j6 c k.pause) fun r2=>(bif r2 then (Option.bind (j6 c k.ZaC) fun r3=>some (!r3)) else some true))) fun v5=>(bif v5 then some (.inr ()) else some (.inl ()))) else some (.inl ()))) =
      some (bif Jb c.Zaj k then (.inl ():Unit ⊕ Unit) else .inr ()):=by
    simp only [Yl,Jb,zm,ZaI]
    cases (k.pause == -1)<;>cases (k.ZaC == -1)<;>cases (k.pause == k.ZaC)<;>cases Zb c.Zaj k.pause<;>cases Zb c.Zaj k.ZaC<;>rfl
  rw [zo hk]
  simp only [ZaI]
  rw [hst]
  simp only [ZaI]
  rw [hp,hu]
  simp only [ZaI,zbd,yp,zm,vC,zeq,JM]
  cases decide (k.act < 0)<;>simp only [cond_true,ZaH,Bool.not_true,Bool.not_false,Bool.true_and,Bool.false_and,ZaI]
  cases decide ((c.Zaj.length:Int)≤k.act)<;>simp only [cond_true,ZaH,Bool.not_true,Bool.not_false,Bool.true_and,Bool.false_and,ZaI]
  cases decide (k.after < 1)<;>simp only [cond_true,ZaH,Bool.not_true,Bool.not_false,Bool.true_and,Bool.false_and,ZaI]
  cases decide (400 < k.after)<;>simp only [cond_true,ZaH,Bool.not_true,Bool.not_false,Bool.true_and,Bool.false_and,ZaI]
  cases WP c.Zag.length c.Zaj k<;>simp only [cond_true,ZaH,Bool.not_true,Bool.not_false,Bool.true_and,Bool.false_and,ZaI]
  cases decide (8 < (k.start.length:Int))<;>simp only [cond_true,ZaH,Bool.not_true,Bool.not_false,Bool.true_and,Bool.false_and,ZaI]
  cases k.start.all (WQ c.Zaf.length i)<;>simp only [cond_true,ZaH,Bool.not_true,Bool.not_false,Bool.true_and,Bool.false_and,ZaI,Sum.elim_inl,Sum.elim_inr]
  cases Jb c.Zaj k<;>simp only [cond_true,ZaH,Bool.true_and,Bool.false_and,Sum.elim_inl,Sum.elim_inr]
  cases (k.kind == 1)<;>cases (k.kind == 2)<;>simp only [cond_true,ZaH,Bool.cond_false_right,Bool.true_or,Bool.or_true,Bool.or_self,Bool.true_and,Bool.false_and]
def kq (c:Zab):Bool:=decide (12 < c.Zao)||(decide (2000 < c.Zat)||(decide (12 < (c.Zag.length:Int))||(decide (20 < (c.Zav.length:Int))||(decide (60 < (c.Zaj.length:Int))||decide (400 < (c.Zaf.length:Int))))))
noncomputable def clB (c:Zab) (i:Nat):Bool:=match c.Zaf[i]? with
  | some k=>vC c.Zag.length c.Zav c.Zaj c.Zaf.length i k
  | none=>true
noncomputable def qe (c:Zab):Int×Int:=
  bif kq c then (3,-1) else bif ju c then (match (List.range c.Zaf.length).find? (fun j=>!clB c j) with | none=>(0,-1) | some j=>(1,(j:Int))) else (1,-1)
theorem zht (c:Zab) (ho:c.off.length < 4611686018427387904) (hs:∀ k∈c.Zaf,k.start.length < 4611686018427387904):vr c=some (qe c):=by
  unfold vr qe
  simp only [zm,Bool.cond_true_left,ZaI]
  show (bif kq c then _ else _)=_
  cases hlim:kq c with
  | true=>rfl
  | false=>
    simp only [kq,Bool.or_eq_false_iff,decide_eq_false_iff_not] at hlim
    obtain ⟨h1,h2,h3,h4,h5,h6⟩:=hlim
    simp only [ZaH,zfR c (by omega) (by omega) (by omega) (by omega) ho,ZaI]
    cases ju c with
    | false=>rfl
    | true=>
      simp only [cond_true]
      rw [qW (fun i=>clB c i) (fun i=>(i:Int)) (by omega) (fun i hi=>by
        rw [YL c i c.Zaf[i] (List.getElem?_eq_getElem hi) (hs _ (List.getElem_mem hi))]
        simp only [ZaI,clB,List.getElem?_eq_getElem hi,zm])]
      cases (List.range c.Zaf.length).find? (fun j=>!clB c j)<;>rfl
end Go.Proofs.YtlpmnmbebkdocaaGreatDoor
namespace Go.Proofs.YtlpmnmbebkdocaaGreatDoor
open Go.RowKit
set_option linter.unusedSimpArgs false
set_option linter.unusedVariables false
set_option maxRecDepth 100000
theorem LOk.lt {α:Type} {n:Nat} {p:α→Prop} {l:List α} (h:LOk n p l) (hn:0 < n):l.length < 4611686018427387904:=by
  have h1:=h.1
  have h2:reachBytes≤140737488355328:=by decide +kernel
  have:=Nat.le_mul_of_pos_right l.length hn
  omega
theorem Zab.Ok.valid {c:Zab} (hc:c.Ok):vr c=some (qe c):=
  zht c (hc.off.lt (by omega)) (fun k hk=>(hc.Zaf.2 k hk).start.lt (by omega))
inductive ValidIs (c:Zab):Int×Int→Prop where
  | lim (h:kq c=true):ValidIs c (3,-1)
  | frame (h:kq c=false) (hf:ju c=false):ValidIs c (1,-1)
  | bad (h:kq c=false) (hf:ju c=true) (i:Nat) (hi:i < c.Zaf.length) (hb:clB c i=false) (hl:∀ j,j < i→clB c j=true):ValidIs c (1,(i:Int))
  | ok (h:kq c=false) (hf:ju c=true) (ha:∀ j,j < c.Zaf.length→clB c j=true):ValidIs c (0,-1)
theorem zfS (c:Zab):ValidIs c (qe c):=by
  unfold qe
  cases h:kq c with
  | true=>exact .lim h
  | false=>
    simp only [ZaH]
    cases hf:ju c with
    | false=>exact .frame h hf
    | true=>
      simp only [cond_true]
      cases hq:(List.range c.Zaf.length).find? (fun j=>!clB c j) with
      | none=>exact .ok h hf (ww hq)
      | some j=>obtain ⟨h1,h2,h3⟩:=wx hq;exact .bad h hf j h1 h2 h3
theorem yv {c:Zab} (h:(qe c).1=0):kq c=false∧ju c=true∧(∀ j,j < c.Zaf.length→clB c j=true)∧qe c=(0,-1):=by
  have hv:=zfS c
  generalize hr:qe c=r at h hv ⊢
  cases hv with
  | lim _=>simp at h
  | frame _ _=>simp at h
  | bad _ _ i _ _ _=>simp at h
  | ok a b d=>exact ⟨a,b,d,rfl⟩
theorem zi9 (x y:Int):Zs x y=some (decide (x < y)):=by
  simp [Zs,Z9]
theorem zja {a b:Int} (h0:0≤a) (h1:a≤b) (h2:b < 4611686018427387904):QS .u64 .u64 (IntKind.u64.wrap (IntKind.i64.wrap (a+b))) 1=some ((a+b) / 2):=by
  rw [zY (by omega) (by omega),ze0 (by omega) (by omega)]
  unfold QS
  rw [if_neg (by omega)]
  have:(2:Int) ^ (min (1:Int).toNat IntKind.u64.bits)=2:=by decide
  rw [this,Int.fdiv_eq_ediv_of_nonneg _ (by omega)]
def xJ (l:List Int) (v:Int):Option Int:=if v∈l then some (l.idxOf v:Int) else none
theorem zfT {l:List Int} (hn:l.Nodup) {i:Nat} (hi:i < l.length):l.idxOf l[i]=i:=by
  have h1:l.idxOf l[i] < l.length:=List.idxOf_lt_length_iff.2 (List.getElem_mem hi)
  have h2:=List.getElem_idxOf h1
  exact (List.getElem?_inj h1 hn).1 (by rw [List.getElem?_eq_getElem h1,List.getElem?_eq_getElem hi,h2])
theorem zhu {l:List Int} (hn:l.Nodup) {i:Nat} {v:Int} (h:l[i]?=some v):xJ l v=some (i:Int):=by
  obtain ⟨hi,rfl⟩:=List.getElem?_eq_some_iff.1 h
  unfold xJ
  rw [if_pos (List.getElem_mem hi),zfT hn hi]
theorem Vw (l:List Int) (v:Int) (hs:l.Pairwise (· < ·)) (hl:l.length < 4611686018427387904):∃ r:Int,js l v=some (r,(xJ l v).isSome)∧∀ p,xJ l v=some p→r=p:=by
  have hp:=List.pairwise_iff_getElem.1 hs
  unfold js
  have hit:Ret (iter (σ:=Int×Int) (ρ:=Int) (fun s1=>(bif decide (s1.1 < s1.2) then (Option.bind (QS .u64 .u64 (IntKind.u64.wrap (IntKind.i64.wrap (s1.1+s1.2))) 1) fun e1=>(Option.bind (ze l (IntKind.i64.wrap e1)) fun e2=>(Option.bind (Zs e2 v) fun r1=>(bif r1 then some (.inl ((IntKind.i64.wrap ((IntKind.i64.wrap e1)+1)),s1.2)) else some (.inl (s1.1,(IntKind.i64.wrap e1))))))) else some (.inr s1.1))) (0,(l.length:Int)))
      (fun r=>0≤r∧r≤l.length∧(∀ (j:Nat) (hj:j < l.length),(j:Int) < r→l[j] < v)∧(∀ (j:Nat) (hj:j < l.length),r≤(j:Int)→v≤l[j])):=by
    refine Ret.iter (fun s=>0≤s.1∧s.1≤s.2∧s.2≤l.length∧(∀ (j:Nat) (hj:j < l.length),(j:Int) < s.1→l[j] < v)∧(∀ (j:Nat) (hj:j < l.length),s.2≤(j:Int)→v≤l[j])) (fun s=>(s.2 - s.1).toNat) ⟨by simp,by simp,by simp,fun j hj h=>by simp only at h;omega,fun j hj h=>by simp only at h;omega⟩ ?_
    rintro ⟨lo,hi⟩ ⟨h1,h2,h3,h4,h5⟩
    simp only at h1 h2 h3 h4 h5 ⊢
    refine Ret.ite (fun hb => ?_) (fun hb => ?_)
    · have hlt:=of_decide_eq_true hb
      rw [zja h1 h2 (by omega)]
      simp only [ZaI]
      have hm1:lo≤(lo+hi) / 2:=by omega
      have hm2:(lo+hi) / 2 < hi:=by omega
      generalize (lo+hi) / 2=m at hm1 hm2 ⊢
      rw [zY (by omega) (by omega)]
      obtain ⟨hi',e⟩:=jc (l:=l) (n:=m) (by omega) (by omega)
      rw [e,zY (by omega) (by omega)]
      simp only [ZaI,zi9]
      refine Ret.ite (fun hb2 => ?_) (fun hb2 => ?_)
      · have hv:=of_decide_eq_true hb2
        refine Ret.some ⟨⟨by show 0≤m+1;omega,by show m+1≤hi;omega,h3,fun j hj hjm => ?_,h5⟩,by show (hi - (m+1)).toNat < (hi - lo).toNat;omega⟩
        have hjm:(j:Int) < m+1:=hjm
        rcases Nat.lt_or_ge j m.toNat with h | h
        · have:=hp j m.toNat hj hi' h;omega
        · obtain rfl:j=m.toNat:=by omega
          exact hv
      · have hv:¬ l[m.toNat] < v:=of_decide_eq_false hb2
        refine Ret.some ⟨⟨h1,by show lo≤m;omega,by show m≤(l.length:Int);omega,h4,fun j hj hjm => ?_⟩,by show (m - lo).toNat < (hi - lo).toNat;omega⟩
        have hjm:m≤(j:Int):=hjm
        rcases Nat.lt_or_ge m.toNat j with h | h
        · have:=hp m.toNat j hi' hj h;omega
        · obtain rfl:j=m.toNat:=by omega
          omega
    · have hlt:¬ lo < hi:=of_decide_eq_false hb
      have:lo=hi:=by omega
      subst this
      exact Ret.some ⟨h1,h3,h4,h5⟩
  obtain ⟨r,hr,hr0,hr1,hr2,hr3⟩:=hit
  rw [hr]
  simp only [ZaI]
  by_cases hlt:r < (l.length:Int)
  · obtain ⟨hi',e⟩:=jc (l:=l) (n:=r) hr0 hlt
    simp only [hlt,decide_true,cond_true,e,ZaI]
    by_cases hv:l[r.toNat]=v
    · have hpos:xJ l v=some (r.toNat:Int):=zhu (zdX hs) (by rw [List.getElem?_eq_getElem hi',hv])
      refine ⟨r,by simp [hv,hpos],fun p hp => ?_⟩
      rw [hpos] at hp;cases hp;omega
    · have hn:xJ l v=none:=by
        unfold xJ
        rw [if_neg]
        intro hm
        obtain ⟨j,hj,e2⟩:=List.getElem_of_mem hm
        rcases Nat.lt_trichotomy j r.toNat with h | h | h
        · have:=hr2 j hj (by omega);omega
        · subst h;exact hv e2
        · have h6:=hp r.toNat j hi' hj h
          have h7:=hr3 r.toNat hi' (by omega)
          omega
      refine ⟨r,?_,fun p hp=>by rw [hn] at hp;cases hp⟩
      rw [hn]
      have:(l[r.toNat] == v)=false:=beq_eq_false_iff_ne.2 hv
      simp [this,yM]
  · have hn:xJ l v=none:=by
      unfold xJ
      rw [if_neg]
      intro hm
      obtain ⟨j,hj,e2⟩:=List.getElem_of_mem hm
      have:=hr2 j hj (by omega);omega
    refine ⟨r,?_,fun p hp=>by rw [hn] at hp;cases hp⟩
    rw [hn]
    simp [hlt]
theorem zhv {Zat:Int} {off:List Int} (hl:off.length < 4611686018427387904) (h:Ja Zat off=true):(off.length:Int)≤Zat∨off.length=0:=by
  have e:Ja Zat off=kg Zat (-1) off:=by
    unfold Ja
    rw [zgE Zat off hl (-1)]
    cases kg Zat (-1) off<;>rfl
  rw [e] at h
  rcases zad h with h1 | h1<;>omega
structure Small (c:Zab):Prop where
  Zao:1≤c.Zao∧c.Zao≤12
  Zat:1≤c.Zat∧c.Zat≤2000
  Zag:c.Zag.length≤12
  Zav:c.Zav.length≤20
  Zaj:c.Zaj.length≤60
  Zaf:c.Zaf.length≤400
  off:c.off.length≤2000
  start:∀ k∈c.Zaf,k.start.length≤8
  cond:∀ (i:Nat) (k:Zan),c.Zaf[i]?=some k→∀ s∈k.start,0≤s.clause∧s.clause < c.Zaf.length∧s.clause≠(i:Int)
theorem qm {c:Zab} (ho:c.off.length < 4611686018427387904) (h:(qe c).1=0):Small c:=by
  obtain ⟨h1,h2,h3,_⟩:=yv h
  simp only [kq,Bool.or_eq_false_iff,decide_eq_false_iff_not] at h1
  obtain ⟨a1,a2,a3,a4,a5,a6⟩:=h1
  simp only [ju,Bool.and_eq_true,Bool.not_eq_true',decide_eq_false_iff_not] at h2
  obtain ⟨b1,b2,b3,b4,b5,b6,b7⟩:=h2
  have hcl:∀ (i:Nat) (k:Zan),c.Zaf[i]?=some k→vC c.Zag.length c.Zav c.Zaj c.Zaf.length i k=true:=fun i k hk=>by
    have:=h3 i (List.getElem?_eq_some_iff.1 hk).1
    simp only [clB,hk] at this
    exact this
  refine ⟨⟨by omega,by omega⟩,⟨by omega,by omega⟩,by omega,by omega,by omega,by omega,?_,fun k hk => ?_,fun i k hk s hs => ?_⟩
  · rcases zhv ho b7 with h | h<;>omega
  · obtain ⟨i,hi,e⟩:=List.getElem_of_mem hk
    have:=hcl i k (by rw [←e];exact List.getElem?_eq_getElem hi)
    simp only [vC,Bool.and_eq_true,Bool.not_eq_true',decide_eq_false_iff_not] at this
    omega
  · have:=hcl i k hk
    simp only [vC,Bool.and_eq_true] at this
    have:=List.all_eq_true.1 this.2.2.1 s hs
    simp only [WQ,Bool.and_eq_true,Bool.not_eq_true',decide_eq_false_iff_not,beq_eq_false_iff_ne] at this
    exact ⟨by omega,by omega,this.2.2.1⟩
theorem kR {α:Type} {by_:Nat} {l:List α} (h:l.length*by_≤140737488355328):jl by_ l=some l:=by unfold jl;rw [if_pos h]
end Go.Proofs.YtlpmnmbebkdocaaGreatDoor
