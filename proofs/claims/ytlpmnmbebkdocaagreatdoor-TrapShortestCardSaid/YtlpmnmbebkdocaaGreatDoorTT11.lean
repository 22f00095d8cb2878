/-
  Functions of the program: what they compute, and plans of their code that the kernel checks (printed by a program of ours).
  What 'contract.Valid' comes to.
  What Valid says.
  What 'slices.BinarySearch' comes to; sizes of valid contracts.
-/
import Derived.Test.YtlpmnmbebkdocaaGreatDoorTT10
import Derived.Test.YtlpmnmbebkdocaaGreatDoorTT06
import Derived.Test.YtlpmnmbebkdocaaGreatDoorTT07
namespace Go.Proofs.YtlpmnmbebkdocaaGreatDoor
open Go.RowKit
set_option linter.unusedSimpArgs false
set_option linter.unusedVariables false
set_option maxRecDepth 100000
noncomputable def yP (c:Zab) (states:List Zac):Option (Option (List (Int×Zax))):=
  (Option.bind (forR (σ:=(List (ByteArray×Int))) (ρ:=Unit) (states.length:Int) (fun i1 s1=>(Option.bind (ze states (i1:Int)) fun e1=>(Option.bind (wx e1) fun r1=>some (.inl (zP r1 (i1:Int) s1))))) []) (Sum.elim (fun (s1:(List (ByteArray×Int)))=>(Option.bind (forR (σ:=(List (Int×Zax))) (ρ:=Unit) (states.length:Int) (fun i2 s2=>(Option.bind (Option.bind (ze states (i2:Int)) fun e2=>(bif (e2.day == c.Zat) then some s2 else (Option.bind (iter (σ:=Int×(List (Int×Zax))) (ρ:=(List (Int×Zax))) (fun s3=>(bif decide (s3.1 < (c.Zai.length:Int)) then (Option.bind (Option.bind (d_Step c e2 s3.1) fun r2=>(Option.bind (wx r2.1) fun r3=>(Option.bind (bif ((zq ((zq r3 s1).getD 0) s3.2).isSome) then some false else some (!(((zq r3 s1).getD 0) == 0))) fun v1=>(bif v1 then some (zP ((zq r3 s1).getD 0) ({from_:=(i2:Int),step:=s3.1}:Zax) s3.2) else some s3.2)))) fun (v2:(List (Int×Zax)))=>some (.inl ((IntKind.i64.wrap (s3.1+1)),v2))) else some (.inr s3.2))) ((-1),s2)) (fun (y1:(List (Int×Zax)))=>some y1)))) fun (v3:(List (Int×Zax)))=>some (.inl v3))) []) (Sum.elim (fun (s2:(List (Int×Zax)))=>some (some s2)) (fun _=>none)))) (fun _=>none)))
noncomputable def zhy (c:Zab) (states:List Zac):Zad (Option (List (Int×Zax))):=
  .reg 2 (.ln 2174 Zac.row states (.use 1 2174 (.forR (σ:=(List (ByteArray×Int))) (ρ:=Unit) 2116 20 (states.length:Int) [] (.k [1,2,5,18,19] (fun _=>[]) [0] (fun s1=>[(2,.map (zu IV.str IV.i64 s1))]) 7 fun _=>(.ents rfl .nil)) (fun i1 s1=>.sel 2116 (.reg 0 (.ix 2152 Zac.row states (i1:Int) fun e1=>.use 1 2152 (.reg 0 (.call 2154 (zbF e1) fun r1=>.use 2 2154 (.f1 2156 (.u (zu IV.str IV.i64 (zP r1 (i1:Int) s1))) (xA IV.i64 r1 (i1:Int) s1) (.use 4 2156 (.ret (.inl (zP r1 (i1:Int) s1)))))))))) fun os1=>.case os1 (fun s1=>.sel 2116 (.reg 1 (.ln 2172 Zac.row states (.use 1 2172 (.forR (σ:=(List (Int×Zax))) (ρ:=Unit) 2118 33 (states.length:Int) [] (.k [2,5,8,31,32] (fun _=>[]) [0] (fun s2=>[(2,.map (zu IV.str IV.i64 s1)),(8,.map (zu IV.i64 Zax.iv s2))]) 13 fun _=>(.ents rfl (.ents rfl .nil))) (fun i2 s2=>.sel 2118 (.cut (β:=(List (Int×Zax))) 1 (.k [2,5,8,31,32,33] (fun _=>[]) [0] (fun v3=>[(2,.map (zu IV.str IV.i64 s1)),(8,.map (zu IV.i64 Zax.iv v3))]) 25 fun _=>(.ents rfl (.ents rfl .nil))) (.reg 0 (.ix 2158 Zac.row states (i2:Int) fun e2=>.use 1 2158 (.ite 2136 (e2.day == c.Zat) (.sel 2136 (.ret s2)) (.sel 2136 (.iter (σ:=Int×(List (Int×Zax))) (ρ:=(List (Int×Zax))) ((-1),s2) (.k [2,5,8,31,32,33,10,9] (fun s3=>[(11,vI s3.1)]) [0,17] (fun s3=>[(2,.map (zu IV.str IV.i64 s1)),(8,.map (zu IV.i64 Zax.iv s3.2))]) 26 fun _=>(.ents rfl (.ents rfl .nil))) (fun s3=>.reg 0 (.ln 2170 Zaq.row c.Zai (.use 3 2170 (.ite 2146 (decide (s3.1 < (c.Zai.length:Int))) (.sel 2146 (.cut (β:=(List (Int×Zax))) 1 (.k [2,5,8,31,32,33,10,9,11] (fun _=>[]) [0,17] (fun v2=>[(2,.map (zu IV.str IV.i64 s1)),(8,.map (zu IV.i64 Zax.iv v2))]) 61 fun _=>(.ents rfl (.ents rfl .nil))) (.reg 0 (.call 2160 (kn c e2 s3.1) fun r2=>.use 3 2160 (.reg 0 (.call 2162 (zbF r2.1) fun r3=>.use 2 2162 (.f1 2168 (.l (vI ((zq r3 s1).getD 0)) ((zq r3 s1).isSome)) (wN IV.i64 0 r3 s1) (.use 3 2168 (.reg 0 (.f1 2166 (.l (.imm (.agg (Zax.row ((zq ((zq r3 s1).getD 0) s3.2).getD ({from_:=0,step:=0}:Zax))))) ((zq ((zq r3 s1).getD 0) s3.2).isSome)) (Yf Zax.iv ({from_:=0,step:=0}:Zax) ((zq r3 s1).getD 0) s3.2) (.use 2 2166 (.cut (β:=Bool) 1 (.k [2,5,8,31,32,33,10,9,11,14] (fun v1=>[(72,vB v1)]) [0,17,38,52] (fun _=>[(2,.map (zu IV.str IV.i64 s1)),(8,.map (zu IV.i64 Zax.iv s3.2))]) 61 fun _=>(.ents rfl (.ents rfl .nil))) (.reg 0 (.ite 2148 ((zq ((zq r3 s1).getD 0) s3.2).isSome) (.use 3 2149 (.ret false)) (.use 3 2149 (.ret (!(((zq r3 s1).getD 0) == 0)))))) fun v1=>.ite 2150 v1 (.sel 2150 (.reg 0 (.f1 2164 (.u (zu IV.i64 Zax.iv (zP ((zq r3 s1).getD 0) ({from_:=(i2:Int),step:=s3.1}:Zax) s3.2))) (zfr Zax.iv ((zq r3 s1).getD 0) ({from_:=(i2:Int),step:=s3.1}:Zax) s3.2) (.use 5 2164 (.ret (zP ((zq r3 s1).getD 0) ({from_:=(i2:Int),step:=s3.1}:Zax) s3.2)))))) (.sel 2150 (.ret s3.2)))))))))))) fun v2=>.ret (.inl ((IntKind.i64.wrap (s3.1+1)),v2)))) (.sel 2146 (.ret (.inr s3.2))))))) fun y1=>.ret y1))))) fun v3=>.ret (.inl v3))) fun os2=>.case os2 (fun s2=>.sel 2118 (.fin [8] (.map 8) [(8,.map (zu IV.i64 Zax.iv s2))] (qB IV.i64 Zax.iv (some s2)) (jq _ _ _ (zD (zkl IV.i64 Zax.iv 8 s2 rfl) jD)) (some s2))) fun _=>.none))))) fun _=>.none)))
theorem zhz (c:Zab) (states:List Zac) (res:Option (List (Int×Zax))) (hd:yP c states=some res):APure C0 205 [.agg (Zab.row c),.slice (List.map Zac.row states)] (qB IV.i64 Zax.iv res):=
  Zad.pure (iv:=fun res=>qB IV.i64 Zax.iv res) (zhy c states) (by kernel_rfl) (Zad.run_of hd (by kernel_rfl))
noncomputable def ko (p1:List Int):Option (List Int):=
  (Option.bind (iter (σ:=Int×Int×(List Int)) (ρ:=(List Int)) (fun s1=>(bif decide (s1.1 < s1.2.1) then (Option.bind (zk p1.length s1.2.1) fun k1=>(Option.bind (s1.2.2[k1]?) fun e1=>(Option.bind (zk p1.length s1.1) fun k2=>(Option.bind (s1.2.2[k2]?) fun e2=>(Option.bind ((s1.2.2.set k2 e1)[k1]?) fun e3=>some (.inl ((IntKind.i64.wrap (s1.1+1)),(IntKind.i64.wrap (s1.2.1 - 1)),((s1.2.2.set k2 e1).set k1 e2)))))))) else some (.inr s1.2.2))) (0,(IntKind.i64.wrap ((p1.length:Int) - 1)),p1)) (fun (y1:(List Int))=>some y1))
noncomputable def zjc (p1:List Int):Zad (List Int):=
  .iter (σ:=Int×Int×(List Int)) (ρ:=(List Int)) (0,(IntKind.i64.wrap ((p1.length:Int) - 1)),p1) (.k [0] (fun s1=>[(2,vI s1.1),(3,vI s1.2.1)]) [] (fun s1=>[(0,.rows 1 (zb zc s1.2.2))]) 6 fun _=>(.rows rfl .nil)) (fun s1=>.ite 2180 (decide (s1.1 < s1.2.1)) (.sel 2180 (.reg 0 (.b1 2182 (zk p1.length s1.2.1) (fun k1=>.k k1) (fun k1 hk1=>(zs hk1)) fun k1=>.b1 2184 (s1.2.2[k1]?) (fun e1=>.ar (zz (zc e1))) (fun e1 he1=>(zT zc he1)) fun e1=>.b1 2186 (zk p1.length s1.1) (fun k2=>.k k2) (fun k2 hk2=>(zs hk2)) fun k2=>.bind (s1.2.2[k2]?) (fun e2=>[(2188,([.ar (zz (zc e2))],_)),(2190,([.aw (zz (zc e2)) (zb zc (s1.2.2.set k2 e1))],_))]) (fun e2 he2=>(.c1 (zT zc he2) (.c1 (zZ zc e1 he2) .nil))) fun e2=>.b1 2192 ((s1.2.2.set k2 e1)[k1]?) (fun e3=>.aw (zz (zc e3)) (zb zc ((s1.2.2.set k2 e1).set k1 e2))) (fun e3 he3=>(zZ zc e2 he3)) fun e3=>.us [(6,2182),(7,2184),(10,2186),(11,2188),(12,2186),(13,2190),(14,2182),(15,2192)] (.ret (.inl ((IntKind.i64.wrap (s1.1+1)),(IntKind.i64.wrap (s1.2.1 - 1)),((s1.2.2.set k2 e1).set k1 e2))))))) (.sel 2180 (.ret (.inr s1.2.2)))) fun y1=>.ret y1
theorem zjd (p1:List Int) (res:(List Int)) (hd:ko p1=some res):DOk C0 213 [.Zak 0 0 p1.length] [(0,.rows 1 (zb zc p1))] 1 (.tuple []) [(0,.rows 1 (zb zc res))] 0:=
  Zad.det (R:=fun res=>.tuple []) (H:=fun res=>[(0,.rows 1 (zb zc res))]) (zjc p1) (.rows rfl .nil) (fun _=>(.rows rfl .nil)) (by kernel_rfl) (fun _=>by kernel_rfl) (by kernel_rfl) (Zad.run_of hd (by kernel_rfl))
noncomputable def jH (came:Option (List (Int×Zax))) (n:Int):Zax:=(zq n (came.getD [])).getD ({from_:=0,step:=0}:Zax)
noncomputable def Qi (came:Option (List (Int×Zax))) (s:List Int×Int):Option ((List Int×Int) ⊕ List Int):=
  bif (!(s.2 == 0)) then Option.bind (zfp (α:=Int) 8 s.1 [(jH came s.2).step]) fun e=>some (.inl (e,(jH came s.2).from_)) else some (.inr s.1)
noncomputable def Qj (came:Option (List (Int×Zax))) (n:Int):Option (List Int):=
  Option.bind (iter (σ:=List Int×Int) (ρ:=List Int) (Qi came) ([],n)) fun l=>Option.bind (ko l) fun r=>Option.bind (eqN l.length r.length) fun _=>some r
theorem zeo {C:CtxY} {nt:Fr} {x:ZaG} {K:Exit→St→Prop} {st:St} {σ ρ γ:Type} {f:σ→Option (σ ⊕ ρ)} {s0:σ} {out:ρ} (hl:iter f s0=some out)
    (Ok:σ→γ→Prop) (S:σ→γ→St) (hmin:∀ s c,Ok s c→st.next≤(S s c).next) (c0:γ) (hok0:Ok s0 c0) (hn0:(S s0 c0).next=st.next) (h0:Weak st (S s0 c0))
    (body:∀ (s:σ) (c:γ) (o:σ ⊕ ρ),Ok s c→f s=some o→awp C nt x (zkm Ok S K (.inr out) o) (S s c)):awp C nt (.loop x) K st:=by
  obtain ⟨k,hk⟩:=wp.1 hl
  refine Xo (ι:={p:Nat×σ×γ // iterN f p.1 p.2.1=some out∧Ok p.2.1 p.2.2}) (fun p=>S p.1.2.1 p.1.2.2) (fun p=>p.1.1) ⟨(k,s0,c0),hk,hok0⟩ (fun p=>by rw [hn0];exact hmin _ _ p.2.2) h0 (Nat.le_of_eq hn0.symm) ?_
  rintro ⟨⟨i,s,c⟩,hf,hok⟩
  simp only at hf hok
  cases i with
  | zero=>cases hf
  | succ i=>
    simp only [iterN] at hf
    split at hf
    · cases hf
    · rename_i r hr
      cases hf
      refine qS ?_ (body s c _ hok hr)
      intro e st' hK
      cases e with
      | normal=>obtain ⟨s',_,h1,_⟩:=hK;cases h1
      | _=>obtain ⟨y,h1,h2⟩:=hK;cases h1;exact h2 rfl
    · rename_i s' hr
      refine qS ?_ (body s c _ hok hr)
      intro e st' hK
      cases e with
      | normal=>
        obtain ⟨s'',c'',h1,h2,h3⟩:=hK
        cases h1
        exact ⟨⟨(i,s',c''),hf,h2⟩,by simp only;omega,h3⟩
      | _=>obtain ⟨y,h1,h2⟩:=hK;cases h1
theorem yt {C:CtxY} {K:St→Prop} {dst:Option Nat} {op:AOp} {rest:List AItem} {env:List (Nat×AV)} {heap:List (Nat×Zaf)} {next:Nat} (r:AV) (ups:List (Nat×Zaf)) (hc:(match op with | .call _ _=>true | _=>false)=false)
    (he:evalOp op (zd env) (za heap) next=some (r,ups)) (hn:evl C rest K (St.after ⟨env,heap,next⟩ dst r ups)):evl C (⟨dst,op,none⟩::rest) K ⟨env,heap,next⟩:=by
  rw [KI,Yb]
  have e:∀ K,evOp C dst K ⟨env,heap,next⟩ op=zS dst K ⟨env,heap,next⟩ (evalOp op (zd env) (za heap) next):=fun KD=>by
    cases op<;>first | rfl | exact Bool.noConfusion hc
  rw [e,he]
  exact hn
theorem zfQ {ev:Opd→AV} {h:Nat→Option Zaf} {id:Nat} {a b:Opd} {zero:AV} {k:Int} {y:IV} {x:AV} {bb:Bool} (hp:zch false zero (.int .i64 k) y x bb) (ha:ev a=.imm y) (hb:ev b=vI k):evalOp (.look false zero false a b) ev h id=some (x,[]):=by
  obtain ⟨es,h1,h2,h3⟩:=hp
  have h1':jo h (.imm y)=some es:=by
    rw [←h1];cases y<;>rfl
  simp only [evalOp,ha,hb,vI,h1',h2,if_pos]
  rcases h3 with ⟨h4,_⟩ | ⟨h4,h5,_⟩
  · rw [h4];rfl
  · rw [h4];simp [h5]
theorem zhA {ev:Opd→AV} {h:Nat→Option Zaf} {id:Nat} {a:Opd} (off:Nat) {x:Zax} {v:Int} (ha:ev a=.imm (Zax.iv x)) (ho:off < 2) (hv:x.row[off]?=some (.int .i64 v)):evalOp (.cut false off 1 a) ev h id=some (vI v,[]):=by
  simp only [evalOp,ha,Zax.iv,ZN]
  have hl:(x.row.map AV.imm).length=2:=rfl
  rw [if_pos (by omega)]
  simp only [Bool.false_eq_true,if_false,List.getElem?_map,hv,Option.map_some,vI]
theorem zhB {ev:Opd→AV} {h:Nat→Option Zaf} {id Q B k:Nat} {a b:Opd} {v:AV} {rows:List (List AV)} (ha:ev a=.Zak Q 0 k) (hb:ev b=.Zak B 0 1) (hB:h B=some (.rows 1 [[v]])) (hQ:h Q=some (.rows 1 rows)) (hk:k=rows.length) (hl:(k+1)*8≤140737488355328) :
    evalOp (.app 1 8 a b) ev h id=some (.Zak id 0 (k+1),[(id,.rows 1 (rows++[[v]])),(Q,.dead)]):=by
  subst hk
  simp [evalOp,ha,hb,QC,jB,hB,hQ,hl]
theorem zkV {C:CtxY} {nt:Fr} (came:Option (List (Int×Zax))) (n:Int) (x7:AV) (l:List Int) (Q N:Nat) (hQN:Q < N) (hl:(l.length+1)*8≤140737488355328) (P:Exit→St→Prop)
    (h:P .normal ⟨[(0,.imm (qB IV.i64 Zax.iv came)),(1,vI n),(5,.Zak (N+6) 0 (l.length+1))],zJ (zJ (zJ [(Q,Zaf.rows 1 (zb zc l))] (N+5) (Zaf.rows 1 [[vI (jH came n).step]])) Q Zaf.dead) (N+6) (Zaf.rows 1 (zb zc l++[[vI (jH came n).step]])),N+8⟩) :
    awp C nt (.region false [] Vu (some [0,1,5])) P ⟨[(0,.imm (qB IV.i64 Zax.iv came)),(1,vI n),(5,.Zak Q 0 l.length),(7,x7)],[(Q,.rows 1 (zb zc l))],N⟩:=by
  refine JC ?_
  unfold Vu
  refine yt _ _ rfl rfl ?_
  refine yt _ _ rfl rfl ?_
  refine yt _ _ rfl rfl ?_
  refine yt (.imm (Zax.iv (jH came n))) [] rfl (zfQ (Wi Zax.iv ({from_:=0,step:=0}:Zax) n came) rfl rfl) ?_
  refine yt (vI (jH came n).step) [] rfl (zhA 1 rfl (by omega) rfl) ?_
  refine yt (.Zak (N+5) 0 1) [(N+5,.rows 1 [[vI (jH came n).step]])] rfl rfl ?_
  have hB:za (zJ [(Q,Zaf.rows 1 (zb zc l))] (N+5) (Zaf.rows 1 [[vI (jH came n).step]])) (N+5)=some (.rows 1 [[vI (jH came n).step]]):=by rw [z6,if_pos rfl]
  have hQ1:za (zJ [(Q,Zaf.rows 1 (zb zc l))] (N+5) (Zaf.rows 1 [[vI (jH came n).step]])) Q=some (.rows 1 (zb zc l)):=by rw [z6,if_neg (by omega)];simp [za]
  refine yt _ _ rfl (zhB rfl rfl hB hQ1 (by simp [zb]) hl) ?_
  refine yt _ _ rfl rfl ?_
  exact h
theorem zkW {nt:Fr} (x0 x1 x7:AV) (l r:List Int) (hr:ko l=some r) (Q N:Nat) (hQN:Q < N) (P:Exit→St→Prop)
    (h:P .normal ⟨[(5,.Zak Q 0 l.length)],[(Q,.rows 1 (zb zc r))],N+2⟩) :
    awp C0.plain nt (.region false [] Vv (some [5])) P ⟨[(0,x0),(1,x1),(5,.Zak Q 0 l.length),(7,x7)],[(Q,.rows 1 (zb zc l))],N⟩:=by
  refine JC ?_
  have hd:=zjd l r hr
  simp only [Vv,KI,zg7,Yb,ze8,evalOp,zg8,Wa,zdE,reduceIte,Option.getD_some,X8,X9,QW,Wb,Yc,zdD,List.map_cons,List.map_nil,za5,List.nil_append,List.append_nil,List.cons_append,KJ,Nat.reduceEqDiff,if_false]
  refine ACall.det (l:=[Q]) (zi hd [Q] (N+1) (.keep .nil) (rhI rhN) (rhI rhN)) ?_ ?_ ?_
  · simp only [kd,Zq,List.length_cons,List.length_nil,List.all_cons,List.all_nil]
    simp;try omega
  · simp [xp,za,phi]
  · simp only [yM,St.put,X8,X9,QW,Wb,Yc,Nat.reduceEqDiff,if_false,reduceIte,Wa,Option.getD_some,zdC,YP]
    simp [qw,List.filter,phi,wM,zJ]
    exact h
def SW (came:Option (List (Int×Zax))) (s:List Int×Int) (Q:Nat):St:=⟨[(0,.imm (qB IV.i64 Zax.iv came)),(1,vI s.2),(5,.Zak Q 0 s.1.length)],[(Q,.rows 1 (zb zc s.1))],Q+1⟩
set_option maxHeartbeats 4000000 in
theorem zkX (came:Option (List (Int×Zax))) (n:Int) (res:List Int) (hd:Qj came n=some res):APure C0 206 [qB IV.i64 Zax.iv came,.int .i64 n] (.slice (List.map zc res)):=by
  unfold Qj at hd
  obtain ⟨l,hl,hd⟩:=jL hd
  obtain ⟨r,hr,hd⟩:=jL hd
  obtain ⟨⟨hlen⟩,_,hd⟩:=jL hd
  have ee:=Option.some.inj hd;subst ee
  refine APure.start (d:=2) zkr (by simp [Kb]) ?_
  intro B
  show awp C0.plain _ Kb.body (yF Kb.results _) ⟨[(0,.imm (qB IV.i64 Zax.iv came)),(1,vI n)],[],0⟩
  refine xi ?_
  refine ke (st':=⟨[(0,.imm (qB IV.i64 Zax.iv came)),(1,vI n)],[],1⟩) [] .nil ?_ (by kernel_rfl)
  refine ye ?_
  refine xi ?_
  refine ke (st':=⟨[(0,.imm (qB IV.i64 Zax.iv came)),(1,vI n),(5,.nil)],[],2⟩) [] .nil ?_ (by kernel_rfl)
  refine ye ?_
  refine xi ?_
  refine kM ?_
  refine Xn (Yh (t:=5) 1 rfl) (by simp) ?_
  show awp C0.plain _ _ _ ⟨[(0,.imm (qB IV.i64 Zax.iv came)),(1,vI n),(5,.Zak 2 0 0)],[(2,.rows 1 [])],3⟩
  refine zeo hl (fun _ Q=>2≤Q) (SW came) (fun s Q hQ=>by simp only [SW];omega) 2 (Nat.le_refl _) rfl (Weak.refl _) ?_
  rintro ⟨l,n⟩ Q o hQ hs
  show awp C0.plain _ _ _ ⟨[(0,.imm (qB IV.i64 Zax.iv came)),(1,vI n),(5,.Zak Q 0 l.length)],[(Q,.rows 1 (zb zc l))],Q+1⟩
  refine xi ?_
  refine xi ?_
  refine ke (st':=⟨[(0,.imm (qB IV.i64 Zax.iv came)),(1,vI n),(5,.Zak Q 0 l.length),(7,vB (!(n == 0)))],[(Q,.rows 1 (zb zc l))],Q+3⟩) [] .nil ?_ (by kernel_rfl)
  refine ye ?_
  refine zh6 (!(n == 0)) rfl (fun g => ?_) (fun g => ?_)
  · replace hs:=zh8 g hs
    obtain ⟨e,he,hs⟩:=jL hs
    cases hs
    have hb:(l.length+1)*8≤140737488355328∧e=l++[(jH came n).step]:=by
      unfold zfp at he
      split at he
      · rename_i hh;cases he;exact ⟨hh,rfl⟩
      · cases he
    obtain ⟨hb,rfl⟩:=hb
    refine Xl ?_
    refine ye ?_
    refine kM ?_
    refine xi ?_
    refine zkV came n _ l Q (Q+3) (by omega) hb _ ?_
    refine ye ?_
    have ag:∀ j,za (zJ (zJ (zJ [(Q,Zaf.rows 1 (zb zc l))] (Q+3+5) (Zaf.rows 1 [[vI (jH came n).step]])) Q Zaf.dead) (Q+3+6) (Zaf.rows 1 (zb zc l++[[vI (jH came n).step]]))) j=if Q+3+6=j then some (.rows 1 (zb zc l++[[vI (jH came n).step]])) else if Q=j then some .dead else if Q+3+5=j then some (.rows 1 [[vI (jH came n).step]]) else za [(Q,Zaf.rows 1 (zb zc l))] j:=fun j=>by
      simp only [z6]
    have ag2:=ag (Q+9)
    rw [if_pos rfl] at ag2
    generalize zJ (zJ (zJ [(Q,Zaf.rows 1 (zb zc l))] (Q+3+5) (Zaf.rows 1 [[vI (jH came n).step]])) Q Zaf.dead) (Q+3+6) (Zaf.rows 1 (zb zc l++[[vI (jH came n).step]]))=hp at *
    refine ke (st':=⟨[(0,.imm (qB IV.i64 Zax.iv came)),(1,vI (jH came n).from_),(5,.Zak (Q+3+6) 0 (l.length+1))],hp,Q+3+8+5⟩) [.l (.imm (Zax.iv (jH came n))) (zq n (came.getD [])).isSome] (.cons (Wi Zax.iv ({from_:=0,step:=0}:Zax) n came) .nil) ?_ (by kernel_rfl)
    refine zki ?_
    refine ⟨_,Q+9,rfl,by omega,?_⟩
    refine JB (by simp only [SW];omega) ?_ ?_
    · intro p hp
      simp only [SW,List.mem_cons,List.not_mem_nil,or_false] at hp
      rcases hp with rfl | rfl | rfl
      · exact ⟨rfl,rfl⟩
      · exact ⟨rfl,rfl⟩
      · refine ⟨by simp [za],by simp [zL,j6,zF,SW]⟩
    · intro p hp
      simp only [SW,List.mem_cons,List.not_mem_nil,or_false] at hp
      subst hp
      refine ⟨by rw [ag2];simp [zb,zz,zc,vI],by simp [SW],vQ _ _ _ _⟩
  · replace hs:=zh9 g hs
    cases hs
    refine Xm ?_
    refine ⟨_,rfl,fun e => ?_⟩
    have e:=Sum.inr.inj e
    subst e
    refine zh7 ?_
    refine ye ?_
    refine xi ?_
    refine zkW _ _ _ _ r hr Q (Q+3) (by omega) _ ?_
    refine ye ?_
    refine xi ?_
    refine ke (st':=⟨[(4,.Zak Q 0 l.length)],[(Q,.rows 1 (zb zc r))],Q+3+2+2⟩) [] .nil ?_ (by kernel_rfl)
    refine ye ?_
    refine Ve ?_
    exact zfv _ rfl (xr zc Q 1 _ r hlen (by simp [za]))
noncomputable def wz (c:Zab) (states:List Zac):Option (List Zaj):=
  (Option.bind (forR (σ:=(List Zaj)×(Option (List (Int×Zax)))) (ρ:=Unit) (c.Zae.length:Int) (fun i1 s1=>(Option.bind (forR (σ:=(List Zaj)×(Option (List (Int×Zax)))) (ρ:=Unit) (c.Zae.length:Int) (fun i2 s2=>(Option.bind (Option.bind (xE c (i1:Int) (i2:Int)) fun r1=>(bif r1 then (Option.bind (forR (σ:=(List Zaj)×(Option (List (Int×Zax)))) (ρ:=(List Zaj)×(Option (List (Int×Zax)))) (states.length:Int) (fun i3 s3=>(Option.bind (ze states (i3:Int)) fun e1=>(Option.bind (vv c e1 (i1:Int) (i2:Int)) fun r2=>(bif r2 then (Option.bind (bif s3.2.isSome then some s3.2 else (Option.bind (yP c states) fun r3=>some r3)) fun (v1:(Option (List (Int×Zax))))=>(Option.bind (Qj v1 (i3:Int)) fun r4=>(Option.bind (ja 4 (-1) (i1:Int) (i2:Int) r4) fun r5=>(Option.bind (zO (α:=Zaj) 56 s3.1 [r5]) fun e2=>some (.inr (e2,v1)))))) else some (.inl (s3.1,s3.2)))))) (s2.1,s2.2)) (Sum.elim (fun (s3:(List Zaj)×(Option (List (Int×Zax))))=>some (s3.1,s3.2)) (fun (y1:(List Zaj)×(Option (List (Int×Zax))))=>some (y1.1,y1.2)))) else some (s2.1,s2.2))) fun (v2:(List Zaj)×(Option (List (Int×Zax))))=>some (.inl (v2.1,v2.2)))) (s1.1,s1.2)) (Sum.elim (fun (s2:(List Zaj)×(Option (List (Int×Zax))))=>some (.inl (s2.1,s2.2))) (fun _=>none)))) ([],none)) (Sum.elim (fun (s1:(List Zaj)×(Option (List (Int×Zax))))=>some s1.1) (fun _=>none)))
noncomputable def zep (c:Zab) (states:List Zac):Zad (List Zaj):=
  .reg 3 (.ln 2232 Zam.row c.Zae (.use 2 2232 (.weak 1 [ziv 5 5] (.forR (σ:=(List Zaj)×(Option (List (Int×Zax)))) (ρ:=Unit) 1962 14 (c.Zae.length:Int) ([],none) (.k [1,2,13] (fun s1=>[(5,.Zas 8 (List.map Zaj.row s1.1)),(6,.imm (qB IV.i64 Zax.iv s1.2))]) [0] (fun s1=>[(8,.tip 5 s1.1.length)]) 9 fun _=>(.exp rfl rfl .nil)) (fun i1 s1=>.sel 1962 (.reg 1 (.ln 2230 Zam.row c.Zae (.use 2 2230 (.forR (σ:=(List Zaj)×(Option (List (Int×Zax)))) (ρ:=Unit) 2202 20 (c.Zae.length:Int) (s1.1,s1.2) (.k [1,2,13,14,7,19] (fun s2=>[(5,.Zas 8 (List.map Zaj.row s2.1)),(6,.imm (qB IV.i64 Zax.iv s2.2))]) [0] (fun s2=>[(8,.tip 5 s2.1.length)]) 16 fun _=>(.exp rfl rfl .nil)) (fun i2 s2=>.sel 2202 (.cut (β:=(List Zaj)×(Option (List (Int×Zax)))) 1 (.k [1,2,13,14,7,19,20] (fun v2=>[(5,.Zas 8 (List.map Zaj.row v2.1)),(6,.imm (qB IV.i64 Zax.iv v2.2))]) [0] (fun v2=>[(8,.tip 5 v2.1.length)]) 24 fun _=>(.exp rfl rfl .nil)) (.reg 1 (.call 2212 (Yx c (i1:Int) (i2:Int)) fun r1=>.use 3 2212 (.ite 2204 r1 (.sel 2205 (.reg 0 (.ln 2228 Zac.row states (.use 1 2228 (.forR (σ:=(List Zaj)×(Option (List (Int×Zax)))) (ρ:=(List Zaj)×(Option (List (Int×Zax)))) 2206 30 (states.length:Int) (s2.1,s2.2) (.k [1,2,13,14,7,19,20,8,28,29] (fun s3=>[(5,.Zas 8 (List.map Zaj.row s3.1)),(6,.imm (qB IV.i64 Zax.iv s3.2))]) [0] (fun s3=>[(8,.tip 5 s3.1.length)]) 27 fun _=>(.exp rfl rfl .nil)) (fun i3 s3=>.sel 2206 (.reg 0 (.ix 2214 Zac.row states (i3:Int) fun e1=>.use 1 2214 (.reg 0 (.call 2216 (zbM c e1 (i1:Int) (i2:Int)) fun r2=>.use 4 2216 (.ite 2208 r2 (.sel 2209 (.cut (β:=(Option (List (Int×Zax)))) 1 (.e [1,2,5,13,14,7,19,20,8,9] (fun v1=>[(6,.imm (qB IV.i64 Zax.iv v1))]) [0,8] 42) (.reg 0 (.f1 2220 (.v (.bool (!s3.2.isSome))) (zfs false IV.i64 Zax.iv s3.2) (.use 1 2220 (.ite 2210 s3.2.isSome (.sel 2211 (.ret s3.2)) (.sel 2211 (.reg 0 (.call 2218 (zhz c states) fun r3=>.use 2 2218 (.ret r3)))))))) fun v1=>.reg 0 (.call 2222 (zkX v1 (i3:Int)) fun r4=>.call 2224 (kU 4 (-1) (i1:Int) (i2:Int) r4) fun r5=>.b1 2226 (zO (α:=Zaj) 56 s3.1 [r5]) (fun e2=>.a (List.map Zaj.row e2) e2.length) (fun e2 he2=>(qA Zaj.row 5 56 (fun _=>rfl) he2)) fun e2=>.us [(5,2222),(6,2224),(8,2226)] (.ret (.inr (e2,v1)))))) (.sel 2209 (.ret (.inl (s3.1,s3.2)))))))))) fun os3=>.case os3 (fun s3=>.sel 2206 (.ret (s3.1,s3.2))) fun y1=>.ret (y1.1,y1.2)))))) (.sel 2205 (.ret (s2.1,s2.2)))))) fun v2=>.ret (.inl (v2.1,v2.2)))) fun os2=>.case os2 (fun s2=>.sel 2202 (.ret (.inl (s2.1,s2.2)))) fun _=>.none))))) fun os1=>.case os1 (fun s1=>.sel 1962 (.ret s1.1)) fun _=>.none))))
theorem zeq (c:Zab) (states:List Zac) (res:List Zaj) (hd:wz c states=some res):APure C0 201 [.agg (Zab.row c),.slice (List.map Zac.row states)] (.slice (List.map Zaj.row res)):=
  Zad.pure (iv:=fun res=>.slice (List.map Zaj.row res)) (zep c states) (by kernel_rfl) (Zad.run_of hd (by kernel_rfl))
noncomputable def jP (c:Zab):Option ((List Zaj)×Int):=
  (Option.bind (xm c) fun r1=>(bif (r1.2 == 0) then (Option.bind (forR (σ:=(List Zaj)) (ρ:=Int) c.Zao (fun i1 s1=>(Option.bind (α:=(List Zaj) ⊕ Int) (Option.bind (js c (i1:Int)) fun r2=>(bif (r2.2 == 0) then (Option.bind (vr c r2.1) fun r3=>(Option.bind (ze r3 0) fun e1=>(bif decide (0≤e1) then (Option.bind (ZE r2.1 r3) fun r4=>(Option.bind (ja 1 (i1:Int) (-1) (-1) r4) fun r5=>(Option.bind (zO (α:=Zaj) 56 s1 [r5]) fun e2=>some (.inl e2)))) else some (.inl s1)))) else some (.inr r2.2))) (Sum.elim (fun (v1:(List Zaj))=>some (.inl v1)) (fun (y1:Int)=>some (.inr y1))))) []) (Sum.elim (fun (s1:(List Zaj))=>(Option.bind (forR (σ:=(List Zaj)×(List Zaj)) (ρ:=Unit) (c.Zae.length:Int) (fun i2 s2=>(Option.bind (Jf (i2:Int) r1.1 s2.1 c s2.2) fun r6=>some (.inl (r6.1,r6.2)))) (s1,[])) (Sum.elim (fun (s2:(List Zaj)×(List Zaj))=>(Option.bind (zO (α:=Zaj) 56 s2.1 s2.2) fun e3=>(Option.bind (wz c r1.1) fun r7=>(Option.bind (zO (α:=Zaj) 56 e3 r7) fun e4=>some (e4,0))))) (fun _=>none)))) (fun (y2:Int)=>some ([],y2)))) else some ([],r1.2)))
noncomputable def zje (c:Zab):Zad ((List Zaj)×Int):=
  .reg 1 (.call 2234 (zbJ c) fun r1=>.use 1 2234 (.ite 1304 (r1.2 == 0) (.sel 1305 (.weak 4 [Wu 13 5 0 0] (.forR (σ:=(List Zaj)) (ρ:=Int) 1306 24 c.Zao [] (.k [1,4,6,23] (fun _=>[]) [0,8] (fun s1=>[(13,.rows 1 [[.Zas 17 (List.map Zaj.row s1)]]),(17,.tip 5 s1.length)]) 18 fun _=>(.exp rfl rfl (.exp rfl rfl .nil))) (fun i1 s1=>.sel 1306 (.cutO (β:=(List Zaj)) (γ:=Int) 1 (.k [1,4,6,23,24] (fun _=>[]) [0,8] (fun v1=>[(13,.rows 1 [[.Zas 17 (List.map Zaj.row v1)]]),(17,.tip 5 v1.length)]) 40 fun _=>(.exp rfl rfl (.exp rfl rfl .nil))) (.reg 1 (.call 2236 (zbK c (i1:Int)) fun r2=>.use 2 2236 (.ite 1892 (r2.2 == 0) (.sel 1893 (.reg 0 (.call 2238 (zbL c r2.1) fun r3=>.use 2 2238 (.reg 0 (.ix 2240 zc r3 0 fun e1=>.use 1 2240 (.ite 1894 (decide (0≤e1)) (.sel 1894 (.reg 0 (.call 2242 (ziU r2.1 r3) fun r4=>.call 2244 (kU 1 (i1:Int) (-1) (-1) r4) fun r5=>.b1 2246 (zO (α:=Zaj) 56 s1 [r5]) (fun e2=>.a (List.map Zaj.row e2) e2.length) (fun e2 he2=>(qA Zaj.row 5 56 (fun _=>rfl) he2)) fun e2=>.us [(4,2242),(5,2244),(7,2246)] (.ret (.inl e2))))) (.sel 1894 (.ret (.inl s1))))))))) (.sel 1893 (.ret (.inr r2.2)))))) fun o_v1=>.case o_v1 (fun v1=>.ret (.inl v1)) fun y1=>.ret (.inr y1))) fun os1=>.case os1 (fun s1=>.sel 1306 (.reg 2 (.ln 2256 Zam.row c.Zae (.use 2 2256 (.weak 1 [Wu 19 5 0 0] (.forR (σ:=(List Zaj)×(List Zaj)) (ρ:=Unit) 1896 56 (c.Zae.length:Int) (s1,[]) (.k [1,4,6,11,12,55] (fun _=>[]) [0,8] (fun s2=>[(13,.rows 1 [[.Zas 17 (List.map Zaj.row s2.1)]]),(17,.tip 5 s2.1.length),(19,.rows 1 [[.Zas 26 (List.map Zaj.row s2.2)]]),(26,.tip 5 s2.2.length)]) 27 fun _=>(.exp rfl rfl (.exp rfl rfl (.exp rfl rfl (.exp rfl rfl .nil))))) (fun i2 s2=>.sel 1896 (.reg 1 (.b1 2248 (Jf (i2:Int) r1.1 s2.1 c s2.2) (fun r6=>.c [8,13,0,19,17,26] 6 (.tuple []) [(13,.rows 1 [[.Zas 17 (List.map Zaj.row r6.1)]]),(19,.rows 1 [[.Zas 26 (List.map Zaj.row r6.2)]]),(17,.tip 5 r6.1.length),(26,.tip 5 r6.2.length)] 0) (fun r6 hr6=>(zi (zi9 (i2:Int) r1.1 s2.1 c s2.2 r6 hr6) [8,13,0,19,17,26] 32 (.drop rfl rfl (.keep (.drop rfl rfl (.keep (.keep (.keep .nil)))))) (rhR (rhR (rhR (rhR (rhR (rhR rhN)))))) (rhR (rhR (rhR (rhR rhN)))))) fun r6=>.use 2 2248 (.ret (.inl (r6.1,r6.2)))))) fun os2=>.case os2 (fun s2=>.sel 1896 (.reg 0 (.b1 2250 (zO (α:=Zaj) 56 s2.1 s2.2) (fun e3=>.a (List.map Zaj.row e3) e3.length) (fun e3 he3=>(qA Zaj.row 5 56 (fun _=>rfl) he3)) fun e3=>.call 2252 (zeq c r1.1) fun r7=>.b1 2254 (zO (α:=Zaj) 56 e3 r7) (fun e4=>.a (List.map Zaj.row e4) e4.length) (fun e4 he4=>(qA Zaj.row 5 56 (fun _=>rfl) he4)) fun e4=>.us [(2,2250),(5,2252),(6,2254)] (.ret (e4,0))))) fun _=>.none)))))) fun y2=>.ret ([],y2)))) (.sel 1305 (.ret ([],r1.2)))))
theorem WP (c:Zab) (res:(List Zaj)×Int) (hd:jP c=some res):APure C0 192 [.agg (Zab.row c)] (.tuple [.slice (List.map Zaj.row res.1),.int .i64 res.2]):=
  Zad.pure (iv:=fun res=>.tuple [.slice (List.map Zaj.row res.1),.int .i64 res.2]) (zje c) (by kernel_rfl) (Zad.run_of hd (by kernel_rfl))
noncomputable def zay (a:List Int) (b:List Int):Option Bool:=
  (bif ((a.length:Int) == (b.length:Int)) then (Option.bind (forR (σ:=Unit) (ρ:=Unit) (a.length:Int) (fun i1 s1=>(Option.bind (ze a (i1:Int)) fun e1=>(Option.bind (ze b (i1:Int)) fun e2=>(bif (e1 == e2) then some (.inl ()) else some (.inr ()))))) ()) (Sum.elim (fun (s1:Unit)=>some true) (fun (y1:Unit)=>some false))) else some false)
noncomputable def zfR (a:List Int) (b:List Int):Zad Bool:=
  .reg 1 (.ln 2288 zc a (.use 1 2288 (.ln 2286 zc b (.use 3 2286 (.ite 2272 ((a.length:Int) == (b.length:Int)) (.sel 2273 (.forR (σ:=Unit) (ρ:=Unit) 2274 5 (a.length:Int) () (.e [0,1] (fun _=>[]) [] 7) (fun i1 s1=>.reg 0 (.ln 2282 zc a (.use 2 2282 (.sel 2274 (.reg 0 (.ix 2278 zc a (i1:Int) fun e1=>.ix 2280 zc b (i1:Int) fun e2=>.us [(2,2278),(6,2280)] (.ite 2276 (e1 == e2) (.sel 2277 (.ret (.inl ()))) (.sel 2277 (.ret (.inr ())))))))))) fun os1=>.case os1 (fun s1=>.reg 0 (.ln 2284 zc a (.use 2 2284 (.sel 2274 (.ret true))))) fun y1=>.ret false)) (.sel 2273 (.ret false)))))))
theorem zfS (a:List Int) (b:List Int) (res:Bool) (hd:zay a b=some res):APure C0 142 [.slice (List.map zc a),.slice (List.map zc b)] (.bool res):=
  Zad.pure (iv:=fun res=>.bool res) (zfR a b) (by kernel_rfl) (Zad.run_of hd (by kernel_rfl))
noncomputable def zaz (a:Zaj) (b:Zaj):Option Bool:=
  (Option.bind (bif (a.kind == b.kind) then (bif (a.Zaa == b.Zaa) then (bif (a.clause == b.clause) then (bif (a.other == b.other) then (Option.bind (zay a.Zaz b.Zaz) fun r1=>some r1) else some false) else some false) else some false) else some false) fun v1=>some v1)
noncomputable def zfT (a:Zaj) (b:Zaj):Zad Bool:=
  .cut (β:=Bool) 2 (.e [] (fun v1=>[(4,vB v1)]) [0,1] 37) (.reg 0 (.ite 2264 (a.kind == b.kind) (.ite 2266 (a.Zaa == b.Zaa) (.ite 2268 (a.clause == b.clause) (.ite 2270 (a.other == b.other) (.call 2290 (zfS a.Zaz b.Zaz) fun r1=>.us [(6,2264),(13,2266),(20,2268),(27,2270),(31,2290)] (.ret r1)) (.us [(6,2264),(13,2266),(20,2268),(27,2270)] (.ret false))) (.us [(6,2264),(13,2266),(20,2268)] (.f1 2292 (.g false) (rfl:false=false) (.use 27 2292 (.ret false))))) (.us [(6,2264),(13,2266)] (.f1 2296 (.g false) (rfl:false=false) (.use 20 2296 (.f1 2294 (.g false) (rfl:false=false) (.use 27 2294 (.ret false))))))) (.use 6 2264 (.f1 2302 (.g false) (rfl:false=false) (.use 13 2302 (.f1 2300 (.g false) (rfl:false=false) (.use 20 2300 (.f1 2298 (.g false) (rfl:false=false) (.use 27 2298 (.ret false)))))))))) fun v1=>.ret v1
theorem zfU (a:Zaj) (b:Zaj) (res:Bool) (hd:zaz a b=some res):APure C0 320 [.agg (Zaj.row a),.agg (Zaj.row b)] (.bool res):=
  Zad.pure (iv:=fun res=>.bool res) (zfT a b) (by kernel_rfl) (Zad.run_of hd (by kernel_rfl))
noncomputable def vw (a:List Zaj) (b:List Zaj):Option Bool:=
  (bif ((a.length:Int) == (b.length:Int)) then (Option.bind (forR (σ:=Unit) (ρ:=Unit) (a.length:Int) (fun i1 s1=>(Option.bind (ze a (i1:Int)) fun e1=>(Option.bind (ze b (i1:Int)) fun e2=>(Option.bind (zaz e1 e2) fun r1=>(bif r1 then some (.inl ()) else some (.inr ())))))) ()) (Sum.elim (fun (s1:Unit)=>some true) (fun (y1:Unit)=>some false))) else some false)
noncomputable def zhC (a:List Zaj) (b:List Zaj):Zad Bool:=
  .reg 1 (.ln 2318 Zaj.row a (.use 1 2318 (.ln 2316 Zaj.row b (.use 3 2316 (.ite 2260 ((a.length:Int) == (b.length:Int)) (.sel 2261 (.forR (σ:=Unit) (ρ:=Unit) 2262 5 (a.length:Int) () (.e [0,1] (fun _=>[]) [] 7) (fun i1 s1=>.reg 0 (.ln 2312 Zaj.row a (.use 2 2312 (.sel 2262 (.reg 0 (.ix 2306 Zaj.row a (i1:Int) fun e1=>.ix 2308 Zaj.row b (i1:Int) fun e2=>.call 2310 (zfU e1 e2) fun r1=>.us [(2,2306),(6,2308),(8,2310)] (.ite 2304 r1 (.sel 2305 (.ret (.inl ()))) (.sel 2305 (.ret (.inr ())))))))))) fun os1=>.case os1 (fun s1=>.reg 0 (.ln 2314 Zaj.row a (.use 2 2314 (.sel 2262 (.ret true))))) fun y1=>.ret false)) (.sel 2261 (.ret false)))))))
theorem zbN (a:List Zaj) (b:List Zaj) (res:Bool) (hd:vw a b=some res):APure C0 317 [.slice (List.map Zaj.row a),.slice (List.map Zaj.row b)] (.bool res):=
  Zad.pure (iv:=fun res=>.bool res) (zhC a b) (by kernel_rfl) (Zad.run_of hd (by kernel_rfl))
noncomputable def zaA (c:Zab) (s:Zac) (act:Int):Option Int:=
  (Option.bind (Option.bind (j8 c s) fun r1=>(bif r1 then (bif decide (act < 0) then some true else some (decide ((c.Zai.length:Int)≤act))) else some true)) fun v1=>(bif v1 then some (-2) else (Option.bind (km c s act) fun r2=>some r2)))
noncomputable def zjf (c:Zab) (s:Zac) (act:Int):Zad Int:=
  .cut (β:=Bool) 3 (.e [2,3,4] (fun v1=>[(21,vB v1)]) [0,1] 18) (.reg 0 (.call 2356 (kl c s) fun r1=>.ite 2350 r1 (.ite 2352 (decide (act < 0)) (.us [(2,2356),(5,2351),(9,2352)] (.ret true)) (.us [(2,2356),(5,2351),(9,2352)] (.ln 2358 Zaq.row c.Zai (.use 12 2358 (.ret (decide ((c.Zai.length:Int)≤act))))))) (.us [(2,2356),(5,2351)] (.f1 2360 (.g true) (rfl:true=true) (.use 9 2360 (.ret true)))))) fun v1=>.ite 2354 v1 (.sel 2354 (.ret (-2))) (.sel 2354 (.reg 0 (.call 2362 (zei c s act) fun r2=>.use 3 2362 (.ret r2))))
theorem zjg (c:Zab) (s:Zac) (act:Int) (res:Int) (hd:zaA c s act=some res):APure C0 98 [.agg (Zab.row c),.agg (Zac.row s),.int .i64 act] (.int .i64 res):=
  Zad.pure (iv:=fun res=>.int .i64 res) (zjf c s act) (by kernel_rfl) (Zad.run_of hd (by kernel_rfl))
noncomputable def kp (c:Zab) (s:Zac) (Zaa:Int):Option Bool:=
  (Option.bind (bif decide (Zaa < 0) then some true else (bif decide (c.Zao≤Zaa) then some true else (Option.bind (j8 c s) fun r1=>some (!r1)))) fun v1=>(bif v1 then some false else (Option.bind (forR (σ:=Unit) (ρ:=Unit) (s.Zal.length:Int) (fun i1 s1=>(Option.bind (ze s.Zal (i1:Int)) fun e1=>(Option.bind (Option.bind (ze c.Zae (i1:Int)) fun e2=>(bif e2.final then (bif (e1.Zan == 4) then some (e1.Zau == Zaa) else some false) else some false)) fun v2=>(bif v2 then some (.inr ()) else some (.inl ()))))) ()) (Sum.elim (fun (s1:Unit)=>some false) (fun (y1:Unit)=>some true)))))
noncomputable def zfV (c:Zab) (s:Zac) (Zaa:Int):Zad Bool:=
  .cut (β:=Bool) 3 (.e [2,3,4] (fun v1=>[(22,vB v1)]) [0,1] 17) (.reg 0 (.ite 2370 (decide (Zaa < 0)) (.use 3 2370 (.f1 2384 (.g true) (rfl:true=true) (.use 9 2384 (.ret true)))) (.ite 2372 (decide (c.Zao≤Zaa)) (.us [(3,2370),(9,2372)] (.ret true)) (.call 2386 (kl c s) fun r1=>.us [(3,2370),(9,2372),(11,2386)] (.ret (!r1)))))) fun v1=>.ite 2374 v1 (.sel 2374 (.ret false)) (.sel 2374 (.reg 0 (.ln 2394 zw.row s.Zal (.use 2 2394 (.forR (σ:=Unit) (ρ:=Unit) 2376 26 (s.Zal.length:Int) () (.e [2,3,24,25] (fun _=>[]) [0] 21) (fun i1 s1=>.sel 2376 (.reg 0 (.ix 2388 zw.row s.Zal (i1:Int) fun e1=>.use 1 2388 (.cut (β:=Bool) 1 (.e [2,3,24,25,26] (fun v2=>[(47,vB v2)]) [0,25] 45) (.reg 0 (.ix 2390 Zam.row c.Zae (i1:Int) fun e2=>.ite 2378 e2.final (.ite 2380 (e1.Zan == 4) (.us [(3,2390),(7,2378),(12,2380)] (.ret (e1.Zau == Zaa))) (.us [(3,2390),(7,2378),(12,2380)] (.ret false))) (.us [(3,2390),(7,2378)] (.f1 2392 (.g false) (rfl:false=false) (.use 12 2392 (.ret false)))))) fun v2=>.ite 2382 v2 (.sel 2382 (.ret (.inr ()))) (.sel 2382 (.ret (.inl ()))))))) fun os1=>.case os1 (fun s1=>.sel 2376 (.ret false)) fun y1=>.ret true)))))
theorem zaB (c:Zab) (s:Zac) (Zaa:Int) (res:Bool) (hd:kp c s Zaa=some res):APure C0 141 [.agg (Zab.row c),.agg (Zac.row s),.int .i64 Zaa] (.bool res):=
  Zad.pure (iv:=fun res=>.bool res) (zfV c s Zaa) (by kernel_rfl) (Zad.run_of hd (by kernel_rfl))
noncomputable def Qk (c:Zab) (s:Zac) (f:Zaj):Option Bool:=
  (Option.bind (forR (σ:=Int×(List Int)×(List Bool)×(List zw)) (ρ:=Unit) (f.Zaz.length:Int) (fun i1 s1=>(Option.bind (ze f.Zaz (i1:Int)) fun e1=>(Option.bind (bif (e1 == (-1)) then some false else (Option.bind (zaA c ({day:=s1.1,Zag:=s1.2.1,used:=s1.2.2.1,Zal:=s1.2.2.2}:Zac) e1) fun r1=>some (r1 == f.Zaa))) fun v1=>(bif v1 then some (.inr ()) else (Option.bind (d_Step c ({day:=s1.1,Zag:=s1.2.1,used:=s1.2.2.1,Zal:=s1.2.2.2}:Zac) e1) fun r2=>(bif (r2.2 == 0) then (Option.bind (bif ((i1:Int) == (IntKind.i64.wrap ((f.Zaz.length:Int) - 1))) then (Option.bind (kp c ({day:=s1.1,Zag:=s1.2.1,used:=s1.2.2.1,Zal:=s1.2.2.2}:Zac) f.Zaa) fun r3=>some r3) else some false) fun v2=>(bif v2 then some (.inr ()) else some (.inl (r2.1.day,r2.1.Zag,r2.1.used,r2.1.Zal)))) else some (.inr ()))))))) (s.day,s.Zag,s.used,s.Zal)) (Sum.elim (fun (s1:Int×(List Int)×(List Bool)×(List zw))=>(Option.bind (kp c ({day:=s1.1,Zag:=s1.2.1,used:=s1.2.2.1,Zal:=s1.2.2.2}:Zac) f.Zaa) fun r4=>some r4)) (fun (y1:Unit)=>some false)))
noncomputable def zfW (c:Zab) (s:Zac) (f:Zaj):Zad Bool:=
  .reg 1 (.ln 2422 zc f.Zaz (.use 2 2422 (.forR (σ:=Int×(List Int)×(List Bool)×(List zw)) (ρ:=Unit) 2346 14 (f.Zaz.length:Int) (s.day,s.Zag,s.used,s.Zal) (.k [3,4,5,12,13] (fun _=>[]) [0,2] (fun s1=>[(1,.rows 4 [[vI s1.1,.imm (.slice (List.map zc s1.2.1)),.imm (.slice (List.map zh s1.2.2.1)),.imm (.slice (List.map zw.row s1.2.2.2))]])]) 8 fun _=>(.exp rfl rfl .nil)) (fun i1 s1=>.sel 2346 (.reg 0 (.ix 2408 zc f.Zaz (i1:Int) fun e1=>.use 1 2408 (.cut (β:=Bool) 2 (.e [3,4,5,12,13,14,7,8] (fun v1=>[(29,vB v1)]) [0,1,2] 25) (.reg 0 (.ite 2398 (e1 == (-1)) (.use 3 2399 (.ret false)) (.call 2410 (zjg c ({day:=s1.1,Zag:=s1.2.1,used:=s1.2.2.1,Zal:=s1.2.2.2}:Zac) e1) fun r1=>.us [(3,2399),(6,2410)] (.ret (r1 == f.Zaa))))) fun v1=>.ite 2400 v1 (.sel 2400 (.ret (.inr ()))) (.sel 2400 (.reg 0 (.call 2412 (kn c ({day:=s1.1,Zag:=s1.2.1,used:=s1.2.2.1,Zal:=s1.2.2.2}:Zac) e1) fun r2=>.use 3 2412 (.ite 2402 (r2.2 == 0) (.sel 2403 (.cut (β:=Bool) 2 (.e [3,4,5,12,13,14,9] (fun v2=>[(51,vB v2)]) [0,1,2,32] 50) (.reg 0 (.ite 2404 ((i1:Int) == (IntKind.i64.wrap ((f.Zaz.length:Int) - 1))) (.call 2414 (zaB c ({day:=s1.1,Zag:=s1.2.1,used:=s1.2.2.1,Zal:=s1.2.2.2}:Zac) f.Zaa) fun r3=>.ln 2416 zc f.Zaz (.us [(3,2416),(7,2404),(11,2414)] (.ret r3))) (.ln 2418 zc f.Zaz (.us [(3,2418),(7,2404)] (.ret false))))) fun v2=>.ite 2406 v2 (.sel 2406 (.ret (.inr ()))) (.sel 2406 (.ret (.inl (r2.1.day,r2.1.Zag,r2.1.used,r2.1.Zal)))))) (.sel 2403 (.ret (.inr ()))))))))))) fun os1=>.case os1 (fun s1=>.sel 2346 (.reg 0 (.call 2420 (zaB c ({day:=s1.1,Zag:=s1.2.1,used:=s1.2.2.1,Zal:=s1.2.2.2}:Zac) f.Zaa) fun r4=>.use 4 2420 (.ret r4)))) fun y1=>.ret false)))
theorem zfX (c:Zab) (s:Zac) (f:Zaj) (res:Bool) (hd:Qk c s f=some res):APure C0 324 [.agg (Zab.row c),.agg (Zac.row s),.agg (Zaj.row f)] (.bool res):=
  Zad.pure (iv:=fun res=>.bool res) (zfW c s f) (by kernel_rfl) (Zad.run_of hd (by kernel_rfl))
noncomputable def WQ (c:Zab) (a:ZaF):Option (List Bool):=
  (Option.bind (vr c a) fun r1=>(Option.bind (mkN 1 (r1.length:Int)) fun k1=>(Option.bind (forR (σ:=(List Bool)) (ρ:=Unit) (r1.length:Int) (fun i1 s1=>(Option.bind (ze r1 (i1:Int)) fun e1=>(Option.bind (zk k1 (i1:Int)) fun k2=>(Option.bind (s1[k2]?) fun e2=>some (.inl (s1.set k2 (e1 == (-1)))))))) (List.replicate k1 false)) (Sum.elim (fun (s1:(List Bool))=>(Option.bind (eqN k1 s1.length) fun g1=>some s1)) (fun _=>none)))))
noncomputable def zjh (c:Zab) (a:ZaF):Zad (List Bool):=
  .reg 1 (.call 2430 (zbL c a) fun r1=>.use 2 2430 (.reg 0 (.b1 2432 (mkN 1 (r1.length:Int)) (fun k1=>.m k1 (zb zh (List.replicate k1 false))) (fun k1 hk1=>(xz zh false hk1)) fun k1=>.ln 2442 zc r1 (.us [(1,2442),(2,2432)] (.reg 0 (.ln 2440 zc r1 (.use 1 2440 (.forR (σ:=(List Bool)) (ρ:=Unit) 2428 17 (r1.length:Int) (List.replicate k1 false) (.k [6,15,16] (fun _=>[]) [] (fun s1=>[(9,.rows 1 (zb zh s1))]) 14 fun _=>(.rows rfl .nil)) (fun i1 s1=>.sel 2428 (.reg 0 (.ix 2434 zc r1 (i1:Int) fun e1=>.use 1 2434 (.reg 0 (.b1 2436 (zk k1 (i1:Int)) (fun k2=>.k k2) (fun k2 hk2=>(zs hk2)) fun k2=>.b1 2438 (s1[k2]?) (fun e2=>.aw (zz (zh e2)) (zb zh (s1.set k2 (e1 == (-1))))) (fun e2 he2=>(zZ zh (e1 == (-1)) he2)) fun e2=>.us [(4,2436),(5,2438)] (.ret (.inl (s1.set k2 (e1 == (-1)))))))))) fun os1=>.case os1 (fun s1=>.sel 2428 (.bind (eqN k1 s1.length) (fun _=>[]) (fun _ _=>.nil) fun g2=>.fin [9] (.Zak 9 0 k1) [(9,.rows 1 (zb zh s1))] (.slice (List.map zh s1)) (jq _ _ _ (zD (xr zh 9 1 k1 s1 g2.down rfl) jD)) s1)) fun _=>.none))))))))
theorem zji (c:Zab) (a:ZaF) (res:List Bool) (hd:WQ c a=some res):APure C0 138 [.agg (Zab.row c),.agg (ZaF.row a)] (.slice (List.map zh res)):=
  Zad.pure (iv:=fun res=>.slice (List.map zh res)) (zjh c a) (by kernel_rfl) (Zad.run_of hd (by kernel_rfl))
noncomputable def Ql (c:Zab) (Zaa:Int):Option Bool:=
  (Option.bind (js c Zaa) fun r1=>(Option.bind (bif (r1.2 == 0) then (Option.bind (WQ c r1.1) fun r2=>(Option.bind (ze r2 0) fun e1=>some (!e1))) else some false) fun v1=>some v1))
noncomputable def zfY (c:Zab) (Zaa:Int):Zad Bool:=
  .reg 1 (.call 2444 (zbK c Zaa) fun r1=>.use 2 2444 (.cut (β:=Bool) 1 (.e [] (fun v1=>[(4,vB v1)]) [0,8] 22) (.reg 0 (.ite 2426 (r1.2 == 0) (.call 2446 (zji c r1.1) fun r2=>.ix 2448 zh r2 0 fun e1=>.us [(3,2426),(5,2446),(6,2448)] (.ret (!e1))) (.use 3 2426 (.ret false)))) fun v1=>.ret v1))
theorem zfZ (c:Zab) (Zaa:Int) (res:Bool) (hd:Ql c Zaa=some res):APure C0 323 [.agg (Zab.row c),.int .i64 Zaa] (.bool res):=
  Zad.pure (iv:=fun res=>.bool res) (zfY c Zaa) (by kernel_rfl) (Zad.run_of hd (by kernel_rfl))
noncomputable def JS (c:Zab) (f:Zaj):Option Bool:=
  (Option.bind (xm c) fun r1=>(bif (r1.2 == 0) then (bif (f.kind == 2) then (Option.bind (yr r1.1 f.clause) fun r2=>some r2) else (Option.bind (Option.bind (yr r1.1 f.clause) fun r3=>(bif r3 then some false else (Option.bind (vt c r1.1 f.clause) fun r4=>some r4))) fun v1=>some v1)) else some false))
noncomputable def zhD (c:Zab) (f:Zaj):Zad Bool:=
  .reg 1 (.call 2466 (zbJ c) fun r1=>.use 1 2466 (.ite 2460 (r1.2 == 0) (.sel 2461 (.ite 2462 (f.kind == 2) (.sel 2462 (.reg 0 (.call 2468 (zaw r1.1 f.clause) fun r2=>.use 3 2468 (.ret r2)))) (.sel 2462 (.cut (β:=Bool) 1 (.e [] (fun v1=>[(4,vB v1)]) [0,1] 28) (.reg 0 (.call 2470 (zaw r1.1 f.clause) fun r3=>.ite 2464 r3 (.us [(3,2470),(6,2465)] (.ret false)) (.call 2472 (zax c r1.1 f.clause) fun r4=>.us [(3,2470),(6,2465),(10,2472)] (.ret r4)))) fun v1=>.ret v1)))) (.sel 2461 (.ret false))))
theorem zhE (c:Zab) (f:Zaj) (res:Bool) (hd:JS c f=some res):APure C0 325 [.agg (Zab.row c),.agg (Zaj.row f)] (.bool res):=
  Zad.pure (iv:=fun res=>.bool res) (zhD c f) (by kernel_rfl) (Zad.run_of hd (by kernel_rfl))
noncomputable def qG (c:Zab) (f:Zaj):Option Bool:=
  (Option.bind (qx c) fun r1=>(bif (r1.2 == 0) then (Option.bind (bif decide (0≤f.clause) then (bif decide (f.clause < (c.Zae.length:Int)) then some (f.Zaa == (-1)) else some false) else some false) fun v1=>(bif (f.kind == 1) then (Option.bind (bif decide (0≤f.Zaa) then (bif decide (f.Zaa < c.Zao) then (bif (f.clause == (-1)) then (bif (f.other == (-1)) then (Option.bind (Qk c r1.1 f) fun r2=>(bif r2 then (Option.bind (Ql c f.Zaa) fun r3=>some r3) else some false)) else some false) else some false) else some false) else some false) fun v2=>some v2) else (Option.bind (bif (f.kind == 2) then some (f.kind == 2) else some (f.kind == 3)) fun (v3:Bool)=>(bif v3 then (Option.bind (bif v1 then (bif (f.other == (-1)) then (bif ((f.Zaz.length:Int) == 0) then (Option.bind (JS c f) fun r4=>some r4) else some false) else some false) else some false) fun v4=>some v4) else (bif (f.kind == 4) then (Option.bind (bif v1 then (bif decide (f.other < 0) then some true else (bif decide ((c.Zae.length:Int)≤f.other) then some true else (Option.bind (xE c f.clause f.other) fun r5=>some (!r5)))) else some true) fun v5=>(bif v5 then some false else (Option.bind (forR (σ:=Int×(List Int)×(List Bool)×(List zw)) (ρ:=Unit) (f.Zaz.length:Int) (fun i1 s1=>(Option.bind (ze f.Zaz (i1:Int)) fun e1=>(Option.bind (d_Step c ({day:=s1.1,Zag:=s1.2.1,used:=s1.2.2.1,Zal:=s1.2.2.2}:Zac) e1) fun r6=>(bif (r6.2 == 0) then some (.inl (r6.1.day,r6.1.Zag,r6.1.used,r6.1.Zal)) else some (.inr ()))))) (r1.1.day,r1.1.Zag,r1.1.used,r1.1.Zal)) (Sum.elim (fun (s1:Int×(List Int)×(List Bool)×(List zw))=>(Option.bind (vv c ({day:=s1.1,Zag:=s1.2.1,used:=s1.2.2.1,Zal:=s1.2.2.2}:Zac) f.clause f.other) fun r7=>some r7)) (fun (y1:Unit)=>some false))))) else some false))))) else some false))
noncomputable def zhF (c:Zab) (f:Zaj):Zad Bool:=
  .reg 1 (.call 2490 (JR c) fun r1=>.use 1 2490 (.ite 2330 (r1.2 == 0) (.sel 2331 (.cut (β:=Bool) 1 (.e [2,3,5] (fun v1=>[(7,vB v1)]) [0,1,8] 30) (.reg 0 (.ite 2332 (decide (0≤f.clause)) (.ite 2334 (decide (f.clause < (c.Zae.length:Int))) (.use 4 2332 (.ln 2492 Zam.row c.Zae (.us [(8,2492),(12,2334)] (.ret (f.Zaa == (-1)))))) (.use 4 2332 (.ln 2494 Zam.row c.Zae (.us [(8,2494),(12,2334)] (.ret false))))) (.use 4 2332 (.f1 2496 (.g false) (rfl:false=false) (.use 12 2496 (.ret false)))))) fun v1=>.ite 2336 (f.kind == 1) (.sel 2336 (.cut (β:=Bool) 1 (.e [] (fun v2=>[(4,vB v2)]) [0,1,8] 67) (.reg 0 (.ite 2338 (decide (0≤f.Zaa)) (.ite 2340 (decide (f.Zaa < c.Zao)) (.ite 2342 (f.clause == (-1)) (.ite 2344 (f.other == (-1)) (.call 2498 (zfX c r1.1 f) fun r2=>.ite 2424 r2 (.call 2500 (zfZ c f.Zaa) fun r3=>.us [(4,2338),(11,2340),(16,2342),(21,2344),(24,2498),(27,2424),(30,2500)] (.ret r3)) (.us [(4,2338),(11,2340),(16,2342),(21,2344),(24,2498),(27,2424)] (.ret false))) (.us [(4,2338),(11,2340),(16,2342),(21,2344)] (.f1 2502 (.g false) (rfl:false=false) (.use 27 2502 (.ret false))))) (.us [(4,2338),(11,2340),(16,2342)] (.f1 2506 (.g false) (rfl:false=false) (.use 21 2506 (.f1 2504 (.g false) (rfl:false=false) (.use 27 2504 (.ret false))))))) (.us [(4,2338),(11,2340)] (.f1 2512 (.g false) (rfl:false=false) (.use 16 2512 (.f1 2510 (.g false) (rfl:false=false) (.use 21 2510 (.f1 2508 (.g false) (rfl:false=false) (.use 27 2508 (.ret false))))))))) (.use 4 2338 (.f1 2520 (.g false) (rfl:false=false) (.use 11 2520 (.f1 2518 (.g false) (rfl:false=false) (.use 16 2518 (.f1 2516 (.g false) (rfl:false=false) (.use 21 2516 (.f1 2514 (.g false) (rfl:false=false) (.use 27 2514 (.ret false)))))))))))) fun v2=>.ret v2)) (.sel 2336 (.cut (β:=Bool) 1 (.e [2,3,5,7,35] (fun v3=>[(70,vB v3)]) [0,1,8] 36) (.ite 2450 (f.kind == 2) (.sel 2450 (.ret (f.kind == 2))) (.sel 2450 (.ret (f.kind == 3)))) fun v3=>.ite 2452 v3 (.sel 2452 (.cut (β:=Bool) 1 (.e [] (fun v4=>[(4,vB v4)]) [0,1,8] 54) (.reg 0 (.ite 2454 v1 (.ite 2456 (f.other == (-1)) (.ite 2458 ((f.Zaz.length:Int) == 0) (.call 2522 (zhE c f) fun r4=>.us [(2,2454),(7,2456)] (.ln 2524 zc f.Zaz (.us [(9,2524),(13,2458),(15,2522)] (.ret r4)))) (.us [(2,2454),(7,2456)] (.ln 2526 zc f.Zaz (.us [(9,2526),(13,2458)] (.ret false))))) (.us [(2,2454),(7,2456)] (.f1 2528 (.g false) (rfl:false=false) (.use 13 2528 (.ret false))))) (.use 2 2454 (.f1 2532 (.g false) (rfl:false=false) (.use 7 2532 (.f1 2530 (.g false) (rfl:false=false) (.use 13 2530 (.ret false)))))))) fun v4=>.ret v4)) (.sel 2452 (.ite 2474 (f.kind == 4) (.sel 2474 (.cut (β:=Bool) 2 (.e [2,3,5] (fun v5=>[(115,vB v5)]) [0,1,8] 62) (.reg 0 (.ite 2476 v1 (.ite 2478 (decide (f.other < 0)) (.us [(3,2477),(8,2478)] (.f1 2534 (.g true) (rfl:true=true) (.use 16 2534 (.ret true)))) (.ite 2480 (decide ((c.Zae.length:Int)≤f.other)) (.us [(3,2477),(8,2478)] (.ln 2536 Zam.row c.Zae (.us [(12,2536),(16,2480)] (.ret true)))) (.call 2538 (Yx c f.clause f.other) fun r5=>.us [(3,2477),(8,2478)] (.ln 2540 Zam.row c.Zae (.us [(12,2540),(16,2480),(21,2538)] (.ret (!r5))))))) (.use 3 2477 (.f1 2544 (.g true) (rfl:true=true) (.use 8 2544 (.f1 2542 (.g true) (rfl:true=true) (.use 16 2542 (.ret true)))))))) fun v5=>.ite 2482 v5 (.sel 2482 (.ret false)) (.sel 2482 (.reg 1 (.ln 2552 zc f.Zaz (.use 2 2552 (.forR (σ:=Int×(List Int)×(List Bool)×(List zw)) (ρ:=Unit) 2484 120 (f.Zaz.length:Int) (r1.1.day,r1.1.Zag,r1.1.used,r1.1.Zal) (.k [2,3,8,118,119] (fun _=>[]) [0,1] (fun s1=>[(63,.rows 4 [[vI s1.1,.imm (.slice (List.map zc s1.2.1)),.imm (.slice (List.map zh s1.2.2.1)),.imm (.slice (List.map zw.row s1.2.2.2))]])]) 69 fun _=>(.exp rfl rfl .nil)) (fun i1 s1=>.sel 2484 (.reg 0 (.ix 2546 zc f.Zaz (i1:Int) fun e1=>.use 0 2546 (.reg 0 (.call 2548 (kn c ({day:=s1.1,Zag:=s1.2.1,used:=s1.2.2.1,Zal:=s1.2.2.2}:Zac) e1) fun r6=>.use 3 2548 (.ite 2488 (r6.2 == 0) (.sel 2489 (.ret (.inl (r6.1.day,r6.1.Zag,r6.1.used,r6.1.Zal)))) (.sel 2489 (.ret (.inr ()))))))))) fun os1=>.case os1 (fun s1=>.sel 2484 (.reg 0 (.call 2550 (zbM c ({day:=s1.1,Zag:=s1.2.1,used:=s1.2.2.1,Zal:=s1.2.2.2}:Zac) f.clause f.other) fun r7=>.use 6 2550 (.ret r7)))) fun y1=>.ret false))))))) (.sel 2474 (.ret false)))))))) (.sel 2331 (.ret false))))
theorem yQ (c:Zab) (f:Zaj) (res:Bool) (hd:qG c f=some res):APure C0 322 [.agg (Zab.row c),.agg (Zaj.row f)] (.bool res):=
  Zad.pure (iv:=fun res=>.bool res) (zhF c f) (by kernel_rfl) (Zad.run_of hd (by kernel_rfl))
noncomputable def kq  : Option Bool:=
  (Option.bind (xV 3) fun r1=>(Option.bind (xV 1) fun r2=>(Option.bind (xV 3) fun r3=>(Option.bind (jP ({Zao:=1,Zag:=[0],Zav:=[],Zai:=[({kind:=1,Zap:=0,give:=0,to:=(-1),unit:=(-1),lot:=({num:=0,den:=1}:Ratio)}:Zaq)],Zae:=[({kind:=1,Zap:=0,act:=0,need:=1,start:=[],after:=2,Zay:=0,ZaD:=false,final:=true,pause:=(-1),ZaC:=(-1),value:=({num:=0,den:=1}:Ratio),unit:=(-1),to:=(-1),ZaA:=false}:Zam),({kind:=2,Zap:=0,act:=0,need:=1,start:=[],after:=3,Zay:=0,ZaD:=false,final:=true,pause:=(-1),ZaC:=(-1),value:=({num:=0,den:=1}:Ratio),unit:=(-1),to:=(-1),ZaA:=false}:Zam)],Zat:=5,off:=[]}:Zab)) fun r4=>(Option.bind (jP ({Zao:=1,Zag:=[0],Zav:=[],Zai:=[({kind:=1,Zap:=0,give:=0,to:=(-1),unit:=(-1),lot:=({num:=0,den:=1}:Ratio)}:Zaq)],Zae:=[({kind:=1,Zap:=0,act:=0,need:=1,start:=[],after:=2,Zay:=0,ZaD:=false,final:=true,pause:=(-1),ZaC:=(-1),value:=({num:=0,den:=1}:Ratio),unit:=(-1),to:=(-1),ZaA:=false}:Zam),({kind:=2,Zap:=0,act:=0,need:=1,start:=[],after:=1,Zay:=0,ZaD:=false,final:=true,pause:=(-1),ZaC:=(-1),value:=({num:=0,den:=1}:Ratio),unit:=(-1),to:=(-1),ZaA:=false}:Zam)],Zat:=5,off:=[]}:Zab)) fun r5=>(Option.bind (jP ({Zao:=1,Zag:=[0],Zav:=[],Zai:=[({kind:=1,Zap:=0,give:=0,to:=(-1),unit:=(-1),lot:=({num:=0,den:=1}:Ratio)}:Zaq)],Zae:=[({kind:=1,Zap:=0,act:=0,need:=1,start:=[],after:=2,Zay:=0,ZaD:=false,final:=true,pause:=(-1),ZaC:=(-1),value:=({num:=0,den:=1}:Ratio),unit:=(-1),to:=(-1),ZaA:=false}:Zam),({kind:=2,Zap:=0,act:=0,need:=1,start:=[({clause:=0,is:=4}:CondT)],after:=3,Zay:=0,ZaD:=false,final:=true,pause:=(-1),ZaC:=(-1),value:=({num:=0,den:=1}:Ratio),unit:=(-1),to:=(-1),ZaA:=false}:Zam)],Zat:=5,off:=[]}:Zab)) fun r6=>(Option.bind (bif (r4.2 == 0) then (Option.bind (vw r4.1 ([({kind:=1,Zaa:=0,clause:=(-1),other:=(-1),Zaz:=[(-1),(-1)]}:Zaj),({kind:=4,Zaa:=(-1),clause:=0,other:=1,Zaz:=[]}:Zaj)])) fun r7=>(bif r7 then (bif (r5.2 == 0) then (bif ((r5.1.length:Int) == 0) then (bif (r6.2 == 0) then (Option.bind (vw r6.1 ([({kind:=2,Zaa:=(-1),clause:=1,other:=(-1),Zaz:=[]}:Zaj)])) fun r8=>some r8) else some false) else some false) else some false) else some false)) else some false) fun v1=>(Option.bind (bif v1 then (Option.bind (qG ({Zao:=1,Zag:=[0],Zav:=[],Zai:=[({kind:=1,Zap:=0,give:=0,to:=(-1),unit:=(-1),lot:=({num:=0,den:=1}:Ratio)}:Zaq)],Zae:=[({kind:=1,Zap:=0,act:=0,need:=1,start:=[],after:=2,Zay:=0,ZaD:=false,final:=true,pause:=(-1),ZaC:=(-1),value:=({num:=0,den:=1}:Ratio),unit:=(-1),to:=(-1),ZaA:=false}:Zam),({kind:=2,Zap:=0,act:=0,need:=1,start:=[],after:=3,Zay:=0,ZaD:=false,final:=true,pause:=(-1),ZaC:=(-1),value:=({num:=0,den:=1}:Ratio),unit:=(-1),to:=(-1),ZaA:=false}:Zam)],Zat:=5,off:=[]}:Zab) ({kind:=1,Zaa:=0,clause:=(-1),other:=(-1),Zaz:=[(-1),(-1)]}:Zaj)) fun r9=>(bif r9 then (Option.bind (qG ({Zao:=1,Zag:=[0],Zav:=[],Zai:=[({kind:=1,Zap:=0,give:=0,to:=(-1),unit:=(-1),lot:=({num:=0,den:=1}:Ratio)}:Zaq)],Zae:=[({kind:=1,Zap:=0,act:=0,need:=1,start:=[],after:=2,Zay:=0,ZaD:=false,final:=true,pause:=(-1),ZaC:=(-1),value:=({num:=0,den:=1}:Ratio),unit:=(-1),to:=(-1),ZaA:=false}:Zam),({kind:=2,Zap:=0,act:=0,need:=1,start:=[],after:=3,Zay:=0,ZaD:=false,final:=true,pause:=(-1),ZaC:=(-1),value:=({num:=0,den:=1}:Ratio),unit:=(-1),to:=(-1),ZaA:=false}:Zam)],Zat:=5,off:=[]}:Zab) ({kind:=4,Zaa:=(-1),clause:=0,other:=1,Zaz:=[]}:Zaj)) fun r10=>(bif r10 then (Option.bind (qG ({Zao:=1,Zag:=[0],Zav:=[],Zai:=[({kind:=1,Zap:=0,give:=0,to:=(-1),unit:=(-1),lot:=({num:=0,den:=1}:Ratio)}:Zaq)],Zae:=[({kind:=1,Zap:=0,act:=0,need:=1,start:=[],after:=2,Zay:=0,ZaD:=false,final:=true,pause:=(-1),ZaC:=(-1),value:=({num:=0,den:=1}:Ratio),unit:=(-1),to:=(-1),ZaA:=false}:Zam),({kind:=2,Zap:=0,act:=0,need:=1,start:=[({clause:=0,is:=4}:CondT)],after:=3,Zay:=0,ZaD:=false,final:=true,pause:=(-1),ZaC:=(-1),value:=({num:=0,den:=1}:Ratio),unit:=(-1),to:=(-1),ZaA:=false}:Zam)],Zat:=5,off:=[]}:Zab) ({kind:=2,Zaa:=(-1),clause:=1,other:=(-1),Zaz:=[]}:Zaj)) fun r11=>(bif r11 then (Option.bind (qG ({Zao:=1,Zag:=[0],Zav:=[],Zai:=[({kind:=1,Zap:=0,give:=0,to:=(-1),unit:=(-1),lot:=({num:=0,den:=1}:Ratio)}:Zaq)],Zae:=[({kind:=1,Zap:=0,act:=0,need:=1,start:=[],after:=2,Zay:=0,ZaD:=false,final:=true,pause:=(-1),ZaC:=(-1),value:=({num:=0,den:=1}:Ratio),unit:=(-1),to:=(-1),ZaA:=false}:Zam),({kind:=2,Zap:=0,act:=0,need:=1,start:=[],after:=1,Zay:=0,ZaD:=false,final:=true,pause:=(-1),ZaC:=(-1),value:=({num:=0,den:=1}:Ratio),unit:=(-1),to:=(-1),ZaA:=false}:Zam)],Zat:=5,off:=[]}:Zab) ({kind:=1,Zaa:=0,clause:=(-1),other:=(-1),Zaz:=[(-1),(-1)]}:Zaj)) fun r12=>(bif r12 then some false else (Option.bind (qG ({Zao:=1,Zag:=[0],Zav:=[],Zai:=[({kind:=1,Zap:=0,give:=0,to:=(-1),unit:=(-1),lot:=({num:=0,den:=1}:Ratio)}:Zaq)],Zae:=[({kind:=1,Zap:=0,act:=0,need:=1,start:=[],after:=2,Zay:=0,ZaD:=false,final:=true,pause:=(-1),ZaC:=(-1),value:=({num:=0,den:=1}:Ratio),unit:=(-1),to:=(-1),ZaA:=false}:Zam),({kind:=2,Zap:=0,act:=0,need:=1,start:=[],after:=1,Zay:=0,ZaD:=false,final:=true,pause:=(-1),ZaC:=(-1),value:=({num:=0,den:=1}:Ratio),unit:=(-1),to:=(-1),ZaA:=false}:Zam)],Zat:=5,off:=[]}:Zab) ({kind:=4,Zaa:=(-1),clause:=0,other:=1,Zaz:=[]}:Zaj)) fun r13=>(bif r13 then some false else (Option.bind (qG ({Zao:=1,Zag:=[0],Zav:=[],Zai:=[({kind:=1,Zap:=0,give:=0,to:=(-1),unit:=(-1),lot:=({num:=0,den:=1}:Ratio)}:Zaq)],Zae:=[({kind:=1,Zap:=0,act:=0,need:=1,start:=[],after:=2,Zay:=0,ZaD:=false,final:=true,pause:=(-1),ZaC:=(-1),value:=({num:=0,den:=1}:Ratio),unit:=(-1),to:=(-1),ZaA:=false}:Zam),({kind:=2,Zap:=0,act:=0,need:=1,start:=[],after:=3,Zay:=0,ZaD:=false,final:=true,pause:=(-1),ZaC:=(-1),value:=({num:=0,den:=1}:Ratio),unit:=(-1),to:=(-1),ZaA:=false}:Zam)],Zat:=5,off:=[]}:Zab) ({kind:=2,Zaa:=(-1),clause:=1,other:=(-1),Zaz:=[]}:Zaj)) fun r14=>some (!r14)))))) else some false)) else some false)) else some false)) else some false) fun v2=>some v2))))))))
noncomputable def zf0  : Zad Bool:=
  .reg 1 (.b1 2564 (xV 3) (fun r1=>.c [] 0 (.agg [vI 1,.Zak 21 0 1,.nil,.Zak 23 0 1,.Zak 26 0 2,vI 5,.nil]) [(21,.rows 1 [[vI 0]]),(23,.rows 7 [[vI 1,vI 0,vI 0,vI (-1),vI (-1),vI 0,vI 1]]),(26,.rows 16 [[vI 1,vI 0,vI 0,vI 1,.nil,vI 2,vI 0,vB false,vB true,vI (-1),vI (-1),vI 0,vI 1,vI (-1),vI (-1),vB false],[vI 2,vI 0,vI 0,vI 1,.nil,vI 3,vI 0,vB false,vB true,vI (-1),vI (-1),vI 0,vI 1,vI (-1),vI (-1),vB false]])] 26) (fun r1 hr1=>(zi (zaq 3 r1 hr1) [] 1 (.keep (.keep (.keep .nil))) rhN (rhR (rhR (rhR rhN))))) fun r1=>.b1 2566 (xV 1) (fun r2=>.c [] 0 (.agg [vI 1,.Zak 48 0 1,.nil,.Zak 50 0 1,.Zak 53 0 2,vI 5,.nil]) [(48,.rows 1 [[vI 0]]),(50,.rows 7 [[vI 1,vI 0,vI 0,vI (-1),vI (-1),vI 0,vI 1]]),(53,.rows 16 [[vI 1,vI 0,vI 0,vI 1,.nil,vI 2,vI 0,vB false,vB true,vI (-1),vI (-1),vI 0,vI 1,vI (-1),vI (-1),vB false],[vI 2,vI 0,vI 0,vI 1,.nil,vI 1,vI 0,vB false,vB true,vI (-1),vI (-1),vI 0,vI 1,vI (-1),vI (-1),vB false]])] 26) (fun r2 hr2=>(zi (zaq 1 r2 hr2) [] 28 (.keep (.keep (.keep .nil))) rhN (rhR (rhR (rhR rhN))))) fun r2=>.b1 2568 (xV 3) (fun r3=>.c [] 0 (.agg [vI 1,.Zak 75 0 1,.nil,.Zak 77 0 1,.Zak 80 0 2,vI 5,.nil]) [(75,.rows 1 [[vI 0]]),(77,.rows 7 [[vI 1,vI 0,vI 0,vI (-1),vI (-1),vI 0,vI 1]]),(80,.rows 16 [[vI 1,vI 0,vI 0,vI 1,.nil,vI 2,vI 0,vB false,vB true,vI (-1),vI (-1),vI 0,vI 1,vI (-1),vI (-1),vB false],[vI 2,vI 0,vI 0,vI 1,.nil,vI 3,vI 0,vB false,vB true,vI (-1),vI (-1),vI 0,vI 1,vI (-1),vI (-1),vB false]])] 26) (fun r3 hr3=>(zi (zaq 3 r3 hr3) [] 55 (.keep (.keep (.keep .nil))) rhN (rhR (rhR (rhR rhN))))) fun r3=>.us [(0,2564),(1,2566),(2,2568)] (.weak 2 [vT 21 1 [82] zc [0],vT 23 7 [82] Zaq.row [({kind:=1,Zap:=0,give:=0,to:=(-1),unit:=(-1),lot:=({num:=0,den:=1}:Ratio)}:Zaq)],zcy 26 16 [[vI 1,vI 0,vI 0,vI 1,.nil,vI 2,vI 0,vB false,vB true,vI (-1),vI (-1),vI 0,vI 1,vI (-1),vI (-1),vB false],[vI 2,vI 0,vI 0,vI 1,.nil,vI 3,vI 0,vB false,vB true,vI (-1),vI (-1),vI 0,vI 1,vI (-1),vI (-1),vB false]] [[vI 1,vI 0,vI 0,vI 1,.imm (.slice (List.map CondT.row [])),vI 2,vI 0,vB false,vB true,vI (-1),vI (-1),vI 0,vI 1,vI (-1),vI (-1),vB false],[vI 2,vI 0,vI 0,vI 1,.imm (.slice (List.map CondT.row [])),vI 3,vI 0,vB false,vB true,vI (-1),vI (-1),vI 0,vI 1,vI (-1),vI (-1),vB false]] (.cons (.cons (.refl _) (.cons (.refl _) (.cons (.refl _) (.cons (.refl _) (.cons .nil (.cons (.refl _) (.cons (.refl _) (.cons (.refl _) (.cons (.refl _) (.cons (.refl _) (.cons (.refl _) (.cons (.refl _) (.cons (.refl _) (.cons (.refl _) (.cons (.refl _) (.cons (.refl _) .nil)))))))))))))))) (.cons (.cons (.refl _) (.cons (.refl _) (.cons (.refl _) (.cons (.refl _) (.cons .nil (.cons (.refl _) (.cons (.refl _) (.cons (.refl _) (.cons (.refl _) (.cons (.refl _) (.cons (.refl _) (.cons (.refl _) (.cons (.refl _) (.cons (.refl _) (.cons (.refl _) (.cons (.refl _) .nil)))))))))))))))) .nil)),vT 26 16 [82] Zam.row ([({kind:=1,Zap:=0,act:=0,need:=1,start:=[],after:=2,Zay:=0,ZaD:=false,final:=true,pause:=(-1),ZaC:=(-1),value:=({num:=0,den:=1}:Ratio),unit:=(-1),to:=(-1),ZaA:=false}:Zam),({kind:=2,Zap:=0,act:=0,need:=1,start:=[],after:=3,Zay:=0,ZaD:=false,final:=true,pause:=(-1),ZaC:=(-1),value:=({num:=0,den:=1}:Ratio),unit:=(-1),to:=(-1),ZaA:=false}:Zam)])] (.reg 0 (.call 2570 (WP ({Zao:=1,Zag:=[0],Zav:=[],Zai:=[({kind:=1,Zap:=0,give:=0,to:=(-1),unit:=(-1),lot:=({num:=0,den:=1}:Ratio)}:Zaq)],Zae:=[({kind:=1,Zap:=0,act:=0,need:=1,start:=[],after:=2,Zay:=0,ZaD:=false,final:=true,pause:=(-1),ZaC:=(-1),value:=({num:=0,den:=1}:Ratio),unit:=(-1),to:=(-1),ZaA:=false}:Zam),({kind:=2,Zap:=0,act:=0,need:=1,start:=[],after:=3,Zay:=0,ZaD:=false,final:=true,pause:=(-1),ZaC:=(-1),value:=({num:=0,den:=1}:Ratio),unit:=(-1),to:=(-1),ZaA:=false}:Zam)],Zat:=5,off:=[]}:Zab)) fun r4=>.use 1 2570 (.weak 1 [vT 48 1 [83] zc [0],vT 50 7 [83] Zaq.row [({kind:=1,Zap:=0,give:=0,to:=(-1),unit:=(-1),lot:=({num:=0,den:=1}:Ratio)}:Zaq)],zcy 53 16 [[vI 1,vI 0,vI 0,vI 1,.nil,vI 2,vI 0,vB false,vB true,vI (-1),vI (-1),vI 0,vI 1,vI (-1),vI (-1),vB false],[vI 2,vI 0,vI 0,vI 1,.nil,vI 1,vI 0,vB false,vB true,vI (-1),vI (-1),vI 0,vI 1,vI (-1),vI (-1),vB false]] [[vI 1,vI 0,vI 0,vI 1,.imm (.slice (List.map CondT.row [])),vI 2,vI 0,vB false,vB true,vI (-1),vI (-1),vI 0,vI 1,vI (-1),vI (-1),vB false],[vI 2,vI 0,vI 0,vI 1,.imm (.slice (List.map CondT.row [])),vI 1,vI 0,vB false,vB true,vI (-1),vI (-1),vI 0,vI 1,vI (-1),vI (-1),vB false]] (.cons (.cons (.refl _) (.cons (.refl _) (.cons (.refl _) (.cons (.refl _) (.cons .nil (.cons (.refl _) (.cons (.refl _) (.cons (.refl _) (.cons (.refl _) (.cons (.refl _) (.cons (.refl _) (.cons (.refl _) (.cons (.refl _) (.cons (.refl _) (.cons (.refl _) (.cons (.refl _) .nil)))))))))))))))) (.cons (.cons (.refl _) (.cons (.refl _) (.cons (.refl _) (.cons (.refl _) (.cons .nil (.cons (.refl _) (.cons (.refl _) (.cons (.refl _) (.cons (.refl _) (.cons (.refl _) (.cons (.refl _) (.cons (.refl _) (.cons (.refl _) (.cons (.refl _) (.cons (.refl _) (.cons (.refl _) .nil)))))))))))))))) .nil)),vT 53 16 [83] Zam.row ([({kind:=1,Zap:=0,act:=0,need:=1,start:=[],after:=2,Zay:=0,ZaD:=false,final:=true,pause:=(-1),ZaC:=(-1),value:=({num:=0,den:=1}:Ratio),unit:=(-1),to:=(-1),ZaA:=false}:Zam),({kind:=2,Zap:=0,act:=0,need:=1,start:=[],after:=1,Zay:=0,ZaD:=false,final:=true,pause:=(-1),ZaC:=(-1),value:=({num:=0,den:=1}:Ratio),unit:=(-1),to:=(-1),ZaA:=false}:Zam)])] (.reg 0 (.call 2572 (WP ({Zao:=1,Zag:=[0],Zav:=[],Zai:=[({kind:=1,Zap:=0,give:=0,to:=(-1),unit:=(-1),lot:=({num:=0,den:=1}:Ratio)}:Zaq)],Zae:=[({kind:=1,Zap:=0,act:=0,need:=1,start:=[],after:=2,Zay:=0,ZaD:=false,final:=true,pause:=(-1),ZaC:=(-1),value:=({num:=0,den:=1}:Ratio),unit:=(-1),to:=(-1),ZaA:=false}:Zam),({kind:=2,Zap:=0,act:=0,need:=1,start:=[],after:=1,Zay:=0,ZaD:=false,final:=true,pause:=(-1),ZaC:=(-1),value:=({num:=0,den:=1}:Ratio),unit:=(-1),to:=(-1),ZaA:=false}:Zam)],Zat:=5,off:=[]}:Zab)) fun r5=>.use 1 2572 (.weak 1 [vT 75 1 [84] zc [0],vT 77 7 [84] Zaq.row [({kind:=1,Zap:=0,give:=0,to:=(-1),unit:=(-1),lot:=({num:=0,den:=1}:Ratio)}:Zaq)],vT 91 2 [80] CondT.row [({clause:=0,is:=4}:CondT)],zcy 80 16 [[vI 1,vI 0,vI 0,vI 1,.nil,vI 2,vI 0,vB false,vB true,vI (-1),vI (-1),vI 0,vI 1,vI (-1),vI (-1),vB false],[vI 2,vI 0,vI 0,vI 1,.imm (.slice (List.map CondT.row [({clause:=0,is:=4}:CondT)])),vI 3,vI 0,vB false,vB true,vI (-1),vI (-1),vI 0,vI 1,vI (-1),vI (-1),vB false]] [[vI 1,vI 0,vI 0,vI 1,.imm (.slice (List.map CondT.row [])),vI 2,vI 0,vB false,vB true,vI (-1),vI (-1),vI 0,vI 1,vI (-1),vI (-1),vB false],[vI 2,vI 0,vI 0,vI 1,.imm (.slice (List.map CondT.row [({clause:=0,is:=4}:CondT)])),vI 3,vI 0,vB false,vB true,vI (-1),vI (-1),vI 0,vI 1,vI (-1),vI (-1),vB false]] (.cons (.cons (.refl _) (.cons (.refl _) (.cons (.refl _) (.cons (.refl _) (.cons .nil (.cons (.refl _) (.cons (.refl _) (.cons (.refl _) (.cons (.refl _) (.cons (.refl _) (.cons (.refl _) (.cons (.refl _) (.cons (.refl _) (.cons (.refl _) (.cons (.refl _) (.cons (.refl _) .nil)))))))))))))))) (.cons (.cons (.refl _) (.cons (.refl _) (.cons (.refl _) (.cons (.refl _) (.cons (.refl _) (.cons (.refl _) (.cons (.refl _) (.cons (.refl _) (.cons (.refl _) (.cons (.refl _) (.cons (.refl _) (.cons (.refl _) (.cons (.refl _) (.cons (.refl _) (.cons (.refl _) (.cons (.refl _) .nil)))))))))))))))) .nil)),vT 80 16 [84] Zam.row ([({kind:=1,Zap:=0,act:=0,need:=1,start:=[],after:=2,Zay:=0,ZaD:=false,final:=true,pause:=(-1),ZaC:=(-1),value:=({num:=0,den:=1}:Ratio),unit:=(-1),to:=(-1),ZaA:=false}:Zam),({kind:=2,Zap:=0,act:=0,need:=1,start:=[({clause:=0,is:=4}:CondT)],after:=3,Zay:=0,ZaD:=false,final:=true,pause:=(-1),ZaC:=(-1),value:=({num:=0,den:=1}:Ratio),unit:=(-1),to:=(-1),ZaA:=false}:Zam)])] (.reg 0 (.call 2574 (WP ({Zao:=1,Zag:=[0],Zav:=[],Zai:=[({kind:=1,Zap:=0,give:=0,to:=(-1),unit:=(-1),lot:=({num:=0,den:=1}:Ratio)}:Zaq)],Zae:=[({kind:=1,Zap:=0,act:=0,need:=1,start:=[],after:=2,Zay:=0,ZaD:=false,final:=true,pause:=(-1),ZaC:=(-1),value:=({num:=0,den:=1}:Ratio),unit:=(-1),to:=(-1),ZaA:=false}:Zam),({kind:=2,Zap:=0,act:=0,need:=1,start:=[({clause:=0,is:=4}:CondT)],after:=3,Zay:=0,ZaD:=false,final:=true,pause:=(-1),ZaC:=(-1),value:=({num:=0,den:=1}:Ratio),unit:=(-1),to:=(-1),ZaA:=false}:Zam)],Zat:=5,off:=[]}:Zab)) fun r6=>.use 1 2574 (.cut (β:=Bool) 4 (.e [1,2,3,10,11,12] (fun v1=>[(13,vB v1)]) [82,83,84,116,118,121,124] 155) (.reg 0 (.ite 2258 (r4.2 == 0) (.bind (vw r4.1 ([({kind:=1,Zaa:=0,clause:=(-1),other:=(-1),Zaz:=[(-1),(-1)]}:Zaj),({kind:=4,Zaa:=(-1),clause:=0,other:=1,Zaz:=[]}:Zaj)])) (fun r7=>[(2576,([.w [132,116] [.slice (List.map Zaj.row r4.1),.slice (List.map Zaj.row ([({kind:=1,Zaa:=0,clause:=(-1),other:=(-1),Zaz:=[(-1),(-1)]}:Zaj),({kind:=4,Zaa:=(-1),clause:=0,other:=1,Zaz:=[]}:Zaj)]))] (.bool r7)],_))]) (fun r7 hr7=>(.c2 (zbN r4.1 ([({kind:=1,Zaa:=0,clause:=(-1),other:=(-1),Zaz:=[(-1),(-1)]}:Zaj),({kind:=4,Zaa:=(-1),clause:=0,other:=1,Zaz:=[]}:Zaj)]) r7 hr7) (jq [.imm (.slice (List.map Zaj.row r4.1)),.Zak 132 0 2] [(132,.rows 5 [[vI 1,vI 0,vI (-1),vI (-1),.Zak 116 0 2],[vI 4,vI (-1),vI 0,vI 1,.nil]]),(116,.rows 1 [[vI (-1)],[vI (-1)]])] [.slice (List.map Zaj.row r4.1),.slice (List.map Zaj.row ([({kind:=1,Zaa:=0,clause:=(-1),other:=(-1),Zaz:=[(-1),(-1)]}:Zaj),({kind:=4,Zaa:=(-1),clause:=0,other:=1,Zaz:=[]}:Zaj)]))] (by kernel_rfl)) .nil)) fun r7=>.ite 2320 r7 (.ite 2322 (r5.2 == 0) (.ite 2324 ((r5.1.length:Int) == 0) (.ite 2326 (r6.2 == 0) (.bind (vw r6.1 ([({kind:=2,Zaa:=(-1),clause:=1,other:=(-1),Zaz:=[]}:Zaj)])) (fun r8=>[(2578,([.w [151] [.slice (List.map Zaj.row r6.1),.slice (List.map Zaj.row ([({kind:=2,Zaa:=(-1),clause:=1,other:=(-1),Zaz:=[]}:Zaj)]))] (.bool r8)],_))]) (fun r8 hr8=>(.c2 (zbN r6.1 ([({kind:=2,Zaa:=(-1),clause:=1,other:=(-1),Zaz:=[]}:Zaj)]) r8 hr8) (jq [.imm (.slice (List.map Zaj.row r6.1)),.Zak 151 0 1] [(151,.rows 5 [[vI 2,vI (-1),vI 1,vI (-1),.nil]])] [.slice (List.map Zaj.row r6.1),.slice (List.map Zaj.row ([({kind:=2,Zaa:=(-1),clause:=1,other:=(-1),Zaz:=[]}:Zaj)]))] (by kernel_rfl)) .nil)) fun r8=>.us [(3,2258),(7,2576),(10,2320),(14,2322)] (.ln 2580 Zaj.row r5.1 (.us [(15,2580),(19,2324),(23,2326),(26,2578)] (.ret r8)))) (.us [(3,2258),(7,2576),(10,2320),(14,2322)] (.ln 2582 Zaj.row r5.1 (.us [(15,2582),(19,2324),(23,2326)] (.ret false))))) (.us [(3,2258),(7,2576),(10,2320),(14,2322)] (.ln 2586 Zaj.row r5.1 (.us [(15,2586),(19,2324)] (.f1 2584 (.g false) (rfl:false=false) (.use 23 2584 (.ret false))))))) (.us [(3,2258),(7,2576),(10,2320),(14,2322)] (.f1 2590 (.g false) (rfl:false=false) (.use 19 2590 (.f1 2588 (.g false) (rfl:false=false) (.use 23 2588 (.ret false))))))) (.us [(3,2258),(7,2576),(10,2320)] (.f1 2596 (.g false) (rfl:false=false) (.use 14 2596 (.f1 2594 (.g false) (rfl:false=false) (.use 19 2594 (.f1 2592 (.g false) (rfl:false=false) (.use 23 2592 (.ret false))))))))) (.use 3 2258 (.f1 2604 (.g false) (rfl:false=false) (.use 10 2604 (.f1 2602 (.g false) (rfl:false=false) (.use 14 2602 (.f1 2600 (.g false) (rfl:false=false) (.use 19 2600 (.f1 2598 (.g false) (rfl:false=false) (.use 23 2598 (.ret false)))))))))))) fun v1=>.cut (β:=Bool) 1 (.e [] (fun v2=>[(0,vB v2)]) [82,83,84,116,118,121,124] 190) (.reg 0 (.ite 2328 v1 (.bind (qG ({Zao:=1,Zag:=[0],Zav:=[],Zai:=[({kind:=1,Zap:=0,give:=0,to:=(-1),unit:=(-1),lot:=({num:=0,den:=1}:Ratio)}:Zaq)],Zae:=[({kind:=1,Zap:=0,act:=0,need:=1,start:=[],after:=2,Zay:=0,ZaD:=false,final:=true,pause:=(-1),ZaC:=(-1),value:=({num:=0,den:=1}:Ratio),unit:=(-1),to:=(-1),ZaA:=false}:Zam),({kind:=2,Zap:=0,act:=0,need:=1,start:=[],after:=3,Zay:=0,ZaD:=false,final:=true,pause:=(-1),ZaC:=(-1),value:=({num:=0,den:=1}:Ratio),unit:=(-1),to:=(-1),ZaA:=false}:Zam)],Zat:=5,off:=[]}:Zab) ({kind:=1,Zaa:=0,clause:=(-1),other:=(-1),Zaz:=[(-1),(-1)]}:Zaj)) (fun r9=>[(2606,([.w [116] [.agg (Zab.row ({Zao:=1,Zag:=[0],Zav:=[],Zai:=[({kind:=1,Zap:=0,give:=0,to:=(-1),unit:=(-1),lot:=({num:=0,den:=1}:Ratio)}:Zaq)],Zae:=[({kind:=1,Zap:=0,act:=0,need:=1,start:=[],after:=2,Zay:=0,ZaD:=false,final:=true,pause:=(-1),ZaC:=(-1),value:=({num:=0,den:=1}:Ratio),unit:=(-1),to:=(-1),ZaA:=false}:Zam),({kind:=2,Zap:=0,act:=0,need:=1,start:=[],after:=3,Zay:=0,ZaD:=false,final:=true,pause:=(-1),ZaC:=(-1),value:=({num:=0,den:=1}:Ratio),unit:=(-1),to:=(-1),ZaA:=false}:Zam)],Zat:=5,off:=[]}:Zab)),.agg (Zaj.row ({kind:=1,Zaa:=0,clause:=(-1),other:=(-1),Zaz:=[(-1),(-1)]}:Zaj))] (.bool r9)],_))]) (fun r9 hr9=>(.c2 (yQ ({Zao:=1,Zag:=[0],Zav:=[],Zai:=[({kind:=1,Zap:=0,give:=0,to:=(-1),unit:=(-1),lot:=({num:=0,den:=1}:Ratio)}:Zaq)],Zae:=[({kind:=1,Zap:=0,act:=0,need:=1,start:=[],after:=2,Zay:=0,ZaD:=false,final:=true,pause:=(-1),ZaC:=(-1),value:=({num:=0,den:=1}:Ratio),unit:=(-1),to:=(-1),ZaA:=false}:Zam),({kind:=2,Zap:=0,act:=0,need:=1,start:=[],after:=3,Zay:=0,ZaD:=false,final:=true,pause:=(-1),ZaC:=(-1),value:=({num:=0,den:=1}:Ratio),unit:=(-1),to:=(-1),ZaA:=false}:Zam)],Zat:=5,off:=[]}:Zab) ({kind:=1,Zaa:=0,clause:=(-1),other:=(-1),Zaz:=[(-1),(-1)]}:Zaj) r9 hr9) (jq [.agg ([vI 1,.imm (.slice (List.map zc [0])),.nil,.imm (.slice (List.map Zaq.row [({kind:=1,Zap:=0,give:=0,to:=(-1),unit:=(-1),lot:=({num:=0,den:=1}:Ratio)}:Zaq)])),.imm (.slice (List.map Zam.row ([({kind:=1,Zap:=0,act:=0,need:=1,start:=[],after:=2,Zay:=0,ZaD:=false,final:=true,pause:=(-1),ZaC:=(-1),value:=({num:=0,den:=1}:Ratio),unit:=(-1),to:=(-1),ZaA:=false}:Zam),({kind:=2,Zap:=0,act:=0,need:=1,start:=[],after:=3,Zay:=0,ZaD:=false,final:=true,pause:=(-1),ZaC:=(-1),value:=({num:=0,den:=1}:Ratio),unit:=(-1),to:=(-1),ZaA:=false}:Zam)]))),vI 5,.nil]),.agg [vI 1,vI 0,vI (-1),vI (-1),.Zak 116 0 2]] [(116,.rows 1 [[vI (-1)],[vI (-1)]])] [.agg (Zab.row ({Zao:=1,Zag:=[0],Zav:=[],Zai:=[({kind:=1,Zap:=0,give:=0,to:=(-1),unit:=(-1),lot:=({num:=0,den:=1}:Ratio)}:Zaq)],Zae:=[({kind:=1,Zap:=0,act:=0,need:=1,start:=[],after:=2,Zay:=0,ZaD:=false,final:=true,pause:=(-1),ZaC:=(-1),value:=({num:=0,den:=1}:Ratio),unit:=(-1),to:=(-1),ZaA:=false}:Zam),({kind:=2,Zap:=0,act:=0,need:=1,start:=[],after:=3,Zay:=0,ZaD:=false,final:=true,pause:=(-1),ZaC:=(-1),value:=({num:=0,den:=1}:Ratio),unit:=(-1),to:=(-1),ZaA:=false}:Zam)],Zat:=5,off:=[]}:Zab)),.agg (Zaj.row ({kind:=1,Zaa:=0,clause:=(-1),other:=(-1),Zaz:=[(-1),(-1)]}:Zaj))] (by kernel_rfl)) .nil)) fun r9=>.ite 2554 r9 (.call 2608 (yQ ({Zao:=1,Zag:=[0],Zav:=[],Zai:=[({kind:=1,Zap:=0,give:=0,to:=(-1),unit:=(-1),lot:=({num:=0,den:=1}:Ratio)}:Zaq)],Zae:=[({kind:=1,Zap:=0,act:=0,need:=1,start:=[],after:=2,Zay:=0,ZaD:=false,final:=true,pause:=(-1),ZaC:=(-1),value:=({num:=0,den:=1}:Ratio),unit:=(-1),to:=(-1),ZaA:=false}:Zam),({kind:=2,Zap:=0,act:=0,need:=1,start:=[],after:=3,Zay:=0,ZaD:=false,final:=true,pause:=(-1),ZaC:=(-1),value:=({num:=0,den:=1}:Ratio),unit:=(-1),to:=(-1),ZaA:=false}:Zam)],Zat:=5,off:=[]}:Zab) ({kind:=4,Zaa:=(-1),clause:=0,other:=1,Zaz:=[]}:Zaj)) fun r10=>.ite 2556 r10 (.call 2610 (yQ ({Zao:=1,Zag:=[0],Zav:=[],Zai:=[({kind:=1,Zap:=0,give:=0,to:=(-1),unit:=(-1),lot:=({num:=0,den:=1}:Ratio)}:Zaq)],Zae:=[({kind:=1,Zap:=0,act:=0,need:=1,start:=[],after:=2,Zay:=0,ZaD:=false,final:=true,pause:=(-1),ZaC:=(-1),value:=({num:=0,den:=1}:Ratio),unit:=(-1),to:=(-1),ZaA:=false}:Zam),({kind:=2,Zap:=0,act:=0,need:=1,start:=[({clause:=0,is:=4}:CondT)],after:=3,Zay:=0,ZaD:=false,final:=true,pause:=(-1),ZaC:=(-1),value:=({num:=0,den:=1}:Ratio),unit:=(-1),to:=(-1),ZaA:=false}:Zam)],Zat:=5,off:=[]}:Zab) ({kind:=2,Zaa:=(-1),clause:=1,other:=(-1),Zaz:=[]}:Zaj)) fun r11=>.ite 2558 r11 (.bind (qG ({Zao:=1,Zag:=[0],Zav:=[],Zai:=[({kind:=1,Zap:=0,give:=0,to:=(-1),unit:=(-1),lot:=({num:=0,den:=1}:Ratio)}:Zaq)],Zae:=[({kind:=1,Zap:=0,act:=0,need:=1,start:=[],after:=2,Zay:=0,ZaD:=false,final:=true,pause:=(-1),ZaC:=(-1),value:=({num:=0,den:=1}:Ratio),unit:=(-1),to:=(-1),ZaA:=false}:Zam),({kind:=2,Zap:=0,act:=0,need:=1,start:=[],after:=1,Zay:=0,ZaD:=false,final:=true,pause:=(-1),ZaC:=(-1),value:=({num:=0,den:=1}:Ratio),unit:=(-1),to:=(-1),ZaA:=false}:Zam)],Zat:=5,off:=[]}:Zab) ({kind:=1,Zaa:=0,clause:=(-1),other:=(-1),Zaz:=[(-1),(-1)]}:Zaj)) (fun r12=>[(2612,([.w [116] [.agg (Zab.row ({Zao:=1,Zag:=[0],Zav:=[],Zai:=[({kind:=1,Zap:=0,give:=0,to:=(-1),unit:=(-1),lot:=({num:=0,den:=1}:Ratio)}:Zaq)],Zae:=[({kind:=1,Zap:=0,act:=0,need:=1,start:=[],after:=2,Zay:=0,ZaD:=false,final:=true,pause:=(-1),ZaC:=(-1),value:=({num:=0,den:=1}:Ratio),unit:=(-1),to:=(-1),ZaA:=false}:Zam),({kind:=2,Zap:=0,act:=0,need:=1,start:=[],after:=1,Zay:=0,ZaD:=false,final:=true,pause:=(-1),ZaC:=(-1),value:=({num:=0,den:=1}:Ratio),unit:=(-1),to:=(-1),ZaA:=false}:Zam)],Zat:=5,off:=[]}:Zab)),.agg (Zaj.row ({kind:=1,Zaa:=0,clause:=(-1),other:=(-1),Zaz:=[(-1),(-1)]}:Zaj))] (.bool r12)],_))]) (fun r12 hr12=>(.c2 (yQ ({Zao:=1,Zag:=[0],Zav:=[],Zai:=[({kind:=1,Zap:=0,give:=0,to:=(-1),unit:=(-1),lot:=({num:=0,den:=1}:Ratio)}:Zaq)],Zae:=[({kind:=1,Zap:=0,act:=0,need:=1,start:=[],after:=2,Zay:=0,ZaD:=false,final:=true,pause:=(-1),ZaC:=(-1),value:=({num:=0,den:=1}:Ratio),unit:=(-1),to:=(-1),ZaA:=false}:Zam),({kind:=2,Zap:=0,act:=0,need:=1,start:=[],after:=1,Zay:=0,ZaD:=false,final:=true,pause:=(-1),ZaC:=(-1),value:=({num:=0,den:=1}:Ratio),unit:=(-1),to:=(-1),ZaA:=false}:Zam)],Zat:=5,off:=[]}:Zab) ({kind:=1,Zaa:=0,clause:=(-1),other:=(-1),Zaz:=[(-1),(-1)]}:Zaj) r12 hr12) (jq [.agg ([vI 1,.imm (.slice (List.map zc [0])),.nil,.imm (.slice (List.map Zaq.row [({kind:=1,Zap:=0,give:=0,to:=(-1),unit:=(-1),lot:=({num:=0,den:=1}:Ratio)}:Zaq)])),.imm (.slice (List.map Zam.row ([({kind:=1,Zap:=0,act:=0,need:=1,start:=[],after:=2,Zay:=0,ZaD:=false,final:=true,pause:=(-1),ZaC:=(-1),value:=({num:=0,den:=1}:Ratio),unit:=(-1),to:=(-1),ZaA:=false}:Zam),({kind:=2,Zap:=0,act:=0,need:=1,start:=[],after:=1,Zay:=0,ZaD:=false,final:=true,pause:=(-1),ZaC:=(-1),value:=({num:=0,den:=1}:Ratio),unit:=(-1),to:=(-1),ZaA:=false}:Zam)]))),vI 5,.nil]),.agg [vI 1,vI 0,vI (-1),vI (-1),.Zak 116 0 2]] [(116,.rows 1 [[vI (-1)],[vI (-1)]])] [.agg (Zab.row ({Zao:=1,Zag:=[0],Zav:=[],Zai:=[({kind:=1,Zap:=0,give:=0,to:=(-1),unit:=(-1),lot:=({num:=0,den:=1}:Ratio)}:Zaq)],Zae:=[({kind:=1,Zap:=0,act:=0,need:=1,start:=[],after:=2,Zay:=0,ZaD:=false,final:=true,pause:=(-1),ZaC:=(-1),value:=({num:=0,den:=1}:Ratio),unit:=(-1),to:=(-1),ZaA:=false}:Zam),({kind:=2,Zap:=0,act:=0,need:=1,start:=[],after:=1,Zay:=0,ZaD:=false,final:=true,pause:=(-1),ZaC:=(-1),value:=({num:=0,den:=1}:Ratio),unit:=(-1),to:=(-1),ZaA:=false}:Zam)],Zat:=5,off:=[]}:Zab)),.agg (Zaj.row ({kind:=1,Zaa:=0,clause:=(-1),other:=(-1),Zaz:=[(-1),(-1)]}:Zaj))] (by kernel_rfl)) .nil)) fun r12=>.ite 2560 r12 (.us [(2,2328),(4,2606),(7,2554),(9,2608),(12,2556),(14,2610),(17,2558),(19,2612),(23,2561)] (.f1 2614 (.g false) (rfl:false=false) (.use 29 2614 (.ret false)))) (.call 2616 (yQ ({Zao:=1,Zag:=[0],Zav:=[],Zai:=[({kind:=1,Zap:=0,give:=0,to:=(-1),unit:=(-1),lot:=({num:=0,den:=1}:Ratio)}:Zaq)],Zae:=[({kind:=1,Zap:=0,act:=0,need:=1,start:=[],after:=2,Zay:=0,ZaD:=false,final:=true,pause:=(-1),ZaC:=(-1),value:=({num:=0,den:=1}:Ratio),unit:=(-1),to:=(-1),ZaA:=false}:Zam),({kind:=2,Zap:=0,act:=0,need:=1,start:=[],after:=1,Zay:=0,ZaD:=false,final:=true,pause:=(-1),ZaC:=(-1),value:=({num:=0,den:=1}:Ratio),unit:=(-1),to:=(-1),ZaA:=false}:Zam)],Zat:=5,off:=[]}:Zab) ({kind:=4,Zaa:=(-1),clause:=0,other:=1,Zaz:=[]}:Zaj)) fun r13=>.ite 2562 r13 (.us [(2,2328),(4,2606),(7,2554),(9,2608),(12,2556),(14,2610),(17,2558),(19,2612),(23,2561),(25,2616),(29,2563)] (.ret false)) (.call 2618 (yQ ({Zao:=1,Zag:=[0],Zav:=[],Zai:=[({kind:=1,Zap:=0,give:=0,to:=(-1),unit:=(-1),lot:=({num:=0,den:=1}:Ratio)}:Zaq)],Zae:=[({kind:=1,Zap:=0,act:=0,need:=1,start:=[],after:=2,Zay:=0,ZaD:=false,final:=true,pause:=(-1),ZaC:=(-1),value:=({num:=0,den:=1}:Ratio),unit:=(-1),to:=(-1),ZaA:=false}:Zam),({kind:=2,Zap:=0,act:=0,need:=1,start:=[],after:=3,Zay:=0,ZaD:=false,final:=true,pause:=(-1),ZaC:=(-1),value:=({num:=0,den:=1}:Ratio),unit:=(-1),to:=(-1),ZaA:=false}:Zam)],Zat:=5,off:=[]}:Zab) ({kind:=2,Zaa:=(-1),clause:=1,other:=(-1),Zaz:=[]}:Zaj)) fun r14=>.us [(2,2328),(4,2606),(7,2554),(9,2608),(12,2556),(14,2610),(17,2558),(19,2612),(23,2561),(25,2616),(29,2563),(31,2618)] (.ret (!r14))))) (.us [(2,2328),(4,2606),(7,2554),(9,2608),(12,2556),(14,2610),(17,2558)] (.f1 2622 (.g false) (rfl:false=false) (.use 23 2622 (.f1 2620 (.g false) (rfl:false=false) (.use 29 2620 (.ret false))))))) (.us [(2,2328),(4,2606),(7,2554),(9,2608),(12,2556)] (.f1 2628 (.g false) (rfl:false=false) (.use 17 2628 (.f1 2626 (.g false) (rfl:false=false) (.use 23 2626 (.f1 2624 (.g false) (rfl:false=false) (.use 29 2624 (.ret false))))))))) (.us [(2,2328),(4,2606),(7,2554)] (.f1 2636 (.g false) (rfl:false=false) (.use 12 2636 (.f1 2634 (.g false) (rfl:false=false) (.use 17 2634 (.f1 2632 (.g false) (rfl:false=false) (.use 23 2632 (.f1 2630 (.g false) (rfl:false=false) (.use 29 2630 (.ret false))))))))))) (.use 2 2328 (.f1 2646 (.g false) (rfl:false=false) (.use 7 2646 (.f1 2644 (.g false) (rfl:false=false) (.use 12 2644 (.f1 2642 (.g false) (rfl:false=false) (.use 17 2642 (.f1 2640 (.g false) (rfl:false=false) (.use 23 2640 (.f1 2638 (.g false) (rfl:false=false) (.use 29 2638 (.ret false)))))))))))))) fun v2=>.ret v2)))))))))))
theorem zf1  (res:Bool) (hd:kq  = some res):APure C0 315 [] (.bool res):=
  Zad.pure (iv:=fun res=>.bool res) (zf0 ) (by kernel_rfl) (Zad.run_of hd (by kernel_rfl))
noncomputable def kV (c:Zab) (n:Int):Option Bool:=
  (Option.bind (bif decide (20 < (c.Zag.length:Int)) then some true else (bif decide (30 < (c.Zav.length:Int)) then some true else (bif decide (70 < (c.Zai.length:Int)) then some true else (bif decide (n < (c.Zae.length:Int)) then some true else some (decide (100 < (c.off.length:Int))))))) fun v1=>(bif v1 then some false else (Option.bind (forR (σ:=Unit) (ρ:=Unit) (c.Zae.length:Int) (fun i1 s1=>(Option.bind (ze c.Zae (i1:Int)) fun e1=>(bif decide (20 < (e1.start.length:Int)) then some (.inr ()) else some (.inl ())))) ()) (Sum.elim (fun (s1:Unit)=>some true) (fun (y1:Unit)=>some false)))))
noncomputable def zer (c:Zab) (n:Int):Zad Bool:=
  .cut (β:=Bool) 3 (.e [2] (fun v1=>[(34,vB v1)]) [0] 31) (.reg 0 (.ite 2648 (decide (20 < (c.Zag.length:Int))) (.ln 2668 zc c.Zag (.us [(2,2668),(5,2648)] (.f1 2666 (.g true) (rfl:true=true) (.use 11 2666 (.f1 2664 (.g true) (rfl:true=true) (.use 17 2664 (.f1 2662 (.g true) (rfl:true=true) (.use 24 2662 (.ret true))))))))) (.ite 2650 (decide (30 < (c.Zav.length:Int))) (.ln 2676 zc c.Zag (.us [(2,2676),(5,2648)] (.ln 2674 ZaE.row c.Zav (.us [(7,2674),(11,2650)] (.f1 2672 (.g true) (rfl:true=true) (.use 17 2672 (.f1 2670 (.g true) (rfl:true=true) (.use 24 2670 (.ret true))))))))) (.ite 2652 (decide (70 < (c.Zai.length:Int))) (.ln 2684 zc c.Zag (.us [(2,2684),(5,2648)] (.ln 2682 ZaE.row c.Zav (.us [(7,2682),(11,2650)] (.ln 2680 Zaq.row c.Zai (.us [(13,2680),(17,2652)] (.f1 2678 (.g true) (rfl:true=true) (.use 24 2678 (.ret true))))))))) (.ite 2654 (decide (n < (c.Zae.length:Int))) (.ln 2692 zc c.Zag (.us [(2,2692),(5,2648)] (.ln 2690 ZaE.row c.Zav (.us [(7,2690),(11,2650)] (.ln 2688 Zaq.row c.Zai (.us [(13,2688),(17,2652)] (.ln 2686 Zam.row c.Zae (.us [(19,2686),(24,2654)] (.ret true))))))))) (.ln 2702 zc c.Zag (.us [(2,2702),(5,2648)] (.ln 2700 ZaE.row c.Zav (.us [(7,2700),(11,2650)] (.ln 2698 Zaq.row c.Zai (.us [(13,2698),(17,2652)] (.ln 2696 Zam.row c.Zae (.us [(19,2696),(24,2654)] (.ln 2694 zc c.off (.use 26 2694 (.ret (decide (100 < (c.off.length:Int))))))))))))))))))) fun v1=>.ite 2656 v1 (.sel 2656 (.ret false)) (.sel 2656 (.forR (σ:=Unit) (ρ:=Unit) 2658 5 (c.Zae.length:Int) () (.e [2] (fun _=>[]) [0] 32) (fun i1 s1=>.reg 0 (.ln 2708 Zam.row c.Zae (.use 3 2708 (.sel 2658 (.reg 0 (.ix 2704 Zam.row c.Zae (i1:Int) fun e1=>.use 3 2704 (.ln 2706 CondT.row e1.start (.use 6 2706 (.ite 2660 (decide (20 < (e1.start.length:Int))) (.sel 2660 (.ret (.inr ()))) (.sel 2660 (.ret (.inl ())))))))))))) fun os1=>.case os1 (fun s1=>.reg 0 (.ln 2710 Zam.row c.Zae (.use 3 2710 (.sel 2658 (.ret true))))) fun y1=>.ret false))
theorem zes (c:Zab) (n:Int) (res:Bool) (hd:kV c n=some res):APure C0 94 [.agg (Zab.row c),.int .i64 n] (.bool res):=
  Zad.pure (iv:=fun res=>.bool res) (zer c n) (by kernel_rfl) (Zad.run_of hd (by kernel_rfl))
noncomputable def WR (c:Zab):Option Bool:=
  (Option.bind (Option.bind (kV c 6) fun r1=>(bif r1 then (bif decide ((c.Zai.length:Int)≤8) then some (decide (c.Zat≤20)) else some false) else some false)) fun v1=>some v1)
noncomputable def zjj (c:Zab):Zad Bool:=
  .cut (β:=Bool) 2 (.e [] (fun v1=>[(2,vB v1)]) [0] 16) (.reg 0 (.call 2716 (zes c 6) fun r1=>.ite 2712 r1 (.ite 2714 (decide ((c.Zai.length:Int)≤8)) (.us [(1,2716),(3,2712)] (.ln 2718 Zaq.row c.Zai (.us [(5,2718),(9,2714)] (.ret (decide (c.Zat≤20)))))) (.us [(1,2716),(3,2712)] (.ln 2720 Zaq.row c.Zai (.us [(5,2720),(9,2714)] (.ret false))))) (.us [(1,2716),(3,2712)] (.f1 2722 (.g false) (rfl:false=false) (.use 9 2722 (.ret false)))))) fun v1=>.ret v1
theorem zjk (c:Zab) (res:Bool) (hd:WR c=some res):APure C0 97 [.agg (Zab.row c)] (.bool res):=
  Zad.pure (iv:=fun res=>.bool res) (zjj c) (by kernel_rfl) (Zad.run_of hd (by kernel_rfl))
noncomputable def Qm (c:Zab) (i:Int) (j:Int):Option Bool:=
  (Option.bind (bif decide (i < 0) then some true else (bif decide (j < 0) then some true else (bif decide ((c.Zae.length:Int)≤i) then some true else some (decide ((c.Zae.length:Int)≤j))))) fun v1=>(bif v1 then some false else (Option.bind (forR (σ:=Unit) (ρ:=Unit) (c.Zai.length:Int) (fun i1 s1=>(Option.bind (ze c.Zai (i1:Int)) fun e1=>(bif (e1.kind == 3) then some (.inr ()) else some (.inl ())))) ()) (Sum.elim (fun (s1:Unit)=>(Option.bind (ze c.Zae i) fun e2=>(Option.bind (ze c.Zae j) fun e3=>(Option.bind (bif (e2.kind == 1) then (bif (e3.kind == 2) then (bif e2.final then (bif e3.final then (bif e2.ZaA then some false else (bif e3.ZaA then some false else (bif (e2.act == e3.act) then (bif (e2.pause == (-1)) then (bif (e3.pause == (-1)) then some (e2.ZaD == e3.ZaD) else some false) else some false) else some false))) else some false) else some false) else some false) else some false) fun v2=>some v2)))) (fun (y1:Unit)=>some false)))))
noncomputable def zf2 (c:Zab) (i:Int) (j:Int):Zad Bool:=
  .cut (β:=Bool) 3 (.e [1,2,3] (fun v1=>[(29,vB v1)]) [0] 22) (.reg 0 (.ite 3332 (decide (i < 0)) (.use 3 3332 (.f1 3364 (.g true) (rfl:true=true) (.use 7 3364 (.f1 3362 (.g true) (rfl:true=true) (.use 14 3362 (.ret true)))))) (.ite 3334 (decide (j < 0)) (.us [(3,3332),(7,3334)] (.f1 3366 (.g true) (rfl:true=true) (.use 14 3366 (.ret true)))) (.ite 3336 (decide ((c.Zae.length:Int)≤i)) (.us [(3,3332),(7,3334)] (.ln 3368 Zam.row c.Zae (.us [(10,3368),(14,3336)] (.ret true)))) (.us [(3,3332),(7,3334)] (.ln 3372 Zam.row c.Zae (.us [(10,3372),(14,3336)] (.ln 3370 Zam.row c.Zae (.use 17 3370 (.ret (decide ((c.Zae.length:Int)≤j)))))))))))) fun v1=>.ite 3338 v1 (.sel 3338 (.ret false)) (.sel 3338 (.forR (σ:=Unit) (ρ:=Unit) 3340 7 (c.Zai.length:Int) () (.e [1,2,3] (fun _=>[]) [0] 23) (fun i1 s1=>.reg 0 (.ln 3376 Zaq.row c.Zai (.use 3 3376 (.sel 3340 (.reg 0 (.ix 3374 Zaq.row c.Zai (i1:Int) fun e1=>.use 3 3374 (.ite 3342 (e1.kind == 3) (.sel 3342 (.ret (.inr ()))) (.sel 3342 (.ret (.inl ())))))))))) fun os1=>.case os1 (fun s1=>.reg 0 (.ln 3454 Zaq.row c.Zai (.use 3 3454 (.sel 3340 (.reg 0 (.ix 3378 Zam.row c.Zae i fun e2=>.use 3 3378 (.reg 0 (.ix 3380 Zam.row c.Zae j fun e3=>.use 3 3380 (.cut (β:=Bool) 1 (.e [] (fun v2=>[(6,vB v2)]) [0,33,40] 93) (.reg 0 (.ite 3344 (e2.kind == 1) (.ite 3346 (e3.kind == 2) (.ite 3348 e2.final (.ite 3350 e3.final (.ite 3352 e2.ZaA (.us [(4,3344),(9,3346),(13,3348),(17,3350),(22,3353)] (.f1 3388 (.g false) (rfl:false=false) (.use 27 3388 (.f1 3386 (.g false) (rfl:false=false) (.use 34 3386 (.f1 3384 (.g false) (rfl:false=false) (.use 39 3384 (.f1 3382 (.g false) (rfl:false=false) (.use 44 3382 (.ret false)))))))))) (.ite 3354 e3.ZaA (.us [(4,3344),(9,3346),(13,3348),(17,3350),(22,3353),(27,3355)] (.f1 3394 (.g false) (rfl:false=false) (.use 34 3394 (.f1 3392 (.g false) (rfl:false=false) (.use 39 3392 (.f1 3390 (.g false) (rfl:false=false) (.use 44 3390 (.ret false)))))))) (.ite 3356 (e2.act == e3.act) (.ite 3358 (e2.pause == (-1)) (.ite 3360 (e3.pause == (-1)) (.us [(4,3344),(9,3346),(13,3348),(17,3350),(22,3353),(27,3355),(34,3356),(39,3358),(44,3360)] (.ret (e2.ZaD == e3.ZaD))) (.us [(4,3344),(9,3346),(13,3348),(17,3350),(22,3353),(27,3355),(34,3356),(39,3358),(44,3360)] (.ret false))) (.us [(4,3344),(9,3346),(13,3348),(17,3350),(22,3353),(27,3355),(34,3356),(39,3358)] (.f1 3396 (.g false) (rfl:false=false) (.use 44 3396 (.ret false))))) (.us [(4,3344),(9,3346),(13,3348),(17,3350),(22,3353),(27,3355),(34,3356)] (.f1 3400 (.g false) (rfl:false=false) (.use 39 3400 (.f1 3398 (.g false) (rfl:false=false) (.use 44 3398 (.ret false))))))))) (.us [(4,3344),(9,3346),(13,3348),(17,3350)] (.f1 3410 (.g false) (rfl:false=false) (.use 22 3410 (.f1 3408 (.g false) (rfl:false=false) (.use 27 3408 (.f1 3406 (.g false) (rfl:false=false) (.use 34 3406 (.f1 3404 (.g false) (rfl:false=false) (.use 39 3404 (.f1 3402 (.g false) (rfl:false=false) (.use 44 3402 (.ret false))))))))))))) (.us [(4,3344),(9,3346),(13,3348)] (.f1 3422 (.g false) (rfl:false=false) (.use 17 3422 (.f1 3420 (.g false) (rfl:false=false) (.use 22 3420 (.f1 3418 (.g false) (rfl:false=false) (.use 27 3418 (.f1 3416 (.g false) (rfl:false=false) (.use 34 3416 (.f1 3414 (.g false) (rfl:false=false) (.use 39 3414 (.f1 3412 (.g false) (rfl:false=false) (.use 44 3412 (.ret false))))))))))))))) (.us [(4,3344),(9,3346)] (.f1 3436 (.g false) (rfl:false=false) (.use 13 3436 (.f1 3434 (.g false) (rfl:false=false) (.use 17 3434 (.f1 3432 (.g false) (rfl:false=false) (.use 22 3432 (.f1 3430 (.g false) (rfl:false=false) (.use 27 3430 (.f1 3428 (.g false) (rfl:false=false) (.use 34 3428 (.f1 3426 (.g false) (rfl:false=false) (.use 39 3426 (.f1 3424 (.g false) (rfl:false=false) (.use 44 3424 (.ret false))))))))))))))))) (.use 4 3344 (.f1 3452 (.g false) (rfl:false=false) (.use 9 3452 (.f1 3450 (.g false) (rfl:false=false) (.use 13 3450 (.f1 3448 (.g false) (rfl:false=false) (.use 17 3448 (.f1 3446 (.g false) (rfl:false=false) (.use 22 3446 (.f1 3444 (.g false) (rfl:false=false) (.use 27 3444 (.f1 3442 (.g false) (rfl:false=false) (.use 34 3442 (.f1 3440 (.g false) (rfl:false=false) (.use 39 3440 (.f1 3438 (.g false) (rfl:false=false) (.use 44 3438 (.ret false)))))))))))))))))))) fun v2=>.ret v2))))))))) fun y1=>.ret false))
theorem zf3 (c:Zab) (i:Int) (j:Int) (res:Bool) (hd:Qm c i j=some res):APure C0 321 [.agg (Zab.row c),.int .i64 i,.int .i64 j] (.bool res):=
  Zad.pure (iv:=fun res=>.bool res) (zf2 c i j) (by kernel_rfl) (Zad.run_of hd (by kernel_rfl))
noncomputable def WS (p1:zw):Option Bool:=
  (Option.bind (bif (p1.Zan == 1) then some true else some (p1.Zan == 2)) fun v1=>some v1)
noncomputable def zjl (p1:zw):Zad Bool:=
  .cut (β:=Bool) 2 (.e [] (fun v1=>[(2,vB v1)]) [0] 11) (.reg 0 (.ite 3460 (p1.Zan == 1) (.use 4 3460 (.ret true)) (.use 4 3460 (.ret (p1.Zan == 2))))) fun v1=>.ret v1
theorem zjm (p1:zw) (res:Bool) (hd:WS p1=some res):DOk C0 267 [.agg (zz (zw.row p1))] [] 0 (vB res) [] 0:=
  Zad.det (R:=fun res=>vB res) (H:=fun res=>[]) (zjl p1) .nil (fun _=>.nil) (by kernel_rfl) (fun _=>by kernel_rfl) (by kernel_rfl) (Zad.run_of hd (by kernel_rfl))
noncomputable def xF (c:Zab) (s:Zac) (i:Int) (j:Int):Option Bool:=
  (Option.bind (Qm c i j) fun r1=>(bif r1 then (Option.bind (ze s.Zal i) fun e1=>(Option.bind (ze s.Zal j) fun e2=>(Option.bind (bif (e1.Zan == 1) then (Option.bind (ze c.Zae i) fun e3=>some (IntKind.i64.wrap (e1.left+e3.Zay))) else some e1.left) fun (v1:Int)=>(Option.bind (Option.bind (WS e1) fun r2=>(bif r2 then (bif (e2.Zan == 1) then (bif (e1.Zau == e2.Zau) then some (decide (v1≤e2.left)) else some false) else some false) else some false)) fun v2=>some v2)))) else some false))
noncomputable def zet (c:Zab) (s:Zac) (i:Int) (j:Int):Zad Bool:=
  .reg 1 (.call 3468 (zf3 c i j) fun r1=>.use 3 3468 (.ite 3456 r1 (.sel 3457 (.reg 0 (.ix 3470 zw.row s.Zal i fun e1=>.use 3 3470 (.reg 0 (.ix 3472 zw.row s.Zal j fun e2=>.use 3 3472 (.cut (β:=Int) 2 (.e [9,10] (fun v1=>[(11,vI v1)]) [13,20] 28) (.ite 3458 (e1.Zan == 1) (.sel 3458 (.reg 0 (.ix 3474 Zam.row c.Zae i fun e3=>.use 4 3474 (.ret (IntKind.i64.wrap (e1.left+e3.Zay)))))) (.sel 3458 (.ret e1.left))) fun v1=>.cut (β:=Bool) 1 (.e [] (fun v2=>[(8,vB v2)]) [13,20] 49) (.reg 0 (.b1 3476 (WS e1) (fun r2=>.c [] 0 (vB r2) [] 0) (fun r2 hr2=>(zi (zjm e1 r2 hr2) [] 29 .nil rhN rhN)) fun r2=>.ite 3462 r2 (.ite 3464 (e2.Zan == 1) (.ite 3466 (e1.Zau == e2.Zau) (.us [(1,3476),(3,3462),(8,3464),(15,3466)] (.ret (decide (v1≤e2.left)))) (.us [(1,3476),(3,3462),(8,3464),(15,3466)] (.ret false))) (.us [(1,3476),(3,3462),(8,3464)] (.f1 3478 (.g false) (rfl:false=false) (.use 15 3478 (.ret false))))) (.us [(1,3476),(3,3462)] (.f1 3482 (.g false) (rfl:false=false) (.use 8 3482 (.f1 3480 (.g false) (rfl:false=false) (.use 15 3480 (.ret false)))))))) fun v2=>.ret v2)))))) (.sel 3457 (.ret false))))
theorem Yy (c:Zab) (s:Zac) (i:Int) (j:Int) (res:Bool) (hd:xF c s i j=some res):APure C0 318 [.agg (Zab.row c),.agg (Zac.row s),.int .i64 i,.int .i64 j] (.bool res):=
  Zad.pure (iv:=fun res=>.bool res) (zet c s i j) (by kernel_rfl) (Zad.run_of hd (by kernel_rfl))
noncomputable def yu (l:List Zaj) (i:Int) (j:Int):Option Bool:=
  (Option.bind (forR (σ:=Unit) (ρ:=Unit) (l.length:Int) (fun i1 s1=>(Option.bind (Option.bind (ze l (i1:Int)) fun e1=>(bif (e1.kind == 4) then (bif (e1.clause == i) then some (e1.other == j) else some false) else some false)) fun v1=>(bif v1 then some (.inr ()) else some (.inl ())))) ()) (Sum.elim (fun (s1:Unit)=>some false) (fun (y1:Unit)=>some true)))
noncomputable def zeu (l:List Zaj) (i:Int) (j:Int):Zad Bool:=
  .forR (σ:=Unit) (ρ:=Unit) 3492 7 (l.length:Int) () (.e [0,1,2] (fun _=>[]) [] 2) (fun i1 s1=>.reg 0 (.ln 3504 Zaj.row l (.use 2 3504 (.sel 3492 (.cut (β:=Bool) 3 (.e [0,1,2,7] (fun v1=>[(37,vB v1)]) [] 30) (.reg 0 (.ix 3500 Zaj.row l (i1:Int) fun e1=>.ite 3494 (e1.kind == 4) (.ite 3496 (e1.clause == i) (.us [(2,3500),(7,3494),(9,3500),(16,3496),(18,3500)] (.ret (e1.other == j))) (.us [(2,3500),(7,3494),(9,3500),(16,3496)] (.ret false))) (.us [(2,3500),(7,3494)] (.f1 3502 (.g false) (rfl:false=false) (.use 16 3502 (.ret false)))))) fun v1=>.ite 3498 v1 (.sel 3498 (.ret (.inr ()))) (.sel 3498 (.ret (.inl ())))))))) fun os1=>.case os1 (fun s1=>.reg 0 (.ln 3506 Zaj.row l (.use 2 3506 (.sel 3492 (.ret false))))) fun y1=>.ret true
theorem zev (l:List Zaj) (i:Int) (j:Int) (res:Bool) (hd:yu l i j=some res):APure C0 314 [.slice (List.map Zaj.row l),.int .i64 i,.int .i64 j] (.bool res):=
  Zad.pure (iv:=fun res=>.bool res) (zeu l i j) (by kernel_rfl) (Zad.run_of hd (by kernel_rfl))
noncomputable def vz (c:Zab) (Zaz:List Int):Option Bool:=
  (Option.bind (kq) fun r1=>(Option.bind (Option.bind (WR c) fun r2=>(bif r2 then some (decide (40 < (Zaz.length:Int))) else some true)) fun v1=>(bif v1 then some r1 else (Option.bind (jP c) fun r3=>(Option.bind (qx c) fun r4=>(Option.bind (Option.bind (iter (σ:=Int×Int×Int×(List Int)×(List Bool)×(List zw)) (ρ:=Int×Int×(List Int)×(List Bool)×(List zw)) (fun s1=>(Option.bind (bif decide (s1.2.1 < (Zaz.length:Int)) then some (s1.1 == 0) else some false) fun v2=>(bif v2 then (Option.bind (ze Zaz s1.2.1) fun e1=>(Option.bind (d_Step c ({day:=s1.2.2.1,Zag:=s1.2.2.2.1,used:=s1.2.2.2.2.1,Zal:=s1.2.2.2.2.2}:Zac) e1) fun r5=>some (.inl (r5.2,(IntKind.i64.wrap (s1.2.1+1)),r5.1.day,r5.1.Zag,r5.1.used,r5.1.Zal)))) else some (.inr (s1.1,s1.2.2.1,s1.2.2.2.1,s1.2.2.2.2.1,s1.2.2.2.2.2))))) (r4.2,0,r4.1.day,r4.1.Zag,r4.1.used,r4.1.Zal)) (fun (y1:Int×Int×(List Int)×(List Bool)×(List zw))=>some (y1.1,y1.2.1,y1.2.2.1,y1.2.2.2.1,y1.2.2.2.2))) fun (v3:Int×Int×(List Int)×(List Bool)×(List zw))=>(Option.bind (bif (r3.2 == 0) then some (!(v3.1 == 0)) else some true) fun v4=>(bif v4 then some r1 else (bif ((v3.2.2.2.2.length:Int) == (c.Zae.length:Int)) then (Option.bind (forR (σ:=Unit) (ρ:=Unit) (r3.1.length:Int) (fun i2 s2=>(Option.bind (Option.bind (ze r3.1 (i2:Int)) fun e2=>(bif (e2.kind == 4) then (bif decide ((Zaz.length:Int) < (e2.Zaz.length:Int)) then (Option.bind (xF c ({day:=v3.2.1,Zag:=v3.2.2.1,used:=v3.2.2.2.1,Zal:=v3.2.2.2.2}:Zac) e2.clause e2.other) fun r6=>some r6) else some false) else some false)) fun v5=>(bif v5 then some (.inr ()) else some (.inl ())))) ()) (Sum.elim (fun (s2:Unit)=>(Option.bind (forR (σ:=Unit) (ρ:=Unit) (c.Zae.length:Int) (fun i3 s3=>(Option.bind (forR (σ:=Unit) (ρ:=Unit) (c.Zae.length:Int) (fun i4 s4=>(Option.bind (Option.bind (xF c ({day:=v3.2.1,Zag:=v3.2.2.1,used:=v3.2.2.2.1,Zal:=v3.2.2.2.2}:Zac) (i3:Int) (i4:Int)) fun r7=>(bif r7 then (Option.bind (yu r3.1 (i3:Int) (i4:Int)) fun r8=>some (!r8)) else some false)) fun v6=>(bif v6 then some (.inr ()) else some (.inl ())))) ()) (Sum.elim (fun (s4:Unit)=>some (.inl ())) (fun (y3:Unit)=>some (.inr ()))))) ()) (Sum.elim (fun (s3:Unit)=>some r1) (fun (y4:Unit)=>some false)))) (fun (y2:Unit)=>some false))) else some false)))))))))
noncomputable def VB (c:Zab) (Zaz:List Int):Zad Bool:=
  .reg 1 (.call 3510 zf1 fun r1=>.use 0 3510 (.cut (β:=Bool) 2 (.e [1,2,5] (fun v1=>[(22,vB v1)]) [0] 12) (.reg 0 (.call 3512 (zjk c) fun r2=>.ite 3304 r2 (.us [(1,3512),(4,3305)] (.ln 3514 zc Zaz (.use 5 3514 (.ret (decide (40 < (Zaz.length:Int))))))) (.us [(1,3512),(4,3305)] (.ret true)))) fun v1=>.ite 3306 v1 (.sel 3306 (.ret r1)) (.sel 3306 (.reg 0 (.call 3516 (WP c) fun r3=>.use 1 3516 (.reg 0 (.call 3518 (JR c) fun r4=>.use 1 3518 (.cut (β:=Int×Int×(List Int)×(List Bool)×(List zw)) 1 (.k [1,2,5,6,7,8] (fun v3=>[(9,vI v3.1)]) [0] (fun v3=>[(24,.rows 4 [[vI v3.2.1,.imm (.slice (List.map zc v3.2.2.1)),.imm (.slice (List.map zh v3.2.2.2.1)),.imm (.slice (List.map zw.row v3.2.2.2.2))]])]) 28 fun _=>(.exp rfl rfl .nil)) (.iter (σ:=Int×Int×Int×(List Int)×(List Bool)×(List zw)) (ρ:=Int×Int×(List Int)×(List Bool)×(List zw)) (r4.2,0,r4.1.day,r4.1.Zag,r4.1.used,r4.1.Zal) (.k [1,2,5,6,7,8] (fun s1=>[(9,vI s1.1),(10,vI s1.2.1)]) [0] (fun s1=>[(24,.rows 4 [[vI s1.2.2.1,.imm (.slice (List.map zc s1.2.2.2.1)),.imm (.slice (List.map zh s1.2.2.2.2.1)),.imm (.slice (List.map zw.row s1.2.2.2.2.2))]])]) 28 fun _=>(.exp rfl rfl .nil)) (fun s1=>.cut (β:=Bool) 2 (.e [1,2,5,6,7,8,9,10] (fun v2=>[(41,vB v2)]) [0,24] 36) (.reg 0 (.ite 3316 (decide (s1.2.1 < (Zaz.length:Int))) (.ln 3520 zc Zaz (.us [(2,3520),(5,3316)] (.ret (s1.1 == 0)))) (.ln 3522 zc Zaz (.us [(2,3522),(5,3316)] (.ret false))))) fun v2=>.ite 3318 v2 (.sel 3318 (.reg 0 (.ix 3524 zc Zaz s1.2.1 fun e1=>.call 3526 (kn c ({day:=s1.2.2.1,Zag:=s1.2.2.2.1,used:=s1.2.2.2.2.1,Zal:=s1.2.2.2.2.2}:Zac) e1) fun r5=>.us [(4,3524),(6,3526)] (.ret (.inl (r5.2,(IntKind.i64.wrap (s1.2.1+1)),r5.1.day,r5.1.Zag,r5.1.used,r5.1.Zal)))))) (.sel 3318 (.ret (.inr (s1.1,s1.2.2.1,s1.2.2.2.1,s1.2.2.2.2.1,s1.2.2.2.2.2))))) fun y1=>.ret (y1.1,y1.2.1,y1.2.2.1,y1.2.2.2.1,y1.2.2.2.2)) fun v3=>.cut (β:=Bool) 2 (.e [1,2,5,6,8] (fun v4=>[(59,vB v4)]) [0,24] 34) (.reg 0 (.ite 3320 (r3.2 == 0) (.use 3 3321 (.ret (!(v3.1 == 0)))) (.use 3 3321 (.ret true)))) fun v4=>.ite 3322 v4 (.sel 3322 (.ret r1)) (.sel 3322 (.reg 0 (.ln 3560 zw.row v3.2.2.2.2 (.use 2 3560 (.ln 3558 Zam.row c.Zae (.use 5 3558 (.ite 3324 ((v3.2.2.2.2.length:Int) == (c.Zae.length:Int)) (.sel 3325 (.forR (σ:=Unit) (ρ:=Unit) 3326 11 (r3.1.length:Int) () (.e [1,2,5,6,8] (fun _=>[]) [0,24] 42) (fun i2 s2=>.reg 0 (.ln 3542 Zaj.row r3.1 (.use 2 3542 (.sel 3326 (.cut (β:=Bool) 3 (.e [1,2,5,6,8,11] (fun v5=>[(105,vB v5)]) [0,24] 78) (.reg 0 (.ix 3528 Zaj.row r3.1 (i2:Int) fun e2=>.ite 3328 (e2.kind == 4) (.ite 3330 (decide ((Zaz.length:Int) < (e2.Zaz.length:Int))) (.call 3530 (Yy c ({day:=v3.2.1,Zag:=v3.2.2.1,used:=v3.2.2.2.1,Zal:=v3.2.2.2.2}:Zac) e2.clause e2.other) fun r6=>.us [(2,3528),(7,3328)] (.ln 3534 zc Zaz (.us [(8,3534),(11,3528)] (.ln 3532 zc e2.Zaz (.us [(14,3532),(18,3330),(22,3528),(27,3528),(30,3530)] (.ret r6)))))) (.us [(2,3528),(7,3328)] (.ln 3538 zc Zaz (.us [(8,3538),(11,3528)] (.ln 3536 zc e2.Zaz (.us [(14,3536),(18,3330)] (.ret false))))))) (.us [(2,3528),(7,3328)] (.f1 3540 (.g false) (rfl:false=false) (.use 18 3540 (.ret false)))))) fun v5=>.ite 3484 v5 (.sel 3484 (.ret (.inr ()))) (.sel 3484 (.ret (.inl ())))))))) fun os2=>.case os2 (fun s2=>.reg 0 (.ln 3556 Zaj.row r3.1 (.use 2 3556 (.sel 3326 (.forR (σ:=Unit) (ρ:=Unit) 3486 12 (c.Zae.length:Int) () (.e [2,5,6,8] (fun _=>[]) [0,24] 47) (fun i3 s3=>.reg 0 (.ln 3552 Zam.row c.Zae (.use 3 3552 (.sel 3486 (.forR (σ:=Unit) (ρ:=Unit) 3488 13 (c.Zae.length:Int) () (.e [2,5,6,8,12] (fun _=>[]) [0,24] 53) (fun i4 s4=>.reg 0 (.ln 3548 Zam.row c.Zae (.use 3 3548 (.sel 3488 (.cut (β:=Bool) 3 (.e [2,5,6,8,12,13] (fun v6=>[(131,vB v6)]) [0,24] 70) (.reg 0 (.call 3544 (Yy c ({day:=v3.2.1,Zag:=v3.2.2.1,used:=v3.2.2.2.1,Zal:=v3.2.2.2.2}:Zac) (i3:Int) (i4:Int)) fun r7=>.ite 3490 r7 (.call 3546 (zev r3.1 (i3:Int) (i4:Int)) fun r8=>.us [(4,3544),(6,3490),(9,3546)] (.ret (!r8))) (.us [(4,3544),(6,3490)] (.ret false)))) fun v6=>.ite 3508 v6 (.sel 3508 (.ret (.inr ()))) (.sel 3508 (.ret (.inl ())))))))) fun os4=>.case os4 (fun s4=>.reg 0 (.ln 3550 Zam.row c.Zae (.use 3 3550 (.sel 3488 (.ret (.inl ())))))) fun y3=>.ret (.inr ())))))) fun os3=>.case os3 (fun s3=>.reg 0 (.ln 3554 Zam.row c.Zae (.use 3 3554 (.sel 3486 (.ret r1))))) fun y4=>.ret false))))) fun y2=>.ret false)) (.sel 3325 (.ret false)))))))))))))))))
theorem VC (c:Zab) (Zaz:List Int) (res:Bool) (hd:vz c Zaz=some res):APure C0 312 [.agg (Zab.row c),.slice (List.map zc Zaz)] (.bool res):=
  Zad.pure (iv:=fun res=>.bool res) (VB c Zaz) (by kernel_rfl) (Zad.run_of hd (by kernel_rfl))
abbrev F29:AV:=.func 29 [] [.ptr 0 0 0,.ptr 1 0 0]
structure GCtx where
  heap:List (Nat×Zaf)
  N:Nat
  P:Nat
  qs:List Nat
structure GOk (i:Nat) (s:List (List Int)×List (Int×Int)×List Int) (c:GCtx):Prop where
  nest:NestOk c.heap c.N c.P c.qs s.1
  min:9≤c.N
  lt:∀ j o,za c.heap j=some o→j < c.N
  p0:c.P≠0
  p1:c.P≠1
  h0:za c.heap 0=some (.rows 1 (zb zc s.2.2))
  h1:za c.heap 1=some (.rows 1 [[F29]])
  h4:za c.heap 4=some (.map (zu IV.i64 IV.i64 s.2.1))
  len:s.1.length≤i
  lens:∀ (k:Nat) (L:List Int),s.1[k]?=some L→L.length≤i
theorem NestOk.push {heap heap':List (Nat×Zaf)} {N N' P P' q:Nat} {qs:List Nat} {Ls:List (List Int)} (h:NestOk heap N P qs Ls) (hlt:∀ j o,za heap j=some o→j < q) (hP:za heap' P'=some (.rows 1 (Vq (qs++[q]) (Ls++[[]])))) (hq:za heap' q=some (.tip 1 0))
    (hE:∀ (k q':Nat),qs[k]?=some q'→(za heap q').isSome=true→za heap' q'=za heap q'):NestOk heap' N' P' (qs++[q]) (Ls++[[]]):=by
  have hold:∀ (k q':Nat),qs[k]?=some q'→q' < q:=fun k q' hk=>by
    have hl:k < Ls.length:=by rw [←h.len];exact (List.getElem?_eq_some_iff.1 hk).1
    exact hlt q' _ (h.tip k q' Ls[k] hk (by simp))
  refine ⟨hP,fun k q' L h1 h2 => ?_,by simp [h.len],fun i j q' h1 h2 => ?_⟩
  · rcases Nat.lt_or_ge k qs.length with hk | hk
    · rw [List.getElem?_append_left hk] at h1
      rw [List.getElem?_append_left (by rw [←h.len];exact hk)] at h2
      have:=h.tip k q' L h1 h2
      rw [hE k q' h1 (by rw [this];rfl)];exact this
    · rw [List.getElem?_append_right hk] at h1
      rw [List.getElem?_append_right (by rw [←h.len];exact hk)] at h2
      rw [←h.len] at h2
      cases hd:k - qs.length with
      | zero=>rw [hd] at h1 h2;simp at h1 h2;subst h1 h2;exact hq
      | succ n=>rw [hd] at h1;simp at h1
  · have key:∀ k,(qs++[q])[k]?=some q'→(k < qs.length∧qs[k]?=some q')∨(k=qs.length∧q'=q):=fun k hk=>by
      rcases Nat.lt_or_ge k qs.length with hlt | hge
      · rw [List.getElem?_append_left hlt] at hk;exact .inl ⟨hlt,hk⟩
      · rw [List.getElem?_append_right hge] at hk
        cases hd:k - qs.length with
        | zero=>rw [hd] at hk;simp at hk;exact .inr ⟨by omega,hk.symm⟩
        | succ n=>rw [hd] at hk;simp at hk
    rcases key i h1 with ⟨a1,a2⟩ | ⟨a1,a2⟩<;>rcases key j h2 with ⟨b1,b2⟩ | ⟨b1,b2⟩
    · exact h.nd i j q' a2 b2
    · have:=hold i q' a2;omega
    · have:=hold j q' b2;omega
    · omega
theorem NestOk.frame {heap:List (Nat×Zaf)} {N N' P:Nat} {qs:List Nat} {Ls:List (List Int)} (h:NestOk heap N P qs Ls) (x:Nat) (hx:x≠P) (hx2:∀ sz len,za heap x≠some (.tip sz len)) (o:Zaf):NestOk (zJ heap x o) N' P qs Ls:=
  ⟨by rw [z6,if_neg hx];exact h.obj,fun k q L h1 h2=>by
    have:=h.tip k q L h1 h2
    rw [z6,if_neg (fun e=>hx2 _ _ (by rw [e];exact this))];exact this,h.len,h.nd⟩
end Go.Proofs.YtlpmnmbebkdocaaGreatDoor
namespace Go.Proofs.YtlpmnmbebkdocaaGreatDoor
set_option linter.unusedSimpArgs false
set_option linter.unusedVariables false
set_option maxRecDepth 100000
theorem zew (a b:Int):∃ r,iter (σ:=Int×Int) (ρ:=Int) (fun s2=>(bif (s2.2 == 0) then some (.inr s2.1) else (Option.bind (ZZ .u64 s2.1 s2.2) fun e2=>some (.inl (s2.2,e2))))) (a,b)=some r:=by
  have:=Yu (f:=fun s2:Int×Int=>(bif (s2.2 == 0) then some (.inr s2.1) else (Option.bind (ZZ .u64 s2.1 s2.2) fun e2=>some (.inl (s2.2,e2))))) (fun _=>True) (fun _:Int=>True) (fun s=>s.2.natAbs) (fun s _=>by
    by_cases h:s.2=0
    · exact ⟨.inr s.1,by simp [h],trivial⟩
    · refine ⟨.inl (s.2,s.1.tmod s.2),by simp [beq_eq_false_iff_ne.2 h,h,ZZ],trivial,?_⟩
      show (s.1.tmod s.2).natAbs < s.2.natAbs
      rw [Int.natAbs_tmod]
      exact Nat.mod_lt _ (by omega)) (a,b) trivial
  obtain ⟨r,h,_⟩:=this
  exact ⟨r,h⟩
theorem YV (l:List Int) (hl:l.length < 1000):∃ r,yn l=some r:=by
  unfold yn
  obtain ⟨o,h1,h2⟩:=wQ (n:=l.length) (s0:=(0:Int)) (f:=(fun i1 s1=>(Option.bind (Option.bind (ze l (i1:Int)) fun e1=>(Option.bind (iter (σ:=Int×Int) (ρ:=Int) (fun s2=>(bif (s2.2 == 0) then some (.inr s2.1) else (Option.bind (ZZ .u64 s2.1 s2.2) fun e2=>some (.inl (s2.2,e2))))) (s1,e1)) (fun (y1:Int)=>some y1))) fun (v1:Int)=>some (.inl v1)))) (fun _ _=>True) (fun _:Unit=>False) (by omega) trivial (fun i s hi _=>by
    obtain ⟨r,hr⟩:=zew s l[i]
    exact ⟨.inl r,by simp only [qr,List.getElem?_eq_getElem hi,Option.bind_some,hr],trivial⟩)
  rw [h1]
  cases o with
  | inl s=>exact ⟨s,rfl⟩
  | inr r=>exact h2.elim
theorem kW (n:Int):∃ r,xW n=some r:=by
  unfold xW;simp only [zn];exact ⟨_,rfl⟩
noncomputable def rvB (r:Ratio):Bool:=(q8 r).getD false
theorem Jg (r:Ratio):q8 r=some (rvB r):=by
  have:∃ b,q8 r=some b:=by
    unfold q8
    obtain ⟨a,ha⟩:=kW r.num
    obtain ⟨b,hb⟩:=kW r.den
    obtain ⟨g,hg⟩:=YV [a,b] (by simp)
    simp only [ha,hb,hg,zn,ZaI]
    exact ⟨_,rfl⟩
  obtain ⟨b,hb⟩:=this
  unfold rvB;rw [hb];rfl
def zjn (x:Option (Int×Bool)):Bool:=(x.getD (0,false)).2
theorem zhG {x:Option (Int×Bool)} {r:Int×Bool} (h:x=some r):x=some (r.1,zjn x):=by subst h;rfl
noncomputable def quB (l:List ZaE):Bool:=zjn (je l)
theorem WT (t:List ZaE) (i:Nat) (hi:i < t.length) (ht:t.length < 1000):∃ b,xX t i=some b:=by
  unfold xX
  have hs:Xs t 0 (i:Int)=some (t.take i):=by
    unfold Xs;rw [if_pos ⟨by omega,by omega,by omega⟩];simp
  have hf:forR (σ:=Unit) (ρ:=Unit) ((t.take i).length:Int) (fun i1 s1=>(Option.bind (ze (t.take i) (i1:Int)) fun e3=>(bif (e3.name.toList == t[i].name.toList) then some (.inr ()) else some (.inl ())))) ()=some (match (List.range (t.take i).length).find? (fun j=>!(match (t.take i)[j]? with | some e=>!(e.name.toList == t[i].name.toList) | none=>true)) with | none=>.inl () | some j=>.inr ()):=by
    refine qM _ (fun _=>()) (by simp;omega) (fun j hj => ?_)
    simp only [qr,List.getElem?_eq_getElem hj,ZaI]
    cases ((t.take i)[j].name.toList == t[i].name.toList)<;>rfl
  rw [zl (List.getElem?_eq_getElem hi)]
  simp only [ZaI]
  rw [hs]
  simp only [ZaI]
  rw [hf]
  simp only [Jg,zn,ZaI,Ja]
  split
  all_goals simp only [Sum.elim_inl,Sum.elim_inr,zn]
  · by_cases hb:0≤t[i].base∧t[i].base < t.length
    · obtain ⟨h1,h2⟩:=jc hb.1 hb.2
      simp only [h2,ZaI,zn]
      exact ⟨_,rfl⟩
    · by_cases h1:0≤t[i].base
      · have:¬ t[i].base < t.length:=fun h=>hb ⟨h1,h⟩
        simp only [h1,this,decide_true,decide_false,cond_true,ZaH,ZaI,zn]
        exact ⟨_,rfl⟩
      · simp only [h1,decide_false,ZaH,ZaI,zn]
        exact ⟨_,rfl⟩
  · exact ⟨_,rfl⟩
theorem WU (l:List ZaE) (hl:l.length < 1000):∃ k,je l=some (k,quB l):=by
  have:∃ r,je l=some r:=by
    unfold je
    obtain ⟨o,h1,h2⟩:=wQ (n:=l.length) (s0:=()) (f:=(fun i1 s1=>(Option.bind (xX l (i1:Int)) fun r1=>(bif r1 then some (.inl ()) else some (.inr (i1:Int)))))) (fun _ _=>True) (fun _:Int=>True) (by omega) trivial (fun i s hi _=>by
      obtain ⟨b,hb⟩:=WT l i hi hl
      cases b with
      | true=>exact ⟨.inl (),by simp [hb],trivial⟩
      | false=>exact ⟨.inr i,by simp [hb],trivial⟩)
    rw [h1]
    cases o with
    | inl s=>exact ⟨_,rfl⟩
    | inr r=>exact ⟨_,rfl⟩
  obtain ⟨r,hr⟩:=this
  exact ⟨r.1,zhG hr⟩
def xR (nh:Nat) (r:Int):Bool:=decide (0≤r)&&decide (r < nh)
theorem Jh (c:Zab) (r:Int):q9 c r=some (xR c.Zag.length r):=by
  simp only [q9,zn,ZaI,xR,Bool.cond_false_right]
noncomputable def zaC (r:Ratio):Bool:=decide (0 < r.num)&&rvB r
theorem WV (r:Ratio):j7 r=some (zaC r):=by
  simp only [j7,Jg,zn,ZaI,zaC,Bool.cond_false_right]
def JT (r:Ratio):Bool:=r.num == 0&&(r.den == 1&&true)
noncomputable def VD (nh nu:Nat) (Zao:Int) (a:Zaq):Bool:=
  bif xR nh a.Zap then
    (bif a.kind == 1 then (a.give == 0&&(a.to == -1||xR nh a.to))&&(bif a.unit == -1 then JT a.lot else (decide (0≤a.unit)&&(decide (a.unit < nu)&&zaC a.lot)))
    else (a.kind == 2||a.kind == 3)&&(xR nh a.give&&(decide (0≤a.to)&&(decide (a.to < Zao)&&(a.unit == -1&&JT a.lot)))))
  else a.kind == 1&&(a.Zap == -1&&(a.give == 0&&((a.to == -1||xR nh a.to)&&(a.unit == -1&&JT a.lot))))
theorem zcP (c:Zab) (a:Zaq):wR c a=some (VD c.Zag.length c.Zav.length c.Zao a):=by
  simp only [wR,Jh,WV,yo,ZaI,zn,VD,JT]
  cases xR c.Zag.length a.Zap<;>cases (a.kind == 1)<;>cases (a.give == 0)<;>cases (a.to == -1)<;>cases (xR c.Zag.length a.to)<;>cases (a.unit == -1) <;>
    simp only [cond_true,ZaH,Bool.not_true,Bool.not_false,ZaI,Bool.true_or,Bool.false_or,Bool.true_and,Bool.false_and,zn,Bool.cond_false_right,Bool.cond_self,Bool.and_false] <;>
    first | rfl | (cases (a.Zap == -1)<;>rfl) | (cases (a.kind == 2)<;>rfl)
def vW (Zao:Int) (hs:List Int):Bool:=hs.all fun h=>decide (0≤h)&&decide (h < Zao)
theorem zjo (c:Zab) (hp:c.Zao < 4611686018427387904) (hl:c.Zag.length < 4611686018427387904):Wx c=some (vW c.Zao c.Zag):=by
  unfold Wx
  have hin:∀ (i:Nat) (hi:i < c.Zag.length),(Option.bind (α:=Unit ⊕ Unit) (Option.bind (forR (σ:=Unit) (ρ:=Unit) c.Zao (fun i2 s2=>(Option.bind (ze c.Zag (i:Int)) fun e1=>(bif (e1 == (i2:Int)) then some (.inr ()) else some (.inl ())))) ()) (Sum.elim (fun (s2:Unit)=>some (.inr ())) (fun (y1:Unit)=>some (.inl ())))) (Sum.elim (fun (v1:Unit)=>some (.inl ())) (fun (y2:Unit)=>some (.inr ())))) =
      some (bif decide (0≤c.Zag[i])&&decide (c.Zag[i] < c.Zao) then (.inl ():Unit ⊕ Unit) else .inr ()):=fun i hi=>by
    obtain ⟨o,h1,h2⟩:=Ys (n:=c.Zao) (s0:=()) (f:=(fun i2 s2=>(Option.bind (ze c.Zag (i:Int)) fun e1=>(bif (e1 == (i2:Int)) then some (.inr ()) else some (.inl ()))))) (fun k _=>∀ j:Nat,j < k→c.Zag[i]≠(j:Int)) (fun _:Unit=>0≤c.Zag[i]∧c.Zag[i] < c.Zao) hp (fun j hj=>by omega) (fun k s hk hI=>by
      simp only [qr,List.getElem?_eq_getElem hi,ZaI]
      by_cases he:c.Zag[i]=(k:Int)
      · exact ⟨.inr (),by simp [he],by show 0≤c.Zag[i]∧c.Zag[i] < c.Zao;omega⟩
      · refine ⟨.inl (),by rw [beq_eq_false_iff_ne.2 he];rfl,fun j hj => ?_⟩
        rcases Nat.lt_or_ge j k with h | h
        · exact hI j h
        · obtain rfl:j=k:=by omega
          exact he)
    rw [h1]
    cases o with
    | inl s=>
      have:¬ (0≤c.Zag[i]∧c.Zag[i] < c.Zao):=fun h=>h2 c.Zag[i].toNat (by omega) (by omega)
      have hb:(decide (0≤c.Zag[i])&&decide (c.Zag[i] < c.Zao))=false:=by
        rw [Bool.eq_false_iff];simp only [ne_eq,Bool.and_eq_true,decide_eq_true_eq];exact this
      rw [hb];rfl
    | inr r=>
      have hb:(decide (0≤c.Zag[i])&&decide (c.Zag[i] < c.Zao))=true:=by
        simp only [Bool.and_eq_true,decide_eq_true_eq];exact h2
      rw [hb];rfl
  rw [qM (fun i=>match c.Zag[i]? with | some h=>decide (0≤h)&&decide (h < c.Zao) | none=>true) (fun _=>()) hl (fun i hi=>by
    rw [hin i hi];simp only [List.getElem?_eq_getElem hi])]
  cases hf:(List.range c.Zag.length).find? (fun j=>!(match c.Zag[j]? with | some h=>decide (0≤h)&&decide (h < c.Zao) | none=>true)) with
  | none=>
    simp only [ZaI,Sum.elim_inl]
    have:vW c.Zao c.Zag=true:=List.all_eq_true.2 fun h hh=>by
      obtain ⟨i,hi,rfl⟩:=List.getElem_of_mem hh
      have:=wv hf i hi
      simpa only [List.getElem?_eq_getElem hi] using this
    rw [this]
  | some k=>
    simp only [ZaI,Sum.elim_inr]
    obtain ⟨h1,h2,_⟩:=ww hf
    have:vW c.Zao c.Zag=false:=by
      rw [Bool.eq_false_iff]
      intro h
      have:=List.all_eq_true.1 h c.Zag[k] (List.getElem_mem h1)
      simp only [List.getElem?_eq_getElem h1] at h2
      rw [h2] at this;cases this
    rw [this]
noncomputable def Ji (Zat:Int) (off:List Int):Bool:=((Option.bind (forR (σ:=Int) (ρ:=Unit) (off.length:Int) (fun i2 s2=>(Option.bind (ze off (i2:Int)) fun e2=>(Option.bind (bif decide (e2≤s2) then some true else some (decide (Zat≤e2))) fun v2=>(bif v2 then some (.inr ()) else some (.inl e2))))) (-1)) (Sum.elim (fun (s2:Int)=>some true) (fun (y2:Unit)=>some false)))).getD false
theorem zkY (Zat:Int) (off:List Int) (hl:off.length < 4611686018427387904):(Option.bind (forR (σ:=Int) (ρ:=Unit) (off.length:Int) (fun i2 s2=>(Option.bind (ze off (i2:Int)) fun e2=>(Option.bind (bif decide (e2≤s2) then some true else some (decide (Zat≤e2))) fun v2=>(bif v2 then some (.inr ()) else some (.inl e2))))) (-1)) (Sum.elim (fun (s2:Int)=>some true) (fun (y2:Unit)=>some false)))=some (Ji Zat off):=by
  obtain ⟨o,h1,h2⟩:=wQ (n:=off.length) (s0:=(-1:Int)) (f:=(fun i2 s2=>(Option.bind (ze off (i2:Int)) fun e2=>(Option.bind (bif decide (e2≤s2) then some true else some (decide (Zat≤e2))) fun v2=>(bif v2 then some (.inr ()) else some (.inl e2)))))) (fun _ _=>True) (fun _:Unit=>True) hl trivial (fun i s hi _=>by
    simp only [qr,List.getElem?_eq_getElem hi,ZaI,zn]
    cases (bif decide (off[i]≤s) then true else decide (Zat≤off[i])) with
    | true=>exact ⟨.inr (),rfl,trivial⟩
    | false=>exact ⟨.inl _,rfl,trivial⟩)
  unfold Ji
  rw [h1]
  cases o<;>rfl
noncomputable def jt (c:Zab):Bool:=
  !(decide (c.Zao < 1))&&(!(decide (c.Zat < 1))&&(!((c.Zag.length:Int) == 0)&&(vW c.Zao c.Zag&&(quB c.Zav&&(c.Zai.all (VD c.Zag.length c.Zav.length c.Zao)&&Ji c.Zat c.off)))))
theorem ku {α:Type} {l:List α} {f:Nat→Unit→Option (Unit ⊕ Unit)} (p:α→Bool) (hl:l.length < 4611686018427387904) (h:∀ (i:Nat) (hi:i < l.length),f i ()=some (bif p l[i] then .inl () else .inr ())) :
    forR (l.length:Int) f ()=some (bif l.all p then .inl () else .inr ()):=by
  rw [qM (fun i=>match l[i]? with | some x=>p x | none=>true) (fun _=>()) hl (fun i hi=>by rw [h i hi];simp only [List.getElem?_eq_getElem hi])]
  cases hf:(List.range l.length).find? (fun j=>!(match l[j]? with | some x=>p x | none=>true)) with
  | none=>
    have:l.all p=true:=List.all_eq_true.2 fun x hx=>by
      obtain ⟨i,hi,rfl⟩:=List.getElem_of_mem hx
      have:=wv hf i hi
      simpa only [List.getElem?_eq_getElem hi] using this
    rw [this];rfl
  | some k=>
    obtain ⟨h1,h2,_⟩:=ww hf
    have:l.all p=false:=by
      rw [Bool.eq_false_iff]
      intro h
      have:=List.all_eq_true.1 h l[k] (List.getElem_mem h1)
      simp only [List.getElem?_eq_getElem h1] at h2
      rw [h2] at this;cases this
    rw [this];rfl
theorem zf4 (c:Zab) (hp:c.Zao < 4611686018427387904) (hh:c.Zag.length < 4611686018427387904) (hu:c.Zav.length < 1000) (ha:c.Zai.length < 1000) (ho:c.off.length < 4611686018427387904):Qf c=some (jt c):=by
  unfold Qf
  obtain ⟨k,hk⟩:=WU c.Zav hu
  have hacts:=ku (l:=c.Zai) (f:=(fun i1 s1=>(Option.bind (ze c.Zai (i1:Int)) fun e1=>(Option.bind (wR c e1) fun r3=>(bif r3 then some (.inl ()) else some (.inr ())))))) (VD c.Zag.length c.Zav.length c.Zao) (by omega) (fun i hi=>by
    simp only [qr,List.getElem?_eq_getElem hi,ZaI,zcP,zn])
  rw [zjo c hp hh,hk]
  simp only [ZaI]
  rw [hacts]
  simp only [ZaI]
  rw [zkY c.Zat c.off ho]
  simp only [ZaI,zn,jt]
  cases decide (c.Zao < 1)<;>cases decide (c.Zat < 1)<;>cases ((c.Zag.length:Int) == 0)<;>cases vW c.Zao c.Zag<;>cases quB c.Zav<;>cases c.Zai.all (VD c.Zag.length c.Zav.length c.Zao) <;>
    simp only [cond_true,ZaH,Bool.not_true,Bool.not_false,ZaI,Bool.true_and,Bool.false_and,Sum.elim_inl,Sum.elim_inr]
def Zi (Zai:List Zaq) (a:Int):Bool:=match ze Zai a with
  | some e=>e.kind == 1&&e.Zap == -1
  | none=>false
theorem Yz (c:Zab) (a:Int):jW c a=some (Zi c.Zai a):=by
  unfold jW Zi
  by_cases h:0≤a∧a < c.Zai.length
  · obtain ⟨h1,h2⟩:=jc h.1 h.2
    simp only [h2,h.1,h.2,decide_true,cond_true,ZaI,zn,Bool.cond_false_right]
  · rw [zal h]
    by_cases h1:0≤a
    · have:¬ a < c.Zai.length:=fun h2=>h ⟨h1,h2⟩
      simp only [h1,this,decide_true,decide_false,cond_true,ZaH,ZaI]
    · simp only [h1,decide_false,ZaH,ZaI]
def WW (nh:Nat) (Zai:List Zaq) (k:Zam):Bool:=
  bif k.kind == 4 then k.Zap == -1&&(k.need == 1&&(k.Zay == 0 && !k.final))
  else (xR nh k.Zap && !Zi Zai k.act)&&(bif k.kind == 1 then decide (1≤k.need)&&(decide (k.need≤9)&&(decide (0≤k.Zay)&&decide (k.Zay≤400)))
    else bif k.kind == 2 then k.need == 1&&k.Zay == 0 else k.kind == 3&&(k.need == 1&&(k.Zay == 0 && !k.final)))
theorem zbj (c:Zab) (k:Zam):vU c k=some (WW c.Zag.length c.Zai k):=by
  simp only [vU,Jh,Yz,ZaI,zn,WW]
  cases (k.kind == 4)<;>cases xR c.Zag.length k.Zap<;>cases Zi c.Zai k.act<;>cases (k.kind == 1)<;>cases (k.kind == 2)<;>cases (k.kind == 3) <;>
    simp only [cond_true,ZaH,Bool.not_true,Bool.not_false,ZaI,Bool.true_and,Bool.false_and,Bool.and_false,Bool.cond_false_right,zn]
def WX (n:Nat) (i:Int) (s:CondT):Bool := !(decide (s.clause < 0))&&(!(decide ((n:Int)≤s.clause))&&(!(s.clause == i)&&(!(decide (s.is < 1)) && !(decide (4 < s.is)))))
noncomputable def zex (nh:Nat) (Zav:List ZaE) (k:Zam):Bool:=
  (k.kind == 1||k.kind == 2)&&((match ze Zav k.unit with | some u=>u.kind == 2 | none=>false)&&(zaC k.value&&xR nh k.to))
def Jj (Zai:List Zaq) (k:Zam):Bool:=(k.pause == -1&&k.ZaC == -1)||(!(k.pause == k.ZaC)&&(Zi Zai k.pause&&Zi Zai k.ZaC))
noncomputable def vA (nh:Nat) (Zav:List ZaE) (Zai:List Zaq) (n:Nat) (i:Int) (k:Zam):Bool:=
  (!(decide (k.act < 0))&&(!(decide ((Zai.length:Int)≤k.act))&&(!(decide (k.after < 1)) && !(decide (400 < k.after))))) &&
  ((WW nh Zai k && !(decide (8 < (k.start.length:Int)))) &&
  (k.start.all (WX n i) &&
  (Jj Zai k &&
  (bif k.unit == -1 then JT k.value&&k.to == -1 else zex nh Zav k))))
theorem YW (c:Zab) (i:Nat) (k:Zam) (hk:c.Zae[i]?=some k) (hs:k.start.length < 4611686018427387904):x8 c i=some (vA c.Zag.length c.Zav c.Zai c.Zae.length i k):=by
  unfold x8
  have hst:=ku (l:=k.start) (f:=(fun i1 s1=>(Option.bind (ze k.start (i1:Int)) fun e2=>(Option.bind (bif decide (e2.clause < 0) then some true else (bif decide ((c.Zae.length:Int)≤e2.clause) then some true else (bif (e2.clause == (i:Int)) then some true else (bif decide (e2.is < 1) then some true else some (decide (4 < e2.is)))))) fun v3=>(bif v3 then some (.inr ()) else some (.inl ())))))) (WX c.Zae.length i) hs (fun j hj=>by
    simp only [qr,List.getElem?_eq_getElem hj,ZaI,zn,WX]
    cases decide (k.start[j].clause < 0)<;>cases decide ((c.Zae.length:Int)≤k.start[j].clause)<;>cases (k.start[j].clause == (i:Int))<;>cases decide (k.start[j].is < 1)<;>cases decide (4 < k.start[j].is)<;>rfl)
  have hu:(bif decide (0≤k.unit) then (bif decide (k.unit < (c.Zav.length:Int)) then (Option.bind (ze c.Zav k.unit) fun e3=>(bif (e3.kind == 2) then (Option.bind (j7 k.value) fun r5=>(bif r5 then (Option.bind (q9 c k.to) fun r6=>some r6) else some false)) else some false)) else some false) else some false) =
      some ((match ze c.Zav k.unit with | some u=>u.kind == 2 | none=>false)&&(zaC k.value&&xR c.Zag.length k.to)):=by
    by_cases h:0≤k.unit∧k.unit < c.Zav.length
    · obtain ⟨h1,h2⟩:=jc h.1 h.2
      simp only [h2,h.1,h.2,decide_true,cond_true,ZaI,zn,Bool.cond_false_right,WV,Jh]
    · rw [zal h]
      by_cases h1:0≤k.unit
      · have:¬ k.unit < c.Zav.length:=fun h2=>h ⟨h1,h2⟩
        simp only [h1,this,decide_true,decide_false,cond_true,ZaH,Bool.false_and]
      · simp only [h1,decide_false,ZaH,Bool.false_and]
  have hp:(Option.bind (bif (k.pause == (-1)) then some (!(k.ZaC == (-1))) else some true) fun v4=>(bif v4 then (Option.bind (bif (k.pause == k.ZaC) then some true else (Option.bind (jW c k.pause) fun r2=>(bif r2 then (Option.bind (jW c k.ZaC) fun r3=>some (!r3)) else some true))) fun v5=>(bif v5 then some (.inr ()) else some (.inl ()))) else some (.inl ()))) =
      some (bif Jj c.Zai k then (.inl ():Unit ⊕ Unit) else .inr ()):=by
    simp only [Yz,Jj,zn,ZaI]
    cases (k.pause == -1)<;>cases (k.ZaC == -1)<;>cases (k.pause == k.ZaC)<;>cases Zi c.Zai k.pause<;>cases Zi c.Zai k.ZaC<;>rfl
  rw [zl hk]
  simp only [ZaI]
  rw [hst]
  simp only [ZaI]
  rw [hp,hu]
  simp only [ZaI,zbj,yo,zn,vA,zex,JT]
  cases decide (k.act < 0)<;>simp only [cond_true,ZaH,Bool.not_true,Bool.not_false,Bool.true_and,Bool.false_and,ZaI]
  cases decide ((c.Zai.length:Int)≤k.act)<;>simp only [cond_true,ZaH,Bool.not_true,Bool.not_false,Bool.true_and,Bool.false_and,ZaI]
  cases decide (k.after < 1)<;>simp only [cond_true,ZaH,Bool.not_true,Bool.not_false,Bool.true_and,Bool.false_and,ZaI]
  cases decide (400 < k.after)<;>simp only [cond_true,ZaH,Bool.not_true,Bool.not_false,Bool.true_and,Bool.false_and,ZaI]
  cases WW c.Zag.length c.Zai k<;>simp only [cond_true,ZaH,Bool.not_true,Bool.not_false,Bool.true_and,Bool.false_and,ZaI]
  cases decide (8 < (k.start.length:Int))<;>simp only [cond_true,ZaH,Bool.not_true,Bool.not_false,Bool.true_and,Bool.false_and,ZaI]
  cases k.start.all (WX c.Zae.length i)<;>simp only [cond_true,ZaH,Bool.not_true,Bool.not_false,Bool.true_and,Bool.false_and,ZaI,Sum.elim_inl,Sum.elim_inr]
  cases Jj c.Zai k<;>simp only [cond_true,ZaH,Bool.true_and,Bool.false_and,Sum.elim_inl,Sum.elim_inr]
  cases (k.kind == 1)<;>cases (k.kind == 2)<;>simp only [cond_true,ZaH,Bool.cond_false_right,Bool.true_or,Bool.or_true,Bool.or_self,Bool.true_and,Bool.false_and]
def kw (c:Zab):Bool:=decide (12 < c.Zao)||(decide (2000 < c.Zat)||(decide (12 < (c.Zag.length:Int))||(decide (20 < (c.Zav.length:Int))||(decide (60 < (c.Zai.length:Int))||decide (400 < (c.Zae.length:Int))))))
noncomputable def clB (c:Zab) (i:Nat):Bool:=match c.Zae[i]? with
  | some k=>vA c.Zag.length c.Zav c.Zai c.Zae.length i k
  | none=>true
noncomputable def z7 (c:Zab):Int×Int:=
  bif kw c then (3,-1) else bif jt c then (match (List.range c.Zae.length).find? (fun j=>!clB c j) with | none=>(0,-1) | some j=>(1,(j:Int))) else (1,-1)
theorem zhH (c:Zab) (ho:c.off.length < 4611686018427387904) (hs:∀ k∈c.Zae,k.start.length < 4611686018427387904):vp c=some (z7 c):=by
  unfold vp z7
  simp only [zn,Bool.cond_true_left,ZaI]
  show (bif kw c then _ else _)=_
  cases hlim:kw c with
  | true=>rfl
  | false=>
    simp only [kw,Bool.or_eq_false_iff,decide_eq_false_iff_not] at hlim
    obtain ⟨h1,h2,h3,h4,h5,h6⟩:=hlim
    simp only [ZaH,zf4 c (by omega) (by omega) (by omega) (by omega) ho,ZaI]
    cases jt c with
    | false=>rfl
    | true=>
      simp only [cond_true]
      rw [qM (fun i=>clB c i) (fun i=>(i:Int)) (by omega) (fun i hi=>by
        rw [YW c i c.Zae[i] (List.getElem?_eq_getElem hi) (hs _ (List.getElem_mem hi))]
        simp only [ZaI,clB,List.getElem?_eq_getElem hi,zn])]
      cases (List.range c.Zae.length).find? (fun j=>!clB c j)<;>rfl
end Go.Proofs.YtlpmnmbebkdocaaGreatDoor
namespace Go.Proofs.YtlpmnmbebkdocaaGreatDoor
open Go.RowKit
set_option linter.unusedSimpArgs false
set_option linter.unusedVariables false
set_option maxRecDepth 100000
theorem LOk.lt {α:Type} {n:Nat} {p:α→Prop} {l:List α} (h:LOk n p l) (hn:0 < n):l.length < 4611686018427387904:=by
  have h1:=h.1
  have h2:reachBytes≤140737488355328:=by decide +kernel
  have:=Nat.le_mul_of_pos_right l.length hn
  omega
theorem Zab.Ok.valid {c:Zab} (hc:c.Ok):vp c=some (z7 c):=
  zhH c (hc.off.lt (by omega)) (fun k hk=>(hc.Zae.2 k hk).start.lt (by omega))
inductive ValidIs (c:Zab):Int×Int→Prop where
  | lim (h:kw c=true):ValidIs c (3,-1)
  | frame (h:kw c=false) (hf:jt c=false):ValidIs c (1,-1)
  | bad (h:kw c=false) (hf:jt c=true) (i:Nat) (hi:i < c.Zae.length) (hb:clB c i=false) (hl:∀ j,j < i→clB c j=true):ValidIs c (1,(i:Int))
  | ok (h:kw c=false) (hf:jt c=true) (ha:∀ j,j < c.Zae.length→clB c j=true):ValidIs c (0,-1)
theorem zf5 (c:Zab):ValidIs c (z7 c):=by
  unfold z7
  cases h:kw c with
  | true=>exact .lim h
  | false=>
    simp only [ZaH]
    cases hf:jt c with
    | false=>exact .frame h hf
    | true=>
      simp only [cond_true]
      cases hq:(List.range c.Zae.length).find? (fun j=>!clB c j) with
      | none=>exact .ok h hf (wv hq)
      | some j=>obtain ⟨h1,h2,h3⟩:=ww hq;exact .bad h hf j h1 h2 h3
theorem yv {c:Zab} (h:(z7 c).1=0):kw c=false∧jt c=true∧(∀ j,j < c.Zae.length→clB c j=true)∧z7 c=(0,-1):=by
  have hv:=zf5 c
  generalize hr:z7 c=r at h hv ⊢
  cases hv with
  | lim _=>simp at h
  | frame _ _=>simp at h
  | bad _ _ i _ _ _=>simp at h
  | ok a b d=>exact ⟨a,b,d,rfl⟩
theorem zjp (x y:Int):ZA x y=some (decide (x < y)):=by
  simp [ZA,Qg]
theorem zjq {a b:Int} (h0:0≤a) (h1:a≤b) (h2:b < 4611686018427387904):Q0 .u64 .u64 (IntKind.u64.wrap (IntKind.i64.wrap (a+b))) 1=some ((a+b) / 2):=by
  rw [zY (by omega) (by omega),zfb (by omega) (by omega)]
  unfold Q0
  rw [if_neg (by omega)]
  have:(2:Int) ^ (min (1:Int).toNat IntKind.u64.bits)=2:=by decide
  rw [this,Int.fdiv_eq_ediv_of_nonneg _ (by omega)]
def xG (l:List Int) (v:Int):Option Int:=if v∈l then some (l.idxOf v:Int) else none
theorem zf6 {l:List Int} (hn:l.Nodup) {i:Nat} (hi:i < l.length):l.idxOf l[i]=i:=by
  have h1:l.idxOf l[i] < l.length:=List.idxOf_lt_length_iff.2 (List.getElem_mem hi)
  have h2:=List.getElem_idxOf h1
  exact (List.getElem?_inj h1 hn).1 (by rw [List.getElem?_eq_getElem h1,List.getElem?_eq_getElem hi,h2])
theorem zhI {l:List Int} (hn:l.Nodup) {i:Nat} {v:Int} (h:l[i]?=some v):xG l v=some (i:Int):=by
  obtain ⟨hi,rfl⟩:=List.getElem?_eq_some_iff.1 h
  unfold xG
  rw [if_pos (List.getElem_mem hi),zf6 hn hi]
theorem VE (l:List Int) (v:Int) (hs:l.Pairwise (· < ·)) (hl:l.length < 4611686018427387904):∃ r:Int,jr l v=some (r,(xG l v).isSome)∧∀ p,xG l v=some p→r=p:=by
  have hp:=List.pairwise_iff_getElem.1 hs
  unfold jr
  have hit:Ret (iter (σ:=Int×Int) (ρ:=Int) (fun s1=>(bif decide (s1.1 < s1.2) then (Option.bind (Q0 .u64 .u64 (IntKind.u64.wrap (IntKind.i64.wrap (s1.1+s1.2))) 1) fun e1=>(Option.bind (ze l (IntKind.i64.wrap e1)) fun e2=>(Option.bind (ZA e2 v) fun r1=>(bif r1 then some (.inl ((IntKind.i64.wrap ((IntKind.i64.wrap e1)+1)),s1.2)) else some (.inl (s1.1,(IntKind.i64.wrap e1))))))) else some (.inr s1.1))) (0,(l.length:Int)))
      (fun r=>0≤r∧r≤l.length∧(∀ (j:Nat) (hj:j < l.length),(j:Int) < r→l[j] < v)∧(∀ (j:Nat) (hj:j < l.length),r≤(j:Int)→v≤l[j])):=by
    refine Ret.iter (fun s=>0≤s.1∧s.1≤s.2∧s.2≤l.length∧(∀ (j:Nat) (hj:j < l.length),(j:Int) < s.1→l[j] < v)∧(∀ (j:Nat) (hj:j < l.length),s.2≤(j:Int)→v≤l[j])) (fun s=>(s.2 - s.1).toNat) ⟨by simp,by simp,by simp,fun j hj h=>by simp only at h;omega,fun j hj h=>by simp only at h;omega⟩ ?_
    rintro ⟨lo,hi⟩ ⟨h1,h2,h3,h4,h5⟩
    simp only at h1 h2 h3 h4 h5 ⊢
    refine Ret.ite (fun hb => ?_) (fun hb => ?_)
    · have hlt:=of_decide_eq_true hb
      rw [zjq h1 h2 (by omega)]
      simp only [ZaI]
      have hm1:lo≤(lo+hi) / 2:=by omega
      have hm2:(lo+hi) / 2 < hi:=by omega
      generalize (lo+hi) / 2=m at hm1 hm2 ⊢
      rw [zY (by omega) (by omega)]
      obtain ⟨hi',e⟩:=jc (l:=l) (n:=m) (by omega) (by omega)
      rw [e,zY (by omega) (by omega)]
      simp only [ZaI,zjp]
      refine Ret.ite (fun hb2 => ?_) (fun hb2 => ?_)
      · have hv:=of_decide_eq_true hb2
        refine Ret.some ⟨⟨by show 0≤m+1;omega,by show m+1≤hi;omega,h3,fun j hj hjm => ?_,h5⟩,by show (hi - (m+1)).toNat < (hi - lo).toNat;omega⟩
        have hjm:(j:Int) < m+1:=hjm
        rcases Nat.lt_or_ge j m.toNat with h | h
        · have:=hp j m.toNat hj hi' h;omega
        · obtain rfl:j=m.toNat:=by omega
          exact hv
      · have hv:¬ l[m.toNat] < v:=of_decide_eq_false hb2
        refine Ret.some ⟨⟨h1,by show lo≤m;omega,by show m≤(l.length:Int);omega,h4,fun j hj hjm => ?_⟩,by show (m - lo).toNat < (hi - lo).toNat;omega⟩
        have hjm:m≤(j:Int):=hjm
        rcases Nat.lt_or_ge m.toNat j with h | h
        · have:=hp m.toNat j hi' hj h;omega
        · obtain rfl:j=m.toNat:=by omega
          omega
    · have hlt:¬ lo < hi:=of_decide_eq_false hb
      have:lo=hi:=by omega
      subst this
      exact Ret.some ⟨h1,h3,h4,h5⟩
  obtain ⟨r,hr,hr0,hr1,hr2,hr3⟩:=hit
  rw [hr]
  simp only [ZaI]
  by_cases hlt:r < (l.length:Int)
  · obtain ⟨hi',e⟩:=jc (l:=l) (n:=r) hr0 hlt
    simp only [hlt,decide_true,cond_true,e,ZaI]
    by_cases hv:l[r.toNat]=v
    · have hpos:xG l v=some (r.toNat:Int):=zhI (zd1 hs) (by rw [List.getElem?_eq_getElem hi',hv])
      refine ⟨r,by simp [hv,hpos],fun p hp => ?_⟩
      rw [hpos] at hp;cases hp;omega
    · have hn:xG l v=none:=by
        unfold xG
        rw [if_neg]
        intro hm
        obtain ⟨j,hj,e2⟩:=List.getElem_of_mem hm
        rcases Nat.lt_trichotomy j r.toNat with h | h | h
        · have:=hr2 j hj (by omega);omega
        · subst h;exact hv e2
        · have h6:=hp r.toNat j hi' hj h
          have h7:=hr3 r.toNat hi' (by omega)
          omega
      refine ⟨r,?_,fun p hp=>by rw [hn] at hp;cases hp⟩
      rw [hn]
      have:(l[r.toNat] == v)=false:=beq_eq_false_iff_ne.2 hv
      simp [this,yO]
  · have hn:xG l v=none:=by
      unfold xG
      rw [if_neg]
      intro hm
      obtain ⟨j,hj,e2⟩:=List.getElem_of_mem hm
      have:=hr2 j hj (by omega);omega
    refine ⟨r,?_,fun p hp=>by rw [hn] at hp;cases hp⟩
    rw [hn]
    simp [hlt]
theorem zhJ {Zat:Int} {off:List Int} (hl:off.length < 4611686018427387904) (h:Ji Zat off=true):(off.length:Int)≤Zat∨off.length=0:=by
  have e:Ji Zat off=ki Zat (-1) off:=by
    unfold Ji
    rw [zgT Zat off hl (-1)]
    cases ki Zat (-1) off<;>rfl
  rw [e] at h
  rcases zam h with h1 | h1<;>omega
structure Small (c:Zab):Prop where
  Zao:1≤c.Zao∧c.Zao≤12
  Zat:1≤c.Zat∧c.Zat≤2000
  Zag:c.Zag.length≤12
  Zav:c.Zav.length≤20
  Zai:c.Zai.length≤60
  Zae:c.Zae.length≤400
  off:c.off.length≤2000
  start:∀ k∈c.Zae,k.start.length≤8
  cond:∀ (i:Nat) (k:Zam),c.Zae[i]?=some k→∀ s∈k.start,0≤s.clause∧s.clause < c.Zae.length∧s.clause≠(i:Int)
theorem qi {c:Zab} (ho:c.off.length < 4611686018427387904) (h:(z7 c).1=0):Small c:=by
  obtain ⟨h1,h2,h3,_⟩:=yv h
  simp only [kw,Bool.or_eq_false_iff,decide_eq_false_iff_not] at h1
  obtain ⟨a1,a2,a3,a4,a5,a6⟩:=h1
  simp only [jt,Bool.and_eq_true,Bool.not_eq_true',decide_eq_false_iff_not] at h2
  obtain ⟨b1,b2,b3,b4,b5,b6,b7⟩:=h2
  have hcl:∀ (i:Nat) (k:Zam),c.Zae[i]?=some k→vA c.Zag.length c.Zav c.Zai c.Zae.length i k=true:=fun i k hk=>by
    have:=h3 i (List.getElem?_eq_some_iff.1 hk).1
    simp only [clB,hk] at this
    exact this
  refine ⟨⟨by omega,by omega⟩,⟨by omega,by omega⟩,by omega,by omega,by omega,by omega,?_,fun k hk => ?_,fun i k hk s hs => ?_⟩
  · rcases zhJ ho b7 with h | h<;>omega
  · obtain ⟨i,hi,e⟩:=List.getElem_of_mem hk
    have:=hcl i k (by rw [←e];exact List.getElem?_eq_getElem hi)
    simp only [vA,Bool.and_eq_true,Bool.not_eq_true',decide_eq_false_iff_not] at this
    omega
  · have:=hcl i k hk
    simp only [vA,Bool.and_eq_true] at this
    have:=List.all_eq_true.1 this.2.2.1 s hs
    simp only [WX,Bool.and_eq_true,Bool.not_eq_true',decide_eq_false_iff_not,beq_eq_false_iff_ne] at this
    exact ⟨by omega,by omega,this.2.2.1⟩
theorem kX {α:Type} {by_:Nat} {l:List α} (h:l.length*by_≤140737488355328):jl by_ l=some l:=by unfold jl;rw [if_pos h]
end Go.Proofs.YtlpmnmbebkdocaaGreatDoor
