/-
  Functions of the program: what they compute, and plans of their code that the kernel checks (printed by a program of ours).
  What 'contract.Valid' comes to.
  What Valid says.
-/
import Derived.Test.YtlpmnmbebkdocaaGreatDoorTA10
import Derived.Test.YtlpmnmbebkdocaaGreatDoorTA06
namespace Go.Proofs.YtlpmnmbebkdocaaGreatDoor
open Go.RowKit
set_option linter.unusedSimpArgs false
set_option linter.unusedVariables false
set_option maxRecDepth 100000
noncomputable def yW (c:Zab) (states:List Zad):Option (Option (List (Int×Zax))):=
  (Option.bind (forR (σ:=(List (ByteArray×Int))) (ρ:=Unit) (states.length:Int) (fun i1 s1=>(Option.bind (ze states (i1:Int)) fun e1=>(Option.bind (wF e1) fun r1=>some (.inl (zS r1 (i1:Int) s1))))) []) (Sum.elim (fun (s1:(List (ByteArray×Int)))=>(Option.bind (forR (σ:=(List (Int×Zax))) (ρ:=Unit) (states.length:Int) (fun i2 s2=>(Option.bind (Option.bind (ze states (i2:Int)) fun e2=>(bif (e2.day == c.Zat) then some s2 else (Option.bind (iter (σ:=Int×(List (Int×Zax))) (ρ:=(List (Int×Zax))) (fun s3=>(bif decide (s3.1 < (c.Zai.length:Int)) then (Option.bind (Option.bind (d_Step c e2 s3.1) fun r2=>(Option.bind (wF r2.1) fun r3=>(Option.bind (bif ((zp ((zp r3 s1).getD 0) s3.2).isSome) then some false else some (!(((zp r3 s1).getD 0) == 0))) fun v1=>(bif v1 then some (zS ((zp r3 s1).getD 0) ({from_:=(i2:Int),step:=s3.1}:Zax) s3.2) else some s3.2)))) fun (v2:(List (Int×Zax)))=>some (.inl ((IntKind.i64.wrap (s3.1+1)),v2))) else some (.inr s3.2))) ((-1),s2)) (fun (y1:(List (Int×Zax)))=>some y1)))) fun (v3:(List (Int×Zax)))=>some (.inl v3))) []) (Sum.elim (fun (s2:(List (Int×Zax)))=>some (some s2)) (fun _=>none)))) (fun _=>none)))
noncomputable def zhQ (c:Zab) (states:List Zad):Zac (Option (List (Int×Zax))):=
  .reg 2 (.ln 2174 Zad.row states (.use 1 2174 (.forR (σ:=(List (ByteArray×Int))) (ρ:=Unit) 2116 20 (states.length:Int) [] (.k [1,2,5,18,19] (fun _=>[]) [0] (fun s1=>[(2,.map (zy IV.str IV.i64 s1))]) 7 fun _=>(.ents rfl .nil)) (fun i1 s1=>.sel 2116 (.reg 0 (.ix 2152 Zad.row states (i1:Int) fun e1=>.use 1 2152 (.reg 0 (.call 2154 (zbT e1) fun r1=>.use 2 2154 (.f1 2156 (.u (zy IV.str IV.i64 (zS r1 (i1:Int) s1))) (xK IV.i64 r1 (i1:Int) s1) (.use 4 2156 (.ret (.inl (zS r1 (i1:Int) s1)))))))))) fun os1=>.case os1 (fun s1=>.sel 2116 (.reg 1 (.ln 2172 Zad.row states (.use 1 2172 (.forR (σ:=(List (Int×Zax))) (ρ:=Unit) 2118 33 (states.length:Int) [] (.k [2,5,8,31,32] (fun _=>[]) [0] (fun s2=>[(2,.map (zy IV.str IV.i64 s1)),(8,.map (zy IV.i64 Zax.iv s2))]) 13 fun _=>(.ents rfl (.ents rfl .nil))) (fun i2 s2=>.sel 2118 (.cut (β:=(List (Int×Zax))) 1 (.k [2,5,8,31,32,33] (fun _=>[]) [0] (fun v3=>[(2,.map (zy IV.str IV.i64 s1)),(8,.map (zy IV.i64 Zax.iv v3))]) 25 fun _=>(.ents rfl (.ents rfl .nil))) (.reg 0 (.ix 2158 Zad.row states (i2:Int) fun e2=>.use 1 2158 (.ite 2136 (e2.day == c.Zat) (.sel 2136 (.ret s2)) (.sel 2136 (.iter (σ:=Int×(List (Int×Zax))) (ρ:=(List (Int×Zax))) ((-1),s2) (.k [2,5,8,31,32,33,10,9] (fun s3=>[(11,vI s3.1)]) [0,17] (fun s3=>[(2,.map (zy IV.str IV.i64 s1)),(8,.map (zy IV.i64 Zax.iv s3.2))]) 26 fun _=>(.ents rfl (.ents rfl .nil))) (fun s3=>.reg 0 (.ln 2170 Zau.row c.Zai (.use 3 2170 (.ite 2146 (decide (s3.1 < (c.Zai.length:Int))) (.sel 2146 (.cut (β:=(List (Int×Zax))) 1 (.k [2,5,8,31,32,33,10,9,11] (fun _=>[]) [0,17] (fun v2=>[(2,.map (zy IV.str IV.i64 s1)),(8,.map (zy IV.i64 Zax.iv v2))]) 61 fun _=>(.ents rfl (.ents rfl .nil))) (.reg 0 (.call 2160 (kx c e2 s3.1) fun r2=>.use 3 2160 (.reg 0 (.call 2162 (zbT r2.1) fun r3=>.use 2 2162 (.f1 2168 (.l (vI ((zp r3 s1).getD 0)) ((zp r3 s1).isSome)) (wU IV.i64 0 r3 s1) (.use 3 2168 (.reg 0 (.f1 2166 (.l (.imm (.agg (Zax.row ((zp ((zp r3 s1).getD 0) s3.2).getD ({from_:=0,step:=0}:Zax))))) ((zp ((zp r3 s1).getD 0) s3.2).isSome)) (Yk Zax.iv ({from_:=0,step:=0}:Zax) ((zp r3 s1).getD 0) s3.2) (.use 2 2166 (.cut (β:=Bool) 1 (.k [2,5,8,31,32,33,10,9,11,14] (fun v1=>[(72,vB v1)]) [0,17,38,52] (fun _=>[(2,.map (zy IV.str IV.i64 s1)),(8,.map (zy IV.i64 Zax.iv s3.2))]) 61 fun _=>(.ents rfl (.ents rfl .nil))) (.reg 0 (.ite 2148 ((zp ((zp r3 s1).getD 0) s3.2).isSome) (.use 3 2149 (.ret false)) (.use 3 2149 (.ret (!(((zp r3 s1).getD 0) == 0)))))) fun v1=>.ite 2150 v1 (.sel 2150 (.reg 0 (.f1 2164 (.u (zy IV.i64 Zax.iv (zS ((zp r3 s1).getD 0) ({from_:=(i2:Int),step:=s3.1}:Zax) s3.2))) (zfI Zax.iv ((zp r3 s1).getD 0) ({from_:=(i2:Int),step:=s3.1}:Zax) s3.2) (.use 5 2164 (.ret (zS ((zp r3 s1).getD 0) ({from_:=(i2:Int),step:=s3.1}:Zax) s3.2)))))) (.sel 2150 (.ret s3.2)))))))))))) fun v2=>.ret (.inl ((IntKind.i64.wrap (s3.1+1)),v2)))) (.sel 2146 (.ret (.inr s3.2))))))) fun y1=>.ret y1))))) fun v3=>.ret (.inl v3))) fun os2=>.case os2 (fun s2=>.sel 2118 (.fin [8] (.map 8) [(8,.map (zy IV.i64 Zax.iv s2))] (qE IV.i64 Zax.iv (some s2)) (jj _ _ _ (zE (zkF IV.i64 Zax.iv 8 s2 rfl) jE)) (some s2))) fun _=>.none))))) fun _=>.none)))
theorem zhR (c:Zab) (states:List Zad) (res:Option (List (Int×Zax))) (hd:yW c states=some res):APure C0 205 [.agg (Zab.row c),.slice (List.map Zad.row states)] (qE IV.i64 Zax.iv res):=
  Zac.pure (iv:=fun res=>qE IV.i64 Zax.iv res) (zhQ c states) (by kernel_rfl) (Zac.run_of hd (by kernel_rfl))
noncomputable def ky (p1:List Int):Option (List Int):=
  (Option.bind (iter (σ:=Int×Int×(List Int)) (ρ:=(List Int)) (fun s1=>(bif decide (s1.1 < s1.2.1) then (Option.bind (zl p1.length s1.2.1) fun k1=>(Option.bind (s1.2.2[k1]?) fun e1=>(Option.bind (zl p1.length s1.1) fun k2=>(Option.bind (s1.2.2[k2]?) fun e2=>(Option.bind ((s1.2.2.set k2 e1)[k1]?) fun e3=>some (.inl ((IntKind.i64.wrap (s1.1+1)),(IntKind.i64.wrap (s1.2.1 - 1)),((s1.2.2.set k2 e1).set k1 e2)))))))) else some (.inr s1.2.2))) (0,(IntKind.i64.wrap ((p1.length:Int) - 1)),p1)) (fun (y1:(List Int))=>some y1))
noncomputable def zjx (p1:List Int):Zac (List Int):=
  .iter (σ:=Int×Int×(List Int)) (ρ:=(List Int)) (0,(IntKind.i64.wrap ((p1.length:Int) - 1)),p1) (.k [0] (fun s1=>[(2,vI s1.1),(3,vI s1.2.1)]) [] (fun s1=>[(0,.rows 1 (zb zc s1.2.2))]) 6 fun _=>(.rows rfl .nil)) (fun s1=>.ite 2180 (decide (s1.1 < s1.2.1)) (.sel 2180 (.reg 0 (.b1 2182 (zl p1.length s1.2.1) (fun k1=>.k k1) (fun k1 hk1=>(zr hk1)) fun k1=>.b1 2184 (s1.2.2[k1]?) (fun e1=>.ar (zt (zc e1))) (fun e1 he1=>(zX zc he1)) fun e1=>.b1 2186 (zl p1.length s1.1) (fun k2=>.k k2) (fun k2 hk2=>(zr hk2)) fun k2=>.bind (s1.2.2[k2]?) (fun e2=>[(2188,([.ar (zt (zc e2))],_)),(2190,([.aw (zt (zc e2)) (zb zc (s1.2.2.set k2 e1))],_))]) (fun e2 he2=>(.c1 (zX zc he2) (.c1 (zR zc e1 he2) .nil))) fun e2=>.b1 2192 ((s1.2.2.set k2 e1)[k1]?) (fun e3=>.aw (zt (zc e3)) (zb zc ((s1.2.2.set k2 e1).set k1 e2))) (fun e3 he3=>(zR zc e2 he3)) fun e3=>.us [(6,2182),(7,2184),(10,2186),(11,2188),(12,2186),(13,2190),(14,2182),(15,2192)] (.ret (.inl ((IntKind.i64.wrap (s1.1+1)),(IntKind.i64.wrap (s1.2.1 - 1)),((s1.2.2.set k2 e1).set k1 e2))))))) (.sel 2180 (.ret (.inr s1.2.2)))) fun y1=>.ret y1
theorem zjy (p1:List Int) (res:(List Int)) (hd:ky p1=some res):DOk C0 213 [.Zak 0 0 p1.length] [(0,.rows 1 (zb zc p1))] 1 (.tuple []) [(0,.rows 1 (zb zc res))] 0:=
  Zac.det (R:=fun res=>.tuple []) (H:=fun res=>[(0,.rows 1 (zb zc res))]) (zjx p1) (.rows rfl .nil) (fun _=>(.rows rfl .nil)) (by kernel_rfl) (fun _=>by kernel_rfl) (by kernel_rfl) (Zac.run_of hd (by kernel_rfl))
noncomputable def jO (came:Option (List (Int×Zax))) (n:Int):Zax:=(zp n (came.getD [])).getD ({from_:=0,step:=0}:Zax)
noncomputable def Qo (came:Option (List (Int×Zax))) (s:List Int×Int):Option ((List Int×Int) ⊕ List Int):=
  bif (!(s.2 == 0)) then Option.bind (zfG (α:=Int) 8 s.1 [(jO came s.2).step]) fun e=>some (.inl (e,(jO came s.2).from_)) else some (.inr s.1)
noncomputable def Qp (came:Option (List (Int×Zax))) (n:Int):Option (List Int):=
  Option.bind (iter (σ:=List Int×Int) (ρ:=List Int) (Qo came) ([],n)) fun l=>Option.bind (ky l) fun r=>Option.bind (eqN l.length r.length) fun _=>some r
theorem zeE {C:CtxY} {nt:Fr} {x:ZaG} {K:Exit→St→Prop} {st:St} {σ ρ γ:Type} {f:σ→Option (σ ⊕ ρ)} {s0:σ} {out:ρ} (hl:iter f s0=some out)
    (Ok:σ→γ→Prop) (S:σ→γ→St) (hmin:∀ s c,Ok s c→st.next≤(S s c).next) (c0:γ) (hok0:Ok s0 c0) (hn0:(S s0 c0).next=st.next) (h0:Weak st (S s0 c0))
    (body:∀ (s:σ) (c:γ) (o:σ ⊕ ρ),Ok s c→f s=some o→awp C nt x (zkG Ok S K (.inr out) o) (S s c)):awp C nt (.loop x) K st:=by
  obtain ⟨k,hk⟩:=wz.1 hl
  refine Xy (ι:={p:Nat×σ×γ // iterN f p.1 p.2.1=some out∧Ok p.2.1 p.2.2}) (fun p=>S p.1.2.1 p.1.2.2) (fun p=>p.1.1) ⟨(k,s0,c0),hk,hok0⟩ (fun p=>by rw [hn0];exact hmin _ _ p.2.2) h0 (Nat.le_of_eq hn0.symm) ?_
  rintro ⟨⟨i,s,c⟩,hf,hok⟩
  simp only at hf hok
  cases i with
  | zero=>cases hf
  | succ i=>
    simp only [iterN] at hf
    split at hf
    · cases hf
    · rename_i r hr
      cases hf
      refine qV ?_ (body s c _ hok hr)
      intro e st' hK
      cases e with
      | normal=>obtain ⟨s',_,h1,_⟩:=hK;cases h1
      | _=>obtain ⟨y,h1,h2⟩:=hK;cases h1;exact h2 rfl
    · rename_i s' hr
      refine qV ?_ (body s c _ hok hr)
      intro e st' hK
      cases e with
      | normal=>
        obtain ⟨s'',c'',h1,h2,h3⟩:=hK
        cases h1
        exact ⟨⟨(i,s',c''),hf,h2⟩,by simp only;omega,h3⟩
      | _=>obtain ⟨y,h1,h2⟩:=hK;cases h1
theorem yA {C:CtxY} {K:St→Prop} {dst:Option Nat} {op:AOp} {rest:List AItem} {env:List (Nat×AV)} {heap:List (Nat×Zaf)} {next:Nat} (r:AV) (ups:List (Nat×Zaf)) (hc:(match op with | .call _ _=>true | _=>false)=false)
    (he:evalOp op (zd env) (za heap) next=some (r,ups)) (hn:evl C rest K (St.after ⟨env,heap,next⟩ dst r ups)):evl C (⟨dst,op,none⟩::rest) K ⟨env,heap,next⟩:=by
  rw [KW,Yg]
  have e:∀ K,evOp C dst K ⟨env,heap,next⟩ op=zV dst K ⟨env,heap,next⟩ (evalOp op (zd env) (za heap) next):=fun KD=>by
    cases op<;>first | rfl | exact Bool.noConfusion hc
  rw [e,he]
  exact hn
theorem zf7 {ev:Opd→AV} {h:Nat→Option Zaf} {id:Nat} {a b:Opd} {zero:AV} {k:Int} {y:IV} {x:AV} {bb:Bool} (hp:zcx false zero (.int .i64 k) y x bb) (ha:ev a=.imm y) (hb:ev b=vI k):evalOp (.look false zero false a b) ev h id=some (x,[]):=by
  obtain ⟨es,h1,h2,h3⟩:=hp
  have h1':ju h (.imm y)=some es:=by
    rw [←h1];cases y<;>rfl
  simp only [evalOp,ha,hb,vI,h1',h2,if_pos]
  rcases h3 with ⟨h4,_⟩ | ⟨h4,h5,_⟩
  · rw [h4];rfl
  · rw [h4];simp [h5]
theorem zhS {ev:Opd→AV} {h:Nat→Option Zaf} {id:Nat} {a:Opd} (off:Nat) {x:Zax} {v:Int} (ha:ev a=.imm (Zax.iv x)) (ho:off < 2) (hv:x.row[off]?=some (.int .i64 v)):evalOp (.cut false off 1 a) ev h id=some (vI v,[]):=by
  simp only [evalOp,ha,Zax.iv,ZU]
  have hl:(x.row.map AV.imm).length=2:=rfl
  rw [if_pos (by omega)]
  simp only [Bool.false_eq_true,if_false,List.getElem?_map,hv,Option.map_some,vI]
theorem zhT {ev:Opd→AV} {h:Nat→Option Zaf} {id Q B k:Nat} {a b:Opd} {v:AV} {rows:List (List AV)} (ha:ev a=.Zak Q 0 k) (hb:ev b=.Zak B 0 1) (hB:h B=some (.rows 1 [[v]])) (hQ:h Q=some (.rows 1 rows)) (hk:k=rows.length) (hl:(k+1)*8≤140737488355328) :
    evalOp (.app 1 8 a b) ev h id=some (.Zak id 0 (k+1),[(id,.rows 1 (rows++[[v]])),(Q,.dead)]):=by
  subst hk
  simp [evalOp,ha,hb,QK,jI,hB,hQ,hl]
theorem zlf {C:CtxY} {nt:Fr} (came:Option (List (Int×Zax))) (n:Int) (x7:AV) (l:List Int) (Q N:Nat) (hQN:Q < N) (hl:(l.length+1)*8≤140737488355328) (P:Exit→St→Prop)
    (h:P .normal ⟨[(0,.imm (qE IV.i64 Zax.iv came)),(1,vI n),(5,.Zak (N+6) 0 (l.length+1))],zK (zK (zK [(Q,Zaf.rows 1 (zb zc l))] (N+5) (Zaf.rows 1 [[vI (jO came n).step]])) Q Zaf.dead) (N+6) (Zaf.rows 1 (zb zc l++[[vI (jO came n).step]])),N+8⟩) :
    awp C nt (.region false [] VF (some [0,1,5])) P ⟨[(0,.imm (qE IV.i64 Zax.iv came)),(1,vI n),(5,.Zak Q 0 l.length),(7,x7)],[(Q,.rows 1 (zb zc l))],N⟩:=by
  refine JK ?_
  unfold VF
  refine yA _ _ rfl rfl ?_
  refine yA _ _ rfl rfl ?_
  refine yA _ _ rfl rfl ?_
  refine yA (.imm (Zax.iv (jO came n))) [] rfl (zf7 (Wt Zax.iv ({from_:=0,step:=0}:Zax) n came) rfl rfl) ?_
  refine yA (vI (jO came n).step) [] rfl (zhS 1 rfl (by omega) rfl) ?_
  refine yA (.Zak (N+5) 0 1) [(N+5,.rows 1 [[vI (jO came n).step]])] rfl rfl ?_
  have hB:za (zK [(Q,Zaf.rows 1 (zb zc l))] (N+5) (Zaf.rows 1 [[vI (jO came n).step]])) (N+5)=some (.rows 1 [[vI (jO came n).step]]):=by rw [z7,if_pos rfl]
  have hQ1:za (zK [(Q,Zaf.rows 1 (zb zc l))] (N+5) (Zaf.rows 1 [[vI (jO came n).step]])) Q=some (.rows 1 (zb zc l)):=by rw [z7,if_neg (by omega)];simp [za]
  refine yA _ _ rfl (zhT rfl rfl hB hQ1 (by simp [zb]) hl) ?_
  refine yA _ _ rfl rfl ?_
  exact h
theorem zlg {nt:Fr} (x0 x1 x7:AV) (l r:List Int) (hr:ky l=some r) (Q N:Nat) (hQN:Q < N) (P:Exit→St→Prop)
    (h:P .normal ⟨[(5,.Zak Q 0 l.length)],[(Q,.rows 1 (zb zc r))],N+2⟩) :
    awp C0.plain nt (.region false [] VG (some [5])) P ⟨[(0,x0),(1,x1),(5,.Zak Q 0 l.length),(7,x7)],[(Q,.rows 1 (zb zc l))],N⟩:=by
  refine JK ?_
  have hd:=zjy l r hr
  simp only [VG,KW,zhp,Yg,zfq,evalOp,zhq,Wl,zdU,reduceIte,Option.getD_some,Wj,Wk,Q5,Wm,Yh,zdT,List.map_cons,List.map_nil,zbk,List.nil_append,List.append_nil,List.cons_append,KX,Nat.reduceEqDiff,if_false]
  refine ACall.det (l:=[Q]) (zi hd [Q] (N+1) (.keep .nil) (rhI rhN) (rhI rhN)) ?_ ?_ ?_
  · simp only [kl,Zu,List.length_cons,List.length_nil,List.all_cons,List.all_nil]
    simp;try omega
  · simp [xB,za,phi]
  · simp only [yT,St.put,Wj,Wk,Q5,Wm,Yh,Nat.reduceEqDiff,if_false,reduceIte,Wl,Option.getD_some,zdS,YZ]
    simp [qy,List.filter,phi,wT,zK]
    exact h
def SW (came:Option (List (Int×Zax))) (s:List Int×Int) (Q:Nat):St:=⟨[(0,.imm (qE IV.i64 Zax.iv came)),(1,vI s.2),(5,.Zak Q 0 s.1.length)],[(Q,.rows 1 (zb zc s.1))],Q+1⟩
set_option maxHeartbeats 4000000 in
theorem zlh (came:Option (List (Int×Zax))) (n:Int) (res:List Int) (hd:Qp came n=some res):APure C0 206 [qE IV.i64 Zax.iv came,.int .i64 n] (.slice (List.map zc res)):=by
  unfold Qp at hd
  obtain ⟨l,hl,hd⟩:=jS hd
  obtain ⟨r,hr,hd⟩:=jS hd
  obtain ⟨⟨hlen⟩,_,hd⟩:=jS hd
  have ee:=Option.some.inj hd;subst ee
  refine APure.start (d:=2) zkL (by simp [Kk]) ?_
  intro B
  show awp C0.plain _ Kk.body (yL Kk.results _) ⟨[(0,.imm (qE IV.i64 Zax.iv came)),(1,vI n)],[],0⟩
  refine xu ?_
  refine km (st':=⟨[(0,.imm (qE IV.i64 Zax.iv came)),(1,vI n)],[],1⟩) [] .nil ?_ (by kernel_rfl)
  refine yn ?_
  refine xu ?_
  refine km (st':=⟨[(0,.imm (qE IV.i64 Zax.iv came)),(1,vI n),(5,.nil)],[],2⟩) [] .nil ?_ (by kernel_rfl)
  refine yn ?_
  refine xu ?_
  refine kQ ?_
  refine Xx (Ym (t:=5) 1 rfl) (by simp) ?_
  show awp C0.plain _ _ _ ⟨[(0,.imm (qE IV.i64 Zax.iv came)),(1,vI n),(5,.Zak 2 0 0)],[(2,.rows 1 [])],3⟩
  refine zeE hl (fun _ Q=>2≤Q) (SW came) (fun s Q hQ=>by simp only [SW];omega) 2 (Nat.le_refl _) rfl (Weak.refl _) ?_
  rintro ⟨l,n⟩ Q o hQ hs
  show awp C0.plain _ _ _ ⟨[(0,.imm (qE IV.i64 Zax.iv came)),(1,vI n),(5,.Zak Q 0 l.length)],[(Q,.rows 1 (zb zc l))],Q+1⟩
  refine xu ?_
  refine xu ?_
  refine km (st':=⟨[(0,.imm (qE IV.i64 Zax.iv came)),(1,vI n),(5,.Zak Q 0 l.length),(7,vB (!(n == 0)))],[(Q,.rows 1 (zb zc l))],Q+3⟩) [] .nil ?_ (by kernel_rfl)
  refine yn ?_
  refine zis (!(n == 0)) rfl (fun g => ?_) (fun g => ?_)
  · replace hs:=ziu g hs
    obtain ⟨e,he,hs⟩:=jS hs
    cases hs
    have hb:(l.length+1)*8≤140737488355328∧e=l++[(jO came n).step]:=by
      unfold zfG at he
      split at he
      · rename_i hh;cases he;exact ⟨hh,rfl⟩
      · cases he
    obtain ⟨hb,rfl⟩:=hb
    refine Xv ?_
    refine yn ?_
    refine kQ ?_
    refine xu ?_
    refine zlf came n _ l Q (Q+3) (by omega) hb _ ?_
    refine yn ?_
    have ag:∀ j,za (zK (zK (zK [(Q,Zaf.rows 1 (zb zc l))] (Q+3+5) (Zaf.rows 1 [[vI (jO came n).step]])) Q Zaf.dead) (Q+3+6) (Zaf.rows 1 (zb zc l++[[vI (jO came n).step]]))) j=if Q+3+6=j then some (.rows 1 (zb zc l++[[vI (jO came n).step]])) else if Q=j then some .dead else if Q+3+5=j then some (.rows 1 [[vI (jO came n).step]]) else za [(Q,Zaf.rows 1 (zb zc l))] j:=fun j=>by
      simp only [z7]
    have ag2:=ag (Q+9)
    rw [if_pos rfl] at ag2
    generalize zK (zK (zK [(Q,Zaf.rows 1 (zb zc l))] (Q+3+5) (Zaf.rows 1 [[vI (jO came n).step]])) Q Zaf.dead) (Q+3+6) (Zaf.rows 1 (zb zc l++[[vI (jO came n).step]]))=hp at *
    refine km (st':=⟨[(0,.imm (qE IV.i64 Zax.iv came)),(1,vI (jO came n).from_),(5,.Zak (Q+3+6) 0 (l.length+1))],hp,Q+3+8+5⟩) [.l (.imm (Zax.iv (jO came n))) (zp n (came.getD [])).isSome] (.cons (Wt Zax.iv ({from_:=0,step:=0}:Zax) n came) .nil) ?_ (by kernel_rfl)
    refine zkC ?_
    refine ⟨_,Q+9,rfl,by omega,?_⟩
    refine JJ (by simp only [SW];omega) ?_ ?_
    · intro p hp
      simp only [SW,List.mem_cons,List.not_mem_nil,or_false] at hp
      rcases hp with rfl | rfl | rfl
      · exact ⟨rfl,rfl⟩
      · exact ⟨rfl,rfl⟩
      · refine ⟨by simp [za],by simp [zM,xd,zG,SW]⟩
    · intro p hp
      simp only [SW,List.mem_cons,List.not_mem_nil,or_false] at hp
      subst hp
      refine ⟨by rw [ag2];simp [zb,zt,zc,vI],by simp [SW],vX _ _ _ _⟩
  · replace hs:=ziv g hs
    cases hs
    refine Xw ?_
    refine ⟨_,rfl,fun e => ?_⟩
    have e:=Sum.inr.inj e
    subst e
    refine zit ?_
    refine yn ?_
    refine xu ?_
    refine zlg _ _ _ _ r hr Q (Q+3) (by omega) _ ?_
    refine yn ?_
    refine xu ?_
    refine km (st':=⟨[(4,.Zak Q 0 l.length)],[(Q,.rows 1 (zb zc r))],Q+3+2+2⟩) [] .nil ?_ (by kernel_rfl)
    refine yn ?_
    refine Vp ?_
    exact zfM _ rfl (xf zc Q 1 _ r hlen (by simp [za]))
noncomputable def wH (c:Zab) (states:List Zad):Option (List Zaj):=
  (Option.bind (forR (σ:=(List Zaj)×(Option (List (Int×Zax)))) (ρ:=Unit) (c.Zag.length:Int) (fun i1 s1=>(Option.bind (forR (σ:=(List Zaj)×(Option (List (Int×Zax)))) (ρ:=Unit) (c.Zag.length:Int) (fun i2 s2=>(Option.bind (Option.bind (xO c (i1:Int) (i2:Int)) fun r1=>(bif r1 then (Option.bind (forR (σ:=(List Zaj)×(Option (List (Int×Zax)))) (ρ:=(List Zaj)×(Option (List (Int×Zax)))) (states.length:Int) (fun i3 s3=>(Option.bind (ze states (i3:Int)) fun e1=>(Option.bind (vG c e1 (i1:Int) (i2:Int)) fun r2=>(bif r2 then (Option.bind (bif s3.2.isSome then some s3.2 else (Option.bind (yW c states) fun r3=>some r3)) fun (v1:(Option (List (Int×Zax))))=>(Option.bind (Qp v1 (i3:Int)) fun r4=>(Option.bind (jg 4 (-1) (i1:Int) (i2:Int) r4) fun r5=>(Option.bind (zQ (α:=Zaj) 56 s3.1 [r5]) fun e2=>some (.inr (e2,v1)))))) else some (.inl (s3.1,s3.2)))))) (s2.1,s2.2)) (Sum.elim (fun (s3:(List Zaj)×(Option (List (Int×Zax))))=>some (s3.1,s3.2)) (fun (y1:(List Zaj)×(Option (List (Int×Zax))))=>some (y1.1,y1.2)))) else some (s2.1,s2.2))) fun (v2:(List Zaj)×(Option (List (Int×Zax))))=>some (.inl (v2.1,v2.2)))) (s1.1,s1.2)) (Sum.elim (fun (s2:(List Zaj)×(Option (List (Int×Zax))))=>some (.inl (s2.1,s2.2))) (fun _=>none)))) ([],none)) (Sum.elim (fun (s1:(List Zaj)×(Option (List (Int×Zax))))=>some s1.1) (fun _=>none)))
noncomputable def zeF (c:Zab) (states:List Zad):Zac (List Zaj):=
  .reg 3 (.ln 2232 Zam.row c.Zag (.use 2 2232 (.weak 1 [ziQ 5 5] (.forR (σ:=(List Zaj)×(Option (List (Int×Zax)))) (ρ:=Unit) 1962 14 (c.Zag.length:Int) ([],none) (.k [1,2,13] (fun s1=>[(5,.Zas 8 (List.map Zaj.row s1.1)),(6,.imm (qE IV.i64 Zax.iv s1.2))]) [0] (fun s1=>[(8,.tip 5 s1.1.length)]) 9 fun _=>(.exp rfl rfl .nil)) (fun i1 s1=>.sel 1962 (.reg 1 (.ln 2230 Zam.row c.Zag (.use 2 2230 (.forR (σ:=(List Zaj)×(Option (List (Int×Zax)))) (ρ:=Unit) 2202 20 (c.Zag.length:Int) (s1.1,s1.2) (.k [1,2,13,14,7,19] (fun s2=>[(5,.Zas 8 (List.map Zaj.row s2.1)),(6,.imm (qE IV.i64 Zax.iv s2.2))]) [0] (fun s2=>[(8,.tip 5 s2.1.length)]) 16 fun _=>(.exp rfl rfl .nil)) (fun i2 s2=>.sel 2202 (.cut (β:=(List Zaj)×(Option (List (Int×Zax)))) 1 (.k [1,2,13,14,7,19,20] (fun v2=>[(5,.Zas 8 (List.map Zaj.row v2.1)),(6,.imm (qE IV.i64 Zax.iv v2.2))]) [0] (fun v2=>[(8,.tip 5 v2.1.length)]) 24 fun _=>(.exp rfl rfl .nil)) (.reg 1 (.call 2212 (YC c (i1:Int) (i2:Int)) fun r1=>.use 3 2212 (.ite 2204 r1 (.sel 2205 (.reg 0 (.ln 2228 Zad.row states (.use 1 2228 (.forR (σ:=(List Zaj)×(Option (List (Int×Zax)))) (ρ:=(List Zaj)×(Option (List (Int×Zax)))) 2206 30 (states.length:Int) (s2.1,s2.2) (.k [1,2,13,14,7,19,20,8,28,29] (fun s3=>[(5,.Zas 8 (List.map Zaj.row s3.1)),(6,.imm (qE IV.i64 Zax.iv s3.2))]) [0] (fun s3=>[(8,.tip 5 s3.1.length)]) 27 fun _=>(.exp rfl rfl .nil)) (fun i3 s3=>.sel 2206 (.reg 0 (.ix 2214 Zad.row states (i3:Int) fun e1=>.use 1 2214 (.reg 0 (.call 2216 (zbZ c e1 (i1:Int) (i2:Int)) fun r2=>.use 4 2216 (.ite 2208 r2 (.sel 2209 (.cut (β:=(Option (List (Int×Zax)))) 1 (.e [1,2,5,13,14,7,19,20,8,9] (fun v1=>[(6,.imm (qE IV.i64 Zax.iv v1))]) [0,8] 42) (.reg 0 (.f1 2220 (.v (.bool (!s3.2.isSome))) (zfJ false IV.i64 Zax.iv s3.2) (.use 1 2220 (.ite 2210 s3.2.isSome (.sel 2211 (.ret s3.2)) (.sel 2211 (.reg 0 (.call 2218 (zhR c states) fun r3=>.use 2 2218 (.ret r3)))))))) fun v1=>.reg 0 (.call 2222 (zlh v1 (i3:Int)) fun r4=>.call 2224 (kY 4 (-1) (i1:Int) (i2:Int) r4) fun r5=>.b1 2226 (zQ (α:=Zaj) 56 s3.1 [r5]) (fun e2=>.a (List.map Zaj.row e2) e2.length) (fun e2 he2=>(qv Zaj.row 5 56 (fun _=>rfl) he2)) fun e2=>.us [(5,2222),(6,2224),(8,2226)] (.ret (.inr (e2,v1)))))) (.sel 2209 (.ret (.inl (s3.1,s3.2)))))))))) fun os3=>.case os3 (fun s3=>.sel 2206 (.ret (s3.1,s3.2))) fun y1=>.ret (y1.1,y1.2)))))) (.sel 2205 (.ret (s2.1,s2.2)))))) fun v2=>.ret (.inl (v2.1,v2.2)))) fun os2=>.case os2 (fun s2=>.sel 2202 (.ret (.inl (s2.1,s2.2)))) fun _=>.none))))) fun os1=>.case os1 (fun s1=>.sel 1962 (.ret s1.1)) fun _=>.none))))
theorem zeG (c:Zab) (states:List Zad) (res:List Zaj) (hd:wH c states=some res):APure C0 201 [.agg (Zab.row c),.slice (List.map Zad.row states)] (.slice (List.map Zaj.row res)):=
  Zac.pure (iv:=fun res=>.slice (List.map Zaj.row res)) (zeF c states) (by kernel_rfl) (Zac.run_of hd (by kernel_rfl))
noncomputable def jW (c:Zab):Option ((List Zaj)×Int):=
  (Option.bind (xy c) fun r1=>(bif (r1.2 == 0) then (Option.bind (forR (σ:=(List Zaj)) (ρ:=Int) c.Zap (fun i1 s1=>(Option.bind (α:=(List Zaj) ⊕ Int) (Option.bind (qX c (i1:Int)) fun r2=>(bif (r2.2 == 0) then (Option.bind (vE c r2.1) fun r3=>(Option.bind (ze r3 0) fun e1=>(bif decide (0≤e1) then (Option.bind (ZI r2.1 r3) fun r4=>(Option.bind (jg 1 (i1:Int) (-1) (-1) r4) fun r5=>(Option.bind (zQ (α:=Zaj) 56 s1 [r5]) fun e2=>some (.inl e2)))) else some (.inl s1)))) else some (.inr r2.2))) (Sum.elim (fun (v1:(List Zaj))=>some (.inl v1)) (fun (y1:Int)=>some (.inr y1))))) []) (Sum.elim (fun (s1:(List Zaj))=>(Option.bind (forR (σ:=(List Zaj)×(List Zaj)) (ρ:=Unit) (c.Zag.length:Int) (fun i2 s2=>(Option.bind (Jm (i2:Int) r1.1 s2.1 c s2.2) fun r6=>some (.inl (r6.1,r6.2)))) (s1,[])) (Sum.elim (fun (s2:(List Zaj)×(List Zaj))=>(Option.bind (zQ (α:=Zaj) 56 s2.1 s2.2) fun e3=>(Option.bind (wH c r1.1) fun r7=>(Option.bind (zQ (α:=Zaj) 56 e3 r7) fun e4=>some (e4,0))))) (fun _=>none)))) (fun (y2:Int)=>some ([],y2)))) else some ([],r1.2)))
noncomputable def zjz (c:Zab):Zac ((List Zaj)×Int):=
  .reg 1 (.call 2234 (zbX c) fun r1=>.use 1 2234 (.ite 1304 (r1.2 == 0) (.sel 1305 (.weak 4 [JW 13 5 0 0] (.forR (σ:=(List Zaj)) (ρ:=Int) 1306 24 c.Zap [] (.k [1,4,6,23] (fun _=>[]) [0,8] (fun s1=>[(13,.rows 1 [[.Zas 17 (List.map Zaj.row s1)]]),(17,.tip 5 s1.length)]) 18 fun _=>(.exp rfl rfl (.exp rfl rfl .nil))) (fun i1 s1=>.sel 1306 (.cutO (β:=(List Zaj)) (γ:=Int) 1 (.k [1,4,6,23,24] (fun _=>[]) [0,8] (fun v1=>[(13,.rows 1 [[.Zas 17 (List.map Zaj.row v1)]]),(17,.tip 5 v1.length)]) 40 fun _=>(.exp rfl rfl (.exp rfl rfl .nil))) (.reg 1 (.call 2236 (VM c (i1:Int)) fun r2=>.use 2 2236 (.ite 1892 (r2.2 == 0) (.sel 1893 (.reg 0 (.call 2238 (zbY c r2.1) fun r3=>.use 2 2238 (.reg 0 (.ix 2240 zc r3 0 fun e1=>.use 1 2240 (.ite 1894 (decide (0≤e1)) (.sel 1894 (.reg 0 (.call 2242 (zjf r2.1 r3) fun r4=>.call 2244 (kY 1 (i1:Int) (-1) (-1) r4) fun r5=>.b1 2246 (zQ (α:=Zaj) 56 s1 [r5]) (fun e2=>.a (List.map Zaj.row e2) e2.length) (fun e2 he2=>(qv Zaj.row 5 56 (fun _=>rfl) he2)) fun e2=>.us [(4,2242),(5,2244),(7,2246)] (.ret (.inl e2))))) (.sel 1894 (.ret (.inl s1))))))))) (.sel 1893 (.ret (.inr r2.2)))))) fun o_v1=>.case o_v1 (fun v1=>.ret (.inl v1)) fun y1=>.ret (.inr y1))) fun os1=>.case os1 (fun s1=>.sel 1306 (.reg 2 (.ln 2256 Zam.row c.Zag (.use 2 2256 (.weak 1 [JW 19 5 0 0] (.forR (σ:=(List Zaj)×(List Zaj)) (ρ:=Unit) 1896 56 (c.Zag.length:Int) (s1,[]) (.k [1,4,6,11,12,55] (fun _=>[]) [0,8] (fun s2=>[(13,.rows 1 [[.Zas 17 (List.map Zaj.row s2.1)]]),(17,.tip 5 s2.1.length),(19,.rows 1 [[.Zas 26 (List.map Zaj.row s2.2)]]),(26,.tip 5 s2.2.length)]) 27 fun _=>(.exp rfl rfl (.exp rfl rfl (.exp rfl rfl (.exp rfl rfl .nil))))) (fun i2 s2=>.sel 1896 (.reg 1 (.b1 2248 (Jm (i2:Int) r1.1 s2.1 c s2.2) (fun r6=>.c [8,13,0,19,17,26] 6 (.tuple []) [(13,.rows 1 [[.Zas 17 (List.map Zaj.row r6.1)]]),(19,.rows 1 [[.Zas 26 (List.map Zaj.row r6.2)]]),(17,.tip 5 r6.1.length),(26,.tip 5 r6.2.length)] 0) (fun r6 hr6=>(zi (zju (i2:Int) r1.1 s2.1 c s2.2 r6 hr6) [8,13,0,19,17,26] 32 (.drop rfl rfl (.keep (.drop rfl rfl (.keep (.keep (.keep .nil)))))) (rhR (rhR (rhR (rhR (rhR (rhR rhN)))))) (rhR (rhR (rhR (rhR rhN)))))) fun r6=>.use 2 2248 (.ret (.inl (r6.1,r6.2)))))) fun os2=>.case os2 (fun s2=>.sel 1896 (.reg 0 (.b1 2250 (zQ (α:=Zaj) 56 s2.1 s2.2) (fun e3=>.a (List.map Zaj.row e3) e3.length) (fun e3 he3=>(qv Zaj.row 5 56 (fun _=>rfl) he3)) fun e3=>.call 2252 (zeG c r1.1) fun r7=>.b1 2254 (zQ (α:=Zaj) 56 e3 r7) (fun e4=>.a (List.map Zaj.row e4) e4.length) (fun e4 he4=>(qv Zaj.row 5 56 (fun _=>rfl) he4)) fun e4=>.us [(2,2250),(5,2252),(6,2254)] (.ret (e4,0))))) fun _=>.none)))))) fun y2=>.ret ([],y2)))) (.sel 1305 (.ret ([],r1.2)))))
theorem WZ (c:Zab) (res:(List Zaj)×Int) (hd:jW c=some res):APure C0 192 [.agg (Zab.row c)] (.tuple [.slice (List.map Zaj.row res.1),.int .i64 res.2]):=
  Zac.pure (iv:=fun res=>.tuple [.slice (List.map Zaj.row res.1),.int .i64 res.2]) (zjz c) (by kernel_rfl) (Zac.run_of hd (by kernel_rfl))
noncomputable def zaK (a:List Int) (b:List Int):Option Bool:=
  (bif ((a.length:Int) == (b.length:Int)) then (Option.bind (forR (σ:=Unit) (ρ:=Unit) (a.length:Int) (fun i1 s1=>(Option.bind (ze a (i1:Int)) fun e1=>(Option.bind (ze b (i1:Int)) fun e2=>(bif (e1 == e2) then some (.inl ()) else some (.inr ()))))) ()) (Sum.elim (fun (s1:Unit)=>some true) (fun (y1:Unit)=>some false))) else some false)
noncomputable def zf8 (a:List Int) (b:List Int):Zac Bool:=
  .reg 1 (.ln 2288 zc a (.use 1 2288 (.ln 2286 zc b (.use 3 2286 (.ite 2272 ((a.length:Int) == (b.length:Int)) (.sel 2273 (.forR (σ:=Unit) (ρ:=Unit) 2274 5 (a.length:Int) () (.e [0,1] (fun _=>[]) [] 7) (fun i1 s1=>.reg 0 (.ln 2282 zc a (.use 2 2282 (.sel 2274 (.reg 0 (.ix 2278 zc a (i1:Int) fun e1=>.ix 2280 zc b (i1:Int) fun e2=>.us [(2,2278),(6,2280)] (.ite 2276 (e1 == e2) (.sel 2277 (.ret (.inl ()))) (.sel 2277 (.ret (.inr ())))))))))) fun os1=>.case os1 (fun s1=>.reg 0 (.ln 2284 zc a (.use 2 2284 (.sel 2274 (.ret true))))) fun y1=>.ret false)) (.sel 2273 (.ret false)))))))
theorem zf9 (a:List Int) (b:List Int) (res:Bool) (hd:zaK a b=some res):APure C0 142 [.slice (List.map zc a),.slice (List.map zc b)] (.bool res):=
  Zac.pure (iv:=fun res=>.bool res) (zf8 a b) (by kernel_rfl) (Zac.run_of hd (by kernel_rfl))
noncomputable def zaL (a:Zaj) (b:Zaj):Option Bool:=
  (Option.bind (bif (a.kind == b.kind) then (bif (a.zw == b.zw) then (bif (a.clause == b.clause) then (bif (a.other == b.other) then (Option.bind (zaK a.ZaE b.ZaE) fun r1=>some r1) else some false) else some false) else some false) else some false) fun v1=>some v1)
noncomputable def zga (a:Zaj) (b:Zaj):Zac Bool:=
  .cut (β:=Bool) 2 (.e [] (fun v1=>[(4,vB v1)]) [0,1] 37) (.reg 0 (.ite 2264 (a.kind == b.kind) (.ite 2266 (a.zw == b.zw) (.ite 2268 (a.clause == b.clause) (.ite 2270 (a.other == b.other) (.call 2290 (zf9 a.ZaE b.ZaE) fun r1=>.us [(6,2264),(13,2266),(20,2268),(27,2270),(31,2290)] (.ret r1)) (.us [(6,2264),(13,2266),(20,2268),(27,2270)] (.ret false))) (.us [(6,2264),(13,2266),(20,2268)] (.f1 2292 (.g false) (rfl:false=false) (.use 27 2292 (.ret false))))) (.us [(6,2264),(13,2266)] (.f1 2296 (.g false) (rfl:false=false) (.use 20 2296 (.f1 2294 (.g false) (rfl:false=false) (.use 27 2294 (.ret false))))))) (.use 6 2264 (.f1 2302 (.g false) (rfl:false=false) (.use 13 2302 (.f1 2300 (.g false) (rfl:false=false) (.use 20 2300 (.f1 2298 (.g false) (rfl:false=false) (.use 27 2298 (.ret false)))))))))) fun v1=>.ret v1
theorem zgb (a:Zaj) (b:Zaj) (res:Bool) (hd:zaL a b=some res):APure C0 320 [.agg (Zaj.row a),.agg (Zaj.row b)] (.bool res):=
  Zac.pure (iv:=fun res=>.bool res) (zga a b) (by kernel_rfl) (Zac.run_of hd (by kernel_rfl))
noncomputable def vH (a:List Zaj) (b:List Zaj):Option Bool:=
  (bif ((a.length:Int) == (b.length:Int)) then (Option.bind (forR (σ:=Unit) (ρ:=Unit) (a.length:Int) (fun i1 s1=>(Option.bind (ze a (i1:Int)) fun e1=>(Option.bind (ze b (i1:Int)) fun e2=>(Option.bind (zaL e1 e2) fun r1=>(bif r1 then some (.inl ()) else some (.inr ())))))) ()) (Sum.elim (fun (s1:Unit)=>some true) (fun (y1:Unit)=>some false))) else some false)
noncomputable def zhU (a:List Zaj) (b:List Zaj):Zac Bool:=
  .reg 1 (.ln 2318 Zaj.row a (.use 1 2318 (.ln 2316 Zaj.row b (.use 3 2316 (.ite 2260 ((a.length:Int) == (b.length:Int)) (.sel 2261 (.forR (σ:=Unit) (ρ:=Unit) 2262 5 (a.length:Int) () (.e [0,1] (fun _=>[]) [] 7) (fun i1 s1=>.reg 0 (.ln 2312 Zaj.row a (.use 2 2312 (.sel 2262 (.reg 0 (.ix 2306 Zaj.row a (i1:Int) fun e1=>.ix 2308 Zaj.row b (i1:Int) fun e2=>.call 2310 (zgb e1 e2) fun r1=>.us [(2,2306),(6,2308),(8,2310)] (.ite 2304 r1 (.sel 2305 (.ret (.inl ()))) (.sel 2305 (.ret (.inr ())))))))))) fun os1=>.case os1 (fun s1=>.reg 0 (.ln 2314 Zaj.row a (.use 2 2314 (.sel 2262 (.ret true))))) fun y1=>.ret false)) (.sel 2261 (.ret false)))))))
theorem zb0 (a:List Zaj) (b:List Zaj) (res:Bool) (hd:vH a b=some res):APure C0 317 [.slice (List.map Zaj.row a),.slice (List.map Zaj.row b)] (.bool res):=
  Zac.pure (iv:=fun res=>.bool res) (zhU a b) (by kernel_rfl) (Zac.run_of hd (by kernel_rfl))
noncomputable def zaM (c:Zab) (s:Zad) (act:Int):Option Int:=
  (Option.bind (Option.bind (xh c s) fun r1=>(bif r1 then (bif decide (act < 0) then some true else some (decide ((c.Zai.length:Int)≤act))) else some true)) fun v1=>(bif v1 then some (-2) else (Option.bind (kw c s act) fun r2=>some r2)))
noncomputable def zjA (c:Zab) (s:Zad) (act:Int):Zac Int:=
  .cut (β:=Bool) 3 (.e [2,3,4] (fun v1=>[(21,vB v1)]) [0,1] 18) (.reg 0 (.call 2356 (ku c s) fun r1=>.ite 2350 r1 (.ite 2352 (decide (act < 0)) (.us [(2,2356),(5,2351),(9,2352)] (.ret true)) (.us [(2,2356),(5,2351),(9,2352)] (.ln 2358 Zau.row c.Zai (.use 12 2358 (.ret (decide ((c.Zai.length:Int)≤act))))))) (.us [(2,2356),(5,2351)] (.f1 2360 (.g true) (rfl:true=true) (.use 9 2360 (.ret true)))))) fun v1=>.ite 2354 v1 (.sel 2354 (.ret (-2))) (.sel 2354 (.reg 0 (.call 2362 (zey c s act) fun r2=>.use 3 2362 (.ret r2))))
theorem zjB (c:Zab) (s:Zad) (act:Int) (res:Int) (hd:zaM c s act=some res):APure C0 98 [.agg (Zab.row c),.agg (Zad.row s),.int .i64 act] (.int .i64 res):=
  Zac.pure (iv:=fun res=>.int .i64 res) (zjA c s act) (by kernel_rfl) (Zac.run_of hd (by kernel_rfl))
noncomputable def jC (c:Zab) (s:Zad) (zw:Int):Option Bool:=
  (Option.bind (bif decide (zw < 0) then some true else (bif decide (c.Zap≤zw) then some true else (Option.bind (xh c s) fun r1=>some (!r1)))) fun v1=>(bif v1 then some false else (Option.bind (forR (σ:=Unit) (ρ:=Unit) (s.Zal.length:Int) (fun i1 s1=>(Option.bind (ze s.Zal (i1:Int)) fun e1=>(Option.bind (Option.bind (ze c.Zag (i1:Int)) fun e2=>(bif e2.final then (bif (e1.Zan == 4) then some (e1.Zav == zw) else some false) else some false)) fun v2=>(bif v2 then some (.inr ()) else some (.inl ()))))) ()) (Sum.elim (fun (s1:Unit)=>some false) (fun (y1:Unit)=>some true)))))
noncomputable def zgc (c:Zab) (s:Zad) (zw:Int):Zac Bool:=
  .cut (β:=Bool) 3 (.e [2,3,4] (fun v1=>[(22,vB v1)]) [0,1] 17) (.reg 0 (.ite 2370 (decide (zw < 0)) (.use 3 2370 (.f1 2384 (.g true) (rfl:true=true) (.use 9 2384 (.ret true)))) (.ite 2372 (decide (c.Zap≤zw)) (.us [(3,2370),(9,2372)] (.ret true)) (.call 2386 (ku c s) fun r1=>.us [(3,2370),(9,2372),(11,2386)] (.ret (!r1)))))) fun v1=>.ite 2374 v1 (.sel 2374 (.ret false)) (.sel 2374 (.reg 0 (.ln 2394 Zaa.row s.Zal (.use 2 2394 (.forR (σ:=Unit) (ρ:=Unit) 2376 26 (s.Zal.length:Int) () (.e [2,3,24,25] (fun _=>[]) [0] 21) (fun i1 s1=>.sel 2376 (.reg 0 (.ix 2388 Zaa.row s.Zal (i1:Int) fun e1=>.use 1 2388 (.cut (β:=Bool) 1 (.e [2,3,24,25,26] (fun v2=>[(47,vB v2)]) [0,25] 45) (.reg 0 (.ix 2390 Zam.row c.Zag (i1:Int) fun e2=>.ite 2378 e2.final (.ite 2380 (e1.Zan == 4) (.us [(3,2390),(7,2378),(12,2380)] (.ret (e1.Zav == zw))) (.us [(3,2390),(7,2378),(12,2380)] (.ret false))) (.us [(3,2390),(7,2378)] (.f1 2392 (.g false) (rfl:false=false) (.use 12 2392 (.ret false)))))) fun v2=>.ite 2382 v2 (.sel 2382 (.ret (.inr ()))) (.sel 2382 (.ret (.inl ()))))))) fun os1=>.case os1 (fun s1=>.sel 2376 (.ret false)) fun y1=>.ret true)))))
theorem Qq (c:Zab) (s:Zad) (zw:Int) (res:Bool) (hd:jC c s zw=some res):APure C0 141 [.agg (Zab.row c),.agg (Zad.row s),.int .i64 zw] (.bool res):=
  Zac.pure (iv:=fun res=>.bool res) (zgc c s zw) (by kernel_rfl) (Zac.run_of hd (by kernel_rfl))
noncomputable def Qr (c:Zab) (s:Zad) (f:Zaj):Option Bool:=
  (Option.bind (forR (σ:=Int×(List Int)×(List Bool)×(List Zaa)) (ρ:=Unit) (f.ZaE.length:Int) (fun i1 s1=>(Option.bind (ze f.ZaE (i1:Int)) fun e1=>(Option.bind (bif (e1 == (-1)) then some false else (Option.bind (zaM c ({day:=s1.1,Zae:=s1.2.1,used:=s1.2.2.1,Zal:=s1.2.2.2}:Zad) e1) fun r1=>some (r1 == f.zw))) fun v1=>(bif v1 then some (.inr ()) else (Option.bind (d_Step c ({day:=s1.1,Zae:=s1.2.1,used:=s1.2.2.1,Zal:=s1.2.2.2}:Zad) e1) fun r2=>(bif (r2.2 == 0) then (Option.bind (bif ((i1:Int) == (IntKind.i64.wrap ((f.ZaE.length:Int) - 1))) then (Option.bind (jC c ({day:=s1.1,Zae:=s1.2.1,used:=s1.2.2.1,Zal:=s1.2.2.2}:Zad) f.zw) fun r3=>some r3) else some false) fun v2=>(bif v2 then some (.inr ()) else some (.inl (r2.1.day,r2.1.Zae,r2.1.used,r2.1.Zal)))) else some (.inr ()))))))) (s.day,s.Zae,s.used,s.Zal)) (Sum.elim (fun (s1:Int×(List Int)×(List Bool)×(List Zaa))=>(Option.bind (jC c ({day:=s1.1,Zae:=s1.2.1,used:=s1.2.2.1,Zal:=s1.2.2.2}:Zad) f.zw) fun r4=>some r4)) (fun (y1:Unit)=>some false)))
noncomputable def zgd (c:Zab) (s:Zad) (f:Zaj):Zac Bool:=
  .reg 1 (.ln 2422 zc f.ZaE (.use 2 2422 (.forR (σ:=Int×(List Int)×(List Bool)×(List Zaa)) (ρ:=Unit) 2346 14 (f.ZaE.length:Int) (s.day,s.Zae,s.used,s.Zal) (.k [3,4,5,12,13] (fun _=>[]) [0,2] (fun s1=>[(1,.rows 4 [[vI s1.1,.imm (.slice (List.map zc s1.2.1)),.imm (.slice (List.map zh s1.2.2.1)),.imm (.slice (List.map Zaa.row s1.2.2.2))]])]) 8 fun _=>(.exp rfl rfl .nil)) (fun i1 s1=>.sel 2346 (.reg 0 (.ix 2408 zc f.ZaE (i1:Int) fun e1=>.use 1 2408 (.cut (β:=Bool) 2 (.e [3,4,5,12,13,14,7,8] (fun v1=>[(29,vB v1)]) [0,1,2] 25) (.reg 0 (.ite 2398 (e1 == (-1)) (.use 3 2399 (.ret false)) (.call 2410 (zjB c ({day:=s1.1,Zae:=s1.2.1,used:=s1.2.2.1,Zal:=s1.2.2.2}:Zad) e1) fun r1=>.us [(3,2399),(6,2410)] (.ret (r1 == f.zw))))) fun v1=>.ite 2400 v1 (.sel 2400 (.ret (.inr ()))) (.sel 2400 (.reg 0 (.call 2412 (kx c ({day:=s1.1,Zae:=s1.2.1,used:=s1.2.2.1,Zal:=s1.2.2.2}:Zad) e1) fun r2=>.use 3 2412 (.ite 2402 (r2.2 == 0) (.sel 2403 (.cut (β:=Bool) 2 (.e [3,4,5,12,13,14,9] (fun v2=>[(51,vB v2)]) [0,1,2,32] 50) (.reg 0 (.ite 2404 ((i1:Int) == (IntKind.i64.wrap ((f.ZaE.length:Int) - 1))) (.call 2414 (Qq c ({day:=s1.1,Zae:=s1.2.1,used:=s1.2.2.1,Zal:=s1.2.2.2}:Zad) f.zw) fun r3=>.ln 2416 zc f.ZaE (.us [(3,2416),(7,2404),(11,2414)] (.ret r3))) (.ln 2418 zc f.ZaE (.us [(3,2418),(7,2404)] (.ret false))))) fun v2=>.ite 2406 v2 (.sel 2406 (.ret (.inr ()))) (.sel 2406 (.ret (.inl (r2.1.day,r2.1.Zae,r2.1.used,r2.1.Zal)))))) (.sel 2403 (.ret (.inr ()))))))))))) fun os1=>.case os1 (fun s1=>.sel 2346 (.reg 0 (.call 2420 (Qq c ({day:=s1.1,Zae:=s1.2.1,used:=s1.2.2.1,Zal:=s1.2.2.2}:Zad) f.zw) fun r4=>.use 4 2420 (.ret r4)))) fun y1=>.ret false)))
theorem zge (c:Zab) (s:Zad) (f:Zaj) (res:Bool) (hd:Qr c s f=some res):APure C0 324 [.agg (Zab.row c),.agg (Zad.row s),.agg (Zaj.row f)] (.bool res):=
  Zac.pure (iv:=fun res=>.bool res) (zgd c s f) (by kernel_rfl) (Zac.run_of hd (by kernel_rfl))
noncomputable def kz (c:Zab) (a:ZaC):Option (List Bool):=
  (Option.bind (vE c a) fun r1=>(Option.bind (mkN 1 (r1.length:Int)) fun k1=>(Option.bind (forR (σ:=(List Bool)) (ρ:=Unit) (r1.length:Int) (fun i1 s1=>(Option.bind (ze r1 (i1:Int)) fun e1=>(Option.bind (zl k1 (i1:Int)) fun k2=>(Option.bind (s1[k2]?) fun e2=>some (.inl (s1.set k2 (e1 == (-1)))))))) (List.replicate k1 false)) (Sum.elim (fun (s1:(List Bool))=>(Option.bind (eqN k1 s1.length) fun g1=>some s1)) (fun _=>none)))))
noncomputable def zjC (c:Zab) (a:ZaC):Zac (List Bool):=
  .reg 1 (.call 2430 (zbY c a) fun r1=>.use 2 2430 (.reg 0 (.b1 2432 (mkN 1 (r1.length:Int)) (fun k1=>.m k1 (zb zh (List.replicate k1 false))) (fun k1 hk1=>(xe zh false hk1)) fun k1=>.ln 2442 zc r1 (.us [(1,2442),(2,2432)] (.reg 0 (.ln 2440 zc r1 (.use 1 2440 (.forR (σ:=(List Bool)) (ρ:=Unit) 2428 17 (r1.length:Int) (List.replicate k1 false) (.k [6,15,16] (fun _=>[]) [] (fun s1=>[(9,.rows 1 (zb zh s1))]) 14 fun _=>(.rows rfl .nil)) (fun i1 s1=>.sel 2428 (.reg 0 (.ix 2434 zc r1 (i1:Int) fun e1=>.use 1 2434 (.reg 0 (.b1 2436 (zl k1 (i1:Int)) (fun k2=>.k k2) (fun k2 hk2=>(zr hk2)) fun k2=>.b1 2438 (s1[k2]?) (fun e2=>.aw (zt (zh e2)) (zb zh (s1.set k2 (e1 == (-1))))) (fun e2 he2=>(zR zh (e1 == (-1)) he2)) fun e2=>.us [(4,2436),(5,2438)] (.ret (.inl (s1.set k2 (e1 == (-1)))))))))) fun os1=>.case os1 (fun s1=>.sel 2428 (.bind (eqN k1 s1.length) (fun _=>[]) (fun _ _=>.nil) fun g2=>.fin [9] (.Zak 9 0 k1) [(9,.rows 1 (zb zh s1))] (.slice (List.map zh s1)) (jj _ _ _ (zE (xf zh 9 1 k1 s1 g2.down rfl) jE)) s1)) fun _=>.none))))))))
theorem zeH (c:Zab) (a:ZaC) (res:List Bool) (hd:kz c a=some res):APure C0 138 [.agg (Zab.row c),.agg (ZaC.row a)] (.slice (List.map zh res)):=
  Zac.pure (iv:=fun res=>.slice (List.map zh res)) (zjC c a) (by kernel_rfl) (Zac.run_of hd (by kernel_rfl))
noncomputable def Qs (c:Zab) (zw:Int):Option Bool:=
  (Option.bind (qX c zw) fun r1=>(Option.bind (bif (r1.2 == 0) then (Option.bind (kz c r1.1) fun r2=>(Option.bind (ze r2 0) fun e1=>some (!e1))) else some false) fun v1=>some v1))
noncomputable def zgf (c:Zab) (zw:Int):Zac Bool:=
  .reg 1 (.call 2444 (VM c zw) fun r1=>.use 2 2444 (.cut (β:=Bool) 1 (.e [] (fun v1=>[(4,vB v1)]) [0,8] 22) (.reg 0 (.ite 2426 (r1.2 == 0) (.call 2446 (zeH c r1.1) fun r2=>.ix 2448 zh r2 0 fun e1=>.us [(3,2426),(5,2446),(6,2448)] (.ret (!e1))) (.use 3 2426 (.ret false)))) fun v1=>.ret v1))
theorem zgg (c:Zab) (zw:Int) (res:Bool) (hd:Qs c zw=some res):APure C0 323 [.agg (Zab.row c),.int .i64 zw] (.bool res):=
  Zac.pure (iv:=fun res=>.bool res) (zgf c zw) (by kernel_rfl) (Zac.run_of hd (by kernel_rfl))
noncomputable def J1 (c:Zab) (f:Zaj):Option Bool:=
  (Option.bind (xy c) fun r1=>(bif (r1.2 == 0) then (bif (f.kind == 2) then (Option.bind (yz r1.1 f.clause) fun r2=>some r2) else (Option.bind (Option.bind (yz r1.1 f.clause) fun r3=>(bif r3 then some false else (Option.bind (vF c r1.1 f.clause) fun r4=>some r4))) fun v1=>some v1)) else some false))
noncomputable def zhV (c:Zab) (f:Zaj):Zac Bool:=
  .reg 1 (.call 2466 (zbX c) fun r1=>.use 1 2466 (.ite 2460 (r1.2 == 0) (.sel 2461 (.ite 2462 (f.kind == 2) (.sel 2462 (.reg 0 (.call 2468 (zaI r1.1 f.clause) fun r2=>.use 3 2468 (.ret r2)))) (.sel 2462 (.cut (β:=Bool) 1 (.e [] (fun v1=>[(4,vB v1)]) [0,1] 28) (.reg 0 (.call 2470 (zaI r1.1 f.clause) fun r3=>.ite 2464 r3 (.us [(3,2470),(6,2465)] (.ret false)) (.call 2472 (zaJ c r1.1 f.clause) fun r4=>.us [(3,2470),(6,2465),(10,2472)] (.ret r4)))) fun v1=>.ret v1)))) (.sel 2461 (.ret false))))
theorem zhW (c:Zab) (f:Zaj) (res:Bool) (hd:J1 c f=some res):APure C0 325 [.agg (Zab.row c),.agg (Zaj.row f)] (.bool res):=
  Zac.pure (iv:=fun res=>.bool res) (zhV c f) (by kernel_rfl) (Zac.run_of hd (by kernel_rfl))
noncomputable def qJ (c:Zab) (f:Zaj):Option Bool:=
  (Option.bind (qz c) fun r1=>(bif (r1.2 == 0) then (Option.bind (bif decide (0≤f.clause) then (bif decide (f.clause < (c.Zag.length:Int)) then some (f.zw == (-1)) else some false) else some false) fun v1=>(bif (f.kind == 1) then (Option.bind (bif decide (0≤f.zw) then (bif decide (f.zw < c.Zap) then (bif (f.clause == (-1)) then (bif (f.other == (-1)) then (Option.bind (Qr c r1.1 f) fun r2=>(bif r2 then (Option.bind (Qs c f.zw) fun r3=>some r3) else some false)) else some false) else some false) else some false) else some false) fun v2=>some v2) else (Option.bind (bif (f.kind == 2) then some (f.kind == 2) else some (f.kind == 3)) fun (v3:Bool)=>(bif v3 then (Option.bind (bif v1 then (bif (f.other == (-1)) then (bif ((f.ZaE.length:Int) == 0) then (Option.bind (J1 c f) fun r4=>some r4) else some false) else some false) else some false) fun v4=>some v4) else (bif (f.kind == 4) then (Option.bind (bif v1 then (bif decide (f.other < 0) then some true else (bif decide ((c.Zag.length:Int)≤f.other) then some true else (Option.bind (xO c f.clause f.other) fun r5=>some (!r5)))) else some true) fun v5=>(bif v5 then some false else (Option.bind (forR (σ:=Int×(List Int)×(List Bool)×(List Zaa)) (ρ:=Unit) (f.ZaE.length:Int) (fun i1 s1=>(Option.bind (ze f.ZaE (i1:Int)) fun e1=>(Option.bind (d_Step c ({day:=s1.1,Zae:=s1.2.1,used:=s1.2.2.1,Zal:=s1.2.2.2}:Zad) e1) fun r6=>(bif (r6.2 == 0) then some (.inl (r6.1.day,r6.1.Zae,r6.1.used,r6.1.Zal)) else some (.inr ()))))) (r1.1.day,r1.1.Zae,r1.1.used,r1.1.Zal)) (Sum.elim (fun (s1:Int×(List Int)×(List Bool)×(List Zaa))=>(Option.bind (vG c ({day:=s1.1,Zae:=s1.2.1,used:=s1.2.2.1,Zal:=s1.2.2.2}:Zad) f.clause f.other) fun r7=>some r7)) (fun (y1:Unit)=>some false))))) else some false))))) else some false))
noncomputable def zhX (c:Zab) (f:Zaj):Zac Bool:=
  .reg 1 (.call 2490 (J0 c) fun r1=>.use 1 2490 (.ite 2330 (r1.2 == 0) (.sel 2331 (.cut (β:=Bool) 1 (.e [2,3,5] (fun v1=>[(7,vB v1)]) [0,1,8] 30) (.reg 0 (.ite 2332 (decide (0≤f.clause)) (.ite 2334 (decide (f.clause < (c.Zag.length:Int))) (.use 4 2332 (.ln 2492 Zam.row c.Zag (.us [(8,2492),(12,2334)] (.ret (f.zw == (-1)))))) (.use 4 2332 (.ln 2494 Zam.row c.Zag (.us [(8,2494),(12,2334)] (.ret false))))) (.use 4 2332 (.f1 2496 (.g false) (rfl:false=false) (.use 12 2496 (.ret false)))))) fun v1=>.ite 2336 (f.kind == 1) (.sel 2336 (.cut (β:=Bool) 1 (.e [] (fun v2=>[(4,vB v2)]) [0,1,8] 67) (.reg 0 (.ite 2338 (decide (0≤f.zw)) (.ite 2340 (decide (f.zw < c.Zap)) (.ite 2342 (f.clause == (-1)) (.ite 2344 (f.other == (-1)) (.call 2498 (zge c r1.1 f) fun r2=>.ite 2424 r2 (.call 2500 (zgg c f.zw) fun r3=>.us [(4,2338),(11,2340),(16,2342),(21,2344),(24,2498),(27,2424),(30,2500)] (.ret r3)) (.us [(4,2338),(11,2340),(16,2342),(21,2344),(24,2498),(27,2424)] (.ret false))) (.us [(4,2338),(11,2340),(16,2342),(21,2344)] (.f1 2502 (.g false) (rfl:false=false) (.use 27 2502 (.ret false))))) (.us [(4,2338),(11,2340),(16,2342)] (.f1 2506 (.g false) (rfl:false=false) (.use 21 2506 (.f1 2504 (.g false) (rfl:false=false) (.use 27 2504 (.ret false))))))) (.us [(4,2338),(11,2340)] (.f1 2512 (.g false) (rfl:false=false) (.use 16 2512 (.f1 2510 (.g false) (rfl:false=false) (.use 21 2510 (.f1 2508 (.g false) (rfl:false=false) (.use 27 2508 (.ret false))))))))) (.use 4 2338 (.f1 2520 (.g false) (rfl:false=false) (.use 11 2520 (.f1 2518 (.g false) (rfl:false=false) (.use 16 2518 (.f1 2516 (.g false) (rfl:false=false) (.use 21 2516 (.f1 2514 (.g false) (rfl:false=false) (.use 27 2514 (.ret false)))))))))))) fun v2=>.ret v2)) (.sel 2336 (.cut (β:=Bool) 1 (.e [2,3,5,7,35] (fun v3=>[(70,vB v3)]) [0,1,8] 36) (.ite 2450 (f.kind == 2) (.sel 2450 (.ret (f.kind == 2))) (.sel 2450 (.ret (f.kind == 3)))) fun v3=>.ite 2452 v3 (.sel 2452 (.cut (β:=Bool) 1 (.e [] (fun v4=>[(4,vB v4)]) [0,1,8] 54) (.reg 0 (.ite 2454 v1 (.ite 2456 (f.other == (-1)) (.ite 2458 ((f.ZaE.length:Int) == 0) (.call 2522 (zhW c f) fun r4=>.us [(2,2454),(7,2456)] (.ln 2524 zc f.ZaE (.us [(9,2524),(13,2458),(15,2522)] (.ret r4)))) (.us [(2,2454),(7,2456)] (.ln 2526 zc f.ZaE (.us [(9,2526),(13,2458)] (.ret false))))) (.us [(2,2454),(7,2456)] (.f1 2528 (.g false) (rfl:false=false) (.use 13 2528 (.ret false))))) (.use 2 2454 (.f1 2532 (.g false) (rfl:false=false) (.use 7 2532 (.f1 2530 (.g false) (rfl:false=false) (.use 13 2530 (.ret false)))))))) fun v4=>.ret v4)) (.sel 2452 (.ite 2474 (f.kind == 4) (.sel 2474 (.cut (β:=Bool) 2 (.e [2,3,5] (fun v5=>[(115,vB v5)]) [0,1,8] 62) (.reg 0 (.ite 2476 v1 (.ite 2478 (decide (f.other < 0)) (.us [(3,2477),(8,2478)] (.f1 2534 (.g true) (rfl:true=true) (.use 16 2534 (.ret true)))) (.ite 2480 (decide ((c.Zag.length:Int)≤f.other)) (.us [(3,2477),(8,2478)] (.ln 2536 Zam.row c.Zag (.us [(12,2536),(16,2480)] (.ret true)))) (.call 2538 (YC c f.clause f.other) fun r5=>.us [(3,2477),(8,2478)] (.ln 2540 Zam.row c.Zag (.us [(12,2540),(16,2480),(21,2538)] (.ret (!r5))))))) (.use 3 2477 (.f1 2544 (.g true) (rfl:true=true) (.use 8 2544 (.f1 2542 (.g true) (rfl:true=true) (.use 16 2542 (.ret true)))))))) fun v5=>.ite 2482 v5 (.sel 2482 (.ret false)) (.sel 2482 (.reg 1 (.ln 2552 zc f.ZaE (.use 2 2552 (.forR (σ:=Int×(List Int)×(List Bool)×(List Zaa)) (ρ:=Unit) 2484 120 (f.ZaE.length:Int) (r1.1.day,r1.1.Zae,r1.1.used,r1.1.Zal) (.k [2,3,8,118,119] (fun _=>[]) [0,1] (fun s1=>[(63,.rows 4 [[vI s1.1,.imm (.slice (List.map zc s1.2.1)),.imm (.slice (List.map zh s1.2.2.1)),.imm (.slice (List.map Zaa.row s1.2.2.2))]])]) 69 fun _=>(.exp rfl rfl .nil)) (fun i1 s1=>.sel 2484 (.reg 0 (.ix 2546 zc f.ZaE (i1:Int) fun e1=>.use 0 2546 (.reg 0 (.call 2548 (kx c ({day:=s1.1,Zae:=s1.2.1,used:=s1.2.2.1,Zal:=s1.2.2.2}:Zad) e1) fun r6=>.use 3 2548 (.ite 2488 (r6.2 == 0) (.sel 2489 (.ret (.inl (r6.1.day,r6.1.Zae,r6.1.used,r6.1.Zal)))) (.sel 2489 (.ret (.inr ()))))))))) fun os1=>.case os1 (fun s1=>.sel 2484 (.reg 0 (.call 2550 (zbZ c ({day:=s1.1,Zae:=s1.2.1,used:=s1.2.2.1,Zal:=s1.2.2.2}:Zad) f.clause f.other) fun r7=>.use 6 2550 (.ret r7)))) fun y1=>.ret false))))))) (.sel 2474 (.ret false)))))))) (.sel 2331 (.ret false))))
theorem yX (c:Zab) (f:Zaj) (res:Bool) (hd:qJ c f=some res):APure C0 322 [.agg (Zab.row c),.agg (Zaj.row f)] (.bool res):=
  Zac.pure (iv:=fun res=>.bool res) (zhX c f) (by kernel_rfl) (Zac.run_of hd (by kernel_rfl))
noncomputable def kA  : Option Bool:=
  (Option.bind (x6 3) fun r1=>(Option.bind (x6 1) fun r2=>(Option.bind (x6 3) fun r3=>(Option.bind (jW ({Zap:=1,Zae:=[0],Zaw:=[],Zai:=[({kind:=1,Zaq:=0,give:=0,to:=(-1),unit:=(-1),lot:=({num:=0,den:=1}:Ratio)}:Zau)],Zag:=[({kind:=1,Zaq:=0,act:=0,need:=1,start:=[],after:=2,Zay:=0,ZaF:=false,final:=true,pause:=(-1),ZaB:=(-1),value:=({num:=0,den:=1}:Ratio),unit:=(-1),to:=(-1),Zaz:=false}:Zam),({kind:=2,Zaq:=0,act:=0,need:=1,start:=[],after:=3,Zay:=0,ZaF:=false,final:=true,pause:=(-1),ZaB:=(-1),value:=({num:=0,den:=1}:Ratio),unit:=(-1),to:=(-1),Zaz:=false}:Zam)],Zat:=5,off:=[]}:Zab)) fun r4=>(Option.bind (jW ({Zap:=1,Zae:=[0],Zaw:=[],Zai:=[({kind:=1,Zaq:=0,give:=0,to:=(-1),unit:=(-1),lot:=({num:=0,den:=1}:Ratio)}:Zau)],Zag:=[({kind:=1,Zaq:=0,act:=0,need:=1,start:=[],after:=2,Zay:=0,ZaF:=false,final:=true,pause:=(-1),ZaB:=(-1),value:=({num:=0,den:=1}:Ratio),unit:=(-1),to:=(-1),Zaz:=false}:Zam),({kind:=2,Zaq:=0,act:=0,need:=1,start:=[],after:=1,Zay:=0,ZaF:=false,final:=true,pause:=(-1),ZaB:=(-1),value:=({num:=0,den:=1}:Ratio),unit:=(-1),to:=(-1),Zaz:=false}:Zam)],Zat:=5,off:=[]}:Zab)) fun r5=>(Option.bind (jW ({Zap:=1,Zae:=[0],Zaw:=[],Zai:=[({kind:=1,Zaq:=0,give:=0,to:=(-1),unit:=(-1),lot:=({num:=0,den:=1}:Ratio)}:Zau)],Zag:=[({kind:=1,Zaq:=0,act:=0,need:=1,start:=[],after:=2,Zay:=0,ZaF:=false,final:=true,pause:=(-1),ZaB:=(-1),value:=({num:=0,den:=1}:Ratio),unit:=(-1),to:=(-1),Zaz:=false}:Zam),({kind:=2,Zaq:=0,act:=0,need:=1,start:=[({clause:=0,is:=4}:CondT)],after:=3,Zay:=0,ZaF:=false,final:=true,pause:=(-1),ZaB:=(-1),value:=({num:=0,den:=1}:Ratio),unit:=(-1),to:=(-1),Zaz:=false}:Zam)],Zat:=5,off:=[]}:Zab)) fun r6=>(Option.bind (bif (r4.2 == 0) then (Option.bind (vH r4.1 ([({kind:=1,zw:=0,clause:=(-1),other:=(-1),ZaE:=[(-1),(-1)]}:Zaj),({kind:=4,zw:=(-1),clause:=0,other:=1,ZaE:=[]}:Zaj)])) fun r7=>(bif r7 then (bif (r5.2 == 0) then (bif ((r5.1.length:Int) == 0) then (bif (r6.2 == 0) then (Option.bind (vH r6.1 ([({kind:=2,zw:=(-1),clause:=1,other:=(-1),ZaE:=[]}:Zaj)])) fun r8=>some r8) else some false) else some false) else some false) else some false)) else some false) fun v1=>(Option.bind (bif v1 then (Option.bind (qJ ({Zap:=1,Zae:=[0],Zaw:=[],Zai:=[({kind:=1,Zaq:=0,give:=0,to:=(-1),unit:=(-1),lot:=({num:=0,den:=1}:Ratio)}:Zau)],Zag:=[({kind:=1,Zaq:=0,act:=0,need:=1,start:=[],after:=2,Zay:=0,ZaF:=false,final:=true,pause:=(-1),ZaB:=(-1),value:=({num:=0,den:=1}:Ratio),unit:=(-1),to:=(-1),Zaz:=false}:Zam),({kind:=2,Zaq:=0,act:=0,need:=1,start:=[],after:=3,Zay:=0,ZaF:=false,final:=true,pause:=(-1),ZaB:=(-1),value:=({num:=0,den:=1}:Ratio),unit:=(-1),to:=(-1),Zaz:=false}:Zam)],Zat:=5,off:=[]}:Zab) ({kind:=1,zw:=0,clause:=(-1),other:=(-1),ZaE:=[(-1),(-1)]}:Zaj)) fun r9=>(bif r9 then (Option.bind (qJ ({Zap:=1,Zae:=[0],Zaw:=[],Zai:=[({kind:=1,Zaq:=0,give:=0,to:=(-1),unit:=(-1),lot:=({num:=0,den:=1}:Ratio)}:Zau)],Zag:=[({kind:=1,Zaq:=0,act:=0,need:=1,start:=[],after:=2,Zay:=0,ZaF:=false,final:=true,pause:=(-1),ZaB:=(-1),value:=({num:=0,den:=1}:Ratio),unit:=(-1),to:=(-1),Zaz:=false}:Zam),({kind:=2,Zaq:=0,act:=0,need:=1,start:=[],after:=3,Zay:=0,ZaF:=false,final:=true,pause:=(-1),ZaB:=(-1),value:=({num:=0,den:=1}:Ratio),unit:=(-1),to:=(-1),Zaz:=false}:Zam)],Zat:=5,off:=[]}:Zab) ({kind:=4,zw:=(-1),clause:=0,other:=1,ZaE:=[]}:Zaj)) fun r10=>(bif r10 then (Option.bind (qJ ({Zap:=1,Zae:=[0],Zaw:=[],Zai:=[({kind:=1,Zaq:=0,give:=0,to:=(-1),unit:=(-1),lot:=({num:=0,den:=1}:Ratio)}:Zau)],Zag:=[({kind:=1,Zaq:=0,act:=0,need:=1,start:=[],after:=2,Zay:=0,ZaF:=false,final:=true,pause:=(-1),ZaB:=(-1),value:=({num:=0,den:=1}:Ratio),unit:=(-1),to:=(-1),Zaz:=false}:Zam),({kind:=2,Zaq:=0,act:=0,need:=1,start:=[({clause:=0,is:=4}:CondT)],after:=3,Zay:=0,ZaF:=false,final:=true,pause:=(-1),ZaB:=(-1),value:=({num:=0,den:=1}:Ratio),unit:=(-1),to:=(-1),Zaz:=false}:Zam)],Zat:=5,off:=[]}:Zab) ({kind:=2,zw:=(-1),clause:=1,other:=(-1),ZaE:=[]}:Zaj)) fun r11=>(bif r11 then (Option.bind (qJ ({Zap:=1,Zae:=[0],Zaw:=[],Zai:=[({kind:=1,Zaq:=0,give:=0,to:=(-1),unit:=(-1),lot:=({num:=0,den:=1}:Ratio)}:Zau)],Zag:=[({kind:=1,Zaq:=0,act:=0,need:=1,start:=[],after:=2,Zay:=0,ZaF:=false,final:=true,pause:=(-1),ZaB:=(-1),value:=({num:=0,den:=1}:Ratio),unit:=(-1),to:=(-1),Zaz:=false}:Zam),({kind:=2,Zaq:=0,act:=0,need:=1,start:=[],after:=1,Zay:=0,ZaF:=false,final:=true,pause:=(-1),ZaB:=(-1),value:=({num:=0,den:=1}:Ratio),unit:=(-1),to:=(-1),Zaz:=false}:Zam)],Zat:=5,off:=[]}:Zab) ({kind:=1,zw:=0,clause:=(-1),other:=(-1),ZaE:=[(-1),(-1)]}:Zaj)) fun r12=>(bif r12 then some false else (Option.bind (qJ ({Zap:=1,Zae:=[0],Zaw:=[],Zai:=[({kind:=1,Zaq:=0,give:=0,to:=(-1),unit:=(-1),lot:=({num:=0,den:=1}:Ratio)}:Zau)],Zag:=[({kind:=1,Zaq:=0,act:=0,need:=1,start:=[],after:=2,Zay:=0,ZaF:=false,final:=true,pause:=(-1),ZaB:=(-1),value:=({num:=0,den:=1}:Ratio),unit:=(-1),to:=(-1),Zaz:=false}:Zam),({kind:=2,Zaq:=0,act:=0,need:=1,start:=[],after:=1,Zay:=0,ZaF:=false,final:=true,pause:=(-1),ZaB:=(-1),value:=({num:=0,den:=1}:Ratio),unit:=(-1),to:=(-1),Zaz:=false}:Zam)],Zat:=5,off:=[]}:Zab) ({kind:=4,zw:=(-1),clause:=0,other:=1,ZaE:=[]}:Zaj)) fun r13=>(bif r13 then some false else (Option.bind (qJ ({Zap:=1,Zae:=[0],Zaw:=[],Zai:=[({kind:=1,Zaq:=0,give:=0,to:=(-1),unit:=(-1),lot:=({num:=0,den:=1}:Ratio)}:Zau)],Zag:=[({kind:=1,Zaq:=0,act:=0,need:=1,start:=[],after:=2,Zay:=0,ZaF:=false,final:=true,pause:=(-1),ZaB:=(-1),value:=({num:=0,den:=1}:Ratio),unit:=(-1),to:=(-1),Zaz:=false}:Zam),({kind:=2,Zaq:=0,act:=0,need:=1,start:=[],after:=3,Zay:=0,ZaF:=false,final:=true,pause:=(-1),ZaB:=(-1),value:=({num:=0,den:=1}:Ratio),unit:=(-1),to:=(-1),Zaz:=false}:Zam)],Zat:=5,off:=[]}:Zab) ({kind:=2,zw:=(-1),clause:=1,other:=(-1),ZaE:=[]}:Zaj)) fun r14=>some (!r14)))))) else some false)) else some false)) else some false)) else some false) fun v2=>some v2))))))))
noncomputable def zgh  : Zac Bool:=
  .reg 1 (.b1 2564 (x6 3) (fun r1=>.c [] 0 (.agg [vI 1,.Zak 21 0 1,.nil,.Zak 23 0 1,.Zak 26 0 2,vI 5,.nil]) [(21,.rows 1 [[vI 0]]),(23,.rows 7 [[vI 1,vI 0,vI 0,vI (-1),vI (-1),vI 0,vI 1]]),(26,.rows 16 [[vI 1,vI 0,vI 0,vI 1,.nil,vI 2,vI 0,vB false,vB true,vI (-1),vI (-1),vI 0,vI 1,vI (-1),vI (-1),vB false],[vI 2,vI 0,vI 0,vI 1,.nil,vI 3,vI 0,vB false,vB true,vI (-1),vI (-1),vI 0,vI 1,vI (-1),vI (-1),vB false]])] 26) (fun r1 hr1=>(zi (zaC 3 r1 hr1) [] 1 (.keep (.keep (.keep .nil))) rhN (rhR (rhR (rhR rhN))))) fun r1=>.b1 2566 (x6 1) (fun r2=>.c [] 0 (.agg [vI 1,.Zak 48 0 1,.nil,.Zak 50 0 1,.Zak 53 0 2,vI 5,.nil]) [(48,.rows 1 [[vI 0]]),(50,.rows 7 [[vI 1,vI 0,vI 0,vI (-1),vI (-1),vI 0,vI 1]]),(53,.rows 16 [[vI 1,vI 0,vI 0,vI 1,.nil,vI 2,vI 0,vB false,vB true,vI (-1),vI (-1),vI 0,vI 1,vI (-1),vI (-1),vB false],[vI 2,vI 0,vI 0,vI 1,.nil,vI 1,vI 0,vB false,vB true,vI (-1),vI (-1),vI 0,vI 1,vI (-1),vI (-1),vB false]])] 26) (fun r2 hr2=>(zi (zaC 1 r2 hr2) [] 28 (.keep (.keep (.keep .nil))) rhN (rhR (rhR (rhR rhN))))) fun r2=>.b1 2568 (x6 3) (fun r3=>.c [] 0 (.agg [vI 1,.Zak 75 0 1,.nil,.Zak 77 0 1,.Zak 80 0 2,vI 5,.nil]) [(75,.rows 1 [[vI 0]]),(77,.rows 7 [[vI 1,vI 0,vI 0,vI (-1),vI (-1),vI 0,vI 1]]),(80,.rows 16 [[vI 1,vI 0,vI 0,vI 1,.nil,vI 2,vI 0,vB false,vB true,vI (-1),vI (-1),vI 0,vI 1,vI (-1),vI (-1),vB false],[vI 2,vI 0,vI 0,vI 1,.nil,vI 3,vI 0,vB false,vB true,vI (-1),vI (-1),vI 0,vI 1,vI (-1),vI (-1),vB false]])] 26) (fun r3 hr3=>(zi (zaC 3 r3 hr3) [] 55 (.keep (.keep (.keep .nil))) rhN (rhR (rhR (rhR rhN))))) fun r3=>.us [(0,2564),(1,2566),(2,2568)] (.weak 2 [ya 21 1 [82] zc [0],ya 23 7 [82] Zau.row [({kind:=1,Zaq:=0,give:=0,to:=(-1),unit:=(-1),lot:=({num:=0,den:=1}:Ratio)}:Zau)],zcO 26 16 [[vI 1,vI 0,vI 0,vI 1,.nil,vI 2,vI 0,vB false,vB true,vI (-1),vI (-1),vI 0,vI 1,vI (-1),vI (-1),vB false],[vI 2,vI 0,vI 0,vI 1,.nil,vI 3,vI 0,vB false,vB true,vI (-1),vI (-1),vI 0,vI 1,vI (-1),vI (-1),vB false]] [[vI 1,vI 0,vI 0,vI 1,.imm (.slice (List.map CondT.row [])),vI 2,vI 0,vB false,vB true,vI (-1),vI (-1),vI 0,vI 1,vI (-1),vI (-1),vB false],[vI 2,vI 0,vI 0,vI 1,.imm (.slice (List.map CondT.row [])),vI 3,vI 0,vB false,vB true,vI (-1),vI (-1),vI 0,vI 1,vI (-1),vI (-1),vB false]] (.cons (.cons (.refl _) (.cons (.refl _) (.cons (.refl _) (.cons (.refl _) (.cons .nil (.cons (.refl _) (.cons (.refl _) (.cons (.refl _) (.cons (.refl _) (.cons (.refl _) (.cons (.refl _) (.cons (.refl _) (.cons (.refl _) (.cons (.refl _) (.cons (.refl _) (.cons (.refl _) .nil)))))))))))))))) (.cons (.cons (.refl _) (.cons (.refl _) (.cons (.refl _) (.cons (.refl _) (.cons .nil (.cons (.refl _) (.cons (.refl _) (.cons (.refl _) (.cons (.refl _) (.cons (.refl _) (.cons (.refl _) (.cons (.refl _) (.cons (.refl _) (.cons (.refl _) (.cons (.refl _) (.cons (.refl _) .nil)))))))))))))))) .nil)),ya 26 16 [82] Zam.row ([({kind:=1,Zaq:=0,act:=0,need:=1,start:=[],after:=2,Zay:=0,ZaF:=false,final:=true,pause:=(-1),ZaB:=(-1),value:=({num:=0,den:=1}:Ratio),unit:=(-1),to:=(-1),Zaz:=false}:Zam),({kind:=2,Zaq:=0,act:=0,need:=1,start:=[],after:=3,Zay:=0,ZaF:=false,final:=true,pause:=(-1),ZaB:=(-1),value:=({num:=0,den:=1}:Ratio),unit:=(-1),to:=(-1),Zaz:=false}:Zam)])] (.reg 0 (.call 2570 (WZ ({Zap:=1,Zae:=[0],Zaw:=[],Zai:=[({kind:=1,Zaq:=0,give:=0,to:=(-1),unit:=(-1),lot:=({num:=0,den:=1}:Ratio)}:Zau)],Zag:=[({kind:=1,Zaq:=0,act:=0,need:=1,start:=[],after:=2,Zay:=0,ZaF:=false,final:=true,pause:=(-1),ZaB:=(-1),value:=({num:=0,den:=1}:Ratio),unit:=(-1),to:=(-1),Zaz:=false}:Zam),({kind:=2,Zaq:=0,act:=0,need:=1,start:=[],after:=3,Zay:=0,ZaF:=false,final:=true,pause:=(-1),ZaB:=(-1),value:=({num:=0,den:=1}:Ratio),unit:=(-1),to:=(-1),Zaz:=false}:Zam)],Zat:=5,off:=[]}:Zab)) fun r4=>.use 1 2570 (.weak 1 [ya 48 1 [83] zc [0],ya 50 7 [83] Zau.row [({kind:=1,Zaq:=0,give:=0,to:=(-1),unit:=(-1),lot:=({num:=0,den:=1}:Ratio)}:Zau)],zcO 53 16 [[vI 1,vI 0,vI 0,vI 1,.nil,vI 2,vI 0,vB false,vB true,vI (-1),vI (-1),vI 0,vI 1,vI (-1),vI (-1),vB false],[vI 2,vI 0,vI 0,vI 1,.nil,vI 1,vI 0,vB false,vB true,vI (-1),vI (-1),vI 0,vI 1,vI (-1),vI (-1),vB false]] [[vI 1,vI 0,vI 0,vI 1,.imm (.slice (List.map CondT.row [])),vI 2,vI 0,vB false,vB true,vI (-1),vI (-1),vI 0,vI 1,vI (-1),vI (-1),vB false],[vI 2,vI 0,vI 0,vI 1,.imm (.slice (List.map CondT.row [])),vI 1,vI 0,vB false,vB true,vI (-1),vI (-1),vI 0,vI 1,vI (-1),vI (-1),vB false]] (.cons (.cons (.refl _) (.cons (.refl _) (.cons (.refl _) (.cons (.refl _) (.cons .nil (.cons (.refl _) (.cons (.refl _) (.cons (.refl _) (.cons (.refl _) (.cons (.refl _) (.cons (.refl _) (.cons (.refl _) (.cons (.refl _) (.cons (.refl _) (.cons (.refl _) (.cons (.refl _) .nil)))))))))))))))) (.cons (.cons (.refl _) (.cons (.refl _) (.cons (.refl _) (.cons (.refl _) (.cons .nil (.cons (.refl _) (.cons (.refl _) (.cons (.refl _) (.cons (.refl _) (.cons (.refl _) (.cons (.refl _) (.cons (.refl _) (.cons (.refl _) (.cons (.refl _) (.cons (.refl _) (.cons (.refl _) .nil)))))))))))))))) .nil)),ya 53 16 [83] Zam.row ([({kind:=1,Zaq:=0,act:=0,need:=1,start:=[],after:=2,Zay:=0,ZaF:=false,final:=true,pause:=(-1),ZaB:=(-1),value:=({num:=0,den:=1}:Ratio),unit:=(-1),to:=(-1),Zaz:=false}:Zam),({kind:=2,Zaq:=0,act:=0,need:=1,start:=[],after:=1,Zay:=0,ZaF:=false,final:=true,pause:=(-1),ZaB:=(-1),value:=({num:=0,den:=1}:Ratio),unit:=(-1),to:=(-1),Zaz:=false}:Zam)])] (.reg 0 (.call 2572 (WZ ({Zap:=1,Zae:=[0],Zaw:=[],Zai:=[({kind:=1,Zaq:=0,give:=0,to:=(-1),unit:=(-1),lot:=({num:=0,den:=1}:Ratio)}:Zau)],Zag:=[({kind:=1,Zaq:=0,act:=0,need:=1,start:=[],after:=2,Zay:=0,ZaF:=false,final:=true,pause:=(-1),ZaB:=(-1),value:=({num:=0,den:=1}:Ratio),unit:=(-1),to:=(-1),Zaz:=false}:Zam),({kind:=2,Zaq:=0,act:=0,need:=1,start:=[],after:=1,Zay:=0,ZaF:=false,final:=true,pause:=(-1),ZaB:=(-1),value:=({num:=0,den:=1}:Ratio),unit:=(-1),to:=(-1),Zaz:=false}:Zam)],Zat:=5,off:=[]}:Zab)) fun r5=>.use 1 2572 (.weak 1 [ya 75 1 [84] zc [0],ya 77 7 [84] Zau.row [({kind:=1,Zaq:=0,give:=0,to:=(-1),unit:=(-1),lot:=({num:=0,den:=1}:Ratio)}:Zau)],ya 91 2 [80] CondT.row [({clause:=0,is:=4}:CondT)],zcO 80 16 [[vI 1,vI 0,vI 0,vI 1,.nil,vI 2,vI 0,vB false,vB true,vI (-1),vI (-1),vI 0,vI 1,vI (-1),vI (-1),vB false],[vI 2,vI 0,vI 0,vI 1,.imm (.slice (List.map CondT.row [({clause:=0,is:=4}:CondT)])),vI 3,vI 0,vB false,vB true,vI (-1),vI (-1),vI 0,vI 1,vI (-1),vI (-1),vB false]] [[vI 1,vI 0,vI 0,vI 1,.imm (.slice (List.map CondT.row [])),vI 2,vI 0,vB false,vB true,vI (-1),vI (-1),vI 0,vI 1,vI (-1),vI (-1),vB false],[vI 2,vI 0,vI 0,vI 1,.imm (.slice (List.map CondT.row [({clause:=0,is:=4}:CondT)])),vI 3,vI 0,vB false,vB true,vI (-1),vI (-1),vI 0,vI 1,vI (-1),vI (-1),vB false]] (.cons (.cons (.refl _) (.cons (.refl _) (.cons (.refl _) (.cons (.refl _) (.cons .nil (.cons (.refl _) (.cons (.refl _) (.cons (.refl _) (.cons (.refl _) (.cons (.refl _) (.cons (.refl _) (.cons (.refl _) (.cons (.refl _) (.cons (.refl _) (.cons (.refl _) (.cons (.refl _) .nil)))))))))))))))) (.cons (.cons (.refl _) (.cons (.refl _) (.cons (.refl _) (.cons (.refl _) (.cons (.refl _) (.cons (.refl _) (.cons (.refl _) (.cons (.refl _) (.cons (.refl _) (.cons (.refl _) (.cons (.refl _) (.cons (.refl _) (.cons (.refl _) (.cons (.refl _) (.cons (.refl _) (.cons (.refl _) .nil)))))))))))))))) .nil)),ya 80 16 [84] Zam.row ([({kind:=1,Zaq:=0,act:=0,need:=1,start:=[],after:=2,Zay:=0,ZaF:=false,final:=true,pause:=(-1),ZaB:=(-1),value:=({num:=0,den:=1}:Ratio),unit:=(-1),to:=(-1),Zaz:=false}:Zam),({kind:=2,Zaq:=0,act:=0,need:=1,start:=[({clause:=0,is:=4}:CondT)],after:=3,Zay:=0,ZaF:=false,final:=true,pause:=(-1),ZaB:=(-1),value:=({num:=0,den:=1}:Ratio),unit:=(-1),to:=(-1),Zaz:=false}:Zam)])] (.reg 0 (.call 2574 (WZ ({Zap:=1,Zae:=[0],Zaw:=[],Zai:=[({kind:=1,Zaq:=0,give:=0,to:=(-1),unit:=(-1),lot:=({num:=0,den:=1}:Ratio)}:Zau)],Zag:=[({kind:=1,Zaq:=0,act:=0,need:=1,start:=[],after:=2,Zay:=0,ZaF:=false,final:=true,pause:=(-1),ZaB:=(-1),value:=({num:=0,den:=1}:Ratio),unit:=(-1),to:=(-1),Zaz:=false}:Zam),({kind:=2,Zaq:=0,act:=0,need:=1,start:=[({clause:=0,is:=4}:CondT)],after:=3,Zay:=0,ZaF:=false,final:=true,pause:=(-1),ZaB:=(-1),value:=({num:=0,den:=1}:Ratio),unit:=(-1),to:=(-1),Zaz:=false}:Zam)],Zat:=5,off:=[]}:Zab)) fun r6=>.use 1 2574 (.cut (β:=Bool) 4 (.e [1,2,3,10,11,12] (fun v1=>[(13,vB v1)]) [82,83,84,116,118,121,124] 155) (.reg 0 (.ite 2258 (r4.2 == 0) (.bind (vH r4.1 ([({kind:=1,zw:=0,clause:=(-1),other:=(-1),ZaE:=[(-1),(-1)]}:Zaj),({kind:=4,zw:=(-1),clause:=0,other:=1,ZaE:=[]}:Zaj)])) (fun r7=>[(2576,([.w [132,116] [.slice (List.map Zaj.row r4.1),.slice (List.map Zaj.row ([({kind:=1,zw:=0,clause:=(-1),other:=(-1),ZaE:=[(-1),(-1)]}:Zaj),({kind:=4,zw:=(-1),clause:=0,other:=1,ZaE:=[]}:Zaj)]))] (.bool r7)],_))]) (fun r7 hr7=>(.c2 (zb0 r4.1 ([({kind:=1,zw:=0,clause:=(-1),other:=(-1),ZaE:=[(-1),(-1)]}:Zaj),({kind:=4,zw:=(-1),clause:=0,other:=1,ZaE:=[]}:Zaj)]) r7 hr7) (jj [.imm (.slice (List.map Zaj.row r4.1)),.Zak 132 0 2] [(132,.rows 5 [[vI 1,vI 0,vI (-1),vI (-1),.Zak 116 0 2],[vI 4,vI (-1),vI 0,vI 1,.nil]]),(116,.rows 1 [[vI (-1)],[vI (-1)]])] [.slice (List.map Zaj.row r4.1),.slice (List.map Zaj.row ([({kind:=1,zw:=0,clause:=(-1),other:=(-1),ZaE:=[(-1),(-1)]}:Zaj),({kind:=4,zw:=(-1),clause:=0,other:=1,ZaE:=[]}:Zaj)]))] (by kernel_rfl)) .nil)) fun r7=>.ite 2320 r7 (.ite 2322 (r5.2 == 0) (.ite 2324 ((r5.1.length:Int) == 0) (.ite 2326 (r6.2 == 0) (.bind (vH r6.1 ([({kind:=2,zw:=(-1),clause:=1,other:=(-1),ZaE:=[]}:Zaj)])) (fun r8=>[(2578,([.w [151] [.slice (List.map Zaj.row r6.1),.slice (List.map Zaj.row ([({kind:=2,zw:=(-1),clause:=1,other:=(-1),ZaE:=[]}:Zaj)]))] (.bool r8)],_))]) (fun r8 hr8=>(.c2 (zb0 r6.1 ([({kind:=2,zw:=(-1),clause:=1,other:=(-1),ZaE:=[]}:Zaj)]) r8 hr8) (jj [.imm (.slice (List.map Zaj.row r6.1)),.Zak 151 0 1] [(151,.rows 5 [[vI 2,vI (-1),vI 1,vI (-1),.nil]])] [.slice (List.map Zaj.row r6.1),.slice (List.map Zaj.row ([({kind:=2,zw:=(-1),clause:=1,other:=(-1),ZaE:=[]}:Zaj)]))] (by kernel_rfl)) .nil)) fun r8=>.us [(3,2258),(7,2576),(10,2320),(14,2322)] (.ln 2580 Zaj.row r5.1 (.us [(15,2580),(19,2324),(23,2326),(26,2578)] (.ret r8)))) (.us [(3,2258),(7,2576),(10,2320),(14,2322)] (.ln 2582 Zaj.row r5.1 (.us [(15,2582),(19,2324),(23,2326)] (.ret false))))) (.us [(3,2258),(7,2576),(10,2320),(14,2322)] (.ln 2586 Zaj.row r5.1 (.us [(15,2586),(19,2324)] (.f1 2584 (.g false) (rfl:false=false) (.use 23 2584 (.ret false))))))) (.us [(3,2258),(7,2576),(10,2320),(14,2322)] (.f1 2590 (.g false) (rfl:false=false) (.use 19 2590 (.f1 2588 (.g false) (rfl:false=false) (.use 23 2588 (.ret false))))))) (.us [(3,2258),(7,2576),(10,2320)] (.f1 2596 (.g false) (rfl:false=false) (.use 14 2596 (.f1 2594 (.g false) (rfl:false=false) (.use 19 2594 (.f1 2592 (.g false) (rfl:false=false) (.use 23 2592 (.ret false))))))))) (.use 3 2258 (.f1 2604 (.g false) (rfl:false=false) (.use 10 2604 (.f1 2602 (.g false) (rfl:false=false) (.use 14 2602 (.f1 2600 (.g false) (rfl:false=false) (.use 19 2600 (.f1 2598 (.g false) (rfl:false=false) (.use 23 2598 (.ret false)))))))))))) fun v1=>.cut (β:=Bool) 1 (.e [] (fun v2=>[(0,vB v2)]) [82,83,84,116,118,121,124] 190) (.reg 0 (.ite 2328 v1 (.bind (qJ ({Zap:=1,Zae:=[0],Zaw:=[],Zai:=[({kind:=1,Zaq:=0,give:=0,to:=(-1),unit:=(-1),lot:=({num:=0,den:=1}:Ratio)}:Zau)],Zag:=[({kind:=1,Zaq:=0,act:=0,need:=1,start:=[],after:=2,Zay:=0,ZaF:=false,final:=true,pause:=(-1),ZaB:=(-1),value:=({num:=0,den:=1}:Ratio),unit:=(-1),to:=(-1),Zaz:=false}:Zam),({kind:=2,Zaq:=0,act:=0,need:=1,start:=[],after:=3,Zay:=0,ZaF:=false,final:=true,pause:=(-1),ZaB:=(-1),value:=({num:=0,den:=1}:Ratio),unit:=(-1),to:=(-1),Zaz:=false}:Zam)],Zat:=5,off:=[]}:Zab) ({kind:=1,zw:=0,clause:=(-1),other:=(-1),ZaE:=[(-1),(-1)]}:Zaj)) (fun r9=>[(2606,([.w [116] [.agg (Zab.row ({Zap:=1,Zae:=[0],Zaw:=[],Zai:=[({kind:=1,Zaq:=0,give:=0,to:=(-1),unit:=(-1),lot:=({num:=0,den:=1}:Ratio)}:Zau)],Zag:=[({kind:=1,Zaq:=0,act:=0,need:=1,start:=[],after:=2,Zay:=0,ZaF:=false,final:=true,pause:=(-1),ZaB:=(-1),value:=({num:=0,den:=1}:Ratio),unit:=(-1),to:=(-1),Zaz:=false}:Zam),({kind:=2,Zaq:=0,act:=0,need:=1,start:=[],after:=3,Zay:=0,ZaF:=false,final:=true,pause:=(-1),ZaB:=(-1),value:=({num:=0,den:=1}:Ratio),unit:=(-1),to:=(-1),Zaz:=false}:Zam)],Zat:=5,off:=[]}:Zab)),.agg (Zaj.row ({kind:=1,zw:=0,clause:=(-1),other:=(-1),ZaE:=[(-1),(-1)]}:Zaj))] (.bool r9)],_))]) (fun r9 hr9=>(.c2 (yX ({Zap:=1,Zae:=[0],Zaw:=[],Zai:=[({kind:=1,Zaq:=0,give:=0,to:=(-1),unit:=(-1),lot:=({num:=0,den:=1}:Ratio)}:Zau)],Zag:=[({kind:=1,Zaq:=0,act:=0,need:=1,start:=[],after:=2,Zay:=0,ZaF:=false,final:=true,pause:=(-1),ZaB:=(-1),value:=({num:=0,den:=1}:Ratio),unit:=(-1),to:=(-1),Zaz:=false}:Zam),({kind:=2,Zaq:=0,act:=0,need:=1,start:=[],after:=3,Zay:=0,ZaF:=false,final:=true,pause:=(-1),ZaB:=(-1),value:=({num:=0,den:=1}:Ratio),unit:=(-1),to:=(-1),Zaz:=false}:Zam)],Zat:=5,off:=[]}:Zab) ({kind:=1,zw:=0,clause:=(-1),other:=(-1),ZaE:=[(-1),(-1)]}:Zaj) r9 hr9) (jj [.agg ([vI 1,.imm (.slice (List.map zc [0])),.nil,.imm (.slice (List.map Zau.row [({kind:=1,Zaq:=0,give:=0,to:=(-1),unit:=(-1),lot:=({num:=0,den:=1}:Ratio)}:Zau)])),.imm (.slice (List.map Zam.row ([({kind:=1,Zaq:=0,act:=0,need:=1,start:=[],after:=2,Zay:=0,ZaF:=false,final:=true,pause:=(-1),ZaB:=(-1),value:=({num:=0,den:=1}:Ratio),unit:=(-1),to:=(-1),Zaz:=false}:Zam),({kind:=2,Zaq:=0,act:=0,need:=1,start:=[],after:=3,Zay:=0,ZaF:=false,final:=true,pause:=(-1),ZaB:=(-1),value:=({num:=0,den:=1}:Ratio),unit:=(-1),to:=(-1),Zaz:=false}:Zam)]))),vI 5,.nil]),.agg [vI 1,vI 0,vI (-1),vI (-1),.Zak 116 0 2]] [(116,.rows 1 [[vI (-1)],[vI (-1)]])] [.agg (Zab.row ({Zap:=1,Zae:=[0],Zaw:=[],Zai:=[({kind:=1,Zaq:=0,give:=0,to:=(-1),unit:=(-1),lot:=({num:=0,den:=1}:Ratio)}:Zau)],Zag:=[({kind:=1,Zaq:=0,act:=0,need:=1,start:=[],after:=2,Zay:=0,ZaF:=false,final:=true,pause:=(-1),ZaB:=(-1),value:=({num:=0,den:=1}:Ratio),unit:=(-1),to:=(-1),Zaz:=false}:Zam),({kind:=2,Zaq:=0,act:=0,need:=1,start:=[],after:=3,Zay:=0,ZaF:=false,final:=true,pause:=(-1),ZaB:=(-1),value:=({num:=0,den:=1}:Ratio),unit:=(-1),to:=(-1),Zaz:=false}:Zam)],Zat:=5,off:=[]}:Zab)),.agg (Zaj.row ({kind:=1,zw:=0,clause:=(-1),other:=(-1),ZaE:=[(-1),(-1)]}:Zaj))] (by kernel_rfl)) .nil)) fun r9=>.ite 2554 r9 (.call 2608 (yX ({Zap:=1,Zae:=[0],Zaw:=[],Zai:=[({kind:=1,Zaq:=0,give:=0,to:=(-1),unit:=(-1),lot:=({num:=0,den:=1}:Ratio)}:Zau)],Zag:=[({kind:=1,Zaq:=0,act:=0,need:=1,start:=[],after:=2,Zay:=0,ZaF:=false,final:=true,pause:=(-1),ZaB:=(-1),value:=({num:=0,den:=1}:Ratio),unit:=(-1),to:=(-1),Zaz:=false}:Zam),({kind:=2,Zaq:=0,act:=0,need:=1,start:=[],after:=3,Zay:=0,ZaF:=false,final:=true,pause:=(-1),ZaB:=(-1),value:=({num:=0,den:=1}:Ratio),unit:=(-1),to:=(-1),Zaz:=false}:Zam)],Zat:=5,off:=[]}:Zab) ({kind:=4,zw:=(-1),clause:=0,other:=1,ZaE:=[]}:Zaj)) fun r10=>.ite 2556 r10 (.call 2610 (yX ({Zap:=1,Zae:=[0],Zaw:=[],Zai:=[({kind:=1,Zaq:=0,give:=0,to:=(-1),unit:=(-1),lot:=({num:=0,den:=1}:Ratio)}:Zau)],Zag:=[({kind:=1,Zaq:=0,act:=0,need:=1,start:=[],after:=2,Zay:=0,ZaF:=false,final:=true,pause:=(-1),ZaB:=(-1),value:=({num:=0,den:=1}:Ratio),unit:=(-1),to:=(-1),Zaz:=false}:Zam),({kind:=2,Zaq:=0,act:=0,need:=1,start:=[({clause:=0,is:=4}:CondT)],after:=3,Zay:=0,ZaF:=false,final:=true,pause:=(-1),ZaB:=(-1),value:=({num:=0,den:=1}:Ratio),unit:=(-1),to:=(-1),Zaz:=false}:Zam)],Zat:=5,off:=[]}:Zab) ({kind:=2,zw:=(-1),clause:=1,other:=(-1),ZaE:=[]}:Zaj)) fun r11=>.ite 2558 r11 (.bind (qJ ({Zap:=1,Zae:=[0],Zaw:=[],Zai:=[({kind:=1,Zaq:=0,give:=0,to:=(-1),unit:=(-1),lot:=({num:=0,den:=1}:Ratio)}:Zau)],Zag:=[({kind:=1,Zaq:=0,act:=0,need:=1,start:=[],after:=2,Zay:=0,ZaF:=false,final:=true,pause:=(-1),ZaB:=(-1),value:=({num:=0,den:=1}:Ratio),unit:=(-1),to:=(-1),Zaz:=false}:Zam),({kind:=2,Zaq:=0,act:=0,need:=1,start:=[],after:=1,Zay:=0,ZaF:=false,final:=true,pause:=(-1),ZaB:=(-1),value:=({num:=0,den:=1}:Ratio),unit:=(-1),to:=(-1),Zaz:=false}:Zam)],Zat:=5,off:=[]}:Zab) ({kind:=1,zw:=0,clause:=(-1),other:=(-1),ZaE:=[(-1),(-1)]}:Zaj)) (fun r12=>[(2612,([.w [116] [.agg (Zab.row ({Zap:=1,Zae:=[0],Zaw:=[],Zai:=[({kind:=1,Zaq:=0,give:=0,to:=(-1),unit:=(-1),lot:=({num:=0,den:=1}:Ratio)}:Zau)],Zag:=[({kind:=1,Zaq:=0,act:=0,need:=1,start:=[],after:=2,Zay:=0,ZaF:=false,final:=true,pause:=(-1),ZaB:=(-1),value:=({num:=0,den:=1}:Ratio),unit:=(-1),to:=(-1),Zaz:=false}:Zam),({kind:=2,Zaq:=0,act:=0,need:=1,start:=[],after:=1,Zay:=0,ZaF:=false,final:=true,pause:=(-1),ZaB:=(-1),value:=({num:=0,den:=1}:Ratio),unit:=(-1),to:=(-1),Zaz:=false}:Zam)],Zat:=5,off:=[]}:Zab)),.agg (Zaj.row ({kind:=1,zw:=0,clause:=(-1),other:=(-1),ZaE:=[(-1),(-1)]}:Zaj))] (.bool r12)],_))]) (fun r12 hr12=>(.c2 (yX ({Zap:=1,Zae:=[0],Zaw:=[],Zai:=[({kind:=1,Zaq:=0,give:=0,to:=(-1),unit:=(-1),lot:=({num:=0,den:=1}:Ratio)}:Zau)],Zag:=[({kind:=1,Zaq:=0,act:=0,need:=1,start:=[],after:=2,Zay:=0,ZaF:=false,final:=true,pause:=(-1),ZaB:=(-1),value:=({num:=0,den:=1}:Ratio),unit:=(-1),to:=(-1),Zaz:=false}:Zam),({kind:=2,Zaq:=0,act:=0,need:=1,start:=[],after:=1,Zay:=0,ZaF:=false,final:=true,pause:=(-1),ZaB:=(-1),value:=({num:=0,den:=1}:Ratio),unit:=(-1),to:=(-1),Zaz:=false}:Zam)],Zat:=5,off:=[]}:Zab) ({kind:=1,zw:=0,clause:=(-1),other:=(-1),ZaE:=[(-1),(-1)]}:Zaj) r12 hr12) (jj [.agg ([vI 1,.imm (.slice (List.map zc [0])),.nil,.imm (.slice (List.map Zau.row [({kind:=1,Zaq:=0,give:=0,to:=(-1),unit:=(-1),lot:=({num:=0,den:=1}:Ratio)}:Zau)])),.imm (.slice (List.map Zam.row ([({kind:=1,Zaq:=0,act:=0,need:=1,start:=[],after:=2,Zay:=0,ZaF:=false,final:=true,pause:=(-1),ZaB:=(-1),value:=({num:=0,den:=1}:Ratio),unit:=(-1),to:=(-1),Zaz:=false}:Zam),({kind:=2,Zaq:=0,act:=0,need:=1,start:=[],after:=1,Zay:=0,ZaF:=false,final:=true,pause:=(-1),ZaB:=(-1),value:=({num:=0,den:=1}:Ratio),unit:=(-1),to:=(-1),Zaz:=false}:Zam)]))),vI 5,.nil]),.agg [vI 1,vI 0,vI (-1),vI (-1),.Zak 116 0 2]] [(116,.rows 1 [[vI (-1)],[vI (-1)]])] [.agg (Zab.row ({Zap:=1,Zae:=[0],Zaw:=[],Zai:=[({kind:=1,Zaq:=0,give:=0,to:=(-1),unit:=(-1),lot:=({num:=0,den:=1}:Ratio)}:Zau)],Zag:=[({kind:=1,Zaq:=0,act:=0,need:=1,start:=[],after:=2,Zay:=0,ZaF:=false,final:=true,pause:=(-1),ZaB:=(-1),value:=({num:=0,den:=1}:Ratio),unit:=(-1),to:=(-1),Zaz:=false}:Zam),({kind:=2,Zaq:=0,act:=0,need:=1,start:=[],after:=1,Zay:=0,ZaF:=false,final:=true,pause:=(-1),ZaB:=(-1),value:=({num:=0,den:=1}:Ratio),unit:=(-1),to:=(-1),Zaz:=false}:Zam)],Zat:=5,off:=[]}:Zab)),.agg (Zaj.row ({kind:=1,zw:=0,clause:=(-1),other:=(-1),ZaE:=[(-1),(-1)]}:Zaj))] (by kernel_rfl)) .nil)) fun r12=>.ite 2560 r12 (.us [(2,2328),(4,2606),(7,2554),(9,2608),(12,2556),(14,2610),(17,2558),(19,2612),(23,2561)] (.f1 2614 (.g false) (rfl:false=false) (.use 29 2614 (.ret false)))) (.call 2616 (yX ({Zap:=1,Zae:=[0],Zaw:=[],Zai:=[({kind:=1,Zaq:=0,give:=0,to:=(-1),unit:=(-1),lot:=({num:=0,den:=1}:Ratio)}:Zau)],Zag:=[({kind:=1,Zaq:=0,act:=0,need:=1,start:=[],after:=2,Zay:=0,ZaF:=false,final:=true,pause:=(-1),ZaB:=(-1),value:=({num:=0,den:=1}:Ratio),unit:=(-1),to:=(-1),Zaz:=false}:Zam),({kind:=2,Zaq:=0,act:=0,need:=1,start:=[],after:=1,Zay:=0,ZaF:=false,final:=true,pause:=(-1),ZaB:=(-1),value:=({num:=0,den:=1}:Ratio),unit:=(-1),to:=(-1),Zaz:=false}:Zam)],Zat:=5,off:=[]}:Zab) ({kind:=4,zw:=(-1),clause:=0,other:=1,ZaE:=[]}:Zaj)) fun r13=>.ite 2562 r13 (.us [(2,2328),(4,2606),(7,2554),(9,2608),(12,2556),(14,2610),(17,2558),(19,2612),(23,2561),(25,2616),(29,2563)] (.ret false)) (.call 2618 (yX ({Zap:=1,Zae:=[0],Zaw:=[],Zai:=[({kind:=1,Zaq:=0,give:=0,to:=(-1),unit:=(-1),lot:=({num:=0,den:=1}:Ratio)}:Zau)],Zag:=[({kind:=1,Zaq:=0,act:=0,need:=1,start:=[],after:=2,Zay:=0,ZaF:=false,final:=true,pause:=(-1),ZaB:=(-1),value:=({num:=0,den:=1}:Ratio),unit:=(-1),to:=(-1),Zaz:=false}:Zam),({kind:=2,Zaq:=0,act:=0,need:=1,start:=[],after:=3,Zay:=0,ZaF:=false,final:=true,pause:=(-1),ZaB:=(-1),value:=({num:=0,den:=1}:Ratio),unit:=(-1),to:=(-1),Zaz:=false}:Zam)],Zat:=5,off:=[]}:Zab) ({kind:=2,zw:=(-1),clause:=1,other:=(-1),ZaE:=[]}:Zaj)) fun r14=>.us [(2,2328),(4,2606),(7,2554),(9,2608),(12,2556),(14,2610),(17,2558),(19,2612),(23,2561),(25,2616),(29,2563),(31,2618)] (.ret (!r14))))) (.us [(2,2328),(4,2606),(7,2554),(9,2608),(12,2556),(14,2610),(17,2558)] (.f1 2622 (.g false) (rfl:false=false) (.use 23 2622 (.f1 2620 (.g false) (rfl:false=false) (.use 29 2620 (.ret false))))))) (.us [(2,2328),(4,2606),(7,2554),(9,2608),(12,2556)] (.f1 2628 (.g false) (rfl:false=false) (.use 17 2628 (.f1 2626 (.g false) (rfl:false=false) (.use 23 2626 (.f1 2624 (.g false) (rfl:false=false) (.use 29 2624 (.ret false))))))))) (.us [(2,2328),(4,2606),(7,2554)] (.f1 2636 (.g false) (rfl:false=false) (.use 12 2636 (.f1 2634 (.g false) (rfl:false=false) (.use 17 2634 (.f1 2632 (.g false) (rfl:false=false) (.use 23 2632 (.f1 2630 (.g false) (rfl:false=false) (.use 29 2630 (.ret false))))))))))) (.use 2 2328 (.f1 2646 (.g false) (rfl:false=false) (.use 7 2646 (.f1 2644 (.g false) (rfl:false=false) (.use 12 2644 (.f1 2642 (.g false) (rfl:false=false) (.use 17 2642 (.f1 2640 (.g false) (rfl:false=false) (.use 23 2640 (.f1 2638 (.g false) (rfl:false=false) (.use 29 2638 (.ret false)))))))))))))) fun v2=>.ret v2)))))))))))
theorem zgi  (res:Bool) (hd:kA  = some res):APure C0 315 [] (.bool res):=
  Zac.pure (iv:=fun res=>.bool res) (zgh ) (by kernel_rfl) (Zac.run_of hd (by kernel_rfl))
noncomputable def kZ (c:Zab) (n:Int):Option Bool:=
  (Option.bind (bif decide (20 < (c.Zae.length:Int)) then some true else (bif decide (30 < (c.Zaw.length:Int)) then some true else (bif decide (70 < (c.Zai.length:Int)) then some true else (bif decide (n < (c.Zag.length:Int)) then some true else some (decide (100 < (c.off.length:Int))))))) fun v1=>(bif v1 then some false else (Option.bind (forR (σ:=Unit) (ρ:=Unit) (c.Zag.length:Int) (fun i1 s1=>(Option.bind (ze c.Zag (i1:Int)) fun e1=>(bif decide (20 < (e1.start.length:Int)) then some (.inr ()) else some (.inl ())))) ()) (Sum.elim (fun (s1:Unit)=>some true) (fun (y1:Unit)=>some false)))))
noncomputable def zeI (c:Zab) (n:Int):Zac Bool:=
  .cut (β:=Bool) 3 (.e [2] (fun v1=>[(34,vB v1)]) [0] 31) (.reg 0 (.ite 2648 (decide (20 < (c.Zae.length:Int))) (.ln 2668 zc c.Zae (.us [(2,2668),(5,2648)] (.f1 2666 (.g true) (rfl:true=true) (.use 11 2666 (.f1 2664 (.g true) (rfl:true=true) (.use 17 2664 (.f1 2662 (.g true) (rfl:true=true) (.use 24 2662 (.ret true))))))))) (.ite 2650 (decide (30 < (c.Zaw.length:Int))) (.ln 2676 zc c.Zae (.us [(2,2676),(5,2648)] (.ln 2674 ZaD.row c.Zaw (.us [(7,2674),(11,2650)] (.f1 2672 (.g true) (rfl:true=true) (.use 17 2672 (.f1 2670 (.g true) (rfl:true=true) (.use 24 2670 (.ret true))))))))) (.ite 2652 (decide (70 < (c.Zai.length:Int))) (.ln 2684 zc c.Zae (.us [(2,2684),(5,2648)] (.ln 2682 ZaD.row c.Zaw (.us [(7,2682),(11,2650)] (.ln 2680 Zau.row c.Zai (.us [(13,2680),(17,2652)] (.f1 2678 (.g true) (rfl:true=true) (.use 24 2678 (.ret true))))))))) (.ite 2654 (decide (n < (c.Zag.length:Int))) (.ln 2692 zc c.Zae (.us [(2,2692),(5,2648)] (.ln 2690 ZaD.row c.Zaw (.us [(7,2690),(11,2650)] (.ln 2688 Zau.row c.Zai (.us [(13,2688),(17,2652)] (.ln 2686 Zam.row c.Zag (.us [(19,2686),(24,2654)] (.ret true))))))))) (.ln 2702 zc c.Zae (.us [(2,2702),(5,2648)] (.ln 2700 ZaD.row c.Zaw (.us [(7,2700),(11,2650)] (.ln 2698 Zau.row c.Zai (.us [(13,2698),(17,2652)] (.ln 2696 Zam.row c.Zag (.us [(19,2696),(24,2654)] (.ln 2694 zc c.off (.use 26 2694 (.ret (decide (100 < (c.off.length:Int))))))))))))))))))) fun v1=>.ite 2656 v1 (.sel 2656 (.ret false)) (.sel 2656 (.forR (σ:=Unit) (ρ:=Unit) 2658 5 (c.Zag.length:Int) () (.e [2] (fun _=>[]) [0] 32) (fun i1 s1=>.reg 0 (.ln 2708 Zam.row c.Zag (.use 3 2708 (.sel 2658 (.reg 0 (.ix 2704 Zam.row c.Zag (i1:Int) fun e1=>.use 3 2704 (.ln 2706 CondT.row e1.start (.use 6 2706 (.ite 2660 (decide (20 < (e1.start.length:Int))) (.sel 2660 (.ret (.inr ()))) (.sel 2660 (.ret (.inl ())))))))))))) fun os1=>.case os1 (fun s1=>.reg 0 (.ln 2710 Zam.row c.Zag (.use 3 2710 (.sel 2658 (.ret true))))) fun y1=>.ret false))
theorem zeJ (c:Zab) (n:Int) (res:Bool) (hd:kZ c n=some res):APure C0 94 [.agg (Zab.row c),.int .i64 n] (.bool res):=
  Zac.pure (iv:=fun res=>.bool res) (zeI c n) (by kernel_rfl) (Zac.run_of hd (by kernel_rfl))
noncomputable def W0 (c:Zab):Option Bool:=
  (Option.bind (Option.bind (kZ c 6) fun r1=>(bif r1 then (bif decide ((c.Zai.length:Int)≤8) then some (decide (c.Zat≤20)) else some false) else some false)) fun v1=>some v1)
noncomputable def zjD (c:Zab):Zac Bool:=
  .cut (β:=Bool) 2 (.e [] (fun v1=>[(2,vB v1)]) [0] 16) (.reg 0 (.call 2716 (zeJ c 6) fun r1=>.ite 2712 r1 (.ite 2714 (decide ((c.Zai.length:Int)≤8)) (.us [(1,2716),(3,2712)] (.ln 2718 Zau.row c.Zai (.us [(5,2718),(9,2714)] (.ret (decide (c.Zat≤20)))))) (.us [(1,2716),(3,2712)] (.ln 2720 Zau.row c.Zai (.us [(5,2720),(9,2714)] (.ret false))))) (.us [(1,2716),(3,2712)] (.f1 2722 (.g false) (rfl:false=false) (.use 9 2722 (.ret false)))))) fun v1=>.ret v1
theorem zjE (c:Zab) (res:Bool) (hd:W0 c=some res):APure C0 97 [.agg (Zab.row c)] (.bool res):=
  Zac.pure (iv:=fun res=>.bool res) (zjD c) (by kernel_rfl) (Zac.run_of hd (by kernel_rfl))
noncomputable def ZJ (l:List Zaj) (kind:Int) (zw:Int) (clause:Int):Option Bool:=
  (Option.bind (forR (σ:=Unit) (ρ:=Unit) (l.length:Int) (fun i1 s1=>(Option.bind (Option.bind (ze l (i1:Int)) fun e1=>(bif (e1.kind == kind) then (bif (e1.zw == zw) then some (e1.clause == clause) else some false) else some false)) fun v1=>(bif v1 then some (.inr ()) else some (.inl ())))) ()) (Sum.elim (fun (s1:Unit)=>some false) (fun (y1:Unit)=>some true)))
noncomputable def zhY (l:List Zaj) (kind:Int) (zw:Int) (clause:Int):Zac Bool:=
  .forR (σ:=Unit) (ρ:=Unit) 2738 9 (l.length:Int) () (.e [0,1,2,3] (fun _=>[]) [] 2) (fun i1 s1=>.reg 0 (.ln 2750 Zaj.row l (.use 2 2750 (.sel 2738 (.cut (β:=Bool) 3 (.e [0,1,2,3,9] (fun v1=>[(40,vB v1)]) [] 31) (.reg 0 (.ix 2746 Zaj.row l (i1:Int) fun e1=>.ite 2740 (e1.kind == kind) (.ite 2742 (e1.zw == zw) (.us [(2,2746),(8,2740),(10,2746),(17,2742),(19,2746)] (.ret (e1.clause == clause))) (.us [(2,2746),(8,2740),(10,2746),(17,2742)] (.ret false))) (.us [(2,2746),(8,2740)] (.f1 2748 (.g false) (rfl:false=false) (.use 17 2748 (.ret false)))))) fun v1=>.ite 2744 v1 (.sel 2744 (.ret (.inr ()))) (.sel 2744 (.ret (.inl ())))))))) fun os1=>.case os1 (fun s1=>.reg 0 (.ln 2752 Zaj.row l (.use 2 2752 (.sel 2738 (.ret false))))) fun y1=>.ret true
theorem zhZ (l:List Zaj) (kind:Int) (zw:Int) (clause:Int) (res:Bool) (hd:ZJ l kind zw clause=some res):APure C0 319 [.slice (List.map Zaj.row l),.int .i64 kind,.int .i64 zw,.int .i64 clause] (.bool res):=
  Zac.pure (iv:=fun res=>.bool res) (zhY l kind zw clause) (by kernel_rfl) (Zac.run_of hd (by kernel_rfl))
noncomputable def Za (a:ZaC) (safe:List Bool):Option (List Int):=
  (Option.bind (mkN 8 (a.Zao.length:Int)) fun k1=>(Option.bind (forR (σ:=(List Int)) (ρ:=Unit) (a.Zao.length:Int) (fun i1 s1=>(Option.bind (Option.bind (ze a.Zao (i1:Int)) fun e1=>(Option.bind (zl k1 (i1:Int)) fun k2=>(Option.bind (s1[k2]?) fun e2=>(Option.bind (bif e1.own then (Option.bind (ze safe (i1:Int)) fun e3=>some (!e3)) else some true) fun v1=>(bif v1 then some (s1.set k2 (-2)) else (Option.bind (ze a.moves (i1:Int)) fun e4=>(Option.bind (forR (σ:=Unit) (ρ:=(List Int)) (e4.length:Int) (fun i2 s2=>(Option.bind (ze e4 (i2:Int)) fun e5=>(Option.bind (ze safe e5.to) fun e6=>(bif e6 then (Option.bind (zl k1 (i1:Int)) fun k3=>(Option.bind ((s1.set k2 (-2))[k3]?) fun e7=>some (.inr ((s1.set k2 (-2)).set k3 e5.step)))) else some (.inl ()))))) ()) (Sum.elim (fun (s2:Unit)=>some (s1.set k2 (-2))) (fun (y1:(List Int))=>some y1))))))))) fun (v2:(List Int))=>some (.inl v2))) (List.replicate k1 0)) (Sum.elim (fun (s1:(List Int))=>(Option.bind (eqN k1 s1.length) fun g1=>some s1)) (fun _=>none))))
noncomputable def zeK (a:ZaC) (safe:List Bool):Zac (List Int):=
  .reg 1 (.b1 2854 (mkN 8 (a.Zao.length:Int)) (fun k1=>.m k1 (zb zc (List.replicate k1 0))) (fun k1 hk1=>(xe zc 0 hk1)) fun k1=>.ln 2878 Zah.row a.Zao (.us [(2,2878),(3,2854)] (.reg 0 (.ln 2876 Zah.row a.Zao (.use 2 2876 (.forR (σ:=(List Int)) (ρ:=Unit) 2836 17 (a.Zao.length:Int) (List.replicate k1 0) (.k [1,2,5,15,16] (fun _=>[]) [0] (fun s1=>[(5,.rows 1 (zb zc s1))]) 11 fun _=>(.rows rfl .nil)) (fun i1 s1=>.sel 2836 (.cut (β:=(List Int)) 1 (.k [1,2,5,15,16,17] (fun _=>[]) [0] (fun v2=>[(5,.rows 1 (zb zc v2))]) 32 fun _=>(.rows rfl .nil)) (.reg 0 (.ix 2856 Zah.row a.Zao (i1:Int) fun e1=>.use 1 2856 (.reg 0 (.b1 2858 (zl k1 (i1:Int)) (fun k2=>.k k2) (fun k2 hk2=>(zr hk2)) fun k2=>.b1 2860 (s1[k2]?) (fun e2=>.aw (zt (zc e2)) (zb zc (s1.set k2 (-2)))) (fun e2 he2=>(zR zc (-2) he2)) fun e2=>.us [(2,2858),(3,2860)] (.cut (β:=Bool) 2 (.k [1,2,5,15,16,17,6] (fun v1=>[(34,vB v1)]) [0,15] (fun _=>[(5,.rows 1 (zb zc (s1.set k2 (-2))))]) 32 fun _=>(.rows rfl .nil)) (.reg 0 (.ite 2846 e1.own (.ix 2862 zh safe (i1:Int) fun e3=>.us [(4,2847),(6,2862)] (.ret (!e3))) (.use 4 2847 (.ret true)))) fun v1=>.ite 2848 v1 (.sel 2848 (.ret (s1.set k2 (-2)))) (.sel 2848 (.reg 0 (.ix 2864 (qB Zar.row) a.moves (i1:Int) fun e4=>.use 3 2864 (.ln 2874 Zar.row e4 (.use 5 2874 (.forR (σ:=Unit) (ρ:=(List Int)) 2850 41 (e4.length:Int) () (.k [1,2,5,15,16,17,6,39,40] (fun _=>[]) [0] (fun _=>[(5,.rows 1 (zb zc (s1.set k2 (-2))))]) 39 fun _=>(.rows rfl .nil)) (fun i2 s2=>.sel 2850 (.reg 0 (.ix 2866 Zar.row e4 (i2:Int) fun e5=>.use 0 2866 (.reg 0 (.ix 2868 zh safe e5.to fun e6=>.use 3 2868 (.ite 2852 e6 (.sel 2852 (.reg 0 (.b1 2870 (zl k1 (i1:Int)) (fun k3=>.k k3) (fun k3 hk3=>(zr hk3)) fun k3=>.b1 2872 ((s1.set k2 (-2))[k3]?) (fun e7=>.aw (zt (zc e7)) (zb zc ((s1.set k2 (-2)).set k3 e5.step))) (fun e7 he7=>(zR zc e5.step he7)) fun e7=>.us [(4,2870),(5,2872)] (.ret (.inr ((s1.set k2 (-2)).set k3 e5.step)))))) (.sel 2852 (.ret (.inl ()))))))))) fun os2=>.case os2 (fun s2=>.sel 2850 (.ret (s1.set k2 (-2)))) fun y1=>.ret y1))))))))))) fun v2=>.ret (.inl v2))) fun os1=>.case os1 (fun s1=>.sel 2836 (.bind (eqN k1 s1.length) (fun _=>[]) (fun _ _=>.nil) fun g2=>.fin [5] (.Zak 5 0 k1) [(5,.rows 1 (zb zc s1))] (.slice (List.map zc s1)) (jj _ _ _ (zE (xf zc 5 1 k1 s1 g2.down rfl) jE)) s1)) fun _=>.none))))))
theorem zeL (a:ZaC) (safe:List Bool) (res:List Int) (hd:Za a safe=some res):APure C0 157 [.agg (ZaC.row a),.slice (List.map zh safe)] (.slice (List.map zc res)):=
  Zac.pure (iv:=fun res=>.slice (List.map zc res)) (zeK a safe) (by kernel_rfl) (Zac.run_of hd (by kernel_rfl))
noncomputable def ZK (c:Zab) (s:Zad) (step:Int):Option Int:=
  (Option.bind (bif (step == (-1)) then some true else (Option.bind (ze c.Zai step) fun e1=>some (e1.Zaq == (-1)))) fun v1=>(bif v1 then some (-1) else (Option.bind (ze c.Zai step) fun e2=>(Option.bind (ze s.Zae e2.Zaq) fun e3=>some e3))))
noncomputable def zh0 (c:Zab) (s:Zad) (step:Int):Zac Int:=
  .cut (β:=Bool) 3 (.e [2,3,4] (fun v1=>[(17,vB v1)]) [0,1] 14) (.reg 0 (.ite 2890 (step == (-1)) (.use 3 2890 (.ret true)) (.ix 2894 Zau.row c.Zai step fun e1=>.us [(3,2890),(6,2894)] (.ret (e1.Zaq == (-1)))))) fun v1=>.ite 2892 v1 (.sel 2892 (.ret (-1))) (.sel 2892 (.reg 0 (.ix 2896 Zau.row c.Zai step fun e2=>.ix 2898 zc s.Zae e2.Zaq fun e3=>.us [(5,2896),(8,2898)] (.ret e3))))
theorem zb1 (c:Zab) (s:Zad) (step:Int) (res:Int) (hd:ZK c s step=some res):APure C0 159 [.agg (Zab.row c),.agg (Zad.row s),.int .i64 step] (.int .i64 res):=
  Zac.pure (iv:=fun res=>.int .i64 res) (zh0 c s step) (by kernel_rfl) (Zac.run_of hd (by kernel_rfl))
noncomputable def yB (a:ZaC) (from_:Int) (move:Int):Option (Int×Bool):=
  (Option.bind (ze a.moves from_) fun e1=>(Option.bind (forR (σ:=Unit) (ρ:=Int) (e1.length:Int) (fun i1 s1=>(Option.bind (ze e1 (i1:Int)) fun e2=>(bif (e2.step == move) then some (.inr e2.to) else some (.inl ())))) ()) (Sum.elim (fun (s1:Unit)=>some (0,false)) (fun (y1:Int)=>some (y1,true)))))
noncomputable def zeM (a:ZaC) (from_:Int) (move:Int):Zac (Int×Bool):=
  .reg 1 (.ix 2906 (qB Zar.row) a.moves from_ fun e1=>.use 3 2906 (.ln 2910 Zar.row e1 (.use 5 2910 (.forR (σ:=Unit) (ρ:=Int) 2902 16 (e1.length:Int) () (.e [2,14,15] (fun _=>[]) [] 10) (fun i1 s1=>.sel 2902 (.reg 0 (.ix 2908 Zar.row e1 (i1:Int) fun e2=>.use 0 2908 (.ite 2904 (e2.step == move) (.sel 2904 (.ret (.inr e2.to))) (.sel 2904 (.ret (.inl ()))))))) fun os1=>.case os1 (fun s1=>.sel 2902 (.ret (0,false))) fun y1=>.ret (y1,true)))))
theorem YD (a:ZaC) (from_:Int) (move:Int) (res:Int×Bool) (hd:yB a from_ move=some res):APure C0 160 [.agg (ZaC.row a),.int .i64 from_,.int .i64 move] (.tuple [.int .i64 res.1,.bool res.2]):=
  Zac.pure (iv:=fun res=>.tuple [.int .i64 res.1,.bool res.2]) (zeM a from_ move) (by kernel_rfl) (Zac.run_of hd (by kernel_rfl))
noncomputable def kB (p1:Int) (p2:List Int) (p3:Int) (p4:Zab) (p5:ZaC) (p6:Int):Option ((List Int)×Int):=
  (Option.bind (zQ (α:=Int) 8 p2 [p1]) fun e1=>(Option.bind (Option.bind (ze p5.Zao p3) fun e2=>(Option.bind (ZK p4 e2.state p1) fun r1=>(bif (r1 == p6) then some p3 else (Option.bind (yB p5 p3 (-2)) fun r2=>some r2.1)))) fun (v1:Int)=>(Option.bind (yB p5 v1 p1) fun r3=>(bif r3.2 then some (e1,r3.1) else some (e1,p3)))))
noncomputable def zjF (p1:Int) (p2:List Int) (p3:Int) (p4:Zab) (p5:ZaC) (p6:Int):Zac ((List Int)×Int):=
  .reg 0 (.b1 2936 (zQ (α:=Int) 8 p2 [p1]) (fun e1=>.a (List.map zc e1) e1.length) (fun e1 he1=>(qv zc 1 8 (fun _=>rfl) he1)) fun e1=>.use 3 2936 (.cut (β:=Int) 2 (.e [0,2,4] (fun v1=>[(7,vI v1)]) [0,1,2,3,4,5] 24) (.reg 0 (.ix 2938 Zah.row p5.Zao p3 fun e2=>.call 2940 (zb1 p4 e2.state p1) fun r1=>.us [(4,2938),(8,2940)] (.ite 2932 (r1 == p6) (.sel 2933 (.ret p3)) (.sel 2933 (.reg 0 (.call 2942 (YD p5 p3 (-2)) fun r2=>.use 2 2942 (.ret r2.1))))))) fun v1=>.reg 0 (.call 2944 (YD p5 v1 p1) fun r3=>.use 3 2944 (.ite 2934 r3.2 (.sel 2934 (.ret (e1,r3.1))) (.sel 2934 (.ret (e1,p3)))))))
theorem zeN (p1:Int) (p2:List Int) (p3:Int) (p4:Zab) (p5:ZaC) (p6:Int) (res:(List Int)×Int) (hd:kB p1 p2 p3 p4 p5 p6=some res):DOk C0 155 [vI p1,.ptr 0 0 0,.ptr 1 0 0,.ptr 2 0 0,.ptr 3 0 0,.ptr 4 0 0] [(0,.rows 1 [[.Zas 5 (List.map zc p2)]]),(1,.rows 1 [[vI p3]]),(2,.rows 7 [zt (Zab.row p4)]),(3,.rows 3 [zt (ZaC.row p5)]),(4,.rows 1 [[vI p6]]),(5,.tip 1 p2.length)] 6 (.tuple []) [(0,.rows 1 [[.Zas 5 (List.map zc res.1)]]),(1,.rows 1 [[vI res.2]]),(2,.rows 7 [zt (Zab.row p4)]),(3,.rows 3 [zt (ZaC.row p5)]),(4,.rows 1 [[vI p6]]),(5,.tip 1 res.1.length)] 0:=
  Zac.det (R:=fun res=>.tuple []) (H:=fun res=>[(0,.rows 1 [[.Zas 5 (List.map zc res.1)]]),(1,.rows 1 [[vI res.2]]),(2,.rows 7 [zt (Zab.row p4)]),(3,.rows 3 [zt (ZaC.row p5)]),(4,.rows 1 [[vI p6]]),(5,.tip 1 res.1.length)]) (zjF p1 p2 p3 p4 p5 p6) (.exp rfl rfl (.exp rfl rfl (.exp rfl rfl (.exp rfl rfl (.exp rfl rfl (.exp rfl rfl .nil)))))) (fun _=>(.exp rfl rfl (.exp rfl rfl (.exp rfl rfl (.exp rfl rfl (.exp rfl rfl (.exp rfl rfl .nil))))))) (by kernel_rfl) (fun _=>by kernel_rfl) (by kernel_rfl) (Zac.run_of hd (by kernel_rfl))
noncomputable def Qt (c:Zab) (zw:Int) (ZaH:List Int):Option ((List Int)×Int):=
  (Option.bind (qX c zw) fun r1=>(bif (r1.2 == 1) then some ([],1) else (Option.bind (forR (σ:=Unit) (ρ:=Unit) (ZaH.length:Int) (fun i1 s1=>(Option.bind (ze ZaH (i1:Int)) fun e1=>(Option.bind (bif decide (e1 < (-1)) then some true else some (decide ((c.Zai.length:Int)≤e1))) fun v1=>(bif v1 then some (.inr ()) else some (.inl ()))))) ()) (Sum.elim (fun (s1:Unit)=>(Option.bind (bif (r1.2 == 0) then some (decide (4000 < (ZaH.length:Int))) else some true) fun v2=>(bif v2 then some ([],3) else (Option.bind (kz c r1.1) fun r2=>(Option.bind (Za r1.1 r2) fun r3=>(Option.bind (α:=(List Int) ⊕ Unit) (Option.bind (forR (σ:=(List Int)×Int) (ρ:=(List Int) ⊕ Unit) (ZaH.length:Int) (fun i2 s2=>(Option.bind (ze ZaH (i2:Int)) fun e2=>(Option.bind (ze r1.1.Zao s2.2) fun e3=>(bif (e3.state.day == c.Zat) then some (.inr (.inl s2.1)) else (Option.bind (Option.bind (iter (σ:=(List Int)×Int) (ρ:=(List Int)×Int) (fun s3=>(Option.bind (Option.bind (ze r3 s3.2) fun e4=>(bif (e4 == (-2)) then some false else some (decide ((s3.1.length:Int)≤4000)))) fun v3=>(bif v3 then (Option.bind (ze r3 s3.2) fun e5=>(Option.bind (kB e5 s3.1 s3.2 c r1.1 zw) fun r4=>some (.inl (r4.1,r4.2)))) else some (.inr (s3.1,s3.2))))) (s2.1,s2.2)) (fun (y2:(List Int)×Int)=>some (y2.1,y2.2))) fun (v4:(List Int)×Int)=>(Option.bind (Option.bind (ze r1.1.Zao v4.2) fun e6=>(Option.bind (ZK c e6.state e2) fun r5=>(bif (r5 == zw) then some (v4.1,v4.2) else (Option.bind (kB e2 v4.1 v4.2 c r1.1 zw) fun r6=>some (r6.1,r6.2))))) fun (v5:(List Int)×Int)=>(bif decide (4000 < (v5.1.length:Int)) then some (.inr (.inr ())) else some (.inl (v5.1,v5.2))))))))) ([],0)) (Sum.elim (fun (s2:(List Int)×Int)=>some (.inl s2.1)) (Sum.elim (fun (y3:(List Int))=>some (.inl y3)) (fun (y4:Unit)=>some (.inr ()))))) (Sum.elim (fun (v6:(List Int))=>some (v6,0)) (fun (y5:Unit)=>some ([],3))))))))) (fun (y1:Unit)=>some ([],1))))))
noncomputable def zgj (c:Zab) (zw:Int) (ZaH:List Int):Zac ((List Int)×Int):=
  .reg 1 (.call 2986 (VM c zw) fun r1=>.use 2 2986 (.ite 2824 (r1.2 == 1) (.sel 2824 (.ret ([],1))) (.sel 2824 (.reg 0 (.ln 3020 zc ZaH (.use 1 3020 (.forR (σ:=Unit) (ρ:=Unit) 2826 28 (ZaH.length:Int) () (.e [2,3,4,8,9,26,27] (fun _=>[]) [0,1,10] 18) (fun i1 s1=>.sel 2826 (.reg 0 (.ix 2988 zc ZaH (i1:Int) fun e1=>.use 0 2988 (.cut (β:=Bool) 1 (.e [2,3,4,8,9,26,27,28] (fun v1=>[(40,vB v1)]) [0,1,10] 31) (.reg 0 (.ite 2828 (decide (e1 < (-1))) (.use 3 2828 (.ret true)) (.use 3 2828 (.ln 2990 Zau.row c.Zai (.use 6 2990 (.ret (decide ((c.Zai.length:Int)≤e1)))))))) fun v1=>.ite 2830 v1 (.sel 2830 (.ret (.inr ()))) (.sel 2830 (.ret (.inl ()))))))) fun os1=>.case os1 (fun s1=>.sel 2826 (.cut (β:=Bool) 2 (.e [2,3,4,8] (fun v2=>[(48,vB v2)]) [0,1,10] 26) (.reg 0 (.ite 2832 (r1.2 == 0) (.use 3 2833 (.ln 2992 zc ZaH (.use 4 2992 (.ret (decide (4000 < (ZaH.length:Int))))))) (.use 3 2833 (.ret true)))) fun v2=>.ite 2834 v2 (.sel 2834 (.ret ([],3))) (.sel 2834 (.reg 0 (.call 2994 (zeH c r1.1) fun r2=>.call 2996 (zeL r1.1 r2) fun r3=>.us [(3,2994),(4,2996)] (.cutO (β:=(List Int)) (γ:=Unit) 4 (.k [13] (fun _=>[]) [] (fun v6=>[(32,.rows 1 [[.Zas 40 (List.map zc v6)]]),(40,.tip 1 v6.length)]) 41 fun _=>(.exp rfl rfl (.exp rfl rfl .nil))) (.reg 0 (.ln 3018 zc ZaH (.use 1 3018 (.weak 1 [JW 32 1 0 0] (.forR (σ:=(List Int)×Int) (ρ:=(List Int) ⊕ Unit) 2880 57 (ZaH.length:Int) ([],0) (.k [3,4,8,12,13,14,15,55,56] (fun _=>[]) [0,1,10] (fun s2=>[(32,.rows 1 [[.Zas 40 (List.map zc s2.1)]]),(33,.rows 1 [[vI s2.2]]),(40,.tip 1 s2.1.length)]) 41 fun _=>(.exp rfl rfl (.exp rfl rfl (.exp rfl rfl .nil)))) (fun i2 s2=>.sel 2880 (.reg 0 (.ix 2998 zc ZaH (i2:Int) fun e2=>.use 0 2998 (.reg 0 (.ix 3000 Zah.row r1.1.Zao s2.2 fun e3=>.use 3 3000 (.ite 2970 (e3.state.day == c.Zat) (.sel 2970 (.ret (.inr (.inl s2.1)))) (.sel 2970 (.cut (β:=(List Int)×Int) 1 (.k [3,4,8,12,13,14,15,55,56,57,17] (fun _=>[]) [0,1,10] (fun v4=>[(32,.rows 1 [[.Zas 40 (List.map zc v4.1)]]),(33,.rows 1 [[vI v4.2]]),(40,.tip 1 v4.1.length)]) 55 fun _=>(.exp rfl rfl (.exp rfl rfl (.exp rfl rfl .nil)))) (.iter (σ:=(List Int)×Int) (ρ:=(List Int)×Int) (s2.1,s2.2) (.k [3,4,8,12,13,14,15,55,56,57,17] (fun _=>[]) [0,1,10] (fun s3=>[(32,.rows 1 [[.Zas 40 (List.map zc s3.1)]]),(33,.rows 1 [[vI s3.2]]),(40,.tip 1 s3.1.length)]) 55 fun _=>(.exp rfl rfl (.exp rfl rfl (.exp rfl rfl .nil)))) (fun s3=>.cut (β:=Bool) 2 (.e [3,4,8,12,13,14,15,55,56,57,17] (fun v3=>[(80,vB v3)]) [0,1,10,32,33,40] 65) (.reg 0 (.ix 3002 zc r3 s3.2 fun e4=>.ite 2978 (e4 == (-2)) (.us [(2,3002),(6,2979)] (.ret false)) (.us [(2,3002),(6,2979)] (.ln 3004 zc s3.1 (.use 7 3004 (.ret (decide ((s3.1.length:Int)≤4000)))))))) fun v3=>.ite 2980 v3 (.sel 2980 (.reg 0 (.ix 3006 zc r3 s3.2 fun e5=>.b1 3008 (kB e5 s3.1 s3.2 c r1.1 zw) (fun r4=>.c [32,33,0,10,1,40] 6 (.tuple []) [(32,.rows 1 [[.Zas 40 (List.map zc r4.1)]]),(33,.rows 1 [[vI r4.2]]),(40,.tip 1 r4.1.length)] 0) (fun r4 hr4=>(zi (zeN e5 s3.1 s3.2 c r1.1 zw r4 hr4) [32,33,0,10,1,40] 70 (.keep (.keep (.drop rfl rfl (.drop rfl rfl (.drop rfl rfl (.keep .nil)))))) (rhR (rhR (rhR (rhR (rhR (rhR rhN)))))) (rhR (rhR (rhR rhN))))) fun r4=>.us [(3,3006),(5,3008)] (.ret (.inl (r4.1,r4.2)))))) (.sel 2980 (.ret (.inr (s3.1,s3.2))))) fun y2=>.ret (y2.1,y2.2)) fun v4=>.cut (β:=(List Int)×Int) 1 (.k [3,4,8,12,13,14,15,55,56,57] (fun _=>[]) [0,1,10] (fun v5=>[(32,.rows 1 [[.Zas 40 (List.map zc v5.1)]]),(33,.rows 1 [[vI v5.2]]),(40,.tip 1 v5.1.length)]) 66 fun _=>(.exp rfl rfl (.exp rfl rfl (.exp rfl rfl .nil)))) (.reg 0 (.ix 3010 Zah.row r1.1.Zao v4.2 fun e6=>.call 3012 (zb1 c e6.state e2) fun r5=>.us [(4,3010),(8,3012)] (.ite 2982 (r5 == zw) (.sel 2983 (.ret (v4.1,v4.2))) (.sel 2983 (.reg 0 (.b1 3014 (kB e2 v4.1 v4.2 c r1.1 zw) (fun r6=>.c [32,33,0,10,1,40] 6 (.tuple []) [(32,.rows 1 [[.Zas 40 (List.map zc r6.1)]]),(33,.rows 1 [[vI r6.2]]),(40,.tip 1 r6.1.length)] 0) (fun r6 hr6=>(zi (zeN e2 v4.1 v4.2 c r1.1 zw r6 hr6) [32,33,0,10,1,40] 68 (.keep (.keep (.drop rfl rfl (.drop rfl rfl (.drop rfl rfl (.keep .nil)))))) (rhR (rhR (rhR (rhR (rhR (rhR rhN)))))) (rhR (rhR (rhR rhN))))) fun r6=>.use 2 3014 (.ret (r6.1,r6.2)))))))) fun v5=>.reg 0 (.ln 3016 zc v5.1 (.use 1 3016 (.ite 2984 (decide (4000 < (v5.1.length:Int))) (.sel 2984 (.ret (.inr (.inr ())))) (.sel 2984 (.ret (.inl (v5.1,v5.2))))))))))))))) fun os2=>.case os2 (fun s2=>.sel 2880 (.ret (.inl s2.1))) fun zy3=>.case zy3 (fun y3=>.ret (.inl y3)) fun y4=>.ret (.inr ())))))) fun o_v6=>.case o_v6 (fun v6=>.ret (v6,0)) fun y5=>.ret ([],3))))))) fun y1=>.ret ([],1))))))))
theorem zgk (c:Zab) (zw:Int) (ZaH:List Int) (res:(List Int)×Int) (hd:Qt c zw ZaH=some res):APure C0 154 [.agg (Zab.row c),.int .i64 zw,.slice (List.map zc ZaH)] (.tuple [.slice (List.map zc res.1),.int .i64 res.2]):=
  Zac.pure (iv:=fun res=>.tuple [.slice (List.map zc res.1),.int .i64 res.2]) (zgj c zw ZaH) (by kernel_rfl) (Zac.run_of hd (by kernel_rfl))
noncomputable def kC (c:Zab) (zw:Int) (ZaH:List Int):Option Bool:=
  (Option.bind (kA) fun r1=>(Option.bind (Option.bind (W0 c) fun r2=>(bif r2 then (bif decide (c.Zap < 1) then some true else some (decide (40 < (ZaH.length:Int)))) else some true)) fun v1=>(bif v1 then some r1 else (Option.bind (yH .i64 (IntKind.i64.wrap zw) c.Zap) fun e1=>(Option.bind (jW c) fun r3=>(Option.bind (bif (r3.2 == 0) then (Option.bind (ZJ r3.1 1 e1 (-1)) fun r4=>some r4) else some true) fun v2=>(bif v2 then some r1 else (Option.bind (Qt c e1 ZaH) fun r5=>(bif (r5.2 == 0) then (Option.bind (qz c) fun r6=>(Option.bind (α:=(Int×Int×(List Int)×(List Bool)×(List Zaa)) ⊕ Unit) (Option.bind (iter (σ:=Int×Int×Int×(List Int)×(List Bool)×(List Zaa)) (ρ:=(Int×Int×(List Int)×(List Bool)×(List Zaa)) ⊕ Unit) (fun s1=>(Option.bind (bif decide (s1.2.1 < (r5.1.length:Int)) then some (s1.1 == 0) else some false) fun v3=>(bif v3 then (Option.bind (jC c ({day:=s1.2.2.1,Zae:=s1.2.2.2.1,used:=s1.2.2.2.2.1,Zal:=s1.2.2.2.2.2}:Zad) e1) fun r7=>(bif r7 then some (.inr (.inr ())) else (Option.bind (ze r5.1 s1.2.1) fun e2=>(Option.bind (d_Step c ({day:=s1.2.2.1,Zae:=s1.2.2.2.1,used:=s1.2.2.2.2.1,Zal:=s1.2.2.2.2.2}:Zad) e2) fun r8=>some (.inl (r8.2,(IntKind.i64.wrap (s1.2.1+1)),r8.1.day,r8.1.Zae,r8.1.used,r8.1.Zal)))))) else some (.inr (.inl (s1.1,s1.2.2.1,s1.2.2.2.1,s1.2.2.2.2.1,s1.2.2.2.2.2)))))) (r6.2,0,r6.1.day,r6.1.Zae,r6.1.used,r6.1.Zal)) (Sum.elim (fun (y1:Int×Int×(List Int)×(List Bool)×(List Zaa))=>some (.inl (y1.1,y1.2.1,y1.2.2.1,y1.2.2.2.1,y1.2.2.2.2))) (fun (y2:Unit)=>some (.inr ())))) (Sum.elim (fun (v4:Int×Int×(List Int)×(List Bool)×(List Zaa))=>(Option.bind (bif r1 then (bif (v4.1 == 0) then (Option.bind (jC c ({day:=v4.2.1,Zae:=v4.2.2.1,used:=v4.2.2.2.1,Zal:=v4.2.2.2.2}:Zad) e1) fun r9=>some (!r9)) else some false) else some false) fun v5=>some v5)) (fun (y3:Unit)=>some false)))) else some r1)))))))))
noncomputable def zaN (c:Zab) (zw:Int) (ZaH:List Int):Zac Bool:=
  .reg 1 (.call 3044 zgi fun r1=>.use 0 3044 (.cut (β:=Bool) 2 (.e [1,2,3,7] (fun v1=>[(29,vB v1)]) [0] 17) (.reg 0 (.call 3046 (zjE c) fun r2=>.ite 2814 r2 (.ite 2816 (decide (c.Zap < 1)) (.us [(1,3046),(4,2815),(9,2816)] (.ret true)) (.us [(1,3046),(4,2815),(9,2816)] (.ln 3048 zc ZaH (.use 10 3048 (.ret (decide (40 < (ZaH.length:Int)))))))) (.us [(1,3046),(4,2815)] (.f1 3050 (.g true) (rfl:true=true) (.use 9 3050 (.ret true)))))) fun v1=>.ite 2818 v1 (.sel 2818 (.ret r1)) (.sel 2818 (.reg 0 (.b1 3052 (yH .i64 (IntKind.i64.wrap zw) c.Zap) (fun e1=>.v (.int .i64 e1)) (fun e1 he1=>(K8 he1)) fun e1=>.use 4 3052 (.reg 0 (.call 3054 (WZ c) fun r3=>.use 1 3054 (.cut (β:=Bool) 2 (.e [2,3,7,8] (fun v2=>[(47,vB v2)]) [0] 37) (.reg 0 (.ite 2820 (r3.2 == 0) (.call 3056 (zhZ r3.1 1 e1 (-1)) fun r4=>.us [(3,2821),(5,3056)] (.ret r4)) (.use 3 2821 (.ret true)))) fun v2=>.ite 2822 v2 (.sel 2822 (.ret r1)) (.sel 2822 (.reg 0 (.call 3058 (zgk c e1 ZaH) fun r5=>.use 3 3058 (.ite 3022 (r5.2 == 0) (.sel 3023 (.reg 0 (.call 3060 (J0 c) fun r6=>.use 1 3060 (.cutO (β:=Int×Int×(List Int)×(List Bool)×(List Zaa)) (γ:=Unit) 1 (.k [3,7,8,13] (fun v4=>[(14,vI v4.1)]) [0] (fun v4=>[(53,.rows 4 [[vI v4.2.1,.imm (.slice (List.map zc v4.2.2.1)),.imm (.slice (List.map zh v4.2.2.2.1)),.imm (.slice (List.map Zaa.row v4.2.2.2.2))]])]) 57 fun _=>(.exp rfl rfl .nil)) (.iter (σ:=Int×Int×Int×(List Int)×(List Bool)×(List Zaa)) (ρ:=(Int×Int×(List Int)×(List Bool)×(List Zaa)) ⊕ Unit) (r6.2,0,r6.1.day,r6.1.Zae,r6.1.used,r6.1.Zal) (.k [3,7,8,11,13] (fun s1=>[(14,vI s1.1),(15,vI s1.2.1)]) [0] (fun s1=>[(53,.rows 4 [[vI s1.2.2.1,.imm (.slice (List.map zc s1.2.2.2.1)),.imm (.slice (List.map zh s1.2.2.2.2.1)),.imm (.slice (List.map Zaa.row s1.2.2.2.2.2))]])]) 57 fun _=>(.exp rfl rfl .nil)) (fun s1=>.cut (β:=Bool) 2 (.e [3,7,8,11,13,14,15] (fun v3=>[(71,vB v3)]) [0,53] 65) (.reg 0 (.ite 3034 (decide (s1.2.1 < (r5.1.length:Int))) (.ln 3066 zc r5.1 (.us [(2,3066),(5,3034)] (.ret (s1.1 == 0)))) (.ln 3068 zc r5.1 (.us [(2,3068),(5,3034)] (.ret false))))) fun v3=>.ite 3036 v3 (.sel 3036 (.reg 0 (.call 3070 (Qq c ({day:=s1.2.2.1,Zae:=s1.2.2.2.1,used:=s1.2.2.2.2.1,Zal:=s1.2.2.2.2.2}:Zad) e1) fun r7=>.use 3 3070 (.ite 3038 r7 (.sel 3038 (.ret (.inr (.inr ())))) (.sel 3038 (.reg 0 (.ix 3072 zc r5.1 s1.2.1 fun e2=>.call 3074 (kx c ({day:=s1.2.2.1,Zae:=s1.2.2.2.1,used:=s1.2.2.2.2.1,Zal:=s1.2.2.2.2.2}:Zad) e2) fun r8=>.us [(4,3072),(6,3074)] (.ret (.inl (r8.2,(IntKind.i64.wrap (s1.2.1+1)),r8.1.day,r8.1.Zae,r8.1.used,r8.1.Zal)))))))))) (.sel 3036 (.ret (.inr (.inl (s1.1,s1.2.2.1,s1.2.2.2.1,s1.2.2.2.2.1,s1.2.2.2.2.2)))))) fun os1=>.case os1 (fun y1=>.ret (.inl (y1.1,y1.2.1,y1.2.2.1,y1.2.2.2.1,y1.2.2.2.2))) fun y2=>.ret (.inr ())) fun o_v4=>.case o_v4 (fun v4=>.cut (β:=Bool) 1 (.e [] (fun v5=>[(6,vB v5)]) [0,53] 70) (.reg 0 (.ite 3040 r1 (.ite 3042 (v4.1 == 0) (.call 3062 (Qq c ({day:=v4.2.1,Zae:=v4.2.2.1,used:=v4.2.2.2.1,Zal:=v4.2.2.2.2}:Zad) e1) fun r9=>.us [(2,3040),(6,3042),(9,3062)] (.ret (!r9))) (.us [(2,3040),(6,3042)] (.ret false))) (.use 2 3040 (.f1 3064 (.g false) (rfl:false=false) (.use 6 3064 (.ret false)))))) fun v5=>.ret v5) fun y3=>.ret false)))) (.sel 3023 (.ret r1))))))))))))))
theorem zaO (c:Zab) (zw:Int) (ZaH:List Int) (res:Bool) (hd:kC c zw ZaH=some res):APure C0 308 [.agg (Zab.row c),.int .u8 zw,.slice (List.map zc ZaH)] (.bool res):=
  Zac.pure (iv:=fun res=>.bool res) (zaN c zw ZaH) (by kernel_rfl) (Zac.run_of hd (by kernel_rfl))
abbrev F29:AV:=.func 29 [] [.ptr 0 0 0,.ptr 1 0 0]
structure GCtx where
  heap:List (Nat×Zaf)
  N:Nat
  P:Nat
  qs:List Nat
structure GOk (i:Nat) (s:List (List Int)×List (Int×Int)×List Int) (c:GCtx):Prop where
  nest:NestOk c.heap c.N c.P c.qs s.1
  min:9≤c.N
  lt:∀ j o,za c.heap j=some o→j < c.N
  p0:c.P≠0
  p1:c.P≠1
  h0:za c.heap 0=some (.rows 1 (zb zc s.2.2))
  h1:za c.heap 1=some (.rows 1 [[F29]])
  h4:za c.heap 4=some (.map (zy IV.i64 IV.i64 s.2.1))
  len:s.1.length≤i
  lens:∀ (k:Nat) (L:List Int),s.1[k]?=some L→L.length≤i
theorem NestOk.push {heap heap':List (Nat×Zaf)} {N N' P P' q:Nat} {qs:List Nat} {Ls:List (List Int)} (h:NestOk heap N P qs Ls) (hlt:∀ j o,za heap j=some o→j < q) (hP:za heap' P'=some (.rows 1 (VB (qs++[q]) (Ls++[[]])))) (hq:za heap' q=some (.tip 1 0))
    (hE:∀ (k q':Nat),qs[k]?=some q'→(za heap q').isSome=true→za heap' q'=za heap q'):NestOk heap' N' P' (qs++[q]) (Ls++[[]]):=by
  have hold:∀ (k q':Nat),qs[k]?=some q'→q' < q:=fun k q' hk=>by
    have hl:k < Ls.length:=by rw [←h.len];exact (List.getElem?_eq_some_iff.1 hk).1
    exact hlt q' _ (h.tip k q' Ls[k] hk (by simp))
  refine ⟨hP,fun k q' L h1 h2 => ?_,by simp [h.len],fun i j q' h1 h2 => ?_⟩
  · rcases Nat.lt_or_ge k qs.length with hk | hk
    · rw [List.getElem?_append_left hk] at h1
      rw [List.getElem?_append_left (by rw [←h.len];exact hk)] at h2
      have:=h.tip k q' L h1 h2
      rw [hE k q' h1 (by rw [this];rfl)];exact this
    · rw [List.getElem?_append_right hk] at h1
      rw [List.getElem?_append_right (by rw [←h.len];exact hk)] at h2
      rw [←h.len] at h2
      cases hd:k - qs.length with
      | zero=>rw [hd] at h1 h2;simp at h1 h2;subst h1 h2;exact hq
      | succ n=>rw [hd] at h1;simp at h1
  · have key:∀ k,(qs++[q])[k]?=some q'→(k < qs.length∧qs[k]?=some q')∨(k=qs.length∧q'=q):=fun k hk=>by
      rcases Nat.lt_or_ge k qs.length with hlt | hge
      · rw [List.getElem?_append_left hlt] at hk;exact .inl ⟨hlt,hk⟩
      · rw [List.getElem?_append_right hge] at hk
        cases hd:k - qs.length with
        | zero=>rw [hd] at hk;simp at hk;exact .inr ⟨by omega,hk.symm⟩
        | succ n=>rw [hd] at hk;simp at hk
    rcases key i h1 with ⟨a1,a2⟩ | ⟨a1,a2⟩<;>rcases key j h2 with ⟨b1,b2⟩ | ⟨b1,b2⟩
    · exact h.nd i j q' a2 b2
    · have:=hold i q' a2;omega
    · have:=hold j q' b2;omega
    · omega
theorem NestOk.frame {heap:List (Nat×Zaf)} {N N' P:Nat} {qs:List Nat} {Ls:List (List Int)} (h:NestOk heap N P qs Ls) (x:Nat) (hx:x≠P) (hx2:∀ sz len,za heap x≠some (.tip sz len)) (o:Zaf):NestOk (zK heap x o) N' P qs Ls:=
  ⟨by rw [z7,if_neg hx];exact h.obj,fun k q L h1 h2=>by
    have:=h.tip k q L h1 h2
    rw [z7,if_neg (fun e=>hx2 _ _ (by rw [e];exact this))];exact this,h.len,h.nd⟩
end Go.Proofs.YtlpmnmbebkdocaaGreatDoor
namespace Go.Proofs.YtlpmnmbebkdocaaGreatDoor
set_option linter.unusedSimpArgs false
set_option linter.unusedVariables false
set_option maxRecDepth 100000
theorem zeO (a b:Int):∃ r,iter (σ:=Int×Int) (ρ:=Int) (fun s2=>(bif (s2.2 == 0) then some (.inr s2.1) else (Option.bind (yH .u64 s2.1 s2.2) fun e2=>some (.inl (s2.2,e2))))) (a,b)=some r:=by
  have:=Yz (f:=fun s2:Int×Int=>(bif (s2.2 == 0) then some (.inr s2.1) else (Option.bind (yH .u64 s2.1 s2.2) fun e2=>some (.inl (s2.2,e2))))) (fun _=>True) (fun _:Int=>True) (fun s=>s.2.natAbs) (fun s _=>by
    by_cases h:s.2=0
    · exact ⟨.inr s.1,by simp [h],trivial⟩
    · refine ⟨.inl (s.2,s.1.tmod s.2),by simp [beq_eq_false_iff_ne.2 h,h,yH],trivial,?_⟩
      show (s.1.tmod s.2).natAbs < s.2.natAbs
      rw [Int.natAbs_tmod]
      exact Nat.mod_lt _ (by omega)) (a,b) trivial
  obtain ⟨r,h,_⟩:=this
  exact ⟨r,h⟩
theorem Y4 (l:List Int) (hl:l.length < 1000):∃ r,yv l=some r:=by
  unfold yv
  obtain ⟨o,h1,h2⟩:=wX (n:=l.length) (s0:=(0:Int)) (f:=(fun i1 s1=>(Option.bind (Option.bind (ze l (i1:Int)) fun e1=>(Option.bind (iter (σ:=Int×Int) (ρ:=Int) (fun s2=>(bif (s2.2 == 0) then some (.inr s2.1) else (Option.bind (yH .u64 s2.1 s2.2) fun e2=>some (.inl (s2.2,e2))))) (s1,e1)) (fun (y1:Int)=>some y1))) fun (v1:Int)=>some (.inl v1)))) (fun _ _=>True) (fun _:Unit=>False) (by omega) trivial (fun i s hi _=>by
    obtain ⟨r,hr⟩:=zeO s l[i]
    exact ⟨.inl r,by simp only [qr,List.getElem?_eq_getElem hi,Option.bind_some,hr],trivial⟩)
  rw [h1]
  cases o with
  | inl s=>exact ⟨s,rfl⟩
  | inr r=>exact h2.elim
theorem Zb (n:Int):∃ r,x8 n=some r:=by
  unfold x8;simp only [zq];exact ⟨_,rfl⟩
noncomputable def rvB (r:Ratio):Bool:=(je r).getD false
theorem Jn (r:Ratio):je r=some (rvB r):=by
  have:∃ b,je r=some b:=by
    unfold je
    obtain ⟨a,ha⟩:=Zb r.num
    obtain ⟨b,hb⟩:=Zb r.den
    obtain ⟨g,hg⟩:=Y4 [a,b] (by simp)
    simp only [ha,hb,hg,zq,ZaJ]
    exact ⟨_,rfl⟩
  obtain ⟨b,hb⟩:=this
  unfold rvB;rw [hb];rfl
def zjG (x:Option (Int×Bool)):Bool:=(x.getD (0,false)).2
theorem zh1 {x:Option (Int×Bool)} {r:Int×Bool} (h:x=some r):x=some (r.1,zjG x):=by subst h;rfl
noncomputable def quB (l:List ZaD):Bool:=zjG (jl l)
theorem W2 (t:List ZaD) (i:Nat) (hi:i < t.length) (ht:t.length < 1000):∃ b,x9 t i=some b:=by
  unfold x9
  have hs:XC t 0 (i:Int)=some (t.take i):=by
    unfold XC;rw [if_pos ⟨by omega,by omega,by omega⟩];simp
  have hf:forR (σ:=Unit) (ρ:=Unit) ((t.take i).length:Int) (fun i1 s1=>(Option.bind (ze (t.take i) (i1:Int)) fun e3=>(bif (e3.name.toList == t[i].name.toList) then some (.inr ()) else some (.inl ())))) ()=some (match (List.range (t.take i).length).find? (fun j=>!(match (t.take i)[j]? with | some e=>!(e.name.toList == t[i].name.toList) | none=>true)) with | none=>.inl () | some j=>.inr ()):=by
    refine q8 _ (fun _=>()) (by simp;omega) (fun j hj => ?_)
    simp only [qr,List.getElem?_eq_getElem hj,ZaJ]
    cases ((t.take i)[j].name.toList == t[i].name.toList)<;>rfl
  rw [zj (List.getElem?_eq_getElem hi)]
  simp only [ZaJ]
  rw [hs]
  simp only [ZaJ]
  rw [hf]
  simp only [Jn,zq,ZaJ,Jh]
  split
  all_goals simp only [Sum.elim_inl,Sum.elim_inr,zq]
  · by_cases hb:0≤t[i].base∧t[i].base < t.length
    · obtain ⟨h1,h2⟩:=qW hb.1 hb.2
      simp only [h2,ZaJ,zq]
      exact ⟨_,rfl⟩
    · by_cases h1:0≤t[i].base
      · have:¬ t[i].base < t.length:=fun h=>hb ⟨h1,h⟩
        simp only [h1,this,decide_true,decide_false,cond_true,ZaI,ZaJ,zq]
        exact ⟨_,rfl⟩
      · simp only [h1,decide_false,ZaI,ZaJ,zq]
        exact ⟨_,rfl⟩
  · exact ⟨_,rfl⟩
theorem W3 (l:List ZaD) (hl:l.length < 1000):∃ k,jl l=some (k,quB l):=by
  have:∃ r,jl l=some r:=by
    unfold jl
    obtain ⟨o,h1,h2⟩:=wX (n:=l.length) (s0:=()) (f:=(fun i1 s1=>(Option.bind (x9 l (i1:Int)) fun r1=>(bif r1 then some (.inl ()) else some (.inr (i1:Int)))))) (fun _ _=>True) (fun _:Int=>True) (by omega) trivial (fun i s hi _=>by
      obtain ⟨b,hb⟩:=W2 l i hi hl
      cases b with
      | true=>exact ⟨.inl (),by simp [hb],trivial⟩
      | false=>exact ⟨.inr i,by simp [hb],trivial⟩)
    rw [h1]
    cases o with
    | inl s=>exact ⟨_,rfl⟩
    | inr r=>exact ⟨_,rfl⟩
  obtain ⟨r,hr⟩:=this
  exact ⟨r.1,zh1 hr⟩
def xZ (nh:Nat) (r:Int):Bool:=decide (0≤r)&&decide (r < nh)
theorem Jo (c:Zab) (r:Int):jf c r=some (xZ c.Zae.length r):=by
  simp only [jf,zq,ZaJ,xZ,Bool.cond_false_right]
noncomputable def zaP (r:Ratio):Bool:=decide (0 < r.num)&&rvB r
theorem W4 (r:Ratio):xg r=some (zaP r):=by
  simp only [xg,Jn,zq,ZaJ,zaP,Bool.cond_false_right]
def J2 (r:Ratio):Bool:=r.num == 0&&(r.den == 1&&true)
noncomputable def VN (nh nu:Nat) (Zap:Int) (a:Zau):Bool:=
  bif xZ nh a.Zaq then
    (bif a.kind == 1 then (a.give == 0&&(a.to == -1||xZ nh a.to))&&(bif a.unit == -1 then J2 a.lot else (decide (0≤a.unit)&&(decide (a.unit < nu)&&zaP a.lot)))
    else (a.kind == 2||a.kind == 3)&&(xZ nh a.give&&(decide (0≤a.to)&&(decide (a.to < Zap)&&(a.unit == -1&&J2 a.lot)))))
  else a.kind == 1&&(a.Zaq == -1&&(a.give == 0&&((a.to == -1||xZ nh a.to)&&(a.unit == -1&&J2 a.lot))))
theorem zc5 (c:Zab) (a:Zau):wY c a=some (VN c.Zae.length c.Zaw.length c.Zap a):=by
  simp only [wY,Jo,W4,yw,ZaJ,zq,VN,J2]
  cases xZ c.Zae.length a.Zaq<;>cases (a.kind == 1)<;>cases (a.give == 0)<;>cases (a.to == -1)<;>cases (xZ c.Zae.length a.to)<;>cases (a.unit == -1) <;>
    simp only [cond_true,ZaI,Bool.not_true,Bool.not_false,ZaJ,Bool.true_or,Bool.false_or,Bool.true_and,Bool.false_and,zq,Bool.cond_false_right,Bool.cond_self,Bool.and_false] <;>
    first | rfl | (cases (a.Zaq == -1)<;>rfl) | (cases (a.kind == 2)<;>rfl)
def yd (Zap:Int) (hs:List Int):Bool:=hs.all fun h=>decide (0≤h)&&decide (h < Zap)
theorem zjH (c:Zab) (hp:c.Zap < 4611686018427387904) (hl:c.Zae.length < 4611686018427387904):WH c=some (yd c.Zap c.Zae):=by
  unfold WH
  have hin:∀ (i:Nat) (hi:i < c.Zae.length),(Option.bind (α:=Unit ⊕ Unit) (Option.bind (forR (σ:=Unit) (ρ:=Unit) c.Zap (fun i2 s2=>(Option.bind (ze c.Zae (i:Int)) fun e1=>(bif (e1 == (i2:Int)) then some (.inr ()) else some (.inl ())))) ()) (Sum.elim (fun (s2:Unit)=>some (.inr ())) (fun (y1:Unit)=>some (.inl ())))) (Sum.elim (fun (v1:Unit)=>some (.inl ())) (fun (y2:Unit)=>some (.inr ())))) =
      some (bif decide (0≤c.Zae[i])&&decide (c.Zae[i] < c.Zap) then (.inl ():Unit ⊕ Unit) else .inr ()):=fun i hi=>by
    obtain ⟨o,h1,h2⟩:=Yy (n:=c.Zap) (s0:=()) (f:=(fun i2 s2=>(Option.bind (ze c.Zae (i:Int)) fun e1=>(bif (e1 == (i2:Int)) then some (.inr ()) else some (.inl ()))))) (fun k _=>∀ j:Nat,j < k→c.Zae[i]≠(j:Int)) (fun _:Unit=>0≤c.Zae[i]∧c.Zae[i] < c.Zap) hp (fun j hj=>by omega) (fun k s hk hI=>by
      simp only [qr,List.getElem?_eq_getElem hi,ZaJ]
      by_cases he:c.Zae[i]=(k:Int)
      · exact ⟨.inr (),by simp [he],by show 0≤c.Zae[i]∧c.Zae[i] < c.Zap;omega⟩
      · refine ⟨.inl (),by rw [beq_eq_false_iff_ne.2 he];rfl,fun j hj => ?_⟩
        rcases Nat.lt_or_ge j k with h | h
        · exact hI j h
        · obtain rfl:j=k:=by omega
          exact he)
    rw [h1]
    cases o with
    | inl s=>
      have:¬ (0≤c.Zae[i]∧c.Zae[i] < c.Zap):=fun h=>h2 c.Zae[i].toNat (by omega) (by omega)
      have hb:(decide (0≤c.Zae[i])&&decide (c.Zae[i] < c.Zap))=false:=by
        rw [Bool.eq_false_iff];simp only [ne_eq,Bool.and_eq_true,decide_eq_true_eq];exact this
      rw [hb];rfl
    | inr r=>
      have hb:(decide (0≤c.Zae[i])&&decide (c.Zae[i] < c.Zap))=true:=by
        simp only [Bool.and_eq_true,decide_eq_true_eq];exact h2
      rw [hb];rfl
  rw [q8 (fun i=>match c.Zae[i]? with | some h=>decide (0≤h)&&decide (h < c.Zap) | none=>true) (fun _=>()) hl (fun i hi=>by
    rw [hin i hi];simp only [List.getElem?_eq_getElem hi])]
  cases hf:(List.range c.Zae.length).find? (fun j=>!(match c.Zae[j]? with | some h=>decide (0≤h)&&decide (h < c.Zap) | none=>true)) with
  | none=>
    simp only [ZaJ,Sum.elim_inl]
    have:yd c.Zap c.Zae=true:=List.all_eq_true.2 fun h hh=>by
      obtain ⟨i,hi,rfl⟩:=List.getElem_of_mem hh
      have:=wD hf i hi
      simpa only [List.getElem?_eq_getElem hi] using this
    rw [this]
  | some k=>
    simp only [ZaJ,Sum.elim_inr]
    obtain ⟨h1,h2,_⟩:=wE hf
    have:yd c.Zap c.Zae=false:=by
      rw [Bool.eq_false_iff]
      intro h
      have:=List.all_eq_true.1 h c.Zae[k] (List.getElem_mem h1)
      simp only [List.getElem?_eq_getElem h1] at h2
      rw [h2] at this;cases this
    rw [this]
noncomputable def Jp (Zat:Int) (off:List Int):Bool:=((Option.bind (forR (σ:=Int) (ρ:=Unit) (off.length:Int) (fun i2 s2=>(Option.bind (ze off (i2:Int)) fun e2=>(Option.bind (bif decide (e2≤s2) then some true else some (decide (Zat≤e2))) fun v2=>(bif v2 then some (.inr ()) else some (.inl e2))))) (-1)) (Sum.elim (fun (s2:Int)=>some true) (fun (y2:Unit)=>some false)))).getD false
theorem zli (Zat:Int) (off:List Int) (hl:off.length < 4611686018427387904):(Option.bind (forR (σ:=Int) (ρ:=Unit) (off.length:Int) (fun i2 s2=>(Option.bind (ze off (i2:Int)) fun e2=>(Option.bind (bif decide (e2≤s2) then some true else some (decide (Zat≤e2))) fun v2=>(bif v2 then some (.inr ()) else some (.inl e2))))) (-1)) (Sum.elim (fun (s2:Int)=>some true) (fun (y2:Unit)=>some false)))=some (Jp Zat off):=by
  obtain ⟨o,h1,h2⟩:=wX (n:=off.length) (s0:=(-1:Int)) (f:=(fun i2 s2=>(Option.bind (ze off (i2:Int)) fun e2=>(Option.bind (bif decide (e2≤s2) then some true else some (decide (Zat≤e2))) fun v2=>(bif v2 then some (.inr ()) else some (.inl e2)))))) (fun _ _=>True) (fun _:Unit=>True) hl trivial (fun i s hi _=>by
    simp only [qr,List.getElem?_eq_getElem hi,ZaJ,zq]
    cases (bif decide (off[i]≤s) then true else decide (Zat≤off[i])) with
    | true=>exact ⟨.inr (),rfl,trivial⟩
    | false=>exact ⟨.inl _,rfl,trivial⟩)
  unfold Jp
  rw [h1]
  cases o<;>rfl
noncomputable def jy (c:Zab):Bool:=
  !(decide (c.Zap < 1))&&(!(decide (c.Zat < 1))&&(!((c.Zae.length:Int) == 0)&&(yd c.Zap c.Zae&&(quB c.Zaw&&(c.Zai.all (VN c.Zae.length c.Zaw.length c.Zap)&&Jp c.Zat c.off)))))
theorem kD {α:Type} {l:List α} {f:Nat→Unit→Option (Unit ⊕ Unit)} (p:α→Bool) (hl:l.length < 4611686018427387904) (h:∀ (i:Nat) (hi:i < l.length),f i ()=some (bif p l[i] then .inl () else .inr ())) :
    forR (l.length:Int) f ()=some (bif l.all p then .inl () else .inr ()):=by
  rw [q8 (fun i=>match l[i]? with | some x=>p x | none=>true) (fun _=>()) hl (fun i hi=>by rw [h i hi];simp only [List.getElem?_eq_getElem hi])]
  cases hf:(List.range l.length).find? (fun j=>!(match l[j]? with | some x=>p x | none=>true)) with
  | none=>
    have:l.all p=true:=List.all_eq_true.2 fun x hx=>by
      obtain ⟨i,hi,rfl⟩:=List.getElem_of_mem hx
      have:=wD hf i hi
      simpa only [List.getElem?_eq_getElem hi] using this
    rw [this];rfl
  | some k=>
    obtain ⟨h1,h2,_⟩:=wE hf
    have:l.all p=false:=by
      rw [Bool.eq_false_iff]
      intro h
      have:=List.all_eq_true.1 h l[k] (List.getElem_mem h1)
      simp only [List.getElem?_eq_getElem h1] at h2
      rw [h2] at this;cases this
    rw [this];rfl
theorem zgl (c:Zab) (hp:c.Zap < 4611686018427387904) (hh:c.Zae.length < 4611686018427387904) (hu:c.Zaw.length < 1000) (ha:c.Zai.length < 1000) (ho:c.off.length < 4611686018427387904):Ql c=some (jy c):=by
  unfold Ql
  obtain ⟨k,hk⟩:=W3 c.Zaw hu
  have hacts:=kD (l:=c.Zai) (f:=(fun i1 s1=>(Option.bind (ze c.Zai (i1:Int)) fun e1=>(Option.bind (wY c e1) fun r3=>(bif r3 then some (.inl ()) else some (.inr ())))))) (VN c.Zae.length c.Zaw.length c.Zap) (by omega) (fun i hi=>by
    simp only [qr,List.getElem?_eq_getElem hi,ZaJ,zc5,zq])
  rw [zjH c hp hh,hk]
  simp only [ZaJ]
  rw [hacts]
  simp only [ZaJ]
  rw [zli c.Zat c.off ho]
  simp only [ZaJ,zq,jy]
  cases decide (c.Zap < 1)<;>cases decide (c.Zat < 1)<;>cases ((c.Zae.length:Int) == 0)<;>cases yd c.Zap c.Zae<;>cases quB c.Zaw<;>cases c.Zai.all (VN c.Zae.length c.Zaw.length c.Zap) <;>
    simp only [cond_true,ZaI,Bool.not_true,Bool.not_false,ZaJ,Bool.true_and,Bool.false_and,Sum.elim_inl,Sum.elim_inr]
def Zl (Zai:List Zau) (a:Int):Bool:=match ze Zai a with
  | some e=>e.kind == 1&&e.Zaq == -1
  | none=>false
theorem YE (c:Zab) (a:Int):j9 c a=some (Zl c.Zai a):=by
  unfold j9 Zl
  by_cases h:0≤a∧a < c.Zai.length
  · obtain ⟨h1,h2⟩:=qW h.1 h.2
    simp only [h2,h.1,h.2,decide_true,cond_true,ZaJ,zq,Bool.cond_false_right]
  · rw [zax h]
    by_cases h1:0≤a
    · have:¬ a < c.Zai.length:=fun h2=>h ⟨h1,h2⟩
      simp only [h1,this,decide_true,decide_false,cond_true,ZaI,ZaJ]
    · simp only [h1,decide_false,ZaI,ZaJ]
def W5 (nh:Nat) (Zai:List Zau) (k:Zam):Bool:=
  bif k.kind == 4 then k.Zaq == -1&&(k.need == 1&&(k.Zay == 0 && !k.final))
  else (xZ nh k.Zaq && !Zl Zai k.act)&&(bif k.kind == 1 then decide (1≤k.need)&&(decide (k.need≤9)&&(decide (0≤k.Zay)&&decide (k.Zay≤400)))
    else bif k.kind == 2 then k.need == 1&&k.Zay == 0 else k.kind == 3&&(k.need == 1&&(k.Zay == 0 && !k.final)))
theorem zby (c:Zab) (k:Zam):yb c k=some (W5 c.Zae.length c.Zai k):=by
  simp only [yb,Jo,YE,ZaJ,zq,W5]
  cases (k.kind == 4)<;>cases xZ c.Zae.length k.Zaq<;>cases Zl c.Zai k.act<;>cases (k.kind == 1)<;>cases (k.kind == 2)<;>cases (k.kind == 3) <;>
    simp only [cond_true,ZaI,Bool.not_true,Bool.not_false,ZaJ,Bool.true_and,Bool.false_and,Bool.and_false,Bool.cond_false_right,zq]
def W6 (n:Nat) (i:Int) (s:CondT):Bool := !(decide (s.clause < 0))&&(!(decide ((n:Int)≤s.clause))&&(!(s.clause == i)&&(!(decide (s.is < 1)) && !(decide (4 < s.is)))))
noncomputable def zeP (nh:Nat) (Zaw:List ZaD) (k:Zam):Bool:=
  (k.kind == 1||k.kind == 2)&&((match ze Zaw k.unit with | some u=>u.kind == 2 | none=>false)&&(zaP k.value&&xZ nh k.to))
def Jq (Zai:List Zau) (k:Zam):Bool:=(k.pause == -1&&k.ZaB == -1)||(!(k.pause == k.ZaB)&&(Zl Zai k.pause&&Zl Zai k.ZaB))
noncomputable def vJ (nh:Nat) (Zaw:List ZaD) (Zai:List Zau) (n:Nat) (i:Int) (k:Zam):Bool:=
  (!(decide (k.act < 0))&&(!(decide ((Zai.length:Int)≤k.act))&&(!(decide (k.after < 1)) && !(decide (400 < k.after))))) &&
  ((W5 nh Zai k && !(decide (8 < (k.start.length:Int)))) &&
  (k.start.all (W6 n i) &&
  (Jq Zai k &&
  (bif k.unit == -1 then J2 k.value&&k.to == -1 else zeP nh Zaw k))))
theorem Y5 (c:Zab) (i:Nat) (k:Zam) (hk:c.Zag[i]?=some k) (hs:k.start.length < 4611686018427387904):wh c i=some (vJ c.Zae.length c.Zaw c.Zai c.Zag.length i k):=by
  unfold wh
  have hst:=kD (l:=k.start) (f:=(fun i1 s1=>(Option.bind (ze k.start (i1:Int)) fun e2=>(Option.bind (bif decide (e2.clause < 0) then some true else (bif decide ((c.Zag.length:Int)≤e2.clause) then some true else (bif (e2.clause == (i:Int)) then some true else (bif decide (e2.is < 1) then some true else some (decide (4 < e2.is)))))) fun v3=>(bif v3 then some (.inr ()) else some (.inl ())))))) (W6 c.Zag.length i) hs (fun j hj=>by
    simp only [qr,List.getElem?_eq_getElem hj,ZaJ,zq,W6]
    cases decide (k.start[j].clause < 0)<;>cases decide ((c.Zag.length:Int)≤k.start[j].clause)<;>cases (k.start[j].clause == (i:Int))<;>cases decide (k.start[j].is < 1)<;>cases decide (4 < k.start[j].is)<;>rfl)
  have hu:(bif decide (0≤k.unit) then (bif decide (k.unit < (c.Zaw.length:Int)) then (Option.bind (ze c.Zaw k.unit) fun e3=>(bif (e3.kind == 2) then (Option.bind (xg k.value) fun r5=>(bif r5 then (Option.bind (jf c k.to) fun r6=>some r6) else some false)) else some false)) else some false) else some false) =
      some ((match ze c.Zaw k.unit with | some u=>u.kind == 2 | none=>false)&&(zaP k.value&&xZ c.Zae.length k.to)):=by
    by_cases h:0≤k.unit∧k.unit < c.Zaw.length
    · obtain ⟨h1,h2⟩:=qW h.1 h.2
      simp only [h2,h.1,h.2,decide_true,cond_true,ZaJ,zq,Bool.cond_false_right,W4,Jo]
    · rw [zax h]
      by_cases h1:0≤k.unit
      · have:¬ k.unit < c.Zaw.length:=fun h2=>h ⟨h1,h2⟩
        simp only [h1,this,decide_true,decide_false,cond_true,ZaI,Bool.false_and]
      · simp only [h1,decide_false,ZaI,Bool.false_and]
  have hp:(Option.bind (bif (k.pause == (-1)) then some (!(k.ZaB == (-1))) else some true) fun v4=>(bif v4 then (Option.bind (bif (k.pause == k.ZaB) then some true else (Option.bind (j9 c k.pause) fun r2=>(bif r2 then (Option.bind (j9 c k.ZaB) fun r3=>some (!r3)) else some true))) fun v5=>(bif v5 then some (.inr ()) else some (.inl ()))) else some (.inl ()))) =
      some (bif Jq c.Zai k then (.inl ():Unit ⊕ Unit) else .inr ()):=by
    simp only [YE,Jq,zq,ZaJ]
    cases (k.pause == -1)<;>cases (k.ZaB == -1)<;>cases (k.pause == k.ZaB)<;>cases Zl c.Zai k.pause<;>cases Zl c.Zai k.ZaB<;>rfl
  rw [zj hk]
  simp only [ZaJ]
  rw [hst]
  simp only [ZaJ]
  rw [hp,hu]
  simp only [ZaJ,zby,yw,zq,vJ,zeP,J2]
  cases decide (k.act < 0)<;>simp only [cond_true,ZaI,Bool.not_true,Bool.not_false,Bool.true_and,Bool.false_and,ZaJ]
  cases decide ((c.Zai.length:Int)≤k.act)<;>simp only [cond_true,ZaI,Bool.not_true,Bool.not_false,Bool.true_and,Bool.false_and,ZaJ]
  cases decide (k.after < 1)<;>simp only [cond_true,ZaI,Bool.not_true,Bool.not_false,Bool.true_and,Bool.false_and,ZaJ]
  cases decide (400 < k.after)<;>simp only [cond_true,ZaI,Bool.not_true,Bool.not_false,Bool.true_and,Bool.false_and,ZaJ]
  cases W5 c.Zae.length c.Zai k<;>simp only [cond_true,ZaI,Bool.not_true,Bool.not_false,Bool.true_and,Bool.false_and,ZaJ]
  cases decide (8 < (k.start.length:Int))<;>simp only [cond_true,ZaI,Bool.not_true,Bool.not_false,Bool.true_and,Bool.false_and,ZaJ]
  cases k.start.all (W6 c.Zag.length i)<;>simp only [cond_true,ZaI,Bool.not_true,Bool.not_false,Bool.true_and,Bool.false_and,ZaJ,Sum.elim_inl,Sum.elim_inr]
  cases Jq c.Zai k<;>simp only [cond_true,ZaI,Bool.true_and,Bool.false_and,Sum.elim_inl,Sum.elim_inr]
  cases (k.kind == 1)<;>cases (k.kind == 2)<;>simp only [cond_true,ZaI,Bool.cond_false_right,Bool.true_or,Bool.or_true,Bool.or_self,Bool.true_and,Bool.false_and]
def kE (c:Zab):Bool:=decide (12 < c.Zap)||(decide (2000 < c.Zat)||(decide (12 < (c.Zae.length:Int))||(decide (20 < (c.Zaw.length:Int))||(decide (60 < (c.Zai.length:Int))||decide (400 < (c.Zag.length:Int))))))
noncomputable def clB (c:Zab) (i:Nat):Bool:=match c.Zag[i]? with
  | some k=>vJ c.Zae.length c.Zaw c.Zai c.Zag.length i k
  | none=>true
noncomputable def qg (c:Zab):Int×Int:=
  bif kE c then (3,-1) else bif jy c then (match (List.range c.Zag.length).find? (fun j=>!clB c j) with | none=>(0,-1) | some j=>(1,(j:Int))) else (1,-1)
theorem zh2 (c:Zab) (ho:c.off.length < 4611686018427387904) (hs:∀ k∈c.Zag,k.start.length < 4611686018427387904):vC c=some (qg c):=by
  unfold vC qg
  simp only [zq,Bool.cond_true_left,ZaJ]
  show (bif kE c then _ else _)=_
  cases hlim:kE c with
  | true=>rfl
  | false=>
    simp only [kE,Bool.or_eq_false_iff,decide_eq_false_iff_not] at hlim
    obtain ⟨h1,h2,h3,h4,h5,h6⟩:=hlim
    simp only [ZaI,zgl c (by omega) (by omega) (by omega) (by omega) ho,ZaJ]
    cases jy c with
    | false=>rfl
    | true=>
      simp only [cond_true]
      rw [q8 (fun i=>clB c i) (fun i=>(i:Int)) (by omega) (fun i hi=>by
        rw [Y5 c i c.Zag[i] (List.getElem?_eq_getElem hi) (hs _ (List.getElem_mem hi))]
        simp only [ZaJ,clB,List.getElem?_eq_getElem hi,zq])]
      cases (List.range c.Zag.length).find? (fun j=>!clB c j)<;>rfl
end Go.Proofs.YtlpmnmbebkdocaaGreatDoor
namespace Go.Proofs.YtlpmnmbebkdocaaGreatDoor
open Go.RowKit
set_option linter.unusedSimpArgs false
set_option linter.unusedVariables false
set_option maxRecDepth 100000
theorem LOk.lt {α:Type} {n:Nat} {p:α→Prop} {l:List α} (h:LOk n p l) (hn:0 < n):l.length < 4611686018427387904:=by
  have h1:=h.1
  have h2:reachBytes≤140737488355328:=by decide +kernel
  have:=Nat.le_mul_of_pos_right l.length hn
  omega
theorem Zab.Ok.valid {c:Zab} (hc:c.Ok):vC c=some (qg c):=
  zh2 c (hc.off.lt (by omega)) (fun k hk=>(hc.Zag.2 k hk).start.lt (by omega))
inductive ValidIs (c:Zab):Int×Int→Prop where
  | lim (h:kE c=true):ValidIs c (3,-1)
  | frame (h:kE c=false) (hf:jy c=false):ValidIs c (1,-1)
  | bad (h:kE c=false) (hf:jy c=true) (i:Nat) (hi:i < c.Zag.length) (hb:clB c i=false) (hl:∀ j,j < i→clB c j=true):ValidIs c (1,(i:Int))
  | ok (h:kE c=false) (hf:jy c=true) (ha:∀ j,j < c.Zag.length→clB c j=true):ValidIs c (0,-1)
theorem zgm (c:Zab):ValidIs c (qg c):=by
  unfold qg
  cases h:kE c with
  | true=>exact .lim h
  | false=>
    simp only [ZaI]
    cases hf:jy c with
    | false=>exact .frame h hf
    | true=>
      simp only [cond_true]
      cases hq:(List.range c.Zag.length).find? (fun j=>!clB c j) with
      | none=>exact .ok h hf (wD hq)
      | some j=>obtain ⟨h1,h2,h3⟩:=wE hq;exact .bad h hf j h1 h2 h3
theorem yC {c:Zab} (h:(qg c).1=0):kE c=false∧jy c=true∧(∀ j,j < c.Zag.length→clB c j=true)∧qg c=(0,-1):=by
  have hv:=zgm c
  generalize hr:qg c=r at h hv ⊢
  cases hv with
  | lim _=>simp at h
  | frame _ _=>simp at h
  | bad _ _ i _ _ _=>simp at h
  | ok a b d=>exact ⟨a,b,d,rfl⟩
end Go.Proofs.YtlpmnmbebkdocaaGreatDoor
