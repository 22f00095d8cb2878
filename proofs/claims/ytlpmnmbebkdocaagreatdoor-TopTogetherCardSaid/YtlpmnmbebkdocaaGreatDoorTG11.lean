/-
  Functions of the program: what they compute, and plans of their code that the kernel checks (printed by a program of ours).
-/
import Derived.Test.YtlpmnmbebkdocaaGreatDoorTG10
open List renaming map → ub, replicate → ud, getElem?_append_right → ue, getElem?_eq_some_iff → ug, getElem?_append_left → uh, length_cons → um, not_mem_nil → un, length_nil → uo, mem_cons → uq, cons_append → ut, append_nil → uu, length_append → uv, nil_append → ux, length_map → uz, length_set → uA, map_cons → uB, all_cons → uC, map_nil → uD, all_nil → uE, filter → uF
open Option renaming bind → ua, map_some → uj, getD_some → uk, isSome_iff_exists → ur, map_none → uy
open Nat renaming le_refl → ui, reduceEqDiff → ul, lt_or_ge → uw
open Sum renaming elim → uc
namespace Go.Proofs.YtlpmnmbebkdocaaGreatDoor
open Go.RowKit
set_option linter.unusedSimpArgs false
set_option linter.unusedVariables false
set_option maxRecDepth 100000
noncomputable def Wk (c:aq) (states:List aH):Option (Option (List (Int×bL))):=
 (ua (aE (σ:=(List (ByteArray×Int))) (ρ:=Unit) (states.length:Int) (fun i1 s1=>(ua (ze states (i1:Int)) fun e1=>(ua (Zf e1) fun r1=>some (.inl (zJ r1 (i1:Int) s1))))) []) (uc (fun (s1:(List (ByteArray×Int)))=>(ua (aE (σ:=(List (Int×bL))) (ρ:=Unit) (states.length:Int) (fun i2 s2=>(ua (ua (ze states (i2:Int)) fun e2=>(bif (e2.day == c.bh) then some s2 else (ua (iter (σ:=Int×(List (Int×bL))) (ρ:=(List (Int×bL))) (fun s3=>(bif decide (s3.1 < (c.aC.length:Int)) then (ua (ua (dS c e2 s3.1) fun r2=>(ua (Zf r2.1) fun r3=>(ua (bif ((zl ((zl r3 s1).getD 0) s3.2).isSome) then some false else some (!(((zl r3 s1).getD 0) == 0))) fun v1=>(bif v1 then some (zJ ((zl r3 s1).getD 0) ({from_:=(i2:Int),step:=s3.1}:bL) s3.2) else some s3.2)))) fun (v2:(List (Int×bL)))=>some (.inl ((IntKind.i64.wrap (s3.1+1)),v2))) else some (.inr s3.2))) ((-1),s2)) (fun (y1:(List (Int×bL)))=>some y1)))) fun (v3:(List (Int×bL)))=>some (.inl v3))) []) (uc (fun (s2:(List (Int×bL)))=>some (some s2)) (fun _=>none)))) (fun _=>none)))
noncomputable def T1 (c:aq) (states:List aH):az (Option (List (Int×bL))):=
 .aA 2 (.ln 2174 aH.row states (.use 1 2174 (.aE (σ:=(List (ByteArray×Int))) (ρ:=Unit) 2116 20 (states.length:Int) [] (.k [1,2,5,18,19] (fun _=>[]) [0] (fun s1=>[(2,.map (zp IV.str IV.i64 s1))]) 7 fun _=>(.cV rfl .nil)) (fun i1 s1=>.sel 2116 (.aA 0 (.ix 2152 aH.row states (i1:Int) fun e1=>.use 1 2152 (.aA 0 (.call 2154 (Ie e1) fun r1=>.use 2 2154 (.f1 2156 (.u (zp IV.str IV.i64 (zJ r1 (i1:Int) s1))) (we IV.i64 r1 (i1:Int) s1) (.use 4 2156 (.ret (.inl (zJ r1 (i1:Int) s1)))))))))) fun os1=>.case os1 (fun s1=>.sel 2116 (.aA 1 (.ln 2172 aH.row states (.use 1 2172 (.aE (σ:=(List (Int×bL))) (ρ:=Unit) 2118 33 (states.length:Int) [] (.k [2,5,8,31,32] (fun _=>[]) [0] (fun s2=>[(2,.map (zp IV.str IV.i64 s1)),(8,.map (zp IV.i64 bL.iv s2))]) 13 fun _=>(.cV rfl (.cV rfl .nil))) (fun i2 s2=>.sel 2118 (.cut (β:=(List (Int×bL))) 1 (.k [2,5,8,31,32,33] (fun _=>[]) [0] (fun v3=>[(2,.map (zp IV.str IV.i64 s1)),(8,.map (zp IV.i64 bL.iv v3))]) 25 fun _=>(.cV rfl (.cV rfl .nil))) (.aA 0 (.ix 2158 aH.row states (i2:Int) fun e2=>.use 1 2158 (.ite 2136 (e2.day == c.bh) (.sel 2136 (.ret s2)) (.sel 2136 (.iter (σ:=Int×(List (Int×bL))) (ρ:=(List (Int×bL))) ((-1),s2) (.k [2,5,8,31,32,33,10,9] (fun s3=>[(11,vI s3.1)]) [0,17] (fun s3=>[(2,.map (zp IV.str IV.i64 s1)),(8,.map (zp IV.i64 bL.iv s3.2))]) 26 fun _=>(.cV rfl (.cV rfl .nil))) (fun s3=>.aA 0 (.ln 2170 aV.row c.aC (.use 3 2170 (.ite 2146 (decide (s3.1 < (c.aC.length:Int))) (.sel 2146 (.cut (β:=(List (Int×bL))) 1 (.k [2,5,8,31,32,33,10,9,11] (fun _=>[]) [0,17] (fun v2=>[(2,.map (zp IV.str IV.i64 s1)),(8,.map (zp IV.i64 bL.iv v2))]) 61 fun _=>(.cV rfl (.cV rfl .nil))) (.aA 0 (.call 2160 (Yn c e2 s3.1) fun r2=>.use 3 2160 (.aA 0 (.call 2162 (Ie r2.1) fun r3=>.use 2 2162 (.f1 2168 (.l (vI ((zl r3 s1).getD 0)) ((zl r3 s1).isSome)) (vP IV.i64 0 r3 s1) (.use 3 2168 (.aA 0 (.f1 2166 (.l (.ap (.agg (bL.row ((zl ((zl r3 s1).getD 0) s3.2).getD ({from_:=0,step:=0}:bL))))) ((zl ((zl r3 s1).getD 0) s3.2).isSome)) (Xh bL.iv ({from_:=0,step:=0}:bL) ((zl r3 s1).getD 0) s3.2) (.use 2 2166 (.cut (β:=Bool) 1 (.k [2,5,8,31,32,33,10,9,11,14] (fun v1=>[(72,vB v1)]) [0,17,38,52] (fun _=>[(2,.map (zp IV.str IV.i64 s1)),(8,.map (zp IV.i64 bL.iv s3.2))]) 61 fun _=>(.cV rfl (.cV rfl .nil))) (.aA 0 (.ite 2148 ((zl ((zl r3 s1).getD 0) s3.2).isSome) (.use 3 2149 (.ret false)) (.use 3 2149 (.ret (!(((zl r3 s1).getD 0) == 0)))))) fun v1=>.ite 2150 v1 (.sel 2150 (.aA 0 (.f1 2164 (.u (zp IV.i64 bL.iv (zJ ((zl r3 s1).getD 0) ({from_:=(i2:Int),step:=s3.1}:bL) s3.2))) (W5 bL.iv ((zl r3 s1).getD 0) ({from_:=(i2:Int),step:=s3.1}:bL) s3.2) (.use 5 2164 (.ret (zJ ((zl r3 s1).getD 0) ({from_:=(i2:Int),step:=s3.1}:bL) s3.2)))))) (.sel 2150 (.ret s3.2)))))))))))) fun v2=>.ret (.inl ((IntKind.i64.wrap (s3.1+1)),v2)))) (.sel 2146 (.ret (.inr s3.2))))))) fun y1=>.ret y1))))) fun v3=>.ret (.inl v3))) fun os2=>.case os2 (fun s2=>.sel 2118 (.fin [8] (.map 8) [(8,.map (zp IV.i64 bL.iv s2))] (qN IV.i64 bL.iv (some s2)) (jy _ _ _ (zy (OQ IV.i64 bL.iv 8 s2 rfl) qO)) (some s2))) fun _=>.none))))) fun _=>.none)))
theorem T2 (c:aq) (states:List aH) (res:Option (List (Int×bL))) (hd:Wk c states=some res):aJ C0 205 [.agg (aq.row c),.slice (ub aH.row states)] (qN IV.i64 bL.iv res):=
 az.pure (iv:=fun res=>qN IV.i64 bL.iv res) (T1 c states) (by kernel_rfl) (az.aB hd (by kernel_rfl))
noncomputable def Xu (p1:List Int):Option (List Int):=
 (ua (iter (σ:=Int×Int×(List Int)) (ρ:=(List Int)) (fun s1=>(bif decide (s1.1 < s1.2.1) then (ua (zh p1.length s1.2.1) fun k1=>(ua (s1.2.2[k1]?) fun e1=>(ua (zh p1.length s1.1) fun k2=>(ua (s1.2.2[k2]?) fun e2=>(ua ((s1.2.2.set k2 e1)[k1]?) fun e3=>some (.inl ((IntKind.i64.wrap (s1.1+1)),(IntKind.i64.wrap (s1.2.1 - 1)),((s1.2.2.set k2 e1).set k1 e2)))))))) else some (.inr s1.2.2))) (0,(IntKind.i64.wrap ((p1.length:Int) - 1)),p1)) (fun (y1:(List Int))=>some y1))
noncomputable def T3 (p1:List Int):az (List Int):=
 .iter (σ:=Int×Int×(List Int)) (ρ:=(List Int)) (0,(IntKind.i64.wrap ((p1.length:Int) - 1)),p1) (.k [0] (fun s1=>[(2,vI s1.1),(3,vI s1.2.1)]) [] (fun s1=>[(0,.af 1 (zb zc s1.2.2))]) 6 fun _=>(.af rfl .nil)) (fun s1=>.ite 2180 (decide (s1.1 < s1.2.1)) (.sel 2180 (.aA 0 (.b1 2182 (zh p1.length s1.2.1) (fun k1=>.k k1) (fun k1 hk1=>(zn hk1)) fun k1=>.b1 2184 (s1.2.2[k1]?) (fun e1=>.ar (zu (zc e1))) (fun e1 eG=>(zR zc eG)) fun e1=>.b1 2186 (zh p1.length s1.1) (fun k2=>.k k2) (fun k2 hk2=>(zn hk2)) fun k2=>.bind (s1.2.2[k2]?) (fun e2=>[(2188,([.ar (zu (zc e2))],_)),(2190,([.aw (zu (zc e2)) (zb zc (s1.2.2.set k2 e1))],_))]) (fun e2 ew=>(.c1 (zR zc ew) (.c1 (zN zc e1 ew) .nil))) fun e2=>.b1 2192 ((s1.2.2.set k2 e1)[k1]?) (fun e3=>.aw (zu (zc e3)) (zb zc ((s1.2.2.set k2 e1).set k1 e2))) (fun e3 fN=>(zN zc e2 fN)) fun e3=>.us [(6,2182),(7,2184),(10,2186),(11,2188),(12,2186),(13,2190),(14,2182),(15,2192)] (.ret (.inl ((IntKind.i64.wrap (s1.1+1)),(IntKind.i64.wrap (s1.2.1 - 1)),((s1.2.2.set k2 e1).set k1 e2))))))) (.sel 2180 (.ret (.inr s1.2.2)))) fun y1=>.ret y1
theorem T4 (p1:List Int) (res:(List Int)) (hd:Xu p1=some res):dm C0 213 [.Zaj 0 0 p1.length] [(0,.af 1 (zb zc p1))] 1 (.tuple []) [(0,.af 1 (zb zc res))] 0:=
 az.dA (R:=fun res=>.tuple []) (H:=fun res=>[(0,.af 1 (zb zc res))]) (T3 p1) (.af rfl .nil) (fun _=>(.af rfl .nil)) (by kernel_rfl) (fun _=>by kernel_rfl) (by kernel_rfl) (az.aB hd (by kernel_rfl))
noncomputable def xC (bZ:Option (List (Int×bL))) (n:Int):bL:=(zl n (bZ.getD [])).getD ({from_:=0,step:=0}:bL)
noncomputable def Yv (bZ:Option (List (Int×bL))) (s:List Int×Int):Option ((List Int×Int) ⊕ List Int):=
 bif (!(s.2 == 0)) then ua (kF (α:=Int) 8 s.1 [(xC bZ s.2).step]) fun e=>some (.inl (e,(xC bZ s.2).from_)) else some (.inr s.1)
noncomputable def Yw (bZ:Option (List (Int×bL))) (n:Int):Option (List Int):=
 ua (iter (σ:=List Int×Int) (ρ:=List Int) (Yv bZ) ([],n)) fun l=>ua (Xu l) fun r=>ua (dD l.length r.length) fun _=>some r
theorem T5 {C:bz} {nt:Fr} {x:cA} {K:Exit→St→Prop} {st:St} {σ ρ γ:Type} {f:σ→Option (σ ⊕ ρ)} {s0:σ} {out:ρ} (hl:iter f s0=some out)
  (Ok:σ→γ→Prop) (S:σ→γ→St) (hmin:∀ s c,Ok s c→st.next≤(S s c).next) (c0:γ) (ox:Ok s0 c0) (hn0:(S s0 c0).next=st.next) (h0:bO st (S s0 c0))
  (body:∀ (s:σ) (c:γ) (o:σ ⊕ ρ),Ok s c→f s=some o→cB C nt x (GQ Ok S K (.inr out) o) (S s c)):cB C nt (.loop x) K st:=by
 obtain ⟨k,hk⟩:=vq.1 hl
 refine Q7 (ι:={p:Nat×σ×γ // cg f p.1 p.2.1=some out∧Ok p.2.1 p.2.2}) (fun p=>S p.1.2.1 p.1.2.2) (fun p=>p.1.1) ⟨(k,s0,c0),hk,ox⟩ (fun p=>by rw [hn0];exact hmin _ _ p.2.2) h0 (Nat.le_of_eq hn0.symm) ?_
 rintro ⟨⟨i,s,c⟩,hf,hok⟩
 simp only at hf hok
 cases i with
 | zero=>cases hf
 | succ i=>
  simp only [cg] at hf
  split at hf
  ·cases hf
  ·rename_i r hr
   cases hf
   refine qI ?_ (body s c _ hok hr)
   intro e aX hK
   cases e with
   | normal=>obtain ⟨s',_,h1,_⟩:=hK;cases h1
   | _=>obtain ⟨y,h1,h2⟩:=hK;cases h1;exact h2 rfl
  ·rename_i s' hr
   refine qI ?_ (body s c _ hok hr)
   intro e aX hK
   cases e with
   | normal=>
    obtain ⟨s'',pY,h1,h2,h3⟩:=hK
    cases h1
    exact ⟨⟨(i,s',pY),hf,h2⟩,by simp only;omega,h3⟩
   | _=>obtain ⟨y,h1,h2⟩:=hK;cases h1
theorem kx {C:bz} {K:St→Prop} {dst:Option Nat} {op:cO} {rest:List aM} {env:List (Nat×AV)} {heap:List (Nat×aD)} {next:Nat} (r:AV) (aN:List (Nat×aD)) (hc:(match op with | .call _ _=>true | _=>false)=false)
  (he:ai op (zd env) (za heap) next=some (r,aN)) (hn:mj C rest K (St.after ⟨env,heap,next⟩ dst r aN)):mj C (⟨dst,op,none⟩::rest) K ⟨env,heap,next⟩:=by
 rw [Jb,ZW]
 have e:∀ K,bX C dst K ⟨env,heap,next⟩ op=z7 dst K ⟨env,heap,next⟩ (ai op (zd env) (za heap) next):=fun KD=>by
  cases op<;>first | rfl | exact Bool.noConfusion hc
 rw [e,he]
 exact hn
theorem T6 {ev:aZ→AV} {h:Nat→Option aD} {id:Nat} {a b:aZ} {zero:AV} {k:Int} {y:IV} {x:AV} {bb:Bool} (hp:Dm false zero (.int .i64 k) y x bb) (ha:ev a=.ap y) (hb:ev b=vI k):ai (.look false zero false a b) ev h id=some (x,[]):=by
 obtain ⟨es,h1,h2,h3⟩:=hp
 have h1':jw h (.ap y)=some es:=by
  rw [←h1];cases y<;>rfl
 simp only [ai,ha,hb,vI,h1',h2,if_pos]
 rcases h3 with ⟨h4,_⟩ | ⟨h4,h5,_⟩
 ·rw [h4];rfl
 ·rw [h4];simp [h5]
theorem T7 {ev:aZ→AV} {h:Nat→Option aD} {id:Nat} {a:aZ} (off:Nat) {x:bL} {v:Int} (ha:ev a=.ap (bL.iv x)) (ho:off < 2) (hv:x.row[off]?=some (.int .i64 v)):ai (.cut false off 1 a) ev h id=some (vI v,[]):=by
 simp only [ai,ha,bL.iv,QY]
 have hl:(x.row.map AV.ap).length=2:=rfl
 rw [if_pos (by omega)]
 simp only [Bool.false_eq_true,if_false,List.getElem?_map,hv,uj,vI]
theorem T8 {ev:aZ→AV} {h:Nat→Option aD} {id Q B k:Nat} {a b:aZ} {v:AV} {af:List (List AV)} (ha:ev a=.Zaj Q 0 k) (hb:ev b=.Zaj B 0 1) (hB:h B=some (.af 1 [[v]])) (hQ:h Q=some (.af 1 af)) (hk:k=af.length) (hl:(k+1)*8≤140737488355328) :
  ai (.app 1 8 a b) ev h id=some (.Zaj id 0 (k+1),[(id,.af 1 (af++[[v]])),(Q,.dead)]):=by
 subst hk
 simp [ai,ha,hb,QZ,jP,hB,hQ,hl]
theorem T9 {C:bz} {nt:Fr} (bZ:Option (List (Int×bL))) (n:Int) (x7:AV) (l:List Int) (Q N:Nat) (Iv:Q < N) (hl:(l.length+1)*8≤140737488355328) (P:Exit→St→Prop)
  (h:P .normal ⟨[(0,.ap (qN IV.i64 bL.iv bZ)),(1,vI n),(5,.Zaj (N+6) 0 (l.length+1))],zo (zo (zo [(Q,aD.af 1 (zb zc l))] (N+5) (aD.af 1 [[vI (xC bZ n).step]])) Q aD.dead) (N+6) (aD.af 1 (zb zc l++[[vI (xC bZ n).step]])),N+8⟩) :
  cB C nt (.region false [] Kb (some [0,1,5])) P ⟨[(0,.ap (qN IV.i64 bL.iv bZ)),(1,vI n),(5,.Zaj Q 0 l.length),(7,x7)],[(Q,.af 1 (zb zc l))],N⟩:=by
 refine yn ?_
 unfold Kb
 refine kx _ _ rfl rfl ?_
 refine kx _ _ rfl rfl ?_
 refine kx _ _ rfl rfl ?_
 refine kx (.ap (bL.iv (xC bZ n))) [] rfl (T6 (VZ bL.iv ({from_:=0,step:=0}:bL) n bZ) rfl rfl) ?_
 refine kx (vI (xC bZ n).step) [] rfl (T7 1 rfl (by omega) rfl) ?_
 refine kx (.Zaj (N+5) 0 1) [(N+5,.af 1 [[vI (xC bZ n).step]])] rfl rfl ?_
 have hB:za (zo [(Q,aD.af 1 (zb zc l))] (N+5) (aD.af 1 [[vI (xC bZ n).step]])) (N+5)=some (.af 1 [[vI (xC bZ n).step]]):=by rw [zr,if_pos rfl]
 have Bh:za (zo [(Q,aD.af 1 (zb zc l))] (N+5) (aD.af 1 [[vI (xC bZ n).step]])) Q=some (.af 1 (zb zc l)):=by rw [zr,if_neg (by omega)];simp [za]
 refine kx _ _ rfl (T8 rfl rfl hB Bh (by simp [zb]) hl) ?_
 refine kx _ _ rfl rfl ?_
 exact h
theorem Up {nt:Fr} (x0 x1 x7:AV) (l r:List Int) (hr:Xu l=some r) (Q N:Nat) (Iv:Q < N) (P:Exit→St→Prop)
  (h:P .normal ⟨[(5,.Zaj Q 0 l.length)],[(Q,.af 1 (zb zc r))],N+2⟩) :
  cB C0.plain nt (.region false [] Kc (some [5])) P ⟨[(0,x0),(1,x1),(5,.Zaj Q 0 l.length),(7,x7)],[(Q,.af 1 (zb zc l))],N⟩:=by
 refine yn ?_
 have hd:=T4 l r hr
 simp only [Kc,Jb,FW,ZW,FY,ai,FX,kP,KW,reduceIte,uk,kN,kO,vO,kQ,ZX,KU,uB,uD,WK,ux,uu,ut,J8,ul,if_false]
 refine bH.dA (l:=[Q]) (zf hd [Q] (N+1) (.keep .nil) (bG bw) (bG bw)) ?_ ?_ ?_
 ·simp only [yZ,Zy,um,uo,uC,uE]
  simp;try omega
 ·simp [xy,za,fG]
 ·simp only [yl,St.put,kN,kO,vO,kQ,ZX,ul,if_false,reduceIte,kP,uk,J7,JH]
  simp [qC,uF,fG,vi,zo]
  exact h
def SW (bZ:Option (List (Int×bL))) (s:List Int×Int) (Q:Nat):St:=⟨[(0,.ap (qN IV.i64 bL.iv bZ)),(1,vI s.2),(5,.Zaj Q 0 s.1.length)],[(Q,.af 1 (zb zc s.1))],Q+1⟩
set_option maxHeartbeats 4000000 in
theorem Uq (bZ:Option (List (Int×bL))) (n:Int) (res:List Int) (hd:Yw bZ n=some res):aJ C0 206 [qN IV.i64 bL.iv bZ,.int .i64 n] (.slice (ub zc res)):=by
 unfold Yw at hd
 obtain ⟨l,hl,hd⟩:=xY hd
 obtain ⟨r,hr,hd⟩:=xY hd
 obtain ⟨⟨hlen⟩,_,hd⟩:=xY hd
 have ee:=Option.some.inj hd;subst ee
 refine aJ.start (d:=2) PO (by simp [B9]) ?_
 intro B
 show cB C0.plain _ B9.body (kR B9.results _) ⟨[(0,.ap (qN IV.i64 bL.iv bZ)),(1,vI n)],[],0⟩
 refine qg ?_
 refine qR (aX:=⟨[(0,.ap (qN IV.i64 bL.iv bZ)),(1,vI n)],[],1⟩) [] .nil ?_ (by kernel_rfl)
 refine qA ?_
 refine qg ?_
 refine qR (aX:=⟨[(0,.ap (qN IV.i64 bL.iv bZ)),(1,vI n),(5,.nil)],[],2⟩) [] .nil ?_ (by kernel_rfl)
 refine qA ?_
 refine qg ?_
 refine vn ?_
 refine yi (Xk (t:=5) 1 rfl) (by simp) ?_
 show cB C0.plain _ _ _ ⟨[(0,.ap (qN IV.i64 bL.iv bZ)),(1,vI n),(5,.Zaj 2 0 0)],[(2,.af 1 [])],3⟩
 refine T5 hl (fun _ Q=>2≤Q) (SW bZ) (fun s Q hQ=>by simp only [SW];omega) 2 (ui _) rfl (bO.refl _) ?_
 rintro ⟨l,n⟩ Q o hQ hs
 show cB C0.plain _ _ _ ⟨[(0,.ap (qN IV.i64 bL.iv bZ)),(1,vI n),(5,.Zaj Q 0 l.length)],[(Q,.af 1 (zb zc l))],Q+1⟩
 refine qg ?_
 refine qg ?_
 refine qR (aX:=⟨[(0,.ap (qN IV.i64 bL.iv bZ)),(1,vI n),(5,.Zaj Q 0 l.length),(7,vB (!(n == 0)))],[(Q,.af 1 (zb zc l))],Q+3⟩) [] .nil ?_ (by kernel_rfl)
 refine qA ?_
 refine F5 (!(n == 0)) rfl (fun g => ?_) (fun g => ?_)
 ·replace hs:=F7 g hs
  obtain ⟨e,he,hs⟩:=xY hs
  cases hs
  have hb:(l.length+1)*8≤140737488355328∧e=l++[(xC bZ n).step]:=by
   unfold kF at he
   split at he
   ·rename_i hh;cases he;exact ⟨hh,rfl⟩
   ·cases he
  obtain ⟨hb,rfl⟩:=hb
  refine Zr ?_
  refine qA ?_
  refine vn ?_
  refine qg ?_
  refine T9 bZ n _ l Q (Q+3) (by omega) hb _ ?_
  refine qA ?_
  have ag:∀ j,za (zo (zo (zo [(Q,aD.af 1 (zb zc l))] (Q+3+5) (aD.af 1 [[vI (xC bZ n).step]])) Q aD.dead) (Q+3+6) (aD.af 1 (zb zc l++[[vI (xC bZ n).step]]))) j=if Q+3+6=j then some (.af 1 (zb zc l++[[vI (xC bZ n).step]])) else if Q=j then some .dead else if Q+3+5=j then some (.af 1 [[vI (xC bZ n).step]]) else za [(Q,aD.af 1 (zb zc l))] j:=fun j=>by
   simp only [zr]
  have Iw:=ag (Q+9)
  rw [if_pos rfl] at Iw
  generalize zo (zo (zo [(Q,aD.af 1 (zb zc l))] (Q+3+5) (aD.af 1 [[vI (xC bZ n).step]])) Q aD.dead) (Q+3+6) (aD.af 1 (zb zc l++[[vI (xC bZ n).step]]))=hp at *
  refine qR (aX:=⟨[(0,.ap (qN IV.i64 bL.iv bZ)),(1,vI (xC bZ n).from_),(5,.Zaj (Q+3+6) 0 (l.length+1))],hp,Q+3+8+5⟩) [.l (.ap (bL.iv (xC bZ n))) (zl n (bZ.getD [])).isSome] (.cons (VZ bL.iv ({from_:=0,step:=0}:bL) n bZ) .nil) ?_ (by kernel_rfl)
  refine De ?_
  refine ⟨_,Q+9,rfl,by omega,?_⟩
  refine Qz (by simp only [SW];omega) ?_ ?_
  ·intro p hp
   simp only [SW,uq,un,or_false] at hp
   rcases hp with rfl | rfl | rfl
   ·exact ⟨rfl,rfl⟩
   ·exact ⟨rfl,rfl⟩
   ·refine ⟨by simp [za],by simp [zX,xx,zP,SW]⟩
  ·intro p hp
   simp only [SW,uq,un,or_false] at hp
   subst hp
   refine ⟨by rw [Iw];simp [zb,zu,zc,vI],by simp [SW],wK _ _ _ _⟩
 ·replace hs:=F8 g hs
  cases hs
  refine Q6 ?_
  refine ⟨_,rfl,fun e => ?_⟩
  have e:=Sum.inr.inj e
  subst e
  refine F6 ?_
  refine qA ?_
  refine qg ?_
  refine Up _ _ _ _ r hr Q (Q+3) (by omega) _ ?_
  refine qA ?_
  refine qg ?_
  refine qR (aX:=⟨[(4,.Zaj Q 0 l.length)],[(Q,.af 1 (zb zc r))],Q+3+2+2⟩) [] .nil ?_ (by kernel_rfl)
  refine qA ?_
  refine X2 ?_
  exact OR _ rfl (xd zc Q 1 _ r hlen (by simp [za]))
noncomputable def Z7 (c:aq) (states:List aH):Option (List bD):=
 (ua (aE (σ:=(List bD)×(Option (List (Int×bL)))) (ρ:=Unit) (c.zw.length:Int) (fun i1 s1=>(ua (aE (σ:=(List bD)×(Option (List (Int×bL)))) (ρ:=Unit) (c.zw.length:Int) (fun i2 s2=>(ua (ua (Xt c (i1:Int) (i2:Int)) fun r1=>(bif r1 then (ua (aE (σ:=(List bD)×(Option (List (Int×bL)))) (ρ:=(List bD)×(Option (List (Int×bL)))) (states.length:Int) (fun i3 s3=>(ua (ze states (i3:Int)) fun e1=>(ua (Ki c e1 (i1:Int) (i2:Int)) fun r2=>(bif r2 then (ua (bif s3.2.isSome then some s3.2 else (ua (Wk c states) fun r3=>some r3)) fun (v1:(Option (List (Int×bL))))=>(ua (Yw v1 (i3:Int)) fun r4=>(ua (wk 4 (-1) (i1:Int) (i2:Int) r4) fun r5=>(ua (zO (α:=bD) 56 s3.1 [r5]) fun e2=>some (.inr (e2,v1)))))) else some (.inl (s3.1,s3.2)))))) (s2.1,s2.2)) (uc (fun (s3:(List bD)×(Option (List (Int×bL))))=>some (s3.1,s3.2)) (fun (y1:(List bD)×(Option (List (Int×bL))))=>some (y1.1,y1.2)))) else some (s2.1,s2.2))) fun (v2:(List bD)×(Option (List (Int×bL))))=>some (.inl (v2.1,v2.2)))) (s1.1,s1.2)) (uc (fun (s2:(List bD)×(Option (List (Int×bL))))=>some (.inl (s2.1,s2.2))) (fun _=>none)))) ([],none)) (uc (fun (s1:(List bD)×(Option (List (Int×bL))))=>some s1.1) (fun _=>none)))
noncomputable def Ur (c:aq) (states:List aH):az (List bD):=
 .aA 3 (.ln 2232 aK.row c.zw (.use 2 2232 (.cC 1 [HC 5 5] (.aE (σ:=(List bD)×(Option (List (Int×bL)))) (ρ:=Unit) 1962 14 (c.zw.length:Int) ([],none) (.k [1,2,13] (fun s1=>[(5,.aS 8 (ub bD.row s1.1)),(6,.ap (qN IV.i64 bL.iv s1.2))]) [0] (fun s1=>[(8,.aU 5 s1.1.length)]) 9 fun _=>(.exp rfl rfl .nil)) (fun i1 s1=>.sel 1962 (.aA 1 (.ln 2230 aK.row c.zw (.use 2 2230 (.aE (σ:=(List bD)×(Option (List (Int×bL)))) (ρ:=Unit) 2202 20 (c.zw.length:Int) (s1.1,s1.2) (.k [1,2,13,14,7,19] (fun s2=>[(5,.aS 8 (ub bD.row s2.1)),(6,.ap (qN IV.i64 bL.iv s2.2))]) [0] (fun s2=>[(8,.aU 5 s2.1.length)]) 16 fun _=>(.exp rfl rfl .nil)) (fun i2 s2=>.sel 2202 (.cut (β:=(List bD)×(Option (List (Int×bL)))) 1 (.k [1,2,13,14,7,19,20] (fun v2=>[(5,.aS 8 (ub bD.row v2.1)),(6,.ap (qN IV.i64 bL.iv v2.2))]) [0] (fun v2=>[(8,.aU 5 v2.1.length)]) 24 fun _=>(.exp rfl rfl .nil)) (.aA 1 (.call 2212 (TX c (i1:Int) (i2:Int)) fun r1=>.use 3 2212 (.ite 2204 r1 (.sel 2205 (.aA 0 (.ln 2228 aH.row states (.use 1 2228 (.aE (σ:=(List bD)×(Option (List (Int×bL)))) (ρ:=(List bD)×(Option (List (Int×bL)))) 2206 30 (states.length:Int) (s2.1,s2.2) (.k [1,2,13,14,7,19,20,8,28,29] (fun s3=>[(5,.aS 8 (ub bD.row s3.1)),(6,.ap (qN IV.i64 bL.iv s3.2))]) [0] (fun s3=>[(8,.aU 5 s3.1.length)]) 27 fun _=>(.exp rfl rfl .nil)) (fun i3 s3=>.sel 2206 (.aA 0 (.ix 2214 aH.row states (i3:Int) fun e1=>.use 1 2214 (.aA 0 (.call 2216 (TZ c e1 (i1:Int) (i2:Int)) fun r2=>.use 4 2216 (.ite 2208 r2 (.sel 2209 (.cut (β:=(Option (List (Int×bL)))) 1 (.e [1,2,5,13,14,7,19,20,8,9] (fun v1=>[(6,.ap (qN IV.i64 bL.iv v1))]) [0,8] 42) (.aA 0 (.f1 2220 (.v (.bool (!s3.2.isSome))) (OD false IV.i64 bL.iv s3.2) (.use 1 2220 (.ite 2210 s3.2.isSome (.sel 2211 (.ret s3.2)) (.sel 2211 (.aA 0 (.call 2218 (T2 c states) fun r3=>.use 2 2218 (.ret r3)))))))) fun v1=>.aA 0 (.call 2222 (Uq v1 (i3:Int)) fun r4=>.call 2224 (Z6 4 (-1) (i1:Int) (i2:Int) r4) fun r5=>.b1 2226 (zO (α:=bD) 56 s3.1 [r5]) (fun e2=>.a (ub bD.row e2) e2.length) (fun e2 ew=>(qt bD.row 5 56 (fun _=>rfl) ew)) fun e2=>.us [(5,2222),(6,2224),(8,2226)] (.ret (.inr (e2,v1)))))) (.sel 2209 (.ret (.inl (s3.1,s3.2)))))))))) fun os3=>.case os3 (fun s3=>.sel 2206 (.ret (s3.1,s3.2))) fun y1=>.ret (y1.1,y1.2)))))) (.sel 2205 (.ret (s2.1,s2.2)))))) fun v2=>.ret (.inl (v2.1,v2.2)))) fun os2=>.case os2 (fun s2=>.sel 2202 (.ret (.inl (s2.1,s2.2)))) fun _=>.none))))) fun os1=>.case os1 (fun s1=>.sel 1962 (.ret s1.1)) fun _=>.none))))
theorem Us (c:aq) (states:List aH) (res:List bD) (hd:Z7 c states=some res):aJ C0 201 [.agg (aq.row c),.slice (ub aH.row states)] (.slice (ub bD.row res)):=
 az.pure (iv:=fun res=>.slice (ub bD.row res)) (Ur c states) (by kernel_rfl) (az.aB hd (by kernel_rfl))
noncomputable def Xv (c:aq):Option ((List bD)×Int):=
 (ua (Wi c) fun r1=>(bif (r1.2 == 0) then (ua (aE (σ:=(List bD)) (ρ:=Int) c.aT (fun i1 s1=>(ua (α:=(List bD) ⊕ Int) (ua (Wj c (i1:Int)) fun r2=>(bif (r2.2 == 0) then (ua (yy c r2.1) fun r3=>(ua (ze r3 0) fun e1=>(bif decide (0≤e1) then (ua (Ys r2.1 r3) fun r4=>(ua (wk 1 (i1:Int) (-1) (-1) r4) fun r5=>(ua (zO (α:=bD) 56 s1 [r5]) fun e2=>some (.inl e2)))) else some (.inl s1)))) else some (.inr r2.2))) (uc (fun (v1:(List bD))=>some (.inl v1)) (fun (y1:Int)=>some (.inr y1))))) []) (uc (fun (s1:(List bD))=>(ua (aE (σ:=(List bD)×(List bD)) (ρ:=Unit) (c.zw.length:Int) (fun i2 s2=>(ua (Yu (i2:Int) r1.1 s2.1 c s2.2) fun r6=>some (.inl (r6.1,r6.2)))) (s1,[])) (uc (fun (s2:(List bD)×(List bD))=>(ua (zO (α:=bD) 56 s2.1 s2.2) fun e3=>(ua (Z7 c r1.1) fun r7=>(ua (zO (α:=bD) 56 e3 r7) fun e4=>some (e4,0))))) (fun _=>none)))) (fun (y2:Int)=>some ([],y2)))) else some ([],r1.2)))
noncomputable def Ut (c:aq):az ((List bD)×Int):=
 .aA 1 (.call 2234 (SS c) fun r1=>.use 1 2234 (.ite 1304 (r1.2 == 0) (.sel 1305 (.cC 4 [Z2 13 5 0 0] (.aE (σ:=(List bD)) (ρ:=Int) 1306 24 c.aT [] (.k [1,4,6,23] (fun _=>[]) [0,8] (fun s1=>[(13,.af 1 [[.aS 17 (ub bD.row s1)]]),(17,.aU 5 s1.length)]) 18 fun _=>(.exp rfl rfl (.exp rfl rfl .nil))) (fun i1 s1=>.sel 1306 (.ei (β:=(List bD)) (γ:=Int) 1 (.k [1,4,6,23,24] (fun _=>[]) [0,8] (fun v1=>[(13,.af 1 [[.aS 17 (ub bD.row v1)]]),(17,.aU 5 v1.length)]) 40 fun _=>(.exp rfl rfl (.exp rfl rfl .nil))) (.aA 1 (.call 2236 (Tb c (i1:Int)) fun r2=>.use 2 2236 (.ite 1892 (r2.2 == 0) (.sel 1893 (.aA 0 (.call 2238 (Ir c r2.1) fun r3=>.use 2 2238 (.aA 0 (.ix 2240 zc r3 0 fun e1=>.use 1 2240 (.ite 1894 (decide (0≤e1)) (.sel 1894 (.aA 0 (.call 2242 (Tu r2.1 r3) fun r4=>.call 2244 (Z6 1 (i1:Int) (-1) (-1) r4) fun r5=>.b1 2246 (zO (α:=bD) 56 s1 [r5]) (fun e2=>.a (ub bD.row e2) e2.length) (fun e2 ew=>(qt bD.row 5 56 (fun _=>rfl) ew)) fun e2=>.us [(4,2242),(5,2244),(7,2246)] (.ret (.inl e2))))) (.sel 1894 (.ret (.inl s1))))))))) (.sel 1893 (.ret (.inr r2.2)))))) fun o_v1=>.case o_v1 (fun v1=>.ret (.inl v1)) fun y1=>.ret (.inr y1))) fun os1=>.case os1 (fun s1=>.sel 1306 (.aA 2 (.ln 2256 aK.row c.zw (.use 2 2256 (.cC 1 [Z2 19 5 0 0] (.aE (σ:=(List bD)×(List bD)) (ρ:=Unit) 1896 56 (c.zw.length:Int) (s1,[]) (.k [1,4,6,11,12,55] (fun _=>[]) [0,8] (fun s2=>[(13,.af 1 [[.aS 17 (ub bD.row s2.1)]]),(17,.aU 5 s2.1.length),(19,.af 1 [[.aS 26 (ub bD.row s2.2)]]),(26,.aU 5 s2.2.length)]) 27 fun _=>(.exp rfl rfl (.exp rfl rfl (.exp rfl rfl (.exp rfl rfl .nil))))) (fun i2 s2=>.sel 1896 (.aA 1 (.b1 2248 (Yu (i2:Int) r1.1 s2.1 c s2.2) (fun r6=>.c [8,13,0,19,17,26] 6 (.tuple []) [(13,.af 1 [[.aS 17 (ub bD.row r6.1)]]),(19,.af 1 [[.aS 26 (ub bD.row r6.2)]]),(17,.aU 5 r6.1.length),(26,.aU 5 r6.2.length)] 0) (fun r6 pQ=>(zf (TP (i2:Int) r1.1 s2.1 c s2.2 r6 pQ) [8,13,0,19,17,26] 32 (.drop rfl rfl (.keep (.drop rfl rfl (.keep (.keep (.keep .nil)))))) (bM (bM (bM (bM (bM (bM bw)))))) (bM (bM (bM (bM bw)))))) fun r6=>.use 2 2248 (.ret (.inl (r6.1,r6.2)))))) fun os2=>.case os2 (fun s2=>.sel 1896 (.aA 0 (.b1 2250 (zO (α:=bD) 56 s2.1 s2.2) (fun e3=>.a (ub bD.row e3) e3.length) (fun e3 fN=>(qt bD.row 5 56 (fun _=>rfl) fN)) fun e3=>.call 2252 (Us c r1.1) fun r7=>.b1 2254 (zO (α:=bD) 56 e3 r7) (fun e4=>.a (ub bD.row e4) e4.length) (fun e4 iE=>(qt bD.row 5 56 (fun _=>rfl) iE)) fun e4=>.us [(2,2250),(5,2252),(6,2254)] (.ret (e4,0))))) fun _=>.none)))))) fun y2=>.ret ([],y2)))) (.sel 1305 (.ret ([],r1.2)))))
theorem Uu (c:aq) (res:(List bD)×Int) (hd:Xv c=some res):aJ C0 192 [.agg (aq.row c)] (.tuple [.slice (ub bD.row res.1),.int .i64 res.2]):=
 az.pure (iv:=fun res=>.tuple [.slice (ub bD.row res.1),.int .i64 res.2]) (Ut c) (by kernel_rfl) (az.aB hd (by kernel_rfl))
noncomputable def Vh (a:List Int) (b:List Int):Option Bool:=
 (bif ((a.length:Int) == (b.length:Int)) then (ua (aE (σ:=Unit) (ρ:=Unit) (a.length:Int) (fun i1 s1=>(ua (ze a (i1:Int)) fun e1=>(ua (ze b (i1:Int)) fun e2=>(bif (e1 == e2) then some (.inl ()) else some (.inr ()))))) ()) (uc (fun (s1:Unit)=>some true) (fun (y1:Unit)=>some false))) else some false)
noncomputable def Uv (a:List Int) (b:List Int):az Bool:=
 .aA 1 (.ln 2288 zc a (.use 1 2288 (.ln 2286 zc b (.use 3 2286 (.ite 2272 ((a.length:Int) == (b.length:Int)) (.sel 2273 (.aE (σ:=Unit) (ρ:=Unit) 2274 5 (a.length:Int) () (.e [0,1] (fun _=>[]) [] 7) (fun i1 s1=>.aA 0 (.ln 2282 zc a (.use 2 2282 (.sel 2274 (.aA 0 (.ix 2278 zc a (i1:Int) fun e1=>.ix 2280 zc b (i1:Int) fun e2=>.us [(2,2278),(6,2280)] (.ite 2276 (e1 == e2) (.sel 2277 (.ret (.inl ()))) (.sel 2277 (.ret (.inr ())))))))))) fun os1=>.case os1 (fun s1=>.aA 0 (.ln 2284 zc a (.use 2 2284 (.sel 2274 (.ret true))))) fun y1=>.ret false)) (.sel 2273 (.ret false)))))))
theorem Uw (a:List Int) (b:List Int) (res:Bool) (hd:Vh a b=some res):aJ C0 142 [.slice (ub zc a),.slice (ub zc b)] (.bool res):=
 az.pure (iv:=fun res=>.bool res) (Uv a b) (by kernel_rfl) (az.aB hd (by kernel_rfl))
noncomputable def ky (c:aq) (a:b9):Option (List Bool):=
 (ua (yy c a) fun r1=>(ua (ef 1 (r1.length:Int)) fun k1=>(ua (aE (σ:=(List Bool)) (ρ:=Unit) (r1.length:Int) (fun i1 s1=>(ua (ze r1 (i1:Int)) fun e1=>(ua (zh k1 (i1:Int)) fun k2=>(ua (s1[k2]?) fun e2=>some (.inl (s1.set k2 (e1 == (-1)))))))) (ud k1 false)) (uc (fun (s1:(List Bool))=>(ua (dD k1 s1.length) fun g1=>some s1)) (fun _=>none)))))
noncomputable def Ux (c:aq) (a:b9):az (List Bool):=
 .aA 1 (.call 2430 (Ir c a) fun r1=>.use 2 2430 (.aA 0 (.b1 2432 (ef 1 (r1.length:Int)) (fun k1=>.m k1 (zb zi (ud k1 false))) (fun k1 hk1=>(xz zi false hk1)) fun k1=>.ln 2442 zc r1 (.us [(1,2442),(2,2432)] (.aA 0 (.ln 2440 zc r1 (.use 1 2440 (.aE (σ:=(List Bool)) (ρ:=Unit) 2428 17 (r1.length:Int) (ud k1 false) (.k [6,15,16] (fun _=>[]) [] (fun s1=>[(9,.af 1 (zb zi s1))]) 14 fun _=>(.af rfl .nil)) (fun i1 s1=>.sel 2428 (.aA 0 (.ix 2434 zc r1 (i1:Int) fun e1=>.use 1 2434 (.aA 0 (.b1 2436 (zh k1 (i1:Int)) (fun k2=>.k k2) (fun k2 hk2=>(zn hk2)) fun k2=>.b1 2438 (s1[k2]?) (fun e2=>.aw (zu (zi e2)) (zb zi (s1.set k2 (e1 == (-1))))) (fun e2 ew=>(zN zi (e1 == (-1)) ew)) fun e2=>.us [(4,2436),(5,2438)] (.ret (.inl (s1.set k2 (e1 == (-1)))))))))) fun os1=>.case os1 (fun s1=>.sel 2428 (.bind (dD k1 s1.length) (fun _=>[]) (fun _ _=>.nil) fun g2=>.fin [9] (.Zaj 9 0 k1) [(9,.af 1 (zb zi s1))] (.slice (ub zi s1)) (jy _ _ _ (zy (xd zi 9 1 k1 s1 g2.down rfl) qO)) s1)) fun _=>.none))))))))
theorem Ei (c:aq) (a:b9) (res:List Bool) (hd:ky c a=some res):aJ C0 138 [.agg (aq.row c),.agg (b9.row a)] (.slice (ub zi res)):=
 az.pure (iv:=fun res=>.slice (ub zi res)) (Ux c a) (by kernel_rfl) (az.aB hd (by kernel_rfl))
noncomputable def Z8 (c:aq) (n:Int):Option Bool:=
 (ua (bif decide (20 < (c.aF.length:Int)) then some true else (bif decide (30 < (c.bB.length:Int)) then some true else (bif decide (70 < (c.aC.length:Int)) then some true else (bif decide (n < (c.zw.length:Int)) then some true else some (decide (100 < (c.off.length:Int))))))) fun v1=>(bif v1 then some false else (ua (aE (σ:=Unit) (ρ:=Unit) (c.zw.length:Int) (fun i1 s1=>(ua (ze c.zw (i1:Int)) fun e1=>(bif decide (20 < (e1.start.length:Int)) then some (.inr ()) else some (.inl ())))) ()) (uc (fun (s1:Unit)=>some true) (fun (y1:Unit)=>some false)))))
noncomputable def Uy (c:aq) (n:Int):az Bool:=
 .cut (β:=Bool) 3 (.e [2] (fun v1=>[(34,vB v1)]) [0] 31) (.aA 0 (.ite 2648 (decide (20 < (c.aF.length:Int))) (.ln 2668 zc c.aF (.us [(2,2668),(5,2648)] (.f1 2666 (.g true) (rfl:true=true) (.use 11 2666 (.f1 2664 (.g true) (rfl:true=true) (.use 17 2664 (.f1 2662 (.g true) (rfl:true=true) (.use 24 2662 (.ret true))))))))) (.ite 2650 (decide (30 < (c.bB.length:Int))) (.ln 2676 zc c.aF (.us [(2,2676),(5,2648)] (.ln 2674 bQ.row c.bB (.us [(7,2674),(11,2650)] (.f1 2672 (.g true) (rfl:true=true) (.use 17 2672 (.f1 2670 (.g true) (rfl:true=true) (.use 24 2670 (.ret true))))))))) (.ite 2652 (decide (70 < (c.aC.length:Int))) (.ln 2684 zc c.aF (.us [(2,2684),(5,2648)] (.ln 2682 bQ.row c.bB (.us [(7,2682),(11,2650)] (.ln 2680 aV.row c.aC (.us [(13,2680),(17,2652)] (.f1 2678 (.g true) (rfl:true=true) (.use 24 2678 (.ret true))))))))) (.ite 2654 (decide (n < (c.zw.length:Int))) (.ln 2692 zc c.aF (.us [(2,2692),(5,2648)] (.ln 2690 bQ.row c.bB (.us [(7,2690),(11,2650)] (.ln 2688 aV.row c.aC (.us [(13,2688),(17,2652)] (.ln 2686 aK.row c.zw (.us [(19,2686),(24,2654)] (.ret true))))))))) (.ln 2702 zc c.aF (.us [(2,2702),(5,2648)] (.ln 2700 bQ.row c.bB (.us [(7,2700),(11,2650)] (.ln 2698 aV.row c.aC (.us [(13,2698),(17,2652)] (.ln 2696 aK.row c.zw (.us [(19,2696),(24,2654)] (.ln 2694 zc c.off (.use 26 2694 (.ret (decide (100 < (c.off.length:Int))))))))))))))))))) fun v1=>.ite 2656 v1 (.sel 2656 (.ret false)) (.sel 2656 (.aE (σ:=Unit) (ρ:=Unit) 2658 5 (c.zw.length:Int) () (.e [2] (fun _=>[]) [0] 32) (fun i1 s1=>.aA 0 (.ln 2708 aK.row c.zw (.use 3 2708 (.sel 2658 (.aA 0 (.ix 2704 aK.row c.zw (i1:Int) fun e1=>.use 3 2704 (.ln 2706 cD.row e1.start (.use 6 2706 (.ite 2660 (decide (20 < (e1.start.length:Int))) (.sel 2660 (.ret (.inr ()))) (.sel 2660 (.ret (.inl ())))))))))))) fun os1=>.case os1 (fun s1=>.aA 0 (.ln 2710 aK.row c.zw (.use 3 2710 (.sel 2658 (.ret true))))) fun y1=>.ret false))
theorem Uz (c:aq) (n:Int) (res:Bool) (hd:Z8 c n=some res):aJ C0 94 [.agg (aq.row c),.int .i64 n] (.bool res):=
 az.pure (iv:=fun res=>.bool res) (Uy c n) (by kernel_rfl) (az.aB hd (by kernel_rfl))
noncomputable def Xw (c:aq):Option Bool:=
 (ua (ua (Z8 c 6) fun r1=>(bif r1 then (bif decide ((c.aC.length:Int)≤8) then some (decide (c.bh≤20)) else some false) else some false)) fun v1=>some v1)
noncomputable def UA (c:aq):az Bool:=
 .cut (β:=Bool) 2 (.e [] (fun v1=>[(2,vB v1)]) [0] 16) (.aA 0 (.call 2716 (Uz c 6) fun r1=>.ite 2712 r1 (.ite 2714 (decide ((c.aC.length:Int)≤8)) (.us [(1,2716),(3,2712)] (.ln 2718 aV.row c.aC (.us [(5,2718),(9,2714)] (.ret (decide (c.bh≤20)))))) (.us [(1,2716),(3,2712)] (.ln 2720 aV.row c.aC (.us [(5,2720),(9,2714)] (.ret false))))) (.us [(1,2716),(3,2712)] (.f1 2722 (.g false) (rfl:false=false) (.use 9 2722 (.ret false)))))) fun v1=>.ret v1
theorem Iy (c:aq) (res:Bool) (hd:Xw c=some res):aJ C0 97 [.agg (aq.row c)] (.bool res):=
 az.pure (iv:=fun res=>.bool res) (UA c) (by kernel_rfl) (az.aB hd (by kernel_rfl))
noncomputable def Z9 (a:b9) (safe:List Bool):Option (List Int):=
 (ua (ef 8 (a.aY.length:Int)) fun k1=>(ua (aE (σ:=(List Int)) (ρ:=Unit) (a.aY.length:Int) (fun i1 s1=>(ua (ua (ze a.aY (i1:Int)) fun e1=>(ua (zh k1 (i1:Int)) fun k2=>(ua (s1[k2]?) fun e2=>(ua (bif e1.own then (ua (ze safe (i1:Int)) fun e3=>some (!e3)) else some true) fun v1=>(bif v1 then some (s1.set k2 (-2)) else (ua (ze a.bg (i1:Int)) fun e4=>(ua (aE (σ:=Unit) (ρ:=(List Int)) (e4.length:Int) (fun i2 s2=>(ua (ze e4 (i2:Int)) fun e5=>(ua (ze safe e5.to) fun e6=>(bif e6 then (ua (zh k1 (i1:Int)) fun k3=>(ua ((s1.set k2 (-2))[k3]?) fun e7=>some (.inr ((s1.set k2 (-2)).set k3 e5.step)))) else some (.inl ()))))) ()) (uc (fun (s2:Unit)=>some (s1.set k2 (-2))) (fun (y1:(List Int))=>some y1))))))))) fun (v2:(List Int))=>some (.inl v2))) (ud k1 0)) (uc (fun (s1:(List Int))=>(ua (dD k1 s1.length) fun g1=>some s1)) (fun _=>none))))
noncomputable def UB (a:b9) (safe:List Bool):az (List Int):=
 .aA 1 (.b1 2854 (ef 8 (a.aY.length:Int)) (fun k1=>.m k1 (zb zc (ud k1 0))) (fun k1 hk1=>(xz zc 0 hk1)) fun k1=>.ln 2878 aG.row a.aY (.us [(2,2878),(3,2854)] (.aA 0 (.ln 2876 aG.row a.aY (.use 2 2876 (.aE (σ:=(List Int)) (ρ:=Unit) 2836 17 (a.aY.length:Int) (ud k1 0) (.k [1,2,5,15,16] (fun _=>[]) [0] (fun s1=>[(5,.af 1 (zb zc s1))]) 11 fun _=>(.af rfl .nil)) (fun i1 s1=>.sel 2836 (.cut (β:=(List Int)) 1 (.k [1,2,5,15,16,17] (fun _=>[]) [0] (fun v2=>[(5,.af 1 (zb zc v2))]) 32 fun _=>(.af rfl .nil)) (.aA 0 (.ix 2856 aG.row a.aY (i1:Int) fun e1=>.use 1 2856 (.aA 0 (.b1 2858 (zh k1 (i1:Int)) (fun k2=>.k k2) (fun k2 hk2=>(zn hk2)) fun k2=>.b1 2860 (s1[k2]?) (fun e2=>.aw (zu (zc e2)) (zb zc (s1.set k2 (-2)))) (fun e2 ew=>(zN zc (-2) ew)) fun e2=>.us [(2,2858),(3,2860)] (.cut (β:=Bool) 2 (.k [1,2,5,15,16,17,6] (fun v1=>[(34,vB v1)]) [0,15] (fun _=>[(5,.af 1 (zb zc (s1.set k2 (-2))))]) 32 fun _=>(.af rfl .nil)) (.aA 0 (.ite 2846 e1.own (.ix 2862 zi safe (i1:Int) fun e3=>.us [(4,2847),(6,2862)] (.ret (!e3))) (.use 4 2847 (.ret true)))) fun v1=>.ite 2848 v1 (.sel 2848 (.ret (s1.set k2 (-2)))) (.sel 2848 (.aA 0 (.ix 2864 (zI bk.row) a.bg (i1:Int) fun e4=>.use 3 2864 (.ln 2874 bk.row e4 (.use 5 2874 (.aE (σ:=Unit) (ρ:=(List Int)) 2850 41 (e4.length:Int) () (.k [1,2,5,15,16,17,6,39,40] (fun _=>[]) [0] (fun _=>[(5,.af 1 (zb zc (s1.set k2 (-2))))]) 39 fun _=>(.af rfl .nil)) (fun i2 s2=>.sel 2850 (.aA 0 (.ix 2866 bk.row e4 (i2:Int) fun e5=>.use 0 2866 (.aA 0 (.ix 2868 zi safe e5.to fun e6=>.use 3 2868 (.ite 2852 e6 (.sel 2852 (.aA 0 (.b1 2870 (zh k1 (i1:Int)) (fun k3=>.k k3) (fun k3 gU=>(zn gU)) fun k3=>.b1 2872 ((s1.set k2 (-2))[k3]?) (fun e7=>.aw (zu (zc e7)) (zb zc ((s1.set k2 (-2)).set k3 e5.step))) (fun e7 Bg=>(zN zc e5.step Bg)) fun e7=>.us [(4,2870),(5,2872)] (.ret (.inr ((s1.set k2 (-2)).set k3 e5.step)))))) (.sel 2852 (.ret (.inl ()))))))))) fun os2=>.case os2 (fun s2=>.sel 2850 (.ret (s1.set k2 (-2)))) fun y1=>.ret y1))))))))))) fun v2=>.ret (.inl v2))) fun os1=>.case os1 (fun s1=>.sel 2836 (.bind (dD k1 s1.length) (fun _=>[]) (fun _ _=>.nil) fun g2=>.fin [5] (.Zaj 5 0 k1) [(5,.af 1 (zb zc s1))] (.slice (ub zc s1)) (jy _ _ _ (zy (xd zc 5 1 k1 s1 g2.down rfl) qO)) s1)) fun _=>.none))))))
theorem UC (a:b9) (safe:List Bool) (res:List Int) (hd:Z9 a safe=some res):aJ C0 157 [.agg (b9.row a),.slice (ub zi safe)] (.slice (ub zc res)):=
 az.pure (iv:=fun res=>.slice (ub zc res)) (UB a safe) (by kernel_rfl) (az.aB hd (by kernel_rfl))
noncomputable def kz (a:b9) (from_:Int) (move:Int):Option (Int×Bool):=
 (ua (ze a.bg from_) fun e1=>(ua (aE (σ:=Unit) (ρ:=Int) (e1.length:Int) (fun i1 s1=>(ua (ze e1 (i1:Int)) fun e2=>(bif (e2.step == move) then some (.inr e2.to) else some (.inl ())))) ()) (uc (fun (s1:Unit)=>some (0,false)) (fun (y1:Int)=>some (y1,true)))))
noncomputable def UD (a:b9) (from_:Int) (move:Int):az (Int×Bool):=
 .aA 1 (.ix 2906 (zI bk.row) a.bg from_ fun e1=>.use 3 2906 (.ln 2910 bk.row e1 (.use 5 2910 (.aE (σ:=Unit) (ρ:=Int) 2902 16 (e1.length:Int) () (.e [2,14,15] (fun _=>[]) [] 10) (fun i1 s1=>.sel 2902 (.aA 0 (.ix 2908 bk.row e1 (i1:Int) fun e2=>.use 0 2908 (.ite 2904 (e2.step == move) (.sel 2904 (.ret (.inr e2.to))) (.sel 2904 (.ret (.inl ()))))))) fun os1=>.case os1 (fun s1=>.sel 2902 (.ret (0,false))) fun y1=>.ret (y1,true)))))
theorem Iz (a:b9) (from_:Int) (move:Int) (res:Int×Bool) (hd:kz a from_ move=some res):aJ C0 160 [.agg (b9.row a),.int .i64 from_,.int .i64 move] (.tuple [.int .i64 res.1,.bool res.2]):=
 az.pure (iv:=fun res=>.tuple [.int .i64 res.1,.bool res.2]) (UD a from_ move) (by kernel_rfl) (az.aB hd (by kernel_rfl))
noncomputable def Xx (act:Int) (after:Int):Option aK:=
 some ({kind:=1,bK:=0,act:=act,need:=1,start:=[],after:=after,bq:=0,bu:=false,final:=true,aL:=(-1),cX:=(-1),value:=({num:=0,den:=1}:aQ),unit:=(-1),to:=(-1),br:=false}:aK)
noncomputable def UG (act:Int) (after:Int):az aK:=
 .ret ({kind:=1,bK:=0,act:=act,need:=1,start:=[],after:=after,bq:=0,bu:=false,final:=true,aL:=(-1),cX:=(-1),value:=({num:=0,den:=1}:aQ),unit:=(-1),to:=(-1),br:=false}:aK)
theorem IA (act:Int) (after:Int) (res:aK) (hd:Xx act after=some res):aJ C0 187 [.int .i64 act,.int .i64 after] (.agg (aK.row res)):=
 az.pure (iv:=fun res=>.agg (aK.row res)) (UG act after) (by kernel_rfl) (az.aB hd (by kernel_rfl))
noncomputable def Ej (p1:Int) (p2:List aK):Option Unit:=
 some ()
noncomputable def UH (p1:Int) (p2:List aK):az Unit:=
 .ret ()
theorem UI (p1:Int) (p2:List aK) (res:Unit) (hd:Ej p1 p2=some res):dm C0 188 [vI p1,.Zaj 0 0 p2.length] [(0,.af 16 (zb aK.row p2))] 1 (.agg [vI 2,.Zaj 11 0 2,.nil,.Zaj 15 0 3,.Zaj 0 0 p2.length,vI p1,.nil]) [(0,.af 16 (zb aK.row p2)),(11,.af 1 [[vI 0],[vI 1]]),(15,.af 7 [[vI 1,vI 0,vI 0,vI (-1),vI (-1),vI 0,vI 1],[vI 1,vI 0,vI 0,vI (-1),vI (-1),vI 0,vI 1],[vI 1,vI 1,vI 0,vI (-1),vI (-1),vI 0,vI 1]])] 15:=
 az.dA (R:=fun res=>.agg [vI 2,.Zaj 11 0 2,.nil,.Zaj 15 0 3,.Zaj 0 0 p2.length,vI p1,.nil]) (H:=fun res=>[(0,.af 16 (zb aK.row p2)),(11,.af 1 [[vI 0],[vI 1]]),(15,.af 7 [[vI 1,vI 0,vI 0,vI (-1),vI (-1),vI 0,vI 1],[vI 1,vI 0,vI 0,vI (-1),vI (-1),vI 0,vI 1],[vI 1,vI 1,vI 0,vI (-1),vI (-1),vI 0,vI 1]])]) (UH p1 p2) (.af rfl .nil) (fun _=>(.af rfl (.exp rfl rfl (.exp rfl rfl .nil)))) (by kernel_rfl) (fun _=>by kernel_rfl) (by kernel_rfl) (az.aB hd (by kernel_rfl))
noncomputable def Cj (p1:aV):Option Unit:=
 some ()
noncomputable def UJ (p1:aV):az Unit:=
 .ret ()
theorem UK (p1:aV) (res:Unit) (hd:Cj p1=some res):dm C0 32 [.ap (.agg [.int .i64 p1.kind,.int .i64 p1.bK,.int .i64 p1.bN,.int .i64 p1.to,.int .i64 p1.unit,.int .i64 p1.dc.num,.int .i64 p1.dc.den])] [] 0 (vB (!(p1.kind == 1))) [] 0:=
 az.dA (R:=fun res=>vB (!(p1.kind == 1))) (H:=fun res=>[]) (UJ p1) .nil (fun _=>.nil) (by kernel_rfl) (fun _=>by kernel_rfl) (by kernel_rfl) (az.aB hd (by kernel_rfl))
noncomputable def Ck (p1:List aV):Option Int:=
 (ua (aE (σ:=Unit) (ρ:=Int) (p1.length:Int) (fun i1 s1=>(ua (ze p1 (i1:Int)) fun e1=>(ua (Cj e1) fun r1=>(bif (e1.kind == 1) then some (.inl ()) else some (.inr (i1:Int)))))) ()) (uc (fun (s1:Unit)=>some (-1)) (fun (y1:Int)=>some y1)))
noncomputable def UL (p1:List aV):az Int:=
 .aA 1 (.ln 3580 aV.row p1 (.use 1 3580 (.aE (σ:=Unit) (ρ:=Int) 3572 8 (p1.length:Int) () (.e [0,1,7] (fun _=>[]) [] 4) (fun i1 s1=>.sel 3572 (.aA 1 (.ix 3576 aV.row p1 (i1:Int) fun e1=>.b1 3578 (Cj e1) (fun r1=>.c [] 0 (vB (!(e1.kind == 1))) [] 0) (fun r1 ct=>(zf (UK e1 r1 ct) [] 12 .nil bw bw)) fun r1=>.us [(3,3576),(5,3578)] (.ite 3574 (e1.kind == 1) (.sel 3575 (.ret (.inl ()))) (.sel 3575 (.ret (.inr (i1:Int)))))))) fun os1=>.case os1 (fun s1=>.sel 3572 (.ret (-1))) fun y1=>.ret y1)))
theorem UM (p1:List aV) (res:Int) (hd:Ck p1=some res):dm C0 51 [.ap (.slice (ub aV.row p1)),.func 32 [] []] [] 0 (vI res) [] 0:=
 az.dA (R:=fun res=>vI res) (H:=fun res=>[]) (UL p1) .nil (fun _=>.nil) (by kernel_rfl) (fun _=>by kernel_rfl) (by kernel_rfl) (az.aB hd (by kernel_rfl))
noncomputable def Wl (p1:List aV):Option Bool:=
 (ua (Ck p1) fun r1=>some (decide (0≤r1)))
noncomputable def UN (p1:List aV):az Bool:=
 .aA 1 (.b1 3582 (Ck p1) (fun r1=>.c [] 0 (vI r1) [] 0) (fun r1 ct=>(zf (UM p1 r1 ct) [] 3 .nil bw bw)) fun r1=>.use 2 3582 (.ret (decide (0≤r1))))
theorem UO (p1:List aV) (res:Bool) (hd:Wl p1=some res):dm C0 31 [.ap (.slice (ub aV.row p1)),.func 32 [] []] [] 0 (vB res) [] 0:=
 az.dA (R:=fun res=>vB res) (H:=fun res=>[]) (UN p1) .nil (fun _=>.nil) (by kernel_rfl) (fun _=>by kernel_rfl) (by kernel_rfl) (az.aB hd (by kernel_rfl))
noncomputable def Wm (rec:Int→(List Int)→Option (Int×(List Int))) (p1:Int) (p2:List Int):Option (Int×(List Int)):=
 (ua (ua (zh 400 p1) fun k1=>(ua (p2[k1]?) fun e1=>(bif (e1 == p1) then some p2 else (ua (zh 400 p1) fun k2=>(ua (p2[k2]?) fun e2=>(ua (rec e2 p2) fun r1=>(ua (r1.2[k2]?) fun e3=>some (r1.2.set k2 r1.1)))))))) fun (v1:(List Int))=>(ua (zh 400 p1) fun k3=>(ua (v1[k3]?) fun e4=>some (e4,v1))))
noncomputable def UP (rec:Int→(List Int)→Option (Int×(List Int))) (mR:∀ (p1:Int) (p2:List Int) (res:Int×(List Int)),rec p1 p2=some res→dm C0 29 [vI p1,.ptr 0 0 0,.ptr 1 0 0] [(0,.af 1 (zb zc p2)),(1,.af 1 [[.func 29 [] [.ptr 0 0 0,.ptr 1 0 0]]])] 2 (vI res.1) [(0,.af 1 (zb zc res.2)),(1,.af 1 [[.func 29 [] [.ptr 0 0 0,.ptr 1 0 0]]])] 0) (p1:Int) (p2:List Int):az (Int×(List Int)):=
 .cut (β:=(List Int)) 2 (.k [0,1] (fun _=>[]) [1] (fun v1=>[(0,.af 1 (zb zc v1))]) 8 fun _=>(.af rfl .nil)) (.aA 0 (.b1 3590 (zh 400 p1) (fun k1=>.k k1) (fun k1 hk1=>(zn hk1)) fun k1=>.b1 3592 (p2[k1]?) (fun e1=>.ar (zu (zc e1))) (fun e1 eG=>(zR zc eG)) fun e1=>.us [(1,3590),(2,3592)] (.ite 3588 (e1 == p1) (.sel 3589 (.ret p2)) (.sel 3589 (.aA 0 (.b1 3594 (zh 400 p1) (fun k2=>.k k2) (fun k2 hk2=>(zn hk2)) fun k2=>.b1 3596 (p2[k2]?) (fun e2=>.ar (zu (zc e2))) (fun e2 ew=>(zR zc ew)) fun e2=>.b1 3598 (rec e2 p2) (fun r1=>.c [0,1] 2 (vI r1.1) [(0,.af 1 (zb zc r1.2))] 0) (fun r1 ct=>(zf (mR e2 p2 r1 ct) [0,1] 16 (.keep (.drop rfl rfl .nil)) (bG (bM bw)) (bG bw))) fun r1=>.b1 3600 (r1.2[k2]?) (fun e3=>.aw (zu (zc e3)) (zb zc (r1.2.set k2 r1.1))) (fun e3 fN=>(zN zc r1.1 fN)) fun e3=>.us [(3,3594),(4,3596),(5,3598),(6,3594),(7,3600)] (.ret (r1.2.set k2 r1.1)))))))) fun v1=>.aA 0 (.b1 3602 (zh 400 p1) (fun k3=>.k k3) (fun k3 gU=>(zn gU)) fun k3=>.b1 3604 (v1[k3]?) (fun e4=>.ar (zu (zc e4))) (fun e4 iE=>(zR zc iE)) fun e4=>.us [(1,3602),(2,3604)] (.ret (e4,v1)))
theorem UQ (rec:Int→(List Int)→Option (Int×(List Int))) (mR:∀ (p1:Int) (p2:List Int) (res:Int×(List Int)),rec p1 p2=some res→dm C0 29 [vI p1,.ptr 0 0 0,.ptr 1 0 0] [(0,.af 1 (zb zc p2)),(1,.af 1 [[.func 29 [] [.ptr 0 0 0,.ptr 1 0 0]]])] 2 (vI res.1) [(0,.af 1 (zb zc res.2)),(1,.af 1 [[.func 29 [] [.ptr 0 0 0,.ptr 1 0 0]]])] 0) (p1:Int) (p2:List Int) (res:Int×(List Int)) (hd:Wm rec p1 p2=some res):dm C0 29 [vI p1,.ptr 0 0 0,.ptr 1 0 0] [(0,.af 1 (zb zc p2)),(1,.af 1 [[.func 29 [] [.ptr 0 0 0,.ptr 1 0 0]]])] 2 (vI res.1) [(0,.af 1 (zb zc res.2)),(1,.af 1 [[.func 29 [] [.ptr 0 0 0,.ptr 1 0 0]]])] 0:=
 az.dA (R:=fun res=>vI res.1) (H:=fun res=>[(0,.af 1 (zb zc res.2)),(1,.af 1 [[.func 29 [] [.ptr 0 0 0,.ptr 1 0 0]]])]) (UP rec mR p1 p2) (.af rfl (.exp rfl rfl .nil)) (fun _=>(.af rfl (.exp rfl rfl .nil))) (by kernel_rfl) (fun _=>by kernel_rfl) (by kernel_rfl) (az.aB hd (by kernel_rfl))
noncomputable def xk:Nat→Int→(List Int)→Option (Int×(List Int))
 | 0=>fun _ _=>none
 | k+1=>Wm (xk k)
noncomputable def xD (p1:Int) (p2:List Int):Option (Int×(List Int)):=rD fun k=>xk k p1 p2
theorem IB:∀ (k:Nat) (p1:Int) (p2:List Int) (res:Int×(List Int)),xk k p1 p2=some res→dm C0 29 [vI p1,.ptr 0 0 0,.ptr 1 0 0] [(0,.af 1 (zb zc p2)),(1,.af 1 [[.func 29 [] [.ptr 0 0 0,.ptr 1 0 0]]])] 2 (vI res.1) [(0,.af 1 (zb zc res.2)),(1,.af 1 [[.func 29 [] [.ptr 0 0 0,.ptr 1 0 0]]])] 0
 | 0=>fun p1 p2 res h=>by cases h
 | k+1=>fun p1 p2 res h=>UQ (xk k) (IB k) p1 p2 res h
theorem Yx (p1:Int) (p2:List Int) (res:Int×(List Int)) (hd:xD p1 p2=some res):dm C0 29 [vI p1,.ptr 0 0 0,.ptr 1 0 0] [(0,.af 1 (zb zc p2)),(1,.af 1 [[.func 29 [] [.ptr 0 0 0,.ptr 1 0 0]]])] 2 (vI res.1) [(0,.af 1 (zb zc res.2)),(1,.af 1 [[.func 29 [] [.ptr 0 0 0,.ptr 1 0 0]]])] 0:=by
 obtain ⟨k,hk⟩:=OO hd
 exact IB k p1 p2 res hk
noncomputable def wX (p1:Int) (p2:Int) (p3:List Int):Option (List Int):=
 (ua (xD p1 p3) fun r1=>(ua (xD p2 r1.2) fun r2=>(ua (xD p1 r2.2) fun r3=>(ua (xD p2 r3.2) fun r4=>(ua (zh 400 (if r3.1 < r4.1 then r4.1 else r3.1)) fun k1=>(ua (r4.2[k1]?) fun e1=>some (r4.2.set k1 (if r2.1 < r1.1 then r2.1 else r1.1))))))))
noncomputable def UR (p1:Int) (p2:Int) (p3:List Int):az (List Int):=
 .aA 0 (.b1 3606 (xD p1 p3) (fun r1=>.c [1,0] 2 (vI r1.1) [(1,.af 1 (zb zc r1.2))] 0) (fun r1 ct=>(zf (Yx p1 p3 r1 ct) [1,0] 18 (.keep (.drop rfl rfl .nil)) (bG (bM bw)) (bG bw))) fun r1=>.b1 3608 (xD p2 r1.2) (fun r2=>.c [1,0] 2 (vI r2.1) [(1,.af 1 (zb zc r2.2))] 0) (fun r2 cz=>(zf (Yx p2 r1.2 r2 cz) [1,0] 18 (.keep (.drop rfl rfl .nil)) (bG (bM bw)) (bG bw))) fun r2=>.b1 3610 (xD p1 r2.2) (fun r3=>.c [1,0] 2 (vI r3.1) [(1,.af 1 (zb zc r3.2))] 0) (fun r3 eO=>(zf (Yx p1 r2.2 r3 eO) [1,0] 18 (.keep (.drop rfl rfl .nil)) (bG (bM bw)) (bG bw))) fun r3=>.b1 3612 (xD p2 r3.2) (fun r4=>.c [1,0] 2 (vI r4.1) [(1,.af 1 (zb zc r4.2))] 0) (fun r4 nM=>(zf (Yx p2 r3.2 r4 nM) [1,0] 18 (.keep (.drop rfl rfl .nil)) (bG (bM bw)) (bG bw))) fun r4=>.us [(2,3606),(5,3608),(9,3610),(12,3612)] (.aA 0 (.b1 3614 (zh 400 (if r3.1 < r4.1 then r4.1 else r3.1)) (fun k1=>.k k1) (fun k1 hk1=>(zn hk1)) fun k1=>.b1 3616 (r4.2[k1]?) (fun e1=>.aw (zu (zc e1)) (zb zc (r4.2.set k1 (if r2.1 < r1.1 then r2.1 else r1.1)))) (fun e1 eG=>(zN zc (if r2.1 < r1.1 then r2.1 else r1.1) eG)) fun e1=>.us [(2,3614),(3,3616)] (.ret (r4.2.set k1 (if r2.1 < r1.1 then r2.1 else r1.1))))))
theorem Ek (p1:Int) (p2:Int) (p3:List Int) (res:(List Int)) (hd:wX p1 p2 p3=some res):dm C0 30 [vI p1,vI p2,.ptr 0 0 0,.ptr 1 0 0] [(0,.af 1 [[.func 29 [] [.ptr 1 0 0,.ptr 0 0 0]]]),(1,.af 1 (zb zc p3))] 2 (.tuple []) [(0,.af 1 [[.func 29 [] [.ptr 1 0 0,.ptr 0 0 0]]]),(1,.af 1 (zb zc res))] 0:=
 az.dA (R:=fun res=>.tuple []) (H:=fun res=>[(0,.af 1 [[.func 29 [] [.ptr 1 0 0,.ptr 0 0 0]]]),(1,.af 1 (zb zc res))]) (UR p1 p2 p3) (.exp rfl rfl (.af rfl .nil)) (fun _=>(.exp rfl rfl (.af rfl .nil))) (by kernel_rfl) (fun _=>by kernel_rfl) (by kernel_rfl) (az.aB hd (by kernel_rfl))
noncomputable def kA (k:aK):Option (List Int):=
 (bif (k.aL == (-1)) then some [k.act] else some [k.act,k.aL,k.cX])
noncomputable def US (k:aK):az (List Int):=
 .ite 3620 (k.aL == (-1)) (.sel 3620 (.ret [k.act])) (.sel 3620 (.ret [k.act,k.aL,k.cX]))
theorem UT (k:aK) (res:List Int) (hd:kA k=some res):aJ C0 25 [.agg (aK.row k)] (.slice (ub zc res)):=
 az.pure (iv:=fun res=>.slice (ub zc res)) (US k) (by kernel_rfl) (az.aB hd (by kernel_rfl))
noncomputable def xN (i:Nat) (s:List (List Int)×List (Int×Int)×List Int):Option ((List (List Int)×List (Int×Int)×List Int) ⊕ Unit):=
 ua (xD (i:Int) s.2.2) fun r=>
  bif r.1 == (i:Int) then some (.inl (s.1++[[(i:Int)]],zJ (i:Int) (s.1.length:Int) s.2.1,r.2))
  else ua (ze s.1 ((zl r.1 s.2.1).getD 0)) fun l=>some (.inl (s.1.set ((zl r.1 s.2.1).getD 0).toNat (l++[(i:Int)]),s.2.1,r.2))
abbrev fK:AV:=.func 29 [] [.ptr 0 0 0,.ptr 1 0 0]
structure Bi where
 heap:List (Nat×aD)
 N:Nat
 P:Nat
 qs:List Nat
structure IC (i:Nat) (s:List (List Int)×List (Int×Int)×List Int) (c:Bi):Prop where
 nest:di c.heap c.N c.P c.qs s.1
 min:9≤c.N
 lt:∀ j o,za c.heap j=some o→j < c.N
 p0:c.P≠0
 p1:c.P≠1
 h0:za c.heap 0=some (.af 1 (zb zc s.2.2))
 h1:za c.heap 1=some (.af 1 [[fK]])
 h4:za c.heap 4=some (.map (zp IV.i64 IV.i64 s.2.1))
 len:s.1.length≤i
 lens:∀ (k:Nat) (L:List Int),s.1[k]?=some L→L.length≤i
def GS (n:Int) (i:Nat) (s:List (List Int)×List (Int×Int)×List Int) (c:Bi):St:=
 ⟨[(1,fK),(5,.Zaj c.P 0 s.1.length),(6,.map 4),(10,vI n),(11,vI (i:Int))],c.heap,c.N⟩
theorem UU {nt:Fr} (i:Int) (above:List Int) (r:Int×List Int) (hr:xD i above=some r) (x5 x6 ld:AV) (heap:List (Nat×aD)) (N:Nat) (hN:9≤N)
  (h0:za heap 0=some (.af 1 (zb zc above))) (h1:za heap 1=some (.af 1 [[fK]])) (P:Exit→St→Prop)
  (h:P .normal ⟨[(1,fK),(5,x5),(6,x6),(10,ld),(11,vI i),(7,vI i),(8,vI r.1)],zo heap 0 (.af 1 (zb zc r.2)),N+4⟩) :
  cB C0.plain nt (.region false [] DR (some [1,5,6,7,8,10,11])) P ⟨[(1,fK),(5,x5),(6,x6),(10,ld),(11,vI i),(7,vI i)],heap,N⟩:=by
 refine yn ?_
 have hd:=Yx i above r hr
 simp only [DR,Jb,FW,ZW,FY,ai,FX,kP,KW,reduceIte,uk,kN,kO,vO,kQ,ZX,KU,uB,uD,WK,ux,uu,ut,J8,ul,if_false]
 refine bH.dA (l:=[0,1]) (zf hd [0,1] (N+1+1) (.keep (.drop rfl rfl .nil)) (bG (bM bw)) (bG bw)) ?_ ?_ ?_
 ·simp only [yZ,Zy,um,uo,uC,uE]
  simp;try omega
 ·simp only [xy,h0,h1]
  rfl
 ·simp only [yl,St.put,kN,kO,vO,kQ,ZX,ul,if_false,reduceIte,kP,uk,J7,JH]
  simp [qC,uF,fG,vi]
  exact h
theorem xE {C:bz} {ord:List Nat} {K:St→Prop} {dst:Option Nat} {op:cO} {rest:List aM} {j:Nat} {W R:List (Nat×Nat)} {env:List (Nat×AV)} {heap:List (Nat×aD)} {next:Nat} (r:AV) (aN:List (Nat×aD)) (hc:(match op with | .call _ _=>true | _=>false)=false)
  (he:ai op (zd env) (za heap) next=some (r,aN)) (hk:xh ord j W R (z6 aN) (zj op (zd env))=true)
  (hn:lD C ord K rest (j+1) (qY j (z6 aN) W) (qY j (zj op (zd env)) R) (St.after ⟨env,heap,next⟩ dst r aN)):lD C ord K (⟨dst,op,none⟩::rest) j W R ⟨env,heap,next⟩:=by
 rw [FZ,F0]
 have e:∀ KD,dW C KD ⟨env,heap,next⟩ op=qr KD (zj op (zd env)) (ai op (zd env) (za heap) next):=fun KD=>by
  cases op<;>first | rfl | exact Bool.noConfusion hc
 rw [e,he]
 exact ⟨hk,hn⟩
theorem ID {ev:aZ→AV} {h:Nat→Option aD} {id Q k p:Nat} {a b:aZ} {af:List (List AV)} (hb:ev b=vI (p:Int)) (ha:ev a=.Zaj Q 0 k) (hQ:h Q=some (.af 1 af)) (hp:p < k):ai (.idx 1 a b) ev h id=some (.ptr Q p 0,[]):=by
 have i2:(p:Int) < (k:Int):=by omega
 simp [ai,hb,ha,vI,hQ,i2]
theorem UW {ev:aZ→AV} {h:Nat→Option aD} {id Q p:Nat} {a:aZ} {v:AV} {af:List (List AV)} (ha:ev a=.ptr Q p 0) (hQ:h Q=some (.af 1 af)) (hr:af[p]?=some [v]):ai (.load false 1 a) ev h id=some (v,[]):=by
 simp [ai,ha,hQ,hr]
theorem UX {ev:aZ→AV} {h:Nat→Option aD} {id q B:Nat} {a b:aZ} {v:IV} {af:List (List IV)} (ha:ev a=.aS q af) (hb:ev b=.Zaj B 0 1) (hB:h B=some (.af 1 [[.ap v]])) (hq:h q=some (.aU 1 af.length)) (hl:(af.length+1)*8≤140737488355328) :
  ai (.app 1 8 a b) ev h id=some (.aS q (af++[[v]]),[(q,.aU 1 (af.length+1))]):=by
 simp [ai,ha,hb,JO,xI,hB,hq,hl,aI,jm]
theorem UY {ev:aZ→AV} {h:Nat→Option aD} {id Q p q:Nat} {a b:aZ} {L:List (List IV)} {x:AV} {af:List (List AV)} (ha:ev a=.ptr Q p 0) (hb:ev b=.aS q L) (hQ:h Q=some (.af 1 af)) (hr:af[p]?=some [x]):ai (.store 1 a b) ev h id=some (.undef,[(Q,.af 1 (af.set p [.aS q L]))]):=by
 simp [ai,ha,hb,hQ,hr,cellsOf,qX]
set_option maxHeartbeats 4000000 in
theorem IE {C:bz} {nt:Fr} (i r:Int) (x1 ld:AV) (heap:List (Nat×aD)) (N Q k p q:Nat) (es:List (Int×Int)) (af:List (List AV)) (L:List Int) (hk:k=af.length)
  (hlt:∀ j o,za heap j=some o→j < N) (hQ:za heap Q=some (.af 1 af)) (h4:za heap 4=some (.map (zp IV.i64 IV.i64 es))) (hp:(zl r es).getD 0=(p:Int)) (hrow:af[p]?=some [.aS q (L.map zc)]) (hq:za heap q=some (.aU 1 L.length)) (hL:(L.length+1)*8≤140737488355328)
  (P:Exit→St→Prop)
  (h:P .normal ⟨[(1,x1),(5,.Zaj Q 0 k),(6,.map 4),(10,ld),(11,vI i)],zo (zo (zo heap (N+11) (.af 1 [[vI i]])) q (.aU 1 (L.length+1))) Q (.af 1 (af.set p [.aS q ((L++[i]).map zc)])),N+15⟩) :
  cB C nt (.region true [0,0,0,6,0,0,0,96,240,496,0,1024,4080,8191,16383] QF (some [1,5,6,10,11])) P ⟨[(1,x1),(5,.Zaj Q 0 k),(6,.map 4),(10,ld),(11,vI i),(7,vI i),(8,vI r)],heap,N⟩:=by
 refine F4 ?_
 have e1:Q < N:=hlt _ _ hQ
 have e2:q < N:=hlt _ _ hq
 have e3:Q≠q:=fun e=>by rw [e,hq] at hQ;cases hQ
 have e4:Q≠4:=fun e=>by rw [e,h4] at hQ;cases hQ
 have e5:q≠4:=fun e=>by rw [e,h4] at hq;cases hq
 have e6:(4:Nat) < N:=hlt _ _ h4
 have hpk:p < k:=by rw [hk];exact (ug.1 hrow).1
 have lk:X3 QF=false:=rfl
 rw [lk]
 have hf:(match qo (.int .i64 r) (zp IV.i64 IV.i64 es) with | some x=>x | none=>vI 0)=vI (p:Int):=by
  rw [wS]
  cases hm:zl r es with
  | none=>rw [hm] at hp;simp only [uy];rw [←hp];rfl
  | some v=>rw [hm] at hp;simp only [uj];rw [←hp];rfl
 have rJ:∀ (ev:aZ→AV) (h:Nat→Option aD) (id:Nat) (a b:aZ),ev a=.map 4→ev b=vI r→h 4=some (.map (zp IV.i64 IV.i64 es))→ai (.look false (.ap (.int .i64 0)) false a b) ev h id=some (vI (p:Int),[]):=by
  intro ev h id a b ha hb hh
  simp only [ai,ha,hb,vI,jw,hh,kS,wP]
  rw [wS]
  cases hm:zl r es with
  | none=>rw [hm] at hp;simp only [uy];simp at hp;simp [←hp]
  | some v=>rw [hm] at hp;simp only [uj];simp at hp;simp [←hp,IV.i64]
 show lD C _ (Zw _ P) QF 0 [] [] _
 unfold QF
 refine xE _ _ rfl rfl rfl ?_
 refine xE _ _ rfl rfl rfl ?_
 refine xE _ _ rfl rfl rfl ?_
 refine xE _ _ rfl (rJ _ _ _ _ _ rfl rfl h4) rfl ?_
 refine xE _ _ rfl rfl rfl ?_
 refine xE _ _ rfl rfl rfl ?_
 refine xE _ _ rfl rfl rfl ?_
 refine xE _ _ rfl (rJ _ _ _ _ _ rfl rfl h4) rfl ?_
 refine xE _ _ rfl (ID rfl rfl hQ hpk) rfl ?_
 refine xE _ _ rfl (UW rfl hQ hrow) rfl ?_
 refine xE _ _ rfl rfl rfl ?_
 have n1:N+11≠Q:=by omega
 have n2:N+11≠q:=by omega
 have n3:N+11≠4:=by omega
 have Bh:za (zo heap (N+11) (.af 1 [[vI i]])) Q=some (.af 1 af):=by rw [zr,if_neg n1];exact hQ
 have hq1:za (zo heap (N+11) (.af 1 [[vI i]])) q=some (.aU 1 (L.map zc).length):=by rw [zr,if_neg n2,uz];exact hq
 have hB:za (zo heap (N+11) (.af 1 [[vI i]])) (N+11)=some (.af 1 [[vI i]]):=by rw [zr,if_pos rfl]
 show lD C _ _ _ 11 [] [(9,Q),(8,Q),(7,4),(3,4)] ⟨[(1,x1),(5,.Zaj Q 0 k),(6,.map 4),(10,ld),(11,vI i),(7,vI i),(8,vI r),(27,.Zaj Q 0 k),(28,.map 4),(29,vI r),(30,vI (p:Int)),(31,.Zaj Q 0 k),(32,.map 4),(33,vI r),(34,vI (p:Int)),(35,.ptr Q p 0),(36,.aS q (L.map zc)),(37,vI i)],heap,N+11⟩
 have m1:Q≠N+11:=by omega
 have m2:q≠N+11:=by omega
 have m3:4≠N+11:=by omega
 have UZ:¬ q=Q:=fun e=>e3 e.symm
 refine xE (.Zaj (N+11) 0 1) [(N+11,.af 1 [[vI i]])] rfl rfl ?_ ?_
 ·simp [xh,z6,m1,m3]
 show lD C _ _ _ 12 [(11,N+11)] [(9,Q),(8,Q),(7,4),(3,4)] ⟨[(1,x1),(5,.Zaj Q 0 k),(6,.map 4),(10,ld),(11,vI i),(7,vI i),(8,vI r),(27,.Zaj Q 0 k),(28,.map 4),(29,vI r),(30,vI (p:Int)),(31,.Zaj Q 0 k),(32,.map 4),(33,vI r),(34,vI (p:Int)),(35,.ptr Q p 0),(36,.aS q (L.map zc)),(37,vI i),(38,.Zaj (N+11) 0 1)],(zo heap (N+11) (.af 1 [[vI i]])),N+12⟩
 refine xE (.aS q (L.map zc++[zc i])) [(q,.aU 1 ((L.map zc).length+1))] rfl (UX rfl rfl hB hq1 (by simpa using hL)) ?_ ?_
 ·simp [xh,z6,ed,e3,e5,Ne.symm e5,m2]
 show lD C _ _ _ 13 [(12,q),(11,N+11)] _ ⟨[(1,x1),(5,.Zaj Q 0 k),(6,.map 4),(10,ld),(11,vI i),(7,vI i),(8,vI r),(27,.Zaj Q 0 k),(28,.map 4),(29,vI r),(30,vI (p:Int)),(31,.Zaj Q 0 k),(32,.map 4),(33,vI r),(34,vI (p:Int)),(35,.ptr Q p 0),(36,.aS q (L.map zc)),(37,vI i),(38,.Zaj (N+11) 0 1),(39,.aS q (L.map zc++[zc i]))],(zo (zo heap (N+11) (.af 1 [[vI i]])) q (.aU 1 ((L.map zc).length+1))),N+13⟩
 have IF:za (zo (zo heap (N+11) (.af 1 [[vI i]])) q (.aU 1 ((L.map zc).length+1))) Q=some (.af 1 af):=by rw [zr,if_neg UZ];exact Bh
 refine xE (.ptr Q p 0) [] rfl (ID rfl rfl IF hpk) ?_ ?_
 ·simp [xh,z6,ed]
 show lD C _ _ _ 14 [(12,q),(11,N+11)] _ ⟨[(1,x1),(5,.Zaj Q 0 k),(6,.map 4),(10,ld),(11,vI i),(7,vI i),(8,vI r),(27,.Zaj Q 0 k),(28,.map 4),(29,vI r),(30,vI (p:Int)),(31,.Zaj Q 0 k),(32,.map 4),(33,vI r),(34,vI (p:Int)),(35,.ptr Q p 0),(36,.aS q (L.map zc)),(37,vI i),(38,.Zaj (N+11) 0 1),(39,.aS q (L.map zc++[zc i])),(40,.ptr Q p 0)],(zo (zo heap (N+11) (.af 1 [[vI i]])) q (.aU 1 ((L.map zc).length+1))),N+14⟩
 refine xE .undef _ rfl (UY rfl rfl IF hrow) ?_ ?_
 ·simp [xh,z6,ed]
 show Zw _ P ⟨[(1,x1),(5,.Zaj Q 0 k),(6,.map 4),(10,ld),(11,vI i),(7,vI i),(8,vI r),(27,.Zaj Q 0 k),(28,.map 4),(29,vI r),(30,vI (p:Int)),(31,.Zaj Q 0 k),(32,.map 4),(33,vI r),(34,vI (p:Int)),(35,.ptr Q p 0),(36,.aS q (L.map zc)),(37,vI i),(38,.Zaj (N+11) 0 1),(39,.aS q (L.map zc++[zc i])),(40,.ptr Q p 0)],zo (zo (zo heap (N+11) (.af 1 [[vI i]])) q (.aU 1 ((L.map zc).length+1))) Q (.af 1 (af.set p [.aS q (L.map zc++[zc i])])),N+15⟩
 rw [J7]
 rw [List.map_append,uz] at *
 exact h
theorem kV {C:bz} {K:St→Prop} {dst:Option Nat} {op:cO} {rest:List aM} {env:List (Nat×AV)} {heap:List (Nat×aD)} {next:Nat} (r:AV) (aN:List (Nat×aD)) (hc:(match op with | .call _ _=>true | _=>false)=false)
  (he:ai op (zd env) (za heap) next=some (r,aN)) (hn:mj C rest K (St.after ⟨env,heap,next⟩ dst r aN)):mj C (⟨dst,op,none⟩::rest) K ⟨env,heap,next⟩:=by
 rw [Jb,ZW]
 have e:∀ K,bX C dst K ⟨env,heap,next⟩ op=z7 dst K ⟨env,heap,next⟩ (ai op (zd env) (za heap) next):=fun KD=>by
  cases op<;>first | rfl | exact Bool.noConfusion hc
 rw [e,he]
 exact hn
theorem U0 {env env':List (Nat×AV)} {heap:List (Nat×aD)} {N:Nat} (h:∀ t x,za env' t=some x→za env t=some x):bO ⟨env,heap,N⟩ ⟨env',heap,N⟩:=fun C nt g a w R=>
 ⟨g,⟨⟨R.env.size,R.env.defers,fun t x hx=>R.env.slot t x (h t x hx)⟩,R.heap⟩,fun _ _ _ _ E=>E⟩
theorem IG {α:Type}:∀ (l m:List (Nat×α)) (t:Nat) (x:α),za l t=some x→za (l++m) t=some x
 | [],m,t,x,h=>by cases h
 | (k,v)::l,m,t,x,h=>by
  simp only [ut,za] at h ⊢
  split
  ·rename_i e;rw [if_pos e] at h;exact h
  ·rename_i e;rw [if_neg e] at h;exact IG l m t x h
theorem U1 (env ext:List (Nat×AV)) (heap:List (Nat×aD)) (N:Nat):bO ⟨env++ext,heap,N⟩ ⟨env,heap,N⟩:=U0 fun t x h=>IG env ext t x h
theorem II {C:bz} {nt:Fr} (x1 x5 x6 ld:AV) (i:Int) (heap:List (Nat×aD)) (N:Nat) (P:Exit→St→Prop) (h:P .normal ⟨[(1,x1),(5,x5),(6,x6),(10,ld),(11,vI (IntKind.i64.wrap (i+1)))],heap,N+2⟩) :
 cB C nt (.region false [] HH (some [1,5,6,10,11])) P ⟨[(1,x1),(5,x5),(6,x6),(10,ld),(11,vI i)],heap,N⟩:=qR [] .nil h (by kernel_rfl)
theorem IJ (k:Int) (v:Int):∀ es:List (Int×Int),zl k (zJ k v es)=some v
 | []=>by simp [zJ,zl]
 | (k',v')::r=>by
  have ih:=IJ k v r
  by_cases e:k=k'
  ·simp only [zJ,if_pos e,zl,if_true]
  ·simp only [zJ,if_neg e,zl];exact ih
theorem U2 {ev:aZ→AV} {h:Nat→Option aD} {id M:Nat} {a b c:aZ} {i v:Int} {es:List (Int×Int)} (ha:ev a=.map M) (hb:ev b=vI i) (hc:ev c=vI v) (hM:h M=some (.map (zp IV.i64 IV.i64 es))) :
  ai (.upd false a b c) ev h id=some (.undef,[(M,.map (zp IV.i64 IV.i64 (zJ i v es)))]):=by
 have:=(W5 IV.i64 i v es).2
 simp only [ai,ha,hb,hc,hM,vI,xJ,kS,wP]
 simp only [IV.i64] at this ⊢
 simp [this]
theorem U3 {ev:aZ→AV} {h:Nat→Option aD} {id Q k sz:Nat} {a:aZ} {af:List (List AV)} (ha:ev a=.Zaj Q 0 k) (hQ:h Q=some (.af sz af)):ai (.len a) ev h id=some (vI (k:Int),[]):=by
 simp [ai,ha,wv,hQ]
theorem U4 {ev:aZ→AV} {h:Nat→Option aD} {id Q B k:Nat} {a b:aZ} {v:AV} {af:List (List AV)} (ha:ev a=.Zaj Q 0 k) (hb:ev b=.Zaj B 0 1) (hB:h B=some (.af 1 [[v]])) (hQ:h Q=some (.af 1 af)) (hk:k=af.length) (hl:(k+1)*24≤140737488355328) :
  ai (.app 1 24 a b) ev h id=some (.Zaj id 0 (k+1),[(id,.af 1 (af++[[v]])),(Q,.dead)]):=by
 subst hk
 simp [ai,ha,hb,QZ,jP,hB,hQ,hl]
theorem U5 {C:bz} {nt:Fr} (i r:Int) (x1 ld Bj U6:AV) (heap:List (Nat×aD)) (N Q k:Nat) (es:List (Int×Int)) (af:List (List AV)) (hQ:za heap Q=some (.af 1 af)) (h4:za heap 4=some (.map (zp IV.i64 IV.i64 es))) (P:Exit→St→Prop)
  (h:P .normal ⟨[(1,x1),(5,.Zaj Q 0 k),(6,.map 4),(10,ld),(11,Bj),(7,vI i),(8,vI r)],zo heap 4 (.map (zp IV.i64 IV.i64 (zJ i (k:Int) es))),N+5⟩) :
  cB C nt (.region false [] DS (some [1,5,6,7,8,10,11])) P ⟨[(1,x1),(5,.Zaj Q 0 k),(6,.map 4),(10,ld),(11,Bj),(7,vI i),(8,vI r),(19,U6)],heap,N⟩:=by
 refine yn ?_
 unfold DS
 refine kV _ _ rfl rfl ?_
 refine kV _ _ rfl rfl ?_
 refine kV _ _ rfl rfl ?_
 refine kV (vI (k:Int)) [] rfl (U3 rfl hQ) ?_
 refine kV _ _ rfl (U2 rfl rfl rfl h4) ?_
 exact h
theorem U7 {C:bz} {nt:Fr} (x1 x6 x7 x8 ld Bj:AV) (heap:List (Nat×aD)) (N Q k:Nat) (af:List (List AV)) (hk:k=af.length) (Iv:Q < N) (hQ:za heap Q=some (.af 1 af)) (hl:(k+1)*24≤140737488355328) (P:Exit→St→Prop)
  (h:P .normal ⟨[(1,x1),(5,.Zaj (N+2) 0 (k+1)),(6,x6),(10,ld),(11,Bj),(7,x7),(8,x8)],zo (zo (zo heap (N+1) (.af 1 [[.nil]])) Q .dead) (N+2) (.af 1 (af++[[.nil]])),N+4⟩) :
  cB C nt (.region false [] DT (some [1,5,6,7,8,10,11])) P ⟨[(1,x1),(5,.Zaj Q 0 k),(6,x6),(10,ld),(11,Bj),(7,x7),(8,x8)],heap,N⟩:=by
 refine yn ?_
 unfold DT
 refine kV _ _ rfl rfl ?_
 refine kV (.Zaj (N+1) 0 1) [(N+1,.af 1 [[.nil]])] rfl rfl ?_
 have hB:za (zo heap (N+1) (.af 1 [[.nil]])) (N+1)=some (.af 1 [[.nil]]):=by rw [zr,if_pos rfl]
 have Bh:za (zo heap (N+1) (.af 1 [[.nil]])) Q=some (.af 1 af):=by rw [zr,if_neg (by omega)];exact hQ
 refine kV _ _ rfl (U4 rfl rfl hB Bh hk hl) ?_
 refine kV _ _ rfl rfl ?_
 exact h
noncomputable def wl (n:Int) (above:List Int):Option (List (List Int)×List Int):=
 bif decide (n≤1000000000000) then ua (aE (σ:=List (List Int)×List (Int×Int)×List Int) (ρ:=Unit) n xN ([],[],above)) (uc (fun s=>some (s.1,s.2.2)) (fun _=>none)) else none
theorem IK {i:Nat} {Ls:List (List Int)} {es:List (Int×Int)} {above:List Int} {heap:List (Nat×aD)} {N P:Nat} {qs:List Nat}
  (hN:di heap N P qs Ls) (hmin:9≤N) (hlt:∀ j o,za heap j=some o→j < N) (p0:P≠0) (p1:P≠1) (h0:za heap 0=some (.af 1 (zb zc above))) (h1:za heap 1=some (.af 1 [[fK]])) (h4:za heap 4=some (.map (zp IV.i64 IV.i64 es)))
  (hlen:Ls.length≤i+1) (gW:∀ (k:Nat) (L:List Int),Ls[k]?=some L→L.length≤i) {p q:Nat} {L:List Int} (hL:Ls[p]?=some L) (hq:qs[p]?=some q) :
  IC (i+1) (Ls.set p (L++[(i:Int)]),es,above) ⟨zo (zo (zo heap (N+11) (.af 1 [[vI (i:Int)]])) q (.aU 1 (L.length+1))) P (.af 1 ((qa qs Ls).set p [.aS q ((L++[(i:Int)]).map zc)])),N+17,P,qs⟩:=by
 have ht:=hN.aU p q L hq hL
 have A3:q≠P:=fun e=>by rw [e,hN.obj] at ht;cases ht
 have HF:P < N:=hlt _ _ hN.obj
 have PB:q < N:=hlt _ _ ht
 have hE:∀ j,j≠P→j≠q→(za heap j).isSome=true→za (zo (zo (zo heap (N+11) (.af 1 [[vI (i:Int)]])) q (.aU 1 (L.length+1))) P (.af 1 ((qa qs Ls).set p [.aS q ((L++[(i:Int)]).map zc)]))) j=za heap j:=fun j a b c=>by
  obtain ⟨o,ho⟩:=ur.1 c
  have:=hlt j o ho
  rw [zr,if_neg (Ne.symm a),zr,if_neg (Ne.symm b),zr,if_neg (by omega)]
 refine ⟨hN.grow hq (by rw [zr,if_pos rfl,WO qs Ls p q _ hq]) (by rw [zr,if_neg (Ne.symm A3),zr,if_pos rfl];simp) hE,by show 9≤N+17;omega,fun j o ho => ?_,p0,p1,?_,?_,?_,by simpa using hlen,fun k' L' h' => ?_⟩
 ·show j < N+17
  simp only [zr] at ho
  split at ho
  ·omega
  ·split at ho
   ·omega
   ·split at ho
    ·omega
    ·have:=hlt j o ho;omega
 ·simp only;rw [hE 0 (Ne.symm p0) (fun e=>by rw [←e,h0] at ht;cases ht) (by rw [h0];rfl)];exact h0
 ·simp only;rw [hE 1 (Ne.symm p1) (fun e=>by rw [←e,h1] at ht;cases ht) (by rw [h1];rfl)];exact h1
 ·simp only;rw [hE 4 (fun e=>by have:=hN.obj;rw [←e,h4] at this;cases this) (fun e=>by rw [←e,h4] at ht;cases ht) (by rw [h4];rfl)];exact h4
 ·simp only at h'
  by_cases e:k'=p
  ·subst e
   have hlt':=(ug.1 hL).1
   rw [List.getElem?_set_self hlt'] at h'
   cases h'
   have:=gW k' L hL
   simp;omega
  ·rw [List.getElem?_set_ne (Ne.symm e)] at h'
   have:=gW k' L' h'
   omega
theorem di.push {heap heap':List (Nat×aD)} {N N' P P' q:Nat} {qs:List Nat} {Ls:List (List Int)} (h:di heap N P qs Ls) (hlt:∀ j o,za heap j=some o→j < q) (hP:za heap' P'=some (.af 1 (qa (qs++[q]) (Ls++[[]])))) (hq:za heap' q=some (.aU 1 0))
  (hE:∀ (k q':Nat),qs[k]?=some q'→(za heap q').isSome=true→za heap' q'=za heap q'):di heap' N' P' (qs++[q]) (Ls++[[]]):=by
 have hold:∀ (k q':Nat),qs[k]?=some q'→q' < q:=fun k q' hk=>by
  have hl:k < Ls.length:=by rw [←h.len];exact (ug.1 hk).1
  exact hlt q' _ (h.aU k q' Ls[k] hk (by simp))
 refine ⟨hP,fun k q' L h1 h2 => ?_,by simp [h.len],fun i j q' h1 h2 => ?_⟩
 ·rcases uw k qs.length with hk | hk
  ·rw [uh hk] at h1
   rw [uh (by rw [←h.len];exact hk)] at h2
   have:=h.aU k q' L h1 h2
   rw [hE k q' h1 (by rw [this];rfl)];exact this
  ·rw [ue hk] at h1
   rw [ue (by rw [←h.len];exact hk)] at h2
   rw [←h.len] at h2
   cases hd:k - qs.length with
   | zero=>rw [hd] at h1 h2;simp at h1 h2;subst h1 h2;exact hq
   | succ n=>rw [hd] at h1;simp at h1
 ·have key:∀ k,(qs++[q])[k]?=some q'→(k < qs.length∧qs[k]?=some q')∨(k=qs.length∧q'=q):=fun k hk=>by
   rcases uw k qs.length with hlt | hge
   ·rw [uh hlt] at hk;exact .inl ⟨hlt,hk⟩
   ·rw [ue hge] at hk
    cases hd:k - qs.length with
    | zero=>rw [hd] at hk;simp at hk;exact .inr ⟨by omega,hk.symm⟩
    | succ n=>rw [hd] at hk;simp at hk
  rcases key i h1 with ⟨a1,a2⟩ | ⟨a1,a2⟩<;>rcases key j h2 with ⟨b1,b2⟩ | ⟨b1,b2⟩
  ·exact h.nd i j q' a2 b2
  ·have:=hold i q' a2;omega
  ·have:=hold j q' b2;omega
  ·omega
theorem di.frame {heap:List (Nat×aD)} {N N' P:Nat} {qs:List Nat} {Ls:List (List Int)} (h:di heap N P qs Ls) (x:Nat) (hx:x≠P) (hx2:∀ sz len,za heap x≠some (.aU sz len)) (o:aD):di (zo heap x o) N' P qs Ls:=
 ⟨by rw [zr,if_neg hx];exact h.obj,fun k q L h1 h2=>by
  have:=h.aU k q L h1 h2
  rw [zr,if_neg (fun e=>hx2 _ _ (by rw [e];exact this))];exact this,h.len,h.nd⟩
theorem yz {heap:List (Nat×aD)} {N N' x:Nat} {o:aD} (h:∀ j o,za heap j=some o→j < N) (hN:N≤N') (hx:x < N'):∀ j o',za (zo heap x o) j=some o'→j < N':=fun j o' hj=>by
 rw [zr] at hj
 split at hj
 ·omega
 ·have:=h j o' hj;omega
theorem U8 {heap:List (Nat×aD)} {N N' x:Nat} {o:aD} (h:∀ j o,za heap j=some o→j < N) (hN:N≤N') (hx:x < N'):∀ j o',za (zk heap x o) j=some o'→j < N':=fun j o' hj=>by
 rw [zm] at hj
 split at hj
 ·omega
 ·have:=h j o' hj;omega
theorem U9 {heap:List (Nat×aD)} {N P:Nat} {qs:List Nat} {Ls:List (List Int)} {above:List Int} (h:di heap N P qs Ls) (hmin:9≤N) (hlt:∀ j o,za heap j=some o→j < N) (p0:P≠0) (p1:P≠1) (h0:za heap 0=some (.af 1 (zb zc above))) (h1:za heap 1=some (.af 1 [[fK]])) :
  bO ⟨[(0,.Zaj P 0 Ls.length)],heap,N⟩ ⟨[(0,.ap (.slice (ub (zI zc) Ls)))],[(0,.af 1 (zb zc above)),(1,.af 1 [[fK]])],2⟩:=by
 have w1:=GO (st:=⟨[(0,.Zaj P 0 Ls.length)],heap,N⟩) P 1 (qa qs Ls) (zb (zI zc) Ls) h.obj (V4 qs Ls h.len)
 have w2:=WL (st:=⟨[(0,.Zaj P 0 Ls.length)],zk heap P (.af 1 (zb (zI zc) Ls)),N⟩) P 1 0 Ls.length (ub (zI zc) Ls) (ub (zI zc) Ls) [] _ (by simp only;rw [zm,if_pos rfl]) (ke _ _) (GN _ _) (by
  have e1:∀ hp:List (Nat×aD),W6 P 0 Ls.length [] hp=[]:=fun hp=>by
   induction hp with
   | nil=>rfl
   | cons a l ih=>obtain ⟨k,o⟩:=a;simp only [W6,ih];simp
  rw [e1]
  simp only [uu,Y6,V2,Ze,if_pos]
  exact .cons (by simp) .nil)
 have w3:=(bO.andThen w1 w2 (ui _))
 refine bO.andThen w3 (Qz (by simp only;omega) ?_ ?_) (by simp only;omega)
 ·intro p hp
  simp only [uq,un,or_false] at hp
  subst hp
  exact ⟨by simp [Y7,Ji,Zd],rfl⟩
 ·intro p hp
  simp only [uq,un,or_false] at hp
  rcases hp with rfl | rfl
  ·refine ⟨?_,by simp,wK _ _ _ _⟩
   simp only [kT,zm,if_neg p0,h0,uj,if_neg (Ne.symm p0)]
   simp
  ·refine ⟨?_,by simp,vQ (by kernel_rfl)⟩
   simp only [kT,zm,if_neg p1,h1,uj,if_neg (Ne.symm p1)]
   simp
set_option maxHeartbeats 4000000 in
theorem ziL  (p1:Int) (p2:List Int) (res:List (List Int)×List Int) (hd:wl p1 p2=some res):dm C0 33 [vI p1,.func 29 [] [.ptr 0 0 0,.ptr 1 0 0]] [(0,.af 1 (zb zc p2)),(1,.af 1 [[.func 29 [] [.ptr 0 0 0,.ptr 1 0 0]]])] 2 (.ap (.slice (ub (zI zc) res.1))) [(0,.af 1 (zb zc res.2)),(1,.af 1 [[.func 29 [] [.ptr 0 0 0,.ptr 1 0 0]]])] 0:=by
 unfold wl at hd
 rcases N7 hd with ⟨hn,hd⟩ | ⟨_,hd⟩
 case inr=>cases hd
 have hn:p1≤1000000000000:=of_decide_eq_true hn
 obtain ⟨o,hl,hd⟩:=xY hd
 refine dm.start PY (by simp [Ca]) (.af (by rfl) (.exp (by rfl) (by kernel_rfl) .nil)) (.af (by rfl) (.exp (by rfl) (by kernel_rfl) .nil)) (by kernel_rfl) (by kernel_rfl) (by kernel_rfl) (by kernel_rfl) ?_
 intro B
 show cB C0.plain _ Ca.body (GJ Ca.results _ _ _) ⟨[(0,vI p1),(1,fK)],[(0,.af 1 (zb zc p2)),(1,.af 1 [[fK]])],2⟩
 refine qg ?_
 refine qR (aX:=⟨[(0,vI p1),(1,fK)],[(0,.af 1 (zb zc p2)),(1,.af 1 [[fK]])],3⟩) [] .nil ?_ (by kernel_rfl)
 refine qA ?_
 refine qg ?_
 refine qR (aX:=⟨[(0,vI p1),(1,fK),(5,.nil)],[(0,.af 1 (zb zc p2)),(1,.af 1 [[fK]])],4⟩) [] .nil ?_ (by kernel_rfl)
 refine qA ?_
 refine qg ?_
 refine qR (aX:=⟨[(0,vI p1),(1,fK),(5,.nil),(6,.map 4)],[(0,.af 1 (zb zc p2)),(1,.af 1 [[fK]]),(4,.map [])],6⟩) [] .nil ?_ (by kernel_rfl)
 refine qA ?_
 refine qg ?_
 refine qg ?_
 refine qR (aX:=⟨[(1,fK),(5,.nil),(6,.map 4),(10,vI p1),(11,vI 0)],[(0,.af 1 (zb zc p2)),(1,.af 1 [[fK]]),(4,.map [])],8⟩) [] .nil ?_ (by kernel_rfl)
 refine qA ?_
 refine vn ?_
 refine yi (Xk (t:=5) 1 rfl) (by simp) ?_
 show cB C0.plain _ _ _ ⟨[(1,fK),(5,.Zaj 8 0 0),(6,.map 4),(10,vI p1),(11,vI 0)],[(0,.af 1 (zb zc p2)),(1,.af 1 [[fK]]),(4,.map []),(8,.af 1 [])],9⟩
 refine OU hl IC (GS p1) (fun i s c hok=>hok.min) ⟨[(0,.af 1 (zb zc p2)),(1,.af 1 [[fK]]),(4,.map []),(8,.af 1 [])],9,8,[]⟩ ?_ rfl (bO.refl _) ?_ ?_
 ·refine ⟨⟨rfl,fun k q L h1=>by simp at h1,rfl,fun i j q h1=>by simp at h1⟩,by simp,fun j o h => ?_,by simp,by simp,rfl,rfl,rfl,by simp,fun k L h=>by simp at h⟩
  simp only [za] at h
  show j < 9
  repeat (split at h;omega)
  cases h
 ·rintro i ⟨Ls,es,above⟩ ⟨heap,N,P,qs⟩ o hok hi hw hs
  obtain ⟨r,hr,hs⟩:=xY hs
  simp only at hr hs
  show cB C0.plain _ _ _ ⟨[(1,fK),(5,.Zaj P 0 Ls.length),(6,.map 4),(10,vI p1),(11,vI (i:Int))],heap,N⟩
  refine qg ?_
  refine qR (aX:=⟨[(1,fK),(5,.Zaj P 0 Ls.length),(6,.map 4),(10,vI p1),(11,vI (i:Int)),(12,vB (decide ((i:Int) < p1)))],heap,N+1⟩) [] .nil ?_ (by kernel_rfl)
  refine qA ?_
  refine qg ?_
  refine Oc (by simp [*]) ?_
  refine Zr ?_
  refine qA ?_
  refine qg ?_
  refine vn ?_
  refine qg ?_
  refine qR (aX:=⟨[(1,fK),(5,.Zaj P 0 Ls.length),(6,.map 4),(10,vI p1),(11,vI (i:Int)),(7,vI (i:Int))],heap,N+3⟩) [] .nil ?_ (by kernel_rfl)
  refine qA ?_
  refine qg ?_
  have hmin:=hok.min
  simp only at hmin
  refine UU (i:Int) above r hr _ _ _ heap (N+3) (by omega) hok.h0 hok.h1 _ ?_
  refine qA ?_
  refine qg ?_
  refine qg ?_
  refine qR (aX:=⟨[(1,fK),(5,.Zaj P 0 Ls.length),(6,.map 4),(10,vI p1),(11,vI (i:Int)),(7,vI (i:Int)),(8,vI r.1),(19,vB (r.1 == (i:Int)))],zo heap 0 (.af 1 (zb zc r.2)),N+10⟩) [] .nil ?_ (by kernel_rfl)
  refine qA ?_
  have dl:di (zo heap 0 (.af 1 (zb zc r.2))) (N+10) P qs Ls:=hok.nest.frame 0 (Ne.symm hok.p0) (fun sz len e=>by have:=hok.h0;simp only at this;rw [this] at e;cases e) _
  have oC:∀ j o,za (zo heap 0 (.af 1 (zb zc r.2))) j=some o→j < N+10:=yz hok.lt (by simp only;omega) (by omega)
  have HF:P < N:=hok.lt _ _ hok.nest.obj
  have P4:P≠4:=fun e=>by have h1:=hok.nest.obj;have h2:=hok.h4;simp only at h1 h2;rw [e,h2] at h1;cases h1
  have g0:za (zo heap 0 (.af 1 (zb zc r.2))) 0=some (.af 1 (zb zc r.2)):=by rw [zr,if_pos rfl]
  have g1:za (zo heap 0 (.af 1 (zb zc r.2))) 1=some (.af 1 [[fK]]):=by rw [zr,if_neg (by omega)];exact hok.h1
  have g4:za (zo heap 0 (.af 1 (zb zc r.2))) 4=some (.map (zp IV.i64 IV.i64 es)):=by rw [zr,if_neg (by omega)];exact hok.h4
  have hlen:=hok.len
  have gW:=hok.lens
  simp only at hlen gW
  have rK:=hok.p0
  have mi:=hok.p1
  simp only at rK mi
  generalize zo heap 0 (.af 1 (zb zc r.2))=ck at *
  have hrl:=WM dl.len
  refine F5 (r.1 == (i:Int)) rfl (fun g => ?_) (fun g => ?_)
  ·replace hs:=F7 g hs
   cases hs
   have gi:r.1=(i:Int):=by simpa using g
   rw [gi]
   refine qg ?_
   refine U5 (i:Int) (i:Int) _ _ _ _ ck (N+10) P Ls.length es (qa qs Ls) dl.obj g4 _ ?_
   refine qA ?_
   have hP1:za (zo ck 4 (.map (zp IV.i64 IV.i64 (zJ (i:Int) (Ls.length:Int) es)))) P=some (.af 1 (qa qs Ls)):=by rw [zr,if_neg (Ne.symm P4)];exact dl.obj
   refine U7 _ _ _ _ _ _ _ (N+15) P Ls.length (qa qs Ls) hrl.symm (by omega) hP1 (by omega) _ ?_
   refine qA ?_
   refine yi (K5 (N+17) 1 1 (qa qs Ls++[[.nil]]) Ls.length 0 [.nil] (by simp only;rw [zr,if_pos rfl]) (by rw [←hrl];simp) rfl) (by simp) ?_
   have El:(qa qs Ls++[[AV.nil]]).set Ls.length ([AV.nil].set 0 (.aS (N+19) []))=qa (qs++[N+19]) (Ls++[[]]):=by
    rw [OV qs Ls (N+19) [] dl.len,←hrl]
    simp
   simp only
   rw [show N+15+4=N+19 from rfl,show N+15+2=N+17 from rfl,show N+15+1=N+16 from rfl,El]
   generalize hH:zk (zo (zo (zo (zo (zo ck 4 (.map (zp IV.i64 IV.i64 (zJ (i:Int) (Ls.length:Int) es)))) (N+16) (.af 1 [[.nil]])) P .dead) (N+17) (.af 1 (qa qs Ls++[[.nil]]))) (N+19) (.aU 1 0)) (N+17) (.af 1 (qa (qs++[N+19]) (Ls++[[]])))=gX
   have ag:∀ j,za gX j=if N+17=j then some (.af 1 (qa (qs++[N+19]) (Ls++[[]]))) else if N+19=j then some (.aU 1 0) else if P=j then some .dead else if N+16=j then some (.af 1 [[.nil]]) else if 4=j then some (.map (zp IV.i64 IV.i64 (zJ (i:Int) (Ls.length:Int) es))) else za ck j:=fun j=>by
    rw [←hH]
    simp only [zm,zr]
    split
    ·rfl
    ·split
     ·rfl
     ·rfl
   have n4:di gX (N+20) (N+17) (qs++[N+19]) (Ls++[[]]):=dl.push (fun j o h=>by have:=oC j o h;omega) (by rw [ag,if_pos rfl]) (by rw [ag,if_neg (by omega),if_pos rfl]) (fun k q' hk ho=>by
    obtain ⟨o',ho'⟩:=ur.1 ho
    have nN:=oC _ _ ho'
    have hl:k < Ls.length:=by rw [←dl.len];exact (ug.1 hk).1
    have ht:=dl.aU k q' Ls[k] hk (by simp)
    rw [ag,if_neg (by omega),if_neg (by omega),if_neg (fun e=>by rw [←e,dl.obj] at ht;cases ht),if_neg (by omega),if_neg (fun e=>by rw [←e,g4] at ht;cases ht)])
   have IL:∀ j o,za gX j=some o→j < N+20:=by
    rw [←hH]
    exact U8 (yz (yz (yz (yz (yz oC (N':=N+20) (by omega) (by omega)) (ui _) (by omega)) (ui _) (by omega)) (ui _) (by omega)) (ui _) (by omega)) (ui _) (by omega)
   have k0:za gX 0=some (.af 1 (zb zc r.2)):=by rw [ag,if_neg (by omega),if_neg (by omega),if_neg rK,if_neg (by omega),if_neg (by omega)];exact g0
   have k1:za gX 1=some (.af 1 [[fK]]):=by rw [ag,if_neg (by omega),if_neg (by omega),if_neg mi,if_neg (by omega),if_neg (by omega)];exact g1
   have k4:za gX 4=some (.map (zp IV.i64 IV.i64 (zJ (i:Int) (Ls.length:Int) es))):=by rw [ag,if_neg (by omega),if_neg (by omega),if_neg P4,if_neg (by omega),if_pos rfl]
   have nM:(qa (qs++[N+19]) (Ls++[[]]))[Ls.length]?=some [.aS (N+19) (([]:List Int).map zc)]:=WN (by rw [←dl.len];simp) (by simp)
   refine IE (i:Int) (i:Int) _ _ gX (N+20) (N+17) (Ls.length+1) Ls.length (N+19) _ _ [] (by rw [WM n4.len];simp) IL n4.obj k4 (by rw [IJ];rfl) nM (by rw [ag,if_neg (by omega),if_pos rfl];rfl) (by simp) _ ?_
   refine De ?_
   refine qA ?_
   refine II _ _ _ _ _ _ _ _ ?_
   rw [hw]
   have G:=IK (p:=Ls.length) (q:=N+19) (L:=[]) n4 (by omega) IL (by omega) (by omega) k0 k1 k4 (by simp;omega) (fun k L hk=>by
    rcases uw k Ls.length with hlt | hge
    ·rw [uh hlt] at hk;exact gW k L hk
    ·rw [ue hge] at hk
     cases hd:k - Ls.length with
     | zero=>rw [hd] at hk;simp at hk;subst hk;simp
     | succ n=>rw [hd] at hk;simp at hk) (by simp) (by rw [←dl.len];simp)
   have eL:(Ls++[([]:List Int)]).set Ls.length ([]++[(i:Int)])=Ls++[[(i:Int)]]:=by simp
   rw [eL] at G
   refine ⟨_,_,rfl,G,?_⟩
   have hc:((i:Int)+1)=((i+1:Nat):Int):=rfl
   rw [hc]
   simp only [GS,uA,uv,um,uo]
   exact bO.refl _
  ·replace hs:=F8 g hs
   obtain ⟨L,hL,hs⟩:=xY hs
   cases hs
   obtain ⟨z0,z1,z2,z3,_⟩:=Xa hL
   refine Zr ?_
   refine qA ?_
   have hql:((zl r.1 es).getD 0).toNat < qs.length:=by rw [dl.len];exact z2
   have hq1:qs[((zl r.1 es).getD 0).toNat]?=some qs[((zl r.1 es).getD 0).toNat]:=by simp
   have hLl:=gW _ _ z1
   refine yi (U1 [(1,fK),(5,.Zaj P 0 Ls.length),(6,.map 4),(10,vI p1),(11,vI (i:Int)),(7,vI (i:Int)),(8,vI r.1)] [(19,vB (r.1 == (i:Int)))] ck (N+10)) (ui _) ?_
   refine IE (i:Int) r.1 _ _ ck (N+10) P Ls.length ((zl r.1 es).getD 0).toNat qs[((zl r.1 es).getD 0).toNat] es _ L hrl.symm oC dl.obj g4 (by omega) (WN hq1 z1) (dl.aU _ _ _ hq1 z1) (by omega) _ ?_
   refine De ?_
   refine qA ?_
   refine II _ _ _ _ _ _ _ _ ?_
   rw [hw]
   have G:=IK dl (by omega) oC rK mi g0 g1 g4 (by omega) gW z1 hq1
   refine ⟨_,_,rfl,G,?_⟩
   have hc:((i:Int)+1)=((i+1:Nat):Int):=rfl
   rw [hc]
   simp only [GS,uA,uv,um,uo]
   exact bO.refl _
 ·rintro m ⟨Ls,es,above⟩ ⟨heap,N,P,qs⟩ hok hm ho
  subst ho
  have ee:=Option.some.inj hd;subst ee
  show cB C0.plain _ _ _ ⟨[(1,fK),(5,.Zaj P 0 Ls.length),(6,.map 4),(10,vI p1),(11,vI (m:Int))],heap,N⟩
  refine qg ?_
  refine qR (aX:=⟨[(1,fK),(5,.Zaj P 0 Ls.length),(6,.map 4),(10,vI p1),(11,vI (m:Int)),(12,vB (decide ((m:Int) < p1)))],heap,N+1⟩) [] .nil ?_ (by kernel_rfl)
  refine qA ?_
  refine qg ?_
  refine Od (by simp [*]) ?_
  refine Q6 ?_
  refine F9 ?_
  refine F9 ?_
  refine F6 ?_
  refine qA ?_
  refine qg ?_
  refine qR (aX:=⟨[(4,.Zaj P 0 Ls.length)],heap,N+3⟩) [] .nil ?_ (by kernel_rfl)
  refine qA ?_
  refine X2 ?_
  have hlt:=hok.lt
  have hmin:=hok.min
  simp only at hlt hmin
  exact ⟨_,rfl,U9 (N:=N+3) ⟨hok.nest.obj,hok.nest.aU,hok.nest.len,hok.nest.nd⟩ (by omega) (fun j o h=>by have:=hlt j o h;omega) hok.p0 hok.p1 hok.h0 hok.h1⟩
noncomputable def zV (c:aq):Option (List (List Int)):=
 (ua (jN c) fun r1=>(bif (r1.1 == 0) then (ua (aE (σ:=(List Int)) (ρ:=Unit) (c.zw.length:Int) (fun i1 s1=>(ua (zh 400 (i1:Int)) fun k1=>(ua (s1[k1]?) fun e1=>some (.inl (s1.set k1 (i1:Int)))))) (ud 400 0)) (uc (fun (s1:(List Int))=>(ua (Wl c.aC) fun r2=>(ua (aE (σ:=(List Int)×(List (Int×Int))) (ρ:=Unit) (c.zw.length:Int) (fun i2 s2=>(ua (ze c.zw (i2:Int)) fun e2=>(ua (bif r2 then (ua (wX 0 (i2:Int) s2.1) fun r3=>some r3) else some s2.1) fun (v1:(List Int))=>(ua (aE (σ:=(List Int)) (ρ:=Unit) (e2.start.length:Int) (fun i3 s3=>(ua (ze e2.start (i3:Int)) fun e3=>(ua (wX (i2:Int) e3.clause s3) fun r4=>some (.inl r4)))) v1) (uc (fun (s3:(List Int))=>(ua (kA e2) fun r5=>(ua (aE (σ:=(List Int)×(List (Int×Int))) (ρ:=Unit) (r5.length:Int) (fun i4 s4=>(ua (ua (ze r5 (i4:Int)) fun e4=>(bif (zl e4 s4.2).isSome then (ua (wX ((zl e4 s4.2).getD 0) (i2:Int) s4.1) fun r6=>some (r6,s4.2)) else some (s4.1,(zJ e4 (i2:Int) s4.2)))) fun (v2:(List Int)×(List (Int×Int)))=>some (.inl (v2.1,v2.2)))) (s3,s2.2)) (uc (fun (s4:(List Int)×(List (Int×Int)))=>some (.inl (s4.1,s4.2))) (fun _=>none))))) (fun _=>none)))))) (s1,[])) (uc (fun (s2:(List Int)×(List (Int×Int)))=>(ua (wl (c.zw.length:Int) s2.1) fun r7=>some r7.1)) (fun _=>none))))) (fun _=>none))) else some []))
noncomputable def zcq (c:aq):az (List (List Int)):=
 .aA 1 (.call 3638 (Zg c) fun r1=>.use 1 3638 (.ite 3568 (r1.1 == 0) (.sel 3569 (.aA 1 (.ln 3674 aK.row c.zw (.use 2 3674 (.aE (σ:=(List Int)) (ρ:=Unit) 3570 29 (c.zw.length:Int) (ud 400 0) (.k [1,5,28] (fun _=>[]) [0] (fun s1=>[(11,.af 1 (zb zc s1))]) 16 fun _=>(.af rfl .nil)) (fun i1 s1=>.sel 3570 (.aA 1 (.b1 3640 (zh 400 (i1:Int)) (fun k1=>.k k1) (fun k1 hk1=>(zn hk1)) fun k1=>.b1 3642 (s1[k1]?) (fun e1=>.aw (zu (zc e1)) (zb zc (s1.set k1 (i1:Int)))) (fun e1 eG=>(zN zc (i1:Int) eG)) fun e1=>.us [(2,3640),(3,3642)] (.ret (.inl (s1.set k1 (i1:Int))))))) fun os1=>.case os1 (fun s1=>.sel 3570 (.aA 3 (.b1 3644 (Wl c.aC) (fun r2=>.c [] 0 (vB r2) [] 0) (fun r2 cz=>(zf (UO c.aC r2 cz) [] 24 .nil bw bw)) fun r2=>.use 2 3644 (.aA 1 (.ln 3672 aK.row c.zw (.use 2 3672 (.aE (σ:=(List Int)×(List (Int×Int))) (ρ:=Unit) 3584 45 (c.zw.length:Int) (s1,[]) (.k [1,7,8,9,10,43,44] (fun _=>[]) [0,17] (fun s2=>[(11,.af 1 (zb zc s2.1)),(26,.map (zp IV.i64 IV.i64 s2.2))]) 32 fun _=>(.af rfl (.cV rfl .nil))) (fun i2 s2=>.sel 3584 (.aA 0 (.ix 3646 aK.row c.zw (i2:Int) fun e2=>.use 1 3646 (.cut (β:=(List Int)) 1 (.k [1,7,8,9,10,43,44,45,12,11] (fun _=>[]) [0,17,36] (fun v1=>[(11,.af 1 (zb zc v1)),(26,.map (zp IV.i64 IV.i64 s2.2))]) 40 fun _=>(.af rfl (.cV rfl .nil))) (.ite 3628 r2 (.sel 3628 (.aA 0 (.b1 3648 (wX 0 (i2:Int) s2.1) (fun r3=>.c [17,11] 2 (.tuple []) [(11,.af 1 (zb zc r3))] 0) (fun r3 eO=>(zf (Ek 0 (i2:Int) s2.1 r3 eO) [17,11] 42 (.drop rfl rfl (.keep .nil)) (bM (bG bw)) (bG bw))) fun r3=>.use 2 3648 (.ret r3)))) (.sel 3628 (.ret s2.1))) fun v1=>.aA 0 (.ln 3666 cD.row e2.start (.use 2 3666 (.aE (σ:=(List Int)) (ρ:=Unit) 3630 57 (e2.start.length:Int) v1 (.k [1,7,8,9,10,43,44,45,12,11,55,56] (fun _=>[]) [0,17,36] (fun s3=>[(11,.af 1 (zb zc s3)),(26,.map (zp IV.i64 IV.i64 s2.2))]) 44 fun _=>(.af rfl (.cV rfl .nil))) (fun i3 s3=>.sel 3630 (.aA 0 (.ix 3650 cD.row e2.start (i3:Int) fun e3=>.use 0 3650 (.aA 0 (.b1 3652 (wX (i2:Int) e3.clause s3) (fun r4=>.c [17,11] 2 (.tuple []) [(11,.af 1 (zb zc r4))] 0) (fun r4 nM=>(zf (Ek (i2:Int) e3.clause s3 r4 nM) [17,11] 53 (.drop rfl rfl (.keep .nil)) (bM (bG bw)) (bG bw))) fun r4=>.use 4 3652 (.ret (.inl r4))))))) fun os3=>.case os3 (fun s3=>.sel 3630 (.aA 0 (.call 3654 (UT e2) fun r5=>.use 1 3654 (.ln 3664 zc r5 (.use 2 3664 (.aE (σ:=(List Int)×(List (Int×Int))) (ρ:=Unit) 3632 70 (r5.length:Int) (s3,s2.2) (.k [1,7,8,9,10,43,44,45,11,68,69] (fun _=>[]) [0,17] (fun s4=>[(11,.af 1 (zb zc s4.1)),(26,.map (zp IV.i64 IV.i64 s4.2))]) 49 fun _=>(.af rfl (.cV rfl .nil))) (fun i4 s4=>.sel 3632 (.cut (β:=(List Int)×(List (Int×Int))) 1 (.k [1,7,8,9,10,43,44,45,11,68,69,70] (fun _=>[]) [0,17] (fun v2=>[(11,.af 1 (zb zc v2.1)),(26,.map (zp IV.i64 IV.i64 v2.2))]) 66 fun _=>(.af rfl (.cV rfl .nil))) (.aA 0 (.ix 3656 zc r5 (i4:Int) fun e4=>.use 0 3656 (.aA 0 (.f1 3662 (.l (vI ((zl e4 s4.2).getD 0)) ((zl e4 s4.2).isSome)) (Xh IV.i64 0 e4 s4.2) (.use 2 3662 (.ite 3636 ((zl e4 s4.2).isSome) (.sel 3636 (.aA 0 (.b1 3658 (wX ((zl e4 s4.2).getD 0) (i2:Int) s4.1) (fun r6=>.c [17,11] 2 (.tuple []) [(11,.af 1 (zb zc r6))] 0) (fun r6 pQ=>(zf (Ek ((zl e4 s4.2).getD 0) (i2:Int) s4.1 r6 pQ) [17,11] 65 (.drop rfl rfl (.keep .nil)) (bM (bG bw)) (bG bw))) fun r6=>.use 3 3658 (.ret (r6,s4.2))))) (.sel 3636 (.aA 0 (.f1 3660 (.u (zp IV.i64 IV.i64 (zJ e4 (i2:Int) s4.2))) (W5 IV.i64 e4 (i2:Int) s4.2) (.use 3 3660 (.ret (s4.1,(zJ e4 (i2:Int) s4.2))))))))))))) fun v2=>.ret (.inl (v2.1,v2.2)))) fun os4=>.case os4 (fun s4=>.sel 3632 (.ret (.inl (s4.1,s4.2)))) fun _=>.none)))))) fun _=>.none))))))) fun os2=>.case os2 (fun s2=>.sel 3584 (.aA 0 (.b1 3668 (wl (c.zw.length:Int) s2.1) (fun r7=>.c [11,17] 2 (.ap (.slice (ub (zI zc) r7.1))) [(11,.af 1 (zb zc r7.2))] 0) (fun r7 sZ=>(zf (ziL (c.zw.length:Int) s2.1 r7 sZ) [11,17] 37 (.keep (.drop rfl rfl .nil)) (bG (bM bw)) (bG bw))) fun r7=>.ln 3670 aK.row c.zw (.us [(2,3670),(4,3668)] (.ret r7.1))))) fun _=>.none))))))) fun _=>.none))))) (.sel 3569 (.ret []))))
theorem xl (c:aq) (res:List (List Int)) (hd:zV c=some res):aJ C0 13 [.agg (aq.row c)] (.slice (ub (zI zc) res)):=
 az.pure (iv:=fun res=>.slice (ub (zI zc) res)) (zcq c) (by kernel_rfl) (az.aB hd (by kernel_rfl))
theorem zg3 {α:Type} (f:α→List IV) (hf:∀ x,(f x).length=5) {l e:List α} (h:zQ 48 l=some e):dm C0 35 [.ap (.slice (ub f l))] [] 0 (.Zaj 7 0 e.length) [(7,.af 5 (zb f e))] 8:=
 eA (zero:=[.ap (.str ⟨#[]⟩),.ap (.int .i64 0),.ap (.int .i64 0),.ap (.int .i64 0),.ap (.int .i64 0)]) (show qn C0 35=some (jM 5 48 [.ap (.str ⟨#[]⟩),.ap (.int .i64 0),.ap (.int .i64 0),.ap (.int .i64 0),.ap (.int .i64 0)]).erase by kernel_rfl) f hf h
theorem zg4 {α:Type} (f:α→List IV) (hf:∀ x,(f x).length=7) {l e:List α} (h:zQ 56 l=some e):dm C0 36 [.ap (.slice (ub f l))] [] 0 (.Zaj 7 0 e.length) [(7,.af 7 (zb f e))] 8:=
 eA (zero:=[.ap (.int .i64 0),.ap (.int .i64 0),.ap (.int .i64 0),.ap (.int .i64 0),.ap (.int .i64 0),.ap (.int .i64 0),.ap (.int .i64 0)]) (show qn C0 36=some (jM 7 56 [.ap (.int .i64 0),.ap (.int .i64 0),.ap (.int .i64 0),.ap (.int .i64 0),.ap (.int .i64 0),.ap (.int .i64 0),.ap (.int .i64 0)]).erase by kernel_rfl) f hf h
theorem zg5 {α:Type} (f:α→List IV) (hf:∀ x,(f x).length=2) {l e:List α} (h:zQ 16 l=some e):dm C0 37 [.ap (.slice (ub f l))] [] 0 (.Zaj 7 0 e.length) [(7,.af 2 (zb f e))] 8:=
 eA (zero:=[.ap (.int .i64 0),.ap (.int .i64 0)]) (show qn C0 37=some (jM 2 16 [.ap (.int .i64 0),.ap (.int .i64 0)]).erase by kernel_rfl) f hf h
end Go.Proofs.YtlpmnmbebkdocaaGreatDoor
