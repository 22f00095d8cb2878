/-
  Functions of the program: what they compute, and plans of their code that the kernel checks (printed by a program of ours).
-/
import Derived.Test.YtlpmnmbebkdocaaGreatDoorTB10
open List renaming map → ub, replicate → ud, getElem?_append_right → ue, getElem?_eq_some_iff → ug, getElem?_append_left → uh, length_cons → um, not_mem_nil → un, length_nil → uo, mem_cons → uq, cons_append → ut, append_nil → uu, length_append → uv, nil_append → ux, length_map → uz, length_set → uA, map_cons → uB, all_cons → uC, map_nil → uD, all_nil → uE, filter → uF
open Option renaming bind → ua, map_some → uj, getD_some → uk, isSome_iff_exists → ur, map_none → uy
open Nat renaming le_refl → ui, reduceEqDiff → ul, lt_or_ge → uw
open Sum renaming elim → uc
namespace Go.Proofs.YtlpmnmbebkdocaaGreatDoor
open Go.RowKit
set_option linter.unusedSimpArgs false
set_option linter.unusedVariables false
set_option maxRecDepth 100000
noncomputable def Wx (c:ax) (states:List aG):Option (Option (List (Int×bO))):=
 (ua (aD (σ:=(List (ByteArray×Int))) (ρ:=Unit) (states.length:Int) (fun i1 s1=>(ua (ze states (i1:Int)) fun e1=>(ua (Zp e1) fun r1=>some (.inl (zG r1 (i1:Int) s1))))) []) (uc (fun (s1:(List (ByteArray×Int)))=>(ua (aD (σ:=(List (Int×bO))) (ρ:=Unit) (states.length:Int) (fun i2 s2=>(ua (ua (ze states (i2:Int)) fun e2=>(bif (e2.day == c.aX) then some s2 else (ua (iter (σ:=Int×(List (Int×bO))) (ρ:=(List (Int×bO))) (fun s3=>(bif decide (s3.1 < (c.aK.length:Int)) then (ua (ua (dw c e2 s3.1) fun r2=>(ua (Zp r2.1) fun r3=>(ua (bif ((zl ((zl r3 s1).getD 0) s3.2).isSome) then some false else some (!(((zl r3 s1).getD 0) == 0))) fun v1=>(bif v1 then some (zG ((zl r3 s1).getD 0) ({from_:=(i2:Int),step:=s3.1}:bO) s3.2) else some s3.2)))) fun (v2:(List (Int×bO)))=>some (.inl ((IntKind.i64.wrap (s3.1+1)),v2))) else some (.inr s3.2))) ((-1),s2)) (fun (y1:(List (Int×bO)))=>some y1)))) fun (v3:(List (Int×bO)))=>some (.inl v3))) []) (uc (fun (s2:(List (Int×bO)))=>some (some s2)) (fun _=>none)))) (fun _=>none)))
noncomputable def UI (c:ax) (states:List aG):aB (Option (List (Int×bO))):=
 .aA 2 (.ln 2174 aG.row states (.use 1 2174 (.aD (σ:=(List (ByteArray×Int))) (ρ:=Unit) 2116 20 (states.length:Int) [] (.k [1,2,5,18,19] (fun _=>[]) [0] (fun s1=>[(2,.map (zp IV.str IV.i64 s1))]) 7 fun _=>(.cZ rfl .nil)) (fun i1 s1=>.sel 2116 (.aA 0 (.ix 2152 aG.row states (i1:Int) fun e1=>.use 1 2152 (.aA 0 (.call 2154 (IC e1) fun r1=>.use 2 2154 (.f1 2156 (.u (zp IV.str IV.i64 (zG r1 (i1:Int) s1))) (wc IV.i64 r1 (i1:Int) s1) (.use 4 2156 (.ret (.inl (zG r1 (i1:Int) s1)))))))))) fun os1=>.case os1 (fun s1=>.sel 2116 (.aA 1 (.ln 2172 aG.row states (.use 1 2172 (.aD (σ:=(List (Int×bO))) (ρ:=Unit) 2118 33 (states.length:Int) [] (.k [2,5,8,31,32] (fun _=>[]) [0] (fun s2=>[(2,.map (zp IV.str IV.i64 s1)),(8,.map (zp IV.i64 bO.iv s2))]) 13 fun _=>(.cZ rfl (.cZ rfl .nil))) (fun i2 s2=>.sel 2118 (.cut (β:=(List (Int×bO))) 1 (.k [2,5,8,31,32,33] (fun _=>[]) [0] (fun v3=>[(2,.map (zp IV.str IV.i64 s1)),(8,.map (zp IV.i64 bO.iv v3))]) 25 fun _=>(.cZ rfl (.cZ rfl .nil))) (.aA 0 (.ix 2158 aG.row states (i2:Int) fun e2=>.use 1 2158 (.ite 2136 (e2.day == c.aX) (.sel 2136 (.ret s2)) (.sel 2136 (.iter (σ:=Int×(List (Int×bO))) (ρ:=(List (Int×bO))) ((-1),s2) (.k [2,5,8,31,32,33,10,9] (fun s3=>[(11,vI s3.1)]) [0,17] (fun s3=>[(2,.map (zp IV.str IV.i64 s1)),(8,.map (zp IV.i64 bO.iv s3.2))]) 26 fun _=>(.cZ rfl (.cZ rfl .nil))) (fun s3=>.aA 0 (.ln 2170 aZ.row c.aK (.use 3 2170 (.ite 2146 (decide (s3.1 < (c.aK.length:Int))) (.sel 2146 (.cut (β:=(List (Int×bO))) 1 (.k [2,5,8,31,32,33,10,9,11] (fun _=>[]) [0,17] (fun v2=>[(2,.map (zp IV.str IV.i64 s1)),(8,.map (zp IV.i64 bO.iv v2))]) 61 fun _=>(.cZ rfl (.cZ rfl .nil))) (.aA 0 (.call 2160 (ZL c e2 s3.1) fun r2=>.use 3 2160 (.aA 0 (.call 2162 (IC r2.1) fun r3=>.use 2 2162 (.f1 2168 (.l (vI ((zl r3 s1).getD 0)) ((zl r3 s1).isSome)) (vW IV.i64 0 r3 s1) (.use 3 2168 (.aA 0 (.f1 2166 (.l (.ak (.agg (bO.row ((zl ((zl r3 s1).getD 0) s3.2).getD ({from_:=0,step:=0}:bO))))) ((zl ((zl r3 s1).getD 0) s3.2).isSome)) (Xw bO.iv ({from_:=0,step:=0}:bO) ((zl r3 s1).getD 0) s3.2) (.use 2 2166 (.cut (β:=Bool) 1 (.k [2,5,8,31,32,33,10,9,11,14] (fun v1=>[(72,vB v1)]) [0,17,38,52] (fun _=>[(2,.map (zp IV.str IV.i64 s1)),(8,.map (zp IV.i64 bO.iv s3.2))]) 61 fun _=>(.cZ rfl (.cZ rfl .nil))) (.aA 0 (.ite 2148 ((zl ((zl r3 s1).getD 0) s3.2).isSome) (.use 3 2149 (.ret false)) (.use 3 2149 (.ret (!(((zl r3 s1).getD 0) == 0)))))) fun v1=>.ite 2150 v1 (.sel 2150 (.aA 0 (.f1 2164 (.u (zp IV.i64 bO.iv (zG ((zl r3 s1).getD 0) ({from_:=(i2:Int),step:=s3.1}:bO) s3.2))) (Ve bO.iv ((zl r3 s1).getD 0) ({from_:=(i2:Int),step:=s3.1}:bO) s3.2) (.use 5 2164 (.ret (zG ((zl r3 s1).getD 0) ({from_:=(i2:Int),step:=s3.1}:bO) s3.2)))))) (.sel 2150 (.ret s3.2)))))))))))) fun v2=>.ret (.inl ((IntKind.i64.wrap (s3.1+1)),v2)))) (.sel 2146 (.ret (.inr s3.2))))))) fun y1=>.ret y1))))) fun v3=>.ret (.inl v3))) fun os2=>.case os2 (fun s2=>.sel 2118 (.fin [8] (.map 8) [(8,.map (zp IV.i64 bO.iv s2))] (qR IV.i64 bO.iv (some s2)) (jO _ _ _ (zB (Po IV.i64 bO.iv 8 s2 rfl) q9)) (some s2))) fun _=>.none))))) fun _=>.none)))
theorem UJ (c:ax) (states:List aG) (res:Option (List (Int×bO))) (hd:Wx c states=some res):aJ C0 205 [.agg (ax.row c),.slice (ub aG.row states)] (qR IV.i64 bO.iv res):=
 aB.pure (iv:=fun res=>qR IV.i64 bO.iv res) (UI c states) (by kernel_rfl) (aB.aC hd (by kernel_rfl))
noncomputable def XJ (p1:List Int):Option (List Int):=
 (ua (iter (σ:=Int×Int×(List Int)) (ρ:=(List Int)) (fun s1=>(bif decide (s1.1 < s1.2.1) then (ua (zi p1.length s1.2.1) fun k1=>(ua (s1.2.2[k1]?) fun e1=>(ua (zi p1.length s1.1) fun k2=>(ua (s1.2.2[k2]?) fun e2=>(ua ((s1.2.2.set k2 e1)[k1]?) fun e3=>some (.inl ((IntKind.i64.wrap (s1.1+1)),(IntKind.i64.wrap (s1.2.1 - 1)),((s1.2.2.set k2 e1).set k1 e2)))))))) else some (.inr s1.2.2))) (0,(IntKind.i64.wrap ((p1.length:Int) - 1)),p1)) (fun (y1:(List Int))=>some y1))
noncomputable def UK (p1:List Int):aB (List Int):=
 .iter (σ:=Int×Int×(List Int)) (ρ:=(List Int)) (0,(IntKind.i64.wrap ((p1.length:Int) - 1)),p1) (.k [0] (fun s1=>[(2,vI s1.1),(3,vI s1.2.1)]) [] (fun s1=>[(0,.af 1 (zc zb s1.2.2))]) 6 fun _=>(.af rfl .nil)) (fun s1=>.ite 2180 (decide (s1.1 < s1.2.1)) (.sel 2180 (.aA 0 (.b1 2182 (zi p1.length s1.2.1) (fun k1=>.k k1) (fun k1 hk1=>(zn hk1)) fun k1=>.b1 2184 (s1.2.2[k1]?) (fun e1=>.ar (zt (zb e1))) (fun e1 ec=>(zT zb ec)) fun e1=>.b1 2186 (zi p1.length s1.1) (fun k2=>.k k2) (fun k2 hk2=>(zn hk2)) fun k2=>.bind (s1.2.2[k2]?) (fun e2=>[(2188,([.ar (zt (zb e2))],_)),(2190,([.aw (zt (zb e2)) (zc zb (s1.2.2.set k2 e1))],_))]) (fun e2 eu=>(.c1 (zT zb eu) (.c1 (zP zb e1 eu) .nil))) fun e2=>.b1 2192 ((s1.2.2.set k2 e1)[k1]?) (fun e3=>.aw (zt (zb e3)) (zc zb ((s1.2.2.set k2 e1).set k1 e2))) (fun e3 fT=>(zP zb e2 fT)) fun e3=>.us [(6,2182),(7,2184),(10,2186),(11,2188),(12,2186),(13,2190),(14,2182),(15,2192)] (.ret (.inl ((IntKind.i64.wrap (s1.1+1)),(IntKind.i64.wrap (s1.2.1 - 1)),((s1.2.2.set k2 e1).set k1 e2))))))) (.sel 2180 (.ret (.inr s1.2.2)))) fun y1=>.ret y1
theorem UL (p1:List Int) (res:(List Int)) (hd:XJ p1=some res):dm C0 213 [.Zai 0 0 p1.length] [(0,.af 1 (zc zb p1))] 1 (.tuple []) [(0,.af 1 (zc zb res))] 0:=
 aB.dB (R:=fun res=>.tuple []) (H:=fun res=>[(0,.af 1 (zc zb res))]) (UK p1) (.af rfl .nil) (fun _=>(.af rfl .nil)) (by kernel_rfl) (fun _=>by kernel_rfl) (by kernel_rfl) (aB.aC hd (by kernel_rfl))
noncomputable def xE (ck:Option (List (Int×bO))) (n:Int):bO:=(zl n (ck.getD [])).getD ({from_:=0,step:=0}:bO)
noncomputable def Yz (ck:Option (List (Int×bO))) (s:List Int×Int):Option ((List Int×Int) ⊕ List Int):=
 bif (!(s.2 == 0)) then ua (GX (α:=Int) 8 s.1 [(xE ck s.2).step]) fun e=>some (.inl (e,(xE ck s.2).from_)) else some (.inr s.1)
noncomputable def YA (ck:Option (List (Int×bO))) (n:Int):Option (List Int):=
 ua (iter (σ:=List Int×Int) (ρ:=List Int) (Yz ck) ([],n)) fun l=>ua (XJ l) fun r=>ua (dH l.length r.length) fun _=>some r
theorem UM {C:bA} {nt:Fr} {x:cB} {K:Exit→St→Prop} {st:St} {σ ρ γ:Type} {f:σ→Option (σ ⊕ ρ)} {s0:σ} {out:ρ} (hl:iter f s0=some out)
  (Ok:σ→γ→Prop) (S:σ→γ→St) (hmin:∀ s c,Ok s c→st.next≤(S s c).next) (c0:γ) (oC:Ok s0 c0) (hn0:(S s0 c0).next=st.next) (h0:bR st (S s0 c0))
  (body:∀ (s:σ) (c:γ) (o:σ ⊕ ρ),Ok s c→f s=some o→cD C nt x (He Ok S K (.inr out) o) (S s c)):cD C nt (.loop x) K st:=by
 obtain ⟨k,hk⟩:=vz.1 hl
 refine Jk (ι:={p:Nat×σ×γ // cr f p.1 p.2.1=some out∧Ok p.2.1 p.2.2}) (fun p=>S p.1.2.1 p.1.2.2) (fun p=>p.1.1) ⟨(k,s0,c0),hk,oC⟩ (fun p=>by rw [hn0];exact hmin _ _ p.2.2) h0 (Nat.le_of_eq hn0.symm) ?_
 rintro ⟨⟨i,s,c⟩,hf,hok⟩
 simp only at hf hok
 cases i with
 | zero=>cases hf
 | succ i=>
  simp only [cr] at hf
  split at hf
  ·cases hf
  ·rename_i r hr
   cases hf
   refine qP ?_ (body s c _ hok hr)
   intro e aY hK
   cases e with
   | normal=>obtain ⟨s',_,h1,_⟩:=hK;cases h1
   | _=>obtain ⟨y,h1,h2⟩:=hK;cases h1;exact h2 rfl
  ·rename_i s' hr
   refine qP ?_ (body s c _ hok hr)
   intro e aY hK
   cases e with
   | normal=>
    obtain ⟨s'',pZ,h1,h2,h3⟩:=hK
    cases h1
    exact ⟨⟨(i,s',pZ),hf,h2⟩,by simp only;omega,h3⟩
   | _=>obtain ⟨y,h1,h2⟩:=hK;cases h1
theorem kI {C:bA} {K:St→Prop} {dst:Option Nat} {op:cP} {rest:List aM} {env:List (Nat×AV)} {heap:List (Nat×aF)} {next:Nat} (r:AV) (aN:List (Nat×aF)) (hc:(match op with | .call _ _=>true | _=>false)=false)
  (he:ai op (zd env) (za heap) next=some (r,aN)) (hn:l9 C rest K (St.after ⟨env,heap,next⟩ dst r aN)):l9 C (⟨dst,op,none⟩::rest) K ⟨env,heap,next⟩:=by
 rw [Jo,Qc]
 have e:∀ K,cj C dst K ⟨env,heap,next⟩ op=qc dst K ⟨env,heap,next⟩ (ai op (zd env) (za heap) next):=fun KD=>by
  cases op<;>first | rfl | exact Bool.noConfusion hc
 rw [e,he]
 exact hn
theorem UN {ev:bf→AV} {h:Nat→Option aF} {id:Nat} {a b:bf} {zero:AV} {k:Int} {y:IV} {x:AV} {bb:Bool} (hp:Du false zero (.int .i64 k) y x bb) (ha:ev a=.ak y) (hb:ev b=vI k):ai (.look false zero false a b) ev h id=some (x,[]):=by
 obtain ⟨es,h1,h2,h3⟩:=hp
 have h1':jx h (.ak y)=some es:=by
  rw [←h1];cases y<;>rfl
 simp only [ai,ha,hb,vI,h1',h2,if_pos]
 rcases h3 with ⟨h4,_⟩ | ⟨h4,h5,_⟩
 ·rw [h4];rfl
 ·rw [h4];simp [h5]
theorem UO {ev:bf→AV} {h:Nat→Option aF} {id:Nat} {a:bf} (off:Nat) {x:bO} {v:Int} (ha:ev a=.ak (bO.iv x)) (ho:off < 2) (hv:x.row[off]?=some (.int .i64 v)):ai (.cut false off 1 a) ev h id=some (vI v,[]):=by
 simp only [ai,ha,bO.iv,Jd]
 have hl:(x.row.map AV.ak).length=2:=rfl
 rw [if_pos (by omega)]
 simp only [Bool.false_eq_true,if_false,List.getElem?_map,hv,uj,vI]
theorem UP {ev:bf→AV} {h:Nat→Option aF} {id Q B k:Nat} {a b:bf} {v:AV} {af:List (List AV)} (ha:ev a=.Zai Q 0 k) (hb:ev b=.Zai B 0 1) (hB:h B=some (.af 1 [[v]])) (hQ:h Q=some (.af 1 af)) (hk:k=af.length) (hl:(k+1)*8≤140737488355328) :
  ai (.app 1 8 a b) ev h id=some (.Zai id 0 (k+1),[(id,.af 1 (af++[[v]])),(Q,.dead)]):=by
 subst hk
 simp [ai,ha,hb,Je,jQ,hB,hQ,hl]
theorem UQ {C:bA} {nt:Fr} (ck:Option (List (Int×bO))) (n:Int) (x7:AV) (l:List Int) (Q N:Nat) (IX:Q < N) (hl:(l.length+1)*8≤140737488355328) (P:Exit→St→Prop)
  (h:P .normal ⟨[(0,.ak (qR IV.i64 bO.iv ck)),(1,vI n),(5,.Zai (N+6) 0 (l.length+1))],zo (zo (zo [(Q,aF.af 1 (zc zb l))] (N+5) (aF.af 1 [[vI (xE ck n).step]])) Q aF.dead) (N+6) (aF.af 1 (zc zb l++[[vI (xE ck n).step]])),N+8⟩) :
  cD C nt (.region false [] Kn (some [0,1,5])) P ⟨[(0,.ak (qR IV.i64 bO.iv ck)),(1,vI n),(5,.Zai Q 0 l.length),(7,x7)],[(Q,.af 1 (zc zb l))],N⟩:=by
 refine yv ?_
 unfold Kn
 refine kI _ _ rfl rfl ?_
 refine kI _ _ rfl rfl ?_
 refine kI _ _ rfl rfl ?_
 refine kI (.ak (bO.iv (xE ck n))) [] rfl (UN (V4 bO.iv ({from_:=0,step:=0}:bO) n ck) rfl rfl) ?_
 refine kI (vI (xE ck n).step) [] rfl (UO 1 rfl (by omega) rfl) ?_
 refine kI (.Zai (N+5) 0 1) [(N+5,.af 1 [[vI (xE ck n).step]])] rfl rfl ?_
 have hB:za (zo [(Q,aF.af 1 (zc zb l))] (N+5) (aF.af 1 [[vI (xE ck n).step]])) (N+5)=some (.af 1 [[vI (xE ck n).step]]):=by rw [zr,if_pos rfl]
 have Bh:za (zo [(Q,aF.af 1 (zc zb l))] (N+5) (aF.af 1 [[vI (xE ck n).step]])) Q=some (.af 1 (zc zb l)):=by rw [zr,if_neg (by omega)];simp [za]
 refine kI _ _ rfl (UP rfl rfl hB Bh (by simp [zc]) hl) ?_
 refine kI _ _ rfl rfl ?_
 exact h
theorem UR {nt:Fr} (x0 x1 x7:AV) (l r:List Int) (hr:XJ l=some r) (Q N:Nat) (IX:Q < N) (P:Exit→St→Prop)
  (h:P .normal ⟨[(5,.Zai Q 0 l.length)],[(Q,.af 1 (zc zb r))],N+2⟩) :
  cD C0.plain nt (.region false [] Ko (some [5])) P ⟨[(0,x0),(1,x1),(5,.Zai Q 0 l.length),(7,x7)],[(Q,.af 1 (zc zb l))],N⟩:=by
 refine yv ?_
 have hd:=UL l r hr
 simp only [Ko,Jo,Gb,Qc,Gf,ai,Ge,kY,Gd,reduceIte,uk,kW,kX,vV,kZ,Qd,Gc,uB,uD,WV,ux,uu,ut,Xo,ul,if_false]
 refine bJ.dB (l:=[Q]) (zf hd [Q] (N+1) (.keep .nil) (bH bw) (bH bw)) ?_ ?_ ?_
 ·simp only [ku,ZF,um,uo,uC,uE]
  simp;try omega
 ·simp [xA,za,fB]
 ·simp only [yu,St.put,kW,kX,vV,kZ,Qd,ul,if_false,reduceIte,kY,uk,Xn,JX]
  simp [qG,uF,fB,vl,zo]
  exact h
def SW (ck:Option (List (Int×bO))) (s:List Int×Int) (Q:Nat):St:=⟨[(0,.ak (qR IV.i64 bO.iv ck)),(1,vI s.2),(5,.Zai Q 0 s.1.length)],[(Q,.af 1 (zc zb s.1))],Q+1⟩
set_option maxHeartbeats 4000000 in
theorem US (ck:Option (List (Int×bO))) (n:Int) (res:List Int) (hd:YA ck n=some res):aJ C0 206 [qR IV.i64 bO.iv ck,.int .i64 n] (.slice (ub zb res)):=by
 unfold YA at hd
 obtain ⟨l,hl,hd⟩:=jy hd
 obtain ⟨r,hr,hd⟩:=jy hd
 obtain ⟨⟨hlen⟩,_,hd⟩:=jy hd
 have ee:=Option.some.inj hd;subst ee
 refine aJ.start (d:=2) Rk (by simp [Ce]) ?_
 intro B
 show cD C0.plain _ Ce.body (Za Ce.results _) ⟨[(0,.ak (qR IV.i64 bO.iv ck)),(1,vI n)],[],0⟩
 refine qk ?_
 refine qU (aY:=⟨[(0,.ak (qR IV.i64 bO.iv ck)),(1,vI n)],[],1⟩) [] .nil ?_ (by kernel_rfl)
 refine qC ?_
 refine qk ?_
 refine qU (aY:=⟨[(0,.ak (qR IV.i64 bO.iv ck)),(1,vI n),(5,.nil)],[],2⟩) [] .nil ?_ (by kernel_rfl)
 refine qC ?_
 refine qk ?_
 refine vt ?_
 refine yr (Xz (t:=5) 1 rfl) (by simp) ?_
 show cD C0.plain _ _ _ ⟨[(0,.ak (qR IV.i64 bO.iv ck)),(1,vI n),(5,.Zai 2 0 0)],[(2,.af 1 [])],3⟩
 refine UM hl (fun _ Q=>2≤Q) (SW ck) (fun s Q hQ=>by simp only [SW];omega) 2 (ui _) rfl (bR.refl _) ?_
 rintro ⟨l,n⟩ Q o hQ hs
 show cD C0.plain _ _ _ ⟨[(0,.ak (qR IV.i64 bO.iv ck)),(1,vI n),(5,.Zai Q 0 l.length)],[(Q,.af 1 (zc zb l))],Q+1⟩
 refine qk ?_
 refine qk ?_
 refine qU (aY:=⟨[(0,.ak (qR IV.i64 bO.iv ck)),(1,vI n),(5,.Zai Q 0 l.length),(7,vB (!(n == 0)))],[(Q,.af 1 (zc zb l))],Q+3⟩) [] .nil ?_ (by kernel_rfl)
 refine qC ?_
 refine Gk (!(n == 0)) rfl (fun g => ?_) (fun g => ?_)
 ·replace hs:=Gn g hs
  obtain ⟨e,he,hs⟩:=jy hs
  cases hs
  have hb:(l.length+1)*8≤140737488355328∧e=l++[(xE ck n).step]:=by
   unfold GX at he
   split at he
   ·rename_i hh;cases he;exact ⟨hh,rfl⟩
   ·cases he
  obtain ⟨hb,rfl⟩:=hb
  refine Zy ?_
  refine qC ?_
  refine vt ?_
  refine qk ?_
  refine UQ ck n _ l Q (Q+3) (by omega) hb _ ?_
  refine qC ?_
  have ag:∀ j,za (zo (zo (zo [(Q,aF.af 1 (zc zb l))] (Q+3+5) (aF.af 1 [[vI (xE ck n).step]])) Q aF.dead) (Q+3+6) (aF.af 1 (zc zb l++[[vI (xE ck n).step]]))) j=if Q+3+6=j then some (.af 1 (zc zb l++[[vI (xE ck n).step]])) else if Q=j then some .dead else if Q+3+5=j then some (.af 1 [[vI (xE ck n).step]]) else za [(Q,aF.af 1 (zc zb l))] j:=fun j=>by
   simp only [zr]
  have IY:=ag (Q+9)
  rw [if_pos rfl] at IY
  generalize zo (zo (zo [(Q,aF.af 1 (zc zb l))] (Q+3+5) (aF.af 1 [[vI (xE ck n).step]])) Q aF.dead) (Q+3+6) (aF.af 1 (zc zb l++[[vI (xE ck n).step]]))=hp at *
  refine qU (aY:=⟨[(0,.ak (qR IV.i64 bO.iv ck)),(1,vI (xE ck n).from_),(5,.Zai (Q+3+6) 0 (l.length+1))],hp,Q+3+8+5⟩) [.l (.ak (bO.iv (xE ck n))) (zl n (ck.getD [])).isSome] (.cons (V4 bO.iv ({from_:=0,step:=0}:bO) n ck) .nil) ?_ (by kernel_rfl)
  refine Dk ?_
  refine ⟨_,Q+9,rfl,by omega,?_⟩
  refine QH (by simp only [SW];omega) ?_ ?_
  ·intro p hp
   simp only [SW,uq,un,or_false] at hp
   rcases hp with rfl | rfl | rfl
   ·exact ⟨rfl,rfl⟩
   ·exact ⟨rfl,rfl⟩
   ·refine ⟨by simp [za],by simp [zZ,xz,zQ,SW]⟩
  ·intro p hp
   simp only [SW,uq,un,or_false] at hp
   subst hp
   refine ⟨by rw [IY];simp [zc,zt,zb,vI],by simp [SW],wO _ _ _ _⟩
 ·replace hs:=Gp g hs
  cases hs
  refine Jj ?_
  refine ⟨_,rfl,fun e => ?_⟩
  have e:=Sum.inr.inj e
  subst e
  refine Gl ?_
  refine qC ?_
  refine qk ?_
  refine UR _ _ _ _ r hr Q (Q+3) (by omega) _ ?_
  refine qC ?_
  refine qk ?_
  refine qU (aY:=⟨[(4,.Zai Q 0 l.length)],[(Q,.af 1 (zc zb r))],Q+3+2+2⟩) [] .nil ?_ (by kernel_rfl)
  refine qC ?_
  refine Wg ?_
  exact Pp _ rfl (xh zb Q 1 _ r hlen (by simp [za]))
noncomputable def Qm (c:ax) (states:List aG):Option (List bF):=
 (ua (aD (σ:=(List bF)×(Option (List (Int×bO)))) (ρ:=Unit) (c.ay.length:Int) (fun i1 s1=>(ua (aD (σ:=(List bF)×(Option (List (Int×bO)))) (ρ:=Unit) (c.ay.length:Int) (fun i2 s2=>(ua (ua (XI c (i1:Int) (i2:Int)) fun r1=>(bif r1 then (ua (aD (σ:=(List bF)×(Option (List (Int×bO)))) (ρ:=(List bF)×(Option (List (Int×bO)))) (states.length:Int) (fun i3 s3=>(ua (ze states (i3:Int)) fun e1=>(ua (Ku c e1 (i1:Int) (i2:Int)) fun r2=>(bif r2 then (ua (bif s3.2.isSome then some s3.2 else (ua (Wx c states) fun r3=>some r3)) fun (v1:(Option (List (Int×bO))))=>(ua (YA v1 (i3:Int)) fun r4=>(ua (wh 4 (-1) (i1:Int) (i2:Int) r4) fun r5=>(ua (zJ (α:=bF) 56 s3.1 [r5]) fun e2=>some (.inr (e2,v1)))))) else some (.inl (s3.1,s3.2)))))) (s2.1,s2.2)) (uc (fun (s3:(List bF)×(Option (List (Int×bO))))=>some (s3.1,s3.2)) (fun (y1:(List bF)×(Option (List (Int×bO))))=>some (y1.1,y1.2)))) else some (s2.1,s2.2))) fun (v2:(List bF)×(Option (List (Int×bO))))=>some (.inl (v2.1,v2.2)))) (s1.1,s1.2)) (uc (fun (s2:(List bF)×(Option (List (Int×bO))))=>some (.inl (s2.1,s2.2))) (fun _=>none)))) ([],none)) (uc (fun (s1:(List bF)×(Option (List (Int×bO))))=>some s1.1) (fun _=>none)))
noncomputable def UT (c:ax) (states:List aG):aB (List bF):=
 .aA 3 (.ln 2232 aO.row c.ay (.use 2 2232 (.cC 1 [DU 5 5] (.aD (σ:=(List bF)×(Option (List (Int×bO)))) (ρ:=Unit) 1962 14 (c.ay.length:Int) ([],none) (.k [1,2,13] (fun s1=>[(5,.aS 8 (ub bF.row s1.1)),(6,.ak (qR IV.i64 bO.iv s1.2))]) [0] (fun s1=>[(8,.aT 5 s1.1.length)]) 9 fun _=>(.exp rfl rfl .nil)) (fun i1 s1=>.sel 1962 (.aA 1 (.ln 2230 aO.row c.ay (.use 2 2230 (.aD (σ:=(List bF)×(Option (List (Int×bO)))) (ρ:=Unit) 2202 20 (c.ay.length:Int) (s1.1,s1.2) (.k [1,2,13,14,7,19] (fun s2=>[(5,.aS 8 (ub bF.row s2.1)),(6,.ak (qR IV.i64 bO.iv s2.2))]) [0] (fun s2=>[(8,.aT 5 s2.1.length)]) 16 fun _=>(.exp rfl rfl .nil)) (fun i2 s2=>.sel 2202 (.cut (β:=(List bF)×(Option (List (Int×bO)))) 1 (.k [1,2,13,14,7,19,20] (fun v2=>[(5,.aS 8 (ub bF.row v2.1)),(6,.ak (qR IV.i64 bO.iv v2.2))]) [0] (fun v2=>[(8,.aT 5 v2.1.length)]) 24 fun _=>(.exp rfl rfl .nil)) (.aA 1 (.call 2212 (UD c (i1:Int) (i2:Int)) fun r1=>.use 3 2212 (.ite 2204 r1 (.sel 2205 (.aA 0 (.ln 2228 aG.row states (.use 1 2228 (.aD (σ:=(List bF)×(Option (List (Int×bO)))) (ρ:=(List bF)×(Option (List (Int×bO)))) 2206 30 (states.length:Int) (s2.1,s2.2) (.k [1,2,13,14,7,19,20,8,28,29] (fun s3=>[(5,.aS 8 (ub bF.row s3.1)),(6,.ak (qR IV.i64 bO.iv s3.2))]) [0] (fun s3=>[(8,.aT 5 s3.1.length)]) 27 fun _=>(.exp rfl rfl .nil)) (fun i3 s3=>.sel 2206 (.aA 0 (.ix 2214 aG.row states (i3:Int) fun e1=>.use 1 2214 (.aA 0 (.call 2216 (UH c e1 (i1:Int) (i2:Int)) fun r2=>.use 4 2216 (.ite 2208 r2 (.sel 2209 (.cut (β:=(Option (List (Int×bO)))) 1 (.e [1,2,5,13,14,7,19,20,8,9] (fun v1=>[(6,.ak (qR IV.i64 bO.iv v1))]) [0,8] 42) (.aA 0 (.f1 2220 (.v (.bool (!s3.2.isSome))) (O9 false IV.i64 bO.iv s3.2) (.use 1 2220 (.ite 2210 s3.2.isSome (.sel 2211 (.ret s3.2)) (.sel 2211 (.aA 0 (.call 2218 (UJ c states) fun r3=>.use 2 2218 (.ret r3)))))))) fun v1=>.aA 0 (.call 2222 (US v1 (i3:Int)) fun r4=>.call 2224 (Ql 4 (-1) (i1:Int) (i2:Int) r4) fun r5=>.b1 2226 (zJ (α:=bF) 56 s3.1 [r5]) (fun e2=>.a (ub bF.row e2) e2.length) (fun e2 eu=>(qm bF.row 5 56 (fun _=>rfl) eu)) fun e2=>.us [(5,2222),(6,2224),(8,2226)] (.ret (.inr (e2,v1)))))) (.sel 2209 (.ret (.inl (s3.1,s3.2)))))))))) fun os3=>.case os3 (fun s3=>.sel 2206 (.ret (s3.1,s3.2))) fun y1=>.ret (y1.1,y1.2)))))) (.sel 2205 (.ret (s2.1,s2.2)))))) fun v2=>.ret (.inl (v2.1,v2.2)))) fun os2=>.case os2 (fun s2=>.sel 2202 (.ret (.inl (s2.1,s2.2)))) fun _=>.none))))) fun os1=>.case os1 (fun s1=>.sel 1962 (.ret s1.1)) fun _=>.none))))
theorem UU (c:ax) (states:List aG) (res:List bF) (hd:Qm c states=some res):aJ C0 201 [.agg (ax.row c),.slice (ub aG.row states)] (.slice (ub bF.row res)):=
 aB.pure (iv:=fun res=>.slice (ub bF.row res)) (UT c states) (by kernel_rfl) (aB.aC hd (by kernel_rfl))
noncomputable def XK (c:ax):Option ((List bF)×Int):=
 (ua (Ww c) fun r1=>(bif (r1.2 == 0) then (ua (aD (σ:=(List bF)) (ρ:=Int) c.aW (fun i1 s1=>(ua (α:=(List bF) ⊕ Int) (ua (xn c (i1:Int)) fun r2=>(bif (r2.2 == 0) then (ua (yF c r2.1) fun r3=>(ua (ze r3 0) fun e1=>(bif decide (0≤e1) then (ua (Yx r2.1 r3) fun r4=>(ua (wh 1 (i1:Int) (-1) (-1) r4) fun r5=>(ua (zJ (α:=bF) 56 s1 [r5]) fun e2=>some (.inl e2)))) else some (.inl s1)))) else some (.inr r2.2))) (uc (fun (v1:(List bF))=>some (.inl v1)) (fun (y1:Int)=>some (.inr y1))))) []) (uc (fun (s1:(List bF))=>(ua (aD (σ:=(List bF)×(List bF)) (ρ:=Unit) (c.ay.length:Int) (fun i2 s2=>(ua (Yy (i2:Int) r1.1 s2.1 c s2.2) fun r6=>some (.inl (r6.1,r6.2)))) (s1,[])) (uc (fun (s2:(List bF)×(List bF))=>(ua (zJ (α:=bF) 56 s2.1 s2.2) fun e3=>(ua (Qm c r1.1) fun r7=>(ua (zJ (α:=bF) 56 e3 r7) fun e4=>some (e4,0))))) (fun _=>none)))) (fun (y2:Int)=>some ([],y2)))) else some ([],r1.2)))
noncomputable def UW (c:ax):aB ((List bF)×Int):=
 .aA 1 (.call 2234 (Tm c) fun r1=>.use 1 2234 (.ite 1304 (r1.2 == 0) (.sel 1305 (.cC 4 [Qh 13 5 0 0] (.aD (σ:=(List bF)) (ρ:=Int) 1306 24 c.aW [] (.k [1,4,6,23] (fun _=>[]) [0,8] (fun s1=>[(13,.af 1 [[.aS 17 (ub bF.row s1)]]),(17,.aT 5 s1.length)]) 18 fun _=>(.exp rfl rfl (.exp rfl rfl .nil))) (fun i1 s1=>.sel 1306 (.dK (β:=(List bF)) (γ:=Int) 1 (.k [1,4,6,23,24] (fun _=>[]) [0,8] (fun v1=>[(13,.af 1 [[.aS 17 (ub bF.row v1)]]),(17,.aT 5 v1.length)]) 40 fun _=>(.exp rfl rfl (.exp rfl rfl .nil))) (.aA 1 (.call 2236 (IM c (i1:Int)) fun r2=>.use 2 2236 (.ite 1892 (r2.2 == 0) (.sel 1893 (.aA 0 (.call 2238 (IR c r2.1) fun r3=>.use 2 2238 (.aA 0 (.ix 2240 zb r3 0 fun e1=>.use 1 2240 (.ite 1894 (decide (0≤e1)) (.sel 1894 (.aA 0 (.call 2242 (TX r2.1 r3) fun r4=>.call 2244 (Ql 1 (i1:Int) (-1) (-1) r4) fun r5=>.b1 2246 (zJ (α:=bF) 56 s1 [r5]) (fun e2=>.a (ub bF.row e2) e2.length) (fun e2 eu=>(qm bF.row 5 56 (fun _=>rfl) eu)) fun e2=>.us [(4,2242),(5,2244),(7,2246)] (.ret (.inl e2))))) (.sel 1894 (.ret (.inl s1))))))))) (.sel 1893 (.ret (.inr r2.2)))))) fun o_v1=>.case o_v1 (fun v1=>.ret (.inl v1)) fun y1=>.ret (.inr y1))) fun os1=>.case os1 (fun s1=>.sel 1306 (.aA 2 (.ln 2256 aO.row c.ay (.use 2 2256 (.cC 1 [Qh 19 5 0 0] (.aD (σ:=(List bF)×(List bF)) (ρ:=Unit) 1896 56 (c.ay.length:Int) (s1,[]) (.k [1,4,6,11,12,55] (fun _=>[]) [0,8] (fun s2=>[(13,.af 1 [[.aS 17 (ub bF.row s2.1)]]),(17,.aT 5 s2.1.length),(19,.af 1 [[.aS 26 (ub bF.row s2.2)]]),(26,.aT 5 s2.2.length)]) 27 fun _=>(.exp rfl rfl (.exp rfl rfl (.exp rfl rfl (.exp rfl rfl .nil))))) (fun i2 s2=>.sel 1896 (.aA 1 (.b1 2248 (Yy (i2:Int) r1.1 s2.1 c s2.2) (fun r6=>.c [8,13,0,19,17,26] 6 (.tuple []) [(13,.af 1 [[.aS 17 (ub bF.row r6.1)]]),(19,.af 1 [[.aS 26 (ub bF.row r6.2)]]),(17,.aT 5 r6.1.length),(26,.aT 5 r6.2.length)] 0) (fun r6 oH=>(zf (Uv (i2:Int) r1.1 s2.1 c s2.2 r6 oH) [8,13,0,19,17,26] 32 (.drop rfl rfl (.keep (.drop rfl rfl (.keep (.keep (.keep .nil)))))) (bI (bI (bI (bI (bI (bI bw)))))) (bI (bI (bI (bI bw)))))) fun r6=>.use 2 2248 (.ret (.inl (r6.1,r6.2)))))) fun os2=>.case os2 (fun s2=>.sel 1896 (.aA 0 (.b1 2250 (zJ (α:=bF) 56 s2.1 s2.2) (fun e3=>.a (ub bF.row e3) e3.length) (fun e3 fT=>(qm bF.row 5 56 (fun _=>rfl) fT)) fun e3=>.call 2252 (UU c r1.1) fun r7=>.b1 2254 (zJ (α:=bF) 56 e3 r7) (fun e4=>.a (ub bF.row e4) e4.length) (fun e4 iA=>(qm bF.row 5 56 (fun _=>rfl) iA)) fun e4=>.us [(2,2250),(5,2252),(6,2254)] (.ret (e4,0))))) fun _=>.none)))))) fun y2=>.ret ([],y2)))) (.sel 1305 (.ret ([],r1.2)))))
theorem UX (c:ax) (res:(List bF)×Int) (hd:XK c=some res):aJ C0 192 [.agg (ax.row c)] (.tuple [.slice (ub bF.row res.1),.int .i64 res.2]):=
 aB.pure (iv:=fun res=>.tuple [.slice (ub bF.row res.1),.int .i64 res.2]) (UW c) (by kernel_rfl) (aB.aC hd (by kernel_rfl))
noncomputable def wi (a:List Int) (b:List Int):Option Bool:=
 (bif ((a.length:Int) == (b.length:Int)) then (ua (aD (σ:=Unit) (ρ:=Unit) (a.length:Int) (fun i1 s1=>(ua (ze a (i1:Int)) fun e1=>(ua (ze b (i1:Int)) fun e2=>(bif (e1 == e2) then some (.inl ()) else some (.inr ()))))) ()) (uc (fun (s1:Unit)=>some true) (fun (y1:Unit)=>some false))) else some false)
noncomputable def UY (a:List Int) (b:List Int):aB Bool:=
 .aA 1 (.ln 2288 zb a (.use 1 2288 (.ln 2286 zb b (.use 3 2286 (.ite 2272 ((a.length:Int) == (b.length:Int)) (.sel 2273 (.aD (σ:=Unit) (ρ:=Unit) 2274 5 (a.length:Int) () (.e [0,1] (fun _=>[]) [] 7) (fun i1 s1=>.aA 0 (.ln 2282 zb a (.use 2 2282 (.sel 2274 (.aA 0 (.ix 2278 zb a (i1:Int) fun e1=>.ix 2280 zb b (i1:Int) fun e2=>.us [(2,2278),(6,2280)] (.ite 2276 (e1 == e2) (.sel 2277 (.ret (.inl ()))) (.sel 2277 (.ret (.inr ())))))))))) fun os1=>.case os1 (fun s1=>.aA 0 (.ln 2284 zb a (.use 2 2284 (.sel 2274 (.ret true))))) fun y1=>.ret false)) (.sel 2273 (.ret false)))))))
theorem IZ (a:List Int) (b:List Int) (res:Bool) (hd:wi a b=some res):aJ C0 142 [.slice (ub zb a),.slice (ub zb b)] (.bool res):=
 aB.pure (iv:=fun res=>.bool res) (UY a b) (by kernel_rfl) (aB.aC hd (by kernel_rfl))
noncomputable def XL (c:ax) (s:aG) (act:Int):Option Int:=
 (ua (ua (jD c s) fun r1=>(bif r1 then (bif decide (act < 0) then some true else some (decide ((c.aK.length:Int)≤act))) else some true)) fun v1=>(bif v1 then some (-2) else (ua (ZK c s act) fun r2=>some r2)))
noncomputable def UZ (c:ax) (s:aG) (act:Int):aB Int:=
 .cut (β:=Bool) 3 (.e [2,3,4] (fun v1=>[(21,vB v1)]) [0,1] 18) (.aA 0 (.call 2356 (vn c s) fun r1=>.ite 2350 r1 (.ite 2352 (decide (act < 0)) (.us [(2,2356),(5,2351),(9,2352)] (.ret true)) (.us [(2,2356),(5,2351),(9,2352)] (.ln 2358 aZ.row c.aK (.use 12 2358 (.ret (decide ((c.aK.length:Int)≤act))))))) (.us [(2,2356),(5,2351)] (.f1 2360 (.g true) (rfl:true=true) (.use 9 2360 (.ret true)))))) fun v1=>.ite 2354 v1 (.sel 2354 (.ret (-2))) (.sel 2354 (.aA 0 (.call 2362 (II c s act) fun r2=>.use 3 2362 (.ret r2))))
theorem U0 (c:ax) (s:aG) (act:Int) (res:Int) (hd:XL c s act=some res):aJ C0 98 [.agg (ax.row c),.agg (aG.row s),.int .i64 act] (.int .i64 res):=
 aB.pure (iv:=fun res=>.int .i64 res) (UZ c s act) (by kernel_rfl) (aB.aC hd (by kernel_rfl))
noncomputable def ZM (c:ax) (s:aG) (zw:Int):Option Bool:=
 (ua (bif decide (zw < 0) then some true else (bif decide (c.aW≤zw) then some true else (ua (jD c s) fun r1=>some (!r1)))) fun v1=>(bif v1 then some false else (ua (aD (σ:=Unit) (ρ:=Unit) (s.aI.length:Int) (fun i1 s1=>(ua (ze s.aI (i1:Int)) fun e1=>(ua (ua (ze c.ay (i1:Int)) fun e2=>(bif e2.final then (bif (e1.aR == 4) then some (e1.bz == zw) else some false) else some false)) fun v2=>(bif v2 then some (.inr ()) else some (.inl ()))))) ()) (uc (fun (s1:Unit)=>some false) (fun (y1:Unit)=>some true)))))
noncomputable def U1 (c:ax) (s:aG) (zw:Int):aB Bool:=
 .cut (β:=Bool) 3 (.e [2,3,4] (fun v1=>[(22,vB v1)]) [0,1] 17) (.aA 0 (.ite 2370 (decide (zw < 0)) (.use 3 2370 (.f1 2384 (.g true) (rfl:true=true) (.use 9 2384 (.ret true)))) (.ite 2372 (decide (c.aW≤zw)) (.us [(3,2370),(9,2372)] (.ret true)) (.call 2386 (vn c s) fun r1=>.us [(3,2370),(9,2372),(11,2386)] (.ret (!r1)))))) fun v1=>.ite 2374 v1 (.sel 2374 (.ret false)) (.sel 2374 (.aA 0 (.ln 2394 aj.row s.aI (.use 2 2394 (.aD (σ:=Unit) (ρ:=Unit) 2376 26 (s.aI.length:Int) () (.e [2,3,24,25] (fun _=>[]) [0] 21) (fun i1 s1=>.sel 2376 (.aA 0 (.ix 2388 aj.row s.aI (i1:Int) fun e1=>.use 1 2388 (.cut (β:=Bool) 1 (.e [2,3,24,25,26] (fun v2=>[(47,vB v2)]) [0,25] 45) (.aA 0 (.ix 2390 aO.row c.ay (i1:Int) fun e2=>.ite 2378 e2.final (.ite 2380 (e1.aR == 4) (.us [(3,2390),(7,2378),(12,2380)] (.ret (e1.bz == zw))) (.us [(3,2390),(7,2378),(12,2380)] (.ret false))) (.us [(3,2390),(7,2378)] (.f1 2392 (.g false) (rfl:false=false) (.use 12 2392 (.ret false)))))) fun v2=>.ite 2382 v2 (.sel 2382 (.ret (.inr ()))) (.sel 2382 (.ret (.inl ()))))))) fun os1=>.case os1 (fun s1=>.sel 2376 (.ret false)) fun y1=>.ret true)))))
theorem U2 (c:ax) (s:aG) (zw:Int) (res:Bool) (hd:ZM c s zw=some res):aJ C0 141 [.agg (ax.row c),.agg (aG.row s),.int .i64 zw] (.bool res):=
 aB.pure (iv:=fun res=>.bool res) (U1 c s zw) (by kernel_rfl) (aB.aC hd (by kernel_rfl))
noncomputable def yd (c:ax) (a:bT):Option (List Bool):=
 (ua (yF c a) fun r1=>(ua (ei 1 (r1.length:Int)) fun k1=>(ua (aD (σ:=(List Bool)) (ρ:=Unit) (r1.length:Int) (fun i1 s1=>(ua (ze r1 (i1:Int)) fun e1=>(ua (zi k1 (i1:Int)) fun k2=>(ua (s1[k2]?) fun e2=>some (.inl (s1.set k2 (e1 == (-1)))))))) (ud k1 false)) (uc (fun (s1:(List Bool))=>(ua (dH k1 s1.length) fun g1=>some s1)) (fun _=>none)))))
noncomputable def U3 (c:ax) (a:bT):aB (List Bool):=
 .aA 1 (.call 2430 (IR c a) fun r1=>.use 2 2430 (.aA 0 (.b1 2432 (ei 1 (r1.length:Int)) (fun k1=>.m k1 (zc zg (ud k1 false))) (fun k1 hk1=>(xB zg false hk1)) fun k1=>.ln 2442 zb r1 (.us [(1,2442),(2,2432)] (.aA 0 (.ln 2440 zb r1 (.use 1 2440 (.aD (σ:=(List Bool)) (ρ:=Unit) 2428 17 (r1.length:Int) (ud k1 false) (.k [6,15,16] (fun _=>[]) [] (fun s1=>[(9,.af 1 (zc zg s1))]) 14 fun _=>(.af rfl .nil)) (fun i1 s1=>.sel 2428 (.aA 0 (.ix 2434 zb r1 (i1:Int) fun e1=>.use 1 2434 (.aA 0 (.b1 2436 (zi k1 (i1:Int)) (fun k2=>.k k2) (fun k2 hk2=>(zn hk2)) fun k2=>.b1 2438 (s1[k2]?) (fun e2=>.aw (zt (zg e2)) (zc zg (s1.set k2 (e1 == (-1))))) (fun e2 eu=>(zP zg (e1 == (-1)) eu)) fun e2=>.us [(4,2436),(5,2438)] (.ret (.inl (s1.set k2 (e1 == (-1)))))))))) fun os1=>.case os1 (fun s1=>.sel 2428 (.bind (dH k1 s1.length) (fun _=>[]) (fun _ _=>.nil) fun g2=>.fin [9] (.Zai 9 0 k1) [(9,.af 1 (zc zg s1))] (.slice (ub zg s1)) (jO _ _ _ (zB (xh zg 9 1 k1 s1 g2.down rfl) q9)) s1)) fun _=>.none))))))))
theorem YB (c:ax) (a:bT) (res:List Bool) (hd:yd c a=some res):aJ C0 138 [.agg (ax.row c),.agg (bT.row a)] (.slice (ub zg res)):=
 aB.pure (iv:=fun res=>.slice (ub zg res)) (U3 c a) (by kernel_rfl) (aB.aC hd (by kernel_rfl))
noncomputable def Qn (c:ax) (n:Int):Option Bool:=
 (ua (bif decide (20 < (c.aE.length:Int)) then some true else (bif decide (30 < (c.bE.length:Int)) then some true else (bif decide (70 < (c.aK.length:Int)) then some true else (bif decide (n < (c.ay.length:Int)) then some true else some (decide (100 < (c.off.length:Int))))))) fun v1=>(bif v1 then some false else (ua (aD (σ:=Unit) (ρ:=Unit) (c.ay.length:Int) (fun i1 s1=>(ua (ze c.ay (i1:Int)) fun e1=>(bif decide (20 < (e1.start.length:Int)) then some (.inr ()) else some (.inl ())))) ()) (uc (fun (s1:Unit)=>some true) (fun (y1:Unit)=>some false)))))
noncomputable def U4 (c:ax) (n:Int):aB Bool:=
 .cut (β:=Bool) 3 (.e [2] (fun v1=>[(34,vB v1)]) [0] 31) (.aA 0 (.ite 2648 (decide (20 < (c.aE.length:Int))) (.ln 2668 zb c.aE (.us [(2,2668),(5,2648)] (.f1 2666 (.g true) (rfl:true=true) (.use 11 2666 (.f1 2664 (.g true) (rfl:true=true) (.use 17 2664 (.f1 2662 (.g true) (rfl:true=true) (.use 24 2662 (.ret true))))))))) (.ite 2650 (decide (30 < (c.bE.length:Int))) (.ln 2676 zb c.aE (.us [(2,2676),(5,2648)] (.ln 2674 bZ.row c.bE (.us [(7,2674),(11,2650)] (.f1 2672 (.g true) (rfl:true=true) (.use 17 2672 (.f1 2670 (.g true) (rfl:true=true) (.use 24 2670 (.ret true))))))))) (.ite 2652 (decide (70 < (c.aK.length:Int))) (.ln 2684 zb c.aE (.us [(2,2684),(5,2648)] (.ln 2682 bZ.row c.bE (.us [(7,2682),(11,2650)] (.ln 2680 aZ.row c.aK (.us [(13,2680),(17,2652)] (.f1 2678 (.g true) (rfl:true=true) (.use 24 2678 (.ret true))))))))) (.ite 2654 (decide (n < (c.ay.length:Int))) (.ln 2692 zb c.aE (.us [(2,2692),(5,2648)] (.ln 2690 bZ.row c.bE (.us [(7,2690),(11,2650)] (.ln 2688 aZ.row c.aK (.us [(13,2688),(17,2652)] (.ln 2686 aO.row c.ay (.us [(19,2686),(24,2654)] (.ret true))))))))) (.ln 2702 zb c.aE (.us [(2,2702),(5,2648)] (.ln 2700 bZ.row c.bE (.us [(7,2700),(11,2650)] (.ln 2698 aZ.row c.aK (.us [(13,2698),(17,2652)] (.ln 2696 aO.row c.ay (.us [(19,2696),(24,2654)] (.ln 2694 zb c.off (.use 26 2694 (.ret (decide (100 < (c.off.length:Int))))))))))))))))))) fun v1=>.ite 2656 v1 (.sel 2656 (.ret false)) (.sel 2656 (.aD (σ:=Unit) (ρ:=Unit) 2658 5 (c.ay.length:Int) () (.e [2] (fun _=>[]) [0] 32) (fun i1 s1=>.aA 0 (.ln 2708 aO.row c.ay (.use 3 2708 (.sel 2658 (.aA 0 (.ix 2704 aO.row c.ay (i1:Int) fun e1=>.use 3 2704 (.ln 2706 bl.row e1.start (.use 6 2706 (.ite 2660 (decide (20 < (e1.start.length:Int))) (.sel 2660 (.ret (.inr ()))) (.sel 2660 (.ret (.inl ())))))))))))) fun os1=>.case os1 (fun s1=>.aA 0 (.ln 2710 aO.row c.ay (.use 3 2710 (.sel 2658 (.ret true))))) fun y1=>.ret false))
theorem U5 (c:ax) (n:Int) (res:Bool) (hd:Qn c n=some res):aJ C0 94 [.agg (ax.row c),.int .i64 n] (.bool res):=
 aB.pure (iv:=fun res=>.bool res) (U4 c n) (by kernel_rfl) (aB.aC hd (by kernel_rfl))
noncomputable def YC (c:ax):Option Bool:=
 (ua (ua (Qn c 6) fun r1=>(bif r1 then (bif decide ((c.aK.length:Int)≤8) then some (decide (c.aX≤20)) else some false) else some false)) fun v1=>some v1)
noncomputable def U6 (c:ax):aB Bool:=
 .cut (β:=Bool) 2 (.e [] (fun v1=>[(2,vB v1)]) [0] 16) (.aA 0 (.call 2716 (U5 c 6) fun r1=>.ite 2712 r1 (.ite 2714 (decide ((c.aK.length:Int)≤8)) (.us [(1,2716),(3,2712)] (.ln 2718 aZ.row c.aK (.us [(5,2718),(9,2714)] (.ret (decide (c.aX≤20)))))) (.us [(1,2716),(3,2712)] (.ln 2720 aZ.row c.aK (.us [(5,2720),(9,2714)] (.ret false))))) (.us [(1,2716),(3,2712)] (.f1 2722 (.g false) (rfl:false=false) (.use 9 2722 (.ret false)))))) fun v1=>.ret v1
theorem U7 (c:ax) (res:Bool) (hd:YC c=some res):aJ C0 97 [.agg (ax.row c)] (.bool res):=
 aB.pure (iv:=fun res=>.bool res) (U6 c) (by kernel_rfl) (aB.aC hd (by kernel_rfl))
noncomputable def kJ (a:bT) (safe:List Bool):Option (List Int):=
 (ua (ei 8 (a.aU.length:Int)) fun k1=>(ua (aD (σ:=(List Int)) (ρ:=Unit) (a.aU.length:Int) (fun i1 s1=>(ua (ua (ze a.aU (i1:Int)) fun e1=>(ua (zi k1 (i1:Int)) fun k2=>(ua (s1[k2]?) fun e2=>(ua (bif e1.own then (ua (ze safe (i1:Int)) fun e3=>some (!e3)) else some true) fun v1=>(bif v1 then some (s1.set k2 (-2)) else (ua (ze a.bp (i1:Int)) fun e4=>(ua (aD (σ:=Unit) (ρ:=(List Int)) (e4.length:Int) (fun i2 s2=>(ua (ze e4 (i2:Int)) fun e5=>(ua (ze safe e5.to) fun e6=>(bif e6 then (ua (zi k1 (i1:Int)) fun k3=>(ua ((s1.set k2 (-2))[k3]?) fun e7=>some (.inr ((s1.set k2 (-2)).set k3 e5.step)))) else some (.inl ()))))) ()) (uc (fun (s2:Unit)=>some (s1.set k2 (-2))) (fun (y1:(List Int))=>some y1))))))))) fun (v2:(List Int))=>some (.inl v2))) (ud k1 0)) (uc (fun (s1:(List Int))=>(ua (dH k1 s1.length) fun g1=>some s1)) (fun _=>none))))
noncomputable def U8 (a:bT) (safe:List Bool):aB (List Int):=
 .aA 1 (.b1 2854 (ei 8 (a.aU.length:Int)) (fun k1=>.m k1 (zc zb (ud k1 0))) (fun k1 hk1=>(xB zb 0 hk1)) fun k1=>.ln 2878 aH.row a.aU (.us [(2,2878),(3,2854)] (.aA 0 (.ln 2876 aH.row a.aU (.use 2 2876 (.aD (σ:=(List Int)) (ρ:=Unit) 2836 17 (a.aU.length:Int) (ud k1 0) (.k [1,2,5,15,16] (fun _=>[]) [0] (fun s1=>[(5,.af 1 (zc zb s1))]) 11 fun _=>(.af rfl .nil)) (fun i1 s1=>.sel 2836 (.cut (β:=(List Int)) 1 (.k [1,2,5,15,16,17] (fun _=>[]) [0] (fun v2=>[(5,.af 1 (zc zb v2))]) 32 fun _=>(.af rfl .nil)) (.aA 0 (.ix 2856 aH.row a.aU (i1:Int) fun e1=>.use 1 2856 (.aA 0 (.b1 2858 (zi k1 (i1:Int)) (fun k2=>.k k2) (fun k2 hk2=>(zn hk2)) fun k2=>.b1 2860 (s1[k2]?) (fun e2=>.aw (zt (zb e2)) (zc zb (s1.set k2 (-2)))) (fun e2 eu=>(zP zb (-2) eu)) fun e2=>.us [(2,2858),(3,2860)] (.cut (β:=Bool) 2 (.k [1,2,5,15,16,17,6] (fun v1=>[(34,vB v1)]) [0,15] (fun _=>[(5,.af 1 (zc zb (s1.set k2 (-2))))]) 32 fun _=>(.af rfl .nil)) (.aA 0 (.ite 2846 e1.own (.ix 2862 zg safe (i1:Int) fun e3=>.us [(4,2847),(6,2862)] (.ret (!e3))) (.use 4 2847 (.ret true)))) fun v1=>.ite 2848 v1 (.sel 2848 (.ret (s1.set k2 (-2)))) (.sel 2848 (.aA 0 (.ix 2864 (zH bh.row) a.bp (i1:Int) fun e4=>.use 3 2864 (.ln 2874 bh.row e4 (.use 5 2874 (.aD (σ:=Unit) (ρ:=(List Int)) 2850 41 (e4.length:Int) () (.k [1,2,5,15,16,17,6,39,40] (fun _=>[]) [0] (fun _=>[(5,.af 1 (zc zb (s1.set k2 (-2))))]) 39 fun _=>(.af rfl .nil)) (fun i2 s2=>.sel 2850 (.aA 0 (.ix 2866 bh.row e4 (i2:Int) fun e5=>.use 0 2866 (.aA 0 (.ix 2868 zg safe e5.to fun e6=>.use 3 2868 (.ite 2852 e6 (.sel 2852 (.aA 0 (.b1 2870 (zi k1 (i1:Int)) (fun k3=>.k k3) (fun k3 gR=>(zn gR)) fun k3=>.b1 2872 ((s1.set k2 (-2))[k3]?) (fun e7=>.aw (zt (zb e7)) (zc zb ((s1.set k2 (-2)).set k3 e5.step))) (fun e7 Bf=>(zP zb e5.step Bf)) fun e7=>.us [(4,2870),(5,2872)] (.ret (.inr ((s1.set k2 (-2)).set k3 e5.step)))))) (.sel 2852 (.ret (.inl ()))))))))) fun os2=>.case os2 (fun s2=>.sel 2850 (.ret (s1.set k2 (-2)))) fun y1=>.ret y1))))))))))) fun v2=>.ret (.inl v2))) fun os1=>.case os1 (fun s1=>.sel 2836 (.bind (dH k1 s1.length) (fun _=>[]) (fun _ _=>.nil) fun g2=>.fin [5] (.Zai 5 0 k1) [(5,.af 1 (zc zb s1))] (.slice (ub zb s1)) (jO _ _ _ (zB (xh zb 5 1 k1 s1 g2.down rfl) q9)) s1)) fun _=>.none))))))
theorem I0 (a:bT) (safe:List Bool) (res:List Int) (hd:kJ a safe=some res):aJ C0 157 [.agg (bT.row a),.slice (ub zg safe)] (.slice (ub zb res)):=
 aB.pure (iv:=fun res=>.slice (ub zb res)) (U8 a safe) (by kernel_rfl) (aB.aC hd (by kernel_rfl))
noncomputable def QW (c:ax) (s:aG) (step:Int):Option Int:=
 (ua (bif (step == (-1)) then some true else (ua (ze c.aK step) fun e1=>some (e1.bK == (-1)))) fun v1=>(bif v1 then some (-1) else (ua (ze c.aK step) fun e2=>(ua (ze s.aE e2.bK) fun e3=>some e3))))
noncomputable def U9 (c:ax) (s:aG) (step:Int):aB Int:=
 .cut (β:=Bool) 3 (.e [2,3,4] (fun v1=>[(17,vB v1)]) [0,1] 14) (.aA 0 (.ite 2890 (step == (-1)) (.use 3 2890 (.ret true)) (.ix 2894 aZ.row c.aK step fun e1=>.us [(3,2890),(6,2894)] (.ret (e1.bK == (-1)))))) fun v1=>.ite 2892 v1 (.sel 2892 (.ret (-1))) (.sel 2892 (.aA 0 (.ix 2896 aZ.row c.aK step fun e2=>.ix 2898 zb s.aE e2.bK fun e3=>.us [(5,2896),(8,2898)] (.ret e3))))
theorem I1 (c:ax) (s:aG) (step:Int) (res:Int) (hd:QW c s step=some res):aJ C0 159 [.agg (ax.row c),.agg (aG.row s),.int .i64 step] (.int .i64 res):=
 aB.pure (iv:=fun res=>.int .i64 res) (U9 c s step) (by kernel_rfl) (aB.aC hd (by kernel_rfl))
noncomputable def wj (a:bT) (from_:Int) (move:Int):Option (Int×Bool):=
 (ua (ze a.bp from_) fun e1=>(ua (aD (σ:=Unit) (ρ:=Int) (e1.length:Int) (fun i1 s1=>(ua (ze e1 (i1:Int)) fun e2=>(bif (e2.step == move) then some (.inr e2.to) else some (.inl ())))) ()) (uc (fun (s1:Unit)=>some (0,false)) (fun (y1:Int)=>some (y1,true)))))
noncomputable def zg7 (a:bT) (from_:Int) (move:Int):aB (Int×Bool):=
 .aA 1 (.ix 2906 (zH bh.row) a.bp from_ fun e1=>.use 3 2906 (.ln 2910 bh.row e1 (.use 5 2910 (.aD (σ:=Unit) (ρ:=Int) 2902 16 (e1.length:Int) () (.e [2,14,15] (fun _=>[]) [] 10) (fun i1 s1=>.sel 2902 (.aA 0 (.ix 2908 bh.row e1 (i1:Int) fun e2=>.use 0 2908 (.ite 2904 (e2.step == move) (.sel 2904 (.ret (.inr e2.to))) (.sel 2904 (.ret (.inl ()))))))) fun os1=>.case os1 (fun s1=>.sel 2902 (.ret (0,false))) fun y1=>.ret (y1,true)))))
theorem Qo (a:bT) (from_:Int) (move:Int) (res:Int×Bool) (hd:wj a from_ move=some res):aJ C0 160 [.agg (bT.row a),.int .i64 from_,.int .i64 move] (.tuple [.int .i64 res.1,.bool res.2]):=
 aB.pure (iv:=fun res=>.tuple [.int .i64 res.1,.bool res.2]) (zg7 a from_ move) (by kernel_rfl) (aB.aC hd (by kernel_rfl))
noncomputable def ZN (p1:Int) (p2:List Int) (p3:Int) (p4:ax) (p5:bT) (p6:Int):Option ((List Int)×Int):=
 (ua (zJ (α:=Int) 8 p2 [p1]) fun e1=>(ua (ua (ze p5.aU p3) fun e2=>(ua (QW p4 e2.state p1) fun r1=>(bif (r1 == p6) then some p3 else (ua (wj p5 p3 (-2)) fun r2=>some r2.1)))) fun (v1:Int)=>(ua (wj p5 v1 p1) fun r3=>(bif r3.2 then some (e1,r3.1) else some (e1,p3)))))
noncomputable def zmF (p1:Int) (p2:List Int) (p3:Int) (p4:ax) (p5:bT) (p6:Int):aB ((List Int)×Int):=
 .aA 0 (.b1 2936 (zJ (α:=Int) 8 p2 [p1]) (fun e1=>.a (ub zb e1) e1.length) (fun e1 ec=>(qm zb 1 8 (fun _=>rfl) ec)) fun e1=>.use 3 2936 (.cut (β:=Int) 2 (.e [0,2,4] (fun v1=>[(7,vI v1)]) [0,1,2,3,4,5] 24) (.aA 0 (.ix 2938 aH.row p5.aU p3 fun e2=>.call 2940 (I1 p4 e2.state p1) fun r1=>.us [(4,2938),(8,2940)] (.ite 2932 (r1 == p6) (.sel 2933 (.ret p3)) (.sel 2933 (.aA 0 (.call 2942 (Qo p5 p3 (-2)) fun r2=>.use 2 2942 (.ret r2.1))))))) fun v1=>.aA 0 (.call 2944 (Qo p5 v1 p1) fun r3=>.use 3 2944 (.ite 2934 r3.2 (.sel 2934 (.ret (e1,r3.1))) (.sel 2934 (.ret (e1,p3)))))))
theorem I2 (p1:Int) (p2:List Int) (p3:Int) (p4:ax) (p5:bT) (p6:Int) (res:(List Int)×Int) (hd:ZN p1 p2 p3 p4 p5 p6=some res):dm C0 155 [vI p1,.ptr 0 0 0,.ptr 1 0 0,.ptr 2 0 0,.ptr 3 0 0,.ptr 4 0 0] [(0,.af 1 [[.aS 5 (ub zb p2)]]),(1,.af 1 [[vI p3]]),(2,.af 7 [zt (ax.row p4)]),(3,.af 3 [zt (bT.row p5)]),(4,.af 1 [[vI p6]]),(5,.aT 1 p2.length)] 6 (.tuple []) [(0,.af 1 [[.aS 5 (ub zb res.1)]]),(1,.af 1 [[vI res.2]]),(2,.af 7 [zt (ax.row p4)]),(3,.af 3 [zt (bT.row p5)]),(4,.af 1 [[vI p6]]),(5,.aT 1 res.1.length)] 0:=
 aB.dB (R:=fun res=>.tuple []) (H:=fun res=>[(0,.af 1 [[.aS 5 (ub zb res.1)]]),(1,.af 1 [[vI res.2]]),(2,.af 7 [zt (ax.row p4)]),(3,.af 3 [zt (bT.row p5)]),(4,.af 1 [[vI p6]]),(5,.aT 1 res.1.length)]) (zmF p1 p2 p3 p4 p5 p6) (.exp rfl rfl (.exp rfl rfl (.exp rfl rfl (.exp rfl rfl (.exp rfl rfl (.exp rfl rfl .nil)))))) (fun _=>(.exp rfl rfl (.exp rfl rfl (.exp rfl rfl (.exp rfl rfl (.exp rfl rfl (.exp rfl rfl .nil))))))) (by kernel_rfl) (fun _=>by kernel_rfl) (by kernel_rfl) (aB.aC hd (by kernel_rfl))
noncomputable def JJ (c:ax) (zw:Int) (cw:List Int):Option ((List Int)×Int):=
 (ua (xn c zw) fun r1=>(bif (r1.2 == 1) then some ([],1) else (ua (aD (σ:=Unit) (ρ:=Unit) (cw.length:Int) (fun i1 s1=>(ua (ze cw (i1:Int)) fun e1=>(ua (bif decide (e1 < (-1)) then some true else some (decide ((c.aK.length:Int)≤e1))) fun v1=>(bif v1 then some (.inr ()) else some (.inl ()))))) ()) (uc (fun (s1:Unit)=>(ua (bif (r1.2 == 0) then some (decide (4000 < (cw.length:Int))) else some true) fun v2=>(bif v2 then some ([],3) else (ua (yd c r1.1) fun r2=>(ua (kJ r1.1 r2) fun r3=>(ua (α:=(List Int) ⊕ Unit) (ua (aD (σ:=(List Int)×Int) (ρ:=(List Int) ⊕ Unit) (cw.length:Int) (fun i2 s2=>(ua (ze cw (i2:Int)) fun e2=>(ua (ze r1.1.aU s2.2) fun e3=>(bif (e3.state.day == c.aX) then some (.inr (.inl s2.1)) else (ua (ua (iter (σ:=(List Int)×Int) (ρ:=(List Int)×Int) (fun s3=>(ua (ua (ze r3 s3.2) fun e4=>(bif (e4 == (-2)) then some false else some (decide ((s3.1.length:Int)≤4000)))) fun v3=>(bif v3 then (ua (ze r3 s3.2) fun e5=>(ua (ZN e5 s3.1 s3.2 c r1.1 zw) fun r4=>some (.inl (r4.1,r4.2)))) else some (.inr (s3.1,s3.2))))) (s2.1,s2.2)) (fun (y2:(List Int)×Int)=>some (y2.1,y2.2))) fun (v4:(List Int)×Int)=>(ua (ua (ze r1.1.aU v4.2) fun e6=>(ua (QW c e6.state e2) fun r5=>(bif (r5 == zw) then some (v4.1,v4.2) else (ua (ZN e2 v4.1 v4.2 c r1.1 zw) fun r6=>some (r6.1,r6.2))))) fun (v5:(List Int)×Int)=>(bif decide (4000 < (v5.1.length:Int)) then some (.inr (.inr ())) else some (.inl (v5.1,v5.2))))))))) ([],0)) (uc (fun (s2:(List Int)×Int)=>some (.inl s2.1)) (uc (fun (y3:(List Int))=>some (.inl y3)) (fun (y4:Unit)=>some (.inr ()))))) (uc (fun (v6:(List Int))=>some (v6,0)) (fun (y5:Unit)=>some ([],3))))))))) (fun (y1:Unit)=>some ([],1))))))
noncomputable def ziT (c:ax) (zw:Int) (cw:List Int):aB ((List Int)×Int):=
 .aA 1 (.call 2986 (IM c zw) fun r1=>.use 2 2986 (.ite 2824 (r1.2 == 1) (.sel 2824 (.ret ([],1))) (.sel 2824 (.aA 0 (.ln 3020 zb cw (.use 1 3020 (.aD (σ:=Unit) (ρ:=Unit) 2826 28 (cw.length:Int) () (.e [2,3,4,8,9,26,27] (fun _=>[]) [0,1,10] 18) (fun i1 s1=>.sel 2826 (.aA 0 (.ix 2988 zb cw (i1:Int) fun e1=>.use 0 2988 (.cut (β:=Bool) 1 (.e [2,3,4,8,9,26,27,28] (fun v1=>[(40,vB v1)]) [0,1,10] 31) (.aA 0 (.ite 2828 (decide (e1 < (-1))) (.use 3 2828 (.ret true)) (.use 3 2828 (.ln 2990 aZ.row c.aK (.use 6 2990 (.ret (decide ((c.aK.length:Int)≤e1)))))))) fun v1=>.ite 2830 v1 (.sel 2830 (.ret (.inr ()))) (.sel 2830 (.ret (.inl ()))))))) fun os1=>.case os1 (fun s1=>.sel 2826 (.cut (β:=Bool) 2 (.e [2,3,4,8] (fun v2=>[(48,vB v2)]) [0,1,10] 26) (.aA 0 (.ite 2832 (r1.2 == 0) (.use 3 2833 (.ln 2992 zb cw (.use 4 2992 (.ret (decide (4000 < (cw.length:Int))))))) (.use 3 2833 (.ret true)))) fun v2=>.ite 2834 v2 (.sel 2834 (.ret ([],3))) (.sel 2834 (.aA 0 (.call 2994 (YB c r1.1) fun r2=>.call 2996 (I0 r1.1 r2) fun r3=>.us [(3,2994),(4,2996)] (.dK (β:=(List Int)) (γ:=Unit) 4 (.k [13] (fun _=>[]) [] (fun v6=>[(32,.af 1 [[.aS 40 (ub zb v6)]]),(40,.aT 1 v6.length)]) 41 fun _=>(.exp rfl rfl (.exp rfl rfl .nil))) (.aA 0 (.ln 3018 zb cw (.use 1 3018 (.cC 1 [Qh 32 1 0 0] (.aD (σ:=(List Int)×Int) (ρ:=(List Int) ⊕ Unit) 2880 57 (cw.length:Int) ([],0) (.k [3,4,8,12,13,14,15,55,56] (fun _=>[]) [0,1,10] (fun s2=>[(32,.af 1 [[.aS 40 (ub zb s2.1)]]),(33,.af 1 [[vI s2.2]]),(40,.aT 1 s2.1.length)]) 41 fun _=>(.exp rfl rfl (.exp rfl rfl (.exp rfl rfl .nil)))) (fun i2 s2=>.sel 2880 (.aA 0 (.ix 2998 zb cw (i2:Int) fun e2=>.use 0 2998 (.aA 0 (.ix 3000 aH.row r1.1.aU s2.2 fun e3=>.use 3 3000 (.ite 2970 (e3.state.day == c.aX) (.sel 2970 (.ret (.inr (.inl s2.1)))) (.sel 2970 (.cut (β:=(List Int)×Int) 1 (.k [3,4,8,12,13,14,15,55,56,57,17] (fun _=>[]) [0,1,10] (fun v4=>[(32,.af 1 [[.aS 40 (ub zb v4.1)]]),(33,.af 1 [[vI v4.2]]),(40,.aT 1 v4.1.length)]) 55 fun _=>(.exp rfl rfl (.exp rfl rfl (.exp rfl rfl .nil)))) (.iter (σ:=(List Int)×Int) (ρ:=(List Int)×Int) (s2.1,s2.2) (.k [3,4,8,12,13,14,15,55,56,57,17] (fun _=>[]) [0,1,10] (fun s3=>[(32,.af 1 [[.aS 40 (ub zb s3.1)]]),(33,.af 1 [[vI s3.2]]),(40,.aT 1 s3.1.length)]) 55 fun _=>(.exp rfl rfl (.exp rfl rfl (.exp rfl rfl .nil)))) (fun s3=>.cut (β:=Bool) 2 (.e [3,4,8,12,13,14,15,55,56,57,17] (fun v3=>[(80,vB v3)]) [0,1,10,32,33,40] 65) (.aA 0 (.ix 3002 zb r3 s3.2 fun e4=>.ite 2978 (e4 == (-2)) (.us [(2,3002),(6,2979)] (.ret false)) (.us [(2,3002),(6,2979)] (.ln 3004 zb s3.1 (.use 7 3004 (.ret (decide ((s3.1.length:Int)≤4000)))))))) fun v3=>.ite 2980 v3 (.sel 2980 (.aA 0 (.ix 3006 zb r3 s3.2 fun e5=>.b1 3008 (ZN e5 s3.1 s3.2 c r1.1 zw) (fun r4=>.c [32,33,0,10,1,40] 6 (.tuple []) [(32,.af 1 [[.aS 40 (ub zb r4.1)]]),(33,.af 1 [[vI r4.2]]),(40,.aT 1 r4.1.length)] 0) (fun r4 mR=>(zf (I2 e5 s3.1 s3.2 c r1.1 zw r4 mR) [32,33,0,10,1,40] 70 (.keep (.keep (.drop rfl rfl (.drop rfl rfl (.drop rfl rfl (.keep .nil)))))) (bI (bI (bI (bI (bI (bI bw)))))) (bI (bI (bI bw))))) fun r4=>.us [(3,3006),(5,3008)] (.ret (.inl (r4.1,r4.2)))))) (.sel 2980 (.ret (.inr (s3.1,s3.2))))) fun y2=>.ret (y2.1,y2.2)) fun v4=>.cut (β:=(List Int)×Int) 1 (.k [3,4,8,12,13,14,15,55,56,57] (fun _=>[]) [0,1,10] (fun v5=>[(32,.af 1 [[.aS 40 (ub zb v5.1)]]),(33,.af 1 [[vI v5.2]]),(40,.aT 1 v5.1.length)]) 66 fun _=>(.exp rfl rfl (.exp rfl rfl (.exp rfl rfl .nil)))) (.aA 0 (.ix 3010 aH.row r1.1.aU v4.2 fun e6=>.call 3012 (I1 c e6.state e2) fun r5=>.us [(4,3010),(8,3012)] (.ite 2982 (r5 == zw) (.sel 2983 (.ret (v4.1,v4.2))) (.sel 2983 (.aA 0 (.b1 3014 (ZN e2 v4.1 v4.2 c r1.1 zw) (fun r6=>.c [32,33,0,10,1,40] 6 (.tuple []) [(32,.af 1 [[.aS 40 (ub zb r6.1)]]),(33,.af 1 [[vI r6.2]]),(40,.aT 1 r6.1.length)] 0) (fun r6 oH=>(zf (I2 e2 v4.1 v4.2 c r1.1 zw r6 oH) [32,33,0,10,1,40] 68 (.keep (.keep (.drop rfl rfl (.drop rfl rfl (.drop rfl rfl (.keep .nil)))))) (bI (bI (bI (bI (bI (bI bw)))))) (bI (bI (bI bw))))) fun r6=>.use 2 3014 (.ret (r6.1,r6.2)))))))) fun v5=>.aA 0 (.ln 3016 zb v5.1 (.use 1 3016 (.ite 2984 (decide (4000 < (v5.1.length:Int))) (.sel 2984 (.ret (.inr (.inr ())))) (.sel 2984 (.ret (.inl (v5.1,v5.2))))))))))))))) fun os2=>.case os2 (fun s2=>.sel 2880 (.ret (.inl s2.1))) fun zy3=>.case zy3 (fun y3=>.ret (.inl y3)) fun y4=>.ret (.inr ())))))) fun o_v6=>.case o_v6 (fun v6=>.ret (v6,0)) fun y5=>.ret ([],3))))))) fun y1=>.ret ([],1))))))))
theorem ziU (c:ax) (zw:Int) (cw:List Int) (res:(List Int)×Int) (hd:JJ c zw cw=some res):aJ C0 154 [.agg (ax.row c),.int .i64 zw,.slice (ub zb cw)] (.tuple [.slice (ub zb res.1),.int .i64 res.2]):=
 aB.pure (iv:=fun res=>.tuple [.slice (ub zb res.1),.int .i64 res.2]) (ziT c zw cw) (by kernel_rfl) (aB.aC hd (by kernel_rfl))
noncomputable def XM (act:Int) (after:Int):Option aO:=
 some ({kind:=1,bK:=0,act:=act,need:=1,start:=[],after:=after,br:=0,bC:=false,final:=true,bg:=(-1),resume:=(-1),value:=({num:=0,den:=1}:aQ),unit:=(-1),to:=(-1),bt:=false}:aO)
noncomputable def zg9 (act:Int) (after:Int):aB aO:=
 .ret ({kind:=1,bK:=0,act:=act,need:=1,start:=[],after:=after,br:=0,bC:=false,final:=true,bg:=(-1),resume:=(-1),value:=({num:=0,den:=1}:aQ),unit:=(-1),to:=(-1),bt:=false}:aO)
theorem I3 (act:Int) (after:Int) (res:aO) (hd:XM act after=some res):aJ C0 187 [.int .i64 act,.int .i64 after] (.agg (aO.row res)):=
 aB.pure (iv:=fun res=>.agg (aO.row res)) (zg9 act after) (by kernel_rfl) (aB.aC hd (by kernel_rfl))
noncomputable def Er (p1:Int) (p2:List aO):Option Unit:=
 some ()
noncomputable def zmG (p1:Int) (p2:List aO):aB Unit:=
 .ret ()
theorem zmH (p1:Int) (p2:List aO) (res:Unit) (hd:Er p1 p2=some res):dm C0 188 [vI p1,.Zai 0 0 p2.length] [(0,.af 16 (zc aO.row p2))] 1 (.agg [vI 2,.Zai 11 0 2,.nil,.Zai 15 0 3,.Zai 0 0 p2.length,vI p1,.nil]) [(0,.af 16 (zc aO.row p2)),(11,.af 1 [[vI 0],[vI 1]]),(15,.af 7 [[vI 1,vI 0,vI 0,vI (-1),vI (-1),vI 0,vI 1],[vI 1,vI 0,vI 0,vI (-1),vI (-1),vI 0,vI 1],[vI 1,vI 1,vI 0,vI (-1),vI (-1),vI 0,vI 1]])] 15:=
 aB.dB (R:=fun res=>.agg [vI 2,.Zai 11 0 2,.nil,.Zai 15 0 3,.Zai 0 0 p2.length,vI p1,.nil]) (H:=fun res=>[(0,.af 16 (zc aO.row p2)),(11,.af 1 [[vI 0],[vI 1]]),(15,.af 7 [[vI 1,vI 0,vI 0,vI (-1),vI (-1),vI 0,vI 1],[vI 1,vI 0,vI 0,vI (-1),vI (-1),vI 0,vI 1],[vI 1,vI 1,vI 0,vI (-1),vI (-1),vI 0,vI 1]])]) (zmG p1 p2) (.af rfl .nil) (fun _=>(.af rfl (.exp rfl rfl (.exp rfl rfl .nil)))) (by kernel_rfl) (fun _=>by kernel_rfl) (by kernel_rfl) (aB.aC hd (by kernel_rfl))
noncomputable def Co (p1:aZ):Option Unit:=
 some ()
noncomputable def zoo (p1:aZ):aB Unit:=
 .ret ()
theorem zop (p1:aZ) (res:Unit) (hd:Co p1=some res):dm C0 32 [.ak (.agg [.int .i64 p1.kind,.int .i64 p1.bK,.int .i64 p1.bP,.int .i64 p1.to,.int .i64 p1.unit,.int .i64 p1.dh.num,.int .i64 p1.dh.den])] [] 0 (vB (!(p1.kind == 1))) [] 0:=
 aB.dB (R:=fun res=>vB (!(p1.kind == 1))) (H:=fun res=>[]) (zoo p1) .nil (fun _=>.nil) (by kernel_rfl) (fun _=>by kernel_rfl) (by kernel_rfl) (aB.aC hd (by kernel_rfl))
noncomputable def Cp (p1:List aZ):Option Int:=
 (ua (aD (σ:=Unit) (ρ:=Int) (p1.length:Int) (fun i1 s1=>(ua (ze p1 (i1:Int)) fun e1=>(ua (Co e1) fun r1=>(bif (e1.kind == 1) then some (.inl ()) else some (.inr (i1:Int)))))) ()) (uc (fun (s1:Unit)=>some (-1)) (fun (y1:Int)=>some y1)))
noncomputable def zoq (p1:List aZ):aB Int:=
 .aA 1 (.ln 3580 aZ.row p1 (.use 1 3580 (.aD (σ:=Unit) (ρ:=Int) 3572 8 (p1.length:Int) () (.e [0,1,7] (fun _=>[]) [] 4) (fun i1 s1=>.sel 3572 (.aA 1 (.ix 3576 aZ.row p1 (i1:Int) fun e1=>.b1 3578 (Co e1) (fun r1=>.c [] 0 (vB (!(e1.kind == 1))) [] 0) (fun r1 cz=>(zf (zop e1 r1 cz) [] 12 .nil bw bw)) fun r1=>.us [(3,3576),(5,3578)] (.ite 3574 (e1.kind == 1) (.sel 3575 (.ret (.inl ()))) (.sel 3575 (.ret (.inr (i1:Int)))))))) fun os1=>.case os1 (fun s1=>.sel 3572 (.ret (-1))) fun y1=>.ret y1)))
theorem zor (p1:List aZ) (res:Int) (hd:Cp p1=some res):dm C0 51 [.ak (.slice (ub aZ.row p1)),.func 32 [] []] [] 0 (vI res) [] 0:=
 aB.dB (R:=fun res=>vI res) (H:=fun res=>[]) (zoq p1) .nil (fun _=>.nil) (by kernel_rfl) (fun _=>by kernel_rfl) (by kernel_rfl) (aB.aC hd (by kernel_rfl))
noncomputable def Wy (p1:List aZ):Option Bool:=
 (ua (Cp p1) fun r1=>some (decide (0≤r1)))
noncomputable def zos (p1:List aZ):aB Bool:=
 .aA 1 (.b1 3582 (Cp p1) (fun r1=>.c [] 0 (vI r1) [] 0) (fun r1 cz=>(zf (zor p1 r1 cz) [] 3 .nil bw bw)) fun r1=>.use 2 3582 (.ret (decide (0≤r1))))
theorem zot (p1:List aZ) (res:Bool) (hd:Wy p1=some res):dm C0 31 [.ak (.slice (ub aZ.row p1)),.func 32 [] []] [] 0 (vB res) [] 0:=
 aB.dB (R:=fun res=>vB res) (H:=fun res=>[]) (zos p1) .nil (fun _=>.nil) (by kernel_rfl) (fun _=>by kernel_rfl) (by kernel_rfl) (aB.aC hd (by kernel_rfl))
noncomputable def Wz (rec:Int→(List Int)→Option (Int×(List Int))) (p1:Int) (p2:List Int):Option (Int×(List Int)):=
 (ua (ua (zi 400 p1) fun k1=>(ua (p2[k1]?) fun e1=>(bif (e1 == p1) then some p2 else (ua (zi 400 p1) fun k2=>(ua (p2[k2]?) fun e2=>(ua (rec e2 p2) fun r1=>(ua (r1.2[k2]?) fun e3=>some (r1.2.set k2 r1.1)))))))) fun (v1:(List Int))=>(ua (zi 400 p1) fun k3=>(ua (v1[k3]?) fun e4=>some (e4,v1))))
noncomputable def zkI (rec:Int→(List Int)→Option (Int×(List Int))) (mN:∀ (p1:Int) (p2:List Int) (res:Int×(List Int)),rec p1 p2=some res→dm C0 29 [vI p1,.ptr 0 0 0,.ptr 1 0 0] [(0,.af 1 (zc zb p2)),(1,.af 1 [[.func 29 [] [.ptr 0 0 0,.ptr 1 0 0]]])] 2 (vI res.1) [(0,.af 1 (zc zb res.2)),(1,.af 1 [[.func 29 [] [.ptr 0 0 0,.ptr 1 0 0]]])] 0) (p1:Int) (p2:List Int):aB (Int×(List Int)):=
 .cut (β:=(List Int)) 2 (.k [0,1] (fun _=>[]) [1] (fun v1=>[(0,.af 1 (zc zb v1))]) 8 fun _=>(.af rfl .nil)) (.aA 0 (.b1 3590 (zi 400 p1) (fun k1=>.k k1) (fun k1 hk1=>(zn hk1)) fun k1=>.b1 3592 (p2[k1]?) (fun e1=>.ar (zt (zb e1))) (fun e1 ec=>(zT zb ec)) fun e1=>.us [(1,3590),(2,3592)] (.ite 3588 (e1 == p1) (.sel 3589 (.ret p2)) (.sel 3589 (.aA 0 (.b1 3594 (zi 400 p1) (fun k2=>.k k2) (fun k2 hk2=>(zn hk2)) fun k2=>.b1 3596 (p2[k2]?) (fun e2=>.ar (zt (zb e2))) (fun e2 eu=>(zT zb eu)) fun e2=>.b1 3598 (rec e2 p2) (fun r1=>.c [0,1] 2 (vI r1.1) [(0,.af 1 (zc zb r1.2))] 0) (fun r1 cz=>(zf (mN e2 p2 r1 cz) [0,1] 16 (.keep (.drop rfl rfl .nil)) (bH (bI bw)) (bH bw))) fun r1=>.b1 3600 (r1.2[k2]?) (fun e3=>.aw (zt (zb e3)) (zc zb (r1.2.set k2 r1.1))) (fun e3 fT=>(zP zb r1.1 fT)) fun e3=>.us [(3,3594),(4,3596),(5,3598),(6,3594),(7,3600)] (.ret (r1.2.set k2 r1.1)))))))) fun v1=>.aA 0 (.b1 3602 (zi 400 p1) (fun k3=>.k k3) (fun k3 gR=>(zn gR)) fun k3=>.b1 3604 (v1[k3]?) (fun e4=>.ar (zt (zb e4))) (fun e4 iA=>(zT zb iA)) fun e4=>.us [(1,3602),(2,3604)] (.ret (e4,v1)))
theorem zkJ (rec:Int→(List Int)→Option (Int×(List Int))) (mN:∀ (p1:Int) (p2:List Int) (res:Int×(List Int)),rec p1 p2=some res→dm C0 29 [vI p1,.ptr 0 0 0,.ptr 1 0 0] [(0,.af 1 (zc zb p2)),(1,.af 1 [[.func 29 [] [.ptr 0 0 0,.ptr 1 0 0]]])] 2 (vI res.1) [(0,.af 1 (zc zb res.2)),(1,.af 1 [[.func 29 [] [.ptr 0 0 0,.ptr 1 0 0]]])] 0) (p1:Int) (p2:List Int) (res:Int×(List Int)) (hd:Wz rec p1 p2=some res):dm C0 29 [vI p1,.ptr 0 0 0,.ptr 1 0 0] [(0,.af 1 (zc zb p2)),(1,.af 1 [[.func 29 [] [.ptr 0 0 0,.ptr 1 0 0]]])] 2 (vI res.1) [(0,.af 1 (zc zb res.2)),(1,.af 1 [[.func 29 [] [.ptr 0 0 0,.ptr 1 0 0]]])] 0:=
 aB.dB (R:=fun res=>vI res.1) (H:=fun res=>[(0,.af 1 (zc zb res.2)),(1,.af 1 [[.func 29 [] [.ptr 0 0 0,.ptr 1 0 0]]])]) (zkI rec mN p1 p2) (.af rfl (.exp rfl rfl .nil)) (fun _=>(.af rfl (.exp rfl rfl .nil))) (by kernel_rfl) (fun _=>by kernel_rfl) (by kernel_rfl) (aB.aC hd (by kernel_rfl))
noncomputable def xo:Nat→Int→(List Int)→Option (Int×(List Int))
 | 0=>fun _ _=>none
 | k+1=>Wz (xo k)
noncomputable def xF (p1:Int) (p2:List Int):Option (Int×(List Int)):=rD fun k=>xo k p1 p2
theorem I4:∀ (k:Nat) (p1:Int) (p2:List Int) (res:Int×(List Int)),xo k p1 p2=some res→dm C0 29 [vI p1,.ptr 0 0 0,.ptr 1 0 0] [(0,.af 1 (zc zb p2)),(1,.af 1 [[.func 29 [] [.ptr 0 0 0,.ptr 1 0 0]]])] 2 (vI res.1) [(0,.af 1 (zc zb res.2)),(1,.af 1 [[.func 29 [] [.ptr 0 0 0,.ptr 1 0 0]]])] 0
 | 0=>fun p1 p2 res h=>by cases h
 | k+1=>fun p1 p2 res h=>zkJ (xo k) (I4 k) p1 p2 res h
theorem YD (p1:Int) (p2:List Int) (res:Int×(List Int)) (hd:xF p1 p2=some res):dm C0 29 [vI p1,.ptr 0 0 0,.ptr 1 0 0] [(0,.af 1 (zc zb p2)),(1,.af 1 [[.func 29 [] [.ptr 0 0 0,.ptr 1 0 0]]])] 2 (vI res.1) [(0,.af 1 (zc zb res.2)),(1,.af 1 [[.func 29 [] [.ptr 0 0 0,.ptr 1 0 0]]])] 0:=by
 obtain ⟨k,hk⟩:=Pk hd
 exact I4 k p1 p2 res hk
noncomputable def vi (p1:Int) (p2:Int) (p3:List Int):Option (List Int):=
 (ua (xF p1 p3) fun r1=>(ua (xF p2 r1.2) fun r2=>(ua (xF p1 r2.2) fun r3=>(ua (xF p2 r3.2) fun r4=>(ua (zi 400 (if r3.1 < r4.1 then r4.1 else r3.1)) fun k1=>(ua (r4.2[k1]?) fun e1=>some (r4.2.set k1 (if r2.1 < r1.1 then r2.1 else r1.1))))))))
noncomputable def zou (p1:Int) (p2:Int) (p3:List Int):aB (List Int):=
 .aA 0 (.b1 3606 (xF p1 p3) (fun r1=>.c [1,0] 2 (vI r1.1) [(1,.af 1 (zc zb r1.2))] 0) (fun r1 cz=>(zf (YD p1 p3 r1 cz) [1,0] 18 (.keep (.drop rfl rfl .nil)) (bH (bI bw)) (bH bw))) fun r1=>.b1 3608 (xF p2 r1.2) (fun r2=>.c [1,0] 2 (vI r2.1) [(1,.af 1 (zc zb r2.2))] 0) (fun r2 cy=>(zf (YD p2 r1.2 r2 cy) [1,0] 18 (.keep (.drop rfl rfl .nil)) (bH (bI bw)) (bH bw))) fun r2=>.b1 3610 (xF p1 r2.2) (fun r3=>.c [1,0] 2 (vI r3.1) [(1,.af 1 (zc zb r3.2))] 0) (fun r3 eP=>(zf (YD p1 r2.2 r3 eP) [1,0] 18 (.keep (.drop rfl rfl .nil)) (bH (bI bw)) (bH bw))) fun r3=>.b1 3612 (xF p2 r3.2) (fun r4=>.c [1,0] 2 (vI r4.1) [(1,.af 1 (zc zb r4.2))] 0) (fun r4 mR=>(zf (YD p2 r3.2 r4 mR) [1,0] 18 (.keep (.drop rfl rfl .nil)) (bH (bI bw)) (bH bw))) fun r4=>.us [(2,3606),(5,3608),(9,3610),(12,3612)] (.aA 0 (.b1 3614 (zi 400 (if r3.1 < r4.1 then r4.1 else r3.1)) (fun k1=>.k k1) (fun k1 hk1=>(zn hk1)) fun k1=>.b1 3616 (r4.2[k1]?) (fun e1=>.aw (zt (zb e1)) (zc zb (r4.2.set k1 (if r2.1 < r1.1 then r2.1 else r1.1)))) (fun e1 ec=>(zP zb (if r2.1 < r1.1 then r2.1 else r1.1) ec)) fun e1=>.us [(2,3614),(3,3616)] (.ret (r4.2.set k1 (if r2.1 < r1.1 then r2.1 else r1.1))))))
theorem Es (p1:Int) (p2:Int) (p3:List Int) (res:(List Int)) (hd:vi p1 p2 p3=some res):dm C0 30 [vI p1,vI p2,.ptr 0 0 0,.ptr 1 0 0] [(0,.af 1 [[.func 29 [] [.ptr 1 0 0,.ptr 0 0 0]]]),(1,.af 1 (zc zb p3))] 2 (.tuple []) [(0,.af 1 [[.func 29 [] [.ptr 1 0 0,.ptr 0 0 0]]]),(1,.af 1 (zc zb res))] 0:=
 aB.dB (R:=fun res=>.tuple []) (H:=fun res=>[(0,.af 1 [[.func 29 [] [.ptr 1 0 0,.ptr 0 0 0]]]),(1,.af 1 (zc zb res))]) (zou p1 p2 p3) (.exp rfl rfl (.af rfl .nil)) (fun _=>(.exp rfl rfl (.af rfl .nil))) (by kernel_rfl) (fun _=>by kernel_rfl) (by kernel_rfl) (aB.aC hd (by kernel_rfl))
noncomputable def kK (k:aO):Option (List Int):=
 (bif (k.bg == (-1)) then some [k.act] else some [k.act,k.bg,k.resume])
noncomputable def zha (k:aO):aB (List Int):=
 .ite 3620 (k.bg == (-1)) (.sel 3620 (.ret [k.act])) (.sel 3620 (.ret [k.act,k.bg,k.resume]))
theorem zhb (k:aO) (res:List Int) (hd:kK k=some res):aJ C0 25 [.agg (aO.row k)] (.slice (ub zb res)):=
 aB.pure (iv:=fun res=>.slice (ub zb res)) (zha k) (by kernel_rfl) (aB.aC hd (by kernel_rfl))
noncomputable def xN (i:Nat) (s:List (List Int)×List (Int×Int)×List Int):Option ((List (List Int)×List (Int×Int)×List Int) ⊕ Unit):=
 ua (xF (i:Int) s.2.2) fun r=>
  bif r.1 == (i:Int) then some (.inl (s.1++[[(i:Int)]],zG (i:Int) (s.1.length:Int) s.2.1,r.2))
  else ua (ze s.1 ((zl r.1 s.2.1).getD 0)) fun l=>some (.inl (s.1.set ((zl r.1 s.2.1).getD 0).toNat (l++[(i:Int)]),s.2.1,r.2))
abbrev fF:AV:=.func 29 [] [.ptr 0 0 0,.ptr 1 0 0]
structure Bi where
 heap:List (Nat×aF)
 N:Nat
 P:Nat
 qs:List Nat
structure I5 (i:Nat) (s:List (List Int)×List (Int×Int)×List Int) (c:Bi):Prop where
 nest:dn c.heap c.N c.P c.qs s.1
 min:9≤c.N
 lt:∀ j o,za c.heap j=some o→j < c.N
 p0:c.P≠0
 p1:c.P≠1
 h0:za c.heap 0=some (.af 1 (zc zb s.2.2))
 h1:za c.heap 1=some (.af 1 [[fF]])
 h4:za c.heap 4=some (.map (zp IV.i64 IV.i64 s.2.1))
 len:s.1.length≤i
 lens:∀ (k:Nat) (L:List Int),s.1[k]?=some L→L.length≤i
def GS (n:Int) (i:Nat) (s:List (List Int)×List (Int×Int)×List Int) (c:Bi):St:=
 ⟨[(1,fF),(5,.Zai c.P 0 s.1.length),(6,.map 4),(10,vI n),(11,vI (i:Int))],c.heap,c.N⟩
theorem zmI {nt:Fr} (i:Int) (above:List Int) (r:Int×List Int) (hr:xF i above=some r) (x5 x6 iX:AV) (heap:List (Nat×aF)) (N:Nat) (hN:9≤N)
  (h0:za heap 0=some (.af 1 (zc zb above))) (h1:za heap 1=some (.af 1 [[fF]])) (P:Exit→St→Prop)
  (h:P .normal ⟨[(1,fF),(5,x5),(6,x6),(10,iX),(11,vI i),(7,vI i),(8,vI r.1)],zo heap 0 (.af 1 (zc zb r.2)),N+4⟩) :
  cD C0.plain nt (.region false [] DY (some [1,5,6,7,8,10,11])) P ⟨[(1,fF),(5,x5),(6,x6),(10,iX),(11,vI i),(7,vI i)],heap,N⟩:=by
 refine yv ?_
 have hd:=YD i above r hr
 simp only [DY,Jo,Gb,Qc,Gf,ai,Ge,kY,Gd,reduceIte,uk,kW,kX,vV,kZ,Qd,Gc,uB,uD,WV,ux,uu,ut,Xo,ul,if_false]
 refine bJ.dB (l:=[0,1]) (zf hd [0,1] (N+1+1) (.keep (.drop rfl rfl .nil)) (bH (bI bw)) (bH bw)) ?_ ?_ ?_
 ·simp only [ku,ZF,um,uo,uC,uE]
  simp;try omega
 ·simp only [xA,h0,h1]
  rfl
 ·simp only [yu,St.put,kW,kX,vV,kZ,Qd,ul,if_false,reduceIte,kY,uk,Xn,JX]
  simp [qG,uF,fB,vl]
  exact h
theorem xG {C:bA} {ord:List Nat} {K:St→Prop} {dst:Option Nat} {op:cP} {rest:List aM} {j:Nat} {W R:List (Nat×Nat)} {env:List (Nat×AV)} {heap:List (Nat×aF)} {next:Nat} (r:AV) (aN:List (Nat×aF)) (hc:(match op with | .call _ _=>true | _=>false)=false)
  (he:ai op (zd env) (za heap) next=some (r,aN)) (hk:xj ord j W R (z8 aN) (zj op (zd env))=true)
  (hn:lB C ord K rest (j+1) (q7 j (z8 aN) W) (q7 j (zj op (zd env)) R) (St.after ⟨env,heap,next⟩ dst r aN)):lB C ord K (⟨dst,op,none⟩::rest) j W R ⟨env,heap,next⟩:=by
 rw [Gg,Gi]
 have e:∀ KD,dZ C KD ⟨env,heap,next⟩ op=qv KD (zj op (zd env)) (ai op (zd env) (za heap) next):=fun KD=>by
  cases op<;>first | rfl | exact Bool.noConfusion hc
 rw [e,he]
 exact ⟨hk,hn⟩
theorem I6 {ev:bf→AV} {h:Nat→Option aF} {id Q k p:Nat} {a b:bf} {af:List (List AV)} (hb:ev b=vI (p:Int)) (ha:ev a=.Zai Q 0 k) (hQ:h Q=some (.af 1 af)) (hp:p < k):ai (.idx 1 a b) ev h id=some (.ptr Q p 0,[]):=by
 have i2:(p:Int) < (k:Int):=by omega
 simp [ai,hb,ha,vI,hQ,i2]
theorem ziV {ev:bf→AV} {h:Nat→Option aF} {id Q p:Nat} {a:bf} {v:AV} {af:List (List AV)} (ha:ev a=.ptr Q p 0) (hQ:h Q=some (.af 1 af)) (hr:af[p]?=some [v]):ai (.load false 1 a) ev h id=some (v,[]):=by
 simp [ai,ha,hQ,hr]
theorem zkK {ev:bf→AV} {h:Nat→Option aF} {id q B:Nat} {a b:bf} {v:IV} {af:List (List IV)} (ha:ev a=.aS q af) (hb:ev b=.Zai B 0 1) (hB:h B=some (.af 1 [[.ak v]])) (hq:h q=some (.aT 1 af.length)) (hl:(af.length+1)*8≤140737488355328) :
  ai (.app 1 8 a b) ev h id=some (.aS q (af++[[v]]),[(q,.aT 1 (af.length+1))]):=by
 simp [ai,ha,hb,J4,xI,hB,hq,hl,aL,jm]
theorem zhc {ev:bf→AV} {h:Nat→Option aF} {id Q p q:Nat} {a b:bf} {L:List (List IV)} {x:AV} {af:List (List AV)} (ha:ev a=.ptr Q p 0) (hb:ev b=.aS q L) (hQ:h Q=some (.af 1 af)) (hr:af[p]?=some [x]):ai (.store 1 a b) ev h id=some (.undef,[(Q,.af 1 (af.set p [.aS q L]))]):=by
 simp [ai,ha,hb,hQ,hr,cellsOf,q6]
set_option maxHeartbeats 4000000 in
theorem I7 {C:bA} {nt:Fr} (i r:Int) (x1 iX:AV) (heap:List (Nat×aF)) (N Q k p q:Nat) (es:List (Int×Int)) (af:List (List AV)) (L:List Int) (hk:k=af.length)
  (hlt:∀ j o,za heap j=some o→j < N) (hQ:za heap Q=some (.af 1 af)) (h4:za heap 4=some (.map (zp IV.i64 IV.i64 es))) (hp:(zl r es).getD 0=(p:Int)) (hrow:af[p]?=some [.aS q (L.map zb)]) (hq:za heap q=some (.aT 1 L.length)) (hL:(L.length+1)*8≤140737488355328)
  (P:Exit→St→Prop)
  (h:P .normal ⟨[(1,x1),(5,.Zai Q 0 k),(6,.map 4),(10,iX),(11,vI i)],zo (zo (zo heap (N+11) (.af 1 [[vI i]])) q (.aT 1 (L.length+1))) Q (.af 1 (af.set p [.aS q ((L++[i]).map zb)])),N+15⟩) :
  cD C nt (.region true [0,0,0,6,0,0,0,96,240,496,0,1024,4080,8191,16383] QO (some [1,5,6,10,11])) P ⟨[(1,x1),(5,.Zai Q 0 k),(6,.map 4),(10,iX),(11,vI i),(7,vI i),(8,vI r)],heap,N⟩:=by
 refine Gj ?_
 have e1:Q < N:=hlt _ _ hQ
 have e2:q < N:=hlt _ _ hq
 have e3:Q≠q:=fun e=>by rw [e,hq] at hQ;cases hQ
 have e4:Q≠4:=fun e=>by rw [e,h4] at hQ;cases hQ
 have e5:q≠4:=fun e=>by rw [e,h4] at hq;cases hq
 have e6:(4:Nat) < N:=hlt _ _ h4
 have hpk:p < k:=by rw [hk];exact (ug.1 hrow).1
 have lk:Wh QO=false:=rfl
 rw [lk]
 have hf:(match qt (.int .i64 r) (zp IV.i64 IV.i64 es) with | some x=>x | none=>vI 0)=vI (p:Int):=by
  rw [wX]
  cases hm:zl r es with
  | none=>rw [hm] at hp;simp only [uy];rw [←hp];rfl
  | some v=>rw [hm] at hp;simp only [uj];rw [←hp];rfl
 have rJ:∀ (ev:bf→AV) (h:Nat→Option aF) (id:Nat) (a b:bf),ev a=.map 4→ev b=vI r→h 4=some (.map (zp IV.i64 IV.i64 es))→ai (.look false (.ak (.int .i64 0)) false a b) ev h id=some (vI (p:Int),[]):=by
  intro ev h id a b ha hb hh
  simp only [ai,ha,hb,vI,jx,hh,Zb,wU]
  rw [wX]
  cases hm:zl r es with
  | none=>rw [hm] at hp;simp only [uy];simp at hp;simp [←hp]
  | some v=>rw [hm] at hp;simp only [uj];simp at hp;simp [←hp,IV.i64]
 show lB C _ (ZD _ P) QO 0 [] [] _
 unfold QO
 refine xG _ _ rfl rfl rfl ?_
 refine xG _ _ rfl rfl rfl ?_
 refine xG _ _ rfl rfl rfl ?_
 refine xG _ _ rfl (rJ _ _ _ _ _ rfl rfl h4) rfl ?_
 refine xG _ _ rfl rfl rfl ?_
 refine xG _ _ rfl rfl rfl ?_
 refine xG _ _ rfl rfl rfl ?_
 refine xG _ _ rfl (rJ _ _ _ _ _ rfl rfl h4) rfl ?_
 refine xG _ _ rfl (I6 rfl rfl hQ hpk) rfl ?_
 refine xG _ _ rfl (ziV rfl hQ hrow) rfl ?_
 refine xG _ _ rfl rfl rfl ?_
 have n1:N+11≠Q:=by omega
 have n2:N+11≠q:=by omega
 have n3:N+11≠4:=by omega
 have Bh:za (zo heap (N+11) (.af 1 [[vI i]])) Q=some (.af 1 af):=by rw [zr,if_neg n1];exact hQ
 have hq1:za (zo heap (N+11) (.af 1 [[vI i]])) q=some (.aT 1 (L.map zb).length):=by rw [zr,if_neg n2,uz];exact hq
 have hB:za (zo heap (N+11) (.af 1 [[vI i]])) (N+11)=some (.af 1 [[vI i]]):=by rw [zr,if_pos rfl]
 show lB C _ _ _ 11 [] [(9,Q),(8,Q),(7,4),(3,4)] ⟨[(1,x1),(5,.Zai Q 0 k),(6,.map 4),(10,iX),(11,vI i),(7,vI i),(8,vI r),(27,.Zai Q 0 k),(28,.map 4),(29,vI r),(30,vI (p:Int)),(31,.Zai Q 0 k),(32,.map 4),(33,vI r),(34,vI (p:Int)),(35,.ptr Q p 0),(36,.aS q (L.map zb)),(37,vI i)],heap,N+11⟩
 have m1:Q≠N+11:=by omega
 have m2:q≠N+11:=by omega
 have m3:4≠N+11:=by omega
 have e3':¬ q=Q:=fun e=>e3 e.symm
 refine xG (.Zai (N+11) 0 1) [(N+11,.af 1 [[vI i]])] rfl rfl ?_ ?_
 ·simp [xj,z8,m1,m3]
 show lB C _ _ _ 12 [(11,N+11)] [(9,Q),(8,Q),(7,4),(3,4)] ⟨[(1,x1),(5,.Zai Q 0 k),(6,.map 4),(10,iX),(11,vI i),(7,vI i),(8,vI r),(27,.Zai Q 0 k),(28,.map 4),(29,vI r),(30,vI (p:Int)),(31,.Zai Q 0 k),(32,.map 4),(33,vI r),(34,vI (p:Int)),(35,.ptr Q p 0),(36,.aS q (L.map zb)),(37,vI i),(38,.Zai (N+11) 0 1)],(zo heap (N+11) (.af 1 [[vI i]])),N+12⟩
 refine xG (.aS q (L.map zb++[zb i])) [(q,.aT 1 ((L.map zb).length+1))] rfl (zkK rfl rfl hB hq1 (by simpa using hL)) ?_ ?_
 ·simp [xj,z8,ef,e3,e5,Ne.symm e5,m2]
 show lB C _ _ _ 13 [(12,q),(11,N+11)] _ ⟨[(1,x1),(5,.Zai Q 0 k),(6,.map 4),(10,iX),(11,vI i),(7,vI i),(8,vI r),(27,.Zai Q 0 k),(28,.map 4),(29,vI r),(30,vI (p:Int)),(31,.Zai Q 0 k),(32,.map 4),(33,vI r),(34,vI (p:Int)),(35,.ptr Q p 0),(36,.aS q (L.map zb)),(37,vI i),(38,.Zai (N+11) 0 1),(39,.aS q (L.map zb++[zb i]))],(zo (zo heap (N+11) (.af 1 [[vI i]])) q (.aT 1 ((L.map zb).length+1))),N+13⟩
 have I8:za (zo (zo heap (N+11) (.af 1 [[vI i]])) q (.aT 1 ((L.map zb).length+1))) Q=some (.af 1 af):=by rw [zr,if_neg e3'];exact Bh
 refine xG (.ptr Q p 0) [] rfl (I6 rfl rfl I8 hpk) ?_ ?_
 ·simp [xj,z8,ef]
 show lB C _ _ _ 14 [(12,q),(11,N+11)] _ ⟨[(1,x1),(5,.Zai Q 0 k),(6,.map 4),(10,iX),(11,vI i),(7,vI i),(8,vI r),(27,.Zai Q 0 k),(28,.map 4),(29,vI r),(30,vI (p:Int)),(31,.Zai Q 0 k),(32,.map 4),(33,vI r),(34,vI (p:Int)),(35,.ptr Q p 0),(36,.aS q (L.map zb)),(37,vI i),(38,.Zai (N+11) 0 1),(39,.aS q (L.map zb++[zb i])),(40,.ptr Q p 0)],(zo (zo heap (N+11) (.af 1 [[vI i]])) q (.aT 1 ((L.map zb).length+1))),N+14⟩
 refine xG .undef _ rfl (zhc rfl rfl I8 hrow) ?_ ?_
 ·simp [xj,z8,ef]
 show ZD _ P ⟨[(1,x1),(5,.Zai Q 0 k),(6,.map 4),(10,iX),(11,vI i),(7,vI i),(8,vI r),(27,.Zai Q 0 k),(28,.map 4),(29,vI r),(30,vI (p:Int)),(31,.Zai Q 0 k),(32,.map 4),(33,vI r),(34,vI (p:Int)),(35,.ptr Q p 0),(36,.aS q (L.map zb)),(37,vI i),(38,.Zai (N+11) 0 1),(39,.aS q (L.map zb++[zb i])),(40,.ptr Q p 0)],zo (zo (zo heap (N+11) (.af 1 [[vI i]])) q (.aT 1 ((L.map zb).length+1))) Q (.af 1 (af.set p [.aS q (L.map zb++[zb i])])),N+15⟩
 rw [Xn]
 rw [List.map_append,uz] at *
 exact h
theorem Ze {C:bA} {K:St→Prop} {dst:Option Nat} {op:cP} {rest:List aM} {env:List (Nat×AV)} {heap:List (Nat×aF)} {next:Nat} (r:AV) (aN:List (Nat×aF)) (hc:(match op with | .call _ _=>true | _=>false)=false)
  (he:ai op (zd env) (za heap) next=some (r,aN)) (hn:l9 C rest K (St.after ⟨env,heap,next⟩ dst r aN)):l9 C (⟨dst,op,none⟩::rest) K ⟨env,heap,next⟩:=by
 rw [Jo,Qc]
 have e:∀ K,cj C dst K ⟨env,heap,next⟩ op=qc dst K ⟨env,heap,next⟩ (ai op (zd env) (za heap) next):=fun KD=>by
  cases op<;>first | rfl | exact Bool.noConfusion hc
 rw [e,he]
 exact hn
theorem ziW {env env':List (Nat×AV)} {heap:List (Nat×aF)} {N:Nat} (h:∀ t x,za env' t=some x→za env t=some x):bR ⟨env,heap,N⟩ ⟨env',heap,N⟩:=fun C nt g a w R=>
 ⟨g,⟨⟨R.env.size,R.env.defers,fun t x hx=>R.env.slot t x (h t x hx)⟩,R.heap⟩,fun _ _ _ _ E=>E⟩
theorem I9 {α:Type}:∀ (l m:List (Nat×α)) (t:Nat) (x:α),za l t=some x→za (l++m) t=some x
 | [],m,t,x,h=>by cases h
 | (k,v)::l,m,t,x,h=>by
  simp only [ut,za] at h ⊢
  split
  ·rename_i e;rw [if_pos e] at h;exact h
  ·rename_i e;rw [if_neg e] at h;exact I9 l m t x h
theorem zhe (env ext:List (Nat×AV)) (heap:List (Nat×aF)) (N:Nat):bR ⟨env++ext,heap,N⟩ ⟨env,heap,N⟩:=ziW fun t x h=>I9 env ext t x h
theorem La {C:bA} {nt:Fr} (x1 x5 x6 iX:AV) (i:Int) (heap:List (Nat×aF)) (N:Nat) (P:Exit→St→Prop) (h:P .normal ⟨[(1,x1),(5,x5),(6,x6),(10,iX),(11,vI (IntKind.i64.wrap (i+1)))],heap,N+2⟩) :
 cD C nt (.region false [] Ib (some [1,5,6,10,11])) P ⟨[(1,x1),(5,x5),(6,x6),(10,iX),(11,vI i)],heap,N⟩:=qU [] .nil h (by kernel_rfl)
theorem Lb (k:Int) (v:Int):∀ es:List (Int×Int),zl k (zG k v es)=some v
 | []=>by simp [zG,zl]
 | (k',v')::r=>by
  have ih:=Lb k v r
  by_cases e:k=k'
  ·simp only [zG,if_pos e,zl,if_true]
  ·simp only [zG,if_neg e,zl];exact ih
theorem zkL {ev:bf→AV} {h:Nat→Option aF} {id M:Nat} {a b c:bf} {i v:Int} {es:List (Int×Int)} (ha:ev a=.map M) (hb:ev b=vI i) (hc:ev c=vI v) (hM:h M=some (.map (zp IV.i64 IV.i64 es))) :
  ai (.upd false a b c) ev h id=some (.undef,[(M,.map (zp IV.i64 IV.i64 (zG i v es)))]):=by
 have:=(Ve IV.i64 i v es).2
 simp only [ai,ha,hb,hc,hM,vI,xJ,Zb,wU]
 simp only [IV.i64] at this ⊢
 simp [this]
theorem zkM {ev:bf→AV} {h:Nat→Option aF} {id Q k sz:Nat} {a:bf} {af:List (List AV)} (ha:ev a=.Zai Q 0 k) (hQ:h Q=some (.af sz af)):ai (.len a) ev h id=some (vI (k:Int),[]):=by
 simp [ai,ha,wy,hQ]
theorem zkN {ev:bf→AV} {h:Nat→Option aF} {id Q B k:Nat} {a b:bf} {v:AV} {af:List (List AV)} (ha:ev a=.Zai Q 0 k) (hb:ev b=.Zai B 0 1) (hB:h B=some (.af 1 [[v]])) (hQ:h Q=some (.af 1 af)) (hk:k=af.length) (hl:(k+1)*24≤140737488355328) :
  ai (.app 1 24 a b) ev h id=some (.Zai id 0 (k+1),[(id,.af 1 (af++[[v]])),(Q,.dead)]):=by
 subst hk
 simp [ai,ha,hb,Je,jQ,hB,hQ,hl]
theorem zov {C:bA} {nt:Fr} (i r:Int) (x1 iX Bj x19:AV) (heap:List (Nat×aF)) (N Q k:Nat) (es:List (Int×Int)) (af:List (List AV)) (hQ:za heap Q=some (.af 1 af)) (h4:za heap 4=some (.map (zp IV.i64 IV.i64 es))) (P:Exit→St→Prop)
  (h:P .normal ⟨[(1,x1),(5,.Zai Q 0 k),(6,.map 4),(10,iX),(11,Bj),(7,vI i),(8,vI r)],zo heap 4 (.map (zp IV.i64 IV.i64 (zG i (k:Int) es))),N+5⟩) :
  cD C nt (.region false [] DZ (some [1,5,6,7,8,10,11])) P ⟨[(1,x1),(5,.Zai Q 0 k),(6,.map 4),(10,iX),(11,Bj),(7,vI i),(8,vI r),(19,x19)],heap,N⟩:=by
 refine yv ?_
 unfold DZ
 refine Ze _ _ rfl rfl ?_
 refine Ze _ _ rfl rfl ?_
 refine Ze _ _ rfl rfl ?_
 refine Ze (vI (k:Int)) [] rfl (zkM rfl hQ) ?_
 refine Ze _ _ rfl (zkL rfl rfl rfl h4) ?_
 exact h
theorem zow {C:bA} {nt:Fr} (x1 x6 x7 x8 iX Bj:AV) (heap:List (Nat×aF)) (N Q k:Nat) (af:List (List AV)) (hk:k=af.length) (IX:Q < N) (hQ:za heap Q=some (.af 1 af)) (hl:(k+1)*24≤140737488355328) (P:Exit→St→Prop)
  (h:P .normal ⟨[(1,x1),(5,.Zai (N+2) 0 (k+1)),(6,x6),(10,iX),(11,Bj),(7,x7),(8,x8)],zo (zo (zo heap (N+1) (.af 1 [[.nil]])) Q .dead) (N+2) (.af 1 (af++[[.nil]])),N+4⟩) :
  cD C nt (.region false [] D0 (some [1,5,6,7,8,10,11])) P ⟨[(1,x1),(5,.Zai Q 0 k),(6,x6),(10,iX),(11,Bj),(7,x7),(8,x8)],heap,N⟩:=by
 refine yv ?_
 unfold D0
 refine Ze _ _ rfl rfl ?_
 refine Ze (.Zai (N+1) 0 1) [(N+1,.af 1 [[.nil]])] rfl rfl ?_
 have hB:za (zo heap (N+1) (.af 1 [[.nil]])) (N+1)=some (.af 1 [[.nil]]):=by rw [zr,if_pos rfl]
 have Bh:za (zo heap (N+1) (.af 1 [[.nil]])) Q=some (.af 1 af):=by rw [zr,if_neg (by omega)];exact hQ
 refine Ze _ _ rfl (zkN rfl rfl hB Bh hk hl) ?_
 refine Ze _ _ rfl rfl ?_
 exact h
noncomputable def wk (n:Int) (above:List Int):Option (List (List Int)×List Int):=
 bif decide (n≤1000000000000) then ua (aD (σ:=List (List Int)×List (Int×Int)×List Int) (ρ:=Unit) n xN ([],[],above)) (uc (fun s=>some (s.1,s.2.2)) (fun _=>none)) else none
theorem Lc {i:Nat} {Ls:List (List Int)} {es:List (Int×Int)} {above:List Int} {heap:List (Nat×aF)} {N P:Nat} {qs:List Nat}
  (hN:dn heap N P qs Ls) (hmin:9≤N) (hlt:∀ j o,za heap j=some o→j < N) (p0:P≠0) (p1:P≠1) (h0:za heap 0=some (.af 1 (zc zb above))) (h1:za heap 1=some (.af 1 [[fF]])) (h4:za heap 4=some (.map (zp IV.i64 IV.i64 es)))
  (hlen:Ls.length≤i+1) (gT:∀ (k:Nat) (L:List Int),Ls[k]?=some L→L.length≤i) {p q:Nat} {L:List Int} (hL:Ls[p]?=some L) (hq:qs[p]?=some q) :
  I5 (i+1) (Ls.set p (L++[(i:Int)]),es,above) ⟨zo (zo (zo heap (N+11) (.af 1 [[vI (i:Int)]])) q (.aT 1 (L.length+1))) P (.af 1 ((qe qs Ls).set p [.aS q ((L++[(i:Int)]).map zb)])),N+17,P,qs⟩:=by
 have ht:=hN.aT p q L hq hL
 have A4:q≠P:=fun e=>by rw [e,hN.obj] at ht;cases ht
 have H9:P < N:=hlt _ _ hN.obj
 have P9:q < N:=hlt _ _ ht
 have hE:∀ j,j≠P→j≠q→(za heap j).isSome=true→za (zo (zo (zo heap (N+11) (.af 1 [[vI (i:Int)]])) q (.aT 1 (L.length+1))) P (.af 1 ((qe qs Ls).set p [.aS q ((L++[(i:Int)]).map zb)]))) j=za heap j:=fun j a b c=>by
  obtain ⟨o,ho⟩:=ur.1 c
  have:=hlt j o ho
  rw [zr,if_neg (Ne.symm a),zr,if_neg (Ne.symm b),zr,if_neg (by omega)]
 refine ⟨hN.grow hq (by rw [zr,if_pos rfl,WZ qs Ls p q _ hq]) (by rw [zr,if_neg (Ne.symm A4),zr,if_pos rfl];simp) hE,by show 9≤N+17;omega,fun j o ho => ?_,p0,p1,?_,?_,?_,by simpa using hlen,fun k' L' h' => ?_⟩
 ·show j < N+17
  simp only [zr] at ho
  split at ho
  ·omega
  ·split at ho
   ·omega
   ·split at ho
    ·omega
    ·have:=hlt j o ho;omega
 ·simp only;rw [hE 0 (Ne.symm p0) (fun e=>by rw [←e,h0] at ht;cases ht) (by rw [h0];rfl)];exact h0
 ·simp only;rw [hE 1 (Ne.symm p1) (fun e=>by rw [←e,h1] at ht;cases ht) (by rw [h1];rfl)];exact h1
 ·simp only;rw [hE 4 (fun e=>by have:=hN.obj;rw [←e,h4] at this;cases this) (fun e=>by rw [←e,h4] at ht;cases ht) (by rw [h4];rfl)];exact h4
 ·simp only at h'
  by_cases e:k'=p
  ·subst e
   have hlt':=(ug.1 hL).1
   rw [List.getElem?_set_self hlt'] at h'
   cases h'
   have:=gT k' L hL
   simp;omega
  ·rw [List.getElem?_set_ne (Ne.symm e)] at h'
   have:=gT k' L' h'
   omega
theorem dn.push {heap heap':List (Nat×aF)} {N N' P P' q:Nat} {qs:List Nat} {Ls:List (List Int)} (h:dn heap N P qs Ls) (hlt:∀ j o,za heap j=some o→j < q) (hP:za heap' P'=some (.af 1 (qe (qs++[q]) (Ls++[[]])))) (hq:za heap' q=some (.aT 1 0))
  (hE:∀ (k q':Nat),qs[k]?=some q'→(za heap q').isSome=true→za heap' q'=za heap q'):dn heap' N' P' (qs++[q]) (Ls++[[]]):=by
 have hold:∀ (k q':Nat),qs[k]?=some q'→q' < q:=fun k q' hk=>by
  have hl:k < Ls.length:=by rw [←h.len];exact (ug.1 hk).1
  exact hlt q' _ (h.aT k q' Ls[k] hk (by simp))
 refine ⟨hP,fun k q' L h1 h2 => ?_,by simp [h.len],fun i j q' h1 h2 => ?_⟩
 ·rcases uw k qs.length with hk | hk
  ·rw [uh hk] at h1
   rw [uh (by rw [←h.len];exact hk)] at h2
   have:=h.aT k q' L h1 h2
   rw [hE k q' h1 (by rw [this];rfl)];exact this
  ·rw [ue hk] at h1
   rw [ue (by rw [←h.len];exact hk)] at h2
   rw [←h.len] at h2
   cases hd:k - qs.length with
   | zero=>rw [hd] at h1 h2;simp at h1 h2;subst h1 h2;exact hq
   | succ n=>rw [hd] at h1;simp at h1
 ·have key:∀ k,(qs++[q])[k]?=some q'→(k < qs.length∧qs[k]?=some q')∨(k=qs.length∧q'=q):=fun k hk=>by
   rcases uw k qs.length with hlt | hge
   ·rw [uh hlt] at hk;exact .inl ⟨hlt,hk⟩
   ·rw [ue hge] at hk
    cases hd:k - qs.length with
    | zero=>rw [hd] at hk;simp at hk;exact .inr ⟨by omega,hk.symm⟩
    | succ n=>rw [hd] at hk;simp at hk
  rcases key i h1 with ⟨a1,a2⟩ | ⟨a1,a2⟩<;>rcases key j h2 with ⟨b1,b2⟩ | ⟨b1,b2⟩
  ·exact h.nd i j q' a2 b2
  ·have:=hold i q' a2;omega
  ·have:=hold j q' b2;omega
  ·omega
theorem dn.frame {heap:List (Nat×aF)} {N N' P:Nat} {qs:List Nat} {Ls:List (List Int)} (h:dn heap N P qs Ls) (x:Nat) (hx:x≠P) (hx2:∀ sz len,za heap x≠some (.aT sz len)) (o:aF):dn (zo heap x o) N' P qs Ls:=
 ⟨by rw [zr,if_neg hx];exact h.obj,fun k q L h1 h2=>by
  have:=h.aT k q L h1 h2
  rw [zr,if_neg (fun e=>hx2 _ _ (by rw [e];exact this))];exact this,h.len,h.nd⟩
theorem yG {heap:List (Nat×aF)} {N N' x:Nat} {o:aF} (h:∀ j o,za heap j=some o→j < N) (hN:N≤N') (hx:x < N'):∀ j o',za (zo heap x o) j=some o'→j < N':=fun j o' hj=>by
 rw [zr] at hj
 split at hj
 ·omega
 ·have:=h j o' hj;omega
theorem ziX {heap:List (Nat×aF)} {N N' x:Nat} {o:aF} (h:∀ j o,za heap j=some o→j < N) (hN:N≤N') (hx:x < N'):∀ j o',za (zk heap x o) j=some o'→j < N':=fun j o' hj=>by
 rw [zm] at hj
 split at hj
 ·omega
 ·have:=h j o' hj;omega
theorem zox {heap:List (Nat×aF)} {N P:Nat} {qs:List Nat} {Ls:List (List Int)} {above:List Int} (h:dn heap N P qs Ls) (hmin:9≤N) (hlt:∀ j o,za heap j=some o→j < N) (p0:P≠0) (p1:P≠1) (h0:za heap 0=some (.af 1 (zc zb above))) (h1:za heap 1=some (.af 1 [[fF]])) :
  bR ⟨[(0,.Zai P 0 Ls.length)],heap,N⟩ ⟨[(0,.ak (.slice (ub (zH zb) Ls)))],[(0,.af 1 (zc zb above)),(1,.af 1 [[fF]])],2⟩:=by
 have w1:=G8 (st:=⟨[(0,.Zai P 0 Ls.length)],heap,N⟩) P 1 (qe qs Ls) (zc (zH zb) Ls) h.obj (V9 qs Ls h.len)
 have w2:=WW (st:=⟨[(0,.Zai P 0 Ls.length)],zk heap P (.af 1 (zc (zH zb) Ls)),N⟩) P 1 0 Ls.length (ub (zH zb) Ls) (ub (zH zb) Ls) [] _ (by simp only;rw [zm,if_pos rfl]) (kx _ _) (G7 _ _) (by
  have e1:∀ hp:List (Nat×aF),Vf P 0 Ls.length [] hp=[]:=fun hp=>by
   induction hp with
   | nil=>rfl
   | cons a l ih=>obtain ⟨k,o⟩:=a;simp only [Vf,ih];simp
  rw [e1]
  simp only [uu,Ki,V7,Zo,if_pos]
  exact .cons (by simp) .nil)
 have w3:=(bR.andThen w1 w2 (ui _))
 refine bR.andThen w3 (QH (by simp only;omega) ?_ ?_) (by simp only;omega)
 ·intro p hp
  simp only [uq,un,or_false] at hp
  subst hp
  exact ⟨by simp [Kj,Jv,Zn],rfl⟩
 ·intro p hp
  simp only [uq,un,or_false] at hp
  rcases hp with rfl | rfl
  ·refine ⟨?_,by simp,wO _ _ _ _⟩
   simp only [Zc,zm,if_neg p0,h0,uj,if_neg (Ne.symm p0)]
   simp
  ·refine ⟨?_,by simp,vX (by kernel_rfl)⟩
   simp only [Zc,zm,if_neg p1,h1,uj,if_neg (Ne.symm p1)]
   simp
set_option maxHeartbeats 4000000 in
theorem ziY  (p1:Int) (p2:List Int) (res:List (List Int)×List Int) (hd:wk p1 p2=some res):dm C0 33 [vI p1,.func 29 [] [.ptr 0 0 0,.ptr 1 0 0]] [(0,.af 1 (zc zb p2)),(1,.af 1 [[.func 29 [] [.ptr 0 0 0,.ptr 1 0 0]]])] 2 (.ak (.slice (ub (zH zb) res.1))) [(0,.af 1 (zc zb res.2)),(1,.af 1 [[.func 29 [] [.ptr 0 0 0,.ptr 1 0 0]]])] 0:=by
 unfold wk at hd
 rcases OD hd with ⟨hn,hd⟩ | ⟨_,hd⟩
 case inr=>cases hd
 have hn:p1≤1000000000000:=of_decide_eq_true hn
 obtain ⟨o,hl,hd⟩:=jy hd
 refine dm.start Ru (by simp [Cf]) (.af (by rfl) (.exp (by rfl) (by kernel_rfl) .nil)) (.af (by rfl) (.exp (by rfl) (by kernel_rfl) .nil)) (by kernel_rfl) (by kernel_rfl) (by kernel_rfl) (by kernel_rfl) ?_
 intro B
 show cD C0.plain _ Cf.body (G1 Cf.results _ _ _) ⟨[(0,vI p1),(1,fF)],[(0,.af 1 (zc zb p2)),(1,.af 1 [[fF]])],2⟩
 refine qk ?_
 refine qU (aY:=⟨[(0,vI p1),(1,fF)],[(0,.af 1 (zc zb p2)),(1,.af 1 [[fF]])],3⟩) [] .nil ?_ (by kernel_rfl)
 refine qC ?_
 refine qk ?_
 refine qU (aY:=⟨[(0,vI p1),(1,fF),(5,.nil)],[(0,.af 1 (zc zb p2)),(1,.af 1 [[fF]])],4⟩) [] .nil ?_ (by kernel_rfl)
 refine qC ?_
 refine qk ?_
 refine qU (aY:=⟨[(0,vI p1),(1,fF),(5,.nil),(6,.map 4)],[(0,.af 1 (zc zb p2)),(1,.af 1 [[fF]]),(4,.map [])],6⟩) [] .nil ?_ (by kernel_rfl)
 refine qC ?_
 refine qk ?_
 refine qk ?_
 refine qU (aY:=⟨[(1,fF),(5,.nil),(6,.map 4),(10,vI p1),(11,vI 0)],[(0,.af 1 (zc zb p2)),(1,.af 1 [[fF]]),(4,.map [])],8⟩) [] .nil ?_ (by kernel_rfl)
 refine qC ?_
 refine vt ?_
 refine yr (Xz (t:=5) 1 rfl) (by simp) ?_
 show cD C0.plain _ _ _ ⟨[(1,fF),(5,.Zai 8 0 0),(6,.map 4),(10,vI p1),(11,vI 0)],[(0,.af 1 (zc zb p2)),(1,.af 1 [[fF]]),(4,.map []),(8,.af 1 [])],9⟩
 refine Pt hl I5 (GS p1) (fun i s c hok=>hok.min) ⟨[(0,.af 1 (zc zb p2)),(1,.af 1 [[fF]]),(4,.map []),(8,.af 1 [])],9,8,[]⟩ ?_ rfl (bR.refl _) ?_ ?_
 ·refine ⟨⟨rfl,fun k q L h1=>by simp at h1,rfl,fun i j q h1=>by simp at h1⟩,by simp,fun j o h => ?_,by simp,by simp,rfl,rfl,rfl,by simp,fun k L h=>by simp at h⟩
  simp only [za] at h
  show j < 9
  repeat (split at h;omega)
  cases h
 ·rintro i ⟨Ls,es,above⟩ ⟨heap,N,P,qs⟩ o hok hi hw hs
  obtain ⟨r,hr,hs⟩:=jy hs
  simp only at hr hs
  show cD C0.plain _ _ _ ⟨[(1,fF),(5,.Zai P 0 Ls.length),(6,.map 4),(10,vI p1),(11,vI (i:Int))],heap,N⟩
  refine qk ?_
  refine qU (aY:=⟨[(1,fF),(5,.Zai P 0 Ls.length),(6,.map 4),(10,vI p1),(11,vI (i:Int)),(12,vB (decide ((i:Int) < p1)))],heap,N+1⟩) [] .nil ?_ (by kernel_rfl)
  refine qC ?_
  refine qk ?_
  refine OJ (by simp [*]) ?_
  refine Zy ?_
  refine qC ?_
  refine qk ?_
  refine vt ?_
  refine qk ?_
  refine qU (aY:=⟨[(1,fF),(5,.Zai P 0 Ls.length),(6,.map 4),(10,vI p1),(11,vI (i:Int)),(7,vI (i:Int))],heap,N+3⟩) [] .nil ?_ (by kernel_rfl)
  refine qC ?_
  refine qk ?_
  have hmin:=hok.min
  simp only at hmin
  refine zmI (i:Int) above r hr _ _ _ heap (N+3) (by omega) hok.h0 hok.h1 _ ?_
  refine qC ?_
  refine qk ?_
  refine qk ?_
  refine qU (aY:=⟨[(1,fF),(5,.Zai P 0 Ls.length),(6,.map 4),(10,vI p1),(11,vI (i:Int)),(7,vI (i:Int)),(8,vI r.1),(19,vB (r.1 == (i:Int)))],zo heap 0 (.af 1 (zc zb r.2)),N+10⟩) [] .nil ?_ (by kernel_rfl)
  refine qC ?_
  have dx:dn (zo heap 0 (.af 1 (zc zb r.2))) (N+10) P qs Ls:=hok.nest.frame 0 (Ne.symm hok.p0) (fun sz len e=>by have:=hok.h0;simp only at this;rw [this] at e;cases e) _
  have oI:∀ j o,za (zo heap 0 (.af 1 (zc zb r.2))) j=some o→j < N+10:=yG hok.lt (by simp only;omega) (by omega)
  have H9:P < N:=hok.lt _ _ hok.nest.obj
  have P4:P≠4:=fun e=>by have h1:=hok.nest.obj;have h2:=hok.h4;simp only at h1 h2;rw [e,h2] at h1;cases h1
  have g0:za (zo heap 0 (.af 1 (zc zb r.2))) 0=some (.af 1 (zc zb r.2)):=by rw [zr,if_pos rfl]
  have g1:za (zo heap 0 (.af 1 (zc zb r.2))) 1=some (.af 1 [[fF]]):=by rw [zr,if_neg (by omega)];exact hok.h1
  have g4:za (zo heap 0 (.af 1 (zc zb r.2))) 4=some (.map (zp IV.i64 IV.i64 es)):=by rw [zr,if_neg (by omega)];exact hok.h4
  have hlen:=hok.len
  have gT:=hok.lens
  simp only at hlen gT
  have nO:=hok.p0
  have l8:=hok.p1
  simp only at nO l8
  generalize zo heap 0 (.af 1 (zc zb r.2))=ct at *
  have hrl:=WX dx.len
  refine Gk (r.1 == (i:Int)) rfl (fun g => ?_) (fun g => ?_)
  ·replace hs:=Gn g hs
   cases hs
   have gi:r.1=(i:Int):=by simpa using g
   rw [gi]
   refine qk ?_
   refine zov (i:Int) (i:Int) _ _ _ _ ct (N+10) P Ls.length es (qe qs Ls) dx.obj g4 _ ?_
   refine qC ?_
   have hP1:za (zo ct 4 (.map (zp IV.i64 IV.i64 (zG (i:Int) (Ls.length:Int) es)))) P=some (.af 1 (qe qs Ls)):=by rw [zr,if_neg (Ne.symm P4)];exact dx.obj
   refine zow _ _ _ _ _ _ _ (N+15) P Ls.length (qe qs Ls) hrl.symm (by omega) hP1 (by omega) _ ?_
   refine qC ?_
   refine yr (G9 (N+17) 1 1 (qe qs Ls++[[.nil]]) Ls.length 0 [.nil] (by simp only;rw [zr,if_pos rfl]) (by rw [←hrl];simp) rfl) (by simp) ?_
   have Et:(qe qs Ls++[[AV.nil]]).set Ls.length ([AV.nil].set 0 (.aS (N+19) []))=qe (qs++[N+19]) (Ls++[[]]):=by
    rw [Pu qs Ls (N+19) [] dx.len,←hrl]
    simp
   simp only
   rw [show N+15+4=N+19 from rfl,show N+15+2=N+17 from rfl,show N+15+1=N+16 from rfl,Et]
   generalize hH:zk (zo (zo (zo (zo (zo ct 4 (.map (zp IV.i64 IV.i64 (zG (i:Int) (Ls.length:Int) es)))) (N+16) (.af 1 [[.nil]])) P .dead) (N+17) (.af 1 (qe qs Ls++[[.nil]]))) (N+19) (.aT 1 0)) (N+17) (.af 1 (qe (qs++[N+19]) (Ls++[[]])))=gU
   have ag:∀ j,za gU j=if N+17=j then some (.af 1 (qe (qs++[N+19]) (Ls++[[]]))) else if N+19=j then some (.aT 1 0) else if P=j then some .dead else if N+16=j then some (.af 1 [[.nil]]) else if 4=j then some (.map (zp IV.i64 IV.i64 (zG (i:Int) (Ls.length:Int) es))) else za ct j:=fun j=>by
    rw [←hH]
    simp only [zm,zr]
    split
    ·rfl
    ·split
     ·rfl
     ·rfl
   have n4:dn gU (N+20) (N+17) (qs++[N+19]) (Ls++[[]]):=dx.push (fun j o h=>by have:=oI j o h;omega) (by rw [ag,if_pos rfl]) (by rw [ag,if_neg (by omega),if_pos rfl]) (fun k q' hk ho=>by
    obtain ⟨o',ho'⟩:=ur.1 ho
    have nP:=oI _ _ ho'
    have hl:k < Ls.length:=by rw [←dx.len];exact (ug.1 hk).1
    have ht:=dx.aT k q' Ls[k] hk (by simp)
    rw [ag,if_neg (by omega),if_neg (by omega),if_neg (fun e=>by rw [←e,dx.obj] at ht;cases ht),if_neg (by omega),if_neg (fun e=>by rw [←e,g4] at ht;cases ht)])
   have Ld:∀ j o,za gU j=some o→j < N+20:=by
    rw [←hH]
    exact ziX (yG (yG (yG (yG (yG oI (N':=N+20) (by omega) (by omega)) (ui _) (by omega)) (ui _) (by omega)) (ui _) (by omega)) (ui _) (by omega)) (ui _) (by omega)
   have k0:za gU 0=some (.af 1 (zc zb r.2)):=by rw [ag,if_neg (by omega),if_neg (by omega),if_neg nO,if_neg (by omega),if_neg (by omega)];exact g0
   have k1:za gU 1=some (.af 1 [[fF]]):=by rw [ag,if_neg (by omega),if_neg (by omega),if_neg l8,if_neg (by omega),if_neg (by omega)];exact g1
   have k4:za gU 4=some (.map (zp IV.i64 IV.i64 (zG (i:Int) (Ls.length:Int) es))):=by rw [ag,if_neg (by omega),if_neg (by omega),if_neg P4,if_neg (by omega),if_pos rfl]
   have mR:(qe (qs++[N+19]) (Ls++[[]]))[Ls.length]?=some [.aS (N+19) (([]:List Int).map zb)]:=WY (by rw [←dx.len];simp) (by simp)
   refine I7 (i:Int) (i:Int) _ _ gU (N+20) (N+17) (Ls.length+1) Ls.length (N+19) _ _ [] (by rw [WX n4.len];simp) Ld n4.obj k4 (by rw [Lb];rfl) mR (by rw [ag,if_neg (by omega),if_pos rfl];rfl) (by simp) _ ?_
   refine Dk ?_
   refine qC ?_
   refine La _ _ _ _ _ _ _ _ ?_
   rw [hw]
   have G:=Lc (p:=Ls.length) (q:=N+19) (L:=[]) n4 (by omega) Ld (by omega) (by omega) k0 k1 k4 (by simp;omega) (fun k L hk=>by
    rcases uw k Ls.length with hlt | hge
    ·rw [uh hlt] at hk;exact gT k L hk
    ·rw [ue hge] at hk
     cases hd:k - Ls.length with
     | zero=>rw [hd] at hk;simp at hk;subst hk;simp
     | succ n=>rw [hd] at hk;simp at hk) (by simp) (by rw [←dx.len];simp)
   have eL:(Ls++[([]:List Int)]).set Ls.length ([]++[(i:Int)])=Ls++[[(i:Int)]]:=by simp
   rw [eL] at G
   refine ⟨_,_,rfl,G,?_⟩
   have hc:((i:Int)+1)=((i+1:Nat):Int):=rfl
   rw [hc]
   simp only [GS,uA,uv,um,uo]
   exact bR.refl _
  ·replace hs:=Gp g hs
   obtain ⟨L,hL,hs⟩:=jy hs
   cases hs
   obtain ⟨z0,z1,z2,z3,_⟩:=Xq hL
   refine Zy ?_
   refine qC ?_
   have hql:((zl r.1 es).getD 0).toNat < qs.length:=by rw [dx.len];exact z2
   have hq1:qs[((zl r.1 es).getD 0).toNat]?=some qs[((zl r.1 es).getD 0).toNat]:=by simp
   have hLl:=gT _ _ z1
   refine yr (zhe [(1,fF),(5,.Zai P 0 Ls.length),(6,.map 4),(10,vI p1),(11,vI (i:Int)),(7,vI (i:Int)),(8,vI r.1)] [(19,vB (r.1 == (i:Int)))] ct (N+10)) (ui _) ?_
   refine I7 (i:Int) r.1 _ _ ct (N+10) P Ls.length ((zl r.1 es).getD 0).toNat qs[((zl r.1 es).getD 0).toNat] es _ L hrl.symm oI dx.obj g4 (by omega) (WY hq1 z1) (dx.aT _ _ _ hq1 z1) (by omega) _ ?_
   refine Dk ?_
   refine qC ?_
   refine La _ _ _ _ _ _ _ _ ?_
   rw [hw]
   have G:=Lc dx (by omega) oI nO l8 g0 g1 g4 (by omega) gT z1 hq1
   refine ⟨_,_,rfl,G,?_⟩
   have hc:((i:Int)+1)=((i+1:Nat):Int):=rfl
   rw [hc]
   simp only [GS,uA,uv,um,uo]
   exact bR.refl _
 ·rintro m ⟨Ls,es,above⟩ ⟨heap,N,P,qs⟩ hok hm ho
  subst ho
  have ee:=Option.some.inj hd;subst ee
  show cD C0.plain _ _ _ ⟨[(1,fF),(5,.Zai P 0 Ls.length),(6,.map 4),(10,vI p1),(11,vI (m:Int))],heap,N⟩
  refine qk ?_
  refine qU (aY:=⟨[(1,fF),(5,.Zai P 0 Ls.length),(6,.map 4),(10,vI p1),(11,vI (m:Int)),(12,vB (decide ((m:Int) < p1)))],heap,N+1⟩) [] .nil ?_ (by kernel_rfl)
  refine qC ?_
  refine qk ?_
  refine OK (by simp [*]) ?_
  refine Jj ?_
  refine Gq ?_
  refine Gq ?_
  refine Gl ?_
  refine qC ?_
  refine qk ?_
  refine qU (aY:=⟨[(4,.Zai P 0 Ls.length)],heap,N+3⟩) [] .nil ?_ (by kernel_rfl)
  refine qC ?_
  refine Wg ?_
  have hlt:=hok.lt
  have hmin:=hok.min
  simp only at hlt hmin
  exact ⟨_,rfl,zox (N:=N+3) ⟨hok.nest.obj,hok.nest.aT,hok.nest.len,hok.nest.nd⟩ (by omega) (fun j o h=>by have:=hlt j o h;omega) hok.p0 hok.p1 hok.h0 hok.h1⟩
noncomputable def qj (c:ax):Option (List (List Int)):=
 (ua (xm c) fun r1=>(bif (r1.1 == 0) then (ua (aD (σ:=(List Int)) (ρ:=Unit) (c.ay.length:Int) (fun i1 s1=>(ua (zi 400 (i1:Int)) fun k1=>(ua (s1[k1]?) fun e1=>some (.inl (s1.set k1 (i1:Int)))))) (ud 400 0)) (uc (fun (s1:(List Int))=>(ua (Wy c.aK) fun r2=>(ua (aD (σ:=(List Int)×(List (Int×Int))) (ρ:=Unit) (c.ay.length:Int) (fun i2 s2=>(ua (ze c.ay (i2:Int)) fun e2=>(ua (bif r2 then (ua (vi 0 (i2:Int) s2.1) fun r3=>some r3) else some s2.1) fun (v1:(List Int))=>(ua (aD (σ:=(List Int)) (ρ:=Unit) (e2.start.length:Int) (fun i3 s3=>(ua (ze e2.start (i3:Int)) fun e3=>(ua (vi (i2:Int) e3.clause s3) fun r4=>some (.inl r4)))) v1) (uc (fun (s3:(List Int))=>(ua (kK e2) fun r5=>(ua (aD (σ:=(List Int)×(List (Int×Int))) (ρ:=Unit) (r5.length:Int) (fun i4 s4=>(ua (ua (ze r5 (i4:Int)) fun e4=>(bif (zl e4 s4.2).isSome then (ua (vi ((zl e4 s4.2).getD 0) (i2:Int) s4.1) fun r6=>some (r6,s4.2)) else some (s4.1,(zG e4 (i2:Int) s4.2)))) fun (v2:(List Int)×(List (Int×Int)))=>some (.inl (v2.1,v2.2)))) (s3,s2.2)) (uc (fun (s4:(List Int)×(List (Int×Int)))=>some (.inl (s4.1,s4.2))) (fun _=>none))))) (fun _=>none)))))) (s1,[])) (uc (fun (s2:(List Int)×(List (Int×Int)))=>(ua (wk (c.ay.length:Int) s2.1) fun r7=>some r7.1)) (fun _=>none))))) (fun _=>none))) else some []))
noncomputable def zcG (c:ax):aB (List (List Int)):=
 .aA 1 (.call 3638 (Wv c) fun r1=>.use 1 3638 (.ite 3568 (r1.1 == 0) (.sel 3569 (.aA 1 (.ln 3674 aO.row c.ay (.use 2 3674 (.aD (σ:=(List Int)) (ρ:=Unit) 3570 29 (c.ay.length:Int) (ud 400 0) (.k [1,5,28] (fun _=>[]) [0] (fun s1=>[(11,.af 1 (zc zb s1))]) 16 fun _=>(.af rfl .nil)) (fun i1 s1=>.sel 3570 (.aA 1 (.b1 3640 (zi 400 (i1:Int)) (fun k1=>.k k1) (fun k1 hk1=>(zn hk1)) fun k1=>.b1 3642 (s1[k1]?) (fun e1=>.aw (zt (zb e1)) (zc zb (s1.set k1 (i1:Int)))) (fun e1 ec=>(zP zb (i1:Int) ec)) fun e1=>.us [(2,3640),(3,3642)] (.ret (.inl (s1.set k1 (i1:Int))))))) fun os1=>.case os1 (fun s1=>.sel 3570 (.aA 3 (.b1 3644 (Wy c.aK) (fun r2=>.c [] 0 (vB r2) [] 0) (fun r2 cy=>(zf (zot c.aK r2 cy) [] 24 .nil bw bw)) fun r2=>.use 2 3644 (.aA 1 (.ln 3672 aO.row c.ay (.use 2 3672 (.aD (σ:=(List Int)×(List (Int×Int))) (ρ:=Unit) 3584 45 (c.ay.length:Int) (s1,[]) (.k [1,7,8,9,10,43,44] (fun _=>[]) [0,17] (fun s2=>[(11,.af 1 (zc zb s2.1)),(26,.map (zp IV.i64 IV.i64 s2.2))]) 32 fun _=>(.af rfl (.cZ rfl .nil))) (fun i2 s2=>.sel 3584 (.aA 0 (.ix 3646 aO.row c.ay (i2:Int) fun e2=>.use 1 3646 (.cut (β:=(List Int)) 1 (.k [1,7,8,9,10,43,44,45,12,11] (fun _=>[]) [0,17,36] (fun v1=>[(11,.af 1 (zc zb v1)),(26,.map (zp IV.i64 IV.i64 s2.2))]) 40 fun _=>(.af rfl (.cZ rfl .nil))) (.ite 3628 r2 (.sel 3628 (.aA 0 (.b1 3648 (vi 0 (i2:Int) s2.1) (fun r3=>.c [17,11] 2 (.tuple []) [(11,.af 1 (zc zb r3))] 0) (fun r3 eP=>(zf (Es 0 (i2:Int) s2.1 r3 eP) [17,11] 42 (.drop rfl rfl (.keep .nil)) (bI (bH bw)) (bH bw))) fun r3=>.use 2 3648 (.ret r3)))) (.sel 3628 (.ret s2.1))) fun v1=>.aA 0 (.ln 3666 bl.row e2.start (.use 2 3666 (.aD (σ:=(List Int)) (ρ:=Unit) 3630 57 (e2.start.length:Int) v1 (.k [1,7,8,9,10,43,44,45,12,11,55,56] (fun _=>[]) [0,17,36] (fun s3=>[(11,.af 1 (zc zb s3)),(26,.map (zp IV.i64 IV.i64 s2.2))]) 44 fun _=>(.af rfl (.cZ rfl .nil))) (fun i3 s3=>.sel 3630 (.aA 0 (.ix 3650 bl.row e2.start (i3:Int) fun e3=>.use 0 3650 (.aA 0 (.b1 3652 (vi (i2:Int) e3.clause s3) (fun r4=>.c [17,11] 2 (.tuple []) [(11,.af 1 (zc zb r4))] 0) (fun r4 mR=>(zf (Es (i2:Int) e3.clause s3 r4 mR) [17,11] 53 (.drop rfl rfl (.keep .nil)) (bI (bH bw)) (bH bw))) fun r4=>.use 4 3652 (.ret (.inl r4))))))) fun os3=>.case os3 (fun s3=>.sel 3630 (.aA 0 (.call 3654 (zhb e2) fun r5=>.use 1 3654 (.ln 3664 zb r5 (.use 2 3664 (.aD (σ:=(List Int)×(List (Int×Int))) (ρ:=Unit) 3632 70 (r5.length:Int) (s3,s2.2) (.k [1,7,8,9,10,43,44,45,11,68,69] (fun _=>[]) [0,17] (fun s4=>[(11,.af 1 (zc zb s4.1)),(26,.map (zp IV.i64 IV.i64 s4.2))]) 49 fun _=>(.af rfl (.cZ rfl .nil))) (fun i4 s4=>.sel 3632 (.cut (β:=(List Int)×(List (Int×Int))) 1 (.k [1,7,8,9,10,43,44,45,11,68,69,70] (fun _=>[]) [0,17] (fun v2=>[(11,.af 1 (zc zb v2.1)),(26,.map (zp IV.i64 IV.i64 v2.2))]) 66 fun _=>(.af rfl (.cZ rfl .nil))) (.aA 0 (.ix 3656 zb r5 (i4:Int) fun e4=>.use 0 3656 (.aA 0 (.f1 3662 (.l (vI ((zl e4 s4.2).getD 0)) ((zl e4 s4.2).isSome)) (Xw IV.i64 0 e4 s4.2) (.use 2 3662 (.ite 3636 ((zl e4 s4.2).isSome) (.sel 3636 (.aA 0 (.b1 3658 (vi ((zl e4 s4.2).getD 0) (i2:Int) s4.1) (fun r6=>.c [17,11] 2 (.tuple []) [(11,.af 1 (zc zb r6))] 0) (fun r6 oH=>(zf (Es ((zl e4 s4.2).getD 0) (i2:Int) s4.1 r6 oH) [17,11] 65 (.drop rfl rfl (.keep .nil)) (bI (bH bw)) (bH bw))) fun r6=>.use 3 3658 (.ret (r6,s4.2))))) (.sel 3636 (.aA 0 (.f1 3660 (.u (zp IV.i64 IV.i64 (zG e4 (i2:Int) s4.2))) (Ve IV.i64 e4 (i2:Int) s4.2) (.use 3 3660 (.ret (s4.1,(zG e4 (i2:Int) s4.2))))))))))))) fun v2=>.ret (.inl (v2.1,v2.2)))) fun os4=>.case os4 (fun s4=>.sel 3632 (.ret (.inl (s4.1,s4.2)))) fun _=>.none)))))) fun _=>.none))))))) fun os2=>.case os2 (fun s2=>.sel 3584 (.aA 0 (.b1 3668 (wk (c.ay.length:Int) s2.1) (fun r7=>.c [11,17] 2 (.ak (.slice (ub (zH zb) r7.1))) [(11,.af 1 (zc zb r7.2))] 0) (fun r7 sW=>(zf (ziY (c.ay.length:Int) s2.1 r7 sW) [11,17] 37 (.keep (.drop rfl rfl .nil)) (bH (bI bw)) (bH bw))) fun r7=>.ln 3670 aO.row c.ay (.us [(2,3670),(4,3668)] (.ret r7.1))))) fun _=>.none))))))) fun _=>.none))))) (.sel 3569 (.ret []))))
theorem ZO (c:ax) (res:List (List Int)) (hd:qj c=some res):aJ C0 13 [.agg (ax.row c)] (.slice (ub (zH zb) res)):=
 aB.pure (iv:=fun res=>.slice (ub (zH zb) res)) (zcG c) (by kernel_rfl) (aB.aC hd (by kernel_rfl))
theorem zhf {α:Type} (f:α→List IV) (hf:∀ x,(f x).length=5) {l e:List α} (h:zR 48 l=some e):dm C0 35 [.ak (.slice (ub f l))] [] 0 (.Zai 7 0 e.length) [(7,.af 5 (zc f e))] 8:=
 ez (zero:=[.ak (.str ⟨#[]⟩),.ak (.int .i64 0),.ak (.int .i64 0),.ak (.int .i64 0),.ak (.int .i64 0)]) (show qr C0 35=some (jP 5 48 [.ak (.str ⟨#[]⟩),.ak (.int .i64 0),.ak (.int .i64 0),.ak (.int .i64 0),.ak (.int .i64 0)]).erase by kernel_rfl) f hf h
theorem zhg {α:Type} (f:α→List IV) (hf:∀ x,(f x).length=7) {l e:List α} (h:zR 56 l=some e):dm C0 36 [.ak (.slice (ub f l))] [] 0 (.Zai 7 0 e.length) [(7,.af 7 (zc f e))] 8:=
 ez (zero:=[.ak (.int .i64 0),.ak (.int .i64 0),.ak (.int .i64 0),.ak (.int .i64 0),.ak (.int .i64 0),.ak (.int .i64 0),.ak (.int .i64 0)]) (show qr C0 36=some (jP 7 56 [.ak (.int .i64 0),.ak (.int .i64 0),.ak (.int .i64 0),.ak (.int .i64 0),.ak (.int .i64 0),.ak (.int .i64 0),.ak (.int .i64 0)]).erase by kernel_rfl) f hf h
theorem zhh {α:Type} (f:α→List IV) (hf:∀ x,(f x).length=2) {l e:List α} (h:zR 16 l=some e):dm C0 37 [.ak (.slice (ub f l))] [] 0 (.Zai 7 0 e.length) [(7,.af 2 (zc f e))] 8:=
 ez (zero:=[.ak (.int .i64 0),.ak (.int .i64 0)]) (show qr C0 37=some (jP 2 16 [.ak (.int .i64 0),.ak (.int .i64 0)]).erase by kernel_rfl) f hf h
end Go.Proofs.YtlpmnmbebkdocaaGreatDoor
