/-
  Functions of the program: what they compute, and plans of their code that the kernel checks (printed by a program of ours).
-/
import Derived.Test.YtgpojcfkanjabaaGreatDoorAS10
open List renaming map → ub, replicate → ud, getElem?_append_right → ue, getElem?_eq_some_iff → ug, getElem?_append_left → uh, length_cons → ul, length_nil → um, length_append → un, cons_append → ur, not_mem_nil → uu, take → uv, append_nil → uw, length_map → uy, length_set → uz, mem_cons → uA
open Option renaming bind → ua, map_some → uj, isSome_iff_exists → uk, getD_some → uq, map_none → ux
open Nat renaming le_refl → ui, lt_or_ge → uo, reduceEqDiff → ut
open Sum renaming elim → uc
namespace Go.Proofs.YtgpojcfkanjabaaGreatDoor
open Go.RowKit
set_option linter.unusedSimpArgs false
set_option linter.unusedVariables false
set_option maxRecDepth 100000
noncomputable def kO (i:Nat) (s:List (List Int)×List (Int×Int)×List Int):Option ((List (List Int)×List (Int×Int)×List Int) ⊕ Unit):=
 ua (wd (i:Int) s.2.2) fun r=>
  bif r.1 == (i:Int) then some (.inl (s.1++[[(i:Int)]],zN (i:Int) (s.1.length:Int) s.2.1,r.2))
  else ua (zf s.1 ((zm r.1 s.2.1).getD 0)) fun l=>some (.inl (s.1.set ((zm r.1 s.2.1).getD 0).toNat (l++[(i:Int)]),s.2.1,r.2))
abbrev fE:AV:=.func 29 [] [.ptr 0 0 0,.ptr 1 0 0]
structure A9 where
 heap:List (Nat×aG)
 N:Nat
 P:Nat
 qs:List Nat
structure Il (i:Nat) (s:List (List Int)×List (Int×Int)×List Int) (c:A9):Prop where
 nest:dc c.heap c.N c.P c.qs s.1
 min:9≤c.N
 lt:∀ j o,za c.heap j=some o→j < c.N
 p0:c.P≠0
 p1:c.P≠1
 h0:za c.heap 0=some (.af 1 (zc zb s.2.2))
 h1:za c.heap 1=some (.af 1 [[fE]])
 h4:za c.heap 4=some (.map (zg IV.i64 IV.i64 s.2.1))
 len:s.1.length≤i
 lens:∀ (k:Nat) (L:List Int),s.1[k]?=some L→L.length≤i
def GS (n:Int) (i:Nat) (s:List (List Int)×List (Int×Int)×List Int) (c:A9):St:=
 ⟨[(1,fE),(5,.Zak c.P 0 s.1.length),(6,.map 4),(10,vI n),(11,vI (i:Int))],c.heap,c.N⟩
theorem Uy {nt:Fr} (i:Int) (above:List Int) (r:Int×List Int) (hr:wd i above=some r) (x5 x6 iW:AV) (heap:List (Nat×aG)) (N:Nat) (hN:9≤N)
  (h0:za heap 0=some (.af 1 (zc zb above))) (h1:za heap 1=some (.af 1 [[fE]])) (P:Exit→St→Prop)
  (h:P .normal ⟨[(1,fE),(5,x5),(6,x6),(10,iW),(11,vI i),(7,vI i),(8,vI r.1)],zy heap 0 (.af 1 (zc zb r.2)),N+4⟩) :
  cG C0.plain nt (.region false [] D8 (some [1,5,6,7,8,10,11])) P ⟨[(1,fE),(5,x5),(6,x6),(10,iW),(11,vI i),(7,vI i)],heap,N⟩:=by
 refine QD ?_
 have hd:=Yo i above r hr
 simp only [D8,F0,Oa,KP,Oh,ai,Og,VM,Of,reduceIte,uq,VK,VL,Xg,VN,KQ,Ob,List.map_cons,List.map_nil,Oc,List.nil_append,uw,ur,Od,ut,if_false]
 refine bF.dn (l:=[0,1]) (ze hd [0,1] (N+1+1) (.keep (.drop rfl rfl .nil)) (bA (bt bg)) (bA bg)) ?_ ?_ ?_
 ·simp only [ZC,QE,ul,um,List.all_cons,List.all_nil]
  simp;try omega
 ·simp only [x9,h0,h1]
  rfl
 ·simp only [Zf,St.put,VK,VL,Xg,VN,KQ,ut,if_false,reduceIte,VM,uq,KO,Oe]
  simp [qC,List.filter,fF,vT]
  exact h
theorem xH {C:bB} {ord:List Nat} {K:St→Prop} {dst:Option Nat} {op:cO} {rest:List aQ} {j:Nat} {W R:List (Nat×Nat)} {env:List (Nat×AV)} {heap:List (Nat×aG)} {next:Nat} (r:AV) (aO:List (Nat×aG)) (hc:(match op with | .call _ _=>true | _=>false)=false)
  (he:ai op (zd env) (za heap) next=some (r,aO)) (hk:xn ord j W R (zY aO) (zk op (zd env))=true)
  (hn:lC C ord K rest (j+1) (qZ j (zY aO) W) (qZ j (zk op (zd env)) R) (St.after ⟨env,heap,next⟩ dst r aO)):lC C ord K (⟨dst,op,none⟩::rest) j W R ⟨env,heap,next⟩:=by
 rw [F4,F5]
 have e:∀ KD,dS C KD ⟨env,heap,next⟩ op=qm KD (zk op (zd env)) (ai op (zd env) (za heap) next):=fun KD=>by
  cases op<;>first | rfl | exact Bool.noConfusion hc
 rw [e,he]
 exact ⟨hk,hn⟩
theorem Im {ev:aZ→AV} {h:Nat→Option aG} {id Q k p:Nat} {a b:aZ} {af:List (List AV)} (hb:ev b=vI (p:Int)) (ha:ev a=.Zak Q 0 k) (hQ:h Q=some (.af 1 af)) (hp:p < k):ai (.idx 1 a b) ev h id=some (.ptr Q p 0,[]):=by
 have i2:(p:Int) < (k:Int):=by omega
 simp [ai,hb,ha,vI,hQ,i2]
theorem Uz {ev:aZ→AV} {h:Nat→Option aG} {id Q p:Nat} {a:aZ} {v:AV} {af:List (List AV)} (ha:ev a=.ptr Q p 0) (hQ:h Q=some (.af 1 af)) (hr:af[p]?=some [v]):ai (.load false 1 a) ev h id=some (v,[]):=by
 simp [ai,ha,hQ,hr]
theorem UA {ev:aZ→AV} {h:Nat→Option aG} {id q B:Nat} {a b:aZ} {v:IV} {af:List (List IV)} (ha:ev a=.aU q af) (hb:ev b=.Zak B 0 1) (hB:h B=some (.af 1 [[.ax v]])) (hq:h q=some (.aV 1 af.length)) (hl:(af.length+1)*8≤140737488355328) :
  ai (.app 1 8 a b) ev h id=some (.aU q (af++[[v]]),[(q,.aV 1 (af.length+1))]):=by
 simp [ai,ha,hb,JW,xK,hB,hq,hl,aM,jl]
theorem UB {ev:aZ→AV} {h:Nat→Option aG} {id Q p q:Nat} {a b:aZ} {L:List (List IV)} {x:AV} {af:List (List AV)} (ha:ev a=.ptr Q p 0) (hb:ev b=.aU q L) (hQ:h Q=some (.af 1 af)) (hr:af[p]?=some [x]):ai (.store 1 a b) ev h id=some (.undef,[(Q,.af 1 (af.set p [.aU q L]))]):=by
 simp [ai,ha,hb,hQ,hr,cellsOf,qV]
set_option maxHeartbeats 4000000 in
theorem Io {C:bB} {nt:Fr} (i r:Int) (x1 iW:AV) (heap:List (Nat×aG)) (N Q k p q:Nat) (es:List (Int×Int)) (af:List (List AV)) (L:List Int) (hk:k=af.length)
  (hlt:∀ j o,za heap j=some o→j < N) (hQ:za heap Q=some (.af 1 af)) (h4:za heap 4=some (.map (zg IV.i64 IV.i64 es))) (hp:(zm r es).getD 0=(p:Int)) (hrow:af[p]?=some [.aU q (L.map zb)]) (hq:za heap q=some (.aV 1 L.length)) (hL:(L.length+1)*8≤140737488355328)
  (P:Exit→St→Prop)
  (h:P .normal ⟨[(1,x1),(5,.Zak Q 0 k),(6,.map 4),(10,iW),(11,vI i)],zy (zy (zy heap (N+11) (.af 1 [[vI i]])) q (.aV 1 (L.length+1))) Q (.af 1 (af.set p [.aU q ((L++[i]).map zb)])),N+15⟩) :
  cG C nt (.region true [0,0,0,6,0,0,0,96,240,496,0,1024,4080,8191,16383] QM (some [1,5,6,10,11])) P ⟨[(1,x1),(5,.Zak Q 0 k),(6,.map 4),(10,iW),(11,vI i),(7,vI i),(8,vI r)],heap,N⟩:=by
 refine F6 ?_
 have e1:Q < N:=hlt _ _ hQ
 have e2:q < N:=hlt _ _ hq
 have e3:Q≠q:=fun e=>by rw [e,hq] at hQ;cases hQ
 have e4:Q≠4:=fun e=>by rw [e,h4] at hQ;cases hQ
 have e5:q≠4:=fun e=>by rw [e,h4] at hq;cases hq
 have e6:(4:Nat) < N:=hlt _ _ h4
 have hpk:p < k:=by rw [hk];exact (ug.1 hrow).1
 have lk:XY QM=false:=rfl
 rw [lk]
 have hf:(match zP (.int .i64 r) (zg IV.i64 IV.i64 es) with | some x=>x | none=>vI 0)=vI (p:Int):=by
  rw [wS]
  cases hm:zm r es with
  | none=>rw [hm] at hp;simp only [ux];rw [←hp];rfl
  | some v=>rw [hm] at hp;simp only [uj];rw [←hp];rfl
 have rH:∀ (ev:aZ→AV) (h:Nat→Option aG) (id:Nat) (a b:aZ),ev a=.map 4→ev b=vI r→h 4=some (.map (zg IV.i64 IV.i64 es))→ai (.look false (.ax (.int .i64 0)) false a b) ev h id=some (vI (p:Int),[]):=by
  intro ev h id a b ha hb hh
  simp only [ai,ha,hb,vI,xk,hh,kU,xf]
  rw [wS]
  cases hm:zm r es with
  | none=>rw [hm] at hp;simp only [ux];simp at hp;simp [←hp]
  | some v=>rw [hm] at hp;simp only [uj];simp at hp;simp [←hp,IV.i64]
 show lC C _ (ZA _ P) QM 0 [] [] _
 unfold QM
 refine xH _ _ rfl rfl rfl ?_
 refine xH _ _ rfl rfl rfl ?_
 refine xH _ _ rfl rfl rfl ?_
 refine xH _ _ rfl (rH _ _ _ _ _ rfl rfl h4) rfl ?_
 refine xH _ _ rfl rfl rfl ?_
 refine xH _ _ rfl rfl rfl ?_
 refine xH _ _ rfl rfl rfl ?_
 refine xH _ _ rfl (rH _ _ _ _ _ rfl rfl h4) rfl ?_
 refine xH _ _ rfl (Im rfl rfl hQ hpk) rfl ?_
 refine xH _ _ rfl (Uz rfl hQ hrow) rfl ?_
 refine xH _ _ rfl rfl rfl ?_
 have n1:N+11≠Q:=by omega
 have n2:N+11≠q:=by omega
 have n3:N+11≠4:=by omega
 have Eu:za (zy heap (N+11) (.af 1 [[vI i]])) Q=some (.af 1 af):=by rw [zA,if_neg n1];exact hQ
 have hq1:za (zy heap (N+11) (.af 1 [[vI i]])) q=some (.aV 1 (L.map zb).length):=by rw [zA,if_neg n2,uy];exact hq
 have hB:za (zy heap (N+11) (.af 1 [[vI i]])) (N+11)=some (.af 1 [[vI i]]):=by rw [zA,if_pos rfl]
 show lC C _ _ _ 11 [] [(9,Q),(8,Q),(7,4),(3,4)] ⟨[(1,x1),(5,.Zak Q 0 k),(6,.map 4),(10,iW),(11,vI i),(7,vI i),(8,vI r),(27,.Zak Q 0 k),(28,.map 4),(29,vI r),(30,vI (p:Int)),(31,.Zak Q 0 k),(32,.map 4),(33,vI r),(34,vI (p:Int)),(35,.ptr Q p 0),(36,.aU q (L.map zb)),(37,vI i)],heap,N+11⟩
 have m1:Q≠N+11:=by omega
 have m2:q≠N+11:=by omega
 have m3:4≠N+11:=by omega
 have UC:¬ q=Q:=fun e=>e3 e.symm
 refine xH (.Zak (N+11) 0 1) [(N+11,.af 1 [[vI i]])] rfl rfl ?_ ?_
 ·simp [xn,zY,m1,m3]
 show lC C _ _ _ 12 [(11,N+11)] [(9,Q),(8,Q),(7,4),(3,4)] ⟨[(1,x1),(5,.Zak Q 0 k),(6,.map 4),(10,iW),(11,vI i),(7,vI i),(8,vI r),(27,.Zak Q 0 k),(28,.map 4),(29,vI r),(30,vI (p:Int)),(31,.Zak Q 0 k),(32,.map 4),(33,vI r),(34,vI (p:Int)),(35,.ptr Q p 0),(36,.aU q (L.map zb)),(37,vI i),(38,.Zak (N+11) 0 1)],(zy heap (N+11) (.af 1 [[vI i]])),N+12⟩
 refine xH (.aU q (L.map zb++[zb i])) [(q,.aV 1 ((L.map zb).length+1))] rfl (UA rfl rfl hB hq1 (by simpa using hL)) ?_ ?_
 ·simp [xn,zY,ea,e3,e5,Ne.symm e5,m2]
 show lC C _ _ _ 13 [(12,q),(11,N+11)] _ ⟨[(1,x1),(5,.Zak Q 0 k),(6,.map 4),(10,iW),(11,vI i),(7,vI i),(8,vI r),(27,.Zak Q 0 k),(28,.map 4),(29,vI r),(30,vI (p:Int)),(31,.Zak Q 0 k),(32,.map 4),(33,vI r),(34,vI (p:Int)),(35,.ptr Q p 0),(36,.aU q (L.map zb)),(37,vI i),(38,.Zak (N+11) 0 1),(39,.aU q (L.map zb++[zb i]))],(zy (zy heap (N+11) (.af 1 [[vI i]])) q (.aV 1 ((L.map zb).length+1))),N+13⟩
 have Ip:za (zy (zy heap (N+11) (.af 1 [[vI i]])) q (.aV 1 ((L.map zb).length+1))) Q=some (.af 1 af):=by rw [zA,if_neg UC];exact Eu
 refine xH (.ptr Q p 0) [] rfl (Im rfl rfl Ip hpk) ?_ ?_
 ·simp [xn,zY,ea]
 show lC C _ _ _ 14 [(12,q),(11,N+11)] _ ⟨[(1,x1),(5,.Zak Q 0 k),(6,.map 4),(10,iW),(11,vI i),(7,vI i),(8,vI r),(27,.Zak Q 0 k),(28,.map 4),(29,vI r),(30,vI (p:Int)),(31,.Zak Q 0 k),(32,.map 4),(33,vI r),(34,vI (p:Int)),(35,.ptr Q p 0),(36,.aU q (L.map zb)),(37,vI i),(38,.Zak (N+11) 0 1),(39,.aU q (L.map zb++[zb i])),(40,.ptr Q p 0)],(zy (zy heap (N+11) (.af 1 [[vI i]])) q (.aV 1 ((L.map zb).length+1))),N+14⟩
 refine xH .undef _ rfl (UB rfl rfl Ip hrow) ?_ ?_
 ·simp [xn,zY,ea]
 show ZA _ P ⟨[(1,x1),(5,.Zak Q 0 k),(6,.map 4),(10,iW),(11,vI i),(7,vI i),(8,vI r),(27,.Zak Q 0 k),(28,.map 4),(29,vI r),(30,vI (p:Int)),(31,.Zak Q 0 k),(32,.map 4),(33,vI r),(34,vI (p:Int)),(35,.ptr Q p 0),(36,.aU q (L.map zb)),(37,vI i),(38,.Zak (N+11) 0 1),(39,.aU q (L.map zb++[zb i])),(40,.ptr Q p 0)],zy (zy (zy heap (N+11) (.af 1 [[vI i]])) q (.aV 1 ((L.map zb).length+1))) Q (.af 1 (af.set p [.aU q (L.map zb++[zb i])])),N+15⟩
 rw [KO]
 rw [List.map_append,uy] at *
 exact h
theorem kY {C:bB} {K:St→Prop} {dst:Option Nat} {op:cO} {rest:List aQ} {env:List (Nat×AV)} {heap:List (Nat×aG)} {next:Nat} (r:AV) (aO:List (Nat×aG)) (hc:(match op with | .call _ _=>true | _=>false)=false)
  (he:ai op (zd env) (za heap) next=some (r,aO)) (hn:nv C rest K (St.after ⟨env,heap,next⟩ dst r aO)):nv C (⟨dst,op,none⟩::rest) K ⟨env,heap,next⟩:=by
 rw [F0,KP]
 have e:∀ K,b8 C dst K ⟨env,heap,next⟩ op=z8 dst K ⟨env,heap,next⟩ (ai op (zd env) (za heap) next):=fun KD=>by
  cases op<;>first | rfl | exact Bool.noConfusion hc
 rw [e,he]
 exact hn
theorem UD {env env':List (Nat×AV)} {heap:List (Nat×aG)} {N:Nat} (h:∀ t x,za env' t=some x→za env t=some x):bS ⟨env,heap,N⟩ ⟨env',heap,N⟩:=fun C nt g a w R=>
 ⟨g,⟨⟨R.env.size,R.env.defers,fun t x hx=>R.env.slot t x (h t x hx)⟩,R.heap⟩,fun _ _ _ _ E=>E⟩
theorem Iq {α:Type}:∀ (l m:List (Nat×α)) (t:Nat) (x:α),za l t=some x→za (l++m) t=some x
 | [],m,t,x,h=>by cases h
 | (k,v)::l,m,t,x,h=>by
  simp only [ur,za] at h ⊢
  split
  ·rename_i e;rw [if_pos e] at h;exact h
  ·rename_i e;rw [if_neg e] at h;exact Iq l m t x h
theorem UG (env ext:List (Nat×AV)) (heap:List (Nat×aG)) (N:Nat):bS ⟨env++ext,heap,N⟩ ⟨env,heap,N⟩:=UD fun t x h=>Iq env ext t x h
theorem Ir {C:bB} {nt:Fr} (x1 x5 x6 iW:AV) (i:Int) (heap:List (Nat×aG)) (N:Nat) (P:Exit→St→Prop) (h:P .normal ⟨[(1,x1),(5,x5),(6,x6),(10,iW),(11,vI (IntKind.i64.wrap (i+1)))],heap,N+2⟩) :
 cG C nt (.region false [] HC (some [1,5,6,10,11])) P ⟨[(1,x1),(5,x5),(6,x6),(10,iW),(11,vI i)],heap,N⟩:=j9 [] .nil h (by kernel_rfl)
theorem Is (k:Int) (v:Int):∀ es:List (Int×Int),zm k (zN k v es)=some v
 | []=>by simp [zN,zm]
 | (k',v')::r=>by
  have ih:=Is k v r
  by_cases e:k=k'
  ·simp only [zN,if_pos e,zm,if_true]
  ·simp only [zN,if_neg e,zm];exact ih
theorem UH {ev:aZ→AV} {h:Nat→Option aG} {id M:Nat} {a b c:aZ} {i v:Int} {es:List (Int×Int)} (ha:ev a=.map M) (hb:ev b=vI i) (hc:ev c=vI v) (hM:h M=some (.map (zg IV.i64 IV.i64 es))) :
  ai (.upd false a b c) ev h id=some (.undef,[(M,.map (zg IV.i64 IV.i64 (zN i v es)))]):=by
 have:=(GF IV.i64 i v es).2
 simp only [ai,ha,hb,hc,hM,vI,xL,kU,xf]
 simp only [IV.i64] at this ⊢
 simp [this]
theorem UI {ev:aZ→AV} {h:Nat→Option aG} {id Q k sz:Nat} {a:aZ} {af:List (List AV)} (ha:ev a=.Zak Q 0 k) (hQ:h Q=some (.af sz af)):ai (.len a) ev h id=some (vI (k:Int),[]):=by
 simp [ai,ha,ww,hQ]
theorem UJ {ev:aZ→AV} {h:Nat→Option aG} {id Q B k:Nat} {a b:aZ} {v:AV} {af:List (List AV)} (ha:ev a=.Zak Q 0 k) (hb:ev b=.Zak B 0 1) (hB:h B=some (.af 1 [[v]])) (hQ:h Q=some (.af 1 af)) (hk:k=af.length) (hl:(k+1)*24≤140737488355328) :
  ai (.app 1 24 a b) ev h id=some (.Zak id 0 (k+1),[(id,.af 1 (af++[[v]])),(Q,.dead)]):=by
 subst hk
 simp [ai,ha,hb,JX,jV,hB,hQ,hl]
theorem UK {C:bB} {nt:Fr} (i r:Int) (x1 iW Ba UL:AV) (heap:List (Nat×aG)) (N Q k:Nat) (es:List (Int×Int)) (af:List (List AV)) (hQ:za heap Q=some (.af 1 af)) (h4:za heap 4=some (.map (zg IV.i64 IV.i64 es))) (P:Exit→St→Prop)
  (h:P .normal ⟨[(1,x1),(5,.Zak Q 0 k),(6,.map 4),(10,iW),(11,Ba),(7,vI i),(8,vI r)],zy heap 4 (.map (zg IV.i64 IV.i64 (zN i (k:Int) es))),N+5⟩) :
  cG C nt (.region false [] D9 (some [1,5,6,7,8,10,11])) P ⟨[(1,x1),(5,.Zak Q 0 k),(6,.map 4),(10,iW),(11,Ba),(7,vI i),(8,vI r),(19,UL)],heap,N⟩:=by
 refine QD ?_
 unfold D9
 refine kY _ _ rfl rfl ?_
 refine kY _ _ rfl rfl ?_
 refine kY _ _ rfl rfl ?_
 refine kY (vI (k:Int)) [] rfl (UI rfl hQ) ?_
 refine kY _ _ rfl (UH rfl rfl rfl h4) ?_
 exact h
theorem UM {C:bB} {nt:Fr} (x1 x6 x7 x8 iW Ba:AV) (heap:List (Nat×aG)) (N Q k:Nat) (af:List (List AV)) (hk:k=af.length) (hQN:Q < N) (hQ:za heap Q=some (.af 1 af)) (hl:(k+1)*24≤140737488355328) (P:Exit→St→Prop)
  (h:P .normal ⟨[(1,x1),(5,.Zak (N+2) 0 (k+1)),(6,x6),(10,iW),(11,Ba),(7,x7),(8,x8)],zy (zy (zy heap (N+1) (.af 1 [[.nil]])) Q .dead) (N+2) (.af 1 (af++[[.nil]])),N+4⟩) :
  cG C nt (.region false [] Ea (some [1,5,6,7,8,10,11])) P ⟨[(1,x1),(5,.Zak Q 0 k),(6,x6),(10,iW),(11,Ba),(7,x7),(8,x8)],heap,N⟩:=by
 refine QD ?_
 unfold Ea
 refine kY _ _ rfl rfl ?_
 refine kY (.Zak (N+1) 0 1) [(N+1,.af 1 [[.nil]])] rfl rfl ?_
 have hB:za (zy heap (N+1) (.af 1 [[.nil]])) (N+1)=some (.af 1 [[.nil]]):=by rw [zA,if_pos rfl]
 have Eu:za (zy heap (N+1) (.af 1 [[.nil]])) Q=some (.af 1 af):=by rw [zA,if_neg (by omega)];exact hQ
 refine kY _ _ rfl (UJ rfl rfl hB Eu hk hl) ?_
 refine kY _ _ rfl rfl ?_
 exact h
noncomputable def yG (n:Int) (above:List Int):Option (List (List Int)×List Int):=
 bif decide (n≤1000000000000) then ua (aH (σ:=List (List Int)×List (Int×Int)×List Int) (ρ:=Unit) n kO ([],[],above)) (uc (fun s=>some (s.1,s.2.2)) (fun _=>none)) else none
theorem It {i:Nat} {Ls:List (List Int)} {es:List (Int×Int)} {above:List Int} {heap:List (Nat×aG)} {N P:Nat} {qs:List Nat}
  (hN:dc heap N P qs Ls) (hmin:9≤N) (hlt:∀ j o,za heap j=some o→j < N) (p0:P≠0) (p1:P≠1) (h0:za heap 0=some (.af 1 (zc zb above))) (h1:za heap 1=some (.af 1 [[fE]])) (h4:za heap 4=some (.map (zg IV.i64 IV.i64 es)))
  (hlen:Ls.length≤i+1) (gW:∀ (k:Nat) (L:List Int),Ls[k]?=some L→L.length≤i) {p q:Nat} {L:List Int} (hL:Ls[p]?=some L) (hq:qs[p]?=some q) :
  Il (i+1) (Ls.set p (L++[(i:Int)]),es,above) ⟨zy (zy (zy heap (N+11) (.af 1 [[vI (i:Int)]])) q (.aV 1 (L.length+1))) P (.af 1 ((qe qs Ls).set p [.aU q ((L++[(i:Int)]).map zb)])),N+17,P,qs⟩:=by
 have ht:=hN.aV p q L hq hL
 have AU:q≠P:=fun e=>by rw [e,hN.obj] at ht;cases ht
 have HA:P < N:=hlt _ _ hN.obj
 have PP:q < N:=hlt _ _ ht
 have hE:∀ j,j≠P→j≠q→(za heap j).isSome=true→za (zy (zy (zy heap (N+11) (.af 1 [[vI (i:Int)]])) q (.aV 1 (L.length+1))) P (.af 1 ((qe qs Ls).set p [.aU q ((L++[(i:Int)]).map zb)]))) j=za heap j:=fun j a b c=>by
  obtain ⟨o,ho⟩:=uk.1 c
  have:=hlt j o ho
  rw [zA,if_neg (Ne.symm a),zA,if_neg (Ne.symm b),zA,if_neg (by omega)]
 refine ⟨hN.grow hq (by rw [zA,if_pos rfl,WC qs Ls p q _ hq]) (by rw [zA,if_neg (Ne.symm AU),zA,if_pos rfl];simp) hE,by show 9≤N+17;omega,fun j o ho => ?_,p0,p1,?_,?_,?_,by simpa using hlen,fun k' L' h' => ?_⟩
 ·show j < N+17
  simp only [zA] at ho
  split at ho
  ·omega
  ·split at ho
   ·omega
   ·split at ho
    ·omega
    ·have:=hlt j o ho;omega
 ·simp only;rw [hE 0 (Ne.symm p0) (fun e=>by rw [←e,h0] at ht;cases ht) (by rw [h0];rfl)];exact h0
 ·simp only;rw [hE 1 (Ne.symm p1) (fun e=>by rw [←e,h1] at ht;cases ht) (by rw [h1];rfl)];exact h1
 ·simp only;rw [hE 4 (fun e=>by have:=hN.obj;rw [←e,h4] at this;cases this) (fun e=>by rw [←e,h4] at ht;cases ht) (by rw [h4];rfl)];exact h4
 ·simp only at h'
  by_cases e:k'=p
  ·subst e
   have hlt':=(ug.1 hL).1
   rw [List.getElem?_set_self hlt'] at h'
   cases h'
   have:=gW k' L hL
   simp;omega
  ·rw [List.getElem?_set_ne (Ne.symm e)] at h'
   have:=gW k' L' h'
   omega
theorem dc.push {heap heap':List (Nat×aG)} {N N' P P' q:Nat} {qs:List Nat} {Ls:List (List Int)} (h:dc heap N P qs Ls) (hlt:∀ j o,za heap j=some o→j < q) (hP:za heap' P'=some (.af 1 (qe (qs++[q]) (Ls++[[]])))) (hq:za heap' q=some (.aV 1 0))
  (hE:∀ (k q':Nat),qs[k]?=some q'→(za heap q').isSome=true→za heap' q'=za heap q'):dc heap' N' P' (qs++[q]) (Ls++[[]]):=by
 have hold:∀ (k q':Nat),qs[k]?=some q'→q' < q:=fun k q' hk=>by
  have hl:k < Ls.length:=by rw [←h.len];exact (ug.1 hk).1
  exact hlt q' _ (h.aV k q' Ls[k] hk (by simp))
 refine ⟨hP,fun k q' L h1 h2 => ?_,by simp [h.len],fun i j q' h1 h2 => ?_⟩
 ·rcases uo k qs.length with hk | hk
  ·rw [uh hk] at h1
   rw [uh (by rw [←h.len];exact hk)] at h2
   have:=h.aV k q' L h1 h2
   rw [hE k q' h1 (by rw [this];rfl)];exact this
  ·rw [ue hk] at h1
   rw [ue (by rw [←h.len];exact hk)] at h2
   rw [←h.len] at h2
   cases hd:k - qs.length with
   | zero=>rw [hd] at h1 h2;simp at h1 h2;subst h1 h2;exact hq
   | succ n=>rw [hd] at h1;simp at h1
 ·have key:∀ k,(qs++[q])[k]?=some q'→(k < qs.length∧qs[k]?=some q')∨(k=qs.length∧q'=q):=fun k hk=>by
   rcases uo k qs.length with hlt | hge
   ·rw [uh hlt] at hk;exact .inl ⟨hlt,hk⟩
   ·rw [ue hge] at hk
    cases hd:k - qs.length with
    | zero=>rw [hd] at hk;simp at hk;exact .inr ⟨by omega,hk.symm⟩
    | succ n=>rw [hd] at hk;simp at hk
  rcases key i h1 with ⟨a1,a2⟩ | ⟨a1,a2⟩<;>rcases key j h2 with ⟨b1,b2⟩ | ⟨b1,b2⟩
  ·exact h.nd i j q' a2 b2
  ·have:=hold i q' a2;omega
  ·have:=hold j q' b2;omega
  ·omega
theorem dc.frame {heap:List (Nat×aG)} {N N' P:Nat} {qs:List Nat} {Ls:List (List Int)} (h:dc heap N P qs Ls) (x:Nat) (hx:x≠P) (hx2:∀ sz len,za heap x≠some (.aV sz len)) (o:aG):dc (zy heap x o) N' P qs Ls:=
 ⟨by rw [zA,if_neg hx];exact h.obj,fun k q L h1 h2=>by
  have:=h.aV k q L h1 h2
  rw [zA,if_neg (fun e=>hx2 _ _ (by rw [e];exact this))];exact this,h.len,h.nd⟩
theorem yH {heap:List (Nat×aG)} {N N' x:Nat} {o:aG} (h:∀ j o,za heap j=some o→j < N) (hN:N≤N') (hx:x < N'):∀ j o',za (zy heap x o) j=some o'→j < N':=fun j o' hj=>by
 rw [zA] at hj
 split at hj
 ·omega
 ·have:=h j o' hj;omega
theorem UN {heap:List (Nat×aG)} {N N' x:Nat} {o:aG} (h:∀ j o,za heap j=some o→j < N) (hN:N≤N') (hx:x < N'):∀ j o',za (zo heap x o) j=some o'→j < N':=fun j o' hj=>by
 rw [zp] at hj
 split at hj
 ·omega
 ·have:=h j o' hj;omega
theorem UO {heap:List (Nat×aG)} {N P:Nat} {qs:List Nat} {Ls:List (List Int)} {above:List Int} (h:dc heap N P qs Ls) (hmin:9≤N) (hlt:∀ j o,za heap j=some o→j < N) (p0:P≠0) (p1:P≠1) (h0:za heap 0=some (.af 1 (zc zb above))) (h1:za heap 1=some (.af 1 [[fE]])) :
  bS ⟨[(0,.Zak P 0 Ls.length)],heap,N⟩ ⟨[(0,.ax (.slice (ub (zM zb) Ls)))],[(0,.af 1 (zc zb above)),(1,.af 1 [[fE]])],2⟩:=by
 have w1:=GP (st:=⟨[(0,.Zak P 0 Ls.length)],heap,N⟩) P 1 (qe qs Ls) (zc (zM zb) Ls) h.obj (VW qs Ls h.len)
 have w2:=Wz (st:=⟨[(0,.Zak P 0 Ls.length)],zo heap P (.af 1 (zc (zM zb) Ls)),N⟩) P 1 0 Ls.length (ub (zM zb) Ls) (ub (zM zb) Ls) [] _ (by simp only;rw [zp,if_pos rfl]) (Qa _ _) (GO _ _) (by
  have e1:∀ hp:List (Nat×aG),WW P 0 Ls.length [] hp=[]:=fun hp=>by
   induction hp with
   | nil=>rfl
   | cons a l ih=>obtain ⟨k,o⟩:=a;simp only [WW,ih];simp
  rw [e1]
  simp only [uw,Y4,VU,Zi,if_pos]
  exact .cons (by simp) .nil)
 have w3:=(bS.andThen w1 w2 (ui _))
 refine bS.andThen w3 (XX (by simp only;omega) ?_ ?_) (by simp only;omega)
 ·intro p hp
  simp only [uA,uu,or_false] at hp
  subst hp
  exact ⟨by simp [Y5,Jp,Zh],rfl⟩
 ·intro p hp
  simp only [uA,uu,or_false] at hp
  rcases hp with rfl | rfl
  ·refine ⟨?_,by simp,yX _ _ _ _⟩
   simp only [kV,zp,if_neg p0,h0,uj,if_neg (Ne.symm p0)]
   simp
  ·refine ⟨?_,by simp,vU (by kernel_rfl)⟩
   simp only [kV,zp,if_neg p1,h1,uj,if_neg (Ne.symm p1)]
   simp
set_option maxHeartbeats 4000000 in
theorem UP  (p1:Int) (p2:List Int) (res:List (List Int)×List Int) (hd:yG p1 p2=some res):cV C0 33 [vI p1,.func 29 [] [.ptr 0 0 0,.ptr 1 0 0]] [(0,.af 1 (zc zb p2)),(1,.af 1 [[.func 29 [] [.ptr 0 0 0,.ptr 1 0 0]]])] 2 (.ax (.slice (ub (zM zb) res.1))) [(0,.af 1 (zc zb res.2)),(1,.af 1 [[.func 29 [] [.ptr 0 0 0,.ptr 1 0 0]]])] 0:=by
 unfold yG at hd
 rcases Oj hd with ⟨hn,hd⟩ | ⟨_,hd⟩
 case inr=>cases hd
 have hn:p1≤1000000000000:=of_decide_eq_true hn
 obtain ⟨o,hl,hd⟩:=xh hd
 refine cV.start P7 (by simp [Cd]) (.af (by rfl) (.exp (by rfl) (by kernel_rfl) .nil)) (.af (by rfl) (.exp (by rfl) (by kernel_rfl) .nil)) (by kernel_rfl) (by kernel_rfl) (by kernel_rfl) (by kernel_rfl) ?_
 intro B
 show cG C0.plain _ Cd.body (GJ Cd.results _ _ _) ⟨[(0,vI p1),(1,fE)],[(0,.af 1 (zc zb p2)),(1,.af 1 [[fE]])],2⟩
 refine qL ?_
 refine j9 (aY:=⟨[(0,vI p1),(1,fE)],[(0,.af 1 (zc zb p2)),(1,.af 1 [[fE]])],3⟩) [] .nil ?_ (by kernel_rfl)
 refine jp ?_
 refine qL ?_
 refine j9 (aY:=⟨[(0,vI p1),(1,fE),(5,.nil)],[(0,.af 1 (zc zb p2)),(1,.af 1 [[fE]])],4⟩) [] .nil ?_ (by kernel_rfl)
 refine jp ?_
 refine qL ?_
 refine j9 (aY:=⟨[(0,vI p1),(1,fE),(5,.nil),(6,.map 4)],[(0,.af 1 (zc zb p2)),(1,.af 1 [[fE]]),(4,.map [])],6⟩) [] .nil ?_ (by kernel_rfl)
 refine jp ?_
 refine qL ?_
 refine qL ?_
 refine j9 (aY:=⟨[(1,fE),(5,.nil),(6,.map 4),(10,vI p1),(11,vI 0)],[(0,.af 1 (zc zb p2)),(1,.af 1 [[fE]]),(4,.map [])],8⟩) [] .nil ?_ (by kernel_rfl)
 refine jp ?_
 refine Z7 ?_
 refine Zw (KY (t:=5) 1 rfl) (by simp) ?_
 show cG C0.plain _ _ _ ⟨[(1,fE),(5,.Zak 8 0 0),(6,.map 4),(10,vI p1),(11,vI 0)],[(0,.af 1 (zc zb p2)),(1,.af 1 [[fE]]),(4,.map []),(8,.af 1 [])],9⟩
 refine O9 hl Il (GS p1) (fun i s c hok=>hok.min) ⟨[(0,.af 1 (zc zb p2)),(1,.af 1 [[fE]]),(4,.map []),(8,.af 1 [])],9,8,[]⟩ ?_ rfl (bS.refl _) ?_ ?_
 ·refine ⟨⟨rfl,fun k q L h1=>by simp at h1,rfl,fun i j q h1=>by simp at h1⟩,by simp,fun j o h => ?_,by simp,by simp,rfl,rfl,rfl,by simp,fun k L h=>by simp at h⟩
  simp only [za] at h
  show j < 9
  repeat (split at h;omega)
  cases h
 ·rintro i ⟨Ls,es,above⟩ ⟨heap,N,P,qs⟩ o hok hi hw hs
  obtain ⟨r,hr,hs⟩:=xh hs
  simp only at hr hs
  show cG C0.plain _ _ _ ⟨[(1,fE),(5,.Zak P 0 Ls.length),(6,.map 4),(10,vI p1),(11,vI (i:Int))],heap,N⟩
  refine qL ?_
  refine j9 (aY:=⟨[(1,fE),(5,.Zak P 0 Ls.length),(6,.map 4),(10,vI p1),(11,vI (i:Int)),(12,vB (decide ((i:Int) < p1)))],heap,N+1⟩) [] .nil ?_ (by kernel_rfl)
  refine jp ?_
  refine qL ?_
  refine Ov (by simp [*]) ?_
  refine Jg ?_
  refine jp ?_
  refine qL ?_
  refine Z7 ?_
  refine qL ?_
  refine j9 (aY:=⟨[(1,fE),(5,.Zak P 0 Ls.length),(6,.map 4),(10,vI p1),(11,vI (i:Int)),(7,vI (i:Int))],heap,N+3⟩) [] .nil ?_ (by kernel_rfl)
  refine jp ?_
  refine qL ?_
  have hmin:=hok.min
  simp only at hmin
  refine Uy (i:Int) above r hr _ _ _ heap (N+3) (by omega) hok.h0 hok.h1 _ ?_
  refine jp ?_
  refine qL ?_
  refine qL ?_
  refine j9 (aY:=⟨[(1,fE),(5,.Zak P 0 Ls.length),(6,.map 4),(10,vI p1),(11,vI (i:Int)),(7,vI (i:Int)),(8,vI r.1),(19,vB (r.1 == (i:Int)))],zy heap 0 (.af 1 (zc zb r.2)),N+10⟩) [] .nil ?_ (by kernel_rfl)
  refine jp ?_
  have dm:dc (zy heap 0 (.af 1 (zc zb r.2))) (N+10) P qs Ls:=hok.nest.frame 0 (Ne.symm hok.p0) (fun sz len e=>by have:=hok.h0;simp only at this;rw [this] at e;cases e) _
  have oN:∀ j o,za (zy heap 0 (.af 1 (zc zb r.2))) j=some o→j < N+10:=yH hok.lt (by simp only;omega) (by omega)
  have HA:P < N:=hok.lt _ _ hok.nest.obj
  have P4:P≠4:=fun e=>by have h1:=hok.nest.obj;have h2:=hok.h4;simp only at h1 h2;rw [e,h2] at h1;cases h1
  have g0:za (zy heap 0 (.af 1 (zc zb r.2))) 0=some (.af 1 (zc zb r.2)):=by rw [zA,if_pos rfl]
  have g1:za (zy heap 0 (.af 1 (zc zb r.2))) 1=some (.af 1 [[fE]]):=by rw [zA,if_neg (by omega)];exact hok.h1
  have g4:za (zy heap 0 (.af 1 (zc zb r.2))) 4=some (.map (zg IV.i64 IV.i64 es)):=by rw [zA,if_neg (by omega)];exact hok.h4
  have hlen:=hok.len
  have gW:=hok.lens
  simp only at hlen gW
  have pW:=hok.p0
  have hp1:=hok.p1
  simp only at pW hp1
  generalize zy heap 0 (.af 1 (zc zb r.2))=cr at *
  have hrl:=WA dm.len
  refine Ol (r.1 == (i:Int)) rfl (fun g => ?_) (fun g => ?_)
  ·replace hs:=Ot g hs
   cases hs
   have gi:r.1=(i:Int):=by simpa using g
   rw [gi]
   refine qL ?_
   refine UK (i:Int) (i:Int) _ _ _ _ cr (N+10) P Ls.length es (qe qs Ls) dm.obj g4 _ ?_
   refine jp ?_
   have UQ:za (zy cr 4 (.map (zg IV.i64 IV.i64 (zN (i:Int) (Ls.length:Int) es)))) P=some (.af 1 (qe qs Ls)):=by rw [zA,if_neg (Ne.symm P4)];exact dm.obj
   refine UM _ _ _ _ _ _ _ (N+15) P Ls.length (qe qs Ls) hrl.symm (by omega) UQ (by omega) _ ?_
   refine jp ?_
   refine Zw (K0 (N+17) 1 1 (qe qs Ls++[[.nil]]) Ls.length 0 [.nil] (by simp only;rw [zA,if_pos rfl]) (by rw [←hrl];simp) rfl) (by simp) ?_
   have Ev:(qe qs Ls++[[AV.nil]]).set Ls.length ([AV.nil].set 0 (.aU (N+19) []))=qe (qs++[N+19]) (Ls++[[]]):=by
    rw [Pa qs Ls (N+19) [] dm.len,←hrl]
    simp
   simp only
   rw [show N+15+4=N+19 from rfl,show N+15+2=N+17 from rfl,show N+15+1=N+16 from rfl,Ev]
   generalize hH:zo (zy (zy (zy (zy (zy cr 4 (.map (zg IV.i64 IV.i64 (zN (i:Int) (Ls.length:Int) es)))) (N+16) (.af 1 [[.nil]])) P .dead) (N+17) (.af 1 (qe qs Ls++[[.nil]]))) (N+19) (.aV 1 0)) (N+17) (.af 1 (qe (qs++[N+19]) (Ls++[[]])))=gX
   have ag:∀ j,za gX j=if N+17=j then some (.af 1 (qe (qs++[N+19]) (Ls++[[]]))) else if N+19=j then some (.aV 1 0) else if P=j then some .dead else if N+16=j then some (.af 1 [[.nil]]) else if 4=j then some (.map (zg IV.i64 IV.i64 (zN (i:Int) (Ls.length:Int) es))) else za cr j:=fun j=>by
    rw [←hH]
    simp only [zp,zA]
    split
    ·rfl
    ·split
     ·rfl
     ·rfl
   have n4:dc gX (N+20) (N+17) (qs++[N+19]) (Ls++[[]]):=dm.push (fun j o h=>by have:=oN j o h;omega) (by rw [ag,if_pos rfl]) (by rw [ag,if_neg (by omega),if_pos rfl]) (fun k q' hk ho=>by
    obtain ⟨o',ho'⟩:=uk.1 ho
    have nN:=oN _ _ ho'
    have hl:k < Ls.length:=by rw [←dm.len];exact (ug.1 hk).1
    have ht:=dm.aV k q' Ls[k] hk (by simp)
    rw [ag,if_neg (by omega),if_neg (by omega),if_neg (fun e=>by rw [←e,dm.obj] at ht;cases ht),if_neg (by omega),if_neg (fun e=>by rw [←e,g4] at ht;cases ht)])
   have Iu:∀ j o,za gX j=some o→j < N+20:=by
    rw [←hH]
    exact UN (yH (yH (yH (yH (yH oN (N':=N+20) (by omega) (by omega)) (ui _) (by omega)) (ui _) (by omega)) (ui _) (by omega)) (ui _) (by omega)) (ui _) (by omega)
   have k0:za gX 0=some (.af 1 (zc zb r.2)):=by rw [ag,if_neg (by omega),if_neg (by omega),if_neg pW,if_neg (by omega),if_neg (by omega)];exact g0
   have k1:za gX 1=some (.af 1 [[fE]]):=by rw [ag,if_neg (by omega),if_neg (by omega),if_neg hp1,if_neg (by omega),if_neg (by omega)];exact g1
   have k4:za gX 4=some (.map (zg IV.i64 IV.i64 (zN (i:Int) (Ls.length:Int) es))):=by rw [ag,if_neg (by omega),if_neg (by omega),if_neg P4,if_neg (by omega),if_pos rfl]
   have l6:(qe (qs++[N+19]) (Ls++[[]]))[Ls.length]?=some [.aU (N+19) (([]:List Int).map zb)]:=WB (by rw [←dm.len];simp) (by simp)
   refine Io (i:Int) (i:Int) _ _ gX (N+20) (N+17) (Ls.length+1) Ls.length (N+19) _ _ [] (by rw [WA n4.len];simp) Iu n4.obj k4 (by rw [Is];rfl) l6 (by rw [ag,if_neg (by omega),if_pos rfl];rfl) (by simp) _ ?_
   refine F8 ?_
   refine jp ?_
   refine Ir _ _ _ _ _ _ _ _ ?_
   rw [hw]
   have G:=It (p:=Ls.length) (q:=N+19) (L:=[]) n4 (by omega) Iu (by omega) (by omega) k0 k1 k4 (by simp;omega) (fun k L hk=>by
    rcases uo k Ls.length with hlt | hge
    ·rw [uh hlt] at hk;exact gW k L hk
    ·rw [ue hge] at hk
     cases hd:k - Ls.length with
     | zero=>rw [hd] at hk;simp at hk;subst hk;simp
     | succ n=>rw [hd] at hk;simp at hk) (by simp) (by rw [←dm.len];simp)
   have eL:(Ls++[([]:List Int)]).set Ls.length ([]++[(i:Int)])=Ls++[[(i:Int)]]:=by simp
   rw [eL] at G
   refine ⟨_,_,rfl,G,?_⟩
   have hc:((i:Int)+1)=((i+1:Nat):Int):=rfl
   rw [hc]
   simp only [GS,uz,un,ul,um]
   exact bS.refl _
  ·replace hs:=Ou g hs
   obtain ⟨L,hL,hs⟩:=xh hs
   cases hs
   obtain ⟨z0,z1,z2,z3,_⟩:=Xi hL
   refine Jg ?_
   refine jp ?_
   have hql:((zm r.1 es).getD 0).toNat < qs.length:=by rw [dm.len];exact z2
   have hq1:qs[((zm r.1 es).getD 0).toNat]?=some qs[((zm r.1 es).getD 0).toNat]:=by simp
   have hLl:=gW _ _ z1
   refine Zw (UG [(1,fE),(5,.Zak P 0 Ls.length),(6,.map 4),(10,vI p1),(11,vI (i:Int)),(7,vI (i:Int)),(8,vI r.1)] [(19,vB (r.1 == (i:Int)))] cr (N+10)) (ui _) ?_
   refine Io (i:Int) r.1 _ _ cr (N+10) P Ls.length ((zm r.1 es).getD 0).toNat qs[((zm r.1 es).getD 0).toNat] es _ L hrl.symm oN dm.obj g4 (by omega) (WB hq1 z1) (dm.aV _ _ _ hq1 z1) (by omega) _ ?_
   refine F8 ?_
   refine jp ?_
   refine Ir _ _ _ _ _ _ _ _ ?_
   rw [hw]
   have G:=It dm (by omega) oN pW hp1 g0 g1 g4 (by omega) gW z1 hq1
   refine ⟨_,_,rfl,G,?_⟩
   have hc:((i:Int)+1)=((i+1:Nat):Int):=rfl
   rw [hc]
   simp only [GS,uz,un,ul,um]
   exact bS.refl _
 ·rintro m ⟨Ls,es,above⟩ ⟨heap,N,P,qs⟩ hok hm ho
  subst ho
  have ee:=Option.some.inj hd;subst ee
  show cG C0.plain _ _ _ ⟨[(1,fE),(5,.Zak P 0 Ls.length),(6,.map 4),(10,vI p1),(11,vI (m:Int))],heap,N⟩
  refine qL ?_
  refine j9 (aY:=⟨[(1,fE),(5,.Zak P 0 Ls.length),(6,.map 4),(10,vI p1),(11,vI (m:Int)),(12,vB (decide ((m:Int) < p1)))],heap,N+1⟩) [] .nil ?_ (by kernel_rfl)
  refine jp ?_
  refine qL ?_
  refine Ow (by simp [*]) ?_
  refine WQ ?_
  refine F7 ?_
  refine F7 ?_
  refine Om ?_
  refine jp ?_
  refine qL ?_
  refine j9 (aY:=⟨[(4,.Zak P 0 Ls.length)],heap,N+3⟩) [] .nil ?_ (by kernel_rfl)
  refine jp ?_
  refine YQ ?_
  have hlt:=hok.lt
  have hmin:=hok.min
  simp only at hlt hmin
  exact ⟨_,rfl,UO (N:=N+3) ⟨hok.nest.obj,hok.nest.aV,hok.nest.len,hok.nest.nd⟩ (by omega) (fun j o h=>by have:=hlt j o h;omega) hok.p0 hok.p1 hok.h0 hok.h1⟩
noncomputable def jR (c:ay):Option (List (List Int)):=
 (ua (wC c) fun r1=>(bif (r1.1 == 0) then (ua (aH (σ:=(List Int)) (ρ:=Unit) (c.aA.length:Int) (fun i1 s1=>(ua (zl 400 (i1:Int)) fun k1=>(ua (s1[k1]?) fun e1=>some (.inl (s1.set k1 (i1:Int)))))) (ud 400 0)) (uc (fun (s1:(List Int))=>(ua (Yn c.aJ) fun r2=>(ua (aH (σ:=(List Int)×(List (Int×Int))) (ρ:=Unit) (c.aA.length:Int) (fun i2 s2=>(ua (zf c.aA (i2:Int)) fun e2=>(ua (bif r2 then (ua (ke 0 (i2:Int) s2.1) fun r3=>some r3) else some s2.1) fun (v1:(List Int))=>(ua (aH (σ:=(List Int)) (ρ:=Unit) (e2.start.length:Int) (fun i3 s3=>(ua (zf e2.start (i3:Int)) fun e3=>(ua (ke (i2:Int) e3.clause s3) fun r4=>some (.inl r4)))) v1) (uc (fun (s3:(List Int))=>(ua (Qj e2) fun r5=>(ua (aH (σ:=(List Int)×(List (Int×Int))) (ρ:=Unit) (r5.length:Int) (fun i4 s4=>(ua (ua (zf r5 (i4:Int)) fun e4=>(bif (zm e4 s4.2).isSome then (ua (ke ((zm e4 s4.2).getD 0) (i2:Int) s4.1) fun r6=>some (r6,s4.2)) else some (s4.1,(zN e4 (i2:Int) s4.2)))) fun (v2:(List Int)×(List (Int×Int)))=>some (.inl (v2.1,v2.2)))) (s3,s2.2)) (uc (fun (s4:(List Int)×(List (Int×Int)))=>some (.inl (s4.1,s4.2))) (fun _=>none))))) (fun _=>none)))))) (s1,[])) (uc (fun (s2:(List Int)×(List (Int×Int)))=>(ua (yG (c.aA.length:Int) s2.1) fun r7=>some r7.1)) (fun _=>none))))) (fun _=>none))) else some []))
noncomputable def UR (c:ay):aB (List (List Int)):=
 .aC 1 (.call 2416 (Wc c) fun r1=>.use 1 2416 (.ite 2346 (r1.1 == 0) (.sel 2347 (.aC 1 (.ln 2452 aS.row c.aA (.use 2 2452 (.aH (σ:=(List Int)) (ρ:=Unit) 2348 29 (c.aA.length:Int) (ud 400 0) (.k [1,5,28] (fun _=>[]) [0] (fun s1=>[(11,.af 1 (zc zb s1))]) 16 fun _=>(.af rfl .nil)) (fun i1 s1=>.sel 2348 (.aC 1 (.b1 2418 (zl 400 (i1:Int)) (fun k1=>.k k1) (fun k1 hk1=>(zn hk1)) fun k1=>.b1 2420 (s1[k1]?) (fun e1=>.aw (zj (zb e1)) (zc zb (s1.set k1 (i1:Int)))) (fun e1 dU=>(zH zb (i1:Int) dU)) fun e1=>.us [(2,2418),(3,2420)] (.ret (.inl (s1.set k1 (i1:Int))))))) fun os1=>.case os1 (fun s1=>.sel 2348 (.aC 3 (.b1 2422 (Yn c.aJ) (fun r2=>.c [] 0 (vB r2) [] 0) (fun r2 bZ=>(ze (T9 c.aJ r2 bZ) [] 24 .nil bg bg)) fun r2=>.use 2 2422 (.aC 1 (.ln 2450 aS.row c.aA (.use 2 2450 (.aH (σ:=(List Int)×(List (Int×Int))) (ρ:=Unit) 2362 45 (c.aA.length:Int) (s1,[]) (.k [1,7,8,9,10,43,44] (fun _=>[]) [0,17] (fun s2=>[(11,.af 1 (zc zb s2.1)),(26,.map (zg IV.i64 IV.i64 s2.2))]) 32 fun _=>(.af rfl (.bU rfl .nil))) (fun i2 s2=>.sel 2362 (.aC 0 (.ix 2424 aS.row c.aA (i2:Int) fun e2=>.use 1 2424 (.cut (β:=(List Int)) 1 (.k [1,7,8,9,10,43,44,45,12,11] (fun _=>[]) [0,17,36] (fun v1=>[(11,.af 1 (zc zb v1)),(26,.map (zg IV.i64 IV.i64 s2.2))]) 40 fun _=>(.af rfl (.bU rfl .nil))) (.ite 2406 r2 (.sel 2406 (.aC 0 (.b1 2426 (ke 0 (i2:Int) s2.1) (fun r3=>.c [17,11] 2 (.tuple []) [(11,.af 1 (zc zb r3))] 0) (fun r3 dJ=>(ze (Et 0 (i2:Int) s2.1 r3 dJ) [17,11] 42 (.drop rfl rfl (.keep .nil)) (bt (bA bg)) (bA bg))) fun r3=>.use 2 2426 (.ret r3)))) (.sel 2406 (.ret s2.1))) fun v1=>.aC 0 (.ln 2444 bk.row e2.start (.use 2 2444 (.aH (σ:=(List Int)) (ρ:=Unit) 2408 57 (e2.start.length:Int) v1 (.k [1,7,8,9,10,43,44,45,12,11,55,56] (fun _=>[]) [0,17,36] (fun s3=>[(11,.af 1 (zc zb s3)),(26,.map (zg IV.i64 IV.i64 s2.2))]) 44 fun _=>(.af rfl (.bU rfl .nil))) (fun i3 s3=>.sel 2408 (.aC 0 (.ix 2428 bk.row e2.start (i3:Int) fun e3=>.use 0 2428 (.aC 0 (.b1 2430 (ke (i2:Int) e3.clause s3) (fun r4=>.c [17,11] 2 (.tuple []) [(11,.af 1 (zc zb r4))] 0) (fun r4 l6=>(ze (Et (i2:Int) e3.clause s3 r4 l6) [17,11] 53 (.drop rfl rfl (.keep .nil)) (bt (bA bg)) (bA bg))) fun r4=>.use 4 2430 (.ret (.inl r4))))))) fun os3=>.case os3 (fun s3=>.sel 2408 (.aC 0 (.call 2432 (Ux e2) fun r5=>.use 1 2432 (.ln 2442 zb r5 (.use 2 2442 (.aH (σ:=(List Int)×(List (Int×Int))) (ρ:=Unit) 2410 70 (r5.length:Int) (s3,s2.2) (.k [1,7,8,9,10,43,44,45,11,68,69] (fun _=>[]) [0,17] (fun s4=>[(11,.af 1 (zc zb s4.1)),(26,.map (zg IV.i64 IV.i64 s4.2))]) 49 fun _=>(.af rfl (.bU rfl .nil))) (fun i4 s4=>.sel 2410 (.cut (β:=(List Int)×(List (Int×Int))) 1 (.k [1,7,8,9,10,43,44,45,11,68,69,70] (fun _=>[]) [0,17] (fun v2=>[(11,.af 1 (zc zb v2.1)),(26,.map (zg IV.i64 IV.i64 v2.2))]) 66 fun _=>(.af rfl (.bU rfl .nil))) (.aC 0 (.ix 2434 zb r5 (i4:Int) fun e4=>.use 0 2434 (.aC 0 (.f1 2440 (.l (vI ((zm e4 s4.2).getD 0)) ((zm e4 s4.2).isSome)) (OU IV.i64 0 e4 s4.2) (.use 2 2440 (.ite 2414 ((zm e4 s4.2).isSome) (.sel 2414 (.aC 0 (.b1 2436 (ke ((zm e4 s4.2).getD 0) (i2:Int) s4.1) (fun r6=>.c [17,11] 2 (.tuple []) [(11,.af 1 (zc zb r6))] 0) (fun r6 nM=>(ze (Et ((zm e4 s4.2).getD 0) (i2:Int) s4.1 r6 nM) [17,11] 65 (.drop rfl rfl (.keep .nil)) (bt (bA bg)) (bA bg))) fun r6=>.use 3 2436 (.ret (r6,s4.2))))) (.sel 2414 (.aC 0 (.f1 2438 (.u (zg IV.i64 IV.i64 (zN e4 (i2:Int) s4.2))) (GF IV.i64 e4 (i2:Int) s4.2) (.use 3 2438 (.ret (s4.1,(zN e4 (i2:Int) s4.2))))))))))))) fun v2=>.ret (.inl (v2.1,v2.2)))) fun os4=>.case os4 (fun s4=>.sel 2410 (.ret (.inl (s4.1,s4.2)))) fun _=>.none)))))) fun _=>.none))))))) fun os2=>.case os2 (fun s2=>.sel 2362 (.aC 0 (.b1 2446 (yG (c.aA.length:Int) s2.1) (fun r7=>.c [11,17] 2 (.ax (.slice (ub (zM zb) r7.1))) [(11,.af 1 (zc zb r7.2))] 0) (fun r7 oM=>(ze (UP (c.aA.length:Int) s2.1 r7 oM) [11,17] 37 (.keep (.drop rfl rfl .nil)) (bA (bt bg)) (bA bg))) fun r7=>.ln 2448 aS.row c.aA (.us [(2,2448),(4,2446)] (.ret r7.1))))) fun _=>.none))))))) fun _=>.none))))) (.sel 2347 (.ret []))))
theorem US (c:ay) (res:List (List Int)) (hd:jR c=some res):aL C0 13 [.agg (ay.row c)] (.slice (ub (zM zb) res)):=
 aB.pure (iv:=fun res=>.slice (ub (zM zb) res)) (UR c) (by kernel_rfl) (aB.aD hd (by kernel_rfl))
theorem UT {α:Type} (f:α→List IV) (hf:∀ x,(f x).length=5) {l e:List α} (h:qc 48 l=some e):cV C0 35 [.ax (.slice (ub f l))] [] 0 (.Zak 7 0 e.length) [(7,.af 5 (zc f e))] 8:=
 ef (zero:=[.ax (.str ⟨#[]⟩),.ax (.int .i64 0),.ax (.int .i64 0),.ax (.int .i64 0),.ax (.int .i64 0)]) (show qo C0 35=some (jL 5 48 [.ax (.str ⟨#[]⟩),.ax (.int .i64 0),.ax (.int .i64 0),.ax (.int .i64 0),.ax (.int .i64 0)]).erase by kernel_rfl) f hf h
theorem UU {α:Type} (f:α→List IV) (hf:∀ x,(f x).length=7) {l e:List α} (h:qc 56 l=some e):cV C0 36 [.ax (.slice (ub f l))] [] 0 (.Zak 7 0 e.length) [(7,.af 7 (zc f e))] 8:=
 ef (zero:=[.ax (.int .i64 0),.ax (.int .i64 0),.ax (.int .i64 0),.ax (.int .i64 0),.ax (.int .i64 0),.ax (.int .i64 0),.ax (.int .i64 0)]) (show qo C0 36=some (jL 7 56 [.ax (.int .i64 0),.ax (.int .i64 0),.ax (.int .i64 0),.ax (.int .i64 0),.ax (.int .i64 0),.ax (.int .i64 0),.ax (.int .i64 0)]).erase by kernel_rfl) f hf h
theorem UW {α:Type} (f:α→List IV) (hf:∀ x,(f x).length=2) {l e:List α} (h:qc 16 l=some e):cV C0 37 [.ax (.slice (ub f l))] [] 0 (.Zak 7 0 e.length) [(7,.af 2 (zc f e))] 8:=
 ef (zero:=[.ax (.int .i64 0),.ax (.int .i64 0)]) (show qo C0 37=some (jL 2 16 [.ax (.int .i64 0),.ax (.int .i64 0)]).erase by kernel_rfl) f hf h
noncomputable def XA (c:ay) (aA:List Int):Option (ay×Int):=
 (ua (wC c) fun r1=>(bif (r1.1 == 0) then (ua (aH (σ:=Int) (ρ:=Unit) (aA.length:Int) (fun i1 s1=>(ua (zf aA (i1:Int)) fun e1=>(ua (bif decide (e1≤s1) then some true else some (decide ((c.aA.length:Int)≤e1))) fun v1=>(bif v1 then some (.inr ()) else some (.inl e1))))) (-1)) (uc (fun (s1:Int)=>(ua (qc 8 c.aE) fun e2=>(ua (qc 48 c.bI) fun e3=>(ua (qc 56 c.aJ) fun e4=>(ua (qc 8 c.off) fun e5=>(ua (eD 136 (aA.length:Int)) fun k1=>(ua (aH (σ:=(List aS)) (ρ:=Unit) (aA.length:Int) (fun i2 s2=>(ua (zf aA (i2:Int)) fun e6=>(ua (zf c.aA e6) fun e7=>(ua (qc 16 e7.start) fun e8=>(ua (aH (σ:=(List bk)) (ρ:=Unit) (e8.length:Int) (fun i3 s3=>(ua (zl e8.length (i3:Int)) fun k2=>(ua (s3[k2]?) fun e9=>(ua (jd aA e9.clause) fun r2=>(bif r2.2 then (ua (zl e8.length (i3:Int)) fun k3=>(ua (s3[k3]?) fun ew=>some (.inl (s3.set k3 ({clause:=r2.1,is:=ew.is}:bk))))) else some (.inr ())))))) e8) (uc (fun (s3:(List bk))=>(ua (zl k1 (i2:Int)) fun k4=>(ua (s2[k4]?) fun nA=>some (.inl (s2.set k4 ({e7 with start:=uv e8.length s3}:aS)))))) (fun (y2:Unit)=>some (.inr ())))))))) (ud k1 ({kind:=0,bM:=0,act:=0,need:=0,start:=[],after:=0,br:=0,b9:=false,final:=false,aT:=0,resume:=0,value:=({num:=0,den:=0}:bu),unit:=0,to:=0,bH:=false}:aS))) (uc (fun (s2:(List aS))=>(ua (dQ k1 s2.length) fun g1=>some (({aR:=c.aR,aE:=e2,bI:=e3,aJ:=e4,aA:=s2,bl:=c.bl,off:=e5}:ay),0))) (fun (y3:Unit)=>some (({aR:=0,aE:=[],bI:=[],aJ:=[],aA:=[],bl:=0,off:=[]}:ay),1)))))))))) (fun (y1:Unit)=>some (({aR:=0,aE:=[],bI:=[],aJ:=[],aA:=[],bl:=0,off:=[]}:ay),1)))) else some (({aR:=0,aE:=[],bI:=[],aJ:=[],aA:=[],bl:=0,off:=[]}:ay),1)))
noncomputable def UX (c:ay) (aA:List Int):aB (ay×Int):=
 .aC 1 (.call 2478 (Wc c) fun r1=>.use 1 2478 (.ite 2456 (r1.1 == 0) (.sel 2457 (.aC 1 (.ln 2518 zb aA (.use 1 2518 (.aH (σ:=Int) (ρ:=Unit) 2458 28 (aA.length:Int) (-1) (.e [1,2,4,26,27] (fun s1=>[(8,vI s1)]) [0,1] 16) (fun i1 s1=>.sel 2458 (.aC 0 (.ix 2480 zb aA (i1:Int) fun e1=>.use 0 2480 (.cut (β:=Bool) 2 (.e [1,2,4,26,27,28,10] (fun v1=>[(41,vB v1)]) [0,1] 30) (.aC 0 (.ite 2460 (decide (e1≤s1)) (.use 4 2460 (.ret true)) (.use 4 2460 (.ln 2482 aS.row c.aA (.use 7 2482 (.ret (decide ((c.aA.length:Int)≤e1)))))))) fun v1=>.ite 2462 v1 (.sel 2462 (.ret (.inr ()))) (.sel 2462 (.ret (.inl e1))))))) fun os1=>.case os1 (fun s1=>.sel 2458 (.aC 1 (.b1 2484 (qc 8 c.aE) (fun e2=>.c [] 0 (.Zak 29 0 e2.length) [(29,.af 1 (zc zb e2))] 8) (fun e2 eA=>(ze (kG zb (fun _=>rfl) eA) [] 22 (.keep .nil) bg (bA bg))) fun e2=>.use 2 2484 (.aC 0 (.b1 2486 (qc 48 c.bI) (fun e3=>.c [] 0 (.Zak 42 0 e3.length) [(42,.af 5 (zc bX.row e3))] 8) (fun e3 gU=>(ze (UT bX.row (fun _=>rfl) gU) [] 35 (.keep .nil) bg (bA bg))) fun e3=>.use 2 2486 (.aC 0 (.b1 2488 (qc 56 c.aJ) (fun e4=>.c [] 0 (.Zak 55 0 e4.length) [(55,.af 7 (zc bq.row e4))] 8) (fun e4 iB=>(ze (UU bq.row (fun _=>rfl) iB) [] 48 (.keep .nil) bg (bA bg))) fun e4=>.use 2 2488 (.aC 0 (.b1 2490 (qc 8 c.off) (fun e5=>.c [] 0 (.Zak 68 0 e5.length) [(68,.af 1 (zc zb e5))] 8) (fun e5 l5=>(ze (kG zb (fun _=>rfl) l5) [] 61 (.keep .nil) bg (bA bg))) fun e5=>.use 2 2490 (.aC 0 (.b1 2492 (eD 136 (aA.length:Int)) (fun k1=>.m k1 (ud k1 [vI 0,vI 0,vI 0,vI 0,.nil,vI 0,vI 0,vB false,vB false,vI 0,vI 0,vI 0,vI 0,vI 0,vI 0,vB false])) (fun k1 hk1=>(KS [vI 0,vI 0,vI 0,vI 0,.nil,vI 0,vI 0,vB false,vB false,vI 0,vI 0,vI 0,vI 0,vI 0,vI 0,vB false] hk1)) fun k1=>.ln 2516 zb aA (.us [(1,2516),(2,2492)] (.cA 0 [PJ 74 16 k1 [vI 0,vI 0,vI 0,vI 0,.nil,vI 0,vI 0,vB false,vB false,vI 0,vI 0,vI 0,vI 0,vI 0,vI 0,vB false] aS.row ({kind:=0,bM:=0,act:=0,need:=0,start:=[],after:=0,br:=0,b9:=false,final:=false,aT:=0,resume:=0,value:=({num:=0,den:=0}:bu),unit:=0,to:=0,bH:=false}:aS) (.cons (.refl _) (.cons (.refl _) (.cons (.refl _) (.cons (.refl _) (.cons .nil (.cons (.refl _) (.cons (.refl _) (.cons (.refl _) (.cons (.refl _) (.cons (.refl _) (.cons (.refl _) (.cons (.refl _) (.cons (.refl _) (.cons (.refl _) (.cons (.refl _) (.cons (.refl _) .nil))))))))))))))))] (.aC 0 (.ln 2514 zb aA (.use 1 2514 (.aH (σ:=(List aS)) (ρ:=Unit) 2464 68 (aA.length:Int) (ud k1 ({kind:=0,bM:=0,act:=0,need:=0,start:=[],after:=0,br:=0,b9:=false,final:=false,aT:=0,resume:=0,value:=({num:=0,den:=0}:bu),unit:=0,to:=0,bH:=false}:aS)) (.k [1,2,4,11,66,67] (fun _=>[]) [0,1,18] (fun s2=>[(29,.af 1 (zc zb e2)),(42,.af 5 (zc bX.row e3)),(55,.af 7 (zc bq.row e4)),(68,.af 1 (zc zb e5)),(74,.af 16 (zc aS.row s2))]) 80 fun _=>(.af rfl (.af rfl (.af rfl (.af rfl (.af rfl .nil)))))) (fun i2 s2=>.sel 2464 (.aC 0 (.ix 2494 zb aA (i2:Int) fun e6=>.use 1 2494 (.aC 0 (.ix 2496 aS.row c.aA e6 fun e7=>.use 3 2496 (.aC 0 (.b1 2498 (qc 16 e7.start) (fun e8=>.c [] 0 (.Zak 102 0 e8.length) [(102,.af 2 (zc bk.row e8))] 8) (fun e8 sU=>(ze (UW bk.row (fun _=>rfl) sU) [] 95 (.keep .nil) bg (bA bg))) fun e8=>.use 2 2498 (.aH (σ:=(List bk)) (ρ:=Unit) 2472 85 (e8.length:Int) e8 (.k [1,2,4,11,66,67,68,12,14,84] (fun _=>[]) [0,1,18,91] (fun s3=>[(29,.af 1 (zc zb e2)),(42,.af 5 (zc bX.row e3)),(55,.af 7 (zc bq.row e4)),(68,.af 1 (zc zb e5)),(74,.af 16 (zc aS.row s2)),(102,.af 2 (zc bk.row s3))]) 110 fun _=>(.af rfl (.af rfl (.af rfl (.af rfl (.af rfl (.af rfl .nil))))))) (fun i3 s3=>.sel 2472 (.aC 1 (.b1 2500 (zl e8.length (i3:Int)) (fun k2=>.k k2) (fun k2 hk2=>(zn hk2)) fun k2=>.b1 2502 (s3[k2]?) (fun e9=>.ar (zj (bk.row e9))) (fun e9 Bb=>(zJ bk.row Bb)) fun e9=>.call 2504 (QR aA e9.clause) fun r2=>.us [(4,2500),(6,2502),(7,2504)] (.ite 2476 r2.2 (.sel 2477 (.aC 0 (.b1 2506 (zl e8.length (i3:Int)) (fun k3=>.k k3) (fun k3 gA=>(zn gA)) fun k3=>.b1 2508 (s3[k3]?) (fun ew=>.aw (zj (bk.row ew)) (zc bk.row (s3.set k3 ({clause:=r2.1,is:=ew.is}:bk)))) (fun ew mQ=>(zH bk.row ({clause:=r2.1,is:=ew.is}:bk) mQ)) fun ew=>.us [(4,2506),(6,2508)] (.ret (.inl (s3.set k3 ({clause:=r2.1,is:=ew.is}:bk))))))) (.sel 2477 (.ret (.inr ()))))))) fun os3=>.case os3 (fun s3=>.sel 2472 (.cA 0 [PG 102 2 [91] bk.row s3 e8.length] (.aC 0 (.b1 2510 (zl k1 (i2:Int)) (fun k4=>.k k4) (fun k4 gR=>(zn gR)) fun k4=>.b1 2512 (s2[k4]?) (fun nA=>.aw (zj (aS.row nA)) (zc aS.row (s2.set k4 ({e7 with start:=uv e8.length s3}:aS)))) (fun nA sV=>(zH aS.row ({e7 with start:=uv e8.length s3}:aS) sV)) fun nA=>.us [(4,2510),(5,2512)] (.ret (.inl (s2.set k4 ({e7 with start:=uv e8.length s3}:aS)))))))) fun y2=>.ret (.inr ()))))))))) fun os2=>.case os2 (fun s2=>.sel 2464 (.bind (dQ k1 s2.length) (fun _=>[]) (fun _ _=>.nil) fun g2=>.fin [29,42,55,74,68] (.tuple [.agg [vI c.aR,.Zak 29 0 e2.length,.Zak 42 0 e3.length,.Zak 55 0 e4.length,.Zak 74 0 k1,vI c.bl,.Zak 68 0 e5.length],vI 0]) [(29,.af 1 (zc zb e2)),(42,.af 5 (zc bX.row e3)),(55,.af 7 (zc bq.row e4)),(74,.af 16 (zc aS.row s2)),(68,.af 1 (zc zb e5))] (.tuple [.agg (ay.row ((({aR:=c.aR,aE:=e2,bI:=e3,aJ:=e4,aA:=s2,bl:=c.bl,off:=e5}:ay),0).1)),.int .i64 ((({aR:=c.aR,aE:=e2,bI:=e3,aJ:=e4,aA:=s2,bl:=c.bl,off:=e5}:ay),0).2)]) (xp _ _ _ (zB (DJ (zB (kW (zB (qD _) (zB (kb zb 29 1 e2 rfl) (zB (kb bX.row 42 5 e3 rfl) (zB (kb bq.row 55 7 e4 rfl) (zB (xE aS.row 74 16 k1 s2 g2.down rfl) (zB (qD _) (zB (kb zb 68 1 e5 rfl) jb)))))))) (zB (qD _) jb))) jb)) (({aR:=c.aR,aE:=e2,bI:=e3,aJ:=e4,aA:=s2,bl:=c.bl,off:=e5}:ay),0))) fun y3=>.ret (({aR:=0,aE:=[],bI:=[],aJ:=[],aA:=[],bl:=0,off:=[]}:ay),1)))))))))))))))))) fun y1=>.ret (({aR:=0,aE:=[],bI:=[],aJ:=[],aA:=[],bl:=0,off:=[]}:ay),1)))))) (.sel 2457 (.ret (({aR:=0,aE:=[],bI:=[],aJ:=[],aA:=[],bl:=0,off:=[]}:ay),1)))))
theorem UY (c:ay) (aA:List Int) (res:ay×Int) (hd:XA c aA=some res):aL C0 15 [.agg (ay.row c),.slice (ub zb aA)] (.tuple [.agg (ay.row res.1),.int .i64 res.2]):=
 aB.pure (iv:=fun res=>.tuple [.agg (ay.row res.1),.int .i64 res.2]) (UX c aA) (by kernel_rfl) (aB.aD hd (by kernel_rfl))
theorem Yp {α:Type} (f:α→List IV) (hf:∀ x,(f x).length=1) {l e:List α} (h:qc 1 l=some e):cV C0 121 [.ax (.slice (ub f l))] [] 0 (.Zak 7 0 e.length) [(7,.af 1 (zc f e))] 8:=
 ef (zero:=[.ax (.bool false)]) (show qo C0 121=some (jL 1 1 [.ax (.bool false)]).erase by kernel_rfl) f hf h
noncomputable def yb (aA:List Int) (s:ak):Option ak:=
 (ua (qc 8 s.aE) fun e1=>(ua (qc 1 s.used) fun e2=>(ua (aH (σ:=(List aj)) (ρ:=Unit) (aA.length:Int) (fun i1 s1=>(ua (zf aA (i1:Int)) fun e3=>(ua (zf s.aI e3) fun e4=>(ua (qk (α:=aj) 40 s1 [e4]) fun e5=>some (.inl e5))))) []) (uc (fun (s1:(List aj))=>some ({day:=s.day,aE:=e1,used:=e2,aI:=s1}:ak)) (fun _=>none)))))
noncomputable def UZ (aA:List Int) (s:ak):aB ak:=
 .aC 1 (.b1 2524 (qc 8 s.aE) (fun e1=>.c [] 0 (.Zak 20 0 e1.length) [(20,.af 1 (zc zb e1))] 8) (fun e1 dU=>(ze (kG zb (fun _=>rfl) dU) [] 13 (.keep .nil) bg (bA bg))) fun e1=>.b1 2526 (qc 1 s.used) (fun e2=>.c [] 0 (.Zak 28 0 e2.length) [(28,.af 1 (zc zh e2))] 8) (fun e2 eA=>(ze (Yp zh (fun _=>rfl) eA) [] 21 (.keep .nil) bg (bA bg))) fun e2=>.us [(4,2524),(7,2526)] (.aC 0 (.ln 2534 zb aA (.use 1 2534 (.cA 1 [Jw 11 5 0 3] (.aH (σ:=(List aj)) (ρ:=Unit) 2522 19 (aA.length:Int) [] (.k [3,4,5,17,18] (fun _=>[]) [0,1] (fun s1=>[(20,.af 1 (zc zb e1)),(28,.af 1 (zc zh e2)),(11,.af 4 [[vI s.day,.Zak 20 0 e1.length,.Zak 28 0 e2.length,.aU 32 (ub aj.row s1)]]),(32,.aV 5 s1.length)]) 33 fun _=>(.af rfl (.af rfl (.exp rfl rfl (.exp rfl rfl .nil))))) (fun i1 s1=>.sel 2522 (.aC 0 (.ix 2528 zb aA (i1:Int) fun e3=>.use 0 2528 (.aC 0 (.ix 2530 aj.row s.aI e3 fun e4=>.b1 2532 (qk (α:=aj) 40 s1 [e4]) (fun e5=>.a (ub aj.row e5) e5.length) (fun e5 l5=>(qH aj.row 5 40 (fun _=>rfl) l5)) fun e5=>.us [(5,2530),(8,2532)] (.ret (.inl e5))))))) fun os1=>.case os1 (fun s1=>.sel 2522 (.fin [20,28,32] (.agg [vI s.day,.Zak 20 0 e1.length,.Zak 28 0 e2.length,.aU 32 (ub aj.row s1)]) [(20,.af 1 (zc zb e1)),(28,.af 1 (zc zh e2)),(32,.aV 5 s1.length)] (.agg (ak.row ({day:=s.day,aE:=e1,used:=e2,aI:=s1}:ak))) (xp _ _ _ (zB (kW (zB (qD _) (zB (kb zb 20 1 e1 rfl) (zB (kb zh 28 1 e2 rfl) (zB (O5 _ _) jb))))) jb)) ({day:=s.day,aE:=e1,used:=e2,aI:=s1}:ak))) fun _=>.none))))))
theorem U0 (aA:List Int) (s:ak) (res:ak) (hd:yb aA s=some res):aL C0 176 [.slice (ub zb aA),.agg (ak.row s)] (.agg (ak.row res)):=
 aB.pure (iv:=fun res=>.agg (ak.row res)) (UZ aA s) (by kernel_rfl) (aB.aD hd (by kernel_rfl))
noncomputable def kZ (c:ay) (zw:Int) (p:aK):Option Bool:=
 (ua (bif decide (0≤zw) then (bif decide (zw < c.aR) then (ua (jP c p.state) fun r1=>some r1) else some false) else some false) fun v1=>some v1)
noncomputable def U1 (c:ay) (zw:Int) (p:aK):aB Bool:=
 .cut (β:=Bool) 2 (.e [] (fun v1=>[(6,vB v1)]) [0,1] 18) (.aC 0 (.ite 2536 (decide (0≤zw)) (.ite 2538 (decide (zw < c.aR)) (.call 2540 (vl c p.state) fun r1=>.us [(3,2536),(9,2538),(12,2540)] (.ret r1)) (.us [(3,2536),(9,2538)] (.ret false))) (.use 3 2536 (.f1 2542 (.g false) (rfl:false=false) (.use 9 2542 (.ret false)))))) fun v1=>.ret v1
theorem U2 (c:ay) (zw:Int) (p:aK) (res:Bool) (hd:kZ c zw p=some res):aL C0 80 [.agg (ay.row c),.int .i64 zw,.agg (aK.row p)] (.bool res):=
 aB.pure (iv:=fun res=>.bool res) (U1 c zw p) (by kernel_rfl) (aB.aD hd (by kernel_rfl))
theorem U3 {α:Type} (f:α→List IV) (hf:∀ x,(f x).length=5) {l e:List α} (h:qc 40 l=some e):cV C0 122 [.ax (.slice (ub f l))] [] 0 (.Zak 7 0 e.length) [(7,.af 5 (zc f e))] 8:=
 ef (zero:=[.ax (.int .i64 0),.ax (.int .i64 0),.ax (.int .i64 0),.ax (.int .i64 0),.ax (.bool false)]) (show qo C0 122=some (jL 5 40 [.ax (.int .i64 0),.ax (.int .i64 0),.ax (.int .i64 0),.ax (.int .i64 0),.ax (.bool false)]).erase by kernel_rfl) f hf h
noncomputable def ZJ (s:ak):Option ak:=
 (ua (qc 8 s.aE) fun e1=>(ua (qc 1 s.used) fun e2=>(ua (qc 40 s.aI) fun e3=>some ({day:=s.day,aE:=e1,used:=e2,aI:=e3}:ak))))
noncomputable def U4 (s:ak):aB ak:=
 .aC 1 (.b1 2546 (qc 8 s.aE) (fun e1=>.c [] 0 (.Zak 24 0 e1.length) [(24,.af 1 (zc zb e1))] 8) (fun e1 dU=>(ze (kG zb (fun _=>rfl) dU) [] 17 (.keep .nil) bg (bA bg))) fun e1=>.b1 2548 (qc 1 s.used) (fun e2=>.c [] 0 (.Zak 32 0 e2.length) [(32,.af 1 (zc zh e2))] 8) (fun e2 eA=>(ze (Yp zh (fun _=>rfl) eA) [] 25 (.keep .nil) bg (bA bg))) fun e2=>.b1 2550 (qc 40 s.aI) (fun e3=>.c [] 0 (.Zak 40 0 e3.length) [(40,.af 5 (zc aj.row e3))] 8) (fun e3 gU=>(ze (U3 aj.row (fun _=>rfl) gU) [] 33 (.keep .nil) bg (bA bg))) fun e3=>.us [(2,2546),(5,2548),(8,2550)] (.fin [24,32,40] (.agg [vI s.day,.Zak 24 0 e1.length,.Zak 32 0 e2.length,.Zak 40 0 e3.length]) [(24,.af 1 (zc zb e1)),(32,.af 1 (zc zh e2)),(40,.af 5 (zc aj.row e3))] (.agg (ak.row ({day:=s.day,aE:=e1,used:=e2,aI:=e3}:ak))) (xp _ _ _ (zB (kW (zB (qD _) (zB (kb zb 24 1 e1 rfl) (zB (kb zh 32 1 e2 rfl) (zB (kb aj.row 40 5 e3 rfl) jb))))) jb)) ({day:=s.day,aE:=e1,used:=e2,aI:=e3}:ak)))
theorem Iv (s:ak) (res:ak) (hd:ZJ s=some res):aL C0 77 [.agg (ak.row s)] (.agg (ak.row res)):=
 aB.pure (iv:=fun res=>.agg (ak.row res)) (U4 s) (by kernel_rfl) (aB.aD hd (by kernel_rfl))
noncomputable def Cq (p1:ay) (p2:Int) (p3:aK):Option Unit:=
 some ()
noncomputable def U5 (p1:ay) (p2:Int) (p3:aK):aB Unit:=
 .ret ()
theorem U6 (p1:ay) (p2:Int) (p3:aK) (res:Unit) (hd:Cq p1 p2 p3=some res):cV C0 78 [.agg (zj (ay.row p1)),vI p2,.ax (.agg [.int .i64 p3.state.day,.slice (ub zb p3.state.aE),.slice (ub zh p3.state.used),.slice (ub aj.row p3.state.aI),.bool p3.own])] [] 0 (.func 79 [] [.ptr 2 0 0,.ptr 0 0 0,.ptr 1 0 0]) [(0,.af 7 [zj (ay.row p1)]),(1,.af 1 [[vI p2]]),(2,.af 5 [zj (aK.row p3)])] 3:=
 aB.dn (R:=fun res=>.func 79 [] [.ptr 2 0 0,.ptr 0 0 0,.ptr 1 0 0]) (H:=fun res=>[(0,.af 7 [zj (ay.row p1)]),(1,.af 1 [[vI p2]]),(2,.af 5 [zj (aK.row p3)])]) (U5 p1 p2 p3) .nil (fun _=>(.exp rfl rfl (.exp rfl rfl (.exp rfl rfl .nil)))) (by kernel_rfl) (fun _=>by kernel_rfl) (by kernel_rfl) (aB.aD hd (by kernel_rfl))
noncomputable def Cr (a:List Int) (b:List Int):Option Bool:=
 (bif ((a.length:Int) == (b.length:Int)) then (ua (aH (σ:=Unit) (ρ:=Unit) (a.length:Int) (fun i1 s1=>(ua (zf a (i1:Int)) fun e1=>(ua (zf b (i1:Int)) fun e2=>(bif (e1 == e2) then some (.inl ()) else some (.inr ()))))) ()) (uc (fun (s1:Unit)=>some true) (fun (y1:Unit)=>some false))) else some false)
noncomputable def U7 (a:List Int) (b:List Int):aB Bool:=
 .aC 1 (.ln 2610 zb a (.use 1 2610 (.ln 2608 zb b (.use 3 2608 (.ite 2596 ((a.length:Int) == (b.length:Int)) (.sel 2597 (.aC 0 (.ln 2606 zb a (.use 1 2606 (.aH (σ:=Unit) (ρ:=Unit) 2598 13 (a.length:Int) () (.e [0,1,12] (fun _=>[]) [] 9) (fun i1 s1=>.sel 2598 (.aC 1 (.ix 2602 zb a (i1:Int) fun e1=>.ix 2604 zb b (i1:Int) fun e2=>.us [(2,2602),(6,2604)] (.ite 2600 (e1 == e2) (.sel 2601 (.ret (.inl ()))) (.sel 2601 (.ret (.inr ()))))))) fun os1=>.case os1 (fun s1=>.sel 2598 (.ret true)) fun y1=>.ret false))))) (.sel 2597 (.ret false)))))))
theorem U8 (a:List Int) (b:List Int) (res:Bool) (hd:Cr a b=some res):aL C0 125 [.slice (ub zb a),.slice (ub zb b)] (.bool res):=
 aB.pure (iv:=fun res=>.bool res) (U7 a b) (by kernel_rfl) (aB.aD hd (by kernel_rfl))
noncomputable def Cs (a:List Bool) (b:List Bool):Option Bool:=
 (bif ((a.length:Int) == (b.length:Int)) then (ua (aH (σ:=Unit) (ρ:=Unit) (a.length:Int) (fun i1 s1=>(ua (zf a (i1:Int)) fun e1=>(ua (zf b (i1:Int)) fun e2=>(bif (e1 == e2) then some (.inl ()) else some (.inr ()))))) ()) (uc (fun (s1:Unit)=>some true) (fun (y1:Unit)=>some false))) else some false)
noncomputable def U9 (a:List Bool) (b:List Bool):aB Bool:=
 .aC 1 (.ln 2628 zh a (.use 1 2628 (.ln 2626 zh b (.use 3 2626 (.ite 2614 ((a.length:Int) == (b.length:Int)) (.sel 2615 (.aC 0 (.ln 2624 zh a (.use 1 2624 (.aH (σ:=Unit) (ρ:=Unit) 2616 13 (a.length:Int) () (.e [0,1,12] (fun _=>[]) [] 9) (fun i1 s1=>.sel 2616 (.aC 1 (.ix 2620 zh a (i1:Int) fun e1=>.ix 2622 zh b (i1:Int) fun e2=>.us [(2,2620),(6,2622)] (.ite 2618 (e1 == e2) (.sel 2619 (.ret (.inl ()))) (.sel 2619 (.ret (.inr ()))))))) fun os1=>.case os1 (fun s1=>.sel 2616 (.ret true)) fun y1=>.ret false))))) (.sel 2615 (.ret false)))))))
theorem zob (a:List Bool) (b:List Bool) (res:Bool) (hd:Cs a b=some res):aL C0 123 [.slice (ub zh a),.slice (ub zh b)] (.bool res):=
 aB.pure (iv:=fun res=>.bool res) (U9 a b) (by kernel_rfl) (aB.aD hd (by kernel_rfl))
noncomputable def Ct (a:List aj) (b:List aj):Option Bool:=
 (bif ((a.length:Int) == (b.length:Int)) then (ua (aH (σ:=Unit) (ρ:=Unit) (a.length:Int) (fun i1 s1=>(ua (zf a (i1:Int)) fun e1=>(ua (zf b (i1:Int)) fun e2=>(bif ((e1.aN == e2.aN)&&((e1.left == e2.left)&&((e1.got == e2.got)&&((e1.bw == e2.bw)&&((e1.bN == e2.bN)&&true))))) then some (.inl ()) else some (.inr ()))))) ()) (uc (fun (s1:Unit)=>some true) (fun (y1:Unit)=>some false))) else some false)
noncomputable def zoc (a:List aj) (b:List aj):aB Bool:=
 .aC 1 (.ln 2646 aj.row a (.use 1 2646 (.ln 2644 aj.row b (.use 3 2644 (.ite 2632 ((a.length:Int) == (b.length:Int)) (.sel 2633 (.aC 0 (.ln 2642 aj.row a (.use 1 2642 (.aH (σ:=Unit) (ρ:=Unit) 2634 13 (a.length:Int) () (.e [0,1,12] (fun _=>[]) [] 9) (fun i1 s1=>.sel 2634 (.aC 1 (.ix 2638 aj.row a (i1:Int) fun e1=>.ix 2640 aj.row b (i1:Int) fun e2=>.us [(2,2638),(6,2640)] (.ite 2636 ((e1.aN == e2.aN)&&((e1.left == e2.left)&&((e1.got == e2.got)&&((e1.bw == e2.bw)&&((e1.bN == e2.bN)&&true))))) (.sel 2637 (.ret (.inl ()))) (.sel 2637 (.ret (.inr ()))))))) fun os1=>.case os1 (fun s1=>.sel 2634 (.ret true)) fun y1=>.ret false))))) (.sel 2633 (.ret false)))))))
theorem zod (a:List aj) (b:List aj) (res:Bool) (hd:Ct a b=some res):aL C0 124 [.slice (ub aj.row a),.slice (ub aj.row b)] (.bool res):=
 aB.pure (iv:=fun res=>.bool res) (zoc a b) (by kernel_rfl) (aB.aD hd (by kernel_rfl))
noncomputable def Wf (a:ak) (b:ak):Option Bool:=
 (ua (bif (a.day == b.day) then (ua (Cr a.aE b.aE) fun r1=>(bif r1 then (ua (Cs a.used b.used) fun r2=>(bif r2 then (ua (Ct a.aI b.aI) fun r3=>some r3) else some false)) else some false)) else some false) fun v1=>some v1)
noncomputable def zkm (a:ak) (b:ak):aB Bool:=
 .cut (β:=Bool) 2 (.e [] (fun v1=>[(4,vB v1)]) [0,1] 30) (.aC 0 (.ite 2594 (a.day == b.day) (.call 2648 (U8 a.aE b.aE) fun r1=>.ite 2612 r1 (.call 2650 (zob a.used b.used) fun r2=>.ite 2630 r2 (.call 2652 (zod a.aI b.aI) fun r3=>.us [(6,2594),(10,2648),(13,2612),(17,2650),(20,2630),(24,2652)] (.ret r3)) (.us [(6,2594),(10,2648),(13,2612),(17,2650),(20,2630)] (.ret false))) (.us [(6,2594),(10,2648),(13,2612)] (.f1 2654 (.g false) (rfl:false=false) (.use 20 2654 (.ret false))))) (.use 6 2594 (.f1 2658 (.g false) (rfl:false=false) (.use 13 2658 (.f1 2656 (.g false) (rfl:false=false) (.use 20 2656 (.ret false)))))))) fun v1=>.ret v1
theorem zkn (a:ak) (b:ak) (res:Bool) (hd:Wf a b=some res):aL C0 99 [.agg (ak.row a),.agg (ak.row b)] (.bool res):=
 aB.pure (iv:=fun res=>.bool res) (zkm a b) (by kernel_rfl) (aB.aD hd (by kernel_rfl))
noncomputable def jt (c:ay) (zw:Int) (p:aK):Option (cx×Int):=
 (ua (kZ c zw p) fun r1=>(bif r1 then (ua (ZJ p.state) fun r2=>(ua (vX p) fun r3=>(ua (α:=((List aK)×(List (List bC))) ⊕ Unit) (ua (iter (σ:=Int×(List aK)×(List (List bC))×(List (ByteArray×Int))) (ρ:=((List aK)×(List (List bC))) ⊕ Unit) (fun s1=>(bif decide (s1.1 < (s1.2.1.length:Int)) then (ua (α:=((List aK)×(List (ByteArray×Int))×(List bC)) ⊕ Unit) (ua (zf s1.2.1 s1.1) fun e1=>(ua (Cq c zw e1) fun r4=>(ua (α:=((List aK)×(List (ByteArray×Int))×(List bC)) ⊕ (Unit ⊕ ((List aK)×(List (ByteArray×Int))×(List bC)))) (bif e1.own then (ua (ZJ e1.state) fun r5=>(ua (vX ({state:=r5,own:=false}:aK)) fun r6=>(ua (α:=(Int×(List aK)×(List (ByteArray×Int))) ⊕ Unit) (bif ((zm r6 s1.2.2.2).isSome) then some (.inl (((zm r6 s1.2.2.2).getD 0),s1.2.1,s1.2.2.2)) else (bif ((s1.2.1.length:Int) == 1500) then some (.inr ()) else (ua (qk (α:=aK) 88 s1.2.1 [({state:=r5,own:=false}:aK)]) fun e2=>some (.inl ((s1.2.1.length:Int),e2,(zN r6 (s1.2.1.length:Int) s1.2.2.2)))))) (uc (fun (v1:Int×(List aK)×(List (ByteArray×Int)))=>(ua (qk (α:=bC) 16 [] [({step:=(-2),to:=v1.1}:bC)]) fun e3=>(bif decide (c.bl≤e1.state.day) then some (.inr (.inr (v1.2.1,v1.2.2,e3))) else some (.inl (v1.2.1,v1.2.2,e3))))) (fun (y1:Unit)=>some (.inr (.inl ()))))))) else (bif decide (c.bl≤e1.state.day) then some (.inr (.inr (s1.2.1,s1.2.2.2,[]))) else some (.inl (s1.2.1,s1.2.2.2,[])))) (uc (fun (v2:(List aK)×(List (ByteArray×Int))×(List bC))=>(ua (α:=((List aK)×(List (ByteArray×Int))×(List bC)) ⊕ Unit) (bif e1.own then some (.inl (v2.1,v2.2.1,v2.2.2)) else (ua (dx c e1.state (-1)) fun r7=>(ua (vX ({state:=r7.1,own:=true}:aK)) fun r8=>(ua (α:=(Int×(List aK)×(List (ByteArray×Int))) ⊕ Unit) (bif ((zm r8 v2.2.1).isSome) then some (.inl (((zm r8 v2.2.1).getD 0),v2.1,v2.2.1)) else (bif ((v2.1.length:Int) == 1500) then some (.inr ()) else (ua (qk (α:=aK) 88 v2.1 [({state:=r7.1,own:=true}:aK)]) fun e4=>some (.inl ((v2.1.length:Int),e4,(zN r8 (v2.1.length:Int) v2.2.1)))))) (uc (fun (v3:Int×(List aK)×(List (ByteArray×Int)))=>(ua (qk (α:=bC) 16 v2.2.2 [({step:=(-1),to:=v3.1}:bC)]) fun e5=>some (.inl (v3.2.1,v3.2.2,e5)))) (fun (y4:Unit)=>some (.inr ()))))))) (uc (fun (v4:(List aK)×(List (ByteArray×Int))×(List bC))=>(ua (aH (σ:=(List aK)×(List (ByteArray×Int))×(List bC)) (ρ:=(List aK)×(List (ByteArray×Int))×(List bC)) (c.aJ.length:Int) (fun i2 s2=>(ua (α:=((List aK)×(List (ByteArray×Int))×(List bC)) ⊕ Unit) (ua (zf c.aJ (i2:Int)) fun e6=>(ua (bif (e6.bM == (-1)) then some (-1) else (ua (zf e1.state.aE e6.bM) fun e7=>some e7)) fun (v5:Int)=>(bif ((v5 == zw) == e1.own) then (ua (dx c e1.state (i2:Int)) fun r9=>(ua (Wf r9.1 e1.state) fun iC=>(bif iC then some (.inl (s2.1,s2.2.1,s2.2.2)) else (ua (vX ({state:=r9.1,own:=true}:aK)) fun ij=>(ua (α:=(Int×(List aK)×(List (ByteArray×Int))) ⊕ Unit) (bif ((zm ij s2.2.1).isSome) then some (.inl (((zm ij s2.2.1).getD 0),s2.1,s2.2.1)) else (bif ((s2.1.length:Int) == 1500) then some (.inr ()) else (ua (qk (α:=aK) 88 s2.1 [({state:=r9.1,own:=true}:aK)]) fun e8=>some (.inl ((s2.1.length:Int),e8,(zN ij (s2.1.length:Int) s2.2.1)))))) (uc (fun (v6:Int×(List aK)×(List (ByteArray×Int)))=>(ua (qk (α:=bC) 16 s2.2.2 [({step:=(i2:Int),to:=v6.1}:bC)]) fun e9=>some (.inl (v6.2.1,v6.2.2,e9)))) (fun (y6:Unit)=>some (.inr ())))))))) else some (.inl (s2.1,s2.2.1,s2.2.2))))) (uc (fun (v7:(List aK)×(List (ByteArray×Int))×(List bC))=>some (.inl (v7.1,v7.2.1,v7.2.2))) (fun (y7:Unit)=>some (.inr (s2.1,s2.2.1,s2.2.2)))))) (v4.1,v4.2.1,v4.2.2)) (uc (fun (s2:(List aK)×(List (ByteArray×Int))×(List bC))=>some (.inl (s2.1,s2.2.1,s2.2.2))) (fun (y8:(List aK)×(List (ByteArray×Int))×(List bC))=>some (.inr ()))))) (fun (y5:Unit)=>some (.inr ()))))) (uc (fun (y2:Unit)=>some (.inr ())) (fun (y3:(List aK)×(List (ByteArray×Int))×(List bC))=>some (.inl (y3.1,y3.2.1,y3.2.2)))))))) (uc (fun (v8:(List aK)×(List (ByteArray×Int))×(List bC))=>(ua (qk (α:=List bC) 24 s1.2.2.1 [v8.2.2]) fun ew=>some (.inl ((IntKind.i64.wrap (s1.1+1)),v8.1,ew,v8.2.1)))) (fun (y9:Unit)=>some (.inr (.inr ()))))) else some (.inr (.inl (s1.2.1,s1.2.2.1))))) (0,[({state:=r2,own:=p.own}:aK)],[],(zN r3 0 []))) (uc (fun (Bc:(List aK)×(List (List bC)))=>some (.inl (Bc.1,Bc.2))) (fun (y11:Unit)=>some (.inr ())))) (uc (fun (v9:(List aK)×(List (List bC)))=>some (({zw:=zw,aW:=v9.1,bK:=v9.2}:cx),0)) (fun (y12:Unit)=>some (({zw:=0,aW:=[],bK:=[]}:cx),3)))))) else some (({zw:=0,aW:=[],bK:=[]}:cx),1)))
noncomputable def zmd (c:ay) (zw:Int) (p:aK):aB (cx×Int):=
 .aC 1 (.call 2776 (U2 c zw p) fun r1=>.use 3 2776 (.ite 2544 r1 (.sel 2545 (.aC 0 (.call 2778 (Iv p.state) fun r2=>.use 3 2778 (.aC 0 (.call 2780 (V4 p) fun r3=>.use 2 2780 (.f1 2846 (.u (zg IV.str IV.i64 (zN r3 0 []))) (vC IV.i64 r3 0 []) (.use 3 2846 (.eu (β:=(List aK)×(List (List bC))) (γ:=Unit) 1 (.k [6,7,8] (fun _=>[]) [2,3] (fun v9=>[(18,.af 3 [[vI zw,.aU 29 (ub aK.row v9.1),.aU 28 (ub (zM bC.row) v9.2)]]),(28,.aV 1 v9.2.length),(29,.aV 5 v9.1.length)]) 30 fun _=>(.exp rfl rfl (.exp rfl rfl (.exp rfl rfl .nil)))) (.cA 2 [Jw 18 1 0 2,PL 8 18 0 1 16 5 aK.row [({state:=r2,own:=p.own}:aK)]] (.iter (σ:=Int×(List aK)×(List (List bC))×(List (ByteArray×Int))) (ρ:=((List aK)×(List (List bC))) ⊕ Unit) (0,[({state:=r2,own:=p.own}:aK)],[],(zN r3 0 [])) (.k [1,3,6,7,8,9] (fun s1=>[(10,vI s1.1)]) [0,2,3,25] (fun s1=>[(18,.af 3 [[vI zw,.aU 29 (ub aK.row s1.2.1),.aU 28 (ub (zM bC.row) s1.2.2.1)]]),(20,.map (zg IV.str IV.i64 s1.2.2.2)),(28,.aV 1 s1.2.2.1.length),(29,.aV 5 s1.2.1.length)]) 30 fun _=>(.exp rfl rfl (.bU rfl (.exp rfl rfl (.exp rfl rfl .nil))))) (fun s1=>.aC 0 (.ln 2844 aK.row s1.2.1 (.use 3 2844 (.ite 2726 (decide (s1.1 < (s1.2.1.length:Int))) (.sel 2726 (.eu (β:=(List aK)×(List (ByteArray×Int))×(List bC)) (γ:=Unit) 4 (.k [1,3,6,7,8,9,10,11] (fun _=>[]) [0,2,3,25,28] (fun v8=>[(18,.af 3 [[vI zw,.aU 29 (ub aK.row v8.1),.aU 28 (ub (zM bC.row) s1.2.2.1)]]),(20,.map (zg IV.str IV.i64 v8.2.1)),(29,.aV 5 v8.1.length),(35,.af 1 [[.aU 48 (ub bC.row v8.2.2)]]),(48,.aV 2 v8.2.2.length)]) 69 fun _=>(.exp rfl rfl (.bU rfl (.exp rfl rfl (.exp rfl rfl (.exp rfl rfl .nil)))))) (.aC 0 (.ix 2784 aK.row s1.2.1 s1.1 fun e1=>.b1 2786 (Cq c zw e1) (fun r4=>.c [] 0 (.func 79 [] [.ptr 46 0 0,.ptr 44 0 0,.ptr 45 0 0]) [(44,.af 7 [zj (ay.row c)]),(45,.af 1 [[vI zw]]),(46,.af 5 [zj (aK.row e1)])] 3) (fun r4 l6=>(ze (U6 c zw e1 r4 l6) [] 44 (.keep (.keep (.keep .nil))) bg (bt (bt (bt bg))))) fun r4=>.us [(5,2784),(7,2786)] (.cA 2 [Jw 35 2 0 0] (.eu (β:=(List aK)×(List (ByteArray×Int))×(List bC)) (γ:=Unit ⊕ ((List aK)×(List (ByteArray×Int))×(List bC))) 1 (.k [0,1,2,3] (fun _=>[]) [0,2,3,25,28,46,45,44,47] (fun v2=>[(18,.af 3 [[vI zw,.aU 29 (ub aK.row v2.1),.aU 28 (ub (zM bC.row) s1.2.2.1)]]),(20,.map (zg IV.str IV.i64 v2.2.1)),(29,.aV 5 v2.1.length),(35,.af 1 [[.aU 48 (ub bC.row v2.2.2)]]),(48,.aV 2 v2.2.2.length)]) 68 fun _=>(.exp rfl rfl (.bU rfl (.exp rfl rfl (.exp rfl rfl (.exp rfl rfl .nil)))))) (.aC 0 (.ite 2738 e1.own (.call 2824 (Iv e1.state) fun r5=>.us [(3,2738),(6,2824)] (.aC 2 (.call 2826 (V4 ({state:=r5,own:=false}:aK)) fun r6=>.use 1 2826 (.aC 0 (.f1 2840 (.l (vI ((zm r6 s1.2.2.2).getD 0)) ((zm r6 s1.2.2.2).isSome)) (jX IV.i64 0 r6 s1.2.2.2) (.use 2 2840 (.eu (β:=Int×(List aK)×(List (ByteArray×Int))) (γ:=Unit) 1 (.k [11,12] (fun v1=>[(15,vI v1.1)]) [0,2,3,25,28,35,46,45,44,47,48] (fun v1=>[(18,.af 3 [[vI zw,.aU 29 (ub aK.row v1.2.1),.aU 28 (ub (zM bC.row) s1.2.2.1)]]),(20,.map (zg IV.str IV.i64 v1.2.2)),(29,.aV 5 v1.2.1.length)]) 74 fun _=>(.exp rfl rfl (.bU rfl (.exp rfl rfl .nil)))) (.ite 2740 ((zm r6 s1.2.2.2).isSome) (.sel 2741 (.ret (.inl (((zm r6 s1.2.2.2).getD 0),s1.2.1,s1.2.2.2)))) (.sel 2741 (.aC 0 (.ln 2838 aK.row s1.2.1 (.use 2 2838 (.ite 2742 ((s1.2.1.length:Int) == 1500) (.sel 2742 (.ret (.inr ()))) (.sel 2742 (.aC 0 (.f1 2836 (.u (zg IV.str IV.i64 (zN r6 (s1.2.1.length:Int) s1.2.2.2))) (vC IV.i64 r6 (s1.2.1.length:Int) s1.2.2.2) (.use 3 2836 (.aC 0 (.b1 2834 (qk (α:=aK) 88 s1.2.1 [({state:=r5,own:=false}:aK)]) (fun e2=>.a (ub aK.row e2) e2.length) (fun e2 eA=>(qH aK.row 5 88 (fun _=>rfl) eA)) fun e2=>.use 4 2834 (.ret (.inl ((s1.2.1.length:Int),e2,(zN r6 (s1.2.1.length:Int) s1.2.2.2)))))))))))))))) fun o_v1=>.case o_v1 (fun v1=>.aC 0 (.b1 2830 (qk (α:=bC) 16 [] [({step:=(-2),to:=v1.1}:bC)]) (fun e3=>.a (ub bC.row e3) e3.length) (fun e3 gU=>(qH bC.row 2 16 (fun _=>rfl) gU)) fun e3=>.use 5 2830 (.f1 2832 (.g false) (rfl:(!true)=false) (.use 12 2832 (.ite 2744 (decide (c.bl≤e1.state.day)) (.sel 2744 (.ret (.inr (.inr (v1.2.1,v1.2.2,e3))))) (.sel 2744 (.ret (.inl (v1.2.1,v1.2.2,e3))))))))) fun y1=>.f1 2828 (.g true) (rfl:(!false)=true) (.use 12 2828 (.ret (.inr (.inl ()))))))))))) (.use 3 2738 (.f1 2842 (.g false) (rfl:false=false) (.use 12 2842 (.ite 2746 (decide (c.bl≤e1.state.day)) (.sel 2746 (.ret (.inr (.inr (s1.2.1,s1.2.2.2,[]))))) (.sel 2746 (.ret (.inl (s1.2.1,s1.2.2.2,[])))))))))) fun o_v2=>.case o_v2 (fun v2=>.eu (β:=(List aK)×(List (ByteArray×Int))×(List bC)) (γ:=Unit) 1 (.k [0,1,2,3] (fun _=>[]) [0,2,3,25,28,46,45,44,47] (fun v4=>[(18,.af 3 [[vI zw,.aU 29 (ub aK.row v4.1),.aU 28 (ub (zM bC.row) s1.2.2.1)]]),(20,.map (zg IV.str IV.i64 v4.2.1)),(29,.aV 5 v4.1.length),(35,.af 1 [[.aU 48 (ub bC.row v4.2.2)]]),(48,.aV 2 v4.2.2.length)]) 71 fun _=>(.exp rfl rfl (.bU rfl (.exp rfl rfl (.exp rfl rfl (.exp rfl rfl .nil)))))) (.ite 2748 e1.own (.sel 2749 (.ret (.inl (v2.1,v2.2.1,v2.2.2)))) (.sel 2749 (.aC 0 (.call 2810 (QT c e1.state (-1)) fun r7=>.use 3 2810 (.aC 0 (.aC 2 (.call 2812 (V4 ({state:=r7.1,own:=true}:aK)) fun r8=>.use 1 2812 (.aC 0 (.f1 2822 (.l (vI ((zm r8 v2.2.1).getD 0)) ((zm r8 v2.2.1).isSome)) (jX IV.i64 0 r8 v2.2.1) (.use 2 2822 (.eu (β:=Int×(List aK)×(List (ByteArray×Int))) (γ:=Unit) 1 (.k [11,12] (fun v3=>[(15,vI v3.1)]) [0,2,3,25,28,35,46,45,44,47,48,78] (fun v3=>[(18,.af 3 [[vI zw,.aU 29 (ub aK.row v3.2.1),.aU 28 (ub (zM bC.row) s1.2.2.1)]]),(20,.map (zg IV.str IV.i64 v3.2.2)),(29,.aV 5 v3.2.1.length)]) 101 fun _=>(.exp rfl rfl (.bU rfl (.exp rfl rfl .nil)))) (.ite 2750 ((zm r8 v2.2.1).isSome) (.sel 2751 (.ret (.inl (((zm r8 v2.2.1).getD 0),v2.1,v2.2.1)))) (.sel 2751 (.aC 0 (.ln 2820 aK.row v2.1 (.use 2 2820 (.ite 2752 ((v2.1.length:Int) == 1500) (.sel 2752 (.ret (.inr ()))) (.sel 2752 (.aC 0 (.f1 2818 (.u (zg IV.str IV.i64 (zN r8 (v2.1.length:Int) v2.2.1))) (vC IV.i64 r8 (v2.1.length:Int) v2.2.1) (.use 3 2818 (.aC 0 (.b1 2816 (qk (α:=aK) 88 v2.1 [({state:=r7.1,own:=true}:aK)]) (fun e4=>.a (ub aK.row e4) e4.length) (fun e4 iB=>(qH aK.row 5 88 (fun _=>rfl) iB)) fun e4=>.use 4 2816 (.ret (.inl ((v2.1.length:Int),e4,(zN r8 (v2.1.length:Int) v2.2.1)))))))))))))))) fun o_v3=>.case o_v3 (fun v3=>.aC 0 (.b1 2814 (qk (α:=bC) 16 v2.2.2 [({step:=(-1),to:=v3.1}:bC)]) (fun e5=>.a (ub bC.row e5) e5.length) (fun e5 l5=>(qH bC.row 2 16 (fun _=>rfl) l5)) fun e5=>.use 5 2814 (.ret (.inl (v3.2.1,v3.2.2,e5))))) fun y4=>.ret (.inr ())))))))))))) fun o_v4=>.case o_v4 (fun v4=>.aC 0 (.ln 2808 bq.row c.aJ (.use 2 2808 (.aH (σ:=(List aK)×(List (ByteArray×Int))×(List bC)) (ρ:=(List aK)×(List (ByteArray×Int))×(List bC)) 2754 49 (c.aJ.length:Int) (v4.1,v4.2.1,v4.2.2) (.k [0,1,2,3,47,48] (fun _=>[]) [0,2,3,25,28,46,45,44,47] (fun s2=>[(18,.af 3 [[vI zw,.aU 29 (ub aK.row s2.1),.aU 28 (ub (zM bC.row) s1.2.2.1)]]),(20,.map (zg IV.str IV.i64 s2.2.1)),(29,.aV 5 s2.1.length),(35,.af 1 [[.aU 48 (ub bC.row s2.2.2)]]),(48,.aV 2 s2.2.2.length)]) 75 fun _=>(.exp rfl rfl (.bU rfl (.exp rfl rfl (.exp rfl rfl (.exp rfl rfl .nil)))))) (fun i2 s2=>.sel 2754 (.eu (β:=(List aK)×(List (ByteArray×Int))×(List bC)) (γ:=Unit) 1 (.k [0,1,2,3,47,48,49] (fun _=>[]) [0,2,3,25,28,46,45,44,47] (fun v7=>[(18,.af 3 [[vI zw,.aU 29 (ub aK.row v7.1),.aU 28 (ub (zM bC.row) s1.2.2.1)]]),(20,.map (zg IV.str IV.i64 v7.2.1)),(29,.aV 5 v7.1.length),(35,.af 1 [[.aU 48 (ub bC.row v7.2.2)]]),(48,.aV 2 v7.2.2.length)]) 92 fun _=>(.exp rfl rfl (.bU rfl (.exp rfl rfl (.exp rfl rfl (.exp rfl rfl .nil)))))) (.aC 0 (.ix 2788 bq.row c.aJ (i2:Int) fun e6=>.use 1 2788 (.cut (β:=Int) 2 (.k [0,1,2,3,47,48,49,7] (fun v5=>[(9,vI v5)]) [0,2,3,18,25,28,29,35,46,45,44,47,48] (fun _=>[(20,.map (zg IV.str IV.i64 s2.2.1))]) 86 fun _=>(.bU rfl .nil)) (.ite 2766 (e6.bM == (-1)) (.sel 2767 (.ret (-1))) (.sel 2767 (.aC 0 (.ix 2790 zb e1.state.aE e6.bM fun e7=>.use 5 2790 (.ret e7))))) fun v5=>.ite 2768 ((v5 == zw) == e1.own) (.sel 2769 (.aC 0 (.call 2792 (QT c e1.state (i2:Int)) fun r9=>.use 4 2792 (.aC 0 (.call 2794 (zkn r9.1 e1.state) fun iC=>.ite 2770 iC (.us [(3,2794),(6,2771)] (.ret (.inl (s2.1,s2.2.1,s2.2.2)))) (.us [(3,2794),(6,2771)] (.aC 2 (.call 2796 (V4 ({state:=r9.1,own:=true}:aK)) fun ij=>.use 1 2796 (.aC 0 (.f1 2806 (.l (vI ((zm ij s2.2.1).getD 0)) ((zm ij s2.2.1).isSome)) (jX IV.i64 0 ij s2.2.1) (.use 2 2806 (.eu (β:=Int×(List aK)×(List (ByteArray×Int))) (γ:=Unit) 1 (.k [11,12] (fun v6=>[(15,vI v6.1)]) [0,2,3,25,28,35,46,45,44,47,48,100] (fun v6=>[(18,.af 3 [[vI zw,.aU 29 (ub aK.row v6.2.1),.aU 28 (ub (zM bC.row) s1.2.2.1)]]),(20,.map (zg IV.str IV.i64 v6.2.2)),(29,.aV 5 v6.2.1.length)]) 130 fun _=>(.exp rfl rfl (.bU rfl (.exp rfl rfl .nil)))) (.ite 2772 ((zm ij s2.2.1).isSome) (.sel 2773 (.ret (.inl (((zm ij s2.2.1).getD 0),s2.1,s2.2.1)))) (.sel 2773 (.aC 0 (.ln 2804 aK.row s2.1 (.use 2 2804 (.ite 2774 ((s2.1.length:Int) == 1500) (.sel 2774 (.ret (.inr ()))) (.sel 2774 (.aC 0 (.f1 2802 (.u (zg IV.str IV.i64 (zN ij (s2.1.length:Int) s2.2.1))) (vC IV.i64 ij (s2.1.length:Int) s2.2.1) (.use 3 2802 (.aC 0 (.b1 2800 (qk (α:=aK) 88 s2.1 [({state:=r9.1,own:=true}:aK)]) (fun e8=>.a (ub aK.row e8) e8.length) (fun e8 sU=>(qH aK.row 5 88 (fun _=>rfl) sU)) fun e8=>.use 4 2800 (.ret (.inl ((s2.1.length:Int),e8,(zN ij (s2.1.length:Int) s2.2.1)))))))))))))))) fun o_v6=>.case o_v6 (fun v6=>.aC 0 (.b1 2798 (qk (α:=bC) 16 s2.2.2 [({step:=(i2:Int),to:=v6.1}:bC)]) (fun e9=>.a (ub bC.row e9) e9.length) (fun e9 Bb=>(qH bC.row 2 16 (fun _=>rfl) Bb)) fun e9=>.use 5 2798 (.ret (.inl (v6.2.1,v6.2.2,e9))))) fun y6=>.ret (.inr ()))))))))))))) (.sel 2769 (.ret (.inl (s2.1,s2.2.1,s2.2.2))))))) fun o_v7=>.case o_v7 (fun v7=>.ret (.inl (v7.1,v7.2.1,v7.2.2))) fun y7=>.ret (.inr (s2.1,s2.2.1,s2.2.2)))) fun os2=>.case os2 (fun s2=>.sel 2754 (.ret (.inl (s2.1,s2.2.1,s2.2.2)))) fun y8=>.ret (.inr ()))))) fun y5=>.ret (.inr ())) fun zy2=>.case zy2 (fun y2=>.ret (.inr ())) fun y3=>.ret (.inl (y3.1,y3.2.1,y3.2.2)))))) fun o_v8=>.case o_v8 (fun v8=>.aC 0 (.b1 2782 (qk (α:=List bC) 24 s1.2.2.1 [v8.2.2]) (fun ew=>.a (ub (zM bC.row) ew) ew.length) (fun ew mQ=>(qH (zM bC.row) 1 24 (fun _=>rfl) mQ)) fun ew=>.use 4 2782 (.ret (.inl ((IntKind.i64.wrap (s1.1+1)),v8.1,ew,v8.2.1))))) fun y9=>.ret (.inr (.inr ())))) (.sel 2726 (.ret (.inr (.inl (s1.2.1,s1.2.2.1))))))))) fun os1=>.case os1 (fun Bc=>.ret (.inl (Bc.1,Bc.2))) fun y11=>.ret (.inr ()))) fun o_v9=>.case o_v9 (fun v9=>.ret (({zw:=zw,aW:=v9.1,bK:=v9.2}:cx),0)) fun y12=>.ret (({zw:=0,aW:=[],bK:=[]}:cx),3))))))))) (.sel 2545 (.ret (({zw:=0,aW:=[],bK:=[]}:cx),1)))))
theorem Iw (c:ay) (zw:Int) (p:aK) (res:cx×Int) (hd:jt c zw p=some res):aL C0 74 [.agg (ay.row c),.int .i64 zw,.agg (aK.row p)] (.tuple [.agg (cx.row res.1),.int .i64 res.2]):=
 aB.pure (iv:=fun res=>.tuple [.agg (cx.row res.1),.int .i64 res.2]) (zmd c zw p) (by kernel_rfl) (aB.aD hd (by kernel_rfl))
noncomputable def yc (c:ay) (a:cx):Option Bool:=
 (ua (bif decide (a.zw < 0) then some true else (bif decide (c.aR≤a.zw) then some true else some (!((a.bK.length:Int) == (a.aW.length:Int))))) fun v1=>(bif v1 then some false else (ua (aH (σ:=Unit) (ρ:=Unit) (a.aW.length:Int) (fun i1 s1=>(ua (zf a.aW (i1:Int)) fun e1=>(ua (zf a.bK (i1:Int)) fun e2=>(ua (aH (σ:=Unit) (ρ:=Unit) (e2.length:Int) (fun i2 s2=>(ua (zf e2 (i2:Int)) fun e3=>(ua (bif decide (e3.to < 0) then some true else some (decide ((a.aW.length:Int)≤e3.to))) fun v2=>(bif v2 then some (.inr ()) else some (.inl ()))))) ()) (uc (fun (s2:Unit)=>(ua (jP c e1.state) fun r1=>(bif r1 then some (.inl ()) else some (.inr ())))) (fun (y1:Unit)=>some (.inr ()))))))) ()) (uc (fun (s1:Unit)=>some true) (fun (y2:Unit)=>some false)))))
noncomputable def zcC (c:ay) (a:cx):aB Bool:=
 .cut (β:=Bool) 3 (.e [2,3] (fun v1=>[(27,vB v1)]) [0,1] 22) (.aC 0 (.ite 2850 (decide (a.zw < 0)) (.use 4 2850 (.f1 2866 (.g true) (rfl:true=true) (.use 11 2866 (.ret true)))) (.ite 2852 (decide (c.aR≤a.zw)) (.us [(4,2850),(11,2852)] (.ret true)) (.us [(4,2850),(11,2852)] (.ln 2870 (zM bC.row) a.bK (.use 13 2870 (.ln 2868 aK.row a.aW (.use 16 2868 (.ret (!((a.bK.length:Int) == (a.aW.length:Int)))))))))))) fun v1=>.ite 2854 v1 (.sel 2854 (.ret false)) (.sel 2854 (.aC 0 (.ln 2884 aK.row a.aW (.use 2 2884 (.aH (σ:=Unit) (ρ:=Unit) 2856 31 (a.aW.length:Int) () (.e [2,3,29,30] (fun _=>[]) [0,1] 26) (fun i1 s1=>.sel 2856 (.aC 0 (.ix 2872 aK.row a.aW (i1:Int) fun e1=>.use 1 2872 (.aC 0 (.ix 2874 (zM bC.row) a.bK (i1:Int) fun e2=>.use 3 2874 (.ln 2882 bC.row e2 (.use 5 2882 (.aH (σ:=Unit) (ρ:=Unit) 2858 42 (e2.length:Int) () (.e [2,3,29,30,31,6,40,41] (fun _=>[]) [0,1,30] 40) (fun i2 s2=>.sel 2858 (.aC 0 (.ix 2876 bC.row e2 (i2:Int) fun e3=>.use 0 2876 (.cut (β:=Bool) 1 (.e [2,3,29,30,31,6,40,41,42] (fun v2=>[(56,vB v2)]) [0,1,30,43] 56) (.aC 0 (.ite 2860 (decide (e3.to < 0)) (.use 4 2860 (.ret true)) (.use 4 2860 (.ln 2878 aK.row a.aW (.use 8 2878 (.ret (decide ((a.aW.length:Int)≤e3.to)))))))) fun v2=>.ite 2862 v2 (.sel 2862 (.ret (.inr ()))) (.sel 2862 (.ret (.inl ()))))))) fun os2=>.case os2 (fun s2=>.sel 2858 (.aC 0 (.call 2880 (vl c e1.state) fun r1=>.use 3 2880 (.ite 2864 r1 (.sel 2865 (.ret (.inl ()))) (.sel 2865 (.ret (.inr ()))))))) fun y1=>.ret (.inr ()))))))))) fun os1=>.case os1 (fun s1=>.sel 2856 (.ret true)) fun y2=>.ret false)))))
theorem zcD (c:ay) (a:cx) (res:Bool) (hd:yc c a=some res):aL C0 139 [.agg (ay.row c),.agg (cx.row a)] (.bool res):=
 aB.pure (iv:=fun res=>.bool res) (zcC c a) (by kernel_rfl) (aB.aD hd (by kernel_rfl))
noncomputable def Yq (c:ay) (s:ak) (zw:Int):Option Bool:=
 (ua (aH (σ:=Unit) (ρ:=Unit) (s.aI.length:Int) (fun i1 s1=>(ua (zf s.aI (i1:Int)) fun e1=>(ua (ua (zf c.aA (i1:Int)) fun e2=>(bif e2.final then (bif (e1.aN == 4) then some (e1.bw == zw) else some false) else some false)) fun v1=>(bif v1 then some (.inr ()) else some (.inl ()))))) ()) (uc (fun (s1:Unit)=>some false) (fun (y1:Unit)=>some true)))
noncomputable def zme (c:ay) (s:ak) (zw:Int):aB Bool:=
 .aC 1 (.ln 2906 aj.row s.aI (.use 2 2906 (.aH (σ:=Unit) (ρ:=Unit) 2892 12 (s.aI.length:Int) () (.e [2,3,10,11] (fun _=>[]) [0] 7) (fun i1 s1=>.sel 2892 (.aC 0 (.ix 2900 aj.row s.aI (i1:Int) fun e1=>.use 1 2900 (.cut (β:=Bool) 1 (.e [2,3,10,11,12] (fun v1=>[(33,vB v1)]) [0,11] 31) (.aC 0 (.ix 2902 aS.row c.aA (i1:Int) fun e2=>.ite 2894 e2.final (.ite 2896 (e1.aN == 4) (.us [(3,2902),(7,2894),(12,2896)] (.ret (e1.bw == zw))) (.us [(3,2902),(7,2894),(12,2896)] (.ret false))) (.us [(3,2902),(7,2894)] (.f1 2904 (.g false) (rfl:false=false) (.use 12 2904 (.ret false)))))) fun v1=>.ite 2898 v1 (.sel 2898 (.ret (.inr ()))) (.sel 2898 (.ret (.inl ()))))))) fun os1=>.case os1 (fun s1=>.sel 2892 (.ret false)) fun y1=>.ret true)))
theorem zmf (c:ay) (s:ak) (zw:Int) (res:Bool) (hd:Yq c s zw=some res):aL C0 140 [.agg (ay.row c),.agg (ak.row s),.int .i64 zw] (.bool res):=
 aB.pure (iv:=fun res=>.bool res) (zme c s zw) (by kernel_rfl) (aB.aD hd (by kernel_rfl))
noncomputable def ZK (p1:Int) (p2:List Int) (p3:Int):Option (List Int):=
 (ua (qk (α:=Int) 8 p2 [p1]) fun e1=>some e1)
noncomputable def zmg (p1:Int) (p2:List Int) (p3:Int):aB (List Int):=
 .aC 0 (.b1 2916 (qk (α:=Int) 8 p2 [p1]) (fun e1=>.a (ub zb e1) e1.length) (fun e1 dU=>(qH zb 1 8 (fun _=>rfl) dU)) fun e1=>.use 7 2916 (.ret e1))
theorem Iy (p1:Int) (p2:List Int) (p3:Int) (res:(List Int)) (hd:ZK p1 p2 p3=some res):cV C0 136 [.ptr 0 0 0,vI p1] [(0,.af 2 [[.aU 1 (ub zb p2),vI p3]]),(1,.aV 1 p2.length)] 2 (.tuple []) [(0,.af 2 [[.aU 1 (ub zb res),vI p3]]),(1,.aV 1 res.length)] 0:=
 aB.dn (R:=fun res=>.tuple []) (H:=fun res=>[(0,.af 2 [[.aU 1 (ub zb res),vI p3]]),(1,.aV 1 res.length)]) (zmg p1 p2 p3) (.exp rfl rfl (.exp rfl rfl .nil)) (fun _=>(.exp rfl rfl (.exp rfl rfl .nil))) (by kernel_rfl) (fun _=>by kernel_rfl) (by kernel_rfl) (aB.aD hd (by kernel_rfl))
noncomputable def ZL (p1:Int) (p2:Int) (p3:List Int) (p4:Nat) (p5:List Int) (p6:Int):Option ((List Int)×(List Int)):=
 (ua (zl p4 p1) fun k1=>(ua (p3[k1]?) fun e1=>(ua (ZK p1 p5 p6) fun r1=>some (r1,(p3.set k1 p2)))))
noncomputable def zmh (p1:Int) (p2:Int) (p3:List Int) (p4:Nat) (p5:List Int) (p6:Int):aB ((List Int)×(List Int)):=
 .aC 0 (.b1 2938 (zl p4 p1) (fun k1=>.k k1) (fun k1 hk1=>(zn hk1)) fun k1=>.b1 2940 (p3[k1]?) (fun e1=>.aw (zj (zb e1)) (zc zb (p3.set k1 p2))) (fun e1 dU=>(zH zb p2 dU)) fun e1=>.us [(3,2938),(4,2940)] (.aC 0 (.b1 2942 (ZK p1 p5 p6) (fun r1=>.c [1,3] 2 (.tuple []) [(1,.af 2 [[.aU 3 (ub zb r1),vI p6]]),(3,.aV 1 r1.length)] 0) (fun r1 ct=>(ze (Iy p1 p5 p6 r1 ct) [1,3] 10 (.keep (.keep .nil)) (bt (bt bg)) (bt (bt bg)))) fun r1=>.use 1 2942 (.ret (r1,(p3.set k1 p2))))))
theorem Iz (p1:Int) (p2:Int) (p3:List Int) (p4:Nat) (p5:List Int) (p6:Int) (res:(List Int)×(List Int)) (hd:ZL p1 p2 p3 p4 p5 p6=some res):cV C0 134 [vI p1,vI p2,.ptr 0 0 0,.ptr 1 0 0] [(0,.af 1 [[.Zak 2 0 p4]]),(1,.af 2 [[.aU 3 (ub zb p5),vI p6]]),(2,.af 1 (zc zb p3)),(3,.aV 1 p5.length)] 4 (.tuple []) [(0,.af 1 [[.Zak 2 0 p4]]),(1,.af 2 [[.aU 3 (ub zb res.1),vI p6]]),(2,.af 1 (zc zb res.2)),(3,.aV 1 res.1.length)] 0:=
 aB.dn (R:=fun res=>.tuple []) (H:=fun res=>[(0,.af 1 [[.Zak 2 0 p4]]),(1,.af 2 [[.aU 3 (ub zb res.1),vI p6]]),(2,.af 1 (zc zb res.2)),(3,.aV 1 res.1.length)]) (zmh p1 p2 p3 p4 p5 p6) (.exp rfl rfl (.exp rfl rfl (.af rfl (.exp rfl rfl .nil)))) (fun _=>(.exp rfl rfl (.exp rfl rfl (.af rfl (.exp rfl rfl .nil))))) (by kernel_rfl) (fun _=>by kernel_rfl) (by kernel_rfl) (aB.aD hd (by kernel_rfl))
noncomputable def kI (p1:List Int) (p2:Int):Option (Int×Bool×Int):=
 (bif (p2 == (p1.length:Int)) then some (0,false,p2) else (ua (zf p1 (IntKind.i64.wrap ((IntKind.i64.wrap (p2+1)) - 1))) fun e1=>some (e1,true,(IntKind.i64.wrap (p2+1)))))
noncomputable def zmi (p1:List Int) (p2:Int):aB (Int×Bool×Int):=
 .aC 1 (.ln 2954 zb p1 (.use 8 2954 (.ite 2950 (p2 == (p1.length:Int)) (.sel 2950 (.ret (0,false,p2))) (.sel 2950 (.aC 1 (.ix 2952 zb p1 (IntKind.i64.wrap ((IntKind.i64.wrap (p2+1)) - 1)) fun e1=>.use 9 2952 (.ret (e1,true,(IntKind.i64.wrap (p2+1))))))))))
theorem IA (p1:List Int) (p2:Int) (res:Int×Bool×Int) (hd:kI p1 p2=some res):cV C0 137 [.ptr 0 0 0] [(0,.af 2 [[.aU 1 (ub zb p1),vI p2]]),(1,.aV 1 p1.length)] 2 (.tuple [vI res.1,vB res.2.1]) [(0,.af 2 [[.aU 1 (ub zb p1),vI res.2.2]]),(1,.aV 1 p1.length)] 0:=
 aB.dn (R:=fun res=>.tuple [vI res.1,vB res.2.1]) (H:=fun res=>[(0,.af 2 [[.aU 1 (ub zb p1),vI res.2.2]]),(1,.aV 1 p1.length)]) (zmi p1 p2) (.exp rfl rfl (.exp rfl rfl .nil)) (fun _=>(.exp rfl rfl (.exp rfl rfl .nil))) (by kernel_rfl) (fun _=>by kernel_rfl) (by kernel_rfl) (aB.aD hd (by kernel_rfl))
noncomputable def XB (p1:Int) (p2:Int) (p3:List Int) (p4:Nat) (p5:List Int) (p6:Nat) (p7:cx) (p8:List Int) (p9:Int):Option ((List Int)×(List Int)×(List Int)):=
 (ua (zl p4 p1) fun k1=>(ua (p3[k1]?) fun e1=>(ua (ua (zl p6 p1) fun k2=>(ua (p5[k2]?) fun e2=>(bif (e2 == (-1)) then (ua (zf p7.aW p1) fun e3=>(bif e3.own then (ua (zl p4 p1) fun k3=>(ua ((p3.set k1 (IntKind.i64.wrap (e1 - 1)))[k3]?) fun e4=>some (e4 == 0))) else some true)) else some false))) fun v1=>(bif v1 then (ua (zl p6 p2) fun k4=>(ua (p5[k4]?) fun e5=>(ua (ZL p1 (IntKind.i64.wrap (e5+1)) p5 p6 p8 p9) fun r1=>some ((p3.set k1 (IntKind.i64.wrap (e1 - 1))),r1.2,r1.1)))) else some ((p3.set k1 (IntKind.i64.wrap (e1 - 1))),p5,p8)))))
noncomputable def zmj (p1:Int) (p2:Int) (p3:List Int) (p4:Nat) (p5:List Int) (p6:Nat) (p7:cx) (p8:List Int) (p9:Int):aB ((List Int)×(List Int)×(List Int)):=
 .aC 0 (.b1 2968 (zl p4 p1) (fun k1=>.k k1) (fun k1 hk1=>(zn hk1)) fun k1=>.bind (p3[k1]?) (fun e1=>[(2970,([.ar (zj (zb e1))],_)),(2972,([.aw (zj (zb e1)) (zc zb (p3.set k1 (IntKind.i64.wrap (e1 - 1))))],_))]) (fun e1 dU=>(.c1 (zJ zb dU) (.c1 (zH zb (IntKind.i64.wrap (e1 - 1)) dU) .nil))) fun e1=>.us [(2,2968),(3,2970),(5,2968),(6,2972)] (.cut (β:=Bool) 1 (.k [0,1,3,5] (fun v1=>[(34,vB v1)]) [0,1,2,3,6,7] (fun _=>[(4,.af 1 (zc zb (p3.set k1 (IntKind.i64.wrap (e1 - 1))))),(5,.af 1 (zc zb p5))]) 36 fun _=>(.af rfl (.af rfl .nil))) (.aC 0 (.b1 2974 (zl p6 p1) (fun k2=>.k k2) (fun k2 hk2=>(zn hk2)) fun k2=>.b1 2976 (p5[k2]?) (fun e2=>.ar (zj (zb e2))) (fun e2 eA=>(zJ zb eA)) fun e2=>.ite 2962 (e2 == (-1)) (.ix 2978 aK.row p7.aW p1 fun e3=>.ite 2964 e3.own (.b1 2980 (zl p4 p1) (fun k3=>.k k3) (fun k3 gA=>(zn gA)) fun k3=>.b1 2982 ((p3.set k1 (IntKind.i64.wrap (e1 - 1)))[k3]?) (fun e4=>.ar (zj (zb e4))) (fun e4 iB=>(zJ zb iB)) fun e4=>.us [(2,2974),(3,2976),(6,2962),(9,2978),(14,2965),(16,2980),(17,2982)] (.ret (e4 == 0))) (.us [(2,2974),(3,2976),(6,2962),(9,2978),(14,2965)] (.ret true))) (.us [(2,2974),(3,2976),(6,2962)] (.ret false)))) fun v1=>.ite 2966 v1 (.sel 2966 (.aC 0 (.b1 2984 (zl p6 p2) (fun k4=>.k k4) (fun k4 gR=>(zn gR)) fun k4=>.b1 2986 (p5[k4]?) (fun e5=>.ar (zj (zb e5))) (fun e5 l5=>(zJ zb l5)) fun e5=>.b1 2988 (ZL p1 (IntKind.i64.wrap (e5+1)) p5 p6 p8 p9) (fun r1=>.c [1,6,5,7] 4 (.tuple []) [(6,.af 2 [[.aU 7 (ub zb r1.1),vI p9]]),(5,.af 1 (zc zb r1.2)),(7,.aV 1 r1.1.length)] 0) (fun r1 ct=>(ze (Iz p1 (IntKind.i64.wrap (e5+1)) p5 p6 p8 p9 r1 ct) [1,6,5,7] 44 (.drop rfl rfl (.keep (.keep (.keep .nil)))) (bt (bt (bA (bt bg)))) (bt (bA (bt bg))))) fun r1=>.us [(4,2984),(5,2986),(7,2988)] (.ret ((p3.set k1 (IntKind.i64.wrap (e1 - 1))),r1.2,r1.1))))) (.sel 2966 (.ret ((p3.set k1 (IntKind.i64.wrap (e1 - 1))),p5,p8)))))
theorem zmk (p1:Int) (p2:Int) (p3:List Int) (p4:Nat) (p5:List Int) (p6:Nat) (p7:cx) (p8:List Int) (p9:Int) (res:(List Int)×(List Int)×(List Int)) (hd:XB p1 p2 p3 p4 p5 p6 p7 p8 p9=some res):cV C0 135 [vI p1,vI p2,.ptr 0 0 0,.ptr 1 0 0,.ptr 2 0 0,.ptr 3 0 0] [(0,.af 1 [[.Zak 4 0 p4]]),(1,.af 1 [[.Zak 5 0 p6]]),(2,.af 3 [zj (cx.row p7)]),(3,.af 1 [[.func 134 [] [.ptr 1 0 0,.ptr 6 0 0]]]),(4,.af 1 (zc zb p3)),(5,.af 1 (zc zb p5)),(6,.af 2 [[.aU 7 (ub zb p8),vI p9]]),(7,.aV 1 p8.length)] 8 (.tuple []) [(0,.af 1 [[.Zak 4 0 p4]]),(1,.af 1 [[.Zak 5 0 p6]]),(2,.af 3 [zj (cx.row p7)]),(3,.af 1 [[.func 134 [] [.ptr 1 0 0,.ptr 6 0 0]]]),(4,.af 1 (zc zb res.1)),(5,.af 1 (zc zb res.2.1)),(6,.af 2 [[.aU 7 (ub zb res.2.2),vI p9]]),(7,.aV 1 res.2.2.length)] 0:=
 aB.dn (R:=fun res=>.tuple []) (H:=fun res=>[(0,.af 1 [[.Zak 4 0 p4]]),(1,.af 1 [[.Zak 5 0 p6]]),(2,.af 3 [zj (cx.row p7)]),(3,.af 1 [[.func 134 [] [.ptr 1 0 0,.ptr 6 0 0]]]),(4,.af 1 (zc zb res.1)),(5,.af 1 (zc zb res.2.1)),(6,.af 2 [[.aU 7 (ub zb res.2.2),vI p9]]),(7,.aV 1 res.2.2.length)]) (zmj p1 p2 p3 p4 p5 p6 p7 p8 p9) (.exp rfl rfl (.exp rfl rfl (.exp rfl rfl (.exp rfl rfl (.af rfl (.af rfl (.exp rfl rfl (.exp rfl rfl .nil)))))))) (fun _=>(.exp rfl rfl (.exp rfl rfl (.exp rfl rfl (.exp rfl rfl (.af rfl (.af rfl (.exp rfl rfl (.exp rfl rfl .nil))))))))) (by kernel_rfl) (fun _=>by kernel_rfl) (by kernel_rfl) (aB.aD hd (by kernel_rfl))
noncomputable def Wg (c:ay) (a:cx):Option (List Int):=
 (ua (yc c a) fun r1=>(bif r1 then (ua (eD 8 (a.aW.length:Int)) fun k1=>(ua (eD 8 (a.aW.length:Int)) fun k2=>(ua (eD 24 (a.aW.length:Int)) fun k3=>(ua (aH (σ:=(List Int)×(List Int)×(List (List Int))×(List Int)) (ρ:=Unit) (a.aW.length:Int) (fun i1 s1=>(ua (ua (zf a.aW (i1:Int)) fun e1=>(ua (zf a.bK (i1:Int)) fun e2=>(ua (zl k1 (i1:Int)) fun k4=>(ua (s1.1[k4]?) fun e3=>(ua (zl k2 (i1:Int)) fun k5=>(ua (s1.2.1[k5]?) fun e4=>(ua (zf a.bK (i1:Int)) fun e5=>(ua (aH (σ:=(List (List Int))) (ρ:=Unit) (e5.length:Int) (fun i2 s2=>(ua (zf e5 (i2:Int)) fun e6=>(ua (yv s2 k3 e6.to (i1:Int)) fun v1=>some (.inl v1)))) s1.2.2.1) (uc (fun (s2:(List (List Int)))=>(ua (Yq c e1.state a.zw) fun r2=>(bif r2 then (ua (zl k1 (i1:Int)) fun k6=>(ua ((s1.1.set k4 (-1))[k6]?) fun e7=>(ua (ZK (i1:Int) s1.2.2.2 0) fun r3=>some (((s1.1.set k4 (-1)).set k6 0),(s1.2.1.set k5 (e2.length:Int)),s2,r3)))) else some ((s1.1.set k4 (-1)),(s1.2.1.set k5 (e2.length:Int)),s2,s1.2.2.2)))) (fun _=>none)))))))))) fun (v2:(List Int)×(List Int)×(List (List Int))×(List Int))=>some (.inl (v2.1,v2.2.1,v2.2.2.1,v2.2.2.2)))) ((ud k1 0),(ud k2 0),(ud k3 []),[])) (uc (fun (s1:(List Int)×(List Int)×(List (List Int))×(List Int))=>(ua (aH (σ:=(List Int)×(List Int)) (ρ:=Unit) (a.aW.length:Int) (fun i3 s3=>(ua (ua (zf a.aW (i3:Int)) fun e8=>(ua (bif e8.own then (ua (zl k2 (i3:Int)) fun k7=>(ua (s1.2.1[k7]?) fun e9=>(bif (e9 == 0) then (ua (zl k1 (i3:Int)) fun k8=>(ua (s3.1[k8]?) fun ew=>some (ew == (-1)))) else some false))) else some false) fun v3=>(bif v3 then (ua (ZL (i3:Int) 1 s3.1 k1 s3.2 0) fun r4=>some (r4.2,r4.1)) else some (s3.1,s3.2)))) fun (v4:(List Int)×(List Int))=>some (.inl (v4.1,v4.2)))) (s1.1,s1.2.2.2)) (uc (fun (s3:(List Int)×(List Int))=>(ua (ua (kI s3.2 0) fun r5=>(ua (iter (σ:=Int×Bool×(List Int)×(List Int)×(List Int)×Int) (ρ:=(List Int)) (fun s4=>(bif s4.2.1 then (ua (zl k3 s4.1) fun k9=>(ua (s1.2.2.1[k9]?) fun nA=>(ua (aH (σ:=(List Int)×(List Int)×(List Int)) (ρ:=Unit) (nA.length:Int) (fun i5 s5=>(ua (zf nA (i5:Int)) fun Cu=>(ua (XB Cu s4.1 s5.2.1 k2 s5.1 k1 a s5.2.2 s4.2.2.2.2.2) fun r6=>some (.inl (r6.2.1,r6.1,r6.2.2))))) (s4.2.2.1,s4.2.2.2.1,s4.2.2.2.2.1)) (uc (fun (s5:(List Int)×(List Int)×(List Int))=>(ua (kI s5.2.2 s4.2.2.2.2.2) fun r7=>some (.inl (r7.1,r7.2.1,s5.1,s5.2.1,s5.2.2,r7.2.2)))) (fun _=>none))))) else some (.inr s4.2.2.1))) (r5.1,r5.2.1,s3.1,s1.2.1,s3.2,r5.2.2)) (fun (y1:(List Int))=>some y1))) fun (v5:(List Int))=>(ua (dQ k1 v5.length) fun g1=>some v5))) (fun _=>none)))) (fun _=>none)))))) else some []))
noncomputable def zko (c:ay) (a:cx):aB (List Int):=
 .aC 1 (.call 2994 (zcD c a) fun r1=>.use 2 2994 (.ite 2886 r1 (.sel 2887 (.aC 0 (.ln 3062 aK.row a.aW (.use 2 3062 (.aC 0 (.b1 2996 (eD 8 (a.aW.length:Int)) (fun k1=>.m k1 (zc zb (ud k1 0))) (fun k1 hk1=>(xa zb 0 hk1)) fun k1=>.use 1 2996 (.aC 0 (.b1 2998 (eD 8 (a.aW.length:Int)) (fun k2=>.m k2 (zc zb (ud k2 0))) (fun k2 hk2=>(xa zb 0 hk2)) fun k2=>.use 1 2998 (.aC 0 (.b1 3000 (eD 24 (a.aW.length:Int)) (fun k3=>.m k3 (ud k3 [.nil])) (fun k3 gA=>(KS [.nil] gA)) fun k3=>.use 1 3000 (.cA 0 [PM 20 k3] (.aC 1 (.ln 3060 aK.row a.aW (.use 2 3060 (.cA 1 [Jw 2000000 1 0 0] (.aH (σ:=(List Int)×(List Int)×(List (List Int))×(List Int)) (ρ:=Unit) 2888 38 (a.aW.length:Int) ((ud k1 0),(ud k2 0),(ud k3 []),[]) (⟨[2,3,6,7,8,9,36,37],fun _=>[],[0,1,13,17],fun s1=>[(12,.af 1 (zc zb s1.1)),(16,.af 1 (zc zb s1.2.1)),(20,.af 1 (qq zC s1.2.2.1)),(2000000,.af 2 [[.aU 2000005 (ub zb s1.2.2.2),vI 0]]),(2000005,.aV 1 s1.2.2.2.length)],2000006,fun _=>(.af rfl (.af rfl (.nest rfl rfl (.exp rfl rfl (.exp rfl rfl .nil))))),fun s1=>some s1.2.2.1⟩) (fun i1 s1=>.sel 2888 (.cut (β:=(List Int)×(List Int)×(List (List Int))×(List Int)) 1 (⟨[2,3,6,7,8,9,36,37,38],fun _=>[],[0,1,13,17],fun v2=>[(12,.af 1 (zc zb v2.1)),(16,.af 1 (zc zb v2.2.1)),(20,.af 1 (qq zC v2.2.2.1)),(2000000,.af 2 [[.aU 2000005 (ub zb v2.2.2.2),vI 0]]),(2000005,.aV 1 v2.2.2.2.length)],2000041,fun _=>(.af rfl (.af rfl (.nest rfl rfl (.exp rfl rfl (.exp rfl rfl .nil))))),fun v2=>some v2.2.2.1⟩) (.aC 0 (.ix 3002 aK.row a.aW (i1:Int) fun e1=>.use 1 3002 (.aC 0 (.ix 3004 (zM bC.row) a.bK (i1:Int) fun e2=>.b1 3006 (zl k1 (i1:Int)) (fun k4=>.k k4) (fun k4 gR=>(zn gR)) fun k4=>.b1 3008 (s1.1[k4]?) (fun e3=>.aw (zj (zb e3)) (zc zb (s1.1.set k4 (-1)))) (fun e3 gU=>(zH zb (-1) gU)) fun e3=>.b1 3010 (zl k2 (i1:Int)) (fun k5=>.k k5) (fun k5 A8=>(zn A8)) fun k5=>.b1 3012 (s1.2.1[k5]?) (fun e4=>.aw (zj (zb e4)) (zc zb (s1.2.1.set k5 (e2.length:Int)))) (fun e4 iB=>(zH zb (e2.length:Int) iB)) fun e4=>.use 7 3004 (.ln 3028 bC.row e2 (.us [(9,3028),(10,3006),(11,3008),(12,3010),(13,3012)] (.aC 0 (.ix 3014 (zM bC.row) a.bK (i1:Int) fun e5=>.use 3 3014 (.ln 3026 bC.row e5 (.use 5 3026 (.aH (σ:=(List (List Int))) (ρ:=Unit) 2926 61 (e5.length:Int) s1.2.2.1 (⟨[2,3,6,7,8,9,36,37,38,11,10,59,60],fun _=>[],[0,1,13,17,2000000,2000005,2000010],fun s2=>[(12,.af 1 (zc zb (s1.1.set k4 (-1)))),(16,.af 1 (zc zb (s1.2.1.set k5 (e2.length:Int)))),(20,.af 1 (qq zC s2))],2000034,fun _=>(.af rfl (.af rfl (.nest rfl rfl .nil))),fun s2=>some s2⟩) (fun i2 s2=>.sel 2926 (.aC 0 (.ix 3016 bC.row e5 (i2:Int) fun e6=>.use 0 3016 (.tM 0 (PU 20 k3 2000037 (i1:Int) e6.to (vI e6.step) s2) fun v1=>.ret (.inl v1))))) fun os2=>.case os2 (fun s2=>.sel 2926 (.aC 0 (.call 3018 (zmf c e1.state a.zw) fun r2=>.use 5 3018 (.ite 2928 r2 (.sel 2928 (.aC 0 (.b1 3020 (zl k1 (i1:Int)) (fun k6=>.k k6) (fun k6 AT=>(zn AT)) fun k6=>.b1 3022 ((s1.1.set k4 (-1))[k6]?) (fun e7=>.aw (zj (zb e7)) (zc zb ((s1.1.set k4 (-1)).set k6 0))) (fun e7 sS=>(zH zb 0 sS)) fun e7=>.us [(2,3020),(3,3022)] (.aC 0 (.b1 3024 (ZK (i1:Int) s1.2.2.2 0) (fun r3=>.c [2000000,2000005] 2 (.tuple []) [(2000000,.af 2 [[.aU 2000005 (ub zb r3),vI 0]]),(2000005,.aV 1 r3.length)] 0) (fun r3 dJ=>(ze (Iy (i1:Int) s1.2.2.2 0 r3 dJ) [2000000,2000005] 2000046 (.keep (.keep .nil)) (bt (bt bg)) (bt (bt bg)))) fun r3=>.use 1 3024 (.ret (((s1.1.set k4 (-1)).set k6 0),(s1.2.1.set k5 (e2.length:Int)),s2,r3))))))) (.sel 2928 (.ret ((s1.1.set k4 (-1)),(s1.2.1.set k5 (e2.length:Int)),s2,s1.2.2.2))))))) fun _=>.none))))))))))) fun v2=>.ret (.inl (v2.1,v2.2.1,v2.2.2.1,v2.2.2.2)))) fun os1=>.case os1 (fun s1=>.sel 2888 (.aC 1 (.ln 3058 aK.row a.aW (.use 2 3058 (.cA 1 [PK 20 1 (qq zC s1.2.2.1) (zc (zM zb) s1.2.2.1) (GY s1.2.2.1 zC)] (.aH (σ:=(List Int)×(List Int)) (ρ:=Unit) 2930 94 (a.aW.length:Int) (s1.1,s1.2.2.2) (.k [3,6,7,8,9,14,92,93] (fun _=>[]) [1,13,17,2000008] (fun s3=>[(12,.af 1 (zc zb s3.1)),(16,.af 1 (zc zb s1.2.1)),(20,.af 1 (zc (zM zb) s1.2.2.1)),(2000000,.af 2 [[.aU 2000005 (ub zb s3.2),vI 0]]),(2000005,.aV 1 s3.2.length)]) 2000014 fun _=>(.af rfl (.af rfl (.af rfl (.exp rfl rfl (.exp rfl rfl .nil)))))) (fun i3 s3=>.sel 2930 (.cut (β:=(List Int)×(List Int)) 1 (.k [3,6,7,8,9,14,92,93,94] (fun _=>[]) [1,13,17,2000008] (fun v4=>[(12,.af 1 (zc zb v4.1)),(16,.af 1 (zc zb s1.2.1)),(20,.af 1 (zc (zM zb) s1.2.2.1)),(2000000,.af 2 [[.aU 2000005 (ub zb v4.2),vI 0]]),(2000005,.aV 1 v4.2.length)]) 2000037 fun _=>(.af rfl (.af rfl (.af rfl (.exp rfl rfl (.exp rfl rfl .nil)))))) (.aC 0 (.ix 3030 aK.row a.aW (i3:Int) fun e8=>.use 1 3030 (.cut (β:=Bool) 1 (.k [3,6,7,8,9,14,92,93,94,15] (fun v3=>[(114,vB v3)]) [1,13,17,2000000,2000005,2000008,2000018] (fun _=>[(12,.af 1 (zc zb s3.1)),(16,.af 1 (zc zb s1.2.1)),(20,.af 1 (zc (zM zb) s1.2.2.1))]) 2000037 fun _=>(.af rfl (.af rfl (.af rfl .nil)))) (.aC 0 (.ite 2944 e8.own (.b1 3032 (zl k2 (i3:Int)) (fun k7=>.k k7) (fun k7 hk7=>(zn hk7)) fun k7=>.b1 3034 (s1.2.1[k7]?) (fun e9=>.ar (zj (zb e9))) (fun e9 Bb=>(zJ zb Bb)) fun e9=>.ite 2946 (e9 == 0) (.b1 3036 (zl k1 (i3:Int)) (fun k8=>.k k8) (fun k8 hk8=>(zn hk8)) fun k8=>.b1 3038 (s3.1[k8]?) (fun ew=>.ar (zj (zb ew))) (fun ew mQ=>(zJ zb mQ)) fun ew=>.us [(3,2944),(5,3032),(6,3034),(10,2946),(12,3036),(13,3038)] (.ret (ew == (-1)))) (.us [(3,2944),(5,3032),(6,3034),(10,2946)] (.ret false))) (.use 3 2944 (.f1 3040 (.g false) (rfl:false=false) (.use 10 3040 (.ret false)))))) fun v3=>.ite 2948 v3 (.sel 2948 (.aC 0 (.b1 3042 (ZL (i3:Int) 1 s3.1 k1 s3.2 0) (fun r4=>.c [13,2000000,12,2000005] 4 (.tuple []) [(2000000,.af 2 [[.aU 2000005 (ub zb r4.1),vI 0]]),(12,.af 1 (zc zb r4.2)),(2000005,.aV 1 r4.1.length)] 0) (fun r4 l6=>(ze (Iz (i3:Int) 1 s3.1 k1 s3.2 0 r4 l6) [13,2000000,12,2000005] 2000039 (.drop rfl rfl (.keep (.keep (.keep .nil)))) (bt (bt (bA (bt bg)))) (bt (bA (bt bg))))) fun r4=>.use 2 3042 (.ret (r4.2,r4.1))))) (.sel 2948 (.ret (s3.1,s3.2)))))) fun v4=>.ret (.inl (v4.1,v4.2)))) fun os3=>.case os3 (fun s3=>.sel 2930 (.cut (β:=(List Int)) 2 (.k [6] (fun _=>[]) [13] (fun v5=>[(12,.af 1 (zc zb v5))]) 2000023 fun _=>(.af rfl .nil)) (.aC 0 (.b1 3044 (kI s3.2 0) (fun r5=>.c [2000000,2000005] 2 (.tuple [vI r5.1,vB r5.2.1]) [(2000000,.af 2 [[.aU 2000005 (ub zb s3.2),vI r5.2.2]])] 0) (fun r5 A7=>(ze (IA s3.2 0 r5 A7) [2000000,2000005] 2000017 (.keep (.drop rfl rfl .nil)) (bt (bt bg)) (bt bg))) fun r5=>.use 0 3044 (.iter (σ:=Int×Bool×(List Int)×(List Int)×(List Int)×Int) (ρ:=(List Int)) (r5.1,r5.2.1,s3.1,s1.2.1,s3.2,r5.2.2) (.k [6,8,9,17] (fun s4=>[(18,vI s4.1),(19,vB s4.2.1)]) [1,13,17,2000008] (fun s4=>[(12,.af 1 (zc zb s4.2.2.1)),(16,.af 1 (zc zb s4.2.2.2.1)),(20,.af 1 (zc (zM zb) s1.2.2.1)),(2000000,.af 2 [[.aU 2000005 (ub zb s4.2.2.2.2.1),vI s4.2.2.2.2.2]]),(2000005,.aV 1 s4.2.2.2.2.1.length)]) 2000023 fun _=>(.af rfl (.af rfl (.af rfl (.exp rfl rfl (.exp rfl rfl .nil)))))) (fun s4=>.ite 2990 s4.2.1 (.sel 2990 (.aC 0 (.b1 3046 (zl k3 s4.1) (fun k9=>.k k9) (fun k9 hk9=>(zn hk9)) fun k9=>.b1 3048 (s1.2.2.1[k9]?) (fun nA=>.ar (zj (zM zb nA))) (fun nA sV=>(zJ (zM zb) sV)) fun nA=>.us [(2,3046),(3,3048)] (.ln 3056 zb nA (.use 4 3056 (.aH (σ:=(List Int)×(List Int)×(List Int)) (ρ:=Unit) 2992 134 (nA.length:Int) (s4.2.2.1,s4.2.2.2.1,s4.2.2.2.2.1) (.k [6,8,9,17,18,132,133] (fun _=>[]) [1,13,17,2000008] (fun s5=>[(12,.af 1 (zc zb s5.1)),(16,.af 1 (zc zb s5.2.1)),(20,.af 1 (zc (zM zb) s1.2.2.1)),(2000000,.af 2 [[.aU 2000005 (ub zb s5.2.2),vI s4.2.2.2.2.2]]),(2000005,.aV 1 s5.2.2.length)]) 2000030 fun _=>(.af rfl (.af rfl (.af rfl (.exp rfl rfl (.exp rfl rfl .nil)))))) (fun i5 s5=>.sel 2992 (.aC 0 (.ix 3050 zb nA (i5:Int) fun Cu=>.use 0 3050 (.aC 0 (.b1 3052 (XB Cu s4.1 s5.2.1 k2 s5.1 k1 a s5.2.2 s4.2.2.2.2.2) (fun r6=>.c [17,13,1,2000008,16,12,2000000,2000005] 8 (.tuple []) [(16,.af 1 (zc zb r6.1)),(12,.af 1 (zc zb r6.2.1)),(2000000,.af 2 [[.aU 2000005 (ub zb r6.2.2),vI s4.2.2.2.2.2]]),(2000005,.aV 1 r6.2.2.length)] 0) (fun r6 nM=>(ze (zmk Cu s4.1 s5.2.1 k2 s5.1 k1 a s5.2.2 s4.2.2.2.2.2 r6 nM) [17,13,1,2000008,16,12,2000000,2000005] 2000037 (.drop rfl rfl (.drop rfl rfl (.drop rfl rfl (.drop rfl rfl (.keep (.keep (.keep (.keep .nil)))))))) (bt (bt (bt (bt (bA (bA (bt (bt bg)))))))) (bA (bA (bt (bt bg)))))) fun r6=>.use 3 3052 (.ret (.inl (r6.2.1,r6.1,r6.2.2)))))))) fun os5=>.case os5 (fun s5=>.sel 2992 (.aC 0 (.b1 3054 (kI s5.2.2 s4.2.2.2.2.2) (fun r7=>.c [2000000,2000005] 2 (.tuple [vI r7.1,vB r7.2.1]) [(2000000,.af 2 [[.aU 2000005 (ub zb s5.2.2),vI r7.2.2]])] 0) (fun r7 oM=>(ze (IA s5.2.2 s4.2.2.2.2.2 r7 oM) [2000000,2000005] 2000031 (.keep (.drop rfl rfl .nil)) (bt (bt bg)) (bt bg))) fun r7=>.use 0 3054 (.ret (.inl (r7.1,r7.2.1,s5.1,s5.2.1,s5.2.2,r7.2.2)))))) fun _=>.none)))))) (.sel 2990 (.ret (.inr s4.2.2.1)))) fun y1=>.ret y1))) fun v5=>.bind (dQ k1 v5.length) (fun _=>[]) (fun _ _=>.nil) fun g2=>.fin [12] (.Zak 12 0 k1) [(12,.af 1 (zc zb v5))] (.slice (ub zb v5)) (xp _ _ _ (zB (xE zb 12 1 k1 v5 g2.down rfl) jb)) v5)) fun _=>.none)))))) fun _=>.none)))))))))))))))) (.sel 2887 (.ret []))))
theorem zkp (c:ay) (a:cx) (res:List Int) (hd:Wg c a=some res):aL C0 133 [.agg (ay.row c),.agg (cx.row a)] (.slice (ub zb res)):=
 aB.pure (iv:=fun res=>.slice (ub zb res)) (zko c a) (by kernel_rfl) (aB.aD hd (by kernel_rfl))
end Go.Proofs.YtgpojcfkanjabaaGreatDoor
