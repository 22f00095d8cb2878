/-
  region.Ranks: what it returns for an arena is the number of moves in which a breach can be forced.
  region.Ranks: the queue.
  region.Ranks: all of it.
  A clause that has ended stays as it is; a breach stays a breach.
  RegionBreach: a breach is never left.
  What can be forced from a position, told without an arena.
  region.Safe and strategy's functions, told by positions.
  strategy.Advise: what it returns.
  Traces; what one step does when a party follows the advice.
  StrategyKeeps: the advice keeps the party safe.
  strategy.Follow: what it returns.
  trap.edges and trap.way: the shortest way to a state.
  trap's questions about clauses: dead, unused, opposed, clash.
  trap.clashes: what it returns.
  RegionForced: where there is a rank, the others can force a breach in as many moves.
  trap.play: the steps by which the others force a party into breach.
  trap.Find: what it returns.
-/
import Derived.Test.YtlpmnmbebkdocaaGreatDoorTA07
import Derived.Test.YtlpmnmbebkdocaaGreatDoorTA12
namespace Go.Proofs.YtlpmnmbebkdocaaGreatDoor
open Go.RowKit
set_option linter.unusedSimpArgs false
set_option linter.unusedVariables false
set_option maxRecDepth 100000
section
def at_ (l:List Int) (i:Nat):Int:=l[i]?.getD 0
theorem xE {l:List Int} {i:Nat} (h:i < l.length):l[i]?=some (at_ l i):=by unfold at_;rw [List.getElem?_eq_getElem h];rfl
theorem kH {l:List Int} {i:Nat} (h:i < l.length) (x:Int):at_ (l.set i x)=upd (at_ l) i x:=by
  funext j
  unfold at_ upd
  by_cases e:j=i
  · subst e;rw [if_pos rfl,List.getElem?_set_self h];rfl
  · rw [if_neg e,List.getElem?_set_ne (Ne.symm e)]
def cst (l:List Nat):List Int:=l.map fun x:Nat=>(x:Int)
theorem kb (l:List Nat):(cst l).length=l.length:=List.length_map _
theorem J8 (l m:List Nat):cst (l++m)=cst l++cst m:=List.map_append
def zdc (c:Zab) (zw:Int) (Zal:List Zaa) (i:Nat):Bool:=match c.Zag[i]?,Zal[i]? with
  | some k,some m=>k.final&&((m.Zan == 4)&&(m.Zav == zw))
  | _,_=>false
def qF (c:Zab) (s:Zad) (zw:Int):Bool := !((List.range s.Zal.length).all fun i=>!zdc c zw s.Zal i)
theorem YO (c:Zab) (s:Zad) (zw:Int) (hl:s.Zal.length=c.Zag.length) (hs:s.Zal.length < 4611686018427387904) :
    (forR (σ:=Unit) (ρ:=Unit) (s.Zal.length:Int) (fun i1 s1=>(Option.bind (ze s.Zal (i1:Int)) fun e1=>(Option.bind (Option.bind (ze c.Zag (i1:Int)) fun e2=>(bif e2.final then (bif (e1.Zan == 4) then some (e1.Zav == zw) else some false) else some false)) fun v1=>(bif v1 then some (.inr ()) else some (.inl ()))))) ()) =
      some (bif qF c s zw then .inr () else .inl ()):=by
  rw [Zd (fun i=>!zdc c zw s.Zal i) hs (fun j hj=>by
    have hk:j < c.Zag.length:=by omega
    simp only [qr,List.getElem?_eq_getElem hj,List.getElem?_eq_getElem hk,ZaJ,zdc]
    cases (c.Zag[j].final)<;>cases (s.Zal[j].Zan == 4)<;>cases (s.Zal[j].Zav == zw)<;>rfl)]
  unfold qF
  cases ((List.range s.Zal.length).all fun i=>!zdc c zw s.Zal i)<;>rfl
theorem zjT {c:Zab} (hc:c.Ok) {s:Zad} (hv:VS c s) (zw:Int):Jk c s zw=some (qF c s zw):=by
  have:=(hv.few hc).2.2
  unfold Jk
  rw [YO c s zw hv.lm (by omega)]
  cases qF c s zw<;>rfl
theorem zgz {c:Zab} (hc:c.Ok) {s:Zad} (hv:VS c s) {zw:Int} (h0:0≤zw) (h1:zw < c.Zap):jC c s zw=some (qF c s zw):=by
  have:=(hv.few hc).2.2
  unfold jC
  rw [decide_eq_false (show ¬ zw < 0 by omega),decide_eq_false (show ¬ c.Zap≤zw by omega),Qu c s hc,W7 hv]
  simp only [ZaI,ZaJ,Bool.not_true]
  rw [YO c s zw hv.lm (by omega)]
  cases qF c s zw<;>rfl
def gm (c:Zab) (a:ZaC):Gm where
  n:=a.Zao.length
  own i:=match a.Zao[i]? with | some q=>q.own | none=>false
  lost i:=match a.Zao[i]? with | some q=>qF c q.state a.zw | none=>false
  succ i:=match a.moves[i]? with | some T=>T.map fun m=>m.to.toNat | none=>[]
structure ArOk (c:Zab) (zw:Int) (p:Zah) (a:ZaC):Prop where
  p0:0≤zw
  p1:zw < c.Zap
  pa:a.zw=zw
  F:FromOk c zw p a.Zao a.moves
section
variable {c:Zab} {zw:Int} {p:Zah} {a:ZaC}
theorem ArOk.mv (A:ArOk c zw p a) {i:Nat} (hi:i < a.Zao.length):∃ T,a.moves[i]?=some T∧MvOk c zw a.Zao a.Zao[i] (zu c zw a.Zao[i]) T:=by
  have h:i < a.moves.length:=by rw [A.F.len];exact hi
  exact ⟨a.moves[i],List.getElem?_eq_getElem h,A.F.mv i _ _ (List.getElem?_eq_getElem h) (List.getElem?_eq_getElem hi)⟩
theorem ArOk.succ (A:ArOk c zw p a) {i:Nat} (hi:i < a.Zao.length) {T:List Zar} (hT:a.moves[i]?=some T):(gm c a).succ i=T.map fun m=>m.to.toNat:=by
  simp only [gm,hT]
theorem ArOk.to (A:ArOk c zw p a) {i:Nat} (hi:i < a.Zao.length) {T:List Zar} (hT:a.moves[i]?=some T) {m:Zar} (hm:m∈T):0≤m.to∧m.to < a.Zao.length:=by
  obtain ⟨T',h1,_,h3⟩:=A.mv hi
  rw [hT] at h1;cases h1
  obtain ⟨h4,h5⟩:=h3 m hm
  have:=(List.getElem?_eq_some_iff.1 h5).1
  omega
theorem ArOk.len (hc:c.Ok) (A:ArOk c zw p a) {i:Nat} (hi:i < a.Zao.length) {T:List Zar} (hT:a.moves[i]?=some T):T.length≤62:=by
  obtain ⟨T',h1,h2,_⟩:=A.mv hi
  rw [hT] at h1;cases h1
  have:=YL hc (zw:=zw) (A.F.inv.vs _ (List.getElem_mem hi))
  rw [←List.length_map (f:=fun x:Zar=>x.step),h2];exact this
theorem ArOk.closed (A:ArOk c zw p a):∀ i,i < (gm c a).n→∀ t∈(gm c a).succ i,t < (gm c a).n:=fun i hi t ht=>by
  obtain ⟨T,h1,_⟩:=A.mv hi
  rw [A.succ hi h1] at ht
  obtain ⟨m,hm,rfl⟩:=List.mem_map.1 ht
  have:=A.to hi h1 hm
  show m.to.toNat < a.Zao.length
  omega
theorem ArOk.slen (hc:c.Ok) (A:ArOk c zw p a) (i:Nat) (hi:i < (gm c a).n):((gm c a).succ i).length≤62:=by
  obtain ⟨T,h1,_⟩:=A.mv hi
  rw [A.succ hi h1,List.length_map];exact A.len hc hi h1
theorem zaX (hc:c.Ok) (A:ArOk c zw p a):xN c a=some true:=by
  have h0:=A.p0
  have h1:=A.p1
  have hlen:=A.F.inv.len
  refine Ret.eq ?_
  unfold xN
  rw [A.pa]
  refine Ret.bindE (v:=false) (by rw [decide_eq_false (show ¬ zw < 0 by omega),decide_eq_false (show ¬ c.Zap≤zw by omega),A.F.len];simp) ?_
  refine Ret.ite (fun h=>by cases h) (fun _ => ?_)
  refine Ret.bind (P:=fun o:Unit ⊕ Unit=>o=.inl ()) (Ret.forL (fun _ _=>True) (by omega) trivial (fun i s hi _ => ?_) (fun _ _=>rfl)) ?_
  · obtain ⟨T,hT,hM⟩:=A.mv hi
    have hTl:=A.len hc hi hT
    refine Ret.bindE (zj (List.getElem?_eq_getElem hi)) ?_
    refine Ret.bindE (zj hT) ?_
    refine Ret.bind (P:=fun o:Unit ⊕ Unit=>o=.inl ()) (Ret.forL (fun _ _=>True) (by omega) trivial (fun k s hk _ => ?_) (fun _ _=>rfl)) ?_
    · have:=A.to hi hT (List.getElem_mem hk)
      refine Ret.bindE (zj (List.getElem?_eq_getElem hk)) ?_
      refine Ret.bindE (v:=false) (by rw [decide_eq_false (show ¬ T[k].to < 0 by omega),decide_eq_false (show ¬ (a.Zao.length:Int)≤T[k].to by omega)];rfl) ?_
      exact Ret.some trivial
    · rintro _ rfl
      refine Ret.bindE (by rw [Qu c _ hc,W7 (A.F.inv.vs _ (List.getElem_mem hi))]) ?_
      exact Ret.some trivial
  · rintro _ rfl
    exact Ret.some rfl
structure L1 (G:Gm) (i k:Nat) (bef:List (List Int)):Prop where
  len:bef.length=G.n
  row:∀ t,t < G.n→∃ l:List Nat,bef[t]?=some (cst l)∧l.length≤62*i+k∧∀ x,l.count x=if x < i then (G.succ x).count t else if x=i then ((G.succ i).take k).count t else 0
theorem L1.next {G:Gm} {i k:Nat} {bef:List (List Int)} (h:L1 G i k bef) (hk:k=(G.succ i).length) (hl:k≤62):L1 G (i+1) 0 bef:=by
  refine ⟨h.len,fun t ht => ?_⟩
  obtain ⟨l,h1,h2,h3⟩:=h.row t ht
  refine ⟨l,h1,by omega,fun x => ?_⟩
  rw [h3 x]
  by_cases e:x < i
  · rw [if_pos e,if_pos (by omega)]
  · rw [if_neg e]
    by_cases e2:x=i
    · subst e2;rw [if_pos rfl,if_pos (by omega),hk,List.take_length]
    · rw [if_neg e2,if_neg (by omega)]
      split<;>simp
theorem L1.step {G:Gm} {i k:Nat} {bef:List (List Int)} (h:L1 G i k bef) (hn:G.n≤1500) (hi:i < G.n) (hk:k≤62) {to:Nat} (ht:(G.succ i)[k]?=some to) (hto:to < G.n):Ret (wC bef G.n (to:Int) (i:Int)) (L1 G i (k+1)):=by
  obtain ⟨l,h1,h2,h3⟩:=h.row to hto
  have e:wC bef G.n (to:Int) (i:Int)=some (bef.set to (cst (l++[i]))):=by
    unfold wC
    rw [if_pos ⟨by omega,by omega,by omega⟩,Int.toNat_natCast,h1]
    simp only
    rw [if_pos (by rw [kb];omega),J8];rfl
  refine ⟨_,e,by rw [List.length_set];exact h.len,fun t ht2 => ?_⟩
  have htk:(G.succ i).take (k+1)=(G.succ i).take k++[to]:=by
    obtain ⟨h5,h6⟩:=List.getElem?_eq_some_iff.1 ht
    rw [List.take_succ_eq_append_getElem h5,h6]
  by_cases e2:t=to
  · subst e2
    refine ⟨l++[i],List.getElem?_set_self (by rw [h.len];exact ht2),by simp;omega,fun x => ?_⟩
    rw [List.count_append,h3 x,htk,List.count_append]
    by_cases a1:x < i
    · rw [if_pos a1,if_pos a1,List.count_cons_of_ne (by omega)];simp
    · rw [if_neg a1,if_neg a1]
      by_cases a2:x=i
      · subst a2;rw [if_pos rfl,if_pos rfl];simp
      · rw [if_neg a2,if_neg a2,List.count_cons_of_ne (fun h=>a2 h.symm)];simp
  · obtain ⟨l2,b1,b2,b3⟩:=h.row t ht2
    refine ⟨l2,by rw [List.getElem?_set_ne (Ne.symm e2)];exact b1,by omega,fun x => ?_⟩
    rw [b3 x,htk,List.count_append,List.count_cons_of_ne (Ne.symm e2)];simp
structure L2 (G:Gm) (i:Nat) (s:List Int×List Int×List (List Int)×List Int):Prop where
  lr:s.1.length=G.n
  lo:s.2.1.length=G.n
  bef:L1 G i 0 s.2.2.1
  r:∀ j,j < i→at_ s.1 j=if G.lost j=true then 0 else -1
  o:∀ j,j < i→at_ s.2.1 j=((G.succ j).length:Int)
  k:s.2.2.2=cst ((List.range i).filter G.lost)
theorem ZP {b n:Nat} (h:n≤1500) (hb:b≤1000):mkN b (n:Int)=some n:=by
  unfold mkN
  have:n*b≤1500*1000:=Nat.mul_le_mul h hb
  rw [if_pos ⟨by omega,by omega,by push_cast;omega⟩,Int.toNat_natCast]
end
end
section
section
variable {c:Zab} {zw:Int} {p:Zah} {a:ZaC}
theorem zaY {x:Int} {l:List Int} (nx:Int) (h:l.length≤4000):yx x l nx=some (l++[x]):=by
  unfold yx
  rw [jw (by simp;omega)];rfl
theorem Vd {x:Nat} {v:Int} {r l:List Int} {n:Nat} (nx:Int) (hx:x < n) (hr:r.length=n) (h:l.length≤4000):yy (x:Int) v r n l nx=some (l++[(x:Int)],r.set x v):=by
  unfold yy
  rw [zO hx]
  simp only [ZaJ]
  rw [xE (by omega),zaY nx h];rfl
def Bnd (G:Gm) (r:Nat→Int) (m:Nat):Prop:=∀ i,i < G.n→r i≤m
theorem zgA (hc:c.Ok) (A:ArOk c zw p a) {r o:List Int} {P Q:List Nat} {u x:Nat} {cn:Nat→Nat} (nx:Int) (hr:r.length=(gm c a).n) (ho:o.length=(gm c a).n)
    (h:EInv (gm c a) (at_ r) (at_ o) P u Q cn) (hb:Bnd (gm c a) (at_ r) (P++u::Q).length) (hx:x < (gm c a).n) (hcn:cn x < ((gm c a).succ x).count u) :
    Ret (ZG (x:Int) (u:Int) o (gm c a).n r (gm c a).n a (cst (P++u::Q)) nx) (fun z=>z.1.length=(gm c a).n∧z.2.1.length=(gm c a).n∧∃ Q',z.2.2=cst (P++u::Q')∧EInv (gm c a) (at_ z.2.1) (at_ z.1) P u Q' (upd cn x (cn x+1))∧Bnd (gm c a) (at_ z.2.1) (P++u::Q').length):=by
  have hn:(gm c a).n≤1500:=A.F.inv.len
  have hroom:=h.room hx hcn
  have hop:=h.core.op x hx
  have hsl:=A.slen hc x hx
  have hcp:(((gm c a).succ x).countP (vv P))≤((gm c a).succ x).length:=List.countP_le_length
  have hKn:(P++u::Q).length≤(gm c a).n:=by
    have:=QA (L2:=List.range (gm c a).n) h.core.nd (fun y hy=>List.mem_range.2 (h.core.lt y hy))
    rwa [List.length_range] at this
  obtain ⟨hu,hun,hru,_,_⟩:=h.core.split
  have hgu:=h.core.ge u hun
  have hgx:=h.core.ge x hx
  have hbu:=hb u hun
  have hw1:IntKind.i64.wrap (at_ o x - 1)=at_ o x - 1:=zW (by omega) (by omega)
  have hw2:IntKind.i64.wrap (at_ r u+1)=at_ r u+1:=zW (by omega) (by omega)
  have hso:at_ (o.set x (at_ o x - 1))=upd (at_ o) x (at_ o x - 1):=kH (by omega) _
  have hget:(o.set x (at_ o x - 1))[x]?=some (at_ o x - 1):=List.getElem?_set_self (by omega)
  have hown:(gm c a).own x=(a.Zao[x]'(hx)).own:=by
    show (match a.Zao[x]? with | some q=>q.own | none=>false)=_
    rw [List.getElem?_eq_getElem (show x < a.Zao.length from hx)]
    rfl
  have hidx:ze a.Zao (x:Int)=some (a.Zao[x]'hx):=zj (List.getElem?_eq_getElem (show x < a.Zao.length from hx))
  unfold ZG
  refine Ret.bindE (zO hx) ?_
  refine Ret.bindE (xE (by omega)) ?_
  rw [hw1]
  by_cases e1:at_ r x = -1
  · have e1b:(at_ r x == -1)=true:=by rw [e1];rfl
    by_cases e2:(gm c a).own x=false∨at_ o x - 1=0
    · refine Ret.bindE (v:=true) ?_ ?_
      · rw [zO hx]
        simp only [ZaJ]
        rw [xE (by omega:x < r.length)]
        simp only [ZaJ,e1b,cond_true,hidx]
        rw [←hown]
        rcases e2 with e2 | e2
        · rw [e2];rfl
        · rw [hget]
          simp only [ZaJ,e2]
          cases (gm c a).own x<;>rfl
      · refine Ret.ite (fun _ => ?_) (fun h=>by cases h)
        refine Ret.bindE (zO hun) ?_
        refine Ret.bindE (xE (by omega)) ?_
        rw [hw2]
        refine Ret.bindE (Vd nx hx hr (by rw [kb];omega)) ?_
        refine Ret.some ⟨by simp [ho],by simp [hr],Q++[x],?_,?_,?_⟩
        · rw [show P++u::(Q++[x])=(P++u::Q)++[x] by simp];exact (J8 (P++u::Q) [x]).symm
        · rw [hso,kH (by omega)]
          exact h.settle A.closed hx hcn e1 e2
        · intro i hi
          simp only
          rw [kH (by omega)]
          have:=hb i hi
          unfold upd
          simp only [List.length_append,List.length_cons,List.length_nil] at this hbu ⊢
          split<;>omega
    · refine Ret.bindE (v:=false) ?_ ?_
      · rw [zO hx]
        simp only [ZaJ]
        rw [xE (by omega:x < r.length)]
        simp only [ZaJ,e1b,cond_true,hidx]
        rw [←hown]
        have e3:(gm c a).own x=true:=by
          cases hq:(gm c a).own x with
          | true=>rfl
          | false=>exact absurd (.inl hq) e2
        rw [e3,hget]
        simp only [ZaJ,cond_true]
        rw [beq_eq_false_iff_ne.2 (fun h=>e2 (.inr h))]
      · refine Ret.ite (fun h=>by cases h) (fun _ => ?_)
        refine Ret.some ⟨by simp [ho],hr,Q,rfl,?_,hb⟩
        rw [hso]
        exact h.skip hx hcn (.inr ⟨by cases hq:(gm c a).own x with
          | true=>rfl
          | false=>exact absurd (.inl hq) e2,fun h=>e2 (.inr h)⟩)
  · have e1b:(at_ r x == -1)=false:=beq_eq_false_iff_ne.2 e1
    refine Ret.bindE (v:=false) ?_ ?_
    · rw [zO hx]
      simp only [ZaJ]
      rw [xE (by omega:x < r.length)]
      simp only [ZaJ,e1b,ZaI]
    · refine Ret.ite (fun h=>by cases h) (fun _ => ?_)
      refine Ret.some ⟨by simp [ho],hr,Q,rfl,?_,hb⟩
      rw [hso]
      exact h.skip hx hcn (.inl e1)
theorem zib {l:List Nat} {k:Nat} (hl:l.length≤4000) (hk:k≤l.length):wb (cst l) (k:Int)=some (match l[k]? with | some u=>((u:Int),true,(k:Int)+1) | none=>(0,false,(k:Int))):=by
  unfold wb
  rw [kb]
  by_cases e:k=l.length
  · rw [e,List.getElem?_eq_none (Nat.le_refl _)];simp
  · have h:k < l.length:=by omega
    have w1:IntKind.i64.wrap ((k:Int)+1)=(k:Int)+1:=zW (by omega) (by omega)
    have w2:IntKind.i64.wrap ((k:Int)+1 - 1)=(k:Int):=by rw [show (k:Int)+1 - 1=(k:Int) by omega];exact zW (by omega) (by omega)
    rw [beq_eq_false_iff_ne.2 (show (k:Int)≠(l.length:Int) by omega),w1,w2,List.getElem?_eq_getElem h]
    simp only [ZaI]
    rw [zj (l:=cst l) (i:=k) (e:=(l[k]:Int)) (by unfold cst;rw [List.getElem?_map,List.getElem?_eq_getElem h];rfl)]
    rfl
end
end
section
section
variable {c:Zab} {zw:Int} {p:Zah} {a:ZaC}
def xA (G:Gm) (i:Nat):Bool:=G.own i&&(!(G.lost i)&&(G.succ i).isEmpty)
def r2 (G:Gm) (i j:Nat):Int:=if G.lost j=true then 0 else if xA G j=true∧j < i then 1 else -1
def K2 (G:Gm) (i:Nat):List Nat:=(List.range G.n).filter G.lost++(List.range i).filter (xA G)
structure L3 (G:Gm) (i:Nat) (s:List Int×List Int):Prop where
  lr:s.1.length=G.n
  r:∀ j,j < G.n→at_ s.1 j=r2 G i j
  k:s.2=cst (K2 G i)
theorem zjU (G:Gm) (i:Nat):(K2 G i).length≤G.n+i:=by
  unfold K2
  rw [List.length_append]
  have h1:=List.length_filter_le G.lost (List.range G.n)
  have h2:=List.length_filter_le (xA G) (List.range i)
  rw [List.length_range] at h1 h2
  omega
theorem ze1 {G:Gm} {r o:Nat→Int} (hr:∀ j,j < G.n→r j=r2 G G.n j) (ho:∀ j,j < G.n→o j=((G.succ j).length:Int)):BInv G r o [] (K2 G G.n)∧Bnd G r (K2 G G.n).length:=by
  have tl:∀ j,xA G j=true→G.own j=true∧G.lost j=false∧G.succ j=[]:=fun j h=>by
    simpa [xA,Bool.and_eq_true,List.isEmpty_iff] using h
  have rl:∀ j,j < G.n→G.lost j=true→r j=0:=fun j hj h=>by rw [hr j hj];unfold r2;rw [if_pos h]
  have rt:∀ j,j < G.n→xA G j=true→r j=1:=fun j hj h=>by
    rw [hr j hj];unfold r2;rw [if_neg (by rw [(tl j h).2.1];simp),if_pos ⟨h,hj⟩]
  have rn:∀ j,j < G.n→G.lost j=false→xA G j=false→r j = -1:=fun j hj h h2=>by
    rw [hr j hj];unfold r2;rw [if_neg (by rw [h];simp),if_neg (by rw [h2];simp)]
  have three:∀ j,j < G.n→(G.lost j=true∧r j=0)∨(xA G j=true∧G.lost j=false∧r j=1)∨(G.lost j=false∧xA G j=false∧r j = -1):=fun j hj=>by
    cases h:G.lost j with
    | true=>exact .inl ⟨rfl,rl j hj h⟩
    | false=>cases h2:xA G j with
      | true=>exact .inr (.inl ⟨rfl,rfl,rt j hj h2⟩)
      | false=>exact .inr (.inr ⟨rfl,rfl,rn j hj h h2⟩)
  have hm:∀ j,j∈K2 G G.n↔j < G.n∧(G.lost j=true∨xA G j=true):=fun j=>by
    unfold K2
    rw [List.mem_append,List.mem_filter,List.mem_filter,List.mem_range]
    constructor
    · rintro (⟨h1,h2⟩ | ⟨h1,h2⟩)
      · exact ⟨h1,.inl h2⟩
      · exact ⟨h1,.inr h2⟩
    · rintro ⟨h1,h2 | h2⟩
      · exact .inl ⟨h1,h2⟩
      · exact .inr ⟨h1,h2⟩
  have hle:∀ x∈K2 G G.n,r x≤1∧0≤r x:=fun x hx=>by
    obtain ⟨h1,h2⟩:=(hm x).1 hx
    rcases three x h1 with ⟨_,h⟩ | ⟨_,_,h⟩ | ⟨h3,h4,h⟩
    · omega
    · omega
    · rw [h3,h4] at h2;simp at h2
  refine ⟨⟨⟨?_,fun x hx=>((hm x).1 hx).1,fun i hi => ?_,fun i hi => ?_,?_,fun i hi => ?_,fun i hi => ?_,fun i hi h1 h2 h3 => ?_,fun i hi h1 h2 h3 => ?_,fun i hi h1 h2 h3 => ?_,fun i hi h1 h2 h3=>⟨fun t ht h=>(by cases h),rfl⟩⟩,fun q Q' hq x hx => ?_⟩,fun i hi => ?_⟩
  · rw [List.nil_append]
    unfold K2
    refine List.nodup_append.2 ⟨List.nodup_range.sublist List.filter_sublist,List.nodup_range.sublist List.filter_sublist,fun x hx y hy e => ?_⟩
    subst e
    have h1:=(List.mem_filter.1 hx).2
    have h2:=(tl x (List.mem_filter.1 hy).2).2.1
    rw [h1] at h2;cases h2
  · rw [List.nil_append,hm i]
    rcases three i hi with ⟨h1,h⟩ | ⟨h1,_,h⟩ | ⟨h3,h4,h⟩
    · rw [h];simp [hi,h1]
    · rw [h];simp [hi,h1]
    · rw [h];simp [h3,h4]
  · rcases three i hi with ⟨_,h⟩ | ⟨_,_,h⟩ | ⟨_,_,h⟩<;>omega
  · rw [List.nil_append]
    unfold K2
    refine List.pairwise_append.2 ⟨?_,?_,fun x hx y hy => ?_⟩
    · refine List.pairwise_of_forall_mem_list fun x hx y hy => ?_
      have h1:=(List.mem_filter.1 hx);have h2:=(List.mem_filter.1 hy)
      rw [rl x (List.mem_range.1 h1.1) h1.2,rl y (List.mem_range.1 h2.1) h2.2];omega
    · refine List.pairwise_of_forall_mem_list fun x hx y hy => ?_
      have h1:=(List.mem_filter.1 hx);have h2:=(List.mem_filter.1 hy)
      rw [rt x (List.mem_range.1 h1.1) h1.2,rt y (List.mem_range.1 h2.1) h2.2];omega
    · have h1:=(List.mem_filter.1 hx);have h2:=(List.mem_filter.1 hy)
      rw [rl x (List.mem_range.1 h1.1) h1.2,rt y (List.mem_range.1 h2.1) h2.2];omega
  · rw [ho i hi]
    have:(G.succ i).countP (vv [])=(G.succ i).length:=List.countP_eq_length.2 fun x _=>by simp [vv]
    rw [this];simp
  · rcases three i hi with ⟨h1,h⟩ | ⟨_,h1,h⟩ | ⟨h1,_,h⟩<;>rw [h,h1]<;>simp
  · rcases three i hi with ⟨h4,h⟩ | ⟨h4,_,h⟩ | ⟨_,_,h⟩
    · rw [h2] at h4;cases h4
    · have h5:=(tl i h4).2.2
      rw [ho i hi,h5,h]
      exact ⟨rfl,fun t ht=>(by cases ht),.inl ⟨rfl,rfl⟩⟩
    · exact absurd h h3
  · rw [ho i hi]
    intro h5
    have h6:G.succ i=[]:=List.eq_nil_of_length_eq_zero (by omega)
    have h7:=rt i hi (by simp [xA,h1,h2,h6])
    omega
  · rcases three i hi with ⟨h4,h⟩ | ⟨h4,_,h⟩ | ⟨_,_,h⟩
    · rw [h2] at h4;cases h4
    · have h5:=(tl i h4).1;rw [h1] at h5;cases h5
    · exact absurd h h3
  · rw [List.nil_append] at hx
    have h1:=(hle x hx).1
    have h2:=(hle q (by rw [hq];simp)).2
    omega
  · rcases three i hi with ⟨_,h⟩ | ⟨h1,_,h⟩ | ⟨_,_,h⟩
    · omega
    · have:0 < (K2 G G.n).length:=List.length_pos_of_mem ((hm i).2 ⟨hi,.inr h1⟩)
      omega
    · omega
structure QI (G:Gm) (bef:List (List Int)) (s:Int×Bool×List Int×List Int×List Int×Int):Prop where
  lr:s.2.2.1.length=G.n
  lo:s.2.2.2.1.length=G.n
  inv:∃ P Q,BInv G (at_ s.2.2.1) (at_ s.2.2.2.1) P Q∧Bnd G (at_ s.2.2.1) (P++Q).length∧s.2.2.2.2.1=cst (P++Q)∧((s.2.1=false∧Q=[]∧s.2.2.2.2.2=(P.length:Int))∨(s.2.1=true∧∃ u Q',Q=u::Q'∧s.1=(u:Int)∧s.2.2.2.2.2=(P.length:Int)+1))
theorem Ve {l:List Nat} {k:Nat} (hk:k < l.length) (x:Nat):(l.take (k+1)).count x=upd (fun y=>(l.take k).count y) l[k] ((l.take k).count l[k]+1) x:=by
  rw [List.take_succ_eq_append_getElem hk,List.count_append]
  unfold upd
  by_cases e:x=l[k]
  · rw [if_pos e,e];simp
  · rw [if_neg e,List.count_cons_of_ne (fun h=>e h.symm)];simp
theorem ze2 {l:List Nat} {k:Nat} (hk:k < l.length):(fun y=>(l.take (k+1)).count y)=upd (fun y=>(l.take k).count y) l[k] ((l.take k).count l[k]+1):=funext fun x=>Ve hk x
theorem ze3 {G:Gm} {bef:List (List Int)} {P Q:List Nat} {r o:List Int} (hn:G.n≤1500) (hr:r.length=G.n) (ho:o.length=G.n) (h:BInv G (at_ r) (at_ o) P Q) (hb:Bnd G (at_ r) (P++Q).length) :
    ∃ z:Int×Bool×Int,wb (cst (P++Q)) (P.length:Int)=some z∧QI G bef (z.1,z.2.1,r,o,cst (P++Q),z.2.2)∧((z.2.1=false∧z.2.2=(P.length:Int))∨(z.2.1=true∧z.2.2=(P.length:Int)+1))∧P.length≤G.n:=by
  have hK:(P++Q).length≤G.n:=by
    have:=QA (L2:=List.range G.n) h.core.nd (fun y hy=>List.mem_range.2 (h.core.lt y hy))
    rwa [List.length_range] at this
  refine ⟨_,zib (by omega) (by simp),?_⟩
  cases Q with
  | nil=>
    rw [List.append_nil,List.getElem?_eq_none (Nat.le_refl _)]
    exact ⟨⟨hr,ho,P,[],h,hb,by rw [List.append_nil],.inl ⟨rfl,rfl,rfl⟩⟩,.inl ⟨rfl,rfl⟩,by simpa using hK⟩
  | cons u Q'=>
    rw [List.getElem?_append_right (Nat.le_refl _),Nat.sub_self]
    exact ⟨⟨hr,ho,P,u::Q',h,hb,rfl,.inr ⟨rfl,u,Q',rfl,rfl,rfl⟩⟩,.inr ⟨rfl,rfl⟩,by rw [List.length_append] at hK;omega⟩
theorem YP (hc:c.Ok) (A:ArOk c zw p a):Ret (vE c a) (fun r=>r.length=a.Zao.length∧yu (gm c a) (at_ r)∧∀ i,i < a.Zao.length→at_ r i≤1500):=by
  have hn:a.Zao.length≤1500:=A.F.inv.len
  have hgn:(gm c a).n=a.Zao.length:=rfl
  unfold vE
  refine Ret.bindE (zaX hc A) ?_
  refine Ret.ite (fun _ => ?_) (fun h=>by cases h)
  refine Ret.bindE (ZP hn (by omega)) ?_
  refine Ret.bindE (ZP hn (by omega)) ?_
  refine Ret.bindE (ZP hn (by omega)) ?_
  refine Ret.bind (P:=fun o:(List Int×List Int×List (List Int)×List Int) ⊕ Unit=>∃ s,o=.inl s∧L2 (gm c a) a.Zao.length s) (Ret.forL (L2 (gm c a)) (by omega) ?_ (fun i s hi hs => ?_) (fun s h=>⟨s,rfl,h⟩)) ?_
  · refine ⟨by simp [hgn],by simp [hgn],⟨by simp [hgn],fun t ht=>⟨[],?_,by simp,fun x => ?_⟩⟩,fun j hj=>by omega,fun j hj=>by omega,rfl⟩
    · rw [List.getElem?_replicate,if_pos (by rw [←hgn];exact ht)];rfl
    · simp
  · obtain ⟨R,O,B,K⟩:=s
    obtain ⟨hlr,hlo,hbef,hr,ho,hk⟩:=hs
    simp only at hlr hlo hbef hr ho hk ⊢
    obtain ⟨T,hT,hM⟩:=A.mv hi
    have hTl:=A.len hc hi hT
    have hsucc:=A.succ hi hT
    have hlostE:(gm c a).lost i=qF c a.Zao[i].state a.zw:=by
      show (match a.Zao[i]? with | some q=>qF c q.state a.zw | none=>false)=_
      rw [List.getElem?_eq_getElem hi]
    refine Ret.bind (P:=fun v=>L2 (gm c a) (i+1) v) ?_ (fun v hv=>Ret.some hv)
    refine Ret.bindE (zj (List.getElem?_eq_getElem hi)) ?_
    refine Ret.bindE (zj hT) ?_
    refine Ret.bindE (zO hi) ?_
    refine Ret.bindE (xE (by omega)) ?_
    refine Ret.bindE (zO hi) ?_
    refine Ret.bindE (xE (by omega)) ?_
    refine Ret.bindE (zj hT) ?_
    refine Ret.bind (P:=fun o:List (List Int) ⊕ Unit=>∃ b,o=.inl b∧L1 (gm c a) i T.length b) (Ret.forL (fun k b=>L1 (gm c a) i k b) (by omega) hbef (fun k b hk2 hb => ?_) (fun b h=>⟨b,rfl,h⟩)) ?_
    · have hto:=A.to hi hT (List.getElem_mem hk2)
      refine Ret.bindE (zj (List.getElem?_eq_getElem hk2)) ?_
      have h1:(gm c a).succ i=T.map fun m=>m.to.toNat:=hsucc
      have h2:=hb.step (G:=gm c a) hn hi (by omega) (to:=T[k].to.toNat) (by rw [h1,List.getElem?_map,List.getElem?_eq_getElem hk2];rfl) (by rw [hgn];omega)
      rw [Int.toNat_of_nonneg hto.1] at h2
      exact Ret.bind h2 (fun v hv=>Ret.some hv)
    · rintro _ ⟨b,rfl,hb⟩
      simp only [Sum.elim_inl]
      have hb':=hb.next (by rw [hsucc,List.length_map]) hTl
      have hR1:at_ (R.set i (-1))=upd (at_ R) i (-1):=kH (by omega) _
      have hO1:at_ (O.set i (T.length:Int))=upd (at_ O) i (T.length:Int):=kH (by omega) _
      have hoo:∀ j,j < i+1→upd (at_ O) i (T.length:Int) j=(((gm c a).succ j).length:Int):=fun j hj=>by
        unfold upd
        by_cases e:j=i
        · rw [if_pos e,e,hsucc,List.length_map]
        · rw [if_neg e];exact ho j (by omega)
      have hrange:(List.range (i+1)).filter (gm c a).lost=(List.range i).filter (gm c a).lost++(bif (gm c a).lost i then [i] else []):=by
        rw [List.range_succ,List.filter_append]
        cases h:(gm c a).lost i<;>simp [h]
      refine Ret.bindE (zjT hc (A.F.inv.vs _ (List.getElem_mem hi)) a.zw) ?_
      refine Ret.ite (fun hl => ?_) (fun hl => ?_)
      · rw [←hlostE] at hl
        refine Ret.bindE (zO hi) ?_
        refine Ret.bindE (List.getElem?_set_self (by omega)) ?_
        have hK:K.length≤1500:=by
          rw [hk,kb]
          have:=List.length_filter_le (gm c a).lost (List.range i)
          rw [List.length_range] at this;omega
        refine Ret.bindE (zaY 0 (by omega)) ?_
        refine Ret.some ⟨by simp [hlr],by simp [hlo],hb',fun j hj => ?_,fun j hj => ?_,?_⟩
        · simp only
          rw [List.set_set,kH (by omega)]
          unfold upd
          by_cases e:j=i
          · rw [if_pos e,e,if_pos hl]
          · rw [if_neg e];exact hr j (by omega)
        · simp only;rw [hO1];exact hoo j hj
        · simp only;rw [hk,hrange,hl,cond_true,J8];rfl
      · rw [←hlostE] at hl
        refine Ret.some ⟨by simp [hlr],by simp [hlo],hb',fun j hj => ?_,fun j hj => ?_,?_⟩
        · simp only
          rw [hR1]
          unfold upd
          by_cases e:j=i
          · rw [if_pos e,e,if_neg (by rw [hl];simp)]
          · rw [if_neg e];exact hr j (by omega)
        · simp only;rw [hO1];exact hoo j hj
        · simp only;rw [hk,hrange,hl,ZaI,List.append_nil]
  · rintro _ ⟨⟨R,O,B,K⟩,rfl,hlr,hlo,hbef,hr,ho,hk⟩
    simp only [Sum.elim_inl] at hlr hlo hbef hr ho hk ⊢
    refine Ret.bind (P:=fun o:(List Int×List Int) ⊕ Unit=>∃ s,o=.inl s∧L3 (gm c a) a.Zao.length s) (Ret.forL (L3 (gm c a)) (by omega) ?_ (fun i s hi hs => ?_) (fun s h=>⟨s,rfl,h⟩)) ?_
    · refine ⟨hlr,fun j hj => ?_,?_⟩
      · rw [hr j hj];unfold r2
        split
        · rfl
        · rw [if_neg (by omega)]
      · simp only;rw [hk];unfold K2;rw [List.range_zero,List.filter_nil,List.append_nil];rfl
    · obtain ⟨R1,K1⟩:=s
      obtain ⟨h1,h2,h3⟩:=hs
      simp only at h1 h2 h3 ⊢
      have hown:(gm c a).own i=a.Zao[i].own:=by
        show (match a.Zao[i]? with | some q=>q.own | none=>false)=_
        rw [List.getElem?_eq_getElem hi]
      have hsame:xA (gm c a) i=false→L3 (gm c a) (i+1) (R1,K1):=fun ht=>by
        refine ⟨h1,fun j hj => ?_,?_⟩
        · simp only;rw [h2 j hj];unfold r2
          split
          · rfl
          · by_cases e:j=i
            · subst e;rw [if_neg (by rw [ht];simp),if_neg (by rw [ht];simp)]
            · by_cases e2:xA (gm c a) j=true∧j < i
              · rw [if_pos e2,if_pos ⟨e2.1,by omega⟩]
              · rw [if_neg e2,if_neg (fun h=>e2 ⟨h.1,by have:=h.2;omega⟩)]
        · simp only;rw [h3];unfold K2;rw [List.range_succ,List.filter_append];simp [ht]
      refine Ret.bind (P:=fun v=>L3 (gm c a) (i+1) v) ?_ (fun v hv=>Ret.some hv)
      refine Ret.bindE (zj (List.getElem?_eq_getElem hi)) ?_
      have hv3:(bif a.Zao[i].own then (Option.bind (zl a.Zao.length (i:Int)) fun k7=>(Option.bind (O[k7]?) fun e9=>(bif (e9 == 0) then (Option.bind (zl a.Zao.length (i:Int)) fun k8=>(Option.bind (R1[k8]?) fun e10=>some (e10 == (-1)))) else some false))) else some false)=some (xA (gm c a) i):=by
        rw [zO hi]
        simp only [ZaJ]
        rw [xE (by omega:i < O.length),xE (by omega:i < R1.length)]
        simp only [ZaJ]
        rw [ho i hi,h2 i hi,←hown]
        unfold xA r2
        cases e1:(gm c a).own i with
        | false=>rfl
        | true=>
          cases e2:(gm c a).succ i with
          | cons x l=>
            rw [beq_eq_false_iff_ne.2 (by simp;omega)];simp
          | nil=>
            cases e3:(gm c a).lost i with
            | true=>rfl
            | false=>simp
      refine Ret.bindE hv3 ?_
      refine Ret.ite (fun ht => ?_) (fun ht=>Ret.some (hsame ht))
      have hK1:K1.length≤4000:=by
        rw [h3,kb]
        have:=zjU (gm c a) i
        omega
      refine Ret.bindE (Vd 0 hi h1 hK1) ?_
      refine Ret.some ⟨by simp [h1],fun j hj => ?_,?_⟩
      · simp only
        rw [kH (by omega)]
        unfold upd
        by_cases e:j=i
        · subst e
          have h4:(gm c a).lost j=false:=by
            simp only [xA,Bool.and_eq_true,Bool.not_eq_true'] at ht;exact ht.2.1
          rw [if_pos rfl];unfold r2;rw [if_neg (by rw [h4];simp),if_pos ⟨ht,by omega⟩]
        · rw [if_neg e,h2 j hj];unfold r2
          split
          · rfl
          · by_cases e2:xA (gm c a) j=true∧j < i
            · rw [if_pos e2,if_pos ⟨e2.1,by omega⟩]
            · rw [if_neg e2,if_neg (fun h=>e2 ⟨h.1,by have:=h.2;omega⟩)]
      · simp only;rw [h3];unfold K2;rw [List.range_succ,List.filter_append,←List.append_assoc,J8];simp [ht,cst]
    · rintro _ ⟨⟨R1,K1⟩,rfl,h1,h2,h3⟩
      simp only [Sum.elim_inl] at h1 h2 h3 ⊢
      obtain ⟨hB,hbd⟩:=ze1 (G:=gm c a) (r:=at_ R1) (o:=at_ O) h2 ho
      have hQ0:=ze3 (bef:=B) (P:=[]) hn h1 hlo hB (by rw [List.nil_append];exact hbd)
      refine Ret.bind (P:=fun v:List Int=>v.length=(gm c a).n∧yu (gm c a) (at_ v)∧∀ i,i < (gm c a).n→at_ v i≤1500) ?_ ?_
      · obtain ⟨z,hz,hq,_⟩:=hQ0
        have hK1:K1=cst ([]++K2 (gm c a) (gm c a).n):=by rw [h3,List.nil_append];rfl
        rw [hK1]
        refine Ret.bindE hz ?_
        refine Ret.bind (P:=fun y:List Int=>y.length=(gm c a).n∧yu (gm c a) (at_ y)∧∀ i,i < (gm c a).n→at_ y i≤1500) (Ret.iter (QI (gm c a) B) (fun s=>2*((gm c a).n+2 - s.2.2.2.2.2.toNat)+(bif s.2.1 then 1 else 0)) hq (fun s hs => ?_)) (fun y hy=>Ret.some hy)
        obtain ⟨to,ok,R2,O2,K3,nx⟩:=s
        obtain ⟨g1,g2,P,Q,g3,g4,g5,g6⟩:=hs
        simp only at g1 g2 g3 g4 g5 g6 ⊢
        have hKn:(P++Q).length≤(gm c a).n:=by
          have:=QA (L2:=List.range (gm c a).n) g3.core.nd (fun y hy=>List.mem_range.2 (g3.core.lt y hy))
          rwa [List.length_range] at this
        rcases g6 with ⟨rfl,rfl,g7⟩ | ⟨rfl,u,Q',rfl,rfl,rfl⟩
        · refine Ret.ite (fun h=>by cases h) (fun _ => ?_)
          exact Ret.some ⟨g1,(g3.done A.closed).ok A.closed,fun i hi=>by have:=g4 i hi;omega⟩
        · refine Ret.ite (fun _ => ?_) (fun h=>by cases h)
          have E:=g3.enter
          obtain ⟨_,hun,_⟩:=E.core.split
          obtain ⟨l,l1,l2,l3⟩:=hbef.row u hun
          have hcount:∀ x,x < (gm c a).n→l.count x=((gm c a).succ x).count u:=fun x hx=>by rw [l3 x,if_pos (by rw [←hgn];exact hx)]
          have hlmem:∀ x∈l,x < (gm c a).n:=fun x hx=>by
            have h5:0 < l.count x:=List.count_pos_iff.2 hx
            rw [l3 x] at h5
            split at h5
            · rename_i h6;exact h6
            · split at h5
              · simp at h5
              · omega
          refine Ret.bindE (zO hun) ?_
          refine Ret.bindE l1 ?_
          refine Ret.bind (P:=fun o:(List Int×List Int×List Int) ⊕ Unit=>∃ s5,o=.inl s5∧s5.1.length=(gm c a).n∧s5.2.1.length=(gm c a).n∧∃ Q2,s5.2.2=cst (P++u::Q2)∧EInv (gm c a) (at_ s5.1) (at_ s5.2.1) P u Q2 (fun y=>l.count y)∧Bnd (gm c a) (at_ s5.1) (P++u::Q2).length) ?_ ?_
          · rw [kb]
            refine Ret.forL (fun k s5=>s5.1.length=(gm c a).n∧s5.2.1.length=(gm c a).n∧∃ Q2,s5.2.2=cst (P++u::Q2)∧EInv (gm c a) (at_ s5.1) (at_ s5.2.1) P u Q2 (fun y=>(l.take k).count y)∧Bnd (gm c a) (at_ s5.1) (P++u::Q2).length) (by omega) ⟨g1,g2,Q',g5,by simpa using E,g4⟩ (fun k s5 hk hs5 => ?_) (fun s5 h=>⟨s5,rfl,by rw [List.take_length] at h;exact h⟩)
            obtain ⟨R4,O4,K4⟩:=s5
            obtain ⟨i1,i2,Q2,i3,i4,i5⟩:=hs5
            simp only at i1 i2 i3 i4 i5 ⊢
            have hx:=hlmem _ (List.getElem_mem hk)
            refine Ret.bindE (zj (e:=(l[k]:Int)) (by unfold cst;rw [List.getElem?_map,List.getElem?_eq_getElem hk];rfl)) ?_
            rw [i3]
            refine Ret.bind (zgA hc A _ i1 i2 i4 i5 hx ?_) (fun z hz => ?_)
            · have h6:=Ve hk l[k]
              unfold upd at h6
              rw [if_pos rfl] at h6
              have h7:(l.take (k+1)).count l[k]≤l.count l[k]:=(List.take_sublist _ _).count_le _
              rw [hcount _ hx] at h7
              show (l.take k).count l[k] < _
              omega
            · obtain ⟨j1,j2,Q3,j3,j4,j5⟩:=hz
              refine Ret.some ⟨j2,j1,Q3,j3,?_,j5⟩
              simp only
              rw [ze2 hk];exact j4
          · rintro _ ⟨⟨R4,O4,K4⟩,rfl,i1,i2,Q2,i3,i4,i5⟩
            simp only [Sum.elim_inl] at i1 i2 i3 i4 i5 ⊢
            have hB2:=i4.leave hcount
            have hPQ:P++[u]++Q2=P++u::Q2:=by simp
            obtain ⟨z2,hz2,hq2,hz3,hz4⟩:=ze3 (bef:=B) (P:=P++[u]) (Q:=Q2) hn i1 i2 hB2 (by rw [hPQ];exact i5)
            rw [hPQ] at hz2 hq2
            rw [i3]
            have hnx:((P++[u]).length:Int)=(P.length:Int)+1:=by simp
            rw [hnx] at hz2
            refine Ret.bindE hz2 ?_
            refine Ret.some ⟨hq2,?_⟩
            simp only [cond_true]
            rw [List.length_append] at hz3 hz4
            simp only [List.length_cons,List.length_nil] at hz3 hz4
            rcases hz3 with ⟨e1,e2⟩ | ⟨e1,e2⟩
            · rw [e1,e2,ZaI];omega
            · rw [e1,e2,cond_true];omega
      · intro v hv
        refine Ret.bindE (xp (hgn.symm.trans hv.1.symm)) ?_
        exact Ret.some hv
end
end
theorem StartP.get {c:Zab} {hs:List Int} {ms r:List Zaa} (h:StartP c hs ms r) {i:Nat} {m:Zaa} (hi:i < c.Zag.length) (hm:ms[i]?=some m) (h0:m.Zan≠0):r[i]?=some m:=by
  have hl:i < r.length:=by rw [h.ok.1];exact hi
  rw [List.getElem?_eq_getElem hl]
  rcases h.rel i m r[i] hm (List.getElem?_eq_getElem hl) with e | ⟨e,_⟩
  · rw [e]
  · exact absurd e h0
theorem Zo (c:Zab) (q:Zah):target c q (-2)={state:=q.state,own:=false}:=if_pos rfl
theorem yh (c:Zab) (q:Zah) {m:Int} (h : -1≤m):target c q m={state:=z8 c q.state m,own:=true}:=if_neg (by omega)
theorem zgB {c:Zab} {zw:Int} {p:Zah} {r:ZaC×Int} (h:wa c zw p=some r) (hr:r.2≠0):r.1=Vc:=by
  unfold wa at h
  obtain ⟨b,_,h⟩:=jS h
  cases b with
  | false=>cases h;rfl
  | true=>
    rw [cond_true] at h
    obtain ⟨_,_,h⟩:=jS h
    obtain ⟨_,_,h⟩:=jS h
    obtain ⟨o,_,h⟩:=jS h
    cases o with
    | inl s=>cases h;exact absurd rfl hr
    | inr u=>cases h;rfl
theorem ze4 {c:Zab} {zw:Int} {r:ZaC×Int} (h:qX c zw=some r) (hr:r.2≠0):r.1=Vc:=by
  unfold qX at h
  obtain ⟨s,_,h⟩:=jS h
  cases hs:(s.2 == 0) with
  | true=>
    rw [hs,cond_true] at h
    obtain ⟨f,hf,h⟩:=jS h
    cases h
    exact zgB hf hr
  | false=>rw [hs] at h;cases h;rfl
def zjV (c:Zab) (zw:Int) (r:ZaC×Int):Prop:=(r.2≠0∧r.1=Vc)∨(r.2=0∧∃ s0,qz c=some (s0,0)∧VS c s0∧ArOk c zw {state:=s0,own:=true} r.1)
theorem zb6 {c:Zab} (hc:c.Ok) (zw:Int):Ret (qX c zw) (zjV c zw):=by
  obtain ⟨r,hr,h⟩:=zeZ hc zw
  refine ⟨r,hr,?_⟩
  rcases h with h | ⟨h,s0,h1,h2,h3,h4,h5,h6⟩
  · exact .inl ⟨h,ze4 hr h⟩
  · exact .inr ⟨h,s0,h1,h2,h3,h4,h5,h6⟩
section
section
variable {c:Zab} {zw:Int} {p:Zah} {a:ZaC}
theorem ArOk.lost (A:ArOk c zw p a) {i:Nat} (hi:i < a.Zao.length):(gm c a).lost i=qF c a.Zao[i].state zw:=by
  show (match a.Zao[i]? with | some q=>qF c q.state a.zw | none=>false)=_
  rw [List.getElem?_eq_getElem hi,A.pa]
theorem ArOk.own (A:ArOk c zw p a) {i:Nat} (hi:i < a.Zao.length):(gm c a).own i=a.Zao[i].own:=by
  show (match a.Zao[i]? with | some q=>q.own | none=>false)=_
  rw [List.getElem?_eq_getElem hi]
theorem ArOk.pos (A:ArOk c zw p a):0 < a.Zao.length:=(List.getElem?_eq_some_iff.1 A.F.first).1
theorem ArOk.tgt (A:ArOk c zw p a) {i:Nat} (hi:i < a.Zao.length) {T:List Zar} (hT:a.moves[i]?=some T) {m:Zar} (hm:m∈T) :
    m.step∈zu c zw a.Zao[i]∧0≤m.to∧∃ h:m.to.toNat < a.Zao.length,a.Zao[m.to.toNat]=target c a.Zao[i] m.step:=by
  obtain ⟨T',h1,h2,h3⟩:=A.mv hi
  rw [hT] at h1;cases h1
  obtain ⟨h4,h5⟩:=h3 m hm
  obtain ⟨h6,h7⟩:=List.getElem?_eq_some_iff.1 h5
  exact ⟨by rw [←h2];exact List.mem_map.2 ⟨m,hm,rfl⟩,h4,h6,h7⟩
theorem ArOk.ne (A:ArOk c zw p a) {i:Nat} (hi:i < a.Zao.length) {T:List Zar} (hT:a.moves[i]?=some T) (ho:a.Zao[i].own=true):T≠[]:=by
  obtain ⟨T',h1,h2,_⟩:=A.mv hi
  rw [hT] at h1;cases h1
  intro e
  subst e
  have:(-2:Int)∈zu c zw a.Zao[i]:=jh.2 (.inl ⟨ho,rfl⟩)
  rw [←h2] at this;cases this
theorem Jy {G:Gm} {r:Nat→Int} (h:yu G r) {i:Nat} (hi:i < G.n):r i=0↔G.lost i=true:=by
  have h0:=(h i hi).2 0
  have h1:=(h i hi).1
  constructor
  · intro e;exact h0.1 ⟨by omega,by omega⟩
  · intro e;have:=h0.2 e;omega
end
end
section
def AttrP (c:Zab) (zw:Int):Nat→Zah→Prop
  | 0,q=>qF c q.state zw=true
  | k+1,q=>qF c q.state zw=true∨(q.own=true∧∀ m∈zu c zw q,AttrP c zw k (target c q m))∨(q.own=false∧∃ m∈zu c zw q,AttrP c zw k (target c q m))
def yQ (c:Zab) (zw:Int) (q:Zah):Prop:=∀ k,¬ AttrP c zw k q
theorem AttrP.zero {c:Zab} {zw:Int} {q:Zah} (h:qF c q.state zw=true):∀ k,AttrP c zw k q
  | 0=>h
  | k+1=>.inl h
theorem AttrP.succ1 {c:Zab} {zw:Int}:∀ {k:Nat} {q:Zah},AttrP c zw k q→AttrP c zw (k+1) q
  | 0,q,h=>.inl h
  | k+1,q,h=>by
    rcases h with h | ⟨h1,h2⟩ | ⟨h1,t,h2,h3⟩
    · exact .inl h
    · exact .inr (.inl ⟨h1,fun t ht=>(h2 t ht).succ1⟩)
    · exact .inr (.inr ⟨h1,t,h2,h3.succ1⟩)
theorem AttrP.mono {c:Zab} {zw:Int} {k k':Nat} {q:Zah} (hk:k≤k') (h:AttrP c zw k q):AttrP c zw k' q:=by
  induction hk with
  | refl=>exact h
  | step _ ih=>exact ih.succ1
section
variable {c:Zab} {zw:Int} {p:Zah} {a:ZaC}
theorem ze5 (A:ArOk c zw p a):∀ (k i:Nat) (hi:i < a.Zao.length),Attr (gm c a) k i↔AttrP c zw k a.Zao[i]
  | 0,i,hi=>by show (gm c a).lost i=true↔_;rw [A.lost hi];rfl
  | k+1,i,hi=>by
    obtain ⟨T,hT,hst,_⟩:=A.mv hi
    have hs:=A.succ hi hT
    have go:∀ m∈T,(Attr (gm c a) k m.to.toNat↔AttrP c zw k (target c a.Zao[i] m.step)):=fun m hm=>by
      obtain ⟨_,_,t3,t4⟩:=A.tgt hi hT hm
      rw [ze5 A k _ t3,t4]
    have hall:(∀ t∈(gm c a).succ i,Attr (gm c a) k t)↔∀ m∈zu c zw a.Zao[i],AttrP c zw k (target c a.Zao[i] m):=by
      rw [hs,←hst]
      constructor
      · intro h x hx
        obtain ⟨m,hm,rfl⟩:=List.mem_map.1 hx
        exact (go m hm).1 (h _ (List.mem_map.2 ⟨m,hm,rfl⟩))
      · intro h x hx
        obtain ⟨m,hm,rfl⟩:=List.mem_map.1 hx
        exact (go m hm).2 (h _ (List.mem_map.2 ⟨m,hm,rfl⟩))
    have hex:(∃ t∈(gm c a).succ i,Attr (gm c a) k t)↔∃ m∈zu c zw a.Zao[i],AttrP c zw k (target c a.Zao[i] m):=by
      rw [hs,←hst]
      constructor
      · rintro ⟨x,hx,h⟩
        obtain ⟨m,hm,rfl⟩:=List.mem_map.1 hx
        exact ⟨_,List.mem_map.2 ⟨m,hm,rfl⟩,(go m hm).1 h⟩
      · rintro ⟨x,hx,h⟩
        obtain ⟨m,hm,rfl⟩:=List.mem_map.1 hx
        exact ⟨_,List.mem_map.2 ⟨m,hm,rfl⟩,(go m hm).2 h⟩
    show ((gm c a).lost i=true∨((gm c a).own i=true∧∀ t∈(gm c a).succ i,Attr (gm c a) k t)∨((gm c a).own i=false∧∃ t∈(gm c a).succ i,Attr (gm c a) k t))↔_
    rw [A.lost hi,A.own hi,hall,hex]
    rfl
def RankP (c:Zab) (zw:Int) (q:Zah) (x:Int):Prop := -1≤x∧∀ k:Nat,(x ≠ -1∧x≤k)↔AttrP c zw k q
theorem ze6 (A:ArOk c zw p a) {r:Nat→Int} (hr:yu (gm c a) r) {i:Nat} (hi:i < a.Zao.length):RankP c zw a.Zao[i] (r i):=
  ⟨(hr i hi).1,fun k=>((hr i hi).2 k).trans (ze5 A k i hi)⟩
theorem RankP.safe {q:Zah} {x:Int} (h:RankP c zw q x):x = -1↔yQ c zw q:=by
  constructor
  · intro e k hk
    exact ((h.2 k).2 hk).1 e
  · intro hs
    have:=h.1
    by_cases e:x = -1
    · exact e
    · exact absurd ((h.2 x.toNat).1 ⟨e,by omega⟩) (hs _)
end
end
section
open Classical in
noncomputable def zD (c:Zab) (zw:Int) (q:Zah):Bool:=decide (yQ c zw q)
theorem jL {c:Zab} {zw:Int} {q:Zah}:zD c zw q=true↔yQ c zw q:=by unfold zD;simp
theorem Jz {c:Zab} {zw:Int} {q:Zah} (h:yQ c zw q):qF c q.state zw=false:=by
  cases e:qF c q.state zw with
  | false=>rfl
  | true=>exact absurd e (h 0)
theorem zdd {c:Zab} {zw:Int} (l:List Int) (f:Int→Zah) (h:∀ m∈l,¬ yQ c zw (f m)):∃ k,∀ m∈l,AttrP c zw k (f m):=by
  induction l with
  | nil=>exact ⟨0,fun m hm=>by cases hm⟩
  | cons x l ih=>
    obtain ⟨k,hk⟩:=ih fun m hm=>h m (List.mem_cons_of_mem _ hm)
    have hx:=h x List.mem_cons_self
    obtain ⟨k2,hk2⟩:∃ k,AttrP c zw k (f x):=Classical.not_forall_not.1 hx
    refine ⟨k+k2,fun m hm => ?_⟩
    rcases List.mem_cons.1 hm with rfl | hm
    · exact hk2.mono (by omega)
    · exact (hk m hm).mono (by omega)
theorem zgC {c:Zab} {zw:Int} {q:Zah} (ho:q.own=true):yQ c zw q↔qF c q.state zw=false∧∃ m∈zu c zw q,yQ c zw (target c q m):=by
  constructor
  · intro h
    refine ⟨Jz h,?_⟩
    apply Classical.byContradiction
    intro hn
    obtain ⟨k,hk⟩:=zdd (zu c zw q) (target c q) (fun m hm hs=>hn ⟨m,hm,hs⟩)
    exact h (k+1) (.inr (.inl ⟨ho,hk⟩))
  · rintro ⟨h1,m,hm,h2⟩ k hk
    cases k with
    | zero=>
      have hk:qF c q.state zw=true:=hk
      rw [h1] at hk;cases hk
    | succ k=>
      rcases hk with hk | ⟨_,hk⟩ | ⟨hk,_⟩
      · rw [h1] at hk;cases hk
      · exact h2 k (hk m hm)
      · rw [ho] at hk;cases hk
theorem zgD {c:Zab} {zw:Int} {q:Zah} (ho:q.own=false):yQ c zw q↔qF c q.state zw=false∧∀ m∈zu c zw q,yQ c zw (target c q m):=by
  constructor
  · intro h
    exact ⟨Jz h,fun m hm k hk=>h (k+1) (.inr (.inr ⟨ho,m,hm,hk⟩))⟩
  · rintro ⟨h1,h2⟩ k hk
    cases k with
    | zero=>
      have hk:qF c q.state zw=true:=hk
      rw [h1] at hk;cases hk
    | succ k=>
      rcases hk with hk | ⟨hk,_⟩ | ⟨_,m,hm,hk⟩
      · rw [h1] at hk;cases hk
      · rw [ho] at hk;cases hk
      · exact h2 m hm k hk
section
variable {c:Zab} {zw:Int} {p:Zah} {a:ZaC}
theorem zgE (hc:c.Ok) (A:ArOk c zw p a):kz c a=some (a.Zao.map (zD c zw)):=by
  refine Ret.eq ?_
  have hn:a.Zao.length≤1500:=A.F.inv.len
  unfold kz
  refine Ret.bind (YP hc A) ?_
  rintro r ⟨hl,hr,_⟩
  have hmk:mkN 1 (r.length:Int)=some a.Zao.length:=by rw [hl];exact ZP hn (by omega)
  refine Ret.bindE hmk ?_
  refine Ret.bind (P:=fun o:List Bool ⊕ Unit=>o=.inl (a.Zao.map (zD c zw))) (Ret.forL (fun i s=>s.length=a.Zao.length∧∀ j,j < i→s[j]?=(a.Zao.map (zD c zw))[j]?) (by omega) ⟨by simp,fun j hj=>by omega⟩ (fun i s hi hs => ?_) (fun s hs => ?_)) ?_
  · have hi':i < a.Zao.length:=by omega
    refine Ret.bindE (zj (xE hi)) ?_
    refine Ret.bindE (zO hi') ?_
    refine Ret.bindE (List.getElem?_eq_getElem (show i < s.length by omega)) ?_
    refine Ret.some ⟨by simp [hs.1],fun j hj => ?_⟩
    by_cases e:j=i
    · subst e
      rw [List.getElem?_set_self (by omega),List.getElem?_map,List.getElem?_eq_getElem hi']
      simp only [Option.map_some,Option.some.injEq]
      have h1:=(ze6 A hr hi').safe
      cases h2:zD c zw a.Zao[j] with
      | true=>rw [h1.2 (jL.1 h2)];rfl
      | false=>
        refine beq_eq_false_iff_ne.2 fun e => ?_
        rw [jL.2 (h1.1 e)] at h2;cases h2
    · rw [List.getElem?_set_ne (Ne.symm e)];exact hs.2 j (by omega)
  · have e:s=a.Zao.map (zD c zw):=List.ext_getElem? fun j=>by
      by_cases h:j < r.length
      · exact hs.2 j h
      · rw [List.getElem?_eq_none (by omega),List.getElem?_eq_none (by simp;omega)]
    rw [e]
  · rintro _ rfl
    simp only [Sum.elim_inl]
    refine Ret.bindE (xp (by simp)) ?_
    exact Ret.some rfl
noncomputable def qD (c:Zab) (zw:Int) (q:Zah):Int:=
  bif q.own&&zD c zw q then ((zu c zw q).find? fun m=>zD c zw (target c q m)).getD (-2) else -2
theorem zb7 (A:ArOk c zw p a) {i:Nat} (hi:i < a.Zao.length):ze (a.Zao.map (zD c zw)) (i:Int)=some (zD c zw a.Zao[i]):=zj (by rw [List.getElem?_map,List.getElem?_eq_getElem hi];rfl)
theorem zic (A:ArOk c zw p a) {i:Nat} (hi:i < a.Zao.length) {T:List Zar} (hT:a.moves[i]?=some T) {m:Zar} (hm:m∈T):ze (a.Zao.map (zD c zw)) m.to=some (zD c zw (target c a.Zao[i] m.step)):=by
  obtain ⟨_,t2,t3,t4⟩:=A.tgt hi hT hm
  have:=zb7 A t3
  rw [Int.toNat_of_nonneg t2,t4] at this
  exact this
theorem zbB (hc:c.Ok) (A:ArOk c zw p a):Za a (a.Zao.map (zD c zw))=some (a.Zao.map (qD c zw)):=by
  refine Ret.eq ?_
  have hn:a.Zao.length≤1500:=A.F.inv.len
  unfold Za
  refine Ret.bindE (ZP hn (by omega)) ?_
  refine Ret.bind (P:=fun o:List Int ⊕ Unit=>o=.inl (a.Zao.map (qD c zw))) (Ret.forL (fun i s=>s.length=a.Zao.length∧∀ j,j < i→s[j]?=(a.Zao.map (qD c zw))[j]?) (by omega) ⟨by simp,fun j hj=>by omega⟩ (fun i s hi hs => ?_) (fun s hs => ?_)) ?_
  · obtain ⟨T,hT,hst,_⟩:=A.mv hi
    have hTl:=A.len hc hi hT
    have hfin:∀ x:Int,x=qD c zw a.Zao[i]→(s.set i x).length=a.Zao.length∧∀ j,j < i+1→(s.set i x)[j]?=(a.Zao.map (qD c zw))[j]?:=fun x hx=>by
      refine ⟨by simp [hs.1],fun j hj => ?_⟩
      by_cases e:j=i
      · subst e
        rw [List.getElem?_set_self (by omega),List.getElem?_map,List.getElem?_eq_getElem hi,hx];rfl
      · rw [List.getElem?_set_ne (Ne.symm e)];exact hs.2 j (by omega)
    refine Ret.bind (P:=fun s2:List Int=>∃ x,x=qD c zw a.Zao[i]∧s2=s.set i x) ?_ (fun s2 h=>by obtain ⟨x,h1,rfl⟩:=h;exact Ret.some (hfin x h1))
    refine Ret.bindE (zj (List.getElem?_eq_getElem hi)) ?_
    refine Ret.bindE (zO hi) ?_
    refine Ret.bindE (List.getElem?_eq_getElem (show i < s.length by omega)) ?_
    refine Ret.bindE (v := !(a.Zao[i].own&&zD c zw a.Zao[i])) ?_ ?_
    · rw [zb7 A hi]
      cases a.Zao[i].own<;>cases zD c zw a.Zao[i]<;>rfl
    refine Ret.ite (fun h=>Ret.some ⟨-2,?_,rfl⟩) (fun h => ?_)
    · unfold qD
      have:(a.Zao[i].own&&zD c zw a.Zao[i])=false:=by
        cases hx:(a.Zao[i].own&&zD c zw a.Zao[i]) with
        | false=>rfl
        | true=>rw [hx] at h;cases h
      rw [this];rfl
    · have hos:(a.Zao[i].own&&zD c zw a.Zao[i])=true:=by
        cases hx:(a.Zao[i].own&&zD c zw a.Zao[i]) with
        | true=>rfl
        | false=>rw [hx] at h;cases h
      have hadv:qD c zw a.Zao[i]=((T.map (·.step)).find? fun m=>zD c zw (target c a.Zao[i] m)).getD (-2):=by
        unfold qD;rw [hos,hst];rfl
      refine Ret.bindE (zj hT) ?_
      refine Ret.bind (P:=fun o:Unit ⊕ List Int=>(o=.inl ()∧∀ m∈T,zD c zw (target c a.Zao[i] m.step)=false)∨∃ x,x=qD c zw a.Zao[i]∧o=.inr (s.set i x))
        (Ret.forL (fun k _=>∀ (j:Nat) (hj:j < T.length),j < k→zD c zw (target c a.Zao[i] T[j].step)=false) (by omega) (fun j _ hj=>by omega) (fun k _ hk hk2 => ?_) (fun _ h=>.inl ⟨rfl,fun m hm=>by obtain ⟨j,hj,rfl⟩:=List.getElem_of_mem hm;exact h j hj hj⟩)) ?_
      · refine Ret.bindE (zj (List.getElem?_eq_getElem hk)) ?_
        refine Ret.bindE (zic A hi hT (List.getElem_mem hk)) ?_
        refine Ret.ite (fun hsf => ?_) (fun hsf=>Ret.some fun j hj hjk => ?_)
        · refine Ret.bindE (zO hi) ?_
          refine Ret.bindE (List.getElem?_set_self (show i < s.length by omega)) ?_
          refine Ret.some (.inr ⟨T[k].step,?_,by rw [List.set_set]⟩)
          rw [hadv]
          have hf:(T.map (·.step)).find? (fun m=>zD c zw (target c a.Zao[i] m))=some T[k].step:=by
            have hf2:T.find? ((fun m=>zD c zw (target c a.Zao[i] m))∘fun x=>x.step)=some T[k]:=by
              refine List.find?_eq_some_iff_getElem.2 ⟨hsf,k,hk,rfl,fun j hj => ?_⟩
              have:=hk2 j (by omega) hj
              simp only [Function.comp_apply,this,Bool.not_false]
            rw [List.find?_map,hf2];rfl
          rw [hf];rfl
        · by_cases e:j=k
          · subst e;exact hsf
          · exact hk2 j hj (by omega)
      · rintro _ (⟨rfl,h⟩ | ⟨x,h1,rfl⟩)
        · refine Ret.some ⟨-2,?_,rfl⟩
          rw [hadv,List.find?_eq_none.2 (fun m hm => ?_)]
          · rfl
          · obtain ⟨t,ht,rfl⟩:=List.mem_map.1 hm
            simp [h t ht]
        · exact Ret.some ⟨x,h1,rfl⟩
  · have e:s=a.Zao.map (qD c zw):=List.ext_getElem? fun j=>by
      by_cases h:j < a.Zao.length
      · exact hs.2 j h
      · rw [List.getElem?_eq_none (by omega),List.getElem?_eq_none (by simp;omega)]
    rw [e]
  · rintro _ rfl
    simp only [Sum.elim_inl]
    refine Ret.bindE (xp (by simp)) ?_
    exact Ret.some rfl
end
end
section
def atO (s:Zad):Zah:={state:=s,own:=true}
def atX (s:Zad):Zah:={state:=s,own:=false}
section
variable {c:Zab} {zw:Int} {p:Zah} {a:ZaC}
theorem Xs (hc:c.Ok) (A:ArOk c zw p a) {i:Nat} (hi:i < a.Zao.length) (x:Int):Ret (yB a (i:Int) x) (fun r=>(x∈zu c zw a.Zao[i]∧r.2=true∧∃ j,∃ hj:j < a.Zao.length,r.1=(j:Int)∧a.Zao[j]=target c a.Zao[i] x)∨(x ∉ zu c zw a.Zao[i]∧r=(0,false))):=by
  obtain ⟨T,hT,hst,_⟩:=A.mv hi
  have hTl:=A.len hc hi hT
  unfold yB
  refine Ret.bindE (zj hT) ?_
  refine Ret.bind (P:=fun o:Unit ⊕ Int=>(∃ m∈T,m.step=x∧o=.inr m.to)∨(o=.inl ()∧∀ m∈T,m.step≠x)) (Ret.forL (fun k _=>∀ (j:Nat) (hj:j < T.length),j < k→T[j].step≠x) (by omega) (fun j _ hj=>by omega) (fun k _ hk hk2 => ?_) (fun _ h=>.inr ⟨rfl,fun m hm=>by obtain ⟨j,hj,rfl⟩:=List.getElem_of_mem hm;exact h j hj hj⟩)) ?_
  · refine Ret.bindE (zj (List.getElem?_eq_getElem hk)) ?_
    refine Ret.ite (fun h=>Ret.some (.inl ⟨_,List.getElem_mem hk,by simpa using h,rfl⟩)) (fun h=>Ret.some fun j hj hjk => ?_)
    by_cases e:j=k
    · subst e;simpa using h
    · exact hk2 j hj (by omega)
  · rintro _ (⟨m,hm,e,rfl⟩ | ⟨rfl,h⟩)
    · obtain ⟨t1,t2,t3,t4⟩:=A.tgt hi hT hm
      rw [e] at t1 t4
      exact Ret.some (.inl ⟨t1,rfl,m.to.toNat,t3,(Int.toNat_of_nonneg t2).symm,t4⟩)
    · refine Ret.some (.inr ⟨fun hx => ?_,rfl⟩)
      rw [←hst] at hx
      obtain ⟨m,hm,e⟩:=List.mem_map.1 hx
      exact h m hm e
theorem zgF {q:Zah} (ho:q.own=true):(-2:Int)∈zu c zw q:=jh.2 (.inl ⟨ho,rfl⟩)
theorem zaZ {q:Zah} (ho:q.own=false) (hd:q.state.day < c.Zat):(-1:Int)∈zu c zw q:=jh.2 (.inr (.inl ⟨hd,ho,rfl⟩))
end
end
section
noncomputable def stF (c:Zab) (s0:Zad) (l:List Int):Zad:=l.foldl (fun s x=>z8 c s x) s0
theorem xR (c:Zab) (s0:Zad) (l:List Int) (x:Int):stF c s0 (l++[x])=z8 c (stF c s0 l) x:=by unfold stF;rw [List.foldl_append];rfl
structure TrOk (c:Zab) (P:Zad→Prop) (s0:Zad) (l:List Int):Prop where
  first:P s0
  step:∀ (k:Nat) (hk:k < l.length),(stF c s0 (l.take k)).day < c.Zat ∧ -1≤l[k]∧l[k] < c.Zai.length∧P (stF c s0 (l.take (k+1)))
section
variable {c:Zab} {P:Zad→Prop} {s0:Zad} {l:List Int}
theorem TrOk.nil (h:P s0):TrOk c P s0 []:=⟨h,fun k hk=>by simp at hk⟩
theorem TrOk.snoc (h:TrOk c P s0 l) {x:Int} (hd:(stF c s0 l).day < c.Zat) (h0 : -1≤x) (h1:x < c.Zai.length) (hP:P (z8 c (stF c s0 l) x)):TrOk c P s0 (l++[x]):=by
  refine ⟨h.first,fun k hk => ?_⟩
  rw [List.length_append] at hk
  simp only [List.length_cons,List.length_nil] at hk
  by_cases e:k=l.length
  · subst e
    have e1:(l++[x]).take l.length=l:=by simp
    have e2:(l++[x]).take (l.length+1)=l++[x]:=List.take_of_length_le (by simp)
    rw [e1,e2,xR]
    simp only [List.getElem_append_right (Nat.le_refl _),Nat.sub_self,List.getElem_cons_zero]
    exact ⟨hd,h0,h1,hP⟩
  · have hk2:k < l.length:=by omega
    rw [List.take_append_of_le_length (by omega),List.take_append_of_le_length (by omega),List.getElem_append_left hk2]
    exact h.step k hk2
theorem TrOk.take (h:TrOk c P s0 l) (n:Nat):TrOk c P s0 (l.take n):=by
  refine ⟨h.first,fun k hk => ?_⟩
  rw [List.length_take] at hk
  have h1:=h.step k (by omega)
  rw [List.take_take,List.take_take,show min k n=k by omega,show min (k+1) n=k+1 by omega,List.getElem_take]
  exact h1
theorem TrOk.all (h:TrOk c P s0 l):∀ k,k≤l.length→P (stF c s0 (l.take k))
  | 0,_=>by rw [List.take_zero];exact h.first
  | k+1,hk=>(h.step k (by omega)).2.2.2
theorem TrOk.vs (hc:c.Ok) (hv:VS c s0) (h:TrOk c P s0 l):∀ k,k≤l.length→VS c (stF c s0 (l.take k))
  | 0,_=>by rw [List.take_zero];exact hv
  | k+1,hk=>by
    obtain ⟨a1,a2,a3,_⟩:=h.step k (by omega)
    have h2:=TrOk.vs hc hv h k (by omega)
    rw [List.take_succ_eq_append_getElem (by omega),xR]
    exact (xX hc h2 a2 a3 a1).2.1
theorem TrOk.vsl (hc:c.Ok) (hv:VS c s0) (h:TrOk c P s0 l):VS c (stF c s0 l):=by
  have:=h.vs hc hv l.length (Nat.le_refl _)
  rwa [List.take_length] at this
end
def jU (c:Zab) (s:Zad) (x:Int):Int:=if x = -1 then -1 else match c.Zai[x.toNat]? with
  | some a=>jT s.Zae a
  | none => -1
theorem YQ {c:Zab} {s:Zad} (hv:VS c s) {x:Int} (h0 : -1≤x) (h1:x < c.Zai.length):ZK c s x=some (jU c s x):=by
  unfold ZK jU
  by_cases e:x = -1
  · subst e;rfl
  · obtain ⟨i,rfl⟩:∃ i:Nat,x=(i:Int):=⟨x.toNat,by omega⟩
    have hi:i < c.Zai.length:=by omega
    have av:=Kr hv.cv (List.getElem?_eq_getElem hi)
    have hr:=av.Zaq
    have hlh:=hv.lh
    rw [beq_eq_false_iff_ne.2 e,if_neg e,ZaI,zj (List.getElem?_eq_getElem hi),Int.toNat_natCast,List.getElem?_eq_getElem hi]
    simp only [ZaJ,jT]
    cases hz:(c.Zai[i].Zaq == -1) with
    | true=>rfl
    | false=>
      have hz':c.Zai[i].Zaq ≠ -1:=by simpa using hz
      obtain ⟨h2,h3⟩:=qW (l:=s.Zae) (n:=c.Zai[i].Zaq) (by omega) (by omega)
      simp only [ZaI,h3,ZaJ]
      rw [List.getElem?_eq_getElem h2];rfl
section
variable {c:Zab} {zw:Int} {p:Zah} {a:ZaC}
theorem ze7 (hc:c.Ok) (A:ArOk c zw p a) {s:Zad} {j:Nat} (hj:j < a.Zao.length) (hs:a.Zao[j]=atO s) (hd:s.day < c.Zat) {x:Int} (h0 : -1≤x) (h1:x < c.Zai.length) {l:List Int} (hl:l.length≤5000) :
    Ret (kB x l (j:Int) c a zw) (fun r=>r.1=l++[x]∧∃ j2,∃ hj2:j2 < a.Zao.length,r.2=(j2:Int)∧a.Zao[j2]=atO (z8 c s x)):=by
  have hv:VS c s:=by have:=A.F.inv.vs _ (List.getElem_mem hj);rw [hs] at this;exact this
  have hp0:=A.p0
  unfold kB
  refine Ret.bindE (jw (by simp;omega)) ?_
  refine Ret.bind (P:=fun v:Int=>∃ o:Bool,(o=(jU c s x == zw))∧∃ j1,∃ hj1:j1 < a.Zao.length,v=(j1:Int)∧a.Zao[j1]={state:=s,own:=o}) ?_ ?_
  · refine Ret.bindE (zj (List.getElem?_eq_getElem hj)) ?_
    rw [hs]
    refine Ret.bindE (YQ hv h0 h1) ?_
    refine Ret.ite (fun h=>Ret.some ⟨true,h.symm,j,hj,rfl,hs⟩) (fun h => ?_)
    refine Ret.bind (Xs hc A hj (-2)) ?_
    intro r hr
    obtain ⟨_,_,j1,hj1,g1,g2⟩:=hr.resolve_right (fun h=>by rw [hs] at h;exact h.1 (zgF rfl))
    rw [hs,Zo] at g2
    exact Ret.some ⟨false,h.symm,j1,hj1,g1,g2⟩
  · rintro _ ⟨o,ho,j1,hj1,rfl,h2⟩
    refine Ret.bind (Xs hc A hj1 x) ?_
    rintro r (⟨g1,g2,j2,hj2,g3,g4⟩ | ⟨g1,rfl⟩)
    · rw [h2,yh c _ h0] at g4
      refine Ret.ite (fun _=>Ret.some ⟨rfl,j2,hj2,g3,g4⟩) (fun h=>by rw [g2] at h;cases h)
    · refine Ret.ite (fun h=>by cases h) (fun _=>Ret.some ⟨rfl,j,hj,rfl,?_⟩)
      rw [h2] at g1
      by_cases e:x = -1
      · exfalso
        subst e
        have:jU c s (-1) = -1:=by unfold jU;rw [if_pos rfl]
        rw [this,beq_eq_false_iff_ne.2 (by omega)] at ho
        subst ho
        exact g1 (zaZ rfl hd)
      · obtain ⟨i,rfl⟩:∃ i:Nat,x=(i:Int):=⟨x.toNat,by omega⟩
        have hi:i < c.Zai.length:=by omega
        cases hsm:wk (z8 c s i) s with
        | true=>rw [hs,wK.1 hsm]
        | false=>
          exfalso
          refine g1 (jh.2 (.inr (.inr ⟨hd,i,hi,?_,rfl⟩)))
          have hdo:jU c s (i:Int)=jT s.Zae c.Zai[i]:=by
            unfold jU;rw [if_neg (by omega),Int.toNat_natCast,List.getElem?_eq_getElem hi]
          rw [hdo] at ho
          simp only [mvB,List.getElem?_eq_getElem hi,hsm]
          rw [ho];simp
end
end
section
section
variable {c:Zab} {zw:Int} {p:Zah} {a:ZaC}
theorem zb8 {q:Zah} (ho:q.own=true) (hs:zD c zw q=true):qD c zw q∈zu c zw q∧zD c zw (target c q (qD c zw q))=true∧∀ m∈zu c zw q,zD c zw (target c q m)=true→qD c zw q≤m:=by
  obtain ⟨_,m0,hm0,hs0⟩:=(zgC ho).1 (jL.1 hs)
  have hadv:qD c zw q=((zu c zw q).find? fun m=>zD c zw (target c q m)).getD (-2):=by unfold qD;rw [ho,hs];rfl
  cases hf:(zu c zw q).find? (fun m=>zD c zw (target c q m)) with
  | none=>
    have:=List.find?_eq_none.1 hf m0 hm0
    rw [jL.2 hs0] at this
    exact absurd rfl this
  | some x=>
    rw [hf] at hadv
    have hadv:qD c zw q=x:=hadv
    obtain ⟨h1,i,hi,h2,h3⟩:=List.find?_eq_some_iff_getElem.1 hf
    rw [hadv]
    refine ⟨by rw [←h2];exact List.getElem_mem hi,h1,fun m hm hsm => ?_⟩
    obtain ⟨j,hj,rfl⟩:=List.getElem_of_mem hm
    by_cases e:j < i
    · have:=h3 j e
      rw [hsm] at this;cases this
    · by_cases e2:j=i
      · subst e2;omega
      · have:=List.pairwise_iff_getElem.1 (zeV c zw q) i j hi hj (by omega)
        omega
end
end
section
inductive Adv (c:Zab) (zw:Int) (s0:Zad):List Int→List Int→Prop where
  | stop {l:List Int} (h:qD c zw (atO (stF c s0 l)) = -2):Adv c zw s0 l l
  | go {l l2:List Int} (h:qD c zw (atO (stF c s0 l)) ≠ -2) (t:Adv c zw s0 (l++[qD c zw (atO (stF c s0 l))]) l2):Adv c zw s0 l l2
inductive Fw (c:Zab) (zw:Int) (s0:Zad):List Int→List Int→List Int→Prop where
  | done {l:List Int}:Fw c zw s0 [] l l
  | stop {o:Int} {os l:List Int} (h:(stF c s0 l).day=c.Zat):Fw c zw s0 (o::os) l l
  | own {o:Int} {os l l1 l2:List Int} (h:(stF c s0 l).day≠c.Zat) (ha:Adv c zw s0 l l1) (hd:jU c (stF c s0 l1) o=zw) (t:Fw c zw s0 os l1 l2):Fw c zw s0 (o::os) l l2
  | oth {o:Int} {os l l1 l2:List Int} (h:(stF c s0 l).day≠c.Zat) (ha:Adv c zw s0 l l1) (hd:jU c (stF c s0 l1) o≠zw) (t:Fw c zw s0 os (l1++[o]) l2):Fw c zw s0 (o::os) l l2
section
variable {c:Zab} {zw:Int} {s0:Zad} {a:ZaC}
theorem zb9 (hc:c.Ok) {s:Zad} (hv:VS c s) (h:qD c zw (atO s) ≠ -2):0≤qD c zw (atO s)∧qD c zw (atO s) < c.Zai.length∧s.day < c.Zat∧zD c zw (atO s)=true∧zD c zw (atO (z8 c s (qD c zw (atO s))))=true∧(z8 c s (qD c zw (atO s))).day=s.day:=by
  have hs:zD c zw (atO s)=true:=by
    cases e:zD c zw (atO s) with
    | true=>rfl
    | false=>exact absurd (by unfold qD;rw [e,Bool.and_false];rfl) h
  obtain ⟨h1,h2,_⟩:=zb8 (c:=c) (zw:=zw) (q:=atO s) rfl hs
  generalize qD c zw (atO s)=x at *
  rcases jh.1 h1 with ⟨_,e⟩ | ⟨_,e,_⟩ | ⟨hd,i,hi,_,e⟩
  · exact absurd e h
  · cases e
  · subst e
    rw [yh c _ (by omega)] at h2
    have hd:s.day < c.Zat:=hd
    refine ⟨by omega,by omega,hd,hs,h2,?_⟩
    obtain ⟨_,_,_,ha⟩:=xX hc hv (a:=(i:Int)) (by omega) (by omega) hd
    rcases ha i c.Zai[i] rfl (List.getElem?_eq_getElem hi) with ⟨_,_,e⟩ | ⟨_,e,_⟩
    · rw [e]
    · exact e
abbrev Any (s:Zad):Prop:=True
theorem zde (hc:c.Ok) (zw:Int) (ZaH:List Int) (hol:ZaH.length < 4611686018427387904):Ret (Qt c zw ZaH) (fun r=>(r.2≠0∧r.1=[])∨(r.2=0∧∃ s0 a,qz c=some (s0,0)∧qX c zw=some (a,0)∧ArOk c zw (atO s0) a∧VS c s0∧TrOk c Any s0 r.1∧Fw c zw s0 ZaH [] r.1∧r.1.length≤4000∧∀ x∈ZaH,-1≤x∧x < c.Zai.length)):=by
  unfold Qt
  obtain ⟨⟨a,e⟩,hB,hR⟩:=zb6 hc zw
  refine Ret.bindE hB ?_
  refine Ret.ite (fun _=>Ret.some (.inl ⟨by simp,rfl⟩)) (fun he1 => ?_)
  refine Ret.bind (P:=fun o:Unit ⊕ Unit=>o=.inr ()∨(o=.inl ()∧∀ x∈ZaH,-1≤x∧x < c.Zai.length)) (Ret.forL (fun i _=>∀ (j:Nat) (hj:j < ZaH.length),j < i → -1≤ZaH[j]∧ZaH[j] < c.Zai.length) hol (fun j _ h=>by omega) (fun i _ hi h => ?_) (fun _ h=>.inr ⟨rfl,fun x hx=>by obtain ⟨j,hj,rfl⟩:=List.getElem_of_mem hx;exact h j hj hj⟩)) ?_
  · refine Ret.bindE (zj (List.getElem?_eq_getElem hi)) ?_
    refine Ret.bindE (v:=(decide (ZaH[i] < -1)||decide ((c.Zai.length:Int)≤ZaH[i]))) (by cases decide (ZaH[i] < -1)<;>rfl) ?_
    refine Ret.ite (fun _=>Ret.some (.inl rfl)) (fun hq=>Ret.some fun j hj hji => ?_)
    simp only [Bool.or_eq_false_iff,decide_eq_false_iff_not] at hq
    by_cases e2:j=i
    · subst e2;omega
    · exact h j hj (by omega)
  rintro _ (rfl | ⟨rfl,hoth⟩)
  · exact Ret.some (.inl ⟨by simp,rfl⟩)
  simp only [Sum.elim_inl]
  rcases hR with ⟨he,_⟩ | ⟨he,s0,hst,hv0,A⟩
  · simp only at he
    refine Ret.bindE (v:=true) (by rw [show (((a,e):ZaC×Int).2 == 0)=false from beq_eq_false_iff_ne.2 he];rfl) ?_
    exact Ret.ite (fun _=>Ret.some (.inl ⟨by simp,rfl⟩)) (fun h=>by cases h)
  simp only at he A
  subst he
  refine Ret.bindE (v:=decide (4000 < (ZaH.length:Int))) rfl ?_
  refine Ret.ite (fun _=>Ret.some (.inl ⟨by simp,rfl⟩)) (fun _ => ?_)
  refine Ret.bindE (zgE hc A) ?_
  refine Ret.bindE (zbB hc A) ?_
  have hadvI:∀ (j:Nat) (hj:j < a.Zao.length),ze (a.Zao.map (qD c zw)) (j:Int)=some (qD c zw a.Zao[j]):=fun j hj=>zj (by rw [List.getElem?_map,List.getElem?_eq_getElem hj];rfl)
  have hp:=A.pos
  have hpos0:a.Zao[0]=atO s0:=by have:=A.F.first;rw [List.getElem?_eq_getElem hp] at this;exact Option.some.inj this
  refine Ret.bind (P:=fun o:List Int ⊕ Unit=>(∃ l,o=.inl l∧TrOk c Any s0 l∧Fw c zw s0 ZaH [] l∧l.length≤4000)∨o=.inr ()) ?_ ?_
  · refine Ret.bind (P:=fun o:(List Int×Int) ⊕ (List Int ⊕ Unit)=>(∃ x,o=.inl x∧TrOk c Any s0 x.1∧Fw c zw s0 ZaH [] x.1∧x.1.length≤4000)∨(∃ l,o=.inr (.inl l)∧TrOk c Any s0 l∧Fw c zw s0 ZaH [] l∧l.length≤4000)∨o=.inr (.inr ()))
      (Ret.forL (fun i x=>TrOk c Any s0 x.1∧x.1.length≤4000∧(∃ j,∃ hj:j < a.Zao.length,x.2=(j:Int)∧a.Zao[j]=atO (stF c s0 x.1))∧∀ l2,Fw c zw s0 (ZaH.drop i) x.1 l2→Fw c zw s0 ZaH [] l2) hol
        ⟨.nil trivial,by simp,⟨0,hp,rfl,hpos0⟩,fun l2 h=>h⟩ (fun i x hi hx => ?_) (fun x hx => ?_)) ?_
    · obtain ⟨l,at0⟩:=x
      obtain ⟨ht,hl,⟨j,hj,hat,hpj⟩,hfw⟩:=hx
      simp only at ht hl hat hpj hfw ⊢
      subst hat
      have hdrop:ZaH.drop i=ZaH[i]::ZaH.drop (i+1):=List.drop_eq_getElem_cons hi
      have hvl:=ht.vsl hc hv0
      refine Ret.bindE (zj (List.getElem?_eq_getElem hi)) ?_
      refine Ret.bindE (zj (List.getElem?_eq_getElem hj)) ?_
      rw [hpj]
      refine Ret.ite (fun h => ?_) (fun h => ?_)
      · have hday:(stF c s0 l).day=c.Zat:=by simpa [atO] using h
        exact Ret.some (.inr (.inl ⟨l,rfl,ht,hfw l (by rw [hdrop];exact .stop hday),hl⟩))
      have hday:(stF c s0 l).day≠c.Zat:=by
        intro e
        have h:((stF c s0 l).day == c.Zat)=false:=h
        rw [e,beq_self_eq_true] at h;cases h
      have hdlt:(stF c s0 l).day < c.Zat:=by have:=hvl.day;omega
      refine Ret.bind (P:=fun v:List Int×Int=>TrOk c Any s0 v.1∧v.1.length≤4001∧(∃ j,∃ hj:j < a.Zao.length,v.2=(j:Int)∧a.Zao[j]=atO (stF c s0 v.1))∧(stF c s0 v.1).day < c.Zat∧(Adv c zw s0 l v.1∨4000 < v.1.length)) ?_ ?_
      · refine Ret.bind (P:=fun v:List Int×Int=>TrOk c Any s0 v.1∧v.1.length≤4001∧(∃ j,∃ hj:j < a.Zao.length,v.2=(j:Int)∧a.Zao[j]=atO (stF c s0 v.1))∧(stF c s0 v.1).day < c.Zat∧(Adv c zw s0 l v.1∨4000 < v.1.length))
          (Ret.iter (fun v:List Int×Int=>TrOk c Any s0 v.1∧v.1.length≤4001∧(∃ j,∃ hj:j < a.Zao.length,v.2=(j:Int)∧a.Zao[j]=atO (stF c s0 v.1))∧(stF c s0 v.1).day < c.Zat∧∀ l2,Adv c zw s0 v.1 l2→Adv c zw s0 l l2) (fun v=>5000 - v.1.length)
            ⟨ht,by show l.length≤4001;omega,⟨j,hj,rfl,hpj⟩,hdlt,fun l2 h=>h⟩ (fun v hv => ?_)) (fun v hv=>Ret.some hv)
        obtain ⟨l1,at1⟩:=v
        obtain ⟨ht1,hl1,⟨j1,hj1,hat1,hpj1⟩,hd1,hadv⟩:=hv
        simp only at ht1 hl1 hat1 hpj1 hd1 hadv ⊢
        subst hat1
        have hv1:=ht1.vsl hc hv0
        have hI:=hadvI j1 hj1
        rw [hpj1] at hI
        refine Ret.bindE (v:=(!(qD c zw (atO (stF c s0 l1)) == -2)&&decide ((l1.length:Int)≤4000))) ?_ ?_
        · rw [hI]
          simp only [ZaJ]
          cases (qD c zw (atO (stF c s0 l1)) == -2)<;>rfl
        refine Ret.ite (fun hq => ?_) (fun hq=>Ret.some ⟨ht1,hl1,⟨j1,hj1,rfl,hpj1⟩,hd1,?_⟩)
        · simp only [Bool.and_eq_true,Bool.not_eq_true',beq_eq_false_iff_ne,decide_eq_true_eq] at hq
          obtain ⟨b0,b1,_,_,_,b2⟩:=zb9 hc hv1 hq.1
          refine Ret.bindE hI ?_
          refine Ret.bind (ze7 hc A hj1 hpj1 hd1 (by omega) b1 (by omega)) ?_
          rintro ⟨l3,at3⟩ ⟨g1,j3,hj3,g2,g3⟩
          simp only at g1 g2 g3
          subst g1 g2
          refine Ret.some ⟨⟨ht1.snoc hd1 (by omega) b1 trivial,by show (l1++[_]).length≤4001;simp;omega,⟨j3,hj3,rfl,by rw [xR];exact g3⟩,by rw [xR,b2];exact hd1,fun l2 h=>hadv l2 (.go hq.1 h)⟩,by show 5000 - (l1++[_]).length < 5000 - l1.length;simp;omega⟩
        · by_cases e:qD c zw (atO (stF c s0 l1)) = -2
          · exact .inl (hadv l1 (.stop e))
          · right
            rw [beq_eq_false_iff_ne.2 e] at hq
            have:¬ ((l1.length:Int)≤4000):=fun h=>by rw [decide_eq_true h] at hq;cases hq
            show 4000 < l1.length
            omega
      rintro ⟨l1,at1⟩ ⟨ht1,hl1,⟨j1,hj1,hat1,hpj1⟩,hd1,hadv⟩
      simp only at ht1 hl1 hat1 hpj1 hd1 hadv ⊢
      subst hat1
      have hv1:=ht1.vsl hc hv0
      have ho:=hoth _ (List.getElem_mem hi)
      refine Ret.bind (P:=fun v:List Int×Int=>TrOk c Any s0 v.1∧(∃ j,∃ hj:j < a.Zao.length,v.2=(j:Int)∧a.Zao[j]=atO (stF c s0 v.1))∧(4000 < v.1.length∨∀ l2,Fw c zw s0 (ZaH.drop (i+1)) v.1 l2→Fw c zw s0 (ZaH.drop i) l l2)) ?_ ?_
      · refine Ret.bindE (zj (List.getElem?_eq_getElem hj1)) ?_
        rw [hpj1]
        refine Ret.bindE (YQ hv1 ho.1 ho.2) ?_
        refine Ret.ite (fun hq=>Ret.some ⟨ht1,⟨j1,hj1,rfl,hpj1⟩,?_⟩) (fun hq => ?_)
        · rcases hadv with h | h
          · exact .inr fun l2 h2=>by rw [hdrop];exact .own hday h (by simpa using hq) h2
          · exact .inl h
        · refine Ret.bind (ze7 hc A hj1 hpj1 hd1 ho.1 ho.2 (by omega)) ?_
          rintro ⟨l3,at3⟩ ⟨g1,j3,hj3,g2,g3⟩
          simp only at g1 g2 g3
          subst g1 g2
          refine Ret.some ⟨ht1.snoc hd1 ho.1 ho.2 trivial,⟨j3,hj3,rfl,by rw [xR];exact g3⟩,?_⟩
          rcases hadv with h | h
          · exact .inr fun l2 h2=>by rw [hdrop];exact .oth hday h (by simpa using hq) h2
          · exact .inl (by show 4000 < (l1++[_]).length;simp;omega)
      rintro ⟨l2,at2⟩ ⟨ht2,hp2,hcont⟩
      simp only at ht2 hp2 hcont ⊢
      refine Ret.ite (fun _=>Ret.some (.inr (.inr rfl))) (fun hq => ?_)
      have hq:=of_decide_eq_false hq
      refine Ret.some ⟨ht2,by show l2.length≤4000;omega,hp2,fun l4 h4=>hfw l4 ?_⟩
      rcases hcont with h | h
      · omega
      · exact h l4 h4
    · obtain ⟨ht,hl,_,hfw⟩:=hx
      refine .inl ⟨x,rfl,ht,hfw x.1 ?_,hl⟩
      rw [List.drop_length];exact .done
    · rintro _ (⟨x,rfl,h⟩ | ⟨l,rfl,h⟩ | rfl)
      · exact Ret.some (.inl ⟨x.1,rfl,h⟩)
      · exact Ret.some (.inl ⟨l,rfl,h⟩)
      · exact Ret.some (.inr rfl)
  · rintro _ (⟨l,rfl,h1,h2,h3⟩ | rfl)
    · exact Ret.some (.inr ⟨rfl,s0,a,hst,hB,A,hv0,h1,h2,h3,hoth⟩)
    · exact Ret.some (.inl ⟨by simp,rfl⟩)
end
end
section
def txs (s:Zad):ByteArray:=⟨(qj s).toArray⟩
theorem Zp (s:Zad):qp {state:=s,own:=false}=zY false++qj s:=by simp [qp,qj,List.append_assoc]
theorem zid {c:Zab} {s t:Zad} (hs:VS c s) (ht:VS c t) (h:txs s=txs t):s=t:=by
  have h2:=congrArg (fun b:ByteArray=>b.data.toList) h
  have h3:qj s=qj t:=by simpa [txs] using h2
  have:=zaU (p:={state:=s,own:=false}) (q:={state:=t,own:=false}) hs ht (by rw [Zp,Zp,h3])
  exact congrArg Zah.state this
theorem zca {c:Zab} (hc:c.Ok) {s:Zad} (hs:VS c s):wF s=some (txs s):=by
  have h:=Jw hc (p:={state:=s,own:=false}) hs
  unfold jK at h
  split at h
  · rename_i hok
    unfold wF
    rw [if_pos]
    · rfl
    · simp only [okP,Bool.and_eq_true,decide_eq_true_eq] at hok
      simp only [zaz,Bool.and_eq_true,decide_eq_true_eq]
      refine ⟨hok.1,?_⟩
      have:=hok.2
      rw [Zp,List.length_append] at this
      omega
  · cases h
theorem zln (l:List Int) (hl:l.length < 4611686018427387904):ky l=some l.reverse:=by
  refine Ret.eq ?_
  unfold ky
  refine Ret.bind (P:=fun r=>r=l.reverse) ?_ (fun v hv=>Ret.some hv)
  refine Ret.iter (fun s:Int×Int×List Int=>0≤s.1∧s.1+s.2.1=(l.length:Int) - 1 ∧ -1≤s.2.1∧s.1≤(l.length:Int)∧s.2.2.length=l.length∧∀ (t:Nat),(((t:Int) < s.1∨s.2.1 < t)→s.2.2[t]?=l.reverse[t]?)∧(s.1≤t∧(t:Int)≤s.2.1→s.2.2[t]?=l[t]?)) (fun s=>(s.2.1+1).toNat) ?_ ?_
  · rw [zW (by omega) (by omega)]
    refine ⟨by simp,by simp only;omega,by simp only;omega,by simp only;omega,rfl,fun t=>⟨fun h => ?_,fun _=>rfl⟩⟩
    simp only at h
    show l[t]?=l.reverse[t]?
    rw [List.getElem?_eq_none (by omega),List.getElem?_eq_none (by rw [List.length_reverse];omega)]
  rintro ⟨i,j,cur⟩ ⟨h1,h2,h3,h4,h5,h6⟩
  simp only at h1 h2 h3 h4 h5 h6 ⊢
  refine Ret.ite (fun h => ?_) (fun h => ?_)
  · have hij:=of_decide_eq_true h
    obtain ⟨a,rfl⟩:∃ a:Nat,i=(a:Int):=⟨i.toNat,by omega⟩
    obtain ⟨b,rfl⟩:∃ b:Nat,j=(b:Int):=⟨j.toNat,by omega⟩
    have ha:a < l.length:=by omega
    have hb:b < l.length:=by omega
    refine Ret.bindE (zO hb) ?_
    have eb:cur[b]?=some l[b]:=by rw [(h6 b).2 ⟨by omega,by omega⟩,List.getElem?_eq_getElem hb]
    have ea:cur[a]?=some l[a]:=by rw [(h6 a).2 ⟨by omega,by omega⟩,List.getElem?_eq_getElem ha]
    refine Ret.bindE eb ?_
    refine Ret.bindE (zO ha) ?_
    refine Ret.bindE ea ?_
    refine Ret.bindE (v:=l[b]) (by rw [List.getElem?_set_ne (by omega)];exact eb) ?_
    rw [zW (by omega) (by omega),zW (by omega) (by omega)]
    refine Ret.some ⟨⟨by simp only;omega,by simp only;omega,by simp only;omega,by simp only;omega,by simp [h5],fun t => ?_⟩,by simp only;omega⟩
    simp only
    have hr:∀ x:Nat,x < l.length→l.reverse[x]?=l[l.length - 1 - x]?:=fun x hx=>by
      rw [List.getElem?_reverse hx]
    by_cases e1:t=b
    · subst e1
      refine ⟨fun _ => ?_,fun h=>by omega⟩
      rw [List.getElem?_set_self (by simp [h5];omega),hr _ hb,show l.length - 1 - t=a by omega,List.getElem?_eq_getElem ha]
    · by_cases e2:t=a
      · subst e2
        refine ⟨fun _ => ?_,fun h=>by omega⟩
        rw [List.getElem?_set_ne (by omega),List.getElem?_set_self (by omega),hr _ ha,show l.length - 1 - t=b by omega,List.getElem?_eq_getElem hb]
      · rw [List.getElem?_set_ne (by omega),List.getElem?_set_ne (by omega)]
        exact ⟨fun h=>(h6 t).1 (by omega),fun h=>(h6 t).2 (by omega)⟩
  · have hij:=of_decide_eq_false h
    refine Ret.some (List.ext_getElem? fun t => ?_)
    by_cases e:(t:Int) < i∨j < (t:Int)
    · exact (h6 t).1 e
    · rw [(h6 t).2 (by omega)]
      have ht:t < l.length:=by omega
      rw [List.getElem?_reverse ht,show l.length - 1 - t=t by omega]
def Vf (c:Zab) (L:List Zad) (n:Nat) (b:Int) (m:Nat):Prop:=∃ s,L[n]?=some s∧s.day < c.Zat ∧ -1≤b∧b < (c.Zai.length:Int)∧L[m]?=some (z8 c s b)
def za0 (c:Zab) (L:List Zad) (n:Nat) (b:Int) (m:Nat):Prop:=Vf c L n b m∧∀ (n':Nat) (b':Int),n' < n→¬ Vf c L n' b' m
theorem J9 {L:List Zad} (h:L.Nodup) {i j:Nat} {q:Zad} (hi:L[i]?=some q) (hj:L[j]?=some q):i=j:=
  (List.getElem?_inj (List.getElem?_eq_some_iff.1 hi).1 h).1 (hi.trans hj.symm)
def zhf (c:Zab) (L:List Zad) (n:Nat) (P:List (ByteArray×Int)):Prop:=∀ q:Zad,VS c q→(∀ j:Nat,j < n→L[j]?=some q→zp (txs q) P=some (j:Int))∧((∀ j:Nat,j < n→L[j]?≠some q)→zp (txs q) P=none)
structure CInv (c:Zab) (L:List Zad) (i:Nat) (a:Int) (K:List (Int×Zax)):Prop where
  el:∀ (m:Nat) (e:Zax),zp (m:Int) K=some e→0 < m∧∃ n:Nat,e.from_=(n:Int)∧za0 c L n e.step m
  has:∀ (n:Nat) (b:Int) (m:Nat),0 < m→Vf c L n b m→(n < i∨(n=i∧b < a))→∃ e,zp (m:Int) K=some e
def Vg (c:Zab) (L:List Zad) (K:List (Int×Zax)):Prop:=∀ m:Nat,0 < m→m < L.length→∃ (e:Zax) (n:Nat),zp (m:Int) K=some e∧e.from_=(n:Int)∧n < m∧za0 c L n e.step m
section
variable {c:Zab} {s0:Zad} {L:List Zad}
theorem zgG (h:ReachOk c s0 L) {n:Nat} {s:Zad} (hn:L[n]?=some s) (hd:s.day < c.Zat) {b:Int} (h1 : -1≤b) (h2:b < (c.Zai.length:Int)):∃ m,Vf c L n b m:=by
  have:=h.done s (List.mem_of_getElem? hn) hd b h1 h2
  obtain ⟨m,hm,e⟩:=List.getElem_of_mem this
  exact ⟨m,s,hn,hd,h1,h2,by rw [List.getElem?_eq_getElem hm,e]⟩
theorem ze8 (hc:c.Ok) (h:ReachOk c s0 L):Ret (yW c L) (fun r=>∃ K,r=some K∧Vg c L K):=by
  have hlen:=h.inv.len
  have sa:=(qt (hc.off.lt (by omega:0 < 8)) (h.inv.vs _ h.first).cv).Zai
  unfold yW
  refine Ret.bind (P:=fun o:(List (ByteArray×Int)) ⊕ Unit=>∃ P,o=.inl P∧zhf c L L.length P) (Ret.forL (fun i P=>zhf c L i P) (by omega) (fun q _=>⟨fun j hj=>by omega,fun _=>rfl⟩) (fun i P hi hP => ?_) (fun P hP=>⟨P,rfl,hP⟩)) ?_
  · refine Ret.bindE (zj (List.getElem?_eq_getElem hi)) ?_
    have hv:=h.inv.vs _ (List.getElem_mem hi)
    refine Ret.bindE (zca hc hv) ?_
    refine Ret.some fun q hq => ?_
    by_cases e:q=L[i]
    · subst e
      rw [jz]
      refine ⟨fun j hj hjq => ?_,fun hn=>absurd (List.getElem?_eq_getElem hi) (hn i (by omega))⟩
      rw [J9 h.inv.nd hjq (List.getElem?_eq_getElem hi)]
    · rw [jZ _ (fun e2=>e (zid hq hv e2))]
      refine ⟨fun j hj hjq=>(hP q hq).1 j ?_ hjq,fun hn=>(hP q hq).2 fun j hj=>hn j (by omega)⟩
      by_cases e3:j=i
      · subst e3
        rw [List.getElem?_eq_getElem hi] at hjq
        exact absurd (Option.some.inj hjq).symm e
      · omega
  rintro o ⟨P,rfl,hP⟩
  simp only [Sum.elim_inl]
  refine Ret.bind (P:=fun o:(List (Int×Zax)) ⊕ Unit=>∃ K,o=.inl K∧CInv c L L.length (-1) K) (Ret.forL (fun i K=>CInv c L i (-1) K) (by omega) ⟨fun m e he=>by simp [zp] at he,fun n b m _ hE hp => ?_⟩ (fun i K hi hK => ?_) (fun K hK=>⟨K,rfl,hK⟩)) ?_
  · obtain ⟨_,_,_,h1,_⟩:=hE
    omega
  · have hie:=List.getElem?_eq_getElem hi
    have hv:=h.inv.vs _ (List.getElem_mem hi)
    refine Ret.bind (P:=fun K=>CInv c L (i+1) (-1) K) ?_ (fun K hK=>Ret.some hK)
    refine Ret.bindE (zj hie) ?_
    refine Ret.ite (fun hd => ?_) (fun hd => ?_)
    · have hd:=beq_iff_eq.1 hd
      refine Ret.some ⟨hK.el,fun n b m h0 hE hp=>hK.has n b m h0 hE ?_⟩
      obtain ⟨s,q1,q2,q3,q4,_⟩:=hE
      by_cases e:n=i
      · subst e
        rw [hie] at q1;cases q1;omega
      · omega
    · have hd:=beq_eq_false_iff_ne.1 hd
      have hday:=hv.day
      have hd2:L[i].day < c.Zat:=by omega
      refine Ret.bind (P:=fun K=>CInv c L (i+1) (-1) K) ?_ (fun K hK=>Ret.some hK)
      refine Ret.iter (fun s:Int×List (Int×Zax)=>(-1≤s.1∧s.1≤(c.Zai.length:Int))∧CInv c L i s.1 s.2) (fun s=>((c.Zai.length:Int)+1 - s.1).toNat) ⟨⟨by simp,by show (-1:Int)≤_;omega⟩,hK⟩ ?_
      rintro ⟨a,K2⟩ ⟨ha,hK2⟩
      simp only at ha hK2 ⊢
      refine Ret.ite (fun hlt => ?_) (fun hge => ?_)
      · have hlt:=of_decide_eq_true hlt
        obtain ⟨est,hvs,_⟩:=xX hc hv ha.1 hlt hd2
        obtain ⟨m,hE⟩:=zgG h hie hd2 ha.1 hlt
        have hE0:=hE
        obtain ⟨s,q1,_,_,_,q5⟩:=hE
        rw [hie] at q1;cases q1
        have hml:=(List.getElem?_eq_some_iff.1 q5).1
        have hto:=(hP _ hvs).1 m hml q5
        have hgo:CInv c L i a K2→(∃ e,zp (m:Int) K2=some e∨m=0)→CInv c L i (a+1) K2:=fun _ hx=>⟨hK2.el,fun n b m' h0 hE' hp=>by
          by_cases e:n=i∧b=a
          · obtain ⟨rfl,rfl⟩:=e
            obtain ⟨s',g1,_,_,_,g5⟩:=hE'
            rw [hie] at g1;cases g1
            have:=J9 h.inv.nd g5 q5
            subst this
            obtain ⟨e,hx | hx⟩:=hx
            · exact ⟨e,hx⟩
            · omega
          · exact hK2.has n b m' h0 hE' (by omega)⟩
        refine Ret.bind (P:=fun K=>CInv c L i (a+1) K) ?_ (fun K hK => ?_)
        · refine Ret.bindE est ?_
          refine Ret.bindE (zca hc hvs) ?_
          rw [hto]
          simp only [Option.getD_some]
          refine Ret.bind (P:=fun b:Bool=>b=(!(zp (m:Int) K2).isSome && !decide (m=0))) ?_ ?_
          · refine Ret.ite (fun hk=>Ret.some (by rw [hk];rfl)) (fun hk=>Ret.some ?_)
            rw [hk]
            simp only [Bool.not_false,Bool.true_and]
            congr 1
            by_cases e:m=0
            · subst e;rfl
            · rw [decide_eq_false e];exact beq_eq_false_iff_ne.2 (by omega)
          · rintro b rfl
            refine Ret.ite (fun hb => ?_) (fun hb => ?_)
            · simp only [Bool.and_eq_true,Bool.not_eq_true',decide_eq_false_iff_not,Option.isSome_eq_false_iff,Option.isNone_iff_eq_none] at hb
              refine Ret.some ⟨fun m' e he => ?_,fun n b m' h0 hE' hp => ?_⟩
              · by_cases e2:m'=m
                · subst e2
                  rw [jz] at he
                  cases he
                  refine ⟨by omega,i,rfl,hE0,fun n' b' hn' hE' => ?_⟩
                  obtain ⟨e,he⟩:=hK2.has n' b' m' (by omega) hE' (.inl hn')
                  rw [hb.1] at he;cases he
                · rw [jZ _ (by omega)] at he
                  exact hK2.el m' e he
              · by_cases e2:m'=m
                · subst e2;exact ⟨_,jz _ _ _⟩
                · rw [jZ _ (by omega)]
                  by_cases e:n=i∧b=a
                  · obtain ⟨rfl,rfl⟩:=e
                    obtain ⟨s',g1,_,_,_,g5⟩:=hE'
                    rw [hie] at g1;cases g1
                    exact absurd (J9 h.inv.nd g5 q5) e2
                  · exact hK2.has n b m' h0 hE' (by omega)
            · refine Ret.some (hgo hK2 ?_)
              cases hg:zp (m:Int) K2 with
              | some e=>exact ⟨e,.inl rfl⟩
              | none=>
                rw [hg] at hb
                simp only [Option.isSome_none,Bool.not_false,Bool.true_and,Bool.not_eq_false',decide_eq_true_eq] at hb
                exact ⟨{from_:=0,step:=0},.inr hb⟩
        · rw [zW (by omega) (by omega)]
          refine Ret.some ⟨⟨⟨by show -1≤a+1;omega,by show a+1≤(c.Zai.length:Int);omega⟩,hK⟩,?_⟩
          show ((c.Zai.length:Int)+1 - (a+1)).toNat < ((c.Zai.length:Int)+1 - a).toNat
          omega
      · have hge:=of_decide_eq_false hge
        refine Ret.some ⟨hK2.el,fun n b m h0 hE hp=>hK2.has n b m h0 hE ?_⟩
        obtain ⟨s,_,_,q3,q4,_⟩:=hE
        by_cases e:n=i
        · exact .inr ⟨e,by omega⟩
        · exact .inl (by omega)
  rintro o ⟨K,rfl,hK⟩
  simp only [Sum.elim_inl]
  refine Ret.some ⟨K,rfl,fun m h0 hm => ?_⟩
  obtain ⟨n0,s,b,g1,g2,g3,g4,g5,g6,_⟩:=h.bfs m _ h0 (List.getElem?_eq_getElem hm)
  have hE:Vf c L n0 b m:=⟨s,g2,g3,g4,g5,by rw [g6];exact List.getElem?_eq_getElem hm⟩
  obtain ⟨e,he⟩:=hK.has n0 b m h0 hE (.inl (by omega))
  obtain ⟨_,n,q1,q2⟩:=hK.el m e he
  refine ⟨e,n,he,q1,?_,q2⟩
  rcases Nat.lt_or_ge n0 n with hlt | hge
  · exact absurd hE (q2.2 n0 b hlt)
  · omega
inductive Dp (c:Zab) (L:List Zad):Nat→Nat→Prop where
  | zero:Dp c L 0 0
  | next {m n d:Nat} {b:Int} (h0:0 < m) (h:za0 c L n b m) (hn:n < m) (t:Dp c L n d):Dp c L m (d+1)
theorem za1 (c:Zab) (s:Zad) (x:Int) (l:List Int):stF c s (x::l)=stF c (z8 c s x) l:=rfl
theorem TrOk.cons {s:Zad} {x:Int} {l:List Int} (hd:s.day < c.Zat) (h1 : -1≤x) (h2:x < c.Zai.length) (h:TrOk c Any (z8 c s x) l):TrOk c Any s (x::l):=by
  refine ⟨trivial,fun k hk => ?_⟩
  cases k with
  | zero=>exact ⟨hd,h1,h2,trivial⟩
  | succ k=>
    have:=h.step k (by simpa using hk)
    simp only [List.take_succ_cons,za1,List.getElem_cons_succ]
    exact ⟨this.1,this.2.1,this.2.2.1,trivial⟩
theorem zie (hc:c.Ok) (h:ReachOk c s0 L) {K:List (Int×Zax)} (hK:Vg c L K) {k:Nat} {q:Zad} (hk:L[k]?=some q) :
    Ret (Qp (some K) (k:Int)) (fun tr=>TrOk c Any s0 tr∧stF c s0 tr=q∧Dp c L k tr.length):=by
  have hlen:=h.inv.len
  have hkl:=(List.getElem?_eq_some_iff.1 hk).1
  unfold Qp
  refine Ret.bind (P:=fun l=>l.length≤1500∧TrOk c Any s0 l.reverse∧stF c s0 l.reverse=q∧Dp c L k l.length) (Ret.iter (fun s:List Int×Int=>∃ (m:Nat) (t:Zad),s.2=(m:Int)∧L[m]?=some t∧TrOk c Any t s.1.reverse∧stF c t s.1.reverse=q∧s.1.length+m≤k∧∀ d,Dp c L m d→Dp c L k (d+s.1.length)) (fun s=>s.2.toNat) ⟨k,q,rfl,hk,.nil trivial,rfl,by simp,fun d hd=>by simpa using hd⟩ ?_) ?_
  · rintro ⟨l,x⟩ ⟨m,t,hx,hm,htr,hst,hle,hdp⟩
    simp only at hx htr hst hle hdp ⊢
    subst hx
    have hml:=(List.getElem?_eq_some_iff.1 hm).1
    unfold Qo
    simp only
    refine Ret.ite (fun h0 => ?_) (fun h0 => ?_)
    · have hm0:0 < m:=by
        rcases Nat.eq_zero_or_pos m with e | e
        · subst e;simp at h0
        · exact e
      obtain ⟨e,n,e1,e2,e3,e4⟩:=hK m hm0 hml
      have hw:jO (some K) (m:Int)=e:=by unfold jO;rw [Option.getD_some,e1];rfl
      rw [hw]
      refine Ret.bindE (v:=l++[e.step]) (by unfold zfG;rw [if_pos];simp;omega) ?_
      have e40:=e4
      obtain ⟨⟨s',g1,g2,g3,g4,g5⟩,_⟩:=e4
      rw [hm] at g5;cases g5
      refine Ret.some ⟨⟨n,s',e2,g1,?_,?_,by simp only [List.length_append,List.length_cons,List.length_nil];omega,fun d hd => ?_⟩,?_⟩
      · simp only [List.reverse_append,List.reverse_cons,List.reverse_nil,List.nil_append,List.singleton_append]
        exact htr.cons g2 g3 g4
      · simp only [List.reverse_append,List.reverse_cons,List.reverse_nil,List.nil_append,List.singleton_append,za1]
        exact hst
      · have:=hdp (d+1) (.next hm0 e40 e3 hd)
        simpa [Nat.add_assoc,Nat.add_comm 1] using this
      · simp only [e2,Int.toNat_natCast];omega
    · have hm0:m=0:=by
        rcases Nat.eq_zero_or_pos m with e | e
        · exact e
        · have:((m:Int) == 0)=false:=beq_eq_false_iff_ne.2 (by omega)
          rw [this] at h0;cases h0
      subst hm0
      have:=h.at0
      rw [hm] at this;cases this
      exact Ret.some ⟨by omega,htr,hst,by simpa using hdp 0 .zero⟩
  · rintro l ⟨h1,h2,h3,h4⟩
    refine Ret.bindE (zln l (by omega)) ?_
    refine Ret.bindE (xp (by simp)) ?_
    exact Ret.some ⟨h2,h3,by simpa using h4⟩
theorem ze9 (h:ReachOk c s0 L) {m m' n n':Nat} {b b':Int} (h0:0 < m) (hm:m≤m') (h1:za0 c L n b m) (h2:za0 c L n' b' m'):n≤n':=by
  obtain ⟨q,hq⟩:∃ q,L[m]?=some q:=by obtain ⟨s,_,_,_,_,g⟩:=h1.1;exact ⟨_,g⟩
  obtain ⟨n0,s,a,g1,g2,g3,g4,g5,g6,g7⟩:=h.bfs m q h0 hq
  have hn:n≤n0:=by
    rcases Nat.lt_or_ge n0 n with hlt | hge
    · exact absurd ⟨s,g2,g3,g4,g5,by rw [g6];exact hq⟩ (h1.2 n0 a hlt)
    · exact hge
  rcases Nat.lt_or_ge n' n with hlt | hge
  · obtain ⟨s',k1,k2,k3,k4,k5⟩:=h2.1
    obtain ⟨m'',q1,q2⟩:=g7 n' s' b' (by omega) k1 k2 k3 k4
    have:=J9 h.inv.nd q2 k5
    omega
  · exact hge
theorem Dp.mono (h:ReachOk c s0 L):∀ {m d:Nat},Dp c L m d→∀ {m' d':Nat},m≤m'→Dp c L m' d'→d≤d':=by
  intro m d h1
  induction h1 with
  | zero=>intros;omega
  | @next m n d b h0 hcm hn t ih=>
    intro m' d' hm h2
    cases h2 with
    | zero=>omega
    | @next _ n' d2 b' h0' hcm' hn' t'=>
      have:=ih (ze9 h h0 hm hcm hcm') t'
      omega
end
end
section
def npA {α:Type} (l:List α) (p:α→Bool) (j:Nat):Bool:=match l[j]? with | some x=>!p x | none=>true
theorem ZQ {α:Type} {l:List α} {p:α→Bool} {j:Nat} (hj:j < l.length):npA l p j=!p l[j]:=by unfold npA;rw [List.getElem?_eq_getElem hj]
theorem Zg {α:Type} (l:List α) (p:α→Bool):decide ((0:Int)≤(match (List.range l.length).find? (fun j=>!(npA l p j)) with | none=>(-1:Int) | some j=>(j:Int)))=l.any p:=by
  cases hf:(List.range l.length).find? (fun j=>!(npA l p j)) with
  | none=>
    have h:=wD hf
    rw [decide_eq_false (by simp)]
    symm
    rw [Bool.eq_false_iff]
    intro ha
    obtain ⟨x,hx,hp⟩:=List.any_eq_true.1 ha
    obtain ⟨j,hj,rfl⟩:=List.getElem_of_mem hx
    have:=h j hj
    rw [ZQ hj] at this
    simp [hp] at this
  | some i=>
    obtain ⟨hi,g1,_⟩:=wE hf
    rw [ZQ hi] at g1
    simp only [Bool.not_eq_false'] at g1
    rw [decide_eq_true (by simp)]
    symm
    exact List.any_eq_true.2 ⟨_,List.getElem_mem hi,g1⟩
def Zq (i:Nat) (s:Zad):Int:=match s.Zal[i]? with | some m=>m.Zan | none=>0
def wl (L:List Zad) (i:Nat):Bool := !L.any fun s=>!(Zq i s == 0)
def zhg (L:List Zad) (i:Nat):Bool:=L.any fun s=>Zq i s == 3
def unB (c:Zab) (L:List Zad) (i:Nat):Bool:=match c.Zag[i]? with
  | some k=>k.kind == 3&&(!k.Zaz && !zhg L i)
  | none=>false
section
variable {c:Zab} {s0:Zad} {L:List Zad}
theorem Xa {s:Zad} (hv:VS c s) {i:Nat} (hi:i < c.Zag.length):∃ m,s.Zal[i]?=some m∧ze s.Zal (i:Int)=some m∧Zq i s=m.Zan:=by
  have:i < s.Zal.length:=by rw [hv.lm];exact hi
  refine ⟨_,List.getElem?_eq_getElem this,zj (List.getElem?_eq_getElem this),?_⟩
  unfold Zq;rw [List.getElem?_eq_getElem this]
theorem zgH (h:ReachOk c s0 L) {i:Nat} (hi:i < c.Zag.length):yz L (i:Int)=some (wl L i):=by
  have hlen:=h.inv.len
  unfold yz WU WT
  rw [q8 (npA L (fun s=>!(Zq i s == 0))) (fun j=>(j:Int)) (by omega) (fun j hj=>by
    obtain ⟨m,_,h2,h3⟩:=Xa (h.inv.vs _ (List.getElem_mem hj)) hi
    rw [zj (List.getElem?_eq_getElem hj)]
    simp only [ZaJ,WS,h2,ZQ hj,h3]
    cases (m.Zan == 0)<;>rfl)]
  have hf:=Zg L (fun s=>!(Zq i s == 0))
  simp only [ZaJ]
  cases hq:(List.range L.length).find? (fun j=>!(npA L (fun s=>!(Zq i s == 0)) j)) with
  | none=>rw [hq] at hf;simp only [Sum.elim_inl,ZaJ,hf];rfl
  | some j=>rw [hq] at hf;simp only [Sum.elim_inr,ZaJ,hf];rfl
theorem zgI (h:ReachOk c s0 L) {i:Nat} (hi:i < c.Zag.length):Jl L (i:Int)=some (zhg L i):=by
  have hlen:=h.inv.len
  unfold Jl WW
  rw [q8 (npA L (fun s=>Zq i s == 3)) (fun j=>(j:Int)) (by omega) (fun j hj=>by
    obtain ⟨m,_,h2,h3⟩:=Xa (h.inv.vs _ (List.getElem_mem hj)) hi
    rw [zj (List.getElem?_eq_getElem hj)]
    simp only [ZaJ,WV,h2,ZQ hj,h3]
    cases (m.Zan == 3)<;>rfl)]
  have hf:=Zg L (fun s=>Zq i s == 3)
  simp only [ZaJ]
  cases hq:(List.range L.length).find? (fun j=>!(npA L (fun s=>Zq i s == 3) j)) with
  | none=>rw [hq] at hf;simp only [Sum.elim_inl,ZaJ,hf];rfl
  | some j=>rw [hq] at hf;simp only [Sum.elim_inr,ZaJ,hf];rfl
theorem zjW (h:ReachOk c s0 L) {i:Nat} (hi:i < c.Zag.length):vF c L (i:Int)=some (unB c L i):=by
  unfold vF
  rw [zj (List.getElem?_eq_getElem hi)]
  simp only [ZaJ,zgI h hi,unB,List.getElem?_eq_getElem hi]
  cases (c.Zag[i].kind == 3)<;>cases c.Zag[i].Zaz<;>rfl
end
def zjX (c:Zab):Bool:=c.Zai.any fun a=>a.kind == 3
def zjY (d b:Zam):Bool:=d.kind == 1&&(b.kind == 2&&(d.final&&(b.final&&(!d.Zaz&&(!b.Zaz&&(d.act == b.act&&(d.pause == -1&&(b.pause == -1&&d.ZaF == b.ZaF))))))))
def za2 (c:Zab) (i j:Nat):Bool:=match c.Zag[i]?,c.Zag[j]? with
  | some d,some b=>zjY d b && !zjX c
  | _,_=>false
def clK (k:Zam) (d b:Zaa):Bool:=(d.Zan == 1||d.Zan == 2)&&(b.Zan == 1&&(b.Zav == d.Zav&&decide ((bif d.Zan == 1 then d.left+k.Zay else d.left)≤b.left)))
def XS (c:Zab) (s:Zad) (i j:Nat):Bool:=match c.Zag[i]?,s.Zal[i]?,s.Zal[j]? with
  | some k,some d,some b=>clK k d b
  | _,_,_=>false
section
variable {c:Zab} {s0:Zad} {L:List Zad}
theorem zif (ha:c.Zai.length < 4611686018427387904):WY c.Zai=some (zjX c):=by
  unfold WY Kp
  rw [q8 (npA c.Zai (fun a=>a.kind == 3)) (fun j=>(j:Int)) (by omega) (fun j hj=>by
    rw [zj (List.getElem?_eq_getElem hj)]
    simp only [ZaJ,WX,ZQ hj]
    cases (c.Zai[j].kind == 3)<;>rfl)]
  have hf:=Zg c.Zai (fun a=>a.kind == 3)
  simp only [ZaJ]
  cases hq:(List.range c.Zai.length).find? (fun j=>!(npA c.Zai (fun a=>a.kind == 3) j)) with
  | none=>rw [hq] at hf;simp only [Sum.elim_inl,ZaJ,hf];rfl
  | some j=>rw [hq] at hf;simp only [Sum.elim_inr,ZaJ,hf];rfl
theorem zig (ha:c.Zai.length < 4611686018427387904) {i j:Nat} (hi:i < c.Zag.length) (hj:j < c.Zag.length):xO c (i:Int) (j:Int)=some (za2 c i j):=by
  unfold xO
  rw [zj (List.getElem?_eq_getElem hi),zj (List.getElem?_eq_getElem hj)]
  simp only [ZaJ,zif ha,za2,zjY,List.getElem?_eq_getElem hi,List.getElem?_eq_getElem hj]
  cases (c.Zag[i].kind == 1)
  · rfl
  cases (c.Zag[j].kind == 2)
  · rfl
  cases c.Zag[i].final
  · rfl
  cases c.Zag[j].final
  · rfl
  cases c.Zag[i].Zaz
  rotate_left
  · rfl
  cases c.Zag[j].Zaz
  rotate_left
  · rfl
  cases (c.Zag[i].act == c.Zag[j].act)
  · rfl
  cases (c.Zag[i].pause == -1)
  · rfl
  cases (c.Zag[j].pause == -1)
  · rfl
  cases (c.Zag[i].ZaF == c.Zag[j].ZaF)<;>rfl
theorem zih (hc:c.Ok) {s:Zad} (hv:VS c s) {i:Nat} {k:Zam} {m:Zaa} (hk:c.Zag[i]?=some k) (hm:s.Zal[i]?=some m):IntKind.i64.wrap (m.left+k.Zay)=m.left+k.Zay:=by
  have ho:=hc.off.lt (by omega:0 < 8)
  have kv:=ye ho hv.cv hk
  have sm:=qt ho hv.cv
  have:=zeX kv (by have:=sm.Zap;omega) (hv.mrk i k m hk hm)
  have h2:=kv.Zay
  exact zW (by omega) (by omega)
theorem zjZ (hc:c.Ok) {s:Zad} (hv:VS c s) {i j:Nat} (hi:i < c.Zag.length) (hj:j < c.Zag.length):vG c s (i:Int) (j:Int)=some (XS c s i j):=by
  obtain ⟨d,d1,d2,_⟩:=Xa hv hi
  obtain ⟨b,b1,b2,_⟩:=Xa hv hj
  have hk:=List.getElem?_eq_getElem hi
  have hw:=zih hc hv hk d1
  unfold vG
  simp only [d2,b2,zj hk,ZaJ,hw,XS,hk,d1,b1,clK]
  by_cases e1:d.Zan=1
  · simp only [e1,beq_self_eq_true,Bool.true_or,Bool.true_and,cond_true,ZaJ,Sum.elim_inl]
    cases (b.Zan == 1)
    · rfl
    cases (b.Zav == d.Zav)<;>rfl
  · by_cases e2:d.Zan=2
    · simp only [e2]
      show _=some (true&&_)
      simp only [Bool.true_and]
      cases (b.Zan == 1)
      · rfl
      cases (b.Zav == d.Zav)<;>rfl
    · rw [beq_eq_false_iff_ne.2 e1,beq_eq_false_iff_ne.2 e2]
      rfl
end
end
section
structure ClF (c:Zab) (s0:Zad) (L:List Zad) (a b:Nat) (f:Zaj):Prop where
  kind:f.kind=4
  zw:f.zw = -1
  clause:f.clause=(a:Int)
  other:f.other=(b:Int)
  ha:a < c.Zag.length
  hb:b < c.Zag.length
  opp:za2 c a b=true
  at_:∃ (k:Nat) (q:Zad),L[k]?=some q∧XS c q a b=true∧(∀ (k':Nat) (q':Zad),k' < k→L[k']?=some q'→XS c q' a b=false)∧TrOk c Any s0 f.ZaE∧stF c s0 f.ZaE=q∧Dp c L k f.ZaE.length
def Bef (a b i j:Nat):Prop:=a < i∨(a=i∧b < j)
structure ClashL (c:Zab) (s0:Zad) (L:List Zad) (i j:Nat) (C:List Zaj):Prop where
  el:∀ f∈C,∃ a b,Bef a b i j∧ClF c s0 L a b f
  has:∀ a b,Bef a b i j→a < c.Zag.length→b < c.Zag.length→za2 c a b=true→(∃ q∈L,XS c q a b=true)→∃ f∈C,f.clause=(a:Int)∧f.other=(b:Int)
  ord:C.Pairwise fun f g=>f.clause < g.clause∨(f.clause=g.clause∧f.other < g.other)
  len:C.length≤i*c.Zag.length+j
def CmO (c:Zab) (L:List Zad) (o:Option (List (Int×Zax))):Prop:=o=none∨∃ K,o=some K∧Vg c L K
section
variable {c:Zab} {s0:Zad} {L:List Zad}
theorem ClashL.skip {i j:Nat} {C:List Zaj} (h:ClashL c s0 L i j C) (hn:¬ (za2 c i j=true∧∃ q∈L,XS c q i j=true)):ClashL c s0 L i (j+1) C where
  el:=fun f hf=>by
    obtain ⟨a,b,h1,h2⟩:=h.el f hf
    exact ⟨a,b,by unfold Bef at *; omega,h2⟩
  has:=fun a b h1 h2 h3 h4 h5=>by
    by_cases e:a=i∧b=j
    · obtain ⟨rfl,rfl⟩:=e
      exact absurd ⟨h4,h5⟩ hn
    · exact h.has a b (by unfold Bef at *; omega) h2 h3 h4 h5
  ord:=h.ord
  len:=by have:=h.len;omega
theorem ClashL.push {i j:Nat} {C:List Zaj} {f:Zaj} (h:ClashL c s0 L i j C) (hf:ClF c s0 L i j f):ClashL c s0 L i (j+1) (C++[f]) where
  el:=fun g hg=>by
    rcases List.mem_append.1 hg with hg | hg
    · obtain ⟨a,b,h1,h2⟩:=h.el g hg
      exact ⟨a,b,by unfold Bef at *; omega,h2⟩
    · rw [List.mem_singleton.1 hg]
      exact ⟨i,j,.inr ⟨rfl,by omega⟩,hf⟩
  has:=fun a b h1 h2 h3 h4 h5=>by
    by_cases e:a=i∧b=j
    · obtain ⟨rfl,rfl⟩:=e
      exact ⟨f,by simp,hf.clause,hf.other⟩
    · obtain ⟨g,h6,h7⟩:=h.has a b (by unfold Bef at *; omega) h2 h3 h4 h5
      exact ⟨g,by simp [h6],h7⟩
  ord:=List.pairwise_append.2 ⟨h.ord,by simp,fun g hg x hx=>by
    rw [List.mem_singleton.1 hx]
    obtain ⟨a,b,h1,h2⟩:=h.el g hg
    rw [h2.clause,h2.other,hf.clause,hf.other]
    unfold Bef at h1
    omega⟩
  len:=by have:=h.len;simp;omega
theorem ClashL.row {i:Nat} {C:List Zaj} (h:ClashL c s0 L i c.Zag.length C):ClashL c s0 L (i+1) 0 C where
  el:=fun f hf=>by
    obtain ⟨a,b,h1,h2⟩:=h.el f hf
    exact ⟨a,b,by unfold Bef at *; omega,h2⟩
  has:=fun a b h1 h2 h3 h4 h5=>h.has a b (by unfold Bef at *; omega) h2 h3 h4 h5
  ord:=h.ord
  len:=by have:=h.len;rw [Nat.succ_mul];omega
theorem zbC (hc:c.Ok) (h:ReachOk c s0 L) (hv0:VS c s0):Ret (wH c L) (ClashL c s0 L c.Zag.length 0):=by
  have ho:=hc.off.lt (by omega:0 < 8)
  have sm:=qt ho hv0.cv
  have s2:=sm.Zai
  have s3:=sm.Zag
  have hlen:=h.inv.len
  have hn:c.Zag.length≤400:=by omega
  unfold wH
  refine Ret.bind (P:=fun o:(List Zaj×Option (List (Int×Zax))) ⊕ Unit=>∃ C o',o=.inl (C,o')∧ClashL c s0 L c.Zag.length 0 C) (Ret.forL (fun i s=>ClashL c s0 L i 0 s.1∧CmO c L s.2) (by omega) ⟨⟨fun f hf=>by simp at hf,fun a b hb=>by unfold Bef at hb;omega,by simp,by simp⟩,.inl rfl⟩ (fun i s hi hs => ?_) (fun s hs=>⟨s.1,s.2,rfl,hs.1⟩)) ?_
  · obtain ⟨C,o⟩:=s
    obtain ⟨hC,hO⟩:=hs
    simp only at hC hO ⊢
    refine Ret.bind (P:=fun o:(List Zaj×Option (List (Int×Zax))) ⊕ Unit=>∃ C o',o=.inl (C,o')∧ClashL c s0 L i c.Zag.length C∧CmO c L o') (Ret.forL (fun j s=>ClashL c s0 L i j s.1∧CmO c L s.2) (by omega) ⟨hC,hO⟩ (fun j s hj hs => ?_) (fun s hs=>⟨s.1,s.2,rfl,hs⟩)) ?_
    · obtain ⟨C,o⟩:=s
      obtain ⟨hC,hO⟩:=hs
      simp only at hC hO ⊢
      have hCl:=hC.len
      have hbig:i*c.Zag.length≤400*400:=Nat.mul_le_mul (by omega) hn
      refine Ret.bind (P:=fun v:List Zaj×Option (List (Int×Zax))=>ClashL c s0 L i (j+1) v.1∧CmO c L v.2) ?_ (fun v hv=>Ret.some (show ClashL c s0 L i (j+1) v.1∧CmO c L v.2 from hv))
      refine Ret.bindE (zig (by omega) hi hj) ?_
      refine Ret.ite (fun hopp => ?_) (fun hopp=>Ret.some ⟨hC.skip (by rw [hopp];simp),hO⟩)
      refine Ret.bind (P:=fun v:(List Zaj×Option (List (Int×Zax))) ⊕ (List Zaj×Option (List (Int×Zax)))=>(∃ C o,v=.inl (C,o)∧ClashL c s0 L i (j+1) C∧CmO c L o)∨(∃ C o,v=.inr (C,o)∧ClashL c s0 L i (j+1) C∧CmO c L o)) (Ret.forL (fun k s=>s=(C,o)∧∀ (k':Nat) (q:Zad),k' < k→L[k']?=some q→XS c q i j=false) (by omega) ⟨rfl,fun k' q hk'=>by omega⟩ (fun k s hk hs => ?_) (fun s hs => ?_)) ?_
      · obtain ⟨rfl,hno⟩:=hs
        have hkk:=List.getElem?_eq_getElem hk
        have hvk:=h.inv.vs _ (List.getElem_mem hk)
        refine Ret.bindE (zj hkk) ?_
        refine Ret.bindE (zjZ hc hvk hi hj) ?_
        refine Ret.ite (fun hcl => ?_) (fun hcl=>Ret.some ⟨rfl,fun k' q hk' hq => ?_⟩)
        · refine Ret.bind (P:=fun v=>∃ K,v=some K∧Vg c L K) ?_ ?_
          · refine Ret.ite (fun hs => ?_) (fun hs => ?_)
            · rcases hO with e | ⟨K,e,hK⟩
              · rw [e] at hs;cases hs
              · exact Ret.some ⟨K,e,hK⟩
            · exact Ret.bind (ze8 hc h) fun r hr=>Ret.some hr
          · rintro v ⟨K,rfl,hK⟩
            refine Ret.bind (zie hc h hK hkk) ?_
            rintro tr ⟨t1,t2,t3⟩
            refine Ret.bindE (x:=jg 4 (-1) (i:Int) (j:Int) tr) rfl ?_
            refine Ret.bindE (jw (by simp;omega)) ?_
            refine Ret.some (.inr ⟨_,_,rfl,hC.push ⟨rfl,rfl,rfl,rfl,hi,hj,hopp,k,_,hkk,hcl,fun k' q' h1 h2=>hno k' q' h1 h2,t1,t2,t3⟩,.inr ⟨K,rfl,hK⟩⟩)
        · by_cases e:k'=k
          · subst e
            rw [hkk] at hq;cases hq
            exact hcl
          · exact hno k' q (by omega) hq
      · obtain ⟨rfl,hno⟩:=hs
        refine .inl ⟨C,o,rfl,hC.skip ?_,hO⟩
        rintro ⟨_,q,hq,hcl⟩
        obtain ⟨k,hk,e⟩:=List.getElem_of_mem hq
        rw [hno k q hk (by rw [List.getElem?_eq_getElem hk,e])] at hcl
        cases hcl
      · rintro v (⟨C',o',rfl,h1,h2⟩ | ⟨C',o',rfl,h1,h2⟩)
        · exact Ret.some ⟨h1,h2⟩
        · exact Ret.some ⟨h1,h2⟩
    · rintro v ⟨C',o',rfl,h1,h2⟩
      exact Ret.some ⟨h1.row,h2⟩
  · rintro v ⟨C',o',rfl,h1⟩
    exact Ret.some h1
end
end
section
section
variable {c:Zab} {zw:Int} {p:Zah} {a:ZaC}
theorem zgJ (A:ArOk c zw p a) {r:Nat→Int} (hr:yu (gm c a) r) {i:Nat} (hi:i < a.Zao.length) {T:List Zar} (hT:a.moves[i]?=some T) (h0:0 < r i) :
    T≠[]∧(a.Zao[i].own=true→∀ m∈T,0≤r m.to.toNat∧r m.to.toNat≤r i - 1)∧(a.Zao[i].own=false→∃ m∈T,0≤r m.to.toNat∧r m.to.toNat≤r i - 1):=by
  obtain ⟨k,hk⟩:∃ k:Nat,r i=((k+1:Nat):Int):=⟨(r i).toNat - 1,by omega⟩
  have hA:=((hr i hi).2 (k+1)).1 ⟨by omega,by omega⟩
  have hlo:(gm c a).lost i≠true:=fun e=>by have:=(Jy hr (i:=i) hi).2 e;omega
  have hs:=A.succ hi hT
  have hle:∀ m∈T,Attr (gm c a) k m.to.toNat→0≤r m.to.toNat∧r m.to.toNat≤r i - 1:=fun m hm ha=>by
    have ht:=A.to hi hT hm
    have hti:m.to.toNat < (gm c a).n:=by show m.to.toNat < a.Zao.length;omega
    have h1:=((hr _ hti).2 k).2 ha
    have h2:=(hr _ hti).1
    omega
  rcases hA with h | ⟨h1,h2⟩ | ⟨h1,t,h2,h3⟩
  · exact absurd h hlo
  · rw [A.own hi] at h1
    refine ⟨A.ne hi hT h1,fun _ m hm=>hle m hm (h2 _ (by rw [hs];exact List.mem_map.2 ⟨m,hm,rfl⟩)),fun e=>by rw [h1] at e;cases e⟩
  · rw [A.own hi] at h1
    rw [hs] at h2
    obtain ⟨m,hm,rfl⟩:=List.mem_map.1 h2
    exact ⟨fun e=>(by rw [e] at hm;cases hm),fun e=>(by rw [h1] at e;cases e),fun _=>⟨m,hm,hle m hm h3⟩⟩
end
end
section
structure PlayT (c:Zab) (zw:Int) (s0:Zad) (l:List Int):Prop where
  tr:TrOk c Any s0 l
  oth:∀ (k:Nat) (hk:k < l.length),(l[k] = -1∨jU c (stF c s0 (l.take k)) l[k]≠zw)∧qF c (stF c s0 (l.take k)) zw=false
  lost:qF c (stF c s0 l) zw=true
  len:l.length≤1500
section
variable {c:Zab} {zw:Int} {s0:Zad} {a:ZaC}
theorem zfa (A:ArOk c zw (atO s0) a) {r:List Int} (hl:r.length=a.Zao.length) {k:Nat} (hk:k < a.Zao.length) {T:List Zar} (hT:a.moves[k]?=some T) (hTl:T.length≤62)
    (hE:∃ m∈T,0≤at_ r m.to.toNat∧at_ r m.to.toNat≤at_ r k - 1):Ret (ZH T r (k:Int)) (fun n=>∃ j:Nat,n=(j:Int)∧∃ hj:j < T.length,0≤at_ r T[j].to.toNat∧at_ r T[j].to.toNat≤at_ r k - 1):=by
  unfold ZH
  have idxr:∀ k:Nat,k < a.Zao.length→ze r (k:Int)=some (at_ r k):=fun k hk=>zj (xE (by omega))
  have hrT:∀ (j:Nat) (hj:j < T.length),ze r T[j].to=some (at_ r T[j].to.toNat):=fun j hj=>by
    have ht:=A.to hk hT (List.getElem_mem hj)
    have:=idxr T[j].to.toNat (by omega)
    rw [Int.toNat_of_nonneg ht.1] at this
    exact this
  rw [q8 (fun j=>!(match T[j]? with | some m=>decide (0≤at_ r m.to.toNat)&&decide (at_ r m.to.toNat < at_ r k) | none=>false)) (fun j=>(j:Int)) (by omega) (fun j hj=>by
    rw [zj (List.getElem?_eq_getElem hj)]
    simp only [ZaJ,WR,hrT j hj,idxr k hk,List.getElem?_eq_getElem hj]
    cases h1:decide (0≤at_ r T[j].to.toNat)<;>cases h2:decide (at_ r T[j].to.toNat < at_ r k)<;>rfl)]
  simp only [ZaJ]
  obtain ⟨m,hm,h1,h2⟩:=hE
  obtain ⟨j,hj,rfl⟩:=List.getElem_of_mem hm
  cases hf:(List.range T.length).find? (fun j=>!!(match T[j]? with | some m=>decide (0≤at_ r m.to.toNat)&&decide (at_ r m.to.toNat < at_ r k) | none=>false)) with
  | none=>
    have:=wD hf j hj
    rw [List.getElem?_eq_getElem hj] at this
    simp only [Bool.not_eq_true',Bool.and_eq_false_iff,decide_eq_false_iff_not] at this
    omega
  | some i=>
    obtain ⟨hi,g1,_⟩:=wE hf
    rw [List.getElem?_eq_getElem hi] at g1
    simp only [Bool.not_eq_false',Bool.and_eq_true,decide_eq_true_eq] at g1
    exact Ret.some ⟨i,rfl,hi,g1.1,by omega⟩
theorem zdf {q:Zah} {T:List Zar} (ho:q.own=true) (h:T.map (·.step)=zu c zw q):∃ h0:0 < T.length,T[0].step = -2:=by
  have e:zu c zw q = -2::(bif decide (c.Zat≤q.state.day) then [] else (bif q.own then [] else [-1])++qS c zw q c.Zai.length):=by
    unfold zu;rw [ho];rfl
  rw [e] at h
  cases T with
  | nil=>cases h
  | cons t T=>
    simp only [List.map_cons,List.cons.injEq] at h
    exact ⟨by simp,h.1⟩
theorem zgK (hc:c.Ok) (A:ArOk c zw (atO s0) a) {r:List Int} (hl:r.length=a.Zao.length) (hr:yu (gm c a) (at_ r)) (hbd:∀ i,i < a.Zao.length→at_ r i≤1500) (h0:0≤at_ r 0) :
    Ret (ZI a r) (PlayT c zw s0):=by
  have hn:a.Zao.length≤1500:=A.F.inv.len
  have hm:=A.F.len
  have hpos:=A.pos
  have hfst:=A.F.first
  have idxr:∀ k:Nat,k < a.Zao.length→ze r (k:Int)=some (at_ r k):=fun k hk=>zj (xE (by omega))
  unfold ZI
  refine Ret.bind (P:=PlayT c zw s0) ?_ (fun v hv=>Ret.some hv)
  refine Ret.bind (P:=PlayT c zw s0) ?_ (fun v hv=>Ret.some hv)
  refine Ret.iter (fun s:List Int×Int=>∃ (k:Nat) (hk:k < a.Zao.length),s.2=(k:Int)∧0≤at_ r k∧a.Zao[k].state=stF c s0 s.1∧TrOk c Any s0 s.1 ∧
    (∀ (k:Nat) (hk:k < s.1.length),(s.1[k] = -1∨jU c (stF c s0 (s.1.take k)) s.1[k]≠zw)∧qF c (stF c s0 (s.1.take k)) zw=false)∧(s.1.length:Int)+at_ r k≤1500) (fun s=>(at_ r s.2.toNat).toNat) ?_ ?_
  · refine ⟨0,hpos,rfl,h0,?_,.nil trivial,fun k hk=>by simp at hk,by have:=hbd 0 hpos;simp;omega⟩
    rw [List.getElem?_eq_getElem hpos] at hfst
    rw [Option.some.inj hfst];rfl
  rintro ⟨l,i⟩ ⟨k,hk,hi,hrk,hst,htr,hoth,hlen⟩
  simp only at hi hst htr hoth hlen ⊢
  subst hi
  refine Ret.bindE (idxr k hk) ?_
  have hlk:=A.lost hk
  rw [hst] at hlk
  refine Ret.ite (fun h => ?_) (fun h => ?_)
  · have hp:0 < at_ r k:=of_decide_eq_true h
    have hnl:qF c (stF c s0 l) zw=false:=by
      rw [←hlk]
      cases e:(gm c a).lost k with
      | false=>rfl
      | true=>have:=(Jy hr (i:=k) hk).2 e;omega
    obtain ⟨T,hT,hst2,_⟩:=A.mv hk
    have hTl:=A.len hc hk hT
    obtain ⟨hne,hO,hE⟩:=zgJ A hr hk hT hp
    refine Ret.bindE (zj (List.getElem?_eq_getElem hk)) ?_
    refine Ret.ite (fun ho => ?_) (fun ho => ?_)
    · refine Ret.bindE (zj hT) ?_
      obtain ⟨hT0,hs2⟩:=zdf ho hst2
      refine Ret.bindE (v:=T[0]) (zj (i:=0) (List.getElem?_eq_getElem hT0)) ?_
      have hmem:=List.getElem_mem hT0
      obtain ⟨_,t2,t3,t4⟩:=A.tgt hk hT hmem
      obtain ⟨g1,g2⟩:=hO ho _ hmem
      refine Ret.some ⟨⟨T[0].to.toNat,t3,(Int.toNat_of_nonneg t2).symm,g1,?_,htr,hoth,by simp only;omega⟩,?_⟩
      · rw [t4,hs2,Zo];exact hst
      · simp only [Int.toNat_natCast];omega
    · refine Ret.bindE (zj hT) ?_
      refine Ret.bind (zfa A hl hk hT hTl (hE ho)) ?_
      rintro n ⟨j,rfl,hj,g1,g2⟩
      refine Ret.bindE (zj hT) ?_
      refine Ret.bindE (zj (List.getElem?_eq_getElem hj)) ?_
      have hmem:=List.getElem_mem hj
      obtain ⟨t1,t2,t3,t4⟩:=A.tgt hk hT hmem
      refine Ret.bindE (jw (by simp;omega)) ?_
      have hmv:T[j].step ≠ -2 ∧ -1≤T[j].step∧T[j].step < c.Zai.length∧a.Zao[k].state.day < c.Zat∧(T[j].step = -1∨jU c a.Zao[k].state T[j].step≠zw):=by
        rcases jh.1 t1 with ⟨e,_⟩ | ⟨hd,_,e⟩ | ⟨hd,i,hi,hmb,e⟩
        · rw [ho] at e;cases e
        · rw [e];exact ⟨by omega,by omega,by omega,hd,.inl rfl⟩
        · rw [e]
          refine ⟨by omega,by omega,by omega,hd,.inr ?_⟩
          unfold mvB at hmb
          rw [List.getElem?_eq_getElem hi] at hmb
          simp only [ho,Bool.and_eq_true,beq_iff_eq] at hmb
          unfold jU
          rw [if_neg (by omega),Int.toNat_natCast,List.getElem?_eq_getElem hi]
          exact beq_eq_false_iff_ne.1 hmb.1
      obtain ⟨m1,m2,m3,m4,m5⟩:=hmv
      have hvs:=A.F.inv.vs _ (List.getElem_mem hk)
      rw [hst] at m4 m5
      refine Ret.some ⟨⟨T[j].to.toNat,t3,(Int.toNat_of_nonneg t2).symm,g1,?_,htr.snoc m4 m2 m3 trivial,fun q hq => ?_,by simp only [List.length_append,List.length_cons,List.length_nil];omega⟩,?_⟩
      · rw [t4,yh c _ m2,xR]
        simp only [hst]
      · rw [List.length_append] at hq
        simp only [List.length_cons,List.length_nil] at hq
        by_cases e:q=l.length
        · subst e
          have e1:(l++[T[j].step]).take l.length=l:=by simp
          rw [e1]
          simp only [List.getElem_append_right (Nat.le_refl _),Nat.sub_self,List.getElem_cons_zero]
          exact ⟨m5,hnl⟩
        · have hq2:q < l.length:=by omega
          rw [List.take_append_of_le_length (by omega),List.getElem_append_left hq2]
          exact hoth q hq2
      · simp only [Int.toNat_natCast];omega
  · have hz:at_ r k=0:=by have:=of_decide_eq_false h;omega
    exact Ret.some ⟨htr,hoth,by rw [←hlk];exact (Jy hr (i:=k) hk).1 hz,by omega⟩
end
end
section
structure ForcedL (c:Zab) (s0:Zad) (i:Nat) (F:List Zaj):Prop where
  el:∀ f∈F,f.kind=1∧f.clause = -1∧f.other = -1∧∃ p:Nat,p < i∧f.zw=(p:Int)∧zD c (p:Int) (atO s0)=false∧PlayT c (p:Int) s0 f.ZaE
  has:∀ p:Nat,p < i→zD c (p:Int) (atO s0)=false→∃ f∈F,f.zw=(p:Int)
  ord:F.Pairwise fun f g=>f.zw < g.zw
  len:F.length≤i
def xk (i:Nat):Zaj:={kind:=2,zw := -1,clause:=(i:Int),other := -1,ZaE:=[]}
def vi (i:Nat):Zaj:={kind:=3,zw := -1,clause:=(i:Int),other := -1,ZaE:=[]}
def xY (L:List Zad) (n:Nat):List Zaj:=((List.range n).filter (wl L)).map xk
def wm (c:Zab) (L:List Zad) (n:Nat):List Zaj:=((List.range n).filter fun i=>!wl L i&&unB c L i).map vi
def FindOk (c:Zab) (s0:Zad) (L:List Zad) (l:List Zaj):Prop:=∃ F C,l=F++xY L c.Zag.length++wm c L c.Zag.length++C∧ForcedL c s0 c.Zap.toNat F∧ClashL c s0 L c.Zag.length 0 C
theorem JA (L:List Zad) (n:Nat):(xY L n).length≤n:=by
  unfold xY;rw [List.length_map]
  exact Nat.le_trans (List.length_filter_le _ _) (by simp)
theorem JB (c:Zab) (L:List Zad) (n:Nat):(wm c L n).length≤n:=by
  unfold wm;rw [List.length_map]
  exact Nat.le_trans (List.length_filter_le _ _) (by simp)
theorem zdg (L:List Zad) (n:Nat):xY L (n+1)=xY L n++(bif wl L n then [xk n] else []):=by
  unfold xY;rw [List.range_succ,List.filter_append,List.map_append]
  cases h:wl L n<;>simp [h]
theorem zdh (c:Zab) (L:List Zad) (n:Nat):wm c L (n+1)=wm c L n++(bif !wl L n&&unB c L n then [vi n] else []):=by
  unfold wm;rw [List.range_succ,List.filter_append,List.map_append]
  cases h:(!wl L n&&unB c L n)<;>simp [h]
section
variable {c:Zab} {s0:Zad} {L:List Zad}
theorem ForcedL.skip {i:Nat} {F:List Zaj} (h:ForcedL c s0 i F) (hn:zD c (i:Int) (atO s0)=true):ForcedL c s0 (i+1) F where
  el:=fun f hf=>by
    obtain ⟨h1,h2,h3,p,h4,h5⟩:=h.el f hf
    exact ⟨h1,h2,h3,p,by omega,h5⟩
  has:=fun p hp hs=>by
    by_cases e:p=i
    · subst e;rw [hn] at hs;cases hs
    · exact h.has p (by omega) hs
  ord:=h.ord
  len:=by have:=h.len;omega
theorem ForcedL.push {i:Nat} {F:List Zaj} (h:ForcedL c s0 i F) (hn:zD c (i:Int) (atO s0)=false) {tr:List Int} (ht:PlayT c (i:Int) s0 tr):ForcedL c s0 (i+1) (F++[{kind:=1,zw:=(i:Int),clause := -1,other := -1,ZaE:=tr}]) where
  el:=fun f hf=>by
    rcases List.mem_append.1 hf with hf | hf
    · obtain ⟨h1,h2,h3,p,h4,h5⟩:=h.el f hf
      exact ⟨h1,h2,h3,p,by omega,h5⟩
    · rw [List.mem_singleton.1 hf]
      exact ⟨rfl,rfl,rfl,i,by omega,rfl,hn,ht⟩
  has:=fun p hp hs=>by
    by_cases e:p=i
    · subst e;exact ⟨_,List.mem_append.2 (.inr (List.mem_singleton.2 rfl)),rfl⟩
    · obtain ⟨f,h1,h2⟩:=h.has p (by omega) hs
      exact ⟨f,by simp [h1],h2⟩
  ord:=List.pairwise_append.2 ⟨h.ord,by simp,fun f hf g hg=>by
    rw [List.mem_singleton.1 hg]
    obtain ⟨_,_,_,p,h4,h5,_⟩:=h.el f hf
    rw [h5];simp only;omega⟩
  len:=by have:=h.len;simp;omega
theorem Vh {s1:Zad} (h1:qz c=some (s0,0)) (h2:qz c=some (s1,0)):s1=s0:=by
  rw [h1] at h2;cases h2;rfl
theorem zgL (hc:c.Ok):Ret (jW c) (fun r=>(r.2≠0∧r.1=[])∨(r.2=0∧∃ s0 L,qz c=some (s0,0)∧VS c s0∧xy c=some (L,0)∧ReachOk c s0 L∧(∀ p:Nat,(p:Int) < c.Zap→∃ a,qX c (p:Int)=some (a,0)∧ArOk c (p:Int) (atO s0) a)∧FindOk c s0 L r.1)):=by
  by_cases hv:(qg c).1=0
  case neg=>
    have hs:=YM hc hv
    have hr:xy c=some ([],1):=by unfold xy;rw [hs];rfl
    unfold jW
    refine Ret.bindE hr ?_
    exact Ret.some (.inl ⟨by simp,rfl⟩)
  obtain ⟨⟨s0,e0⟩,hst,h0,hvs⟩:=YN hc hv
  simp only at h0 hvs
  subst h0
  have ho:=hc.off.lt (by omega:0 < 8)
  have sm:=qt ho hv
  have s1:=sm.Zap
  have s2:=sm.Zai
  have s3:=sm.Zag
  obtain ⟨⟨L,e⟩,hr,hR⟩:=ze0 hc hst hvs
  unfold jW
  refine Ret.bindE hr ?_
  simp only at hR
  rcases hR with ⟨he,h⟩ | ⟨he,hL⟩
  case inr=>
    rw [show (((L,e):List Zad×Int).2 == 0)=false from beq_eq_false_iff_ne.2 he]
    exact Ret.some (.inl ⟨he,rfl⟩)
  subst he
  refine Ret.ite (fun _ => ?_) (fun h=>by cases h)
  obtain ⟨np,hnp⟩:∃ np:Nat,c.Zap=(np:Int):=⟨c.Zap.toNat,by omega⟩
  have hlen:=h.inv.len
  refine Ret.bind (P:=fun o:List Zaj ⊕ Int=>(∃ F,o=.inl F∧ForcedL c s0 np F∧∀ p:Nat,p < np→∃ a,qX c (p:Int)=some (a,0)∧ArOk c (p:Int) (atO s0) a)∨(∃ e,o=.inr e∧e≠0)) ?_ ?_
  · rw [hnp]
    refine Ret.forL (fun i F=>ForcedL c s0 i F∧∀ p:Nat,p < i→∃ a,qX c (p:Int)=some (a,0)∧ArOk c (p:Int) (atO s0) a) (by omega) ⟨⟨fun f hf=>by simp at hf,fun p hp=>by omega,by simp,by simp⟩,fun p hp=>by omega⟩ (fun i F hi hF => ?_) (fun F hF=>.inl ⟨F,rfl,hF⟩)
    obtain ⟨hF,hBs⟩:=hF
    have hFl:=hF.len
    obtain ⟨⟨a,e⟩,hb,hB⟩:=zb6 hc (i:Int)
    refine Ret.bind (P:=fun o:List Zaj ⊕ Int=>(∃ F',o=.inl F'∧ForcedL c s0 (i+1) F'∧e=0∧ArOk c (i:Int) (atO s0) a)∨(∃ e,o=.inr e∧e≠0)) ?_ ?_
    · refine Ret.bindE hb ?_
      rcases hB with ⟨he,ha⟩ | ⟨he,s1',hst',hv1,A⟩
      · simp only at he
        rw [show (((a,e):ZaC×Int).2 == 0)=false from beq_eq_false_iff_ne.2 he]
        exact Ret.some (.inr ⟨e,rfl,he⟩)
      · simp only at he A
        subst he
        have:=Vh hst hst'
        subst this
        refine Ret.ite (fun _ => ?_) (fun h=>by cases h)
        obtain ⟨r,hrr,hl,hro,hbd⟩:=YP hc A
        refine Ret.bindE hrr ?_
        have hl:r.length=a.Zao.length:=hl
        have hpos:=A.pos
        refine Ret.bindE (v:=at_ r 0) (zj (i:=0) (xE (by omega))) ?_
        have hfst:=A.F.first
        rw [List.getElem?_eq_getElem hpos] at hfst
        have hp0:a.Zao[0]=atO s1':=Option.some.inj hfst
        have hrp:=(ze6 A hro hpos).safe
        rw [hp0] at hrp
        refine Ret.ite (fun hd => ?_) (fun hd => ?_)
        · have hd:=of_decide_eq_true hd
          refine Ret.bind (zgK hc A hl hro hbd hd) ?_
          intro tr htr
          refine Ret.bindE (x:=jg 1 (i:Int) (-1) (-1) tr) rfl ?_
          refine Ret.bindE (jw (by simp;omega)) ?_
          have hns:zD c (i:Int) (atO s1')=false:=by
            cases hq:zD c (i:Int) (atO s1') with
            | false=>rfl
            | true=>have:=hrp.2 (jL.1 hq);omega
          exact Ret.some (.inl ⟨_,rfl,hF.push hns htr,rfl,A⟩)
        · have hd:=of_decide_eq_false hd
          have:=(hro 0 hpos).1
          have hsf:zD c (i:Int) (atO s1')=true:=jL.2 (hrp.1 (by omega))
          exact Ret.some (.inl ⟨_,rfl,hF.skip hsf,rfl,A⟩)
    · rintro o (⟨F',rfl,h1,rfl,h2⟩ | ⟨e',rfl,he'⟩)
      · refine Ret.some ⟨h1,fun p hp => ?_⟩
        by_cases e:p=i
        · subst e;exact ⟨a,hb,h2⟩
        · exact hBs p (by omega)
      · exact Ret.some (.inr ⟨e',rfl,he'⟩)
  rintro o (⟨F,rfl,hF,hBs⟩ | ⟨e,rfl,he⟩)
  case inr=>exact Ret.some (.inl ⟨he,rfl⟩)
  simp only [Sum.elim_inl]
  have hFl:=hF.len
  refine Ret.bind (P:=fun o:(List Zaj×List Zaj) ⊕ Unit=>o=.inl (F++xY L c.Zag.length,wm c L c.Zag.length)) (Ret.forL (fun i s=>s=(F++xY L i,wm c L i)) (by omega) (by simp [xY,wm]) (fun i s hi hs => ?_) (fun s hs=>by rw [hs])) ?_
  · subst hs
    have l1:=JA L i
    have l2:=JB c L i
    refine Ret.bind (P:=fun s=>s=(F++xY L (i+1),wm c L (i+1))) ?_ (fun s hs=>Ret.some hs)
    rw [zdg,zdh]
    unfold Jm
    refine Ret.bindE (zgH h hi) ?_
    refine Ret.ite (fun hd => ?_) (fun hd => ?_)
    · refine Ret.bindE (x:=jg 2 (-1) (i:Int) (-1) []) rfl ?_
      refine Ret.bindE (jw (by simp;omega)) ?_
      exact Ret.some (by rw [hd];simp [xk])
    · refine Ret.bindE (zjW h hi) ?_
      refine Ret.ite (fun hu => ?_) (fun hu => ?_)
      · refine Ret.bindE (x:=jg 3 (-1) (i:Int) (-1) []) rfl ?_
        refine Ret.bindE (jw (by simp;omega)) ?_
        exact Ret.some (by rw [hd,hu];simp [vi])
      · exact Ret.some (by rw [hd,hu];simp)
  rintro o rfl
  simp only [Sum.elim_inl]
  have l1:=JA L c.Zag.length
  have l2:=JB c L c.Zag.length
  refine Ret.bindE (jw (by simp;omega)) ?_
  refine Ret.bind (zbC hc h hvs) ?_
  intro C hC
  have hCl:=hC.len
  have hbig:c.Zag.length*c.Zag.length≤400*400:=Nat.mul_le_mul (by omega) (by omega)
  refine Ret.bindE (jw (by simp;omega)) ?_
  exact Ret.some (.inr ⟨rfl,s0,L,hst,hvs,hr,h,fun p hp=>hBs p (by omega),F,C,rfl,by rw [hnp];exact hF,hC⟩)
end
end
end Go.Proofs.YtlpmnmbebkdocaaGreatDoor
