/-
  Forgetting, and the end of a function, by the kernel.
  Slices that are nil or not; renaming; copies of slices (slices.Clone).
  A slice with an owner that is written no more may be taken for data.
  Loops whose states have names that are found on the way; slices of slices that grow.
  A slice with an owner that will only grow may be taken for one that grows.
  The abstract machine: ranges over functions. The iterator's code is run where the loop stands; its calls of yield run the loop's body.
  An object whose cells are slices that grow: the tips have names of a range of their own, behind a mark in the list of objects.
  Plans: what a function computes, told so that the kernel can hold it against the function's code. A plan that the kernel has checked is a walk.
-/
import Derived.Test.YtmoedieenlaegaaGreatDoorWC04
namespace Go.Proofs.YtmoedieenlaegaaGreatDoor
open Go.RowKit
set_option linter.unusedSimpArgs false
set_option linter.unusedVariables false
def zcu (m:Nat) (ov env:List (Nat×AV)):List Nat→Option (List (Nat×AV)×List Prop)
  | []=>some ([],[])
  | k::ks=>match za env k with
    | none=>none
    | some a=>match zcu m ov env ks with
      | none=>none
      | some (l,ps)=>match za ov k with
        | some b=>match zO m b with
          | true=>some ((k,b)::l,(a=b)::ps)
          | false=>none
        | none=>match zO m a with
          | true=>some ((k,a)::l,ps)
          | false=>none
def Vi (m:Nat):Zah→Bool
  | .rows _ rows=>rows.all fun row=>row.all (zO m)
  | .tip _ _=>true
  | .map es=>es.all fun e=>zO m e.2
  | .dead=>true
  | .lp _ _ _ _=>true
theorem yB {m:Nat} {o:Zah} (h:Vi m o=true):zK m o:=by
  cases o<;>simp only [Vi,zK] at h ⊢
  · intro row hr x hx;exact List.all_eq_true.1 (List.all_eq_true.1 h row hr) x hx
  · intro e he;exact List.all_eq_true.1 h e he
def YN (m:Nat) (ov heap:List (Nat×Zah)):List (Nat×Bool)→Option (List (Nat×Zah)×List Prop)
  | []=>some ([],[])
  | (k,f)::ks=>match za heap k with
    | none=>none
    | some a=>match YN m ov heap ks with
      | none=>none
      | some (l,ps)=>match decide (k < m) with
        | false=>none
        | true=>match za ov k with
          | some b=>match f with
            | true=>match Vi m b with
              | true=>some ((k,b)::l,(a=b)::ps)
              | false=>none
            | false=>some ((k,b)::l,(a=b)::zK m b::ps)
          | none=>match f with
            | true=>match Vi m a with
              | true=>some ((k,a)::l,ps)
              | false=>none
            | false=>some ((k,a)::l,zK m a::ps)
def zgQ (ks:List Nat) (hs:List (Nat×Bool)) (n:Nat) (ov:List (Nat×AV)) (ovh:List (Nat×Zah)) (st:St):Option (St×List Prop):=match decide (n≤st.next) with
  | false=>none
  | true=>match zcu n ov st.env ks,YN n ovh st.heap hs with
    | some (e,ps),some (h,qs)=>some (⟨e,h,n⟩,ps++qs)
    | _,_=>none
theorem Q5 {m:Nat} {ov env:List (Nat×AV)}:∀ {ks:List Nat} {l:List (Nat×AV)} {ps:List Prop},zcu m ov env ks=some (l,ps)→AllP ps→∀ p∈l,za env p.1=some p.2∧zO m p.2=true
  | [],l,ps,h,hp=>by cases h;intro p hp;cases hp
  | k::ks,l,ps,h,hp=>by
    simp only [zcu] at h
    split at h
    · cases h
    · rename_i a ha
      split at h
      · cases h
      · rename_i l' ps' hr
        split at h
        · split at h
          · rename_i b hb hbl
            cases h
            cases hp with
            | cons h1 h2=>
              intro p hp
              rcases List.mem_cons.1 hp with rfl | hp
              · exact ⟨by rw [ha,h1],hbl⟩
              · exact Q5 hr h2 p hp
          · cases h
        · split at h
          · rename_i hbl
            cases h
            intro p hpm
            rcases List.mem_cons.1 hpm with rfl | hpm
            · exact ⟨ha,hbl⟩
            · exact Q5 hr hp p hpm
          · cases h
theorem wD {m:Nat} {ov heap:List (Nat×Zah)}:∀ {ks:List (Nat×Bool)} {l:List (Nat×Zah)} {ps:List Prop},YN m ov heap ks=some (l,ps)→AllP ps→∀ p∈l,za heap p.1=some p.2∧p.1 < m∧zK m p.2
  | [],l,ps,h,hp=>by cases h;intro p hp;cases hp
  | (k,f)::ks,l,ps,h,hp=>by
    simp only [YN] at h
    split at h
    · cases h
    · rename_i a ha
      split at h
      · cases h
      · rename_i l' ps' hr
        split at h
        · cases h
        · rename_i hk
          have hk:=of_decide_eq_true hk
          split at h
          · rename_i b hb
            split at h
            · split at h
              · rename_i hbl
                cases h
                cases hp with
                | cons h1 h2=>
                  intro p hp
                  rcases List.mem_cons.1 hp with rfl | hp
                  · exact ⟨by rw [ha,h1],hk,yB hbl⟩
                  · exact wD hr h2 p hp
              · cases h
            · cases h
              cases hp with
              | cons h1 h2=>
                cases h2 with
                | cons h3 h4=>
                  intro p hp
                  rcases List.mem_cons.1 hp with rfl | hp
                  · exact ⟨by rw [ha,h1],hk,h3⟩
                  · exact wD hr h4 p hp
          · split at h
            · split at h
              · rename_i hbl
                cases h
                intro p hpm
                rcases List.mem_cons.1 hpm with rfl | hpm
                · exact ⟨ha,hk,yB hbl⟩
                · exact wD hr hp p hpm
              · cases h
            · cases h
              cases hp with
              | cons h3 h4=>
                intro p hpm
                rcases List.mem_cons.1 hpm with rfl | hpm
                · exact ⟨ha,hk,h3⟩
                · exact wD hr h4 p hpm
theorem KC {st st':St} (ks:List Nat) (hs:List (Nat×Bool)) (n:Nat) (ov:List (Nat×AV)) (ovh:List (Nat×Zah)) {ps:List Prop} (hp:AllP ps) (h:zgQ ks hs n ov ovh st=some (st',ps)):Weak st st':=by
  unfold zgQ at h
  split at h
  · cases h
  · rename_i hn
    split at h
    · rename_i e qs hh rs he hhp
      cases h
      obtain ⟨p1,p2⟩:=hp.app
      exact Va (of_decide_eq_true hn) (Q5 he p1) (wD hhp p2)
    · cases h
theorem ACall.weak {C:Ctx} {f:Nat} {args:List AV} {heap:List (Nat×Zah)} {next:Nat} {K K':AV→List (Nat×Zah)→Nat→Prop} (hc:ACall C f args heap next K)
    (hk:∀ r h n,K r h n→∃ r' h' n',K' r' h' n'∧next≤n'∧Weak ⟨[(0,r)],h,n⟩ ⟨[(0,r')],h',n'⟩):ACall C f args heap next K':=by
  refine ⟨hc.1,fun g w vs R hv=>(hc.2 g w vs R hv).mono ?_⟩
  rintro e w' ⟨v,r,heap',next',g',rfl,hK,E,R',hx⟩
  obtain ⟨r',h',n',hK',hn,hw⟩:=hk r heap' next' hK
  let a:Act:={tmps := #[v],defers:=[]}
  have hrel:Rel C ⟨1,0⟩ g' ⟨[(0,r)],heap',next'⟩ a w':=⟨⟨rfl,Marks.nil _ (Nat.zero_le _),fun t x hx'=>by
    simp only [za] at hx'
    split at hx'
    · rename_i e;subst e;cases hx';exact hx
    · cases hx'⟩,R'⟩
  obtain ⟨g2,R2,hE⟩:=hw C ⟨1,0⟩ g' a w' hrel
  exact ⟨v,r',h',n',g2,rfl,hK',hE g ⟨[],heap,next⟩ w hn E,R2.heap,R2.env.slot 0 r' rfl⟩
def zkq (rs:List ARes) (r:AV) (heap:List (Nat×Zah)) (n:Nat):Exit→St→Prop
  | .ret,st | .normal,st=>∃ x,jn rs st=some x∧Weak ⟨[(0,x)],st.heap,st.next⟩ ⟨[(0,r)],heap,n⟩
  | _,_=>False
def JE (m:Nat) (heap:List (Nat×Zah)):Bool:=(List.range m).all fun i=>(za heap i).isSome
theorem zbo {m:Nat} {heap:List (Nat×Zah)} (h:JE m heap=true):∀ i,i < m→(za heap i).isSome=true:=fun i hi=>by
  simp only [JE,List.all_eq_true,List.mem_range] at h
  exact h i hi
def zA:Nat:=1000000
def wm (b:Nat) (L:List Int):List AV:=[bif Nat.blt b 2000000 then .Zav b (L.map zb) else .imm (.slice (L.map zb))]
def qf:Nat→List (List Int)→List (List AV)
  | _,[]=>[]
  | b,L::r=>wm b L::qf (b+1) r
theorem yl:∀ (Ls:List (List Int)) (b k:Nat),(qf b Ls)[k]?=(Ls[k]?).map (wm (b+k))
  | [],b,k=>by simp [qf]
  | L::r,b,0=>by simp [qf]
  | L::r,b,k+1=>by
    simp only [qf,List.getElem?_cons_succ]
    rw [yl r (b+1) k,show b+1+k=b+(k+1) by omega]
theorem xH {b:Nat} (h:b < 2000000) (L:List Int):wm b L=[.Zav b (L.map zb)]:=by
  have:Nat.blt b 2000000=true:=by simpa [Nat.blt_eq] using h
  simp [wm,this]
theorem vX {b:Nat} (h:¬ b < 2000000) (L:List Int):wm b L=[.imm (.slice (L.map zb))]:=by
  have:Nat.blt b 2000000=false:=by
    cases e:Nat.blt b 2000000 with
    | false=>rfl
    | true=>exact absurd (by simpa [Nat.blt_eq] using e) h
  simp [wm,this]
theorem Yz {nx b:Nat} (h2:2000000≤nx) (L:List Int):∀ x∈wm b L,zO nx x=true:=by
  intro x hx
  by_cases hb:b < 2000000
  · rw [xH hb] at hx
    have:x=.Zav b (L.map zb):=by simpa using hx
    subst this
    simp only [zO,xn,zG,decide_eq_true_eq];omega
  · rw [vX hb] at hx
    have:x=.imm (.slice (L.map zb)):=by simpa using hx
    subst this;rfl
theorem zaY {nx:Nat} (h2:2000000≤nx) (Ls:List (List Int)) (b:Nat):zK nx (.rows 1 (qf b Ls)):=by
  intro row hrow x hx
  obtain ⟨k,hk⟩:=List.mem_iff_getElem?.1 hrow
  rw [yl] at hk
  obtain ⟨L,_,rfl⟩:=Option.map_eq_some_iff.1 hk
  exact Yz h2 L x hx
inductive Belows (m:Nat):List (Nat×Zah)→Prop where
  | nil:Belows m []
  | exp {k:Nat} {o:Zah} {r:List (Nat×Zah)} (hk:decide (k < m)=true) (ho:Vi m o=true) (t:Belows m r):Belows m ((k,o)::r)
  | rows {k sz:Nat} {α:Type} {f:α→List IV} {l:List α} {r:List (Nat×Zah)} (hk:decide (k < m)=true) (t:Belows m r):Belows m ((k,.rows sz (zc f l))::r)
  | ents {k:Nat} {α β:Type} {kf:α→IV} {vf:β→IV} {es:List (α×β)} {r:List (Nat×Zah)} (hk:decide (k < m)=true) (t:Belows m r):Belows m ((k,.map (zn kf vf es))::r)
  | nest {k:Nat} {Ls:List (List Int)} {r:List (Nat×Zah)} (hk:decide (k < m)=true) (hn:Nat.ble 2000000 m=true) (t:Belows m r):Belows m ((k,.rows 1 (qf zA Ls))::r)
theorem Belows.all {m:Nat} {l:List (Nat×Zah)} (h:Belows m l):∀ p∈l,p.1 < m∧zK m p.2:=by
  induction h with
  | nil=>intro p hp;cases hp
  | exp hk ho t ih=>
    intro p hp
    rcases List.mem_cons.1 hp with rfl | hp
    · exact ⟨of_decide_eq_true hk,yB ho⟩
    · exact ih p hp
  | rows hk t ih=>
    intro p hp
    rcases List.mem_cons.1 hp with rfl | hp
    · exact ⟨of_decide_eq_true hk,Zh _ _ _ _⟩
    · exact ih p hp
  | ents hk t ih=>
    intro p hp
    rcases List.mem_cons.1 hp with rfl | hp
    · exact ⟨of_decide_eq_true hk,zaX _ _ _ _⟩
    · exact ih p hp
  | nest hk hn t ih=>
    intro p hp
    rcases List.mem_cons.1 hp with rfl | hp
    · exact ⟨of_decide_eq_true hk,zaY (Nat.le_of_ble_eq_true hn) _ _⟩
    · exact ih p hp
theorem DOk.start {C:Ctx} {f:Nat} {F:AFun} (hF:qr C f=some F.erase) {args:List AV} {heap heap1:List (Nat×Zah)} {m d:Nat} {r:AV} (hn:args.length≤F.nt) (b0:Belows m heap) (b1:Belows (m+d) heap1) (hka:args.all (zO m)=true) (hkr:zO (m+d) r=true) (k0:JE m heap=true) (k1:JE m heap1=true)
    (h:∀ B,awp C.plain ⟨F.nt,B⟩ F.body (zkq F.results r heap1 (m+d)) ⟨jc 0 args,heap,m⟩):DOk C f args heap m r heap1 d where
  det:=by
    have h1:ACall C f args heap m fun x hp n=>Weak ⟨[(0,x)],hp,n⟩ ⟨[(0,r)],heap1,m+d⟩:=ACall.enter hF hn (fun B=>jw (fun e st hk=>by
      cases e with
      | ret=>obtain ⟨x,h1,h2⟩:=hk;exact ⟨.inl rfl,x,h1,h2⟩
      | normal=>obtain ⟨x,h1,h2⟩:=hk;exact ⟨.inr rfl,x,h1,h2⟩
      | _=>exact hk.elim) (h B))
    exact h1.weak fun x hp n hw=>⟨r,heap1,m+d,⟨rfl,rfl,rfl⟩,by omega,hw⟩
  k0:=b0.all
  ka:=fun x hx=>List.all_eq_true.1 hka x hx
  k1:=b1.all
  kr:=hkr
  all:=zbo k1
  all0:=zbo k0
section
section
variable {C:Ctx} {g g':Gh} {h h':Nat→Option Zah} {N N':Nat→Prop} {w w':World} {id:Nat}
theorem V0 {st:St} {t:Nat} {x y:AV} {ups:List (Nat×Zah)} (ht:za st.env t=some x)
    (hg:∀ (C:Ctx) (g:Gh) (w:World) (v:Value),RH C g (za st.heap) (· < st.next) w→RV C g (za st.heap) (· < st.next) w x v→Good C g (za st.heap) (· < st.next) w st.next y ups v w) :
    Weak st ⟨zo st.env t y,zF ups st.heap,st.next+1⟩:=by
  intro C nt g a w R
  obtain ⟨g',E,H,hv⟩:=hg C g w _ R.heap (R.env.slot t x ht)
  rw [jR] at E H hv
  rw [←js] at E H hv
  refine ⟨g',⟨⟨R.env.size,R.env.defers.evo E,fun t' z hz => ?_⟩,H⟩,fun g0 st0 w0 hm E0=>E0.trans E⟩
  rw [zt] at hz
  split at hz
  · rename_i e;subst e;cases hz;exact hv
  · exact (R.env.slot t' z hz).mono E
theorem zdV {st:St} {t:Nat} (sz:Nat) (ht:za st.env t=some .nil):Weak st ⟨zo st.env t (.Zam st.next 0 0),zF [(st.next,.rows sz [])] st.heap,st.next+1⟩:=
  V0 ht fun C g w v R hv=>by rw [xa hv];exact VO R (Nat.lt_irrefl _) sz
theorem V1 {st:St} {t i len sz:Nat} {rows:List (List AV)} (ht:za st.env t=some (.Zam i 0 len)) (ho:za st.heap i=some (.rows sz rows)) (hl:len=rows.length) :
    Weak st ⟨zo st.env t (.Zam st.next 0 len),zF [(st.next,.rows sz rows),(i,.dead)] st.heap,st.next+1⟩:=
  V0 ht fun C g w v R hv=>Y9 R (Nat.lt_irrefl _) hv ho hl
theorem zdW (st:St) (n:Nat) (hn:st.next≤n):Weak st ⟨st.env,st.heap,n⟩:=by
  intro C nt g a w R
  have E:Evo g (za st.heap) (· < st.next) w g (za st.heap) (· < n) w:={Evo.refl g (za st.heap) (· < st.next) w with
    next:=fun i hi=>Nat.lt_of_lt_of_le hi hn}
  refine ⟨g,⟨⟨R.env.size,R.env.defers,fun t x hx=>(R.env.slot t x hx).mono E⟩,⟨R.heap.inj,fun i b hb=>⟨(R.heap.lt i b hb).1,Nat.lt_of_lt_of_le (R.heap.lt i b hb).2 hn⟩,fun i o ho=>Nat.lt_of_lt_of_le (R.heap.key i o ho) hn,fun i b o hb ho=>(R.heap.obj i b o hb ho).keep E rfl rfl,R.heap.tip0,R.heap.zlt,R.heap.fix.evo E⟩⟩,fun g0 st0 w0 hm E0=>E0.trans E⟩
theorem Weak.trans {s1 s2 s3:St} (h1:Weak s1 s2) (h2:Weak s2 s3) (hn:s3.next≤s2.next∨True):∀ (C:Ctx) (nt:Fr) (g:Gh) (a:Act) (w:World),Rel C nt g s1 a w→∃ g',Rel C nt g' s3 a w∧∀ g0 st0 w0,st0.next≤s2.next→st0.next≤s3.next→EvoS g0 st0 w0 g s1 w→EvoS g0 st0 w0 g' s3 w:=by
  intro C nt g a w R
  obtain ⟨g1,R1,e1⟩:=h1 C nt g a w R
  obtain ⟨g2,R2,e2⟩:=h2 C nt g1 a w R1
  exact ⟨g2,R2,fun g0 st0 w0 a1 a2 E=>e2 g0 st0 w0 a2 (e1 g0 st0 w0 a1 E)⟩
theorem ACall.nilsplit {f:Nat} {rest:List AV} {heap:List (Nat×Zah)} {next:Nat} {K:AV→List (Nat×Zah)→Nat→Prop} (h1:ACall C f (.nil::rest) heap next K) (h2:ACall C f (.nnil::rest) heap next K):ACall C f (.imm (.slice [])::rest) heap next K:=by
  refine ⟨h1.1,fun g w vs R hv => ?_⟩
  obtain ⟨hl,hv⟩:=hv
  cases vs with
  | nil=>simp at hl
  | cons v vs=>
    have hv0:=hv 0 _ v rfl rfl
    have key:∀ x,RV C g (za heap) (· < next) w x v→RVs C g (za heap) (· < next) w (x::rest) (v::vs):=fun x hx=>⟨by simpa using hl,fun j y u hj hu=>by
      cases j with
      | zero=>simp at hj hu;subst hj hu;exact hx
      | succ j=>exact hv (j+1) y u hj hu⟩
    cases hv0 with
    | imm _ _ hr=>
      cases hr with
      | nil=>exact h1.2 g w _ R (key _ .nil)
      | empty a cap=>exact h2.2 g w _ R (key _ (.nnil a cap))
      | slice _ b off cap sz cv hcap=>exact h2.2 g w _ R (key _ (.nnil ⟨b,off,none⟩ cap))
def xi (sz by_:Nat) (zero:List AV):AFun:=⟨8,[.tmp 2],(
 .seq (.region false [] [⟨some 2,.mov (.c (.nil)),none⟩] (some [0])) (
  .seq (.seq (.region false [] [⟨some 3,.mov (.t 0),none⟩,⟨some 4,.eqnil false (.t 3) (.c (.nil)),none⟩] (some [0,4])) (
    .cond (.t 4) (.seq (.region false [] [⟨some 2,.mov (.c (.nil)),none⟩] (some [2])) (.ret)) (.skip))) (
   .seq (.region false [] [⟨some 5,.bslice sz zero 0 [],none⟩,⟨some 6,.mov (.t 0),none⟩,⟨some 7,.app sz by_ (.t 5) (.t 6),none⟩,⟨some 2,.mov (.t 7),none⟩] (some [2])) (.ret))))⟩
def jm {α:Type} (by_:Nat) (l:List α):Option (List α):=if l.length*by_≤140737488355328 then some l else none
theorem clone_ok {α:Type} {n sz by_:Nat} {zero:List AV} (hF:qr C n=some (xi sz by_ zero).erase) (f:α→List IV) (hf:∀ x,(f x).length=sz) {l e:List α} (h:jm by_ l=some e) :
    DOk C n [.imm (.slice (List.map f l))] [] 0 (.Zam 7 0 e.length) [(7,.rows sz (zc f e))] 8:=by
  unfold jm at h
  split at h
  case isFalse=>cases h
  rename_i hb
  cases h
  refine ⟨?_,by simp,by simp [zO,xn,zG],?_,by simp [zO,xn,zG],by simp,by simp⟩
  · unfold zfj
    cases l with
    | nil=>
      refine ACall.nilsplit ?_ ?_
      · have h1:ACall C n [.nil] [] 0 fun r hp nx=>r=.nil∧hp=[]∧nx=4:=by
          refine ACall.run hF (by simp [xi]) (fun B => ?_)
          simp [xi]
        refine (h1.weak (K':=fun r hp nx=>r=.nil∧hp=[]∧nx=7) ?_).weak ?_
        · rintro r hp nx ⟨rfl,rfl,rfl⟩
          exact ⟨_,_,_,⟨rfl,rfl,rfl⟩,by omega,zdW _ 7 (by simp)⟩
        · rintro r hp nx ⟨rfl,rfl,rfl⟩
          exact ⟨_,_,_,⟨rfl,rfl,rfl⟩,by omega,zdV (t:=0) sz rfl⟩
      · have h1:ACall C n [.nnil] [] 0 fun r hp nx=>r=.Zam 5 0 0∧hp=[(3,.dead),(5,.rows sz [])]∧nx=7:=by
          refine ACall.run hF (by simp [xi]) (fun B => ?_)
          simp [xi,Xl]
        refine (h1.weak (K':=fun r hp nx=>r=.Zam 7 0 0∧hp=[(3,.dead),(5,.dead),(7,.rows sz [])]∧nx=8) ?_).weak ?_
        · rintro r hp nx ⟨rfl,rfl,rfl⟩
          exact ⟨_,_,_,⟨rfl,rfl,rfl⟩,by omega,V1 (t:=0) (i:=5) (len:=0) (sz:=sz) (rows:=[]) rfl rfl rfl⟩
        · rintro r hp nx ⟨rfl,rfl,rfl⟩
          exact ⟨_,_,_,⟨rfl,rfl,rfl⟩,by omega,KC [0] [(7,true)] 8 [] [] AllP.nil (by kernel_rfl)⟩
    | cons x xs=>
      have h1:ACall C n [.imm (.slice (List.map f (x::xs)))] [] 0 fun r hp nx=>r=.Zam 5 0 (x::xs).length∧hp=[(3,.dead),(5,.rows sz (zc f (x::xs)))]∧nx=7:=by
        refine ACall.run hF (by simp [xi]) (fun B => ?_)
        simp [xi,Xl,hf]
        have hb':(xs.length+1)*by_≤140737488355328:=by simpa using hb
        rw [if_pos hb']
        simp [zc,zm,Function.comp_def]
      refine (h1.weak (K':=fun r hp nx=>r=.Zam 7 0 (x::xs).length∧hp=[(3,.dead),(5,.dead),(7,.rows sz (zc f (x::xs)))]∧nx=8) ?_).weak ?_
      · rintro r hp nx ⟨rfl,rfl,rfl⟩
        exact ⟨_,_,_,⟨rfl,rfl,rfl⟩,by omega,V1 (t:=0) (i:=5) (len:=(x::xs).length) (sz:=sz) (rows:=zc f (x::xs)) rfl rfl (by simp [zc])⟩
      · rintro r hp nx ⟨rfl,rfl,rfl⟩
        exact ⟨_,_,_,⟨rfl,rfl,rfl⟩,by omega,KC [0] [(7,false)] 8 [] [] (AllP.cons (Zh 8 sz f (x::xs)) .nil) (by kernel_rfl)⟩
  · intro p hp
    simp only [List.mem_singleton] at hp
    subst hp
    exact ⟨by omega,Zh _ _ _ _⟩
end
end
section
def Zv (id:Nat) (rows:List (List IV)):AV→AV
  | .Zam i o n=>if i=id then .imm (.slice rows) else .Zam i o n
  | x=>x
def Zw (id off len:Nat):AV→List Prop
  | .Zam i o n=>if i=id then [o=off∧n=len] else []
  | _=>[]
def YO (id off len:Nat):AV→List Prop
  | .agg cs=>cs.flatMap (Zw id off len)
  | .tuple cs=>cs.flatMap (Zw id off len)
  | x=>Zw id off len x
def KF (id off len:Nat):Zah→List Prop
  | .rows _ rs=>rs.flatMap fun r=>r.flatMap (YO id off len)
  | _=>[]
def KG (id off len:Nat):List (Nat×AV)→List Prop
  | []=>[]
  | (_,x)::r=>YO id off len x++KG id off len r
def KH (id off len:Nat) (ks:List Nat):List (Nat×Zah)→List Prop
  | []=>[]
  | (k,o)::r=>(if ks.contains k then KF id off len o else [])++KH id off len ks r
theorem AllP.mem {ps:List Prop} (h:AllP ps) {p:Prop} (hp:p∈ps):p:=by
  induction h with
  | nil=>cases hp
  | cons h t ih=>
    rcases List.mem_cons.1 hp with e | e
    · rw [e];exact h
    · exact ih e
theorem AllP.sub {ps qs:List Prop} (h:AllP ps) (hs:∀ p∈qs,p∈ps):AllP qs:=by
  induction qs with
  | nil=>exact .nil
  | cons q qs ih=>exact .cons (h.mem (hs q (by simp))) (ih fun p hp=>hs p (by simp [hp]))
theorem KI {id off len t:Nat} {x:AV}:∀ {env:List (Nat×AV)},za env t=some x→∀ p∈YO id off len x,p∈KG id off len env
  | [],h,p,hp=>by cases h
  | (k,y)::r,h,p,hp=>by
    simp only [za] at h
    simp only [KG,List.mem_append]
    split at h
    · cases h;exact .inl hp
    · exact .inr (KI h p hp)
theorem KJ {id off len i:Nat} {ks:List Nat} {o:Zah} (hi:ks.contains i=true):∀ {heap:List (Nat×Zah)},za heap i=some o→∀ p∈KF id off len o,p∈KH id off len ks heap
  | [],h,p,hp=>by cases h
  | (k,y)::r,h,p,hp=>by
    simp only [za] at h
    simp only [KH,List.mem_append]
    split at h
    · rename_i e;subst e;cases h;rw [if_pos hi];exact .inl hp
    · exact .inr (KJ hi h p hp)
def JF (id:Nat) (rows:List (List IV)):AV→AV
  | .agg cs=>.agg (cs.map (Zv id rows))
  | .tuple cs=>.tuple (cs.map (Zv id rows))
  | x=>Zv id rows x
def xb (id:Nat) (rows:List (List IV)):Zah→Zah
  | .rows sz rs=>.rows sz (rs.map fun r=>r.map (JF id rows))
  | o=>o
def Qa (id:Nat) (rows:List (List IV)) (ks:List Nat):List (Nat×Zah)→List (Nat×Zah)
  | []=>[]
  | (k,o)::r=>(k,if k=id then .dead else if ks.contains k then xb id rows o else o)::Qa id rows ks r
def KL (id:Nat) (rows:List (List IV)):List (Nat×AV)→List (Nat×AV)
  | []=>[]
  | (k,x)::r=>(k,JF id rows x)::KL id rows r
theorem Wf (id:Nat) (rows:List (List IV)):∀ (env:List (Nat×AV)) (t:Nat),za (KL id rows env) t=(za env t).map (JF id rows)
  | [],t=>rfl
  | (k,x)::r,t=>by
    simp only [KL,za]
    split
    · rfl
    · exact Wf id rows r t
theorem Wg (id:Nat) (rows:List (List IV)) (ks:List Nat):∀ (heap:List (Nat×Zah)) (i:Nat),za (Qa id rows ks heap) i=(za heap i).map fun o=>if i=id then .dead else if ks.contains i then xb id rows o else o
  | [],i=>rfl
  | (k,o)::r,i=>by
    simp only [Qa,za]
    split
    · rename_i e;subst e;rfl
    · exact Wg id rows ks r i
theorem zaZ {st:St} (id sz off len:Nat) (all rows:List (List IV)) (ks:List Nat) (rowsV:List (List AV)) (ho:za st.heap id=some (.rows sz rowsV)) (hrows:all.map (fun r=>r.map AV.imm)=rowsV) (hD:(all.drop off).take len=rows) (hocc:AllP (KG id off len st.env++KH id off len ks st.heap)):Weak st ⟨KL id rows st.env,Qa id rows ks st.heap,st.next⟩:=by
  subst hrows
  intro C nt g a w R
  obtain ⟨RE,R⟩:=R
  let g':Gh:=⟨fun i=>if i=id then none else g.ρ i,fun b=>if g.ρ id=some b then max (g.Z b) (all.length*sz) else g.Z b⟩
  have hr:∀ i b,g'.ρ i=some b→i≠id∧g.ρ i=some b:=fun i b h=>by
    simp only [g'] at h
    split at h
    · cases h
    · exact ⟨‹_›,h⟩
  have hr':∀ i,i≠id→g'.ρ i=g.ρ i:=fun i h=>by simp only [g',if_neg h]
  have hz:∀ b,g.Z b≤g'.Z b:=fun b=>by simp only [g'];split<;>omega
  have hz':∀ b,¬ g.ρ id=some b→g'.Z b=g.Z b:=fun b h=>by simp only [g',if_neg h]
  have hh:∀ i o,za (Qa id rows ks st.heap) i=some o→(i=id∧o=.dead)∨(i≠id∧∃ o0,za st.heap i=some o0∧(o=o0∨(ks.contains i=true∧o=xb id rows o0))):=fun i o h=>by
    rw [Wg,Option.map_eq_some_iff] at h
    obtain ⟨o0,h1,h2⟩:=h
    split at h2
    · rename_i e;exact .inl ⟨e,h2.symm⟩
    · rename_i e
      split at h2
      · rename_i hk;exact .inr ⟨e,o0,h1,.inr ⟨hk,h2.symm⟩⟩
      · exact .inr ⟨e,o0,h1,.inl h2.symm⟩
  have E:Evo g (za st.heap) (· < st.next) w g' (za (Qa id rows ks st.heap)) (· < st.next) w:={
    os:=rfl
    tape:=rfl
    output:=rfl
    size:=Nat.le_refl _
    old:=fun b _ hno=>⟨rfl,hz' b fun e=>hno ⟨id,e⟩⟩
    own:=fun b ⟨i,hi⟩=>.inl ⟨i,(hr i b hi).2⟩
    zmono:=hz
    cell:=fun _ _ _=>rfl
    shape:=fun b c e h=>⟨c,h,rfl⟩
    next:=fun _ h=>h
    rho:=fun i b hb o ho' hnd _=>by
      rcases hh i o ho' with ⟨_,h2⟩ | ⟨h1,_⟩
      · exact absurd h2 hnd
      · exact .inl (by rw [hr' i h1];exact hb)
    rho0:=fun i hb _ o ho' hnd=>by
      rcases hh i o ho' with ⟨_,h2⟩ | ⟨h1,_⟩
      · exact absurd h2 hnd
      · exact .inl (by rw [hr' i h1];exact hb)
    rows:=fun i _ s r ho'=>by
      rcases hh i _ ho' with ⟨_,h2⟩ | ⟨_,o0,h2,h3 | ⟨_,h3⟩⟩
      · cases h2
      · subst h3;exact ⟨r,h2,rfl⟩
      · cases o0<;>simp only [xb] at h3<;>cases h3
        exact ⟨_,h2,by simp⟩
    tips:=fun i _ s l ho'=>by
      rcases hh i _ ho' with ⟨_,h2⟩ | ⟨_,o0,h2,h3 | ⟨_,h3⟩⟩
      · cases h2
      · subst h3;exact ⟨l,h2,Nat.le_refl _⟩
      · cases o0<;>simp only [xb] at h3<;>cases h3
        exact ⟨_,h2,Nat.le_refl _⟩
    maps:=fun i _ es ho'=>by
      rcases hh i _ ho' with ⟨_,h2⟩ | ⟨_,o0,h2,h3 | ⟨_,h3⟩⟩
      · cases h2
      · subst h3;exact ⟨es,h2⟩
      · cases o0<;>simp only [xb] at h3<;>cases h3
        exact ⟨_,h2⟩
    lps:=fun i _ ll RR s pe ho'=>by
      rcases hh i _ ho' with ⟨_,h2⟩ | ⟨_,o0,h2,h3 | ⟨_,h3⟩⟩
      · cases h2
      · subst h3;exact ⟨s,pe,h2⟩
      · cases o0<;>simp only [xb] at h3<;>cases h3
        exact ⟨_,_,h2⟩}
  have leaf:∀ {x:AV} {v:Value},AllP (Zw id off len x)→RV C g (za st.heap) (· < st.next) w x v→RV C g' (za (Qa id rows ks st.heap)) (· < st.next) w (Zv id rows x) v:=by
    intro x v hoc hv
    cases x with
    | Zam i off' len'=>
      simp only [Zv]
      split
      · rename_i e
        subst e
        simp only [Zw,if_true] at hoc
        obtain ⟨rfl,rfl⟩:=hoc.one
        rw [←hD]
        cases hv with
        | Zam _ _ _ _ hid h1 hp=>
          obtain ⟨h2,h3⟩:=hp sz _ ho
          simp only [List.length_map] at h2
          have hlen:((all.drop off').take len').length=len':=by rw [List.length_take,List.length_drop];omega
          rcases h3 with ⟨a1,a2,a3⟩ | ⟨b,cap,c,e,b1,b2,b3,b4,b5⟩
          · simp only [List.map_eq_nil_iff] at a2
            subst a2 a3
            have:len'=0:=by simp at h2;omega
            subst this
            simp only [List.drop_nil,List.take_nil]
            exact .imm _ _ .nil
          · subst b2
            have hobj:=R.obj _ b _ b1 ho
            simp only [RObj] at hobj
            obtain ⟨z0,c2,e2,c3,c4,c5⟩:=hobj
            rw [b4] at c3
            cases c3
            have hget:∀ (k:Nat) (row:List IV) (j:Nat) (y:IV),((all.drop off').take len')[k]?=some row→row[j]?=some y→all[off'+k]?=some row∧off'+k < all.length∧row.length=sz∧j < sz:=fun k row j y hk hj=>by
              have hk':k < len':=by rw [←hlen];exact (List.getElem?_eq_some_iff.1 hk).1
              rw [List.getElem?_take,if_pos hk',List.getElem?_drop] at hk
              have hl:=c4 (off'+k) (row.map AV.imm) (by rw [List.getElem?_map,hk];rfl)
              simp only [List.length_map] at hl
              exact ⟨hk,(List.getElem?_eq_some_iff.1 hk).1,hl,by rw [←hl];exact (List.getElem?_eq_some_iff.1 hj).1⟩
            refine .imm _ _ ?_
            have:=RI.slice (Z:=g'.Z) (w:=w) ((all.drop off').take len') b (off'*sz) cap sz (fun k j=>(c[(off'+k)*sz+j]?).getD default) (by rw [hlen];exact b3)
              (fun k row hk=>by
                have hk':k < len':=by rw [←hlen];exact (List.getElem?_eq_some_iff.1 hk).1
                rw [List.getElem?_take,if_pos hk',List.getElem?_drop] at hk
                have hl:=c4 (off'+k) (row.map AV.imm) (by rw [List.getElem?_map,hk];rfl)
                simpa using hl)
              (fun k row j y hk hj=>by
                obtain ⟨q1,q2,q3,q4⟩:=hget k row j y hk hj
                have e1:off'*sz+k*sz+j=(off'+k)*sz+j:=by rw [Nat.add_mul]
                rw [e1]
                have e2:(off'+k+1)*sz≤all.length*sz:=Nat.mul_le_mul_right _ q2
                rw [Nat.add_mul (off'+k) 1] at e2
                simp only [g',if_pos b1]
                omega)
              (fun k row j y hk hj=>by
                obtain ⟨q1,q2,q3,q4⟩:=hget k row j y hk hj
                obtain ⟨cv,u1,u2,u3⟩:=c5 (off'+k) (row.map AV.imm) j (.imm y) (by rw [List.getElem?_map,q1];rfl) (by rw [List.getElem?_map,hj];rfl)
                have e1:off'*sz+k*sz+j=(off'+k)*sz+j:=by rw [Nat.add_mul]
                rw [e1,qq b4,u1]
                exact ⟨rfl,u2⟩)
              (fun k row j y hk hj=>by
                obtain ⟨q1,q2,q3,q4⟩:=hget k row j y hk hj
                obtain ⟨cv,u1,u2,u3⟩:=c5 (off'+k) (row.map AV.imm) j (.imm y) (by rw [List.getElem?_map,q1];rfl) (by rw [List.getElem?_map,hj];rfl)
                rw [u1]
                cases u3 with
                | imm _ _ hri=>exact hri.mono hz (fun _ _ _=>rfl))
            rw [hlen] at this
            exact this
      · exact hv.mono E
    | _=>exact hv.mono E
  have tr:∀ {x:AV} {v:Value},AllP (YO id off len x)→RV C g (za st.heap) (· < st.next) w x v→RV C g' (za (Qa id rows ks st.heap)) (· < st.next) w (JF id rows x) v:=by
    intro x v hoc hv
    cases x with
    | agg cs=>
      simp only [JF]
      cases hv with
      | agg _ vs hl h1 hr2=>
        refine .agg _ vs (by simpa using hl) h1 fun i y u e1 e2 => ?_
        rw [List.getElem?_map,Option.map_eq_some_iff] at e1
        obtain ⟨z,e1,rfl⟩:=e1
        exact leaf (hoc.sub fun p hp=>List.mem_flatMap.2 ⟨z,List.mem_of_getElem? e1,hp⟩) (hr2 i z u e1 e2)
    | tuple cs=>
      simp only [JF]
      cases hv with
      | tuple _ vs hl hr2=>
        refine .tuple _ vs (by simpa using hl) fun i y u e1 e2 => ?_
        rw [List.getElem?_map,Option.map_eq_some_iff] at e1
        obtain ⟨z,e1,rfl⟩:=e1
        exact leaf (hoc.sub fun p hp=>List.mem_flatMap.2 ⟨z,List.mem_of_getElem? e1,hp⟩) (hr2 i z u e1 e2)
    | Zam i o n=>exact leaf (x:=.Zam i o n) hoc hv
    | _=>exact hv.mono E
  refine ⟨g',⟨⟨RE.size,RE.defers.evo E,fun t x hx => ?_⟩,⟨fun i j b h1 h2=>R.inj i j b (hr i b h1).2 (hr j b h2).2,fun i b h1=>R.lt i b (hr i b h1).2,fun i o h1 => ?_,fun i b o h1 h2 => ?_,fun i s l h1 h2 => ?_,fun b hb => ?_,R.fix.evo E⟩⟩,fun g0 st0 w0 hm E0=>E0.trans E⟩
  · simp only at hx
    rw [Wf,Option.map_eq_some_iff] at hx
    obtain ⟨y,h1,rfl⟩:=hx
    exact tr (hocc.sub fun p hp=>List.mem_append.2 (.inl (KI h1 p hp))) (RE.slot t y h1)
  · rcases hh i o h1 with ⟨h2,_⟩ | ⟨_,o0,h2,_⟩
    · subst h2;exact R.key _ _ ho
    · exact R.key i o0 h2
  · obtain ⟨hne,h1⟩:=hr i b h1
    have hzb:g'.Z b=g.Z b:=hz' b fun e=>hne (R.inj _ _ b h1 e)
    rcases hh i o h2 with ⟨h3,_⟩ | ⟨_,o0,h3,h4 | ⟨hks,h4⟩⟩
    · exact absurd h3 hne
    · subst h4
      have hro:=R.obj i b _ h1 h3
      cases o with
      | rows s r=>
        simp only [RObj] at hro ⊢
        obtain ⟨a1,c,e,a2,a3,a4⟩:=hro
        refine ⟨by rw [hzb];exact a1,c,e,a2,a3,fun k row j x u1 u2 => ?_⟩
        obtain ⟨cv,b1,b2,b3⟩:=a4 k row j x u1 u2
        exact ⟨cv,b1,b2,b3.mono E⟩
      | tip s l=>simp only [RObj] at hro ⊢; rw [hzb];exact hro
      | map es=>
        simp only [RObj] at hro ⊢
        obtain ⟨a1,ces,clock,a2,a3,a4⟩:=hro
        refine ⟨by rw [hzb];exact a1,ces,clock,a2,a3,fun k kk x u1 => ?_⟩
        obtain ⟨e,b1,b2,b3⟩:=a4 k kk x u1
        exact ⟨e,b1,b2,b3.mono E⟩
      | dead=>trivial
      | lp l R s pe=>simp only [RObj] at hro ⊢; rw [hzb];exact hro
    · subst h4
      have hro:=R.obj i b _ h1 h3
      cases o0 with
      | rows s r=>
        simp only [xb,RObj] at hro ⊢
        obtain ⟨a1,c,e,a2,a3,a4⟩:=hro
        refine ⟨by rw [hzb];exact a1,c,e,a2,fun k row u1 => ?_,fun k row j x u1 u2 => ?_⟩
        · rw [List.getElem?_map,Option.map_eq_some_iff] at u1
          obtain ⟨z,u1,rfl⟩:=u1
          simpa using a3 k z u1
        · rw [List.getElem?_map,Option.map_eq_some_iff] at u1
          obtain ⟨z,u1,rfl⟩:=u1
          rw [List.getElem?_map,Option.map_eq_some_iff] at u2
          obtain ⟨y,u2,rfl⟩:=u2
          obtain ⟨cv,b1,b2,b3⟩:=a4 k z j y u1 u2
          exact ⟨cv,b1,b2,tr (hocc.sub fun p hp=>List.mem_append.2 (.inr (KJ hks h3 p (by simp only [KF];exact List.mem_flatMap.2 ⟨z,List.mem_of_getElem? u1,List.mem_flatMap.2 ⟨y,List.mem_of_getElem? u2,hp⟩⟩)))) b3⟩
      | tip s l=>simp only [xb,RObj] at hro ⊢; rw [hzb];exact hro
      | map es=>
        simp only [xb,RObj] at hro ⊢
        obtain ⟨a1,ces,clock,a2,a3,a4⟩:=hro
        refine ⟨by rw [hzb];exact a1,ces,clock,a2,a3,fun k kk x u1 => ?_⟩
        obtain ⟨e,b1,b2,b3⟩:=a4 k kk x u1
        exact ⟨e,b1,b2,b3.mono E⟩
      | dead=>trivial
      | lp l R s pe=>simp only [xb,RObj] at hro ⊢; rw [hzb];exact hro
  · rcases hh i _ h1 with ⟨_,h3⟩ | ⟨hne,o0,h3,h4 | ⟨_,h4⟩⟩
    · cases h3
    · subst h4;exact R.tip0 i s l h3 (by rw [←hr' i hne];exact h2)
    · cases o0<;>simp only [xb] at h4<;>cases h4
      exact R.tip0 i s l h3 (by rw [←hr' i hne];exact h2)
  · simp only [g'] at hb
    split at hb
    · rename_i e;exact (R.lt id b e).1
    · exact R.zlt b hb
theorem zfs {α:Type} (f:α→List IV) (l:List α) (n:Nat):((List.map f l).drop 0).take n=List.map f (List.take n l):=by
  rw [List.drop_zero,List.map_take]
theorem V2 {α:Type} (f:α→List IV) (l:List α):(List.map f l).map (fun r=>r.map AV.imm)=zc f l:=by
  simp only [zc,zm,List.map_map];rfl
inductive AVle:AV→AV→Prop where
  | refl (x:AV):AVle x x
  | nil:AVle .nil (.imm (.slice []))
  | tip (id:Nat) (rows:List (List IV)):AVle (.Zav id rows) (.imm (.slice rows))
inductive RowLe:List AV→List AV→Prop where
  | nil:RowLe [] []
  | cons {x y:AV} {r s:List AV} (h:AVle x y) (t:RowLe r s):RowLe (x::r) (y::s)
theorem RowLe.len {r s:List AV} (h:RowLe r s):r.length=s.length:=by
  induction h with
  | nil=>rfl
  | cons h t ih=>simp [ih]
theorem RowLe.get {r s:List AV} (h:RowLe r s):∀ (j:Nat) (y:AV),s[j]?=some y→∃ x,r[j]?=some x∧AVle x y:=by
  induction h with
  | nil=>intro j y hj;simp at hj
  | cons h t ih=>
    intro j y hj
    cases j with
    | zero=>simp at hj;subst hj;exact ⟨_,by simp,h⟩
    | succ j=>simpa using ih j y (by simpa using hj)
inductive RowsLe:List (List AV)→List (List AV)→Prop where
  | nil:RowsLe [] []
  | cons {r s:List AV} {l m:List (List AV)} (h:RowLe r s) (t:RowsLe l m):RowsLe (r::l) (s::m)
theorem RowsLe.len {l m:List (List AV)} (h:RowsLe l m):l.length=m.length:=by
  induction h with
  | nil=>rfl
  | cons h t ih=>simp [ih]
theorem RowsLe.get {l m:List (List AV)} (h:RowsLe l m):∀ (j:Nat) (s:List AV),m[j]?=some s→∃ r,l[j]?=some r∧RowLe r s:=by
  induction h with
  | nil=>intro j y hj;simp at hj
  | cons h t ih=>
    intro j y hj
    cases j with
    | zero=>simp at hj;subst hj;exact ⟨_,by simp,h⟩
    | succ j=>simpa using ih j y (by simpa using hj)
theorem zft {st:St} (id sz:Nat) (l m:List (List AV)) (ho:za st.heap id=some (.rows sz l)) (hle:RowsLe l m):Weak st ⟨st.env,zo st.heap id (.rows sz m),st.next⟩:=by
  intro C nt g a w R
  obtain ⟨RE,R⟩:=R
  have hh:∀ i o,za (zo st.heap id (.rows sz m)) i=some o→(i=id∧o=.rows sz m)∨(i≠id∧za st.heap i=some o):=fun i o h=>by
    rw [zt] at h
    split at h
    · rename_i e;exact .inl ⟨e.symm,by cases h;rfl⟩
    · rename_i e;exact .inr ⟨fun e2=>e e2.symm,h⟩
  have E:Evo g (za st.heap) (· < st.next) w g (za (zo st.heap id (.rows sz m))) (· < st.next) w:={Evo.refl g (za st.heap) (· < st.next) w with
    rho:=fun i b hb _ _ _ _=>.inl hb
    rho0:=fun i hb _ _ _ _=>.inl hb
    rows:=fun i _ s r h1=>by
      rcases hh i _ h1 with ⟨e1,e2⟩ | ⟨_,e2⟩
      · subst e1;cases e2;exact ⟨_,ho,hle.len⟩
      · exact ⟨r,e2,rfl⟩
    tips:=fun i _ s l h1=>by
      rcases hh i _ h1 with ⟨_,e2⟩ | ⟨_,e2⟩
      · cases e2
      · exact ⟨l,e2,Nat.le_refl _⟩
    maps:=fun i _ es h1=>by
      rcases hh i _ h1 with ⟨_,e2⟩ | ⟨_,e2⟩
      · cases e2
      · exact ⟨es,e2⟩
    lps:=fun i _ ll RR s pe h1=>by
      rcases hh i _ h1 with ⟨_,e2⟩ | ⟨_,e2⟩
      · cases e2
      · exact ⟨s,pe,e2⟩}
  refine ⟨g,⟨⟨RE.size,RE.defers,fun t x hx=>(RE.slot t x hx).mono E⟩,⟨R.inj,R.lt,fun i o h1 => ?_,fun i b o h1 h2 => ?_,fun i s l h1 h2 => ?_,R.zlt,R.fix.evo E⟩⟩,fun g0 st0 w0 hm E0=>E0.trans E⟩
  · rcases hh i o h1 with ⟨e1,_⟩ | ⟨_,e2⟩
    · subst e1;exact R.key _ _ ho
    · exact R.key i o e2
  · rcases hh i o h2 with ⟨e1,e2⟩ | ⟨_,e2⟩
    · subst e1 e2
      have hro:=R.obj _ b _ h1 ho
      simp only [RObj] at hro ⊢
      obtain ⟨a1,c,e,a2,a3,a4⟩:=hro
      refine ⟨a1,c,e,a2,fun i r hi => ?_,fun i r j x hi hj => ?_⟩
      · obtain ⟨q,q1,q2⟩:=hle.get i r hi
        rw [←q2.len];exact a3 i q q1
      · obtain ⟨q,q1,q2⟩:=hle.get i r hi
        obtain ⟨y,q3,q4⟩:=q2.get j x hj
        obtain ⟨cv,b1,b2,b3⟩:=a4 i q j y q1 q3
        refine ⟨cv,b1,b2,?_⟩
        cases q4 with
        | refl=>exact b3.mono E
        | nil=>rw [xa b3];exact .imm _ _ .nil
        | tip=>cases b3 with | Zav _ _ _ hr _ _=>exact .imm _ _ (hr.mono E.zmono E.cell)
    · exact (R.obj i b o h1 e2).keep E rfl rfl
  · rcases hh i _ h1 with ⟨_,e2⟩ | ⟨_,e2⟩
    · cases e2
    · exact R.tip0 i s l e2 h2
open Classical in
noncomputable def lim {α:Type} (f:Nat→Option α):Option α:=if h:∃ r,∃ k,∀ k',k≤k'→f k'=some r then some h.choose else none
section
variable {h:Nat→Option Zah} {d:Nat}
theorem qP:mapO (zC h d) []=some []:=rfl
theorem zs {x:AV} {y:IV} {xs:List AV} {ys:List IV} (h1:zC h d x=some y) (h2:mapO (zC h d) xs=some ys):mapO (zC h d) (x::xs)=some (y::ys):=by
  simp only [mapO];rw [h1];simp only;rw [h2]
theorem zQ (y:IV):zC h (d+1) (.imm y)=some y:=rfl
theorem wE {cs:List AV} {ys:List IV} (h1:mapO (zC h d) cs=some ys):zC h (d+1) (.agg cs)=some (.agg ys):=by
  simp only [zC];rw [h1];rfl
theorem zgR {cs:List AV} {ys:List IV} (h1:mapO (zC h d) cs=some ys):zC h (d+1) (.tuple cs)=some (.tuple ys):=by
  simp only [zC];rw [h1];rfl
theorem YP {α:Type} (f:α→List IV) (id sz:Nat) (l:List α) (ho:h id=some (.rows sz (zc f l))):zC h (d+2) (.Zam id 0 l.length)=some (.slice (List.map f l)):=KB f h d id sz l ho
end
inductive LeV:AV→AV→Prop where
  | refl (x:AV):LeV x x
  | nil:LeV .nil (.imm (.slice []))
  | tip (id:Nat) (rows:List (List IV)):LeV (.Zav id rows) (.imm (.slice rows))
  | agg {r s:List AV} (h:RowLe r s):LeV (.agg r) (.agg s)
  | tuple {r s:List AV} (h:RowLe r s):LeV (.tuple r) (.tuple s)
theorem AVle.rv {C:Ctx} {g:Gh} {h:Nat→Option Zah} {N:Nat→Prop} {w:World} {x y:AV} {v:Value} (hl:AVle x y) (hv:RV C g h N w x v):RV C g h N w y v:=by
  cases hl with
  | refl=>exact hv
  | nil=>rw [xa hv];exact .imm _ _ .nil
  | tip=>cases hv with | Zav _ _ _ hr _ _=>exact .imm _ _ hr
theorem LeV.rv {C:Ctx} {g:Gh} {h:Nat→Option Zah} {N:Nat→Prop} {w:World} {x y:AV} {v:Value} (hl:LeV x y) (hv:RV C g h N w x v):RV C g h N w y v:=by
  cases hl with
  | refl=>exact hv
  | nil=>rw [xa hv];exact .imm _ _ .nil
  | tip=>cases hv with | Zav _ _ _ hr _ _=>exact .imm _ _ hr
  | agg hr=>
    cases hv with
    | agg _ vs h1 h2 h3=>
      refine .agg _ vs (by rw [←hr.len];exact h1) h2 fun i c u e1 e2 => ?_
      obtain ⟨q,q1,q2⟩:=hr.get i c e1
      exact q2.rv (h3 i q u q1 e2)
  | tuple hr=>
    cases hv with
    | tuple _ vs h1 h3=>
      refine .tuple _ vs (by rw [←hr.len];exact h1) fun i c u e1 e2 => ?_
      obtain ⟨q,q1,q2⟩:=hr.get i c e1
      exact q2.rv (h3 i q u q1 e2)
inductive LeVs:List AV→List AV→Prop where
  | nil:LeVs [] []
  | cons {x y:AV} {r s:List AV} (h:LeV x y) (t:LeVs r s):LeVs (x::r) (y::s)
theorem LeVs.len {l m:List AV} (h:LeVs l m):l.length=m.length:=by
  induction h with
  | nil=>rfl
  | cons h t ih=>simp [ih]
theorem LeVs.get {l m:List AV} (h:LeVs l m):∀ (j:Nat) (s:AV),m[j]?=some s→∃ r,l[j]?=some r∧LeV r s:=by
  induction h with
  | nil=>intro j y hj;simp at hj
  | cons h t ih=>
    intro j y hj
    cases j with
    | zero=>simp at hj;subst hj;exact ⟨_,by simp,h⟩
    | succ j=>simpa using ih j y (by simpa using hj)
inductive LeV2:AV→AV→Prop where
  | one {x y:AV} (h:LeV x y):LeV2 x y
  | tup {r s:List AV} (h:LeVs r s):LeV2 (.tuple r) (.tuple s)
theorem LeV2.rv {C:Ctx} {g:Gh} {h:Nat→Option Zah} {N:Nat→Prop} {w:World} {x y:AV} {v:Value} (hl:LeV2 x y) (hv:RV C g h N w x v):RV C g h N w y v:=by
  cases hl with
  | one h=>exact h.rv hv
  | tup hr=>
    cases hv with
    | tuple _ vs h1 h3=>
      refine .tuple _ vs (by rw [←hr.len];exact h1) fun i c u e1 e2 => ?_
      obtain ⟨q,q1,q2⟩:=hr.get i c e1
      exact q2.rv (h3 i q u q1 e2)
theorem zhe {x y:AV} {heap:List (Nat×Zah)} {n:Nat} (hl:LeV2 x y):Weak ⟨[(0,x)],heap,n⟩ ⟨[(0,y)],heap,n⟩:=by
  intro C nt g a w R
  refine ⟨g,⟨⟨R.env.size,R.env.defers,fun t z hz => ?_⟩,R.heap⟩,fun _ _ _ _ E=>E⟩
  simp only [za] at hz
  split at hz
  · rename_i e;subst e;cases hz;exact hl.rv (R.env.slot 0 x rfl)
  · cases hz
theorem Weak.andThen {s1 s2 s3:St} (h1:Weak s1 s2) (h2:Weak s2 s3) (hn:s3.next≤s2.next):Weak s1 s3:=by
  intro C nt g a w R
  obtain ⟨g1,R1,e1⟩:=h1 C nt g a w R
  obtain ⟨g2,R2,e2⟩:=h2 C nt g1 a w R1
  exact ⟨g2,R2,fun g0 st0 w0 a1 E=>e2 g0 st0 w0 a1 (e1 g0 st0 w0 (Nat.le_trans a1 hn) E)⟩
theorem jM {h:Nat→Option Zah} {d:Nat} {α:Type} (f:α→List IV) (id sz n:Nat) (l:List α) (hn:n=l.length) (ho:h id=some (.rows sz (zc f l))):zC h (d+2) (.Zam id 0 n)=some (.slice (List.map f l)):=by
  subst hn;exact KB f h d id sz l ho
theorem zdX {st:St} (id sz sz':Nat) (rows:List (List AV)) (r j:Nat) (row:List AV) (ho:za st.heap id=some (.rows sz rows)) (hr:rows[r]?=some row) (hj:row[j]?=some .nil) :
    Weak st ⟨st.env,zo (qn st.heap st.next (.tip sz' 0)) id (.rows sz (rows.set r (row.set j (.Zav st.next [])))),st.next+1⟩:=by
  intro C nt g a w R
  have hidn:id < st.next:=R.heap.key _ _ ho
  obtain ⟨g',E,H,hv⟩:=QQ (id:=st.next) R.heap (Nat.lt_irrefl _) sz'
  rw [jR] at E H hv
  have e1:hup [(st.next,Zah.tip sz' 0)] (za st.heap)=za (qn st.heap st.next (.tip sz' 0)):=by
    funext i;simp only [hup,qL]
  rw [e1] at E H hv
  have ho':za (qn st.heap st.next (.tip sz' 0)) id=some (.rows sz rows):=by rw [qL,if_neg (by omega)];exact ho
  have hh:∀ i o,za (zo (qn st.heap st.next (.tip sz' 0)) id (.rows sz (rows.set r (row.set j (.Zav st.next []))))) i=some o→(i=id∧o=.rows sz (rows.set r (row.set j (.Zav st.next []))))∨(i≠id∧za (qn st.heap st.next (.tip sz' 0)) i=some o):=fun i o h=>by
    rw [zt] at h
    split at h
    · rename_i e;exact .inl ⟨e.symm,by cases h;rfl⟩
    · rename_i e;exact .inr ⟨fun e2=>e e2.symm,h⟩
  have E2:Evo g' (za (qn st.heap st.next (.tip sz' 0))) (· < st.next+1) w g' (za (zo (qn st.heap st.next (.tip sz' 0)) id (.rows sz (rows.set r (row.set j (.Zav st.next [])))))) (· < st.next+1) w:={Evo.refl g' (za (qn st.heap st.next (.tip sz' 0))) (· < st.next+1) w with
    rho:=fun i b hb _ _ _ _=>.inl hb
    rho0:=fun i hb _ _ _ _=>.inl hb
    rows:=fun i _ s q h1=>by
      rcases hh i _ h1 with ⟨e1,e2⟩ | ⟨_,e2⟩
      · subst e1;cases e2;exact ⟨_,ho',by simp⟩
      · exact ⟨q,e2,rfl⟩
    tips:=fun i _ s l h1=>by
      rcases hh i _ h1 with ⟨_,e2⟩ | ⟨_,e2⟩
      · cases e2
      · exact ⟨l,e2,Nat.le_refl _⟩
    maps:=fun i _ es h1=>by
      rcases hh i _ h1 with ⟨_,e2⟩ | ⟨_,e2⟩
      · cases e2
      · exact ⟨es,e2⟩
    lps:=fun i _ ll RR s pe h1=>by
      rcases hh i _ h1 with ⟨_,e2⟩ | ⟨_,e2⟩
      · cases e2
      · exact ⟨s,pe,e2⟩}
  refine ⟨g',⟨⟨R.env.size,(R.env.defers.evo E).evo E2,fun t x hx=>((R.env.slot t x hx).mono E).mono E2⟩,⟨H.inj,H.lt,fun i o h1 => ?_,fun i b o h1 h2 => ?_,fun i s l h1 h2 => ?_,H.zlt,H.fix.evo E2⟩⟩,fun g0 st0 w0 hm E0=>Evo.trans (Evo.trans E0 E) E2⟩
  · rcases hh i o h1 with ⟨e1,_⟩ | ⟨_,e2⟩
    · subst e1;exact H.key _ _ ho'
    · exact H.key i o e2
  · rcases hh i o h2 with ⟨e1,e2⟩ | ⟨_,e2⟩
    · subst e1 e2
      have hro:=H.obj _ b _ h1 ho'
      simp only [RObj] at hro ⊢
      obtain ⟨a1,c,e,a2,a3,a4⟩:=hro
      have hrl:r < rows.length:=(List.getElem?_eq_some_iff.1 hr).1
      have hjl:j < row.length:=(List.getElem?_eq_some_iff.1 hj).1
      refine ⟨a1,c,e,a2,fun i q hi => ?_,fun i q k x hi hk => ?_⟩
      · rw [List.getElem?_set] at hi
        split at hi
        · rename_i e3;subst e3;cases hi;simpa using a3 _ row hr
        · exact a3 i q hi
      · rw [List.getElem?_set] at hi
        split at hi
        · rename_i e3
          subst e3
          cases hi
          rw [List.getElem?_set] at hk
          split at hk
          · rename_i e4
            subst e4
            cases hk
            obtain ⟨cv,b1,b2,b3⟩:=a4 _ row _ .nil hr hj
            refine ⟨cv,b1,b2,?_⟩
            rw [xa b3]
            exact hv.mono E2
          · obtain ⟨cv,b1,b2,b3⟩:=a4 _ row k x hr hk
            exact ⟨cv,b1,b2,b3.mono E2⟩
        · obtain ⟨cv,b1,b2,b3⟩:=a4 i q k x hi hk
          exact ⟨cv,b1,b2,b3.mono E2⟩
    · exact (H.obj i b o h1 e2).keep E2 rfl rfl
  · rcases hh i _ h1 with ⟨_,e2⟩ | ⟨_,e2⟩
    · cases e2
    · exact H.tip0 i s l e2 h2
end
def zbp (qs:List Nat) (Ls:List (List Int)):List (List AV):=List.zipWith (fun q L=>[AV.Zav q (L.map zb)]) qs Ls
structure NestOk (heap:List (Nat×Zah)) (N P:Nat) (qs:List Nat) (Ls:List (List Int)):Prop where
  obj:za heap P=some (.rows 1 (zbp qs Ls))
  tip:∀ (k q:Nat) (L:List Int),qs[k]?=some q→Ls[k]?=some L→za heap q=some (.tip 1 L.length)
  len:qs.length=Ls.length
  nd:∀ (i j q:Nat),qs[i]?=some q→qs[j]?=some q→i=j
theorem NestOk.grow {heap heap':List (Nat×Zah)} {N N' P:Nat} {qs:List Nat} {Ls:List (List Int)} (h:NestOk heap N P qs Ls) {k q:Nat} {L:List Int} (hq:qs[k]?=some q) (hP:za heap' P=some (.rows 1 (zbp qs (Ls.set k L)))) (hT:za heap' q=some (.tip 1 L.length))
    (hE:∀ j,j≠P→j≠q→(za heap j).isSome=true→za heap' j=za heap j):NestOk heap' N' P qs (Ls.set k L) where
  obj:=hP
  len:=by simp [h.len]
  nd:=h.nd
  tip:=fun k' q' L' h1 h2=>by
    by_cases e:k'=k
    · subst e
      have hlt:k' < Ls.length:=by
        have:=(List.getElem?_eq_some_iff.1 h1).1;rw [h.len] at this;exact this
      rw [List.getElem?_set_self hlt] at h2
      cases h2
      rw [hq] at h1;cases h1
      exact hT
    · rw [List.getElem?_set_ne (Ne.symm e)] at h2
      have h3:=h.tip k' q' L' h1 h2
      rw [hE q' (fun e2=>by rw [e2,h.obj] at h3;cases h3) (fun e2=>e (h.nd k' k q (by rw [←e2];exact h1) hq)) (by rw [h3];rfl)]
      exact h3
section
section
variable {C:Ctx} {g g':Gh} {h h':Nat→Option Zah} {N N':Nat→Prop} {w w':World} {id:Nat}
theorem zcv (R:RH C g h N w) (hid:¬ N id) {i sz:Nat} {all:List (List IV)} (hi:h i=some (.rows sz (all.map fun r=>r.map AV.imm))) {v0:Value} (hv0:RV C g h N w (.Zam i 0 all.length) v0) :
    ∃ g',(∀ k,k≠id→k≠i→g'.ρ k=g.ρ k)∧(∀ b,g.Z b=0→g.ρ i≠some b→g'.Z b=0)∧Evo g h N w g' (hup [(i,.dead),(id,.tip sz all.length)] h) (zY N id) w∧RH C g' (hup [(i,.dead),(id,.tip sz all.length)] h) (zY N id) w∧RV C g' (hup [(i,.dead),(id,.tip sz all.length)] h) (zY N id) w (.Zav id all) v0:=by
  have hN:=R.key i _ hi
  have hne:i≠id:=fun e=>hid (e ▸ hN)
  have hidN:∀ k,N k→k≠id:=fun k hk e=>hid (e ▸ hk)
  let g':Gh:=⟨fun k=>if k=id then g.ρ i else if k=i then none else g.ρ k,fun b=>if g.ρ i=some b then all.length*sz else g.Z b⟩
  have hz0:∀ b,g.ρ i=some b→g.Z b=0:=fun b hb=>(R.obj i b _ hb hi).1
  have hzm:∀ b,g.Z b≤g'.Z b:=fun b=>by
    simp only [g'];split
    · rename_i e;rw [hz0 b e];exact Nat.zero_le _
    · exact Nat.le_refl _
  have hz':∀ b,g.ρ i≠some b→g'.Z b=g.Z b:=fun b hb=>by simp only [g',if_neg hb]
  have hup':∀ k o,hup [(i,Zah.dead),(id,Zah.tip sz all.length)] h k=some o→(k=i∧o=.dead)∨(k=id∧o=.tip sz all.length)∨(k≠i∧k≠id∧h k=some o):=fun k o ho=>by
    simp only [hup] at ho
    split at ho
    · rename_i e;cases ho;exact .inl ⟨e.symm,rfl⟩
    · rename_i e
      split at ho
      · rename_i e2;cases ho;exact .inr (.inl ⟨e2.symm,rfl⟩)
      · rename_i e2;exact .inr (.inr ⟨fun e3=>e e3.symm,fun e3=>e2 e3.symm,ho⟩)
  have hrho:∀ k,k≠id→k≠i→g'.ρ k=g.ρ k:=fun k h1 h2=>by simp only [g',if_neg h1,if_neg h2]
  have hrid:g'.ρ id=g.ρ i:=by simp only [g',if_pos]
  have hri:g'.ρ i=none:=by simp only [g',if_neg hne,if_pos]
  have hback:∀ k b,g'.ρ k=some b→(k=id∧g.ρ i=some b)∨(k≠id∧k≠i∧g.ρ k=some b):=fun k b hk=>by
    by_cases h1:k=id
    · subst h1;rw [hrid] at hk;exact .inl ⟨rfl,hk⟩
    · by_cases h2:k=i
      · subst h2;rw [hri] at hk;cases hk
      · rw [hrho k h1 h2] at hk;exact .inr ⟨h1,h2,hk⟩
  have E:Evo g h N w g' (hup [(i,.dead),(id,.tip sz all.length)] h) (zY N id) w:={
    os:=rfl
    tape:=rfl
    output:=rfl
    size:=Nat.le_refl _
    old:=fun b _ hno=>⟨rfl,hz' b fun e=>hno ⟨i,e⟩⟩
    own:=fun b ⟨k,hk⟩=>by
      rcases hback k b hk with ⟨_,h1⟩ | ⟨_,_,h1⟩
      · exact .inl ⟨i,h1⟩
      · exact .inl ⟨k,h1⟩
    zmono:=hzm
    cell:=fun _ _ _=>rfl
    shape:=fun b c e hb=>⟨c,hb,rfl⟩
    next:=fun _ hk=>.inl hk
    rho:=fun k b hb o ho hnd hk=>by
      rcases hup' k o ho with ⟨_,h2⟩ | ⟨h2,_⟩ | ⟨h1,h2,_⟩
      · exact absurd h2 hnd
      · exact absurd h2 (hidN k hk)
      · exact .inl (by rw [hrho k h2 h1];exact hb)
    rho0:=fun k hb hk o ho hnd=>by
      rcases hup' k o ho with ⟨_,h2⟩ | ⟨h2,_⟩ | ⟨h1,h2,_⟩
      · exact absurd h2 hnd
      · exact absurd h2 (hidN k hk)
      · exact .inl (by rw [hrho k h2 h1];exact hb)
    rows:=fun k hk s r ho=>by
      rcases hup' k _ ho with ⟨_,h2⟩ | ⟨_,h2⟩ | ⟨_,_,h2⟩
      · cases h2
      · cases h2
      · exact ⟨r,h2,rfl⟩
    tips:=fun k hk s l ho=>by
      rcases hup' k _ ho with ⟨_,h2⟩ | ⟨h2,_⟩ | ⟨_,_,h2⟩
      · cases h2
      · exact absurd h2 (hidN k hk)
      · exact ⟨l,h2,Nat.le_refl _⟩
    maps:=fun k hk es ho=>by
      rcases hup' k _ ho with ⟨_,h2⟩ | ⟨_,h2⟩ | ⟨_,_,h2⟩
      · cases h2
      · cases h2
      · exact ⟨es,h2⟩
    lps:=fun k hk ll RR s pe ho=>by
      rcases hup' k _ ho with ⟨_,h2⟩ | ⟨_,h2⟩ | ⟨_,_,h2⟩
      · cases h2
      · cases h2
      · exact ⟨s,pe,h2⟩}
  have hval:(g.ρ i=none∧all=[]∧v0=.slice none 0 0)∨∃ b cap c e,g.ρ i=some b∧v0=.slice (some ⟨b,0,none⟩) all.length cap∧all.length≤cap∧w.heap[b]?=some (.cells c e (0,0))∧cap*sz≤c.size ∧
      (∀ row∈all,row.length=sz)∧∀ (k:Nat) (row:List IV) (j:Nat) (y:IV),all[k]?=some row→row[j]?=some y→∃ cv,c[k*sz+j]?=some cv∧cv.oneCell'=true∧RI g.Z w y cv:=by
    cases hv0 with
    | Zam _ _ _ _ _ _ hp=>
      obtain ⟨_,h2⟩:=hp sz _ hi
      rcases h2 with ⟨a1,a2,a3⟩ | ⟨b,cap,c,e,b1,b2,b3,b4,b5⟩
      · exact .inl ⟨a1,by simpa using a2,a3⟩
      · have hobj:=R.obj i b _ b1 hi
        obtain ⟨z0,c2,e2,c3,c4,c5⟩:=hobj
        rw [b4] at c3
        cases c3
        refine .inr ⟨b,cap,c,e,b1,by simpa using b2,b3,b4,by simpa using b5,fun row hr => ?_,fun k row j y hk hj => ?_⟩
        · obtain ⟨k,hk⟩:=List.getElem?_of_mem hr
          have:=c4 k (row.map AV.imm) (by rw [List.getElem?_map,hk];rfl)
          simpa using this
        · obtain ⟨cv,u1,u2,u3⟩:=c5 k (row.map AV.imm) j (.imm y) (by rw [List.getElem?_map,hk];rfl) (by rw [List.getElem?_map,hj];rfl)
          cases u3 with
          | imm _ _ hri=>exact ⟨cv,u1,u2,hri⟩
  refine ⟨g',hrho,fun b h1 h2=>by rw [hz' b h2];exact h1,E,⟨fun k l b hk hl => ?_,fun k b hk => ?_,fun k o ho => ?_,fun k b o hk ho => ?_,fun k s l ho hn => ?_,fun b hb => ?_,R.fix.evo E⟩,?_⟩
  · rcases hback k b hk with ⟨h1,h2⟩ | ⟨h1,h2,h3⟩<;>rcases hback l b hl with ⟨h4,h5⟩ | ⟨h4,h5,h6⟩
    · rw [h1,h4]
    · exact absurd (R.inj _ _ b h6 h2) h5
    · exact absurd (R.inj _ _ b h3 h5) h2
    · exact R.inj _ _ b h3 h6
  · rcases hback k b hk with ⟨h1,h2⟩ | ⟨h1,h2,h3⟩
    · exact ⟨(R.lt i b h2).1,.inr h1⟩
    · exact ⟨(R.lt k b h3).1,.inl (R.lt k b h3).2⟩
  · rcases hup' k o ho with ⟨h1,_⟩ | ⟨h1,_⟩ | ⟨_,_,h1⟩
    · exact .inl (h1 ▸ hN)
    · exact .inr h1
    · exact .inl (R.key k o h1)
  · rcases hback k b hk with ⟨h1,h2⟩ | ⟨h1,h2,h3⟩
    · rcases hup' k o ho with ⟨h4,_⟩ | ⟨_,h4⟩ | ⟨_,h4,_⟩
      · exact absurd (h4.symm.trans h1) hne
      · subst h4
        rcases hval with ⟨a1,_⟩ | ⟨b',cap,c,e,b1,b2,b3,b4,b5,b6,_⟩
        · rw [a1] at h2;cases h2
        · rw [b1] at h2;cases h2
          refine ⟨c,e,b4,by simp only [g',if_pos b1],Nat.le_trans (Nat.mul_le_mul_right _ b3) b5⟩
      · exact absurd h1 h4
    · rcases hup' k o ho with ⟨h4,_⟩ | ⟨h4,_⟩ | ⟨_,_,h4⟩
      · exact absurd h4 h2
      · exact absurd h4 h1
      · exact (R.obj k b o h3 h4).keep E rfl (hz' b fun e=>h2 (R.inj _ _ b h3 e))
  · rcases hup' k _ ho with ⟨_,h1⟩ | ⟨h1,h2⟩ | ⟨h1,h2,h3⟩
    · cases h1
    · cases h2
      rw [h1,hrid] at hn
      rcases hval with ⟨_,a2,_⟩ | ⟨b,_,_,_,b1,_⟩
      · rw [a2];rfl
      · rw [b1] at hn;cases hn
    · exact R.tip0 k s l h3 (by rw [←hrho k h2 h1];exact hn)
  · by_cases e:g.ρ i=some b
    · exact (R.lt i b e).1
    · rw [hz' b e] at hb;exact R.zlt b hb
  · rcases hval with ⟨a1,a2,a3⟩ | ⟨b,cap,c,e,b1,b2,b3,b4,b5,b6,b7⟩
    · subst a2 a3
      refine .Zav id [] _ .nil (.inr rfl) fun s l hs => ?_
      rcases hup' id _ hs with ⟨_,h1⟩ | ⟨_,h1⟩ | ⟨_,h1,_⟩
      · cases h1
      · cases h1
        exact ⟨Nat.le_refl _,fun k row hk=>by simp at hk,fun _=>.inl ⟨by rw [hrid];exact a1,rfl⟩⟩
      · exact absurd rfl h1
    · subst b2
      have hzb:g'.Z b=all.length*sz:=by simp only [g',if_pos b1]
      have hsl:∀ (k:Nat) (row:List IV),all[k]?=some row→row.length=sz:=fun k row hk=>b6 row (List.mem_of_getElem? hk)
      refine .Zav id all _ ?_ (.inr rfl) fun s l hs => ?_
      · refine .slice all b 0 cap sz (fun k j=>(c[k*sz+j]?).getD default) b3 hsl (fun k row j y hk hj => ?_) (fun k row j y hk hj => ?_) (fun k row j y hk hj => ?_)
        · have h1:=hsl k row hk
          have h2:j < row.length:=(List.getElem?_eq_some_iff.1 hj).1
          have h3:k < all.length:=(List.getElem?_eq_some_iff.1 hk).1
          have h4:(k+1)*sz≤all.length*sz:=Nat.mul_le_mul_right _ h3
          rw [Nat.add_mul] at h4
          rw [hzb];omega
        · obtain ⟨cv,u1,u2,u3⟩:=b7 k row j y hk hj
          rw [Nat.zero_add,qq b4,u1]
          exact ⟨rfl,u2⟩
        · obtain ⟨cv,u1,u2,u3⟩:=b7 k row j y hk hj
          rw [u1]
          exact u3.mono hzm (fun _ _ _=>rfl)
      · rcases hup' id _ hs with ⟨_,h1⟩ | ⟨_,h1⟩ | ⟨_,h1,_⟩
        · cases h1
        · cases h1
          exact ⟨Nat.le_refl _,hsl,fun _=>.inr ⟨b,cap,c,e,by rw [hrid];exact b1,rfl,b4,b5⟩⟩
        · exact absurd rfl h1
end
theorem zdY {st:St} (t a0 b0 id sz i sz':Nat) (rows:List (List AV)) (r j:Nat) (row:List AV) (all:List (List IV)) (ht:za st.env t=some (.ptr id a0 b0)) (ho:za st.heap id=some (.rows sz rows)) (hr:rows[r]?=some row) (hj:row[j]?=some (.Zam i 0 all.length))
    (hi:za st.heap i=some (.rows sz' (all.map fun r=>r.map AV.imm))) (hne:i≠id) :
    Weak st ⟨st.env,zo (zo (qn st.heap st.next (.tip sz' all.length)) i .dead) id (.rows sz (rows.set r (row.set j (.Zav st.next all)))),st.next+1⟩:=by
  intro C nt g a w R
  have hidn:id < st.next:=R.heap.key _ _ ho
  have hin:i < st.next:=R.heap.key _ _ hi
  obtain ⟨bo,hbo,_⟩:∃ b,g.ρ id=some b∧True:=by
    have:=R.env.slot t _ ht
    cases this with
    | ptr _ _ _ _ _ _ hp=>obtain ⟨b,hb,_⟩:=hp _ _ ho;exact ⟨b,hb,trivial⟩
  obtain ⟨z0,c0,e0,k1,k2,k3⟩:=R.heap.obj id bo _ hbo ho
  obtain ⟨cv0,q1,q2,q3⟩:=k3 r row j _ hr hj
  obtain ⟨g',hrho,hzz,E,H,hv⟩:=zcv (id:=st.next) R.heap (Nat.lt_irrefl _) hi q3
  rw [jR] at E H hv
  have e1:hup [(i,Zah.dead),(st.next,Zah.tip sz' all.length)] (za st.heap)=za (zo (qn st.heap st.next (.tip sz' all.length)) i .dead):=by
    funext k;simp only [hup,zt,qL]
  rw [e1] at E H hv
  obtain ⟨hp1,hhp1⟩:∃ hp,hp=zo (qn st.heap st.next (.tip sz' all.length)) i .dead:=⟨_,rfl⟩
  rw [←hhp1] at E H hv ⊢
  have hgid:g'.ρ id=g.ρ id:=hrho id (by omega) (fun e=>hne e.symm)
  have ho':za hp1 id=some (.rows sz rows):=by rw [hhp1,zt,if_neg hne,qL,if_neg (by omega)];exact ho
  have hh:∀ k o,za (zo hp1 id (.rows sz (rows.set r (row.set j (.Zav st.next all))))) k=some o→(k=id∧o=.rows sz (rows.set r (row.set j (.Zav st.next all))))∨(k≠id∧za hp1 k=some o):=fun k o h=>by
    rw [zt] at h
    split at h
    · rename_i e;exact .inl ⟨e.symm,by cases h;rfl⟩
    · rename_i e;exact .inr ⟨fun e2=>e e2.symm,h⟩
  have E2:Evo g' (za hp1) (· < st.next+1) w g' (za (zo hp1 id (.rows sz (rows.set r (row.set j (.Zav st.next all)))))) (· < st.next+1) w:={Evo.refl g' (za hp1) (· < st.next+1) w with
    rho:=fun i b hb _ _ _ _=>.inl hb
    rho0:=fun i hb _ _ _ _=>.inl hb
    rows:=fun i _ s q h1=>by
      rcases hh i _ h1 with ⟨e1,e2⟩ | ⟨_,e2⟩
      · subst e1;cases e2;exact ⟨_,ho',by simp⟩
      · exact ⟨q,e2,rfl⟩
    tips:=fun i _ s l h1=>by
      rcases hh i _ h1 with ⟨_,e2⟩ | ⟨_,e2⟩
      · cases e2
      · exact ⟨l,e2,Nat.le_refl _⟩
    maps:=fun i _ es h1=>by
      rcases hh i _ h1 with ⟨_,e2⟩ | ⟨_,e2⟩
      · cases e2
      · exact ⟨es,e2⟩
    lps:=fun i _ ll RR s pe h1=>by
      rcases hh i _ h1 with ⟨_,e2⟩ | ⟨_,e2⟩
      · cases e2
      · exact ⟨s,pe,e2⟩}
  refine ⟨g',⟨⟨R.env.size,(R.env.defers.evo E).evo E2,fun t x hx=>((R.env.slot t x hx).mono E).mono E2⟩,⟨H.inj,H.lt,fun i o h1 => ?_,fun i b o h1 h2 => ?_,fun i s l h1 h2 => ?_,H.zlt,H.fix.evo E2⟩⟩,fun g0 st0 w0 hm E0=>Evo.trans (Evo.trans E0 E) E2⟩
  · rcases hh i o h1 with ⟨e1,_⟩ | ⟨_,e2⟩
    · subst e1;exact H.key _ _ ho'
    · exact H.key i o e2
  · rcases hh i o h2 with ⟨e1,e2⟩ | ⟨_,e2⟩
    · rw [e1,hgid,hbo] at h1
      have hro:=H.obj _ b _ (by rw [hgid,hbo];exact h1) ho'
      cases h1
      subst e2
      simp only [RObj] at hro ⊢
      obtain ⟨a1,c,e,a2,a3,a4⟩:=hro
      rw [k1] at a2
      cases a2
      have hrl:r < rows.length:=(List.getElem?_eq_some_iff.1 hr).1
      have hjl:j < row.length:=(List.getElem?_eq_some_iff.1 hj).1
      refine ⟨a1,c0,e0,k1,fun i q hi => ?_,fun i q k x hi hk => ?_⟩
      · rw [List.getElem?_set] at hi
        split at hi
        · rename_i e3;subst e3;cases hi;simpa using a3 _ row hr
        · exact a3 i q hi
      · rw [List.getElem?_set] at hi
        split at hi
        · rename_i e3
          subst e3
          cases hi
          rw [List.getElem?_set] at hk
          split at hk
          · rename_i e4
            subst e4
            cases hk
            exact ⟨cv0,q1,q2,hv.mono E2⟩
          · obtain ⟨cv,b1,b2,b3⟩:=a4 _ row k x hr hk
            exact ⟨cv,b1,b2,b3.mono E2⟩
        · obtain ⟨cv,b1,b2,b3⟩:=a4 i q k x hi hk
          exact ⟨cv,b1,b2,b3.mono E2⟩
    · exact (H.obj i b o h1 e2).keep E2 rfl rfl
  · rcases hh i _ h1 with ⟨_,e2⟩ | ⟨_,e2⟩
    · cases e2
    · exact H.tip0 i s l e2 h2
end
section
def YQ:List Nat→List AV→List (Nat×AV)→List (Nat×AV)
  | p::ps,x::xs,env=>YQ ps xs (zo env p x)
  | _,_,env=>env
def CtxY.round (C:CtxY) (l:Nat):CtxY:={C.toCtx with ro:=some l,at0:=none,Y:=noY,ymono:=fun _ _ _ _ _ _ _ _ h=>h,yok:=fun _ _ _ _ _ _ h=>h.elim}
def zfu (idl L:Nat) (R:LoopState→Option Code→Loop) (KK:AV→List (Nat×Zah)→Nat→Prop):Exit→St→Prop
  | .normal,s=>za s.heap idl=some (.lp L R .busy none)∧KK (.imm (.bool true)) (zo s.heap idl (.lp L R .ready none)) (s.next+1)
  | .ret,s=>za s.heap idl=some (.lp L R .busy none)∧KK (.imm (.bool false)) (zo s.heap idl (.lp L R .done (some .ret))) (s.next+1)
  | .exit id,s=>za s.heap idl=some (.lp L R .busy none)∧KK (.imm (.bool false)) (zo s.heap idl (.lp L R .done (some (.exit id)))) (s.next+1)
  | _,_=>False
def zfv (C:CtxY) (nt:Fr) (idl L:Nat) (R:LoopState→Option Code→Loop) (y:ZaC) (KK:AV→List (Nat×Zah)→Nat→Prop) (s:St):Prop:=
  za s.heap idl=some (.lp L R .ready none)∧awp (C.round L) nt y (zfu idl L R KK) ⟨s.env,zo s.heap idl (.lp L R .busy none),s.next+1⟩
def Zx (C:CtxY) (nt:Fr) (env:List (Nat×AV)) (idl L:Nat) (R:LoopState→Option Code→Loop) (ps:List Nat) (x y:ZaC):Nat→Nat→List AV→List (Nat×Zah)→Nat→(AV→List (Nat×Zah)→Nat→Prop)→Prop:=
  fun l id args heap next KK=>l=L∧id=idl∧args.length=ps.length∧za heap idl=some (.lp L R .ready none) ∧
    awp (C.round L) nt x (yX (zfv C nt idl L R y KK) (fun _ _=>False)) ⟨YQ ps args env,heap,next⟩
def zgS (env:List (Nat×AV)) (idl L:Nat) (R:LoopState→Option Code→Loop) (K:Exit→St→Prop) (heap:List (Nat×Zah)) (next:Nat):Prop:=
  (za heap idl=some (.lp L R .ready none)∧K .normal ⟨env,zo heap idl (.lp L R .exhausted none),next+1⟩) ∨
  (za heap idl=some (.lp L R .done (some .ret))∧K .ret ⟨env,zo heap idl (.lp L R .exhausted (some .ret)),next+1⟩) ∨
  (∃ id,za heap idl=some (.lp L R .done (some (.exit id)))∧K (.exit id) ⟨env,zo heap idl (.lp L R .exhausted (some (.exit id))),next+1⟩)
section
variable {C:CtxY} {nt:Fr} {g g':Gh} {st:St} {a:Act} {w:World}
theorem zcw {code:Code} {f:Opd} {ps:List Nat} {x y:ZaC} (hc:comp C nt.n code=some (.range f ps x y)):∃ fo psA p q,code=.rangeFunc fo psA p q∧f=C.opd fo∧ps=psA.toList∧(∀ t∈ps,t < nt.n)∧comp C nt.n p=some x∧comp C nt.n q=some y:=by
  cases code<;>simp only [comp] at hc<;>(repeat' split at hc)<;>cases hc
  rename_i hall _ _ h1 h2
  exact ⟨_,_,_,_,rfl,rfl,rfl,fun t ht=>by have:=List.all_eq_true.1 hall t ht;simpa using this,h1,h2⟩
theorem Wh {env:List (Nat×AV)} {idl L:Nat} {R:LoopState→Option Code→Loop} {ps:List Nat} {x y:ZaC}:∀ l id args heap next (K K':AV→List (Nat×Zah)→Nat→Prop),(∀ r h n,K r h n→K' r h n)→Zx C nt env idl L R ps x y l id args heap next K→Zx C nt env idl L R ps x y l id args heap next K':=by
  rintro l id args heap next K K' hk ⟨h1,h2,h3,h4,h5⟩
  refine ⟨h1,h2,h3,h4,jw (fun e s hs => ?_) h5⟩
  cases e with
  | normal=>
    refine ⟨hs.1,jw (fun e s hs => ?_) hs.2⟩
    cases e with
    | normal=>exact ⟨hs.1,hk _ _ _ hs.2⟩
    | ret=>exact ⟨hs.1,hk _ _ _ hs.2⟩
    | exit id=>exact ⟨hs.1,hk _ _ _ hs.2⟩
    | _=>exact hs
  | _=>exact hs
theorem KM {h:Nat→Option Zah} {N:Nat→Prop}:∀ (ps:List Nat) (args:List AV) (vs:List Value) (env:List (Nat×AV)) (a:Act),(∀ t∈ps,t < nt.n)→RE C nt g env h N a w→RVs C g h N w args vs →
    RE C nt g (YQ ps args env) h N {a with tmps:=(ps.zip vs).foldl (fun t pv=>t.setIfInBounds pv.1 pv.2) a.tmps} w
  | [],args,vs,env,a,_,R,_=>by cases args<;>exact R
  | p::ps,[],vs,env,a,_,R,hv=>by
    have:vs=[]:=List.eq_nil_of_length_eq_zero hv.1.symm
    subst this
    exact R
  | p::ps,x::xs,[],env,a,_,R,hv=>by have:=hv.1;simp at this
  | p::ps,x::xs,v::vs,env,a,hp,R,hv=>by
    have R1:=R.put p (hp p (by simp)) (hv.2 0 x v rfl rfl)
    have:=KM ps xs vs (zo env p x) (a.put (some p) v) (fun t ht=>hp t (by simp [ht])) R1 ⟨by have:=hv.1;simpa using this,fun j y u hj hu=>hv.2 (j+1) y u (by simpa using hj) (by simpa using hu)⟩
    exact this
theorem Vj {heap:List (Nat×Zah)} {next:Nat} {idl L:Nat} {R:LoopState→Option Code→Loop} {s s':LoopState} {pe pe':Option Code} (H:RH C g (za heap) (· < next) w) (ho:za heap idl=some (.lp L R s pe)) (hρ:g.ρ idl=some L) :
    w.heap[L]?=some (.loop (R s pe))∧Evo g (za heap) (· < next) w g (za (zo heap idl (.lp L R s' pe'))) (· < next+1) (w.putObj L (.loop (R s' pe')))∧RH C g (za (zo heap idl (.lp L R s' pe'))) (· < next+1) (w.putObj L (.loop (R s' pe'))):=by
  have H0:=H.obj idl L _ hρ ho
  obtain ⟨hz,_,hb⟩:=H0
  have E:=Jx (id:=next) H hρ hz (.lp L R s pe) (.lp L R s' pe') ho (.loop (R s' pe')) ⟨rfl,rfl⟩ (fun c e hc=>by rw [hb] at hc;cases hc)
  have hR:=XP (id:=next) H hρ (.lp L R s' pe') (.loop (R s' pe')) (fun _ _ h=>by cases h) E ⟨hz,rfl,by rw [zB w L _ (zU hb),if_pos rfl]⟩
  rw [jR] at E hR
  have e1:hup [(idl,Zah.lp L R s' pe')] (za heap)=za (zo heap idl (.lp L R s' pe')):=by
    funext i;simp only [hup,zt]
  rw [e1] at E hR
  exact ⟨hb,E,hR⟩
theorem zdZ (hro:C.ro=none) {f:Opd} {ps:List Nat} {x y:ZaC} {K:Exit→St→Prop} {gf:Nat} {caps:List AV} (hf:zd st.env f=.func gf [] caps) {F:AFun} (hF:qr C gf=some F.erase) (hn:caps.length+1≤F.nt)
    (h:∀ (L:Nat) (R:LoopState→Option Code→Loop) (at0:Option (Gh×St×World)) ym yk (B:Nat),
      awp ⟨C.toCtx,none,at0,Zx C nt st.env st.next L R ps x y,ym,yk⟩ ⟨F.nt,B⟩ F.body (zfb F fun _ heap next=>zgS st.env st.next L R K heap next)
        ⟨jc 0 (.yld L st.next::caps),zo st.heap st.next (.lp L R .ready none),st.next+1⟩):awp C nt (.range f ps x y) K st:=by
  intro code hc g a w Rl hI
  obtain ⟨fo,psA,p,q,rfl,rfl,rfl,hps,hp,hq⟩:=zcw hc
  rw [hro]
  refine wpIn_rangeFunc ?_
  intro fn _
  have hv:=yW Rl fo
  rw [hf] at hv
  generalize hval:a.eval fo=v at hv
  cases hv with
  | func _ _ _ vf vc hlf hlc hf1 hc1=>
  obtain rfl:vf=[]:=List.eq_nil_of_length_eq_zero hlf.symm
  obtain ⟨R,hRd⟩:∃ R:LoopState→Option Code→Loop,R=fun s pe=>{state:=s,pending:=pe,fn,tmps:=a.tmps,params:=psA,assign:=p,body:=q,defers:=w.heap.size}:=⟨_,rfl⟩
  have hRs:∀ s s' pe pe',{R s pe with state:=s',pending:=pe'}=R s' pe':=fun s s' pe pe'=>by rw [hRd]
  have hB:Below w.heap.size w (w.alloc (.deferred (some []))):=(Below.refl _ w).alloc (Nat.le_refl _) _
  have E0:Evo g (za st.heap) (· < st.next) w g (za st.heap) (· < st.next) (w.alloc (.deferred (some []))):=xw Rl.heap hB (fun _ _=>rfl)
  have H0:RH C g (za st.heap) (· < st.next) (w.alloc (.deferred (some []))):=yY Rl.heap hB (fun _ _=>rfl) (fun b hb=>by have:=Rl.heap.zlt b hb;simp;omega)
  have hid:¬ (st.next < st.next):=Nat.lt_irrefl _
  have E1:=Jw (id:=st.next) H0 hid (.loop (R .ready none)) (.lp (w.heap.size+1) R .ready none) 0
  have H1:=Y3 (id:=st.next) H0 hid (.loop (R .ready none)) (.lp (w.heap.size+1) R .ready none) 0 ⟨by simp [Gh.at],by simp,zJ _ _⟩
  have e1:hup [(st.next,Zah.lp (w.heap.size+1) R .ready none)] (za st.heap)=za (zo st.heap st.next (.lp (w.heap.size+1) R .ready none)):=by
    funext i;simp only [hup,zt]
  rw [jR,e1] at E1 H1
  obtain ⟨W1,hW1⟩:∃ W1,(w.alloc (.deferred (some []))).alloc (.loop (R .ready none))=W1:=⟨_,rfl⟩
  rw [hW1] at E1 H1
  have hl:(w.alloc (.deferred (some []))).heap.size=w.heap.size+1:=by simp
  rw [hl] at E1 H1
  obtain ⟨g1,hg1⟩:∃ g1,g.at st.next (w.heap.size+1) 0=g1:=⟨_,rfl⟩
  have hρ:g1.ρ st.next=some (w.heap.size+1):=by rw [←hg1];simp [Gh.at]
  have hown:¬ ww g1 w.heap.size:=by
    rw [←hg1]
    rintro ⟨i,hi⟩
    simp only [Gh.at] at hi
    split at hi
    · have:=Option.some.inj hi;omega
    · have:=(Rl.heap.lt i _ hi).1;omega
  rw [hg1] at E1 H1
  have E01:=Evo.trans E0 E1
  have hD1:W1.heap[w.heap.size]?=some (.deferred (some [])):=by
    rw [←hW1];exact (qi _ _ (by simp)).trans (zJ _ _)
  have M1:Marks nt.B g1 W1 ({target:=.collected w.heap.size,args := #[]}::a.defers):=by
    obtain ⟨m0,Ds,m1,m2,m3⟩:=Rl.env.defers
    refine ⟨Nat.le_trans m0 E01.size,w.heap.size::Ds,by rw [m1];rfl,List.nodup_cons.2 ⟨fun hm => ?_,m2⟩,fun D hD => ?_⟩
    · have:=(Array.getElem?_eq_some_iff.1 (m3 _ hm).2.1).1;omega
    · rcases List.mem_cons.1 hD with rfl | hD
      · exact ⟨m0,hD1,hown⟩
      · obtain ⟨n1,n2,n3⟩:=m3 D hD
        have hlt:=(Array.getElem?_eq_some_iff.1 n2).1
        exact ⟨n1,(E01.old D hlt n3).1.trans n2,fun ho=>(E01.own D ho).elim n3 (fun h=>by omega)⟩
  have yk:∀ l id args heap next KK,Zx C nt st.env st.next (w.heap.size+1) R psA.toList x y l id args heap next KK→∀ (g':Gh) (w':World) (vs:List Value),RH C g' (za heap) (· < next) w'→RVs C g' (za heap) (· < next) w' args vs→(∀ R s pe,za heap id=some (.lp l R s pe)→g'.ρ id=some l) →
      Evo g1 (za (zo st.heap st.next (.lp (w.heap.size+1) R .ready none))) (· < st.next+1) W1 g' (za heap) (· < next) w' →
      YieldAt Fence.wide 0 C.P l vs.toArray w' fun e w''=>∃ v r heap' next' g'',e=.returned v∧KK r heap' next'∧Evo g' (za heap) (· < next) w' g'' (za heap') (· < next') w''∧RH C g'' (za heap') (· < next') w''∧RV C g'' (za heap') (· < next') w'' r v:=by
    rintro l id args heap next KK ⟨rfl,rfl,hlen,hrec,hwp⟩ g' w' vs H' hvs hlp E'
    have hρ':=hlp R _ _ hrec
    have hb':w'.heap[w.heap.size+1]?=some (.loop (R .ready none)):=(H'.obj _ _ _ hρ' hrec).2.2
    have hszs:vs.toArray.size=(R .ready none).params.size:=by rw [hRd];have:=hvs.1;simp only [List.size_toArray];rw [←this,hlen];simp
    have hy:=run_yield (P:=C.P) hb' hszs
    refine ⟨_,_,_,_,hy,?_⟩
    rw [hRd]
    simp only
    refine roundIn_of_wpIn trivial ?_
    have Etot:=Evo.trans E01 E'
    have RE0:RE C nt g' st.env (za heap) (· < next) {a with defers:=[]} w':=⟨Rl.env.size,Marks.nil _ (Nat.le_trans Rl.env.defers.1 Etot.size),fun t z hz=>(Rl.env.slot t z hz).mono Etot⟩
    have RE1:=KM psA.toList args vs st.env {a with defers:=[]} hps RE0 hvs
    have hz:(psA.zip vs.toArray).foldl (fun tmps (t,a)=>tmps.setIfInBounds t a) a.tmps=(psA.toList.zip vs).foldl (fun t pv=>t.setIfInBounds pv.1 pv.2) a.tmps:=by
      rw [←Array.foldl_toList];simp
    rw [hz]
    refine Code.wpIn_mono ?_ (hwp p hp g' _ w' ⟨RE1,H'⟩ trivial)
    rintro e a1 w1 ⟨st1,g1',hk,R1,E2⟩
    cases e with
    | normal=>
      obtain ⟨hk1,hk2⟩:=hk
      have hρ1:g1'.ρ st.next=some (w.heap.size+1):=by
        rcases E2.rho _ _ hρ' _ hk1 (by simp) (H'.key _ _ hrec) with h4 | ⟨_,_,_,_,_,e2,_⟩
        · exact h4
        · cases e2
      obtain ⟨hb1,E3,H3⟩:=Vj (s':=.busy) (pe':=none) R1.heap hk1 hρ1
      refine ⟨_,run_beginRound hb1 (by rw [hRd]),?_⟩
      have e3:({R .ready none with state:=.busy}:Loop)=R .busy none:=by rw [hRd]
      rw [e3]
      have R3:Rel C nt g1' ⟨st1.env,zo st1.heap st.next (.lp (w.heap.size+1) R .busy none),st1.next+1⟩ a1 (w1.putObj (w.heap.size+1) (.loop (R .busy none))):=⟨R1.env.mono E3,H3⟩
      refine Code.wpIn_mono ?_ (hk2 q hq g1' a1 _ R3 trivial)
      rintro e a4 w4 ⟨st4,g4,hk4,R4,E4⟩
      have fin:∀ (jump:Option Code),za st4.heap st.next=some (.lp (w.heap.size+1) R .busy none)→KK (.imm (.bool jump.isNone)) (zo st4.heap st.next (.lp (w.heap.size+1) R (if jump.isNone then .ready else .done) jump)) (st4.next+1) →
          ∃ v w'',(Instr.endRound (w.heap.size+1) jump).run C.P w4=.ok v w''∧∃ v' r heap' next' g'',Ending.returned v=.returned v'∧KK r heap' next'∧Evo g' (za heap) (· < next) w' g'' (za heap') (· < next') w''∧RH C g'' (za heap') (· < next') w''∧RV C g'' (za heap') (· < next') w'' r v':=fun jump h5 h6=>by
        have hρ4:g4.ρ st.next=some (w.heap.size+1):=by
          rcases E4.rho _ _ hρ1 _ h5 (by simp) (R3.heap.key st.next (.lp (w.heap.size+1) R .busy none) (by simp only [zt,if_true])) with h7 | ⟨_,_,_,_,_,e2,_⟩
          · exact h7
          · cases e2
        obtain ⟨hb4,E5,H5⟩:=Vj (s':=if jump.isNone then .ready else .done) (pe':=jump) R4.heap h5 hρ4
        have hrun:=run_endRound (P:=C.P) jump hb4
        have e5:({R .busy none with state:=if jump.isNone then .ready else .done,pending:=jump}:Loop)=R (if jump.isNone then .ready else .done) jump:=by rw [hRd]
        rw [e5] at hrun
        exact ⟨_,_,hrun,_,_,_,_,g4,rfl,h6,Evo.trans (Evo.trans (Evo.trans E2 E3) E4) E5,H5,.imm _ _ (.bool _)⟩
      cases e with
      | normal=>exact fin none hk4.1 hk4.2
      | ret=>exact fin (some .ret) hk4.1 hk4.2
      | exit id=>exact fin (some (.exit id)) hk4.1 hk4.2
      | _=>exact hk4.elim
    | _=>exact hk.elim
  have hargs:RVs C g1 (za (zo st.heap st.next (.lp (w.heap.size+1) R .ready none))) (· < st.next+1) W1 (.yld (w.heap.size+1) st.next::caps) (.func (.yield (w.heap.size+1)) #[] #[]::vc):=by
    refine ⟨by simp [hlc],fun j z u hj hu => ?_⟩
    cases j with
    | zero=>
      simp at hj hu
      subst hj hu
      exact .yld _ _ (Nat.lt_succ_self _) fun R' s pe he=>hρ
    | succ j=>exact (hc1 j z u (by simpa using hj) (by simpa using hu)).mono E01
  have hcall:=Xb (C:=⟨C.toCtx,none,some (g1,⟨[],zo st.heap st.next (.lp (w.heap.size+1) R .ready none),st.next+1⟩,W1),Zx C nt st.env st.next (w.heap.size+1) R psA.toList x y,Wh,yk⟩) rfl hF (by simpa [Nat.add_comm] using hn)
    (h (w.heap.size+1) R (some (g1,⟨[],zo st.heap st.next (.lp (w.heap.size+1) R .ready none),st.next+1⟩,W1)) Wh yk) H1 hargs (Evo.refl _ _ _ _)
  obtain ⟨fnF,codeF,hfnF,hcodeF,hnameF,_⟩:=yZ hF
  have eg:∀ args w,(callFunc (C.fnum gf) args).run C.P w=.ok (.enter (C.fnum gf) args) w:=fun args w=>by
    have h4:¬ fnF.body=none:=fun h=>by simp [h] at hcodeF
    have h5 : ¬ fnF.name = "runtime.NumGoroutine" := fun h => by simp [h] at hnameF
    simp [callFunc,hfnF,h4,h5]
  refine ⟨w.heap.size+1,[{target:=.collected w.heap.size,args := #[]}],W1,{target:=.fn (.func (C.fnum gf)) vc.toArray,args := #[.func (.yield (w.heap.size+1)) #[] #[]]},W1,C.fnum gf,
    #[.func (.yield (w.heap.size+1)) #[] #[]]++vc.toArray,W1,?_,?_,fun _ _=>trivial,?_,fun h=>(by cases h),?_⟩
  · rw [←hW1,hRd];exact run_enterLoop_outer _ _ _ _ _
  · simp only [resolve,hval]
    simp [go_sem]
  · simp [invoke,go_sem,eg]
  · have harr : #[Value.func (.yield (w.heap.size+1)) #[] #[]]++vc.toArray=(Value.func (.yield (w.heap.size+1)) #[] #[]::vc).toArray:=by apply Array.ext';simp
    rw [harr]
    refine (callsIn_wide.2 hcall).mono ?_
    rintro e w2 ⟨v,r,heap',next',g2,rfl,hK,E2,H2,_⟩
    have fin:∀ (s:LoopState) (pe:Option Code),s≠.busy→za heap' st.next=some (.lp (w.heap.size+1) R s pe)→(Instr.endLoop (w.heap.size+1)).run C.P w2=.ok pe (w2.putObj (w.heap.size+1) (.loop (R .exhausted pe))) ∧
        Rel C nt g2 ⟨st.env,zo heap' st.next (.lp (w.heap.size+1) R .exhausted pe),next'+1⟩ {a with defers:={target:=.collected w.heap.size,args := #[]}::a.defers} (w2.putObj (w.heap.size+1) (.loop (R .exhausted pe))) ∧
        EvoS g st w g2 ⟨st.env,zo heap' st.next (.lp (w.heap.size+1) R .exhausted pe),next'+1⟩ (w2.putObj (w.heap.size+1) (.loop (R .exhausted pe))):=fun s pe hs ho=>by
      have hρ2:g2.ρ st.next=some (w.heap.size+1):=by
        rcases E2.rho _ _ hρ _ ho (by simp) (Nat.lt_succ_self _) with h4 | ⟨_,_,_,_,_,e2,_⟩
        · exact h4
        · cases e2
      obtain ⟨hb2,E3,H3⟩:=Vj (s':=.exhausted) (pe':=pe) H2 ho hρ2
      have hrun:=run_endLoop (P:=C.P) hb2 (by rw [hRd];exact hs)
      have e5:({R s pe with state:=.exhausted}:Loop)=R .exhausted pe:=by rw [hRd]
      have e6:(R s pe).pending=pe:=by rw [hRd]
      rw [e5,e6] at hrun
      have E13:=Evo.trans E2 E3
      exact ⟨hrun,⟨⟨Rl.env.size,M1.evo E13,fun t z hz=>((Rl.env.slot t z hz).mono E01).mono E13⟩,H3⟩,Evo.trans E01 E13⟩
    rcases hK with ⟨h1,h2⟩ | ⟨h1,h2⟩ | ⟨id,h1,h2⟩
    · obtain ⟨f1,f2,f3⟩:=fin _ _ (by simp) h1
      exact ⟨none,_,f1,_,g2,h2,f2,f3⟩
    · obtain ⟨f1,f2,f3⟩:=fin _ _ (by simp) h1
      exact ⟨some .ret,_,f1,wpIn_ret ⟨_,g2,h2,f2,f3⟩⟩
    · obtain ⟨f1,f2,f3⟩:=fin _ _ (by simp) h1
      exact ⟨some (.exit id),_,f1,wpIn_exit ⟨_,g2,h2,f2,f3⟩⟩
end
end
def kM:Nat→List (List Int)→List (Nat×Zah)
  | _,[]=>[]
  | b,L::r=>bif Nat.blt b 2000000 then (b,.tip 1 L.length)::kM (b+1) r else []
def xq (Ls:List (List Int)):List (Nat×Zah):=(qI,.dead)::kM zA Ls
def kc:List (Nat×Zah)→List (Nat×Zah)
  | []=>[]
  | (k,o)::r=>match Nat.beq k qI with
    | true=>[]
    | false=>(k,o)::kc r
def kN:List (Nat×Zah)→List (Nat×Zah)
  | []=>[]
  | (k,o)::r=>match Nat.beq k qI with
    | true=>(k,o)::r
    | false=>kN r
def vl:List (Nat×Zah)→Bool
  | []=>true
  | (k,o)::r=>match Nat.beq k qI with
    | true=>true
    | false=>(Nat.blt k qI||Nat.ble 2000000 k)&&vl r
theorem V3:∀ (Ls:List (List Int)) (b:Nat),(qf b Ls).length=Ls.length
  | [],_=>rfl
  | L::r,b=>by simp [qf,V3 r]
theorem V4:∀ (Ls:List (List Int)) (b k:Nat) (L:List Int),(qf b Ls).set k (wm (b+k) L)=qf b (Ls.set k L)
  | [],b,k,L=>by simp [qf]
  | M::r,b,0,L=>by simp [qf]
  | M::r,b,k+1,L=>by
    simp only [qf,List.set_cons_succ]
    rw [←V4 r (b+1) k L,show b+1+k=b+(k+1) by omega]
theorem V5:∀ (Ls:List (List Int)) (b j:Nat),za (kM b Ls) j=if b≤j∧j < 2000000 then (Ls[j - b]?).map (fun L=>Zah.tip 1 L.length) else none
  | [],b,j=>by simp [kM,za]
  | L::r,b,j=>by
    simp only [kM]
    cases h:Nat.blt b 2000000 with
    | false=>
      have:¬ b < 2000000:=fun hb=>by rw [show Nat.blt b 2000000=true by simpa [Nat.blt_eq] using hb] at h;cases h
      simp only [ZaS,za]
      rw [if_neg (by omega)]
    | true=>
      have hb:b < 2000000:=by simpa [Nat.blt_eq] using h
      simp only [ZaR,za]
      by_cases e:b=j
      · subst e
        rw [if_pos rfl,if_pos ⟨Nat.le_refl _,hb⟩];simp
      · rw [if_neg e,V5 r (b+1) j]
        by_cases h2:b≤j∧j < 2000000
        · obtain ⟨k,hk⟩:∃ k,j - b=k+1:=⟨j - b - 1,by omega⟩
          rw [if_pos (by omega),if_pos h2,hk,show j - (b+1)=k by omega,List.getElem?_cons_succ]
        · rw [if_neg (by omega),if_neg h2]
theorem wn (Ls:List (List Int)) (j:Nat):za (xq Ls) j=if j=qI then some .dead else if zA≤j∧j < 2000000 then (Ls[j - zA]?).map (fun L=>Zah.tip 1 L.length) else none:=by
  simp only [xq,za]
  by_cases e:qI=j
  · rw [if_pos e,if_pos e.symm]
  · rw [if_neg e,if_neg (fun h=>e h.symm),V5]
theorem wF {α:Type}:∀ (a b:List (Nat×α)) (j:Nat),za (a++b) j=(za a j).or (za b j)
  | [],b,j=>by simp [za]
  | (k,v)::a,b,j=>by
    simp only [List.cons_append,za]
    by_cases e:k=j
    · rw [if_pos e,if_pos e];rfl
    · rw [if_neg e,if_neg e];exact wF a b j
theorem KN:∀ l:List (Nat×Zah),kc l++kN l=l
  | []=>rfl
  | (k,o)::r=>by
    simp only [kc,kN]
    split
    · rfl
    · rw [List.cons_append,KN r]
theorem yn (l:List (Nat×Zah)) (j:Nat):za l j=(za (kc l) j).or (za (kN l) j):=by
  conv=>lhs;rw [←KN l]
  exact wF _ _ _
theorem Qb:∀ {l:List (Nat×Zah)},vl l=true→∀ {j:Nat} {o:Zah},za (kc l) j=some o→j < qI∨2000000≤j
  | [],h,j,o,e=>by cases e
  | (k,v)::r,h,j,o,e=>by
    simp only [vl,kc] at h e
    split at h
    · rename_i hk;rw [hk] at e;cases e
    · rename_i hk
      rw [hk] at e
      simp only [Bool.and_eq_true,Bool.or_eq_true] at h
      simp only [za] at e
      split at e
      · rename_i ek
        subst ek
        rcases h.1 with h1 | h1
        · exact .inl (by simpa [Nat.blt_eq] using h1)
        · exact .inr (Nat.le_of_ble_eq_true h1)
      · exact Qb h.2 e
structure NestH (heap:List (Nat×Zah)) (P:Nat) (Ls:List (List Int)):Prop where
  obj:za heap P=some (.rows 1 (qf zA Ls))
  tail:kN heap=xq Ls
  out:vl heap=true
theorem NestH.tip {heap:List (Nat×Zah)} {P:Nat} {Ls:List (List Int)} (h:NestH heap P Ls) {k:Nat} {L:List Int} (hL:Ls[k]?=some L) (hk:k < 1000000):za heap (zA+k)=some (.tip 1 L.length):=by
  rw [yn]
  cases e:za (kc heap) (zA+k) with
  | some o=>have:=Qb h.out e;simp only [zA,qI] at this;omega
  | none=>
    rw [Option.none_or,h.tail,wn,if_neg (by simp only [zA,qI];omega),if_pos (by simp only [zA];omega),show zA+k - zA=k by omega,hL];rfl
theorem V6:∀ (Ls:List (List Int)) (b:Nat) (p:Nat×Zah),p∈kM b Ls→∃ (k:Nat) (L:List Int),Ls[k]?=some L∧p=(b+k,.tip 1 L.length)∧b+k < 2000000
  | [],b,p,h=>by simp [kM] at h
  | L::r,b,p,h=>by
    simp only [kM] at h
    cases hb:Nat.blt b 2000000 with
    | false=>rw [hb] at h;simp at h
    | true=>
      rw [hb,ZaR] at h
      rcases List.mem_cons.1 h with h | h
      · exact ⟨0,L,rfl,h,by simpa [Nat.blt_eq] using hb⟩
      · obtain ⟨k,M,h1,h2,h3⟩:=V6 r (b+1) p h
        exact ⟨k+1,M,by simpa using h1,by rw [h2,show b+1+k=b+(k+1) by omega],by omega⟩
theorem zd0 {heap:List (Nat×Zah)} {Ls:List (List Int)} (ht:kN heap=xq Ls) (ho:vl heap=true):∀ p∈xq Ls,za heap p.1=some p.2∧p.1 < 2000000∧∀ m,zK m p.2:=by
  intro p hp
  have hnone:∀ j,qI≤j→j < 2000000→za (kc heap) j=none:=fun j h1 h2=>by
    cases e:za (kc heap) j with
    | none=>rfl
    | some o=>have:=Qb ho e;omega
  rcases List.mem_cons.1 hp with rfl | hp
  · refine ⟨?_,by simp [qI],fun m=>trivial⟩
    rw [yn,hnone _ (Nat.le_refl _) (by simp [qI]),Option.none_or,ht,wn,if_pos rfl]
  · obtain ⟨k,L,h1,rfl,h3⟩:=V6 _ _ _ hp
    refine ⟨?_,h3,fun m=>trivial⟩
    simp only
    rw [yn,hnone _ (by simp only [qI,zA];omega) h3,Option.none_or,ht,wn,if_neg (by simp only [qI,zA];omega),if_pos ⟨by omega,h3⟩,show zA+k - zA=k by omega,h1]
    rfl
theorem zfw {env env':List (Nat×AV)} {heap heap':List (Nat×Zah)} {n:Nat} (he:∀ t x,za env' t=some x→za env t=some x) (h:∀ j o,za heap' j=some o→za heap j=some o):Weak ⟨env,heap,n⟩ ⟨env',heap',n⟩:=by
  intro C nt g a w R
  obtain ⟨RE,R⟩:=R
  simp only at RE R
  have E:Evo g (za heap) (· < n) w g (za heap') (· < n) w:={Evo.refl g (za heap) (· < n) w with
    rho:=fun i b hb _ _ _ _=>.inl hb
    rho0:=fun i hb _ _ _ _=>.inl hb
    rows:=fun i _ s r h1=>⟨r,h i _ h1,rfl⟩
    tips:=fun i _ s l h1=>⟨l,h i _ h1,Nat.le_refl _⟩
    maps:=fun i _ es h1=>⟨es,h i _ h1⟩
    lps:=fun i _ ll RR s pe h1=>⟨s,pe,h i _ h1⟩}
  refine ⟨g,⟨⟨RE.size,RE.defers,fun t x hx=>(RE.slot t x (he t x hx)).mono E⟩,⟨R.inj,R.lt,fun i o h1=>R.key i o (h i o h1),fun i b o h1 h2=>(R.obj i b o h1 (h i o h2)).keep E rfl rfl,fun i s l h1 h2=>R.tip0 i s l (h i _ h1) h2,R.zlt,R.fix.evo E⟩⟩,fun g0 st0 w0 hm E0=>E0.trans E⟩
theorem zd1 {env:List (Nat×AV)} {heap:List (Nat×Zah)} {next:Nat} (P n:Nat) (hP:za heap P=some (.rows 1 (List.replicate n [.nil]))) (hn:next≤qI) :
    Weak ⟨env,heap,next⟩ ⟨env,zo heap P (.rows 1 (qf zA (List.replicate n [])))++xq (List.replicate n []),2000000⟩:=by
  intro C nt g a w R
  obtain ⟨RE,R⟩:=R
  simp only at RE R
  have hPn:P < next:=R.key _ _ hP
  have hmk:qI=999999:=rfl
  have hnb:zA=1000000:=rfl
  have hg:∀ j o,za (zo heap P (.rows 1 (qf zA (List.replicate n [])))++xq (List.replicate n [])) j=some o →
      (j=P∧o=.rows 1 (qf zA (List.replicate n [])))∨(j≠P∧j < next∧za heap j=some o)∨(j=qI∧o=.dead)∨(zA≤j∧j < 2000000∧o=.tip 1 0):=fun j o h=>by
    rw [wF,zt] at h
    by_cases e:P=j
    · rw [if_pos e] at h;cases h;exact .inl ⟨e.symm,rfl⟩
    · rw [if_neg e] at h
      cases h2:za heap j with
      | some o'=>rw [h2,Option.some_or] at h;cases h;exact .inr (.inl ⟨fun e2=>e e2.symm,R.key _ _ h2,rfl⟩)
      | none=>
        rw [h2,Option.none_or,wn] at h
        split at h
        · rename_i e3;cases h;exact .inr (.inr (.inl ⟨e3,rfl⟩))
        · split at h
          · rename_i e3
            rw [List.getElem?_replicate] at h
            split at h
            · cases h;exact .inr (.inr (.inr ⟨e3.1,e3.2,rfl⟩))
            · cases h
          · cases h
  have hold:∀ j o,j < next→j≠P→za (zo heap P (.rows 1 (qf zA (List.replicate n [])))++xq (List.replicate n [])) j=some o→za heap j=some o:=fun j o h1 h2 h3=>by
    rcases hg j o h3 with ⟨e,_⟩ | ⟨_,_,e⟩ | ⟨e,_⟩ | ⟨e,_⟩
    · exact absurd e h2
    · exact e
    · omega
    · omega
  have E:Evo g (za heap) (· < next) w g (za (zo heap P (.rows 1 (qf zA (List.replicate n [])))++xq (List.replicate n []))) (· < 2000000) w:={Evo.refl g (za heap) (· < next) w with
    next:=fun i hi=>by have hi:i < next:=hi;show i < 2000000;omega
    rho:=fun i b hb _ _ _ _=>.inl hb
    rho0:=fun i hb _ _ _ _=>.inl hb
    rows:=fun i hi s r h1=>by
      rcases hg i _ h1 with ⟨e1,e2⟩ | ⟨_,_,e2⟩ | ⟨_,e2⟩ | ⟨_,_,e2⟩
      · subst e1;cases e2;exact ⟨_,hP,by rw [V3];simp⟩
      · exact ⟨r,e2,rfl⟩
      · cases e2
      · cases e2
    tips:=fun i hi s l h1=>by
      have hi:i < next:=hi
      rcases hg i _ h1 with ⟨_,e2⟩ | ⟨_,_,e2⟩ | ⟨_,e2⟩ | ⟨e1,_,_⟩
      · cases e2
      · exact ⟨l,e2,Nat.le_refl _⟩
      · cases e2
      · omega
    maps:=fun i _ es h1=>by
      rcases hg i _ h1 with ⟨_,e2⟩ | ⟨_,_,e2⟩ | ⟨_,e2⟩ | ⟨_,_,e2⟩
      · cases e2
      · exact ⟨es,e2⟩
      · cases e2
      · cases e2
    lps:=fun i _ ll RR s pe h1=>by
      rcases hg i _ h1 with ⟨_,e2⟩ | ⟨_,_,e2⟩ | ⟨_,e2⟩ | ⟨_,_,e2⟩
      · cases e2
      · exact ⟨s,pe,e2⟩
      · cases e2
      · cases e2}
  refine ⟨g,⟨⟨RE.size,RE.defers,fun t x hx=>(RE.slot t x hx).mono E⟩,⟨R.inj,fun i b h1=>⟨(R.lt i b h1).1,E.next _ (R.lt i b h1).2⟩,fun i o h1 => ?_,fun i b o h1 h2 => ?_,fun i s l h1 h2 => ?_,R.zlt,R.fix.evo E⟩⟩,fun g0 st0 w0 hm E0=>E0.trans E⟩
  · show i < 2000000
    rcases hg i o h1 with ⟨e1,_⟩ | ⟨_,e1,_⟩ | ⟨e1,_⟩ | ⟨_,e1,_⟩<;>omega
  · rcases hg i o h2 with ⟨e1,e2⟩ | ⟨_,_,e2⟩ | ⟨e1,_⟩ | ⟨e1,_,_⟩
    · subst e1 e2
      have hro:=R.obj _ b _ h1 hP
      simp only [RObj] at hro ⊢
      obtain ⟨a1,c,e,a2,a3,a4⟩:=hro
      refine ⟨a1,c,e,a2,fun i r hi => ?_,fun i r j x hi hj => ?_⟩
      · rw [yl] at hi
        obtain ⟨L,_,rfl⟩:=Option.map_eq_some_iff.1 hi
        rfl
      · rw [yl] at hi
        obtain ⟨L,hL,rfl⟩:=Option.map_eq_some_iff.1 hi
        rw [List.getElem?_replicate] at hL
        split at hL
        · rename_i hin
          cases hL
          have hj0:j=0:=by
            by_cases hb:zA+i < 2000000
            · rw [xH hb] at hj
              cases j with
              | zero=>rfl
              | succ j=>simp at hj
            · rw [vX hb] at hj
              cases j with
              | zero=>rfl
              | succ j=>simp at hj
          subst hj0
          obtain ⟨cv,b1,b2,b3⟩:=a4 i [.nil] 0 .nil (by rw [List.getElem?_replicate,if_pos hin]) rfl
          refine ⟨cv,b1,b2,?_⟩
          rw [xa b3]
          by_cases hb:zA+i < 2000000
          · rw [xH hb] at hj
            simp only [List.getElem?_cons_zero,Option.some.injEq] at hj
            subst hj
            refine .Zav _ _ _ .nil hb fun sz len hg2 => ?_
            have:sz=1∧len=0:=by
              rcases hg _ _ hg2 with ⟨e1,_⟩ | ⟨_,e1,_⟩ | ⟨e1,_⟩ | ⟨_,_,e2⟩
              · omega
              · omega
              · omega
              · cases e2;exact ⟨rfl,rfl⟩
            obtain ⟨rfl,rfl⟩:=this
            refine ⟨Nat.le_refl _,fun i row hi=>by simp at hi,fun _=>.inl ⟨?_,rfl⟩⟩
            cases hr:g.ρ (zA+i) with
            | none=>rfl
            | some bb=>
              have h5:zA+i < next:=(R.lt _ _ hr).2
              omega
          · rw [vX hb] at hj
            simp only [List.getElem?_cons_zero,Option.some.injEq] at hj
            subst hj
            exact .imm _ _ .nil
        · cases hL
    · exact (R.obj i b o h1 e2).keep E rfl rfl
    · have h5:i < next:=(R.lt i b h1).2
      omega
    · have h5:i < next:=(R.lt i b h1).2
      omega
  · rcases hg i _ h1 with ⟨_,e2⟩ | ⟨_,_,e2⟩ | ⟨_,e2⟩ | ⟨_,_,e2⟩
    · cases e2
    · exact R.tip0 i s l e2 h2
    · cases e2
    · cases e2;rfl
theorem KO:∀ (Ls:List (List Int)) (b:Nat),RowsLe (qf b Ls) (zc (qK zb) Ls)
  | [],_=>.nil
  | L::r,b=>by
    refine .cons ?_ (KO r (b+1))
    by_cases hb:b < 2000000
    · rw [xH hb];exact .cons (.tip _ _) .nil
    · rw [vX hb];exact .cons (.refl _) .nil
section
inductive Tree:Type 1 where
  | tt
  | bad (why:Nat)
  | step (t:Tree)
  | all (β:Type) (f:β→Tree)
  | and (a b:Tree)
  | eq (β:Type) (a b:β) (t:Tree)
def Tree.Ok:Tree→Prop
  | .tt=>True
  | .bad _=>False
  | .step t=>t.Ok
  | .all _ f=>∀ v,(f v).Ok
  | .and a b=>a.Ok∧b.Ok
  | .eq _ a b t=>a=b∧t.Ok
def Tree.norm:Tree→Tree
  | .tt=>.tt
  | .bad _=>.tt
  | .step t=>.step t.norm
  | .all β f=>.all β fun v=>(f v).norm
  | .and a b=>.and a.norm b.norm
  | .eq β a _ t=>.eq β a a t.norm
theorem Tree.ok:∀ {t:Tree},t=t.norm→t.Ok:=by
  intro t
  induction t with
  | tt=>exact fun _=>trivial
  | bad _=>intro h;cases h
  | step t ih=>intro h;simp only [Tree.norm,Tree.step.injEq] at h;exact ih h
  | all β f ih=>
    intro h v
    simp only [Tree.norm,Tree.all.injEq,heq_eq_eq,true_and] at h
    exact ih v (congrFun h v)
  | and a b iha ihb=>intro h;simp only [Tree.norm,Tree.and.injEq] at h;exact ⟨iha h.1,ihb h.2⟩
  | eq β a b t ih=>intro h;simp only [Tree.norm,Tree.eq.injEq,heq_eq_eq,true_and] at h;exact ⟨h.1.symm,ih h.2⟩
abbrev ziL:=List Orc×List Prop
abbrev zI:=List (Nat×ziL)
def FactsOk (Φ:zI):Prop:=∀ k f,za Φ k=some f→AllP f.2
structure Spec (β:Type) where
  ks:List Nat
  ov:β→List (Nat×AV)
  hs:List Nat
  oh:β→List (Nat×Zah)
  nx:Nat
  bel:∀ b,Belows nx (oh b)
  ns:β→Option (List (List Int))
def Wi (hs:List Nat):List (Nat×Zah)→List (Nat×Zah)
  | []=>[]
  | (k,o)::r=>match Nat.beq k qI with
    | true=>[]
    | false=>match hs.contains k with
      | true=>(k,o)::Wi hs r
      | false=>Wi hs r
def Qc:Option (List (List Int))→List (Nat×Zah)
  | Option.none=>[]
  | some Ls=>xq Ls
abbrev Spec.k {β:Type} (ks:List Nat) (ov:β→List (Nat×AV)) (hs:List Nat) (oh:β→List (Nat×Zah)) (nx:Nat) (bel:∀ b,Belows nx (oh b)):Spec β:=⟨ks,ov,hs,oh,nx,bel,fun _=>Option.none⟩
def Spec.st {β:Type} (sp:Spec β) (st:St) (b:β):St:=⟨sp.ov b++qB sp.ks st.env,sp.oh b++(Wi sp.hs st.heap++Qc (sp.ns b)),sp.nx⟩
def Spec.sti {β:Type} (sp:Spec β) (st:St) (idx:Nat) (n:Int) (b:β):St:=⟨(idx,vI n)::(sp.ov b++qB sp.ks st.env),sp.oh b++(Wi sp.hs st.heap++Qc (sp.ns b)),sp.nx⟩
structure WStep where
  to:St→St
  T:St→Tree→Tree
  ok:∀ st t,(T st t).Ok→t.Ok∧Weak st (to st)∧st.next≤(to st).next
structure MStep (β:Type) where
  x:Option β
  T:ZaC→St→(β→St→Tree)→Tree
  ok:∀ (C:CtxY) (nt:Fr) (c:ZaC) (st:St) (k:β→St→Tree) (K:Exit→St→Prop) (b:β),x=some b→(T c st k).Ok→(∀ s,(k b s).Ok→K .normal s)→awp C nt c K st
inductive Zac:Type→Type 1 where
  | ret {α:Type} (a:α):Zac α
  | fin {α:Type} (ids:List Nat) (V:AV) (objs:List (Nat×Zah)) (iv:IV) (h:zcp [V] objs [iv]) (a:α):Zac α
  | finL {α:Type} (x y:AV) (h:LeV2 x y) (a:α):Zac α
  | none {α:Type}:Zac α
  | bind {α β:Type} (x:Option β) (F:β→zI) (h:∀ v,x=some v→FactsOk (F v)) (k:β→Zac α):Zac α
  | ite {α:Type} (key:Nat) (b:Bool) (p q:Zac α):Zac α
  | fact {α:Type} (key:Nat) (o:List Orc) (ps:List Prop) (h:AllP ps) (p:Zac α):Zac α
  | use {α:Type} (j key:Nat) (p:Zac α):Zac α
  | case {α β γ:Type} (o:β ⊕ γ) (p:β→Zac α) (q:γ→Zac α):Zac α
  | cut {α β:Type} (n:Nat) (sp:Spec β) (p:Zac β) (k:β→Zac α):Zac α
  | cutO {α β γ:Type} (n:Nat) (sp:Spec β) (p:Zac (β ⊕ γ)) (k:β ⊕ γ→Zac α):Zac α
  | forR {α σ ρ:Type} (key idx:Nat) (n:Int) (s0:σ) (sp:Spec σ) (body:Nat→σ→Zac (σ ⊕ ρ)) (k:σ ⊕ ρ→Zac α):Zac α
  | iter {α σ ρ:Type} (s0:σ) (sp:Spec σ) (body:σ→Zac (σ ⊕ ρ)) (k:ρ→Zac α):Zac α
  | weak {α:Type} (n:Nat) (ws:List WStep) (p:Zac α):Zac α
  | reg {α:Type} (n:Nat) (p:Zac α):Zac α
  | man {α β:Type} (n:Nat) (m:MStep β) (k:β→Zac α):Zac α
  | swt {α:Type} (key:Nat) (n:Int) (len i:Nat) (h:Nat.blt i len=true) (p q:Zac α):Zac α
noncomputable def Zac.run {α:Type} (p:Zac α):Option α:=Zac.rec (motive:=fun α _=>Option α)
  (fun a=>some a) (fun _ _ _ _ _ a=>some a) (fun _ _ _ a=>some a) Option.none
  (fun x _ _ _ ih=>Option.bind x ih) (fun _ b _ _ ihp ihq=>bif b then ihp else ihq) (fun _ _ _ _ _ ih=>ih) (fun _ _ _ ih=>ih)
  (fun o _ _ ihp ihq=>Sum.elim ihp ihq o) (fun _ _ _ _ ihp ihk=>Option.bind ihp ihk) (fun _ _ _ _ ihp ihk=>Option.bind ihp ihk)
  (fun _ _ n s0 _ _ _ ihb ihk=>Option.bind (Go.Proofs.YtmoedieenlaegaaGreatDoor.forR n ihb s0) ihk)
  (fun s0 _ _ _ ihb ihk=>Option.bind (Go.Proofs.YtmoedieenlaegaaGreatDoor.iter ihb s0) ihk) (fun _ _ _ ih=>ih) (fun _ _ ih=>ih) (fun _ m _ ih=>Option.bind m.x ih) (fun _ n _ i _ _ _ ihp ihq=>bif n == (i:Int) then ihp else ihq) p
noncomputable def settle {α:Type} (p:Zac α) (Φ:zI) (k:zI→Zac α→Tree):Tree:=Zac.rec (motive:=fun α _=>zI→(zI→Zac α→Tree)→Tree)
  (fun a Φ k=>k Φ (.ret a)) (fun ids V objs iv h a Φ k=>k Φ (.fin ids V objs iv h a)) (fun x y h a Φ k=>k Φ (.finL x y h a)) (fun Φ k=>.tt)
  (fun {_ β} x F h _ ih Φ k=>.all β fun v=>ih v (F v++Φ) k)
  (fun key b _ _ ihp ihq Φ k=>.and (ihp ((key,([.g true],[b=true]))::(key+1,([.g false],[(!b)=false]))::Φ) k) (ihq ((key,([.g false],[b=false]))::(key+1,([.g true],[(!b)=true]))::Φ) k))
  (fun key o ps h _ ih Φ k=>ih ((key,(o,ps))::Φ) k) (fun j key p _ Φ k=>k Φ (.use j key p))
  (fun o _ _ ihp ihq Φ k=>match o with
    | .inl a=>ihp a Φ k
    | .inr b=>ihq b Φ k)
  (fun n sp p kk _ _ Φ k=>k Φ (.cut n sp p kk)) (fun n sp p kk _ _ Φ k=>k Φ (.cutO n sp p kk))
  (fun key idx n s0 sp body kk _ _ Φ k=>k Φ (.forR key idx n s0 sp body kk)) (fun s0 sp body kk _ _ Φ k=>k Φ (.iter s0 sp body kk))
  (fun n ws p _ Φ k=>k Φ (.weak n ws p)) (fun n p _ Φ k=>k Φ (.reg n p)) (fun n m kk _ Φ k=>k Φ (.man n m kk))
  (fun key n len i _ _ _ ihp ihq Φ k=>.and (ihp ((key,([.k i],[JC n 0 len i]))::Φ) k) (ihq Φ k)) p Φ k
theorem FactsOk.add {Φ:zI} (h:FactsOk Φ) {key:Nat} {f:ziL} (hf:AllP f.2):FactsOk ((key,f)::Φ):=fun k g hg=>by
  simp only [za] at hg
  split at hg
  · cases hg;exact hf
  · exact h k g hg
theorem KP {α:Type}:∀ {l m:List (Nat×α)} {k:Nat} {x:α},za (l++m) k=some x→za l k=some x∨za m k=some x
  | [],m,k,x,h=>.inr h
  | (k',y)::l,m,k,x,h=>by
    simp only [List.cons_append,za] at h ⊢
    split at h
    · rename_i e;rw [if_pos e];exact .inl h
    · rename_i e;rw [if_neg e];exact KP h
theorem FactsOk.app {Φ Ψ:zI} (h:FactsOk Φ) (h':FactsOk Ψ):FactsOk (Φ++Ψ):=fun k f hf=>(KP hf).elim (h k f) (h' k f)
theorem FactsOk.nil:FactsOk []:=fun _ _ h=>by cases h
theorem qV {α:Type} (p:Zac α):∀ {Φ:zI} {k:zI→Zac α→Tree} {r:α},FactsOk Φ→(settle p Φ k).Ok→p.run=some r→∃ Φ' p',FactsOk Φ'∧p'.run=some r∧(k Φ' p').Ok:=by
  induction p with
  | ret a=>exact fun hΦ hk hr=>⟨_,_,hΦ,hr,hk⟩
  | fin ids V objs iv h a=>exact fun hΦ hk hr=>⟨_,_,hΦ,hr,hk⟩
  | finL x y h a=>exact fun hΦ hk hr=>⟨_,_,hΦ,hr,hk⟩
  | none=>intro Φ k r hΦ hk hr;cases hr
  | bind x F h kk ih=>
    intro Φ k r hΦ hk hr
    obtain ⟨v,h1,h2⟩:=Jy hr
    exact ih v ((h v h1).app hΦ) (hk v) h2
  | ite key b p q ihp ihq=>
    intro Φ k r hΦ hk hr
    have hr':(bif b then p.run else q.run)=some r:=hr
    cases b with
    | true=>exact ihp ((hΦ.add (f:=([.g false],[(!true)=false])) (.cons rfl .nil)).add (f:=([.g true],[true=true])) (.cons rfl .nil)) hk.1 hr'
    | false=>exact ihq ((hΦ.add (f:=([.g true],[(!false)=true])) (.cons rfl .nil)).add (f:=([.g false],[false=false])) (.cons rfl .nil)) hk.2 hr'
  | fact key o ps h p ih=>exact fun hΦ hk hr=>ih (hΦ.add (f:=(o,ps)) h) hk hr
  | use j key p ih=>exact fun hΦ hk hr=>⟨_,_,hΦ,hr,hk⟩
  | case o p q ihp ihq=>
    intro Φ k r hΦ hk hr
    cases o with
    | inl a=>exact ihp a hΦ hk hr
    | inr b=>exact ihq b hΦ hk hr
  | cut n sp p kk _ _=>exact fun hΦ hk hr=>⟨_,_,hΦ,hr,hk⟩
  | cutO n sp p kk _ _=>exact fun hΦ hk hr=>⟨_,_,hΦ,hr,hk⟩
  | forR key idx n s0 sp body kk _ _=>exact fun hΦ hk hr=>⟨_,_,hΦ,hr,hk⟩
  | iter s0 sp body kk _ _=>exact fun hΦ hk hr=>⟨_,_,hΦ,hr,hk⟩
  | weak n ws p ih=>exact fun hΦ hk hr=>⟨_,_,hΦ,hr,hk⟩
  | reg n p ih=>exact fun hΦ hk hr=>⟨_,_,hΦ,hr,hk⟩
  | man n m kk ih=>exact fun hΦ hk hr=>⟨_,_,hΦ,hr,hk⟩
  | swt key n len i hi p q ihp ihq=>
    intro Φ k r hΦ hk hr
    have hr':(bif n == (i:Int) then p.run else q.run)=some r:=hr
    have hlt:i < len:=by simpa [Nat.blt_eq] using hi
    by_cases e:n=(i:Int)
    · rw [show (n == (i:Int))=true by simp [e]] at hr'
      exact ihp (hΦ.add (f:=([.k i],[JC n 0 len i])) (.cons ⟨by omega,by omega,by omega⟩ .nil)) hk.1 hr'
    · rw [show (n == (i:Int))=false by simp [e]] at hr'
      exact ihq hΦ hk.2 hr'
def Zac.used {α:Type} (p:Zac α) (j:Nat):Option (Nat×Zac α):=match p with
  | .use j' key q=>match Nat.beq j' j with
    | true=>some (key,q)
    | false=>Option.none
  | _=>Option.none
theorem Xq {α:Type} {p q:Zac α} {j key:Nat} (h:p.used j=some (key,q)):q.run=p.run:=by
  unfold Zac.used at h
  split at h
  · split at h
    · cases h;rfl
    · cases h
  · cases h
abbrev YT:=(l id:Nat)→(args:List AV)→(heap:List (Nat×Zah))→(next:Nat)→(α:Type)→zI→Zac α→(AV→List (Nat×Zah)→Nat→zI→Zac α→Tree)→Tree
def noT:YT:=fun _ _ _ _ _ _ _ _ _=>.bad 1183
def zcx (C:CtxY) (Yt:YT):Prop:=∀ (l id:Nat) (args:List AV) (heap:List (Nat×Zah)) (next:Nat) (α:Type) (Φ:zI) (p:Zac α) (k:AV→List (Nat×Zah)→Nat→zI→Zac α→Tree) (r:α) (KK:AV→List (Nat×Zah)→Nat→Prop),FactsOk Φ→p.run=some r→(Yt l id args heap next α Φ p k).Ok →
  (∀ v h n Φ' p',FactsOk Φ'→p'.run=some r→(k v h n Φ' p').Ok→KK v h n)→C.Y l id args heap next KK
theorem Wj (C:CtxY):zcx C noT:=fun _ _ _ _ _ _ _ _ _ _ _ _ _ h _=>h.elim
def Vk (op:AOp) (st:St):Option (Nat×Nat×List AV):=match op with
  | .call f args=>match zd st.env f with
    | .yld l id=>some (l,id,args.map (zd st.env))
    | _=>Option.none
  | _=>Option.none
theorem KQ {op:AOp} {st:St} {l id:Nat} {args:List AV} (h:Vk op st=some (l,id,args)):∃ f ags,op=.call f ags∧zd st.env f=.yld l id∧args=ags.map (zd st.env):=by
  unfold Vk at h
  split at h
  · split at h
    · rename_i e;cases h;exact ⟨_,_,rfl,e,rfl⟩
    · cases h
  · cases h
section
variable (C:Ctx)
def stX (dr:Option (List Nat)) (op:AOp) (X:Nat) (st:St):St:=match dr with
  | Option.none=>st
  | some _=>match isCall op with
    | true=>⟨st.env,st.heap,X⟩
    | false=>st
def zcy {α:Type} (dr:Option (List Nat)) (X:Nat) (dst:Option Nat) (j:Nat) (W R:List (Nat×Nat)) (D:List Nat) (st:St) (r:AV) (ups:List (Nat×Zah)) (rd:List Nat) (d:Nat) (next:List (Nat×Nat)→List (Nat×Nat)→List Nat→St→Nat→zI→Zac α→Tree) (Φ:zI) (q:Zac α):Tree:=match dr with
  | Option.none=>next W R (YM D dst) (st.afterD dst r ups d) X Φ q
  | some ord=>match wC ord j W R (z1 ups) rd with
    | true=>next (jo j (z1 ups) W) (jo j rd R) (YM D dst) (st.after dst r ups) (X+d) Φ q
    | false=>.bad 1215
def zcz {α:Type} (dr:Option (List Nat)) (X:Nat) (it:AItem) (j:Nat) (W R:List (Nat×Nat)) (D:List Nat) (st:St) (Φ:zI) (p:Zac α) (next:List (Nat×Nat)→List (Nat×Nat)→List Nat→St→Nat→zI→Zac α→Tree):Tree:=match p.used j with
  | Option.none=>match opX C it.op [] D (stX dr it.op X st) with
    | some (r,ups,rd,_,[],d)=>zcy dr X it.dst j W R D st r ups rd d next Φ p
    | _=>.bad 1209
  | some (key,q)=>match za Φ key with
    | Option.none=>.bad 1211
    | some (o,ps)=>match opX C it.op o D (stX dr it.op X st) with
      | some (r,ups,rd,_,ps',d)=>.eq (List Prop) ps' ps (zcy dr X it.dst j W R D st r ups rd d next Φ q)
      | Option.none=>.bad 1216
def zfx {α:Type} (gd:Option (Nat×Bool)) (j:Nat) (D:List Nat) (st:St) (Φ:zI) (p:Zac α) (next:Bool→List Nat→St→zI→Zac α→Tree):Tree:=match Wb gd [] D st with
  | some (b,_,[],D',st')=>next b D' st' Φ p
  | some (_,_,_::_,_,_)=>.bad 1221
  | Option.none=>match p.used j with
    | Option.none=>.bad 1223
    | some (key,q)=>match za Φ key with
      | Option.none=>.bad 1225
      | some (o,ps)=>match Wb gd o D st with
        | some (b,_,ps',D',st')=>.eq (List Prop) ps' ps (next b D' st' Φ q)
        | Option.none=>.bad 1228
noncomputable def zfy {α:Type} (Yt:YT) (dr:Option (List Nat)) (X:Nat) (it:AItem) (j:Nat) (W R:List (Nat×Nat)) (D:List Nat) (st:St) (Φ:zI) (p:Zac α) (next:List (Nat×Nat)→List (Nat×Nat)→List Nat→St→Nat→zI→Zac α→Tree):Tree:=match Vk it.op st with
  | Option.none=>zcz C dr X it j W R D st Φ p next
  | some (l,id,args)=>match dr with
    | Option.none=>Yt l id args st.heap st.next α Φ p fun r heap nx Φ p=>next W R (YM D it.dst) (St.put {env:=st.env,heap:=heap,next:=nx+1} it.dst r) X Φ p
    | some _=>.bad 1234
noncomputable def Qd {α:Type} (Yt:YT) (dr:Option (List Nat)):List AItem→Nat→Nat→List (Nat×Nat)→List (Nat×Nat)→List Nat→St→zI→Zac α→(St→zI→Zac α→Tree)→Tree
  | [],_,X,_,_,_,st,Φ,p,k=>k (match dr with
    | Option.none=>st
    | some _=>⟨st.env,st.heap,X⟩) Φ p
  | it::rest,j,X,W,R,D,st,Φ,p,k=>settle p Φ fun Φ p=>zfx it.guard j D st Φ p fun b D st Φ p=>match b with
    | false=>Qd Yt dr rest (j+1) X W R (YM D it.dst) (st.after it.dst .undef []) Φ p k
    | true=>settle p Φ fun Φ p=>zfy C Yt dr X it j W R D st Φ p fun W R D st X Φ p=>Qd Yt dr rest (j+1) X W R D st Φ p k
end
section
variable {C:Ctx}
theorem zbq {α:Type} {gd:Option (Nat×Bool)} {j:Nat} {D:List Nat} {st:St} {Φ:zI} {p:Zac α} {next:Bool→List Nat→St→zI→Zac α→Tree} {r:α} (hΦ:FactsOk Φ) (hr:p.run=some r) (h:(zfx gd j D st Φ p next).Ok) :
    ∃ b D' q,zT st.env gd=some b∧q.run=some r∧(next b D' st Φ q).Ok:=by
  unfold zfx at h
  split at h
  · rename_i b _ D' st' hg
    obtain ⟨rfl,h1⟩:=Xc hg .nil
    exact ⟨b,D',p,h1,hr,h⟩
  · exact h.elim
  · split at h
    · exact h.elim
    · rename_i key q hu
      split at h
      · exact h.elim
      · rename_i o ps hk
        split at h
        · rename_i b _ ps' D' st' hg
          obtain ⟨h1,h2⟩:=h
          subst h1
          obtain ⟨rfl,h3⟩:=Xc hg (hΦ _ _ hk)
          exact ⟨b,D',q,h3,(Xq hu).trans hr,h2⟩
        · exact h.elim
theorem KR {α:Type} {dr:Option (List Nat)} {X:Nat} {it:AItem} {j:Nat} {W R:List (Nat×Nat)} {D:List Nat} {st:St} {Φ:zI} {p:Zac α} {next:List (Nat×Nat)→List (Nat×Nat)→List Nat→St→Nat→zI→Zac α→Tree} {r:α} (hΦ:FactsOk Φ) (hr:p.run=some r) (h:(zcz C dr X it j W R D st Φ p next).Ok) :
    ∃ o x ups rd o' ps d q,opX C it.op o D (stX dr it.op X st)=some (x,ups,rd,o',ps,d)∧AllP ps∧q.run=some r∧(zcy dr X it.dst j W R D st x ups rd d next Φ q).Ok:=by
  unfold zcz at h
  split at h
  · split at h
    · rename_i x ups rd o' d hop
      exact ⟨[],x,ups,rd,o',[],d,p,hop,.nil,hr,h⟩
    · exact h.elim
  · rename_i key q hu
    split at h
    · exact h.elim
    · rename_i o ps hk
      split at h
      · rename_i x ups rd o' ps' d hop
        obtain ⟨h1,h2⟩:=h
        subst h1
        exact ⟨o,x,ups,rd,o',ps',d,q,hop,hΦ _ _ hk,(Xq hu).trans hr,h2⟩
      · exact h.elim
theorem Qe {C:CtxY} {Yt:YT} (hY:zcx C Yt) {α:Type} {r:α} {K:St→Prop} {k:St→zI→Zac α→Tree} (hK:∀ st Φ p,FactsOk Φ→p.run=some r→(k st Φ p).Ok→K st):∀ (items:List AItem) (j X:Nat) (W R:List (Nat×Nat)) (D:List Nat) (st:St) (Φ:zI) (p:Zac α),
    FactsOk Φ→p.run=some r→(Qd C Yt Option.none items j X W R D st Φ p k).Ok→evl C items K st
  | [],j,X,W,R,D,st,Φ,p,hΦ,hr,h=>hK st Φ p hΦ hr h
  | it::rest,j,X,W,R,D,st,Φ,p,hΦ,hr,h=>by
    simp only [Qd] at h
    obtain ⟨Φ1,p1,hΦ1,hr1,h1⟩:=qV p hΦ h hr
    obtain ⟨b,D2,p2,hg,hr2,h2⟩:=zbq hΦ1 hr1 h1
    refine zhd hg (fun hb => ?_) (fun hb => ?_)
    · subst hb
      obtain ⟨Φ3,p3,hΦ3,hr3,h3⟩:=qV p2 hΦ1 h2 hr2
      unfold zfy at h3
      split at h3
      · obtain ⟨o,x,ups,rd,o',ps,d,q,e1,e2,e4,e5⟩:=KR hΦ3 hr3 h3
        exact ziK e1 e2 (Qe hY hK rest _ _ _ _ _ _ _ _ hΦ3 e4 e5)
      · rename_i l id args hyo
        obtain ⟨f,ags,hop,hf,rfl⟩:=KQ hyo
        rw [hop]
        simp only [evOp,hf,X6]
        exact hY _ _ _ _ _ _ _ _ _ _ _ hΦ3 hr3 h3 (fun v h n Φ' p' a1 a2 a3=>Qe hY hK rest _ _ _ _ _ _ _ _ a1 a2 a3)
    · subst hb
      exact Qe hY hK rest _ _ _ _ _ _ _ _ hΦ1 hr2 h2
theorem zhf {op:AOp} {orc o':List Orc} {D:List Nat} {st:St} {X:Nat} {r:AV} {ups:List (Nat×Zah)} {rd:List Nat} {ps:List Prop} {d:Nat} {ord:List Nat} {dst:Option Nat} {gd:Option (Nat×Bool)} (hg:zT st.env gd=some true) (h:opX C op orc D (stX (some ord) op X st)=some (r,ups,rd,o',ps,d)) (hp:AllP ps) :
    EvD C ⟨dst,op,gd⟩ st ⟨dst,r,ups,rd,List.range' X d⟩:=by
  unfold stX at h
  simp only at h
  split at h
  · rename_i hc
    cases op<;>first | (cases hc;done) | skip
    rename_i f args
    simp only [EvD,hg]
    simp only [opX] at h
    unfold zcr at h
    split at h
    · rename_i f' first caps hf
      have hf':zd st.env f=.func f' first caps:=hf
      simp only [hf']
      split at h
      · split at h
        · rename_i ivs hiv
          split at h
          · rename_i hm;cases h;exact LCall.pure (d:=5) hp.one hm hiv
          · cases h
        · cases h
      · split at h
        · rename_i objs ho
          split at h
          · rename_i hm
            cases h
            cases hp with
            | cons h1 h2=>exact LCall.snapS (d:=5) h1 ho (VZ ho) h2.one hm
          · cases h
        · cases h
      · split at h
        · rename_i objs ho
          split at h
          · rename_i hm
            cases h
            exact LCall.det hp.one hm ho
          · cases h
        · cases h
      · cases h
    · cases h
  · rename_i hc
    obtain ⟨e,hr,rfl⟩:=Kx hc h hp
    cases op<;>first | (cases hc;done) | (simp only [EvD,hg];exact ⟨e,hr,rfl⟩)
theorem KS {Yt:YT} {α:Type} {r:α} {K:St→Prop} {ord:List Nat} {k:St→zI→Zac α→Tree} (hK:∀ st Φ p,FactsOk Φ→p.run=some r→(k st Φ p).Ok→K st):∀ (items:List AItem) (X:Nat) (W R:List (Nat×Nat)) (D:List Nat) (st:St) (Φ:zI) (p:Zac α) (pre:List Rec),
    FactsOk Φ→p.run=some r→(Qd C Yt (some ord) items pre.length X W R D st Φ p k).Ok →
    (∀ (i:Nat) (ri:Rec) (x:Nat),pre[i]?=some ri→x∈z1 ri.ups→(i,x)∈W)→(∀ (i:Nat) (ri:Rec) (x:Nat),pre[i]?=some ri→x∈ri.rd→(i,x)∈R) →
    (∀ (i j:Nat) (ri rj:Rec),pre[i]?=some ri→pre[j]?=some rj→i < j→jx ri rj=true→bef ord i j=true) →
    ∃ recs st' M,Zf C items st recs st'∧(∀ (i j:Nat) (ri rj:Rec),(pre++recs)[i]?=some ri→(pre++recs)[j]?=some rj→i < j→jx ri rj=true→bef ord i j=true)∧X≤M ∧
      (∀ rc∈recs,∀ i∈rc.ex,X≤i∧i < M)∧(∀ (k l:Nat) (rk rl:Rec) (i:Nat),recs[k]?=some rk→recs[l]?=some rl→i∈rk.ex→i∈rl.ex→k=l)∧K ⟨st'.env,st'.heap,M⟩
  | [],X,W,R,D,st,Φ,p,pre,hΦ,hr,h,hW,hR,hp=>⟨[],st,X,rfl,by simpa using hp,Nat.le_refl _,by simp,by simp,hK _ Φ p hΦ hr h⟩
  | it::rest,X,W,R,D,st,Φ,p,pre,hΦ,hr,h,hW,hR,hp=>by
    simp only [Qd] at h
    obtain ⟨Φ1,p1,hΦ1,hr1,h1⟩:=qV p hΦ h hr
    obtain ⟨b,D2,p2,hg,hr2,h2⟩:=zbq hΦ1 hr1 h1
    obtain ⟨rc,d,W',R',D',q,Φ',hdst,hev,hex,hok,hW',hR',hΦ',hq,hgo⟩:∃ (rc:Rec) (d:Nat) (W' R':List (Nat×Nat)) (D':List Nat) (q:Zac α) (Φ':zI),rc.dst=it.dst∧EvD C it st rc∧rc.ex=List.range' X d∧wC ord pre.length W R (z1 rc.ups) rc.rd=true ∧
        (∀ p∈jo pre.length (z1 rc.ups) W,p∈W')∧(∀ p∈jo pre.length rc.rd R,p∈R')∧FactsOk Φ'∧q.run=some r ∧
        (Qd C Yt (some ord) rest (pre.length+1) (X+d) W' R' D' (st.after it.dst rc.r rc.ups) Φ' q k).Ok:=by
      cases b with
      | false=>
        refine ⟨⟨it.dst,.undef,[],[],[]⟩,0,W,R,_,p2,Φ1,rfl,?_,rfl,zfo _ _ _ _,fun p hp=>by simpa [jo,z1] using hp,fun p hp=>by simpa [jo] using hp,hΦ1,hr2,h2⟩
        simp only [EvD,hg,and_self]
      | true=>
        obtain ⟨Φ3,p3,hΦ3,hr3,h3⟩:=qV p2 hΦ1 h2 hr2
        unfold zfy at h3
        split at h3
        case h_2=>exact h3.elim
        obtain ⟨o,x,ups,rd,o',ps,d,q,e1,e2,e4,e5⟩:=KR hΦ3 hr3 h3
        unfold zcy at e5
        simp only at e5
        split at e5
        · rename_i hok
          exact ⟨⟨it.dst,x,ups,rd,List.range' X d⟩,d,_,_,_,q,Φ3,rfl,zhf hg e1 e2,rfl,hok,fun p hp=>hp,fun p hp=>hp,hΦ3,e4,e5⟩
        · exact e5.elim
    have hlen:(pre++[rc]).length=pre.length+1:=by simp
    have split:∀ (i:Nat) (ri:Rec),(pre++[rc])[i]?=some ri→pre[i]?=some ri∨(i=pre.length∧ri=rc):=fun i ri hi=>by
      rw [List.getElem?_append] at hi
      split at hi
      · exact .inl hi
      · rename_i hge
        rcases Nat.eq_or_lt_of_le (Nat.le_of_not_lt hge) with e | e
        · rw [←e] at hi;simp at hi;exact .inr ⟨e.symm,hi.symm⟩
        · have:i - pre.length≠0:=by omega
          obtain ⟨m,hm⟩:=Nat.exists_eq_succ_of_ne_zero this
          rw [hm] at hi;simp at hi
    obtain ⟨recs,st',M,h4,h5,h6,h7,h8,h9⟩:=KS hK rest (X+d) W' R' D' (st.after it.dst rc.r rc.ups) Φ' q (pre++[rc]) hΦ' hq (by rw [hlen];exact hgo)
      (fun i ri x hi hx=>by
        rcases split i ri hi with hi | ⟨rfl,rfl⟩
        · exact hW' _ (List.mem_append_right _ (hW i ri x hi hx))
        · exact hW' _ (List.mem_append_left _ (List.mem_map.2 ⟨x,hx,rfl⟩)))
      (fun i ri x hi hx=>by
        rcases split i ri hi with hi | ⟨rfl,rfl⟩
        · exact hR' _ (List.mem_append_right _ (hR i ri x hi hx))
        · exact hR' _ (List.mem_append_left _ (List.mem_map.2 ⟨x,hx,rfl⟩)))
      (fun i j ri rj hi hj hlt hc=>by
        rcases split j rj hj with hj | ⟨rfl,rfl⟩
        · rcases split i ri hi with hi | ⟨rfl,rfl⟩
          · exact hp i j ri rj hi hj hlt hc
          · have:=(List.getElem?_eq_some_iff.1 hj).1;omega
        · rcases split i ri hi with hi | ⟨rfl,rfl⟩
          · simp only [wC,Bool.and_eq_true,List.all_eq_true] at hok
            simp only [jx,Bool.or_eq_true,List.any_eq_true] at hc
            rcases hc with ⟨x,hx,hc⟩ | ⟨x,hx,hc⟩
            · have:=hok.1 (i,x) (hW i ri x hi hx)
              simp only [Bool.or_eq_true,Bool.not_eq_true',Bool.or_eq_false_iff] at this
              rcases this with ⟨h7,h8⟩ | h7
              · simp only [h7,h8] at hc;simp at hc
              · exact h7
            · have:=hok.2 x hx (i,x) (hR i ri x hi (by simpa using hc))
              simpa using this
          · omega)
    have hexm:∀ i,i∈rc.ex→X≤i∧i < X+d:=fun i hi=>by rw [hex,List.mem_range'_1] at hi;omega
    refine ⟨rc::recs,st',M,⟨hdst,hev,h4⟩,?_,by omega,fun r' hr' i hi => ?_,fun k l rk rl i hk hl hik hil => ?_,h9⟩
    · simpa using h5
    · rcases List.mem_cons.1 hr' with rfl | hr'
      · have:=hexm i hi;omega
      · have:=h7 r' hr' i hi;omega
    · cases k with
      | zero=>
        simp at hk
        subst hk
        cases l with
        | zero=>rfl
        | succ l=>
          have h10:=h7 rl (List.mem_of_getElem? (by simpa using hl)) i hil
          have:=hexm i hik
          omega
      | succ k=>
        cases l with
        | zero=>
          simp at hl
          subst hl
          have h10:=h7 rk (List.mem_of_getElem? (by simpa using hk)) i hik
          have:=hexm i hil
          omega
        | succ l=>rw [h8 k l rk rl i (by simpa using hk) (by simpa using hl) hik hil]
theorem zd2 {C:CtxY} {nt:Fr} {Yt:YT} {α:Type} {r:α} {K:Exit→St→Prop} {ord:List Nat} {ks:Option (List Nat)} {k:St→zI→Zac α→Tree} (hK:∀ st Φ p,FactsOk Φ→p.run=some r→(k st Φ p).Ok→K .normal (st.keep ks)) {items:List AItem} {st:St} {Φ:zI} {p:Zac α}
    (hΦ:FactsOk Φ) (hr:p.run=some r) (h:(Qd C Yt (some ord) items 0 (st.next+items.length) [] [] [] st Φ p k).Ok):awp C nt (.region true ord items ks) K st:=by
  obtain ⟨recs,st',M,h1,h2,h3,h4,h5,h6⟩:=KS (C:=C) (K:=fun st=>K .normal (st.keep ks)) hK items (st.next+items.length) [] [] [] st Φ p [] hΦ hr h (by simp) (by simp) (by simp)
  have hl:=Z3 h1
  obtain ⟨_,_,hn⟩:=Xn items st recs st' 0 (fun _=>true) h1 (fun _ _=>rfl)
  exact Xo h1 (Xp (by simpa using h2)) ⟨fun k rc i hk hi=>by rw [hl];exact (h4 rc (List.mem_of_getElem? hk) i hi).1,h5⟩ M (by omega) (fun rc hrc i hi=>(h4 rc hrc i hi).2) h6
end
def Wk (m:Nat) (env:List (Nat×AV)) (t:Tree):List (Nat×AV)→Tree
  | []=>t
  | (k,b)::l=>match za env k with
    | some a=>match zO m b with
      | true=>.eq AV a b (Wk m env t l)
      | false=>.bad 1340
    | Option.none=>.bad 1341
def YR (m:Nat) (heap:List (Nat×Zah)) (t:Tree):List (Nat×Zah)→Tree
  | []=>t
  | (k,b)::l=>match za heap k with
    | some a=>match Vi m b&&decide (k < m) with
      | true=>.eq Zah a b (YR m heap t l)
      | false=>.bad 1347
    | Option.none=>.bad 1348
def YS (heap:List (Nat×Zah)) (t:Tree):List (Nat×Zah)→Tree
  | []=>t
  | (k,b)::l=>match za heap k with
    | some a=>.eq Zah a b (YS heap t l)
    | Option.none=>.bad 1353
theorem Xr {m:Nat} {env:List (Nat×AV)} {t:Tree}:∀ {l:List (Nat×AV)},(Wk m env t l).Ok→t.Ok∧∀ p∈l,za env p.1=some p.2∧zO m p.2=true
  | [],h=>⟨h,fun p hp=>by cases hp⟩
  | (k,b)::l,h=>by
    simp only [Wk] at h
    split at h
    · rename_i a ha
      split at h
      · rename_i hb
        obtain ⟨rfl,h2⟩:=h
        obtain ⟨h3,h4⟩:=Xr h2
        refine ⟨h3,fun p hp => ?_⟩
        rcases List.mem_cons.1 hp with rfl | hp
        · exact ⟨ha,hb⟩
        · exact h4 p hp
      · exact h.elim
    · exact h.elim
theorem KU {m:Nat} {heap:List (Nat×Zah)} {t:Tree}:∀ {l:List (Nat×Zah)},(YR m heap t l).Ok→t.Ok∧∀ p∈l,za heap p.1=some p.2∧p.1 < m∧zK m p.2
  | [],h=>⟨h,fun p hp=>by cases hp⟩
  | (k,b)::l,h=>by
    simp only [YR] at h
    split at h
    · rename_i a ha
      split at h
      · rename_i hb
        simp only [Bool.and_eq_true,decide_eq_true_eq] at hb
        obtain ⟨rfl,h2⟩:=h
        obtain ⟨h3,h4⟩:=KU h2
        refine ⟨h3,fun p hp => ?_⟩
        rcases List.mem_cons.1 hp with rfl | hp
        · exact ⟨ha,hb.2,yB hb.1⟩
        · exact h4 p hp
      · exact h.elim
    · exact h.elim
theorem KW {heap:List (Nat×Zah)} {t:Tree}:∀ {l:List (Nat×Zah)},(YS heap t l).Ok→t.Ok∧∀ p∈l,za heap p.1=some p.2
  | [],h=>⟨h,fun p hp=>by cases hp⟩
  | (k,b)::l,h=>by
    simp only [YS] at h
    split at h
    · rename_i a ha
      obtain ⟨rfl,h2⟩:=h
      obtain ⟨h3,h4⟩:=KW h2
      refine ⟨h3,fun p hp => ?_⟩
      rcases List.mem_cons.1 hp with rfl | hp
      · exact ha
      · exact h4 p hp
    · exact h.elim
def Qf (nx:Nat) (ov e0:List (Nat×AV)) (oh h0:List (Nat×Zah)) (st:St) (t:Tree):Tree:=match Nat.ble nx st.next with
  | true=>Wk nx st.env (Wk nx st.env (YS st.heap (YR nx st.heap t h0) oh) e0) ov
  | false=>.bad 1405
def Wl (nx:Nat) (heap:List (Nat×Zah)) (t:Tree):Option (List (List Int))→Tree
  | Option.none=>t
  | some Ls=>match Nat.ble 2000000 nx&&vl heap with
    | true=>.eq (List (Nat×Zah)) (kN heap) (xq Ls) t
    | false=>.bad 1406
theorem zfz {nx:Nat} {heap:List (Nat×Zah)} {t:Tree}:∀ {o:Option (List (List Int))},(Wl nx heap t o).Ok→t.Ok∧∀ p∈Qc o,za heap p.1=some p.2∧p.1 < nx∧zK nx p.2
  | Option.none,h=>⟨h,fun p hp=>by cases hp⟩
  | some Ls,h=>by
    unfold Wl at h
    simp only at h
    split at h
    · rename_i e
      simp only [Bool.and_eq_true] at e
      obtain ⟨h1,h2⟩:=h
      refine ⟨h2,fun p hp => ?_⟩
      obtain ⟨a1,a2,a3⟩:=zd0 h1 e.2 p hp
      exact ⟨a1,Nat.lt_of_lt_of_le a2 (Nat.le_of_ble_eq_true e.1),a3 nx⟩
    · exact h.elim
theorem V7 {nx:Nat} {ov e0:List (Nat×AV)} {oh h0:List (Nat×Zah)} {st:St} {t:Tree} {o:Option (List (List Int))} (hb:Belows nx oh) (h:(Qf nx ov e0 oh h0 st (Wl nx st.heap t o)).Ok):t.Ok∧nx≤st.next∧(∀ p∈ov++e0,za st.env p.1=some p.2∧zO nx p.2=true)∧∀ p∈oh++(h0++Qc o),za st.heap p.1=some p.2∧p.1 < nx∧zK nx p.2:=by
  unfold Qf at h
  split at h
  · rename_i hn
    obtain ⟨h1,a1⟩:=Xr h
    obtain ⟨h2,a2⟩:=Xr h1
    obtain ⟨h3,a3⟩:=KW h2
    obtain ⟨h4,a4⟩:=KU h3
    obtain ⟨h5,a5⟩:=zfz h4
    refine ⟨h5,Nat.le_of_ble_eq_true hn,fun p hp => ?_,fun p hp => ?_⟩
    · rcases List.mem_append.1 hp with hp | hp
      · exact a1 p hp
      · exact a2 p hp
    · rcases List.mem_append.1 hp with hp | hp
      · exact ⟨a3 p hp,hb.all p hp⟩
      · rcases List.mem_append.1 hp with hp | hp
        · exact a4 p hp
        · exact a5 p hp
  · exact h.elim
theorem Xs {nx:Nat} {ov e0:List (Nat×AV)} {oh h0:List (Nat×Zah)} {st:St} {t:Tree} {o:Option (List (List Int))} (hb:Belows nx oh) (h:(Qf nx ov e0 oh h0 st (Wl nx st.heap t o)).Ok):t.Ok∧Weak st ⟨ov++e0,oh++(h0++Qc o),nx⟩:=by
  obtain ⟨h1,h2,h3,h4⟩:=V7 hb h
  exact ⟨h1,Va h2 h3 h4⟩
def Spec.weak {β:Type} (sp:Spec β) (st0 st:St) (b:β) (t:Tree):Tree:=Qf sp.nx (sp.ov b) (qB sp.ks st0.env) (sp.oh b) (Wi sp.hs st0.heap) st (Wl sp.nx st.heap t (sp.ns b))
theorem Spec.weak_ok {β:Type} {sp:Spec β} {st0 st:St} {b:β} {t:Tree} (h:(sp.weak st0 st b t).Ok):t.Ok∧Weak st (sp.st st0 b):=Xs (sp.bel b) h
def Spec.weaki {β:Type} (sp:Spec β) (st0 st:St) (idx:Nat) (v:AV) (b:β) (t:Tree):Tree:=match za st.env idx with
  | some a=>.eq AV a v (sp.weak st0 st b t)
  | Option.none=>.bad 1430
theorem Spec.weaki_ok {β:Type} {sp:Spec β} {st0 st:St} {idx:Nat} {n:Int} {v:AV} {b:β} {t:Tree} (hv:v=vI n) (h:(sp.weaki st0 st idx v b t).Ok):t.Ok∧Weak st (sp.sti st0 idx n b):=by
  unfold Spec.weaki at h
  split at h
  · rename_i a ha
    obtain ⟨rfl,h1⟩:=h
    obtain ⟨h4,hn,a1,a3⟩:=V7 (sp.bel b) h1
    refine ⟨h4,Va hn (fun p hp => ?_) a3⟩
    rcases List.mem_cons.1 hp with rfl | hp
    · exact ⟨by rw [ha,hv],rfl⟩
    · exact a1 p hp
  · exact h.elim
end
end Go.Proofs.YtmoedieenlaegaaGreatDoor
