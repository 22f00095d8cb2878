/-
  Slices that are nil or not; renaming; copies of slices (slices.Clone).
  A slice with an owner that is written no more may be taken for data.
  Loops whose states have names that are found on the way; slices of slices that grow.
  A slice with an owner that will only grow may be taken for one that grows.
  The abstract machine: ranges over functions. The iterator's code is run where the loop stands; its calls of yield run the loop's body.
  An object whose cells are slices that grow: the tips have names of a range of their own, behind a mark in the list of objects.
  Plans: what a function computes, told so that the kernel can hold it against the function's code. A plan that the kernel has checked is a walk.
  Plans: code against a plan, and that a plan that is checked is a walk.
-/
import Derived.Test.YtjkljacdbljkpaaGreatDoorCD04
namespace Go.Proofs.YtjkljacdbljkpaaGreatDoor
open Go.RowKit
set_option linter.unusedSimpArgs false
set_option linter.unusedVariables false
section
section
variable {C:Ctx} {g g':Gh} {h h':Nat→Option AObj} {N N':Nat→Prop} {w w':World} {id:Nat}
theorem Yy {st:St} {t:Nat} {x y:AV} {ups:List (Nat×AObj)} (ht:za st.env t=some x)
    (hg:∀ (C:Ctx) (g:Gh) (w:World) (v:Value),RH C g (za st.heap) (· < st.next) w→RV C g (za st.heap) (· < st.next) w x v→Good C g (za st.heap) (· < st.next) w st.next y ups v w) :
    Weak st ⟨zl st.env t y,zG ups st.heap,st.next+1⟩:=by
  intro C nt g a w R
  obtain ⟨g',E,H,hv⟩:=hg C g w _ R.heap (R.env.slot t x ht)
  rw [xm] at E H hv
  rw [←jt] at E H hv
  refine ⟨g',⟨⟨R.env.size,R.env.defers.evo E,fun t' z hz => ?_⟩,H⟩,fun g0 st0 w0 hm E0=>E0.trans E⟩
  rw [zm] at hz
  split at hz
  · rename_i e;subst e;cases hz;exact hv
  · exact (R.env.slot t' z hz).mono E
theorem Yz {st:St} {t:Nat} (sz:Nat) (ht:za st.env t=some .nil):Weak st ⟨zl st.env t (.mslice st.next 0 0),zG [(st.next,.rows sz [])] st.heap,st.next+1⟩:=
  Yy ht fun C g w v R hv=>by rw [xh hv];exact Yl R (Nat.lt_irrefl _) sz
theorem YA {st:St} {t i len sz:Nat} {rows:List (List AV)} (ht:za st.env t=some (.mslice i 0 len)) (ho:za st.heap i=some (.rows sz rows)) (hl:len=rows.length) :
    Weak st ⟨zl st.env t (.mslice st.next 0 len),zG [(st.next,.rows sz rows),(i,.dead)] st.heap,st.next+1⟩:=
  Yy ht fun C g w v R hv=>KQ R (Nat.lt_irrefl _) hv ho hl
theorem zep (st:St) (n:Nat) (hn:st.next≤n):Weak st ⟨st.env,st.heap,n⟩:=by
  intro C nt g a w R
  have E:Evo g (za st.heap) (· < st.next) w g (za st.heap) (· < n) w:={Evo.refl g (za st.heap) (· < st.next) w with
    next:=fun i hi=>Nat.lt_of_lt_of_le hi hn}
  refine ⟨g,⟨⟨R.env.size,R.env.defers,fun t x hx=>(R.env.slot t x hx).mono E⟩,⟨R.heap.inj,fun i b hb=>⟨(R.heap.lt i b hb).1,Nat.lt_of_lt_of_le (R.heap.lt i b hb).2 hn⟩,fun i o ho=>Nat.lt_of_lt_of_le (R.heap.key i o ho) hn,fun i b o hb ho=>(R.heap.obj i b o hb ho).keep E rfl rfl,R.heap.tip0,R.heap.zlt,R.heap.fix.evo E⟩⟩,fun g0 st0 w0 hm E0=>E0.trans E⟩
theorem Weak.trans {s1 s2 s3:St} (h1:Weak s1 s2) (h2:Weak s2 s3) (hn:s3.next≤s2.next∨True):∀ (C:Ctx) (nt:Fr) (g:Gh) (a:Act) (w:World),Rel C nt g s1 a w→∃ g',Rel C nt g' s3 a w∧∀ g0 st0 w0,st0.next≤s2.next→st0.next≤s3.next→EvoS g0 st0 w0 g s1 w→EvoS g0 st0 w0 g' s3 w:=by
  intro C nt g a w R
  obtain ⟨g1,R1,e1⟩:=h1 C nt g a w R
  obtain ⟨g2,R2,e2⟩:=h2 C nt g1 a w R1
  exact ⟨g2,R2,fun g0 st0 w0 a1 a2 E=>e2 g0 st0 w0 a2 (e1 g0 st0 w0 a1 E)⟩
theorem ACall.nilsplit {f:Nat} {rest:List AV} {heap:List (Nat×AObj)} {next:Nat} {K:AV→List (Nat×AObj)→Nat→Prop} (h1:ACall C f (.nil::rest) heap next K) (h2:ACall C f (.nnil::rest) heap next K):ACall C f (.imm (.slice [])::rest) heap next K:=by
  refine ⟨h1.1,fun g w vs R hv => ?_⟩
  obtain ⟨hl,hv⟩:=hv
  cases vs with
  | nil=>simp at hl
  | cons v vs=>
    have hv0:=hv 0 _ v rfl rfl
    have key:∀ x,RV C g (za heap) (· < next) w x v→RVs C g (za heap) (· < next) w (x::rest) (v::vs):=fun x hx=>⟨by simpa using hl,fun j y u hj hu=>by
      cases j with
      | zero=>simp at hj hu;subst hj hu;exact hx
      | succ j=>exact hv (j+1) y u hj hu⟩
    cases hv0 with
    | imm _ _ hr=>
      cases hr with
      | nil=>exact h1.2 g w _ R (key _ .nil)
      | empty a cap=>exact h2.2 g w _ R (key _ (.nnil a cap))
      | slice _ b off cap sz cv hcap=>exact h2.2 g w _ R (key _ (.nnil ⟨b,off,none⟩ cap))
def jv (sz by_:Nat) (zero:List AV):AFun:=⟨8,[.tmp 2],(
 .seq (.region false [] [⟨some 2,.mov (.c (.nil)),none⟩] (some [0])) (
  .seq (.seq (.region false [] [⟨some 3,.mov (.t 0),none⟩,⟨some 4,.eqnil false (.t 3) (.c (.nil)),none⟩] (some [0,4])) (
    .cond (.t 4) (.seq (.region false [] [⟨some 2,.mov (.c (.nil)),none⟩] (some [2])) (.ret)) (.skip))) (
   .seq (.region false [] [⟨some 5,.bslice sz zero 0 [],none⟩,⟨some 6,.mov (.t 0),none⟩,⟨some 7,.app sz by_ (.t 5) (.t 6),none⟩,⟨some 2,.mov (.t 7),none⟩] (some [2])) (.ret))))⟩
def zu {α:Type} (by_:Nat) (l:List α):Option (List α):=if l.length*by_≤140737488355328 then some l else none
theorem clone_ok {α:Type} {n sz by_:Nat} {zero:List AV} (hF:qf C n=some (jv sz by_ zero).erase) (f:α→List IV) (hf:∀ x,(f x).length=sz) {l e:List α} (h:zu by_ l=some e) :
    DOk C n [.imm (.slice (List.map f l))] [] 0 (.mslice 7 0 e.length) [(7,.rows sz (zb f e))] 8:=by
  unfold zu at h
  split at h
  case isFalse=>cases h
  rename_i hb
  cases h
  refine ⟨?_,by simp,by simp [zU,xr,zK],?_,by simp [zU,xr,zK],by simp,by simp⟩
  · unfold zfJ
    cases l with
    | nil=>
      refine ACall.nilsplit ?_ ?_
      · have h1:ACall C n [.nil] [] 0 fun r hp nx=>r=.nil∧hp=[]∧nx=4:=by
          refine ACall.run hF (by simp [jv]) (fun B => ?_)
          simp [jv]
        refine (h1.weak (K':=fun r hp nx=>r=.nil∧hp=[]∧nx=7) ?_).weak ?_
        · rintro r hp nx ⟨rfl,rfl,rfl⟩
          exact ⟨_,_,_,⟨rfl,rfl,rfl⟩,by omega,zep _ 7 (by simp)⟩
        · rintro r hp nx ⟨rfl,rfl,rfl⟩
          exact ⟨_,_,_,⟨rfl,rfl,rfl⟩,by omega,Yz (t:=0) sz rfl⟩
      · have h1:ACall C n [.nnil] [] 0 fun r hp nx=>r=.mslice 5 0 0∧hp=[(3,.dead),(5,.rows sz [])]∧nx=7:=by
          refine ACall.run hF (by simp [jv]) (fun B => ?_)
          simp [jv,QX]
        refine (h1.weak (K':=fun r hp nx=>r=.mslice 7 0 0∧hp=[(3,.dead),(5,.dead),(7,.rows sz [])]∧nx=8) ?_).weak ?_
        · rintro r hp nx ⟨rfl,rfl,rfl⟩
          exact ⟨_,_,_,⟨rfl,rfl,rfl⟩,by omega,YA (t:=0) (i:=5) (len:=0) (sz:=sz) (rows:=[]) rfl rfl rfl⟩
        · rintro r hp nx ⟨rfl,rfl,rfl⟩
          exact ⟨_,_,_,⟨rfl,rfl,rfl⟩,by omega,zap [0] [(7,true)] 8 [] [] AllP.nil (by kernel_rfl)⟩
    | cons x xs=>
      have h1:ACall C n [.imm (.slice (List.map f (x::xs)))] [] 0 fun r hp nx=>r=.mslice 5 0 (x::xs).length∧hp=[(3,.dead),(5,.rows sz (zb f (x::xs)))]∧nx=7:=by
        refine ACall.run hF (by simp [jv]) (fun B => ?_)
        simp [jv,QX,hf]
        have hb':(xs.length+1)*by_≤140737488355328:=by simpa using hb
        rw [if_pos hb']
        simp [zb,zn,Function.comp_def]
      refine (h1.weak (K':=fun r hp nx=>r=.mslice 7 0 (x::xs).length∧hp=[(3,.dead),(5,.dead),(7,.rows sz (zb f (x::xs)))]∧nx=8) ?_).weak ?_
      · rintro r hp nx ⟨rfl,rfl,rfl⟩
        exact ⟨_,_,_,⟨rfl,rfl,rfl⟩,by omega,YA (t:=0) (i:=5) (len:=(x::xs).length) (sz:=sz) (rows:=zb f (x::xs)) rfl rfl (by simp [zb])⟩
      · rintro r hp nx ⟨rfl,rfl,rfl⟩
        exact ⟨_,_,_,⟨rfl,rfl,rfl⟩,by omega,zap [0] [(7,false)] 8 [] [] (AllP.cons (vV 8 sz f (x::xs)) .nil) (by kernel_rfl)⟩
  · intro p hp
    simp only [List.mem_singleton] at hp
    subst hp
    exact ⟨by omega,vV _ _ _ _⟩
end
end
section
def kd (id:Nat) (rows:List (List IV)):AV→AV
  | .mslice i o n=>if i=id then .imm (.slice rows) else .mslice i o n
  | x=>x
def ke (id off len:Nat):AV→List Prop
  | .mslice i o n=>if i=id then [o=off∧n=len] else []
  | _=>[]
def WL (id off len:Nat):AV→List Prop
  | .agg cs=>cs.flatMap (ke id off len)
  | .tuple cs=>cs.flatMap (ke id off len)
  | x=>ke id off len x
def zaq (id off len:Nat):AObj→List Prop
  | .rows _ rs=>rs.flatMap fun r=>r.flatMap (WL id off len)
  | _=>[]
def VN (id off len:Nat):List (Nat×AV)→List Prop
  | []=>[]
  | (_,x)::r=>WL id off len x++VN id off len r
def XU (id off len:Nat) (ks:List Nat):List (Nat×AObj)→List Prop
  | []=>[]
  | (k,o)::r=>(if ks.contains k then zaq id off len o else [])++XU id off len ks r
theorem AllP.mem {ps:List Prop} (h:AllP ps) {p:Prop} (hp:p∈ps):p:=by
  induction h with
  | nil=>cases hp
  | cons h t ih=>
    rcases List.mem_cons.1 hp with e | e
    · rw [e];exact h
    · exact ih e
theorem AllP.sub {ps qs:List Prop} (h:AllP ps) (hs:∀ p∈qs,p∈ps):AllP qs:=by
  induction qs with
  | nil=>exact .nil
  | cons q qs ih=>exact .cons (h.mem (hs q (by simp))) (ih fun p hp=>hs p (by simp [hp]))
theorem zar {id off len t:Nat} {x:AV}:∀ {env:List (Nat×AV)},za env t=some x→∀ p∈WL id off len x,p∈VN id off len env
  | [],h,p,hp=>by cases h
  | (k,y)::r,h,p,hp=>by
    simp only [za] at h
    simp only [VN,List.mem_append]
    split at h
    · cases h;exact .inl hp
    · exact .inr (zar h p hp)
theorem zas {id off len i:Nat} {ks:List Nat} {o:AObj} (hi:ks.contains i=true):∀ {heap:List (Nat×AObj)},za heap i=some o→∀ p∈zaq id off len o,p∈XU id off len ks heap
  | [],h,p,hp=>by cases h
  | (k,y)::r,h,p,hp=>by
    simp only [za] at h
    simp only [XU,List.mem_append]
    split at h
    · rename_i e;subst e;cases h;rw [if_pos hi];exact .inl hp
    · exact .inr (zas hi h p hp)
def Qq (id:Nat) (rows:List (List IV)):AV→AV
  | .agg cs=>.agg (cs.map (kd id rows))
  | .tuple cs=>.tuple (cs.map (kd id rows))
  | x=>kd id rows x
def xi (id:Nat) (rows:List (List IV)):AObj→AObj
  | .rows sz rs=>.rows sz (rs.map fun r=>r.map (Qq id rows))
  | o=>o
def Qr (id:Nat) (rows:List (List IV)) (ks:List Nat):List (Nat×AObj)→List (Nat×AObj)
  | []=>[]
  | (k,o)::r=>(k,if k=id then .dead else if ks.contains k then xi id rows o else o)::Qr id rows ks r
def VO (id:Nat) (rows:List (List IV)):List (Nat×AV)→List (Nat×AV)
  | []=>[]
  | (k,x)::r=>(k,Qq id rows x)::VO id rows r
theorem WM (id:Nat) (rows:List (List IV)):∀ (env:List (Nat×AV)) (t:Nat),za (VO id rows env) t=(za env t).map (Qq id rows)
  | [],t=>rfl
  | (k,x)::r,t=>by
    simp only [VO,za]
    split
    · rfl
    · exact WM id rows r t
theorem yR (id:Nat) (rows:List (List IV)) (ks:List Nat):∀ (heap:List (Nat×AObj)) (i:Nat),za (Qr id rows ks heap) i=(za heap i).map fun o=>if i=id then .dead else if ks.contains i then xi id rows o else o
  | [],i=>rfl
  | (k,o)::r,i=>by
    simp only [Qr,za]
    split
    · rename_i e;subst e;rfl
    · exact yR id rows ks r i
theorem Xz {st:St} (id sz off len:Nat) (all rows:List (List IV)) (ks:List Nat) (rowsV:List (List AV)) (ho:za st.heap id=some (.rows sz rowsV)) (hrows:all.map (fun r=>r.map AV.imm)=rowsV) (hD:(all.drop off).take len=rows) (hocc:AllP (VN id off len st.env++XU id off len ks st.heap)):Weak st ⟨VO id rows st.env,Qr id rows ks st.heap,st.next⟩:=by
  subst hrows
  intro C nt g a w R
  obtain ⟨RE,R⟩:=R
  let g':Gh:=⟨fun i=>if i=id then none else g.ρ i,fun b=>if g.ρ id=some b then max (g.Z b) (all.length*sz) else g.Z b⟩
  have hr:∀ i b,g'.ρ i=some b→i≠id∧g.ρ i=some b:=fun i b h=>by
    simp only [g'] at h
    split at h
    · cases h
    · exact ⟨‹_›,h⟩
  have hr':∀ i,i≠id→g'.ρ i=g.ρ i:=fun i h=>by simp only [g',if_neg h]
  have hz:∀ b,g.Z b≤g'.Z b:=fun b=>by simp only [g'];split<;>omega
  have hz':∀ b,¬ g.ρ id=some b→g'.Z b=g.Z b:=fun b h=>by simp only [g',if_neg h]
  have hh:∀ i o,za (Qr id rows ks st.heap) i=some o→(i=id∧o=.dead)∨(i≠id∧∃ o0,za st.heap i=some o0∧(o=o0∨(ks.contains i=true∧o=xi id rows o0))):=fun i o h=>by
    rw [yR,Option.map_eq_some_iff] at h
    obtain ⟨o0,h1,h2⟩:=h
    split at h2
    · rename_i e;exact .inl ⟨e,h2.symm⟩
    · rename_i e
      split at h2
      · rename_i hk;exact .inr ⟨e,o0,h1,.inr ⟨hk,h2.symm⟩⟩
      · exact .inr ⟨e,o0,h1,.inl h2.symm⟩
  have E:Evo g (za st.heap) (· < st.next) w g' (za (Qr id rows ks st.heap)) (· < st.next) w:={
    os:=rfl
    tape:=rfl
    output:=rfl
    size:=Nat.le_refl _
    old:=fun b _ hno=>⟨rfl,hz' b fun e=>hno ⟨id,e⟩⟩
    own:=fun b ⟨i,hi⟩=>.inl ⟨i,(hr i b hi).2⟩
    zmono:=hz
    cell:=fun _ _ _=>rfl
    shape:=fun b c e h=>⟨c,h,rfl⟩
    next:=fun _ h=>h
    rho:=fun i b hb o ho' hnd _=>by
      rcases hh i o ho' with ⟨_,h2⟩ | ⟨h1,_⟩
      · exact absurd h2 hnd
      · exact .inl (by rw [hr' i h1];exact hb)
    rho0:=fun i hb _ o ho' hnd=>by
      rcases hh i o ho' with ⟨_,h2⟩ | ⟨h1,_⟩
      · exact absurd h2 hnd
      · exact .inl (by rw [hr' i h1];exact hb)
    rows:=fun i _ s r ho'=>by
      rcases hh i _ ho' with ⟨_,h2⟩ | ⟨_,o0,h2,h3 | ⟨_,h3⟩⟩
      · cases h2
      · subst h3;exact ⟨r,h2,rfl⟩
      · cases o0<;>simp only [xi] at h3<;>cases h3
        exact ⟨_,h2,by simp⟩
    tips:=fun i _ s l ho'=>by
      rcases hh i _ ho' with ⟨_,h2⟩ | ⟨_,o0,h2,h3 | ⟨_,h3⟩⟩
      · cases h2
      · subst h3;exact ⟨l,h2,Nat.le_refl _⟩
      · cases o0<;>simp only [xi] at h3<;>cases h3
        exact ⟨_,h2,Nat.le_refl _⟩
    maps:=fun i _ es ho'=>by
      rcases hh i _ ho' with ⟨_,h2⟩ | ⟨_,o0,h2,h3 | ⟨_,h3⟩⟩
      · cases h2
      · subst h3;exact ⟨es,h2⟩
      · cases o0<;>simp only [xi] at h3<;>cases h3
        exact ⟨_,h2⟩
    lps:=fun i _ ll RR s pe ho'=>by
      rcases hh i _ ho' with ⟨_,h2⟩ | ⟨_,o0,h2,h3 | ⟨_,h3⟩⟩
      · cases h2
      · subst h3;exact ⟨s,pe,h2⟩
      · cases o0<;>simp only [xi] at h3<;>cases h3
        exact ⟨_,_,h2⟩}
  have leaf:∀ {x:AV} {v:Value},AllP (ke id off len x)→RV C g (za st.heap) (· < st.next) w x v→RV C g' (za (Qr id rows ks st.heap)) (· < st.next) w (kd id rows x) v:=by
    intro x v hoc hv
    cases x with
    | mslice i off' len'=>
      simp only [kd]
      split
      · rename_i e
        subst e
        simp only [ke,if_true] at hoc
        obtain ⟨rfl,rfl⟩:=hoc.one
        rw [←hD]
        cases hv with
        | mslice _ _ _ _ hid h1 hp=>
          obtain ⟨h2,h3⟩:=hp sz _ ho
          simp only [List.length_map] at h2
          have hlen:((all.drop off').take len').length=len':=by rw [List.length_take,List.length_drop];omega
          rcases h3 with ⟨a1,a2,a3⟩ | ⟨b,cap,c,e,b1,b2,b3,b4,b5⟩
          · simp only [List.map_eq_nil_iff] at a2
            subst a2 a3
            have:len'=0:=by simp at h2;omega
            subst this
            simp only [List.drop_nil,List.take_nil]
            exact .imm _ _ .nil
          · subst b2
            have hobj:=R.obj _ b _ b1 ho
            simp only [RObj] at hobj
            obtain ⟨z0,c2,e2,c3,c4,c5⟩:=hobj
            rw [b4] at c3
            cases c3
            have hget:∀ (k:Nat) (row:List IV) (j:Nat) (y:IV),((all.drop off').take len')[k]?=some row→row[j]?=some y→all[off'+k]?=some row∧off'+k < all.length∧row.length=sz∧j < sz:=fun k row j y hk hj=>by
              have hk':k < len':=by rw [←hlen];exact (List.getElem?_eq_some_iff.1 hk).1
              rw [List.getElem?_take,if_pos hk',List.getElem?_drop] at hk
              have hl:=c4 (off'+k) (row.map AV.imm) (by rw [List.getElem?_map,hk];rfl)
              simp only [List.length_map] at hl
              exact ⟨hk,(List.getElem?_eq_some_iff.1 hk).1,hl,by rw [←hl];exact (List.getElem?_eq_some_iff.1 hj).1⟩
            refine .imm _ _ ?_
            have:=RI.slice (Z:=g'.Z) (w:=w) ((all.drop off').take len') b (off'*sz) cap sz (fun k j=>(c[(off'+k)*sz+j]?).getD default) (by rw [hlen];exact b3)
              (fun k row hk=>by
                have hk':k < len':=by rw [←hlen];exact (List.getElem?_eq_some_iff.1 hk).1
                rw [List.getElem?_take,if_pos hk',List.getElem?_drop] at hk
                have hl:=c4 (off'+k) (row.map AV.imm) (by rw [List.getElem?_map,hk];rfl)
                simpa using hl)
              (fun k row j y hk hj=>by
                obtain ⟨q1,q2,q3,q4⟩:=hget k row j y hk hj
                have e1:off'*sz+k*sz+j=(off'+k)*sz+j:=by rw [Nat.add_mul]
                rw [e1]
                have e2:(off'+k+1)*sz≤all.length*sz:=Nat.mul_le_mul_right _ q2
                rw [Nat.add_mul (off'+k) 1] at e2
                simp only [g',if_pos b1]
                omega)
              (fun k row j y hk hj=>by
                obtain ⟨q1,q2,q3,q4⟩:=hget k row j y hk hj
                obtain ⟨cv,u1,u2,u3⟩:=c5 (off'+k) (row.map AV.imm) j (.imm y) (by rw [List.getElem?_map,q1];rfl) (by rw [List.getElem?_map,hj];rfl)
                have e1:off'*sz+k*sz+j=(off'+k)*sz+j:=by rw [Nat.add_mul]
                rw [e1,qA b4,u1]
                exact ⟨rfl,u2⟩)
              (fun k row j y hk hj=>by
                obtain ⟨q1,q2,q3,q4⟩:=hget k row j y hk hj
                obtain ⟨cv,u1,u2,u3⟩:=c5 (off'+k) (row.map AV.imm) j (.imm y) (by rw [List.getElem?_map,q1];rfl) (by rw [List.getElem?_map,hj];rfl)
                rw [u1]
                cases u3 with
                | imm _ _ hri=>exact hri.mono hz (fun _ _ _=>rfl))
            rw [hlen] at this
            exact this
      · exact hv.mono E
    | _=>exact hv.mono E
  have tr:∀ {x:AV} {v:Value},AllP (WL id off len x)→RV C g (za st.heap) (· < st.next) w x v→RV C g' (za (Qr id rows ks st.heap)) (· < st.next) w (Qq id rows x) v:=by
    intro x v hoc hv
    cases x with
    | agg cs=>
      simp only [Qq]
      cases hv with
      | agg _ vs hl h1 hr2=>
        refine .agg _ vs (by simpa using hl) h1 fun i y u e1 e2 => ?_
        rw [List.getElem?_map,Option.map_eq_some_iff] at e1
        obtain ⟨z,e1,rfl⟩:=e1
        exact leaf (hoc.sub fun p hp=>List.mem_flatMap.2 ⟨z,List.mem_of_getElem? e1,hp⟩) (hr2 i z u e1 e2)
    | tuple cs=>
      simp only [Qq]
      cases hv with
      | tuple _ vs hl hr2=>
        refine .tuple _ vs (by simpa using hl) fun i y u e1 e2 => ?_
        rw [List.getElem?_map,Option.map_eq_some_iff] at e1
        obtain ⟨z,e1,rfl⟩:=e1
        exact leaf (hoc.sub fun p hp=>List.mem_flatMap.2 ⟨z,List.mem_of_getElem? e1,hp⟩) (hr2 i z u e1 e2)
    | mslice i o n=>exact leaf (x:=.mslice i o n) hoc hv
    | _=>exact hv.mono E
  refine ⟨g',⟨⟨RE.size,RE.defers.evo E,fun t x hx => ?_⟩,⟨fun i j b h1 h2=>R.inj i j b (hr i b h1).2 (hr j b h2).2,fun i b h1=>R.lt i b (hr i b h1).2,fun i o h1 => ?_,fun i b o h1 h2 => ?_,fun i s l h1 h2 => ?_,fun b hb => ?_,R.fix.evo E⟩⟩,fun g0 st0 w0 hm E0=>E0.trans E⟩
  · simp only at hx
    rw [WM,Option.map_eq_some_iff] at hx
    obtain ⟨y,h1,rfl⟩:=hx
    exact tr (hocc.sub fun p hp=>List.mem_append.2 (.inl (zar h1 p hp))) (RE.slot t y h1)
  · rcases hh i o h1 with ⟨h2,_⟩ | ⟨_,o0,h2,_⟩
    · subst h2;exact R.key _ _ ho
    · exact R.key i o0 h2
  · obtain ⟨hne,h1⟩:=hr i b h1
    have hzb:g'.Z b=g.Z b:=hz' b fun e=>hne (R.inj _ _ b h1 e)
    rcases hh i o h2 with ⟨h3,_⟩ | ⟨_,o0,h3,h4 | ⟨hks,h4⟩⟩
    · exact absurd h3 hne
    · subst h4
      have hro:=R.obj i b _ h1 h3
      cases o with
      | rows s r=>
        simp only [RObj] at hro ⊢
        obtain ⟨a1,c,e,a2,a3,a4⟩:=hro
        refine ⟨by rw [hzb];exact a1,c,e,a2,a3,fun k row j x u1 u2 => ?_⟩
        obtain ⟨cv,b1,b2,b3⟩:=a4 k row j x u1 u2
        exact ⟨cv,b1,b2,b3.mono E⟩
      | tip s l=>simp only [RObj] at hro ⊢; rw [hzb];exact hro
      | map es=>
        simp only [RObj] at hro ⊢
        obtain ⟨a1,ces,clock,a2,a3,a4⟩:=hro
        refine ⟨by rw [hzb];exact a1,ces,clock,a2,a3,fun k kk x u1 => ?_⟩
        obtain ⟨e,b1,b2,b3⟩:=a4 k kk x u1
        exact ⟨e,b1,b2,b3.mono E⟩
      | dead=>trivial
      | lp l R s pe=>simp only [RObj] at hro ⊢; rw [hzb];exact hro
    · subst h4
      have hro:=R.obj i b _ h1 h3
      cases o0 with
      | rows s r=>
        simp only [xi,RObj] at hro ⊢
        obtain ⟨a1,c,e,a2,a3,a4⟩:=hro
        refine ⟨by rw [hzb];exact a1,c,e,a2,fun k row u1 => ?_,fun k row j x u1 u2 => ?_⟩
        · rw [List.getElem?_map,Option.map_eq_some_iff] at u1
          obtain ⟨z,u1,rfl⟩:=u1
          simpa using a3 k z u1
        · rw [List.getElem?_map,Option.map_eq_some_iff] at u1
          obtain ⟨z,u1,rfl⟩:=u1
          rw [List.getElem?_map,Option.map_eq_some_iff] at u2
          obtain ⟨y,u2,rfl⟩:=u2
          obtain ⟨cv,b1,b2,b3⟩:=a4 k z j y u1 u2
          exact ⟨cv,b1,b2,tr (hocc.sub fun p hp=>List.mem_append.2 (.inr (zas hks h3 p (by simp only [zaq];exact List.mem_flatMap.2 ⟨z,List.mem_of_getElem? u1,List.mem_flatMap.2 ⟨y,List.mem_of_getElem? u2,hp⟩⟩)))) b3⟩
      | tip s l=>simp only [xi,RObj] at hro ⊢; rw [hzb];exact hro
      | map es=>
        simp only [xi,RObj] at hro ⊢
        obtain ⟨a1,ces,clock,a2,a3,a4⟩:=hro
        refine ⟨by rw [hzb];exact a1,ces,clock,a2,a3,fun k kk x u1 => ?_⟩
        obtain ⟨e,b1,b2,b3⟩:=a4 k kk x u1
        exact ⟨e,b1,b2,b3.mono E⟩
      | dead=>trivial
      | lp l R s pe=>simp only [xi,RObj] at hro ⊢; rw [hzb];exact hro
  · rcases hh i _ h1 with ⟨_,h3⟩ | ⟨hne,o0,h3,h4 | ⟨_,h4⟩⟩
    · cases h3
    · subst h4;exact R.tip0 i s l h3 (by rw [←hr' i hne];exact h2)
    · cases o0<;>simp only [xi] at h4<;>cases h4
      exact R.tip0 i s l h3 (by rw [←hr' i hne];exact h2)
  · simp only [g'] at hb
    split at hb
    · rename_i e;exact (R.lt id b e).1
    · exact R.zlt b hb
theorem zb6 {α:Type} (f:α→List IV) (l:List α):((List.map f l).drop 0).take l.length=List.map f l:=by
  rw [List.drop_zero,List.take_of_length_le (by simp)]
theorem zfV {α:Type} (f:α→List IV) (l:List α) (n:Nat):((List.map f l).drop 0).take n=List.map f (List.take n l):=by
  rw [List.drop_zero,List.map_take]
theorem Zj {α:Type} (f:α→List IV) (l:List α):(List.map f l).map (fun r=>r.map AV.imm)=zb f l:=by
  simp only [zb,zn,List.map_map];rfl
inductive AVle:AV→AV→Prop where
  | refl (x:AV):AVle x x
  | nil:AVle .nil (.imm (.slice []))
  | tip (id:Nat) (rows:List (List IV)):AVle (.gslice id rows) (.imm (.slice rows))
inductive RowLe:List AV→List AV→Prop where
  | nil:RowLe [] []
  | cons {x y:AV} {r s:List AV} (h:AVle x y) (t:RowLe r s):RowLe (x::r) (y::s)
theorem RowLe.len {r s:List AV} (h:RowLe r s):r.length=s.length:=by
  induction h with
  | nil=>rfl
  | cons h t ih=>simp [ih]
theorem RowLe.get {r s:List AV} (h:RowLe r s):∀ (j:Nat) (y:AV),s[j]?=some y→∃ x,r[j]?=some x∧AVle x y:=by
  induction h with
  | nil=>intro j y hj;simp at hj
  | cons h t ih=>
    intro j y hj
    cases j with
    | zero=>simp at hj;subst hj;exact ⟨_,by simp,h⟩
    | succ j=>simpa using ih j y (by simpa using hj)
theorem zeq {st:St} {α:Type} (id sz k:Nat) (row:List AV) (f:α→List IV) (z:α) (ho:za st.heap id=some (.rows sz (List.replicate k row))) (hle:RowLe row (zn (f z))):Weak st ⟨st.env,zl st.heap id (.rows sz (zb f (List.replicate k z))),st.next⟩:=by
  intro C nt g a w R
  obtain ⟨RE,R⟩:=R
  have hlen:(zb f (List.replicate k z)).length=(List.replicate k row).length:=by simp [zb]
  have hh:∀ i o,za (zl st.heap id (.rows sz (zb f (List.replicate k z)))) i=some o→(i=id∧o=.rows sz (zb f (List.replicate k z)))∨(i≠id∧za st.heap i=some o):=fun i o h=>by
    rw [zm] at h
    split at h
    · rename_i e;exact .inl ⟨e.symm,by cases h;rfl⟩
    · rename_i e;exact .inr ⟨fun e2=>e e2.symm,h⟩
  have E:Evo g (za st.heap) (· < st.next) w g (za (zl st.heap id (.rows sz (zb f (List.replicate k z))))) (· < st.next) w:={Evo.refl g (za st.heap) (· < st.next) w with
    rho:=fun i b hb _ _ _ _=>.inl hb
    rho0:=fun i hb _ _ _ _=>.inl hb
    rows:=fun i _ s r h1=>by
      rcases hh i _ h1 with ⟨e1,e2⟩ | ⟨_,e2⟩
      · subst e1;cases e2;exact ⟨_,ho,hlen.symm⟩
      · exact ⟨r,e2,rfl⟩
    tips:=fun i _ s l h1=>by
      rcases hh i _ h1 with ⟨_,e2⟩ | ⟨_,e2⟩
      · cases e2
      · exact ⟨l,e2,Nat.le_refl _⟩
    maps:=fun i _ es h1=>by
      rcases hh i _ h1 with ⟨_,e2⟩ | ⟨_,e2⟩
      · cases e2
      · exact ⟨es,e2⟩
    lps:=fun i _ ll RR s pe h1=>by
      rcases hh i _ h1 with ⟨_,e2⟩ | ⟨_,e2⟩
      · cases e2
      · exact ⟨s,pe,e2⟩}
  refine ⟨g,⟨⟨RE.size,RE.defers,fun t x hx=>(RE.slot t x hx).mono E⟩,⟨R.inj,R.lt,fun i o h1 => ?_,fun i b o h1 h2 => ?_,fun i s l h1 h2 => ?_,R.zlt,R.fix.evo E⟩⟩,fun g0 st0 w0 hm E0=>E0.trans E⟩
  · rcases hh i o h1 with ⟨e1,_⟩ | ⟨_,e2⟩
    · subst e1;exact R.key _ _ ho
    · exact R.key i o e2
  · rcases hh i o h2 with ⟨e1,e2⟩ | ⟨_,e2⟩
    · subst e1 e2
      have hro:=R.obj _ b _ h1 ho
      simp only [RObj] at hro ⊢
      obtain ⟨a1,c,e,a2,a3,a4⟩:=hro
      have hrow:∀ (i:Nat) (r:List AV),(zb f (List.replicate k z))[i]?=some r→(List.replicate k row)[i]?=some row∧r=zn (f z):=fun i r hi=>by
        simp only [zb,List.map_replicate,List.getElem?_replicate] at hi ⊢
        split at hi
        · rename_i hlt;rw [if_pos hlt];cases hi;exact ⟨rfl,rfl⟩
        · cases hi
      refine ⟨a1,c,e,a2,fun i r hi => ?_,fun i r j x hi hj => ?_⟩
      · obtain ⟨q1,q2⟩:=hrow i r hi
        rw [q2,←hle.len]
        exact a3 i row q1
      · obtain ⟨q1,q2⟩:=hrow i r hi
        subst q2
        obtain ⟨y,q3,q4⟩:=hle.get j x hj
        obtain ⟨cv,b1,b2,b3⟩:=a4 i row j y q1 q3
        refine ⟨cv,b1,b2,?_⟩
        cases q4 with
        | refl=>exact b3.mono E
        | nil=>rw [xh b3];exact .imm _ _ .nil
        | tip=>cases b3 with | gslice _ _ _ hr _ _=>exact .imm _ _ (hr.mono E.zmono E.cell)
    · exact (R.obj i b o h1 e2).keep E rfl rfl
  · rcases hh i _ h1 with ⟨_,e2⟩ | ⟨_,e2⟩
    · cases e2
    · exact R.tip0 i s l e2 h2
inductive RowsLe:List (List AV)→List (List AV)→Prop where
  | nil:RowsLe [] []
  | cons {r s:List AV} {l m:List (List AV)} (h:RowLe r s) (t:RowsLe l m):RowsLe (r::l) (s::m)
theorem RowsLe.len {l m:List (List AV)} (h:RowsLe l m):l.length=m.length:=by
  induction h with
  | nil=>rfl
  | cons h t ih=>simp [ih]
theorem RowsLe.get {l m:List (List AV)} (h:RowsLe l m):∀ (j:Nat) (s:List AV),m[j]?=some s→∃ r,l[j]?=some r∧RowLe r s:=by
  induction h with
  | nil=>intro j y hj;simp at hj
  | cons h t ih=>
    intro j y hj
    cases j with
    | zero=>simp at hj;subst hj;exact ⟨_,by simp,h⟩
    | succ j=>simpa using ih j y (by simpa using hj)
theorem zat {st:St} (id sz:Nat) (l m:List (List AV)) (ho:za st.heap id=some (.rows sz l)) (hle:RowsLe l m):Weak st ⟨st.env,zl st.heap id (.rows sz m),st.next⟩:=by
  intro C nt g a w R
  obtain ⟨RE,R⟩:=R
  have hh:∀ i o,za (zl st.heap id (.rows sz m)) i=some o→(i=id∧o=.rows sz m)∨(i≠id∧za st.heap i=some o):=fun i o h=>by
    rw [zm] at h
    split at h
    · rename_i e;exact .inl ⟨e.symm,by cases h;rfl⟩
    · rename_i e;exact .inr ⟨fun e2=>e e2.symm,h⟩
  have E:Evo g (za st.heap) (· < st.next) w g (za (zl st.heap id (.rows sz m))) (· < st.next) w:={Evo.refl g (za st.heap) (· < st.next) w with
    rho:=fun i b hb _ _ _ _=>.inl hb
    rho0:=fun i hb _ _ _ _=>.inl hb
    rows:=fun i _ s r h1=>by
      rcases hh i _ h1 with ⟨e1,e2⟩ | ⟨_,e2⟩
      · subst e1;cases e2;exact ⟨_,ho,hle.len⟩
      · exact ⟨r,e2,rfl⟩
    tips:=fun i _ s l h1=>by
      rcases hh i _ h1 with ⟨_,e2⟩ | ⟨_,e2⟩
      · cases e2
      · exact ⟨l,e2,Nat.le_refl _⟩
    maps:=fun i _ es h1=>by
      rcases hh i _ h1 with ⟨_,e2⟩ | ⟨_,e2⟩
      · cases e2
      · exact ⟨es,e2⟩
    lps:=fun i _ ll RR s pe h1=>by
      rcases hh i _ h1 with ⟨_,e2⟩ | ⟨_,e2⟩
      · cases e2
      · exact ⟨s,pe,e2⟩}
  refine ⟨g,⟨⟨RE.size,RE.defers,fun t x hx=>(RE.slot t x hx).mono E⟩,⟨R.inj,R.lt,fun i o h1 => ?_,fun i b o h1 h2 => ?_,fun i s l h1 h2 => ?_,R.zlt,R.fix.evo E⟩⟩,fun g0 st0 w0 hm E0=>E0.trans E⟩
  · rcases hh i o h1 with ⟨e1,_⟩ | ⟨_,e2⟩
    · subst e1;exact R.key _ _ ho
    · exact R.key i o e2
  · rcases hh i o h2 with ⟨e1,e2⟩ | ⟨_,e2⟩
    · subst e1 e2
      have hro:=R.obj _ b _ h1 ho
      simp only [RObj] at hro ⊢
      obtain ⟨a1,c,e,a2,a3,a4⟩:=hro
      refine ⟨a1,c,e,a2,fun i r hi => ?_,fun i r j x hi hj => ?_⟩
      · obtain ⟨q,q1,q2⟩:=hle.get i r hi
        rw [←q2.len];exact a3 i q q1
      · obtain ⟨q,q1,q2⟩:=hle.get i r hi
        obtain ⟨y,q3,q4⟩:=q2.get j x hj
        obtain ⟨cv,b1,b2,b3⟩:=a4 i q j y q1 q3
        refine ⟨cv,b1,b2,?_⟩
        cases q4 with
        | refl=>exact b3.mono E
        | nil=>rw [xh b3];exact .imm _ _ .nil
        | tip=>cases b3 with | gslice _ _ _ hr _ _=>exact .imm _ _ (hr.mono E.zmono E.cell)
    · exact (R.obj i b o h1 e2).keep E rfl rfl
  · rcases hh i _ h1 with ⟨_,e2⟩ | ⟨_,e2⟩
    · cases e2
    · exact R.tip0 i s l e2 h2
open Classical in
noncomputable def lim {α:Type} (f:Nat→Option α):Option α:=if h:∃ r,∃ k,∀ k',k≤k'→f k'=some r then some h.choose else none
theorem zfW {α:Type} {f:Nat→Option α} {r:α} (h:lim f=some r):∃ k,f k=some r:=by
  unfold lim at h
  split at h
  · rename_i hh
    cases h
    obtain ⟨k,hk⟩:=hh.choose_spec
    exact ⟨k,hk k (Nat.le_refl _)⟩
  · cases h
theorem ziH {α:Type} {f:Nat→Option α} {r:α} (k:Nat) (h:∀ k',k≤k'→f k'=some r):lim f=some r:=by
  unfold lim
  have hh:∃ r,∃ k,∀ k',k≤k'→f k'=some r:=⟨r,k,h⟩
  rw [dif_pos hh]
  obtain ⟨k2,hk2⟩:=hh.choose_spec
  have h1:=hk2 (max k k2) (Nat.le_max_right _ _)
  have h2:=h (max k k2) (Nat.le_max_left _ _)
  rw [h1] at h2;exact h2
section
variable {h:Nat→Option AObj} {d:Nat}
theorem qS:mapO (zF h d) []=some []:=rfl
theorem zz {x:AV} {y:IV} {xs:List AV} {ys:List IV} (h1:zF h d x=some y) (h2:mapO (zF h d) xs=some ys):mapO (zF h d) (x::xs)=some (y::ys):=by
  simp only [mapO];rw [h1];simp only;rw [h2]
theorem qv (y:IV):zF h (d+1) (.imm y)=some y:=rfl
theorem zkp (i:Nat) (rows:List (List IV)):zF h (d+1) (.gslice i rows)=some (.slice rows):=rfl
theorem yS {cs:List AV} {ys:List IV} (h1:mapO (zF h d) cs=some ys):zF h (d+1) (.agg cs)=some (.agg ys):=by
  simp only [zF];rw [h1];rfl
theorem zcT {cs:List AV} {ys:List IV} (h1:mapO (zF h d) cs=some ys):zF h (d+1) (.tuple cs)=some (.tuple ys):=by
  simp only [zF];rw [h1];rfl
theorem wT {α:Type} (f:α→List IV) (id sz:Nat) (l:List α) (ho:h id=some (.rows sz (zb f l))):zF h (d+2) (.mslice id 0 l.length)=some (.slice (List.map f l)):=zao f h d id sz l ho
end
inductive LeV:AV→AV→Prop where
  | refl (x:AV):LeV x x
  | nil:LeV .nil (.imm (.slice []))
  | tip (id:Nat) (rows:List (List IV)):LeV (.gslice id rows) (.imm (.slice rows))
  | agg {r s:List AV} (h:RowLe r s):LeV (.agg r) (.agg s)
  | tuple {r s:List AV} (h:RowLe r s):LeV (.tuple r) (.tuple s)
theorem AVle.rv {C:Ctx} {g:Gh} {h:Nat→Option AObj} {N:Nat→Prop} {w:World} {x y:AV} {v:Value} (hl:AVle x y) (hv:RV C g h N w x v):RV C g h N w y v:=by
  cases hl with
  | refl=>exact hv
  | nil=>rw [xh hv];exact .imm _ _ .nil
  | tip=>cases hv with | gslice _ _ _ hr _ _=>exact .imm _ _ hr
theorem LeV.rv {C:Ctx} {g:Gh} {h:Nat→Option AObj} {N:Nat→Prop} {w:World} {x y:AV} {v:Value} (hl:LeV x y) (hv:RV C g h N w x v):RV C g h N w y v:=by
  cases hl with
  | refl=>exact hv
  | nil=>rw [xh hv];exact .imm _ _ .nil
  | tip=>cases hv with | gslice _ _ _ hr _ _=>exact .imm _ _ hr
  | agg hr=>
    cases hv with
    | agg _ vs h1 h2 h3=>
      refine .agg _ vs (by rw [←hr.len];exact h1) h2 fun i c u e1 e2 => ?_
      obtain ⟨q,q1,q2⟩:=hr.get i c e1
      exact q2.rv (h3 i q u q1 e2)
  | tuple hr=>
    cases hv with
    | tuple _ vs h1 h3=>
      refine .tuple _ vs (by rw [←hr.len];exact h1) fun i c u e1 e2 => ?_
      obtain ⟨q,q1,q2⟩:=hr.get i c e1
      exact q2.rv (h3 i q u q1 e2)
inductive LeVs:List AV→List AV→Prop where
  | nil:LeVs [] []
  | cons {x y:AV} {r s:List AV} (h:LeV x y) (t:LeVs r s):LeVs (x::r) (y::s)
theorem LeVs.len {l m:List AV} (h:LeVs l m):l.length=m.length:=by
  induction h with
  | nil=>rfl
  | cons h t ih=>simp [ih]
theorem LeVs.get {l m:List AV} (h:LeVs l m):∀ (j:Nat) (s:AV),m[j]?=some s→∃ r,l[j]?=some r∧LeV r s:=by
  induction h with
  | nil=>intro j y hj;simp at hj
  | cons h t ih=>
    intro j y hj
    cases j with
    | zero=>simp at hj;subst hj;exact ⟨_,by simp,h⟩
    | succ j=>simpa using ih j y (by simpa using hj)
inductive LeV2:AV→AV→Prop where
  | one {x y:AV} (h:LeV x y):LeV2 x y
  | tup {r s:List AV} (h:LeVs r s):LeV2 (.tuple r) (.tuple s)
theorem LeV2.rv {C:Ctx} {g:Gh} {h:Nat→Option AObj} {N:Nat→Prop} {w:World} {x y:AV} {v:Value} (hl:LeV2 x y) (hv:RV C g h N w x v):RV C g h N w y v:=by
  cases hl with
  | one h=>exact h.rv hv
  | tup hr=>
    cases hv with
    | tuple _ vs h1 h3=>
      refine .tuple _ vs (by rw [←hr.len];exact h1) fun i c u e1 e2 => ?_
      obtain ⟨q,q1,q2⟩:=hr.get i c e1
      exact q2.rv (h3 i q u q1 e2)
theorem zhz {x y:AV} {heap:List (Nat×AObj)} {n:Nat} (hl:LeV2 x y):Weak ⟨[(0,x)],heap,n⟩ ⟨[(0,y)],heap,n⟩:=by
  intro C nt g a w R
  refine ⟨g,⟨⟨R.env.size,R.env.defers,fun t z hz => ?_⟩,R.heap⟩,fun _ _ _ _ E=>E⟩
  simp only [za] at hz
  split at hz
  · rename_i e;subst e;cases hz;exact hl.rv (R.env.slot 0 x rfl)
  · cases hz
theorem Weak.andThen {s1 s2 s3:St} (h1:Weak s1 s2) (h2:Weak s2 s3) (hn:s3.next≤s2.next):Weak s1 s3:=by
  intro C nt g a w R
  obtain ⟨g1,R1,e1⟩:=h1 C nt g a w R
  obtain ⟨g2,R2,e2⟩:=h2 C nt g1 a w R1
  exact ⟨g2,R2,fun g0 st0 w0 a1 E=>e2 g0 st0 w0 a1 (e1 g0 st0 w0 (Nat.le_trans a1 hn) E)⟩
theorem xa {h:Nat→Option AObj} {d:Nat} {α:Type} (f:α→List IV) (id sz n:Nat) (l:List α) (hn:n=l.length) (ho:h id=some (.rows sz (zb f l))):zF h (d+2) (.mslice id 0 n)=some (.slice (List.map f l)):=by
  subst hn;exact zao f h d id sz l ho
theorem YB {st:St} (id sz sz':Nat) (rows:List (List AV)) (r j:Nat) (row:List AV) (ho:za st.heap id=some (.rows sz rows)) (hr:rows[r]?=some row) (hj:row[j]?=some .nil) :
    Weak st ⟨st.env,zl (zs st.heap st.next (.tip sz' 0)) id (.rows sz (rows.set r (row.set j (.gslice st.next [])))),st.next+1⟩:=by
  intro C nt g a w R
  have hidn:id < st.next:=R.heap.key _ _ ho
  obtain ⟨g',E,H,hv⟩:=Yi (id:=st.next) R.heap (Nat.lt_irrefl _) sz'
  rw [xm] at E H hv
  have e1:hup [(st.next,AObj.tip sz' 0)] (za st.heap)=za (zs st.heap st.next (.tip sz' 0)):=by
    funext i;simp only [hup,zq]
  rw [e1] at E H hv
  have ho':za (zs st.heap st.next (.tip sz' 0)) id=some (.rows sz rows):=by rw [zq,if_neg (by omega)];exact ho
  have hh:∀ i o,za (zl (zs st.heap st.next (.tip sz' 0)) id (.rows sz (rows.set r (row.set j (.gslice st.next []))))) i=some o→(i=id∧o=.rows sz (rows.set r (row.set j (.gslice st.next []))))∨(i≠id∧za (zs st.heap st.next (.tip sz' 0)) i=some o):=fun i o h=>by
    rw [zm] at h
    split at h
    · rename_i e;exact .inl ⟨e.symm,by cases h;rfl⟩
    · rename_i e;exact .inr ⟨fun e2=>e e2.symm,h⟩
  have E2:Evo g' (za (zs st.heap st.next (.tip sz' 0))) (· < st.next+1) w g' (za (zl (zs st.heap st.next (.tip sz' 0)) id (.rows sz (rows.set r (row.set j (.gslice st.next [])))))) (· < st.next+1) w:={Evo.refl g' (za (zs st.heap st.next (.tip sz' 0))) (· < st.next+1) w with
    rho:=fun i b hb _ _ _ _=>.inl hb
    rho0:=fun i hb _ _ _ _=>.inl hb
    rows:=fun i _ s q h1=>by
      rcases hh i _ h1 with ⟨e1,e2⟩ | ⟨_,e2⟩
      · subst e1;cases e2;exact ⟨_,ho',by simp⟩
      · exact ⟨q,e2,rfl⟩
    tips:=fun i _ s l h1=>by
      rcases hh i _ h1 with ⟨_,e2⟩ | ⟨_,e2⟩
      · cases e2
      · exact ⟨l,e2,Nat.le_refl _⟩
    maps:=fun i _ es h1=>by
      rcases hh i _ h1 with ⟨_,e2⟩ | ⟨_,e2⟩
      · cases e2
      · exact ⟨es,e2⟩
    lps:=fun i _ ll RR s pe h1=>by
      rcases hh i _ h1 with ⟨_,e2⟩ | ⟨_,e2⟩
      · cases e2
      · exact ⟨s,pe,e2⟩}
  refine ⟨g',⟨⟨R.env.size,(R.env.defers.evo E).evo E2,fun t x hx=>((R.env.slot t x hx).mono E).mono E2⟩,⟨H.inj,H.lt,fun i o h1 => ?_,fun i b o h1 h2 => ?_,fun i s l h1 h2 => ?_,H.zlt,H.fix.evo E2⟩⟩,fun g0 st0 w0 hm E0=>Evo.trans (Evo.trans E0 E) E2⟩
  · rcases hh i o h1 with ⟨e1,_⟩ | ⟨_,e2⟩
    · subst e1;exact H.key _ _ ho'
    · exact H.key i o e2
  · rcases hh i o h2 with ⟨e1,e2⟩ | ⟨_,e2⟩
    · subst e1 e2
      have hro:=H.obj _ b _ h1 ho'
      simp only [RObj] at hro ⊢
      obtain ⟨a1,c,e,a2,a3,a4⟩:=hro
      have hrl:r < rows.length:=(List.getElem?_eq_some_iff.1 hr).1
      have hjl:j < row.length:=(List.getElem?_eq_some_iff.1 hj).1
      refine ⟨a1,c,e,a2,fun i q hi => ?_,fun i q k x hi hk => ?_⟩
      · rw [List.getElem?_set] at hi
        split at hi
        · rename_i e3;subst e3;cases hi;simpa using a3 _ row hr
        · exact a3 i q hi
      · rw [List.getElem?_set] at hi
        split at hi
        · rename_i e3
          subst e3
          cases hi
          rw [List.getElem?_set] at hk
          split at hk
          · rename_i e4
            subst e4
            cases hk
            obtain ⟨cv,b1,b2,b3⟩:=a4 _ row _ .nil hr hj
            refine ⟨cv,b1,b2,?_⟩
            rw [xh b3]
            exact hv.mono E2
          · obtain ⟨cv,b1,b2,b3⟩:=a4 _ row k x hr hk
            exact ⟨cv,b1,b2,b3.mono E2⟩
        · obtain ⟨cv,b1,b2,b3⟩:=a4 i q k x hi hk
          exact ⟨cv,b1,b2,b3.mono E2⟩
    · exact (H.obj i b o h1 e2).keep E2 rfl rfl
  · rcases hh i _ h1 with ⟨_,e2⟩ | ⟨_,e2⟩
    · cases e2
    · exact H.tip0 i s l e2 h2
end
def zkq {σ ρ γ:Type} (Ok:σ→γ→Prop) (W:σ→γ→St) (K:Exit→St→Prop) (out:σ ⊕ ρ) (o:σ ⊕ ρ):Exit→St→Prop
  | .normal,st=>∃ s' c',o=.inl s'∧Ok s' c'∧Weak st (W s' c')
  | e,st=>∃ y,o=.inr y∧(out=.inr y→K e st)
theorem zfX {C:CtxY} {nt:Fr} {x:ACode} {K:Exit→St→Prop} {st:St} {σ ρ γ:Type} {n:Int} {f:Nat→σ→Option (σ ⊕ ρ)} {s0:σ} {out:σ ⊕ ρ} (hl:forR n f s0=some out)
    (Ok:Nat→σ→γ→Prop) (S:Nat→σ→γ→St) (hmin:∀ i s c,Ok i s c→st.next≤(S i s c).next) (c0:γ) (hok0:Ok 0 s0 c0) (hn0:(S 0 s0 c0).next=st.next) (h0:Weak st (S 0 s0 c0))
    (body:∀ (i:Nat) (s:σ) (c:γ) (o:σ ⊕ ρ),Ok i s c→(i:Int) < n→IntKind.i64.wrap ((i:Int)+1)=(i:Int)+1→f i s=some o→awp C nt x (zkq (Ok (i+1)) (S (i+1)) K out o) (S i s c))
    (last:∀ (m:Nat) (s:σ) (c:γ),Ok m s c→¬ (m:Int) < n→out=.inl s→awp C nt x (wN (fun _=>False) K) (S m s c)):awp C nt (.loop x) K st:=by
  obtain ⟨hn,hl⟩:=Jk hl
  refine XO (ι:={p:Nat×σ×γ // p.1≤n.toNat∧forFrom f p.1 (n.toNat - p.1) p.2.1=some out∧Ok p.1 p.2.1 p.2.2}) (fun p=>S p.1.1 p.1.2.1 p.1.2.2) (fun p=>n.toNat - p.1.1) ⟨(0,s0,c0),Nat.zero_le _,hl,hok0⟩ (fun p=>by rw [hn0];exact hmin _ _ _ p.2.2.2) h0 (Nat.le_of_eq hn0.symm) ?_
  rintro ⟨⟨i,s,c⟩,hi,hf,hok⟩
  simp only at hi hf hok
  rcases Nat.lt_or_ge i n.toNat with h | h
  · obtain ⟨k,hk⟩:∃ k,n.toNat - i=k+1:=⟨n.toNat - i - 1,by omega⟩
    rw [hk] at hf
    simp only [forFrom] at hf
    split at hf
    · cases hf
    · rename_i r hr
      cases hf
      refine qO ?_ (body i s c _ hok (by omega) (qx (by omega) (by omega)) hr)
      intro e st' hK
      cases e with
      | normal=>obtain ⟨s',_,h1,_⟩:=hK;cases h1
      | _=>obtain ⟨y,h1,h2⟩:=hK;cases h1;exact h2 rfl
    · rename_i s' hr
      refine qO ?_ (body i s c _ hok (by omega) (qx (by omega) (by omega)) hr)
      intro e st' hK
      cases e with
      | normal=>
        obtain ⟨s'',c'',h1,h2,h3⟩:=hK
        cases h1
        exact ⟨⟨(i+1,s',c''),h,by simp only;rw [show n.toNat - (i+1)=k by omega];exact hf,h2⟩,by simp only;omega,h3⟩
      | _=>obtain ⟨y,h1,h2⟩:=hK;cases h1
  · obtain rfl:i=n.toNat:=by omega
    simp only [Nat.sub_self,forFrom,Option.some.injEq] at hf
    refine qO ?_ (last n.toNat s c hok (by omega) hf.symm)
    intro e st' hK
    cases e with
    | normal=>exact hK.elim
    | _=>exact hK
def zW (qs:List Nat) (Ls:List (List Int)):List (List AV):=List.zipWith (fun q L=>[AV.gslice q (L.map zc)]) qs Ls
structure NestOk (heap:List (Nat×AObj)) (N P:Nat) (qs:List Nat) (Ls:List (List Int)):Prop where
  obj:za heap P=some (.rows 1 (zW qs Ls))
  tip:∀ (k q:Nat) (L:List Int),qs[k]?=some q→Ls[k]?=some L→za heap q=some (.tip 1 L.length)
  len:qs.length=Ls.length
  nd:∀ (i j q:Nat),qs[i]?=some q→qs[j]?=some q→i=j
theorem XA {qs:List Nat} {Ls:List (List Int)} (h:qs.length=Ls.length):(zW qs Ls).length=Ls.length:=by simp [zW,h]
theorem WN:∀ (qs:List Nat) (Ls:List (List Int)),qs.length=Ls.length→RowsLe (zW qs Ls) (zb (zt zc) Ls)
  | [],[],_=>.nil
  | q::qs,L::Ls,h=>.cons (.cons (.tip q (L.map zc)) .nil) (WN qs Ls (by simpa using h))
theorem XB {qs:List Nat} {Ls:List (List Int)} {k q:Nat} {L:List Int} (h1:qs[k]?=some q) (h2:Ls[k]?=some L):(zW qs Ls)[k]?=some [.gslice q (L.map zc)]:=by
  simp [zW,List.getElem?_zipWith,h1,h2]
theorem XC:∀ (qs:List Nat) (Ls:List (List Int)) (k q:Nat) (L:List Int),qs[k]?=some q→(zW qs Ls).set k [.gslice q (L.map zc)]=zW qs (Ls.set k L)
  | [],Ls,k,q,L,h=>by simp at h
  | q'::qs,[],k,q,L,h=>by simp [zW]
  | q'::qs,L'::Ls,0,q,L,h=>by simp at h;subst h;rfl
  | q'::qs,L'::Ls,k+1,q,L,h=>by
    have:=XC qs Ls k q L (by simpa using h)
    simp only [zW,List.zipWith_cons_cons,List.set_cons_succ] at this ⊢
    rw [this]
theorem zbG (qs:List Nat) (Ls:List (List Int)) (q:Nat) (L:List Int) (h:qs.length=Ls.length):zW (qs++[q]) (Ls++[L])=zW qs Ls++[[.gslice q (L.map zc)]]:=by
  simp [zW,List.zipWith_append h]
theorem NestOk.grow {heap heap':List (Nat×AObj)} {N N' P:Nat} {qs:List Nat} {Ls:List (List Int)} (h:NestOk heap N P qs Ls) {k q:Nat} {L:List Int} (hq:qs[k]?=some q) (hP:za heap' P=some (.rows 1 (zW qs (Ls.set k L)))) (hT:za heap' q=some (.tip 1 L.length))
    (hE:∀ j,j≠P→j≠q→(za heap j).isSome=true→za heap' j=za heap j):NestOk heap' N' P qs (Ls.set k L) where
  obj:=hP
  len:=by simp [h.len]
  nd:=h.nd
  tip:=fun k' q' L' h1 h2=>by
    by_cases e:k'=k
    · subst e
      have hlt:k' < Ls.length:=by
        have:=(List.getElem?_eq_some_iff.1 h1).1;rw [h.len] at this;exact this
      rw [List.getElem?_set_self hlt] at h2
      cases h2
      rw [hq] at h1;cases h1
      exact hT
    · rw [List.getElem?_set_ne (Ne.symm e)] at h2
      have h3:=h.tip k' q' L' h1 h2
      rw [hE q' (fun e2=>by rw [e2,h.obj] at h3;cases h3) (fun e2=>e (h.nd k' k q (by rw [←e2];exact h1) hq)) (by rw [h3];rfl)]
      exact h3
section
section
variable {C:Ctx} {g g':Gh} {h h':Nat→Option AObj} {N N':Nat→Prop} {w w':World} {id:Nat}
theorem zcU (R:RH C g h N w) (hid:¬ N id) {i sz:Nat} {all:List (List IV)} (hi:h i=some (.rows sz (all.map fun r=>r.map AV.imm))) {v0:Value} (hv0:RV C g h N w (.mslice i 0 all.length) v0) :
    ∃ g',(∀ k,k≠id→k≠i→g'.ρ k=g.ρ k)∧(∀ b,g.Z b=0→g.ρ i≠some b→g'.Z b=0)∧Evo g h N w g' (hup [(i,.dead),(id,.tip sz all.length)] h) (qa N id) w∧RH C g' (hup [(i,.dead),(id,.tip sz all.length)] h) (qa N id) w∧RV C g' (hup [(i,.dead),(id,.tip sz all.length)] h) (qa N id) w (.gslice id all) v0:=by
  have hN:=R.key i _ hi
  have hne:i≠id:=fun e=>hid (e ▸ hN)
  have hidN:∀ k,N k→k≠id:=fun k hk e=>hid (e ▸ hk)
  let g':Gh:=⟨fun k=>if k=id then g.ρ i else if k=i then none else g.ρ k,fun b=>if g.ρ i=some b then all.length*sz else g.Z b⟩
  have hz0:∀ b,g.ρ i=some b→g.Z b=0:=fun b hb=>(R.obj i b _ hb hi).1
  have hzm:∀ b,g.Z b≤g'.Z b:=fun b=>by
    simp only [g'];split
    · rename_i e;rw [hz0 b e];exact Nat.zero_le _
    · exact Nat.le_refl _
  have hz':∀ b,g.ρ i≠some b→g'.Z b=g.Z b:=fun b hb=>by simp only [g',if_neg hb]
  have hup':∀ k o,hup [(i,AObj.dead),(id,AObj.tip sz all.length)] h k=some o→(k=i∧o=.dead)∨(k=id∧o=.tip sz all.length)∨(k≠i∧k≠id∧h k=some o):=fun k o ho=>by
    simp only [hup] at ho
    split at ho
    · rename_i e;cases ho;exact .inl ⟨e.symm,rfl⟩
    · rename_i e
      split at ho
      · rename_i e2;cases ho;exact .inr (.inl ⟨e2.symm,rfl⟩)
      · rename_i e2;exact .inr (.inr ⟨fun e3=>e e3.symm,fun e3=>e2 e3.symm,ho⟩)
  have hrho:∀ k,k≠id→k≠i→g'.ρ k=g.ρ k:=fun k h1 h2=>by simp only [g',if_neg h1,if_neg h2]
  have hrid:g'.ρ id=g.ρ i:=by simp only [g',if_pos]
  have hri:g'.ρ i=none:=by simp only [g',if_neg hne,if_pos]
  have hback:∀ k b,g'.ρ k=some b→(k=id∧g.ρ i=some b)∨(k≠id∧k≠i∧g.ρ k=some b):=fun k b hk=>by
    by_cases h1:k=id
    · subst h1;rw [hrid] at hk;exact .inl ⟨rfl,hk⟩
    · by_cases h2:k=i
      · subst h2;rw [hri] at hk;cases hk
      · rw [hrho k h1 h2] at hk;exact .inr ⟨h1,h2,hk⟩
  have E:Evo g h N w g' (hup [(i,.dead),(id,.tip sz all.length)] h) (qa N id) w:={
    os:=rfl
    tape:=rfl
    output:=rfl
    size:=Nat.le_refl _
    old:=fun b _ hno=>⟨rfl,hz' b fun e=>hno ⟨i,e⟩⟩
    own:=fun b ⟨k,hk⟩=>by
      rcases hback k b hk with ⟨_,h1⟩ | ⟨_,_,h1⟩
      · exact .inl ⟨i,h1⟩
      · exact .inl ⟨k,h1⟩
    zmono:=hzm
    cell:=fun _ _ _=>rfl
    shape:=fun b c e hb=>⟨c,hb,rfl⟩
    next:=fun _ hk=>.inl hk
    rho:=fun k b hb o ho hnd hk=>by
      rcases hup' k o ho with ⟨_,h2⟩ | ⟨h2,_⟩ | ⟨h1,h2,_⟩
      · exact absurd h2 hnd
      · exact absurd h2 (hidN k hk)
      · exact .inl (by rw [hrho k h2 h1];exact hb)
    rho0:=fun k hb hk o ho hnd=>by
      rcases hup' k o ho with ⟨_,h2⟩ | ⟨h2,_⟩ | ⟨h1,h2,_⟩
      · exact absurd h2 hnd
      · exact absurd h2 (hidN k hk)
      · exact .inl (by rw [hrho k h2 h1];exact hb)
    rows:=fun k hk s r ho=>by
      rcases hup' k _ ho with ⟨_,h2⟩ | ⟨_,h2⟩ | ⟨_,_,h2⟩
      · cases h2
      · cases h2
      · exact ⟨r,h2,rfl⟩
    tips:=fun k hk s l ho=>by
      rcases hup' k _ ho with ⟨_,h2⟩ | ⟨h2,_⟩ | ⟨_,_,h2⟩
      · cases h2
      · exact absurd h2 (hidN k hk)
      · exact ⟨l,h2,Nat.le_refl _⟩
    maps:=fun k hk es ho=>by
      rcases hup' k _ ho with ⟨_,h2⟩ | ⟨_,h2⟩ | ⟨_,_,h2⟩
      · cases h2
      · cases h2
      · exact ⟨es,h2⟩
    lps:=fun k hk ll RR s pe ho=>by
      rcases hup' k _ ho with ⟨_,h2⟩ | ⟨_,h2⟩ | ⟨_,_,h2⟩
      · cases h2
      · cases h2
      · exact ⟨s,pe,h2⟩}
  have hval:(g.ρ i=none∧all=[]∧v0=.slice none 0 0)∨∃ b cap c e,g.ρ i=some b∧v0=.slice (some ⟨b,0,none⟩) all.length cap∧all.length≤cap∧w.heap[b]?=some (.cells c e (0,0))∧cap*sz≤c.size ∧
      (∀ row∈all,row.length=sz)∧∀ (k:Nat) (row:List IV) (j:Nat) (y:IV),all[k]?=some row→row[j]?=some y→∃ cv,c[k*sz+j]?=some cv∧cv.oneCell'=true∧RI g.Z w y cv:=by
    cases hv0 with
    | mslice _ _ _ _ _ _ hp=>
      obtain ⟨_,h2⟩:=hp sz _ hi
      rcases h2 with ⟨a1,a2,a3⟩ | ⟨b,cap,c,e,b1,b2,b3,b4,b5⟩
      · exact .inl ⟨a1,by simpa using a2,a3⟩
      · have hobj:=R.obj i b _ b1 hi
        obtain ⟨z0,c2,e2,c3,c4,c5⟩:=hobj
        rw [b4] at c3
        cases c3
        refine .inr ⟨b,cap,c,e,b1,by simpa using b2,b3,b4,by simpa using b5,fun row hr => ?_,fun k row j y hk hj => ?_⟩
        · obtain ⟨k,hk⟩:=List.getElem?_of_mem hr
          have:=c4 k (row.map AV.imm) (by rw [List.getElem?_map,hk];rfl)
          simpa using this
        · obtain ⟨cv,u1,u2,u3⟩:=c5 k (row.map AV.imm) j (.imm y) (by rw [List.getElem?_map,hk];rfl) (by rw [List.getElem?_map,hj];rfl)
          cases u3 with
          | imm _ _ hri=>exact ⟨cv,u1,u2,hri⟩
  refine ⟨g',hrho,fun b h1 h2=>by rw [hz' b h2];exact h1,E,⟨fun k l b hk hl => ?_,fun k b hk => ?_,fun k o ho => ?_,fun k b o hk ho => ?_,fun k s l ho hn => ?_,fun b hb => ?_,R.fix.evo E⟩,?_⟩
  · rcases hback k b hk with ⟨h1,h2⟩ | ⟨h1,h2,h3⟩<;>rcases hback l b hl with ⟨h4,h5⟩ | ⟨h4,h5,h6⟩
    · rw [h1,h4]
    · exact absurd (R.inj _ _ b h6 h2) h5
    · exact absurd (R.inj _ _ b h3 h5) h2
    · exact R.inj _ _ b h3 h6
  · rcases hback k b hk with ⟨h1,h2⟩ | ⟨h1,h2,h3⟩
    · exact ⟨(R.lt i b h2).1,.inr h1⟩
    · exact ⟨(R.lt k b h3).1,.inl (R.lt k b h3).2⟩
  · rcases hup' k o ho with ⟨h1,_⟩ | ⟨h1,_⟩ | ⟨_,_,h1⟩
    · exact .inl (h1 ▸ hN)
    · exact .inr h1
    · exact .inl (R.key k o h1)
  · rcases hback k b hk with ⟨h1,h2⟩ | ⟨h1,h2,h3⟩
    · rcases hup' k o ho with ⟨h4,_⟩ | ⟨_,h4⟩ | ⟨_,h4,_⟩
      · exact absurd (h4.symm.trans h1) hne
      · subst h4
        rcases hval with ⟨a1,_⟩ | ⟨b',cap,c,e,b1,b2,b3,b4,b5,b6,_⟩
        · rw [a1] at h2;cases h2
        · rw [b1] at h2;cases h2
          refine ⟨c,e,b4,by simp only [g',if_pos b1],Nat.le_trans (Nat.mul_le_mul_right _ b3) b5⟩
      · exact absurd h1 h4
    · rcases hup' k o ho with ⟨h4,_⟩ | ⟨h4,_⟩ | ⟨_,_,h4⟩
      · exact absurd h4 h2
      · exact absurd h4 h1
      · exact (R.obj k b o h3 h4).keep E rfl (hz' b fun e=>h2 (R.inj _ _ b h3 e))
  · rcases hup' k _ ho with ⟨_,h1⟩ | ⟨h1,h2⟩ | ⟨h1,h2,h3⟩
    · cases h1
    · cases h2
      rw [h1,hrid] at hn
      rcases hval with ⟨_,a2,_⟩ | ⟨b,_,_,_,b1,_⟩
      · rw [a2];rfl
      · rw [b1] at hn;cases hn
    · exact R.tip0 k s l h3 (by rw [←hrho k h2 h1];exact hn)
  · by_cases e:g.ρ i=some b
    · exact (R.lt i b e).1
    · rw [hz' b e] at hb;exact R.zlt b hb
  · rcases hval with ⟨a1,a2,a3⟩ | ⟨b,cap,c,e,b1,b2,b3,b4,b5,b6,b7⟩
    · subst a2 a3
      refine .gslice id [] _ .nil (.inr rfl) fun s l hs => ?_
      rcases hup' id _ hs with ⟨_,h1⟩ | ⟨_,h1⟩ | ⟨_,h1,_⟩
      · cases h1
      · cases h1
        exact ⟨Nat.le_refl _,fun k row hk=>by simp at hk,fun _=>.inl ⟨by rw [hrid];exact a1,rfl⟩⟩
      · exact absurd rfl h1
    · subst b2
      have hzb:g'.Z b=all.length*sz:=by simp only [g',if_pos b1]
      have hsl:∀ (k:Nat) (row:List IV),all[k]?=some row→row.length=sz:=fun k row hk=>b6 row (List.mem_of_getElem? hk)
      refine .gslice id all _ ?_ (.inr rfl) fun s l hs => ?_
      · refine .slice all b 0 cap sz (fun k j=>(c[k*sz+j]?).getD default) b3 hsl (fun k row j y hk hj => ?_) (fun k row j y hk hj => ?_) (fun k row j y hk hj => ?_)
        · have h1:=hsl k row hk
          have h2:j < row.length:=(List.getElem?_eq_some_iff.1 hj).1
          have h3:k < all.length:=(List.getElem?_eq_some_iff.1 hk).1
          have h4:(k+1)*sz≤all.length*sz:=Nat.mul_le_mul_right _ h3
          rw [Nat.add_mul] at h4
          rw [hzb];omega
        · obtain ⟨cv,u1,u2,u3⟩:=b7 k row j y hk hj
          rw [Nat.zero_add,qA b4,u1]
          exact ⟨rfl,u2⟩
        · obtain ⟨cv,u1,u2,u3⟩:=b7 k row j y hk hj
          rw [u1]
          exact u3.mono hzm (fun _ _ _=>rfl)
      · rcases hup' id _ hs with ⟨_,h1⟩ | ⟨_,h1⟩ | ⟨_,h1,_⟩
        · cases h1
        · cases h1
          exact ⟨Nat.le_refl _,hsl,fun _=>.inr ⟨b,cap,c,e,by rw [hrid];exact b1,rfl,b4,b5⟩⟩
        · exact absurd rfl h1
end
theorem zer {st:St} (t a0 b0 id sz i sz':Nat) (rows:List (List AV)) (r j:Nat) (row:List AV) (all:List (List IV)) (ht:za st.env t=some (.ptr id a0 b0)) (ho:za st.heap id=some (.rows sz rows)) (hr:rows[r]?=some row) (hj:row[j]?=some (.mslice i 0 all.length))
    (hi:za st.heap i=some (.rows sz' (all.map fun r=>r.map AV.imm))) (hne:i≠id) :
    Weak st ⟨st.env,zl (zl (zs st.heap st.next (.tip sz' all.length)) i .dead) id (.rows sz (rows.set r (row.set j (.gslice st.next all)))),st.next+1⟩:=by
  intro C nt g a w R
  have hidn:id < st.next:=R.heap.key _ _ ho
  have hin:i < st.next:=R.heap.key _ _ hi
  obtain ⟨bo,hbo,_⟩:∃ b,g.ρ id=some b∧True:=by
    have:=R.env.slot t _ ht
    cases this with
    | ptr _ _ _ _ _ _ hp=>obtain ⟨b,hb,_⟩:=hp _ _ ho;exact ⟨b,hb,trivial⟩
  obtain ⟨z0,c0,e0,k1,k2,k3⟩:=R.heap.obj id bo _ hbo ho
  obtain ⟨cv0,q1,q2,q3⟩:=k3 r row j _ hr hj
  obtain ⟨g',hrho,hzz,E,H,hv⟩:=zcU (id:=st.next) R.heap (Nat.lt_irrefl _) hi q3
  rw [xm] at E H hv
  have e1:hup [(i,AObj.dead),(st.next,AObj.tip sz' all.length)] (za st.heap)=za (zl (zs st.heap st.next (.tip sz' all.length)) i .dead):=by
    funext k;simp only [hup,zm,zq]
  rw [e1] at E H hv
  obtain ⟨hp1,hhp1⟩:∃ hp,hp=zl (zs st.heap st.next (.tip sz' all.length)) i .dead:=⟨_,rfl⟩
  rw [←hhp1] at E H hv ⊢
  have hgid:g'.ρ id=g.ρ id:=hrho id (by omega) (fun e=>hne e.symm)
  have ho':za hp1 id=some (.rows sz rows):=by rw [hhp1,zm,if_neg hne,zq,if_neg (by omega)];exact ho
  have hh:∀ k o,za (zl hp1 id (.rows sz (rows.set r (row.set j (.gslice st.next all))))) k=some o→(k=id∧o=.rows sz (rows.set r (row.set j (.gslice st.next all))))∨(k≠id∧za hp1 k=some o):=fun k o h=>by
    rw [zm] at h
    split at h
    · rename_i e;exact .inl ⟨e.symm,by cases h;rfl⟩
    · rename_i e;exact .inr ⟨fun e2=>e e2.symm,h⟩
  have E2:Evo g' (za hp1) (· < st.next+1) w g' (za (zl hp1 id (.rows sz (rows.set r (row.set j (.gslice st.next all)))))) (· < st.next+1) w:={Evo.refl g' (za hp1) (· < st.next+1) w with
    rho:=fun i b hb _ _ _ _=>.inl hb
    rho0:=fun i hb _ _ _ _=>.inl hb
    rows:=fun i _ s q h1=>by
      rcases hh i _ h1 with ⟨e1,e2⟩ | ⟨_,e2⟩
      · subst e1;cases e2;exact ⟨_,ho',by simp⟩
      · exact ⟨q,e2,rfl⟩
    tips:=fun i _ s l h1=>by
      rcases hh i _ h1 with ⟨_,e2⟩ | ⟨_,e2⟩
      · cases e2
      · exact ⟨l,e2,Nat.le_refl _⟩
    maps:=fun i _ es h1=>by
      rcases hh i _ h1 with ⟨_,e2⟩ | ⟨_,e2⟩
      · cases e2
      · exact ⟨es,e2⟩
    lps:=fun i _ ll RR s pe h1=>by
      rcases hh i _ h1 with ⟨_,e2⟩ | ⟨_,e2⟩
      · cases e2
      · exact ⟨s,pe,e2⟩}
  refine ⟨g',⟨⟨R.env.size,(R.env.defers.evo E).evo E2,fun t x hx=>((R.env.slot t x hx).mono E).mono E2⟩,⟨H.inj,H.lt,fun i o h1 => ?_,fun i b o h1 h2 => ?_,fun i s l h1 h2 => ?_,H.zlt,H.fix.evo E2⟩⟩,fun g0 st0 w0 hm E0=>Evo.trans (Evo.trans E0 E) E2⟩
  · rcases hh i o h1 with ⟨e1,_⟩ | ⟨_,e2⟩
    · subst e1;exact H.key _ _ ho'
    · exact H.key i o e2
  · rcases hh i o h2 with ⟨e1,e2⟩ | ⟨_,e2⟩
    · rw [e1,hgid,hbo] at h1
      have hro:=H.obj _ b _ (by rw [hgid,hbo];exact h1) ho'
      cases h1
      subst e2
      simp only [RObj] at hro ⊢
      obtain ⟨a1,c,e,a2,a3,a4⟩:=hro
      rw [k1] at a2
      cases a2
      have hrl:r < rows.length:=(List.getElem?_eq_some_iff.1 hr).1
      have hjl:j < row.length:=(List.getElem?_eq_some_iff.1 hj).1
      refine ⟨a1,c0,e0,k1,fun i q hi => ?_,fun i q k x hi hk => ?_⟩
      · rw [List.getElem?_set] at hi
        split at hi
        · rename_i e3;subst e3;cases hi;simpa using a3 _ row hr
        · exact a3 i q hi
      · rw [List.getElem?_set] at hi
        split at hi
        · rename_i e3
          subst e3
          cases hi
          rw [List.getElem?_set] at hk
          split at hk
          · rename_i e4
            subst e4
            cases hk
            exact ⟨cv0,q1,q2,hv.mono E2⟩
          · obtain ⟨cv,b1,b2,b3⟩:=a4 _ row k x hr hk
            exact ⟨cv,b1,b2,b3.mono E2⟩
        · obtain ⟨cv,b1,b2,b3⟩:=a4 i q k x hi hk
          exact ⟨cv,b1,b2,b3.mono E2⟩
    · exact (H.obj i b o h1 e2).keep E2 rfl rfl
  · rcases hh i _ h1 with ⟨_,e2⟩ | ⟨_,e2⟩
    · cases e2
    · exact H.tip0 i s l e2 h2
end
section
def Kr:List Nat→List AV→List (Nat×AV)→List (Nat×AV)
  | p::ps,x::xs,env=>Kr ps xs (zl env p x)
  | _,_,env=>env
def CtxY.round (C:CtxY) (l:Nat):CtxY:={C.toCtx with ro:=some l,at0:=none,Y:=noY,ymono:=fun _ _ _ _ _ _ _ _ h=>h,yok:=fun _ _ _ _ _ _ h=>h.elim}
def zfY (idl L:Nat) (R:LoopState→Option Code→Loop) (KK:AV→List (Nat×AObj)→Nat→Prop):Exit→St→Prop
  | .normal,s=>za s.heap idl=some (.lp L R .busy none)∧KK (.imm (.bool true)) (zl s.heap idl (.lp L R .ready none)) (s.next+1)
  | .ret,s=>za s.heap idl=some (.lp L R .busy none)∧KK (.imm (.bool false)) (zl s.heap idl (.lp L R .done (some .ret))) (s.next+1)
  | .exit id,s=>za s.heap idl=some (.lp L R .busy none)∧KK (.imm (.bool false)) (zl s.heap idl (.lp L R .done (some (.exit id)))) (s.next+1)
  | _,_=>False
def zfZ (C:CtxY) (nt:Fr) (idl L:Nat) (R:LoopState→Option Code→Loop) (y:ACode) (KK:AV→List (Nat×AObj)→Nat→Prop) (s:St):Prop:=
  za s.heap idl=some (.lp L R .ready none)∧awp (C.round L) nt y (zfY idl L R KK) ⟨s.env,zl s.heap idl (.lp L R .busy none),s.next+1⟩
def ZM (C:CtxY) (nt:Fr) (env:List (Nat×AV)) (idl L:Nat) (R:LoopState→Option Code→Loop) (ps:List Nat) (x y:ACode):Nat→Nat→List AV→List (Nat×AObj)→Nat→(AV→List (Nat×AObj)→Nat→Prop)→Prop:=
  fun l id args heap next KK=>l=L∧id=idl∧args.length=ps.length∧za heap idl=some (.lp L R .ready none) ∧
    awp (C.round L) nt x (wN (zfZ C nt idl L R y KK) (fun _ _=>False)) ⟨Kr ps args env,heap,next⟩
def zha (env:List (Nat×AV)) (idl L:Nat) (R:LoopState→Option Code→Loop) (K:Exit→St→Prop) (heap:List (Nat×AObj)) (next:Nat):Prop:=
  (za heap idl=some (.lp L R .ready none)∧K .normal ⟨env,zl heap idl (.lp L R .exhausted none),next+1⟩) ∨
  (za heap idl=some (.lp L R .done (some .ret))∧K .ret ⟨env,zl heap idl (.lp L R .exhausted (some .ret)),next+1⟩) ∨
  (∃ id,za heap idl=some (.lp L R .done (some (.exit id)))∧K (.exit id) ⟨env,zl heap idl (.lp L R .exhausted (some (.exit id))),next+1⟩)
section
variable {C:CtxY} {nt:Fr} {g g':Gh} {st:St} {a:Act} {w:World}
theorem zcV {code:Code} {f:Opd} {ps:List Nat} {x y:ACode} (hc:comp C nt.n code=some (.range f ps x y)):∃ fo psA p q,code=.rangeFunc fo psA p q∧f=C.opd fo∧ps=psA.toList∧(∀ t∈ps,t < nt.n)∧comp C nt.n p=some x∧comp C nt.n q=some y:=by
  cases code<;>simp only [comp] at hc<;>(repeat' split at hc)<;>cases hc
  rename_i hall _ _ h1 h2
  exact ⟨_,_,_,_,rfl,rfl,rfl,fun t ht=>by have:=List.all_eq_true.1 hall t ht;simpa using this,h1,h2⟩
theorem WO {env:List (Nat×AV)} {idl L:Nat} {R:LoopState→Option Code→Loop} {ps:List Nat} {x y:ACode}:∀ l id args heap next (K K':AV→List (Nat×AObj)→Nat→Prop),(∀ r h n,K r h n→K' r h n)→ZM C nt env idl L R ps x y l id args heap next K→ZM C nt env idl L R ps x y l id args heap next K':=by
  rintro l id args heap next K K' hk ⟨h1,h2,h3,h4,h5⟩
  refine ⟨h1,h2,h3,h4,qO (fun e s hs => ?_) h5⟩
  cases e with
  | normal=>
    refine ⟨hs.1,qO (fun e s hs => ?_) hs.2⟩
    cases e with
    | normal=>exact ⟨hs.1,hk _ _ _ hs.2⟩
    | ret=>exact ⟨hs.1,hk _ _ _ hs.2⟩
    | exit id=>exact ⟨hs.1,hk _ _ _ hs.2⟩
    | _=>exact hs
  | _=>exact hs
theorem zau {h:Nat→Option AObj} {N:Nat→Prop}:∀ (ps:List Nat) (args:List AV) (vs:List Value) (env:List (Nat×AV)) (a:Act),(∀ t∈ps,t < nt.n)→RE C nt g env h N a w→RVs C g h N w args vs →
    RE C nt g (Kr ps args env) h N {a with tmps:=(ps.zip vs).foldl (fun t pv=>t.setIfInBounds pv.1 pv.2) a.tmps} w
  | [],args,vs,env,a,_,R,_=>by cases args<;>exact R
  | p::ps,[],vs,env,a,_,R,hv=>by
    have:vs=[]:=List.eq_nil_of_length_eq_zero hv.1.symm
    subst this
    exact R
  | p::ps,x::xs,[],env,a,_,R,hv=>by have:=hv.1;simp at this
  | p::ps,x::xs,v::vs,env,a,hp,R,hv=>by
    have R1:=R.put p (hp p (by simp)) (hv.2 0 x v rfl rfl)
    have:=zau ps xs vs (zl env p x) (a.put (some p) v) (fun t ht=>hp t (by simp [ht])) R1 ⟨by have:=hv.1;simpa using this,fun j y u hj hu=>hv.2 (j+1) y u (by simpa using hj) (by simpa using hu)⟩
    exact this
theorem VP {heap:List (Nat×AObj)} {next:Nat} {idl L:Nat} {R:LoopState→Option Code→Loop} {s s':LoopState} {pe pe':Option Code} (H:RH C g (za heap) (· < next) w) (ho:za heap idl=some (.lp L R s pe)) (hρ:g.ρ idl=some L) :
    w.heap[L]?=some (.loop (R s pe))∧Evo g (za heap) (· < next) w g (za (zl heap idl (.lp L R s' pe'))) (· < next+1) (w.putObj L (.loop (R s' pe')))∧RH C g (za (zl heap idl (.lp L R s' pe'))) (· < next+1) (w.putObj L (.loop (R s' pe'))):=by
  have H0:=H.obj idl L _ hρ ho
  obtain ⟨hz,_,hb⟩:=H0
  have E:=JY (id:=next) H hρ hz (.lp L R s pe) (.lp L R s' pe') ho (.loop (R s' pe')) ⟨rfl,rfl⟩ (fun c e hc=>by rw [hb] at hc;cases hc)
  have hR:=Wl (id:=next) H hρ (.lp L R s' pe') (.loop (R s' pe')) (fun _ _ h=>by cases h) E ⟨hz,rfl,by rw [zE w L _ (zX hb),if_pos rfl]⟩
  rw [xm] at E hR
  have e1:hup [(idl,AObj.lp L R s' pe')] (za heap)=za (zl heap idl (.lp L R s' pe')):=by
    funext i;simp only [hup,zm]
  rw [e1] at E hR
  exact ⟨hb,E,hR⟩
theorem zes (hro:C.ro=none) {f:Opd} {ps:List Nat} {x y:ACode} {K:Exit→St→Prop} {gf:Nat} {caps:List AV} (hf:zd st.env f=.func gf [] caps) {F:AFun} (hF:qf C gf=some F.erase) (hn:caps.length+1≤F.nt)
    (h:∀ (L:Nat) (R:LoopState→Option Code→Loop) (at0:Option (Gh×St×World)) ym yk (B:Nat),
      awp ⟨C.toCtx,none,at0,ZM C nt st.env st.next L R ps x y,ym,yk⟩ ⟨F.nt,B⟩ F.body (zfC F fun _ heap next=>zha st.env st.next L R K heap next)
        ⟨q7 0 (.yld L st.next::caps),zl st.heap st.next (.lp L R .ready none),st.next+1⟩):awp C nt (.range f ps x y) K st:=by
  intro code hc g a w Rl hI
  obtain ⟨fo,psA,p,q,rfl,rfl,rfl,hps,hp,hq⟩:=zcV hc
  rw [hro]
  refine wpIn_rangeFunc ?_
  intro fn _
  have hv:=yl Rl fo
  rw [hf] at hv
  generalize hval:a.eval fo=v at hv
  cases hv with
  | func _ _ _ vf vc hlf hlc hf1 hc1=>
  obtain rfl:vf=[]:=List.eq_nil_of_length_eq_zero hlf.symm
  obtain ⟨R,hRd⟩:∃ R:LoopState→Option Code→Loop,R=fun s pe=>{state:=s,pending:=pe,fn,tmps:=a.tmps,params:=psA,assign:=p,body:=q,defers:=w.heap.size}:=⟨_,rfl⟩
  have hRs:∀ s s' pe pe',{R s pe with state:=s',pending:=pe'}=R s' pe':=fun s s' pe pe'=>by rw [hRd]
  have hB:Below w.heap.size w (w.alloc (.deferred (some []))):=(Below.refl _ w).alloc (Nat.le_refl _) _
  have E0:Evo g (za st.heap) (· < st.next) w g (za st.heap) (· < st.next) (w.alloc (.deferred (some []))):=xC Rl.heap hB (fun _ _=>rfl)
  have H0:RH C g (za st.heap) (· < st.next) (w.alloc (.deferred (some []))):=kz Rl.heap hB (fun _ _=>rfl) (fun b hb=>by have:=Rl.heap.zlt b hb;simp;omega)
  have hid:¬ (st.next < st.next):=Nat.lt_irrefl _
  have E1:=JX (id:=st.next) H0 hid (.loop (R .ready none)) (.lp (w.heap.size+1) R .ready none) 0
  have H1:=KJ (id:=st.next) H0 hid (.loop (R .ready none)) (.lp (w.heap.size+1) R .ready none) 0 ⟨by simp [Gh.at],by simp,z8 _ _⟩
  have e1:hup [(st.next,AObj.lp (w.heap.size+1) R .ready none)] (za st.heap)=za (zl st.heap st.next (.lp (w.heap.size+1) R .ready none)):=by
    funext i;simp only [hup,zm]
  rw [xm,e1] at E1 H1
  obtain ⟨W1,hW1⟩:∃ W1,(w.alloc (.deferred (some []))).alloc (.loop (R .ready none))=W1:=⟨_,rfl⟩
  rw [hW1] at E1 H1
  have hl:(w.alloc (.deferred (some []))).heap.size=w.heap.size+1:=by simp
  rw [hl] at E1 H1
  obtain ⟨g1,hg1⟩:∃ g1,g.at st.next (w.heap.size+1) 0=g1:=⟨_,rfl⟩
  have hρ:g1.ρ st.next=some (w.heap.size+1):=by rw [←hg1];simp [Gh.at]
  have hown:¬ wI g1 w.heap.size:=by
    rw [←hg1]
    rintro ⟨i,hi⟩
    simp only [Gh.at] at hi
    split at hi
    · have:=Option.some.inj hi;omega
    · have:=(Rl.heap.lt i _ hi).1;omega
  rw [hg1] at E1 H1
  have E01:=Evo.trans E0 E1
  have hD1:W1.heap[w.heap.size]?=some (.deferred (some [])):=by
    rw [←hW1];exact (qp _ _ (by simp)).trans (z8 _ _)
  have M1:Marks nt.B g1 W1 ({target:=.collected w.heap.size,args := #[]}::a.defers):=by
    obtain ⟨m0,Ds,m1,m2,m3⟩:=Rl.env.defers
    refine ⟨Nat.le_trans m0 E01.size,w.heap.size::Ds,by rw [m1];rfl,List.nodup_cons.2 ⟨fun hm => ?_,m2⟩,fun D hD => ?_⟩
    · have:=(Array.getElem?_eq_some_iff.1 (m3 _ hm).2.1).1;omega
    · rcases List.mem_cons.1 hD with rfl | hD
      · exact ⟨m0,hD1,hown⟩
      · obtain ⟨n1,n2,n3⟩:=m3 D hD
        have hlt:=(Array.getElem?_eq_some_iff.1 n2).1
        exact ⟨n1,(E01.old D hlt n3).1.trans n2,fun ho=>(E01.own D ho).elim n3 (fun h=>by omega)⟩
  have yk:∀ l id args heap next KK,ZM C nt st.env st.next (w.heap.size+1) R psA.toList x y l id args heap next KK→∀ (g':Gh) (w':World) (vs:List Value),RH C g' (za heap) (· < next) w'→RVs C g' (za heap) (· < next) w' args vs→(∀ R s pe,za heap id=some (.lp l R s pe)→g'.ρ id=some l) →
      Evo g1 (za (zl st.heap st.next (.lp (w.heap.size+1) R .ready none))) (· < st.next+1) W1 g' (za heap) (· < next) w' →
      YieldAt Fence.wide 0 C.P l vs.toArray w' fun e w''=>∃ v r heap' next' g'',e=.returned v∧KK r heap' next'∧Evo g' (za heap) (· < next) w' g'' (za heap') (· < next') w''∧RH C g'' (za heap') (· < next') w''∧RV C g'' (za heap') (· < next') w'' r v:=by
    rintro l id args heap next KK ⟨rfl,rfl,hlen,hrec,hwp⟩ g' w' vs H' hvs hlp E'
    have hρ':=hlp R _ _ hrec
    have hb':w'.heap[w.heap.size+1]?=some (.loop (R .ready none)):=(H'.obj _ _ _ hρ' hrec).2.2
    have hszs:vs.toArray.size=(R .ready none).params.size:=by rw [hRd];have:=hvs.1;simp only [List.size_toArray];rw [←this,hlen];simp
    have hy:=run_yield (P:=C.P) hb' hszs
    refine ⟨_,_,_,_,hy,?_⟩
    rw [hRd]
    simp only
    refine roundIn_of_wpIn trivial ?_
    have Etot:=Evo.trans E01 E'
    have RE0:RE C nt g' st.env (za heap) (· < next) {a with defers:=[]} w':=⟨Rl.env.size,Marks.nil _ (Nat.le_trans Rl.env.defers.1 Etot.size),fun t z hz=>(Rl.env.slot t z hz).mono Etot⟩
    have RE1:=zau psA.toList args vs st.env {a with defers:=[]} hps RE0 hvs
    have hz:(psA.zip vs.toArray).foldl (fun tmps (t,a)=>tmps.setIfInBounds t a) a.tmps=(psA.toList.zip vs).foldl (fun t pv=>t.setIfInBounds pv.1 pv.2) a.tmps:=by
      rw [←Array.foldl_toList];simp
    rw [hz]
    refine Code.wpIn_mono ?_ (hwp p hp g' _ w' ⟨RE1,H'⟩ trivial)
    rintro e a1 w1 ⟨st1,g1',hk,R1,E2⟩
    cases e with
    | normal=>
      obtain ⟨hk1,hk2⟩:=hk
      have hρ1:g1'.ρ st.next=some (w.heap.size+1):=by
        rcases E2.rho _ _ hρ' _ hk1 (by simp) (H'.key _ _ hrec) with h4 | ⟨_,_,_,_,_,e2,_⟩
        · exact h4
        · cases e2
      obtain ⟨hb1,E3,H3⟩:=VP (s':=.busy) (pe':=none) R1.heap hk1 hρ1
      refine ⟨_,run_beginRound hb1 (by rw [hRd]),?_⟩
      have e3:({R .ready none with state:=.busy}:Loop)=R .busy none:=by rw [hRd]
      rw [e3]
      have R3:Rel C nt g1' ⟨st1.env,zl st1.heap st.next (.lp (w.heap.size+1) R .busy none),st1.next+1⟩ a1 (w1.putObj (w.heap.size+1) (.loop (R .busy none))):=⟨R1.env.mono E3,H3⟩
      refine Code.wpIn_mono ?_ (hk2 q hq g1' a1 _ R3 trivial)
      rintro e a4 w4 ⟨st4,g4,hk4,R4,E4⟩
      have fin:∀ (jump:Option Code),za st4.heap st.next=some (.lp (w.heap.size+1) R .busy none)→KK (.imm (.bool jump.isNone)) (zl st4.heap st.next (.lp (w.heap.size+1) R (if jump.isNone then .ready else .done) jump)) (st4.next+1) →
          ∃ v w'',(Instr.endRound (w.heap.size+1) jump).run C.P w4=.ok v w''∧∃ v' r heap' next' g'',Ending.returned v=.returned v'∧KK r heap' next'∧Evo g' (za heap) (· < next) w' g'' (za heap') (· < next') w''∧RH C g'' (za heap') (· < next') w''∧RV C g'' (za heap') (· < next') w'' r v':=fun jump h5 h6=>by
        have hρ4:g4.ρ st.next=some (w.heap.size+1):=by
          rcases E4.rho _ _ hρ1 _ h5 (by simp) (R3.heap.key st.next (.lp (w.heap.size+1) R .busy none) (by simp only [zm,if_true])) with h7 | ⟨_,_,_,_,_,e2,_⟩
          · exact h7
          · cases e2
        obtain ⟨hb4,E5,H5⟩:=VP (s':=if jump.isNone then .ready else .done) (pe':=jump) R4.heap h5 hρ4
        have hrun:=run_endRound (P:=C.P) jump hb4
        have e5:({R .busy none with state:=if jump.isNone then .ready else .done,pending:=jump}:Loop)=R (if jump.isNone then .ready else .done) jump:=by rw [hRd]
        rw [e5] at hrun
        exact ⟨_,_,hrun,_,_,_,_,g4,rfl,h6,Evo.trans (Evo.trans (Evo.trans E2 E3) E4) E5,H5,.imm _ _ (.bool _)⟩
      cases e with
      | normal=>exact fin none hk4.1 hk4.2
      | ret=>exact fin (some .ret) hk4.1 hk4.2
      | exit id=>exact fin (some (.exit id)) hk4.1 hk4.2
      | _=>exact hk4.elim
    | _=>exact hk.elim
  have hargs:RVs C g1 (za (zl st.heap st.next (.lp (w.heap.size+1) R .ready none))) (· < st.next+1) W1 (.yld (w.heap.size+1) st.next::caps) (.func (.yield (w.heap.size+1)) #[] #[]::vc):=by
    refine ⟨by simp [hlc],fun j z u hj hu => ?_⟩
    cases j with
    | zero=>
      simp at hj hu
      subst hj hu
      exact .yld _ _ (Nat.lt_succ_self _) fun R' s pe he=>hρ
    | succ j=>exact (hc1 j z u (by simpa using hj) (by simpa using hu)).mono E01
  have hcall:=Xy (C:=⟨C.toCtx,none,some (g1,⟨[],zl st.heap st.next (.lp (w.heap.size+1) R .ready none),st.next+1⟩,W1),ZM C nt st.env st.next (w.heap.size+1) R psA.toList x y,WO,yk⟩) rfl hF (by simpa [Nat.add_comm] using hn)
    (h (w.heap.size+1) R (some (g1,⟨[],zl st.heap st.next (.lp (w.heap.size+1) R .ready none),st.next+1⟩,W1)) WO yk) H1 hargs (Evo.refl _ _ _ _)
  obtain ⟨fnF,codeF,hfnF,hcodeF,hnameF,_⟩:=kA hF
  have eg:∀ args w,(callFunc (C.fnum gf) args).run C.P w=.ok (.enter (C.fnum gf) args) w:=fun args w=>by
    have h4:¬ fnF.body=none:=fun h=>by simp [h] at hcodeF
    have h5 : ¬ fnF.name = "runtime.NumGoroutine" := fun h => by simp [h] at hnameF
    simp [callFunc,hfnF,h4,h5]
  refine ⟨w.heap.size+1,[{target:=.collected w.heap.size,args := #[]}],W1,{target:=.fn (.func (C.fnum gf)) vc.toArray,args := #[.func (.yield (w.heap.size+1)) #[] #[]]},W1,C.fnum gf,
    #[.func (.yield (w.heap.size+1)) #[] #[]]++vc.toArray,W1,?_,?_,fun _ _=>trivial,?_,fun h=>(by cases h),?_⟩
  · rw [←hW1,hRd];exact run_enterLoop_outer _ _ _ _ _
  · simp only [resolve,hval]
    simp [go_sem]
  · simp [invoke,go_sem,eg]
  · have harr : #[Value.func (.yield (w.heap.size+1)) #[] #[]]++vc.toArray=(Value.func (.yield (w.heap.size+1)) #[] #[]::vc).toArray:=by apply Array.ext';simp
    rw [harr]
    refine (callsIn_wide.2 hcall).mono ?_
    rintro e w2 ⟨v,r,heap',next',g2,rfl,hK,E2,H2,_⟩
    have fin:∀ (s:LoopState) (pe:Option Code),s≠.busy→za heap' st.next=some (.lp (w.heap.size+1) R s pe)→(Instr.endLoop (w.heap.size+1)).run C.P w2=.ok pe (w2.putObj (w.heap.size+1) (.loop (R .exhausted pe))) ∧
        Rel C nt g2 ⟨st.env,zl heap' st.next (.lp (w.heap.size+1) R .exhausted pe),next'+1⟩ {a with defers:={target:=.collected w.heap.size,args := #[]}::a.defers} (w2.putObj (w.heap.size+1) (.loop (R .exhausted pe))) ∧
        EvoS g st w g2 ⟨st.env,zl heap' st.next (.lp (w.heap.size+1) R .exhausted pe),next'+1⟩ (w2.putObj (w.heap.size+1) (.loop (R .exhausted pe))):=fun s pe hs ho=>by
      have hρ2:g2.ρ st.next=some (w.heap.size+1):=by
        rcases E2.rho _ _ hρ _ ho (by simp) (Nat.lt_succ_self _) with h4 | ⟨_,_,_,_,_,e2,_⟩
        · exact h4
        · cases e2
      obtain ⟨hb2,E3,H3⟩:=VP (s':=.exhausted) (pe':=pe) H2 ho hρ2
      have hrun:=run_endLoop (P:=C.P) hb2 (by rw [hRd];exact hs)
      have e5:({R s pe with state:=.exhausted}:Loop)=R .exhausted pe:=by rw [hRd]
      have e6:(R s pe).pending=pe:=by rw [hRd]
      rw [e5,e6] at hrun
      have E13:=Evo.trans E2 E3
      exact ⟨hrun,⟨⟨Rl.env.size,M1.evo E13,fun t z hz=>((Rl.env.slot t z hz).mono E01).mono E13⟩,H3⟩,Evo.trans E01 E13⟩
    rcases hK with ⟨h1,h2⟩ | ⟨h1,h2⟩ | ⟨id,h1,h2⟩
    · obtain ⟨f1,f2,f3⟩:=fin _ _ (by simp) h1
      exact ⟨none,_,f1,_,g2,h2,f2,f3⟩
    · obtain ⟨f1,f2,f3⟩:=fin _ _ (by simp) h1
      exact ⟨some .ret,_,f1,wpIn_ret ⟨_,g2,h2,f2,f3⟩⟩
    · obtain ⟨f1,f2,f3⟩:=fin _ _ (by simp) h1
      exact ⟨some (.exit id),_,f1,wpIn_exit ⟨_,g2,h2,f2,f3⟩⟩
end
end
def Zk:Nat→List (List Int)→List (Nat×AObj)
  | _,[]=>[]
  | b,L::r=>bif Nat.blt b 2000000 then (b,.tip 1 L.length)::Zk (b+1) r else []
def xy (Ls:List (List Int)):List (Nat×AObj):=(qK,.dead)::Zk zC Ls
def kG:List (Nat×AObj)→List (Nat×AObj)
  | []=>[]
  | (k,o)::r=>match Nat.beq k qK with
    | true=>[]
    | false=>(k,o)::kG r
def Zl:List (Nat×AObj)→List (Nat×AObj)
  | []=>[]
  | (k,o)::r=>match Nat.beq k qK with
    | true=>(k,o)::r
    | false=>Zl r
def vq:List (Nat×AObj)→Bool
  | []=>true
  | (k,o)::r=>match Nat.beq k qK with
    | true=>true
    | false=>(Nat.blt k qK||Nat.ble 2000000 k)&&vq r
theorem YC:∀ (Ls:List (List Int)) (b:Nat),(qi b Ls).length=Ls.length
  | [],_=>rfl
  | L::r,b=>by simp [qi,YC r]
theorem YD:∀ (Ls:List (List Int)) (b k:Nat) (L:List Int),(qi b Ls).set k (wE (b+k) L)=qi b (Ls.set k L)
  | [],b,k,L=>by simp [qi]
  | M::r,b,0,L=>by simp [qi]
  | M::r,b,k+1,L=>by
    simp only [qi,List.set_cons_succ]
    rw [←YD r (b+1) k L,show b+1+k=b+(k+1) by omega]
theorem YE:∀ (Ls:List (List Int)) (b j:Nat),za (Zk b Ls) j=if b≤j∧j < 2000000 then (Ls[j - b]?).map (fun L=>AObj.tip 1 L.length) else none
  | [],b,j=>by simp [Zk,za]
  | L::r,b,j=>by
    simp only [Zk]
    cases h:Nat.blt b 2000000 with
    | false=>
      have:¬ b < 2000000:=fun hb=>by rw [show Nat.blt b 2000000=true by simpa [Nat.blt_eq] using hb] at h;cases h
      simp only [cond_false,za]
      rw [if_neg (by omega)]
    | true=>
      have hb:b < 2000000:=by simpa [Nat.blt_eq] using h
      simp only [cond_true,za]
      by_cases e:b=j
      · subst e
        rw [if_pos rfl,if_pos ⟨Nat.le_refl _,hb⟩];simp
      · rw [if_neg e,YE r (b+1) j]
        by_cases h2:b≤j∧j < 2000000
        · obtain ⟨k,hk⟩:∃ k,j - b=k+1:=⟨j - b - 1,by omega⟩
          rw [if_pos (by omega),if_pos h2,hk,show j - (b+1)=k by omega,List.getElem?_cons_succ]
        · rw [if_neg (by omega),if_neg h2]
theorem wF (Ls:List (List Int)) (j:Nat):za (xy Ls) j=if j=qK then some .dead else if zC≤j∧j < 2000000 then (Ls[j - zC]?).map (fun L=>AObj.tip 1 L.length) else none:=by
  simp only [xy,za]
  by_cases e:qK=j
  · rw [if_pos e,if_pos e.symm]
  · rw [if_neg e,if_neg (fun h=>e h.symm),YE]
theorem wU {α:Type}:∀ (a b:List (Nat×α)) (j:Nat),za (a++b) j=(za a j).or (za b j)
  | [],b,j=>by simp [za]
  | (k,v)::a,b,j=>by
    simp only [List.cons_append,za]
    by_cases e:k=j
    · rw [if_pos e,if_pos e];rfl
    · rw [if_neg e,if_neg e];exact wU a b j
theorem zav:∀ l:List (Nat×AObj),kG l++Zl l=l
  | []=>rfl
  | (k,o)::r=>by
    simp only [kG,Zl]
    split
    · rfl
    · rw [List.cons_append,zav r]
theorem yr (l:List (Nat×AObj)) (j:Nat):za l j=(za (kG l) j).or (za (Zl l) j):=by
  conv=>lhs;rw [←zav l]
  exact wU _ _ _
theorem Qs:∀ {l:List (Nat×AObj)},vq l=true→∀ {j:Nat} {o:AObj},za (kG l) j=some o→j < qK∨2000000≤j
  | [],h,j,o,e=>by cases e
  | (k,v)::r,h,j,o,e=>by
    simp only [vq,kG] at h e
    split at h
    · rename_i hk;rw [hk] at e;cases e
    · rename_i hk
      rw [hk] at e
      simp only [Bool.and_eq_true,Bool.or_eq_true] at h
      simp only [za] at e
      split at e
      · rename_i ek
        subst ek
        rcases h.1 with h1 | h1
        · exact .inl (by simpa [Nat.blt_eq] using h1)
        · exact .inr (Nat.le_of_ble_eq_true h1)
      · exact Qs h.2 e
structure NestH (heap:List (Nat×AObj)) (P:Nat) (Ls:List (List Int)):Prop where
  obj:za heap P=some (.rows 1 (qi zC Ls))
  tail:Zl heap=xy Ls
  out:vq heap=true
theorem NestH.tip {heap:List (Nat×AObj)} {P:Nat} {Ls:List (List Int)} (h:NestH heap P Ls) {k:Nat} {L:List Int} (hL:Ls[k]?=some L) (hk:k < 1000000):za heap (zC+k)=some (.tip 1 L.length):=by
  rw [yr]
  cases e:za (kG heap) (zC+k) with
  | some o=>have:=Qs h.out e;simp only [zC,qK] at this;omega
  | none=>
    rw [Option.none_or,h.tail,wF,if_neg (by simp only [zC,qK];omega),if_pos (by simp only [zC];omega),show zC+k - zC=k by omega,hL];rfl
theorem YF:∀ (Ls:List (List Int)) (b:Nat) (p:Nat×AObj),p∈Zk b Ls→∃ (k:Nat) (L:List Int),Ls[k]?=some L∧p=(b+k,.tip 1 L.length)∧b+k < 2000000
  | [],b,p,h=>by simp [Zk] at h
  | L::r,b,p,h=>by
    simp only [Zk] at h
    cases hb:Nat.blt b 2000000 with
    | false=>rw [hb] at h;simp at h
    | true=>
      rw [hb,cond_true] at h
      rcases List.mem_cons.1 h with h | h
      · exact ⟨0,L,rfl,h,by simpa [Nat.blt_eq] using hb⟩
      · obtain ⟨k,M,h1,h2,h3⟩:=YF r (b+1) p h
        exact ⟨k+1,M,by simpa using h1,by rw [h2,show b+1+k=b+(k+1) by omega],by omega⟩
theorem zet {heap:List (Nat×AObj)} {Ls:List (List Int)} (ht:Zl heap=xy Ls) (ho:vq heap=true):∀ p∈xy Ls,za heap p.1=some p.2∧p.1 < 2000000∧∀ m,zP m p.2:=by
  intro p hp
  have hnone:∀ j,qK≤j→j < 2000000→za (kG heap) j=none:=fun j h1 h2=>by
    cases e:za (kG heap) j with
    | none=>rfl
    | some o=>have:=Qs ho e;omega
  rcases List.mem_cons.1 hp with rfl | hp
  · refine ⟨?_,by simp [qK],fun m=>trivial⟩
    rw [yr,hnone _ (Nat.le_refl _) (by simp [qK]),Option.none_or,ht,wF,if_pos rfl]
  · obtain ⟨k,L,h1,rfl,h3⟩:=YF _ _ _ hp
    refine ⟨?_,h3,fun m=>trivial⟩
    simp only
    rw [yr,hnone _ (by simp only [qK,zC];omega) h3,Option.none_or,ht,wF,if_neg (by simp only [qK,zC];omega),if_pos ⟨by omega,h3⟩,show zC+k - zC=k by omega,h1]
    rfl
theorem zf0 {env env':List (Nat×AV)} {heap heap':List (Nat×AObj)} {n:Nat} (he:∀ t x,za env' t=some x→za env t=some x) (h:∀ j o,za heap' j=some o→za heap j=some o):Weak ⟨env,heap,n⟩ ⟨env',heap',n⟩:=by
  intro C nt g a w R
  obtain ⟨RE,R⟩:=R
  simp only at RE R
  have E:Evo g (za heap) (· < n) w g (za heap') (· < n) w:={Evo.refl g (za heap) (· < n) w with
    rho:=fun i b hb _ _ _ _=>.inl hb
    rho0:=fun i hb _ _ _ _=>.inl hb
    rows:=fun i _ s r h1=>⟨r,h i _ h1,rfl⟩
    tips:=fun i _ s l h1=>⟨l,h i _ h1,Nat.le_refl _⟩
    maps:=fun i _ es h1=>⟨es,h i _ h1⟩
    lps:=fun i _ ll RR s pe h1=>⟨s,pe,h i _ h1⟩}
  refine ⟨g,⟨⟨RE.size,RE.defers,fun t x hx=>(RE.slot t x (he t x hx)).mono E⟩,⟨R.inj,R.lt,fun i o h1=>R.key i o (h i o h1),fun i b o h1 h2=>(R.obj i b o h1 (h i o h2)).keep E rfl rfl,fun i s l h1 h2=>R.tip0 i s l (h i _ h1) h2,R.zlt,R.fix.evo E⟩⟩,fun g0 st0 w0 hm E0=>E0.trans E⟩
theorem zeu {env:List (Nat×AV)} {heap:List (Nat×AObj)} {next:Nat} (P n:Nat) (hP:za heap P=some (.rows 1 (List.replicate n [.nil]))) (hn:next≤qK) :
    Weak ⟨env,heap,next⟩ ⟨env,zl heap P (.rows 1 (qi zC (List.replicate n [])))++xy (List.replicate n []),2000000⟩:=by
  intro C nt g a w R
  obtain ⟨RE,R⟩:=R
  simp only at RE R
  have hPn:P < next:=R.key _ _ hP
  have hmk:qK=999999:=rfl
  have hnb:zC=1000000:=rfl
  have hg:∀ j o,za (zl heap P (.rows 1 (qi zC (List.replicate n [])))++xy (List.replicate n [])) j=some o →
      (j=P∧o=.rows 1 (qi zC (List.replicate n [])))∨(j≠P∧j < next∧za heap j=some o)∨(j=qK∧o=.dead)∨(zC≤j∧j < 2000000∧o=.tip 1 0):=fun j o h=>by
    rw [wU,zm] at h
    by_cases e:P=j
    · rw [if_pos e] at h;cases h;exact .inl ⟨e.symm,rfl⟩
    · rw [if_neg e] at h
      cases h2:za heap j with
      | some o'=>rw [h2,Option.some_or] at h;cases h;exact .inr (.inl ⟨fun e2=>e e2.symm,R.key _ _ h2,rfl⟩)
      | none=>
        rw [h2,Option.none_or,wF] at h
        split at h
        · rename_i e3;cases h;exact .inr (.inr (.inl ⟨e3,rfl⟩))
        · split at h
          · rename_i e3
            rw [List.getElem?_replicate] at h
            split at h
            · cases h;exact .inr (.inr (.inr ⟨e3.1,e3.2,rfl⟩))
            · cases h
          · cases h
  have hold:∀ j o,j < next→j≠P→za (zl heap P (.rows 1 (qi zC (List.replicate n [])))++xy (List.replicate n [])) j=some o→za heap j=some o:=fun j o h1 h2 h3=>by
    rcases hg j o h3 with ⟨e,_⟩ | ⟨_,_,e⟩ | ⟨e,_⟩ | ⟨e,_⟩
    · exact absurd e h2
    · exact e
    · omega
    · omega
  have E:Evo g (za heap) (· < next) w g (za (zl heap P (.rows 1 (qi zC (List.replicate n [])))++xy (List.replicate n []))) (· < 2000000) w:={Evo.refl g (za heap) (· < next) w with
    next:=fun i hi=>by have hi:i < next:=hi;show i < 2000000;omega
    rho:=fun i b hb _ _ _ _=>.inl hb
    rho0:=fun i hb _ _ _ _=>.inl hb
    rows:=fun i hi s r h1=>by
      rcases hg i _ h1 with ⟨e1,e2⟩ | ⟨_,_,e2⟩ | ⟨_,e2⟩ | ⟨_,_,e2⟩
      · subst e1;cases e2;exact ⟨_,hP,by rw [YC];simp⟩
      · exact ⟨r,e2,rfl⟩
      · cases e2
      · cases e2
    tips:=fun i hi s l h1=>by
      have hi:i < next:=hi
      rcases hg i _ h1 with ⟨_,e2⟩ | ⟨_,_,e2⟩ | ⟨_,e2⟩ | ⟨e1,_,_⟩
      · cases e2
      · exact ⟨l,e2,Nat.le_refl _⟩
      · cases e2
      · omega
    maps:=fun i _ es h1=>by
      rcases hg i _ h1 with ⟨_,e2⟩ | ⟨_,_,e2⟩ | ⟨_,e2⟩ | ⟨_,_,e2⟩
      · cases e2
      · exact ⟨es,e2⟩
      · cases e2
      · cases e2
    lps:=fun i _ ll RR s pe h1=>by
      rcases hg i _ h1 with ⟨_,e2⟩ | ⟨_,_,e2⟩ | ⟨_,e2⟩ | ⟨_,_,e2⟩
      · cases e2
      · exact ⟨s,pe,e2⟩
      · cases e2
      · cases e2}
  refine ⟨g,⟨⟨RE.size,RE.defers,fun t x hx=>(RE.slot t x hx).mono E⟩,⟨R.inj,fun i b h1=>⟨(R.lt i b h1).1,E.next _ (R.lt i b h1).2⟩,fun i o h1 => ?_,fun i b o h1 h2 => ?_,fun i s l h1 h2 => ?_,R.zlt,R.fix.evo E⟩⟩,fun g0 st0 w0 hm E0=>E0.trans E⟩
  · show i < 2000000
    rcases hg i o h1 with ⟨e1,_⟩ | ⟨_,e1,_⟩ | ⟨e1,_⟩ | ⟨_,e1,_⟩<;>omega
  · rcases hg i o h2 with ⟨e1,e2⟩ | ⟨_,_,e2⟩ | ⟨e1,_⟩ | ⟨e1,_,_⟩
    · subst e1 e2
      have hro:=R.obj _ b _ h1 hP
      simp only [RObj] at hro ⊢
      obtain ⟨a1,c,e,a2,a3,a4⟩:=hro
      refine ⟨a1,c,e,a2,fun i r hi => ?_,fun i r j x hi hj => ?_⟩
      · rw [yq] at hi
        obtain ⟨L,_,rfl⟩:=Option.map_eq_some_iff.1 hi
        rfl
      · rw [yq] at hi
        obtain ⟨L,hL,rfl⟩:=Option.map_eq_some_iff.1 hi
        rw [List.getElem?_replicate] at hL
        split at hL
        · rename_i hin
          cases hL
          have hj0:j=0:=by
            by_cases hb:zC+i < 2000000
            · rw [xP hb] at hj
              cases j with
              | zero=>rfl
              | succ j=>simp at hj
            · rw [vX hb] at hj
              cases j with
              | zero=>rfl
              | succ j=>simp at hj
          subst hj0
          obtain ⟨cv,b1,b2,b3⟩:=a4 i [.nil] 0 .nil (by rw [List.getElem?_replicate,if_pos hin]) rfl
          refine ⟨cv,b1,b2,?_⟩
          rw [xh b3]
          by_cases hb:zC+i < 2000000
          · rw [xP hb] at hj
            simp only [List.getElem?_cons_zero,Option.some.injEq] at hj
            subst hj
            refine .gslice _ _ _ .nil hb fun sz len hg2 => ?_
            have:sz=1∧len=0:=by
              rcases hg _ _ hg2 with ⟨e1,_⟩ | ⟨_,e1,_⟩ | ⟨e1,_⟩ | ⟨_,_,e2⟩
              · omega
              · omega
              · omega
              · cases e2;exact ⟨rfl,rfl⟩
            obtain ⟨rfl,rfl⟩:=this
            refine ⟨Nat.le_refl _,fun i row hi=>by simp at hi,fun _=>.inl ⟨?_,rfl⟩⟩
            cases hr:g.ρ (zC+i) with
            | none=>rfl
            | some bb=>
              have h5:zC+i < next:=(R.lt _ _ hr).2
              omega
          · rw [vX hb] at hj
            simp only [List.getElem?_cons_zero,Option.some.injEq] at hj
            subst hj
            exact .imm _ _ .nil
        · cases hL
    · exact (R.obj i b o h1 e2).keep E rfl rfl
    · have h5:i < next:=(R.lt i b h1).2
      omega
    · have h5:i < next:=(R.lt i b h1).2
      omega
  · rcases hg i _ h1 with ⟨_,e2⟩ | ⟨_,_,e2⟩ | ⟨_,e2⟩ | ⟨_,_,e2⟩
    · cases e2
    · exact R.tip0 i s l e2 h2
    · cases e2
    · cases e2;rfl
theorem zaw:∀ (Ls:List (List Int)) (b:Nat),RowsLe (qi b Ls) (zb (zt zc) Ls)
  | [],_=>.nil
  | L::r,b=>by
    refine .cons ?_ (zaw r (b+1))
    by_cases hb:b < 2000000
    · rw [xP hb];exact .cons (.tip _ _) .nil
    · rw [vX hb];exact .cons (.refl _) .nil
section
inductive Tree:Type 1 where
  | tt
  | bad (why:Nat)
  | step (t:Tree)
  | all (β:Type) (f:β→Tree)
  | and (a b:Tree)
  | eq (β:Type) (a b:β) (t:Tree)
def Tree.Ok:Tree→Prop
  | .tt=>True
  | .bad _=>False
  | .step t=>t.Ok
  | .all _ f=>∀ v,(f v).Ok
  | .and a b=>a.Ok∧b.Ok
  | .eq _ a b t=>a=b∧t.Ok
def Tree.norm:Tree→Tree
  | .tt=>.tt
  | .bad _=>.tt
  | .step t=>.step t.norm
  | .all β f=>.all β fun v=>(f v).norm
  | .and a b=>.and a.norm b.norm
  | .eq β a _ t=>.eq β a a t.norm
theorem Tree.ok:∀ {t:Tree},t=t.norm→t.Ok:=by
  intro t
  induction t with
  | tt=>exact fun _=>trivial
  | bad _=>intro h;cases h
  | step t ih=>intro h;simp only [Tree.norm,Tree.step.injEq] at h;exact ih h
  | all β f ih=>
    intro h v
    simp only [Tree.norm,Tree.all.injEq,heq_eq_eq,true_and] at h
    exact ih v (congrFun h v)
  | and a b iha ihb=>intro h;simp only [Tree.norm,Tree.and.injEq] at h;exact ⟨iha h.1,ihb h.2⟩
  | eq β a b t ih=>intro h;simp only [Tree.norm,Tree.eq.injEq,heq_eq_eq,true_and] at h;exact ⟨h.1.symm,ih h.2⟩
abbrev ziI:=List Orc×List Prop
abbrev zN:=List (Nat×ziI)
def FactsOk (Φ:zN):Prop:=∀ k f,za Φ k=some f→AllP f.2
structure Spec (β:Type) where
  ks:List Nat
  ov:β→List (Nat×AV)
  hs:List Nat
  oh:β→List (Nat×AObj)
  nx:Nat
  bel:∀ b,Belows nx (oh b)
  ns:β→Option (List (List Int))
def WP (hs:List Nat):List (Nat×AObj)→List (Nat×AObj)
  | []=>[]
  | (k,o)::r=>match Nat.beq k qK with
    | true=>[]
    | false=>match hs.contains k with
      | true=>(k,o)::WP hs r
      | false=>WP hs r
def Qt:Option (List (List Int))→List (Nat×AObj)
  | Option.none=>[]
  | some Ls=>xy Ls
abbrev Spec.k {β:Type} (ks:List Nat) (ov:β→List (Nat×AV)) (hs:List Nat) (oh:β→List (Nat×AObj)) (nx:Nat) (bel:∀ b,Belows nx (oh b)):Spec β:=⟨ks,ov,hs,oh,nx,bel,fun _=>Option.none⟩
def Spec.st {β:Type} (sp:Spec β) (st:St) (b:β):St:=⟨sp.ov b++qB sp.ks st.env,sp.oh b++(WP sp.hs st.heap++Qt (sp.ns b)),sp.nx⟩
def Spec.sti {β:Type} (sp:Spec β) (st:St) (idx:Nat) (n:Int) (b:β):St:=⟨(idx,vI n)::(sp.ov b++qB sp.ks st.env),sp.oh b++(WP sp.hs st.heap++Qt (sp.ns b)),sp.nx⟩
structure WStep where
  to:St→St
  T:St→Tree→Tree
  ok:∀ st t,(T st t).Ok→t.Ok∧Weak st (to st)∧st.next≤(to st).next
structure MStep (β:Type) where
  x:Option β
  T:ACode→St→(β→St→Tree)→Tree
  ok:∀ (C:CtxY) (nt:Fr) (c:ACode) (st:St) (k:β→St→Tree) (K:Exit→St→Prop) (b:β),x=some b→(T c st k).Ok→(∀ s,(k b s).Ok→K .normal s)→awp C nt c K st
inductive Plan:Type→Type 1 where
  | ret {α:Type} (a:α):Plan α
  | fin {α:Type} (ids:List Nat) (V:AV) (objs:List (Nat×AObj)) (iv:IV) (h:zcN [V] objs [iv]) (a:α):Plan α
  | finL {α:Type} (x y:AV) (h:LeV2 x y) (a:α):Plan α
  | none {α:Type}:Plan α
  | bind {α β:Type} (x:Option β) (F:β→zN) (h:∀ v,x=some v→FactsOk (F v)) (k:β→Plan α):Plan α
  | ite {α:Type} (key:Nat) (b:Bool) (p q:Plan α):Plan α
  | fact {α:Type} (key:Nat) (o:List Orc) (ps:List Prop) (h:AllP ps) (p:Plan α):Plan α
  | use {α:Type} (j key:Nat) (p:Plan α):Plan α
  | case {α β γ:Type} (o:β ⊕ γ) (p:β→Plan α) (q:γ→Plan α):Plan α
  | cut {α β:Type} (n:Nat) (sp:Spec β) (p:Plan β) (k:β→Plan α):Plan α
  | cutO {α β γ:Type} (n:Nat) (sp:Spec β) (p:Plan (β ⊕ γ)) (k:β ⊕ γ→Plan α):Plan α
  | forR {α σ ρ:Type} (key idx:Nat) (n:Int) (s0:σ) (sp:Spec σ) (body:Nat→σ→Plan (σ ⊕ ρ)) (k:σ ⊕ ρ→Plan α):Plan α
  | iter {α σ ρ:Type} (s0:σ) (sp:Spec σ) (body:σ→Plan (σ ⊕ ρ)) (k:ρ→Plan α):Plan α
  | weak {α:Type} (n:Nat) (ws:List WStep) (p:Plan α):Plan α
  | reg {α:Type} (n:Nat) (p:Plan α):Plan α
  | man {α β:Type} (n:Nat) (m:MStep β) (k:β→Plan α):Plan α
  | swt {α:Type} (key:Nat) (n:Int) (len i:Nat) (h:Nat.blt i len=true) (p q:Plan α):Plan α
noncomputable def Plan.run {α:Type} (p:Plan α):Option α:=Plan.rec (motive:=fun α _=>Option α)
  (fun a=>some a) (fun _ _ _ _ _ a=>some a) (fun _ _ _ a=>some a) Option.none
  (fun x _ _ _ ih=>Option.bind x ih) (fun _ b _ _ ihp ihq=>bif b then ihp else ihq) (fun _ _ _ _ _ ih=>ih) (fun _ _ _ ih=>ih)
  (fun o _ _ ihp ihq=>Sum.elim ihp ihq o) (fun _ _ _ _ ihp ihk=>Option.bind ihp ihk) (fun _ _ _ _ ihp ihk=>Option.bind ihp ihk)
  (fun _ _ n s0 _ _ _ ihb ihk=>Option.bind (Go.Proofs.YtjkljacdbljkpaaGreatDoor.forR n ihb s0) ihk)
  (fun s0 _ _ _ ihb ihk=>Option.bind (Go.Proofs.YtjkljacdbljkpaaGreatDoor.iter ihb s0) ihk) (fun _ _ _ ih=>ih) (fun _ _ ih=>ih) (fun _ m _ ih=>Option.bind m.x ih) (fun _ n _ i _ _ _ ihp ihq=>bif n == (i:Int) then ihp else ihq) p
noncomputable def settle {α:Type} (p:Plan α) (Φ:zN) (k:zN→Plan α→Tree):Tree:=Plan.rec (motive:=fun α _=>zN→(zN→Plan α→Tree)→Tree)
  (fun a Φ k=>k Φ (.ret a)) (fun ids V objs iv h a Φ k=>k Φ (.fin ids V objs iv h a)) (fun x y h a Φ k=>k Φ (.finL x y h a)) (fun Φ k=>.tt)
  (fun {_ β} x F h _ ih Φ k=>.all β fun v=>ih v (F v++Φ) k)
  (fun key b _ _ ihp ihq Φ k=>.and (ihp ((key,([.g true],[b=true]))::(key+1,([.g false],[(!b)=false]))::Φ) k) (ihq ((key,([.g false],[b=false]))::(key+1,([.g true],[(!b)=true]))::Φ) k))
  (fun key o ps h _ ih Φ k=>ih ((key,(o,ps))::Φ) k) (fun j key p _ Φ k=>k Φ (.use j key p))
  (fun o _ _ ihp ihq Φ k=>match o with
    | .inl a=>ihp a Φ k
    | .inr b=>ihq b Φ k)
  (fun n sp p kk _ _ Φ k=>k Φ (.cut n sp p kk)) (fun n sp p kk _ _ Φ k=>k Φ (.cutO n sp p kk))
  (fun key idx n s0 sp body kk _ _ Φ k=>k Φ (.forR key idx n s0 sp body kk)) (fun s0 sp body kk _ _ Φ k=>k Φ (.iter s0 sp body kk))
  (fun n ws p _ Φ k=>k Φ (.weak n ws p)) (fun n p _ Φ k=>k Φ (.reg n p)) (fun n m kk _ Φ k=>k Φ (.man n m kk))
  (fun key n len i _ _ _ ihp ihq Φ k=>.and (ihp ((key,([.k i],[J4 n 0 len i]))::Φ) k) (ihq Φ k)) p Φ k
theorem FactsOk.add {Φ:zN} (h:FactsOk Φ) {key:Nat} {f:ziI} (hf:AllP f.2):FactsOk ((key,f)::Φ):=fun k g hg=>by
  simp only [za] at hg
  split at hg
  · cases hg;exact hf
  · exact h k g hg
theorem zax {α:Type}:∀ {l m:List (Nat×α)} {k:Nat} {x:α},za (l++m) k=some x→za l k=some x∨za m k=some x
  | [],m,k,x,h=>.inr h
  | (k',y)::l,m,k,x,h=>by
    simp only [List.cons_append,za] at h ⊢
    split at h
    · rename_i e;rw [if_pos e];exact .inl h
    · rename_i e;rw [if_neg e];exact zax h
theorem FactsOk.app {Φ Ψ:zN} (h:FactsOk Φ) (h':FactsOk Ψ):FactsOk (Φ++Ψ):=fun k f hf=>(zax hf).elim (h k f) (h' k f)
theorem FactsOk.nil:FactsOk []:=fun _ _ h=>by cases h
theorem qV {α:Type} (p:Plan α):∀ {Φ:zN} {k:zN→Plan α→Tree} {r:α},FactsOk Φ→(settle p Φ k).Ok→p.run=some r→∃ Φ' p',FactsOk Φ'∧p'.run=some r∧(k Φ' p').Ok:=by
  induction p with
  | ret a=>exact fun hΦ hk hr=>⟨_,_,hΦ,hr,hk⟩
  | fin ids V objs iv h a=>exact fun hΦ hk hr=>⟨_,_,hΦ,hr,hk⟩
  | finL x y h a=>exact fun hΦ hk hr=>⟨_,_,hΦ,hr,hk⟩
  | none=>intro Φ k r hΦ hk hr;cases hr
  | bind x F h kk ih=>
    intro Φ k r hΦ hk hr
    obtain ⟨v,h1,h2⟩:=vS hr
    exact ih v ((h v h1).app hΦ) (hk v) h2
  | ite key b p q ihp ihq=>
    intro Φ k r hΦ hk hr
    have hr':(bif b then p.run else q.run)=some r:=hr
    cases b with
    | true=>exact ihp ((hΦ.add (f:=([.g false],[(!true)=false])) (.cons rfl .nil)).add (f:=([.g true],[true=true])) (.cons rfl .nil)) hk.1 hr'
    | false=>exact ihq ((hΦ.add (f:=([.g true],[(!false)=true])) (.cons rfl .nil)).add (f:=([.g false],[false=false])) (.cons rfl .nil)) hk.2 hr'
  | fact key o ps h p ih=>exact fun hΦ hk hr=>ih (hΦ.add (f:=(o,ps)) h) hk hr
  | use j key p ih=>exact fun hΦ hk hr=>⟨_,_,hΦ,hr,hk⟩
  | case o p q ihp ihq=>
    intro Φ k r hΦ hk hr
    cases o with
    | inl a=>exact ihp a hΦ hk hr
    | inr b=>exact ihq b hΦ hk hr
  | cut n sp p kk _ _=>exact fun hΦ hk hr=>⟨_,_,hΦ,hr,hk⟩
  | cutO n sp p kk _ _=>exact fun hΦ hk hr=>⟨_,_,hΦ,hr,hk⟩
  | forR key idx n s0 sp body kk _ _=>exact fun hΦ hk hr=>⟨_,_,hΦ,hr,hk⟩
  | iter s0 sp body kk _ _=>exact fun hΦ hk hr=>⟨_,_,hΦ,hr,hk⟩
  | weak n ws p ih=>exact fun hΦ hk hr=>⟨_,_,hΦ,hr,hk⟩
  | reg n p ih=>exact fun hΦ hk hr=>⟨_,_,hΦ,hr,hk⟩
  | man n m kk ih=>exact fun hΦ hk hr=>⟨_,_,hΦ,hr,hk⟩
  | swt key n len i hi p q ihp ihq=>
    intro Φ k r hΦ hk hr
    have hr':(bif n == (i:Int) then p.run else q.run)=some r:=hr
    have hlt:i < len:=by simpa [Nat.blt_eq] using hi
    by_cases e:n=(i:Int)
    · rw [show (n == (i:Int))=true by simp [e]] at hr'
      exact ihp (hΦ.add (f:=([.k i],[J4 n 0 len i])) (.cons ⟨by omega,by omega,by omega⟩ .nil)) hk.1 hr'
    · rw [show (n == (i:Int))=false by simp [e]] at hr'
      exact ihq hΦ hk.2 hr'
def Plan.used {α:Type} (p:Plan α) (j:Nat):Option (Nat×Plan α):=match p with
  | .use j' key q=>match Nat.beq j' j with
    | true=>some (key,q)
    | false=>Option.none
  | _=>Option.none
theorem XV {α:Type} {p q:Plan α} {j key:Nat} (h:p.used j=some (key,q)):q.run=p.run:=by
  unfold Plan.used at h
  split at h
  · split at h
    · cases h;rfl
    · cases h
  · cases h
abbrev YT:=(l id:Nat)→(args:List AV)→(heap:List (Nat×AObj))→(next:Nat)→(α:Type)→zN→Plan α→(AV→List (Nat×AObj)→Nat→zN→Plan α→Tree)→Tree
def noT:YT:=fun _ _ _ _ _ _ _ _ _=>.bad 1183
def zcW (C:CtxY) (Yt:YT):Prop:=∀ (l id:Nat) (args:List AV) (heap:List (Nat×AObj)) (next:Nat) (α:Type) (Φ:zN) (p:Plan α) (k:AV→List (Nat×AObj)→Nat→zN→Plan α→Tree) (r:α) (KK:AV→List (Nat×AObj)→Nat→Prop),FactsOk Φ→p.run=some r→(Yt l id args heap next α Φ p k).Ok →
  (∀ v h n Φ' p',FactsOk Φ'→p'.run=some r→(k v h n Φ' p').Ok→KK v h n)→C.Y l id args heap next KK
theorem WQ (C:CtxY):zcW C noT:=fun _ _ _ _ _ _ _ _ _ _ _ _ _ h _=>h.elim
def VQ (op:AOp) (st:St):Option (Nat×Nat×List AV):=match op with
  | .call f args=>match zd st.env f with
    | .yld l id=>some (l,id,args.map (zd st.env))
    | _=>Option.none
  | _=>Option.none
theorem zay {op:AOp} {st:St} {l id:Nat} {args:List AV} (h:VQ op st=some (l,id,args)):∃ f ags,op=.call f ags∧zd st.env f=.yld l id∧args=ags.map (zd st.env):=by
  unfold VQ at h
  split at h
  · split at h
    · rename_i e;cases h;exact ⟨_,_,rfl,e,rfl⟩
    · cases h
  · cases h
section
variable (C:Ctx)
def stX (dr:Option (List Nat)) (op:AOp) (X:Nat) (st:St):St:=match dr with
  | Option.none=>st
  | some _=>match zal op with
    | true=>⟨st.env,st.heap,X⟩
    | false=>st
def zcX {α:Type} (dr:Option (List Nat)) (X:Nat) (dst:Option Nat) (j:Nat) (W R:List (Nat×Nat)) (D:List Nat) (st:St) (r:AV) (ups:List (Nat×AObj)) (rd:List Nat) (d:Nat) (next:List (Nat×Nat)→List (Nat×Nat)→List Nat→St→Nat→zN→Plan α→Tree) (Φ:zN) (q:Plan α):Tree:=match dr with
  | Option.none=>next W R (J5 D dst) (st.afterD dst r ups d) X Φ q
  | some ord=>match jR ord j W R (zT ups) rd with
    | true=>next (qQ j (zT ups) W) (qQ j rd R) (J5 D dst) (st.after dst r ups) (X+d) Φ q
    | false=>.bad 1215
def zcY {α:Type} (dr:Option (List Nat)) (X:Nat) (it:AItem) (j:Nat) (W R:List (Nat×Nat)) (D:List Nat) (st:St) (Φ:zN) (p:Plan α) (next:List (Nat×Nat)→List (Nat×Nat)→List Nat→St→Nat→zN→Plan α→Tree):Tree:=match p.used j with
  | Option.none=>match opX C it.op [] D (stX dr it.op X st) with
    | some (r,ups,rd,_,[],d)=>zcX dr X it.dst j W R D st r ups rd d next Φ p
    | _=>.bad 1209
  | some (key,q)=>match za Φ key with
    | Option.none=>.bad 1211
    | some (o,ps)=>match opX C it.op o D (stX dr it.op X st) with
      | some (r,ups,rd,_,ps',d)=>.eq (List Prop) ps' ps (zcX dr X it.dst j W R D st r ups rd d next Φ q)
      | Option.none=>.bad 1216
def zf1 {α:Type} (gd:Option (Nat×Bool)) (j:Nat) (D:List Nat) (st:St) (Φ:zN) (p:Plan α) (next:Bool→List Nat→St→zN→Plan α→Tree):Tree:=match Jl gd [] D st with
  | some (b,_,[],D',st')=>next b D' st' Φ p
  | some (_,_,_::_,_,_)=>.bad 1221
  | Option.none=>match p.used j with
    | Option.none=>.bad 1223
    | some (key,q)=>match za Φ key with
      | Option.none=>.bad 1225
      | some (o,ps)=>match Jl gd o D st with
        | some (b,_,ps',D',st')=>.eq (List Prop) ps' ps (next b D' st' Φ q)
        | Option.none=>.bad 1228
noncomputable def zf2 {α:Type} (Yt:YT) (dr:Option (List Nat)) (X:Nat) (it:AItem) (j:Nat) (W R:List (Nat×Nat)) (D:List Nat) (st:St) (Φ:zN) (p:Plan α) (next:List (Nat×Nat)→List (Nat×Nat)→List Nat→St→Nat→zN→Plan α→Tree):Tree:=match VQ it.op st with
  | Option.none=>zcY C dr X it j W R D st Φ p next
  | some (l,id,args)=>match dr with
    | Option.none=>Yt l id args st.heap st.next α Φ p fun r heap nx Φ p=>next W R (J5 D it.dst) (St.put {env:=st.env,heap:=heap,next:=nx+1} it.dst r) X Φ p
    | some _=>.bad 1234
noncomputable def Qu {α:Type} (Yt:YT) (dr:Option (List Nat)):List AItem→Nat→Nat→List (Nat×Nat)→List (Nat×Nat)→List Nat→St→zN→Plan α→(St→zN→Plan α→Tree)→Tree
  | [],_,X,_,_,_,st,Φ,p,k=>k (match dr with
    | Option.none=>st
    | some _=>⟨st.env,st.heap,X⟩) Φ p
  | it::rest,j,X,W,R,D,st,Φ,p,k=>settle p Φ fun Φ p=>zf1 it.guard j D st Φ p fun b D st Φ p=>match b with
    | false=>Qu Yt dr rest (j+1) X W R (J5 D it.dst) (st.after it.dst .undef []) Φ p k
    | true=>settle p Φ fun Φ p=>zf2 C Yt dr X it j W R D st Φ p fun W R D st X Φ p=>Qu Yt dr rest (j+1) X W R D st Φ p k
end
section
variable {C:Ctx}
theorem zb7 {α:Type} {gd:Option (Nat×Bool)} {j:Nat} {D:List Nat} {st:St} {Φ:zN} {p:Plan α} {next:Bool→List Nat→St→zN→Plan α→Tree} {r:α} (hΦ:FactsOk Φ) (hr:p.run=some r) (h:(zf1 gd j D st Φ p next).Ok) :
    ∃ b D' q,zV st.env gd=some b∧q.run=some r∧(next b D' st Φ q).Ok:=by
  unfold zf1 at h
  split at h
  · rename_i b _ D' st' hg
    obtain ⟨rfl,h1⟩:=vW hg .nil
    exact ⟨b,D',p,h1,hr,h⟩
  · exact h.elim
  · split at h
    · exact h.elim
    · rename_i key q hu
      split at h
      · exact h.elim
      · rename_i o ps hk
        split at h
        · rename_i b _ ps' D' st' hg
          obtain ⟨h1,h2⟩:=h
          subst h1
          obtain ⟨rfl,h3⟩:=vW hg (hΦ _ _ hk)
          exact ⟨b,D',q,h3,(XV hu).trans hr,h2⟩
        · exact h.elim
theorem zaz {α:Type} {dr:Option (List Nat)} {X:Nat} {it:AItem} {j:Nat} {W R:List (Nat×Nat)} {D:List Nat} {st:St} {Φ:zN} {p:Plan α} {next:List (Nat×Nat)→List (Nat×Nat)→List Nat→St→Nat→zN→Plan α→Tree} {r:α} (hΦ:FactsOk Φ) (hr:p.run=some r) (h:(zcY C dr X it j W R D st Φ p next).Ok) :
    ∃ o x ups rd o' ps d q,opX C it.op o D (stX dr it.op X st)=some (x,ups,rd,o',ps,d)∧AllP ps∧q.run=some r∧(zcX dr X it.dst j W R D st x ups rd d next Φ q).Ok:=by
  unfold zcY at h
  split at h
  · split at h
    · rename_i x ups rd o' d hop
      exact ⟨[],x,ups,rd,o',[],d,p,hop,.nil,hr,h⟩
    · exact h.elim
  · rename_i key q hu
    split at h
    · exact h.elim
    · rename_i o ps hk
      split at h
      · rename_i x ups rd o' ps' d hop
        obtain ⟨h1,h2⟩:=h
        subst h1
        exact ⟨o,x,ups,rd,o',ps',d,q,hop,hΦ _ _ hk,(XV hu).trans hr,h2⟩
      · exact h.elim
theorem Qv {C:CtxY} {Yt:YT} (hY:zcW C Yt) {α:Type} {r:α} {K:St→Prop} {k:St→zN→Plan α→Tree} (hK:∀ st Φ p,FactsOk Φ→p.run=some r→(k st Φ p).Ok→K st):∀ (items:List AItem) (j X:Nat) (W R:List (Nat×Nat)) (D:List Nat) (st:St) (Φ:zN) (p:Plan α),
    FactsOk Φ→p.run=some r→(Qu C Yt Option.none items j X W R D st Φ p k).Ok→evl C items K st
  | [],j,X,W,R,D,st,Φ,p,hΦ,hr,h=>hK st Φ p hΦ hr h
  | it::rest,j,X,W,R,D,st,Φ,p,hΦ,hr,h=>by
    simp only [Qu] at h
    obtain ⟨Φ1,p1,hΦ1,hr1,h1⟩:=qV p hΦ h hr
    obtain ⟨b,D2,p2,hg,hr2,h2⟩:=zb7 hΦ1 hr1 h1
    refine VK hg (fun hb => ?_) (fun hb => ?_)
    · subst hb
      obtain ⟨Φ3,p3,hΦ3,hr3,h3⟩:=qV p2 hΦ1 h2 hr2
      unfold zf2 at h3
      split at h3
      · obtain ⟨o,x,ups,rd,o',ps,d,q,e1,e2,e4,e5⟩:=zaz hΦ3 hr3 h3
        exact zen e1 e2 (Qv hY hK rest _ _ _ _ _ _ _ _ hΦ3 e4 e5)
      · rename_i l id args hyo
        obtain ⟨f,ags,hop,hf,rfl⟩:=zay hyo
        rw [hop]
        simp only [evOp,hf,Wz]
        exact hY _ _ _ _ _ _ _ _ _ _ _ hΦ3 hr3 h3 (fun v h n Φ' p' a1 a2 a3=>Qv hY hK rest _ _ _ _ _ _ _ _ a1 a2 a3)
    · subst hb
      exact Qv hY hK rest _ _ _ _ _ _ _ _ hΦ1 hr2 h2
theorem zhA {op:AOp} {orc o':List Orc} {D:List Nat} {st:St} {X:Nat} {r:AV} {ups:List (Nat×AObj)} {rd:List Nat} {ps:List Prop} {d:Nat} {ord:List Nat} {dst:Option Nat} {gd:Option (Nat×Bool)} (hg:zV st.env gd=some true) (h:opX C op orc D (stX (some ord) op X st)=some (r,ups,rd,o',ps,d)) (hp:AllP ps) :
    EvD C ⟨dst,op,gd⟩ st ⟨dst,r,ups,rd,List.range' X d⟩:=by
  unfold stX at h
  simp only at h
  split at h
  · rename_i hc
    cases op<;>first | (cases hc;done) | skip
    rename_i f args
    simp only [EvD,hg]
    simp only [opX] at h
    unfold zcP at h
    split at h
    · rename_i f' first caps hf
      have hf':zd st.env f=.func f' first caps:=hf
      simp only [hf']
      split at h
      · split at h
        · rename_i ivs hiv
          split at h
          · rename_i hm;cases h;exact LCall.pure (d:=5) hp.one hm hiv
          · cases h
        · cases h
      · split at h
        · rename_i objs ho
          split at h
          · rename_i hm
            cases h
            cases hp with
            | cons h1 h2=>exact LCall.snapS (d:=5) h1 ho (Yx ho) h2.one hm
          · cases h
        · cases h
      · split at h
        · rename_i objs ho
          split at h
          · rename_i hm
            cases h
            exact LCall.det hp.one hm ho
          · cases h
        · cases h
      · cases h
    · cases h
  · rename_i hc
    obtain ⟨e,hr,rfl⟩:=zam hc h hp
    cases op<;>first | (cases hc;done) | (simp only [EvD,hg];exact ⟨e,hr,rfl⟩)
theorem zaA {Yt:YT} {α:Type} {r:α} {K:St→Prop} {ord:List Nat} {k:St→zN→Plan α→Tree} (hK:∀ st Φ p,FactsOk Φ→p.run=some r→(k st Φ p).Ok→K st):∀ (items:List AItem) (X:Nat) (W R:List (Nat×Nat)) (D:List Nat) (st:St) (Φ:zN) (p:Plan α) (pre:List Rec),
    FactsOk Φ→p.run=some r→(Qu C Yt (some ord) items pre.length X W R D st Φ p k).Ok →
    (∀ (i:Nat) (ri:Rec) (x:Nat),pre[i]?=some ri→x∈zT ri.ups→(i,x)∈W)→(∀ (i:Nat) (ri:Rec) (x:Nat),pre[i]?=some ri→x∈ri.rd→(i,x)∈R) →
    (∀ (i j:Nat) (ri rj:Rec),pre[i]?=some ri→pre[j]?=some rj→i < j→jD ri rj=true→bef ord i j=true) →
    ∃ recs st' M,ZA C items st recs st'∧(∀ (i j:Nat) (ri rj:Rec),(pre++recs)[i]?=some ri→(pre++recs)[j]?=some rj→i < j→jD ri rj=true→bef ord i j=true)∧X≤M ∧
      (∀ rc∈recs,∀ i∈rc.ex,X≤i∧i < M)∧(∀ (k l:Nat) (rk rl:Rec) (i:Nat),recs[k]?=some rk→recs[l]?=some rl→i∈rk.ex→i∈rl.ex→k=l)∧K ⟨st'.env,st'.heap,M⟩
  | [],X,W,R,D,st,Φ,p,pre,hΦ,hr,h,hW,hR,hp=>⟨[],st,X,rfl,by simpa using hp,Nat.le_refl _,by simp,by simp,hK _ Φ p hΦ hr h⟩
  | it::rest,X,W,R,D,st,Φ,p,pre,hΦ,hr,h,hW,hR,hp=>by
    simp only [Qu] at h
    obtain ⟨Φ1,p1,hΦ1,hr1,h1⟩:=qV p hΦ h hr
    obtain ⟨b,D2,p2,hg,hr2,h2⟩:=zb7 hΦ1 hr1 h1
    obtain ⟨rc,d,W',R',D',q,Φ',hdst,hev,hex,hok,hW',hR',hΦ',hq,hgo⟩:∃ (rc:Rec) (d:Nat) (W' R':List (Nat×Nat)) (D':List Nat) (q:Plan α) (Φ':zN),rc.dst=it.dst∧EvD C it st rc∧rc.ex=List.range' X d∧jR ord pre.length W R (zT rc.ups) rc.rd=true ∧
        (∀ p∈qQ pre.length (zT rc.ups) W,p∈W')∧(∀ p∈qQ pre.length rc.rd R,p∈R')∧FactsOk Φ'∧q.run=some r ∧
        (Qu C Yt (some ord) rest (pre.length+1) (X+d) W' R' D' (st.after it.dst rc.r rc.ups) Φ' q k).Ok:=by
      cases b with
      | false=>
        refine ⟨⟨it.dst,.undef,[],[],[]⟩,0,W,R,_,p2,Φ1,rfl,?_,rfl,zfP _ _ _ _,fun p hp=>by simpa [qQ,zT] using hp,fun p hp=>by simpa [qQ] using hp,hΦ1,hr2,h2⟩
        simp only [EvD,hg,and_self]
      | true=>
        obtain ⟨Φ3,p3,hΦ3,hr3,h3⟩:=qV p2 hΦ1 h2 hr2
        unfold zf2 at h3
        split at h3
        case h_2=>exact h3.elim
        obtain ⟨o,x,ups,rd,o',ps,d,q,e1,e2,e4,e5⟩:=zaz hΦ3 hr3 h3
        unfold zcX at e5
        simp only at e5
        split at e5
        · rename_i hok
          exact ⟨⟨it.dst,x,ups,rd,List.range' X d⟩,d,_,_,_,q,Φ3,rfl,zhA hg e1 e2,rfl,hok,fun p hp=>hp,fun p hp=>hp,hΦ3,e4,e5⟩
        · exact e5.elim
    have hlen:(pre++[rc]).length=pre.length+1:=by simp
    have split:∀ (i:Nat) (ri:Rec),(pre++[rc])[i]?=some ri→pre[i]?=some ri∨(i=pre.length∧ri=rc):=fun i ri hi=>by
      rw [List.getElem?_append] at hi
      split at hi
      · exact .inl hi
      · rename_i hge
        rcases Nat.eq_or_lt_of_le (Nat.le_of_not_lt hge) with e | e
        · rw [←e] at hi;simp at hi;exact .inr ⟨e.symm,hi.symm⟩
        · have:i - pre.length≠0:=by omega
          obtain ⟨m,hm⟩:=Nat.exists_eq_succ_of_ne_zero this
          rw [hm] at hi;simp at hi
    obtain ⟨recs,st',M,h4,h5,h6,h7,h8,h9⟩:=zaA hK rest (X+d) W' R' D' (st.after it.dst rc.r rc.ups) Φ' q (pre++[rc]) hΦ' hq (by rw [hlen];exact hgo)
      (fun i ri x hi hx=>by
        rcases split i ri hi with hi | ⟨rfl,rfl⟩
        · exact hW' _ (List.mem_append_right _ (hW i ri x hi hx))
        · exact hW' _ (List.mem_append_left _ (List.mem_map.2 ⟨x,hx,rfl⟩)))
      (fun i ri x hi hx=>by
        rcases split i ri hi with hi | ⟨rfl,rfl⟩
        · exact hR' _ (List.mem_append_right _ (hR i ri x hi hx))
        · exact hR' _ (List.mem_append_left _ (List.mem_map.2 ⟨x,hx,rfl⟩)))
      (fun i j ri rj hi hj hlt hc=>by
        rcases split j rj hj with hj | ⟨rfl,rfl⟩
        · rcases split i ri hi with hi | ⟨rfl,rfl⟩
          · exact hp i j ri rj hi hj hlt hc
          · have:=(List.getElem?_eq_some_iff.1 hj).1;omega
        · rcases split i ri hi with hi | ⟨rfl,rfl⟩
          · simp only [jR,Bool.and_eq_true,List.all_eq_true] at hok
            simp only [jD,Bool.or_eq_true,List.any_eq_true] at hc
            rcases hc with ⟨x,hx,hc⟩ | ⟨x,hx,hc⟩
            · have:=hok.1 (i,x) (hW i ri x hi hx)
              simp only [Bool.or_eq_true,Bool.not_eq_true',Bool.or_eq_false_iff] at this
              rcases this with ⟨h7,h8⟩ | h7
              · simp only [h7,h8] at hc;simp at hc
              · exact h7
            · have:=hok.2 x hx (i,x) (hR i ri x hi (by simpa using hc))
              simpa using this
          · omega)
    have hexm:∀ i,i∈rc.ex→X≤i∧i < X+d:=fun i hi=>by rw [hex,List.mem_range'_1] at hi;omega
    refine ⟨rc::recs,st',M,⟨hdst,hev,h4⟩,?_,by omega,fun r' hr' i hi => ?_,fun k l rk rl i hk hl hik hil => ?_,h9⟩
    · simpa using h5
    · rcases List.mem_cons.1 hr' with rfl | hr'
      · have:=hexm i hi;omega
      · have:=h7 r' hr' i hi;omega
    · cases k with
      | zero=>
        simp at hk
        subst hk
        cases l with
        | zero=>rfl
        | succ l=>
          have h10:=h7 rl (List.mem_of_getElem? (by simpa using hl)) i hil
          have:=hexm i hik
          omega
      | succ k=>
        cases l with
        | zero=>
          simp at hl
          subst hl
          have h10:=h7 rk (List.mem_of_getElem? (by simpa using hk)) i hik
          have:=hexm i hil
          omega
        | succ l=>rw [h8 k l rk rl i (by simpa using hk) (by simpa using hl) hik hil]
theorem zev {C:CtxY} {nt:Fr} {Yt:YT} {α:Type} {r:α} {K:Exit→St→Prop} {ord:List Nat} {ks:Option (List Nat)} {k:St→zN→Plan α→Tree} (hK:∀ st Φ p,FactsOk Φ→p.run=some r→(k st Φ p).Ok→K .normal (st.keep ks)) {items:List AItem} {st:St} {Φ:zN} {p:Plan α}
    (hΦ:FactsOk Φ) (hr:p.run=some r) (h:(Qu C Yt (some ord) items 0 (st.next+items.length) [] [] [] st Φ p k).Ok):awp C nt (.region true ord items ks) K st:=by
  obtain ⟨recs,st',M,h1,h2,h3,h4,h5,h6⟩:=zaA (C:=C) (K:=fun st=>K .normal (st.keep ks)) hK items (st.next+items.length) [] [] [] st Φ p [] hΦ hr h (by simp) (by simp) (by simp)
  have hl:=Qj h1
  obtain ⟨_,_,hn⟩:=XP items st recs st' 0 (fun _=>true) h1 (fun _ _=>rfl)
  exact XQ h1 (XR (by simpa using h2)) ⟨fun k rc i hk hi=>by rw [hl];exact (h4 rc (List.mem_of_getElem? hk) i hi).1,h5⟩ M (by omega) (fun rc hrc i hi=>(h4 rc hrc i hi).2) h6
end
def WR (m:Nat) (env:List (Nat×AV)) (t:Tree):List (Nat×AV)→Tree
  | []=>t
  | (k,b)::l=>match za env k with
    | some a=>match zU m b with
      | true=>.eq AV a b (WR m env t l)
      | false=>.bad 1340
    | Option.none=>.bad 1341
def Ks (m:Nat) (heap:List (Nat×AObj)) (t:Tree):List (Nat×AObj)→Tree
  | []=>t
  | (k,b)::l=>match za heap k with
    | some a=>match VM m b&&decide (k < m) with
      | true=>.eq AObj a b (Ks m heap t l)
      | false=>.bad 1347
    | Option.none=>.bad 1348
def Kt (heap:List (Nat×AObj)) (t:Tree):List (Nat×AObj)→Tree
  | []=>t
  | (k,b)::l=>match za heap k with
    | some a=>.eq AObj a b (Kt heap t l)
    | Option.none=>.bad 1353
theorem XW {m:Nat} {env:List (Nat×AV)} {t:Tree}:∀ {l:List (Nat×AV)},(WR m env t l).Ok→t.Ok∧∀ p∈l,za env p.1=some p.2∧zU m p.2=true
  | [],h=>⟨h,fun p hp=>by cases hp⟩
  | (k,b)::l,h=>by
    simp only [WR] at h
    split at h
    · rename_i a ha
      split at h
      · rename_i hb
        obtain ⟨rfl,h2⟩:=h
        obtain ⟨h3,h4⟩:=XW h2
        refine ⟨h3,fun p hp => ?_⟩
        rcases List.mem_cons.1 hp with rfl | hp
        · exact ⟨ha,hb⟩
        · exact h4 p hp
      · exact h.elim
    · exact h.elim
theorem zaB {m:Nat} {heap:List (Nat×AObj)} {t:Tree}:∀ {l:List (Nat×AObj)},(Ks m heap t l).Ok→t.Ok∧∀ p∈l,za heap p.1=some p.2∧p.1 < m∧zP m p.2
  | [],h=>⟨h,fun p hp=>by cases hp⟩
  | (k,b)::l,h=>by
    simp only [Ks] at h
    split at h
    · rename_i a ha
      split at h
      · rename_i hb
        simp only [Bool.and_eq_true,decide_eq_true_eq] at hb
        obtain ⟨rfl,h2⟩:=h
        obtain ⟨h3,h4⟩:=zaB h2
        refine ⟨h3,fun p hp => ?_⟩
        rcases List.mem_cons.1 hp with rfl | hp
        · exact ⟨ha,hb.2,wR hb.1⟩
        · exact h4 p hp
      · exact h.elim
    · exact h.elim
theorem zaC {heap:List (Nat×AObj)} {t:Tree}:∀ {l:List (Nat×AObj)},(Kt heap t l).Ok→t.Ok∧∀ p∈l,za heap p.1=some p.2
  | [],h=>⟨h,fun p hp=>by cases hp⟩
  | (k,b)::l,h=>by
    simp only [Kt] at h
    split at h
    · rename_i a ha
      obtain ⟨rfl,h2⟩:=h
      obtain ⟨h3,h4⟩:=zaC h2
      refine ⟨h3,fun p hp => ?_⟩
      rcases List.mem_cons.1 hp with rfl | hp
      · exact ha
      · exact h4 p hp
    · exact h.elim
def Qw (nx:Nat) (ov e0:List (Nat×AV)) (oh h0:List (Nat×AObj)) (st:St) (t:Tree):Tree:=match Nat.ble nx st.next with
  | true=>WR nx st.env (WR nx st.env (Kt st.heap (Ks nx st.heap t h0) oh) e0) ov
  | false=>.bad 1405
def WS (nx:Nat) (heap:List (Nat×AObj)) (t:Tree):Option (List (List Int))→Tree
  | Option.none=>t
  | some Ls=>match Nat.ble 2000000 nx&&vq heap with
    | true=>.eq (List (Nat×AObj)) (Zl heap) (xy Ls) t
    | false=>.bad 1406
theorem zf3 {nx:Nat} {heap:List (Nat×AObj)} {t:Tree}:∀ {o:Option (List (List Int))},(WS nx heap t o).Ok→t.Ok∧∀ p∈Qt o,za heap p.1=some p.2∧p.1 < nx∧zP nx p.2
  | Option.none,h=>⟨h,fun p hp=>by cases hp⟩
  | some Ls,h=>by
    unfold WS at h
    simp only at h
    split at h
    · rename_i e
      simp only [Bool.and_eq_true] at e
      obtain ⟨h1,h2⟩:=h
      refine ⟨h2,fun p hp => ?_⟩
      obtain ⟨a1,a2,a3⟩:=zet h1 e.2 p hp
      exact ⟨a1,Nat.lt_of_lt_of_le a2 (Nat.le_of_ble_eq_true e.1),a3 nx⟩
    · exact h.elim
theorem YG {nx:Nat} {ov e0:List (Nat×AV)} {oh h0:List (Nat×AObj)} {st:St} {t:Tree} {o:Option (List (List Int))} (hb:Belows nx oh) (h:(Qw nx ov e0 oh h0 st (WS nx st.heap t o)).Ok):t.Ok∧nx≤st.next∧(∀ p∈ov++e0,za st.env p.1=some p.2∧zU nx p.2=true)∧∀ p∈oh++(h0++Qt o),za st.heap p.1=some p.2∧p.1 < nx∧zP nx p.2:=by
  unfold Qw at h
  split at h
  · rename_i hn
    obtain ⟨h1,a1⟩:=XW h
    obtain ⟨h2,a2⟩:=XW h1
    obtain ⟨h3,a3⟩:=zaC h2
    obtain ⟨h4,a4⟩:=zaB h3
    obtain ⟨h5,a5⟩:=zf3 h4
    refine ⟨h5,Nat.le_of_ble_eq_true hn,fun p hp => ?_,fun p hp => ?_⟩
    · rcases List.mem_append.1 hp with hp | hp
      · exact a1 p hp
      · exact a2 p hp
    · rcases List.mem_append.1 hp with hp | hp
      · exact ⟨a3 p hp,hb.all p hp⟩
      · rcases List.mem_append.1 hp with hp | hp
        · exact a4 p hp
        · exact a5 p hp
  · exact h.elim
theorem XX {nx:Nat} {ov e0:List (Nat×AV)} {oh h0:List (Nat×AObj)} {st:St} {t:Tree} {o:Option (List (List Int))} (hb:Belows nx oh) (h:(Qw nx ov e0 oh h0 st (WS nx st.heap t o)).Ok):t.Ok∧Weak st ⟨ov++e0,oh++(h0++Qt o),nx⟩:=by
  obtain ⟨h1,h2,h3,h4⟩:=YG hb h
  exact ⟨h1,JZ h2 h3 h4⟩
def Spec.weak {β:Type} (sp:Spec β) (st0 st:St) (b:β) (t:Tree):Tree:=Qw sp.nx (sp.ov b) (qB sp.ks st0.env) (sp.oh b) (WP sp.hs st0.heap) st (WS sp.nx st.heap t (sp.ns b))
theorem Spec.weak_ok {β:Type} {sp:Spec β} {st0 st:St} {b:β} {t:Tree} (h:(sp.weak st0 st b t).Ok):t.Ok∧Weak st (sp.st st0 b):=XX (sp.bel b) h
def Spec.weaki {β:Type} (sp:Spec β) (st0 st:St) (idx:Nat) (v:AV) (b:β) (t:Tree):Tree:=match za st.env idx with
  | some a=>.eq AV a v (sp.weak st0 st b t)
  | Option.none=>.bad 1430
theorem Spec.weaki_ok {β:Type} {sp:Spec β} {st0 st:St} {idx:Nat} {n:Int} {v:AV} {b:β} {t:Tree} (hv:v=vI n) (h:(sp.weaki st0 st idx v b t).Ok):t.Ok∧Weak st (sp.sti st0 idx n b):=by
  unfold Spec.weaki at h
  split at h
  · rename_i a ha
    obtain ⟨rfl,h1⟩:=h
    obtain ⟨h4,hn,a1,a3⟩:=YG (sp.bel b) h1
    refine ⟨h4,JZ hn (fun p hp => ?_) a3⟩
    rcases List.mem_cons.1 hp with rfl | hp
    · exact ⟨by rw [ha,hv],rfl⟩
    · exact a1 p hp
  · exact h.elim
end
section
def Plan.dec {α:Type} (p:Plan α):Plan α:=match p with
  | .cut (n+1) sp q k=>.cut n sp q k
  | .cutO (n+1) sp q k=>.cutO n sp q k
  | .weak (n+1) w q=>.weak n w q
  | .man (n+1) m q=>.man n m q
  | p=>p
theorem J8 {α:Type} (p:Plan α):p.dec.run=p.run:=by
  unfold Plan.dec;split<;>rfl
def Plan.enter {α:Type} (p:Plan α):Plan α:=match p with
  | .reg 0 q=>q
  | .reg (n+1) q=>.reg n q
  | p=>p
theorem YH {α:Type} (p:Plan α):p.enter.run=p.run:=by
  unfold Plan.enter;split<;>rfl
abbrev KT (α:Type):=Exit→St→zN→Plan α→Tree
abbrev CT:=(α:Type)→St→zN→Plan α→KT α→Tree
noncomputable def ziJ {β:Type} (sp:Spec β) (st0:St):KT β:=fun e s Φ q=>match e with
  | .normal=>settle q Φ fun _ q=>match q with
    | .ret b=>sp.weak st0 s b .tt
    | _=>.bad 2034
  | _=>.bad 2035
noncomputable def zhb {α β γ:Type} (sp:Spec β) (st0:St) (kk:β ⊕ γ→Plan α) (k:KT α):KT (β ⊕ γ):=fun e s Φ q=>settle q Φ fun Φ q=>match e with
  | .normal=>match q with
    | .ret (.inl b)=>sp.weak st0 s b .tt
    | _=>.bad 2039
  | e=>match q with
    | .ret (.inr c)=>k e s Φ (kk (.inr c))
    | _=>.bad 2042
noncomputable def kH (go:CT):CT:=fun α st Φ p k=>.step (settle p Φ fun Φ p=>match p with
  | .cut (β:=β) 0 sp q kk=>match Nat.ble st.next sp.nx with
    | true=>.and (go β st Φ q (ziJ sp st)) (.all β fun b=>k .normal (sp.st st b) Φ (kk b))
    | false=>.bad 2048
  | .cutO (β:=β) (γ:=γ) 0 sp q kk=>match Nat.ble st.next sp.nx with
    | true=>.and (go (β ⊕ γ) st Φ q (zhb sp st kk k)) (.all β fun b=>k .normal (sp.st st b) Φ (kk (.inl b)))
    | false=>.bad 2051
  | p=>go α st Φ p k)
def zcZ:List WStep→St→(St→Tree)→Tree
  | [],st,f=>f st
  | w::ws,st,f=>w.T st (zcZ ws (w.to st) f)
noncomputable def qZ (go:CT):CT:=fun α st Φ p k=>settle p Φ fun Φ p=>match p with
  | .weak 0 ws q=>zcZ ws st fun st=>go α st Φ q k
  | p=>go α st Φ p k
noncomputable def zc0 {α σ ρ:Type} (kk:ρ→Plan α) (W:St→σ→Tree) (k:KT α):KT (σ ⊕ ρ):=fun e s Φ q=>settle q Φ fun Φ q=>match e with
  | .normal=>match q with
    | .ret (.inl s')=>W s s'
    | _=>.bad 2063
  | e=>match q with
    | .ret (.inr y)=>k e s Φ (kk y)
    | _=>.bad 2066
noncomputable def ziK (c:ACode) (go:CT):CT:=fun α st Φ p k=>settle p Φ fun Φ p=>match p with
  | .man 0 m kk=>m.T c st fun b s=>k .normal s Φ (kk b)
  | p=>go α st Φ p k
variable (C:Ctx)
abbrev GT:=Bool→YT→CT
noncomputable def chk (rng:Opd→List Nat→GT→GT→CT):ACode→GT
  | .skip=>fun pl Yt=>qZ <| kH <| qZ fun α st Φ p k=>k .normal st Φ p
  | .region d o items ks=>fun pl Yt=>ziK (.region d o items ks) <| qZ <| kH <| qZ fun α st Φ p k=>Qu C Yt (match d with | true=>some o | false=>Option.none) items 0 (st.next+items.length) [] [] [] st Φ p.enter fun s Φ p=>k .normal (s.keep ks) Φ p
  | .seq x y=>fun pl Yt=>qZ <| kH <| qZ fun α st Φ p k=>chk rng x pl Yt α st Φ p.dec fun e s Φ q=>match e with
    | .normal=>chk rng y pl Yt α s Φ q k
    | e=>k e s Φ q
  | .cond c x y=>fun pl Yt=>qZ <| kH <| qZ fun α st Φ p k=>match zd st.env c with
    | .imm (.bool b)=>match p.used 999 with
      | some (key,q)=>match za Φ key with
        | some ([.g true],ps)=>.eq (List Prop) ps [b=true] (chk rng x pl Yt α st Φ q k)
        | some ([.g false],ps)=>.eq (List Prop) ps [b=false] (chk rng y pl Yt α st Φ q k)
        | _=>.bad 2083
      | Option.none=>match b with
        | true=>chk rng x pl Yt α st Φ p k
        | false=>chk rng y pl Yt α st Φ p k
    | _=>.bad 2087
  | .block id x=>fun pl Yt=>qZ <| kH <| qZ fun α st Φ p k=>chk rng x pl Yt α st Φ p.dec fun e s Φ q=>match e with
    | .exit i=>match Nat.beq i id with
      | true=>k .normal s Φ q
      | false=>k (.exit i) s Φ q
    | e=>k e s Φ q
  | .scope x=>fun pl Yt=>qZ <| kH <| qZ fun α st Φ p k=>match pl with
    | true=>chk rng x pl Yt α st Φ p.dec fun e s Φ q=>match e with
      | .goto _=>.bad 2095
      | e=>k e s Φ q
    | false=>.bad 2097
  | .exit id=>fun pl Yt=>qZ <| kH <| qZ fun α st Φ p k=>k (.exit id) st Φ p
  | .ret=>fun pl Yt=>qZ <| kH <| qZ fun α st Φ p k=>k .ret st Φ p
  | .range f ps x y=>fun pl Yt=>qZ <| kH <| qZ fun α st Φ p k=>match pl with
    | true=>rng f ps (chk rng x) (chk rng y) α st Φ p.dec k
    | false=>.bad 2102
  | .loop x=>fun pl Yt=>qZ <| kH <| qZ fun α st Φ p k=>match p with
    | .forR (σ:=σ) (ρ:=ρ) key idx n s0 sp body kk=>match Nat.beq sp.nx st.next with
      | true=>.and (sp.weaki st st idx (vI 0) s0 .tt) (.and
        (.all Nat fun i=>.all σ fun s=>chk rng x pl Yt (σ ⊕ ρ) (sp.sti st idx (i:Int) s) ((key,([.g true],[decide ((i:Int) < n)=true]))::(key+1,([.g false],[(!decide ((i:Int) < n))=false]))::Φ) (body i s) (zc0 (fun y=>kk (.inr y)) (fun st' s'=>sp.weaki st st' idx (vI (IntKind.i64.wrap ((i:Int)+1))) s' .tt) k))
        (.all Nat fun i=>.all σ fun s=>chk rng x pl Yt α (sp.sti st idx (i:Int) s) ((key,([.g false],[decide ((i:Int) < n)=false]))::(key+1,([.g true],[(!decide ((i:Int) < n))=true]))::Φ) (kk (.inl s)) fun e s Φ q=>match e with
          | .normal=>.bad 2108
          | e=>k e s Φ q))
      | false=>.bad 2110
    | .iter (σ:=σ) (ρ:=ρ) s0 sp body kk=>match Nat.beq sp.nx st.next with
      | true=>.and (sp.weak st st s0 .tt) (.all σ fun s=>chk rng x pl Yt (σ ⊕ ρ) (sp.st st s) Φ (body s) (zc0 kk (fun st' s'=>sp.weak st st' s' .tt) k))
      | false=>.bad 2113
    | _=>.bad 2114
variable {C:CtxY} {nt:Fr}
def Zm (C:CtxY) (nt:Fr) (c:ACode) (go:CT):Prop:=∀ {α:Type} {r:α} (st:St) (Φ:zN) (p:Plan α) (k:KT α) (K:Exit→St→Prop),FactsOk Φ→p.run=some r→(go α st Φ p k).Ok →
  (∀ e s Φ q,FactsOk Φ→q.run=some r→(k e s Φ q).Ok→K e s)→awp C nt c K st
theorem XY {x:ACode} {K:Exit→St→Prop} {st:St} (ST:St) (hn:st.next≤ST.next) (hK:K .normal ST) (hx:awp C nt x (wN (fun s=>Weak s ST) K) st):awp C nt x K st:=by
  intro code hc g a w R hI
  refine Code.wpIn_mono ?_ (hx code hc g a w R hI)
  rintro e a' w' ⟨st',g',hk,R',E'⟩
  cases e with
  | normal=>
    obtain ⟨g2,R2,hE2⟩:=hk C nt g' a' w' R'
    exact ⟨ST,g2,hK,R2,hE2 g st w hn E'⟩
  | _=>exact ⟨st',g',hk,R',E'⟩
theorem q5 {c:ACode} {go:CT} (h:Zm C nt c go):Zm C nt c (kH go):=by
  intro α r st Φ p k K hΦ hr hok hk
  obtain ⟨Φ1,p1,hΦ1,hr1,h1⟩:=qV p hΦ hok hr
  split at h1
  · rename_i β sp q kk
    split at h1
    · rename_i hn
      obtain ⟨b,hb1,hb2⟩:=vS (show Option.bind q.run (fun b=>(kk b).run)=some r from hr1)
      refine XY (sp.st st b) (Nat.le_of_ble_eq_true hn) (hk _ _ _ _ hΦ1 hb2 (h1.2 b)) ?_
      refine h st Φ1 q (ziJ sp st) _ hΦ1 hb1 h1.1 ?_
      intro e s Φ2 q2 hΦ2 hr2 h2
      cases e with
      | normal=>
        obtain ⟨Φ3,q3,hΦ3,hr3,h3⟩:=qV q2 hΦ2 h2 hr2
        split at h3
        · cases hr3;exact (Spec.weak_ok h3).2
        · exact h3.elim
      | _=>exact h2.elim
    · exact h1.elim
  · rename_i β γ sp q kk
    split at h1
    · rename_i hn
      obtain ⟨d,hd1,hd2⟩:=vS (show Option.bind q.run (fun b=>(kk b).run)=some r from hr1)
      have key:∀ (e:Exit) (s:St) (Φ2:zN) (q2:Plan (β ⊕ γ)),FactsOk Φ2→q2.run=some d→(zhb sp st kk k e s Φ2 q2).Ok→(∃ b,d=.inl b∧e=.normal∧Weak s (sp.st st b))∨(e≠.normal∧(∃ y,d=.inr y)∧K e s):=by
        intro e s Φ2 q2 hΦ2 hr2 h2
        obtain ⟨Φ3,q3,hΦ3,hr3,h3⟩:=qV q2 hΦ2 h2 hr2
        split at h3
        · split at h3
          · rename_i b;exact .inl ⟨b,(Option.some.inj hr3).symm,rfl,(Spec.weak_ok h3).2⟩
          · exact h3.elim
        · rename_i hne
          split at h3
          · rename_i y
            have:d=.inr y:=(Option.some.inj hr3).symm
            subst this
            exact .inr ⟨hne,⟨y,rfl⟩,hk _ _ _ _ hΦ3 hd2 h3⟩
          · exact h3.elim
      cases d with
      | inl b=>
        refine XY (sp.st st b) (Nat.le_of_ble_eq_true hn) (hk _ _ _ _ hΦ1 hd2 (h1.2 b)) ?_
        refine h st Φ1 q _ _ hΦ1 hd1 h1.1 ?_
        intro e s Φ2 q2 hΦ2 hr2 h2
        rcases key e s Φ2 q2 hΦ2 hr2 h2 with ⟨b',e1,rfl,e3⟩ | ⟨_,⟨y,e1⟩,_⟩
        · cases e1;exact e3
        · cases e1
      | inr y=>
        refine h st Φ1 q _ _ hΦ1 hd1 h1.1 ?_
        intro e s Φ2 q2 hΦ2 hr2 h2
        rcases key e s Φ2 q2 hΦ2 hr2 h2 with ⟨b',e1,_,_⟩ | ⟨_,_,e3⟩
        · cases e1
        · exact e3
    · exact h1.elim
  · exact h st Φ1 p1 k K hΦ1 hr1 h1 hk
theorem zaD {c:ACode} {K:Exit→St→Prop} {f:St→Tree}:∀ (ws:List WStep) (st:St),(zcZ ws st f).Ok→(∀ st',(f st').Ok→awp C nt c K st')→awp C nt c K st
  | [],st,h,hf=>hf st h
  | w::ws,st,h,hf=>by
    obtain ⟨h1,h2,h3⟩:=w.ok _ _ h
    exact ky h2 h3 (zaD ws _ h1 hf)
theorem zM {c:ACode} {go:CT} (h:Zm C nt c go):Zm C nt c (qZ go):=by
  intro α r st Φ p k K hΦ hr hok hk
  obtain ⟨Φ1,p1,hΦ1,hr1,h1⟩:=qV p hΦ hok hr
  split at h1
  · rename_i ws q
    exact zaD ws st h1 fun st' h2=>h st' Φ1 q k K hΦ1 hr1 h2 hk
  · exact h _ _ _ k K hΦ1 hr1 h1 hk
theorem zc1 {c:ACode} {go:CT} (h:Zm C nt c go):Zm C nt c (ziK c go):=by
  intro α r st Φ p k K hΦ hr hc hk
  obtain ⟨Φ1,p1,hΦ1,hr1,h1⟩:=qV p hΦ hc hr
  split at h1
  · rename_i m kk
    have hr1':Option.bind m.x (fun b=>(kk b).run)=some r:=hr1
    obtain ⟨b,hb,hr2⟩:=vS hr1'
    exact m.ok C nt c st _ K b hb h1 fun s hs=>hk _ _ _ _ hΦ1 hr2 hs
  · exact h st Φ1 _ k K hΦ1 hr1 h1 hk
theorem zaE {α σ ρ:Type} {kk:ρ→Plan α} {W:St→σ→Tree} {k:KT α} {o:σ ⊕ ρ} {e:Exit} {s:St} {Φ:zN} {q:Plan (σ ⊕ ρ)} (hΦ:FactsOk Φ) (hr:q.run=some o) (h:(zc0 kk W k e s Φ q).Ok) :
    (e=.normal∧∃ s',o=.inl s'∧(W s s').Ok)∨(e≠.normal∧∃ y Φ',o=.inr y∧FactsOk Φ'∧(k e s Φ' (kk y)).Ok):=by
  obtain ⟨Φ3,q3,hΦ3,hr3,h3⟩:=qV q hΦ h hr
  split at h3
  · split at h3
    · rename_i s';exact .inl ⟨rfl,s',(Option.some.inj hr3).symm,h3⟩
    · exact h3.elim
  · rename_i hne
    split at h3
    · rename_i y;exact .inr ⟨hne,y,Φ3,(Option.some.inj hr3).symm,hΦ3,h3⟩
    · exact h3.elim
def zaF (C:Ctx) (c:ACode) (go:GT):Prop:=∀ (ro:Option Nat) (at0:Option (Gh×St×World)) Y ym yk (pl:Bool) (Yt:YT) (nt:Fr),(pl=true→ro=none)→zcW ⟨C,ro,at0,Y,ym,yk⟩ Yt→Zm ⟨C,ro,at0,Y,ym,yk⟩ nt c (go pl Yt)
def zc2 (C:Ctx) (rng:Opd→List Nat→GT→GT→CT):Prop:=∀ (f:Opd) (ps:List Nat) (x y:ACode) (gx gy:GT),zaF C x gx→zaF C y gy →
  ∀ (at0:Option (Gh×St×World)) Y ym yk (nt:Fr),Zm ⟨C,none,at0,Y,ym,yk⟩ nt (.range f ps x y) (rng f ps gx gy)
theorem qr {C:Ctx} {rng:Opd→List Nat→GT→GT→CT} (hG:zc2 C rng):∀ c:ACode,zaF C c (chk C rng c)
  | .skip=>fun ro at0 Y ym yk pl Yt nt hpl hY=>zM <| q5 <| zM fun st Φ p k K hΦ hr h hk=>Qg (hk _ _ _ _ hΦ hr h)
  | .region d o items ks=>fun ro at0 Y ym yk pl Yt nt hpl hY=>zc1 <| zM <| q5 <| zM fun st Φ p k K hΦ hr h hk=>by
    cases d with
    | false=>exact ZK (Qv hY (K:=kD ks K) (fun s Φ q h1 h2 h3=>hk _ _ _ _ h1 h2 h3) items 0 _ [] [] [] st Φ p.enter hΦ ((YH p).trans hr) h)
    | true=>exact zev (fun s Φ q h1 h2 h3=>hk _ _ _ _ h1 h2 h3) hΦ ((YH p).trans hr) h
  | .seq x y=>fun ro at0 Y ym yk pl Yt nt hpl hY=>zM <| q5 <| zM fun st Φ p k K hΦ hr h hk=>by
    refine qH (qr hG x ro at0 Y ym yk pl Yt nt hpl hY st Φ p.dec _ _ hΦ ((J8 p).trans hr) h ?_)
    intro e s Φ2 q2 hΦ2 hr2 h2
    cases e with
    | normal=>exact qr hG y ro at0 Y ym yk pl Yt nt hpl hY s Φ2 q2 k K hΦ2 hr2 h2 hk
    | _=>exact hk _ _ _ _ hΦ2 hr2 h2
  | .cond c x y=>fun ro at0 Y ym yk pl Yt nt hpl hY=>zM <| q5 <| zM fun st Φ p k K hΦ hr h hk=>by
    split at h
    · rename_i b hc
      split at h
      · rename_i key q hu
        have hq:=(XV hu).trans hr
        split at h
        · rename_i ps hf
          obtain ⟨h1,h2⟩:=h
          have hb:b=true:=by have:=hΦ _ _ hf;simp only [h1] at this;exact this.one
          exact j7 b hc (fun _=>qr hG x ro at0 Y ym yk pl Yt nt hpl hY st Φ q k K hΦ hq h2 hk) (fun e=>by rw [hb] at e;cases e)
        · rename_i ps hf
          obtain ⟨h1,h2⟩:=h
          have hb:b=false:=by have:=hΦ _ _ hf;simp only [h1] at this;exact this.one
          exact j7 b hc (fun e=>by rw [hb] at e;cases e) (fun _=>qr hG y ro at0 Y ym yk pl Yt nt hpl hY st Φ q k K hΦ hq h2 hk)
        · exact h.elim
      · split at h
        · exact j7 true hc (fun _=>qr hG x ro at0 Y ym yk pl Yt nt hpl hY st Φ p k K hΦ hr h hk) (fun e=>by cases e)
        · exact j7 false hc (fun e=>by cases e) (fun _=>qr hG y ro at0 Y ym yk pl Yt nt hpl hY st Φ p k K hΦ hr h hk)
    · exact h.elim
  | .block id x=>fun ro at0 Y ym yk pl Yt nt hpl hY=>zM <| q5 <| zM fun st Φ p k K hΦ hr h hk=>by
    refine Zf (qr hG x ro at0 Y ym yk pl Yt nt hpl hY st Φ p.dec _ _ hΦ ((J8 p).trans hr) h ?_)
    intro e s Φ2 q2 hΦ2 hr2 h2
    cases e with
    | exit i=>
      have h2:(match Nat.beq i id with
        | true=>k .normal s Φ2 q2
        | false=>k (.exit i) s Φ2 q2).Ok:=h2
      simp only [xn]
      cases hb:Nat.beq i id with
      | true=>rw [hb] at h2;rw [if_pos (Nat.eq_of_beq_eq_true hb)];exact hk _ _ _ _ hΦ2 hr2 h2
      | false=>
        rw [hb] at h2
        rw [if_neg (fun e=>by subst e;rw [Nat.beq_refl] at hb;cases hb)]
        exact hk _ _ _ _ hΦ2 hr2 h2
    | _=>exact hk _ _ _ _ hΦ2 hr2 h2
  | .scope x=>fun ro at0 Y ym yk pl Yt nt hpl hY=>zM <| q5 <| zM fun st Φ p k K hΦ hr h hk=>by
    split at h
    · refine Yq (hpl rfl) (qr hG x ro at0 Y ym yk true Yt nt hpl hY st Φ p.dec _ _ hΦ ((J8 p).trans hr) h ?_)
      intro e s Φ2 q2 hΦ2 hr2 h2
      cases e with
      | goto l=>exact h2.elim
      | _=>exact hk _ _ _ _ hΦ2 hr2 h2
    · exact h.elim
  | .range f ps x y=>fun ro at0 Y ym yk pl Yt nt hpl hY=>zM <| q5 <| zM fun st Φ p k K hΦ hr h hk=>by
    split at h
    · have:=hpl rfl
      subst this
      exact hG f ps x y _ _ (qr hG x) (qr hG y) at0 Y ym yk nt st Φ p.dec k K hΦ ((J8 p).trans hr) h hk
    · exact h.elim
  | .exit id=>fun ro at0 Y ym yk pl Yt nt hpl hY=>zM <| q5 <| zM fun st Φ p k K hΦ hr h hk=>XN (hk _ _ _ _ hΦ hr h)
  | .ret=>fun ro at0 Y ym yk pl Yt nt hpl hY=>zM <| q5 <| zM fun st Φ p k K hΦ hr h hk=>VA (hk _ _ _ _ hΦ hr h)
  | .loop x=>fun ro at0 Y ym yk pl Yt nt hpl hY=>zM <| q5 <| zM fun {α} {r} st Φ p k K hΦ hr h hk=>by
    split at h
    · rename_i σ ρ key idx n s0 sp body kk
      split at h
      · rename_i hnx
        have hnx:sp.nx=st.next:=Nat.eq_of_beq_eq_true hnx
        obtain ⟨h1,h2,h3⟩:=h
        obtain ⟨out,ho,hq⟩:=vS (show Option.bind (forR n (fun i s=>(body i s).run) s0) (fun o=>(kk o).run)=some r from hr)
        refine zfH ho (fun i s=>(sp.sti st idx (i:Int) s).env) (fun i s=>(sp.sti st idx (i:Int) s).heap) ?_ ?_ ?_
        · have:=(Spec.weaki_ok (n:=((0:Nat):Int)) rfl h1).2
          simp only [Spec.sti,hnx] at this ⊢
          exact this
        · intro i s o hi hw hb
          have hst:(⟨(sp.sti st idx (i:Int) s).env,(sp.sti st idx (i:Int) s).heap,st.next⟩:St)=sp.sti st idx (i:Int) s:=by simp only [Spec.sti,hnx]
          rw [hst]
          refine qr hG x ro at0 Y ym yk pl Yt nt hpl hY _ _ (body i s) _ _ ((hΦ.add (f:=([.g false],[(!decide ((i:Int) < n))=false])) (.cons (by rw [decide_eq_true hi];rfl) .nil)).add (f:=([.g true],[decide ((i:Int) < n)=true])) (.cons (decide_eq_true hi) .nil)) hb (h2 i s) ?_
          intro e s2 Φ2 q2 hΦ2 hr2 h4
          rcases zaE hΦ2 hr2 h4 with ⟨rfl,s',rfl,h5⟩ | ⟨hne,y,Φ3,rfl,hΦ3,h5⟩
          · refine ⟨s',rfl,?_⟩
            have:=(Spec.weaki_ok (n:=((i+1:Nat):Int)) (by rw [hw];rfl) h5).2
            simp only [Spec.sti,hnx] at this ⊢
            exact this
          · have:∀ (K':Exit→St→Prop),(∃ y',(Sum.inr y:σ ⊕ ρ)=.inr y'∧(out=.inr y'→K e s2))→Kp (fun s=>⟨(sp.sti st idx ((i+1:Nat):Int) s).env,(sp.sti st idx ((i+1:Nat):Int) s).heap,st.next⟩) K out (.inr y) e s2:=fun _ hh=>by
              cases e with
              | normal=>exact absurd rfl hne
              | _=>exact hh
            refine this K ⟨y,rfl,fun hout => ?_⟩
            subst hout
            exact hk _ _ _ _ hΦ3 hq h5
        · intro m s hm hout
          subst hout
          have hst:(⟨(sp.sti st idx (m:Int) s).env,(sp.sti st idx (m:Int) s).heap,st.next⟩:St)=sp.sti st idx (m:Int) s:=by simp only [Spec.sti,hnx]
          rw [hst]
          refine qr hG x ro at0 Y ym yk pl Yt nt hpl hY _ _ (kk (.inl s)) _ _ ((hΦ.add (f:=([.g true],[(!decide ((m:Int) < n))=true])) (.cons (by rw [decide_eq_false hm];rfl) .nil)).add (f:=([.g false],[decide ((m:Int) < n)=false])) (.cons (decide_eq_false hm) .nil)) hq (h3 m s) ?_
          intro e s2 Φ2 q2 hΦ2 hr2 h4
          cases e with
          | normal=>exact h4.elim
          | _=>exact hk _ _ _ _ hΦ2 hr2 h4
      · exact h.elim
    · rename_i σ ρ s0 sp body kk
      split at h
      · rename_i hnx
        have hnx:sp.nx=st.next:=Nat.eq_of_beq_eq_true hnx
        obtain ⟨h1,h2⟩:=h
        obtain ⟨out,ho,hq⟩:=vS (show Option.bind (iter (fun s=>(body s).run) s0) (fun o=>(kk o).run)=some r from hr)
        have hst:∀ s,(⟨(sp.st st s).env,(sp.st st s).heap,st.next⟩:St)=sp.st st s:=fun s=>by simp only [Spec.st,hnx]
        refine zfI ho (fun s=>(sp.st st s).env) (fun s=>(sp.st st s).heap) ?_ ?_
        · rw [hst];exact (Spec.weak_ok h1).2
        · intro s o hb
          rw [hst]
          refine qr hG x ro at0 Y ym yk pl Yt nt hpl hY _ _ (body s) _ _ hΦ hb (h2 s) ?_
          intro e s2 Φ2 q2 hΦ2 hr2 h4
          rcases zaE hΦ2 hr2 h4 with ⟨rfl,s',rfl,h5⟩ | ⟨hne,y,Φ3,rfl,hΦ3,h5⟩
          · refine ⟨s',rfl,?_⟩
            show Weak s2 ⟨(sp.st st s').env,(sp.st st s').heap,st.next⟩
            rw [hst];exact (Spec.weak_ok h5).2
          · have:(∃ y',(Sum.inr y:σ ⊕ ρ)=.inr y'∧((Sum.inr out:σ ⊕ ρ)=.inr y'→K e s2))→Kp (fun s=>⟨(sp.st st s).env,(sp.st st s).heap,st.next⟩) K (.inr out) (.inr y) e s2:=fun hh=>by
              cases e with
              | normal=>exact absurd rfl hne
              | _=>exact hh
            refine this ⟨y,rfl,fun hout => ?_⟩
            cases hout
            exact hk _ _ _ _ hΦ3 hq h5
      · exact h.elim
    · exact h.elim
end
end Go.Proofs.YtjkljacdbljkpaaGreatDoor
