/-
  Plans: what is live, whole functions, and the parts that printed plans are made of.
  Plans: the parts that printed plans are made of.
  Plans for an object whose cells are slices that grow.
  Data of the program's types.
  The table of the library that the program reads: what is known of it while the program runs.
  The program's functions, by the numbers that plans have for them.
  From the readings of a row's arguments to the abstract machine's data: whatever plain data is handed in (numbers, truth values, texts, slices and structures of these) is data of the abstract machine, of its type; and a law that is proved of all such data is the row's contract.
  A law that holds of all plain data of its types is the row's contract: whatever the arguments, the call returns true, and each argument reads as it read before.
  From data of the abstract machine to typed data.
  From readings to the data of this program's types.
  Plain laws about loops, searches and elements of lists.
  Plain laws: what a computation returns, and loops that build lists.
  Attractors: the positions from which the others can force a breach in some number of moves; and the queue that finds these numbers.
  Plain laws: loops over lists, loops that set one place after the other, increasing lists.
-/
import Derived.Test.YtmoedieenlaegaaGreatDoorWF05
import Derived.Test.YtmoedieenlaegaaGreatDoorChecked
import Derived.Lib.ItoaMem
import Derived.Lib.LaidTab
import Derived.KernelRfl
import Derived.Test.YtmoedieenlaegaaGreatDoorWF03
import Derived.ProofKit
import Derived.SizedLaws
import Derived.Carry
import Derived.OpenShut
import Derived.Test.YtmoedieenlaegaaGreatDoorWF04
namespace Go.Proofs.YtmoedieenlaegaaGreatDoor
open Go.RowKit
set_option linter.unusedSimpArgs false
set_option linter.unusedVariables false
section
def Qx (n:Nat):Nat:=Nat.shiftLeft 1 n
def zbK (m n:Nat):Bool:=Nat.beq (Nat.land 1 (Nat.shiftRight m n)) 1
def ku:Opd→Nat
  | .t n=>Qx n
  | .c _=>0
  | .m n _=>Qx n
def Jd:List Opd→Nat
  | []=>0
  | x::r=>Nat.lor (ku x) (Jd r)
def XP (it:AItem):Nat:=match it.guard with
  | none=>Jd (zZ it.op)
  | some (t,_)=>Nat.lor (Qx t) (Jd (zZ it.op))
def zen (m n:Nat):Nat:=match zbK m n with
  | true=>Nat.sub m (Qx n)
  | false=>m
def ZY (out:Nat):List AItem→Nat
  | []=>out
  | it::rest=>match it.guard,it.dst with
    | none,some d=>Nat.lor (XP it) (zen (ZY out rest) d)
    | _,_=>Nat.lor (XP it) (ZY out rest)
def zdY:List AItem→Nat
  | []=>0
  | it::rest=>Nat.lor (XP it) (zdY rest)
def xE:ACode→Nat
  | .region _ _ items _=>zdY items
  | .seq x y=>Nat.lor (xE x) (xE y)
  | .cond c x y=>Nat.lor (ku c) (Nat.lor (xE x) (xE y))
  | .block _ x | .loop x | .scope x=>xE x
  | .range f _ x y=>Nat.lor (ku f) (Nat.lor (xE x) (xE y))
  | _=>0
def zdZ (ex:List (Nat×Nat)) (id:Nat):Nat:=match ex with
  | []=>0
  | (k,v)::r=>match Nat.beq k id with
    | true=>v
    | false=>zdZ r id
def Ve:List (Nat×Nat)→Nat
  | []=>0
  | (_,v)::r=>Nat.lor v (Ve r)
def Je (ret:Nat):ACode→Nat→List (Nat×Nat)→Nat
  | .skip,out,_=>out
  | .region _ _ items _,out,_=>ZY out items
  | .seq x y,out,ex=>Je ret x (Je ret y out ex) ex
  | .cond c x y,out,ex=>Nat.lor (ku c) (Nat.lor (Je ret x out ex) (Je ret y out ex))
  | .block id x,out,ex=>Je ret x out ((id,out)::ex)
  | .loop x,out,ex=>Nat.lor ret (Nat.lor (xE x) (Ve ex))
  | .scope x,out,ex=>Je ret x out ex
  | .exit id,_,ex=>zdZ ex id
  | .ret,_,_=>ret
  | .range f _ x y,out,ex=>Nat.lor (Nat.lor ret out) (Nat.lor (ku f) (Nat.lor (Nat.lor (xE x) (xE y)) (Ve ex)))
def Jf (m:Nat):Nat→List Nat
  | 0=>[]
  | n+1=>match zbK m n with
    | true=>n::Jf m n
    | false=>Jf m n
def ann (nt ret:Nat):ACode→Nat→List (Nat×Nat)→ACode
  | .skip,_,_=>.skip
  | .region d o items _,out,_=>.region d o items (some (Jf out nt))
  | .seq x y,out,ex=>.seq (ann nt ret x (Je ret y out ex) ex) (ann nt ret y out ex)
  | .cond c x y,out,ex=>.cond c (ann nt ret x out ex) (ann nt ret y out ex)
  | .block id x,out,ex=>.block id (ann nt ret x out ((id,out)::ex))
  | .loop x,out,ex=>.loop (ann nt ret x (Nat.lor ret (Nat.lor (xE x) (Ve ex))) ex)
  | .scope x,out,ex=>.scope (ann nt ret x out ex)
  | .exit id,_,_=>.exit id
  | .ret,_,_=>.ret
  | .range f ps x y,out,ex=>.range f ps (ann nt ret x (xE y) ex) (ann nt ret y 0 ex)
theorem jb (nt ret:Nat):∀ (c:ACode) (out:Nat) (ex:List (Nat×Nat)),(ann nt ret c out ex).erase=c.erase
  | .skip,_,_=>rfl
  | .region _ _ _ _,_,_=>rfl
  | .seq x y,out,ex=>by simp only [ann,ACode.erase,jb nt ret x,jb nt ret y]
  | .cond c x y,out,ex=>by simp only [ann,ACode.erase,jb nt ret x,jb nt ret y]
  | .block id x,out,ex=>by simp only [ann,ACode.erase,jb nt ret x]
  | .loop x,out,ex=>by simp only [ann,ACode.erase,jb nt ret x]
  | .scope x,out,ex=>by simp only [ann,ACode.erase,jb nt ret x]
  | .exit id,_,_=>rfl
  | .ret,_,_=>rfl
  | .range f ps x y,out,ex=>by simp only [ann,ACode.erase,jb nt ret x,jb nt ret y]
theorem qO (C:Ctx) (nt:Nat):∀ (code:Code) (ac:ACode),comp C nt code=some ac→ac.erase=ac
  | .skip,ac,h=>by simp only [comp] at h;cases h;rfl
  | .region _ ops draw,ac,h=>by
    simp only [comp] at h
    split at h
    · split at h
      · split at h
        · cases h;rfl
        · cases h
      · cases h;rfl
    · cases h
  | .seq a b,ac,h=>by
    simp only [comp] at h
    split at h
    · rename_i x y hx hy;cases h;simp only [ACode.erase,qO C nt a x hx,qO C nt b y hy]
    · cases h
  | .cond c a b,ac,h=>by
    simp only [comp] at h
    split at h
    · rename_i x y hx hy;cases h;simp only [ACode.erase,qO C nt a x hx,qO C nt b y hy]
    · cases h
  | .block id a,ac,h=>by
    simp only [comp] at h
    split at h
    · rename_i x hx;cases h;simp only [ACode.erase,qO C nt a x hx]
    · cases h
  | .loop a,ac,h=>by
    simp only [comp] at h
    split at h
    · rename_i x hx;cases h;simp only [ACode.erase,qO C nt a x hx]
    · cases h
  | .scope a,ac,h=>by
    simp only [comp] at h
    split at h
    · rename_i x hx;cases h;simp only [ACode.erase,qO C nt a x hx]
    · cases h
  | .label _,ac,h=>by simp only [comp] at h;cases h;rfl
  | .exit id,ac,h=>by simp only [comp] at h;cases h;rfl
  | .ret,ac,h=>by simp only [comp] at h;cases h;rfl
  | .rangeFunc _ ps a b,ac,h=>by
    simp only [comp] at h
    split at h
    · split at h
      · rename_i x y hx hy;cases h;simp only [ACode.erase,qO C nt a x hx,qO C nt b y hy]
      · cases h
    · cases h
  | .goto _,ac,h=>by simp only [comp] at h;cases h
  | .refuse _,ac,h=>by simp only [comp] at h;cases h
theorem WW {C:Ctx} {f:Nat} {F:AFun} (h:qm C f=some F):F.erase=F:=by
  unfold qm at h
  split at h
  · split at h
    · split at h
      · rename_i ac rs hac hrs
        split at h
        · cases h
        · cases h;simp only [AFun.erase,qO C _ _ _ hac]
      · cases h
    · cases h
  · cases h
def Qy:List ARes→Nat
  | []=>0
  | .tmp t::r=>Nat.lor (Qx t) (Qy r)
  | .cell t _ _::r=>Nat.lor (Qx t) (Qy r)
def AFun.ann (F:AFun):AFun:={F with body:=Go.Proofs.YtmoedieenlaegaaGreatDoor.ann F.nt (Qy F.results) F.body (Qy F.results) []}
theorem Jg {C:Ctx} {f:Nat} {F:AFun} (h:qm C f=some F):qm C f=some F.ann.erase:=by
  rw [h]
  have:=WW h
  simp only [AFun.erase] at this
  simp only [AFun.ann,AFun.erase,jb]
  rw [this]
def noR:Opd→List Nat→GT→GT→CT:=fun _ _ _ _ _ _ _ _ _=>.bad 3161
theorem zfx (C:Ctx):zao C noR:=fun _ _ _ _ _ _ _ _ _ _ _ _ _ {_} {_} _ _ _ _ _ _ _ h _=>h.elim
def JU (o:Option AObj) (o':AObj) (t:Tree):Tree:=match o with
  | some x=>.eq AObj x o' t
  | none=>.bad 3167
theorem Jh {o:Option AObj} {o':AObj} {t:Tree} (h:(JU o o' t).Ok):o=some o'∧t.Ok:=by
  unfold JU at h
  split at h
  · obtain ⟨rfl,h2⟩:=h;exact ⟨rfl,h2⟩
  · exact h.elim
noncomputable def zfy {α:Type} (idl L:Nat) (R:LoopState→Option Code→Loop) (k:AV→List (Nat×AObj)→Nat→zG→Plan α→Tree):KT α:=fun e s Φ q=>JU (za s.heap idl) (.lp L R .busy none) (match e with
  | .normal=>k (.imm (.bool true)) (zn s.heap idl (.lp L R .ready none)) (s.next+1) Φ q
  | .ret=>k (.imm (.bool false)) (zn s.heap idl (.lp L R .done (some .ret))) (s.next+1) Φ q
  | .exit id=>k (.imm (.bool false)) (zn s.heap idl (.lp L R .done (some (.exit id)))) (s.next+1) Φ q
  | _=>.bad 3178)
noncomputable def zbL (env:List (Nat×AV)) (idl L:Nat) (R:LoopState→Option Code→Loop) (ps:List Nat) (gx gy:GT):YT:=fun l id args heap next α Φ p k=>
  .eq (Nat×Nat) (l,id) (L,idl) (match Nat.beq args.length ps.length with
    | true=>JU (za heap idl) (.lp L R .ready none) (gx false noT α ⟨Vb ps args env,heap,next⟩ Φ p fun e s Φ q=>match e with
      | .normal=>JU (za s.heap idl) (.lp L R .ready none) (gy false noT α ⟨s.env,zn s.heap idl (.lp L R .busy none),s.next+1⟩ Φ q (zfy idl L R k))
      | _=>.bad 3183)
    | false=>.bad 3184)
noncomputable def Vf {α:Type} (env:List (Nat×AV)) (idl L:Nat) (R:LoopState→Option Code→Loop) (rs:List ARes) (k:KT α) (s:St) (Φ:zG) (q:Plan α):Tree:=match q6 rs s with
  | some _=>match za s.heap idl with
    | some (.lp L' R' .ready none)=>.eq AObj (.lp L' R' .ready none) (.lp L R .ready none) (k .normal ⟨env,zn s.heap idl (.lp L R .exhausted none),s.next+1⟩ Φ q)
    | some (.lp L' R' .done (some .ret))=>.eq AObj (.lp L' R' .done (some .ret)) (.lp L R .done (some .ret)) (k .ret ⟨env,zn s.heap idl (.lp L R .exhausted (some .ret)),s.next+1⟩ Φ q)
    | some (.lp L' R' .done (some (.exit id)))=>.eq AObj (.lp L' R' .done (some (.exit id))) (.lp L R .done (some (.exit id))) (k (.exit id) ⟨env,zn s.heap idl (.lp L R .exhausted (some (.exit id))),s.next+1⟩ Φ q)
    | _=>.bad 3190
  | none=>.bad 3191
noncomputable def zc6 (C:Ctx):Opd→List Nat→GT→GT→CT:=fun f ps gx gy α st Φ p k=>match zd st.env f with
  | .func gf [] caps=>match qm C gf with
    | some F=>match Nat.ble (caps.length+1) F.nt with
      | true=>.all Nat fun L=>.all (LoopState→Option Code→Loop) fun R=>chk C noR F.ann.body true (zbL st.env st.next L R ps gx gy) α ⟨qQ 0 (.yld L st.next::caps),zn st.heap st.next (.lp L R .ready none),st.next+1⟩ Φ p fun e s Φ q=>match e with
        | .ret=>Vf st.env st.next L R F.results k s Φ q
        | .normal=>Vf st.env st.next L R F.results k s Φ q
        | _=>.bad 3198
      | false=>.bad 3199
    | none=>.bad 3200
  | _=>.bad 3201
theorem Yb {α:Type} {env:List (Nat×AV)} {idl L:Nat} {R:LoopState→Option Code→Loop} {rs:List ARes} {k:KT α} {s:St} {Φ:zG} {q:Plan α} {K:Exit→St→Prop} (h:(Vf env idl L R rs k s Φ q).Ok) (hk:∀ e s,(k e s Φ q).Ok→K e s) :
    ∃ r,q6 rs s=some r∧zdW env idl L R K s.heap s.next:=by
  unfold Vf at h
  split at h
  · rename_i r hr
    refine ⟨r,hr,?_⟩
    split at h
    · rename_i ho;obtain ⟨h1,h2⟩:=h;rw [h1] at ho;exact .inl ⟨ho,hk _ _ h2⟩
    · rename_i ho;obtain ⟨h1,h2⟩:=h;rw [h1] at ho;exact .inr (.inl ⟨ho,hk _ _ h2⟩)
    · rename_i id ho;obtain ⟨h1,h2⟩:=h;rw [h1] at ho;exact .inr (.inr ⟨id,ho,hk _ _ h2⟩)
    · exact h.elim
  · exact h.elim
theorem Km (C:Ctx):zao C (zc6 C):=by
  intro f ps x y gx gy hx hy at0 Y ym yk nt α r st Φ p k K hΦ hr h hk
  unfold zc6 at h
  split at h
  · rename_i gf caps hf
    split at h
    · rename_i F hF
      split at h
      · rename_i hn
        refine zbG (C:=⟨C,none,at0,Y,ym,yk⟩) rfl hf (F:=F.ann) (Jg hF) (Nat.le_of_ble_eq_true hn) ?_
        intro L R at0' ym' yk' B
        have hYt:zai ⟨C,none,at0',kq ⟨C,none,at0,Y,ym,yk⟩ nt st.env st.next L R ps x y,ym',yk'⟩ (zbL st.env st.next L R ps gx gy):=by
          intro l id args heap next β Ψ q kk r' KK hΨ hr' h1 hkk
          obtain ⟨e1,h2⟩:=h1
          cases e1
          split at h2
          · rename_i hlen
            obtain ⟨e2,h3⟩:=Jh h2
            refine ⟨rfl,rfl,Nat.eq_of_beq_eq_true hlen,e2,?_⟩
            refine hx (some L) none noY _ _ false noT nt (fun h=>by cases h) (JR _) _ Ψ q _ _ hΨ hr' h3 ?_
            intro e s Ψ2 q2 hΨ2 hr2 h4
            cases e with
            | normal=>
              obtain ⟨e3,h5⟩:=Jh h4
              refine ⟨e3,?_⟩
              refine hy (some L) none noY _ _ false noT nt (fun h=>by cases h) (JR _) _ Ψ2 q2 _ _ hΨ2 hr2 h5 ?_
              intro e s3 Ψ3 q3 hΨ3 hr3 h6
              obtain ⟨e4,h7⟩:=Jh h6
              cases e with
              | normal=>exact ⟨e4,hkk _ _ _ _ _ hΨ3 hr3 h7⟩
              | ret=>exact ⟨e4,hkk _ _ _ _ _ hΨ3 hr3 h7⟩
              | exit id=>exact ⟨e4,hkk _ _ _ _ _ hΨ3 hr3 h7⟩
              | _=>exact h7.elim
            | _=>exact h4.elim
          · exact h2.elim
        refine qk (zfx C) F.ann.body none at0' _ ym' yk' true _ ⟨F.ann.nt,B⟩ (fun _=>rfl) hYt _ Φ p _ _ hΦ hr (h L R) ?_
        intro e s Φ2 q2 hΦ2 hr2 h2
        cases e with
        | ret=>obtain ⟨r2,h3,h4⟩:=Yb (K:=K) h2 (fun e s h=>hk e s _ _ hΦ2 hr2 h);exact ⟨.inl rfl,r2,h3,h4⟩
        | normal=>obtain ⟨r2,h3,h4⟩:=Yb (K:=K) h2 (fun e s h=>hk e s _ _ hΦ2 hr2 h);exact ⟨.inr rfl,r2,h3,h4⟩
        | _=>exact h2.elim
      · exact h.elim
    · exact h.elim
  · exact h.elim
variable (C:Ctx)
noncomputable def kw {α:Type} (f:Nat) (args:List AV) (heap:List (Nat×AObj)) (m:Nat) (p:Plan α) (kend:List ARes→KT α):Tree:=match qm C f with
  | some F=>match Nat.ble args.length F.nt with
    | true=>chk C (zc6 C) F.ann.body true noT α ⟨qQ 0 args,heap,m⟩ [] p (kend F.results)
    | false=>.bad 3266
  | none=>.bad 3267
noncomputable def zap {α:Type} (iv:α→IV) (rs:List ARes) (s:St):Plan α→Tree
  | .ret a=>.eq (Option IV) ((q6 rs s).bind (zB (za s.heap) 5)) (some (iv a)) .tt
  | .fin ids V objs x h a=>match xi s.heap ids with
    | some objs'=>.eq (List (Nat×AObj)) objs' objs (.eq (Option AV) (q6 rs s) (some V) (.eq IV x (iv a) .tt))
    | Option.none=>.bad 3273
  | _=>.bad 3274
noncomputable def zd0 {α:Type} (iv:α→IV) (rs:List ARes):KT α:=fun e s Φ q=>settle q Φ fun Φ q=>match e with
  | .ret=>zap iv rs s q
  | .normal=>zap iv rs s q
  | _=>.bad 3278
noncomputable def zaq {α:Type} (R:α→AV) (H:α→List (Nat×AObj)) (n:Nat) (rs:List ARes) (s:St):Plan α→Tree
  | .ret a=>match q6 rs s with
    | some x=>.eq AV x (R a) (Zf n [(0,R a)] [] (H a) [] ⟨[(0,R a)],s.heap,s.next⟩ .tt)
    | Option.none=>.bad 3283
  | .finL x y h a=>match q6 rs s with
    | some x'=>.eq AV x' x (.eq AV y (R a) (Zf n [(0,R a)] [] (H a) [] ⟨[(0,R a)],s.heap,s.next⟩ .tt))
    | Option.none=>.bad 3286
  | _=>.bad 3287
noncomputable def zfz {α:Type} (R:α→AV) (H:α→List (Nat×AObj)) (n:Nat) (rs:List ARes):KT α:=fun e s Φ q=>settle q Φ fun Φ q=>match e with
  | .ret=>zaq R H n rs s q
  | .normal=>zaq R H n rs s q
  | _=>.bad 3291
variable {C:Ctx}
theorem Kn {α:Type} {iv:α→IV} {rs:List ARes} {s:St} {q:Plan α} {r:α} (hr:q.run=some r) (h:(zap iv rs s q).Ok):ZS (XI 5 (iv r)) s.heap s.next (q6 rs s):=by
  unfold zap at h
  split at h
  · cases hr
    have h1:=h.1
    cases h2:q6 rs s with
    | none=>rw [h2] at h1;cases h1
    | some x=>rw [h2] at h1;exact h1
  · rename_i ids V objs x hs a
    cases hr
    split at h
    · rename_i objs' ho
      obtain ⟨rfl,h2,rfl,_⟩:=h
      rw [h2]
      have:=kY (kZ ho) hs
      simp only [mapO] at this
      split at this
      · rename_i b hb;cases this;exact hb
      · cases this
    · exact h.elim
  · exact h.elim
theorem Plan.pure {f:Nat} {α:Type} {args:List IV} {iv:α→IV} (p:Plan α) (h:kw C f (args.map .imm) [] 0 p (zd0 iv)=(kw C f (args.map .imm) [] 0 p (zd0 iv)).norm) {r:α} (hr:p.run=some r):APure C f args (iv r):=by
  have hk:=Tree.ok h
  unfold kw at hk
  split at hk
  · rename_i F hF
    split at hk
    · rename_i hn
      refine APure.start (F:=F.ann) (Jg hF) 5 (by have:=Nat.le_of_ble_eq_true hn;rw [List.length_map] at this;exact this) (fun B => ?_)
      refine qk (Km C) F.ann.body Option.none Option.none noY _ _ true noT _ (fun _=>rfl) (JR _) _ [] p _ _ (fun k f hf=>by cases hf) hr hk ?_
      intro e s Φ q hΦ hr2 h2
      obtain ⟨Φ3,q3,hΦ3,hr3,h3⟩:=qD q hΦ h2 hr2
      cases e with
      | ret=>exact Kn hr3 h3
      | normal=>exact Kn hr3 h3
      | _=>exact h3.elim
    · exact hk.elim
  · exact hk.elim
theorem Ko {α:Type} {R:α→AV} {H:α→List (Nat×AObj)} {n:Nat} (hb:∀ a,Belows n (H a)) {rs:List ARes} {s:St} {q:Plan α} {r:α} (hr:q.run=some r) (h:(zaq R H n rs s q).Ok):∃ x,q6 rs s=some x∧Weak ⟨[(0,x)],s.heap,s.next⟩ ⟨[(0,R r)],H r,n⟩:=by
  unfold zaq at h
  split at h
  · cases hr
    split at h
    · rename_i x hx
      obtain ⟨rfl,h1⟩:=h
      have:=(Jb (o:=Option.none) (t:=.tt) (hb _) h1).2
      simp only [List.append_nil,List.nil_append,Zc] at this
      exact ⟨_,hx,this⟩
    · exact h.elim
  · rename_i x y hl a
    cases hr
    split at h
    · rename_i x' hx
      obtain ⟨rfl,rfl,h1⟩:=h
      have hn:n≤s.next:=by
        unfold Zf at h1
        split at h1
        · rename_i hn;exact Nat.le_of_ble_eq_true hn
        · exact h1.elim
      have:=(Jb (o:=Option.none) (t:=.tt) (hb _) h1).2
      simp only [List.append_nil,List.nil_append,Zc] at this
      exact ⟨_,hx,(zel hl).andThen this hn⟩
    · exact h.elim
  · exact h.elim
theorem Plan.det {f:Nat} {α:Type} {args:List AV} {heap:List (Nat×AObj)} {m d:Nat} {R:α→AV} {H:α→List (Nat×AObj)} (p:Plan α) (b0:Belows m heap) (b1:∀ a,Belows (m+d) (H a)) (k0:(args.all (zL m)&&Qv m heap)=true) (k1:∀ a,(zL (m+d) (R a)&&Qv m (H a))=true)
    (h:kw C f args heap m p (zfz R H (m+d))=(kw C f args heap m p (zfz R H (m+d))).norm) {r:α} (hr:p.run=some r):DOk C f args heap m (R r) (H r) d:=by
  have hk:=Tree.ok h
  have k0:=k0;rw [Bool.and_eq_true] at k0
  have k1:=k1 r;rw [Bool.and_eq_true] at k1
  unfold kw at hk
  split at hk
  · rename_i F hF
    split at hk
    · rename_i hn
      refine DOk.start (F:=F.ann) (Jg hF) (Nat.le_of_ble_eq_true hn) b0 (b1 r) k0.1 k1.1 k0.2 k1.2 (fun B => ?_)
      refine qk (Km C) F.ann.body Option.none Option.none noY _ _ true noT _ (fun _=>rfl) (JR _) _ [] p _ _ (fun k f hf=>by cases hf) hr hk ?_
      intro e s Φ q hΦ hr2 h2
      obtain ⟨Φ3,q3,hΦ3,hr3,h3⟩:=qD q hΦ h2 hr2
      cases e with
      | ret=>exact Ko b1 hr3 h3
      | normal=>exact Ko b1 hr3 h3
      | _=>exact h3.elim
    · exact hk.elim
  · exact hk.elim
end
section
section
variable {α β:Type}
def Plan.us:List (Nat×Nat)→Plan α→Plan α
  | [],p=>p
  | (j,k)::l,p=>.use j k (Plan.us l p)
abbrev Plan.sel (key:Nat) (p:Plan α):Plan α:=.use 999 key p
theorem FactsOk.c1 {key:Nat} {o:List Orc} {p:Prop} (h:p) {Φ:zG} (t:FactsOk Φ):FactsOk ((key,(o,[p]))::Φ):=t.add (.cons h .nil)
theorem FactsOk.c2 {key:Nat} {o:List Orc} {p q:Prop} (h:p) (h':q) {Φ:zG} (t:FactsOk Φ):FactsOk ((key,(o,[p,q]))::Φ):=t.add (.cons h (.cons h' .nil))
abbrev Plan.b1 (key:Nat) (x:Option β) (o:β→Orc) {p:β→Prop} (h:∀ v,x=some v→p v) (k:β→Plan α):Plan α:=
  .bind x (fun v=>[(key,([o v],[p v]))]) (fun v hv=>.c1 (h v hv) .nil) k
abbrev Plan.u1 (j key:Nat) (x:Option β) (o:β→Orc) {p:β→Prop} (h:∀ v,x=some v→p v) (k:β→Plan α):Plan α:=
  .bind x (fun v=>[(key,([o v],[p v]))]) (fun v hv=>.c1 (h v hv) .nil) fun v=>.use j key (k v)
abbrev Plan.f1 (key:Nat) (o:Orc) {p:Prop} (h:p) (q:Plan α):Plan α:=.fact key [o] [p] (.cons h .nil) q
abbrev Plan.ix (key:Nat) (row:β→List IV) (l:List β) (n:Int) (k:β→Plan α):Plan α:=
  Plan.b1 key (ze l n) (fun e=>.r (row e)) (fun e h=>zcX row h) k
abbrev Plan.ln (key:Nat) (row:β→List IV) (l:List β) (q:Plan α):Plan α:=Plan.f1 key (.n (l.length:Int)) (zcW row l) q
abbrev Plan.call {C:Ctx} {f:Nat} {ivs:List IV} {x:Option β} {iv:β→IV} (key:Nat) (t:∀ r,x=some r→APure C f ivs (iv r)) (k:β→Plan α):Plan α:=
  Plan.b1 key x (fun r=>.v (iv r)) t k
abbrev Spec.e {β:Type} (ks:List Nat) (ov:β→List (Nat×AV)) (hs:List Nat) (nx:Nat):Spec β:=⟨ks,ov,hs,fun _=>[],nx,fun _=>.nil,fun _=>Option.none⟩
end
def zjc (id sz:Nat) (l m:List (List AV)) (hle:RowsLe l m):WStep where
  to st:=⟨st.env,zn st.heap id (.rows sz m),st.next⟩
  T st t:=.eq (Option AObj) (za st.heap id) (some (.rows sz l)) t
  ok st t h:=⟨h.2,zcZ id sz l m h.1 hle,Nat.le_refl _⟩
def Qz (id sz' r j:Nat):WStep where
  to st:=match za st.heap id with
    | some (.rows sz rows)=>⟨st.env,zn (qt st.heap st.next (.tip sz' 0)) id (.rows sz (rows.set r ((rows.getD r []).set j (.gslice st.next [])))),st.next+1⟩
    | _=>st
  T st t:=match za st.heap id with
    | some (.rows sz rows)=>match rows[r]? with
      | some row=>.eq (Option AV) row[j]? (some .nil) t
      | none=>.bad 4074
    | _=>.bad 4075
  ok st t h:=by
    split at h
    · rename_i sz rows ho
      split at h
      · rename_i row hr
        obtain ⟨h1,h2⟩:=h
        simp only [ho]
        have:rows.getD r []=row:=by rw [List.getD_eq_getElem?_getD,hr];rfl
        rw [this]
        exact ⟨h2,zbE id sz sz' rows r j row ho hr h1,Nat.le_succ _⟩
      · exact h.elim
    · exact h.elim
def zg4 {α:Type} (t id r j i sz':Nat) (f:α→List IV) (l:List α):WStep where
  to st:=match za st.heap id with
    | some (.rows sz rows)=>⟨st.env,zn (zn (qt st.heap st.next (.tip sz' l.length)) i .dead) id (.rows sz (rows.set r ((rows.getD r []).set j (.gslice st.next (l.map f))))),st.next+1⟩
    | _=>st
  T st tr:=match za st.env t with
    | some (.ptr id' a0 b0)=>.eq Nat id' id (match za st.heap id with
      | some (.rows sz rows)=>match rows[r]? with
        | some row=>.eq (Option AV) row[j]? (some (.mslice i 0 l.length)) (.eq (Option AObj) (za st.heap i) (some (.rows sz' (zc f l))) (match Nat.beq i id with
          | true=>.bad 4098
          | false=>tr))
        | none=>.bad 4100
      | _=>.bad 4101)
    | _=>.bad 4102
  ok st tr h:=by
    split at h
    · rename_i id' a0 b0 ht
      obtain ⟨h0,h⟩:=h
      subst h0
      split at h
      · rename_i sz rows ho
        split at h
        · rename_i row hr
          obtain ⟨h1,h2,h3⟩:=h
          split at h3
          · exact h3.elim
          · rename_i hne
            simp only [ho]
            have:rows.getD r []=row:=by rw [List.getD_eq_getElem?_getD,hr];rfl
            rw [this]
            have hw:=zbF (st:=st) t a0 b0 id' sz i sz' rows r j row (l.map f) ht ho hr (by rw [h1,List.length_map]) (by rw [h2,zbD]) (fun e=>by subst e;rw [Nat.beq_refl] at hne;cases hne)
            rw [List.length_map] at hw
            exact ⟨h3,hw,Nat.le_succ _⟩
        · exact h.elim
      · exact h.elim
    · exact h.elim
def eqN (a b:Nat):Option (PLift (a=b)):=if h:a=b then some ⟨h⟩ else none
theorem Plan.run_of {α:Type} {p:Plan α} {d:Option α} {r:α} (h:d=some r) (e:d=p.run):p.run=some r:=e ▸ h
end
def zg5 (P n:Nat):WStep where
  to st:=⟨st.env,zn st.heap P (.rows 1 (qc zx (List.replicate n [])))++j3 (List.replicate n []),2000000⟩
  T st t:=.eq (Option AObj) (za st.heap P) (some (.rows 1 (List.replicate n [.nil]))) (match Nat.ble st.next qw with
    | true=>t
    | false=>.bad 5015)
  ok st t h:=by
    obtain ⟨h1,h2⟩:=h
    split at h2
    · rename_i hn
      have hn:=Nat.le_of_ble_eq_true hn
      have hm:qw=999999:=rfl
      exact ⟨h2,zbI P n h1 hn,by show st.next≤2000000;omega⟩
    · exact h2.elim
def xS (Ls:List (List Int)) (n:Nat) (to i:Int):Option (List (List Int)):=
  if 0≤to∧to < n∧to < 1000000 then match Ls[to.toNat]? with
    | some L=>if (L.length+1)*8≤140737488355328 then some (Ls.set to.toNat (L++[i])) else none
    | none=>none
  else none
def vq:List AItem:=[⟨some 65,.mov (.t 8),none⟩,⟨some 66,.fld 1 (.t 13),none⟩,⟨some 67,.load false 1 (.t 66),none⟩,⟨some 68,.mov (.t 8),none⟩,⟨some 69,.fld 1 (.t 13),none⟩,⟨some 70,.load false 1 (.t 69),none⟩,
  ⟨some 71,.idx 1 (.t 68) (.t 70),none⟩,⟨some 72,.load false 1 (.t 71),none⟩,⟨some 73,.mov (.t 10),none⟩,⟨some 74,.bslice 1 [.imm (.int .i64 0)] 1 [(0,.t 73)],none⟩,⟨some 75,.app 1 8 (.t 72) (.t 74),none⟩,⟨some 76,.idx 1 (.t 65) (.t 67),none⟩,⟨none,.store 1 (.t 76) (.t 75),none⟩]
def kx:List Nat:=[0,0,2,0,0,16,56,120,0,256,1016,2047,4095]
def zc7 (ks:List Nat):ACode:=.region true kx vq (some ks)
def ky (st:St) (ks:List Nat) (P:Nat) (Ls:List (List Int)):St:=⟨qp (ks.filter fun k=>Nat.blt k 65) st.env,zn (ye st.heap) P (.rows 1 (qc zx Ls))++j3 Ls,st.next+13⟩
theorem jC {C:CtxY} {ord:List Nat} {K:St→Prop} {dst:Option Nat} {op:AOp} {rest:List AItem} {j:Nat} {W R:List (Nat×Nat)} {st:St} (r:AV) (ups:List (Nat×AObj)) (hc:(match op with | .call _ _=>true | _=>false)=false)
    (he:evalOp op (zd st.env) (za st.heap) st.next=some (r,ups)) (hk:x6 ord j W R (zY ups) (zi op (zd st.env))=true)
    (hn:evd C ord K rest (j+1) (q7 j (zY ups) W) (q7 j (zi op (zd st.env)) R) (St.after st dst r ups)):evd C ord K (⟨dst,op,none⟩::rest) j W R st:=by
  rw [zcL,zcM]
  have e:∀ KD,dOp C KD st op=qj KD (zi op (zd st.env)) (evalOp op (zd st.env) (za st.heap) st.next):=fun KD=>by
    cases op<;>first | rfl | exact Bool.noConfusion hc
  rw [e,he]
  exact ⟨hk,hn⟩
theorem kb (ks:List Nat):∀ (env:List (Nat×AV)) (t:Nat),za (qp ks env) t=if ks.contains t then za env t else none
  | [],t=>by simp [qp,za]
  | (k,v)::r,t=>by
    have ih:=kb ks r t
    simp only [qp,List.filter_cons] at ih ⊢
    by_cases hk:ks.contains k=true
    · rw [if_pos hk]
      simp only [za]
      by_cases e:k=t
      · subst e;rw [if_pos rfl,if_pos rfl,if_pos hk]
      · rw [if_neg e,if_neg e];exact ih
    · rw [if_neg hk,ih]
      by_cases e:k=t
      · subst e;rw [if_neg hk,if_neg hk]
      · simp only [za];rw [if_neg e]
set_option maxHeartbeats 1000000 in
theorem zbM {C:CtxY} {nt:Fr} {st:St} {P n M:Nat} {i to:Int} {a:AV} {Ls Ls':List (List Int)} {ks:List Nat} {K:Exit→St→Prop}
    (e8:za st.env 8=some (.mslice P 0 n)) (e13:za st.env 13=some (.ptr M 0 0)) (e10:za st.env 10=some (vI i)) (hN:NestH st.heap P Ls) (hM:za st.heap M=some (.rows 2 [[a,vI to]]))
    (hlt:∀ j o,za st.heap j=some o→j < st.next) (ha:xS Ls n to i=some Ls') (h:K .normal (ky st ks P Ls')):awp C nt (zc7 ks) K st:=by
  obtain ⟨env,heap,N⟩:=st
  simp only at e8 e13 e10 hN hM hlt
  unfold xS at ha
  split at ha
  case isFalse=>cases ha
  rename_i hto
  obtain ⟨t0,t1,t2⟩:=hto
  split at ha
  case h_2=>cases ha
  rename_i L hL
  split at ha
  case isFalse=>cases ha
  rename_i hsz
  cases ha
  obtain ⟨k,hk⟩:∃ k:Nat,to=(k:Int):=⟨to.toNat,by omega⟩
  subst hk
  simp only [Int.toNat_natCast] at hL h
  have hk6:k < 1000000:=by omega
  have hkn:k < n:=by omega
  have hq:=hN.tip hL hk6
  have hnb:zx+k < 2000000:=by simp only [zx];omega
  have hrow:(qc zx Ls)[k]?=some [.gslice (zx+k) (L.map zb)]:=by rw [vo,hL,Option.map_some,xl hnb]
  have hPN:=hlt _ _ hN.obj
  have hMN:=hlt _ _ hM
  have hqN:=hlt _ _ hq
  have hPM:P≠M:=fun e=>by have:=hN.obj;rw [e,hM] at this;simp at this
  have hqP:zx+k≠P:=fun e=>by have:=hN.obj;rw [←e,hq] at this;cases this
  have hqM:zx+k≠M:=fun e=>by rw [e] at hq;rw [hM] at hq;cases hq
  refine Jc (ky ⟨env,heap,N⟩ ks P (Ls.set k (L++[i]))) (by simp [ky]) h ?_
  refine zeh ?_
  have lk:JF vq=false:=rfl
  rw [lk]
  show evd C _ _ vq 0 [] [] _
  unfold vq
  refine jC (.mslice P 0 n) [] rfl (by simp [evalOp,zd,e8]) rfl ?_
  refine jC (.ptr M 0 1) [] rfl (by simp [St.after,St.put,zD,evalOp,zd,zq,e13,hM]) rfl ?_
  refine jC (vI (k:Int)) [] rfl (by simp [St.after,St.put,zD,evalOp,zd,zq,hM]) rfl ?_
  refine jC (.mslice P 0 n) [] rfl (by simp [St.after,St.put,zD,evalOp,zd,zq,e8]) rfl ?_
  refine jC (.ptr M 0 1) [] rfl (by simp [St.after,St.put,zD,evalOp,zd,zq,e13,hM]) rfl ?_
  refine jC (vI (k:Int)) [] rfl (by simp [St.after,St.put,zD,evalOp,zd,zq,hM]) rfl ?_
  refine jC (.ptr P k 0) [] rfl (by simp [St.after,St.put,zD,evalOp,zd,zq,hN.obj,vI,hkn]) rfl ?_
  refine jC (.gslice (zx+k) (L.map zb)) [] rfl (by simp [St.after,St.put,zD,evalOp,zd,zq,hN.obj,hrow]) rfl ?_
  refine jC (vI i) [] rfl (by simp [St.after,St.put,zD,evalOp,zd,zq,e10]) rfl ?_
  have n1:N+9≠P:=by omega
  have n2:N+9≠M:=by omega
  have n3:N+9≠zx+k:=by omega
  have ev8:∀ x,za (zn env 65 x) 8=some (.mslice P 0 n):=fun x=>by rw [zq,if_neg (by omega)];exact e8
  refine jC (.mslice (N+9) 0 1) [(N+9,.rows 1 [[vI i]])] rfl (by simp [St.after,St.put,zD,evalOp,zd,zq,mapO,cellsOf,vI,jr,qG]) ?_ ?_
  · simp [x6,zY,zi,q7,zZ,qA,zd,St.after,St.put,zD,zq,e8,e13,e10,vI,Ne.symm n1,Ne.symm n2]
  refine jC (.gslice (zx+k) (L.map zb++[zb i])) [(zx+k,.tip 1 ((L.map zb).length+1))] rfl ?_ ?_ ?_
  · simp [St.after,St.put,zD,evalOp,zd,zq,qL,Q2,j7,hq,n3,mapO,xu,vI,zb,hsz]
  · simp [x6,zY,zi,q7,zZ,qA,zd,St.after,St.put,zD,zq,e8,e13,e10,vI,bef,kx,Ne.symm hqP,Ne.symm hqM,n3]
  refine jC (.ptr P k 0) [] rfl ?_ ?_ ?_
  · simp [St.after,St.put,zD,evalOp,zd,zq,qL,hqP,n1,hN.obj,vI,hkn]
  · simp [x6,zY,zi,q7,zZ,qA,zd,St.after,St.put,zD,zq,e8,e13,e10,vI,bef,kx]
  refine jC .undef [(P,.rows 1 ((qc zx Ls).set k [.gslice (zx+k) (L.map zb++[zb i])]))] rfl ?_ ?_ ?_
  · simp [St.after,St.put,zD,evalOp,zd,zq,qL,hqP,n1,hN.obj,hrow,cellsOf,qG]
  · simp [x6,zY,zi,q7,zZ,qA,zd,St.after,St.put,zD,zq,e8,e13,e10,vI,bef,kx]
  show Weak ⟨qp ks (zn (zn (zn (zn (zn (zn (zn (zn (zn (zn (zn (zn env 65 _) 66 _) 67 _) 68 _) 69 _) 70 _) 71 _) 72 _) 73 _) 74 _) 75 _) 76 _),qt (qt (qt heap (N+9) _) (zx+k) _) P _,N+13⟩ (ky ⟨env,heap,N⟩ ks P (Ls.set k (L++[i])))
  refine zc2 (fun t x hx => ?_) fun j o hj => ?_
  · rw [kb] at hx
    split at hx
    · rename_i hc
      rw [List.contains_iff_mem,List.mem_filter] at hc
      have ht:t < 65:=by simpa [Nat.blt_eq] using hc.2
      rw [kb,if_pos (by simpa using hc.1)]
      simp only [zq]
      rw [if_neg (by omega),if_neg (by omega),if_neg (by omega),if_neg (by omega),if_neg (by omega),if_neg (by omega),if_neg (by omega),if_neg (by omega),if_neg (by omega),if_neg (by omega),if_neg (by omega),if_neg (by omega)]
      exact hx
    · cases hx
  have hset:(qc zx Ls).set k [.gslice (zx+k) (L.map zb++[zb i])]=qc zx (Ls.set k (L++[i])):=by
    rw [←Ww Ls zx k (L++[i]),xl hnb];simp
  simp only [ky] at hj
  rw [x8,zq] at hj
  simp only [qL]
  by_cases hPj:P=j
  · rw [if_pos hPj] at hj
    rw [if_pos hPj,hset];exact hj
  · rw [if_neg hPj] at hj ⊢
    have keep:∀ o',za heap j=some o'→j≠zx+k→(if zx+k=j then some (AObj.tip 1 ((L.map zb).length+1)) else if N+9=j then some (.rows 1 [[vI i]]) else za heap j)=some o':=fun o' h1 h2=>by
      rw [if_neg (fun e=>h2 e.symm),if_neg (fun e=>by have:=hlt _ _ h1;omega)];exact h1
    cases e:za (ye heap) j with
    | some o'=>
      rw [e,Option.some_or] at hj
      cases hj
      have:=Zb hN.out e
      refine keep _ (by rw [vp,e];rfl) (fun e2 => ?_)
      simp only [zx,qw] at this e2 hnb
      omega
    | none=>
      rw [e,Option.none_or,xR] at hj
      split at hj
      · rename_i ej
        cases hj
        refine keep _ ?_ (by rw [ej];simp only [qw,zx];omega)
        rw [vp,e,hN.tail,Option.none_or,xR,if_pos ej]
      · split at hj
        · rename_i ej
          by_cases ejk:j=zx+k
          · subst ejk
            rw [show zx+k - zx=k by omega,List.getElem?_set_self (List.getElem?_eq_some_iff.1 hL).1] at hj
            simp only [Option.map_some,Option.some.injEq] at hj
            subst hj
            rw [if_pos rfl];simp
          · rw [List.getElem?_set_ne (by omega)] at hj
            obtain ⟨L2,hL2,rfl⟩:=Option.map_eq_some_iff.1 hj
            refine keep _ ?_ ejk
            have:=hN.tip hL2 (by have:=ej.2;simp only [zx];omega)
            rw [show zx+(j - zx)=j by omega] at this
            exact this
        · cases hj
theorem zeo {C:CtxY} {nt:Fr} {c:ACode} {K:Exit→St→Prop} {st:St} (h:∀ g a w,Rel C nt g st a w→awp C nt c K st):awp C nt c K st:=fun code hc g a w R I=>h g a w R code hc g a w R I
def zg6 (P n M:Nat) (i to:Int) (a:AV) (Ls:List (List Int)):MStep (List (List Int)) where
  x:=xS Ls n to i
  T c st k:=match c with
    | .region true o items (some ks)=>.eq (List Nat) o kx (.eq (List AItem) items vq (.eq (Option AV) (za st.env 8) (some (.mslice P 0 n)) (.eq (Option AV) (za st.env 13) (some (.ptr M 0 0)) (.eq (Option AV) (za st.env 10) (some (vI i))
      (.eq (Option AObj) (za st.heap P) (some (.rows 1 (qc zx Ls))) (.eq (Option AObj) (za st.heap M) (some (.rows 2 [[a,vI to]])) (.eq (List (Nat×AObj)) (yH st.heap) (j3 Ls)
      (match wq st.heap with
      | true=>.all (List (List Int)) fun b=>k b (ky st ks P b)
      | false=>.bad 5110))))))))
    | _=>.bad 5111
  ok C nt c st k K b hb hT hK:=by
    split at hT
    · rename_i o items ks
      obtain ⟨rfl,rfl,h8,h13,h10,hP,hM,ht,h1⟩:=hT
      split at h1
      · rename_i ho
        refine zeo fun g a' w R => ?_
        exact zbM h8 h13 h10 ⟨hP,ht,ho⟩ hM (fun j o hj=>R.heap.key j o hj) hb (hK _ (h1 b))
      · exact h1.elim
    · exact hT.elim
end Go.Proofs.YtmoedieenlaegaaGreatDoor
namespace Go.Proofs.YtmoedieenlaegaaGreatDoor
open Go.RowKit
set_option linter.unusedSimpArgs false
set_option linter.unusedVariables false
set_option maxRecDepth 100000
section
structure Ratio where
  num:Int
  den:Int
  deriving Inhabited,DecidableEq
def Ratio.row (x:Ratio):List IV:=[.int .i64 x.num,.int .i64 x.den]
def Ratio.iv (x:Ratio):IV:=.agg x.row
structure UnitT where
  name:ByteArray
  kind:Int
  base:Int
  factor:Ratio
  deriving Inhabited,DecidableEq
def UnitT.row (x:UnitT):List IV:=[.str x.name,.int .i64 x.kind,.int .i64 x.base,.int .i64 x.factor.num,.int .i64 x.factor.den]
def UnitT.iv (x:UnitT):IV:=.agg x.row
structure ActT where
  kind:Int
  role:Int
  give:Int
  to:Int
  unit:Int
  lot:Ratio
  deriving Inhabited,DecidableEq
def ActT.row (x:ActT):List IV:=[.int .i64 x.kind,.int .i64 x.role,.int .i64 x.give,.int .i64 x.to,.int .i64 x.unit,.int .i64 x.lot.num,.int .i64 x.lot.den]
def ActT.iv (x:ActT):IV:=.agg x.row
structure CondT where
  clause:Int
  is:Int
  deriving Inhabited,DecidableEq
def CondT.row (x:CondT):List IV:=[.int .i64 x.clause,.int .i64 x.is]
def CondT.iv (x:CondT):IV:=.agg x.row
structure ClauseT where
  kind:Int
  role:Int
  act:Int
  need:Int
  start:List CondT
  after:Int
  grace:Int
  business:Bool
  final:Bool
  pause:Int
  resume:Int
  value:Ratio
  unit:Int
  to:Int
  waived:Bool
  deriving Inhabited,DecidableEq
def ClauseT.row (x:ClauseT):List IV:=[.int .i64 x.kind,.int .i64 x.role,.int .i64 x.act,.int .i64 x.need,.slice (List.map CondT.row x.start),.int .i64 x.after,.int .i64 x.grace,.bool x.business,.bool x.final,.int .i64 x.pause,.int .i64 x.resume,.int .i64 x.value.num,.int .i64 x.value.den,.int .i64 x.unit,.int .i64 x.to,.bool x.waived]
def ClauseT.iv (x:ClauseT):IV:=.agg x.row
structure ContractT where
  parties:Int
  holders:List Int
  units:List UnitT
  acts:List ActT
  clauses:List ClauseT
  days:Int
  off:List Int
  deriving Inhabited,DecidableEq
def ContractT.row (x:ContractT):List IV:=[.int .i64 x.parties,.slice (List.map zb x.holders),.slice (List.map UnitT.row x.units),.slice (List.map ActT.row x.acts),.slice (List.map ClauseT.row x.clauses),.int .i64 x.days,.slice (List.map zb x.off)]
def ContractT.iv (x:ContractT):IV:=.agg x.row
structure MarkT where
  status:Int
  left:Int
  got:Int
  bearer:Int
  paused:Bool
  deriving Inhabited,DecidableEq
def MarkT.row (x:MarkT):List IV:=[.int .i64 x.status,.int .i64 x.left,.int .i64 x.got,.int .i64 x.bearer,.bool x.paused]
def MarkT.iv (x:MarkT):IV:=.agg x.row
structure StateT where
  day:Int
  holders:List Int
  used:List Bool
  marks:List MarkT
  deriving Inhabited,DecidableEq
def StateT.row (x:StateT):List IV:=[.int .i64 x.day,.slice (List.map zb x.holders),.slice (List.map zg x.used),.slice (List.map MarkT.row x.marks)]
def StateT.iv (x:StateT):IV:=.agg x.row
structure PosT where
  state:StateT
  own:Bool
  deriving Inhabited,DecidableEq
def PosT.row (x:PosT):List IV:=[.int .i64 x.state.day,.slice (List.map zb x.state.holders),.slice (List.map zg x.state.used),.slice (List.map MarkT.row x.state.marks),.bool x.own]
def PosT.iv (x:PosT):IV:=.agg x.row
structure MoveT where
  step:Int
  to:Int
  deriving Inhabited,DecidableEq
def MoveT.row (x:MoveT):List IV:=[.int .i64 x.step,.int .i64 x.to]
def MoveT.iv (x:MoveT):IV:=.agg x.row
structure ArenaT where
  party:Int
  positions:List PosT
  moves:List (List MoveT)
  deriving Inhabited,DecidableEq
def ArenaT.row (x:ArenaT):List IV:=[.int .i64 x.party,.slice (List.map PosT.row x.positions),.slice (List.map (qy MoveT.row) x.moves)]
def ArenaT.iv (x:ArenaT):IV:=.agg x.row
structure AdviceT where
  safe:Bool
  move:Int
  wait:Int
  deriving Inhabited,DecidableEq
def AdviceT.row (x:AdviceT):List IV:=[.bool x.safe,.int .i64 x.move,.int .i64 x.wait]
def AdviceT.iv (x:AdviceT):IV:=.agg x.row
structure ShieldRowT where
  position:PosT
  move:Int
  deriving Inhabited,DecidableEq
def ShieldRowT.row (x:ShieldRowT):List IV:=[.int .i64 x.position.state.day,.slice (List.map zb x.position.state.holders),.slice (List.map zg x.position.state.used),.slice (List.map MarkT.row x.position.state.marks),.bool x.position.own,.int .i64 x.move]
def ShieldRowT.iv (x:ShieldRowT):IV:=.agg x.row
structure ShieldT where
  party:Int
  rows:List ShieldRowT
  deriving Inhabited,DecidableEq
def ShieldT.row (x:ShieldT):List IV:=[.int .i64 x.party,.slice (List.map ShieldRowT.row x.rows)]
def ShieldT.iv (x:ShieldT):IV:=.agg x.row
structure DoomRowT where
  position:PosT
  rank:Int
  move:Int
  deriving Inhabited,DecidableEq
def DoomRowT.row (x:DoomRowT):List IV:=[.int .i64 x.position.state.day,.slice (List.map zb x.position.state.holders),.slice (List.map zg x.position.state.used),.slice (List.map MarkT.row x.position.state.marks),.bool x.position.own,.int .i64 x.rank,.int .i64 x.move]
def DoomRowT.iv (x:DoomRowT):IV:=.agg x.row
structure DoomT where
  party:Int
  rows:List DoomRowT
  deriving Inhabited,DecidableEq
def DoomT.row (x:DoomT):List IV:=[.int .i64 x.party,.slice (List.map DoomRowT.row x.rows)]
def DoomT.iv (x:DoomT):IV:=.agg x.row
structure ShieldW where
  s:ShieldT
  deriving Inhabited,DecidableEq
def ShieldW.row (x:ShieldW):List IV:=[.int .i64 x.s.party,.slice (List.map ShieldRowT.row x.s.rows)]
def ShieldW.iv (x:ShieldW):IV:=.agg x.row
structure DoomW where
  d:DoomT
  deriving Inhabited,DecidableEq
def DoomW.row (x:DoomW):List IV:=[.int .i64 x.d.party,.slice (List.map DoomRowT.row x.d.rows)]
def DoomW.iv (x:DoomW):IV:=.agg x.row
attribute [simp] Ratio.row UnitT.row ActT.row CondT.row ClauseT.row ContractT.row MarkT.row StateT.row PosT.row MoveT.row ArenaT.row AdviceT.row ShieldRowT.row ShieldT.row DoomRowT.row DoomT.row ShieldW.row DoomW.row
end
end Go.Proofs.YtmoedieenlaegaaGreatDoor
namespace Go.Proofs.YtmoedieenlaegaaGreatDoor
open Go.RowKit
def xm : String := "internal/strconv.uint64pow10"
noncomputable def zar:Tabs where
  p w:=Lib.TabIs Tryz.prog w xm .u64 Lib.pow10Tab
  n:=(Tryz.prog.globalNamed xm).getD 0+1
  ok w w' h hp:=by
    unfold Lib.TabIs World.var? at *
    cases hg:Tryz.prog.globalNamed xm with
    | none=>rw [hg] at hp;cases hp
    | some g=>
      rw [hg] at hp
      simp only [Option.bind_some] at hp ⊢
      have:=h g (by rw [hg];simp)
      rw [this];exact hp
theorem zas {w:World} (h:zar.p w):zar.n≤w.heap.size:=by
  have h':w.var? Tryz.prog xm=some (Lib.pow10Tab.map fun z=>Value.int .u64 z).toArray:=h
  unfold World.var? at h'
  show (Tryz.prog.globalNamed xm).getD 0+1≤_
  cases hg:Tryz.prog.globalNamed xm with
  | none=>rw [hg] at h';cases h'
  | some g=>
    rw [hg] at h'
    simp only [Option.bind_some] at h'
    split at h'
    · rename_i h2
      have:=(Array.getElem?_eq_some_iff.1 h2).1
      simp only [Option.getD_some];omega
    · cases h'
end Go.Proofs.YtmoedieenlaegaaGreatDoor
namespace Go.Proofs.YtmoedieenlaegaaGreatDoor
open Go.RowKit
set_option linter.unusedSimpArgs false
set_option linter.unusedVariables false
set_option maxRecDepth 100000
noncomputable def C0:Ctx:=⟨Tryz.prog,[0,0,0,0,0,0,0,0,56,0,0,165,0,0,0,0,0,0,0,76,77,0,0,0,0,0,192,0,191,0,0,0,0,0,57,0,0,0,117,0,95,96,97,98,99,100,101,102,0,196,195,0,139,140,123,124,163,143,144,145,90,115,138,114,116,119,118,141,122,58,89,120,30,15,23,28,0,49,51,71,48,50,68,70,0,0,0,0,0,0,0,0,0,54,34,27,0,14,0,73,31,72,55,121,75,142,74,94,88,113,160,136,137,161,158,135,134,159,162,167,168,66,67,92,93,91,69,0,0,0,0,0,0,16,38,39,37,40,24,35,36,29,0,0,0,0,0,0,0,0,0,0,0,0,0,0,0,0,0,0,0,0,0,0,0,0,0,0,0,0,0,0,0,0,0,0,0,0,0,0,0,0,0,0,0,0,0,0,0,0,0,0,0,0,0,0,0,0,0,0,0,0,0,0,0,0,0,0,0,0,0,0,0,0,129,148,149,146,147,128,104,130,194,201,190,197,202,198,199,200,186,193,187,188,189,4,7,6,11,10,9,5,8,41,18,17,169,166,170,150,164,153,155,151,154,110,152,133,157,132,156,107,44,105,62,111,112,108,63,64,84,109,82,131,85,86,106,87,83,45,43,65,61,22,20,47,46,12,3,32,33,13,59,103,125,127,78,79,21,19,26,25,42,53,52,60,80,81],zar,[105,108]⟩
end Go.Proofs.YtmoedieenlaegaaGreatDoor
namespace Go.Proofs.YtmoedieenlaegaaGreatDoor
open Go.RowKit Go.ChangeShapes Go.WideShapes
set_option linter.unusedSimpArgs false
set_option linter.unusedVariables false
section
inductive CTy where
  | bool
  | int (k:IntKind)
  | str
  | slice (by_:Nat) (row:List CTy)
inductive HasC:CTy→IV→Prop where
  | bool (b:Bool):HasC .bool (.bool b)
  | int (k:IntKind) (n:Int) (h:k.min≤n∧n≤k.max):HasC (.int k) (.int k n)
  | str (s:ByteArray) (h:s.size≤reachBytes):HasC .str (.str s)
  | slice (by_:Nat) (tys:List CTy) (rows:List (List IV)) (hl:rows.length*by_≤reachBytes) (hr:∀ row∈rows,row.length=tys.length)
      (hc:∀ row∈rows,∀ (i:Nat) (t:CTy) (c:IV),tys[i]?=some t→row[i]?=some c→HasC t c):HasC (.slice by_ tys) (.slice rows)
def HasCs (tys:List CTy) (row:List IV):Prop:=row.length=tys.length∧∀ (i:Nat) (t:CTy) (c:IV),tys[i]?=some t→row[i]?=some c→HasC t c
def kz (P:Program) (f:TypeId→Option (List CTy)):Nat→List Field→Option (List CTy)
  | _,[]=>some []
  | off,x::r=>if x.offset=off then match f x.type with
      | some a=>if a.length=P.cellsOf x.type then match kz P f (off+a.length) r with
          | some b=>some (a++b)
          | none=>none
        else none
      | none=>none
    else none
def Ji (P:Program):Nat→TypeId→Option (List CTy)
  | 0,_=>none
  | n+1,t=>match P.underlying t with
    | some .bool=>some [.bool]
    | some (.int k)=>some [.int k]
    | some .string=>some [.str]
    | some (.slice e)=>match Ji P n e with
      | some r=>if r.length=P.cellsOf e∧0 < r.length then some [.slice (P.bytesOf e) r] else none
      | none=>none
    | some (.struct fs)=>match kz P (Ji P n) 0 fs.toList with
      | some r=>if r.length=P.cellsOf t then some r else none
      | none=>none
    | _=>none
def zOf (w:World) (b:Nat):Nat:=match w.heap[b]? with
  | some (.cells c _ _)=>c.size
  | _=>0
theorem zfA {w:World} {b:Nat} (h:0 < zOf w b):b < w.heap.size:=by
  unfold zOf at h
  split at h
  · rename_i c t f e;exact (Array.getElem?_eq_some_iff.1 e).1
  · omega
theorem zbN {w:World} {b off:Nat} {s:Option Nat} {v:Value} (h:w.cell? ⟨b,off,s⟩=some v):s=none∧off < zOf w b:=by
  unfold World.cell? at h
  unfold zOf
  simp only at h
  split at h
  · rename_i c t f e
    rw [e]
    cases s with
    | some _=>simp at h
    | none=>simp at h;exact ⟨rfl,(Array.getElem?_eq_some_iff.1 h).1⟩
  · cases h
theorem XQ {α β:Type} {f:α→Option β}:∀ {l:List α} {ys:List β},l.mapM f=some ys→ys.length=l.length∧∀ (i:Nat) (x:α),l[i]?=some x→∃ y,ys[i]?=some y∧f x=some y
  | [],ys,h=>by
    simp at h;subst h;exact ⟨rfl,fun i x hx=>by simp at hx⟩
  | a::l,ys,h=>by
    rw [List.mapM_cons] at h
    simp only [Option.bind_eq_bind,Option.bind_eq_some_iff,Option.pure_def,Option.some.injEq] at h
    obtain ⟨y,hy,r,hr,rfl⟩:=h
    obtain ⟨h1,h2⟩:=XQ hr
    refine ⟨by simp [h1],fun i x hx => ?_⟩
    cases i with
    | zero=>simp at hx;subst hx;exact ⟨y,rfl,hy⟩
    | succ i=>exact h2 i x (by simpa using hx)
theorem RCs.app {Z:Nat→Nat} {w:World} {a b:List IV} {x y:List Value} (h1:RCs Z w a x) (h2:RCs Z w b y):RCs Z w (a++b) (x++y):=by
  refine ⟨by simp [h1.1,h2.1],fun j c u hc hu => ?_⟩
  rcases Nat.lt_or_ge j a.length with h | h
  · rw [List.getElem?_append_left h] at hc
    rw [List.getElem?_append_left (by rw [←h1.1];exact h)] at hu
    exact h1.2 j c u hc hu
  · rw [List.getElem?_append_right h] at hc
    rw [List.getElem?_append_right (by rw [←h1.1];exact h),←h1.1] at hu
    exact h2.2 _ c u hc hu
theorem HasCs.app {a b:List CTy} {x y:List IV} (h1:HasCs a x) (h2:HasCs b y):HasCs (a++b) (x++y):=by
  refine ⟨by simp [h1.1,h2.1],fun j c u hc hu => ?_⟩
  rcases Nat.lt_or_ge j a.length with h | h
  · rw [List.getElem?_append_left h] at hc
    rw [List.getElem?_append_left (by rw [h1.1];exact h)] at hu
    exact h1.2 j c u hc hu
  · rw [List.getElem?_append_right h] at hc
    rw [List.getElem?_append_right (by rw [h1.1];exact h),h1.1] at hu
    exact h2.2 _ c u hc hu
theorem RCs.one {Z:Nat→Nat} {w:World} {a:IV} {x:Value} (h:RI Z w a x):RCs Z w [a] [x]:=⟨rfl,fun j c u hc hu=>by
  cases j with
  | zero=>simp at hc hu;subst hc;subst hu;exact h
  | succ j=>simp at hc⟩
theorem HasCs.one {t:CTy} {a:IV} (h:HasC t a):HasCs [t] [a]:=⟨rfl,fun j c u hc hu=>by
  cases j with
  | zero=>simp at hc hu;subst hc;subst hu;exact h
  | succ j=>simp at hc⟩
section
variable {H:Type} {enc:TypeId×Value→H} {P:Program} {w:World}
def Got (w:World) (tys:List CTy) (cs:List Value):Prop:=∃ row,RCs (zOf w) w row cs∧HasCs tys row∧∀ v∈cs,v.oneCell'=true
theorem JV {fuel:Nat} {f:TypeId→Option (List CTy)} {cs:List Value}
    (ih:∀ t cs d ps tys,f t=some tys→DataW.trod enc P w 0 (fun _=>true) true fuel t cs=some (d,ps)→(d.weights P t).all (· ≤ reachBytes)=true→Got w tys cs) :
    ∀ (fs:List Field) (off:Nat) (xs:List (DataW H×List MemPlace)) (r:List CTy),kz P f off fs=some r →
      (fs.mapM fun x=>DataW.trod enc P w 0 (fun _=>true) true fuel x.type ((cs.drop x.offset).take (P.cellsOf x.type)))=some xs →
      (DataW.weightsEach P (fs.map (·.type)) (xs.map (·.1))).all (· ≤ reachBytes)=true→Got w r ((cs.drop off).take r.length)
  | [],off,xs,r,h1,h2,h3=>by
    simp only [kz,Option.some.injEq] at h1
    subst h1
    exact ⟨[],⟨by simp,fun j c u hc=>by simp at hc⟩,⟨rfl,fun j c u hc=>by simp at hc⟩,fun v hv=>by simp at hv⟩
  | x::fs,off,xs,r,h1,h2,h3=>by
    simp only [kz] at h1
    split at h1
    case isFalse=>cases h1
    rename_i hoff
    split at h1
    case h_2=>cases h1
    rename_i a ha
    split at h1
    case isFalse=>cases h1
    rename_i hlen
    split at h1
    case h_2=>cases h1
    rename_i b hb
    cases h1
    rw [List.mapM_cons] at h2
    simp only [Option.bind_eq_bind,Option.bind_eq_some_iff,Option.pure_def,Option.some.injEq] at h2
    obtain ⟨y,hy,ys,hys,rfl⟩:=h2
    simp only [List.map_cons,DataW.weightsEach,List.all_append,Bool.and_eq_true] at h3
    obtain ⟨r1,g1,g2,g3⟩:=ih _ _ _ _ _ ha hy h3.1
    obtain ⟨r2,k1,k2,k3⟩:=JV ih fs (off+a.length) ys b hb hys h3.2
    rw [←hlen,hoff] at g1 g3
    have hsplit:(cs.drop off).take (a++b).length=(cs.drop off).take a.length++(cs.drop (off+a.length)).take b.length:=by
      rw [List.length_append,List.take_add,List.drop_drop]
    refine ⟨r1++r2,?_,g2.app k2,?_⟩
    · rw [hsplit];exact g1.app k1
    · rw [hsplit];intro v hv
      rcases List.mem_append.1 hv with hv | hv
      · exact g3 v hv
      · exact k3 v hv
theorem QX {e:TypeId}:∀ {l:List (DataW H)},(DataW.weightsAll P e l).all (· ≤ reachBytes)=true→∀ d∈l,(d.weights P e).all (· ≤ reachBytes)=true
  | [],_,d,hd=>by cases hd
  | x::l,h,d,hd=>by
    simp only [DataW.weightsAll,List.all_append,Bool.and_eq_true] at h
    rcases List.mem_cons.1 hd with rfl | hd
    · exact h.1
    · exact QX h.2 d hd
theorem Yc {a:Addr} {n:Nat} {cs:List Value} (h:w.cells? 0 a n=some cs):cs.length=n∧∀ j v,cs[j]?=some v→w.cell? (a.add j)=some v:=by
  unfold World.cells? at h
  rw [if_pos (Nat.zero_le _)] at h
  obtain ⟨h1,h2⟩:=XQ h
  refine ⟨by simpa using h1,fun j v hv => ?_⟩
  have hj:j < n:=by
    have:=(List.getElem?_eq_some_iff.1 hv).1
    simpa [h1] using this
  obtain ⟨y,hy,e⟩:=h2 j j (by simp [hj])
  rw [hv] at hy;cases hy;exact e
theorem zbO {a:Addr} {len cap sz by_:Nat} {r:List CTy} (hr:r.length=sz) (hpos:0 < sz) (hcap:len≤cap) (hb:len*by_≤reachBytes)
    (hel:∀ i,i < len→∃ cs,w.cells? 0 (a.add (i*sz)) sz=some cs∧Got w r cs):Got w [.slice by_ r] [.slice (some a) len cap]:=by
  have hrow:∀ i:Nat,∃ row:List IV,i < len→∃ cs,w.cells? 0 (a.add (i*sz)) sz=some cs∧RCs (zOf w) w row cs∧HasCs r row∧∀ v∈cs,v.oneCell'=true:=fun i=>by
    by_cases hi:i < len
    · obtain ⟨cs,h1,row,h2,h3,h4⟩:=hel i hi
      exact ⟨row,fun _=>⟨cs,h1,h2,h3,h4⟩⟩
    · exact ⟨[],fun h=>absurd h hi⟩
  obtain ⟨R,hR⟩:=Classical.axiomOfChoice hrow
  have hget:∀ (i:Nat) (row:List IV),((List.range len).map R)[i]?=some row→i < len∧row=R i:=fun i row h=>by
    simp only [List.getElem?_map,Option.map_eq_some_iff] at h
    obtain ⟨k,hk,rfl⟩:=h
    obtain ⟨h1,h2⟩:=List.getElem?_eq_some_iff.1 hk
    simp at h1 h2
    subst h2
    exact ⟨h1,rfl⟩
  have hmem:∀ row∈(List.range len).map R,HasCs r row:=fun row h=>by
    obtain ⟨i,hi⟩:=List.mem_iff_getElem?.1 h
    obtain ⟨h1,rfl⟩:=hget i row hi
    obtain ⟨cs,_,_,h2,_⟩:=hR i h1
    exact h2
  refine ⟨[.slice ((List.range len).map R)],.one ?_,.one (.slice _ _ _ (by simpa using hb) (fun row h=>(hmem row h).1) (fun row h=>(hmem row h).2)),fun v hv=>by simp at hv;subst hv;rfl⟩
  rcases Nat.eq_zero_or_pos len with h0 | h0
  · subst h0;exact .empty a cap
  · obtain ⟨b,off,spot⟩:=a
    have hs:spot=none:=by
      obtain ⟨cs,h1,_⟩:=hR 0 h0
      obtain ⟨h2,h3⟩:=Yc h1
      have hc:=h3 0 _ (List.getElem?_eq_getElem (by omega))
      rw [Nat.zero_mul] at hc
      exact (zbN (s:=spot) (off:=off) hc).1
    subst hs
    have hcell:∀ (i:Nat) (row:List IV) (j:Nat) (c:IV),((List.range len).map R)[i]?=some row→row[j]?=some c→∃ v,w.cell? ⟨b,off+i*sz+j,none⟩=some v∧v.oneCell'=true∧RI (zOf w) w c v:=fun i row j c hi hj=>by
      obtain ⟨h1,rfl⟩:=hget i row hi
      obtain ⟨cs,h2,h3,h4,h5⟩:=hR i h1
      obtain ⟨h6,h7⟩:=Yc h2
      have hjl:j < cs.length:=by rw [←h3.1];exact (List.getElem?_eq_some_iff.1 hj).1
      have hcs:=List.getElem?_eq_getElem hjl
      exact ⟨cs[j],by have:=h7 j _ hcs;rwa [qu,qu] at this,h5 _ (List.getElem_mem hjl),h3.2 j c _ hj hcs⟩
    have:=RI.slice (Z:=zOf w) (w:=w) ((List.range len).map R) b off cap sz (fun i j=>(w.cell? ⟨b,off+i*sz+j,none⟩).getD undef) (by simpa using hcap)
      (fun i row hi=>by obtain ⟨h1,rfl⟩:=hget i row hi;obtain ⟨_,_,_,h2,_⟩:=hR i h1;rw [h2.1,hr])
      (fun i row j c hi hj=>by obtain ⟨v,h1,_⟩:=hcell i row j c hi hj;exact (zbN h1).2)
      (fun i row j c hi hj=>by obtain ⟨v,h1,h2,_⟩:=hcell i row j c hi hj;rw [h1];exact ⟨rfl,h2⟩)
      (fun i row j c hi hj=>by obtain ⟨v,h1,h2,h3⟩:=hcell i row j c hi hj;rw [h1];exact h3)
    simpa using this
theorem Zg:∀ (n fuel:Nat) (t:TypeId) (cs:List Value) (d:DataW H) (ps:List MemPlace) (tys:List CTy),Ji P n t=some tys→DataW.trod enc P w 0 (fun _=>true) true fuel t cs=some (d,ps) →
    (d.weights P t).all (· ≤ reachBytes)=true→Got w tys cs
  | 0,_,_,_,_,_,_,h,_,_=>by simp [Ji] at h
  | n+1,0,_,_,_,_,_,_,h,_=>by simp [DataW.trod] at h
  | n+1,fuel+1,t,cs,d,ps,tys,h,ht,hw=>by
    simp only [Ji] at h
    split at h
    · rename_i hu
      cases h
      simp only [DataW.trod,hu] at ht
      split at ht<;>first | (simp_all;done) | skip
      all_goals first
        | (rename_i b _;exact ⟨[.bool b],.one (.bool b),.one (.bool b),fun v hv=>by simp at hv;subst hv;rfl⟩)
        | skip
    · rename_i k hu
      cases h
      simp only [DataW.trod,hu] at ht
      split at ht<;>first | (simp_all;done) | skip
      all_goals
        rename_i k1 k' m e1
        cases e1
        split at ht
        case isFalse=>cases ht
        rename_i hk
        obtain ⟨rfl,hwf⟩:=hk
        exact ⟨[.int _ m],.one (.int _ m),.one (.int _ m (by simpa [Lit.wf] using hwf)),fun v hv=>by simp at hv;subst hv;rfl⟩
    · rename_i hu
      cases h
      simp only [DataW.trod,hu] at ht
      split at ht<;>first | (simp_all;done) | skip
      all_goals
        rename_i s _
        split at ht
        case isFalse=>cases ht
        cases ht
        refine ⟨[.str s],.one (.str s),.one (.str s ?_),fun v hv=>by simp at hv;subst hv;rfl⟩
        simpa [DataW.weights] using hw
    · rename_i e hu
      split at h
      case h_2=>cases h
      rename_i r hr
      split at h
      case isFalse=>cases h
      rename_i hlen
      cases h
      simp only [DataW.trod,hu] at ht
      split at ht<;>first | (simp_all;done) | skip
      · cases ht
        exact ⟨[.slice []],.one .nil,.one (.slice _ _ _ (by simp) (fun row h=>by simp at h) (fun row h=>by simp at h)),fun v hv=>by simp at hv;subst hv;rfl⟩
      · rename_i e' a len cap e1
        cases e1
        split at ht
        case isFalse=>cases ht
        rename_i hcond
        simp only [Option.bind_eq_some_iff,Option.map_eq_some_iff] at ht
        obtain ⟨elems,hel,rest,hrest,heq⟩:=ht
        simp only [Prod.mk.injEq] at heq
        obtain ⟨rfl,_⟩:=heq
        simp only [DataW.weights,hu,List.all_cons,List.all_append,Bool.and_eq_true,decide_eq_true_eq] at hw
        obtain ⟨hw1,hw2,hw3⟩:=hw
        obtain ⟨hl,hat⟩:=XQ hel
        simp only [List.length_range,List.length_map] at hl hw1
        refine zbO hlen.1 (by omega) hcond.2.1 (Nat.le_trans (Nat.mul_le_mul_right _ (by omega)) hw1) fun i hi => ?_
        obtain ⟨y,hy1,hy2⟩:=hat i i (by simp [hi])
        simp only [Option.bind_eq_some_iff] at hy2
        obtain ⟨cs',hc1,hc2⟩:=hy2
        exact ⟨cs',hc1,Zg n fuel e cs' y.1 y.2 r hr hc2 (QX hw2 _ (List.mem_map.2 ⟨y,List.mem_of_getElem? hy1,rfl⟩))⟩
    · rename_i fs hu
      split at h
      case h_2=>cases h
      rename_i r0 hr
      split at h
      case isFalse=>cases h
      rename_i hlen
      obtain rfl:r0=tys:=Option.some.inj h
      simp only [DataW.trod,hu] at ht
      split at ht
      case isFalse=>cases ht
      rename_i hcl
      simp only [Option.map_eq_some_iff] at ht
      obtain ⟨xs,hxs,heq⟩:=ht
      simp only [Prod.mk.injEq] at heq
      obtain ⟨rfl,_⟩:=heq
      simp only [DataW.weights,hu] at hw
      have:=JV (fun t cs d ps tys h1 h2 h3=>Zg n fuel t cs d ps tys h1 h2 h3) fs.toList 0 xs r0 hr hxs hw
      rw [hlen,←hcl,List.drop_zero,List.take_length] at this
      exact this
    · cases h
end
end
section
def Yd (P:Program) (t:TypeId):Option (Bool×List CTy):=match P.underlying t with
  | some (.struct _)=>match Ji P 12 t with
    | some r=>some (true,r)
    | none=>none
  | some (.array _ _)=>none
  | _=>match Ji P 12 t with
    | some r=>some (false,r)
    | none=>none
def zbP:Bool×List CTy→IV→Prop
  | (true,tys),x=>∃ row,x=.agg row∧HasCs tys row
  | (false,tys),x=>HasCs tys [x]
def QA:List (Bool×List CTy)→List IV→Prop
  | [],[]=>True
  | a::tas,x::xs=>zbP a x∧QA tas xs
  | _,_=>False
section
variable {H:Type} {enc:TypeId×Value→H} {P:Program} {w:World}
theorem zc8 {base:Nat} {t:TypeId} {v:Value} {d:DataW H} {ps:List MemPlace} {a:Bool×List CTy} (ha:Yd P t=some a) (hval:Value.okWide P w .any base t v)
    (h:DataW.Trod enc P w 0 (fun _=>true) true t v d ps) (hw:(d.weights P t).all (· ≤ reachBytes)=true):∃ x,RI (zOf w) w x v∧zbP a x:=by
  obtain ⟨fuel,hf⟩:=h
  unfold Yd at ha
  split at ha
  · rename_i fs hu
    split at ha
    case h_2=>cases ha
    rename_i r hr
    cases ha
    simp only [Value.okWide,hu] at hval
    obtain ⟨cs,rfl,_,_⟩:=hval
    obtain ⟨row,h1,h2,h3⟩:=Zg 12 fuel t _ d ps r hr hf hw
    refine ⟨.agg row,?_,row,rfl,h2⟩
    have:=RI.agg (Z:=zOf w) (w:=w) row cs.toList (by simpa [Value.cells] using h1.1) (fun v hv=>h3 v (by simpa [Value.cells] using hv)) (fun i c v hc hv=>h1.2 i c v hc (by simpa [Value.cells] using hv))
    simpa using this
  · cases ha
  · rename_i hns hna
    split at ha
    case h_2=>cases ha
    rename_i r hr
    cases ha
    have hone:v.oneCell'=true:=by
      have hc:Cell.okWide P w .any base t v:=by
        unfold Value.okWide at hval
        split at hval
        · rename_i fs hu;exact absurd hu (hns fs)
        · rename_i k e hu;exact absurd hu (hna k e)
        · exact hval
      cases v<;>first | rfl | (exfalso;revert hc;unfold Cell.okWide Cell.ok;cases P.underlying t with
        | none=>simp
        | some u=>cases u<;>simp)
    have hcs:v.cells.toList=[v]:=by cases v<;>first | rfl | simp [Value.oneCell'] at hone
    obtain ⟨row,h1,h2,h3⟩:=Zg 12 fuel t _ d ps r hr hf hw
    rw [hcs] at h1
    obtain ⟨x,rfl⟩:∃ x,row=[x]:=List.length_eq_one_iff.1 (by simpa using h1.1)
    exact ⟨x,h1.2 0 x v rfl rfl,h2⟩
theorem WB {base:Nat}:∀ {ts:List TypeId} {vs:List Value} {ds:List (DataW H)} {ps:List MemPlace} {tas:List (Bool×List CTy)},mapO (Yd P) ts=some tas →
    (∀ (j:Nat) t v,ts[j]?=some t→vs[j]?=some v→Value.okWide P w .any base t v)→DataW.TrodAll enc P w 0 (fun _=>true) true ts vs ds ps→(DataW.weightsEach P ts ds).all (· ≤ reachBytes)=true →
    ∃ ivs,RCs (zOf w) w ivs vs∧QA tas ivs
  | [],vs,ds,ps,tas,ha,hval,h,hw=>by
    obtain ⟨rfl,rfl,rfl⟩:=trodAll_nil h
    simp [mapO] at ha;subst ha
    exact ⟨[],⟨rfl,fun j c u hc=>by simp at hc⟩,trivial⟩
  | t::ts,vs,ds,ps,tas,ha,hval,h,hw=>by
    obtain ⟨v,vs1,d,ds1,a,b,rfl,rfl,rfl,h1,h2⟩:=trodAll_cons h
    simp only [mapO] at ha
    split at ha
    case h_2=>cases ha
    rename_i a1 ha1
    split at ha
    case h_2=>cases ha
    rename_i as1 has1
    cases ha
    simp only [DataW.weightsEach,List.all_append,Bool.and_eq_true] at hw
    obtain ⟨x,g1,g2⟩:=zc8 ha1 (hval 0 t v rfl rfl) h1 hw.1
    obtain ⟨xs,g3,g4⟩:=WB has1 (fun j t v hj hv=>hval (j+1) t v (by simpa using hj) (by simpa using hv)) h2 hw.2
    exact ⟨x::xs,RCs.app (.one g1) g3,g2,g4⟩
theorem YU {ts:List TypeId}:∀ {vs:List Value} {ds:List (DataW H)} {ps:List MemPlace},DataW.TrodAll enc P w 0 (fun _=>true) true ts vs ds ps→ds.length=ts.length:=by
  induction ts with
  | nil=>intro vs ds ps h;obtain ⟨rfl,rfl,rfl⟩:=trodAll_nil h;rfl
  | cons t ts ih=>
    intro vs ds ps h
    obtain ⟨v,vs1,d,ds1,a,b,rfl,rfl,rfl,h1,h2⟩:=trodAll_cons h
    simp [ih h2]
theorem WC {W':World} (hl:laidOutB P=true) (hb:Below w.heap.size w W'):∀ {ts:List TypeId} {vs:List Value} {ds:List (DataW H)} {ps:List MemPlace},(∀ t∈ts,P.readableRec t=true∧t < P.types.size) →
    DataW.TrodAll enc P w 0 (fun _=>true) true ts vs ds ps→∀ sp:Nat→Bool,(∀ p∈ps,p.block < w.heap.size∧sp p.block=true)→DataW.TrodAll enc P W' 0 sp true ts vs ds ps
  | [],vs,ds,ps,hr,h,sp,hlt=>by
    obtain ⟨rfl,rfl,rfl⟩:=trodAll_nil h;rfl
  | t::ts,vs,ds,ps,hr,h,sp,hlt=>by
    obtain ⟨v,vs1,d,ds1,a,b,rfl,rfl,rfl,h1,h2⟩:=trodAll_cons h
    have ht:=hr t (List.mem_cons_self ..)
    exact ⟨a,b,WideElems.Trod_stays hl ht.1 ht.2 h1 (fun x hx=>hb.same (hlt x (List.mem_append_left _ hx)).1) (fun x hx=>(hlt x (List.mem_append_left _ hx)).2),
      WC hl hb (fun t ht=>hr t (List.mem_cons_of_mem _ ht)) h2 sp (fun p hp=>hlt p (List.mem_append_right _ hp)),rfl⟩
end
theorem zat {H:Type} {enc:TypeId×Value→H} {P:Program} {f:Func} {s:ChangeSpec} {apart fresh handsOn again:Bool} {W W':World} {args:Array Value} {v:Value} {ds:List (DataW H)} {before:List MemPlace}
    (hW:DataW.Whole enc P f.params.toList s.vars apart W args.toList ds [] before)
    (hres:∀ (b:Nat) (sp:Nat→Bool) (hd:Bool),DataW.TrodAll enc P W' b sp hd f.resultTypes.toList (v.resultList f.resultTypes.size) (s.fn H (ds++[])).results [])
    (hargs:∀ sp:Nat→Bool,(∀ p∈before,sp p.block=true)→DataW.TrodAll enc P W' 0 sp true f.params.toList args.toList (s.fn H (ds++[])).args before)
    (hvars:∀ sp:Nat→Bool,DataW.TrodVars enc P W' sp s.vars (s.fn H (ds++[])).vars [])
    (hk:Below W.heap.size W W')
    (hok:∀ (j:Nat) (t:TypeId) (r:Value),f.resultTypes[j]?=some t→(v.resultList f.resultTypes.size)[j]?=some r→Value.okWide P W' .any 0 t r) :
    s.post enc P f apart fresh handsOn again W args v W':=by
  have hlt:∀ p∈before,p.block < W.heap.size:=fun p hp=>hW.lt p hp
  have hold:∀ p∈before,(fun b=>decide (b < W.heap.size)) p.block=true:=fun p hp=>by simpa using hlt p hp
  refine ⟨ds,[],before,[],before,[],hW,hres _ _ _,hargs _ hold,hvars _,hk.frame _,fun _ => ?_⟩
  obtain ⟨_,_,_,_,_,hz,hn⟩:=hW
  refine ⟨hok,_,_,([]++before)++[],⟨[]++before,[],trodAll_append (hargs _ (fun _ _=>rfl)) (hres _ _ _),hvars _,rfl,?_,?_⟩,?_⟩
  · intro b off hp
    have hp':MemPlace.cell b off∈before:=by simpa using hp
    rw [hk.frozen (p:=⟨b,off,none⟩) (hlt _ hp')]
    exact hz b off hp'
  · intro ha
    simpa using hn ha
  · intro p hp _
    simpa using hp
theorem Ye {H:Type} {enc:TypeId×Value→H} {Cx:Ctx} {f:FuncId} {fn:Func} {s:ChangeSpec} {tb:TypeId} {tas:List (Bool×List CTy)} {apart fresh handsOn again:Bool} (n:Nat) (hn:Cx.fnum n=f)
    (has:mapO (Yd Cx.P) fn.params.toList=some tas) (hres:fn.resultTypes = #[tb]) (htb:Cx.P.underlying tb=some .bool) (hvars:s.vars=[])
    (hsp:∀ ds:List (DataW H),ds.length=fn.params.toList.length→s.fn H (ds++[])={results:=[.lit (.bool true)],args:=ds})
    (hlaid:laidOutB Cx.P=true) (hread:(fn.params.toList.all fun t=>Cx.P.readableRec t&&decide (t < Cx.P.types.size))=true)
    (hlaw:∀ ivs,QA tas ivs→APure Cx n ivs (.bool true))
    (W:World) (hft:Cx.tabs.p W∧Cx.tabs.n≤W.heap.size)
    (base:Nat) (args:Array Value) (ds gs:List (DataW H)) (before:List MemPlace)
    (hval:∀ (j:Nat) t v,fn.params[j]?=some t→args[j]?=some v→Value.okWide Cx.P W .any base t v)
    (hW:DataW.Whole enc Cx.P fn.params.toList s.vars apart W args.toList ds gs before)
    (hwt:(DataW.weightsEach Cx.P (fn.params.toList++s.plain.varTypes Cx.P) (ds++gs)).all (· ≤ reachBytes)=true) :
    Calls Cx.P f args W fun e W'=>∃ v,e=.returned v∧s.post enc Cx.P fn apart fresh handsOn again W args v W':=by
  have hW':=hW
  obtain ⟨p,q,hA,hV,rfl,hfz,hnd⟩:=hW
  rw [hvars] at hV
  obtain ⟨rfl,rfl⟩:=trodVars_none hV
  have hvt:s.plain.varTypes Cx.P=[]:=by
    have:s.plain.vars=[]:=hvars
    simp [DataSpec.varTypes,this]
  rw [hvt,List.append_nil,List.append_nil] at hwt
  obtain ⟨ivs,h1,h2⟩:=WB has (fun j t v hj hv=>hval j t v (by simpa using hj) (by simpa using hv)) hA hwt
  subst hn
  have hcall:=(hlaw ivs h2).2 (zOf W) W args.toList (fun b hb=>zfA hb) hft h1
  simp only [Array.toArray_toList] at hcall
  refine hcall.mono fun e W' ⟨v,Z',he,hr,_,_,hbel⟩ => ?_
  subst he
  cases hr
  have hlt:∀ x∈p++[],x.block < W.heap.size:=fun x hx=>by simpa using hW'.lt x hx
  have hspec:=hsp ds (YU hA)
  simp only [List.append_nil] at hW' hlt
  refine ⟨_,rfl,zat hW' ?_ ?_ ?_ hbel ?_⟩
  · intro b sp hd
    rw [hspec,hres]
    exact trodAll_cons_mk (shut_bool htb _) trodAll_mk0
  · intro sp hsp'
    rw [hspec]
    exact WC hlaid hbel (fun t ht=>by have:=List.all_eq_true.1 hread t ht;simpa using this) hA sp (fun x hx=>⟨hlt x hx,hsp' x hx⟩)
  · intro sp
    rw [hspec,hvars];rfl
  · exact ok_one hres rfl (okWide_bool_mk htb _)
end
end Go.Proofs.YtmoedieenlaegaaGreatDoor
namespace Go.Proofs.YtmoedieenlaegaaGreatDoor
open Go.RowKit
set_option linter.unusedVariables false
def InK (k:IntKind) (n:Int):Prop:=k.min≤n∧n≤k.max
def LOk {α:Type} (by_:Nat) (Ok:α→Prop) (l:List α):Prop:=l.length*by_≤reachBytes∧∀ x∈l,Ok x
theorem zf {t:CTy} {ts:List CTy} {row:List IV} (h:HasCs (t::ts) row):∃ c r,row=c::r∧HasC t c∧HasCs ts r:=by
  obtain ⟨hl,hc⟩:=h
  cases row with
  | nil=>simp at hl
  | cons c r=>exact ⟨c,r,rfl,hc 0 t c rfl rfl,by simpa using hl,fun i u d hu hd=>hc (i+1) u d (by simpa using hu) (by simpa using hd)⟩
theorem qf {row:List IV} (h:HasCs [] row):row=[]:=List.eq_nil_of_length_eq_zero h.1
theorem zo {k:IntKind} {x:IV} (h:HasC (.int k) x):∃ n,x=.int k n∧InK k n:=by cases h;exact ⟨_,rfl,by assumption⟩
theorem jn {x:IV} (h:HasC .bool x):∃ b,x=.bool b:=by cases h;exact ⟨_,rfl⟩
theorem zc9 {x:IV} (h:HasC .str x):∃ s,x=.str s∧s.size≤reachBytes:=by cases h;exact ⟨_,rfl,by assumption⟩
theorem WD {α:Type} {f:α→List IV} {Ok:α→Prop} {tys:List CTy} (ho:∀ {row:List IV},HasCs tys row→∃ x,row=f x∧Ok x) :
    ∀ rows:List (List IV),(∀ row∈rows,HasCs tys row)→∃ l:List α,rows=l.map f∧∀ x∈l,Ok x
  | [],_=>⟨[],rfl,fun x hx=>by cases hx⟩
  | row::rows,h=>by
    obtain ⟨x,rfl,hx⟩:=ho (h row (List.mem_cons_self ..))
    obtain ⟨l,rfl,hl⟩:=WD ho rows fun r hr=>h r (List.mem_cons_of_mem _ hr)
    exact ⟨x::l,rfl,fun y hy=>by
      rcases List.mem_cons.1 hy with rfl | hy
      · exact hx
      · exact hl y hy⟩
theorem zC {α:Type} {f:α→List IV} {Ok:α→Prop} {tys:List CTy} {by_:Nat} {x:IV} (ho:∀ {row:List IV},HasCs tys row→∃ x,row=f x∧Ok x) (h:HasC (.slice by_ tys) x) :
    ∃ l:List α,x=.slice (l.map f)∧LOk by_ Ok l:=by
  cases h with
  | slice _ _ rows hl hr hc=>
    obtain ⟨l,rfl,hk⟩:=WD ho rows fun row h=>⟨hr row h,hc row h⟩
    exact ⟨l,rfl,by simpa using hl,hk⟩
theorem wt {row:List IV} (h:HasCs [.int .i64] row):∃ x:Int,row=zb x∧InK .i64 x:=by
  obtain ⟨c,_,rfl,h0,h⟩:=zf h
  obtain rfl:=qf h
  obtain ⟨n,rfl,k⟩:=zo h0
  exact ⟨n,rfl,k⟩
theorem zbQ (k:IntKind) {row:List IV} (h:HasCs [.int k] row):∃ x:Int,row=vC k x∧InK k x:=by
  obtain ⟨c,_,rfl,h0,h⟩:=zf h
  obtain rfl:=qf h
  obtain ⟨n,rfl,k⟩:=zo h0
  exact ⟨n,rfl,k⟩
theorem vJ {row:List IV} (h:HasCs [.bool] row):∃ x:Bool,row=zg x∧True:=by
  obtain ⟨c,_,rfl,h0,h⟩:=zf h
  obtain rfl:=qf h
  obtain ⟨n,rfl⟩:=jn h0
  exact ⟨n,rfl,trivial⟩
theorem YV {α:Type} {f:α→List IV} {Ok:α→Prop} {tys:List CTy} {by_:Nat} (ho:∀ {row:List IV},HasCs tys row→∃ x,row=f x∧Ok x) {row:List IV} (h:HasCs [.slice by_ tys] row) :
    ∃ x:List α,row=qy f x∧LOk by_ Ok x:=by
  obtain ⟨c,_,rfl,h0,h⟩:=zf h
  obtain rfl:=qf h
  obtain ⟨l,rfl,k⟩:=zC ho h0
  exact ⟨l,rfl,k⟩
def Ratio.tys:List CTy:=[.int .i64,.int .i64]
structure Ratio.Ok (x:Ratio):Prop where
  num:InK .i64 x.num
  den:InK .i64 x.den
theorem Ratio.opn {row:List IV} (h:HasCs Ratio.tys row):∃ x:Ratio,row=Ratio.row x∧Ratio.Ok x:=by
  obtain ⟨c0,_,rfl,h0,h⟩:=zf h
  obtain ⟨c1,_,rfl,h1,h⟩:=zf h
  obtain rfl:=qf h
  obtain ⟨v0,rfl,k0⟩:=zo h0
  obtain ⟨v1,rfl,k1⟩:=zo h1
  exact ⟨⟨v0,v1⟩,rfl,⟨k0,k1⟩⟩
def UnitT.tys:List CTy:=[.str,.int .i64,.int .i64,.int .i64,.int .i64]
structure UnitT.Ok (x:UnitT):Prop where
  name:x.name.size≤reachBytes
  kind:InK .i64 x.kind
  base:InK .i64 x.base
  factor:Ratio.Ok x.factor
theorem UnitT.opn {row:List IV} (h:HasCs UnitT.tys row):∃ x:UnitT,row=UnitT.row x∧UnitT.Ok x:=by
  obtain ⟨c0,_,rfl,h0,h⟩:=zf h
  obtain ⟨c1,_,rfl,h1,h⟩:=zf h
  obtain ⟨c2,_,rfl,h2,h⟩:=zf h
  obtain ⟨c3,_,rfl,h3,h⟩:=zf h
  obtain ⟨c4,_,rfl,h4,h⟩:=zf h
  obtain rfl:=qf h
  obtain ⟨v0,rfl,k0⟩:=zc9 h0
  obtain ⟨v1,rfl,k1⟩:=zo h1
  obtain ⟨v2,rfl,k2⟩:=zo h2
  obtain ⟨v3,rfl,k3⟩:=zo h3
  obtain ⟨v4,rfl,k4⟩:=zo h4
  exact ⟨⟨v0,v1,v2,⟨v3,v4⟩⟩,rfl,⟨k0,k1,k2,⟨k3,k4⟩⟩⟩
def ActT.tys:List CTy:=[.int .i64,.int .i64,.int .i64,.int .i64,.int .i64,.int .i64,.int .i64]
structure ActT.Ok (x:ActT):Prop where
  kind:InK .i64 x.kind
  role:InK .i64 x.role
  give:InK .i64 x.give
  to:InK .i64 x.to
  unit:InK .i64 x.unit
  lot:Ratio.Ok x.lot
theorem ActT.opn {row:List IV} (h:HasCs ActT.tys row):∃ x:ActT,row=ActT.row x∧ActT.Ok x:=by
  obtain ⟨c0,_,rfl,h0,h⟩:=zf h
  obtain ⟨c1,_,rfl,h1,h⟩:=zf h
  obtain ⟨c2,_,rfl,h2,h⟩:=zf h
  obtain ⟨c3,_,rfl,h3,h⟩:=zf h
  obtain ⟨c4,_,rfl,h4,h⟩:=zf h
  obtain ⟨c5,_,rfl,h5,h⟩:=zf h
  obtain ⟨c6,_,rfl,h6,h⟩:=zf h
  obtain rfl:=qf h
  obtain ⟨v0,rfl,k0⟩:=zo h0
  obtain ⟨v1,rfl,k1⟩:=zo h1
  obtain ⟨v2,rfl,k2⟩:=zo h2
  obtain ⟨v3,rfl,k3⟩:=zo h3
  obtain ⟨v4,rfl,k4⟩:=zo h4
  obtain ⟨v5,rfl,k5⟩:=zo h5
  obtain ⟨v6,rfl,k6⟩:=zo h6
  exact ⟨⟨v0,v1,v2,v3,v4,⟨v5,v6⟩⟩,rfl,⟨k0,k1,k2,k3,k4,⟨k5,k6⟩⟩⟩
def CondT.tys:List CTy:=[.int .i64,.int .i64]
structure CondT.Ok (x:CondT):Prop where
  clause:InK .i64 x.clause
  is:InK .i64 x.is
theorem CondT.opn {row:List IV} (h:HasCs CondT.tys row):∃ x:CondT,row=CondT.row x∧CondT.Ok x:=by
  obtain ⟨c0,_,rfl,h0,h⟩:=zf h
  obtain ⟨c1,_,rfl,h1,h⟩:=zf h
  obtain rfl:=qf h
  obtain ⟨v0,rfl,k0⟩:=zo h0
  obtain ⟨v1,rfl,k1⟩:=zo h1
  exact ⟨⟨v0,v1⟩,rfl,⟨k0,k1⟩⟩
def ClauseT.tys:List CTy:=[.int .i64,.int .i64,.int .i64,.int .i64,.slice 16 CondT.tys,.int .i64,.int .i64,.bool,.bool,.int .i64,.int .i64,.int .i64,.int .i64,.int .i64,.int .i64,.bool]
structure ClauseT.Ok (x:ClauseT):Prop where
  kind:InK .i64 x.kind
  role:InK .i64 x.role
  act:InK .i64 x.act
  need:InK .i64 x.need
  start:LOk 16 CondT.Ok x.start
  after:InK .i64 x.after
  grace:InK .i64 x.grace
  pause:InK .i64 x.pause
  resume:InK .i64 x.resume
  value:Ratio.Ok x.value
  unit:InK .i64 x.unit
  to:InK .i64 x.to
theorem ClauseT.opn {row:List IV} (h:HasCs ClauseT.tys row):∃ x:ClauseT,row=ClauseT.row x∧ClauseT.Ok x:=by
  obtain ⟨c0,_,rfl,h0,h⟩:=zf h
  obtain ⟨c1,_,rfl,h1,h⟩:=zf h
  obtain ⟨c2,_,rfl,h2,h⟩:=zf h
  obtain ⟨c3,_,rfl,h3,h⟩:=zf h
  obtain ⟨c4,_,rfl,h4,h⟩:=zf h
  obtain ⟨c5,_,rfl,h5,h⟩:=zf h
  obtain ⟨c6,_,rfl,h6,h⟩:=zf h
  obtain ⟨c7,_,rfl,h7,h⟩:=zf h
  obtain ⟨c8,_,rfl,h8,h⟩:=zf h
  obtain ⟨c9,_,rfl,h9,h⟩:=zf h
  obtain ⟨c10,_,rfl,h10,h⟩:=zf h
  obtain ⟨c11,_,rfl,h11,h⟩:=zf h
  obtain ⟨c12,_,rfl,h12,h⟩:=zf h
  obtain ⟨c13,_,rfl,h13,h⟩:=zf h
  obtain ⟨c14,_,rfl,h14,h⟩:=zf h
  obtain ⟨c15,_,rfl,h15,h⟩:=zf h
  obtain rfl:=qf h
  obtain ⟨v0,rfl,k0⟩:=zo h0
  obtain ⟨v1,rfl,k1⟩:=zo h1
  obtain ⟨v2,rfl,k2⟩:=zo h2
  obtain ⟨v3,rfl,k3⟩:=zo h3
  obtain ⟨v4,rfl,k4⟩:=zC @CondT.opn h4
  obtain ⟨v5,rfl,k5⟩:=zo h5
  obtain ⟨v6,rfl,k6⟩:=zo h6
  obtain ⟨v7,rfl⟩:=jn h7
  obtain ⟨v8,rfl⟩:=jn h8
  obtain ⟨v9,rfl,k9⟩:=zo h9
  obtain ⟨v10,rfl,k10⟩:=zo h10
  obtain ⟨v11,rfl,k11⟩:=zo h11
  obtain ⟨v12,rfl,k12⟩:=zo h12
  obtain ⟨v13,rfl,k13⟩:=zo h13
  obtain ⟨v14,rfl,k14⟩:=zo h14
  obtain ⟨v15,rfl⟩:=jn h15
  exact ⟨⟨v0,v1,v2,v3,v4,v5,v6,v7,v8,v9,v10,⟨v11,v12⟩,v13,v14,v15⟩,rfl,⟨k0,k1,k2,k3,k4,k5,k6,k9,k10,⟨k11,k12⟩,k13,k14⟩⟩
def ContractT.tys:List CTy:=[.int .i64,.slice 8 [.int .i64],.slice 48 UnitT.tys,.slice 56 ActT.tys,.slice 136 ClauseT.tys,.int .i64,.slice 8 [.int .i64]]
structure ContractT.Ok (x:ContractT):Prop where
  parties:InK .i64 x.parties
  holders:LOk 8 (fun x:Int=>InK .i64 x) x.holders
  units:LOk 48 UnitT.Ok x.units
  acts:LOk 56 ActT.Ok x.acts
  clauses:LOk 136 ClauseT.Ok x.clauses
  days:InK .i64 x.days
  off:LOk 8 (fun x:Int=>InK .i64 x) x.off
theorem ContractT.opn {row:List IV} (h:HasCs ContractT.tys row):∃ x:ContractT,row=ContractT.row x∧ContractT.Ok x:=by
  obtain ⟨c0,_,rfl,h0,h⟩:=zf h
  obtain ⟨c1,_,rfl,h1,h⟩:=zf h
  obtain ⟨c2,_,rfl,h2,h⟩:=zf h
  obtain ⟨c3,_,rfl,h3,h⟩:=zf h
  obtain ⟨c4,_,rfl,h4,h⟩:=zf h
  obtain ⟨c5,_,rfl,h5,h⟩:=zf h
  obtain ⟨c6,_,rfl,h6,h⟩:=zf h
  obtain rfl:=qf h
  obtain ⟨v0,rfl,k0⟩:=zo h0
  obtain ⟨v1,rfl,k1⟩:=zC wt h1
  obtain ⟨v2,rfl,k2⟩:=zC @UnitT.opn h2
  obtain ⟨v3,rfl,k3⟩:=zC @ActT.opn h3
  obtain ⟨v4,rfl,k4⟩:=zC @ClauseT.opn h4
  obtain ⟨v5,rfl,k5⟩:=zo h5
  obtain ⟨v6,rfl,k6⟩:=zC wt h6
  exact ⟨⟨v0,v1,v2,v3,v4,v5,v6⟩,rfl,⟨k0,k1,k2,k3,k4,k5,k6⟩⟩
def MarkT.tys:List CTy:=[.int .i64,.int .i64,.int .i64,.int .i64,.bool]
structure MarkT.Ok (x:MarkT):Prop where
  status:InK .i64 x.status
  left:InK .i64 x.left
  got:InK .i64 x.got
  bearer:InK .i64 x.bearer
theorem MarkT.opn {row:List IV} (h:HasCs MarkT.tys row):∃ x:MarkT,row=MarkT.row x∧MarkT.Ok x:=by
  obtain ⟨c0,_,rfl,h0,h⟩:=zf h
  obtain ⟨c1,_,rfl,h1,h⟩:=zf h
  obtain ⟨c2,_,rfl,h2,h⟩:=zf h
  obtain ⟨c3,_,rfl,h3,h⟩:=zf h
  obtain ⟨c4,_,rfl,h4,h⟩:=zf h
  obtain rfl:=qf h
  obtain ⟨v0,rfl,k0⟩:=zo h0
  obtain ⟨v1,rfl,k1⟩:=zo h1
  obtain ⟨v2,rfl,k2⟩:=zo h2
  obtain ⟨v3,rfl,k3⟩:=zo h3
  obtain ⟨v4,rfl⟩:=jn h4
  exact ⟨⟨v0,v1,v2,v3,v4⟩,rfl,⟨k0,k1,k2,k3⟩⟩
def StateT.tys:List CTy:=[.int .i64,.slice 8 [.int .i64],.slice 1 [.bool],.slice 40 MarkT.tys]
structure StateT.Ok (x:StateT):Prop where
  day:InK .i64 x.day
  holders:LOk 8 (fun x:Int=>InK .i64 x) x.holders
  used:LOk 1 (fun x:Bool=>True) x.used
  marks:LOk 40 MarkT.Ok x.marks
theorem StateT.opn {row:List IV} (h:HasCs StateT.tys row):∃ x:StateT,row=StateT.row x∧StateT.Ok x:=by
  obtain ⟨c0,_,rfl,h0,h⟩:=zf h
  obtain ⟨c1,_,rfl,h1,h⟩:=zf h
  obtain ⟨c2,_,rfl,h2,h⟩:=zf h
  obtain ⟨c3,_,rfl,h3,h⟩:=zf h
  obtain rfl:=qf h
  obtain ⟨v0,rfl,k0⟩:=zo h0
  obtain ⟨v1,rfl,k1⟩:=zC wt h1
  obtain ⟨v2,rfl,k2⟩:=zC vJ h2
  obtain ⟨v3,rfl,k3⟩:=zC @MarkT.opn h3
  exact ⟨⟨v0,v1,v2,v3⟩,rfl,⟨k0,k1,k2,k3⟩⟩
def PosT.tys:List CTy:=[.int .i64,.slice 8 [.int .i64],.slice 1 [.bool],.slice 40 MarkT.tys,.bool]
structure PosT.Ok (x:PosT):Prop where
  state:StateT.Ok x.state
theorem PosT.opn {row:List IV} (h:HasCs PosT.tys row):∃ x:PosT,row=PosT.row x∧PosT.Ok x:=by
  obtain ⟨c0,_,rfl,h0,h⟩:=zf h
  obtain ⟨c1,_,rfl,h1,h⟩:=zf h
  obtain ⟨c2,_,rfl,h2,h⟩:=zf h
  obtain ⟨c3,_,rfl,h3,h⟩:=zf h
  obtain ⟨c4,_,rfl,h4,h⟩:=zf h
  obtain rfl:=qf h
  obtain ⟨v0,rfl,k0⟩:=zo h0
  obtain ⟨v1,rfl,k1⟩:=zC wt h1
  obtain ⟨v2,rfl,k2⟩:=zC vJ h2
  obtain ⟨v3,rfl,k3⟩:=zC @MarkT.opn h3
  obtain ⟨v4,rfl⟩:=jn h4
  exact ⟨⟨⟨v0,v1,v2,v3⟩,v4⟩,rfl,⟨⟨k0,k1,k2,k3⟩⟩⟩
def MoveT.tys:List CTy:=[.int .i64,.int .i64]
structure MoveT.Ok (x:MoveT):Prop where
  step:InK .i64 x.step
  to:InK .i64 x.to
theorem MoveT.opn {row:List IV} (h:HasCs MoveT.tys row):∃ x:MoveT,row=MoveT.row x∧MoveT.Ok x:=by
  obtain ⟨c0,_,rfl,h0,h⟩:=zf h
  obtain ⟨c1,_,rfl,h1,h⟩:=zf h
  obtain rfl:=qf h
  obtain ⟨v0,rfl,k0⟩:=zo h0
  obtain ⟨v1,rfl,k1⟩:=zo h1
  exact ⟨⟨v0,v1⟩,rfl,⟨k0,k1⟩⟩
def ArenaT.tys:List CTy:=[.int .i64,.slice 88 PosT.tys,.slice 24 [.slice 16 MoveT.tys]]
structure ArenaT.Ok (x:ArenaT):Prop where
  party:InK .i64 x.party
  positions:LOk 88 PosT.Ok x.positions
  moves:LOk 24 (fun x:List MoveT=>LOk 16 MoveT.Ok x) x.moves
theorem ArenaT.opn {row:List IV} (h:HasCs ArenaT.tys row):∃ x:ArenaT,row=ArenaT.row x∧ArenaT.Ok x:=by
  obtain ⟨c0,_,rfl,h0,h⟩:=zf h
  obtain ⟨c1,_,rfl,h1,h⟩:=zf h
  obtain ⟨c2,_,rfl,h2,h⟩:=zf h
  obtain rfl:=qf h
  obtain ⟨v0,rfl,k0⟩:=zo h0
  obtain ⟨v1,rfl,k1⟩:=zC @PosT.opn h1
  obtain ⟨v2,rfl,k2⟩:=zC (YV (by_:=16) @MoveT.opn) h2
  exact ⟨⟨v0,v1,v2⟩,rfl,⟨k0,k1,k2⟩⟩
def AdviceT.tys:List CTy:=[.bool,.int .i64,.int .i64]
structure AdviceT.Ok (x:AdviceT):Prop where
  move:InK .i64 x.move
  wait:InK .i64 x.wait
theorem AdviceT.opn {row:List IV} (h:HasCs AdviceT.tys row):∃ x:AdviceT,row=AdviceT.row x∧AdviceT.Ok x:=by
  obtain ⟨c0,_,rfl,h0,h⟩:=zf h
  obtain ⟨c1,_,rfl,h1,h⟩:=zf h
  obtain ⟨c2,_,rfl,h2,h⟩:=zf h
  obtain rfl:=qf h
  obtain ⟨v0,rfl⟩:=jn h0
  obtain ⟨v1,rfl,k1⟩:=zo h1
  obtain ⟨v2,rfl,k2⟩:=zo h2
  exact ⟨⟨v0,v1,v2⟩,rfl,⟨k1,k2⟩⟩
def ShieldRowT.tys:List CTy:=[.int .i64,.slice 8 [.int .i64],.slice 1 [.bool],.slice 40 MarkT.tys,.bool,.int .i64]
structure ShieldRowT.Ok (x:ShieldRowT):Prop where
  position:PosT.Ok x.position
  move:InK .i64 x.move
theorem ShieldRowT.opn {row:List IV} (h:HasCs ShieldRowT.tys row):∃ x:ShieldRowT,row=ShieldRowT.row x∧ShieldRowT.Ok x:=by
  obtain ⟨c0,_,rfl,h0,h⟩:=zf h
  obtain ⟨c1,_,rfl,h1,h⟩:=zf h
  obtain ⟨c2,_,rfl,h2,h⟩:=zf h
  obtain ⟨c3,_,rfl,h3,h⟩:=zf h
  obtain ⟨c4,_,rfl,h4,h⟩:=zf h
  obtain ⟨c5,_,rfl,h5,h⟩:=zf h
  obtain rfl:=qf h
  obtain ⟨v0,rfl,k0⟩:=zo h0
  obtain ⟨v1,rfl,k1⟩:=zC wt h1
  obtain ⟨v2,rfl,k2⟩:=zC vJ h2
  obtain ⟨v3,rfl,k3⟩:=zC @MarkT.opn h3
  obtain ⟨v4,rfl⟩:=jn h4
  obtain ⟨v5,rfl,k5⟩:=zo h5
  exact ⟨⟨⟨⟨v0,v1,v2,v3⟩,v4⟩,v5⟩,rfl,⟨⟨⟨k0,k1,k2,k3⟩⟩,k5⟩⟩
def ShieldT.tys:List CTy:=[.int .i64,.slice 96 ShieldRowT.tys]
structure ShieldT.Ok (x:ShieldT):Prop where
  party:InK .i64 x.party
  rows:LOk 96 ShieldRowT.Ok x.rows
theorem ShieldT.opn {row:List IV} (h:HasCs ShieldT.tys row):∃ x:ShieldT,row=ShieldT.row x∧ShieldT.Ok x:=by
  obtain ⟨c0,_,rfl,h0,h⟩:=zf h
  obtain ⟨c1,_,rfl,h1,h⟩:=zf h
  obtain rfl:=qf h
  obtain ⟨v0,rfl,k0⟩:=zo h0
  obtain ⟨v1,rfl,k1⟩:=zC @ShieldRowT.opn h1
  exact ⟨⟨v0,v1⟩,rfl,⟨k0,k1⟩⟩
def DoomRowT.tys:List CTy:=[.int .i64,.slice 8 [.int .i64],.slice 1 [.bool],.slice 40 MarkT.tys,.bool,.int .i64,.int .i64]
structure DoomRowT.Ok (x:DoomRowT):Prop where
  position:PosT.Ok x.position
  rank:InK .i64 x.rank
  move:InK .i64 x.move
theorem DoomRowT.opn {row:List IV} (h:HasCs DoomRowT.tys row):∃ x:DoomRowT,row=DoomRowT.row x∧DoomRowT.Ok x:=by
  obtain ⟨c0,_,rfl,h0,h⟩:=zf h
  obtain ⟨c1,_,rfl,h1,h⟩:=zf h
  obtain ⟨c2,_,rfl,h2,h⟩:=zf h
  obtain ⟨c3,_,rfl,h3,h⟩:=zf h
  obtain ⟨c4,_,rfl,h4,h⟩:=zf h
  obtain ⟨c5,_,rfl,h5,h⟩:=zf h
  obtain ⟨c6,_,rfl,h6,h⟩:=zf h
  obtain rfl:=qf h
  obtain ⟨v0,rfl,k0⟩:=zo h0
  obtain ⟨v1,rfl,k1⟩:=zC wt h1
  obtain ⟨v2,rfl,k2⟩:=zC vJ h2
  obtain ⟨v3,rfl,k3⟩:=zC @MarkT.opn h3
  obtain ⟨v4,rfl⟩:=jn h4
  obtain ⟨v5,rfl,k5⟩:=zo h5
  obtain ⟨v6,rfl,k6⟩:=zo h6
  exact ⟨⟨⟨⟨v0,v1,v2,v3⟩,v4⟩,v5,v6⟩,rfl,⟨⟨⟨k0,k1,k2,k3⟩⟩,k5,k6⟩⟩
def DoomT.tys:List CTy:=[.int .i64,.slice 104 DoomRowT.tys]
structure DoomT.Ok (x:DoomT):Prop where
  party:InK .i64 x.party
  rows:LOk 104 DoomRowT.Ok x.rows
theorem DoomT.opn {row:List IV} (h:HasCs DoomT.tys row):∃ x:DoomT,row=DoomT.row x∧DoomT.Ok x:=by
  obtain ⟨c0,_,rfl,h0,h⟩:=zf h
  obtain ⟨c1,_,rfl,h1,h⟩:=zf h
  obtain rfl:=qf h
  obtain ⟨v0,rfl,k0⟩:=zo h0
  obtain ⟨v1,rfl,k1⟩:=zC @DoomRowT.opn h1
  exact ⟨⟨v0,v1⟩,rfl,⟨k0,k1⟩⟩
def ShieldW.tys:List CTy:=[.int .i64,.slice 96 ShieldRowT.tys]
structure ShieldW.Ok (x:ShieldW):Prop where
  s:ShieldT.Ok x.s
theorem ShieldW.opn {row:List IV} (h:HasCs ShieldW.tys row):∃ x:ShieldW,row=ShieldW.row x∧ShieldW.Ok x:=by
  obtain ⟨c0,_,rfl,h0,h⟩:=zf h
  obtain ⟨c1,_,rfl,h1,h⟩:=zf h
  obtain rfl:=qf h
  obtain ⟨v0,rfl,k0⟩:=zo h0
  obtain ⟨v1,rfl,k1⟩:=zC @ShieldRowT.opn h1
  exact ⟨⟨⟨v0,v1⟩⟩,rfl,⟨⟨k0,k1⟩⟩⟩
def DoomW.tys:List CTy:=[.int .i64,.slice 104 DoomRowT.tys]
structure DoomW.Ok (x:DoomW):Prop where
  d:DoomT.Ok x.d
theorem DoomW.opn {row:List IV} (h:HasCs DoomW.tys row):∃ x:DoomW,row=DoomW.row x∧DoomW.Ok x:=by
  obtain ⟨c0,_,rfl,h0,h⟩:=zf h
  obtain ⟨c1,_,rfl,h1,h⟩:=zf h
  obtain rfl:=qf h
  obtain ⟨v0,rfl,k0⟩:=zo h0
  obtain ⟨v1,rfl,k1⟩:=zC @DoomRowT.opn h1
  exact ⟨⟨⟨v0,v1⟩⟩,rfl,⟨⟨k0,k1⟩⟩⟩
end Go.Proofs.YtmoedieenlaegaaGreatDoor
namespace Go.Proofs.YtmoedieenlaegaaGreatDoor
set_option linter.unusedSimpArgs false
set_option linter.unusedVariables false
def kc {σ ρ:Type} (A:σ→Prop) (Q:ρ→Prop):σ ⊕ ρ→Prop
  | .inl s=>A s
  | .inr r=>Q r
theorem ZZ {σ ρ:Type} {f:Nat→σ→Option (σ ⊕ ρ)} {Inv:Nat→σ→Prop} {Q:ρ→Prop} (n:Nat)
    (step:∀ (i:Nat) (s:σ),i < n→Inv i s→∃ o,f i s=some o∧kc (Inv (i+1)) Q o) :
    ∀ (k i:Nat) (s:σ),i+k=n→Inv i s→∃ o,forFrom f i k s=some o∧kc (Inv n) Q o
  | 0,i,s,h,hi=>⟨.inl s,rfl,by obtain rfl:i=n:=by omega
                               exact hi⟩
  | k+1,i,s,h,hi=>by
    obtain ⟨o,h1,h2⟩:=step i s (by omega) hi
    simp only [forFrom,h1]
    cases o with
    | inl s'=>exact ZZ n step k (i+1) s' (by omega) h2
    | inr r=>exact ⟨.inr r,rfl,h2⟩
theorem WE {σ ρ:Type} {f:Nat→σ→Option (σ ⊕ ρ)} {n:Int} {s0:σ} (Inv:Nat→σ→Prop) (Q:ρ→Prop) (hn:n < 4611686018427387904)
    (h0:Inv 0 s0) (step:∀ (i:Nat) (s:σ),(i:Int) < n→Inv i s→∃ o,f i s=some o∧kc (Inv (i+1)) Q o) :
    ∃ o,forR n f s0=some o∧kc (Inv n.toNat) Q o:=by
  rw [kW hn]
  exact ZZ n.toNat (fun i s hi=>step i s (by omega)) n.toNat 0 s0 (by omega) h0
theorem xn {σ ρ:Type} {f:Nat→σ→Option (σ ⊕ ρ)} {n:Nat} {s0:σ} (Inv:Nat→σ→Prop) (Q:ρ→Prop) (hn:n < 4611686018427387904)
    (h0:Inv 0 s0) (step:∀ (i:Nat) (s:σ),i < n→Inv i s→∃ o,f i s=some o∧kc (Inv (i+1)) Q o) :
    ∃ o,forR (n:Int) f s0=some o∧kc (Inv n) Q o:=by
  have:=WE (n:=(n:Int)) Inv Q (by omega) h0 (fun i s hi=>step i s (by omega))
  simpa using this
theorem WF {σ ρ:Type} {f:σ→Option (σ ⊕ ρ)} (Inv:σ→Prop) (Q:ρ→Prop) (m:σ→Nat)
    (step:∀ s,Inv s→∃ o,f s=some o∧kc (fun s'=>Inv s'∧m s' < m s) Q o):∀ s0,Inv s0→∃ r,iter f s0=some r∧Q r:=by
  have key:∀ (k:Nat) (s:σ),m s < k→Inv s→∃ r,iter f s=some r∧Q r:=by
    intro k
    induction k with
    | zero=>intro s h;omega
    | succ k ih=>
      intro s hk hs
      obtain ⟨o,h1,h2⟩:=step s hs
      rw [zei,h1]
      cases o with
      | inl s'=>exact ih s' (by have:=h2.2;omega) h2.1
      | inr r=>exact ⟨r,rfl,h2⟩
  exact fun s0 h=>key _ s0 (Nat.lt_succ_self _) h
theorem Zy {ρ:Type} {f:Nat→Unit→Option (Unit ⊕ ρ)} {p:Nat→Bool} {g:Nat→ρ}:∀ (k i:Nat),(∀ j,i≤j→j < i+k→f j ()=some (bif p j then .inl () else .inr (g j))) →
    forFrom f i k ()=some (match (List.range' i k).find? (fun j=>!p j) with | none=>.inl () | some j=>.inr (g j))
  | 0,i,h=>rfl
  | k+1,i,h=>by
    simp only [forFrom,h i (Nat.le_refl _) (by omega),List.range'_succ,List.find?_cons]
    cases hp:p i with
    | true=>
      simp only [cond_true,Bool.not_true]
      exact Zy k (i+1) fun j h1 h2=>h j (by omega) (by omega)
    | false=>simp
theorem jo {ρ:Type} {f:Nat→Unit→Option (Unit ⊕ ρ)} {n:Nat} (p:Nat→Bool) (g:Nat→ρ) (hn:n < 4611686018427387904) (h:∀ j,j < n→f j ()=some (bif p j then .inl () else .inr (g j))) :
    forR (n:Int) f ()=some (match (List.range n).find? (fun j=>!p j) with | none=>.inl () | some j=>.inr (g j)):=by
  rw [kW (by omega)]
  have:=Zy (f:=f) (p:=p) (g:=g) n 0 (fun j _ h2=>h j (by omega))
  simpa [List.range_eq_range'] using this
theorem xd {n:Nat} {p:Nat→Bool} (h:(List.range n).find? (fun j=>!p j)=none):∀ j,j < n→p j=true:=fun j hj=>by
  have:=List.find?_eq_none.1 h j (List.mem_range.2 hj)
  simpa using this
theorem QY {q:Nat→Bool}:∀ (k a i:Nat),(List.range' a k).find? q=some i→i < a+k∧a≤i∧q i=true∧∀ j,a≤j→j < i→q j=false
  | 0,a,i,h=>by simp at h
  | k+1,a,i,h=>by
    rw [List.range'_succ,List.find?_cons] at h
    split at h
    · rename_i hq
      cases h
      exact ⟨by omega,Nat.le_refl _,hq,fun j h1 h2=>by omega⟩
    · rename_i hq
      obtain ⟨h1,h2,h3,h4⟩:=QY k (a+1) i h
      exact ⟨by omega,by omega,h3,fun j h5 h6=>by
        rcases Nat.eq_or_lt_of_le h5 with h7 | h7
        · subst h7;exact hq
        · exact h4 j (by omega) h6⟩
theorem xe {n i:Nat} {p:Nat→Bool} (h:(List.range n).find? (fun j=>!p j)=some i):i < n∧p i=false∧∀ j,j < i→p j=true:=by
  rw [List.range_eq_range'] at h
  obtain ⟨h1,_,h2,h3⟩:=QY n 0 i h
  exact ⟨by omega,by simpa using h2,fun j hj=>by simpa using h3 j (Nat.zero_le _) hj⟩
theorem zj {α:Type} (b:Bool) (x y:α):(bif b then some x else some y)=some (bif b then x else y):=by cases b<;>rfl
theorem zV {α:Type} {l:List α} {i:Nat} {e:α} (h:l[i]?=some e):ze l (i:Int)=some e:=by
  unfold ze;rw [if_pos (by omega)];simpa using h
theorem zQ {α:Type} (l:List α) (i:Nat):ze l (i:Int)=l[i]?:=by
  unfold ze;rw [if_pos (by omega)];simp
theorem qC {α:Type} {l:List α} {n:Int} (h0:0≤n) (h1:n < l.length):∃ h:n.toNat < l.length,ze l n=some l[n.toNat]:=by
  have h:n.toNat < l.length:=by omega
  exact ⟨h,by unfold ze;rw [if_pos h0];exact List.getElem?_eq_getElem h⟩
theorem Yf {α:Type} {l:List α} {n:Int} (h:¬ (0≤n∧n < l.length)):ze l n=none:=by
  unfold ze
  split
  · exact List.getElem?_eq_none (by omega)
  · rfl
theorem Kp {len:Nat} {n:Int} (h0:0≤n) (h1:n < len):zm len n=some n.toNat:=by unfold zm;rw [if_pos ⟨h0,h1⟩]
theorem jt {len i:Nat} (h:i < len):zm len (i:Int)=some i:=by unfold zm;rw [if_pos ⟨by omega,by omega⟩];simp
def Ret {α:Type} (x:Option α) (Q:α→Prop):Prop:=∃ r,x=some r∧Q r
theorem Ret.some {α:Type} {a:α} {Q:α→Prop} (h:Q a):Ret (Option.some a) Q:=⟨a,rfl,h⟩
theorem Ret.bind {α β:Type} {x:Option α} {f:α→Option β} {P:α→Prop} {Q:β→Prop} (hx:Ret x P) (hf:∀ v,P v→Ret (f v) Q):Ret (x.bind f) Q:=by
  obtain ⟨v,rfl,hv⟩:=hx
  exact hf v hv
theorem Ret.bindE {α β:Type} {x:Option α} {f:α→Option β} {v:α} {Q:β→Prop} (hx:x=Option.some v) (hf:Ret (f v) Q):Ret (x.bind f) Q:=by
  subst hx;exact hf
theorem Ret.ite {α:Type} {b:Bool} {x y:Option α} {Q:α→Prop} (h1:b=true→Ret x Q) (h2:b=false→Ret y Q):Ret (bif b then x else y) Q:=by
  cases b
  · exact h2 rfl
  · exact h1 rfl
theorem Ret.mono {α:Type} {x:Option α} {P Q:α→Prop} (h:Ret x P) (hq:∀ r,P r→Q r):Ret x Q:=by
  obtain ⟨r,h1,h2⟩:=h;exact ⟨r,h1,hq r h2⟩
theorem Ret.eq {α:Type} {x:Option α} {a:α} (h:Ret x (· = a)):x=Option.some a:=by obtain ⟨r,h1,rfl⟩:=h;exact h1
theorem Ret.of {α:Type} {x:Option α} {a:α} (h:x=Option.some a):Ret x (· = a):=⟨a,h,rfl⟩
theorem Ret.forL {σ ρ:Type} {f:Nat→σ→Option (σ ⊕ ρ)} {n:Nat} {s0:σ} {Q:σ ⊕ ρ→Prop} (Inv:Nat→σ→Prop) (hn:n < 4611686018427387904) (h0:Inv 0 s0)
    (step:∀ (i:Nat) (s:σ),i < n→Inv i s→Ret (f i s) (kc (Inv (i+1)) fun r=>Q (.inr r))) (hQ:∀ s,Inv n s→Q (.inl s)):Ret (forR (n:Int) f s0) Q:=by
  obtain ⟨o,h1,h2⟩:=xn (n:=n) (s0:=s0) (f:=f) Inv (fun r=>Q (.inr r)) hn h0 step
  refine ⟨o,h1,?_⟩
  cases o with
  | inl s=>exact hQ s h2
  | inr r=>exact h2
theorem Ret.iter {σ ρ:Type} {f:σ→Option (σ ⊕ ρ)} {s0:σ} {Q:ρ→Prop} (Inv:σ→Prop) (m:σ→Nat) (h0:Inv s0)
    (step:∀ s,Inv s→Ret (f s) (kc (fun s'=>Inv s'∧m s' < m s) Q)):Ret (Go.Proofs.YtmoedieenlaegaaGreatDoor.iter f s0) Q:=WF (f:=f) Inv Q m step s0 h0
theorem Ret.idx {α:Type} {l:List α} {n:Int} {Q:α→Prop} (h0:0≤n) (h1:n < l.length) (h:∀ hi:n.toNat < l.length,Q l[n.toNat]):Ret (ze l n) Q:=by
  obtain ⟨hi,e⟩:=qC h0 h1
  exact ⟨_,e,h hi⟩
theorem XR {α:Type} {by_:Nat} {l m:List α} (h:(l.length+m.length)*by_≤140737488355328):zS by_ l m=some (l++m):=by unfold zS;rw [if_pos h]
structure Gm where
  n:Nat
  own:Nat→Bool
  lost:Nat→Bool
  succ:Nat→List Nat
def Attr (G:Gm):Nat→Nat→Prop
  | 0,i=>G.lost i=true
  | k+1,i=>G.lost i=true∨(G.own i=true∧∀ t∈G.succ i,Attr G k t)∨(G.own i=false∧∃ t∈G.succ i,Attr G k t)
theorem Attr.zero {G:Gm} {i:Nat} (h:G.lost i=true):∀ k,Attr G k i
  | 0=>h
  | k+1=>.inl h
theorem Attr.succ1 {G:Gm}:∀ {k i:Nat},Attr G k i→Attr G (k+1) i
  | 0,i,h=>.inl h
  | k+1,i,h=>by
    rcases h with h | ⟨h1,h2⟩ | ⟨h1,t,h2,h3⟩
    · exact .inl h
    · exact .inr (.inl ⟨h1,fun t ht=>(h2 t ht).succ1⟩)
    · exact .inr (.inr ⟨h1,t,h2,h3.succ1⟩)
theorem Attr.mono {G:Gm} {k k' i:Nat} (hk:k≤k') (h:Attr G k i):Attr G k' i:=by
  induction hk with
  | refl=>exact h
  | step _ ih=>exact ih.succ1
def zfB (G:Gm) (r:Nat→Int):Prop:=∀ i,i < G.n → -1≤r i∧∀ k:Nat,(r i ≠ -1∧r i≤k)↔Attr G k i
structure RankEq (G:Gm) (r:Nat→Int):Prop where
  ge:∀ i,i < G.n → -1≤r i
  zero:∀ i,i < G.n→(G.lost i=true↔r i=0)
  ownS:∀ i,i < G.n→G.own i=true→G.lost i=false→r i ≠ -1→(∀ t∈G.succ i,r t ≠ -1∧r t+1≤r i)∧((G.succ i=[]∧r i=1)∨∃ t∈G.succ i,r i=r t+1)
  ownU:∀ i,i < G.n→G.own i=true→G.lost i=false→r i = -1→∃ t∈G.succ i,r t = -1
  othS:∀ i,i < G.n→G.own i=false→G.lost i=false→r i ≠ -1→(∃ t∈G.succ i,r t ≠ -1∧r i=r t+1)∧∀ t∈G.succ i,r t ≠ -1→r i≤r t+1
  othU:∀ i,i < G.n→G.own i=false→G.lost i=false→r i = -1→∀ t∈G.succ i,r t = -1
theorem RankEq.to {G:Gm} {r:Nat→Int} (hcl:∀ i,i < G.n→∀ t∈G.succ i,t < G.n) (h:RankEq G r):∀ (k i:Nat),i < G.n→r i ≠ -1→r i≤k→Attr G k i
  | 0,i,hi,h1,h2=>(h.zero i hi).2 (by have:=h.ge i hi;omega)
  | k+1,i,hi,h1,h2=>by
    cases hl:G.lost i with
    | true=>exact Attr.zero hl _
    | false=>
      cases ho:G.own i with
      | true=>
        refine .inr (.inl ⟨ho,fun t ht => ?_⟩)
        obtain ⟨h3,h4⟩:=(h.ownS i hi ho hl h1).1 t ht
        exact RankEq.to hcl h k t (hcl i hi t ht) h3 (by omega)
      | false=>
        obtain ⟨⟨t,ht,h3,h4⟩,_⟩:=h.othS i hi ho hl h1
        exact .inr (.inr ⟨ho,t,ht,RankEq.to hcl h k t (hcl i hi t ht) h3 (by omega)⟩)
theorem RankEq.from {G:Gm} {r:Nat→Int} (hcl:∀ i,i < G.n→∀ t∈G.succ i,t < G.n) (h:RankEq G r):∀ (k i:Nat),i < G.n→Attr G k i→r i ≠ -1∧r i≤k
  | 0,i,hi,h1=>by have:=(h.zero i hi).1 h1;omega
  | k+1,i,hi,h1=>by
    cases hl:G.lost i with
    | true=>have:=(h.zero i hi).1 hl;omega
    | false=>
      rcases h1 with h1 | ⟨ho,h2⟩ | ⟨ho,t,ht,h2⟩
      · rw [hl] at h1;cases h1
      · have hn:r i ≠ -1:=fun e=>by
          obtain ⟨t,ht,h3⟩:=h.ownU i hi ho hl e
          exact (RankEq.from hcl h k t (hcl i hi t ht) (h2 t ht)).1 h3
        refine ⟨hn,?_⟩
        rcases (h.ownS i hi ho hl hn).2 with ⟨_,h3⟩ | ⟨t,ht,h3⟩
        · omega
        · have:=(RankEq.from hcl h k t (hcl i hi t ht) (h2 t ht)).2;omega
      · obtain ⟨h3,h4⟩:=RankEq.from hcl h k t (hcl i hi t ht) h2
        have hn:r i ≠ -1:=fun e=>h3 (h.othU i hi ho hl e t ht)
        exact ⟨hn,by have:=(h.othS i hi ho hl hn).2 t ht h3;omega⟩
theorem RankEq.ok {G:Gm} {r:Nat→Int} (hcl:∀ i,i < G.n→∀ t∈G.succ i,t < G.n) (h:RankEq G r):zfB G r:=fun i hi=>
  ⟨h.ge i hi,fun k=>⟨fun ⟨h1,h2⟩=>h.to hcl k i hi h1 h2,fun h1=>h.from hcl k i hi h1⟩⟩
def upd {α:Type} (f:Nat→α) (i:Nat) (x:α):Nat→α:=fun j=>if j=i then x else f j
theorem qa {α:Type} (f:Nat→α) (i:Nat) (x:α):upd f i x i=x:=if_pos rfl
theorem zJ {α:Type} {f:Nat→α} {i j:Nat} {x:α} (h:j≠i):upd f i x j=f j:=if_neg h
theorem Zz {p q:Nat→Bool} {t:Nat}:∀ {l:List Nat},(∀ x,q x=true→p x=true)→t∈l→p t=true→q t=false→l.countP q < l.countP p
  | x::l,hqp,ht,hp,hq=>by
    have hle:l.countP q≤l.countP p:=List.countP_mono_left fun x _=>hqp x
    rcases List.mem_cons.1 ht with rfl | ht
    · rw [List.countP_cons_of_neg (by simp [hq]),List.countP_cons_of_pos hp];omega
    · have:=Zz hqp ht hp hq
      by_cases h:q x=true
      · rw [List.countP_cons_of_pos h,List.countP_cons_of_pos (hqp x h)];omega
      · rw [List.countP_cons_of_neg h]
        by_cases h2:p x=true
        · rw [List.countP_cons_of_pos h2];omega
        · rw [List.countP_cons_of_neg h2];exact this
def kd (P:List Nat) (t:Nat):Bool := !(P.contains t)
theorem wu {P:List Nat} {t:Nat}:kd P t=true↔t ∉ P:=by simp [kd]
theorem JW {P:List Nat} {u:Nat} (hu:u ∉ P):∀ l:List Nat,l.countP (kd P)=l.countP (kd (P++[u]))+l.count u
  | []=>rfl
  | x::l=>by
    have ih:=JW hu l
    by_cases hx:x=u
    · subst hx
      rw [List.countP_cons_of_pos (wu.2 hu),List.countP_cons_of_neg (by simp [kd]),List.count_cons_self];omega
    · rw [List.count_cons_of_ne hx]
      by_cases hp:x∈P
      · rw [List.countP_cons_of_neg (by simp [kd,hp]),List.countP_cons_of_neg (by simp [kd,hp])];exact ih
      · rw [List.countP_cons_of_pos (wu.2 hp),List.countP_cons_of_pos (wu.2 (by simp [hp,hx]))];omega
structure Core (G:Gm) (r o:Nat→Int) (K P:List Nat) (c:Nat→Nat):Prop where
  nd:K.Nodup
  lt:∀ x∈K,x < G.n
  mem:∀ i,i < G.n→(i∈K↔r i ≠ -1)
  ge:∀ i,i < G.n → -1≤r i
  mono:K.Pairwise (fun a b=>r a≤r b)
  op:∀ i,i < G.n→o i+c i=((G.succ i).countP (kd P):Int)
  zero:∀ i,i < G.n→(G.lost i=true↔r i=0)
  ownS:∀ i,i < G.n→G.own i=true→G.lost i=false→r i ≠ -1→o i=0∧(∀ t∈G.succ i,r t ≠ -1∧r t+1≤r i)∧((G.succ i=[]∧r i=1)∨∃ t∈G.succ i,r i=r t+1)
  ownU:∀ i,i < G.n→G.own i=true→G.lost i=false→r i = -1→o i≠0
  othS:∀ i,i < G.n→G.own i=false→G.lost i=false→r i ≠ -1→(∃ t∈G.succ i,r t ≠ -1∧r i=r t+1)∧∀ t∈G.succ i,r t ≠ -1→r i≤r t+1
  othU:∀ i,i < G.n→G.own i=false→G.lost i=false→r i = -1→(∀ t∈G.succ i,t ∉ P)∧c i=0
structure BInv (G:Gm) (r o:Nat→Int) (P Q:List Nat):Prop where
  core:Core G r o (P++Q) P fun _=>0
  top:∀ q Q',Q=q::Q'→∀ x∈P++Q,r x≤r q+1
structure EInv (G:Gm) (r o:Nat→Int) (P:List Nat) (u:Nat) (Q:List Nat) (c:Nat→Nat):Prop where
  core:Core G r o (P++u::Q) P c
  top:∀ x∈P++u::Q,r x≤r u+1
  le:∀ i,i < G.n→c i≤(G.succ i).count u
theorem BInv.enter {G:Gm} {r o:Nat→Int} {P Q:List Nat} {u:Nat} (h:BInv G r o P (u::Q)):EInv G r o P u Q fun _=>0:=
  ⟨h.core,h.top u Q rfl,fun _ _=>Nat.zero_le _⟩
theorem Core.split {G:Gm} {r o:Nat→Int} {P Q:List Nat} {u:Nat} {c:Nat→Nat} (h:Core G r o (P++u::Q) P c):u ∉ P∧u < G.n∧r u ≠ -1∧(∀ x∈P,r x≤r u)∧(∀ x∈Q,r u≤r x):=by
  have hu:u∈P++u::Q:=by simp
  obtain ⟨h1,h2,h3⟩:=List.pairwise_append.1 h.mono
  refine ⟨fun hp => ?_,h.lt u hu,(h.mem u (h.lt u hu)).1 hu,fun x hx=>h3 x hx u (by simp),(List.pairwise_cons.1 h2).1⟩
  exact (List.nodup_append.1 h.nd).2.2 u hp u (by simp) rfl
theorem EInv.room {G:Gm} {r o:Nat→Int} {P Q:List Nat} {u:Nat} {c:Nat→Nat} (h:EInv G r o P u Q c) {i:Nat} (hi:i < G.n) (hc:c i < (G.succ i).count u):0 < o i:=by
  have h1:=h.core.op i hi
  rw [JW h.core.split.1] at h1
  omega
theorem EInv.skip {G:Gm} {r o:Nat→Int} {P Q:List Nat} {u:Nat} {c:Nat→Nat} (h:EInv G r o P u Q c) {i:Nat} (hi:i < G.n) (hc:c i < (G.succ i).count u) (hs:r i ≠ -1∨(G.own i=true∧o i - 1≠0)) :
    EInv G r (upd o i (o i - 1)) P u Q (upd c i (c i+1)):=by
  have hroom:=h.room hi hc
  have C:=h.core
  refine ⟨{C with op:=fun j hj => ?_,ownS:=fun j hj ho hl hr => ?_,ownU:=fun j hj ho hl hr => ?_,othU:=fun j hj ho hl hr => ?_},h.top,fun j hj => ?_⟩
  · by_cases e:j=i
    · subst e;rw [qa,qa];have:=C.op j hj;omega
    · rw [zJ e,zJ e];exact C.op j hj
  · obtain ⟨h1,h2⟩:=C.ownS j hj ho hl hr
    by_cases e:j=i
    · subst e;omega
    · rw [zJ e];exact ⟨h1,h2⟩
  · by_cases e:j=i
    · subst e;rw [qa]
      rcases hs with hs | ⟨_,hs⟩
      · exact absurd hr hs
      · exact hs
    · rw [zJ e];exact C.ownU j hj ho hl hr
  · by_cases e:j=i
    · subst e
      rcases hs with hs | ⟨hs,_⟩
      · exact absurd hr hs
      · rw [ho] at hs;cases hs
    · rw [zJ e];exact C.othU j hj ho hl hr
  · by_cases e:j=i
    · subst e;rw [qa];exact hc
    · rw [zJ e];exact h.le j hj
theorem EInv.settle {G:Gm} (hcl:∀ i,i < G.n→∀ t∈G.succ i,t < G.n) {r o:Nat→Int} {P Q:List Nat} {u:Nat} {c:Nat→Nat} (h:EInv G r o P u Q c) {i:Nat} (hi:i < G.n) (hc:c i < (G.succ i).count u) (hr:r i = -1) (hs:G.own i=false∨o i - 1=0) :
    EInv G (upd r i (r u+1)) (upd o i (o i - 1)) P u (Q++[i]) (upd c i (c i+1)):=by
  have hroom:=h.room hi hc
  obtain ⟨hu,hun,hru,hP,hQ⟩:=h.core.split
  have C:=h.core
  have hru0:0≤r u:=by have:=C.ge u hun;omega
  have hne:∀ x∈P++u::Q,x≠i:=fun x hx e=>by subst e;exact (C.mem x hi).1 hx hr
  have hui:u≠i:=hne u (by simp)
  have hl:P++u::(Q++[i])=(P++u::Q)++[i]:=by simp
  have hnl:G.lost i=false:=by
    cases hx:G.lost i with
    | false=>rfl
    | true=>have:=(C.zero i hi).1 hx;omega
  have hmem:u∈G.succ i:=List.count_pos_iff.1 (by omega)
  refine ⟨?_,?_,?_⟩
  · rw [hl]
    refine ⟨?_,?_,?_,?_,?_,?_,?_,?_,?_,?_,?_⟩
    · exact List.nodup_append.2 ⟨C.nd,by simp,fun a ha b hb=>by have:b=i:=by simpa using hb
                                                                subst this;exact hne a ha⟩
    · intro x hx
      rcases List.mem_append.1 hx with hx | hx
      · exact C.lt x hx
      · have:x=i:=by simpa using hx
        subst this;exact hi
    · intro j hj
      by_cases e:j=i
      · subst e;rw [qa];simp;omega
      · rw [zJ e,←C.mem j hj];simp [e]
    · intro j hj
      by_cases e:j=i
      · subst e;rw [qa];omega
      · rw [zJ e];exact C.ge j hj
    · refine List.pairwise_append.2 ⟨C.mono.imp_of_mem fun {a b} ha hb hab=>by rw [zJ (hne a ha),zJ (hne b hb)];exact hab,by simp,fun a ha b hb => ?_⟩
      have:b=i:=by simpa using hb
      subst this
      rw [qa,zJ (hne a ha)];exact h.top a ha
    · intro j hj
      by_cases e:j=i
      · subst e;rw [qa,qa];have:=C.op j hj;omega
      · rw [zJ e,zJ e];exact C.op j hj
    · intro j hj
      by_cases e:j=i
      · subst e;rw [qa,hnl];constructor
        · intro hx;cases hx
        · intro hx;omega
      · rw [zJ e];exact C.zero j hj
    · intro j hj ho hlo hrj
      by_cases e:j=i
      · subst e
        rw [qa] at hrj
        have ho1:o j - 1=0:=by
          rcases hs with hs | hs
          · rw [ho] at hs;cases hs
          · exact hs
        rw [qa,qa]
        have hop:=C.op j hj
        have hall:∀ t∈G.succ j,t∈P∨t=u:=fun t ht=>by
          by_cases htp:t∈P
          · exact .inl htp
          · by_cases htu:t=u
            · exact .inr htu
            · exfalso
              have hst:=Zz (p:=kd P) (q:=fun x=>x == u) (fun x hx=>by have:x=u:=by simpa using hx
                                                                      subst this;exact wu.2 hu) ht (wu.2 htp) (by simp [htu])
              have:(G.succ j).countP (fun x=>x == u)=(G.succ j).count u:=rfl
              omega
        refine ⟨ho1,fun t ht => ?_,.inr ⟨u,hmem,by rw [zJ hui]⟩⟩
        have htn:t≠j:=by
          rcases hall t ht with h1 | h1
          · exact hne t (by simp [h1])
          · rw [h1];exact hui
        rw [zJ htn]
        rcases hall t ht with h1 | h1
        · exact ⟨(C.mem t (C.lt t (by simp [h1]))).1 (by simp [h1]),by have:=hP t h1;omega⟩
        · rw [h1];exact ⟨hru,by omega⟩
      · rw [zJ e] at hrj
        rw [zJ e,zJ e]
        obtain ⟨h1,h2,h3⟩:=C.ownS j hj ho hlo hrj
        refine ⟨h1,fun t ht => ?_,?_⟩
        · have htn:t≠i:=fun e2=>by rw [e2] at ht;exact (h2 i ht).1 hr
          rw [zJ htn];exact h2 t ht
        · rcases h3 with h3 | ⟨t,ht,h3⟩
          · exact .inl h3
          · have htn:t≠i:=fun e2=>by rw [e2] at ht;exact (h2 i ht).1 hr
            exact .inr ⟨t,ht,by rw [zJ htn];exact h3⟩
    · intro j hj ho hlo hrj
      by_cases e:j=i
      · subst e;rw [qa] at hrj;omega
      · rw [zJ e] at hrj;rw [zJ e];exact C.ownU j hj ho hlo hrj
    · intro j hj ho hlo hrj
      by_cases e:j=i
      · subst e
        rw [qa]
        refine ⟨⟨u,hmem,by rw [zJ hui];exact hru,by rw [zJ hui]⟩,fun t ht htr => ?_⟩
        by_cases e2:t=j
        · subst e2;rw [qa];omega
        · rw [zJ e2] at htr ⊢
          obtain ⟨h1,_⟩:=C.othU j hj ho hlo hr
          have htk:=(C.mem t (hcl j hj t ht)).2 htr
          rcases List.mem_append.1 htk with h4 | h4
          · exact absurd h4 (h1 t ht)
          · rcases List.mem_cons.1 h4 with h4 | h4
            · rw [h4];omega
            · have:=hQ t h4;omega
      · rw [zJ e] at hrj
        rw [zJ e]
        obtain ⟨⟨t,ht,h1,h2⟩,h3⟩:=C.othS j hj ho hlo hrj
        have hj1:=h.top j ((C.mem j hj).2 hrj)
        refine ⟨?_,fun t ht htr => ?_⟩
        · have htn:t≠i:=fun e2=>by rw [e2] at h1;exact h1 hr
          exact ⟨t,ht,by rw [zJ htn];exact h1,by rw [zJ htn];exact h2⟩
        · by_cases e2:t=i
          · subst e2;rw [qa];omega
          · rw [zJ e2] at htr ⊢; exact h3 t ht htr
    · intro j hj ho hlo hrj
      by_cases e:j=i
      · subst e;rw [qa] at hrj;omega
      · rw [zJ e] at hrj;rw [zJ e];exact C.othU j hj ho hlo hrj
  · rw [hl,zJ hui]
    intro x hx
    rcases List.mem_append.1 hx with hx | hx
    · rw [zJ (hne x hx)];exact h.top x hx
    · have:x=i:=by simpa using hx
      subst this;rw [qa];omega
  · intro j hj
    by_cases e:j=i
    · subst e;rw [qa];exact hc
    · rw [zJ e];exact h.le j hj
theorem BInv.done {G:Gm} {r o:Nat→Int} {P:List Nat} (hcl:∀ i,i < G.n→∀ t∈G.succ i,t < G.n) (h:BInv G r o P []):RankEq G r:=by
  have C:=h.core
  rw [List.append_nil] at C
  refine ⟨C.ge,C.zero,fun i hi ho hl hr=>(C.ownS i hi ho hl hr).2,fun i hi ho hl hr => ?_,C.othS,fun i hi ho hl hr t ht => ?_⟩
  · have h1:=C.ownU i hi ho hl hr
    have h2:=C.op i hi
    have h3:0 < (G.succ i).countP (kd P):=by omega
    obtain ⟨t,ht,h4⟩:=List.countP_pos_iff.1 h3
    refine ⟨t,ht,?_⟩
    by_cases e:r t = -1
    · exact e
    · exact absurd ((C.mem t (hcl i hi t ht)).2 e) (wu.1 h4)
  · by_cases e:r t = -1
    · exact e
    · exact absurd ((C.mem t (hcl i hi t ht)).2 e) ((C.othU i hi ho hl hr).1 t ht)
def goL {α σ ρ:Type} (F:α→σ→Option (σ ⊕ ρ)):List α→σ→Option (σ ⊕ ρ)
  | [],s=>some (.inl s)
  | x::r,s=>match F x s with
    | none=>none
    | some (.inr y)=>some (.inr y)
    | some (.inl s')=>goL F r s'
theorem Z0 {α σ ρ:Type} {f:Nat→σ→Option (σ ⊕ ρ)} {F:α→σ→Option (σ ⊕ ρ)}:∀ (l:List α) (i:Nat) (s:σ),(∀ (j:Nat) (hj:j < l.length) (s:σ),f (i+j) s=F l[j] s)→forFrom f i l.length s=goL F l s
  | [],i,s,h=>rfl
  | x::r,i,s,h=>by
    have h0:=h 0 (by simp) s
    simp only [Nat.add_zero,List.getElem_cons_zero] at h0
    simp only [List.length_cons,forFrom,goL,h0]
    have ih:∀ s',forFrom f (i+1) r.length s'=goL F r s':=fun s'=>Z0 r (i+1) s' (f:=f) (F:=F) fun j hj s=>by
      have:=h (j+1) (by simpa using hj) s
      simp only [List.getElem_cons_succ] at this
      rw [←this];congr 1;omega
    cases F x s with
    | none=>rfl
    | some o=>
      cases o with
      | inl s'=>exact ih s'
      | inr y=>rfl
theorem zbR {α σ ρ:Type} {f:Nat→σ→Option (σ ⊕ ρ)} {F:α→σ→Option (σ ⊕ ρ)} (l:List α) (hl:l.length < 4611686018427387904) (h:∀ (j:Nat) (hj:j < l.length) (s:σ),f j s=F l[j] s) (s:σ):forR (l.length:Int) f s=goL F l s:=by
  rw [kW (by omega)]
  have:=Z0 l 0 s (f:=f) (F:=F) (fun j hj s=>by rw [Nat.zero_add];exact h j hj s)
  simpa using this
def yg (n:Int):Int→List Int→Bool
  | _,[]=>true
  | a,x::r=>(!decide (x≤a) && !decide (n≤x))&&yg n x r
def zau:Int→List Int→Int
  | a,[]=>a
  | _,x::r=>zau x r
theorem zd1 (n:Int) (l:List Int) (hl:l.length < 4611686018427387904) (a:Int):forR (σ:=Int) (ρ:=Unit) (l.length:Int) (fun i1 s1=>(Option.bind (ze l (i1:Int)) fun e1=>(Option.bind (bif decide (e1≤s1) then some true else some (decide (n≤e1))) fun v1=>(bif v1 then some (.inr ()) else some (.inl e1))))) a=some (bif yg n a l then .inl (zau a l) else .inr ()):=by
  rw [zbR (F:=fun x s=>bif (decide (x≤s)||decide (n≤x)) then some (.inr ()) else some (.inl x)) l hl (fun j hj s=>by
    simp only [zQ,List.getElem?_eq_getElem hj,Option.bind_some,zj,Bool.cond_true_left])]
  clear hl
  induction l generalizing a with
  | nil=>rfl
  | cons x r ih=>
    simp only [goL,yg,zau]
    cases decide (x≤a)<;>cases decide (n≤x)<;>simp [ih]
theorem WG {n:Int}:∀ {a:Int} {l:List Int},yg n a l=true→(∀ x∈l,a < x∧x < n)∧l.Pairwise (· < ·)
  | a,[],_=>⟨fun x hx=>(by cases hx),List.Pairwise.nil⟩
  | a,x::r,h=>by
    simp only [yg,Bool.and_eq_true,Bool.not_eq_true',decide_eq_false_iff_not] at h
    obtain ⟨⟨h1,h2⟩,h3⟩:=h
    obtain ⟨h4,h5⟩:=WG h3
    refine ⟨fun y hy => ?_,List.pairwise_cons.2 ⟨fun y hy=>(h4 y hy).1,h5⟩⟩
    rcases List.mem_cons.1 hy with rfl | hy
    · exact ⟨by omega,by omega⟩
    · have:=h4 y hy;exact ⟨by omega,this.2⟩
theorem Yg {n:Int}:∀ {a:Int} {l:List Int},yg n a l=true→(l.length:Int)≤0∨a+l.length < n
  | a,[],_=>.inl (by simp)
  | a,x::r,h=>by
    simp only [yg,Bool.and_eq_true,Bool.not_eq_true',decide_eq_false_iff_not] at h
    obtain ⟨⟨h1,h2⟩,h3⟩:=h
    rcases Yg h3 with h4 | h4
    · simp only [List.length_cons];omega
    · simp only [List.length_cons];omega
theorem zbS {l:List Int} (h:l.Pairwise (· < ·)):l.Nodup:=h.imp fun h=>by omega
end Go.Proofs.YtmoedieenlaegaaGreatDoor
