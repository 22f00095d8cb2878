/-
  Plans: code against a plan, and that a plan that is checked is a walk.
  Plans: what is live, whole functions, and the parts that printed plans are made of.
  Plans: the parts that printed plans are made of.
  Plans for an object whose cells are slices that grow.
  Data of the program's types.
  The table of the library that the program reads: what is known of it while the program runs.
  The program's functions, by the numbers that plans have for them.
  From the readings of a row's arguments to the abstract machine's data: whatever plain data is handed in (numbers, truth values, texts, slices and structures of these) is data of the abstract machine, of its type; and a law that is proved of all such data is the row's contract.
  A law that holds of all plain data of its types is the row's contract: whatever the arguments, the call returns true, and each argument reads as it read before.
  From data of the abstract machine to typed data.
  From readings to the data of this program's types.
  Plain laws about loops, searches and elements of lists.
  Plain laws: what a computation returns, and loops that build lists.
  Plain laws: loops over lists, loops that set one place after the other, increasing lists.
  Attractors: the positions from which the others can force a breach in some number of moves; and the queue that finds these numbers.
-/
import Derived.Test.YtmoedieenlaegaaGreatDoorWC05
import Derived.Test.YtmoedieenlaegaaGreatDoorChecked
import Derived.Lib.ItoaMem
import Derived.Lib.LaidTab
import Derived.KernelRfl
import Derived.Test.YtmoedieenlaegaaGreatDoorWC03
import Derived.ProofKit
import Derived.SizedLaws
import Derived.Carry
import Derived.OpenShut
import Derived.Test.YtmoedieenlaegaaGreatDoorWC04
namespace Go.Proofs.YtmoedieenlaegaaGreatDoor
open Go.RowKit
set_option linter.unusedSimpArgs false
set_option linter.unusedVariables false
section
def Zac.dec {α:Type} (p:Zac α):Zac α:=match p with
  | .cut (n+1) sp q k=>.cut n sp q k
  | .cutO (n+1) sp q k=>.cutO n sp q k
  | .weak (n+1) w q=>.weak n w q
  | .man (n+1) m q=>.man n m q
  | p=>p
theorem JG {α:Type} (p:Zac α):p.dec.run=p.run:=by
  unfold Zac.dec;split<;>rfl
def Zac.enter {α:Type} (p:Zac α):Zac α:=match p with
  | .reg 0 q=>q
  | .reg (n+1) q=>.reg n q
  | p=>p
theorem V8 {α:Type} (p:Zac α):p.enter.run=p.run:=by
  unfold Zac.enter;split<;>rfl
abbrev KT (α:Type):=Exit→St→zI→Zac α→Tree
abbrev CT:=(α:Type)→St→zI→Zac α→KT α→Tree
noncomputable def ziM {β:Type} (sp:Spec β) (st0:St):KT β:=fun e s Φ q=>match e with
  | .normal=>settle q Φ fun _ q=>match q with
    | .ret b=>sp.weak st0 s b .tt
    | _=>.bad 2034
  | _=>.bad 2035
noncomputable def zgT {α β γ:Type} (sp:Spec β) (st0:St) (kk:β ⊕ γ→Zac α) (k:KT α):KT (β ⊕ γ):=fun e s Φ q=>settle q Φ fun Φ q=>match e with
  | .normal=>match q with
    | .ret (.inl b)=>sp.weak st0 s b .tt
    | _=>.bad 2039
  | e=>match q with
    | .ret (.inr c)=>k e s Φ (kk (.inr c))
    | _=>.bad 2042
noncomputable def kd (go:CT):CT:=fun α st Φ p k=>.step (settle p Φ fun Φ p=>match p with
  | .cut (β:=β) 0 sp q kk=>match Nat.ble st.next sp.nx with
    | true=>.and (go β st Φ q (ziM sp st)) (.all β fun b=>k .normal (sp.st st b) Φ (kk b))
    | false=>.bad 2048
  | .cutO (β:=β) (γ:=γ) 0 sp q kk=>match Nat.ble st.next sp.nx with
    | true=>.and (go (β ⊕ γ) st Φ q (zgT sp st kk k)) (.all β fun b=>k .normal (sp.st st b) Φ (kk (.inl b)))
    | false=>.bad 2051
  | p=>go α st Φ p k)
def zcA:List WStep→St→(St→Tree)→Tree
  | [],st,f=>f st
  | w::ws,st,f=>w.T st (zcA ws (w.to st) f)
noncomputable def q8 (go:CT):CT:=fun α st Φ p k=>settle p Φ fun Φ p=>match p with
  | .weak 0 ws q=>zcA ws st fun st=>go α st Φ q k
  | p=>go α st Φ p k
noncomputable def zcB {α σ ρ:Type} (kk:ρ→Zac α) (W:St→σ→Tree) (k:KT α):KT (σ ⊕ ρ):=fun e s Φ q=>settle q Φ fun Φ q=>match e with
  | .normal=>match q with
    | .ret (.inl s')=>W s s'
    | _=>.bad 2063
  | e=>match q with
    | .ret (.inr y)=>k e s Φ (kk y)
    | _=>.bad 2066
noncomputable def ziN (c:ZaC) (go:CT):CT:=fun α st Φ p k=>settle p Φ fun Φ p=>match p with
  | .man 0 m kk=>m.T c st fun b s=>k .normal s Φ (kk b)
  | p=>go α st Φ p k
variable (C:Ctx)
abbrev GT:=Bool→YT→CT
noncomputable def chk (rng:Opd→List Nat→GT→GT→CT):ZaC→GT
  | .skip=>fun pl Yt=>q8 <| kd <| q8 fun α st Φ p k=>k .normal st Φ p
  | .region d o items ks=>fun pl Yt=>ziN (.region d o items ks) <| q8 <| kd <| q8 fun α st Φ p k=>Qd C Yt (match d with | true=>some o | false=>Option.none) items 0 (st.next+items.length) [] [] [] st Φ p.enter fun s Φ p=>k .normal (s.keep ks) Φ p
  | .seq x y=>fun pl Yt=>q8 <| kd <| q8 fun α st Φ p k=>chk rng x pl Yt α st Φ p.dec fun e s Φ q=>match e with
    | .normal=>chk rng y pl Yt α s Φ q k
    | e=>k e s Φ q
  | .cond c x y=>fun pl Yt=>q8 <| kd <| q8 fun α st Φ p k=>match zd st.env c with
    | .imm (.bool b)=>match p.used 999 with
      | some (key,q)=>match za Φ key with
        | some ([.g true],ps)=>.eq (List Prop) ps [b=true] (chk rng x pl Yt α st Φ q k)
        | some ([.g false],ps)=>.eq (List Prop) ps [b=false] (chk rng y pl Yt α st Φ q k)
        | _=>.bad 2083
      | Option.none=>match b with
        | true=>chk rng x pl Yt α st Φ p k
        | false=>chk rng y pl Yt α st Φ p k
    | _=>.bad 2087
  | .block id x=>fun pl Yt=>q8 <| kd <| q8 fun α st Φ p k=>chk rng x pl Yt α st Φ p.dec fun e s Φ q=>match e with
    | .exit i=>match Nat.beq i id with
      | true=>k .normal s Φ q
      | false=>k (.exit i) s Φ q
    | e=>k e s Φ q
  | .scope x=>fun pl Yt=>q8 <| kd <| q8 fun α st Φ p k=>match pl with
    | true=>chk rng x pl Yt α st Φ p.dec fun e s Φ q=>match e with
      | .goto _=>.bad 2095
      | e=>k e s Φ q
    | false=>.bad 2097
  | .exit id=>fun pl Yt=>q8 <| kd <| q8 fun α st Φ p k=>k (.exit id) st Φ p
  | .ret=>fun pl Yt=>q8 <| kd <| q8 fun α st Φ p k=>k .ret st Φ p
  | .range f ps x y=>fun pl Yt=>q8 <| kd <| q8 fun α st Φ p k=>match pl with
    | true=>rng f ps (chk rng x) (chk rng y) α st Φ p.dec k
    | false=>.bad 2102
  | .loop x=>fun pl Yt=>q8 <| kd <| q8 fun α st Φ p k=>match p with
    | .forR (σ:=σ) (ρ:=ρ) key idx n s0 sp body kk=>match Nat.beq sp.nx st.next with
      | true=>.and (sp.weaki st st idx (vI 0) s0 .tt) (.and
        (.all Nat fun i=>.all σ fun s=>chk rng x pl Yt (σ ⊕ ρ) (sp.sti st idx (i:Int) s) ((key,([.g true],[decide ((i:Int) < n)=true]))::(key+1,([.g false],[(!decide ((i:Int) < n))=false]))::Φ) (body i s) (zcB (fun y=>kk (.inr y)) (fun st' s'=>sp.weaki st st' idx (vI (IntKind.i64.wrap ((i:Int)+1))) s' .tt) k))
        (.all Nat fun i=>.all σ fun s=>chk rng x pl Yt α (sp.sti st idx (i:Int) s) ((key,([.g false],[decide ((i:Int) < n)=false]))::(key+1,([.g true],[(!decide ((i:Int) < n))=true]))::Φ) (kk (.inl s)) fun e s Φ q=>match e with
          | .normal=>.bad 2108
          | e=>k e s Φ q))
      | false=>.bad 2110
    | .iter (σ:=σ) (ρ:=ρ) s0 sp body kk=>match Nat.beq sp.nx st.next with
      | true=>.and (sp.weak st st s0 .tt) (.all σ fun s=>chk rng x pl Yt (σ ⊕ ρ) (sp.st st s) Φ (body s) (zcB kk (fun st' s'=>sp.weak st st' s' .tt) k))
      | false=>.bad 2113
    | _=>.bad 2114
variable {C:CtxY} {nt:Fr}
def kO (C:CtxY) (nt:Fr) (c:ZaC) (go:CT):Prop:=∀ {α:Type} {r:α} (st:St) (Φ:zI) (p:Zac α) (k:KT α) (K:Exit→St→Prop),FactsOk Φ→p.run=some r→(go α st Φ p k).Ok →
  (∀ e s Φ q,FactsOk Φ→q.run=some r→(k e s Φ q).Ok→K e s)→awp C nt c K st
theorem Xt {x:ZaC} {K:Exit→St→Prop} {st:St} (ST:St) (hn:st.next≤ST.next) (hK:K .normal ST) (hx:awp C nt x (yX (fun s=>Weak s ST) K) st):awp C nt x K st:=by
  intro code hc g a w R hI
  refine Code.wpIn_mono ?_ (hx code hc g a w R hI)
  rintro e a' w' ⟨st',g',hk,R',E'⟩
  cases e with
  | normal=>
    obtain ⟨g2,R2,hE2⟩:=hk C nt g' a' w' R'
    exact ⟨ST,g2,hK,R2,hE2 g st w hn E'⟩
  | _=>exact ⟨st',g',hk,R',E'⟩
theorem q9 {c:ZaC} {go:CT} (h:kO C nt c go):kO C nt c (kd go):=by
  intro α r st Φ p k K hΦ hr hok hk
  obtain ⟨Φ1,p1,hΦ1,hr1,h1⟩:=qV p hΦ hok hr
  split at h1
  · rename_i β sp q kk
    split at h1
    · rename_i hn
      obtain ⟨b,hb1,hb2⟩:=Jy (show Option.bind q.run (fun b=>(kk b).run)=some r from hr1)
      refine Xt (sp.st st b) (Nat.le_of_ble_eq_true hn) (hk _ _ _ _ hΦ1 hb2 (h1.2 b)) ?_
      refine h st Φ1 q (ziM sp st) _ hΦ1 hb1 h1.1 ?_
      intro e s Φ2 q2 hΦ2 hr2 h2
      cases e with
      | normal=>
        obtain ⟨Φ3,q3,hΦ3,hr3,h3⟩:=qV q2 hΦ2 h2 hr2
        split at h3
        · cases hr3;exact (Spec.weak_ok h3).2
        · exact h3.elim
      | _=>exact h2.elim
    · exact h1.elim
  · rename_i β γ sp q kk
    split at h1
    · rename_i hn
      obtain ⟨d,hd1,hd2⟩:=Jy (show Option.bind q.run (fun b=>(kk b).run)=some r from hr1)
      have key:∀ (e:Exit) (s:St) (Φ2:zI) (q2:Zac (β ⊕ γ)),FactsOk Φ2→q2.run=some d→(zgT sp st kk k e s Φ2 q2).Ok→(∃ b,d=.inl b∧e=.normal∧Weak s (sp.st st b))∨(e≠.normal∧(∃ y,d=.inr y)∧K e s):=by
        intro e s Φ2 q2 hΦ2 hr2 h2
        obtain ⟨Φ3,q3,hΦ3,hr3,h3⟩:=qV q2 hΦ2 h2 hr2
        split at h3
        · split at h3
          · rename_i b;exact .inl ⟨b,(Option.some.inj hr3).symm,rfl,(Spec.weak_ok h3).2⟩
          · exact h3.elim
        · rename_i hne
          split at h3
          · rename_i y
            have:d=.inr y:=(Option.some.inj hr3).symm
            subst this
            exact .inr ⟨hne,⟨y,rfl⟩,hk _ _ _ _ hΦ3 hd2 h3⟩
          · exact h3.elim
      cases d with
      | inl b=>
        refine Xt (sp.st st b) (Nat.le_of_ble_eq_true hn) (hk _ _ _ _ hΦ1 hd2 (h1.2 b)) ?_
        refine h st Φ1 q _ _ hΦ1 hd1 h1.1 ?_
        intro e s Φ2 q2 hΦ2 hr2 h2
        rcases key e s Φ2 q2 hΦ2 hr2 h2 with ⟨b',e1,rfl,e3⟩ | ⟨_,⟨y,e1⟩,_⟩
        · cases e1;exact e3
        · cases e1
      | inr y=>
        refine h st Φ1 q _ _ hΦ1 hd1 h1.1 ?_
        intro e s Φ2 q2 hΦ2 hr2 h2
        rcases key e s Φ2 q2 hΦ2 hr2 h2 with ⟨b',e1,_,_⟩ | ⟨_,_,e3⟩
        · cases e1
        · exact e3
    · exact h1.elim
  · exact h st Φ1 p1 k K hΦ1 hr1 h1 hk
theorem KX {c:ZaC} {K:Exit→St→Prop} {f:St→Tree}:∀ (ws:List WStep) (st:St),(zcA ws st f).Ok→(∀ st',(f st').Ok→awp C nt c K st')→awp C nt c K st
  | [],st,h,hf=>hf st h
  | w::ws,st,h,hf=>by
    obtain ⟨h1,h2,h3⟩:=w.ok _ _ h
    exact Kh h2 h3 (KX ws _ h1 hf)
theorem zH {c:ZaC} {go:CT} (h:kO C nt c go):kO C nt c (q8 go):=by
  intro α r st Φ p k K hΦ hr hok hk
  obtain ⟨Φ1,p1,hΦ1,hr1,h1⟩:=qV p hΦ hok hr
  split at h1
  · rename_i ws q
    exact KX ws st h1 fun st' h2=>h st' Φ1 q k K hΦ1 hr1 h2 hk
  · exact h _ _ _ k K hΦ1 hr1 h1 hk
theorem zcC {c:ZaC} {go:CT} (h:kO C nt c go):kO C nt c (ziN c go):=by
  intro α r st Φ p k K hΦ hr hc hk
  obtain ⟨Φ1,p1,hΦ1,hr1,h1⟩:=qV p hΦ hc hr
  split at h1
  · rename_i m kk
    have hr1':Option.bind m.x (fun b=>(kk b).run)=some r:=hr1
    obtain ⟨b,hb,hr2⟩:=Jy hr1'
    exact m.ok C nt c st _ K b hb h1 fun s hs=>hk _ _ _ _ hΦ1 hr2 hs
  · exact h st Φ1 _ k K hΦ1 hr1 h1 hk
theorem KY {α σ ρ:Type} {kk:ρ→Zac α} {W:St→σ→Tree} {k:KT α} {o:σ ⊕ ρ} {e:Exit} {s:St} {Φ:zI} {q:Zac (σ ⊕ ρ)} (hΦ:FactsOk Φ) (hr:q.run=some o) (h:(zcB kk W k e s Φ q).Ok) :
    (e=.normal∧∃ s',o=.inl s'∧(W s s').Ok)∨(e≠.normal∧∃ y Φ',o=.inr y∧FactsOk Φ'∧(k e s Φ' (kk y)).Ok):=by
  obtain ⟨Φ3,q3,hΦ3,hr3,h3⟩:=qV q hΦ h hr
  split at h3
  · split at h3
    · rename_i s';exact .inl ⟨rfl,s',(Option.some.inj hr3).symm,h3⟩
    · exact h3.elim
  · rename_i hne
    split at h3
    · rename_i y;exact .inr ⟨hne,y,Φ3,(Option.some.inj hr3).symm,hΦ3,h3⟩
    · exact h3.elim
def KZ (C:Ctx) (c:ZaC) (go:GT):Prop:=∀ (ro:Option Nat) (at0:Option (Gh×St×World)) Y ym yk (pl:Bool) (Yt:YT) (nt:Fr),(pl=true→ro=none)→zcx ⟨C,ro,at0,Y,ym,yk⟩ Yt→kO ⟨C,ro,at0,Y,ym,yk⟩ nt c (go pl Yt)
def zcD (C:Ctx) (rng:Opd→List Nat→GT→GT→CT):Prop:=∀ (f:Opd) (ps:List Nat) (x y:ZaC) (gx gy:GT),KZ C x gx→KZ C y gy →
  ∀ (at0:Option (Gh×St×World)) Y ym yk (nt:Fr),kO ⟨C,none,at0,Y,ym,yk⟩ nt (.range f ps x y) (rng f ps gx gy)
theorem ql {C:Ctx} {rng:Opd→List Nat→GT→GT→CT} (hG:zcD C rng):∀ c:ZaC,KZ C c (chk C rng c)
  | .skip=>fun ro at0 Y ym yk pl Yt nt hpl hY=>zH <| q9 <| zH fun st Φ p k K hΦ hr h hk=>Kf (hk _ _ _ _ hΦ hr h)
  | .region d o items ks=>fun ro at0 Y ym yk pl Yt nt hpl hY=>zcC <| zH <| q9 <| zH fun st Φ p k K hΦ hr h hk=>by
    cases d with
    | false=>exact zg9 (Qe hY (K:=Z4 ks K) (fun s Φ q h1 h2 h3=>hk _ _ _ _ h1 h2 h3) items 0 _ [] [] [] st Φ p.enter hΦ ((V8 p).trans hr) h)
    | true=>exact zd2 (fun s Φ q h1 h2 h3=>hk _ _ _ _ h1 h2 h3) hΦ ((V8 p).trans hr) h
  | .seq x y=>fun ro at0 Y ym yk pl Yt nt hpl hY=>zH <| q9 <| zH fun st Φ p k K hΦ hr h hk=>by
    refine zbh (ql hG x ro at0 Y ym yk pl Yt nt hpl hY st Φ p.dec _ _ hΦ ((JG p).trans hr) h ?_)
    intro e s Φ2 q2 hΦ2 hr2 h2
    cases e with
    | normal=>exact ql hG y ro at0 Y ym yk pl Yt nt hpl hY s Φ2 q2 k K hΦ2 hr2 h2 hk
    | _=>exact hk _ _ _ _ hΦ2 hr2 h2
  | .cond c x y=>fun ro at0 Y ym yk pl Yt nt hpl hY=>zH <| q9 <| zH fun st Φ p k K hΦ hr h hk=>by
    split at h
    · rename_i b hc
      split at h
      · rename_i key q hu
        have hq:=(Xq hu).trans hr
        split at h
        · rename_i ps hf
          obtain ⟨h1,h2⟩:=h
          have hb:b=true:=by have:=hΦ _ _ hf;simp only [h1] at this;exact this.one
          exact ve b hc (fun _=>ql hG x ro at0 Y ym yk pl Yt nt hpl hY st Φ q k K hΦ hq h2 hk) (fun e=>by rw [hb] at e;cases e)
        · rename_i ps hf
          obtain ⟨h1,h2⟩:=h
          have hb:b=false:=by have:=hΦ _ _ hf;simp only [h1] at this;exact this.one
          exact ve b hc (fun e=>by rw [hb] at e;cases e) (fun _=>ql hG y ro at0 Y ym yk pl Yt nt hpl hY st Φ q k K hΦ hq h2 hk)
        · exact h.elim
      · split at h
        · exact ve true hc (fun _=>ql hG x ro at0 Y ym yk pl Yt nt hpl hY st Φ p k K hΦ hr h hk) (fun e=>by cases e)
        · exact ve false hc (fun e=>by cases e) (fun _=>ql hG y ro at0 Y ym yk pl Yt nt hpl hY st Φ p k K hΦ hr h hk)
    · exact h.elim
  | .block id x=>fun ro at0 Y ym yk pl Yt nt hpl hY=>zH <| q9 <| zH fun st Φ p k K hΦ hr h hk=>by
    refine VU (ql hG x ro at0 Y ym yk pl Yt nt hpl hY st Φ p.dec _ _ hΦ ((JG p).trans hr) h ?_)
    intro e s Φ2 q2 hΦ2 hr2 h2
    cases e with
    | exit i=>
      have h2:(match Nat.beq i id with
        | true=>k .normal s Φ2 q2
        | false=>k (.exit i) s Φ2 q2).Ok:=h2
      simp only [wh]
      cases hb:Nat.beq i id with
      | true=>rw [hb] at h2;rw [if_pos (Nat.eq_of_beq_eq_true hb)];exact hk _ _ _ _ hΦ2 hr2 h2
      | false=>
        rw [hb] at h2
        rw [if_neg (fun e=>by subst e;rw [Nat.beq_refl] at hb;cases hb)]
        exact hk _ _ _ _ hΦ2 hr2 h2
    | _=>exact hk _ _ _ _ hΦ2 hr2 h2
  | .scope x=>fun ro at0 Y ym yk pl Yt nt hpl hY=>zH <| q9 <| zH fun st Φ p k K hΦ hr h hk=>by
    split at h
    · refine VV (hpl rfl) (ql hG x ro at0 Y ym yk true Yt nt hpl hY st Φ p.dec _ _ hΦ ((JG p).trans hr) h ?_)
      intro e s Φ2 q2 hΦ2 hr2 h2
      cases e with
      | goto l=>exact h2.elim
      | _=>exact hk _ _ _ _ hΦ2 hr2 h2
    · exact h.elim
  | .range f ps x y=>fun ro at0 Y ym yk pl Yt nt hpl hY=>zH <| q9 <| zH fun st Φ p k K hΦ hr h hk=>by
    split at h
    · have:=hpl rfl
      subst this
      exact hG f ps x y _ _ (ql hG x) (ql hG y) at0 Y ym yk nt st Φ p.dec k K hΦ ((JG p).trans hr) h hk
    · exact h.elim
  | .exit id=>fun ro at0 Y ym yk pl Yt nt hpl hY=>zH <| q9 <| zH fun st Φ p k K hΦ hr h hk=>Kg (hk _ _ _ _ hΦ hr h)
  | .ret=>fun ro at0 Y ym yk pl Yt nt hpl hY=>zH <| q9 <| zH fun st Φ p k K hΦ hr h hk=>zbi (hk _ _ _ _ hΦ hr h)
  | .loop x=>fun ro at0 Y ym yk pl Yt nt hpl hY=>zH <| q9 <| zH fun {α} {r} st Φ p k K hΦ hr h hk=>by
    split at h
    · rename_i σ ρ key idx n s0 sp body kk
      split at h
      · rename_i hnx
        have hnx:sp.nx=st.next:=Nat.eq_of_beq_eq_true hnx
        obtain ⟨h1,h2,h3⟩:=h
        obtain ⟨out,ho,hq⟩:=Jy (show Option.bind (forR n (fun i s=>(body i s).run) s0) (fun o=>(kk o).run)=some r from hr)
        refine zfh ho (fun i s=>(sp.sti st idx (i:Int) s).env) (fun i s=>(sp.sti st idx (i:Int) s).heap) ?_ ?_ ?_
        · have:=(Spec.weaki_ok (n:=((0:Nat):Int)) rfl h1).2
          simp only [Spec.sti,hnx] at this ⊢
          exact this
        · intro i s o hi hw hb
          have hst:(⟨(sp.sti st idx (i:Int) s).env,(sp.sti st idx (i:Int) s).heap,st.next⟩:St)=sp.sti st idx (i:Int) s:=by simp only [Spec.sti,hnx]
          rw [hst]
          refine ql hG x ro at0 Y ym yk pl Yt nt hpl hY _ _ (body i s) _ _ ((hΦ.add (f:=([.g false],[(!decide ((i:Int) < n))=false])) (.cons (by rw [decide_eq_true hi];rfl) .nil)).add (f:=([.g true],[decide ((i:Int) < n)=true])) (.cons (decide_eq_true hi) .nil)) hb (h2 i s) ?_
          intro e s2 Φ2 q2 hΦ2 hr2 h4
          rcases KY hΦ2 hr2 h4 with ⟨rfl,s',rfl,h5⟩ | ⟨hne,y,Φ3,rfl,hΦ3,h5⟩
          · refine ⟨s',rfl,?_⟩
            have:=(Spec.weaki_ok (n:=((i+1:Nat):Int)) (by rw [hw];rfl) h5).2
            simp only [Spec.sti,hnx] at this ⊢
            exact this
          · have:∀ (K':Exit→St→Prop),(∃ y',(Sum.inr y:σ ⊕ ρ)=.inr y'∧(out=.inr y'→K e s2))→YL (fun s=>⟨(sp.sti st idx ((i+1:Nat):Int) s).env,(sp.sti st idx ((i+1:Nat):Int) s).heap,st.next⟩) K out (.inr y) e s2:=fun _ hh=>by
              cases e with
              | normal=>exact absurd rfl hne
              | _=>exact hh
            refine this K ⟨y,rfl,fun hout => ?_⟩
            subst hout
            exact hk _ _ _ _ hΦ3 hq h5
        · intro m s hm hout
          subst hout
          have hst:(⟨(sp.sti st idx (m:Int) s).env,(sp.sti st idx (m:Int) s).heap,st.next⟩:St)=sp.sti st idx (m:Int) s:=by simp only [Spec.sti,hnx]
          rw [hst]
          refine ql hG x ro at0 Y ym yk pl Yt nt hpl hY _ _ (kk (.inl s)) _ _ ((hΦ.add (f:=([.g true],[(!decide ((m:Int) < n))=true])) (.cons (by rw [decide_eq_false hm];rfl) .nil)).add (f:=([.g false],[decide ((m:Int) < n)=false])) (.cons (decide_eq_false hm) .nil)) hq (h3 m s) ?_
          intro e s2 Φ2 q2 hΦ2 hr2 h4
          cases e with
          | normal=>exact h4.elim
          | _=>exact hk _ _ _ _ hΦ2 hr2 h4
      · exact h.elim
    · rename_i σ ρ s0 sp body kk
      split at h
      · rename_i hnx
        have hnx:sp.nx=st.next:=Nat.eq_of_beq_eq_true hnx
        obtain ⟨h1,h2⟩:=h
        obtain ⟨out,ho,hq⟩:=Jy (show Option.bind (iter (fun s=>(body s).run) s0) (fun o=>(kk o).run)=some r from hr)
        have hst:∀ s,(⟨(sp.st st s).env,(sp.st st s).heap,st.next⟩:St)=sp.st st s:=fun s=>by simp only [Spec.st,hnx]
        refine zfi ho (fun s=>(sp.st st s).env) (fun s=>(sp.st st s).heap) ?_ ?_
        · rw [hst];exact (Spec.weak_ok h1).2
        · intro s o hb
          rw [hst]
          refine ql hG x ro at0 Y ym yk pl Yt nt hpl hY _ _ (body s) _ _ hΦ hb (h2 s) ?_
          intro e s2 Φ2 q2 hΦ2 hr2 h4
          rcases KY hΦ2 hr2 h4 with ⟨rfl,s',rfl,h5⟩ | ⟨hne,y,Φ3,rfl,hΦ3,h5⟩
          · refine ⟨s',rfl,?_⟩
            show Weak s2 ⟨(sp.st st s').env,(sp.st st s').heap,st.next⟩
            rw [hst];exact (Spec.weak_ok h5).2
          · have:(∃ y',(Sum.inr y:σ ⊕ ρ)=.inr y'∧((Sum.inr out:σ ⊕ ρ)=.inr y'→K e s2))→YL (fun s=>⟨(sp.st st s).env,(sp.st st s).heap,st.next⟩) K (.inr out) (.inr y) e s2:=fun hh=>by
              cases e with
              | normal=>exact absurd rfl hne
              | _=>exact hh
            refine this ⟨y,rfl,fun hout => ?_⟩
            cases hout
            exact hk _ _ _ _ hΦ3 hq h5
      · exact h.elim
    · exact h.elim
end
section
def JH (n:Nat):Nat:=Nat.shiftLeft 1 n
def zd3 (m n:Nat):Bool:=Nat.beq (Nat.land 1 (Nat.shiftRight m n)) 1
def Zy:Opd→Nat
  | .t n=>JH n
  | .c _=>0
  | .m n _=>JH n
def Xu:List Opd→Nat
  | []=>0
  | x::r=>Nat.lor (Zy x) (Xu r)
def Vl (it:AItem):Nat:=match it.guard with
  | none=>Xu (z6 it.op)
  | some (t,_)=>Nat.lor (JH t) (Xu (z6 it.op))
def zhg (m n:Nat):Nat:=match zd3 m n with
  | true=>Nat.sub m (JH n)
  | false=>m
def Q6 (out:Nat):List AItem→Nat
  | []=>out
  | it::rest=>match it.guard,it.dst with
    | none,some d=>Nat.lor (Vl it) (zhg (Q6 out rest) d)
    | _,_=>Nat.lor (Vl it) (Q6 out rest)
def zgU:List AItem→Nat
  | []=>0
  | it::rest=>Nat.lor (Vl it) (zgU rest)
def xY:ZaC→Nat
  | .region _ _ items _=>zgU items
  | .seq x y=>Nat.lor (xY x) (xY y)
  | .cond c x y=>Nat.lor (Zy c) (Nat.lor (xY x) (xY y))
  | .block _ x | .loop x | .scope x=>xY x
  | .range f _ x y=>Nat.lor (Zy f) (Nat.lor (xY x) (xY y))
  | _=>0
def zgV (ex:List (Nat×Nat)) (id:Nat):Nat:=match ex with
  | []=>0
  | (k,v)::r=>match Nat.beq k id with
    | true=>v
    | false=>zgV r id
def YU:List (Nat×Nat)→Nat
  | []=>0
  | (_,v)::r=>Nat.lor v (YU r)
def Xv (ret:Nat):ZaC→Nat→List (Nat×Nat)→Nat
  | .skip,out,_=>out
  | .region _ _ items _,out,_=>Q6 out items
  | .seq x y,out,ex=>Xv ret x (Xv ret y out ex) ex
  | .cond c x y,out,ex=>Nat.lor (Zy c) (Nat.lor (Xv ret x out ex) (Xv ret y out ex))
  | .block id x,out,ex=>Xv ret x out ((id,out)::ex)
  | .loop x,out,ex=>Nat.lor ret (Nat.lor (xY x) (YU ex))
  | .scope x,out,ex=>Xv ret x out ex
  | .exit id,_,ex=>zgV ex id
  | .ret,_,_=>ret
  | .range f _ x y,out,ex=>Nat.lor (Nat.lor ret out) (Nat.lor (Zy f) (Nat.lor (Nat.lor (xY x) (xY y)) (YU ex)))
def Xw (m:Nat):Nat→List Nat
  | 0=>[]
  | n+1=>match zd3 m n with
    | true=>n::Xw m n
    | false=>Xw m n
def ann (nt ret:Nat):ZaC→Nat→List (Nat×Nat)→ZaC
  | .skip,_,_=>.skip
  | .region d o items _,out,_=>.region d o items (some (Xw out nt))
  | .seq x y,out,ex=>.seq (ann nt ret x (Xv ret y out ex) ex) (ann nt ret y out ex)
  | .cond c x y,out,ex=>.cond c (ann nt ret x out ex) (ann nt ret y out ex)
  | .block id x,out,ex=>.block id (ann nt ret x out ((id,out)::ex))
  | .loop x,out,ex=>.loop (ann nt ret x (Nat.lor ret (Nat.lor (xY x) (YU ex))) ex)
  | .scope x,out,ex=>.scope (ann nt ret x out ex)
  | .exit id,_,_=>.exit id
  | .ret,_,_=>.ret
  | .range f ps x y,out,ex=>.range f ps (ann nt ret x (xY y) ex) (ann nt ret y 0 ex)
theorem jq (nt ret:Nat):∀ (c:ZaC) (out:Nat) (ex:List (Nat×Nat)),(ann nt ret c out ex).erase=c.erase
  | .skip,_,_=>rfl
  | .region _ _ _ _,_,_=>rfl
  | .seq x y,out,ex=>by simp only [ann,ZaC.erase,jq nt ret x,jq nt ret y]
  | .cond c x y,out,ex=>by simp only [ann,ZaC.erase,jq nt ret x,jq nt ret y]
  | .block id x,out,ex=>by simp only [ann,ZaC.erase,jq nt ret x]
  | .loop x,out,ex=>by simp only [ann,ZaC.erase,jq nt ret x]
  | .scope x,out,ex=>by simp only [ann,ZaC.erase,jq nt ret x]
  | .exit id,_,_=>rfl
  | .ret,_,_=>rfl
  | .range f ps x y,out,ex=>by simp only [ann,ZaC.erase,jq nt ret x,jq nt ret y]
theorem ja (C:Ctx) (nt:Nat):∀ (code:Code) (ac:ZaC),comp C nt code=some ac→ac.erase=ac
  | .skip,ac,h=>by simp only [comp] at h;cases h;rfl
  | .region _ ops draw,ac,h=>by
    simp only [comp] at h
    split at h
    · split at h
      · split at h
        · cases h;rfl
        · cases h
      · cases h;rfl
    · cases h
  | .seq a b,ac,h=>by
    simp only [comp] at h
    split at h
    · rename_i x y hx hy;cases h;simp only [ZaC.erase,ja C nt a x hx,ja C nt b y hy]
    · cases h
  | .cond c a b,ac,h=>by
    simp only [comp] at h
    split at h
    · rename_i x y hx hy;cases h;simp only [ZaC.erase,ja C nt a x hx,ja C nt b y hy]
    · cases h
  | .block id a,ac,h=>by
    simp only [comp] at h
    split at h
    · rename_i x hx;cases h;simp only [ZaC.erase,ja C nt a x hx]
    · cases h
  | .loop a,ac,h=>by
    simp only [comp] at h
    split at h
    · rename_i x hx;cases h;simp only [ZaC.erase,ja C nt a x hx]
    · cases h
  | .scope a,ac,h=>by
    simp only [comp] at h
    split at h
    · rename_i x hx;cases h;simp only [ZaC.erase,ja C nt a x hx]
    · cases h
  | .label _,ac,h=>by simp only [comp] at h;cases h;rfl
  | .exit id,ac,h=>by simp only [comp] at h;cases h;rfl
  | .ret,ac,h=>by simp only [comp] at h;cases h;rfl
  | .rangeFunc _ ps a b,ac,h=>by
    simp only [comp] at h
    split at h
    · split at h
      · rename_i x y hx hy;cases h;simp only [ZaC.erase,ja C nt a x hx,ja C nt b y hy]
      · cases h
    · cases h
  | .goto _,ac,h=>by simp only [comp] at h;cases h
  | .refuse _,ac,h=>by simp only [comp] at h;cases h
theorem YA {C:Ctx} {f:Nat} {F:AFun} (h:qr C f=some F):F.erase=F:=by
  unfold qr at h
  split at h
  · split at h
    · split at h
      · rename_i ac rs hac hrs
        split at h
        · cases h
        · cases h;simp only [AFun.erase,ja C _ _ _ hac]
      · cases h
    · cases h
  · cases h
def JI:List ARes→Nat
  | []=>0
  | .tmp t::r=>Nat.lor (JH t) (JI r)
  | .cell t _ _::r=>Nat.lor (JH t) (JI r)
def AFun.ann (F:AFun):AFun:={F with body:=Go.Proofs.YtmoedieenlaegaaGreatDoor.ann F.nt (JI F.results) F.body (JI F.results) []}
theorem Xx {C:Ctx} {f:Nat} {F:AFun} (h:qr C f=some F):qr C f=some F.ann.erase:=by
  rw [h]
  have:=YA h
  simp only [AFun.erase] at this
  simp only [AFun.ann,AFun.erase,jq]
  rw [this]
def noR:Opd→List Nat→GT→GT→CT:=fun _ _ _ _ _ _ _ _ _=>.bad 3161
theorem ziO (C:Ctx):zcD C noR:=fun _ _ _ _ _ _ _ _ _ _ _ _ _ {_} {_} _ _ _ _ _ _ _ h _=>h.elim
def Wm (o:Option Zah) (o':Zah) (t:Tree):Tree:=match o with
  | some x=>.eq Zah x o' t
  | none=>.bad 3167
theorem Xy {o:Option Zah} {o':Zah} {t:Tree} (h:(Wm o o' t).Ok):o=some o'∧t.Ok:=by
  unfold Wm at h
  split at h
  · obtain ⟨rfl,h2⟩:=h;exact ⟨rfl,h2⟩
  · exact h.elim
noncomputable def ziP {α:Type} (idl L:Nat) (R:LoopState→Option Code→Loop) (k:AV→List (Nat×Zah)→Nat→zI→Zac α→Tree):KT α:=fun e s Φ q=>Wm (za s.heap idl) (.lp L R .busy none) (match e with
  | .normal=>k (.imm (.bool true)) (zo s.heap idl (.lp L R .ready none)) (s.next+1) Φ q
  | .ret=>k (.imm (.bool false)) (zo s.heap idl (.lp L R .done (some .ret))) (s.next+1) Φ q
  | .exit id=>k (.imm (.bool false)) (zo s.heap idl (.lp L R .done (some (.exit id)))) (s.next+1) Φ q
  | _=>.bad 3178)
noncomputable def zd4 (env:List (Nat×AV)) (idl L:Nat) (R:LoopState→Option Code→Loop) (ps:List Nat) (gx gy:GT):YT:=fun l id args heap next α Φ p k=>
  .eq (Nat×Nat) (l,id) (L,idl) (match Nat.beq args.length ps.length with
    | true=>Wm (za heap idl) (.lp L R .ready none) (gx false noT α ⟨YQ ps args env,heap,next⟩ Φ p fun e s Φ q=>match e with
      | .normal=>Wm (za s.heap idl) (.lp L R .ready none) (gy false noT α ⟨s.env,zo s.heap idl (.lp L R .busy none),s.next+1⟩ Φ q (ziP idl L R k))
      | _=>.bad 3183)
    | false=>.bad 3184)
noncomputable def YV {α:Type} (env:List (Nat×AV)) (idl L:Nat) (R:LoopState→Option Code→Loop) (rs:List ARes) (k:KT α) (s:St) (Φ:zI) (q:Zac α):Tree:=match jn rs s with
  | some _=>match za s.heap idl with
    | some (.lp L' R' .ready none)=>.eq Zah (.lp L' R' .ready none) (.lp L R .ready none) (k .normal ⟨env,zo s.heap idl (.lp L R .exhausted none),s.next+1⟩ Φ q)
    | some (.lp L' R' .done (some .ret))=>.eq Zah (.lp L' R' .done (some .ret)) (.lp L R .done (some .ret)) (k .ret ⟨env,zo s.heap idl (.lp L R .exhausted (some .ret)),s.next+1⟩ Φ q)
    | some (.lp L' R' .done (some (.exit id)))=>.eq Zah (.lp L' R' .done (some (.exit id))) (.lp L R .done (some (.exit id))) (k (.exit id) ⟨env,zo s.heap idl (.lp L R .exhausted (some (.exit id))),s.next+1⟩ Φ q)
    | _=>.bad 3190
  | none=>.bad 3191
noncomputable def zfA (C:Ctx):Opd→List Nat→GT→GT→CT:=fun f ps gx gy α st Φ p k=>match zd st.env f with
  | .func gf [] caps=>match qr C gf with
    | some F=>match Nat.ble (caps.length+1) F.nt with
      | true=>.all Nat fun L=>.all (LoopState→Option Code→Loop) fun R=>chk C noR F.ann.body true (zd4 st.env st.next L R ps gx gy) α ⟨jc 0 (.yld L st.next::caps),zo st.heap st.next (.lp L R .ready none),st.next+1⟩ Φ p fun e s Φ q=>match e with
        | .ret=>YV st.env st.next L R F.results k s Φ q
        | .normal=>YV st.env st.next L R F.results k s Φ q
        | _=>.bad 3198
      | false=>.bad 3199
    | none=>.bad 3200
  | _=>.bad 3201
theorem K0 {α:Type} {env:List (Nat×AV)} {idl L:Nat} {R:LoopState→Option Code→Loop} {rs:List ARes} {k:KT α} {s:St} {Φ:zI} {q:Zac α} {K:Exit→St→Prop} (h:(YV env idl L R rs k s Φ q).Ok) (hk:∀ e s,(k e s Φ q).Ok→K e s) :
    ∃ r,jn rs s=some r∧zgS env idl L R K s.heap s.next:=by
  unfold YV at h
  split at h
  · rename_i r hr
    refine ⟨r,hr,?_⟩
    split at h
    · rename_i ho;obtain ⟨h1,h2⟩:=h;rw [h1] at ho;exact .inl ⟨ho,hk _ _ h2⟩
    · rename_i ho;obtain ⟨h1,h2⟩:=h;rw [h1] at ho;exact .inr (.inl ⟨ho,hk _ _ h2⟩)
    · rename_i id ho;obtain ⟨h1,h2⟩:=h;rw [h1] at ho;exact .inr (.inr ⟨id,ho,hk _ _ h2⟩)
    · exact h.elim
  · exact h.elim
theorem zbr (C:Ctx):zcD C (zfA C):=by
  intro f ps x y gx gy hx hy at0 Y ym yk nt α r st Φ p k K hΦ hr h hk
  unfold zfA at h
  split at h
  · rename_i gf caps hf
    split at h
    · rename_i F hF
      split at h
      · rename_i hn
        refine zdZ (C:=⟨C,none,at0,Y,ym,yk⟩) rfl hf (F:=F.ann) (Xx hF) (Nat.le_of_ble_eq_true hn) ?_
        intro L R at0' ym' yk' B
        have hYt:zcx ⟨C,none,at0',Zx ⟨C,none,at0,Y,ym,yk⟩ nt st.env st.next L R ps x y,ym',yk'⟩ (zd4 st.env st.next L R ps gx gy):=by
          intro l id args heap next β Ψ q kk r' KK hΨ hr' h1 hkk
          obtain ⟨e1,h2⟩:=h1
          cases e1
          split at h2
          · rename_i hlen
            obtain ⟨e2,h3⟩:=Xy h2
            refine ⟨rfl,rfl,Nat.eq_of_beq_eq_true hlen,e2,?_⟩
            refine hx (some L) none noY _ _ false noT nt (fun h=>by cases h) (Wj _) _ Ψ q _ _ hΨ hr' h3 ?_
            intro e s Ψ2 q2 hΨ2 hr2 h4
            cases e with
            | normal=>
              obtain ⟨e3,h5⟩:=Xy h4
              refine ⟨e3,?_⟩
              refine hy (some L) none noY _ _ false noT nt (fun h=>by cases h) (Wj _) _ Ψ2 q2 _ _ hΨ2 hr2 h5 ?_
              intro e s3 Ψ3 q3 hΨ3 hr3 h6
              obtain ⟨e4,h7⟩:=Xy h6
              cases e with
              | normal=>exact ⟨e4,hkk _ _ _ _ _ hΨ3 hr3 h7⟩
              | ret=>exact ⟨e4,hkk _ _ _ _ _ hΨ3 hr3 h7⟩
              | exit id=>exact ⟨e4,hkk _ _ _ _ _ hΨ3 hr3 h7⟩
              | _=>exact h7.elim
            | _=>exact h4.elim
          · exact h2.elim
        refine ql (ziO C) F.ann.body none at0' _ ym' yk' true _ ⟨F.ann.nt,B⟩ (fun _=>rfl) hYt _ Φ p _ _ hΦ hr (h L R) ?_
        intro e s Φ2 q2 hΦ2 hr2 h2
        cases e with
        | ret=>obtain ⟨r2,h3,h4⟩:=K0 (K:=K) h2 (fun e s h=>hk e s _ _ hΦ2 hr2 h);exact ⟨.inl rfl,r2,h3,h4⟩
        | normal=>obtain ⟨r2,h3,h4⟩:=K0 (K:=K) h2 (fun e s h=>hk e s _ _ hΦ2 hr2 h);exact ⟨.inr rfl,r2,h3,h4⟩
        | _=>exact h2.elim
      · exact h.elim
    · exact h.elim
  · exact h.elim
variable (C:Ctx)
noncomputable def Zz {α:Type} (f:Nat) (args:List AV) (heap:List (Nat×Zah)) (m:Nat) (p:Zac α) (kend:List ARes→KT α):Tree:=match qr C f with
  | some F=>match Nat.ble args.length F.nt with
    | true=>chk C (zfA C) F.ann.body true noT α ⟨jc 0 args,heap,m⟩ [] p (kend F.results)
    | false=>.bad 3266
  | none=>.bad 3267
noncomputable def zcE {α:Type} (iv:α→IV) (rs:List ARes) (s:St):Zac α→Tree
  | .ret a=>.eq (Option IV) ((jn rs s).bind (zC (za s.heap) 5)) (some (iv a)) .tt
  | .fin ids V objs x h a=>match xF s.heap ids with
    | some objs'=>.eq (List (Nat×Zah)) objs' objs (.eq (Option AV) (jn rs s) (some V) (.eq IV x (iv a) .tt))
    | Option.none=>.bad 3273
  | _=>.bad 3274
noncomputable def zgW {α:Type} (iv:α→IV) (rs:List ARes):KT α:=fun e s Φ q=>settle q Φ fun Φ q=>match e with
  | .ret=>zcE iv rs s q
  | .normal=>zcE iv rs s q
  | _=>.bad 3278
noncomputable def zcF {α:Type} (R:α→AV) (H:α→List (Nat×Zah)) (n:Nat) (rs:List ARes) (s:St):Zac α→Tree
  | .ret a=>match jn rs s with
    | some x=>.eq AV x (R a) (Qf n [(0,R a)] [] (H a) [] ⟨[(0,R a)],s.heap,s.next⟩ .tt)
    | Option.none=>.bad 3283
  | .finL x y h a=>match jn rs s with
    | some x'=>.eq AV x' x (.eq AV y (R a) (Qf n [(0,R a)] [] (H a) [] ⟨[(0,R a)],s.heap,s.next⟩ .tt))
    | Option.none=>.bad 3286
  | _=>.bad 3287
noncomputable def ziQ {α:Type} (R:α→AV) (H:α→List (Nat×Zah)) (n:Nat) (rs:List ARes):KT α:=fun e s Φ q=>settle q Φ fun Φ q=>match e with
  | .ret=>zcF R H n rs s q
  | .normal=>zcF R H n rs s q
  | _=>.bad 3291
variable {C:Ctx}
theorem zbs {α:Type} {iv:α→IV} {rs:List ARes} {s:St} {q:Zac α} {r:α} (hr:q.run=some r) (h:(zcE iv rs s q).Ok):Q0 (Vd 5 (iv r)) s.heap s.next (jn rs s):=by
  unfold zcE at h
  split at h
  · cases hr
    have h1:=h.1
    cases h2:jn rs s with
    | none=>rw [h2] at h1;cases h1
    | some x=>rw [h2] at h1;exact h1
  · rename_i ids V objs x hs a
    cases hr
    split at h
    · rename_i objs' ho
      obtain ⟨rfl,h2,rfl,_⟩:=h
      rw [h2]
      have:=Z7 (Z8 ho) hs
      simp only [mapO] at this
      split at this
      · rename_i b hb;cases this;exact hb
      · cases this
    · exact h.elim
  · exact h.elim
theorem Zac.pure {f:Nat} {α:Type} {args:List IV} {iv:α→IV} (p:Zac α) (h:Zz C f (args.map .imm) [] 0 p (zgW iv)=(Zz C f (args.map .imm) [] 0 p (zgW iv)).norm) {r:α} (hr:p.run=some r):APure C f args (iv r):=by
  have hk:=Tree.ok h
  unfold Zz at hk
  split at hk
  · rename_i F hF
    split at hk
    · rename_i hn
      refine APure.start (F:=F.ann) (Xx hF) 5 (by have:=Nat.le_of_ble_eq_true hn;rw [List.length_map] at this;exact this) (fun B => ?_)
      refine ql (zbr C) F.ann.body Option.none Option.none noY _ _ true noT _ (fun _=>rfl) (Wj _) _ [] p _ _ (fun k f hf=>by cases hf) hr hk ?_
      intro e s Φ q hΦ hr2 h2
      obtain ⟨Φ3,q3,hΦ3,hr3,h3⟩:=qV q hΦ h2 hr2
      cases e with
      | ret=>exact zbs hr3 h3
      | normal=>exact zbs hr3 h3
      | _=>exact h3.elim
    · exact hk.elim
  · exact hk.elim
theorem zbt {α:Type} {R:α→AV} {H:α→List (Nat×Zah)} {n:Nat} (hb:∀ a,Belows n (H a)) {rs:List ARes} {s:St} {q:Zac α} {r:α} (hr:q.run=some r) (h:(zcF R H n rs s q).Ok):∃ x,jn rs s=some x∧Weak ⟨[(0,x)],s.heap,s.next⟩ ⟨[(0,R r)],H r,n⟩:=by
  unfold zcF at h
  split at h
  · cases hr
    split at h
    · rename_i x hx
      obtain ⟨rfl,h1⟩:=h
      have:=(Xs (o:=Option.none) (t:=.tt) (hb _) h1).2
      simp only [List.append_nil,List.nil_append,Qc] at this
      exact ⟨_,hx,this⟩
    · exact h.elim
  · rename_i x y hl a
    cases hr
    split at h
    · rename_i x' hx
      obtain ⟨rfl,rfl,h1⟩:=h
      have hn:n≤s.next:=by
        unfold Qf at h1
        split at h1
        · rename_i hn;exact Nat.le_of_ble_eq_true hn
        · exact h1.elim
      have:=(Xs (o:=Option.none) (t:=.tt) (hb _) h1).2
      simp only [List.append_nil,List.nil_append,Qc] at this
      exact ⟨_,hx,(zhe hl).andThen this hn⟩
    · exact h.elim
  · exact h.elim
theorem Zac.det {f:Nat} {α:Type} {args:List AV} {heap:List (Nat×Zah)} {m d:Nat} {R:α→AV} {H:α→List (Nat×Zah)} (p:Zac α) (b0:Belows m heap) (b1:∀ a,Belows (m+d) (H a)) (k0:(args.all (zO m)&&JE m heap)=true) (k1:∀ a,(zO (m+d) (R a)&&JE m (H a))=true)
    (h:Zz C f args heap m p (ziQ R H (m+d))=(Zz C f args heap m p (ziQ R H (m+d))).norm) {r:α} (hr:p.run=some r):DOk C f args heap m (R r) (H r) d:=by
  have hk:=Tree.ok h
  have k0:=k0;rw [Bool.and_eq_true] at k0
  have k1:=k1 r;rw [Bool.and_eq_true] at k1
  unfold Zz at hk
  split at hk
  · rename_i F hF
    split at hk
    · rename_i hn
      refine DOk.start (F:=F.ann) (Xx hF) (Nat.le_of_ble_eq_true hn) b0 (b1 r) k0.1 k1.1 k0.2 k1.2 (fun B => ?_)
      refine ql (zbr C) F.ann.body Option.none Option.none noY _ _ true noT _ (fun _=>rfl) (Wj _) _ [] p _ _ (fun k f hf=>by cases hf) hr hk ?_
      intro e s Φ q hΦ hr2 h2
      obtain ⟨Φ3,q3,hΦ3,hr3,h3⟩:=qV q hΦ h2 hr2
      cases e with
      | ret=>exact zbt b1 hr3 h3
      | normal=>exact zbt b1 hr3 h3
      | _=>exact h3.elim
    · exact hk.elim
  · exact hk.elim
end
section
section
variable {α β:Type}
def Zac.us:List (Nat×Nat)→Zac α→Zac α
  | [],p=>p
  | (j,k)::l,p=>.use j k (Zac.us l p)
abbrev Zac.sel (key:Nat) (p:Zac α):Zac α:=.use 999 key p
theorem FactsOk.c1 {key:Nat} {o:List Orc} {p:Prop} (h:p) {Φ:zI} (t:FactsOk Φ):FactsOk ((key,(o,[p]))::Φ):=t.add (.cons h .nil)
theorem FactsOk.c2 {key:Nat} {o:List Orc} {p q:Prop} (h:p) (h':q) {Φ:zI} (t:FactsOk Φ):FactsOk ((key,(o,[p,q]))::Φ):=t.add (.cons h (.cons h' .nil))
abbrev Zac.b1 (key:Nat) (x:Option β) (o:β→Orc) {p:β→Prop} (h:∀ v,x=some v→p v) (k:β→Zac α):Zac α:=
  .bind x (fun v=>[(key,([o v],[p v]))]) (fun v hv=>.c1 (h v hv) .nil) k
abbrev Zac.u1 (j key:Nat) (x:Option β) (o:β→Orc) {p:β→Prop} (h:∀ v,x=some v→p v) (k:β→Zac α):Zac α:=
  .bind x (fun v=>[(key,([o v],[p v]))]) (fun v hv=>.c1 (h v hv) .nil) fun v=>.use j key (k v)
abbrev Zac.f1 (key:Nat) (o:Orc) {p:Prop} (h:p) (q:Zac α):Zac α:=.fact key [o] [p] (.cons h .nil) q
abbrev Zac.ix (key:Nat) (row:β→List IV) (l:List β) (n:Int) (k:β→Zac α):Zac α:=
  Zac.b1 key (ze l n) (fun e=>.r (row e)) (fun e h=>zfq row h) k
abbrev Zac.ln (key:Nat) (row:β→List IV) (l:List β) (q:Zac α):Zac α:=Zac.f1 key (.n (l.length:Int)) (zfp row l) q
abbrev Zac.call {C:Ctx} {f:Nat} {ivs:List IV} {x:Option β} {iv:β→IV} (key:Nat) (t:∀ r,x=some r→APure C f ivs (iv r)) (k:β→Zac α):Zac α:=
  Zac.b1 key x (fun r=>.v (iv r)) t k
abbrev Spec.e {β:Type} (ks:List Nat) (ov:β→List (Nat×AV)) (hs:List Nat) (nx:Nat):Spec β:=⟨ks,ov,hs,fun _=>[],nx,fun _=>.nil,fun _=>Option.none⟩
end
def zfB (P:Prop) (t:Tree):List Prop→Tree
  | []=>t
  | p::r=>.eq Prop p P (zfB P t r)
theorem zbu {P:Prop} (hP:P) {t:Tree}:∀ {l:List Prop},(zfB P t l).Ok→t.Ok∧AllP l
  | [],h=>⟨h,.nil⟩
  | p::r,h=>by
    obtain ⟨rfl,h2⟩:=h
    obtain ⟨h3,h4⟩:=zbu hP h2
    exact ⟨h3,.cons hP h4⟩
def zmC (id sz len:Nat) (all rows:List (List IV)) (ks:List Nat) (rowsV:List (List AV)) (hrows:all.map (fun r=>r.map AV.imm)=rowsV) (hD:(all.drop 0).take len=rows):WStep where
  to st:=⟨KL id rows st.env,Qa id rows ks st.heap,st.next⟩
  T st t:=.eq (Option Zah) (za st.heap id) (some (.rows sz rowsV)) (zfB (0=0∧len=len) t (KG id 0 len st.env++KH id 0 len ks st.heap))
  ok st t h:=by
    obtain ⟨h1,h2⟩:=h
    obtain ⟨h3,h4⟩:=zbu ⟨rfl,rfl⟩ h2
    exact ⟨h3,zaZ id sz 0 len all rows ks rowsV h1 hrows hD h4,Nat.le_refl _⟩
abbrev Wn {α:Type} (id sz:Nat) (ks:List Nat) (f:α→List IV) (l:List α) (n:Nat):WStep:=zmC id sz n (l.map f) ((l.take n).map f) ks (zc f l) (V2 f l) (zfs f l n)
def zmD (id sz:Nat) (l m:List (List AV)) (hle:RowsLe l m):WStep where
  to st:=⟨st.env,zo st.heap id (.rows sz m),st.next⟩
  T st t:=.eq (Option Zah) (za st.heap id) (some (.rows sz l)) t
  ok st t h:=⟨h.2,zft id sz l m h.1 hle,Nat.le_refl _⟩
def zmE (t0 sz:Nat):WStep where
  to st:={env:=zo st.env t0 (.Zav st.next []),heap:=qn st.heap st.next (.tip sz 0),next:=st.next+1}
  T st t:=.eq (Option AV) (za st.env t0) (some .nil) t
  ok st t h:=⟨h.2,zfc h.1,Nat.le_succ _⟩
def JJ (id sz' r j:Nat):WStep where
  to st:=match za st.heap id with
    | some (.rows sz rows)=>⟨st.env,zo (qn st.heap st.next (.tip sz' 0)) id (.rows sz (rows.set r ((rows.getD r []).set j (.Zav st.next [])))),st.next+1⟩
    | _=>st
  T st t:=match za st.heap id with
    | some (.rows sz rows)=>match rows[r]? with
      | some row=>.eq (Option AV) row[j]? (some .nil) t
      | none=>.bad 4074
    | _=>.bad 4075
  ok st t h:=by
    split at h
    · rename_i sz rows ho
      split at h
      · rename_i row hr
        obtain ⟨h1,h2⟩:=h
        simp only [ho]
        have:rows.getD r []=row:=by rw [List.getD_eq_getElem?_getD,hr];rfl
        rw [this]
        exact ⟨h2,zdX id sz sz' rows r j row ho hr h1,Nat.le_succ _⟩
      · exact h.elim
    · exact h.elim
def zkr {α:Type} (t id r j i sz':Nat) (f:α→List IV) (l:List α):WStep where
  to st:=match za st.heap id with
    | some (.rows sz rows)=>⟨st.env,zo (zo (qn st.heap st.next (.tip sz' l.length)) i .dead) id (.rows sz (rows.set r ((rows.getD r []).set j (.Zav st.next (l.map f))))),st.next+1⟩
    | _=>st
  T st tr:=match za st.env t with
    | some (.ptr id' a0 b0)=>.eq Nat id' id (match za st.heap id with
      | some (.rows sz rows)=>match rows[r]? with
        | some row=>.eq (Option AV) row[j]? (some (.Zam i 0 l.length)) (.eq (Option Zah) (za st.heap i) (some (.rows sz' (zc f l))) (match Nat.beq i id with
          | true=>.bad 4098
          | false=>tr))
        | none=>.bad 4100
      | _=>.bad 4101)
    | _=>.bad 4102
  ok st tr h:=by
    split at h
    · rename_i id' a0 b0 ht
      obtain ⟨h0,h⟩:=h
      subst h0
      split at h
      · rename_i sz rows ho
        split at h
        · rename_i row hr
          obtain ⟨h1,h2,h3⟩:=h
          split at h3
          · exact h3.elim
          · rename_i hne
            simp only [ho]
            have:rows.getD r []=row:=by rw [List.getD_eq_getElem?_getD,hr];rfl
            rw [this]
            have hw:=zdY (st:=st) t a0 b0 id' sz i sz' rows r j row (l.map f) ht ho hr (by rw [h1,List.length_map]) (by rw [h2,V2]) (fun e=>by subst e;rw [Nat.beq_refl] at hne;cases hne)
            rw [List.length_map] at hw
            exact ⟨h3,hw,Nat.le_succ _⟩
        · exact h.elim
      · exact h.elim
    · exact h.elim
def eqN (a b:Nat):Option (PLift (a=b)):=if h:a=b then some ⟨h⟩ else none
theorem Zac.run_of {α:Type} {p:Zac α} {d:Option α} {r:α} (h:d=some r) (e:d=p.run):p.run=some r:=e ▸ h
end
def zks (P n:Nat):WStep where
  to st:=⟨st.env,zo st.heap P (.rows 1 (qf zA (List.replicate n [])))++xq (List.replicate n []),2000000⟩
  T st t:=.eq (Option Zah) (za st.heap P) (some (.rows 1 (List.replicate n [.nil]))) (match Nat.ble st.next qI with
    | true=>t
    | false=>.bad 5015)
  ok st t h:=by
    obtain ⟨h1,h2⟩:=h
    split at h2
    · rename_i hn
      have hn:=Nat.le_of_ble_eq_true hn
      have hm:qI=999999:=rfl
      exact ⟨h2,zd1 P n h1 hn,by show st.next≤2000000;omega⟩
    · exact h2.elim
def wp (Ls:List (List Int)) (n:Nat) (to i:Int):Option (List (List Int)):=
  if 0≤to∧to < n∧to < 1000000 then match Ls[to.toNat]? with
    | some L=>if (L.length+1)*8≤140737488355328 then some (Ls.set to.toNat (L++[i])) else none
    | none=>none
  else none
def yo:List AItem:=[⟨some 65,.mov (.t 8),none⟩,⟨some 66,.fld 1 (.t 13),none⟩,⟨some 67,.load false 1 (.t 66),none⟩,⟨some 68,.mov (.t 8),none⟩,⟨some 69,.fld 1 (.t 13),none⟩,⟨some 70,.load false 1 (.t 69),none⟩,
  ⟨some 71,.idx 1 (.t 68) (.t 70),none⟩,⟨some 72,.load false 1 (.t 71),none⟩,⟨some 73,.mov (.t 10),none⟩,⟨some 74,.bslice 1 [.imm (.int .i64 0)] 1 [(0,.t 73)],none⟩,⟨some 75,.app 1 8 (.t 72) (.t 74),none⟩,⟨some 76,.idx 1 (.t 65) (.t 67),none⟩,⟨none,.store 1 (.t 76) (.t 75),none⟩]
def ZA:List Nat:=[0,0,2,0,0,16,56,120,0,256,1016,2047,4095]
def zfC (ks:List Nat):ZaC:=.region true ZA yo (some ks)
def ZB (st:St) (ks:List Nat) (P:Nat) (Ls:List (List Int)):St:=⟨qB (ks.filter fun k=>Nat.blt k 65) st.env,zo (kc st.heap) P (.rows 1 (qf zA Ls))++xq Ls,st.next+13⟩
theorem jT {C:CtxY} {ord:List Nat} {K:St→Prop} {dst:Option Nat} {op:AOp} {rest:List AItem} {j:Nat} {W R:List (Nat×Nat)} {st:St} (r:AV) (ups:List (Nat×Zah)) (hc:(match op with | .call _ _=>true | _=>false)=false)
    (he:evalOp op (zd st.env) (za st.heap) st.next=some (r,ups)) (hk:wC ord j W R (z1 ups) (zk op (zd st.env))=true)
    (hn:evd C ord K rest (j+1) (jo j (z1 ups) W) (jo j (zk op (zd st.env)) R) (St.after st dst r ups)):evd C ord K (⟨dst,op,none⟩::rest) j W R st:=by
  rw [zff,zfg]
  have e:∀ KD,dOp C KD st op=qj KD (zk op (zd st.env)) (evalOp op (zd st.env) (za st.heap) st.next):=fun KD=>by
    cases op<;>first | rfl | exact Bool.noConfusion hc
  rw [e,he]
  exact ⟨hk,hn⟩
theorem Zi (ks:List Nat):∀ (env:List (Nat×AV)) (t:Nat),za (qB ks env) t=if ks.contains t then za env t else none
  | [],t=>by simp [qB,za]
  | (k,v)::r,t=>by
    have ih:=Zi ks r t
    simp only [qB,List.filter_cons] at ih ⊢
    by_cases hk:ks.contains k=true
    · rw [if_pos hk]
      simp only [za]
      by_cases e:k=t
      · subst e;rw [if_pos rfl,if_pos rfl,if_pos hk]
      · rw [if_neg e,if_neg e];exact ih
    · rw [if_neg hk,ih]
      by_cases e:k=t
      · subst e;rw [if_neg hk,if_neg hk]
      · simp only [za];rw [if_neg e]
set_option maxHeartbeats 1000000 in
theorem zd5 {C:CtxY} {nt:Fr} {st:St} {P n M:Nat} {i to:Int} {a:AV} {Ls Ls':List (List Int)} {ks:List Nat} {K:Exit→St→Prop}
    (e8:za st.env 8=some (.Zam P 0 n)) (e13:za st.env 13=some (.ptr M 0 0)) (e10:za st.env 10=some (vI i)) (hN:NestH st.heap P Ls) (hM:za st.heap M=some (.rows 2 [[a,vI to]]))
    (hlt:∀ j o,za st.heap j=some o→j < st.next) (ha:wp Ls n to i=some Ls') (h:K .normal (ZB st ks P Ls')):awp C nt (zfC ks) K st:=by
  obtain ⟨env,heap,N⟩:=st
  simp only at e8 e13 e10 hN hM hlt
  unfold wp at ha
  split at ha
  case isFalse=>cases ha
  rename_i hto
  obtain ⟨t0,t1,t2⟩:=hto
  split at ha
  case h_2=>cases ha
  rename_i L hL
  split at ha
  case isFalse=>cases ha
  rename_i hsz
  cases ha
  obtain ⟨k,hk⟩:∃ k:Nat,to=(k:Int):=⟨to.toNat,by omega⟩
  subst hk
  simp only [Int.toNat_natCast] at hL h
  have hk6:k < 1000000:=by omega
  have hkn:k < n:=by omega
  have hq:=hN.tip hL hk6
  have hnb:zA+k < 2000000:=by simp only [zA];omega
  have hrow:(qf zA Ls)[k]?=some [.Zav (zA+k) (L.map zb)]:=by rw [yl,hL,Option.map_some,xH hnb]
  have hPN:=hlt _ _ hN.obj
  have hMN:=hlt _ _ hM
  have hqN:=hlt _ _ hq
  have hPM:P≠M:=fun e=>by have:=hN.obj;rw [e,hM] at this;simp at this
  have hqP:zA+k≠P:=fun e=>by have:=hN.obj;rw [←e,hq] at this;cases this
  have hqM:zA+k≠M:=fun e=>by rw [e] at hq;rw [hM] at hq;cases hq
  refine Xt (ZB ⟨env,heap,N⟩ ks P (Ls.set k (L++[i]))) (by simp [ZB]) h ?_
  refine zha ?_
  have lk:X5 yo=false:=rfl
  rw [lk]
  show evd C _ _ yo 0 [] [] _
  unfold yo
  refine jT (.Zam P 0 n) [] rfl (by simp [evalOp,zd,e8]) rfl ?_
  refine jT (.ptr M 0 1) [] rfl (by simp [St.after,St.put,zF,evalOp,zd,zt,e13,hM]) rfl ?_
  refine jT (vI (k:Int)) [] rfl (by simp [St.after,St.put,zF,evalOp,zd,zt,hM]) rfl ?_
  refine jT (.Zam P 0 n) [] rfl (by simp [St.after,St.put,zF,evalOp,zd,zt,e8]) rfl ?_
  refine jT (.ptr M 0 1) [] rfl (by simp [St.after,St.put,zF,evalOp,zd,zt,e13,hM]) rfl ?_
  refine jT (vI (k:Int)) [] rfl (by simp [St.after,St.put,zF,evalOp,zd,zt,hM]) rfl ?_
  refine jT (.ptr P k 0) [] rfl (by simp [St.after,St.put,zF,evalOp,zd,zt,hN.obj,vI,hkn]) rfl ?_
  refine jT (.Zav (zA+k) (L.map zb)) [] rfl (by simp [St.after,St.put,zF,evalOp,zd,zt,hN.obj,hrow]) rfl ?_
  refine jT (vI i) [] rfl (by simp [St.after,St.put,zF,evalOp,zd,zt,e10]) rfl ?_
  have n1:N+9≠P:=by omega
  have n2:N+9≠M:=by omega
  have n3:N+9≠zA+k:=by omega
  have ev8:∀ x,za (zo env 65 x) 8=some (.Zam P 0 n):=fun x=>by rw [zt,if_neg (by omega)];exact e8
  refine jT (.Zam (N+9) 0 1) [(N+9,.rows 1 [[vI i]])] rfl (by simp [St.after,St.put,zF,evalOp,zd,zt,mapO,cellsOf,vI,jF,qY]) ?_ ?_
  · simp [wC,z1,zk,jo,z6,qN,zd,St.after,St.put,zF,zt,e8,e13,e10,vI,Ne.symm n1,Ne.symm n2]
  refine jT (.Zav (zA+k) (L.map zb++[zb i])) [(zA+k,.tip 1 ((L.map zb).length+1))] rfl ?_ ?_ ?_
  · simp [St.after,St.put,zF,evalOp,zd,zt,qL,Xk,xv,hq,n3,mapO,xP,vI,zb,hsz]
  · simp [wC,z1,zk,jo,z6,qN,zd,St.after,St.put,zF,zt,e8,e13,e10,vI,bef,ZA,Ne.symm hqP,Ne.symm hqM,n3]
  refine jT (.ptr P k 0) [] rfl ?_ ?_ ?_
  · simp [St.after,St.put,zF,evalOp,zd,zt,qL,hqP,n1,hN.obj,vI,hkn]
  · simp [wC,z1,zk,jo,z6,qN,zd,St.after,St.put,zF,zt,e8,e13,e10,vI,bef,ZA]
  refine jT .undef [(P,.rows 1 ((qf zA Ls).set k [.Zav (zA+k) (L.map zb++[zb i])]))] rfl ?_ ?_ ?_
  · simp [St.after,St.put,zF,evalOp,zd,zt,qL,hqP,n1,hN.obj,hrow,cellsOf,qY]
  · simp [wC,z1,zk,jo,z6,qN,zd,St.after,St.put,zF,zt,e8,e13,e10,vI,bef,ZA]
  show Weak ⟨qB ks (zo (zo (zo (zo (zo (zo (zo (zo (zo (zo (zo (zo env 65 _) 66 _) 67 _) 68 _) 69 _) 70 _) 71 _) 72 _) 73 _) 74 _) 75 _) 76 _),qn (qn (qn heap (N+9) _) (zA+k) _) P _,N+13⟩ (ZB ⟨env,heap,N⟩ ks P (Ls.set k (L++[i])))
  refine zfw (fun t x hx => ?_) fun j o hj => ?_
  · rw [Zi] at hx
    split at hx
    · rename_i hc
      rw [List.contains_iff_mem,List.mem_filter] at hc
      have ht:t < 65:=by simpa [Nat.blt_eq] using hc.2
      rw [Zi,if_pos (by simpa using hc.1)]
      simp only [zt]
      rw [if_neg (by omega),if_neg (by omega),if_neg (by omega),if_neg (by omega),if_neg (by omega),if_neg (by omega),if_neg (by omega),if_neg (by omega),if_neg (by omega),if_neg (by omega),if_neg (by omega),if_neg (by omega)]
      exact hx
    · cases hx
  have hset:(qf zA Ls).set k [.Zav (zA+k) (L.map zb++[zb i])]=qf zA (Ls.set k (L++[i])):=by
    rw [←V4 Ls zA k (L++[i]),xH hnb];simp
  simp only [ZB] at hj
  rw [wF,zt] at hj
  simp only [qL]
  by_cases hPj:P=j
  · rw [if_pos hPj] at hj
    rw [if_pos hPj,hset];exact hj
  · rw [if_neg hPj] at hj ⊢
    have keep:∀ o',za heap j=some o'→j≠zA+k→(if zA+k=j then some (Zah.tip 1 ((L.map zb).length+1)) else if N+9=j then some (.rows 1 [[vI i]]) else za heap j)=some o':=fun o' h1 h2=>by
      rw [if_neg (fun e=>h2 e.symm),if_neg (fun e=>by have:=hlt _ _ h1;omega)];exact h1
    cases e:za (kc heap) j with
    | some o'=>
      rw [e,Option.some_or] at hj
      cases hj
      have:=Qb hN.out e
      refine keep _ (by rw [yn,e];rfl) (fun e2 => ?_)
      simp only [zA,qI] at this e2 hnb
      omega
    | none=>
      rw [e,Option.none_or,wn] at hj
      split at hj
      · rename_i ej
        cases hj
        refine keep _ ?_ (by rw [ej];simp only [qI,zA];omega)
        rw [yn,e,hN.tail,Option.none_or,wn,if_pos ej]
      · split at hj
        · rename_i ej
          by_cases ejk:j=zA+k
          · subst ejk
            rw [show zA+k - zA=k by omega,List.getElem?_set_self (List.getElem?_eq_some_iff.1 hL).1] at hj
            simp only [Option.map_some,Option.some.injEq] at hj
            subst hj
            rw [if_pos rfl];simp
          · rw [List.getElem?_set_ne (by omega)] at hj
            obtain ⟨L2,hL2,rfl⟩:=Option.map_eq_some_iff.1 hj
            refine keep _ ?_ ejk
            have:=hN.tip hL2 (by have:=ej.2;simp only [zA];omega)
            rw [show zA+(j - zA)=j by omega] at this
            exact this
        · cases hj
theorem zhh {C:CtxY} {nt:Fr} {c:ZaC} {K:Exit→St→Prop} {st:St} (h:∀ g a w,Rel C nt g st a w→awp C nt c K st):awp C nt c K st:=fun code hc g a w R I=>h g a w R code hc g a w R I
def zkt (P n M:Nat) (i to:Int) (a:AV) (Ls:List (List Int)):MStep (List (List Int)) where
  x:=wp Ls n to i
  T c st k:=match c with
    | .region true o items (some ks)=>.eq (List Nat) o ZA (.eq (List AItem) items yo (.eq (Option AV) (za st.env 8) (some (.Zam P 0 n)) (.eq (Option AV) (za st.env 13) (some (.ptr M 0 0)) (.eq (Option AV) (za st.env 10) (some (vI i))
      (.eq (Option Zah) (za st.heap P) (some (.rows 1 (qf zA Ls))) (.eq (Option Zah) (za st.heap M) (some (.rows 2 [[a,vI to]])) (.eq (List (Nat×Zah)) (kN st.heap) (xq Ls)
      (match vl st.heap with
      | true=>.all (List (List Int)) fun b=>k b (ZB st ks P b)
      | false=>.bad 5110))))))))
    | _=>.bad 5111
  ok C nt c st k K b hb hT hK:=by
    split at hT
    · rename_i o items ks
      obtain ⟨rfl,rfl,h8,h13,h10,hP,hM,ht,h1⟩:=hT
      split at h1
      · rename_i ho
        refine zhh fun g a' w R => ?_
        exact zd5 h8 h13 h10 ⟨hP,ht,ho⟩ hM (fun j o hj=>R.heap.key j o hj) hb (hK _ (h1 b))
      · exact h1.elim
    · exact hT.elim
end Go.Proofs.YtmoedieenlaegaaGreatDoor
namespace Go.Proofs.YtmoedieenlaegaaGreatDoor
open Go.RowKit
set_option linter.unusedSimpArgs false
set_option linter.unusedVariables false
set_option maxRecDepth 100000
section
structure Ratio where
  num:Int
  den:Int
  deriving Inhabited,DecidableEq
def Ratio.row (x:Ratio):List IV:=[.int .i64 x.num,.int .i64 x.den]
def Ratio.iv (x:Ratio):IV:=.agg x.row
structure Zau where
  name:ByteArray
  kind:Int
  base:Int
  factor:Ratio
  deriving Inhabited,DecidableEq
def Zau.row (x:Zau):List IV:=[.str x.name,.int .i64 x.kind,.int .i64 x.base,.int .i64 x.factor.num,.int .i64 x.factor.den]
def Zau.iv (x:Zau):IV:=.agg x.row
structure Zar where
  kind:Int
  Zax:Int
  give:Int
  to:Int
  unit:Int
  lot:Ratio
  deriving Inhabited,DecidableEq
def Zar.row (x:Zar):List IV:=[.int .i64 x.kind,.int .i64 x.Zax,.int .i64 x.give,.int .i64 x.to,.int .i64 x.unit,.int .i64 x.lot.num,.int .i64 x.lot.den]
def Zar.iv (x:Zar):IV:=.agg x.row
structure CondT where
  clause:Int
  is:Int
  deriving Inhabited,DecidableEq
def CondT.row (x:CondT):List IV:=[.int .i64 x.clause,.int .i64 x.is]
def CondT.iv (x:CondT):IV:=.agg x.row
structure Zan where
  kind:Int
  Zax:Int
  act:Int
  need:Int
  start:List CondT
  after:Int
  ZaA:Int
  business:Bool
  final:Bool
  pause:Int
  ZaG:Int
  value:Ratio
  unit:Int
  to:Int
  waived:Bool
  deriving Inhabited,DecidableEq
def Zan.row (x:Zan):List IV:=[.int .i64 x.kind,.int .i64 x.Zax,.int .i64 x.act,.int .i64 x.need,.slice (List.map CondT.row x.start),.int .i64 x.after,.int .i64 x.ZaA,.bool x.business,.bool x.final,.int .i64 x.pause,.int .i64 x.ZaG,.int .i64 x.value.num,.int .i64 x.value.den,.int .i64 x.unit,.int .i64 x.to,.bool x.waived]
def Zan.iv (x:Zan):IV:=.agg x.row
structure Zaa where
  Zal:Int
  Zad:List Int
  Zap:List Zau
  Zaj:List Zar
  Zaf:List Zan
  Zas:Int
  off:List Int
  deriving Inhabited,DecidableEq
def Zaa.row (x:Zaa):List IV:=[.int .i64 x.Zal,.slice (List.map zb x.Zad),.slice (List.map Zau.row x.Zap),.slice (List.map Zar.row x.Zaj),.slice (List.map Zan.row x.Zaf),.int .i64 x.Zas,.slice (List.map zb x.off)]
def Zaa.iv (x:Zaa):IV:=.agg x.row
structure zw where
  Zak:Int
  left:Int
  got:Int
  Zaq:Int
  Zat:Bool
  deriving Inhabited,DecidableEq
def zw.row (x:zw):List IV:=[.int .i64 x.Zak,.int .i64 x.left,.int .i64 x.got,.int .i64 x.Zaq,.bool x.Zat]
def zw.iv (x:zw):IV:=.agg x.row
structure Zao where
  day:Int
  Zad:List Int
  used:List Bool
  Zag:List zw
  deriving Inhabited,DecidableEq
def Zao.row (x:Zao):List IV:=[.int .i64 x.day,.slice (List.map zb x.Zad),.slice (List.map zg x.used),.slice (List.map zw.row x.Zag)]
def Zao.iv (x:Zao):IV:=.agg x.row
structure Zae where
  state:Zao
  own:Bool
  deriving Inhabited,DecidableEq
def Zae.row (x:Zae):List IV:=[.int .i64 x.state.day,.slice (List.map zb x.state.Zad),.slice (List.map zg x.state.used),.slice (List.map zw.row x.state.Zag),.bool x.own]
def Zae.iv (x:Zae):IV:=.agg x.row
structure Zaw where
  step:Int
  to:Int
  deriving Inhabited,DecidableEq
def Zaw.row (x:Zaw):List IV:=[.int .i64 x.step,.int .i64 x.to]
def Zaw.iv (x:Zaw):IV:=.agg x.row
structure ZaF where
  Zab:Int
  Zay:List Zae
  moves:List (List Zaw)
  deriving Inhabited,DecidableEq
def ZaF.row (x:ZaF):List IV:=[.int .i64 x.Zab,.slice (List.map Zae.row x.Zay),.slice (List.map (qK Zaw.row) x.moves)]
def ZaF.iv (x:ZaF):IV:=.agg x.row
structure AdviceT where
  safe:Bool
  move:Int
  wait:Int
  deriving Inhabited,DecidableEq
def AdviceT.row (x:AdviceT):List IV:=[.bool x.safe,.int .i64 x.move,.int .i64 x.wait]
def AdviceT.iv (x:AdviceT):IV:=.agg x.row
structure ZaE where
  Zai:Zae
  move:Int
  deriving Inhabited,DecidableEq
def ZaE.row (x:ZaE):List IV:=[.int .i64 x.Zai.state.day,.slice (List.map zb x.Zai.state.Zad),.slice (List.map zg x.Zai.state.used),.slice (List.map zw.row x.Zai.state.Zag),.bool x.Zai.own,.int .i64 x.move]
def ZaE.iv (x:ZaE):IV:=.agg x.row
structure ZaD where
  Zab:Int
  rows:List ZaE
  deriving Inhabited,DecidableEq
def ZaD.row (x:ZaD):List IV:=[.int .i64 x.Zab,.slice (List.map ZaE.row x.rows)]
def ZaD.iv (x:ZaD):IV:=.agg x.row
structure Zaz where
  Zai:Zae
  rank:Int
  move:Int
  deriving Inhabited,DecidableEq
def Zaz.row (x:Zaz):List IV:=[.int .i64 x.Zai.state.day,.slice (List.map zb x.Zai.state.Zad),.slice (List.map zg x.Zai.state.used),.slice (List.map zw.row x.Zai.state.Zag),.bool x.Zai.own,.int .i64 x.rank,.int .i64 x.move]
def Zaz.iv (x:Zaz):IV:=.agg x.row
structure ZaB where
  Zab:Int
  rows:List Zaz
  deriving Inhabited,DecidableEq
def ZaB.row (x:ZaB):List IV:=[.int .i64 x.Zab,.slice (List.map Zaz.row x.rows)]
def ZaB.iv (x:ZaB):IV:=.agg x.row
structure ZaH where
  s:ZaD
  deriving Inhabited,DecidableEq
def ZaH.row (x:ZaH):List IV:=[.int .i64 x.s.Zab,.slice (List.map ZaE.row x.s.rows)]
def ZaH.iv (x:ZaH):IV:=.agg x.row
structure DoomW where
  d:ZaB
  deriving Inhabited,DecidableEq
def DoomW.row (x:DoomW):List IV:=[.int .i64 x.d.Zab,.slice (List.map Zaz.row x.d.rows)]
def DoomW.iv (x:DoomW):IV:=.agg x.row
attribute [simp] Ratio.row Zau.row Zar.row CondT.row Zan.row Zaa.row zw.row Zao.row Zae.row Zaw.row ZaF.row AdviceT.row ZaE.row ZaD.row Zaz.row ZaB.row ZaH.row DoomW.row
end
end Go.Proofs.YtmoedieenlaegaaGreatDoor
namespace Go.Proofs.YtmoedieenlaegaaGreatDoor
open Go.RowKit
def xI : String := "internal/strconv.uint64pow10"
noncomputable def zcG:Tabs where
  p w:=Lib.TabIs Tryz.prog w xI .u64 Lib.pow10Tab
  n:=(Tryz.prog.globalNamed xI).getD 0+1
  ok w w' h hp:=by
    unfold Lib.TabIs World.var? at *
    cases hg:Tryz.prog.globalNamed xI with
    | none=>rw [hg] at hp;cases hp
    | some g=>
      rw [hg] at hp
      simp only [ZaT] at hp ⊢
      have:=h g (by rw [hg];simp)
      rw [this];exact hp
theorem zcH {w:World} (h:zcG.p w):zcG.n≤w.heap.size:=by
  have h':w.var? Tryz.prog xI=some (Lib.pow10Tab.map fun z=>Value.int .u64 z).toArray:=h
  unfold World.var? at h'
  show (Tryz.prog.globalNamed xI).getD 0+1≤_
  cases hg:Tryz.prog.globalNamed xI with
  | none=>rw [hg] at h';cases h'
  | some g=>
    rw [hg] at h'
    simp only [ZaT] at h'
    split at h'
    · rename_i h2
      have:=(Array.getElem?_eq_some_iff.1 h2).1
      simp only [Option.getD_some];omega
    · cases h'
end Go.Proofs.YtmoedieenlaegaaGreatDoor
namespace Go.Proofs.YtmoedieenlaegaaGreatDoor
open Go.RowKit
set_option linter.unusedSimpArgs false
set_option linter.unusedVariables false
set_option maxRecDepth 100000
noncomputable def C0:Ctx:=⟨Tryz.prog,[0,0,0,0,0,0,0,0,56,0,0,165,0,0,0,0,0,0,0,76,77,0,0,0,0,0,192,0,191,0,0,0,0,0,57,0,0,0,117,0,95,96,97,98,99,100,101,102,0,196,195,0,139,140,123,124,163,143,144,145,90,115,138,114,116,119,118,141,122,58,89,120,30,15,23,28,0,49,51,71,48,50,68,70,0,0,0,0,0,0,0,0,0,54,34,27,0,14,0,73,31,72,55,121,75,142,74,94,88,113,160,136,137,161,158,135,134,159,162,167,168,66,67,92,93,91,69,0,0,0,0,0,0,16,38,39,37,40,24,35,36,29,0,0,0,0,0,0,0,0,0,0,0,0,0,0,0,0,0,0,0,0,0,0,0,0,0,0,0,0,0,0,0,0,0,0,0,0,0,0,0,0,0,0,0,0,0,0,0,0,0,0,0,0,0,0,0,0,0,0,0,0,0,0,0,0,0,0,0,0,0,0,0,0,129,148,149,146,147,128,104,130,194,201,190,197,202,198,199,200,186,193,187,188,189,4,7,6,11,10,9,5,8,41,18,17,169,166,170,150,164,153,155,151,154,110,152,133,157,132,156,107,44,105,62,111,112,108,63,64,84,109,82,131,85,86,106,87,83,45,43,65,61,22,20,47,46,12,3,32,33,13,59,103,125,127,78,79,21,19,26,25,42,53,52,60,80,81],zcG,[105,108]⟩
end Go.Proofs.YtmoedieenlaegaaGreatDoor
namespace Go.Proofs.YtmoedieenlaegaaGreatDoor
open Go.RowKit Go.ChangeShapes Go.WideShapes
set_option linter.unusedSimpArgs false
set_option linter.unusedVariables false
section
inductive CTy where
  | bool
  | int (k:IntKind)
  | str
  | slice (by_:Nat) (row:List CTy)
inductive HasC:CTy→IV→Prop where
  | bool (b:Bool):HasC .bool (.bool b)
  | int (k:IntKind) (n:Int) (h:k.min≤n∧n≤k.max):HasC (.int k) (.int k n)
  | str (s:ByteArray) (h:s.size≤reachBytes):HasC .str (.str s)
  | slice (by_:Nat) (tys:List CTy) (rows:List (List IV)) (hl:rows.length*by_≤reachBytes) (hr:∀ row∈rows,row.length=tys.length)
      (hc:∀ row∈rows,∀ (i:Nat) (t:CTy) (c:IV),tys[i]?=some t→row[i]?=some c→HasC t c):HasC (.slice by_ tys) (.slice rows)
def HasCs (tys:List CTy) (row:List IV):Prop:=row.length=tys.length∧∀ (i:Nat) (t:CTy) (c:IV),tys[i]?=some t→row[i]?=some c→HasC t c
def ZC (P:Program) (f:TypeId→Option (List CTy)):Nat→List Field→Option (List CTy)
  | _,[]=>some []
  | off,x::r=>if x.offset=off then match f x.type with
      | some a=>if a.length=P.cellsOf x.type then match ZC P f (off+a.length) r with
          | some b=>some (a++b)
          | none=>none
        else none
      | none=>none
    else none
def Xz (P:Program):Nat→TypeId→Option (List CTy)
  | 0,_=>none
  | n+1,t=>match P.underlying t with
    | some .bool=>some [.bool]
    | some (.int k)=>some [.int k]
    | some .string=>some [.str]
    | some (.slice e)=>match Xz P n e with
      | some r=>if r.length=P.cellsOf e∧0 < r.length then some [.slice (P.bytesOf e) r] else none
      | none=>none
    | some (.struct fs)=>match ZC P (Xz P n) 0 fs.toList with
      | some r=>if r.length=P.cellsOf t then some r else none
      | none=>none
    | _=>none
def zOf (w:World) (b:Nat):Nat:=match w.heap[b]? with
  | some (.cells c _ _)=>c.size
  | _=>0
theorem ziR {w:World} {b:Nat} (h:0 < zOf w b):b < w.heap.size:=by
  unfold zOf at h
  split at h
  · rename_i c t f e;exact (Array.getElem?_eq_some_iff.1 e).1
  · omega
theorem zd6 {w:World} {b off:Nat} {s:Option Nat} {v:Value} (h:w.cell? ⟨b,off,s⟩=some v):s=none∧off < zOf w b:=by
  unfold World.cell? at h
  unfold zOf
  simp only at h
  split at h
  · rename_i c t f e
    rw [e]
    cases s with
    | some _=>simp at h
    | none=>simp at h;exact ⟨rfl,(Array.getElem?_eq_some_iff.1 h).1⟩
  · cases h
theorem Vm {α β:Type} {f:α→Option β}:∀ {l:List α} {ys:List β},l.mapM f=some ys→ys.length=l.length∧∀ (i:Nat) (x:α),l[i]?=some x→∃ y,ys[i]?=some y∧f x=some y
  | [],ys,h=>by
    simp at h;subst h;exact ⟨rfl,fun i x hx=>by simp at hx⟩
  | a::l,ys,h=>by
    rw [List.mapM_cons] at h
    simp only [Option.bind_eq_bind,Option.bind_eq_some_iff,Option.pure_def,Option.some.injEq] at h
    obtain ⟨y,hy,r,hr,rfl⟩:=h
    obtain ⟨h1,h2⟩:=Vm hr
    refine ⟨by simp [h1],fun i x hx => ?_⟩
    cases i with
    | zero=>simp at hx;subst hx;exact ⟨y,rfl,hy⟩
    | succ i=>exact h2 i x (by simpa using hx)
theorem RCs.app {Z:Nat→Nat} {w:World} {a b:List IV} {x y:List Value} (h1:RCs Z w a x) (h2:RCs Z w b y):RCs Z w (a++b) (x++y):=by
  refine ⟨by simp [h1.1,h2.1],fun j c u hc hu => ?_⟩
  rcases Nat.lt_or_ge j a.length with h | h
  · rw [List.getElem?_append_left h] at hc
    rw [List.getElem?_append_left (by rw [←h1.1];exact h)] at hu
    exact h1.2 j c u hc hu
  · rw [List.getElem?_append_right h] at hc
    rw [List.getElem?_append_right (by rw [←h1.1];exact h),←h1.1] at hu
    exact h2.2 _ c u hc hu
theorem HasCs.app {a b:List CTy} {x y:List IV} (h1:HasCs a x) (h2:HasCs b y):HasCs (a++b) (x++y):=by
  refine ⟨by simp [h1.1,h2.1],fun j c u hc hu => ?_⟩
  rcases Nat.lt_or_ge j a.length with h | h
  · rw [List.getElem?_append_left h] at hc
    rw [List.getElem?_append_left (by rw [h1.1];exact h)] at hu
    exact h1.2 j c u hc hu
  · rw [List.getElem?_append_right h] at hc
    rw [List.getElem?_append_right (by rw [h1.1];exact h),h1.1] at hu
    exact h2.2 _ c u hc hu
theorem RCs.one {Z:Nat→Nat} {w:World} {a:IV} {x:Value} (h:RI Z w a x):RCs Z w [a] [x]:=⟨rfl,fun j c u hc hu=>by
  cases j with
  | zero=>simp at hc hu;subst hc;subst hu;exact h
  | succ j=>simp at hc⟩
theorem HasCs.one {t:CTy} {a:IV} (h:HasC t a):HasCs [t] [a]:=⟨rfl,fun j c u hc hu=>by
  cases j with
  | zero=>simp at hc hu;subst hc;subst hu;exact h
  | succ j=>simp at hc⟩
section
variable {H:Type} {enc:TypeId×Value→H} {P:Program} {w:World}
def Got (w:World) (tys:List CTy) (cs:List Value):Prop:=∃ row,RCs (zOf w) w row cs∧HasCs tys row∧∀ v∈cs,v.oneCell'=true
theorem Wo {fuel:Nat} {f:TypeId→Option (List CTy)} {cs:List Value}
    (ih:∀ t cs d ps tys,f t=some tys→DataW.trod enc P w 0 (fun _=>true) true fuel t cs=some (d,ps)→(d.weights P t).all (· ≤ reachBytes)=true→Got w tys cs) :
    ∀ (fs:List Field) (off:Nat) (xs:List (DataW H×List MemPlace)) (r:List CTy),ZC P f off fs=some r →
      (fs.mapM fun x=>DataW.trod enc P w 0 (fun _=>true) true fuel x.type ((cs.drop x.offset).take (P.cellsOf x.type)))=some xs →
      (DataW.weightsEach P (fs.map (·.type)) (xs.map (·.1))).all (· ≤ reachBytes)=true→Got w r ((cs.drop off).take r.length)
  | [],off,xs,r,h1,h2,h3=>by
    simp only [ZC,Option.some.injEq] at h1
    subst h1
    exact ⟨[],⟨by simp,fun j c u hc=>by simp at hc⟩,⟨rfl,fun j c u hc=>by simp at hc⟩,fun v hv=>by simp at hv⟩
  | x::fs,off,xs,r,h1,h2,h3=>by
    simp only [ZC] at h1
    split at h1
    case isFalse=>cases h1
    rename_i hoff
    split at h1
    case h_2=>cases h1
    rename_i a ha
    split at h1
    case isFalse=>cases h1
    rename_i hlen
    split at h1
    case h_2=>cases h1
    rename_i b hb
    cases h1
    rw [List.mapM_cons] at h2
    simp only [Option.bind_eq_bind,Option.bind_eq_some_iff,Option.pure_def,Option.some.injEq] at h2
    obtain ⟨y,hy,ys,hys,rfl⟩:=h2
    simp only [List.map_cons,DataW.weightsEach,List.all_append,Bool.and_eq_true] at h3
    obtain ⟨r1,g1,g2,g3⟩:=ih _ _ _ _ _ ha hy h3.1
    obtain ⟨r2,k1,k2,k3⟩:=Wo ih fs (off+a.length) ys b hb hys h3.2
    rw [←hlen,hoff] at g1 g3
    have hsplit:(cs.drop off).take (a++b).length=(cs.drop off).take a.length++(cs.drop (off+a.length)).take b.length:=by
      rw [List.length_append,List.take_add,List.drop_drop]
    refine ⟨r1++r2,?_,g2.app k2,?_⟩
    · rw [hsplit];exact g1.app k1
    · rw [hsplit];intro v hv
      rcases List.mem_append.1 hv with hv | hv
      · exact g3 v hv
      · exact k3 v hv
theorem Xd {e:TypeId}:∀ {l:List (DataW H)},(DataW.weightsAll P e l).all (· ≤ reachBytes)=true→∀ d∈l,(d.weights P e).all (· ≤ reachBytes)=true
  | [],_,d,hd=>by cases hd
  | x::l,h,d,hd=>by
    simp only [DataW.weightsAll,List.all_append,Bool.and_eq_true] at h
    rcases List.mem_cons.1 hd with rfl | hd
    · exact h.1
    · exact Xd h.2 d hd
theorem K1 {a:Addr} {n:Nat} {cs:List Value} (h:w.cells? 0 a n=some cs):cs.length=n∧∀ j v,cs[j]?=some v→w.cell? (a.add j)=some v:=by
  unfold World.cells? at h
  rw [if_pos (Nat.zero_le _)] at h
  obtain ⟨h1,h2⟩:=Vm h
  refine ⟨by simpa using h1,fun j v hv => ?_⟩
  have hj:j < n:=by
    have:=(List.getElem?_eq_some_iff.1 hv).1
    simpa [h1] using this
  obtain ⟨y,hy,e⟩:=h2 j j (by simp [hj])
  rw [hv] at hy;cases hy;exact e
theorem zd7 {a:Addr} {len cap sz by_:Nat} {r:List CTy} (hr:r.length=sz) (hpos:0 < sz) (hcap:len≤cap) (hb:len*by_≤reachBytes)
    (hel:∀ i,i < len→∃ cs,w.cells? 0 (a.add (i*sz)) sz=some cs∧Got w r cs):Got w [.slice by_ r] [.slice (some a) len cap]:=by
  have hrow:∀ i:Nat,∃ row:List IV,i < len→∃ cs,w.cells? 0 (a.add (i*sz)) sz=some cs∧RCs (zOf w) w row cs∧HasCs r row∧∀ v∈cs,v.oneCell'=true:=fun i=>by
    by_cases hi:i < len
    · obtain ⟨cs,h1,row,h2,h3,h4⟩:=hel i hi
      exact ⟨row,fun _=>⟨cs,h1,h2,h3,h4⟩⟩
    · exact ⟨[],fun h=>absurd h hi⟩
  obtain ⟨R,hR⟩:=Classical.axiomOfChoice hrow
  have hget:∀ (i:Nat) (row:List IV),((List.range len).map R)[i]?=some row→i < len∧row=R i:=fun i row h=>by
    simp only [List.getElem?_map,Option.map_eq_some_iff] at h
    obtain ⟨k,hk,rfl⟩:=h
    obtain ⟨h1,h2⟩:=List.getElem?_eq_some_iff.1 hk
    simp at h1 h2
    subst h2
    exact ⟨h1,rfl⟩
  have hmem:∀ row∈(List.range len).map R,HasCs r row:=fun row h=>by
    obtain ⟨i,hi⟩:=List.mem_iff_getElem?.1 h
    obtain ⟨h1,rfl⟩:=hget i row hi
    obtain ⟨cs,_,_,h2,_⟩:=hR i h1
    exact h2
  refine ⟨[.slice ((List.range len).map R)],.one ?_,.one (.slice _ _ _ (by simpa using hb) (fun row h=>(hmem row h).1) (fun row h=>(hmem row h).2)),fun v hv=>by simp at hv;subst hv;rfl⟩
  rcases Nat.eq_zero_or_pos len with h0 | h0
  · subst h0;exact .empty a cap
  · obtain ⟨b,off,spot⟩:=a
    have hs:spot=none:=by
      obtain ⟨cs,h1,_⟩:=hR 0 h0
      obtain ⟨h2,h3⟩:=K1 h1
      have hc:=h3 0 _ (List.getElem?_eq_getElem (by omega))
      rw [Nat.zero_mul] at hc
      exact (zd6 (s:=spot) (off:=off) hc).1
    subst hs
    have hcell:∀ (i:Nat) (row:List IV) (j:Nat) (c:IV),((List.range len).map R)[i]?=some row→row[j]?=some c→∃ v,w.cell? ⟨b,off+i*sz+j,none⟩=some v∧v.oneCell'=true∧RI (zOf w) w c v:=fun i row j c hi hj=>by
      obtain ⟨h1,rfl⟩:=hget i row hi
      obtain ⟨cs,h2,h3,h4,h5⟩:=hR i h1
      obtain ⟨h6,h7⟩:=K1 h2
      have hjl:j < cs.length:=by rw [←h3.1];exact (List.getElem?_eq_some_iff.1 hj).1
      have hcs:=List.getElem?_eq_getElem hjl
      exact ⟨cs[j],by have:=h7 j _ hcs;rwa [qE,qE] at this,h5 _ (List.getElem_mem hjl),h3.2 j c _ hj hcs⟩
    have:=RI.slice (Z:=zOf w) (w:=w) ((List.range len).map R) b off cap sz (fun i j=>(w.cell? ⟨b,off+i*sz+j,none⟩).getD undef) (by simpa using hcap)
      (fun i row hi=>by obtain ⟨h1,rfl⟩:=hget i row hi;obtain ⟨_,_,_,h2,_⟩:=hR i h1;rw [h2.1,hr])
      (fun i row j c hi hj=>by obtain ⟨v,h1,_⟩:=hcell i row j c hi hj;exact (zd6 h1).2)
      (fun i row j c hi hj=>by obtain ⟨v,h1,h2,_⟩:=hcell i row j c hi hj;rw [h1];exact ⟨rfl,h2⟩)
      (fun i row j c hi hj=>by obtain ⟨v,h1,h2,h3⟩:=hcell i row j c hi hj;rw [h1];exact h3)
    simpa using this
theorem Qg:∀ (n fuel:Nat) (t:TypeId) (cs:List Value) (d:DataW H) (ps:List MemPlace) (tys:List CTy),Xz P n t=some tys→DataW.trod enc P w 0 (fun _=>true) true fuel t cs=some (d,ps) →
    (d.weights P t).all (· ≤ reachBytes)=true→Got w tys cs
  | 0,_,_,_,_,_,_,h,_,_=>by simp [Xz] at h
  | n+1,0,_,_,_,_,_,_,h,_=>by simp [DataW.trod] at h
  | n+1,fuel+1,t,cs,d,ps,tys,h,ht,hw=>by
    simp only [Xz] at h
    split at h
    · rename_i hu
      cases h
      simp only [DataW.trod,hu] at ht
      split at ht<;>first | (simp_all;done) | skip
      all_goals first
        | (rename_i b _;exact ⟨[.bool b],.one (.bool b),.one (.bool b),fun v hv=>by simp at hv;subst hv;rfl⟩)
        | skip
    · rename_i k hu
      cases h
      simp only [DataW.trod,hu] at ht
      split at ht<;>first | (simp_all;done) | skip
      all_goals
        rename_i k1 k' m e1
        cases e1
        split at ht
        case isFalse=>cases ht
        rename_i hk
        obtain ⟨rfl,hwf⟩:=hk
        exact ⟨[.int _ m],.one (.int _ m),.one (.int _ m (by simpa [Lit.wf] using hwf)),fun v hv=>by simp at hv;subst hv;rfl⟩
    · rename_i hu
      cases h
      simp only [DataW.trod,hu] at ht
      split at ht<;>first | (simp_all;done) | skip
      all_goals
        rename_i s _
        split at ht
        case isFalse=>cases ht
        cases ht
        refine ⟨[.str s],.one (.str s),.one (.str s ?_),fun v hv=>by simp at hv;subst hv;rfl⟩
        simpa [DataW.weights] using hw
    · rename_i e hu
      split at h
      case h_2=>cases h
      rename_i r hr
      split at h
      case isFalse=>cases h
      rename_i hlen
      cases h
      simp only [DataW.trod,hu] at ht
      split at ht<;>first | (simp_all;done) | skip
      · cases ht
        exact ⟨[.slice []],.one .nil,.one (.slice _ _ _ (by simp) (fun row h=>by simp at h) (fun row h=>by simp at h)),fun v hv=>by simp at hv;subst hv;rfl⟩
      · rename_i e' a len cap e1
        cases e1
        split at ht
        case isFalse=>cases ht
        rename_i hcond
        simp only [Option.bind_eq_some_iff,Option.map_eq_some_iff] at ht
        obtain ⟨elems,hel,rest,hrest,heq⟩:=ht
        simp only [Prod.mk.injEq] at heq
        obtain ⟨rfl,_⟩:=heq
        simp only [DataW.weights,hu,List.all_cons,List.all_append,Bool.and_eq_true,decide_eq_true_eq] at hw
        obtain ⟨hw1,hw2,hw3⟩:=hw
        obtain ⟨hl,hat⟩:=Vm hel
        simp only [List.length_range,List.length_map] at hl hw1
        refine zd7 hlen.1 (by omega) hcond.2.1 (Nat.le_trans (Nat.mul_le_mul_right _ (by omega)) hw1) fun i hi => ?_
        obtain ⟨y,hy1,hy2⟩:=hat i i (by simp [hi])
        simp only [Option.bind_eq_some_iff] at hy2
        obtain ⟨cs',hc1,hc2⟩:=hy2
        exact ⟨cs',hc1,Qg n fuel e cs' y.1 y.2 r hr hc2 (Xd hw2 _ (List.mem_map.2 ⟨y,List.mem_of_getElem? hy1,rfl⟩))⟩
    · rename_i fs hu
      split at h
      case h_2=>cases h
      rename_i r0 hr
      split at h
      case isFalse=>cases h
      rename_i hlen
      obtain rfl:r0=tys:=Option.some.inj h
      simp only [DataW.trod,hu] at ht
      split at ht
      case isFalse=>cases ht
      rename_i hcl
      simp only [Option.map_eq_some_iff] at ht
      obtain ⟨xs,hxs,heq⟩:=ht
      simp only [Prod.mk.injEq] at heq
      obtain ⟨rfl,_⟩:=heq
      simp only [DataW.weights,hu] at hw
      have:=Wo (fun t cs d ps tys h1 h2 h3=>Qg n fuel t cs d ps tys h1 h2 h3) fs.toList 0 xs r0 hr hxs hw
      rw [hlen,←hcl,List.drop_zero,List.take_length] at this
      exact this
    · cases h
end
end
section
def K3 (P:Program) (t:TypeId):Option (Bool×List CTy):=match P.underlying t with
  | some (.struct _)=>match Xz P 12 t with
    | some r=>some (true,r)
    | none=>none
  | some (.array _ _)=>none
  | _=>match Xz P 12 t with
    | some r=>some (false,r)
    | none=>none
def zd8:Bool×List CTy→IV→Prop
  | (true,tys),x=>∃ row,x=.agg row∧HasCs tys row
  | (false,tys),x=>HasCs tys [x]
def JK:List (Bool×List CTy)→List IV→Prop
  | [],[]=>True
  | a::tas,x::xs=>zd8 a x∧JK tas xs
  | _,_=>False
section
variable {H:Type} {enc:TypeId×Value→H} {P:Program} {w:World}
theorem zfD {base:Nat} {t:TypeId} {v:Value} {d:DataW H} {ps:List MemPlace} {a:Bool×List CTy} (ha:K3 P t=some a) (hval:Value.okWide P w .any base t v)
    (h:DataW.Trod enc P w 0 (fun _=>true) true t v d ps) (hw:(d.weights P t).all (· ≤ reachBytes)=true):∃ x,RI (zOf w) w x v∧zd8 a x:=by
  obtain ⟨fuel,hf⟩:=h
  unfold K3 at ha
  split at ha
  · rename_i fs hu
    split at ha
    case h_2=>cases ha
    rename_i r hr
    cases ha
    simp only [Value.okWide,hu] at hval
    obtain ⟨cs,rfl,_,_⟩:=hval
    obtain ⟨row,h1,h2,h3⟩:=Qg 12 fuel t _ d ps r hr hf hw
    refine ⟨.agg row,?_,row,rfl,h2⟩
    have:=RI.agg (Z:=zOf w) (w:=w) row cs.toList (by simpa [Value.cells] using h1.1) (fun v hv=>h3 v (by simpa [Value.cells] using hv)) (fun i c v hc hv=>h1.2 i c v hc (by simpa [Value.cells] using hv))
    simpa using this
  · cases ha
  · rename_i hns hna
    split at ha
    case h_2=>cases ha
    rename_i r hr
    cases ha
    have hone:v.oneCell'=true:=by
      have hc:Cell.okWide P w .any base t v:=by
        unfold Value.okWide at hval
        split at hval
        · rename_i fs hu;exact absurd hu (hns fs)
        · rename_i k e hu;exact absurd hu (hna k e)
        · exact hval
      cases v<;>first | rfl | (exfalso;revert hc;unfold Cell.okWide Cell.ok;cases P.underlying t with
        | none=>simp
        | some u=>cases u<;>simp)
    have hcs:v.cells.toList=[v]:=by cases v<;>first | rfl | simp [Value.oneCell'] at hone
    obtain ⟨row,h1,h2,h3⟩:=Qg 12 fuel t _ d ps r hr hf hw
    rw [hcs] at h1
    obtain ⟨x,rfl⟩:∃ x,row=[x]:=List.length_eq_one_iff.1 (by simpa using h1.1)
    exact ⟨x,h1.2 0 x v rfl rfl,h2⟩
theorem V9 {base:Nat}:∀ {ts:List TypeId} {vs:List Value} {ds:List (DataW H)} {ps:List MemPlace} {tas:List (Bool×List CTy)},mapO (K3 P) ts=some tas →
    (∀ (j:Nat) t v,ts[j]?=some t→vs[j]?=some v→Value.okWide P w .any base t v)→DataW.TrodAll enc P w 0 (fun _=>true) true ts vs ds ps→(DataW.weightsEach P ts ds).all (· ≤ reachBytes)=true →
    ∃ ivs,RCs (zOf w) w ivs vs∧JK tas ivs
  | [],vs,ds,ps,tas,ha,hval,h,hw=>by
    obtain ⟨rfl,rfl,rfl⟩:=trodAll_nil h
    simp [mapO] at ha;subst ha
    exact ⟨[],⟨rfl,fun j c u hc=>by simp at hc⟩,trivial⟩
  | t::ts,vs,ds,ps,tas,ha,hval,h,hw=>by
    obtain ⟨v,vs1,d,ds1,a,b,rfl,rfl,rfl,h1,h2⟩:=trodAll_cons h
    simp only [mapO] at ha
    split at ha
    case h_2=>cases ha
    rename_i a1 ha1
    split at ha
    case h_2=>cases ha
    rename_i as1 has1
    cases ha
    simp only [DataW.weightsEach,List.all_append,Bool.and_eq_true] at hw
    obtain ⟨x,g1,g2⟩:=zfD ha1 (hval 0 t v rfl rfl) h1 hw.1
    obtain ⟨xs,g3,g4⟩:=V9 has1 (fun j t v hj hv=>hval (j+1) t v (by simpa using hj) (by simpa using hv)) h2 hw.2
    exact ⟨x::xs,RCs.app (.one g1) g3,g2,g4⟩
theorem za0 {ts:List TypeId}:∀ {vs:List Value} {ds:List (DataW H)} {ps:List MemPlace},DataW.TrodAll enc P w 0 (fun _=>true) true ts vs ds ps→ds.length=ts.length:=by
  induction ts with
  | nil=>intro vs ds ps h;obtain ⟨rfl,rfl,rfl⟩:=trodAll_nil h;rfl
  | cons t ts ih=>
    intro vs ds ps h
    obtain ⟨v,vs1,d,ds1,a,b,rfl,rfl,rfl,h1,h2⟩:=trodAll_cons h
    simp [ih h2]
theorem Ya {W':World} (hl:laidOutB P=true) (hb:Below w.heap.size w W'):∀ {ts:List TypeId} {vs:List Value} {ds:List (DataW H)} {ps:List MemPlace},(∀ t∈ts,P.readableRec t=true∧t < P.types.size) →
    DataW.TrodAll enc P w 0 (fun _=>true) true ts vs ds ps→∀ sp:Nat→Bool,(∀ p∈ps,p.block < w.heap.size∧sp p.block=true)→DataW.TrodAll enc P W' 0 sp true ts vs ds ps
  | [],vs,ds,ps,hr,h,sp,hlt=>by
    obtain ⟨rfl,rfl,rfl⟩:=trodAll_nil h;rfl
  | t::ts,vs,ds,ps,hr,h,sp,hlt=>by
    obtain ⟨v,vs1,d,ds1,a,b,rfl,rfl,rfl,h1,h2⟩:=trodAll_cons h
    have ht:=hr t (List.mem_cons_self ..)
    exact ⟨a,b,WideElems.Trod_stays hl ht.1 ht.2 h1 (fun x hx=>hb.same (hlt x (List.mem_append_left _ hx)).1) (fun x hx=>(hlt x (List.mem_append_left _ hx)).2),
      Ya hl hb (fun t ht=>hr t (List.mem_cons_of_mem _ ht)) h2 sp (fun p hp=>hlt p (List.mem_append_right _ hp)),rfl⟩
end
theorem zcI {H:Type} {enc:TypeId×Value→H} {P:Program} {f:Func} {s:ChangeSpec} {apart fresh handsOn again:Bool} {W W':World} {args:Array Value} {v:Value} {ds:List (DataW H)} {before:List MemPlace}
    (hW:DataW.Whole enc P f.params.toList s.vars apart W args.toList ds [] before)
    (hres:∀ (b:Nat) (sp:Nat→Bool) (hd:Bool),DataW.TrodAll enc P W' b sp hd f.resultTypes.toList (v.resultList f.resultTypes.size) (s.fn H (ds++[])).results [])
    (hargs:∀ sp:Nat→Bool,(∀ p∈before,sp p.block=true)→DataW.TrodAll enc P W' 0 sp true f.params.toList args.toList (s.fn H (ds++[])).args before)
    (hvars:∀ sp:Nat→Bool,DataW.TrodVars enc P W' sp s.vars (s.fn H (ds++[])).vars [])
    (hk:Below W.heap.size W W')
    (hok:∀ (j:Nat) (t:TypeId) (r:Value),f.resultTypes[j]?=some t→(v.resultList f.resultTypes.size)[j]?=some r→Value.okWide P W' .any 0 t r) :
    s.post enc P f apart fresh handsOn again W args v W':=by
  have hlt:∀ p∈before,p.block < W.heap.size:=fun p hp=>hW.lt p hp
  have hold:∀ p∈before,(fun b=>decide (b < W.heap.size)) p.block=true:=fun p hp=>by simpa using hlt p hp
  refine ⟨ds,[],before,[],before,[],hW,hres _ _ _,hargs _ hold,hvars _,hk.frame _,fun _ => ?_⟩
  obtain ⟨_,_,_,_,_,hz,hn⟩:=hW
  refine ⟨hok,_,_,([]++before)++[],⟨[]++before,[],trodAll_append (hargs _ (fun _ _=>rfl)) (hres _ _ _),hvars _,rfl,?_,?_⟩,?_⟩
  · intro b off hp
    have hp':MemPlace.cell b off∈before:=by simpa using hp
    rw [hk.frozen (p:=⟨b,off,none⟩) (hlt _ hp')]
    exact hz b off hp'
  · intro ha
    simpa using hn ha
  · intro p hp _
    simpa using hp
theorem K4 {H:Type} {enc:TypeId×Value→H} {Cx:Ctx} {f:FuncId} {fn:Func} {s:ChangeSpec} {tb:TypeId} {tas:List (Bool×List CTy)} {apart fresh handsOn again:Bool} (n:Nat) (hn:Cx.fnum n=f)
    (has:mapO (K3 Cx.P) fn.params.toList=some tas) (hres:fn.resultTypes = #[tb]) (htb:Cx.P.underlying tb=some .bool) (hvars:s.vars=[])
    (hsp:∀ ds:List (DataW H),ds.length=fn.params.toList.length→s.fn H (ds++[])={results:=[.lit (.bool true)],args:=ds})
    (hlaid:laidOutB Cx.P=true) (hread:(fn.params.toList.all fun t=>Cx.P.readableRec t&&decide (t < Cx.P.types.size))=true)
    (hlaw:∀ ivs,JK tas ivs→APure Cx n ivs (.bool true))
    (W:World) (hft:Cx.tabs.p W∧Cx.tabs.n≤W.heap.size)
    (base:Nat) (args:Array Value) (ds gs:List (DataW H)) (before:List MemPlace)
    (hval:∀ (j:Nat) t v,fn.params[j]?=some t→args[j]?=some v→Value.okWide Cx.P W .any base t v)
    (hW:DataW.Whole enc Cx.P fn.params.toList s.vars apart W args.toList ds gs before)
    (hwt:(DataW.weightsEach Cx.P (fn.params.toList++s.plain.varTypes Cx.P) (ds++gs)).all (· ≤ reachBytes)=true) :
    Calls Cx.P f args W fun e W'=>∃ v,e=.returned v∧s.post enc Cx.P fn apart fresh handsOn again W args v W':=by
  have hW':=hW
  obtain ⟨p,q,hA,hV,rfl,hfz,hnd⟩:=hW
  rw [hvars] at hV
  obtain ⟨rfl,rfl⟩:=trodVars_none hV
  have hvt:s.plain.varTypes Cx.P=[]:=by
    have:s.plain.vars=[]:=hvars
    simp [DataSpec.varTypes,this]
  rw [hvt,List.append_nil,List.append_nil] at hwt
  obtain ⟨ivs,h1,h2⟩:=V9 has (fun j t v hj hv=>hval j t v (by simpa using hj) (by simpa using hv)) hA hwt
  subst hn
  have hcall:=(hlaw ivs h2).2 (zOf W) W args.toList (fun b hb=>ziR hb) hft h1
  simp only [Array.toArray_toList] at hcall
  refine hcall.mono fun e W' ⟨v,Z',he,hr,_,_,hbel⟩ => ?_
  subst he
  cases hr
  have hlt:∀ x∈p++[],x.block < W.heap.size:=fun x hx=>by simpa using hW'.lt x hx
  have hspec:=hsp ds (za0 hA)
  simp only [List.append_nil] at hW' hlt
  refine ⟨_,rfl,zcI hW' ?_ ?_ ?_ hbel ?_⟩
  · intro b sp hd
    rw [hspec,hres]
    exact trodAll_cons_mk (shut_bool htb _) trodAll_mk0
  · intro sp hsp'
    rw [hspec]
    exact Ya hlaid hbel (fun t ht=>by have:=List.all_eq_true.1 hread t ht;simpa using this) hA sp (fun x hx=>⟨hlt x hx,hsp' x hx⟩)
  · intro sp
    rw [hspec,hvars];rfl
  · exact ok_one hres rfl (okWide_bool_mk htb _)
end
end Go.Proofs.YtmoedieenlaegaaGreatDoor
namespace Go.Proofs.YtmoedieenlaegaaGreatDoor
open Go.RowKit
set_option linter.unusedVariables false
def InK (k:IntKind) (n:Int):Prop:=k.min≤n∧n≤k.max
def LOk {α:Type} (by_:Nat) (Ok:α→Prop) (l:List α):Prop:=l.length*by_≤reachBytes∧∀ x∈l,Ok x
theorem zf {t:CTy} {ts:List CTy} {row:List IV} (h:HasCs (t::ts) row):∃ c r,row=c::r∧HasC t c∧HasCs ts r:=by
  obtain ⟨hl,hc⟩:=h
  cases row with
  | nil=>simp at hl
  | cons c r=>exact ⟨c,r,rfl,hc 0 t c rfl rfl,by simpa using hl,fun i u d hu hd=>hc (i+1) u d (by simpa using hu) (by simpa using hd)⟩
theorem qk {row:List IV} (h:HasCs [] row):row=[]:=List.eq_nil_of_length_eq_zero h.1
theorem zq {k:IntKind} {x:IV} (h:HasC (.int k) x):∃ n,x=.int k n∧InK k n:=by cases h;exact ⟨_,rfl,by assumption⟩
theorem jC {x:IV} (h:HasC .bool x):∃ b,x=.bool b:=by cases h;exact ⟨_,rfl⟩
theorem zfE {x:IV} (h:HasC .str x):∃ s,x=.str s∧s.size≤reachBytes:=by cases h;exact ⟨_,rfl,by assumption⟩
theorem Yb {α:Type} {f:α→List IV} {Ok:α→Prop} {tys:List CTy} (ho:∀ {row:List IV},HasCs tys row→∃ x,row=f x∧Ok x) :
    ∀ rows:List (List IV),(∀ row∈rows,HasCs tys row)→∃ l:List α,rows=l.map f∧∀ x∈l,Ok x
  | [],_=>⟨[],rfl,fun x hx=>by cases hx⟩
  | row::rows,h=>by
    obtain ⟨x,rfl,hx⟩:=ho (h row (List.mem_cons_self ..))
    obtain ⟨l,rfl,hl⟩:=Yb ho rows fun r hr=>h r (List.mem_cons_of_mem _ hr)
    exact ⟨x::l,rfl,fun y hy=>by
      rcases List.mem_cons.1 hy with rfl | hy
      · exact hx
      · exact hl y hy⟩
theorem zE {α:Type} {f:α→List IV} {Ok:α→Prop} {tys:List CTy} {by_:Nat} {x:IV} (ho:∀ {row:List IV},HasCs tys row→∃ x,row=f x∧Ok x) (h:HasC (.slice by_ tys) x) :
    ∃ l:List α,x=.slice (l.map f)∧LOk by_ Ok l:=by
  cases h with
  | slice _ _ rows hl hr hc=>
    obtain ⟨l,rfl,hk⟩:=Yb ho rows fun row h=>⟨hr row h,hc row h⟩
    exact ⟨l,rfl,by simpa using hl,hk⟩
theorem vn {row:List IV} (h:HasCs [.int .i64] row):∃ x:Int,row=zb x∧InK .i64 x:=by
  obtain ⟨c,_,rfl,h0,h⟩:=zf h
  obtain rfl:=qk h
  obtain ⟨n,rfl,k⟩:=zq h0
  exact ⟨n,rfl,k⟩
theorem yC {row:List IV} (h:HasCs [.bool] row):∃ x:Bool,row=zg x∧True:=by
  obtain ⟨c,_,rfl,h0,h⟩:=zf h
  obtain rfl:=qk h
  obtain ⟨n,rfl⟩:=jC h0
  exact ⟨n,rfl,trivial⟩
theorem za1 {α:Type} {f:α→List IV} {Ok:α→Prop} {tys:List CTy} {by_:Nat} (ho:∀ {row:List IV},HasCs tys row→∃ x,row=f x∧Ok x) {row:List IV} (h:HasCs [.slice by_ tys] row) :
    ∃ x:List α,row=qK f x∧LOk by_ Ok x:=by
  obtain ⟨c,_,rfl,h0,h⟩:=zf h
  obtain rfl:=qk h
  obtain ⟨l,rfl,k⟩:=zE ho h0
  exact ⟨l,rfl,k⟩
def Ratio.tys:List CTy:=[.int .i64,.int .i64]
structure Ratio.Ok (x:Ratio):Prop where
  num:InK .i64 x.num
  den:InK .i64 x.den
theorem Ratio.opn {row:List IV} (h:HasCs Ratio.tys row):∃ x:Ratio,row=Ratio.row x∧Ratio.Ok x:=by
  obtain ⟨c0,_,rfl,h0,h⟩:=zf h
  obtain ⟨c1,_,rfl,h1,h⟩:=zf h
  obtain rfl:=qk h
  obtain ⟨v0,rfl,k0⟩:=zq h0
  obtain ⟨v1,rfl,k1⟩:=zq h1
  exact ⟨⟨v0,v1⟩,rfl,⟨k0,k1⟩⟩
def Zau.tys:List CTy:=[.str,.int .i64,.int .i64,.int .i64,.int .i64]
structure Zau.Ok (x:Zau):Prop where
  name:x.name.size≤reachBytes
  kind:InK .i64 x.kind
  base:InK .i64 x.base
  factor:Ratio.Ok x.factor
theorem Zau.opn {row:List IV} (h:HasCs Zau.tys row):∃ x:Zau,row=Zau.row x∧Zau.Ok x:=by
  obtain ⟨c0,_,rfl,h0,h⟩:=zf h
  obtain ⟨c1,_,rfl,h1,h⟩:=zf h
  obtain ⟨c2,_,rfl,h2,h⟩:=zf h
  obtain ⟨c3,_,rfl,h3,h⟩:=zf h
  obtain ⟨c4,_,rfl,h4,h⟩:=zf h
  obtain rfl:=qk h
  obtain ⟨v0,rfl,k0⟩:=zfE h0
  obtain ⟨v1,rfl,k1⟩:=zq h1
  obtain ⟨v2,rfl,k2⟩:=zq h2
  obtain ⟨v3,rfl,k3⟩:=zq h3
  obtain ⟨v4,rfl,k4⟩:=zq h4
  exact ⟨⟨v0,v1,v2,⟨v3,v4⟩⟩,rfl,⟨k0,k1,k2,⟨k3,k4⟩⟩⟩
def Zar.tys:List CTy:=[.int .i64,.int .i64,.int .i64,.int .i64,.int .i64,.int .i64,.int .i64]
structure Zar.Ok (x:Zar):Prop where
  kind:InK .i64 x.kind
  Zax:InK .i64 x.Zax
  give:InK .i64 x.give
  to:InK .i64 x.to
  unit:InK .i64 x.unit
  lot:Ratio.Ok x.lot
theorem Zar.opn {row:List IV} (h:HasCs Zar.tys row):∃ x:Zar,row=Zar.row x∧Zar.Ok x:=by
  obtain ⟨c0,_,rfl,h0,h⟩:=zf h
  obtain ⟨c1,_,rfl,h1,h⟩:=zf h
  obtain ⟨c2,_,rfl,h2,h⟩:=zf h
  obtain ⟨c3,_,rfl,h3,h⟩:=zf h
  obtain ⟨c4,_,rfl,h4,h⟩:=zf h
  obtain ⟨c5,_,rfl,h5,h⟩:=zf h
  obtain ⟨c6,_,rfl,h6,h⟩:=zf h
  obtain rfl:=qk h
  obtain ⟨v0,rfl,k0⟩:=zq h0
  obtain ⟨v1,rfl,k1⟩:=zq h1
  obtain ⟨v2,rfl,k2⟩:=zq h2
  obtain ⟨v3,rfl,k3⟩:=zq h3
  obtain ⟨v4,rfl,k4⟩:=zq h4
  obtain ⟨v5,rfl,k5⟩:=zq h5
  obtain ⟨v6,rfl,k6⟩:=zq h6
  exact ⟨⟨v0,v1,v2,v3,v4,⟨v5,v6⟩⟩,rfl,⟨k0,k1,k2,k3,k4,⟨k5,k6⟩⟩⟩
def CondT.tys:List CTy:=[.int .i64,.int .i64]
structure CondT.Ok (x:CondT):Prop where
  clause:InK .i64 x.clause
  is:InK .i64 x.is
theorem CondT.opn {row:List IV} (h:HasCs CondT.tys row):∃ x:CondT,row=CondT.row x∧CondT.Ok x:=by
  obtain ⟨c0,_,rfl,h0,h⟩:=zf h
  obtain ⟨c1,_,rfl,h1,h⟩:=zf h
  obtain rfl:=qk h
  obtain ⟨v0,rfl,k0⟩:=zq h0
  obtain ⟨v1,rfl,k1⟩:=zq h1
  exact ⟨⟨v0,v1⟩,rfl,⟨k0,k1⟩⟩
def Zan.tys:List CTy:=[.int .i64,.int .i64,.int .i64,.int .i64,.slice 16 CondT.tys,.int .i64,.int .i64,.bool,.bool,.int .i64,.int .i64,.int .i64,.int .i64,.int .i64,.int .i64,.bool]
structure Zan.Ok (x:Zan):Prop where
  kind:InK .i64 x.kind
  Zax:InK .i64 x.Zax
  act:InK .i64 x.act
  need:InK .i64 x.need
  start:LOk 16 CondT.Ok x.start
  after:InK .i64 x.after
  ZaA:InK .i64 x.ZaA
  pause:InK .i64 x.pause
  ZaG:InK .i64 x.ZaG
  value:Ratio.Ok x.value
  unit:InK .i64 x.unit
  to:InK .i64 x.to
theorem Zan.opn {row:List IV} (h:HasCs Zan.tys row):∃ x:Zan,row=Zan.row x∧Zan.Ok x:=by
  obtain ⟨c0,_,rfl,h0,h⟩:=zf h
  obtain ⟨c1,_,rfl,h1,h⟩:=zf h
  obtain ⟨c2,_,rfl,h2,h⟩:=zf h
  obtain ⟨c3,_,rfl,h3,h⟩:=zf h
  obtain ⟨c4,_,rfl,h4,h⟩:=zf h
  obtain ⟨c5,_,rfl,h5,h⟩:=zf h
  obtain ⟨c6,_,rfl,h6,h⟩:=zf h
  obtain ⟨c7,_,rfl,h7,h⟩:=zf h
  obtain ⟨c8,_,rfl,h8,h⟩:=zf h
  obtain ⟨c9,_,rfl,h9,h⟩:=zf h
  obtain ⟨c10,_,rfl,h10,h⟩:=zf h
  obtain ⟨c11,_,rfl,h11,h⟩:=zf h
  obtain ⟨c12,_,rfl,h12,h⟩:=zf h
  obtain ⟨c13,_,rfl,h13,h⟩:=zf h
  obtain ⟨c14,_,rfl,h14,h⟩:=zf h
  obtain ⟨c15,_,rfl,h15,h⟩:=zf h
  obtain rfl:=qk h
  obtain ⟨v0,rfl,k0⟩:=zq h0
  obtain ⟨v1,rfl,k1⟩:=zq h1
  obtain ⟨v2,rfl,k2⟩:=zq h2
  obtain ⟨v3,rfl,k3⟩:=zq h3
  obtain ⟨v4,rfl,k4⟩:=zE @CondT.opn h4
  obtain ⟨v5,rfl,k5⟩:=zq h5
  obtain ⟨v6,rfl,k6⟩:=zq h6
  obtain ⟨v7,rfl⟩:=jC h7
  obtain ⟨v8,rfl⟩:=jC h8
  obtain ⟨v9,rfl,k9⟩:=zq h9
  obtain ⟨v10,rfl,k10⟩:=zq h10
  obtain ⟨v11,rfl,k11⟩:=zq h11
  obtain ⟨v12,rfl,k12⟩:=zq h12
  obtain ⟨v13,rfl,k13⟩:=zq h13
  obtain ⟨v14,rfl,k14⟩:=zq h14
  obtain ⟨v15,rfl⟩:=jC h15
  exact ⟨⟨v0,v1,v2,v3,v4,v5,v6,v7,v8,v9,v10,⟨v11,v12⟩,v13,v14,v15⟩,rfl,⟨k0,k1,k2,k3,k4,k5,k6,k9,k10,⟨k11,k12⟩,k13,k14⟩⟩
def Zaa.tys:List CTy:=[.int .i64,.slice 8 [.int .i64],.slice 48 Zau.tys,.slice 56 Zar.tys,.slice 136 Zan.tys,.int .i64,.slice 8 [.int .i64]]
structure Zaa.Ok (x:Zaa):Prop where
  Zal:InK .i64 x.Zal
  Zad:LOk 8 (fun x:Int=>InK .i64 x) x.Zad
  Zap:LOk 48 Zau.Ok x.Zap
  Zaj:LOk 56 Zar.Ok x.Zaj
  Zaf:LOk 136 Zan.Ok x.Zaf
  Zas:InK .i64 x.Zas
  off:LOk 8 (fun x:Int=>InK .i64 x) x.off
theorem Zaa.opn {row:List IV} (h:HasCs Zaa.tys row):∃ x:Zaa,row=Zaa.row x∧Zaa.Ok x:=by
  obtain ⟨c0,_,rfl,h0,h⟩:=zf h
  obtain ⟨c1,_,rfl,h1,h⟩:=zf h
  obtain ⟨c2,_,rfl,h2,h⟩:=zf h
  obtain ⟨c3,_,rfl,h3,h⟩:=zf h
  obtain ⟨c4,_,rfl,h4,h⟩:=zf h
  obtain ⟨c5,_,rfl,h5,h⟩:=zf h
  obtain ⟨c6,_,rfl,h6,h⟩:=zf h
  obtain rfl:=qk h
  obtain ⟨v0,rfl,k0⟩:=zq h0
  obtain ⟨v1,rfl,k1⟩:=zE vn h1
  obtain ⟨v2,rfl,k2⟩:=zE @Zau.opn h2
  obtain ⟨v3,rfl,k3⟩:=zE @Zar.opn h3
  obtain ⟨v4,rfl,k4⟩:=zE @Zan.opn h4
  obtain ⟨v5,rfl,k5⟩:=zq h5
  obtain ⟨v6,rfl,k6⟩:=zE vn h6
  exact ⟨⟨v0,v1,v2,v3,v4,v5,v6⟩,rfl,⟨k0,k1,k2,k3,k4,k5,k6⟩⟩
def zw.tys:List CTy:=[.int .i64,.int .i64,.int .i64,.int .i64,.bool]
structure zw.Ok (x:zw):Prop where
  Zak:InK .i64 x.Zak
  left:InK .i64 x.left
  got:InK .i64 x.got
  Zaq:InK .i64 x.Zaq
theorem zw.opn {row:List IV} (h:HasCs zw.tys row):∃ x:zw,row=zw.row x∧zw.Ok x:=by
  obtain ⟨c0,_,rfl,h0,h⟩:=zf h
  obtain ⟨c1,_,rfl,h1,h⟩:=zf h
  obtain ⟨c2,_,rfl,h2,h⟩:=zf h
  obtain ⟨c3,_,rfl,h3,h⟩:=zf h
  obtain ⟨c4,_,rfl,h4,h⟩:=zf h
  obtain rfl:=qk h
  obtain ⟨v0,rfl,k0⟩:=zq h0
  obtain ⟨v1,rfl,k1⟩:=zq h1
  obtain ⟨v2,rfl,k2⟩:=zq h2
  obtain ⟨v3,rfl,k3⟩:=zq h3
  obtain ⟨v4,rfl⟩:=jC h4
  exact ⟨⟨v0,v1,v2,v3,v4⟩,rfl,⟨k0,k1,k2,k3⟩⟩
def Zao.tys:List CTy:=[.int .i64,.slice 8 [.int .i64],.slice 1 [.bool],.slice 40 zw.tys]
structure Zao.Ok (x:Zao):Prop where
  day:InK .i64 x.day
  Zad:LOk 8 (fun x:Int=>InK .i64 x) x.Zad
  used:LOk 1 (fun x:Bool=>True) x.used
  Zag:LOk 40 zw.Ok x.Zag
theorem Zao.opn {row:List IV} (h:HasCs Zao.tys row):∃ x:Zao,row=Zao.row x∧Zao.Ok x:=by
  obtain ⟨c0,_,rfl,h0,h⟩:=zf h
  obtain ⟨c1,_,rfl,h1,h⟩:=zf h
  obtain ⟨c2,_,rfl,h2,h⟩:=zf h
  obtain ⟨c3,_,rfl,h3,h⟩:=zf h
  obtain rfl:=qk h
  obtain ⟨v0,rfl,k0⟩:=zq h0
  obtain ⟨v1,rfl,k1⟩:=zE vn h1
  obtain ⟨v2,rfl,k2⟩:=zE yC h2
  obtain ⟨v3,rfl,k3⟩:=zE @zw.opn h3
  exact ⟨⟨v0,v1,v2,v3⟩,rfl,⟨k0,k1,k2,k3⟩⟩
def Zae.tys:List CTy:=[.int .i64,.slice 8 [.int .i64],.slice 1 [.bool],.slice 40 zw.tys,.bool]
structure Zae.Ok (x:Zae):Prop where
  state:Zao.Ok x.state
theorem Zae.opn {row:List IV} (h:HasCs Zae.tys row):∃ x:Zae,row=Zae.row x∧Zae.Ok x:=by
  obtain ⟨c0,_,rfl,h0,h⟩:=zf h
  obtain ⟨c1,_,rfl,h1,h⟩:=zf h
  obtain ⟨c2,_,rfl,h2,h⟩:=zf h
  obtain ⟨c3,_,rfl,h3,h⟩:=zf h
  obtain ⟨c4,_,rfl,h4,h⟩:=zf h
  obtain rfl:=qk h
  obtain ⟨v0,rfl,k0⟩:=zq h0
  obtain ⟨v1,rfl,k1⟩:=zE vn h1
  obtain ⟨v2,rfl,k2⟩:=zE yC h2
  obtain ⟨v3,rfl,k3⟩:=zE @zw.opn h3
  obtain ⟨v4,rfl⟩:=jC h4
  exact ⟨⟨⟨v0,v1,v2,v3⟩,v4⟩,rfl,⟨⟨k0,k1,k2,k3⟩⟩⟩
def Zaw.tys:List CTy:=[.int .i64,.int .i64]
structure Zaw.Ok (x:Zaw):Prop where
  step:InK .i64 x.step
  to:InK .i64 x.to
theorem Zaw.opn {row:List IV} (h:HasCs Zaw.tys row):∃ x:Zaw,row=Zaw.row x∧Zaw.Ok x:=by
  obtain ⟨c0,_,rfl,h0,h⟩:=zf h
  obtain ⟨c1,_,rfl,h1,h⟩:=zf h
  obtain rfl:=qk h
  obtain ⟨v0,rfl,k0⟩:=zq h0
  obtain ⟨v1,rfl,k1⟩:=zq h1
  exact ⟨⟨v0,v1⟩,rfl,⟨k0,k1⟩⟩
def ZaF.tys:List CTy:=[.int .i64,.slice 88 Zae.tys,.slice 24 [.slice 16 Zaw.tys]]
structure ZaF.Ok (x:ZaF):Prop where
  Zab:InK .i64 x.Zab
  Zay:LOk 88 Zae.Ok x.Zay
  moves:LOk 24 (fun x:List Zaw=>LOk 16 Zaw.Ok x) x.moves
theorem ZaF.opn {row:List IV} (h:HasCs ZaF.tys row):∃ x:ZaF,row=ZaF.row x∧ZaF.Ok x:=by
  obtain ⟨c0,_,rfl,h0,h⟩:=zf h
  obtain ⟨c1,_,rfl,h1,h⟩:=zf h
  obtain ⟨c2,_,rfl,h2,h⟩:=zf h
  obtain rfl:=qk h
  obtain ⟨v0,rfl,k0⟩:=zq h0
  obtain ⟨v1,rfl,k1⟩:=zE @Zae.opn h1
  obtain ⟨v2,rfl,k2⟩:=zE (za1 (by_:=16) @Zaw.opn) h2
  exact ⟨⟨v0,v1,v2⟩,rfl,⟨k0,k1,k2⟩⟩
def AdviceT.tys:List CTy:=[.bool,.int .i64,.int .i64]
structure AdviceT.Ok (x:AdviceT):Prop where
  move:InK .i64 x.move
  wait:InK .i64 x.wait
theorem AdviceT.opn {row:List IV} (h:HasCs AdviceT.tys row):∃ x:AdviceT,row=AdviceT.row x∧AdviceT.Ok x:=by
  obtain ⟨c0,_,rfl,h0,h⟩:=zf h
  obtain ⟨c1,_,rfl,h1,h⟩:=zf h
  obtain ⟨c2,_,rfl,h2,h⟩:=zf h
  obtain rfl:=qk h
  obtain ⟨v0,rfl⟩:=jC h0
  obtain ⟨v1,rfl,k1⟩:=zq h1
  obtain ⟨v2,rfl,k2⟩:=zq h2
  exact ⟨⟨v0,v1,v2⟩,rfl,⟨k1,k2⟩⟩
def ZaE.tys:List CTy:=[.int .i64,.slice 8 [.int .i64],.slice 1 [.bool],.slice 40 zw.tys,.bool,.int .i64]
structure ZaE.Ok (x:ZaE):Prop where
  Zai:Zae.Ok x.Zai
  move:InK .i64 x.move
theorem ZaE.opn {row:List IV} (h:HasCs ZaE.tys row):∃ x:ZaE,row=ZaE.row x∧ZaE.Ok x:=by
  obtain ⟨c0,_,rfl,h0,h⟩:=zf h
  obtain ⟨c1,_,rfl,h1,h⟩:=zf h
  obtain ⟨c2,_,rfl,h2,h⟩:=zf h
  obtain ⟨c3,_,rfl,h3,h⟩:=zf h
  obtain ⟨c4,_,rfl,h4,h⟩:=zf h
  obtain ⟨c5,_,rfl,h5,h⟩:=zf h
  obtain rfl:=qk h
  obtain ⟨v0,rfl,k0⟩:=zq h0
  obtain ⟨v1,rfl,k1⟩:=zE vn h1
  obtain ⟨v2,rfl,k2⟩:=zE yC h2
  obtain ⟨v3,rfl,k3⟩:=zE @zw.opn h3
  obtain ⟨v4,rfl⟩:=jC h4
  obtain ⟨v5,rfl,k5⟩:=zq h5
  exact ⟨⟨⟨⟨v0,v1,v2,v3⟩,v4⟩,v5⟩,rfl,⟨⟨⟨k0,k1,k2,k3⟩⟩,k5⟩⟩
def ZaD.tys:List CTy:=[.int .i64,.slice 96 ZaE.tys]
structure ZaD.Ok (x:ZaD):Prop where
  Zab:InK .i64 x.Zab
  rows:LOk 96 ZaE.Ok x.rows
theorem ZaD.opn {row:List IV} (h:HasCs ZaD.tys row):∃ x:ZaD,row=ZaD.row x∧ZaD.Ok x:=by
  obtain ⟨c0,_,rfl,h0,h⟩:=zf h
  obtain ⟨c1,_,rfl,h1,h⟩:=zf h
  obtain rfl:=qk h
  obtain ⟨v0,rfl,k0⟩:=zq h0
  obtain ⟨v1,rfl,k1⟩:=zE @ZaE.opn h1
  exact ⟨⟨v0,v1⟩,rfl,⟨k0,k1⟩⟩
def Zaz.tys:List CTy:=[.int .i64,.slice 8 [.int .i64],.slice 1 [.bool],.slice 40 zw.tys,.bool,.int .i64,.int .i64]
structure Zaz.Ok (x:Zaz):Prop where
  Zai:Zae.Ok x.Zai
  rank:InK .i64 x.rank
  move:InK .i64 x.move
theorem Zaz.opn {row:List IV} (h:HasCs Zaz.tys row):∃ x:Zaz,row=Zaz.row x∧Zaz.Ok x:=by
  obtain ⟨c0,_,rfl,h0,h⟩:=zf h
  obtain ⟨c1,_,rfl,h1,h⟩:=zf h
  obtain ⟨c2,_,rfl,h2,h⟩:=zf h
  obtain ⟨c3,_,rfl,h3,h⟩:=zf h
  obtain ⟨c4,_,rfl,h4,h⟩:=zf h
  obtain ⟨c5,_,rfl,h5,h⟩:=zf h
  obtain ⟨c6,_,rfl,h6,h⟩:=zf h
  obtain rfl:=qk h
  obtain ⟨v0,rfl,k0⟩:=zq h0
  obtain ⟨v1,rfl,k1⟩:=zE vn h1
  obtain ⟨v2,rfl,k2⟩:=zE yC h2
  obtain ⟨v3,rfl,k3⟩:=zE @zw.opn h3
  obtain ⟨v4,rfl⟩:=jC h4
  obtain ⟨v5,rfl,k5⟩:=zq h5
  obtain ⟨v6,rfl,k6⟩:=zq h6
  exact ⟨⟨⟨⟨v0,v1,v2,v3⟩,v4⟩,v5,v6⟩,rfl,⟨⟨⟨k0,k1,k2,k3⟩⟩,k5,k6⟩⟩
def ZaB.tys:List CTy:=[.int .i64,.slice 104 Zaz.tys]
structure ZaB.Ok (x:ZaB):Prop where
  Zab:InK .i64 x.Zab
  rows:LOk 104 Zaz.Ok x.rows
theorem ZaB.opn {row:List IV} (h:HasCs ZaB.tys row):∃ x:ZaB,row=ZaB.row x∧ZaB.Ok x:=by
  obtain ⟨c0,_,rfl,h0,h⟩:=zf h
  obtain ⟨c1,_,rfl,h1,h⟩:=zf h
  obtain rfl:=qk h
  obtain ⟨v0,rfl,k0⟩:=zq h0
  obtain ⟨v1,rfl,k1⟩:=zE @Zaz.opn h1
  exact ⟨⟨v0,v1⟩,rfl,⟨k0,k1⟩⟩
def ZaH.tys:List CTy:=[.int .i64,.slice 96 ZaE.tys]
structure ZaH.Ok (x:ZaH):Prop where
  s:ZaD.Ok x.s
theorem ZaH.opn {row:List IV} (h:HasCs ZaH.tys row):∃ x:ZaH,row=ZaH.row x∧ZaH.Ok x:=by
  obtain ⟨c0,_,rfl,h0,h⟩:=zf h
  obtain ⟨c1,_,rfl,h1,h⟩:=zf h
  obtain rfl:=qk h
  obtain ⟨v0,rfl,k0⟩:=zq h0
  obtain ⟨v1,rfl,k1⟩:=zE @ZaE.opn h1
  exact ⟨⟨⟨v0,v1⟩⟩,rfl,⟨⟨k0,k1⟩⟩⟩
def DoomW.tys:List CTy:=[.int .i64,.slice 104 Zaz.tys]
structure DoomW.Ok (x:DoomW):Prop where
  d:ZaB.Ok x.d
theorem DoomW.opn {row:List IV} (h:HasCs DoomW.tys row):∃ x:DoomW,row=DoomW.row x∧DoomW.Ok x:=by
  obtain ⟨c0,_,rfl,h0,h⟩:=zf h
  obtain ⟨c1,_,rfl,h1,h⟩:=zf h
  obtain rfl:=qk h
  obtain ⟨v0,rfl,k0⟩:=zq h0
  obtain ⟨v1,rfl,k1⟩:=zE @Zaz.opn h1
  exact ⟨⟨⟨v0,v1⟩⟩,rfl,⟨⟨k0,k1⟩⟩⟩
end Go.Proofs.YtmoedieenlaegaaGreatDoor
namespace Go.Proofs.YtmoedieenlaegaaGreatDoor
set_option linter.unusedSimpArgs false
set_option linter.unusedVariables false
def yy {σ ρ:Type} (A:σ→Prop) (Q:ρ→Prop):σ ⊕ ρ→Prop
  | .inl s=>A s
  | .inr r=>Q r
theorem Q7 {σ ρ:Type} {f:Nat→σ→Option (σ ⊕ ρ)} {Inv:Nat→σ→Prop} {Q:ρ→Prop} (n:Nat)
    (step:∀ (i:Nat) (s:σ),i < n→Inv i s→∃ o,f i s=some o∧yy (Inv (i+1)) Q o) :
    ∀ (k i:Nat) (s:σ),i+k=n→Inv i s→∃ o,forFrom f i k s=some o∧yy (Inv n) Q o
  | 0,i,s,h,hi=>⟨.inl s,rfl,by obtain rfl:i=n:=by omega
                               exact hi⟩
  | k+1,i,s,h,hi=>by
    obtain ⟨o,h1,h2⟩:=step i s (by omega) hi
    simp only [forFrom,h1]
    cases o with
    | inl s'=>exact Q7 n step k (i+1) s' (by omega) h2
    | inr r=>exact ⟨.inr r,rfl,h2⟩
theorem Yc {σ ρ:Type} {f:Nat→σ→Option (σ ⊕ ρ)} {n:Int} {s0:σ} (Inv:Nat→σ→Prop) (Q:ρ→Prop) (hn:n < 4611686018427387904)
    (h0:Inv 0 s0) (step:∀ (i:Nat) (s:σ),(i:Int) < n→Inv i s→∃ o,f i s=some o∧yy (Inv (i+1)) Q o) :
    ∃ o,forR n f s0=some o∧yy (Inv n.toNat) Q o:=by
  rw [vi hn]
  exact Q7 n.toNat (fun i s hi=>step i s (by omega)) n.toNat 0 s0 (by omega) h0
theorem xJ {σ ρ:Type} {f:Nat→σ→Option (σ ⊕ ρ)} {n:Nat} {s0:σ} (Inv:Nat→σ→Prop) (Q:ρ→Prop) (hn:n < 4611686018427387904)
    (h0:Inv 0 s0) (step:∀ (i:Nat) (s:σ),i < n→Inv i s→∃ o,f i s=some o∧yy (Inv (i+1)) Q o) :
    ∃ o,forR (n:Int) f s0=some o∧yy (Inv n) Q o:=by
  have:=Yc (n:=(n:Int)) Inv Q (by omega) h0 (fun i s hi=>step i s (by omega))
  simpa using this
theorem Yd {σ ρ:Type} {f:σ→Option (σ ⊕ ρ)} (Inv:σ→Prop) (Q:ρ→Prop) (m:σ→Nat)
    (step:∀ s,Inv s→∃ o,f s=some o∧yy (fun s'=>Inv s'∧m s' < m s) Q o):∀ s0,Inv s0→∃ r,iter f s0=some r∧Q r:=by
  have key:∀ (k:Nat) (s:σ),m s < k→Inv s→∃ r,iter f s=some r∧Q r:=by
    intro k
    induction k with
    | zero=>intro s h;omega
    | succ k ih=>
      intro s hk hs
      obtain ⟨o,h1,h2⟩:=step s hs
      rw [zhb,h1]
      cases o with
      | inl s'=>exact ih s' (by have:=h2.2;omega) h2.1
      | inr r=>exact ⟨r,rfl,h2⟩
  exact fun s0 h=>key _ s0 (Nat.lt_succ_self _) h
theorem QE {ρ:Type} {f:Nat→Unit→Option (Unit ⊕ ρ)} {p:Nat→Bool} {g:Nat→ρ}:∀ (k i:Nat),(∀ j,i≤j→j < i+k→f j ()=some (bif p j then .inl () else .inr (g j))) →
    forFrom f i k ()=some (match (List.range' i k).find? (fun j=>!p j) with | none=>.inl () | some j=>.inr (g j))
  | 0,i,h=>rfl
  | k+1,i,h=>by
    simp only [forFrom,h i (Nat.le_refl _) (by omega),List.range'_succ,List.find?_cons]
    cases hp:p i with
    | true=>
      simp only [ZaR,ZaI]
      exact QE k (i+1) fun j h1 h2=>h j (by omega) (by omega)
    | false=>simp
theorem jD {ρ:Type} {f:Nat→Unit→Option (Unit ⊕ ρ)} {n:Nat} (p:Nat→Bool) (g:Nat→ρ) (hn:n < 4611686018427387904) (h:∀ j,j < n→f j ()=some (bif p j then .inl () else .inr (g j))) :
    forR (n:Int) f ()=some (match (List.range n).find? (fun j=>!p j) with | none=>.inl () | some j=>.inr (g j)):=by
  rw [vi (by omega)]
  have:=QE (f:=f) (p:=p) (g:=g) n 0 (fun j _ h2=>h j (by omega))
  simpa [List.range_eq_range'] using this
theorem wq {n:Nat} {p:Nat→Bool} (h:(List.range n).find? (fun j=>!p j)=none):∀ j,j < n→p j=true:=fun j hj=>by
  have:=List.find?_eq_none.1 h j (List.mem_range.2 hj)
  simpa using this
theorem Xe {q:Nat→Bool}:∀ (k a i:Nat),(List.range' a k).find? q=some i→i < a+k∧a≤i∧q i=true∧∀ j,a≤j→j < i→q j=false
  | 0,a,i,h=>by simp at h
  | k+1,a,i,h=>by
    rw [List.range'_succ,List.find?_cons] at h
    split at h
    · rename_i hq
      cases h
      exact ⟨by omega,Nat.le_refl _,hq,fun j h1 h2=>by omega⟩
    · rename_i hq
      obtain ⟨h1,h2,h3,h4⟩:=Xe k (a+1) i h
      exact ⟨by omega,by omega,h3,fun j h5 h6=>by
        rcases Nat.eq_or_lt_of_le h5 with h7 | h7
        · subst h7;exact hq
        · exact h4 j (by omega) h6⟩
theorem wt {n i:Nat} {p:Nat→Bool} (h:(List.range n).find? (fun j=>!p j)=some i):i < n∧p i=false∧∀ j,j < i→p j=true:=by
  rw [List.range_eq_range'] at h
  obtain ⟨h1,_,h2,h3⟩:=Xe n 0 i h
  exact ⟨by omega,by simpa using h2,fun j hj=>by simpa using h3 j (Nat.zero_le _) hj⟩
theorem zh {α:Type} (b:Bool) (x y:α):(bif b then some x else some y)=some (bif b then x else y):=by cases b<;>rfl
theorem zD {α:Type} {l:List α} {i:Nat} {e:α} (h:l[i]?=some e):ze l (i:Int)=some e:=by
  unfold ze;rw [if_pos (by omega)];simpa using h
theorem zz {α:Type} (l:List α) (i:Nat):ze l (i:Int)=l[i]?:=by
  unfold ze;rw [if_pos (by omega)];simp
theorem qm {α:Type} {l:List α} {n:Int} (h0:0≤n) (h1:n < l.length):∃ h:n.toNat < l.length,ze l n=some l[n.toNat]:=by
  have h:n.toNat < l.length:=by omega
  exact ⟨h,by unfold ze;rw [if_pos h0];exact List.getElem?_eq_getElem h⟩
theorem Qh {α:Type} {l:List α} {n:Int} (h:¬ (0≤n∧n < l.length)):ze l n=none:=by
  unfold ze
  split
  · exact List.getElem?_eq_none (by omega)
  · rfl
theorem Vn {len:Nat} {n:Int} (h0:0≤n) (h1:n < len):zl len n=some n.toNat:=by unfold zl;rw [if_pos ⟨h0,h1⟩]
theorem qG {len i:Nat} (h:i < len):zl len (i:Int)=some i:=by unfold zl;rw [if_pos ⟨by omega,by omega⟩];simp
def Ret {α:Type} (x:Option α) (Q:α→Prop):Prop:=∃ r,x=some r∧Q r
theorem Ret.some {α:Type} {a:α} {Q:α→Prop} (h:Q a):Ret (Option.some a) Q:=⟨a,rfl,h⟩
theorem Ret.bind {α β:Type} {x:Option α} {f:α→Option β} {P:α→Prop} {Q:β→Prop} (hx:Ret x P) (hf:∀ v,P v→Ret (f v) Q):Ret (x.bind f) Q:=by
  obtain ⟨v,rfl,hv⟩:=hx
  exact hf v hv
theorem Ret.bindE {α β:Type} {x:Option α} {f:α→Option β} {v:α} {Q:β→Prop} (hx:x=Option.some v) (hf:Ret (f v) Q):Ret (x.bind f) Q:=by
  subst hx;exact hf
theorem Ret.ite {α:Type} {b:Bool} {x y:Option α} {Q:α→Prop} (h1:b=true→Ret x Q) (h2:b=false→Ret y Q):Ret (bif b then x else y) Q:=by
  cases b
  · exact h2 rfl
  · exact h1 rfl
theorem Ret.mono {α:Type} {x:Option α} {P Q:α→Prop} (h:Ret x P) (hq:∀ r,P r→Q r):Ret x Q:=by
  obtain ⟨r,h1,h2⟩:=h;exact ⟨r,h1,hq r h2⟩
theorem Ret.eq {α:Type} {x:Option α} {a:α} (h:Ret x (· = a)):x=Option.some a:=by obtain ⟨r,h1,rfl⟩:=h;exact h1
theorem Ret.of {α:Type} {x:Option α} {a:α} (h:x=Option.some a):Ret x (· = a):=⟨a,h,rfl⟩
theorem Ret.forL {σ ρ:Type} {f:Nat→σ→Option (σ ⊕ ρ)} {n:Nat} {s0:σ} {Q:σ ⊕ ρ→Prop} (Inv:Nat→σ→Prop) (hn:n < 4611686018427387904) (h0:Inv 0 s0)
    (step:∀ (i:Nat) (s:σ),i < n→Inv i s→Ret (f i s) (yy (Inv (i+1)) fun r=>Q (.inr r))) (hQ:∀ s,Inv n s→Q (.inl s)):Ret (forR (n:Int) f s0) Q:=by
  obtain ⟨o,h1,h2⟩:=xJ (n:=n) (s0:=s0) (f:=f) Inv (fun r=>Q (.inr r)) hn h0 step
  refine ⟨o,h1,?_⟩
  cases o with
  | inl s=>exact hQ s h2
  | inr r=>exact h2
theorem Ret.iter {σ ρ:Type} {f:σ→Option (σ ⊕ ρ)} {s0:σ} {Q:ρ→Prop} (Inv:σ→Prop) (m:σ→Nat) (h0:Inv s0)
    (step:∀ s,Inv s→Ret (f s) (yy (fun s'=>Inv s'∧m s' < m s) Q)):Ret (Go.Proofs.YtmoedieenlaegaaGreatDoor.iter f s0) Q:=Yd (f:=f) Inv Q m step s0 h0
theorem Ret.idx {α:Type} {l:List α} {n:Int} {Q:α→Prop} (h0:0≤n) (h1:n < l.length) (h:∀ hi:n.toNat < l.length,Q l[n.toNat]):Ret (ze l n) Q:=by
  obtain ⟨hi,e⟩:=qm h0 h1
  exact ⟨_,e,h hi⟩
theorem yM {α:Type} {by_:Nat} {l m:List α} (h:(l.length+m.length)*by_≤140737488355328):zR by_ l m=some (l++m):=by unfold zR;rw [if_pos h]
def goL {α σ ρ:Type} (F:α→σ→Option (σ ⊕ ρ)):List α→σ→Option (σ ⊕ ρ)
  | [],s=>some (.inl s)
  | x::r,s=>match F x s with
    | none=>none
    | some (.inr y)=>some (.inr y)
    | some (.inl s')=>goL F r s'
theorem Q8 {α σ ρ:Type} {f:Nat→σ→Option (σ ⊕ ρ)} {F:α→σ→Option (σ ⊕ ρ)}:∀ (l:List α) (i:Nat) (s:σ),(∀ (j:Nat) (hj:j < l.length) (s:σ),f (i+j) s=F l[j] s)→forFrom f i l.length s=goL F l s
  | [],i,s,h=>rfl
  | x::r,i,s,h=>by
    have h0:=h 0 (by simp) s
    simp only [Nat.add_zero,List.getElem_cons_zero] at h0
    simp only [List.length_cons,forFrom,goL,h0]
    have ih:∀ s',forFrom f (i+1) r.length s'=goL F r s':=fun s'=>Q8 r (i+1) s' (f:=f) (F:=F) fun j hj s=>by
      have:=h (j+1) (by simpa using hj) s
      simp only [List.getElem_cons_succ] at this
      rw [←this];congr 1;omega
    cases F x s with
    | none=>rfl
    | some o=>
      cases o with
      | inl s'=>exact ih s'
      | inr y=>rfl
theorem zd9 {α σ ρ:Type} {f:Nat→σ→Option (σ ⊕ ρ)} {F:α→σ→Option (σ ⊕ ρ)} (l:List α) (hl:l.length < 4611686018427387904) (h:∀ (j:Nat) (hj:j < l.length) (s:σ),f j s=F l[j] s) (s:σ):forR (l.length:Int) f s=goL F l s:=by
  rw [vi (by omega)]
  have:=Q8 l 0 s (f:=f) (F:=F) (fun j hj s=>by rw [Nat.zero_add];exact h j hj s)
  simpa using this
def xO (n:Int):Int→List Int→Bool
  | _,[]=>true
  | a,x::r=>(!decide (x≤a) && !decide (n≤x))&&xO n x r
def zcJ:Int→List Int→Int
  | a,[]=>a
  | _,x::r=>zcJ x r
theorem zcK (n:Int) (l:List Int) (hl:l.length < 4611686018427387904) (a:Int):forR (σ:=Int) (ρ:=Unit) (l.length:Int) (fun i1 s1=>(Option.bind (ze l (i1:Int)) fun e1=>(Option.bind (bif decide (e1≤s1) then some true else some (decide (n≤e1))) fun v1=>(bif v1 then some (.inr ()) else some (.inl e1))))) a=some (bif xO n a l then .inl (zcJ a l) else .inr ()):=by
  rw [zd9 (F:=fun x s=>bif (decide (x≤s)||decide (n≤x)) then some (.inr ()) else some (.inl x)) l hl (fun j hj s=>by
    simp only [zz,List.getElem?_eq_getElem hj,ZaT,zh,Bool.cond_true_left])]
  clear hl
  induction l generalizing a with
  | nil=>rfl
  | cons x r ih=>
    simp only [goL,xO,zcJ]
    cases decide (x≤a)<;>cases decide (n≤x)<;>simp [ih]
theorem Q9 {n:Int}:∀ {a:Int} {l:List Int},xO n a l=true→(∀ x∈l,a < x∧x < n)∧l.Pairwise (· < ·)
  | a,[],_=>⟨fun x hx=>(by cases hx),List.Pairwise.nil⟩
  | a,x::r,h=>by
    simp only [xO,Bool.and_eq_true,Bool.not_eq_true',decide_eq_false_iff_not] at h
    obtain ⟨⟨h1,h2⟩,h3⟩:=h
    obtain ⟨h4,h5⟩:=Q9 h3
    refine ⟨fun y hy => ?_,List.pairwise_cons.2 ⟨fun y hy=>(h4 y hy).1,h5⟩⟩
    rcases List.mem_cons.1 hy with rfl | hy
    · exact ⟨by omega,by omega⟩
    · have:=h4 y hy;exact ⟨by omega,this.2⟩
theorem zbv {n:Int}:∀ {a:Int} {l:List Int},(∀ x∈l,a < x∧x < n)→l.Pairwise (· < ·)→xO n a l=true
  | a,[],_,_=>rfl
  | a,x::r,h,hp=>by
    have h1:=h x (by simp)
    obtain ⟨h2,h3⟩:=List.pairwise_cons.1 hp
    simp only [xO,Bool.and_eq_true,Bool.not_eq_true',decide_eq_false_iff_not]
    exact ⟨⟨by omega,by omega⟩,zbv (fun y hy=>⟨h2 y hy,(h y (by simp [hy])).2⟩) h3⟩
theorem K5 {n:Int}:∀ {a:Int} {l:List Int},xO n a l=true→(l.length:Int)≤0∨a+l.length < n
  | a,[],_=>.inl (by simp)
  | a,x::r,h=>by
    simp only [xO,Bool.and_eq_true,Bool.not_eq_true',decide_eq_false_iff_not] at h
    obtain ⟨⟨h1,h2⟩,h3⟩:=h
    rcases K5 h3 with h4 | h4
    · simp only [List.length_cons];omega
    · simp only [List.length_cons];omega
theorem zea {l:List Int} (h:l.Pairwise (· < ·)):l.Nodup:=h.imp fun h=>by omega
structure Gm where
  n:Nat
  own:Nat→Bool
  lost:Nat→Bool
  succ:Nat→List Nat
def Attr (G:Gm):Nat→Nat→Prop
  | 0,i=>G.lost i=true
  | k+1,i=>G.lost i=true∨(G.own i=true∧∀ t∈G.succ i,Attr G k t)∨(G.own i=false∧∃ t∈G.succ i,Attr G k t)
theorem Attr.zero {G:Gm} {i:Nat} (h:G.lost i=true):∀ k,Attr G k i
  | 0=>h
  | k+1=>.inl h
theorem Attr.succ1 {G:Gm}:∀ {k i:Nat},Attr G k i→Attr G (k+1) i
  | 0,i,h=>.inl h
  | k+1,i,h=>by
    rcases h with h | ⟨h1,h2⟩ | ⟨h1,t,h2,h3⟩
    · exact .inl h
    · exact .inr (.inl ⟨h1,fun t ht=>(h2 t ht).succ1⟩)
    · exact .inr (.inr ⟨h1,t,h2,h3.succ1⟩)
theorem Attr.mono {G:Gm} {k k' i:Nat} (hk:k≤k') (h:Attr G k i):Attr G k' i:=by
  induction hk with
  | refl=>exact h
  | step _ ih=>exact ih.succ1
def ziS (G:Gm) (r:Nat→Int):Prop:=∀ i,i < G.n → -1≤r i∧∀ k:Nat,(r i ≠ -1∧r i≤k)↔Attr G k i
structure RankEq (G:Gm) (r:Nat→Int):Prop where
  ge:∀ i,i < G.n → -1≤r i
  zero:∀ i,i < G.n→(G.lost i=true↔r i=0)
  ownS:∀ i,i < G.n→G.own i=true→G.lost i=false→r i ≠ -1→(∀ t∈G.succ i,r t ≠ -1∧r t+1≤r i)∧((G.succ i=[]∧r i=1)∨∃ t∈G.succ i,r i=r t+1)
  ownU:∀ i,i < G.n→G.own i=true→G.lost i=false→r i = -1→∃ t∈G.succ i,r t = -1
  othS:∀ i,i < G.n→G.own i=false→G.lost i=false→r i ≠ -1→(∃ t∈G.succ i,r t ≠ -1∧r i=r t+1)∧∀ t∈G.succ i,r t ≠ -1→r i≤r t+1
  othU:∀ i,i < G.n→G.own i=false→G.lost i=false→r i = -1→∀ t∈G.succ i,r t = -1
theorem RankEq.to {G:Gm} {r:Nat→Int} (hcl:∀ i,i < G.n→∀ t∈G.succ i,t < G.n) (h:RankEq G r):∀ (k i:Nat),i < G.n→r i ≠ -1→r i≤k→Attr G k i
  | 0,i,hi,h1,h2=>(h.zero i hi).2 (by have:=h.ge i hi;omega)
  | k+1,i,hi,h1,h2=>by
    cases hl:G.lost i with
    | true=>exact Attr.zero hl _
    | false=>
      cases ho:G.own i with
      | true=>
        refine .inr (.inl ⟨ho,fun t ht => ?_⟩)
        obtain ⟨h3,h4⟩:=(h.ownS i hi ho hl h1).1 t ht
        exact RankEq.to hcl h k t (hcl i hi t ht) h3 (by omega)
      | false=>
        obtain ⟨⟨t,ht,h3,h4⟩,_⟩:=h.othS i hi ho hl h1
        exact .inr (.inr ⟨ho,t,ht,RankEq.to hcl h k t (hcl i hi t ht) h3 (by omega)⟩)
theorem RankEq.from {G:Gm} {r:Nat→Int} (hcl:∀ i,i < G.n→∀ t∈G.succ i,t < G.n) (h:RankEq G r):∀ (k i:Nat),i < G.n→Attr G k i→r i ≠ -1∧r i≤k
  | 0,i,hi,h1=>by have:=(h.zero i hi).1 h1;omega
  | k+1,i,hi,h1=>by
    cases hl:G.lost i with
    | true=>have:=(h.zero i hi).1 hl;omega
    | false=>
      rcases h1 with h1 | ⟨ho,h2⟩ | ⟨ho,t,ht,h2⟩
      · rw [hl] at h1;cases h1
      · have hn:r i ≠ -1:=fun e=>by
          obtain ⟨t,ht,h3⟩:=h.ownU i hi ho hl e
          exact (RankEq.from hcl h k t (hcl i hi t ht) (h2 t ht)).1 h3
        refine ⟨hn,?_⟩
        rcases (h.ownS i hi ho hl hn).2 with ⟨_,h3⟩ | ⟨t,ht,h3⟩
        · omega
        · have:=(RankEq.from hcl h k t (hcl i hi t ht) (h2 t ht)).2;omega
      · obtain ⟨h3,h4⟩:=RankEq.from hcl h k t (hcl i hi t ht) h2
        have hn:r i ≠ -1:=fun e=>h3 (h.othU i hi ho hl e t ht)
        exact ⟨hn,by have:=(h.othS i hi ho hl hn).2 t ht h3;omega⟩
theorem RankEq.ok {G:Gm} {r:Nat→Int} (hcl:∀ i,i < G.n→∀ t∈G.succ i,t < G.n) (h:RankEq G r):ziS G r:=fun i hi=>
  ⟨h.ge i hi,fun k=>⟨fun ⟨h1,h2⟩=>h.to hcl k i hi h1 h2,fun h1=>h.from hcl k i hi h1⟩⟩
def upd {α:Type} (f:Nat→α) (i:Nat) (x:α):Nat→α:=fun j=>if j=i then x else f j
theorem qd {α:Type} (f:Nat→α) (i:Nat) (x:α):upd f i x i=x:=if_pos rfl
theorem zM {α:Type} {f:Nat→α} {i j:Nat} {x:α} (h:j≠i):upd f i x j=f j:=if_neg h
theorem QF {p q:Nat→Bool} {t:Nat}:∀ {l:List Nat},(∀ x,q x=true→p x=true)→t∈l→p t=true→q t=false→l.countP q < l.countP p
  | x::l,hqp,ht,hp,hq=>by
    have hle:l.countP q≤l.countP p:=List.countP_mono_left fun x _=>hqp x
    rcases List.mem_cons.1 ht with rfl | ht
    · rw [List.countP_cons_of_neg (by simp [hq]),List.countP_cons_of_pos hp];omega
    · have:=QF hqp ht hp hq
      by_cases h:q x=true
      · rw [List.countP_cons_of_pos h,List.countP_cons_of_pos (hqp x h)];omega
      · rw [List.countP_cons_of_neg h]
        by_cases h2:p x=true
        · rw [List.countP_cons_of_pos h2];omega
        · rw [List.countP_cons_of_neg h2];exact this
def Zj (P:List Nat) (t:Nat):Bool := !(P.contains t)
theorem vo {P:List Nat} {t:Nat}:Zj P t=true↔t ∉ P:=by simp [Zj]
theorem Wp {P:List Nat} {u:Nat} (hu:u ∉ P):∀ l:List Nat,l.countP (Zj P)=l.countP (Zj (P++[u]))+l.count u
  | []=>rfl
  | x::l=>by
    have ih:=Wp hu l
    by_cases hx:x=u
    · subst hx
      rw [List.countP_cons_of_pos (vo.2 hu),List.countP_cons_of_neg (by simp [Zj]),List.count_cons_self];omega
    · rw [List.count_cons_of_ne hx]
      by_cases hp:x∈P
      · rw [List.countP_cons_of_neg (by simp [Zj,hp]),List.countP_cons_of_neg (by simp [Zj,hp])];exact ih
      · rw [List.countP_cons_of_pos (vo.2 hp),List.countP_cons_of_pos (vo.2 (by simp [hp,hx]))];omega
structure Core (G:Gm) (r o:Nat→Int) (K P:List Nat) (c:Nat→Nat):Prop where
  nd:K.Nodup
  lt:∀ x∈K,x < G.n
  mem:∀ i,i < G.n→(i∈K↔r i ≠ -1)
  ge:∀ i,i < G.n → -1≤r i
  mono:K.Pairwise (fun a b=>r a≤r b)
  op:∀ i,i < G.n→o i+c i=((G.succ i).countP (Zj P):Int)
  zero:∀ i,i < G.n→(G.lost i=true↔r i=0)
  ownS:∀ i,i < G.n→G.own i=true→G.lost i=false→r i ≠ -1→o i=0∧(∀ t∈G.succ i,r t ≠ -1∧r t+1≤r i)∧((G.succ i=[]∧r i=1)∨∃ t∈G.succ i,r i=r t+1)
  ownU:∀ i,i < G.n→G.own i=true→G.lost i=false→r i = -1→o i≠0
  othS:∀ i,i < G.n→G.own i=false→G.lost i=false→r i ≠ -1→(∃ t∈G.succ i,r t ≠ -1∧r i=r t+1)∧∀ t∈G.succ i,r t ≠ -1→r i≤r t+1
  othU:∀ i,i < G.n→G.own i=false→G.lost i=false→r i = -1→(∀ t∈G.succ i,t ∉ P)∧c i=0
structure BInv (G:Gm) (r o:Nat→Int) (P Q:List Nat):Prop where
  core:Core G r o (P++Q) P fun _=>0
  top:∀ q Q',Q=q::Q'→∀ x∈P++Q,r x≤r q+1
structure EInv (G:Gm) (r o:Nat→Int) (P:List Nat) (u:Nat) (Q:List Nat) (c:Nat→Nat):Prop where
  core:Core G r o (P++u::Q) P c
  top:∀ x∈P++u::Q,r x≤r u+1
  le:∀ i,i < G.n→c i≤(G.succ i).count u
theorem BInv.enter {G:Gm} {r o:Nat→Int} {P Q:List Nat} {u:Nat} (h:BInv G r o P (u::Q)):EInv G r o P u Q fun _=>0:=
  ⟨h.core,h.top u Q rfl,fun _ _=>Nat.zero_le _⟩
theorem Core.split {G:Gm} {r o:Nat→Int} {P Q:List Nat} {u:Nat} {c:Nat→Nat} (h:Core G r o (P++u::Q) P c):u ∉ P∧u < G.n∧r u ≠ -1∧(∀ x∈P,r x≤r u)∧(∀ x∈Q,r u≤r x):=by
  have hu:u∈P++u::Q:=by simp
  obtain ⟨h1,h2,h3⟩:=List.pairwise_append.1 h.mono
  refine ⟨fun hp => ?_,h.lt u hu,(h.mem u (h.lt u hu)).1 hu,fun x hx=>h3 x hx u (by simp),(List.pairwise_cons.1 h2).1⟩
  exact (List.nodup_append.1 h.nd).2.2 u hp u (by simp) rfl
theorem EInv.room {G:Gm} {r o:Nat→Int} {P Q:List Nat} {u:Nat} {c:Nat→Nat} (h:EInv G r o P u Q c) {i:Nat} (hi:i < G.n) (hc:c i < (G.succ i).count u):0 < o i:=by
  have h1:=h.core.op i hi
  rw [Wp h.core.split.1] at h1
  omega
theorem EInv.skip {G:Gm} {r o:Nat→Int} {P Q:List Nat} {u:Nat} {c:Nat→Nat} (h:EInv G r o P u Q c) {i:Nat} (hi:i < G.n) (hc:c i < (G.succ i).count u) (hs:r i ≠ -1∨(G.own i=true∧o i - 1≠0)) :
    EInv G r (upd o i (o i - 1)) P u Q (upd c i (c i+1)):=by
  have hroom:=h.room hi hc
  have C:=h.core
  refine ⟨{C with op:=fun j hj => ?_,ownS:=fun j hj ho hl hr => ?_,ownU:=fun j hj ho hl hr => ?_,othU:=fun j hj ho hl hr => ?_},h.top,fun j hj => ?_⟩
  · by_cases e:j=i
    · subst e;rw [qd,qd];have:=C.op j hj;omega
    · rw [zM e,zM e];exact C.op j hj
  · obtain ⟨h1,h2⟩:=C.ownS j hj ho hl hr
    by_cases e:j=i
    · subst e;omega
    · rw [zM e];exact ⟨h1,h2⟩
  · by_cases e:j=i
    · subst e;rw [qd]
      rcases hs with hs | ⟨_,hs⟩
      · exact absurd hr hs
      · exact hs
    · rw [zM e];exact C.ownU j hj ho hl hr
  · by_cases e:j=i
    · subst e
      rcases hs with hs | ⟨hs,_⟩
      · exact absurd hr hs
      · rw [ho] at hs;cases hs
    · rw [zM e];exact C.othU j hj ho hl hr
  · by_cases e:j=i
    · subst e;rw [qd];exact hc
    · rw [zM e];exact h.le j hj
theorem EInv.settle {G:Gm} (hcl:∀ i,i < G.n→∀ t∈G.succ i,t < G.n) {r o:Nat→Int} {P Q:List Nat} {u:Nat} {c:Nat→Nat} (h:EInv G r o P u Q c) {i:Nat} (hi:i < G.n) (hc:c i < (G.succ i).count u) (hr:r i = -1) (hs:G.own i=false∨o i - 1=0) :
    EInv G (upd r i (r u+1)) (upd o i (o i - 1)) P u (Q++[i]) (upd c i (c i+1)):=by
  have hroom:=h.room hi hc
  obtain ⟨hu,hun,hru,hP,hQ⟩:=h.core.split
  have C:=h.core
  have hru0:0≤r u:=by have:=C.ge u hun;omega
  have hne:∀ x∈P++u::Q,x≠i:=fun x hx e=>by subst e;exact (C.mem x hi).1 hx hr
  have hui:u≠i:=hne u (by simp)
  have hl:P++u::(Q++[i])=(P++u::Q)++[i]:=by simp
  have hnl:G.lost i=false:=by
    cases hx:G.lost i with
    | false=>rfl
    | true=>have:=(C.zero i hi).1 hx;omega
  have hmem:u∈G.succ i:=List.count_pos_iff.1 (by omega)
  refine ⟨?_,?_,?_⟩
  · rw [hl]
    refine ⟨?_,?_,?_,?_,?_,?_,?_,?_,?_,?_,?_⟩
    · exact List.nodup_append.2 ⟨C.nd,by simp,fun a ha b hb=>by have:b=i:=by simpa using hb
                                                                subst this;exact hne a ha⟩
    · intro x hx
      rcases List.mem_append.1 hx with hx | hx
      · exact C.lt x hx
      · have:x=i:=by simpa using hx
        subst this;exact hi
    · intro j hj
      by_cases e:j=i
      · subst e;rw [qd];simp;omega
      · rw [zM e,←C.mem j hj];simp [e]
    · intro j hj
      by_cases e:j=i
      · subst e;rw [qd];omega
      · rw [zM e];exact C.ge j hj
    · refine List.pairwise_append.2 ⟨C.mono.imp_of_mem fun {a b} ha hb hab=>by rw [zM (hne a ha),zM (hne b hb)];exact hab,by simp,fun a ha b hb => ?_⟩
      have:b=i:=by simpa using hb
      subst this
      rw [qd,zM (hne a ha)];exact h.top a ha
    · intro j hj
      by_cases e:j=i
      · subst e;rw [qd,qd];have:=C.op j hj;omega
      · rw [zM e,zM e];exact C.op j hj
    · intro j hj
      by_cases e:j=i
      · subst e;rw [qd,hnl];constructor
        · intro hx;cases hx
        · intro hx;omega
      · rw [zM e];exact C.zero j hj
    · intro j hj ho hlo hrj
      by_cases e:j=i
      · subst e
        rw [qd] at hrj
        have ho1:o j - 1=0:=by
          rcases hs with hs | hs
          · rw [ho] at hs;cases hs
          · exact hs
        rw [qd,qd]
        have hop:=C.op j hj
        have hall:∀ t∈G.succ j,t∈P∨t=u:=fun t ht=>by
          by_cases htp:t∈P
          · exact .inl htp
          · by_cases htu:t=u
            · exact .inr htu
            · exfalso
              have hst:=QF (p:=Zj P) (q:=fun x=>x == u) (fun x hx=>by have:x=u:=by simpa using hx
                                                                      subst this;exact vo.2 hu) ht (vo.2 htp) (by simp [htu])
              have:(G.succ j).countP (fun x=>x == u)=(G.succ j).count u:=rfl
              omega
        refine ⟨ho1,fun t ht => ?_,.inr ⟨u,hmem,by rw [zM hui]⟩⟩
        have htn:t≠j:=by
          rcases hall t ht with h1 | h1
          · exact hne t (by simp [h1])
          · rw [h1];exact hui
        rw [zM htn]
        rcases hall t ht with h1 | h1
        · exact ⟨(C.mem t (C.lt t (by simp [h1]))).1 (by simp [h1]),by have:=hP t h1;omega⟩
        · rw [h1];exact ⟨hru,by omega⟩
      · rw [zM e] at hrj
        rw [zM e,zM e]
        obtain ⟨h1,h2,h3⟩:=C.ownS j hj ho hlo hrj
        refine ⟨h1,fun t ht => ?_,?_⟩
        · have htn:t≠i:=fun e2=>by rw [e2] at ht;exact (h2 i ht).1 hr
          rw [zM htn];exact h2 t ht
        · rcases h3 with h3 | ⟨t,ht,h3⟩
          · exact .inl h3
          · have htn:t≠i:=fun e2=>by rw [e2] at ht;exact (h2 i ht).1 hr
            exact .inr ⟨t,ht,by rw [zM htn];exact h3⟩
    · intro j hj ho hlo hrj
      by_cases e:j=i
      · subst e;rw [qd] at hrj;omega
      · rw [zM e] at hrj;rw [zM e];exact C.ownU j hj ho hlo hrj
    · intro j hj ho hlo hrj
      by_cases e:j=i
      · subst e
        rw [qd]
        refine ⟨⟨u,hmem,by rw [zM hui];exact hru,by rw [zM hui]⟩,fun t ht htr => ?_⟩
        by_cases e2:t=j
        · subst e2;rw [qd];omega
        · rw [zM e2] at htr ⊢
          obtain ⟨h1,_⟩:=C.othU j hj ho hlo hr
          have htk:=(C.mem t (hcl j hj t ht)).2 htr
          rcases List.mem_append.1 htk with h4 | h4
          · exact absurd h4 (h1 t ht)
          · rcases List.mem_cons.1 h4 with h4 | h4
            · rw [h4];omega
            · have:=hQ t h4;omega
      · rw [zM e] at hrj
        rw [zM e]
        obtain ⟨⟨t,ht,h1,h2⟩,h3⟩:=C.othS j hj ho hlo hrj
        have hj1:=h.top j ((C.mem j hj).2 hrj)
        refine ⟨?_,fun t ht htr => ?_⟩
        · have htn:t≠i:=fun e2=>by rw [e2] at h1;exact h1 hr
          exact ⟨t,ht,by rw [zM htn];exact h1,by rw [zM htn];exact h2⟩
        · by_cases e2:t=i
          · subst e2;rw [qd];omega
          · rw [zM e2] at htr ⊢; exact h3 t ht htr
    · intro j hj ho hlo hrj
      by_cases e:j=i
      · subst e;rw [qd] at hrj;omega
      · rw [zM e] at hrj;rw [zM e];exact C.othU j hj ho hlo hrj
  · rw [hl,zM hui]
    intro x hx
    rcases List.mem_append.1 hx with hx | hx
    · rw [zM (hne x hx)];exact h.top x hx
    · have:x=i:=by simpa using hx
      subst this;rw [qd];omega
  · intro j hj
    by_cases e:j=i
    · subst e;rw [qd];exact hc
    · rw [zM e];exact h.le j hj
theorem BInv.done {G:Gm} {r o:Nat→Int} {P:List Nat} (hcl:∀ i,i < G.n→∀ t∈G.succ i,t < G.n) (h:BInv G r o P []):RankEq G r:=by
  have C:=h.core
  rw [List.append_nil] at C
  refine ⟨C.ge,C.zero,fun i hi ho hl hr=>(C.ownS i hi ho hl hr).2,fun i hi ho hl hr => ?_,C.othS,fun i hi ho hl hr t ht => ?_⟩
  · have h1:=C.ownU i hi ho hl hr
    have h2:=C.op i hi
    have h3:0 < (G.succ i).countP (Zj P):=by omega
    obtain ⟨t,ht,h4⟩:=List.countP_pos_iff.1 h3
    refine ⟨t,ht,?_⟩
    by_cases e:r t = -1
    · exact e
    · exact absurd ((C.mem t (hcl i hi t ht)).2 e) (vo.1 h4)
  · by_cases e:r t = -1
    · exact e
    · exact absurd ((C.mem t (hcl i hi t ht)).2 e) ((C.othU i hi ho hl hr).1 t ht)
end Go.Proofs.YtmoedieenlaegaaGreatDoor
