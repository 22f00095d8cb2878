/-
  What is known of a valid contract; what 'start' does.
  What 'system.Step' does.
  What an act does.
  'system.Step': what it returns.
  'arena.Moves' and 'arena.After': what they return.
  'arena.After'; 'Few', 'Tame', 'Doer'.
  The text of a position tells it from every other position of the same contract.
  A search through positions, breadth first: what is known of it.
  'arena.From': what it returns.
  'system.Start', 'arena.Build', 'Index'.
  What an arena holds: closed under moves, and all that can be reached.
  'arena.Reach': what it returns, with the order in which the states are found.
  region.Ranks: what it returns for an arena is the number of moves in which a breach can be forced.
  region.Ranks: the queue.
-/
import Derived.Test.YtlpmnmbebkdocaaGreatDoorTC11
import Derived.Test.YtlpmnmbebkdocaaGreatDoorTC07
namespace Go.Proofs.YtlpmnmbebkdocaaGreatDoor
open Go.RowKit
set_option linter.unusedSimpArgs false
set_option linter.unusedVariables false
set_option maxRecDepth 100000
structure KV (c:Zab) (i:Nat) (k:Zan):Prop where
  act:0≤k.act∧k.act < c.Zai.length
  after:1≤k.after∧k.after≤400
  kind:k.kind=1∨k.kind=2∨k.kind=3∨k.kind=4
  Zap:k.kind=4∨(0≤k.Zap∧k.Zap < c.Zae.length)
  need:1≤k.need∧k.need≤9
  Zay:0≤k.Zay∧k.Zay≤400
  start:k.start.length≤8
  cond:∀ s∈k.start,0≤s.clause∧s.clause < c.Zag.length
  pause:(k.pause = -1∧k.ZaC = -1)∨(Ze c.Zai k.pause=true∧Ze c.Zai k.ZaC=true)
theorem wg {c:Zab} (ho:c.off.length < 4611686018427387904) (h:(qe c).1=0) {i:Nat} {k:Zan} (hk:c.Zag[i]?=some k):KV c i k:=by
  have sm:=qr ho h
  obtain ⟨_,_,h3,_⟩:=yz h
  have:=h3 i (List.getElem?_eq_some_iff.1 hk).1
  simp only [clB,hk,vG,Bool.and_eq_true,Bool.not_eq_true',decide_eq_false_iff_not] at this
  obtain ⟨⟨a1,a2,a3,a4⟩,⟨a5,a6⟩,a7,a8,_⟩:=this
  have hkd:(k.kind=1∨k.kind=2∨k.kind=3∨k.kind=4)∧(k.kind=4∨(0≤k.Zap∧k.Zap < c.Zae.length))∧(1≤k.need∧k.need≤9)∧(0≤k.Zay∧k.Zay≤400):=by
    unfold WS at a5
    cases h4:(k.kind == 4) with
    | true=>
      rw [h4] at a5
      simp only [cond_true,Bool.and_eq_true,beq_iff_eq] at a5
      have:=beq_iff_eq.1 h4
      omega
    | false=>
      rw [h4] at a5
      simp only [ZaH,Bool.and_eq_true,xV,decide_eq_true_eq] at a5
      obtain ⟨⟨b1,_⟩,b2⟩:=a5
      cases h1:(k.kind == 1) with
      | true=>
        rw [h1] at b2
        simp only [cond_true,Bool.and_eq_true,decide_eq_true_eq] at b2
        have:=beq_iff_eq.1 h1
        omega
      | false=>
        rw [h1] at b2
        cases h2:(k.kind == 2) with
        | true=>
          rw [h2] at b2
          simp only [cond_true,ZaH,Bool.and_eq_true,beq_iff_eq] at b2
          have:=beq_iff_eq.1 h2
          omega
        | false=>
          rw [h2] at b2
          simp only [ZaH,Bool.and_eq_true,beq_iff_eq] at b2
          omega
  refine ⟨⟨by omega,by omega⟩,⟨by omega,by omega⟩,hkd.1,hkd.2.1,hkd.2.2.1,hkd.2.2.2,by omega,fun s hs => ?_,?_⟩
  · have:=sm.cond i k hk s hs;omega
  · simp only [Jc,Bool.or_eq_true,Bool.and_eq_true,beq_iff_eq,Bool.not_eq_true'] at a8
    rcases a8 with h | h
    · exact .inl h
    · exact .inr h.2
structure AV2 (c:Zab) (a:Zaq):Prop where
  Zap:(a.Zap = -1∧a.kind=1)∨(0≤a.Zap∧a.Zap < c.Zae.length)
  kind:a.kind=1∨((a.kind=2∨a.kind=3)∧(0≤a.give∧a.give < c.Zae.length)∧(0≤a.to∧a.to < c.Zao))
theorem zcO {c:Zab} (h:(qe c).1=0) {i:Nat} {a:Zaq} (ha:c.Zai[i]?=some a):AV2 c a:=by
  obtain ⟨_,h2,_,_⟩:=yz h
  simp only [jv,Bool.and_eq_true,Bool.not_eq_true',decide_eq_false_iff_not] at h2
  obtain ⟨_,_,_,_,_,b6,_⟩:=h2
  have:=List.all_eq_true.1 b6 a (List.mem_of_getElem? ha)
  unfold Vy at this
  cases hr:xV c.Zae.length a.Zap with
  | true=>
    rw [hr] at this
    simp only [xV,Bool.and_eq_true,decide_eq_true_eq] at hr
    cases h1:(a.kind == 1) with
    | true=>exact ⟨.inr hr,.inl (beq_iff_eq.1 h1)⟩
    | false=>
      rw [h1] at this
      simp only [cond_true,ZaH,Bool.and_eq_true,Bool.or_eq_true,beq_iff_eq,xV,decide_eq_true_eq] at this
      exact ⟨.inr hr,.inr ⟨this.1,this.2.1,by omega⟩⟩
  | false=>
    rw [hr] at this
    simp only [ZaH,Bool.and_eq_true,beq_iff_eq] at this
    exact ⟨.inl ⟨this.2.1,this.1⟩,.inl this.1⟩
theorem zbN {c:Zab} (h:(qe c).1=0):∀ x∈c.Zae,0≤x∧x < c.Zao:=by
  obtain ⟨_,h2,_,_⟩:=yz h
  simp only [jv,Bool.and_eq_true] at h2
  have:=h2.2.2.2.1
  simp only [yb,List.all_eq_true,Bool.and_eq_true,decide_eq_true_eq] at this
  exact this
theorem zjj {c:Zab} (ho:c.off.length < 4611686018427387904) (h:(qe c).1=0):c.off.Pairwise (· < ·):=by
  obtain ⟨_,h2,_,_⟩:=yz h
  simp only [jv,Bool.and_eq_true] at h2
  have b7:=h2.2.2.2.2.2.2
  have e:Jb c.Zat c.off=kj c.Zat (-1) c.off:=by
    unfold Jb
    rw [zgM c.Zat c.off ho (-1)]
    cases kj c.Zat (-1) c.off<;>rfl
  rw [e] at b7
  exact (Ym b7).2
def MOk (c:Zab) (ms:List zw):Prop:=ms.length=c.Zag.length∧∀ (i:Nat) (k:Zan) (m:zw),c.Zag[i]?=some k→ms[i]?=some m→jh c.Zao k m=true
def NR (c:Zab) (ms:List zw):Prop:=∀ i,i < c.Zag.length→jV c.Zag ms i=false
def xR (k:Zan) (b:Int):zw:={Zam:=1,left:=k.after,got:=0,Zau:=b,ZaA:=false}
def StR (c:Zab) (ms ms':List zw):Prop:=∀ (i:Nat) (m m':zw),ms[i]?=some m→ms'[i]?=some m'→m'=m∨(m.Zam=0∧∃ k b,c.Zag[i]?=some k∧m'=xR k b)
def yc (ms:List zw):Nat:=ms.countP (fun m=>m.Zam == 0)
def kV (hs:List Int) (k:Zan):Int:=bif k.kind == 4 then -1 else hs[k.Zap.toNat]?.getD 0
def Jd (ks:List Zan) (ms:List zw):Nat→Nat→Prop
  | 0,_=>False
  | n+1,i=>∃ k m,ks[i]?=some k∧ms[i]?=some m∧m.Zam=0∧k.ZaB=false∧∀ x∈k.start,xe ms x=true∨(x.is=1∧Jd ks ms n x.clause.toNat)
def Sta (ks:List Zan) (ms:List zw) (i:Nat):Prop:=∃ n,Jd ks ms n i
def zaw (c:Zab) (hs:List Int) (ms r:List zw):Prop:=∀ (i:Nat) (k:Zan) (m:zw),c.Zag[i]?=some k→ms[i]?=some m→r[i]?=some m∨(Sta c.Zag ms i∧r[i]?=some (xR k (kV hs k)))
def zjk (c:Zab) (hs:List Int) (ms r:List zw):Prop:=∀ (i:Nat) (k:Zan) (m:zw),c.Zag[i]?=some k→ms[i]?=some m→(¬ Sta c.Zag ms i∧r[i]?=some m)∨(Sta c.Zag ms i∧r[i]?=some (xR k (kV hs k)))
theorem Yq {ks:List Zan} {ms:List zw}:∀ (n i:Nat),Jd ks ms n i→Jd ks ms (n+1) i
  | 0,i,h=>h.elim
  | n+1,i,⟨k,m,h1,h2,h3,h4,h5⟩=>⟨k,m,h1,h2,h3,h4,fun x hx=>(h5 x hx).imp id fun h=>⟨h.1,Yq n _ h.2⟩⟩
theorem VA {ks:List Zan} {ms:List zw} {n i:Nat} (h:Jd ks ms n i):∀ d,Jd ks ms (n+d) i
  | 0=>h
  | d+1=>Yq _ _ (VA h d)
theorem zbO {ks:List Zan} {ms:List zw}:∀ (l:List CondT),(∀ x∈l,xe ms x=true∨(x.is=1∧Sta ks ms x.clause.toNat))→∃ n,∀ x∈l,xe ms x=true∨(x.is=1∧Jd ks ms n x.clause.toNat)
  | [],_=>⟨0,fun x hx=>by cases hx⟩
  | y::l,h=>by
    obtain ⟨n,hn⟩:=zbO l (fun x hx=>h x (List.mem_cons_of_mem _ hx))
    rcases h y (List.mem_cons_self ..) with h1 | ⟨h1,d,h2⟩
    · refine ⟨n,fun x hx => ?_⟩
      rcases List.mem_cons.1 hx with rfl | hx
      · exact .inl h1
      · exact hn x hx
    · refine ⟨n+d,fun x hx => ?_⟩
      rcases List.mem_cons.1 hx with rfl | hx
      · exact .inr ⟨h1,by rw [Nat.add_comm];exact VA h2 n⟩
      · exact (hn x hx).imp id fun h=>⟨h.1,VA h.2 d⟩
theorem WV {ms:List zw} {x:CondT} {m:zw} (hx:ze ms x.clause=some m) (h1:m.Zam=1):xe ms x=(x.is == 1):=by
  simp only [xe,hx,h1]
  cases (x.is == 1)<;>cases (x.is == 2)<;>cases (x.is == 3)<;>cases (x.is == 4)<;>rfl
theorem zev {ms:List zw} {x:CondT} {m:zw} (hx:ze ms x.clause=some m) (h1:m.Zam=0):xe ms x=false:=by
  simp only [xe,hx,h1]
  cases (x.is == 1)<;>cases (x.is == 2)<;>cases (x.is == 3)<;>cases (x.is == 4)<;>rfl
structure StartP (c:Zab) (hs:List Int) (ms r:List zw):Prop where
  ok:MOk c r
  nr:NR c r
  rel:StR c ms r
  same:NR c ms→r=ms
  sta:zjk c hs ms r
theorem zcP {ks:List Zan} {ms:List zw} {i:Nat} {m:zw} (h:Sta ks ms i) (hm:ms[i]?=some m):m.Zam=0:=by
  obtain ⟨n,h⟩:=h
  cases n with
  | zero=>exact h.elim
  | succ n=>obtain ⟨k,m',_,h2,h3,_⟩:=h;rw [hm] at h2;cases h2;exact h3
theorem zew {c:Zab} {hs:List Int} {ms r:List zw} (hl:ms.length=c.Zag.length) (hr:r.length=c.Zag.length) (hI:zaw c hs ms r) {i:Nat} {k:Zan} (hk:c.Zag[i]?=some k) (hcd:∀ x∈k.start,0≤x.clause∧x.clause < c.Zag.length) (hy:jV c.Zag r i=true):Sta c.Zag ms i:=by
  have hi:=(List.getElem?_eq_some_iff.1 hk).1
  have hm:=List.getElem?_eq_getElem (show i < ms.length by omega)
  have hmr:=List.getElem?_eq_getElem (show i < r.length by omega)
  simp only [jV,hk,hmr,Bool.and_eq_true,Bool.not_eq_true',beq_iff_eq,List.all_eq_true] at hy
  obtain ⟨⟨h0,hw⟩,hc⟩:=hy
  rcases hI i k _ hk hm with h | ⟨h,_⟩
  · rw [hmr] at h
    have e:=Option.some.inj h
    obtain ⟨n,hn⟩:=zbO (ks:=c.Zag) (ms:=ms) k.start (fun x hx=>by
      obtain ⟨x0,x1⟩:=hcd x hx
      have hxi:=jd (l:=ms) (n:=x.clause) x0 (by omega)
      obtain ⟨a1,a2⟩:=hxi
      obtain ⟨b1,b2⟩:=jd (l:=r) (n:=x.clause) x0 (by omega)
      have hkx:=List.getElem?_eq_getElem (show x.clause.toNat < c.Zag.length by omega)
      have hx':=hc x hx
      rcases hI x.clause.toNat _ _ hkx (List.getElem?_eq_getElem a1) with h2 | ⟨h2,h3⟩
      · left
        rw [List.getElem?_eq_getElem b1] at h2
        simp only [xe,b2,Option.some.inj h2] at hx'
        simp only [xe,a2];exact hx'
      · right
        rw [List.getElem?_eq_getElem b1] at h3
        rw [WV b2 (by rw [Option.some.inj h3];rfl)] at hx'
        exact ⟨beq_iff_eq.1 hx',h2⟩)
    exact ⟨n+1,k,_,hk,hm,by rw [←e];exact h0,hw,hn⟩
  · exact h
theorem zhD {c:Zab} {hs:List Int} {ms r:List zw} (hl:ms.length=c.Zag.length) (hr:r.length=c.Zag.length) (hI:zaw c hs ms r) (hn:NR c r) (hcd:∀ (i:Nat) (k:Zan),c.Zag[i]?=some k→∀ x∈k.start,0≤x.clause∧x.clause < c.Zag.length):zjk c hs ms r:=by
  have key:∀ (n i:Nat) (k:Zan),Jd c.Zag ms n i→c.Zag[i]?=some k→r[i]?=some (xR k (kV hs k)):=by
    intro n
    induction n with
    | zero=>intro i k h;exact h.elim
    | succ n ih=>
      intro i k h hk
      have hi:=(List.getElem?_eq_some_iff.1 hk).1
      obtain ⟨k',m,h1,h2,h3,h4,h5⟩:=h
      rw [hk] at h1
      cases h1
      rcases hI i k m hk h2 with h | ⟨_,h⟩
      · exfalso
        have:=hn i hi
        have hy:jV c.Zag r i=true:=by
          simp only [jV,hk,h,h3,h4,beq_self_eq_true,Bool.not_false,Bool.and_true,Bool.true_and,List.all_eq_true]
          intro x hx
          obtain ⟨x0,x1⟩:=hcd i k hk x hx
          obtain ⟨a1,a2⟩:=jd (l:=ms) (n:=x.clause) x0 (by omega)
          obtain ⟨b1,b2⟩:=jd (l:=r) (n:=x.clause) x0 (by omega)
          have hkx:=List.getElem?_eq_getElem (show x.clause.toNat < c.Zag.length by omega)
          rcases h5 x hx with h6 | ⟨h6,h7⟩
          · rcases hI x.clause.toNat _ _ hkx (List.getElem?_eq_getElem a1) with g | ⟨g,g2⟩
            · rw [List.getElem?_eq_getElem b1] at g
              simp only [xe,a2] at h6
              simp only [xe,b2,Option.some.inj g];exact h6
            · rw [zev a2 (zcP g (List.getElem?_eq_getElem a1))] at h6;cases h6
          · have g:=ih _ _ h7 hkx
            rw [List.getElem?_eq_getElem b1] at g
            rw [WV b2 (by rw [Option.some.inj g];rfl),h6];rfl
        rw [hy] at this;cases this
      · exact h
  intro i k m hk hm
  by_cases hs':Sta c.Zag ms i
  · obtain ⟨n,h⟩:=hs'
    exact .inr ⟨⟨n,h⟩,key n i k h hk⟩
  · rcases hI i k m hk hm with h | ⟨h,_⟩
    · exact .inl ⟨hs',h⟩
    · exact absurd h hs'
theorem zex {ms:List zw} {i:Nat} {m m':zw} (h:ms[i]?=some m) (h0:m.Zam=0) (h1:m'.Zam≠0):yc (ms.set i m') < yc ms:=by
  obtain ⟨hi,rfl⟩:=List.getElem?_eq_some_iff.1 h
  unfold yc
  rw [List.countP_set hi]
  have hp:0 < ms.countP (fun m=>m.Zam == 0):=List.countP_pos_iff.2 ⟨_,List.getElem_mem hi,by simp [h0]⟩
  simp only [h0,beq_self_eq_true,if_true,beq_iff_eq,h1,if_false]
  omega
noncomputable def wZ (c:Zab) (day:Int) (hs:List Int) (us:List Bool) (ms:List zw):Option (List zw):=wd c day hs hs.length us us.length ms ms.length
theorem Qg (n:Nat):eqN n n=some ⟨rfl⟩:=by unfold eqN;rw [dif_pos rfl]
theorem x8 {a b:Nat} (h:a=b):eqN a b=some ⟨h⟩:=by unfold eqN;rw [dif_pos h]
theorem Je (c:Zab) (day:Int) (hs:List Int) (us:List Bool) (ms:List zw) (ho:c.off.length < 4611686018427387904) (hv:(qe c).1=0) (hh:hs.length=c.Zae.length) (hb:∀ h∈hs,0≤h∧h < c.Zao) (hm:MOk c ms) :
    Ret (wZ c day hs us ms) (StartP c hs ms):=by
  have sm:=qr ho hv
  have hcl:=sm.Zag
  unfold wZ wd
  refine Ret.bind (P:=fun r=>StartP c hs ms r) (Ret.iter (fun s=>MOk c s.2∧StR c ms s.2∧(NR c ms→s.2=ms)∧zaw c hs ms s.2∧(s.1=false→NR c s.2)) (fun s=>2*yc s.2+(if s.1 then 1 else 0)) ⟨hm,fun i m m' h1 h2=>.inl (by simp only at h2;rw [h1] at h2;exact (Option.some.inj h2).symm),fun _=>rfl,fun i k m h1 h2=>.inl h2,fun h=>by cases h⟩ ?_) (fun r hr=>Ret.some hr)
  have hl0:=hm.1
  have hcd:∀ (i:Nat) (k:Zan),c.Zag[i]?=some k→∀ x∈k.start,0≤x.clause∧x.clause < c.Zag.length:=fun i k hk=>(wg ho hv hk).cond
  rintro ⟨b,ms1⟩ ⟨hok,hrel,hsame,hsta,hnr⟩
  cases b with
  | false=>exact Ret.some ⟨hok,hnr rfl,hrel,hsame,zhD hl0 hok.1 hsta (hnr rfl) hcd⟩
  | true=>
    simp only [cond_true]
    refine Ret.bind (P:=fun o=>∃ s2:Bool×List zw,o=.inl s2∧MOk c s2.2∧StR c ms s2.2∧(NR c ms1→s2.2=ms1)∧zaw c hs ms s2.2∧(s2.1=false→s2.2=ms1∧NR c ms1)∧(s2.1=true→yc s2.2 < yc ms1))
      (Ret.forL (n:=c.Zag.length) (fun i s=>MOk c s.2∧StR c ms s.2∧(NR c ms1→s.2=ms1)∧zaw c hs ms s.2∧(s.1=false→s.2=ms1∧∀ j,j < i→jV c.Zag ms1 j=false)∧(s.1=true→yc s.2 < yc ms1)) (by omega) ⟨hok,hrel,fun _=>rfl,hsta,fun _=>⟨rfl,fun j hj=>by omega⟩,fun h=>by cases h⟩ ?_ (fun s h=>⟨s,rfl,h⟩)) ?_
    · rintro i ⟨b0,ms2⟩ hi ⟨ok2,rel2,same2,sta2,nr2,lt2⟩
      simp only at ok2 rel2 same2 sta2 nr2 lt2
      have hk:=List.getElem?_eq_getElem hi
      have hl2:=ok2.1
      have hi2:i < ms2.length:=by omega
      have hm2:=List.getElem?_eq_getElem hi2
      have kv:=wg ho hv hk
      have hmk:=ok2.2 i _ _ hk hm2
      rw [zl hk]
      simp only [ZaI,Qg,x8 (show ms.length=ms2.length by omega)]
      rw [zbM c _ i _ _ hk hm2 (by have:=kv.start;omega) (fun x hx=>by have:=kv.cond x hx;simp only;omega)]
      simp only [ZaI]
      cases hr:jV c.Zag ms2 i with
      | false=>
        simp only [ZaH,ZaI]
        refine Ret.some ⟨ok2,rel2,same2,sta2,fun hb=>⟨(nr2 hb).1,fun j hj => ?_⟩,lt2⟩
        rcases Nat.lt_or_ge j i with h | h
        · exact (nr2 hb).2 j h
        · obtain rfl:j=i:=by omega
          rw [←(nr2 hb).1];exact hr
      | true=>
        simp only [cond_true]
        have hr':=hr
        simp only [jV,hk,hm2,Bool.and_eq_true,Bool.not_eq_true',beq_iff_eq] at hr'
        obtain ⟨⟨h0,hw⟩,_⟩:=hr'
        have hbear:Ret (bif (c.Zag[i].kind == 4) then some (-1) else (Option.bind (zk hs.length c.Zag[i].Zap) fun k1=>(Option.bind (hs[k1]?) fun e2=>some e2))) (fun v=>v=kV hs c.Zag[i]∧bif c.Zag[i].kind == 4 then v = -1 else 0≤v∧v < c.Zao):=by
          refine Ret.ite (fun h4=>Ret.some (by simp [h4,kV])) (fun h4 => ?_)
          have h4':c.Zag[i].kind≠4:=beq_eq_false_iff_ne.1 h4
          have hro:=kv.Zap.resolve_left h4'
          rw [zbA hro.1 (by omega)]
          have hlt:c.Zag[i].Zap.toNat < hs.length:=by omega
          simp only [ZaI,List.getElem?_eq_getElem hlt]
          exact Ret.some ⟨by simp [kV,h4,List.getElem?_eq_getElem hlt],by rw [h4];exact hb _ (List.getElem_mem hlt)⟩
        refine Ret.bind (P:=fun v:Bool×List zw=>∃ b,v=(true,ms2.set i (xR c.Zag[i] b))∧b=kV hs c.Zag[i]∧(bif c.Zag[i].kind == 4 then b = -1 else 0≤b∧b < c.Zao)) (Ret.bind hbear fun v hv' => ?_) ?_
        · rw [zU (show i < ms.length by omega)]
          simp only [ZaI,hm2]
          exact Ret.some ⟨v,rfl,hv'⟩
        · rintro _ ⟨b,rfl,hbe,hbv⟩
          have hnew:jh c.Zao c.Zag[i] (xR c.Zag[i] b)=true:=by
            simp only [jh,xR,kx,hw]
            have h1:=kv.after
            have:¬ c.Zag[i].after < 1:=by omega
            cases h4:(c.Zag[i].kind == 4) with
            | true=>rw [h4] at hbv;simp only [cond_true] at hbv;subst hbv;simp [this]
            | false=>rw [h4] at hbv;simp only [ZaH] at hbv;simp [this,hbv]
          refine Ret.some ⟨⟨by simpa using hl2,fun j k m hj hmj => ?_⟩,fun j m m' h1 h2 => ?_,fun hn => ?_,fun j k m hj hmj => ?_,fun h=>by simp at h,fun _ => ?_⟩
          · rw [List.getElem?_set] at hmj
            by_cases hij:i=j
            · subst hij
              rw [if_pos rfl,if_pos hi2] at hmj
              rw [hk] at hj
              cases hj;cases hmj;exact hnew
            · rw [if_neg hij] at hmj;exact ok2.2 j k m hj hmj
          · simp only at h2
            rw [List.getElem?_set] at h2
            by_cases hij:i=j
            · subst hij
              rw [if_pos rfl,if_pos hi2] at h2
              cases h2
              refine .inr ⟨?_,_,b,hk,rfl⟩
              rcases rel2 i m _ h1 hm2 with h | ⟨h,_⟩
              · rw [←h];exact h0
              · exact h
            · rw [if_neg hij] at h2;exact rel2 j m m' h1 h2
          · have e:=same2 hn
            have:=hn i hi
            rw [←e,hr] at this
            cases this
          · show (ms2.set i (xR c.Zag[i] b))[j]?=some m∨Sta c.Zag ms j∧(ms2.set i (xR c.Zag[i] b))[j]?=some (xR k (kV hs k))
            rw [List.getElem?_set]
            by_cases hij:i=j
            · subst hij
              rw [if_pos rfl,if_pos hi2]
              rw [hk] at hj
              cases hj
              exact .inr ⟨zew hl0 hl2 sta2 hk (hcd _ _ hk) hr,by rw [hbe]⟩
            · rw [if_neg hij];exact sta2 j k m hj hmj
          · have h3:=zex (m':=xR c.Zag[i] b) hm2 h0 (by simp [xR])
            show yc (ms2.set i (xR c.Zag[i] b)) < yc ms1
            cases b0 with
            | true=>have:=lt2 rfl;omega
            | false=>have e:=(nr2 rfl).1;subst e;exact h3
    · rintro _ ⟨⟨b2,ms2⟩,rfl,ok2,rel2,same2,sta2,nr2,lt2⟩
      simp only at ok2 rel2 same2 sta2 nr2 lt2
      simp only [Sum.elim_inl]
      refine Ret.some ⟨⟨ok2,rel2,fun hn => ?_,sta2,fun hb2 => ?_⟩,?_⟩
      · have e:=hsame hn
        simp only at e
        subst e
        exact same2 hn
      · obtain ⟨e1,e2⟩:=nr2 hb2
        simp only;rw [e1];exact e2
      · simp only
        cases b2 with
        | true=>have:=lt2 rfl;simp;omega
        | false=>have:=(nr2 rfl).1;subst this;simp
def qB (m:zw):Bool:=m.Zam == 1||m.Zam == 2
theorem kW (m:zw):jp m=some (qB m):=by
  simp only [jp,zn,ZaI,qB];cases (m.Zam == 1)<;>rfl
def wp (st:Int) (m:zw):zw:={m with Zam:=st,left:=0,ZaA:=false}
def jJ (free:Bool) (k:Zan) (m:zw):zw:=
  bif qB m then (bif m.ZaA||(k.ZaE&&free) then m else
    bif m.left - 1 == 0 then (bif k.kind == 1 then (bif m.Zam == 1&&decide (0 < k.Zay) then {m with Zam:=2,left:=k.Zay} else wp 4 m) else bif k.kind == 2 then wp 3 m else wp 5 m)
    else {m with left:=m.left - 1}) else m
def atK (c:Zab) (F:Zan→zw→zw) (i:Nat) (m:zw):zw:=match c.Zag[i]? with | some k=>F k m | none=>m
structure RunV (c:Zab) (k:Zan) (m:zw):Prop where
  ZaB:k.ZaB=false
  left:1≤m.left∧m.left≤400
  ZaA:m.ZaA=true→k.pause ≠ -1
  got:m.got=0∨(k.kind=1∧0≤m.got∧m.got < k.need)
  Zau:(k.kind=4∧m.Zau = -1)∨(k.kind≠4∧0≤m.Zau∧m.Zau < c.Zao)
theorem ji {p:Int} {k:Zan} {m:zw}:kx p k m=true↔k.ZaB=false∧1≤m.left∧(m.ZaA=true→k.pause ≠ -1)∧(m.got=0∨(k.kind=1∧0≤m.got∧m.got < k.need))∧((k.kind=4∧m.Zau = -1)∨(k.kind≠4∧0≤m.Zau∧m.Zau < p)):=by
  simp only [kx,Bool.and_eq_true,Bool.not_eq_true',Bool.or_eq_false_iff,decide_eq_false_iff_not,Bool.or_eq_true,beq_iff_eq]
  have e1:(m.ZaA&&k.pause == -1)=false↔(m.ZaA=true→k.pause ≠ -1):=by cases m.ZaA<;>simp
  have e2:(bif k.kind == 4 then m.Zau == -1 else decide (0≤m.Zau)&&decide (m.Zau < p))=true↔((k.kind=4∧m.Zau = -1)∨(k.kind≠4∧0≤m.Zau∧m.Zau < p)):=by
    cases h:(k.kind == 4) with
    | true=>have:=beq_iff_eq.1 h;simp [this]
    | false=>have:=beq_eq_false_iff_ne.1 h;simp [this]
  rw [e1,e2]
  constructor
  · rintro ⟨⟨a,b,d⟩,e,f⟩;exact ⟨a,by omega,d,by omega,f⟩
  · rintro ⟨a,b,d,e,f⟩;exact ⟨⟨a,by omega,d⟩,by omega,f⟩
theorem xM {p:Int} {k:Zan} {m:zw}:jh p k m=true↔(m.Zam=0∧k.ZaB=false∧Ka m=true)∨(m.Zam=1∧m.left≤k.after∧kx p k m=true)∨(m.Zam=2∧k.kind=1∧m.left≤k.Zay∧kx p k m=true)∨((m.Zam=3∨m.Zam=4∨m.Zam=5)∧zcM p m=true):=by
  unfold jh
  by_cases h0:m.Zam=0
  · simp [h0]
  by_cases h1:m.Zam=1
  · simp [h1]
  by_cases h2:m.Zam=2
  · simp [h2]
  have e0:(m.Zam == 0)=false:=beq_eq_false_iff_ne.2 h0
  have e1:(m.Zam == 1)=false:=beq_eq_false_iff_ne.2 h1
  have e2:(m.Zam == 2)=false:=beq_eq_false_iff_ne.2 h2
  simp [e0,e1,e2,h0,h1,h2]
theorem xt {c:Zab} {i:Nat} {k:Zan} {m:zw} (kv:KV c i k) (h:jh c.Zao k m=true) (hr:qB m=true):RunV c k m∧kx c.Zao k m=true∧(m.Zam=1∧m.left≤k.after∨m.Zam=2∧k.kind=1∧m.left≤k.Zay):=by
  simp only [qB,Bool.or_eq_true,beq_iff_eq] at hr
  have ha:=kv.after
  have hg:=kv.Zay
  rcases xM.1 h with ⟨h0,_⟩ | ⟨h0,h1,h2⟩ | ⟨h0,h1,h2,h3⟩ | ⟨h0,_⟩
  · omega
  · obtain ⟨a,b,d,e,f⟩:=ji.1 h2
    exact ⟨⟨a,⟨b,by omega⟩,d,e,f⟩,h2,.inl ⟨h0,h1⟩⟩
  · obtain ⟨a,b,d,e,f⟩:=ji.1 h3
    exact ⟨⟨a,⟨b,by omega⟩,d,e,f⟩,h3,.inr ⟨h0,h1,h2⟩⟩
  · omega
theorem ZA {c:Zab} {i:Nat} {k:Zan} {m:zw} {st:Int} (kv:KV c i k) (rv:RunV c k m) (hp:0 < c.Zao) (hst:st=3∨st=4∨st=5):jh c.Zao k (wp st m)=true:=by
  refine xM.2 (.inr (.inr (.inr ⟨hst,?_⟩)))
  have h1:=rv.got
  have h2:=rv.Zau
  have h3:=kv.need
  have e1:decide (0≤m.got)=true:=decide_eq_true (by omega)
  have e2:decide (m.got≤9)=true:=decide_eq_true (by omega)
  have e3:decide (-1≤m.Zau)=true:=decide_eq_true (by omega)
  have e4:decide (m.Zau < c.Zao)=true:=decide_eq_true (by omega)
  show ((0:Int) == 0&&(decide (0≤m.got)&&(decide (m.got≤9)&&(decide (-1≤m.Zau)&&(decide (m.Zau < c.Zao) && !false)))))=true
  rw [e1,e2,e3,e4];rfl
theorem yS {c:Zab} {k:Zan} {m:zw} (h:(m.Zam=1∧m.left≤k.after)∨(m.Zam=2∧k.kind=1∧m.left≤k.Zay)) (hr:kx c.Zao k m=true):jh c.Zao k m=true:=by
  rcases h with ⟨h0,h1⟩ | ⟨h0,h1,h2⟩
  · exact xM.2 (.inr (.inl ⟨h0,h1,hr⟩))
  · exact xM.2 (.inr (.inr (.inl ⟨h0,h1,h2,hr⟩)))
theorem MOk.mapIdx {c:Zab} {ms:List zw} (F:Zan→zw→zw) (h:MOk c ms) (hF:∀ (i:Nat) (k:Zan) (m:zw),c.Zag[i]?=some k→jh c.Zao k m=true→jh c.Zao k (F k m)=true):MOk c (ms.mapIdx (atK c F)):=by
  refine ⟨by simpa using h.1,fun i k m hk hm => ?_⟩
  rw [List.getElem?_mapIdx] at hm
  obtain ⟨m0,h0,rfl⟩:=Option.map_eq_some_iff.1 hm
  simp only [atK,hk]
  exact hF i k m0 hk (h.2 i k m0 hk h0)
theorem zf2 {c:Zab} {i:Nat} {k:Zan} {m:zw} (free:Bool) (kv:KV c i k) (hp:0 < c.Zao) (h:jh c.Zao k m=true):jh c.Zao k (jJ free k m)=true:=by
  unfold jJ
  cases hr:qB m with
  | false=>exact h
  | true=>
    obtain ⟨rv,hb,hs⟩:=xt kv h hr
    simp only [cond_true]
    cases hp1:(m.ZaA||(k.ZaE&&free)) with
    | true=>exact h
    | false=>
      simp only [ZaH]
      have hl:=rv.left
      obtain ⟨b1,b2,b3,b4,b5⟩:=ji.1 hb
      cases hz:(m.left - 1 == 0) with
      | false=>
        have:=beq_eq_false_iff_ne.1 hz
        refine yS ?_ (ji.2 ⟨b1,?_,b3,b4,b5⟩)
        · simp only [ZaH];omega
        · simp only [ZaH];omega
      | true=>
        simp only [cond_true]
        cases h1:(k.kind == 1) with
        | false=>
          cases h2:(k.kind == 2) with
          | true=>exact ZA kv rv hp (by omega)
          | false=>exact ZA kv rv hp (by omega)
        | true=>
          simp only [cond_true]
          cases h3:(m.Zam == 1&&decide (0 < k.Zay)) with
          | false=>exact ZA kv rv hp (by omega)
          | true=>
            simp only [Bool.and_eq_true,beq_iff_eq,decide_eq_true_eq] at h3
            exact yS (.inr ⟨rfl,beq_iff_eq.1 h1,Int.le_refl _⟩) (ji.2 ⟨b1,by simp only [cond_true];omega,b3,b4,b5⟩)
theorem jN {α:Type} {s:List α} {i:Nat} {m:α} (h:s[i]?=some m):s.set i m=s:=by
  obtain ⟨hi,rfl⟩:=List.getElem?_eq_some_iff.1 h
  exact List.set_getElem_self hi
theorem wG {α:Type} {s:List α} {i:Nat} {m x:α} (h:s[i]?=some m):(s.set i x)[i]?=some x:=by
  have:=(List.getElem?_eq_some_iff.1 h).1
  simp [this]
theorem JT (i:Nat) (st:Int) (c:Zab) (p4:Int) (p5:List Int) (p6:Nat) (p7:List Bool) (p8:Nat) (ms:List zw) (n:Nat) (m:zw) (hi:i < n) (hm:ms[i]?=some m):xQ i st c p4 p5 p6 p7 p8 ms n=some (ms.set i (wp st m)):=by
  unfold xQ
  simp only [zU hi,ZaI,hm,List.set_set,wp]
theorem zhE (c:Zab) (day:Int) (hs:List Int) (us:List Bool) (ms:List zw) (ho:c.off.length < 4611686018427387904) (hv:(qe c).1=0) (hm:MOk c ms) (hday:0≤day∧day≤2000) :
    d_70a c day hs hs.length us us.length ms ms.length=wZ c (day+1) hs us (ms.mapIdx (atK c (jJ (xv c.off day).isSome))):=by
  have sm:=qr ho hv
  have hcl:=sm.Zag
  have hl:=hm.1
  unfold d_70a
  obtain ⟨r,hr,_⟩:=Vz c.off day (zjj ho hv) ho
  rw [hr]
  simp only [ZaI,xd]
  rw [x6 ms (atK c (jJ (xv c.off day).isSome)) (by omega) ?_]
  · simp only [ZaI,Sum.elim_inl]
    rw [zY (by omega) (by omega)]
    unfold wZ
    rw [List.length_mapIdx]
    generalize wd _ _ _ _ _ _ _ _=x
    cases x<;>rfl
  · intro i m s h1 h2 h3
    have hi:i < ms.length:=(List.getElem?_eq_some_iff.1 h1).1
    have hic:i < c.Zag.length:=by omega
    have hk:=List.getElem?_eq_getElem hic
    have kv:=wg ho hv hk
    have hmk:=hm.2 i _ _ hk h1
    simp only [zU hi,ZaI,h3,kW,atK,hk]
    generalize c.Zag[i]=k at hk kv hmk
    cases hrn:qB m with
    | false=>simp only [ZaH,ZaI,jJ,hrn,jN h3]
    | true=>
      obtain ⟨rv,hb,hst⟩:=xt kv hmk hrn
      have hleft:=rv.left
      simp only [cond_true,zl hk,ZaI,jJ,hrn,zn]
      have epb:(bif m.ZaA then true else bif k.ZaE then (xv c.off day).isSome else false)=(m.ZaA||(k.ZaE&&(xv c.off day).isSome)):=by cases m.ZaA<;>cases k.ZaE<;>rfl
      rw [epb]
      cases hp1:(m.ZaA||(k.ZaE&&(xv c.off day).isSome)) with
      | true=>simp only [cond_true,ZaI,Bool.not_true,ZaH,jN h3]
      | false=>
        rw [zY (show -9223372036854775808≤m.left - 1 by omega) (by omega)]
        simp only [ZaH,ZaI,wG h3]
        cases hz:(m.left - 1 == 0) with
        | false=>simp only [ZaH,ZaI,Bool.not_true]
        | true=>
          have hz':=beq_iff_eq.1 hz
          have hk0:(k.kind == 0)=false:=beq_eq_false_iff_ne.2 (by have:=kv.kind;omega)
          simp only [cond_true,hk0,ZaH,Wz,we,kP,zU hi,ZaI,wG h3,zl hk,zn]
          rw [JT i 4 _ _ _ _ _ _ _ _ _ hi (wG h3),JT i 3 _ _ _ _ _ _ _ _ _ hi (wG h3),JT i 5 _ _ _ _ _ _ _ _ _ hi (wG h3)]
          simp only [ZaI,List.set_set,wp,hz']
          cases h1:(k.kind == 1) with
          | true=>
            simp only [cond_true]
            have e3:(bif m.Zam == 1 then decide (0 < k.Zay) else false)=(m.Zam == 1&&decide (0 < k.Zay)):=by cases (m.Zam == 1)<;>rfl
            rw [e3]
            cases h4:(m.Zam == 1&&decide (0 < k.Zay))<;>simp
          | false=>
            cases h2:(k.kind == 2) with
            | true=>simp
            | false=>
              cases h3:(k.kind == 3) with
              | true=>simp
              | false=>
                have h4:(k.kind == 4)=true:=beq_iff_eq.2 (by have:=kv.kind;have:=beq_eq_false_iff_ne.1 h1;have:=beq_eq_false_iff_ne.1 h2;have:=beq_eq_false_iff_ne.1 h3;omega)
                simp [h4]
def xj (act:Int) (k:Zan) (m:zw):zw:=
  bif qB m then (bif act == k.pause then {m with ZaA:=true} else bif act == k.ZaC then {m with ZaA:=false} else m) else m
def zcQ (k:Zan) (m:zw):zw:=bif m.got+1 == k.need then wp 3 {m with got:=m.got+1} else {m with got:=m.got+1}
def zcR (k:Zan) (m:zw):zw:=bif k.kind == 1 then zcQ k m else bif k.kind == 2 then (bif m.ZaA then m else wp 4 m) else wp 3 m
def ve (act by_:Int) (k:Zan) (m:zw):zw:=bif qB m then (bif k.act == act&&(k.kind == 4||m.Zau == by_) then zcR k m else m) else m
def kX (a:Zaq) (k:Zan) (m:zw):zw:=bif qB m then (bif !(k.kind == 4)&&k.Zap == a.give then {m with Zau:=a.to} else m) else m
def qX (hs:List Int) (a:Zaq):Int:=bif a.Zap == -1 then -1 else hs[a.Zap.toNat]?.getD 0
theorem zjl (c:Zab) (s:Zac) (i:Nat) (a:Zaq) (ha:c.Zai[i]?=some a) (h:a.Zap = -1∨(0≤a.Zap∧a.Zap < s.Zae.length)):kn c s i=some (qX s.Zae a):=by
  unfold kn qX
  simp only [zl ha,ZaI]
  cases hr:(a.Zap == -1) with
  | true=>rfl
  | false=>
    have h1:=beq_eq_false_iff_ne.1 hr
    obtain ⟨h2,h3⟩:=jd (l:=s.Zae) (n:=a.Zap) (by omega) (by omega)
    simp only [ZaH,h3,ZaI,List.getElem?_eq_getElem h2,Option.getD_some]
theorem zey {c:Zab} {i:Nat} {k:Zan} {m:zw} {act:Int} (ha:0≤act) (kv:KV c i k) (h:jh c.Zao k m=true):jh c.Zao k (xj act k m)=true:=by
  unfold xj
  cases hr:qB m with
  | false=>exact h
  | true=>
    obtain ⟨rv,hb,hs⟩:=xt kv h hr
    obtain ⟨b1,b2,b3,b4,b5⟩:=ji.1 hb
    simp only [cond_true]
    cases h1:(act == k.pause) with
    | true=>exact yS hs (ji.2 ⟨b1,b2,fun _=>by have:=beq_iff_eq.1 h1;omega,b4,b5⟩)
    | false=>
      cases h2:(act == k.ZaC) with
      | true=>exact yS hs (ji.2 ⟨b1,b2,fun h=>absurd (show false=true from h) (by decide),b4,b5⟩)
      | false=>exact h
theorem zhF {c:Zab} {i:Nat} {k:Zan} {m:zw} {act by_:Int} (hp:0 < c.Zao) (kv:KV c i k) (h:jh c.Zao k m=true):jh c.Zao k (ve act by_ k m)=true:=by
  unfold ve
  cases hr:qB m with
  | false=>exact h
  | true=>
    obtain ⟨rv,hb,hs⟩:=xt kv h hr
    obtain ⟨b1,b2,b3,b4,b5⟩:=ji.1 hb
    simp only [cond_true]
    cases h1:(k.act == act&&(k.kind == 4||m.Zau == by_)) with
    | false=>exact h
    | true=>
      simp only [cond_true,zcR]
      have hn:=kv.need
      cases h2:(k.kind == 1) with
      | true=>
        have hk:=beq_iff_eq.1 h2
        simp only [cond_true,zcQ]
        cases h3:(m.got+1 == k.need) with
        | true=>
          have h3':=beq_iff_eq.1 h3
          refine xM.2 (.inr (.inr (.inr ⟨.inl rfl,?_⟩)))
          have e1:decide (0≤m.got+1)=true:=decide_eq_true (by omega)
          have e2:decide (m.got+1≤9)=true:=decide_eq_true (by omega)
          have e3:decide (-1≤m.Zau)=true:=decide_eq_true (by omega)
          have e4:decide (m.Zau < c.Zao)=true:=decide_eq_true (by omega)
          show ((0:Int) == 0&&(decide (0≤m.got+1)&&(decide (m.got+1≤9)&&(decide (-1≤m.Zau)&&(decide (m.Zau < c.Zao) && !false)))))=true
          rw [e1,e2,e3,e4];rfl
        | false=>
          have h3':=beq_eq_false_iff_ne.1 h3
          refine yS hs (ji.2 ⟨b1,b2,b3,.inr ⟨hk,?_,?_⟩,b5⟩)
          · show 0≤m.got+1;omega
          · show m.got+1 < k.need;omega
      | false=>
        simp only [ZaH]
        cases h3:(k.kind == 2) with
        | true=>
          simp only [cond_true]
          cases m.ZaA with
          | true=>exact h
          | false=>exact ZA kv rv hp (by omega)
        | false=>exact ZA kv rv hp (by omega)
theorem zf3 {c:Zab} {i:Nat} {k:Zan} {m:zw} {a:Zaq} (kv:KV c i k) (ht:0≤a.to∧a.to < c.Zao) (h:jh c.Zao k m=true):jh c.Zao k (kX a k m)=true:=by
  unfold kX
  cases hr:qB m with
  | false=>exact h
  | true=>
    obtain ⟨rv,hb,hs⟩:=xt kv h hr
    obtain ⟨b1,b2,b3,b4,b5⟩:=ji.1 hb
    simp only [cond_true]
    cases h1:(!(k.kind == 4)&&k.Zap == a.give) with
    | false=>exact h
    | true=>
      simp only [Bool.and_eq_true,Bool.not_eq_true',beq_eq_false_iff_ne] at h1
      exact yS hs (ji.2 ⟨b1,b2,b3,b4,.inr ⟨h1.1,ht.1,ht.2⟩⟩)
def ms1 (c:Zab) (act:Int) (ms:List zw):List zw:=ms.mapIdx (atK c (xj act))
def ms2 (c:Zab) (act:Int) (a:Zaq) (hs:List Int) (ms:List zw):List zw:=(ms1 c act ms).mapIdx (atK c (ve act (qX hs a)))
def ms3 (c:Zab) (act:Int) (a:Zaq) (hs:List Int) (ms:List zw):List zw:=bif a.kind == 3 then (ms2 c act a hs ms).mapIdx (atK c (kX a)) else ms2 c act a hs ms
def hs3 (a:Zaq) (hs:List Int):List Int:=bif a.kind == 1 then hs else hs.set a.give.toNat a.to
def us3 (i:Nat) (a:Zaq) (us:List Bool):List Bool:=bif a.kind == 1 then us else us.set i true
theorem zez {c:Zab} {act:Int} {ms:List zw} (ho:c.off.length < 4611686018427387904) (hv:(qe c).1=0) (ha:0≤act) (hm:MOk c ms):MOk c (ms1 c act ms):=
  hm.mapIdx _ fun i k m hk h=>zey ha (wg ho hv hk) h
theorem zax {c:Zab} {act:Int} {a:Zaq} {hs:List Int} {ms:List zw} (ho:c.off.length < 4611686018427387904) (hv:(qe c).1=0) (ha:0≤act) (hm:MOk c ms):MOk c (ms2 c act a hs ms):=
  (zez ho hv ha hm).mapIdx _ fun i k m hk h=>zhF (by have:=(qr ho hv).Zao;omega) (wg ho hv hk) h
theorem zjm {c:Zab} {act:Int} {a:Zaq} {hs:List Int} {ms:List zw} (ho:c.off.length < 4611686018427387904) (hv:(qe c).1=0) (ha:0≤act) (av:AV2 c a) (hm:MOk c ms):MOk c (ms3 c act a hs ms):=by
  unfold ms3
  cases h3:(a.kind == 3) with
  | false=>exact zax ho hv ha hm
  | true=>
    refine (zax ho hv ha hm).mapIdx _ fun i k m hk h=>zf3 (wg ho hv hk) ?_ h
    have:=beq_iff_eq.1 h3
    have:=av.kind
    omega
theorem zjn (c:Zab) (day:Int) (hs:List Int) (us:List Bool) (ms:List zw) (i:Nat) (a:Zaq) (ho:c.off.length < 4611686018427387904) (hv:(qe c).1=0) (hh:hs.length=c.Zae.length) (hu:us.length=c.Zai.length)
    (ha:c.Zai[i]?=some a) (hm:MOk c ms) :
    Qb i c day hs hs.length us us.length ms ms.length=(bif !(a.kind == 1)&&us[i]?.getD false then some (hs,us,ms) else
      (wZ c day (hs3 a hs) (us3 i a us) (ms3 c i a hs ms)).bind fun r=>some (hs3 a hs,us3 i a us,r)):=by
  have sm:=qr ho hv
  have hcl:=sm.Zag
  have hl:=hm.1
  have av:=zcO hv ha
  have hia:i < c.Zai.length:=(List.getElem?_eq_some_iff.1 ha).1
  have hiu:i < us.length:=by omega
  unfold Qb
  have eU:(bif a.kind == 1 then some false else (Option.bind (zk us.length (i:Int)) fun k1=>(Option.bind (us[k1]?) fun e2=>some e2)))=some (!(a.kind == 1)&&us[i]?.getD false):=by
    simp only [zU hiu,ZaI,List.getElem?_eq_getElem hiu,Option.getD_some]
    cases (a.kind == 1)<;>rfl
  simp only [zl ha,ZaI]
  rw [eU]
  simp only [ZaI]
  cases hearly:(!(a.kind == 1)&&us[i]?.getD false) with
  | true=>rfl
  | false=>
    simp only [ZaH,xd,ZaI]
    rw [x6 ms (atK c (xj i)) (by omega) ?p1]
    case p1=>
      intro j m s h1 h2 h3
      have hj:j < ms.length:=(List.getElem?_eq_some_iff.1 h1).1
      have hk:=List.getElem?_eq_getElem (show j < c.Zag.length by omega)
      simp only [zU hj,ZaI,h3,kW,atK,hk,xj]
      generalize c.Zag[j]=k at hk
      cases hrn:qB m with
      | false=>simp only [ZaH,ZaI,jN h3]
      | true=>
        simp only [cond_true,zl hk,ZaI]
        cases ((i:Int) == k.pause) with
        | true=>simp only [cond_true,ZaI,Bool.not_true,ZaH]
        | false=>
          simp only [ZaH]
          cases ((i:Int) == k.ZaC) with
          | true=>simp only [cond_true,ZaI,Bool.not_true,ZaH]
          | false=>simp only [ZaH,ZaI,Bool.not_true,jN h3]
    simp only [ZaI,Sum.elim_inl]
    show Option.bind (eqN hs.length hs.length) _=_
    simp only [Qg,ZaI,x8 (show ms.length=(ms.mapIdx (atK c (xj (i:Int)))).length by simp)]
    rw [zjl c _ i a ha (by have:=av.Zap;simp only;omega)]
    simp only [ZaI]
    have m1ok:=zez (act:=(i:Int)) ho hv (by omega) hm
    have hlen1:(ms.length:Int)=((ms1 c i ms).length:Int):=by simp [ms1]
    show Option.bind (Option.bind (forR (ms.length:Int) _ (ms1 c i ms)) _) _=_
    rw [hlen1]
    rw [x6 (ms1 c i ms) (atK c (ve i (qX hs a))) (by simp [ms1];omega) ?p2]
    case p2=>
      intro j m s h1 h2 h3
      have hj1:j < (ms1 c i ms).length:=(List.getElem?_eq_some_iff.1 h1).1
      have hj:j < ms.length:=by simpa [ms1] using hj1
      have hk:=List.getElem?_eq_getElem (show j < c.Zag.length by omega)
      have kv:=wg ho hv hk
      have hmk:=m1ok.2 j _ _ hk h1
      simp only [zU hj,ZaI,h3,kW,atK,hk,ve]
      generalize c.Zag[j]=k at hk kv hmk
      cases hrn:qB m with
      | false=>simp only [ZaH,ZaI,jN h3]
      | true=>
        obtain ⟨rv,hb,hst⟩:=xt kv hmk hrn
        simp only [cond_true,zl hk,ZaI]
        have eT:(bif k.act == (i:Int) then (bif k.kind == 4 then some true else some (m.Zau == qX hs a)) else some false)=some (k.act == (i:Int)&&(k.kind == 4||m.Zau == qX hs a)):=by
          cases (k.act == (i:Int))<;>cases (k.kind == 4)<;>rfl
        rw [eT]
        simp only [ZaI]
        cases (k.act == (i:Int)&&(k.kind == 4||m.Zau == qX hs a)) with
        | false=>simp only [ZaH,ZaI,Bool.not_true,jN h3]
        | true=>
          have hgot:=rv.got
          have hneed:=kv.need
          have hk0:(k.kind == 0)=false:=beq_eq_false_iff_ne.2 (by have:=kv.kind;omega)
          simp only [cond_true,hk0,ZaH,WB,WA,we,zU hj,ZaI,h3,wG h3,zl hk,zcR,zcQ]
          rw [zY (show -9223372036854775808≤m.got+1 by omega) (by omega)]
          rw [JT j 3 _ _ _ _ _ _ _ _ _ hj h3,JT j 3 _ _ _ _ _ _ _ _ _ hj (wG h3),JT j 4 _ _ _ _ _ _ _ _ _ hj h3]
          simp only [ZaI,List.set_set]
          cases e1:(k.kind == 1) with
          | true=>cases (m.got+1 == k.need)<;>simp
          | false=>
            cases e2:(k.kind == 2) with
            | true=>cases m.ZaA<;>simp [jN h3]
            | false=>
              cases e3:(k.kind == 3) with
              | true=>simp
              | false=>
                have h4:(k.kind == 4)=true:=beq_iff_eq.2 (by have:=kv.kind;have:=beq_eq_false_iff_ne.1 e1;have:=beq_eq_false_iff_ne.1 e2;have:=beq_eq_false_iff_ne.1 e3;omega)
                simp [h4]
    simp only [ZaI,Sum.elim_inl]
    show Option.bind (bif a.kind == 1 then some (hs,us,ms2 c i a hs ms) else _) _=_
    have m2ok:=zax (act:=(i:Int)) (a:=a) (hs:=hs) ho hv (by omega) hm
    cases h1:(a.kind == 1) with
    | true=>
      have h3:(a.kind == 3)=false:=beq_eq_false_iff_ne.2 (by have:=beq_iff_eq.1 h1;omega)
      simp only [cond_true,ZaI,hs3,us3,ms3,h1,h3,ZaH]
      unfold wZ
      rw [show (ms2 c i a hs ms).length=ms.length by simp [ms2,ms1]]
    | false=>
      have hak:=av.kind.resolve_left (beq_eq_false_iff_ne.1 h1)
      have hg:a.give.toNat < hs.length:=by omega
      simp only [ZaH,WC,zl ha,ZaI]
      rw [zbA (show 0≤a.give by omega) (by omega),zU hiu]
      simp only [ZaI,List.getElem?_eq_getElem hg,List.getElem?_eq_getElem hiu,xd,hs3,us3,ms3,h1,ZaH]
      cases h3:(a.kind == 3) with
      | false=>
        simp only [ZaH,ZaI]
        unfold wZ
        rw [show (ms2 c i a hs ms).length=ms.length by simp [ms2,ms1],List.length_set,List.length_set]
        rfl
      | true=>
        simp only [cond_true]
        have hlen2:(ms.length:Int)=((ms2 c i a hs ms).length:Int):=by simp [ms2,ms1]
        rw [hlen2,show List.mapIdx (atK c (ve (i:Int) (qX hs a))) (ms1 c i ms)=ms2 c i a hs ms from rfl]
        rw [x6 (ms2 c i a hs ms) (atK c (kX a)) (by simp [ms2,ms1];omega) ?p3]
        case p3=>
          intro j m s h1 h2 h3
          have hj1:j < (ms2 c i a hs ms).length:=(List.getElem?_eq_some_iff.1 h1).1
          have hj:j < ms.length:=by simpa [ms2,ms1] using hj1
          have hk:=List.getElem?_eq_getElem (show j < c.Zag.length by omega)
          simp only [zU hj,ZaI,h3,kW,atK,hk,kX]
          generalize c.Zag[j]=k at hk
          cases hrn:qB m with
          | false=>simp only [ZaH,ZaI,jN h3]
          | true=>
            simp only [cond_true,zl hk,ZaI]
            cases (k.kind == 4) with
            | true=>simp only [cond_true,ZaI,Bool.not_true,Bool.false_and,ZaH,jN h3]
            | false=>
              simp only [ZaH,ZaI,Bool.not_false,Bool.true_and]
              cases (k.Zap == a.give) with
              | true=>simp only [cond_true,ZaI,Bool.not_true,ZaH]
              | false=>simp only [ZaH,ZaI,Bool.not_true,jN h3]
        simp only [ZaI,Sum.elim_inl]
        unfold wZ
        rw [show ((ms2 c i a hs ms).mapIdx (atK c (kX a))).length=ms.length by simp [ms2,ms1],List.length_set,List.length_set]
def noS:Zac:={day:=0,Zae:=[],used:=[],Zaj:=[]}
def zjo (c:Zab) (i:Nat) (a:Zaq) (s r:Zac):Prop:=
  (a.kind≠1∧s.used[i]?=some true∧r=s)∨((a.kind=1∨s.used[i]?=some false)∧r.day=s.day∧r.Zae=hs3 a s.Zae∧r.used=us3 i a s.used∧StartP c (hs3 a s.Zae) (ms3 c i a s.Zae s.Zaj) r.Zaj)
def zgO (c:Zab) (s r:Zac):Prop:=r.day=s.day+1∧r.Zae=s.Zae∧r.used=s.used∧StartP c s.Zae (s.Zaj.mapIdx (atK c (jJ (xv c.off s.day).isSome))) r.Zaj
theorem Jf {b n:Nat} (h:n < 1000) (hb:b≤1000):mkN b (n:Int)=some n:=by
  unfold mkN
  have:n*b≤1000*1000:=Nat.mul_le_mul (by omega) hb
  rw [if_pos ⟨by omega,by omega,by omega⟩];simp
theorem XB {α:Type} {l d:List α} {k:Nat} (h:k=d.length) (h2:l.length=k):xy k d l=some l:=by unfold xy;rw [if_pos ⟨h,h2⟩]
theorem zhG {α:Type} {l:List α} {i:Nat} {x y:α} (h:y∈l.set i x):y∈l∨y=x:=List.mem_or_eq_of_mem_set h
theorem zay {c:Zab} {s:Zac} {a:Int} (hc:c.Ok) (h:vsB c s=false∨a < -1∨(c.Zai.length:Int)≤a):d_Step c s a=some (noS,1):=by
  unfold d_Step
  rw [kz c s hc]
  simp only [ZaI,zn]
  have:(bif vsB c s then (bif decide (a < -1) then true else decide ((c.Zai.length:Int)≤a)) else true)=true:=by
    rcases h with h | h | h
    · rw [h];rfl
    · rw [decide_eq_true h];cases vsB c s<;>rfl
    · rw [decide_eq_true h];cases vsB c s<;>cases decide (a < -1)<;>rfl
  rw [this];rfl
theorem zf4 {c:Zab} {s:Zac} {a:Int} (hc:c.Ok) (h:vsB c s=true) (h1 : -1≤a) (h2:a < c.Zai.length) (hd:s.day=c.Zat):d_Step c s a=some (noS,13):=by
  unfold d_Step
  rw [kz c s hc]
  have e1:decide (a < -1)=false:=decide_eq_false (by omega)
  have e2:decide ((c.Zai.length:Int)≤a)=false:=decide_eq_false (by omega)
  have e3:(s.day == c.Zat)=true:=beq_iff_eq.2 hd
  simp only [ZaI,h,e1,e2,e3,cond_true,ZaH];rfl
theorem zf5 {c:Zab} {s:Zac} {a:Int} (hc:c.Ok) (hv:VS c s) (h1 : -1≤a) (h2:a < c.Zai.length) (hd:s.day < c.Zat) :
    Ret (d_Step c s a) (fun r=>r.2=0∧VS c r.1∧(a = -1→zgO c s r.1)∧(∀ (i:Nat) (x:Zaq),a=(i:Int)→c.Zai[i]?=some x→zjo c i x s r.1)):=by
  have ho:=hc.off.lt (by omega:0 < 8)
  have sm:=qr ho hv.cv
  have s1:=sm.Zae
  have s2:=sm.Zai
  have s3:=sm.Zag
  have sd:=sm.Zat
  have hlh:=hv.lh
  have hlu:=hv.lu
  have hlm:=hv.lm
  have hday:=hv.day
  have hmo:MOk c s.Zaj:=⟨hlm,fun i k m hk hm=>hv.mrk i k m hk hm⟩
  unfold d_Step
  have e1:decide (a < -1)=false:=decide_eq_false (by omega)
  have e2:decide ((c.Zai.length:Int)≤a)=false:=decide_eq_false (by omega)
  refine Ret.bindE (v:=false) (by rw [kz c s hc,WU hv,e1,e2];rfl) ?_
  refine Ret.ite (fun h=>by cases h) (fun _ => ?_)
  refine Ret.ite (fun h=>absurd (beq_iff_eq.1 h) (by omega)) (fun _ => ?_)
  refine Ret.bindE (Jf (show s.Zae.length < 1000 by omega) (by omega)) ?_
  refine Ret.bindE (Jf (show s.used.length < 1000 by omega) (by omega)) ?_
  refine Ret.bindE (Jf (show s.Zaj.length < 1000 by omega) (by omega)) ?_
  refine Ret.bindE (XB (by simp) rfl) ?_
  refine Ret.bindE (XB (by simp) rfl) ?_
  refine Ret.bindE (XB (by simp) rfl) ?_
  cases ht:(a == (-1:Int)) with
  | true=>
    have ha:=beq_iff_eq.1 ht
    simp only [cond_true]
    rw [zhE c s.day s.Zae s.used s.Zaj ho hv.cv hmo (by omega)]
    have hmo2:MOk c (s.Zaj.mapIdx (atK c (jJ (xv c.off s.day).isSome))):=hmo.mapIdx _ fun i k m hk h=>zf2 _ (wg ho hv.cv hk) (by have:=sm.Zao;omega) h
    refine Ret.bind (P:=fun v:List Int×List Bool×List zw×Int=>v.1=s.Zae∧v.2.1=s.used∧v.2.2.2=s.day+1∧StartP c s.Zae (s.Zaj.mapIdx (atK c (jJ (xv c.off s.day).isSome))) v.2.2.1)
      (Ret.bind (Je c (s.day+1) s.Zae s.used _ ho hv.cv hlh hv.hold hmo2) fun r hr=>Ret.some ⟨rfl,rfl,zY (by omega) (by omega),hr⟩) ?_
    rintro ⟨v1,v2,v3,v4⟩ ⟨q1,q2,q3,q4⟩
    simp only at q1 q2 q3 q4
    subst q1;subst q2;subst q3
    have hl3:s.Zaj.length=v3.length:=by have:=q4.ok.1;omega
    simp only [Qg,x8 hl3,ZaI]
    refine Ret.some ⟨rfl,⟨hv.cv,⟨by show 0≤s.day+1;omega,by show s.day+1≤c.Zat;omega⟩,hlh,hlu,q4.ok.1,hv.hold,hv.used,q4.ok.2,q4.nr⟩,fun _=>⟨rfl,rfl,rfl,q4⟩,fun i x hi=>by omega⟩
  | false=>
    have ha:=beq_eq_false_iff_ne.1 ht
    obtain ⟨i,rfl⟩:∃ i:Nat,a=(i:Int):=⟨a.toNat,by omega⟩
    have hi:i < c.Zai.length:=by omega
    have hx:=List.getElem?_eq_getElem hi
    generalize c.Zai[i]=x at hx
    have av:=zcO hv.cv hx
    simp only [ZaH]
    rw [zjn c s.day s.Zae s.used s.Zaj i x ho hv.cv hlh hlu hx hmo]
    have hiu:i < s.used.length:=by omega
    cases hearly:(!(x.kind == 1)&&s.used[i]?.getD false) with
    | true=>
      simp only [cond_true,ZaI,Qg]
      refine Ret.some ⟨rfl,hv,fun h=>by omega,fun j y hj hy => ?_⟩
      obtain rfl:i=j:=by omega
      rw [hx] at hy;cases hy
      simp only [Bool.and_eq_true,Bool.not_eq_true',beq_eq_false_iff_ne,List.getElem?_eq_getElem hiu,Option.getD_some] at hearly
      exact .inl ⟨hearly.1,by rw [List.getElem?_eq_getElem hiu,hearly.2],rfl⟩
    | false=>
      simp only [ZaH]
      have hkd:=av.kind
      have hh3:(hs3 x s.Zae).length=c.Zae.length:=by unfold hs3;cases (x.kind == 1)<;>simp [hlh]
      have hu3:(us3 i x s.used).length=c.Zai.length:=by unfold us3;cases (x.kind == 1)<;>simp [hlu]
      have hb3:∀ h∈hs3 x s.Zae,0≤h∧h < c.Zao:=by
        unfold hs3
        cases hk1:(x.kind == 1) with
        | true=>exact hv.hold
        | false=>
          intro h hh
          have:=hkd.resolve_left (beq_eq_false_iff_ne.1 hk1)
          rcases zhG hh with h' | h'
          · exact hv.hold h h'
          · omega
      have hus3:∀ (j:Nat) (y:Zaq),c.Zai[j]?=some y→(us3 i x s.used)[j]?=some true→y.kind≠1:=by
        unfold us3
        cases hk1:(x.kind == 1) with
        | true=>exact hv.used
        | false=>
          intro j y hy hj
          simp only [ZaH] at hj
          rw [List.getElem?_set] at hj
          by_cases hij:i=j
          · subst hij
            rw [hx] at hy;cases hy
            exact beq_eq_false_iff_ne.1 hk1
          · rw [if_neg hij] at hj;exact hv.used j y hy hj
      refine Ret.bind (P:=fun v:List Int×List Bool×List zw×Int=>v.1=hs3 x s.Zae∧v.2.1=us3 i x s.used∧v.2.2.2=s.day∧StartP c (hs3 x s.Zae) (ms3 c i x s.Zae s.Zaj) v.2.2.1)
        (Ret.bind (P:=fun v:List Int×List Bool×List zw=>v.1=hs3 x s.Zae∧v.2.1=us3 i x s.used∧StartP c (hs3 x s.Zae) (ms3 c i x s.Zae s.Zaj) v.2.2) (Ret.bind (Je c s.day _ (us3 i x s.used) _ ho hv.cv hh3 hb3 (zjm ho hv.cv (by omega) av hmo)) fun r hr=>Ret.some ⟨rfl,rfl,hr⟩) fun v hv'=>Ret.some ⟨hv'.1,hv'.2.1,rfl,hv'.2.2⟩) ?_
      rintro ⟨v1,v2,v3,v4⟩ ⟨q1,q2,q3,q4⟩
      simp only at q1 q2 q3 q4
      subst q1;subst q2;subst q3
      have hl3:s.Zaj.length=v3.length:=by have:=q4.ok.1;omega
      simp only [x8 (show s.Zae.length=(hs3 x s.Zae).length by omega),x8 (show s.used.length=(us3 i x s.used).length by omega),x8 hl3,ZaI]
      refine Ret.some ⟨rfl,⟨hv.cv,hday,hh3,hu3,q4.ok.1,hb3,hus3,q4.ok.2,q4.nr⟩,fun h=>by omega,fun j y hj hy => ?_⟩
      obtain rfl:i=j:=by omega
      rw [hx] at hy;cases hy
      refine .inr ⟨?_,rfl,rfl,rfl,q4⟩
      simp only [Bool.and_eq_false_iff,Bool.not_eq_false',beq_iff_eq,List.getElem?_eq_getElem hiu,Option.getD_some] at hearly
      rcases hearly with h | h
      · exact .inl h
      · exact .inr (by rw [List.getElem?_eq_getElem hiu,h])
noncomputable def qj (c:Zab) (s:Zac) (a:Int):Zac:=((d_Step c s a).getD (noS,1)).1
theorem jC {c:Zab} {s:Zac} {a:Int} (hc:c.Ok) (hv:VS c s) (h1 : -1≤a) (h2:a < c.Zai.length) (hd:s.day < c.Zat) :
    d_Step c s a=some (qj c s a,0)∧VS c (qj c s a)∧(a = -1→zgO c s (qj c s a))∧(∀ (i:Nat) (x:Zaq),a=(i:Int)→c.Zai[i]?=some x→zjo c i x s (qj c s a)):=by
  obtain ⟨⟨r1,r2⟩,e,h⟩:=zf5 hc hv h1 h2 hd
  have e2:qj c s a=r1:=by unfold qj;rw [e];rfl
  rw [e2,e]
  obtain ⟨h0,h⟩:=h
  simp only at h0 h
  subst h0
  exact ⟨rfl,h⟩
theorem VB {α:Type} [BEq α] [LawfulBEq α] {f:Nat→Unit→Option (Unit ⊕ Unit)} (a b:List α) (hl:a.length=b.length) (ha:a.length < 4611686018427387904) (h:∀ (i:Nat) (h1:i < a.length) (h2:i < b.length),f i ()=some (bif a[i] == b[i] then .inl () else .inr ())) :
    forR (a.length:Int) f ()=some (bif a == b then .inl () else .inr ()):=by
  rw [kU (fun i=>a[i]? == b[i]?) ha (fun i hi=>by
    rw [h i hi (by omega),List.getElem?_eq_getElem hi,List.getElem?_eq_getElem (show i < b.length by omega)]
    show _=some (bif (some a[i] == some b[i]) then _ else _)
    rfl)]
  congr 2
  rw [Bool.eq_iff_iff,List.all_eq_true]
  constructor
  · intro hh
    rw [beq_iff_eq]
    refine List.ext_getElem? fun i => ?_
    by_cases hi:i < a.length
    · exact beq_iff_eq.1 (hh i (List.mem_range.2 hi))
    · rw [List.getElem?_eq_none (by omega),List.getElem?_eq_none (by omega)]
  · intro hh i _
    rw [beq_iff_eq.1 hh];exact beq_self_eq_true _
theorem VC {α:Type} (a b:List α):((a.length:Int) == (b.length:Int))=decide (a.length=b.length):=by
  by_cases h:a.length=b.length
  · simp [h]
  · simp only [h,decide_false];exact beq_eq_false_iff_ne.2 (by omega)
theorem zkS (a b:List Int) (ha:a.length < 4611686018427387904):Y6 a b=some (a == b):=by
  unfold Y6
  rw [VC]
  by_cases h:a.length=b.length
  · simp only [h,decide_true,cond_true]
    rw [←h,VB a b h ha (fun i h1 h2=>by
      simp only [qq,List.getElem?_eq_getElem h1,List.getElem?_eq_getElem h2,ZaI,zn])]
    cases (a == b)<;>rfl
  · simp only [h,decide_false,ZaH]
    have:a≠b:=fun e=>h (by rw [e])
    rw [beq_eq_false_iff_ne.2 this]
theorem zkT (a b:List Bool) (ha:a.length < 4611686018427387904):Y7 a b=some (a == b):=by
  unfold Y7
  rw [VC]
  by_cases h:a.length=b.length
  · simp only [h,decide_true,cond_true]
    rw [←h,VB a b h ha (fun i h1 h2=>by
      simp only [qq,List.getElem?_eq_getElem h1,List.getElem?_eq_getElem h2,ZaI,zn])]
    cases (a == b)<;>rfl
  · simp only [h,decide_false,ZaH]
    have:a≠b:=fun e=>h (by rw [e])
    rw [beq_eq_false_iff_ne.2 this]
instance:BEq zw:=⟨fun a b=>(a.Zam == b.Zam)&&((a.left == b.left)&&((a.got == b.got)&&((a.Zau == b.Zau)&&((a.ZaA == b.ZaA)&&true))))⟩
instance:LawfulBEq zw where
  eq_of_beq {a b} h:=by
    have h':((a.Zam == b.Zam)&&((a.left == b.left)&&((a.got == b.got)&&((a.Zau == b.Zau)&&((a.ZaA == b.ZaA)&&true)))))=true:=h
    simp only [Bool.and_eq_true,beq_iff_eq,and_true] at h'
    obtain ⟨h1,h2,h3,h4,h5⟩:=h'
    cases a;cases b;simp_all
  rfl {a}:=by
    show ((a.Zam == a.Zam)&&((a.left == a.left)&&((a.got == a.got)&&((a.Zau == a.Zau)&&((a.ZaA == a.ZaA)&&true)))))=true
    simp
theorem zkU (a b:List zw) (ha:a.length < 4611686018427387904):Y8 a b=some (a == b):=by
  unfold Y8
  rw [VC]
  by_cases h:a.length=b.length
  · simp only [h,decide_true,cond_true]
    rw [←h,VB a b h ha (fun i h1 h2=>by
      simp only [qq,List.getElem?_eq_getElem h1,List.getElem?_eq_getElem h2,ZaI,zn];rfl)]
    cases (a == b)<;>rfl
  · simp only [h,decide_false,ZaH]
    have:a≠b:=fun e=>h (by rw [e])
    rw [beq_eq_false_iff_ne.2 this]
def yd (a b:Zac):Bool:=a.day == b.day&&(a.Zae == b.Zae&&(a.used == b.used&&a.Zaj == b.Zaj))
theorem kY {a b:Zac}:yd a b=true↔a=b:=by
  unfold yd
  simp only [Bool.and_eq_true,beq_iff_eq]
  constructor
  · rintro ⟨h1,h2,h3,h4⟩
    cases a;cases b;simp_all
  · rintro rfl;exact ⟨rfl,rfl,rfl,rfl⟩
theorem zhH (a b:Zac) (h1:a.Zae.length < 4611686018427387904) (h2:a.used.length < 4611686018427387904) (h3:a.Zaj.length < 4611686018427387904):Zw a b=some (yd a b):=by
  unfold Zw yd
  rw [zkS _ _ h1,zkT _ _ h2,zkU _ _ h3]
  simp only [ZaI,zn,Bool.cond_false_right]
theorem VS.few {c:Zab} {s:Zac} (hc:c.Ok) (h:VS c s):s.Zae.length≤12∧s.used.length≤60∧s.Zaj.length≤400:=by
  have sm:=qr (hc.off.lt (by omega)) h.cv
  have:=sm.Zae
  have:=sm.Zai
  have:=sm.Zag
  have:=h.lh
  have:=h.lu
  have:=h.lm
  omega
theorem zaz {c:Zab} {s:Zac} (hc:c.Ok) (h:VS c s):wn s=some s:=by
  have:=h.few hc
  unfold wn
  rw [kT (by omega),kT (by omega),kT (by omega)]
  rfl
noncomputable def Qh (c:Zab) (Zaa:Int) (s:Zac):Bool:=decide (0≤Zaa)&&(decide (Zaa < c.Zao)&&vsB c s)
theorem WW {c:Zab} (hc:c.Ok) (Zaa:Int) (p:Zah):wY c Zaa p=some (Qh c Zaa p.state):=by
  unfold wY Qh
  rw [kz c _ hc]
  simp only [ZaI,zn,Bool.cond_false_right]
theorem Yr {c:Zab} {Zaa:Int} {s:Zac}:Qh c Zaa s=true↔0≤Zaa∧Zaa < c.Zao∧VS c s:=by
  simp only [Qh,Bool.and_eq_true,decide_eq_true_eq]
  exact ⟨fun ⟨a,b,d⟩=>⟨a,b,zkR d⟩,fun ⟨a,b,d⟩=>⟨a,b,WU d⟩⟩
noncomputable def mvB (c:Zab) (Zaa:Int) (p:Zah) (i:Nat):Bool:=match c.Zai[i]? with
  | some a=>((qX p.state.Zae a == Zaa) == p.own) && !yd (qj c p.state i) p.state
  | none=>false
noncomputable def jg (c:Zab) (Zaa:Int) (p:Zah) (n:Nat):List Int:=((List.range n).filter (mvB c Zaa p)).map fun i:Nat=>(i:Int)
noncomputable def zE (c:Zab) (Zaa:Int) (p:Zah):List Int:=
  (bif p.own then [-2] else [])++(bif decide (c.Zat≤p.state.day) then [] else (bif p.own then [] else [-1])++jg c Zaa p c.Zai.length)
noncomputable def target (c:Zab) (p:Zah) (move:Int):Zah:=if move = -2 then {state:=p.state,own:=false} else {state:=qj c p.state move,own:=true}
theorem yJ (c:Zab) (Zaa:Int) (p:Zah) (n:Nat):jg c Zaa p (n+1)=jg c Zaa p n++(bif mvB c Zaa p n then [(n:Int)] else []):=by
  unfold jg
  rw [List.range_succ,List.filter_append,List.map_append]
  congr 1
  cases h:mvB c Zaa p n<;>simp [h]
theorem Ys (c:Zab) (Zaa:Int) (p:Zah) (n:Nat):(jg c Zaa p n).length≤n:=by
  unfold jg
  rw [List.length_map]
  have:=List.length_filter_le (mvB c Zaa p) (List.range n)
  simpa using this
theorem zf6 {c:Zab} {s:Zac} {a:Zaq} (hv:VS c s) (av:AV2 c a):(bif a.Zap == (-1) then some (-1) else (Option.bind (ze s.Zae a.Zap) fun e2=>some e2))=some (qX s.Zae a):=by
  unfold qX
  cases hr:(a.Zap == (-1:Int)) with
  | true=>rfl
  | false=>
    have h1:=beq_eq_false_iff_ne.1 hr
    have:=av.Zap
    have:=hv.lh
    obtain ⟨h2,h3⟩:=jd (l:=s.Zae) (n:=a.Zap) (by omega) (by omega)
    rw [h3,List.getElem?_eq_getElem h2];rfl
theorem zf7 {c:Zab} {Zaa:Int} {p:Zah} {n:Nat} {x:Int}:x∈jg c Zaa p n↔∃ i:Nat,i < n∧mvB c Zaa p i=true∧x=(i:Int):=by
  unfold jg
  simp only [List.mem_map,List.mem_filter,List.mem_range]
  constructor
  · rintro ⟨i,⟨a,b⟩,rfl⟩;exact ⟨i,a,b,rfl⟩
  · rintro ⟨i,a,b,rfl⟩;exact ⟨i,⟨a,b⟩,rfl⟩
theorem wH {c:Zab} {Zaa:Int} {p:Zah} {x:Int}:x∈zE c Zaa p↔(p.own=true∧x = -2)∨(p.state.day < c.Zat∧p.own=false∧x = -1)∨(p.state.day < c.Zat∧∃ i:Nat,i < c.Zai.length∧mvB c Zaa p i=true∧x=(i:Int)):=by
  unfold zE
  by_cases hd:c.Zat≤p.state.day
  · have:¬ p.state.day < c.Zat:=by omega
    simp only [hd,decide_true,cond_true,List.append_nil,this,false_and,or_false]
    cases p.own<;>simp
  · have:p.state.day < c.Zat:=by omega
    simp only [hd,decide_false,ZaH,List.mem_append,zf7,this,true_and]
    cases p.own<;>simp
def Jg (s:Zac):Int×List Int×List Bool×List zw:=(s.day,s.Zae,s.used,s.Zaj)
def zaA (c:Zab) (n:Int):Bool:=
  !(decide (20 < (c.Zae.length:Int))||(decide (30 < (c.Zav.length:Int))||(decide (70 < (c.Zai.length:Int))||(decide (n < (c.Zag.length:Int))||decide (100 < (c.off.length:Int))))))&&c.Zag.all (fun k=>!decide (20 < (k.start.length:Int)))
theorem zeA (c:Zab) (n:Int) (hc:c.Zag.length < 4611686018427387904):kR c n=some (zaA c n):=by
  unfold kR zaA
  rw [ku (l:=c.Zag) (fun k=>!decide (20 < (k.start.length:Int))) hc (fun i hi=>by
    simp only [qq,List.getElem?_eq_getElem hi,ZaI]
    cases decide (20 < (c.Zag[i].start.length:Int))<;>rfl)]
  simp only [zn,ZaI,Bool.cond_true_left]
  cases (decide (20 < (c.Zae.length:Int))||(decide (30 < (c.Zav.length:Int))||(decide (70 < (c.Zai.length:Int))||(decide (n < (c.Zag.length:Int))||decide (100 < (c.off.length:Int)))))) <;>
    cases c.Zag.all (fun k=>!decide (20 < (k.start.length:Int)))<;>rfl
def zgP (c:Zab):Bool:=zaA c 6&&(decide ((c.Zai.length:Int)≤8)&&decide (c.Zat≤20))
theorem zjp {c:Zab} (hc:c.Ok):WO c=some (zgP c):=by
  unfold WO zgP
  rw [zeA c 6 (hc.Zag.lt (by omega))]
  simp only [zn,ZaI,Bool.cond_false_right]
theorem ye {d:Nat} (h:d < 10):(UInt8.ofNat (48+d)).toNat=48+d:=by
  rw [UInt8.toNat_ofNat'];omega
theorem Jh:∀ (u:Nat),∀ b∈Lib.decDigits u,48≤b.toNat∧b.toNat≤57:=by
  intro u
  induction u using Nat.strongRecOn with
  | _ u ih=>
    intro b hb
    rw [Lib.decDigits] at hb
    by_cases h:u < 10
    · rw [dif_pos h] at hb
      simp only [List.mem_singleton] at hb
      subst hb
      rw [ye h];omega
    · rw [dif_neg h] at hb
      rcases List.mem_append.1 hb with hb | hb
      · exact ih (u / 10) (by omega) b hb
      · simp only [List.mem_singleton] at hb
        subst hb
        rw [ye (by omega)];omega
def Ji (l:List UInt8):Nat:=l.foldl (fun a b=>a*10+(b.toNat - 48)) 0
theorem yK:∀ (u:Nat),Ji (Lib.decDigits u)=u:=by
  intro u
  induction u using Nat.strongRecOn with
  | _ u ih=>
    rw [Lib.decDigits]
    by_cases h:u < 10
    · rw [dif_pos h]
      simp only [Ji,List.foldl_cons,List.foldl_nil,ye h];omega
    · rw [dif_neg h]
      have:=ih (u / 10) (by omega)
      unfold Ji at this ⊢
      rw [List.foldl_append,this]
      simp only [List.foldl_cons,List.foldl_nil,ye (show u % 10 < 10 by omega)];omega
theorem zf8 {a b:Int} (h:Lib.itoa a=Lib.itoa b):a=b:=by
  have key:∀ (u v:Nat),45::Lib.decDigits u=Lib.decDigits v→False:=by
    intro u v h
    have:=Jh v 45 (by rw [←h];exact List.mem_cons_self)
    have e:(45:UInt8).toNat=45:=rfl
    omega
  unfold Lib.itoa at h
  by_cases ha:a < 0
  · by_cases hb:b < 0
    · rw [if_pos ha,if_pos hb] at h
      have h1:=congrArg Ji (List.cons.inj h).2
      rw [yK,yK] at h1
      omega
    · rw [if_pos ha,if_neg hb] at h
      exact (key _ _ h).elim
  · by_cases hb:b < 0
    · rw [if_neg ha,if_pos hb] at h
      exact (key _ _ h.symm).elim
    · rw [if_neg ha,if_neg hb] at h
      have h1:=congrArg Ji h
      rw [yK,yK] at h1
      omega
theorem Yu (n:Int):∀ b∈Lib.itoa n,b≠32:=by
  intro b hb e
  subst e
  have e:(32:UInt8).toNat=32:=rfl
  unfold Lib.itoa at hb
  split at hb
  · rcases List.mem_cons.1 hb with h | h
    · exact absurd h (by decide)
    · have:=Jh _ _ h;omega
  · have:=Jh _ _ hb;omega
def PI {α:Type} (f:α→List UInt8):Prop:=∀ (a b:α) (xs ys:List UInt8),f a++xs=f b++ys→a=b∧xs=ys
theorem zbP:∀ {a b xs ys:List UInt8},(∀ x∈a,x≠32)→(∀ x∈b,x≠32)→a++32::xs=b++32::ys→a=b∧xs=ys
  | [],[],xs,ys,_,_,h=>⟨rfl,(List.cons.inj h).2⟩
  | [],y::b,xs,ys,_,hb,h=>absurd (List.cons.inj h).1.symm (hb y List.mem_cons_self)
  | x::a,[],xs,ys,ha,_,h=>absurd (List.cons.inj h).1 (ha x List.mem_cons_self)
  | x::a,y::b,xs,ys,ha,hb,h=>by
    obtain ⟨h1,h2⟩:=List.cons.inj h
    obtain ⟨h3,h4⟩:=zbP (a:=a) (b:=b) (fun z hz=>ha z (List.mem_cons_of_mem _ hz)) (fun z hz=>hb z (List.mem_cons_of_mem _ hz)) h2
    exact ⟨by rw [h1,h3],h4⟩
theorem ZB:PI zB:=fun a b xs ys h=>by
  unfold zB at h
  rw [List.append_assoc,List.append_assoc] at h
  obtain ⟨h1,h2⟩:=zbP (Yu a) (Yu b) h
  exact ⟨zf8 h1,h2⟩
theorem VD:PI zV:=fun a b xs ys h=>by
  unfold zV at h
  obtain ⟨h1,h2⟩:=List.cons.inj h
  refine ⟨?_,h2⟩
  cases a<;>cases b<;>first | rfl | exact absurd h1 (by decide)
theorem zhI:PI qP:=fun a b xs ys h=>by
  unfold qP at h
  simp only [List.append_assoc] at h
  obtain ⟨h1,h⟩:=ZB _ _ _ _ h
  obtain ⟨h2,h⟩:=ZB _ _ _ _ h
  obtain ⟨h3,h⟩:=ZB _ _ _ _ h
  obtain ⟨h4,h⟩:=ZB _ _ _ _ h
  obtain ⟨h5,h6⟩:=VD _ _ _ _ h
  refine ⟨?_,h6⟩
  clear h6 h
  cases a;cases b
  simp only at h1 h2 h3 h4 h5
  subst h1;subst h2;subst h3;subst h4;subst h5
  rfl
theorem JU {α:Type} {f:α→List UInt8} (hf:PI f):∀ {l m:List α} {xs ys:List UInt8},l.length=m.length→l.flatMap f++xs=m.flatMap f++ys→l=m∧xs=ys
  | [],[],_,_,_,h=>⟨rfl,h⟩
  | [],_::_,_,_,hl,_=>by simp at hl
  | _::_,[],_,_,hl,_=>by simp at hl
  | a::l,b::m,xs,ys,hl,h=>by
    rw [List.flatMap_cons,List.flatMap_cons,List.append_assoc,List.append_assoc] at h
    obtain ⟨h1,h⟩:=hf _ _ _ _ h
    obtain ⟨h2,h⟩:=JU hf (by simpa using hl) h
    exact ⟨by rw [h1,h2],h⟩
theorem zaB {c:Zab} {p q:Zah} (hp:VS c p.state) (hq:VS c q.state) (h:qo p=qo q):p=q:=by
  unfold qo at h
  simp only [List.append_assoc] at h
  obtain ⟨h1,h⟩:=VD _ _ _ _ h
  obtain ⟨h2,h⟩:=ZB _ _ _ _ h
  obtain ⟨h3,h⟩:=JU ZB (by rw [hp.lh,hq.lh]) h
  obtain ⟨h4,h⟩:=JU VD (by rw [hp.lu,hq.lu]) h
  have h5:=(JU (l:=p.state.Zaj) (m:=q.state.Zaj) (xs:=[]) (ys:=[]) zhI (by rw [hp.lm,hq.lm]) (by rw [List.append_nil,List.append_nil];exact h)).1
  clear h
  obtain ⟨⟨d,hs,us,ms⟩,o⟩:=p
  obtain ⟨⟨d',hs',us',ms'⟩,o'⟩:=q
  simp only at h1 h2 h3 h4 h5
  subst h1;subst h2;subst h3;subst h4;subst h5;rfl
theorem Qi {α:Type} {f:α→List UInt8} {b:Nat}:∀ {l:List α},(∀ a∈l,(f a).length≤b)→(l.flatMap f).length≤l.length*b
  | [],_=>by simp
  | a::l,h=>by
    have h1:=h a List.mem_cons_self
    have h2:=Qi (f:=f) (b:=b) (l:=l) fun x hx=>h x (List.mem_cons_of_mem _ hx)
    rw [List.flatMap_cons,List.length_append,List.length_cons,Nat.succ_mul];omega
theorem zeB {c:Zab} {i:Nat} {k:Zan} {m:zw} (kv:KV c i k) (hp:c.Zao≤12) (h:jh c.Zao k m=true):(0≤m.Zam∧m.Zam≤5)∧(0≤m.left∧m.left≤400)∧(0≤m.got∧m.got≤9)∧(-1≤m.Zau∧m.Zau≤12):=by
  have hn:=kv.need
  rcases xM.1 h with ⟨h0,_,h1⟩ | ⟨h0,h1,h2⟩ | ⟨h0,h1,h2,h3⟩ | ⟨h0,h1⟩
  · simp only [Ka,Bool.and_eq_true,beq_iff_eq] at h1
    omega
  · have hr:qB m=true:=by simp [qB,h0]
    obtain ⟨rv,_,_⟩:=xt kv h hr
    have:=rv.left;have:=rv.got;have:=rv.Zau
    omega
  · have hr:qB m=true:=by simp [qB,h0]
    obtain ⟨rv,_,_⟩:=xt kv h hr
    have:=rv.left;have:=rv.got;have:=rv.Zau
    omega
  · simp only [zcM,Bool.and_eq_true,beq_iff_eq,decide_eq_true_eq] at h1
    omega
theorem vH {n:Int} (h0 : -1000000≤n) (h1:n≤1000000):je n=true:=by
  simp only [je,Bool.and_eq_true,decide_eq_true_eq];omega
theorem yT {n:Int} (h0 : -1000000≤n) (h1:n≤1000000):(zB n).length≤22:=by
  have:=Lib.itoa_length_le n (by omega) (by omega)
  simp only [zB,List.length_append,List.length_cons,List.length_nil];omega
def txt (p:Zah):ByteArray:=⟨(qo p).toArray⟩
theorem JV {c:Zab} {p q:Zah} (hp:VS c p.state) (hq:VS c q.state) (h:txt p=txt q):p=q:=by
  refine zaB hp hq ?_
  unfold txt at h
  have h2:=congrArg (fun b:ByteArray=>b.data.toList) h
  simpa using h2
theorem Jj {c:Zab} (hc:c.Ok) {p:Zah} (hp:VS c p.state):jI p=some (txt p):=by
  have ho:=hc.off.lt (by omega:0 < 8)
  have sm:=qr ho hp.cv
  have hpa:=sm.Zao
  have hda:=sm.Zat
  have hday:=hp.day
  have hf:=hp.few hc
  have hh:∀ h∈p.state.Zae,-1000000≤h∧h≤1000000:=fun h hh=>by have:=hp.hold h hh;omega
  have hm:∀ m∈p.state.Zaj,(0≤m.Zam∧m.Zam≤5)∧(0≤m.left∧m.left≤400)∧(0≤m.got∧m.got≤9)∧(-1≤m.Zau∧m.Zau≤12):=fun m hm=>by
    obtain ⟨i,hi,rfl⟩:=List.getElem_of_mem hm
    have hk:=List.getElem?_eq_getElem (show i < c.Zag.length by have:=hp.lm;omega)
    exact zeB (wg ho hp.cv hk) (by omega) (hp.mrk i _ _ hk (List.getElem?_eq_getElem hi))
  have hlen:(qo p).length≤1000000000:=by
    have h1:=yT (n:=p.state.day) (by omega) (by omega)
    have h2:=Qi (f:=zB) (b:=22) (l:=p.state.Zae) fun h hh'=>yT (hh h hh').1 (hh h hh').2
    have h3:=Qi (f:=zV) (b:=1) (l:=p.state.used) fun _ _=>by simp [zV]
    have h4:=Qi (f:=qP) (b:=89) (l:=p.state.Zaj) fun m hm'=>by
      have:=hm m hm'
      have a1:=yT (n:=m.Zam) (by omega) (by omega)
      have a2:=yT (n:=m.left) (by omega) (by omega)
      have a3:=yT (n:=m.got) (by omega) (by omega)
      have a4:=yT (n:=m.Zau) (by omega) (by omega)
      simp only [qP,zV,List.length_append,List.length_cons,List.length_nil];omega
    simp only [qo,List.length_append]
    have:(zV p.own).length=1:=rfl
    omega
  have hok:okP p=true:=by
    simp only [okP,Bool.and_eq_true,decide_eq_true_eq,List.all_eq_true]
    refine ⟨⟨⟨vH (by omega) (by omega),fun x hx=>vH (hh x hx).1 (hh x hx).2⟩,fun m hm' => ?_⟩,hlen⟩
    have:=hm m hm'
    exact ⟨⟨⟨vH (by omega) (by omega),vH (by omega) (by omega)⟩,vH (by omega) (by omega)⟩,vH (by omega) (by omega)⟩
  unfold jI txt
  rw [if_pos hok]
instance:BEq Zah:=⟨fun a b=>a.own == b.own&&yd a.state b.state⟩
instance:LawfulBEq Zah where
  eq_of_beq {a b} h:=by
    have h':(a.own == b.own&&yd a.state b.state)=true:=h
    simp only [Bool.and_eq_true,beq_iff_eq,kY] at h'
    obtain ⟨h1,h2⟩:=h'
    cases a;cases b;simp_all
  rfl {a}:=by
    show (a.own == a.own&&yd a.state a.state)=true
    simp [kY.2 rfl]
noncomputable instance:DecidableEq Zah:=fun a b=>if h:(a == b)=true then isTrue (eq_of_beq h) else isFalse fun e=>h (beq_iff_eq.2 e)
def ZC (q:Zah) (L:List Zah):Option Int:=if q∈L then some (L.idxOf q:Int) else none
def visit (L:List Zah) (q:Zah):Option (Int×List Zah):=if q∈L then some ((L.idxOf q:Int),L) else if L.length=1500 then none else some ((L.length:Int),L++[q])
def zaC (L:List Zah) (F:List (ByteArray×Int)) (q:Zah):List (ByteArray×Int):=if q∈L then F else zP (txt q) (L.length:Int) F
def FRel (c:Zab) (F:List (ByteArray×Int)) (L:List Zah):Prop:=∀ q:Zah,VS c q.state→zq (txt q) F=ZC q L
theorem jw {α β:Type} [DecidableEq α] (k:α) (v:β):∀ l:List (α×β),zq k (zP k v l)=some v
  | []=>by simp [zP,zq]
  | (k',v')::r=>by
    unfold zP
    split
    · simp [zq]
    · rename_i h;simp only [zq,h,if_false];exact jw k v r
theorem jW {α β:Type} [DecidableEq α] {k k2:α} (v:β) (h:k2≠k):∀ l:List (α×β),zq k2 (zP k v l)=zq k2 l
  | []=>by simp [zP,zq,h]
  | (k',v')::r=>by
    unfold zP
    split
    · rename_i e;subst e;simp only [zq,h,if_false]
    · by_cases h2:k2=k'
      · simp only [zq,h2,if_true]
      · simp only [zq,h2,if_false];exact jW v h r
theorem zbi {q q':Zah} {L:List Zah} (hq:q ∉ L):ZC q' (L++[q])=if q'=q then some (L.length:Int) else ZC q' L:=by
  unfold ZC
  by_cases h:q'=q
  · subst h
    rw [if_pos (by simp),if_pos rfl,List.idxOf_append,if_neg hq]
    simp
  · rw [if_neg h]
    by_cases hm:q'∈L
    · rw [if_pos (by simp [hm]),if_pos hm,List.idxOf_append,if_pos hm]
    · rw [if_neg (by simp [hm,h]),if_neg hm]
theorem FRel.visit {c:Zab} {F:List (ByteArray×Int)} {L L':List Zah} {q:Zah} {to:Int} (h:FRel c F L) (hq:VS c q.state) (hv:visit L q=some (to,L')):FRel c (zaC L F q) L':=by
  unfold Go.Proofs.YtlpmnmbebkdocaaGreatDoor.visit at hv
  unfold zaC
  by_cases hm:q∈L
  · rw [if_pos hm] at hv ⊢; cases hv;exact h
  · rw [if_neg hm] at hv ⊢
    split at hv
    · cases hv
    · cases hv
      intro q' hq'
      rw [zbi hm]
      by_cases e:q'=q
      · subst e;rw [jw,if_pos rfl]
      · rw [jW _ (fun h2=>e (JV hq' hq h2)),if_neg e,h q' hq']
theorem zf9 {c:Zab} {F:List (ByteArray×Int)} {L:List Zah} {q:Zah} (h:FRel c F L) (hq:VS c q.state) (hl:L.length≤1500) :
    (bif ((zq (txt q) F).isSome) then some (.inl (((zq (txt q) F).getD 0),L,F)) else (bif ((L.length:Int) == 1500) then some (.inr ()) else (Option.bind (zO (α:=Zah) 88 L [q]) fun e2=>some (.inl ((L.length:Int),e2,(zP (txt q) (L.length:Int) F)))))) =
      some (match visit L q with | some (to,L')=>(.inl (to,L',zaC L F q):(Int×(List Zah)×(List (ByteArray×Int))) ⊕ Unit) | none=>.inr ()):=by
  rw [h q hq]
  unfold ZC visit zaC
  by_cases hm:q∈L
  · simp only [hm,if_true,Option.isSome_some,cond_true,Option.getD_some]
  · simp only [hm,if_false,Option.isSome_none,ZaH]
    by_cases h2:L.length=1500
    · have:((L.length:Int) == 1500)=true:=beq_iff_eq.2 (by omega)
      simp only [h2,if_true];rfl
    · have:((L.length:Int) == 1500)=false:=beq_eq_false_iff_ne.2 (by omega)
      simp only [h2,if_false,this,ZaH]
      rw [jB (by simp;omega)];rfl
noncomputable def jX (c:Zab) (e:Zah):List Int→List Zah×List Zar→Option (List Zah×List Zar)
  | [],s=>some s
  | m::ms,(L,K)=>match visit L (target c e m) with
    | none=>none
    | some (to,L')=>jX c e ms (L',K++[{step:=m,to:=to}])
theorem Zf (c:Zab) (e:Zah):∀ (a b:List Int) (s:List Zah×List Zar),jX c e (a++b) s=(jX c e a s).bind (jX c e b)
  | [],b,s=>rfl
  | m::a,b,(L,K)=>by
    simp only [List.cons_append,jX]
    cases visit L (target c e m) with
    | none=>rfl
    | some x=>exact Zf c e a b _
def XC:Nat→List Zar→Option Nat
  | n,[]=>some n
  | n,t::r=>if 0≤t.to∧t.to≤(n:Int) then XC (if t.to=(n:Int) then n+1 else n) r else none
def yA:Nat→Nat→List (List Zar)→Option Nat
  | i,n,[]=>some n
  | i,n,l::r=>if i < n then (XC n l).bind fun n'=>yA (i+1) n' r else none
theorem Xg (l:List Zar):∀ (M:List (List Zar)) (i n:Nat),yA i n (M++[l])=(yA i n M).bind fun n'=>if i+M.length < n' then XC n' l else none
  | [],i,n=>by
    simp only [List.nil_append,yA,ZaI,List.length_nil,Nat.add_zero]
    split
    · cases XC n l<;>rfl
    · rfl
  | x::M,i,n=>by
    simp only [List.cons_append,yA,List.length_cons]
    split
    · cases XC n x with
      | none=>rfl
      | some n'=>
        simp only [ZaI]
        rw [Xg l M (i+1) n',show i+1+M.length=i+(M.length+1) by omega]
    · rfl
inductive Rch (c:Zab) (Zaa:Int) (p0:Zah):Zah→Prop where
  | base:Rch c Zaa p0 p0
  | step {q:Zah} {m:Int} (h:Rch c Zaa p0 q) (hm:m∈zE c Zaa q):Rch c Zaa p0 (target c q m)
theorem Jk {c:Zab} (hc:c.Ok) {Zaa:Int} {e:Zah} {m:Int} (he:VS c e.state) (hm:m∈zE c Zaa e):VS c (target c e m).state:=by
  unfold target
  by_cases h2:m = -2
  · rw [if_pos h2];exact he
  · rw [if_neg h2]
    rcases wH.1 hm with h | ⟨hd,_,rfl⟩ | ⟨hd,i,hi,_,rfl⟩
    · exact absurd h.2 h2
    · exact (jC hc he (by omega) (by omega) hd).2.1
    · exact (jC hc he (by omega) (by omega) hd).2.1
structure PInv (c:Zab) (Zaa:Int) (p0:Zah) (L:List Zah):Prop where
  vs:∀ q∈L,VS c q.state
  nd:L.Nodup
  rch:∀ q∈L,Rch c Zaa p0 q
  len:L.length≤1500
theorem Yv {c:Zab} {Zaa:Int} {p0 q:Zah} {L L':List Zah} {to:Int} (h:PInv c Zaa p0 L) (hq:VS c q.state) (hr:Rch c Zaa p0 q) (hv:visit L q=some (to,L')) :
    PInv c Zaa p0 L'∧(∃ r,L'=L++r)∧0≤to∧L'[to.toNat]?=some q∧to≤(L.length:Int)∧L'.length=(if to=(L.length:Int) then L.length+1 else L.length):=by
  unfold visit at hv
  by_cases hm:q∈L
  · rw [if_pos hm] at hv;cases hv
    have hi:=List.idxOf_lt_length_iff.2 hm
    refine ⟨h,⟨[],by simp⟩,by omega,?_,by omega,by rw [if_neg (by omega)]⟩
    rw [Int.toNat_natCast,List.getElem?_eq_getElem hi,List.getElem_idxOf hi]
  · rw [if_neg hm] at hv
    split at hv
    · cases hv
    · rename_i hl
      cases hv
      have hlen:=h.len
      refine ⟨⟨fun x hx => ?_,?_,fun x hx => ?_,by simp;omega⟩,⟨[q],rfl⟩,by omega,by simp,Int.le_refl _,by simp⟩
      · rcases List.mem_append.1 hx with hx | hx
        · exact h.vs x hx
        · rw [List.mem_singleton.1 hx];exact hq
      · exact List.nodup_append.2 ⟨h.nd,by simp,fun a ha b hb=>by rw [List.mem_singleton.1 hb];exact fun e=>hm (e ▸ ha)⟩
      · rcases List.mem_append.1 hx with hx | hx
        · exact h.rch x hx
        · rw [List.mem_singleton.1 hx];exact hr
theorem zeC {L:List Zah} {q:Zah} (hv:visit L q=none):q ∉ L:=by
  unfold visit at hv
  split at hv
  · cases hv
  · assumption
theorem zcS {L:List Zah} {q:Zah} (hv:visit L q=none):L.length=1500:=by
  unfold visit at hv
  split at hv
  · cases hv
  · split at hv
    · rename_i h;exact h
    · cases hv
def MvOk (c:Zab) (Zaa:Int) (L:List Zah) (e:Zah) (ms:List Int) (T:List Zar):Prop:=T.map (·.step)=ms∧∀ t∈T,0≤t.to∧L[t.to.toNat]?=some (target c e t.step)
theorem vJ {α:Type} {L r:List α} {i:Nat} {x:α} (h:L[i]?=some x):(L++r)[i]?=some x:=by
  rw [List.getElem?_append_left (List.getElem?_eq_some_iff.1 h).1];exact h
theorem MvOk.app {c:Zab} {Zaa:Int} {L:List Zah} {e:Zah} {ms:List Int} {T:List Zar} (h:MvOk c Zaa L e ms T) (r:List Zah):MvOk c Zaa (L++r) e ms T:=
  ⟨h.1,fun t ht=>⟨(h.2 t ht).1,vJ (h.2 t ht).2⟩⟩
theorem XD {c:Zab} (hc:c.Ok) {Zaa:Int} {p0 e:Zah} (he:VS c e.state) (hr:Rch c Zaa p0 e):∀ (ms:List Int) (L L':List Zah) (K K':List Zar),(∀ m∈ms,m∈zE c Zaa e)→PInv c Zaa p0 L→jX c e ms (L,K)=some (L',K') →
    PInv c Zaa p0 L'∧(∃ r,L'=L++r)∧∃ T,K'=K++T∧MvOk c Zaa L' e ms T∧XC L.length T=some L'.length
  | [],L,L',K,K',_,h,hp=>by
    cases hp
    exact ⟨h,⟨[],by simp⟩,[],by simp,⟨rfl,fun t ht=>by cases ht⟩,rfl⟩
  | m::ms,L,L',K,K',hms,h,hp=>by
    simp only [jX] at hp
    have hm:=hms m List.mem_cons_self
    cases hv:visit L (target c e m) with
    | none=>rw [hv] at hp;cases hp
    | some x=>
      obtain ⟨to,L1⟩:=x
      rw [hv] at hp
      obtain ⟨h1,⟨r1,e1⟩,t0,tq,tl,tn⟩:=Yv h (Jk hc he hm) (.step hr hm) hv
      obtain ⟨h2,⟨r2,e2⟩,T,eT,hT,hch⟩:=XD hc he hr ms L1 L' _ K' (fun x hx=>hms x (List.mem_cons_of_mem _ hx)) h1 hp
      refine ⟨h2,⟨r1++r2,by rw [e2,e1,List.append_assoc]⟩,{step:=m,to:=to}::T,by rw [eT];simp,⟨by simp [hT.1],fun t ht => ?_⟩,?_⟩
      · rcases List.mem_cons.1 ht with rfl | ht
        · exact ⟨t0,by rw [e2];exact vJ tq⟩
        · exact hT.2 t ht
      · simp only [XC]
        rw [if_pos ⟨t0,tl⟩,←tn];exact hch
theorem Yw {c:Zab} (hc:c.Ok) {Zaa:Int} {p0 e:Zah} (he:VS c e.state) (hr:Rch c Zaa p0 e):∀ (ms:List Int) (L:List Zah) (K:List Zar),(∀ m∈ms,m∈zE c Zaa e)→PInv c Zaa p0 L→jX c e ms (L,K)=none →
    ∃ L1,PInv c Zaa p0 L1∧L1.length=1500∧∃ q,Rch c Zaa p0 q∧q ∉ L1
  | [],L,K,_,h,hp=>by cases hp
  | m::ms,L,K,hms,h,hp=>by
    simp only [jX] at hp
    have hm:=hms m List.mem_cons_self
    cases hv:visit L (target c e m) with
    | none=>exact ⟨L,h,zcS hv,_,.step hr hm,zeC hv⟩
    | some x=>
      obtain ⟨to,L1⟩:=x
      rw [hv] at hp
      obtain ⟨h1,_⟩:=Yv h (Jk hc he hm) (.step hr hm) hv
      exact Yw hc he hr ms L1 _ (fun x hx=>hms x (List.mem_cons_of_mem _ hx)) h1 hp
abbrev XT:Type:=(List Zah)×(List (ByteArray×Int))×(List Zar)
def GotP (c:Zab) (Zaa:Int) (p0 e:Zah) (L0:List Zah) (ms:List Int) (x:XT):Prop:=jX c e ms (L0,[])=some (x.1,x.2.2)∧FRel c x.2.1 x.1
theorem Yx {c:Zab} (hc:c.Ok) {Zaa:Int} {e:Zah} (he:VS c e.state):(zE c Zaa e).length≤62:=by
  have sm:=qr (hc.off.lt (by omega)) he.cv
  have sa:=sm.Zai
  have:=Ys c Zaa e c.Zai.length
  unfold zE
  cases e.own<;>cases decide (c.Zat≤e.state.day)<;>simp<;>omega
theorem GotP.facts {c:Zab} (hc:c.Ok) {Zaa:Int} {p0 e:Zah} {L0:List Zah} {ms:List Int} {x:XT} (he:VS c e.state) (hr:Rch c Zaa p0 e) (hP:PInv c Zaa p0 L0) (hms:∀ m∈ms,m∈zE c Zaa e) (h:GotP c Zaa p0 e L0 ms x) :
    PInv c Zaa p0 x.1∧x.2.2.length=ms.length:=by
  obtain ⟨h1,_,T,eT,hT,_⟩:=XD hc he hr ms L0 x.1 [] x.2.2 hms hP h.1
  refine ⟨h1,?_⟩
  rw [eT,List.nil_append,←hT.1,List.length_map]
theorem XE {c:Zab} (hc:c.Ok) {Zaa:Int} {p0 e:Zah} {L0:List Zah} {ms:List Int} {m:Int} {L:List Zah} {F:List (ByteArray×Int)} {K:List Zar} {q:Zah} (he:VS c e.state) (hr:Rch c Zaa p0 e) (hP:PInv c Zaa p0 L0) (hms:∀ x∈ms,x∈zE c Zaa e) (hm:m∈zE c Zaa e) (hlen:ms.length≤100)
    (hq:q=target c e m) (h:GotP c Zaa p0 e L0 ms (L,F,K)) {β:Type} {k:Int×(List Zah)×(List (ByteArray×Int))→Option β} {z:Option β} {Q:β→Prop}
    (hk:∀ (to:Int) (L':List Zah) (F':List (ByteArray×Int)),GotP c Zaa p0 e L0 (ms++[m]) (L',F',K++[{step:=m,to:=to}])→zO (α:=Zar) 16 K [({step:=m,to:=to}:Zar)]=some (K++[{step:=m,to:=to}])→Ret (k (to,L',F')) Q)
    (hz:jX c e (ms++[m]) (L0,[])=none→Ret z Q) :
    Ret (Option.bind (jI q) fun r=>(Option.bind (α:=(Int×(List Zah)×(List (ByteArray×Int))) ⊕ Unit) (bif ((zq r F).isSome) then some (.inl (((zq r F).getD 0),L,F)) else (bif ((L.length:Int) == 1500) then some (.inr ()) else (Option.bind (zO (α:=Zah) 88 L [q]) fun e2=>some (.inl ((L.length:Int),e2,(zP r (L.length:Int) F)))))) (Sum.elim k (fun _=>z)))) Q:=by
  obtain ⟨hPI,hKl⟩:=h.facts hc he hr hP hms
  have hvq:VS c q.state:=by rw [hq];exact Jk hc he hm
  refine Ret.bindE (Jj hc hvq) ?_
  refine Ret.bindE (zf9 h.2 hvq hPI.len) ?_
  have happ:jX c e (ms++[m]) (L0,[])=(match visit L q with | none=>none | some (to,L')=>some (L',K++[{step:=m,to:=to}])):=by
    rw [Zf,h.1]
    simp only [ZaI,jX,hq]
    all_goals (cases visit L (target c e m)<;>rfl)
  cases hv:visit L q with
  | none=>
    rw [hv] at happ
    exact hz happ
  | some x=>
    obtain ⟨to,L'⟩:=x
    rw [hv] at happ
    refine hk to L' (zaC L F q) ⟨happ,FRel.visit h.2 hvq hv⟩ (jB ?_)
    simp only at hKl
    rw [hKl];simp;omega
theorem WX (c:Zab) (Zaa:Int) (p:Zah) {m n:Nat} (h:m≤n):∃ r,jg c Zaa p n=jg c Zaa p m++r:=by
  induction h with
  | refl=>exact ⟨[],by simp⟩
  | step _ ih=>
    obtain ⟨r,hr⟩:=ih
    rw [yJ,hr]
    exact ⟨_,List.append_assoc _ _ _⟩
theorem yE {c:Zab} {e:Zah} {a b:List Int} {s:List Zah×List Zar} (h:jX c e a s=none):jX c e (a++b) s=none:=by rw [Zf,h];rfl
structure FromOk (c:Zab) (Zaa:Int) (p:Zah) (L:List Zah) (M:List (List Zar)):Prop where
  inv:PInv c Zaa p L
  first:L[0]?=some p
  len:M.length=L.length
  mv:∀ (j:Nat) (T:List Zar) (e:Zah),M[j]?=some T→L[j]?=some e→MvOk c Zaa L e (zE c Zaa e) T
  chk:yA 0 1 M=some L.length
def zga (c:Zab) (Zaa:Int) (p:Zah):Prop:=∃ L1,PInv c Zaa p L1∧L1.length=1500∧∃ q,Rch c Zaa p q∧q ∉ L1
structure FInv (c:Zab) (Zaa:Int) (p:Zah) (s:Int×(List Zah)×(List (List Zar))×(List (ByteArray×Int))):Prop where
  i:s.1=(s.2.2.1.length:Int)
  le:s.2.2.1.length≤s.2.1.length
  inv:PInv c Zaa p s.2.1
  rel:FRel c s.2.2.2 s.2.1
  first:s.2.1[0]?=some p
  mv:∀ (j:Nat) (T:List Zar) (e:Zah),s.2.2.1[j]?=some T→s.2.1[j]?=some e→MvOk c Zaa s.2.1 e (zE c Zaa e) T
  chk:yA 0 1 s.2.2.1=some s.2.1.length
theorem zgb {c:Zab} (hc:c.Ok) {Zaa:Int} {p:Zah} (hpl:Qh c Zaa p.state=true) :
    Ret (x4 c Zaa p) (fun r=>(r.2=0∧r.1.Zaa=Zaa∧FromOk c Zaa p r.1.Zaw r.1.moves)∨(r.2=3∧zga c Zaa p)):=by
  obtain ⟨hp0,hp1,hv⟩:=Yr.1 hpl
  have sm:=qr (hc.off.lt (by omega)) hv.cv
  have sa:=sm.Zai
  unfold x4
  refine Ret.bindE (by rw [WW hc,hpl]) ?_
  refine Ret.ite (fun _ => ?_) (fun h=>by cases h)
  refine Ret.bindE (zaz hc hv) ?_
  refine Ret.bindE (Jj hc hv) ?_
  refine Ret.bind (P:=fun o:((List Zah)×(List (List Zar))) ⊕ Unit=>(∃ L M,o=.inl (L,M)∧FromOk c Zaa p L M)∨(o=.inr ()∧zga c Zaa p)) ?_ ?_
  · refine Ret.bind (P:=fun o:((List Zah)×(List (List Zar))) ⊕ Unit=>(∃ L M,o=.inl (L,M)∧FromOk c Zaa p L M)∨(o=.inr ()∧zga c Zaa p)) (Ret.iter (FInv c Zaa p) (fun s=>(1501 - s.1).toNat) ?_ ?_) ?_
    · refine ⟨rfl,by simp,⟨fun q hq => ?_,by simp,fun q hq => ?_,by simp⟩,?_,rfl,fun j T e h=>by simp at h,rfl⟩
      · rw [List.mem_singleton.1 hq];exact hv
      · rw [List.mem_singleton.1 hq];exact .base
      · intro q hq
        simp only [zP,zq,ZC,List.mem_singleton]
        by_cases e:q={state:=p.state,own:=p.own}
        · subst e
          simp [List.idxOf_cons,txt]
        · have e2:txt q≠txt p:=fun h=>e (JV hq hv h)
          rw [if_neg e2,if_neg e]
    · rintro ⟨i,L,M,F⟩ ⟨hi,hle,hinv,hrel,hfst,hmv,hchk⟩
      simp only at hi hle hinv hrel hfst hmv hchk ⊢
      subst hi
      have hlen:=hinv.len
      refine Ret.ite (fun hlt => ?_) (fun hge => ?_)
      · have hlt:=of_decide_eq_true hlt
        have hML:M.length < L.length:=by omega
        have heq:=List.getElem?_eq_getElem hML
        have hme:=List.getElem_mem hML
        have he:=hinv.vs _ hme
        have hr:=hinv.rch _ hme
        generalize L[M.length]=e at heq he hr
        have hmlen:=Yx hc (Zaa:=Zaa) he
        refine Ret.bind (P:=fun o:XT ⊕ Unit=>(∃ x,o=.inl x∧GotP c Zaa p e L (zE c Zaa e) x)∨(o=.inr ()∧jX c e (zE c Zaa e) (L,[])=none)) ?_ ?_
        · refine Ret.bindE (zl heq) ?_
          refine Ret.bindE (x:=WD c Zaa e) (v:=()) rfl ?_
          refine Ret.bind (P:=fun o:XT ⊕ (Unit ⊕ XT)=>(∃ x,o=.inl x∧e.state.day < c.Zat∧GotP c Zaa p e L (bif e.own then [-2] else []) x)∨(o=.inr (.inl ())∧jX c e (bif e.own then [-2] else []) (L,[])=none)∨(∃ x,o=.inr (.inr x)∧c.Zat≤e.state.day∧GotP c Zaa p e L (bif e.own then [-2] else []) x)) ?_ ?_
          · have hbase:GotP c Zaa p e L [] (L,F,[]):=⟨rfl,hrel⟩
            cases ho:e.own with
            | false=>
              simp only [ZaH]
              refine Ret.ite (fun hd=>Ret.some (.inr (.inr ⟨_,rfl,of_decide_eq_true hd,hbase⟩))) (fun hd=>Ret.some (.inl ⟨_,rfl,by have:=of_decide_eq_false hd;omega,hbase⟩))
            | true=>
              simp only [cond_true]
              refine Ret.bindE (zaz hc he) ?_
              have hm2:(-2:Int)∈zE c Zaa e:=wH.2 (.inl ⟨ho,rfl⟩)
              refine XE hc he hr hinv (fun x hx=>by cases hx) hm2 (by simp) (by unfold target;rw [if_pos rfl]) hbase (fun to L' F' hg ha => ?_) (fun hz=>Ret.some (.inr (.inl ⟨rfl,hz⟩)))
              refine Ret.bindE ha ?_
              refine Ret.ite (fun hd=>Ret.some (.inr (.inr ⟨_,rfl,of_decide_eq_true hd,hg⟩))) (fun hd=>Ret.some (.inl ⟨_,rfl,by have:=of_decide_eq_false hd;omega,hg⟩))
          · rintro o (⟨⟨L1,F1,K1⟩,rfl,hd,hg⟩ | ⟨rfl,hn⟩ | ⟨⟨L1,F1,K1⟩,rfl,hd,hg⟩)
            · -- there is time left: the tick
              have hmv0:zE c Zaa e=(bif e.own then [-2] else [-1])++jg c Zaa e c.Zai.length:=by
                unfold zE
                rw [decide_eq_false (show ¬ c.Zat≤e.state.day by omega)]
                cases e.own<;>rfl
              refine Ret.bind (P:=fun o:XT ⊕ Unit=>(∃ x,o=.inl x∧GotP c Zaa p e L (bif e.own then [-2] else [-1]) x)∨(o=.inr ()∧jX c e (bif e.own then [-2] else [-1]) (L,[])=none)) ?_ ?_
              · cases ho:e.own with
                | true=>rw [ho] at hg;exact Ret.some (.inl ⟨_,rfl,hg⟩)
                | false=>
                  rw [ho] at hg
                  simp only [ZaH] at hg ⊢
                  obtain ⟨est,_⟩:=jC (a := -1) hc he (by omega) (by omega) hd
                  refine Ret.bindE est ?_
                  have hm1:(-1:Int)∈zE c Zaa e:=wH.2 (.inr (.inl ⟨hd,ho,rfl⟩))
                  refine XE hc he hr hinv (fun x hx=>by cases hx) hm1 (by simp) (by unfold target;rw [if_neg (by omega)]) hg (fun to L' F' hg ha => ?_) (fun hz=>Ret.some (.inr ⟨rfl,hz⟩))
                  refine Ret.bindE ha ?_
                  exact Ret.some (.inl ⟨_,rfl,hg⟩)
              · rintro o (⟨⟨L2,F2,K2⟩,rfl,hg2⟩ | ⟨rfl,hn⟩)
                · -- the Zai
                  refine Ret.bind (P:=fun o:XT ⊕ XT=>(∃ x,o=.inl x∧GotP c Zaa p e L (zE c Zaa e) x)∨(∃ x,o=.inr x∧jX c e (zE c Zaa e) (L,[])=none)) ?_ ?_
                  · have hsub:∀ i,i≤c.Zai.length→∀ x∈(bif e.own then [-2] else [-1])++jg c Zaa e i,x∈zE c Zaa e:=by
                      intro i hi x hx
                      rw [hmv0]
                      obtain ⟨r,hr'⟩:=WX c Zaa e hi
                      rw [hr']
                      rcases List.mem_append.1 hx with h | h
                      · exact List.mem_append.2 (.inl h)
                      · exact List.mem_append.2 (.inr (List.mem_append.2 (.inl h)))
                    refine Ret.forL (n:=c.Zai.length) (fun i s=>GotP c Zaa p e L ((bif e.own then [-2] else [-1])++jg c Zaa e i) s) (by omega) ?_ ?_ (fun s hs=>.inl ⟨s,rfl,by rw [hmv0];exact hs⟩)
                    · show GotP c Zaa p e L ((bif e.own then [-2] else [-1])++jg c Zaa e 0) (L2,F2,K2)
                      have:jg c Zaa e 0=[]:=rfl
                      rw [this,List.append_nil];exact hg2
                    · rintro i ⟨L3,F3,K3⟩ hi hg3
                      simp only
                      have hx:=List.getElem?_eq_getElem hi
                      have av:=zcO hv.cv hx
                      have hmvb:mvB c Zaa e i=(((qX e.state.Zae c.Zai[i] == Zaa) == e.own) && !yd (qj c e.state i) e.state):=by simp only [mvB,hx]
                      have hlenA:=Ys c Zaa e i
                      refine Ret.bind (P:=fun o:XT ⊕ Unit=>(∃ x,o=.inl x∧GotP c Zaa p e L ((bif e.own then [-2] else [-1])++jg c Zaa e (i+1)) x)∨(o=.inr ()∧jX c e ((bif e.own then [-2] else [-1])++jg c Zaa e (i+1)) (L,[])=none)) ?_ ?_
                      · refine Ret.bindE (zl hx) ?_
                        refine Ret.bindE (zf6 he av) ?_
                        refine Ret.ite (fun hq => ?_) (fun hq => ?_)
                        · obtain ⟨est,hvs,_⟩:=jC (a:=(i:Int)) hc he (by omega) (by omega) hd
                          have hfew:=hvs.few hc
                          refine Ret.bindE est ?_
                          refine Ret.bindE (zhH (qj c e.state i) e.state (by omega) (by omega) (by omega)) ?_
                          refine Ret.ite (fun hs=>Ret.some (.inl ⟨_,rfl,?_⟩)) (fun hs => ?_)
                          · rw [yJ,hmvb,hq,hs]
                            simpa using hg3
                          · have hb:mvB c Zaa e i=true:=by rw [hmvb,hq,hs];rfl
                            have hmi:(i:Int)∈zE c Zaa e:=wH.2 (.inr (.inr ⟨hd,i,hi,hb,rfl⟩))
                            have hact:jg c Zaa e (i+1)=jg c Zaa e i++[(i:Int)]:=by rw [yJ,hb];rfl
                            rw [hact,←List.append_assoc]
                            refine XE hc he hr hinv (hsub i (by omega)) hmi (by cases e.own<;>simp<;>omega) (by unfold target;rw [if_neg (by omega)]) hg3 (fun to L' F' hg ha => ?_) (fun hz=>Ret.some (.inr ⟨rfl,hz⟩))
                            refine Ret.bindE ha ?_
                            exact Ret.some (.inl ⟨_,rfl,hg⟩)
                        · refine Ret.some (.inl ⟨_,rfl,?_⟩)
                          rw [yJ,hmvb,hq]
                          simpa using hg3
                      · rintro o (⟨x,rfl,hgx⟩ | ⟨rfl,hn⟩)
                        · exact Ret.some hgx
                        · refine Ret.some (.inr ⟨_,rfl,?_⟩)
                          rw [hmv0]
                          obtain ⟨r,hr'⟩:=WX c Zaa e (show i+1≤c.Zai.length by omega)
                          rw [hr',←List.append_assoc]
                          exact yE hn
                  · rintro o (⟨x,rfl,hgx⟩ | ⟨x,rfl,hn⟩)
                    · exact Ret.some (.inl ⟨_,rfl,hgx⟩)
                    · exact Ret.some (.inr ⟨rfl,hn⟩)
                · refine Ret.some (.inr ⟨rfl,?_⟩)
                  rw [hmv0];exact yE hn
            · refine Ret.some (.inr ⟨rfl,?_⟩)
              unfold zE;exact yE hn
            · refine Ret.some (.inl ⟨_,rfl,?_⟩)
              have:zE c Zaa e=(bif e.own then [-2] else []):=by
                unfold zE
                rw [decide_eq_true hd]
                simp
              rw [this];exact hg
        · rintro o (⟨⟨L',F',K'⟩,rfl,hg⟩ | ⟨rfl,hn⟩)
          · obtain ⟨h1,⟨r1,e1⟩,T,eT,hT,hch⟩:=XD hc he hr (zE c Zaa e) L L' [] K' (fun m hm=>hm) hinv hg.1
            simp only [List.nil_append] at eT
            subst eT
            simp only [Sum.elim_inl]
            refine Ret.bindE (jB (by simp;omega)) ?_
            rw [zY (by omega) (by omega)]
            refine Ret.some ⟨⟨by simp,?_,h1,hg.2,by show L'[0]?=some p;rw [e1];exact vJ hfst,?_,?_⟩,?_⟩
            · show (M++[K']).length≤L'.length
              rw [e1];simp;omega
            · show ∀ (j:Nat) (T:List Zar) (e:Zah),(M++[K'])[j]?=some T→L'[j]?=some e→MvOk c Zaa L' e (zE c Zaa e) T
              intro j T e' hj he'
              by_cases hjm:j < M.length
              · rw [List.getElem?_append_left hjm] at hj
                have hjL:L[j]?=some e':=by
                  rw [e1,List.getElem?_append_left (by omega)] at he';exact he'
                rw [e1]
                exact (hmv j T e' hj hjL).app r1
              · have hj2:j=M.length:=by
                  have:=(List.getElem?_eq_some_iff.1 hj).1
                  simp at this;omega
                subst hj2
                rw [List.getElem?_append_right (Nat.le_refl _)] at hj
                simp at hj
                subst hj
                have:L'[M.length]?=some e:=by rw [e1];exact vJ heq
                rw [this] at he';cases he'
                exact hT
            · show yA 0 1 (M++[K'])=some L'.length
              rw [Xg,hchk]
              simp only [ZaI,Nat.zero_add]
              rw [if_pos hML];exact hch
            · show (1501 - ((M.length:Int)+1)).toNat < (1501 - (M.length:Int)).toNat
              omega
          · obtain ⟨L1,h1,h2⟩:=Yw hc he hr (zE c Zaa e) L [] (fun m hm=>hm) hinv hn
            exact Ret.some (.inr ⟨rfl,L1,h1,h2⟩)
      · have hge:=of_decide_eq_false hge
        exact Ret.some (.inl ⟨L,M,rfl,hinv,hfst,by omega,hmv,hchk⟩)
    · rintro o (⟨L,M,rfl,h⟩ | ⟨rfl,h⟩)
      · exact Ret.some (.inl ⟨L,M,rfl,h⟩)
      · exact Ret.some (.inr ⟨rfl,h⟩)
  · rintro o (⟨L,M,rfl,h⟩ | ⟨rfl,h⟩)
    · exact Ret.some (.inl ⟨rfl,rfl,h⟩)
    · exact Ret.some (.inr ⟨rfl,h⟩)
def Qj (k:Zan) (m:zw):zw:=bif k.ZaB then {Zam:=5,left:=0,got:=0,Zau := -1,ZaA:=false} else {Zam:=0,left:=0,got:=0,Zau := -1,ZaA:=false}
def Qk:zw:={Zam:=0,left:=0,got:=0,Zau:=0,ZaA:=false}
theorem Yy {c:Zab} (hc:c.Ok) (h:(qe c).1≠0):qA c=some (noS,1):=by
  unfold qA
  rw [hc.valid]
  have:((qe c).1 == 0)=false:=beq_eq_false_iff_ne.2 h
  simp only [ZaI,this,ZaH];rfl
def zjq (c:Zab):List zw:=(List.replicate c.Zag.length Qk).mapIdx (atK c Qj)
theorem zcT {c:Zab} (hc:c.Ok) (hv:(qe c).1=0):Ret (qA c) (fun r=>r.2=0∧VS c r.1∧r.1.day=0∧r.1.Zae=c.Zae∧r.1.used=List.replicate c.Zai.length false∧StartP c c.Zae (zjq c) r.1.Zaj):=by
  have ho:=hc.off.lt (by omega:0 < 8)
  have sm:=qr ho hv
  have s1:=sm.Zae
  have s2:=sm.Zai
  have s3:=sm.Zag
  have s4:=sm.Zao
  have s5:=sm.Zat
  unfold qA
  refine Ret.bindE hc.valid ?_
  refine Ret.ite (fun _ => ?_) (fun h=>absurd hv (beq_eq_false_iff_ne.1 h))
  refine Ret.bindE (kT (by omega)) ?_
  refine Ret.bindE (Jf (show c.Zai.length < 1000 by omega) (by omega)) ?_
  refine Ret.bindE (Jf (show c.Zag.length < 1000 by omega) (by omega)) ?_
  have hok0:MOk c ((List.replicate c.Zag.length Qk).mapIdx (atK c Qj)):=by
    refine ⟨by simp,fun i k m hk hm => ?_⟩
    rw [List.getElem?_mapIdx] at hm
    obtain ⟨m0,_,rfl⟩:=Option.map_eq_some_iff.1 hm
    simp only [atK,hk,Qj]
    have e4:decide (-1 < c.Zao)=true:=decide_eq_true (by omega)
    cases hw:k.ZaB with
    | true=>
      show jh c.Zao k {Zam:=5,left:=0,got:=0,Zau := -1,ZaA:=false}=true
      refine xM.2 (.inr (.inr (.inr ⟨.inr (.inr rfl),?_⟩)))
      show ((0:Int) == 0&&(decide ((0:Int)≤0)&&(decide ((0:Int)≤9)&&(decide ((-1:Int) ≤ -1)&&(decide (-1 < c.Zao) && !false)))))=true
      rw [e4];rfl
    | false=>exact xM.2 (.inl ⟨rfl,hw,rfl⟩)
  refine Ret.bind (P:=fun o:List zw ⊕ Unit=>o=.inl ((List.replicate c.Zag.length Qk).mapIdx (atK c Qj))) ?_ ?_
  · refine Ret.of ?_
    have hl:(c.Zag.length:Int)=((List.replicate c.Zag.length Qk).length:Int):=by simp
    show forR (c.Zag.length:Int) _ (List.replicate c.Zag.length Qk)=_
    conv=>lhs;arg 1;rw [hl]
    refine x6 (List.replicate c.Zag.length Qk) (atK c Qj) (by simp;omega) ?_
    intro i m s h1 h2 h3
    have hi:i < c.Zag.length:=by simpa using (List.getElem?_eq_some_iff.1 h1).1
    have hk:=List.getElem?_eq_getElem hi
    simp only [zl hk,ZaI,zU hi,h3,wG h3,atK,hk,Qj,List.set_set]
    cases c.Zag[i].ZaB<;>rfl
  · rintro o rfl
    simp only [Sum.elim_inl]
    have hs:=Je c 0 c.Zae (List.replicate c.Zai.length false) _ ho hv rfl (zbN hv) hok0
    unfold wZ at hs
    rw [List.length_replicate,show ((List.replicate c.Zag.length Qk).mapIdx (atK c Qj)).length=c.Zag.length by simp] at hs
    refine Ret.bind hs fun r hr => ?_
    refine Ret.bindE (x8 (by simp)) ?_
    refine Ret.bindE (x8 hr.ok.1.symm) ?_
    refine Ret.some ⟨rfl,⟨hv,⟨by show (0:Int)≤0;omega,by show (0:Int)≤c.Zat;omega⟩,rfl,by simp,hr.ok.1,zbN hv,?_,hr.ok.2,hr.nr⟩,rfl,rfl,rfl,hr⟩
    intro i a _ hu
    simp only [List.getElem?_replicate] at hu
    split at hu
    · cases hu
    · cases hu
theorem Yz {c:Zab} (hc:c.Ok) (hv:(qe c).1=0):Ret (qA c) (fun r=>r.2=0∧VS c r.1):=Ret.mono (zcT hc hv) fun _ h=>⟨h.1,h.2.1⟩
def WY:ZaF:={Zaa:=0,Zaw:=[],moves:=[]}
theorem zgc {c:Zab} (hc:c.Ok) {Zaa:Int} {p:Zah} (h:Qh c Zaa p.state=false):x4 c Zaa p=some (WY,1):=by
  unfold x4
  rw [WW hc,h];rfl
def zjr (c:Zab) (Zaa:Int) (r:ZaF×Int):Prop:=
  r.2≠0∨(r.2=0∧∃ s0,qA c=some (s0,0)∧VS c s0∧0≤Zaa∧Zaa < c.Zao∧r.1.Zaa=Zaa∧FromOk c Zaa {state:=s0,own:=true} r.1.Zaw r.1.moves)
theorem zeD {c:Zab} (hc:c.Ok) (Zaa:Int):Ret (ju c Zaa) (zjr c Zaa):=by
  unfold ju
  by_cases hv:(qe c).1=0
  · obtain ⟨⟨s0,e0⟩,hst,h0,hvs⟩:=Yz hc hv
    simp only at h0 hvs
    subst h0
    refine Ret.bindE hst ?_
    refine Ret.ite (fun _ => ?_) (fun h=>by cases h)
    cases hpl:Qh c Zaa s0 with
    | false=>
      refine Ret.bindE (zgc hc (p:={state:=s0,own:=true}) hpl) ?_
      exact Ret.some (.inl (by simp))
    | true=>
      obtain ⟨h1,h2,_⟩:=Yr.1 hpl
      refine Ret.bind (zgb hc (p:={state:=s0,own:=true}) hpl) ?_
      rintro ⟨a,e⟩ (⟨h3,h4,h5⟩ | ⟨h3,_⟩)
      · exact Ret.some (.inr ⟨h3,s0,hst,hvs,h1,h2,h4,h5⟩)
      · simp only at h3
        exact Ret.some (.inl (by show e≠0;omega))
  · refine Ret.bindE (Yy hc hv) ?_
    exact Ret.some (.inl (by simp))
theorem Ql {α:Type} [BEq α] [LawfulBEq α]:∀ {L1 L2:List α},L1.Nodup→(∀ x∈L1,x∈L2)→L1.length≤L2.length
  | [],L2,_,_=>by simp
  | a::l,L2,h,hs=>by
    obtain ⟨ha,hl⟩:=List.nodup_cons.1 h
    have hm:=hs a List.mem_cons_self
    have ih:=Ql (L1:=l) (L2:=L2.erase a) hl fun x hx=>(List.mem_erase_of_ne (by rintro rfl;exact ha hx)).2 (hs x (List.mem_cons_of_mem _ hx))
    rw [List.length_erase_of_mem hm] at ih
    have:0 < L2.length:=List.length_pos_of_mem hm
    simp only [List.length_cons];omega
theorem FromOk.closed {c:Zab} {Zaa:Int} {p:Zah} {L:List Zah} {M:List (List Zar)} (F:FromOk c Zaa p L M) {q:Zah} (hq:q∈L) {m:Int} (hm:m∈zE c Zaa q):target c q m∈L:=by
  obtain ⟨j,hj,e⟩:=List.getElem_of_mem hq
  have hjM:j < M.length:=by rw [F.len];exact hj
  have h:=F.mv j M[j] q (List.getElem?_eq_getElem hjM) (by rw [List.getElem?_eq_getElem hj,e])
  rw [←h.1] at hm
  obtain ⟨t,ht,rfl⟩:=List.mem_map.1 hm
  exact List.mem_of_getElem? (h.2 t ht).2
theorem FromOk.rch {c:Zab} {Zaa:Int} {p:Zah} {L:List Zah} {M:List (List Zar)} (F:FromOk c Zaa p L M) {q x:Zah} (hq:q∈L) (h:Rch c Zaa q x):x∈L:=by
  induction h with
  | base=>exact hq
  | step _ hm ih=>exact F.closed ih hm
instance:BEq Zac:=⟨yd⟩
instance:LawfulBEq Zac where
  eq_of_beq {a b} h:=kY.1 h
  rfl {a}:=kY.2 rfl
inductive SR (c:Zab) (s0:Zac):Zac→Prop where
  | base:SR c s0 s0
  | step {s:Zac} {a:Int} (h:SR c s0 s) (h1 : -1≤a) (h2:a < c.Zai.length) (hd:s.day < c.Zat):SR c s0 (qj c s a)
def txS (s:Zac):ByteArray:=txt {state:=s,own:=false}
def zaD (c:Zab) (F:List (ByteArray×Bool)) (L:List Zac):Prop:=∀ q:Zac,VS c q→((zq (txS q) F).getD false=true↔q∈L)
structure SInv (c:Zab) (s0:Zac) (L:List Zac):Prop where
  vs:∀ q∈L,VS c q
  nd:L.Nodup
  rch:∀ q∈L,SR c s0 q
  len:L.length≤1500
def Done (c:Zab) (L:List Zac) (s:Zac) (n:Int):Prop:=s.day < c.Zat→∀ a:Int,-1≤a→a < n→qj c s a∈L
theorem Done.app {c:Zab} {L:List Zac} {s:Zac} {n:Int} (h:Done c L s n) (r:List Zac):Done c (L++r) s n:=fun hd a h1 h2=>List.mem_append.2 (.inl (h hd a h1 h2))
def Bfs (c:Zab) (L:List Zac):Prop:=∀ (m:Nat) (q:Zac),0 < m→L[m]?=some q→∃ (n:Nat) (s:Zac) (a:Int),n < m∧L[n]?=some s∧s.day < c.Zat ∧ -1≤a∧a < (c.Zai.length:Int)∧qj c s a=q ∧
  ∀ (n':Nat) (s':Zac) (a':Int),n' < n→L[n']?=some s'→s'.day < c.Zat → -1≤a'→a' < (c.Zai.length:Int)→∃ m',m' < m∧L[m']?=some (qj c s' a')
theorem Bfs.snoc {c:Zab} {L:List Zac} {q e:Zac} {i:Nat} {a:Int} (h:Bfs c L) (hi:L[i]?=some e) (hd:e.day < c.Zat) (h1 : -1≤a) (h2:a < (c.Zai.length:Int)) (hq:qj c e a=q)
    (hdone:∀ (j:Nat) (s:Zac),j < i→L[j]?=some s→Done c L s c.Zai.length):Bfs c (L++[q]):=by
  intro m x hm hx
  have hil:=(List.getElem?_eq_some_iff.1 hi).1
  rcases Nat.lt_or_ge m L.length with hlt | hge
  · rw [List.getElem?_append_left hlt] at hx
    obtain ⟨n,s,b,h3,h4,h5,h6,h7,h8,h9⟩:=h m x hm hx
    refine ⟨n,s,b,h3,by rw [List.getElem?_append_left (by omega)];exact h4,h5,h6,h7,h8,fun n' s' a' g1 g2 g3 g4 g5 => ?_⟩
    rw [List.getElem?_append_left (by omega)] at g2
    obtain ⟨m',k1,k2⟩:=h9 n' s' a' g1 g2 g3 g4 g5
    exact ⟨m',k1,by rw [List.getElem?_append_left (by omega)];exact k2⟩
  · rw [List.getElem?_append_right hge] at hx
    have hm2:m=L.length:=by
      have:=(List.getElem?_eq_some_iff.1 hx).1
      simp at this;omega
    subst hm2
    simp at hx
    subst hx
    refine ⟨i,e,a,hil,by rw [List.getElem?_append_left hil];exact hi,hd,h1,h2,hq,fun n' s' a' g1 g2 g3 g4 g5 => ?_⟩
    rw [List.getElem?_append_left (by omega)] at g2
    have:=hdone n' s' g1 g2 g3 a' g4 g5
    obtain ⟨m',k1,k2⟩:=List.getElem_of_mem this
    exact ⟨m',k1,by rw [List.getElem?_append_left k1,List.getElem?_eq_getElem k1,k2]⟩
structure ReachOk (c:Zab) (s0:Zac) (L:List Zac):Prop where
  inv:SInv c s0 L
  first:s0∈L
  at0:L[0]?=some s0
  bfs:Bfs c L
  done:∀ s∈L,Done c L s c.Zai.length
structure RInv (c:Zab) (s0:Zac) (L:List Zac) (i:Int) (F:List (ByteArray×Bool)):Prop where
  inv:SInv c s0 L
  rel:zaD c F L
  first:s0∈L
  at0:L[0]?=some s0
  bfs:Bfs c L
  le:0≤i∧i≤(L.length:Int)
  done:∀ (j:Nat) (s:Zac),(j:Int) < i→L[j]?=some s→Done c L s c.Zai.length
theorem zeE {c:Zab} (hc:c.Ok) {s0:Zac} (hst:qA c=some (s0,0)) (hv:VS c s0) :
    Ret (xr c) (fun r=>(r.2=0∧ReachOk c s0 r.1)∨(r.2≠0∧r.1=[])):=by
  have sm:=qr (hc.off.lt (by omega)) hv.cv
  have sa:=sm.Zai
  unfold xr
  refine Ret.bindE hst ?_
  refine Ret.ite (fun _ => ?_) (fun h=>by cases h)
  refine Ret.bindE (Jj hc (p:={state:=s0,own:=false}) hv) ?_
  refine Ret.bind (P:=fun o:(List Zac) ⊕ Unit=>(∃ L,o=.inl L∧ReachOk c s0 L)∨(o=.inr ())) ?_ ?_
  · refine Ret.bind (P:=fun o:(List Zac) ⊕ Unit=>(∃ L,o=.inl L∧ReachOk c s0 L)∨(o=.inr ())) (Ret.iter (fun s:(List Zac)×Int×(List (ByteArray×Bool))=>RInv c s0 s.1 s.2.1 s.2.2) (fun s=>(1501 - s.2.1).toNat) ?_ ?_) ?_
    · refine ⟨⟨fun q hq => ?_,by simp,fun q hq => ?_,by simp⟩,fun q hq => ?_,by simp,by simp,fun m q hm hq=>by
        have:=(List.getElem?_eq_some_iff.1 hq).1
        simp at this;omega,⟨by simp,by simp⟩,fun j s hj=>by simp only at hj;omega⟩
      · rw [List.mem_singleton.1 hq];exact hv
      · rw [List.mem_singleton.1 hq];exact .base
      · simp only [zP,zq,List.mem_singleton]
        by_cases e:q=s0
        · subst e
          simp [txS]
        · have e2:txS q≠txt {state:=s0,own:=false}:=fun h=>e (by have:=JV (p:={state:=q,own:=false}) (q:={state:=s0,own:=false}) hq hv h;exact congrArg Zah.state this)
          rw [if_neg e2]
          simp [e]
    · rintro ⟨L,i,F⟩ ⟨hinv,hrel,hfst,hat0,hbfs,hle,hdone⟩
      simp only at hinv hrel hfst hat0 hbfs hle hdone ⊢
      have hlen:=hinv.len
      refine Ret.ite (fun hlt => ?_) (fun hge => ?_)
      · have hlt:=of_decide_eq_true hlt
        obtain ⟨hi,hie⟩:=jd hle.1 hlt
        have hme:=List.getElem_mem hi
        have hget:=List.getElem?_eq_getElem hi
        have hve:=hinv.vs _ hme
        have hre:=hinv.rch _ hme
        generalize he:L[i.toNat]=e at hie hme hget hve hre
        refine Ret.bind (P:=fun o:((List Zac)×(List (ByteArray×Bool))) ⊕ Unit=>(∃ L' F',o=.inl (L',F')∧SInv c s0 L'∧zaD c F' L'∧Bfs c L'∧(∃ r,L'=L++r)∧Done c L' e c.Zai.length)∨(o=.inr ())) ?_ ?_
        · refine Ret.bindE hie ?_
          refine Ret.ite (fun hd => ?_) (fun hd => ?_)
          · have hd:=beq_iff_eq.1 hd
            exact Ret.some (.inl ⟨L,F,rfl,hinv,hrel,hbfs,⟨[],by simp⟩,fun h=>by omega⟩)
          · have hd:=beq_eq_false_iff_ne.1 hd
            have hday:=hve.day
            have hd2:e.day < c.Zat:=by omega
            refine Ret.bind (P:=fun o:((List Zac)×(List (ByteArray×Bool))) ⊕ Unit=>(∃ L' F',o=.inl (L',F')∧SInv c s0 L'∧zaD c F' L'∧Bfs c L'∧(∃ r,L'=L++r)∧Done c L' e c.Zai.length)∨(o=.inr ()))
              (Ret.iter (fun s:(List Zac)×Int×(List (ByteArray×Bool))=>SInv c s0 s.1∧zaD c s.2.2 s.1∧Bfs c s.1∧(∃ r,s.1=L++r)∧(-1≤s.2.1∧s.2.1≤(c.Zai.length:Int))∧Done c s.1 e s.2.1) (fun s=>((c.Zai.length:Int)+1 - s.2.1).toNat) ⟨hinv,hrel,hbfs,⟨[],by simp⟩,⟨by simp,by show (-1:Int)≤_;omega⟩,fun _ a h1 h2=>by simp only at h2;omega⟩ ?_) ?_
            · rintro ⟨L2,a,F2⟩ ⟨hinv2,hrel2,hbfs2,⟨r2,hr2⟩,ha,hdo⟩
              simp only at hinv2 hrel2 hbfs2 hr2 ha hdo ⊢
              have hlen2:=hinv2.len
              refine Ret.ite (fun hlt2 => ?_) (fun hge2 => ?_)
              · have hlt2:=of_decide_eq_true hlt2
                obtain ⟨est,hvs,_⟩:=jC hc hve ha.1 hlt2 hd2
                have hrs:SR c s0 (qj c e a):=.step hre ha.1 hlt2 hd2
                have hbs:Bfs c (L2++[qj c e a]):=hbfs2.snoc (i:=i.toNat) (e:=e) (a:=a) (by rw [hr2];exact vJ hget) hd2 ha.1 hlt2 rfl (fun j s hj hs=>by
                  have hil:=(List.getElem?_eq_some_iff.1 hget).1
                  rw [hr2,List.getElem?_append_left (by omega)] at hs
                  have:=hdone j s (by omega) hs
                  rw [hr2]
                  exact this.app r2)
                refine Ret.bind (P:=fun o:((List Zac)×(List (ByteArray×Bool))) ⊕ Unit=>(∃ L' F',o=.inl (L',F')∧SInv c s0 L'∧zaD c F' L'∧Bfs c L'∧(∃ r,L'=L++r)∧Done c L' e (a+1))∨(o=.inr ())) ?_ ?_
                · have hget2:ze L2 i=some e:=by
                    unfold ze;rw [if_pos hle.1,hr2];exact vJ hget
                  refine Ret.bindE hget2 ?_
                  refine Ret.bindE est ?_
                  refine Ret.bindE (Jj hc (p:={state:=qj c e a,own:=false}) hvs) ?_
                  have hdn:∀ L':List Zac,(∃ r,L'=L2++r)→qj c e a∈L'→Done c L' e (a+1):=by
                    rintro L' ⟨r,rfl⟩ hin _ b hb1 hb2
                    by_cases hba:b=a
                    · subst hba;exact hin
                    · exact List.mem_append.2 (.inl (hdo hd2 b hb1 (by omega)))
                  have hrq:=hrel2 (qj c e a) hvs
                  generalize qj c e a=q at hrq hvs hrs hdn hbs
                  refine Ret.ite (fun hfound => ?_) (fun hnew => ?_)
                  · have hin:=hrq.1 hfound
                    exact Ret.some (.inl ⟨L2,F2,rfl,hinv2,hrel2,hbfs2,⟨r2,hr2⟩,hdn L2 ⟨[],by simp⟩ hin⟩)
                  · have hnin:q ∉ L2:=fun h=>by
                      have:=hrq.2 h
                      have hnew':(zq (txS q) F2).getD false=false:=hnew
                      rw [hnew'] at this;cases this
                    refine Ret.ite (fun hfull => ?_) (fun hroom => ?_)
                    · have:=beq_iff_eq.1 hfull
                      exact Ret.some (.inr rfl)
                    · have:=beq_eq_false_iff_ne.1 hroom
                      refine Ret.bindE (jB (by simp;omega)) ?_
                      refine Ret.some (.inl ⟨_,_,rfl,⟨fun x hx => ?_,?_,fun x hx => ?_,by simp;omega⟩,fun x hx => ?_,hbs,⟨r2++[q],by rw [hr2,List.append_assoc]⟩,hdn _ ⟨[q],rfl⟩ (by simp)⟩)
                      · rcases List.mem_append.1 hx with hx | hx
                        · exact hinv2.vs x hx
                        · rw [List.mem_singleton.1 hx];exact hvs
                      · exact List.nodup_append.2 ⟨hinv2.nd,by simp,fun a ha b hb=>by rw [List.mem_singleton.1 hb];intro e;subst e;exact hnin ha⟩
                      · rcases List.mem_append.1 hx with hx | hx
                        · exact hinv2.rch x hx
                        · rw [List.mem_singleton.1 hx];exact hrs
                      · by_cases hxq:x=q
                        · subst hxq
                          have:zq (txS x) (zP (txt {state:=x,own:=false}) true F2)=some true:=jw _ _ _
                          rw [this];simp
                        · have hne:txS x≠txt {state:=q,own:=false}:=fun h=>hxq (by have:=JV (p:={state:=x,own:=false}) (q:={state:=q,own:=false}) hx hvs h;exact congrArg Zah.state this)
                          rw [jW _ hne,hrel2 x hx]
                          simp [hxq]
                · rintro o (⟨L',F',rfl,q1,q2,qb,q3,q4⟩ | rfl)
                  · simp only [Sum.elim_inl]
                    rw [zY (by omega) (by omega)]
                    refine Ret.some ⟨⟨q1,q2,qb,q3,⟨by show -1≤a+1;omega,by show a+1≤(c.Zai.length:Int);omega⟩,q4⟩,?_⟩
                    show ((c.Zai.length:Int)+1 - (a+1)).toNat < ((c.Zai.length:Int)+1 - a).toNat
                    omega
                  · exact Ret.some (.inr rfl)
              · have hge2:=of_decide_eq_false hge2
                have:a=(c.Zai.length:Int):=by omega
                subst this
                exact Ret.some (.inl ⟨L2,F2,rfl,hinv2,hrel2,hbfs2,⟨r2,hr2⟩,hdo⟩)
            · rintro o (⟨L',F',rfl,h⟩ | rfl)
              · exact Ret.some (.inl ⟨L',F',rfl,h⟩)
              · exact Ret.some (.inr rfl)
        · rintro o (⟨L',F',rfl,q1,q2,qb,⟨r,q3⟩,q4⟩ | rfl)
          · simp only [Sum.elim_inl]
            rw [zY (by omega) (by omega)]
            have hll:L.length≤L'.length:=by rw [q3];simp
            refine Ret.some ⟨⟨q1,q2,by show s0∈L';rw [q3];exact List.mem_append.2 (.inl hfst),by show L'[0]?=some s0;rw [q3];exact vJ hat0,qb,⟨by show 0≤i+1;omega,by show i+1≤(L'.length:Int);omega⟩,?_⟩,?_⟩
            · intro j s hj hs
              have hj:(j:Int) < i+1:=hj
              have hs:L'[j]?=some s:=hs
              have hjL:L[j]?=some s:=by
                rw [q3,List.getElem?_append_left (by omega)] at hs;exact hs
              by_cases hji:(j:Int) < i
              · show Done c L' s c.Zai.length
                rw [q3];exact (hdone j s hji hjL).app r
              · have:j=i.toNat:=by omega
                subst this
                rw [hget] at hjL;cases hjL
                exact q4
            · show (1501 - (i+1)).toNat < (1501 - i).toNat
              omega
          · exact Ret.some (.inr rfl)
      · have hge:=of_decide_eq_false hge
        refine Ret.some (.inl ⟨L,rfl,hinv,hfst,hat0,hbfs,fun s hs => ?_⟩)
        obtain ⟨j,hj,e⟩:=List.getElem_of_mem hs
        exact hdone j s (by omega) (by rw [List.getElem?_eq_getElem hj,e])
    · rintro o (⟨L,rfl,h⟩ | rfl)
      · exact Ret.some (.inl ⟨L,rfl,h⟩)
      · exact Ret.some (.inr rfl)
  · rintro o (⟨L,rfl,h⟩ | rfl)
    · exact Ret.some (.inl ⟨rfl,h⟩)
    · exact Ret.some (.inr ⟨by simp,rfl⟩)
section
def at_ (l:List Int) (i:Nat):Int:=l[i]?.getD 0
theorem xS {l:List Int} {i:Nat} (h:i < l.length):l[i]?=some (at_ l i):=by unfold at_;rw [List.getElem?_eq_getElem h];rfl
theorem kA {l:List Int} {i:Nat} (h:i < l.length) (x:Int):at_ (l.set i x)=upd (at_ l) i x:=by
  funext j
  unfold at_ upd
  by_cases e:j=i
  · subst e;rw [if_pos rfl,List.getElem?_set_self h];rfl
  · rw [if_neg e,List.getElem?_set_ne (Ne.symm e)]
def cst (l:List Nat):List Int:=l.map fun x:Nat=>(x:Int)
theorem yU (l:List Nat):(cst l).length=l.length:=List.length_map _
theorem JW (l m:List Nat):cst (l++m)=cst l++cst m:=List.map_append
def zcU (c:Zab) (Zaa:Int) (Zaj:List zw) (i:Nat):Bool:=match c.Zag[i]?,Zaj[i]? with
  | some k,some m=>k.final&&((m.Zam == 4)&&(m.Zau == Zaa))
  | _,_=>false
def jR (c:Zab) (s:Zac) (Zaa:Int):Bool := !((List.range s.Zaj.length).all fun i=>!zcU c Zaa s.Zaj i)
theorem zeF (c:Zab) (s:Zac) (Zaa:Int) (hl:s.Zaj.length=c.Zag.length) (hs:s.Zaj.length < 4611686018427387904) :
    (forR (σ:=Unit) (ρ:=Unit) (s.Zaj.length:Int) (fun i1 s1=>(Option.bind (ze s.Zaj (i1:Int)) fun e1=>(Option.bind (Option.bind (ze c.Zag (i1:Int)) fun e2=>(bif e2.final then (bif (e1.Zam == 4) then some (e1.Zau == Zaa) else some false) else some false)) fun v1=>(bif v1 then some (.inr ()) else some (.inl ()))))) ()) =
      some (bif jR c s Zaa then .inr () else .inl ()):=by
  rw [kU (fun i=>!zcU c Zaa s.Zaj i) hs (fun j hj=>by
    have hk:j < c.Zag.length:=by omega
    simp only [qq,List.getElem?_eq_getElem hj,List.getElem?_eq_getElem hk,ZaI,zcU]
    cases (c.Zag[j].final)<;>cases (s.Zaj[j].Zam == 4)<;>cases (s.Zaj[j].Zau == Zaa)<;>rfl)]
  unfold jR
  cases ((List.range s.Zaj.length).all fun i=>!zcU c Zaa s.Zaj i)<;>rfl
theorem zjs {c:Zab} (hc:c.Ok) {s:Zac} (hv:VS c s) (Zaa:Int):Q6 c s Zaa=some (jR c s Zaa):=by
  have:=(hv.few hc).2.2
  unfold Q6
  rw [zeF c s Zaa hv.lm (by omega)]
  cases jR c s Zaa<;>rfl
def gm (c:Zab) (a:ZaF):Gm where
  n:=a.Zaw.length
  own i:=match a.Zaw[i]? with | some q=>q.own | none=>false
  lost i:=match a.Zaw[i]? with | some q=>jR c q.state a.Zaa | none=>false
  succ i:=match a.moves[i]? with | some T=>T.map fun m=>m.to.toNat | none=>[]
structure ArOk (c:Zab) (Zaa:Int) (p:Zah) (a:ZaF):Prop where
  p0:0≤Zaa
  p1:Zaa < c.Zao
  pa:a.Zaa=Zaa
  F:FromOk c Zaa p a.Zaw a.moves
section
variable {c:Zab} {Zaa:Int} {p:Zah} {a:ZaF}
theorem ArOk.mv (A:ArOk c Zaa p a) {i:Nat} (hi:i < a.Zaw.length):∃ T,a.moves[i]?=some T∧MvOk c Zaa a.Zaw a.Zaw[i] (zE c Zaa a.Zaw[i]) T:=by
  have h:i < a.moves.length:=by rw [A.F.len];exact hi
  exact ⟨a.moves[i],List.getElem?_eq_getElem h,A.F.mv i _ _ (List.getElem?_eq_getElem h) (List.getElem?_eq_getElem hi)⟩
theorem ArOk.succ (A:ArOk c Zaa p a) {i:Nat} (hi:i < a.Zaw.length) {T:List Zar} (hT:a.moves[i]?=some T):(gm c a).succ i=T.map fun m=>m.to.toNat:=by
  simp only [gm,hT]
theorem ArOk.to (A:ArOk c Zaa p a) {i:Nat} (hi:i < a.Zaw.length) {T:List Zar} (hT:a.moves[i]?=some T) {m:Zar} (hm:m∈T):0≤m.to∧m.to < a.Zaw.length:=by
  obtain ⟨T',h1,_,h3⟩:=A.mv hi
  rw [hT] at h1;cases h1
  obtain ⟨h4,h5⟩:=h3 m hm
  have:=(List.getElem?_eq_some_iff.1 h5).1
  omega
theorem ArOk.len (hc:c.Ok) (A:ArOk c Zaa p a) {i:Nat} (hi:i < a.Zaw.length) {T:List Zar} (hT:a.moves[i]?=some T):T.length≤62:=by
  obtain ⟨T',h1,h2,_⟩:=A.mv hi
  rw [hT] at h1;cases h1
  have:=Yx hc (Zaa:=Zaa) (A.F.inv.vs _ (List.getElem_mem hi))
  rw [←List.length_map (f:=fun x:Zar=>x.step),h2];exact this
theorem ArOk.closed (A:ArOk c Zaa p a):∀ i,i < (gm c a).n→∀ t∈(gm c a).succ i,t < (gm c a).n:=fun i hi t ht=>by
  obtain ⟨T,h1,_⟩:=A.mv hi
  rw [A.succ hi h1] at ht
  obtain ⟨m,hm,rfl⟩:=List.mem_map.1 ht
  have:=A.to hi h1 hm
  show m.to.toNat < a.Zaw.length
  omega
theorem ArOk.slen (hc:c.Ok) (A:ArOk c Zaa p a) (i:Nat) (hi:i < (gm c a).n):((gm c a).succ i).length≤62:=by
  obtain ⟨T,h1,_⟩:=A.mv hi
  rw [A.succ hi h1,List.length_map];exact A.len hc hi h1
theorem zaE (hc:c.Ok) (A:ArOk c Zaa p a):xK c a=some true:=by
  have h0:=A.p0
  have h1:=A.p1
  have hlen:=A.F.inv.len
  refine Ret.eq ?_
  unfold xK
  rw [A.pa]
  refine Ret.bindE (v:=false) (by rw [decide_eq_false (show ¬ Zaa < 0 by omega),decide_eq_false (show ¬ c.Zao≤Zaa by omega),A.F.len];simp) ?_
  refine Ret.ite (fun h=>by cases h) (fun _ => ?_)
  refine Ret.bind (P:=fun o:Unit ⊕ Unit=>o=.inl ()) (Ret.forL (fun _ _=>True) (by omega) trivial (fun i s hi _ => ?_) (fun _ _=>rfl)) ?_
  · obtain ⟨T,hT,hM⟩:=A.mv hi
    have hTl:=A.len hc hi hT
    refine Ret.bindE (zl (List.getElem?_eq_getElem hi)) ?_
    refine Ret.bindE (zl hT) ?_
    refine Ret.bind (P:=fun o:Unit ⊕ Unit=>o=.inl ()) (Ret.forL (fun _ _=>True) (by omega) trivial (fun k s hk _ => ?_) (fun _ _=>rfl)) ?_
    · have:=A.to hi hT (List.getElem_mem hk)
      refine Ret.bindE (zl (List.getElem?_eq_getElem hk)) ?_
      refine Ret.bindE (v:=false) (by rw [decide_eq_false (show ¬ T[k].to < 0 by omega),decide_eq_false (show ¬ (a.Zaw.length:Int)≤T[k].to by omega)];rfl) ?_
      exact Ret.some trivial
    · rintro _ rfl
      refine Ret.bindE (by rw [kz c _ hc,WU (A.F.inv.vs _ (List.getElem_mem hi))]) ?_
      exact Ret.some trivial
  · rintro _ rfl
    exact Ret.some rfl
structure L1 (G:Gm) (i k:Nat) (bef:List (List Int)):Prop where
  len:bef.length=G.n
  row:∀ t,t < G.n→∃ l:List Nat,bef[t]?=some (cst l)∧l.length≤62*i+k∧∀ x,l.count x=if x < i then (G.succ x).count t else if x=i then ((G.succ i).take k).count t else 0
theorem L1.next {G:Gm} {i k:Nat} {bef:List (List Int)} (h:L1 G i k bef) (hk:k=(G.succ i).length) (hl:k≤62):L1 G (i+1) 0 bef:=by
  refine ⟨h.len,fun t ht => ?_⟩
  obtain ⟨l,h1,h2,h3⟩:=h.row t ht
  refine ⟨l,h1,by omega,fun x => ?_⟩
  rw [h3 x]
  by_cases e:x < i
  · rw [if_pos e,if_pos (by omega)]
  · rw [if_neg e]
    by_cases e2:x=i
    · subst e2;rw [if_pos rfl,if_pos (by omega),hk,List.take_length]
    · rw [if_neg e2,if_neg (by omega)]
      split<;>simp
theorem L1.step {G:Gm} {i k:Nat} {bef:List (List Int)} (h:L1 G i k bef) (hn:G.n≤1500) (hi:i < G.n) (hk:k≤62) {to:Nat} (ht:(G.succ i)[k]?=some to) (hto:to < G.n):Ret (wA bef G.n (to:Int) (i:Int)) (L1 G i (k+1)):=by
  obtain ⟨l,h1,h2,h3⟩:=h.row to hto
  have e:wA bef G.n (to:Int) (i:Int)=some (bef.set to (cst (l++[i]))):=by
    unfold wA
    rw [if_pos ⟨by omega,by omega,by omega⟩,Int.toNat_natCast,h1]
    simp only
    rw [if_pos (by rw [yU];omega),JW];rfl
  refine ⟨_,e,by rw [List.length_set];exact h.len,fun t ht2 => ?_⟩
  have htk:(G.succ i).take (k+1)=(G.succ i).take k++[to]:=by
    obtain ⟨h5,h6⟩:=List.getElem?_eq_some_iff.1 ht
    rw [List.take_succ_eq_append_getElem h5,h6]
  by_cases e2:t=to
  · subst e2
    refine ⟨l++[i],List.getElem?_set_self (by rw [h.len];exact ht2),by simp;omega,fun x => ?_⟩
    rw [List.count_append,h3 x,htk,List.count_append]
    by_cases a1:x < i
    · rw [if_pos a1,if_pos a1,List.count_cons_of_ne (by omega)];simp
    · rw [if_neg a1,if_neg a1]
      by_cases a2:x=i
      · subst a2;rw [if_pos rfl,if_pos rfl];simp
      · rw [if_neg a2,if_neg a2,List.count_cons_of_ne (fun h=>a2 h.symm)];simp
  · obtain ⟨l2,b1,b2,b3⟩:=h.row t ht2
    refine ⟨l2,by rw [List.getElem?_set_ne (Ne.symm e2)];exact b1,by omega,fun x => ?_⟩
    rw [b3 x,htk,List.count_append,List.count_cons_of_ne (Ne.symm e2)];simp
structure L2 (G:Gm) (i:Nat) (s:List Int×List Int×List (List Int)×List Int):Prop where
  lr:s.1.length=G.n
  lo:s.2.1.length=G.n
  bef:L1 G i 0 s.2.2.1
  r:∀ j,j < i→at_ s.1 j=if G.lost j=true then 0 else -1
  o:∀ j,j < i→at_ s.2.1 j=((G.succ j).length:Int)
  k:s.2.2.2=cst ((List.range i).filter G.lost)
theorem VE {b n:Nat} (h:n≤1500) (hb:b≤1000):mkN b (n:Int)=some n:=by
  unfold mkN
  have:n*b≤1500*1000:=Nat.mul_le_mul h hb
  rw [if_pos ⟨by omega,by omega,by push_cast;omega⟩,Int.toNat_natCast]
end
end
section
section
variable {c:Zab} {Zaa:Int} {p:Zah} {a:ZaF}
theorem zaF {x:Int} {l:List Int} (nx:Int) (h:l.length≤4000):yv x l nx=some (l++[x]):=by
  unfold yv
  rw [jB (by simp;omega)];rfl
theorem WZ {x:Nat} {v:Int} {r l:List Int} {n:Nat} (nx:Int) (hx:x < n) (hr:r.length=n) (h:l.length≤4000):yw (x:Int) v r n l nx=some (l++[(x:Int)],r.set x v):=by
  unfold yw
  rw [zU hx]
  simp only [ZaI]
  rw [xS (by omega),zaF nx h];rfl
def Bnd (G:Gm) (r:Nat→Int) (m:Nat):Prop:=∀ i,i < G.n→r i≤m
theorem zgd (hc:c.Ok) (A:ArOk c Zaa p a) {r o:List Int} {P Q:List Nat} {u x:Nat} {cn:Nat→Nat} (nx:Int) (hr:r.length=(gm c a).n) (ho:o.length=(gm c a).n)
    (h:EInv (gm c a) (at_ r) (at_ o) P u Q cn) (hb:Bnd (gm c a) (at_ r) (P++u::Q).length) (hx:x < (gm c a).n) (hcn:cn x < ((gm c a).succ x).count u) :
    Ret (Zx (x:Int) (u:Int) o (gm c a).n r (gm c a).n a (cst (P++u::Q)) nx) (fun z=>z.1.length=(gm c a).n∧z.2.1.length=(gm c a).n∧∃ Q',z.2.2=cst (P++u::Q')∧EInv (gm c a) (at_ z.2.1) (at_ z.1) P u Q' (upd cn x (cn x+1))∧Bnd (gm c a) (at_ z.2.1) (P++u::Q').length):=by
  have hn:(gm c a).n≤1500:=A.F.inv.len
  have hroom:=h.room hx hcn
  have hop:=h.core.op x hx
  have hsl:=A.slen hc x hx
  have hcp:(((gm c a).succ x).countP (vr P))≤((gm c a).succ x).length:=List.countP_le_length
  have hKn:(P++u::Q).length≤(gm c a).n:=by
    have:=Ql (L2:=List.range (gm c a).n) h.core.nd (fun y hy=>List.mem_range.2 (h.core.lt y hy))
    rwa [List.length_range] at this
  obtain ⟨hu,hun,hru,_,_⟩:=h.core.split
  have hgu:=h.core.ge u hun
  have hgx:=h.core.ge x hx
  have hbu:=hb u hun
  have hw1:IntKind.i64.wrap (at_ o x - 1)=at_ o x - 1:=zY (by omega) (by omega)
  have hw2:IntKind.i64.wrap (at_ r u+1)=at_ r u+1:=zY (by omega) (by omega)
  have hso:at_ (o.set x (at_ o x - 1))=upd (at_ o) x (at_ o x - 1):=kA (by omega) _
  have hget:(o.set x (at_ o x - 1))[x]?=some (at_ o x - 1):=List.getElem?_set_self (by omega)
  have hown:(gm c a).own x=(a.Zaw[x]'(hx)).own:=by
    show (match a.Zaw[x]? with | some q=>q.own | none=>false)=_
    rw [List.getElem?_eq_getElem (show x < a.Zaw.length from hx)]
    rfl
  have hidx:ze a.Zaw (x:Int)=some (a.Zaw[x]'hx):=zl (List.getElem?_eq_getElem (show x < a.Zaw.length from hx))
  unfold Zx
  refine Ret.bindE (zU hx) ?_
  refine Ret.bindE (xS (by omega)) ?_
  rw [hw1]
  by_cases e1:at_ r x = -1
  · have e1b:(at_ r x == -1)=true:=by rw [e1];rfl
    by_cases e2:(gm c a).own x=false∨at_ o x - 1=0
    · refine Ret.bindE (v:=true) ?_ ?_
      · rw [zU hx]
        simp only [ZaI]
        rw [xS (by omega:x < r.length)]
        simp only [ZaI,e1b,cond_true,hidx]
        rw [←hown]
        rcases e2 with e2 | e2
        · rw [e2];rfl
        · rw [hget]
          simp only [ZaI,e2]
          cases (gm c a).own x<;>rfl
      · refine Ret.ite (fun _ => ?_) (fun h=>by cases h)
        refine Ret.bindE (zU hun) ?_
        refine Ret.bindE (xS (by omega)) ?_
        rw [hw2]
        refine Ret.bindE (WZ nx hx hr (by rw [yU];omega)) ?_
        refine Ret.some ⟨by simp [ho],by simp [hr],Q++[x],?_,?_,?_⟩
        · rw [show P++u::(Q++[x])=(P++u::Q)++[x] by simp];exact (JW (P++u::Q) [x]).symm
        · rw [hso,kA (by omega)]
          exact h.settle A.closed hx hcn e1 e2
        · intro i hi
          simp only
          rw [kA (by omega)]
          have:=hb i hi
          unfold upd
          simp only [List.length_append,List.length_cons,List.length_nil] at this hbu ⊢
          split<;>omega
    · refine Ret.bindE (v:=false) ?_ ?_
      · rw [zU hx]
        simp only [ZaI]
        rw [xS (by omega:x < r.length)]
        simp only [ZaI,e1b,cond_true,hidx]
        rw [←hown]
        have e3:(gm c a).own x=true:=by
          cases hq:(gm c a).own x with
          | true=>rfl
          | false=>exact absurd (.inl hq) e2
        rw [e3,hget]
        simp only [ZaI,cond_true]
        rw [beq_eq_false_iff_ne.2 (fun h=>e2 (.inr h))]
      · refine Ret.ite (fun h=>by cases h) (fun _ => ?_)
        refine Ret.some ⟨by simp [ho],hr,Q,rfl,?_,hb⟩
        rw [hso]
        exact h.skip hx hcn (.inr ⟨by cases hq:(gm c a).own x with
          | true=>rfl
          | false=>exact absurd (.inl hq) e2,fun h=>e2 (.inr h)⟩)
  · have e1b:(at_ r x == -1)=false:=beq_eq_false_iff_ne.2 e1
    refine Ret.bindE (v:=false) ?_ ?_
    · rw [zU hx]
      simp only [ZaI]
      rw [xS (by omega:x < r.length)]
      simp only [ZaI,e1b,ZaH]
    · refine Ret.ite (fun h=>by cases h) (fun _ => ?_)
      refine Ret.some ⟨by simp [ho],hr,Q,rfl,?_,hb⟩
      rw [hso]
      exact h.skip hx hcn (.inl e1)
theorem zhJ {l:List Nat} {k:Nat} (hl:l.length≤4000) (hk:k≤l.length):x5 (cst l) (k:Int)=some (match l[k]? with | some u=>((u:Int),true,(k:Int)+1) | none=>(0,false,(k:Int))):=by
  unfold x5
  rw [yU]
  by_cases e:k=l.length
  · rw [e,List.getElem?_eq_none (Nat.le_refl _)];simp
  · have h:k < l.length:=by omega
    have w1:IntKind.i64.wrap ((k:Int)+1)=(k:Int)+1:=zY (by omega) (by omega)
    have w2:IntKind.i64.wrap ((k:Int)+1 - 1)=(k:Int):=by rw [show (k:Int)+1 - 1=(k:Int) by omega];exact zY (by omega) (by omega)
    rw [beq_eq_false_iff_ne.2 (show (k:Int)≠(l.length:Int) by omega),w1,w2,List.getElem?_eq_getElem h]
    simp only [ZaH]
    rw [zl (l:=cst l) (i:=k) (e:=(l[k]:Int)) (by unfold cst;rw [List.getElem?_map,List.getElem?_eq_getElem h];rfl)]
    rfl
end
end
end Go.Proofs.YtlpmnmbebkdocaaGreatDoor
