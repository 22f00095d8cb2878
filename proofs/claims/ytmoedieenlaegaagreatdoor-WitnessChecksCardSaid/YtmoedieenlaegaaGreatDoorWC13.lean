/-
  A search through positions, breadth first: what is known of it.
  'arena.From': what it returns.
  'system.Start', 'arena.Build', 'Index'.
  The reference's states and steps agree with the program's.
  What an arena holds: closed under moves, and all that can be reached.
  region.Ranks: what it returns for an arena is the number of moves in which a breach can be forced.
  region.Ranks: the queue.
  region.Ranks: all of it.
  A clause that has ended stays as it is; a breach stays a breach.
  RegionBreach: a breach is never left.
  What can be forced from a position, told without an arena.
  What a shield and a doom prove, told without the program.
  Ranks of positions; the shield and the doom that an arena gives.
  A table that keeps the least rank of the rows with a position.
  The functions Moves and After.
  'witness.CheckShield' and 'witness.CheckDoom': what they decide.
  Functions of the program as the kernel reckons them: with fuel, and texts of small numbers. Printed by mkheads.py.
-/
import Derived.Test.YtmoedieenlaegaaGreatDoorWC12
import Derived.Test.YtmoedieenlaegaaGreatDoorWC06
namespace Go.Proofs.YtmoedieenlaegaaGreatDoor
open Go.RowKit
set_option linter.unusedSimpArgs false
set_option linter.unusedVariables false
set_option maxRecDepth 100000
instance:BEq Zae:=⟨fun a b=>a.own == b.own&&xN a.state b.state⟩
instance:LawfulBEq Zae where
  eq_of_beq {a b} h:=by
    have h':(a.own == b.own&&xN a.state b.state)=true:=h
    simp only [Bool.and_eq_true,beq_iff_eq,Yo] at h'
    obtain ⟨h1,h2⟩:=h'
    cases a;cases b;simp_all
  rfl {a}:=by
    show (a.own == a.own&&xN a.state a.state)=true
    simp [Yo.2 rfl]
noncomputable instance:DecidableEq Zae:=fun a b=>if h:(a == b)=true then isTrue (eq_of_beq h) else isFalse fun e=>h (beq_iff_eq.2 e)
def zjH (q:Zae) (L:List Zae):Option Int:=if q∈L then some (L.idxOf q:Int) else none
def zmF (c:Zaa) (F:List (ByteArray×Int)) (L:List Zae):Prop:=∀ q:Zae,VS c q.state→zr (txt q) F=zjH q L
theorem vK {α β:Type} [DecidableEq α] (k:α) (v:β):∀ l:List (α×β),zr k (qc k v l)=some v
  | []=>by simp [qc,zr]
  | (k',v')::r=>by
    unfold qc
    split
    · simp [zr]
    · rename_i h;simp only [zr,h,if_false];exact vK k v r
theorem Js {α β:Type} [DecidableEq α] {k k2:α} (v:β) (h:k2≠k):∀ l:List (α×β),zr k2 (qc k v l)=zr k2 l
  | []=>by simp [qc,zr,h]
  | (k',v')::r=>by
    unfold qc
    split
    · rename_i e;subst e;simp only [zr,h,if_false]
    · by_cases h2:k2=k'
      · simp only [zr,h2,if_true]
      · simp only [zr,h2,if_false];exact Js v h r
def zjI:Nat→List Zaw→Option Nat
  | n,[]=>some n
  | n,t::r=>if 0≤t.to∧t.to≤(n:Int) then zjI (if t.to=(n:Int) then n+1 else n) r else none
def zaw:Nat→Nat→List (List Zaw)→Option Nat
  | i,n,[]=>some n
  | i,n,l::r=>if i < n then (zjI n l).bind fun n'=>zaw (i+1) n' r else none
inductive Rch (c:Zaa) (Zab:Int) (p0:Zae):Zae→Prop where
  | base:Rch c Zab p0 p0
  | step {q:Zae} {m:Int} (h:Rch c Zab p0 q) (hm:m∈zi c Zab q):Rch c Zab p0 (target c q m)
theorem Yq {c:Zaa} (hc:c.Ok) {Zab:Int} {e:Zae} {m:Int} (he:VS c e.state) (hm:m∈zi c Zab e):VS c (target c e m).state:=by
  unfold target
  by_cases h2:m = -2
  · rw [if_pos h2];exact he
  · rw [if_neg h2]
    rcases Jp.1 hm with h | ⟨hd,_,rfl⟩ | ⟨hd,i,hi,_,rfl⟩
    · exact absurd h.2 h2
    · exact (vH hc he (by omega) (by omega) hd).2.1
    · exact (vH hc he (by omega) (by omega) hd).2.1
structure PInv (c:Zaa) (Zab:Int) (p0:Zae) (L:List Zae):Prop where
  vs:∀ q∈L,VS c q.state
  nd:L.Nodup
  rch:∀ q∈L,Rch c Zab p0 q
  len:L.length≤1500
def MvOk (c:Zaa) (Zab:Int) (L:List Zae) (e:Zae) (ms:List Int) (T:List Zaw):Prop:=T.map (·.step)=ms∧∀ t∈T,0≤t.to∧L[t.to.toNat]?=some (target c e t.step)
theorem zh9 {α:Type} {L r:List α} {i:Nat} {x:α} (h:L[i]?=some x):(L++r)[i]?=some x:=by
  rw [List.getElem?_append_left (List.getElem?_eq_some_iff.1 h).1];exact h
theorem MvOk.app {c:Zaa} {Zab:Int} {L:List Zae} {e:Zae} {ms:List Int} {T:List Zaw} (h:MvOk c Zab L e ms T) (r:List Zae):MvOk c Zab (L++r) e ms T:=
  ⟨h.1,fun t ht=>⟨(h.2 t ht).1,zh9 (h.2 t ht).2⟩⟩
theorem jX {c:Zaa} (hc:c.Ok) {Zab:Int} {e:Zae} (he:VS c e.state):(zi c Zab e).length≤62:=by
  have sm:=qx (hc.off.lt (by omega)) he.cv
  have sa:=sm.Zaj
  have:=Jo c Zab e c.Zaj.length
  unfold zi
  cases e.own<;>cases decide (c.Zas≤e.state.day)<;>simp<;>omega
structure FromOk (c:Zaa) (Zab:Int) (p:Zae) (L:List Zae) (M:List (List Zaw)):Prop where
  inv:PInv c Zab p L
  first:L[0]?=some p
  len:M.length=L.length
  mv:∀ (j:Nat) (T:List Zaw) (e:Zae),M[j]?=some T→L[j]?=some e→MvOk c Zab L e (zi c Zab e) T
  chk:zaw 0 1 M=some L.length
structure FInv (c:Zaa) (Zab:Int) (p:Zae) (s:Int×(List Zae)×(List (List Zaw))×(List (ByteArray×Int))):Prop where
  i:s.1=(s.2.2.1.length:Int)
  le:s.2.2.1.length≤s.2.1.length
  inv:PInv c Zab p s.2.1
  rel:zmF c s.2.2.2 s.2.1
  first:s.2.1[0]?=some p
  mv:∀ (j:Nat) (T:List Zaw) (e:Zae),s.2.2.1[j]?=some T→s.2.1[j]?=some e→MvOk c Zab s.2.1 e (zi c Zab e) T
  chk:zaw 0 1 s.2.2.1=some s.2.1.length
theorem zax (a b:Zao) (h1:a.Zad.length < 4611686018427387904) (h2:a.used.length < 4611686018427387904) (h3:a.Zag.length < 4611686018427387904):ko a b=some (xN a b):=by
  unfold ko xN
  simp only [J0]
  by_cases e1:a.day=b.day
  · by_cases e2:a.Zad.length=b.Zad.length
    · by_cases e3:a.used.length=b.used.length
      · by_cases e4:a.Zag.length=b.Zag.length
        · simp only [e1,beq_self_eq_true,ZaR,e2,e3,e4,decide_true,ZaI,ZaT,ZaS,ZaK]
          rw [←e2,←e3,←e4]
          rw [yR a.Zad b.Zad e2 h1 (fun i h1 h2=>by
            simp only [zz,List.getElem?_eq_getElem h1,List.getElem?_eq_getElem h2,ZaT,zh])]
          rw [yR a.used b.used e3 h2 (fun i h1 h2=>by
            simp only [zz,List.getElem?_eq_getElem h1,List.getElem?_eq_getElem h2,ZaT,zh])]
          rw [yR a.Zag b.Zag e4 h3 (fun i h1 h2=>by
            simp only [zz,List.getElem?_eq_getElem h1,List.getElem?_eq_getElem h2,ZaT,zh];rfl)]
          cases (a.Zad == b.Zad)<;>cases (a.used == b.used)<;>cases (a.Zag == b.Zag)<;>rfl
        · have:(a.Zag == b.Zag)=false:=beq_eq_false_iff_ne.2 fun e=>e4 (by rw [e])
          simp only [e1,beq_self_eq_true,ZaR,e2,e3,e4,decide_true,decide_false,ZaJ,ZaT,this,ZaN]
      · have:(a.used == b.used)=false:=beq_eq_false_iff_ne.2 fun e=>e3 (by rw [e])
        simp only [e1,beq_self_eq_true,ZaR,e2,e3,decide_true,decide_false,ZaS,ZaT,this,ZaN,ZaL]
    · have:(a.Zad == b.Zad)=false:=beq_eq_false_iff_ne.2 fun e=>e2 (by rw [e])
      simp only [e1,beq_self_eq_true,ZaR,e2,decide_false,ZaS,ZaT,this,ZaN,ZaL]
  · simp only [beq_eq_false_iff_ne.2 e1,ZaS,ZaT,ZaR,ZaL]
theorem Yr (a b:Zae) (h1:a.state.Zad.length < 4611686018427387904) (h2:a.state.used.length < 4611686018427387904) (h3:a.state.Zag.length < 4611686018427387904):yr a b=some (a == b):=by
  unfold yr
  rw [zax _ _ h1 h2 h3]
  simp only [ZaT,zh,Bool.cond_false_right]
  rfl
theorem zbP {c:Zaa} (h:(z7 c).1=0) {i:Nat} {k:Zan} (hk:c.Zaf[i]?=some k):(∀ x∈k.start,1≤x.is∧x.is≤4)∧(k.pause=k.ZaG→k.pause = -1):=by
  obtain ⟨_,_,h3,_⟩:=yu h
  have:=h3 i (List.getElem?_eq_some_iff.1 hk).1
  simp only [clB,hk,xj,Bool.and_eq_true,Bool.not_eq_true',decide_eq_false_iff_not] at this
  obtain ⟨_,_,a7,a8,_⟩:=this
  refine ⟨fun x hx => ?_,fun he => ?_⟩
  · have:=List.all_eq_true.1 a7 x hx
    simp only [yF,Bool.and_eq_true,Bool.not_eq_true',decide_eq_false_iff_not] at this
    omega
  · unfold wR at a8
    rw [beq_iff_eq.2 he] at a8
    simp only [ZaI,ZaL,Bool.or_false,Bool.and_eq_true,beq_iff_eq] at a8
    exact a8.1
theorem zia {c:Zaa} {i:Nat} {k:Zan} (kv:KV c i k) (m:zw):JV c k m=some (qy c.Zal k m):=by
  have hneed:=kv.need
  unfold JV qy zal WN vE
  simp only [XD,jV,ZaT,xd 0 m.got,xd c.Zal m.Zaq,xd 0 m.Zaq,xd 1 m.left]
  generalize hb1:decide (m.Zaq < c.Zal)=bp
  generalize hb2:decide (m.Zaq < 0)=bn
  generalize hb3:(m.Zaq == -1)=b1
  generalize decide (-1≤m.Zaq)=bm
  generalize decide (m.got≤9)=g9
  generalize (m.left == 0)=l0
  generalize decide (m.left < 1)=l1
  generalize decide (m.left≤k.after)=la
  generalize decide (m.left≤k.ZaA)=lg
  generalize k.waived=w
  generalize (k.pause == -1)=pn
  generalize (k.kind == 4)=k4
  generalize (k.kind == 1)=k1
  generalize (m.Zat == false)=pf
  have hg:(decide (m.got < 0)=false∧(m.got == 0)=true∧decide (k.need≤m.got)=false)∨(m.got == 0)=false:=by
    by_cases h:m.got=0
    · left
      exact ⟨decide_eq_false (by omega),beq_iff_eq.2 h,decide_eq_false (by omega)⟩
    · right;exact beq_eq_false_iff_ne.2 h
  generalize decide (m.got < 0)=gn at *
  generalize (m.got == 0)=g0 at *
  generalize decide (k.need≤m.got)=ng at *
  generalize m.Zat=pa
  by_cases h0:m.Zak=0
  · rw [h0]
    clear hb1 hb2 hb3
    simp only [show ((0:Int) == 0)=true from rfl,show ((0:Int) == 1)=false from rfl,show ((0:Int) == 2)=false from rfl,show ((0:Int) == 3)=false from rfl,show ((0:Int) == 4)=false from rfl,show ((0:Int) == 5)=false from rfl,ZaR,ZaS,ZaI,ZaJ,ZaK,ZaL,ZaM,ZaN,ZaO,ZaP,Bool.or_true,Bool.or_false,ZaT,ZaQ]
    (cases w<;>try simp only [ZaR,ZaS,ZaI,ZaJ,ZaK,ZaL,ZaM,ZaN,ZaO,ZaP,Bool.or_true,Bool.or_false,ZaT,ZaQ])
    all_goals (cases l0<;>try simp only [ZaR,ZaS,ZaI,ZaJ,ZaK,ZaL,ZaM,ZaN,ZaO,ZaP,Bool.or_true,Bool.or_false,ZaT,ZaQ])
    all_goals (cases g0<;>try simp only [ZaR,ZaS,ZaI,ZaJ,ZaK,ZaL,ZaM,ZaN,ZaO,ZaP,Bool.or_true,Bool.or_false,ZaT,ZaQ])
    all_goals (cases b1<;>try simp only [ZaR,ZaS,ZaI,ZaJ,ZaK,ZaL,ZaM,ZaN,ZaO,ZaP,Bool.or_true,Bool.or_false,ZaT,ZaQ])
    all_goals (cases pf<;>try simp only [ZaR,ZaS,ZaI,ZaJ,ZaK,ZaL,ZaM,ZaN,ZaO,ZaP,Bool.or_true,Bool.or_false,ZaT,ZaQ])
  by_cases h1:m.Zak=1
  · rw [h1]
    clear hb1 hb2 hb3
    simp only [show ((1:Int) == 0)=false from rfl,show ((1:Int) == 1)=true from rfl,show ((1:Int) == 2)=false from rfl,show ((1:Int) == 3)=false from rfl,show ((1:Int) == 4)=false from rfl,show ((1:Int) == 5)=false from rfl,ZaR,ZaS,ZaI,ZaJ,ZaK,ZaL,ZaM,ZaN,ZaO,ZaP,Bool.or_true,Bool.or_false,ZaT,ZaQ]
    rcases hg with ⟨rfl,rfl,rfl⟩ | rfl
    · (cases w<;>try simp only [ZaR,ZaS,ZaI,ZaJ,ZaK,ZaL,ZaM,ZaN,ZaO,ZaP,Bool.or_true,Bool.or_false,ZaT,ZaQ])
      all_goals (cases l1<;>try simp only [ZaR,ZaS,ZaI,ZaJ,ZaK,ZaL,ZaM,ZaN,ZaO,ZaP,Bool.or_true,Bool.or_false,ZaT,ZaQ])
      all_goals (cases pa<;>try simp only [ZaR,ZaS,ZaI,ZaJ,ZaK,ZaL,ZaM,ZaN,ZaO,ZaP,Bool.or_true,Bool.or_false,ZaT,ZaQ])
      all_goals (cases pn<;>try simp only [ZaR,ZaS,ZaI,ZaJ,ZaK,ZaL,ZaM,ZaN,ZaO,ZaP,Bool.or_true,Bool.or_false,ZaT,ZaQ])
      all_goals (cases k1<;>try simp only [ZaR,ZaS,ZaI,ZaJ,ZaK,ZaL,ZaM,ZaN,ZaO,ZaP,Bool.or_true,Bool.or_false,ZaT,ZaQ])
      all_goals (cases k4<;>try simp only [ZaR,ZaS,ZaI,ZaJ,ZaK,ZaL,ZaM,ZaN,ZaO,ZaP,Bool.or_true,Bool.or_false,ZaT,ZaQ])
      all_goals (cases b1<;>try simp only [ZaR,ZaS,ZaI,ZaJ,ZaK,ZaL,ZaM,ZaN,ZaO,ZaP,Bool.or_true,Bool.or_false,ZaT,ZaQ])
      all_goals (cases bn<;>try simp only [ZaR,ZaS,ZaI,ZaJ,ZaK,ZaL,ZaM,ZaN,ZaO,ZaP,Bool.or_true,Bool.or_false,ZaT,ZaQ])
      all_goals (cases bp<;>try simp only [ZaR,ZaS,ZaI,ZaJ,ZaK,ZaL,ZaM,ZaN,ZaO,ZaP,Bool.or_true,Bool.or_false,ZaT,ZaQ])
      all_goals (cases la<;>try simp only [ZaR,ZaS,ZaI,ZaJ,ZaK,ZaL,ZaM,ZaN,ZaO,ZaP,Bool.or_true,Bool.or_false,ZaT,ZaQ])
    · (cases w<;>try simp only [ZaR,ZaS,ZaI,ZaJ,ZaK,ZaL,ZaM,ZaN,ZaO,ZaP,Bool.or_true,Bool.or_false,ZaT,ZaQ])
      all_goals (cases gn<;>try simp only [ZaR,ZaS,ZaI,ZaJ,ZaK,ZaL,ZaM,ZaN,ZaO,ZaP,Bool.or_true,Bool.or_false,ZaT,ZaQ])
      all_goals (cases l1<;>try simp only [ZaR,ZaS,ZaI,ZaJ,ZaK,ZaL,ZaM,ZaN,ZaO,ZaP,Bool.or_true,Bool.or_false,ZaT,ZaQ])
      all_goals (cases pa<;>try simp only [ZaR,ZaS,ZaI,ZaJ,ZaK,ZaL,ZaM,ZaN,ZaO,ZaP,Bool.or_true,Bool.or_false,ZaT,ZaQ])
      all_goals (cases pn<;>try simp only [ZaR,ZaS,ZaI,ZaJ,ZaK,ZaL,ZaM,ZaN,ZaO,ZaP,Bool.or_true,Bool.or_false,ZaT,ZaQ])
      all_goals (cases k1<;>try simp only [ZaR,ZaS,ZaI,ZaJ,ZaK,ZaL,ZaM,ZaN,ZaO,ZaP,Bool.or_true,Bool.or_false,ZaT,ZaQ])
      all_goals (cases ng<;>try simp only [ZaR,ZaS,ZaI,ZaJ,ZaK,ZaL,ZaM,ZaN,ZaO,ZaP,Bool.or_true,Bool.or_false,ZaT,ZaQ])
      all_goals (cases k4<;>try simp only [ZaR,ZaS,ZaI,ZaJ,ZaK,ZaL,ZaM,ZaN,ZaO,ZaP,Bool.or_true,Bool.or_false,ZaT,ZaQ])
      all_goals (cases b1<;>try simp only [ZaR,ZaS,ZaI,ZaJ,ZaK,ZaL,ZaM,ZaN,ZaO,ZaP,Bool.or_true,Bool.or_false,ZaT,ZaQ])
      all_goals (cases bn<;>try simp only [ZaR,ZaS,ZaI,ZaJ,ZaK,ZaL,ZaM,ZaN,ZaO,ZaP,Bool.or_true,Bool.or_false,ZaT,ZaQ])
      all_goals (cases bp<;>try simp only [ZaR,ZaS,ZaI,ZaJ,ZaK,ZaL,ZaM,ZaN,ZaO,ZaP,Bool.or_true,Bool.or_false,ZaT,ZaQ])
      all_goals (cases la<;>try simp only [ZaR,ZaS,ZaI,ZaJ,ZaK,ZaL,ZaM,ZaN,ZaO,ZaP,Bool.or_true,Bool.or_false,ZaT,ZaQ])
  by_cases h2:m.Zak=2
  · rw [h2]
    clear hb1 hb2 hb3
    simp only [show ((2:Int) == 0)=false from rfl,show ((2:Int) == 1)=false from rfl,show ((2:Int) == 2)=true from rfl,show ((2:Int) == 3)=false from rfl,show ((2:Int) == 4)=false from rfl,show ((2:Int) == 5)=false from rfl,ZaR,ZaS,ZaI,ZaJ,ZaK,ZaL,ZaM,ZaN,ZaO,ZaP,Bool.or_true,Bool.or_false,ZaT,ZaQ]
    rcases hg with ⟨rfl,rfl,rfl⟩ | rfl
    · (cases w<;>try simp only [ZaR,ZaS,ZaI,ZaJ,ZaK,ZaL,ZaM,ZaN,ZaO,ZaP,Bool.or_true,Bool.or_false,ZaT,ZaQ])
      all_goals (cases l1<;>try simp only [ZaR,ZaS,ZaI,ZaJ,ZaK,ZaL,ZaM,ZaN,ZaO,ZaP,Bool.or_true,Bool.or_false,ZaT,ZaQ])
      all_goals (cases pa<;>try simp only [ZaR,ZaS,ZaI,ZaJ,ZaK,ZaL,ZaM,ZaN,ZaO,ZaP,Bool.or_true,Bool.or_false,ZaT,ZaQ])
      all_goals (cases pn<;>try simp only [ZaR,ZaS,ZaI,ZaJ,ZaK,ZaL,ZaM,ZaN,ZaO,ZaP,Bool.or_true,Bool.or_false,ZaT,ZaQ])
      all_goals (cases k1<;>try simp only [ZaR,ZaS,ZaI,ZaJ,ZaK,ZaL,ZaM,ZaN,ZaO,ZaP,Bool.or_true,Bool.or_false,ZaT,ZaQ])
      all_goals (cases k4<;>try simp only [ZaR,ZaS,ZaI,ZaJ,ZaK,ZaL,ZaM,ZaN,ZaO,ZaP,Bool.or_true,Bool.or_false,ZaT,ZaQ])
      all_goals (cases b1<;>try simp only [ZaR,ZaS,ZaI,ZaJ,ZaK,ZaL,ZaM,ZaN,ZaO,ZaP,Bool.or_true,Bool.or_false,ZaT,ZaQ])
      all_goals (cases bn<;>try simp only [ZaR,ZaS,ZaI,ZaJ,ZaK,ZaL,ZaM,ZaN,ZaO,ZaP,Bool.or_true,Bool.or_false,ZaT,ZaQ])
      all_goals (cases bp<;>try simp only [ZaR,ZaS,ZaI,ZaJ,ZaK,ZaL,ZaM,ZaN,ZaO,ZaP,Bool.or_true,Bool.or_false,ZaT,ZaQ])
      all_goals (cases lg<;>try simp only [ZaR,ZaS,ZaI,ZaJ,ZaK,ZaL,ZaM,ZaN,ZaO,ZaP,Bool.or_true,Bool.or_false,ZaT,ZaQ])
    · (cases w<;>try simp only [ZaR,ZaS,ZaI,ZaJ,ZaK,ZaL,ZaM,ZaN,ZaO,ZaP,Bool.or_true,Bool.or_false,ZaT,ZaQ])
      all_goals (cases gn<;>try simp only [ZaR,ZaS,ZaI,ZaJ,ZaK,ZaL,ZaM,ZaN,ZaO,ZaP,Bool.or_true,Bool.or_false,ZaT,ZaQ])
      all_goals (cases l1<;>try simp only [ZaR,ZaS,ZaI,ZaJ,ZaK,ZaL,ZaM,ZaN,ZaO,ZaP,Bool.or_true,Bool.or_false,ZaT,ZaQ])
      all_goals (cases pa<;>try simp only [ZaR,ZaS,ZaI,ZaJ,ZaK,ZaL,ZaM,ZaN,ZaO,ZaP,Bool.or_true,Bool.or_false,ZaT,ZaQ])
      all_goals (cases pn<;>try simp only [ZaR,ZaS,ZaI,ZaJ,ZaK,ZaL,ZaM,ZaN,ZaO,ZaP,Bool.or_true,Bool.or_false,ZaT,ZaQ])
      all_goals (cases k1<;>try simp only [ZaR,ZaS,ZaI,ZaJ,ZaK,ZaL,ZaM,ZaN,ZaO,ZaP,Bool.or_true,Bool.or_false,ZaT,ZaQ])
      all_goals (cases ng<;>try simp only [ZaR,ZaS,ZaI,ZaJ,ZaK,ZaL,ZaM,ZaN,ZaO,ZaP,Bool.or_true,Bool.or_false,ZaT,ZaQ])
      all_goals (cases k4<;>try simp only [ZaR,ZaS,ZaI,ZaJ,ZaK,ZaL,ZaM,ZaN,ZaO,ZaP,Bool.or_true,Bool.or_false,ZaT,ZaQ])
      all_goals (cases b1<;>try simp only [ZaR,ZaS,ZaI,ZaJ,ZaK,ZaL,ZaM,ZaN,ZaO,ZaP,Bool.or_true,Bool.or_false,ZaT,ZaQ])
      all_goals (cases bn<;>try simp only [ZaR,ZaS,ZaI,ZaJ,ZaK,ZaL,ZaM,ZaN,ZaO,ZaP,Bool.or_true,Bool.or_false,ZaT,ZaQ])
      all_goals (cases bp<;>try simp only [ZaR,ZaS,ZaI,ZaJ,ZaK,ZaL,ZaM,ZaN,ZaO,ZaP,Bool.or_true,Bool.or_false,ZaT,ZaQ])
      all_goals (cases lg<;>try simp only [ZaR,ZaS,ZaI,ZaJ,ZaK,ZaL,ZaM,ZaN,ZaO,ZaP,Bool.or_true,Bool.or_false,ZaT,ZaQ])
  by_cases h3:m.Zak=3
  · rw [h3]
    clear hb1 hb2 hb3
    simp only [show ((3:Int) == 0)=false from rfl,show ((3:Int) == 1)=false from rfl,show ((3:Int) == 2)=false from rfl,show ((3:Int) == 3)=true from rfl,show ((3:Int) == 4)=false from rfl,show ((3:Int) == 5)=false from rfl,ZaR,ZaS,ZaI,ZaJ,ZaK,ZaL,ZaM,ZaN,ZaO,ZaP,Bool.or_true,Bool.or_false,ZaT,ZaQ]
    (cases l0<;>try simp only [ZaR,ZaS,ZaI,ZaJ,ZaK,ZaL,ZaM,ZaN,ZaO,ZaP,Bool.or_true,Bool.or_false,ZaT,ZaQ])
    all_goals (cases gn<;>try simp only [ZaR,ZaS,ZaI,ZaJ,ZaK,ZaL,ZaM,ZaN,ZaO,ZaP,Bool.or_true,Bool.or_false,ZaT,ZaQ])
    all_goals (cases g9<;>try simp only [ZaR,ZaS,ZaI,ZaJ,ZaK,ZaL,ZaM,ZaN,ZaO,ZaP,Bool.or_true,Bool.or_false,ZaT,ZaQ])
    all_goals (cases bm<;>try simp only [ZaR,ZaS,ZaI,ZaJ,ZaK,ZaL,ZaM,ZaN,ZaO,ZaP,Bool.or_true,Bool.or_false,ZaT,ZaQ])
    all_goals (cases bp<;>try simp only [ZaR,ZaS,ZaI,ZaJ,ZaK,ZaL,ZaM,ZaN,ZaO,ZaP,Bool.or_true,Bool.or_false,ZaT,ZaQ])
    all_goals (cases pa<;>try simp only [ZaR,ZaS,ZaI,ZaJ,ZaK,ZaL,ZaM,ZaN,ZaO,ZaP,Bool.or_true,Bool.or_false,ZaT,ZaQ])
  by_cases h4:m.Zak=4
  · rw [h4]
    clear hb1 hb2 hb3
    simp only [show ((4:Int) == 0)=false from rfl,show ((4:Int) == 1)=false from rfl,show ((4:Int) == 2)=false from rfl,show ((4:Int) == 3)=false from rfl,show ((4:Int) == 4)=true from rfl,show ((4:Int) == 5)=false from rfl,ZaR,ZaS,ZaI,ZaJ,ZaK,ZaL,ZaM,ZaN,ZaO,ZaP,Bool.or_true,Bool.or_false,ZaT,ZaQ]
    (cases l0<;>try simp only [ZaR,ZaS,ZaI,ZaJ,ZaK,ZaL,ZaM,ZaN,ZaO,ZaP,Bool.or_true,Bool.or_false,ZaT,ZaQ])
    all_goals (cases gn<;>try simp only [ZaR,ZaS,ZaI,ZaJ,ZaK,ZaL,ZaM,ZaN,ZaO,ZaP,Bool.or_true,Bool.or_false,ZaT,ZaQ])
    all_goals (cases g9<;>try simp only [ZaR,ZaS,ZaI,ZaJ,ZaK,ZaL,ZaM,ZaN,ZaO,ZaP,Bool.or_true,Bool.or_false,ZaT,ZaQ])
    all_goals (cases bm<;>try simp only [ZaR,ZaS,ZaI,ZaJ,ZaK,ZaL,ZaM,ZaN,ZaO,ZaP,Bool.or_true,Bool.or_false,ZaT,ZaQ])
    all_goals (cases bp<;>try simp only [ZaR,ZaS,ZaI,ZaJ,ZaK,ZaL,ZaM,ZaN,ZaO,ZaP,Bool.or_true,Bool.or_false,ZaT,ZaQ])
    all_goals (cases pa<;>try simp only [ZaR,ZaS,ZaI,ZaJ,ZaK,ZaL,ZaM,ZaN,ZaO,ZaP,Bool.or_true,Bool.or_false,ZaT,ZaQ])
  by_cases h5:m.Zak=5
  · rw [h5]
    clear hb1 hb2 hb3
    simp only [show ((5:Int) == 0)=false from rfl,show ((5:Int) == 1)=false from rfl,show ((5:Int) == 2)=false from rfl,show ((5:Int) == 3)=false from rfl,show ((5:Int) == 4)=false from rfl,show ((5:Int) == 5)=true from rfl,ZaR,ZaS,ZaI,ZaJ,ZaK,ZaL,ZaM,ZaN,ZaO,ZaP,Bool.or_true,Bool.or_false,ZaT,ZaQ]
    (cases l0<;>try simp only [ZaR,ZaS,ZaI,ZaJ,ZaK,ZaL,ZaM,ZaN,ZaO,ZaP,Bool.or_true,Bool.or_false,ZaT,ZaQ])
    all_goals (cases gn<;>try simp only [ZaR,ZaS,ZaI,ZaJ,ZaK,ZaL,ZaM,ZaN,ZaO,ZaP,Bool.or_true,Bool.or_false,ZaT,ZaQ])
    all_goals (cases g9<;>try simp only [ZaR,ZaS,ZaI,ZaJ,ZaK,ZaL,ZaM,ZaN,ZaO,ZaP,Bool.or_true,Bool.or_false,ZaT,ZaQ])
    all_goals (cases bm<;>try simp only [ZaR,ZaS,ZaI,ZaJ,ZaK,ZaL,ZaM,ZaN,ZaO,ZaP,Bool.or_true,Bool.or_false,ZaT,ZaQ])
    all_goals (cases bp<;>try simp only [ZaR,ZaS,ZaI,ZaJ,ZaK,ZaL,ZaM,ZaN,ZaO,ZaP,Bool.or_true,Bool.or_false,ZaT,ZaQ])
    all_goals (cases pa<;>try simp only [ZaR,ZaS,ZaI,ZaJ,ZaK,ZaL,ZaM,ZaN,ZaO,ZaP,Bool.or_true,Bool.or_false,ZaT,ZaQ])
  · rw [beq_eq_false_iff_ne.2 h0,beq_eq_false_iff_ne.2 h1,beq_eq_false_iff_ne.2 h2,beq_eq_false_iff_ne.2 h3,beq_eq_false_iff_ne.2 h4,beq_eq_false_iff_ne.2 h5]
    simp only [ZaR,ZaS,ZaI,ZaJ,ZaK,ZaL,ZaM,ZaN,ZaO,ZaP,Bool.or_true,Bool.or_false,ZaT,ZaQ]
theorem zgu {ms:List zw} {x:CondT} {m:zw} (hx:ze ms x.clause=some m) (h1:1≤x.is) (h4:x.is≤4):ku ms x=some (qW ms x):=by
  unfold ku qW
  rw [hx,zX (x:=x.is+1) (by omega) (by omega)]
  simp only [ZaT]
  have:x.is=1∨x.is=2∨x.is=3∨x.is=4:=by omega
  rcases this with h | h | h | h<;>rw [h]<;>rfl
theorem zay {c:Zaa} (ho:c.off.length < 4611686018427387904) (hv:(z7 c).1=0) {ms:List zw} (hl:ms.length=c.Zaf.length) {i:Nat} (hi:i < c.Zaf.length):vA c ms (i:Int)=some (qo c.Zaf ms i):=by
  have hk:=List.getElem?_eq_getElem hi
  have hm:=List.getElem?_eq_getElem (show i < ms.length by omega)
  have kv:=jy ho hv hk
  have km:=zbP hv hk
  have hst:=kv.start
  unfold vA qo
  rw [hk,hm]
  simp only [zD hk,zD hm,ZaT]
  generalize c.Zaf[i]=k at *
  generalize ms[i]=m at *
  have hloop:iter (σ:=Int) (ρ:=Unit ⊕ Unit) (fun s1=>(bif decide (s1 < (k.start.length:Int)) then (Option.bind (ze k.start s1) fun e5=>(Option.bind (ku ms e5) fun r1=>(bif r1 then some (.inl (IntKind.i64.wrap (s1+1))) else some (.inr (.inr ()))))) else some (.inr (.inl ())))) 0=some (bif k.start.all (qW ms) then .inl () else .inr ()):=by
    refine Ret.eq (Ret.iter (fun s1=>0≤s1∧s1≤(k.start.length:Int)∧∀ (j:Nat) (hj:j < k.start.length),(j:Int) < s1→qW ms k.start[j]=true) (fun s1=>((k.start.length:Int) - s1).toNat) ⟨by omega,by omega,fun j _ hj=>by omega⟩ ?_)
    rintro s1 ⟨a1,a2,a3⟩
    refine Ret.ite (fun hlt => ?_) (fun hge=>Ret.some ?_)
    · have hlt:=of_decide_eq_true hlt
      obtain ⟨h5,h6⟩:=qm (l:=k.start) a1 hlt
      refine Ret.bindE h6 ?_
      have hmem:=List.getElem_mem h5
      have hcd:=kv.cond _ hmem
      have his:=km.1 _ hmem
      obtain ⟨h7,h8⟩:=qm (l:=ms) hcd.1 (by omega)
      refine Ret.bindE (zgu h8 his.1 his.2) ?_
      refine Ret.ite (fun hc=>Ret.some ⟨⟨?_,?_,fun j hj hjs => ?_⟩,?_⟩) (fun hc=>Ret.some ?_)
      · rw [zX (by omega) (by omega)];omega
      · rw [zX (by omega) (by omega)];omega
      · rw [zX (by omega) (by omega)] at hjs
        by_cases e:(j:Int)=s1
        · have:s1.toNat=j:=by omega
          subst this
          exact hc
        · exact a3 j hj (by omega)
      · rw [zX (by omega) (by omega)];omega
      · show (Sum.inr ():Unit ⊕ Unit)=_
        have:k.start.all (qW ms)=false:=by
          rw [List.all_eq_false]
          exact ⟨_,hmem,by rw [hc];simp⟩
        rw [this];rfl
    · have hge:=of_decide_eq_false hge
      show (Sum.inl ():Unit ⊕ Unit)=_
      have:k.start.all (qW ms)=true:=by
        rw [List.all_eq_true]
        intro x hx
        obtain ⟨j,hj,rfl⟩:=List.getElem_of_mem hx
        exact a3 j hj (by omega)
      rw [this];rfl
  rw [hloop]
  cases (m.Zak == 0)<;>cases k.waived<;>cases k.start.all (qW ms)<;>rfl
theorem Za {c:Zaa} (hc:c.Ok) (s:Zao):xC c s=some (vsB c s):=by
  unfold xC vsB
  rw [zh5 hc]
  simp only [ZaT]
  cases hv:((z7 c).1 == 0) with
  | false=>rfl
  | true=>
    have hv':=beq_iff_eq.1 hv
    have ho:=hc.off.lt (by omega:0 < 8)
    have sm:=qx ho hv'
    have:=sm.Zad
    have:=sm.Zaj
    have:=sm.Zaf
    simp only [ZaR,ZaK]
    cases h1:decide (s.day < 0)<;>cases h2:decide (c.Zas < s.day)<;>cases h3:((s.Zad.length:Int) == c.Zad.length)<;>cases h4:((s.used.length:Int) == c.Zaj.length)<;>cases h5:((s.Zag.length:Int) == c.Zaf.length)<;>try rfl
    have e3:=beq_iff_eq.1 h3
    have e4:=beq_iff_eq.1 h4
    have e5:=beq_iff_eq.1 h5
    simp only [ZaR,ZaS,ZaI,ZaJ,ZaK,ZaT]
    rw [qR (l:=s.Zad) (fun h=>decide (0≤h)&&decide (h < c.Zal)) (by omega) (fun j hj=>by
      simp only [zz,List.getElem?_eq_getElem hj,ZaT,xd 0,xd c.Zal]
      cases decide (s.Zad[j] < 0)<;>cases decide (s.Zad[j] < c.Zal)<;>rfl)]
    rw [jh (n:=s.used.length) (yG c.Zaj s.used) (by omega) (fun j hj=>by
      have hj':j < c.Zaj.length:=by omega
      simp only [zz,List.getElem?_eq_getElem hj,List.getElem?_eq_getElem hj',ZaT,yG]
      cases s.used[j]<;>cases (c.Zaj[j].kind == 1)<;>rfl)]
    rw [jh (n:=s.Zag.length) (fun j=>match c.Zaf[j]?,s.Zag[j]? with | some k,some m=>qy c.Zal k m | _,_=>false) (by omega) (fun j hj=>by
      have hj':j < c.Zaf.length:=by omega
      have hk:=List.getElem?_eq_getElem hj'
      have hm:=List.getElem?_eq_getElem hj
      simp only [zz,hm,hk,ZaT]
      rw [zia (jy ho hv' hk)]
      simp only [ZaT]
      cases qy c.Zal c.Zaf[j] s.Zag[j]<;>rfl)]
    rw [jh (n:=s.Zag.length) (fun j=>!qo c.Zaf s.Zag j) (by omega) (fun j hj=>by
      rw [zay ho hv' (by omega) (show j < c.Zaf.length by omega)]
      simp only [ZaT]
      cases qo c.Zaf s.Zag j<;>rfl)]
    have key:(List.range s.Zag.length).all (xV c s.Zag)=((List.range s.Zag.length).all (fun j=>match c.Zaf[j]?,s.Zag[j]? with | some k,some m=>qy c.Zal k m | _,_=>false)&&(List.range s.Zag.length).all (fun j=>!qo c.Zaf s.Zag j)):=by
      rw [Bool.eq_iff_iff,Bool.and_eq_true,List.all_eq_true,List.all_eq_true,List.all_eq_true]
      have e:∀ j,xV c s.Zag j=true↔(match c.Zaf[j]?,s.Zag[j]? with | some k,some m=>qy c.Zal k m | _,_=>false)=true∧(!qo c.Zaf s.Zag j)=true:=fun j=>by
        unfold xV
        cases c.Zaf[j]? with
        | none=>simp
        | some k=>
          cases s.Zag[j]? with
          | none=>simp
          | some m=>simp only [Bool.and_eq_true]
      constructor
      · intro h
        exact ⟨fun j hj=>((e j).1 (h j hj)).1,fun j hj=>((e j).1 (h j hj)).2⟩
      · rintro ⟨h1,h2⟩ j hj
        exact (e j).2 ⟨h1 j hj,h2 j hj⟩
    rw [key]
    simp only [x9,ZaT]
    cases s.Zad.all (fun h=>decide (0≤h)&&decide (h < c.Zal))<;>try rfl
    cases (List.range s.used.length).all (yG c.Zaj s.used)<;>try rfl
    generalize (List.range s.Zag.length).all (fun j=>match c.Zaf[j]?,s.Zag[j]? with | some k,some m=>qy c.Zal k m | _,_=>false)=x
    generalize (List.range s.Zag.length).all (fun j=>!qo c.Zaf s.Zag j)=y
    cases x<;>cases y<;>rfl
theorem zbQ (c:Zaa) (s:Zao) (i:Nat) (a:Zar) (ha:c.Zaj[i]?=some a) (h:a.Zax = -1∨(0≤a.Zax∧a.Zax < s.Zad.length)):ZQ c s (i:Int)=some (qU s.Zad a):=by
  unfold ZQ qU
  simp only [zD ha,ZaT]
  cases hr:(a.Zax == (-1)) with
  | true=>rfl
  | false=>
    have h1:=beq_eq_false_iff_ne.1 hr
    obtain ⟨h2,h3⟩:=qm (l:=s.Zad) (n:=a.Zax) (by omega) (by omega)
    simp only [ZaS,h3,ZaT,List.getElem?_eq_getElem h2,Option.getD_some]
theorem zib {c:Zaa} (hc:c.Ok) {s:Zao} (hv:VS c s) {i:Nat} {a:Zar} (ha:c.Zaj[i]?=some a):JW c s (i:Int)=some (qU s.Zad a):=by
  have av:=WO hv.cv ha
  have hi:=(List.getElem?_eq_some_iff.1 ha).1
  unfold JW
  rw [Za hc,ky hv,decide_eq_false (show ¬ (i:Int) < 0 by omega),decide_eq_false (show ¬ (c.Zaj.length:Int)≤(i:Int) by omega)]
  simp only [ZaT,ZaR,ZaS]
  rw [zbQ c s i a ha (by have:=av.Zax;have:=hv.lh;omega)]
  rfl
theorem WR {c:Zaa} {hs:List Int} {ms r r':List zw} (hl:ms.length=c.Zaf.length) (S:StartP c hs ms r) (S':StartP c hs ms r'):r=r':=by
  have l1:r.length=c.Zaf.length:=S.ok.1
  have l2:r'.length=c.Zaf.length:=S'.ok.1
  refine List.ext_getElem? fun i => ?_
  by_cases hi:i < c.Zaf.length
  · have hk:=List.getElem?_eq_getElem hi
    have hm:=List.getElem?_eq_getElem (show i < ms.length by omega)
    rcases S.sta i _ _ hk hm with ⟨a1,a2⟩ | ⟨a1,a2⟩<;>rcases S'.sta i _ _ hk hm with ⟨b1,b2⟩ | ⟨b1,b2⟩
    · rw [a2,b2]
    · exact absurd b1 a1
    · exact absurd a1 b1
    · rw [a2,b2]
  · rw [List.getElem?_eq_none (by omega),List.getElem?_eq_none (by omega)]
theorem zeZ {c:Zaa} {hs:List Int} {ms ms2:List zw} (ho:c.off.length < 4611686018427387904) (hv:(z7 c).1=0) (hh:hs.length=c.Zad.length) (hb:∀ h∈hs,0≤h∧h < c.Zal) (hl0:ms.length=c.Zaf.length) (ok2:MOk c ms2) (rel2:StR c ms ms2) (sta2:Jm c hs ms ms2) {i:Nat} {k:Zan} (hk:c.Zaf[i]?=some k) (hr:qo c.Zaf ms2 i=true) :
    MOk c (ms2.set i (qS k (qT hs k)))∧StR c ms (ms2.set i (qS k (qT hs k)))∧Jm c hs ms (ms2.set i (qS k (qT hs k)))∧jp (ms2.set i (qS k (qT hs k))) < jp ms2:=by
  have hi:=(List.getElem?_eq_some_iff.1 hk).1
  have hl2:=ok2.1
  have hi2:i < ms2.length:=by omega
  have hm2:=List.getElem?_eq_getElem hi2
  have kv:=jy ho hv hk
  have hcd:∀ (i:Nat) (k:Zan),c.Zaf[i]?=some k→∀ x∈k.start,0≤x.clause∧x.clause < c.Zaf.length:=fun i k hk=>(jy ho hv hk).cond
  have hr':=hr
  simp only [qo,hk,hm2,Bool.and_eq_true,Bool.not_eq_true',beq_iff_eq] at hr'
  obtain ⟨⟨h0,hw⟩,_⟩:=hr'
  have hbv:bif k.kind == 4 then qT hs k = -1 else 0≤qT hs k∧qT hs k < c.Zal:=by
    unfold qT
    cases h4:(k.kind == 4) with
    | true=>rfl
    | false=>
      have hro:=kv.Zax.resolve_left (beq_eq_false_iff_ne.1 h4)
      have hlt:k.Zax.toNat < hs.length:=by omega
      show 0≤hs[k.Zax.toNat]?.getD 0∧hs[k.Zax.toNat]?.getD 0 < c.Zal
      rw [List.getElem?_eq_getElem hlt]
      exact hb _ (List.getElem_mem hlt)
  have hnew:qy c.Zal k (qS k (qT hs k))=true:=by
    generalize qT hs k=b at hbv
    simp only [qy,qS,vE,hw]
    have h1:=kv.after
    have:¬ k.after < 1:=by omega
    cases h4:(k.kind == 4) with
    | true=>rw [h4] at hbv;simp only [ZaR] at hbv;subst hbv;simp [this]
    | false=>rw [h4] at hbv;simp only [ZaS] at hbv;simp [this,hbv]
  refine ⟨⟨by simpa using hl2,fun j k' m hj hmj => ?_⟩,fun j m m' h1 h2 => ?_,fun j k' m hj hmj => ?_,Ym (m':=qS k (qT hs k)) hm2 h0 (by simp [qS])⟩
  · rw [List.getElem?_set] at hmj
    by_cases hij:i=j
    · subst hij
      rw [if_pos rfl,if_pos hi2] at hmj
      rw [hk] at hj
      cases hj;cases hmj;exact hnew
    · rw [if_neg hij] at hmj;exact ok2.2 j k' m hj hmj
  · rw [List.getElem?_set] at h2
    by_cases hij:i=j
    · subst hij
      rw [if_pos rfl,if_pos hi2] at h2
      cases h2
      refine .inr ⟨?_,_,_,hk,rfl⟩
      rcases rel2 i m _ h1 hm2 with h | ⟨h,_⟩
      · rw [←h];exact h0
      · exact h
    · rw [if_neg hij] at h2;exact rel2 j m m' h1 h2
  · rw [List.getElem?_set]
    by_cases hij:i=j
    · subst hij
      rw [if_pos rfl,if_pos hi2]
      rw [hk] at hj
      cases hj
      exact .inr ⟨Yl hl0 hl2 sta2 hk (hcd _ _ hk) hr,rfl⟩
    · rw [if_neg hij];exact sta2 j k' m hj hmj
theorem kA {α:Type} {by_:Nat} {l:List α} (h:l.length*by_≤140737488355328):xz by_ [] l=some l:=by
  unfold xz
  rw [if_pos (by simpa using h)];rfl
theorem XH (c:Zaa) (s:Zao) (ho:c.off.length < 4611686018427387904) (hv:(z7 c).1=0) (hh:s.Zad.length=c.Zad.length) (hb:∀ h∈s.Zad,0≤h∧h < c.Zal) (hm:MOk c s.Zag) :
    Ret (vC c s) (fun r=>r.day=s.day∧r.Zad=s.Zad∧r.used=s.used∧StartP c s.Zad s.Zag r.Zag):=by
  have sm:=qx ho hv
  have hcl:=sm.Zaf
  have hl0:=hm.1
  have hcd:∀ (i:Nat) (k:Zan),c.Zaf[i]?=some k→∀ x∈k.start,0≤x.clause∧x.clause < c.Zaf.length:=fun i k hk=>(jy ho hv hk).cond
  unfold vC
  refine Ret.bindE (kA (by omega)) ?_
  refine Ret.bind (P:=fun r=>StartP c s.Zad s.Zag r) (Ret.bind (P:=fun r=>StartP c s.Zad s.Zag r) (Ret.iter (fun s1=>0≤s1.1∧s1.1≤(c.Zaf.length:Int)∧MOk c s1.2∧StR c s.Zag s1.2∧(NR c s.Zag→s1.2=s.Zag)∧Jm c s.Zad s.Zag s1.2∧∀ j:Nat,(j:Int) < s1.1→qo c.Zaf s1.2 j=false) (fun s1=>jp s1.2*(c.Zaf.length+2)+((c.Zaf.length:Int) - s1.1).toNat) ⟨by simp,by simp,hm,fun i m m' h1 h2=>.inl (by simp only at h2;rw [h1] at h2;exact (Option.some.inj h2).symm),fun _=>rfl,fun i k m h1 h2=>.inl h2,fun j hj=>by simp only at hj;omega⟩ ?_) (fun r hr=>Ret.some hr)) ?_
  · rintro ⟨i0,ms2⟩ ⟨a0,a1,ok2,rel2,same2,sta2,nr2⟩
    simp only at a0 a1 ok2 rel2 same2 sta2 nr2
    have hl2:=ok2.1
    refine Ret.ite (fun hlt => ?_) (fun hge=>Ret.some ?_)
    · have hlt:i0 < c.Zaf.length:=of_decide_eq_true hlt
      obtain ⟨i,rfl⟩:∃ i:Nat,i0=(i:Int):=⟨i0.toNat,by omega⟩
      have hi:i < c.Zaf.length:=by omega
      have hk:=List.getElem?_eq_getElem hi
      refine Ret.bindE (yw (show s.Zag.length=ms2.length by omega)) ?_
      refine Ret.bindE (zay ho hv hl2 hi) ?_
      refine Ret.ite (fun hr => ?_) (fun hr=>Ret.some ?_)
      · refine Ret.bindE (zD hk) ?_
        have kv:=jy ho hv hk
        have hone:=zeZ ho hv hh hb hl0 ok2 rel2 sta2 hk hr
        generalize c.Zaf[i]=k at hk kv hone
        refine Ret.bindE (v:=qT s.Zad k) ?_ ?_
        · unfold qT
          cases h4:(k.kind == 4) with
          | true=>rfl
          | false=>
            have hro:=kv.Zax.resolve_left (beq_eq_false_iff_ne.1 h4)
            obtain ⟨g1,g2⟩:=qm (l:=s.Zad) hro.1 (by omega)
            simp only [ZaS,g2,ZaT,List.getElem?_eq_getElem g1,Option.getD_some]
        refine Ret.bindE (qG (show i < s.Zag.length by omega)) ?_
        refine Ret.bindE (List.getElem?_eq_getElem (show i < ms2.length by omega)) ?_
        obtain ⟨b1,b2,b3,b4⟩:=hone
        refine Ret.some ⟨⟨by simp,by simp,b1,b2,fun hn => ?_,b3,fun j hj=>by simp only at hj;omega⟩,?_⟩
        · have e:=same2 hn
          have:=hn i hi
          rw [←e,hr] at this
          cases this
        · show jp (ms2.set i (qS k (qT s.Zad k)))*(c.Zaf.length+2)+((c.Zaf.length:Int) - 0).toNat < jp ms2*(c.Zaf.length+2)+((c.Zaf.length:Int) - (i:Int)).toNat
          have h5:=Nat.mul_le_mul_right (c.Zaf.length+2) (show jp (ms2.set i (qS k (qT s.Zad k)))+1≤jp ms2 from b4)
          rw [Nat.succ_mul] at h5
          omega
      · have e:IntKind.i64.wrap ((i:Int)+1)=(i:Int)+1:=zX (by omega) (by omega)
        rw [e]
        refine ⟨⟨by simp only;omega,by simp only;omega,ok2,rel2,same2,sta2,fun j hj => ?_⟩,?_⟩
        · simp only at hj
          by_cases e:j=i
          · subst e;exact hr
          · exact nr2 j (by omega)
        · show jp ms2*(c.Zaf.length+2)+((c.Zaf.length:Int) - ((i:Int)+1)).toNat < jp ms2*(c.Zaf.length+2)+((c.Zaf.length:Int) - (i:Int)).toNat
          omega
    · have hge:¬ i0 < c.Zaf.length:=of_decide_eq_false hge
      have hn:NR c ms2:=fun j hj=>nr2 j (by omega)
      exact ⟨ok2,hn,rel2,same2,zbJ hl0 hl2 sta2 hn hcd⟩
  · intro r hr
    refine Ret.bindE (yw (by rw [hl0,hr.ok.1])) ?_
    exact Ret.some ⟨rfl,rfl,rfl,hr⟩
theorem ze0 (c:Zaa) (x:Zan) (m:zw) (day:Int) (ho:c.off.length < 4611686018427387904):kV c x m day=some (qt m&&(!m.Zat && !(x.business&&(qw c.off day).isSome))):=by
  unfold kV
  rw [qR (l:=c.off) (fun d=>!(d == day&&x.business)) ho (fun i hi=>by
    simp only [zz,List.getElem?_eq_getElem hi,ZaT]
    cases (c.off[i] == day)<;>cases x.business<;>rfl)]
  have e:c.off.all (fun d=>!(d == day&&x.business))=!(x.business&&(qw c.off day).isSome):=by
    unfold qw
    cases x.business with
    | false=>simp
    | true=>
      by_cases hm:day∈c.off
      · rw [if_pos hm]
        have:c.off.all (fun d=>!(d == day&&true))=false:=by
          rw [List.all_eq_false]
          exact ⟨day,hm,by simp⟩
        rw [this];rfl
      · rw [if_neg hm]
        have:c.off.all (fun d=>!(d == day&&true))=true:=by
          rw [List.all_eq_true]
          intro d hd
          have:d≠day:=fun e=>hm (by rw [←e];exact hd)
          simp [this]
        rw [this];rfl
  rw [e]
  simp only [jV,ZaT,qt]
  cases (m.Zak == 1)<;>cases (m.Zak == 2)<;>cases m.Zat<;>cases (x.business&&(qw c.off day).isSome)<;>rfl
theorem zgv (free:Bool) (k:Zan) (m:zw) (hr:qt m=true) (hp:(m.Zat||(k.business&&free))=false) (hl:1≤m.left∧m.left≤400):Qv k m=some (jj free k m):=by
  unfold Qv jj
  rw [hr,hp,zX (x:=m.left - 1) (by omega) (by omega)]
  simp only [ZaR,ZaS,wN,ZaT]
  by_cases h:m.left - 1=0
  · rw [beq_iff_eq.2 h,decide_eq_false (show ¬ 0 < m.left - 1 by omega)]
    cases (k.kind == 1)<;>cases (m.Zak == 1)<;>cases decide (0 < k.ZaA)<;>cases (k.kind == 2)<;>rfl
  · rw [beq_eq_false_iff_ne.2 h,decide_eq_true (show 0 < m.left - 1 by omega)]
    rfl
theorem zic {c:Zaa} (hc:c.Ok) {s:Zao} (hv:VS c s) (hd:s.day < c.Zas):Ret (JX c s) (fun r=>zc5 c s r):=by
  have ho:=hc.off.lt (by omega:0 < 8)
  have sm:=qx ho hv.cv
  have hcl:=sm.Zaf
  have hdy:=sm.Zas
  have hday:=hv.day
  have hl:=hv.lm
  have hmo:MOk c s.Zag:=⟨hv.lm,hv.mrk⟩
  have hmo2:MOk c (s.Zag.mapIdx (atK c (jj (qw c.off s.day).isSome))):=hmo.mapIdx _ fun i k m hk h=>zam _ (jy ho hv.cv hk) (by have:=sm.Zal;omega) h
  unfold JX
  refine Ret.bindE (kA (by omega)) ?_
  refine Ret.bind (P:=fun o:List zw ⊕ Unit=>o=.inl (s.Zag.mapIdx (atK c (jj (qw c.off s.day).isSome)))) (Ret.of (xk s.Zag (atK c (jj (qw c.off s.day).isSome)) (by omega) ?_)) ?_
  · intro i m ms h1 h2 h3
    have hi:i < s.Zag.length:=(List.getElem?_eq_some_iff.1 h1).1
    have hk:=List.getElem?_eq_getElem (show i < c.Zaf.length by omega)
    have kv:=jy ho hv.cv hk
    have hmk:=hmo.2 i _ _ hk h1
    simp only [zD hk,qG hi,ZaT,h3,atK,hk]
    generalize c.Zaf[i]=k at hk kv hmk
    rw [ze0 c k m s.day ho]
    simp only [ZaT]
    cases hrn:qt m with
    | false=>
      have:jj (qw c.off s.day).isSome k m=m:=by unfold jj;rw [hrn];rfl
      rw [this,q7 h3]
      rfl
    | true=>
      obtain ⟨rv,hb,hst⟩:=xl kv hmk hrn
      cases hp:(m.Zat||(k.business&&(qw c.off s.day).isSome)) with
      | true=>
        have:jj (qw c.off s.day).isSome k m=m:=by unfold jj;rw [hrn,hp];rfl
        have e:(true&&(!m.Zat && !(k.business&&(qw c.off s.day).isSome)))=false:=by
          revert hp
          cases m.Zat<;>cases (k.business&&(qw c.off s.day).isSome)<;>simp
        rw [this,q7 h3,e]
        rfl
      | false=>
        have e:(true&&(!m.Zat && !(k.business&&(qw c.off s.day).isSome)))=true:=by
          revert hp
          cases m.Zat<;>cases (k.business&&(qw c.off s.day).isSome)<;>simp
        rw [e,zgv _ k m hrn hp rv.left]
        rfl
  · rintro _ rfl
    simp only [ZaU]
    have e1:List.take s.Zag.length (s.Zag.mapIdx (atK c (jj (qw c.off s.day).isSome)))=s.Zag.mapIdx (atK c (jj (qw c.off s.day).isSome)):=List.take_of_length_le (by simp)
    rw [e1,zX (by omega) (by omega)]
    refine Ret.bind (XH c _ ho hv.cv hv.lh hv.hold hmo2) fun r hr => ?_
    exact Ret.some hr
theorem QA {c:Zaa} (F G:Zan→zw→zw) (ms:List zw):(ms.mapIdx (atK c F)).mapIdx (atK c G)=ms.mapIdx (atK c fun k m=>G k (F k m)):=by
  refine List.ext_getElem? fun i => ?_
  rw [List.getElem?_mapIdx,List.getElem?_mapIdx,List.getElem?_mapIdx]
  cases ms[i]? with
  | none=>rfl
  | some m=>
    simp only [Option.map_some,atK]
    cases c.Zaf[i]?<;>rfl
def Zp (act by_:Int) (a:Zar) (k:Zan) (m:zw):zw:=bif a.kind == 3 then wT a k (xD act by_ k (xc act k m)) else xD act by_ k (xc act k m)
theorem zbR (c:Zaa) (act:Int) (a:Zar) (hs:List Int) (ms:List zw):ms3 c act a hs ms=ms.mapIdx (atK c (Zp act (qU hs a) a)):=by
  unfold ms3 ms2 ms1
  cases h:(a.kind == 3) with
  | false=>
    rw [ZaS,QA]
    unfold Zp
    rw [h];rfl
  | true=>
    rw [ZaR,QA,QA]
    unfold Zp
    rw [h];rfl
theorem zc9 (k:Zan) (m:zw) (h:0≤m.got∧m.got≤100):yD k m=some (kz k m):=by
  unfold yD kz Y1
  rw [zX (x:=m.got+1) (by omega) (by omega)]
  simp only [wN,ZaT]
  cases (k.kind == 1)<;>cases (m.got+1 == k.need)<;>cases (k.kind == 2)<;>cases m.Zat<;>rfl
theorem zgw {act b:Int} {a:Zar} {k:Zan} {m:zw} (h:qt m=false):Zp act b a k m=m:=by
  have e1:xc act k m=m:=by unfold xc;rw [h];rfl
  have e2:xD act b k m=m:=by unfold xD;rw [h];rfl
  have e3:wT a k m=m:=by unfold wT;rw [h];rfl
  unfold Zp
  rw [e1,e2,e3]
  cases (a.kind == 3)<;>rfl
theorem zjJ {c:Zaa} (hc:c.Ok) {s:Zao} (hv:VS c s) {i:Nat} {x:Zar} (hx:c.Zaj[i]?=some x):Ret (WI c s (i:Int)) (fun r=>zgj c i x s r):=by
  have ho:=hc.off.lt (by omega:0 < 8)
  have sm:=qx ho hv.cv
  have hcl:=sm.Zaf
  have hac:=sm.Zaj
  have hho:=sm.Zad
  have hl:=hv.lm
  have hlh:=hv.lh
  have hlu:=hv.lu
  have hmo:MOk c s.Zag:=⟨hv.lm,hv.mrk⟩
  have av:=WO hv.cv hx
  have hia:i < c.Zaj.length:=(List.getElem?_eq_some_iff.1 hx).1
  have hiu:i < s.used.length:=by omega
  have hu:=List.getElem?_eq_getElem hiu
  unfold WI
  refine Ret.bindE (zD hx) ?_
  refine Ret.bindE (v := !(x.kind == 1)&&s.used[i]) ?_ ?_
  · rw [zD hu]
    cases (x.kind == 1)<;>rfl
  refine Ret.ite (fun hb=>Ret.some (.inl ?_)) (fun hb => ?_)
  · simp only [Bool.and_eq_true,Bool.not_eq_true',beq_eq_false_iff_ne] at hb
    exact ⟨hb.1,by rw [hu,hb.2],rfl⟩
  have hor:x.kind=1∨s.used[i]?=some false:=by
    simp only [Bool.and_eq_false_iff,Bool.not_eq_false',beq_iff_eq] at hb
    rcases hb with hb | hb
    · exact .inl hb
    · exact .inr (by rw [hu,hb])
  refine Ret.bindE (zbQ c s i x hx (by have:=av.Zax;omega)) ?_
  refine Ret.bindE (kA (by omega)) ?_
  refine Ret.bind (P:=fun o:List zw ⊕ Unit=>o=.inl (s.Zag.mapIdx (atK c (Zp i (qU s.Zad x) x)))) (Ret.of (xk s.Zag (atK c (Zp i (qU s.Zad x) x)) (by omega) ?_)) ?_
  · intro j m ms h1 h2 h3
    have hj:j < s.Zag.length:=(List.getElem?_eq_some_iff.1 h1).1
    have hk:=List.getElem?_eq_getElem (show j < c.Zaf.length by omega)
    have kv:=jy ho hv.cv hk
    have km:=zbP hv.cv hk
    have hmk:=hmo.2 j _ _ hk h1
    simp only [zD hk,qG hj,ZaT,h3,atK,hk]
    generalize c.Zaf[j]=k at hk kv hmk km
    have erun:jV m=some (qt m):=by simp only [jV,ZaT,qt];cases (m.Zak == 1)<;>rfl
    rw [erun]
    simp only [ZaT]
    cases hrn:qt m with
    | false=>rw [zgw hrn,q7 h3];rfl
    | true=>
      obtain ⟨rv,hb,hst⟩:=xl kv hmk hrn
      have hgot:=rv.got
      have hneed:=kv.need
      generalize qU s.Zad x=w
      have ep:∃ p,xc i k m={m with Zat:=p}∧(bif (k.pause == (i:Int)) then some true else some m.Zat).bind (fun v2:Bool=>(bif (k.ZaG == (i:Int)) then some false else some v2))=some p:=by
        unfold xc
        rw [hrn,ZaR]
        by_cases h1:k.pause=(i:Int)
        · have h2:k.ZaG≠(i:Int):=fun h2=>by have:=km.2 (h1.trans h2.symm);omega
          rw [beq_iff_eq.2 h1,beq_eq_false_iff_ne.2 h2,beq_iff_eq.2 h1.symm]
          exact ⟨true,rfl,rfl⟩
        · rw [beq_eq_false_iff_ne.2 h1,beq_eq_false_iff_ne.2 (Ne.symm h1)]
          by_cases h2:k.ZaG=(i:Int)
          · rw [beq_iff_eq.2 h2,beq_iff_eq.2 h2.symm]
            exact ⟨false,rfl,rfl⟩
          · rw [beq_eq_false_iff_ne.2 h2,beq_eq_false_iff_ne.2 (Ne.symm h2)]
            exact ⟨m.Zat,rfl,rfl⟩
      obtain ⟨p,ep1,ep2⟩:=ep
      have hrn2:qt ({m with Zat:=p}:zw)=true:=hrn
      unfold Zp
      rw [ep1]
      obtain ⟨q,hq1,hq2⟩:=Option.bind_eq_some_iff.1 ep2
      rw [hq1]
      simp only [ZaT]
      rw [hq2]
      simp only [ZaT]
      have e4:(bif (k.act == (i:Int)) then (bif (k.kind == 4) then some true else some (m.Zaq == w)) else some false)=some (k.act == (i:Int)&&(k.kind == 4||m.Zaq == w)):=by
        cases (k.act == (i:Int))<;>cases (k.kind == 4)<;>rfl
      rw [e4,zc9 k {m with Zat:=p} (by show 0≤m.got∧m.got≤100;omega)]
      simp only [ZaT]
      have e5:(bif (k.act == (i:Int)&&(k.kind == 4||m.Zaq == w)) then some ((kz k {m with Zat:=p}).Zak,(kz k {m with Zat:=p}).left,(kz k {m with Zat:=p}).got,(kz k {m with Zat:=p}).Zaq,(kz k {m with Zat:=p}).Zat) else some (m.Zak,m.left,m.got,m.Zaq,p))=some ((xD i w k {m with Zat:=p}).Zak,(xD i w k {m with Zat:=p}).left,(xD i w k {m with Zat:=p}).got,(xD i w k {m with Zat:=p}).Zaq,(xD i w k {m with Zat:=p}).Zat):=by
        unfold xD
        rw [hrn2,ZaR]
        show _=some ((bif (k.act == (i:Int)&&(k.kind == 4||m.Zaq == w)) then kz k {m with Zat:=p} else {m with Zat:=p}:zw).Zak,_)
        cases (k.act == (i:Int)&&(k.kind == 4||m.Zaq == w))<;>rfl
      rw [e5]
      simp only [ZaT]
      generalize xD i w k {m with Zat:=p}=y
      have e6:jV ({Zak:=y.Zak,left:=y.left,got:=y.got,Zaq:=y.Zaq,Zat:=y.Zat}:zw)=some (qt y):=by simp only [jV,ZaT,qt];cases (y.Zak == 1)<;>rfl
      rw [e6]
      have e7:wT x k y={y with Zaq:=(bif qt y&&(!(k.kind == 4)&&k.Zax == x.give) then x.to else y.Zaq)}:=by
        unfold wT
        cases qt y<;>cases (k.kind == 4)<;>cases (k.Zax == x.give)<;>rfl
      rw [e7]
      simp only [ZaT]
      cases (x.kind == 3)<;>cases qt y<;>cases (k.kind == 4)<;>cases (k.Zax == x.give)<;>rfl
  rintro _ rfl
  simp only [ZaU]
  have e1:List.take s.Zag.length (s.Zag.mapIdx (atK c (Zp i (qU s.Zad x) x)))=s.Zag.mapIdx (atK c (Zp i (qU s.Zad x) x)):=List.take_of_length_le (by simp)
  have hm3:=zeW (act:=(i:Int)) (a:=x) (hs:=s.Zad) ho hv.cv (by omega) av hmo
  rw [e1,←zbR]
  refine Ret.ite (fun h1 => ?_) (fun h1 => ?_)
  · refine Ret.bind (XH c _ ho hv.cv hv.lh hv.hold hm3) fun r hr => ?_
    obtain ⟨r1,r2,r3,r4⟩:=hr
    refine Ret.some (.inr ⟨hor,r1,?_,?_,?_⟩)
    · rw [r2];unfold hs3;rw [h1];rfl
    · rw [r3];unfold us3;rw [h1];rfl
    · have e:hs3 x s.Zad=s.Zad:=by unfold hs3;rw [h1];rfl
      rw [e];exact r4
  · have hak:=av.kind.resolve_left (beq_eq_false_iff_ne.1 h1)
    have hg:x.give.toNat < s.Zad.length:=by omega
    refine Ret.bindE (kA (by omega)) ?_
    refine Ret.bindE (Vn (show 0≤x.give by omega) (by omega)) ?_
    refine Ret.bindE (List.getElem?_eq_getElem hg) ?_
    refine Ret.bindE (kA (by omega)) ?_
    refine Ret.bindE (qG hiu) ?_
    refine Ret.bindE hu ?_
    have e2:List.take s.Zad.length (s.Zad.set x.give.toNat x.to)=s.Zad.set x.give.toNat x.to:=List.take_of_length_le (by simp)
    have e3:List.take s.used.length (s.used.set i true)=s.used.set i true:=List.take_of_length_le (by simp)
    rw [e2,e3]
    have eh:hs3 x s.Zad=s.Zad.set x.give.toNat x.to:=by unfold hs3;rw [h1];rfl
    have eu:us3 i x s.used=s.used.set i true:=by unfold us3;rw [h1];rfl
    refine Ret.bind (XH c _ ho hv.cv (by show (s.Zad.set x.give.toNat x.to).length=_;rw [List.length_set];exact hlh) (fun h hh => ?_) hm3) fun r hr => ?_
    · rcases zbK hh with g | g
      · exact hv.hold h g
      · rw [g];exact hak.2.2
    · obtain ⟨r1,r2,r3,r4⟩:=hr
      refine Ret.some (.inr ⟨hor,r1,?_,?_,?_⟩)
      · rw [r2,eh]
      · rw [r3,eu]
      · rw [eh];exact r4
theorem zbS {a b:Zao} (h1:a.day=b.day) (h2:a.Zad=b.Zad) (h3:a.used=b.used) (h4:a.Zag=b.Zag):a=b:=by
  cases a;cases b;simp only at h1 h2 h3 h4;subst h1 h2 h3 h4;rfl
theorem zbT {c:Zaa} (hc:c.Ok) {s:Zao} (hv:VS c s) {a:Int} (h1 : -1≤a) (h2:a < c.Zaj.length) (hd:s.day < c.Zas):ZS c s a=some (jz c s a,0):=by
  refine Ret.eq ?_
  obtain ⟨_,_,t1,a1⟩:=vH hc hv h1 h2 hd
  have hlm:=hv.lm
  unfold ZS
  refine Ret.bindE (v:=false) (by rw [Za hc,ky hv,decide_eq_false (show ¬ a < -1 by omega),decide_eq_false (show ¬ (c.Zaj.length:Int)≤a by omega)];rfl) ?_
  refine Ret.ite (fun h=>by cases h) (fun _ => ?_)
  refine Ret.ite (fun h=>absurd (beq_iff_eq.1 h) (by omega)) (fun _ => ?_)
  refine Ret.ite (fun h => ?_) (fun h => ?_)
  · have ha:=beq_iff_eq.1 h
    refine Ret.bind (zic hc hv hd) fun r hr=>Ret.some ?_
    obtain ⟨x1,x2,x3,x4⟩:=t1 ha
    obtain ⟨y1,y2,y3,y4⟩:=hr
    have:r=jz c s a:=zbS (y1.trans x1.symm) (y2.trans x2.symm) (y3.trans x3.symm) (WR (by rw [List.length_mapIdx];exact hlm) y4 x4)
    rw [this]
  · have ha:=beq_eq_false_iff_ne.1 h
    obtain ⟨i,rfl⟩:∃ i:Nat,a=(i:Int):=⟨a.toNat,by omega⟩
    have hx:=List.getElem?_eq_getElem (show i < c.Zaj.length by omega)
    refine Ret.bind (zjJ hc hv hx) fun r hr=>Ret.some ?_
    have g1:=a1 i _ rfl hx
    have:r=jz c s i:=by
      rcases g1 with ⟨x1,x2,x3⟩ | ⟨x1,x2,x3,x4,x5⟩
      · rcases hr with ⟨_,_,y3⟩ | ⟨y1,_⟩
        · rw [x3,y3]
        · rw [x2] at y1
          simp [x1] at y1
      · rcases hr with ⟨y1,y2,_⟩ | ⟨_,y2,y3,y4,y5⟩
        · rw [y2] at x1
          simp [y1] at x1
        · refine zbS (y2.trans x2.symm) (y3.trans x3.symm) (y4.trans x4.symm) (WR ?_ y5 x5)
          rw [zbR,List.length_mapIdx];exact hlm
    rw [this]
theorem FromOk.closed {c:Zaa} {Zab:Int} {p:Zae} {L:List Zae} {M:List (List Zaw)} (F:FromOk c Zab p L M) {q:Zae} (hq:q∈L) {m:Int} (hm:m∈zi c Zab q):target c q m∈L:=by
  obtain ⟨j,hj,e⟩:=List.getElem_of_mem hq
  have hjM:j < M.length:=by rw [F.len];exact hj
  have h:=F.mv j M[j] q (List.getElem?_eq_getElem hjM) (by rw [List.getElem?_eq_getElem hj,e])
  rw [←h.1] at hm
  obtain ⟨t,ht,rfl⟩:=List.mem_map.1 hm
  exact List.mem_of_getElem? (h.2 t ht).2
theorem FromOk.rch {c:Zaa} {Zab:Int} {p:Zae} {L:List Zae} {M:List (List Zaw)} (F:FromOk c Zab p L M) {q x:Zae} (hq:q∈L) (h:Rch c Zab q x):x∈L:=by
  induction h with
  | base=>exact hq
  | step _ hm ih=>exact F.closed ih hm
section
def at_ (l:List Int) (i:Nat):Int:=l[i]?.getD 0
def cst (l:List Nat):List Int:=l.map fun x:Nat=>(x:Int)
theorem zid (l:List Nat):(cst l).length=l.length:=List.length_map _
theorem zie (l m:List Nat):cst (l++m)=cst l++cst m:=List.map_append
def XI (c:Zaa) (Zab:Int) (Zag:List zw) (i:Nat):Bool:=match c.Zaf[i]?,Zag[i]? with
  | some k,some m=>k.final&&((m.Zak == 4)&&(m.Zaq == Zab))
  | _,_=>false
def qD (c:Zaa) (s:Zao) (Zab:Int):Bool := !((List.range s.Zag.length).all fun i=>!XI c Zab s.Zag i)
theorem ze1 (c:Zaa) (s:Zao) (Zab:Int) (hl:s.Zag.length=c.Zaf.length) (hs:s.Zag.length < 4611686018427387904) :
    (forR (σ:=Unit) (ρ:=Unit) (s.Zag.length:Int) (fun i1 s1=>(Option.bind (ze s.Zag (i1:Int)) fun e1=>(Option.bind (Option.bind (ze c.Zaf (i1:Int)) fun e2=>(bif e2.final then (bif (e1.Zak == 4) then some (e1.Zaq == Zab) else some false) else some false)) fun v1=>(bif v1 then some (.inr ()) else some (.inl ()))))) ()) =
      some (bif qD c s Zab then .inr () else .inl ()):=by
  rw [jh (fun i=>!XI c Zab s.Zag i) hs (fun j hj=>by
    have hk:j < c.Zaf.length:=by omega
    simp only [zz,List.getElem?_eq_getElem hj,List.getElem?_eq_getElem hk,ZaT,XI]
    cases (c.Zaf[j].final)<;>cases (s.Zag[j].Zak == 4)<;>cases (s.Zag[j].Zaq == Zab)<;>rfl)]
  unfold qD
  cases ((List.range s.Zag.length).all fun i=>!XI c Zab s.Zag i)<;>rfl
theorem zaz {c:Zaa} (hc:c.Ok) {s:Zao} (hv:VS c s) {Zab:Int} (h0:0≤Zab) (h1:Zab < c.Zal):wc c s Zab=some (qD c s Zab):=by
  have:=(hv.few hc).2.2
  unfold wc
  rw [decide_eq_false (show ¬ Zab < 0 by omega),decide_eq_false (show ¬ c.Zal≤Zab by omega),Qx c s hc,ky hv]
  simp only [ZaS,ZaT,ZaI]
  rw [ze1 c s Zab hv.lm (by omega)]
  cases qD c s Zab<;>rfl
def gm (c:Zaa) (a:ZaF):Gm where
  n:=a.Zay.length
  own i:=match a.Zay[i]? with | some q=>q.own | none=>false
  lost i:=match a.Zay[i]? with | some q=>qD c q.state a.Zab | none=>false
  succ i:=match a.moves[i]? with | some T=>T.map fun m=>m.to.toNat | none=>[]
structure ArOk (c:Zaa) (Zab:Int) (p:Zae) (a:ZaF):Prop where
  p0:0≤Zab
  p1:Zab < c.Zal
  pa:a.Zab=Zab
  F:FromOk c Zab p a.Zay a.moves
section
variable {c:Zaa} {Zab:Int} {p:Zae} {a:ZaF}
theorem ArOk.mv (A:ArOk c Zab p a) {i:Nat} (hi:i < a.Zay.length):∃ T,a.moves[i]?=some T∧MvOk c Zab a.Zay a.Zay[i] (zi c Zab a.Zay[i]) T:=by
  have h:i < a.moves.length:=by rw [A.F.len];exact hi
  exact ⟨a.moves[i],List.getElem?_eq_getElem h,A.F.mv i _ _ (List.getElem?_eq_getElem h) (List.getElem?_eq_getElem hi)⟩
theorem ArOk.succ (A:ArOk c Zab p a) {i:Nat} (hi:i < a.Zay.length) {T:List Zaw} (hT:a.moves[i]?=some T):(gm c a).succ i=T.map fun m=>m.to.toNat:=by
  simp only [gm,hT]
theorem ArOk.to (A:ArOk c Zab p a) {i:Nat} (hi:i < a.Zay.length) {T:List Zaw} (hT:a.moves[i]?=some T) {m:Zaw} (hm:m∈T):0≤m.to∧m.to < a.Zay.length:=by
  obtain ⟨T',h1,_,h3⟩:=A.mv hi
  rw [hT] at h1;cases h1
  obtain ⟨h4,h5⟩:=h3 m hm
  have:=(List.getElem?_eq_some_iff.1 h5).1
  omega
theorem ArOk.len (hc:c.Ok) (A:ArOk c Zab p a) {i:Nat} (hi:i < a.Zay.length) {T:List Zaw} (hT:a.moves[i]?=some T):T.length≤62:=by
  obtain ⟨T',h1,h2,_⟩:=A.mv hi
  rw [hT] at h1;cases h1
  have:=jX hc (Zab:=Zab) (A.F.inv.vs _ (List.getElem_mem hi))
  rw [←List.length_map (f:=fun x:Zaw=>x.step),h2];exact this
theorem ArOk.closed (A:ArOk c Zab p a):∀ i,i < (gm c a).n→∀ t∈(gm c a).succ i,t < (gm c a).n:=fun i hi t ht=>by
  obtain ⟨T,h1,_⟩:=A.mv hi
  rw [A.succ hi h1] at ht
  obtain ⟨m,hm,rfl⟩:=List.mem_map.1 ht
  have:=A.to hi h1 hm
  show m.to.toNat < a.Zay.length
  omega
structure L1 (G:Gm) (i k:Nat) (bef:List (List Int)):Prop where
  len:bef.length=G.n
  row:∀ t,t < G.n→∃ l:List Nat,bef[t]?=some (cst l)∧l.length≤62*i+k∧∀ x,l.count x=if x < i then (G.succ x).count t else if x=i then ((G.succ i).take k).count t else 0
theorem L1.next {G:Gm} {i k:Nat} {bef:List (List Int)} (h:L1 G i k bef) (hk:k=(G.succ i).length) (hl:k≤62):L1 G (i+1) 0 bef:=by
  refine ⟨h.len,fun t ht => ?_⟩
  obtain ⟨l,h1,h2,h3⟩:=h.row t ht
  refine ⟨l,h1,by omega,fun x => ?_⟩
  rw [h3 x]
  by_cases e:x < i
  · rw [if_pos e,if_pos (by omega)]
  · rw [if_neg e]
    by_cases e2:x=i
    · subst e2;rw [if_pos rfl,if_pos (by omega),hk,List.take_length]
    · rw [if_neg e2,if_neg (by omega)]
      split<;>simp
theorem L1.step {G:Gm} {i k:Nat} {bef:List (List Int)} (h:L1 G i k bef) (hn:G.n≤1500) (hi:i < G.n) (hk:k≤62) {to:Nat} (ht:(G.succ i)[k]?=some to) (hto:to < G.n):Ret (wp bef G.n (to:Int) (i:Int)) (L1 G i (k+1)):=by
  obtain ⟨l,h1,h2,h3⟩:=h.row to hto
  have e:wp bef G.n (to:Int) (i:Int)=some (bef.set to (cst (l++[i]))):=by
    unfold wp
    rw [if_pos ⟨by omega,by omega,by omega⟩,Int.toNat_natCast,h1]
    simp only
    rw [if_pos (by rw [zid];omega),zie];rfl
  refine ⟨_,e,by rw [List.length_set];exact h.len,fun t ht2 => ?_⟩
  have htk:(G.succ i).take (k+1)=(G.succ i).take k++[to]:=by
    obtain ⟨h5,h6⟩:=List.getElem?_eq_some_iff.1 ht
    rw [List.take_succ_eq_append_getElem h5,h6]
  by_cases e2:t=to
  · subst e2
    refine ⟨l++[i],List.getElem?_set_self (by rw [h.len];exact ht2),by simp;omega,fun x => ?_⟩
    rw [List.count_append,h3 x,htk,List.count_append]
    by_cases a1:x < i
    · rw [if_pos a1,if_pos a1,List.count_cons_of_ne (by omega)];simp
    · rw [if_neg a1,if_neg a1]
      by_cases a2:x=i
      · subst a2;rw [if_pos rfl,if_pos rfl];simp
      · rw [if_neg a2,if_neg a2,List.count_cons_of_ne (fun h=>a2 h.symm)];simp
  · obtain ⟨l2,b1,b2,b3⟩:=h.row t ht2
    refine ⟨l2,by rw [List.getElem?_set_ne (Ne.symm e2)];exact b1,by omega,fun x => ?_⟩
    rw [b3 x,htk,List.count_append,List.count_cons_of_ne (Ne.symm e2)];simp
structure L2 (G:Gm) (i:Nat) (s:List Int×List Int×List (List Int)×List Int):Prop where
  lr:s.1.length=G.n
  lo:s.2.1.length=G.n
  bef:L1 G i 0 s.2.2.1
  r:∀ j,j < i→at_ s.1 j=if G.lost j=true then 0 else -1
  o:∀ j,j < i→at_ s.2.1 j=((G.succ j).length:Int)
  k:s.2.2.2=cst ((List.range i).filter G.lost)
end
end
section
section
variable {c:Zaa} {Zab:Int} {p:Zae} {a:ZaF}
def Bnd (G:Gm) (r:Nat→Int) (m:Nat):Prop:=∀ i,i < G.n→r i≤m
end
end
section
section
variable {c:Zaa} {Zab:Int} {p:Zae} {a:ZaF}
def zjK (G:Gm) (i:Nat):Bool:=G.own i&&(!(G.lost i)&&(G.succ i).isEmpty)
def r2 (G:Gm) (i j:Nat):Int:=if G.lost j=true then 0 else if zjK G j=true∧j < i then 1 else -1
def K2 (G:Gm) (i:Nat):List Nat:=(List.range G.n).filter G.lost++(List.range i).filter (zjK G)
structure L3 (G:Gm) (i:Nat) (s:List Int×List Int):Prop where
  lr:s.1.length=G.n
  r:∀ j,j < G.n→at_ s.1 j=r2 G i j
  k:s.2=cst (K2 G i)
structure QI (G:Gm) (bef:List (List Int)) (s:Int×Bool×List Int×List Int×List Int×Int):Prop where
  lr:s.2.2.1.length=G.n
  lo:s.2.2.2.1.length=G.n
  inv:∃ P Q,BInv G (at_ s.2.2.1) (at_ s.2.2.2.1) P Q∧Bnd G (at_ s.2.2.1) (P++Q).length∧s.2.2.2.2.1=cst (P++Q)∧((s.2.1=false∧Q=[]∧s.2.2.2.2.2=(P.length:Int))∨(s.2.1=true∧∃ u Q',Q=u::Q'∧s.1=(u:Int)∧s.2.2.2.2.2=(P.length:Int)+1))
end
end
theorem StartP.get {c:Zaa} {hs:List Int} {ms r:List zw} (h:StartP c hs ms r) {i:Nat} {m:zw} (hi:i < c.Zaf.length) (hm:ms[i]?=some m) (h0:m.Zak≠0):r[i]?=some m:=by
  have hl:i < r.length:=by rw [h.ok.1];exact hi
  rw [List.getElem?_eq_getElem hl]
  rcases h.rel i m r[i] hm (List.getElem?_eq_getElem hl) with e | ⟨e,_⟩
  · rw [e]
  · exact absurd e h0
theorem WS {c:Zaa} {Zab:Int} {q:Zae} {m:Int} (hm:m∈zi c Zab q):(m = -2∧q.own=true)∨(-1≤m∧m < c.Zaj.length∧q.state.day < c.Zas):=by
  rcases Jp.1 hm with ⟨h1,h2⟩ | ⟨h1,_,h2⟩ | ⟨h1,i,h2,_,h3⟩
  · exact .inl ⟨h2,h1⟩
  · exact .inr ⟨by omega,by omega,h1⟩
  · exact .inr ⟨by omega,by omega,h1⟩
theorem Xi (c:Zaa) (q:Zae):target c q (-2)={state:=q.state,own:=false}:=if_pos rfl
theorem Xj (c:Zaa) (q:Zae) {m:Int} (h : -1≤m):target c q m={state:=jz c q.state m,own:=true}:=if_neg (by omega)
section
section
variable {c:Zaa} {Zab:Int} {p:Zae} {a:ZaF}
theorem ArOk.lost (A:ArOk c Zab p a) {i:Nat} (hi:i < a.Zay.length):(gm c a).lost i=qD c a.Zay[i].state Zab:=by
  show (match a.Zay[i]? with | some q=>qD c q.state a.Zab | none=>false)=_
  rw [List.getElem?_eq_getElem hi,A.pa]
theorem ArOk.own (A:ArOk c Zab p a) {i:Nat} (hi:i < a.Zay.length):(gm c a).own i=a.Zay[i].own:=by
  show (match a.Zay[i]? with | some q=>q.own | none=>false)=_
  rw [List.getElem?_eq_getElem hi]
theorem ArOk.pos (A:ArOk c Zab p a):0 < a.Zay.length:=(List.getElem?_eq_some_iff.1 A.F.first).1
theorem ArOk.ne (A:ArOk c Zab p a) {i:Nat} (hi:i < a.Zay.length) {T:List Zaw} (hT:a.moves[i]?=some T) (ho:a.Zay[i].own=true):T≠[]:=by
  obtain ⟨T',h1,h2,_⟩:=A.mv hi
  rw [hT] at h1;cases h1
  intro e
  subst e
  have:(-2:Int)∈zi c Zab a.Zay[i]:=Jp.2 (.inl ⟨ho,rfl⟩)
  rw [←h2] at this;cases this
end
end
section
def AttrP (c:Zaa) (Zab:Int):Nat→Zae→Prop
  | 0,q=>qD c q.state Zab=true
  | k+1,q=>qD c q.state Zab=true∨(q.own=true∧∀ m∈zi c Zab q,AttrP c Zab k (target c q m))∨(q.own=false∧∃ m∈zi c Zab q,AttrP c Zab k (target c q m))
def zlb (c:Zaa) (Zab:Int) (q:Zae):Prop:=∀ k,¬ AttrP c Zab k q
theorem AttrP.zero {c:Zaa} {Zab:Int} {q:Zae} (h:qD c q.state Zab=true):∀ k,AttrP c Zab k q
  | 0=>h
  | k+1=>.inl h
theorem AttrP.succ1 {c:Zaa} {Zab:Int}:∀ {k:Nat} {q:Zae},AttrP c Zab k q→AttrP c Zab (k+1) q
  | 0,q,h=>.inl h
  | k+1,q,h=>by
    rcases h with h | ⟨h1,h2⟩ | ⟨h1,t,h2,h3⟩
    · exact .inl h
    · exact .inr (.inl ⟨h1,fun t ht=>(h2 t ht).succ1⟩)
    · exact .inr (.inr ⟨h1,t,h2,h3.succ1⟩)
theorem AttrP.mono {c:Zaa} {Zab:Int} {k k':Nat} {q:Zae} (hk:k≤k') (h:AttrP c Zab k q):AttrP c Zab k' q:=by
  induction hk with
  | refl=>exact h
  | step _ ih=>exact ih.succ1
section
variable {c:Zaa} {Zab:Int} {p:Zae} {a:ZaF}
def RankP (c:Zaa) (Zab:Int) (q:Zae) (x:Int):Prop := -1≤x∧∀ k:Nat,(x ≠ -1∧x≤k)↔AttrP c Zab k q
theorem RankP.safe {q:Zae} {x:Int} (h:RankP c Zab q x):x = -1↔zlb c Zab q:=by
  constructor
  · intro e k hk
    exact ((h.2 k).2 hk).1 e
  · intro hs
    have:=h.1
    by_cases e:x = -1
    · exact e
    · exact absurd ((h.2 x.toNat).1 ⟨e,by omega⟩) (hs _)
end
end
structure ShieldP (c:Zaa) (s:ZaD):Prop where
  p0:0≤s.Zab
  p1:s.Zab < c.Zal
  n1:1≤s.rows.length
  n2:s.rows.length≤1500
  vs:∀ r∈s.rows,VS c r.Zai.state
  lost:∀ r∈s.rows,qD c r.Zai.state s.Zab=false
  own:∀ r∈s.rows,r.Zai.own=true→r.move∈zi c s.Zab r.Zai∧∃ r'∈s.rows,r'.Zai=target c r.Zai r.move
  oth:∀ r∈s.rows,r.Zai.own=false→∀ m∈zi c s.Zab r.Zai,∃ r'∈s.rows,r'.Zai=target c r.Zai m
structure DoomP (c:Zaa) (d:ZaB):Prop where
  p0:0≤d.Zab
  p1:d.Zab < c.Zal
  n1:1≤d.rows.length
  n2:d.rows.length≤1500
  vs:∀ r∈d.rows,VS c r.Zai.state
  rk:∀ r∈d.rows,0≤r.rank
  zero:∀ r∈d.rows,r.rank=0→qD c r.Zai.state d.Zab=true
  own:∀ r∈d.rows,0 < r.rank→r.Zai.own=true→∀ m∈zi c d.Zab r.Zai,∃ r'∈d.rows,r'.Zai=target c r.Zai m∧r'.rank < r.rank
  oth:∀ r∈d.rows,0 < r.rank→r.Zai.own=false→r.move∈zi c d.Zab r.Zai∧∃ r'∈d.rows,r'.Zai=target c r.Zai r.move∧r'.rank < r.rank
section
theorem zif (c:Zaa) (Zab:Int) (q:Zae):∃ x,RankP c Zab q x:=by
  by_cases h:∃ k,AttrP c Zab k q
  · have least:∀ (n:Nat),AttrP c Zab n q→∃ k,AttrP c Zab k q∧∀ j,AttrP c Zab j q→k≤j:=by
      intro n
      induction n using Nat.strongRecOn with
      | _ n ih=>
        intro hn
        by_cases h2:∃ j,j < n∧AttrP c Zab j q
        · obtain ⟨j,hj,hp⟩:=h2;exact ih j hj hp
        · exact ⟨n,hn,fun j hj=>Nat.le_of_not_lt fun hlt=>h2 ⟨j,hlt,hj⟩⟩
    obtain ⟨n,hn⟩:=h
    obtain ⟨k,hk,hl⟩:=least n hn
    refine ⟨(k:Int),by omega,fun j=>⟨fun h=>hk.mono (by omega),fun h=>⟨by omega,by have:=hl j h;omega⟩⟩⟩
  · exact ⟨-1,by omega,fun j=>⟨fun h=>absurd rfl h.1,fun h'=>absurd ⟨j,h'⟩ h⟩⟩
open Classical in
noncomputable def rkP (c:Zaa) (Zab:Int) (q:Zae):Int:=(zif c Zab q).choose
section
variable {c:Zaa} {Zab:Int} {p:Zae} {a:ZaF}
end
end
def xm (c:Zaa) (F:List (ByteArray×Int)) (l:List (Zae×Int)):Prop:=
  ∀ q:Zae,VS c q.state→(∀ v,zr (txt q) F=some v→(∃ x∈l,x.1=q∧x.2=v)∧∀ x∈l,x.1=q→v≤x.2)∧(zr (txt q) F=none→∀ x∈l,x.1≠q)
theorem ze2 (c:Zaa):xm c [] []:=by
  intro q _
  exact ⟨fun v h=>by simp [zr] at h,fun _ x hx=>by simp at hx⟩
theorem zda {c:Zaa} {F:List (ByteArray×Int)} {l:List (Zae×Int)} {q:Zae} (h:xm c F l) (hq:VS c q.state) (r:Int):xm c (bif (bif !(zr (txt q) F).isSome then true else decide (r < (zr (txt q) F).getD 0)) then qc (txt q) r F else F) (l++[(q,r)]):=by
  intro q' hq'
  obtain ⟨h1,h2⟩:=h q' hq'
  by_cases e:q'=q
  · subst e
    cases hm:zr (txt q') F with
    | none=>
      have h2:=h2 hm
      show (∀ v,zr (txt q') (qc (txt q') r F)=some v→_)∧(zr (txt q') (qc (txt q') r F)=none→_)
      rw [vK]
      refine ⟨fun v hv => ?_,fun hv=>by cases hv⟩
      cases hv
      refine ⟨⟨_,List.mem_append_right _ (List.mem_singleton.2 rfl),rfl,rfl⟩,fun x hx hxq => ?_⟩
      rcases List.mem_append.1 hx with g | g
      · exact absurd hxq (h2 x g)
      · rw [List.mem_singleton.1 g];exact Int.le_refl _
    | some v=>
      obtain ⟨⟨y,hy,hy1,hy2⟩,g2⟩:=h1 v hm
      by_cases hlt:r < v
      · have e2:decide (r < (some v).getD 0)=true:=decide_eq_true hlt
        rw [e2]
        show (∀ v,zr (txt q') (qc (txt q') r F)=some v→_)∧(zr (txt q') (qc (txt q') r F)=none→_)
        rw [vK]
        refine ⟨fun w hw => ?_,fun hw=>by cases hw⟩
        cases hw
        refine ⟨⟨_,List.mem_append_right _ (List.mem_singleton.2 rfl),rfl,rfl⟩,fun x hx hxq => ?_⟩
        rcases List.mem_append.1 hx with g | g
        · have:=g2 x g hxq;omega
        · rw [List.mem_singleton.1 g];exact Int.le_refl _
      · have e2:decide (r < (some v).getD 0)=false:=decide_eq_false hlt
        rw [e2]
        show (∀ v,zr (txt q') F=some v→_)∧(zr (txt q') F=none→_)
        rw [hm]
        refine ⟨fun w hw => ?_,fun hw=>by cases hw⟩
        cases hw
        refine ⟨⟨y,List.mem_append_left _ hy,hy1,hy2⟩,fun x hx hxq => ?_⟩
        rcases List.mem_append.1 hx with g | g
        · exact g2 x g hxq
        · rw [List.mem_singleton.1 g];show v≤r;omega
  · have ne:txt q'≠txt q:=fun h=>e (zh8 hq' hq h)
    have e1:∀ b:Bool,zr (txt q') (bif b then qc (txt q) r F else F)=zr (txt q') F:=fun b=>by
      cases b with
      | true=>exact Js r ne F
      | false=>rfl
    rw [e1]
    refine ⟨fun v hv => ?_,fun hv x hx => ?_⟩
    · obtain ⟨⟨y,hy,hy1,hy2⟩,g2⟩:=h1 v hv
      refine ⟨⟨y,List.mem_append_left _ hy,hy1,hy2⟩,fun x hx hxq => ?_⟩
      rcases List.mem_append.1 hx with g | g
      · exact g2 x g hxq
      · rw [List.mem_singleton.1 g] at hxq;exact absurd hxq.symm e
    · rcases List.mem_append.1 hx with g | g
      · exact h2 hv x g
      · rw [List.mem_singleton.1 g];exact fun h=>e h.symm
theorem ze3 {c:Zaa} {F:List (ByteArray×Int)} {l:List (Zae×Int)} (h:xm c F l) {q:Zae} (hq:VS c q.state):(zr (txt q) F).isSome=true↔∃ x∈l,x.1=q:=by
  obtain ⟨h1,h2⟩:=h q hq
  cases hm:zr (txt q) F with
  | none=>
    simp only [Option.isSome_none]
    refine ⟨fun h=>by (cases h),fun ⟨x,hx,e⟩=>absurd e (h2 hm x hx)⟩
  | some v=>
    simp only [Option.isSome_some,true_iff]
    obtain ⟨⟨y,hy,hy1,hy2⟩,_⟩:=h1 v hm
    exact ⟨y,hy,hy1⟩
theorem ze4 {c:Zaa} {F:List (ByteArray×Int)} {l:List (Zae×Int)} (h:xm c F l) {q:Zae} (hq:VS c q.state) {n:Int}:(bif (zr (txt q) F).isSome then decide ((zr (txt q) F).getD 0 < n) else false)=true↔∃ x∈l,x.1=q∧x.2 < n:=by
  obtain ⟨h1,h2⟩:=h q hq
  cases hm:zr (txt q) F with
  | none=>exact ⟨fun h=>by (cases h),fun ⟨x,hx,e,_⟩=>absurd e (h2 hm x hx)⟩
  | some v=>
    obtain ⟨⟨y,hy,hy1,hy2⟩,g2⟩:=h1 v hm
    show decide (v < n)=true↔_
    rw [decide_eq_true_eq]
    refine ⟨fun hv=>⟨y,hy,hy1,by omega⟩,fun ⟨x,hx,e,hlt⟩=>by have:=g2 x hx e;omega⟩
theorem zbU {c:Zaa} (hc:c.Ok) (Zab:Int) (p:Zae):wv c Zab p=some (bif xt c Zab p.state then (zi c Zab p,0) else ([],1)):=by
  unfold wv
  rw [zc8 hc]
  simp only [ZaT]
  cases hpl:xt c Zab p.state with
  | false=>rfl
  | true=>
    obtain ⟨hp0,hp1,hv⟩:=qH.1 hpl
    have sm:=qx (hc.off.lt (by omega)) hv.cv
    have sa:=sm.Zaj
    simp only [ZaR,Wy,ZaT,zgp hc hv]
    have e1:(bif p.own then (Option.bind (zR (α:=Int) 8 [] [(-2)]) fun e1=>some e1) else some [])=some (bif p.own then [-2] else []):=by
      rw [yM (by simp)];cases p.own<;>rfl
    rw [e1]
    simp only [ZaT]
    cases hd:decide (c.Zas≤p.state.day) with
    | true=>simp only [ZaR,ZaT,zi,hd,List.append_nil]
    | false=>
      have hd':=of_decide_eq_false hd
      obtain ⟨est,_⟩:=vH (a := -1) hc hv (by omega) (by omega) (by omega)
      have e2:(bif p.own then some (bif p.own then [-2] else []) else (Option.bind (d_Step c p.state (-1)) fun r4=>(Option.bind (zR (α:=Int) 8 (bif p.own then [-2] else []) [(-1)]) fun e2=>some e2)))=some (bif p.own then [-2] else [-1]):=by
        cases p.own with
        | true=>rfl
        | false=>rw [est];simp only [ZaS,ZaT,List.nil_append];rw [yM (by simp)];rfl
      simp only [ZaS]
      rw [e2]
      simp only [ZaT]
      have hloop:forR (σ:=(List Int)) (ρ:=(List Int)) (c.Zaj.length:Int) (fun i1 s1=>(Option.bind (α:=(List Int) ⊕ (List Int)) (Option.bind (ze c.Zaj (i1:Int)) fun e3=>(Option.bind (bif (e3.Zax == (-1)) then some (-1) else (Option.bind (ze p.state.Zad e3.Zax) fun e4=>some e4)) fun (v3:Int)=>(bif ((v3 == Zab) == p.own) then (Option.bind (d_Step c p.state (i1:Int)) fun r5=>(Option.bind (Option.bind (xL r5.1 p.state) fun r6=>(bif r6 then some (false,s1) else (Option.bind (zR (α:=Int) 8 s1 [(i1:Int)]) fun e5=>some ((!true),e5)))) fun (v4:Bool×(List Int))=>(bif v4.1 then some (.inr v4.2) else some (.inl v4.2)))) else some (.inl s1)))) (Sum.elim (fun (v5:(List Int))=>some (.inl v5)) (fun (y1:(List Int))=>some (.inr y1))))) (bif p.own then [-2] else [-1])
          = some (.inl ((bif p.own then [-2] else [-1])++j9 c Zab p c.Zaj.length)):=by
        obtain ⟨o,h1,h2⟩:=xJ (n:=c.Zaj.length) (s0:=(bif p.own then [(-2:Int)] else [-1])) (f:=(fun i1 s1=>(Option.bind (α:=(List Int) ⊕ (List Int)) (Option.bind (ze c.Zaj (i1:Int)) fun e3=>(Option.bind (bif (e3.Zax == (-1)) then some (-1) else (Option.bind (ze p.state.Zad e3.Zax) fun e4=>some e4)) fun (v3:Int)=>(bif ((v3 == Zab) == p.own) then (Option.bind (d_Step c p.state (i1:Int)) fun r5=>(Option.bind (Option.bind (xL r5.1 p.state) fun r6=>(bif r6 then some (false,s1) else (Option.bind (zR (α:=Int) 8 s1 [(i1:Int)]) fun e5=>some ((!true),e5)))) fun (v4:Bool×(List Int))=>(bif v4.1 then some (.inr v4.2) else some (.inl v4.2)))) else some (.inl s1)))) (Sum.elim (fun (v5:(List Int))=>some (.inl v5)) (fun (y1:(List Int))=>some (.inr y1)))))) (fun i s=>s=(bif p.own then [-2] else [-1])++j9 c Zab p i) (fun _=>False) (by omega) (by simp [j9]) (fun i s hi hs=>by
          have hx:=List.getElem?_eq_getElem hi
          have av:=WO hv.cv hx
          rw [zD hx]
          simp only [ZaT,zgq hv av]
          have hmv:mvB c Zab p i=(((qU p.state.Zad c.Zaj[i] == Zab) == p.own) && !xN (jz c p.state i) p.state):=by simp only [mvB,hx]
          cases hq:((qU p.state.Zad c.Zaj[i] == Zab) == p.own) with
          | false=>
            refine ⟨.inl s,rfl,?_⟩
            show s=_
            rw [yH,hmv,hq,hs];simp
          | true=>
            obtain ⟨est,hvs,_⟩:=vH (a:=(i:Int)) hc hv (by omega) (by omega) (by omega)
            have hfew:=hvs.few hc
            rw [est]
            simp only [ZaR,ZaT]
            rw [zh6 _ _ (by omega) (by omega) (by omega)]
            simp only [ZaT]
            cases hsm:xN (jz c p.state i) p.state with
            | true=>
              refine ⟨.inl s,rfl,?_⟩
              show s=_
              rw [yH,hmv,hq,hsm,hs];simp
            | false=>
              have hl:=Jo c Zab p i
              have hls:s.length≤1+i:=by rw [hs];cases p.own<;>simp<;>omega
              simp only [ZaS]
              rw [yM (by simp;omega)]
              refine ⟨.inl (s++[(i:Int)]),rfl,?_⟩
              show s++[(i:Int)]=_
              rw [yH,hmv,hq,hsm,hs];simp)
        rw [h1]
        cases o with
        | inl s=>exact congrArg _ (congrArg _ h2)
        | inr r=>exact h2.elim
      rw [hloop]
      simp only [ZaT,ZaU,zi,hd,ZaS]
      cases p.own<;>rfl
section
theorem WT (l:List Int) (v:Int) (hl:l.length < 4611686018427387904):j7 l v=some (l.contains v):=by
  unfold j7 Vs
  rw [jD (fun q=>match l[q]? with | some x=>!(v == x) | none=>true) (fun q=>(q:Int)) hl (fun q hq=>by
    simp only [zz,List.getElem?_eq_getElem hq,ZaT]
    cases (v == l[q])<;>rfl)]
  cases hf:(List.range l.length).find? (fun q=>!(match l[q]? with | some x=>!(v == x) | none=>true)) with
  | none=>
    have:l.contains v=false:=by
      rw [Bool.eq_false_iff]
      intro hm
      rw [List.contains_iff_mem] at hm
      obtain ⟨q,hq,e⟩:=List.getElem_of_mem hm
      have:=wq hf q hq
      simp only [List.getElem?_eq_getElem hq] at this
      rw [e] at this
      simp at this
    rw [this];rfl
  | some q=>
    obtain ⟨h1,h2,_⟩:=wt hf
    have:l.contains v=true:=by
      rw [List.contains_iff_mem]
      simp only [List.getElem?_eq_getElem h1,Bool.not_eq_false',beq_iff_eq] at h2
      rw [h2];exact List.getElem_mem h1
    rw [this]
    simp
theorem XJ {l:List Int} {f:Nat→Unit→Option (Unit ⊕ Int)} (p:Int→Bool) (hl:l.length < 4611686018427387904) (h:∀ (i:Nat) (hi:i < l.length),f i ()=some (bif p l[i] then .inr (i:Int) else .inl ())) :
    (Option.bind (forR (l.length:Int) f ()) (Sum.elim (fun (_:Unit)=>some (-1)) (fun (y:Int)=>some y))).bind (fun r=>some (decide (0≤r)))=some (l.any p):=by
  rw [jD (fun q=>match l[q]? with | some x=>!(p x) | none=>true) (fun q=>(q:Int)) hl (fun q hq=>by
    rw [h q hq]
    simp only [List.getElem?_eq_getElem hq]
    cases p l[q]<;>rfl)]
  cases hf:(List.range l.length).find? (fun q=>!(match l[q]? with | some x=>!(p x) | none=>true)) with
  | none=>
    have:l.any p=false:=by
      rw [List.any_eq_false]
      intro x hx
      obtain ⟨q,hq,e⟩:=List.getElem_of_mem hx
      have:=wq hf q hq
      simp only [List.getElem?_eq_getElem hq,e] at this
      simpa using this
    rw [this];rfl
  | some q=>
    obtain ⟨h1,h2,_⟩:=wt hf
    have:l.any p=true:=by
      rw [List.any_eq_true]
      simp only [List.getElem?_eq_getElem h1] at h2
      exact ⟨_,List.getElem_mem h1,by simpa using h2⟩
    rw [this]
    simp
section
variable {c:Zaa} {Zab:Int} {F:List (ByteArray×Int)}
theorem Jt (hc:c.Ok) {p:Zae} (hv:VS c p.state) {m:Int} (hm:m∈zi c Zab p) (q:Int):wJ p m c q F=some ((zr (txt (target c p m)) F).getD 0,(zr (txt (target c p m)) F).isSome):=by
  unfold wJ
  rcases WS hm with ⟨rfl,_⟩ | ⟨h1,h2,h3⟩
  · have ht:=zav hc (p:={state:=p.state,own:=false}) hv
    show Option.bind (qX ({state:=p.state,own:=false}:Zae)) _=_
    rw [ht,Xi];rfl
  · obtain ⟨e,hv2,_,_⟩:=vH hc hv h1 h2 h3
    have hne:(m == (-2:Int))=false:=beq_eq_false_iff_ne.2 (by omega)
    have ht:=zav hc (p:={state:=jz c p.state m,own:=true}) hv2
    simp only [hne,ZaS,e,ZaT,ZaJ]
    show Option.bind (qX ({state:=jz c p.state m,own:=true}:Zae)) _=_
    rw [ht,Xj c p h1];rfl
def knB (F:List (ByteArray×Int)) (q:Zae):Bool:=(zr (txt q) F).isSome
def blB (F:List (ByteArray×Int)) (n:Int) (q:Zae):Bool:=bif (zr (txt q) F).isSome then decide ((zr (txt q) F).getD 0 < n) else false
theorem zbV (hc:c.Ok) {p:Zae} (hv:VS c p.state) {m:Int} (hm:m∈zi c Zab p) (n q:Int):wL p m n c q F=some (blB F n (target c p m)):=by
  unfold wL
  rw [Jt hc hv hm]
  simp only [ZaT,zh]
  rfl
theorem zlc (hc:c.Ok) {p:Zae} (hv:VS c p.state) {m:Int} (hm:m∈zi c Zab p) (q:Int):Qn [m] p c q F=some (!knB F (target c p m)):=by
  unfold Qn JN
  rw [XJ (l:=[m]) (fun m=>!knB F (target c p m)) (by simp) fun i hi=>by
    obtain rfl:i=0:=by simpa using hi
    rw [qG hi]
    simp only [ZaT,List.getElem?_eq_getElem hi,wK,List.getElem_cons_zero]
    rw [Jt hc hv hm];simp only [ZaT,zh];rfl]
  simp
theorem zld (hc:c.Ok) {p:Zae} (hv:VS c p.state) (q:Int):Qo (zi c Zab p) p c q F=some ((zi c Zab p).any fun m=>!knB F (target c p m)):=by
  have:=jX hc (Zab:=Zab) hv
  unfold Qo JO
  rw [XJ (l:=zi c Zab p) (fun m=>!knB F (target c p m)) (by omega) fun i hi=>by
    simp only [zz,List.getElem?_eq_getElem hi,ZaT,wK]
    rw [Jt hc hv (List.getElem_mem hi)];simp only [ZaT,zh];rfl]
theorem zle (hc:c.Ok) {p:Zae} (hv:VS c p.state) (n q:Int):Qq (zi c Zab p) p n c q F=some ((zi c Zab p).any fun m=>!blB F n (target c p m)):=by
  have:=jX hc (Zab:=Zab) hv
  unfold Qq JP
  rw [XJ (l:=zi c Zab p) (fun m=>!blB F n (target c p m)) (by omega) fun i hi=>by
    simp only [zz,List.getElem?_eq_getElem hi,ZaT,ZM]
    rw [zbV hc hv (List.getElem_mem hi)];simp only [ZaT,zh]]
noncomputable def shB (c:Zaa) (Zab:Int) (F:List (ByteArray×Int)) (r:ZaE):Bool:=
  !qD c r.Zai.state Zab&&(bif r.Zai.own then (zi c Zab r.Zai).contains r.move&&knB F (target c r.Zai r.move) else !((zi c Zab r.Zai).any fun m=>!knB F (target c r.Zai m)))
theorem zjL (hc:c.Ok) {s:ZaD} {i:Nat} (hi:i < s.rows.length) (h0:0≤Zab) (h1:Zab < c.Zal) (hv:VS c s.rows[i].Zai.state):ki ({s:=s}:ZaH) (i:Int) c Zab F=some (shB c Zab F s.rows[i]):=by
  have hl:=jX hc (Zab:=Zab) hv
  unfold ki wI shB
  rw [zD (List.getElem?_eq_getElem hi)]
  simp only [ZaT]
  rw [zaz hc hv h0 h1]
  simp only [ZaT]
  generalize s.rows[i]=r at *
  cases qD c r.Zai.state Zab with
  | true=>rfl
  | false=>
    have hmv:wv c Zab r.Zai=some (zi c Zab r.Zai,0):=by
      rw [zbU hc,qH.2 ⟨h0,h1,hv⟩];rfl
    simp only [ZaS,hmv,ZaT,ZaJ,ZaK]
    rw [WT _ _ (by omega),zld hc hv]
    simp only [ZaT]
    cases r.Zai.own with
    | false=>rfl
    | true=>
      simp only [ZaR]
      cases hm:(zi c Zab r.Zai).contains r.move with
      | false=>rfl
      | true=>
        have hm':=List.contains_iff_mem.1 hm
        simp only [ZaR,zlc hc hv hm',ZaT,Bool.not_not,ZaK]
noncomputable def doB (c:Zaa) (Zab:Int) (F:List (ByteArray×Int)) (r:Zaz):Bool:=
  bif decide (r.rank≤0) then r.rank == 0&&qD c r.Zai.state Zab
  else bif r.Zai.own then !((zi c Zab r.Zai).any fun m=>!blB F r.rank (target c r.Zai m)) else (zi c Zab r.Zai).contains r.move&&blB F r.rank (target c r.Zai r.move)
theorem zjM (hc:c.Ok) {s:ZaB} {i:Nat} (hi:i < s.rows.length) (h0:0≤Zab) (h1:Zab < c.Zal) (hv:VS c s.rows[i].Zai.state):kj ({d:=s}:DoomW) (i:Int) c Zab F=some (doB c Zab F s.rows[i]):=by
  have hl:=jX hc (Zab:=Zab) hv
  unfold kj wI doB
  rw [zD (List.getElem?_eq_getElem hi)]
  simp only [ZaT]
  rw [zaz hc hv h0 h1]
  simp only [ZaT]
  generalize s.rows[i]=r at *
  cases decide (r.rank≤0) with
  | true=>cases (r.rank == 0)<;>cases qD c r.Zai.state Zab<;>rfl
  | false=>
    have hmv:wv c Zab r.Zai=some (zi c Zab r.Zai,0):=by
      rw [zbU hc,qH.2 ⟨h0,h1,hv⟩];rfl
    simp only [ZaS,hmv,ZaT]
    rw [WT _ _ (by omega),zle hc hv]
    simp only [ZaT]
    cases r.Zai.own with
    | true=>rfl
    | false=>
      simp only [ZaS]
      cases hm:(zi c Zab r.Zai).contains r.move with
      | false=>rfl
      | true=>
        have hm':=List.contains_iff_mem.1 hm
        simp only [ZaR,zbV hc hv hm',ZaT,ZaK]
theorem zaA (hc:c.Ok) {α:Type} (rows:List α) (pos:α→Zae) (rk:α→Int) (hl:rows.length < 4611686018427387904) (row:Int→Option (Zae×Int)) (hrow:∀ (i:Nat) (hi:i < rows.length),row (i:Int)=some (pos rows[i],rk rows[i])) {x:Option (List (ByteArray×Int) ⊕ Unit)}
    (hx:x=forR (σ:=(List (ByteArray×Int))) (ρ:=Unit) (rows.length:Int) (fun i1 s1=>(Option.bind (α:=(List (ByteArray×Int)) ⊕ Unit) (Option.bind (row (i1:Int)) fun r5=>(Option.bind (q5 c r5.1.state) fun r6=>(bif r6 then (Option.bind (qX r5.1) fun r7=>(Option.bind (bif ((zr r7 s1).isSome) then some (decide (r5.2 < ((zr r7 s1).getD 0))) else some true) fun v2=>(bif v2 then some (.inl (qc r7 r5.2 s1)) else some (.inl s1)))) else some (.inr ())))) (Sum.elim (fun (v3:(List (ByteArray×Int)))=>some (.inl v3)) (fun (y1:Unit)=>some (.inr ()))))) []) :
    Ret x (fun o=>(∃ F,o=.inl F∧xm c F (rows.map fun r=>(pos r,rk r))∧∀ r∈rows,VS c (pos r).state)∨(o=.inr ()∧∃ r∈rows,¬ VS c (pos r).state)):=by
  subst hx
  refine Ret.forL (fun i F=>xm c F ((rows.take i).map fun r=>(pos r,rk r))∧∀ (j:Nat) (hj:j < rows.length),j < i→VS c (pos rows[j]).state) hl ⟨ze2 c,fun j _ hj=>by omega⟩ (fun i F hi hI => ?_) (fun F h => ?_)
  · obtain ⟨h1,h2⟩:=hI
    refine Ret.bind (P:=fun o=>(∃ F',o=.inl F'∧(xm c F' ((rows.take (i+1)).map fun r=>(pos r,rk r))∧∀ (j:Nat) (hj:j < rows.length),j < i+1→VS c (pos rows[j]).state))∨(o=.inr ()∧∃ r∈rows,¬ VS c (pos r).state)) ?_ ?_
    · refine Ret.bindE (hrow i hi) ?_
      refine Ret.bindE (Qx c _ hc) ?_
      refine Ret.ite (fun hv => ?_) (fun hv=>Ret.some (.inr ⟨rfl,_,List.getElem_mem hi,fun h=>by rw [ky h] at hv;cases hv⟩))
      have hv:=zgY hv
      refine Ret.bindE (zav hc hv) ?_
      have hs:=zda h1 hv (rk rows[i])
      have et:(rows.take (i+1)).map (fun r=>(pos r,rk r))=(rows.take i).map (fun r=>(pos r,rk r))++[(pos rows[i],rk rows[i])]:=by
        rw [List.take_succ_eq_append_getElem hi,List.map_append];rfl
      have hvs:∀ (j:Nat) (hj:j < rows.length),j < i+1→VS c (pos rows[j]).state:=fun j hj hji=>by
        by_cases e:j=i
        · subst e;exact hv
        · exact h2 j hj (by omega)
      rw [←et] at hs
      refine Ret.bindE (v:=(bif !(zr (txt (pos rows[i])) F).isSome then true else decide (rk rows[i] < (zr (txt (pos rows[i])) F).getD 0))) ?_ ?_
      · cases (zr (txt (pos rows[i])) F).isSome<;>rfl
      · refine Ret.ite (fun hb => ?_) (fun hb => ?_)
        · rw [hb] at hs
          exact Ret.some (.inl ⟨_,rfl,hs,hvs⟩)
        · rw [hb] at hs
          exact Ret.some (.inl ⟨_,rfl,hs,hvs⟩)
    · rintro o (⟨F',rfl,h⟩ | ⟨rfl,h⟩)
      · exact Ret.some h
      · exact Ret.some (.inr ⟨rfl,h⟩)
  · refine .inl ⟨F,rfl,?_,fun r hr => ?_⟩
    · have:=h.1
      rwa [List.take_of_length_le (Nat.le_refl _)] at this
    · obtain ⟨j,hj,rfl⟩:=List.getElem_of_mem hr
      exact h.2 j hj hj
theorem zbW {l:List (Zae×Int)} {rows:List ZaE} (hF:xm c F l) (hl:∀ q,(∃ x∈l,x.1=q)↔∃ r∈rows,r.Zai=q) {r:ZaE} (hc:c.Ok) (hv:VS c r.Zai.state):shB c Zab F r=true↔qD c r.Zai.state Zab=false∧(r.Zai.own=true→r.move∈zi c Zab r.Zai∧∃ r'∈rows,ZaE.Zai r'=target c r.Zai r.move)∧(r.Zai.own=false→∀ m∈zi c Zab r.Zai,∃ r'∈rows,ZaE.Zai r'=target c r.Zai m):=by
  have kn:∀ m∈zi c Zab r.Zai,(knB F (target c r.Zai m)=true↔∃ r'∈rows,ZaE.Zai r'=target c r.Zai m):=fun m hm=>(ze3 hF (Yq hc hv hm)).trans (hl _)
  unfold shB
  rw [Bool.and_eq_true,Bool.not_eq_true']
  refine and_congr Iff.rfl ?_
  cases ho:r.Zai.own with
  | true=>
    rw [ZaR,Bool.and_eq_true,List.contains_iff_mem]
    constructor
    · rintro ⟨g1,g2⟩
      exact ⟨fun _=>⟨g1,(kn _ g1).1 g2⟩,fun h=>by cases h⟩
    · rintro ⟨g,_⟩
      obtain ⟨g1,g2⟩:=g rfl
      exact ⟨g1,(kn _ g1).2 g2⟩
  | false=>
    rw [ZaS,Bool.not_eq_true',List.any_eq_false]
    constructor
    · intro g
      refine ⟨fun h=>by (cases h),fun _ m hm=>(kn m hm).1 ?_⟩
      have:=g m hm
      simpa using this
    · rintro ⟨_,g⟩ m hm
      have:=(kn m hm).2 (g rfl m hm)
      simp [this]
theorem zbX {l:List (Zae×Int)} {rows:List Zaz} (hF:xm c F l) (hl:∀ q n,(∃ x∈l,x.1=q∧x.2 < n)↔∃ r∈rows,r.Zai=q∧r.rank < n) {r:Zaz} (hc:c.Ok) (hv:VS c r.Zai.state):doB c Zab F r=true↔0≤r.rank∧(r.rank=0→qD c r.Zai.state Zab=true)∧(0 < r.rank→r.Zai.own=true→∀ m∈zi c Zab r.Zai,∃ r'∈rows,Zaz.Zai r'=target c r.Zai m∧Zaz.rank r' < r.rank)∧(0 < r.rank→r.Zai.own=false→r.move∈zi c Zab r.Zai∧∃ r'∈rows,Zaz.Zai r'=target c r.Zai r.move∧Zaz.rank r' < r.rank):=by
  have kn:∀ m∈zi c Zab r.Zai,(blB F r.rank (target c r.Zai m)=true↔∃ r'∈rows,Zaz.Zai r'=target c r.Zai m∧Zaz.rank r' < r.rank):=fun m hm=>(ze4 hF (Yq hc hv hm)).trans (hl _ _)
  unfold doB
  by_cases h0:r.rank≤0
  · rw [decide_eq_true h0,ZaR,Bool.and_eq_true,beq_iff_eq]
    constructor
    · rintro ⟨g1,g2⟩
      exact ⟨by omega,fun _=>g2,fun h=>by omega,fun h=>by omega⟩
    · rintro ⟨g1,g2,_⟩
      have:r.rank=0:=by omega
      exact ⟨this,g2 this⟩
  · rw [decide_eq_false h0,ZaS]
    cases ho:r.Zai.own with
    | true=>
      rw [ZaR,Bool.not_eq_true',List.any_eq_false]
      constructor
      · intro g
        refine ⟨by omega,fun h=>by omega,fun _ _ m hm=>(kn m hm).1 ?_,fun _ h=>by cases h⟩
        have:=g m hm
        simpa using this
      · rintro ⟨_,_,g,_⟩ m hm
        have:=(kn m hm).2 (g (by omega) rfl m hm)
        simp [this]
    | false=>
      rw [ZaS,Bool.and_eq_true,List.contains_iff_mem]
      constructor
      · rintro ⟨g1,g2⟩
        exact ⟨by omega,fun h=>by omega,fun _ h=>by (cases h),fun _ _=>⟨g1,(kn _ g1).1 g2⟩⟩
      · rintro ⟨_,_,_,g⟩
        obtain ⟨g1,g2⟩:=g (by omega) rfl
        exact ⟨g1,(kn _ g1).2 g2⟩
end
open Classical in
noncomputable def ZV (c:Zaa) (s:ZaD):Bool:=decide (ShieldP c s)
open Classical in
noncomputable def WU (c:Zaa) (d:ZaB):Bool:=decide (DoomP c d)
theorem zbe {c:Zaa} {s:ZaD}:ZV c s=true↔ShieldP c s:=by unfold ZV;simp
theorem ze5 {c:Zaa} {d:ZaB}:WU c d=true↔DoomP c d:=by unfold WU;simp
theorem WV {c:Zaa} {s:ZaD} {b:Bool} (h:b=true↔ShieldP c s):b=ZV c s:=by
  rw [Bool.eq_iff_iff,h,zbe]
theorem zaB {c:Zaa} {d:ZaB} {b:Bool} (h:b=true↔DoomP c d):b=WU c d:=by
  rw [Bool.eq_iff_iff,h,ze5]
theorem YG {c:Zaa} (hc:c.Ok) (s:ZaD) (hl:s.rows.length < 4611686018427387904):qC c s=some (ZV c s):=by
  refine Ret.eq (Ret.mono (P:=fun b=>b=true↔ShieldP c s) ?_ fun b h=>WV h)
  unfold qC ZK
  refine Ret.bind (P:=fun b=>b=true↔ShieldP c s) ?_ (fun b h=>Ret.some h)
  refine Ret.bindE (v:=s.Zab) rfl ?_
  simp only [jJ,ZaT]
  refine Ret.bindE (v := !(decide (0≤s.Zab)&&(decide (s.Zab < c.Zal)&&(decide (1≤s.rows.length)&&decide (s.rows.length≤1500))))) ?_ ?_
  · by_cases h1:s.Zab < 0
    · rw [decide_eq_true h1,decide_eq_false (show ¬ 0≤s.Zab by omega)];rfl
    · rw [decide_eq_false h1,decide_eq_true (show 0≤s.Zab by omega)]
      by_cases h2:c.Zal≤s.Zab
      · rw [decide_eq_true h2,decide_eq_false (show ¬ s.Zab < c.Zal by omega)];rfl
      · rw [decide_eq_false h2,decide_eq_true (show s.Zab < c.Zal by omega)]
        by_cases h3:(s.rows.length:Int) < 1
        · rw [decide_eq_true h3,decide_eq_false (show ¬ 1≤s.rows.length by omega)];rfl
        · rw [decide_eq_false h3,decide_eq_true (show 1≤s.rows.length by omega)]
          by_cases h4:(1500:Int) < (s.rows.length:Int)
          · rw [decide_eq_true h4,decide_eq_false (show ¬ s.rows.length≤1500 by omega)];rfl
          · rw [decide_eq_false h4,decide_eq_true (show s.rows.length≤1500 by omega)];rfl
  refine Ret.ite (fun hb=>Ret.some ⟨fun h=>by (cases h),fun h => ?_⟩) (fun hb => ?_)
  · rw [decide_eq_true h.p0,decide_eq_true h.p1,decide_eq_true h.n1,decide_eq_true h.n2] at hb;cases hb
  simp only [Bool.not_eq_false',Bool.and_eq_true,decide_eq_true_eq] at hb
  obtain ⟨p0,p1,n1,n2⟩:=hb
  refine Ret.bind (zaA hc s.rows (·.Zai) (fun _=>0) hl (ZJ ({s:=s}:ZaH)) (fun i hi=>by unfold ZJ;rw [zD (List.getElem?_eq_getElem hi)];rfl) rfl) ?_
  rintro _ (⟨F,rfl,hF,hvs⟩ | ⟨rfl,r,hr,hn⟩)
  · simp only [ZaU]
    have hll:∀ q,(∃ x∈s.rows.map (fun r=>(r.Zai,(0:Int))),x.1=q)↔∃ r∈s.rows,r.Zai=q:=fun q=>by
      constructor
      · rintro ⟨x,hx,e⟩
        obtain ⟨r,hr,rfl⟩:=List.mem_map.1 hx
        exact ⟨r,hr,e⟩
      · rintro ⟨r,hr,e⟩
        exact ⟨_,List.mem_map.2 ⟨r,hr,rfl⟩,e⟩
    have key:s.rows.all (shB c s.Zab F)=true↔ShieldP c s:=by
      rw [List.all_eq_true]
      constructor
      · intro h
        have h':=fun r hr=>(zbW hF hll hc (hvs r hr)).1 (h r hr)
        exact ⟨p0,p1,n1,n2,hvs,fun r hr=>(h' r hr).1,fun r hr=>(h' r hr).2.1,fun r hr=>(h' r hr).2.2⟩
      · intro h r hr
        exact (zbW hF hll hc (hvs r hr)).2 ⟨h.lost r hr,h.own r hr,h.oth r hr⟩
    rw [qR (l:=s.rows) (shB c s.Zab F) hl (fun i hi=>by
      rw [zjL hc hi p0 p1 (hvs _ (List.getElem_mem hi))];simp only [ZaT,zh])]
    cases hall:s.rows.all (shB c s.Zab F) with
    | true=>exact Ret.some ⟨fun _=>key.1 hall,fun _=>rfl⟩
    | false=>exact Ret.some ⟨fun h=>by (cases h),fun h=>by rw [key.2 h] at hall;cases hall⟩
  · exact Ret.some ⟨fun h=>by (cases h),fun h=>absurd (h.vs r hr) hn⟩
theorem zbf {c:Zaa} (hc:c.Ok) (s:ZaB) (hl:s.rows.length < 4611686018427387904):jb c s=some (WU c s):=by
  refine Ret.eq (Ret.mono (P:=fun b=>b=true↔DoomP c s) ?_ fun b h=>zaB h)
  unfold jb ZN
  refine Ret.bind (P:=fun b=>b=true↔DoomP c s) ?_ (fun b h=>Ret.some h)
  refine Ret.bindE (v:=s.Zab) rfl ?_
  simp only [jK,ZaT]
  refine Ret.bindE (v := !(decide (0≤s.Zab)&&(decide (s.Zab < c.Zal)&&(decide (1≤s.rows.length)&&decide (s.rows.length≤1500))))) ?_ ?_
  · by_cases h1:s.Zab < 0
    · rw [decide_eq_true h1,decide_eq_false (show ¬ 0≤s.Zab by omega)];rfl
    · rw [decide_eq_false h1,decide_eq_true (show 0≤s.Zab by omega)]
      by_cases h2:c.Zal≤s.Zab
      · rw [decide_eq_true h2,decide_eq_false (show ¬ s.Zab < c.Zal by omega)];rfl
      · rw [decide_eq_false h2,decide_eq_true (show s.Zab < c.Zal by omega)]
        by_cases h3:(s.rows.length:Int) < 1
        · rw [decide_eq_true h3,decide_eq_false (show ¬ 1≤s.rows.length by omega)];rfl
        · rw [decide_eq_false h3,decide_eq_true (show 1≤s.rows.length by omega)]
          by_cases h4:(1500:Int) < (s.rows.length:Int)
          · rw [decide_eq_true h4,decide_eq_false (show ¬ s.rows.length≤1500 by omega)];rfl
          · rw [decide_eq_false h4,decide_eq_true (show s.rows.length≤1500 by omega)];rfl
  refine Ret.ite (fun hb=>Ret.some ⟨fun h=>by (cases h),fun h => ?_⟩) (fun hb => ?_)
  · rw [decide_eq_true h.p0,decide_eq_true h.p1,decide_eq_true h.n1,decide_eq_true h.n2] at hb;cases hb
  simp only [Bool.not_eq_false',Bool.and_eq_true,decide_eq_true_eq] at hb
  obtain ⟨p0,p1,n1,n2⟩:=hb
  refine Ret.bind (zaA hc s.rows (·.Zai) (·.rank) hl (ZL ({d:=s}:DoomW)) (fun i hi=>by unfold ZL;rw [zD (List.getElem?_eq_getElem hi)];rfl) rfl) ?_
  rintro _ (⟨F,rfl,hF,hvs⟩ | ⟨rfl,r,hr,hn⟩)
  · simp only [ZaU]
    have hll:∀ q n,(∃ x∈s.rows.map (fun r=>(r.Zai,r.rank)),x.1=q∧x.2 < n)↔∃ r∈s.rows,r.Zai=q∧r.rank < n:=fun q n=>by
      constructor
      · rintro ⟨x,hx,e⟩
        obtain ⟨r,hr,rfl⟩:=List.mem_map.1 hx
        exact ⟨r,hr,e⟩
      · rintro ⟨r,hr,e⟩
        exact ⟨_,List.mem_map.2 ⟨r,hr,rfl⟩,e⟩
    have key:s.rows.all (doB c s.Zab F)=true↔DoomP c s:=by
      rw [List.all_eq_true]
      constructor
      · intro h
        have h':=fun r hr=>(zbX hF hll hc (hvs r hr)).1 (h r hr)
        exact ⟨p0,p1,n1,n2,hvs,fun r hr=>(h' r hr).1,fun r hr=>(h' r hr).2.1,fun r hr=>(h' r hr).2.2.1,fun r hr=>(h' r hr).2.2.2⟩
      · intro h r hr
        exact (zbX hF hll hc (hvs r hr)).2 ⟨h.rk r hr,h.zero r hr,h.own r hr,h.oth r hr⟩
    rw [qR (l:=s.rows) (doB c s.Zab F) hl (fun i hi=>by
      rw [zjM hc hi p0 p1 (hvs _ (List.getElem_mem hi))];simp only [ZaT,zh])]
    cases hall:s.rows.all (doB c s.Zab F) with
    | true=>exact Ret.some ⟨fun _=>key.1 hall,fun _=>rfl⟩
    | false=>exact Ret.some ⟨fun h=>by (cases h),fun h=>by rw [key.2 h] at hall;cases hall⟩
  · exact Ret.some ⟨fun h=>by (cases h),fun h=>absurd (h.vs r hr) hn⟩
end
end Go.Proofs.YtmoedieenlaegaaGreatDoor
namespace Go.Proofs.YtmoedieenlaegaaGreatDoor
set_option linter.unusedSimpArgs false
set_option linter.unusedVariables false
set_option maxRecDepth 100000
def Le {α:Type} (x y:Option α):Prop:=∀ r,x=some r→y=some r
theorem Le.refl {α:Type} (x:Option α):Le x x:=fun _ h=>h
theorem Le.bind {α β:Type} {x y:Option α} {f g:α→Option β} (h:Le x y) (hf:∀ a,Le (f a) (g a)):Le (x.bind f) (y.bind g):=fun r hr=>by
  obtain ⟨a,h1,h2⟩:=Option.bind_eq_some_iff.1 hr
  rw [h a h1];exact hf a r h2
theorem Le.cond {α:Type} (b:Bool) {x y x' y':Option α} (h1:Le x x') (h2:Le y y'):Le (bif b then x else y) (bif b then x' else y'):=by
  cases b
  · exact h2
  · exact h1
theorem Le.elim {α β γ:Type} {f f':α→Option γ} {g g':β→Option γ} (h1:∀ a,Le (f a) (f' a)) (h2:∀ a,Le (g a) (g' a)) (o:α ⊕ β):Le (Sum.elim f g o) (Sum.elim f' g' o):=by
  cases o
  · exact h1 _
  · exact h2 _
theorem Le.forFrom {σ ρ:Type} {f g:Nat→σ→Option (σ ⊕ ρ)} (h:∀ i s,Le (f i s) (g i s)):∀ (k i:Nat) (s:σ),Le (forFrom f i k s) (forFrom g i k s)
  | 0,i,s=>Le.refl _
  | k+1,i,s=>fun r hr=>by
    simp only [Go.Proofs.YtmoedieenlaegaaGreatDoor.forFrom] at hr ⊢
    split at hr
    · cases hr
    · rename_i e;rw [h i s _ e];exact hr
    · rename_i e;rw [h i s _ e];exact Le.forFrom h k (i+1) _ r hr
theorem Le.forR {σ ρ:Type} {f g:Nat→σ→Option (σ ⊕ ρ)} (h:∀ i s,Le (f i s) (g i s)) (n:Int) (s:σ):Le (forR n f s) (forR n g s):=fun r hr=>by
  obtain ⟨h1,h2⟩:=VY hr
  rw [vi h1];exact Le.forFrom h _ _ _ r h2
theorem Le.iterN {σ ρ:Type} {f g:σ→Option (σ ⊕ ρ)} (h:∀ s,Le (f s) (g s)):∀ (k:Nat) (s:σ),Le (Go.Proofs.YtmoedieenlaegaaGreatDoor.iterN f k s) (Go.Proofs.YtmoedieenlaegaaGreatDoor.iterN g k s)
  | 0,s=>Le.refl _
  | k+1,s=>fun r hr=>by
    simp only [Go.Proofs.YtmoedieenlaegaaGreatDoor.iterN] at hr ⊢
    split at hr
    · cases hr
    · rename_i e;rw [h s _ e];exact hr
    · rename_i e;rw [h s _ e];exact Le.iterN h k _ r hr
theorem Le.iter {σ ρ:Type} {f g:σ→Option (σ ⊕ ρ)} (h:∀ s,Le (f s) (g s)) (k:Nat) (s:σ):Le (Go.Proofs.YtmoedieenlaegaaGreatDoor.iterN f k s) (Go.Proofs.YtmoedieenlaegaaGreatDoor.iter g s):=fun r hr=>yh.2 ⟨k,Le.iterN h k s r hr⟩
def VA:Nat→Nat→List UInt8
  | 0,u=>[]
  | f+1,u=>if u < 10 then [UInt8.ofNat (48+u)] else VA f (u / 10)++[UInt8.ofNat (48+u % 10)]
theorem VB:∀ (f u:Nat),u < 10 ^ (f+1)→VA (f+1) u=Lib.decDigits u
  | 0,u,h=>by
    rw [Lib.decDigits]
    simp only [VA]
    rw [if_pos (by omega),dif_pos (by omega)]
  | f+1,u,h=>by
    rw [Lib.decDigits,VA]
    by_cases hu:u < 10
    · rw [if_pos hu,dif_pos hu]
    · rw [if_neg hu,dif_neg hu,VB f (u / 10) (by rw [Nat.pow_succ] at h;omega)]
def xE (n:Int):Bool:=decide (-1000 < n)&&decide (n < 1000)
def zdb (n:Int):List UInt8:=if n < 0 then 45::VA 4 n.natAbs else VA 4 n.toNat
theorem zgx {n:Int} (h:xE n=true):zdb n=Lib.itoa n:=by
  simp only [xE,Bool.and_eq_true,decide_eq_true_eq] at h
  unfold zdb Lib.itoa
  rw [VB 3 n.natAbs (by omega),VB 3 n.toNat (by omega)]
def vL (n:Int):List UInt8:=zdb n++[32]
theorem yT {n:Int} (h:xE n=true):vL n=zS n:=by unfold vL zS;rw [zgx h]
def zg0 (m:zw):List UInt8:=vL m.Zak++vL m.left++vL m.got++vL m.Zaq++qh m.Zat
def zaC (m:zw):Bool:=xE m.Zak&&(xE m.left&&(xE m.got&&xE m.Zaq))
def WW (p:Zae):List UInt8:=qh p.own++vL p.state.day++p.state.Zad.flatMap vL++p.state.used.flatMap qh++p.state.Zag.flatMap zg0
def Ju (p:Zae):Bool:=xE p.state.day&&(p.state.Zad.all xE&&p.state.Zag.all zaC)
theorem kB {α β:Type} {f g:α→List β}:∀ {l:List α},(∀ a∈l,f a=g a)→l.flatMap f=l.flatMap g
  | [],_=>rfl
  | a::l,h=>by rw [List.flatMap_cons,List.flatMap_cons,h a List.mem_cons_self,kB fun b hb=>h b (List.mem_cons_of_mem _ hb)]
theorem zgy {p:Zae} (h:Ju p=true):WW p=z8 p:=by
  simp only [Ju,Bool.and_eq_true,List.all_eq_true] at h
  unfold WW z8
  rw [yT h.1,kB (f:=vL) (g:=zS) (fun a ha=>yT (h.2.1 a ha)),kB (f:=zg0) (g:=jN) (fun a ha=>by
    have:=h.2.2 a ha
    simp only [zaC,Bool.and_eq_true] at this
    show vL a.Zak++vL a.left++vL a.got++vL a.Zaq++qh a.Zat=zS a.Zak++zS a.left++zS a.got++zS a.Zaq++qh a.Zat
    rw [yT this.1,yT this.2.1,yT this.2.2.1,yT this.2.2.2])]
theorem vM {n:Int} (h:xE n=true):xr n=true:=by
  simp only [xE,xr,Bool.and_eq_true,decide_eq_true_eq] at h ⊢
  omega
def wU (p:Zae):Option ByteArray:=bif Ju p&&decide ((WW p).length≤1000000000) then some ⟨(WW p).toArray⟩ else none
theorem J2 (p:Zae):Le (wU p) (qX p):=fun r h=>by
  unfold wU at h
  cases hq:(Ju p&&decide ((WW p).length≤1000000000)) with
  | false=>rw [hq] at h;cases h
  | true=>
    rw [hq] at h
    simp only [Bool.and_eq_true,decide_eq_true_eq] at hq
    have e:=zgy hq.1
    unfold qX
    rw [if_pos,←e]
    · exact h
    · have h1:=hq.1
      simp only [Ju,Bool.and_eq_true,List.all_eq_true] at h1
      simp only [okP,Bool.and_eq_true,decide_eq_true_eq,List.all_eq_true]
      refine ⟨⟨⟨vM h1.1,fun x hx=>vM (h1.2.1 x hx)⟩,fun m hm => ?_⟩,by rw [←e];exact hq.2⟩
      have:=h1.2.2 m hm
      simp only [zaC,Bool.and_eq_true] at this
      exact ⟨⟨⟨vM this.1,vM this.2.1⟩,vM this.2.2.1⟩,vM this.2.2.2⟩
noncomputable def WX (p1:Zaa) (p2:Int) (p3:List Int) (p4:Nat) (p5:List Bool) (p6:Nat) (p7:List zw) (p8:Nat):Option ((List zw)):=
  (Option.bind (iterN (σ:=Bool×(List zw)) (ρ:=(List zw)) (fun s1=>(bif s1.1 then (Option.bind (forR (σ:=Bool×(List zw)) (ρ:=Unit) (p1.Zaf.length:Int) (fun i2 s2=>(Option.bind (Option.bind (ze p1.Zaf (i2:Int)) fun e1=>(Option.bind (eqN p4 p3.length) fun g1=>(Option.bind (eqN p6 p5.length) fun g2=>(Option.bind (eqN p8 s2.2.length) fun g3=>(Option.bind (vt p1 ({day:=p2,Zad:=p3,used:=p5,Zag:=s2.2}:Zao) (i2:Int)) fun r1=>(bif r1 then (Option.bind (bif (e1.kind == 4) then some (-1) else (Option.bind (zl p4 e1.Zax) fun k1=>(Option.bind (p3[k1]?) fun e2=>some e2))) fun (v1:Int)=>(Option.bind (zl p8 (i2:Int)) fun k2=>(Option.bind (s2.2[k2]?) fun e3=>some (true,(s2.2.set k2 ({Zak:=1,left:=e1.after,got:=0,Zaq:=v1,Zat:=false}:zw)))))) else some (s2.1,s2.2))))))) fun (v2:Bool×(List zw))=>some (.inl (v2.1,v2.2)))) (false,s1.2)) (Sum.elim (fun (s2:Bool×(List zw))=>some (.inl (s2.1,s2.2))) (fun _=>none))) else some (.inr s1.2))) 40 (true,p7)) (fun (y1:(List zw))=>some y1))
theorem zaD (p1:Zaa) (p2:Int) (p3:List Int) (p4:Nat) (p5:List Bool) (p6:Nat) (p7:List zw) (p8:Nat):Le (WX p1 p2 p3 p4 p5 p6 p7 p8) (x6 p1 p2 p3 p4 p5 p6 p7 p8):=by
  unfold WX x6
  repeat' (first | with_reducible exact Le.refl _ | with_reducible refine Le.bind ?_ (fun _ => ?_) | with_reducible refine Le.cond _ ?_ ?_ | with_reducible refine Le.forR (fun _ _ => ?_) _ _ | with_reducible refine Le.iter (fun _ => ?_) _ _ | with_reducible refine Le.elim (fun _ => ?_) (fun _ => ?_) _)
noncomputable def VC (c:Zaa):Option (Zao×Int):=
  (Option.bind (vr c) fun r1=>(bif (r1.1 == 0) then (Option.bind (jm 8 c.Zad) fun e1=>(Option.bind (mkN 1 (c.Zaj.length:Int)) fun k1=>(Option.bind (mkN 40 (c.Zaf.length:Int)) fun k2=>(Option.bind (forR (σ:=(List zw)) (ρ:=Unit) (c.Zaf.length:Int) (fun i1 s1=>(Option.bind (Option.bind (ze c.Zaf (i1:Int)) fun e2=>(Option.bind (zl k2 (i1:Int)) fun k3=>(Option.bind (s1[k3]?) fun e3=>(bif e2.waived then (Option.bind (zl k2 (i1:Int)) fun k4=>(Option.bind ((s1.set k3 ({Zak:=0,left:=0,got:=0,Zaq:=(-1),Zat:=false}:zw))[k4]?) fun e4=>some ((s1.set k3 ({Zak:=0,left:=0,got:=0,Zaq:=(-1),Zat:=false}:zw)).set k4 ({e4 with Zak:=5}:zw)))) else some (s1.set k3 ({Zak:=0,left:=0,got:=0,Zaq:=(-1),Zat:=false}:zw)))))) fun (v1:(List zw))=>some (.inl v1))) (List.replicate k2 ({Zak:=0,left:=0,got:=0,Zaq:=0,Zat:=false}:zw))) (Sum.elim (fun (s1:(List zw))=>(Option.bind (WX c 0 e1 e1.length (List.replicate k1 false) k1 s1 k2) fun r2=>(Option.bind (eqN k1 (List.replicate k1 false).length) fun g1=>(Option.bind (eqN k2 r2.length) fun g2=>some (({day:=0,Zad:=e1,used:=(List.replicate k1 false),Zag:=r2}:Zao),0))))) (fun _=>none)))))) else some (({day:=0,Zad:=[],used:=[],Zag:=[]}:Zao),1)))
theorem zgz (c:Zaa):Le (VC c) (JM c):=by
  unfold VC JM
  repeat' (first | with_reducible exact Le.refl _ | with_reducible exact zaD _ _ _ _ _ _ _ _ | with_reducible refine Le.bind ?_ (fun _ => ?_) | with_reducible refine Le.cond _ ?_ ?_ | with_reducible refine Le.forR (fun _ _ => ?_) _ _ | with_reducible refine Le.iter (fun _ => ?_) _ _ | with_reducible refine Le.elim (fun _ => ?_) (fun _ => ?_) _)
noncomputable def vN (l:List Int) (v:Int):Option (Int×Bool):=
  (Option.bind (Option.bind (iterN (σ:=Int×Int) (ρ:=Int) (fun s1=>(bif decide (s1.1 < s1.2) then (Option.bind (Q3 .u64 .u64 (IntKind.u64.wrap (IntKind.i64.wrap (s1.1+s1.2))) 1) fun e1=>(Option.bind (ze l (IntKind.i64.wrap e1)) fun e2=>(Option.bind (ZD e2 v) fun r1=>(bif r1 then some (.inl ((IntKind.i64.wrap ((IntKind.i64.wrap e1)+1)),s1.2)) else some (.inl (s1.1,(IntKind.i64.wrap e1))))))) else some (.inr s1.1))) 40 (0,(l.length:Int))) (fun (y1:Int)=>some y1)) fun (v1:Int)=>(Option.bind (bif decide (v1 < (l.length:Int)) then (Option.bind (ze l v1) fun e3=>(bif (e3 == v) then some true else (Option.bind (yN e3) fun r2=>(bif r2 then (Option.bind (yN v) fun r3=>some r3) else some false)))) else some false) fun v2=>some (v1,v2)))
theorem WY (l:List Int) (v:Int):Le (vN l v) (jt l v):=by
  unfold vN jt
  repeat' (first | with_reducible exact Le.refl _ | with_reducible refine Le.bind ?_ (fun _ => ?_) | with_reducible refine Le.cond _ ?_ ?_ | with_reducible refine Le.forR (fun _ _ => ?_) _ _ | with_reducible refine Le.iter (fun _ => ?_) _ _ | with_reducible refine Le.elim (fun _ => ?_) (fun _ => ?_) _)
noncomputable def zdc (p1:Zaa) (p2:Int) (p3:List Int) (p4:Nat) (p5:List Bool) (p6:Nat) (p7:List zw) (p8:Nat):Option ((List zw)):=
  (Option.bind (vN p1.off p2) fun r1=>(Option.bind (Option.bind (j6 p1 p2 p3 p4 p5 p6 p7 p8) fun r2=>(Option.bind (forR (σ:=(List zw)) (ρ:=(List zw)) (p8:Int) (fun i1 s1=>(Option.bind (Option.bind (zl p8 (i1:Int)) fun k1=>(Option.bind (s1[k1]?) fun e1=>(Option.bind (jr e1) fun r3=>(bif r3 then (Option.bind (Option.bind (ze p1.Zaf (i1:Int)) fun e2=>(Option.bind (Option.bind (zl p8 (i1:Int)) fun k2=>(Option.bind (s1[k2]?) fun e3=>(bif e3.Zat then some true else (bif e2.business then some r1.2 else some false)))) fun v1=>(bif v1 then some s1 else (Option.bind (zl p8 (i1:Int)) fun k3=>(Option.bind (s1[k3]?) fun e4=>(Option.bind (zl p8 (i1:Int)) fun k4=>(Option.bind ((s1.set k3 ({e4 with left:=(IntKind.i64.wrap (e4.left - 1))}:zw))[k4]?) fun e5=>(bif (e5.left == 0) then (Option.bind (bif (e2.kind == (0:Int)) then none else (bif (e2.kind == (1:Int)) then (Option.bind (WA (i1:Int) p1 p2 p3 p4 p5 p6 (s1.set k3 ({e4 with left:=(IntKind.i64.wrap (e4.left - 1))}:zw)) p8) fun r7=>some r7) else (bif (e2.kind == (2:Int)) then (Option.bind (x7 (i1:Int) p1 p2 p3 p4 p5 p6 (s1.set k3 ({e4 with left:=(IntKind.i64.wrap (e4.left - 1))}:zw)) p8) fun r6=>some r6) else (bif (e2.kind == (3:Int)) then (Option.bind (kR (i1:Int) p1 p2 p3 p4 p5 p6 (s1.set k3 ({e4 with left:=(IntKind.i64.wrap (e4.left - 1))}:zw)) p8) fun r5=>some r5) else (bif (e2.kind == (4:Int)) then (Option.bind (kR (i1:Int) p1 p2 p3 p4 p5 p6 (s1.set k3 ({e4 with left:=(IntKind.i64.wrap (e4.left - 1))}:zw)) p8) fun r4=>some r4) else none))))) fun v2=>some v2) else some (s1.set k3 ({e4 with left:=(IntKind.i64.wrap (e4.left - 1))}:zw)))))))))) fun (v3:(List zw))=>some ((!true),v3)) else some (false,s1))))) fun (v4:Bool×(List zw))=>(bif v4.1 then some (.inr v4.2) else some (.inl v4.2)))) p7) (Sum.elim (fun (s1:(List zw))=>some s1) (fun (y1:(List zw))=>some y1)))) fun (v5:(List zw))=>(Option.bind (WX p1 (IntKind.i64.wrap (p2+1)) p3 p4 p5 p6 v5 p8) fun r8=>some r8)))
theorem zjN (p1:Zaa) (p2:Int) (p3:List Int) (p4:Nat) (p5:List Bool) (p6:Nat) (p7:List zw) (p8:Nat):Le (zdc p1 p2 p3 p4 p5 p6 p7 p8) (d_70a p1 p2 p3 p4 p5 p6 p7 p8):=by
  unfold zdc d_70a
  repeat' (first | with_reducible exact Le.refl _ | with_reducible exact WY _ _ | with_reducible exact zaD _ _ _ _ _ _ _ _ | with_reducible refine Le.bind ?_ (fun _ => ?_) | with_reducible refine Le.cond _ ?_ ?_ | with_reducible refine Le.forR (fun _ _ => ?_) _ _ | with_reducible refine Le.iter (fun _ => ?_) _ _ | with_reducible refine Le.elim (fun _ => ?_) (fun _ => ?_) _)
noncomputable def zdd (p1:Int) (p2:Zaa) (p3:Int) (p4:List Int) (p5:Nat) (p6:List Bool) (p7:Nat) (p8:List zw) (p9:Nat):Option ((List Int)×(List Bool)×(List zw)):=
  (Option.bind (ze p2.Zaj p1) fun e1=>(Option.bind (bif (e1.kind == 1) then some false else (Option.bind (zl p7 p1) fun k1=>(Option.bind (p6[k1]?) fun e2=>some e2))) fun v1=>(bif v1 then some (p4,p6,p8) else (Option.bind (Option.bind (j6 p2 p3 p4 p5 p6 p7 p8 p9) fun r1=>(Option.bind (forR (σ:=(List zw)) (ρ:=(List zw)) (p9:Int) (fun i1 s1=>(Option.bind (Option.bind (zl p9 (i1:Int)) fun k2=>(Option.bind (s1[k2]?) fun e3=>(Option.bind (jr e3) fun r2=>(bif r2 then (Option.bind (Option.bind (ze p2.Zaf (i1:Int)) fun e4=>(bif (p1 == e4.pause) then (Option.bind (zl p9 (i1:Int)) fun k3=>(Option.bind (s1[k3]?) fun e5=>some (s1.set k3 ({e5 with Zat:=true}:zw)))) else (Option.bind (ze p2.Zaf (i1:Int)) fun e6=>(bif (p1 == e6.ZaG) then (Option.bind (zl p9 (i1:Int)) fun k4=>(Option.bind (s1[k4]?) fun e7=>some (s1.set k4 ({e7 with Zat:=false}:zw)))) else some s1)))) fun (v2:(List zw))=>some ((!true),v2)) else some (false,s1))))) fun (v3:Bool×(List zw))=>(bif v3.1 then some (.inr v3.2) else some (.inl v3.2)))) p8) (Sum.elim (fun (s1:(List zw))=>some s1) (fun (y1:(List zw))=>some y1)))) fun (v4:(List zw))=>(Option.bind (eqN p5 p4.length) fun g1=>(Option.bind (eqN p7 p6.length) fun g2=>(Option.bind (eqN p9 v4.length) fun g3=>(Option.bind (ZE p2 ({day:=p3,Zad:=p4,used:=p6,Zag:=v4}:Zao) p1) fun r3=>(Option.bind (Option.bind (j6 p2 p3 p4 p5 p6 p7 v4 p9) fun r4=>(Option.bind (forR (σ:=(List zw)) (ρ:=(List zw)) (p9:Int) (fun i2 s2=>(Option.bind (Option.bind (zl p9 (i2:Int)) fun k5=>(Option.bind (s2[k5]?) fun e8=>(Option.bind (jr e8) fun r5=>(bif r5 then (Option.bind (Option.bind (ze p2.Zaf (i2:Int)) fun e9=>(Option.bind (bif (e9.act == p1) then (bif (e9.kind == 4) then some true else (Option.bind (zl p9 (i2:Int)) fun k6=>(Option.bind (s2[k6]?) fun e10=>some (e10.Zaq == r3)))) else some false) fun v5=>(bif v5 then (Option.bind (bif (e9.kind == (0:Int)) then none else (bif (e9.kind == (1:Int)) then (Option.bind (WC (i2:Int) p2 p3 p4 p5 p6 p7 s2 p9) fun r9=>some r9) else (bif (e9.kind == (2:Int)) then (Option.bind (WB (i2:Int) p2 p3 p4 p5 p6 p7 s2 p9) fun r8=>some r8) else (bif (e9.kind == (3:Int)) then (Option.bind (x7 (i2:Int) p2 p3 p4 p5 p6 p7 s2 p9) fun r7=>some r7) else (bif (e9.kind == (4:Int)) then (Option.bind (x7 (i2:Int) p2 p3 p4 p5 p6 p7 s2 p9) fun r6=>some r6) else none))))) fun v6=>some v6) else some s2))) fun (v7:(List zw))=>some ((!true),v7)) else some (false,s2))))) fun (v8:Bool×(List zw))=>(bif v8.1 then some (.inr v8.2) else some (.inl v8.2)))) v4) (Sum.elim (fun (s2:(List zw))=>some s2) (fun (y2:(List zw))=>some y2)))) fun (v9:(List zw))=>(Option.bind (bif (e1.kind == 1) then some (p4,p6,v9) else (Option.bind (WD p1 p2 p3 p4 p5 p6 p7 v9 p9) fun r10=>some (r10.1,r10.2.1,r10.2.2))) fun (v10:(List Int)×(List Bool)×(List zw))=>(Option.bind (WX p2 p3 v10.1 p5 v10.2.1 p7 v10.2.2 p9) fun r11=>some (v10.1,v10.2.1,r11))))))))))))
theorem zjO (p1:Int) (p2:Zaa) (p3:Int) (p4:List Int) (p5:Nat) (p6:List Bool) (p7:Nat) (p8:List zw) (p9:Nat):Le (zdd p1 p2 p3 p4 p5 p6 p7 p8 p9) (Ql p1 p2 p3 p4 p5 p6 p7 p8 p9):=by
  unfold zdd Ql
  repeat' (first | with_reducible exact Le.refl _ | with_reducible exact zaD _ _ _ _ _ _ _ _ | with_reducible refine Le.bind ?_ (fun _ => ?_) | with_reducible refine Le.cond _ ?_ ?_ | with_reducible refine Le.forR (fun _ _ => ?_) _ _ | with_reducible refine Le.iter (fun _ => ?_) _ _ | with_reducible refine Le.elim (fun _ => ?_) (fun _ => ?_) _)
noncomputable def kC (c:Zaa) (s:Zao) (step:Int):Option (Zao×Int):=
  (Option.bind (Option.bind (q5 c s) fun r1=>(bif r1 then (bif decide (step < (-1)) then some true else some (decide ((c.Zaj.length:Int)≤step))) else some true)) fun v1=>(bif v1 then some (({day:=0,Zad:=[],used:=[],Zag:=[]}:Zao),1) else (bif (s.day == c.Zas) then some (({day:=0,Zad:=[],used:=[],Zag:=[]}:Zao),13) else (Option.bind (mkN 8 (s.Zad.length:Int)) fun k1=>(Option.bind (mkN 1 (s.used.length:Int)) fun k2=>(Option.bind (mkN 40 (s.Zag.length:Int)) fun k3=>(Option.bind (xp (α:=Int) k1 (List.replicate k1 0) s.Zad) fun e1=>(Option.bind (xp (α:=Bool) k2 (List.replicate k2 false) s.used) fun e2=>(Option.bind (xp (α:=zw) k3 (List.replicate k3 ({Zak:=0,left:=0,got:=0,Zaq:=0,Zat:=false}:zw)) s.Zag) fun e3=>(Option.bind (bif (step == (-1)) then (Option.bind (zdc c s.day e1 k1 e2 k2 e3 k3) fun r2=>some (e1,e2,r2,(IntKind.i64.wrap (s.day+1)))) else (Option.bind (zdd step c s.day e1 k1 e2 k2 e3 k3) fun r3=>some (r3.1,r3.2.1,r3.2.2,s.day))) fun (v2:(List Int)×(List Bool)×(List zw)×Int)=>(Option.bind (eqN k1 v2.1.length) fun g1=>(Option.bind (eqN k2 v2.2.1.length) fun g2=>(Option.bind (eqN k3 v2.2.2.1.length) fun g3=>some (({day:=v2.2.2.2,Zad:=v2.1,used:=v2.2.1,Zag:=v2.2.2.1}:Zao),0))))))))))))))
theorem VD (c:Zaa) (s:Zao) (step:Int):Le (kC c s step) (d_Step c s step):=by
  unfold kC d_Step
  repeat' (first | with_reducible exact Le.refl _ | with_reducible exact zjN _ _ _ _ _ _ _ _ | with_reducible exact zjO _ _ _ _ _ _ _ _ _ | with_reducible refine Le.bind ?_ (fun _ => ?_) | with_reducible refine Le.cond _ ?_ ?_ | with_reducible refine Le.forR (fun _ _ => ?_) _ _ | with_reducible refine Le.iter (fun _ => ?_) _ _ | with_reducible refine Le.elim (fun _ => ?_) (fun _ => ?_) _)
noncomputable def WZ (c:Zaa) (Zab:Int) (p:Zae):Option (ZaF×Int):=
  (Option.bind (j4 c Zab p) fun r1=>(bif r1 then (Option.bind (j5 p.state) fun r2=>(Option.bind (wU p) fun r3=>(Option.bind (α:=((List Zae)×(List (List Zaw))) ⊕ Unit) (Option.bind (iterN (σ:=Int×(List Zae)×(List (List Zaw))×(List (ByteArray×Int))) (ρ:=((List Zae)×(List (List Zaw))) ⊕ Unit) (fun s1=>(bif decide (s1.1 < (s1.2.1.length:Int)) then (Option.bind (α:=((List Zae)×(List (ByteArray×Int))×(List Zaw)) ⊕ Unit) (Option.bind (ze s1.2.1 s1.1) fun e1=>(Option.bind (YW c Zab e1) fun r4=>(Option.bind (α:=((List Zae)×(List (ByteArray×Int))×(List Zaw)) ⊕ (Unit ⊕ ((List Zae)×(List (ByteArray×Int))×(List Zaw)))) (bif e1.own then (Option.bind (j5 e1.state) fun r5=>(Option.bind (wU ({state:=r5,own:=false}:Zae)) fun r6=>(Option.bind (α:=(Int×(List Zae)×(List (ByteArray×Int))) ⊕ Unit) (bif ((zr r6 s1.2.2.2).isSome) then some (.inl (((zr r6 s1.2.2.2).getD 0),s1.2.1,s1.2.2.2)) else (bif ((s1.2.1.length:Int) == 1500) then some (.inr ()) else (Option.bind (zR (α:=Zae) 88 s1.2.1 [({state:=r5,own:=false}:Zae)]) fun e2=>some (.inl ((s1.2.1.length:Int),e2,(qc r6 (s1.2.1.length:Int) s1.2.2.2)))))) (Sum.elim (fun (v1:Int×(List Zae)×(List (ByteArray×Int)))=>(Option.bind (zR (α:=Zaw) 16 [] [({step:=(-2),to:=v1.1}:Zaw)]) fun e3=>(bif decide (c.Zas≤e1.state.day) then some (.inr (.inr (v1.2.1,v1.2.2,e3))) else some (.inl (v1.2.1,v1.2.2,e3))))) (fun (y1:Unit)=>some (.inr (.inl ()))))))) else (bif decide (c.Zas≤e1.state.day) then some (.inr (.inr (s1.2.1,s1.2.2.2,[]))) else some (.inl (s1.2.1,s1.2.2.2,[])))) (Sum.elim (fun (v2:(List Zae)×(List (ByteArray×Int))×(List Zaw))=>(Option.bind (α:=((List Zae)×(List (ByteArray×Int))×(List Zaw)) ⊕ Unit) (bif e1.own then some (.inl (v2.1,v2.2.1,v2.2.2)) else (Option.bind (kC c e1.state (-1)) fun r7=>(Option.bind (wU ({state:=r7.1,own:=true}:Zae)) fun r8=>(Option.bind (α:=(Int×(List Zae)×(List (ByteArray×Int))) ⊕ Unit) (bif ((zr r8 v2.2.1).isSome) then some (.inl (((zr r8 v2.2.1).getD 0),v2.1,v2.2.1)) else (bif ((v2.1.length:Int) == 1500) then some (.inr ()) else (Option.bind (zR (α:=Zae) 88 v2.1 [({state:=r7.1,own:=true}:Zae)]) fun e4=>some (.inl ((v2.1.length:Int),e4,(qc r8 (v2.1.length:Int) v2.2.1)))))) (Sum.elim (fun (v3:Int×(List Zae)×(List (ByteArray×Int)))=>(Option.bind (zR (α:=Zaw) 16 v2.2.2 [({step:=(-1),to:=v3.1}:Zaw)]) fun e5=>some (.inl (v3.2.1,v3.2.2,e5)))) (fun (y4:Unit)=>some (.inr ()))))))) (Sum.elim (fun (v4:(List Zae)×(List (ByteArray×Int))×(List Zaw))=>(Option.bind (forR (σ:=(List Zae)×(List (ByteArray×Int))×(List Zaw)) (ρ:=(List Zae)×(List (ByteArray×Int))×(List Zaw)) (c.Zaj.length:Int) (fun i2 s2=>(Option.bind (α:=((List Zae)×(List (ByteArray×Int))×(List Zaw)) ⊕ Unit) (Option.bind (ze c.Zaj (i2:Int)) fun e6=>(Option.bind (bif (e6.Zax == (-1)) then some (-1) else (Option.bind (ze e1.state.Zad e6.Zax) fun e7=>some e7)) fun (v5:Int)=>(bif ((v5 == Zab) == e1.own) then (Option.bind (kC c e1.state (i2:Int)) fun r9=>(Option.bind (xL r9.1 e1.state) fun r10=>(bif r10 then some (.inl (s2.1,s2.2.1,s2.2.2)) else (Option.bind (wU ({state:=r9.1,own:=true}:Zae)) fun r11=>(Option.bind (α:=(Int×(List Zae)×(List (ByteArray×Int))) ⊕ Unit) (bif ((zr r11 s2.2.1).isSome) then some (.inl (((zr r11 s2.2.1).getD 0),s2.1,s2.2.1)) else (bif ((s2.1.length:Int) == 1500) then some (.inr ()) else (Option.bind (zR (α:=Zae) 88 s2.1 [({state:=r9.1,own:=true}:Zae)]) fun e8=>some (.inl ((s2.1.length:Int),e8,(qc r11 (s2.1.length:Int) s2.2.1)))))) (Sum.elim (fun (v6:Int×(List Zae)×(List (ByteArray×Int)))=>(Option.bind (zR (α:=Zaw) 16 s2.2.2 [({step:=(i2:Int),to:=v6.1}:Zaw)]) fun e9=>some (.inl (v6.2.1,v6.2.2,e9)))) (fun (y6:Unit)=>some (.inr ())))))))) else some (.inl (s2.1,s2.2.1,s2.2.2))))) (Sum.elim (fun (v7:(List Zae)×(List (ByteArray×Int))×(List Zaw))=>some (.inl (v7.1,v7.2.1,v7.2.2))) (fun (y7:Unit)=>some (.inr (s2.1,s2.2.1,s2.2.2)))))) (v4.1,v4.2.1,v4.2.2)) (Sum.elim (fun (s2:(List Zae)×(List (ByteArray×Int))×(List Zaw))=>some (.inl (s2.1,s2.2.1,s2.2.2))) (fun (y8:(List Zae)×(List (ByteArray×Int))×(List Zaw))=>some (.inr ()))))) (fun (y5:Unit)=>some (.inr ()))))) (Sum.elim (fun (y2:Unit)=>some (.inr ())) (fun (y3:(List Zae)×(List (ByteArray×Int))×(List Zaw))=>some (.inl (y3.1,y3.2.1,y3.2.2)))))))) (Sum.elim (fun (v8:(List Zae)×(List (ByteArray×Int))×(List Zaw))=>(Option.bind (zR (α:=List Zaw) 24 s1.2.2.1 [v8.2.2]) fun e10=>some (.inl ((IntKind.i64.wrap (s1.1+1)),v8.1,e10,v8.2.1)))) (fun (y9:Unit)=>some (.inr (.inr ()))))) else some (.inr (.inl (s1.2.1,s1.2.2.1))))) 40 (0,[({state:=r2,own:=p.own}:Zae)],[],(qc r3 0 []))) (Sum.elim (fun (y10:(List Zae)×(List (List Zaw)))=>some (.inl (y10.1,y10.2))) (fun (y11:Unit)=>some (.inr ())))) (Sum.elim (fun (v9:(List Zae)×(List (List Zaw)))=>some (({Zab:=Zab,Zay:=v9.1,moves:=v9.2}:ZaF),0)) (fun (y12:Unit)=>some (({Zab:=0,Zay:=[],moves:=[]}:ZaF),3)))))) else some (({Zab:=0,Zay:=[],moves:=[]}:ZaF),1)))
theorem zbY (c:Zaa) (Zab:Int) (p:Zae):Le (WZ c Zab p) (Jd c Zab p):=by
  unfold WZ Jd
  repeat' (first | with_reducible exact Le.refl _ | with_reducible exact J2 _ | with_reducible exact VD _ _ _ | with_reducible refine Le.bind ?_ (fun _ => ?_) | with_reducible refine Le.cond _ ?_ ?_ | with_reducible refine Le.forR (fun _ _ => ?_) _ _ | with_reducible refine Le.iter (fun _ => ?_) _ _ | with_reducible refine Le.elim (fun _ => ?_) (fun _ => ?_) _)
noncomputable def J3 (c:Zaa) (a:ZaF):Option (List Int):=
  (Option.bind (kg c a) fun r1=>(bif r1 then (Option.bind (mkN 8 (a.Zay.length:Int)) fun k1=>(Option.bind (mkN 8 (a.Zay.length:Int)) fun k2=>(Option.bind (mkN 24 (a.Zay.length:Int)) fun k3=>(Option.bind (forR (σ:=(List Int)×(List Int)×(List (List Int))×(List Int)) (ρ:=Unit) (a.Zay.length:Int) (fun i1 s1=>(Option.bind (Option.bind (ze a.Zay (i1:Int)) fun e1=>(Option.bind (ze a.moves (i1:Int)) fun e2=>(Option.bind (zl k1 (i1:Int)) fun k4=>(Option.bind (s1.1[k4]?) fun e3=>(Option.bind (zl k2 (i1:Int)) fun k5=>(Option.bind (s1.2.1[k5]?) fun e4=>(Option.bind (ze a.moves (i1:Int)) fun e5=>(Option.bind (forR (σ:=(List (List Int))) (ρ:=Unit) (e5.length:Int) (fun i2 s2=>(Option.bind (ze e5 (i2:Int)) fun e6=>(Option.bind (wp s2 k3 e6.to (i1:Int)) fun v1=>some (.inl v1)))) s1.2.2.1) (Sum.elim (fun (s2:(List (List Int)))=>(Option.bind (zab c e1.state a.Zab) fun r2=>(bif r2 then (Option.bind (zl k1 (i1:Int)) fun k6=>(Option.bind ((s1.1.set k4 (-1))[k6]?) fun e7=>(Option.bind (ZF (i1:Int) s1.2.2.2 0) fun r3=>some (((s1.1.set k4 (-1)).set k6 0),(s1.2.1.set k5 (e2.length:Int)),s2,r3)))) else some ((s1.1.set k4 (-1)),(s1.2.1.set k5 (e2.length:Int)),s2,s1.2.2.2)))) (fun _=>none)))))))))) fun (v2:(List Int)×(List Int)×(List (List Int))×(List Int))=>some (.inl (v2.1,v2.2.1,v2.2.2.1,v2.2.2.2)))) ((List.replicate k1 0),(List.replicate k2 0),(List.replicate k3 []),[])) (Sum.elim (fun (s1:(List Int)×(List Int)×(List (List Int))×(List Int))=>(Option.bind (forR (σ:=(List Int)×(List Int)) (ρ:=Unit) (a.Zay.length:Int) (fun i3 s3=>(Option.bind (Option.bind (ze a.Zay (i3:Int)) fun e8=>(Option.bind (bif e8.own then (Option.bind (zl k2 (i3:Int)) fun k7=>(Option.bind (s1.2.1[k7]?) fun e9=>(bif (e9 == 0) then (Option.bind (zl k1 (i3:Int)) fun k8=>(Option.bind (s3.1[k8]?) fun e10=>some (e10 == (-1)))) else some false))) else some false) fun v3=>(bif v3 then (Option.bind (ZG (i3:Int) 1 s3.1 k1 s3.2 0) fun r4=>some (r4.2,r4.1)) else some (s3.1,s3.2)))) fun (v4:(List Int)×(List Int))=>some (.inl (v4.1,v4.2)))) (s1.1,s1.2.2.2)) (Sum.elim (fun (s3:(List Int)×(List Int))=>(Option.bind (Option.bind (kh s3.2 0) fun r5=>(Option.bind (iterN (σ:=Int×Bool×(List Int)×(List Int)×(List Int)×Int) (ρ:=(List Int)) (fun s4=>(bif s4.2.1 then (Option.bind (zl k3 s4.1) fun k9=>(Option.bind (s1.2.2.1[k9]?) fun e11=>(Option.bind (forR (σ:=(List Int)×(List Int)×(List Int)) (ρ:=Unit) (e11.length:Int) (fun i5 s5=>(Option.bind (ze e11 (i5:Int)) fun e12=>(Option.bind (WE e12 s4.1 s5.2.1 k2 s5.1 k1 a s5.2.2 s4.2.2.2.2.2) fun r6=>some (.inl (r6.2.1,r6.1,r6.2.2))))) (s4.2.2.1,s4.2.2.2.1,s4.2.2.2.2.1)) (Sum.elim (fun (s5:(List Int)×(List Int)×(List Int))=>(Option.bind (kh s5.2.2 s4.2.2.2.2.2) fun r7=>some (.inl (r7.1,r7.2.1,s5.1,s5.2.1,s5.2.2,r7.2.2)))) (fun _=>none))))) else some (.inr s4.2.2.1))) 40 (r5.1,r5.2.1,s3.1,s1.2.1,s3.2,r5.2.2)) (fun (y1:(List Int))=>some y1))) fun (v5:(List Int))=>(Option.bind (eqN k1 v5.length) fun g1=>some v5))) (fun _=>none)))) (fun _=>none)))))) else some []))
theorem zaE (c:Zaa) (a:ZaF):Le (J3 c a) (ZH c a):=by
  unfold J3 ZH
  repeat' (first | with_reducible exact Le.refl _ | with_reducible refine Le.bind ?_ (fun _ => ?_) | with_reducible refine Le.cond _ ?_ ?_ | with_reducible refine Le.forR (fun _ _ => ?_) _ _ | with_reducible refine Le.iter (fun _ => ?_) _ _ | with_reducible refine Le.elim (fun _ => ?_) (fun _ => ?_) _)
noncomputable def zaF (c:Zaa) (a:ZaF):Option (List Bool):=
  (Option.bind (J3 c a) fun r1=>(Option.bind (mkN 1 (r1.length:Int)) fun k1=>(Option.bind (forR (σ:=(List Bool)) (ρ:=Unit) (r1.length:Int) (fun i1 s1=>(Option.bind (ze r1 (i1:Int)) fun e1=>(Option.bind (zl k1 (i1:Int)) fun k2=>(Option.bind (s1[k2]?) fun e2=>some (.inl (s1.set k2 (e1 == (-1)))))))) (List.replicate k1 false)) (Sum.elim (fun (s1:(List Bool))=>(Option.bind (eqN k1 s1.length) fun g1=>some s1)) (fun _=>none)))))
theorem zig (c:Zaa) (a:ZaF):Le (zaF c a) (WF c a):=by
  unfold zaF WF
  repeat' (first | with_reducible exact Le.refl _ | with_reducible exact zaE _ _ | with_reducible refine Le.bind ?_ (fun _ => ?_) | with_reducible refine Le.cond _ ?_ ?_ | with_reducible refine Le.forR (fun _ _ => ?_) _ _ | with_reducible refine Le.iter (fun _ => ?_) _ _ | with_reducible refine Le.elim (fun _ => ?_) (fun _ => ?_) _)
end Go.Proofs.YtmoedieenlaegaaGreatDoor
