/-
  From readings to the data of this program's types.
  Plain laws about loops, searches and elements of lists.
  Plain laws: what a computation returns, and loops that build lists.
  Plain laws: loops over lists, loops that set one place after the other, increasing lists.
  Attractors: the positions from which the others can force a breach in some number of moves; and the queue that finds these numbers.
-/
import Derived.Test.YtlpmnmbebkdocaaGreatDoorTB06
import Derived.Test.YtlpmnmbebkdocaaGreatDoorTB05
open List renaming countP_cons_of_pos → ua, countP_cons_of_neg → ub, getElem?_eq_getElem → uc, take_succ_eq_append_getElem → ud, mem_append → ue, pairwise_cons → ug, length_cons → ui, range_eq_range' → uk, pairwise_append → ul, mem_cons → um, range → un, find?_eq_none → uo, nodup_append → uq, range'_succ → ur, find?_cons → ut, append_nil → uu, mem_range → uv, range' → uw
open Option renaming bind → uz
open Bool renaming not_eq_true' → uh, and_eq_true → uj
open Nat renaming le_refl → ux, zero_le → uy
namespace Go.Proofs.YtlpmnmbebkdocaaGreatDoor
open Go.RowKit
set_option linter.unusedVariables false
def aQ.cN:List eC:=[.int .i64,.int .i64]
structure aQ.Ok (x:aQ):Prop where
 num:dR .i64 x.num
 den:dR .i64 x.den
theorem aQ.ia {row:List IV} (h:bU aQ.cN row):∃ x:aQ,row=aQ.row x∧aQ.Ok x:=by
 obtain ⟨c0,_,rfl,h0,h⟩:=zh h
 obtain ⟨c1,_,rfl,h1,h⟩:=zh h
 obtain rfl:=qV h
 obtain ⟨v0,rfl,k0⟩:=zu h0
 obtain ⟨v1,rfl,k1⟩:=zu h1
 exact ⟨⟨v0,v1⟩,rfl,⟨k0,k1⟩⟩
def bZ.cN:List eC:=[.str,.int .i64,.int .i64,.int .i64,.int .i64]
structure bZ.Ok (x:bZ):Prop where
 name:x.name.size≤reachBytes
 kind:dR .i64 x.kind
 base:dR .i64 x.base
 factor:aQ.Ok x.factor
theorem bZ.ia {row:List IV} (h:bU bZ.cN row):∃ x:bZ,row=bZ.row x∧bZ.Ok x:=by
 obtain ⟨c0,_,rfl,h0,h⟩:=zh h
 obtain ⟨c1,_,rfl,h1,h⟩:=zh h
 obtain ⟨c2,_,rfl,h2,h⟩:=zh h
 obtain ⟨c3,_,rfl,h3,h⟩:=zh h
 obtain ⟨c4,_,rfl,h4,h⟩:=zh h
 obtain rfl:=qV h
 obtain ⟨v0,rfl,k0⟩:=RD h0
 obtain ⟨v1,rfl,k1⟩:=zu h1
 obtain ⟨v2,rfl,k2⟩:=zu h2
 obtain ⟨v3,rfl,k3⟩:=zu h3
 obtain ⟨v4,rfl,k4⟩:=zu h4
 exact ⟨⟨v0,v1,v2,⟨v3,v4⟩⟩,rfl,⟨k0,k1,k2,⟨k3,k4⟩⟩⟩
def aZ.cN:List eC:=[.int .i64,.int .i64,.int .i64,.int .i64,.int .i64,.int .i64,.int .i64]
structure aZ.Ok (x:aZ):Prop where
 kind:dR .i64 x.kind
 bK:dR .i64 x.bK
 bP:dR .i64 x.bP
 to:dR .i64 x.to
 unit:dR .i64 x.unit
 dh:aQ.Ok x.dh
theorem aZ.ia {row:List IV} (h:bU aZ.cN row):∃ x:aZ,row=aZ.row x∧aZ.Ok x:=by
 obtain ⟨c0,_,rfl,h0,h⟩:=zh h
 obtain ⟨c1,_,rfl,h1,h⟩:=zh h
 obtain ⟨c2,_,rfl,h2,h⟩:=zh h
 obtain ⟨c3,_,rfl,h3,h⟩:=zh h
 obtain ⟨c4,_,rfl,h4,h⟩:=zh h
 obtain ⟨c5,_,rfl,h5,h⟩:=zh h
 obtain ⟨c6,_,rfl,h6,h⟩:=zh h
 obtain rfl:=qV h
 obtain ⟨v0,rfl,k0⟩:=zu h0
 obtain ⟨v1,rfl,k1⟩:=zu h1
 obtain ⟨v2,rfl,k2⟩:=zu h2
 obtain ⟨v3,rfl,k3⟩:=zu h3
 obtain ⟨v4,rfl,k4⟩:=zu h4
 obtain ⟨v5,rfl,k5⟩:=zu h5
 obtain ⟨v6,rfl,k6⟩:=zu h6
 exact ⟨⟨v0,v1,v2,v3,v4,⟨v5,v6⟩⟩,rfl,⟨k0,k1,k2,k3,k4,⟨k5,k6⟩⟩⟩
def bl.cN:List eC:=[.int .i64,.int .i64]
structure bl.Ok (x:bl):Prop where
 clause:dR .i64 x.clause
 is:dR .i64 x.is
theorem bl.ia {row:List IV} (h:bU bl.cN row):∃ x:bl,row=bl.row x∧bl.Ok x:=by
 obtain ⟨c0,_,rfl,h0,h⟩:=zh h
 obtain ⟨c1,_,rfl,h1,h⟩:=zh h
 obtain rfl:=qV h
 obtain ⟨v0,rfl,k0⟩:=zu h0
 obtain ⟨v1,rfl,k1⟩:=zu h1
 exact ⟨⟨v0,v1⟩,rfl,⟨k0,k1⟩⟩
def aO.cN:List eC:=[.int .i64,.int .i64,.int .i64,.int .i64,.slice 16 bl.cN,.int .i64,.int .i64,.bool,.bool,.int .i64,.int .i64,.int .i64,.int .i64,.int .i64,.int .i64,.bool]
structure aO.Ok (x:aO):Prop where
 kind:dR .i64 x.kind
 bK:dR .i64 x.bK
 act:dR .i64 x.act
 need:dR .i64 x.need
 start:lD 16 bl.Ok x.start
 after:dR .i64 x.after
 br:dR .i64 x.br
 bg:dR .i64 x.bg
 resume:dR .i64 x.resume
 value:aQ.Ok x.value
 unit:dR .i64 x.unit
 to:dR .i64 x.to
theorem aO.ia {row:List IV} (h:bU aO.cN row):∃ x:aO,row=aO.row x∧aO.Ok x:=by
 obtain ⟨c0,_,rfl,h0,h⟩:=zh h
 obtain ⟨c1,_,rfl,h1,h⟩:=zh h
 obtain ⟨c2,_,rfl,h2,h⟩:=zh h
 obtain ⟨c3,_,rfl,h3,h⟩:=zh h
 obtain ⟨c4,_,rfl,h4,h⟩:=zh h
 obtain ⟨c5,_,rfl,h5,h⟩:=zh h
 obtain ⟨c6,_,rfl,h6,h⟩:=zh h
 obtain ⟨c7,_,rfl,h7,h⟩:=zh h
 obtain ⟨c8,_,rfl,h8,h⟩:=zh h
 obtain ⟨c9,_,rfl,h9,h⟩:=zh h
 obtain ⟨c10,_,rfl,h10,h⟩:=zh h
 obtain ⟨c11,_,rfl,h11,h⟩:=zh h
 obtain ⟨c12,_,rfl,h12,h⟩:=zh h
 obtain ⟨c13,_,rfl,DW,h⟩:=zh h
 obtain ⟨c14,_,rfl,RG,h⟩:=zh h
 obtain ⟨c15,_,rfl,RJ,h⟩:=zh h
 obtain rfl:=qV h
 obtain ⟨v0,rfl,k0⟩:=zu h0
 obtain ⟨v1,rfl,k1⟩:=zu h1
 obtain ⟨v2,rfl,k2⟩:=zu h2
 obtain ⟨v3,rfl,k3⟩:=zu h3
 obtain ⟨v4,rfl,k4⟩:=qp @bl.ia h4
 obtain ⟨v5,rfl,k5⟩:=zu h5
 obtain ⟨v6,rfl,k6⟩:=zu h6
 obtain ⟨v7,rfl⟩:=wd h7
 obtain ⟨v8,rfl⟩:=wd h8
 obtain ⟨v9,rfl,k9⟩:=zu h9
 obtain ⟨v10,rfl,RK⟩:=zu h10
 obtain ⟨v11,rfl,RL⟩:=zu h11
 obtain ⟨v12,rfl,RM⟩:=zu h12
 obtain ⟨RN,rfl,RO⟩:=zu DW
 obtain ⟨RP,rfl,RQ⟩:=zu RG
 obtain ⟨RS,rfl⟩:=wd RJ
 exact ⟨⟨v0,v1,v2,v3,v4,v5,v6,v7,v8,v9,v10,⟨v11,v12⟩,RN,RP,RS⟩,rfl,⟨k0,k1,k2,k3,k4,k5,k6,k9,RK,⟨RL,RM⟩,RO,RQ⟩⟩
def ax.cN:List eC:=[.int .i64,.slice 8 [.int .i64],.slice 48 bZ.cN,.slice 56 aZ.cN,.slice 136 aO.cN,.int .i64,.slice 8 [.int .i64]]
structure ax.Ok (x:ax):Prop where
 aW:dR .i64 x.aW
 aE:lD 8 (fun x:Int=>dR .i64 x) x.aE
 bE:lD 48 bZ.Ok x.bE
 aK:lD 56 aZ.Ok x.aK
 ay:lD 136 aO.Ok x.ay
 aX:dR .i64 x.aX
 off:lD 8 (fun x:Int=>dR .i64 x) x.off
theorem ax.ia {row:List IV} (h:bU ax.cN row):∃ x:ax,row=ax.row x∧ax.Ok x:=by
 obtain ⟨c0,_,rfl,h0,h⟩:=zh h
 obtain ⟨c1,_,rfl,h1,h⟩:=zh h
 obtain ⟨c2,_,rfl,h2,h⟩:=zh h
 obtain ⟨c3,_,rfl,h3,h⟩:=zh h
 obtain ⟨c4,_,rfl,h4,h⟩:=zh h
 obtain ⟨c5,_,rfl,h5,h⟩:=zh h
 obtain ⟨c6,_,rfl,h6,h⟩:=zh h
 obtain rfl:=qV h
 obtain ⟨v0,rfl,k0⟩:=zu h0
 obtain ⟨v1,rfl,k1⟩:=qp yy h1
 obtain ⟨v2,rfl,k2⟩:=qp @bZ.ia h2
 obtain ⟨v3,rfl,k3⟩:=qp @aZ.ia h3
 obtain ⟨v4,rfl,k4⟩:=qp @aO.ia h4
 obtain ⟨v5,rfl,k5⟩:=zu h5
 obtain ⟨v6,rfl,k6⟩:=qp yy h6
 exact ⟨⟨v0,v1,v2,v3,v4,v5,v6⟩,rfl,⟨k0,k1,k2,k3,k4,k5,k6⟩⟩
def aj.cN:List eC:=[.int .i64,.int .i64,.int .i64,.int .i64,.bool]
structure aj.Ok (x:aj):Prop where
 aR:dR .i64 x.aR
 left:dR .i64 x.left
 got:dR .i64 x.got
 bz:dR .i64 x.bz
theorem aj.ia {row:List IV} (h:bU aj.cN row):∃ x:aj,row=aj.row x∧aj.Ok x:=by
 obtain ⟨c0,_,rfl,h0,h⟩:=zh h
 obtain ⟨c1,_,rfl,h1,h⟩:=zh h
 obtain ⟨c2,_,rfl,h2,h⟩:=zh h
 obtain ⟨c3,_,rfl,h3,h⟩:=zh h
 obtain ⟨c4,_,rfl,h4,h⟩:=zh h
 obtain rfl:=qV h
 obtain ⟨v0,rfl,k0⟩:=zu h0
 obtain ⟨v1,rfl,k1⟩:=zu h1
 obtain ⟨v2,rfl,k2⟩:=zu h2
 obtain ⟨v3,rfl,k3⟩:=zu h3
 obtain ⟨v4,rfl⟩:=wd h4
 exact ⟨⟨v0,v1,v2,v3,v4⟩,rfl,⟨k0,k1,k2,k3⟩⟩
def aG.cN:List eC:=[.int .i64,.slice 8 [.int .i64],.slice 1 [.bool],.slice 40 aj.cN]
structure aG.Ok (x:aG):Prop where
 day:dR .i64 x.day
 aE:lD 8 (fun x:Int=>dR .i64 x) x.aE
 used:lD 1 (fun x:Bool=>True) x.used
 aI:lD 40 aj.Ok x.aI
theorem aG.ia {row:List IV} (h:bU aG.cN row):∃ x:aG,row=aG.row x∧aG.Ok x:=by
 obtain ⟨c0,_,rfl,h0,h⟩:=zh h
 obtain ⟨c1,_,rfl,h1,h⟩:=zh h
 obtain ⟨c2,_,rfl,h2,h⟩:=zh h
 obtain ⟨c3,_,rfl,h3,h⟩:=zh h
 obtain rfl:=qV h
 obtain ⟨v0,rfl,k0⟩:=zu h0
 obtain ⟨v1,rfl,k1⟩:=qp yy h1
 obtain ⟨v2,rfl,k2⟩:=qp Yi h2
 obtain ⟨v3,rfl,k3⟩:=qp @aj.ia h3
 exact ⟨⟨v0,v1,v2,v3⟩,rfl,⟨k0,k1,k2,k3⟩⟩
def aH.cN:List eC:=[.int .i64,.slice 8 [.int .i64],.slice 1 [.bool],.slice 40 aj.cN,.bool]
structure aH.Ok (x:aH):Prop where
 state:aG.Ok x.state
theorem aH.ia {row:List IV} (h:bU aH.cN row):∃ x:aH,row=aH.row x∧aH.Ok x:=by
 obtain ⟨c0,_,rfl,h0,h⟩:=zh h
 obtain ⟨c1,_,rfl,h1,h⟩:=zh h
 obtain ⟨c2,_,rfl,h2,h⟩:=zh h
 obtain ⟨c3,_,rfl,h3,h⟩:=zh h
 obtain ⟨c4,_,rfl,h4,h⟩:=zh h
 obtain rfl:=qV h
 obtain ⟨v0,rfl,k0⟩:=zu h0
 obtain ⟨v1,rfl,k1⟩:=qp yy h1
 obtain ⟨v2,rfl,k2⟩:=qp Yi h2
 obtain ⟨v3,rfl,k3⟩:=qp @aj.ia h3
 obtain ⟨v4,rfl⟩:=wd h4
 exact ⟨⟨⟨v0,v1,v2,v3⟩,v4⟩,rfl,⟨⟨k0,k1,k2,k3⟩⟩⟩
def bh.cN:List eC:=[.int .i64,.int .i64]
structure bh.Ok (x:bh):Prop where
 step:dR .i64 x.step
 to:dR .i64 x.to
theorem bh.ia {row:List IV} (h:bU bh.cN row):∃ x:bh,row=bh.row x∧bh.Ok x:=by
 obtain ⟨c0,_,rfl,h0,h⟩:=zh h
 obtain ⟨c1,_,rfl,h1,h⟩:=zh h
 obtain rfl:=qV h
 obtain ⟨v0,rfl,k0⟩:=zu h0
 obtain ⟨v1,rfl,k1⟩:=zu h1
 exact ⟨⟨v0,v1⟩,rfl,⟨k0,k1⟩⟩
def bT.cN:List eC:=[.int .i64,.slice 88 aH.cN,.slice 24 [.slice 16 bh.cN]]
structure bT.Ok (x:bT):Prop where
 zw:dR .i64 x.zw
 aU:lD 88 aH.Ok x.aU
 bp:lD 24 (fun x:List bh=>lD 16 bh.Ok x) x.bp
theorem bT.ia {row:List IV} (h:bU bT.cN row):∃ x:bT,row=bT.row x∧bT.Ok x:=by
 obtain ⟨c0,_,rfl,h0,h⟩:=zh h
 obtain ⟨c1,_,rfl,h1,h⟩:=zh h
 obtain ⟨c2,_,rfl,h2,h⟩:=zh h
 obtain rfl:=qV h
 obtain ⟨v0,rfl,k0⟩:=zu h0
 obtain ⟨v1,rfl,k1⟩:=qp @aH.ia h1
 obtain ⟨v2,rfl,k2⟩:=qp (RF (bL:=16) @bh.ia) h2
 exact ⟨⟨v0,v1,v2⟩,rfl,⟨k0,k1,k2⟩⟩
def eF.cN:List eC:=[.bool,.int .i64,.int .i64]
structure eF.Ok (x:eF):Prop where
 move:dR .i64 x.move
 wait:dR .i64 x.wait
theorem eF.ia {row:List IV} (h:bU eF.cN row):∃ x:eF,row=eF.row x∧eF.Ok x:=by
 obtain ⟨c0,_,rfl,h0,h⟩:=zh h
 obtain ⟨c1,_,rfl,h1,h⟩:=zh h
 obtain ⟨c2,_,rfl,h2,h⟩:=zh h
 obtain rfl:=qV h
 obtain ⟨v0,rfl⟩:=wd h0
 obtain ⟨v1,rfl,k1⟩:=zu h1
 obtain ⟨v2,rfl,k2⟩:=zu h2
 exact ⟨⟨v0,v1,v2⟩,rfl,⟨k1,k2⟩⟩
def bF.cN:List eC:=[.int .i64,.int .i64,.int .i64,.int .i64,.slice 8 [.int .i64]]
structure bF.Ok (x:bF):Prop where
 kind:dR .i64 x.kind
 zw:dR .i64 x.zw
 clause:dR .i64 x.clause
 other:dR .i64 x.other
 trace:lD 8 (fun x:Int=>dR .i64 x) x.trace
theorem bF.ia {row:List IV} (h:bU bF.cN row):∃ x:bF,row=bF.row x∧bF.Ok x:=by
 obtain ⟨c0,_,rfl,h0,h⟩:=zh h
 obtain ⟨c1,_,rfl,h1,h⟩:=zh h
 obtain ⟨c2,_,rfl,h2,h⟩:=zh h
 obtain ⟨c3,_,rfl,h3,h⟩:=zh h
 obtain ⟨c4,_,rfl,h4,h⟩:=zh h
 obtain rfl:=qV h
 obtain ⟨v0,rfl,k0⟩:=zu h0
 obtain ⟨v1,rfl,k1⟩:=zu h1
 obtain ⟨v2,rfl,k2⟩:=zu h2
 obtain ⟨v3,rfl,k3⟩:=zu h3
 obtain ⟨v4,rfl,k4⟩:=qp yy h4
 exact ⟨⟨v0,v1,v2,v3,v4⟩,rfl,⟨k0,k1,k2,k3,k4⟩⟩
def bO.cN:List eC:=[.int .i64,.int .i64]
structure bO.Ok (x:bO):Prop where
 from_:dR .i64 x.from_
 step:dR .i64 x.step
theorem bO.ia {row:List IV} (h:bU bO.cN row):∃ x:bO,row=bO.row x∧bO.Ok x:=by
 obtain ⟨c0,_,rfl,h0,h⟩:=zh h
 obtain ⟨c1,_,rfl,h1,h⟩:=zh h
 obtain rfl:=qV h
 obtain ⟨v0,rfl,k0⟩:=zu h0
 obtain ⟨v1,rfl,k1⟩:=zu h1
 exact ⟨⟨v0,v1⟩,rfl,⟨k0,k1⟩⟩
end Go.Proofs.YtlpmnmbebkdocaaGreatDoor
namespace Go.Proofs.YtlpmnmbebkdocaaGreatDoor
set_option linter.unusedSimpArgs false
set_option linter.unusedVariables false
def JD {σ ρ:Type} (A:σ→Prop) (Q:ρ→Prop):σ ⊕ ρ→Prop
 | .inl s=>A s
 | .inr r=>Q r
theorem XB {σ ρ:Type} {f:Nat→σ→Option (σ ⊕ ρ)} {Inv:Nat→σ→Prop} {Q:ρ→Prop} (n:Nat)
  (step:∀ (i:Nat) (s:σ),i < n→Inv i s→∃ o,f i s=some o∧JD (Inv (i+1)) Q o) :
  ∀ (k i:Nat) (s:σ),i+k=n→Inv i s→∃ o,bG f i k s=some o∧JD (Inv n) Q o
 | 0,i,s,h,hi=>⟨.inl s,rfl,by obtain rfl:i=n:=by omega
                              exact hi⟩
 | k+1,i,s,h,hi=>by
  obtain ⟨o,h1,h2⟩:=step i s (by omega) hi
  simp only [bG,h1]
  cases o with
  | inl s'=>exact XB n step k (i+1) s' (by omega) h2
  | inr r=>exact ⟨.inr r,rfl,h2⟩
theorem Io {σ ρ:Type} {f:Nat→σ→Option (σ ⊕ ρ)} {n:Int} {s0:σ} (Inv:Nat→σ→Prop) (Q:ρ→Prop) (hn:n < 4611686018427387904)
  (h0:Inv 0 s0) (step:∀ (i:Nat) (s:σ),(i:Int) < n→Inv i s→∃ o,f i s=some o∧JD (Inv (i+1)) Q o) :
  ∃ o,aD n f s0=some o∧JD (Inv n.toNat) Q o:=by
 rw [ZE hn]
 exact XB n.toNat (fun i s hi=>step i s (by omega)) n.toNat 0 s0 (by omega) h0
theorem wB {σ ρ:Type} {f:Nat→σ→Option (σ ⊕ ρ)} {n:Nat} {s0:σ} (Inv:Nat→σ→Prop) (Q:ρ→Prop) (hn:n < 4611686018427387904)
  (h0:Inv 0 s0) (step:∀ (i:Nat) (s:σ),i < n→Inv i s→∃ o,f i s=some o∧JD (Inv (i+1)) Q o) :
  ∃ o,aD (n:Int) f s0=some o∧JD (Inv n) Q o:=by
 have:=Io (n:=(n:Int)) Inv Q (by omega) h0 (fun i s hi=>step i s (by omega))
 simpa using this
theorem Ip {σ ρ:Type} {f:σ→Option (σ ⊕ ρ)} (Inv:σ→Prop) (Q:ρ→Prop) (m:σ→Nat)
  (step:∀ s,Inv s→∃ o,f s=some o∧JD (fun s'=>Inv s'∧m s' < m s) Q o):∀ s0,Inv s0→∃ r,iter f s0=some r∧Q r:=by
 have key:∀ (k:Nat) (s:σ),m s < k→Inv s→∃ r,iter f s=some r∧Q r:=by
  intro k
  induction k with
  | zero=>intro s h;omega
  | succ k ih=>
   intro s hk hs
   obtain ⟨o,h1,h2⟩:=step s hs
   rw [OG,h1]
   cases o with
   | inl s'=>exact ih s' (by have:=h2.2;omega) h2.1
   | inr r=>exact ⟨r,rfl,h2⟩
 exact fun s0 h=>key _ s0 (Nat.lt_succ_self _) h
theorem JZ {ρ:Type} {f:Nat→Unit→Option (Unit ⊕ ρ)} {p:Nat→Bool} {g:Nat→ρ}:∀ (k i:Nat),(∀ j,i≤j→j < i+k→f j ()=some (bif p j then .inl () else .inr (g j))) →
  bG f i k ()=some (match (uw i k).find? (fun j=>!p j) with | none=>.inl () | some j=>.inr (g j))
 | 0,i,h=>rfl
 | k+1,i,h=>by
  simp only [bG,h i (ux _) (by omega),ur,ut]
  cases hp:p i with
  | true=>
   simp only [bW,Bool.not_true]
   exact JZ k (i+1) fun j h1 h2=>h j (by omega) (by omega)
  | false=>simp
theorem wC {ρ:Type} {f:Nat→Unit→Option (Unit ⊕ ρ)} {n:Nat} (p:Nat→Bool) (g:Nat→ρ) (hn:n < 4611686018427387904) (h:∀ j,j < n→f j ()=some (bif p j then .inl () else .inr (g j))) :
  aD (n:Int) f ()=some (match (un n).find? (fun j=>!p j) with | none=>.inl () | some j=>.inr (g j)):=by
 rw [ZE (by omega)]
 have:=JZ (f:=f) (p:=p) (g:=g) n 0 (fun j _ h2=>h j (by omega))
 simpa [uk] using this
theorem kA {n:Nat} {p:Nat→Bool} (h:(un n).find? (fun j=>!p j)=none):∀ j,j < n→p j=true:=fun j hj=>by
 have:=uo.1 h j (uv.2 hj)
 simpa using this
theorem RT {n:Nat} {p:Nat→Bool} (h:∀ j,j < n→p j=true):(un n).find? (fun j=>!p j)=none:=
 uo.2 fun j hj=>by simp [h j (uv.1 hj)]
theorem W2 {q:Nat→Bool}:∀ (k a i:Nat),(uw a k).find? q=some i→i < a+k∧a≤i∧q i=true∧∀ j,a≤j→j < i→q j=false
 | 0,a,i,h=>by simp at h
 | k+1,a,i,h=>by
  rw [ur,ut] at h
  split at h
  ·rename_i hq
   cases h
   exact ⟨by omega,ux _,hq,fun j h1 h2=>by omega⟩
  ·rename_i hq
   obtain ⟨h1,h2,h3,h4⟩:=W2 k (a+1) i h
   exact ⟨by omega,by omega,h3,fun j h5 h6=>by
    rcases Nat.eq_or_lt_of_le h5 with h7 | h7
    ·subst h7;exact hq
    ·exact h4 j (by omega) h6⟩
theorem kB {n i:Nat} {p:Nat→Bool} (h:(un n).find? (fun j=>!p j)=some i):i < n∧p i=false∧∀ j,j < i→p j=true:=by
 rw [uk] at h
 obtain ⟨h1,_,h2,h3⟩:=W2 n 0 i h
 exact ⟨by omega,by simpa using h2,fun j hj=>by simpa using h3 j (uy _) hj⟩
theorem zs {α:Type} (b:Bool) (x y:α):(bif b then some x else some y)=some (bif b then x else y):=by cases b<;>rfl
theorem zy {α:Type} {l:List α} {i:Nat} {e:α} (h:l[i]?=some e):ze l (i:Int)=some e:=by
 unfold ze;rw [if_pos (by omega)];simpa using h
theorem zN {α:Type} (l:List α) (i:Nat):ze l (i:Int)=l[i]?:=by
 unfold ze;rw [if_pos (by omega)];simp
theorem qW {α:Type} {l:List α} {n:Int} (h0:0≤n) (h1:n < l.length):∃ h:n.toNat < l.length,ze l n=some l[n.toNat]:=by
 have h:n.toNat < l.length:=by omega
 exact ⟨h,by unfold ze;rw [if_pos h0];exact uc h⟩
theorem Iq {α:Type} {l:List α} {n:Int} (h:¬ (0≤n∧n < l.length)):ze l n=none:=by
 unfold ze
 split
 ·exact List.getElem?_eq_none (by omega)
 ·rfl
theorem Ir {len:Nat} {n:Int} (h0:0≤n) (h1:n < len):zi len n=some n.toNat:=by unfold zi;rw [if_pos ⟨h0,h1⟩]
theorem zM {len i:Nat} (h:i < len):zi len (i:Int)=some i:=by unfold zi;rw [if_pos ⟨by omega,by omega⟩];simp
def aq {α:Type} (x:Option α) (Q:α→Prop):Prop:=∃ r,x=some r∧Q r
theorem aq.some {α:Type} {a:α} {Q:α→Prop} (h:Q a):aq (Option.some a) Q:=⟨a,rfl,h⟩
theorem aq.bind {α β:Type} {x:Option α} {f:α→Option β} {P:α→Prop} {Q:β→Prop} (hx:aq x P) (hf:∀ v,P v→aq (f v) Q):aq (x.bind f) Q:=by
 obtain ⟨v,rfl,hv⟩:=hx
 exact hf v hv
theorem aq.az {α β:Type} {x:Option α} {f:α→Option β} {v:α} {Q:β→Prop} (hx:x=Option.some v) (hf:aq (f v) Q):aq (x.bind f) Q:=by
 subst hx;exact hf
theorem aq.ite {α:Type} {b:Bool} {x y:Option α} {Q:α→Prop} (h1:b=true→aq x Q) (h2:b=false→aq y Q):aq (bif b then x else y) Q:=by
 cases b
 ·exact h2 rfl
 ·exact h1 rfl
theorem aq.mono {α:Type} {x:Option α} {P Q:α→Prop} (h:aq x P) (hq:∀ r,P r→Q r):aq x Q:=by
 obtain ⟨r,h1,h2⟩:=h;exact ⟨r,h1,hq r h2⟩
theorem aq.eq {α:Type} {x:Option α} {a:α} (h:aq x (· = a)):x=Option.some a:=by obtain ⟨r,h1,rfl⟩:=h;exact h1
theorem aq.of {α:Type} {x:Option α} {a:α} (h:x=Option.some a):aq x (· = a):=⟨a,h,rfl⟩
theorem aq.dP {σ ρ:Type} {f:Nat→σ→Option (σ ⊕ ρ)} {n:Nat} {s0:σ} {Q:σ ⊕ ρ→Prop} (Inv:Nat→σ→Prop) (hn:n < 4611686018427387904) (h0:Inv 0 s0)
  (step:∀ (i:Nat) (s:σ),i < n→Inv i s→aq (f i s) (JD (Inv (i+1)) fun r=>Q (.inr r))) (hQ:∀ s,Inv n s→Q (.inl s)):aq (aD (n:Int) f s0) Q:=by
 obtain ⟨o,h1,h2⟩:=wB (n:=n) (s0:=s0) (f:=f) Inv (fun r=>Q (.inr r)) hn h0 step
 refine ⟨o,h1,?_⟩
 cases o with
 | inl s=>exact hQ s h2
 | inr r=>exact h2
theorem aq.iter {σ ρ:Type} {f:σ→Option (σ ⊕ ρ)} {s0:σ} {Q:ρ→Prop} (Inv:σ→Prop) (m:σ→Nat) (h0:Inv s0)
 (step:∀ s,Inv s→aq (f s) (JD (fun s'=>Inv s'∧m s' < m s) Q)):aq (Go.Proofs.YtlpmnmbebkdocaaGreatDoor.iter f s0) Q:=Ip (f:=f) Inv Q m step s0 h0
theorem aq.idx {α:Type} {l:List α} {n:Int} {Q:α→Prop} (h0:0≤n) (h1:n < l.length) (h:∀ hi:n.toNat < l.length,Q l[n.toNat]):aq (ze l n) Q:=by
 obtain ⟨hi,e⟩:=qW h0 h1
 exact ⟨_,e,h hi⟩
theorem W3 {σ ρ α β:Type} {f:Nat→σ→Option (σ ⊕ ρ)} (l:List α) (g:α→β) (st:List β→σ) (h:∀ (i:Nat) (hi:i < l.length),f i (st ((l.take i).map g))=some (.inl (st ((l.take i).map g++[g l[i]])))) :
  ∀ (k i:Nat),i+k=l.length→bG f i k (st ((l.take i).map g))=some (.inl (st (l.map g)))
 | 0,i,hk=>by simp only [bG];rw [List.take_of_length_le (by omega)]
 | k+1,i,hk=>by
  have hi:i < l.length:=by omega
  have e:(l.take (i+1)).map g=(l.take i).map g++[g l[i]]:=by rw [ud hi,List.map_append];rfl
  simp only [bG,h i hi]
  rw [←e]
  exact W3 l g st h k (i+1) (by omega)
theorem RU {σ ρ α β:Type} {f:Nat→σ→Option (σ ⊕ ρ)} (l:List α) (g:α→β) (st:List β→σ) (hl:l.length < 4611686018427387904) (h:∀ (i:Nat) (hi:i < l.length),f i (st ((l.take i).map g))=some (.inl (st ((l.take i).map g++[g l[i]])))) {s0:σ} (h0:s0=st []) :
  aD (l.length:Int) f s0=some (.inl (st (l.map g))):=by
 rw [ZE (by omega),h0]
 have:=W3 l g st h l.length 0 (by omega)
 simpa using this
theorem xT {α:Type} {bL:Nat} {l m:List α} (h:(l.length+m.length)*bL≤140737488355328):zJ bL l m=some (l++m):=by unfold zJ;rw [if_pos h]
def tW {α σ ρ:Type} (F:α→σ→Option (σ ⊕ ρ)):List α→σ→Option (σ ⊕ ρ)
 | [],s=>some (.inl s)
 | x::r,s=>match F x s with
  | none=>none
  | some (.inr y)=>some (.inr y)
  | some (.inl s')=>tW F r s'
theorem XC {α σ ρ:Type} {f:Nat→σ→Option (σ ⊕ ρ)} {F:α→σ→Option (σ ⊕ ρ)}:∀ (l:List α) (i:Nat) (s:σ),(∀ (j:Nat) (hj:j < l.length) (s:σ),f (i+j) s=F l[j] s)→bG f i l.length s=tW F l s
 | [],i,s,h=>rfl
 | x::r,i,s,h=>by
  have h0:=h 0 (by simp) s
  simp only [Nat.add_zero,List.getElem_cons_zero] at h0
  simp only [ui,bG,tW,h0]
  have ih:∀ s',bG f (i+1) r.length s'=tW F r s':=fun s'=>XC r (i+1) s' (f:=f) (F:=F) fun j hj s=>by
   have:=h (j+1) (by simpa using hj) s
   simp only [List.getElem_cons_succ] at this
   rw [←this];congr 1;omega
  cases F x s with
  | none=>rfl
  | some o=>
   cases o with
   | inl s'=>exact ih s'
   | inr y=>rfl
theorem RW {α σ ρ:Type} {f:Nat→σ→Option (σ ⊕ ρ)} {F:α→σ→Option (σ ⊕ ρ)} (l:List α) (hl:l.length < 4611686018427387904) (h:∀ (j:Nat) (hj:j < l.length) (s:σ),f j s=F l[j] s) (s:σ):aD (l.length:Int) f s=tW F l s:=by
 rw [ZE (by omega)]
 have:=XC l 0 s (f:=f) (F:=F) (fun j hj s=>by rw [Nat.zero_add];exact h j hj s)
 simpa using this
theorem RX {α β:Type} {g:α→Option β} {l:List α} {i:Nat} (hi:i < l.length) {ks:List β} (h:aL g (l.take i)=some ks):aL g (l.take (i+1))=(g l[i]).map fun b=>ks++[b]:=by
 have app:∀ (a b:List α),aL g (a++b)=(aL g a).bind fun x=>(aL g b).map fun y=>x++y:=by
  intro a
  induction a with
  | nil=>intro b;simp [aL]
  | cons x a ih=>
   intro b
   simp only [List.cons_append,aL,ih]
   cases g x with
   | none=>rfl
   | some y=>
    cases aL g a with
    | none=>rfl
    | some ys=>cases aL g b<;>rfl
 rw [ud hi,app,h]
 simp only [aV,aL]
 cases g l[i]<;>rfl
theorem jT {α β:Type} {g:α→Option β}:∀ {l:List α} {ks:List β},aL g l=some ks→ks.length=l.length
 | [],ks,h=>by cases h;rfl
 | x::l,ks,h=>by
  simp only [aL] at h
  split at h
  ·split at h
   ·rename_i bs hb;cases h;simp [jT hb]
   ·cases h
  ·cases h
theorem yz {α β:Type} {g:α→Option β}:∀ {l:List α} {ks:List β},aL g l=some ks→∀ (i:Nat) (x:α),l[i]?=some x→∃ b,g x=some b∧ks[i]?=some b
 | [],ks,h,i,x,hi=>by simp at hi
 | y::l,ks,h,i,x,hi=>by
  simp only [aL] at h
  split at h
  ·rename_i b hb
   split at h
   ·rename_i bs rU
    cases h
    cases i with
    | zero=>simp at hi;subst hi;exact ⟨b,hb,rfl⟩
    | succ i=>exact yz rU i x (by simpa using hi)
   ·cases h
  ·cases h
theorem Qi {α β:Type} {g:α→Option β}:∀ {l:List α},(∀ x∈l,∃ b,g x=some b)→∃ ks,aL g l=some ks
 | [],_=>⟨[],rfl⟩
 | x::l,h=>by
  obtain ⟨b,hb⟩:=h x (by simp)
  obtain ⟨ks,hk⟩:=Qi (l:=l) (fun y hy=>h y (by simp [hy]))
  exact ⟨b::ks,by simp only [aL,hb,hk]⟩
theorem Kq {α β:Type} {g:α→Option β} {l:List α} {i:Nat} (h:aL g (l.take i)=none):aL g l=none:=by
 cases hl:aL g l with
 | none=>rfl
 | some ks=>
  obtain ⟨ks',hk⟩:=Qi (g:=g) (l:=l.take i) (fun x hx=>by
   obtain ⟨j,hj,e⟩:=List.getElem_of_mem (List.mem_of_mem_take hx)
   obtain ⟨b,hb,_⟩:=yz hl j x (by rw [←e];exact uc hj)
   exact ⟨b,hb⟩)
  rw [hk] at h;cases h
theorem Is {α β ρ:Type} {f:Nat→List β→Option (List β ⊕ ρ)} (l:List α) (g:α→Option β) (s0:List β) (u:ρ) (hlen:s0.length=l.length) (hl:l.length < 4611686018427387904)
  (h:∀ (i:Nat) (hi:i < l.length) (ks:List β),ks.length=i→f i (ks++s0.drop i)=some (match g l[i] with | some b=>.inl ((ks++s0.drop i).set i b) | none=>.inr u)) :
  aD (l.length:Int) f s0=some (match aL g l with | some ks=>.inl ks | none=>.inr u):=by
 obtain ⟨o,h1,h2⟩:=wB (n:=l.length) (s0:=s0) (f:=f) (fun i s=>∃ ks,aL g (l.take i)=some ks∧s=ks++s0.drop i) (fun r=>r=u∧aL g l=none) hl ⟨[],rfl,rfl⟩ (fun i s hi hI=>by
  obtain ⟨ks,hk,rfl⟩:=hI
  have fA:ks.length=i:=by rw [jT hk,List.length_take];omega
  have e:=RX hi hk
  rw [h i hi ks fA]
  cases hg:g l[i] with
  | none=>
   rw [hg] at e
   exact ⟨.inr u,rfl,rfl,Kq e⟩
  | some b=>
   rw [hg] at e
   refine ⟨_,rfl,ks++[b],e,?_⟩
   have hd:i < s0.length:=by omega
   rw [List.drop_eq_getElem_cons hd,List.set_append_right _ _ (by omega),fA,Nat.sub_self,List.set_cons_zero]
   simp)
 rw [h1]
 cases o with
 | inl s=>
  obtain ⟨ks,hk,rfl⟩:=h2
  rw [List.take_length] at hk
  rw [hk,List.drop_eq_nil_of_le (by omega),uu]
 | inr r=>
  obtain ⟨rfl,hn⟩:=h2
  rw [hn]
def wJ (n:Int):Int→List Int→Bool
 | _,[]=>true
 | a,x::r=>(!decide (x≤a) && !decide (n≤x))&&wJ n x r
def D6:Int→List Int→Int
 | a,[]=>a
 | _,x::r=>D6 x r
theorem D7 (n:Int) (l:List Int) (hl:l.length < 4611686018427387904) (a:Int):aD (σ:=Int) (ρ:=Unit) (l.length:Int) (fun i1 s1=>(uz (ze l (i1:Int)) fun e1=>(uz (bif decide (e1≤s1) then some true else some (decide (n≤e1))) fun v1=>(bif v1 then some (.inr ()) else some (.inl e1))))) a=some (bif wJ n a l then .inl (D6 a l) else .inr ()):=by
 rw [RW (F:=fun x s=>bif (decide (x≤s)||decide (n≤x)) then some (.inr ()) else some (.inl x)) l hl (fun j hj s=>by
  simp only [zN,uc hj,aV,zs,Bool.cond_true_left])]
 clear hl
 induction l generalizing a with
 | nil=>rfl
 | cons x r ih=>
  simp only [tW,wJ,D6]
  cases decide (x≤a)<;>cases decide (n≤x)<;>simp [ih]
theorem kC {n:Int}:∀ {a:Int} {l:List Int},wJ n a l=true→(∀ x∈l,a < x∧x < n)∧l.Pairwise (· < ·)
 | a,[],_=>⟨fun x hx=>(by cases hx),List.Pairwise.nil⟩
 | a,x::r,h=>by
  simp only [wJ,uj,uh,decide_eq_false_iff_not] at h
  obtain ⟨⟨h1,h2⟩,h3⟩:=h
  obtain ⟨h4,h5⟩:=kC h3
  refine ⟨fun y hy => ?_,ug.2 ⟨fun y hy=>(h4 y hy).1,h5⟩⟩
  rcases um.1 hy with rfl | hy
  ·exact ⟨by omega,by omega⟩
  ·have:=h4 y hy;exact ⟨by omega,this.2⟩
theorem It {n:Int}:∀ {a:Int} {l:List Int},(∀ x∈l,a < x∧x < n)→l.Pairwise (· < ·)→wJ n a l=true
 | a,[],_,_=>rfl
 | a,x::r,h,hp=>by
  have h1:=h x (by simp)
  obtain ⟨h2,h3⟩:=ug.1 hp
  simp only [wJ,uj,uh,decide_eq_false_iff_not]
  exact ⟨⟨by omega,by omega⟩,It (fun y hy=>⟨h2 y hy,(h y (by simp [hy])).2⟩) h3⟩
theorem ZI {n:Int}:∀ {a:Int} {l:List Int},wJ n a l=true→(l.length:Int)≤0∨a+l.length < n
 | a,[],_=>.inl (by simp)
 | a,x::r,h=>by
  simp only [wJ,uj,uh,decide_eq_false_iff_not] at h
  obtain ⟨⟨h1,h2⟩,h3⟩:=h
  rcases ZI h3 with h4 | h4
  ·simp only [ui];omega
  ·simp only [ui];omega
theorem RY {l:List Int} (h:l.Pairwise (· < ·)):l.Nodup:=h.imp fun h=>by omega
structure Gm where
 n:Nat
 own:Nat→Bool
 lost:Nat→Bool
 succ:Nat→List Nat
def Attr (G:Gm):Nat→Nat→Prop
 | 0,i=>G.lost i=true
 | k+1,i=>G.lost i=true∨(G.own i=true∧∀ t∈G.succ i,Attr G k t)∨(G.own i=false∧∃ t∈G.succ i,Attr G k t)
theorem Attr.zero {G:Gm} {i:Nat} (h:G.lost i=true):∀ k,Attr G k i
 | 0=>h
 | k+1=>.inl h
theorem Attr.gQ {G:Gm}:∀ {k i:Nat},Attr G k i→Attr G (k+1) i
 | 0,i,h=>.inl h
 | k+1,i,h=>by
  rcases h with h | ⟨h1,h2⟩ | ⟨h1,t,h2,h3⟩
  ·exact .inl h
  ·exact .inr (.inl ⟨h1,fun t ht=>(h2 t ht).gQ⟩)
  ·exact .inr (.inr ⟨h1,t,h2,h3.gQ⟩)
theorem Attr.mono {G:Gm} {k k' i:Nat} (hk:k≤k') (h:Attr G k i):Attr G k' i:=by
 induction hk with
 | refl=>exact h
 | step _ ih=>exact ih.gQ
def XD (G:Gm) (r:Nat→Int):Prop:=∀ i,i < G.n → -1≤r i∧∀ k:Nat,(r i ≠ -1∧r i≤k)↔Attr G k i
structure dL (G:Gm) (r:Nat→Int):Prop where
 ge:∀ i,i < G.n → -1≤r i
 zero:∀ i,i < G.n→(G.lost i=true↔r i=0)
 mO:∀ i,i < G.n→G.own i=true→G.lost i=false→r i ≠ -1→(∀ t∈G.succ i,r t ≠ -1∧r t+1≤r i)∧((G.succ i=[]∧r i=1)∨∃ t∈G.succ i,r i=r t+1)
 nL:∀ i,i < G.n→G.own i=true→G.lost i=false→r i = -1→∃ t∈G.succ i,r t = -1
 oG:∀ i,i < G.n→G.own i=false→G.lost i=false→r i ≠ -1→(∃ t∈G.succ i,r t ≠ -1∧r i=r t+1)∧∀ t∈G.succ i,r t ≠ -1→r i≤r t+1
 iV:∀ i,i < G.n→G.own i=false→G.lost i=false→r i = -1→∀ t∈G.succ i,r t = -1
theorem dL.to {G:Gm} {r:Nat→Int} (dY:∀ i,i < G.n→∀ t∈G.succ i,t < G.n) (h:dL G r):∀ (k i:Nat),i < G.n→r i ≠ -1→r i≤k→Attr G k i
 | 0,i,hi,h1,h2=>(h.zero i hi).2 (by have:=h.ge i hi;omega)
 | k+1,i,hi,h1,h2=>by
  cases hl:G.lost i with
  | true=>exact Attr.zero hl _
  | false=>
   cases ho:G.own i with
   | true=>
    refine .inr (.inl ⟨ho,fun t ht => ?_⟩)
    obtain ⟨h3,h4⟩:=(h.mO i hi ho hl h1).1 t ht
    exact dL.to dY h k t (dY i hi t ht) h3 (by omega)
   | false=>
    obtain ⟨⟨t,ht,h3,h4⟩,_⟩:=h.oG i hi ho hl h1
    exact .inr (.inr ⟨ho,t,ht,dL.to dY h k t (dY i hi t ht) h3 (by omega)⟩)
theorem dL.from {G:Gm} {r:Nat→Int} (dY:∀ i,i < G.n→∀ t∈G.succ i,t < G.n) (h:dL G r):∀ (k i:Nat),i < G.n→Attr G k i→r i ≠ -1∧r i≤k
 | 0,i,hi,h1=>by have:=(h.zero i hi).1 h1;omega
 | k+1,i,hi,h1=>by
  cases hl:G.lost i with
  | true=>have:=(h.zero i hi).1 hl;omega
  | false=>
   rcases h1 with h1 | ⟨ho,h2⟩ | ⟨ho,t,ht,h2⟩
   ·rw [hl] at h1;cases h1
   ·have hn:r i ≠ -1:=fun e=>by
     obtain ⟨t,ht,h3⟩:=h.nL i hi ho hl e
     exact (dL.from dY h k t (dY i hi t ht) (h2 t ht)).1 h3
    refine ⟨hn,?_⟩
    rcases (h.mO i hi ho hl hn).2 with ⟨_,h3⟩ | ⟨t,ht,h3⟩
    ·omega
    ·have:=(dL.from dY h k t (dY i hi t ht) (h2 t ht)).2;omega
   ·obtain ⟨h3,h4⟩:=dL.from dY h k t (dY i hi t ht) h2
    have hn:r i ≠ -1:=fun e=>h3 (h.iV i hi ho hl e t ht)
    exact ⟨hn,by have:=(h.oG i hi ho hl hn).2 t ht h3;omega⟩
theorem dL.ok {G:Gm} {r:Nat→Int} (dY:∀ i,i < G.n→∀ t∈G.succ i,t < G.n) (h:dL G r):XD G r:=fun i hi=>
 ⟨h.ge i hi,fun k=>⟨fun ⟨h1,h2⟩=>h.to dY k i hi h1 h2,fun h1=>h.from dY k i hi h1⟩⟩
def upd {α:Type} (f:Nat→α) (i:Nat) (x:α):Nat→α:=fun j=>if j=i then x else f j
theorem qx {α:Type} (f:Nat→α) (i:Nat) (x:α):upd f i x i=x:=if_pos rfl
theorem z7 {α:Type} {f:Nat→α} {i j:Nat} {x:α} (h:j≠i):upd f i x j=f j:=if_neg h
theorem J0 {p q:Nat→Bool} {t:Nat}:∀ {l:List Nat},(∀ x,q x=true→p x=true)→t∈l→p t=true→q t=false→l.countP q < l.countP p
 | x::l,D8,ht,hp,hq=>by
  have hle:l.countP q≤l.countP p:=List.countP_mono_left fun x _=>D8 x
  rcases um.1 ht with rfl | ht
  ·rw [ub (by simp [hq]),ua hp];omega
  ·have:=J0 D8 ht hp hq
   by_cases h:q x=true
   ·rw [ua h,ua (D8 x h)];omega
   ·rw [ub h]
    by_cases h2:p x=true
    ·rw [ua h2];omega
    ·rw [ub h2];exact this
def yA (P:List Nat) (t:Nat):Bool := !(P.contains t)
theorem yB {P:List Nat} {t:Nat}:yA P t=true↔t ∉ P:=by simp [yA]
theorem JE {P:List Nat} {u:Nat} (hu:u ∉ P):∀ l:List Nat,l.countP (yA P)=l.countP (yA (P++[u]))+l.count u
 | []=>rfl
 | x::l=>by
  have ih:=JE hu l
  by_cases hx:x=u
  ·subst hx
   rw [ua (yB.2 hu),ub (by simp [yA]),List.count_cons_self];omega
  ·rw [List.count_cons_of_ne hx]
   by_cases hp:x∈P
   ·rw [ub (by simp [yA,hp]),ub (by simp [yA,hp])];exact ih
   ·rw [ua (yB.2 hp),ua (yB.2 (by simp [hp,hx]))];omega
structure Core (G:Gm) (r o:Nat→Int) (K P:List Nat) (c:Nat→Nat):Prop where
 nd:K.Nodup
 lt:∀ x∈K,x < G.n
 mem:∀ i,i < G.n→(i∈K↔r i ≠ -1)
 ge:∀ i,i < G.n → -1≤r i
 mono:K.Pairwise (fun a b=>r a≤r b)
 op:∀ i,i < G.n→o i+c i=((G.succ i).countP (yA P):Int)
 zero:∀ i,i < G.n→(G.lost i=true↔r i=0)
 mO:∀ i,i < G.n→G.own i=true→G.lost i=false→r i ≠ -1→o i=0∧(∀ t∈G.succ i,r t ≠ -1∧r t+1≤r i)∧((G.succ i=[]∧r i=1)∨∃ t∈G.succ i,r i=r t+1)
 nL:∀ i,i < G.n→G.own i=true→G.lost i=false→r i = -1→o i≠0
 oG:∀ i,i < G.n→G.own i=false→G.lost i=false→r i ≠ -1→(∃ t∈G.succ i,r t ≠ -1∧r i=r t+1)∧∀ t∈G.succ i,r t ≠ -1→r i≤r t+1
 iV:∀ i,i < G.n→G.own i=false→G.lost i=false→r i = -1→(∀ t∈G.succ i,t ∉ P)∧c i=0
structure lY (G:Gm) (r o:Nat→Int) (P Q:List Nat):Prop where
 core:Core G r o (P++Q) P fun _=>0
 top:∀ q Q',Q=q::Q'→∀ x∈P++Q,r x≤r q+1
structure fC (G:Gm) (r o:Nat→Int) (P:List Nat) (u:Nat) (Q:List Nat) (c:Nat→Nat):Prop where
 core:Core G r o (P++u::Q) P c
 top:∀ x∈P++u::Q,r x≤r u+1
 le:∀ i,i < G.n→c i≤(G.succ i).count u
theorem lY.enter {G:Gm} {r o:Nat→Int} {P Q:List Nat} {u:Nat} (h:lY G r o P (u::Q)):fC G r o P u Q fun _=>0:=
 ⟨h.core,h.top u Q rfl,fun _ _=>uy _⟩
theorem Core.split {G:Gm} {r o:Nat→Int} {P Q:List Nat} {u:Nat} {c:Nat→Nat} (h:Core G r o (P++u::Q) P c):u ∉ P∧u < G.n∧r u ≠ -1∧(∀ x∈P,r x≤r u)∧(∀ x∈Q,r u≤r x):=by
 have hu:u∈P++u::Q:=by simp
 obtain ⟨h1,h2,h3⟩:=ul.1 h.mono
 refine ⟨fun hp => ?_,h.lt u hu,(h.mem u (h.lt u hu)).1 hu,fun x hx=>h3 x hx u (by simp),(ug.1 h2).1⟩
 exact (uq.1 h.nd).2.2 u hp u (by simp) rfl
theorem fC.leave {G:Gm} {r o:Nat→Int} {P Q:List Nat} {u:Nat} {c:Nat→Nat} (h:fC G r o P u Q c) (hc:∀ i,i < G.n→c i=(G.succ i).count u):lY G r o (P++[u]) Q:=by
 obtain ⟨hu,hun,Ch,hP,hQ⟩:=h.core.split
 have hl:P++[u]++Q=P++u::Q:=by simp
 refine ⟨?_,fun q Q' hq x hx => ?_⟩
 ·rw [hl]
  have C:=h.core
  refine {C with op:=fun i hi => ?_,iV:=fun i hi ho hlo hr => ?_}
  ·have:=C.op i hi
   rw [JE hu,hc i hi] at this
   omega
  ·obtain ⟨h1,h2⟩:=C.iV i hi ho hlo hr
   refine ⟨fun t ht hp => ?_,rfl⟩
   rcases ue.1 hp with hp | hp
   ·exact h1 t ht hp
   ·have:t=u:=by simpa using hp
    subst this
    have:=hc i hi
    rw [h2] at this
    exact List.count_eq_zero.1 this.symm ht
 ·rw [hl] at hx
  have h1:=h.top x hx
  have h2:=hQ q (by rw [hq];simp)
  omega
theorem fC.room {G:Gm} {r o:Nat→Int} {P Q:List Nat} {u:Nat} {c:Nat→Nat} (h:fC G r o P u Q c) {i:Nat} (hi:i < G.n) (hc:c i < (G.succ i).count u):0 < o i:=by
 have h1:=h.core.op i hi
 rw [JE h.core.split.1] at h1
 omega
theorem fC.skip {G:Gm} {r o:Nat→Int} {P Q:List Nat} {u:Nat} {c:Nat→Nat} (h:fC G r o P u Q c) {i:Nat} (hi:i < G.n) (hc:c i < (G.succ i).count u) (hs:r i ≠ -1∨(G.own i=true∧o i - 1≠0)) :
  fC G r (upd o i (o i - 1)) P u Q (upd c i (c i+1)):=by
 have hroom:=h.room hi hc
 have C:=h.core
 refine ⟨{C with op:=fun j hj => ?_,mO:=fun j hj ho hl hr => ?_,nL:=fun j hj ho hl hr => ?_,iV:=fun j hj ho hl hr => ?_},h.top,fun j hj => ?_⟩
 ·by_cases e:j=i
  ·subst e;rw [qx,qx];have:=C.op j hj;omega
  ·rw [z7 e,z7 e];exact C.op j hj
 ·obtain ⟨h1,h2⟩:=C.mO j hj ho hl hr
  by_cases e:j=i
  ·subst e;omega
  ·rw [z7 e];exact ⟨h1,h2⟩
 ·by_cases e:j=i
  ·subst e;rw [qx]
   rcases hs with hs | ⟨_,hs⟩
   ·exact absurd hr hs
   ·exact hs
  ·rw [z7 e];exact C.nL j hj ho hl hr
 ·by_cases e:j=i
  ·subst e
   rcases hs with hs | ⟨hs,_⟩
   ·exact absurd hr hs
   ·rw [ho] at hs;cases hs
  ·rw [z7 e];exact C.iV j hj ho hl hr
 ·by_cases e:j=i
  ·subst e;rw [qx];exact hc
  ·rw [z7 e];exact h.le j hj
theorem fC.settle {G:Gm} (dY:∀ i,i < G.n→∀ t∈G.succ i,t < G.n) {r o:Nat→Int} {P Q:List Nat} {u:Nat} {c:Nat→Nat} (h:fC G r o P u Q c) {i:Nat} (hi:i < G.n) (hc:c i < (G.succ i).count u) (hr:r i = -1) (hs:G.own i=false∨o i - 1=0) :
  fC G (upd r i (r u+1)) (upd o i (o i - 1)) P u (Q++[i]) (upd c i (c i+1)):=by
 have hroom:=h.room hi hc
 obtain ⟨hu,hun,Ch,hP,hQ⟩:=h.core.split
 have C:=h.core
 have RZ:0≤r u:=by have:=C.ge u hun;omega
 have hne:∀ x∈P++u::Q,x≠i:=fun x hx e=>by subst e;exact (C.mem x hi).1 hx hr
 have A7:u≠i:=hne u (by simp)
 have hl:P++u::(Q++[i])=(P++u::Q)++[i]:=by simp
 have lz:G.lost i=false:=by
  cases hx:G.lost i with
  | false=>rfl
  | true=>have:=(C.zero i hi).1 hx;omega
 have hmem:u∈G.succ i:=List.count_pos_iff.1 (by omega)
 refine ⟨?_,?_,?_⟩
 ·rw [hl]
  refine ⟨?_,?_,?_,?_,?_,?_,?_,?_,?_,?_,?_⟩
  ·exact uq.2 ⟨C.nd,by simp,fun a ha b hb=>by have:b=i:=by simpa using hb
                                              subst this;exact hne a ha⟩
  ·intro x hx
   rcases ue.1 hx with hx | hx
   ·exact C.lt x hx
   ·have:x=i:=by simpa using hx
    subst this;exact hi
  ·intro j hj
   by_cases e:j=i
   ·subst e;rw [qx];simp;omega
   ·rw [z7 e,←C.mem j hj];simp [e]
  ·intro j hj
   by_cases e:j=i
   ·subst e;rw [qx];omega
   ·rw [z7 e];exact C.ge j hj
  ·refine ul.2 ⟨C.mono.imp_of_mem fun {a b} ha hb hab=>by rw [z7 (hne a ha),z7 (hne b hb)];exact hab,by simp,fun a ha b hb => ?_⟩
   have:b=i:=by simpa using hb
   subst this
   rw [qx,z7 (hne a ha)];exact h.top a ha
  ·intro j hj
   by_cases e:j=i
   ·subst e;rw [qx,qx];have:=C.op j hj;omega
   ·rw [z7 e,z7 e];exact C.op j hj
  ·intro j hj
   by_cases e:j=i
   ·subst e;rw [qx,lz];constructor
    ·intro hx;cases hx
    ·intro hx;omega
   ·rw [z7 e];exact C.zero j hj
  ·intro j hj ho hlo lQ
   by_cases e:j=i
   ·subst e
    rw [qx] at lQ
    have rp:o j - 1=0:=by
     rcases hs with hs | hs
     ·rw [ho] at hs;cases hs
     ·exact hs
    rw [qx,qx]
    have hop:=C.op j hj
    have hall:∀ t∈G.succ j,t∈P∨t=u:=fun t ht=>by
     by_cases tJ:t∈P
     ·exact .inl tJ
     ·by_cases htu:t=u
      ·exact .inr htu
      ·exfalso
       have hst:=J0 (p:=yA P) (q:=fun x=>x == u) (fun x hx=>by have:x=u:=by simpa using hx
                                                               subst this;exact yB.2 hu) ht (yB.2 tJ) (by simp [htu])
       have:(G.succ j).countP (fun x=>x == u)=(G.succ j).count u:=rfl
       omega
    refine ⟨rp,fun t ht => ?_,.inr ⟨u,hmem,by rw [z7 A7]⟩⟩
    have o5:t≠j:=by
     rcases hall t ht with h1 | h1
     ·exact hne t (by simp [h1])
     ·rw [h1];exact A7
    rw [z7 o5]
    rcases hall t ht with h1 | h1
    ·exact ⟨(C.mem t (C.lt t (by simp [h1]))).1 (by simp [h1]),by have:=hP t h1;omega⟩
    ·rw [h1];exact ⟨Ch,by omega⟩
   ·rw [z7 e] at lQ
    rw [z7 e,z7 e]
    obtain ⟨h1,h2,h3⟩:=C.mO j hj ho hlo lQ
    refine ⟨h1,fun t ht => ?_,?_⟩
    ·have o5:t≠i:=fun e2=>by rw [e2] at ht;exact (h2 i ht).1 hr
     rw [z7 o5];exact h2 t ht
    ·rcases h3 with h3 | ⟨t,ht,h3⟩
     ·exact .inl h3
     ·have o5:t≠i:=fun e2=>by rw [e2] at ht;exact (h2 i ht).1 hr
      exact .inr ⟨t,ht,by rw [z7 o5];exact h3⟩
  ·intro j hj ho hlo lQ
   by_cases e:j=i
   ·subst e;rw [qx] at lQ;omega
   ·rw [z7 e] at lQ;rw [z7 e];exact C.nL j hj ho hlo lQ
  ·intro j hj ho hlo lQ
   by_cases e:j=i
   ·subst e
    rw [qx]
    refine ⟨⟨u,hmem,by rw [z7 A7];exact Ch,by rw [z7 A7]⟩,fun t ht A8 => ?_⟩
    by_cases e2:t=j
    ·subst e2;rw [qx];omega
    ·rw [z7 e2] at A8 ⊢
     obtain ⟨h1,_⟩:=C.iV j hj ho hlo hr
     have htk:=(C.mem t (dY j hj t ht)).2 A8
     rcases ue.1 htk with h4 | h4
     ·exact absurd h4 (h1 t ht)
     ·rcases um.1 h4 with h4 | h4
      ·rw [h4];omega
      ·have:=hQ t h4;omega
   ·rw [z7 e] at lQ
    rw [z7 e]
    obtain ⟨⟨t,ht,h1,h2⟩,h3⟩:=C.oG j hj ho hlo lQ
    have fM:=h.top j ((C.mem j hj).2 lQ)
    refine ⟨?_,fun t ht A8 => ?_⟩
    ·have o5:t≠i:=fun e2=>by rw [e2] at h1;exact h1 hr
     exact ⟨t,ht,by rw [z7 o5];exact h1,by rw [z7 o5];exact h2⟩
    ·by_cases e2:t=i
     ·subst e2;rw [qx];omega
     ·rw [z7 e2] at A8 ⊢; exact h3 t ht A8
  ·intro j hj ho hlo lQ
   by_cases e:j=i
   ·subst e;rw [qx] at lQ;omega
   ·rw [z7 e] at lQ;rw [z7 e];exact C.iV j hj ho hlo lQ
 ·rw [hl,z7 A7]
  intro x hx
  rcases ue.1 hx with hx | hx
  ·rw [z7 (hne x hx)];exact h.top x hx
  ·have:x=i:=by simpa using hx
   subst this;rw [qx];omega
 ·intro j hj
  by_cases e:j=i
  ·subst e;rw [qx];exact hc
  ·rw [z7 e];exact h.le j hj
theorem lY.done {G:Gm} {r o:Nat→Int} {P:List Nat} (dY:∀ i,i < G.n→∀ t∈G.succ i,t < G.n) (h:lY G r o P []):dL G r:=by
 have C:=h.core
 rw [uu] at C
 refine ⟨C.ge,C.zero,fun i hi ho hl hr=>(C.mO i hi ho hl hr).2,fun i hi ho hl hr => ?_,C.oG,fun i hi ho hl hr t ht => ?_⟩
 ·have h1:=C.nL i hi ho hl hr
  have h2:=C.op i hi
  have h3:0 < (G.succ i).countP (yA P):=by omega
  obtain ⟨t,ht,h4⟩:=List.countP_pos_iff.1 h3
  refine ⟨t,ht,?_⟩
  by_cases e:r t = -1
  ·exact e
  ·exact absurd ((C.mem t (dY i hi t ht)).2 e) (yB.1 h4)
 ·by_cases e:r t = -1
  ·exact e
  ·exact absurd ((C.mem t (dY i hi t ht)).2 e) ((C.iV i hi ho hl hr).1 t ht)
end Go.Proofs.YtlpmnmbebkdocaaGreatDoor
