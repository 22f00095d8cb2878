/-
  From readings to the data of this program's types.
  Plain laws about loops, searches and elements of lists.
  Plain laws: what a computation returns, and loops that build lists.
  Plain laws: loops over lists, loops that set one place after the other, increasing lists.
  Attractors: the positions from which the others can force a breach in some number of moves; and the queue that finds these numbers.
-/
import Derived.Test.YtgpojcfkanjabaaGreatDoorAS06
import Derived.Test.YtgpojcfkanjabaaGreatDoorAS05
open List renaming countP_cons_of_pos → ua, countP_cons_of_neg → ub, getElem?_eq_getElem → uc, take_succ_eq_append_getElem → ud, mem_append → ue, pairwise_cons → ug, length_cons → ui, range_eq_range' → uk, pairwise_append → ul, mem_cons → um, range → un, find?_eq_none → uo, nodup_append → uq, range'_succ → ur, find?_cons → ut, append_nil → uu, mem_range → uv, range' → uw
open Option renaming bind → uz
open Bool renaming not_eq_true' → uh, and_eq_true → uj
open Nat renaming le_refl → ux, zero_le → uy
namespace Go.Proofs.YtgpojcfkanjabaaGreatDoor
open Go.RowKit
set_option linter.unusedVariables false
def bu.cJ:List ez:=[.int .i64,.int .i64]
structure bu.Ok (x:bu):Prop where
 num:dW .i64 x.num
 den:dW .i64 x.den
theorem bu.gK {row:List IV} (h:bP bu.cJ row):∃ x:bu,row=bu.row x∧bu.Ok x:=by
 obtain ⟨c0,_,rfl,h0,h⟩:=zi h
 obtain ⟨c1,_,rfl,h1,h⟩:=zi h
 obtain rfl:=qS h
 obtain ⟨v0,rfl,k0⟩:=zu h0
 obtain ⟨v1,rfl,k1⟩:=zu h1
 exact ⟨⟨v0,v1⟩,rfl,⟨k0,k1⟩⟩
def bX.cJ:List ez:=[.str,.int .i64,.int .i64,.int .i64,.int .i64]
structure bX.Ok (x:bX):Prop where
 name:x.name.size≤reachBytes
 kind:dW .i64 x.kind
 base:dW .i64 x.base
 factor:bu.Ok x.factor
theorem bX.gK {row:List IV} (h:bP bX.cJ row):∃ x:bX,row=bX.row x∧bX.Ok x:=by
 obtain ⟨c0,_,rfl,h0,h⟩:=zi h
 obtain ⟨c1,_,rfl,h1,h⟩:=zi h
 obtain ⟨c2,_,rfl,h2,h⟩:=zi h
 obtain ⟨c3,_,rfl,h3,h⟩:=zi h
 obtain ⟨c4,_,rfl,h4,h⟩:=zi h
 obtain rfl:=qS h
 obtain ⟨v0,rfl,k0⟩:=Rg h0
 obtain ⟨v1,rfl,k1⟩:=zu h1
 obtain ⟨v2,rfl,k2⟩:=zu h2
 obtain ⟨v3,rfl,k3⟩:=zu h3
 obtain ⟨v4,rfl,k4⟩:=zu h4
 exact ⟨⟨v0,v1,v2,⟨v3,v4⟩⟩,rfl,⟨k0,k1,k2,⟨k3,k4⟩⟩⟩
def bq.cJ:List ez:=[.int .i64,.int .i64,.int .i64,.int .i64,.int .i64,.int .i64,.int .i64]
structure bq.Ok (x:bq):Prop where
 kind:dW .i64 x.kind
 bM:dW .i64 x.bM
 dh:dW .i64 x.dh
 to:dW .i64 x.to
 unit:dW .i64 x.unit
 fD:bu.Ok x.fD
theorem bq.gK {row:List IV} (h:bP bq.cJ row):∃ x:bq,row=bq.row x∧bq.Ok x:=by
 obtain ⟨c0,_,rfl,h0,h⟩:=zi h
 obtain ⟨c1,_,rfl,h1,h⟩:=zi h
 obtain ⟨c2,_,rfl,h2,h⟩:=zi h
 obtain ⟨c3,_,rfl,h3,h⟩:=zi h
 obtain ⟨c4,_,rfl,h4,h⟩:=zi h
 obtain ⟨c5,_,rfl,h5,h⟩:=zi h
 obtain ⟨c6,_,rfl,h6,h⟩:=zi h
 obtain rfl:=qS h
 obtain ⟨v0,rfl,k0⟩:=zu h0
 obtain ⟨v1,rfl,k1⟩:=zu h1
 obtain ⟨v2,rfl,k2⟩:=zu h2
 obtain ⟨v3,rfl,k3⟩:=zu h3
 obtain ⟨v4,rfl,k4⟩:=zu h4
 obtain ⟨v5,rfl,k5⟩:=zu h5
 obtain ⟨v6,rfl,k6⟩:=zu h6
 exact ⟨⟨v0,v1,v2,v3,v4,⟨v5,v6⟩⟩,rfl,⟨k0,k1,k2,k3,k4,⟨k5,k6⟩⟩⟩
def bk.cJ:List ez:=[.int .i64,.int .i64]
structure bk.Ok (x:bk):Prop where
 clause:dW .i64 x.clause
 is:dW .i64 x.is
theorem bk.gK {row:List IV} (h:bP bk.cJ row):∃ x:bk,row=bk.row x∧bk.Ok x:=by
 obtain ⟨c0,_,rfl,h0,h⟩:=zi h
 obtain ⟨c1,_,rfl,h1,h⟩:=zi h
 obtain rfl:=qS h
 obtain ⟨v0,rfl,k0⟩:=zu h0
 obtain ⟨v1,rfl,k1⟩:=zu h1
 exact ⟨⟨v0,v1⟩,rfl,⟨k0,k1⟩⟩
def aS.cJ:List ez:=[.int .i64,.int .i64,.int .i64,.int .i64,.slice 16 bk.cJ,.int .i64,.int .i64,.bool,.bool,.int .i64,.int .i64,.int .i64,.int .i64,.int .i64,.int .i64,.bool]
structure aS.Ok (x:aS):Prop where
 kind:dW .i64 x.kind
 bM:dW .i64 x.bM
 act:dW .i64 x.act
 need:dW .i64 x.need
 start:lF 16 bk.Ok x.start
 after:dW .i64 x.after
 br:dW .i64 x.br
 aT:dW .i64 x.aT
 resume:dW .i64 x.resume
 value:bu.Ok x.value
 unit:dW .i64 x.unit
 to:dW .i64 x.to
theorem aS.gK {row:List IV} (h:bP aS.cJ row):∃ x:aS,row=aS.row x∧aS.Ok x:=by
 obtain ⟨c0,_,rfl,h0,h⟩:=zi h
 obtain ⟨c1,_,rfl,h1,h⟩:=zi h
 obtain ⟨c2,_,rfl,h2,h⟩:=zi h
 obtain ⟨c3,_,rfl,h3,h⟩:=zi h
 obtain ⟨c4,_,rfl,h4,h⟩:=zi h
 obtain ⟨c5,_,rfl,h5,h⟩:=zi h
 obtain ⟨c6,_,rfl,h6,h⟩:=zi h
 obtain ⟨c7,_,rfl,h7,h⟩:=zi h
 obtain ⟨c8,_,rfl,h8,h⟩:=zi h
 obtain ⟨c9,_,rfl,h9,h⟩:=zi h
 obtain ⟨c10,_,rfl,h10,h⟩:=zi h
 obtain ⟨c11,_,rfl,h11,h⟩:=zi h
 obtain ⟨c12,_,rfl,h12,h⟩:=zi h
 obtain ⟨c13,_,rfl,D6,h⟩:=zi h
 obtain ⟨c14,_,rfl,Ri,h⟩:=zi h
 obtain ⟨c15,_,rfl,Rj,h⟩:=zi h
 obtain rfl:=qS h
 obtain ⟨v0,rfl,k0⟩:=zu h0
 obtain ⟨v1,rfl,k1⟩:=zu h1
 obtain ⟨v2,rfl,k2⟩:=zu h2
 obtain ⟨v3,rfl,k3⟩:=zu h3
 obtain ⟨v4,rfl,k4⟩:=z7 @bk.gK h4
 obtain ⟨v5,rfl,k5⟩:=zu h5
 obtain ⟨v6,rfl,k6⟩:=zu h6
 obtain ⟨v7,rfl⟩:=wi h7
 obtain ⟨v8,rfl⟩:=wi h8
 obtain ⟨v9,rfl,k9⟩:=zu h9
 obtain ⟨v10,rfl,Rk⟩:=zu h10
 obtain ⟨v11,rfl,Rm⟩:=zu h11
 obtain ⟨v12,rfl,Rn⟩:=zu h12
 obtain ⟨Ro,rfl,Rp⟩:=zu D6
 obtain ⟨Rq,rfl,Rr⟩:=zu Ri
 obtain ⟨Rs,rfl⟩:=wi Rj
 exact ⟨⟨v0,v1,v2,v3,v4,v5,v6,v7,v8,v9,v10,⟨v11,v12⟩,Ro,Rq,Rs⟩,rfl,⟨k0,k1,k2,k3,k4,k5,k6,k9,Rk,⟨Rm,Rn⟩,Rp,Rr⟩⟩
def ay.cJ:List ez:=[.int .i64,.slice 8 [.int .i64],.slice 48 bX.cJ,.slice 56 bq.cJ,.slice 136 aS.cJ,.int .i64,.slice 8 [.int .i64]]
structure ay.Ok (x:ay):Prop where
 aR:dW .i64 x.aR
 aE:lF 8 (fun x:Int=>dW .i64 x) x.aE
 bI:lF 48 bX.Ok x.bI
 aJ:lF 56 bq.Ok x.aJ
 aA:lF 136 aS.Ok x.aA
 bl:dW .i64 x.bl
 off:lF 8 (fun x:Int=>dW .i64 x) x.off
theorem ay.gK {row:List IV} (h:bP ay.cJ row):∃ x:ay,row=ay.row x∧ay.Ok x:=by
 obtain ⟨c0,_,rfl,h0,h⟩:=zi h
 obtain ⟨c1,_,rfl,h1,h⟩:=zi h
 obtain ⟨c2,_,rfl,h2,h⟩:=zi h
 obtain ⟨c3,_,rfl,h3,h⟩:=zi h
 obtain ⟨c4,_,rfl,h4,h⟩:=zi h
 obtain ⟨c5,_,rfl,h5,h⟩:=zi h
 obtain ⟨c6,_,rfl,h6,h⟩:=zi h
 obtain rfl:=qS h
 obtain ⟨v0,rfl,k0⟩:=zu h0
 obtain ⟨v1,rfl,k1⟩:=z7 yw h1
 obtain ⟨v2,rfl,k2⟩:=z7 @bX.gK h2
 obtain ⟨v3,rfl,k3⟩:=z7 @bq.gK h3
 obtain ⟨v4,rfl,k4⟩:=z7 @aS.gK h4
 obtain ⟨v5,rfl,k5⟩:=zu h5
 obtain ⟨v6,rfl,k6⟩:=z7 yw h6
 exact ⟨⟨v0,v1,v2,v3,v4,v5,v6⟩,rfl,⟨k0,k1,k2,k3,k4,k5,k6⟩⟩
def aj.cJ:List ez:=[.int .i64,.int .i64,.int .i64,.int .i64,.bool]
structure aj.Ok (x:aj):Prop where
 aN:dW .i64 x.aN
 left:dW .i64 x.left
 got:dW .i64 x.got
 bw:dW .i64 x.bw
theorem aj.gK {row:List IV} (h:bP aj.cJ row):∃ x:aj,row=aj.row x∧aj.Ok x:=by
 obtain ⟨c0,_,rfl,h0,h⟩:=zi h
 obtain ⟨c1,_,rfl,h1,h⟩:=zi h
 obtain ⟨c2,_,rfl,h2,h⟩:=zi h
 obtain ⟨c3,_,rfl,h3,h⟩:=zi h
 obtain ⟨c4,_,rfl,h4,h⟩:=zi h
 obtain rfl:=qS h
 obtain ⟨v0,rfl,k0⟩:=zu h0
 obtain ⟨v1,rfl,k1⟩:=zu h1
 obtain ⟨v2,rfl,k2⟩:=zu h2
 obtain ⟨v3,rfl,k3⟩:=zu h3
 obtain ⟨v4,rfl⟩:=wi h4
 exact ⟨⟨v0,v1,v2,v3,v4⟩,rfl,⟨k0,k1,k2,k3⟩⟩
def ak.cJ:List ez:=[.int .i64,.slice 8 [.int .i64],.slice 1 [.bool],.slice 40 aj.cJ]
structure ak.Ok (x:ak):Prop where
 day:dW .i64 x.day
 aE:lF 8 (fun x:Int=>dW .i64 x) x.aE
 used:lF 1 (fun x:Bool=>True) x.used
 aI:lF 40 aj.Ok x.aI
theorem ak.gK {row:List IV} (h:bP ak.cJ row):∃ x:ak,row=ak.row x∧ak.Ok x:=by
 obtain ⟨c0,_,rfl,h0,h⟩:=zi h
 obtain ⟨c1,_,rfl,h1,h⟩:=zi h
 obtain ⟨c2,_,rfl,h2,h⟩:=zi h
 obtain ⟨c3,_,rfl,h3,h⟩:=zi h
 obtain rfl:=qS h
 obtain ⟨v0,rfl,k0⟩:=zu h0
 obtain ⟨v1,rfl,k1⟩:=z7 yw h1
 obtain ⟨v2,rfl,k2⟩:=z7 Jy h2
 obtain ⟨v3,rfl,k3⟩:=z7 @aj.gK h3
 exact ⟨⟨v0,v1,v2,v3⟩,rfl,⟨k0,k1,k2,k3⟩⟩
def aK.cJ:List ez:=[.int .i64,.slice 8 [.int .i64],.slice 1 [.bool],.slice 40 aj.cJ,.bool]
structure aK.Ok (x:aK):Prop where
 state:ak.Ok x.state
theorem aK.gK {row:List IV} (h:bP aK.cJ row):∃ x:aK,row=aK.row x∧aK.Ok x:=by
 obtain ⟨c0,_,rfl,h0,h⟩:=zi h
 obtain ⟨c1,_,rfl,h1,h⟩:=zi h
 obtain ⟨c2,_,rfl,h2,h⟩:=zi h
 obtain ⟨c3,_,rfl,h3,h⟩:=zi h
 obtain ⟨c4,_,rfl,h4,h⟩:=zi h
 obtain rfl:=qS h
 obtain ⟨v0,rfl,k0⟩:=zu h0
 obtain ⟨v1,rfl,k1⟩:=z7 yw h1
 obtain ⟨v2,rfl,k2⟩:=z7 Jy h2
 obtain ⟨v3,rfl,k3⟩:=z7 @aj.gK h3
 obtain ⟨v4,rfl⟩:=wi h4
 exact ⟨⟨⟨v0,v1,v2,v3⟩,v4⟩,rfl,⟨⟨k0,k1,k2,k3⟩⟩⟩
def bC.cJ:List ez:=[.int .i64,.int .i64]
structure bC.Ok (x:bC):Prop where
 step:dW .i64 x.step
 to:dW .i64 x.to
theorem bC.gK {row:List IV} (h:bP bC.cJ row):∃ x:bC,row=bC.row x∧bC.Ok x:=by
 obtain ⟨c0,_,rfl,h0,h⟩:=zi h
 obtain ⟨c1,_,rfl,h1,h⟩:=zi h
 obtain rfl:=qS h
 obtain ⟨v0,rfl,k0⟩:=zu h0
 obtain ⟨v1,rfl,k1⟩:=zu h1
 exact ⟨⟨v0,v1⟩,rfl,⟨k0,k1⟩⟩
def cx.cJ:List ez:=[.int .i64,.slice 88 aK.cJ,.slice 24 [.slice 16 bC.cJ]]
structure cx.Ok (x:cx):Prop where
 zw:dW .i64 x.zw
 aW:lF 88 aK.Ok x.aW
 bK:lF 24 (fun x:List bC=>lF 16 bC.Ok x) x.bK
theorem cx.gK {row:List IV} (h:bP cx.cJ row):∃ x:cx,row=cx.row x∧cx.Ok x:=by
 obtain ⟨c0,_,rfl,h0,h⟩:=zi h
 obtain ⟨c1,_,rfl,h1,h⟩:=zi h
 obtain ⟨c2,_,rfl,h2,h⟩:=zi h
 obtain rfl:=qS h
 obtain ⟨v0,rfl,k0⟩:=zu h0
 obtain ⟨v1,rfl,k1⟩:=z7 @aK.gK h1
 obtain ⟨v2,rfl,k2⟩:=z7 (Rh (bG:=16) @bC.gK) h2
 exact ⟨⟨v0,v1,v2⟩,rfl,⟨k0,k1,k2⟩⟩
def cL.cJ:List ez:=[.bool,.int .i64,.int .i64]
structure cL.Ok (x:cL):Prop where
 move:dW .i64 x.move
 wait:dW .i64 x.wait
theorem cL.gK {row:List IV} (h:bP cL.cJ row):∃ x:cL,row=cL.row x∧cL.Ok x:=by
 obtain ⟨c0,_,rfl,h0,h⟩:=zi h
 obtain ⟨c1,_,rfl,h1,h⟩:=zi h
 obtain ⟨c2,_,rfl,h2,h⟩:=zi h
 obtain rfl:=qS h
 obtain ⟨v0,rfl⟩:=wi h0
 obtain ⟨v1,rfl,k1⟩:=zu h1
 obtain ⟨v2,rfl,k2⟩:=zu h2
 exact ⟨⟨v0,v1,v2⟩,rfl,⟨k1,k2⟩⟩
def aF.cJ:List ez:=[.int .i64,.slice 80 ak.cJ]
structure aF.Ok (x:aF):Prop where
 zw:dW .i64 x.zw
 states:lF 80 ak.Ok x.states
theorem aF.gK {row:List IV} (h:bP aF.cJ row):∃ x:aF,row=aF.row x∧aF.Ok x:=by
 obtain ⟨c0,_,rfl,h0,h⟩:=zi h
 obtain ⟨c1,_,rfl,h1,h⟩:=zi h
 obtain rfl:=qS h
 obtain ⟨v0,rfl,k0⟩:=zu h0
 obtain ⟨v1,rfl,k1⟩:=z7 @ak.gK h1
 exact ⟨⟨v0,v1⟩,rfl,⟨k0,k1⟩⟩
def cM.cJ:List ez:=[.int .i64,.int .i64,.slice 8 [.int .i64],.slice 1 [.bool],.slice 40 aj.cJ]
structure cM.Ok (x:cM):Prop where
 step:dW .i64 x.step
 state:ak.Ok x.state
theorem cM.gK {row:List IV} (h:bP cM.cJ row):∃ x:cM,row=cM.row x∧cM.Ok x:=by
 obtain ⟨c0,_,rfl,h0,h⟩:=zi h
 obtain ⟨c1,_,rfl,h1,h⟩:=zi h
 obtain ⟨c2,_,rfl,h2,h⟩:=zi h
 obtain ⟨c3,_,rfl,h3,h⟩:=zi h
 obtain ⟨c4,_,rfl,h4,h⟩:=zi h
 obtain rfl:=qS h
 obtain ⟨v0,rfl,k0⟩:=zu h0
 obtain ⟨v1,rfl,k1⟩:=zu h1
 obtain ⟨v2,rfl,k2⟩:=z7 yw h2
 obtain ⟨v3,rfl,k3⟩:=z7 Jy h3
 obtain ⟨v4,rfl,k4⟩:=z7 @aj.gK h4
 exact ⟨⟨v0,⟨v1,v2,v3,v4⟩⟩,rfl,⟨k0,⟨k1,k2,k3,k4⟩⟩⟩
end Go.Proofs.YtgpojcfkanjabaaGreatDoor
namespace Go.Proofs.YtgpojcfkanjabaaGreatDoor
set_option linter.unusedSimpArgs false
set_option linter.unusedVariables false
def Jz {σ ρ:Type} (A:σ→Prop) (Q:ρ→Prop):σ ⊕ ρ→Prop
 | .inl s=>A s
 | .inr r=>Q r
theorem Xs {σ ρ:Type} {f:Nat→σ→Option (σ ⊕ ρ)} {Inv:Nat→σ→Prop} {Q:ρ→Prop} (n:Nat)
  (step:∀ (i:Nat) (s:σ),i < n→Inv i s→∃ o,f i s=some o∧Jz (Inv (i+1)) Q o) :
  ∀ (k i:Nat) (s:σ),i+k=n→Inv i s→∃ o,bE f i k s=some o∧Jz (Inv n) Q o
 | 0,i,s,h,hi=>⟨.inl s,rfl,by obtain rfl:i=n:=by omega
                              exact hi⟩
 | k+1,i,s,h,hi=>by
  obtain ⟨o,h1,h2⟩:=step i s (by omega) hi
  simp only [bE,h1]
  cases o with
  | inl s'=>exact Xs n step k (i+1) s' (by omega) h2
  | inr r=>exact ⟨.inr r,rfl,h2⟩
theorem HM {σ ρ:Type} {f:Nat→σ→Option (σ ⊕ ρ)} {n:Int} {s0:σ} (Inv:Nat→σ→Prop) (Q:ρ→Prop) (hn:n < 4611686018427387904)
  (h0:Inv 0 s0) (step:∀ (i:Nat) (s:σ),(i:Int) < n→Inv i s→∃ o,f i s=some o∧Jz (Inv (i+1)) Q o) :
  ∃ o,aH n f s0=some o∧Jz (Inv n.toNat) Q o:=by
 rw [ZB hn]
 exact Xs n.toNat (fun i s hi=>step i s (by omega)) n.toNat 0 s0 (by omega) h0
theorem wA {σ ρ:Type} {f:Nat→σ→Option (σ ⊕ ρ)} {n:Nat} {s0:σ} (Inv:Nat→σ→Prop) (Q:ρ→Prop) (hn:n < 4611686018427387904)
  (h0:Inv 0 s0) (step:∀ (i:Nat) (s:σ),i < n→Inv i s→∃ o,f i s=some o∧Jz (Inv (i+1)) Q o) :
  ∃ o,aH (n:Int) f s0=some o∧Jz (Inv n) Q o:=by
 have:=HM (n:=(n:Int)) Inv Q (by omega) h0 (fun i s hi=>step i s (by omega))
 simpa using this
theorem HN {σ ρ:Type} {f:σ→Option (σ ⊕ ρ)} (Inv:σ→Prop) (Q:ρ→Prop) (m:σ→Nat)
  (step:∀ s,Inv s→∃ o,f s=some o∧Jz (fun s'=>Inv s'∧m s' < m s) Q o):∀ s0,Inv s0→∃ r,iter f s0=some r∧Q r:=by
 have key:∀ (k:Nat) (s:σ),m s < k→Inv s→∃ r,iter f s=some r∧Q r:=by
  intro k
  induction k with
  | zero=>intro s h;omega
  | succ k ih=>
   intro s hk hs
   obtain ⟨o,h1,h2⟩:=step s hs
   rw [Oo,h1]
   cases o with
   | inl s'=>exact ih s' (by have:=h2.2;omega) h2.1
   | inr r=>exact ⟨r,rfl,h2⟩
 exact fun s0 h=>key _ s0 (Nat.lt_succ_self _) h
theorem JR {ρ:Type} {f:Nat→Unit→Option (Unit ⊕ ρ)} {p:Nat→Bool} {g:Nat→ρ}:∀ (k i:Nat),(∀ j,i≤j→j < i+k→f j ()=some (bif p j then .inl () else .inr (g j))) →
  bE f i k ()=some (match (uw i k).find? (fun j=>!p j) with | none=>.inl () | some j=>.inr (g j))
 | 0,i,h=>rfl
 | k+1,i,h=>by
  simp only [bE,h i (ux _) (by omega),ur,ut]
  cases hp:p i with
  | true=>
   simp only [cg,Bool.not_true]
   exact JR k (i+1) fun j h1 h2=>h j (by omega) (by omega)
  | false=>simp
theorem wB {ρ:Type} {f:Nat→Unit→Option (Unit ⊕ ρ)} {n:Nat} (p:Nat→Bool) (g:Nat→ρ) (hn:n < 4611686018427387904) (h:∀ j,j < n→f j ()=some (bif p j then .inl () else .inr (g j))) :
  aH (n:Int) f ()=some (match (un n).find? (fun j=>!p j) with | none=>.inl () | some j=>.inr (g j)):=by
 rw [ZB (by omega)]
 have:=JR (f:=f) (p:=p) (g:=g) n 0 (fun j _ h2=>h j (by omega))
 simpa [uk] using this
theorem kB {n:Nat} {p:Nat→Bool} (h:(un n).find? (fun j=>!p j)=none):∀ j,j < n→p j=true:=fun j hj=>by
 have:=uo.1 h j (uv.2 hj)
 simpa using this
theorem Rt {n:Nat} {p:Nat→Bool} (h:∀ j,j < n→p j=true):(un n).find? (fun j=>!p j)=none:=
 uo.2 fun j hj=>by simp [h j (uv.1 hj)]
theorem WE {q:Nat→Bool}:∀ (k a i:Nat),(uw a k).find? q=some i→i < a+k∧a≤i∧q i=true∧∀ j,a≤j→j < i→q j=false
 | 0,a,i,h=>by simp at h
 | k+1,a,i,h=>by
  rw [ur,ut] at h
  split at h
  ·rename_i hq
   cases h
   exact ⟨by omega,ux _,hq,fun j h1 h2=>by omega⟩
  ·rename_i hq
   obtain ⟨h1,h2,h3,h4⟩:=WE k (a+1) i h
   exact ⟨by omega,by omega,h3,fun j h5 h6=>by
    rcases Nat.eq_or_lt_of_le h5 with h7 | h7
    ·subst h7;exact hq
    ·exact h4 j (by omega) h6⟩
theorem kC {n i:Nat} {p:Nat→Bool} (h:(un n).find? (fun j=>!p j)=some i):i < n∧p i=false∧∀ j,j < i→p j=true:=by
 rw [uk] at h
 obtain ⟨h1,_,h2,h3⟩:=WE n 0 i h
 exact ⟨by omega,by simpa using h2,fun j hj=>by simpa using h3 j (uy _) hj⟩
theorem zt {α:Type} (b:Bool) (x y:α):(bif b then some x else some y)=some (bif b then x else y):=by cases b<;>rfl
theorem zq {α:Type} {l:List α} {i:Nat} {e:α} (h:l[i]?=some e):zf l (i:Int)=some e:=by
 unfold zf;rw [if_pos (by omega)];simpa using h
theorem zV {α:Type} (l:List α) (i:Nat):zf l (i:Int)=l[i]?:=by
 unfold zf;rw [if_pos (by omega)];simp
theorem qE {α:Type} {l:List α} {n:Int} (h0:0≤n) (h1:n < l.length):∃ h:n.toNat < l.length,zf l n=some l[n.toNat]:=by
 have h:n.toNat < l.length:=by omega
 exact ⟨h,by unfold zf;rw [if_pos h0];exact uc h⟩
theorem W8 {α:Type} {l:List α} {n:Int} (h:¬ (0≤n∧n < l.length)):zf l n=none:=by
 unfold zf
 split
 ·exact List.getElem?_eq_none (by omega)
 ·rfl
theorem QO {len:Nat} {n:Int} (h0:0≤n) (h1:n < len):zl len n=some n.toNat:=by unfold zl;rw [if_pos ⟨h0,h1⟩]
theorem zF {len i:Nat} (h:i < len):zl len (i:Int)=some i:=by unfold zl;rw [if_pos ⟨by omega,by omega⟩];simp
def aq {α:Type} (x:Option α) (Q:α→Prop):Prop:=∃ r,x=some r∧Q r
theorem aq.some {α:Type} {a:α} {Q:α→Prop} (h:Q a):aq (Option.some a) Q:=⟨a,rfl,h⟩
theorem aq.bind {α β:Type} {x:Option α} {f:α→Option β} {P:α→Prop} {Q:β→Prop} (hx:aq x P) (hf:∀ v,P v→aq (f v) Q):aq (x.bind f) Q:=by
 obtain ⟨v,rfl,hv⟩:=hx
 exact hf v hv
theorem aq.az {α β:Type} {x:Option α} {f:α→Option β} {v:α} {Q:β→Prop} (hx:x=Option.some v) (hf:aq (f v) Q):aq (x.bind f) Q:=by
 subst hx;exact hf
theorem aq.ite {α:Type} {b:Bool} {x y:Option α} {Q:α→Prop} (h1:b=true→aq x Q) (h2:b=false→aq y Q):aq (bif b then x else y) Q:=by
 cases b
 ·exact h2 rfl
 ·exact h1 rfl
theorem aq.mono {α:Type} {x:Option α} {P Q:α→Prop} (h:aq x P) (hq:∀ r,P r→Q r):aq x Q:=by
 obtain ⟨r,h1,h2⟩:=h;exact ⟨r,h1,hq r h2⟩
theorem aq.eq {α:Type} {x:Option α} {a:α} (h:aq x (· = a)):x=Option.some a:=by obtain ⟨r,h1,rfl⟩:=h;exact h1
theorem aq.of {α:Type} {x:Option α} {a:α} (h:x=Option.some a):aq x (· = a):=⟨a,h,rfl⟩
theorem aq.cP {σ ρ:Type} {f:Nat→σ→Option (σ ⊕ ρ)} {n:Nat} {s0:σ} {Q:σ ⊕ ρ→Prop} (Inv:Nat→σ→Prop) (hn:n < 4611686018427387904) (h0:Inv 0 s0)
  (step:∀ (i:Nat) (s:σ),i < n→Inv i s→aq (f i s) (Jz (Inv (i+1)) fun r=>Q (.inr r))) (hQ:∀ s,Inv n s→Q (.inl s)):aq (aH (n:Int) f s0) Q:=by
 obtain ⟨o,h1,h2⟩:=wA (n:=n) (s0:=s0) (f:=f) Inv (fun r=>Q (.inr r)) hn h0 step
 refine ⟨o,h1,?_⟩
 cases o with
 | inl s=>exact hQ s h2
 | inr r=>exact h2
theorem aq.iter {σ ρ:Type} {f:σ→Option (σ ⊕ ρ)} {s0:σ} {Q:ρ→Prop} (Inv:σ→Prop) (m:σ→Nat) (h0:Inv s0)
 (step:∀ s,Inv s→aq (f s) (Jz (fun s'=>Inv s'∧m s' < m s) Q)):aq (Go.Proofs.YtgpojcfkanjabaaGreatDoor.iter f s0) Q:=HN (f:=f) Inv Q m step s0 h0
theorem aq.idx {α:Type} {l:List α} {n:Int} {Q:α→Prop} (h0:0≤n) (h1:n < l.length) (h:∀ hi:n.toNat < l.length,Q l[n.toNat]):aq (zf l n) Q:=by
 obtain ⟨hi,e⟩:=qE h0 h1
 exact ⟨_,e,h hi⟩
theorem WF {σ ρ α β:Type} {f:Nat→σ→Option (σ ⊕ ρ)} (l:List α) (g:α→β) (st:List β→σ) (h:∀ (i:Nat) (hi:i < l.length),f i (st ((l.take i).map g))=some (.inl (st ((l.take i).map g++[g l[i]])))) :
  ∀ (k i:Nat),i+k=l.length→bE f i k (st ((l.take i).map g))=some (.inl (st (l.map g)))
 | 0,i,hk=>by simp only [bE];rw [List.take_of_length_le (by omega)]
 | k+1,i,hk=>by
  have hi:i < l.length:=by omega
  have e:(l.take (i+1)).map g=(l.take i).map g++[g l[i]]:=by rw [ud hi,List.map_append];rfl
  simp only [bE,h i hi]
  rw [←e]
  exact WF l g st h k (i+1) (by omega)
theorem Ru {σ ρ α β:Type} {f:Nat→σ→Option (σ ⊕ ρ)} (l:List α) (g:α→β) (st:List β→σ) (hl:l.length < 4611686018427387904) (h:∀ (i:Nat) (hi:i < l.length),f i (st ((l.take i).map g))=some (.inl (st ((l.take i).map g++[g l[i]])))) {s0:σ} (h0:s0=st []) :
  aH (l.length:Int) f s0=some (.inl (st (l.map g))):=by
 rw [ZB (by omega),h0]
 have:=WF l g st h l.length 0 (by omega)
 simpa using this
theorem xt {α:Type} {bG:Nat} {l m:List α} (h:(l.length+m.length)*bG≤140737488355328):qk bG l m=some (l++m):=by unfold qk;rw [if_pos h]
def tO {α σ ρ:Type} (F:α→σ→Option (σ ⊕ ρ)):List α→σ→Option (σ ⊕ ρ)
 | [],s=>some (.inl s)
 | x::r,s=>match F x s with
  | none=>none
  | some (.inr y)=>some (.inr y)
  | some (.inl s')=>tO F r s'
theorem Xt {α σ ρ:Type} {f:Nat→σ→Option (σ ⊕ ρ)} {F:α→σ→Option (σ ⊕ ρ)}:∀ (l:List α) (i:Nat) (s:σ),(∀ (j:Nat) (hj:j < l.length) (s:σ),f (i+j) s=F l[j] s)→bE f i l.length s=tO F l s
 | [],i,s,h=>rfl
 | x::r,i,s,h=>by
  have h0:=h 0 (by simp) s
  simp only [Nat.add_zero,List.getElem_cons_zero] at h0
  simp only [ui,bE,tO,h0]
  have ih:∀ s',bE f (i+1) r.length s'=tO F r s':=fun s'=>Xt r (i+1) s' (f:=f) (F:=F) fun j hj s=>by
   have:=h (j+1) (by simpa using hj) s
   simp only [List.getElem_cons_succ] at this
   rw [←this];congr 1;omega
  cases F x s with
  | none=>rfl
  | some o=>
   cases o with
   | inl s'=>exact ih s'
   | inr y=>rfl
theorem Rv {α σ ρ:Type} {f:Nat→σ→Option (σ ⊕ ρ)} {F:α→σ→Option (σ ⊕ ρ)} (l:List α) (hl:l.length < 4611686018427387904) (h:∀ (j:Nat) (hj:j < l.length) (s:σ),f j s=F l[j] s) (s:σ):aH (l.length:Int) f s=tO F l s:=by
 rw [ZB (by omega)]
 have:=Xt l 0 s (f:=f) (F:=F) (fun j hj s=>by rw [Nat.zero_add];exact h j hj s)
 simpa using this
theorem Rw {α β:Type} {g:α→Option β} {l:List α} {i:Nat} (hi:i < l.length) {ks:List β} (h:aM g (l.take i)=some ks):aM g (l.take (i+1))=(g l[i]).map fun b=>ks++[b]:=by
 have app:∀ (a b:List α),aM g (a++b)=(aM g a).bind fun x=>(aM g b).map fun y=>x++y:=by
  intro a
  induction a with
  | nil=>intro b;simp [aM]
  | cons x a ih=>
   intro b
   simp only [List.cons_append,aM,ih]
   cases g x with
   | none=>rfl
   | some y=>
    cases aM g a with
    | none=>rfl
    | some ys=>cases aM g b<;>rfl
 rw [ud hi,app,h]
 simp only [aX,aM]
 cases g l[i]<;>rfl
theorem jO {α β:Type} {g:α→Option β}:∀ {l:List α} {ks:List β},aM g l=some ks→ks.length=l.length
 | [],ks,h=>by cases h;rfl
 | x::l,ks,h=>by
  simp only [aM] at h
  split at h
  ·split at h
   ·rename_i bs hb;cases h;simp [jO hb]
   ·cases h
  ·cases h
theorem yx {α β:Type} {g:α→Option β}:∀ {l:List α} {ks:List β},aM g l=some ks→∀ (i:Nat) (x:α),l[i]?=some x→∃ b,g x=some b∧ks[i]?=some b
 | [],ks,h,i,x,hi=>by simp at hi
 | y::l,ks,h,i,x,hi=>by
  simp only [aM] at h
  split at h
  ·rename_i b hb
   split at h
   ·rename_i bs rR
    cases h
    cases i with
    | zero=>simp at hi;subst hi;exact ⟨b,hb,rfl⟩
    | succ i=>exact yx rR i x (by simpa using hi)
   ·cases h
  ·cases h
theorem Qe {α β:Type} {g:α→Option β}:∀ {l:List α},(∀ x∈l,∃ b,g x=some b)→∃ ks,aM g l=some ks
 | [],_=>⟨[],rfl⟩
 | x::l,h=>by
  obtain ⟨b,hb⟩:=h x (by simp)
  obtain ⟨ks,hk⟩:=Qe (l:=l) (fun y hy=>h y (by simp [hy]))
  exact ⟨b::ks,by simp only [aM,hb,hk]⟩
theorem Ka {α β:Type} {g:α→Option β} {l:List α} {i:Nat} (h:aM g (l.take i)=none):aM g l=none:=by
 cases hl:aM g l with
 | none=>rfl
 | some ks=>
  obtain ⟨ks',hk⟩:=Qe (g:=g) (l:=l.take i) (fun x hx=>by
   obtain ⟨j,hj,e⟩:=List.getElem_of_mem (List.mem_of_mem_take hx)
   obtain ⟨b,hb,_⟩:=yx hl j x (by rw [←e];exact uc hj)
   exact ⟨b,hb⟩)
  rw [hk] at h;cases h
theorem HO {α β ρ:Type} {f:Nat→List β→Option (List β ⊕ ρ)} (l:List α) (g:α→Option β) (s0:List β) (u:ρ) (hlen:s0.length=l.length) (hl:l.length < 4611686018427387904)
  (h:∀ (i:Nat) (hi:i < l.length) (ks:List β),ks.length=i→f i (ks++s0.drop i)=some (match g l[i] with | some b=>.inl ((ks++s0.drop i).set i b) | none=>.inr u)) :
  aH (l.length:Int) f s0=some (match aM g l with | some ks=>.inl ks | none=>.inr u):=by
 obtain ⟨o,h1,h2⟩:=wA (n:=l.length) (s0:=s0) (f:=f) (fun i s=>∃ ks,aM g (l.take i)=some ks∧s=ks++s0.drop i) (fun r=>r=u∧aM g l=none) hl ⟨[],rfl,rfl⟩ (fun i s hi hI=>by
  obtain ⟨ks,hk,rfl⟩:=hI
  have eX:ks.length=i:=by rw [jO hk,List.length_take];omega
  have e:=Rw hi hk
  rw [h i hi ks eX]
  cases hg:g l[i] with
  | none=>
   rw [hg] at e
   exact ⟨.inr u,rfl,rfl,Ka e⟩
  | some b=>
   rw [hg] at e
   refine ⟨_,rfl,ks++[b],e,?_⟩
   have hd:i < s0.length:=by omega
   rw [List.drop_eq_getElem_cons hd,List.set_append_right _ _ (by omega),eX,Nat.sub_self,List.set_cons_zero]
   simp)
 rw [h1]
 cases o with
 | inl s=>
  obtain ⟨ks,hk,rfl⟩:=h2
  rw [List.take_length] at hk
  rw [hk,List.drop_eq_nil_of_le (by omega),uu]
 | inr r=>
  obtain ⟨rfl,hn⟩:=h2
  rw [hn]
def wH (n:Int):Int→List Int→Bool
 | _,[]=>true
 | a,x::r=>(!decide (x≤a) && !decide (n≤x))&&wH n x r
def Ee:Int→List Int→Int
 | a,[]=>a
 | _,x::r=>Ee x r
theorem Ef (n:Int) (l:List Int) (hl:l.length < 4611686018427387904) (a:Int):aH (σ:=Int) (ρ:=Unit) (l.length:Int) (fun i1 s1=>(uz (zf l (i1:Int)) fun e1=>(uz (bif decide (e1≤s1) then some true else some (decide (n≤e1))) fun v1=>(bif v1 then some (.inr ()) else some (.inl e1))))) a=some (bif wH n a l then .inl (Ee a l) else .inr ()):=by
 rw [Rv (F:=fun x s=>bif (decide (x≤s)||decide (n≤x)) then some (.inr ()) else some (.inl x)) l hl (fun j hj s=>by
  simp only [zV,uc hj,aX,zt,Bool.cond_true_left])]
 clear hl
 induction l generalizing a with
 | nil=>rfl
 | cons x r ih=>
  simp only [tO,wH,Ee]
  cases decide (x≤a)<;>cases decide (n≤x)<;>simp [ih]
theorem kD {n:Int}:∀ {a:Int} {l:List Int},wH n a l=true→(∀ x∈l,a < x∧x < n)∧l.Pairwise (· < ·)
 | a,[],_=>⟨fun x hx=>(by cases hx),List.Pairwise.nil⟩
 | a,x::r,h=>by
  simp only [wH,uj,uh,decide_eq_false_iff_not] at h
  obtain ⟨⟨h1,h2⟩,h3⟩:=h
  obtain ⟨h4,h5⟩:=kD h3
  refine ⟨fun y hy => ?_,ug.2 ⟨fun y hy=>(h4 y hy).1,h5⟩⟩
  rcases um.1 hy with rfl | hy
  ·exact ⟨by omega,by omega⟩
  ·have:=h4 y hy;exact ⟨by omega,this.2⟩
theorem HP {n:Int}:∀ {a:Int} {l:List Int},(∀ x∈l,a < x∧x < n)→l.Pairwise (· < ·)→wH n a l=true
 | a,[],_,_=>rfl
 | a,x::r,h,hp=>by
  have h1:=h x (by simp)
  obtain ⟨h2,h3⟩:=ug.1 hp
  simp only [wH,uj,uh,decide_eq_false_iff_not]
  exact ⟨⟨by omega,by omega⟩,HP (fun y hy=>⟨h2 y hy,(h y (by simp [hy])).2⟩) h3⟩
theorem ZF {n:Int}:∀ {a:Int} {l:List Int},wH n a l=true→(l.length:Int)≤0∨a+l.length < n
 | a,[],_=>.inl (by simp)
 | a,x::r,h=>by
  simp only [wH,uj,uh,decide_eq_false_iff_not] at h
  obtain ⟨⟨h1,h2⟩,h3⟩:=h
  rcases ZF h3 with h4 | h4
  ·simp only [ui];omega
  ·simp only [ui];omega
theorem Rx {l:List Int} (h:l.Pairwise (· < ·)):l.Nodup:=h.imp fun h=>by omega
structure Gm where
 n:Nat
 own:Nat→Bool
 lost:Nat→Bool
 succ:Nat→List Nat
def Attr (G:Gm):Nat→Nat→Prop
 | 0,i=>G.lost i=true
 | k+1,i=>G.lost i=true∨(G.own i=true∧∀ t∈G.succ i,Attr G k t)∨(G.own i=false∧∃ t∈G.succ i,Attr G k t)
theorem Attr.zero {G:Gm} {i:Nat} (h:G.lost i=true):∀ k,Attr G k i
 | 0=>h
 | k+1=>.inl h
theorem Attr.gS {G:Gm}:∀ {k i:Nat},Attr G k i→Attr G (k+1) i
 | 0,i,h=>.inl h
 | k+1,i,h=>by
  rcases h with h | ⟨h1,h2⟩ | ⟨h1,t,h2,h3⟩
  ·exact .inl h
  ·exact .inr (.inl ⟨h1,fun t ht=>(h2 t ht).gS⟩)
  ·exact .inr (.inr ⟨h1,t,h2,h3.gS⟩)
theorem Attr.mono {G:Gm} {k k' i:Nat} (hk:k≤k') (h:Attr G k i):Attr G k' i:=by
 induction hk with
 | refl=>exact h
 | step _ ih=>exact ih.gS
def Xu (G:Gm) (r:Nat→Int):Prop:=∀ i,i < G.n → -1≤r i∧∀ k:Nat,(r i ≠ -1∧r i≤k)↔Attr G k i
structure dF (G:Gm) (r:Nat→Int):Prop where
 ge:∀ i,i < G.n → -1≤r i
 zero:∀ i,i < G.n→(G.lost i=true↔r i=0)
 mO:∀ i,i < G.n→G.own i=true→G.lost i=false→r i ≠ -1→(∀ t∈G.succ i,r t ≠ -1∧r t+1≤r i)∧((G.succ i=[]∧r i=1)∨∃ t∈G.succ i,r i=r t+1)
 nK:∀ i,i < G.n→G.own i=true→G.lost i=false→r i = -1→∃ t∈G.succ i,r t = -1
 oI:∀ i,i < G.n→G.own i=false→G.lost i=false→r i ≠ -1→(∃ t∈G.succ i,r t ≠ -1∧r i=r t+1)∧∀ t∈G.succ i,r t ≠ -1→r i≤r t+1
 iV:∀ i,i < G.n→G.own i=false→G.lost i=false→r i = -1→∀ t∈G.succ i,r t = -1
theorem dF.to {G:Gm} {r:Nat→Int} (dZ:∀ i,i < G.n→∀ t∈G.succ i,t < G.n) (h:dF G r):∀ (k i:Nat),i < G.n→r i ≠ -1→r i≤k→Attr G k i
 | 0,i,hi,h1,h2=>(h.zero i hi).2 (by have:=h.ge i hi;omega)
 | k+1,i,hi,h1,h2=>by
  cases hl:G.lost i with
  | true=>exact Attr.zero hl _
  | false=>
   cases ho:G.own i with
   | true=>
    refine .inr (.inl ⟨ho,fun t ht => ?_⟩)
    obtain ⟨h3,h4⟩:=(h.mO i hi ho hl h1).1 t ht
    exact dF.to dZ h k t (dZ i hi t ht) h3 (by omega)
   | false=>
    obtain ⟨⟨t,ht,h3,h4⟩,_⟩:=h.oI i hi ho hl h1
    exact .inr (.inr ⟨ho,t,ht,dF.to dZ h k t (dZ i hi t ht) h3 (by omega)⟩)
theorem dF.from {G:Gm} {r:Nat→Int} (dZ:∀ i,i < G.n→∀ t∈G.succ i,t < G.n) (h:dF G r):∀ (k i:Nat),i < G.n→Attr G k i→r i ≠ -1∧r i≤k
 | 0,i,hi,h1=>by have:=(h.zero i hi).1 h1;omega
 | k+1,i,hi,h1=>by
  cases hl:G.lost i with
  | true=>have:=(h.zero i hi).1 hl;omega
  | false=>
   rcases h1 with h1 | ⟨ho,h2⟩ | ⟨ho,t,ht,h2⟩
   ·rw [hl] at h1;cases h1
   ·have hn:r i ≠ -1:=fun e=>by
     obtain ⟨t,ht,h3⟩:=h.nK i hi ho hl e
     exact (dF.from dZ h k t (dZ i hi t ht) (h2 t ht)).1 h3
    refine ⟨hn,?_⟩
    rcases (h.mO i hi ho hl hn).2 with ⟨_,h3⟩ | ⟨t,ht,h3⟩
    ·omega
    ·have:=(dF.from dZ h k t (dZ i hi t ht) (h2 t ht)).2;omega
   ·obtain ⟨h3,h4⟩:=dF.from dZ h k t (dZ i hi t ht) h2
    have hn:r i ≠ -1:=fun e=>h3 (h.iV i hi ho hl e t ht)
    exact ⟨hn,by have:=(h.oI i hi ho hl hn).2 t ht h3;omega⟩
theorem dF.ok {G:Gm} {r:Nat→Int} (dZ:∀ i,i < G.n→∀ t∈G.succ i,t < G.n) (h:dF G r):Xu G r:=fun i hi=>
 ⟨h.ge i hi,fun k=>⟨fun ⟨h1,h2⟩=>h.to dZ k i hi h1 h2,fun h1=>h.from dZ k i hi h1⟩⟩
def upd {α:Type} (f:Nat→α) (i:Nat) (x:α):Nat→α:=fun j=>if j=i then x else f j
theorem qp {α:Type} (f:Nat→α) (i:Nat) (x:α):upd f i x i=x:=if_pos rfl
theorem zX {α:Type} {f:Nat→α} {i j:Nat} {x:α} (h:j≠i):upd f i x j=f j:=if_neg h
theorem JS {p q:Nat→Bool} {t:Nat}:∀ {l:List Nat},(∀ x,q x=true→p x=true)→t∈l→p t=true→q t=false→l.countP q < l.countP p
 | x::l,Eg,ht,hp,hq=>by
  have hle:l.countP q≤l.countP p:=List.countP_mono_left fun x _=>Eg x
  rcases um.1 ht with rfl | ht
  ·rw [ub (by simp [hq]),ua hp];omega
  ·have:=JS Eg ht hp hq
   by_cases h:q x=true
   ·rw [ua h,ua (Eg x h)];omega
   ·rw [ub h]
    by_cases h2:p x=true
    ·rw [ua h2];omega
    ·rw [ub h2];exact this
def yy (P:List Nat) (t:Nat):Bool := !(P.contains t)
theorem yz {P:List Nat} {t:Nat}:yy P t=true↔t ∉ P:=by simp [yy]
theorem JA {P:List Nat} {u:Nat} (hu:u ∉ P):∀ l:List Nat,l.countP (yy P)=l.countP (yy (P++[u]))+l.count u
 | []=>rfl
 | x::l=>by
  have ih:=JA hu l
  by_cases hx:x=u
  ·subst hx
   rw [ua (yz.2 hu),ub (by simp [yy]),List.count_cons_self];omega
  ·rw [List.count_cons_of_ne hx]
   by_cases hp:x∈P
   ·rw [ub (by simp [yy,hp]),ub (by simp [yy,hp])];exact ih
   ·rw [ua (yz.2 hp),ua (yz.2 (by simp [hp,hx]))];omega
structure Core (G:Gm) (r o:Nat→Int) (K P:List Nat) (c:Nat→Nat):Prop where
 nd:K.Nodup
 lt:∀ x∈K,x < G.n
 mem:∀ i,i < G.n→(i∈K↔r i ≠ -1)
 ge:∀ i,i < G.n → -1≤r i
 mono:K.Pairwise (fun a b=>r a≤r b)
 op:∀ i,i < G.n→o i+c i=((G.succ i).countP (yy P):Int)
 zero:∀ i,i < G.n→(G.lost i=true↔r i=0)
 mO:∀ i,i < G.n→G.own i=true→G.lost i=false→r i ≠ -1→o i=0∧(∀ t∈G.succ i,r t ≠ -1∧r t+1≤r i)∧((G.succ i=[]∧r i=1)∨∃ t∈G.succ i,r i=r t+1)
 nK:∀ i,i < G.n→G.own i=true→G.lost i=false→r i = -1→o i≠0
 oI:∀ i,i < G.n→G.own i=false→G.lost i=false→r i ≠ -1→(∃ t∈G.succ i,r t ≠ -1∧r i=r t+1)∧∀ t∈G.succ i,r t ≠ -1→r i≤r t+1
 iV:∀ i,i < G.n→G.own i=false→G.lost i=false→r i = -1→(∀ t∈G.succ i,t ∉ P)∧c i=0
structure lY (G:Gm) (r o:Nat→Int) (P Q:List Nat):Prop where
 core:Core G r o (P++Q) P fun _=>0
 top:∀ q Q',Q=q::Q'→∀ x∈P++Q,r x≤r q+1
structure fw (G:Gm) (r o:Nat→Int) (P:List Nat) (u:Nat) (Q:List Nat) (c:Nat→Nat):Prop where
 core:Core G r o (P++u::Q) P c
 top:∀ x∈P++u::Q,r x≤r u+1
 le:∀ i,i < G.n→c i≤(G.succ i).count u
theorem lY.enter {G:Gm} {r o:Nat→Int} {P Q:List Nat} {u:Nat} (h:lY G r o P (u::Q)):fw G r o P u Q fun _=>0:=
 ⟨h.core,h.top u Q rfl,fun _ _=>uy _⟩
theorem Core.split {G:Gm} {r o:Nat→Int} {P Q:List Nat} {u:Nat} {c:Nat→Nat} (h:Core G r o (P++u::Q) P c):u ∉ P∧u < G.n∧r u ≠ -1∧(∀ x∈P,r x≤r u)∧(∀ x∈Q,r u≤r x):=by
 have hu:u∈P++u::Q:=by simp
 obtain ⟨h1,h2,h3⟩:=ul.1 h.mono
 refine ⟨fun hp => ?_,h.lt u hu,(h.mem u (h.lt u hu)).1 hu,fun x hx=>h3 x hx u (by simp),(ug.1 h2).1⟩
 exact (uq.1 h.nd).2.2 u hp u (by simp) rfl
theorem fw.leave {G:Gm} {r o:Nat→Int} {P Q:List Nat} {u:Nat} {c:Nat→Nat} (h:fw G r o P u Q c) (hc:∀ i,i < G.n→c i=(G.succ i).count u):lY G r o (P++[u]) Q:=by
 obtain ⟨hu,hun,Cg,hP,hQ⟩:=h.core.split
 have hl:P++[u]++Q=P++u::Q:=by simp
 refine ⟨?_,fun q Q' hq x hx => ?_⟩
 ·rw [hl]
  have C:=h.core
  refine {C with op:=fun i hi => ?_,iV:=fun i hi ho hlo hr => ?_}
  ·have:=C.op i hi
   rw [JA hu,hc i hi] at this
   omega
  ·obtain ⟨h1,h2⟩:=C.iV i hi ho hlo hr
   refine ⟨fun t ht hp => ?_,rfl⟩
   rcases ue.1 hp with hp | hp
   ·exact h1 t ht hp
   ·have:t=u:=by simpa using hp
    subst this
    have:=hc i hi
    rw [h2] at this
    exact List.count_eq_zero.1 this.symm ht
 ·rw [hl] at hx
  have h1:=h.top x hx
  have h2:=hQ q (by rw [hq];simp)
  omega
theorem fw.room {G:Gm} {r o:Nat→Int} {P Q:List Nat} {u:Nat} {c:Nat→Nat} (h:fw G r o P u Q c) {i:Nat} (hi:i < G.n) (hc:c i < (G.succ i).count u):0 < o i:=by
 have h1:=h.core.op i hi
 rw [JA h.core.split.1] at h1
 omega
theorem fw.skip {G:Gm} {r o:Nat→Int} {P Q:List Nat} {u:Nat} {c:Nat→Nat} (h:fw G r o P u Q c) {i:Nat} (hi:i < G.n) (hc:c i < (G.succ i).count u) (hs:r i ≠ -1∨(G.own i=true∧o i - 1≠0)) :
  fw G r (upd o i (o i - 1)) P u Q (upd c i (c i+1)):=by
 have hroom:=h.room hi hc
 have C:=h.core
 refine ⟨{C with op:=fun j hj => ?_,mO:=fun j hj ho hl hr => ?_,nK:=fun j hj ho hl hr => ?_,iV:=fun j hj ho hl hr => ?_},h.top,fun j hj => ?_⟩
 ·by_cases e:j=i
  ·subst e;rw [qp,qp];have:=C.op j hj;omega
  ·rw [zX e,zX e];exact C.op j hj
 ·obtain ⟨h1,h2⟩:=C.mO j hj ho hl hr
  by_cases e:j=i
  ·subst e;omega
  ·rw [zX e];exact ⟨h1,h2⟩
 ·by_cases e:j=i
  ·subst e;rw [qp]
   rcases hs with hs | ⟨_,hs⟩
   ·exact absurd hr hs
   ·exact hs
  ·rw [zX e];exact C.nK j hj ho hl hr
 ·by_cases e:j=i
  ·subst e
   rcases hs with hs | ⟨hs,_⟩
   ·exact absurd hr hs
   ·rw [ho] at hs;cases hs
  ·rw [zX e];exact C.iV j hj ho hl hr
 ·by_cases e:j=i
  ·subst e;rw [qp];exact hc
  ·rw [zX e];exact h.le j hj
theorem fw.settle {G:Gm} (dZ:∀ i,i < G.n→∀ t∈G.succ i,t < G.n) {r o:Nat→Int} {P Q:List Nat} {u:Nat} {c:Nat→Nat} (h:fw G r o P u Q c) {i:Nat} (hi:i < G.n) (hc:c i < (G.succ i).count u) (hr:r i = -1) (hs:G.own i=false∨o i - 1=0) :
  fw G (upd r i (r u+1)) (upd o i (o i - 1)) P u (Q++[i]) (upd c i (c i+1)):=by
 have hroom:=h.room hi hc
 obtain ⟨hu,hun,Cg,hP,hQ⟩:=h.core.split
 have C:=h.core
 have Ry:0≤r u:=by have:=C.ge u hun;omega
 have hne:∀ x∈P++u::Q,x≠i:=fun x hx e=>by subst e;exact (C.mem x hi).1 hx hr
 have AZ:u≠i:=hne u (by simp)
 have hl:P++u::(Q++[i])=(P++u::Q)++[i]:=by simp
 have hnl:G.lost i=false:=by
  cases hx:G.lost i with
  | false=>rfl
  | true=>have:=(C.zero i hi).1 hx;omega
 have hmem:u∈G.succ i:=List.count_pos_iff.1 (by omega)
 refine ⟨?_,?_,?_⟩
 ·rw [hl]
  refine ⟨?_,?_,?_,?_,?_,?_,?_,?_,?_,?_,?_⟩
  ·exact uq.2 ⟨C.nd,by simp,fun a ha b hb=>by have:b=i:=by simpa using hb
                                              subst this;exact hne a ha⟩
  ·intro x hx
   rcases ue.1 hx with hx | hx
   ·exact C.lt x hx
   ·have:x=i:=by simpa using hx
    subst this;exact hi
  ·intro j hj
   by_cases e:j=i
   ·subst e;rw [qp];simp;omega
   ·rw [zX e,←C.mem j hj];simp [e]
  ·intro j hj
   by_cases e:j=i
   ·subst e;rw [qp];omega
   ·rw [zX e];exact C.ge j hj
  ·refine ul.2 ⟨C.mono.imp_of_mem fun {a b} ha hb hab=>by rw [zX (hne a ha),zX (hne b hb)];exact hab,by simp,fun a ha b hb => ?_⟩
   have:b=i:=by simpa using hb
   subst this
   rw [qp,zX (hne a ha)];exact h.top a ha
  ·intro j hj
   by_cases e:j=i
   ·subst e;rw [qp,qp];have:=C.op j hj;omega
   ·rw [zX e,zX e];exact C.op j hj
  ·intro j hj
   by_cases e:j=i
   ·subst e;rw [qp,hnl];constructor
    ·intro hx;cases hx
    ·intro hx;omega
   ·rw [zX e];exact C.zero j hj
  ·intro j hj ho hlo lQ
   by_cases e:j=i
   ·subst e
    rw [qp] at lQ
    have rq:o j - 1=0:=by
     rcases hs with hs | hs
     ·rw [ho] at hs;cases hs
     ·exact hs
    rw [qp,qp]
    have hop:=C.op j hj
    have hall:∀ t∈G.succ j,t∈P∨t=u:=fun t ht=>by
     by_cases tB:t∈P
     ·exact .inl tB
     ·by_cases htu:t=u
      ·exact .inr htu
      ·exfalso
       have hst:=JS (p:=yy P) (q:=fun x=>x == u) (fun x hx=>by have:x=u:=by simpa using hx
                                                               subst this;exact yz.2 hu) ht (yz.2 tB) (by simp [htu])
       have:(G.succ j).countP (fun x=>x == u)=(G.succ j).count u:=rfl
       omega
    refine ⟨rq,fun t ht => ?_,.inr ⟨u,hmem,by rw [zX AZ]⟩⟩
    have pq:t≠j:=by
     rcases hall t ht with h1 | h1
     ·exact hne t (by simp [h1])
     ·rw [h1];exact AZ
    rw [zX pq]
    rcases hall t ht with h1 | h1
    ·exact ⟨(C.mem t (C.lt t (by simp [h1]))).1 (by simp [h1]),by have:=hP t h1;omega⟩
    ·rw [h1];exact ⟨Cg,by omega⟩
   ·rw [zX e] at lQ
    rw [zX e,zX e]
    obtain ⟨h1,h2,h3⟩:=C.mO j hj ho hlo lQ
    refine ⟨h1,fun t ht => ?_,?_⟩
    ·have pq:t≠i:=fun e2=>by rw [e2] at ht;exact (h2 i ht).1 hr
     rw [zX pq];exact h2 t ht
    ·rcases h3 with h3 | ⟨t,ht,h3⟩
     ·exact .inl h3
     ·have pq:t≠i:=fun e2=>by rw [e2] at ht;exact (h2 i ht).1 hr
      exact .inr ⟨t,ht,by rw [zX pq];exact h3⟩
  ·intro j hj ho hlo lQ
   by_cases e:j=i
   ·subst e;rw [qp] at lQ;omega
   ·rw [zX e] at lQ;rw [zX e];exact C.nK j hj ho hlo lQ
  ·intro j hj ho hlo lQ
   by_cases e:j=i
   ·subst e
    rw [qp]
    refine ⟨⟨u,hmem,by rw [zX AZ];exact Cg,by rw [zX AZ]⟩,fun t ht htr => ?_⟩
    by_cases e2:t=j
    ·subst e2;rw [qp];omega
    ·rw [zX e2] at htr ⊢
     obtain ⟨h1,_⟩:=C.iV j hj ho hlo hr
     have htk:=(C.mem t (dZ j hj t ht)).2 htr
     rcases ue.1 htk with h4 | h4
     ·exact absurd h4 (h1 t ht)
     ·rcases um.1 h4 with h4 | h4
      ·rw [h4];omega
      ·have:=hQ t h4;omega
   ·rw [zX e] at lQ
    rw [zX e]
    obtain ⟨⟨t,ht,h1,h2⟩,h3⟩:=C.oI j hj ho hlo lQ
    have fS:=h.top j ((C.mem j hj).2 lQ)
    refine ⟨?_,fun t ht htr => ?_⟩
    ·have pq:t≠i:=fun e2=>by rw [e2] at h1;exact h1 hr
     exact ⟨t,ht,by rw [zX pq];exact h1,by rw [zX pq];exact h2⟩
    ·by_cases e2:t=i
     ·subst e2;rw [qp];omega
     ·rw [zX e2] at htr ⊢; exact h3 t ht htr
  ·intro j hj ho hlo lQ
   by_cases e:j=i
   ·subst e;rw [qp] at lQ;omega
   ·rw [zX e] at lQ;rw [zX e];exact C.iV j hj ho hlo lQ
 ·rw [hl,zX AZ]
  intro x hx
  rcases ue.1 hx with hx | hx
  ·rw [zX (hne x hx)];exact h.top x hx
  ·have:x=i:=by simpa using hx
   subst this;rw [qp];omega
 ·intro j hj
  by_cases e:j=i
  ·subst e;rw [qp];exact hc
  ·rw [zX e];exact h.le j hj
theorem lY.done {G:Gm} {r o:Nat→Int} {P:List Nat} (dZ:∀ i,i < G.n→∀ t∈G.succ i,t < G.n) (h:lY G r o P []):dF G r:=by
 have C:=h.core
 rw [uu] at C
 refine ⟨C.ge,C.zero,fun i hi ho hl hr=>(C.mO i hi ho hl hr).2,fun i hi ho hl hr => ?_,C.oI,fun i hi ho hl hr t ht => ?_⟩
 ·have h1:=C.nK i hi ho hl hr
  have h2:=C.op i hi
  have h3:0 < (G.succ i).countP (yy P):=by omega
  obtain ⟨t,ht,h4⟩:=List.countP_pos_iff.1 h3
  refine ⟨t,ht,?_⟩
  by_cases e:r t = -1
  ·exact e
  ·exact absurd ((C.mem t (dZ i hi t ht)).2 e) (yz.1 h4)
 ·by_cases e:r t = -1
  ·exact e
  ·exact absurd ((C.mem t (dZ i hi t ht)).2 e) ((C.iV i hi ho hl hr).1 t ht)
end Go.Proofs.YtgpojcfkanjabaaGreatDoor
