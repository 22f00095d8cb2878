/-
  From readings to the data of this program's types.
  Plain laws about loops, searches and elements of lists.
  Plain laws: what a computation returns, and loops that build lists.
  Plain laws: loops over lists, loops that set one place after the other, increasing lists.
  Attractors: the positions from which the others can force a breach in some number of moves; and the queue that finds these numbers.
-/
import Derived.Test.YtlpmnmbebkdocaaGreatDoorTG06
import Derived.Test.YtlpmnmbebkdocaaGreatDoorTG05
open List renaming countP_cons_of_pos → ua, countP_cons_of_neg → ub, getElem?_eq_getElem → uc, take_succ_eq_append_getElem → ud, mem_append → ue, pairwise_cons → ug, length_cons → ui, range_eq_range' → uk, pairwise_append → ul, mem_cons → um, range → un, find?_eq_none → uo, nodup_append → uq, range'_succ → ur, find?_cons → ut, append_nil → uu, mem_range → uv, range' → uw
open Option renaming bind → uz
open Bool renaming not_eq_true' → uh, and_eq_true → uj
open Nat renaming le_refl → ux, zero_le → uy
namespace Go.Proofs.YtlpmnmbebkdocaaGreatDoor
open Go.RowKit
set_option linter.unusedVariables false
def aQ.cL:List eD:=[.int .i64,.int .i64]
structure aQ.Ok (x:aQ):Prop where
 num:dL .i64 x.num
 den:dL .i64 x.den
theorem aQ.gS {row:List IV} (h:bS aQ.cL row):∃ x:aQ,row=aQ.row x∧aQ.Ok x:=by
 obtain ⟨c0,_,rfl,h0,h⟩:=zg h
 obtain ⟨c1,_,rfl,h1,h⟩:=zg h
 obtain rfl:=qS h
 obtain ⟨v0,rfl,k0⟩:=zs h0
 obtain ⟨v1,rfl,k1⟩:=zs h1
 exact ⟨⟨v0,v1⟩,rfl,⟨k0,k1⟩⟩
def bQ.cL:List eD:=[.str,.int .i64,.int .i64,.int .i64,.int .i64]
structure bQ.Ok (x:bQ):Prop where
 name:x.name.size≤reachBytes
 kind:dL .i64 x.kind
 base:dL .i64 x.base
 factor:aQ.Ok x.factor
theorem bQ.gS {row:List IV} (h:bS bQ.cL row):∃ x:bQ,row=bQ.row x∧bQ.Ok x:=by
 obtain ⟨c0,_,rfl,h0,h⟩:=zg h
 obtain ⟨c1,_,rfl,h1,h⟩:=zg h
 obtain ⟨c2,_,rfl,h2,h⟩:=zg h
 obtain ⟨c3,_,rfl,h3,h⟩:=zg h
 obtain ⟨c4,_,rfl,h4,h⟩:=zg h
 obtain rfl:=qS h
 obtain ⟨v0,rfl,k0⟩:=P8 h0
 obtain ⟨v1,rfl,k1⟩:=zs h1
 obtain ⟨v2,rfl,k2⟩:=zs h2
 obtain ⟨v3,rfl,k3⟩:=zs h3
 obtain ⟨v4,rfl,k4⟩:=zs h4
 exact ⟨⟨v0,v1,v2,⟨v3,v4⟩⟩,rfl,⟨k0,k1,k2,⟨k3,k4⟩⟩⟩
def aV.cL:List eD:=[.int .i64,.int .i64,.int .i64,.int .i64,.int .i64,.int .i64,.int .i64]
structure aV.Ok (x:aV):Prop where
 kind:dL .i64 x.kind
 bK:dL .i64 x.bK
 bN:dL .i64 x.bN
 to:dL .i64 x.to
 unit:dL .i64 x.unit
 dc:aQ.Ok x.dc
theorem aV.gS {row:List IV} (h:bS aV.cL row):∃ x:aV,row=aV.row x∧aV.Ok x:=by
 obtain ⟨c0,_,rfl,h0,h⟩:=zg h
 obtain ⟨c1,_,rfl,h1,h⟩:=zg h
 obtain ⟨c2,_,rfl,h2,h⟩:=zg h
 obtain ⟨c3,_,rfl,h3,h⟩:=zg h
 obtain ⟨c4,_,rfl,h4,h⟩:=zg h
 obtain ⟨c5,_,rfl,h5,h⟩:=zg h
 obtain ⟨c6,_,rfl,h6,h⟩:=zg h
 obtain rfl:=qS h
 obtain ⟨v0,rfl,k0⟩:=zs h0
 obtain ⟨v1,rfl,k1⟩:=zs h1
 obtain ⟨v2,rfl,k2⟩:=zs h2
 obtain ⟨v3,rfl,k3⟩:=zs h3
 obtain ⟨v4,rfl,k4⟩:=zs h4
 obtain ⟨v5,rfl,k5⟩:=zs h5
 obtain ⟨v6,rfl,k6⟩:=zs h6
 exact ⟨⟨v0,v1,v2,v3,v4,⟨v5,v6⟩⟩,rfl,⟨k0,k1,k2,k3,k4,⟨k5,k6⟩⟩⟩
def cD.cL:List eD:=[.int .i64,.int .i64]
structure cD.Ok (x:cD):Prop where
 clause:dL .i64 x.clause
 is:dL .i64 x.is
theorem cD.gS {row:List IV} (h:bS cD.cL row):∃ x:cD,row=cD.row x∧cD.Ok x:=by
 obtain ⟨c0,_,rfl,h0,h⟩:=zg h
 obtain ⟨c1,_,rfl,h1,h⟩:=zg h
 obtain rfl:=qS h
 obtain ⟨v0,rfl,k0⟩:=zs h0
 obtain ⟨v1,rfl,k1⟩:=zs h1
 exact ⟨⟨v0,v1⟩,rfl,⟨k0,k1⟩⟩
def aK.cL:List eD:=[.int .i64,.int .i64,.int .i64,.int .i64,.slice 16 cD.cL,.int .i64,.int .i64,.bool,.bool,.int .i64,.int .i64,.int .i64,.int .i64,.int .i64,.int .i64,.bool]
structure aK.Ok (x:aK):Prop where
 kind:dL .i64 x.kind
 bK:dL .i64 x.bK
 act:dL .i64 x.act
 need:dL .i64 x.need
 start:l5 16 cD.Ok x.start
 after:dL .i64 x.after
 bq:dL .i64 x.bq
 aL:dL .i64 x.aL
 cX:dL .i64 x.cX
 value:aQ.Ok x.value
 unit:dL .i64 x.unit
 to:dL .i64 x.to
theorem aK.gS {row:List IV} (h:bS aK.cL row):∃ x:aK,row=aK.row x∧aK.Ok x:=by
 obtain ⟨c0,_,rfl,h0,h⟩:=zg h
 obtain ⟨c1,_,rfl,h1,h⟩:=zg h
 obtain ⟨c2,_,rfl,h2,h⟩:=zg h
 obtain ⟨c3,_,rfl,h3,h⟩:=zg h
 obtain ⟨c4,_,rfl,h4,h⟩:=zg h
 obtain ⟨c5,_,rfl,h5,h⟩:=zg h
 obtain ⟨c6,_,rfl,h6,h⟩:=zg h
 obtain ⟨c7,_,rfl,h7,h⟩:=zg h
 obtain ⟨c8,_,rfl,h8,h⟩:=zg h
 obtain ⟨c9,_,rfl,h9,h⟩:=zg h
 obtain ⟨c10,_,rfl,h10,h⟩:=zg h
 obtain ⟨c11,_,rfl,h11,h⟩:=zg h
 obtain ⟨c12,_,rfl,h12,h⟩:=zg h
 obtain ⟨c13,_,rfl,DP,h⟩:=zg h
 obtain ⟨c14,_,rfl,Ra,h⟩:=zg h
 obtain ⟨c15,_,rfl,Rb,h⟩:=zg h
 obtain rfl:=qS h
 obtain ⟨v0,rfl,k0⟩:=zs h0
 obtain ⟨v1,rfl,k1⟩:=zs h1
 obtain ⟨v2,rfl,k2⟩:=zs h2
 obtain ⟨v3,rfl,k3⟩:=zs h3
 obtain ⟨v4,rfl,k4⟩:=qp @cD.gS h4
 obtain ⟨v5,rfl,k5⟩:=zs h5
 obtain ⟨v6,rfl,k6⟩:=zs h6
 obtain ⟨v7,rfl⟩:=wg h7
 obtain ⟨v8,rfl⟩:=wg h8
 obtain ⟨v9,rfl,k9⟩:=zs h9
 obtain ⟨v10,rfl,Rc⟩:=zs h10
 obtain ⟨v11,rfl,Rd⟩:=zs h11
 obtain ⟨v12,rfl,Re⟩:=zs h12
 obtain ⟨Rf,rfl,Rg⟩:=zs DP
 obtain ⟨Rh,rfl,Ri⟩:=zs Ra
 obtain ⟨Rj,rfl⟩:=wg Rb
 exact ⟨⟨v0,v1,v2,v3,v4,v5,v6,v7,v8,v9,v10,⟨v11,v12⟩,Rf,Rh,Rj⟩,rfl,⟨k0,k1,k2,k3,k4,k5,k6,k9,Rc,⟨Rd,Re⟩,Rg,Ri⟩⟩
def aq.cL:List eD:=[.int .i64,.slice 8 [.int .i64],.slice 48 bQ.cL,.slice 56 aV.cL,.slice 136 aK.cL,.int .i64,.slice 8 [.int .i64]]
structure aq.Ok (x:aq):Prop where
 aT:dL .i64 x.aT
 aF:l5 8 (fun x:Int=>dL .i64 x) x.aF
 bB:l5 48 bQ.Ok x.bB
 aC:l5 56 aV.Ok x.aC
 zw:l5 136 aK.Ok x.zw
 bh:dL .i64 x.bh
 off:l5 8 (fun x:Int=>dL .i64 x) x.off
theorem aq.gS {row:List IV} (h:bS aq.cL row):∃ x:aq,row=aq.row x∧aq.Ok x:=by
 obtain ⟨c0,_,rfl,h0,h⟩:=zg h
 obtain ⟨c1,_,rfl,h1,h⟩:=zg h
 obtain ⟨c2,_,rfl,h2,h⟩:=zg h
 obtain ⟨c3,_,rfl,h3,h⟩:=zg h
 obtain ⟨c4,_,rfl,h4,h⟩:=zg h
 obtain ⟨c5,_,rfl,h5,h⟩:=zg h
 obtain ⟨c6,_,rfl,h6,h⟩:=zg h
 obtain rfl:=qS h
 obtain ⟨v0,rfl,k0⟩:=zs h0
 obtain ⟨v1,rfl,k1⟩:=qp ZB h1
 obtain ⟨v2,rfl,k2⟩:=qp @bQ.gS h2
 obtain ⟨v3,rfl,k3⟩:=qp @aV.gS h3
 obtain ⟨v4,rfl,k4⟩:=qp @aK.gS h4
 obtain ⟨v5,rfl,k5⟩:=zs h5
 obtain ⟨v6,rfl,k6⟩:=qp ZB h6
 exact ⟨⟨v0,v1,v2,v3,v4,v5,v6⟩,rfl,⟨k0,k1,k2,k3,k4,k5,k6⟩⟩
def ak.cL:List eD:=[.int .i64,.int .i64,.int .i64,.int .i64,.bool]
structure ak.Ok (x:ak):Prop where
 aR:dL .i64 x.aR
 left:dL .i64 x.left
 got:dL .i64 x.got
 bC:dL .i64 x.bC
theorem ak.gS {row:List IV} (h:bS ak.cL row):∃ x:ak,row=ak.row x∧ak.Ok x:=by
 obtain ⟨c0,_,rfl,h0,h⟩:=zg h
 obtain ⟨c1,_,rfl,h1,h⟩:=zg h
 obtain ⟨c2,_,rfl,h2,h⟩:=zg h
 obtain ⟨c3,_,rfl,h3,h⟩:=zg h
 obtain ⟨c4,_,rfl,h4,h⟩:=zg h
 obtain rfl:=qS h
 obtain ⟨v0,rfl,k0⟩:=zs h0
 obtain ⟨v1,rfl,k1⟩:=zs h1
 obtain ⟨v2,rfl,k2⟩:=zs h2
 obtain ⟨v3,rfl,k3⟩:=zs h3
 obtain ⟨v4,rfl⟩:=wg h4
 exact ⟨⟨v0,v1,v2,v3,v4⟩,rfl,⟨k0,k1,k2,k3⟩⟩
def aH.cL:List eD:=[.int .i64,.slice 8 [.int .i64],.slice 1 [.bool],.slice 40 ak.cL]
structure aH.Ok (x:aH):Prop where
 day:dL .i64 x.day
 aF:l5 8 (fun x:Int=>dL .i64 x) x.aF
 used:l5 1 (fun x:Bool=>True) x.used
 aO:l5 40 ak.Ok x.aO
theorem aH.gS {row:List IV} (h:bS aH.cL row):∃ x:aH,row=aH.row x∧aH.Ok x:=by
 obtain ⟨c0,_,rfl,h0,h⟩:=zg h
 obtain ⟨c1,_,rfl,h1,h⟩:=zg h
 obtain ⟨c2,_,rfl,h2,h⟩:=zg h
 obtain ⟨c3,_,rfl,h3,h⟩:=zg h
 obtain rfl:=qS h
 obtain ⟨v0,rfl,k0⟩:=zs h0
 obtain ⟨v1,rfl,k1⟩:=qp ZB h1
 obtain ⟨v2,rfl,k2⟩:=qp Yd h2
 obtain ⟨v3,rfl,k3⟩:=qp @ak.gS h3
 exact ⟨⟨v0,v1,v2,v3⟩,rfl,⟨k0,k1,k2,k3⟩⟩
def aG.cL:List eD:=[.int .i64,.slice 8 [.int .i64],.slice 1 [.bool],.slice 40 ak.cL,.bool]
structure aG.Ok (x:aG):Prop where
 state:aH.Ok x.state
theorem aG.gS {row:List IV} (h:bS aG.cL row):∃ x:aG,row=aG.row x∧aG.Ok x:=by
 obtain ⟨c0,_,rfl,h0,h⟩:=zg h
 obtain ⟨c1,_,rfl,h1,h⟩:=zg h
 obtain ⟨c2,_,rfl,h2,h⟩:=zg h
 obtain ⟨c3,_,rfl,h3,h⟩:=zg h
 obtain ⟨c4,_,rfl,h4,h⟩:=zg h
 obtain rfl:=qS h
 obtain ⟨v0,rfl,k0⟩:=zs h0
 obtain ⟨v1,rfl,k1⟩:=qp ZB h1
 obtain ⟨v2,rfl,k2⟩:=qp Yd h2
 obtain ⟨v3,rfl,k3⟩:=qp @ak.gS h3
 obtain ⟨v4,rfl⟩:=wg h4
 exact ⟨⟨⟨v0,v1,v2,v3⟩,v4⟩,rfl,⟨⟨k0,k1,k2,k3⟩⟩⟩
def bk.cL:List eD:=[.int .i64,.int .i64]
structure bk.Ok (x:bk):Prop where
 step:dL .i64 x.step
 to:dL .i64 x.to
theorem bk.gS {row:List IV} (h:bS bk.cL row):∃ x:bk,row=bk.row x∧bk.Ok x:=by
 obtain ⟨c0,_,rfl,h0,h⟩:=zg h
 obtain ⟨c1,_,rfl,h1,h⟩:=zg h
 obtain rfl:=qS h
 obtain ⟨v0,rfl,k0⟩:=zs h0
 obtain ⟨v1,rfl,k1⟩:=zs h1
 exact ⟨⟨v0,v1⟩,rfl,⟨k0,k1⟩⟩
def b9.cL:List eD:=[.int .i64,.slice 88 aG.cL,.slice 24 [.slice 16 bk.cL]]
structure b9.Ok (x:b9):Prop where
 aj:dL .i64 x.aj
 aY:l5 88 aG.Ok x.aY
 bg:l5 24 (fun x:List bk=>l5 16 bk.Ok x) x.bg
theorem b9.gS {row:List IV} (h:bS b9.cL row):∃ x:b9,row=b9.row x∧b9.Ok x:=by
 obtain ⟨c0,_,rfl,h0,h⟩:=zg h
 obtain ⟨c1,_,rfl,h1,h⟩:=zg h
 obtain ⟨c2,_,rfl,h2,h⟩:=zg h
 obtain rfl:=qS h
 obtain ⟨v0,rfl,k0⟩:=zs h0
 obtain ⟨v1,rfl,k1⟩:=qp @aG.gS h1
 obtain ⟨v2,rfl,k2⟩:=qp (P9 (bI:=16) @bk.gS) h2
 exact ⟨⟨v0,v1,v2⟩,rfl,⟨k0,k1,k2⟩⟩
def aW.cL:List eD:=[.bool,.int .i64,.int .i64]
structure aW.Ok (x:aW):Prop where
 move:dL .i64 x.move
 wait:dL .i64 x.wait
theorem aW.gS {row:List IV} (h:bS aW.cL row):∃ x:aW,row=aW.row x∧aW.Ok x:=by
 obtain ⟨c0,_,rfl,h0,h⟩:=zg h
 obtain ⟨c1,_,rfl,h1,h⟩:=zg h
 obtain ⟨c2,_,rfl,h2,h⟩:=zg h
 obtain rfl:=qS h
 obtain ⟨v0,rfl⟩:=wg h0
 obtain ⟨v1,rfl,k1⟩:=zs h1
 obtain ⟨v2,rfl,k2⟩:=zs h2
 exact ⟨⟨v0,v1,v2⟩,rfl,⟨k1,k2⟩⟩
def bD.cL:List eD:=[.int .i64,.int .i64,.int .i64,.int .i64,.slice 8 [.int .i64]]
structure bD.Ok (x:bD):Prop where
 kind:dL .i64 x.kind
 aj:dL .i64 x.aj
 clause:dL .i64 x.clause
 other:dL .i64 x.other
 trace:l5 8 (fun x:Int=>dL .i64 x) x.trace
theorem bD.gS {row:List IV} (h:bS bD.cL row):∃ x:bD,row=bD.row x∧bD.Ok x:=by
 obtain ⟨c0,_,rfl,h0,h⟩:=zg h
 obtain ⟨c1,_,rfl,h1,h⟩:=zg h
 obtain ⟨c2,_,rfl,h2,h⟩:=zg h
 obtain ⟨c3,_,rfl,h3,h⟩:=zg h
 obtain ⟨c4,_,rfl,h4,h⟩:=zg h
 obtain rfl:=qS h
 obtain ⟨v0,rfl,k0⟩:=zs h0
 obtain ⟨v1,rfl,k1⟩:=zs h1
 obtain ⟨v2,rfl,k2⟩:=zs h2
 obtain ⟨v3,rfl,k3⟩:=zs h3
 obtain ⟨v4,rfl,k4⟩:=qp ZB h4
 exact ⟨⟨v0,v1,v2,v3,v4⟩,rfl,⟨k0,k1,k2,k3,k4⟩⟩
def bL.cL:List eD:=[.int .i64,.int .i64]
structure bL.Ok (x:bL):Prop where
 from_:dL .i64 x.from_
 step:dL .i64 x.step
theorem bL.gS {row:List IV} (h:bS bL.cL row):∃ x:bL,row=bL.row x∧bL.Ok x:=by
 obtain ⟨c0,_,rfl,h0,h⟩:=zg h
 obtain ⟨c1,_,rfl,h1,h⟩:=zg h
 obtain rfl:=qS h
 obtain ⟨v0,rfl,k0⟩:=zs h0
 obtain ⟨v1,rfl,k1⟩:=zs h1
 exact ⟨⟨v0,v1⟩,rfl,⟨k0,k1⟩⟩
end Go.Proofs.YtlpmnmbebkdocaaGreatDoor
namespace Go.Proofs.YtlpmnmbebkdocaaGreatDoor
set_option linter.unusedSimpArgs false
set_option linter.unusedVariables false
def Jq {σ ρ:Type} (A:σ→Prop) (Q:ρ→Prop):σ ⊕ ρ→Prop
 | .inl s=>A s
 | .inr r=>Q r
theorem Xm {σ ρ:Type} {f:Nat→σ→Option (σ ⊕ ρ)} {Inv:Nat→σ→Prop} {Q:ρ→Prop} (n:Nat)
  (step:∀ (i:Nat) (s:σ),i < n→Inv i s→∃ o,f i s=some o∧Jq (Inv (i+1)) Q o) :
  ∀ (k i:Nat) (s:σ),i+k=n→Inv i s→∃ o,bF f i k s=some o∧Jq (Inv n) Q o
 | 0,i,s,h,hi=>⟨.inl s,rfl,by obtain rfl:i=n:=by omega
                              exact hi⟩
 | k+1,i,s,h,hi=>by
  obtain ⟨o,h1,h2⟩:=step i s (by omega) hi
  simp only [bF,h1]
  cases o with
  | inl s'=>exact Xm n step k (i+1) s' (by omega) h2
  | inr r=>exact ⟨.inr r,rfl,h2⟩
theorem HU {σ ρ:Type} {f:Nat→σ→Option (σ ⊕ ρ)} {n:Int} {s0:σ} (Inv:Nat→σ→Prop) (Q:ρ→Prop) (hn:n < 4611686018427387904)
  (h0:Inv 0 s0) (step:∀ (i:Nat) (s:σ),(i:Int) < n→Inv i s→∃ o,f i s=some o∧Jq (Inv (i+1)) Q o) :
  ∃ o,aE n f s0=some o∧Jq (Inv n.toNat) Q o:=by
 rw [Zx hn]
 exact Xm n.toNat (fun i s hi=>step i s (by omega)) n.toNat 0 s0 (by omega) h0
theorem wy {σ ρ:Type} {f:Nat→σ→Option (σ ⊕ ρ)} {n:Nat} {s0:σ} (Inv:Nat→σ→Prop) (Q:ρ→Prop) (hn:n < 4611686018427387904)
  (h0:Inv 0 s0) (step:∀ (i:Nat) (s:σ),i < n→Inv i s→∃ o,f i s=some o∧Jq (Inv (i+1)) Q o) :
  ∃ o,aE (n:Int) f s0=some o∧Jq (Inv n) Q o:=by
 have:=HU (n:=(n:Int)) Inv Q (by omega) h0 (fun i s hi=>step i s (by omega))
 simpa using this
theorem HV {σ ρ:Type} {f:σ→Option (σ ⊕ ρ)} (Inv:σ→Prop) (Q:ρ→Prop) (m:σ→Nat)
  (step:∀ s,Inv s→∃ o,f s=some o∧Jq (fun s'=>Inv s'∧m s' < m s) Q o):∀ s0,Inv s0→∃ r,iter f s0=some r∧Q r:=by
 have key:∀ (k:Nat) (s:σ),m s < k→Inv s→∃ r,iter f s=some r∧Q r:=by
  intro k
  induction k with
  | zero=>intro s h;omega
  | succ k ih=>
   intro s hk hs
   obtain ⟨o,h1,h2⟩:=step s hs
   rw [N9,h1]
   cases o with
   | inl s'=>exact ih s' (by have:=h2.2;omega) h2.1
   | inr r=>exact ⟨r,rfl,h2⟩
 exact fun s0 h=>key _ s0 (Nat.lt_succ_self _) h
theorem JJ {ρ:Type} {f:Nat→Unit→Option (Unit ⊕ ρ)} {p:Nat→Bool} {g:Nat→ρ}:∀ (k i:Nat),(∀ j,i≤j→j < i+k→f j ()=some (bif p j then .inl () else .inr (g j))) →
  bF f i k ()=some (match (uw i k).find? (fun j=>!p j) with | none=>.inl () | some j=>.inr (g j))
 | 0,i,h=>rfl
 | k+1,i,h=>by
  simp only [bF,h i (ux _) (by omega),ur,ut]
  cases hp:p i with
  | true=>
   simp only [cond_true,Bool.not_true]
   exact JJ k (i+1) fun j h1 h2=>h j (by omega) (by omega)
  | false=>simp
theorem wz {ρ:Type} {f:Nat→Unit→Option (Unit ⊕ ρ)} {n:Nat} (p:Nat→Bool) (g:Nat→ρ) (hn:n < 4611686018427387904) (h:∀ j,j < n→f j ()=some (bif p j then .inl () else .inr (g j))) :
  aE (n:Int) f ()=some (match (un n).find? (fun j=>!p j) with | none=>.inl () | some j=>.inr (g j)):=by
 rw [Zx (by omega)]
 have:=JJ (f:=f) (p:=p) (g:=g) n 0 (fun j _ h2=>h j (by omega))
 simpa [uk] using this
theorem ki {n:Nat} {p:Nat→Bool} (h:(un n).find? (fun j=>!p j)=none):∀ j,j < n→p j=true:=fun j hj=>by
 have:=uo.1 h j (uv.2 hj)
 simpa using this
theorem Rk {n:Nat} {p:Nat→Bool} (h:∀ j,j < n→p j=true):(un n).find? (fun j=>!p j)=none:=
 uo.2 fun j hj=>by simp [h j (uv.1 hj)]
theorem WQ {q:Nat→Bool}:∀ (k a i:Nat),(uw a k).find? q=some i→i < a+k∧a≤i∧q i=true∧∀ j,a≤j→j < i→q j=false
 | 0,a,i,h=>by simp at h
 | k+1,a,i,h=>by
  rw [ur,ut] at h
  split at h
  ·rename_i hq
   cases h
   exact ⟨by omega,ux _,hq,fun j h1 h2=>by omega⟩
  ·rename_i hq
   obtain ⟨h1,h2,h3,h4⟩:=WQ k (a+1) i h
   exact ⟨by omega,by omega,h3,fun j h5 h6=>by
    rcases Nat.eq_or_lt_of_le h5 with h7 | h7
    ·subst h7;exact hq
    ·exact h4 j (by omega) h6⟩
theorem kj {n i:Nat} {p:Nat→Bool} (h:(un n).find? (fun j=>!p j)=some i):i < n∧p i=false∧∀ j,j < i→p j=true:=by
 rw [uk] at h
 obtain ⟨h1,_,h2,h3⟩:=WQ n 0 i h
 exact ⟨by omega,by simpa using h2,fun j hj=>by simpa using h3 j (uy _) hj⟩
theorem zx {α:Type} (b:Bool) (x y:α):(bif b then some x else some y)=some (bif b then x else y):=by cases b<;>rfl
theorem zB {α:Type} {l:List α} {i:Nat} {e:α} (h:l[i]?=some e):ze l (i:Int)=some e:=by
 unfold ze;rw [if_pos (by omega)];simpa using h
theorem zH {α:Type} (l:List α) (i:Nat):ze l (i:Int)=l[i]?:=by
 unfold ze;rw [if_pos (by omega)];simp
theorem q6 {α:Type} {l:List α} {n:Int} (h0:0≤n) (h1:n < l.length):∃ h:n.toNat < l.length,ze l n=some l[n.toNat]:=by
 have h:n.toNat < l.length:=by omega
 exact ⟨h,by unfold ze;rw [if_pos h0];exact uc h⟩
theorem ZC {α:Type} {l:List α} {n:Int} (h:¬ (0≤n∧n < l.length)):ze l n=none:=by
 unfold ze
 split
 ·exact List.getElem?_eq_none (by omega)
 ·rfl
theorem HW {len:Nat} {n:Int} (h0:0≤n) (h1:n < len):zh len n=some n.toNat:=by unfold zh;rw [if_pos ⟨h0,h1⟩]
theorem zM {len i:Nat} (h:i < len):zh len (i:Int)=some i:=by unfold zh;rw [if_pos ⟨by omega,by omega⟩];simp
def ay {α:Type} (x:Option α) (Q:α→Prop):Prop:=∃ r,x=some r∧Q r
theorem ay.some {α:Type} {a:α} {Q:α→Prop} (h:Q a):ay (Option.some a) Q:=⟨a,rfl,h⟩
theorem ay.bind {α β:Type} {x:Option α} {f:α→Option β} {P:α→Prop} {Q:β→Prop} (hx:ay x P) (hf:∀ v,P v→ay (f v) Q):ay (x.bind f) Q:=by
 obtain ⟨v,rfl,hv⟩:=hx
 exact hf v hv
theorem ay.ax {α β:Type} {x:Option α} {f:α→Option β} {v:α} {Q:β→Prop} (hx:x=Option.some v) (hf:ay (f v) Q):ay (x.bind f) Q:=by
 subst hx;exact hf
theorem ay.ite {α:Type} {b:Bool} {x y:Option α} {Q:α→Prop} (h1:b=true→ay x Q) (h2:b=false→ay y Q):ay (bif b then x else y) Q:=by
 cases b
 ·exact h2 rfl
 ·exact h1 rfl
theorem ay.mono {α:Type} {x:Option α} {P Q:α→Prop} (h:ay x P) (hq:∀ r,P r→Q r):ay x Q:=by
 obtain ⟨r,h1,h2⟩:=h;exact ⟨r,h1,hq r h2⟩
theorem ay.eq {α:Type} {x:Option α} {a:α} (h:ay x (· = a)):x=Option.some a:=by obtain ⟨r,h1,rfl⟩:=h;exact h1
theorem ay.of {α:Type} {x:Option α} {a:α} (h:x=Option.some a):ay x (· = a):=⟨a,h,rfl⟩
theorem ay.eE {σ ρ:Type} {f:Nat→σ→Option (σ ⊕ ρ)} {n:Nat} {s0:σ} {Q:σ ⊕ ρ→Prop} (Inv:Nat→σ→Prop) (hn:n < 4611686018427387904) (h0:Inv 0 s0)
  (step:∀ (i:Nat) (s:σ),i < n→Inv i s→ay (f i s) (Jq (Inv (i+1)) fun r=>Q (.inr r))) (hQ:∀ s,Inv n s→Q (.inl s)):ay (aE (n:Int) f s0) Q:=by
 obtain ⟨o,h1,h2⟩:=wy (n:=n) (s0:=s0) (f:=f) Inv (fun r=>Q (.inr r)) hn h0 step
 refine ⟨o,h1,?_⟩
 cases o with
 | inl s=>exact hQ s h2
 | inr r=>exact h2
theorem ay.iter {σ ρ:Type} {f:σ→Option (σ ⊕ ρ)} {s0:σ} {Q:ρ→Prop} (Inv:σ→Prop) (m:σ→Nat) (h0:Inv s0)
 (step:∀ s,Inv s→ay (f s) (Jq (fun s'=>Inv s'∧m s' < m s) Q)):ay (Go.Proofs.YtlpmnmbebkdocaaGreatDoor.iter f s0) Q:=HV (f:=f) Inv Q m step s0 h0
theorem ay.idx {α:Type} {l:List α} {n:Int} {Q:α→Prop} (h0:0≤n) (h1:n < l.length) (h:∀ hi:n.toNat < l.length,Q l[n.toNat]):ay (ze l n) Q:=by
 obtain ⟨hi,e⟩:=q6 h0 h1
 exact ⟨_,e,h hi⟩
theorem WR {σ ρ α β:Type} {f:Nat→σ→Option (σ ⊕ ρ)} (l:List α) (g:α→β) (st:List β→σ) (h:∀ (i:Nat) (hi:i < l.length),f i (st ((l.take i).map g))=some (.inl (st ((l.take i).map g++[g l[i]])))) :
  ∀ (k i:Nat),i+k=l.length→bF f i k (st ((l.take i).map g))=some (.inl (st (l.map g)))
 | 0,i,hk=>by simp only [bF];rw [List.take_of_length_le (by omega)]
 | k+1,i,hk=>by
  have hi:i < l.length:=by omega
  have e:(l.take (i+1)).map g=(l.take i).map g++[g l[i]]:=by rw [ud hi,List.map_append];rfl
  simp only [bF,h i hi]
  rw [←e]
  exact WR l g st h k (i+1) (by omega)
theorem Rm {σ ρ α β:Type} {f:Nat→σ→Option (σ ⊕ ρ)} (l:List α) (g:α→β) (st:List β→σ) (hl:l.length < 4611686018427387904) (h:∀ (i:Nat) (hi:i < l.length),f i (st ((l.take i).map g))=some (.inl (st ((l.take i).map g++[g l[i]])))) {s0:σ} (h0:s0=st []) :
  aE (l.length:Int) f s0=some (.inl (st (l.map g))):=by
 rw [Zx (by omega),h0]
 have:=WR l g st h l.length 0 (by omega)
 simpa using this
theorem yq {α:Type} {bI:Nat} {l m:List α} (h:(l.length+m.length)*bI≤140737488355328):zO bI l m=some (l++m):=by unfold zO;rw [if_pos h]
def tV {α σ ρ:Type} (F:α→σ→Option (σ ⊕ ρ)):List α→σ→Option (σ ⊕ ρ)
 | [],s=>some (.inl s)
 | x::r,s=>match F x s with
  | none=>none
  | some (.inr y)=>some (.inr y)
  | some (.inl s')=>tV F r s'
theorem Xn {α σ ρ:Type} {f:Nat→σ→Option (σ ⊕ ρ)} {F:α→σ→Option (σ ⊕ ρ)}:∀ (l:List α) (i:Nat) (s:σ),(∀ (j:Nat) (hj:j < l.length) (s:σ),f (i+j) s=F l[j] s)→bF f i l.length s=tV F l s
 | [],i,s,h=>rfl
 | x::r,i,s,h=>by
  have h0:=h 0 (by simp) s
  simp only [Nat.add_zero,List.getElem_cons_zero] at h0
  simp only [ui,bF,tV,h0]
  have ih:∀ s',bF f (i+1) r.length s'=tV F r s':=fun s'=>Xn r (i+1) s' (f:=f) (F:=F) fun j hj s=>by
   have:=h (j+1) (by simpa using hj) s
   simp only [List.getElem_cons_succ] at this
   rw [←this];congr 1;omega
  cases F x s with
  | none=>rfl
  | some o=>
   cases o with
   | inl s'=>exact ih s'
   | inr y=>rfl
theorem Rn {α σ ρ:Type} {f:Nat→σ→Option (σ ⊕ ρ)} {F:α→σ→Option (σ ⊕ ρ)} (l:List α) (hl:l.length < 4611686018427387904) (h:∀ (j:Nat) (hj:j < l.length) (s:σ),f j s=F l[j] s) (s:σ):aE (l.length:Int) f s=tV F l s:=by
 rw [Zx (by omega)]
 have:=Xn l 0 s (f:=f) (F:=F) (fun j hj s=>by rw [Nat.zero_add];exact h j hj s)
 simpa using this
theorem Ro {α β:Type} {g:α→Option β} {l:List α} {i:Nat} (hi:i < l.length) {ks:List β} (h:aI g (l.take i)=some ks):aI g (l.take (i+1))=(g l[i]).map fun b=>ks++[b]:=by
 have app:∀ (a b:List α),aI g (a++b)=(aI g a).bind fun x=>(aI g b).map fun y=>x++y:=by
  intro a
  induction a with
  | nil=>intro b;simp [aI]
  | cons x a ih=>
   intro b
   simp only [List.cons_append,aI,ih]
   cases g x with
   | none=>rfl
   | some y=>
    cases aI g a with
    | none=>rfl
    | some ys=>cases aI g b<;>rfl
 rw [ud hi,app,h]
 simp only [bf,aI]
 cases g l[i]<;>rfl
theorem jS {α β:Type} {g:α→Option β}:∀ {l:List α} {ks:List β},aI g l=some ks→ks.length=l.length
 | [],ks,h=>by cases h;rfl
 | x::l,ks,h=>by
  simp only [aI] at h
  split at h
  ·split at h
   ·rename_i bs hb;cases h;simp [jS hb]
   ·cases h
  ·cases h
theorem yr {α β:Type} {g:α→Option β}:∀ {l:List α} {ks:List β},aI g l=some ks→∀ (i:Nat) (x:α),l[i]?=some x→∃ b,g x=some b∧ks[i]?=some b
 | [],ks,h,i,x,hi=>by simp at hi
 | y::l,ks,h,i,x,hi=>by
  simp only [aI] at h
  split at h
  ·rename_i b hb
   split at h
   ·rename_i bs rT
    cases h
    cases i with
    | zero=>simp at hi;subst hi;exact ⟨b,hb,rfl⟩
    | succ i=>exact yr rT i x (by simpa using hi)
   ·cases h
  ·cases h
theorem Z3 {α β:Type} {g:α→Option β}:∀ {l:List α},(∀ x∈l,∃ b,g x=some b)→∃ ks,aI g l=some ks
 | [],_=>⟨[],rfl⟩
 | x::l,h=>by
  obtain ⟨b,hb⟩:=h x (by simp)
  obtain ⟨ks,hk⟩:=Z3 (l:=l) (fun y hy=>h y (by simp [hy]))
  exact ⟨b::ks,by simp only [aI,hb,hk]⟩
theorem Ke {α β:Type} {g:α→Option β} {l:List α} {i:Nat} (h:aI g (l.take i)=none):aI g l=none:=by
 cases hl:aI g l with
 | none=>rfl
 | some ks=>
  obtain ⟨ks',hk⟩:=Z3 (g:=g) (l:=l.take i) (fun x hx=>by
   obtain ⟨j,hj,e⟩:=List.getElem_of_mem (List.mem_of_mem_take hx)
   obtain ⟨b,hb,_⟩:=yr hl j x (by rw [←e];exact uc hj)
   exact ⟨b,hb⟩)
  rw [hk] at h;cases h
theorem HX {α β ρ:Type} {f:Nat→List β→Option (List β ⊕ ρ)} (l:List α) (g:α→Option β) (s0:List β) (u:ρ) (hlen:s0.length=l.length) (hl:l.length < 4611686018427387904)
  (h:∀ (i:Nat) (hi:i < l.length) (ks:List β),ks.length=i→f i (ks++s0.drop i)=some (match g l[i] with | some b=>.inl ((ks++s0.drop i).set i b) | none=>.inr u)) :
  aE (l.length:Int) f s0=some (match aI g l with | some ks=>.inl ks | none=>.inr u):=by
 obtain ⟨o,h1,h2⟩:=wy (n:=l.length) (s0:=s0) (f:=f) (fun i s=>∃ ks,aI g (l.take i)=some ks∧s=ks++s0.drop i) (fun r=>r=u∧aI g l=none) hl ⟨[],rfl,rfl⟩ (fun i s hi hI=>by
  obtain ⟨ks,hk,rfl⟩:=hI
  have fF:ks.length=i:=by rw [jS hk,List.length_take];omega
  have e:=Ro hi hk
  rw [h i hi ks fF]
  cases hg:g l[i] with
  | none=>
   rw [hg] at e
   exact ⟨.inr u,rfl,rfl,Ke e⟩
  | some b=>
   rw [hg] at e
   refine ⟨_,rfl,ks++[b],e,?_⟩
   have hd:i < s0.length:=by omega
   rw [List.drop_eq_getElem_cons hd,List.set_append_right _ _ (by omega),fF,Nat.sub_self,List.set_cons_zero]
   simp)
 rw [h1]
 cases o with
 | inl s=>
  obtain ⟨ks,hk,rfl⟩:=h2
  rw [List.take_length] at hk
  rw [hk,List.drop_eq_nil_of_le (by omega),uu]
 | inr r=>
  obtain ⟨rfl,hn⟩:=h2
  rw [hn]
def wF (n:Int):Int→List Int→Bool
 | _,[]=>true
 | a,x::r=>(!decide (x≤a) && !decide (n≤x))&&wF n x r
def DX:Int→List Int→Int
 | a,[]=>a
 | _,x::r=>DX x r
theorem DY (n:Int) (l:List Int) (hl:l.length < 4611686018427387904) (a:Int):aE (σ:=Int) (ρ:=Unit) (l.length:Int) (fun i1 s1=>(uz (ze l (i1:Int)) fun e1=>(uz (bif decide (e1≤s1) then some true else some (decide (n≤e1))) fun v1=>(bif v1 then some (.inr ()) else some (.inl e1))))) a=some (bif wF n a l then .inl (DX a l) else .inr ()):=by
 rw [Rn (F:=fun x s=>bif (decide (x≤s)||decide (n≤x)) then some (.inr ()) else some (.inl x)) l hl (fun j hj s=>by
  simp only [zH,uc hj,bf,zx,Bool.cond_true_left])]
 clear hl
 induction l generalizing a with
 | nil=>rfl
 | cons x r ih=>
  simp only [tV,wF,DX]
  cases decide (x≤a)<;>cases decide (n≤x)<;>simp [ih]
theorem wh {n:Int}:∀ {a:Int} {l:List Int},wF n a l=true→(∀ x∈l,a < x∧x < n)∧l.Pairwise (· < ·)
 | a,[],_=>⟨fun x hx=>(by cases hx),List.Pairwise.nil⟩
 | a,x::r,h=>by
  simp only [wF,uj,uh,decide_eq_false_iff_not] at h
  obtain ⟨⟨h1,h2⟩,h3⟩:=h
  obtain ⟨h4,h5⟩:=wh h3
  refine ⟨fun y hy => ?_,ug.2 ⟨fun y hy=>(h4 y hy).1,h5⟩⟩
  rcases um.1 hy with rfl | hy
  ·exact ⟨by omega,by omega⟩
  ·have:=h4 y hy;exact ⟨by omega,this.2⟩
theorem Wf {n:Int}:∀ {a:Int} {l:List Int},(∀ x∈l,a < x∧x < n)→l.Pairwise (· < ·)→wF n a l=true
 | a,[],_,_=>rfl
 | a,x::r,h,hp=>by
  have h1:=h x (by simp)
  obtain ⟨h2,h3⟩:=ug.1 hp
  simp only [wF,uj,uh,decide_eq_false_iff_not]
  exact ⟨⟨by omega,by omega⟩,Wf (fun y hy=>⟨h2 y hy,(h y (by simp [hy])).2⟩) h3⟩
theorem ZD {n:Int}:∀ {a:Int} {l:List Int},wF n a l=true→(l.length:Int)≤0∨a+l.length < n
 | a,[],_=>.inl (by simp)
 | a,x::r,h=>by
  simp only [wF,uj,uh,decide_eq_false_iff_not] at h
  obtain ⟨⟨h1,h2⟩,h3⟩:=h
  rcases ZD h3 with h4 | h4
  ·simp only [ui];omega
  ·simp only [ui];omega
theorem Rp {l:List Int} (h:l.Pairwise (· < ·)):l.Nodup:=h.imp fun h=>by omega
structure Gm where
 n:Nat
 own:Nat→Bool
 lost:Nat→Bool
 succ:Nat→List Nat
def Attr (G:Gm):Nat→Nat→Prop
 | 0,i=>G.lost i=true
 | k+1,i=>G.lost i=true∨(G.own i=true∧∀ t∈G.succ i,Attr G k t)∨(G.own i=false∧∃ t∈G.succ i,Attr G k t)
theorem Attr.zero {G:Gm} {i:Nat} (h:G.lost i=true):∀ k,Attr G k i
 | 0=>h
 | k+1=>.inl h
theorem Attr.gT {G:Gm}:∀ {k i:Nat},Attr G k i→Attr G (k+1) i
 | 0,i,h=>.inl h
 | k+1,i,h=>by
  rcases h with h | ⟨h1,h2⟩ | ⟨h1,t,h2,h3⟩
  ·exact .inl h
  ·exact .inr (.inl ⟨h1,fun t ht=>(h2 t ht).gT⟩)
  ·exact .inr (.inr ⟨h1,t,h2,h3.gT⟩)
theorem Attr.mono {G:Gm} {k k' i:Nat} (hk:k≤k') (h:Attr G k i):Attr G k' i:=by
 induction hk with
 | refl=>exact h
 | step _ ih=>exact ih.gT
def Xo (G:Gm) (r:Nat→Int):Prop:=∀ i,i < G.n → -1≤r i∧∀ k:Nat,(r i ≠ -1∧r i≤k)↔Attr G k i
structure dI (G:Gm) (r:Nat→Int):Prop where
 ge:∀ i,i < G.n → -1≤r i
 zero:∀ i,i < G.n→(G.lost i=true↔r i=0)
 mS:∀ i,i < G.n→G.own i=true→G.lost i=false→r i ≠ -1→(∀ t∈G.succ i,r t ≠ -1∧r t+1≤r i)∧((G.succ i=[]∧r i=1)∨∃ t∈G.succ i,r i=r t+1)
 nK:∀ i,i < G.n→G.own i=true→G.lost i=false→r i = -1→∃ t∈G.succ i,r t = -1
 oA:∀ i,i < G.n→G.own i=false→G.lost i=false→r i ≠ -1→(∃ t∈G.succ i,r t ≠ -1∧r i=r t+1)∧∀ t∈G.succ i,r t ≠ -1→r i≤r t+1
 iY:∀ i,i < G.n→G.own i=false→G.lost i=false→r i = -1→∀ t∈G.succ i,r t = -1
theorem dI.to {G:Gm} {r:Nat→Int} (dZ:∀ i,i < G.n→∀ t∈G.succ i,t < G.n) (h:dI G r):∀ (k i:Nat),i < G.n→r i ≠ -1→r i≤k→Attr G k i
 | 0,i,hi,h1,h2=>(h.zero i hi).2 (by have:=h.ge i hi;omega)
 | k+1,i,hi,h1,h2=>by
  cases hl:G.lost i with
  | true=>exact Attr.zero hl _
  | false=>
   cases ho:G.own i with
   | true=>
    refine .inr (.inl ⟨ho,fun t ht => ?_⟩)
    obtain ⟨h3,h4⟩:=(h.mS i hi ho hl h1).1 t ht
    exact dI.to dZ h k t (dZ i hi t ht) h3 (by omega)
   | false=>
    obtain ⟨⟨t,ht,h3,h4⟩,_⟩:=h.oA i hi ho hl h1
    exact .inr (.inr ⟨ho,t,ht,dI.to dZ h k t (dZ i hi t ht) h3 (by omega)⟩)
theorem dI.from {G:Gm} {r:Nat→Int} (dZ:∀ i,i < G.n→∀ t∈G.succ i,t < G.n) (h:dI G r):∀ (k i:Nat),i < G.n→Attr G k i→r i ≠ -1∧r i≤k
 | 0,i,hi,h1=>by have:=(h.zero i hi).1 h1;omega
 | k+1,i,hi,h1=>by
  cases hl:G.lost i with
  | true=>have:=(h.zero i hi).1 hl;omega
  | false=>
   rcases h1 with h1 | ⟨ho,h2⟩ | ⟨ho,t,ht,h2⟩
   ·rw [hl] at h1;cases h1
   ·have hn:r i ≠ -1:=fun e=>by
     obtain ⟨t,ht,h3⟩:=h.nK i hi ho hl e
     exact (dI.from dZ h k t (dZ i hi t ht) (h2 t ht)).1 h3
    refine ⟨hn,?_⟩
    rcases (h.mS i hi ho hl hn).2 with ⟨_,h3⟩ | ⟨t,ht,h3⟩
    ·omega
    ·have:=(dI.from dZ h k t (dZ i hi t ht) (h2 t ht)).2;omega
   ·obtain ⟨h3,h4⟩:=dI.from dZ h k t (dZ i hi t ht) h2
    have hn:r i ≠ -1:=fun e=>h3 (h.iY i hi ho hl e t ht)
    exact ⟨hn,by have:=(h.oA i hi ho hl hn).2 t ht h3;omega⟩
theorem dI.ok {G:Gm} {r:Nat→Int} (dZ:∀ i,i < G.n→∀ t∈G.succ i,t < G.n) (h:dI G r):Xo G r:=fun i hi=>
 ⟨h.ge i hi,fun k=>⟨fun ⟨h1,h2⟩=>h.to dZ k i hi h1 h2,fun h1=>h.from dZ k i hi h1⟩⟩
def upd {α:Type} (f:Nat→α) (i:Nat) (x:α):Nat→α:=fun j=>if j=i then x else f j
theorem qu {α:Type} (f:Nat→α) (i:Nat) (x:α):upd f i x i=x:=if_pos rfl
theorem zZ {α:Type} {f:Nat→α} {i j:Nat} {x:α} (h:j≠i):upd f i x j=f j:=if_neg h
theorem JK {p q:Nat→Bool} {t:Nat}:∀ {l:List Nat},(∀ x,q x=true→p x=true)→t∈l→p t=true→q t=false→l.countP q < l.countP p
 | x::l,DZ,ht,hp,hq=>by
  have hle:l.countP q≤l.countP p:=List.countP_mono_left fun x _=>DZ x
  rcases um.1 ht with rfl | ht
  ·rw [ub (by simp [hq]),ua hp];omega
  ·have:=JK DZ ht hp hq
   by_cases h:q x=true
   ·rw [ua h,ua (DZ x h)];omega
   ·rw [ub h]
    by_cases h2:p x=true
    ·rw [ua h2];omega
    ·rw [ub h2];exact this
def yt (P:List Nat) (t:Nat):Bool := !(P.contains t)
theorem yu {P:List Nat} {t:Nat}:yt P t=true↔t ∉ P:=by simp [yt]
theorem Jr {P:List Nat} {u:Nat} (hu:u ∉ P):∀ l:List Nat,l.countP (yt P)=l.countP (yt (P++[u]))+l.count u
 | []=>rfl
 | x::l=>by
  have ih:=Jr hu l
  by_cases hx:x=u
  ·subst hx
   rw [ua (yu.2 hu),ub (by simp [yt]),List.count_cons_self];omega
  ·rw [List.count_cons_of_ne hx]
   by_cases hp:x∈P
   ·rw [ub (by simp [yt,hp]),ub (by simp [yt,hp])];exact ih
   ·rw [ua (yu.2 hp),ua (yu.2 (by simp [hp,hx]))];omega
structure Core (G:Gm) (r o:Nat→Int) (K P:List Nat) (c:Nat→Nat):Prop where
 nd:K.Nodup
 lt:∀ x∈K,x < G.n
 mem:∀ i,i < G.n→(i∈K↔r i ≠ -1)
 ge:∀ i,i < G.n → -1≤r i
 mono:K.Pairwise (fun a b=>r a≤r b)
 op:∀ i,i < G.n→o i+c i=((G.succ i).countP (yt P):Int)
 zero:∀ i,i < G.n→(G.lost i=true↔r i=0)
 mS:∀ i,i < G.n→G.own i=true→G.lost i=false→r i ≠ -1→o i=0∧(∀ t∈G.succ i,r t ≠ -1∧r t+1≤r i)∧((G.succ i=[]∧r i=1)∨∃ t∈G.succ i,r i=r t+1)
 nK:∀ i,i < G.n→G.own i=true→G.lost i=false→r i = -1→o i≠0
 oA:∀ i,i < G.n→G.own i=false→G.lost i=false→r i ≠ -1→(∃ t∈G.succ i,r t ≠ -1∧r i=r t+1)∧∀ t∈G.succ i,r t ≠ -1→r i≤r t+1
 iY:∀ i,i < G.n→G.own i=false→G.lost i=false→r i = -1→(∀ t∈G.succ i,t ∉ P)∧c i=0
structure l6 (G:Gm) (r o:Nat→Int) (P Q:List Nat):Prop where
 core:Core G r o (P++Q) P fun _=>0
 top:∀ q Q',Q=q::Q'→∀ x∈P++Q,r x≤r q+1
structure fH (G:Gm) (r o:Nat→Int) (P:List Nat) (u:Nat) (Q:List Nat) (c:Nat→Nat):Prop where
 core:Core G r o (P++u::Q) P c
 top:∀ x∈P++u::Q,r x≤r u+1
 le:∀ i,i < G.n→c i≤(G.succ i).count u
theorem l6.enter {G:Gm} {r o:Nat→Int} {P Q:List Nat} {u:Nat} (h:l6 G r o P (u::Q)):fH G r o P u Q fun _=>0:=
 ⟨h.core,h.top u Q rfl,fun _ _=>uy _⟩
theorem Core.split {G:Gm} {r o:Nat→Int} {P Q:List Nat} {u:Nat} {c:Nat→Nat} (h:Core G r o (P++u::Q) P c):u ∉ P∧u < G.n∧r u ≠ -1∧(∀ x∈P,r x≤r u)∧(∀ x∈Q,r u≤r x):=by
 have hu:u∈P++u::Q:=by simp
 obtain ⟨h1,h2,h3⟩:=ul.1 h.mono
 refine ⟨fun hp => ?_,h.lt u hu,(h.mem u (h.lt u hu)).1 hu,fun x hx=>h3 x hx u (by simp),(ug.1 h2).1⟩
 exact (uq.1 h.nd).2.2 u hp u (by simp) rfl
theorem fH.leave {G:Gm} {r o:Nat→Int} {P Q:List Nat} {u:Nat} {c:Nat→Nat} (h:fH G r o P u Q c) (hc:∀ i,i < G.n→c i=(G.succ i).count u):l6 G r o (P++[u]) Q:=by
 obtain ⟨hu,hun,Cc,hP,hQ⟩:=h.core.split
 have hl:P++[u]++Q=P++u::Q:=by simp
 refine ⟨?_,fun q Q' hq x hx => ?_⟩
 ·rw [hl]
  have C:=h.core
  refine {C with op:=fun i hi => ?_,iY:=fun i hi ho hlo hr => ?_}
  ·have:=C.op i hi
   rw [Jr hu,hc i hi] at this
   omega
  ·obtain ⟨h1,h2⟩:=C.iY i hi ho hlo hr
   refine ⟨fun t ht hp => ?_,rfl⟩
   rcases ue.1 hp with hp | hp
   ·exact h1 t ht hp
   ·have:t=u:=by simpa using hp
    subst this
    have:=hc i hi
    rw [h2] at this
    exact List.count_eq_zero.1 this.symm ht
 ·rw [hl] at hx
  have h1:=h.top x hx
  have h2:=hQ q (by rw [hq];simp)
  omega
theorem fH.room {G:Gm} {r o:Nat→Int} {P Q:List Nat} {u:Nat} {c:Nat→Nat} (h:fH G r o P u Q c) {i:Nat} (hi:i < G.n) (hc:c i < (G.succ i).count u):0 < o i:=by
 have h1:=h.core.op i hi
 rw [Jr h.core.split.1] at h1
 omega
theorem fH.skip {G:Gm} {r o:Nat→Int} {P Q:List Nat} {u:Nat} {c:Nat→Nat} (h:fH G r o P u Q c) {i:Nat} (hi:i < G.n) (hc:c i < (G.succ i).count u) (hs:r i ≠ -1∨(G.own i=true∧o i - 1≠0)) :
  fH G r (upd o i (o i - 1)) P u Q (upd c i (c i+1)):=by
 have hroom:=h.room hi hc
 have C:=h.core
 refine ⟨{C with op:=fun j hj => ?_,mS:=fun j hj ho hl hr => ?_,nK:=fun j hj ho hl hr => ?_,iY:=fun j hj ho hl hr => ?_},h.top,fun j hj => ?_⟩
 ·by_cases e:j=i
  ·subst e;rw [qu,qu];have:=C.op j hj;omega
  ·rw [zZ e,zZ e];exact C.op j hj
 ·obtain ⟨h1,h2⟩:=C.mS j hj ho hl hr
  by_cases e:j=i
  ·subst e;omega
  ·rw [zZ e];exact ⟨h1,h2⟩
 ·by_cases e:j=i
  ·subst e;rw [qu]
   rcases hs with hs | ⟨_,hs⟩
   ·exact absurd hr hs
   ·exact hs
  ·rw [zZ e];exact C.nK j hj ho hl hr
 ·by_cases e:j=i
  ·subst e
   rcases hs with hs | ⟨hs,_⟩
   ·exact absurd hr hs
   ·rw [ho] at hs;cases hs
  ·rw [zZ e];exact C.iY j hj ho hl hr
 ·by_cases e:j=i
  ·subst e;rw [qu];exact hc
  ·rw [zZ e];exact h.le j hj
theorem fH.settle {G:Gm} (dZ:∀ i,i < G.n→∀ t∈G.succ i,t < G.n) {r o:Nat→Int} {P Q:List Nat} {u:Nat} {c:Nat→Nat} (h:fH G r o P u Q c) {i:Nat} (hi:i < G.n) (hc:c i < (G.succ i).count u) (hr:r i = -1) (hs:G.own i=false∨o i - 1=0) :
  fH G (upd r i (r u+1)) (upd o i (o i - 1)) P u (Q++[i]) (upd c i (c i+1)):=by
 have hroom:=h.room hi hc
 obtain ⟨hu,hun,Cc,hP,hQ⟩:=h.core.split
 have C:=h.core
 have Rq:0≤r u:=by have:=C.ge u hun;omega
 have hne:∀ x∈P++u::Q,x≠i:=fun x hx e=>by subst e;exact (C.mem x hi).1 hx hr
 have A6:u≠i:=hne u (by simp)
 have hl:P++u::(Q++[i])=(P++u::Q)++[i]:=by simp
 have lB:G.lost i=false:=by
  cases hx:G.lost i with
  | false=>rfl
  | true=>have:=(C.zero i hi).1 hx;omega
 have hmem:u∈G.succ i:=List.count_pos_iff.1 (by omega)
 refine ⟨?_,?_,?_⟩
 ·rw [hl]
  refine ⟨?_,?_,?_,?_,?_,?_,?_,?_,?_,?_,?_⟩
  ·exact uq.2 ⟨C.nd,by simp,fun a ha b hb=>by have:b=i:=by simpa using hb
                                              subst this;exact hne a ha⟩
  ·intro x hx
   rcases ue.1 hx with hx | hx
   ·exact C.lt x hx
   ·have:x=i:=by simpa using hx
    subst this;exact hi
  ·intro j hj
   by_cases e:j=i
   ·subst e;rw [qu];simp;omega
   ·rw [zZ e,←C.mem j hj];simp [e]
  ·intro j hj
   by_cases e:j=i
   ·subst e;rw [qu];omega
   ·rw [zZ e];exact C.ge j hj
  ·refine ul.2 ⟨C.mono.imp_of_mem fun {a b} ha hb hab=>by rw [zZ (hne a ha),zZ (hne b hb)];exact hab,by simp,fun a ha b hb => ?_⟩
   have:b=i:=by simpa using hb
   subst this
   rw [qu,zZ (hne a ha)];exact h.top a ha
  ·intro j hj
   by_cases e:j=i
   ·subst e;rw [qu,qu];have:=C.op j hj;omega
   ·rw [zZ e,zZ e];exact C.op j hj
  ·intro j hj
   by_cases e:j=i
   ·subst e;rw [qu,lB];constructor
    ·intro hx;cases hx
    ·intro hx;omega
   ·rw [zZ e];exact C.zero j hj
  ·intro j hj ho hlo lS
   by_cases e:j=i
   ·subst e
    rw [qu] at lS
    have rp:o j - 1=0:=by
     rcases hs with hs | hs
     ·rw [ho] at hs;cases hs
     ·exact hs
    rw [qu,qu]
    have hop:=C.op j hj
    have hall:∀ t∈G.succ j,t∈P∨t=u:=fun t ht=>by
     by_cases tI:t∈P
     ·exact .inl tI
     ·by_cases htu:t=u
      ·exact .inr htu
      ·exfalso
       have hst:=JK (p:=yt P) (q:=fun x=>x == u) (fun x hx=>by have:x=u:=by simpa using hx
                                                               subst this;exact yu.2 hu) ht (yu.2 tI) (by simp [htu])
       have:(G.succ j).countP (fun x=>x == u)=(G.succ j).count u:=rfl
       omega
    refine ⟨rp,fun t ht => ?_,.inr ⟨u,hmem,by rw [zZ A6]⟩⟩
    have o3:t≠j:=by
     rcases hall t ht with h1 | h1
     ·exact hne t (by simp [h1])
     ·rw [h1];exact A6
    rw [zZ o3]
    rcases hall t ht with h1 | h1
    ·exact ⟨(C.mem t (C.lt t (by simp [h1]))).1 (by simp [h1]),by have:=hP t h1;omega⟩
    ·rw [h1];exact ⟨Cc,by omega⟩
   ·rw [zZ e] at lS
    rw [zZ e,zZ e]
    obtain ⟨h1,h2,h3⟩:=C.mS j hj ho hlo lS
    refine ⟨h1,fun t ht => ?_,?_⟩
    ·have o3:t≠i:=fun e2=>by rw [e2] at ht;exact (h2 i ht).1 hr
     rw [zZ o3];exact h2 t ht
    ·rcases h3 with h3 | ⟨t,ht,h3⟩
     ·exact .inl h3
     ·have o3:t≠i:=fun e2=>by rw [e2] at ht;exact (h2 i ht).1 hr
      exact .inr ⟨t,ht,by rw [zZ o3];exact h3⟩
  ·intro j hj ho hlo lS
   by_cases e:j=i
   ·subst e;rw [qu] at lS;omega
   ·rw [zZ e] at lS;rw [zZ e];exact C.nK j hj ho hlo lS
  ·intro j hj ho hlo lS
   by_cases e:j=i
   ·subst e
    rw [qu]
    refine ⟨⟨u,hmem,by rw [zZ A6];exact Cc,by rw [zZ A6]⟩,fun t ht A7 => ?_⟩
    by_cases e2:t=j
    ·subst e2;rw [qu];omega
    ·rw [zZ e2] at A7 ⊢
     obtain ⟨h1,_⟩:=C.iY j hj ho hlo hr
     have htk:=(C.mem t (dZ j hj t ht)).2 A7
     rcases ue.1 htk with h4 | h4
     ·exact absurd h4 (h1 t ht)
     ·rcases um.1 h4 with h4 | h4
      ·rw [h4];omega
      ·have:=hQ t h4;omega
   ·rw [zZ e] at lS
    rw [zZ e]
    obtain ⟨⟨t,ht,h1,h2⟩,h3⟩:=C.oA j hj ho hlo lS
    have fe:=h.top j ((C.mem j hj).2 lS)
    refine ⟨?_,fun t ht A7 => ?_⟩
    ·have o3:t≠i:=fun e2=>by rw [e2] at h1;exact h1 hr
     exact ⟨t,ht,by rw [zZ o3];exact h1,by rw [zZ o3];exact h2⟩
    ·by_cases e2:t=i
     ·subst e2;rw [qu];omega
     ·rw [zZ e2] at A7 ⊢; exact h3 t ht A7
  ·intro j hj ho hlo lS
   by_cases e:j=i
   ·subst e;rw [qu] at lS;omega
   ·rw [zZ e] at lS;rw [zZ e];exact C.iY j hj ho hlo lS
 ·rw [hl,zZ A6]
  intro x hx
  rcases ue.1 hx with hx | hx
  ·rw [zZ (hne x hx)];exact h.top x hx
  ·have:x=i:=by simpa using hx
   subst this;rw [qu];omega
 ·intro j hj
  by_cases e:j=i
  ·subst e;rw [qu];exact hc
  ·rw [zZ e];exact h.le j hj
theorem l6.done {G:Gm} {r o:Nat→Int} {P:List Nat} (dZ:∀ i,i < G.n→∀ t∈G.succ i,t < G.n) (h:l6 G r o P []):dI G r:=by
 have C:=h.core
 rw [uu] at C
 refine ⟨C.ge,C.zero,fun i hi ho hl hr=>(C.mS i hi ho hl hr).2,fun i hi ho hl hr => ?_,C.oA,fun i hi ho hl hr t ht => ?_⟩
 ·have h1:=C.nK i hi ho hl hr
  have h2:=C.op i hi
  have h3:0 < (G.succ i).countP (yt P):=by omega
  obtain ⟨t,ht,h4⟩:=List.countP_pos_iff.1 h3
  refine ⟨t,ht,?_⟩
  by_cases e:r t = -1
  ·exact e
  ·exact absurd ((C.mem t (dZ i hi t ht)).2 e) (yu.1 h4)
 ·by_cases e:r t = -1
  ·exact e
  ·exact absurd ((C.mem t (dZ i hi t ht)).2 e) ((C.iY i hi ho hl hr).1 t ht)
end Go.Proofs.YtlpmnmbebkdocaaGreatDoor
