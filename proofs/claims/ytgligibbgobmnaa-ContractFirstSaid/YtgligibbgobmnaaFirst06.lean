/-
  Functions of the program: their abstract code, what they compute (printed by a program of ours), and that they do so.
-/
import Derived.Test.YtgligibbgobmnaaFirst05
namespace Go.Proofs.Ytgligibbgobmnaa
open Go.RowKit
set_option linter.unusedVariables false
set_option linter.unusedSimpArgs false
set_option maxRecDepth 100000

theorem r40_0_1 {C : Ctx} {nt : Nat} (HH : HasA C) (c : ContractT)  (P : Exit → St → Prop) (h : P .normal ⟨[(1, .ptr 0 0 0)], [(0, .rows 7 [rowA (ContractT.row c)])], 2⟩) : awp C nt (.region false [] ri40_0 (some [1])) P ⟨[(0, .imm (.agg (ContractT.row c)))], [], 0⟩ := by
  exact reg_fast [] AllP.nil h (by kernel_rfl)

theorem r40_1_2 {C : Ctx} {nt : Nat} (HH : HasA C) (c : ContractT)  (P : Exit → St → Prop) (h : P .normal ⟨[(1, .ptr 0 0 0), (7, vI (c.holders.length : Int)), (8, vI 0)], [(0, .rows 7 [rowA (ContractT.row c)])], 6⟩) : awp C nt (.region false [] ri40_1 (some [1, 7, 8])) P ⟨[(1, .ptr 0 0 0)], [(0, .rows 7 [rowA (ContractT.row c)])], 2⟩ := by
  exact reg_fast [.n (c.holders.length : Int)] (AllP.cons (len_side rowI c.holders) .nil) h (by kernel_rfl)

theorem r40_2_3 {C : Ctx} {nt : Nat} (HH : HasA C) (c : ContractT) (i1 : Nat)  (P : Exit → St → Prop) (h : P .normal ⟨[(1, .ptr 0 0 0), (7, vI (c.holders.length : Int)), (8, vI (i1 : Int)), (9, vB (decide ((i1 : Int) < (c.holders.length : Int))))], [(0, .rows 7 [rowA (ContractT.row c)])], 7⟩) : awp C nt (.region false [] ri40_2 (some [1, 7, 8, 9])) P ⟨[(1, .ptr 0 0 0), (7, vI (c.holders.length : Int)), (8, vI (i1 : Int))], [(0, .rows 7 [rowA (ContractT.row c)])], 6⟩ := by
  exact reg_fast [] AllP.nil h (by kernel_rfl)

theorem r40_3_4 {C : Ctx} {nt : Nat} (HH : HasA C) (c : ContractT) (i1 : Nat)  (P : Exit → St → Prop) (h : P .normal ⟨[(1, .ptr 0 0 0), (7, vI (c.holders.length : Int)), (8, vI (i1 : Int)), (3, vI (i1 : Int))], [(0, .rows 7 [rowA (ContractT.row c)])], 9⟩) : awp C nt (.region false [] ri40_3 (some [1, 3, 7, 8])) P ⟨[(1, .ptr 0 0 0), (7, vI (c.holders.length : Int)), (8, vI (i1 : Int)), (9, vB (decide ((i1 : Int) < (c.holders.length : Int))))], [(0, .rows 7 [rowA (ContractT.row c)])], 7⟩ := by
  exact reg_fast [] AllP.nil h (by kernel_rfl)

theorem r40_4_5 {C : Ctx} {nt : Nat} (HH : HasA C) (c : ContractT) (i1 : Nat)  (P : Exit → St → Prop) (h : P .normal ⟨[(1, .ptr 0 0 0), (7, vI (c.holders.length : Int)), (8, vI (i1 : Int)), (3, vI (i1 : Int)), (12, vI c.parties), (13, vI 0)], [(0, .rows 7 [rowA (ContractT.row c)])], 12⟩) : awp C nt (.region false [] ri40_4 (some [1, 3, 7, 8, 12, 13])) P ⟨[(1, .ptr 0 0 0), (7, vI (c.holders.length : Int)), (8, vI (i1 : Int)), (3, vI (i1 : Int))], [(0, .rows 7 [rowA (ContractT.row c)])], 9⟩ := by
  exact reg_fast [] AllP.nil h (by kernel_rfl)

theorem r40_5_6 {C : Ctx} {nt : Nat} (HH : HasA C) (c : ContractT) (i1 : Nat) (i2 : Nat)  (P : Exit → St → Prop) (h : P .normal ⟨[(1, .ptr 0 0 0), (7, vI (c.holders.length : Int)), (8, vI (i1 : Int)), (3, vI (i1 : Int)), (12, vI c.parties), (13, vI (i2 : Int)), (14, vB (decide ((i2 : Int) < c.parties)))], [(0, .rows 7 [rowA (ContractT.row c)])], 13⟩) : awp C nt (.region false [] ri40_5 (some [1, 3, 7, 8, 12, 13, 14])) P ⟨[(1, .ptr 0 0 0), (7, vI (c.holders.length : Int)), (8, vI (i1 : Int)), (3, vI (i1 : Int)), (12, vI c.parties), (13, vI (i2 : Int))], [(0, .rows 7 [rowA (ContractT.row c)])], 12⟩ := by
  exact reg_fast [] AllP.nil h (by kernel_rfl)

theorem r40_6_7 {C : Ctx} {nt : Nat} (HH : HasA C) (c : ContractT) (i1 : Nat) (i2 : Nat)  (P : Exit → St → Prop) (h : P .normal ⟨[(1, .ptr 0 0 0), (7, vI (c.holders.length : Int)), (8, vI (i1 : Int)), (3, vI (i1 : Int)), (12, vI c.parties), (13, vI (i2 : Int)), (4, vI (i2 : Int))], [(0, .rows 7 [rowA (ContractT.row c)])], 15⟩) : awp C nt (.region false [] ri40_6 (some [1, 3, 4, 7, 8, 12, 13])) P ⟨[(1, .ptr 0 0 0), (7, vI (c.holders.length : Int)), (8, vI (i1 : Int)), (3, vI (i1 : Int)), (12, vI c.parties), (13, vI (i2 : Int)), (14, vB (decide ((i2 : Int) < c.parties)))], [(0, .rows 7 [rowA (ContractT.row c)])], 13⟩ := by
  exact reg_fast [] AllP.nil h (by kernel_rfl)

theorem r40_7_8 {C : Ctx} {nt : Nat} (HH : HasA C) (c : ContractT) (i1 : Nat) (i2 : Nat) (e1 : Int) (he1 : idxI c.holders (i1 : Int) = some e1) (P : Exit → St → Prop) (h : P .normal ⟨[(1, .ptr 0 0 0), (7, vI (c.holders.length : Int)), (8, vI (i1 : Int)), (3, vI (i1 : Int)), (12, vI c.parties), (13, vI (i2 : Int)), (22, vB (e1 == (i2 : Int)))], [(0, .rows 7 [rowA (ContractT.row c)])], 22⟩) : awp C nt (.region false [] ri40_7 (some [1, 3, 7, 8, 12, 13, 22])) P ⟨[(1, .ptr 0 0 0), (7, vI (c.holders.length : Int)), (8, vI (i1 : Int)), (3, vI (i1 : Int)), (12, vI c.parties), (13, vI (i2 : Int)), (4, vI (i2 : Int))], [(0, .rows 7 [rowA (ContractT.row c)])], 15⟩ := by
  exact reg_fast [.r (rowI e1)] (AllP.cons (idx_side rowI he1) .nil) h (by kernel_rfl)

theorem r40_8_9 {C : Ctx} {nt : Nat} (HH : HasA C) (c : ContractT) (i1 : Nat) (i2 : Nat) (e1 : Int)  (P : Exit → St → Prop) (h : P .normal ⟨[(1, .ptr 0 0 0), (7, vI (c.holders.length : Int)), (8, vI (i1 : Int)), (3, vI (i1 : Int)), (12, vI c.parties), (13, vI (IntKind.i64.wrap ((i2 : Int) + 1)))], [(0, .rows 7 [rowA (ContractT.row c)])], 24⟩) : awp C nt (.region false [] ri40_8 (some [1, 3, 7, 8, 12, 13])) P ⟨[(1, .ptr 0 0 0), (7, vI (c.holders.length : Int)), (8, vI (i1 : Int)), (3, vI (i1 : Int)), (12, vI c.parties), (13, vI (i2 : Int)), (22, vB (e1 == (i2 : Int)))], [(0, .rows 7 [rowA (ContractT.row c)])], 22⟩ := by
  exact reg_fast [] AllP.nil h (by kernel_rfl)

theorem r40_5_10 {C : Ctx} {nt : Nat} (HH : HasA C) (c : ContractT) (i1 : Nat) (i2 : Nat)  (P : Exit → St → Prop) (h : P .normal ⟨[(1, .ptr 0 0 0), (7, vI (c.holders.length : Int)), (8, vI (i1 : Int)), (3, vI (i1 : Int)), (12, vI c.parties), (13, vI (i2 : Int)), (14, vB (decide ((i2 : Int) < c.parties)))], [(0, .rows 7 [rowA (ContractT.row c)])], 13⟩) : awp C nt (.region false [] ri40_5 (some [1, 3, 7, 8, 12, 13, 14])) P ⟨[(1, .ptr 0 0 0), (7, vI (c.holders.length : Int)), (8, vI (i1 : Int)), (3, vI (i1 : Int)), (12, vI c.parties), (13, vI (i2 : Int))], [(0, .rows 7 [rowA (ContractT.row c)])], 12⟩ := by
  exact reg_fast [] AllP.nil h (by kernel_rfl)

theorem r40_9_11 {C : Ctx} {nt : Nat} (HH : HasA C) (c : ContractT) (i1 : Nat) (i2 : Nat)  (P : Exit → St → Prop) (h : P .normal ⟨[(2, vB false)], [(0, .rows 7 [rowA (ContractT.row c)])], 14⟩) : awp C nt (.region false [] ri40_9 (some [2])) P ⟨[(1, .ptr 0 0 0), (7, vI (c.holders.length : Int)), (8, vI (i1 : Int)), (3, vI (i1 : Int)), (12, vI c.parties), (13, vI (i2 : Int)), (14, vB (decide ((i2 : Int) < c.parties)))], [(0, .rows 7 [rowA (ContractT.row c)])], 13⟩ := by
  exact reg_fast [] AllP.nil h (by kernel_rfl)

theorem r40_10_12 {C : Ctx} {nt : Nat} (HH : HasA C) (c : ContractT) (i1 : Nat)  (P : Exit → St → Prop) (h : P .normal ⟨[(1, .ptr 0 0 0), (7, vI (c.holders.length : Int)), (8, vI (IntKind.i64.wrap ((i1 : Int) + 1)))], [(0, .rows 7 [rowA (ContractT.row c)])], 14⟩) : awp C nt (.region false [] ri40_10 (some [1, 7, 8])) P ⟨[(1, .ptr 0 0 0), (7, vI (c.holders.length : Int)), (8, vI (i1 : Int))], [(0, .rows 7 [rowA (ContractT.row c)])], 12⟩ := by
  exact reg_fast [] AllP.nil h (by kernel_rfl)

theorem r40_2_13 {C : Ctx} {nt : Nat} (HH : HasA C) (c : ContractT) (i1 : Nat)  (P : Exit → St → Prop) (h : P .normal ⟨[(1, .ptr 0 0 0), (7, vI (c.holders.length : Int)), (8, vI (i1 : Int)), (9, vB (decide ((i1 : Int) < (c.holders.length : Int))))], [(0, .rows 7 [rowA (ContractT.row c)])], 7⟩) : awp C nt (.region false [] ri40_2 (some [1, 7, 8, 9])) P ⟨[(1, .ptr 0 0 0), (7, vI (c.holders.length : Int)), (8, vI (i1 : Int))], [(0, .rows 7 [rowA (ContractT.row c)])], 6⟩ := by
  exact reg_fast [] AllP.nil h (by kernel_rfl)

theorem r40_11_14 {C : Ctx} {nt : Nat} (HH : HasA C) (c : ContractT) (i1 : Nat)  (P : Exit → St → Prop) (h : P .normal ⟨[(2, vB true)], [(0, .rows 7 [rowA (ContractT.row c)])], 8⟩) : awp C nt (.region false [] ri40_11 (some [2])) P ⟨[(1, .ptr 0 0 0), (7, vI (c.holders.length : Int)), (8, vI (i1 : Int)), (9, vB (decide ((i1 : Int) < (c.holders.length : Int))))], [(0, .rows 7 [rowA (ContractT.row c)])], 7⟩ := by
  exact reg_fast [] AllP.nil h (by kernel_rfl)

noncomputable def d_held (c : ContractT) : Option Bool :=
  (Option.bind (forR (σ := Unit) (ρ := Unit) (c.holders.length : Int) (fun i1 s1 => (Option.bind (α := Unit ⊕ Unit) (Option.bind (forR (σ := Unit) (ρ := Unit) c.parties (fun i2 s2 => (Option.bind (idxI c.holders (i1 : Int)) fun e1 => (bif (e1 == (i2 : Int)) then some (.inr ()) else some (.inl ())))) ()) (Sum.elim (fun (s2 : Unit) => some (.inr ())) (fun (y1 : Unit) => some (.inl ())))) (Sum.elim (fun (v1 : Unit) => some (.inl ())) (fun (y2 : Unit) => some (.inr ()))))) ()) (Sum.elim (fun (s1 : Unit) => some true) (fun (y3 : Unit) => some false)))
set_option maxHeartbeats 4000000 in
theorem t_held {C : Ctx} (HH : HasA C) (c : ContractT) (res : Bool) (hd : d_held c = some res) : APure C 40 [.agg (ContractT.row c)] (.bool res) := by
  refine APure.start HH.h40 5 (by simp [af40]) ?_
  unfold d_held at hd
  show awp C _ af40.body (EndsR af40.results _) ⟨[(0, .imm (.agg (ContractT.row c)))], [], 0⟩
  refine awp_seq ?_
  refine r40_0_1 HH c _ ?_
  refine then_n ?_
  refine awp_scope ?_
  refine awp_seq ?_
  refine awp_skip ?_
  refine then_n ?_
  refine awp_seq ?_
  refine awp_seq ?_
  refine r40_1_2 HH c _ ?_
  refine then_n ?_
  refine awp_block ?_
  obtain ⟨o2, hl_o2, hd_1⟩ := obind hd; clear hd
  refine awp_forR hl_o2 (fun i1 s1 => [(1, .ptr 0 0 0), (7, vI (c.holders.length : Int)), (8, vI (i1 : Int))]) (fun i1 s1 => [(0, .rows 7 [rowA (ContractT.row c)])]) ?_ ?_ ?_
  · exact weak_run [1, 7, 8] [(0, true)] 6 [] [] AllP.nil (by kernel_rfl)
  · intro i1 s1 o hi_i1 hw_i1 hs_s1
    refine awp_seq ?_
    refine r40_2_3 HH c i1 _ ?_
    refine then_n ?_
    refine awp_seq ?_
    refine awp_ifT (by simp [*]) ?_
    refine awp_skip ?_
    refine then_n ?_
    obtain ⟨o_v1, hc_v1, hs_s1_1⟩ := obind hs_s1; clear hs_s1
    rcases o_v1 with v1 | o_v1
    · refine awp_seqW ⟨[(1, .ptr 0 0 0), (7, vI (c.holders.length : Int)), (8, vI (i1 : Int))], [(0, .rows 7 [rowA (ContractT.row c)])], 12⟩ (by simp) ?_ ?_
      · skip
        refine awp_block ?_
        refine awp_seq ?_
        refine r40_3_4 HH c i1 _ ?_
        refine then_n ?_
        refine awp_seq ?_
        refine awp_seq ?_
        refine r40_4_5 HH c i1 _ ?_
        refine then_n ?_
        refine awp_block ?_
        obtain ⟨o1, hl_o1, hc_v1_1⟩ := obind hc_v1; clear hc_v1
        refine awp_forR hl_o1 (fun i2 s2 => [(1, .ptr 0 0 0), (7, vI (c.holders.length : Int)), (8, vI (i1 : Int)), (3, vI (i1 : Int)), (12, vI c.parties), (13, vI (i2 : Int))]) (fun i2 s2 => [(0, .rows 7 [rowA (ContractT.row c)])]) ?_ ?_ ?_
        · exact weak_run [1, 7, 8, 3, 12, 13] [(0, true)] 12 [] [] AllP.nil (by kernel_rfl)
        · intro i2 s2 o hi_i2 hw_i2 hs_s2
          refine awp_seq ?_
          refine r40_5_6 HH c i1 i2 _ ?_
          refine then_n ?_
          refine awp_seq ?_
          refine awp_ifT (by simp [*]) ?_
          refine awp_skip ?_
          refine then_n ?_
          refine awp_seq ?_
          refine awp_block ?_
          refine awp_seq ?_
          refine r40_6_7 HH c i1 i2 _ ?_
          refine then_n ?_
          refine awp_seq ?_
          obtain ⟨e1, he1, hs_s2_1⟩ := obind hs_s2; clear hs_s2
          refine r40_7_8 HH c i1 i2 e1 he1 _ ?_
          clear he1
          refine then_n ?_
          refine awp_if (e1 == (i2 : Int)) rfl (fun g => ?_) (fun g => ?_)
          · replace hs_s2_1 := cond_t g hs_s2_1
            refine awp_exit ?_
            refine inb_ne (by decide) ?_
            refine then_x ?_
            cases hs_s2_1
            refine ⟨_, rfl, fun hq => ?_⟩
            subst hq
            replace hc_v1_1 := sel_r hc_v1_1
            refine inb_ne (by decide) ?_
            refine then_x ?_
            refine inb_eq ?_
            have ee := Sum.inl.inj (Option.some.inj hc_v1_1); subst ee
            exact then_n (weak_run [1, 7, 8] [(0, true)] 12 [] [] AllP.nil (by kernel_rfl))
          · replace hs_s2_1 := cond_f g hs_s2_1
            refine awp_skip ?_
            refine inb_n ?_
            refine then_n ?_
            refine r40_8_9 HH c i1 i2 e1 _ ?_
            cases hs_s2_1
            exact ⟨_, rfl, weak_run [1, 7, 8, 3, 12, 13] [(0, true)] 12 [(13, vI (((i2 + 1 : Nat) : Int)))] [] (AllP.cons (ov_int hw_i2) .nil) (by kernel_rfl)⟩
        · intro i2 s2 hi_i2 ho
          subst ho
          replace hc_v1_1 := sel_l hc_v1_1
          refine awp_seq ?_
          refine r40_5_10 HH c i1 i2 _ ?_
          refine then_n ?_
          refine awp_seq ?_
          refine awp_ifF (by simp [*]) ?_
          refine awp_exit ?_
          refine then_x ?_
          refine then_x ?_
          refine inb_eq ?_
          refine then_n ?_
          refine awp_seq ?_
          refine r40_9_11 HH c i1 i2 _ ?_
          refine then_n ?_
          refine awp_ret ?_
          refine inb_r ?_
          cases hc_v1_1
      · replace hs_s1_1 := sel_l hs_s1_1
        refine r40_10_12 HH c i1 _ ?_
        cases hs_s1_1
        exact ⟨_, rfl, weak_run [1, 7, 8] [(0, true)] 6 [(8, vI (((i1 + 1 : Nat) : Int)))] [] (AllP.cons (ov_int hw_i1) .nil) (by kernel_rfl)⟩
    · refine awp_seq ?_
      refine awp_block ?_
      refine awp_seq ?_
      refine r40_3_4 HH c i1 _ ?_
      refine then_n ?_
      refine awp_seq ?_
      refine awp_seq ?_
      refine r40_4_5 HH c i1 _ ?_
      refine then_n ?_
      refine awp_block ?_
      obtain ⟨o1, hl_o1, hc_v1_1⟩ := obind hc_v1; clear hc_v1
      refine awp_forR hl_o1 (fun i2 s2 => [(1, .ptr 0 0 0), (7, vI (c.holders.length : Int)), (8, vI (i1 : Int)), (3, vI (i1 : Int)), (12, vI c.parties), (13, vI (i2 : Int))]) (fun i2 s2 => [(0, .rows 7 [rowA (ContractT.row c)])]) ?_ ?_ ?_
      · exact weak_run [1, 7, 8, 3, 12, 13] [(0, true)] 12 [] [] AllP.nil (by kernel_rfl)
      · intro i2 s2 o hi_i2 hw_i2 hs_s2
        refine awp_seq ?_
        refine r40_5_6 HH c i1 i2 _ ?_
        refine then_n ?_
        refine awp_seq ?_
        refine awp_ifT (by simp [*]) ?_
        refine awp_skip ?_
        refine then_n ?_
        refine awp_seq ?_
        refine awp_block ?_
        refine awp_seq ?_
        refine r40_6_7 HH c i1 i2 _ ?_
        refine then_n ?_
        refine awp_seq ?_
        obtain ⟨e1, he1, hs_s2_1⟩ := obind hs_s2; clear hs_s2
        refine r40_7_8 HH c i1 i2 e1 he1 _ ?_
        clear he1
        refine then_n ?_
        refine awp_if (e1 == (i2 : Int)) rfl (fun g => ?_) (fun g => ?_)
        · replace hs_s2_1 := cond_t g hs_s2_1
          refine awp_exit ?_
          refine inb_ne (by decide) ?_
          refine then_x ?_
          cases hs_s2_1
          refine ⟨_, rfl, fun hq => ?_⟩
          subst hq
          replace hc_v1_1 := sel_r hc_v1_1
          refine inb_ne (by decide) ?_
          refine then_x ?_
          refine inb_eq ?_
          cases hc_v1_1
        · replace hs_s2_1 := cond_f g hs_s2_1
          refine awp_skip ?_
          refine inb_n ?_
          refine then_n ?_
          refine r40_8_9 HH c i1 i2 e1 _ ?_
          cases hs_s2_1
          exact ⟨_, rfl, weak_run [1, 7, 8, 3, 12, 13] [(0, true)] 12 [(13, vI (((i2 + 1 : Nat) : Int)))] [] (AllP.cons (ov_int hw_i2) .nil) (by kernel_rfl)⟩
      · intro i2 s2 hi_i2 ho
        subst ho
        replace hc_v1_1 := sel_l hc_v1_1
        refine awp_seq ?_
        refine r40_5_10 HH c i1 i2 _ ?_
        refine then_n ?_
        refine awp_seq ?_
        refine awp_ifF (by simp [*]) ?_
        refine awp_exit ?_
        refine then_x ?_
        refine then_x ?_
        refine inb_eq ?_
        refine then_n ?_
        refine awp_seq ?_
        refine r40_9_11 HH c i1 i2 _ ?_
        refine then_n ?_
        refine awp_ret ?_
        refine inb_r ?_
        cases hc_v1_1
        replace hs_s1_1 := sel_r hs_s1_1
        refine then_r ?_
        cases hs_s1_1
        refine ⟨_, rfl, fun hq => ?_⟩
        subst hq
        replace hd_1 := sel_r hd_1
        refine inb_r ?_
        refine then_r ?_
        refine scp ?_
        have ee := Option.some.inj hd_1; subst ee
        exact end_ret (by kernel_rfl)
  · intro i1 s1 hi_i1 ho
    subst ho
    replace hd_1 := sel_l hd_1
    refine awp_seq ?_
    refine r40_2_13 HH c i1 _ ?_
    refine then_n ?_
    refine awp_seq ?_
    refine awp_ifF (by simp [*]) ?_
    refine awp_exit ?_
    refine then_x ?_
    refine then_x ?_
    refine inb_eq ?_
    refine then_n ?_
    refine awp_seq ?_
    refine r40_11_14 HH c i1 _ ?_
    refine then_n ?_
    refine awp_ret ?_
    refine scp ?_
    have ee := Option.some.inj hd_1; subst ee
    exact end_ret (by kernel_rfl)

theorem r59_0_1 {C : Ctx} {nt : Nat} (HH : HasA C) (n : Int)  (P : Exit → St → Prop) (h : P .normal ⟨[(0, vI n)], [], 1⟩) : awp C nt (.region false [] ri59_0 (some [0])) P ⟨[(0, vI n)], [], 0⟩ := by
  exact reg_fast [] AllP.nil h (by kernel_rfl)

theorem r59_1_2 {C : Ctx} {nt : Nat} (HH : HasA C) (n : Int)  (P : Exit → St → Prop) (h : P .normal ⟨[(0, vI n), (4, vB (decide (n < 0)))], [], 3⟩) : awp C nt (.region false [] ri59_1 (some [0, 4])) P ⟨[(0, vI n)], [], 1⟩ := by
  exact reg_fast [] AllP.nil h (by kernel_rfl)

theorem r59_2_3 {C : Ctx} {nt : Nat} (HH : HasA C) (n : Int)  (P : Exit → St → Prop) (h : P .normal ⟨[(2, .imm (.int .u64 (IntKind.u64.wrap ((IntKind.u64.wrap (IntKind.i64.wrap (0 - (IntKind.i64.wrap (n + 1))))) + 1))))], [], 9⟩) : awp C nt (.region false [] ri59_2 (some [2])) P ⟨[(0, vI n), (4, vB (decide (n < 0)))], [], 3⟩ := by
  exact reg_fast [] AllP.nil h (by kernel_rfl)

theorem r59_3_4 {C : Ctx} {nt : Nat} (HH : HasA C) (n : Int)  (P : Exit → St → Prop) (h : P .normal ⟨[(2, .imm (.int .u64 (IntKind.u64.wrap n)))], [], 6⟩) : awp C nt (.region false [] ri59_3 (some [2])) P ⟨[(0, vI n), (4, vB (decide (n < 0)))], [], 3⟩ := by
  exact reg_fast [] AllP.nil h (by kernel_rfl)

noncomputable def d_magnitude (n : Int) : Option Int :=
  (bif decide (n < 0) then some (IntKind.u64.wrap ((IntKind.u64.wrap (IntKind.i64.wrap (0 - (IntKind.i64.wrap (n + 1))))) + 1)) else some (IntKind.u64.wrap n))
set_option maxHeartbeats 4000000 in
theorem t_magnitude {C : Ctx} (HH : HasA C) (n : Int) (res : Int) (hd : d_magnitude n = some res) : APure C 59 [.int .i64 n] (.int .u64 res) := by
  refine APure.start HH.h59 5 (by simp [af59]) ?_
  unfold d_magnitude at hd
  show awp C _ af59.body (EndsR af59.results _) ⟨[(0, vI n)], [], 0⟩
  refine awp_seq ?_
  refine r59_0_1 HH n _ ?_
  refine then_n ?_
  refine awp_seq ?_
  refine awp_seq ?_
  refine r59_1_2 HH n _ ?_
  refine then_n ?_
  refine awp_if (decide (n < 0)) rfl (fun g => ?_) (fun g => ?_)
  · replace hd := cond_t g hd
    refine awp_seq ?_
    refine r59_2_3 HH n _ ?_
    refine then_n ?_
    refine awp_ret ?_
    refine then_r ?_
    have ee := Option.some.inj hd; subst ee
    exact end_ret (by kernel_rfl)
  · replace hd := cond_f g hd
    refine awp_skip ?_
    refine then_n ?_
    refine awp_seq ?_
    refine r59_3_4 HH n _ ?_
    refine then_n ?_
    refine awp_ret ?_
    have ee := Option.some.inj hd; subst ee
    exact end_ret (by kernel_rfl)

theorem r58_0_1 {C : Ctx} {nt : Nat} (HH : HasA C) (l : List Int)  (P : Exit → St → Prop) (h : P .normal ⟨[(0, .imm (.slice (List.map (rowK .u64) l)))], [], 1⟩) : awp C nt (.region false [] ri58_0 (some [0])) P ⟨[(0, .imm (.slice (List.map (rowK .u64) l)))], [], 0⟩ := by
  exact reg_fast [] AllP.nil h (by kernel_rfl)

theorem r58_1_2 {C : Ctx} {nt : Nat} (HH : HasA C) (l : List Int)  (P : Exit → St → Prop) (h : P .normal ⟨[(0, .imm (.slice (List.map (rowK .u64) l))), (3, .imm (.int .u64 0))], [], 2⟩) : awp C nt (.region false [] ri58_1 (some [0, 3])) P ⟨[(0, .imm (.slice (List.map (rowK .u64) l)))], [], 1⟩ := by
  exact reg_fast [] AllP.nil h (by kernel_rfl)

theorem r58_2_3 {C : Ctx} {nt : Nat} (HH : HasA C) (l : List Int)  (P : Exit → St → Prop) (h : P .normal ⟨[(3, .imm (.int .u64 0)), (6, .imm (.slice (List.map (rowK .u64) l))), (7, vI (l.length : Int)), (8, vI 0)], [], 5⟩) : awp C nt (.region false [] ri58_2 (some [3, 6, 7, 8])) P ⟨[(0, .imm (.slice (List.map (rowK .u64) l))), (3, .imm (.int .u64 0))], [], 2⟩ := by
  exact reg_fast [.n (l.length : Int)] (AllP.cons (len_side (rowK .u64) l) .nil) h (by kernel_rfl)

theorem r58_3_4 {C : Ctx} {nt : Nat} (HH : HasA C) (l : List Int) (i1 : Nat) (s1 : Int)  (P : Exit → St → Prop) (h : P .normal ⟨[(3, .imm (.int .u64 s1)), (6, .imm (.slice (List.map (rowK .u64) l))), (7, vI (l.length : Int)), (8, vI (i1 : Int)), (9, vB (decide ((i1 : Int) < (l.length : Int))))], [], 6⟩) : awp C nt (.region false [] ri58_3 (some [3, 6, 7, 8, 9])) P ⟨[(3, .imm (.int .u64 s1)), (6, .imm (.slice (List.map (rowK .u64) l))), (7, vI (l.length : Int)), (8, vI (i1 : Int))], [], 5⟩ := by
  exact reg_fast [] AllP.nil h (by kernel_rfl)

theorem r58_4_5 {C : Ctx} {nt : Nat} (HH : HasA C) (l : List Int) (i1 : Nat) (s1 : Int) (e1 : Int) (he1 : idxI l (i1 : Int) = some e1) (P : Exit → St → Prop) (h : P .normal ⟨[(3, .imm (.int .u64 s1)), (6, .imm (.slice (List.map (rowK .u64) l))), (7, vI (l.length : Int)), (8, vI (i1 : Int)), (5, .imm (.int .u64 e1))], [], 9⟩) : awp C nt (.region false [] ri58_4 (some [3, 5, 6, 7, 8])) P ⟨[(3, .imm (.int .u64 s1)), (6, .imm (.slice (List.map (rowK .u64) l))), (7, vI (l.length : Int)), (8, vI (i1 : Int)), (9, vB (decide ((i1 : Int) < (l.length : Int))))], [], 6⟩ := by
  exact reg_fast [.r (rowK .u64 e1)] (AllP.cons (idx_side (rowK .u64) he1) .nil) h (by kernel_rfl)

theorem r58_5_6 {C : Ctx} {nt : Nat} (HH : HasA C) (l : List Int) (i1 : Nat) (s2 : Int × Int)  (P : Exit → St → Prop) (h : P .normal ⟨[(3, .imm (.int .u64 s2.1)), (6, .imm (.slice (List.map (rowK .u64) l))), (7, vI (l.length : Int)), (8, vI (i1 : Int)), (5, .imm (.int .u64 s2.2)), (13, vB (!(s2.2 == 0)))], [], 11⟩) : awp C nt (.region false [] ri58_5 (some [3, 5, 6, 7, 8, 13])) P ⟨[(3, .imm (.int .u64 s2.1)), (6, .imm (.slice (List.map (rowK .u64) l))), (7, vI (l.length : Int)), (8, vI (i1 : Int)), (5, .imm (.int .u64 s2.2))], [], 9⟩ := by
  exact reg_fast [] AllP.nil h (by kernel_rfl)

theorem r58_6_7 {C : Ctx} {nt : Nat} (HH : HasA C) (l : List Int) (i1 : Nat) (s2 : Int × Int) (e2 : Int) (he2 : remI .u64 s2.1 s2.2 = some e2) (P : Exit → St → Prop) (h : P .normal ⟨[(3, .imm (.int .u64 s2.2)), (6, .imm (.slice (List.map (rowK .u64) l))), (7, vI (l.length : Int)), (8, vI (i1 : Int)), (5, .imm (.int .u64 e2))], [], 17⟩) : awp C nt (.region true [0, 0, 0, 6, 3, 31] ri58_6 (some [3, 5, 6, 7, 8])) P ⟨[(3, .imm (.int .u64 s2.1)), (6, .imm (.slice (List.map (rowK .u64) l))), (7, vI (l.length : Int)), (8, vI (i1 : Int)), (5, .imm (.int .u64 s2.2)), (13, vB (!(s2.2 == 0)))], [], 11⟩ := by
  exact drw_fast [.v (.int .u64 e2)] (AllP.cons (rem_side he2) .nil) h (by kernel_rfl)

theorem r58_7_8 {C : Ctx} {nt : Nat} (HH : HasA C) (l : List Int) (i1 : Nat) (v1 : Int)  (P : Exit → St → Prop) (h : P .normal ⟨[(3, .imm (.int .u64 v1)), (6, .imm (.slice (List.map (rowK .u64) l))), (7, vI (l.length : Int)), (8, vI (IntKind.i64.wrap ((i1 : Int) + 1)))], [], 11⟩) : awp C nt (.region false [] ri58_7 (some [3, 6, 7, 8])) P ⟨[(3, .imm (.int .u64 v1)), (6, .imm (.slice (List.map (rowK .u64) l))), (7, vI (l.length : Int)), (8, vI (i1 : Int))], [], 9⟩ := by
  exact reg_fast [] AllP.nil h (by kernel_rfl)

theorem r58_3_9 {C : Ctx} {nt : Nat} (HH : HasA C) (l : List Int) (i1 : Nat) (s1 : Int)  (P : Exit → St → Prop) (h : P .normal ⟨[(3, .imm (.int .u64 s1)), (6, .imm (.slice (List.map (rowK .u64) l))), (7, vI (l.length : Int)), (8, vI (i1 : Int)), (9, vB (decide ((i1 : Int) < (l.length : Int))))], [], 6⟩) : awp C nt (.region false [] ri58_3 (some [3, 6, 7, 8, 9])) P ⟨[(3, .imm (.int .u64 s1)), (6, .imm (.slice (List.map (rowK .u64) l))), (7, vI (l.length : Int)), (8, vI (i1 : Int))], [], 5⟩ := by
  exact reg_fast [] AllP.nil h (by kernel_rfl)

theorem r58_8_10 {C : Ctx} {nt : Nat} (HH : HasA C) (l : List Int) (i1 : Nat) (s1 : Int)  (P : Exit → St → Prop) (h : P .normal ⟨[(2, .imm (.int .u64 s1))], [], 8⟩) : awp C nt (.region false [] ri58_8 (some [2])) P ⟨[(3, .imm (.int .u64 s1)), (6, .imm (.slice (List.map (rowK .u64) l))), (7, vI (l.length : Int)), (8, vI (i1 : Int)), (9, vB (decide ((i1 : Int) < (l.length : Int))))], [], 6⟩ := by
  exact reg_fast [] AllP.nil h (by kernel_rfl)

noncomputable def d_divisor (l : List Int) : Option Int :=
  (Option.bind (forR (σ := Int) (ρ := Unit) (l.length : Int) (fun i1 s1 => (Option.bind (Option.bind (idxI l (i1 : Int)) fun e1 => (Option.bind (iter (σ := Int × Int) (ρ := Int) (fun s2 => (bif (s2.2 == 0) then some (.inr s2.1) else (Option.bind (remI .u64 s2.1 s2.2) fun e2 => some (.inl (s2.2, e2))))) (s1, e1)) (fun (y1 : Int) => some y1))) fun (v1 : Int) => some (.inl v1))) 0) (Sum.elim (fun (s1 : Int) => some s1) (fun _ => none)))
set_option maxHeartbeats 4000000 in
theorem t_divisor {C : Ctx} (HH : HasA C) (l : List Int) (res : Int) (hd : d_divisor l = some res) : APure C 58 [.slice (List.map (rowK .u64) l)] (.int .u64 res) := by
  refine APure.start HH.h58 5 (by simp [af58]) ?_
  unfold d_divisor at hd
  show awp C _ af58.body (EndsR af58.results _) ⟨[(0, .imm (.slice (List.map (rowK .u64) l)))], [], 0⟩
  refine awp_seq ?_
  refine r58_0_1 HH l _ ?_
  refine then_n ?_
  refine awp_seq ?_
  refine r58_1_2 HH l _ ?_
  refine then_n ?_
  refine awp_seq ?_
  refine awp_seq ?_
  refine r58_2_3 HH l _ ?_
  refine then_n ?_
  refine awp_block ?_
  obtain ⟨o2, hl_o2, hd_1⟩ := obind hd; clear hd
  refine awp_forR hl_o2 (fun i1 s1 => [(3, .imm (.int .u64 s1)), (6, .imm (.slice (List.map (rowK .u64) l))), (7, vI (l.length : Int)), (8, vI (i1 : Int))]) (fun i1 s1 => []) ?_ ?_ ?_
  · exact weak_run [3, 6, 7, 8] [] 5 [] [] AllP.nil (by kernel_rfl)
  · intro i1 s1 o hi_i1 hw_i1 hs_s1
    refine awp_seq ?_
    refine r58_3_4 HH l i1 s1 _ ?_
    refine then_n ?_
    refine awp_seq ?_
    refine awp_ifT (by simp [*]) ?_
    refine awp_skip ?_
    refine then_n ?_
    obtain ⟨v1, hc_v1, hs_s1_1⟩ := obind hs_s1; clear hs_s1
    refine awp_seqW ⟨[(3, .imm (.int .u64 v1)), (6, .imm (.slice (List.map (rowK .u64) l))), (7, vI (l.length : Int)), (8, vI (i1 : Int))], [], 9⟩ (by simp) ?_ ?_
    · skip
      refine awp_block ?_
      refine awp_seq ?_
      obtain ⟨e1, he1, hc_v1_1⟩ := obind hc_v1; clear hc_v1
      refine r58_4_5 HH l i1 s1 e1 he1 _ ?_
      clear he1
      refine then_n ?_
      refine awp_block ?_
      obtain ⟨o1, hl_o1, hc_v1_2⟩ := obind hc_v1_1; clear hc_v1_1
      refine awp_iter hl_o1 (fun s2 => [(3, .imm (.int .u64 s2.1)), (6, .imm (.slice (List.map (rowK .u64) l))), (7, vI (l.length : Int)), (8, vI (i1 : Int)), (5, .imm (.int .u64 s2.2))]) (fun s2 => []) ?_ ?_
      · exact weak_run [3, 6, 7, 8, 5] [] 9 [] [] AllP.nil (by kernel_rfl)
      · intro s2 o hs_s2
        refine awp_seq ?_
        refine awp_seq ?_
        refine r58_5_6 HH l i1 s2 _ ?_
        refine then_n ?_
        refine awp_ifN (s2.2 == 0) rfl (fun g => ?_) (fun g => ?_)
        · replace hs_s2 := cond_f g hs_s2
          refine awp_skip ?_
          refine then_n ?_
          refine awp_block ?_
          obtain ⟨e2, he2, hs_s2_1⟩ := obind hs_s2; clear hs_s2
          refine r58_6_7 HH l i1 s2 e2 he2 _ ?_
          clear he2
          refine inb_n ?_
          cases hs_s2_1
          exact ⟨_, rfl, weak_run [3, 6, 7, 8, 5] [] 9 [] [] AllP.nil (by kernel_rfl)⟩
        · replace hs_s2 := cond_t g hs_s2
          refine awp_exit ?_
          refine then_x ?_
          cases hs_s2
          refine ⟨_, rfl, fun hq => ?_⟩
          cases hq
          refine inb_eq ?_
          refine inb_n ?_
          have ee := Option.some.inj hc_v1_2; subst ee
          exact then_n (weak_run [3, 6, 7, 8] [] 9 [] [] AllP.nil (by kernel_rfl))
    · skip
      refine r58_7_8 HH l i1 v1 _ ?_
      cases hs_s1_1
      exact ⟨_, rfl, weak_run [3, 6, 7, 8] [] 5 [(8, vI (((i1 + 1 : Nat) : Int)))] [] (AllP.cons (ov_int hw_i1) .nil) (by kernel_rfl)⟩
  · intro i1 s1 hi_i1 ho
    subst ho
    replace hd_1 := sel_l hd_1
    refine awp_seq ?_
    refine r58_3_9 HH l i1 s1 _ ?_
    refine then_n ?_
    refine awp_seq ?_
    refine awp_ifF (by simp [*]) ?_
    refine awp_exit ?_
    refine then_x ?_
    refine then_x ?_
    refine inb_eq ?_
    refine then_n ?_
    refine awp_seq ?_
    refine r58_8_10 HH l i1 s1 _ ?_
    refine then_n ?_
    refine awp_ret ?_
    have ee := Option.some.inj hd_1; subst ee
    exact end_ret (by kernel_rfl)

theorem r55_0_1 {C : Ctx} {nt : Nat} (HH : HasA C) (r : Ratio)  (P : Exit → St → Prop) (h : P .normal ⟨[(1, .ptr 0 0 0)], [(0, .rows 2 [rowA (Ratio.row r)])], 2⟩) : awp C nt (.region false [] ri55_0 (some [1])) P ⟨[(0, .imm (.agg (Ratio.row r)))], [], 0⟩ := by
  exact reg_fast [] AllP.nil h (by kernel_rfl)

theorem r55_1_2 {C : Ctx} {nt : Nat} (HH : HasA C) (r : Ratio) (v1 : Bool) (hv1 : (bif decide (r.den < 1) then some true else (bif decide (1000000 < r.den) then some true else (bif decide (r.num < (-1000000000000)) then some true else some (decide (1000000000000 < r.num))))) = some v1) (P : Exit → St → Prop) (h : P .normal ⟨[(1, .ptr 0 0 0), (20, vB v1)], [(0, .rows 2 [rowA (Ratio.row r)])], 20⟩) : awp C nt (.region false [] ri55_1 (some [1, 20])) P ⟨[(1, .ptr 0 0 0)], [(0, .rows 2 [rowA (Ratio.row r)])], 2⟩ := by
  rcases grd hv1 with ⟨g1, hv1⟩ | ⟨g1, hv1⟩
  · skip
    have ee := Option.some.inj hv1; subst ee
    exact reg_fast [.g true, .g true, .g true] (AllP.cons g1 (.cons (rfl : true = true) (.cons (rfl : true = true) .nil))) h (by kernel_rfl)
  · skip
    rcases grd hv1 with ⟨g2, hv1⟩ | ⟨g2, hv1⟩
    · skip
      have ee := Option.some.inj hv1; subst ee
      exact reg_fast [.g false, .g true, .g true] (AllP.cons g1 (.cons g2 (.cons (rfl : true = true) .nil))) h (by kernel_rfl)
    · skip
      rcases grd hv1 with ⟨g3, hv1⟩ | ⟨g3, hv1⟩
      · skip
        have ee := Option.some.inj hv1; subst ee
        exact reg_fast [.g false, .g false, .g true] (AllP.cons g1 (.cons g2 (.cons g3 .nil))) h (by kernel_rfl)
      · skip
        have ee := Option.some.inj hv1; subst ee
        exact reg_fast [.g false, .g false, .g false] (AllP.cons g1 (.cons g2 (.cons g3 .nil))) h (by kernel_rfl)

theorem r55_2_3 {C : Ctx} {nt : Nat} (HH : HasA C) (r : Ratio) (v1 : Bool)  (P : Exit → St → Prop) (h : P .normal ⟨[(2, vB false)], [(0, .rows 2 [rowA (Ratio.row r)])], 21⟩) : awp C nt (.region false [] ri55_2 (some [2])) P ⟨[(1, .ptr 0 0 0), (20, vB v1)], [(0, .rows 2 [rowA (Ratio.row r)])], 20⟩ := by
  exact reg_fast [] AllP.nil h (by kernel_rfl)

theorem r55_3_4 {C : Ctx} {nt : Nat} (HH : HasA C) (r : Ratio) (v1 : Bool) (r1 : Int) (hr1 : d_magnitude r.num = some r1) (r2 : Int) (hr2 : d_magnitude r.den = some r2) (r3 : Int) (hr3 : d_divisor [r1, r2] = some r3) (P : Exit → St → Prop) (h : P .normal ⟨[(2, vB (r3 == 1))], [(0, .rows 2 [rowA (Ratio.row r)]), (26, .rows 1 [[.imm (.int .u64 r1)], [.imm (.int .u64 r2)]])], 30⟩) : awp C nt (.region true [0, 1, 3, 0, 8, 31, 63, 127, 255, 511] ri55_3 (some [2])) P ⟨[(1, .ptr 0 0 0), (20, vB v1)], [(0, .rows 2 [rowA (Ratio.row r)])], 20⟩ := by
  exact drw_fast [.v (.int .u64 r1), .v (.int .u64 r2), .w [26] [.slice (List.map (rowK .u64) [r1, r2])] (.int .u64 r3)] (AllP.cons (t_magnitude HH r.num r1 hr1) (.cons (t_magnitude HH r.den r2 hr2) (.cons (t_divisor HH [r1, r2] r3 hr3) (.cons (snap_of [.mslice 26 0 2] [(26, .rows 1 [[.imm (.int .u64 r1)], [.imm (.int .u64 r2)]])] [.slice (List.map (rowK .u64) [r1, r2])] (by kernel_rfl)) .nil)))) h (by kernel_rfl)

noncomputable def d_ratioValid (r : Ratio) : Option Bool :=
  (Option.bind (bif decide (r.den < 1) then some true else (bif decide (1000000 < r.den) then some true else (bif decide (r.num < (-1000000000000)) then some true else some (decide (1000000000000 < r.num))))) fun v1 => (bif v1 then some false else (Option.bind (d_magnitude r.num) fun r1 => (Option.bind (d_magnitude r.den) fun r2 => (Option.bind (d_divisor [r1, r2]) fun r3 => some (r3 == 1))))))
set_option maxHeartbeats 4000000 in
theorem t_ratioValid {C : Ctx} (HH : HasA C) (r : Ratio) (res : Bool) (hd : d_ratioValid r = some res) : APure C 55 [.agg (Ratio.row r)] (.bool res) := by
  refine APure.start HH.h55 5 (by simp [af55]) ?_
  unfold d_ratioValid at hd
  show awp C _ af55.body (EndsR af55.results _) ⟨[(0, .imm (.agg (Ratio.row r)))], [], 0⟩
  refine awp_seq ?_
  refine r55_0_1 HH r _ ?_
  refine then_n ?_
  refine awp_seq ?_
  refine awp_seq ?_
  obtain ⟨v1, hv1, hd_1⟩ := obind hd; clear hd
  refine r55_1_2 HH r v1 hv1 _ ?_
  clear hv1
  refine then_n ?_
  refine awp_if v1 rfl (fun g => ?_) (fun g => ?_)
  · replace hd_1 := cond_t g hd_1
    refine awp_seq ?_
    refine r55_2_3 HH r v1 _ ?_
    refine then_n ?_
    refine awp_ret ?_
    refine then_r ?_
    have ee := Option.some.inj hd_1; subst ee
    exact end_ret (by kernel_rfl)
  · replace hd_1 := cond_f g hd_1
    refine awp_skip ?_
    refine then_n ?_
    refine awp_seq ?_
    obtain ⟨r1, hr1, hd_2⟩ := obind hd_1; clear hd_1
    obtain ⟨r2, hr2, hd_3⟩ := obind hd_2; clear hd_2
    obtain ⟨r3, hr3, hd_4⟩ := obind hd_3; clear hd_3
    refine r55_3_4 HH r v1 r1 hr1 r2 hr2 r3 hr3 _ ?_
    clear hr1 hr2 hr3
    refine then_n ?_
    refine awp_ret ?_
    have ee := Option.some.inj hd_4; subst ee
    exact end_ret (by kernel_rfl)

theorem r57_0_1 {C : Ctx} {nt : Nat} (HH : HasA C) (t : List UnitT) (i : Int)  (P : Exit → St → Prop) (h : P .normal ⟨[(0, .imm (.slice (List.map UnitT.row t))), (1, vI i)], [], 1⟩) : awp C nt (.region false [] ri57_0 (some [0, 1])) P ⟨[(0, .imm (.slice (List.map UnitT.row t))), (1, vI i)], [], 0⟩ := by
  exact reg_fast [] AllP.nil h (by kernel_rfl)

theorem r57_1_2 {C : Ctx} {nt : Nat} (HH : HasA C) (t : List UnitT) (i : Int) (v1 : Bool) (hv1 : (bif decide (0 ≤ i) then some (decide (i < (t.length : Int))) else some false) = some v1) (P : Exit → St → Prop) (h : P .normal ⟨[(4, vB v1)], [], 10⟩) : awp C nt (.region false [] ri57_1 (some [4])) P ⟨[(0, .imm (.slice (List.map UnitT.row t))), (1, vI i)], [], 1⟩ := by
  rcases grd hv1 with ⟨g1, hv1⟩ | ⟨g1, hv1⟩
  · skip
    have ee := Option.some.inj hv1; subst ee
    exact reg_fast [.g true, .n (t.length : Int)] (AllP.cons g1 (.cons (len_side UnitT.row t) .nil)) h (by kernel_rfl)
  · skip
    have ee := Option.some.inj hv1; subst ee
    exact reg_fast [.g false] (AllP.cons g1 .nil) h (by kernel_rfl)

noncomputable def d_isIndex (t : List UnitT) (i : Int) : Option Bool :=
  (Option.bind (bif decide (0 ≤ i) then some (decide (i < (t.length : Int))) else some false) fun v1 => some v1)
set_option maxHeartbeats 4000000 in
theorem t_isIndex {C : Ctx} (HH : HasA C) (t : List UnitT) (i : Int) (res : Bool) (hd : d_isIndex t i = some res) : APure C 57 [.slice (List.map UnitT.row t), .int .i64 i] (.bool res) := by
  refine APure.start HH.h57 5 (by simp [af57]) ?_
  unfold d_isIndex at hd
  show awp C _ af57.body (EndsR af57.results _) ⟨[(0, .imm (.slice (List.map UnitT.row t))), (1, vI i)], [], 0⟩
  refine awp_seq ?_
  refine r57_0_1 HH t i _ ?_
  refine then_n ?_
  refine awp_seq ?_
  obtain ⟨v1, hv1, hd_1⟩ := obind hd; clear hd
  refine r57_1_2 HH t i v1 hv1 _ ?_
  clear hv1
  refine then_n ?_
  refine awp_ret ?_
  have ee := Option.some.inj hd_1; subst ee
  exact end_ret (by kernel_rfl)

theorem r54_0_1 {C : Ctx} {nt : Nat} (HH : HasA C) (t : List UnitT) (i : Int)  (P : Exit → St → Prop) (h : P .normal ⟨[(0, .imm (.slice (List.map UnitT.row t))), (1, vI i)], [], 1⟩) : awp C nt (.region false [] ri54_0 (some [0, 1])) P ⟨[(0, .imm (.slice (List.map UnitT.row t))), (1, vI i)], [], 0⟩ := by
  exact reg_fast [] AllP.nil h (by kernel_rfl)

theorem r54_1_2 {C : Ctx} {nt : Nat} (HH : HasA C) (t : List UnitT) (i : Int) (e1 : UnitT) (he1 : idxI t i = some e1) (P : Exit → St → Prop) (h : P .normal ⟨[(0, .imm (.slice (List.map UnitT.row t))), (1, vI i), (5, .ptr 5 0 0)], [(5, .rows 5 [rowA (UnitT.row e1)])], 7⟩) : awp C nt (.region false [] ri54_1 (some [0, 1, 5])) P ⟨[(0, .imm (.slice (List.map UnitT.row t))), (1, vI i)], [], 1⟩ := by
  exact reg_fast [.r (UnitT.row e1)] (AllP.cons (idx_side UnitT.row he1) .nil) h (by kernel_rfl)

theorem r54_2_3 {C : Ctx} {nt : Nat} (HH : HasA C) (t : List UnitT) (i : Int) (e1 : UnitT) (v1 : Bool) (hv1 : (bif decide (20 ≤ i) then some true else some (e1.name.toList == (⟨#[]⟩ : ByteArray).toList)) = some v1) (P : Exit → St → Prop) (h : P .normal ⟨[(0, .imm (.slice (List.map UnitT.row t))), (1, vI i), (5, .ptr 5 0 0), (18, vB v1)], [(5, .rows 5 [rowA (UnitT.row e1)])], 14⟩) : awp C nt (.region false [] ri54_2 (some [0, 1, 5, 18])) P ⟨[(0, .imm (.slice (List.map UnitT.row t))), (1, vI i), (5, .ptr 5 0 0)], [(5, .rows 5 [rowA (UnitT.row e1)])], 7⟩ := by
  rcases grd hv1 with ⟨g1, hv1⟩ | ⟨g1, hv1⟩
  · skip
    have ee := Option.some.inj hv1; subst ee
    exact reg_fast [.g true] (AllP.cons g1 .nil) h (by kernel_rfl)
  · skip
    have ee := Option.some.inj hv1; subst ee
    exact reg_fast [.g false] (AllP.cons g1 .nil) h (by kernel_rfl)

theorem r54_3_4 {C : Ctx} {nt : Nat} (HH : HasA C) (t : List UnitT) (i : Int) (e1 : UnitT) (v1 : Bool)  (P : Exit → St → Prop) (h : P .normal ⟨[(4, vB false)], [(5, .rows 5 [rowA (UnitT.row e1)])], 15⟩) : awp C nt (.region false [] ri54_3 (some [4])) P ⟨[(0, .imm (.slice (List.map UnitT.row t))), (1, vI i), (5, .ptr 5 0 0), (18, vB v1)], [(5, .rows 5 [rowA (UnitT.row e1)])], 14⟩ := by
  exact reg_fast [] AllP.nil h (by kernel_rfl)

theorem r54_4_5 {C : Ctx} {nt : Nat} (HH : HasA C) (t : List UnitT) (i : Int) (e1 : UnitT) (v1 : Bool) (e2 : List UnitT) (he2 : slcI t 0 i = some e2) (P : Exit → St → Prop) (h : P .normal ⟨[(0, .imm (.slice (List.map UnitT.row t))), (1, vI i), (5, .ptr 5 0 0), (21, .imm (.slice (List.map UnitT.row e2))), (22, vI (e2.length : Int)), (23, vI 0)], [(5, .rows 5 [rowA (UnitT.row e1)])], 19⟩) : awp C nt (.region false [] ri54_4 (some [0, 1, 5, 21, 22, 23])) P ⟨[(0, .imm (.slice (List.map UnitT.row t))), (1, vI i), (5, .ptr 5 0 0), (18, vB v1)], [(5, .rows 5 [rowA (UnitT.row e1)])], 14⟩ := by
  exact reg_fast [.s (List.map UnitT.row e2), .n (e2.length : Int)] (AllP.cons (slc_side UnitT.row 5 (fun _ => rfl) he2) (.cons (len_side UnitT.row e2) .nil)) h (by kernel_rfl)

theorem r54_5_6 {C : Ctx} {nt : Nat} (HH : HasA C) (t : List UnitT) (i : Int) (e1 : UnitT) (e2 : List UnitT) (i1 : Nat)  (P : Exit → St → Prop) (h : P .normal ⟨[(0, .imm (.slice (List.map UnitT.row t))), (1, vI i), (5, .ptr 5 0 0), (21, .imm (.slice (List.map UnitT.row e2))), (22, vI (e2.length : Int)), (23, vI (i1 : Int)), (24, vB (decide ((i1 : Int) < (e2.length : Int))))], [(5, .rows 5 [rowA (UnitT.row e1)])], 20⟩) : awp C nt (.region false [] ri54_5 (some [0, 1, 5, 21, 22, 23, 24])) P ⟨[(0, .imm (.slice (List.map UnitT.row t))), (1, vI i), (5, .ptr 5 0 0), (21, .imm (.slice (List.map UnitT.row e2))), (22, vI (e2.length : Int)), (23, vI (i1 : Int))], [(5, .rows 5 [rowA (UnitT.row e1)])], 19⟩ := by
  exact reg_fast [] AllP.nil h (by kernel_rfl)

theorem r54_6_7 {C : Ctx} {nt : Nat} (HH : HasA C) (t : List UnitT) (i : Int) (e1 : UnitT) (e2 : List UnitT) (i1 : Nat) (e3 : UnitT) (he3 : idxI e2 (i1 : Int) = some e3) (P : Exit → St → Prop) (h : P .normal ⟨[(0, .imm (.slice (List.map UnitT.row t))), (1, vI i), (5, .ptr 5 0 0), (21, .imm (.slice (List.map UnitT.row e2))), (22, vI (e2.length : Int)), (23, vI (i1 : Int)), (7, .ptr 22 0 0)], [(5, .rows 5 [rowA (UnitT.row e1)]), (22, .rows 5 [rowA (UnitT.row e3)])], 24⟩) : awp C nt (.region false [] ri54_6 (some [0, 1, 5, 7, 21, 22, 23])) P ⟨[(0, .imm (.slice (List.map UnitT.row t))), (1, vI i), (5, .ptr 5 0 0), (21, .imm (.slice (List.map UnitT.row e2))), (22, vI (e2.length : Int)), (23, vI (i1 : Int)), (24, vB (decide ((i1 : Int) < (e2.length : Int))))], [(5, .rows 5 [rowA (UnitT.row e1)])], 20⟩ := by
  exact reg_fast [.r (UnitT.row e3)] (AllP.cons (idx_side UnitT.row he3) .nil) h (by kernel_rfl)

theorem r54_7_8 {C : Ctx} {nt : Nat} (HH : HasA C) (t : List UnitT) (i : Int) (e1 : UnitT) (e2 : List UnitT) (i1 : Nat) (e3 : UnitT)  (P : Exit → St → Prop) (h : P .normal ⟨[(0, .imm (.slice (List.map UnitT.row t))), (1, vI i), (5, .ptr 5 0 0), (21, .imm (.slice (List.map UnitT.row e2))), (22, vI (e2.length : Int)), (23, vI (i1 : Int)), (31, vB (e3.name.toList == e1.name.toList))], [(5, .rows 5 [rowA (UnitT.row e1)]), (22, .rows 5 [rowA (UnitT.row e3)])], 29⟩) : awp C nt (.region false [] ri54_7 (some [0, 1, 5, 21, 22, 23, 31])) P ⟨[(0, .imm (.slice (List.map UnitT.row t))), (1, vI i), (5, .ptr 5 0 0), (21, .imm (.slice (List.map UnitT.row e2))), (22, vI (e2.length : Int)), (23, vI (i1 : Int)), (7, .ptr 22 0 0)], [(5, .rows 5 [rowA (UnitT.row e1)]), (22, .rows 5 [rowA (UnitT.row e3)])], 24⟩ := by
  exact reg_fast [] AllP.nil h (by kernel_rfl)

theorem r54_8_9 {C : Ctx} {nt : Nat} (HH : HasA C) (t : List UnitT) (i : Int) (e1 : UnitT) (e2 : List UnitT) (i1 : Nat) (e3 : UnitT)  (P : Exit → St → Prop) (h : P .normal ⟨[(4, vB false)], [(5, .rows 5 [rowA (UnitT.row e1)]), (22, .rows 5 [rowA (UnitT.row e3)])], 30⟩) : awp C nt (.region false [] ri54_8 (some [4])) P ⟨[(0, .imm (.slice (List.map UnitT.row t))), (1, vI i), (5, .ptr 5 0 0), (21, .imm (.slice (List.map UnitT.row e2))), (22, vI (e2.length : Int)), (23, vI (i1 : Int)), (31, vB (e3.name.toList == e1.name.toList))], [(5, .rows 5 [rowA (UnitT.row e1)]), (22, .rows 5 [rowA (UnitT.row e3)])], 29⟩ := by
  exact reg_fast [] AllP.nil h (by kernel_rfl)

theorem r54_9_10 {C : Ctx} {nt : Nat} (HH : HasA C) (t : List UnitT) (i : Int) (e1 : UnitT) (e2 : List UnitT) (i1 : Nat) (e3 : UnitT)  (P : Exit → St → Prop) (h : P .normal ⟨[(0, .imm (.slice (List.map UnitT.row t))), (1, vI i), (5, .ptr 5 0 0), (21, .imm (.slice (List.map UnitT.row e2))), (22, vI (e2.length : Int)), (23, vI (IntKind.i64.wrap ((i1 : Int) + 1)))], [(5, .rows 5 [rowA (UnitT.row e1)]), (22, .rows 5 [rowA (UnitT.row e3)])], 31⟩) : awp C nt (.region false [] ri54_9 (some [0, 1, 5, 21, 22, 23])) P ⟨[(0, .imm (.slice (List.map UnitT.row t))), (1, vI i), (5, .ptr 5 0 0), (21, .imm (.slice (List.map UnitT.row e2))), (22, vI (e2.length : Int)), (23, vI (i1 : Int)), (31, vB (e3.name.toList == e1.name.toList))], [(5, .rows 5 [rowA (UnitT.row e1)]), (22, .rows 5 [rowA (UnitT.row e3)])], 29⟩ := by
  exact reg_fast [] AllP.nil h (by kernel_rfl)

theorem r54_5_11 {C : Ctx} {nt : Nat} (HH : HasA C) (t : List UnitT) (i : Int) (e1 : UnitT) (e2 : List UnitT) (i1 : Nat)  (P : Exit → St → Prop) (h : P .normal ⟨[(0, .imm (.slice (List.map UnitT.row t))), (1, vI i), (5, .ptr 5 0 0), (21, .imm (.slice (List.map UnitT.row e2))), (22, vI (e2.length : Int)), (23, vI (i1 : Int)), (24, vB (decide ((i1 : Int) < (e2.length : Int))))], [(5, .rows 5 [rowA (UnitT.row e1)])], 20⟩) : awp C nt (.region false [] ri54_5 (some [0, 1, 5, 21, 22, 23, 24])) P ⟨[(0, .imm (.slice (List.map UnitT.row t))), (1, vI i), (5, .ptr 5 0 0), (21, .imm (.slice (List.map UnitT.row e2))), (22, vI (e2.length : Int)), (23, vI (i1 : Int))], [(5, .rows 5 [rowA (UnitT.row e1)])], 19⟩ := by
  exact reg_fast [] AllP.nil h (by kernel_rfl)

theorem r54_10_12 {C : Ctx} {nt : Nat} (HH : HasA C) (t : List UnitT) (i : Int) (e1 : UnitT) (e2 : List UnitT) (i1 : Nat) (v2 : Bool) (hv2 : (bif (e1.kind == 1) then (Option.bind (d_ratioValid e1.factor) fun r1 => (bif r1 then some (decide (e1.factor.num ≤ 0)) else some true)) else (bif (e1.kind == 2) then (Option.bind (d_ratioValid e1.factor) fun r2 => (bif r2 then some (decide (e1.factor.num ≤ 0)) else some true)) else some true)) = some v2) (P : Exit → St → Prop) (h : P .normal ⟨[(0, .imm (.slice (List.map UnitT.row t))), (1, vI i), (5, .ptr 5 0 0), (52, vB v2)], [(5, .rows 5 [rowA (UnitT.row e1)])], 40⟩) : awp C nt (.region false [] ri54_10 (some [0, 1, 5, 52])) P ⟨[(0, .imm (.slice (List.map UnitT.row t))), (1, vI i), (5, .ptr 5 0 0), (21, .imm (.slice (List.map UnitT.row e2))), (22, vI (e2.length : Int)), (23, vI (i1 : Int)), (24, vB (decide ((i1 : Int) < (e2.length : Int))))], [(5, .rows 5 [rowA (UnitT.row e1)])], 20⟩ := by
  rcases grd hv2 with ⟨g2, hv2⟩ | ⟨g2, hv2⟩
  · skip
    obtain ⟨r1, hr1, hv2⟩ := obind hv2
    rcases grd hv2 with ⟨g3, hv2⟩ | ⟨g3, hv2⟩
    · skip
      have ee := Option.some.inj hv2; subst ee
      exact reg_fast [.g false, .g false, .v (.bool r1), .g false] (AllP.cons (not_side g2) (.cons (rfl : false = false) (.cons (t_ratioValid HH e1.factor r1 hr1) (.cons (not_side g3) .nil)))) h (by kernel_rfl)
    · skip
      have ee := Option.some.inj hv2; subst ee
      exact reg_fast [.g false, .g false, .v (.bool r1), .g true] (AllP.cons (not_side g2) (.cons (rfl : false = false) (.cons (t_ratioValid HH e1.factor r1 hr1) (.cons (not_side g3) .nil)))) h (by kernel_rfl)
  · skip
    rcases grd hv2 with ⟨g4, hv2⟩ | ⟨g4, hv2⟩
    · skip
      obtain ⟨r2, hr2, hv2⟩ := obind hv2
      rcases grd hv2 with ⟨g5, hv2⟩ | ⟨g5, hv2⟩
      · skip
        have ee := Option.some.inj hv2; subst ee
        exact reg_fast [.g true, .g false, .v (.bool r2), .g false] (AllP.cons (not_side g2) (.cons (not_side g4) (.cons (t_ratioValid HH e1.factor r2 hr2) (.cons (not_side g5) .nil)))) h (by kernel_rfl)
      · skip
        have ee := Option.some.inj hv2; subst ee
        exact reg_fast [.g true, .g false, .v (.bool r2), .g true] (AllP.cons (not_side g2) (.cons (not_side g4) (.cons (t_ratioValid HH e1.factor r2 hr2) (.cons (not_side g5) .nil)))) h (by kernel_rfl)
    · skip
      have ee := Option.some.inj hv2; subst ee
      exact reg_fast [.g true, .g true, .g true] (AllP.cons (not_side g2) (.cons (not_side g4) (.cons (rfl : true = true) .nil))) h (by kernel_rfl)

theorem r54_11_13 {C : Ctx} {nt : Nat} (HH : HasA C) (t : List UnitT) (i : Int) (e1 : UnitT) (v2 : Bool)  (P : Exit → St → Prop) (h : P .normal ⟨[(4, vB false)], [(5, .rows 5 [rowA (UnitT.row e1)])], 41⟩) : awp C nt (.region false [] ri54_11 (some [4])) P ⟨[(0, .imm (.slice (List.map UnitT.row t))), (1, vI i), (5, .ptr 5 0 0), (52, vB v2)], [(5, .rows 5 [rowA (UnitT.row e1)])], 40⟩ := by
  exact reg_fast [] AllP.nil h (by kernel_rfl)

theorem r54_12_14 {C : Ctx} {nt : Nat} (HH : HasA C) (t : List UnitT) (i : Int) (e1 : UnitT) (v2 : Bool) (v3 : Bool) (hv3 : (Option.bind (d_isIndex t e1.base) fun r3 => (bif r3 then (Option.bind (idxI t e1.base) fun e4 => (bif (e4.kind == e1.kind) then some (!(e4.base == e1.base)) else some true)) else some true)) = some v3) (P : Exit → St → Prop) (h : P .normal ⟨[(1, vI i), (5, .ptr 5 0 0), (79, vB v3)], [(5, .rows 5 [rowA (UnitT.row e1)])], 67⟩) : awp C nt (.region true [0, 0, 2, 7, 15, 31, 63, 63, 191, 511, 1023, 2047, 63, 4159, 16383, 32767, 65535, 131071, 131071, 393215, 1048575, 2097151, 4194303, 131071, 8519679, 33554431, 67108863] ri54_12 (some [1, 5, 79])) P ⟨[(0, .imm (.slice (List.map UnitT.row t))), (1, vI i), (5, .ptr 5 0 0), (52, vB v2)], [(5, .rows 5 [rowA (UnitT.row e1)])], 40⟩ := by
  obtain ⟨r3, hr3, hv3⟩ := obind hv3
  rcases grd hv3 with ⟨g6, hv3⟩ | ⟨g6, hv3⟩
  · skip
    obtain ⟨e4, he4, hv3⟩ := obind hv3
    rcases grd hv3 with ⟨g7, hv3⟩ | ⟨g7, hv3⟩
    · skip
      have ee := Option.some.inj hv3; subst ee
      exact drw_fast [.v (.bool r3), .g false, .r (UnitT.row e4), .g false, .r (UnitT.row e4)] (AllP.cons (t_isIndex HH t e1.base r3 hr3) (.cons (not_side g6) (.cons (idx_side UnitT.row he4) (.cons (not_side g7) (.cons (idx_side UnitT.row he4) .nil))))) h (by kernel_rfl)
    · skip
      have ee := Option.some.inj hv3; subst ee
      exact drw_fast [.v (.bool r3), .g false, .r (UnitT.row e4), .g true] (AllP.cons (t_isIndex HH t e1.base r3 hr3) (.cons (not_side g6) (.cons (idx_side UnitT.row he4) (.cons (not_side g7) .nil)))) h (by kernel_rfl)
  · skip
    have ee := Option.some.inj hv3; subst ee
    exact drw_fast [.v (.bool r3), .g true, .g true] (AllP.cons (t_isIndex HH t e1.base r3 hr3) (.cons (not_side g6) (.cons (rfl : true = true) .nil))) h (by kernel_rfl)

theorem r54_13_15 {C : Ctx} {nt : Nat} (HH : HasA C) (i : Int) (e1 : UnitT) (v3 : Bool)  (P : Exit → St → Prop) (h : P .normal ⟨[(4, vB false)], [(5, .rows 5 [rowA (UnitT.row e1)])], 68⟩) : awp C nt (.region false [] ri54_13 (some [4])) P ⟨[(1, vI i), (5, .ptr 5 0 0), (79, vB v3)], [(5, .rows 5 [rowA (UnitT.row e1)])], 67⟩ := by
  exact reg_fast [] AllP.nil h (by kernel_rfl)

theorem r54_14_16 {C : Ctx} {nt : Nat} (HH : HasA C) (i : Int) (e1 : UnitT) (v3 : Bool) (v4 : Bool) (hv4 : (bif (e1.base == i) then some ((e1.factor.num == 1) && ((e1.factor.den == 1) && true)) else some true) = some v4) (P : Exit → St → Prop) (h : P .normal ⟨[(4, vB v4)], [(5, .rows 5 [rowA (UnitT.row e1)])], 78⟩) : awp C nt (.region false [] ri54_14 (some [4])) P ⟨[(1, vI i), (5, .ptr 5 0 0), (79, vB v3)], [(5, .rows 5 [rowA (UnitT.row e1)])], 67⟩ := by
  rcases grd hv4 with ⟨g8, hv4⟩ | ⟨g8, hv4⟩
  · skip
    have ee := Option.some.inj hv4; subst ee
    exact reg_fast [.g false] (AllP.cons (not_side g8) .nil) h (by kernel_rfl)
  · skip
    have ee := Option.some.inj hv4; subst ee
    exact reg_fast [.g true] (AllP.cons (not_side g8) .nil) h (by kernel_rfl)

noncomputable def d_unitValid (t : List UnitT) (i : Int) : Option Bool :=
  (Option.bind (idxI t i) fun e1 => (Option.bind (bif decide (20 ≤ i) then some true else some (e1.name.toList == (⟨#[]⟩ : ByteArray).toList)) fun v1 => (bif v1 then some false else (Option.bind (slcI t 0 i) fun e2 => (Option.bind (forR (σ := Unit) (ρ := Unit) (e2.length : Int) (fun i1 s1 => (Option.bind (idxI e2 (i1 : Int)) fun e3 => (bif (e3.name.toList == e1.name.toList) then some (.inr ()) else some (.inl ())))) ()) (Sum.elim (fun (s1 : Unit) => (Option.bind (bif (e1.kind == 1) then (Option.bind (d_ratioValid e1.factor) fun r1 => (bif r1 then some (decide (e1.factor.num ≤ 0)) else some true)) else (bif (e1.kind == 2) then (Option.bind (d_ratioValid e1.factor) fun r2 => (bif r2 then some (decide (e1.factor.num ≤ 0)) else some true)) else some true)) fun v2 => (bif v2 then some false else (Option.bind (Option.bind (d_isIndex t e1.base) fun r3 => (bif r3 then (Option.bind (idxI t e1.base) fun e4 => (bif (e4.kind == e1.kind) then some (!(e4.base == e1.base)) else some true)) else some true)) fun v3 => (bif v3 then some false else (Option.bind (bif (e1.base == i) then some ((e1.factor.num == 1) && ((e1.factor.den == 1) && true)) else some true) fun v4 => some v4)))))) (fun (y1 : Unit) => some false)))))))
set_option maxHeartbeats 4000000 in
theorem t_unitValid {C : Ctx} (HH : HasA C) (t : List UnitT) (i : Int) (res : Bool) (hd : d_unitValid t i = some res) : APure C 54 [.slice (List.map UnitT.row t), .int .i64 i] (.bool res) := by
  refine APure.start HH.h54 5 (by simp [af54]) ?_
  unfold d_unitValid at hd
  show awp C _ af54.body (EndsR af54.results _) ⟨[(0, .imm (.slice (List.map UnitT.row t))), (1, vI i)], [], 0⟩
  refine awp_seq ?_
  refine r54_0_1 HH t i _ ?_
  refine then_n ?_
  refine awp_seq ?_
  obtain ⟨e1, he1, hd_1⟩ := obind hd; clear hd
  refine r54_1_2 HH t i e1 he1 _ ?_
  clear he1
  refine then_n ?_
  refine awp_seq ?_
  refine awp_seq ?_
  obtain ⟨v1, hv1, hd_2⟩ := obind hd_1; clear hd_1
  refine r54_2_3 HH t i e1 v1 hv1 _ ?_
  clear hv1
  refine then_n ?_
  refine awp_if v1 rfl (fun g => ?_) (fun g => ?_)
  · replace hd_2 := cond_t g hd_2
    refine awp_seq ?_
    refine r54_3_4 HH t i e1 v1 _ ?_
    refine then_n ?_
    refine awp_ret ?_
    refine then_r ?_
    have ee := Option.some.inj hd_2; subst ee
    exact end_ret (by kernel_rfl)
  · replace hd_2 := cond_f g hd_2
    refine awp_skip ?_
    refine then_n ?_
    refine awp_seq ?_
    refine awp_seq ?_
    obtain ⟨e2, he2, hd_3⟩ := obind hd_2; clear hd_2
    refine r54_4_5 HH t i e1 v1 e2 he2 _ ?_
    clear he2
    refine then_n ?_
    refine awp_block ?_
    obtain ⟨o1, hl_o1, hd_4⟩ := obind hd_3; clear hd_3
    refine awp_forR hl_o1 (fun i1 s1 => [(0, .imm (.slice (List.map UnitT.row t))), (1, vI i), (5, .ptr 5 0 0), (21, .imm (.slice (List.map UnitT.row e2))), (22, vI (e2.length : Int)), (23, vI (i1 : Int))]) (fun i1 s1 => [(5, .rows 5 [rowA (UnitT.row e1)])]) ?_ ?_ ?_
    · exact weak_run [0, 1, 5, 21, 22, 23] [(5, true)] 19 [] [] AllP.nil (by kernel_rfl)
    · intro i1 s1 o hi_i1 hw_i1 hs_s1
      refine awp_seq ?_
      refine r54_5_6 HH t i e1 e2 i1 _ ?_
      refine then_n ?_
      refine awp_seq ?_
      refine awp_ifT (by simp [*]) ?_
      refine awp_skip ?_
      refine then_n ?_
      refine awp_seq ?_
      refine awp_block ?_
      refine awp_seq ?_
      obtain ⟨e3, he3, hs_s1_1⟩ := obind hs_s1; clear hs_s1
      refine r54_6_7 HH t i e1 e2 i1 e3 he3 _ ?_
      clear he3
      refine then_n ?_
      refine awp_seq ?_
      refine r54_7_8 HH t i e1 e2 i1 e3 _ ?_
      refine then_n ?_
      refine awp_if (e3.name.toList == e1.name.toList) rfl (fun g => ?_) (fun g => ?_)
      · replace hs_s1_1 := cond_t g hs_s1_1
        refine awp_seq ?_
        refine r54_8_9 HH t i e1 e2 i1 e3 _ ?_
        refine then_n ?_
        refine awp_ret ?_
        refine inb_r ?_
        refine then_r ?_
        cases hs_s1_1
        refine ⟨_, rfl, fun hq => ?_⟩
        subst hq
        replace hd_4 := sel_r hd_4
        refine inb_r ?_
        refine then_r ?_
        have ee := Option.some.inj hd_4; subst ee
        exact end_ret (by kernel_rfl)
      · replace hs_s1_1 := cond_f g hs_s1_1
        refine awp_skip ?_
        refine inb_n ?_
        refine then_n ?_
        refine r54_9_10 HH t i e1 e2 i1 e3 _ ?_
        cases hs_s1_1
        exact ⟨_, rfl, weak_run [0, 1, 5, 21, 22, 23] [(5, true)] 19 [(23, vI (((i1 + 1 : Nat) : Int)))] [] (AllP.cons (ov_int hw_i1) .nil) (by kernel_rfl)⟩
    · intro i1 s1 hi_i1 ho
      subst ho
      replace hd_4 := sel_l hd_4
      refine awp_seq ?_
      refine r54_5_11 HH t i e1 e2 i1 _ ?_
      refine then_n ?_
      refine awp_seq ?_
      refine awp_ifF (by simp [*]) ?_
      refine awp_exit ?_
      refine then_x ?_
      refine then_x ?_
      refine inb_eq ?_
      refine then_n ?_
      refine awp_seq ?_
      refine awp_seq ?_
      obtain ⟨v2, hv2, hd_5⟩ := obind hd_4; clear hd_4
      refine r54_10_12 HH t i e1 e2 i1 v2 hv2 _ ?_
      clear hv2
      refine then_n ?_
      refine awp_if v2 rfl (fun g => ?_) (fun g => ?_)
      · replace hd_5 := cond_t g hd_5
        refine awp_seq ?_
        refine r54_11_13 HH t i e1 v2 _ ?_
        refine then_n ?_
        refine awp_ret ?_
        refine then_r ?_
        have ee := Option.some.inj hd_5; subst ee
        exact end_ret (by kernel_rfl)
      · replace hd_5 := cond_f g hd_5
        refine awp_skip ?_
        refine then_n ?_
        refine awp_seq ?_
        refine awp_seq ?_
        obtain ⟨v3, hv3, hd_6⟩ := obind hd_5; clear hd_5
        refine r54_12_14 HH t i e1 v2 v3 hv3 _ ?_
        clear hv3
        refine then_n ?_
        refine awp_if v3 rfl (fun g => ?_) (fun g => ?_)
        · replace hd_6 := cond_t g hd_6
          refine awp_seq ?_
          refine r54_13_15 HH i e1 v3 _ ?_
          refine then_n ?_
          refine awp_ret ?_
          refine then_r ?_
          have ee := Option.some.inj hd_6; subst ee
          exact end_ret (by kernel_rfl)
        · replace hd_6 := cond_f g hd_6
          refine awp_skip ?_
          refine then_n ?_
          refine awp_seq ?_
          obtain ⟨v4, hv4, hd_7⟩ := obind hd_6; clear hd_6
          refine r54_14_16 HH i e1 v3 v4 hv4 _ ?_
          clear hv4
          refine then_n ?_
          refine awp_ret ?_
          have ee := Option.some.inj hd_7; subst ee
          exact end_ret (by kernel_rfl)

theorem r41_0_1 {C : Ctx} {nt : Nat} (HH : HasA C) (units : List UnitT)  (P : Exit → St → Prop) (h : P .normal ⟨[(0, .imm (.slice (List.map UnitT.row units)))], [], 2⟩) : awp C nt (.region false [] ri41_0 (some [0])) P ⟨[(0, .imm (.slice (List.map UnitT.row units)))], [], 0⟩ := by
  exact reg_fast [] AllP.nil h (by kernel_rfl)

theorem r41_1_2 {C : Ctx} {nt : Nat} (HH : HasA C) (units : List UnitT)  (P : Exit → St → Prop) (h : P .normal ⟨[(0, .imm (.slice (List.map UnitT.row units))), (6, vI (units.length : Int)), (7, vI 0)], [], 5⟩) : awp C nt (.region false [] ri41_1 (some [0, 6, 7])) P ⟨[(0, .imm (.slice (List.map UnitT.row units)))], [], 2⟩ := by
  exact reg_fast [.n (units.length : Int)] (AllP.cons (len_side UnitT.row units) .nil) h (by kernel_rfl)

theorem r41_2_3 {C : Ctx} {nt : Nat} (HH : HasA C) (units : List UnitT) (i1 : Nat)  (P : Exit → St → Prop) (h : P .normal ⟨[(0, .imm (.slice (List.map UnitT.row units))), (6, vI (units.length : Int)), (7, vI (i1 : Int)), (8, vB (decide ((i1 : Int) < (units.length : Int))))], [], 6⟩) : awp C nt (.region false [] ri41_2 (some [0, 6, 7, 8])) P ⟨[(0, .imm (.slice (List.map UnitT.row units))), (6, vI (units.length : Int)), (7, vI (i1 : Int))], [], 5⟩ := by
  exact reg_fast [] AllP.nil h (by kernel_rfl)

theorem r41_3_4 {C : Ctx} {nt : Nat} (HH : HasA C) (units : List UnitT) (i1 : Nat)  (P : Exit → St → Prop) (h : P .normal ⟨[(0, .imm (.slice (List.map UnitT.row units))), (6, vI (units.length : Int)), (7, vI (i1 : Int)), (4, vI (i1 : Int))], [], 8⟩) : awp C nt (.region false [] ri41_3 (some [0, 4, 6, 7])) P ⟨[(0, .imm (.slice (List.map UnitT.row units))), (6, vI (units.length : Int)), (7, vI (i1 : Int)), (8, vB (decide ((i1 : Int) < (units.length : Int))))], [], 6⟩ := by
  exact reg_fast [] AllP.nil h (by kernel_rfl)

theorem r41_4_5 {C : Ctx} {nt : Nat} (HH : HasA C) (units : List UnitT) (i1 : Nat) (r1 : Bool) (hr1 : d_unitValid units (i1 : Int) = some r1) (P : Exit → St → Prop) (h : P .normal ⟨[(0, .imm (.slice (List.map UnitT.row units))), (6, vI (units.length : Int)), (7, vI (i1 : Int)), (4, vI (i1 : Int)), (13, vB (!r1))], [], 12⟩) : awp C nt (.region false [] ri41_4 (some [0, 4, 6, 7, 13])) P ⟨[(0, .imm (.slice (List.map UnitT.row units))), (6, vI (units.length : Int)), (7, vI (i1 : Int)), (4, vI (i1 : Int))], [], 8⟩ := by
  exact reg_fast [.v (.bool r1)] (AllP.cons (t_unitValid HH units (i1 : Int) r1 hr1) .nil) h (by kernel_rfl)

theorem r41_5_6 {C : Ctx} {nt : Nat} (HH : HasA C) (units : List UnitT) (i1 : Nat) (r1 : Bool)  (P : Exit → St → Prop) (h : P .normal ⟨[(2, vI (i1 : Int)), (3, vB false)], [], 15⟩) : awp C nt (.region false [] ri41_5 (some [2, 3])) P ⟨[(0, .imm (.slice (List.map UnitT.row units))), (6, vI (units.length : Int)), (7, vI (i1 : Int)), (4, vI (i1 : Int)), (13, vB (!r1))], [], 12⟩ := by
  exact reg_fast [] AllP.nil h (by kernel_rfl)

theorem r41_6_7 {C : Ctx} {nt : Nat} (HH : HasA C) (units : List UnitT) (i1 : Nat) (r1 : Bool)  (P : Exit → St → Prop) (h : P .normal ⟨[(0, .imm (.slice (List.map UnitT.row units))), (6, vI (units.length : Int)), (7, vI (IntKind.i64.wrap ((i1 : Int) + 1)))], [], 14⟩) : awp C nt (.region false [] ri41_6 (some [0, 6, 7])) P ⟨[(0, .imm (.slice (List.map UnitT.row units))), (6, vI (units.length : Int)), (7, vI (i1 : Int)), (4, vI (i1 : Int)), (13, vB (!r1))], [], 12⟩ := by
  exact reg_fast [] AllP.nil h (by kernel_rfl)

theorem r41_2_8 {C : Ctx} {nt : Nat} (HH : HasA C) (units : List UnitT) (i1 : Nat)  (P : Exit → St → Prop) (h : P .normal ⟨[(0, .imm (.slice (List.map UnitT.row units))), (6, vI (units.length : Int)), (7, vI (i1 : Int)), (8, vB (decide ((i1 : Int) < (units.length : Int))))], [], 6⟩) : awp C nt (.region false [] ri41_2 (some [0, 6, 7, 8])) P ⟨[(0, .imm (.slice (List.map UnitT.row units))), (6, vI (units.length : Int)), (7, vI (i1 : Int))], [], 5⟩ := by
  exact reg_fast [] AllP.nil h (by kernel_rfl)

theorem r41_7_9 {C : Ctx} {nt : Nat} (HH : HasA C) (units : List UnitT) (i1 : Nat)  (P : Exit → St → Prop) (h : P .normal ⟨[(2, vI (-1)), (3, vB true)], [], 8⟩) : awp C nt (.region false [] ri41_7 (some [2, 3])) P ⟨[(0, .imm (.slice (List.map UnitT.row units))), (6, vI (units.length : Int)), (7, vI (i1 : Int)), (8, vB (decide ((i1 : Int) < (units.length : Int))))], [], 6⟩ := by
  exact reg_fast [] AllP.nil h (by kernel_rfl)

noncomputable def d_quantityValid (units : List UnitT) : Option (Int × Bool) :=
  (Option.bind (forR (σ := Unit) (ρ := Int) (units.length : Int) (fun i1 s1 => (Option.bind (d_unitValid units (i1 : Int)) fun r1 => (bif r1 then some (.inl ()) else some (.inr (i1 : Int))))) ()) (Sum.elim (fun (s1 : Unit) => some ((-1), true)) (fun (y1 : Int) => some (y1, false))))
set_option maxHeartbeats 4000000 in
theorem t_quantityValid {C : Ctx} (HH : HasA C) (units : List UnitT) (res : Int × Bool) (hd : d_quantityValid units = some res) : APure C 41 [.slice (List.map UnitT.row units)] (.tuple [.int .i64 res.1, .bool res.2]) := by
  refine APure.start HH.h41 5 (by simp [af41]) ?_
  unfold d_quantityValid at hd
  show awp C _ af41.body (EndsR af41.results _) ⟨[(0, .imm (.slice (List.map UnitT.row units)))], [], 0⟩
  refine awp_seq ?_
  refine r41_0_1 HH units _ ?_
  refine then_n ?_
  refine awp_seq ?_
  refine awp_seq ?_
  refine r41_1_2 HH units _ ?_
  refine then_n ?_
  refine awp_block ?_
  obtain ⟨o1, hl_o1, hd_1⟩ := obind hd; clear hd
  refine awp_forR hl_o1 (fun i1 s1 => [(0, .imm (.slice (List.map UnitT.row units))), (6, vI (units.length : Int)), (7, vI (i1 : Int))]) (fun i1 s1 => []) ?_ ?_ ?_
  · exact weak_run [0, 6, 7] [] 5 [] [] AllP.nil (by kernel_rfl)
  · intro i1 s1 o hi_i1 hw_i1 hs_s1
    refine awp_seq ?_
    refine r41_2_3 HH units i1 _ ?_
    refine then_n ?_
    refine awp_seq ?_
    refine awp_ifT (by simp [*]) ?_
    refine awp_skip ?_
    refine then_n ?_
    refine awp_seq ?_
    refine awp_block ?_
    refine awp_seq ?_
    refine r41_3_4 HH units i1 _ ?_
    refine then_n ?_
    refine awp_seq ?_
    obtain ⟨r1, hr1, hs_s1_1⟩ := obind hs_s1; clear hs_s1
    refine r41_4_5 HH units i1 r1 hr1 _ ?_
    clear hr1
    refine then_n ?_
    refine awp_ifN r1 rfl (fun g => ?_) (fun g => ?_)
    · replace hs_s1_1 := cond_f g hs_s1_1
      refine awp_seq ?_
      refine r41_5_6 HH units i1 r1 _ ?_
      refine then_n ?_
      refine awp_ret ?_
      refine inb_r ?_
      refine then_r ?_
      cases hs_s1_1
      refine ⟨_, rfl, fun hq => ?_⟩
      subst hq
      replace hd_1 := sel_r hd_1
      refine inb_r ?_
      refine then_r ?_
      have ee := Option.some.inj hd_1; subst ee
      exact end_ret (by kernel_rfl)
    · replace hs_s1_1 := cond_t g hs_s1_1
      refine awp_skip ?_
      refine inb_n ?_
      refine then_n ?_
      refine r41_6_7 HH units i1 r1 _ ?_
      cases hs_s1_1
      exact ⟨_, rfl, weak_run [0, 6, 7] [] 5 [(7, vI (((i1 + 1 : Nat) : Int)))] [] (AllP.cons (ov_int hw_i1) .nil) (by kernel_rfl)⟩
  · intro i1 s1 hi_i1 ho
    subst ho
    replace hd_1 := sel_l hd_1
    refine awp_seq ?_
    refine r41_2_8 HH units i1 _ ?_
    refine then_n ?_
    refine awp_seq ?_
    refine awp_ifF (by simp [*]) ?_
    refine awp_exit ?_
    refine then_x ?_
    refine then_x ?_
    refine inb_eq ?_
    refine then_n ?_
    refine awp_seq ?_
    refine r41_7_9 HH units i1 _ ?_
    refine then_n ?_
    refine awp_ret ?_
    have ee := Option.some.inj hd_1; subst ee
    exact end_ret (by kernel_rfl)

theorem r47_0_1 {C : Ctx} {nt : Nat} (HH : HasA C) (c : ContractT) (role : Int)  (P : Exit → St → Prop) (h : P .normal ⟨[(1, vI role), (2, .ptr 0 0 0)], [(0, .rows 7 [rowA (ContractT.row c)])], 2⟩) : awp C nt (.region false [] ri47_0 (some [1, 2])) P ⟨[(0, .imm (.agg (ContractT.row c))), (1, vI role)], [], 0⟩ := by
  exact reg_fast [] AllP.nil h (by kernel_rfl)

theorem r47_1_2 {C : Ctx} {nt : Nat} (HH : HasA C) (c : ContractT) (role : Int) (v1 : Bool) (hv1 : (bif decide (0 ≤ role) then some (decide (role < (c.holders.length : Int))) else some false) = some v1) (P : Exit → St → Prop) (h : P .normal ⟨[(4, vB v1)], [(0, .rows 7 [rowA (ContractT.row c)])], 12⟩) : awp C nt (.region false [] ri47_1 (some [4])) P ⟨[(1, vI role), (2, .ptr 0 0 0)], [(0, .rows 7 [rowA (ContractT.row c)])], 2⟩ := by
  rcases grd hv1 with ⟨g1, hv1⟩ | ⟨g1, hv1⟩
  · skip
    have ee := Option.some.inj hv1; subst ee
    exact reg_fast [.g true, .n (c.holders.length : Int)] (AllP.cons g1 (.cons (len_side rowI c.holders) .nil)) h (by kernel_rfl)
  · skip
    have ee := Option.some.inj hv1; subst ee
    exact reg_fast [.g false] (AllP.cons g1 .nil) h (by kernel_rfl)

noncomputable def d_movable (c : ContractT) (role : Int) : Option Bool :=
  (Option.bind (bif decide (0 ≤ role) then some (decide (role < (c.holders.length : Int))) else some false) fun v1 => some v1)
set_option maxHeartbeats 4000000 in
theorem t_movable {C : Ctx} (HH : HasA C) (c : ContractT) (role : Int) (res : Bool) (hd : d_movable c role = some res) : APure C 47 [.agg (ContractT.row c), .int .i64 role] (.bool res) := by
  refine APure.start HH.h47 5 (by simp [af47]) ?_
  unfold d_movable at hd
  show awp C _ af47.body (EndsR af47.results _) ⟨[(0, .imm (.agg (ContractT.row c))), (1, vI role)], [], 0⟩
  refine awp_seq ?_
  refine r47_0_1 HH c role _ ?_
  refine then_n ?_
  refine awp_seq ?_
  obtain ⟨v1, hv1, hd_1⟩ := obind hd; clear hd
  refine r47_1_2 HH c role v1 hv1 _ ?_
  clear hv1
  refine then_n ?_
  refine awp_ret ?_
  have ee := Option.some.inj hd_1; subst ee
  exact end_ret (by kernel_rfl)

theorem r45_0_1 {C : Ctx} {nt : Nat} (HH : HasA C)   (P : Exit → St → Prop) (h : P .normal ⟨[(0, .ptr 0 0 0)], [(0, .rows 2 [[vI 0, vI 0]])], 1⟩) : awp C nt (.region false [] ri45_0 (some [0])) P ⟨[], [], 0⟩ := by
  exact reg_fast [] AllP.nil h (by kernel_rfl)

theorem r45_1_2 {C : Ctx} {nt : Nat} (HH : HasA C)   (P : Exit → St → Prop) (h : P .normal ⟨[(0, .ptr 0 0 0)], [(0, .rows 2 [[vI 0, vI 1]])], 3⟩) : awp C nt (.region false [] ri45_1 (some [0])) P ⟨[(0, .ptr 0 0 0)], [(0, .rows 2 [[vI 0, vI 0]])], 1⟩ := by
  exact reg_fast [] AllP.nil h (by kernel_rfl)

noncomputable def d_none  : Option Ratio :=
  some ({ num := 0, den := 1 } : Ratio)
set_option maxHeartbeats 4000000 in
theorem t_none {C : Ctx} (HH : HasA C)  (res : Ratio) (hd : d_none  = some res) : APure C 45 [] (.agg (Ratio.row res)) := by
  refine APure.start HH.h45 5 (by simp [af45]) ?_
  unfold d_none at hd
  show awp C _ af45.body (EndsR af45.results _) ⟨[], [], 0⟩
  refine awp_seq ?_
  refine r45_0_1 HH  _ ?_
  refine then_n ?_
  refine awp_seq ?_
  refine r45_1_2 HH  _ ?_
  refine then_n ?_
  refine awp_ret ?_
  have ee := Option.some.inj hd; subst ee
  exact end_ret (by kernel_rfl)

theorem r46_0_1 {C : Ctx} {nt : Nat} (HH : HasA C) (r : Ratio)  (P : Exit → St → Prop) (h : P .normal ⟨[(1, .ptr 0 0 0)], [(0, .rows 2 [rowA (Ratio.row r)])], 2⟩) : awp C nt (.region false [] ri46_0 (some [1])) P ⟨[(0, .imm (.agg (Ratio.row r)))], [], 0⟩ := by
  exact reg_fast [] AllP.nil h (by kernel_rfl)

theorem r46_1_2 {C : Ctx} {nt : Nat} (HH : HasA C) (r : Ratio) (v1 : Bool) (hv1 : (bif decide (0 < r.num) then (Option.bind (d_ratioValid r) fun r1 => some r1) else some false) = some v1) (P : Exit → St → Prop) (h : P .normal ⟨[(2, vB v1)], [(0, .rows 2 [rowA (Ratio.row r)])], 10⟩) : awp C nt (.region false [] ri46_1 (some [2])) P ⟨[(1, .ptr 0 0 0)], [(0, .rows 2 [rowA (Ratio.row r)])], 2⟩ := by
  rcases grd hv1 with ⟨g1, hv1⟩ | ⟨g1, hv1⟩
  · skip
    obtain ⟨r1, hr1, hv1⟩ := obind hv1
    have ee := Option.some.inj hv1; subst ee
    exact reg_fast [.g true, .v (.bool r1)] (AllP.cons g1 (.cons (t_ratioValid HH r r1 hr1) .nil)) h (by kernel_rfl)
  · skip
    have ee := Option.some.inj hv1; subst ee
    exact reg_fast [.g false] (AllP.cons g1 .nil) h (by kernel_rfl)

noncomputable def d_positive (r : Ratio) : Option Bool :=
  (Option.bind (bif decide (0 < r.num) then (Option.bind (d_ratioValid r) fun r1 => some r1) else some false) fun v1 => some v1)
set_option maxHeartbeats 4000000 in
theorem t_positive {C : Ctx} (HH : HasA C) (r : Ratio) (res : Bool) (hd : d_positive r = some res) : APure C 46 [.agg (Ratio.row r)] (.bool res) := by
  refine APure.start HH.h46 5 (by simp [af46]) ?_
  unfold d_positive at hd
  show awp C _ af46.body (EndsR af46.results _) ⟨[(0, .imm (.agg (Ratio.row r)))], [], 0⟩
  refine awp_seq ?_
  refine r46_0_1 HH r _ ?_
  refine then_n ?_
  refine awp_seq ?_
  obtain ⟨v1, hv1, hd_1⟩ := obind hd; clear hd
  refine r46_1_2 HH r v1 hv1 _ ?_
  clear hv1
  refine then_n ?_
  refine awp_ret ?_
  have ee := Option.some.inj hd_1; subst ee
  exact end_ret (by kernel_rfl)

theorem r42_0_1 {C : Ctx} {nt : Nat} (HH : HasA C) (c : ContractT) (a : ActT)  (P : Exit → St → Prop) (h : P .normal ⟨[(2, .ptr 0 0 0), (3, .ptr 1 0 0)], [(0, .rows 7 [rowA (ContractT.row c)]), (1, .rows 7 [rowA (ActT.row a)])], 3⟩) : awp C nt (.region false [] ri42_0 (some [2, 3])) P ⟨[(0, .imm (.agg (ContractT.row c))), (1, .imm (.agg (ActT.row a)))], [], 0⟩ := by
  exact reg_fast [] AllP.nil h (by kernel_rfl)

theorem r42_1_2 {C : Ctx} {nt : Nat} (HH : HasA C) (c : ContractT) (a : ActT) (r1 : Bool) (hr1 : d_movable c a.role = some r1) (P : Exit → St → Prop) (h : P .normal ⟨[(2, .ptr 0 0 0), (3, .ptr 1 0 0), (9, vB (!r1))], [(0, .rows 7 [rowA (ContractT.row c)]), (1, .rows 7 [rowA (ActT.row a)])], 8⟩) : awp C nt (.region false [] ri42_1 (some [2, 3, 9])) P ⟨[(2, .ptr 0 0 0), (3, .ptr 1 0 0)], [(0, .rows 7 [rowA (ContractT.row c)]), (1, .rows 7 [rowA (ActT.row a)])], 3⟩ := by
  exact reg_fast [.v (.bool r1)] (AllP.cons (t_movable HH c a.role r1 hr1) .nil) h (by kernel_rfl)

theorem r42_2_3 {C : Ctx} {nt : Nat} (HH : HasA C) (c : ContractT) (a : ActT) (r1 : Bool) (v1 : Bool) (hv1 : (bif (a.kind == 1) then (bif (a.role == (-1)) then (bif (a.give == 0) then (bif (a.to == (-1)) then (bif (a.unit == (-1)) then (Option.bind (d_none) fun r2 => some ((a.lot.num == r2.num) && ((a.lot.den == r2.den) && true))) else some false) else (Option.bind (d_movable c a.to) fun r3 => (bif r3 then (bif (a.unit == (-1)) then (Option.bind (d_none) fun r4 => some ((a.lot.num == r4.num) && ((a.lot.den == r4.den) && true))) else some false) else some false))) else some false) else some false) else some false) = some v1) (P : Exit → St → Prop) (h : P .normal ⟨[(4, vB v1)], [(0, .rows 7 [rowA (ContractT.row c)]), (1, .rows 7 [rowA (ActT.row a)])], 44⟩) : awp C nt (.region true [0, 1, 3, 7, 15, 31, 63, 127, 255, 511, 1023, 2047, 4095, 8191, 16383, 32767, 65535, 131071, 262143, 262143, 786431, 2097151, 4194303, 8388607, 16777215, 33554431, 67108863, 134217727, 268435455, 536870911, 1073741823, 2147483647, 1073741823, 8589934591, 17179869183, 34359738367] ri42_2 (some [4])) P ⟨[(2, .ptr 0 0 0), (3, .ptr 1 0 0), (9, vB (!r1))], [(0, .rows 7 [rowA (ContractT.row c)]), (1, .rows 7 [rowA (ActT.row a)])], 8⟩ := by
  rcases grd hv1 with ⟨g1, hv1⟩ | ⟨g1, hv1⟩
  · skip
    rcases grd hv1 with ⟨g2, hv1⟩ | ⟨g2, hv1⟩
    · skip
      rcases grd hv1 with ⟨g3, hv1⟩ | ⟨g3, hv1⟩
      · skip
        rcases grd hv1 with ⟨g4, hv1⟩ | ⟨g4, hv1⟩
        · skip
          rcases grd hv1 with ⟨g5, hv1⟩ | ⟨g5, hv1⟩
          · skip
            obtain ⟨r2, hr2, hv1⟩ := obind hv1
            have ee := Option.some.inj hv1; subst ee
            exact drw_fast [.g true, .g true, .g true, .g true, .g true, .g true, .v (.agg (Ratio.row r2))] (AllP.cons g1 (.cons g2 (.cons g3 (.cons g4 (.cons (rfl : true = true) (.cons g5 (.cons (t_none HH  r2 hr2) .nil))))))) h (by kernel_rfl)
          · skip
            have ee := Option.some.inj hv1; subst ee
            exact drw_fast [.g true, .g true, .g true, .g true, .g true, .g false] (AllP.cons g1 (.cons g2 (.cons g3 (.cons g4 (.cons (rfl : true = true) (.cons g5 .nil)))))) h (by kernel_rfl)
        · skip
          obtain ⟨r3, hr3, hv1⟩ := obind hv1
          rcases grd hv1 with ⟨g6, hv1⟩ | ⟨g6, hv1⟩
          · skip
            rcases grd hv1 with ⟨g7, hv1⟩ | ⟨g7, hv1⟩
            · skip
              obtain ⟨r4, hr4, hv1⟩ := obind hv1
              have ee := Option.some.inj hv1; subst ee
              exact drw_fast [.g true, .g true, .g true, .g false, .v (.bool r3), .g true, .g true, .v (.agg (Ratio.row r4))] (AllP.cons g1 (.cons g2 (.cons g3 (.cons g4 (.cons (t_movable HH c a.to r3 hr3) (.cons g6 (.cons g7 (.cons (t_none HH  r4 hr4) .nil)))))))) h (by kernel_rfl)
            · skip
              have ee := Option.some.inj hv1; subst ee
              exact drw_fast [.g true, .g true, .g true, .g false, .v (.bool r3), .g true, .g false] (AllP.cons g1 (.cons g2 (.cons g3 (.cons g4 (.cons (t_movable HH c a.to r3 hr3) (.cons g6 (.cons g7 .nil))))))) h (by kernel_rfl)
          · skip
            have ee := Option.some.inj hv1; subst ee
            exact drw_fast [.g true, .g true, .g true, .g false, .v (.bool r3), .g false, .g false] (AllP.cons g1 (.cons g2 (.cons g3 (.cons g4 (.cons (t_movable HH c a.to r3 hr3) (.cons g6 (.cons (rfl : false = false) .nil))))))) h (by kernel_rfl)
      · skip
        have ee := Option.some.inj hv1; subst ee
        exact drw_fast [.g true, .g true, .g false, .g false, .g false] (AllP.cons g1 (.cons g2 (.cons g3 (.cons (rfl : false = false) (.cons (rfl : false = false) .nil))))) h (by kernel_rfl)
    · skip
      have ee := Option.some.inj hv1; subst ee
      exact drw_fast [.g true, .g false, .g false, .g false, .g false] (AllP.cons g1 (.cons g2 (.cons (rfl : false = false) (.cons (rfl : false = false) (.cons (rfl : false = false) .nil))))) h (by kernel_rfl)
  · skip
    have ee := Option.some.inj hv1; subst ee
    exact drw_fast [.g false, .g false, .g false, .g false, .g false] (AllP.cons g1 (.cons (rfl : false = false) (.cons (rfl : false = false) (.cons (rfl : false = false) (.cons (rfl : false = false) .nil))))) h (by kernel_rfl)

theorem r42_3_4 {C : Ctx} {nt : Nat} (HH : HasA C) (c : ContractT) (a : ActT) (r1 : Bool)  (P : Exit → St → Prop) (h : P .normal ⟨[(2, .ptr 0 0 0), (3, .ptr 1 0 0), (46, vI a.kind)], [(0, .rows 7 [rowA (ContractT.row c)]), (1, .rows 7 [rowA (ActT.row a)])], 10⟩) : awp C nt (.region false [] ri42_3 (some [2, 3, 46])) P ⟨[(2, .ptr 0 0 0), (3, .ptr 1 0 0), (9, vB (!r1))], [(0, .rows 7 [rowA (ContractT.row c)]), (1, .rows 7 [rowA (ActT.row a)])], 8⟩ := by
  exact reg_fast [] AllP.nil h (by kernel_rfl)

theorem r42_4_5 {C : Ctx} {nt : Nat} (HH : HasA C) (c : ContractT) (a : ActT)  (P : Exit → St → Prop) (h : P .normal ⟨[(2, .ptr 0 0 0), (3, .ptr 1 0 0), (46, vI a.kind), (47, vB (a.kind == 1))], [(0, .rows 7 [rowA (ContractT.row c)]), (1, .rows 7 [rowA (ActT.row a)])], 12⟩) : awp C nt (.region false [] ri42_4 (some [2, 3, 46, 47])) P ⟨[(2, .ptr 0 0 0), (3, .ptr 1 0 0), (46, vI a.kind)], [(0, .rows 7 [rowA (ContractT.row c)]), (1, .rows 7 [rowA (ActT.row a)])], 10⟩ := by
  exact reg_fast [] AllP.nil h (by kernel_rfl)

theorem r42_5_6 {C : Ctx} {nt : Nat} (HH : HasA C) (c : ContractT) (a : ActT) (v2 : Bool) (hv2 : (bif (a.give == 0) then (bif (a.to == (-1)) then some false else (Option.bind (d_movable c a.to) fun r5 => some (!r5))) else some true) = some v2) (P : Exit → St → Prop) (h : P .normal ⟨[(2, .ptr 0 0 0), (3, .ptr 1 0 0), (63, vB v2)], [(0, .rows 7 [rowA (ContractT.row c)]), (1, .rows 7 [rowA (ActT.row a)])], 27⟩) : awp C nt (.region false [] ri42_5 (some [2, 3, 63])) P ⟨[(2, .ptr 0 0 0), (3, .ptr 1 0 0), (46, vI a.kind), (47, vB (a.kind == 1))], [(0, .rows 7 [rowA (ContractT.row c)]), (1, .rows 7 [rowA (ActT.row a)])], 12⟩ := by
  rcases grd hv2 with ⟨g8, hv2⟩ | ⟨g8, hv2⟩
  · skip
    rcases grd hv2 with ⟨g9, hv2⟩ | ⟨g9, hv2⟩
    · skip
      have ee := Option.some.inj hv2; subst ee
      exact reg_fast [.g false, .g false] (AllP.cons (not_side g8) (.cons (not_side g9) .nil)) h (by kernel_rfl)
    · skip
      obtain ⟨r5, hr5, hv2⟩ := obind hv2
      have ee := Option.some.inj hv2; subst ee
      exact reg_fast [.g false, .g true, .v (.bool r5)] (AllP.cons (not_side g8) (.cons (not_side g9) (.cons (t_movable HH c a.to r5 hr5) .nil))) h (by kernel_rfl)
  · skip
    have ee := Option.some.inj hv2; subst ee
    exact reg_fast [.g true] (AllP.cons (not_side g8) .nil) h (by kernel_rfl)

theorem r42_6_7 {C : Ctx} {nt : Nat} (HH : HasA C) (c : ContractT) (a : ActT) (v2 : Bool)  (P : Exit → St → Prop) (h : P .normal ⟨[(4, vB false)], [(0, .rows 7 [rowA (ContractT.row c)]), (1, .rows 7 [rowA (ActT.row a)])], 28⟩) : awp C nt (.region false [] ri42_6 (some [4])) P ⟨[(2, .ptr 0 0 0), (3, .ptr 1 0 0), (63, vB v2)], [(0, .rows 7 [rowA (ContractT.row c)]), (1, .rows 7 [rowA (ActT.row a)])], 27⟩ := by
  exact reg_fast [] AllP.nil h (by kernel_rfl)

theorem r42_7_8 {C : Ctx} {nt : Nat} (HH : HasA C) (c : ContractT) (a : ActT) (v2 : Bool)  (P : Exit → St → Prop) (h : P .normal ⟨[(2, .ptr 0 0 0), (3, .ptr 1 0 0), (66, vB (a.unit == (-1)))], [(0, .rows 7 [rowA (ContractT.row c)]), (1, .rows 7 [rowA (ActT.row a)])], 30⟩) : awp C nt (.region false [] ri42_7 (some [2, 3, 66])) P ⟨[(2, .ptr 0 0 0), (3, .ptr 1 0 0), (63, vB v2)], [(0, .rows 7 [rowA (ContractT.row c)]), (1, .rows 7 [rowA (ActT.row a)])], 27⟩ := by
  exact reg_fast [] AllP.nil h (by kernel_rfl)

theorem r42_8_9 {C : Ctx} {nt : Nat} (HH : HasA C) (c : ContractT) (a : ActT) (r6 : Ratio) (hr6 : d_none = some r6) (P : Exit → St → Prop) (h : P .normal ⟨[(4, vB ((a.lot.num == r6.num) && ((a.lot.den == r6.den) && true)))], [(0, .rows 7 [rowA (ContractT.row c)]), (1, .rows 7 [rowA (ActT.row a)])], 35⟩) : awp C nt (.region true [0, 1, 0, 7, 15] ri42_8 (some [4])) P ⟨[(2, .ptr 0 0 0), (3, .ptr 1 0 0), (66, vB (a.unit == (-1)))], [(0, .rows 7 [rowA (ContractT.row c)]), (1, .rows 7 [rowA (ActT.row a)])], 30⟩ := by
  exact drw_fast [.v (.agg (Ratio.row r6))] (AllP.cons (t_none HH  r6 hr6) .nil) h (by kernel_rfl)

theorem r42_9_10 {C : Ctx} {nt : Nat} (HH : HasA C) (c : ContractT) (a : ActT) (v3 : Bool) (hv3 : (bif decide (0 ≤ a.unit) then (bif decide (a.unit < (c.units.length : Int)) then (Option.bind (d_positive a.lot) fun r7 => some r7) else some false) else some false) = some v3) (P : Exit → St → Prop) (h : P .normal ⟨[(4, vB v3)], [(0, .rows 7 [rowA (ContractT.row c)]), (1, .rows 7 [rowA (ActT.row a)])], 47⟩) : awp C nt (.region false [] ri42_9 (some [4])) P ⟨[(2, .ptr 0 0 0), (3, .ptr 1 0 0), (66, vB (a.unit == (-1)))], [(0, .rows 7 [rowA (ContractT.row c)]), (1, .rows 7 [rowA (ActT.row a)])], 30⟩ := by
  rcases grd hv3 with ⟨g10, hv3⟩ | ⟨g10, hv3⟩
  · skip
    rcases grd hv3 with ⟨g11, hv3⟩ | ⟨g11, hv3⟩
    · skip
      obtain ⟨r7, hr7, hv3⟩ := obind hv3
      have ee := Option.some.inj hv3; subst ee
      exact reg_fast [.g true, .n (c.units.length : Int), .g true, .v (.bool r7)] (AllP.cons g10 (.cons (len_side UnitT.row c.units) (.cons g11 (.cons (t_positive HH a.lot r7 hr7) .nil)))) h (by kernel_rfl)
    · skip
      have ee := Option.some.inj hv3; subst ee
      exact reg_fast [.g true, .n (c.units.length : Int), .g false] (AllP.cons g10 (.cons (len_side UnitT.row c.units) (.cons g11 .nil))) h (by kernel_rfl)
  · skip
    have ee := Option.some.inj hv3; subst ee
    exact reg_fast [.g false, .g false] (AllP.cons g10 (.cons (rfl : false = false) .nil)) h (by kernel_rfl)

theorem r42_10_11 {C : Ctx} {nt : Nat} (HH : HasA C) (c : ContractT) (a : ActT)  (P : Exit → St → Prop) (h : P .normal ⟨[(2, .ptr 0 0 0), (3, .ptr 1 0 0), (46, vI a.kind), (87, vB (a.kind == 2))], [(0, .rows 7 [rowA (ContractT.row c)]), (1, .rows 7 [rowA (ActT.row a)])], 14⟩) : awp C nt (.region false [] ri42_10 (some [2, 3, 46, 87])) P ⟨[(2, .ptr 0 0 0), (3, .ptr 1 0 0), (46, vI a.kind), (47, vB (a.kind == 1))], [(0, .rows 7 [rowA (ContractT.row c)]), (1, .rows 7 [rowA (ActT.row a)])], 12⟩ := by
  exact reg_fast [] AllP.nil h (by kernel_rfl)

theorem r42_11_12 {C : Ctx} {nt : Nat} (HH : HasA C) (c : ContractT) (a : ActT)  (P : Exit → St → Prop) (h : P .normal ⟨[(2, .ptr 0 0 0), (3, .ptr 1 0 0), (87, vB (a.kind == 3))], [(0, .rows 7 [rowA (ContractT.row c)]), (1, .rows 7 [rowA (ActT.row a)])], 16⟩) : awp C nt (.region false [] ri42_11 (some [2, 3, 87])) P ⟨[(2, .ptr 0 0 0), (3, .ptr 1 0 0), (46, vI a.kind), (87, vB (a.kind == 2))], [(0, .rows 7 [rowA (ContractT.row c)]), (1, .rows 7 [rowA (ActT.row a)])], 14⟩ := by
  exact reg_fast [] AllP.nil h (by kernel_rfl)

theorem r42_12_13 {C : Ctx} {nt : Nat} (HH : HasA C) (c : ContractT) (a : ActT) (v4 : Bool) (v5 : Bool) (hv5 : (Option.bind (d_movable c a.give) fun r8 => (bif r8 then (bif decide (0 ≤ a.to) then (bif decide (a.to < c.parties) then (bif (a.unit == (-1)) then (Option.bind (d_none) fun r9 => some ((a.lot.num == r9.num) && ((a.lot.den == r9.den) && true))) else some false) else some false) else some false) else some false)) = some v5) (P : Exit → St → Prop) (h : P .normal ⟨[(4, vB v5)], [(0, .rows 7 [rowA (ContractT.row c)]), (1, .rows 7 [rowA (ActT.row a)])], 42⟩) : awp C nt (.region true [0, 0, 2, 7, 15, 31, 63, 127, 255, 511, 1023, 2047, 1023, 5119, 16383, 32767, 65535, 131071, 262143, 524287, 1048575, 2097151, 4194303, 8388607, 4194303, 33554431, 67108863, 134217727] ri42_12 (some [4])) P ⟨[(2, .ptr 0 0 0), (3, .ptr 1 0 0), (87, vB v4)], [(0, .rows 7 [rowA (ContractT.row c)]), (1, .rows 7 [rowA (ActT.row a)])], 14⟩ := by
  obtain ⟨r8, hr8, hv5⟩ := obind hv5
  rcases grd hv5 with ⟨g12, hv5⟩ | ⟨g12, hv5⟩
  · skip
    rcases grd hv5 with ⟨g13, hv5⟩ | ⟨g13, hv5⟩
    · skip
      rcases grd hv5 with ⟨g14, hv5⟩ | ⟨g14, hv5⟩
      · skip
        rcases grd hv5 with ⟨g15, hv5⟩ | ⟨g15, hv5⟩
        · skip
          obtain ⟨r9, hr9, hv5⟩ := obind hv5
          have ee := Option.some.inj hv5; subst ee
          exact drw_fast [.v (.bool r8), .g true, .g true, .g true, .g true, .v (.agg (Ratio.row r9))] (AllP.cons (t_movable HH c a.give r8 hr8) (.cons g12 (.cons g13 (.cons g14 (.cons g15 (.cons (t_none HH  r9 hr9) .nil)))))) h (by kernel_rfl)
        · skip
          have ee := Option.some.inj hv5; subst ee
          exact drw_fast [.v (.bool r8), .g true, .g true, .g true, .g false] (AllP.cons (t_movable HH c a.give r8 hr8) (.cons g12 (.cons g13 (.cons g14 (.cons g15 .nil))))) h (by kernel_rfl)
      · skip
        have ee := Option.some.inj hv5; subst ee
        exact drw_fast [.v (.bool r8), .g true, .g true, .g false, .g false] (AllP.cons (t_movable HH c a.give r8 hr8) (.cons g12 (.cons g13 (.cons g14 (.cons (rfl : false = false) .nil))))) h (by kernel_rfl)
    · skip
      have ee := Option.some.inj hv5; subst ee
      exact drw_fast [.v (.bool r8), .g true, .g false, .g false, .g false] (AllP.cons (t_movable HH c a.give r8 hr8) (.cons g12 (.cons g13 (.cons (rfl : false = false) (.cons (rfl : false = false) .nil))))) h (by kernel_rfl)
  · skip
    have ee := Option.some.inj hv5; subst ee
    exact drw_fast [.v (.bool r8), .g false, .g false, .g false, .g false] (AllP.cons (t_movable HH c a.give r8 hr8) (.cons g12 (.cons (rfl : false = false) (.cons (rfl : false = false) (.cons (rfl : false = false) .nil))))) h (by kernel_rfl)

theorem r42_13_14 {C : Ctx} {nt : Nat} (HH : HasA C) (c : ContractT) (a : ActT) (v4 : Bool)  (P : Exit → St → Prop) (h : P .normal ⟨[(4, vB false)], [(0, .rows 7 [rowA (ContractT.row c)]), (1, .rows 7 [rowA (ActT.row a)])], 15⟩) : awp C nt (.region false [] ri42_13 (some [4])) P ⟨[(2, .ptr 0 0 0), (3, .ptr 1 0 0), (87, vB v4)], [(0, .rows 7 [rowA (ContractT.row c)]), (1, .rows 7 [rowA (ActT.row a)])], 14⟩ := by
  exact reg_fast [] AllP.nil h (by kernel_rfl)

noncomputable def d_validAct (c : ContractT) (a : ActT) : Option Bool :=
  (Option.bind (d_movable c a.role) fun r1 => (bif r1 then (bif (a.kind == 1) then (Option.bind (bif (a.give == 0) then (bif (a.to == (-1)) then some false else (Option.bind (d_movable c a.to) fun r5 => some (!r5))) else some true) fun v2 => (bif v2 then some false else (bif (a.unit == (-1)) then (Option.bind (d_none) fun r6 => some ((a.lot.num == r6.num) && ((a.lot.den == r6.den) && true))) else (Option.bind (bif decide (0 ≤ a.unit) then (bif decide (a.unit < (c.units.length : Int)) then (Option.bind (d_positive a.lot) fun r7 => some r7) else some false) else some false) fun v3 => some v3)))) else (Option.bind (bif (a.kind == 2) then some (a.kind == 2) else some (a.kind == 3)) fun (v4 : Bool) => (bif v4 then (Option.bind (Option.bind (d_movable c a.give) fun r8 => (bif r8 then (bif decide (0 ≤ a.to) then (bif decide (a.to < c.parties) then (bif (a.unit == (-1)) then (Option.bind (d_none) fun r9 => some ((a.lot.num == r9.num) && ((a.lot.den == r9.den) && true))) else some false) else some false) else some false) else some false)) fun v5 => some v5) else some false))) else (Option.bind (bif (a.kind == 1) then (bif (a.role == (-1)) then (bif (a.give == 0) then (bif (a.to == (-1)) then (bif (a.unit == (-1)) then (Option.bind (d_none) fun r2 => some ((a.lot.num == r2.num) && ((a.lot.den == r2.den) && true))) else some false) else (Option.bind (d_movable c a.to) fun r3 => (bif r3 then (bif (a.unit == (-1)) then (Option.bind (d_none) fun r4 => some ((a.lot.num == r4.num) && ((a.lot.den == r4.den) && true))) else some false) else some false))) else some false) else some false) else some false) fun v1 => some v1)))
set_option maxHeartbeats 4000000 in
theorem t_validAct {C : Ctx} (HH : HasA C) (c : ContractT) (a : ActT) (res : Bool) (hd : d_validAct c a = some res) : APure C 42 [.agg (ContractT.row c), .agg (ActT.row a)] (.bool res) := by
  refine APure.start HH.h42 5 (by simp [af42]) ?_
  unfold d_validAct at hd
  show awp C _ af42.body (EndsR af42.results _) ⟨[(0, .imm (.agg (ContractT.row c))), (1, .imm (.agg (ActT.row a)))], [], 0⟩
  refine awp_seq ?_
  refine r42_0_1 HH c a _ ?_
  refine then_n ?_
  refine awp_seq ?_
  refine awp_seq ?_
  obtain ⟨r1, hr1, hd_1⟩ := obind hd; clear hd
  refine r42_1_2 HH c a r1 hr1 _ ?_
  clear hr1
  refine then_n ?_
  refine awp_ifN r1 rfl (fun g => ?_) (fun g => ?_)
  · replace hd_1 := cond_f g hd_1
    refine awp_seq ?_
    obtain ⟨v1, hv1, hd_2⟩ := obind hd_1; clear hd_1
    refine r42_2_3 HH c a r1 v1 hv1 _ ?_
    clear hv1
    refine then_n ?_
    refine awp_ret ?_
    refine then_r ?_
    have ee := Option.some.inj hd_2; subst ee
    exact end_ret (by kernel_rfl)
  · replace hd_1 := cond_t g hd_1
    refine awp_skip ?_
    refine then_n ?_
    refine awp_seq ?_
    refine awp_seq ?_
    refine r42_3_4 HH c a r1 _ ?_
    refine then_n ?_
    refine awp_block ?_
    refine awp_seq ?_
    refine r42_4_5 HH c a _ ?_
    refine then_n ?_
    refine awp_if (a.kind == 1) rfl (fun g => ?_) (fun g => ?_)
    · replace hd_1 := cond_t g hd_1
      refine awp_seq ?_
      refine awp_seq ?_
      obtain ⟨v2, hv2, hd_2⟩ := obind hd_1; clear hd_1
      refine r42_5_6 HH c a v2 hv2 _ ?_
      clear hv2
      refine then_n ?_
      refine awp_if v2 rfl (fun g => ?_) (fun g => ?_)
      · replace hd_2 := cond_t g hd_2
        refine awp_seq ?_
        refine r42_6_7 HH c a v2 _ ?_
        refine then_n ?_
        refine awp_ret ?_
        refine then_r ?_
        refine inb_r ?_
        refine then_r ?_
        have ee := Option.some.inj hd_2; subst ee
        exact end_ret (by kernel_rfl)
      · replace hd_2 := cond_f g hd_2
        refine awp_skip ?_
        refine then_n ?_
        refine awp_seq ?_
        refine awp_seq ?_
        refine r42_7_8 HH c a v2 _ ?_
        refine then_n ?_
        refine awp_if (a.unit == (-1)) rfl (fun g => ?_) (fun g => ?_)
        · replace hd_2 := cond_t g hd_2
          refine awp_seq ?_
          obtain ⟨r6, hr6, hd_3⟩ := obind hd_2; clear hd_2
          refine r42_8_9 HH c a r6 hr6 _ ?_
          clear hr6
          refine then_n ?_
          refine awp_ret ?_
          refine then_r ?_
          refine inb_r ?_
          refine then_r ?_
          have ee := Option.some.inj hd_3; subst ee
          exact end_ret (by kernel_rfl)
        · replace hd_2 := cond_f g hd_2
          refine awp_skip ?_
          refine then_n ?_
          refine awp_seq ?_
          obtain ⟨v3, hv3, hd_3⟩ := obind hd_2; clear hd_2
          refine r42_9_10 HH c a v3 hv3 _ ?_
          clear hv3
          refine then_n ?_
          refine awp_ret ?_
          refine inb_r ?_
          refine then_r ?_
          have ee := Option.some.inj hd_3; subst ee
          exact end_ret (by kernel_rfl)
    · replace hd_1 := cond_f g hd_1
      obtain ⟨v4, hc_v4, hd_2⟩ := obind hd_1; clear hd_1
      refine awp_seqW ⟨[(2, .ptr 0 0 0), (3, .ptr 1 0 0), (87, vB v4)], [(0, .rows 7 [rowA (ContractT.row c)]), (1, .rows 7 [rowA (ActT.row a)])], 14⟩ (by simp) ?_ ?_
      · skip
        refine awp_seq ?_
        refine r42_10_11 HH c a _ ?_
        refine then_n ?_
        refine awp_if (a.kind == 2) rfl (fun g => ?_) (fun g => ?_)
        · replace hc_v4 := cond_t g hc_v4
          refine awp_skip ?_
          have ee := Option.some.inj hc_v4; subst ee
          exact then_n (weak_run [2, 3, 87] [(0, true), (1, true)] 14 [] [] AllP.nil (by kernel_rfl))
        · replace hc_v4 := cond_f g hc_v4
          refine r42_11_12 HH c a _ ?_
          have ee := Option.some.inj hc_v4; subst ee
          exact then_n (weak_run [2, 3, 87] [(0, true), (1, true)] 14 [] [] AllP.nil (by kernel_rfl))
      · skip
        refine awp_if v4 rfl (fun g => ?_) (fun g => ?_)
        · replace hd_2 := cond_t g hd_2
          refine awp_seq ?_
          obtain ⟨v5, hv5, hd_3⟩ := obind hd_2; clear hd_2
          refine r42_12_13 HH c a v4 v5 hv5 _ ?_
          clear hv5
          refine then_n ?_
          refine awp_ret ?_
          refine inb_r ?_
          refine then_r ?_
          have ee := Option.some.inj hd_3; subst ee
          exact end_ret (by kernel_rfl)
        · replace hd_2 := cond_f g hd_2
          refine awp_skip ?_
          refine inb_n ?_
          refine then_n ?_
          refine awp_seq ?_
          refine r42_13_14 HH c a v4 _ ?_
          refine then_n ?_
          refine awp_ret ?_
          have ee := Option.some.inj hd_2; subst ee
          exact end_ret (by kernel_rfl)

theorem r19_0_1 {C : Ctx} {nt : Nat} (HH : HasA C) (c : ContractT)  (P : Exit → St → Prop) (h : P .normal ⟨[(1, .ptr 0 0 0)], [(0, .rows 7 [rowA (ContractT.row c)])], 2⟩) : awp C nt (.region false [] ri19_0 (some [1])) P ⟨[(0, .imm (.agg (ContractT.row c)))], [], 0⟩ := by
  exact reg_fast [] AllP.nil h (by kernel_rfl)

theorem r19_1_2 {C : Ctx} {nt : Nat} (HH : HasA C) (c : ContractT) (v1 : Bool) (hv1 : (bif decide (c.parties < 1) then some true else (bif decide (c.days < 1) then some true else (bif ((c.holders.length : Int) == 0) then some true else (Option.bind (d_held c) fun r1 => some (!r1))))) = some v1) (P : Exit → St → Prop) (h : P .normal ⟨[(1, .ptr 0 0 0), (28, vB v1)], [(0, .rows 7 [rowA (ContractT.row c)])], 21⟩) : awp C nt (.region false [] ri19_1 (some [1, 28])) P ⟨[(1, .ptr 0 0 0)], [(0, .rows 7 [rowA (ContractT.row c)])], 2⟩ := by
  rcases grd hv1 with ⟨g1, hv1⟩ | ⟨g1, hv1⟩
  · skip
    have ee := Option.some.inj hv1; subst ee
    exact reg_fast [.g true, .g true, .g true] (AllP.cons g1 (.cons (rfl : true = true) (.cons (rfl : true = true) .nil))) h (by kernel_rfl)
  · skip
    rcases grd hv1 with ⟨g2, hv1⟩ | ⟨g2, hv1⟩
    · skip
      have ee := Option.some.inj hv1; subst ee
      exact reg_fast [.g false, .g true, .g true] (AllP.cons g1 (.cons g2 (.cons (rfl : true = true) .nil))) h (by kernel_rfl)
    · skip
      rcases grd hv1 with ⟨g3, hv1⟩ | ⟨g3, hv1⟩
      · skip
        have ee := Option.some.inj hv1; subst ee
        exact reg_fast [.g false, .g false, .n (c.holders.length : Int), .g true] (AllP.cons g1 (.cons g2 (.cons (len_side rowI c.holders) (.cons g3 .nil)))) h (by kernel_rfl)
      · skip
        obtain ⟨r1, hr1, hv1⟩ := obind hv1
        have ee := Option.some.inj hv1; subst ee
        exact reg_fast [.g false, .g false, .n (c.holders.length : Int), .g false, .v (.bool r1)] (AllP.cons g1 (.cons g2 (.cons (len_side rowI c.holders) (.cons g3 (.cons (t_held HH c r1 hr1) .nil))))) h (by kernel_rfl)

theorem r19_2_3 {C : Ctx} {nt : Nat} (HH : HasA C) (c : ContractT) (v1 : Bool)  (P : Exit → St → Prop) (h : P .normal ⟨[(2, vB false)], [(0, .rows 7 [rowA (ContractT.row c)])], 22⟩) : awp C nt (.region false [] ri19_2 (some [2])) P ⟨[(1, .ptr 0 0 0), (28, vB v1)], [(0, .rows 7 [rowA (ContractT.row c)])], 21⟩ := by
  exact reg_fast [] AllP.nil h (by kernel_rfl)

theorem r19_3_4 {C : Ctx} {nt : Nat} (HH : HasA C) (c : ContractT) (v1 : Bool) (r2 : Int × Bool) (hr2 : d_quantityValid c.units = some r2) (P : Exit → St → Prop) (h : P .normal ⟨[(1, .ptr 0 0 0), (4, vB r2.2)], [(0, .rows 7 [rowA (ContractT.row c)])], 29⟩) : awp C nt (.region false [] ri19_3 (some [1, 4])) P ⟨[(1, .ptr 0 0 0), (28, vB v1)], [(0, .rows 7 [rowA (ContractT.row c)])], 21⟩ := by
  exact reg_fast [.v (.tuple [.int .i64 r2.1, .bool r2.2])] (AllP.cons (t_quantityValid HH c.units r2 hr2) .nil) h (by kernel_rfl)

theorem r19_4_5 {C : Ctx} {nt : Nat} (HH : HasA C) (c : ContractT) (r2 : Int × Bool)  (P : Exit → St → Prop) (h : P .normal ⟨[(1, .ptr 0 0 0), (36, vB (!r2.2))], [(0, .rows 7 [rowA (ContractT.row c)])], 31⟩) : awp C nt (.region false [] ri19_4 (some [1, 36])) P ⟨[(1, .ptr 0 0 0), (4, vB r2.2)], [(0, .rows 7 [rowA (ContractT.row c)])], 29⟩ := by
  exact reg_fast [] AllP.nil h (by kernel_rfl)

theorem r19_5_6 {C : Ctx} {nt : Nat} (HH : HasA C) (c : ContractT) (r2 : Int × Bool)  (P : Exit → St → Prop) (h : P .normal ⟨[(2, vB false)], [(0, .rows 7 [rowA (ContractT.row c)])], 32⟩) : awp C nt (.region false [] ri19_5 (some [2])) P ⟨[(1, .ptr 0 0 0), (36, vB (!r2.2))], [(0, .rows 7 [rowA (ContractT.row c)])], 31⟩ := by
  exact reg_fast [] AllP.nil h (by kernel_rfl)

theorem r19_6_7 {C : Ctx} {nt : Nat} (HH : HasA C) (c : ContractT) (r2 : Int × Bool)  (P : Exit → St → Prop) (h : P .normal ⟨[(1, .ptr 0 0 0), (38, .imm (.slice (List.map ActT.row c.acts))), (39, vI (c.acts.length : Int)), (40, vI 0)], [(0, .rows 7 [rowA (ContractT.row c)])], 35⟩) : awp C nt (.region false [] ri19_6 (some [1, 38, 39, 40])) P ⟨[(1, .ptr 0 0 0), (36, vB (!r2.2))], [(0, .rows 7 [rowA (ContractT.row c)])], 31⟩ := by
  exact reg_fast [.n (c.acts.length : Int)] (AllP.cons (len_side ActT.row c.acts) .nil) h (by kernel_rfl)

theorem r19_7_8 {C : Ctx} {nt : Nat} (HH : HasA C) (c : ContractT) (i1 : Nat)  (P : Exit → St → Prop) (h : P .normal ⟨[(1, .ptr 0 0 0), (38, .imm (.slice (List.map ActT.row c.acts))), (39, vI (c.acts.length : Int)), (40, vI (i1 : Int)), (41, vB (decide ((i1 : Int) < (c.acts.length : Int))))], [(0, .rows 7 [rowA (ContractT.row c)])], 36⟩) : awp C nt (.region false [] ri19_7 (some [1, 38, 39, 40, 41])) P ⟨[(1, .ptr 0 0 0), (38, .imm (.slice (List.map ActT.row c.acts))), (39, vI (c.acts.length : Int)), (40, vI (i1 : Int))], [(0, .rows 7 [rowA (ContractT.row c)])], 35⟩ := by
  exact reg_fast [] AllP.nil h (by kernel_rfl)

theorem r19_8_9 {C : Ctx} {nt : Nat} (HH : HasA C) (c : ContractT) (i1 : Nat) (e1 : ActT) (he1 : idxI c.acts (i1 : Int) = some e1) (P : Exit → St → Prop) (h : P .normal ⟨[(1, .ptr 0 0 0), (38, .imm (.slice (List.map ActT.row c.acts))), (39, vI (c.acts.length : Int)), (40, vI (i1 : Int)), (6, .ptr 38 0 0)], [(0, .rows 7 [rowA (ContractT.row c)]), (38, .rows 7 [rowA (ActT.row e1)])], 40⟩) : awp C nt (.region false [] ri19_8 (some [1, 6, 38, 39, 40])) P ⟨[(1, .ptr 0 0 0), (38, .imm (.slice (List.map ActT.row c.acts))), (39, vI (c.acts.length : Int)), (40, vI (i1 : Int)), (41, vB (decide ((i1 : Int) < (c.acts.length : Int))))], [(0, .rows 7 [rowA (ContractT.row c)])], 36⟩ := by
  exact reg_fast [.r (ActT.row e1)] (AllP.cons (idx_side ActT.row he1) .nil) h (by kernel_rfl)

theorem r19_9_10 {C : Ctx} {nt : Nat} (HH : HasA C) (c : ContractT) (i1 : Nat) (e1 : ActT) (r3 : Bool) (hr3 : d_validAct c e1 = some r3) (P : Exit → St → Prop) (h : P .normal ⟨[(1, .ptr 0 0 0), (38, .imm (.slice (List.map ActT.row c.acts))), (39, vI (c.acts.length : Int)), (40, vI (i1 : Int)), (47, vB (!r3))], [(0, .rows 7 [rowA (ContractT.row c)]), (38, .rows 7 [rowA (ActT.row e1)])], 44⟩) : awp C nt (.region false [] ri19_9 (some [1, 38, 39, 40, 47])) P ⟨[(1, .ptr 0 0 0), (38, .imm (.slice (List.map ActT.row c.acts))), (39, vI (c.acts.length : Int)), (40, vI (i1 : Int)), (6, .ptr 38 0 0)], [(0, .rows 7 [rowA (ContractT.row c)]), (38, .rows 7 [rowA (ActT.row e1)])], 40⟩ := by
  exact reg_fast [.v (.bool r3)] (AllP.cons (t_validAct HH c e1 r3 hr3) .nil) h (by kernel_rfl)

theorem r19_10_11 {C : Ctx} {nt : Nat} (HH : HasA C) (c : ContractT) (i1 : Nat) (e1 : ActT) (r3 : Bool)  (P : Exit → St → Prop) (h : P .normal ⟨[(2, vB false)], [(0, .rows 7 [rowA (ContractT.row c)]), (38, .rows 7 [rowA (ActT.row e1)])], 45⟩) : awp C nt (.region false [] ri19_10 (some [2])) P ⟨[(1, .ptr 0 0 0), (38, .imm (.slice (List.map ActT.row c.acts))), (39, vI (c.acts.length : Int)), (40, vI (i1 : Int)), (47, vB (!r3))], [(0, .rows 7 [rowA (ContractT.row c)]), (38, .rows 7 [rowA (ActT.row e1)])], 44⟩ := by
  exact reg_fast [] AllP.nil h (by kernel_rfl)

theorem r19_11_12 {C : Ctx} {nt : Nat} (HH : HasA C) (c : ContractT) (i1 : Nat) (e1 : ActT) (r3 : Bool)  (P : Exit → St → Prop) (h : P .normal ⟨[(1, .ptr 0 0 0), (38, .imm (.slice (List.map ActT.row c.acts))), (39, vI (c.acts.length : Int)), (40, vI (IntKind.i64.wrap ((i1 : Int) + 1)))], [(0, .rows 7 [rowA (ContractT.row c)]), (38, .rows 7 [rowA (ActT.row e1)])], 46⟩) : awp C nt (.region false [] ri19_11 (some [1, 38, 39, 40])) P ⟨[(1, .ptr 0 0 0), (38, .imm (.slice (List.map ActT.row c.acts))), (39, vI (c.acts.length : Int)), (40, vI (i1 : Int)), (47, vB (!r3))], [(0, .rows 7 [rowA (ContractT.row c)]), (38, .rows 7 [rowA (ActT.row e1)])], 44⟩ := by
  exact reg_fast [] AllP.nil h (by kernel_rfl)

theorem r19_7_13 {C : Ctx} {nt : Nat} (HH : HasA C) (c : ContractT) (i1 : Nat)  (P : Exit → St → Prop) (h : P .normal ⟨[(1, .ptr 0 0 0), (38, .imm (.slice (List.map ActT.row c.acts))), (39, vI (c.acts.length : Int)), (40, vI (i1 : Int)), (41, vB (decide ((i1 : Int) < (c.acts.length : Int))))], [(0, .rows 7 [rowA (ContractT.row c)])], 36⟩) : awp C nt (.region false [] ri19_7 (some [1, 38, 39, 40, 41])) P ⟨[(1, .ptr 0 0 0), (38, .imm (.slice (List.map ActT.row c.acts))), (39, vI (c.acts.length : Int)), (40, vI (i1 : Int))], [(0, .rows 7 [rowA (ContractT.row c)])], 35⟩ := by
  exact reg_fast [] AllP.nil h (by kernel_rfl)

theorem r19_12_14 {C : Ctx} {nt : Nat} (HH : HasA C) (c : ContractT) (i1 : Nat)  (P : Exit → St → Prop) (h : P .normal ⟨[(1, .ptr 0 0 0), (7, vI (-1))], [(0, .rows 7 [rowA (ContractT.row c)])], 37⟩) : awp C nt (.region false [] ri19_12 (some [1, 7])) P ⟨[(1, .ptr 0 0 0), (38, .imm (.slice (List.map ActT.row c.acts))), (39, vI (c.acts.length : Int)), (40, vI (i1 : Int)), (41, vB (decide ((i1 : Int) < (c.acts.length : Int))))], [(0, .rows 7 [rowA (ContractT.row c)])], 36⟩ := by
  exact reg_fast [] AllP.nil h (by kernel_rfl)

theorem r19_13_15 {C : Ctx} {nt : Nat} (HH : HasA C) (c : ContractT)  (P : Exit → St → Prop) (h : P .normal ⟨[(1, .ptr 0 0 0), (7, vI (-1)), (50, .imm (.slice (List.map rowI c.off))), (51, vI (c.off.length : Int)), (52, vI 0)], [(0, .rows 7 [rowA (ContractT.row c)])], 41⟩) : awp C nt (.region false [] ri19_13 (some [1, 7, 50, 51, 52])) P ⟨[(1, .ptr 0 0 0), (7, vI (-1))], [(0, .rows 7 [rowA (ContractT.row c)])], 37⟩ := by
  exact reg_fast [.n (c.off.length : Int)] (AllP.cons (len_side rowI c.off) .nil) h (by kernel_rfl)

theorem r19_14_16 {C : Ctx} {nt : Nat} (HH : HasA C) (c : ContractT) (i2 : Nat) (s2 : Int)  (P : Exit → St → Prop) (h : P .normal ⟨[(1, .ptr 0 0 0), (7, vI s2), (50, .imm (.slice (List.map rowI c.off))), (51, vI (c.off.length : Int)), (52, vI (i2 : Int)), (53, vB (decide ((i2 : Int) < (c.off.length : Int))))], [(0, .rows 7 [rowA (ContractT.row c)])], 42⟩) : awp C nt (.region false [] ri19_14 (some [1, 7, 50, 51, 52, 53])) P ⟨[(1, .ptr 0 0 0), (7, vI s2), (50, .imm (.slice (List.map rowI c.off))), (51, vI (c.off.length : Int)), (52, vI (i2 : Int))], [(0, .rows 7 [rowA (ContractT.row c)])], 41⟩ := by
  exact reg_fast [] AllP.nil h (by kernel_rfl)

theorem r19_15_17 {C : Ctx} {nt : Nat} (HH : HasA C) (c : ContractT) (i2 : Nat) (s2 : Int) (e2 : Int) (he2 : idxI c.off (i2 : Int) = some e2) (P : Exit → St → Prop) (h : P .normal ⟨[(1, .ptr 0 0 0), (7, vI s2), (50, .imm (.slice (List.map rowI c.off))), (51, vI (c.off.length : Int)), (52, vI (i2 : Int)), (9, vI e2)], [(0, .rows 7 [rowA (ContractT.row c)])], 45⟩) : awp C nt (.region false [] ri19_15 (some [1, 7, 9, 50, 51, 52])) P ⟨[(1, .ptr 0 0 0), (7, vI s2), (50, .imm (.slice (List.map rowI c.off))), (51, vI (c.off.length : Int)), (52, vI (i2 : Int)), (53, vB (decide ((i2 : Int) < (c.off.length : Int))))], [(0, .rows 7 [rowA (ContractT.row c)])], 42⟩ := by
  exact reg_fast [.r (rowI e2)] (AllP.cons (idx_side rowI he2) .nil) h (by kernel_rfl)

theorem r19_16_18 {C : Ctx} {nt : Nat} (HH : HasA C) (c : ContractT) (i2 : Nat) (s2 : Int) (e2 : Int) (v2 : Bool) (hv2 : (bif decide (e2 ≤ s2) then some true else some (decide (c.days ≤ e2))) = some v2) (P : Exit → St → Prop) (h : P .normal ⟨[(1, .ptr 0 0 0), (50, .imm (.slice (List.map rowI c.off))), (51, vI (c.off.length : Int)), (52, vI (i2 : Int)), (9, vI e2), (64, vB v2)], [(0, .rows 7 [rowA (ContractT.row c)])], 54⟩) : awp C nt (.region false [] ri19_16 (some [1, 9, 50, 51, 52, 64])) P ⟨[(1, .ptr 0 0 0), (7, vI s2), (50, .imm (.slice (List.map rowI c.off))), (51, vI (c.off.length : Int)), (52, vI (i2 : Int)), (9, vI e2)], [(0, .rows 7 [rowA (ContractT.row c)])], 45⟩ := by
  rcases grd hv2 with ⟨g4, hv2⟩ | ⟨g4, hv2⟩
  · skip
    have ee := Option.some.inj hv2; subst ee
    exact reg_fast [.g true] (AllP.cons g4 .nil) h (by kernel_rfl)
  · skip
    have ee := Option.some.inj hv2; subst ee
    exact reg_fast [.g false] (AllP.cons g4 .nil) h (by kernel_rfl)

theorem r19_17_19 {C : Ctx} {nt : Nat} (HH : HasA C) (c : ContractT) (i2 : Nat) (e2 : Int) (v2 : Bool)  (P : Exit → St → Prop) (h : P .normal ⟨[(2, vB false)], [(0, .rows 7 [rowA (ContractT.row c)])], 55⟩) : awp C nt (.region false [] ri19_17 (some [2])) P ⟨[(1, .ptr 0 0 0), (50, .imm (.slice (List.map rowI c.off))), (51, vI (c.off.length : Int)), (52, vI (i2 : Int)), (9, vI e2), (64, vB v2)], [(0, .rows 7 [rowA (ContractT.row c)])], 54⟩ := by
  exact reg_fast [] AllP.nil h (by kernel_rfl)

theorem r19_18_20 {C : Ctx} {nt : Nat} (HH : HasA C) (c : ContractT) (i2 : Nat) (e2 : Int) (v2 : Bool)  (P : Exit → St → Prop) (h : P .normal ⟨[(1, .ptr 0 0 0), (50, .imm (.slice (List.map rowI c.off))), (51, vI (c.off.length : Int)), (52, vI (i2 : Int)), (7, vI e2)], [(0, .rows 7 [rowA (ContractT.row c)])], 56⟩) : awp C nt (.region false [] ri19_18 (some [1, 7, 50, 51, 52])) P ⟨[(1, .ptr 0 0 0), (50, .imm (.slice (List.map rowI c.off))), (51, vI (c.off.length : Int)), (52, vI (i2 : Int)), (9, vI e2), (64, vB v2)], [(0, .rows 7 [rowA (ContractT.row c)])], 54⟩ := by
  exact reg_fast [] AllP.nil h (by kernel_rfl)

theorem r19_19_21 {C : Ctx} {nt : Nat} (HH : HasA C) (c : ContractT) (i2 : Nat) (e2 : Int)  (P : Exit → St → Prop) (h : P .normal ⟨[(1, .ptr 0 0 0), (50, .imm (.slice (List.map rowI c.off))), (51, vI (c.off.length : Int)), (52, vI (IntKind.i64.wrap ((i2 : Int) + 1))), (7, vI e2)], [(0, .rows 7 [rowA (ContractT.row c)])], 58⟩) : awp C nt (.region false [] ri19_19 (some [1, 7, 50, 51, 52])) P ⟨[(1, .ptr 0 0 0), (50, .imm (.slice (List.map rowI c.off))), (51, vI (c.off.length : Int)), (52, vI (i2 : Int)), (7, vI e2)], [(0, .rows 7 [rowA (ContractT.row c)])], 56⟩ := by
  exact reg_fast [] AllP.nil h (by kernel_rfl)

theorem r19_14_22 {C : Ctx} {nt : Nat} (HH : HasA C) (c : ContractT) (i2 : Nat) (s2 : Int)  (P : Exit → St → Prop) (h : P .normal ⟨[(1, .ptr 0 0 0), (7, vI s2), (50, .imm (.slice (List.map rowI c.off))), (51, vI (c.off.length : Int)), (52, vI (i2 : Int)), (53, vB (decide ((i2 : Int) < (c.off.length : Int))))], [(0, .rows 7 [rowA (ContractT.row c)])], 42⟩) : awp C nt (.region false [] ri19_14 (some [1, 7, 50, 51, 52, 53])) P ⟨[(1, .ptr 0 0 0), (7, vI s2), (50, .imm (.slice (List.map rowI c.off))), (51, vI (c.off.length : Int)), (52, vI (i2 : Int))], [(0, .rows 7 [rowA (ContractT.row c)])], 41⟩ := by
  exact reg_fast [] AllP.nil h (by kernel_rfl)

theorem r19_20_23 {C : Ctx} {nt : Nat} (HH : HasA C) (c : ContractT) (i2 : Nat) (s2 : Int)  (P : Exit → St → Prop) (h : P .normal ⟨[(2, vB true)], [(0, .rows 7 [rowA (ContractT.row c)])], 43⟩) : awp C nt (.region false [] ri19_20 (some [2])) P ⟨[(1, .ptr 0 0 0), (7, vI s2), (50, .imm (.slice (List.map rowI c.off))), (51, vI (c.off.length : Int)), (52, vI (i2 : Int)), (53, vB (decide ((i2 : Int) < (c.off.length : Int))))], [(0, .rows 7 [rowA (ContractT.row c)])], 42⟩ := by
  exact reg_fast [] AllP.nil h (by kernel_rfl)

noncomputable def d_framed (c : ContractT) : Option Bool :=
  (Option.bind (bif decide (c.parties < 1) then some true else (bif decide (c.days < 1) then some true else (bif ((c.holders.length : Int) == 0) then some true else (Option.bind (d_held c) fun r1 => some (!r1))))) fun v1 => (bif v1 then some false else (Option.bind (d_quantityValid c.units) fun r2 => (bif r2.2 then (Option.bind (forR (σ := Unit) (ρ := Unit) (c.acts.length : Int) (fun i1 s1 => (Option.bind (idxI c.acts (i1 : Int)) fun e1 => (Option.bind (d_validAct c e1) fun r3 => (bif r3 then some (.inl ()) else some (.inr ()))))) ()) (Sum.elim (fun (s1 : Unit) => (Option.bind (forR (σ := Int) (ρ := Unit) (c.off.length : Int) (fun i2 s2 => (Option.bind (idxI c.off (i2 : Int)) fun e2 => (Option.bind (bif decide (e2 ≤ s2) then some true else some (decide (c.days ≤ e2))) fun v2 => (bif v2 then some (.inr ()) else some (.inl e2))))) (-1)) (Sum.elim (fun (s2 : Int) => some true) (fun (y2 : Unit) => some false)))) (fun (y1 : Unit) => some false))) else some false))))
set_option maxHeartbeats 4000000 in
theorem t_framed {C : Ctx} (HH : HasA C) (c : ContractT) (res : Bool) (hd : d_framed c = some res) : APure C 19 [.agg (ContractT.row c)] (.bool res) := by
  refine APure.start HH.h19 5 (by simp [af19]) ?_
  unfold d_framed at hd
  show awp C _ af19.body (EndsR af19.results _) ⟨[(0, .imm (.agg (ContractT.row c)))], [], 0⟩
  refine awp_seq ?_
  refine r19_0_1 HH c _ ?_
  refine then_n ?_
  refine awp_seq ?_
  refine awp_seq ?_
  obtain ⟨v1, hv1, hd_1⟩ := obind hd; clear hd
  refine r19_1_2 HH c v1 hv1 _ ?_
  clear hv1
  refine then_n ?_
  refine awp_if v1 rfl (fun g => ?_) (fun g => ?_)
  · replace hd_1 := cond_t g hd_1
    refine awp_seq ?_
    refine r19_2_3 HH c v1 _ ?_
    refine then_n ?_
    refine awp_ret ?_
    refine then_r ?_
    have ee := Option.some.inj hd_1; subst ee
    exact end_ret (by kernel_rfl)
  · replace hd_1 := cond_f g hd_1
    refine awp_skip ?_
    refine then_n ?_
    refine awp_seq ?_
    refine awp_seq ?_
    obtain ⟨r2, hr2, hd_2⟩ := obind hd_1; clear hd_1
    refine r19_3_4 HH c v1 r2 hr2 _ ?_
    clear hr2
    refine then_n ?_
    refine awp_seq ?_
    refine r19_4_5 HH c r2 _ ?_
    refine then_n ?_
    refine awp_ifN r2.2 rfl (fun g => ?_) (fun g => ?_)
    · replace hd_2 := cond_f g hd_2
      refine awp_seq ?_
      refine r19_5_6 HH c r2 _ ?_
      refine then_n ?_
      refine awp_ret ?_
      refine then_r ?_
      have ee := Option.some.inj hd_2; subst ee
      exact end_ret (by kernel_rfl)
    · replace hd_2 := cond_t g hd_2
      refine awp_skip ?_
      refine then_n ?_
      refine awp_seq ?_
      refine awp_seq ?_
      refine r19_6_7 HH c r2 _ ?_
      refine then_n ?_
      refine awp_block ?_
      obtain ⟨o1, hl_o1, hd_3⟩ := obind hd_2; clear hd_2
      refine awp_forR hl_o1 (fun i1 s1 => [(1, .ptr 0 0 0), (38, .imm (.slice (List.map ActT.row c.acts))), (39, vI (c.acts.length : Int)), (40, vI (i1 : Int))]) (fun i1 s1 => [(0, .rows 7 [rowA (ContractT.row c)])]) ?_ ?_ ?_
      · exact weak_run [1, 38, 39, 40] [(0, true)] 35 [] [] AllP.nil (by kernel_rfl)
      · intro i1 s1 o hi_i1 hw_i1 hs_s1
        refine awp_seq ?_
        refine r19_7_8 HH c i1 _ ?_
        refine then_n ?_
        refine awp_seq ?_
        refine awp_ifT (by simp [*]) ?_
        refine awp_skip ?_
        refine then_n ?_
        refine awp_seq ?_
        refine awp_block ?_
        refine awp_seq ?_
        obtain ⟨e1, he1, hs_s1_1⟩ := obind hs_s1; clear hs_s1
        refine r19_8_9 HH c i1 e1 he1 _ ?_
        clear he1
        refine then_n ?_
        refine awp_seq ?_
        obtain ⟨r3, hr3, hs_s1_2⟩ := obind hs_s1_1; clear hs_s1_1
        refine r19_9_10 HH c i1 e1 r3 hr3 _ ?_
        clear hr3
        refine then_n ?_
        refine awp_ifN r3 rfl (fun g => ?_) (fun g => ?_)
        · replace hs_s1_2 := cond_f g hs_s1_2
          refine awp_seq ?_
          refine r19_10_11 HH c i1 e1 r3 _ ?_
          refine then_n ?_
          refine awp_ret ?_
          refine inb_r ?_
          refine then_r ?_
          cases hs_s1_2
          refine ⟨_, rfl, fun hq => ?_⟩
          subst hq
          replace hd_3 := sel_r hd_3
          refine inb_r ?_
          refine then_r ?_
          have ee := Option.some.inj hd_3; subst ee
          exact end_ret (by kernel_rfl)
        · replace hs_s1_2 := cond_t g hs_s1_2
          refine awp_skip ?_
          refine inb_n ?_
          refine then_n ?_
          refine r19_11_12 HH c i1 e1 r3 _ ?_
          cases hs_s1_2
          exact ⟨_, rfl, weak_run [1, 38, 39, 40] [(0, true)] 35 [(40, vI (((i1 + 1 : Nat) : Int)))] [] (AllP.cons (ov_int hw_i1) .nil) (by kernel_rfl)⟩
      · intro i1 s1 hi_i1 ho
        subst ho
        replace hd_3 := sel_l hd_3
        refine awp_seq ?_
        refine r19_7_13 HH c i1 _ ?_
        refine then_n ?_
        refine awp_seq ?_
        refine awp_ifF (by simp [*]) ?_
        refine awp_exit ?_
        refine then_x ?_
        refine then_x ?_
        refine inb_eq ?_
        refine then_n ?_
        refine awp_seq ?_
        refine r19_12_14 HH c i1 _ ?_
        refine then_n ?_
        refine awp_seq ?_
        refine awp_seq ?_
        refine r19_13_15 HH c _ ?_
        refine then_n ?_
        refine awp_block ?_
        obtain ⟨o2, hl_o2, hd_4⟩ := obind hd_3; clear hd_3
        refine awp_forR hl_o2 (fun i2 s2 => [(1, .ptr 0 0 0), (7, vI s2), (50, .imm (.slice (List.map rowI c.off))), (51, vI (c.off.length : Int)), (52, vI (i2 : Int))]) (fun i2 s2 => [(0, .rows 7 [rowA (ContractT.row c)])]) ?_ ?_ ?_
        · exact weak_run [1, 7, 50, 51, 52] [(0, true)] 41 [] [] AllP.nil (by kernel_rfl)
        · intro i2 s2 o hi_i2 hw_i2 hs_s2
          refine awp_seq ?_
          refine r19_14_16 HH c i2 s2 _ ?_
          refine then_n ?_
          refine awp_seq ?_
          refine awp_ifT (by simp [*]) ?_
          refine awp_skip ?_
          refine then_n ?_
          refine awp_seq ?_
          refine awp_block ?_
          refine awp_seq ?_
          obtain ⟨e2, he2, hs_s2_1⟩ := obind hs_s2; clear hs_s2
          refine r19_15_17 HH c i2 s2 e2 he2 _ ?_
          clear he2
          refine then_n ?_
          refine awp_seq ?_
          refine awp_seq ?_
          obtain ⟨v2, hv2, hs_s2_2⟩ := obind hs_s2_1; clear hs_s2_1
          refine r19_16_18 HH c i2 s2 e2 v2 hv2 _ ?_
          clear hv2
          refine then_n ?_
          refine awp_if v2 rfl (fun g => ?_) (fun g => ?_)
          · replace hs_s2_2 := cond_t g hs_s2_2
            refine awp_seq ?_
            refine r19_17_19 HH c i2 e2 v2 _ ?_
            refine then_n ?_
            refine awp_ret ?_
            refine then_r ?_
            refine inb_r ?_
            refine then_r ?_
            cases hs_s2_2
            refine ⟨_, rfl, fun hq => ?_⟩
            subst hq
            replace hd_4 := sel_r hd_4
            refine inb_r ?_
            refine then_r ?_
            have ee := Option.some.inj hd_4; subst ee
            exact end_ret (by kernel_rfl)
          · replace hs_s2_2 := cond_f g hs_s2_2
            refine awp_skip ?_
            refine then_n ?_
            refine r19_18_20 HH c i2 e2 v2 _ ?_
            refine inb_n ?_
            refine then_n ?_
            refine r19_19_21 HH c i2 e2 _ ?_
            cases hs_s2_2
            exact ⟨_, rfl, weak_run [1, 7, 50, 51, 52] [(0, true)] 41 [(52, vI (((i2 + 1 : Nat) : Int)))] [] (AllP.cons (ov_int hw_i2) .nil) (by kernel_rfl)⟩
        · intro i2 s2 hi_i2 ho
          subst ho
          replace hd_4 := sel_l hd_4
          refine awp_seq ?_
          refine r19_14_22 HH c i2 s2 _ ?_
          refine then_n ?_
          refine awp_seq ?_
          refine awp_ifF (by simp [*]) ?_
          refine awp_exit ?_
          refine then_x ?_
          refine then_x ?_
          refine inb_eq ?_
          refine then_n ?_
          refine awp_seq ?_
          refine r19_20_23 HH c i2 s2 _ ?_
          refine then_n ?_
          refine awp_ret ?_
          have ee := Option.some.inj hd_4; subst ee
          exact end_ret (by kernel_rfl)

theorem r44_0_1 {C : Ctx} {nt : Nat} (HH : HasA C) (c : ContractT) (act : Int)  (P : Exit → St → Prop) (h : P .normal ⟨[(1, vI act), (2, .ptr 0 0 0)], [(0, .rows 7 [rowA (ContractT.row c)])], 2⟩) : awp C nt (.region false [] ri44_0 (some [1, 2])) P ⟨[(0, .imm (.agg (ContractT.row c))), (1, vI act)], [], 0⟩ := by
  exact reg_fast [] AllP.nil h (by kernel_rfl)

theorem r44_1_2 {C : Ctx} {nt : Nat} (HH : HasA C) (c : ContractT) (act : Int) (v1 : Bool) (hv1 : (bif decide (0 ≤ act) then (bif decide (act < (c.acts.length : Int)) then (Option.bind (idxI c.acts act) fun e1 => (bif (e1.kind == 1) then some (e1.role == (-1)) else some false)) else some false) else some false) = some v1) (P : Exit → St → Prop) (h : P .normal ⟨[(4, vB v1)], [(0, .rows 7 [rowA (ContractT.row c)])], 30⟩) : awp C nt (.region false [] ri44_1 (some [4])) P ⟨[(1, vI act), (2, .ptr 0 0 0)], [(0, .rows 7 [rowA (ContractT.row c)])], 2⟩ := by
  rcases grd hv1 with ⟨g1, hv1⟩ | ⟨g1, hv1⟩
  · skip
    rcases grd hv1 with ⟨g2, hv1⟩ | ⟨g2, hv1⟩
    · skip
      obtain ⟨e1, he1, hv1⟩ := obind hv1
      rcases grd hv1 with ⟨g3, hv1⟩ | ⟨g3, hv1⟩
      · skip
        have ee := Option.some.inj hv1; subst ee
        exact reg_fast [.g true, .n (c.acts.length : Int), .g true, .r (ActT.row e1), .g true, .r (ActT.row e1)] (AllP.cons g1 (.cons (len_side ActT.row c.acts) (.cons g2 (.cons (idx_side ActT.row he1) (.cons g3 (.cons (idx_side ActT.row he1) .nil)))))) h (by kernel_rfl)
      · skip
        have ee := Option.some.inj hv1; subst ee
        exact reg_fast [.g true, .n (c.acts.length : Int), .g true, .r (ActT.row e1), .g false] (AllP.cons g1 (.cons (len_side ActT.row c.acts) (.cons g2 (.cons (idx_side ActT.row he1) (.cons g3 .nil))))) h (by kernel_rfl)
    · skip
      have ee := Option.some.inj hv1; subst ee
      exact reg_fast [.g true, .n (c.acts.length : Int), .g false, .g false] (AllP.cons g1 (.cons (len_side ActT.row c.acts) (.cons g2 (.cons (rfl : false = false) .nil)))) h (by kernel_rfl)
  · skip
    have ee := Option.some.inj hv1; subst ee
    exact reg_fast [.g false, .g false, .g false] (AllP.cons g1 (.cons (rfl : false = false) (.cons (rfl : false = false) .nil))) h (by kernel_rfl)

noncomputable def d_natural (c : ContractT) (act : Int) : Option Bool :=
  (Option.bind (bif decide (0 ≤ act) then (bif decide (act < (c.acts.length : Int)) then (Option.bind (idxI c.acts act) fun e1 => (bif (e1.kind == 1) then some (e1.role == (-1)) else some false)) else some false) else some false) fun v1 => some v1)
set_option maxHeartbeats 4000000 in
theorem t_natural {C : Ctx} (HH : HasA C) (c : ContractT) (act : Int) (res : Bool) (hd : d_natural c act = some res) : APure C 44 [.agg (ContractT.row c), .int .i64 act] (.bool res) := by
  refine APure.start HH.h44 5 (by simp [af44]) ?_
  unfold d_natural at hd
  show awp C _ af44.body (EndsR af44.results _) ⟨[(0, .imm (.agg (ContractT.row c))), (1, vI act)], [], 0⟩
  refine awp_seq ?_
  refine r44_0_1 HH c act _ ?_
  refine then_n ?_
  refine awp_seq ?_
  obtain ⟨v1, hv1, hd_1⟩ := obind hd; clear hd
  refine r44_1_2 HH c act v1 hv1 _ ?_
  clear hv1
  refine then_n ?_
  refine awp_ret ?_
  have ee := Option.some.inj hd_1; subst ee
  exact end_ret (by kernel_rfl)

theorem r43_0_1 {C : Ctx} {nt : Nat} (HH : HasA C) (c : ContractT) (k : ClauseT)  (P : Exit → St → Prop) (h : P .normal ⟨[(2, .ptr 0 0 0), (3, .ptr 1 0 0)], [(0, .rows 7 [rowA (ContractT.row c)]), (1, .rows 16 [rowA (ClauseT.row k)])], 3⟩) : awp C nt (.region false [] ri43_0 (some [2, 3])) P ⟨[(0, .imm (.agg (ContractT.row c))), (1, .imm (.agg (ClauseT.row k)))], [], 0⟩ := by
  exact reg_fast [] AllP.nil h (by kernel_rfl)

theorem r43_1_2 {C : Ctx} {nt : Nat} (HH : HasA C) (c : ContractT) (k : ClauseT)  (P : Exit → St → Prop) (h : P .normal ⟨[(2, .ptr 0 0 0), (3, .ptr 1 0 0), (7, vB (k.kind == 4))], [(0, .rows 7 [rowA (ContractT.row c)]), (1, .rows 16 [rowA (ClauseT.row k)])], 6⟩) : awp C nt (.region false [] ri43_1 (some [2, 3, 7])) P ⟨[(2, .ptr 0 0 0), (3, .ptr 1 0 0)], [(0, .rows 7 [rowA (ContractT.row c)]), (1, .rows 16 [rowA (ClauseT.row k)])], 3⟩ := by
  exact reg_fast [] AllP.nil h (by kernel_rfl)

theorem r43_2_3 {C : Ctx} {nt : Nat} (HH : HasA C) (c : ContractT) (k : ClauseT) (v1 : Bool) (hv1 : (bif (k.role == (-1)) then (bif (k.need == 1) then (bif (k.grace == 0) then some (!k.final) else some false) else some false) else some false) = some v1) (P : Exit → St → Prop) (h : P .normal ⟨[(4, vB v1)], [(0, .rows 7 [rowA (ContractT.row c)]), (1, .rows 16 [rowA (ClauseT.row k)])], 25⟩) : awp C nt (.region false [] ri43_2 (some [4])) P ⟨[(2, .ptr 0 0 0), (3, .ptr 1 0 0), (7, vB (k.kind == 4))], [(0, .rows 7 [rowA (ContractT.row c)]), (1, .rows 16 [rowA (ClauseT.row k)])], 6⟩ := by
  rcases grd hv1 with ⟨g1, hv1⟩ | ⟨g1, hv1⟩
  · skip
    rcases grd hv1 with ⟨g2, hv1⟩ | ⟨g2, hv1⟩
    · skip
      rcases grd hv1 with ⟨g3, hv1⟩ | ⟨g3, hv1⟩
      · skip
        have ee := Option.some.inj hv1; subst ee
        exact reg_fast [.g true, .g true, .g true] (AllP.cons g1 (.cons g2 (.cons g3 .nil))) h (by kernel_rfl)
      · skip
        have ee := Option.some.inj hv1; subst ee
        exact reg_fast [.g true, .g true, .g false] (AllP.cons g1 (.cons g2 (.cons g3 .nil))) h (by kernel_rfl)
    · skip
      have ee := Option.some.inj hv1; subst ee
      exact reg_fast [.g true, .g false, .g false] (AllP.cons g1 (.cons g2 (.cons (rfl : false = false) .nil))) h (by kernel_rfl)
  · skip
    have ee := Option.some.inj hv1; subst ee
    exact reg_fast [.g false, .g false, .g false] (AllP.cons g1 (.cons (rfl : false = false) (.cons (rfl : false = false) .nil))) h (by kernel_rfl)

theorem r43_3_4 {C : Ctx} {nt : Nat} (HH : HasA C) (c : ContractT) (k : ClauseT) (v2 : Bool) (hv2 : (Option.bind (d_movable c k.role) fun r1 => (bif r1 then (Option.bind (d_natural c k.act) fun r2 => some r2) else some true)) = some v2) (P : Exit → St → Prop) (h : P .normal ⟨[(3, .ptr 1 0 0), (36, vB v2)], [(0, .rows 7 [rowA (ContractT.row c)]), (1, .rows 16 [rowA (ClauseT.row k)])], 17⟩) : awp C nt (.region false [] ri43_3 (some [3, 36])) P ⟨[(2, .ptr 0 0 0), (3, .ptr 1 0 0), (7, vB (k.kind == 4))], [(0, .rows 7 [rowA (ContractT.row c)]), (1, .rows 16 [rowA (ClauseT.row k)])], 6⟩ := by
  obtain ⟨r1, hr1, hv2⟩ := obind hv2
  rcases grd hv2 with ⟨g4, hv2⟩ | ⟨g4, hv2⟩
  · skip
    obtain ⟨r2, hr2, hv2⟩ := obind hv2
    have ee := Option.some.inj hv2; subst ee
    exact reg_fast [.v (.bool r1), .g false, .v (.bool r2)] (AllP.cons (t_movable HH c k.role r1 hr1) (.cons (not_side g4) (.cons (t_natural HH c k.act r2 hr2) .nil))) h (by kernel_rfl)
  · skip
    have ee := Option.some.inj hv2; subst ee
    exact reg_fast [.v (.bool r1), .g true] (AllP.cons (t_movable HH c k.role r1 hr1) (.cons (not_side g4) .nil)) h (by kernel_rfl)

theorem r43_4_5 {C : Ctx} {nt : Nat} (HH : HasA C) (c : ContractT) (k : ClauseT) (v2 : Bool)  (P : Exit → St → Prop) (h : P .normal ⟨[(4, vB false)], [(0, .rows 7 [rowA (ContractT.row c)]), (1, .rows 16 [rowA (ClauseT.row k)])], 18⟩) : awp C nt (.region false [] ri43_4 (some [4])) P ⟨[(3, .ptr 1 0 0), (36, vB v2)], [(0, .rows 7 [rowA (ContractT.row c)]), (1, .rows 16 [rowA (ClauseT.row k)])], 17⟩ := by
  exact reg_fast [] AllP.nil h (by kernel_rfl)

theorem r43_5_6 {C : Ctx} {nt : Nat} (HH : HasA C) (c : ContractT) (k : ClauseT) (v2 : Bool)  (P : Exit → St → Prop) (h : P .normal ⟨[(3, .ptr 1 0 0), (38, vI k.kind)], [(0, .rows 7 [rowA (ContractT.row c)]), (1, .rows 16 [rowA (ClauseT.row k)])], 19⟩) : awp C nt (.region false [] ri43_5 (some [3, 38])) P ⟨[(3, .ptr 1 0 0), (36, vB v2)], [(0, .rows 7 [rowA (ContractT.row c)]), (1, .rows 16 [rowA (ClauseT.row k)])], 17⟩ := by
  exact reg_fast [] AllP.nil h (by kernel_rfl)

theorem r43_6_7 {C : Ctx} {nt : Nat} (HH : HasA C) (c : ContractT) (k : ClauseT)  (P : Exit → St → Prop) (h : P .normal ⟨[(3, .ptr 1 0 0), (38, vI k.kind), (39, vB (k.kind == 1))], [(0, .rows 7 [rowA (ContractT.row c)]), (1, .rows 16 [rowA (ClauseT.row k)])], 21⟩) : awp C nt (.region false [] ri43_6 (some [3, 38, 39])) P ⟨[(3, .ptr 1 0 0), (38, vI k.kind)], [(0, .rows 7 [rowA (ContractT.row c)]), (1, .rows 16 [rowA (ClauseT.row k)])], 19⟩ := by
  exact reg_fast [] AllP.nil h (by kernel_rfl)

theorem r43_7_8 {C : Ctx} {nt : Nat} (HH : HasA C) (c : ContractT) (k : ClauseT) (v3 : Bool) (hv3 : (bif decide (1 ≤ k.need) then (bif decide (k.need ≤ 9) then (bif decide (0 ≤ k.grace) then some (decide (k.grace ≤ 400)) else some false) else some false) else some false) = some v3) (P : Exit → St → Prop) (h : P .normal ⟨[(4, vB v3)], [(0, .rows 7 [rowA (ContractT.row c)]), (1, .rows 16 [rowA (ClauseT.row k)])], 40⟩) : awp C nt (.region false [] ri43_7 (some [4])) P ⟨[(3, .ptr 1 0 0), (38, vI k.kind), (39, vB (k.kind == 1))], [(0, .rows 7 [rowA (ContractT.row c)]), (1, .rows 16 [rowA (ClauseT.row k)])], 21⟩ := by
  rcases grd hv3 with ⟨g5, hv3⟩ | ⟨g5, hv3⟩
  · skip
    rcases grd hv3 with ⟨g6, hv3⟩ | ⟨g6, hv3⟩
    · skip
      rcases grd hv3 with ⟨g7, hv3⟩ | ⟨g7, hv3⟩
      · skip
        have ee := Option.some.inj hv3; subst ee
        exact reg_fast [.g true, .g true, .g true] (AllP.cons g5 (.cons g6 (.cons g7 .nil))) h (by kernel_rfl)
      · skip
        have ee := Option.some.inj hv3; subst ee
        exact reg_fast [.g true, .g true, .g false] (AllP.cons g5 (.cons g6 (.cons g7 .nil))) h (by kernel_rfl)
    · skip
      have ee := Option.some.inj hv3; subst ee
      exact reg_fast [.g true, .g false, .g false] (AllP.cons g5 (.cons g6 (.cons (rfl : false = false) .nil))) h (by kernel_rfl)
  · skip
    have ee := Option.some.inj hv3; subst ee
    exact reg_fast [.g false, .g false, .g false] (AllP.cons g5 (.cons (rfl : false = false) (.cons (rfl : false = false) .nil))) h (by kernel_rfl)

theorem r43_8_9 {C : Ctx} {nt : Nat} (HH : HasA C) (c : ContractT) (k : ClauseT)  (P : Exit → St → Prop) (h : P .normal ⟨[(3, .ptr 1 0 0), (38, vI k.kind), (59, vB (k.kind == 2))], [(0, .rows 7 [rowA (ContractT.row c)]), (1, .rows 16 [rowA (ClauseT.row k)])], 23⟩) : awp C nt (.region false [] ri43_8 (some [3, 38, 59])) P ⟨[(3, .ptr 1 0 0), (38, vI k.kind), (39, vB (k.kind == 1))], [(0, .rows 7 [rowA (ContractT.row c)]), (1, .rows 16 [rowA (ClauseT.row k)])], 21⟩ := by
  exact reg_fast [] AllP.nil h (by kernel_rfl)

theorem r43_9_10 {C : Ctx} {nt : Nat} (HH : HasA C) (c : ContractT) (k : ClauseT) (v4 : Bool) (hv4 : (bif (k.need == 1) then some (k.grace == 0) else some false) = some v4) (P : Exit → St → Prop) (h : P .normal ⟨[(4, vB v4)], [(0, .rows 7 [rowA (ContractT.row c)]), (1, .rows 16 [rowA (ClauseT.row k)])], 32⟩) : awp C nt (.region false [] ri43_9 (some [4])) P ⟨[(3, .ptr 1 0 0), (38, vI k.kind), (59, vB (k.kind == 2))], [(0, .rows 7 [rowA (ContractT.row c)]), (1, .rows 16 [rowA (ClauseT.row k)])], 23⟩ := by
  rcases grd hv4 with ⟨g8, hv4⟩ | ⟨g8, hv4⟩
  · skip
    have ee := Option.some.inj hv4; subst ee
    exact reg_fast [.g true] (AllP.cons g8 .nil) h (by kernel_rfl)
  · skip
    have ee := Option.some.inj hv4; subst ee
    exact reg_fast [.g false] (AllP.cons g8 .nil) h (by kernel_rfl)

theorem r43_10_11 {C : Ctx} {nt : Nat} (HH : HasA C) (c : ContractT) (k : ClauseT)  (P : Exit → St → Prop) (h : P .normal ⟨[(3, .ptr 1 0 0), (69, vB (k.kind == 3))], [(0, .rows 7 [rowA (ContractT.row c)]), (1, .rows 16 [rowA (ClauseT.row k)])], 25⟩) : awp C nt (.region false [] ri43_10 (some [3, 69])) P ⟨[(3, .ptr 1 0 0), (38, vI k.kind), (59, vB (k.kind == 2))], [(0, .rows 7 [rowA (ContractT.row c)]), (1, .rows 16 [rowA (ClauseT.row k)])], 23⟩ := by
  exact reg_fast [] AllP.nil h (by kernel_rfl)

theorem r43_11_12 {C : Ctx} {nt : Nat} (HH : HasA C) (c : ContractT) (k : ClauseT) (v5 : Bool) (hv5 : (bif (k.need == 1) then (bif (k.grace == 0) then some (!k.final) else some false) else some false) = some v5) (P : Exit → St → Prop) (h : P .normal ⟨[(4, vB v5)], [(0, .rows 7 [rowA (ContractT.row c)]), (1, .rows 16 [rowA (ClauseT.row k)])], 39⟩) : awp C nt (.region false [] ri43_11 (some [4])) P ⟨[(3, .ptr 1 0 0), (69, vB (k.kind == 3))], [(0, .rows 7 [rowA (ContractT.row c)]), (1, .rows 16 [rowA (ClauseT.row k)])], 25⟩ := by
  rcases grd hv5 with ⟨g9, hv5⟩ | ⟨g9, hv5⟩
  · skip
    rcases grd hv5 with ⟨g10, hv5⟩ | ⟨g10, hv5⟩
    · skip
      have ee := Option.some.inj hv5; subst ee
      exact reg_fast [.g true, .g true] (AllP.cons g9 (.cons g10 .nil)) h (by kernel_rfl)
    · skip
      have ee := Option.some.inj hv5; subst ee
      exact reg_fast [.g true, .g false] (AllP.cons g9 (.cons g10 .nil)) h (by kernel_rfl)
  · skip
    have ee := Option.some.inj hv5; subst ee
    exact reg_fast [.g false, .g false] (AllP.cons g9 (.cons (rfl : false = false) .nil)) h (by kernel_rfl)

theorem r43_12_13 {C : Ctx} {nt : Nat} (HH : HasA C) (c : ContractT) (k : ClauseT)  (P : Exit → St → Prop) (h : P .normal ⟨[(4, vB false)], [(0, .rows 7 [rowA (ContractT.row c)]), (1, .rows 16 [rowA (ClauseT.row k)])], 26⟩) : awp C nt (.region false [] ri43_12 (some [4])) P ⟨[(3, .ptr 1 0 0), (69, vB (k.kind == 3))], [(0, .rows 7 [rowA (ContractT.row c)]), (1, .rows 16 [rowA (ClauseT.row k)])], 25⟩ := by
  exact reg_fast [] AllP.nil h (by kernel_rfl)

noncomputable def d_validKind (c : ContractT) (k : ClauseT) : Option Bool :=
  (bif (k.kind == 4) then (Option.bind (bif (k.role == (-1)) then (bif (k.need == 1) then (bif (k.grace == 0) then some (!k.final) else some false) else some false) else some false) fun v1 => some v1) else (Option.bind (Option.bind (d_movable c k.role) fun r1 => (bif r1 then (Option.bind (d_natural c k.act) fun r2 => some r2) else some true)) fun v2 => (bif v2 then some false else (bif (k.kind == 1) then (Option.bind (bif decide (1 ≤ k.need) then (bif decide (k.need ≤ 9) then (bif decide (0 ≤ k.grace) then some (decide (k.grace ≤ 400)) else some false) else some false) else some false) fun v3 => some v3) else (bif (k.kind == 2) then (Option.bind (bif (k.need == 1) then some (k.grace == 0) else some false) fun v4 => some v4) else (bif (k.kind == 3) then (Option.bind (bif (k.need == 1) then (bif (k.grace == 0) then some (!k.final) else some false) else some false) fun v5 => some v5) else some false))))))
set_option maxHeartbeats 4000000 in
theorem t_validKind {C : Ctx} (HH : HasA C) (c : ContractT) (k : ClauseT) (res : Bool) (hd : d_validKind c k = some res) : APure C 43 [.agg (ContractT.row c), .agg (ClauseT.row k)] (.bool res) := by
  refine APure.start HH.h43 5 (by simp [af43]) ?_
  unfold d_validKind at hd
  show awp C _ af43.body (EndsR af43.results _) ⟨[(0, .imm (.agg (ContractT.row c))), (1, .imm (.agg (ClauseT.row k)))], [], 0⟩
  refine awp_seq ?_
  refine r43_0_1 HH c k _ ?_
  refine then_n ?_
  refine awp_seq ?_
  refine awp_seq ?_
  refine r43_1_2 HH c k _ ?_
  refine then_n ?_
  refine awp_if (k.kind == 4) rfl (fun g => ?_) (fun g => ?_)
  · replace hd := cond_t g hd
    refine awp_seq ?_
    obtain ⟨v1, hv1, hd_1⟩ := obind hd; clear hd
    refine r43_2_3 HH c k v1 hv1 _ ?_
    clear hv1
    refine then_n ?_
    refine awp_ret ?_
    refine then_r ?_
    have ee := Option.some.inj hd_1; subst ee
    exact end_ret (by kernel_rfl)
  · replace hd := cond_f g hd
    refine awp_skip ?_
    refine then_n ?_
    refine awp_seq ?_
    refine awp_seq ?_
    obtain ⟨v2, hv2, hd_1⟩ := obind hd; clear hd
    refine r43_3_4 HH c k v2 hv2 _ ?_
    clear hv2
    refine then_n ?_
    refine awp_if v2 rfl (fun g => ?_) (fun g => ?_)
    · replace hd_1 := cond_t g hd_1
      refine awp_seq ?_
      refine r43_4_5 HH c k v2 _ ?_
      refine then_n ?_
      refine awp_ret ?_
      refine then_r ?_
      have ee := Option.some.inj hd_1; subst ee
      exact end_ret (by kernel_rfl)
    · replace hd_1 := cond_f g hd_1
      refine awp_skip ?_
      refine then_n ?_
      refine awp_seq ?_
      refine awp_seq ?_
      refine r43_5_6 HH c k v2 _ ?_
      refine then_n ?_
      refine awp_block ?_
      refine awp_seq ?_
      refine r43_6_7 HH c k _ ?_
      refine then_n ?_
      refine awp_if (k.kind == 1) rfl (fun g => ?_) (fun g => ?_)
      · replace hd_1 := cond_t g hd_1
        refine awp_seq ?_
        obtain ⟨v3, hv3, hd_2⟩ := obind hd_1; clear hd_1
        refine r43_7_8 HH c k v3 hv3 _ ?_
        clear hv3
        refine then_n ?_
        refine awp_ret ?_
        refine inb_r ?_
        refine then_r ?_
        have ee := Option.some.inj hd_2; subst ee
        exact end_ret (by kernel_rfl)
      · replace hd_1 := cond_f g hd_1
        refine awp_seq ?_
        refine r43_8_9 HH c k _ ?_
        refine then_n ?_
        refine awp_if (k.kind == 2) rfl (fun g => ?_) (fun g => ?_)
        · replace hd_1 := cond_t g hd_1
          refine awp_seq ?_
          obtain ⟨v4, hv4, hd_2⟩ := obind hd_1; clear hd_1
          refine r43_9_10 HH c k v4 hv4 _ ?_
          clear hv4
          refine then_n ?_
          refine awp_ret ?_
          refine inb_r ?_
          refine then_r ?_
          have ee := Option.some.inj hd_2; subst ee
          exact end_ret (by kernel_rfl)
        · replace hd_1 := cond_f g hd_1
          refine awp_seq ?_
          refine r43_10_11 HH c k _ ?_
          refine then_n ?_
          refine awp_if (k.kind == 3) rfl (fun g => ?_) (fun g => ?_)
          · replace hd_1 := cond_t g hd_1
            refine awp_seq ?_
            obtain ⟨v5, hv5, hd_2⟩ := obind hd_1; clear hd_1
            refine r43_11_12 HH c k v5 hv5 _ ?_
            clear hv5
            refine then_n ?_
            refine awp_ret ?_
            refine inb_r ?_
            refine then_r ?_
            have ee := Option.some.inj hd_2; subst ee
            exact end_ret (by kernel_rfl)
          · replace hd_1 := cond_f g hd_1
            refine awp_skip ?_
            refine inb_n ?_
            refine then_n ?_
            refine awp_seq ?_
            refine r43_12_13 HH c k _ ?_
            refine then_n ?_
            refine awp_ret ?_
            have ee := Option.some.inj hd_1; subst ee
            exact end_ret (by kernel_rfl)

theorem r20_0_1 {C : Ctx} {nt : Nat} (HH : HasA C) (c : ContractT) (i : Int)  (P : Exit → St → Prop) (h : P .normal ⟨[(1, vI i), (2, .ptr 0 0 0)], [(0, .rows 7 [rowA (ContractT.row c)])], 2⟩) : awp C nt (.region false [] ri20_0 (some [1, 2])) P ⟨[(0, .imm (.agg (ContractT.row c))), (1, vI i)], [], 0⟩ := by
  exact reg_fast [] AllP.nil h (by kernel_rfl)

theorem r20_1_2 {C : Ctx} {nt : Nat} (HH : HasA C) (c : ContractT) (i : Int) (e1 : ClauseT) (he1 : idxI c.clauses i = some e1) (P : Exit → St → Prop) (h : P .normal ⟨[(1, vI i), (2, .ptr 0 0 0), (5, .ptr 7 0 0)], [(0, .rows 7 [rowA (ContractT.row c)]), (7, .rows 16 [rowA (ClauseT.row e1)])], 9⟩) : awp C nt (.region false [] ri20_1 (some [1, 2, 5])) P ⟨[(1, vI i), (2, .ptr 0 0 0)], [(0, .rows 7 [rowA (ContractT.row c)])], 2⟩ := by
  exact reg_fast [.r (ClauseT.row e1)] (AllP.cons (idx_side ClauseT.row he1) .nil) h (by kernel_rfl)

theorem r20_2_3 {C : Ctx} {nt : Nat} (HH : HasA C) (c : ContractT) (i : Int) (e1 : ClauseT) (v1 : Bool) (hv1 : (bif decide (e1.act < 0) then some true else (bif decide ((c.acts.length : Int) ≤ e1.act) then some true else (bif decide (e1.after < 1) then some true else some (decide (400 < e1.after))))) = some v1) (P : Exit → St → Prop) (h : P .normal ⟨[(1, vI i), (2, .ptr 0 0 0), (5, .ptr 7 0 0), (33, vB v1)], [(0, .rows 7 [rowA (ContractT.row c)]), (7, .rows 16 [rowA (ClauseT.row e1)])], 30⟩) : awp C nt (.region false [] ri20_2 (some [1, 2, 5, 33])) P ⟨[(1, vI i), (2, .ptr 0 0 0), (5, .ptr 7 0 0)], [(0, .rows 7 [rowA (ContractT.row c)]), (7, .rows 16 [rowA (ClauseT.row e1)])], 9⟩ := by
  rcases grd hv1 with ⟨g1, hv1⟩ | ⟨g1, hv1⟩
  · skip
    have ee := Option.some.inj hv1; subst ee
    exact reg_fast [.g true, .g true, .g true] (AllP.cons g1 (.cons (rfl : true = true) (.cons (rfl : true = true) .nil))) h (by kernel_rfl)
  · skip
    rcases grd hv1 with ⟨g2, hv1⟩ | ⟨g2, hv1⟩
    · skip
      have ee := Option.some.inj hv1; subst ee
      exact reg_fast [.g false, .n (c.acts.length : Int), .g true, .g true] (AllP.cons g1 (.cons (len_side ActT.row c.acts) (.cons g2 (.cons (rfl : true = true) .nil)))) h (by kernel_rfl)
    · skip
      rcases grd hv1 with ⟨g3, hv1⟩ | ⟨g3, hv1⟩
      · skip
        have ee := Option.some.inj hv1; subst ee
        exact reg_fast [.g false, .n (c.acts.length : Int), .g false, .g true] (AllP.cons g1 (.cons (len_side ActT.row c.acts) (.cons g2 (.cons g3 .nil)))) h (by kernel_rfl)
      · skip
        have ee := Option.some.inj hv1; subst ee
        exact reg_fast [.g false, .n (c.acts.length : Int), .g false, .g false] (AllP.cons g1 (.cons (len_side ActT.row c.acts) (.cons g2 (.cons g3 .nil)))) h (by kernel_rfl)

theorem r20_3_4 {C : Ctx} {nt : Nat} (HH : HasA C) (c : ContractT) (i : Int) (e1 : ClauseT) (v1 : Bool)  (P : Exit → St → Prop) (h : P .normal ⟨[(4, vB false)], [(0, .rows 7 [rowA (ContractT.row c)]), (7, .rows 16 [rowA (ClauseT.row e1)])], 31⟩) : awp C nt (.region false [] ri20_3 (some [4])) P ⟨[(1, vI i), (2, .ptr 0 0 0), (5, .ptr 7 0 0), (33, vB v1)], [(0, .rows 7 [rowA (ContractT.row c)]), (7, .rows 16 [rowA (ClauseT.row e1)])], 30⟩ := by
  exact reg_fast [] AllP.nil h (by kernel_rfl)

theorem r20_4_5 {C : Ctx} {nt : Nat} (HH : HasA C) (c : ContractT) (i : Int) (e1 : ClauseT) (v1 : Bool) (v2 : Bool) (hv2 : (Option.bind (d_validKind c e1) fun r1 => (bif r1 then some (decide (8 < (e1.start.length : Int))) else some true)) = some v2) (P : Exit → St → Prop) (h : P .normal ⟨[(1, vI i), (2, .ptr 0 0 0), (5, .ptr 7 0 0), (43, vB v2)], [(0, .rows 7 [rowA (ContractT.row c)]), (7, .rows 16 [rowA (ClauseT.row e1)])], 40⟩) : awp C nt (.region false [] ri20_4 (some [1, 2, 5, 43])) P ⟨[(1, vI i), (2, .ptr 0 0 0), (5, .ptr 7 0 0), (33, vB v1)], [(0, .rows 7 [rowA (ContractT.row c)]), (7, .rows 16 [rowA (ClauseT.row e1)])], 30⟩ := by
  obtain ⟨r1, hr1, hv2⟩ := obind hv2
  rcases grd hv2 with ⟨g4, hv2⟩ | ⟨g4, hv2⟩
  · skip
    have ee := Option.some.inj hv2; subst ee
    exact reg_fast [.v (.bool r1), .g false, .n (e1.start.length : Int)] (AllP.cons (t_validKind HH c e1 r1 hr1) (.cons (not_side g4) (.cons (len_side CondT.row e1.start) .nil))) h (by kernel_rfl)
  · skip
    have ee := Option.some.inj hv2; subst ee
    exact reg_fast [.v (.bool r1), .g true] (AllP.cons (t_validKind HH c e1 r1 hr1) (.cons (not_side g4) .nil)) h (by kernel_rfl)

theorem r20_5_6 {C : Ctx} {nt : Nat} (HH : HasA C) (c : ContractT) (i : Int) (e1 : ClauseT) (v2 : Bool)  (P : Exit → St → Prop) (h : P .normal ⟨[(4, vB false)], [(0, .rows 7 [rowA (ContractT.row c)]), (7, .rows 16 [rowA (ClauseT.row e1)])], 41⟩) : awp C nt (.region false [] ri20_5 (some [4])) P ⟨[(1, vI i), (2, .ptr 0 0 0), (5, .ptr 7 0 0), (43, vB v2)], [(0, .rows 7 [rowA (ContractT.row c)]), (7, .rows 16 [rowA (ClauseT.row e1)])], 40⟩ := by
  exact reg_fast [] AllP.nil h (by kernel_rfl)

theorem r20_6_7 {C : Ctx} {nt : Nat} (HH : HasA C) (c : ContractT) (i : Int) (e1 : ClauseT) (v2 : Bool)  (P : Exit → St → Prop) (h : P .normal ⟨[(1, vI i), (2, .ptr 0 0 0), (5, .ptr 7 0 0), (45, .imm (.slice (List.map CondT.row e1.start))), (46, vI (e1.start.length : Int)), (47, vI 0)], [(0, .rows 7 [rowA (ContractT.row c)]), (7, .rows 16 [rowA (ClauseT.row e1)])], 44⟩) : awp C nt (.region false [] ri20_6 (some [1, 2, 5, 45, 46, 47])) P ⟨[(1, vI i), (2, .ptr 0 0 0), (5, .ptr 7 0 0), (43, vB v2)], [(0, .rows 7 [rowA (ContractT.row c)]), (7, .rows 16 [rowA (ClauseT.row e1)])], 40⟩ := by
  exact reg_fast [.n (e1.start.length : Int)] (AllP.cons (len_side CondT.row e1.start) .nil) h (by kernel_rfl)

theorem r20_7_8 {C : Ctx} {nt : Nat} (HH : HasA C) (c : ContractT) (i : Int) (e1 : ClauseT) (i1 : Nat)  (P : Exit → St → Prop) (h : P .normal ⟨[(1, vI i), (2, .ptr 0 0 0), (5, .ptr 7 0 0), (45, .imm (.slice (List.map CondT.row e1.start))), (46, vI (e1.start.length : Int)), (47, vI (i1 : Int)), (48, vB (decide ((i1 : Int) < (e1.start.length : Int))))], [(0, .rows 7 [rowA (ContractT.row c)]), (7, .rows 16 [rowA (ClauseT.row e1)])], 45⟩) : awp C nt (.region false [] ri20_7 (some [1, 2, 5, 45, 46, 47, 48])) P ⟨[(1, vI i), (2, .ptr 0 0 0), (5, .ptr 7 0 0), (45, .imm (.slice (List.map CondT.row e1.start))), (46, vI (e1.start.length : Int)), (47, vI (i1 : Int))], [(0, .rows 7 [rowA (ContractT.row c)]), (7, .rows 16 [rowA (ClauseT.row e1)])], 44⟩ := by
  exact reg_fast [] AllP.nil h (by kernel_rfl)

theorem r20_8_9 {C : Ctx} {nt : Nat} (HH : HasA C) (c : ContractT) (i : Int) (e1 : ClauseT) (i1 : Nat) (e2 : CondT) (he2 : idxI e1.start (i1 : Int) = some e2) (P : Exit → St → Prop) (h : P .normal ⟨[(1, vI i), (2, .ptr 0 0 0), (5, .ptr 7 0 0), (45, .imm (.slice (List.map CondT.row e1.start))), (46, vI (e1.start.length : Int)), (47, vI (i1 : Int)), (7, .ptr 47 0 0)], [(0, .rows 7 [rowA (ContractT.row c)]), (7, .rows 16 [rowA (ClauseT.row e1)]), (47, .rows 2 [rowA (CondT.row e2)])], 49⟩) : awp C nt (.region false [] ri20_8 (some [1, 2, 5, 7, 45, 46, 47])) P ⟨[(1, vI i), (2, .ptr 0 0 0), (5, .ptr 7 0 0), (45, .imm (.slice (List.map CondT.row e1.start))), (46, vI (e1.start.length : Int)), (47, vI (i1 : Int)), (48, vB (decide ((i1 : Int) < (e1.start.length : Int))))], [(0, .rows 7 [rowA (ContractT.row c)]), (7, .rows 16 [rowA (ClauseT.row e1)])], 45⟩ := by
  exact reg_fast [.r (CondT.row e2)] (AllP.cons (idx_side CondT.row he2) .nil) h (by kernel_rfl)

theorem r20_9_10 {C : Ctx} {nt : Nat} (HH : HasA C) (c : ContractT) (i : Int) (e1 : ClauseT) (i1 : Nat) (e2 : CondT) (v3 : Bool) (hv3 : (bif decide (e2.clause < 0) then some true else (bif decide ((c.clauses.length : Int) ≤ e2.clause) then some true else (bif (e2.clause == i) then some true else (bif decide (e2.is < 1) then some true else some (decide (4 < e2.is)))))) = some v3) (P : Exit → St → Prop) (h : P .normal ⟨[(1, vI i), (2, .ptr 0 0 0), (5, .ptr 7 0 0), (45, .imm (.slice (List.map CondT.row e1.start))), (46, vI (e1.start.length : Int)), (47, vI (i1 : Int)), (77, vB v3)], [(0, .rows 7 [rowA (ContractT.row c)]), (7, .rows 16 [rowA (ClauseT.row e1)]), (47, .rows 2 [rowA (CondT.row e2)])], 76⟩) : awp C nt (.region false [] ri20_9 (some [1, 2, 5, 45, 46, 47, 77])) P ⟨[(1, vI i), (2, .ptr 0 0 0), (5, .ptr 7 0 0), (45, .imm (.slice (List.map CondT.row e1.start))), (46, vI (e1.start.length : Int)), (47, vI (i1 : Int)), (7, .ptr 47 0 0)], [(0, .rows 7 [rowA (ContractT.row c)]), (7, .rows 16 [rowA (ClauseT.row e1)]), (47, .rows 2 [rowA (CondT.row e2)])], 49⟩ := by
  rcases grd hv3 with ⟨g5, hv3⟩ | ⟨g5, hv3⟩
  · skip
    have ee := Option.some.inj hv3; subst ee
    exact reg_fast [.g true, .g true, .g true, .g true] (AllP.cons g5 (.cons (rfl : true = true) (.cons (rfl : true = true) (.cons (rfl : true = true) .nil)))) h (by kernel_rfl)
  · skip
    rcases grd hv3 with ⟨g6, hv3⟩ | ⟨g6, hv3⟩
    · skip
      have ee := Option.some.inj hv3; subst ee
      exact reg_fast [.g false, .n (c.clauses.length : Int), .g true, .g true, .g true] (AllP.cons g5 (.cons (len_side ClauseT.row c.clauses) (.cons g6 (.cons (rfl : true = true) (.cons (rfl : true = true) .nil))))) h (by kernel_rfl)
    · skip
      rcases grd hv3 with ⟨g7, hv3⟩ | ⟨g7, hv3⟩
      · skip
        have ee := Option.some.inj hv3; subst ee
        exact reg_fast [.g false, .n (c.clauses.length : Int), .g false, .g true, .g true] (AllP.cons g5 (.cons (len_side ClauseT.row c.clauses) (.cons g6 (.cons g7 (.cons (rfl : true = true) .nil))))) h (by kernel_rfl)
      · skip
        rcases grd hv3 with ⟨g8, hv3⟩ | ⟨g8, hv3⟩
        · skip
          have ee := Option.some.inj hv3; subst ee
          exact reg_fast [.g false, .n (c.clauses.length : Int), .g false, .g false, .g true] (AllP.cons g5 (.cons (len_side ClauseT.row c.clauses) (.cons g6 (.cons g7 (.cons g8 .nil))))) h (by kernel_rfl)
        · skip
          have ee := Option.some.inj hv3; subst ee
          exact reg_fast [.g false, .n (c.clauses.length : Int), .g false, .g false, .g false] (AllP.cons g5 (.cons (len_side ClauseT.row c.clauses) (.cons g6 (.cons g7 (.cons g8 .nil))))) h (by kernel_rfl)

theorem r20_10_11 {C : Ctx} {nt : Nat} (HH : HasA C) (c : ContractT) (i : Int) (e1 : ClauseT) (i1 : Nat) (e2 : CondT) (v3 : Bool)  (P : Exit → St → Prop) (h : P .normal ⟨[(4, vB false)], [(0, .rows 7 [rowA (ContractT.row c)]), (7, .rows 16 [rowA (ClauseT.row e1)]), (47, .rows 2 [rowA (CondT.row e2)])], 77⟩) : awp C nt (.region false [] ri20_10 (some [4])) P ⟨[(1, vI i), (2, .ptr 0 0 0), (5, .ptr 7 0 0), (45, .imm (.slice (List.map CondT.row e1.start))), (46, vI (e1.start.length : Int)), (47, vI (i1 : Int)), (77, vB v3)], [(0, .rows 7 [rowA (ContractT.row c)]), (7, .rows 16 [rowA (ClauseT.row e1)]), (47, .rows 2 [rowA (CondT.row e2)])], 76⟩ := by
  exact reg_fast [] AllP.nil h (by kernel_rfl)

theorem r20_11_12 {C : Ctx} {nt : Nat} (HH : HasA C) (c : ContractT) (i : Int) (e1 : ClauseT) (i1 : Nat) (e2 : CondT) (v3 : Bool)  (P : Exit → St → Prop) (h : P .normal ⟨[(1, vI i), (2, .ptr 0 0 0), (5, .ptr 7 0 0), (45, .imm (.slice (List.map CondT.row e1.start))), (46, vI (e1.start.length : Int)), (47, vI (IntKind.i64.wrap ((i1 : Int) + 1)))], [(0, .rows 7 [rowA (ContractT.row c)]), (7, .rows 16 [rowA (ClauseT.row e1)]), (47, .rows 2 [rowA (CondT.row e2)])], 78⟩) : awp C nt (.region false [] ri20_11 (some [1, 2, 5, 45, 46, 47])) P ⟨[(1, vI i), (2, .ptr 0 0 0), (5, .ptr 7 0 0), (45, .imm (.slice (List.map CondT.row e1.start))), (46, vI (e1.start.length : Int)), (47, vI (i1 : Int)), (77, vB v3)], [(0, .rows 7 [rowA (ContractT.row c)]), (7, .rows 16 [rowA (ClauseT.row e1)]), (47, .rows 2 [rowA (CondT.row e2)])], 76⟩ := by
  exact reg_fast [] AllP.nil h (by kernel_rfl)

theorem r20_7_13 {C : Ctx} {nt : Nat} (HH : HasA C) (c : ContractT) (i : Int) (e1 : ClauseT) (i1 : Nat)  (P : Exit → St → Prop) (h : P .normal ⟨[(1, vI i), (2, .ptr 0 0 0), (5, .ptr 7 0 0), (45, .imm (.slice (List.map CondT.row e1.start))), (46, vI (e1.start.length : Int)), (47, vI (i1 : Int)), (48, vB (decide ((i1 : Int) < (e1.start.length : Int))))], [(0, .rows 7 [rowA (ContractT.row c)]), (7, .rows 16 [rowA (ClauseT.row e1)])], 45⟩) : awp C nt (.region false [] ri20_7 (some [1, 2, 5, 45, 46, 47, 48])) P ⟨[(1, vI i), (2, .ptr 0 0 0), (5, .ptr 7 0 0), (45, .imm (.slice (List.map CondT.row e1.start))), (46, vI (e1.start.length : Int)), (47, vI (i1 : Int))], [(0, .rows 7 [rowA (ContractT.row c)]), (7, .rows 16 [rowA (ClauseT.row e1)])], 44⟩ := by
  exact reg_fast [] AllP.nil h (by kernel_rfl)

theorem r20_12_14 {C : Ctx} {nt : Nat} (HH : HasA C) (c : ContractT) (i : Int) (e1 : ClauseT) (i1 : Nat) (v4 : Bool) (hv4 : (bif (e1.pause == (-1)) then some (!(e1.resume == (-1))) else some true) = some v4) (P : Exit → St → Prop) (h : P .normal ⟨[(2, .ptr 0 0 0), (5, .ptr 7 0 0), (86, vB v4)], [(0, .rows 7 [rowA (ContractT.row c)]), (7, .rows 16 [rowA (ClauseT.row e1)])], 53⟩) : awp C nt (.region false [] ri20_12 (some [2, 5, 86])) P ⟨[(1, vI i), (2, .ptr 0 0 0), (5, .ptr 7 0 0), (45, .imm (.slice (List.map CondT.row e1.start))), (46, vI (e1.start.length : Int)), (47, vI (i1 : Int)), (48, vB (decide ((i1 : Int) < (e1.start.length : Int))))], [(0, .rows 7 [rowA (ContractT.row c)]), (7, .rows 16 [rowA (ClauseT.row e1)])], 45⟩ := by
  rcases grd hv4 with ⟨g9, hv4⟩ | ⟨g9, hv4⟩
  · skip
    have ee := Option.some.inj hv4; subst ee
    exact reg_fast [.g false] (AllP.cons (not_side g9) .nil) h (by kernel_rfl)
  · skip
    have ee := Option.some.inj hv4; subst ee
    exact reg_fast [.g true] (AllP.cons (not_side g9) .nil) h (by kernel_rfl)

theorem r20_13_15 {C : Ctx} {nt : Nat} (HH : HasA C) (c : ContractT) (e1 : ClauseT) (v4 : Bool) (v5 : Bool) (hv5 : (bif (e1.pause == e1.resume) then some true else (Option.bind (d_natural c e1.pause) fun r2 => (bif r2 then (Option.bind (d_natural c e1.resume) fun r3 => some (!r3)) else some true))) = some v5) (P : Exit → St → Prop) (h : P .normal ⟨[(2, .ptr 0 0 0), (5, .ptr 7 0 0), (105, vB v5)], [(0, .rows 7 [rowA (ContractT.row c)]), (7, .rows 16 [rowA (ClauseT.row e1)])], 72⟩) : awp C nt (.region false [] ri20_13 (some [2, 5, 105])) P ⟨[(2, .ptr 0 0 0), (5, .ptr 7 0 0), (86, vB v4)], [(0, .rows 7 [rowA (ContractT.row c)]), (7, .rows 16 [rowA (ClauseT.row e1)])], 53⟩ := by
  rcases grd hv5 with ⟨g10, hv5⟩ | ⟨g10, hv5⟩
  · skip
    have ee := Option.some.inj hv5; subst ee
    exact reg_fast [.g true, .g true] (AllP.cons g10 (.cons (rfl : true = true) .nil)) h (by kernel_rfl)
  · skip
    obtain ⟨r2, hr2, hv5⟩ := obind hv5
    rcases grd hv5 with ⟨g11, hv5⟩ | ⟨g11, hv5⟩
    · skip
      obtain ⟨r3, hr3, hv5⟩ := obind hv5
      have ee := Option.some.inj hv5; subst ee
      exact reg_fast [.g false, .v (.bool r2), .g false, .v (.bool r3)] (AllP.cons g10 (.cons (t_natural HH c e1.pause r2 hr2) (.cons (not_side g11) (.cons (t_natural HH c e1.resume r3 hr3) .nil)))) h (by kernel_rfl)
    · skip
      have ee := Option.some.inj hv5; subst ee
      exact reg_fast [.g false, .v (.bool r2), .g true] (AllP.cons g10 (.cons (t_natural HH c e1.pause r2 hr2) (.cons (not_side g11) .nil))) h (by kernel_rfl)

theorem r20_14_16 {C : Ctx} {nt : Nat} (HH : HasA C) (c : ContractT) (e1 : ClauseT) (v5 : Bool)  (P : Exit → St → Prop) (h : P .normal ⟨[(4, vB false)], [(0, .rows 7 [rowA (ContractT.row c)]), (7, .rows 16 [rowA (ClauseT.row e1)])], 73⟩) : awp C nt (.region false [] ri20_14 (some [4])) P ⟨[(2, .ptr 0 0 0), (5, .ptr 7 0 0), (105, vB v5)], [(0, .rows 7 [rowA (ContractT.row c)]), (7, .rows 16 [rowA (ClauseT.row e1)])], 72⟩ := by
  exact reg_fast [] AllP.nil h (by kernel_rfl)

theorem r20_15_17 {C : Ctx} {nt : Nat} (HH : HasA C) (c : ContractT) (e1 : ClauseT)  (P : Exit → St → Prop) (h : P .normal ⟨[(2, .ptr 0 0 0), (5, .ptr 7 0 0), (108, vB (e1.unit == (-1)))], [(0, .rows 7 [rowA (ContractT.row c)]), (7, .rows 16 [rowA (ClauseT.row e1)])], 56⟩) : awp C nt (.region false [] ri20_15 (some [2, 5, 108])) P ⟨[(2, .ptr 0 0 0), (5, .ptr 7 0 0)], [(0, .rows 7 [rowA (ContractT.row c)]), (7, .rows 16 [rowA (ClauseT.row e1)])], 53⟩ := by
  exact reg_fast [] AllP.nil h (by kernel_rfl)

theorem r20_16_18 {C : Ctx} {nt : Nat} (HH : HasA C) (c : ContractT) (e1 : ClauseT) (v7 : Bool) (hv7 : (Option.bind (d_none) fun r4 => (bif ((e1.value.num == r4.num) && ((e1.value.den == r4.den) && true)) then some (e1.to == (-1)) else some false)) = some v7) (P : Exit → St → Prop) (h : P .normal ⟨[(4, vB v7)], [(0, .rows 7 [rowA (ContractT.row c)]), (7, .rows 16 [rowA (ClauseT.row e1)])], 66⟩) : awp C nt (.region true [0, 1, 0, 7, 15, 31, 63, 127, 255, 511] ri20_16 (some [4])) P ⟨[(2, .ptr 0 0 0), (5, .ptr 7 0 0), (108, vB (e1.unit == (-1)))], [(0, .rows 7 [rowA (ContractT.row c)]), (7, .rows 16 [rowA (ClauseT.row e1)])], 56⟩ := by
  obtain ⟨r4, hr4, hv7⟩ := obind hv7
  rcases grd hv7 with ⟨g12, hv7⟩ | ⟨g12, hv7⟩
  · skip
    have ee := Option.some.inj hv7; subst ee
    exact drw_fast [.v (.agg (Ratio.row r4)), .g true] (AllP.cons (t_none HH  r4 hr4) (.cons g12 .nil)) h (by kernel_rfl)
  · skip
    have ee := Option.some.inj hv7; subst ee
    exact drw_fast [.v (.agg (Ratio.row r4)), .g false] (AllP.cons (t_none HH  r4 hr4) (.cons g12 .nil)) h (by kernel_rfl)

theorem r20_17_19 {C : Ctx} {nt : Nat} (HH : HasA C) (c : ContractT) (e1 : ClauseT) (v8 : Bool) (hv8 : (bif (e1.kind == 1) then (bif decide (0 ≤ e1.unit) then (bif decide (e1.unit < (c.units.length : Int)) then (Option.bind (idxI c.units e1.unit) fun e3 => (bif (e3.kind == 2) then (Option.bind (d_positive e1.value) fun r5 => (bif r5 then (Option.bind (d_movable c e1.to) fun r6 => some r6) else some false)) else some false)) else some false) else some false) else (bif (e1.kind == 2) then (bif decide (0 ≤ e1.unit) then (bif decide (e1.unit < (c.units.length : Int)) then (Option.bind (idxI c.units e1.unit) fun e4 => (bif (e4.kind == 2) then (Option.bind (d_positive e1.value) fun r7 => (bif r7 then (Option.bind (d_movable c e1.to) fun r8 => some r8) else some false)) else some false)) else some false) else some false) else some false)) = some v8) (P : Exit → St → Prop) (h : P .normal ⟨[(4, vB v8)], [(0, .rows 7 [rowA (ContractT.row c)]), (7, .rows 16 [rowA (ClauseT.row e1)])], 99⟩) : awp C nt (.region false [] ri20_17 (some [4])) P ⟨[(2, .ptr 0 0 0), (5, .ptr 7 0 0), (108, vB (e1.unit == (-1)))], [(0, .rows 7 [rowA (ContractT.row c)]), (7, .rows 16 [rowA (ClauseT.row e1)])], 56⟩ := by
  rcases grd hv8 with ⟨g13, hv8⟩ | ⟨g13, hv8⟩
  · skip
    rcases grd hv8 with ⟨g14, hv8⟩ | ⟨g14, hv8⟩
    · skip
      rcases grd hv8 with ⟨g15, hv8⟩ | ⟨g15, hv8⟩
      · skip
        obtain ⟨e3, he3, hv8⟩ := obind hv8
        rcases grd hv8 with ⟨g16, hv8⟩ | ⟨g16, hv8⟩
        · skip
          obtain ⟨r5, hr5, hv8⟩ := obind hv8
          rcases grd hv8 with ⟨g17, hv8⟩ | ⟨g17, hv8⟩
          · skip
            obtain ⟨r6, hr6, hv8⟩ := obind hv8
            have ee := Option.some.inj hv8; subst ee
            exact reg_fast [.g true, .g true, .g true, .n (c.units.length : Int), .g true, .r (UnitT.row e3), .g true, .v (.bool r5), .g true, .v (.bool r6)] (AllP.cons g13 (.cons (rfl : true = true) (.cons g14 (.cons (len_side UnitT.row c.units) (.cons g15 (.cons (idx_side UnitT.row he3) (.cons g16 (.cons (t_positive HH e1.value r5 hr5) (.cons g17 (.cons (t_movable HH c e1.to r6 hr6) .nil)))))))))) h (by kernel_rfl)
          · skip
            have ee := Option.some.inj hv8; subst ee
            exact reg_fast [.g true, .g true, .g true, .n (c.units.length : Int), .g true, .r (UnitT.row e3), .g true, .v (.bool r5), .g false] (AllP.cons g13 (.cons (rfl : true = true) (.cons g14 (.cons (len_side UnitT.row c.units) (.cons g15 (.cons (idx_side UnitT.row he3) (.cons g16 (.cons (t_positive HH e1.value r5 hr5) (.cons g17 .nil))))))))) h (by kernel_rfl)
        · skip
          have ee := Option.some.inj hv8; subst ee
          exact reg_fast [.g true, .g true, .g true, .n (c.units.length : Int), .g true, .r (UnitT.row e3), .g false, .g false] (AllP.cons g13 (.cons (rfl : true = true) (.cons g14 (.cons (len_side UnitT.row c.units) (.cons g15 (.cons (idx_side UnitT.row he3) (.cons g16 (.cons (rfl : false = false) .nil)))))))) h (by kernel_rfl)
      · skip
        have ee := Option.some.inj hv8; subst ee
        exact reg_fast [.g true, .g true, .g true, .n (c.units.length : Int), .g false, .g false, .g false] (AllP.cons g13 (.cons (rfl : true = true) (.cons g14 (.cons (len_side UnitT.row c.units) (.cons g15 (.cons (rfl : false = false) (.cons (rfl : false = false) .nil))))))) h (by kernel_rfl)
    · skip
      have ee := Option.some.inj hv8; subst ee
      exact reg_fast [.g true, .g true, .g false, .g false, .g false, .g false] (AllP.cons g13 (.cons (rfl : true = true) (.cons g14 (.cons (rfl : false = false) (.cons (rfl : false = false) (.cons (rfl : false = false) .nil)))))) h (by kernel_rfl)
  · skip
    rcases grd hv8 with ⟨g18, hv8⟩ | ⟨g18, hv8⟩
    · skip
      rcases grd hv8 with ⟨g19, hv8⟩ | ⟨g19, hv8⟩
      · skip
        rcases grd hv8 with ⟨g20, hv8⟩ | ⟨g20, hv8⟩
        · skip
          obtain ⟨e4, he4, hv8⟩ := obind hv8
          rcases grd hv8 with ⟨g21, hv8⟩ | ⟨g21, hv8⟩
          · skip
            obtain ⟨r7, hr7, hv8⟩ := obind hv8
            rcases grd hv8 with ⟨g22, hv8⟩ | ⟨g22, hv8⟩
            · skip
              obtain ⟨r8, hr8, hv8⟩ := obind hv8
              have ee := Option.some.inj hv8; subst ee
              exact reg_fast [.g false, .g true, .g true, .n (c.units.length : Int), .g true, .r (UnitT.row e4), .g true, .v (.bool r7), .g true, .v (.bool r8)] (AllP.cons g13 (.cons g18 (.cons g19 (.cons (len_side UnitT.row c.units) (.cons g20 (.cons (idx_side UnitT.row he4) (.cons g21 (.cons (t_positive HH e1.value r7 hr7) (.cons g22 (.cons (t_movable HH c e1.to r8 hr8) .nil)))))))))) h (by kernel_rfl)
            · skip
              have ee := Option.some.inj hv8; subst ee
              exact reg_fast [.g false, .g true, .g true, .n (c.units.length : Int), .g true, .r (UnitT.row e4), .g true, .v (.bool r7), .g false] (AllP.cons g13 (.cons g18 (.cons g19 (.cons (len_side UnitT.row c.units) (.cons g20 (.cons (idx_side UnitT.row he4) (.cons g21 (.cons (t_positive HH e1.value r7 hr7) (.cons g22 .nil))))))))) h (by kernel_rfl)
          · skip
            have ee := Option.some.inj hv8; subst ee
            exact reg_fast [.g false, .g true, .g true, .n (c.units.length : Int), .g true, .r (UnitT.row e4), .g false, .g false] (AllP.cons g13 (.cons g18 (.cons g19 (.cons (len_side UnitT.row c.units) (.cons g20 (.cons (idx_side UnitT.row he4) (.cons g21 (.cons (rfl : false = false) .nil)))))))) h (by kernel_rfl)
        · skip
          have ee := Option.some.inj hv8; subst ee
          exact reg_fast [.g false, .g true, .g true, .n (c.units.length : Int), .g false, .g false, .g false] (AllP.cons g13 (.cons g18 (.cons g19 (.cons (len_side UnitT.row c.units) (.cons g20 (.cons (rfl : false = false) (.cons (rfl : false = false) .nil))))))) h (by kernel_rfl)
      · skip
        have ee := Option.some.inj hv8; subst ee
        exact reg_fast [.g false, .g true, .g false, .g false, .g false, .g false] (AllP.cons g13 (.cons g18 (.cons g19 (.cons (rfl : false = false) (.cons (rfl : false = false) (.cons (rfl : false = false) .nil)))))) h (by kernel_rfl)
    · skip
      have ee := Option.some.inj hv8; subst ee
      exact reg_fast [.g false, .g false, .g false, .g false, .g false, .g false] (AllP.cons g13 (.cons g18 (.cons (rfl : false = false) (.cons (rfl : false = false) (.cons (rfl : false = false) (.cons (rfl : false = false) .nil)))))) h (by kernel_rfl)

noncomputable def d_validClause (c : ContractT) (i : Int) : Option Bool :=
  (Option.bind (idxI c.clauses i) fun e1 => (Option.bind (bif decide (e1.act < 0) then some true else (bif decide ((c.acts.length : Int) ≤ e1.act) then some true else (bif decide (e1.after < 1) then some true else some (decide (400 < e1.after))))) fun v1 => (bif v1 then some false else (Option.bind (Option.bind (d_validKind c e1) fun r1 => (bif r1 then some (decide (8 < (e1.start.length : Int))) else some true)) fun v2 => (bif v2 then some false else (Option.bind (forR (σ := Unit) (ρ := Unit) (e1.start.length : Int) (fun i1 s1 => (Option.bind (idxI e1.start (i1 : Int)) fun e2 => (Option.bind (bif decide (e2.clause < 0) then some true else (bif decide ((c.clauses.length : Int) ≤ e2.clause) then some true else (bif (e2.clause == i) then some true else (bif decide (e2.is < 1) then some true else some (decide (4 < e2.is)))))) fun v3 => (bif v3 then some (.inr ()) else some (.inl ()))))) ()) (Sum.elim (fun (s1 : Unit) => (Option.bind (α := Unit ⊕ Unit) (Option.bind (bif (e1.pause == (-1)) then some (!(e1.resume == (-1))) else some true) fun v4 => (bif v4 then (Option.bind (bif (e1.pause == e1.resume) then some true else (Option.bind (d_natural c e1.pause) fun r2 => (bif r2 then (Option.bind (d_natural c e1.resume) fun r3 => some (!r3)) else some true))) fun v5 => (bif v5 then some (.inr ()) else some (.inl ()))) else some (.inl ()))) (Sum.elim (fun (v6 : Unit) => (bif (e1.unit == (-1)) then (Option.bind (Option.bind (d_none) fun r4 => (bif ((e1.value.num == r4.num) && ((e1.value.den == r4.den) && true)) then some (e1.to == (-1)) else some false)) fun v7 => some v7) else (Option.bind (bif (e1.kind == 1) then (bif decide (0 ≤ e1.unit) then (bif decide (e1.unit < (c.units.length : Int)) then (Option.bind (idxI c.units e1.unit) fun e3 => (bif (e3.kind == 2) then (Option.bind (d_positive e1.value) fun r5 => (bif r5 then (Option.bind (d_movable c e1.to) fun r6 => some r6) else some false)) else some false)) else some false) else some false) else (bif (e1.kind == 2) then (bif decide (0 ≤ e1.unit) then (bif decide (e1.unit < (c.units.length : Int)) then (Option.bind (idxI c.units e1.unit) fun e4 => (bif (e4.kind == 2) then (Option.bind (d_positive e1.value) fun r7 => (bif r7 then (Option.bind (d_movable c e1.to) fun r8 => some r8) else some false)) else some false)) else some false) else some false) else some false)) fun v8 => some v8))) (fun (y2 : Unit) => some false)))) (fun (y1 : Unit) => some false))))))))
set_option maxHeartbeats 4000000 in
theorem t_validClause {C : Ctx} (HH : HasA C) (c : ContractT) (i : Int) (res : Bool) (hd : d_validClause c i = some res) : APure C 20 [.agg (ContractT.row c), .int .i64 i] (.bool res) := by
  refine APure.start HH.h20 5 (by simp [af20]) ?_
  unfold d_validClause at hd
  show awp C _ af20.body (EndsR af20.results _) ⟨[(0, .imm (.agg (ContractT.row c))), (1, vI i)], [], 0⟩
  refine awp_seq ?_
  refine r20_0_1 HH c i _ ?_
  refine then_n ?_
  refine awp_seq ?_
  obtain ⟨e1, he1, hd_1⟩ := obind hd; clear hd
  refine r20_1_2 HH c i e1 he1 _ ?_
  clear he1
  refine then_n ?_
  refine awp_seq ?_
  refine awp_seq ?_
  obtain ⟨v1, hv1, hd_2⟩ := obind hd_1; clear hd_1
  refine r20_2_3 HH c i e1 v1 hv1 _ ?_
  clear hv1
  refine then_n ?_
  refine awp_if v1 rfl (fun g => ?_) (fun g => ?_)
  · replace hd_2 := cond_t g hd_2
    refine awp_seq ?_
    refine r20_3_4 HH c i e1 v1 _ ?_
    refine then_n ?_
    refine awp_ret ?_
    refine then_r ?_
    have ee := Option.some.inj hd_2; subst ee
    exact end_ret (by kernel_rfl)
  · replace hd_2 := cond_f g hd_2
    refine awp_skip ?_
    refine then_n ?_
    refine awp_seq ?_
    refine awp_seq ?_
    obtain ⟨v2, hv2, hd_3⟩ := obind hd_2; clear hd_2
    refine r20_4_5 HH c i e1 v1 v2 hv2 _ ?_
    clear hv2
    refine then_n ?_
    refine awp_if v2 rfl (fun g => ?_) (fun g => ?_)
    · replace hd_3 := cond_t g hd_3
      refine awp_seq ?_
      refine r20_5_6 HH c i e1 v2 _ ?_
      refine then_n ?_
      refine awp_ret ?_
      refine then_r ?_
      have ee := Option.some.inj hd_3; subst ee
      exact end_ret (by kernel_rfl)
    · replace hd_3 := cond_f g hd_3
      refine awp_skip ?_
      refine then_n ?_
      refine awp_seq ?_
      refine awp_seq ?_
      refine r20_6_7 HH c i e1 v2 _ ?_
      refine then_n ?_
      refine awp_block ?_
      obtain ⟨o1, hl_o1, hd_4⟩ := obind hd_3; clear hd_3
      refine awp_forR hl_o1 (fun i1 s1 => [(1, vI i), (2, .ptr 0 0 0), (5, .ptr 7 0 0), (45, .imm (.slice (List.map CondT.row e1.start))), (46, vI (e1.start.length : Int)), (47, vI (i1 : Int))]) (fun i1 s1 => [(0, .rows 7 [rowA (ContractT.row c)]), (7, .rows 16 [rowA (ClauseT.row e1)])]) ?_ ?_ ?_
      · exact weak_run [1, 2, 5, 45, 46, 47] [(0, true), (7, true)] 44 [] [] AllP.nil (by kernel_rfl)
      · intro i1 s1 o hi_i1 hw_i1 hs_s1
        refine awp_seq ?_
        refine r20_7_8 HH c i e1 i1 _ ?_
        refine then_n ?_
        refine awp_seq ?_
        refine awp_ifT (by simp [*]) ?_
        refine awp_skip ?_
        refine then_n ?_
        refine awp_seq ?_
        refine awp_block ?_
        refine awp_seq ?_
        obtain ⟨e2, he2, hs_s1_1⟩ := obind hs_s1; clear hs_s1
        refine r20_8_9 HH c i e1 i1 e2 he2 _ ?_
        clear he2
        refine then_n ?_
        refine awp_seq ?_
        obtain ⟨v3, hv3, hs_s1_2⟩ := obind hs_s1_1; clear hs_s1_1
        refine r20_9_10 HH c i e1 i1 e2 v3 hv3 _ ?_
        clear hv3
        refine then_n ?_
        refine awp_if v3 rfl (fun g => ?_) (fun g => ?_)
        · replace hs_s1_2 := cond_t g hs_s1_2
          refine awp_seq ?_
          refine r20_10_11 HH c i e1 i1 e2 v3 _ ?_
          refine then_n ?_
          refine awp_ret ?_
          refine inb_r ?_
          refine then_r ?_
          cases hs_s1_2
          refine ⟨_, rfl, fun hq => ?_⟩
          subst hq
          replace hd_4 := sel_r hd_4
          refine inb_r ?_
          refine then_r ?_
          have ee := Option.some.inj hd_4; subst ee
          exact end_ret (by kernel_rfl)
        · replace hs_s1_2 := cond_f g hs_s1_2
          refine awp_skip ?_
          refine inb_n ?_
          refine then_n ?_
          refine r20_11_12 HH c i e1 i1 e2 v3 _ ?_
          cases hs_s1_2
          exact ⟨_, rfl, weak_run [1, 2, 5, 45, 46, 47] [(0, true), (7, true)] 44 [(47, vI (((i1 + 1 : Nat) : Int)))] [] (AllP.cons (ov_int hw_i1) .nil) (by kernel_rfl)⟩
      · intro i1 s1 hi_i1 ho
        subst ho
        replace hd_4 := sel_l hd_4
        refine awp_seq ?_
        refine r20_7_13 HH c i e1 i1 _ ?_
        refine then_n ?_
        refine awp_seq ?_
        refine awp_ifF (by simp [*]) ?_
        refine awp_exit ?_
        refine then_x ?_
        refine then_x ?_
        refine inb_eq ?_
        refine then_n ?_
        obtain ⟨o_v6, hc_v6, hd_5⟩ := obind hd_4; clear hd_4
        rcases o_v6 with v6 | o_v6
        · refine awp_seqW ⟨[(2, .ptr 0 0 0), (5, .ptr 7 0 0)], [(0, .rows 7 [rowA (ContractT.row c)]), (7, .rows 16 [rowA (ClauseT.row e1)])], 53⟩ (by simp) ?_ ?_
          · skip
            refine awp_seq ?_
            obtain ⟨v4, hv4, hc_v6_1⟩ := obind hc_v6; clear hc_v6
            refine r20_12_14 HH c i e1 i1 v4 hv4 _ ?_
            clear hv4
            refine then_n ?_
            refine awp_if v4 rfl (fun g => ?_) (fun g => ?_)
            · replace hc_v6_1 := cond_t g hc_v6_1
              refine awp_seq ?_
              obtain ⟨v5, hv5, hc_v6_2⟩ := obind hc_v6_1; clear hc_v6_1
              refine r20_13_15 HH c e1 v4 v5 hv5 _ ?_
              clear hv5
              refine then_n ?_
              refine awp_if v5 rfl (fun g => ?_) (fun g => ?_)
              · replace hc_v6_2 := cond_t g hc_v6_2
                refine awp_seq ?_
                refine r20_14_16 HH c e1 v5 _ ?_
                refine then_n ?_
                refine awp_ret ?_
                cases hc_v6_2
              · replace hc_v6_2 := cond_f g hc_v6_2
                refine awp_skip ?_
                have ee := Sum.inl.inj (Option.some.inj hc_v6_2); subst ee
                exact then_n (weak_run [2, 5] [(0, true), (7, true)] 53 [] [] AllP.nil (by kernel_rfl))
            · replace hc_v6_1 := cond_f g hc_v6_1
              refine awp_skip ?_
              have ee := Sum.inl.inj (Option.some.inj hc_v6_1); subst ee
              exact then_n (weak_run [2, 5] [(0, true), (7, true)] 53 [] [] AllP.nil (by kernel_rfl))
          · replace hd_5 := sel_l hd_5
            refine awp_seq ?_
            refine awp_seq ?_
            refine r20_15_17 HH c e1 _ ?_
            refine then_n ?_
            refine awp_if (e1.unit == (-1)) rfl (fun g => ?_) (fun g => ?_)
            · replace hd_5 := cond_t g hd_5
              refine awp_seq ?_
              obtain ⟨v7, hv7, hd_6⟩ := obind hd_5; clear hd_5
              refine r20_16_18 HH c e1 v7 hv7 _ ?_
              clear hv7
              refine then_n ?_
              refine awp_ret ?_
              refine then_r ?_
              have ee := Option.some.inj hd_6; subst ee
              exact end_ret (by kernel_rfl)
            · replace hd_5 := cond_f g hd_5
              refine awp_skip ?_
              refine then_n ?_
              refine awp_seq ?_
              obtain ⟨v8, hv8, hd_6⟩ := obind hd_5; clear hd_5
              refine r20_17_19 HH c e1 v8 hv8 _ ?_
              clear hv8
              refine then_n ?_
              refine awp_ret ?_
              have ee := Option.some.inj hd_6; subst ee
              exact end_ret (by kernel_rfl)
        · refine awp_seq ?_
          refine awp_seq ?_
          obtain ⟨v4, hv4, hc_v6_1⟩ := obind hc_v6; clear hc_v6
          refine r20_12_14 HH c i e1 i1 v4 hv4 _ ?_
          clear hv4
          refine then_n ?_
          refine awp_if v4 rfl (fun g => ?_) (fun g => ?_)
          · replace hc_v6_1 := cond_t g hc_v6_1
            refine awp_seq ?_
            obtain ⟨v5, hv5, hc_v6_2⟩ := obind hc_v6_1; clear hc_v6_1
            refine r20_13_15 HH c e1 v4 v5 hv5 _ ?_
            clear hv5
            refine then_n ?_
            refine awp_if v5 rfl (fun g => ?_) (fun g => ?_)
            · replace hc_v6_2 := cond_t g hc_v6_2
              refine awp_seq ?_
              refine r20_14_16 HH c e1 v5 _ ?_
              refine then_n ?_
              refine awp_ret ?_
              cases hc_v6_2
              replace hd_5 := sel_r hd_5
              refine then_r ?_
              have ee := Option.some.inj hd_5; subst ee
              exact end_ret (by kernel_rfl)
            · replace hc_v6_2 := cond_f g hc_v6_2
              refine awp_skip ?_
              cases hc_v6_2
          · replace hc_v6_1 := cond_f g hc_v6_1
            refine awp_skip ?_
            cases hc_v6_1

theorem r8_0_1 {C : Ctx} {nt : Nat} (HH : HasA C) (c : ContractT)  (P : Exit → St → Prop) (h : P .normal ⟨[(1, .ptr 0 0 0)], [(0, .rows 7 [rowA (ContractT.row c)])], 3⟩) : awp C nt (.region false [] ri8_0 (some [1])) P ⟨[(0, .imm (.agg (ContractT.row c)))], [], 0⟩ := by
  exact reg_fast [] AllP.nil h (by kernel_rfl)

theorem r8_1_2 {C : Ctx} {nt : Nat} (HH : HasA C) (c : ContractT) (v1 : Bool) (hv1 : (bif decide (12 < c.parties) then some true else (bif decide (2000 < c.days) then some true else (bif decide (12 < (c.holders.length : Int)) then some true else (bif decide (20 < (c.units.length : Int)) then some true else (bif decide (60 < (c.acts.length : Int)) then some true else some (decide (400 < (c.clauses.length : Int)))))))) = some v1) (P : Exit → St → Prop) (h : P .normal ⟨[(1, .ptr 0 0 0), (36, vB v1)], [(0, .rows 7 [rowA (ContractT.row c)])], 35⟩) : awp C nt (.region false [] ri8_1 (some [1, 36])) P ⟨[(1, .ptr 0 0 0)], [(0, .rows 7 [rowA (ContractT.row c)])], 3⟩ := by
  rcases grd hv1 with ⟨g1, hv1⟩ | ⟨g1, hv1⟩
  · skip
    have ee := Option.some.inj hv1; subst ee
    exact reg_fast [.g true, .g true, .g true, .g true, .g true] (AllP.cons g1 (.cons (rfl : true = true) (.cons (rfl : true = true) (.cons (rfl : true = true) (.cons (rfl : true = true) .nil))))) h (by kernel_rfl)
  · skip
    rcases grd hv1 with ⟨g2, hv1⟩ | ⟨g2, hv1⟩
    · skip
      have ee := Option.some.inj hv1; subst ee
      exact reg_fast [.g false, .g true, .g true, .g true, .g true] (AllP.cons g1 (.cons g2 (.cons (rfl : true = true) (.cons (rfl : true = true) (.cons (rfl : true = true) .nil))))) h (by kernel_rfl)
    · skip
      rcases grd hv1 with ⟨g3, hv1⟩ | ⟨g3, hv1⟩
      · skip
        have ee := Option.some.inj hv1; subst ee
        exact reg_fast [.g false, .g false, .n (c.holders.length : Int), .g true, .g true, .g true] (AllP.cons g1 (.cons g2 (.cons (len_side rowI c.holders) (.cons g3 (.cons (rfl : true = true) (.cons (rfl : true = true) .nil)))))) h (by kernel_rfl)
      · skip
        rcases grd hv1 with ⟨g4, hv1⟩ | ⟨g4, hv1⟩
        · skip
          have ee := Option.some.inj hv1; subst ee
          exact reg_fast [.g false, .g false, .n (c.holders.length : Int), .g false, .n (c.units.length : Int), .g true, .g true] (AllP.cons g1 (.cons g2 (.cons (len_side rowI c.holders) (.cons g3 (.cons (len_side UnitT.row c.units) (.cons g4 (.cons (rfl : true = true) .nil))))))) h (by kernel_rfl)
        · skip
          rcases grd hv1 with ⟨g5, hv1⟩ | ⟨g5, hv1⟩
          · skip
            have ee := Option.some.inj hv1; subst ee
            exact reg_fast [.g false, .g false, .n (c.holders.length : Int), .g false, .n (c.units.length : Int), .g false, .n (c.acts.length : Int), .g true] (AllP.cons g1 (.cons g2 (.cons (len_side rowI c.holders) (.cons g3 (.cons (len_side UnitT.row c.units) (.cons g4 (.cons (len_side ActT.row c.acts) (.cons g5 .nil)))))))) h (by kernel_rfl)
          · skip
            have ee := Option.some.inj hv1; subst ee
            exact reg_fast [.g false, .g false, .n (c.holders.length : Int), .g false, .n (c.units.length : Int), .g false, .n (c.acts.length : Int), .g false, .n (c.clauses.length : Int)] (AllP.cons g1 (.cons g2 (.cons (len_side rowI c.holders) (.cons g3 (.cons (len_side UnitT.row c.units) (.cons g4 (.cons (len_side ActT.row c.acts) (.cons g5 (.cons (len_side ClauseT.row c.clauses) .nil))))))))) h (by kernel_rfl)

theorem r8_2_3 {C : Ctx} {nt : Nat} (HH : HasA C) (c : ContractT) (v1 : Bool)  (P : Exit → St → Prop) (h : P .normal ⟨[(2, vI 3), (3, vI (-1))], [(0, .rows 7 [rowA (ContractT.row c)])], 37⟩) : awp C nt (.region false [] ri8_2 (some [2, 3])) P ⟨[(1, .ptr 0 0 0), (36, vB v1)], [(0, .rows 7 [rowA (ContractT.row c)])], 35⟩ := by
  exact reg_fast [] AllP.nil h (by kernel_rfl)

theorem r8_3_4 {C : Ctx} {nt : Nat} (HH : HasA C) (c : ContractT) (v1 : Bool) (r1 : Bool) (hr1 : d_framed c = some r1) (P : Exit → St → Prop) (h : P .normal ⟨[(1, .ptr 0 0 0), (39, vB (!r1))], [(0, .rows 7 [rowA (ContractT.row c)])], 38⟩) : awp C nt (.region false [] ri8_3 (some [1, 39])) P ⟨[(1, .ptr 0 0 0), (36, vB v1)], [(0, .rows 7 [rowA (ContractT.row c)])], 35⟩ := by
  exact reg_fast [.v (.bool r1)] (AllP.cons (t_framed HH c r1 hr1) .nil) h (by kernel_rfl)

theorem r8_4_5 {C : Ctx} {nt : Nat} (HH : HasA C) (c : ContractT) (r1 : Bool)  (P : Exit → St → Prop) (h : P .normal ⟨[(2, vI 1), (3, vI (-1))], [(0, .rows 7 [rowA (ContractT.row c)])], 40⟩) : awp C nt (.region false [] ri8_4 (some [2, 3])) P ⟨[(1, .ptr 0 0 0), (39, vB (!r1))], [(0, .rows 7 [rowA (ContractT.row c)])], 38⟩ := by
  exact reg_fast [] AllP.nil h (by kernel_rfl)

theorem r8_5_6 {C : Ctx} {nt : Nat} (HH : HasA C) (c : ContractT) (r1 : Bool)  (P : Exit → St → Prop) (h : P .normal ⟨[(1, .ptr 0 0 0), (42, vI (c.clauses.length : Int)), (43, vI 0)], [(0, .rows 7 [rowA (ContractT.row c)])], 42⟩) : awp C nt (.region false [] ri8_5 (some [1, 42, 43])) P ⟨[(1, .ptr 0 0 0), (39, vB (!r1))], [(0, .rows 7 [rowA (ContractT.row c)])], 38⟩ := by
  exact reg_fast [.n (c.clauses.length : Int)] (AllP.cons (len_side ClauseT.row c.clauses) .nil) h (by kernel_rfl)

theorem r8_6_7 {C : Ctx} {nt : Nat} (HH : HasA C) (c : ContractT) (i1 : Nat)  (P : Exit → St → Prop) (h : P .normal ⟨[(1, .ptr 0 0 0), (42, vI (c.clauses.length : Int)), (43, vI (i1 : Int)), (44, vB (decide ((i1 : Int) < (c.clauses.length : Int))))], [(0, .rows 7 [rowA (ContractT.row c)])], 43⟩) : awp C nt (.region false [] ri8_6 (some [1, 42, 43, 44])) P ⟨[(1, .ptr 0 0 0), (42, vI (c.clauses.length : Int)), (43, vI (i1 : Int))], [(0, .rows 7 [rowA (ContractT.row c)])], 42⟩ := by
  exact reg_fast [] AllP.nil h (by kernel_rfl)

theorem r8_7_8 {C : Ctx} {nt : Nat} (HH : HasA C) (c : ContractT) (i1 : Nat)  (P : Exit → St → Prop) (h : P .normal ⟨[(1, .ptr 0 0 0), (42, vI (c.clauses.length : Int)), (43, vI (i1 : Int)), (4, vI (i1 : Int))], [(0, .rows 7 [rowA (ContractT.row c)])], 45⟩) : awp C nt (.region false [] ri8_7 (some [1, 4, 42, 43])) P ⟨[(1, .ptr 0 0 0), (42, vI (c.clauses.length : Int)), (43, vI (i1 : Int)), (44, vB (decide ((i1 : Int) < (c.clauses.length : Int))))], [(0, .rows 7 [rowA (ContractT.row c)])], 43⟩ := by
  exact reg_fast [] AllP.nil h (by kernel_rfl)

theorem r8_8_9 {C : Ctx} {nt : Nat} (HH : HasA C) (c : ContractT) (i1 : Nat) (r2 : Bool) (hr2 : d_validClause c (i1 : Int) = some r2) (P : Exit → St → Prop) (h : P .normal ⟨[(1, .ptr 0 0 0), (42, vI (c.clauses.length : Int)), (43, vI (i1 : Int)), (4, vI (i1 : Int)), (49, vB (!r2))], [(0, .rows 7 [rowA (ContractT.row c)])], 49⟩) : awp C nt (.region false [] ri8_8 (some [1, 4, 42, 43, 49])) P ⟨[(1, .ptr 0 0 0), (42, vI (c.clauses.length : Int)), (43, vI (i1 : Int)), (4, vI (i1 : Int))], [(0, .rows 7 [rowA (ContractT.row c)])], 45⟩ := by
  exact reg_fast [.v (.bool r2)] (AllP.cons (t_validClause HH c (i1 : Int) r2 hr2) .nil) h (by kernel_rfl)

theorem r8_9_10 {C : Ctx} {nt : Nat} (HH : HasA C) (c : ContractT) (i1 : Nat) (r2 : Bool)  (P : Exit → St → Prop) (h : P .normal ⟨[(2, vI 1), (3, vI (i1 : Int))], [(0, .rows 7 [rowA (ContractT.row c)])], 52⟩) : awp C nt (.region false [] ri8_9 (some [2, 3])) P ⟨[(1, .ptr 0 0 0), (42, vI (c.clauses.length : Int)), (43, vI (i1 : Int)), (4, vI (i1 : Int)), (49, vB (!r2))], [(0, .rows 7 [rowA (ContractT.row c)])], 49⟩ := by
  exact reg_fast [] AllP.nil h (by kernel_rfl)

theorem r8_10_11 {C : Ctx} {nt : Nat} (HH : HasA C) (c : ContractT) (i1 : Nat) (r2 : Bool)  (P : Exit → St → Prop) (h : P .normal ⟨[(1, .ptr 0 0 0), (42, vI (c.clauses.length : Int)), (43, vI (IntKind.i64.wrap ((i1 : Int) + 1)))], [(0, .rows 7 [rowA (ContractT.row c)])], 51⟩) : awp C nt (.region false [] ri8_10 (some [1, 42, 43])) P ⟨[(1, .ptr 0 0 0), (42, vI (c.clauses.length : Int)), (43, vI (i1 : Int)), (4, vI (i1 : Int)), (49, vB (!r2))], [(0, .rows 7 [rowA (ContractT.row c)])], 49⟩ := by
  exact reg_fast [] AllP.nil h (by kernel_rfl)

theorem r8_6_12 {C : Ctx} {nt : Nat} (HH : HasA C) (c : ContractT) (i1 : Nat)  (P : Exit → St → Prop) (h : P .normal ⟨[(1, .ptr 0 0 0), (42, vI (c.clauses.length : Int)), (43, vI (i1 : Int)), (44, vB (decide ((i1 : Int) < (c.clauses.length : Int))))], [(0, .rows 7 [rowA (ContractT.row c)])], 43⟩) : awp C nt (.region false [] ri8_6 (some [1, 42, 43, 44])) P ⟨[(1, .ptr 0 0 0), (42, vI (c.clauses.length : Int)), (43, vI (i1 : Int))], [(0, .rows 7 [rowA (ContractT.row c)])], 42⟩ := by
  exact reg_fast [] AllP.nil h (by kernel_rfl)

theorem r8_11_13 {C : Ctx} {nt : Nat} (HH : HasA C) (c : ContractT) (i1 : Nat)  (P : Exit → St → Prop) (h : P .normal ⟨[(2, vI 0), (3, vI (-1))], [(0, .rows 7 [rowA (ContractT.row c)])], 45⟩) : awp C nt (.region false [] ri8_11 (some [2, 3])) P ⟨[(1, .ptr 0 0 0), (42, vI (c.clauses.length : Int)), (43, vI (i1 : Int)), (44, vB (decide ((i1 : Int) < (c.clauses.length : Int))))], [(0, .rows 7 [rowA (ContractT.row c)])], 43⟩ := by
  exact reg_fast [] AllP.nil h (by kernel_rfl)

noncomputable def d_Valid (c : ContractT) : Option (Int × Int) :=
  (Option.bind (bif decide (12 < c.parties) then some true else (bif decide (2000 < c.days) then some true else (bif decide (12 < (c.holders.length : Int)) then some true else (bif decide (20 < (c.units.length : Int)) then some true else (bif decide (60 < (c.acts.length : Int)) then some true else some (decide (400 < (c.clauses.length : Int)))))))) fun v1 => (bif v1 then some (3, (-1)) else (Option.bind (d_framed c) fun r1 => (bif r1 then (Option.bind (forR (σ := Unit) (ρ := Int) (c.clauses.length : Int) (fun i1 s1 => (Option.bind (d_validClause c (i1 : Int)) fun r2 => (bif r2 then some (.inl ()) else some (.inr (i1 : Int))))) ()) (Sum.elim (fun (s1 : Unit) => some (0, (-1))) (fun (y1 : Int) => some (1, y1)))) else some (1, (-1))))))
set_option maxHeartbeats 4000000 in
theorem t_Valid {C : Ctx} (HH : HasA C) (c : ContractT) (res : Int × Int) (hd : d_Valid c = some res) : APure C 8 [.agg (ContractT.row c)] (.tuple [.int .i64 res.1, .int .i64 res.2]) := by
  refine APure.start HH.h8 5 (by simp [af8]) ?_
  unfold d_Valid at hd
  show awp C _ af8.body (EndsR af8.results _) ⟨[(0, .imm (.agg (ContractT.row c)))], [], 0⟩
  refine awp_seq ?_
  refine r8_0_1 HH c _ ?_
  refine then_n ?_
  refine awp_seq ?_
  refine awp_seq ?_
  obtain ⟨v1, hv1, hd_1⟩ := obind hd; clear hd
  refine r8_1_2 HH c v1 hv1 _ ?_
  clear hv1
  refine then_n ?_
  refine awp_if v1 rfl (fun g => ?_) (fun g => ?_)
  · replace hd_1 := cond_t g hd_1
    refine awp_seq ?_
    refine r8_2_3 HH c v1 _ ?_
    refine then_n ?_
    refine awp_ret ?_
    refine then_r ?_
    have ee := Option.some.inj hd_1; subst ee
    exact end_ret (by kernel_rfl)
  · replace hd_1 := cond_f g hd_1
    refine awp_skip ?_
    refine then_n ?_
    refine awp_seq ?_
    refine awp_seq ?_
    obtain ⟨r1, hr1, hd_2⟩ := obind hd_1; clear hd_1
    refine r8_3_4 HH c v1 r1 hr1 _ ?_
    clear hr1
    refine then_n ?_
    refine awp_ifN r1 rfl (fun g => ?_) (fun g => ?_)
    · replace hd_2 := cond_f g hd_2
      refine awp_seq ?_
      refine r8_4_5 HH c r1 _ ?_
      refine then_n ?_
      refine awp_ret ?_
      refine then_r ?_
      have ee := Option.some.inj hd_2; subst ee
      exact end_ret (by kernel_rfl)
    · replace hd_2 := cond_t g hd_2
      refine awp_skip ?_
      refine then_n ?_
      refine awp_seq ?_
      refine awp_seq ?_
      refine r8_5_6 HH c r1 _ ?_
      refine then_n ?_
      refine awp_block ?_
      obtain ⟨o1, hl_o1, hd_3⟩ := obind hd_2; clear hd_2
      refine awp_forR hl_o1 (fun i1 s1 => [(1, .ptr 0 0 0), (42, vI (c.clauses.length : Int)), (43, vI (i1 : Int))]) (fun i1 s1 => [(0, .rows 7 [rowA (ContractT.row c)])]) ?_ ?_ ?_
      · exact weak_run [1, 42, 43] [(0, true)] 42 [] [] AllP.nil (by kernel_rfl)
      · intro i1 s1 o hi_i1 hw_i1 hs_s1
        refine awp_seq ?_
        refine r8_6_7 HH c i1 _ ?_
        refine then_n ?_
        refine awp_seq ?_
        refine awp_ifT (by simp [*]) ?_
        refine awp_skip ?_
        refine then_n ?_
        refine awp_seq ?_
        refine awp_block ?_
        refine awp_seq ?_
        refine r8_7_8 HH c i1 _ ?_
        refine then_n ?_
        refine awp_seq ?_
        obtain ⟨r2, hr2, hs_s1_1⟩ := obind hs_s1; clear hs_s1
        refine r8_8_9 HH c i1 r2 hr2 _ ?_
        clear hr2
        refine then_n ?_
        refine awp_ifN r2 rfl (fun g => ?_) (fun g => ?_)
        · replace hs_s1_1 := cond_f g hs_s1_1
          refine awp_seq ?_
          refine r8_9_10 HH c i1 r2 _ ?_
          refine then_n ?_
          refine awp_ret ?_
          refine inb_r ?_
          refine then_r ?_
          cases hs_s1_1
          refine ⟨_, rfl, fun hq => ?_⟩
          subst hq
          replace hd_3 := sel_r hd_3
          refine inb_r ?_
          refine then_r ?_
          have ee := Option.some.inj hd_3; subst ee
          exact end_ret (by kernel_rfl)
        · replace hs_s1_1 := cond_t g hs_s1_1
          refine awp_skip ?_
          refine inb_n ?_
          refine then_n ?_
          refine r8_10_11 HH c i1 r2 _ ?_
          cases hs_s1_1
          exact ⟨_, rfl, weak_run [1, 42, 43] [(0, true)] 42 [(43, vI (((i1 + 1 : Nat) : Int)))] [] (AllP.cons (ov_int hw_i1) .nil) (by kernel_rfl)⟩
      · intro i1 s1 hi_i1 ho
        subst ho
        replace hd_3 := sel_l hd_3
        refine awp_seq ?_
        refine r8_6_12 HH c i1 _ ?_
        refine then_n ?_
        refine awp_seq ?_
        refine awp_ifF (by simp [*]) ?_
        refine awp_exit ?_
        refine then_x ?_
        refine then_x ?_
        refine inb_eq ?_
        refine then_n ?_
        refine awp_seq ?_
        refine r8_11_13 HH c i1 _ ?_
        refine then_n ?_
        refine awp_ret ?_
        have ee := Option.some.inj hd_3; subst ee
        exact end_ret (by kernel_rfl)

theorem r7_0_1 {C : Ctx} {nt : Nat} (HH : HasA C) (c : ContractT) (n : Int)  (P : Exit → St → Prop) (h : P .normal ⟨[(1, vI n), (2, .ptr 0 0 0)], [(0, .rows 7 [rowA (ContractT.row c)])], 2⟩) : awp C nt (.region false [] ri7_0 (some [1, 2])) P ⟨[(0, .imm (.agg (ContractT.row c))), (1, vI n)], [], 0⟩ := by
  exact reg_fast [] AllP.nil h (by kernel_rfl)

theorem r7_1_2 {C : Ctx} {nt : Nat} (HH : HasA C) (c : ContractT) (n : Int) (v1 : Bool) (hv1 : (bif decide (13 < (c.holders.length : Int)) then some true else (bif decide (21 < (c.units.length : Int)) then some true else (bif decide (61 < (c.acts.length : Int)) then some true else (bif decide (n < (c.clauses.length : Int)) then some true else some (decide (100 < (c.off.length : Int))))))) = some v1) (P : Exit → St → Prop) (h : P .normal ⟨[(2, .ptr 0 0 0), (35, vB v1)], [(0, .rows 7 [rowA (ContractT.row c)])], 31⟩) : awp C nt (.region false [] ri7_1 (some [2, 35])) P ⟨[(1, vI n), (2, .ptr 0 0 0)], [(0, .rows 7 [rowA (ContractT.row c)])], 2⟩ := by
  rcases grd hv1 with ⟨g1, hv1⟩ | ⟨g1, hv1⟩
  · skip
    have ee := Option.some.inj hv1; subst ee
    exact reg_fast [.n (c.holders.length : Int), .g true, .g true, .g true, .g true] (AllP.cons (len_side rowI c.holders) (.cons g1 (.cons (rfl : true = true) (.cons (rfl : true = true) (.cons (rfl : true = true) .nil))))) h (by kernel_rfl)
  · skip
    rcases grd hv1 with ⟨g2, hv1⟩ | ⟨g2, hv1⟩
    · skip
      have ee := Option.some.inj hv1; subst ee
      exact reg_fast [.n (c.holders.length : Int), .g false, .n (c.units.length : Int), .g true, .g true, .g true] (AllP.cons (len_side rowI c.holders) (.cons g1 (.cons (len_side UnitT.row c.units) (.cons g2 (.cons (rfl : true = true) (.cons (rfl : true = true) .nil)))))) h (by kernel_rfl)
    · skip
      rcases grd hv1 with ⟨g3, hv1⟩ | ⟨g3, hv1⟩
      · skip
        have ee := Option.some.inj hv1; subst ee
        exact reg_fast [.n (c.holders.length : Int), .g false, .n (c.units.length : Int), .g false, .n (c.acts.length : Int), .g true, .g true] (AllP.cons (len_side rowI c.holders) (.cons g1 (.cons (len_side UnitT.row c.units) (.cons g2 (.cons (len_side ActT.row c.acts) (.cons g3 (.cons (rfl : true = true) .nil))))))) h (by kernel_rfl)
      · skip
        rcases grd hv1 with ⟨g4, hv1⟩ | ⟨g4, hv1⟩
        · skip
          have ee := Option.some.inj hv1; subst ee
          exact reg_fast [.n (c.holders.length : Int), .g false, .n (c.units.length : Int), .g false, .n (c.acts.length : Int), .g false, .n (c.clauses.length : Int), .g true] (AllP.cons (len_side rowI c.holders) (.cons g1 (.cons (len_side UnitT.row c.units) (.cons g2 (.cons (len_side ActT.row c.acts) (.cons g3 (.cons (len_side ClauseT.row c.clauses) (.cons g4 .nil)))))))) h (by kernel_rfl)
        · skip
          have ee := Option.some.inj hv1; subst ee
          exact reg_fast [.n (c.holders.length : Int), .g false, .n (c.units.length : Int), .g false, .n (c.acts.length : Int), .g false, .n (c.clauses.length : Int), .g false, .n (c.off.length : Int)] (AllP.cons (len_side rowI c.holders) (.cons g1 (.cons (len_side UnitT.row c.units) (.cons g2 (.cons (len_side ActT.row c.acts) (.cons g3 (.cons (len_side ClauseT.row c.clauses) (.cons g4 (.cons (len_side rowI c.off) .nil))))))))) h (by kernel_rfl)

theorem r7_2_3 {C : Ctx} {nt : Nat} (HH : HasA C) (c : ContractT) (v1 : Bool)  (P : Exit → St → Prop) (h : P .normal ⟨[(4, vB false)], [(0, .rows 7 [rowA (ContractT.row c)])], 32⟩) : awp C nt (.region false [] ri7_2 (some [4])) P ⟨[(2, .ptr 0 0 0), (35, vB v1)], [(0, .rows 7 [rowA (ContractT.row c)])], 31⟩ := by
  exact reg_fast [] AllP.nil h (by kernel_rfl)

theorem r7_3_4 {C : Ctx} {nt : Nat} (HH : HasA C) (c : ContractT) (v1 : Bool)  (P : Exit → St → Prop) (h : P .normal ⟨[(2, .ptr 0 0 0), (5, vI 0)], [(0, .rows 7 [rowA (ContractT.row c)])], 32⟩) : awp C nt (.region false [] ri7_3 (some [2, 5])) P ⟨[(2, .ptr 0 0 0), (35, vB v1)], [(0, .rows 7 [rowA (ContractT.row c)])], 31⟩ := by
  exact reg_fast [] AllP.nil h (by kernel_rfl)

theorem r7_4_5 {C : Ctx} {nt : Nat} (HH : HasA C) (c : ContractT) (n : Int) (i1 : Nat)  (P : Exit → St → Prop) (h : P .normal ⟨[(2, .ptr 0 0 0), (5, vI (i1 : Int)), (40, vB (decide ((i1 : Int) < (c.units.length : Int))))], [(0, .rows 7 [rowA (ContractT.row c)])], 37⟩) : awp C nt (.region false [] ri7_4 (some [2, 5, 40])) P ⟨[(2, .ptr 0 0 0), (5, vI (i1 : Int))], [(0, .rows 7 [rowA (ContractT.row c)])], 32⟩ := by
  exact reg_fast [.n (c.units.length : Int)] (AllP.cons (len_side UnitT.row c.units) .nil) h (by kernel_rfl)

theorem r7_5_6 {C : Ctx} {nt : Nat} (HH : HasA C) (c : ContractT) (i1 : Nat) (e1 : UnitT) (he1 : idxI c.units (i1 : Int) = some e1) (P : Exit → St → Prop) (h : P .normal ⟨[(2, .ptr 0 0 0), (5, vI (i1 : Int)), (50, vB (decide (60 < (e1.name.size : Int))))], [(0, .rows 7 [rowA (ContractT.row c)])], 45⟩) : awp C nt (.region false [] ri7_5 (some [2, 5, 50])) P ⟨[(2, .ptr 0 0 0), (5, vI (i1 : Int)), (40, vB (decide ((i1 : Int) < (c.units.length : Int))))], [(0, .rows 7 [rowA (ContractT.row c)])], 37⟩ := by
  exact reg_fast [.r (UnitT.row e1)] (AllP.cons (idx_side UnitT.row he1) .nil) h (by kernel_rfl)

theorem r7_6_7 {C : Ctx} {nt : Nat} (HH : HasA C) (c : ContractT) (i1 : Nat) (e1 : UnitT)  (P : Exit → St → Prop) (h : P .normal ⟨[(4, vB false)], [(0, .rows 7 [rowA (ContractT.row c)])], 46⟩) : awp C nt (.region false [] ri7_6 (some [4])) P ⟨[(2, .ptr 0 0 0), (5, vI (i1 : Int)), (50, vB (decide (60 < (e1.name.size : Int))))], [(0, .rows 7 [rowA (ContractT.row c)])], 45⟩ := by
  exact reg_fast [] AllP.nil h (by kernel_rfl)

theorem r7_7_8 {C : Ctx} {nt : Nat} (HH : HasA C) (c : ContractT) (i1 : Nat) (e1 : UnitT)  (P : Exit → St → Prop) (h : P .normal ⟨[(2, .ptr 0 0 0), (5, vI (IntKind.i64.wrap ((i1 : Int) + 1)))], [(0, .rows 7 [rowA (ContractT.row c)])], 48⟩) : awp C nt (.region false [] ri7_7 (some [2, 5])) P ⟨[(2, .ptr 0 0 0), (5, vI (i1 : Int)), (50, vB (decide (60 < (e1.name.size : Int))))], [(0, .rows 7 [rowA (ContractT.row c)])], 45⟩ := by
  exact reg_fast [] AllP.nil h (by kernel_rfl)

theorem r7_4_9 {C : Ctx} {nt : Nat} (HH : HasA C) (c : ContractT) (n : Int) (i1 : Nat)  (P : Exit → St → Prop) (h : P .normal ⟨[(2, .ptr 0 0 0), (5, vI (i1 : Int)), (40, vB (decide ((i1 : Int) < (c.units.length : Int))))], [(0, .rows 7 [rowA (ContractT.row c)])], 37⟩) : awp C nt (.region false [] ri7_4 (some [2, 5, 40])) P ⟨[(2, .ptr 0 0 0), (5, vI (i1 : Int))], [(0, .rows 7 [rowA (ContractT.row c)])], 32⟩ := by
  exact reg_fast [.n (c.units.length : Int)] (AllP.cons (len_side UnitT.row c.units) .nil) h (by kernel_rfl)

theorem r7_8_10 {C : Ctx} {nt : Nat} (HH : HasA C) (c : ContractT) (i1 : Nat)  (P : Exit → St → Prop) (h : P .normal ⟨[(2, .ptr 0 0 0), (6, vI 0)], [(0, .rows 7 [rowA (ContractT.row c)])], 38⟩) : awp C nt (.region false [] ri7_8 (some [2, 6])) P ⟨[(2, .ptr 0 0 0), (5, vI (i1 : Int)), (40, vB (decide ((i1 : Int) < (c.units.length : Int))))], [(0, .rows 7 [rowA (ContractT.row c)])], 37⟩ := by
  exact reg_fast [] AllP.nil h (by kernel_rfl)

theorem r7_9_11 {C : Ctx} {nt : Nat} (HH : HasA C) (c : ContractT) (n : Int) (i2 : Nat)  (P : Exit → St → Prop) (h : P .normal ⟨[(2, .ptr 0 0 0), (6, vI (i2 : Int)), (55, vB (decide ((i2 : Int) < (c.clauses.length : Int))))], [(0, .rows 7 [rowA (ContractT.row c)])], 43⟩) : awp C nt (.region false [] ri7_9 (some [2, 6, 55])) P ⟨[(2, .ptr 0 0 0), (6, vI (i2 : Int))], [(0, .rows 7 [rowA (ContractT.row c)])], 38⟩ := by
  exact reg_fast [.n (c.clauses.length : Int)] (AllP.cons (len_side ClauseT.row c.clauses) .nil) h (by kernel_rfl)

theorem r7_10_12 {C : Ctx} {nt : Nat} (HH : HasA C) (c : ContractT) (n : Int) (i2 : Nat) (e2 : ClauseT) (he2 : idxI c.clauses (i2 : Int) = some e2) (P : Exit → St → Prop) (h : P .normal ⟨[(2, .ptr 0 0 0), (6, vI (i2 : Int)), (65, vB (decide (10 < (e2.start.length : Int))))], [(0, .rows 7 [rowA (ContractT.row c)])], 51⟩) : awp C nt (.region false [] ri7_10 (some [2, 6, 65])) P ⟨[(2, .ptr 0 0 0), (6, vI (i2 : Int)), (55, vB (decide ((i2 : Int) < (c.clauses.length : Int))))], [(0, .rows 7 [rowA (ContractT.row c)])], 43⟩ := by
  exact reg_fast [.r (ClauseT.row e2), .n (e2.start.length : Int)] (AllP.cons (idx_side ClauseT.row he2) (.cons (len_side CondT.row e2.start) .nil)) h (by kernel_rfl)

theorem r7_11_13 {C : Ctx} {nt : Nat} (HH : HasA C) (c : ContractT) (i2 : Nat) (e2 : ClauseT)  (P : Exit → St → Prop) (h : P .normal ⟨[(4, vB false)], [(0, .rows 7 [rowA (ContractT.row c)])], 52⟩) : awp C nt (.region false [] ri7_11 (some [4])) P ⟨[(2, .ptr 0 0 0), (6, vI (i2 : Int)), (65, vB (decide (10 < (e2.start.length : Int))))], [(0, .rows 7 [rowA (ContractT.row c)])], 51⟩ := by
  exact reg_fast [] AllP.nil h (by kernel_rfl)

theorem r7_12_14 {C : Ctx} {nt : Nat} (HH : HasA C) (c : ContractT) (i2 : Nat) (e2 : ClauseT)  (P : Exit → St → Prop) (h : P .normal ⟨[(2, .ptr 0 0 0), (6, vI (IntKind.i64.wrap ((i2 : Int) + 1)))], [(0, .rows 7 [rowA (ContractT.row c)])], 54⟩) : awp C nt (.region false [] ri7_12 (some [2, 6])) P ⟨[(2, .ptr 0 0 0), (6, vI (i2 : Int)), (65, vB (decide (10 < (e2.start.length : Int))))], [(0, .rows 7 [rowA (ContractT.row c)])], 51⟩ := by
  exact reg_fast [] AllP.nil h (by kernel_rfl)

theorem r7_9_15 {C : Ctx} {nt : Nat} (HH : HasA C) (c : ContractT) (n : Int) (i2 : Nat)  (P : Exit → St → Prop) (h : P .normal ⟨[(2, .ptr 0 0 0), (6, vI (i2 : Int)), (55, vB (decide ((i2 : Int) < (c.clauses.length : Int))))], [(0, .rows 7 [rowA (ContractT.row c)])], 43⟩) : awp C nt (.region false [] ri7_9 (some [2, 6, 55])) P ⟨[(2, .ptr 0 0 0), (6, vI (i2 : Int))], [(0, .rows 7 [rowA (ContractT.row c)])], 38⟩ := by
  exact reg_fast [.n (c.clauses.length : Int)] (AllP.cons (len_side ClauseT.row c.clauses) .nil) h (by kernel_rfl)

theorem r7_13_16 {C : Ctx} {nt : Nat} (HH : HasA C) (c : ContractT) (i2 : Nat)  (P : Exit → St → Prop) (h : P .normal ⟨[(4, vB true)], [(0, .rows 7 [rowA (ContractT.row c)])], 44⟩) : awp C nt (.region false [] ri7_13 (some [4])) P ⟨[(2, .ptr 0 0 0), (6, vI (i2 : Int)), (55, vB (decide ((i2 : Int) < (c.clauses.length : Int))))], [(0, .rows 7 [rowA (ContractT.row c)])], 43⟩ := by
  exact reg_fast [] AllP.nil h (by kernel_rfl)

noncomputable def d_Few (c : ContractT) (n : Int) : Option Bool :=
  (Option.bind (bif decide (13 < (c.holders.length : Int)) then some true else (bif decide (21 < (c.units.length : Int)) then some true else (bif decide (61 < (c.acts.length : Int)) then some true else (bif decide (n < (c.clauses.length : Int)) then some true else some (decide (100 < (c.off.length : Int))))))) fun v1 => (bif v1 then some false else (Option.bind (forR (σ := Unit) (ρ := Unit) (c.units.length : Int) (fun i1 s1 => (Option.bind (idxI c.units (i1 : Int)) fun e1 => (bif decide (60 < (e1.name.size : Int)) then some (.inr ()) else some (.inl ())))) ()) (Sum.elim (fun (s1 : Unit) => (Option.bind (forR (σ := Unit) (ρ := Unit) (c.clauses.length : Int) (fun i2 s2 => (Option.bind (idxI c.clauses (i2 : Int)) fun e2 => (bif decide (10 < (e2.start.length : Int)) then some (.inr ()) else some (.inl ())))) ()) (Sum.elim (fun (s2 : Unit) => some true) (fun (y2 : Unit) => some false)))) (fun (y1 : Unit) => some false)))))
set_option maxHeartbeats 4000000 in
theorem t_Few {C : Ctx} (HH : HasA C) (c : ContractT) (n : Int) (res : Bool) (hd : d_Few c n = some res) : APure C 7 [.agg (ContractT.row c), .int .i64 n] (.bool res) := by
  refine APure.start HH.h7 5 (by simp [af7]) ?_
  unfold d_Few at hd
  show awp C _ af7.body (EndsR af7.results _) ⟨[(0, .imm (.agg (ContractT.row c))), (1, vI n)], [], 0⟩
  refine awp_seq ?_
  refine r7_0_1 HH c n _ ?_
  refine then_n ?_
  refine awp_seq ?_
  refine awp_seq ?_
  obtain ⟨v1, hv1, hd_1⟩ := obind hd; clear hd
  refine r7_1_2 HH c n v1 hv1 _ ?_
  clear hv1
  refine then_n ?_
  refine awp_if v1 rfl (fun g => ?_) (fun g => ?_)
  · replace hd_1 := cond_t g hd_1
    refine awp_seq ?_
    refine r7_2_3 HH c v1 _ ?_
    refine then_n ?_
    refine awp_ret ?_
    refine then_r ?_
    have ee := Option.some.inj hd_1; subst ee
    exact end_ret (by kernel_rfl)
  · replace hd_1 := cond_f g hd_1
    refine awp_skip ?_
    refine then_n ?_
    refine awp_seq ?_
    refine awp_seq ?_
    refine r7_3_4 HH c v1 _ ?_
    refine then_n ?_
    refine awp_block ?_
    obtain ⟨o1, hl_o1, hd_2⟩ := obind hd_1; clear hd_1
    refine awp_forR hl_o1 (fun i1 s1 => [(2, .ptr 0 0 0), (5, vI (i1 : Int))]) (fun i1 s1 => [(0, .rows 7 [rowA (ContractT.row c)])]) ?_ ?_ ?_
    · exact weak_run [2, 5] [(0, true)] 32 [] [] AllP.nil (by kernel_rfl)
    · intro i1 s1 o hi_i1 hw_i1 hs_s1
      refine awp_seq ?_
      refine awp_seq ?_
      refine r7_4_5 HH c n i1 _ ?_
      refine then_n ?_
      refine awp_ifT (by simp [*]) ?_
      refine awp_skip ?_
      refine then_n ?_
      refine awp_seq ?_
      refine awp_block ?_
      refine awp_seq ?_
      obtain ⟨e1, he1, hs_s1_1⟩ := obind hs_s1; clear hs_s1
      refine r7_5_6 HH c i1 e1 he1 _ ?_
      clear he1
      refine then_n ?_
      refine awp_if (decide (60 < (e1.name.size : Int))) rfl (fun g => ?_) (fun g => ?_)
      · replace hs_s1_1 := cond_t g hs_s1_1
        refine awp_seq ?_
        refine r7_6_7 HH c i1 e1 _ ?_
        refine then_n ?_
        refine awp_ret ?_
        refine inb_r ?_
        refine then_r ?_
        cases hs_s1_1
        refine ⟨_, rfl, fun hq => ?_⟩
        subst hq
        replace hd_2 := sel_r hd_2
        refine inb_r ?_
        refine then_r ?_
        have ee := Option.some.inj hd_2; subst ee
        exact end_ret (by kernel_rfl)
      · replace hs_s1_1 := cond_f g hs_s1_1
        refine awp_skip ?_
        refine inb_n ?_
        refine then_n ?_
        refine r7_7_8 HH c i1 e1 _ ?_
        cases hs_s1_1
        exact ⟨_, rfl, weak_run [2, 5] [(0, true)] 32 [(5, vI (((i1 + 1 : Nat) : Int)))] [] (AllP.cons (ov_int hw_i1) .nil) (by kernel_rfl)⟩
    · intro i1 s1 hi_i1 ho
      subst ho
      replace hd_2 := sel_l hd_2
      refine awp_seq ?_
      refine awp_seq ?_
      refine r7_4_9 HH c n i1 _ ?_
      refine then_n ?_
      refine awp_ifF (by simp [*]) ?_
      refine awp_exit ?_
      refine then_x ?_
      refine then_x ?_
      refine inb_eq ?_
      refine then_n ?_
      refine awp_seq ?_
      refine awp_seq ?_
      refine r7_8_10 HH c i1 _ ?_
      refine then_n ?_
      refine awp_block ?_
      obtain ⟨o2, hl_o2, hd_3⟩ := obind hd_2; clear hd_2
      refine awp_forR hl_o2 (fun i2 s2 => [(2, .ptr 0 0 0), (6, vI (i2 : Int))]) (fun i2 s2 => [(0, .rows 7 [rowA (ContractT.row c)])]) ?_ ?_ ?_
      · exact weak_run [2, 6] [(0, true)] 38 [] [] AllP.nil (by kernel_rfl)
      · intro i2 s2 o hi_i2 hw_i2 hs_s2
        refine awp_seq ?_
        refine awp_seq ?_
        refine r7_9_11 HH c n i2 _ ?_
        refine then_n ?_
        refine awp_ifT (by simp [*]) ?_
        refine awp_skip ?_
        refine then_n ?_
        refine awp_seq ?_
        refine awp_block ?_
        refine awp_seq ?_
        obtain ⟨e2, he2, hs_s2_1⟩ := obind hs_s2; clear hs_s2
        refine r7_10_12 HH c n i2 e2 he2 _ ?_
        clear he2
        refine then_n ?_
        refine awp_if (decide (10 < (e2.start.length : Int))) rfl (fun g => ?_) (fun g => ?_)
        · replace hs_s2_1 := cond_t g hs_s2_1
          refine awp_seq ?_
          refine r7_11_13 HH c i2 e2 _ ?_
          refine then_n ?_
          refine awp_ret ?_
          refine inb_r ?_
          refine then_r ?_
          cases hs_s2_1
          refine ⟨_, rfl, fun hq => ?_⟩
          subst hq
          replace hd_3 := sel_r hd_3
          refine inb_r ?_
          refine then_r ?_
          have ee := Option.some.inj hd_3; subst ee
          exact end_ret (by kernel_rfl)
        · replace hs_s2_1 := cond_f g hs_s2_1
          refine awp_skip ?_
          refine inb_n ?_
          refine then_n ?_
          refine r7_12_14 HH c i2 e2 _ ?_
          cases hs_s2_1
          exact ⟨_, rfl, weak_run [2, 6] [(0, true)] 38 [(6, vI (((i2 + 1 : Nat) : Int)))] [] (AllP.cons (ov_int hw_i2) .nil) (by kernel_rfl)⟩
      · intro i2 s2 hi_i2 ho
        subst ho
        replace hd_3 := sel_l hd_3
        refine awp_seq ?_
        refine awp_seq ?_
        refine r7_9_15 HH c n i2 _ ?_
        refine then_n ?_
        refine awp_ifF (by simp [*]) ?_
        refine awp_exit ?_
        refine then_x ?_
        refine then_x ?_
        refine inb_eq ?_
        refine then_n ?_
        refine awp_seq ?_
        refine r7_13_16 HH c i2 _ ?_
        refine then_n ?_
        refine awp_ret ?_
        have ee := Option.some.inj hd_3; subst ee
        exact end_ret (by kernel_rfl)

end Go.Proofs.Ytgligibbgobmnaa
