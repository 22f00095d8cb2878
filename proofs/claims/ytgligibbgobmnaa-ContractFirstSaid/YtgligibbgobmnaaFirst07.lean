/-
  Functions of the program: their abstract code, what they compute (printed by a program of ours), and that they do so.
-/
import Derived.Test.YtgligibbgobmnaaFirst06
namespace Go.Proofs.Ytgligibbgobmnaa
open Go.RowKit
set_option linter.unusedVariables false
set_option linter.unusedSimpArgs false
set_option maxRecDepth 100000

theorem r18_0_1 {C : Ctx} {nt : Nat} (HH : HasA C) (a : List Int) (b : List Int)  (P : Exit → St → Prop) (h : P .normal ⟨[(0, .imm (.slice (List.map rowI a))), (1, .imm (.slice (List.map rowI b)))], [], 1⟩) : awp C nt (.region false [] ri18_0 (some [0, 1])) P ⟨[(0, .imm (.slice (List.map rowI a))), (1, .imm (.slice (List.map rowI b)))], [], 0⟩ := by
  exact reg_fast [] AllP.nil h (by kernel_rfl)

theorem r18_1_2 {C : Ctx} {nt : Nat} (HH : HasA C) (a : List Int) (b : List Int)  (P : Exit → St → Prop) (h : P .normal ⟨[(0, .imm (.slice (List.map rowI a))), (1, .imm (.slice (List.map rowI b))), (10, vB (!((a.length : Int) == (b.length : Int))))], [], 6⟩) : awp C nt (.region false [] ri18_1 (some [0, 1, 10])) P ⟨[(0, .imm (.slice (List.map rowI a))), (1, .imm (.slice (List.map rowI b)))], [], 1⟩ := by
  exact reg_fast [.n (a.length : Int), .n (b.length : Int)] (AllP.cons (len_side rowI a) (.cons (len_side rowI b) .nil)) h (by kernel_rfl)

theorem r18_2_3 {C : Ctx} {nt : Nat} (HH : HasA C) (a : List Int) (b : List Int)  (P : Exit → St → Prop) (h : P .normal ⟨[(4, vB false)], [], 7⟩) : awp C nt (.region false [] ri18_2 (some [4])) P ⟨[(0, .imm (.slice (List.map rowI a))), (1, .imm (.slice (List.map rowI b))), (10, vB (!((a.length : Int) == (b.length : Int))))], [], 6⟩ := by
  exact reg_fast [] AllP.nil h (by kernel_rfl)

theorem r18_3_4 {C : Ctx} {nt : Nat} (HH : HasA C) (a : List Int) (b : List Int)  (P : Exit → St → Prop) (h : P .normal ⟨[(0, .imm (.slice (List.map rowI a))), (1, .imm (.slice (List.map rowI b))), (5, vI 0)], [], 7⟩) : awp C nt (.region false [] ri18_3 (some [0, 1, 5])) P ⟨[(0, .imm (.slice (List.map rowI a))), (1, .imm (.slice (List.map rowI b))), (10, vB (!((a.length : Int) == (b.length : Int))))], [], 6⟩ := by
  exact reg_fast [] AllP.nil h (by kernel_rfl)

theorem r18_4_5 {C : Ctx} {nt : Nat} (HH : HasA C) (a : List Int) (b : List Int) (i1 : Nat)  (P : Exit → St → Prop) (h : P .normal ⟨[(0, .imm (.slice (List.map rowI a))), (1, .imm (.slice (List.map rowI b))), (5, vI (i1 : Int)), (14, vB (decide ((i1 : Int) < (a.length : Int))))], [], 11⟩) : awp C nt (.region false [] ri18_4 (some [0, 1, 5, 14])) P ⟨[(0, .imm (.slice (List.map rowI a))), (1, .imm (.slice (List.map rowI b))), (5, vI (i1 : Int))], [], 7⟩ := by
  exact reg_fast [.n (a.length : Int)] (AllP.cons (len_side rowI a) .nil) h (by kernel_rfl)

theorem r18_5_6 {C : Ctx} {nt : Nat} (HH : HasA C) (a : List Int) (b : List Int) (i1 : Nat) (e1 : Int) (he1 : idxI a (i1 : Int) = some e1) (e2 : Int) (he2 : idxI b (i1 : Int) = some e2) (P : Exit → St → Prop) (h : P .normal ⟨[(0, .imm (.slice (List.map rowI a))), (1, .imm (.slice (List.map rowI b))), (5, vI (i1 : Int)), (25, vB (!(e1 == e2)))], [], 20⟩) : awp C nt (.region true [0, 0, 3, 7, 0, 0, 48, 112, 255] ri18_5 (some [0, 1, 5, 25])) P ⟨[(0, .imm (.slice (List.map rowI a))), (1, .imm (.slice (List.map rowI b))), (5, vI (i1 : Int)), (14, vB (decide ((i1 : Int) < (a.length : Int))))], [], 11⟩ := by
  exact drw_fast [.r (rowI e1), .r (rowI e2)] (AllP.cons (idx_side rowI he1) (.cons (idx_side rowI he2) .nil)) h (by kernel_rfl)

theorem r18_6_7 {C : Ctx} {nt : Nat} (HH : HasA C) (a : List Int) (b : List Int) (i1 : Nat) (e1 : Int) (e2 : Int)  (P : Exit → St → Prop) (h : P .normal ⟨[(4, vB false)], [], 21⟩) : awp C nt (.region false [] ri18_6 (some [4])) P ⟨[(0, .imm (.slice (List.map rowI a))), (1, .imm (.slice (List.map rowI b))), (5, vI (i1 : Int)), (25, vB (!(e1 == e2)))], [], 20⟩ := by
  exact reg_fast [] AllP.nil h (by kernel_rfl)

theorem r18_7_8 {C : Ctx} {nt : Nat} (HH : HasA C) (a : List Int) (b : List Int) (i1 : Nat) (e1 : Int) (e2 : Int)  (P : Exit → St → Prop) (h : P .normal ⟨[(0, .imm (.slice (List.map rowI a))), (1, .imm (.slice (List.map rowI b))), (5, vI (IntKind.i64.wrap ((i1 : Int) + 1)))], [], 23⟩) : awp C nt (.region false [] ri18_7 (some [0, 1, 5])) P ⟨[(0, .imm (.slice (List.map rowI a))), (1, .imm (.slice (List.map rowI b))), (5, vI (i1 : Int)), (25, vB (!(e1 == e2)))], [], 20⟩ := by
  exact reg_fast [] AllP.nil h (by kernel_rfl)

theorem r18_4_9 {C : Ctx} {nt : Nat} (HH : HasA C) (a : List Int) (b : List Int) (i1 : Nat)  (P : Exit → St → Prop) (h : P .normal ⟨[(0, .imm (.slice (List.map rowI a))), (1, .imm (.slice (List.map rowI b))), (5, vI (i1 : Int)), (14, vB (decide ((i1 : Int) < (a.length : Int))))], [], 11⟩) : awp C nt (.region false [] ri18_4 (some [0, 1, 5, 14])) P ⟨[(0, .imm (.slice (List.map rowI a))), (1, .imm (.slice (List.map rowI b))), (5, vI (i1 : Int))], [], 7⟩ := by
  exact reg_fast [.n (a.length : Int)] (AllP.cons (len_side rowI a) .nil) h (by kernel_rfl)

theorem r18_8_10 {C : Ctx} {nt : Nat} (HH : HasA C) (a : List Int) (b : List Int) (i1 : Nat)  (P : Exit → St → Prop) (h : P .normal ⟨[(4, vB true)], [], 12⟩) : awp C nt (.region false [] ri18_8 (some [4])) P ⟨[(0, .imm (.slice (List.map rowI a))), (1, .imm (.slice (List.map rowI b))), (5, vI (i1 : Int)), (14, vB (decide ((i1 : Int) < (a.length : Int))))], [], 11⟩ := by
  exact reg_fast [] AllP.nil h (by kernel_rfl)

noncomputable def d_Ints (a : List Int) (b : List Int) : Option Bool :=
  (bif ((a.length : Int) == (b.length : Int)) then (Option.bind (forR (σ := Unit) (ρ := Unit) (a.length : Int) (fun i1 s1 => (Option.bind (idxI a (i1 : Int)) fun e1 => (Option.bind (idxI b (i1 : Int)) fun e2 => (bif (e1 == e2) then some (.inl ()) else some (.inr ()))))) ()) (Sum.elim (fun (s1 : Unit) => some true) (fun (y1 : Unit) => some false))) else some false)
set_option maxHeartbeats 4000000 in
theorem t_Ints {C : Ctx} (HH : HasA C) (a : List Int) (b : List Int) (res : Bool) (hd : d_Ints a b = some res) : APure C 18 [.slice (List.map rowI a), .slice (List.map rowI b)] (.bool res) := by
  refine APure.start HH.h18 5 (by simp [af18]) ?_
  unfold d_Ints at hd
  show awp C _ af18.body (EndsR af18.results _) ⟨[(0, .imm (.slice (List.map rowI a))), (1, .imm (.slice (List.map rowI b)))], [], 0⟩
  refine awp_seq ?_
  refine r18_0_1 HH a b _ ?_
  refine then_n ?_
  refine awp_seq ?_
  refine awp_seq ?_
  refine r18_1_2 HH a b _ ?_
  refine then_n ?_
  refine awp_ifN ((a.length : Int) == (b.length : Int)) rfl (fun g => ?_) (fun g => ?_)
  · replace hd := cond_f g hd
    refine awp_seq ?_
    refine r18_2_3 HH a b _ ?_
    refine then_n ?_
    refine awp_ret ?_
    refine then_r ?_
    have ee := Option.some.inj hd; subst ee
    exact end_ret (by kernel_rfl)
  · replace hd := cond_t g hd
    refine awp_skip ?_
    refine then_n ?_
    refine awp_seq ?_
    refine awp_seq ?_
    refine r18_3_4 HH a b _ ?_
    refine then_n ?_
    refine awp_block ?_
    obtain ⟨o1, hl_o1, hd_1⟩ := obind hd; clear hd
    refine awp_forR hl_o1 (fun i1 s1 => [(0, .imm (.slice (List.map rowI a))), (1, .imm (.slice (List.map rowI b))), (5, vI (i1 : Int))]) (fun i1 s1 => []) ?_ ?_ ?_
    · exact weak_run [0, 1, 5] [] 7 [] [] AllP.nil (by kernel_rfl)
    · intro i1 s1 o hi_i1 hw_i1 hs_s1
      refine awp_seq ?_
      refine awp_seq ?_
      refine r18_4_5 HH a b i1 _ ?_
      refine then_n ?_
      refine awp_ifT (by simp [*]) ?_
      refine awp_skip ?_
      refine then_n ?_
      refine awp_seq ?_
      refine awp_block ?_
      refine awp_seq ?_
      obtain ⟨e1, he1, hs_s1_1⟩ := obind hs_s1; clear hs_s1
      obtain ⟨e2, he2, hs_s1_2⟩ := obind hs_s1_1; clear hs_s1_1
      refine r18_5_6 HH a b i1 e1 he1 e2 he2 _ ?_
      clear he1 he2
      refine then_n ?_
      refine awp_ifN (e1 == e2) rfl (fun g => ?_) (fun g => ?_)
      · replace hs_s1_2 := cond_f g hs_s1_2
        refine awp_seq ?_
        refine r18_6_7 HH a b i1 e1 e2 _ ?_
        refine then_n ?_
        refine awp_ret ?_
        refine inb_r ?_
        refine then_r ?_
        cases hs_s1_2
        refine ⟨_, rfl, fun hq => ?_⟩
        subst hq
        replace hd_1 := sel_r hd_1
        refine inb_r ?_
        refine then_r ?_
        have ee := Option.some.inj hd_1; subst ee
        exact end_ret (by kernel_rfl)
      · replace hs_s1_2 := cond_t g hs_s1_2
        refine awp_skip ?_
        refine inb_n ?_
        refine then_n ?_
        refine r18_7_8 HH a b i1 e1 e2 _ ?_
        cases hs_s1_2
        exact ⟨_, rfl, weak_run [0, 1, 5] [] 7 [(5, vI (((i1 + 1 : Nat) : Int)))] [] (AllP.cons (ov_int hw_i1) .nil) (by kernel_rfl)⟩
    · intro i1 s1 hi_i1 ho
      subst ho
      replace hd_1 := sel_l hd_1
      refine awp_seq ?_
      refine awp_seq ?_
      refine r18_4_9 HH a b i1 _ ?_
      refine then_n ?_
      refine awp_ifF (by simp [*]) ?_
      refine awp_exit ?_
      refine then_x ?_
      refine then_x ?_
      refine inb_eq ?_
      refine then_n ?_
      refine awp_seq ?_
      refine r18_8_10 HH a b i1 _ ?_
      refine then_n ?_
      refine awp_ret ?_
      have ee := Option.some.inj hd_1; subst ee
      exact end_ret (by kernel_rfl)

theorem r25_0_1 {C : Ctx} {nt : Nat} (HH : HasA C) (k : ClauseT)  (P : Exit → St → Prop) (h : P .normal ⟨[(1, .ptr 0 0 0)], [(0, .rows 16 [rowA (ClauseT.row k)])], 2⟩) : awp C nt (.region false [] ri25_0 (some [1])) P ⟨[(0, .imm (.agg (ClauseT.row k)))], [], 0⟩ := by
  exact reg_fast [] AllP.nil h (by kernel_rfl)

theorem r25_1_2 {C : Ctx} {nt : Nat} (HH : HasA C) (k : ClauseT)  (P : Exit → St → Prop) (h : P .normal ⟨[(1, .ptr 0 0 0), (5, vB (k.pause == (-1)))], [(0, .rows 16 [rowA (ClauseT.row k)])], 5⟩) : awp C nt (.region false [] ri25_1 (some [1, 5])) P ⟨[(1, .ptr 0 0 0)], [(0, .rows 16 [rowA (ClauseT.row k)])], 2⟩ := by
  exact reg_fast [] AllP.nil h (by kernel_rfl)

theorem r25_2_3 {C : Ctx} {nt : Nat} (HH : HasA C) (k : ClauseT)  (P : Exit → St → Prop) (h : P .normal ⟨[(2, .mslice 7 0 1)], [(0, .rows 16 [rowA (ClauseT.row k)]), (7, .rows 1 [[vI k.act]])], 9⟩) : awp C nt (.region false [] ri25_2 (some [2])) P ⟨[(1, .ptr 0 0 0), (5, vB (k.pause == (-1)))], [(0, .rows 16 [rowA (ClauseT.row k)])], 5⟩ := by
  exact reg_fast [] AllP.nil h (by kernel_rfl)

theorem r25_3_4 {C : Ctx} {nt : Nat} (HH : HasA C) (k : ClauseT)  (P : Exit → St → Prop) (h : P .normal ⟨[(2, .mslice 11 0 3)], [(0, .rows 16 [rowA (ClauseT.row k)]), (11, .rows 1 [[vI k.act], [vI k.pause], [vI k.resume]])], 13⟩) : awp C nt (.region false [] ri25_3 (some [2])) P ⟨[(1, .ptr 0 0 0), (5, vB (k.pause == (-1)))], [(0, .rows 16 [rowA (ClauseT.row k)])], 5⟩ := by
  exact reg_fast [] AllP.nil h (by kernel_rfl)

noncomputable def d_numbers (k : ClauseT) : Option (List Int) :=
  (bif (k.pause == (-1)) then some [k.act] else some [k.act, k.pause, k.resume])
set_option maxHeartbeats 4000000 in
theorem t_numbers {C : Ctx} (HH : HasA C) (k : ClauseT) (res : List Int) (hd : d_numbers k = some res) : APure C 25 [.agg (ClauseT.row k)] (.slice (List.map rowI res)) := by
  refine APure.start HH.h25 5 (by simp [af25]) ?_
  unfold d_numbers at hd
  show awp C _ af25.body (EndsR af25.results _) ⟨[(0, .imm (.agg (ClauseT.row k)))], [], 0⟩
  refine awp_seq ?_
  refine r25_0_1 HH k _ ?_
  refine then_n ?_
  refine awp_seq ?_
  refine awp_seq ?_
  refine r25_1_2 HH k _ ?_
  refine then_n ?_
  refine awp_if (k.pause == (-1)) rfl (fun g => ?_) (fun g => ?_)
  · replace hd := cond_t g hd
    refine awp_seq ?_
    refine r25_2_3 HH k _ ?_
    refine then_n ?_
    refine awp_ret ?_
    refine then_r ?_
    have ee := Option.some.inj hd; subst ee
    exact end_ret (by kernel_rfl)
  · replace hd := cond_f g hd
    refine awp_skip ?_
    refine then_n ?_
    refine awp_seq ?_
    refine r25_3_4 HH k _ ?_
    refine then_n ?_
    refine awp_ret ?_
    have ee := Option.some.inj hd; subst ee
    exact end_ret (by kernel_rfl)

theorem r50_0_1 {C : Ctx} {nt : Nat} (HH : HasA C) (l : List Int) (v : Int)  (P : Exit → St → Prop) (h : P .normal ⟨[(0, .imm (.slice (List.map rowI l))), (1, vI v)], [], 1⟩) : awp C nt (.region false [] ri50_0 (some [0, 1])) P ⟨[(0, .imm (.slice (List.map rowI l))), (1, vI v)], [], 0⟩ := by
  exact reg_fast [] AllP.nil h (by kernel_rfl)

theorem r50_1_2 {C : Ctx} {nt : Nat} (HH : HasA C) (l : List Int) (v : Int)  (P : Exit → St → Prop) (h : P .normal ⟨[(0, .imm (.slice (List.map rowI l))), (1, vI v), (7, vI (l.length : Int)), (8, vI 0)], [], 4⟩) : awp C nt (.region false [] ri50_1 (some [0, 1, 7, 8])) P ⟨[(0, .imm (.slice (List.map rowI l))), (1, vI v)], [], 1⟩ := by
  exact reg_fast [.n (l.length : Int)] (AllP.cons (len_side rowI l) .nil) h (by kernel_rfl)

theorem r50_2_3 {C : Ctx} {nt : Nat} (HH : HasA C) (l : List Int) (v : Int) (i1 : Nat)  (P : Exit → St → Prop) (h : P .normal ⟨[(0, .imm (.slice (List.map rowI l))), (1, vI v), (7, vI (l.length : Int)), (8, vI (i1 : Int)), (9, vB (decide ((i1 : Int) < (l.length : Int))))], [], 5⟩) : awp C nt (.region false [] ri50_2 (some [0, 1, 7, 8, 9])) P ⟨[(0, .imm (.slice (List.map rowI l))), (1, vI v), (7, vI (l.length : Int)), (8, vI (i1 : Int))], [], 4⟩ := by
  exact reg_fast [] AllP.nil h (by kernel_rfl)

theorem r50_3_4 {C : Ctx} {nt : Nat} (HH : HasA C) (l : List Int) (v : Int) (i1 : Nat)  (P : Exit → St → Prop) (h : P .normal ⟨[(0, .imm (.slice (List.map rowI l))), (1, vI v), (7, vI (l.length : Int)), (8, vI (i1 : Int)), (5, vI (i1 : Int))], [], 7⟩) : awp C nt (.region false [] ri50_3 (some [0, 1, 5, 7, 8])) P ⟨[(0, .imm (.slice (List.map rowI l))), (1, vI v), (7, vI (l.length : Int)), (8, vI (i1 : Int)), (9, vB (decide ((i1 : Int) < (l.length : Int))))], [], 5⟩ := by
  exact reg_fast [] AllP.nil h (by kernel_rfl)

theorem r50_4_5 {C : Ctx} {nt : Nat} (HH : HasA C) (l : List Int) (v : Int) (i1 : Nat) (e1 : Int) (he1 : idxI l (i1 : Int) = some e1) (P : Exit → St → Prop) (h : P .normal ⟨[(0, .imm (.slice (List.map rowI l))), (1, vI v), (7, vI (l.length : Int)), (8, vI (i1 : Int)), (5, vI (i1 : Int)), (16, vB (v == e1))], [], 13⟩) : awp C nt (.region false [] ri50_4 (some [0, 1, 5, 7, 8, 16])) P ⟨[(0, .imm (.slice (List.map rowI l))), (1, vI v), (7, vI (l.length : Int)), (8, vI (i1 : Int)), (5, vI (i1 : Int))], [], 7⟩ := by
  exact reg_fast [.r (rowI e1)] (AllP.cons (idx_side rowI he1) .nil) h (by kernel_rfl)

theorem r50_5_6 {C : Ctx} {nt : Nat} (HH : HasA C) (l : List Int) (v : Int) (i1 : Nat) (e1 : Int)  (P : Exit → St → Prop) (h : P .normal ⟨[(4, vI (i1 : Int))], [], 15⟩) : awp C nt (.region false [] ri50_5 (some [4])) P ⟨[(0, .imm (.slice (List.map rowI l))), (1, vI v), (7, vI (l.length : Int)), (8, vI (i1 : Int)), (5, vI (i1 : Int)), (16, vB (v == e1))], [], 13⟩ := by
  exact reg_fast [] AllP.nil h (by kernel_rfl)

theorem r50_6_7 {C : Ctx} {nt : Nat} (HH : HasA C) (l : List Int) (v : Int) (i1 : Nat) (e1 : Int)  (P : Exit → St → Prop) (h : P .normal ⟨[(0, .imm (.slice (List.map rowI l))), (1, vI v), (7, vI (l.length : Int)), (8, vI (IntKind.i64.wrap ((i1 : Int) + 1)))], [], 15⟩) : awp C nt (.region false [] ri50_6 (some [0, 1, 7, 8])) P ⟨[(0, .imm (.slice (List.map rowI l))), (1, vI v), (7, vI (l.length : Int)), (8, vI (i1 : Int)), (5, vI (i1 : Int)), (16, vB (v == e1))], [], 13⟩ := by
  exact reg_fast [] AllP.nil h (by kernel_rfl)

theorem r50_2_8 {C : Ctx} {nt : Nat} (HH : HasA C) (l : List Int) (v : Int) (i1 : Nat)  (P : Exit → St → Prop) (h : P .normal ⟨[(0, .imm (.slice (List.map rowI l))), (1, vI v), (7, vI (l.length : Int)), (8, vI (i1 : Int)), (9, vB (decide ((i1 : Int) < (l.length : Int))))], [], 5⟩) : awp C nt (.region false [] ri50_2 (some [0, 1, 7, 8, 9])) P ⟨[(0, .imm (.slice (List.map rowI l))), (1, vI v), (7, vI (l.length : Int)), (8, vI (i1 : Int))], [], 4⟩ := by
  exact reg_fast [] AllP.nil h (by kernel_rfl)

theorem r50_7_9 {C : Ctx} {nt : Nat} (HH : HasA C) (l : List Int) (v : Int) (i1 : Nat)  (P : Exit → St → Prop) (h : P .normal ⟨[(4, vI (-1))], [], 6⟩) : awp C nt (.region false [] ri50_7 (some [4])) P ⟨[(0, .imm (.slice (List.map rowI l))), (1, vI v), (7, vI (l.length : Int)), (8, vI (i1 : Int)), (9, vB (decide ((i1 : Int) < (l.length : Int))))], [], 5⟩ := by
  exact reg_fast [] AllP.nil h (by kernel_rfl)

noncomputable def d_Index (l : List Int) (v : Int) : Option Int :=
  (Option.bind (forR (σ := Unit) (ρ := Int) (l.length : Int) (fun i1 s1 => (Option.bind (idxI l (i1 : Int)) fun e1 => (bif (v == e1) then some (.inr (i1 : Int)) else some (.inl ())))) ()) (Sum.elim (fun (s1 : Unit) => some (-1)) (fun (y1 : Int) => some y1)))
set_option maxHeartbeats 4000000 in
theorem t_Index {C : Ctx} (HH : HasA C) (l : List Int) (v : Int) (res : Int) (hd : d_Index l v = some res) : APure C 50 [.slice (List.map rowI l), .int .i64 v] (.int .i64 res) := by
  refine APure.start HH.h50 5 (by simp [af50]) ?_
  unfold d_Index at hd
  show awp C _ af50.body (EndsR af50.results _) ⟨[(0, .imm (.slice (List.map rowI l))), (1, vI v)], [], 0⟩
  refine awp_seq ?_
  refine r50_0_1 HH l v _ ?_
  refine then_n ?_
  refine awp_seq ?_
  refine awp_seq ?_
  refine r50_1_2 HH l v _ ?_
  refine then_n ?_
  refine awp_block ?_
  obtain ⟨o1, hl_o1, hd_1⟩ := obind hd; clear hd
  refine awp_forR hl_o1 (fun i1 s1 => [(0, .imm (.slice (List.map rowI l))), (1, vI v), (7, vI (l.length : Int)), (8, vI (i1 : Int))]) (fun i1 s1 => []) ?_ ?_ ?_
  · exact weak_run [0, 1, 7, 8] [] 4 [] [] AllP.nil (by kernel_rfl)
  · intro i1 s1 o hi_i1 hw_i1 hs_s1
    refine awp_seq ?_
    refine r50_2_3 HH l v i1 _ ?_
    refine then_n ?_
    refine awp_seq ?_
    refine awp_ifT (by simp [*]) ?_
    refine awp_skip ?_
    refine then_n ?_
    refine awp_seq ?_
    refine awp_block ?_
    refine awp_seq ?_
    refine r50_3_4 HH l v i1 _ ?_
    refine then_n ?_
    refine awp_seq ?_
    obtain ⟨e1, he1, hs_s1_1⟩ := obind hs_s1; clear hs_s1
    refine r50_4_5 HH l v i1 e1 he1 _ ?_
    clear he1
    refine then_n ?_
    refine awp_if (v == e1) rfl (fun g => ?_) (fun g => ?_)
    · replace hs_s1_1 := cond_t g hs_s1_1
      refine awp_seq ?_
      refine r50_5_6 HH l v i1 e1 _ ?_
      refine then_n ?_
      refine awp_ret ?_
      refine inb_r ?_
      refine then_r ?_
      cases hs_s1_1
      refine ⟨_, rfl, fun hq => ?_⟩
      subst hq
      replace hd_1 := sel_r hd_1
      refine inb_r ?_
      refine then_r ?_
      have ee := Option.some.inj hd_1; subst ee
      exact end_ret (by kernel_rfl)
    · replace hs_s1_1 := cond_f g hs_s1_1
      refine awp_skip ?_
      refine inb_n ?_
      refine then_n ?_
      refine r50_6_7 HH l v i1 e1 _ ?_
      cases hs_s1_1
      exact ⟨_, rfl, weak_run [0, 1, 7, 8] [] 4 [(8, vI (((i1 + 1 : Nat) : Int)))] [] (AllP.cons (ov_int hw_i1) .nil) (by kernel_rfl)⟩
  · intro i1 s1 hi_i1 ho
    subst ho
    replace hd_1 := sel_l hd_1
    refine awp_seq ?_
    refine r50_2_8 HH l v i1 _ ?_
    refine then_n ?_
    refine awp_seq ?_
    refine awp_ifF (by simp [*]) ?_
    refine awp_exit ?_
    refine then_x ?_
    refine then_x ?_
    refine inb_eq ?_
    refine then_n ?_
    refine awp_seq ?_
    refine r50_7_9 HH l v i1 _ ?_
    refine then_n ?_
    refine awp_ret ?_
    have ee := Option.some.inj hd_1; subst ee
    exact end_ret (by kernel_rfl)

theorem r28_0_1 {C : Ctx} {nt : Nat} (HH : HasA C) (l : List Int) (v : Int)  (P : Exit → St → Prop) (h : P .normal ⟨[(0, .imm (.slice (List.map rowI l))), (1, vI v)], [], 1⟩) : awp C nt (.region false [] ri28_0 (some [0, 1])) P ⟨[(0, .imm (.slice (List.map rowI l))), (1, vI v)], [], 0⟩ := by
  exact reg_fast [] AllP.nil h (by kernel_rfl)

theorem r28_1_2 {C : Ctx} {nt : Nat} (HH : HasA C) (l : List Int) (v : Int) (r1 : Int) (hr1 : d_Index l v = some r1) (P : Exit → St → Prop) (h : P .normal ⟨[(4, vB (decide (0 ≤ r1)))], [], 6⟩) : awp C nt (.region false [] ri28_1 (some [4])) P ⟨[(0, .imm (.slice (List.map rowI l))), (1, vI v)], [], 1⟩ := by
  exact reg_fast [.v (.int .i64 r1)] (AllP.cons (t_Index HH l v r1 hr1) .nil) h (by kernel_rfl)

noncomputable def d_Contains (l : List Int) (v : Int) : Option Bool :=
  (Option.bind (d_Index l v) fun r1 => some (decide (0 ≤ r1)))
set_option maxHeartbeats 4000000 in
theorem t_Contains {C : Ctx} (HH : HasA C) (l : List Int) (v : Int) (res : Bool) (hd : d_Contains l v = some res) : APure C 28 [.slice (List.map rowI l), .int .i64 v] (.bool res) := by
  refine APure.start HH.h28 5 (by simp [af28]) ?_
  unfold d_Contains at hd
  show awp C _ af28.body (EndsR af28.results _) ⟨[(0, .imm (.slice (List.map rowI l))), (1, vI v)], [], 0⟩
  refine awp_seq ?_
  refine r28_0_1 HH l v _ ?_
  refine then_n ?_
  refine awp_seq ?_
  obtain ⟨r1, hr1, hd_1⟩ := obind hd; clear hd
  refine r28_1_2 HH l v r1 hr1 _ ?_
  clear hr1
  refine then_n ?_
  refine awp_ret ?_
  have ee := Option.some.inj hd_1; subst ee
  exact end_ret (by kernel_rfl)

theorem r56_0_1 {C : Ctx} {nt : Nat} (HH : HasA C) (x : Int)  (P : Exit → St → Prop) (h : P .normal ⟨[(0, vI x)], [], 1⟩) : awp C nt (.region false [] ri56_0 (some [0])) P ⟨[(0, vI x)], [], 0⟩ := by
  exact reg_fast [] AllP.nil h (by kernel_rfl)

theorem r56_1_2 {C : Ctx} {nt : Nat} (HH : HasA C) (x : Int)  (P : Exit → St → Prop) (h : P .normal ⟨[(2, vB (!(x == x)))], [], 5⟩) : awp C nt (.region false [] ri56_1 (some [2])) P ⟨[(0, vI x)], [], 1⟩ := by
  exact reg_fast [] AllP.nil h (by kernel_rfl)

noncomputable def d_isNaN2 (x : Int) : Option Bool :=
  some (!(x == x))
set_option maxHeartbeats 4000000 in
theorem t_isNaN2 {C : Ctx} (HH : HasA C) (x : Int) (res : Bool) (hd : d_isNaN2 x = some res) : APure C 56 [.int .i64 x] (.bool res) := by
  refine APure.start HH.h56 5 (by simp [af56]) ?_
  unfold d_isNaN2 at hd
  show awp C _ af56.body (EndsR af56.results _) ⟨[(0, vI x)], [], 0⟩
  refine awp_seq ?_
  refine r56_0_1 HH x _ ?_
  refine then_n ?_
  refine awp_seq ?_
  refine r56_1_2 HH x _ ?_
  refine then_n ?_
  refine awp_ret ?_
  have ee := Option.some.inj hd; subst ee
  exact end_ret (by kernel_rfl)

theorem r52_0_1 {C : Ctx} {nt : Nat} (HH : HasA C) (x : Int) (y : Int)  (P : Exit → St → Prop) (h : P .normal ⟨[(0, vI x), (1, vI y)], [], 1⟩) : awp C nt (.region false [] ri52_0 (some [0, 1])) P ⟨[(0, vI x), (1, vI y)], [], 0⟩ := by
  exact reg_fast [] AllP.nil h (by kernel_rfl)

theorem r52_1_2 {C : Ctx} {nt : Nat} (HH : HasA C) (x : Int) (y : Int) (v1 : Bool) (hv1 : (Option.bind (d_isNaN2 x) fun r1 => (bif r1 then (Option.bind (d_isNaN2 y) fun r2 => (bif r2 then some (decide (x < y)) else some true)) else some (decide (x < y)))) = some v1) (P : Exit → St → Prop) (h : P .normal ⟨[(4, vB v1)], [], 14⟩) : awp C nt (.region false [] ri52_1 (some [4])) P ⟨[(0, vI x), (1, vI y)], [], 1⟩ := by
  obtain ⟨r1, hr1, hv1⟩ := obind hv1
  rcases grd hv1 with ⟨g1, hv1⟩ | ⟨g1, hv1⟩
  · skip
    obtain ⟨r2, hr2, hv1⟩ := obind hv1
    rcases grd hv1 with ⟨g2, hv1⟩ | ⟨g2, hv1⟩
    · skip
      have ee := Option.some.inj hv1; subst ee
      exact reg_fast [.v (.bool r1), .g true, .v (.bool r2), .g false] (AllP.cons (t_isNaN2 HH x r1 hr1) (.cons g1 (.cons (t_isNaN2 HH y r2 hr2) (.cons (not_side g2) .nil)))) h (by kernel_rfl)
    · skip
      have ee := Option.some.inj hv1; subst ee
      exact reg_fast [.v (.bool r1), .g true, .v (.bool r2), .g true] (AllP.cons (t_isNaN2 HH x r1 hr1) (.cons g1 (.cons (t_isNaN2 HH y r2 hr2) (.cons (not_side g2) .nil)))) h (by kernel_rfl)
  · skip
    have ee := Option.some.inj hv1; subst ee
    exact reg_fast [.v (.bool r1), .g false, .g false] (AllP.cons (t_isNaN2 HH x r1 hr1) (.cons g1 (.cons (rfl : false = false) .nil))) h (by kernel_rfl)

noncomputable def d_less (x : Int) (y : Int) : Option Bool :=
  (Option.bind (Option.bind (d_isNaN2 x) fun r1 => (bif r1 then (Option.bind (d_isNaN2 y) fun r2 => (bif r2 then some (decide (x < y)) else some true)) else some (decide (x < y)))) fun v1 => some v1)
set_option maxHeartbeats 4000000 in
theorem t_less {C : Ctx} (HH : HasA C) (x : Int) (y : Int) (res : Bool) (hd : d_less x y = some res) : APure C 52 [.int .i64 x, .int .i64 y] (.bool res) := by
  refine APure.start HH.h52 5 (by simp [af52]) ?_
  unfold d_less at hd
  show awp C _ af52.body (EndsR af52.results _) ⟨[(0, vI x), (1, vI y)], [], 0⟩
  refine awp_seq ?_
  refine r52_0_1 HH x y _ ?_
  refine then_n ?_
  refine awp_seq ?_
  obtain ⟨v1, hv1, hd_1⟩ := obind hd; clear hd
  refine r52_1_2 HH x y v1 hv1 _ ?_
  clear hv1
  refine then_n ?_
  refine awp_ret ?_
  have ee := Option.some.inj hd_1; subst ee
  exact end_ret (by kernel_rfl)

theorem r53_0_1 {C : Ctx} {nt : Nat} (HH : HasA C) (x : Int)  (P : Exit → St → Prop) (h : P .normal ⟨[(0, vI x)], [], 1⟩) : awp C nt (.region false [] ri53_0 (some [0])) P ⟨[(0, vI x)], [], 0⟩ := by
  exact reg_fast [] AllP.nil h (by kernel_rfl)

theorem r53_1_2 {C : Ctx} {nt : Nat} (HH : HasA C) (x : Int)  (P : Exit → St → Prop) (h : P .normal ⟨[(2, vB (!(x == x)))], [], 5⟩) : awp C nt (.region false [] ri53_1 (some [2])) P ⟨[(0, vI x)], [], 1⟩ := by
  exact reg_fast [] AllP.nil h (by kernel_rfl)

noncomputable def d_isNaN (x : Int) : Option Bool :=
  some (!(x == x))
set_option maxHeartbeats 4000000 in
theorem t_isNaN {C : Ctx} (HH : HasA C) (x : Int) (res : Bool) (hd : d_isNaN x = some res) : APure C 53 [.int .i64 x] (.bool res) := by
  refine APure.start HH.h53 5 (by simp [af53]) ?_
  unfold d_isNaN at hd
  show awp C _ af53.body (EndsR af53.results _) ⟨[(0, vI x)], [], 0⟩
  refine awp_seq ?_
  refine r53_0_1 HH x _ ?_
  refine then_n ?_
  refine awp_seq ?_
  refine r53_1_2 HH x _ ?_
  refine then_n ?_
  refine awp_ret ?_
  have ee := Option.some.inj hd; subst ee
  exact end_ret (by kernel_rfl)

theorem r38_0_1 {C : Ctx} {nt : Nat} (HH : HasA C) (l : List Int) (v : Int)  (P : Exit → St → Prop) (h : P .normal ⟨[(0, .imm (.slice (List.map rowI l))), (1, vI v)], [], 2⟩) : awp C nt (.region false [] ri38_0 (some [0, 1])) P ⟨[(0, .imm (.slice (List.map rowI l))), (1, vI v)], [], 0⟩ := by
  exact reg_fast [] AllP.nil h (by kernel_rfl)

theorem r38_1_2 {C : Ctx} {nt : Nat} (HH : HasA C) (l : List Int) (v : Int)  (P : Exit → St → Prop) (h : P .normal ⟨[(0, .imm (.slice (List.map rowI l))), (1, vI v), (6, vI (l.length : Int))], [], 5⟩) : awp C nt (.region false [] ri38_1 (some [0, 1, 6])) P ⟨[(0, .imm (.slice (List.map rowI l))), (1, vI v)], [], 2⟩ := by
  exact reg_fast [.n (l.length : Int)] (AllP.cons (len_side rowI l) .nil) h (by kernel_rfl)

theorem r38_2_3 {C : Ctx} {nt : Nat} (HH : HasA C) (l : List Int) (v : Int)  (P : Exit → St → Prop) (h : P .normal ⟨[(0, .imm (.slice (List.map rowI l))), (1, vI v), (6, vI (l.length : Int)), (7, vI 0), (8, vI (l.length : Int))], [], 8⟩) : awp C nt (.region false [] ri38_2 (some [0, 1, 6, 7, 8])) P ⟨[(0, .imm (.slice (List.map rowI l))), (1, vI v), (6, vI (l.length : Int))], [], 5⟩ := by
  exact reg_fast [] AllP.nil h (by kernel_rfl)

theorem r38_3_4 {C : Ctx} {nt : Nat} (HH : HasA C) (l : List Int) (v : Int) (s1 : Int × Int)  (P : Exit → St → Prop) (h : P .normal ⟨[(0, .imm (.slice (List.map rowI l))), (1, vI v), (6, vI (l.length : Int)), (7, vI s1.1), (8, vI s1.2), (15, vB (decide (s1.1 < s1.2)))], [], 11⟩) : awp C nt (.region false [] ri38_3 (some [0, 1, 6, 7, 8, 15])) P ⟨[(0, .imm (.slice (List.map rowI l))), (1, vI v), (6, vI (l.length : Int)), (7, vI s1.1), (8, vI s1.2)], [], 8⟩ := by
  exact reg_fast [] AllP.nil h (by kernel_rfl)

theorem r38_4_5 {C : Ctx} {nt : Nat} (HH : HasA C) (l : List Int) (v : Int) (s1 : Int × Int) (e1 : Int) (he1 : shrI .u64 .u64 (IntKind.u64.wrap (IntKind.i64.wrap (s1.1 + s1.2))) 1 = some e1) (P : Exit → St → Prop) (h : P .normal ⟨[(0, .imm (.slice (List.map rowI l))), (1, vI v), (6, vI (l.length : Int)), (7, vI s1.1), (8, vI s1.2), (9, vI (IntKind.i64.wrap e1))], [], 18⟩) : awp C nt (.region false [] ri38_4 (some [0, 1, 6, 7, 8, 9])) P ⟨[(0, .imm (.slice (List.map rowI l))), (1, vI v), (6, vI (l.length : Int)), (7, vI s1.1), (8, vI s1.2), (15, vB (decide (s1.1 < s1.2)))], [], 11⟩ := by
  exact reg_fast [.v (.int .u64 e1)] (AllP.cons (shr_side he1) .nil) h (by kernel_rfl)

theorem r38_5_6 {C : Ctx} {nt : Nat} (HH : HasA C) (l : List Int) (v : Int) (s1 : Int × Int) (e1 : Int) (e2 : Int) (he2 : idxI l (IntKind.i64.wrap e1) = some e2) (r1 : Bool) (hr1 : d_less e2 v = some r1) (P : Exit → St → Prop) (h : P .normal ⟨[(0, .imm (.slice (List.map rowI l))), (1, vI v), (6, vI (l.length : Int)), (7, vI s1.1), (8, vI s1.2), (9, vI (IntKind.i64.wrap e1)), (27, vB r1)], [], 24⟩) : awp C nt (.region false [] ri38_5 (some [0, 1, 6, 7, 8, 9, 27])) P ⟨[(0, .imm (.slice (List.map rowI l))), (1, vI v), (6, vI (l.length : Int)), (7, vI s1.1), (8, vI s1.2), (9, vI (IntKind.i64.wrap e1))], [], 18⟩ := by
  exact reg_fast [.r (rowI e2), .v (.bool r1)] (AllP.cons (idx_side rowI he2) (.cons (t_less HH e2 v r1 hr1) .nil)) h (by kernel_rfl)

theorem r38_6_7 {C : Ctx} {nt : Nat} (HH : HasA C) (l : List Int) (v : Int) (s1 : Int × Int) (e1 : Int) (r1 : Bool)  (P : Exit → St → Prop) (h : P .normal ⟨[(0, .imm (.slice (List.map rowI l))), (1, vI v), (6, vI (l.length : Int)), (7, vI (IntKind.i64.wrap ((IntKind.i64.wrap e1) + 1))), (8, vI s1.2)], [], 27⟩) : awp C nt (.region false [] ri38_6 (some [0, 1, 6, 7, 8])) P ⟨[(0, .imm (.slice (List.map rowI l))), (1, vI v), (6, vI (l.length : Int)), (7, vI s1.1), (8, vI s1.2), (9, vI (IntKind.i64.wrap e1)), (27, vB r1)], [], 24⟩ := by
  exact reg_fast [] AllP.nil h (by kernel_rfl)

theorem r38_7_8 {C : Ctx} {nt : Nat} (HH : HasA C) (l : List Int) (v : Int) (s1 : Int × Int) (e1 : Int) (r1 : Bool)  (P : Exit → St → Prop) (h : P .normal ⟨[(0, .imm (.slice (List.map rowI l))), (1, vI v), (6, vI (l.length : Int)), (7, vI s1.1), (8, vI (IntKind.i64.wrap e1))], [], 26⟩) : awp C nt (.region false [] ri38_7 (some [0, 1, 6, 7, 8])) P ⟨[(0, .imm (.slice (List.map rowI l))), (1, vI v), (6, vI (l.length : Int)), (7, vI s1.1), (8, vI s1.2), (9, vI (IntKind.i64.wrap e1)), (27, vB r1)], [], 24⟩ := by
  exact reg_fast [] AllP.nil h (by kernel_rfl)

theorem r38_8_9 {C : Ctx} {nt : Nat} (HH : HasA C) (l : List Int) (v : Int) (v1 : Int) (v2 : Bool) (hv2 : (bif decide (v1 < (l.length : Int)) then (Option.bind (idxI l v1) fun e3 => (bif (e3 == v) then some true else (Option.bind (d_isNaN e3) fun r2 => (bif r2 then (Option.bind (d_isNaN v) fun r3 => some r3) else some false)))) else some false) = some v2) (P : Exit → St → Prop) (h : P .normal ⟨[(4, vI v1), (5, vB v2)], [], 33⟩) : awp C nt (.region false [] ri38_8 (some [4, 5])) P ⟨[(0, .imm (.slice (List.map rowI l))), (1, vI v), (6, vI (l.length : Int)), (7, vI v1)], [], 8⟩ := by
  rcases grd hv2 with ⟨g1, hv2⟩ | ⟨g1, hv2⟩
  · skip
    obtain ⟨e3, he3, hv2⟩ := obind hv2
    rcases grd hv2 with ⟨g2, hv2⟩ | ⟨g2, hv2⟩
    · skip
      have ee := Option.some.inj hv2; subst ee
      exact reg_fast [.g true, .r (rowI e3), .g true] (AllP.cons g1 (.cons (idx_side rowI he3) (.cons g2 .nil))) h (by kernel_rfl)
    · skip
      obtain ⟨r2, hr2, hv2⟩ := obind hv2
      rcases grd hv2 with ⟨g3, hv2⟩ | ⟨g3, hv2⟩
      · skip
        obtain ⟨r3, hr3, hv2⟩ := obind hv2
        have ee := Option.some.inj hv2; subst ee
        exact reg_fast [.g true, .r (rowI e3), .g false, .r (rowI e3), .v (.bool r2), .g true, .v (.bool r3)] (AllP.cons g1 (.cons (idx_side rowI he3) (.cons g2 (.cons (idx_side rowI he3) (.cons (t_isNaN HH e3 r2 hr2) (.cons g3 (.cons (t_isNaN HH v r3 hr3) .nil))))))) h (by kernel_rfl)
      · skip
        have ee := Option.some.inj hv2; subst ee
        exact reg_fast [.g true, .r (rowI e3), .g false, .r (rowI e3), .v (.bool r2), .g false] (AllP.cons g1 (.cons (idx_side rowI he3) (.cons g2 (.cons (idx_side rowI he3) (.cons (t_isNaN HH e3 r2 hr2) (.cons g3 .nil)))))) h (by kernel_rfl)
  · skip
    have ee := Option.some.inj hv2; subst ee
    exact reg_fast [.g false] (AllP.cons g1 .nil) h (by kernel_rfl)

noncomputable def d_BinarySearch (l : List Int) (v : Int) : Option (Int × Bool) :=
  (Option.bind (Option.bind (iter (σ := Int × Int) (ρ := Int) (fun s1 => (bif decide (s1.1 < s1.2) then (Option.bind (shrI .u64 .u64 (IntKind.u64.wrap (IntKind.i64.wrap (s1.1 + s1.2))) 1) fun e1 => (Option.bind (idxI l (IntKind.i64.wrap e1)) fun e2 => (Option.bind (d_less e2 v) fun r1 => (bif r1 then some (.inl ((IntKind.i64.wrap ((IntKind.i64.wrap e1) + 1)), s1.2)) else some (.inl (s1.1, (IntKind.i64.wrap e1))))))) else some (.inr s1.1))) (0, (l.length : Int))) (fun (y1 : Int) => some y1)) fun (v1 : Int) => (Option.bind (bif decide (v1 < (l.length : Int)) then (Option.bind (idxI l v1) fun e3 => (bif (e3 == v) then some true else (Option.bind (d_isNaN e3) fun r2 => (bif r2 then (Option.bind (d_isNaN v) fun r3 => some r3) else some false)))) else some false) fun v2 => some (v1, v2)))
set_option maxHeartbeats 4000000 in
theorem t_BinarySearch {C : Ctx} (HH : HasA C) (l : List Int) (v : Int) (res : Int × Bool) (hd : d_BinarySearch l v = some res) : APure C 38 [.slice (List.map rowI l), .int .i64 v] (.tuple [.int .i64 res.1, .bool res.2]) := by
  refine APure.start HH.h38 5 (by simp [af38]) ?_
  unfold d_BinarySearch at hd
  show awp C _ af38.body (EndsR af38.results _) ⟨[(0, .imm (.slice (List.map rowI l))), (1, vI v)], [], 0⟩
  refine awp_seq ?_
  refine r38_0_1 HH l v _ ?_
  refine then_n ?_
  refine awp_seq ?_
  refine r38_1_2 HH l v _ ?_
  refine then_n ?_
  refine awp_seq ?_
  refine r38_2_3 HH l v _ ?_
  refine then_n ?_
  obtain ⟨v1, hc_v1, hd_1⟩ := obind hd; clear hd
  refine awp_seqW ⟨[(0, .imm (.slice (List.map rowI l))), (1, vI v), (6, vI (l.length : Int)), (7, vI v1)], [], 8⟩ (by simp) ?_ ?_
  · skip
    refine awp_block ?_
    obtain ⟨o1, hl_o1, hc_v1_1⟩ := obind hc_v1; clear hc_v1
    refine awp_iter hl_o1 (fun s1 => [(0, .imm (.slice (List.map rowI l))), (1, vI v), (6, vI (l.length : Int)), (7, vI s1.1), (8, vI s1.2)]) (fun s1 => []) ?_ ?_
    · exact weak_run [0, 1, 6, 7, 8] [] 8 [] [] AllP.nil (by kernel_rfl)
    · intro s1 o hs_s1
      refine awp_seq ?_
      refine awp_seq ?_
      refine r38_3_4 HH l v s1 _ ?_
      refine then_n ?_
      refine awp_if (decide (s1.1 < s1.2)) rfl (fun g => ?_) (fun g => ?_)
      · replace hs_s1 := cond_t g hs_s1
        refine awp_skip ?_
        refine then_n ?_
        refine awp_block ?_
        refine awp_seq ?_
        obtain ⟨e1, he1, hs_s1_1⟩ := obind hs_s1; clear hs_s1
        refine r38_4_5 HH l v s1 e1 he1 _ ?_
        clear he1
        refine then_n ?_
        refine awp_seq ?_
        obtain ⟨e2, he2, hs_s1_2⟩ := obind hs_s1_1; clear hs_s1_1
        obtain ⟨r1, hr1, hs_s1_3⟩ := obind hs_s1_2; clear hs_s1_2
        refine r38_5_6 HH l v s1 e1 e2 he2 r1 hr1 _ ?_
        clear he2 hr1
        refine then_n ?_
        refine awp_if r1 rfl (fun g => ?_) (fun g => ?_)
        · replace hs_s1_3 := cond_t g hs_s1_3
          refine r38_6_7 HH l v s1 e1 r1 _ ?_
          refine inb_n ?_
          cases hs_s1_3
          exact ⟨_, rfl, weak_run [0, 1, 6, 7, 8] [] 8 [] [] AllP.nil (by kernel_rfl)⟩
        · replace hs_s1_3 := cond_f g hs_s1_3
          refine r38_7_8 HH l v s1 e1 r1 _ ?_
          refine inb_n ?_
          cases hs_s1_3
          exact ⟨_, rfl, weak_run [0, 1, 6, 7, 8] [] 8 [] [] AllP.nil (by kernel_rfl)⟩
      · replace hs_s1 := cond_f g hs_s1
        refine awp_exit ?_
        refine then_x ?_
        cases hs_s1
        refine ⟨_, rfl, fun hq => ?_⟩
        cases hq
        refine inb_eq ?_
        have ee := Option.some.inj hc_v1_1; subst ee
        exact then_n (weak_run [0, 1, 6, 7] [] 8 [] [] AllP.nil (by kernel_rfl))
  · skip
    refine awp_seq ?_
    obtain ⟨v2, hv2, hd_2⟩ := obind hd_1; clear hd_1
    refine r38_8_9 HH l v v1 v2 hv2 _ ?_
    clear hv2
    refine then_n ?_
    refine awp_ret ?_
    have ee := Option.some.inj hd_2; subst ee
    exact end_ret (by kernel_rfl)

theorem r24a_0_1 {C : Ctx} {nt : Nat} (HH : HasA C) (p1 : CondT) (p2 : Int)  (P : Exit → St → Prop) (h : P .normal ⟨[(1, .ptr 0 0 0), (2, .ptr 1 0 0)], [(0, .rows 1 [[vI p2]]), (1, .rows 2 [rowA (CondT.row p1)])], 3⟩) : awp C nt (.region false [] ri24_0 (some [1, 2])) P ⟨[(0, .imm (.agg [.int .i64 p1.clause, .int .i64 p1.is])), (1, .ptr 0 0 0)], [(0, .rows 1 [[vI p2]])], 1⟩ := by
  exact reg_fast [] AllP.nil h (by kernel_rfl)

theorem r24a_1_2 {C : Ctx} {nt : Nat} (HH : HasA C) (p1 : CondT) (p2 : Int)  (P : Exit → St → Prop) (h : P .normal ⟨[(3, vB (p1.clause == p2))], [(0, .rows 1 [[vI p2]]), (1, .rows 2 [rowA (CondT.row p1)])], 8⟩) : awp C nt (.region false [] ri24_1 (some [3])) P ⟨[(1, .ptr 0 0 0), (2, .ptr 1 0 0)], [(0, .rows 1 [[vI p2]]), (1, .rows 2 [rowA (CondT.row p1)])], 3⟩ := by
  exact reg_fast [] AllP.nil h (by kernel_rfl)

noncomputable def d_24a (p1 : CondT) (p2 : Int) : Option Unit :=
  some ()
set_option maxHeartbeats 4000000 in
theorem t_24a {C : Ctx} (HH : HasA C) (p1 : CondT) (p2 : Int) (res : Unit) (hd : d_24a p1 p2 = some res) : DOk C 24 [.imm (.agg [.int .i64 p1.clause, .int .i64 p1.is]), .ptr 0 0 0] [(0, .rows 1 [[vI p2]])] 1 (vB (p1.clause == p2)) [(0, .rows 1 [[vI p2]])] 0 := by
  refine DOk.start HH.h24 (by simp [af24]) (.exp rfl rfl .nil) (.exp rfl rfl .nil) (by kernel_rfl) (by kernel_rfl) (by kernel_rfl) (by kernel_rfl) ?_
  unfold d_24a at hd
  show awp C _ af24.body (EndsD af24.results _ _ _) ⟨[(0, .imm (.agg [.int .i64 p1.clause, .int .i64 p1.is])), (1, .ptr 0 0 0)], [(0, .rows 1 [[vI p2]])], 1⟩
  refine awp_seq ?_
  refine r24a_0_1 HH p1 p2 _ ?_
  refine then_n ?_
  refine awp_seq ?_
  refine r24a_1_2 HH p1 p2 _ ?_
  refine then_n ?_
  refine awp_ret ?_
  have ee := Option.some.inj hd; subst ee
  exact end_d (by kernel_rfl) (weak_run [0] [(0, true)] 1 [] [] AllP.nil (by kernel_rfl))

theorem r48a_0_1 {C : Ctx} {nt : Nat} (HH : HasA C) (p1 : List CondT) (p2 : Int)  (P : Exit → St → Prop) (h : P .normal ⟨[(0, .imm (.slice (List.map CondT.row p1))), (1, .func 24 [] [.ptr 0 0 0])], [(0, .rows 1 [[vI p2]])], 2⟩) : awp C nt (.region false [] ri48_0 (some [0, 1])) P ⟨[(0, .imm (.slice (List.map CondT.row p1))), (1, .func 24 [] [.ptr 0 0 0])], [(0, .rows 1 [[vI p2]])], 1⟩ := by
  exact reg_fast [] AllP.nil h (by kernel_rfl)

theorem r48a_1_2 {C : Ctx} {nt : Nat} (HH : HasA C) (p1 : List CondT) (p2 : Int)  (P : Exit → St → Prop) (h : P .normal ⟨[(0, .imm (.slice (List.map CondT.row p1))), (1, .func 24 [] [.ptr 0 0 0]), (7, vI (p1.length : Int)), (8, vI 0)], [(0, .rows 1 [[vI p2]])], 5⟩) : awp C nt (.region false [] ri48_1 (some [0, 1, 7, 8])) P ⟨[(0, .imm (.slice (List.map CondT.row p1))), (1, .func 24 [] [.ptr 0 0 0])], [(0, .rows 1 [[vI p2]])], 2⟩ := by
  exact reg_fast [.n (p1.length : Int)] (AllP.cons (len_side CondT.row p1) .nil) h (by kernel_rfl)

theorem r48a_2_3 {C : Ctx} {nt : Nat} (HH : HasA C) (p1 : List CondT) (p2 : Int) (i1 : Nat)  (P : Exit → St → Prop) (h : P .normal ⟨[(0, .imm (.slice (List.map CondT.row p1))), (1, .func 24 [] [.ptr 0 0 0]), (7, vI (p1.length : Int)), (8, vI (i1 : Int)), (9, vB (decide ((i1 : Int) < (p1.length : Int))))], [(0, .rows 1 [[vI p2]])], 6⟩) : awp C nt (.region false [] ri48_2 (some [0, 1, 7, 8, 9])) P ⟨[(0, .imm (.slice (List.map CondT.row p1))), (1, .func 24 [] [.ptr 0 0 0]), (7, vI (p1.length : Int)), (8, vI (i1 : Int))], [(0, .rows 1 [[vI p2]])], 5⟩ := by
  exact reg_fast [] AllP.nil h (by kernel_rfl)

theorem r48a_3_4 {C : Ctx} {nt : Nat} (HH : HasA C) (p1 : List CondT) (p2 : Int) (i1 : Nat)  (P : Exit → St → Prop) (h : P .normal ⟨[(0, .imm (.slice (List.map CondT.row p1))), (1, .func 24 [] [.ptr 0 0 0]), (7, vI (p1.length : Int)), (8, vI (i1 : Int)), (5, vI (i1 : Int))], [(0, .rows 1 [[vI p2]])], 8⟩) : awp C nt (.region false [] ri48_3 (some [0, 1, 5, 7, 8])) P ⟨[(0, .imm (.slice (List.map CondT.row p1))), (1, .func 24 [] [.ptr 0 0 0]), (7, vI (p1.length : Int)), (8, vI (i1 : Int)), (9, vB (decide ((i1 : Int) < (p1.length : Int))))], [(0, .rows 1 [[vI p2]])], 6⟩ := by
  exact reg_fast [] AllP.nil h (by kernel_rfl)

theorem r48a_4_5 {C : Ctx} {nt : Nat} (HH : HasA C) (p1 : List CondT) (p2 : Int) (i1 : Nat) (e1 : CondT) (he1 : idxI p1 (i1 : Int) = some e1) (r1 : Unit) (hr1 : d_24a e1 p2 = some r1) (P : Exit → St → Prop) (h : P .normal ⟨[(0, .imm (.slice (List.map CondT.row p1))), (1, .func 24 [] [.ptr 0 0 0]), (7, vI (p1.length : Int)), (8, vI (i1 : Int)), (5, vI (i1 : Int)), (16, vB (e1.clause == p2))], [(0, .rows 1 [[vI p2]])], 14⟩) : awp C nt (.region false [] ri48_4 (some [0, 1, 5, 7, 8, 16])) P ⟨[(0, .imm (.slice (List.map CondT.row p1))), (1, .func 24 [] [.ptr 0 0 0]), (7, vI (p1.length : Int)), (8, vI (i1 : Int)), (5, vI (i1 : Int))], [(0, .rows 1 [[vI p2]])], 8⟩ := by
  exact reg_fast [.r (CondT.row e1), .c [0] 1 (vB (e1.clause == p2)) [] 0] (AllP.cons (idx_side CondT.row he1) (.cons (call_side (t_24a HH e1 p2 r1 hr1) [0] 13 (.drop rfl rfl .nil) (rhR rhN) rhN) .nil)) h (by kernel_rfl)

theorem r48a_5_6 {C : Ctx} {nt : Nat} (HH : HasA C) (p1 : List CondT) (p2 : Int) (i1 : Nat) (e1 : CondT)  (P : Exit → St → Prop) (h : P .normal ⟨[(4, vI (i1 : Int))], [(0, .rows 1 [[vI p2]])], 16⟩) : awp C nt (.region false [] ri48_5 (some [4])) P ⟨[(0, .imm (.slice (List.map CondT.row p1))), (1, .func 24 [] [.ptr 0 0 0]), (7, vI (p1.length : Int)), (8, vI (i1 : Int)), (5, vI (i1 : Int)), (16, vB (e1.clause == p2))], [(0, .rows 1 [[vI p2]])], 14⟩ := by
  exact reg_fast [] AllP.nil h (by kernel_rfl)

theorem r48a_6_7 {C : Ctx} {nt : Nat} (HH : HasA C) (p1 : List CondT) (p2 : Int) (i1 : Nat) (e1 : CondT)  (P : Exit → St → Prop) (h : P .normal ⟨[(0, .imm (.slice (List.map CondT.row p1))), (1, .func 24 [] [.ptr 0 0 0]), (7, vI (p1.length : Int)), (8, vI (IntKind.i64.wrap ((i1 : Int) + 1)))], [(0, .rows 1 [[vI p2]])], 16⟩) : awp C nt (.region false [] ri48_6 (some [0, 1, 7, 8])) P ⟨[(0, .imm (.slice (List.map CondT.row p1))), (1, .func 24 [] [.ptr 0 0 0]), (7, vI (p1.length : Int)), (8, vI (i1 : Int)), (5, vI (i1 : Int)), (16, vB (e1.clause == p2))], [(0, .rows 1 [[vI p2]])], 14⟩ := by
  exact reg_fast [] AllP.nil h (by kernel_rfl)

theorem r48a_2_8 {C : Ctx} {nt : Nat} (HH : HasA C) (p1 : List CondT) (p2 : Int) (i1 : Nat)  (P : Exit → St → Prop) (h : P .normal ⟨[(0, .imm (.slice (List.map CondT.row p1))), (1, .func 24 [] [.ptr 0 0 0]), (7, vI (p1.length : Int)), (8, vI (i1 : Int)), (9, vB (decide ((i1 : Int) < (p1.length : Int))))], [(0, .rows 1 [[vI p2]])], 6⟩) : awp C nt (.region false [] ri48_2 (some [0, 1, 7, 8, 9])) P ⟨[(0, .imm (.slice (List.map CondT.row p1))), (1, .func 24 [] [.ptr 0 0 0]), (7, vI (p1.length : Int)), (8, vI (i1 : Int))], [(0, .rows 1 [[vI p2]])], 5⟩ := by
  exact reg_fast [] AllP.nil h (by kernel_rfl)

theorem r48a_7_9 {C : Ctx} {nt : Nat} (HH : HasA C) (p1 : List CondT) (p2 : Int) (i1 : Nat)  (P : Exit → St → Prop) (h : P .normal ⟨[(4, vI (-1))], [(0, .rows 1 [[vI p2]])], 7⟩) : awp C nt (.region false [] ri48_7 (some [4])) P ⟨[(0, .imm (.slice (List.map CondT.row p1))), (1, .func 24 [] [.ptr 0 0 0]), (7, vI (p1.length : Int)), (8, vI (i1 : Int)), (9, vB (decide ((i1 : Int) < (p1.length : Int))))], [(0, .rows 1 [[vI p2]])], 6⟩ := by
  exact reg_fast [] AllP.nil h (by kernel_rfl)

noncomputable def d_48a (p1 : List CondT) (p2 : Int) : Option Int :=
  (Option.bind (forR (σ := Unit) (ρ := Int) (p1.length : Int) (fun i1 s1 => (Option.bind (idxI p1 (i1 : Int)) fun e1 => (Option.bind (d_24a e1 p2) fun r1 => (bif (e1.clause == p2) then some (.inr (i1 : Int)) else some (.inl ()))))) ()) (Sum.elim (fun (s1 : Unit) => some (-1)) (fun (y1 : Int) => some y1)))
set_option maxHeartbeats 4000000 in
theorem t_48a {C : Ctx} (HH : HasA C) (p1 : List CondT) (p2 : Int) (res : Int) (hd : d_48a p1 p2 = some res) : DOk C 48 [.imm (.slice (List.map CondT.row p1)), .func 24 [] [.ptr 0 0 0]] [(0, .rows 1 [[vI p2]])] 1 (vI res) [(0, .rows 1 [[vI p2]])] 0 := by
  refine DOk.start HH.h48 (by simp [af48]) (.exp rfl rfl .nil) (.exp rfl rfl .nil) (by kernel_rfl) (by kernel_rfl) (by kernel_rfl) (by kernel_rfl) ?_
  unfold d_48a at hd
  show awp C _ af48.body (EndsD af48.results _ _ _) ⟨[(0, .imm (.slice (List.map CondT.row p1))), (1, .func 24 [] [.ptr 0 0 0])], [(0, .rows 1 [[vI p2]])], 1⟩
  refine awp_seq ?_
  refine r48a_0_1 HH p1 p2 _ ?_
  refine then_n ?_
  refine awp_seq ?_
  refine awp_seq ?_
  refine r48a_1_2 HH p1 p2 _ ?_
  refine then_n ?_
  refine awp_block ?_
  obtain ⟨o1, hl_o1, hd_1⟩ := obind hd; clear hd
  refine awp_forR hl_o1 (fun i1 s1 => [(0, .imm (.slice (List.map CondT.row p1))), (1, .func 24 [] [.ptr 0 0 0]), (7, vI (p1.length : Int)), (8, vI (i1 : Int))]) (fun i1 s1 => [(0, .rows 1 [[vI p2]])]) ?_ ?_ ?_
  · exact weak_run [0, 1, 7, 8] [(0, true)] 5 [] [] AllP.nil (by kernel_rfl)
  · intro i1 s1 o hi_i1 hw_i1 hs_s1
    refine awp_seq ?_
    refine r48a_2_3 HH p1 p2 i1 _ ?_
    refine then_n ?_
    refine awp_seq ?_
    refine awp_ifT (by simp [*]) ?_
    refine awp_skip ?_
    refine then_n ?_
    refine awp_seq ?_
    refine awp_block ?_
    refine awp_seq ?_
    refine r48a_3_4 HH p1 p2 i1 _ ?_
    refine then_n ?_
    refine awp_seq ?_
    obtain ⟨e1, he1, hs_s1_1⟩ := obind hs_s1; clear hs_s1
    obtain ⟨r1, hr1, hs_s1_2⟩ := obind hs_s1_1; clear hs_s1_1
    refine r48a_4_5 HH p1 p2 i1 e1 he1 r1 hr1 _ ?_
    clear he1 hr1
    refine then_n ?_
    refine awp_if (e1.clause == p2) rfl (fun g => ?_) (fun g => ?_)
    · replace hs_s1_2 := cond_t g hs_s1_2
      refine awp_seq ?_
      refine r48a_5_6 HH p1 p2 i1 e1 _ ?_
      refine then_n ?_
      refine awp_ret ?_
      refine inb_r ?_
      refine then_r ?_
      cases hs_s1_2
      refine ⟨_, rfl, fun hq => ?_⟩
      subst hq
      replace hd_1 := sel_r hd_1
      refine inb_r ?_
      refine then_r ?_
      have ee := Option.some.inj hd_1; subst ee
      exact end_d (by kernel_rfl) (weak_run [0] [(0, true)] 1 [] [] AllP.nil (by kernel_rfl))
    · replace hs_s1_2 := cond_f g hs_s1_2
      refine awp_skip ?_
      refine inb_n ?_
      refine then_n ?_
      refine r48a_6_7 HH p1 p2 i1 e1 _ ?_
      cases hs_s1_2
      exact ⟨_, rfl, weak_run [0, 1, 7, 8] [(0, true)] 5 [(8, vI (((i1 + 1 : Nat) : Int)))] [] (AllP.cons (ov_int hw_i1) .nil) (by kernel_rfl)⟩
  · intro i1 s1 hi_i1 ho
    subst ho
    replace hd_1 := sel_l hd_1
    refine awp_seq ?_
    refine r48a_2_8 HH p1 p2 i1 _ ?_
    refine then_n ?_
    refine awp_seq ?_
    refine awp_ifF (by simp [*]) ?_
    refine awp_exit ?_
    refine then_x ?_
    refine then_x ?_
    refine inb_eq ?_
    refine then_n ?_
    refine awp_seq ?_
    refine r48a_7_9 HH p1 p2 i1 _ ?_
    refine then_n ?_
    refine awp_ret ?_
    have ee := Option.some.inj hd_1; subst ee
    exact end_d (by kernel_rfl) (weak_run [0] [(0, true)] 1 [] [] AllP.nil (by kernel_rfl))

theorem r23a_0_1 {C : Ctx} {nt : Nat} (HH : HasA C) (p1 : List CondT) (p2 : Int)  (P : Exit → St → Prop) (h : P .normal ⟨[(0, .imm (.slice (List.map CondT.row p1))), (1, .func 24 [] [.ptr 0 0 0])], [(0, .rows 1 [[vI p2]])], 2⟩) : awp C nt (.region false [] ri23_0 (some [0, 1])) P ⟨[(0, .imm (.slice (List.map CondT.row p1))), (1, .func 24 [] [.ptr 0 0 0])], [(0, .rows 1 [[vI p2]])], 1⟩ := by
  exact reg_fast [] AllP.nil h (by kernel_rfl)

theorem r23a_1_2 {C : Ctx} {nt : Nat} (HH : HasA C) (p1 : List CondT) (p2 : Int) (r1 : Int) (hr1 : d_48a p1 p2 = some r1) (P : Exit → St → Prop) (h : P .normal ⟨[(4, vB (decide (0 ≤ r1)))], [(0, .rows 1 [[vI p2]])], 7⟩) : awp C nt (.region false [] ri23_1 (some [4])) P ⟨[(0, .imm (.slice (List.map CondT.row p1))), (1, .func 24 [] [.ptr 0 0 0])], [(0, .rows 1 [[vI p2]])], 2⟩ := by
  exact reg_fast [.c [0] 1 (vI r1) [] 0] (AllP.cons (call_side (t_48a HH p1 p2 r1 hr1) [0] 4 (.drop rfl rfl .nil) (rhR rhN) rhN) .nil) h (by kernel_rfl)

noncomputable def d_23a (p1 : List CondT) (p2 : Int) : Option Bool :=
  (Option.bind (d_48a p1 p2) fun r1 => some (decide (0 ≤ r1)))
set_option maxHeartbeats 4000000 in
theorem t_23a {C : Ctx} (HH : HasA C) (p1 : List CondT) (p2 : Int) (res : Bool) (hd : d_23a p1 p2 = some res) : DOk C 23 [.imm (.slice (List.map CondT.row p1)), .func 24 [] [.ptr 0 0 0]] [(0, .rows 1 [[vI p2]])] 1 (vB res) [(0, .rows 1 [[vI p2]])] 0 := by
  refine DOk.start HH.h23 (by simp [af23]) (.exp rfl rfl .nil) (.exp rfl rfl .nil) (by kernel_rfl) (by kernel_rfl) (by kernel_rfl) (by kernel_rfl) ?_
  unfold d_23a at hd
  show awp C _ af23.body (EndsD af23.results _ _ _) ⟨[(0, .imm (.slice (List.map CondT.row p1))), (1, .func 24 [] [.ptr 0 0 0])], [(0, .rows 1 [[vI p2]])], 1⟩
  refine awp_seq ?_
  refine r23a_0_1 HH p1 p2 _ ?_
  refine then_n ?_
  refine awp_seq ?_
  obtain ⟨r1, hr1, hd_1⟩ := obind hd; clear hd
  refine r23a_1_2 HH p1 p2 r1 hr1 _ ?_
  clear hr1
  refine then_n ?_
  refine awp_ret ?_
  have ee := Option.some.inj hd_1; subst ee
  exact end_d (by kernel_rfl) (weak_run [0] [(0, true)] 1 [] [] AllP.nil (by kernel_rfl))

theorem r22a_0_1 {C : Ctx} {nt : Nat} (HH : HasA C) (p1 : Int) (p2 : Int) (p3 : ContractT)  (P : Exit → St → Prop) (h : P .normal ⟨[(0, vI p1), (2, .ptr 0 0 0), (4, .ptr 1 0 0)], [(0, .rows 7 [rowA (ContractT.row p3)]), (1, .rows 1 [[vI p2]])], 3⟩) : awp C nt (.region false [] ri22_0 (some [0, 2, 4])) P ⟨[(0, vI p1), (1, vI p2), (2, .ptr 0 0 0)], [(0, .rows 7 [rowA (ContractT.row p3)])], 1⟩ := by
  exact reg_fast [] AllP.nil h (by kernel_rfl)

theorem r22a_1_2 {C : Ctx} {nt : Nat} (HH : HasA C) (p1 : Int) (p2 : Int) (p3 : ContractT) (e1 : ClauseT) (he1 : idxI p3.clauses p1 = some e1) (r1 : Bool) (hr1 : d_23a e1.start p2 = some r1) (P : Exit → St → Prop) (h : P .normal ⟨[(5, vB r1)], [(0, .rows 7 [rowA (ContractT.row p3)]), (1, .rows 1 [[vI p2]])], 12⟩) : awp C nt (.region false [] ri22_1 (some [5])) P ⟨[(0, vI p1), (2, .ptr 0 0 0), (4, .ptr 1 0 0)], [(0, .rows 7 [rowA (ContractT.row p3)]), (1, .rows 1 [[vI p2]])], 3⟩ := by
  exact reg_fast [.r (ClauseT.row e1), .c [1] 1 (vB r1) [] 0] (AllP.cons (idx_side ClauseT.row he1) (.cons (call_side (t_23a HH e1.start p2 r1 hr1) [1] 10 (.drop rfl rfl .nil) (rhR rhN) rhN) .nil)) h (by kernel_rfl)

noncomputable def d_22a (p1 : Int) (p2 : Int) (p3 : ContractT) : Option Bool :=
  (Option.bind (idxI p3.clauses p1) fun e1 => (Option.bind (d_23a e1.start p2) fun r1 => some r1))
set_option maxHeartbeats 4000000 in
theorem t_22a {C : Ctx} (HH : HasA C) (p1 : Int) (p2 : Int) (p3 : ContractT) (res : Bool) (hd : d_22a p1 p2 p3 = some res) : DOk C 22 [vI p1, vI p2, .ptr 0 0 0] [(0, .rows 7 [rowA (ContractT.row p3)])] 1 (vB res) [(0, .rows 7 [rowA (ContractT.row p3)])] 0 := by
  refine DOk.start HH.h22 (by simp [af22]) (.exp rfl rfl .nil) (.exp rfl rfl .nil) (by kernel_rfl) (by kernel_rfl) (by kernel_rfl) (by kernel_rfl) ?_
  unfold d_22a at hd
  show awp C _ af22.body (EndsD af22.results _ _ _) ⟨[(0, vI p1), (1, vI p2), (2, .ptr 0 0 0)], [(0, .rows 7 [rowA (ContractT.row p3)])], 1⟩
  refine awp_seq ?_
  refine r22a_0_1 HH p1 p2 p3 _ ?_
  refine then_n ?_
  refine awp_seq ?_
  obtain ⟨e1, he1, hd_1⟩ := obind hd; clear hd
  obtain ⟨r1, hr1, hd_2⟩ := obind hd_1; clear hd_1
  refine r22a_1_2 HH p1 p2 p3 e1 he1 r1 hr1 _ ?_
  clear he1 hr1
  refine then_n ?_
  refine awp_ret ?_
  have ee := Option.some.inj hd_2; subst ee
  exact end_d (by kernel_rfl) (weak_run [0] [(0, true)] 1 [] [] AllP.nil (by kernel_rfl))

theorem r27a_0_1 {C : Ctx} {nt : Nat} (HH : HasA C) (p1 : Int) (p2 : List Int)  (P : Exit → St → Prop) (h : P .normal ⟨[(0, vI p1), (1, .ptr 0 0 0)], [(0, .rows 1 [[.imm (.slice (List.map rowI p2))]])], 2⟩) : awp C nt (.region false [] ri27_0 (some [0, 1])) P ⟨[(0, vI p1), (1, .ptr 0 0 0)], [(0, .rows 1 [[.imm (.slice (List.map rowI p2))]])], 1⟩ := by
  exact reg_fast [] AllP.nil h (by kernel_rfl)

theorem r27a_1_2 {C : Ctx} {nt : Nat} (HH : HasA C) (p1 : Int) (p2 : List Int) (r1 : Bool) (hr1 : d_Contains p2 p1 = some r1) (P : Exit → St → Prop) (h : P .normal ⟨[(3, vB r1)], [(0, .rows 1 [[.imm (.slice (List.map rowI p2))]])], 6⟩) : awp C nt (.region false [] ri27_1 (some [3])) P ⟨[(0, vI p1), (1, .ptr 0 0 0)], [(0, .rows 1 [[.imm (.slice (List.map rowI p2))]])], 2⟩ := by
  exact reg_fast [.v (.bool r1)] (AllP.cons (t_Contains HH p2 p1 r1 hr1) .nil) h (by kernel_rfl)

noncomputable def d_27a (p1 : Int) (p2 : List Int) : Option Bool :=
  (Option.bind (d_Contains p2 p1) fun r1 => some r1)
set_option maxHeartbeats 4000000 in
theorem t_27a {C : Ctx} (HH : HasA C) (p1 : Int) (p2 : List Int) (res : Bool) (hd : d_27a p1 p2 = some res) : DOk C 27 [vI p1, .ptr 0 0 0] [(0, .rows 1 [[.imm (.slice (List.map rowI p2))]])] 1 (vB res) [(0, .rows 1 [[.imm (.slice (List.map rowI p2))]])] 0 := by
  refine DOk.start HH.h27 (by simp [af27]) (.exp rfl rfl .nil) (.exp rfl rfl .nil) (by kernel_rfl) (by kernel_rfl) (by kernel_rfl) (by kernel_rfl) ?_
  unfold d_27a at hd
  show awp C _ af27.body (EndsD af27.results _ _ _) ⟨[(0, vI p1), (1, .ptr 0 0 0)], [(0, .rows 1 [[.imm (.slice (List.map rowI p2))]])], 1⟩
  refine awp_seq ?_
  refine r27a_0_1 HH p1 p2 _ ?_
  refine then_n ?_
  refine awp_seq ?_
  obtain ⟨r1, hr1, hd_1⟩ := obind hd; clear hd
  refine r27a_1_2 HH p1 p2 r1 hr1 _ ?_
  clear hr1
  refine then_n ?_
  refine awp_ret ?_
  have ee := Option.some.inj hd_1; subst ee
  exact end_d (by kernel_rfl) (weak_run [0] [(0, true)] 1 [] [] AllP.nil (by kernel_rfl))

theorem r49a_0_1 {C : Ctx} {nt : Nat} (HH : HasA C) (p1 : List Int) (p2 : List Int)  (P : Exit → St → Prop) (h : P .normal ⟨[(0, .imm (.slice (List.map rowI p1))), (1, .func 27 [] [.ptr 0 0 0])], [(0, .rows 1 [[.imm (.slice (List.map rowI p2))]])], 2⟩) : awp C nt (.region false [] ri49_0 (some [0, 1])) P ⟨[(0, .imm (.slice (List.map rowI p1))), (1, .func 27 [] [.ptr 0 0 0])], [(0, .rows 1 [[.imm (.slice (List.map rowI p2))]])], 1⟩ := by
  exact reg_fast [] AllP.nil h (by kernel_rfl)

theorem r49a_1_2 {C : Ctx} {nt : Nat} (HH : HasA C) (p1 : List Int) (p2 : List Int)  (P : Exit → St → Prop) (h : P .normal ⟨[(0, .imm (.slice (List.map rowI p1))), (1, .func 27 [] [.ptr 0 0 0]), (7, vI (p1.length : Int)), (8, vI 0)], [(0, .rows 1 [[.imm (.slice (List.map rowI p2))]])], 5⟩) : awp C nt (.region false [] ri49_1 (some [0, 1, 7, 8])) P ⟨[(0, .imm (.slice (List.map rowI p1))), (1, .func 27 [] [.ptr 0 0 0])], [(0, .rows 1 [[.imm (.slice (List.map rowI p2))]])], 2⟩ := by
  exact reg_fast [.n (p1.length : Int)] (AllP.cons (len_side rowI p1) .nil) h (by kernel_rfl)

theorem r49a_2_3 {C : Ctx} {nt : Nat} (HH : HasA C) (p1 : List Int) (p2 : List Int) (i1 : Nat)  (P : Exit → St → Prop) (h : P .normal ⟨[(0, .imm (.slice (List.map rowI p1))), (1, .func 27 [] [.ptr 0 0 0]), (7, vI (p1.length : Int)), (8, vI (i1 : Int)), (9, vB (decide ((i1 : Int) < (p1.length : Int))))], [(0, .rows 1 [[.imm (.slice (List.map rowI p2))]])], 6⟩) : awp C nt (.region false [] ri49_2 (some [0, 1, 7, 8, 9])) P ⟨[(0, .imm (.slice (List.map rowI p1))), (1, .func 27 [] [.ptr 0 0 0]), (7, vI (p1.length : Int)), (8, vI (i1 : Int))], [(0, .rows 1 [[.imm (.slice (List.map rowI p2))]])], 5⟩ := by
  exact reg_fast [] AllP.nil h (by kernel_rfl)

theorem r49a_3_4 {C : Ctx} {nt : Nat} (HH : HasA C) (p1 : List Int) (p2 : List Int) (i1 : Nat)  (P : Exit → St → Prop) (h : P .normal ⟨[(0, .imm (.slice (List.map rowI p1))), (1, .func 27 [] [.ptr 0 0 0]), (7, vI (p1.length : Int)), (8, vI (i1 : Int)), (5, vI (i1 : Int))], [(0, .rows 1 [[.imm (.slice (List.map rowI p2))]])], 8⟩) : awp C nt (.region false [] ri49_3 (some [0, 1, 5, 7, 8])) P ⟨[(0, .imm (.slice (List.map rowI p1))), (1, .func 27 [] [.ptr 0 0 0]), (7, vI (p1.length : Int)), (8, vI (i1 : Int)), (9, vB (decide ((i1 : Int) < (p1.length : Int))))], [(0, .rows 1 [[.imm (.slice (List.map rowI p2))]])], 6⟩ := by
  exact reg_fast [] AllP.nil h (by kernel_rfl)

theorem r49a_4_5 {C : Ctx} {nt : Nat} (HH : HasA C) (p1 : List Int) (p2 : List Int) (i1 : Nat) (e1 : Int) (he1 : idxI p1 (i1 : Int) = some e1) (r1 : Bool) (hr1 : d_27a e1 p2 = some r1) (P : Exit → St → Prop) (h : P .normal ⟨[(0, .imm (.slice (List.map rowI p1))), (1, .func 27 [] [.ptr 0 0 0]), (7, vI (p1.length : Int)), (8, vI (i1 : Int)), (5, vI (i1 : Int)), (16, vB r1)], [(0, .rows 1 [[.imm (.slice (List.map rowI p2))]])], 14⟩) : awp C nt (.region false [] ri49_4 (some [0, 1, 5, 7, 8, 16])) P ⟨[(0, .imm (.slice (List.map rowI p1))), (1, .func 27 [] [.ptr 0 0 0]), (7, vI (p1.length : Int)), (8, vI (i1 : Int)), (5, vI (i1 : Int))], [(0, .rows 1 [[.imm (.slice (List.map rowI p2))]])], 8⟩ := by
  exact reg_fast [.r (rowI e1), .c [0] 1 (vB r1) [] 0] (AllP.cons (idx_side rowI he1) (.cons (call_side (t_27a HH e1 p2 r1 hr1) [0] 13 (.drop rfl rfl .nil) (rhR rhN) rhN) .nil)) h (by kernel_rfl)

theorem r49a_5_6 {C : Ctx} {nt : Nat} (HH : HasA C) (p1 : List Int) (p2 : List Int) (i1 : Nat) (r1 : Bool)  (P : Exit → St → Prop) (h : P .normal ⟨[(4, vI (i1 : Int))], [(0, .rows 1 [[.imm (.slice (List.map rowI p2))]])], 16⟩) : awp C nt (.region false [] ri49_5 (some [4])) P ⟨[(0, .imm (.slice (List.map rowI p1))), (1, .func 27 [] [.ptr 0 0 0]), (7, vI (p1.length : Int)), (8, vI (i1 : Int)), (5, vI (i1 : Int)), (16, vB r1)], [(0, .rows 1 [[.imm (.slice (List.map rowI p2))]])], 14⟩ := by
  exact reg_fast [] AllP.nil h (by kernel_rfl)

theorem r49a_6_7 {C : Ctx} {nt : Nat} (HH : HasA C) (p1 : List Int) (p2 : List Int) (i1 : Nat) (r1 : Bool)  (P : Exit → St → Prop) (h : P .normal ⟨[(0, .imm (.slice (List.map rowI p1))), (1, .func 27 [] [.ptr 0 0 0]), (7, vI (p1.length : Int)), (8, vI (IntKind.i64.wrap ((i1 : Int) + 1)))], [(0, .rows 1 [[.imm (.slice (List.map rowI p2))]])], 16⟩) : awp C nt (.region false [] ri49_6 (some [0, 1, 7, 8])) P ⟨[(0, .imm (.slice (List.map rowI p1))), (1, .func 27 [] [.ptr 0 0 0]), (7, vI (p1.length : Int)), (8, vI (i1 : Int)), (5, vI (i1 : Int)), (16, vB r1)], [(0, .rows 1 [[.imm (.slice (List.map rowI p2))]])], 14⟩ := by
  exact reg_fast [] AllP.nil h (by kernel_rfl)

theorem r49a_2_8 {C : Ctx} {nt : Nat} (HH : HasA C) (p1 : List Int) (p2 : List Int) (i1 : Nat)  (P : Exit → St → Prop) (h : P .normal ⟨[(0, .imm (.slice (List.map rowI p1))), (1, .func 27 [] [.ptr 0 0 0]), (7, vI (p1.length : Int)), (8, vI (i1 : Int)), (9, vB (decide ((i1 : Int) < (p1.length : Int))))], [(0, .rows 1 [[.imm (.slice (List.map rowI p2))]])], 6⟩) : awp C nt (.region false [] ri49_2 (some [0, 1, 7, 8, 9])) P ⟨[(0, .imm (.slice (List.map rowI p1))), (1, .func 27 [] [.ptr 0 0 0]), (7, vI (p1.length : Int)), (8, vI (i1 : Int))], [(0, .rows 1 [[.imm (.slice (List.map rowI p2))]])], 5⟩ := by
  exact reg_fast [] AllP.nil h (by kernel_rfl)

theorem r49a_7_9 {C : Ctx} {nt : Nat} (HH : HasA C) (p1 : List Int) (p2 : List Int) (i1 : Nat)  (P : Exit → St → Prop) (h : P .normal ⟨[(4, vI (-1))], [(0, .rows 1 [[.imm (.slice (List.map rowI p2))]])], 7⟩) : awp C nt (.region false [] ri49_7 (some [4])) P ⟨[(0, .imm (.slice (List.map rowI p1))), (1, .func 27 [] [.ptr 0 0 0]), (7, vI (p1.length : Int)), (8, vI (i1 : Int)), (9, vB (decide ((i1 : Int) < (p1.length : Int))))], [(0, .rows 1 [[.imm (.slice (List.map rowI p2))]])], 6⟩ := by
  exact reg_fast [] AllP.nil h (by kernel_rfl)

noncomputable def d_49a (p1 : List Int) (p2 : List Int) : Option Int :=
  (Option.bind (forR (σ := Unit) (ρ := Int) (p1.length : Int) (fun i1 s1 => (Option.bind (idxI p1 (i1 : Int)) fun e1 => (Option.bind (d_27a e1 p2) fun r1 => (bif r1 then some (.inr (i1 : Int)) else some (.inl ()))))) ()) (Sum.elim (fun (s1 : Unit) => some (-1)) (fun (y1 : Int) => some y1)))
set_option maxHeartbeats 4000000 in
theorem t_49a {C : Ctx} (HH : HasA C) (p1 : List Int) (p2 : List Int) (res : Int) (hd : d_49a p1 p2 = some res) : DOk C 49 [.imm (.slice (List.map rowI p1)), .func 27 [] [.ptr 0 0 0]] [(0, .rows 1 [[.imm (.slice (List.map rowI p2))]])] 1 (vI res) [(0, .rows 1 [[.imm (.slice (List.map rowI p2))]])] 0 := by
  refine DOk.start HH.h49 (by simp [af49]) (.exp rfl rfl .nil) (.exp rfl rfl .nil) (by kernel_rfl) (by kernel_rfl) (by kernel_rfl) (by kernel_rfl) ?_
  unfold d_49a at hd
  show awp C _ af49.body (EndsD af49.results _ _ _) ⟨[(0, .imm (.slice (List.map rowI p1))), (1, .func 27 [] [.ptr 0 0 0])], [(0, .rows 1 [[.imm (.slice (List.map rowI p2))]])], 1⟩
  refine awp_seq ?_
  refine r49a_0_1 HH p1 p2 _ ?_
  refine then_n ?_
  refine awp_seq ?_
  refine awp_seq ?_
  refine r49a_1_2 HH p1 p2 _ ?_
  refine then_n ?_
  refine awp_block ?_
  obtain ⟨o1, hl_o1, hd_1⟩ := obind hd; clear hd
  refine awp_forR hl_o1 (fun i1 s1 => [(0, .imm (.slice (List.map rowI p1))), (1, .func 27 [] [.ptr 0 0 0]), (7, vI (p1.length : Int)), (8, vI (i1 : Int))]) (fun i1 s1 => [(0, .rows 1 [[.imm (.slice (List.map rowI p2))]])]) ?_ ?_ ?_
  · exact weak_run [0, 1, 7, 8] [(0, true)] 5 [] [] AllP.nil (by kernel_rfl)
  · intro i1 s1 o hi_i1 hw_i1 hs_s1
    refine awp_seq ?_
    refine r49a_2_3 HH p1 p2 i1 _ ?_
    refine then_n ?_
    refine awp_seq ?_
    refine awp_ifT (by simp [*]) ?_
    refine awp_skip ?_
    refine then_n ?_
    refine awp_seq ?_
    refine awp_block ?_
    refine awp_seq ?_
    refine r49a_3_4 HH p1 p2 i1 _ ?_
    refine then_n ?_
    refine awp_seq ?_
    obtain ⟨e1, he1, hs_s1_1⟩ := obind hs_s1; clear hs_s1
    obtain ⟨r1, hr1, hs_s1_2⟩ := obind hs_s1_1; clear hs_s1_1
    refine r49a_4_5 HH p1 p2 i1 e1 he1 r1 hr1 _ ?_
    clear he1 hr1
    refine then_n ?_
    refine awp_if r1 rfl (fun g => ?_) (fun g => ?_)
    · replace hs_s1_2 := cond_t g hs_s1_2
      refine awp_seq ?_
      refine r49a_5_6 HH p1 p2 i1 r1 _ ?_
      refine then_n ?_
      refine awp_ret ?_
      refine inb_r ?_
      refine then_r ?_
      cases hs_s1_2
      refine ⟨_, rfl, fun hq => ?_⟩
      subst hq
      replace hd_1 := sel_r hd_1
      refine inb_r ?_
      refine then_r ?_
      have ee := Option.some.inj hd_1; subst ee
      exact end_d (by kernel_rfl) (weak_run [0] [(0, true)] 1 [] [] AllP.nil (by kernel_rfl))
    · replace hs_s1_2 := cond_f g hs_s1_2
      refine awp_skip ?_
      refine inb_n ?_
      refine then_n ?_
      refine r49a_6_7 HH p1 p2 i1 r1 _ ?_
      cases hs_s1_2
      exact ⟨_, rfl, weak_run [0, 1, 7, 8] [(0, true)] 5 [(8, vI (((i1 + 1 : Nat) : Int)))] [] (AllP.cons (ov_int hw_i1) .nil) (by kernel_rfl)⟩
  · intro i1 s1 hi_i1 ho
    subst ho
    replace hd_1 := sel_l hd_1
    refine awp_seq ?_
    refine r49a_2_8 HH p1 p2 i1 _ ?_
    refine then_n ?_
    refine awp_seq ?_
    refine awp_ifF (by simp [*]) ?_
    refine awp_exit ?_
    refine then_x ?_
    refine then_x ?_
    refine inb_eq ?_
    refine then_n ?_
    refine awp_seq ?_
    refine r49a_7_9 HH p1 p2 i1 _ ?_
    refine then_n ?_
    refine awp_ret ?_
    have ee := Option.some.inj hd_1; subst ee
    exact end_d (by kernel_rfl) (weak_run [0] [(0, true)] 1 [] [] AllP.nil (by kernel_rfl))

theorem r26a_0_1 {C : Ctx} {nt : Nat} (HH : HasA C) (p1 : List Int) (p2 : List Int)  (P : Exit → St → Prop) (h : P .normal ⟨[(0, .imm (.slice (List.map rowI p1))), (1, .func 27 [] [.ptr 0 0 0])], [(0, .rows 1 [[.imm (.slice (List.map rowI p2))]])], 2⟩) : awp C nt (.region false [] ri26_0 (some [0, 1])) P ⟨[(0, .imm (.slice (List.map rowI p1))), (1, .func 27 [] [.ptr 0 0 0])], [(0, .rows 1 [[.imm (.slice (List.map rowI p2))]])], 1⟩ := by
  exact reg_fast [] AllP.nil h (by kernel_rfl)

theorem r26a_1_2 {C : Ctx} {nt : Nat} (HH : HasA C) (p1 : List Int) (p2 : List Int) (r1 : Int) (hr1 : d_49a p1 p2 = some r1) (P : Exit → St → Prop) (h : P .normal ⟨[(4, vB (decide (0 ≤ r1)))], [(0, .rows 1 [[.imm (.slice (List.map rowI p2))]])], 7⟩) : awp C nt (.region false [] ri26_1 (some [4])) P ⟨[(0, .imm (.slice (List.map rowI p1))), (1, .func 27 [] [.ptr 0 0 0])], [(0, .rows 1 [[.imm (.slice (List.map rowI p2))]])], 2⟩ := by
  exact reg_fast [.c [0] 1 (vI r1) [] 0] (AllP.cons (call_side (t_49a HH p1 p2 r1 hr1) [0] 4 (.drop rfl rfl .nil) (rhR rhN) rhN) .nil) h (by kernel_rfl)

noncomputable def d_26a (p1 : List Int) (p2 : List Int) : Option Bool :=
  (Option.bind (d_49a p1 p2) fun r1 => some (decide (0 ≤ r1)))
set_option maxHeartbeats 4000000 in
theorem t_26a {C : Ctx} (HH : HasA C) (p1 : List Int) (p2 : List Int) (res : Bool) (hd : d_26a p1 p2 = some res) : DOk C 26 [.imm (.slice (List.map rowI p1)), .func 27 [] [.ptr 0 0 0]] [(0, .rows 1 [[.imm (.slice (List.map rowI p2))]])] 1 (vB res) [(0, .rows 1 [[.imm (.slice (List.map rowI p2))]])] 0 := by
  refine DOk.start HH.h26 (by simp [af26]) (.exp rfl rfl .nil) (.exp rfl rfl .nil) (by kernel_rfl) (by kernel_rfl) (by kernel_rfl) (by kernel_rfl) ?_
  unfold d_26a at hd
  show awp C _ af26.body (EndsD af26.results _ _ _) ⟨[(0, .imm (.slice (List.map rowI p1))), (1, .func 27 [] [.ptr 0 0 0])], [(0, .rows 1 [[.imm (.slice (List.map rowI p2))]])], 1⟩
  refine awp_seq ?_
  refine r26a_0_1 HH p1 p2 _ ?_
  refine then_n ?_
  refine awp_seq ?_
  obtain ⟨r1, hr1, hd_1⟩ := obind hd; clear hd
  refine r26a_1_2 HH p1 p2 r1 hr1 _ ?_
  clear hr1
  refine then_n ?_
  refine awp_ret ?_
  have ee := Option.some.inj hd_1; subst ee
  exact end_d (by kernel_rfl) (weak_run [0] [(0, true)] 1 [] [] AllP.nil (by kernel_rfl))

theorem r12_0_1 {C : Ctx} {nt : Nat} (HH : HasA C) (c : ContractT) (i : Int) (j : Int)  (P : Exit → St → Prop) (h : P .normal ⟨[(1, vI i), (2, vI j), (3, .ptr 0 0 0)], [(0, .rows 7 [rowA (ContractT.row c)])], 2⟩) : awp C nt (.region false [] ri12_0 (some [1, 2, 3])) P ⟨[(0, .imm (.agg (ContractT.row c))), (1, vI i), (2, vI j)], [], 0⟩ := by
  exact reg_fast [] AllP.nil h (by kernel_rfl)

theorem r12_1_2 {C : Ctx} {nt : Nat} (HH : HasA C) (c : ContractT) (i : Int) (j : Int) (v1 : Bool) (hv1 : (bif (i == j) then some true else (bif decide (i < 0) then some true else (bif decide (j < 0) then some true else (bif decide ((c.clauses.length : Int) ≤ i) then some true else some (decide ((c.clauses.length : Int) ≤ j)))))) = some v1) (P : Exit → St → Prop) (h : P .normal ⟨[(1, vI i), (2, vI j), (3, .ptr 0 0 0), (35, vB v1)], [(0, .rows 7 [rowA (ContractT.row c)])], 27⟩) : awp C nt (.region false [] ri12_1 (some [1, 2, 3, 35])) P ⟨[(1, vI i), (2, vI j), (3, .ptr 0 0 0)], [(0, .rows 7 [rowA (ContractT.row c)])], 2⟩ := by
  rcases grd hv1 with ⟨g1, hv1⟩ | ⟨g1, hv1⟩
  · skip
    have ee := Option.some.inj hv1; subst ee
    exact reg_fast [.g true, .g true, .g true, .g true] (AllP.cons g1 (.cons (rfl : true = true) (.cons (rfl : true = true) (.cons (rfl : true = true) .nil)))) h (by kernel_rfl)
  · skip
    rcases grd hv1 with ⟨g2, hv1⟩ | ⟨g2, hv1⟩
    · skip
      have ee := Option.some.inj hv1; subst ee
      exact reg_fast [.g false, .g true, .g true, .g true] (AllP.cons g1 (.cons g2 (.cons (rfl : true = true) (.cons (rfl : true = true) .nil)))) h (by kernel_rfl)
    · skip
      rcases grd hv1 with ⟨g3, hv1⟩ | ⟨g3, hv1⟩
      · skip
        have ee := Option.some.inj hv1; subst ee
        exact reg_fast [.g false, .g false, .g true, .g true] (AllP.cons g1 (.cons g2 (.cons g3 (.cons (rfl : true = true) .nil)))) h (by kernel_rfl)
      · skip
        rcases grd hv1 with ⟨g4, hv1⟩ | ⟨g4, hv1⟩
        · skip
          have ee := Option.some.inj hv1; subst ee
          exact reg_fast [.g false, .g false, .g false, .n (c.clauses.length : Int), .g true] (AllP.cons g1 (.cons g2 (.cons g3 (.cons (len_side ClauseT.row c.clauses) (.cons g4 .nil))))) h (by kernel_rfl)
        · skip
          have ee := Option.some.inj hv1; subst ee
          exact reg_fast [.g false, .g false, .g false, .n (c.clauses.length : Int), .g false, .n (c.clauses.length : Int)] (AllP.cons g1 (.cons g2 (.cons g3 (.cons (len_side ClauseT.row c.clauses) (.cons g4 (.cons (len_side ClauseT.row c.clauses) .nil)))))) h (by kernel_rfl)

theorem r12_2_3 {C : Ctx} {nt : Nat} (HH : HasA C) (c : ContractT) (i : Int) (j : Int) (v1 : Bool)  (P : Exit → St → Prop) (h : P .normal ⟨[(6, vB false)], [(0, .rows 7 [rowA (ContractT.row c)])], 28⟩) : awp C nt (.region false [] ri12_2 (some [6])) P ⟨[(1, vI i), (2, vI j), (3, .ptr 0 0 0), (35, vB v1)], [(0, .rows 7 [rowA (ContractT.row c)])], 27⟩ := by
  exact reg_fast [] AllP.nil h (by kernel_rfl)

theorem r12_3_4 {C : Ctx} {nt : Nat} (HH : HasA C) (c : ContractT) (i : Int) (j : Int) (v1 : Bool) (r1 : Int × Int) (hr1 : d_Valid c = some r1) (P : Exit → St → Prop) (h : P .normal ⟨[(1, vI i), (2, vI j), (3, .ptr 0 0 0), (7, vI r1.1)], [(0, .rows 7 [rowA (ContractT.row c)])], 34⟩) : awp C nt (.region false [] ri12_3 (some [1, 2, 3, 7])) P ⟨[(1, vI i), (2, vI j), (3, .ptr 0 0 0), (35, vB v1)], [(0, .rows 7 [rowA (ContractT.row c)])], 27⟩ := by
  exact reg_fast [.v (.tuple [.int .i64 r1.1, .int .i64 r1.2])] (AllP.cons (t_Valid HH c r1 hr1) .nil) h (by kernel_rfl)

theorem r12_4_5 {C : Ctx} {nt : Nat} (HH : HasA C) (c : ContractT) (i : Int) (j : Int) (r1 : Int × Int)  (P : Exit → St → Prop) (h : P .normal ⟨[(1, vI i), (2, vI j), (3, .ptr 0 0 0), (42, vB (!(r1.1 == 0)))], [(0, .rows 7 [rowA (ContractT.row c)])], 36⟩) : awp C nt (.region false [] ri12_4 (some [1, 2, 3, 42])) P ⟨[(1, vI i), (2, vI j), (3, .ptr 0 0 0), (7, vI r1.1)], [(0, .rows 7 [rowA (ContractT.row c)])], 34⟩ := by
  exact reg_fast [] AllP.nil h (by kernel_rfl)

theorem r12_5_6 {C : Ctx} {nt : Nat} (HH : HasA C) (c : ContractT) (i : Int) (j : Int) (r1 : Int × Int)  (P : Exit → St → Prop) (h : P .normal ⟨[(6, vB false)], [(0, .rows 7 [rowA (ContractT.row c)])], 37⟩) : awp C nt (.region false [] ri12_5 (some [6])) P ⟨[(1, vI i), (2, vI j), (3, .ptr 0 0 0), (42, vB (!(r1.1 == 0)))], [(0, .rows 7 [rowA (ContractT.row c)])], 36⟩ := by
  exact reg_fast [] AllP.nil h (by kernel_rfl)

theorem r12_6_7 {C : Ctx} {nt : Nat} (HH : HasA C) (c : ContractT) (i : Int) (j : Int) (r1 : Int × Int)  (P : Exit → St → Prop) (h : P .normal ⟨[(1, vI i), (2, vI j), (3, .ptr 0 0 0), (9, .func 22 [] [.ptr 0 0 0])], [(0, .rows 7 [rowA (ContractT.row c)])], 38⟩) : awp C nt (.region false [] ri12_6 (some [1, 2, 3, 9])) P ⟨[(1, vI i), (2, vI j), (3, .ptr 0 0 0), (42, vB (!(r1.1 == 0)))], [(0, .rows 7 [rowA (ContractT.row c)])], 36⟩ := by
  exact reg_fast [] AllP.nil h (by kernel_rfl)

theorem r12_7_8 {C : Ctx} {nt : Nat} (HH : HasA C) (c : ContractT) (i : Int) (j : Int) (v2 : Bool) (hv2 : (Option.bind (d_22a i j c) fun r2 => (bif r2 then some true else (Option.bind (d_22a j i c) fun r3 => some r3))) = some v2) (P : Exit → St → Prop) (h : P .normal ⟨[(1, vI i), (2, vI j), (3, .ptr 0 0 0), (53, vB v2)], [(0, .rows 7 [rowA (ContractT.row c)])], 48⟩) : awp C nt (.region false [] ri12_7 (some [1, 2, 3, 53])) P ⟨[(1, vI i), (2, vI j), (3, .ptr 0 0 0), (9, .func 22 [] [.ptr 0 0 0])], [(0, .rows 7 [rowA (ContractT.row c)])], 38⟩ := by
  obtain ⟨r2, hr2, hv2⟩ := obind hv2
  rcases grd hv2 with ⟨g5, hv2⟩ | ⟨g5, hv2⟩
  · skip
    have ee := Option.some.inj hv2; subst ee
    exact reg_fast [.c [0] 1 (vB r2) [] 0, .g true] (AllP.cons (call_side (t_22a HH i j c r2 hr2) [0] 41 (.drop rfl rfl .nil) (rhR rhN) rhN) (.cons g5 .nil)) h (by kernel_rfl)
  · skip
    obtain ⟨r3, hr3, hv2⟩ := obind hv2
    have ee := Option.some.inj hv2; subst ee
    exact reg_fast [.c [0] 1 (vB r2) [] 0, .g false, .c [0] 1 (vB r3) [] 0] (AllP.cons (call_side (t_22a HH i j c r2 hr2) [0] 41 (.drop rfl rfl .nil) (rhR rhN) rhN) (.cons g5 (.cons (call_side (t_22a HH j i c r3 hr3) [0] 46 (.drop rfl rfl .nil) (rhR rhN) rhN) .nil))) h (by kernel_rfl)

theorem r12_8_9 {C : Ctx} {nt : Nat} (HH : HasA C) (c : ContractT) (i : Int) (j : Int) (v2 : Bool)  (P : Exit → St → Prop) (h : P .normal ⟨[(6, vB true)], [(0, .rows 7 [rowA (ContractT.row c)])], 49⟩) : awp C nt (.region false [] ri12_8 (some [6])) P ⟨[(1, vI i), (2, vI j), (3, .ptr 0 0 0), (53, vB v2)], [(0, .rows 7 [rowA (ContractT.row c)])], 48⟩ := by
  exact reg_fast [] AllP.nil h (by kernel_rfl)

theorem r12_9_10 {C : Ctx} {nt : Nat} (HH : HasA C) (c : ContractT) (i : Int) (j : Int) (v2 : Bool) (e1 : ClauseT) (he1 : idxI c.clauses j = some e1) (r4 : List Int) (hr4 : d_numbers e1 = some r4) (P : Exit → St → Prop) (h : P .normal ⟨[(1, vI i), (3, .ptr 0 0 0), (10, .ptr 54 0 0)], [(0, .rows 7 [rowA (ContractT.row c)]), (54, .rows 1 [[.imm (.slice (List.map rowI r4))]])], 56⟩) : awp C nt (.region false [] ri12_9 (some [1, 3, 10])) P ⟨[(1, vI i), (2, vI j), (3, .ptr 0 0 0), (53, vB v2)], [(0, .rows 7 [rowA (ContractT.row c)])], 48⟩ := by
  exact reg_fast [.r (ClauseT.row e1), .v (.slice (List.map rowI r4))] (AllP.cons (idx_side ClauseT.row he1) (.cons (t_numbers HH e1 r4 hr4) .nil)) h (by kernel_rfl)

theorem r12_10_11 {C : Ctx} {nt : Nat} (HH : HasA C) (c : ContractT) (i : Int) (r4 : List Int) (e2 : ClauseT) (he2 : idxI c.clauses i = some e2) (r5 : List Int) (hr5 : d_numbers e2 = some r5) (r6 : Bool) (hr6 : d_26a r5 r4 = some r6) (P : Exit → St → Prop) (h : P .normal ⟨[(6, vB r6)], [(0, .rows 7 [rowA (ContractT.row c)]), (54, .rows 1 [[.imm (.slice (List.map rowI r4))]])], 65⟩) : awp C nt (.region false [] ri12_10 (some [6])) P ⟨[(1, vI i), (3, .ptr 0 0 0), (10, .ptr 54 0 0)], [(0, .rows 7 [rowA (ContractT.row c)]), (54, .rows 1 [[.imm (.slice (List.map rowI r4))]])], 56⟩ := by
  exact reg_fast [.r (ClauseT.row e2), .v (.slice (List.map rowI r5)), .c [54] 1 (vB r6) [] 0] (AllP.cons (idx_side ClauseT.row he2) (.cons (t_numbers HH e2 r5 hr5) (.cons (call_side (t_26a HH r5 r4 r6 hr6) [54] 63 (.drop rfl rfl .nil) (rhR rhN) rhN) .nil))) h (by kernel_rfl)

noncomputable def d_Linked (c : ContractT) (i : Int) (j : Int) : Option Bool :=
  (Option.bind (bif (i == j) then some true else (bif decide (i < 0) then some true else (bif decide (j < 0) then some true else (bif decide ((c.clauses.length : Int) ≤ i) then some true else some (decide ((c.clauses.length : Int) ≤ j)))))) fun v1 => (bif v1 then some false else (Option.bind (d_Valid c) fun r1 => (bif (r1.1 == 0) then (Option.bind (Option.bind (d_22a i j c) fun r2 => (bif r2 then some true else (Option.bind (d_22a j i c) fun r3 => some r3))) fun v2 => (bif v2 then some true else (Option.bind (idxI c.clauses j) fun e1 => (Option.bind (d_numbers e1) fun r4 => (Option.bind (idxI c.clauses i) fun e2 => (Option.bind (d_numbers e2) fun r5 => (Option.bind (d_26a r5 r4) fun r6 => some r6))))))) else some false))))
set_option maxHeartbeats 4000000 in
theorem t_Linked {C : Ctx} (HH : HasA C) (c : ContractT) (i : Int) (j : Int) (res : Bool) (hd : d_Linked c i j = some res) : APure C 12 [.agg (ContractT.row c), .int .i64 i, .int .i64 j] (.bool res) := by
  refine APure.start HH.h12 5 (by simp [af12]) ?_
  unfold d_Linked at hd
  show awp C _ af12.body (EndsR af12.results _) ⟨[(0, .imm (.agg (ContractT.row c))), (1, vI i), (2, vI j)], [], 0⟩
  refine awp_seq ?_
  refine r12_0_1 HH c i j _ ?_
  refine then_n ?_
  refine awp_seq ?_
  refine awp_seq ?_
  obtain ⟨v1, hv1, hd_1⟩ := obind hd; clear hd
  refine r12_1_2 HH c i j v1 hv1 _ ?_
  clear hv1
  refine then_n ?_
  refine awp_if v1 rfl (fun g => ?_) (fun g => ?_)
  · replace hd_1 := cond_t g hd_1
    refine awp_seq ?_
    refine r12_2_3 HH c i j v1 _ ?_
    refine then_n ?_
    refine awp_ret ?_
    refine then_r ?_
    have ee := Option.some.inj hd_1; subst ee
    exact end_ret (by kernel_rfl)
  · replace hd_1 := cond_f g hd_1
    refine awp_skip ?_
    refine then_n ?_
    refine awp_seq ?_
    refine awp_seq ?_
    obtain ⟨r1, hr1, hd_2⟩ := obind hd_1; clear hd_1
    refine r12_3_4 HH c i j v1 r1 hr1 _ ?_
    clear hr1
    refine then_n ?_
    refine awp_seq ?_
    refine r12_4_5 HH c i j r1 _ ?_
    refine then_n ?_
    refine awp_ifN (r1.1 == 0) rfl (fun g => ?_) (fun g => ?_)
    · replace hd_2 := cond_f g hd_2
      refine awp_seq ?_
      refine r12_5_6 HH c i j r1 _ ?_
      refine then_n ?_
      refine awp_ret ?_
      refine then_r ?_
      have ee := Option.some.inj hd_2; subst ee
      exact end_ret (by kernel_rfl)
    · replace hd_2 := cond_t g hd_2
      refine awp_skip ?_
      refine then_n ?_
      refine awp_seq ?_
      refine r12_6_7 HH c i j r1 _ ?_
      refine then_n ?_
      refine awp_seq ?_
      refine awp_seq ?_
      obtain ⟨v2, hv2, hd_3⟩ := obind hd_2; clear hd_2
      refine r12_7_8 HH c i j v2 hv2 _ ?_
      clear hv2
      refine then_n ?_
      refine awp_if v2 rfl (fun g => ?_) (fun g => ?_)
      · replace hd_3 := cond_t g hd_3
        refine awp_seq ?_
        refine r12_8_9 HH c i j v2 _ ?_
        refine then_n ?_
        refine awp_ret ?_
        refine then_r ?_
        have ee := Option.some.inj hd_3; subst ee
        exact end_ret (by kernel_rfl)
      · replace hd_3 := cond_f g hd_3
        refine awp_skip ?_
        refine then_n ?_
        refine awp_seq ?_
        obtain ⟨e1, he1, hd_4⟩ := obind hd_3; clear hd_3
        obtain ⟨r4, hr4, hd_5⟩ := obind hd_4; clear hd_4
        refine r12_9_10 HH c i j v2 e1 he1 r4 hr4 _ ?_
        clear he1 hr4
        refine then_n ?_
        refine awp_seq ?_
        obtain ⟨e2, he2, hd_6⟩ := obind hd_5; clear hd_5
        obtain ⟨r5, hr5, hd_7⟩ := obind hd_6; clear hd_6
        obtain ⟨r6, hr6, hd_8⟩ := obind hd_7; clear hd_7
        refine r12_10_11 HH c i r4 e2 he2 r5 hr5 r6 hr6 _ ?_
        clear he2 hr5 hr6
        refine then_n ?_
        refine awp_ret ?_
        have ee := Option.some.inj hd_8; subst ee
        exact end_ret (by kernel_rfl)

theorem t_clone34 {C : Ctx} (HH : HasA C) {α : Type} (f : α → List IV) (hf : ∀ x, (f x).length = 1) {l e : List α} (h : cloneI 8 l = some e) : DOk C 34 [.imm (.slice (List.map f l))] [] 0 (.mslice 7 0 e.length) [(7, .rows 1 (rowsA f e))] 8 :=
  clone_ok (zero := [.imm (.int .i64 0)]) (show compFun C 34 = some (afClone 1 8 [.imm (.int .i64 0)]).erase from HH.h34) f hf h

theorem t_clone36 {C : Ctx} (HH : HasA C) {α : Type} (f : α → List IV) (hf : ∀ x, (f x).length = 7) {l e : List α} (h : cloneI 56 l = some e) : DOk C 36 [.imm (.slice (List.map f l))] [] 0 (.mslice 7 0 e.length) [(7, .rows 7 (rowsA f e))] 8 :=
  clone_ok (zero := [.imm (.int .i64 0), .imm (.int .i64 0), .imm (.int .i64 0), .imm (.int .i64 0), .imm (.int .i64 0), .imm (.int .i64 0), .imm (.int .i64 0)]) (show compFun C 36 = some (afClone 7 56 [.imm (.int .i64 0), .imm (.int .i64 0), .imm (.int .i64 0), .imm (.int .i64 0), .imm (.int .i64 0), .imm (.int .i64 0), .imm (.int .i64 0)]).erase from HH.h36) f hf h

theorem t_clone37 {C : Ctx} (HH : HasA C) {α : Type} (f : α → List IV) (hf : ∀ x, (f x).length = 2) {l e : List α} (h : cloneI 16 l = some e) : DOk C 37 [.imm (.slice (List.map f l))] [] 0 (.mslice 7 0 e.length) [(7, .rows 2 (rowsA f e))] 8 :=
  clone_ok (zero := [.imm (.int .i64 0), .imm (.int .i64 0)]) (show compFun C 37 = some (afClone 2 16 [.imm (.int .i64 0), .imm (.int .i64 0)]).erase from HH.h37) f hf h

end Go.Proofs.Ytgligibbgobmnaa
namespace Go.Proofs.Ytgligibbgobmnaa
open Go.RowKit
set_option linter.unusedVariables false
set_option linter.unusedSimpArgs false
set_option maxRecDepth 100000

theorem r32a_0_1 {C : Ctx} {nt : Nat} (HH : HasA C) (p1 : ActT)  (P : Exit → St → Prop) (h : P .normal ⟨[(1, .ptr 0 0 0)], [(0, .rows 7 [rowA (ActT.row p1)])], 2⟩) : awp C nt (.region false [] ri32_0 (some [1])) P ⟨[(0, .imm (.agg [.int .i64 p1.kind, .int .i64 p1.role, .int .i64 p1.give, .int .i64 p1.to, .int .i64 p1.unit, .int .i64 p1.lot.num, .int .i64 p1.lot.den]))], [], 0⟩ := by
  exact reg_fast [] AllP.nil h (by kernel_rfl)

theorem r32a_1_2 {C : Ctx} {nt : Nat} (HH : HasA C) (p1 : ActT)  (P : Exit → St → Prop) (h : P .normal ⟨[(2, vB (!(p1.kind == 1)))], [(0, .rows 7 [rowA (ActT.row p1)])], 6⟩) : awp C nt (.region false [] ri32_1 (some [2])) P ⟨[(1, .ptr 0 0 0)], [(0, .rows 7 [rowA (ActT.row p1)])], 2⟩ := by
  exact reg_fast [] AllP.nil h (by kernel_rfl)

noncomputable def d_32a (p1 : ActT) : Option Unit :=
  some ()
set_option maxHeartbeats 4000000 in
theorem t_32a {C : Ctx} (HH : HasA C) (p1 : ActT) (res : Unit) (hd : d_32a p1 = some res) : DOk C 32 [.imm (.agg [.int .i64 p1.kind, .int .i64 p1.role, .int .i64 p1.give, .int .i64 p1.to, .int .i64 p1.unit, .int .i64 p1.lot.num, .int .i64 p1.lot.den])] [] 0 (vB (!(p1.kind == 1))) [] 0 := by
  refine DOk.start HH.h32 (by simp [af32]) .nil .nil (by kernel_rfl) (by kernel_rfl) (by kernel_rfl) (by kernel_rfl) ?_
  unfold d_32a at hd
  show awp C _ af32.body (EndsD af32.results _ _ _) ⟨[(0, .imm (.agg [.int .i64 p1.kind, .int .i64 p1.role, .int .i64 p1.give, .int .i64 p1.to, .int .i64 p1.unit, .int .i64 p1.lot.num, .int .i64 p1.lot.den]))], [], 0⟩
  refine awp_seq ?_
  refine r32a_0_1 HH p1 _ ?_
  refine then_n ?_
  refine awp_seq ?_
  refine r32a_1_2 HH p1 _ ?_
  refine then_n ?_
  refine awp_ret ?_
  have ee := Option.some.inj hd; subst ee
  exact end_d (by kernel_rfl) (weak_run [0] [] 0 [] [] AllP.nil (by kernel_rfl))

theorem r51a_0_1 {C : Ctx} {nt : Nat} (HH : HasA C) (p1 : List ActT)  (P : Exit → St → Prop) (h : P .normal ⟨[(0, .imm (.slice (List.map ActT.row p1))), (1, .func 32 [] [])], [], 1⟩) : awp C nt (.region false [] ri51_0 (some [0, 1])) P ⟨[(0, .imm (.slice (List.map ActT.row p1))), (1, .func 32 [] [])], [], 0⟩ := by
  exact reg_fast [] AllP.nil h (by kernel_rfl)

theorem r51a_1_2 {C : Ctx} {nt : Nat} (HH : HasA C) (p1 : List ActT)  (P : Exit → St → Prop) (h : P .normal ⟨[(0, .imm (.slice (List.map ActT.row p1))), (1, .func 32 [] []), (7, vI (p1.length : Int)), (8, vI 0)], [], 4⟩) : awp C nt (.region false [] ri51_1 (some [0, 1, 7, 8])) P ⟨[(0, .imm (.slice (List.map ActT.row p1))), (1, .func 32 [] [])], [], 1⟩ := by
  exact reg_fast [.n (p1.length : Int)] (AllP.cons (len_side ActT.row p1) .nil) h (by kernel_rfl)

theorem r51a_2_3 {C : Ctx} {nt : Nat} (HH : HasA C) (p1 : List ActT) (i1 : Nat)  (P : Exit → St → Prop) (h : P .normal ⟨[(0, .imm (.slice (List.map ActT.row p1))), (1, .func 32 [] []), (7, vI (p1.length : Int)), (8, vI (i1 : Int)), (9, vB (decide ((i1 : Int) < (p1.length : Int))))], [], 5⟩) : awp C nt (.region false [] ri51_2 (some [0, 1, 7, 8, 9])) P ⟨[(0, .imm (.slice (List.map ActT.row p1))), (1, .func 32 [] []), (7, vI (p1.length : Int)), (8, vI (i1 : Int))], [], 4⟩ := by
  exact reg_fast [] AllP.nil h (by kernel_rfl)

theorem r51a_3_4 {C : Ctx} {nt : Nat} (HH : HasA C) (p1 : List ActT) (i1 : Nat)  (P : Exit → St → Prop) (h : P .normal ⟨[(0, .imm (.slice (List.map ActT.row p1))), (1, .func 32 [] []), (7, vI (p1.length : Int)), (8, vI (i1 : Int)), (5, vI (i1 : Int))], [], 7⟩) : awp C nt (.region false [] ri51_3 (some [0, 1, 5, 7, 8])) P ⟨[(0, .imm (.slice (List.map ActT.row p1))), (1, .func 32 [] []), (7, vI (p1.length : Int)), (8, vI (i1 : Int)), (9, vB (decide ((i1 : Int) < (p1.length : Int))))], [], 5⟩ := by
  exact reg_fast [] AllP.nil h (by kernel_rfl)

theorem r51a_4_5 {C : Ctx} {nt : Nat} (HH : HasA C) (p1 : List ActT) (i1 : Nat) (e1 : ActT) (he1 : idxI p1 (i1 : Int) = some e1) (r1 : Unit) (hr1 : d_32a e1 = some r1) (P : Exit → St → Prop) (h : P .normal ⟨[(0, .imm (.slice (List.map ActT.row p1))), (1, .func 32 [] []), (7, vI (p1.length : Int)), (8, vI (i1 : Int)), (5, vI (i1 : Int)), (16, vB (!(e1.kind == 1)))], [], 13⟩) : awp C nt (.region false [] ri51_4 (some [0, 1, 5, 7, 8, 16])) P ⟨[(0, .imm (.slice (List.map ActT.row p1))), (1, .func 32 [] []), (7, vI (p1.length : Int)), (8, vI (i1 : Int)), (5, vI (i1 : Int))], [], 7⟩ := by
  exact reg_fast [.r (ActT.row e1), .c [] 0 (vB (!(e1.kind == 1))) [] 0] (AllP.cons (idx_side ActT.row he1) (.cons (call_side (t_32a HH e1 r1 hr1) [] 12 .nil rhN rhN) .nil)) h (by kernel_rfl)

theorem r51a_5_6 {C : Ctx} {nt : Nat} (HH : HasA C) (p1 : List ActT) (i1 : Nat) (e1 : ActT)  (P : Exit → St → Prop) (h : P .normal ⟨[(4, vI (i1 : Int))], [], 15⟩) : awp C nt (.region false [] ri51_5 (some [4])) P ⟨[(0, .imm (.slice (List.map ActT.row p1))), (1, .func 32 [] []), (7, vI (p1.length : Int)), (8, vI (i1 : Int)), (5, vI (i1 : Int)), (16, vB (!(e1.kind == 1)))], [], 13⟩ := by
  exact reg_fast [] AllP.nil h (by kernel_rfl)

theorem r51a_6_7 {C : Ctx} {nt : Nat} (HH : HasA C) (p1 : List ActT) (i1 : Nat) (e1 : ActT)  (P : Exit → St → Prop) (h : P .normal ⟨[(0, .imm (.slice (List.map ActT.row p1))), (1, .func 32 [] []), (7, vI (p1.length : Int)), (8, vI (IntKind.i64.wrap ((i1 : Int) + 1)))], [], 15⟩) : awp C nt (.region false [] ri51_6 (some [0, 1, 7, 8])) P ⟨[(0, .imm (.slice (List.map ActT.row p1))), (1, .func 32 [] []), (7, vI (p1.length : Int)), (8, vI (i1 : Int)), (5, vI (i1 : Int)), (16, vB (!(e1.kind == 1)))], [], 13⟩ := by
  exact reg_fast [] AllP.nil h (by kernel_rfl)

theorem r51a_2_8 {C : Ctx} {nt : Nat} (HH : HasA C) (p1 : List ActT) (i1 : Nat)  (P : Exit → St → Prop) (h : P .normal ⟨[(0, .imm (.slice (List.map ActT.row p1))), (1, .func 32 [] []), (7, vI (p1.length : Int)), (8, vI (i1 : Int)), (9, vB (decide ((i1 : Int) < (p1.length : Int))))], [], 5⟩) : awp C nt (.region false [] ri51_2 (some [0, 1, 7, 8, 9])) P ⟨[(0, .imm (.slice (List.map ActT.row p1))), (1, .func 32 [] []), (7, vI (p1.length : Int)), (8, vI (i1 : Int))], [], 4⟩ := by
  exact reg_fast [] AllP.nil h (by kernel_rfl)

theorem r51a_7_9 {C : Ctx} {nt : Nat} (HH : HasA C) (p1 : List ActT) (i1 : Nat)  (P : Exit → St → Prop) (h : P .normal ⟨[(4, vI (-1))], [], 6⟩) : awp C nt (.region false [] ri51_7 (some [4])) P ⟨[(0, .imm (.slice (List.map ActT.row p1))), (1, .func 32 [] []), (7, vI (p1.length : Int)), (8, vI (i1 : Int)), (9, vB (decide ((i1 : Int) < (p1.length : Int))))], [], 5⟩ := by
  exact reg_fast [] AllP.nil h (by kernel_rfl)

noncomputable def d_51a (p1 : List ActT) : Option Int :=
  (Option.bind (forR (σ := Unit) (ρ := Int) (p1.length : Int) (fun i1 s1 => (Option.bind (idxI p1 (i1 : Int)) fun e1 => (Option.bind (d_32a e1) fun r1 => (bif (e1.kind == 1) then some (.inl ()) else some (.inr (i1 : Int)))))) ()) (Sum.elim (fun (s1 : Unit) => some (-1)) (fun (y1 : Int) => some y1)))
set_option maxHeartbeats 4000000 in
theorem t_51a {C : Ctx} (HH : HasA C) (p1 : List ActT) (res : Int) (hd : d_51a p1 = some res) : DOk C 51 [.imm (.slice (List.map ActT.row p1)), .func 32 [] []] [] 0 (vI res) [] 0 := by
  refine DOk.start HH.h51 (by simp [af51]) .nil .nil (by kernel_rfl) (by kernel_rfl) (by kernel_rfl) (by kernel_rfl) ?_
  unfold d_51a at hd
  show awp C _ af51.body (EndsD af51.results _ _ _) ⟨[(0, .imm (.slice (List.map ActT.row p1))), (1, .func 32 [] [])], [], 0⟩
  refine awp_seq ?_
  refine r51a_0_1 HH p1 _ ?_
  refine then_n ?_
  refine awp_seq ?_
  refine awp_seq ?_
  refine r51a_1_2 HH p1 _ ?_
  refine then_n ?_
  refine awp_block ?_
  obtain ⟨o1, hl_o1, hd_1⟩ := obind hd; clear hd
  refine awp_forR hl_o1 (fun i1 s1 => [(0, .imm (.slice (List.map ActT.row p1))), (1, .func 32 [] []), (7, vI (p1.length : Int)), (8, vI (i1 : Int))]) (fun i1 s1 => []) ?_ ?_ ?_
  · exact weak_run [0, 1, 7, 8] [] 4 [] [] AllP.nil (by kernel_rfl)
  · intro i1 s1 o hi_i1 hw_i1 hs_s1
    refine awp_seq ?_
    refine r51a_2_3 HH p1 i1 _ ?_
    refine then_n ?_
    refine awp_seq ?_
    refine awp_ifT (by simp [*]) ?_
    refine awp_skip ?_
    refine then_n ?_
    refine awp_seq ?_
    refine awp_block ?_
    refine awp_seq ?_
    refine r51a_3_4 HH p1 i1 _ ?_
    refine then_n ?_
    refine awp_seq ?_
    obtain ⟨e1, he1, hs_s1_1⟩ := obind hs_s1; clear hs_s1
    obtain ⟨r1, hr1, hs_s1_2⟩ := obind hs_s1_1; clear hs_s1_1
    refine r51a_4_5 HH p1 i1 e1 he1 r1 hr1 _ ?_
    clear he1 hr1
    refine then_n ?_
    refine awp_ifN (e1.kind == 1) rfl (fun g => ?_) (fun g => ?_)
    · replace hs_s1_2 := cond_f g hs_s1_2
      refine awp_seq ?_
      refine r51a_5_6 HH p1 i1 e1 _ ?_
      refine then_n ?_
      refine awp_ret ?_
      refine inb_r ?_
      refine then_r ?_
      cases hs_s1_2
      refine ⟨_, rfl, fun hq => ?_⟩
      subst hq
      replace hd_1 := sel_r hd_1
      refine inb_r ?_
      refine then_r ?_
      have ee := Option.some.inj hd_1; subst ee
      exact end_d (by kernel_rfl) (weak_run [0] [] 0 [] [] AllP.nil (by kernel_rfl))
    · replace hs_s1_2 := cond_t g hs_s1_2
      refine awp_skip ?_
      refine inb_n ?_
      refine then_n ?_
      refine r51a_6_7 HH p1 i1 e1 _ ?_
      cases hs_s1_2
      exact ⟨_, rfl, weak_run [0, 1, 7, 8] [] 4 [(8, vI (((i1 + 1 : Nat) : Int)))] [] (AllP.cons (ov_int hw_i1) .nil) (by kernel_rfl)⟩
  · intro i1 s1 hi_i1 ho
    subst ho
    replace hd_1 := sel_l hd_1
    refine awp_seq ?_
    refine r51a_2_8 HH p1 i1 _ ?_
    refine then_n ?_
    refine awp_seq ?_
    refine awp_ifF (by simp [*]) ?_
    refine awp_exit ?_
    refine then_x ?_
    refine then_x ?_
    refine inb_eq ?_
    refine then_n ?_
    refine awp_seq ?_
    refine r51a_7_9 HH p1 i1 _ ?_
    refine then_n ?_
    refine awp_ret ?_
    have ee := Option.some.inj hd_1; subst ee
    exact end_d (by kernel_rfl) (weak_run [0] [] 0 [] [] AllP.nil (by kernel_rfl))

theorem r31a_0_1 {C : Ctx} {nt : Nat} (HH : HasA C) (p1 : List ActT)  (P : Exit → St → Prop) (h : P .normal ⟨[(0, .imm (.slice (List.map ActT.row p1))), (1, .func 32 [] [])], [], 1⟩) : awp C nt (.region false [] ri31_0 (some [0, 1])) P ⟨[(0, .imm (.slice (List.map ActT.row p1))), (1, .func 32 [] [])], [], 0⟩ := by
  exact reg_fast [] AllP.nil h (by kernel_rfl)

theorem r31a_1_2 {C : Ctx} {nt : Nat} (HH : HasA C) (p1 : List ActT) (r1 : Int) (hr1 : d_51a p1 = some r1) (P : Exit → St → Prop) (h : P .normal ⟨[(4, vB (decide (0 ≤ r1)))], [], 6⟩) : awp C nt (.region false [] ri31_1 (some [4])) P ⟨[(0, .imm (.slice (List.map ActT.row p1))), (1, .func 32 [] [])], [], 1⟩ := by
  exact reg_fast [.c [] 0 (vI r1) [] 0] (AllP.cons (call_side (t_51a HH p1 r1 hr1) [] 3 .nil rhN rhN) .nil) h (by kernel_rfl)

noncomputable def d_31a (p1 : List ActT) : Option Bool :=
  (Option.bind (d_51a p1) fun r1 => some (decide (0 ≤ r1)))
set_option maxHeartbeats 4000000 in
theorem t_31a {C : Ctx} (HH : HasA C) (p1 : List ActT) (res : Bool) (hd : d_31a p1 = some res) : DOk C 31 [.imm (.slice (List.map ActT.row p1)), .func 32 [] []] [] 0 (vB res) [] 0 := by
  refine DOk.start HH.h31 (by simp [af31]) .nil .nil (by kernel_rfl) (by kernel_rfl) (by kernel_rfl) (by kernel_rfl) ?_
  unfold d_31a at hd
  show awp C _ af31.body (EndsD af31.results _ _ _) ⟨[(0, .imm (.slice (List.map ActT.row p1))), (1, .func 32 [] [])], [], 0⟩
  refine awp_seq ?_
  refine r31a_0_1 HH p1 _ ?_
  refine then_n ?_
  refine awp_seq ?_
  obtain ⟨r1, hr1, hd_1⟩ := obind hd; clear hd
  refine r31a_1_2 HH p1 r1 hr1 _ ?_
  clear hr1
  refine then_n ?_
  refine awp_ret ?_
  have ee := Option.some.inj hd_1; subst ee
  exact end_d (by kernel_rfl) (weak_run [0] [] 0 [] [] AllP.nil (by kernel_rfl))

theorem r29a_0_1 {C : Ctx} {nt : Nat} (HH : HasA C) (p1 : Int) (p2 : List Int)  (P : Exit → St → Prop) (h : P .normal ⟨[(0, vI p1), (1, .ptr 0 0 0), (2, .ptr 1 0 0)], [(0, .rows 1 (rowsA rowI p2)), (1, .rows 1 [[.func 29 [] [.ptr 0 0 0, .ptr 1 0 0]]])], 3⟩) : awp C nt (.region false [] ri29_0 (some [0, 1, 2])) P ⟨[(0, vI p1), (1, .ptr 0 0 0), (2, .ptr 1 0 0)], [(0, .rows 1 (rowsA rowI p2)), (1, .rows 1 [[.func 29 [] [.ptr 0 0 0, .ptr 1 0 0]]])], 2⟩ := by
  exact reg_fast [] AllP.nil h (by kernel_rfl)

theorem r29a_1_2 {C : Ctx} {nt : Nat} (HH : HasA C) (p1 : Int) (p2 : List Int) (k1 : Nat) (hk1 : idxN 400 p1 = some k1) (e1 : Int) (he1 : p2[k1]? = some e1) (P : Exit → St → Prop) (h : P .normal ⟨[(0, vI p1), (1, .ptr 0 0 0), (2, .ptr 1 0 0), (9, vB (!(e1 == p1)))], [(0, .rows 1 (rowsA rowI p2)), (1, .rows 1 [[.func 29 [] [.ptr 0 0 0, .ptr 1 0 0]]])], 8⟩) : awp C nt (.region false [] ri29_1 (some [0, 1, 2, 9])) P ⟨[(0, vI p1), (1, .ptr 0 0 0), (2, .ptr 1 0 0)], [(0, .rows 1 (rowsA rowI p2)), (1, .rows 1 [[.func 29 [] [.ptr 0 0 0, .ptr 1 0 0]]])], 3⟩ := by
  exact reg_fast [.k k1, .ar (rowA (rowI e1))] (AllP.cons (midx_side hk1) (.cons (row_side rowI he1) .nil)) h (by kernel_rfl)

theorem r29a_2_3 {C : Ctx} {nt : Nat} (HH : HasA C) (p1 : Int) (p2 : List Int) (rec : Int → (List Int) → Option (Int × (List Int))) (hrec : ∀ (p1 : Int) (p2 : List Int) (res : Int × (List Int)), rec p1 p2 = some res → DOk C 29 [vI p1, .ptr 0 0 0, .ptr 1 0 0] [(0, .rows 1 (rowsA rowI p2)), (1, .rows 1 [[.func 29 [] [.ptr 0 0 0, .ptr 1 0 0]]])] 2 (vI res.1) [(0, .rows 1 (rowsA rowI res.2)), (1, .rows 1 [[.func 29 [] [.ptr 0 0 0, .ptr 1 0 0]]])] 0) (e1 : Int) (k2 : Nat) (hk2 : idxN 400 p1 = some k2) (e2 : Int) (he2 : p2[k2]? = some e2) (r1 : Int × (List Int)) (hr1 : rec e2 p2 = some r1) (e3 : Int) (he3 : r1.2[k2]? = some e3) (P : Exit → St → Prop) (h : P .normal ⟨[(0, vI p1), (1, .ptr 0 0 0)], [(0, .rows 1 (rowsA rowI (r1.2.set k2 r1.1))), (1, .rows 1 [[.func 29 [] [.ptr 0 0 0, .ptr 1 0 0]]])], 16⟩) : awp C nt (.region true [0, 0, 0, 4, 12, 30, 63, 127] ri29_2 (some [0, 1])) P ⟨[(0, vI p1), (1, .ptr 0 0 0), (2, .ptr 1 0 0), (9, vB (!(e1 == p1)))], [(0, .rows 1 (rowsA rowI p2)), (1, .rows 1 [[.func 29 [] [.ptr 0 0 0, .ptr 1 0 0]]])], 8⟩ := by
  exact drw_fast [.k k2, .ar (rowA (rowI e2)), .c [0, 1] 2 (vI r1.1) [(0, .rows 1 (rowsA rowI r1.2))] 0, .k k2, .aw (rowA (rowI e3)) (rowsA rowI (r1.2.set k2 r1.1))] (AllP.cons (midx_side hk2) (.cons (row_side rowI he2) (.cons (call_side (hrec  e2 p2 r1 hr1) [0, 1] 13 (.keep (.drop rfl rfl .nil)) (rhI (rhR rhN)) (rhI rhN)) (.cons (midx_side hk2) (.cons (sto_side rowI r1.1 he3) .nil))))) h (by kernel_rfl)

theorem r29a_3_4 {C : Ctx} {nt : Nat} (HH : HasA C) (p1 : Int) (v1 : (List Int)) (k3 : Nat) (hk3 : idxN 400 p1 = some k3) (e4 : Int) (he4 : v1[k3]? = some e4) (P : Exit → St → Prop) (h : P .normal ⟨[(4, vI e4)], [(0, .rows 1 (rowsA rowI v1)), (1, .rows 1 [[.func 29 [] [.ptr 0 0 0, .ptr 1 0 0]]])], 12⟩) : awp C nt (.region false [] ri29_3 (some [4])) P ⟨[(0, vI p1), (1, .ptr 0 0 0)], [(0, .rows 1 (rowsA rowI v1)), (1, .rows 1 [[.func 29 [] [.ptr 0 0 0, .ptr 1 0 0]]])], 8⟩ := by
  exact reg_fast [.k k3, .ar (rowA (rowI e4))] (AllP.cons (midx_side hk3) (.cons (row_side rowI he4) .nil)) h (by kernel_rfl)

noncomputable def d_29a_s (rec : Int → (List Int) → Option (Int × (List Int))) (p1 : Int) (p2 : List Int) : Option (Int × (List Int)) :=
  (Option.bind (Option.bind (idxN 400 p1) fun k1 => (Option.bind (p2[k1]?) fun e1 => (bif (e1 == p1) then some p2 else (Option.bind (idxN 400 p1) fun k2 => (Option.bind (p2[k2]?) fun e2 => (Option.bind (rec e2 p2) fun r1 => (Option.bind (r1.2[k2]?) fun e3 => some (r1.2.set k2 r1.1)))))))) fun (v1 : (List Int)) => (Option.bind (idxN 400 p1) fun k3 => (Option.bind (v1[k3]?) fun e4 => some (e4, v1))))
set_option maxHeartbeats 4000000 in
theorem t_29a_s {C : Ctx} (HH : HasA C) (rec : Int → (List Int) → Option (Int × (List Int))) (hrec : ∀ (p1 : Int) (p2 : List Int) (res : Int × (List Int)), rec p1 p2 = some res → DOk C 29 [vI p1, .ptr 0 0 0, .ptr 1 0 0] [(0, .rows 1 (rowsA rowI p2)), (1, .rows 1 [[.func 29 [] [.ptr 0 0 0, .ptr 1 0 0]]])] 2 (vI res.1) [(0, .rows 1 (rowsA rowI res.2)), (1, .rows 1 [[.func 29 [] [.ptr 0 0 0, .ptr 1 0 0]]])] 0) (p1 : Int) (p2 : List Int) (res : Int × (List Int)) (hd : d_29a_s rec p1 p2 = some res) : DOk C 29 [vI p1, .ptr 0 0 0, .ptr 1 0 0] [(0, .rows 1 (rowsA rowI p2)), (1, .rows 1 [[.func 29 [] [.ptr 0 0 0, .ptr 1 0 0]]])] 2 (vI res.1) [(0, .rows 1 (rowsA rowI res.2)), (1, .rows 1 [[.func 29 [] [.ptr 0 0 0, .ptr 1 0 0]]])] 0 := by
  refine DOk.start HH.h29 (by simp [af29]) (.rows rfl (.exp rfl rfl .nil)) (.rows rfl (.exp rfl rfl .nil)) (by kernel_rfl) (by kernel_rfl) (by kernel_rfl) (by kernel_rfl) ?_
  unfold d_29a_s at hd
  show awp C _ af29.body (EndsD af29.results _ _ _) ⟨[(0, vI p1), (1, .ptr 0 0 0), (2, .ptr 1 0 0)], [(0, .rows 1 (rowsA rowI p2)), (1, .rows 1 [[.func 29 [] [.ptr 0 0 0, .ptr 1 0 0]]])], 2⟩
  refine awp_seq ?_
  refine r29a_0_1 HH p1 p2 _ ?_
  refine then_n ?_
  obtain ⟨v1, hc_v1, hd_1⟩ := obind hd; clear hd
  refine awp_seqW ⟨[(0, vI p1), (1, .ptr 0 0 0)], [(0, .rows 1 (rowsA rowI v1)), (1, .rows 1 [[.func 29 [] [.ptr 0 0 0, .ptr 1 0 0]]])], 8⟩ (by simp) ?_ ?_
  · skip
    refine awp_seq ?_
    obtain ⟨k1, hk1, hc_v1_1⟩ := obind hc_v1; clear hc_v1
    obtain ⟨e1, he1, hc_v1_2⟩ := obind hc_v1_1; clear hc_v1_1
    refine r29a_1_2 HH p1 p2 k1 hk1 e1 he1 _ ?_
    clear hk1 he1
    refine then_n ?_
    refine awp_ifN (e1 == p1) rfl (fun g => ?_) (fun g => ?_)
    · replace hc_v1_2 := cond_f g hc_v1_2
      obtain ⟨k2, hk2, hc_v1_3⟩ := obind hc_v1_2; clear hc_v1_2
      obtain ⟨e2, he2, hc_v1_4⟩ := obind hc_v1_3; clear hc_v1_3
      obtain ⟨r1, hr1, hc_v1_5⟩ := obind hc_v1_4; clear hc_v1_4
      obtain ⟨e3, he3, hc_v1_6⟩ := obind hc_v1_5; clear hc_v1_5
      refine r29a_2_3 HH p1 p2 rec hrec e1 k2 hk2 e2 he2 r1 hr1 e3 he3 _ ?_
      clear hk2 he2 hr1 he3
      have ee := Option.some.inj hc_v1_6; subst ee
      exact then_n (weak_run [0, 1] [(0, false), (1, true)] 8 [] [] (AllP.cons (rowsA_below 8 1 rowI (r1.2.set k2 r1.1)) .nil) (by kernel_rfl))
    · replace hc_v1_2 := cond_t g hc_v1_2
      refine awp_skip ?_
      have ee := Option.some.inj hc_v1_2; subst ee
      exact then_n (weak_run [0, 1] [(0, false), (1, true)] 8 [] [] (AllP.cons (rowsA_below 8 1 rowI p2) .nil) (by kernel_rfl))
  · skip
    refine awp_seq ?_
    obtain ⟨k3, hk3, hd_2⟩ := obind hd_1; clear hd_1
    obtain ⟨e4, he4, hd_3⟩ := obind hd_2; clear hd_2
    refine r29a_3_4 HH p1 v1 k3 hk3 e4 he4 _ ?_
    clear hk3 he4
    refine then_n ?_
    refine awp_ret ?_
    have ee := Option.some.inj hd_3; subst ee
    exact end_d (by kernel_rfl) (weak_run [0] [(0, false), (1, true)] 2 [] [] (AllP.cons (rowsA_below 2 1 rowI v1) .nil) (by kernel_rfl))

noncomputable def d_29a_n : Nat → Int → (List Int) → Option (Int × (List Int))
  | 0 => fun _ _ => none
  | k + 1 => d_29a_s (d_29a_n k)
noncomputable def d_29a (p1 : Int) (p2 : List Int) : Option (Int × (List Int)) := lim fun k => d_29a_n k p1 p2
theorem t_29a_n {C : Ctx} (HH : HasA C) : ∀ (k : Nat) (p1 : Int) (p2 : List Int) (res : Int × (List Int)), d_29a_n k p1 p2 = some res → DOk C 29 [vI p1, .ptr 0 0 0, .ptr 1 0 0] [(0, .rows 1 (rowsA rowI p2)), (1, .rows 1 [[.func 29 [] [.ptr 0 0 0, .ptr 1 0 0]]])] 2 (vI res.1) [(0, .rows 1 (rowsA rowI res.2)), (1, .rows 1 [[.func 29 [] [.ptr 0 0 0, .ptr 1 0 0]]])] 0
  | 0 => fun p1 p2 res h => by cases h
  | k + 1 => fun p1 p2 res h => t_29a_s HH (d_29a_n k) (t_29a_n HH k) p1 p2 res h
theorem t_29a {C : Ctx} (HH : HasA C) (p1 : Int) (p2 : List Int) (res : Int × (List Int)) (hd : d_29a p1 p2 = some res) : DOk C 29 [vI p1, .ptr 0 0 0, .ptr 1 0 0] [(0, .rows 1 (rowsA rowI p2)), (1, .rows 1 [[.func 29 [] [.ptr 0 0 0, .ptr 1 0 0]]])] 2 (vI res.1) [(0, .rows 1 (rowsA rowI res.2)), (1, .rows 1 [[.func 29 [] [.ptr 0 0 0, .ptr 1 0 0]]])] 0 := by
  obtain ⟨k, hk⟩ := lim_some hd
  exact t_29a_n HH k p1 p2 res hk

theorem r30a_0_1 {C : Ctx} {nt : Nat} (HH : HasA C) (p1 : Int) (p2 : Int) (p3 : List Int) (r1 : Int × (List Int)) (hr1 : d_29a p1 p3 = some r1) (r2 : Int × (List Int)) (hr2 : d_29a p2 r1.2 = some r2) (r3 : Int × (List Int)) (hr3 : d_29a p1 r2.2 = some r3) (r4 : Int × (List Int)) (hr4 : d_29a p2 r3.2 = some r4) (P : Exit → St → Prop) (h : P .normal ⟨[(3, .ptr 1 0 0), (6, vI (if r2.1 < r1.1 then r2.1 else r1.1)), (7, vI (if r3.1 < r4.1 then r4.1 else r3.1))], [(0, .rows 1 [[.func 29 [] [.ptr 1 0 0, .ptr 0 0 0]]]), (1, .rows 1 (rowsA rowI r4.2))], 18⟩) : awp C nt (.region true [0, 0, 3, 0, 0, 31, 63, 0, 0, 447, 0, 0, 4031, 8127, 8191, 32767] ri30_0 (some [3, 6, 7])) P ⟨[(0, vI p1), (1, vI p2), (2, .ptr 0 0 0), (3, .ptr 1 0 0)], [(0, .rows 1 [[.func 29 [] [.ptr 1 0 0, .ptr 0 0 0]]]), (1, .rows 1 (rowsA rowI p3))], 2⟩ := by
  exact drw_fast [.c [1, 0] 2 (vI r1.1) [(1, .rows 1 (rowsA rowI r1.2))] 0, .c [1, 0] 2 (vI r2.1) [(1, .rows 1 (rowsA rowI r2.2))] 0, .c [1, 0] 2 (vI r3.1) [(1, .rows 1 (rowsA rowI r3.2))] 0, .c [1, 0] 2 (vI r4.1) [(1, .rows 1 (rowsA rowI r4.2))] 0] (AllP.cons (call_side (t_29a HH p1 p3 r1 hr1) [1, 0] 4 (.keep (.drop rfl rfl .nil)) (rhI (rhR rhN)) (rhI rhN)) (.cons (call_side (t_29a HH p2 r1.2 r2 hr2) [1, 0] 7 (.keep (.drop rfl rfl .nil)) (rhI (rhR rhN)) (rhI rhN)) (.cons (call_side (t_29a HH p1 r2.2 r3 hr3) [1, 0] 11 (.keep (.drop rfl rfl .nil)) (rhI (rhR rhN)) (rhI rhN)) (.cons (call_side (t_29a HH p2 r3.2 r4 hr4) [1, 0] 14 (.keep (.drop rfl rfl .nil)) (rhI (rhR rhN)) (rhI rhN)) .nil)))) h (by kernel_rfl)

theorem r30a_1_2 {C : Ctx} {nt : Nat} (HH : HasA C) (r1 : Int × (List Int)) (r2 : Int × (List Int)) (r3 : Int × (List Int)) (r4 : Int × (List Int)) (k1 : Nat) (hk1 : idxN 400 (if r3.1 < r4.1 then r4.1 else r3.1) = some k1) (e1 : Int) (he1 : r4.2[k1]? = some e1) (P : Exit → St → Prop) (h : P .normal ⟨[], [(0, .rows 1 [[.func 29 [] [.ptr 1 0 0, .ptr 0 0 0]]]), (1, .rows 1 (rowsA rowI (r4.2.set k1 (if r2.1 < r1.1 then r2.1 else r1.1))))], 22⟩) : awp C nt (.region false [] ri30_1 (some [])) P ⟨[(3, .ptr 1 0 0), (6, vI (if r2.1 < r1.1 then r2.1 else r1.1)), (7, vI (if r3.1 < r4.1 then r4.1 else r3.1))], [(0, .rows 1 [[.func 29 [] [.ptr 1 0 0, .ptr 0 0 0]]]), (1, .rows 1 (rowsA rowI r4.2))], 18⟩ := by
  exact reg_fast [.k k1, .aw (rowA (rowI e1)) (rowsA rowI (r4.2.set k1 (if r2.1 < r1.1 then r2.1 else r1.1)))] (AllP.cons (midx_side hk1) (.cons (sto_side rowI (if r2.1 < r1.1 then r2.1 else r1.1) he1) .nil)) h (by kernel_rfl)

noncomputable def d_30a (p1 : Int) (p2 : Int) (p3 : List Int) : Option (List Int) :=
  (Option.bind (d_29a p1 p3) fun r1 => (Option.bind (d_29a p2 r1.2) fun r2 => (Option.bind (d_29a p1 r2.2) fun r3 => (Option.bind (d_29a p2 r3.2) fun r4 => (Option.bind (idxN 400 (if r3.1 < r4.1 then r4.1 else r3.1)) fun k1 => (Option.bind (r4.2[k1]?) fun e1 => some (r4.2.set k1 (if r2.1 < r1.1 then r2.1 else r1.1))))))))
set_option maxHeartbeats 4000000 in
theorem t_30a {C : Ctx} (HH : HasA C) (p1 : Int) (p2 : Int) (p3 : List Int) (res : (List Int)) (hd : d_30a p1 p2 p3 = some res) : DOk C 30 [vI p1, vI p2, .ptr 0 0 0, .ptr 1 0 0] [(0, .rows 1 [[.func 29 [] [.ptr 1 0 0, .ptr 0 0 0]]]), (1, .rows 1 (rowsA rowI p3))] 2 (.tuple []) [(0, .rows 1 [[.func 29 [] [.ptr 1 0 0, .ptr 0 0 0]]]), (1, .rows 1 (rowsA rowI res))] 0 := by
  refine DOk.start HH.h30 (by simp [af30]) (.exp rfl rfl (.rows rfl .nil)) (.exp rfl rfl (.rows rfl .nil)) (by kernel_rfl) (by kernel_rfl) (by kernel_rfl) (by kernel_rfl) ?_
  unfold d_30a at hd
  show awp C _ af30.body (EndsD af30.results _ _ _) ⟨[(0, vI p1), (1, vI p2), (2, .ptr 0 0 0), (3, .ptr 1 0 0)], [(0, .rows 1 [[.func 29 [] [.ptr 1 0 0, .ptr 0 0 0]]]), (1, .rows 1 (rowsA rowI p3))], 2⟩
  refine awp_seq ?_
  obtain ⟨r1, hr1, hd_1⟩ := obind hd; clear hd
  obtain ⟨r2, hr2, hd_2⟩ := obind hd_1; clear hd_1
  obtain ⟨r3, hr3, hd_3⟩ := obind hd_2; clear hd_2
  obtain ⟨r4, hr4, hd_4⟩ := obind hd_3; clear hd_3
  refine r30a_0_1 HH p1 p2 p3 r1 hr1 r2 hr2 r3 hr3 r4 hr4 _ ?_
  clear hr1 hr2 hr3 hr4
  refine then_n ?_
  obtain ⟨k1, hk1, hd_5⟩ := obind hd_4; clear hd_4
  obtain ⟨e1, he1, hd_6⟩ := obind hd_5; clear hd_5
  refine r30a_1_2 HH r1 r2 r3 r4 k1 hk1 e1 he1 _ ?_
  clear hk1 he1
  have ee := Option.some.inj hd_6; subst ee
  exact end_dn (by kernel_rfl) (weak_run [0] [(0, true), (1, false)] 2 [] [] (AllP.cons (rowsA_below 2 1 rowI (r4.2.set k1 (if r2.1 < r1.1 then r2.1 else r1.1))) .nil) (by kernel_rfl))

noncomputable def d_gather_step (i : Nat) (s : List (List Int) × List (Int × Int) × List Int) : Option ((List (List Int) × List (Int × Int) × List Int) ⊕ Unit) :=
  Option.bind (d_29a (i : Int) s.2.2) fun r =>
    bif r.1 == (i : Int) then some (.inl (s.1 ++ [[(i : Int)]], mset (i : Int) (s.1.length : Int) s.2.1, r.2))
    else Option.bind (idxI s.1 ((mget r.1 s.2.1).getD 0)) fun l => some (.inl (s.1.set ((mget r.1 s.2.1).getD 0).toNat (l ++ [(i : Int)]), s.2.1, r.2))
abbrev F29 : AV := .func 29 [] [.ptr 0 0 0, .ptr 1 0 0]
structure GCtx where
  heap : List (Nat × AObj)
  N : Nat
  P : Nat
  qs : List Nat

structure GOk (i : Nat) (s : List (List Int) × List (Int × Int) × List Int) (c : GCtx) : Prop where
  nest : NestOk c.heap c.N c.P c.qs s.1
  min : 9 ≤ c.N
  lt : ∀ j o, alGet c.heap j = some o → j < c.N
  p0 : c.P ≠ 0
  p1 : c.P ≠ 1
  h0 : alGet c.heap 0 = some (.rows 1 (rowsA rowI s.2.2))
  h1 : alGet c.heap 1 = some (.rows 1 [[F29]])
  h4 : alGet c.heap 4 = some (.map (entsA IV.i64 IV.i64 s.2.1))
  len : s.1.length ≤ i
  lens : ∀ (k : Nat) (L : List Int), s.1[k]? = some L → L.length ≤ i

def GS (n : Int) (i : Nat) (s : List (List Int) × List (Int × Int) × List Int) (c : GCtx) : St :=
  ⟨[(1, F29), (5, .mslice c.P 0 s.1.length), (6, .map 4), (10, vI n), (11, vI (i : Int))], c.heap, c.N⟩

theorem g_call {C : Ctx} {nt : Nat} (HH : HasA C) (i : Int) (above : List Int) (r : Int × List Int) (hr : d_29a i above = some r) (x5 x6 x10 : AV) (heap : List (Nat × AObj)) (N : Nat) (hN : 9 ≤ N)
    (h0 : alGet heap 0 = some (.rows 1 (rowsA rowI above))) (h1 : alGet heap 1 = some (.rows 1 [[F29]])) (P : Exit → St → Prop)
    (h : P .normal ⟨[(1, F29), (5, x5), (6, x6), (10, x10), (11, vI i), (7, vI i), (8, vI r.1)], alSet heap 0 (.rows 1 (rowsA rowI r.2)), N + 4⟩) :
    awp C nt (.region false [] ri33_6 (some [1, 5, 6, 7, 8, 10, 11])) P ⟨[(1, F29), (5, x5), (6, x6), (10, x10), (11, vI i), (7, vI i)], heap, N⟩ := by
  refine awp_reg ?_
  have hd := t_29a HH i above r hr
  simp only [ri33_6, evl_cons, evl_nil, evIt_none, evOp_mov, evalOp, evEnv_t, alGet_cons, alGet_nil, reduceIte, Option.getD_some, evRes_some, after_some, applyUps_nil, alSet_cons, alSet_nil, evOp_call, List.map_cons, List.map_nil, evCall_func, List.nil_append, List.append_nil, List.cons_append, evAfter_some, Nat.reduceEqDiff, if_false]
  refine ACall.det (l := [0, 1]) (call_side hd [0, 1] (N + 1 + 1) (.keep (.drop rfl rfl .nil)) (rhI (rhR rhN)) (rhI rhN)) ?_ ?_ ?_
  · simp only [phiOkB, nodupB, List.length_cons, List.length_nil, List.all_cons, List.all_nil]
    simp; try omega
  · simp only [objsX, h0, h1]
    rfl
  · simp only [evAfter, St.put, evRes_some, after_some, applyUps_nil, alSet_cons, alSet_nil, Nat.reduceEqDiff, if_false, reduceIte, alGet_cons, Option.getD_some, Kept_some, applyUps_cons]
    simp [keepEnv, List.filter, phi, rnAV]
    exact h

theorem dstep {C : Ctx} {ord : List Nat} {K : St → Prop} {dst : Option Nat} {op : AOp} {rest : List AItem} {j : Nat} {W R : List (Nat × Nat)} {env : List (Nat × AV)} {heap : List (Nat × AObj)} {next : Nat} (r : AV) (ups : List (Nat × AObj)) (hc : (match op with | .call _ _ => true | _ => false) = false)
    (he : evalOp op (evEnv env) (alGet heap) next = some (r, ups)) (hk : okAt ord j W R (upIds ups) (readIds op (evEnv env)) = true)
    (hn : evd C ord K rest (j + 1) (addAt j (upIds ups) W) (addAt j (readIds op (evEnv env)) R) (St.after ⟨env, heap, next⟩ dst r ups)) : evd C ord K (⟨dst, op, none⟩ :: rest) j W R ⟨env, heap, next⟩ := by
  rw [evd_cons, dIt_none]
  have e : ∀ KD, dOp C KD ⟨env, heap, next⟩ op = dRes KD (readIds op (evEnv env)) (evalOp op (evEnv env) (alGet heap) next) := fun KD => by
    cases op <;> first | rfl | exact Bool.noConfusion hc
  rw [e, he]
  exact ⟨hk, hn⟩

theorem ev_idxM {ev : Opd → AV} {h : Nat → Option AObj} {id Q k p : Nat} {a b : Opd} {rows : List (List AV)} (hb : ev b = vI (p : Int)) (ha : ev a = .mslice Q 0 k) (hQ : h Q = some (.rows 1 rows)) (hp : p < k) : evalOp (.idx 1 a b) ev h id = some (.ptr Q p 0, []) := by
  have i2 : (p : Int) < (k : Int) := by omega
  simp [evalOp, hb, ha, vI, hQ, i2]
theorem ev_loadM {ev : Opd → AV} {h : Nat → Option AObj} {id Q p : Nat} {a : Opd} {v : AV} {rows : List (List AV)} (ha : ev a = .ptr Q p 0) (hQ : h Q = some (.rows 1 rows)) (hr : rows[p]? = some [v]) : evalOp (.load false 1 a) ev h id = some (v, []) := by
  simp [evalOp, ha, hQ, hr]
theorem ev_appG {ev : Opd → AV} {h : Nat → Option AObj} {id q B : Nat} {a b : Opd} {v : IV} {rows : List (List IV)} (ha : ev a = .gslice q rows) (hb : ev b = .mslice B 0 1) (hB : h B = some (.rows 1 [[.imm v]])) (hq : h q = some (.tip 1 rows.length)) (hl : (rows.length + 1) * 8 ≤ 140737488355328) :
    evalOp (.app 1 8 a b) ev h id = some (.gslice q (rows ++ [[v]]), [(q, .tip 1 (rows.length + 1))]) := by
  simp [evalOp, ha, hb, appF, rowsOf, hB, hq, hl, mapO, leafIV]
theorem ev_storeM {ev : Opd → AV} {h : Nat → Option AObj} {id Q p q : Nat} {a b : Opd} {L : List (List IV)} {x : AV} {rows : List (List AV)} (ha : ev a = .ptr Q p 0) (hb : ev b = .gslice q L) (hQ : h Q = some (.rows 1 rows)) (hr : rows[p]? = some [x]) : evalOp (.store 1 a b) ev h id = some (.undef, [(Q, .rows 1 (rows.set p [.gslice q L]))]) := by
  simp [evalOp, ha, hb, hQ, hr, cellsOf, putCells]

set_option maxHeartbeats 4000000 in
theorem g_draw {C : Ctx} {nt : Nat} (i r : Int) (x1 x10 : AV) (heap : List (Nat × AObj)) (N Q k p q : Nat) (es : List (Int × Int)) (rows : List (List AV)) (L : List Int) (hk : k = rows.length)
    (hlt : ∀ j o, alGet heap j = some o → j < N) (hQ : alGet heap Q = some (.rows 1 rows)) (h4 : alGet heap 4 = some (.map (entsA IV.i64 IV.i64 es))) (hp : (mget r es).getD 0 = (p : Int)) (hrow : rows[p]? = some [.gslice q (L.map rowI)]) (hq : alGet heap q = some (.tip 1 L.length)) (hL : (L.length + 1) * 8 ≤ 140737488355328)
    (P : Exit → St → Prop)
    (h : P .normal ⟨[(1, x1), (5, .mslice Q 0 k), (6, .map 4), (10, x10), (11, vI i)], alSet (alSet (alSet heap (N + 11) (.rows 1 [[vI i]])) q (.tip 1 (L.length + 1))) Q (.rows 1 (rows.set p [.gslice q ((L ++ [i]).map rowI)])), N + 15⟩) :
    awp C nt (.region true [0, 0, 0, 6, 0, 0, 0, 96, 240, 496, 0, 1024, 4080, 8191, 16383] ri33_10 (some [1, 5, 6, 10, 11])) P ⟨[(1, x1), (5, .mslice Q 0 k), (6, .map 4), (10, x10), (11, vI i), (7, vI i), (8, vI r)], heap, N⟩ := by
  refine awp_drw ?_
  have e1 : Q < N := hlt _ _ hQ
  have e2 : q < N := hlt _ _ hq
  have e3 : Q ≠ q := fun e => by rw [e, hq] at hQ; cases hQ
  have e4 : Q ≠ 4 := fun e => by rw [e, h4] at hQ; cases hQ
  have e5 : q ≠ 4 := fun e => by rw [e, h4] at hq; cases hq
  have e6 : (4 : Nat) < N := hlt _ _ h4
  have hpk : p < k := by rw [hk]; exact (List.getElem?_eq_some_iff.1 hrow).1
  have lk : looks ri33_10 = false := rfl
  rw [lk]
  have hf : (match findEntry (.int .i64 r) (entsA IV.i64 IV.i64 es) with | some x => x | none => vI 0) = vI (p : Int) := by
    rw [findEntry_int]
    cases hm : mget r es with
    | none => rw [hm] at hp; simp only [Option.map_none]; rw [← hp]; rfl
    | some v => rw [hm] at hp; simp only [Option.map_some]; rw [← hp]; rfl
  have hlook : ∀ (ev : Opd → AV) (h : Nat → Option AObj) (id : Nat) (a b : Opd), ev a = .map 4 → ev b = vI r → h 4 = some (.map (entsA IV.i64 IV.i64 es)) → evalOp (.look false (.imm (.int .i64 0)) false a b) ev h id = some (vI (p : Int), []) := by
    intro ev h id a b ha hb hh
    simp only [evalOp, ha, hb, vI, hh, keysOk_int, keyIs]
    rw [findEntry_int]
    cases hm : mget r es with
    | none => rw [hm] at hp; simp only [Option.map_none]; simp at hp; simp [← hp]
    | some v => rw [hm] at hp; simp only [Option.map_some]; simp at hp; simp [← hp, IV.i64]
  show evd C _ (Kept _ P) ri33_10 0 [] [] _
  unfold ri33_10
  refine dstep _ _ rfl rfl rfl ?_
  refine dstep _ _ rfl rfl rfl ?_
  refine dstep _ _ rfl rfl rfl ?_
  refine dstep _ _ rfl (hlook _ _ _ _ _ rfl rfl h4) rfl ?_
  refine dstep _ _ rfl rfl rfl ?_
  refine dstep _ _ rfl rfl rfl ?_
  refine dstep _ _ rfl rfl rfl ?_
  refine dstep _ _ rfl (hlook _ _ _ _ _ rfl rfl h4) rfl ?_
  refine dstep _ _ rfl (ev_idxM rfl rfl hQ hpk) rfl ?_
  refine dstep _ _ rfl (ev_loadM rfl hQ hrow) rfl ?_
  refine dstep _ _ rfl rfl rfl ?_
  have n1 : N + 11 ≠ Q := by omega
  have n2 : N + 11 ≠ q := by omega
  have n3 : N + 11 ≠ 4 := by omega
  have hQ1 : alGet (alSet heap (N + 11) (.rows 1 [[vI i]])) Q = some (.rows 1 rows) := by rw [alGet_alSet, if_neg n1]; exact hQ
  have hq1 : alGet (alSet heap (N + 11) (.rows 1 [[vI i]])) q = some (.tip 1 (L.map rowI).length) := by rw [alGet_alSet, if_neg n2, List.length_map]; exact hq
  have hB : alGet (alSet heap (N + 11) (.rows 1 [[vI i]])) (N + 11) = some (.rows 1 [[vI i]]) := by rw [alGet_alSet, if_pos rfl]
  show evd C _ _ _ 11 [] [(9, Q), (8, Q), (7, 4), (5, 4), (4, Q), (3, 4), (1, 4), (0, Q)] ⟨[(1, x1), (5, .mslice Q 0 k), (6, .map 4), (10, x10), (11, vI i), (7, vI i), (8, vI r), (27, .mslice Q 0 k), (28, .map 4), (29, vI r), (30, vI (p : Int)), (31, .mslice Q 0 k), (32, .map 4), (33, vI r), (34, vI (p : Int)), (35, .ptr Q p 0), (36, .gslice q (L.map rowI)), (37, vI i)], heap, N + 11⟩
  have m1 : Q ≠ N + 11 := by omega
  have m2 : q ≠ N + 11 := by omega
  have m3 : 4 ≠ N + 11 := by omega
  have e3' : ¬ q = Q := fun e => e3 e.symm
  refine dstep (.mslice (N + 11) 0 1) [(N + 11, .rows 1 [[vI i]])] rfl rfl ?_ ?_
  · simp [okAt, upIds, m1, m3]
  show evd C _ _ _ 12 [(11, N + 11)] [(9, Q), (8, Q), (7, 4), (5, 4), (4, Q), (3, 4), (1, 4), (0, Q)] ⟨[(1, x1), (5, .mslice Q 0 k), (6, .map 4), (10, x10), (11, vI i), (7, vI i), (8, vI r), (27, .mslice Q 0 k), (28, .map 4), (29, vI r), (30, vI (p : Int)), (31, .mslice Q 0 k), (32, .map 4), (33, vI r), (34, vI (p : Int)), (35, .ptr Q p 0), (36, .gslice q (L.map rowI)), (37, vI i), (38, .mslice (N + 11) 0 1)], (alSet heap (N + 11) (.rows 1 [[vI i]])), N + 12⟩
  refine dstep (.gslice q (L.map rowI ++ [rowI i])) [(q, .tip 1 ((L.map rowI).length + 1))] rfl (ev_appG rfl rfl hB hq1 (by simpa using hL)) ?_ ?_
  · simp [okAt, upIds, bef, e3, e5, Ne.symm e5, m2]
  show evd C _ _ _ 13 [(12, q), (11, N + 11)] _ ⟨[(1, x1), (5, .mslice Q 0 k), (6, .map 4), (10, x10), (11, vI i), (7, vI i), (8, vI r), (27, .mslice Q 0 k), (28, .map 4), (29, vI r), (30, vI (p : Int)), (31, .mslice Q 0 k), (32, .map 4), (33, vI r), (34, vI (p : Int)), (35, .ptr Q p 0), (36, .gslice q (L.map rowI)), (37, vI i), (38, .mslice (N + 11) 0 1), (39, .gslice q (L.map rowI ++ [rowI i]))], (alSet (alSet heap (N + 11) (.rows 1 [[vI i]])) q (.tip 1 ((L.map rowI).length + 1))), N + 13⟩
  have hQ2 : alGet (alSet (alSet heap (N + 11) (.rows 1 [[vI i]])) q (.tip 1 ((L.map rowI).length + 1))) Q = some (.rows 1 rows) := by rw [alGet_alSet, if_neg e3']; exact hQ1
  refine dstep (.ptr Q p 0) [] rfl (ev_idxM rfl rfl hQ2 hpk) ?_ ?_
  · simp [okAt, upIds, bef]
  show evd C _ _ _ 14 [(12, q), (11, N + 11)] _ ⟨[(1, x1), (5, .mslice Q 0 k), (6, .map 4), (10, x10), (11, vI i), (7, vI i), (8, vI r), (27, .mslice Q 0 k), (28, .map 4), (29, vI r), (30, vI (p : Int)), (31, .mslice Q 0 k), (32, .map 4), (33, vI r), (34, vI (p : Int)), (35, .ptr Q p 0), (36, .gslice q (L.map rowI)), (37, vI i), (38, .mslice (N + 11) 0 1), (39, .gslice q (L.map rowI ++ [rowI i])), (40, .ptr Q p 0)], (alSet (alSet heap (N + 11) (.rows 1 [[vI i]])) q (.tip 1 ((L.map rowI).length + 1))), N + 14⟩
  refine dstep .undef _ rfl (ev_storeM rfl rfl hQ2 hrow) ?_ ?_
  · simp [okAt, upIds, bef]
  show Kept _ P ⟨[(1, x1), (5, .mslice Q 0 k), (6, .map 4), (10, x10), (11, vI i), (7, vI i), (8, vI r), (27, .mslice Q 0 k), (28, .map 4), (29, vI r), (30, vI (p : Int)), (31, .mslice Q 0 k), (32, .map 4), (33, vI r), (34, vI (p : Int)), (35, .ptr Q p 0), (36, .gslice q (L.map rowI)), (37, vI i), (38, .mslice (N + 11) 0 1), (39, .gslice q (L.map rowI ++ [rowI i])), (40, .ptr Q p 0)], alSet (alSet (alSet heap (N + 11) (.rows 1 [[vI i]])) q (.tip 1 ((L.map rowI).length + 1))) Q (.rows 1 (rows.set p [.gslice q (L.map rowI ++ [rowI i])])), N + 15⟩
  rw [Kept_some]
  rw [List.map_append, List.length_map] at *
  exact h

theorem estep {C : Ctx} {K : St → Prop} {dst : Option Nat} {op : AOp} {rest : List AItem} {env : List (Nat × AV)} {heap : List (Nat × AObj)} {next : Nat} (r : AV) (ups : List (Nat × AObj)) (hc : (match op with | .call _ _ => true | _ => false) = false)
    (he : evalOp op (evEnv env) (alGet heap) next = some (r, ups)) (hn : evl C rest K (St.after ⟨env, heap, next⟩ dst r ups)) : evl C (⟨dst, op, none⟩ :: rest) K ⟨env, heap, next⟩ := by
  rw [evl_cons, evIt_none]
  have e : ∀ K, evOp C dst K ⟨env, heap, next⟩ op = evRes dst K ⟨env, heap, next⟩ (evalOp op (evEnv env) (alGet heap) next) := fun KD => by
    cases op <;> first | rfl | exact Bool.noConfusion hc
  rw [e, he]
  exact hn

theorem weak_env {env env' : List (Nat × AV)} {heap : List (Nat × AObj)} {N : Nat} (h : ∀ t x, alGet env' t = some x → alGet env t = some x) : Weak ⟨env, heap, N⟩ ⟨env', heap, N⟩ := fun C nt g a w R =>
  ⟨g, ⟨⟨R.env.size, R.env.defers, fun t x hx => R.env.slot t x (h t x hx)⟩, R.heap⟩, fun _ _ _ _ E => E⟩
theorem alGet_app {α : Type} : ∀ (l m : List (Nat × α)) (t : Nat) (x : α), alGet l t = some x → alGet (l ++ m) t = some x
  | [], m, t, x, h => by cases h
  | (k, v) :: l, m, t, x, h => by
    simp only [List.cons_append, alGet] at h ⊢
    split
    · rename_i e; rw [if_pos e] at h; exact h
    · rename_i e; rw [if_neg e] at h; exact alGet_app l m t x h
theorem weak_envA (env ext : List (Nat × AV)) (heap : List (Nat × AObj)) (N : Nat) : Weak ⟨env ++ ext, heap, N⟩ ⟨env, heap, N⟩ := weak_env fun t x h => alGet_app env ext t x h
theorem g_inc {C : Ctx} {nt : Nat} (x1 x5 x6 x10 : AV) (i : Int) (heap : List (Nat × AObj)) (N : Nat) (P : Exit → St → Prop) (h : P .normal ⟨[(1, x1), (5, x5), (6, x6), (10, x10), (11, vI (IntKind.i64.wrap (i + 1)))], heap, N + 2⟩) :
    awp C nt (.region false [] ri33_11 (some [1, 5, 6, 10, 11])) P ⟨[(1, x1), (5, x5), (6, x6), (10, x10), (11, vI i)], heap, N⟩ := reg_fast [] .nil h (by kernel_rfl)
theorem mget_mset (k : Int) (v : Int) : ∀ es : List (Int × Int), mget k (mset k v es) = some v
  | [] => by simp [mset, mget]
  | (k', v') :: r => by
    have ih := mget_mset k v r
    by_cases e : k = k'
    · simp only [mset, if_pos e, mget, if_true]
    · simp only [mset, if_neg e, mget]; exact ih
theorem ev_updM {ev : Opd → AV} {h : Nat → Option AObj} {id M : Nat} {a b c : Opd} {i v : Int} {es : List (Int × Int)} (ha : ev a = .map M) (hb : ev b = vI i) (hc : ev c = vI v) (hM : h M = some (.map (entsA IV.i64 IV.i64 es))) :
    evalOp (.upd false a b c) ev h id = some (.undef, [(M, .map (entsA IV.i64 IV.i64 (mset i v es)))]) := by
  have := (upd_side IV.i64 i v es).2
  simp only [evalOp, ha, hb, hc, hM, vI, keysOk_int, keyIs]
  simp only [IV.i64] at this ⊢
  simp [this]
theorem ev_lenM {ev : Opd → AV} {h : Nat → Option AObj} {id Q k sz : Nat} {a : Opd} {rows : List (List AV)} (ha : ev a = .mslice Q 0 k) (hQ : h Q = some (.rows sz rows)) : evalOp (.len a) ev h id = some (vI (k : Int), []) := by
  simp [evalOp, ha, lenOfAV, hQ]
theorem ev_appM {ev : Opd → AV} {h : Nat → Option AObj} {id Q B k : Nat} {a b : Opd} {v : AV} {rows : List (List AV)} (ha : ev a = .mslice Q 0 k) (hb : ev b = .mslice B 0 1) (hB : h B = some (.rows 1 [[v]])) (hQ : h Q = some (.rows 1 rows)) (hk : k = rows.length) (hl : (k + 1) * 24 ≤ 140737488355328) :
    evalOp (.app 1 24 a b) ev h id = some (.mslice id 0 (k + 1), [(id, .rows 1 (rows ++ [[v]])), (Q, .dead)]) := by
  subst hk
  simp [evalOp, ha, hb, appT, rowsAV, hB, hQ, hl]

theorem g_upd {C : Ctx} {nt : Nat} (i r : Int) (x1 x10 x11 x19 : AV) (heap : List (Nat × AObj)) (N Q k : Nat) (es : List (Int × Int)) (rows : List (List AV)) (hQ : alGet heap Q = some (.rows 1 rows)) (h4 : alGet heap 4 = some (.map (entsA IV.i64 IV.i64 es))) (P : Exit → St → Prop)
    (h : P .normal ⟨[(1, x1), (5, .mslice Q 0 k), (6, .map 4), (10, x10), (11, x11), (7, vI i), (8, vI r)], alSet heap 4 (.map (entsA IV.i64 IV.i64 (mset i (k : Int) es))), N + 5⟩) :
    awp C nt (.region false [] ri33_8 (some [1, 5, 6, 7, 8, 10, 11])) P ⟨[(1, x1), (5, .mslice Q 0 k), (6, .map 4), (10, x10), (11, x11), (7, vI i), (8, vI r), (19, x19)], heap, N⟩ := by
  refine awp_reg ?_
  unfold ri33_8
  refine estep _ _ rfl rfl ?_
  refine estep _ _ rfl rfl ?_
  refine estep _ _ rfl rfl ?_
  refine estep (vI (k : Int)) [] rfl (ev_lenM rfl hQ) ?_
  refine estep _ _ rfl (ev_updM rfl rfl rfl h4) ?_
  exact h

theorem g_app {C : Ctx} {nt : Nat} (x1 x6 x7 x8 x10 x11 : AV) (heap : List (Nat × AObj)) (N Q k : Nat) (rows : List (List AV)) (hk : k = rows.length) (hQN : Q < N) (hQ : alGet heap Q = some (.rows 1 rows)) (hl : (k + 1) * 24 ≤ 140737488355328) (P : Exit → St → Prop)
    (h : P .normal ⟨[(1, x1), (5, .mslice (N + 2) 0 (k + 1)), (6, x6), (10, x10), (11, x11), (7, x7), (8, x8)], alSet (alSet (alSet heap (N + 1) (.rows 1 [[.nil]])) Q .dead) (N + 2) (.rows 1 (rows ++ [[.nil]])), N + 4⟩) :
    awp C nt (.region false [] ri33_9 (some [1, 5, 6, 7, 8, 10, 11])) P ⟨[(1, x1), (5, .mslice Q 0 k), (6, x6), (10, x10), (11, x11), (7, x7), (8, x8)], heap, N⟩ := by
  refine awp_reg ?_
  unfold ri33_9
  refine estep _ _ rfl rfl ?_
  refine estep (.mslice (N + 1) 0 1) [(N + 1, .rows 1 [[.nil]])] rfl rfl ?_
  have hB : alGet (alSet heap (N + 1) (.rows 1 [[.nil]])) (N + 1) = some (.rows 1 [[.nil]]) := by rw [alGet_alSet, if_pos rfl]
  have hQ1 : alGet (alSet heap (N + 1) (.rows 1 [[.nil]])) Q = some (.rows 1 rows) := by rw [alGet_alSet, if_neg (by omega)]; exact hQ
  refine estep _ _ rfl (ev_appM rfl rfl hB hQ1 hk hl) ?_
  refine estep _ _ rfl rfl ?_
  exact h

noncomputable def d_gather (n : Int) (above : List Int) : Option (List (List Int) × List Int) :=
  bif decide (n ≤ 1000000000000) then Option.bind (forR (σ := List (List Int) × List (Int × Int) × List Int) (ρ := Unit) n d_gather_step ([], [], above)) (Sum.elim (fun s => some (s.1, s.2.2)) (fun _ => none)) else none

theorem gok_draw {i : Nat} {Ls : List (List Int)} {es : List (Int × Int)} {above : List Int} {heap : List (Nat × AObj)} {N P : Nat} {qs : List Nat}
    (hN : NestOk heap N P qs Ls) (hmin : 9 ≤ N) (hlt : ∀ j o, alGet heap j = some o → j < N) (p0 : P ≠ 0) (p1 : P ≠ 1) (h0 : alGet heap 0 = some (.rows 1 (rowsA rowI above))) (h1 : alGet heap 1 = some (.rows 1 [[F29]])) (h4 : alGet heap 4 = some (.map (entsA IV.i64 IV.i64 es)))
    (hlen : Ls.length ≤ i + 1) (hlens : ∀ (k : Nat) (L : List Int), Ls[k]? = some L → L.length ≤ i) {p q : Nat} {L : List Int} (hL : Ls[p]? = some L) (hq : qs[p]? = some q) :
    GOk (i + 1) (Ls.set p (L ++ [(i : Int)]), es, above) ⟨alSet (alSet (alSet heap (N + 11) (.rows 1 [[vI (i : Int)]])) q (.tip 1 (L.length + 1))) P (.rows 1 ((tipRows qs Ls).set p [.gslice q ((L ++ [(i : Int)]).map rowI)])), N + 17, P, qs⟩ := by
  have ht := hN.tip p q L hq hL
  have hqP : q ≠ P := fun e => by rw [e, hN.obj] at ht; cases ht
  have hPN : P < N := hlt _ _ hN.obj
  have hqN : q < N := hlt _ _ ht
  have hE : ∀ j, j ≠ P → j ≠ q → (alGet heap j).isSome = true → alGet (alSet (alSet (alSet heap (N + 11) (.rows 1 [[vI (i : Int)]])) q (.tip 1 (L.length + 1))) P (.rows 1 ((tipRows qs Ls).set p [.gslice q ((L ++ [(i : Int)]).map rowI)]))) j = alGet heap j := fun j a b c => by
    obtain ⟨o, ho⟩ := Option.isSome_iff_exists.1 c
    have := hlt j o ho
    rw [alGet_alSet, if_neg (Ne.symm a), alGet_alSet, if_neg (Ne.symm b), alGet_alSet, if_neg (by omega)]
  refine ⟨hN.grow hq (by rw [alGet_alSet, if_pos rfl, tipRows_set qs Ls p q _ hq]) (by rw [alGet_alSet, if_neg (Ne.symm hqP), alGet_alSet, if_pos rfl]; simp) hE, by show 9 ≤ N + 17; omega, fun j o ho => ?_, p0, p1, ?_, ?_, ?_, by simpa using hlen, fun k' L' h' => ?_⟩
  · show j < N + 17
    simp only [alGet_alSet] at ho
    split at ho
    · omega
    · split at ho
      · omega
      · split at ho
        · omega
        · have := hlt j o ho; omega
  · simp only; rw [hE 0 (Ne.symm p0) (fun e => by rw [← e, h0] at ht; cases ht) (by rw [h0]; rfl)]; exact h0
  · simp only; rw [hE 1 (Ne.symm p1) (fun e => by rw [← e, h1] at ht; cases ht) (by rw [h1]; rfl)]; exact h1
  · simp only; rw [hE 4 (fun e => by have := hN.obj; rw [← e, h4] at this; cases this) (fun e => by rw [← e, h4] at ht; cases ht) (by rw [h4]; rfl)]; exact h4
  · simp only at h'
    by_cases e : k' = p
    · subst e
      have hlt' := (List.getElem?_eq_some_iff.1 hL).1
      rw [List.getElem?_set_self hlt'] at h'
      cases h'
      have := hlens k' L hL
      simp; omega
    · rw [List.getElem?_set_ne (Ne.symm e)] at h'
      have := hlens k' L' h'
      omega

theorem NestOk.push {heap heap' : List (Nat × AObj)} {N N' P P' q : Nat} {qs : List Nat} {Ls : List (List Int)} (h : NestOk heap N P qs Ls) (hlt : ∀ j o, alGet heap j = some o → j < q) (hP : alGet heap' P' = some (.rows 1 (tipRows (qs ++ [q]) (Ls ++ [[]])))) (hq : alGet heap' q = some (.tip 1 0))
    (hE : ∀ (k q' : Nat), qs[k]? = some q' → (alGet heap q').isSome = true → alGet heap' q' = alGet heap q') : NestOk heap' N' P' (qs ++ [q]) (Ls ++ [[]]) := by
  have hold : ∀ (k q' : Nat), qs[k]? = some q' → q' < q := fun k q' hk => by
    have hl : k < Ls.length := by rw [← h.len]; exact (List.getElem?_eq_some_iff.1 hk).1
    exact hlt q' _ (h.tip k q' Ls[k] hk (by simp))
  refine ⟨hP, fun k q' L h1 h2 => ?_, by simp [h.len], fun i j q' h1 h2 => ?_⟩
  · rcases Nat.lt_or_ge k qs.length with hk | hk
    · rw [List.getElem?_append_left hk] at h1
      rw [List.getElem?_append_left (by rw [← h.len]; exact hk)] at h2
      have := h.tip k q' L h1 h2
      rw [hE k q' h1 (by rw [this]; rfl)]; exact this
    · rw [List.getElem?_append_right hk] at h1
      rw [List.getElem?_append_right (by rw [← h.len]; exact hk)] at h2
      rw [← h.len] at h2
      cases hd : k - qs.length with
      | zero => rw [hd] at h1 h2; simp at h1 h2; subst h1 h2; exact hq
      | succ n => rw [hd] at h1; simp at h1
  · have key : ∀ k, (qs ++ [q])[k]? = some q' → (k < qs.length ∧ qs[k]? = some q') ∨ (k = qs.length ∧ q' = q) := fun k hk => by
      rcases Nat.lt_or_ge k qs.length with hlt | hge
      · rw [List.getElem?_append_left hlt] at hk; exact .inl ⟨hlt, hk⟩
      · rw [List.getElem?_append_right hge] at hk
        cases hd : k - qs.length with
        | zero => rw [hd] at hk; simp at hk; exact .inr ⟨by omega, hk.symm⟩
        | succ n => rw [hd] at hk; simp at hk
    rcases key i h1 with ⟨a1, a2⟩ | ⟨a1, a2⟩ <;> rcases key j h2 with ⟨b1, b2⟩ | ⟨b1, b2⟩
    · exact h.nd i j q' a2 b2
    · have := hold i q' a2; omega
    · have := hold j q' b2; omega
    · omega

theorem NestOk.frame {heap : List (Nat × AObj)} {N N' P : Nat} {qs : List Nat} {Ls : List (List Int)} (h : NestOk heap N P qs Ls) (x : Nat) (hx : x ≠ P) (hx2 : ∀ sz len, alGet heap x ≠ some (.tip sz len)) (o : AObj) : NestOk (alSet heap x o) N' P qs Ls :=
  ⟨by rw [alGet_alSet, if_neg hx]; exact h.obj, fun k q L h1 h2 => by
    have := h.tip k q L h1 h2
    rw [alGet_alSet, if_neg (fun e => hx2 _ _ (by rw [e]; exact this))]; exact this, h.len, h.nd⟩

theorem lt_alSet {heap : List (Nat × AObj)} {N N' x : Nat} {o : AObj} (h : ∀ j o, alGet heap j = some o → j < N) (hN : N ≤ N') (hx : x < N') : ∀ j o', alGet (alSet heap x o) j = some o' → j < N' := fun j o' hj => by
  rw [alGet_alSet] at hj
  split at hj
  · omega
  · have := h j o' hj; omega

theorem g_end {heap : List (Nat × AObj)} {N P : Nat} {qs : List Nat} {Ls : List (List Int)} {above : List Int} (h : NestOk heap N P qs Ls) (hmin : 9 ≤ N) (hlt : ∀ j o, alGet heap j = some o → j < N) (p0 : P ≠ 0) (p1 : P ≠ 1) (h0 : alGet heap 0 = some (.rows 1 (rowsA rowI above))) (h1 : alGet heap 1 = some (.rows 1 [[F29]])) :
    Weak ⟨[(0, .mslice P 0 Ls.length)], heap, N⟩ ⟨[(0, .imm (.slice (List.map (rowL rowI) Ls)))], [(0, .rows 1 (rowsA rowI above)), (1, .rows 1 [[F29]])], 2⟩ := by
  have w1 := weak_les (st := ⟨[(0, .mslice P 0 Ls.length)], heap, N⟩) P 1 (tipRows qs Ls) (rowsA (rowL rowI) Ls) h.obj (tipRows_le qs Ls h.len)
  have w2 := weak_freeze (st := ⟨[(0, .mslice P 0 Ls.length)], alSet heap P (.rows 1 (rowsA (rowL rowI) Ls)), N⟩) P 1 0 Ls.length (List.map (rowL rowI) Ls) (List.map (rowL rowI) Ls) [] _ (by simp only; rw [alGet_alSet, if_pos rfl]) (imm_rowsA _ _) (frz_all _ _) (by
    have e1 : ∀ hp : List (Nat × AObj), occH P 0 Ls.length [] hp = [] := fun hp => by
      induction hp with
      | nil => rfl
      | cons a l ih => obtain ⟨k, o⟩ := a; simp only [occH, ih]; simp
    rw [e1]
    simp only [List.append_nil, occE, occAV, occLeaf, if_pos]
    exact .cons (by simp) .nil)
  have w3 := (Weak.andThen w1 w2 (Nat.le_refl _))
  refine Weak.andThen w3 (weak_of (by simp only; omega) ?_ ?_) (by simp only; omega)
  · intro p hp
    simp only [List.mem_cons, List.not_mem_nil, or_false] at hp
    subst hp
    exact ⟨by simp [frzE, frzAV, frzLeaf], rfl⟩
  · intro p hp
    simp only [List.mem_cons, List.not_mem_nil, or_false] at hp
    rcases hp with rfl | rfl
    · refine ⟨?_, by simp, rowsA_below _ _ _ _⟩
      simp only [alGet_frzH, alGet_alSet, if_neg p0, h0, Option.map_some, if_neg (Ne.symm p0)]
      simp
    · refine ⟨?_, by simp, objB_below (by kernel_rfl)⟩
      simp only [alGet_frzH, alGet_alSet, if_neg p1, h1, Option.map_some, if_neg (Ne.symm p1)]
      simp

set_option maxHeartbeats 4000000 in
theorem t_gather {C : Ctx} (HH : HasA C) (p1 : Int) (p2 : List Int) (res : List (List Int) × List Int) (hd : d_gather p1 p2 = some res) : DOk C 33 [vI p1, .func 29 [] [.ptr 0 0 0, .ptr 1 0 0]] [(0, .rows 1 (rowsA rowI p2)), (1, .rows 1 [[.func 29 [] [.ptr 0 0 0, .ptr 1 0 0]]])] 2 (.imm (.slice (List.map (rowL rowI) res.1))) [(0, .rows 1 (rowsA rowI res.2)), (1, .rows 1 [[.func 29 [] [.ptr 0 0 0, .ptr 1 0 0]]])] 0 := by
  unfold d_gather at hd
  rcases grd hd with ⟨hn, hd⟩ | ⟨_, hd⟩
  case inr => cases hd
  have hn : p1 ≤ 1000000000000 := of_decide_eq_true hn
  obtain ⟨o, hl, hd⟩ := obind hd
  refine DOk.start HH.h33 (by simp [af33]) (.rows (by rfl) (.exp (by rfl) (by kernel_rfl) .nil)) (.rows (by rfl) (.exp (by rfl) (by kernel_rfl) .nil)) (by kernel_rfl) (by kernel_rfl) (by kernel_rfl) (by kernel_rfl) ?_
  show awp C _ af33.body (EndsD af33.results _ _ _) ⟨[(0, vI p1), (1, F29)], [(0, .rows 1 (rowsA rowI p2)), (1, .rows 1 [[F29]])], 2⟩
  refine awp_seq ?_
  refine reg_fast (st' := ⟨[(0, vI p1), (1, F29)], [(0, .rows 1 (rowsA rowI p2)), (1, .rows 1 [[F29]])], 3⟩) [] .nil ?_ (by kernel_rfl)
  refine then_n ?_
  refine awp_seq ?_
  refine reg_fast (st' := ⟨[(0, vI p1), (1, F29), (5, .nil)], [(0, .rows 1 (rowsA rowI p2)), (1, .rows 1 [[F29]])], 4⟩) [] .nil ?_ (by kernel_rfl)
  refine then_n ?_
  refine awp_seq ?_
  refine reg_fast (st' := ⟨[(0, vI p1), (1, F29), (5, .nil), (6, .map 4)], [(0, .rows 1 (rowsA rowI p2)), (1, .rows 1 [[F29]]), (4, .map [])], 6⟩) [] .nil ?_ (by kernel_rfl)
  refine then_n ?_
  refine awp_seq ?_
  refine awp_seq ?_
  refine reg_fast (st' := ⟨[(1, F29), (5, .nil), (6, .map 4), (10, vI p1), (11, vI 0)], [(0, .rows 1 (rowsA rowI p2)), (1, .rows 1 [[F29]]), (4, .map [])], 8⟩) [] .nil ?_ (by kernel_rfl)
  refine then_n ?_
  refine awp_block ?_
  refine awp_weak (weak_nilM (t := 5) 1 rfl) (by simp) ?_
  show awp C _ _ _ ⟨[(1, F29), (5, .mslice 8 0 0), (6, .map 4), (10, vI p1), (11, vI 0)], [(0, .rows 1 (rowsA rowI p2)), (1, .rows 1 [[F29]]), (4, .map []), (8, .rows 1 [])], 9⟩
  refine awp_forG hl GOk (GS p1) (fun i s c hok => hok.min) ⟨[(0, .rows 1 (rowsA rowI p2)), (1, .rows 1 [[F29]]), (4, .map []), (8, .rows 1 [])], 9, 8, []⟩ ?_ rfl (Weak.refl _) ?_ ?_
  · refine ⟨⟨rfl, fun k q L h1 => by simp at h1, rfl, fun i j q h1 => by simp at h1⟩, by simp, fun j o h => ?_, by simp, by simp, rfl, rfl, rfl, by simp, fun k L h => by simp at h⟩
    simp only [alGet] at h
    show j < 9
    repeat (split at h; omega)
    cases h
  · rintro i ⟨Ls, es, above⟩ ⟨heap, N, P, qs⟩ o hok hi hw hs
    obtain ⟨r, hr, hs⟩ := obind hs
    simp only at hr hs
    show awp C _ _ _ ⟨[(1, F29), (5, .mslice P 0 Ls.length), (6, .map 4), (10, vI p1), (11, vI (i : Int))], heap, N⟩
    refine awp_seq ?_
    refine reg_fast (st' := ⟨[(1, F29), (5, .mslice P 0 Ls.length), (6, .map 4), (10, vI p1), (11, vI (i : Int)), (12, vB (decide ((i : Int) < p1)))], heap, N + 1⟩) [] .nil ?_ (by kernel_rfl)
    refine then_n ?_
    refine awp_seq ?_
    refine awp_ifT (by simp [*]) ?_
    refine awp_skip ?_
    refine then_n ?_
    refine awp_seq ?_
    refine awp_block ?_
    refine awp_seq ?_
    refine reg_fast (st' := ⟨[(1, F29), (5, .mslice P 0 Ls.length), (6, .map 4), (10, vI p1), (11, vI (i : Int)), (7, vI (i : Int))], heap, N + 3⟩) [] .nil ?_ (by kernel_rfl)
    refine then_n ?_
    refine awp_seq ?_
    have hmin := hok.min
    simp only at hmin
    refine g_call HH (i : Int) above r hr _ _ _ heap (N + 3) (by omega) hok.h0 hok.h1 _ ?_
    refine then_n ?_
    refine awp_seq ?_
    refine awp_seq ?_
    refine reg_fast (st' := ⟨[(1, F29), (5, .mslice P 0 Ls.length), (6, .map 4), (10, vI p1), (11, vI (i : Int)), (7, vI (i : Int)), (8, vI r.1), (19, vB (r.1 == (i : Int)))], alSet heap 0 (.rows 1 (rowsA rowI r.2)), N + 10⟩) [] .nil ?_ (by kernel_rfl)
    refine then_n ?_
    have hnest0 : NestOk (alSet heap 0 (.rows 1 (rowsA rowI r.2))) (N + 10) P qs Ls := hok.nest.frame 0 (Ne.symm hok.p0) (fun sz len e => by have := hok.h0; simp only at this; rw [this] at e; cases e) _
    have hlt0 : ∀ j o, alGet (alSet heap 0 (.rows 1 (rowsA rowI r.2))) j = some o → j < N + 10 := lt_alSet hok.lt (by simp only; omega) (by omega)
    have hPN : P < N := hok.lt _ _ hok.nest.obj
    have P4 : P ≠ 4 := fun e => by have h1 := hok.nest.obj; have h2 := hok.h4; simp only at h1 h2; rw [e, h2] at h1; cases h1
    have g0 : alGet (alSet heap 0 (.rows 1 (rowsA rowI r.2))) 0 = some (.rows 1 (rowsA rowI r.2)) := by rw [alGet_alSet, if_pos rfl]
    have g1 : alGet (alSet heap 0 (.rows 1 (rowsA rowI r.2))) 1 = some (.rows 1 [[F29]]) := by rw [alGet_alSet, if_neg (by omega)]; exact hok.h1
    have g4 : alGet (alSet heap 0 (.rows 1 (rowsA rowI r.2))) 4 = some (.map (entsA IV.i64 IV.i64 es)) := by rw [alGet_alSet, if_neg (by omega)]; exact hok.h4
    have hlen := hok.len
    have hlens := hok.lens
    simp only at hlen hlens
    have hp0 := hok.p0
    have hp1 := hok.p1
    simp only at hp0 hp1
    generalize alSet heap 0 (.rows 1 (rowsA rowI r.2)) = heap0 at *
    have hrl := tipRows_len hnest0.len
    refine awp_if (r.1 == (i : Int)) rfl (fun g => ?_) (fun g => ?_)
    · replace hs := cond_t g hs
      cases hs
      have gi : r.1 = (i : Int) := by simpa using g
      rw [gi]
      refine awp_seq ?_
      refine g_upd (i : Int) (i : Int) _ _ _ _ heap0 (N + 10) P Ls.length es (tipRows qs Ls) hnest0.obj g4 _ ?_
      refine then_n ?_
      have hP1 : alGet (alSet heap0 4 (.map (entsA IV.i64 IV.i64 (mset (i : Int) (Ls.length : Int) es)))) P = some (.rows 1 (tipRows qs Ls)) := by rw [alGet_alSet, if_neg (Ne.symm P4)]; exact hnest0.obj
      refine g_app _ _ _ _ _ _ _ (N + 15) P Ls.length (tipRows qs Ls) hrl.symm (by omega) hP1 (by omega) _ ?_
      refine then_n ?_
      refine awp_weak (weak_nilO (N + 17) 1 1 (tipRows qs Ls ++ [[.nil]]) Ls.length 0 [.nil] (by simp only; rw [alGet_alSet, if_pos rfl]) (by rw [← hrl]; simp) rfl) (by simp) ?_
      have erow : (tipRows qs Ls ++ [[AV.nil]]).set Ls.length ([AV.nil].set 0 (.gslice (N + 19) [])) = tipRows (qs ++ [N + 19]) (Ls ++ [[]]) := by
        rw [tipRows_app qs Ls (N + 19) [] hnest0.len, ← hrl]
        simp
      simp only
      rw [show N + 15 + 4 = N + 19 from rfl, show N + 15 + 2 = N + 17 from rfl, show N + 15 + 1 = N + 16 from rfl, erow]
      generalize hH : alSet (alSet (alSet (alSet (alSet (alSet heap0 4 (.map (entsA IV.i64 IV.i64 (mset (i : Int) (Ls.length : Int) es)))) (N + 16) (.rows 1 [[.nil]])) P .dead) (N + 17) (.rows 1 (tipRows qs Ls ++ [[.nil]]))) (N + 19) (.tip 1 0)) (N + 17) (.rows 1 (tipRows (qs ++ [N + 19]) (Ls ++ [[]]))) = heap4
      have ag : ∀ j, alGet heap4 j = if N + 17 = j then some (.rows 1 (tipRows (qs ++ [N + 19]) (Ls ++ [[]]))) else if N + 19 = j then some (.tip 1 0) else if P = j then some .dead else if N + 16 = j then some (.rows 1 [[.nil]]) else if 4 = j then some (.map (entsA IV.i64 IV.i64 (mset (i : Int) (Ls.length : Int) es))) else alGet heap0 j := fun j => by
        rw [← hH]
        simp only [alGet_alSet]
        split
        · rfl
        · split
          · rfl
          · rfl
      have n4 : NestOk heap4 (N + 20) (N + 17) (qs ++ [N + 19]) (Ls ++ [[]]) := hnest0.push (fun j o h => by have := hlt0 j o h; omega) (by rw [ag, if_pos rfl]) (by rw [ag, if_neg (by omega), if_pos rfl]) (fun k q' hk ho => by
        obtain ⟨o', ho'⟩ := Option.isSome_iff_exists.1 ho
        have hq' := hlt0 _ _ ho'
        have hl : k < Ls.length := by rw [← hnest0.len]; exact (List.getElem?_eq_some_iff.1 hk).1
        have ht := hnest0.tip k q' Ls[k] hk (by simp)
        rw [ag, if_neg (by omega), if_neg (by omega), if_neg (fun e => by rw [← e, hnest0.obj] at ht; cases ht), if_neg (by omega), if_neg (fun e => by rw [← e, g4] at ht; cases ht)])
      have lt4 : ∀ j o, alGet heap4 j = some o → j < N + 20 := by
        rw [← hH]
        exact lt_alSet (lt_alSet (lt_alSet (lt_alSet (lt_alSet (lt_alSet hlt0 (N' := N + 20) (by omega) (by omega)) (Nat.le_refl _) (by omega)) (Nat.le_refl _) (by omega)) (Nat.le_refl _) (by omega)) (Nat.le_refl _) (by omega)) (Nat.le_refl _) (by omega)
      have k0 : alGet heap4 0 = some (.rows 1 (rowsA rowI r.2)) := by rw [ag, if_neg (by omega), if_neg (by omega), if_neg hp0, if_neg (by omega), if_neg (by omega)]; exact g0
      have k1 : alGet heap4 1 = some (.rows 1 [[F29]]) := by rw [ag, if_neg (by omega), if_neg (by omega), if_neg hp1, if_neg (by omega), if_neg (by omega)]; exact g1
      have k4 : alGet heap4 4 = some (.map (entsA IV.i64 IV.i64 (mset (i : Int) (Ls.length : Int) es))) := by rw [ag, if_neg (by omega), if_neg (by omega), if_neg P4, if_neg (by omega), if_pos rfl]
      have hr4 : (tipRows (qs ++ [N + 19]) (Ls ++ [[]]))[Ls.length]? = some [.gslice (N + 19) (([] : List Int).map rowI)] := tipRows_get (by rw [← hnest0.len]; simp) (by simp)
      refine g_draw (i : Int) (i : Int) _ _ heap4 (N + 20) (N + 17) (Ls.length + 1) Ls.length (N + 19) _ _ [] (by rw [tipRows_len n4.len]; simp) lt4 n4.obj k4 (by rw [mget_mset]; rfl) hr4 (by rw [ag, if_neg (by omega), if_pos rfl]; rfl) (by simp) _ ?_
      refine inb_n ?_
      refine then_n ?_
      refine g_inc _ _ _ _ _ _ _ _ ?_
      rw [hw]
      have G := gok_draw (p := Ls.length) (q := N + 19) (L := []) n4 (by omega) lt4 (by omega) (by omega) k0 k1 k4 (by simp; omega) (fun k L hk => by
        rcases Nat.lt_or_ge k Ls.length with hlt | hge
        · rw [List.getElem?_append_left hlt] at hk; exact hlens k L hk
        · rw [List.getElem?_append_right hge] at hk
          cases hd : k - Ls.length with
          | zero => rw [hd] at hk; simp at hk; subst hk; simp
          | succ n => rw [hd] at hk; simp at hk) (by simp) (by rw [← hnest0.len]; simp)
      have eL : (Ls ++ [([] : List Int)]).set Ls.length ([] ++ [(i : Int)]) = Ls ++ [[(i : Int)]] := by simp
      rw [eL] at G
      refine ⟨_, _, rfl, G, ?_⟩
      have hc : ((i : Int) + 1) = ((i + 1 : Nat) : Int) := rfl
      rw [hc]
      simp only [GS, List.length_set, List.length_append, List.length_cons, List.length_nil]
      exact Weak.refl _
    · replace hs := cond_f g hs
      obtain ⟨L, hL, hs⟩ := obind hs
      cases hs
      obtain ⟨z0, z1, z2, z3, _⟩ := idxI_some hL
      refine awp_skip ?_
      refine then_n ?_
      have hql : ((mget r.1 es).getD 0).toNat < qs.length := by rw [hnest0.len]; exact z2
      have hq1 : qs[((mget r.1 es).getD 0).toNat]? = some qs[((mget r.1 es).getD 0).toNat] := by simp
      have hLl := hlens _ _ z1
      refine awp_weak (weak_envA [(1, F29), (5, .mslice P 0 Ls.length), (6, .map 4), (10, vI p1), (11, vI (i : Int)), (7, vI (i : Int)), (8, vI r.1)] [(19, vB (r.1 == (i : Int)))] heap0 (N + 10)) (Nat.le_refl _) ?_
      refine g_draw (i : Int) r.1 _ _ heap0 (N + 10) P Ls.length ((mget r.1 es).getD 0).toNat qs[((mget r.1 es).getD 0).toNat] es _ L hrl.symm hlt0 hnest0.obj g4 (by omega) (tipRows_get hq1 z1) (hnest0.tip _ _ _ hq1 z1) (by omega) _ ?_
      refine inb_n ?_
      refine then_n ?_
      refine g_inc _ _ _ _ _ _ _ _ ?_
      rw [hw]
      have G := gok_draw hnest0 (by omega) hlt0 hp0 hp1 g0 g1 g4 (by omega) hlens z1 hq1
      refine ⟨_, _, rfl, G, ?_⟩
      have hc : ((i : Int) + 1) = ((i + 1 : Nat) : Int) := rfl
      rw [hc]
      simp only [GS, List.length_set, List.length_append, List.length_cons, List.length_nil]
      exact Weak.refl _
  · rintro m ⟨Ls, es, above⟩ ⟨heap, N, P, qs⟩ hok hm ho
    subst ho
    have ee := Option.some.inj hd; subst ee
    show awp C _ _ _ ⟨[(1, F29), (5, .mslice P 0 Ls.length), (6, .map 4), (10, vI p1), (11, vI (m : Int))], heap, N⟩
    refine awp_seq ?_
    refine reg_fast (st' := ⟨[(1, F29), (5, .mslice P 0 Ls.length), (6, .map 4), (10, vI p1), (11, vI (m : Int)), (12, vB (decide ((m : Int) < p1)))], heap, N + 1⟩) [] .nil ?_ (by kernel_rfl)
    refine then_n ?_
    refine awp_seq ?_
    refine awp_ifF (by simp [*]) ?_
    refine awp_exit ?_
    refine then_x ?_
    refine then_x ?_
    refine inb_eq ?_
    refine then_n ?_
    refine awp_seq ?_
    refine reg_fast (st' := ⟨[(4, .mslice P 0 Ls.length)], heap, N + 3⟩) [] .nil ?_ (by kernel_rfl)
    refine then_n ?_
    refine awp_ret ?_
    have hlt := hok.lt
    have hmin := hok.min
    simp only at hlt hmin
    exact ⟨_, rfl, g_end (N := N + 3) ⟨hok.nest.obj, hok.nest.tip, hok.nest.len, hok.nest.nd⟩ (by omega) (fun j o h => by have := hlt j o h; omega) hok.p0 hok.p1 hok.h0 hok.h1⟩

end Go.Proofs.Ytgligibbgobmnaa
