/-
  Functions of the program: their abstract code, what they compute (printed by a program of ours), and that they do so.
-/
import Derived.Test.YtgligibbgobmnaaFirst07
namespace Go.Proofs.Ytgligibbgobmnaa
open Go.RowKit
set_option linter.unusedVariables false
set_option linter.unusedSimpArgs false
set_option maxRecDepth 100000

theorem r21_0_1 {C : Ctx} {nt : Nat} (HH : HasA C)   (P : Exit → St → Prop) (h : P .normal ⟨[(0, .ptr 0 0 0)], [(0, .rows 2 [[vI 0, vI 0]])], 1⟩) : awp C nt (.region false [] ri21_0 (some [0])) P ⟨[], [], 0⟩ := by
  exact reg_fast [] AllP.nil h (by kernel_rfl)

theorem r21_1_2 {C : Ctx} {nt : Nat} (HH : HasA C)   (P : Exit → St → Prop) (h : P .normal ⟨[(0, .ptr 0 0 0)], [(0, .rows 2 [[vI 0, vI 1]])], 3⟩) : awp C nt (.region false [] ri21_1 (some [0])) P ⟨[(0, .ptr 0 0 0)], [(0, .rows 2 [[vI 0, vI 0]])], 1⟩ := by
  exact reg_fast [] AllP.nil h (by kernel_rfl)

noncomputable def d_zero  : Option Ratio :=
  some ({ num := 0, den := 1 } : Ratio)
set_option maxHeartbeats 4000000 in
theorem t_zero {C : Ctx} (HH : HasA C)  (res : Ratio) (hd : d_zero  = some res) : APure C 21 [] (.agg (Ratio.row res)) := by
  refine APure.start HH.h21 5 (by simp [af21]) ?_
  unfold d_zero at hd
  show awp C _ af21.body (EndsR af21.results _) ⟨[], [], 0⟩
  refine awp_seq ?_
  refine r21_0_1 HH  _ ?_
  refine then_n ?_
  refine awp_seq ?_
  refine r21_1_2 HH  _ ?_
  refine then_n ?_
  refine awp_ret ?_
  have ee := Option.some.inj hd; subst ee
  exact end_ret (by kernel_rfl)

theorem r9a_0_1 {C : Ctx} {nt : Nat} (HH : HasA C) (p1 : Int) (p2 : Int)  (P : Exit → St → Prop) (h : P .normal ⟨[(0, vI p1), (1, vI p2), (2, .nil), (6, .ptr 0 0 0)], [(0, .rows 16 [[vI 0, vI 0, vI 0, vI 0, .nil, vI 0, vI 0, vB false, vB false, vI 0, vI 0, vI 0, vI 0, vI 0, vI 0, vB false]])], 1⟩) : awp C nt (.region false [] ri9_0 (some [0, 1, 2, 6])) P ⟨[(0, vI p1), (1, vI p2), (2, .nil)], [], 0⟩ := by
  exact reg_fast [] AllP.nil h (by kernel_rfl)

theorem r9a_1_2 {C : Ctx} {nt : Nat} (HH : HasA C) (p1 : Int) (p2 : Int) (r1 : Ratio) (hr1 : d_zero = some r1) (P : Exit → St → Prop) (h : P .normal ⟨[(6, .ptr 0 0 0)], [(0, .rows 16 [[vI p1, vI 0, vI p2, vI 1, .nil, vI 3, vI 0, vB false, vB false, vI (-1), vI (-1), vI r1.num, vI r1.den, vI (-1), vI (-1), vB false]])], 7⟩) : awp C nt (.region false [] ri9_1 (some [6])) P ⟨[(0, vI p1), (1, vI p2), (2, .nil), (6, .ptr 0 0 0)], [(0, .rows 16 [[vI 0, vI 0, vI 0, vI 0, .nil, vI 0, vI 0, vB false, vB false, vI 0, vI 0, vI 0, vI 0, vI 0, vI 0, vB false]])], 1⟩ := by
  exact reg_fast [.v (.agg (Ratio.row r1))] (AllP.cons (t_zero HH  r1 hr1) .nil) h (by kernel_rfl)

noncomputable def d_9a (p1 : Int) (p2 : Int) : Option (Int × Int) :=
  (Option.bind (d_zero) fun r1 => some (r1.num, r1.den))
set_option maxHeartbeats 4000000 in
theorem t_9a {C : Ctx} (HH : HasA C) (p1 : Int) (p2 : Int) (res : Int × Int) (hd : d_9a p1 p2 = some res) : DOk C 9 [vI p1, vI p2, .nil] [] 0 (.agg ([vI p1, vI 0, vI p2, vI 1, .imm (.slice (List.map CondT.row [])), vI 3, vI 0, vB false, vB false, vI (-1), vI (-1), vI res.1, vI res.2, vI (-1), vI (-1), vB false])) [] 0 := by
  refine DOk.start HH.h9 (by simp [af9]) .nil .nil (by kernel_rfl) (by kernel_rfl) (by kernel_rfl) (by kernel_rfl) ?_
  unfold d_9a at hd
  show awp C _ af9.body (EndsD af9.results _ _ _) ⟨[(0, vI p1), (1, vI p2), (2, .nil)], [], 0⟩
  refine awp_seq ?_
  refine r9a_0_1 HH p1 p2 _ ?_
  refine then_n ?_
  refine awp_seq ?_
  obtain ⟨r1, hr1, hd_1⟩ := obind hd; clear hd
  refine r9a_1_2 HH p1 p2 r1 hr1 _ ?_
  clear hr1
  refine then_n ?_
  refine awp_ret ?_
  have ee := Option.some.inj hd_1; subst ee
  exact end_dL (.agg [vI p1, vI 0, vI p2, vI 1, .nil, vI 3, vI 0, vB false, vB false, vI (-1), vI (-1), vI r1.num, vI r1.den, vI (-1), vI (-1), vB false]) (by kernel_rfl) (.one (.agg (.cons (.refl _) (.cons (.refl _) (.cons (.refl _) (.cons (.refl _) (.cons .nil (.cons (.refl _) (.cons (.refl _) (.cons (.refl _) (.cons (.refl _) (.cons (.refl _) (.cons (.refl _) (.cons (.refl _) (.cons (.refl _) (.cons (.refl _) (.cons (.refl _) (.cons (.refl _) .nil)))))))))))))))))) (weak_run [0] [] 0 [] [] AllP.nil (by kernel_rfl))

theorem r17a_0_1 {C : Ctx} {nt : Nat} (HH : HasA C)   (P : Exit → St → Prop) (h : P .normal ⟨[(0, .ptr 0 0 0)], [(0, .rows 7 [[vI 0, .nil, .nil, .nil, .nil, vI 0, .nil]])], 1⟩) : awp C nt (.region false [] ri17_0 (some [0])) P ⟨[], [], 0⟩ := by
  exact reg_fast [] AllP.nil h (by kernel_rfl)

theorem r17a_1_2 {C : Ctx} {nt : Nat} (HH : HasA C)  (r1 : Ratio) (hr1 : d_zero = some r1) (r2 : Ratio) (hr2 : d_zero = some r2) (r3 : Int × Int) (hr3 : d_9a 1 0 = some r3) (r4 : Int × Int) (hr4 : d_9a 2 1 = some r4) (r5 : Int × Int) (hr5 : d_9a 3 1 = some r5) (P : Exit → St → Prop) (h : P .normal ⟨[(0, .ptr 0 0 0)], [(0, .rows 7 [[vI 1, .mslice 1 0 1, .nil, .mslice 6 0 2, .mslice 10 0 3, vI 9, .nil]]), (1, .rows 1 [[vI 0]]), (6, .rows 7 [[vI 1, vI 0, vI 0, vI (-1), vI (-1), vI r1.num, vI r1.den], [vI 1, vI 0, vI 0, vI (-1), vI (-1), vI r2.num, vI r2.den]]), (10, .rows 16 [[vI 1, vI 0, vI 0, vI 1, .imm (.slice (List.map CondT.row [])), vI 3, vI 0, vB false, vB false, vI (-1), vI (-1), vI r3.1, vI r3.2, vI (-1), vI (-1), vB false], [vI 2, vI 0, vI 1, vI 1, .imm (.slice (List.map CondT.row [])), vI 3, vI 0, vB false, vB false, vI (-1), vI (-1), vI r4.1, vI r4.2, vI (-1), vI (-1), vB false], [vI 3, vI 0, vI 1, vI 1, .imm (.slice (List.map CondT.row [])), vI 3, vI 0, vB false, vB false, vI (-1), vI (-1), vI r5.1, vI r5.2, vI (-1), vI (-1), vB false]])], 13⟩) : awp C nt (.region false [] ri17_1 (some [0])) P ⟨[(0, .ptr 0 0 0)], [(0, .rows 7 [[vI 0, .nil, .nil, .nil, .nil, vI 0, .nil]])], 1⟩ := by
  exact reg_fast [.v (.agg (Ratio.row r1)), .v (.agg (Ratio.row r2)), .c [] 0 (.agg ([vI 1, vI 0, vI 0, vI 1, .imm (.slice (List.map CondT.row [])), vI 3, vI 0, vB false, vB false, vI (-1), vI (-1), vI r3.1, vI r3.2, vI (-1), vI (-1), vB false])) [] 0, .c [] 0 (.agg ([vI 2, vI 0, vI 1, vI 1, .imm (.slice (List.map CondT.row [])), vI 3, vI 0, vB false, vB false, vI (-1), vI (-1), vI r4.1, vI r4.2, vI (-1), vI (-1), vB false])) [] 0, .c [] 0 (.agg ([vI 3, vI 0, vI 1, vI 1, .imm (.slice (List.map CondT.row [])), vI 3, vI 0, vB false, vB false, vI (-1), vI (-1), vI r5.1, vI r5.2, vI (-1), vI (-1), vB false])) [] 0] (AllP.cons (t_zero HH  r1 hr1) (.cons (t_zero HH  r2 hr2) (.cons (call_side (t_9a HH 1 0 r3 hr3) [] 7 .nil rhN rhN) (.cons (call_side (t_9a HH 2 1 r4 hr4) [] 8 .nil rhN rhN) (.cons (call_side (t_9a HH 3 1 r5 hr5) [] 9 .nil rhN rhN) .nil))))) h (by kernel_rfl)

noncomputable def d_17a  : Option ((List ActT) × Int × Int × Int × Int × Int × Int) :=
  (Option.bind (d_zero) fun r1 => (Option.bind (d_zero) fun r2 => (Option.bind (d_9a 1 0) fun r3 => (Option.bind (d_9a 2 1) fun r4 => (Option.bind (d_9a 3 1) fun r5 => some ([({ kind := 1, role := 0, give := 0, to := (-1), unit := (-1), lot := r1 } : ActT), ({ kind := 1, role := 0, give := 0, to := (-1), unit := (-1), lot := r2 } : ActT)], r3.1, r3.2, r4.1, r4.2, r5.1, r5.2))))))
set_option maxHeartbeats 4000000 in
theorem t_17a {C : Ctx} (HH : HasA C)  (res : (List ActT) × Int × Int × Int × Int × Int × Int) (hd : d_17a  = some res) : DOk C 17 [] [] 0 (.agg ([vI 1, .imm (.slice (List.map rowI [0])), .nil, .imm (.slice (List.map ActT.row res.1)), .mslice 10 0 3, vI 9, .nil])) [(10, .rows 16 [[vI 1, vI 0, vI 0, vI 1, .imm (.slice (List.map CondT.row [])), vI 3, vI 0, vB false, vB false, vI (-1), vI (-1), vI res.2.1, vI res.2.2.1, vI (-1), vI (-1), vB false], [vI 2, vI 0, vI 1, vI 1, .imm (.slice (List.map CondT.row [])), vI 3, vI 0, vB false, vB false, vI (-1), vI (-1), vI res.2.2.2.1, vI res.2.2.2.2.1, vI (-1), vI (-1), vB false], [vI 3, vI 0, vI 1, vI 1, .imm (.slice (List.map CondT.row [])), vI 3, vI 0, vB false, vB false, vI (-1), vI (-1), vI res.2.2.2.2.2.1, vI res.2.2.2.2.2.2, vI (-1), vI (-1), vB false]])] 11 := by
  refine DOk.start HH.h17 (by simp [af17]) .nil (.exp rfl rfl .nil) (by kernel_rfl) (by kernel_rfl) (by kernel_rfl) (by kernel_rfl) ?_
  unfold d_17a at hd
  show awp C _ af17.body (EndsD af17.results _ _ _) ⟨[], [], 0⟩
  refine awp_seq ?_
  refine r17a_0_1 HH  _ ?_
  refine then_n ?_
  refine awp_seq ?_
  obtain ⟨r1, hr1, hd_1⟩ := obind hd; clear hd
  obtain ⟨r2, hr2, hd_2⟩ := obind hd_1; clear hd_1
  obtain ⟨r3, hr3, hd_3⟩ := obind hd_2; clear hd_2
  obtain ⟨r4, hr4, hd_4⟩ := obind hd_3; clear hd_3
  obtain ⟨r5, hr5, hd_5⟩ := obind hd_4; clear hd_4
  refine r17a_1_2 HH r1 hr1 r2 hr2 r3 hr3 r4 hr4 r5 hr5 _ ?_
  clear hr1 hr2 hr3 hr4 hr5
  refine then_n ?_
  refine awp_weak (st1 := ⟨[(0, .ptr 0 0 0)], [(0, .rows 7 [[vI 1, .imm (.slice (List.map rowI [0])), .nil, .mslice 6 0 2, .mslice 10 0 3, vI 9, .nil]]), (1, .dead), (6, .rows 7 [[vI 1, vI 0, vI 0, vI (-1), vI (-1), vI r1.num, vI r1.den], [vI 1, vI 0, vI 0, vI (-1), vI (-1), vI r2.num, vI r2.den]]), (10, .rows 16 [[vI 1, vI 0, vI 0, vI 1, .imm (.slice (List.map CondT.row [])), vI 3, vI 0, vB false, vB false, vI (-1), vI (-1), vI r3.1, vI r3.2, vI (-1), vI (-1), vB false], [vI 2, vI 0, vI 1, vI 1, .imm (.slice (List.map CondT.row [])), vI 3, vI 0, vB false, vB false, vI (-1), vI (-1), vI r4.1, vI r4.2, vI (-1), vI (-1), vB false], [vI 3, vI 0, vI 1, vI 1, .imm (.slice (List.map CondT.row [])), vI 3, vI 0, vB false, vB false, vI (-1), vI (-1), vI r5.1, vI r5.2, vI (-1), vI (-1), vB false]])], 13⟩) (weak_freezeX 1 1 0 1 (List.map rowI [0]) (List.map rowI [0]) [0] (rowsA rowI [0]) (imm_rowsA rowI [0]) (frz_all rowI [0]) (AllP.cons (⟨rfl, rfl⟩ : (0 : Nat) = 0 ∧ 1 = 1) .nil) (by kernel_rfl) (by kernel_rfl) (by kernel_rfl)) (by simp) ?_
  refine awp_weak (st1 := ⟨[(0, .ptr 0 0 0)], [(0, .rows 7 [[vI 1, .imm (.slice (List.map rowI [0])), .nil, .imm (.slice (List.map ActT.row [({ kind := 1, role := 0, give := 0, to := (-1), unit := (-1), lot := r1 } : ActT), ({ kind := 1, role := 0, give := 0, to := (-1), unit := (-1), lot := r2 } : ActT)])), .mslice 10 0 3, vI 9, .nil]]), (1, .dead), (6, .dead), (10, .rows 16 [[vI 1, vI 0, vI 0, vI 1, .imm (.slice (List.map CondT.row [])), vI 3, vI 0, vB false, vB false, vI (-1), vI (-1), vI r3.1, vI r3.2, vI (-1), vI (-1), vB false], [vI 2, vI 0, vI 1, vI 1, .imm (.slice (List.map CondT.row [])), vI 3, vI 0, vB false, vB false, vI (-1), vI (-1), vI r4.1, vI r4.2, vI (-1), vI (-1), vB false], [vI 3, vI 0, vI 1, vI 1, .imm (.slice (List.map CondT.row [])), vI 3, vI 0, vB false, vB false, vI (-1), vI (-1), vI r5.1, vI r5.2, vI (-1), vI (-1), vB false]])], 13⟩) (weak_freezeX 6 7 0 2 (List.map ActT.row [({ kind := 1, role := 0, give := 0, to := (-1), unit := (-1), lot := r1 } : ActT), ({ kind := 1, role := 0, give := 0, to := (-1), unit := (-1), lot := r2 } : ActT)]) (List.map ActT.row [({ kind := 1, role := 0, give := 0, to := (-1), unit := (-1), lot := r1 } : ActT), ({ kind := 1, role := 0, give := 0, to := (-1), unit := (-1), lot := r2 } : ActT)]) [0] (rowsA ActT.row [({ kind := 1, role := 0, give := 0, to := (-1), unit := (-1), lot := r1 } : ActT), ({ kind := 1, role := 0, give := 0, to := (-1), unit := (-1), lot := r2 } : ActT)]) (imm_rowsA ActT.row [({ kind := 1, role := 0, give := 0, to := (-1), unit := (-1), lot := r1 } : ActT), ({ kind := 1, role := 0, give := 0, to := (-1), unit := (-1), lot := r2 } : ActT)]) (frz_all ActT.row [({ kind := 1, role := 0, give := 0, to := (-1), unit := (-1), lot := r1 } : ActT), ({ kind := 1, role := 0, give := 0, to := (-1), unit := (-1), lot := r2 } : ActT)]) (AllP.cons (⟨rfl, rfl⟩ : (0 : Nat) = 0 ∧ 2 = 2) .nil) (by kernel_rfl) (by kernel_rfl) (by kernel_rfl)) (by simp) ?_
  refine awp_ret ?_
  have ee := Option.some.inj hd_5; subst ee
  exact end_d (by kernel_rfl) (weak_run [0] [(10, true)] 11 [] [] AllP.nil (by kernel_rfl))

theorem r13a_0_1 {C : Ctx} {nt : Nat} (HH : HasA C) (p1 : Int) (p2 : List Int) (p3 : List ActT) (p4 : List ClauseT) (p5 : Int)  (P : Exit → St → Prop) (h : P .normal ⟨[(1, .ptr 1 0 0)], [(0, .rows 16 (rowsA ClauseT.row p4)), (1, .rows 7 [[vI p1, .imm (.slice (List.map rowI p2)), .nil, .imm (.slice (List.map ActT.row p3)), .mslice 0 0 p4.length, vI p5, .nil]])], 3⟩) : awp C nt (.region false [] ri13_0 (some [1])) P ⟨[(0, .agg [vI p1, .imm (.slice (List.map rowI p2)), .nil, .imm (.slice (List.map ActT.row p3)), .mslice 0 0 p4.length, vI p5, .nil])], [(0, .rows 16 (rowsA ClauseT.row p4))], 1⟩ := by
  exact reg_fast [] AllP.nil h (by kernel_rfl)

theorem r13a_1_2 {C : Ctx} {nt : Nat} (HH : HasA C) (p1 : Int) (p2 : List Int) (p3 : List ActT) (p4 : List ClauseT) (p5 : Int) (r1 : Int × Int) (hr1 : d_Valid ({ parties := p1, holders := p2, units := [], acts := p3, clauses := p4, days := p5, off := [] } : ContractT) = some r1) (P : Exit → St → Prop) (h : P .normal ⟨[(1, .ptr 1 0 0), (3, vI r1.1)], [(0, .rows 16 (rowsA ClauseT.row p4)), (1, .rows 7 [[vI p1, .imm (.slice (List.map rowI p2)), .nil, .imm (.slice (List.map ActT.row p3)), .mslice 0 0 p4.length, vI p5, .nil]])], 10⟩) : awp C nt (.region false [] ri13_1 (some [1, 3])) P ⟨[(1, .ptr 1 0 0)], [(0, .rows 16 (rowsA ClauseT.row p4)), (1, .rows 7 [[vI p1, .imm (.slice (List.map rowI p2)), .nil, .imm (.slice (List.map ActT.row p3)), .mslice 0 0 p4.length, vI p5, .nil]])], 3⟩ := by
  exact reg_fast [.w [0] [.agg (ContractT.row ({ parties := p1, holders := p2, units := [], acts := p3, clauses := p4, days := p5, off := [] } : ContractT))] (.tuple [.int .i64 r1.1, .int .i64 r1.2])] (AllP.cons (t_Valid HH ({ parties := p1, holders := p2, units := [], acts := p3, clauses := p4, days := p5, off := [] } : ContractT) r1 hr1) (.cons (snap_of [.agg [vI p1, .imm (.slice (List.map rowI p2)), .nil, .imm (.slice (List.map ActT.row p3)), .mslice 0 0 p4.length, vI p5, .nil]] [(0, .rows 16 (rowsA ClauseT.row p4))] [.agg (ContractT.row ({ parties := p1, holders := p2, units := [], acts := p3, clauses := p4, days := p5, off := [] } : ContractT))] (snapC (snapA (snapC (snapI _) (snapC (snapI _) (snapC rfl (snapC (snapI _) (snapC (snapO ClauseT.row 0 16 p4 rfl) (snapC (snapI _) (snapC rfl snapN)))))))) snapN)) .nil)) h (by kernel_rfl)

theorem r13a_2_3 {C : Ctx} {nt : Nat} (HH : HasA C) (p1 : Int) (p2 : List Int) (p3 : List ActT) (p4 : List ClauseT) (p5 : Int) (r1 : Int × Int)  (P : Exit → St → Prop) (h : P .normal ⟨[(1, .ptr 1 0 0), (25, vB (!(r1.1 == 0)))], [(0, .rows 16 (rowsA ClauseT.row p4)), (1, .rows 7 [[vI p1, .imm (.slice (List.map rowI p2)), .nil, .imm (.slice (List.map ActT.row p3)), .mslice 0 0 p4.length, vI p5, .nil]])], 12⟩) : awp C nt (.region false [] ri13_2 (some [1, 25])) P ⟨[(1, .ptr 1 0 0), (3, vI r1.1)], [(0, .rows 16 (rowsA ClauseT.row p4)), (1, .rows 7 [[vI p1, .imm (.slice (List.map rowI p2)), .nil, .imm (.slice (List.map ActT.row p3)), .mslice 0 0 p4.length, vI p5, .nil]])], 10⟩ := by
  exact reg_fast [] AllP.nil h (by kernel_rfl)

theorem r13a_3_4 {C : Ctx} {nt : Nat} (HH : HasA C) (p1 : Int) (p2 : List Int) (p3 : List ActT) (p4 : List ClauseT) (p5 : Int) (r1 : Int × Int)  (P : Exit → St → Prop) (h : P .normal ⟨[(2, .nil)], [(0, .rows 16 (rowsA ClauseT.row p4)), (1, .rows 7 [[vI p1, .imm (.slice (List.map rowI p2)), .nil, .imm (.slice (List.map ActT.row p3)), .mslice 0 0 p4.length, vI p5, .nil]])], 13⟩) : awp C nt (.region false [] ri13_3 (some [2])) P ⟨[(1, .ptr 1 0 0), (25, vB (!(r1.1 == 0)))], [(0, .rows 16 (rowsA ClauseT.row p4)), (1, .rows 7 [[vI p1, .imm (.slice (List.map rowI p2)), .nil, .imm (.slice (List.map ActT.row p3)), .mslice 0 0 p4.length, vI p5, .nil]])], 12⟩ := by
  exact reg_fast [] AllP.nil h (by kernel_rfl)

theorem r13a_4_5 {C : Ctx} {nt : Nat} (HH : HasA C) (p1 : Int) (p2 : List Int) (p3 : List ActT) (p4 : List ClauseT) (p5 : Int) (r1 : Int × Int)  (P : Exit → St → Prop) (h : P .normal ⟨[(1, .ptr 1 0 0), (5, .ptr 12 0 0)], [(0, .rows 16 (rowsA ClauseT.row p4)), (1, .rows 7 [[vI p1, .imm (.slice (List.map rowI p2)), .nil, .imm (.slice (List.map ActT.row p3)), .mslice 0 0 p4.length, vI p5, .nil]]), (12, .rows 1 (rowsA rowI (List.replicate 400 0)))], 13⟩) : awp C nt (.region false [] ri13_4 (some [1, 5])) P ⟨[(1, .ptr 1 0 0), (25, vB (!(r1.1 == 0)))], [(0, .rows 16 (rowsA ClauseT.row p4)), (1, .rows 7 [[vI p1, .imm (.slice (List.map rowI p2)), .nil, .imm (.slice (List.map ActT.row p3)), .mslice 0 0 p4.length, vI p5, .nil]])], 12⟩ := by
  exact reg_fast [] AllP.nil h (by kernel_rfl)

theorem r13a_5_6 {C : Ctx} {nt : Nat} (HH : HasA C) (p1 : Int) (p2 : List Int) (p3 : List ActT) (p4 : List ClauseT) (p5 : Int)  (P : Exit → St → Prop) (h : P .normal ⟨[(1, .ptr 1 0 0), (5, .ptr 12 0 0), (28, vI (p4.length : Int)), (29, vI 0)], [(0, .rows 16 (rowsA ClauseT.row p4)), (1, .rows 7 [[vI p1, .imm (.slice (List.map rowI p2)), .nil, .imm (.slice (List.map ActT.row p3)), .mslice 0 0 p4.length, vI p5, .nil]]), (12, .rows 1 (rowsA rowI (List.replicate 400 0)))], 17⟩) : awp C nt (.region false [] ri13_5 (some [1, 5, 28, 29])) P ⟨[(1, .ptr 1 0 0), (5, .ptr 12 0 0)], [(0, .rows 16 (rowsA ClauseT.row p4)), (1, .rows 7 [[vI p1, .imm (.slice (List.map rowI p2)), .nil, .imm (.slice (List.map ActT.row p3)), .mslice 0 0 p4.length, vI p5, .nil]]), (12, .rows 1 (rowsA rowI (List.replicate 400 0)))], 13⟩ := by
  exact reg_fast [] AllP.nil h (by kernel_rfl)

theorem r13a_6_7 {C : Ctx} {nt : Nat} (HH : HasA C) (p1 : Int) (p2 : List Int) (p3 : List ActT) (p4 : List ClauseT) (p5 : Int) (i1 : Nat) (s1 : (List Int))  (P : Exit → St → Prop) (h : P .normal ⟨[(1, .ptr 1 0 0), (5, .ptr 12 0 0), (28, vI (p4.length : Int)), (29, vI (i1 : Int)), (30, vB (decide ((i1 : Int) < (p4.length : Int))))], [(0, .rows 16 (rowsA ClauseT.row p4)), (1, .rows 7 [[vI p1, .imm (.slice (List.map rowI p2)), .nil, .imm (.slice (List.map ActT.row p3)), .mslice 0 0 p4.length, vI p5, .nil]]), (12, .rows 1 (rowsA rowI s1))], 18⟩) : awp C nt (.region false [] ri13_6 (some [1, 5, 28, 29, 30])) P ⟨[(1, .ptr 1 0 0), (5, .ptr 12 0 0), (28, vI (p4.length : Int)), (29, vI (i1 : Int))], [(0, .rows 16 (rowsA ClauseT.row p4)), (1, .rows 7 [[vI p1, .imm (.slice (List.map rowI p2)), .nil, .imm (.slice (List.map ActT.row p3)), .mslice 0 0 p4.length, vI p5, .nil]]), (12, .rows 1 (rowsA rowI s1))], 17⟩ := by
  exact reg_fast [] AllP.nil h (by kernel_rfl)

theorem r13a_7_8 {C : Ctx} {nt : Nat} (HH : HasA C) (p1 : Int) (p2 : List Int) (p3 : List ActT) (p4 : List ClauseT) (p5 : Int) (i1 : Nat) (s1 : (List Int))  (P : Exit → St → Prop) (h : P .normal ⟨[(1, .ptr 1 0 0), (5, .ptr 12 0 0), (28, vI (p4.length : Int)), (29, vI (i1 : Int)), (6, vI (i1 : Int))], [(0, .rows 16 (rowsA ClauseT.row p4)), (1, .rows 7 [[vI p1, .imm (.slice (List.map rowI p2)), .nil, .imm (.slice (List.map ActT.row p3)), .mslice 0 0 p4.length, vI p5, .nil]]), (12, .rows 1 (rowsA rowI s1))], 20⟩) : awp C nt (.region false [] ri13_7 (some [1, 5, 6, 28, 29])) P ⟨[(1, .ptr 1 0 0), (5, .ptr 12 0 0), (28, vI (p4.length : Int)), (29, vI (i1 : Int)), (30, vB (decide ((i1 : Int) < (p4.length : Int))))], [(0, .rows 16 (rowsA ClauseT.row p4)), (1, .rows 7 [[vI p1, .imm (.slice (List.map rowI p2)), .nil, .imm (.slice (List.map ActT.row p3)), .mslice 0 0 p4.length, vI p5, .nil]]), (12, .rows 1 (rowsA rowI s1))], 18⟩ := by
  exact reg_fast [] AllP.nil h (by kernel_rfl)

theorem r13a_8_9 {C : Ctx} {nt : Nat} (HH : HasA C) (p1 : Int) (p2 : List Int) (p3 : List ActT) (p4 : List ClauseT) (p5 : Int) (i1 : Nat) (s1 : (List Int)) (k1 : Nat) (hk1 : idxN 400 (i1 : Int) = some k1) (e1 : Int) (he1 : s1[k1]? = some e1) (P : Exit → St → Prop) (h : P .normal ⟨[(1, .ptr 1 0 0), (5, .ptr 12 0 0), (28, vI (p4.length : Int)), (29, vI (i1 : Int))], [(0, .rows 16 (rowsA ClauseT.row p4)), (1, .rows 7 [[vI p1, .imm (.slice (List.map rowI p2)), .nil, .imm (.slice (List.map ActT.row p3)), .mslice 0 0 p4.length, vI p5, .nil]]), (12, .rows 1 (rowsA rowI (s1.set k1 (i1 : Int))))], 24⟩) : awp C nt (.region false [] ri13_8 (some [1, 5, 28, 29])) P ⟨[(1, .ptr 1 0 0), (5, .ptr 12 0 0), (28, vI (p4.length : Int)), (29, vI (i1 : Int)), (6, vI (i1 : Int))], [(0, .rows 16 (rowsA ClauseT.row p4)), (1, .rows 7 [[vI p1, .imm (.slice (List.map rowI p2)), .nil, .imm (.slice (List.map ActT.row p3)), .mslice 0 0 p4.length, vI p5, .nil]]), (12, .rows 1 (rowsA rowI s1))], 20⟩ := by
  exact reg_fast [.k k1, .aw (rowA (rowI e1)) (rowsA rowI (s1.set k1 (i1 : Int)))] (AllP.cons (midx_side hk1) (.cons (sto_side rowI (i1 : Int) he1) .nil)) h (by kernel_rfl)

theorem r13a_9_10 {C : Ctx} {nt : Nat} (HH : HasA C) (p1 : Int) (p2 : List Int) (p3 : List ActT) (p4 : List ClauseT) (p5 : Int) (i1 : Nat) (s1 : (List Int)) (k1 : Nat)  (P : Exit → St → Prop) (h : P .normal ⟨[(1, .ptr 1 0 0), (5, .ptr 12 0 0), (28, vI (p4.length : Int)), (29, vI (IntKind.i64.wrap ((i1 : Int) + 1)))], [(0, .rows 16 (rowsA ClauseT.row p4)), (1, .rows 7 [[vI p1, .imm (.slice (List.map rowI p2)), .nil, .imm (.slice (List.map ActT.row p3)), .mslice 0 0 p4.length, vI p5, .nil]]), (12, .rows 1 (rowsA rowI (s1.set k1 (i1 : Int))))], 26⟩) : awp C nt (.region false [] ri13_9 (some [1, 5, 28, 29])) P ⟨[(1, .ptr 1 0 0), (5, .ptr 12 0 0), (28, vI (p4.length : Int)), (29, vI (i1 : Int))], [(0, .rows 16 (rowsA ClauseT.row p4)), (1, .rows 7 [[vI p1, .imm (.slice (List.map rowI p2)), .nil, .imm (.slice (List.map ActT.row p3)), .mslice 0 0 p4.length, vI p5, .nil]]), (12, .rows 1 (rowsA rowI (s1.set k1 (i1 : Int))))], 24⟩ := by
  exact reg_fast [] AllP.nil h (by kernel_rfl)

theorem r13a_6_11 {C : Ctx} {nt : Nat} (HH : HasA C) (p1 : Int) (p2 : List Int) (p3 : List ActT) (p4 : List ClauseT) (p5 : Int) (i1 : Nat) (s1 : (List Int))  (P : Exit → St → Prop) (h : P .normal ⟨[(1, .ptr 1 0 0), (5, .ptr 12 0 0), (28, vI (p4.length : Int)), (29, vI (i1 : Int)), (30, vB (decide ((i1 : Int) < (p4.length : Int))))], [(0, .rows 16 (rowsA ClauseT.row p4)), (1, .rows 7 [[vI p1, .imm (.slice (List.map rowI p2)), .nil, .imm (.slice (List.map ActT.row p3)), .mslice 0 0 p4.length, vI p5, .nil]]), (12, .rows 1 (rowsA rowI s1))], 18⟩) : awp C nt (.region false [] ri13_6 (some [1, 5, 28, 29, 30])) P ⟨[(1, .ptr 1 0 0), (5, .ptr 12 0 0), (28, vI (p4.length : Int)), (29, vI (i1 : Int))], [(0, .rows 16 (rowsA ClauseT.row p4)), (1, .rows 7 [[vI p1, .imm (.slice (List.map rowI p2)), .nil, .imm (.slice (List.map ActT.row p3)), .mslice 0 0 p4.length, vI p5, .nil]]), (12, .rows 1 (rowsA rowI s1))], 17⟩ := by
  exact reg_fast [] AllP.nil h (by kernel_rfl)

theorem r13a_10_12 {C : Ctx} {nt : Nat} (HH : HasA C) (p1 : Int) (p2 : List Int) (p3 : List ActT) (p4 : List ClauseT) (p5 : Int) (i1 : Nat) (s1 : (List Int))  (P : Exit → St → Prop) (h : P .normal ⟨[(1, .ptr 1 0 0), (5, .ptr 12 0 0), (7, .ptr 18 0 0)], [(0, .rows 16 (rowsA ClauseT.row p4)), (1, .rows 7 [[vI p1, .imm (.slice (List.map rowI p2)), .nil, .imm (.slice (List.map ActT.row p3)), .mslice 0 0 p4.length, vI p5, .nil]]), (12, .rows 1 (rowsA rowI s1)), (18, .rows 1 [[.top]])], 19⟩) : awp C nt (.region false [] ri13_10 (some [1, 5, 7])) P ⟨[(1, .ptr 1 0 0), (5, .ptr 12 0 0), (28, vI (p4.length : Int)), (29, vI (i1 : Int)), (30, vB (decide ((i1 : Int) < (p4.length : Int))))], [(0, .rows 16 (rowsA ClauseT.row p4)), (1, .rows 7 [[vI p1, .imm (.slice (List.map rowI p2)), .nil, .imm (.slice (List.map ActT.row p3)), .mslice 0 0 p4.length, vI p5, .nil]]), (12, .rows 1 (rowsA rowI s1))], 18⟩ := by
  exact reg_fast [] AllP.nil h (by kernel_rfl)

theorem r13a_11_13 {C : Ctx} {nt : Nat} (HH : HasA C) (p1 : Int) (p2 : List Int) (p3 : List ActT) (p4 : List ClauseT) (p5 : Int) (s1 : (List Int))  (P : Exit → St → Prop) (h : P .normal ⟨[(1, .ptr 1 0 0), (5, .ptr 12 0 0), (7, .ptr 18 0 0)], [(0, .rows 16 (rowsA ClauseT.row p4)), (1, .rows 7 [[vI p1, .imm (.slice (List.map rowI p2)), .nil, .imm (.slice (List.map ActT.row p3)), .mslice 0 0 p4.length, vI p5, .nil]]), (12, .rows 1 (rowsA rowI s1)), (18, .rows 1 [[.func 29 [] [.ptr 12 0 0, .ptr 18 0 0]]])], 21⟩) : awp C nt (.region false [] ri13_11 (some [1, 5, 7])) P ⟨[(1, .ptr 1 0 0), (5, .ptr 12 0 0), (7, .ptr 18 0 0)], [(0, .rows 16 (rowsA ClauseT.row p4)), (1, .rows 7 [[vI p1, .imm (.slice (List.map rowI p2)), .nil, .imm (.slice (List.map ActT.row p3)), .mslice 0 0 p4.length, vI p5, .nil]]), (12, .rows 1 (rowsA rowI s1)), (18, .rows 1 [[.top]])], 19⟩ := by
  exact reg_fast [] AllP.nil h (by kernel_rfl)

theorem r13a_12_14 {C : Ctx} {nt : Nat} (HH : HasA C) (p1 : Int) (p2 : List Int) (p3 : List ActT) (p4 : List ClauseT) (p5 : Int) (s1 : (List Int))  (P : Exit → St → Prop) (h : P .normal ⟨[(1, .ptr 1 0 0), (7, .ptr 18 0 0), (8, .func 30 [] [.ptr 18 0 0, .ptr 12 0 0])], [(0, .rows 16 (rowsA ClauseT.row p4)), (1, .rows 7 [[vI p1, .imm (.slice (List.map rowI p2)), .nil, .imm (.slice (List.map ActT.row p3)), .mslice 0 0 p4.length, vI p5, .nil]]), (12, .rows 1 (rowsA rowI s1)), (18, .rows 1 [[.func 29 [] [.ptr 12 0 0, .ptr 18 0 0]]])], 23⟩) : awp C nt (.region false [] ri13_12 (some [1, 7, 8])) P ⟨[(1, .ptr 1 0 0), (5, .ptr 12 0 0), (7, .ptr 18 0 0)], [(0, .rows 16 (rowsA ClauseT.row p4)), (1, .rows 7 [[vI p1, .imm (.slice (List.map rowI p2)), .nil, .imm (.slice (List.map ActT.row p3)), .mslice 0 0 p4.length, vI p5, .nil]]), (12, .rows 1 (rowsA rowI s1)), (18, .rows 1 [[.func 29 [] [.ptr 12 0 0, .ptr 18 0 0]]])], 21⟩ := by
  exact reg_fast [] AllP.nil h (by kernel_rfl)

theorem r13a_13_15 {C : Ctx} {nt : Nat} (HH : HasA C) (p1 : Int) (p2 : List Int) (p3 : List ActT) (p4 : List ClauseT) (p5 : Int) (s1 : (List Int)) (r2 : Bool) (hr2 : d_31a p3 = some r2) (P : Exit → St → Prop) (h : P .normal ⟨[(1, .ptr 1 0 0), (7, .ptr 18 0 0), (8, .func 30 [] [.ptr 18 0 0, .ptr 12 0 0]), (9, vB r2)], [(0, .rows 16 (rowsA ClauseT.row p4)), (1, .rows 7 [[vI p1, .imm (.slice (List.map rowI p2)), .nil, .imm (.slice (List.map ActT.row p3)), .mslice 0 0 p4.length, vI p5, .nil]]), (12, .rows 1 (rowsA rowI s1)), (18, .rows 1 [[.func 29 [] [.ptr 12 0 0, .ptr 18 0 0]]])], 27⟩) : awp C nt (.region false [] ri13_13 (some [1, 7, 8, 9])) P ⟨[(1, .ptr 1 0 0), (7, .ptr 18 0 0), (8, .func 30 [] [.ptr 18 0 0, .ptr 12 0 0])], [(0, .rows 16 (rowsA ClauseT.row p4)), (1, .rows 7 [[vI p1, .imm (.slice (List.map rowI p2)), .nil, .imm (.slice (List.map ActT.row p3)), .mslice 0 0 p4.length, vI p5, .nil]]), (12, .rows 1 (rowsA rowI s1)), (18, .rows 1 [[.func 29 [] [.ptr 12 0 0, .ptr 18 0 0]]])], 23⟩ := by
  exact reg_fast [.c [] 0 (vB r2) [] 0] (AllP.cons (call_side (t_31a HH p3 r2 hr2) [] 25 .nil rhN rhN) .nil) h (by kernel_rfl)

theorem r13a_14_16 {C : Ctx} {nt : Nat} (HH : HasA C) (p1 : Int) (p2 : List Int) (p3 : List ActT) (p4 : List ClauseT) (p5 : Int) (s1 : (List Int)) (r2 : Bool)  (P : Exit → St → Prop) (h : P .normal ⟨[(1, .ptr 1 0 0), (7, .ptr 18 0 0), (8, .func 30 [] [.ptr 18 0 0, .ptr 12 0 0]), (9, vB r2), (10, .map 27)], [(0, .rows 16 (rowsA ClauseT.row p4)), (1, .rows 7 [[vI p1, .imm (.slice (List.map rowI p2)), .nil, .imm (.slice (List.map ActT.row p3)), .mslice 0 0 p4.length, vI p5, .nil]]), (12, .rows 1 (rowsA rowI s1)), (18, .rows 1 [[.func 29 [] [.ptr 12 0 0, .ptr 18 0 0]]]), (27, .map [])], 29⟩) : awp C nt (.region false [] ri13_14 (some [1, 7, 8, 9, 10])) P ⟨[(1, .ptr 1 0 0), (7, .ptr 18 0 0), (8, .func 30 [] [.ptr 18 0 0, .ptr 12 0 0]), (9, vB r2)], [(0, .rows 16 (rowsA ClauseT.row p4)), (1, .rows 7 [[vI p1, .imm (.slice (List.map rowI p2)), .nil, .imm (.slice (List.map ActT.row p3)), .mslice 0 0 p4.length, vI p5, .nil]]), (12, .rows 1 (rowsA rowI s1)), (18, .rows 1 [[.func 29 [] [.ptr 12 0 0, .ptr 18 0 0]]])], 27⟩ := by
  exact reg_fast [] AllP.nil h (by kernel_rfl)

theorem r13a_15_17 {C : Ctx} {nt : Nat} (HH : HasA C) (p1 : Int) (p2 : List Int) (p3 : List ActT) (p4 : List ClauseT) (p5 : Int) (s1 : (List Int)) (r2 : Bool)  (P : Exit → St → Prop) (h : P .normal ⟨[(1, .ptr 1 0 0), (7, .ptr 18 0 0), (8, .func 30 [] [.ptr 18 0 0, .ptr 12 0 0]), (9, vB r2), (10, .map 27), (43, .mslice 0 0 p4.length), (44, vI (p4.length : Int)), (45, vI 0)], [(0, .rows 16 (rowsA ClauseT.row p4)), (1, .rows 7 [[vI p1, .imm (.slice (List.map rowI p2)), .nil, .imm (.slice (List.map ActT.row p3)), .mslice 0 0 p4.length, vI p5, .nil]]), (12, .rows 1 (rowsA rowI s1)), (18, .rows 1 [[.func 29 [] [.ptr 12 0 0, .ptr 18 0 0]]]), (27, .map [])], 33⟩) : awp C nt (.region false [] ri13_15 (some [1, 7, 8, 9, 10, 43, 44, 45])) P ⟨[(1, .ptr 1 0 0), (7, .ptr 18 0 0), (8, .func 30 [] [.ptr 18 0 0, .ptr 12 0 0]), (9, vB r2), (10, .map 27)], [(0, .rows 16 (rowsA ClauseT.row p4)), (1, .rows 7 [[vI p1, .imm (.slice (List.map rowI p2)), .nil, .imm (.slice (List.map ActT.row p3)), .mslice 0 0 p4.length, vI p5, .nil]]), (12, .rows 1 (rowsA rowI s1)), (18, .rows 1 [[.func 29 [] [.ptr 12 0 0, .ptr 18 0 0]]]), (27, .map [])], 29⟩ := by
  exact reg_fast [] AllP.nil h (by kernel_rfl)

theorem r13a_16_18 {C : Ctx} {nt : Nat} (HH : HasA C) (p1 : Int) (p2 : List Int) (p3 : List ActT) (p4 : List ClauseT) (p5 : Int) (r2 : Bool) (i2 : Nat) (s2 : (List Int) × (List (Int × Int)))  (P : Exit → St → Prop) (h : P .normal ⟨[(1, .ptr 1 0 0), (7, .ptr 18 0 0), (8, .func 30 [] [.ptr 18 0 0, .ptr 12 0 0]), (9, vB r2), (10, .map 27), (43, .mslice 0 0 p4.length), (44, vI (p4.length : Int)), (45, vI (i2 : Int)), (46, vB (decide ((i2 : Int) < (p4.length : Int))))], [(0, .rows 16 (rowsA ClauseT.row p4)), (1, .rows 7 [[vI p1, .imm (.slice (List.map rowI p2)), .nil, .imm (.slice (List.map ActT.row p3)), .mslice 0 0 p4.length, vI p5, .nil]]), (12, .rows 1 (rowsA rowI s2.1)), (18, .rows 1 [[.func 29 [] [.ptr 12 0 0, .ptr 18 0 0]]]), (27, .map (entsA IV.i64 IV.i64 s2.2))], 34⟩) : awp C nt (.region false [] ri13_16 (some [1, 7, 8, 9, 10, 43, 44, 45, 46])) P ⟨[(1, .ptr 1 0 0), (7, .ptr 18 0 0), (8, .func 30 [] [.ptr 18 0 0, .ptr 12 0 0]), (9, vB r2), (10, .map 27), (43, .mslice 0 0 p4.length), (44, vI (p4.length : Int)), (45, vI (i2 : Int))], [(0, .rows 16 (rowsA ClauseT.row p4)), (1, .rows 7 [[vI p1, .imm (.slice (List.map rowI p2)), .nil, .imm (.slice (List.map ActT.row p3)), .mslice 0 0 p4.length, vI p5, .nil]]), (12, .rows 1 (rowsA rowI s2.1)), (18, .rows 1 [[.func 29 [] [.ptr 12 0 0, .ptr 18 0 0]]]), (27, .map (entsA IV.i64 IV.i64 s2.2))], 33⟩ := by
  exact reg_fast [] AllP.nil h (by kernel_rfl)

theorem r13a_17_19 {C : Ctx} {nt : Nat} (HH : HasA C) (p1 : Int) (p2 : List Int) (p3 : List ActT) (p4 : List ClauseT) (p5 : Int) (r2 : Bool) (i2 : Nat) (s2 : (List Int) × (List (Int × Int))) (k2 : Nat) (hk2 : idxN p4.length (i2 : Int) = some k2) (e2 : ClauseT) (he2 : p4[k2]? = some e2) (P : Exit → St → Prop) (h : P .normal ⟨[(1, .ptr 1 0 0), (7, .ptr 18 0 0), (8, .func 30 [] [.ptr 18 0 0, .ptr 12 0 0]), (9, vB r2), (10, .map 27), (43, .mslice 0 0 p4.length), (44, vI (p4.length : Int)), (45, vI (i2 : Int)), (12, .ptr 37 0 0), (11, vI (i2 : Int))], [(0, .rows 16 (rowsA ClauseT.row p4)), (1, .rows 7 [[vI p1, .imm (.slice (List.map rowI p2)), .nil, .imm (.slice (List.map ActT.row p3)), .mslice 0 0 p4.length, vI p5, .nil]]), (12, .rows 1 (rowsA rowI s2.1)), (18, .rows 1 [[.func 29 [] [.ptr 12 0 0, .ptr 18 0 0]]]), (27, .map (entsA IV.i64 IV.i64 s2.2)), (37, .rows 16 [rowA (ClauseT.row e2)])], 40⟩) : awp C nt (.region false [] ri13_17 (some [1, 7, 8, 9, 10, 11, 12, 43, 44, 45])) P ⟨[(1, .ptr 1 0 0), (7, .ptr 18 0 0), (8, .func 30 [] [.ptr 18 0 0, .ptr 12 0 0]), (9, vB r2), (10, .map 27), (43, .mslice 0 0 p4.length), (44, vI (p4.length : Int)), (45, vI (i2 : Int)), (46, vB (decide ((i2 : Int) < (p4.length : Int))))], [(0, .rows 16 (rowsA ClauseT.row p4)), (1, .rows 7 [[vI p1, .imm (.slice (List.map rowI p2)), .nil, .imm (.slice (List.map ActT.row p3)), .mslice 0 0 p4.length, vI p5, .nil]]), (12, .rows 1 (rowsA rowI s2.1)), (18, .rows 1 [[.func 29 [] [.ptr 12 0 0, .ptr 18 0 0]]]), (27, .map (entsA IV.i64 IV.i64 s2.2))], 34⟩ := by
  exact reg_fast [.k k2, .ar (rowA (ClauseT.row e2))] (AllP.cons (midx_side hk2) (.cons (row_side ClauseT.row he2) .nil)) h (by kernel_rfl)

theorem r13a_18_20 {C : Ctx} {nt : Nat} (HH : HasA C) (p1 : Int) (p2 : List Int) (p3 : List ActT) (p4 : List ClauseT) (p5 : Int) (r2 : Bool) (i2 : Nat) (s2 : (List Int) × (List (Int × Int))) (e2 : ClauseT)  (P : Exit → St → Prop) (h : P .normal ⟨[(1, .ptr 1 0 0), (7, .ptr 18 0 0), (8, .func 30 [] [.ptr 18 0 0, .ptr 12 0 0]), (9, vB r2), (10, .map 27), (43, .mslice 0 0 p4.length), (44, vI (p4.length : Int)), (45, vI (i2 : Int)), (12, .ptr 37 0 0), (11, vI (i2 : Int)), (50, vB r2)], [(0, .rows 16 (rowsA ClauseT.row p4)), (1, .rows 7 [[vI p1, .imm (.slice (List.map rowI p2)), .nil, .imm (.slice (List.map ActT.row p3)), .mslice 0 0 p4.length, vI p5, .nil]]), (12, .rows 1 (rowsA rowI s2.1)), (18, .rows 1 [[.func 29 [] [.ptr 12 0 0, .ptr 18 0 0]]]), (27, .map (entsA IV.i64 IV.i64 s2.2)), (37, .rows 16 [rowA (ClauseT.row e2)])], 41⟩) : awp C nt (.region false [] ri13_18 (some [1, 7, 8, 9, 10, 11, 12, 43, 44, 45, 50])) P ⟨[(1, .ptr 1 0 0), (7, .ptr 18 0 0), (8, .func 30 [] [.ptr 18 0 0, .ptr 12 0 0]), (9, vB r2), (10, .map 27), (43, .mslice 0 0 p4.length), (44, vI (p4.length : Int)), (45, vI (i2 : Int)), (12, .ptr 37 0 0), (11, vI (i2 : Int))], [(0, .rows 16 (rowsA ClauseT.row p4)), (1, .rows 7 [[vI p1, .imm (.slice (List.map rowI p2)), .nil, .imm (.slice (List.map ActT.row p3)), .mslice 0 0 p4.length, vI p5, .nil]]), (12, .rows 1 (rowsA rowI s2.1)), (18, .rows 1 [[.func 29 [] [.ptr 12 0 0, .ptr 18 0 0]]]), (27, .map (entsA IV.i64 IV.i64 s2.2)), (37, .rows 16 [rowA (ClauseT.row e2)])], 40⟩ := by
  exact reg_fast [] AllP.nil h (by kernel_rfl)

theorem r13a_19_21 {C : Ctx} {nt : Nat} (HH : HasA C) (p1 : Int) (p2 : List Int) (p3 : List ActT) (p4 : List ClauseT) (p5 : Int) (r2 : Bool) (i2 : Nat) (s2 : (List Int) × (List (Int × Int))) (e2 : ClauseT) (r3 : (List Int)) (hr3 : d_30a 0 (i2 : Int) s2.1 = some r3) (P : Exit → St → Prop) (h : P .normal ⟨[(1, .ptr 1 0 0), (7, .ptr 18 0 0), (8, .func 30 [] [.ptr 18 0 0, .ptr 12 0 0]), (9, vB r2), (10, .map 27), (43, .mslice 0 0 p4.length), (44, vI (p4.length : Int)), (45, vI (i2 : Int)), (12, .ptr 37 0 0), (11, vI (i2 : Int))], [(0, .rows 16 (rowsA ClauseT.row p4)), (1, .rows 7 [[vI p1, .imm (.slice (List.map rowI p2)), .nil, .imm (.slice (List.map ActT.row p3)), .mslice 0 0 p4.length, vI p5, .nil]]), (12, .rows 1 (rowsA rowI r3)), (18, .rows 1 [[.func 29 [] [.ptr 12 0 0, .ptr 18 0 0]]]), (27, .map (entsA IV.i64 IV.i64 s2.2)), (37, .rows 16 [rowA (ClauseT.row e2)])], 44⟩) : awp C nt (.region false [] ri13_19 (some [1, 7, 8, 9, 10, 11, 12, 43, 44, 45])) P ⟨[(1, .ptr 1 0 0), (7, .ptr 18 0 0), (8, .func 30 [] [.ptr 18 0 0, .ptr 12 0 0]), (9, vB r2), (10, .map 27), (43, .mslice 0 0 p4.length), (44, vI (p4.length : Int)), (45, vI (i2 : Int)), (12, .ptr 37 0 0), (11, vI (i2 : Int)), (50, vB r2)], [(0, .rows 16 (rowsA ClauseT.row p4)), (1, .rows 7 [[vI p1, .imm (.slice (List.map rowI p2)), .nil, .imm (.slice (List.map ActT.row p3)), .mslice 0 0 p4.length, vI p5, .nil]]), (12, .rows 1 (rowsA rowI s2.1)), (18, .rows 1 [[.func 29 [] [.ptr 12 0 0, .ptr 18 0 0]]]), (27, .map (entsA IV.i64 IV.i64 s2.2)), (37, .rows 16 [rowA (ClauseT.row e2)])], 41⟩ := by
  exact reg_fast [.c [18, 12] 2 (.tuple []) [(12, .rows 1 (rowsA rowI r3))] 0] (AllP.cons (call_side (t_30a HH 0 (i2 : Int) s2.1 r3 hr3) [18, 12] 43 (.drop rfl rfl (.keep .nil)) (rhR (rhI rhN)) (rhI rhN)) .nil) h (by kernel_rfl)

theorem r13a_20_22 {C : Ctx} {nt : Nat} (HH : HasA C) (p1 : Int) (p2 : List Int) (p3 : List ActT) (p4 : List ClauseT) (p5 : Int) (r2 : Bool) (i2 : Nat) (s2 : (List Int) × (List (Int × Int))) (e2 : ClauseT) (v1 : (List Int))  (P : Exit → St → Prop) (h : P .normal ⟨[(1, .ptr 1 0 0), (7, .ptr 18 0 0), (8, .func 30 [] [.ptr 18 0 0, .ptr 12 0 0]), (9, vB r2), (10, .map 27), (43, .mslice 0 0 p4.length), (44, vI (p4.length : Int)), (45, vI (i2 : Int)), (12, .ptr 37 0 0), (11, vI (i2 : Int)), (55, .imm (.slice (List.map CondT.row e2.start))), (56, vI (e2.start.length : Int)), (57, vI 0)], [(0, .rows 16 (rowsA ClauseT.row p4)), (1, .rows 7 [[vI p1, .imm (.slice (List.map rowI p2)), .nil, .imm (.slice (List.map ActT.row p3)), .mslice 0 0 p4.length, vI p5, .nil]]), (12, .rows 1 (rowsA rowI v1)), (18, .rows 1 [[.func 29 [] [.ptr 12 0 0, .ptr 18 0 0]]]), (27, .map (entsA IV.i64 IV.i64 s2.2)), (37, .rows 16 [rowA (ClauseT.row e2)])], 45⟩) : awp C nt (.region false [] ri13_20 (some [1, 7, 8, 9, 10, 11, 12, 43, 44, 45, 55, 56, 57])) P ⟨[(1, .ptr 1 0 0), (7, .ptr 18 0 0), (8, .func 30 [] [.ptr 18 0 0, .ptr 12 0 0]), (9, vB r2), (10, .map 27), (43, .mslice 0 0 p4.length), (44, vI (p4.length : Int)), (45, vI (i2 : Int)), (12, .ptr 37 0 0), (11, vI (i2 : Int))], [(0, .rows 16 (rowsA ClauseT.row p4)), (1, .rows 7 [[vI p1, .imm (.slice (List.map rowI p2)), .nil, .imm (.slice (List.map ActT.row p3)), .mslice 0 0 p4.length, vI p5, .nil]]), (12, .rows 1 (rowsA rowI v1)), (18, .rows 1 [[.func 29 [] [.ptr 12 0 0, .ptr 18 0 0]]]), (27, .map (entsA IV.i64 IV.i64 s2.2)), (37, .rows 16 [rowA (ClauseT.row e2)])], 41⟩ := by
  exact reg_fast [.n (e2.start.length : Int)] (AllP.cons (len_side CondT.row e2.start) .nil) h (by kernel_rfl)

theorem r13a_21_23 {C : Ctx} {nt : Nat} (HH : HasA C) (p1 : Int) (p2 : List Int) (p3 : List ActT) (p4 : List ClauseT) (p5 : Int) (r2 : Bool) (i2 : Nat) (s2 : (List Int) × (List (Int × Int))) (e2 : ClauseT) (i3 : Nat) (s3 : (List Int))  (P : Exit → St → Prop) (h : P .normal ⟨[(1, .ptr 1 0 0), (7, .ptr 18 0 0), (8, .func 30 [] [.ptr 18 0 0, .ptr 12 0 0]), (9, vB r2), (10, .map 27), (43, .mslice 0 0 p4.length), (44, vI (p4.length : Int)), (45, vI (i2 : Int)), (12, .ptr 37 0 0), (11, vI (i2 : Int)), (55, .imm (.slice (List.map CondT.row e2.start))), (56, vI (e2.start.length : Int)), (57, vI (i3 : Int)), (58, vB (decide ((i3 : Int) < (e2.start.length : Int))))], [(0, .rows 16 (rowsA ClauseT.row p4)), (1, .rows 7 [[vI p1, .imm (.slice (List.map rowI p2)), .nil, .imm (.slice (List.map ActT.row p3)), .mslice 0 0 p4.length, vI p5, .nil]]), (12, .rows 1 (rowsA rowI s3)), (18, .rows 1 [[.func 29 [] [.ptr 12 0 0, .ptr 18 0 0]]]), (27, .map (entsA IV.i64 IV.i64 s2.2)), (37, .rows 16 [rowA (ClauseT.row e2)])], 46⟩) : awp C nt (.region false [] ri13_21 (some [1, 7, 8, 9, 10, 11, 12, 43, 44, 45, 55, 56, 57, 58])) P ⟨[(1, .ptr 1 0 0), (7, .ptr 18 0 0), (8, .func 30 [] [.ptr 18 0 0, .ptr 12 0 0]), (9, vB r2), (10, .map 27), (43, .mslice 0 0 p4.length), (44, vI (p4.length : Int)), (45, vI (i2 : Int)), (12, .ptr 37 0 0), (11, vI (i2 : Int)), (55, .imm (.slice (List.map CondT.row e2.start))), (56, vI (e2.start.length : Int)), (57, vI (i3 : Int))], [(0, .rows 16 (rowsA ClauseT.row p4)), (1, .rows 7 [[vI p1, .imm (.slice (List.map rowI p2)), .nil, .imm (.slice (List.map ActT.row p3)), .mslice 0 0 p4.length, vI p5, .nil]]), (12, .rows 1 (rowsA rowI s3)), (18, .rows 1 [[.func 29 [] [.ptr 12 0 0, .ptr 18 0 0]]]), (27, .map (entsA IV.i64 IV.i64 s2.2)), (37, .rows 16 [rowA (ClauseT.row e2)])], 45⟩ := by
  exact reg_fast [] AllP.nil h (by kernel_rfl)

theorem r13a_22_24 {C : Ctx} {nt : Nat} (HH : HasA C) (p1 : Int) (p2 : List Int) (p3 : List ActT) (p4 : List ClauseT) (p5 : Int) (r2 : Bool) (i2 : Nat) (s2 : (List Int) × (List (Int × Int))) (e2 : ClauseT) (i3 : Nat) (s3 : (List Int)) (e3 : CondT) (he3 : idxI e2.start (i3 : Int) = some e3) (P : Exit → St → Prop) (h : P .normal ⟨[(1, .ptr 1 0 0), (7, .ptr 18 0 0), (8, .func 30 [] [.ptr 18 0 0, .ptr 12 0 0]), (9, vB r2), (10, .map 27), (43, .mslice 0 0 p4.length), (44, vI (p4.length : Int)), (45, vI (i2 : Int)), (12, .ptr 37 0 0), (11, vI (i2 : Int)), (55, .imm (.slice (List.map CondT.row e2.start))), (56, vI (e2.start.length : Int)), (57, vI (i3 : Int)), (14, .ptr 48 0 0)], [(0, .rows 16 (rowsA ClauseT.row p4)), (1, .rows 7 [[vI p1, .imm (.slice (List.map rowI p2)), .nil, .imm (.slice (List.map ActT.row p3)), .mslice 0 0 p4.length, vI p5, .nil]]), (12, .rows 1 (rowsA rowI s3)), (18, .rows 1 [[.func 29 [] [.ptr 12 0 0, .ptr 18 0 0]]]), (27, .map (entsA IV.i64 IV.i64 s2.2)), (37, .rows 16 [rowA (ClauseT.row e2)]), (48, .rows 2 [rowA (CondT.row e3)])], 50⟩) : awp C nt (.region false [] ri13_22 (some [1, 7, 8, 9, 10, 11, 12, 14, 43, 44, 45, 55, 56, 57])) P ⟨[(1, .ptr 1 0 0), (7, .ptr 18 0 0), (8, .func 30 [] [.ptr 18 0 0, .ptr 12 0 0]), (9, vB r2), (10, .map 27), (43, .mslice 0 0 p4.length), (44, vI (p4.length : Int)), (45, vI (i2 : Int)), (12, .ptr 37 0 0), (11, vI (i2 : Int)), (55, .imm (.slice (List.map CondT.row e2.start))), (56, vI (e2.start.length : Int)), (57, vI (i3 : Int)), (58, vB (decide ((i3 : Int) < (e2.start.length : Int))))], [(0, .rows 16 (rowsA ClauseT.row p4)), (1, .rows 7 [[vI p1, .imm (.slice (List.map rowI p2)), .nil, .imm (.slice (List.map ActT.row p3)), .mslice 0 0 p4.length, vI p5, .nil]]), (12, .rows 1 (rowsA rowI s3)), (18, .rows 1 [[.func 29 [] [.ptr 12 0 0, .ptr 18 0 0]]]), (27, .map (entsA IV.i64 IV.i64 s2.2)), (37, .rows 16 [rowA (ClauseT.row e2)])], 46⟩ := by
  exact reg_fast [.r (CondT.row e3)] (AllP.cons (idx_side CondT.row he3) .nil) h (by kernel_rfl)

theorem r13a_23_25 {C : Ctx} {nt : Nat} (HH : HasA C) (p1 : Int) (p2 : List Int) (p3 : List ActT) (p4 : List ClauseT) (p5 : Int) (r2 : Bool) (i2 : Nat) (s2 : (List Int) × (List (Int × Int))) (e2 : ClauseT) (i3 : Nat) (s3 : (List Int)) (e3 : CondT) (r4 : (List Int)) (hr4 : d_30a (i2 : Int) e3.clause s3 = some r4) (P : Exit → St → Prop) (h : P .normal ⟨[(1, .ptr 1 0 0), (7, .ptr 18 0 0), (8, .func 30 [] [.ptr 18 0 0, .ptr 12 0 0]), (9, vB r2), (10, .map 27), (43, .mslice 0 0 p4.length), (44, vI (p4.length : Int)), (45, vI (i2 : Int)), (12, .ptr 37 0 0), (11, vI (i2 : Int)), (55, .imm (.slice (List.map CondT.row e2.start))), (56, vI (e2.start.length : Int)), (57, vI (i3 : Int))], [(0, .rows 16 (rowsA ClauseT.row p4)), (1, .rows 7 [[vI p1, .imm (.slice (List.map rowI p2)), .nil, .imm (.slice (List.map ActT.row p3)), .mslice 0 0 p4.length, vI p5, .nil]]), (12, .rows 1 (rowsA rowI r4)), (18, .rows 1 [[.func 29 [] [.ptr 12 0 0, .ptr 18 0 0]]]), (27, .map (entsA IV.i64 IV.i64 s2.2)), (37, .rows 16 [rowA (ClauseT.row e2)]), (48, .rows 2 [rowA (CondT.row e3)])], 55⟩) : awp C nt (.region false [] ri13_23 (some [1, 7, 8, 9, 10, 11, 12, 43, 44, 45, 55, 56, 57])) P ⟨[(1, .ptr 1 0 0), (7, .ptr 18 0 0), (8, .func 30 [] [.ptr 18 0 0, .ptr 12 0 0]), (9, vB r2), (10, .map 27), (43, .mslice 0 0 p4.length), (44, vI (p4.length : Int)), (45, vI (i2 : Int)), (12, .ptr 37 0 0), (11, vI (i2 : Int)), (55, .imm (.slice (List.map CondT.row e2.start))), (56, vI (e2.start.length : Int)), (57, vI (i3 : Int)), (14, .ptr 48 0 0)], [(0, .rows 16 (rowsA ClauseT.row p4)), (1, .rows 7 [[vI p1, .imm (.slice (List.map rowI p2)), .nil, .imm (.slice (List.map ActT.row p3)), .mslice 0 0 p4.length, vI p5, .nil]]), (12, .rows 1 (rowsA rowI s3)), (18, .rows 1 [[.func 29 [] [.ptr 12 0 0, .ptr 18 0 0]]]), (27, .map (entsA IV.i64 IV.i64 s2.2)), (37, .rows 16 [rowA (ClauseT.row e2)]), (48, .rows 2 [rowA (CondT.row e3)])], 50⟩ := by
  exact reg_fast [.c [18, 12] 2 (.tuple []) [(12, .rows 1 (rowsA rowI r4))] 0] (AllP.cons (call_side (t_30a HH (i2 : Int) e3.clause s3 r4 hr4) [18, 12] 54 (.drop rfl rfl (.keep .nil)) (rhR (rhI rhN)) (rhI rhN)) .nil) h (by kernel_rfl)

theorem r13a_24_26 {C : Ctx} {nt : Nat} (HH : HasA C) (p1 : Int) (p2 : List Int) (p3 : List ActT) (p4 : List ClauseT) (p5 : Int) (r2 : Bool) (i2 : Nat) (s2 : (List Int) × (List (Int × Int))) (e2 : ClauseT) (i3 : Nat) (e3 : CondT) (r4 : (List Int))  (P : Exit → St → Prop) (h : P .normal ⟨[(1, .ptr 1 0 0), (7, .ptr 18 0 0), (8, .func 30 [] [.ptr 18 0 0, .ptr 12 0 0]), (9, vB r2), (10, .map 27), (43, .mslice 0 0 p4.length), (44, vI (p4.length : Int)), (45, vI (i2 : Int)), (12, .ptr 37 0 0), (11, vI (i2 : Int)), (55, .imm (.slice (List.map CondT.row e2.start))), (56, vI (e2.start.length : Int)), (57, vI (IntKind.i64.wrap ((i3 : Int) + 1)))], [(0, .rows 16 (rowsA ClauseT.row p4)), (1, .rows 7 [[vI p1, .imm (.slice (List.map rowI p2)), .nil, .imm (.slice (List.map ActT.row p3)), .mslice 0 0 p4.length, vI p5, .nil]]), (12, .rows 1 (rowsA rowI r4)), (18, .rows 1 [[.func 29 [] [.ptr 12 0 0, .ptr 18 0 0]]]), (27, .map (entsA IV.i64 IV.i64 s2.2)), (37, .rows 16 [rowA (ClauseT.row e2)]), (48, .rows 2 [rowA (CondT.row e3)])], 57⟩) : awp C nt (.region false [] ri13_24 (some [1, 7, 8, 9, 10, 11, 12, 43, 44, 45, 55, 56, 57])) P ⟨[(1, .ptr 1 0 0), (7, .ptr 18 0 0), (8, .func 30 [] [.ptr 18 0 0, .ptr 12 0 0]), (9, vB r2), (10, .map 27), (43, .mslice 0 0 p4.length), (44, vI (p4.length : Int)), (45, vI (i2 : Int)), (12, .ptr 37 0 0), (11, vI (i2 : Int)), (55, .imm (.slice (List.map CondT.row e2.start))), (56, vI (e2.start.length : Int)), (57, vI (i3 : Int))], [(0, .rows 16 (rowsA ClauseT.row p4)), (1, .rows 7 [[vI p1, .imm (.slice (List.map rowI p2)), .nil, .imm (.slice (List.map ActT.row p3)), .mslice 0 0 p4.length, vI p5, .nil]]), (12, .rows 1 (rowsA rowI r4)), (18, .rows 1 [[.func 29 [] [.ptr 12 0 0, .ptr 18 0 0]]]), (27, .map (entsA IV.i64 IV.i64 s2.2)), (37, .rows 16 [rowA (ClauseT.row e2)]), (48, .rows 2 [rowA (CondT.row e3)])], 55⟩ := by
  exact reg_fast [] AllP.nil h (by kernel_rfl)

theorem r13a_21_27 {C : Ctx} {nt : Nat} (HH : HasA C) (p1 : Int) (p2 : List Int) (p3 : List ActT) (p4 : List ClauseT) (p5 : Int) (r2 : Bool) (i2 : Nat) (s2 : (List Int) × (List (Int × Int))) (e2 : ClauseT) (i3 : Nat) (s3 : (List Int))  (P : Exit → St → Prop) (h : P .normal ⟨[(1, .ptr 1 0 0), (7, .ptr 18 0 0), (8, .func 30 [] [.ptr 18 0 0, .ptr 12 0 0]), (9, vB r2), (10, .map 27), (43, .mslice 0 0 p4.length), (44, vI (p4.length : Int)), (45, vI (i2 : Int)), (12, .ptr 37 0 0), (11, vI (i2 : Int)), (55, .imm (.slice (List.map CondT.row e2.start))), (56, vI (e2.start.length : Int)), (57, vI (i3 : Int)), (58, vB (decide ((i3 : Int) < (e2.start.length : Int))))], [(0, .rows 16 (rowsA ClauseT.row p4)), (1, .rows 7 [[vI p1, .imm (.slice (List.map rowI p2)), .nil, .imm (.slice (List.map ActT.row p3)), .mslice 0 0 p4.length, vI p5, .nil]]), (12, .rows 1 (rowsA rowI s3)), (18, .rows 1 [[.func 29 [] [.ptr 12 0 0, .ptr 18 0 0]]]), (27, .map (entsA IV.i64 IV.i64 s2.2)), (37, .rows 16 [rowA (ClauseT.row e2)])], 46⟩) : awp C nt (.region false [] ri13_21 (some [1, 7, 8, 9, 10, 11, 12, 43, 44, 45, 55, 56, 57, 58])) P ⟨[(1, .ptr 1 0 0), (7, .ptr 18 0 0), (8, .func 30 [] [.ptr 18 0 0, .ptr 12 0 0]), (9, vB r2), (10, .map 27), (43, .mslice 0 0 p4.length), (44, vI (p4.length : Int)), (45, vI (i2 : Int)), (12, .ptr 37 0 0), (11, vI (i2 : Int)), (55, .imm (.slice (List.map CondT.row e2.start))), (56, vI (e2.start.length : Int)), (57, vI (i3 : Int))], [(0, .rows 16 (rowsA ClauseT.row p4)), (1, .rows 7 [[vI p1, .imm (.slice (List.map rowI p2)), .nil, .imm (.slice (List.map ActT.row p3)), .mslice 0 0 p4.length, vI p5, .nil]]), (12, .rows 1 (rowsA rowI s3)), (18, .rows 1 [[.func 29 [] [.ptr 12 0 0, .ptr 18 0 0]]]), (27, .map (entsA IV.i64 IV.i64 s2.2)), (37, .rows 16 [rowA (ClauseT.row e2)])], 45⟩ := by
  exact reg_fast [] AllP.nil h (by kernel_rfl)

theorem r13a_25_28 {C : Ctx} {nt : Nat} (HH : HasA C) (p1 : Int) (p2 : List Int) (p3 : List ActT) (p4 : List ClauseT) (p5 : Int) (r2 : Bool) (i2 : Nat) (s2 : (List Int) × (List (Int × Int))) (e2 : ClauseT) (i3 : Nat) (s3 : (List Int)) (r5 : List Int) (hr5 : d_numbers e2 = some r5) (P : Exit → St → Prop) (h : P .normal ⟨[(1, .ptr 1 0 0), (7, .ptr 18 0 0), (8, .func 30 [] [.ptr 18 0 0, .ptr 12 0 0]), (9, vB r2), (10, .map 27), (43, .mslice 0 0 p4.length), (44, vI (p4.length : Int)), (45, vI (i2 : Int)), (11, vI (i2 : Int)), (68, .imm (.slice (List.map rowI r5))), (69, vI (r5.length : Int)), (70, vI 0)], [(0, .rows 16 (rowsA ClauseT.row p4)), (1, .rows 7 [[vI p1, .imm (.slice (List.map rowI p2)), .nil, .imm (.slice (List.map ActT.row p3)), .mslice 0 0 p4.length, vI p5, .nil]]), (12, .rows 1 (rowsA rowI s3)), (18, .rows 1 [[.func 29 [] [.ptr 12 0 0, .ptr 18 0 0]]]), (27, .map (entsA IV.i64 IV.i64 s2.2)), (37, .rows 16 [rowA (ClauseT.row e2)])], 50⟩) : awp C nt (.region false [] ri13_25 (some [1, 7, 8, 9, 10, 11, 43, 44, 45, 68, 69, 70])) P ⟨[(1, .ptr 1 0 0), (7, .ptr 18 0 0), (8, .func 30 [] [.ptr 18 0 0, .ptr 12 0 0]), (9, vB r2), (10, .map 27), (43, .mslice 0 0 p4.length), (44, vI (p4.length : Int)), (45, vI (i2 : Int)), (12, .ptr 37 0 0), (11, vI (i2 : Int)), (55, .imm (.slice (List.map CondT.row e2.start))), (56, vI (e2.start.length : Int)), (57, vI (i3 : Int)), (58, vB (decide ((i3 : Int) < (e2.start.length : Int))))], [(0, .rows 16 (rowsA ClauseT.row p4)), (1, .rows 7 [[vI p1, .imm (.slice (List.map rowI p2)), .nil, .imm (.slice (List.map ActT.row p3)), .mslice 0 0 p4.length, vI p5, .nil]]), (12, .rows 1 (rowsA rowI s3)), (18, .rows 1 [[.func 29 [] [.ptr 12 0 0, .ptr 18 0 0]]]), (27, .map (entsA IV.i64 IV.i64 s2.2)), (37, .rows 16 [rowA (ClauseT.row e2)])], 46⟩ := by
  exact reg_fast [.v (.slice (List.map rowI r5)), .n (r5.length : Int)] (AllP.cons (t_numbers HH e2 r5 hr5) (.cons (len_side rowI r5) .nil)) h (by kernel_rfl)

theorem r13a_26_29 {C : Ctx} {nt : Nat} (HH : HasA C) (p1 : Int) (p2 : List Int) (p3 : List ActT) (p4 : List ClauseT) (p5 : Int) (r2 : Bool) (i2 : Nat) (r5 : List Int) (i4 : Nat) (s4 : (List Int) × (List (Int × Int)))  (P : Exit → St → Prop) (h : P .normal ⟨[(1, .ptr 1 0 0), (7, .ptr 18 0 0), (8, .func 30 [] [.ptr 18 0 0, .ptr 12 0 0]), (9, vB r2), (10, .map 27), (43, .mslice 0 0 p4.length), (44, vI (p4.length : Int)), (45, vI (i2 : Int)), (11, vI (i2 : Int)), (68, .imm (.slice (List.map rowI r5))), (69, vI (r5.length : Int)), (70, vI (i4 : Int)), (71, vB (decide ((i4 : Int) < (r5.length : Int))))], [(0, .rows 16 (rowsA ClauseT.row p4)), (1, .rows 7 [[vI p1, .imm (.slice (List.map rowI p2)), .nil, .imm (.slice (List.map ActT.row p3)), .mslice 0 0 p4.length, vI p5, .nil]]), (12, .rows 1 (rowsA rowI s4.1)), (18, .rows 1 [[.func 29 [] [.ptr 12 0 0, .ptr 18 0 0]]]), (27, .map (entsA IV.i64 IV.i64 s4.2))], 51⟩) : awp C nt (.region false [] ri13_26 (some [1, 7, 8, 9, 10, 11, 43, 44, 45, 68, 69, 70, 71])) P ⟨[(1, .ptr 1 0 0), (7, .ptr 18 0 0), (8, .func 30 [] [.ptr 18 0 0, .ptr 12 0 0]), (9, vB r2), (10, .map 27), (43, .mslice 0 0 p4.length), (44, vI (p4.length : Int)), (45, vI (i2 : Int)), (11, vI (i2 : Int)), (68, .imm (.slice (List.map rowI r5))), (69, vI (r5.length : Int)), (70, vI (i4 : Int))], [(0, .rows 16 (rowsA ClauseT.row p4)), (1, .rows 7 [[vI p1, .imm (.slice (List.map rowI p2)), .nil, .imm (.slice (List.map ActT.row p3)), .mslice 0 0 p4.length, vI p5, .nil]]), (12, .rows 1 (rowsA rowI s4.1)), (18, .rows 1 [[.func 29 [] [.ptr 12 0 0, .ptr 18 0 0]]]), (27, .map (entsA IV.i64 IV.i64 s4.2))], 50⟩ := by
  exact reg_fast [] AllP.nil h (by kernel_rfl)

theorem r13a_27_30 {C : Ctx} {nt : Nat} (HH : HasA C) (p1 : Int) (p2 : List Int) (p3 : List ActT) (p4 : List ClauseT) (p5 : Int) (r2 : Bool) (i2 : Nat) (r5 : List Int) (i4 : Nat) (s4 : (List Int) × (List (Int × Int))) (e4 : Int) (he4 : idxI r5 (i4 : Int) = some e4) (P : Exit → St → Prop) (h : P .normal ⟨[(1, .ptr 1 0 0), (7, .ptr 18 0 0), (8, .func 30 [] [.ptr 18 0 0, .ptr 12 0 0]), (9, vB r2), (10, .map 27), (43, .mslice 0 0 p4.length), (44, vI (p4.length : Int)), (45, vI (i2 : Int)), (11, vI (i2 : Int)), (68, .imm (.slice (List.map rowI r5))), (69, vI (r5.length : Int)), (70, vI (i4 : Int)), (16, vI e4)], [(0, .rows 16 (rowsA ClauseT.row p4)), (1, .rows 7 [[vI p1, .imm (.slice (List.map rowI p2)), .nil, .imm (.slice (List.map ActT.row p3)), .mslice 0 0 p4.length, vI p5, .nil]]), (12, .rows 1 (rowsA rowI s4.1)), (18, .rows 1 [[.func 29 [] [.ptr 12 0 0, .ptr 18 0 0]]]), (27, .map (entsA IV.i64 IV.i64 s4.2))], 54⟩) : awp C nt (.region false [] ri13_27 (some [1, 7, 8, 9, 10, 11, 16, 43, 44, 45, 68, 69, 70])) P ⟨[(1, .ptr 1 0 0), (7, .ptr 18 0 0), (8, .func 30 [] [.ptr 18 0 0, .ptr 12 0 0]), (9, vB r2), (10, .map 27), (43, .mslice 0 0 p4.length), (44, vI (p4.length : Int)), (45, vI (i2 : Int)), (11, vI (i2 : Int)), (68, .imm (.slice (List.map rowI r5))), (69, vI (r5.length : Int)), (70, vI (i4 : Int)), (71, vB (decide ((i4 : Int) < (r5.length : Int))))], [(0, .rows 16 (rowsA ClauseT.row p4)), (1, .rows 7 [[vI p1, .imm (.slice (List.map rowI p2)), .nil, .imm (.slice (List.map ActT.row p3)), .mslice 0 0 p4.length, vI p5, .nil]]), (12, .rows 1 (rowsA rowI s4.1)), (18, .rows 1 [[.func 29 [] [.ptr 12 0 0, .ptr 18 0 0]]]), (27, .map (entsA IV.i64 IV.i64 s4.2))], 51⟩ := by
  exact reg_fast [.r (rowI e4)] (AllP.cons (idx_side rowI he4) .nil) h (by kernel_rfl)

theorem r13a_28_31 {C : Ctx} {nt : Nat} (HH : HasA C) (p1 : Int) (p2 : List Int) (p3 : List ActT) (p4 : List ClauseT) (p5 : Int) (r2 : Bool) (i2 : Nat) (r5 : List Int) (i4 : Nat) (s4 : (List Int) × (List (Int × Int))) (e4 : Int)  (P : Exit → St → Prop) (h : P .normal ⟨[(1, .ptr 1 0 0), (7, .ptr 18 0 0), (8, .func 30 [] [.ptr 18 0 0, .ptr 12 0 0]), (9, vB r2), (10, .map 27), (43, .mslice 0 0 p4.length), (44, vI (p4.length : Int)), (45, vI (i2 : Int)), (11, vI (i2 : Int)), (68, .imm (.slice (List.map rowI r5))), (69, vI (r5.length : Int)), (70, vI (i4 : Int)), (16, vI e4), (17, vI ((mget e4 s4.2).getD 0)), (18, vB ((mget e4 s4.2).isSome))], [(0, .rows 16 (rowsA ClauseT.row p4)), (1, .rows 7 [[vI p1, .imm (.slice (List.map rowI p2)), .nil, .imm (.slice (List.map ActT.row p3)), .mslice 0 0 p4.length, vI p5, .nil]]), (12, .rows 1 (rowsA rowI s4.1)), (18, .rows 1 [[.func 29 [] [.ptr 12 0 0, .ptr 18 0 0]]]), (27, .map (entsA IV.i64 IV.i64 s4.2))], 62⟩) : awp C nt (.region false [] ri13_28 (some [1, 7, 8, 9, 10, 11, 16, 17, 18, 43, 44, 45, 68, 69, 70])) P ⟨[(1, .ptr 1 0 0), (7, .ptr 18 0 0), (8, .func 30 [] [.ptr 18 0 0, .ptr 12 0 0]), (9, vB r2), (10, .map 27), (43, .mslice 0 0 p4.length), (44, vI (p4.length : Int)), (45, vI (i2 : Int)), (11, vI (i2 : Int)), (68, .imm (.slice (List.map rowI r5))), (69, vI (r5.length : Int)), (70, vI (i4 : Int)), (16, vI e4)], [(0, .rows 16 (rowsA ClauseT.row p4)), (1, .rows 7 [[vI p1, .imm (.slice (List.map rowI p2)), .nil, .imm (.slice (List.map ActT.row p3)), .mslice 0 0 p4.length, vI p5, .nil]]), (12, .rows 1 (rowsA rowI s4.1)), (18, .rows 1 [[.func 29 [] [.ptr 12 0 0, .ptr 18 0 0]]]), (27, .map (entsA IV.i64 IV.i64 s4.2))], 54⟩ := by
  exact reg_fast [.l (vI ((mget e4 s4.2).getD 0)) ((mget e4 s4.2).isSome)] (AllP.cons (look_side IV.i64 0 e4 s4.2) .nil) h (by kernel_rfl)

theorem r13a_29_32 {C : Ctx} {nt : Nat} (HH : HasA C) (p1 : Int) (p2 : List Int) (p3 : List ActT) (p4 : List ClauseT) (p5 : Int) (r2 : Bool) (i2 : Nat) (r5 : List Int) (i4 : Nat) (s4 : (List Int) × (List (Int × Int))) (e4 : Int)  (P : Exit → St → Prop) (h : P .normal ⟨[(1, .ptr 1 0 0), (7, .ptr 18 0 0), (8, .func 30 [] [.ptr 18 0 0, .ptr 12 0 0]), (9, vB r2), (10, .map 27), (43, .mslice 0 0 p4.length), (44, vI (p4.length : Int)), (45, vI (i2 : Int)), (11, vI (i2 : Int)), (68, .imm (.slice (List.map rowI r5))), (69, vI (r5.length : Int)), (70, vI (i4 : Int)), (16, vI e4), (17, vI ((mget e4 s4.2).getD 0)), (80, vB ((mget e4 s4.2).isSome))], [(0, .rows 16 (rowsA ClauseT.row p4)), (1, .rows 7 [[vI p1, .imm (.slice (List.map rowI p2)), .nil, .imm (.slice (List.map ActT.row p3)), .mslice 0 0 p4.length, vI p5, .nil]]), (12, .rows 1 (rowsA rowI s4.1)), (18, .rows 1 [[.func 29 [] [.ptr 12 0 0, .ptr 18 0 0]]]), (27, .map (entsA IV.i64 IV.i64 s4.2))], 63⟩) : awp C nt (.region false [] ri13_29 (some [1, 7, 8, 9, 10, 11, 16, 17, 43, 44, 45, 68, 69, 70, 80])) P ⟨[(1, .ptr 1 0 0), (7, .ptr 18 0 0), (8, .func 30 [] [.ptr 18 0 0, .ptr 12 0 0]), (9, vB r2), (10, .map 27), (43, .mslice 0 0 p4.length), (44, vI (p4.length : Int)), (45, vI (i2 : Int)), (11, vI (i2 : Int)), (68, .imm (.slice (List.map rowI r5))), (69, vI (r5.length : Int)), (70, vI (i4 : Int)), (16, vI e4), (17, vI ((mget e4 s4.2).getD 0)), (18, vB ((mget e4 s4.2).isSome))], [(0, .rows 16 (rowsA ClauseT.row p4)), (1, .rows 7 [[vI p1, .imm (.slice (List.map rowI p2)), .nil, .imm (.slice (List.map ActT.row p3)), .mslice 0 0 p4.length, vI p5, .nil]]), (12, .rows 1 (rowsA rowI s4.1)), (18, .rows 1 [[.func 29 [] [.ptr 12 0 0, .ptr 18 0 0]]]), (27, .map (entsA IV.i64 IV.i64 s4.2))], 62⟩ := by
  exact reg_fast [] AllP.nil h (by kernel_rfl)

theorem r13a_30_33 {C : Ctx} {nt : Nat} (HH : HasA C) (p1 : Int) (p2 : List Int) (p3 : List ActT) (p4 : List ClauseT) (p5 : Int) (r2 : Bool) (i2 : Nat) (r5 : List Int) (i4 : Nat) (s4 : (List Int) × (List (Int × Int))) (e4 : Int) (r6 : (List Int)) (hr6 : d_30a ((mget e4 s4.2).getD 0) (i2 : Int) s4.1 = some r6) (P : Exit → St → Prop) (h : P .normal ⟨[(1, .ptr 1 0 0), (7, .ptr 18 0 0), (8, .func 30 [] [.ptr 18 0 0, .ptr 12 0 0]), (9, vB r2), (10, .map 27), (43, .mslice 0 0 p4.length), (44, vI (p4.length : Int)), (45, vI (i2 : Int)), (11, vI (i2 : Int)), (68, .imm (.slice (List.map rowI r5))), (69, vI (r5.length : Int)), (70, vI (i4 : Int))], [(0, .rows 16 (rowsA ClauseT.row p4)), (1, .rows 7 [[vI p1, .imm (.slice (List.map rowI p2)), .nil, .imm (.slice (List.map ActT.row p3)), .mslice 0 0 p4.length, vI p5, .nil]]), (12, .rows 1 (rowsA rowI r6)), (18, .rows 1 [[.func 29 [] [.ptr 12 0 0, .ptr 18 0 0]]]), (27, .map (entsA IV.i64 IV.i64 s4.2))], 67⟩) : awp C nt (.region false [] ri13_30 (some [1, 7, 8, 9, 10, 11, 43, 44, 45, 68, 69, 70])) P ⟨[(1, .ptr 1 0 0), (7, .ptr 18 0 0), (8, .func 30 [] [.ptr 18 0 0, .ptr 12 0 0]), (9, vB r2), (10, .map 27), (43, .mslice 0 0 p4.length), (44, vI (p4.length : Int)), (45, vI (i2 : Int)), (11, vI (i2 : Int)), (68, .imm (.slice (List.map rowI r5))), (69, vI (r5.length : Int)), (70, vI (i4 : Int)), (16, vI e4), (17, vI ((mget e4 s4.2).getD 0)), (80, vB ((mget e4 s4.2).isSome))], [(0, .rows 16 (rowsA ClauseT.row p4)), (1, .rows 7 [[vI p1, .imm (.slice (List.map rowI p2)), .nil, .imm (.slice (List.map ActT.row p3)), .mslice 0 0 p4.length, vI p5, .nil]]), (12, .rows 1 (rowsA rowI s4.1)), (18, .rows 1 [[.func 29 [] [.ptr 12 0 0, .ptr 18 0 0]]]), (27, .map (entsA IV.i64 IV.i64 s4.2))], 63⟩ := by
  exact reg_fast [.c [18, 12] 2 (.tuple []) [(12, .rows 1 (rowsA rowI r6))] 0] (AllP.cons (call_side (t_30a HH ((mget e4 s4.2).getD 0) (i2 : Int) s4.1 r6 hr6) [18, 12] 66 (.drop rfl rfl (.keep .nil)) (rhR (rhI rhN)) (rhI rhN)) .nil) h (by kernel_rfl)

theorem r13a_31_34 {C : Ctx} {nt : Nat} (HH : HasA C) (p1 : Int) (p2 : List Int) (p3 : List ActT) (p4 : List ClauseT) (p5 : Int) (r2 : Bool) (i2 : Nat) (r5 : List Int) (i4 : Nat) (s4 : (List Int) × (List (Int × Int))) (e4 : Int)  (P : Exit → St → Prop) (h : P .normal ⟨[(1, .ptr 1 0 0), (7, .ptr 18 0 0), (8, .func 30 [] [.ptr 18 0 0, .ptr 12 0 0]), (9, vB r2), (10, .map 27), (43, .mslice 0 0 p4.length), (44, vI (p4.length : Int)), (45, vI (i2 : Int)), (11, vI (i2 : Int)), (68, .imm (.slice (List.map rowI r5))), (69, vI (r5.length : Int)), (70, vI (i4 : Int))], [(0, .rows 16 (rowsA ClauseT.row p4)), (1, .rows 7 [[vI p1, .imm (.slice (List.map rowI p2)), .nil, .imm (.slice (List.map ActT.row p3)), .mslice 0 0 p4.length, vI p5, .nil]]), (12, .rows 1 (rowsA rowI s4.1)), (18, .rows 1 [[.func 29 [] [.ptr 12 0 0, .ptr 18 0 0]]]), (27, .map (entsA IV.i64 IV.i64 (mset e4 (i2 : Int) s4.2)))], 67⟩) : awp C nt (.region false [] ri13_31 (some [1, 7, 8, 9, 10, 11, 43, 44, 45, 68, 69, 70])) P ⟨[(1, .ptr 1 0 0), (7, .ptr 18 0 0), (8, .func 30 [] [.ptr 18 0 0, .ptr 12 0 0]), (9, vB r2), (10, .map 27), (43, .mslice 0 0 p4.length), (44, vI (p4.length : Int)), (45, vI (i2 : Int)), (11, vI (i2 : Int)), (68, .imm (.slice (List.map rowI r5))), (69, vI (r5.length : Int)), (70, vI (i4 : Int)), (16, vI e4), (17, vI ((mget e4 s4.2).getD 0)), (80, vB ((mget e4 s4.2).isSome))], [(0, .rows 16 (rowsA ClauseT.row p4)), (1, .rows 7 [[vI p1, .imm (.slice (List.map rowI p2)), .nil, .imm (.slice (List.map ActT.row p3)), .mslice 0 0 p4.length, vI p5, .nil]]), (12, .rows 1 (rowsA rowI s4.1)), (18, .rows 1 [[.func 29 [] [.ptr 12 0 0, .ptr 18 0 0]]]), (27, .map (entsA IV.i64 IV.i64 s4.2))], 63⟩ := by
  exact reg_fast [.u (entsA IV.i64 IV.i64 (mset e4 (i2 : Int) s4.2))] (AllP.cons (upd_side IV.i64 e4 (i2 : Int) s4.2) .nil) h (by kernel_rfl)

theorem r13a_32_35 {C : Ctx} {nt : Nat} (HH : HasA C) (p1 : Int) (p2 : List Int) (p3 : List ActT) (p4 : List ClauseT) (p5 : Int) (r2 : Bool) (i2 : Nat) (r5 : List Int) (i4 : Nat) (v2 : (List Int) × (List (Int × Int)))  (P : Exit → St → Prop) (h : P .normal ⟨[(1, .ptr 1 0 0), (7, .ptr 18 0 0), (8, .func 30 [] [.ptr 18 0 0, .ptr 12 0 0]), (9, vB r2), (10, .map 27), (43, .mslice 0 0 p4.length), (44, vI (p4.length : Int)), (45, vI (i2 : Int)), (11, vI (i2 : Int)), (68, .imm (.slice (List.map rowI r5))), (69, vI (r5.length : Int)), (70, vI (IntKind.i64.wrap ((i4 : Int) + 1)))], [(0, .rows 16 (rowsA ClauseT.row p4)), (1, .rows 7 [[vI p1, .imm (.slice (List.map rowI p2)), .nil, .imm (.slice (List.map ActT.row p3)), .mslice 0 0 p4.length, vI p5, .nil]]), (12, .rows 1 (rowsA rowI v2.1)), (18, .rows 1 [[.func 29 [] [.ptr 12 0 0, .ptr 18 0 0]]]), (27, .map (entsA IV.i64 IV.i64 v2.2))], 69⟩) : awp C nt (.region false [] ri13_32 (some [1, 7, 8, 9, 10, 11, 43, 44, 45, 68, 69, 70])) P ⟨[(1, .ptr 1 0 0), (7, .ptr 18 0 0), (8, .func 30 [] [.ptr 18 0 0, .ptr 12 0 0]), (9, vB r2), (10, .map 27), (43, .mslice 0 0 p4.length), (44, vI (p4.length : Int)), (45, vI (i2 : Int)), (11, vI (i2 : Int)), (68, .imm (.slice (List.map rowI r5))), (69, vI (r5.length : Int)), (70, vI (i4 : Int))], [(0, .rows 16 (rowsA ClauseT.row p4)), (1, .rows 7 [[vI p1, .imm (.slice (List.map rowI p2)), .nil, .imm (.slice (List.map ActT.row p3)), .mslice 0 0 p4.length, vI p5, .nil]]), (12, .rows 1 (rowsA rowI v2.1)), (18, .rows 1 [[.func 29 [] [.ptr 12 0 0, .ptr 18 0 0]]]), (27, .map (entsA IV.i64 IV.i64 v2.2))], 67⟩ := by
  exact reg_fast [] AllP.nil h (by kernel_rfl)

theorem r13a_26_36 {C : Ctx} {nt : Nat} (HH : HasA C) (p1 : Int) (p2 : List Int) (p3 : List ActT) (p4 : List ClauseT) (p5 : Int) (r2 : Bool) (i2 : Nat) (r5 : List Int) (i4 : Nat) (s4 : (List Int) × (List (Int × Int)))  (P : Exit → St → Prop) (h : P .normal ⟨[(1, .ptr 1 0 0), (7, .ptr 18 0 0), (8, .func 30 [] [.ptr 18 0 0, .ptr 12 0 0]), (9, vB r2), (10, .map 27), (43, .mslice 0 0 p4.length), (44, vI (p4.length : Int)), (45, vI (i2 : Int)), (11, vI (i2 : Int)), (68, .imm (.slice (List.map rowI r5))), (69, vI (r5.length : Int)), (70, vI (i4 : Int)), (71, vB (decide ((i4 : Int) < (r5.length : Int))))], [(0, .rows 16 (rowsA ClauseT.row p4)), (1, .rows 7 [[vI p1, .imm (.slice (List.map rowI p2)), .nil, .imm (.slice (List.map ActT.row p3)), .mslice 0 0 p4.length, vI p5, .nil]]), (12, .rows 1 (rowsA rowI s4.1)), (18, .rows 1 [[.func 29 [] [.ptr 12 0 0, .ptr 18 0 0]]]), (27, .map (entsA IV.i64 IV.i64 s4.2))], 51⟩) : awp C nt (.region false [] ri13_26 (some [1, 7, 8, 9, 10, 11, 43, 44, 45, 68, 69, 70, 71])) P ⟨[(1, .ptr 1 0 0), (7, .ptr 18 0 0), (8, .func 30 [] [.ptr 18 0 0, .ptr 12 0 0]), (9, vB r2), (10, .map 27), (43, .mslice 0 0 p4.length), (44, vI (p4.length : Int)), (45, vI (i2 : Int)), (11, vI (i2 : Int)), (68, .imm (.slice (List.map rowI r5))), (69, vI (r5.length : Int)), (70, vI (i4 : Int))], [(0, .rows 16 (rowsA ClauseT.row p4)), (1, .rows 7 [[vI p1, .imm (.slice (List.map rowI p2)), .nil, .imm (.slice (List.map ActT.row p3)), .mslice 0 0 p4.length, vI p5, .nil]]), (12, .rows 1 (rowsA rowI s4.1)), (18, .rows 1 [[.func 29 [] [.ptr 12 0 0, .ptr 18 0 0]]]), (27, .map (entsA IV.i64 IV.i64 s4.2))], 50⟩ := by
  exact reg_fast [] AllP.nil h (by kernel_rfl)

theorem r13a_33_37 {C : Ctx} {nt : Nat} (HH : HasA C) (p1 : Int) (p2 : List Int) (p3 : List ActT) (p4 : List ClauseT) (p5 : Int) (r2 : Bool) (i2 : Nat) (r5 : List Int) (i4 : Nat) (s4 : (List Int) × (List (Int × Int)))  (P : Exit → St → Prop) (h : P .normal ⟨[(1, .ptr 1 0 0), (7, .ptr 18 0 0), (8, .func 30 [] [.ptr 18 0 0, .ptr 12 0 0]), (9, vB r2), (10, .map 27), (43, .mslice 0 0 p4.length), (44, vI (p4.length : Int)), (45, vI (IntKind.i64.wrap ((i2 : Int) + 1)))], [(0, .rows 16 (rowsA ClauseT.row p4)), (1, .rows 7 [[vI p1, .imm (.slice (List.map rowI p2)), .nil, .imm (.slice (List.map ActT.row p3)), .mslice 0 0 p4.length, vI p5, .nil]]), (12, .rows 1 (rowsA rowI s4.1)), (18, .rows 1 [[.func 29 [] [.ptr 12 0 0, .ptr 18 0 0]]]), (27, .map (entsA IV.i64 IV.i64 s4.2))], 53⟩) : awp C nt (.region false [] ri13_33 (some [1, 7, 8, 9, 10, 43, 44, 45])) P ⟨[(1, .ptr 1 0 0), (7, .ptr 18 0 0), (8, .func 30 [] [.ptr 18 0 0, .ptr 12 0 0]), (9, vB r2), (10, .map 27), (43, .mslice 0 0 p4.length), (44, vI (p4.length : Int)), (45, vI (i2 : Int)), (11, vI (i2 : Int)), (68, .imm (.slice (List.map rowI r5))), (69, vI (r5.length : Int)), (70, vI (i4 : Int)), (71, vB (decide ((i4 : Int) < (r5.length : Int))))], [(0, .rows 16 (rowsA ClauseT.row p4)), (1, .rows 7 [[vI p1, .imm (.slice (List.map rowI p2)), .nil, .imm (.slice (List.map ActT.row p3)), .mslice 0 0 p4.length, vI p5, .nil]]), (12, .rows 1 (rowsA rowI s4.1)), (18, .rows 1 [[.func 29 [] [.ptr 12 0 0, .ptr 18 0 0]]]), (27, .map (entsA IV.i64 IV.i64 s4.2))], 51⟩ := by
  exact reg_fast [] AllP.nil h (by kernel_rfl)

theorem r13a_16_38 {C : Ctx} {nt : Nat} (HH : HasA C) (p1 : Int) (p2 : List Int) (p3 : List ActT) (p4 : List ClauseT) (p5 : Int) (r2 : Bool) (i2 : Nat) (s2 : (List Int) × (List (Int × Int)))  (P : Exit → St → Prop) (h : P .normal ⟨[(1, .ptr 1 0 0), (7, .ptr 18 0 0), (8, .func 30 [] [.ptr 18 0 0, .ptr 12 0 0]), (9, vB r2), (10, .map 27), (43, .mslice 0 0 p4.length), (44, vI (p4.length : Int)), (45, vI (i2 : Int)), (46, vB (decide ((i2 : Int) < (p4.length : Int))))], [(0, .rows 16 (rowsA ClauseT.row p4)), (1, .rows 7 [[vI p1, .imm (.slice (List.map rowI p2)), .nil, .imm (.slice (List.map ActT.row p3)), .mslice 0 0 p4.length, vI p5, .nil]]), (12, .rows 1 (rowsA rowI s2.1)), (18, .rows 1 [[.func 29 [] [.ptr 12 0 0, .ptr 18 0 0]]]), (27, .map (entsA IV.i64 IV.i64 s2.2))], 34⟩) : awp C nt (.region false [] ri13_16 (some [1, 7, 8, 9, 10, 43, 44, 45, 46])) P ⟨[(1, .ptr 1 0 0), (7, .ptr 18 0 0), (8, .func 30 [] [.ptr 18 0 0, .ptr 12 0 0]), (9, vB r2), (10, .map 27), (43, .mslice 0 0 p4.length), (44, vI (p4.length : Int)), (45, vI (i2 : Int))], [(0, .rows 16 (rowsA ClauseT.row p4)), (1, .rows 7 [[vI p1, .imm (.slice (List.map rowI p2)), .nil, .imm (.slice (List.map ActT.row p3)), .mslice 0 0 p4.length, vI p5, .nil]]), (12, .rows 1 (rowsA rowI s2.1)), (18, .rows 1 [[.func 29 [] [.ptr 12 0 0, .ptr 18 0 0]]]), (27, .map (entsA IV.i64 IV.i64 s2.2))], 33⟩ := by
  exact reg_fast [] AllP.nil h (by kernel_rfl)

theorem r13a_34_39 {C : Ctx} {nt : Nat} (HH : HasA C) (p1 : Int) (p2 : List Int) (p3 : List ActT) (p4 : List ClauseT) (p5 : Int) (r2 : Bool) (i2 : Nat) (s2 : (List Int) × (List (Int × Int))) (r7 : (List (List Int)) × (List Int)) (hr7 : d_gather (p4.length : Int) s2.1 = some r7) (P : Exit → St → Prop) (h : P .normal ⟨[(2, .imm (.slice (List.map (rowL rowI) r7.1)))], [(0, .rows 16 (rowsA ClauseT.row p4)), (1, .rows 7 [[vI p1, .imm (.slice (List.map rowI p2)), .nil, .imm (.slice (List.map ActT.row p3)), .mslice 0 0 p4.length, vI p5, .nil]]), (12, .rows 1 (rowsA rowI r7.2)), (18, .rows 1 [[.func 29 [] [.ptr 12 0 0, .ptr 18 0 0]]]), (27, .map (entsA IV.i64 IV.i64 s2.2))], 40⟩) : awp C nt (.region false [] ri13_34 (some [2])) P ⟨[(1, .ptr 1 0 0), (7, .ptr 18 0 0), (8, .func 30 [] [.ptr 18 0 0, .ptr 12 0 0]), (9, vB r2), (10, .map 27), (43, .mslice 0 0 p4.length), (44, vI (p4.length : Int)), (45, vI (i2 : Int)), (46, vB (decide ((i2 : Int) < (p4.length : Int))))], [(0, .rows 16 (rowsA ClauseT.row p4)), (1, .rows 7 [[vI p1, .imm (.slice (List.map rowI p2)), .nil, .imm (.slice (List.map ActT.row p3)), .mslice 0 0 p4.length, vI p5, .nil]]), (12, .rows 1 (rowsA rowI s2.1)), (18, .rows 1 [[.func 29 [] [.ptr 12 0 0, .ptr 18 0 0]]]), (27, .map (entsA IV.i64 IV.i64 s2.2))], 34⟩ := by
  exact reg_fast [.c [12, 18] 2 (.imm (.slice (List.map (rowL rowI) r7.1))) [(12, .rows 1 (rowsA rowI r7.2))] 0] (AllP.cons (call_side (t_gather HH (p4.length : Int) s2.1 r7 hr7) [12, 18] 38 (.keep (.drop rfl rfl .nil)) (rhI (rhR rhN)) (rhI rhN)) .nil) h (by kernel_rfl)

noncomputable def d_13a (p1 : Int) (p2 : List Int) (p3 : List ActT) (p4 : List ClauseT) (p5 : Int) : Option (List (List Int)) :=
  (Option.bind (d_Valid ({ parties := p1, holders := p2, units := [], acts := p3, clauses := p4, days := p5, off := [] } : ContractT)) fun r1 => (bif (r1.1 == 0) then (Option.bind (forR (σ := (List Int)) (ρ := Unit) (p4.length : Int) (fun i1 s1 => (Option.bind (idxN 400 (i1 : Int)) fun k1 => (Option.bind (s1[k1]?) fun e1 => some (.inl (s1.set k1 (i1 : Int)))))) (List.replicate 400 0)) (Sum.elim (fun (s1 : (List Int)) => (Option.bind (d_31a p3) fun r2 => (Option.bind (forR (σ := (List Int) × (List (Int × Int))) (ρ := Unit) (p4.length : Int) (fun i2 s2 => (Option.bind (idxN p4.length (i2 : Int)) fun k2 => (Option.bind (p4[k2]?) fun e2 => (Option.bind (bif r2 then (Option.bind (d_30a 0 (i2 : Int) s2.1) fun r3 => some r3) else some s2.1) fun (v1 : (List Int)) => (Option.bind (forR (σ := (List Int)) (ρ := Unit) (e2.start.length : Int) (fun i3 s3 => (Option.bind (idxI e2.start (i3 : Int)) fun e3 => (Option.bind (d_30a (i2 : Int) e3.clause s3) fun r4 => some (.inl r4)))) v1) (Sum.elim (fun (s3 : (List Int)) => (Option.bind (d_numbers e2) fun r5 => (Option.bind (forR (σ := (List Int) × (List (Int × Int))) (ρ := Unit) (r5.length : Int) (fun i4 s4 => (Option.bind (Option.bind (idxI r5 (i4 : Int)) fun e4 => (bif (mget e4 s4.2).isSome then (Option.bind (d_30a ((mget e4 s4.2).getD 0) (i2 : Int) s4.1) fun r6 => some (r6, s4.2)) else some (s4.1, (mset e4 (i2 : Int) s4.2)))) fun (v2 : (List Int) × (List (Int × Int))) => some (.inl (v2.1, v2.2)))) (s3, s2.2)) (Sum.elim (fun (s4 : (List Int) × (List (Int × Int))) => some (.inl (s4.1, s4.2))) (fun _ => none))))) (fun _ => none))))))) (s1, [])) (Sum.elim (fun (s2 : (List Int) × (List (Int × Int))) => (Option.bind (d_gather (p4.length : Int) s2.1) fun r7 => some r7.1)) (fun _ => none))))) (fun _ => none))) else some []))
set_option maxHeartbeats 4000000 in
theorem t_13a {C : Ctx} (HH : HasA C) (p1 : Int) (p2 : List Int) (p3 : List ActT) (p4 : List ClauseT) (p5 : Int) (res : (List (List Int))) (hd : d_13a p1 p2 p3 p4 p5 = some res) : DOk C 13 [.agg [vI p1, .imm (.slice (List.map rowI p2)), .nil, .imm (.slice (List.map ActT.row p3)), .mslice 0 0 p4.length, vI p5, .nil]] [(0, .rows 16 (rowsA ClauseT.row p4))] 1 (.imm (.slice (List.map (rowL rowI) res))) [(0, .rows 16 (rowsA ClauseT.row p4))] 0 := by
  refine DOk.start HH.h13 (by simp [af13]) (.rows rfl .nil) (.rows rfl .nil) (by kernel_rfl) (by kernel_rfl) (by kernel_rfl) (by kernel_rfl) ?_
  unfold d_13a at hd
  show awp C _ af13.body (EndsD af13.results _ _ _) ⟨[(0, .agg [vI p1, .imm (.slice (List.map rowI p2)), .nil, .imm (.slice (List.map ActT.row p3)), .mslice 0 0 p4.length, vI p5, .nil])], [(0, .rows 16 (rowsA ClauseT.row p4))], 1⟩
  refine awp_seq ?_
  refine r13a_0_1 HH p1 p2 p3 p4 p5 _ ?_
  refine then_n ?_
  refine awp_seq ?_
  refine awp_seq ?_
  obtain ⟨r1, hr1, hd_1⟩ := obind hd; clear hd
  refine r13a_1_2 HH p1 p2 p3 p4 p5 r1 hr1 _ ?_
  clear hr1
  refine then_n ?_
  refine awp_seq ?_
  refine r13a_2_3 HH p1 p2 p3 p4 p5 r1 _ ?_
  refine then_n ?_
  refine awp_ifN (r1.1 == 0) rfl (fun g => ?_) (fun g => ?_)
  · replace hd_1 := cond_f g hd_1
    refine awp_seq ?_
    refine r13a_3_4 HH p1 p2 p3 p4 p5 r1 _ ?_
    refine then_n ?_
    refine awp_ret ?_
    refine then_r ?_
    have ee := Option.some.inj hd_1; subst ee
    exact end_dL .nil (by kernel_rfl) (.one .nil) (weak_run [0] [(0, false)] 1 [] [] (AllP.cons (rowsA_below 1 16 ClauseT.row p4) .nil) (by kernel_rfl))
  · replace hd_1 := cond_t g hd_1
    refine awp_skip ?_
    refine then_n ?_
    refine awp_seq ?_
    refine r13a_4_5 HH p1 p2 p3 p4 p5 r1 _ ?_
    refine then_n ?_
    refine awp_seq ?_
    refine awp_seq ?_
    refine r13a_5_6 HH p1 p2 p3 p4 p5 _ ?_
    refine then_n ?_
    refine awp_block ?_
    obtain ⟨o1, hl_o1, hd_2⟩ := obind hd_1; clear hd_1
    refine awp_forR hl_o1 (fun i1 s1 => [(1, .ptr 1 0 0), (5, .ptr 12 0 0), (28, vI (p4.length : Int)), (29, vI (i1 : Int))]) (fun i1 s1 => [(0, .rows 16 (rowsA ClauseT.row p4)), (1, .rows 7 [[vI p1, .imm (.slice (List.map rowI p2)), .nil, .imm (.slice (List.map ActT.row p3)), .mslice 0 0 p4.length, vI p5, .nil]]), (12, .rows 1 (rowsA rowI s1))]) ?_ ?_ ?_
    · exact weak_run [1, 5, 28, 29] [(0, false), (1, true), (12, false)] 17 [] [] (AllP.cons (rowsA_below 17 16 ClauseT.row p4) (.cons (rowsA_below 17 1 rowI (List.replicate 400 0)) .nil)) (by kernel_rfl)
    · intro i1 s1 o hi_i1 hw_i1 hs_s1
      refine awp_seq ?_
      refine r13a_6_7 HH p1 p2 p3 p4 p5 i1 s1 _ ?_
      refine then_n ?_
      refine awp_seq ?_
      refine awp_ifT (by simp [*]) ?_
      refine awp_skip ?_
      refine then_n ?_
      refine awp_seq ?_
      refine awp_block ?_
      refine awp_seq ?_
      refine r13a_7_8 HH p1 p2 p3 p4 p5 i1 s1 _ ?_
      refine then_n ?_
      obtain ⟨k1, hk1, hs_s1_1⟩ := obind hs_s1; clear hs_s1
      obtain ⟨e1, he1, hs_s1_2⟩ := obind hs_s1_1; clear hs_s1_1
      refine r13a_8_9 HH p1 p2 p3 p4 p5 i1 s1 k1 hk1 e1 he1 _ ?_
      clear hk1 he1
      refine inb_n ?_
      refine then_n ?_
      refine r13a_9_10 HH p1 p2 p3 p4 p5 i1 s1 k1 _ ?_
      cases hs_s1_2
      exact ⟨_, rfl, weak_run [1, 5, 28, 29] [(0, false), (1, true), (12, false)] 17 [(29, vI (((i1 + 1 : Nat) : Int)))] [] (AllP.cons (ov_int hw_i1) (.cons (rowsA_below 17 16 ClauseT.row p4) (.cons (rowsA_below 17 1 rowI (s1.set k1 (i1 : Int))) .nil))) (by kernel_rfl)⟩
    · intro i1 s1 hi_i1 ho
      subst ho
      replace hd_2 := sel_l hd_2
      refine awp_seq ?_
      refine r13a_6_11 HH p1 p2 p3 p4 p5 i1 s1 _ ?_
      refine then_n ?_
      refine awp_seq ?_
      refine awp_ifF (by simp [*]) ?_
      refine awp_exit ?_
      refine then_x ?_
      refine then_x ?_
      refine inb_eq ?_
      refine then_n ?_
      refine awp_seq ?_
      refine r13a_10_12 HH p1 p2 p3 p4 p5 i1 s1 _ ?_
      refine then_n ?_
      refine awp_seq ?_
      refine r13a_11_13 HH p1 p2 p3 p4 p5 s1 _ ?_
      refine then_n ?_
      refine awp_seq ?_
      refine r13a_12_14 HH p1 p2 p3 p4 p5 s1 _ ?_
      refine then_n ?_
      refine awp_seq ?_
      obtain ⟨r2, hr2, hd_3⟩ := obind hd_2; clear hd_2
      refine r13a_13_15 HH p1 p2 p3 p4 p5 s1 r2 hr2 _ ?_
      clear hr2
      refine then_n ?_
      refine awp_seq ?_
      refine r13a_14_16 HH p1 p2 p3 p4 p5 s1 r2 _ ?_
      refine then_n ?_
      refine awp_seq ?_
      refine awp_seq ?_
      refine r13a_15_17 HH p1 p2 p3 p4 p5 s1 r2 _ ?_
      refine then_n ?_
      refine awp_block ?_
      obtain ⟨o4, hl_o4, hd_4⟩ := obind hd_3; clear hd_3
      refine awp_forR hl_o4 (fun i2 s2 => [(1, .ptr 1 0 0), (7, .ptr 18 0 0), (8, .func 30 [] [.ptr 18 0 0, .ptr 12 0 0]), (9, vB r2), (10, .map 27), (43, .mslice 0 0 p4.length), (44, vI (p4.length : Int)), (45, vI (i2 : Int))]) (fun i2 s2 => [(0, .rows 16 (rowsA ClauseT.row p4)), (1, .rows 7 [[vI p1, .imm (.slice (List.map rowI p2)), .nil, .imm (.slice (List.map ActT.row p3)), .mslice 0 0 p4.length, vI p5, .nil]]), (12, .rows 1 (rowsA rowI s2.1)), (18, .rows 1 [[.func 29 [] [.ptr 12 0 0, .ptr 18 0 0]]]), (27, .map (entsA IV.i64 IV.i64 s2.2))]) ?_ ?_ ?_
      · exact weak_run [1, 7, 8, 9, 10, 43, 44, 45] [(0, false), (1, true), (12, false), (18, true), (27, false)] 33 [] [] (AllP.cons (rowsA_below 33 16 ClauseT.row p4) (.cons (rowsA_below 33 1 rowI s1) (.cons (entsA_below 33 IV.i64 IV.i64 []) .nil))) (by kernel_rfl)
      · intro i2 s2 o hi_i2 hw_i2 hs_s2
        refine awp_seq ?_
        refine r13a_16_18 HH p1 p2 p3 p4 p5 r2 i2 s2 _ ?_
        refine then_n ?_
        refine awp_seq ?_
        refine awp_ifT (by simp [*]) ?_
        refine awp_skip ?_
        refine then_n ?_
        refine awp_seq ?_
        refine awp_block ?_
        refine awp_seq ?_
        obtain ⟨k2, hk2, hs_s2_1⟩ := obind hs_s2; clear hs_s2
        obtain ⟨e2, he2, hs_s2_2⟩ := obind hs_s2_1; clear hs_s2_1
        refine r13a_17_19 HH p1 p2 p3 p4 p5 r2 i2 s2 k2 hk2 e2 he2 _ ?_
        clear hk2 he2
        refine then_n ?_
        obtain ⟨v1, hc_v1, hs_s2_3⟩ := obind hs_s2_2; clear hs_s2_2
        refine awp_seqW ⟨[(1, .ptr 1 0 0), (7, .ptr 18 0 0), (8, .func 30 [] [.ptr 18 0 0, .ptr 12 0 0]), (9, vB r2), (10, .map 27), (43, .mslice 0 0 p4.length), (44, vI (p4.length : Int)), (45, vI (i2 : Int)), (12, .ptr 37 0 0), (11, vI (i2 : Int))], [(0, .rows 16 (rowsA ClauseT.row p4)), (1, .rows 7 [[vI p1, .imm (.slice (List.map rowI p2)), .nil, .imm (.slice (List.map ActT.row p3)), .mslice 0 0 p4.length, vI p5, .nil]]), (12, .rows 1 (rowsA rowI v1)), (18, .rows 1 [[.func 29 [] [.ptr 12 0 0, .ptr 18 0 0]]]), (27, .map (entsA IV.i64 IV.i64 s2.2)), (37, .rows 16 [rowA (ClauseT.row e2)])], 41⟩ (by simp) ?_ ?_
        · skip
          refine awp_seq ?_
          refine r13a_18_20 HH p1 p2 p3 p4 p5 r2 i2 s2 e2 _ ?_
          refine then_n ?_
          refine awp_if r2 rfl (fun g => ?_) (fun g => ?_)
          · replace hc_v1 := cond_t g hc_v1
            obtain ⟨r3, hr3, hc_v1_1⟩ := obind hc_v1; clear hc_v1
            refine r13a_19_21 HH p1 p2 p3 p4 p5 r2 i2 s2 e2 r3 hr3 _ ?_
            clear hr3
            have ee := Option.some.inj hc_v1_1; subst ee
            exact then_n (weak_run [1, 7, 8, 9, 10, 43, 44, 45, 12, 11] [(0, false), (1, true), (12, false), (18, true), (27, false), (37, true)] 41 [] [] (AllP.cons (rowsA_below 41 16 ClauseT.row p4) (.cons (rowsA_below 41 1 rowI r3) (.cons (entsA_below 41 IV.i64 IV.i64 s2.2) .nil))) (by kernel_rfl))
          · replace hc_v1 := cond_f g hc_v1
            refine awp_skip ?_
            have ee := Option.some.inj hc_v1; subst ee
            exact then_n (weak_run [1, 7, 8, 9, 10, 43, 44, 45, 12, 11] [(0, false), (1, true), (12, false), (18, true), (27, false), (37, true)] 41 [] [] (AllP.cons (rowsA_below 41 16 ClauseT.row p4) (.cons (rowsA_below 41 1 rowI s2.1) (.cons (entsA_below 41 IV.i64 IV.i64 s2.2) .nil))) (by kernel_rfl))
        · skip
          refine awp_seq ?_
          refine awp_seq ?_
          refine r13a_20_22 HH p1 p2 p3 p4 p5 r2 i2 s2 e2 v1 _ ?_
          refine then_n ?_
          refine awp_block ?_
          obtain ⟨o2, hl_o2, hs_s2_4⟩ := obind hs_s2_3; clear hs_s2_3
          refine awp_forR hl_o2 (fun i3 s3 => [(1, .ptr 1 0 0), (7, .ptr 18 0 0), (8, .func 30 [] [.ptr 18 0 0, .ptr 12 0 0]), (9, vB r2), (10, .map 27), (43, .mslice 0 0 p4.length), (44, vI (p4.length : Int)), (45, vI (i2 : Int)), (12, .ptr 37 0 0), (11, vI (i2 : Int)), (55, .imm (.slice (List.map CondT.row e2.start))), (56, vI (e2.start.length : Int)), (57, vI (i3 : Int))]) (fun i3 s3 => [(0, .rows 16 (rowsA ClauseT.row p4)), (1, .rows 7 [[vI p1, .imm (.slice (List.map rowI p2)), .nil, .imm (.slice (List.map ActT.row p3)), .mslice 0 0 p4.length, vI p5, .nil]]), (12, .rows 1 (rowsA rowI s3)), (18, .rows 1 [[.func 29 [] [.ptr 12 0 0, .ptr 18 0 0]]]), (27, .map (entsA IV.i64 IV.i64 s2.2)), (37, .rows 16 [rowA (ClauseT.row e2)])]) ?_ ?_ ?_
          · exact weak_run [1, 7, 8, 9, 10, 43, 44, 45, 12, 11, 55, 56, 57] [(0, false), (1, true), (12, false), (18, true), (27, false), (37, true)] 45 [] [] (AllP.cons (rowsA_below 45 16 ClauseT.row p4) (.cons (rowsA_below 45 1 rowI v1) (.cons (entsA_below 45 IV.i64 IV.i64 s2.2) .nil))) (by kernel_rfl)
          · intro i3 s3 o hi_i3 hw_i3 hs_s3
            refine awp_seq ?_
            refine r13a_21_23 HH p1 p2 p3 p4 p5 r2 i2 s2 e2 i3 s3 _ ?_
            refine then_n ?_
            refine awp_seq ?_
            refine awp_ifT (by simp [*]) ?_
            refine awp_skip ?_
            refine then_n ?_
            refine awp_seq ?_
            refine awp_block ?_
            refine awp_seq ?_
            obtain ⟨e3, he3, hs_s3_1⟩ := obind hs_s3; clear hs_s3
            refine r13a_22_24 HH p1 p2 p3 p4 p5 r2 i2 s2 e2 i3 s3 e3 he3 _ ?_
            clear he3
            refine then_n ?_
            obtain ⟨r4, hr4, hs_s3_2⟩ := obind hs_s3_1; clear hs_s3_1
            refine r13a_23_25 HH p1 p2 p3 p4 p5 r2 i2 s2 e2 i3 s3 e3 r4 hr4 _ ?_
            clear hr4
            refine inb_n ?_
            refine then_n ?_
            refine r13a_24_26 HH p1 p2 p3 p4 p5 r2 i2 s2 e2 i3 e3 r4 _ ?_
            cases hs_s3_2
            exact ⟨_, rfl, weak_run [1, 7, 8, 9, 10, 43, 44, 45, 12, 11, 55, 56, 57] [(0, false), (1, true), (12, false), (18, true), (27, false), (37, true)] 45 [(57, vI (((i3 + 1 : Nat) : Int)))] [] (AllP.cons (ov_int hw_i3) (.cons (rowsA_below 45 16 ClauseT.row p4) (.cons (rowsA_below 45 1 rowI r4) (.cons (entsA_below 45 IV.i64 IV.i64 s2.2) .nil)))) (by kernel_rfl)⟩
          · intro i3 s3 hi_i3 ho
            subst ho
            replace hs_s2_4 := sel_l hs_s2_4
            refine awp_seq ?_
            refine r13a_21_27 HH p1 p2 p3 p4 p5 r2 i2 s2 e2 i3 s3 _ ?_
            refine then_n ?_
            refine awp_seq ?_
            refine awp_ifF (by simp [*]) ?_
            refine awp_exit ?_
            refine then_x ?_
            refine then_x ?_
            refine inb_eq ?_
            refine then_n ?_
            refine awp_seq ?_
            obtain ⟨r5, hr5, hs_s2_5⟩ := obind hs_s2_4; clear hs_s2_4
            refine r13a_25_28 HH p1 p2 p3 p4 p5 r2 i2 s2 e2 i3 s3 r5 hr5 _ ?_
            clear hr5
            refine then_n ?_
            refine awp_block ?_
            obtain ⟨o3, hl_o3, hs_s2_6⟩ := obind hs_s2_5; clear hs_s2_5
            refine awp_forR hl_o3 (fun i4 s4 => [(1, .ptr 1 0 0), (7, .ptr 18 0 0), (8, .func 30 [] [.ptr 18 0 0, .ptr 12 0 0]), (9, vB r2), (10, .map 27), (43, .mslice 0 0 p4.length), (44, vI (p4.length : Int)), (45, vI (i2 : Int)), (11, vI (i2 : Int)), (68, .imm (.slice (List.map rowI r5))), (69, vI (r5.length : Int)), (70, vI (i4 : Int))]) (fun i4 s4 => [(0, .rows 16 (rowsA ClauseT.row p4)), (1, .rows 7 [[vI p1, .imm (.slice (List.map rowI p2)), .nil, .imm (.slice (List.map ActT.row p3)), .mslice 0 0 p4.length, vI p5, .nil]]), (12, .rows 1 (rowsA rowI s4.1)), (18, .rows 1 [[.func 29 [] [.ptr 12 0 0, .ptr 18 0 0]]]), (27, .map (entsA IV.i64 IV.i64 s4.2))]) ?_ ?_ ?_
            · exact weak_run [1, 7, 8, 9, 10, 43, 44, 45, 11, 68, 69, 70] [(0, false), (1, true), (12, false), (18, true), (27, false)] 50 [] [] (AllP.cons (rowsA_below 50 16 ClauseT.row p4) (.cons (rowsA_below 50 1 rowI s3) (.cons (entsA_below 50 IV.i64 IV.i64 s2.2) .nil))) (by kernel_rfl)
            · intro i4 s4 o hi_i4 hw_i4 hs_s4
              refine awp_seq ?_
              refine r13a_26_29 HH p1 p2 p3 p4 p5 r2 i2 r5 i4 s4 _ ?_
              refine then_n ?_
              refine awp_seq ?_
              refine awp_ifT (by simp [*]) ?_
              refine awp_skip ?_
              refine then_n ?_
              obtain ⟨v2, hc_v2, hs_s4_1⟩ := obind hs_s4; clear hs_s4
              refine awp_seqW ⟨[(1, .ptr 1 0 0), (7, .ptr 18 0 0), (8, .func 30 [] [.ptr 18 0 0, .ptr 12 0 0]), (9, vB r2), (10, .map 27), (43, .mslice 0 0 p4.length), (44, vI (p4.length : Int)), (45, vI (i2 : Int)), (11, vI (i2 : Int)), (68, .imm (.slice (List.map rowI r5))), (69, vI (r5.length : Int)), (70, vI (i4 : Int))], [(0, .rows 16 (rowsA ClauseT.row p4)), (1, .rows 7 [[vI p1, .imm (.slice (List.map rowI p2)), .nil, .imm (.slice (List.map ActT.row p3)), .mslice 0 0 p4.length, vI p5, .nil]]), (12, .rows 1 (rowsA rowI v2.1)), (18, .rows 1 [[.func 29 [] [.ptr 12 0 0, .ptr 18 0 0]]]), (27, .map (entsA IV.i64 IV.i64 v2.2))], 67⟩ (by simp) ?_ ?_
              · skip
                refine awp_block ?_
                refine awp_seq ?_
                obtain ⟨e4, he4, hc_v2_1⟩ := obind hc_v2; clear hc_v2
                refine r13a_27_30 HH p1 p2 p3 p4 p5 r2 i2 r5 i4 s4 e4 he4 _ ?_
                clear he4
                refine then_n ?_
                refine awp_seq ?_
                refine r13a_28_31 HH p1 p2 p3 p4 p5 r2 i2 r5 i4 s4 e4 _ ?_
                refine then_n ?_
                refine awp_seq ?_
                refine r13a_29_32 HH p1 p2 p3 p4 p5 r2 i2 r5 i4 s4 e4 _ ?_
                refine then_n ?_
                refine awp_if ((mget e4 s4.2).isSome) rfl (fun g => ?_) (fun g => ?_)
                · replace hc_v2_1 := cond_t g hc_v2_1
                  obtain ⟨r6, hr6, hc_v2_2⟩ := obind hc_v2_1; clear hc_v2_1
                  refine r13a_30_33 HH p1 p2 p3 p4 p5 r2 i2 r5 i4 s4 e4 r6 hr6 _ ?_
                  clear hr6
                  refine inb_n ?_
                  have ee := Option.some.inj hc_v2_2; subst ee
                  exact then_n (weak_run [1, 7, 8, 9, 10, 43, 44, 45, 11, 68, 69, 70] [(0, false), (1, true), (12, false), (18, true), (27, false)] 67 [] [] (AllP.cons (rowsA_below 67 16 ClauseT.row p4) (.cons (rowsA_below 67 1 rowI r6) (.cons (entsA_below 67 IV.i64 IV.i64 s4.2) .nil))) (by kernel_rfl))
                · replace hc_v2_1 := cond_f g hc_v2_1
                  refine r13a_31_34 HH p1 p2 p3 p4 p5 r2 i2 r5 i4 s4 e4 _ ?_
                  refine inb_n ?_
                  have ee := Option.some.inj hc_v2_1; subst ee
                  exact then_n (weak_run [1, 7, 8, 9, 10, 43, 44, 45, 11, 68, 69, 70] [(0, false), (1, true), (12, false), (18, true), (27, false)] 67 [] [] (AllP.cons (rowsA_below 67 16 ClauseT.row p4) (.cons (rowsA_below 67 1 rowI s4.1) (.cons (entsA_below 67 IV.i64 IV.i64 (mset e4 (i2 : Int) s4.2)) .nil))) (by kernel_rfl))
              · skip
                refine r13a_32_35 HH p1 p2 p3 p4 p5 r2 i2 r5 i4 v2 _ ?_
                cases hs_s4_1
                exact ⟨_, rfl, weak_run [1, 7, 8, 9, 10, 43, 44, 45, 11, 68, 69, 70] [(0, false), (1, true), (12, false), (18, true), (27, false)] 50 [(70, vI (((i4 + 1 : Nat) : Int)))] [] (AllP.cons (ov_int hw_i4) (.cons (rowsA_below 50 16 ClauseT.row p4) (.cons (rowsA_below 50 1 rowI v2.1) (.cons (entsA_below 50 IV.i64 IV.i64 v2.2) .nil)))) (by kernel_rfl)⟩
            · intro i4 s4 hi_i4 ho
              subst ho
              replace hs_s2_6 := sel_l hs_s2_6
              refine awp_seq ?_
              refine r13a_26_36 HH p1 p2 p3 p4 p5 r2 i2 r5 i4 s4 _ ?_
              refine then_n ?_
              refine awp_seq ?_
              refine awp_ifF (by simp [*]) ?_
              refine awp_exit ?_
              refine then_x ?_
              refine then_x ?_
              refine inb_eq ?_
              refine inb_n ?_
              refine then_n ?_
              refine r13a_33_37 HH p1 p2 p3 p4 p5 r2 i2 r5 i4 s4 _ ?_
              cases hs_s2_6
              exact ⟨_, rfl, weak_run [1, 7, 8, 9, 10, 43, 44, 45] [(0, false), (1, true), (12, false), (18, true), (27, false)] 33 [(45, vI (((i2 + 1 : Nat) : Int)))] [] (AllP.cons (ov_int hw_i2) (.cons (rowsA_below 33 16 ClauseT.row p4) (.cons (rowsA_below 33 1 rowI s4.1) (.cons (entsA_below 33 IV.i64 IV.i64 s4.2) .nil)))) (by kernel_rfl)⟩
      · intro i2 s2 hi_i2 ho
        subst ho
        replace hd_4 := sel_l hd_4
        refine awp_seq ?_
        refine r13a_16_38 HH p1 p2 p3 p4 p5 r2 i2 s2 _ ?_
        refine then_n ?_
        refine awp_seq ?_
        refine awp_ifF (by simp [*]) ?_
        refine awp_exit ?_
        refine then_x ?_
        refine then_x ?_
        refine inb_eq ?_
        refine then_n ?_
        refine awp_seq ?_
        obtain ⟨r7, hr7, hd_5⟩ := obind hd_4; clear hd_4
        refine r13a_34_39 HH p1 p2 p3 p4 p5 r2 i2 s2 r7 hr7 _ ?_
        clear hr7
        refine then_n ?_
        refine awp_ret ?_
        have ee := Option.some.inj hd_5; subst ee
        exact end_d (by kernel_rfl) (weak_run [0] [(0, false)] 1 [] [] (AllP.cons (rowsA_below 1 16 ClauseT.row p4) .nil) (by kernel_rfl))

theorem r35a_0_1 {C : Ctx} {nt : Nat} (HH : HasA C)   (P : Exit → St → Prop) (h : P .normal ⟨[(0, .nil)], [], 1⟩) : awp C nt (.region false [] ri35_0 (some [0])) P ⟨[(0, .nil)], [], 0⟩ := by
  exact reg_fast [] AllP.nil h (by kernel_rfl)

theorem r35a_1_2 {C : Ctx} {nt : Nat} (HH : HasA C)   (P : Exit → St → Prop) (h : P .normal ⟨[(0, .nil), (4, vB true)], [], 3⟩) : awp C nt (.region false [] ri35_1 (some [0, 4])) P ⟨[(0, .nil)], [], 1⟩ := by
  exact reg_fast [] AllP.nil h (by kernel_rfl)

theorem r35a_2_3 {C : Ctx} {nt : Nat} (HH : HasA C)   (P : Exit → St → Prop) (h : P .normal ⟨[(2, .nil)], [], 4⟩) : awp C nt (.region false [] ri35_2 (some [2])) P ⟨[(0, .nil), (4, vB true)], [], 3⟩ := by
  exact reg_fast [] AllP.nil h (by kernel_rfl)

noncomputable def d_35a  : Option Unit :=
  some ()
set_option maxHeartbeats 4000000 in
theorem t_35a {C : Ctx} (HH : HasA C)  (res : Unit) (hd : d_35a  = some res) : DOk C 35 [.nil] [] 0 (.nil) [] 0 := by
  refine DOk.start HH.h35 (by simp [af35]) .nil .nil (by kernel_rfl) (by kernel_rfl) (by kernel_rfl) (by kernel_rfl) ?_
  unfold d_35a at hd
  show awp C _ af35.body (EndsD af35.results _ _ _) ⟨[(0, .nil)], [], 0⟩
  refine awp_seq ?_
  refine r35a_0_1 HH  _ ?_
  refine then_n ?_
  refine awp_seq ?_
  refine awp_seq ?_
  refine r35a_1_2 HH  _ ?_
  refine then_n ?_
  refine awp_ifT (by simp [*]) ?_
  refine awp_seq ?_
  refine r35a_2_3 HH  _ ?_
  refine then_n ?_
  refine awp_ret ?_
  refine then_r ?_
  have ee := Option.some.inj hd; subst ee
  exact end_d (by kernel_rfl) (weak_run [0] [] 0 [] [] AllP.nil (by kernel_rfl))

theorem r34a_0_1 {C : Ctx} {nt : Nat} (HH : HasA C)   (P : Exit → St → Prop) (h : P .normal ⟨[(0, .nil)], [], 1⟩) : awp C nt (.region false [] ri34_0 (some [0])) P ⟨[(0, .nil)], [], 0⟩ := by
  exact reg_fast [] AllP.nil h (by kernel_rfl)

theorem r34a_1_2 {C : Ctx} {nt : Nat} (HH : HasA C)   (P : Exit → St → Prop) (h : P .normal ⟨[(0, .nil), (4, vB true)], [], 3⟩) : awp C nt (.region false [] ri34_1 (some [0, 4])) P ⟨[(0, .nil)], [], 1⟩ := by
  exact reg_fast [] AllP.nil h (by kernel_rfl)

theorem r34a_2_3 {C : Ctx} {nt : Nat} (HH : HasA C)   (P : Exit → St → Prop) (h : P .normal ⟨[(2, .nil)], [], 4⟩) : awp C nt (.region false [] ri34_2 (some [2])) P ⟨[(0, .nil), (4, vB true)], [], 3⟩ := by
  exact reg_fast [] AllP.nil h (by kernel_rfl)

noncomputable def d_34a  : Option Unit :=
  some ()
set_option maxHeartbeats 4000000 in
theorem t_34a {C : Ctx} (HH : HasA C)  (res : Unit) (hd : d_34a  = some res) : DOk C 34 [.nil] [] 0 (.nil) [] 0 := by
  refine DOk.start HH.h34 (by simp [af34]) .nil .nil (by kernel_rfl) (by kernel_rfl) (by kernel_rfl) (by kernel_rfl) ?_
  unfold d_34a at hd
  show awp C _ af34.body (EndsD af34.results _ _ _) ⟨[(0, .nil)], [], 0⟩
  refine awp_seq ?_
  refine r34a_0_1 HH  _ ?_
  refine then_n ?_
  refine awp_seq ?_
  refine awp_seq ?_
  refine r34a_1_2 HH  _ ?_
  refine then_n ?_
  refine awp_ifT (by simp [*]) ?_
  refine awp_seq ?_
  refine r34a_2_3 HH  _ ?_
  refine then_n ?_
  refine awp_ret ?_
  refine then_r ?_
  have ee := Option.some.inj hd; subst ee
  exact end_d (by kernel_rfl) (weak_run [0] [] 0 [] [] AllP.nil (by kernel_rfl))

end Go.Proofs.Ytgligibbgobmnaa
