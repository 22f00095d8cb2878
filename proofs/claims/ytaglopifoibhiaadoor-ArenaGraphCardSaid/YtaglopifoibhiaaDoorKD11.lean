/-
  'ArenaGraph': for every input the call returns true, and each argument reads afterwards as it read before.
  The law 'ArenaGraph'.
-/
import Derived.Test.YtaglopifoibhiaaDoorKD10
import Derived.Test.YtaglopifoibhiaaDoorKD09
import Derived.Test.YtaglopifoibhiaaDoorKD06
import Derived.Test.YtaglopifoibhiaaDoorRows
import Derived.JoinedOf
import Derived.Test.YtaglopifoibhiaaDoorTie
import Derived.Test.YtaglopifoibhiaaDoorCards
import Derived.SevenTiedAt
namespace Go.Proofs.YtaglopifoibhiaaDoor
open Go.RowKit
set_option linter.unusedVariables false
set_option linter.unusedSimpArgs false
set_option maxRecDepth 100000

theorem chkAll_append (B : List (List MoveT)) : ∀ (A : List (List MoveT)) (i n : Nat), chkAll i n (A ++ B) = (chkAll i n A).bind fun n' => chkAll (i + A.length) n' B
  | [], i, n => rfl
  | x :: A, i, n => by
    simp only [List.cons_append, chkAll, List.length_cons]
    split
    · cases chkL n x with
      | none => rfl
      | some n' =>
        simp only [Option.bind_some]
        rw [chkAll_append B A (i + 1) n', show i + 1 + A.length = i + (A.length + 1) by omega]
    · rfl
theorem chkL_append (B : List MoveT) : ∀ (A : List MoveT) (n : Nat), chkL n (A ++ B) = (chkL n A).bind fun n' => chkL n' B
  | [], n => rfl
  | t :: A, n => by
    simp only [List.cons_append, chkL]
    split
    · exact chkL_append B A _
    · rfl
theorem chkAll_at {M : List (List MoveT)} {r i : Nat} {T : List MoveT} (h : chkAll 0 1 M = some r) (hT : M[i]? = some T) : ∃ n n', chkAll 0 1 (M.take i) = some n ∧ i < n ∧ chkL n T = some n' ∧ chkAll 0 1 (M.take (i + 1)) = some n' := by
  obtain ⟨hi, e⟩ := List.getElem?_eq_some_iff.1 hT
  have h1 : chkAll 0 1 (M.take (i + 1) ++ M.drop (i + 1)) = some r := by rw [List.take_append_drop]; exact h
  rw [chkAll_append] at h1
  obtain ⟨n', h2, _⟩ := Option.bind_eq_some_iff.1 h1
  have h3 := h2
  rw [List.take_succ_eq_append_getElem hi, e, chkAll_snoc] at h3
  obtain ⟨n, h4, h5⟩ := Option.bind_eq_some_iff.1 h3
  rw [List.length_take, Nat.min_eq_left (by omega), Nat.zero_add] at h5
  split at h5
  · rename_i hlt
    exact ⟨n, n', h4, hlt, h5, h2⟩
  · cases h5
theorem chkL_at {T : List MoveT} {n r k : Nat} {t : MoveT} (h : chkL n T = some r) (ht : T[k]? = some t) : ∃ n2, chkL n (T.take k) = some n2 ∧ 0 ≤ t.to ∧ t.to ≤ (n2 : Int) ∧ chkL n (T.take (k + 1)) = some (if t.to = (n2 : Int) then n2 + 1 else n2) := by
  obtain ⟨hk, e⟩ := List.getElem?_eq_some_iff.1 ht
  have h1 : chkL n (T.take (k + 1) ++ T.drop (k + 1)) = some r := by rw [List.take_append_drop]; exact h
  rw [chkL_append] at h1
  obtain ⟨n', h2, _⟩ := Option.bind_eq_some_iff.1 h1
  have h3 := h2
  rw [List.take_succ_eq_append_getElem hk, e, chkL_append] at h3
  obtain ⟨n2, h4, h5⟩ := Option.bind_eq_some_iff.1 h3
  simp only [chkL] at h5
  split at h5
  · rename_i hc
    cases h5
    exact ⟨n2, h4, hc.1, hc.2, h2⟩
  · cases h5

theorem idxP_at {L : List PosT} (hn : L.Nodup) {i : Nat} (hi : i < L.length) : idxP L L[i] = (i : Int) := by
  unfold idxP
  rw [if_pos (List.getElem_mem hi)]
  have h1 : L.idxOf L[i] < L.length := List.idxOf_lt_length_iff.2 (List.getElem_mem hi)
  have h2 := List.getElem_idxOf h1
  have : L.idxOf L[i] = i := (List.getElem?_inj h1 hn).1 (by rw [List.getElem?_eq_getElem h1, List.getElem?_eq_getElem hi, h2])
  rw [this]

theorem m_ArenaGraph (c : ContractT) (party : Int) (hc : ContractT.Ok c) (hparty : InK .i64 party) : d_ArenaGraph c party = some true := by
  refine Ret.eq ?_
  unfold d_ArenaGraph
  refine Ret.bindE s_head18 ?_
  refine Ret.bindE (s_Tame hc) ?_
  refine Ret.ite (fun _ => ?_) (fun _ => Ret.some rfl)
  refine Ret.bind (build_ret hc party) ?_
  rintro ⟨⟨pa, L, M⟩, e⟩ hB
  simp only
  by_cases hbig : e ≠ 0 ∨ 200 < (L.length : Int)
  · refine Ret.bindE (v := true) ?_ (Ret.some rfl)
    rcases hbig with h | h
    · rw [beq_eq_false_iff_ne.2 h]; rfl
    · rw [decide_eq_true h]; cases (e == 0) <;> rfl
  · have he0 : e = 0 := by
      apply Classical.byContradiction; intro h; exact hbig (.inl h)
    have hL200 : (L.length : Int) ≤ 200 := by
      apply Int.not_lt.1; intro h; exact hbig (.inr h)
    rcases hB with h | ⟨_, s0, hst, hvs, hp0, hp1, hpa, F⟩
    · exact absurd he0 h
    · simp only at hpa F
      subst he0
      obtain rfl : party = pa := hpa.symm
      obtain ⟨hinv, hfst, hlen, hmv, hchk⟩ := F
      have hL0 : 0 < L.length := (List.getElem?_eq_some_iff.1 hfst).1
      refine Ret.bindE (v := false) (by rw [decide_eq_false (by omega)]; rfl) ?_
      refine Ret.ite (fun h => by cases h) (fun _ => ?_)
      refine Ret.bindE (v := false) ?_ ?_
      · rw [beq_iff_eq.2 (show (M.length : Int) = (L.length : Int) by omega), beq_self_eq_true, beq_eq_false_iff_ne.2 (show (L.length : Int) ≠ 0 by omega)]; rfl
      refine Ret.ite (fun h => by cases h) (fun _ => ?_)
      refine Ret.bind (P := fun o : Int ⊕ Unit => o = .inl (L.length : Int)) ?_ ?_
      · refine Ret.forL (n := L.length) (fun i s => ∃ n : Nat, s = (n : Int) ∧ chkAll 0 1 (M.take i) = some n) (by omega) ⟨1, rfl, rfl⟩ ?_ ?_
        · rintro i s hi ⟨n, rfl, hn⟩
          have hiM : i < M.length := by omega
          have hT := List.getElem?_eq_getElem hiM
          have hE := List.getElem?_eq_getElem hi
          obtain ⟨n0, n', h1, h2, h3, h4⟩ := chkAll_at hchk hT
          rw [hn] at h1; cases h1
          have hidx : d_Index18 L L[i] = some (i : Int) := by rw [s_Index hc hinv.vs hinv.len, idxP_at hinv.nd hi]
          refine Ret.bindE (v := false) ?_ ?_
          · rw [decide_eq_false (show ¬ (n : Int) ≤ (i : Int) by omega), idxI_at hE]
            simp only [cond_false, Option.bind_some]
            rw [hidx]; simp
          refine Ret.ite (fun h => by cases h) (fun _ => ?_)
          refine Ret.bindE (idxI_at hE) ?_
          have hvE := hinv.vs _ (List.getElem_mem hi)
          have hmvE := hmv i _ _ hT hE
          generalize M[i] = T at hT h3 hmvE
          generalize L[i] = q at hE hvE hmvE
          have hpl : playB c party q.state = true := playB_iff.2 ⟨hp0, hp1, hvE⟩
          refine Ret.bindE (v := (movesL c party q, 0)) (by rw [s_Moves hc, hpl]; rfl) ?_
          have hlenT : T.length = (movesL c party q).length := by rw [← hmvE.1, List.length_map]
          have hmlen := moves_len hc (party := party) hvE
          refine Ret.bindE (v := false) ?_ ?_
          · simp only [idxI_at hT, Option.bind_some, hlenT]; simp
          refine Ret.ite (fun h => by cases h) (fun _ => ?_)
          refine Ret.bind (P := fun o : Int ⊕ Unit => o = .inl (n' : Int)) ?_ ?_
          · refine Ret.forL (n := (movesL c party q).length) (fun k s => ∃ n2 : Nat, s = (n2 : Int) ∧ chkL n (T.take k) = some n2) (by omega) ⟨n, rfl, rfl⟩ ?_ ?_
            · rintro k s hk ⟨n2, rfl, hn2⟩
              have hkT : k < T.length := by omega
              have ht := List.getElem?_eq_getElem hkT
              have hmemT := List.getElem_mem hkT
              obtain ⟨n3, g1, g2, g3, g4⟩ := chkL_at h3 ht
              rw [hn2] at g1; cases g1
              have hstep : (movesL c party q)[k]? = some T[k].step := by rw [← hmvE.1, List.getElem?_map, ht]; rfl
              have htq := hmvE.2 _ hmemT
              generalize T[k] = t at ht g2 g3 g4 hstep htq
              have hin : t.step ∈ movesL c party q := List.mem_of_getElem? hstep
              have htL := (List.getElem?_eq_some_iff.1 htq.2).1
              refine Ret.bindE (idxI_at hT) ?_
              refine Ret.bindE (idxI_at ht) ?_
              refine Ret.bindE (idxI_at hE) ?_
              refine Ret.bindE (idxI_at hstep) ?_
              refine Ret.bindE (v := (target c q t.step, 0)) (by rw [s_After hc _ hpl, if_pos hin]) ?_
              have hto : idxI L t.to = some (target c q t.step) := by
                unfold idxI; rw [if_pos g2]; exact htq.2
              have hvt := hinv.vs _ (List.mem_of_getElem? htq.2)
              have hft := hvt.few hc
              refine Ret.bindE (v := false) ?_ ?_
              · simp only [idxI_at hT, idxI_at ht, idxI_at hstep, Option.bind_some, beq_self_eq_true, cond_true, decide_eq_false (show ¬ t.to < 0 by omega), decide_eq_false (show ¬ (n2 : Int) < t.to by omega), decide_eq_false (show ¬ (L.length : Int) ≤ t.to by omega), cond_false, hto]
                rw [s_Equal18 _ _ (by omega) (by omega) (by omega)]
                simp
              refine Ret.ite (fun h => by cases h) (fun _ => ?_)
              rw [wrap_i64 (by omega) (by omega)]
              refine Ret.some ⟨_, ?_, g4⟩
              by_cases heq : t.to = (n2 : Int)
              · rw [if_pos heq, if_pos (by omega)]; omega
              · rw [if_neg heq, if_neg (by omega)]
            · rintro s ⟨n2, rfl, hn2⟩
              rw [List.take_of_length_le (by omega), h3] at hn2
              cases hn2; rfl
          · rintro o rfl
            exact Ret.some ⟨n', rfl, h4⟩
        · rintro s ⟨n, rfl, hn⟩
          rw [List.take_of_length_le (by omega), hchk] at hn
          cases hn; rfl
      · rintro o rfl
        simp only [Sum.elim_inl]
        refine Ret.bindE (v := true) (by simp) (Ret.some rfl)
end Go.Proofs.YtaglopifoibhiaaDoor
namespace Go.Proofs.YtaglopifoibhiaaDoor.LArenaGraph
open Go.ChangeShapes Go.WideShapes Go.ChangeAt Go.RowKit
set_option linter.unusedVariables false
set_option maxRecDepth 100000

theorem all (ivs : List IV) (h : HasArgs [(true, ContractT.tys), (false, [.int .i64])] ivs) : APure C0 84 ivs (.bool true) := by
  match ivs, h with
  | [x0, x1], ⟨a0, a1, _⟩ =>
    obtain ⟨row0, rfl, r0⟩ := a0
    obtain ⟨c, rfl, ok_c⟩ := ContractT.opn r0
    obtain ⟨c1, _, e1, k1, n1⟩ := hcs_cons a1
    cases e1
    obtain ⟨party, rfl, ok_party⟩ := hasC_int k1
    exact t_ArenaGraph c party true (m_ArenaGraph c party ok_c ok_party)

theorem own : ownKnob Tryd.prog.godebug = none := by kernel_rfl
theorem laid : laidOutB Tryd.prog = true := by kernel_rfl
theorem args : mapO (argC Tryd.prog) Tryd.f6.params.toList = some [(true, ContractT.tys), (false, [.int .i64])] := by kernel_rfl

theorem lifted (os : Os) (started : os.Started) (H : Type) (enc : TypeId × Value → H) :
    ReturnsInHanded {} Tryd.checked os 6 .any (fun w args => (Rows.arenaGraphSpec.pre enc Tryd.prog Tryd.f6 [] false w args ∧ laidMet Tryd.prog laidL w) ∧ sizedMet enc Tryd.prog Tryd.f6 (OpenSpec.ofChange Rows.arenaGraphSpec) false w args) (Rows.arenaGraphSpec.post enc Tryd.prog Tryd.f6 false true false false) := by
  refine returnsInHanded_of_change_and (C := Tryd.checked) (X := fun w _ => laidMet Tryd.prog laidL w) (fun _ _ _ hh h => h.of_heap hh) own started (by kernel_rfl) Tryd.func6
    (ChangeSpec.witness_at (enc := enc) (C := Tryd.checked) (os := os) (X := fun w _ => laidMet Tryd.prog laidL w) false (laidWorld os) #[.agg #[.int .i64 0, .slice none 0 0, .slice none 0 0, .slice none 0 0, .slice none 0 0, .int .i64 0, .slice none 0 0], .int .i64 0] 8 rfl (by kernel_rfl) (by kernel_rfl) (by kernel_rfl) (by kernel_rfl) (by kernel_rfl) (laidWorld_met os _)) ?_
  intro W base args ds gs before hval hW _ hwt hL _
  exact law_contract (Cx := C0) (tb := 4) 84 rfl LArenaGraph.args rfl (by kernel_rfl) rfl
    (fun ds h => by match ds, h with | [_, _], _ => rfl) LArenaGraph.laid (by kernel_rfl) LArenaGraph.all W (tabs_of_laid hL) base args ds gs before hval hW hwt

theorem said : Rows.ArenaGraphSaid :=
  OpenClaim.holds_of_wide 6 Tryd.f6 rfl rfl rfl rfl rfl rfl rfl ⟨rfl, rfl, rfl, rfl, rfl⟩ rfl rfl rfl rfl rfl (by kernel_rfl) Tryd.func6 (by kernel_rfl)
    (of_decide_eq_true (by kernel_rfl)) (by unfold Func.isWrapper; first | (rw [if_pos (by decide +kernel)]; kernel_rfl) | (rw [if_neg (by decide +kernel)]; exact ⟨rfl, rfl⟩))
    (fun os started H enc _ => lifted os started H enc)
theorem holds : Rows.ArenaGraphCardSaid :=
  Claim7.holds_tied_plain_at .later [] [.data, .data, .data] true (true, "276c8cf82d196e2d8316e5c16c6d7497c86e68577096c1d2bdbeadf6ee6e74e2") false
    said (fun _ h => by cases h) (by kernel_rfl) (fun _ h => by cases h) arenaGraph_row_tie rfl ⟨rfl, rfl⟩ (by kernel_rfl) rfl
    (fun f fn hf hfn => by
      obtain rfl : f = 6 := Option.some.inj ((show Tryd.prog.funcNamed "estoppel/estoppellaw18.ArenaGraph" = some 6 by kernel_rfl).symm.trans hf) |>.symm
      obtain rfl : fn = Tryd.f6 := (Option.some.inj (Tryd.func6.symm.trans hfn)).symm
      refine ⟨by kernel_rfl, fun j t ht => ?_⟩
      have hall : (Tryd.f6.params.toList.all fun t => !(Tryd.prog.wantsStandIn t)) = true := by kernel_rfl
      have := List.all_eq_true.1 hall t (by rw [Array.mem_toList_iff]; exact Array.mem_of_getElem? ht)
      have h2 : Tryd.prog.wantsStandIn t = false := by simpa using this
      exact h2)
    (by kernel_rfl)
end Go.Proofs.YtaglopifoibhiaaDoor.LArenaGraph

namespace Go.Proofs.YtaglopifoibhiaaDoor
theorem arenaGraph_holds : Rows.ArenaGraphCardSaid := LArenaGraph.holds
end Go.Proofs.YtaglopifoibhiaaDoor
