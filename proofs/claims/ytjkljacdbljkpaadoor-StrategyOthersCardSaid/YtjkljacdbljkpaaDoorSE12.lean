/-
  'StrategyOthers': for every input the call returns true, and each argument reads afterwards as it read before.
  The tables of the library that the rows list: from the row's condition to what the contracts ask; the witness.
  StrategyOthers: the trace has the steps that the others intended, but for acts whose doer is the party.
-/
import Derived.Test.YtjkljacdbljkpaaDoorSE11
import Derived.Test.YtjkljacdbljkpaaDoorRows
import Derived.Test.YtjkljacdbljkpaaDoorSE09
import Derived.LaidLaws
import Derived.LaidSub
import Derived.Deep.DeepLaidRun
import Derived.Lib.LaidTab
import Derived.JoinedOf
import Derived.Test.YtjkljacdbljkpaaDoorSE06
import Derived.Test.YtjkljacdbljkpaaDoorTie
import Derived.Test.YtjkljacdbljkpaaDoorCards
import Derived.SevenTiedAt
namespace Go.Proofs.YtjkljacdbljkpaaDoor
open Go.RowKit
set_option linter.unusedVariables false
set_option linter.unusedSimpArgs false
set_option maxRecDepth 100000
theorem doerF_tick (c:ContractT) (s:StateT):doerF c s (-1) = -1:=by unfold doerF;rw [if_pos rfl]
def At (c:ContractT) (party:Int) (s0:StateT) (others L:List Int) (k i:Nat):Prop:=
  ∃ sk os,others.drop i=sk++os∧(∀ x∈sk,doerF c (stF c s0 (L.take k)) x=party)∧(sk≠[]→advM c party (atO (stF c s0 (L.take k))) = -2)∧Fw c party s0 os (L.take k) L
theorem drop_get {l m:List Int} {i:Nat} {x:Int} (h:l.drop i=x::m):∃ hi:i < l.length,l[i]=x∧l.drop (i+1)=m:=by
  have hi:i < l.length:=by
    apply Classical.byContradiction
    intro hn
    rw [List.drop_eq_nil_of_le (by omega)] at h
    cases h
  rw [List.drop_eq_getElem_cons hi] at h
  exact ⟨hi,(List.cons.inj h).1,(List.cons.inj h).2⟩
theorem m_StrategyOthers (c:ContractT) (party:Int) (others:List Int) (hc:ContractT.Ok c) (hparty:InK .i64 party) (ho:LOk 8 (fun x:Int=>InK .i64 x) others):d_StrategyOthers c party others=some true:=by
  refine Ret.eq ?_
  have hol:=ho.lt (by omega)
  unfold d_StrategyOthers
  refine Ret.bindE s_head20 ?_
  refine Ret.bind (ok20_ret hc others) ?_
  intro b _
  refine Ret.ite (fun _ => ?_) (fun _=>Ret.some rfl)
  refine Ret.bind (follow_ret hc party others hol) ?_
  rintro ⟨L,e2⟩ hfol
  rcases hfol with ⟨h1,h2⟩ | ⟨h1,s0,a,hst,hB,A,hv0,ht,hfw,hl,hos⟩
  · simp only at h1 h2
    subst h2
    rw [show (((([]:List Int),e2):List Int×Int).2 == 0)=false from beq_eq_false_iff_ne.2 h1]
    exact Ret.bindE (v:=true) rfl (Ret.some rfl)
  simp only at h1 ht hfw hl
  subst h1
  have hp0:=A.p0
  refine Ret.ite (fun _ => ?_) (fun h=>by cases h)
  refine Ret.bindE (run_ret hc hst hv0 ht hl) ?_
  refine Ret.bindE (v:=false) ?_ ?_
  · have hw:IntKind.i64.wrap ((L.length:Int)+1)=(L.length:Int)+1:=wrap_i64 (by omega) (by omega)
    rw [show IntKind.i64.wrap ((((L,(0:Int)):List Int×Int).1.length:Int)+1)=(L.length:Int)+1 from hw];simp
  refine Ret.ite (fun h=>by cases h) (fun _ => ?_)
  have hget:∀ k,k≤L.length→idxI ((List.range (L.length+1)).map fun k=>stF c s0 (L.take k)) (k:Int)=some (stF c s0 (L.take k)):=fun k hk=>idxI_at (by rw [List.getElem?_map,List.getElem?_range (by omega)];rfl)
  have hoi:∀ (i:Nat) (hi:i < others.length),idxI others (i:Int)=some others[i]:=fun i hi=>idxI_at (List.getElem?_eq_getElem hi)
  refine Ret.bind (P:=fun o:Int ⊕ Unit=>∃ i:Nat,o=.inl (i:Int)∧i≤others.length∧At c party s0 others L L.length i)
    (Ret.forL (n:=L.length) (fun k x=>∃ i:Nat,x=(i:Int)∧i≤others.length∧At c party s0 others L k i) (by omega) ⟨0,rfl,Nat.zero_le _,[],others,rfl,fun x hx=>(by cases hx),fun h=>absurd rfl h,by rw [List.take_zero];exact hfw⟩ (fun k x hk hx => ?_) (fun x hx=>by obtain ⟨i,rfl,h⟩:=hx;exact ⟨i,rfl,h⟩)) ?_
  · obtain ⟨i,rfl,hil,sk,os,hdr,hsk,hsk2,hf⟩:=hx
    have hvk:=ht.vs hc hv0 k (by omega)
    obtain ⟨_,hb0,hb1,_⟩:=ht.step k hk
    have htl:(L.take k).length=k:=by rw [List.length_take];omega
    refine Ret.bind (P:=fun o:Int ⊕ Unit=>∃ i2:Nat,o=.inl (i2:Int)∧i2≤others.length∧At c party s0 others L (k+1) i2) ?_ (fun o ho=>by obtain ⟨i2,rfl,h⟩:=ho;exact Ret.some ⟨i2,rfl,h⟩)
    have hdo:Ret (Option.bind (idxI L (k:Int)) fun e1=>(bif decide (0≤e1) then (Option.bind (idxI ((List.range (L.length+1)).map fun k=>stF c s0 (L.take k)) (k:Int)) fun e2=>(Option.bind (d_Doer c e2 e1) fun r5=>some (r5 == party))) else some false)) (fun b=>b=(doerF c (stF c s0 (L.take k)) L[k] == party)):=by
      refine Ret.bindE (idxI_at (List.getElem?_eq_getElem hk)) ?_
      refine Ret.ite (fun h => ?_) (fun h=>Ret.some ?_)
      · refine Ret.bindE (hget k (by omega)) ?_
        refine Ret.bindE (Doer_F hc hvk (of_decide_eq_true h) hb1) ?_
        exact Ret.some rfl
      · have h:=of_decide_eq_false h
        rw [show L[k] = -1 by omega,doerF_tick,beq_eq_false_iff_ne.2 (by omega)]
    rcases hf.next hc hv0 hvk (by rw [htl];exact hk) with ⟨g1,g2,g3⟩ | ⟨sk2,o,os2,g1,g2,g3,g4,g5,g6⟩
    · obtain ⟨hk',hLk,htk⟩:=pre_snoc g2
      simp only [htl] at hLk htk
      refine Ret.bind hdo ?_
      rintro _ rfl
      rw [hLk,adv_doer g1,beq_self_eq_true]
      refine Ret.ite (fun _ => ?_) (fun h=>by cases h)
      have hnil:sk=[]:=Classical.byContradiction fun h=>g1 (hsk2 h)
      subst hnil
      exact Ret.some ⟨i,rfl,hil,[],os,hdr,fun x hx=>(by cases hx),fun h=>absurd rfl h,by rw [htk];exact g3⟩
    · obtain ⟨hk',hLk,htk⟩:=pre_snoc g5
      simp only [htl] at hLk htk
      refine Ret.bind hdo ?_
      rintro _ rfl
      rw [hLk,beq_eq_false_iff_ne.2 g4]
      refine Ret.ite (fun h=>by cases h) (fun _ => ?_)
      have hdr2:others.drop i=(sk++sk2)++o::os2:=by rw [hdr,g1,List.append_assoc]
      have hall:∀ x∈sk++sk2,doerF c (stF c s0 (L.take k)) x=party:=fun x hx=>by
        rcases List.mem_append.1 hx with h | h
        · exact hsk x h
        · exact g2 x h
      generalize sk++sk2=S at hdr2 hall
      refine Ret.bind (P:=fun q:Int ⊕ Unit=>∃ i2:Nat,q=.inl (i2:Int)∧∃ hi2:i2 < others.length,others.drop (i2+1)=os2) ?_ ?_
      · refine Ret.bind (P:=fun q:Int ⊕ Unit=>∃ i2:Nat,q=.inl (i2:Int)∧∃ hi2:i2 < others.length,others.drop (i2+1)=os2)
          (Ret.iter (fun x:Int=>∃ (i2:Nat) (S2:List Int),x=(i2:Int)∧others.drop i2=S2++o::os2∧∀ x∈S2,doerF c (stF c s0 (L.take k)) x=party) (fun x=>others.length - x.toNat) ⟨i,S,rfl,hdr2,hall⟩ (fun x hx => ?_)) (fun q hq => ?_)
        · obtain ⟨i2,S2,rfl,h3,h4⟩:=hx
          cases S2 with
          | nil=>
            obtain ⟨hi2,h5,h6⟩:=drop_get h3
            refine Ret.bindE (v:=false) ?_ ?_
            · rw [decide_eq_true (show (i2:Int) < (others.length:Int) by omega),cond_true,hoi i2 hi2,idxI_at (List.getElem?_eq_getElem hk)]
              simp only [Option.bind_some]
              rw [h5,hLk,beq_self_eq_true];rfl
            · exact Ret.ite (fun h=>by cases h) (fun _=>Ret.some ⟨i2,rfl,hi2,h6⟩)
          | cons y S3=>
            obtain ⟨hi2,h5,h6⟩:=drop_get h3
            have hy:=h4 y List.mem_cons_self
            have hyo:y≠o:=fun e=>by rw [e] at hy;exact g4 hy
            have hy1:y ≠ -1:=fun e=>by rw [e,doerF_tick] at hy;omega
            have hyb:=hos y (by rw [←h5];exact List.getElem_mem hi2)
            refine Ret.bindE (v:=true) ?_ ?_
            · rw [decide_eq_true (show (i2:Int) < (others.length:Int) by omega),cond_true,hoi i2 hi2,idxI_at (List.getElem?_eq_getElem hk)]
              simp only [Option.bind_some]
              rw [h5,hLk,beq_eq_false_iff_ne.2 hyo];rfl
            · refine Ret.ite (fun _ => ?_) (fun h=>by cases h)
              refine Ret.bindE (v:=false) ?_ ?_
              · rw [hoi i2 hi2,h5]
                simp only [Option.bind_some]
                rw [beq_eq_false_iff_ne.2 hy1,cond_false,hget k (by omega)]
                simp only [Option.bind_some]
                rw [Doer_F hc hvk (by omega) hyb.2,hy]
                simp
              · refine Ret.ite (fun h=>by cases h) (fun _ => ?_)
                rw [wrap_i64 (by omega) (by omega)]
                exact Ret.some ⟨⟨i2+1,S3,rfl,h6,fun x hx=>h4 x (List.mem_cons_of_mem _ hx)⟩,by omega⟩
        · obtain ⟨i2,rfl,h⟩:=hq
          exact Ret.some ⟨i2,rfl,h⟩
      · rintro _ ⟨i2,rfl,hi2,h6⟩
        simp only [Sum.elim_inl]
        refine Ret.ite (fun h => ?_) (fun _ => ?_)
        · have:(i2:Int)=(others.length:Int):=by simpa using h
          omega
        rw [wrap_i64 (by omega) (by omega)]
        exact Ret.some ⟨i2+1,rfl,hi2,[],os2,h6,fun x hx=>(by cases hx),fun h=>absurd rfl h,by rw [htk];exact g6⟩
  rintro _ ⟨i,rfl,hil,sk,os,hdr,hsk,_,hf⟩
  simp only [Sum.elim_inl]
  rw [List.take_length] at hsk hf
  have hvl:=ht.vsl hc hv0
  refine Ret.bindE (v:=stF c s0 L) (by have:=hget L.length (Nat.le_refl _);rw [List.take_length] at this;exact this) ?_
  refine Ret.bind (P:=fun o:Unit ⊕ Unit=>o=.inl ()) ?_ (fun o ho=>by subst ho;exact Ret.some rfl)
  refine Ret.bind (P:=fun o:Unit ⊕ Unit=>o=.inl ()) ?_ (fun o ho=>by subst ho;exact Ret.some rfl)
  have htail:=hf.tail (Nat.le_refl _)
  refine Ret.iter (fun x:Int=>∃ i2:Nat,x=(i2:Int)∧((stF c s0 L).day=c.days∨∀ y∈others.drop i2,doerF c (stF c s0 L) y=party)) (fun x=>others.length - x.toNat) ⟨i,rfl,?_⟩ (fun x hx => ?_)
  · rcases htail with h | h
    · exact .inl h
    · refine .inr fun y hy => ?_
      rw [hdr] at hy
      rcases List.mem_append.1 hy with hy | hy
      · exact hsk y hy
      · exact h y hy
  · obtain ⟨i2,rfl,h⟩:=hx
    refine Ret.bindE (v:=(decide ((i2:Int) < (others.length:Int))&&decide ((stF c s0 L).day < c.days))) (by cases decide ((i2:Int) < (others.length:Int))<;>rfl) ?_
    refine Ret.ite (fun hq => ?_) (fun _=>Ret.some rfl)
    simp only [Bool.and_eq_true,decide_eq_true_eq] at hq
    have hi2:i2 < others.length:=by omega
    have hdr3:=List.drop_eq_getElem_cons hi2
    have h:=h.resolve_left (by omega)
    rw [hdr3] at h
    have hy:=h _ List.mem_cons_self
    have hy1:others[i2] ≠ -1:=fun e=>by rw [e,doerF_tick] at hy;omega
    have hyb:=hos _ (List.getElem_mem hi2)
    refine Ret.bindE (v:=false) ?_ ?_
    · rw [hoi i2 hi2]
      simp only [Option.bind_some]
      rw [beq_eq_false_iff_ne.2 hy1,cond_false,Doer_F hc hvl (by omega) hyb.2,hy]
      simp
    · refine Ret.ite (fun h=>by cases h) (fun _ => ?_)
      rw [wrap_i64 (by omega) (by omega)]
      exact Ret.some ⟨⟨i2+1,rfl,.inr fun y hy2=>h y (List.mem_cons_of_mem _ hy2)⟩,by omega⟩
end Go.Proofs.YtjkljacdbljkpaaDoor
namespace Go.Proofs.YtjkljacdbljkpaaDoor
open Go.ChangeShapes Go.WideShapes Go.RowKit
set_option maxRecDepth 100000
abbrev laidL : List (String × DataW Unit) := [("math/bits.deBruijn32tab", Rows.laid_math_bits_deBruijn32tab), ("math/bits.deBruijn64tab", Rows.laid_math_bits_deBruijn64tab), ("internal/strconv.uint64pow10", Rows.laid_internal_strconv_uint64pow10)]
theorem pow_data:(laidL.filter fun x=>x.1 == powName)=[(powName,Lib.tabData .u64 Lib.pow10Tab)]:=by kernel_rfl
theorem tabs_of_laid {W:World} (h:laidMet Tryd.prog laidL W):C0.tabs.p W∧C0.tabs.n≤W.heap.size:=by
  have h1:=h.filter (fun x=>x.1 == powName)
  rw [pow_data] at h1
  have h2:C0.tabs.p W:=Lib.tabIs_of_head (g:=0) (t:=((Tryd.prog.globals[0]?).map (·.type)).getD 0) (e:=134) (n:=20)
    (by kernel_rfl) (by kernel_rfl) (by kernel_rfl) (by kernel_rfl) (by kernel_rfl) (by kernel_rfl) h1
  exact ⟨h2,tabs0_size h2⟩
def cellsD:DataW Unit→Array Value
  | .agg ds=>(ds.map fun d=>match d with | .lit (.int k n)=>Value.int k n | _=>Value.bool false).toArray
  | _ => #[]
def setTab (w:World) (g:Nat) (d:DataW Unit):World:={w with heap:=w.heap.modify g fun | .cells _ t f=>.cells (cellsD d) t f | o=>o}
noncomputable def laidWorld (os:Os):World:=
  setTab (setTab (setTab (World.holding Tryd.prog os ⟨#[],#[],[]⟩) 1 Rows.laid_math_bits_deBruijn32tab) 2 Rows.laid_math_bits_deBruijn64tab) 0 Rows.laid_internal_strconv_uint64pow10
theorem laidWorld_met (os:Os) (args:Array Value):laidMet Tryd.prog laidL ((laidWorld os).forCall (fun _ _=>0) ⟨#[],args,[]⟩).memory:=
  laidMet_of_run3 8 (by kernel_rfl) (by kernel_rfl) (by kernel_rfl)
end Go.Proofs.YtjkljacdbljkpaaDoor
namespace Go.Proofs.YtjkljacdbljkpaaDoor.LStrategyOthers
open Go.ChangeShapes Go.WideShapes Go.ChangeAt Go.RowKit
set_option linter.unusedVariables false
set_option maxRecDepth 100000
theorem all (ivs:List IV) (h:HasArgs [(true,ContractT.tys),(false,[.int .i64]),(false,[.slice 8 [.int .i64]])] ivs):APure C0 146 ivs (.bool true):=by
  match ivs,h with
  | [x0,x1,x2],⟨a0,a1,a2,_⟩=>
    obtain ⟨row0,rfl,r0⟩:=a0
    obtain ⟨c,rfl,ok_c⟩:=ContractT.opn r0
    obtain ⟨c1,_,e1,k1,n1⟩:=hcs_cons a1
    cases e1
    obtain ⟨party,rfl,ok_party⟩:=hasC_int k1
    obtain ⟨c2,_,e2,k2,n2⟩:=hcs_cons a2
    cases e2
    obtain ⟨others,rfl,ok_others⟩:=hasC_slice open_i64 k2
    exact t_StrategyOthers c party others true (m_StrategyOthers c party others ok_c ok_party ok_others)
theorem own:ownKnob Tryd.prog.godebug=none:=by kernel_rfl
theorem laid:laidOutB Tryd.prog=true:=by kernel_rfl
theorem args:mapO (argC Tryd.prog) Tryd.f4.params.toList=some [(true,ContractT.tys),(false,[.int .i64]),(false,[.slice 8 [.int .i64]])]:=by kernel_rfl
theorem lifted (os:Os) (started:os.Started) (H:Type) (enc:TypeId×Value→H) :
    ReturnsInHanded {} Tryd.checked os 4 .any (fun w args=>(Rows.strategyOthersSpec.pre enc Tryd.prog Tryd.f4 [] false w args∧laidMet Tryd.prog laidL w)∧sizedMet enc Tryd.prog Tryd.f4 (OpenSpec.ofChange Rows.strategyOthersSpec) false w args) (Rows.strategyOthersSpec.post enc Tryd.prog Tryd.f4 false true false false):=by
  refine returnsInHanded_of_change_and (C:=Tryd.checked) (X:=fun w _=>laidMet Tryd.prog laidL w) (fun _ _ _ hh h=>h.of_heap hh) own started (by kernel_rfl) Tryd.func4
    (ChangeSpec.witness_at (enc:=enc) (C:=Tryd.checked) (os:=os) (X:=fun w _=>laidMet Tryd.prog laidL w) false (laidWorld os) #[.agg #[.int .i64 0,.slice none 0 0,.slice none 0 0,.slice none 0 0,.slice none 0 0,.int .i64 0,.slice none 0 0],.int .i64 0,.slice none 0 0] 8 rfl (by kernel_rfl) (by kernel_rfl) (by kernel_rfl) (by kernel_rfl) (by kernel_rfl) (laidWorld_met os _)) ?_
  intro W base args ds gs before hval hW _ hwt hL _
  exact law_contract (Cx:=C0) (tb:=4) 146 rfl LStrategyOthers.args rfl (by kernel_rfl) rfl
    (fun ds h=>by match ds,h with | [_,_,_],_=>rfl) LStrategyOthers.laid (by kernel_rfl) LStrategyOthers.all W (tabs_of_laid hL) base args ds gs before hval hW hwt
theorem said:Rows.StrategyOthersSaid:=
  OpenClaim.holds_of_wide 4 Tryd.f4 rfl rfl rfl rfl rfl rfl rfl ⟨rfl,rfl,rfl,rfl,rfl⟩ rfl rfl rfl rfl rfl (by kernel_rfl) Tryd.func4 (by kernel_rfl)
    (of_decide_eq_true (by kernel_rfl)) (by unfold Func.isWrapper;first | (rw [if_pos (by decide +kernel)];kernel_rfl) | (rw [if_neg (by decide +kernel)];exact ⟨rfl,rfl⟩))
    (fun os started H enc _=>lifted os started H enc)
theorem holds:Rows.StrategyOthersCardSaid:=
  Claim7.holds_tied_plain_at .later [] [.data, .data, .data] true (true, "94758beab3a224d1d04748c404db287718d4095c7f830e28774aac0f29ec07c5") false
    said (fun _ h=>by cases h) (by kernel_rfl) (fun _ h=>by cases h) strategyOthers_row_tie rfl ⟨rfl,rfl⟩ (by kernel_rfl) rfl
    (fun f fn hf hfn=>by
      obtain rfl : f = 4 := Option.some.inj ((show Tryd.prog.funcNamed "estoppel/estoppellaw20.StrategyOthers" = some 4 by kernel_rfl).symm.trans hf) |>.symm
      obtain rfl:fn=Tryd.f4:=(Option.some.inj (Tryd.func4.symm.trans hfn)).symm
      refine ⟨by kernel_rfl,fun j t ht => ?_⟩
      have hall:(Tryd.f4.params.toList.all fun t => !(Tryd.prog.wantsStandIn t))=true:=by kernel_rfl
      have:=List.all_eq_true.1 hall t (by rw [Array.mem_toList_iff];exact Array.mem_of_getElem? ht)
      have h2:Tryd.prog.wantsStandIn t=false:=by simpa using this
      exact h2)
    (by kernel_rfl)
end Go.Proofs.YtjkljacdbljkpaaDoor.LStrategyOthers
namespace Go.Proofs.YtjkljacdbljkpaaDoor
theorem strategyOthers_holds:Rows.StrategyOthersCardSaid:=LStrategyOthers.holds
end Go.Proofs.YtjkljacdbljkpaaDoor
