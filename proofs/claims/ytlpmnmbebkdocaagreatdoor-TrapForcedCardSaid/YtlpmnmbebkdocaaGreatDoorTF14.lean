/-
  'TrapForced': for every input the call returns true, and each argument reads afterwards as it read before.
  The tables of the library that the rows list: from the row's condition to what the contracts ask; the witness.
  The law 'TrapForced'.
  What the laws of layer 21 ask of a list of findings.
  The fixed example of the laws of layer 21: 'head' returns true. Printed by mkheads.py.
  One of the calls of the fixed example of the laws of layer 21. Printed by mkheads.py.
-/
import Derived.Test.YtlpmnmbebkdocaaGreatDoorTF13
import Derived.Test.YtlpmnmbebkdocaaGreatDoorRows
import Derived.Test.YtlpmnmbebkdocaaGreatDoorTF11
import Derived.LaidLaws
import Derived.LaidSub
import Derived.Deep.DeepLaidRun
import Derived.Lib.LaidTab
import Derived.JoinedOf
import Derived.Test.YtlpmnmbebkdocaaGreatDoorTF06
import Derived.Test.YtlpmnmbebkdocaaGreatDoorTie
import Derived.Test.YtlpmnmbebkdocaaGreatDoorCards
import Derived.SevenTiedAt
namespace Go.Proofs.YtlpmnmbebkdocaaGreatDoor
set_option linter.unusedSimpArgs false
set_option linter.unusedVariables false
set_option maxRecDepth 100000
theorem zjy:qG ({Zao:=1,Zaf:=[0],Zaw:=[],Zak:=[({kind:=1,Zap:=0,give:=0,to:=(-1),unit:=(-1),lot:=({num:=0,den:=1}:Ratio)}:Zar)],Zag:=[({kind:=1,Zap:=0,act:=0,need:=1,start:=[],after:=2,Zay:=0,ZaE:=false,final:=true,pause:=(-1),ZaB:=(-1),value:=({num:=0,den:=1}:Ratio),unit:=(-1),to:=(-1),Zaz:=false}:Zam),({kind:=2,Zap:=0,act:=0,need:=1,start:=[],after:=1,Zay:=0,ZaE:=false,final:=true,pause:=(-1),ZaB:=(-1),value:=({num:=0,den:=1}:Ratio),unit:=(-1),to:=(-1),Zaz:=false}:Zam)],Zat:=5,off:=[]}:Zab) ({kind:=4,Zaa:=(-1),clause:=0,other:=1,ZaD:=[]}:Zai)=some false:=vD _ _ _ (by kernel_rfl)
theorem zjz:qG ({Zao:=1,Zaf:=[0],Zaw:=[],Zak:=[({kind:=1,Zap:=0,give:=0,to:=(-1),unit:=(-1),lot:=({num:=0,den:=1}:Ratio)}:Zar)],Zag:=[({kind:=1,Zap:=0,act:=0,need:=1,start:=[],after:=2,Zay:=0,ZaE:=false,final:=true,pause:=(-1),ZaB:=(-1),value:=({num:=0,den:=1}:Ratio),unit:=(-1),to:=(-1),Zaz:=false}:Zam),({kind:=2,Zap:=0,act:=0,need:=1,start:=[],after:=3,Zay:=0,ZaE:=false,final:=true,pause:=(-1),ZaB:=(-1),value:=({num:=0,den:=1}:Ratio),unit:=(-1),to:=(-1),Zaz:=false}:Zam)],Zat:=5,off:=[]}:Zab) ({kind:=2,Zaa:=(-1),clause:=1,other:=(-1),ZaD:=[]}:Zai)=some false:=vD _ _ _ (by kernel_rfl)
noncomputable def e_head21:Option (Bool):=
  (Option.bind (xW 3) fun r1=>(Option.bind (xW 1) fun r2=>(Option.bind (xW 3) fun r3=>(Option.bind (some (([({kind:=1,Zaa:=0,clause:=(-1),other:=(-1),ZaD:=[(-1),(-1)]}:Zai),({kind:=4,Zaa:=(-1),clause:=0,other:=1,ZaD:=[]}:Zai)],0):List Zai×Int)) fun r4=>(Option.bind (some (([],0):List Zai×Int)) fun r5=>(Option.bind (some (([({kind:=2,Zaa:=(-1),clause:=1,other:=(-1),ZaD:=[]}:Zai)],0):List Zai×Int)) fun r6=>(Option.bind (bif (r4.2 == 0) then (Option.bind (vt r4.1 ([({kind:=1,Zaa:=0,clause:=(-1),other:=(-1),ZaD:=[(-1),(-1)]}:Zai),({kind:=4,Zaa:=(-1),clause:=0,other:=1,ZaD:=[]}:Zai)])) fun r7=>(bif r7 then (bif (r5.2 == 0) then (bif ((r5.1.length:Int) == 0) then (bif (r6.2 == 0) then (Option.bind (vt r6.1 ([({kind:=2,Zaa:=(-1),clause:=1,other:=(-1),ZaD:=[]}:Zai)])) fun r8=>some r8) else some false) else some false) else some false) else some false)) else some false) fun v1=>(Option.bind (bif v1 then (Option.bind (some true) fun r9=>(bif r9 then (Option.bind (some true) fun r10=>(bif r10 then (Option.bind (some true) fun r11=>(bif r11 then (Option.bind (some false) fun r12=>(bif r12 then some false else (Option.bind (some false) fun r13=>(bif r13 then some false else (Option.bind (some false) fun r14=>some (!r14)))))) else some false)) else some false)) else some false)) else some false) fun v2=>some v2))))))))
theorem zgh:km=some true:=by
  have e:km=e_head21:=by
    unfold km e_head21
    rw [zjr,zjs,zjt,zju,zjv,zjw,zjx,zjy,zjz]
  exact e.trans (show e_head21=some true by kernel_rfl)
end Go.Proofs.YtlpmnmbebkdocaaGreatDoor
namespace Go.Proofs.YtlpmnmbebkdocaaGreatDoor
open Go.RowKit
set_option linter.unusedSimpArgs false
set_option linter.unusedVariables false
set_option maxRecDepth 100000
section
def kx (k p cl:Int) (f:Zai):Bool:=f.kind == k&&(f.Zaa == p&&f.clause == cl)
theorem zkM (l:List Zai) (hl:l.length < 4611686018427387904) (k p cl:Int):JJ l k p cl=some (l.any (kx k p cl)):=by
  unfold JJ
  rw [qX (npA l (kx k p cl)) (fun _=>()) (by omega) (fun j hj=>by
    rw [zq (List.getElem?_eq_getElem hj)]
    simp only [ZaI,ZD hj,kx]
    cases (l[j].kind == k)<;>cases (l[j].Zaa == p)<;>cases (l[j].clause == cl)<;>rfl)]
  have hf:=kW l (kx k p cl)
  simp only [ZaI]
  cases hq:(List.range l.length).find? (fun j=>!(npA l (kx k p cl) j)) with
  | none=>rw [hq] at hf;rw [←hf];rfl
  | some j=>rw [hq] at hf;rw [←hf];simp
theorem zeL {α:Type} {l:List α} {p:α→Bool} {b:Bool} (h1:b=true→∃ x∈l,p x=true) (h2:∀ x∈l,p x=true→b=true):l.any p=b:=by
  cases b with
  | true=>exact List.any_eq_true.2 (h1 rfl)
  | false=>
    rw [Bool.eq_false_iff]
    intro h
    obtain ⟨x,hx,hp⟩:=List.any_eq_true.1 h
    cases h2 x hx hp
section
variable {c:Zab} {s0:Zad} {L:List Zad} {l:List Zai}
theorem Yw {n:Nat} {f:Zai}:f∈xR L n↔∃ i,i < n∧wb L i=true∧f=xc i:=by
  simp only [xR,List.mem_map,List.mem_filter,List.mem_range]
  constructor
  · rintro ⟨i,⟨h1,h2⟩,rfl⟩;exact ⟨i,h1,h2,rfl⟩
  · rintro ⟨i,h1,h2,rfl⟩;exact ⟨i,⟨h1,h2⟩,rfl⟩
theorem zeM {n:Nat} {f:Zai}:f∈wc c L n↔∃ i,i < n∧wb L i=false∧unB c L i=true∧f=wT i:=by
  simp only [wc,List.mem_map,List.mem_filter,List.mem_range,Bool.and_eq_true,Bool.not_eq_true']
  constructor
  · rintro ⟨i,⟨h1,h2,h3⟩,rfl⟩;exact ⟨i,h1,h2,h3,rfl⟩
  · rintro ⟨i,h1,h2,h3,rfl⟩;exact ⟨i,⟨h1,h2,h3⟩,rfl⟩
theorem FindOk.cases (h:FindOk c s0 L l) {f:Zai} (hf:f∈l) :
    (f.kind=1∧f.clause = -1∧f.other = -1∧∃ p:Nat,(p:Int) < c.Zao∧f.Zaa=(p:Int)∧qK c (p:Int) (atO s0)=false∧PlayT c (p:Int) s0 f.ZaD) ∨
    (∃ i,i < c.Zag.length∧wb L i=true∧f=xc i)∨(∃ i,i < c.Zag.length∧wb L i=false∧unB c L i=true∧f=wT i)∨(∃ a b,ClF c s0 L a b f):=by
  obtain ⟨F,C,rfl,hF,hC⟩:=h
  simp only [List.mem_append] at hf
  rcases hf with ((hf | hf) | hf) | hf
  · obtain ⟨h1,h2,h3,p,h4,h5⟩:=hF.el f hf
    exact .inl ⟨h1,h2,h3,p,by omega,h5⟩
  · exact .inr (.inl (Yw.1 hf))
  · exact .inr (.inr (.inl (zeM.1 hf)))
  · obtain ⟨a,b,_,h1⟩:=hC.el f hf
    exact .inr (.inr (.inr ⟨a,b,h1⟩))
theorem FindOk.forced (h:FindOk c s0 L l) {p:Nat} (hp:(p:Int) < c.Zao):l.any (kx 1 (p:Int) (-1))=!qK c (p:Int) (atO s0):=by
  refine zeL (fun hs => ?_) (fun f hf hh => ?_)
  · obtain ⟨F,C,rfl,hF,hC⟩:=h
    obtain ⟨f,h1,h2⟩:=hF.has p (by omega) (by simpa using hs)
    refine ⟨f,by simp [h1],?_⟩
    obtain ⟨g1,g2,g3,_⟩:=hF.el f h1
    simp [kx,g1,g2,h2]
  · simp only [kx,Bool.and_eq_true,beq_iff_eq] at hh
    rcases h.cases hf with ⟨_,_,_,q,_,h5,h6,_⟩ | ⟨i,_,_,rfl⟩ | ⟨i,_,_,_,rfl⟩ | ⟨a,b,h1⟩
    · rw [h5] at hh
      have:q=p:=by omega
      subst this
      rw [h6];rfl
    · exact absurd hh.1 (by first | decide | simp [xc,wT])
    · exact absurd hh.1 (by first | decide | simp [xc,wT])
    · rw [h1.kind] at hh;exact absurd hh.1 (by first | decide | simp [xc,wT])
theorem FindOk.dead (h:FindOk c s0 L l) {i:Nat} (hi:i < c.Zag.length):l.any (kx 2 (-1) (i:Int))=wb L i:=by
  refine zeL (fun hs => ?_) (fun f hf hh => ?_)
  · obtain ⟨F,C,rfl,hF,hC⟩:=h
    have:xc i∈xR L c.Zag.length:=Yw.2 ⟨i,hi,hs,rfl⟩
    exact ⟨xc i,by simp [this],by simp [kx,xc]⟩
  · simp only [kx,Bool.and_eq_true,beq_iff_eq] at hh
    rcases h.cases hf with ⟨h1,_⟩ | ⟨j,_,h2,rfl⟩ | ⟨j,_,_,_,rfl⟩ | ⟨a,b,h1⟩
    · rw [h1] at hh;exact absurd hh.1 (by first | decide | simp [xc,wT])
    · have:j=i:=by have:=hh.2.2;simp only [xc] at this;omega
      subst this;exact h2
    · exact absurd hh.1 (by first | decide | simp [xc,wT])
    · rw [h1.kind] at hh;exact absurd hh.1 (by first | decide | simp [xc,wT])
theorem FindOk.len (hc:c.Ok) (hv:VS c s0) (h:FindOk c s0 L l):l.length < 1000000:=by
  have sm:=qq (hc.off.lt (by omega:0 < 8)) hv.cv
  have s1:=sm.Zao
  have s3:=sm.Zag
  obtain ⟨F,C,rfl,hF,hC⟩:=h
  have l1:=Jj L c.Zag.length
  have l2:=Jk c L c.Zag.length
  have h1:=hF.len
  have h2:=hC.len
  have hbig:c.Zag.length*c.Zag.length≤400*400:=Nat.mul_le_mul (by omega) (by omega)
  simp only [List.length_append]
  omega
end
end
theorem zaP (c:Zab) (Zaa:Int) (hc:Zab.Ok c) (hparty:InK .u8 Zaa):kn c Zaa=some true:=by
  refine Ret.eq ?_
  have hpu:0≤Zaa∧Zaa≤255:=hparty
  unfold kn
  refine Ret.bindE zgh ?_
  refine Ret.bind (P:=fun b:Bool=>b=true∨(b=false∧1≤c.Zao)) ?_ ?_
  · refine Ret.bindE (zje hc) ?_
    refine Ret.ite (fun _=>Ret.some ?_) (fun _=>Ret.some (.inl rfl))
    by_cases h:c.Zao < 1
    · exact .inl (decide_eq_true h)
    · exact .inr ⟨decide_eq_false h,by omega⟩
  rintro b (rfl | ⟨rfl,hp1⟩)
  · exact Ret.ite (fun _=>Ret.some rfl) (fun h=>by cases h)
  refine Ret.ite (fun h=>by cases h) (fun _ => ?_)
  refine Ret.bind (zgb hc) ?_
  rintro ⟨l,e⟩ hF
  rcases hF with ⟨he,hl⟩ | ⟨he,s0,L,hst,hvs,hr,h,hB,hF⟩
  · simp only at he hl
    subst hl
    rw [show ((([],e):List Zai×Int).2 == 0)=false from beq_eq_false_iff_ne.2 he]
    exact Ret.some rfl
  simp only at he hF
  subst he
  refine Ret.ite (fun _ => ?_) (fun h=>by cases h)
  rw [z7 (by omega) (by omega)]
  refine Ret.bindE (v:=Zaa.tmod c.Zao) (by unfold yx;rw [if_neg (by omega)]) ?_
  have h3:0≤Zaa.tmod c.Zao:=Int.tmod_nonneg _ hpu.1
  have h4:Zaa.tmod c.Zao < c.Zao:=Int.tmod_lt_of_pos _ (by omega)
  generalize Zaa.tmod c.Zao=p at h3 h4
  obtain ⟨q,rfl⟩:∃ q:Nat,p=(q:Int):=⟨p.toNat,by omega⟩
  obtain ⟨a,hb,A⟩:=hB q h4
  refine Ret.bindE hb ?_
  refine Ret.bindE (zf4 hc A) ?_
  have hpos:=A.pos
  have hn:a.Zau.length≤1500:=A.F.inv.len
  refine Ret.bindE (v:=false) (by
    show (bif true then some (((a.Zau.map (qK c (q:Int))).length:Int) == 0) else some true)=_
    rw [List.length_map,cond_true,beq_eq_false_iff_ne.2 (by omega)]) ?_
  refine Ret.ite (fun h=>by cases h) (fun _ => ?_)
  refine Ret.bindE (v:=true) ?_ (Ret.some rfl)
  have hfst:=A.F.first
  rw [List.getElem?_eq_getElem hpos] at hfst
  have hp0:a.Zau[0]=atO s0:=Option.some.inj hfst
  have hs:=zhB A hpos
  rw [hp0] at hs
  rw [cond_true,show ze (a.Zau.map (qK c (q:Int))) 0=some (qK c (q:Int) (atO s0)) from hs]
  simp only [ZaI,zkM l (by have:=hF.len hc hvs;omega),hF.forced h4]
  cases qK c (q:Int) (atO s0)<;>rfl
end Go.Proofs.YtlpmnmbebkdocaaGreatDoor
namespace Go.Proofs.YtlpmnmbebkdocaaGreatDoor
open Go.ChangeShapes Go.WideShapes Go.RowKit
set_option maxRecDepth 100000
abbrev JZ : List (String × DataW Unit) := [("math/bits.deBruijn32tab", Rows.laid_math_bits_deBruijn32tab), ("math/bits.deBruijn64tab", Rows.laid_math_bits_deBruijn64tab), ("internal/strconv.uint64pow10", Rows.laid_internal_strconv_uint64pow10)]
theorem zgi:(JZ.filter fun x=>x.1 == xN)=[(xN,Lib.tabData .u64 Lib.pow10Tab)]:=by kernel_rfl
theorem zaQ {W:World} (h:laidMet Tryz.prog JZ W):C0.tabs.p W∧C0.tabs.n≤W.heap.size:=by
  have h1:=h.filter (fun x=>x.1 == xN)
  rw [zgi] at h1
  have h2:C0.tabs.p W:=Lib.tabIs_of_head (g:=0) (t:=((Tryz.prog.globals[0]?).map (·.type)).getD 0) (e:=193) (n:=20)
    (by kernel_rfl) (by kernel_rfl) (by kernel_rfl) (by kernel_rfl) (by kernel_rfl) (by kernel_rfl) h1
  exact ⟨h2,zcq h2⟩
def zjA:DataW Unit→Array Value
  | .agg ds=>(ds.map fun d=>match d with | .lit (.int k n)=>Value.int k n | _=>Value.bool false).toArray
  | _ => #[]
def zaR (w:World) (g:Nat) (d:DataW Unit):World:={w with heap:=w.heap.modify g fun | .cells _ t f=>.cells (zjA d) t f | o=>o}
noncomputable def Yx (os:Os):World:=
  zaR (zaR (zaR (World.holding Tryz.prog os ⟨#[],#[],[]⟩) 1 Rows.laid_math_bits_deBruijn32tab) 2 Rows.laid_math_bits_deBruijn64tab) 0 Rows.laid_internal_strconv_uint64pow10
theorem YK (os:Os) (args:Array Value):laidMet Tryz.prog JZ ((Yx os).forCall (fun _ _=>0) ⟨#[],args,[]⟩).memory:=
  laidMet_of_run3 8 (by kernel_rfl) (by kernel_rfl) (by kernel_rfl)
end Go.Proofs.YtlpmnmbebkdocaaGreatDoor
namespace Go.Proofs.YtlpmnmbebkdocaaGreatDoor.LTrapForced
open Go.ChangeShapes Go.WideShapes Go.ChangeAt Go.RowKit
set_option linter.unusedVariables false
set_option maxRecDepth 100000
theorem all (ivs:List IV) (h:JF [(true,Zab.tys),(false,[.int .u8])] ivs):APure C0 311 ivs (.bool true):=by
  match ivs,h with
  | [x0,x1],⟨a0,a1,_⟩=>
    obtain ⟨row0,rfl,r0⟩:=a0
    obtain ⟨c,rfl,ok_c⟩:=Zab.opn r0
    obtain ⟨c1,_,e1,k1,n1⟩:=zf a1
    cases e1
    obtain ⟨Zaa,rfl,ok_party⟩:=zl k1
    exact zas c Zaa true (zaP c Zaa ok_c ok_party)
theorem own:ownKnob Tryz.prog.godebug=none:=by kernel_rfl
theorem laid:laidOutB Tryz.prog=true:=by kernel_rfl
theorem args:mapO (K8 Tryz.prog) Tryz.f5.params.toList=some [(true,Zab.tys),(false,[.int .u8])]:=by kernel_rfl
theorem zjB (os:Os) (started:os.Started) (H:Type) (enc:TypeId×Value→H) :
    ReturnsInHanded {} Tryz.checked os 5 .any (fun w args=>(Rows.trapForcedSpec.pre enc Tryz.prog Tryz.f5 [] false w args∧laidMet Tryz.prog JZ w)∧sizedMet enc Tryz.prog Tryz.f5 (OpenSpec.ofChange Rows.trapForcedSpec) false w args) (Rows.trapForcedSpec.post enc Tryz.prog Tryz.f5 false true false false):=by
  refine returnsInHanded_of_change_and (C:=Tryz.checked) (X:=fun w _=>laidMet Tryz.prog JZ w) (fun _ _ _ hh h=>h.of_heap hh) own started (by kernel_rfl) Tryz.func5
    (ChangeSpec.witness_at (enc:=enc) (C:=Tryz.checked) (os:=os) (X:=fun w _=>laidMet Tryz.prog JZ w) false (Yx os) #[.agg #[.int .i64 0,.slice none 0 0,.slice none 0 0,.slice none 0 0,.slice none 0 0,.int .i64 0,.slice none 0 0],.int .u8 0] 8 rfl (by kernel_rfl) (by kernel_rfl) (by kernel_rfl) (by kernel_rfl) (by kernel_rfl) (YK os _)) ?_
  intro W base args ds gs before hval hW _ hwt hL _
  exact K9 (Cx:=C0) (tb:=4) 311 rfl LTrapForced.args rfl (by kernel_rfl) rfl
    (fun ds h=>by match ds,h with | [_,_],_=>rfl) LTrapForced.laid (by kernel_rfl) LTrapForced.all W (zaQ hL) base args ds gs before hval hW hwt
theorem zl8:Rows.TrapForcedSaid:=
  OpenClaim.holds_of_wide 5 Tryz.f5 rfl rfl rfl rfl rfl rfl rfl ⟨rfl,rfl,rfl,rfl,rfl⟩ rfl rfl rfl rfl rfl (by kernel_rfl) Tryz.func5 (by kernel_rfl)
    (of_decide_eq_true (by kernel_rfl)) (by unfold Func.isWrapper;first | (rw [if_pos (by decide +kernel)];kernel_rfl) | (rw [if_neg (by decide +kernel)];exact ⟨rfl,rfl⟩))
    (fun os started H enc _=>zjB os started H enc)
theorem holds:Rows.TrapForcedCardSaid:=
  Claim7.holds_tied_plain_at .later [] [.data, .data, .data] true (true, "7bc6b4a7d0776bec5163c6b97d3bd90ad221a013c50c4dd2d862c7360c2f6317") false
    zl8 (fun _ h=>by cases h) (by kernel_rfl) (fun _ h=>by cases h) trapForced_row_tie rfl ⟨rfl,rfl⟩ (by kernel_rfl) rfl
    (fun f fn hf hfn=>by
      obtain rfl : f = 5 := Option.some.inj ((show Tryz.prog.funcNamed "estoppel/estoppellaw21.TrapForced" = some 5 by kernel_rfl).symm.trans hf) |>.symm
      obtain rfl:fn=Tryz.f5:=(Option.some.inj (Tryz.func5.symm.trans hfn)).symm
      refine ⟨by kernel_rfl,fun j t ht => ?_⟩
      have hall:(Tryz.f5.params.toList.all fun t=>!(Tryz.prog.wantsStandIn t))=true:=by kernel_rfl
      have:=List.all_eq_true.1 hall t (by rw [Array.mem_toList_iff];exact Array.mem_of_getElem? ht)
      have h2:Tryz.prog.wantsStandIn t=false:=by simpa using this
      exact h2)
    (by kernel_rfl)
end Go.Proofs.YtlpmnmbebkdocaaGreatDoor.LTrapForced
namespace Go.Proofs.YtlpmnmbebkdocaaGreatDoor
theorem trapForced_holds:Rows.TrapForcedCardSaid:=LTrapForced.holds
end Go.Proofs.YtlpmnmbebkdocaaGreatDoor
