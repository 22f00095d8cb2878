/-
  The abstract machine: calls in regions that draw their order, and such regions as a demand that can be worked off.
  The abstract machine: code as a demand that simp can work off: what is decided is run; what is not stands still.
  The abstract machine: counted loops, and small facts about numbers.
  The abstract machine: loops whose states are told by the slots that turn; lists.
  Denotations: small facts that printed proofs use.
  Denotations: rows of cells; what the printed proofs use.
  The abstract machine: a contract over a small heap serves in every heap that holds such objects under other names.
  Calls by contracts over small heaps.
  Regions run by the kernel: what is not decided by reckoning (tests, lengths, elements, answers of calls) is told ahead ('Orc'), and what is told is asked for as a list of facts.
-/
import Derived.Test.YtmoedieenlaegaaGreatDoorWF03
namespace Go.Proofs.YtmoedieenlaegaaGreatDoor
open Go.RowKit
set_option linter.unusedSimpArgs false
set_option linter.unusedVariables false
section
theorem jK {α β:Type} {f f':α→Option β}:∀ {l:List α},(∀ x∈l,f' x=f x)→mapO f' l=mapO f l
  | [],_=>rfl
  | a::r,h=>by
    simp only [mapO]
    rw [h a List.mem_cons_self,jK (l:=r) fun x hx=>h x (List.mem_cons_of_mem _ hx)]
def jm (h:Nat→Option AObj):Nat→AV→List Nat
  | 0,_=>[]
  | d+1,x=>match x with
    | .agg cs=>cs.flatMap (jm h d)
    | .tuple cs=>cs.flatMap (jm h d)
    | .mslice id off len=>id::match h id with
      | some (.rows _ rows)=>((rows.drop off).take len).flatMap fun row=>row.flatMap (jm h d)
      | _=>[]
    | _=>[]
theorem JE {h h':Nat→Option AObj}:∀ (d:Nat) (x:AV),(∀ i∈jm h d x,h' i=h i)→zB h' d x=zB h d x:=by
  intro d
  induction d with
  | zero=>intro x _;rfl
  | succ d ih=>
    intro x hi
    cases x with
    | agg cs=>
      simp only [zB]
      rw [jK fun c hc=>ih c fun i hm=>hi i (by simp only [jm,List.mem_flatMap];exact ⟨c,hc,hm⟩)]
    | tuple cs=>
      simp only [zB]
      rw [jK fun c hc=>ih c fun i hm=>hi i (by simp only [jm,List.mem_flatMap];exact ⟨c,hc,hm⟩)]
    | mslice id off len=>
      simp only [zB]
      rw [hi id (by simp [jm])]
      split
      · rename_i sz rows ho
        split
        · rw [jK fun row hrow=>jK fun c hc=>ih c fun i hm=>hi i (by
            simp only [jm,ho,List.mem_cons,List.mem_flatMap]
            exact .inr ⟨row,hrow,c,hc,hm⟩)]
        · rfl
      · rfl
    | _=>rfl
theorem zbu {h:Nat→Option AObj}:∀ (d:Nat) (x:AV),jZ d x=true→jm h d x=[]:=by
  intro d
  induction d with
  | zero=>intro x _;rfl
  | succ d ih=>
    intro x hx
    cases x with
    | agg cs=>
      simp only [jZ,List.all_eq_true] at hx
      simp only [jm,List.flatMap_eq_nil_iff]
      exact fun c hc=>ih c (hx c hc)
    | tuple cs=>
      simp only [jZ,List.all_eq_true] at hx
      simp only [jm,List.flatMap_eq_nil_iff]
      exact fun c hc=>ih c (hx c hc)
    | mslice id off len=>simp [jZ] at hx
    | _=>rfl
section
variable {C:Ctx} {nt:Fr} {f:Nat} {args:List AV} {h0:Nat→Option AObj} {d:Nat} {ivs:List IV} {r:IV}
theorem LCall.pure (hp:APure C f ivs r) (hm:(args.all (jZ d))=true) (hx:mapO (zB h0 d) args=some ivs):LCall C f args h0 [] (.imm r) [] []:=by
  refine ⟨hp.1,fun g h N w vs _ _ R hv => ?_⟩
  rw [ZO]
  have hx':mapO (zB h d) args=some ivs:=by
    rw [jK fun x hxm=>JE (h:=h0) d x fun i hi => ?_]
    · exact hx
    · rw [zbu d x (List.all_eq_true.1 hm x hxm)] at hi;cases hi
  obtain ⟨h1,h2⟩:=z7 hx'
  refine (hp.2 g.Z w vs R.zlt ⟨R.fix.1,R.fix.2.1⟩ ⟨by rw [h1];exact hv.1,fun j c u hc hu => ?_⟩).mono ?_
  · have hlt:j < args.length:=by rw [←h1];exact (List.getElem?_eq_some_iff.1 hc).1
    obtain ⟨c',h3,h4⟩:=h2 j args[j] (by simp)
    rw [hc] at h3
    cases h3
    exact VF d _ _ _ (List.all_eq_true.1 hm _ (List.getElem_mem hlt)) h4 (hv.2 j args[j] u (by simp) hu)
  · rintro e w' ⟨v,Z',rfl,hr,hZ,hlt,hB⟩
    exact ⟨v,⟨g.ρ,Z'⟩,rfl,j9 R hB hZ,ya R hB hZ hlt,.imm _ _ hr⟩
theorem LCall.snap (hp:APure C f ivs r) (hx:mapO (zB h0 d) args=some ivs) (hf:xx r=true):LCall C f args h0 (args.flatMap (jm h0 d)) (.imm r) [] []:=by
  refine ⟨hp.1,fun g h N w vs hag _ R hv => ?_⟩
  rw [ZO]
  have hx':mapO (zB h d) args=some ivs:=by
    rw [jK fun x hxm=>JE (h:=h0) d x fun i hi=>hag i (List.mem_flatMap.2 ⟨x,hxm,hi⟩)]
    exact hx
  obtain ⟨h1,h2⟩:=z7 hx'
  let Z1:Nat→Nat:=fun b=>match w.heap[b]? with
    | some (.cells c _ _)=>max (g.Z b) c.size
    | _=>g.Z b
  have hz1:∀ b,g.Z b≤Z1 b:=fun b=>by
    show g.Z b≤(match w.heap[b]? with | some (.cells c _ _)=>max (g.Z b) c.size | _=>g.Z b)
    split
    · exact Nat.le_max_left _ _
    · exact Nat.le_refl _
  have hlt1:∀ b,0 < Z1 b→b < w.heap.size:=fun b hb=>by
    rcases Nat.lt_or_ge b w.heap.size with h | h
    · exact h
    · have hn:w.heap[b]?=none:=Array.getElem?_eq_none h
      have:Z1 b=g.Z b:=by show (match w.heap[b]? with | some (.cells c _ _)=>max (g.Z b) c.size | _=>g.Z b)=g.Z b;rw [hn]
      exact R.zlt b (by omega)
  have hO:∀ i b sz rows,g.ρ i=some b→h i=some (.rows sz rows)→rows.length*sz≤Z1 b:=fun i b sz rows hb ho=>by
    obtain ⟨hz,c,e,hc,hlen,hcells⟩:=R.obj i b _ hb ho
    have hZ:Z1 b=max (g.Z b) c.size:=by show (match w.heap[b]? with | some (.cells c _ _)=>max (g.Z b) c.size | _=>g.Z b)=_;rw [hc]
    rw [hZ]
    refine Nat.le_trans ?_ (Nat.le_max_right _ _)
    rcases Nat.eq_zero_or_pos (rows.length*sz) with h0 | h0
    · omega
    · have hs:0 < sz:=Nat.pos_of_ne_zero fun e=>by subst e;simp at h0
      have hr:0 < rows.length:=Nat.pos_of_ne_zero fun e=>by rw [e] at h0;simp at h0
      have hrow:rows[rows.length - 1]?=some (rows[rows.length - 1]'(by omega)):=by simp
      have hl:=hlen _ _ hrow
      obtain ⟨cv,h3,_⟩:=hcells (rows.length - 1) _ (sz - 1) ((rows[rows.length - 1]'(by omega))[sz - 1]'(by omega)) hrow (by simp)
      have hlt:=(Array.getElem?_eq_some_iff.1 h3).1
      have:(rows.length - 1)*sz+sz=rows.length*sz:=by
        rw [←Nat.succ_mul];congr 1;omega
      omega
  refine (hp.2 Z1 w vs hlt1 ⟨R.fix.1,R.fix.2.1⟩ ⟨by rw [h1];exact hv.1,fun j c u hc hu => ?_⟩).mono ?_
  · have hlt:j < args.length:=by rw [←h1];exact (List.getElem?_eq_some_iff.1 hc).1
    obtain ⟨c',h3,h4⟩:=h2 j args[j] (by simp)
    rw [hc] at h3
    cases h3
    exact XE R Z1 hz1 hO d _ _ _ h4 (hv.2 j args[j] u (by simp) hu)
  · rintro e w' ⟨v,Z',rfl,hr,hZ,hlt,hB⟩
    exact ⟨v,g,rfl,j9 (Z':=g.Z) R hB (fun _ _=>rfl),ya (Z':=g.Z) R hB (fun _ _=>rfl) (fun b hb=>Nat.lt_of_lt_of_le (R.zlt b hb) hB.size),.imm _ _ (Ke hf hr)⟩
end
def DCall (C:Ctx) (f:Nat) (args:List AV) (heap:List (Nat×AObj)) (KD:List Nat→AV→List (Nat×AObj)→Prop):Prop:=∃ rd r ups,LCall C f args (za heap) rd r ups []∧KD rd r ups
theorem DCall.pure {C:Ctx} {f:Nat} {args:List AV} {heap:List (Nat×AObj)} {d:Nat} {ivs:List IV} {r:IV} {KD:List Nat→AV→List (Nat×AObj)→Prop} (hp:APure C f ivs r) (hm:(args.all (jZ d))=true) (hx:mapO (zB (za heap) d) args=some ivs)
    (hK:KD [] (.imm r) []):DCall C f args heap KD:=⟨_,_,_,LCall.pure hp hm hx,hK⟩
theorem DCall.snap {C:Ctx} {f:Nat} {args:List AV} {heap:List (Nat×AObj)} {d:Nat} {ivs:List IV} {r:IV} {KD:List Nat→AV→List (Nat×AObj)→Prop} (hp:APure C f ivs r) (hx:mapO (zB (za heap) d) args=some ivs) (hf:xx r=true)
    (hK:KD (args.flatMap (jm (za heap) d)) (.imm r) []):DCall C f args heap KD:=⟨_,_,_,LCall.snap hp hx hf,hK⟩
def x6 (ord:List Nat) (j:Nat) (W R:List (Nat×Nat)) (us rd:List Nat):Bool:=
  (W.all fun p=>!(us.contains p.2||rd.contains p.2)||bef ord p.1 j)&&us.all fun x=>R.all fun p=>!(p.2 == x)||bef ord p.1 j
def q7 (j:Nat) (l:List Nat) (W:List (Nat×Nat)):List (Nat×Nat):=l.map (fun x=>(j,x))++W
def dNext (ord:List Nat) (j:Nat) (W R:List (Nat×Nat)) (dst:Option Nat) (st:St) (next:Nat→List (Nat×Nat)→List (Nat×Nat)→St→Prop):List Nat→AV→List (Nat×AObj)→Prop:=
  fun rd r ups=>x6 ord j W R (zY ups) rd=true∧next (j+1) (q7 j (zY ups) W) (q7 j rd R) (st.after dst r ups)
def W5 (dst:Option Nat) (st:St) (next:St→Prop):List Nat→AV→List (Nat×AObj)→Prop:=fun rd r ups=>ups=[]∧next (st.after dst r [])
def qj (KD:List Nat→AV→List (Nat×AObj)→Prop) (rd:List Nat):Option (AV×List (Nat×AObj))→Prop
  | some (r,ups)=>KD rd r ups
  | none=>False
def W6 (C:Ctx) (KD:List Nat→AV→List (Nat×AObj)→Prop) (heap:List (Nat×AObj)) (args:List AV):AV→Prop
  | .func f first caps=>DCall C f (first++args++caps) heap KD
  | _=>False
def dOp (C:Ctx) (KD:List Nat→AV→List (Nat×AObj)→Prop) (st:St):AOp→Prop
  | .call f args=>W6 C KD st.heap (args.map (zd st.env)) (zd st.env f)
  | op=>qj KD (zi op (zd st.env)) (evalOp op (zd st.env) (za st.heap) st.next)
def dG (C:Ctx) (op:AOp) (KD:List Nat→AV→List (Nat×AObj)→Prop) (st:St):Bool→Prop
  | true=>dOp C KD st op
  | false=>KD [] .undef []
def dGV (C:Ctx) (op:AOp) (KD:List Nat→AV→List (Nat×AObj)→Prop) (st:St) (want:Bool):AV→Prop
  | .imm (.bool b)=>dG C op KD st (b == want)
  | .undef=>dG C op KD st false
  | _=>False
def dIt (C:Ctx) (it:AItem) (KD:List Nat→AV→List (Nat×AObj)→Prop) (st:St):Prop:=match it.guard with
  | none=>dOp C KD st it.op
  | some (t,want)=>dGV C it.op KD st want ((za st.env t).getD .top)
def evd (C:Ctx) (ord:List Nat) (K:St→Prop):List AItem→Nat→List (Nat×Nat)→List (Nat×Nat)→St→Prop
  | [],_,_,_,st=>K st
  | it::rest,j,W,R,st=>dIt C it (dNext ord j W R it.dst st (evd C ord K rest)) st
def evr (C:Ctx) (K:St→Prop):List AItem→St→Prop
  | [],st=>K st
  | it::rest,st=>dIt C it (W5 it.dst st (evr C K rest)) st
section
variable {C:Ctx} {nt:Fr}
theorem Kf {it:AItem} {KD:List Nat→AV→List (Nat×AObj)→Prop} {st:St} (h:dIt C it KD st):∃ rc:Rec,rc.dst=it.dst∧EvD C it st rc∧KD rc.rd rc.r rc.ups∧rc.ex=[]:=by
  have op:∀ {g},zN st.env it.guard=some true→g=it.guard→dOp C KD st it.op→∃ rc:Rec,rc.dst=it.dst∧EvD C it st rc∧KD rc.rd rc.r rc.ups∧rc.ex=[]:=fun hg _ ho=>by
    obtain ⟨dst,op,gd⟩:=it
    simp only at ho hg
    cases op
    case call f args=>
      simp only [dOp,W6] at ho
      split at ho
      · rename_i f' first caps hf
        obtain ⟨rd,r,ups,hl,hk⟩:=ho
        refine ⟨⟨dst,r,ups,rd,[]⟩,rfl,?_,hk,rfl⟩
        simp only [EvD,hg,hf]
        exact hl
      · exact ho.elim
    all_goals
      simp only [dOp,qj] at ho
      split at ho
      · rename_i r ups hev
        refine ⟨⟨dst,r,ups,_,[]⟩,rfl,?_,ho,rfl⟩
        simp only [EvD,hg]
        exact ⟨hev,rfl,trivial⟩
      · exact ho.elim
  have off:zN st.env it.guard=some false→KD [] .undef []→∃ rc:Rec,rc.dst=it.dst∧EvD C it st rc∧KD rc.rd rc.r rc.ups∧rc.ex=[]:=fun hg ho=>by
    refine ⟨⟨it.dst,.undef,[],[],[]⟩,rfl,?_,ho,rfl⟩
    simp only [EvD,hg,and_self]
  unfold dIt at h
  split at h
  · rename_i hg;exact op (by rw [hg];rfl) hg.symm h
  · rename_i t want hg
    unfold dGV at h
    split at h
    · rename_i b hb
      cases hbw:(b == want) with
      | true=>rw [hbw] at h;exact op (by rw [hg];simp only [zN,hb,hbw]) hg.symm h
      | false=>rw [hbw] at h;exact off (by rw [hg];simp only [zN,hb,hbw]) h
    · rename_i hb;exact off (by rw [hg];simp only [zN,hb]) h
    · exact h.elim
theorem Q7 {ord:List Nat} {recs:List Rec} (h:∀ (i j:Nat) (ri rj:Rec),recs[i]?=some ri→recs[j]?=some rj→i < j→ji ri rj=true→bef ord i j=true):kS ord recs=true:=by
  unfold kS
  refine List.all_eq_true.2 fun j hj => ?_
  split
  · rename_i rj hrj
    refine Bool.or_eq_true_iff.2 (.inr (List.all_eq_true.2 fun i hi => ?_))
    simp at hi
    split
    · rename_i ri hri
      cases hc:ji ri rj with
      | true=>simp [h i j ri rj hri hrj hi hc]
      | false=>simp
    · rfl
  · rfl
theorem Kg {ord:List Nat} {K:St→Prop}:∀ (items:List AItem) (W R:List (Nat×Nat)) (st:St) (pre:List Rec),evd C ord K items pre.length W R st →
    (∀ (i:Nat) (ri:Rec) (x:Nat),pre[i]?=some ri→x∈zY ri.ups→(i,x)∈W)→(∀ (i:Nat) (ri:Rec) (x:Nat),pre[i]?=some ri→x∈ri.rd→(i,x)∈R) →
    (∀ (i j:Nat) (ri rj:Rec),pre[i]?=some ri→pre[j]?=some rj→i < j→ji ri rj=true→bef ord i j=true) →
    ∃ recs st',yX C items st recs st'∧(∀ (i j:Nat) (ri rj:Rec),(pre++recs)[i]?=some ri→(pre++recs)[j]?=some rj→i < j→ji ri rj=true→bef ord i j=true)∧K st'∧∀ rc∈recs,rc.ex=[]
  | [],W,R,st,pre,h,hW,hR,hp=>⟨[],st,rfl,by simpa using hp,h,by simp⟩
  | it::rest,W,R,st,pre,h,hW,hR,hp=>by
    obtain ⟨rc,h1,h2,⟨hok,h3⟩,hx0⟩:=Kf h
    have hlen:(pre++[rc]).length=pre.length+1:=by simp
    have split:∀ (i:Nat) (ri:Rec),(pre++[rc])[i]?=some ri→pre[i]?=some ri∨(i=pre.length∧ri=rc):=fun i ri hi=>by
      rw [List.getElem?_append] at hi
      split at hi
      · exact .inl hi
      · rename_i hge
        rcases Nat.eq_or_lt_of_le (Nat.le_of_not_lt hge) with e | e
        · rw [←e] at hi;simp at hi;exact .inr ⟨e.symm,hi.symm⟩
        · have:i - pre.length≠0:=by omega
          obtain ⟨m,hm⟩:=Nat.exists_eq_succ_of_ne_zero this
          rw [hm] at hi;simp at hi
    obtain ⟨recs,st',h4,h5,h6,hx1⟩:=Kg rest (q7 pre.length (zY rc.ups) W) (q7 pre.length rc.rd R) (st.after it.dst rc.r rc.ups) (pre++[rc]) (by rw [hlen];exact h3)
      (fun i ri x hi hx=>by
        rcases split i ri hi with hi | ⟨rfl,rfl⟩
        · exact List.mem_append_right _ (hW i ri x hi hx)
        · exact List.mem_append_left _ (List.mem_map.2 ⟨x,hx,rfl⟩))
      (fun i ri x hi hx=>by
        rcases split i ri hi with hi | ⟨rfl,rfl⟩
        · exact List.mem_append_right _ (hR i ri x hi hx)
        · exact List.mem_append_left _ (List.mem_map.2 ⟨x,hx,rfl⟩))
      (fun i j ri rj hi hj hlt hc=>by
        rcases split j rj hj with hj | ⟨rfl,rfl⟩
        · rcases split i ri hi with hi | ⟨rfl,rfl⟩
          · exact hp i j ri rj hi hj hlt hc
          · have:=(List.getElem?_eq_some_iff.1 hj).1;omega
        · rcases split i ri hi with hi | ⟨rfl,rfl⟩
          · simp only [x6,Bool.and_eq_true,List.all_eq_true] at hok
            simp only [ji,Bool.or_eq_true,List.any_eq_true] at hc
            rcases hc with ⟨x,hx,hc⟩ | ⟨x,hx,hc⟩
            · have:=hok.1 (i,x) (hW i ri x hi hx)
              simp only [Bool.or_eq_true,Bool.not_eq_true',Bool.or_eq_false_iff] at this
              rcases this with ⟨h7,h8⟩ | h7
              · simp only [h7,h8] at hc;simp at hc
              · exact h7
            · have:=hok.2 x hx (i,x) (hR i ri x hi (by simpa using hc))
              simpa using this
          · omega)
    refine ⟨rc::recs,st',⟨h1,h2,h4⟩,?_,h6,fun r hr => ?_⟩
    · simpa using h5
    · rcases List.mem_cons.1 hr with rfl | hr
      · exact hx0
      · exact hx1 r hr
theorem Kh {K:St→Prop}:∀ (items:List AItem) (st:St),evr C K items st→∃ recs st',yX C items st recs st'∧(∀ rc∈recs,rc.ups=[])∧K st'∧∀ rc∈recs,rc.ex=[]
  | [],st,h=>⟨[],st,rfl,by simp,h,by simp⟩
  | it::rest,st,h=>by
    obtain ⟨rc,h1,h2,⟨hu,h3⟩,hx0⟩:=Kf h
    obtain ⟨recs,st',h4,h5,h6,hx1⟩:=Kh rest _ h3
    refine ⟨rc::recs,st',⟨h1,h2,by rw [hu];exact h4⟩,fun r hr => ?_,h6,fun r hr => ?_⟩
    · rcases List.mem_cons.1 hr with rfl | hr
      · exact hu
      · exact h5 r hr
    · rcases List.mem_cons.1 hr with rfl | hr
      · exact hx0
      · exact hx1 r hr
theorem VM {n0:Nat} {recs:List Rec} (h:∀ rc∈recs,rc.ex=[]):XH n0 recs:=by
  constructor
  · intro k rc i hk hi
    rw [h rc (List.mem_of_getElem? hk)] at hi;cases hi
  · intro k l rk rl i hk _ hi
    rw [h rk (List.mem_of_getElem? hk)] at hi;cases hi
def JF (items:List AItem):Bool:=items.all fun it=>match it.op with
  | .alloc _ _ | .box _ _ | .bslice _ _ _ _ | .store _ _ _ | .mkmap | .upd _ _ _ _ | .mks _ _ _ _ | .app _ _ _ _ | .copy _ _ _=>false
  | _=>true
theorem zea {C:CtxY} {ord:List Nat} {items:List AItem} {ks:Option (List Nat)} {K:Exit→St→Prop} {st:St} (h:evd C ord (fun st'=>K .normal (st'.keep ks)) items 0 [] [] st):awp C nt (.region true ord items ks) K st:=by
  obtain ⟨recs,st',h1,h2,h3,h4⟩:=Kg (ord:=ord) items [] [] st [] h (by simp) (by simp) (by simp)
  exact Q6 h1 (Q7 (by simpa using h2)) (VM h4) st'.next (Nat.le_refl _) (fun rc hr i hi=>by rw [h4 rc hr] at hi;cases hi) h3
theorem zeb {C:CtxY} {ord:List Nat} {items:List AItem} {ks:Option (List Nat)} {K:Exit→St→Prop} {st:St} (h:evr C (fun st'=>K .normal (st'.keep ks)) items st):awp C nt (.region true ord items ks) K st:=by
  obtain ⟨recs,st',h1,h2,h3,h4⟩:=Kh items st h
  refine Q6 h1 (Q7 fun i j ri rj hi hj hlt hc => ?_) (VM h4) st'.next (Nat.le_refl _) (fun rc hr i hi=>by rw [h4 rc hr] at hi;cases hi) h3
  simp [ji,zY,h2 ri (List.mem_of_getElem? hi),h2 rj (List.mem_of_getElem? hj)] at hc
end
end
section
def ko (dst:Option Nat) (env:List (Nat×AV)) (K:St→Prop):AV→List (Nat×AObj)→Nat→Prop:=fun r heap' next'=>K (St.put {env:=env,heap:=heap',next:=next'+1} dst r)
def zT (dst:Option Nat) (K:St→Prop) (st:St):Option (AV×List (Nat×AObj))→Prop
  | some (r,ups)=>K (st.after dst r ups)
  | none=>False
def JG (C:CtxY) (dst:Option Nat) (K:St→Prop) (st:St) (args:List AV):AV→Prop
  | .func f first caps=>ACall C f (first++args++caps) st.heap st.next (ko dst st.env K)
  | .yld l id=>C.Y l id args st.heap st.next (ko dst st.env K)
  | _=>False
def evOp (C:CtxY) (dst:Option Nat) (K:St→Prop) (st:St):AOp→Prop
  | .call f args=>JG C dst K st (args.map (zd st.env)) (zd st.env f)
  | op=>zT dst K st (evalOp op (zd st.env) (za st.heap) st.next)
def evG (C:CtxY) (dst:Option Nat) (op:AOp) (K:St→Prop) (st:St):Bool→Prop
  | true=>evOp C dst K st op
  | false=>K (st.after dst .undef [])
def ZQ (C:CtxY) (dst:Option Nat) (op:AOp) (K:St→Prop) (st:St) (want:Bool):AV→Prop
  | .imm (.bool b)=>evG C dst op K st (b == want)
  | .undef=>evG C dst op K st false
  | _=>False
def ZR (C:CtxY) (it:AItem) (K:St→Prop) (st:St):Prop:=match it.guard with
  | none=>evOp C it.dst K st it.op
  | some (t,want)=>ZQ C it.dst it.op K st want ((za st.env t).getD .top)
theorem Ki (C:CtxY) (dst:Option Nat) (op:AOp) (g:Option (Nat×Bool)) (K:St→Prop) (st:St) (hg:zN st.env g=some true):x4 C ⟨dst,op,g⟩ st K=evOp C dst K st op:=by
  unfold x4
  rw [hg]
  cases op
  case call f args=>
    simp only [evOp]
    cases zd st.env f<;>rfl
  all_goals
    simp only [evOp]
    generalize evalOp _ _ _ _=r
    rcases r with _ | ⟨r,ups⟩<;>rfl
theorem zec (C:CtxY) (it:AItem) (K:St→Prop) (st:St) (h:ZR C it K st):x4 C it st K:=by
  obtain ⟨dst,op,g⟩:=it
  unfold ZR at h
  split at h
  · rename_i hg
    simp only at hg
    subst hg
    rw [Ki C dst op none K st rfl]
    exact h
  · rename_i t want hg
    simp only at hg
    subst hg
    unfold ZQ at h
    split at h
    · rename_i b hb
      cases hbw:(b == want) with
      | true=>
        rw [hbw] at h
        rw [Ki C dst op _ K st (by simp only [zN,hb,hbw])]
        exact h
      | false=>
        rw [hbw] at h
        unfold x4
        simp only [zN,hb,hbw]
        exact h
    · rename_i hb
      unfold x4
      simp only [zN,hb]
      exact h
    · exact h.elim
def evl (C:CtxY):List AItem→(St→Prop)→St→Prop
  | [],K,st=>K st
  | it::rest,K,st=>ZR C it (evl C rest K) st
theorem vQ (C:CtxY):∀ (l:List AItem) (K:St→Prop) (st:St),evl C l K st→evs C l K st
  | [],K,st,h=>h
  | it::rest,K,st,h=>by
    have:evl C rest K=evl C rest K:=rfl
    have h1:=zec C it _ st h
    simp only [evs]
    unfold x4 at h1 ⊢
    split
    · rename_i hg;rw [hg] at h1;exact vQ C rest K _ h1
    · rename_i hg
      rw [hg] at h1
      simp only at h1
      split
      · rename_i f args hop
        rw [hop] at h1
        simp only at h1
        split
        · rename_i hf
          rw [hf] at h1
          exact ACall.mono (fun r h n hk=>vQ C rest K _ hk) h1
        · rename_i l id hf
          rw [hf] at h1
          exact C.ymono _ _ _ _ _ _ _ (fun r h n hk=>vQ C rest K _ hk) h1
        · rename_i hf hf2
          split at h1
          · rename_i f' first caps hff;exact absurd hff (hf _ _ _)
          · rename_i l id hff;exact absurd hff (hf2 _ _)
          · exact h1
      · rename_i hop
        split at h1
        · rename_i f args h3;exact absurd h3 (hop _ _)
        · split
          · rename_i r ups hev;rw [hev] at h1;exact vQ C rest K _ h1
          · rename_i hev;rw [hev] at h1;exact h1
    · rename_i hg;rw [hg] at h1;exact h1
def wpC (b:AV) (x y:St→Prop) (st:St):Prop:=match b with
  | .imm (.bool true)=>x st
  | .imm (.bool false)=>y st
  | _=>False
def kV (ks:Option (List Nat)) (K:Exit→St→Prop):St→Prop:=fun st=>K .normal (st.keep ks)
def wpD (C:CtxY) (b:Bool) (ord:List Nat) (items:List AItem) (K:St→Prop) (st:St):Prop:=match b with
  | true=>evr C K items st
  | false=>evd C ord K items 0 [] [] st
def wpx (C:CtxY) (nt:Fr):ACode→(Exit→St→Prop)→St→Prop
  | .skip,K,st=>K .normal st
  | .region false _ items ks,K,st=>evl C items (kV ks K) st
  | .region true ord items ks,K,st=>wpD C (JF items) ord items (kV ks K) st
  | .seq x y,K,st=>wpx C nt x (vZ (wpx C nt y K) K) st
  | .cond c x y,K,st=>wpC (zd st.env c) (wpx C nt x K) (wpx C nt y K) st
  | .block id x,K,st=>wpx C nt x (xM id K) st
  | .loop x,K,st=>awp C nt (.loop x) K st
  | .scope x,K,st=>C.ro=none∧wpx C nt x (km K) st
  | .range f ps x y,K,st=>awp C nt (.range f ps x y) K st
  | .exit id,K,st=>K (.exit id) st
  | .ret,K,st=>K .ret st
theorem xO {C:CtxY} {nt:Fr}:∀ {c:ACode} {K:Exit→St→Prop} {st:St},wpx C nt c K st→awp C nt c K st
  | .skip,K,st,h=>VB h
  | .region false _ items ks,K,st,h=>Jz (vQ C items _ st h)
  | .region true ord items ks,K,st,h=>by
    simp only [wpx,wpD] at h
    split at h
    · exact zeb h
    · exact zea h
  | .seq x y,K,st,h=>by
    have h1:awp C nt x (vZ (wpx C nt y K) K) st:=xO (c:=x) h
    refine Kc (jh (fun e st' hk => ?_) h1)
    cases e with
    | normal=>exact xO (c:=y) hk
    | _=>exact hk
  | .cond c x y,K,st,h=>by
    simp only [wpx,wpC] at h
    split at h
    · rename_i hb;exact wl true hb (fun _=>xO h) (fun h=>by cases h)
    · rename_i hb;exact wl false hb (fun h=>by cases h) (fun _=>xO h)
    · exact h.elim
  | .block id x,K,st,h=>Wn (xO (c:=x) h)
  | .loop x,K,st,h=>h
  | .scope x,K,st,h=>Wo h.1 (xO (c:=x) h.2)
  | .range f ps x y,K,st,h=>h
  | .exit id,K,st,h=>VC h
  | .ret,K,st,h=>Kd h
section
variable {C:CtxY} {nt:Fr} {env:List (Nat×AV)} {heap:List (Nat×AObj)} {next:Nat} {dst:Option Nat} {K:St→Prop} {KE:Exit→St→Prop} {st:St}
@[simp] theorem ziv:wpx C nt .skip KE st=KE .normal st:=rfl
@[simp] theorem zgJ (o:List Nat) (items:List AItem) (ks:Option (List Nat)):wpx C nt (.region false o items ks) KE st=evl C items (kV ks KE) st:=rfl
@[simp] theorem ziw (o:List Nat) (items:List AItem) (ks:Option (List Nat)):wpx C nt (.region true o items ks) KE st=wpD C (JF items) o items (kV ks KE) st:=rfl
@[simp] theorem zix (o:List Nat) (items:List AItem):wpD C true o items K st=evr C K items st:=rfl
@[simp] theorem zhP (o:List Nat) (items:List AItem):wpD C false o items K st=evd C o K items 0 [] [] st:=rfl
@[simp] theorem zjf (x y:ACode):wpx C nt (.seq x y) KE st=wpx C nt x (vZ (wpx C nt y KE) KE) st:=rfl
@[simp] theorem ziy (c:Opd) (x y:ACode):wpx C nt (.cond c x y) KE st=wpC (zd st.env c) (wpx C nt x KE) (wpx C nt y KE) st:=rfl
@[simp] theorem zhQ (id:Nat) (x:ACode):wpx C nt (.block id x) KE st=wpx C nt x (xM id KE) st:=rfl
@[simp] theorem ziz (id:Nat):wpx C nt (.exit id) KE st=KE (.exit id) st:=rfl
@[simp] theorem zjg:wpx C nt .ret KE st=KE .ret st:=rfl
@[simp] theorem ziA (x y:St→Prop):wpC (.imm (.bool true)) x y st=x st:=rfl
@[simp] theorem zhR (x y:St→Prop):wpC (.imm (.bool false)) x y st=y st:=rfl
@[simp] theorem zgA (n:St→Prop):vZ n KE .normal st=n st:=rfl
@[simp] theorem zhS (n:St→Prop) (id:Nat):vZ n KE (.exit id) st=KE (.exit id) st:=rfl
@[simp] theorem ziB (n:St→Prop):vZ n KE .ret st=KE .ret st:=rfl
@[simp] theorem zee (id:Nat):xM id KE .normal st=KE .normal st:=rfl
@[simp] theorem zgB (id:Nat):xM id KE .ret st=KE .ret st:=rfl
@[simp] theorem ze9 (id id':Nat):xM id KE (.exit id') st=if id'=id then KE .normal st else KE (.exit id') st:=rfl
@[simp] theorem zef:km KE .normal st=KE .normal st:=rfl
@[simp] theorem zfa (id:Nat):km KE (.exit id) st=KE (.exit id) st:=rfl
@[simp] theorem zgC:km KE .ret st=KE .ret st:=rfl
@[simp] theorem zhT (ks:List Nat):kV (some ks) KE ⟨env,heap,next⟩=KE .normal ⟨qp ks env,heap,next⟩:=rfl
@[simp] theorem zhU:kV none KE st=KE .normal st:=rfl
@[simp] theorem zgD (ks:List Nat):qp ks []=[]:=rfl
@[simp] theorem zfb (ks:List Nat) (k:Nat) (v:AV) (r:List (Nat×AV)):qp ks ((k,v)::r)=bif ks.contains k then (k,v)::qp ks r else qp ks r:=by
  simp only [qp,List.filter_cons];cases ks.contains k<;>rfl
@[simp] theorem zjh:evl C [] K st=K st:=rfl
@[simp] theorem ziC (it:AItem) (r:List AItem):evl C (it::r) K st=ZR C it (evl C r K) st:=rfl
@[simp] theorem zhV (op:AOp):ZR C ⟨dst,op,none⟩ K st=evOp C dst K st op:=rfl
@[simp] theorem zhW (op:AOp) (t:Nat) (want:Bool):ZR C ⟨dst,op,some (t,want)⟩ K st=ZQ C dst op K st want ((za st.env t).getD .top):=rfl
@[simp] theorem zgK (op:AOp) (want:Bool):ZQ C dst op K st want .undef=K (st.after dst .undef []):=rfl
@[simp] theorem zhX (op:AOp) (b:Bool):ZQ C dst op K st true (.imm (.bool b))=evG C dst op K st b:=by simp [ZQ]
@[simp] theorem zgL (op:AOp) (b:Bool):ZQ C dst op K st false (.imm (.bool b))=evG C dst op K st (!b):=by cases b<;>rfl
@[simp] theorem ziD (op:AOp):evG C dst op K st true=evOp C dst K st op:=rfl
@[simp] theorem zhY (op:AOp):evG C dst op K st false=K (st.after dst .undef []):=rfl
@[simp] theorem zgM (r:AV) (ups:List (Nat×AObj)):zT dst K st (some (r,ups))=K (st.after dst r ups):=rfl
@[simp] theorem zgN:zT dst K st none=False:=rfl
@[simp] theorem zhZ (f:Opd) (args:List Opd):evOp C dst K ⟨env,heap,next⟩ (.call f args)=JG C dst K ⟨env,heap,next⟩ (args.map (zd env)) (zd env f):=rfl
@[simp] theorem zgE (args:List AV) (f:Nat) (first caps:List AV):JG C dst K ⟨env,heap,next⟩ args (.func f first caps)=ACall C f (first++args++caps) heap next (ko dst env K):=rfl
@[simp] theorem zfc (d:Nat) (r:AV) (heap':List (Nat×AObj)) (next':Nat):ko (some d) env K r heap' next'=K ⟨zn env d r,heap',next'+1⟩:=rfl
@[simp] theorem zfd (r:AV) (heap':List (Nat×AObj)) (next':Nat):ko none env K r heap' next'=K ⟨env,heap',next'+1⟩:=rfl
@[simp] theorem zgO (d:Nat) (r:AV) (ups:List (Nat×AObj)):St.after ⟨env,heap,next⟩ (some d) r ups=⟨zn env d r,zD ups heap,next+1⟩:=rfl
@[simp] theorem zgP (r:AV) (ups:List (Nat×AObj)):St.after ⟨env,heap,next⟩ none r ups=⟨env,zD ups heap,next+1⟩:=rfl
@[simp] theorem zfe:zD [] heap=heap:=rfl
@[simp] theorem ze7 (k:Nat) (o:AObj) (r:List (Nat×AObj)):zD ((k,o)::r) heap=qt (zD r heap) k o:=rfl
@[simp] theorem zh0 {α:Type} (i:Nat) (v:α):qt [] i v=[(i,v)]:=rfl
@[simp] theorem zgQ {α:Type} (k i:Nat) (v u:α) (r:List (Nat×α)):qt ((k,v)::r) i u=if k=i then (i,u)::r else if k=999999 then (i,u)::(k,v)::r else (k,v)::qt r i u:=rfl
@[simp] theorem zh1 {α:Type} (i:Nat):za ([]:List (Nat×α)) i=none:=rfl
@[simp] theorem zgR {α:Type} (k i:Nat) (v:α) (r:List (Nat×α)):za ((k,v)::r) i=if k=i then some v else za r i:=rfl
@[simp] theorem zh2 {α:Type} (i:Nat) (v:α):zn [] i v=[(i,v)]:=rfl
@[simp] theorem zgS {α:Type} (k i:Nat) (v u:α) (r:List (Nat×α)):zn ((k,v)::r) i u=if k=i then (i,u)::r else (k,v)::zn r i u:=rfl
@[simp] theorem zji (n:Nat):zd env (.t n)=(za env n).getD .top:=rfl
@[simp] theorem zjj (x:AV):zd env (.c x)=x:=rfl
@[simp] theorem zgT (i:Nat):qQ i []=[]:=rfl
@[simp] theorem zgF (i:Nat) (x:AV) (xs:List AV):qQ i (x::xs)=(i,x)::qQ (i+1) xs:=rfl
@[simp] theorem ziE {α β:Type} (f:α→Option β):mapO f []=some []:=rfl
@[simp] theorem zh3 {α β:Type} (f:α→Option β) (a:α) (r:List α):mapO f (a::r)=match f a with
    | some b=>match mapO f r with
      | some bs=>some (b::bs)
      | none=>none
    | none=>none:=rfl
def ZS (KA:AV→List (Nat×AObj)→Nat→Prop) (heap:List (Nat×AObj)) (next:Nat):Option AV→Prop
  | some r=>KA r heap next
  | none=>False
def JH (rs:List ARes) (KA:AV→List (Nat×AObj)→Nat→Prop):Exit→St→Prop
  | .ret,st | .normal,st=>ZS KA st.heap st.next (q6 rs st)
  | _,_=>False
theorem ACall.run {C:Ctx} {f:Nat} {F:AFun} (hF:qm C f=some F.erase) {args:List AV} {KA:AV→List (Nat×AObj)→Nat→Prop} (hn:args.length≤F.nt)
    (h:∀ B,wpx C.plain ⟨F.nt,B⟩ F.body (JH F.results KA) {env:=qQ 0 args,heap:=heap,next:=next}):ACall C f args heap next KA:=ACall.enter hF hn (fun B=>jh (fun e st hk=>by
      have key:∀ {o:Option AV},ZS KA st.heap st.next o→∃ r,o=some r∧KA r st.heap st.next:=fun {o} ho=>by
        cases o with
        | none=>exact ho.elim
        | some r=>exact ⟨r,rfl,ho⟩
      cases e with
      | ret=>exact ⟨.inl rfl,key hk⟩
      | normal=>exact ⟨.inr rfl,key hk⟩
      | _=>exact hk.elim) (xO (h B)))
def XI (d:Nat) (r:IV):AV→List (Nat×AObj)→Nat→Prop:=fun x heap _=>zB (za heap) d x=some r
@[simp] theorem zjk (d:Nat) (r:IV) (x:AV):XI d r x heap next=(zB (za heap) d x=some r):=rfl
theorem APure.run {C:Ctx} {f:Nat} {F:AFun} (hF:qm C f=some F.erase) {args:List IV} {r:IV} (d:Nat) (hn:args.length≤F.nt)
    (h:∀ B,wpx C.plain ⟨F.nt,B⟩ F.body (JH F.results (XI d r)) {env:=qQ 0 (args.map .imm),heap:=[],next:=0}):APure C f args r:=APure.of (d:=d) (ACall.run hF (by simpa using hn) h)
variable {KA:AV→List (Nat×AObj)→Nat→Prop}
@[simp] theorem zh4 (rs:List ARes):JH rs KA .ret ⟨env,heap,next⟩=ZS KA heap next (q6 rs ⟨env,heap,next⟩):=rfl
@[simp] theorem zff (rs:List ARes):JH rs KA .normal ⟨env,heap,next⟩=ZS KA heap next (q6 rs ⟨env,heap,next⟩):=rfl
@[simp] theorem zh5 (r:AV):ZS KA heap next (some r)=KA r heap next:=rfl
@[simp] theorem zh6:ZS KA heap next none=False:=rfl
@[simp] theorem zh7 (r:ARes):q6 [r] st=xy st r:=rfl
@[simp] theorem zh8:q6 [] st=some (.tuple []):=rfl
@[simp] theorem zh9 (r s:ARes) (l:List ARes):q6 (r::s::l) st=match mapO (xy st) (r::s::l) with
    | some xs=>some (.tuple xs)
    | none=>none:=rfl
@[simp] theorem zgU (t:Nat):xy ⟨env,heap,next⟩ (.tmp t)=za env t:=rfl
@[simp] theorem zgG (t n:Nat) (ag:Bool):xy ⟨env,heap,next⟩ (.cell t ag n)=match evalOp (.load ag n (.t t)) (zd env) (za heap) 0 with
    | some (r,_)=>some r
    | none=>none:=rfl
@[simp] theorem ziF (x:Opd):evOp C dst K ⟨env,heap,next⟩ (.mov x)=zT dst K ⟨env,heap,next⟩ (evalOp (.mov x) (zd env) (za heap) next):=rfl
@[simp] theorem zia (c a b:Opd):evOp C dst K ⟨env,heap,next⟩ (.pick c a b)=zT dst K ⟨env,heap,next⟩ (evalOp (.pick c a b) (zd env) (za heap) next):=rfl
@[simp] theorem zgV (sz:Nat) (rows:List (List AV)):evOp C dst K ⟨env,heap,next⟩ (.alloc sz rows)=zT dst K ⟨env,heap,next⟩ (evalOp (.alloc sz rows) (zd env) (za heap) next):=rfl
@[simp] theorem ziG (sz:Nat) (x:Opd):evOp C dst K ⟨env,heap,next⟩ (.box sz x)=zT dst K ⟨env,heap,next⟩ (evalOp (.box sz x) (zd env) (za heap) next):=rfl
@[simp] theorem zgW (zero:List AV) (parts:List (Nat×Nat×Opd)):evOp C dst K ⟨env,heap,next⟩ (.build zero parts)=zT dst K ⟨env,heap,next⟩ (evalOp (.build zero parts) (zd env) (za heap) next):=rfl
@[simp] theorem zgH (sz:Nat) (zero:List AV) (len:Nat) (parts:List (Nat×Opd)):evOp C dst K ⟨env,heap,next⟩ (.bslice sz zero len parts)=zT dst K ⟨env,heap,next⟩ (evalOp (.bslice sz zero len parts) (zd env) (za heap) next):=rfl
@[simp] theorem zib (agg:Bool) (n:Nat) (x:Opd):evOp C dst K ⟨env,heap,next⟩ (.load agg n x)=zT dst K ⟨env,heap,next⟩ (evalOp (.load agg n x) (zd env) (za heap) next):=rfl
@[simp] theorem zgX (n:Nat) (x v:Opd):evOp C dst K ⟨env,heap,next⟩ (.store n x v)=zT dst K ⟨env,heap,next⟩ (evalOp (.store n x v) (zd env) (za heap) next):=rfl
@[simp] theorem ziH (off:Nat) (x:Opd):evOp C dst K ⟨env,heap,next⟩ (.fld off x)=zT dst K ⟨env,heap,next⟩ (evalOp (.fld off x) (zd env) (za heap) next):=rfl
@[simp] theorem ziI (sz:Nat) (x i:Opd):evOp C dst K ⟨env,heap,next⟩ (.idx sz x i)=zT dst K ⟨env,heap,next⟩ (evalOp (.idx sz x i) (zd env) (za heap) next):=rfl
@[simp] theorem zic (len sz:Nat) (x i:Opd):evOp C dst K ⟨env,heap,next⟩ (.idxa len sz x i)=zT dst K ⟨env,heap,next⟩ (evalOp (.idxa len sz x i) (zd env) (za heap) next):=rfl
@[simp] theorem ziJ (op:BinOp) (x y:Opd):evOp C dst K ⟨env,heap,next⟩ (.bin op x y)=zT dst K ⟨env,heap,next⟩ (evalOp (.bin op x y) (zd env) (za heap) next):=rfl
@[simp] theorem ziK (neg:Bool) (x y:Opd):evOp C dst K ⟨env,heap,next⟩ (.eqb neg x y)=zT dst K ⟨env,heap,next⟩ (evalOp (.eqb neg x y) (zd env) (za heap) next):=rfl
@[simp] theorem ziL (neg:Bool) (ks:List Nat) (x y:Opd):evOp C dst K ⟨env,heap,next⟩ (.eqs neg ks x y)=zT dst K ⟨env,heap,next⟩ (evalOp (.eqs neg ks x y) (zd env) (za heap) next):=rfl
@[simp] theorem zgY (neg:Bool) (x y:Opd):evOp C dst K ⟨env,heap,next⟩ (.eqnil neg x y)=zT dst K ⟨env,heap,next⟩ (evalOp (.eqnil neg x y) (zd env) (za heap) next):=rfl
@[simp] theorem ziM (x:Opd):evOp C dst K ⟨env,heap,next⟩ (.not x)=zT dst K ⟨env,heap,next⟩ (evalOp (.not x) (zd env) (za heap) next):=rfl
@[simp] theorem ziN (x:Opd):evOp C dst K ⟨env,heap,next⟩ (.neg x)=zT dst K ⟨env,heap,next⟩ (evalOp (.neg x) (zd env) (za heap) next):=rfl
@[simp] theorem zid (k:IntKind) (x:Opd):evOp C dst K ⟨env,heap,next⟩ (.conv k x)=zT dst K ⟨env,heap,next⟩ (evalOp (.conv k x) (zd env) (za heap) next):=rfl
@[simp] theorem ziO (x:Opd):evOp C dst K ⟨env,heap,next⟩ (.len x)=zT dst K ⟨env,heap,next⟩ (evalOp (.len x) (zd env) (za heap) next):=rfl
@[simp] theorem zie (x:Opd):evOp C dst K ⟨env,heap,next⟩ (.lens x)=zT dst K ⟨env,heap,next⟩ (evalOp (.lens x) (zd env) (za heap) next):=rfl
@[simp] theorem zif (x:Opd):evOp C dst K ⟨env,heap,next⟩ (.lenm x)=zT dst K ⟨env,heap,next⟩ (evalOp (.lenm x) (zd env) (za heap) next):=rfl
@[simp] theorem zjl (max:Bool) (x y:Opd):evOp C dst K ⟨env,heap,next⟩ (.mm max x y)=zT dst K ⟨env,heap,next⟩ (evalOp (.mm max x y) (zd env) (za heap) next):=rfl
@[simp] theorem ziP (sz by_:Nat) (s x:Opd):evOp C dst K ⟨env,heap,next⟩ (.app sz by_ s x)=zT dst K ⟨env,heap,next⟩ (evalOp (.app sz by_ s x) (zd env) (za heap) next):=rfl
@[simp] theorem ziQ (x:Opd) (i:Nat):evOp C dst K ⟨env,heap,next⟩ (.ext x i)=zT dst K ⟨env,heap,next⟩ (evalOp (.ext x i) (zd env) (za heap) next):=rfl
@[simp] theorem ziR (f:Nat) (first caps:List Opd):evOp C dst K ⟨env,heap,next⟩ (.mkf f first caps)=zT dst K ⟨env,heap,next⟩ (evalOp (.mkf f first caps) (zd env) (za heap) next):=rfl
@[simp] theorem zgZ  : evOp C dst K ⟨env,heap,next⟩ (.mkmap)=zT dst K ⟨env,heap,next⟩ (evalOp (.mkmap) (zd env) (za heap) next):=rfl
@[simp] theorem zig (str:Bool) (zero:AV) (ok:Bool) (m k:Opd):evOp C dst K ⟨env,heap,next⟩ (.look str zero ok m k)=zT dst K ⟨env,heap,next⟩ (evalOp (.look str zero ok m k) (zd env) (za heap) next):=rfl
@[simp] theorem ziS (str:Bool) (m k v:Opd):evOp C dst K ⟨env,heap,next⟩ (.upd str m k v)=zT dst K ⟨env,heap,next⟩ (evalOp (.upd str m k v) (zd env) (za heap) next):=rfl
@[simp] theorem ziT (sz by_:Nat) (zero:List AV) (n:Opd):evOp C dst K ⟨env,heap,next⟩ (.mks sz by_ zero n)=zT dst K ⟨env,heap,next⟩ (evalOp (.mks sz by_ zero n) (zd env) (za heap) next):=rfl
@[simp] theorem ziU (sz:Nat) (x:Opd) (lo hi:Option Opd):evOp C dst K ⟨env,heap,next⟩ (.slc sz x lo hi)=zT dst K ⟨env,heap,next⟩ (evalOp (.slc sz x lo hi) (zd env) (za heap) next):=rfl
@[simp] theorem ziV (x:Opd):evOp C dst K ⟨env,heap,next⟩ (.nck x)=zT dst K ⟨env,heap,next⟩ (evalOp (.nck x) (zd env) (za heap) next):=rfl
@[simp] theorem zih (sz:Nat) (d x:Opd):evOp C dst K ⟨env,heap,next⟩ (.copy sz d x)=zT dst K ⟨env,heap,next⟩ (evalOp (.copy sz d x) (zd env) (za heap) next):=rfl
@[simp] theorem ziW (len sz:Nat) (x i:Opd):evOp C dst K ⟨env,heap,next⟩ (.ixa len sz x i)=zT dst K ⟨env,heap,next⟩ (evalOp (.ixa len sz x i) (zd env) (za heap) next):=rfl
end
section
variable {C:CtxY} {nt:Fr} {env:List (Nat×AV)} {heap:List (Nat×AObj)} {next:Nat} {dst:Option Nat} {K:St→Prop} {KD:List Nat→AV→List (Nat×AObj)→Prop} {st:St}
@[simp] theorem zjm (ord:List Nat) (j:Nat) (W R:List (Nat×Nat)):evd C ord K [] j W R st=K st:=rfl
@[simp] theorem zcL (ord:List Nat) (it:AItem) (r:List AItem) (j:Nat) (W R:List (Nat×Nat)):evd C ord K (it::r) j W R st=dIt C it (dNext ord j W R it.dst st (evd C ord K r)) st:=rfl
@[simp] theorem zjn:evr C K [] st=K st:=rfl
@[simp] theorem ziX (it:AItem) (r:List AItem):evr C K (it::r) st=dIt C it (W5 it.dst st (evr C K r)) st:=rfl
@[simp] theorem zcM (op:AOp):dIt C ⟨dst,op,none⟩ KD st=dOp C KD st op:=rfl
@[simp] theorem ziY (op:AOp) (t:Nat) (want:Bool):dIt C ⟨dst,op,some (t,want)⟩ KD st=dGV C op KD st want ((za st.env t).getD .top):=rfl
@[simp] theorem zii (op:AOp) (want:Bool):dGV C op KD st want .undef=KD [] .undef []:=rfl
@[simp] theorem ziZ (op:AOp) (b:Bool):dGV C op KD st true (.imm (.bool b))=dG C op KD st b:=by simp [dGV]
@[simp] theorem zij (op:AOp) (b:Bool):dGV C op KD st false (.imm (.bool b))=dG C op KD st (!b):=by cases b<;>rfl
@[simp] theorem zjo (op:AOp):dG C op KD st true=dOp C KD st op:=rfl
@[simp] theorem zi0 (op:AOp):dG C op KD st false=KD [] .undef []:=rfl
@[simp] theorem zik (rd:List Nat) (r:AV) (ups:List (Nat×AObj)):qj KD rd (some (r,ups))=KD rd r ups:=rfl
@[simp] theorem zil (rd:List Nat):qj KD rd none=False:=rfl
@[simp] theorem zi1 (ord:List Nat) (j:Nat) (W R:List (Nat×Nat)) (nx:Nat→List (Nat×Nat)→List (Nat×Nat)→St→Prop) (rd:List Nat) (r:AV) (ups:List (Nat×AObj)) :
    dNext ord j W R dst st nx rd r ups=(x6 ord j W R (zY ups) rd=true∧nx (j+1) (q7 j (zY ups) W) (q7 j rd R) (st.after dst r ups)):=rfl
@[simp] theorem zim (nx:St→Prop) (rd:List Nat) (r:AV):W5 dst st nx rd r []=nx (st.after dst r []):=by simp [W5]
@[simp] theorem zi2 (f:Opd) (args:List Opd):dOp C KD ⟨env,heap,next⟩ (.call f args)=W6 C KD heap (args.map (zd env)) (zd env f):=rfl
@[simp] theorem zg0 (args:List AV) (f:Nat) (first caps:List AV):W6 C KD heap args (.func f first caps)=DCall C f (first++args++caps) heap KD:=rfl
@[simp] theorem zjp (x:Opd):dOp C KD ⟨env,heap,next⟩ (.mov x)=qj KD (zi (.mov x) (zd env)) (evalOp (.mov x) (zd env) (za heap) next):=rfl
@[simp] theorem zi3 (c a b:Opd):dOp C KD ⟨env,heap,next⟩ (.pick c a b)=qj KD (zi (.pick c a b) (zd env)) (evalOp (.pick c a b) (zd env) (za heap) next):=rfl
@[simp] theorem zin (sz:Nat) (rows:List (List AV)):dOp C KD ⟨env,heap,next⟩ (.alloc sz rows)=qj KD (zi (.alloc sz rows) (zd env)) (evalOp (.alloc sz rows) (zd env) (za heap) next):=rfl
@[simp] theorem zjq (sz:Nat) (x:Opd):dOp C KD ⟨env,heap,next⟩ (.box sz x)=qj KD (zi (.box sz x) (zd env)) (evalOp (.box sz x) (zd env) (za heap) next):=rfl
@[simp] theorem zio (zero:List AV) (parts:List (Nat×Nat×Opd)):dOp C KD ⟨env,heap,next⟩ (.build zero parts)=qj KD (zi (.build zero parts) (zd env)) (evalOp (.build zero parts) (zd env) (za heap) next):=rfl
@[simp] theorem zg1 (sz:Nat) (zero:List AV) (len:Nat) (parts:List (Nat×Opd)):dOp C KD ⟨env,heap,next⟩ (.bslice sz zero len parts)=qj KD (zi (.bslice sz zero len parts) (zd env)) (evalOp (.bslice sz zero len parts) (zd env) (za heap) next):=rfl
@[simp] theorem zi4 (agg:Bool) (n:Nat) (x:Opd):dOp C KD ⟨env,heap,next⟩ (.load agg n x)=qj KD (zi (.load agg n x) (zd env)) (evalOp (.load agg n x) (zd env) (za heap) next):=rfl
@[simp] theorem ziq (n:Nat) (x v:Opd):dOp C KD ⟨env,heap,next⟩ (.store n x v)=qj KD (zi (.store n x v) (zd env)) (evalOp (.store n x v) (zd env) (za heap) next):=rfl
@[simp] theorem zjr (off:Nat) (x:Opd):dOp C KD ⟨env,heap,next⟩ (.fld off x)=qj KD (zi (.fld off x) (zd env)) (evalOp (.fld off x) (zd env) (za heap) next):=rfl
@[simp] theorem zjs (sz:Nat) (x i:Opd):dOp C KD ⟨env,heap,next⟩ (.idx sz x i)=qj KD (zi (.idx sz x i) (zd env)) (evalOp (.idx sz x i) (zd env) (za heap) next):=rfl
@[simp] theorem zi5 (len sz:Nat) (x i:Opd):dOp C KD ⟨env,heap,next⟩ (.idxa len sz x i)=qj KD (zi (.idxa len sz x i) (zd env)) (evalOp (.idxa len sz x i) (zd env) (za heap) next):=rfl
@[simp] theorem zjt (op:BinOp) (x y:Opd):dOp C KD ⟨env,heap,next⟩ (.bin op x y)=qj KD (zi (.bin op x y) (zd env)) (evalOp (.bin op x y) (zd env) (za heap) next):=rfl
@[simp] theorem zju (neg:Bool) (x y:Opd):dOp C KD ⟨env,heap,next⟩ (.eqb neg x y)=qj KD (zi (.eqb neg x y) (zd env)) (evalOp (.eqb neg x y) (zd env) (za heap) next):=rfl
@[simp] theorem zjv (neg:Bool) (ks:List Nat) (x y:Opd):dOp C KD ⟨env,heap,next⟩ (.eqs neg ks x y)=qj KD (zi (.eqs neg ks x y) (zd env)) (evalOp (.eqs neg ks x y) (zd env) (za heap) next):=rfl
@[simp] theorem zir (neg:Bool) (x y:Opd):dOp C KD ⟨env,heap,next⟩ (.eqnil neg x y)=qj KD (zi (.eqnil neg x y) (zd env)) (evalOp (.eqnil neg x y) (zd env) (za heap) next):=rfl
@[simp] theorem zjw (x:Opd):dOp C KD ⟨env,heap,next⟩ (.not x)=qj KD (zi (.not x) (zd env)) (evalOp (.not x) (zd env) (za heap) next):=rfl
@[simp] theorem zjx (x:Opd):dOp C KD ⟨env,heap,next⟩ (.neg x)=qj KD (zi (.neg x) (zd env)) (evalOp (.neg x) (zd env) (za heap) next):=rfl
@[simp] theorem zi6 (k:IntKind) (x:Opd):dOp C KD ⟨env,heap,next⟩ (.conv k x)=qj KD (zi (.conv k x) (zd env)) (evalOp (.conv k x) (zd env) (za heap) next):=rfl
@[simp] theorem zjy (x:Opd):dOp C KD ⟨env,heap,next⟩ (.len x)=qj KD (zi (.len x) (zd env)) (evalOp (.len x) (zd env) (za heap) next):=rfl
@[simp] theorem zi7 (x:Opd):dOp C KD ⟨env,heap,next⟩ (.lens x)=qj KD (zi (.lens x) (zd env)) (evalOp (.lens x) (zd env) (za heap) next):=rfl
@[simp] theorem zi8 (x:Opd):dOp C KD ⟨env,heap,next⟩ (.lenm x)=qj KD (zi (.lenm x) (zd env)) (evalOp (.lenm x) (zd env) (za heap) next):=rfl
@[simp] theorem zjH (max:Bool) (x y:Opd):dOp C KD ⟨env,heap,next⟩ (.mm max x y)=qj KD (zi (.mm max x y) (zd env)) (evalOp (.mm max x y) (zd env) (za heap) next):=rfl
@[simp] theorem zjz (sz by_:Nat) (s x:Opd):dOp C KD ⟨env,heap,next⟩ (.app sz by_ s x)=qj KD (zi (.app sz by_ s x) (zd env)) (evalOp (.app sz by_ s x) (zd env) (za heap) next):=rfl
@[simp] theorem zjA (x:Opd) (i:Nat):dOp C KD ⟨env,heap,next⟩ (.ext x i)=qj KD (zi (.ext x i) (zd env)) (evalOp (.ext x i) (zd env) (za heap) next):=rfl
@[simp] theorem zjB (f:Nat) (first caps:List Opd):dOp C KD ⟨env,heap,next⟩ (.mkf f first caps)=qj KD (zi (.mkf f first caps) (zd env)) (evalOp (.mkf f first caps) (zd env) (za heap) next):=rfl
@[simp] theorem zis  : dOp C KD ⟨env,heap,next⟩ (.mkmap)=qj KD (zi (.mkmap) (zd env)) (evalOp (.mkmap) (zd env) (za heap) next):=rfl
@[simp] theorem zi9 (str:Bool) (zero:AV) (ok:Bool) (m k:Opd):dOp C KD ⟨env,heap,next⟩ (.look str zero ok m k)=qj KD (zi (.look str zero ok m k) (zd env)) (evalOp (.look str zero ok m k) (zd env) (za heap) next):=rfl
@[simp] theorem zjC (str:Bool) (m k v:Opd):dOp C KD ⟨env,heap,next⟩ (.upd str m k v)=qj KD (zi (.upd str m k v) (zd env)) (evalOp (.upd str m k v) (zd env) (za heap) next):=rfl
@[simp] theorem zjD (sz by_:Nat) (zero:List AV) (n:Opd):dOp C KD ⟨env,heap,next⟩ (.mks sz by_ zero n)=qj KD (zi (.mks sz by_ zero n) (zd env)) (evalOp (.mks sz by_ zero n) (zd env) (za heap) next):=rfl
@[simp] theorem zjE (sz:Nat) (x:Opd) (lo hi:Option Opd):dOp C KD ⟨env,heap,next⟩ (.slc sz x lo hi)=qj KD (zi (.slc sz x lo hi) (zd env)) (evalOp (.slc sz x lo hi) (zd env) (za heap) next):=rfl
@[simp] theorem zjF (x:Opd):dOp C KD ⟨env,heap,next⟩ (.nck x)=qj KD (zi (.nck x) (zd env)) (evalOp (.nck x) (zd env) (za heap) next):=rfl
@[simp] theorem zja (sz:Nat) (d x:Opd):dOp C KD ⟨env,heap,next⟩ (.copy sz d x)=qj KD (zi (.copy sz d x) (zd env)) (evalOp (.copy sz d x) (zd env) (za heap) next):=rfl
@[simp] theorem zjG (len sz:Nat) (x i:Opd):dOp C KD ⟨env,heap,next⟩ (.ixa len sz x i)=qj KD (zi (.ixa len sz x i) (zd env)) (evalOp (.ixa len sz x i) (zd env) (za heap) next):=rfl
end
end
section
section
variable {C:CtxY} {nt:Fr} {x:ACode} {K:Exit→St→Prop} {st:St}
end
@[simp] theorem zdL {α:Type} {p:α→Prop}:(∀ x∈([]:List α),p x)=True:=by simp
theorem qI {x:Int} (h1 : -9223372036854775808≤x) (h2:x < 9223372036854775808):IntKind.i64.wrap x=x:=by
  simp [IntKind.wrap,IntKind.bits,IntKind.signed,Int.bmod_def]
  omega
theorem zcN {x:Int} (h1:0≤x) (h2:x < 18446744073709551616):IntKind.u64.wrap x=x:=by
  simp [IntKind.wrap,IntKind.bits,IntKind.signed]
  omega
end
section
def JI {α:Type}:List (Nat×α)→List (Nat×α)→List (Nat×α)
  | [],l=>l
  | (k,v)::r,l=>JI r (zn l k v)
@[simp] theorem zg2 {α:Type} (l:List (Nat×α)):JI [] l=l:=rfl
@[simp] theorem zgI {α:Type} (k:Nat) (v:α) (r l:List (Nat×α)):JI ((k,v)::r) l=JI r (zn l k v):=rfl
section
variable {C:CtxY} {nt:Fr} {x:ACode} {K:Exit→St→Prop}
end
end
section
theorem Qp {α β:Type} {x:Option α} {f:α→Option β} {r:β} (h:x.bind f=some r):∃ a,x=some a∧f a=some r:=Option.bind_eq_some_iff.1 h
def ze {α:Type} (l:List α) (n:Int):Option α:=if 0≤n then l[n.toNat]? else none
theorem zbv {α:Type} {l:List α} {n:Int} {e:α} (h:ze l n=some e):0≤n∧l[n.toNat]?=some e∧n.toNat < l.length∧n < l.length∧∃ h:n.toNat < l.length,l[n.toNat]=e:=by
  unfold ze at h;split at h
  · obtain ⟨h1,h2⟩:=List.getElem?_eq_some_iff.1 h
    exact ⟨‹_›,h,h1,by omega,h1,h2⟩
  · cases h
theorem zeg {C:CtxY} {nt:Fr} {o:List Nat} {items:List AItem} {ks:Option (List Nat)} {K:Exit→St→Prop} {st:St} (h:evl C items (kV ks K) st):awp C nt (.region false o items ks) K st:=
  Jz (vQ C items _ st h)
theorem zeh {C:CtxY} {nt:Fr} {o:List Nat} {items:List AItem} {ks:Option (List Nat)} {K:Exit→St→Prop} {st:St} (h:wpD C (JF items) o items (kV ks K) st):awp C nt (.region true o items ks) K st:=
  xO h
def forFrom {σ ρ:Type} (f:Nat→σ→Option (σ ⊕ ρ)):Nat→Nat→σ→Option (σ ⊕ ρ)
  | _,0,s=>some (.inl s)
  | i,k+1,s=>match f i s with
    | none=>none
    | some (.inr r)=>some (.inr r)
    | some (.inl s')=>forFrom f (i+1) k s'
def forR {σ ρ:Type} (n:Int) (f:Nat→σ→Option (σ ⊕ ρ)) (s:σ):Option (σ ⊕ ρ):=bif Nat.blt n.toNat 4611686018427387904 then forFrom f 0 n.toNat s else none
theorem kW {σ ρ:Type} {n:Int} {f:Nat→σ→Option (σ ⊕ ρ)} {s:σ} (hn:n < 4611686018427387904):forR n f s=forFrom f 0 n.toNat s:=by
  have:Nat.blt n.toNat 4611686018427387904=true:=by simp only [Nat.blt_eq];omega
  unfold forR;rw [this];rfl
theorem Wr {σ ρ:Type} {n:Int} {f:Nat→σ→Option (σ ⊕ ρ)} {s:σ} {o:σ ⊕ ρ} (h:forR n f s=some o):n < 4611686018427387904∧forFrom f 0 n.toNat s=some o:=by
  unfold forR at h
  cases hb:Nat.blt n.toNat 4611686018427387904 with
  | true=>rw [hb] at h;simp only [Nat.blt_eq] at hb;exact ⟨by omega,h⟩
  | false=>rw [hb] at h;cases h
def W7 {σ ρ:Type} (W:σ→St) (K:Exit→St→Prop) (out:σ ⊕ ρ) (o:σ ⊕ ρ):Exit→St→Prop
  | .normal,st=>∃ s',o=.inl s'∧Weak st (W s')
  | e,st=>∃ y,o=.inr y∧(out=.inr y→K e st)
theorem zcO {C:CtxY} {nt:Fr} {x:ACode} {K:Exit→St→Prop} {st:St} {σ ρ:Type} {n:Int} {f:Nat→σ→Option (σ ⊕ ρ)} {s0:σ} {out:σ ⊕ ρ} (hl:forR n f s0=some out)
    (E:Nat→σ→List (Nat×AV)) (H:Nat→σ→List (Nat×AObj)) (h0:Weak st ⟨E 0 s0,H 0 s0,st.next⟩)
    (body:∀ (i:Nat) (s:σ) (o:σ ⊕ ρ),(i:Int) < n→IntKind.i64.wrap ((i:Int)+1)=(i:Int)+1→f i s=some o→awp C nt x (W7 (fun s=>⟨E (i+1) s,H (i+1) s,st.next⟩) K out o) ⟨E i s,H i s,st.next⟩)
    (last:∀ (m:Nat) (s:σ),¬ (m:Int) < n→out=.inl s→awp C nt x (vZ (fun _=>False) K) ⟨E m s,H m s,st.next⟩):awp C nt (.loop x) K st:=by
  obtain ⟨hn,hl⟩:=Wr hl
  refine VE (ι:={p:Nat×σ // p.1≤n.toNat∧forFrom f p.1 (n.toNat - p.1) p.2=some out}) (fun p=>⟨E p.1.1 p.1.2,H p.1.1 p.1.2,st.next⟩) (fun p=>n.toNat - p.1.1) ⟨(0,s0),Nat.zero_le _,hl⟩ (fun _=>Nat.le_refl _) h0 (Nat.le_refl _) ?_
  rintro ⟨⟨i,s⟩,hi,hf⟩
  simp only at hi hf
  rcases Nat.lt_or_ge i n.toNat with h | h
  · obtain ⟨k,hk⟩:∃ k,n.toNat - i=k+1:=⟨n.toNat - i - 1,by omega⟩
    rw [hk] at hf
    simp only [forFrom] at hf
    split at hf
    · cases hf
    · rename_i r hr
      cases hf
      refine jh ?_ (body i s _ (by omega) (qI (by omega) (by omega)) hr)
      intro e st' hK
      cases e with
      | normal=>obtain ⟨s',h1,_⟩:=hK;cases h1
      | _=>obtain ⟨y,h1,h2⟩:=hK;cases h1;exact h2 rfl
    · rename_i s' hr
      refine jh ?_ (body i s _ (by omega) (qI (by omega) (by omega)) hr)
      intro e st' hK
      cases e with
      | normal=>
        obtain ⟨s'',h1,h2⟩:=hK
        cases h1
        exact ⟨⟨(i+1,s'),h,by simp only;rw [show n.toNat - (i+1)=k by omega];exact hf⟩,by simp only;omega,h2⟩
      | _=>obtain ⟨y,h1,h2⟩:=hK;cases h1
  · obtain rfl:i=n.toNat:=by omega
    simp only [Nat.sub_self,forFrom,Option.some.injEq] at hf
    refine jh ?_ (last n.toNat s (by omega) hf.symm)
    intro e st' hK
    cases e with
    | normal=>exact hK.elim
    | _=>exact hK
def iterN {σ ρ:Type} (f:σ→Option (σ ⊕ ρ)):Nat→σ→Option ρ
  | 0,_=>none
  | k+1,s=>match f s with
    | none=>none
    | some (.inr r)=>some r
    | some (.inl s')=>iterN f k s'
theorem kX {σ ρ:Type} {f:σ→Option (σ ⊕ ρ)}:∀ {k:Nat} {s:σ} {r:ρ},iterN f k s=some r→∀ {k':Nat},k≤k'→iterN f k' s=some r
  | 0,_,_,h,_,_=>by cases h
  | k+1,s,r,h,k',hk=>by
    obtain ⟨m,rfl⟩:∃ m,k'=m+1:=⟨k' - 1,by omega⟩
    simp only [iterN] at h ⊢
    split at h
    · cases h
    · exact h
    · exact kX h (by omega)
open Classical in
noncomputable def iter {σ ρ:Type} (f:σ→Option (σ ⊕ ρ)) (s:σ):Option ρ:=if h:∃ r,∃ k,iterN f k s=some r then some h.choose else none
theorem vk {σ ρ:Type} {f:σ→Option (σ ⊕ ρ)} {s:σ} {r:ρ}:iter f s=some r↔∃ k,iterN f k s=some r:=by
  unfold iter
  split
  · rename_i h
    obtain ⟨k,hk⟩:=h.choose_spec
    simp only [Option.some.injEq]
    constructor
    · intro e;exact ⟨k,by rw [←e];exact hk⟩
    · rintro ⟨k',hk'⟩
      have h1:=kX hk (Nat.le_max_left k k')
      have h2:=kX hk' (Nat.le_max_right k k')
      rw [h1] at h2;exact Option.some.inj h2
  · rename_i h
    constructor
    · intro e;cases e
    · rintro ⟨k,hk⟩;exact absurd ⟨r,k,hk⟩ h
theorem zei {σ ρ:Type} (f:σ→Option (σ ⊕ ρ)) (s:σ):iter f s=match f s with
    | none=>none
    | some (.inr r)=>some r
    | some (.inl s')=>iter f s':=by
  apply Option.ext
  intro r
  rw [vk]
  constructor
  · rintro ⟨k,hk⟩
    cases k with
    | zero=>cases hk
    | succ k=>
      simp only [iterN] at hk
      split at hk
      · cases hk
      · exact hk
      · exact vk.2 ⟨k,hk⟩
  · intro h
    split at h
    · cases h
    · rename_i e;exact ⟨1,by simp only [iterN,e];exact h⟩
    · rename_i e
      obtain ⟨k,hk⟩:=vk.1 h
      exact ⟨k+1,by simp only [iterN,e];exact hk⟩
theorem zcP {C:CtxY} {nt:Fr} {x:ACode} {K:Exit→St→Prop} {st:St} {σ ρ:Type} {f:σ→Option (σ ⊕ ρ)} {s0:σ} {out:ρ} (hl:iter f s0=some out)
    (E:σ→List (Nat×AV)) (H:σ→List (Nat×AObj)) (h0:Weak st ⟨E s0,H s0,st.next⟩)
    (body:∀ (s:σ) (o:σ ⊕ ρ),f s=some o→awp C nt x (W7 (fun s=>⟨E s,H s,st.next⟩) K (.inr out) o) ⟨E s,H s,st.next⟩):awp C nt (.loop x) K st:=by
  obtain ⟨k,hk⟩:=vk.1 hl
  refine VE (ι:={p:Nat×σ // iterN f p.1 p.2=some out}) (fun p=>⟨E p.1.2,H p.1.2,st.next⟩) (fun p=>p.1.1) ⟨(k,s0),hk⟩ (fun _=>Nat.le_refl _) h0 (Nat.le_refl _) ?_
  rintro ⟨⟨i,s⟩,hf⟩
  simp only at hf
  cases i with
  | zero=>cases hf
  | succ i=>
    simp only [iterN] at hf
    split at hf
    · cases hf
    · rename_i r hr
      cases hf
      refine jh ?_ (body s _ hr)
      intro e st' hK
      cases e with
      | normal=>obtain ⟨s',h1,_⟩:=hK;cases h1
      | _=>obtain ⟨y,h1,h2⟩:=hK;cases h1;exact h2 rfl
    · rename_i s' hr
      refine jh ?_ (body s _ hr)
      intro e st' hK
      cases e with
      | normal=>obtain ⟨s'',h1,h2⟩:=hK;cases h1;exact ⟨⟨(i,s'),hf⟩,by simp only;omega,h2⟩
      | _=>obtain ⟨y,h1,h2⟩:=hK;cases h1
theorem APure.start {C:Ctx} {f:Nat} {F:AFun} (hF:qm C f=some F.erase) {args:List IV} {r:IV} (d:Nat) (hn:args.length≤F.nt)
    (h:∀ B,awp C.plain ⟨F.nt,B⟩ F.body (JH F.results (XI d r)) {env:=qQ 0 (args.map .imm),heap:=[],next:=0}):APure C f args r:=APure.of (d:=d) (ACall.enter hF (by simpa using hn) (fun B=>jh (fun e st hk=>by
      have key:∀ {o:Option AV},ZS (XI d r) st.heap st.next o→∃ x,o=some x∧XI d r x st.heap st.next:=fun {o} ho=>by
        cases o with
        | none=>exact ho.elim
        | some x=>exact ⟨x,rfl,ho⟩
      cases e with
      | ret=>exact ⟨.inl rfl,key hk⟩
      | normal=>exact ⟨.inr rfl,key hk⟩
      | _=>exact hk.elim) (h B)))
end
section
def zb (n:Int):List IV:=[.int .i64 n]
def vC (k:IntKind) (n:Int):List IV:=[.int k n]
def zg (b:Bool):List IV:=[.bool b]
def zjb (s:ByteArray):List IV:=[.str s]
def qy {α:Type} (f:α→List IV) (l:List α):List IV:=[.slice (l.map f)]
def zl (r:List IV):List AV:=r.map .imm
abbrev vI (n:Int):AV:=.imm (.int .i64 n)
abbrev vB (b:Bool):AV:=.imm (.bool b)
def yY {α:Type} (l:List α) (a b:Int):Option (List α):=if 0≤a∧a≤b∧b≤(l.length:Int) then some ((l.take b.toNat).drop a.toNat) else none
theorem zbw {α:Type} {l:List α} {a b:Int} {e:List α} (h:yY l a b=some e):0≤a∧a≤b∧b≤(l.length:Int)∧(l.take b.toNat).drop a.toNat=e:=by
  unfold yY at h;split at h
  · rename_i hh;exact ⟨hh.1,hh.2.1,hh.2.2,Option.some.inj h⟩
  · cases h
def xa (k:IntKind) (a b:Int):Option Int:=if b=0 then none else some (a.tmod b)
theorem zbx {k:IntKind} {a b e:Int} (h:xa k a b=some e):¬ b=0∧a.tmod b=e:=by
  unfold xa at h;split at h
  · cases h
  · exact ⟨‹_›,Option.some.inj h⟩
attribute [simp] bne evalOp cellsOf wK xJ JF zB jZ qG xK jr yx xu qe kj j7 jz x6 q7 zY zi zZ qA bef Nat.testBit jm zL jY zE zI
attribute [simp] zb vC zg zjb qy zl
end
section
def qS (φ:Nat→Nat):AV→AV
  | .gslice i rows=>.gslice (φ i) rows
  | .ptr i r o=>.ptr (φ i) r o
  | .mslice i o l=>.mslice (φ i) o l
  | .map i=>.map (φ i)
  | .yld l i=>.yld l (φ i)
  | x=>x
def yZ (φ:Nat→Nat):AV→AV
  | .func f a c=>.func f (a.map (qS φ)) (c.map (qS φ))
  | .agg cs=>.agg (cs.map (qS φ))
  | .tuple cs=>.tuple (cs.map (qS φ))
  | x=>qS φ x
def wn (φ:Nat→Nat):AV→AV
  | .tuple cs=>.tuple (cs.map (yZ φ))
  | x=>yZ φ x
def wR (φ:Nat→Nat) (row:List AV):List AV:=row.map (wn φ)
def K8 (φ:Nat→Nat) (e:IV×AV):IV×AV:=(e.1,wn φ e.2)
def zP (φ:Nat→Nat):AObj→AObj
  | .rows sz rows=>.rows sz (rows.map (wR φ))
  | .tip sz l=>.tip sz l
  | .map es=>.map (es.map (K8 φ))
  | .dead=>.dead
  | .lp l R s pe=>.lp l R s pe
def rnH (φ:Nat→Nat):List (Nat×AObj)→List (Nat×AObj)
  | []=>[]
  | (k,o)::r=>(φ k,zP φ o)::rnH φ r
def rnL (φ:Nat→Nat) (l:List AV):List AV:=l.map (wn φ)
def zcQ (C:Ctx) (f:Nat) (args:List AV) (heap:List (Nat×AObj)) (next:Nat) (r:AV) (heap':List (Nat×AObj)) (next':Nat):Prop:=
  ACall C f args heap next fun x h n=>x=r∧h=heap'∧n=next'
section
variable {C:Ctx} {g g':Gh} {h h' h0:Nat→Option AObj} {N N' N0:Nat→Prop} {w w':World} {φ:Nat→Nat}
structure Ren (φ:Nat→Nat) (N0:Nat→Prop) (g0:Gh) (h0:Nat→Option AObj) (g:Gh) (h:Nat→Option AObj):Prop where
  rho:∀ i,N0 i→g0.ρ i=g.ρ (φ i)
  zed:g0.Z=g.Z
theorem vl {g0:Gh} {m:Nat} (hr:∀ i,i < m→g0.ρ i=g.ρ (φ i)) (hz:g0.Z=g.Z) (hh:∀ i o,h0 i=some o→h (φ i)=some (zP φ o)) {x:AV} {v:Value} (hb:zE m x=true) (hv:RV C g h N w (qS φ x) v):RV C g0 h0 (· < m) w x v:=by
  cases x with
  | top=>exact .top v
  | undef=>simp only [qS] at hv;cases hv;exact .undef
  | imm y=>simp only [qS] at hv;cases hv with | imm _ _ hr'=>exact .imm _ _ (by rw [hz];exact hr')
  | nil=>simp only [qS] at hv;cases hv;exact .nil
  | nnil=>simp only [qS] at hv;cases hv with | nnil a cap=>exact .nnil a cap
  | yld l id=>
    simp only [qS] at hv
    have hid:id < m:=by simpa [zE] using hb
    cases hv with
    | yld _ _ _ hp=>exact .yld l id hid fun R s pe h2=>by rw [hr id hid];exact hp R s pe (by rw [hh id _ h2];rfl)
  | gslice id rows=>
    simp only [qS] at hv
    have hid:id < m:=by simpa [zE] using hb
    cases hv with
    | gslice _ _ _ hr' _ ht=>
      refine .gslice id rows v (by rw [hz];exact hr') hid fun sz len h1 => ?_
      obtain ⟨a1,a2,a3⟩:=ht sz len (by rw [hh id _ h1];rfl)
      refine ⟨a1,a2,fun e => ?_⟩
      rcases a3 e with ⟨b1,b2⟩ | ⟨b,cap,c,e',b1,b2,b3,b4⟩
      · exact .inl ⟨by rw [hr id hid];exact b1,b2⟩
      · exact .inr ⟨b,cap,c,e',by rw [hr id hid];exact b1,b2,b3,b4⟩
  | eptr cells=>
    simp only [qS] at hv
    cases hv with
    | eptr _ b off cv hz' hc hr'=>exact .eptr cells b off cv (by rw [hz];exact hz') hc (by rw [hz];exact hr')
  | ptr id row off=>
    simp only [qS] at hv
    have hid:id < m:=by simpa [zE] using hb
    cases hv with
    | ptr _ _ _ _ _ h1 hp=>
      refine .ptr id row off v hid h1 fun sz rows h2 => ?_
      obtain ⟨b,b1,b2⟩:=hp sz _ (by rw [hh id _ h2];rfl)
      exact ⟨b,by rw [hr id hid];exact b1,b2⟩
  | mslice id off len=>
    simp only [qS] at hv
    have hid:id < m:=by simpa [zE] using hb
    cases hv with
    | mslice _ _ _ _ _ h1 hp=>
      refine .mslice id off len v hid h1 fun sz rows h2 => ?_
      obtain ⟨b1,b2⟩:=hp sz _ (by rw [hh id _ h2];rfl)
      simp only [List.length_map] at b1
      refine ⟨b1,?_⟩
      rcases b2 with ⟨c1,c2,c3⟩ | ⟨b,cap,c,e,c1,c2,c3,c4,c5⟩
      · exact .inl ⟨by rw [hr id hid];exact c1,by simpa using c2,c3⟩
      · exact .inr ⟨b,cap,c,e,by rw [hr id hid];exact c1,c2,c3,c4,c5⟩
  | map id=>
    simp only [qS] at hv
    have hid:id < m:=by simpa [zE] using hb
    cases hv with
    | map _ _ _ h1 hp=>
      refine .map id v hid h1 fun es h2 => ?_
      obtain ⟨b,b1,b2⟩:=hp _ (by rw [hh id _ h2];rfl)
      exact ⟨b,by rw [hr id hid];exact b1,b2⟩
  | func=>cases hb
  | agg=>cases hb
  | tuple=>cases hb
theorem qB {g0:Gh} {m:Nat} (hr:∀ i,i < m→g0.ρ i=g.ρ (φ i)) (hz:g0.Z=g.Z) (hh:∀ i o,h0 i=some o→h (φ i)=some (zP φ o)) {x:AV} {v:Value} (hb:jY m x=true) (hv:RV C g h N w (yZ φ x) v):RV C g0 h0 (· < m) w x v:=by
  cases x with
  | func f a c=>
    simp only [jY,Bool.and_eq_true,List.all_eq_true] at hb
    simp only [yZ] at hv
    cases hv with
    | func _ _ _ vf vc hlf hlc hf hc=>
      refine .func f a c vf vc (by simpa using hlf) (by simpa using hlc) (fun i y u h1 h2 => ?_) (fun i y u h1 h2 => ?_)
      · exact vl hr hz hh (hb.1 y (List.mem_of_getElem? h1)) (hf i _ u (by rw [List.getElem?_map,h1];rfl) h2)
      · exact vl hr hz hh (hb.2 y (List.mem_of_getElem? h1)) (hc i _ u (by rw [List.getElem?_map,h1];rfl) h2)
  | agg cs=>
    simp only [jY,List.all_eq_true] at hb
    simp only [yZ] at hv
    cases hv with
    | agg _ vs hl h1 hr'=>
      exact .agg cs vs (by simpa using hl) h1 fun i y u e1 e2=>vl hr hz hh (hb y (List.mem_of_getElem? e1)) (hr' i _ u (by rw [List.getElem?_map,e1];rfl) e2)
  | tuple cs=>
    simp only [jY,List.all_eq_true] at hb
    simp only [yZ] at hv
    cases hv with
    | tuple _ vs hl hr'=>
      exact .tuple cs vs (by simpa using hl) fun i y u e1 e2=>vl hr hz hh (hb y (List.mem_of_getElem? e1)) (hr' i _ u (by rw [List.getElem?_map,e1];rfl) e2)
  | _=>exact vl hr hz hh hb hv
theorem XJ {g0:Gh} {m:Nat} (hr:∀ i,i < m→g0.ρ i=g.ρ (φ i)) (hz:g0.Z=g.Z) (hh:∀ i o,h0 i=some o→h (φ i)=some (zP φ o)) {x:AV} {v:Value} (hb:zL m x=true) (hv:RV C g h N w (wn φ x) v):RV C g0 h0 (· < m) w x v:=by
  cases x with
  | tuple cs=>
    simp only [zL,List.all_eq_true] at hb
    simp only [wn] at hv
    cases hv with
    | tuple _ vs hl hr'=>
      exact .tuple cs vs (by simpa using hl) fun i y u e1 e2=>qB hr hz hh (hb y (List.mem_of_getElem? e1)) (hr' i _ u (by rw [List.getElem?_map,e1];rfl) e2)
  | top=>exact qB (x:=.top) hr hz hh hb hv
  | undef=>exact qB (x:=.undef) hr hz hh hb hv
  | imm y=>exact qB (x:=.imm y) hr hz hh hb hv
  | nil=>exact qB (x:=.nil) hr hz hh hb hv
  | nnil=>exact qB (x:=.nnil) hr hz hh hb hv
  | gslice a b=>exact qB (x:=.gslice a b) hr hz hh hb hv
  | eptr a=>exact qB (x:=.eptr a) hr hz hh hb hv
  | ptr a b c=>exact qB (x:=.ptr a b c) hr hz hh hb hv
  | mslice a b c=>exact qB (x:=.mslice a b c) hr hz hh hb hv
  | map a=>exact qB (x:=.map a) hr hz hh hb hv
  | func a b c=>exact qB (x:=.func a b c) hr hz hh hb hv
  | agg a=>exact qB (x:=.agg a) hr hz hh hb hv
  | yld a b=>exact qB (x:=.yld a b) hr hz hh hb hv
theorem qv {g0:Gh} {m:Nat} (hr:∀ i,i < m→g.ρ (φ i)=g0.ρ i) (hz:g0.Z=g.Z) (hN:∀ i,i < m→N (φ i)) (hh:∀ i o,i < m→h (φ i)=some o→∃ o0,h0 i=some o0∧o=zP φ o0) {x:AV} {v:Value} (hb:zE m x=true) (hv:RV C g0 h0 (· < m) w x v):RV C g h N w (qS φ x) v:=by
  cases hv with
  | top=>cases v<;>exact .top _
  | undef=>exact .undef
  | imm y _ hr'=>exact .imm _ _ (by rw [←hz];exact hr')
  | nil=>exact .nil
  | nnil a cap=>exact .nnil a cap
  | yld l id hid hp=>
    refine .yld l (φ id) (hN id hid) fun R s pe h2 => ?_
    obtain ⟨o0,e0,e1⟩:=hh id _ hid h2
    cases o0<;>simp only [zP] at e1<;>cases e1
    rw [hr id hid];exact hp _ _ _ e0
  | gslice id rows _ hr' hid ht=>
    refine .gslice (φ id) rows v (by rw [←hz];exact hr') (hN id hid) fun sz len h1 => ?_
    obtain ⟨o0,e0,e1⟩:=hh id _ hid h1
    cases o0<;>simp only [zP] at e1<;>cases e1
    obtain ⟨a1,a2,a3⟩:=ht _ _ e0
    refine ⟨a1,a2,fun e => ?_⟩
    rcases a3 e with ⟨b1,b2⟩ | ⟨b,cap,c,e',b1,b2,b3,b4⟩
    · exact .inl ⟨by rw [hr id hid];exact b1,b2⟩
    · exact .inr ⟨b,cap,c,e',by rw [hr id hid];exact b1,b2,b3,b4⟩
  | eptr cells b off cv hz' hc hr'=>exact .eptr cells b off cv (by rw [←hz];exact hz') hc (by rw [←hz];exact hr')
  | ptr id row off _ hid h1 hp=>
    refine .ptr (φ id) row off v (hN id hid) h1 fun sz rows h2 => ?_
    obtain ⟨o0,e0,e1⟩:=hh id _ hid h2
    cases o0<;>simp only [zP] at e1<;>cases e1
    obtain ⟨b,b1,b2⟩:=hp _ _ e0
    exact ⟨b,by rw [hr id hid];exact b1,b2⟩
  | mslice id off len _ hid h1 hp=>
    refine .mslice (φ id) off len v (hN id hid) h1 fun sz rows h2 => ?_
    obtain ⟨o0,e0,e1⟩:=hh id _ hid h2
    cases o0<;>simp only [zP] at e1<;>cases e1
    obtain ⟨b1,b2⟩:=hp _ _ e0
    refine ⟨by simpa using b1,?_⟩
    rcases b2 with ⟨c1,c2,c3⟩ | ⟨b,cap,c,e,c1,c2,c3,c4,c5⟩
    · exact .inl ⟨by rw [hr id hid];exact c1,by rw [c2];rfl,c3⟩
    · exact .inr ⟨b,cap,c,e,by rw [hr id hid];exact c1,c2,c3,c4,c5⟩
  | map id _ hid h1 hp=>
    refine .map (φ id) v (hN id hid) h1 fun es h2 => ?_
    obtain ⟨o0,e0,e1⟩:=hh id _ hid h2
    cases o0<;>simp only [zP] at e1<;>cases e1
    obtain ⟨b,b1,b2⟩:=hp _ e0
    exact ⟨b,by rw [hr id hid];exact b1,b2⟩
  | func=>cases hb
  | agg=>cases hb
  | tuple=>cases hb
theorem qV {g0:Gh} {m:Nat} (hr:∀ i,i < m→g.ρ (φ i)=g0.ρ i) (hz:g0.Z=g.Z) (hN:∀ i,i < m→N (φ i)) (hh:∀ i o,i < m→h (φ i)=some o→∃ o0,h0 i=some o0∧o=zP φ o0) {x:AV} {v:Value} (hb:jY m x=true) (hv:RV C g0 h0 (· < m) w x v):RV C g h N w (yZ φ x) v:=by
  cases x with
  | func f a c=>
    simp only [jY,Bool.and_eq_true,List.all_eq_true] at hb
    simp only [yZ]
    cases hv with
    | func _ _ _ vf vc hlf hlc hf hc=>
      refine .func f _ _ vf vc (by simpa using hlf) (by simpa using hlc) (fun i y u h1 h2 => ?_) (fun i y u h1 h2 => ?_)
      · rw [List.getElem?_map,Option.map_eq_some_iff] at h1
        obtain ⟨z,h1,rfl⟩:=h1
        exact qv hr hz hN hh (hb.1 z (List.mem_of_getElem? h1)) (hf i z u h1 h2)
      · rw [List.getElem?_map,Option.map_eq_some_iff] at h1
        obtain ⟨z,h1,rfl⟩:=h1
        exact qv hr hz hN hh (hb.2 z (List.mem_of_getElem? h1)) (hc i z u h1 h2)
  | agg cs=>
    simp only [jY,List.all_eq_true] at hb
    simp only [yZ]
    cases hv with
    | agg _ vs hl h1 hr'=>
      refine .agg _ vs (by simpa using hl) h1 fun i y u e1 e2 => ?_
      rw [List.getElem?_map,Option.map_eq_some_iff] at e1
      obtain ⟨z,e1,rfl⟩:=e1
      exact qv hr hz hN hh (hb z (List.mem_of_getElem? e1)) (hr' i z u e1 e2)
  | tuple cs=>
    simp only [jY,List.all_eq_true] at hb
    simp only [yZ]
    cases hv with
    | tuple _ vs hl hr'=>
      refine .tuple _ vs (by simpa using hl) fun i y u e1 e2 => ?_
      rw [List.getElem?_map,Option.map_eq_some_iff] at e1
      obtain ⟨z,e1,rfl⟩:=e1
      exact qv hr hz hN hh (hb z (List.mem_of_getElem? e1)) (hr' i z u e1 e2)
  | top=>exact qv (x:=.top) hr hz hN hh hb hv
  | undef=>exact qv (x:=.undef) hr hz hN hh hb hv
  | imm y=>exact qv (x:=.imm y) hr hz hN hh hb hv
  | nil=>exact qv (x:=.nil) hr hz hN hh hb hv
  | nnil=>exact qv (x:=.nnil) hr hz hN hh hb hv
  | gslice a b=>exact qv (x:=.gslice a b) hr hz hN hh hb hv
  | eptr a=>exact qv (x:=.eptr a) hr hz hN hh hb hv
  | ptr a b c=>exact qv (x:=.ptr a b c) hr hz hN hh hb hv
  | mslice a b c=>exact qv (x:=.mslice a b c) hr hz hN hh hb hv
  | map a=>exact qv (x:=.map a) hr hz hN hh hb hv
  | yld a b=>exact qv (x:=.yld a b) hr hz hN hh hb hv
theorem VN {g0:Gh} {m:Nat} (hr:∀ i,i < m→g.ρ (φ i)=g0.ρ i) (hz:g0.Z=g.Z) (hN:∀ i,i < m→N (φ i)) (hh:∀ i o,i < m→h (φ i)=some o→∃ o0,h0 i=some o0∧o=zP φ o0) {x:AV} {v:Value} (hb:zL m x=true) (hv:RV C g0 h0 (· < m) w x v):RV C g h N w (wn φ x) v:=by
  cases x with
  | tuple cs=>
    simp only [zL,List.all_eq_true] at hb
    simp only [wn]
    cases hv with
    | tuple _ vs hl hr'=>
      refine .tuple _ vs (by simpa using hl) fun i y u e1 e2 => ?_
      rw [List.getElem?_map,Option.map_eq_some_iff] at e1
      obtain ⟨z,e1,rfl⟩:=e1
      exact qV hr hz hN hh (hb z (List.mem_of_getElem? e1)) (hr' i z u e1 e2)
  | top=>exact qV (x:=.top) hr hz hN hh hb hv
  | undef=>exact qV (x:=.undef) hr hz hN hh hb hv
  | imm y=>exact qV (x:=.imm y) hr hz hN hh hb hv
  | nil=>exact qV (x:=.nil) hr hz hN hh hb hv
  | nnil=>exact qV (x:=.nnil) hr hz hN hh hb hv
  | gslice a b=>exact qV (x:=.gslice a b) hr hz hN hh hb hv
  | eptr a=>exact qV (x:=.eptr a) hr hz hN hh hb hv
  | ptr a b c=>exact qV (x:=.ptr a b c) hr hz hN hh hb hv
  | mslice a b c=>exact qV (x:=.mslice a b c) hr hz hN hh hb hv
  | map a=>exact qV (x:=.map a) hr hz hN hh hb hv
  | func a b c=>exact qV (x:=.func a b c) hr hz hN hh hb hv
  | agg a=>exact qV (x:=.agg a) hr hz hN hh hb hv
  | yld a b=>exact qV (x:=.yld a b) hr hz hN hh hb hv
theorem zcR {g0:Gh} {m b:Nat} (hr:∀ i,i < m→g0.ρ i=g.ρ (φ i)) (hz:g0.Z=g.Z) (hh:∀ i o,h0 i=some o→h (φ i)=some (zP φ o)) {o:AObj} (hb:zI m o) (hv:RObj C g h N w b (zP φ o)):RObj C g0 h0 (· < m) w b o:=by
  cases o with
  | rows sz rows=>
    simp only [zP,RObj] at hv ⊢
    obtain ⟨a1,c,e,a2,a3,a4⟩:=hv
    refine ⟨by rw [hz];exact a1,c,e,a2,fun i row h1 => ?_,fun i row j x h1 h2 => ?_⟩
    · have:=a3 i (wR φ row) (by rw [List.getElem?_map,h1];rfl);simpa [wR] using this
    · obtain ⟨cv,b1,b2,b3⟩:=a4 i (wR φ row) j (wn φ x) (by rw [List.getElem?_map,h1];rfl) (by simp only [wR];rw [List.getElem?_map,h2];rfl)
      exact ⟨cv,b1,b2,XJ hr hz hh (hb row (List.mem_of_getElem? h1) x (List.mem_of_getElem? h2)) b3⟩
  | tip sz l=>simp only [zP,RObj] at hv ⊢; rw [hz];exact hv
  | map es=>
    simp only [zP,RObj] at hv ⊢
    obtain ⟨a1,ces,clock,a2,a3,a4⟩:=hv
    refine ⟨by rw [hz];exact a1,ces,clock,a2,by simpa using a3,fun i k x h1 => ?_⟩
    obtain ⟨e,b1,b2,b3⟩:=a4 i k (wn φ x) (by rw [List.getElem?_map,h1];rfl)
    exact ⟨e,b1,b2,XJ hr hz hh (hb _ (List.mem_of_getElem? h1)) b3⟩
  | dead=>trivial
  | lp l R s pe=>simp only [zP,RObj] at hv ⊢; rw [hz];exact hv
theorem zej {g0:Gh} {m b:Nat} (hr:∀ i,i < m→g.ρ (φ i)=g0.ρ i) (hz:g0.Z=g.Z) (hN:∀ i,i < m→N (φ i)) (hh:∀ i o,i < m→h (φ i)=some o→∃ o0,h0 i=some o0∧o=zP φ o0) {o:AObj} (hb:zI m o) (hv:RObj C g0 h0 (· < m) w b o):RObj C g h N w b (zP φ o):=by
  cases o with
  | rows sz rows=>
    simp only [zP,RObj] at hv ⊢
    obtain ⟨a1,c,e,a2,a3,a4⟩:=hv
    refine ⟨by rw [←hz];exact a1,c,e,a2,fun i row h1 => ?_,fun i row j x h1 h2 => ?_⟩
    · rw [List.getElem?_map,Option.map_eq_some_iff] at h1
      obtain ⟨z,h1,rfl⟩:=h1
      simpa [wR] using a3 i z h1
    · rw [List.getElem?_map,Option.map_eq_some_iff] at h1
      obtain ⟨z,h1,rfl⟩:=h1
      simp only [wR] at h2
      rw [List.getElem?_map,Option.map_eq_some_iff] at h2
      obtain ⟨y,h2,rfl⟩:=h2
      obtain ⟨cv,b1,b2,b3⟩:=a4 i z j y h1 h2
      exact ⟨cv,b1,b2,VN hr hz hN hh (hb z (List.mem_of_getElem? h1) y (List.mem_of_getElem? h2)) b3⟩
  | tip sz l=>simp only [zP,RObj] at hv ⊢; rw [←hz];exact hv
  | map es=>
    simp only [zP,RObj] at hv ⊢
    obtain ⟨a1,ces,clock,a2,a3,a4⟩:=hv
    refine ⟨by rw [←hz];exact a1,ces,clock,a2,by simpa using a3,fun i k x h1 => ?_⟩
    rw [List.getElem?_map,Option.map_eq_some_iff] at h1
    obtain ⟨z,h1,h2⟩:=h1
    simp only [K8] at h2
    cases h2
    obtain ⟨e,b1,b2,b3⟩:=a4 i z.1 z.2 h1
    exact ⟨e,b1,b2,VN hr hz hN hh (hb _ (List.mem_of_getElem? h1)) b3⟩
  | dead=>trivial
  | lp l R s pe=>simp only [zP,RObj] at hv ⊢; rw [←hz];exact hv
theorem Qq {n:Nat} (inj:∀ i j,i < n→j < n→φ i=φ j→i=j):∀ {l:List (Nat×AObj)},(∀ p∈l,p.1 < n)→∀ i,i < n→hup (rnH φ l) h (φ i)=match za l i with
    | some o=>some (zP φ o)
    | none=>h (φ i)
  | [],_,i,hi=>rfl
  | (k,o)::r,hl,i,hi=>by
    simp only [rnH,hup,za]
    by_cases e:k=i
    · subst e;rw [if_pos rfl,if_pos rfl]
    · rw [if_neg e,if_neg (fun h=>e (inj k i (hl (k,o) (by simp)) hi h))]
      exact Qq inj (fun p hp=>hl p (by simp [hp])) i hi
theorem wS {n:Nat}:∀ {l:List (Nat×AObj)},(∀ p∈l,p.1 < n)→∀ j,(∀ i,i < n→φ i≠j)→hup (rnH φ l) h j=h j
  | [],_,j,hj=>rfl
  | (k,o)::r,hl,j,hj=>by
    simp only [rnH,hup]
    rw [if_neg (hj k (hl (k,o) (by simp)))]
    exact wS (fun p hp=>hl p (by simp [hp])) j hj
open Classical in
noncomputable def inv (φ:Nat→Nat) (n j:Nat):Option Nat:=if h:∃ i,i < n∧φ i=j then some h.choose else none
theorem zfg {n i:Nat} (inj:∀ i j,i < n→j < n→φ i=φ j→i=j) (hi:i < n):inv φ n (φ i)=some i:=by
  unfold inv
  have h:∃ k,k < n∧φ k=φ i:=⟨i,hi,rfl⟩
  rw [dif_pos h]
  have:=h.choose_spec
  rw [inj _ _ this.1 hi this.2]
theorem qn {n i j:Nat} (h:inv φ n j=some i):i < n∧φ i=j:=by
  unfold inv at h
  split at h
  · rename_i hh;cases h;exact hh.choose_spec
  · cases h
theorem wp {n j:Nat} (h:inv φ n j=none):∀ i,i < n→φ i≠j:=by
  unfold inv at h
  split at h
  · cases h
  · rename_i hh;exact fun i hi e=>hh ⟨i,hi,e⟩
theorem frame {f m n1:Nat} {args0:List AV} {heap0 heap1:List (Nat×AObj)} {r0:AV} (hc:zcQ C f args0 heap0 m r0 heap1 n1)
    (hk0:∀ p∈heap0,p.1 < m∧zI m p.2) (hka:∀ x∈args0,zL m x=true) (hk1:∀ p∈heap1,p.1 < n1∧zI n1 p.2) (hr0:zL n1 r0=true)
    (hall:∀ i,i < m→(za heap1 i).isSome=true) (inj:∀ i j,i < n1→j < n1→φ i=φ j→i=j)
    (hB:∀ i o,za heap0 i=some o→h (φ i)=some (zP φ o)) (hN:∀ i,i < m→N (φ i)) (hfr:∀ i,m≤i→i < n1→¬ N (φ i)) (hN1:∀ j,N j→N' j) (hN2:∀ i,i < n1→N' (φ i))
    {vs:List Value} (R:RH C g h N w) (hv:RVs C g h N w (rnL φ args0) vs) (hm:m≤n1) :
    Calls C.P (C.fnum f) vs.toArray w fun e w'=>∃ v g',e=.returned v∧Evo g h N w g' (hup (rnH φ heap1) h) N' w'∧RH C g' (hup (rnH φ heap1) h) N' w'∧RV C g' (hup (rnH φ heap1) h) N' w' (wn φ r0) v:=by
  let g0:Gh:=⟨fun i=>if i < m then g.ρ (φ i) else none,g.Z⟩
  have hrho:∀ i,i < m→g0.ρ i=g.ρ (φ i):=fun i hi=>if_pos hi
  have hrho':∀ i b,g0.ρ i=some b→i < m∧g.ρ (φ i)=some b:=fun i b hb=>by
    simp only [g0] at hb
    split at hb
    · exact ⟨‹_›,hb⟩
    · cases hb
  have hh0:∀ i o,za heap0 i=some o→i < m∧zI m o:=fun i o ho=>hk0 (i,o) (qR ho)
  have R0:RH C g0 (za heap0) (· < m) w:={
    inj:=fun i j b h1 h2=>by
      obtain ⟨a1,a2⟩:=hrho' i b h1
      obtain ⟨b1,b2⟩:=hrho' j b h2
      exact inj i j (by omega) (by omega) (R.inj _ _ b a2 b2)
    lt:=fun i b h1=>by
      obtain ⟨a1,a2⟩:=hrho' i b h1
      exact ⟨(R.lt _ b a2).1,a1⟩
    key:=fun i o ho=>(hh0 i o ho).1
    obj:=fun i b o h1 ho=>by
      obtain ⟨a1,a2⟩:=hrho' i b h1
      exact zcR hrho rfl hB (hh0 i o ho).2 (R.obj _ b _ a2 (hB i o ho))
    tip0:=fun i sz len ho h1=>by
      have hi:=(hh0 i _ ho).1
      exact R.tip0 (φ i) sz len (hB i _ ho) (by rw [←hrho i hi];exact h1)
    zlt:=R.zlt
    fix:=⟨R.fix.1,R.fix.2.1,fun b hb ⟨i,hi⟩=>R.fix.2.2 b hb ⟨_,(hrho' i b hi).2⟩⟩}
  have hv0:RVs C g0 (za heap0) (· < m) w args0 vs:=⟨by have:=hv.1;simpa [rnL] using this,fun j x u h1 h2=>
    XJ hrho rfl hB (hka x (List.mem_of_getElem? h1)) (hv.2 j (wn φ x) u (by simp only [rnL];rw [List.getElem?_map,h1];rfl) h2)⟩
  refine (hc.2 g0 w vs R0 hv0).mono ?_
  rintro e w' ⟨v,r,hp1,nx,g1,rfl,⟨e1,e2,e3⟩,E0,R1,hr1⟩
  rw [e2,e3] at E0 R1
  rw [e1,e2,e3] at hr1
  clear e1 e2 e3
  have hl1:∀ p∈heap1,p.1 < n1:=fun p hp=>(hk1 p hp).1
  have hh1:∀ i o,za heap1 i=some o→i < n1∧zI n1 o:=fun i o ho=>hk1 (i,o) (qR ho)
  let g':Gh:=⟨fun j=>match inv φ n1 j with | some i=>g1.ρ i | none=>g.ρ j,g1.Z⟩
  have hg1:∀ i,i < n1→g'.ρ (φ i)=g1.ρ i:=fun i hi=>by simp only [g',zfg inj hi]
  have hgo:∀ j,inv φ n1 j=none→g'.ρ j=g.ρ j:=fun j hj=>by simp only [g',hj]
  have hin:∀ i,i < n1→hup (rnH φ heap1) h (φ i)=match za heap1 i with | some o=>some (zP φ o) | none=>h (φ i):=Qq inj hl1
  have hoff:∀ j,inv φ n1 j=none→hup (rnH φ heap1) h j=h j:=fun j hj=>wS hl1 j (wp hj)
  have hfwd:∀ i o,i < n1→hup (rnH φ heap1) h (φ i)=some o→∃ o0,za heap1 i=some o0∧o=zP φ o0:=fun i o hi ho=>by
    rw [hin i hi] at ho
    cases ha:za heap1 i with
    | some o0=>rw [ha] at ho;simp only [Option.some.injEq] at ho;exact ⟨o0,rfl,ho.symm⟩
    | none=>
      rw [ha] at ho
      simp only at ho
      rcases Nat.lt_or_ge i m with h1 | h1
      · have:=hall i h1;rw [ha] at this;cases this
      · exact absurd (R.key _ _ ho) (hfr i h1 hi)
  have hNi:∀ j,N j→∀ i,inv φ n1 j=some i→i < m:=fun j hj i hi=>by
    obtain ⟨h1,h2⟩:=qn hi
    rcases Nat.lt_or_ge i m with h3 | h3
    · exact h3
    · exact absurd (by rw [h2];exact hj) (hfr i h3 h1)
  have E:Evo g h N w g' (hup (rnH φ heap1) h) N' w':={
    os:=E0.os
    tape:=E0.tape
    output:=E0.output
    size:=E0.size
    old:=fun b hb ho=>E0.old b hb (fun ⟨i,hi⟩=>ho ⟨φ i,(hrho' i b hi).2⟩)
    own:=fun b ⟨j,hj⟩=>by
      cases hi:inv φ n1 j with
      | some i=>
        obtain ⟨h1,rfl⟩:=qn hi
        rw [hg1 i h1] at hj
        rcases E0.own b ⟨i,hj⟩ with ⟨k,hk⟩ | hk
        · exact .inl ⟨φ k,(hrho' k b hk).2⟩
        · exact .inr hk
      | none=>rw [hgo j hi] at hj;exact .inl ⟨j,hj⟩
    zmono:=E0.zmono
    cell:=E0.cell
    shape:=E0.shape
    next:=hN1
    rho:=fun j b hb o ho hnd hj=>by
      cases hi:inv φ n1 j with
      | some i=>
        have him:=hNi j hj i hi
        obtain ⟨h1,rfl⟩:=qn hi
        obtain ⟨o0,e0,rfl⟩:=hfwd i o h1 ho
        rw [hg1 i h1]
        rcases E0.rho i b (by rw [hrho i him];exact hb) o0 e0 (fun e=>hnd (by rw [e];rfl)) him with h3 | ⟨sz,l,sz',l',h3,h4,h5⟩
        · exact .inl h3
        · subst h4;exact .inr ⟨sz,l,sz',l',by rw [hB i _ h3];rfl,rfl,h5⟩
      | none=>rw [hgo j hi];exact .inl hb
    rho0:=fun j hb hj o ho hnd=>by
      cases hi:inv φ n1 j with
      | some i=>
        have him:=hNi j hj i hi
        obtain ⟨h1,rfl⟩:=qn hi
        obtain ⟨o0,e0,rfl⟩:=hfwd i o h1 ho
        rw [hg1 i h1]
        rcases E0.rho0 i (by rw [hrho i him];exact hb) him o0 e0 (fun e=>hnd (by rw [e];rfl)) with h3 | ⟨sz,l,sz',l',h3,h4,h5⟩
        · exact .inl h3
        · subst h4;exact .inr ⟨sz,l,sz',l',by rw [hB i _ h3];rfl,rfl,h5⟩
      | none=>rw [hgo j hi];exact .inl hb
    rows:=fun j hj sz rows ho=>by
      cases hi:inv φ n1 j with
      | some i=>
        have him:=hNi j hj i hi
        obtain ⟨h1,rfl⟩:=qn hi
        obtain ⟨o0,e0,e1⟩:=hfwd i _ h1 ho
        cases o0<;>simp only [zP] at e1<;>cases e1
        obtain ⟨r2,h3,h4⟩:=E0.rows i him _ _ e0
        exact ⟨_,by rw [hB i _ h3];rfl,by simpa using h4⟩
      | none=>rw [hoff j hi] at ho;exact ⟨rows,ho,rfl⟩
    tips:=fun j hj sz len ho=>by
      cases hi:inv φ n1 j with
      | some i=>
        have him:=hNi j hj i hi
        obtain ⟨h1,rfl⟩:=qn hi
        obtain ⟨o0,e0,e1⟩:=hfwd i _ h1 ho
        cases o0<;>simp only [zP] at e1<;>cases e1
        obtain ⟨l2,h3,h4⟩:=E0.tips i him _ _ e0
        exact ⟨l2,by rw [hB i _ h3];rfl,h4⟩
      | none=>rw [hoff j hi] at ho;exact ⟨len,ho,Nat.le_refl _⟩
    maps:=fun j hj es ho=>by
      cases hi:inv φ n1 j with
      | some i=>
        have him:=hNi j hj i hi
        obtain ⟨h1,rfl⟩:=qn hi
        obtain ⟨o0,e0,e1⟩:=hfwd i _ h1 ho
        cases o0<;>simp only [zP] at e1<;>cases e1
        obtain ⟨e2,h3⟩:=E0.maps i him _ e0
        exact ⟨_,by rw [hB i _ h3];rfl⟩
      | none=>rw [hoff j hi] at ho;exact ⟨es,ho⟩
    lps:=fun j hj ll RR s pe ho=>by
      cases hi:inv φ n1 j with
      | some i=>
        have him:=hNi j hj i hi
        obtain ⟨h1,rfl⟩:=qn hi
        obtain ⟨o0,e0,e1⟩:=hfwd i _ h1 ho
        cases o0<;>simp only [zP] at e1<;>cases e1
        obtain ⟨e2,e3,h3⟩:=E0.lps i him _ _ _ _ e0
        exact ⟨_,_,by rw [hB i _ h3];rfl⟩
      | none=>rw [hoff j hi] at ho;exact ⟨s,pe,ho⟩}
  have hR:RH C g' (hup (rnH φ heap1) h) N' w':={
    inj:=fun i j b h1 h2=>by
      cases hi:inv φ n1 i with
      | some i0=>
        obtain ⟨a1,rfl⟩:=qn hi
        rw [hg1 i0 a1] at h1
        cases hj:inv φ n1 j with
        | some j0=>
          obtain ⟨b1,rfl⟩:=qn hj
          rw [hg1 j0 b1] at h2
          rw [R1.inj i0 j0 b h1 h2]
        | none=>
          rw [hgo j hj] at h2
          rcases E0.own b ⟨i0,h1⟩ with ⟨k,hk⟩ | hk
          · obtain ⟨k1,k2⟩:=hrho' k b hk
            have:=R.inj _ _ b k2 h2
            exact absurd this (wp hj k (by omega))
          · have:=(R.lt j b h2).1;omega
      | none=>
        rw [hgo i hi] at h1
        cases hj:inv φ n1 j with
        | some j0=>
          obtain ⟨b1,rfl⟩:=qn hj
          rw [hg1 j0 b1] at h2
          rcases E0.own b ⟨j0,h2⟩ with ⟨k,hk⟩ | hk
          · obtain ⟨k1,k2⟩:=hrho' k b hk
            have:=R.inj _ _ b k2 h1
            exact absurd this (wp hi k (by omega))
          · have:=(R.lt i b h1).1;omega
        | none=>
          rw [hgo j hj] at h2
          exact R.inj i j b h1 h2
    lt:=fun i b h1=>by
      cases hi:inv φ n1 i with
      | some i0=>
        obtain ⟨a1,rfl⟩:=qn hi
        rw [hg1 i0 a1] at h1
        exact ⟨(R1.lt i0 b h1).1,hN2 i0 a1⟩
      | none=>
        rw [hgo i hi] at h1
        obtain ⟨a1,a2⟩:=R.lt i b h1
        exact ⟨Nat.lt_of_lt_of_le a1 E0.size,hN1 i a2⟩
    key:=fun i o ho=>by
      cases hi:inv φ n1 i with
      | some i0=>obtain ⟨a1,rfl⟩:=qn hi;exact hN2 i0 a1
      | none=>rw [hoff i hi] at ho;exact hN1 i (R.key i o ho)
    obj:=fun i b o h1 ho=>by
      cases hi:inv φ n1 i with
      | some i0=>
        obtain ⟨a1,rfl⟩:=qn hi
        rw [hg1 i0 a1] at h1
        obtain ⟨o0,e0,rfl⟩:=hfwd i0 o a1 ho
        exact zej (fun i hi=>hg1 i hi) rfl hN2 hfwd (hh1 i0 o0 e0).2 (R1.obj i0 b o0 h1 e0)
      | none=>
        rw [hgo i hi] at h1
        rw [hoff i hi] at ho
        have hro:=R.obj i b o h1 ho
        have hno:¬ xW g0 b:=fun ⟨k,hk⟩=>by
          obtain ⟨k1,k2⟩:=hrho' k b hk
          exact wp hi k (by omega) (R.inj _ _ b k2 h1)
        obtain ⟨q1,q2⟩:=E0.old b (R.lt i b h1).1 hno
        have q2':g'.Z b=g.Z b:=q2
        cases o with
        | rows sz rows=>
          simp only [RObj] at hro ⊢
          obtain ⟨a1,c,e,a2,a3,a4⟩:=hro
          refine ⟨by rw [q2'];exact a1,c,e,by rw [q1];exact a2,a3,fun i row j x u1 u2 => ?_⟩
          obtain ⟨cv,b1,b2,b3⟩:=a4 i row j x u1 u2
          exact ⟨cv,b1,b2,b3.mono E⟩
        | tip sz l=>
          simp only [RObj] at hro ⊢
          rw [q1,q2']
          exact hro
        | map es=>
          simp only [RObj] at hro ⊢
          obtain ⟨a1,ces,clock,a2,a3,a4⟩:=hro
          refine ⟨by rw [q2'];exact a1,ces,clock,by rw [q1];exact a2,a3,fun i k x u1 => ?_⟩
          obtain ⟨e,b1,b2,b3⟩:=a4 i k x u1
          exact ⟨e,b1,b2,b3.mono E⟩
        | dead=>trivial
        | lp l R s pe=>
          simp only [RObj] at hro ⊢
          rw [q1,q2']
          exact hro
    tip0:=fun i sz len ho h1=>by
      cases hi:inv φ n1 i with
      | some i0=>
        obtain ⟨a1,rfl⟩:=qn hi
        rw [hg1 i0 a1] at h1
        obtain ⟨o0,e0,e1⟩:=hfwd i0 _ a1 ho
        cases o0<;>simp only [zP] at e1<;>cases e1
        exact R1.tip0 i0 _ _ e0 h1
      | none=>
        rw [hgo i hi] at h1
        rw [hoff i hi] at ho
        exact R.tip0 i sz len ho h1
    zlt:=R1.zlt
    fix:=R.fix.evo E}
  exact ⟨v,g',rfl,E,hR,VN (fun i hi=>hg1 i hi) rfl hN2 hfwd hr0 hr1⟩
end
end
inductive AllP:List Prop→Prop where
  | nil:AllP []
  | cons {p:Prop} {ps:List Prop} (h:p) (t:AllP ps):AllP (p::ps)
theorem AllP.app:∀ {ps qs:List Prop},AllP (ps++qs)→AllP ps∧AllP qs
  | [],qs,h=>⟨.nil,h⟩
  | p::ps,qs,h=>by
    cases h with
    | cons h t=>exact ⟨.cons h (AllP.app t).1,(AllP.app t).2⟩
theorem AllP.one {p:Prop} (h:AllP [p]):p:=by cases h;assumption
structure DOk (C:Ctx) (f:Nat) (args0:List AV) (heap0:List (Nat×AObj)) (m:Nat) (r0:AV) (heap1:List (Nat×AObj)) (d:Nat):Prop where
  det:zcQ C f args0 heap0 m r0 heap1 (m+d)
  k0:∀ p∈heap0,p.1 < m∧zI m p.2
  ka:∀ x∈args0,zL m x=true
  k1:∀ p∈heap1,p.1 < m+d∧zI (m+d) p.2
  kr:zL (m+d) r0=true
  all:∀ i,i < m→(za heap1 i).isSome=true
  all0:∀ i,i < m→(za heap0 i).isSome=true
def phi (l:List Nat) (m next:Nat):Nat→Nat:=fun i=>if i < m then l.getD i 0 else next+(i - m)
def ZT:List Nat→Bool
  | []=>true
  | x::r=>!(r.contains x)&&ZT r
inductive Thin (h0:List (Nat×AObj)):List (Nat×AObj)→List (Nat×AObj)→Prop where
  | nil:Thin h0 [] []
  | keep {k:Nat} {o:AObj} {r s:List (Nat×AObj)} (t:Thin h0 r s):Thin h0 ((k,o)::r) ((k,o)::s)
  | drop {k:Nat} {o:AObj} {r s:List (Nat×AObj)} (hk:za h0 k=some o) (hs:za s k=none) (t:Thin h0 r s):Thin h0 ((k,o)::r) s
theorem Thin.get {h0 h1 h2:List (Nat×AObj)} (t:Thin h0 h1 h2):∀ i,za h1 i=za h2 i∨(za h2 i=none∧za h1 i=za h0 i):=by
  induction t with
  | nil=>exact fun i=>.inl rfl
  | keep t ih=>
    intro i
    simp only [za]
    split
    · exact .inl rfl
    · exact ih i
  | drop hk hs t ih=>
    intro i
    simp only [za]
    split
    · rename_i e;subst e;exact .inr ⟨hs,hk.symm⟩
    · exact ih i
theorem Thin.sub {h0 h1 h2:List (Nat×AObj)} (t:Thin h0 h1 h2):∀ p∈h2,p∈h1:=by
  induction t with
  | nil=>exact fun p hp=>hp
  | keep t ih=>
    intro p hp
    rcases List.mem_cons.1 hp with e | e
    · rw [e];simp
    · exact List.mem_cons_of_mem _ (ih p e)
  | drop hk hs t ih=>exact fun p hp=>List.mem_cons_of_mem _ (ih p hp)
theorem VO {φ:Nat→Nat} {n:Nat} {h:Nat→Option AObj} {h0 h1 h2:List (Nat×AObj)} (inj:∀ i j,i < n→j < n→φ i=φ j→i=j) (hl:∀ p∈h1,p.1 < n) (hB:∀ i o,za h0 i=some o→h (φ i)=some (zP φ o)) (t:Thin h0 h1 h2):hup (rnH φ h1) h=hup (rnH φ h2) h:=by
  funext j
  cases hj:inv φ n j with
  | some i=>
    obtain ⟨hi,rfl⟩:=qn hj
    rw [Qq inj hl i hi,Qq inj (fun p hp=>hl p (t.sub p hp)) i hi]
    rcases t.get i with e | ⟨e1,e2⟩
    · rw [e]
    · rw [e1,e2]
      cases ho:za h0 i with
      | none=>rfl
      | some o=>simp only;rw [hB i o ho]
  | none=>rw [wS hl j (wp hj),wS (fun p hp=>hl p (t.sub p hp)) j (wp hj)]
def CallP (C:Ctx) (f:Nat) (args:List AV) (l:List Nat) (m next:Nat) (objs:List (Nat×AObj)) (r:AV) (ups:List (Nat×AObj)) (d:Nat):Prop:=
  ∃ args0 heap0 r0 heap1 heap2,DOk C f args0 heap0 m r0 heap1 d∧Thin heap0 heap1 heap2∧rnL (phi l m next) args0=args∧rnH (phi l m next) heap0=objs∧wn (phi l m next) r0=r∧rnH (phi l m next) heap2=ups
theorem zh {C:Ctx} {f m d:Nat} {args0:List AV} {heap0 heap1 heap2 objs ups:List (Nat×AObj)} {r0:AV} (hd:DOk C f args0 heap0 m r0 heap1 d) (l:List Nat) (next:Nat) (ht:Thin heap0 heap1 heap2) (ho:rnH (phi l m next) heap0=objs) (hu:rnH (phi l m next) heap2=ups) :
    CallP C f (rnL (phi l m next) args0) l m next objs (wn (phi l m next) r0) ups d:=⟨args0,heap0,r0,heap1,heap2,hd,ht,rfl,ho,rfl,hu⟩
def xi (heap:List (Nat×AObj)):List Nat→Option (List (Nat×AObj))
  | []=>some []
  | i::l=>match za heap i with
    | none=>none
    | some o=>match xi heap l with
      | some r=>some ((i,o)::r)
      | none=>none
theorem vn {heap:List (Nat×AObj)}:∀ {l:List Nat} {objs:List (Nat×AObj)},xi heap l=some objs→∀ p∈objs,za heap p.1=some p.2
  | [],objs,h=>by cases h;intro p hp;cases hp
  | i::l,objs,h=>by
    simp only [xi] at h
    split at h
    · cases h
    · rename_i o ho
      split at h
      · rename_i r hr
        cases h
        intro p hp
        rcases List.mem_cons.1 hp with rfl | hp
        · exact ho
        · exact vn hr p hp
      · cases h
theorem Qr {φ:Nat→Nat}:∀ {l:List (Nat×AObj)} {k:Nat} {o:AObj},(k,o)∈l→(φ k,zP φ o)∈rnH φ l
  | (k',o')::r,k,o,h=>by
    simp only [rnH]
    rcases List.mem_cons.1 h with h | h
    · cases h;simp
    · exact List.mem_cons_of_mem _ (Qr h)
theorem JJ:∀ {l:List Nat},ZT l=true→∀ i j:Nat,i < l.length→j < l.length→l.getD i 0=l.getD j 0→i=j
  | [],_,i,j,hi,_,_=>by simp at hi
  | x::r,h,i,j,hi,hj,e=>by
    simp only [ZT,Bool.and_eq_true,Bool.not_eq_true',List.contains_eq_mem,decide_eq_false_iff_not] at h
    have key:∀ k,k < r.length→r.getD k 0∈r:=fun k hk=>by simp [hk]
    cases i with
    | zero=>
      cases j with
      | zero=>rfl
      | succ j=>
        simp only [List.getD_cons_zero,List.getD_cons_succ] at e
        exact absurd (by rw [e];exact key j (by simpa using hj)) h.1
    | succ i=>
      cases j with
      | zero=>
        simp only [List.getD_cons_zero,List.getD_cons_succ] at e
        exact absurd (by rw [←e];exact key i (by simpa using hi)) h.1
      | succ j=>
        simp only [List.getD_cons_succ] at e
        rw [JJ h.2 i j (by simpa using hi) (by simpa using hj) e]
structure PhiOk (l:List Nat) (m next:Nat):Prop where
  len:l.length=m
  nd:ZT l=true
  lt:∀ x∈l,x < next
def kp (l:List Nat) (m next:Nat):Bool:=l.length == m&&ZT l&&l.all fun x=>decide (x < next)
theorem VP {l:List Nat} {m next:Nat} (h:kp l m next=true):PhiOk l m next:=by
  simp only [kp,Bool.and_eq_true,beq_iff_eq,List.all_eq_true,decide_eq_true_eq] at h
  exact ⟨h.1.1,h.1.2,h.2⟩
theorem JK {l:List Nat} {m next:Nat} (P:PhiOk l m next) {i:Nat} (hi:i < m):phi l m next i < next:=by
  simp only [phi,if_pos hi]
  exact P.lt _ (by simp [P.len,hi])
theorem Qs {l:List Nat} {m next:Nat} (P:PhiOk l m next) (i j:Nat) (e:phi l m next i=phi l m next j):i=j:=by
  rcases Nat.lt_or_ge i m with h1 | h1<;>rcases Nat.lt_or_ge j m with h2 | h2
  · simp only [phi,if_pos h1,if_pos h2] at e
    exact JJ P.nd i j (by rw [P.len];exact h1) (by rw [P.len];exact h2) e
  · have:=JK P h1
    simp only [phi,if_neg (Nat.not_lt.2 h2)] at e this
    omega
  · have:=JK P h2
    simp only [phi,if_neg (Nat.not_lt.2 h1)] at e this
    omega
  · simp only [phi,if_neg (Nat.not_lt.2 h1),if_neg (Nat.not_lt.2 h2)] at e
    omega
theorem ACall.det {C:Ctx} {f m d next:Nat} {args:List AV} {heap objs ups:List (Nat×AObj)} {l:List Nat} {r:AV} {K:AV→List (Nat×AObj)→Nat→Prop} (hc:CallP C f args l m next objs r ups d) (hp:kp l m next=true) (ho:xi heap l=some objs)
    (hK:K r (zD ups heap) (next+d)):ACall C f args heap next K:=by
  obtain ⟨args0,heap0,r0,heap1,heap2,D,T,rfl,rfl,rfl,rfl⟩:=hc
  have P:=VP hp
  refine ⟨D.det.1,fun g w vs R hv => ?_⟩
  have hth:=VO (φ:=phi l m next) (n:=m+d) (h:=za heap) (fun i j _ _ e=>Qs P i j e) (fun p hp=>(D.k1 p hp).1) (fun i o hi=>vn ho _ (Qr (qR hi))) T
  have:=frame (φ:=phi l m next) (N':=(· < next+d)) D.det D.k0 D.ka D.k1 D.kr D.all (fun i j _ _ e=>Qs P i j e)
    (fun i o hi=>vn ho _ (Qr (qR hi))) (fun i hi=>JK P hi) (fun i h1 _=>by simp only [phi,if_neg (Nat.not_lt.2 h1)];omega) (fun j hj=>by omega)
    (fun i hi=>by
      rcases Nat.lt_or_ge i m with h1 | h1
      · have:=JK P h1;omega
      · simp only [phi,if_neg (Nat.not_lt.2 h1)];omega) R hv (by omega)
  refine this.mono ?_
  rintro e w' ⟨v,g',rfl,E,R',hr⟩
  refine ⟨v,_,_,_,g',rfl,hK,?_,?_,?_⟩
  · rw [jd,←hth];exact E
  · rw [jd,←hth];exact R'
  · rw [jd,←hth];exact hr
theorem LCall.det {C:Ctx} {f m next d:Nat} {args:List AV} {heap objs ups:List (Nat×AObj)} {l:List Nat} {r:AV} (hc:CallP C f args l m next objs r ups d) (hp:kp l m next=true) (ho:xi heap l=some objs) :
    LCall C f args (za heap) l r ups (List.range' next d):=by
  obtain ⟨args0,heap0,r0,heap1,heap2,D,T,rfl,rfl,rfl,rfl⟩:=hc
  have P:=VP hp
  refine ⟨D.det.1,fun g h N w vs hag hex R hv => ?_⟩
  have hmem:∀ i o,za heap0 i=some o→h (phi l m next i)=some (zP (phi l m next) o):=fun i o hi=>by
    have hi':=(D.k0 _ (qR hi)).1
    rw [hag _ (by simp only [phi,if_pos hi'];simp [P.len,hi'])]
    exact vn ho _ (Qr (qR hi))
  have hNm:∀ i,i < m→N (phi l m next i):=fun i hi=>by
    obtain ⟨o,ho⟩:=Option.isSome_iff_exists.1 (D.all0 i hi)
    exact R.key _ _ (hmem i o ho)
  have hth:=VO (φ:=phi l m next) (n:=m+d) (h:=h) (fun i j _ _ e=>Qs P i j e) (fun p hp=>(D.k1 p hp).1) hmem T
  rw [←hth]
  have hnew:∀ i,m≤i→i < m+d→phi l m next i∈List.range' next d:=fun i h1 h2=>by
    rw [List.mem_range'_1];simp only [phi,if_neg (show ¬ i < m by omega)];omega
  exact frame (φ:=phi l m next) (N':=jx N (List.range' next d)) D.det D.k0 D.ka D.k1 D.kr D.all (fun i j _ _ e=>Qs P i j e) hmem hNm (fun i h1 h2=>hex _ (hnew i h1 h2)) (fun j hj=>.inl hj)
    (fun i hi=>by
      rcases Nat.lt_or_ge i m with h1 | h1
      · exact .inl (hNm i h1)
      · exact .inr (hnew i h1 hi)) R hv (by omega)
theorem DCall.det {C:Ctx} {f m next:Nat} {args:List AV} {heap objs ups:List (Nat×AObj)} {l:List Nat} {r:AV} {KD:List Nat→AV→List (Nat×AObj)→Prop} (hc:CallP C f args l m next objs r ups 0) (hp:kp l m next=true) (ho:xi heap l=some objs)
    (hK:KD l r ups):DCall C f args heap KD:=⟨l,_,_,LCall.det hc hp ho,hK⟩
def zc {α:Type} (f:α→List IV) (l:List α):List (List AV):=l.map fun x=>zl (f x)
theorem K9 (φ:Nat→Nat) (r:List IV):wR φ (zl r)=zl r:=by
  simp only [wR,zl,List.map_map]
  exact List.map_congr_left fun x _=>rfl
theorem VQ {α:Type} (φ:Nat→Nat) (f:α→List IV) (l:List α):(zc f l).map (wR φ)=zc f l:=by
  simp only [zc,List.map_map]
  exact List.map_congr_left fun x _=>K9 φ (f x)
theorem rhN {φ:Nat→Nat}:rnH φ []=[]:=rfl
theorem rhR {φ:Nat→Nat} {k:Nat} {o:AObj} {r s:List (Nat×AObj)} (h:rnH φ r=s):rnH φ ((k,o)::r)=(φ k,zP φ o)::s:=by rw [←h];rfl
theorem rhI {φ:Nat→Nat} {k sz:Nat} {α:Type} {f:α→List IV} {l:List α} {r s:List (Nat×AObj)} (h:rnH φ r=s):rnH φ ((k,.rows sz (zc f l))::r)=(φ k,.rows sz (zc f l))::s:=by
  rw [←h];simp only [rnH,zP,VQ]
theorem y0 {α:Type} (m sz:Nat) (f:α→List IV) (l:List α):zI m (.rows sz (zc f l)):=by
  simp only [zI,zc]
  intro row hr x hx
  obtain ⟨y,_,rfl⟩:=List.mem_map.1 hr
  obtain ⟨z,_,rfl⟩:=List.mem_map.1 hx
  rfl
def zk {α β:Type} (kf:α→IV) (vf:β→IV) (es:List (α×β)):List (IV×AV):=es.map fun e=>(kf e.1,.imm (vf e.2))
theorem VR {α β:Type} (φ:Nat→Nat) (kf:α→IV) (vf:β→IV) (es:List (α×β)):(zk kf vf es).map (K8 φ)=zk kf vf es:=by
  simp only [zk,List.map_map]
  exact List.map_congr_left fun x _=>rfl
theorem rhM {φ:Nat→Nat} {k:Nat} {α β:Type} {kf:α→IV} {vf:β→IV} {es:List (α×β)} {r s:List (Nat×AObj)} (h:rnH φ r=s):rnH φ ((k,.map (zk kf vf es))::r)=(φ k,.map (zk kf vf es))::s:=by
  rw [←h];simp only [rnH,zP,VR]
theorem YR {α β:Type} (m:Nat) (kf:α→IV) (vf:β→IV) (es:List (α×β)):zI m (.map (zk kf vf es)):=by
  simp only [zI,zk]
  intro e he
  obtain ⟨y,_,rfl⟩:=List.mem_map.1 he
  rfl
theorem zcS {h0 h:Nat→Option AObj} (hs:∀ i o,h0 i=some o→h i=some o):∀ (d:Nat) (x:AV) (y:IV),zB h0 d x=some y→zB h d x=some y:=by
  have lst:∀ {β γ:Type} {f f':β→Option γ},(∀ x y,f x=some y→f' x=some y)→∀ (l:List β) (r:List γ),mapO f l=some r→mapO f' l=some r:=by
    intro β γ f f' hf l
    induction l with
    | nil=>intro r h;exact h
    | cons a l ih=>
      intro r h
      simp only [mapO] at h ⊢
      split at h
      · rename_i b hb
        split at h
        · rename_i bs hbs
          cases h
          rw [hf _ _ hb]
          simp only
          rw [ih _ hbs]
        · cases h
      · cases h
  intro d
  induction d with
  | zero=>intro x y h;cases h
  | succ d ih=>
    intro x y h
    cases x<;>simp only [zB] at h ⊢ <;> first | exact h | skip
    case mslice id off len=>
      split at h
      · rename_i sz rows ho
        rw [hs _ _ ho]
        simp only
        split at h
        · rename_i hle
          rw [if_pos hle]
          rw [Option.map_eq_some_iff] at h ⊢
          obtain ⟨r,h1,h2⟩:=h
          exact ⟨r,lst (fun row ys hrow=>lst (fun x y hx=>ih x y hx) row ys hrow) _ _ h1,h2⟩
        · cases h
      · cases h
    case agg cs=>
      rw [Option.map_eq_some_iff] at h ⊢
      obtain ⟨r,h1,h2⟩:=h
      exact ⟨r,lst (fun x y hx=>ih x y hx) _ _ h1,h2⟩
    case tuple cs=>
      rw [Option.map_eq_some_iff] at h ⊢
      obtain ⟨r,h1,h2⟩:=h
      exact ⟨r,lst (fun x y hx=>ih x y hx) _ _ h1,h2⟩
theorem kY {h0 h:Nat→Option AObj} (hs:∀ i o,h0 i=some o→h i=some o) {d:Nat}:∀ {args:List AV} {ivs:List IV},mapO (zB h0 d) args=some ivs→mapO (zB h d) args=some ivs
  | [],ivs,h=>h
  | a::l,ivs,h=>by
    simp only [mapO] at h ⊢
    split at h
    · rename_i b hb
      split at h
      · rename_i bs hbs
        cases h
        rw [zcS hs d _ _ hb]
        simp only
        rw [kY hs hbs]
      · cases h
    · cases h
theorem kZ {heap:List (Nat×AObj)} {l:List Nat} {objs:List (Nat×AObj)} (h:xi heap l=some objs) (i:Nat) (o:AObj) (ho:za objs i=some o):za heap i=some o:=vn h _ (qR ho)
theorem LCall.snapS {C:Ctx} {f d:Nat} {args:List AV} {heap objs:List (Nat×AObj)} {l:List Nat} {ivs:List IV} {r:IV} (hp:APure C f ivs r) (ho:xi heap l=some objs) (hl:∀ p∈objs,p.1∈l) (hx:mapO (zB (za objs) d) args=some ivs) (hf:xx r=true):LCall C f args (za heap) l (.imm r) [] []:=by
  refine ⟨hp.1,fun g h N w vs hag hex R hv => ?_⟩
  have hsub:∀ i o,za objs i=some o→h i=some o:=fun i o hi=>by
    rw [hag i (hl _ (qR hi))];exact kZ ho i o hi
  have hx':mapO (zB h d) args=some ivs:=kY hsub hx
  exact (LCall.snap (h0:=h) hp hx' hf).2 g h N w vs (fun _ _=>rfl) hex R hv
theorem Ws {heap:List (Nat×AObj)}:∀ {l:List Nat} {objs:List (Nat×AObj)},xi heap l=some objs→∀ p∈objs,p.1∈l
  | [],objs,h=>by cases h;intro p hp;cases hp
  | i::l,objs,h=>by
    simp only [xi] at h
    split at h
    · cases h
    · rename_i o ho
      split at h
      · rename_i r hr
        cases h
        intro p hp
        rcases List.mem_cons.1 hp with rfl | hp
        · simp
        · exact List.mem_cons_of_mem _ (Ws hr p hp)
      · cases h
section
inductive Orc where
  | g (b:Bool)
  | n (k:Int)
  | r (row:List IV)
  | v (x:IV)
  | w (ids:List Nat) (ivs:List IV) (x:IV)
  | s (rows:List (List IV))
  | k (row:Nat)
  | ar (row:List AV)
  | aw (row:List AV) (rows:List (List AV))
  | m (n:Nat) (rows:List (List AV))
  | a (rows:List (List IV)) (n:Nat)
  | b (rows:List (List AV)) (n:Nat)
  | c (l:List Nat) (m:Nat) (r:AV) (ups:List (Nat×AObj)) (d:Nat)
  | l (x:AV) (b:Bool)
  | u (es:List (IV×AV))
def zfh (rows:List (List IV)) (n:Int) (row:List IV):Prop:=0≤n∧rows[n.toNat]?=some row
def VT (rows:List (List IV)) (k:Int):Prop:=(rows.length:Int)=k
def zfi (rows:List (List IV)) (sz:Nat) (a b:Int) (r:List (List IV)):Prop:=0≤a∧a≤b∧b≤(rows.length:Int)∧(rows.all fun row=>row.length == sz)=true∧(rows.take b.toNat).drop a.toNat=r
def XK (op:BinOp) (a b r:IV):Prop:=wK op a b=some r
def Qt (n:Int) (off len row:Nat):Prop:=0≤n∧n < (len:Int)∧off+n.toNat=row
def XL (rows:List (List AV)) (r:Nat) (row:List AV):Prop:=rows[r]?=some row
def zfj (rows:List (List AV)) (r:Nat) (row new:List AV) (rows':List (List AV)):Prop:=rows[r]?=some row∧rows.set r new=rows'
def zcT (n:Int) (by_:Nat) (zero:List AV) (k:Nat) (rows:List (List AV)):Prop:=(0≤n∧n < 2 ^ 31∧n*by_≤140737488355328)∧n.toNat=k∧List.replicate k zero=rows
def zdM (sz:Nat) (rows new rows':List (List AV)) (len:Nat):Prop:=len=rows.length∧new.length=len∧(new.all fun row=>row.length == sz)=true∧new=rows'
def zcU (sz by_:Nat) (old new rows:List (List IV)) (len k:Nat):Prop:=(new.all fun row=>row.length == sz)=true∧old.length=len∧(len+new.length)*by_≤140737488355328∧old++new=rows∧len+new.length=k
def zdN (sz by_:Nat) (old new rows:List (List AV)) (len k:Nat):Prop:=(new.all fun row=>row.length == sz)=true∧len=old.length∧(len+new.length)*by_≤140737488355328∧old++new=rows∧len+new.length=k
def zdO (str:Bool) (zero:AV) (k:IV) (es:List (IV×AV)) (x:AV) (b:Bool):Prop:=(wL str k&&xv k es)=true∧((qo k es=some x∧b=true)∨(qo k es=none∧zero=x∧b=false))
def zfk (str:Bool) (k:IV) (v:AV) (es es':List (IV×AV)):Prop:=(wL str k&&xv k es)=true∧qz k v es=es'
def zaa (args:List AV) (objs:List (Nat×AObj)) (ivs:List IV):Prop:=mapO (zB (za objs) 5) args=some ivs
def inD (D:List Nat):Opd→Bool
  | .t n=>D.contains n
  | .c _=>true
  | .m _ _=>false
abbrev xb:=Option (AV×List (Nat×AObj)×List Nat×List Orc×List Prop×Nat)
def qZ (op:AOp) (orc:List Orc) (st:St):xb:=match evalOp op (zd st.env) (za st.heap) st.next with
  | some (r,ups)=>some (r,ups,zi op (zd st.env),orc,[],0)
  | none=>none
def zdP (op:AOp) (orc:List Orc) (st:St) (lit:Bool) (a b:AV):AV→xb
  | .imm (.bool x)=>match lit with
    | true=>match x with
      | true=>some (a,[],zi op (zd st.env),orc,[],0)
      | false=>some (b,[],zi op (zd st.env),orc,[],0)
    | false=>match orc with
      | .g true::o=>some (a,[],zi op (zd st.env),o,[x=true],0)
      | .g false::o=>some (b,[],zi op (zd st.env),o,[x=false],0)
      | _=>none
  | _=>none
def zfl (op:AOp) (orc:List Orc) (st:St):AV→xb
  | .imm (.slice rows) | .gslice _ rows=>match orc with
    | .n k::o=>some (.imm (.int .i64 k),[],zi op (zd st.env),o,[VT rows k],0)
    | _=>none
  | _=>qZ op orc st
def zfm (op:AOp) (sz:Nat) (orc:List Orc) (st:St) (i:AV):AV→xb
  | .imm (.slice rows) | .gslice _ rows=>match i with
    | .imm (.int _ n)=>match orc with
      | .r row::o=>if row.length=sz then some (.eptr row,[],zi op (zd st.env),o,[zfh rows n row],0) else none
      | _=>none
    | _=>none
  | .mslice j off len=>match orc with
    | .k row::o=>match i with
      | .imm (.int _ n)=>match za st.heap j with
        | some (.rows sz' _)=>if sz'=sz then some (.ptr j row 0,[],zi op (zd st.env),o,[Qt n off len row],0) else none
        | _=>none
      | _=>none
    | _=>qZ op orc st
  | _=>qZ op orc st
def zdQ (op:AOp) (len sz:Nat) (orc:List Orc) (st:St) (i x:AV):xb:=match orc with
  | .k row::o=>match x with
    | .ptr j 0 0=>match i with
      | .imm (.int _ n)=>match za st.heap j with
        | some (.rows sz' _)=>if sz'=sz then some (.ptr j row 0,[],zi op (zd st.env),o,[Qt n 0 len row],0) else none
        | _=>none
      | _=>none
    | _=>none
  | _=>qZ op orc st
def zfn (op:AOp) (bop:BinOp) (orc:List Orc) (st:St) (x y:AV):xb:=match bop with
  | .quo | .rem | .shl | .shr=>match x,y with
    | .imm a,.imm b=>match orc with
      | .v r::o=>some (.imm r,[],zi op (zd st.env),o,[XK bop a b r],0)
      | _=>none
    | _,_=>none
  | _=>qZ op orc st
def zab (st:St) (dflt:Int):Option Opd→Option Int
  | none=>some dflt
  | some y=>match zd st.env y with
    | .imm (.int _ n)=>some n
    | _=>none
def zfo (op:AOp) (sz:Nat) (orc:List Orc) (st:St) (lo hi:Option Opd):AV→xb
  | .imm (.slice rows)=>match zab st 0 lo,zab st (rows.length:Int) hi,orc with
    | some a,some b,.s r::o=>some (.imm (.slice r),[],zi op (zd st.env),o,[zfi rows sz a b r],0)
    | _,_,_=>none
  | _=>none
def zac (C:Ctx) (orc:List Orc) (st:St) (args:List AV):AV→xb
  | .func f first caps=>match orc with
    | .v x::o=>match mapO (zB (za st.heap) 5) (first++args++caps) with
      | some ivs=>match (first++args++caps).all (jZ 5) with
        | true=>some (.imm x,[],[],o,[APure C f ivs x],0)
        | false=>none
      | none=>none
    | .w ids ivs x::o=>match xi st.heap ids with
      | some objs=>match xx x with
        | true=>some (.imm x,[],ids,o,[APure C f ivs x,zaa (first++args++caps) objs ivs],0)
        | false=>none
      | none=>none
    | .c l m r ups d::o=>match xi st.heap l with
      | some objs=>match kp l m st.next with
        | true=>some (r,ups,l,o,[CallP C f (first++args++caps) l m st.next objs r ups d],d)
        | false=>none
      | none=>none
    | _=>none
  | _=>none
def zdR (op:AOp) (agg:Bool) (n:Nat) (orc:List Orc) (st:St) (x:AV):xb:=match orc with
  | .ar row::o=>match x with
    | .ptr i r f=>match za st.heap i with
      | some (.rows _ rows)=>match agg with
        | true=>if f+n≤row.length then some (.agg ((row.drop f).take n),[],zi op (zd st.env),o,[XL rows r row],0) else none
        | false=>match row[f]? with
          | some c=>some (c,[],zi op (zd st.env),o,[XL rows r row],0)
          | none=>none
      | _=>none
    | _=>none
  | _=>qZ op orc st
def zby (op:AOp) (n:Nat) (orc:List Orc) (st:St) (x:AV) (v:Option (List AV)):xb:=match orc with
  | .aw row rows'::o=>match x with
    | .ptr i r f=>match v with
      | some cs=>match za st.heap i with
        | some (.rows sz rows)=>if cs.length=n∧f+n≤row.length then some (.undef,[(i,.rows sz rows')],zi op (zd st.env),o,[zfj rows r row (qG row f cs) rows'],0) else none
        | _=>none
      | none=>none
    | _=>none
  | _=>qZ op orc st
def zfp (op:AOp) (sz by_:Nat) (zero:List AV) (orc:List Orc) (st:St) (x:AV):xb:=match orc with
  | .m k rows::o=>match x with
    | .imm (.int .i64 n)=>some (.mslice st.next 0 k,[(st.next,.rows sz rows)],zi op (zd st.env),o,[zcT n by_ zero k rows],0)
    | _=>none
  | _=>qZ op orc st
def zfq (op:AOp) (sz by_:Nat) (orc:List Orc) (st:St) (x:AV) (s:AV):xb:=match orc with
  | .a rows k::o=>match j7 (za st.heap) x with
    | some new=>match s with
      | .nil=>some (.gslice st.next rows,[(st.next,.tip sz k)],zi op (zd st.env),o,[zcU sz by_ [] new rows 0 k],0)
      | .gslice i old=>match za st.heap i with
        | some (.tip sz' len)=>if sz'=sz then some (.gslice i rows,[(i,.tip sz k)],zi op (zd st.env),o,[zcU sz by_ old new rows len k],0) else none
        | _=>none
      | _=>none
    | none=>none
  | .b rows k::o=>match jz (za st.heap) x with
    | some new=>match s with
      | .mslice i off len=>match za st.heap i with
        | some (.rows sz' old)=>if sz'=sz∧off=0 then some (.mslice st.next 0 k,[(st.next,.rows sz rows),(i,.dead)],zi op (zd st.env),o,[zdN sz by_ old new rows len k],0) else none
        | _=>none
      | _=>none
    | none=>none
  | _=>qZ op orc st
def zdS (op:AOp) (str:Bool) (zero:AV) (ok:Bool) (orc:List Orc) (st:St) (k m:AV):xb:=match orc with
  | .l x b::o=>match m,k with
    | .map i,.imm k=>match za st.heap i with
      | some (.map es)=>some (match ok with | true=>.tuple [x,.imm (.bool b)] | false=>x,[],zi op (zd st.env),o,[zdO str zero k es x b],0)
      | _=>none
    | _,_=>none
  | _=>qZ op orc st
def zfr (op:AOp) (str:Bool) (orc:List Orc) (st:St) (v k m:AV):xb:=match orc with
  | .u es'::o=>match m,k with
    | .map i,.imm k=>match za st.heap i with
      | some (.map es)=>some (.undef,[(i,.map es')],zi op (zd st.env),o,[zfk str k v es es'],0)
      | _=>none
    | _,_=>none
  | _=>qZ op orc st
def zdT (op:AOp) (sz:Nat) (orc:List Orc) (st:St) (x:AV) (d:AV):xb:=match orc with
  | .b rows' _::o=>match jz (za st.heap) x with
    | some new=>match d with
      | .mslice i 0 len=>match za st.heap i with
        | some (.rows sz' rows)=>if sz'=sz then some (.imm (.int .i64 (len:Int)),[(i,.rows sz rows')],zi op (zd st.env),o,[zdM sz rows new rows' len],0) else none
        | _=>none
      | _=>none
    | none=>none
  | _=>qZ op orc st
def zfs (op:AOp) (len sz:Nat) (orc:List Orc) (st:St) (i x:AV):xb:=match orc with
  | .k row::o=>match x with
    | .agg cs=>match i with
      | .imm (.int _ n)=>match cs[row]? with
        | some c=>if sz=1 then some (c,[],zi op (zd st.env),o,[Qt n 0 len row],0) else none
        | none=>none
      | _=>none
    | _=>none
  | _=>qZ op orc st
def opX (C:Ctx) (op:AOp) (orc:List Orc) (D:List Nat) (st:St):xb:=match op with
  | .pick c a b=>zdP op orc st (inD D c) (zd st.env a) (zd st.env b) (zd st.env c)
  | .len x=>zfl op orc st (zd st.env x)
  | .idx sz x i=>zfm op sz orc st (zd st.env i) (zd st.env x)
  | .idxa len sz x i=>zdQ op len sz orc st (zd st.env i) (zd st.env x)
  | .bin bop x y=>zfn op bop orc st (zd st.env x) (zd st.env y)
  | .slc sz x lo hi=>zfo op sz orc st lo hi (zd st.env x)
  | .call f args=>zac C orc st (args.map (zd st.env)) (zd st.env f)
  | .load agg n x=>zdR op agg n orc st (zd st.env x)
  | .store n x v=>zby op n orc st (zd st.env x) (cellsOf (zd st.env v))
  | .mks sz by_ zero n=>zfp op sz by_ zero orc st (zd st.env n)
  | .app sz by_ s x=>zfq op sz by_ orc st (zd st.env x) (zd st.env s)
  | .look str zero ok m k=>zdS op str zero ok orc st (zd st.env k) (zd st.env m)
  | .upd str m k v=>zfr op str orc st (zd st.env v) (zd st.env k) (zd st.env m)
  | .copy sz d x=>zdT op sz orc st (zd st.env x) (zd st.env d)
  | .ixa len sz x i=>zfs op len sz orc st (zd st.env i) (zd st.env x)
  | op=>qZ op orc st
def JL (gd:Option (Nat×Bool)) (orc:List Orc) (D:List Nat) (st:St):Option (Bool×List Orc×List Prop×List Nat×St):=match gd with
  | none=>some (true,orc,[],D,st)
  | some (t,want)=>match (za st.env t).getD .top with
    | .undef=>some (false,orc,[],D,st)
    | .imm (.bool b)=>match D.contains t with
      | true=>match b with
        | true=>some (want,orc,[],D,st)
        | false=>some (!want,orc,[],D,st)
      | false=>match orc with
        | .g true::o=>some (want,o,[b=true],t::D,{st with env:=zn st.env t (.imm (.bool true))})
        | .g false::o=>some (!want,o,[b=false],t::D,{st with env:=zn st.env t (.imm (.bool false))})
        | _=>none
    | _=>none
def St.afterD (st:St) (dst:Option Nat) (r:AV) (ups:List (Nat×AObj)) (d:Nat):St:=
  St.put {st with heap:=zD ups st.heap,next:=st.next+d+1} dst r
def W8 (D:List Nat):Option Nat→List Nat
  | some d=>D.filter (· != d)
  | none=>D
section
variable {C:Ctx}
theorem Za {α:Type}:∀ {l:List (Nat×α)} {t:Nat} {x:α},za l t=some x→zn l t x=l
  | [],t,x,h=>by cases h
  | (k,v)::r,t,x,h=>by
    simp only [za] at h
    simp only [zn]
    split at h
    · rename_i e;subst e;cases h;simp
    · rename_i e;rw [if_neg e,Za h]
theorem qb {op:AOp} {orc o':List Orc} {st:St} {r:AV} {ups:List (Nat×AObj)} {rd:List Nat} {ps:List Prop} {d:Nat} (h:qZ op orc st=some (r,ups,rd,o',ps,d)) :
    evalOp op (zd st.env) (za st.heap) st.next=some (r,ups)∧rd=zi op (zd st.env)∧d=0:=by
  unfold qZ at h
  split at h
  · rename_i e;cases h;exact ⟨e,rfl,rfl⟩
  · cases h
def isCall:AOp→Bool
  | .call _ _=>true
  | _=>false
theorem zad {st:St} {sz id:Nat} {x:Opd} {lo hi:Option Opd} {rows:List (List IV)} {h:Nat→Option AObj} (hx:zd st.env x=.imm (.slice rows)):evalOp (.slc sz x lo hi) (zd st.env) h id=match zab st 0 lo,zab st (rows.length:Int) hi with
    | some a,some b=>if 0≤a∧a≤b∧b≤(rows.length:Int)∧(rows.all fun row=>row.length == sz)=true then some (.imm (.slice ((rows.take b.toNat).drop a.toNat)),[]) else none
    | _,_=>none:=by
  simp only [evalOp,hx]
  cases lo<;>cases hi<;>rfl
theorem VU {op:AOp} {orc o':List Orc} {D:List Nat} {st:St} {r:AV} {ups:List (Nat×AObj)} {rd:List Nat} {ps:List Prop} {d:Nat} (hc:isCall op=false) (h:opX C op orc D st=some (r,ups,rd,o',ps,d)) (hp:AllP ps) :
    evalOp op (zd st.env) (za st.heap) st.next=some (r,ups)∧rd=zi op (zd st.env)∧d=0:=by
  cases op
  case call=>cases hc
  case pick c a b=>
    simp only [opX] at h
    unfold zdP at h
    simp only [evalOp]
    split at h
    · rename_i x hx
      split at h
      · split at h<;>(cases h;rw [hx];exact ⟨rfl,rfl,rfl⟩)
      · split at h
        · cases h;have:=hp.one;subst this;rw [hx];exact ⟨rfl,rfl,rfl⟩
        · cases h;have:=hp.one;subst this;rw [hx];exact ⟨rfl,rfl,rfl⟩
        · cases h
    · cases h
  case len x=>
    simp only [opX] at h
    unfold zfl at h
    split at h
    · rename_i rows hx
      split at h
      · cases h
        have:=hp.one
        refine ⟨?_,rfl,rfl⟩
        simp only [evalOp,xJ,hx]
        unfold VT at this
        rw [this]
      · cases h
    · rename_i rows hx
      split at h
      · cases h
        have:=hp.one
        refine ⟨?_,rfl,rfl⟩
        simp only [evalOp,xJ,hx]
        unfold VT at this
        rw [this]
      · cases h
    · exact qb h
  case idx sz x i=>
    simp only [opX] at h
    unfold zfm at h
    split at h
    · rename_i rows hx
      split at h
      · rename_i k n hi
        split at h
        · split at h
          · rename_i hl
            cases h
            have:=hp.one
            refine ⟨?_,rfl,rfl⟩
            simp only [evalOp,hx,hi,if_pos this.1,this.2,if_pos hl]
          · cases h
        · cases h
      · cases h
    · rename_i rows hx
      split at h
      · rename_i k n hi
        split at h
        · split at h
          · rename_i hl
            cases h
            have:=hp.one
            refine ⟨?_,rfl,rfl⟩
            simp only [evalOp,hx,hi,if_pos this.1,this.2,if_pos hl]
          · cases h
        · cases h
      · cases h
    · rename_i j off len hx
      split at h
      · split at h
        · rename_i k n hi
          split at h
          · rename_i sz' rows ho
            split at h
            · rename_i hsz
              cases h
              obtain ⟨h1,h2,h3⟩:=hp.one
              refine ⟨?_,rfl,rfl⟩
              simp only [evalOp,hx,hi,ho]
              rw [if_pos ⟨hsz,h1,h2⟩,h3]
            · cases h
          · cases h
        · cases h
      · exact qb h
    · exact qb h
  case idxa len sz x i=>
    simp only [opX] at h
    unfold zdQ at h
    split at h
    · split at h
      · rename_i j hx
        split at h
        · rename_i k n hi
          split at h
          · rename_i sz' rows ho
            split at h
            · rename_i hsz
              cases h
              obtain ⟨h1,h2,h3⟩:=hp.one
              refine ⟨?_,rfl,rfl⟩
              simp only [evalOp,hx,hi,ho]
              rw [if_pos ⟨hsz,h1,h2⟩,←h3,Nat.zero_add]
            · cases h
          · cases h
        · cases h
      · cases h
    · exact qb h
  case bin bop x y=>
    simp only [opX] at h
    unfold zfn at h
    split at h
    all_goals first
      | exact qb h
      | skip
    all_goals
      split at h
      · rename_i a b hx hy
        split at h
        · cases h
          have:=hp.one
          unfold XK at this
          refine ⟨?_,rfl,rfl⟩
          simp only [evalOp,hx,hy,this,Option.map_some]
        · cases h
      · cases h
  case slc sz x lo hi=>
    simp only [opX] at h
    unfold zfo at h
    split at h
    · rename_i rows hx
      split at h
      · rename_i a b r' o ha hb
        cases h
        obtain ⟨h1,h2,h3,h4,h5⟩:=hp.one
        refine ⟨?_,rfl,rfl⟩
        rw [zad hx,ha,hb]
        simp only
        rw [if_pos ⟨h1,h2,h3,h4⟩,h5]
      · cases h
    · cases h
  case load agg n x=>
    simp only [opX] at h
    unfold zdR at h
    split at h
    · split at h
      · rename_i i rw_ f hx
        split at h
        · rename_i sz rows ho
          split at h
          · split at h
            · rename_i hle
              cases h
              have h1:=hp.one
              unfold XL at h1
              refine ⟨?_,rfl,rfl⟩
              simp only [evalOp,hx,ho,h1,if_true]
              rw [if_pos hle]
            · cases h
          · split at h
            · rename_i c hcell
              cases h
              have h1:=hp.one
              unfold XL at h1
              refine ⟨?_,rfl,rfl⟩
              simp only [evalOp,hx,ho,h1,hcell,Option.map_some,Bool.false_eq_true,if_false]
            · cases h
        · cases h
      · cases h
    · exact qb h
  case store n x v=>
    simp only [opX] at h
    unfold zby at h
    split at h
    · split at h
      · rename_i i rw_ f hx
        split at h
        · rename_i cs hcs
          split at h
          · rename_i sz rows ho
            split at h
            · rename_i hle
              cases h
              obtain ⟨h1,h2⟩:=hp.one
              refine ⟨?_,rfl,rfl⟩
              simp only [evalOp,hx,hcs,ho,h1]
              rw [if_pos hle,h2]
            · cases h
          · cases h
        · cases h
      · cases h
    · exact qb h
  case mks sz by_ zero n=>
    simp only [opX] at h
    unfold zfp at h
    split at h
    · split at h
      · rename_i k rows o n' hx
        cases h
        obtain ⟨h1,h2,h3⟩:=hp.one
        refine ⟨?_,rfl,rfl⟩
        simp only [evalOp,hx]
        rw [if_pos h1,h2,h3]
      · cases h
    · exact qb h
  case app sz by_ s x=>
    simp only [opX] at h
    unfold zfq at h
    split at h
    · split at h
      · rename_i new hnew
        split at h
        · rename_i hs
          cases h
          obtain ⟨h1,h2,h3,h4,h5⟩:=hp.one
          refine ⟨?_,rfl,rfl⟩
          simp only [evalOp,hs,Q2,hnew,h1]
          simp only [List.nil_append] at h4
          subst h4
          simp only [Nat.zero_add] at h3 h5
          subst h5
          simp [h3]
        · rename_i i old hs
          split at h
          · rename_i sz' len ho
            split at h
            · rename_i hsz
              cases h
              obtain ⟨h1,h2,h3,h4,h5⟩:=hp.one
              refine ⟨?_,rfl,rfl⟩
              simp only [evalOp,hs,Q2,hnew,h1,ho]
              subst h4 h5
              simp [hsz,h2,h3]
            · cases h
          · cases h
        · cases h
      · cases h
    · split at h
      · rename_i new hnew
        split at h
        · rename_i i off len hs
          split at h
          · rename_i sz' old ho
            split at h
            · rename_i hsz
              cases h
              obtain ⟨h1,h2,h3,h4,h5⟩:=hp.one
              refine ⟨?_,rfl,rfl⟩
              simp only [evalOp,hs,Q3,hnew,h1,ho]
              simp only [Bool.not_true,Bool.false_eq_true,if_false]
              rw [if_pos ⟨hsz.1,hsz.2,h2,h3⟩,h4,h5]
            · cases h
          · cases h
        · cases h
      · cases h
    · exact qb h
  case look str zero ok m k=>
    simp only [opX] at h
    unfold zdS at h
    split at h
    · split at h
      · rename_i i kk hm hk
        split at h
        · rename_i es ho
          cases h
          obtain ⟨h1,h2⟩:=hp.one
          refine ⟨?_,rfl,rfl⟩
          simp only [evalOp,hm,hk,ho,h1,if_true]
          rcases h2 with ⟨h3,h4⟩ | ⟨h3,h4,h5⟩
          · rw [h3,h4];cases ok<;>rfl
          · rw [h3,h4,h5];cases ok<;>rfl
        · cases h
      · cases h
    · exact qb h
  case upd str m k v=>
    simp only [opX] at h
    unfold zfr at h
    split at h
    · split at h
      · rename_i i kk hm hk
        split at h
        · rename_i es ho
          cases h
          obtain ⟨h1,h2⟩:=hp.one
          refine ⟨?_,rfl,rfl⟩
          simp only [evalOp,hm,hk,ho,h1,if_true,h2]
        · cases h
      · cases h
    · exact qb h
  case copy sz d x=>
    simp only [opX] at h
    unfold zdT at h
    split at h
    · split at h
      · rename_i new hnew
        split at h
        · rename_i i len hd
          split at h
          · rename_i sz' rows ho
            split at h
            · rename_i hsz
              cases h
              obtain ⟨h1,h2,h3,h4⟩:=hp.one
              refine ⟨?_,rfl,rfl⟩
              simp only [evalOp,W4,hd,ho,hnew]
              rw [if_pos ⟨hsz,h1,h2,h3⟩,h4]
            · cases h
          · cases h
        · cases h
      · cases h
    · exact qb h
  case ixa len sz x i=>
    simp only [opX] at h
    unfold zfs at h
    split at h
    · split at h
      · rename_i cs hx
        split at h
        · rename_i k n hi
          split at h
          · rename_i c hc
            split at h
            · rename_i hsz
              cases h
              obtain ⟨h1,h2,h3⟩:=hp.one
              refine ⟨?_,rfl,rfl⟩
              simp only [evalOp,hx,hi]
              rw [Nat.zero_add] at h3
              rw [if_pos ⟨hsz,h1,h2⟩,h3,hc]
              rfl
            · cases h
          · cases h
        · cases h
      · cases h
    · exact qb h
  all_goals exact qb h
theorem zft {C:CtxY} {op:AOp} {orc o':List Orc} {D:List Nat} {st:St} {r:AV} {ups:List (Nat×AObj)} {rd:List Nat} {ps:List Prop} {d:Nat} {dst:Option Nat} {K:St→Prop} (h:opX C op orc D st=some (r,ups,rd,o',ps,d)) (hp:AllP ps) (hK:K (st.afterD dst r ups d)) :
    evOp C dst K st op:=by
  cases hc:isCall op
  · obtain ⟨e,_,rfl⟩:=VU hc h hp
    cases op<;>first | (cases hc;done) | (simp only [evOp];rw [e];exact hK)
  · cases op<;>first | (cases hc;done) | skip
    rename_i f args
    simp only [opX] at h
    unfold zac at h
    split at h
    · rename_i f' first caps hf
      simp only [evOp,hf]
      split at h
      · split at h
        · rename_i ivs hiv
          split at h
          · rename_i hm;cases h;exact ACall.pure (d:=5) hp.one hm hiv hK
          · cases h
        · cases h
      · split at h
        · rename_i objs ho
          split at h
          · rename_i hm
            cases h
            cases hp with
            | cons h1 h2=>exact ACall.snap (d:=5) h1 (kY (kZ ho) h2.one) hm hK
          · cases h
        · cases h
      · split at h
        · rename_i objs ho
          split at h
          · rename_i hm
            cases h
            exact ACall.det hp.one hm ho hK
          · cases h
        · cases h
      · cases h
    · cases h
theorem QW {gd:Option (Nat×Bool)} {orc o:List Orc} {D D':List Nat} {st st':St} {b:Bool} {ps:List Prop} (h:JL gd orc D st=some (b,o,ps,D',st')) (hp:AllP ps):st'=st∧zN st.env gd=some b:=by
  unfold JL at h
  split at h
  · cases h;exact ⟨rfl,rfl⟩
  · rename_i t want
    split at h
    · rename_i e;cases h;exact ⟨rfl,by simp only [zN,e]⟩
    · rename_i x e
      have hget:za st.env t=some (.imm (.bool x)):=by
        cases h1:za st.env t with
        | none=>rw [h1] at e;cases e
        | some y=>rw [h1] at e;simp only [Option.getD_some] at e;rw [e]
      split at h
      · split at h
        · cases h;exact ⟨rfl,by simp only [zN,e];cases b<;>rfl⟩
        · cases h;exact ⟨rfl,by simp only [zN,e];cases want<;>rfl⟩
      · split at h
        · cases h;have:=hp.one;subst this;exact ⟨by rw [Za hget],by simp only [zN,e];cases b<;>rfl⟩
        · cases h;have:=hp.one;subst this;exact ⟨by rw [Za hget],by simp only [zN,e];cases want<;>rfl⟩
        · cases h
    · cases h
theorem zek {C:CtxY} {it:AItem} {st:St} {b:Bool} {K:St→Prop} (hg:zN st.env it.guard=some b) (h1:b=true→evOp C it.dst K st it.op) (h2:b=false→K (st.after it.dst .undef [])):ZR C it K st:=by
  unfold ZR
  cases hgd:it.guard with
  | none=>rw [hgd] at hg;simp only [zN,Option.some.injEq] at hg;exact h1 hg.symm
  | some p=>
    obtain ⟨t,want⟩:=p
    rw [hgd] at hg
    simp only [zN] at hg
    simp only [ZQ]
    split at hg
    · rename_i x e
      rw [e]
      simp only [Option.some.injEq] at hg
      simp only
      rw [hg]
      cases b
      · exact h2 rfl
      · exact h1 rfl
    · rename_i e
      rw [e]
      simp only [Option.some.injEq] at hg
      exact h2 hg.symm
    · cases hg
theorem zcV (ord:List Nat) (j:Nat) (W R:List (Nat×Nat)):x6 ord j W R [] []=true:=by
  simp [x6]
end
theorem zcW {α:Type} (f:α→List IV) (l:List α):VT (List.map f l) (l.length:Int):=by simp [VT]
theorem zcX {α:Type} (f:α→List IV) {l:List α} {n:Int} {e:α} (h:ze l n=some e):zfh (List.map f l) n (f e):=by
  obtain ⟨h1,h2,_⟩:=zbv h
  exact ⟨h1,by simp [h2]⟩
theorem VV {α:Type} (f:α→List IV) (sz:Nat) (hf:∀ x,(f x).length=sz) {l e:List α} {a b:Int} (h:yY l a b=some e):zfi (List.map f l) sz a b (List.map f e):=by
  obtain ⟨h1,h2,h3,h4⟩:=zbw h
  exact ⟨h1,h2,by simpa using h3,by simp [hf],by rw [←h4];simp [List.map_take,List.map_drop]⟩
theorem Q8 {k:IntKind} {a b e:Int} (h:xa k a b=some e):XK .rem (.int k a) (.int k b) (.int k e):=by
  obtain ⟨h1,h2⟩:=zbx h
  simp [XK,h1,h2]
section
variable {α β:Type}
def zm (len:Nat) (n:Int):Option Nat:=if 0≤n∧n < (len:Int) then some n.toNat else none
theorem zs {len k:Nat} {n:Int} (h:zm len n=some k):Qt n 0 len k:=by
  unfold zm at h;split at h
  · rename_i hh;cases h;exact ⟨hh.1,hh.2,by omega⟩
  · cases h
theorem zR (f:α→List IV) {l:List α} {k:Nat} {e:α} (h:l[k]?=some e):XL (zc f l) k (zl (f e)):=by
  unfold XL zc;rw [List.getElem?_map,h];rfl
theorem zU (f:α→List IV) {l:List α} {k:Nat} {e:α} (e':α) (h:l[k]?=some e):zfj (zc f l) k (zl (f e)) (zl (f e')) (zc f (l.set k e')):=by
  refine ⟨zR f h,?_⟩
  simp only [zc,List.map_set]
theorem Qu {l:List α} {k:Nat} {e:α} (e':α) (h:l[k]?=some e):(l.set k e')[k]?=some e':=by
  obtain ⟨hk,_⟩:=List.getElem?_eq_some_iff.1 h
  simp [hk]
def mkN (by_:Nat) (n:Int):Option Nat:=if 0≤n∧n < 2 ^ 31∧n*by_≤140737488355328 then some n.toNat else none
theorem xc (f:α→List IV) (z:α) {by_ k:Nat} {n:Int} (h:mkN by_ n=some k):zcT n by_ (zl (f z)) k (zc f (List.replicate k z)):=by
  unfold mkN at h;split at h
  · rename_i hh;cases h;exact ⟨hh,rfl,by simp [zc]⟩
  · cases h
theorem zbz (row:List AV) {by_ k:Nat} {n:Int} (h:mkN by_ n=some k):zcT n by_ row k (List.replicate k row):=by
  unfold mkN at h;split at h
  · rename_i hh;cases h;exact ⟨hh,rfl,rfl⟩
  · cases h
def j1 (k:Nat) (d l:List α):Option (List α):=if k=d.length∧l.length=k then some l else none
theorem zae {k:Nat} {d l e:List α} (h:j1 k d l=some e):k=d.length∧l.length=k∧e=l:=by
  unfold j1 at h;split at h
  · rename_i hh;cases h;exact ⟨hh.1,hh.2,rfl⟩
  · cases h
theorem ZU (f:α→List IV) (sz:Nat) (hf:∀ x,(f x).length=sz) {k:Nat} {d l e:List α} (h:j1 k d l=some e):zdM sz (zc f d) (List.map (List.map AV.imm) (List.map f l)) (zc f e) k:=by
  obtain ⟨h1,h2,rfl⟩:=zae h
  refine ⟨by simpa [zc] using h1,by simpa using h2,by simp [hf],?_⟩
  simp only [zc,List.map_map];congr 1
def zS (by_:Nat) (l m:List α):Option (List α):=if (l.length+m.length)*by_≤140737488355328 then some (l++m) else none
theorem qJ (f:α→List IV) (sz by_:Nat) (hf:∀ x,(f x).length=sz) {l m e:List α} (h:zS by_ l m=some e):zcU sz by_ (List.map f l) (List.map f m) (List.map f e) l.length e.length:=by
  unfold zS at h;split at h
  · rename_i hh;cases h;exact ⟨by simp [hf],by simp,by simpa using hh,by simp,by simp⟩
  · cases h
def VW (by_:Nat) (l m:List α):Option (List α):=if (l.length+m.length)*by_≤140737488355328 then some (l++m) else none
theorem zbA (f:α→List IV) (sz by_:Nat) (hf:∀ x,(f x).length=sz) {l m e:List α} (h:VW by_ l m=some e):zdN sz by_ (zc f l) (List.map (List.map AV.imm) (List.map f m)) (zc f e) l.length e.length:=by
  unfold VW at h;split at h
  · rename_i hh
    cases h
    refine ⟨by simp [hf],by simp [zc],by simpa using hh,?_,by simp⟩
    simp only [zc,List.map_append,List.map_map]
    congr 1
  · cases h
end
def IV.i64 (n:Int):IV:=.int .i64 n
theorem xj (args:List AV) (objs:List (Nat×AObj)) (ivs:List IV) (h:mapO (zB (za objs) 5) args=some ivs):zaa args objs ivs:=h
def ZV (k k':IntKind) (a b:Int):Option Int:=if b < 0 then none else some (a.fdiv (2 ^ (min b.toNat k.bits)))
theorem zcY {k k':IntKind} {a b e:Int} (h:ZV k k' a b=some e):XK .shr (.int k a) (.int k' b) (.int k e):=by
  unfold ZV at h
  split at h
  · cases h
  · rename_i hb;cases h;simp [XK,hb]
def zp {α β:Type} [DecidableEq α] (k:α):List (α×β)→Option β
  | []=>none
  | (k',v)::r=>if k=k' then some v else zp k r
def z8 {α β:Type} [DecidableEq α] (k:α) (v:β):List (α×β)→List (α×β)
  | []=>[(k,v)]
  | (k',v')::r=>if k=k' then (k,v)::r else (k',v')::z8 k v r
theorem JM (a b:ByteArray):(a == b)=decide (a=b):=by
  obtain ⟨a⟩:=a
  obtain ⟨b⟩:=b
  rw [Bool.eq_iff_iff,decide_eq_true_iff]
  show (a == b)=true↔_
  simp
theorem JN {β:Type} (vf:β→IV) (k:ByteArray) (es:List (ByteArray×β)):xv (.str k) (zk IV.str vf es)=true:=by
  simp [xv,zk,j6]
theorem Zx {β:Type} (vf:β→IV) (k:ByteArray):∀ es:List (ByteArray×β),qo (.str k) (zk IV.str vf es)=(zp k es).map fun v=>.imm (vf v)
  | []=>rfl
  | (k',v)::r=>by
    have ih:=Zx vf k r
    simp only [zk,List.map_cons,qo,j6,zp] at ih ⊢
    by_cases e:k=k'
    · subst e;simp [JM]
    · simp only [JM,decide_eq_false e,if_neg e];exact ih
theorem ZW {β:Type} (vf:β→IV) (k:ByteArray) (x:β):∀ es:List (ByteArray×β),qz (.str k) (.imm (vf x)) (zk IV.str vf es)=zk IV.str vf (z8 k x es)
  | []=>rfl
  | (k',v)::r=>by
    have ih:=ZW vf k x r
    simp only [zk,List.map_cons,qz,j6,z8] at ih ⊢
    by_cases e:k=k'
    · subst e;simp [JM]
    · simp only [JM,decide_eq_false e,if_neg e,List.map_cons];rw [ih]
theorem xk {β:Type} (vf:β→IV) (z:β) (k:ByteArray) (es:List (ByteArray×β)):zdO true (.imm (vf z)) (.str k) (zk IV.str vf es) (.imm (vf ((zp k es).getD z))) (zp k es).isSome:=by
  refine ⟨by rw [JN];rfl,?_⟩
  rw [Zx]
  cases zp k es with
  | none=>exact .inr ⟨rfl,rfl,rfl⟩
  | some v=>exact .inl ⟨rfl,rfl⟩
theorem xP {β:Type} (vf:β→IV) (k:ByteArray) (x:β) (es:List (ByteArray×β)):zfk true (.str k) (.imm (vf x)) (zk IV.str vf es) (zk IV.str vf (z8 k x es)):=
  ⟨by rw [JN];rfl,ZW vf k x es⟩
theorem JO {α:Type} (f:α→List IV) (h:Nat→Option AObj) (d:Nat):∀ l:List α,mapO (fun row:List AV=>mapO (zB h (d+1)) row) (zc f l)=some (l.map f)
  | []=>rfl
  | x::l=>by
    have ih:=JO f h d l
    have h1:mapO (zB h (d+1)) (zl (f x))=some (f x):=by
      generalize f x=r
      induction r with
      | nil=>rfl
      | cons a r ih=>simp only [zl,List.map_cons,mapO,zB] at ih ⊢; rw [ih]
    simp only [zc,List.map_cons,mapO] at ih ⊢
    rw [h1];simp only;rw [ih]
theorem VX {α:Type} (f:α→List IV) (h:Nat→Option AObj) (d id sz:Nat) (l:List α) (ho:h id=some (.rows sz (zc f l))):zB h (d+2) (.mslice id 0 l.length)=some (.slice (l.map f)):=by
  show (match h id with
      | some (.rows _ rows)=>if 0+l.length≤rows.length then (mapO (fun row:List AV=>mapO (zB h (d+1)) row) ((rows.drop 0).take l.length)).map IV.slice else none
      | _=>none)=_
  rw [ho]
  simp only [List.drop_zero]
  rw [if_pos (by simp [zc]),List.take_of_length_le (by simp [zc]),JO f h d l];rfl
end
end Go.Proofs.YtmoedieenlaegaaGreatDoor
