/-
  The abstract machine: calls in regions that draw their order, and such regions as a demand that can be worked off.
  The abstract machine: code as a demand that simp can work off: what is decided is run; what is not stands still.
  The abstract machine: counted loops, and small facts about numbers.
  The abstract machine: loops whose states are told by the slots that turn; lists.
  Denotations: small facts that printed proofs use.
  Denotations: rows of cells; what the printed proofs use.
  The abstract machine: a contract over a small heap serves in every heap that holds such objects under other names.
  Calls by contracts over small heaps.
-/
import Derived.Test.YtlpmnmbebkdocaaGreatDoorTC03
namespace Go.Proofs.YtlpmnmbebkdocaaGreatDoor
open Go.RowKit
set_option linter.unusedSimpArgs false
set_option linter.unusedVariables false
section
theorem jG {α β:Type} {f f':α→Option β}:∀ {l:List α},(∀ x∈l,f' x=f x)→mapO f' l=mapO f l
  | [],_=>rfl
  | a::r,h=>by
    simp only [mapO]
    rw [h a List.mem_cons_self,jG (l:=r) fun x hx=>h x (List.mem_cons_of_mem _ hx)]
def q6 (h:Nat→Option Zaf):Nat→AV→List Nat
  | 0,_=>[]
  | d+1,x=>match x with
    | .agg cs=>cs.flatMap (q6 h d)
    | .tuple cs=>cs.flatMap (q6 h d)
    | .Zal id off len=>id::match h id with
      | some (.rows _ rows)=>((rows.drop off).take len).flatMap fun row=>row.flatMap (q6 h d)
      | _=>[]
    | .map id=>id::match h id with
      | some (.map es)=>es.flatMap fun e=>q6 h d e.2
      | _=>[]
    | _=>[]
theorem X2 {h h':Nat→Option Zaf}:∀ (d:Nat) (x:AV),(∀ i∈q6 h d x,h' i=h i)→zx h' d x=zx h d x:=by
  intro d
  induction d with
  | zero=>intro x _;rfl
  | succ d ih=>
    intro x hi
    cases x with
    | agg cs=>
      simp only [zx]
      rw [jG fun c hc=>ih c fun i hm=>hi i (by simp only [q6,List.mem_flatMap];exact ⟨c,hc,hm⟩)]
    | tuple cs=>
      simp only [zx]
      rw [jG fun c hc=>ih c fun i hm=>hi i (by simp only [q6,List.mem_flatMap];exact ⟨c,hc,hm⟩)]
    | Zal id off len=>
      simp only [zx]
      rw [hi id (by simp [q6])]
      split
      · rename_i sz rows ho
        split
        · rw [jG fun row hrow=>jG fun c hc=>ih c fun i hm=>hi i (by
            simp only [q6,ho,List.mem_cons,List.mem_flatMap]
            exact .inr ⟨row,hrow,c,hc,hm⟩)]
        · rfl
      · rfl
    | map id=>
      simp only [zx]
      rw [hi id (by simp [q6])]
      split
      · rename_i es ho
        rw [jG fun e he=>by rw [ih e.2 fun i hm=>hi i (by
          simp only [q6,ho,List.mem_cons,List.mem_flatMap]
          exact .inr ⟨e,he,hm⟩)]]
      · rfl
    | _=>rfl
theorem zdB {h:Nat→Option Zaf}:∀ (d:Nat) (x:AV),jO d x=true→q6 h d x=[]:=by
  intro d
  induction d with
  | zero=>intro x _;rfl
  | succ d ih=>
    intro x hx
    cases x with
    | agg cs=>
      simp only [jO,List.all_eq_true] at hx
      simp only [q6,List.flatMap_eq_nil_iff]
      exact fun c hc=>ih c (hx c hc)
    | tuple cs=>
      simp only [jO,List.all_eq_true] at hx
      simp only [q6,List.flatMap_eq_nil_iff]
      exact fun c hc=>ih c (hx c hc)
    | Zal id off len=>simp [jO] at hx
    | map id=>simp [jO] at hx
    | _=>rfl
section
variable {C:Ctx} {nt:Fr} {f:Nat} {args:List AV} {h0:Nat→Option Zaf} {d:Nat} {ivs:List IV} {r:IV}
theorem LCall.pure (hp:APure C f ivs r) (hm:(args.all (jO d))=true) (hx:mapO (zx h0 d) args=some ivs):LCall C f args h0 [] (.imm r) [] []:=by
  refine ⟨hp.1,fun g h N w vs _ _ R hv => ?_⟩
  rw [QL]
  have hx':mapO (zx h d) args=some ivs:=by
    rw [jG fun x hxm=>X2 (h:=h0) d x fun i hi => ?_]
    · exact hx
    · rw [zdB d x (List.all_eq_true.1 hm x hxm)] at hi;cases hi
  obtain ⟨h1,h2⟩:=z7 hx'
  refine (hp.2 g.Z w vs R.zlt ⟨R.fix.1,R.fix.2.1⟩ ⟨by rw [h1];exact hv.1,fun j c u hc hu => ?_⟩).mono ?_
  · have hlt:j < args.length:=by rw [←h1];exact (List.getElem?_eq_some_iff.1 hc).1
    obtain ⟨c',h3,h4⟩:=h2 j args[j] (by simp)
    rw [hc] at h3
    cases h3
    exact Kp d _ _ _ (List.all_eq_true.1 hm _ (List.getElem_mem hlt)) h4 (hv.2 j args[j] u (by simp) hu)
  · rintro e w' ⟨v,Z',rfl,hr,hZ,hlt,hB⟩
    exact ⟨v,⟨g.ρ,Z'⟩,rfl,xE R hB hZ,yY R hB hZ hlt,.imm _ _ hr⟩
theorem LCall.snap (hp:APure C f ivs r) (hx:mapO (zx h0 d) args=some ivs) (hf:xh r=true):LCall C f args h0 (args.flatMap (q6 h0 d)) (.imm r) [] []:=by
  refine ⟨hp.1,fun g h N w vs hag _ R hv => ?_⟩
  rw [QL]
  have hx':mapO (zx h d) args=some ivs:=by
    rw [jG fun x hxm=>X2 (h:=h0) d x fun i hi=>hag i (List.mem_flatMap.2 ⟨x,hxm,hi⟩)]
    exact hx
  obtain ⟨h1,h2⟩:=z7 hx'
  let Z1:Nat→Nat:=fun b=>match w.heap[b]? with
    | some (.cells c _ _)=>max (g.Z b) c.size
    | some (.map _ _)=>max (g.Z b) 1
    | _=>g.Z b
  have hz1:∀ b,g.Z b≤Z1 b:=fun b=>by
    show g.Z b≤(match w.heap[b]? with | some (.cells c _ _)=>max (g.Z b) c.size | some (.map _ _)=>max (g.Z b) 1 | _=>g.Z b)
    split
    · exact Nat.le_max_left _ _
    · exact Nat.le_max_left _ _
    · exact Nat.le_refl _
  have hlt1:∀ b,0 < Z1 b→b < w.heap.size:=fun b hb=>by
    rcases Nat.lt_or_ge b w.heap.size with h | h
    · exact h
    · have hn:w.heap[b]?=none:=Array.getElem?_eq_none h
      have:Z1 b=g.Z b:=by show (match w.heap[b]? with | some (.cells c _ _)=>max (g.Z b) c.size | some (.map _ _)=>max (g.Z b) 1 | _=>g.Z b)=g.Z b;rw [hn]
      exact R.zlt b (by omega)
  have hO:∀ i b sz rows,g.ρ i=some b→h i=some (.rows sz rows)→rows.length*sz≤Z1 b:=fun i b sz rows hb ho=>by
    obtain ⟨hz,c,e,hc,hlen,hcells⟩:=R.obj i b _ hb ho
    have hZ:Z1 b=max (g.Z b) c.size:=by show (match w.heap[b]? with | some (.cells c _ _)=>max (g.Z b) c.size | some (.map _ _)=>max (g.Z b) 1 | _=>g.Z b)=_;rw [hc]
    rw [hZ]
    refine Nat.le_trans ?_ (Nat.le_max_right _ _)
    rcases Nat.eq_zero_or_pos (rows.length*sz) with h0 | h0
    · omega
    · have hs:0 < sz:=Nat.pos_of_ne_zero fun e=>by subst e;simp at h0
      have hr:0 < rows.length:=Nat.pos_of_ne_zero fun e=>by rw [e] at h0;simp at h0
      have hrow:rows[rows.length - 1]?=some (rows[rows.length - 1]'(by omega)):=by simp
      have hl:=hlen _ _ hrow
      obtain ⟨cv,h3,_⟩:=hcells (rows.length - 1) _ (sz - 1) ((rows[rows.length - 1]'(by omega))[sz - 1]'(by omega)) hrow (by simp)
      have hlt:=(Array.getElem?_eq_some_iff.1 h3).1
      have:(rows.length - 1)*sz+sz=rows.length*sz:=by
        rw [←Nat.succ_mul];congr 1;omega
      omega
  have hM:∀ i b es,g.ρ i=some b→h i=some (.map es)→0 < Z1 b:=fun i b es hb ho=>by
    obtain ⟨hz,ces,clock,hw,_⟩:=R.obj i b _ hb ho
    have hZ:Z1 b=max (g.Z b) 1:=by show (match w.heap[b]? with | some (.cells c _ _)=>max (g.Z b) c.size | some (.map _ _)=>max (g.Z b) 1 | _=>g.Z b)=_;rw [hw]
    rw [hZ]
    exact Nat.lt_of_lt_of_le Nat.zero_lt_one (Nat.le_max_right _ _)
  refine (hp.2 Z1 w vs hlt1 ⟨R.fix.1,R.fix.2.1⟩ ⟨by rw [h1];exact hv.1,fun j c u hc hu => ?_⟩).mono ?_
  · have hlt:j < args.length:=by rw [←h1];exact (List.getElem?_eq_some_iff.1 hc).1
    obtain ⟨c',h3,h4⟩:=h2 j args[j] (by simp)
    rw [hc] at h3
    cases h3
    exact Vc R Z1 hz1 hO hM d _ _ _ h4 (hv.2 j args[j] u (by simp) hu)
  · rintro e w' ⟨v,Z',rfl,hr,hZ,hlt,hB⟩
    exact ⟨v,g,rfl,xE (Z':=g.Z) R hB (fun _ _=>rfl),yY (Z':=g.Z) R hB (fun _ _=>rfl) (fun b hb=>Nat.lt_of_lt_of_le (R.zlt b hb) hB.size),.imm _ _ (zbp hf hr)⟩
end
def DCall (C:Ctx) (f:Nat) (args:List AV) (heap:List (Nat×Zaf)) (KD:List Nat→AV→List (Nat×Zaf)→Prop):Prop:=∃ rd r ups,LCall C f args (za heap) rd r ups []∧KD rd r ups
theorem DCall.pure {C:Ctx} {f:Nat} {args:List AV} {heap:List (Nat×Zaf)} {d:Nat} {ivs:List IV} {r:IV} {KD:List Nat→AV→List (Nat×Zaf)→Prop} (hp:APure C f ivs r) (hm:(args.all (jO d))=true) (hx:mapO (zx (za heap) d) args=some ivs)
    (hK:KD [] (.imm r) []):DCall C f args heap KD:=⟨_,_,_,LCall.pure hp hm hx,hK⟩
theorem DCall.snap {C:Ctx} {f:Nat} {args:List AV} {heap:List (Nat×Zaf)} {d:Nat} {ivs:List IV} {r:IV} {KD:List Nat→AV→List (Nat×Zaf)→Prop} (hp:APure C f ivs r) (hx:mapO (zx (za heap) d) args=some ivs) (hf:xh r=true)
    (hK:KD (args.flatMap (q6 (za heap) d)) (.imm r) []):DCall C f args heap KD:=⟨_,_,_,LCall.snap hp hx hf,hK⟩
def wm (ord:List Nat) (j:Nat) (W R:List (Nat×Nat)) (us rd:List Nat):Bool:=
  (W.all fun p=>!(us.contains p.2||rd.contains p.2)||bef ord p.1 j)&&us.all fun x=>R.all fun p=>!(p.2 == x)||bef ord p.1 j
def qT (j:Nat) (l:List Nat) (W:List (Nat×Nat)):List (Nat×Nat):=l.map (fun x=>(j,x))++W
def dNext (ord:List Nat) (j:Nat) (W R:List (Nat×Nat)) (dst:Option Nat) (st:St) (next:Nat→List (Nat×Nat)→List (Nat×Nat)→St→Prop):List Nat→AV→List (Nat×Zaf)→Prop:=
  fun rd r ups=>wm ord j W R (z1 ups) rd=true∧next (j+1) (qT j (z1 ups) W) (qT j rd R) (st.after dst r ups)
def YR (dst:Option Nat) (st:St) (next:St→Prop):List Nat→AV→List (Nat×Zaf)→Prop:=fun rd r ups=>ups=[]∧next (st.after dst r [])
def qk (KD:List Nat→AV→List (Nat×Zaf)→Prop) (rd:List Nat):Option (AV×List (Nat×Zaf))→Prop
  | some (r,ups)=>KD rd r ups
  | none=>False
def YS (C:Ctx) (KD:List Nat→AV→List (Nat×Zaf)→Prop) (heap:List (Nat×Zaf)) (args:List AV):AV→Prop
  | .func f first caps=>DCall C f (first++args++caps) heap KD
  | _=>False
def dOp (C:Ctx) (KD:List Nat→AV→List (Nat×Zaf)→Prop) (st:St):AOp→Prop
  | .call f args=>YS C KD st.heap (args.map (zd st.env)) (zd st.env f)
  | op=>qk KD (zg op (zd st.env)) (evalOp op (zd st.env) (za st.heap) st.next)
def dG (C:Ctx) (op:AOp) (KD:List Nat→AV→List (Nat×Zaf)→Prop) (st:St):Bool→Prop
  | true=>dOp C KD st op
  | false=>KD [] .undef []
def dGV (C:Ctx) (op:AOp) (KD:List Nat→AV→List (Nat×Zaf)→Prop) (st:St) (want:Bool):AV→Prop
  | .imm (.bool b)=>dG C op KD st (b == want)
  | .undef=>dG C op KD st false
  | _=>False
def dIt (C:Ctx) (it:AItem) (KD:List Nat→AV→List (Nat×Zaf)→Prop) (st:St):Prop:=match it.guard with
  | none=>dOp C KD st it.op
  | some (t,want)=>dGV C it.op KD st want ((za st.env t).getD .top)
def evd (C:Ctx) (ord:List Nat) (K:St→Prop):List AItem→Nat→List (Nat×Nat)→List (Nat×Nat)→St→Prop
  | [],_,_,_,st=>K st
  | it::rest,j,W,R,st=>dIt C it (dNext ord j W R it.dst st (evd C ord K rest)) st
def evr (C:Ctx) (K:St→Prop):List AItem→St→Prop
  | [],st=>K st
  | it::rest,st=>dIt C it (YR it.dst st (evr C K rest)) st
section
variable {C:Ctx} {nt:Fr}
theorem zbq {it:AItem} {KD:List Nat→AV→List (Nat×Zaf)→Prop} {st:St} (h:dIt C it KD st):∃ rc:Rec,rc.dst=it.dst∧EvD C it st rc∧KD rc.rd rc.r rc.ups∧rc.ex=[]:=by
  have op:∀ {g},zQ st.env it.guard=some true→g=it.guard→dOp C KD st it.op→∃ rc:Rec,rc.dst=it.dst∧EvD C it st rc∧KD rc.rd rc.r rc.ups∧rc.ex=[]:=fun hg _ ho=>by
    obtain ⟨dst,op,gd⟩:=it
    simp only at ho hg
    cases op
    case call f args=>
      simp only [dOp,YS] at ho
      split at ho
      · rename_i f' first caps hf
        obtain ⟨rd,r,ups,hl,hk⟩:=ho
        refine ⟨⟨dst,r,ups,rd,[]⟩,rfl,?_,hk,rfl⟩
        simp only [EvD,hg,hf]
        exact hl
      · exact ho.elim
    all_goals
      simp only [dOp,qk] at ho
      split at ho
      · rename_i r ups hev
        refine ⟨⟨dst,r,ups,_,[]⟩,rfl,?_,ho,rfl⟩
        simp only [EvD,hg]
        exact ⟨hev,rfl,trivial⟩
      · exact ho.elim
  have off:zQ st.env it.guard=some false→KD [] .undef []→∃ rc:Rec,rc.dst=it.dst∧EvD C it st rc∧KD rc.rd rc.r rc.ups∧rc.ex=[]:=fun hg ho=>by
    refine ⟨⟨it.dst,.undef,[],[],[]⟩,rfl,?_,ho,rfl⟩
    simp only [EvD,hg,and_self]
  unfold dIt at h
  split at h
  · rename_i hg;exact op (by rw [hg];rfl) hg.symm h
  · rename_i t want hg
    unfold dGV at h
    split at h
    · rename_i b hb
      cases hbw:(b == want) with
      | true=>rw [hbw] at h;exact op (by rw [hg];simp only [zQ,hb,hbw]) hg.symm h
      | false=>rw [hbw] at h;exact off (by rw [hg];simp only [zQ,hb,hbw]) h
    · rename_i hb;exact off (by rw [hg];simp only [zQ,hb]) h
    · exact h.elim
theorem Xp {ord:List Nat} {recs:List Rec} (h:∀ (i j:Nat) (ri rj:Rec),recs[i]?=some ri→recs[j]?=some rj→i < j→jz ri rj=true→bef ord i j=true):ZM ord recs=true:=by
  unfold ZM
  refine List.all_eq_true.2 fun j hj => ?_
  split
  · rename_i rj hrj
    refine Bool.or_eq_true_iff.2 (.inr (List.all_eq_true.2 fun i hi => ?_))
    simp at hi
    split
    · rename_i ri hri
      cases hc:jz ri rj with
      | true=>simp [h i j ri rj hri hrj hi hc]
      | false=>simp
    · rfl
  · rfl
theorem zbr {ord:List Nat} {K:St→Prop}:∀ (items:List AItem) (W R:List (Nat×Nat)) (st:St) (pre:List Rec),evd C ord K items pre.length W R st →
    (∀ (i:Nat) (ri:Rec) (x:Nat),pre[i]?=some ri→x∈z1 ri.ups→(i,x)∈W)→(∀ (i:Nat) (ri:Rec) (x:Nat),pre[i]?=some ri→x∈ri.rd→(i,x)∈R) →
    (∀ (i j:Nat) (ri rj:Rec),pre[i]?=some ri→pre[j]?=some rj→i < j→jz ri rj=true→bef ord i j=true) →
    ∃ recs st',Za C items st recs st'∧(∀ (i j:Nat) (ri rj:Rec),(pre++recs)[i]?=some ri→(pre++recs)[j]?=some rj→i < j→jz ri rj=true→bef ord i j=true)∧K st'∧∀ rc∈recs,rc.ex=[]
  | [],W,R,st,pre,h,hW,hR,hp=>⟨[],st,rfl,by simpa using hp,h,by simp⟩
  | it::rest,W,R,st,pre,h,hW,hR,hp=>by
    obtain ⟨rc,h1,h2,⟨hok,h3⟩,hx0⟩:=zbq h
    have hlen:(pre++[rc]).length=pre.length+1:=by simp
    have split:∀ (i:Nat) (ri:Rec),(pre++[rc])[i]?=some ri→pre[i]?=some ri∨(i=pre.length∧ri=rc):=fun i ri hi=>by
      rw [List.getElem?_append] at hi
      split at hi
      · exact .inl hi
      · rename_i hge
        rcases Nat.eq_or_lt_of_le (Nat.le_of_not_lt hge) with e | e
        · rw [←e] at hi;simp at hi;exact .inr ⟨e.symm,hi.symm⟩
        · have:i - pre.length≠0:=by omega
          obtain ⟨m,hm⟩:=Nat.exists_eq_succ_of_ne_zero this
          rw [hm] at hi;simp at hi
    obtain ⟨recs,st',h4,h5,h6,hx1⟩:=zbr rest (qT pre.length (z1 rc.ups) W) (qT pre.length rc.rd R) (st.after it.dst rc.r rc.ups) (pre++[rc]) (by rw [hlen];exact h3)
      (fun i ri x hi hx=>by
        rcases split i ri hi with hi | ⟨rfl,rfl⟩
        · exact List.mem_append_right _ (hW i ri x hi hx)
        · exact List.mem_append_left _ (List.mem_map.2 ⟨x,hx,rfl⟩))
      (fun i ri x hi hx=>by
        rcases split i ri hi with hi | ⟨rfl,rfl⟩
        · exact List.mem_append_right _ (hR i ri x hi hx)
        · exact List.mem_append_left _ (List.mem_map.2 ⟨x,hx,rfl⟩))
      (fun i j ri rj hi hj hlt hc=>by
        rcases split j rj hj with hj | ⟨rfl,rfl⟩
        · rcases split i ri hi with hi | ⟨rfl,rfl⟩
          · exact hp i j ri rj hi hj hlt hc
          · have:=(List.getElem?_eq_some_iff.1 hj).1;omega
        · rcases split i ri hi with hi | ⟨rfl,rfl⟩
          · simp only [wm,Bool.and_eq_true,List.all_eq_true] at hok
            simp only [jz,Bool.or_eq_true,List.any_eq_true] at hc
            rcases hc with ⟨x,hx,hc⟩ | ⟨x,hx,hc⟩
            · have:=hok.1 (i,x) (hW i ri x hi hx)
              simp only [Bool.or_eq_true,Bool.not_eq_true',Bool.or_eq_false_iff] at this
              rcases this with ⟨h7,h8⟩ | h7
              · simp only [h7,h8] at hc;simp at hc
              · exact h7
            · have:=hok.2 x hx (i,x) (hR i ri x hi (by simpa using hc))
              simpa using this
          · omega)
    refine ⟨rc::recs,st',⟨h1,h2,h4⟩,?_,h6,fun r hr => ?_⟩
    · simpa using h5
    · rcases List.mem_cons.1 hr with rfl | hr
      · exact hx0
      · exact hx1 r hr
theorem zbs {K:St→Prop}:∀ (items:List AItem) (st:St),evr C K items st→∃ recs st',Za C items st recs st'∧(∀ rc∈recs,rc.ups=[])∧K st'∧∀ rc∈recs,rc.ex=[]
  | [],st,h=>⟨[],st,rfl,by simp,h,by simp⟩
  | it::rest,st,h=>by
    obtain ⟨rc,h1,h2,⟨hu,h3⟩,hx0⟩:=zbq h
    obtain ⟨recs,st',h4,h5,h6,hx1⟩:=zbs rest _ h3
    refine ⟨rc::recs,st',⟨h1,h2,by rw [hu];exact h4⟩,fun r hr => ?_,h6,fun r hr => ?_⟩
    · rcases List.mem_cons.1 hr with rfl | hr
      · exact hu
      · exact h5 r hr
    · rcases List.mem_cons.1 hr with rfl | hr
      · exact hx0
      · exact hx1 r hr
theorem Kw {n0:Nat} {recs:List Rec} (h:∀ rc∈recs,rc.ex=[]):Ve n0 recs:=by
  constructor
  · intro k rc i hk hi
    rw [h rc (List.mem_of_getElem? hk)] at hi;cases hi
  · intro k l rk rl i hk _ hi
    rw [h rk (List.mem_of_getElem? hk)] at hi;cases hi
def X3 (items:List AItem):Bool:=items.all fun it=>match it.op with
  | .alloc _ _ | .box _ _ | .bslice _ _ _ _ | .store _ _ _ | .mkmap | .upd _ _ _ _ | .mks _ _ _ _ | .app _ _ _ _ | .copy _ _ _=>false
  | _=>true
theorem zgV {C:CtxY} {ord:List Nat} {items:List AItem} {ks:Option (List Nat)} {K:Exit→St→Prop} {st:St} (h:evd C ord (fun st'=>K .normal (st'.keep ks)) items 0 [] [] st):awp C nt (.region true ord items ks) K st:=by
  obtain ⟨recs,st',h1,h2,h3,h4⟩:=zbr (ord:=ord) items [] [] st [] h (by simp) (by simp) (by simp)
  exact Xo h1 (Xp (by simpa using h2)) (Kw h4) st'.next (Nat.le_refl _) (fun rc hr i hi=>by rw [h4 rc hr] at hi;cases hi) h3
theorem zgW {C:CtxY} {ord:List Nat} {items:List AItem} {ks:Option (List Nat)} {K:Exit→St→Prop} {st:St} (h:evr C (fun st'=>K .normal (st'.keep ks)) items st):awp C nt (.region true ord items ks) K st:=by
  obtain ⟨recs,st',h1,h2,h3,h4⟩:=zbs items st h
  refine Xo h1 (Xp fun i j ri rj hi hj hlt hc => ?_) (Kw h4) st'.next (Nat.le_refl _) (fun rc hr i hi=>by rw [h4 rc hr] at hi;cases hi) h3
  simp [jz,z1,h2 ri (List.mem_of_getElem? hi),h2 rj (List.mem_of_getElem? hj)] at hc
end
end
section
def yN (dst:Option Nat) (env:List (Nat×AV)) (K:St→Prop):AV→List (Nat×Zaf)→Nat→Prop:=fun r heap' next'=>K (St.put {env:=env,heap:=heap',next:=next'+1} dst r)
def zS (dst:Option Nat) (K:St→Prop) (st:St):Option (AV×List (Nat×Zaf))→Prop
  | some (r,ups)=>K (st.after dst r ups)
  | none=>False
def X4 (C:CtxY) (dst:Option Nat) (K:St→Prop) (st:St) (args:List AV):AV→Prop
  | .func f first caps=>ACall C f (first++args++caps) st.heap st.next (yN dst st.env K)
  | .yld l id=>C.Y l id args st.heap st.next (yN dst st.env K)
  | _=>False
def evOp (C:CtxY) (dst:Option Nat) (K:St→Prop) (st:St):AOp→Prop
  | .call f args=>X4 C dst K st (args.map (zd st.env)) (zd st.env f)
  | op=>zS dst K st (evalOp op (zd st.env) (za st.heap) st.next)
def evG (C:CtxY) (dst:Option Nat) (op:AOp) (K:St→Prop) (st:St):Bool→Prop
  | true=>evOp C dst K st op
  | false=>K (st.after dst .undef [])
def QN (C:CtxY) (dst:Option Nat) (op:AOp) (K:St→Prop) (st:St) (want:Bool):AV→Prop
  | .imm (.bool b)=>evG C dst op K st (b == want)
  | .undef=>evG C dst op K st false
  | _=>False
def QO (C:CtxY) (it:AItem) (K:St→Prop) (st:St):Prop:=match it.guard with
  | none=>evOp C it.dst K st it.op
  | some (t,want)=>QN C it.dst it.op K st want ((za st.env t).getD .top)
theorem zbt (C:CtxY) (dst:Option Nat) (op:AOp) (g:Option (Nat×Bool)) (K:St→Prop) (st:St) (hg:zQ st.env g=some true):wP C ⟨dst,op,g⟩ st K=evOp C dst K st op:=by
  unfold wP
  rw [hg]
  cases op
  case call f args=>
    simp only [evOp]
    cases zd st.env f<;>rfl
  all_goals
    simp only [evOp]
    generalize evalOp _ _ _ _=r
    rcases r with _ | ⟨r,ups⟩<;>rfl
theorem zgX (C:CtxY) (it:AItem) (K:St→Prop) (st:St) (h:QO C it K st):wP C it st K:=by
  obtain ⟨dst,op,g⟩:=it
  unfold QO at h
  split at h
  · rename_i hg
    simp only at hg
    subst hg
    rw [zbt C dst op none K st rfl]
    exact h
  · rename_i t want hg
    simp only at hg
    subst hg
    unfold QN at h
    split at h
    · rename_i b hb
      cases hbw:(b == want) with
      | true=>
        rw [hbw] at h
        rw [zbt C dst op _ K st (by simp only [zQ,hb,hbw])]
        exact h
      | false=>
        rw [hbw] at h
        unfold wP
        simp only [zQ,hb,hbw]
        exact h
    · rename_i hb
      unfold wP
      simp only [zQ,hb]
      exact h
    · exact h.elim
def evl (C:CtxY):List AItem→(St→Prop)→St→Prop
  | [],K,st=>K st
  | it::rest,K,st=>QO C it (evl C rest K) st
theorem yO (C:CtxY):∀ (l:List AItem) (K:St→Prop) (st:St),evl C l K st→evs C l K st
  | [],K,st,h=>h
  | it::rest,K,st,h=>by
    have:evl C rest K=evl C rest K:=rfl
    have h1:=zgX C it _ st h
    simp only [evs]
    unfold wP at h1 ⊢
    split
    · rename_i hg;rw [hg] at h1;exact yO C rest K _ h1
    · rename_i hg
      rw [hg] at h1
      simp only at h1
      split
      · rename_i f args hop
        rw [hop] at h1
        simp only at h1
        split
        · rename_i hf
          rw [hf] at h1
          exact ACall.mono (fun r h n hk=>yO C rest K _ hk) h1
        · rename_i l id hf
          rw [hf] at h1
          exact C.ymono _ _ _ _ _ _ _ (fun r h n hk=>yO C rest K _ hk) h1
        · rename_i hf hf2
          split at h1
          · rename_i f' first caps hff;exact absurd hff (hf _ _ _)
          · rename_i l id hff;exact absurd hff (hf2 _ _)
          · exact h1
      · rename_i hop
        split at h1
        · rename_i f args h3;exact absurd h3 (hop _ _)
        · split
          · rename_i r ups hev;rw [hev] at h1;exact yO C rest K _ h1
          · rename_i hev;rw [hev] at h1;exact h1
    · rename_i hg;rw [hg] at h1;exact h1
def wpC (b:AV) (x y:St→Prop) (st:St):Prop:=match b with
  | .imm (.bool true)=>x st
  | .imm (.bool false)=>y st
  | _=>False
def ZP (ks:Option (List Nat)) (K:Exit→St→Prop):St→Prop:=fun st=>K .normal (st.keep ks)
def wpD (C:CtxY) (b:Bool) (ord:List Nat) (items:List AItem) (K:St→Prop) (st:St):Prop:=match b with
  | true=>evr C K items st
  | false=>evd C ord K items 0 [] [] st
def wpx (C:CtxY) (nt:Fr):ZaG→(Exit→St→Prop)→St→Prop
  | .skip,K,st=>K .normal st
  | .region false _ items ks,K,st=>evl C items (ZP ks K) st
  | .region true ord items ks,K,st=>wpD C (X3 items) ord items (ZP ks K) st
  | .seq x y,K,st=>wpx C nt x (yD (wpx C nt y K) K) st
  | .cond c x y,K,st=>wpC (zd st.env c) (wpx C nt x K) (wpx C nt y K) st
  | .block id x,K,st=>wpx C nt x (xo id K) st
  | .loop x,K,st=>awp C nt (.loop x) K st
  | .scope x,K,st=>C.ro=none∧wpx C nt x (Zk K) st
  | .range f ps x y,K,st=>awp C nt (.range f ps x y) K st
  | .exit id,K,st=>K (.exit id) st
  | .ret,K,st=>K .ret st
theorem ww {C:CtxY} {nt:Fr}:∀ {c:ZaG} {K:Exit→St→Prop} {st:St},wpx C nt c K st→awp C nt c K st
  | .skip,K,st,h=>Xj h
  | .region false _ items ks,K,st,h=>XX (yO C items _ st h)
  | .region true ord items ks,K,st,h=>by
    simp only [wpx,wpD] at h
    split at h
    · exact zgW h
    · exact zgV h
  | .seq x y,K,st,h=>by
    have h1:awp C nt x (yD (wpx C nt y K) K) st:=ww (c:=x) h
    refine xn (qS (fun e st' hk => ?_) h1)
    cases e with
    | normal=>exact ww (c:=y) hk
    | _=>exact hk
  | .cond c x y,K,st,h=>by
    simp only [wpx,wpC] at h
    split at h
    · rename_i hb;exact wl true hb (fun _=>ww h) (fun h=>by cases h)
    · rename_i hb;exact wl false hb (fun h=>by cases h) (fun _=>ww h)
    · exact h.elim
  | .block id x,K,st,h=>kI (ww (c:=x) h)
  | .loop x,K,st,h=>h
  | .scope x,K,st,h=>V0 h.1 (ww (c:=x) h.2)
  | .range f ps x y,K,st,h=>h
  | .exit id,K,st,h=>Xk h
  | .ret,K,st,h=>Vb h
section
variable {C:CtxY} {nt:Fr} {env:List (Nat×AV)} {heap:List (Nat×Zaf)} {next:Nat} {dst:Option Nat} {K:St→Prop} {KE:Exit→St→Prop} {st:St}
@[simp] theorem zlz:wpx C nt .skip KE st=KE .normal st:=rfl
@[simp] theorem zjU (o:List Nat) (items:List AItem) (ks:Option (List Nat)):wpx C nt (.region false o items ks) KE st=evl C items (ZP ks KE) st:=rfl
@[simp] theorem zlA (o:List Nat) (items:List AItem) (ks:Option (List Nat)):wpx C nt (.region true o items ks) KE st=wpD C (X3 items) o items (ZP ks KE) st:=rfl
@[simp] theorem zlB (o:List Nat) (items:List AItem):wpD C true o items K st=evr C K items st:=rfl
@[simp] theorem zkX (o:List Nat) (items:List AItem):wpD C false o items K st=evd C o K items 0 [] [] st:=rfl
@[simp] theorem zmj (x y:ZaG):wpx C nt (.seq x y) KE st=wpx C nt x (yD (wpx C nt y KE) KE) st:=rfl
@[simp] theorem zlC (c:Opd) (x y:ZaG):wpx C nt (.cond c x y) KE st=wpC (zd st.env c) (wpx C nt x KE) (wpx C nt y KE) st:=rfl
@[simp] theorem zkY (id:Nat) (x:ZaG):wpx C nt (.block id x) KE st=wpx C nt x (xo id KE) st:=rfl
@[simp] theorem zlD (id:Nat):wpx C nt (.exit id) KE st=KE (.exit id) st:=rfl
@[simp] theorem zmk:wpx C nt .ret KE st=KE .ret st:=rfl
@[simp] theorem zlE (x y:St→Prop):wpC (.imm (.bool true)) x y st=x st:=rfl
@[simp] theorem zkZ (x y:St→Prop):wpC (.imm (.bool false)) x y st=y st:=rfl
@[simp] theorem zjM (n:St→Prop):yD n KE .normal st=n st:=rfl
@[simp] theorem zk0 (n:St→Prop) (id:Nat):yD n KE (.exit id) st=KE (.exit id) st:=rfl
@[simp] theorem zlF (n:St→Prop):yD n KE .ret st=KE .ret st:=rfl
@[simp] theorem zgY (id:Nat):xo id KE .normal st=KE .normal st:=rfl
@[simp] theorem zjN (id:Nat):xo id KE .ret st=KE .ret st:=rfl
@[simp] theorem Kx (id id':Nat):xo id KE (.exit id') st=if id'=id then KE .normal st else KE (.exit id') st:=rfl
@[simp] theorem zgZ:Zk KE .normal st=KE .normal st:=rfl
@[simp] theorem zhW (id:Nat):Zk KE (.exit id) st=KE (.exit id) st:=rfl
@[simp] theorem zjO:Zk KE .ret st=KE .ret st:=rfl
@[simp] theorem zdC (ks:List Nat):ZP (some ks) KE ⟨env,heap,next⟩=KE .normal ⟨qw ks env,heap,next⟩:=rfl
@[simp] theorem zk1:ZP none KE st=KE .normal st:=rfl
@[simp] theorem zjP (ks:List Nat):qw ks []=[]:=rfl
@[simp] theorem zhX (ks:List Nat) (k:Nat) (v:AV) (r:List (Nat×AV)):qw ks ((k,v)::r)=bif ks.contains k then (k,v)::qw ks r else qw ks r:=by
  simp only [qw,List.filter_cons];cases ks.contains k<;>rfl
@[simp] theorem zg0:evl C [] K st=K st:=rfl
@[simp] theorem Ky (it:AItem) (r:List AItem):evl C (it::r) K st=QO C it (evl C r K) st:=rfl
@[simp] theorem V3 (op:AOp):QO C ⟨dst,op,none⟩ K st=evOp C dst K st op:=rfl
@[simp] theorem zk2 (op:AOp) (t:Nat) (want:Bool):QO C ⟨dst,op,some (t,want)⟩ K st=QN C dst op K st want ((za st.env t).getD .top):=rfl
@[simp] theorem zjV (op:AOp) (want:Bool):QN C dst op K st want .undef=K (st.after dst .undef []):=rfl
@[simp] theorem zk3 (op:AOp) (b:Bool):QN C dst op K st true (.imm (.bool b))=evG C dst op K st b:=by simp [QN]
@[simp] theorem zjW (op:AOp) (b:Bool):QN C dst op K st false (.imm (.bool b))=evG C dst op K st (!b):=by cases b<;>rfl
@[simp] theorem zlG (op:AOp):evG C dst op K st true=evOp C dst K st op:=rfl
@[simp] theorem zk4 (op:AOp):evG C dst op K st false=K (st.after dst .undef []):=rfl
@[simp] theorem X5 (r:AV) (ups:List (Nat×Zaf)):zS dst K st (some (r,ups))=K (st.after dst r ups):=rfl
@[simp] theorem zjX:zS dst K st none=False:=rfl
@[simp] theorem zdD (f:Opd) (args:List Opd):evOp C dst K ⟨env,heap,next⟩ (.call f args)=X4 C dst K ⟨env,heap,next⟩ (args.map (zd env)) (zd env f):=rfl
@[simp] theorem za0 (args:List AV) (f:Nat) (first caps:List AV):X4 C dst K ⟨env,heap,next⟩ args (.func f first caps)=ACall C f (first++args++caps) heap next (yN dst env K):=rfl
@[simp] theorem Kz (d:Nat) (r:AV) (heap':List (Nat×Zaf)) (next':Nat):yN (some d) env K r heap' next'=K ⟨zj env d r,heap',next'+1⟩:=rfl
@[simp] theorem zhY (r:AV) (heap':List (Nat×Zaf)) (next':Nat):yN none env K r heap' next'=K ⟨env,heap',next'+1⟩:=rfl
@[simp] theorem X6 (d:Nat) (r:AV) (ups:List (Nat×Zaf)):St.after ⟨env,heap,next⟩ (some d) r ups=⟨zj env d r,zC ups heap,next+1⟩:=rfl
@[simp] theorem zjY (r:AV) (ups:List (Nat×Zaf)):St.after ⟨env,heap,next⟩ none r ups=⟨env,zC ups heap,next+1⟩:=rfl
@[simp] theorem QP:zC [] heap=heap:=rfl
@[simp] theorem YI (k:Nat) (o:Zaf) (r:List (Nat×Zaf)):zC ((k,o)::r) heap=zJ (zC r heap) k o:=rfl
@[simp] theorem zk5 {α:Type} (i:Nat) (v:α):zJ [] i v=[(i,v)]:=rfl
@[simp] theorem zjZ {α:Type} (k i:Nat) (v u:α) (r:List (Nat×α)):zJ ((k,v)::r) i u=if k=i then (i,u)::r else if k=999999 then (i,u)::(k,v)::r else (k,v)::zJ r i u:=rfl
@[simp] theorem zdE {α:Type} (i:Nat):za ([]:List (Nat×α)) i=none:=rfl
@[simp] theorem X7 {α:Type} (k i:Nat) (v:α) (r:List (Nat×α)):za ((k,v)::r) i=if k=i then some v else za r i:=rfl
@[simp] theorem V4 {α:Type} (i:Nat) (v:α):zj [] i v=[(i,v)]:=rfl
@[simp] theorem X8 {α:Type} (k i:Nat) (v u:α) (r:List (Nat×α)):zj ((k,v)::r) i u=if k=i then (i,u)::r else (k,v)::zj r i u:=rfl
@[simp] theorem zg1 (n:Nat):zd env (.t n)=(za env n).getD .top:=rfl
@[simp] theorem zml (x:AV):zd env (.c x)=x:=rfl
@[simp] theorem zj0 (i:Nat):qY i []=[]:=rfl
@[simp] theorem zjQ (i:Nat) (x:AV) (xs:List AV):qY i (x::xs)=(i,x)::qY (i+1) xs:=rfl
@[simp] theorem zlH {α β:Type} (f:α→Option β):mapO f []=some []:=rfl
@[simp] theorem zk6 {α β:Type} (f:α→Option β) (a:α) (r:List α):mapO f (a::r)=match f a with
    | some b=>match mapO f r with
      | some bs=>some (b::bs)
      | none=>none
    | none=>none:=rfl
def ZQ (KA:AV→List (Nat×Zaf)→Nat→Prop) (heap:List (Nat×Zaf)) (next:Nat):Option AV→Prop
  | some r=>KA r heap next
  | none=>False
def yH (rs:List ARes) (KA:AV→List (Nat×Zaf)→Nat→Prop):Exit→St→Prop
  | .ret,st | .normal,st=>ZQ KA st.heap st.next (qO rs st)
  | _,_=>False
theorem ACall.run {C:Ctx} {f:Nat} {F:AFun} (hF:qt C f=some F.erase) {args:List AV} {KA:AV→List (Nat×Zaf)→Nat→Prop} (hn:args.length≤F.nt)
    (h:∀ B,wpx C.plain ⟨F.nt,B⟩ F.body (yH F.results KA) {env:=qY 0 args,heap:=heap,next:=next}):ACall C f args heap next KA:=ACall.enter hF hn (fun B=>qS (fun e st hk=>by
      have key:∀ {o:Option AV},ZQ KA st.heap st.next o→∃ r,o=some r∧KA r st.heap st.next:=fun {o} ho=>by
        cases o with
        | none=>exact ho.elim
        | some r=>exact ⟨r,rfl,ho⟩
      cases e with
      | ret=>exact ⟨.inl rfl,key hk⟩
      | normal=>exact ⟨.inr rfl,key hk⟩
      | _=>exact hk.elim) (ww (h B)))
def QQ (d:Nat) (r:IV):AV→List (Nat×Zaf)→Nat→Prop:=fun x heap _=>zx (za heap) d x=some r
@[simp] theorem zmm (d:Nat) (r:IV) (x:AV):QQ d r x heap next=(zx (za heap) d x=some r):=rfl
theorem APure.run {C:Ctx} {f:Nat} {F:AFun} (hF:qt C f=some F.erase) {args:List IV} {r:IV} (d:Nat) (hn:args.length≤F.nt)
    (h:∀ B,wpx C.plain ⟨F.nt,B⟩ F.body (yH F.results (QQ d r)) {env:=qY 0 (args.map .imm),heap:=[],next:=0}):APure C f args r:=APure.of (d:=d) (ACall.run hF (by simpa using hn) h)
variable {KA:AV→List (Nat×Zaf)→Nat→Prop}
@[simp] theorem zk7 (rs:List ARes):yH rs KA .ret ⟨env,heap,next⟩=ZQ KA heap next (qO rs ⟨env,heap,next⟩):=rfl
@[simp] theorem zhZ (rs:List ARes):yH rs KA .normal ⟨env,heap,next⟩=ZQ KA heap next (qO rs ⟨env,heap,next⟩):=rfl
@[simp] theorem zk8 (r:AV):ZQ KA heap next (some r)=KA r heap next:=rfl
@[simp] theorem zk9:ZQ KA heap next none=False:=rfl
@[simp] theorem zla (r:ARes):qO [r] st=xX st r:=rfl
@[simp] theorem zlb:qO [] st=some (.tuple []):=rfl
@[simp] theorem zlc (r s:ARes) (l:List ARes):qO (r::s::l) st=match mapO (xX st) (r::s::l) with
    | some xs=>some (.tuple xs)
    | none=>none:=rfl
@[simp] theorem zj1 (t:Nat):xX ⟨env,heap,next⟩ (.tmp t)=za env t:=rfl
@[simp] theorem zjR (t n:Nat) (ag:Bool):xX ⟨env,heap,next⟩ (.cell t ag n)=match evalOp (.load ag n (.t t)) (zd env) (za heap) 0 with
    | some (r,_)=>some r
    | none=>none:=rfl
@[simp] theorem ze5 (x:Opd):evOp C dst K ⟨env,heap,next⟩ (.mov x)=zS dst K ⟨env,heap,next⟩ (evalOp (.mov x) (zd env) (za heap) next):=rfl
@[simp] theorem zld (c a b:Opd):evOp C dst K ⟨env,heap,next⟩ (.pick c a b)=zS dst K ⟨env,heap,next⟩ (evalOp (.pick c a b) (zd env) (za heap) next):=rfl
@[simp] theorem zj2 (sz:Nat) (rows:List (List AV)):evOp C dst K ⟨env,heap,next⟩ (.alloc sz rows)=zS dst K ⟨env,heap,next⟩ (evalOp (.alloc sz rows) (zd env) (za heap) next):=rfl
@[simp] theorem zlI (sz:Nat) (x:Opd):evOp C dst K ⟨env,heap,next⟩ (.box sz x)=zS dst K ⟨env,heap,next⟩ (evalOp (.box sz x) (zd env) (za heap) next):=rfl
@[simp] theorem zj3 (zero:List AV) (parts:List (Nat×Nat×Opd)):evOp C dst K ⟨env,heap,next⟩ (.build zero parts)=zS dst K ⟨env,heap,next⟩ (evalOp (.build zero parts) (zd env) (za heap) next):=rfl
@[simp] theorem zjS (sz:Nat) (zero:List AV) (len:Nat) (parts:List (Nat×Opd)):evOp C dst K ⟨env,heap,next⟩ (.bslice sz zero len parts)=zS dst K ⟨env,heap,next⟩ (evalOp (.bslice sz zero len parts) (zd env) (za heap) next):=rfl
@[simp] theorem zle (agg:Bool) (n:Nat) (x:Opd):evOp C dst K ⟨env,heap,next⟩ (.load agg n x)=zS dst K ⟨env,heap,next⟩ (evalOp (.load agg n x) (zd env) (za heap) next):=rfl
@[simp] theorem zj4 (n:Nat) (x v:Opd):evOp C dst K ⟨env,heap,next⟩ (.store n x v)=zS dst K ⟨env,heap,next⟩ (evalOp (.store n x v) (zd env) (za heap) next):=rfl
@[simp] theorem zlJ (off:Nat) (x:Opd):evOp C dst K ⟨env,heap,next⟩ (.fld off x)=zS dst K ⟨env,heap,next⟩ (evalOp (.fld off x) (zd env) (za heap) next):=rfl
@[simp] theorem zlK (sz:Nat) (x i:Opd):evOp C dst K ⟨env,heap,next⟩ (.idx sz x i)=zS dst K ⟨env,heap,next⟩ (evalOp (.idx sz x i) (zd env) (za heap) next):=rfl
@[simp] theorem zlf (len sz:Nat) (x i:Opd):evOp C dst K ⟨env,heap,next⟩ (.idxa len sz x i)=zS dst K ⟨env,heap,next⟩ (evalOp (.idxa len sz x i) (zd env) (za heap) next):=rfl
@[simp] theorem zlL (op:BinOp) (x y:Opd):evOp C dst K ⟨env,heap,next⟩ (.bin op x y)=zS dst K ⟨env,heap,next⟩ (evalOp (.bin op x y) (zd env) (za heap) next):=rfl
@[simp] theorem zlM (neg:Bool) (x y:Opd):evOp C dst K ⟨env,heap,next⟩ (.eqb neg x y)=zS dst K ⟨env,heap,next⟩ (evalOp (.eqb neg x y) (zd env) (za heap) next):=rfl
@[simp] theorem zlN (neg:Bool) (ks:List Nat) (x y:Opd):evOp C dst K ⟨env,heap,next⟩ (.eqs neg ks x y)=zS dst K ⟨env,heap,next⟩ (evalOp (.eqs neg ks x y) (zd env) (za heap) next):=rfl
@[simp] theorem zj5 (neg:Bool) (x y:Opd):evOp C dst K ⟨env,heap,next⟩ (.eqnil neg x y)=zS dst K ⟨env,heap,next⟩ (evalOp (.eqnil neg x y) (zd env) (za heap) next):=rfl
@[simp] theorem zlO (x:Opd):evOp C dst K ⟨env,heap,next⟩ (.not x)=zS dst K ⟨env,heap,next⟩ (evalOp (.not x) (zd env) (za heap) next):=rfl
@[simp] theorem zlP (x:Opd):evOp C dst K ⟨env,heap,next⟩ (.neg x)=zS dst K ⟨env,heap,next⟩ (evalOp (.neg x) (zd env) (za heap) next):=rfl
@[simp] theorem zlg (k:IntKind) (x:Opd):evOp C dst K ⟨env,heap,next⟩ (.conv k x)=zS dst K ⟨env,heap,next⟩ (evalOp (.conv k x) (zd env) (za heap) next):=rfl
@[simp] theorem zlQ (x:Opd):evOp C dst K ⟨env,heap,next⟩ (.len x)=zS dst K ⟨env,heap,next⟩ (evalOp (.len x) (zd env) (za heap) next):=rfl
@[simp] theorem zlh (x:Opd):evOp C dst K ⟨env,heap,next⟩ (.lens x)=zS dst K ⟨env,heap,next⟩ (evalOp (.lens x) (zd env) (za heap) next):=rfl
@[simp] theorem zli (x:Opd):evOp C dst K ⟨env,heap,next⟩ (.lenm x)=zS dst K ⟨env,heap,next⟩ (evalOp (.lenm x) (zd env) (za heap) next):=rfl
@[simp] theorem zmn (max:Bool) (x y:Opd):evOp C dst K ⟨env,heap,next⟩ (.mm max x y)=zS dst K ⟨env,heap,next⟩ (evalOp (.mm max x y) (zd env) (za heap) next):=rfl
@[simp] theorem zlR (sz by_:Nat) (s x:Opd):evOp C dst K ⟨env,heap,next⟩ (.app sz by_ s x)=zS dst K ⟨env,heap,next⟩ (evalOp (.app sz by_ s x) (zd env) (za heap) next):=rfl
@[simp] theorem zlS (x:Opd) (i:Nat):evOp C dst K ⟨env,heap,next⟩ (.ext x i)=zS dst K ⟨env,heap,next⟩ (evalOp (.ext x i) (zd env) (za heap) next):=rfl
@[simp] theorem zlT (f:Nat) (first caps:List Opd):evOp C dst K ⟨env,heap,next⟩ (.mkf f first caps)=zS dst K ⟨env,heap,next⟩ (evalOp (.mkf f first caps) (zd env) (za heap) next):=rfl
@[simp] theorem zj6  : evOp C dst K ⟨env,heap,next⟩ (.mkmap)=zS dst K ⟨env,heap,next⟩ (evalOp (.mkmap) (zd env) (za heap) next):=rfl
@[simp] theorem zlj (str:Bool) (zero:AV) (ok:Bool) (m k:Opd):evOp C dst K ⟨env,heap,next⟩ (.look str zero ok m k)=zS dst K ⟨env,heap,next⟩ (evalOp (.look str zero ok m k) (zd env) (za heap) next):=rfl
@[simp] theorem zlU (str:Bool) (m k v:Opd):evOp C dst K ⟨env,heap,next⟩ (.upd str m k v)=zS dst K ⟨env,heap,next⟩ (evalOp (.upd str m k v) (zd env) (za heap) next):=rfl
@[simp] theorem zlV (sz by_:Nat) (zero:List AV) (n:Opd):evOp C dst K ⟨env,heap,next⟩ (.mks sz by_ zero n)=zS dst K ⟨env,heap,next⟩ (evalOp (.mks sz by_ zero n) (zd env) (za heap) next):=rfl
@[simp] theorem zlW (sz:Nat) (x:Opd) (lo hi:Option Opd):evOp C dst K ⟨env,heap,next⟩ (.slc sz x lo hi)=zS dst K ⟨env,heap,next⟩ (evalOp (.slc sz x lo hi) (zd env) (za heap) next):=rfl
@[simp] theorem zlk (neg:Bool) (x y:Opd):evOp C dst K ⟨env,heap,next⟩ (.eqnm neg x y)=zS dst K ⟨env,heap,next⟩ (evalOp (.eqnm neg x y) (zd env) (za heap) next):=rfl
@[simp] theorem zlX (ag:Bool) (off n:Nat) (x:Opd):evOp C dst K ⟨env,heap,next⟩ (.cut ag off n x)=zS dst K ⟨env,heap,next⟩ (evalOp (.cut ag off n x) (zd env) (za heap) next):=rfl
@[simp] theorem zlY (x:Opd):evOp C dst K ⟨env,heap,next⟩ (.nck x)=zS dst K ⟨env,heap,next⟩ (evalOp (.nck x) (zd env) (za heap) next):=rfl
@[simp] theorem zll (sz:Nat) (d x:Opd):evOp C dst K ⟨env,heap,next⟩ (.copy sz d x)=zS dst K ⟨env,heap,next⟩ (evalOp (.copy sz d x) (zd env) (za heap) next):=rfl
@[simp] theorem zlZ (len sz:Nat) (x i:Opd):evOp C dst K ⟨env,heap,next⟩ (.ixa len sz x i)=zS dst K ⟨env,heap,next⟩ (evalOp (.ixa len sz x i) (zd env) (za heap) next):=rfl
end
section
variable {C:CtxY} {nt:Fr} {env:List (Nat×AV)} {heap:List (Nat×Zaf)} {next:Nat} {dst:Option Nat} {K:St→Prop} {KD:List Nat→AV→List (Nat×Zaf)→Prop} {st:St}
@[simp] theorem zmo (ord:List Nat) (j:Nat) (W R:List (Nat×Nat)):evd C ord K [] j W R st=K st:=rfl
@[simp] theorem ze6 (ord:List Nat) (it:AItem) (r:List AItem) (j:Nat) (W R:List (Nat×Nat)):evd C ord K (it::r) j W R st=dIt C it (dNext ord j W R it.dst st (evd C ord K r)) st:=rfl
@[simp] theorem zmp:evr C K [] st=K st:=rfl
@[simp] theorem zl0 (it:AItem) (r:List AItem):evr C K (it::r) st=dIt C it (YR it.dst st (evr C K r)) st:=rfl
@[simp] theorem ze7 (op:AOp):dIt C ⟨dst,op,none⟩ KD st=dOp C KD st op:=rfl
@[simp] theorem zl1 (op:AOp) (t:Nat) (want:Bool):dIt C ⟨dst,op,some (t,want)⟩ KD st=dGV C op KD st want ((za st.env t).getD .top):=rfl
@[simp] theorem zlm (op:AOp) (want:Bool):dGV C op KD st want .undef=KD [] .undef []:=rfl
@[simp] theorem zl2 (op:AOp) (b:Bool):dGV C op KD st true (.imm (.bool b))=dG C op KD st b:=by simp [dGV]
@[simp] theorem zln (op:AOp) (b:Bool):dGV C op KD st false (.imm (.bool b))=dG C op KD st (!b):=by cases b<;>rfl
@[simp] theorem zmq (op:AOp):dG C op KD st true=dOp C KD st op:=rfl
@[simp] theorem zl3 (op:AOp):dG C op KD st false=KD [] .undef []:=rfl
@[simp] theorem zlo (rd:List Nat) (r:AV) (ups:List (Nat×Zaf)):qk KD rd (some (r,ups))=KD rd r ups:=rfl
@[simp] theorem zlp (rd:List Nat):qk KD rd none=False:=rfl
@[simp] theorem zl4 (ord:List Nat) (j:Nat) (W R:List (Nat×Nat)) (nx:Nat→List (Nat×Nat)→List (Nat×Nat)→St→Prop) (rd:List Nat) (r:AV) (ups:List (Nat×Zaf)) :
    dNext ord j W R dst st nx rd r ups=(wm ord j W R (z1 ups) rd=true∧nx (j+1) (qT j (z1 ups) W) (qT j rd R) (st.after dst r ups)):=rfl
@[simp] theorem zlq (nx:St→Prop) (rd:List Nat) (r:AV):YR dst st nx rd r []=nx (st.after dst r []):=by simp [YR]
@[simp] theorem zl5 (f:Opd) (args:List Opd):dOp C KD ⟨env,heap,next⟩ (.call f args)=YS C KD heap (args.map (zd env)) (zd env f):=rfl
@[simp] theorem zj7 (args:List AV) (f:Nat) (first caps:List AV):YS C KD heap args (.func f first caps)=DCall C f (first++args++caps) heap KD:=rfl
@[simp] theorem zmr (x:Opd):dOp C KD ⟨env,heap,next⟩ (.mov x)=qk KD (zg (.mov x) (zd env)) (evalOp (.mov x) (zd env) (za heap) next):=rfl
@[simp] theorem zl6 (c a b:Opd):dOp C KD ⟨env,heap,next⟩ (.pick c a b)=qk KD (zg (.pick c a b) (zd env)) (evalOp (.pick c a b) (zd env) (za heap) next):=rfl
@[simp] theorem zlr (sz:Nat) (rows:List (List AV)):dOp C KD ⟨env,heap,next⟩ (.alloc sz rows)=qk KD (zg (.alloc sz rows) (zd env)) (evalOp (.alloc sz rows) (zd env) (za heap) next):=rfl
@[simp] theorem zms (sz:Nat) (x:Opd):dOp C KD ⟨env,heap,next⟩ (.box sz x)=qk KD (zg (.box sz x) (zd env)) (evalOp (.box sz x) (zd env) (za heap) next):=rfl
@[simp] theorem zls (zero:List AV) (parts:List (Nat×Nat×Opd)):dOp C KD ⟨env,heap,next⟩ (.build zero parts)=qk KD (zg (.build zero parts) (zd env)) (evalOp (.build zero parts) (zd env) (za heap) next):=rfl
@[simp] theorem zj8 (sz:Nat) (zero:List AV) (len:Nat) (parts:List (Nat×Opd)):dOp C KD ⟨env,heap,next⟩ (.bslice sz zero len parts)=qk KD (zg (.bslice sz zero len parts) (zd env)) (evalOp (.bslice sz zero len parts) (zd env) (za heap) next):=rfl
@[simp] theorem zl7 (agg:Bool) (n:Nat) (x:Opd):dOp C KD ⟨env,heap,next⟩ (.load agg n x)=qk KD (zg (.load agg n x) (zd env)) (evalOp (.load agg n x) (zd env) (za heap) next):=rfl
@[simp] theorem zlu (n:Nat) (x v:Opd):dOp C KD ⟨env,heap,next⟩ (.store n x v)=qk KD (zg (.store n x v) (zd env)) (evalOp (.store n x v) (zd env) (za heap) next):=rfl
@[simp] theorem zmt (off:Nat) (x:Opd):dOp C KD ⟨env,heap,next⟩ (.fld off x)=qk KD (zg (.fld off x) (zd env)) (evalOp (.fld off x) (zd env) (za heap) next):=rfl
@[simp] theorem zmu (sz:Nat) (x i:Opd):dOp C KD ⟨env,heap,next⟩ (.idx sz x i)=qk KD (zg (.idx sz x i) (zd env)) (evalOp (.idx sz x i) (zd env) (za heap) next):=rfl
@[simp] theorem zl8 (len sz:Nat) (x i:Opd):dOp C KD ⟨env,heap,next⟩ (.idxa len sz x i)=qk KD (zg (.idxa len sz x i) (zd env)) (evalOp (.idxa len sz x i) (zd env) (za heap) next):=rfl
@[simp] theorem zmv (op:BinOp) (x y:Opd):dOp C KD ⟨env,heap,next⟩ (.bin op x y)=qk KD (zg (.bin op x y) (zd env)) (evalOp (.bin op x y) (zd env) (za heap) next):=rfl
@[simp] theorem zmw (neg:Bool) (x y:Opd):dOp C KD ⟨env,heap,next⟩ (.eqb neg x y)=qk KD (zg (.eqb neg x y) (zd env)) (evalOp (.eqb neg x y) (zd env) (za heap) next):=rfl
@[simp] theorem zmx (neg:Bool) (ks:List Nat) (x y:Opd):dOp C KD ⟨env,heap,next⟩ (.eqs neg ks x y)=qk KD (zg (.eqs neg ks x y) (zd env)) (evalOp (.eqs neg ks x y) (zd env) (za heap) next):=rfl
@[simp] theorem zlv (neg:Bool) (x y:Opd):dOp C KD ⟨env,heap,next⟩ (.eqnil neg x y)=qk KD (zg (.eqnil neg x y) (zd env)) (evalOp (.eqnil neg x y) (zd env) (za heap) next):=rfl
@[simp] theorem zmy (x:Opd):dOp C KD ⟨env,heap,next⟩ (.not x)=qk KD (zg (.not x) (zd env)) (evalOp (.not x) (zd env) (za heap) next):=rfl
@[simp] theorem zmz (x:Opd):dOp C KD ⟨env,heap,next⟩ (.neg x)=qk KD (zg (.neg x) (zd env)) (evalOp (.neg x) (zd env) (za heap) next):=rfl
@[simp] theorem zl9 (k:IntKind) (x:Opd):dOp C KD ⟨env,heap,next⟩ (.conv k x)=qk KD (zg (.conv k x) (zd env)) (evalOp (.conv k x) (zd env) (za heap) next):=rfl
@[simp] theorem zmA (x:Opd):dOp C KD ⟨env,heap,next⟩ (.len x)=qk KD (zg (.len x) (zd env)) (evalOp (.len x) (zd env) (za heap) next):=rfl
@[simp] theorem zma (x:Opd):dOp C KD ⟨env,heap,next⟩ (.lens x)=qk KD (zg (.lens x) (zd env)) (evalOp (.lens x) (zd env) (za heap) next):=rfl
@[simp] theorem zmb (x:Opd):dOp C KD ⟨env,heap,next⟩ (.lenm x)=qk KD (zg (.lenm x) (zd env)) (evalOp (.lenm x) (zd env) (za heap) next):=rfl
@[simp] theorem zmK (max:Bool) (x y:Opd):dOp C KD ⟨env,heap,next⟩ (.mm max x y)=qk KD (zg (.mm max x y) (zd env)) (evalOp (.mm max x y) (zd env) (za heap) next):=rfl
@[simp] theorem zmB (sz by_:Nat) (s x:Opd):dOp C KD ⟨env,heap,next⟩ (.app sz by_ s x)=qk KD (zg (.app sz by_ s x) (zd env)) (evalOp (.app sz by_ s x) (zd env) (za heap) next):=rfl
@[simp] theorem zmC (x:Opd) (i:Nat):dOp C KD ⟨env,heap,next⟩ (.ext x i)=qk KD (zg (.ext x i) (zd env)) (evalOp (.ext x i) (zd env) (za heap) next):=rfl
@[simp] theorem zmD (f:Nat) (first caps:List Opd):dOp C KD ⟨env,heap,next⟩ (.mkf f first caps)=qk KD (zg (.mkf f first caps) (zd env)) (evalOp (.mkf f first caps) (zd env) (za heap) next):=rfl
@[simp] theorem zlw  : dOp C KD ⟨env,heap,next⟩ (.mkmap)=qk KD (zg (.mkmap) (zd env)) (evalOp (.mkmap) (zd env) (za heap) next):=rfl
@[simp] theorem zmc (str:Bool) (zero:AV) (ok:Bool) (m k:Opd):dOp C KD ⟨env,heap,next⟩ (.look str zero ok m k)=qk KD (zg (.look str zero ok m k) (zd env)) (evalOp (.look str zero ok m k) (zd env) (za heap) next):=rfl
@[simp] theorem zmE (str:Bool) (m k v:Opd):dOp C KD ⟨env,heap,next⟩ (.upd str m k v)=qk KD (zg (.upd str m k v) (zd env)) (evalOp (.upd str m k v) (zd env) (za heap) next):=rfl
@[simp] theorem zmF (sz by_:Nat) (zero:List AV) (n:Opd):dOp C KD ⟨env,heap,next⟩ (.mks sz by_ zero n)=qk KD (zg (.mks sz by_ zero n) (zd env)) (evalOp (.mks sz by_ zero n) (zd env) (za heap) next):=rfl
@[simp] theorem zmG (sz:Nat) (x:Opd) (lo hi:Option Opd):dOp C KD ⟨env,heap,next⟩ (.slc sz x lo hi)=qk KD (zg (.slc sz x lo hi) (zd env)) (evalOp (.slc sz x lo hi) (zd env) (za heap) next):=rfl
@[simp] theorem zmd (neg:Bool) (x y:Opd):dOp C KD ⟨env,heap,next⟩ (.eqnm neg x y)=qk KD (zg (.eqnm neg x y) (zd env)) (evalOp (.eqnm neg x y) (zd env) (za heap) next):=rfl
@[simp] theorem zmH (ag:Bool) (off n:Nat) (x:Opd):dOp C KD ⟨env,heap,next⟩ (.cut ag off n x)=qk KD (zg (.cut ag off n x) (zd env)) (evalOp (.cut ag off n x) (zd env) (za heap) next):=rfl
@[simp] theorem zmI (x:Opd):dOp C KD ⟨env,heap,next⟩ (.nck x)=qk KD (zg (.nck x) (zd env)) (evalOp (.nck x) (zd env) (za heap) next):=rfl
@[simp] theorem zme (sz:Nat) (d x:Opd):dOp C KD ⟨env,heap,next⟩ (.copy sz d x)=qk KD (zg (.copy sz d x) (zd env)) (evalOp (.copy sz d x) (zd env) (za heap) next):=rfl
@[simp] theorem zmJ (len sz:Nat) (x i:Opd):dOp C KD ⟨env,heap,next⟩ (.ixa len sz x i)=qk KD (zg (.ixa len sz x i) (zd env)) (evalOp (.ixa len sz x i) (zd env) (za heap) next):=rfl
end
end
section
section
variable {C:CtxY} {nt:Fr} {x:ZaG} {K:Exit→St→Prop} {st:St}
end
@[simp] theorem zgw {α:Type} {p:α→Prop}:(∀ x∈([]:List α),p x)=True:=by simp
theorem zY {x:Int} (h1 : -9223372036854775808≤x) (h2:x < 9223372036854775808):IntKind.i64.wrap x=x:=by
  simp [IntKind.wrap,IntKind.bits,IntKind.signed,Int.bmod_def]
  omega
theorem ze8 {x:Int} (h1:0≤x) (h2:x < 18446744073709551616):IntKind.u64.wrap x=x:=by
  simp [IntKind.wrap,IntKind.bits,IntKind.signed]
  omega
end
section
def X9 {α:Type}:List (Nat×α)→List (Nat×α)→List (Nat×α)
  | [],l=>l
  | (k,v)::r,l=>X9 r (zj l k v)
@[simp] theorem zj9 {α:Type} (l:List (Nat×α)):X9 [] l=l:=rfl
@[simp] theorem zjT {α:Type} (k:Nat) (v:α) (r l:List (Nat×α)):X9 ((k,v)::r) l=X9 r (zj l k v):=rfl
section
variable {C:CtxY} {nt:Fr} {x:ZaG} {K:Exit→St→Prop}
end
end
section
theorem jQ {α β:Type} {x:Option α} {f:α→Option β} {r:β} (h:x.bind f=some r):∃ a,x=some a∧f a=some r:=Option.bind_eq_some_iff.1 h
def ze {α:Type} (l:List α) (n:Int):Option α:=if 0≤n then l[n.toNat]? else none
theorem zdF {α:Type} {l:List α} {n:Int} {e:α} (h:ze l n=some e):0≤n∧l[n.toNat]?=some e∧n.toNat < l.length∧n < l.length∧∃ h:n.toNat < l.length,l[n.toNat]=e:=by
  unfold ze at h;split at h
  · obtain ⟨h1,h2⟩:=List.getElem?_eq_some_iff.1 h
    exact ⟨‹_›,h,h1,by omega,h1,h2⟩
  · cases h
theorem JA {C:CtxY} {nt:Fr} {o:List Nat} {items:List AItem} {ks:Option (List Nat)} {K:Exit→St→Prop} {st:St} (h:evl C items (ZP ks K) st):awp C nt (.region false o items ks) K st:=
  XX (yO C items _ st h)
theorem zg2 {C:CtxY} {nt:Fr} {o:List Nat} {items:List AItem} {ks:Option (List Nat)} {K:Exit→St→Prop} {st:St} (h:wpD C (X3 items) o items (ZP ks K) st):awp C nt (.region true o items ks) K st:=
  ww h
theorem zh0 {C:CtxY} {nt:Fr} {c:Opd} {x y:ZaG} {K:Exit→St→Prop} {st:St} (b:Bool) (hc:zd st.env c=.imm (.bool b)) (h1:b=true→awp C nt x K st) (h2:b=false→awp C nt y K st):awp C nt (.cond c x y) K st:=
  wl b hc h1 h2
theorem zh1 {id:Nat} {K:Exit→St→Prop} {st:St} (h:K .normal st):xo id K (.exit id) st:=by
  simp only [Kx,if_true];exact h
def forFrom {σ ρ:Type} (f:Nat→σ→Option (σ ⊕ ρ)):Nat→Nat→σ→Option (σ ⊕ ρ)
  | _,0,s=>some (.inl s)
  | i,k+1,s=>match f i s with
    | none=>none
    | some (.inr r)=>some (.inr r)
    | some (.inl s')=>forFrom f (i+1) k s'
def forR {σ ρ:Type} (n:Int) (f:Nat→σ→Option (σ ⊕ ρ)) (s:σ):Option (σ ⊕ ρ):=bif Nat.blt n.toNat 4611686018427387904 then forFrom f 0 n.toNat s else none
theorem ZR {σ ρ:Type} {n:Int} {f:Nat→σ→Option (σ ⊕ ρ)} {s:σ} (hn:n < 4611686018427387904):forR n f s=forFrom f 0 n.toNat s:=by
  have:Nat.blt n.toNat 4611686018427387904=true:=by simp only [Nat.blt_eq];omega
  unfold forR;rw [this];rfl
theorem V5 {σ ρ:Type} {n:Int} {f:Nat→σ→Option (σ ⊕ ρ)} {s:σ} {o:σ ⊕ ρ} (h:forR n f s=some o):n < 4611686018427387904∧forFrom f 0 n.toNat s=some o:=by
  unfold forR at h
  cases hb:Nat.blt n.toNat 4611686018427387904 with
  | true=>rw [hb] at h;simp only [Nat.blt_eq] at hb;exact ⟨by omega,h⟩
  | false=>rw [hb] at h;cases h
def YU {σ ρ:Type} (W:σ→St) (K:Exit→St→Prop) (out:σ ⊕ ρ) (o:σ ⊕ ρ):Exit→St→Prop
  | .normal,st=>∃ s',o=.inl s'∧Weak st (W s')
  | e,st=>∃ y,o=.inr y∧(out=.inr y→K e st)
theorem ze9 {C:CtxY} {nt:Fr} {x:ZaG} {K:Exit→St→Prop} {st:St} {σ ρ:Type} {n:Int} {f:Nat→σ→Option (σ ⊕ ρ)} {s0:σ} {out:σ ⊕ ρ} (hl:forR n f s0=some out)
    (E:Nat→σ→List (Nat×AV)) (H:Nat→σ→List (Nat×Zaf)) (h0:Weak st ⟨E 0 s0,H 0 s0,st.next⟩)
    (body:∀ (i:Nat) (s:σ) (o:σ ⊕ ρ),(i:Int) < n→IntKind.i64.wrap ((i:Int)+1)=(i:Int)+1→f i s=some o→awp C nt x (YU (fun s=>⟨E (i+1) s,H (i+1) s,st.next⟩) K out o) ⟨E i s,H i s,st.next⟩)
    (last:∀ (m:Nat) (s:σ),¬ (m:Int) < n→out=.inl s→awp C nt x (yD (fun _=>False) K) ⟨E m s,H m s,st.next⟩):awp C nt (.loop x) K st:=by
  obtain ⟨hn,hl⟩:=V5 hl
  refine Xm (ι:={p:Nat×σ // p.1≤n.toNat∧forFrom f p.1 (n.toNat - p.1) p.2=some out}) (fun p=>⟨E p.1.1 p.1.2,H p.1.1 p.1.2,st.next⟩) (fun p=>n.toNat - p.1.1) ⟨(0,s0),Nat.zero_le _,hl⟩ (fun _=>Nat.le_refl _) h0 (Nat.le_refl _) ?_
  rintro ⟨⟨i,s⟩,hi,hf⟩
  simp only at hi hf
  rcases Nat.lt_or_ge i n.toNat with h | h
  · obtain ⟨k,hk⟩:∃ k,n.toNat - i=k+1:=⟨n.toNat - i - 1,by omega⟩
    rw [hk] at hf
    simp only [forFrom] at hf
    split at hf
    · cases hf
    · rename_i r hr
      cases hf
      refine qS ?_ (body i s _ (by omega) (zY (by omega) (by omega)) hr)
      intro e st' hK
      cases e with
      | normal=>obtain ⟨s',h1,_⟩:=hK;cases h1
      | _=>obtain ⟨y,h1,h2⟩:=hK;cases h1;exact h2 rfl
    · rename_i s' hr
      refine qS ?_ (body i s _ (by omega) (zY (by omega) (by omega)) hr)
      intro e st' hK
      cases e with
      | normal=>
        obtain ⟨s'',h1,h2⟩:=hK
        cases h1
        exact ⟨⟨(i+1,s'),h,by simp only;rw [show n.toNat - (i+1)=k by omega];exact hf⟩,by simp only;omega,h2⟩
      | _=>obtain ⟨y,h1,h2⟩:=hK;cases h1
  · obtain rfl:i=n.toNat:=by omega
    simp only [Nat.sub_self,forFrom,Option.some.injEq] at hf
    refine qS ?_ (last n.toNat s (by omega) hf.symm)
    intro e st' hK
    cases e with
    | normal=>exact hK.elim
    | _=>exact hK
def iterN {σ ρ:Type} (f:σ→Option (σ ⊕ ρ)):Nat→σ→Option ρ
  | 0,_=>none
  | k+1,s=>match f s with
    | none=>none
    | some (.inr r)=>some r
    | some (.inl s')=>iterN f k s'
theorem ZS {σ ρ:Type} {f:σ→Option (σ ⊕ ρ)}:∀ {k:Nat} {s:σ} {r:ρ},iterN f k s=some r→∀ {k':Nat},k≤k'→iterN f k' s=some r
  | 0,_,_,h,_,_=>by cases h
  | k+1,s,r,h,k',hk=>by
    obtain ⟨m,rfl⟩:∃ m,k'=m+1:=⟨k' - 1,by omega⟩
    simp only [iterN] at h ⊢
    split at h
    · cases h
    · exact h
    · exact ZS h (by omega)
open Classical in
noncomputable def iter {σ ρ:Type} (f:σ→Option (σ ⊕ ρ)) (s:σ):Option ρ:=if h:∃ r,∃ k,iterN f k s=some r then some h.choose else none
theorem wx {σ ρ:Type} {f:σ→Option (σ ⊕ ρ)} {s:σ} {r:ρ}:iter f s=some r↔∃ k,iterN f k s=some r:=by
  unfold iter
  split
  · rename_i h
    obtain ⟨k,hk⟩:=h.choose_spec
    simp only [Option.some.injEq]
    constructor
    · intro e;exact ⟨k,by rw [←e];exact hk⟩
    · rintro ⟨k',hk'⟩
      have h1:=ZS hk (Nat.le_max_left k k')
      have h2:=ZS hk' (Nat.le_max_right k k')
      rw [h1] at h2;exact Option.some.inj h2
  · rename_i h
    constructor
    · intro e;cases e
    · rintro ⟨k,hk⟩;exact absurd ⟨r,k,hk⟩ h
theorem zg3 {σ ρ:Type} (f:σ→Option (σ ⊕ ρ)) (s:σ):iter f s=match f s with
    | none=>none
    | some (.inr r)=>some r
    | some (.inl s')=>iter f s':=by
  apply Option.ext
  intro r
  rw [wx]
  constructor
  · rintro ⟨k,hk⟩
    cases k with
    | zero=>cases hk
    | succ k=>
      simp only [iterN] at hk
      split at hk
      · cases hk
      · exact hk
      · exact wx.2 ⟨k,hk⟩
  · intro h
    split at h
    · cases h
    · rename_i e;exact ⟨1,by simp only [iterN,e];exact h⟩
    · rename_i e
      obtain ⟨k,hk⟩:=wx.1 h
      exact ⟨k+1,by simp only [iterN,e];exact hk⟩
theorem zfa {C:CtxY} {nt:Fr} {x:ZaG} {K:Exit→St→Prop} {st:St} {σ ρ:Type} {f:σ→Option (σ ⊕ ρ)} {s0:σ} {out:ρ} (hl:iter f s0=some out)
    (E:σ→List (Nat×AV)) (H:σ→List (Nat×Zaf)) (h0:Weak st ⟨E s0,H s0,st.next⟩)
    (body:∀ (s:σ) (o:σ ⊕ ρ),f s=some o→awp C nt x (YU (fun s=>⟨E s,H s,st.next⟩) K (.inr out) o) ⟨E s,H s,st.next⟩):awp C nt (.loop x) K st:=by
  obtain ⟨k,hk⟩:=wx.1 hl
  refine Xm (ι:={p:Nat×σ // iterN f p.1 p.2=some out}) (fun p=>⟨E p.1.2,H p.1.2,st.next⟩) (fun p=>p.1.1) ⟨(k,s0),hk⟩ (fun _=>Nat.le_refl _) h0 (Nat.le_refl _) ?_
  rintro ⟨⟨i,s⟩,hf⟩
  simp only at hf
  cases i with
  | zero=>cases hf
  | succ i=>
    simp only [iterN] at hf
    split at hf
    · cases hf
    · rename_i r hr
      cases hf
      refine qS ?_ (body s _ hr)
      intro e st' hK
      cases e with
      | normal=>obtain ⟨s',h1,_⟩:=hK;cases h1
      | _=>obtain ⟨y,h1,h2⟩:=hK;cases h1;exact h2 rfl
    · rename_i s' hr
      refine qS ?_ (body s _ hr)
      intro e st' hK
      cases e with
      | normal=>obtain ⟨s'',h1,h2⟩:=hK;cases h1;exact ⟨⟨(i,s'),hf⟩,by simp only;omega,h2⟩
      | _=>obtain ⟨y,h1,h2⟩:=hK;cases h1
theorem APure.start {C:Ctx} {f:Nat} {F:AFun} (hF:qt C f=some F.erase) {args:List IV} {r:IV} (d:Nat) (hn:args.length≤F.nt)
    (h:∀ B,awp C.plain ⟨F.nt,B⟩ F.body (yH F.results (QQ d r)) {env:=qY 0 (args.map .imm),heap:=[],next:=0}):APure C f args r:=APure.of (d:=d) (ACall.enter hF (by simpa using hn) (fun B=>qS (fun e st hk=>by
      have key:∀ {o:Option AV},ZQ (QQ d r) st.heap st.next o→∃ x,o=some x∧QQ d r x st.heap st.next:=fun {o} ho=>by
        cases o with
        | none=>exact ho.elim
        | some x=>exact ⟨x,rfl,ho⟩
      cases e with
      | ret=>exact ⟨.inl rfl,key hk⟩
      | normal=>exact ⟨.inr rfl,key hk⟩
      | _=>exact hk.elim) (h B)))
end
section
def zc (n:Int):List IV:=[.int .i64 n]
def Vf (k:IntKind) (n:Int):List IV:=[.int k n]
def zh (b:Bool):List IV:=[.bool b]
def zmf (s:ByteArray):List IV:=[.str s]
def qE {α:Type} (f:α→List IV) (l:List α):List IV:=[.slice (l.map f)]
def zz (r:List IV):List AV:=r.map .imm
abbrev vI (n:Int):AV:=.imm (.int .i64 n)
abbrev vB (b:Bool):AV:=.imm (.bool b)
theorem zh2 {α:Type} {b:Bool} {x y r:α} (g:b=true) (h:(bif b then x else y)=r):x=r:=by subst g;exact h
theorem zh3 {α:Type} {b:Bool} {x y r:α} (g:b=false) (h:(bif b then x else y)=r):y=r:=by subst g;exact h
theorem yi {n:St→Prop} {K:Exit→St→Prop} {st:St} (h:n st):yD n K .normal st:=h
theorem zka {id:Nat} {K:Exit→St→Prop} {st:St} (h:K .normal st):xo id K .normal st:=h
def Xq {α:Type} (l:List α) (a b:Int):Option (List α):=if 0≤a∧a≤b∧b≤(l.length:Int) then some ((l.take b.toNat).drop a.toNat) else none
theorem zdG {α:Type} {l:List α} {a b:Int} {e:List α} (h:Xq l a b=some e):0≤a∧a≤b∧b≤(l.length:Int)∧(l.take b.toNat).drop a.toNat=e:=by
  unfold Xq at h;split at h
  · rename_i hh;exact ⟨hh.1,hh.2.1,hh.2.2,Option.some.inj h⟩
  · cases h
def ZT (k:IntKind) (a b:Int):Option Int:=if b=0 then none else some (a.tmod b)
theorem zdH {k:IntKind} {a b e:Int} (h:ZT k a b=some e):¬ b=0∧a.tmod b=e:=by
  unfold ZT at h;split at h
  · cases h
  · exact ⟨‹_›,Option.some.inj h⟩
attribute [simp] bne evalOp cellsOf vM wq X3 zx jO qQ wt jK kB jk qm Zi xB jF wm qT z1 zg xF zW qK bef Nat.testBit q6 zL xa zF zM
attribute [simp] zc Vf zh zmf qE zz
end
section
def q7 (φ:Nat→Nat):AV→AV
  | .Zas i rows=>.Zas (φ i) rows
  | .ptr i r o=>.ptr (φ i) r o
  | .Zal i o l=>.Zal (φ i) o l
  | .map i=>.map (φ i)
  | .yld l i=>.yld l (φ i)
  | x=>x
def Zb (φ:Nat→Nat):AV→AV
  | .func f a c=>.func f (a.map (q7 φ)) (c.map (q7 φ))
  | .agg cs=>.agg (cs.map (q7 φ))
  | .tuple cs=>.tuple (cs.map (q7 φ))
  | x=>q7 φ x
def wR (φ:Nat→Nat):AV→AV
  | .tuple cs=>.tuple (cs.map (Zb φ))
  | x=>Zb φ x
def vT (φ:Nat→Nat) (row:List AV):List AV:=row.map (wR φ)
def zgx (φ:Nat→Nat) (e:IV×AV):IV×AV:=(e.1,wR φ e.2)
def zX (φ:Nat→Nat):Zaf→Zaf
  | .rows sz rows=>.rows sz (rows.map (vT φ))
  | .tip sz l=>.tip sz l
  | .map es=>.map (es.map (zgx φ))
  | .dead=>.dead
  | .lp l R s pe=>.lp l R s pe
def rnH (φ:Nat→Nat):List (Nat×Zaf)→List (Nat×Zaf)
  | []=>[]
  | (k,o)::r=>(φ k,zX φ o)::rnH φ r
def rnL (φ:Nat→Nat) (l:List AV):List AV:=l.map (wR φ)
def zfb (C:Ctx) (f:Nat) (args:List AV) (heap:List (Nat×Zaf)) (next:Nat) (r:AV) (heap':List (Nat×Zaf)) (next':Nat):Prop:=
  ACall C f args heap next fun x h n=>x=r∧h=heap'∧n=next'
section
variable {C:Ctx} {g g':Gh} {h h' h0:Nat→Option Zaf} {N N' N0:Nat→Prop} {w w':World} {φ:Nat→Nat}
structure Ren (φ:Nat→Nat) (N0:Nat→Prop) (g0:Gh) (h0:Nat→Option Zaf) (g:Gh) (h:Nat→Option Zaf):Prop where
  rho:∀ i,N0 i→g0.ρ i=g.ρ (φ i)
  zed:g0.Z=g.Z
theorem yj {g0:Gh} {m:Nat} (hr:∀ i,i < m→g0.ρ i=g.ρ (φ i)) (hz:g0.Z=g.Z) (hh:∀ i o,h0 i=some o→h (φ i)=some (zX φ o)) {x:AV} {v:Value} (hb:zF m x=true) (hv:RV C g h N w (q7 φ x) v):RV C g0 h0 (· < m) w x v:=by
  cases x with
  | top=>exact .top v
  | undef=>simp only [q7] at hv;cases hv;exact .undef
  | imm y=>simp only [q7] at hv;cases hv with | imm _ _ hr'=>exact .imm _ _ (by rw [hz];exact hr')
  | nil=>simp only [q7] at hv;cases hv;exact .nil
  | nnil=>simp only [q7] at hv;cases hv with | nnil a cap=>exact .nnil a cap
  | yld l id=>
    simp only [q7] at hv
    have hid:id < m:=by simpa [zF] using hb
    cases hv with
    | yld _ _ _ hp=>exact .yld l id hid fun R s pe h2=>by rw [hr id hid];exact hp R s pe (by rw [hh id _ h2];rfl)
  | Zas id rows=>
    simp only [q7] at hv
    have hid:id < m:=by simpa [zF] using hb
    cases hv with
    | Zas _ _ _ hr' _ ht=>
      refine .Zas id rows v (by rw [hz];exact hr') hid fun sz len h1 => ?_
      obtain ⟨a1,a2,a3⟩:=ht sz len (by rw [hh id _ h1];rfl)
      refine ⟨a1,a2,fun e => ?_⟩
      rcases a3 e with ⟨b1,b2⟩ | ⟨b,cap,c,e',b1,b2,b3,b4⟩
      · exact .inl ⟨by rw [hr id hid];exact b1,b2⟩
      · exact .inr ⟨b,cap,c,e',by rw [hr id hid];exact b1,b2,b3,b4⟩
  | eptr cells=>
    simp only [q7] at hv
    cases hv with
    | eptr _ b off cv hz' hc hr'=>exact .eptr cells b off cv (by rw [hz];exact hz') hc (by rw [hz];exact hr')
  | ptr id row off=>
    simp only [q7] at hv
    have hid:id < m:=by simpa [zF] using hb
    cases hv with
    | ptr _ _ _ _ _ h1 hp=>
      refine .ptr id row off v hid h1 fun sz rows h2 => ?_
      obtain ⟨b,b1,b2⟩:=hp sz _ (by rw [hh id _ h2];rfl)
      exact ⟨b,by rw [hr id hid];exact b1,b2⟩
  | Zal id off len=>
    simp only [q7] at hv
    have hid:id < m:=by simpa [zF] using hb
    cases hv with
    | Zal _ _ _ _ _ h1 hp=>
      refine .Zal id off len v hid h1 fun sz rows h2 => ?_
      obtain ⟨b1,b2⟩:=hp sz _ (by rw [hh id _ h2];rfl)
      simp only [List.length_map] at b1
      refine ⟨b1,?_⟩
      rcases b2 with ⟨c1,c2,c3⟩ | ⟨b,cap,c,e,c1,c2,c3,c4,c5⟩
      · exact .inl ⟨by rw [hr id hid];exact c1,by simpa using c2,c3⟩
      · exact .inr ⟨b,cap,c,e,by rw [hr id hid];exact c1,c2,c3,c4,c5⟩
  | map id=>
    simp only [q7] at hv
    have hid:id < m:=by simpa [zF] using hb
    cases hv with
    | map _ _ _ h1 hp=>
      refine .map id v hid h1 fun es h2 => ?_
      obtain ⟨b,b1,b2⟩:=hp _ (by rw [hh id _ h2];rfl)
      exact ⟨b,by rw [hr id hid];exact b1,b2⟩
  | func=>cases hb
  | agg=>cases hb
  | tuple=>cases hb
theorem qL {g0:Gh} {m:Nat} (hr:∀ i,i < m→g0.ρ i=g.ρ (φ i)) (hz:g0.Z=g.Z) (hh:∀ i o,h0 i=some o→h (φ i)=some (zX φ o)) {x:AV} {v:Value} (hb:xa m x=true) (hv:RV C g h N w (Zb φ x) v):RV C g0 h0 (· < m) w x v:=by
  cases x with
  | func f a c=>
    simp only [xa,Bool.and_eq_true,List.all_eq_true] at hb
    simp only [Zb] at hv
    cases hv with
    | func _ _ _ vf vc hlf hlc hf hc=>
      refine .func f a c vf vc (by simpa using hlf) (by simpa using hlc) (fun i y u h1 h2 => ?_) (fun i y u h1 h2 => ?_)
      · exact yj hr hz hh (hb.1 y (List.mem_of_getElem? h1)) (hf i _ u (by rw [List.getElem?_map,h1];rfl) h2)
      · exact yj hr hz hh (hb.2 y (List.mem_of_getElem? h1)) (hc i _ u (by rw [List.getElem?_map,h1];rfl) h2)
  | agg cs=>
    simp only [xa,List.all_eq_true] at hb
    simp only [Zb] at hv
    cases hv with
    | agg _ vs hl h1 hr'=>
      exact .agg cs vs (by simpa using hl) h1 fun i y u e1 e2=>yj hr hz hh (hb y (List.mem_of_getElem? e1)) (hr' i _ u (by rw [List.getElem?_map,e1];rfl) e2)
  | tuple cs=>
    simp only [xa,List.all_eq_true] at hb
    simp only [Zb] at hv
    cases hv with
    | tuple _ vs hl hr'=>
      exact .tuple cs vs (by simpa using hl) fun i y u e1 e2=>yj hr hz hh (hb y (List.mem_of_getElem? e1)) (hr' i _ u (by rw [List.getElem?_map,e1];rfl) e2)
  | _=>exact yj hr hz hh hb hv
theorem Vg {g0:Gh} {m:Nat} (hr:∀ i,i < m→g0.ρ i=g.ρ (φ i)) (hz:g0.Z=g.Z) (hh:∀ i o,h0 i=some o→h (φ i)=some (zX φ o)) {x:AV} {v:Value} (hb:zL m x=true) (hv:RV C g h N w (wR φ x) v):RV C g0 h0 (· < m) w x v:=by
  cases x with
  | tuple cs=>
    simp only [zL,List.all_eq_true] at hb
    simp only [wR] at hv
    cases hv with
    | tuple _ vs hl hr'=>
      exact .tuple cs vs (by simpa using hl) fun i y u e1 e2=>qL hr hz hh (hb y (List.mem_of_getElem? e1)) (hr' i _ u (by rw [List.getElem?_map,e1];rfl) e2)
  | top=>exact qL (x:=.top) hr hz hh hb hv
  | undef=>exact qL (x:=.undef) hr hz hh hb hv
  | imm y=>exact qL (x:=.imm y) hr hz hh hb hv
  | nil=>exact qL (x:=.nil) hr hz hh hb hv
  | nnil=>exact qL (x:=.nnil) hr hz hh hb hv
  | Zas a b=>exact qL (x:=.Zas a b) hr hz hh hb hv
  | eptr a=>exact qL (x:=.eptr a) hr hz hh hb hv
  | ptr a b c=>exact qL (x:=.ptr a b c) hr hz hh hb hv
  | Zal a b c=>exact qL (x:=.Zal a b c) hr hz hh hb hv
  | map a=>exact qL (x:=.map a) hr hz hh hb hv
  | func a b c=>exact qL (x:=.func a b c) hr hz hh hb hv
  | agg a=>exact qL (x:=.agg a) hr hz hh hb hv
  | yld a b=>exact qL (x:=.yld a b) hr hz hh hb hv
theorem qF {g0:Gh} {m:Nat} (hr:∀ i,i < m→g.ρ (φ i)=g0.ρ i) (hz:g0.Z=g.Z) (hN:∀ i,i < m→N (φ i)) (hh:∀ i o,i < m→h (φ i)=some o→∃ o0,h0 i=some o0∧o=zX φ o0) {x:AV} {v:Value} (hb:zF m x=true) (hv:RV C g0 h0 (· < m) w x v):RV C g h N w (q7 φ x) v:=by
  cases hv with
  | top=>cases v<;>exact .top _
  | undef=>exact .undef
  | imm y _ hr'=>exact .imm _ _ (by rw [←hz];exact hr')
  | nil=>exact .nil
  | nnil a cap=>exact .nnil a cap
  | yld l id hid hp=>
    refine .yld l (φ id) (hN id hid) fun R s pe h2 => ?_
    obtain ⟨o0,e0,e1⟩:=hh id _ hid h2
    cases o0<;>simp only [zX] at e1<;>cases e1
    rw [hr id hid];exact hp _ _ _ e0
  | Zas id rows _ hr' hid ht=>
    refine .Zas (φ id) rows v (by rw [←hz];exact hr') (hN id hid) fun sz len h1 => ?_
    obtain ⟨o0,e0,e1⟩:=hh id _ hid h1
    cases o0<;>simp only [zX] at e1<;>cases e1
    obtain ⟨a1,a2,a3⟩:=ht _ _ e0
    refine ⟨a1,a2,fun e => ?_⟩
    rcases a3 e with ⟨b1,b2⟩ | ⟨b,cap,c,e',b1,b2,b3,b4⟩
    · exact .inl ⟨by rw [hr id hid];exact b1,b2⟩
    · exact .inr ⟨b,cap,c,e',by rw [hr id hid];exact b1,b2,b3,b4⟩
  | eptr cells b off cv hz' hc hr'=>exact .eptr cells b off cv (by rw [←hz];exact hz') hc (by rw [←hz];exact hr')
  | ptr id row off _ hid h1 hp=>
    refine .ptr (φ id) row off v (hN id hid) h1 fun sz rows h2 => ?_
    obtain ⟨o0,e0,e1⟩:=hh id _ hid h2
    cases o0<;>simp only [zX] at e1<;>cases e1
    obtain ⟨b,b1,b2⟩:=hp _ _ e0
    exact ⟨b,by rw [hr id hid];exact b1,b2⟩
  | Zal id off len _ hid h1 hp=>
    refine .Zal (φ id) off len v (hN id hid) h1 fun sz rows h2 => ?_
    obtain ⟨o0,e0,e1⟩:=hh id _ hid h2
    cases o0<;>simp only [zX] at e1<;>cases e1
    obtain ⟨b1,b2⟩:=hp _ _ e0
    refine ⟨by simpa using b1,?_⟩
    rcases b2 with ⟨c1,c2,c3⟩ | ⟨b,cap,c,e,c1,c2,c3,c4,c5⟩
    · exact .inl ⟨by rw [hr id hid];exact c1,by rw [c2];rfl,c3⟩
    · exact .inr ⟨b,cap,c,e,by rw [hr id hid];exact c1,c2,c3,c4,c5⟩
  | map id _ hid h1 hp=>
    refine .map (φ id) v (hN id hid) h1 fun es h2 => ?_
    obtain ⟨o0,e0,e1⟩:=hh id _ hid h2
    cases o0<;>simp only [zX] at e1<;>cases e1
    obtain ⟨b,b1,b2⟩:=hp _ e0
    exact ⟨b,by rw [hr id hid];exact b1,b2⟩
  | func=>cases hb
  | agg=>cases hb
  | tuple=>cases hb
theorem jc {g0:Gh} {m:Nat} (hr:∀ i,i < m→g.ρ (φ i)=g0.ρ i) (hz:g0.Z=g.Z) (hN:∀ i,i < m→N (φ i)) (hh:∀ i o,i < m→h (φ i)=some o→∃ o0,h0 i=some o0∧o=zX φ o0) {x:AV} {v:Value} (hb:xa m x=true) (hv:RV C g0 h0 (· < m) w x v):RV C g h N w (Zb φ x) v:=by
  cases x with
  | func f a c=>
    simp only [xa,Bool.and_eq_true,List.all_eq_true] at hb
    simp only [Zb]
    cases hv with
    | func _ _ _ vf vc hlf hlc hf hc=>
      refine .func f _ _ vf vc (by simpa using hlf) (by simpa using hlc) (fun i y u h1 h2 => ?_) (fun i y u h1 h2 => ?_)
      · rw [List.getElem?_map,Option.map_eq_some_iff] at h1
        obtain ⟨z,h1,rfl⟩:=h1
        exact qF hr hz hN hh (hb.1 z (List.mem_of_getElem? h1)) (hf i z u h1 h2)
      · rw [List.getElem?_map,Option.map_eq_some_iff] at h1
        obtain ⟨z,h1,rfl⟩:=h1
        exact qF hr hz hN hh (hb.2 z (List.mem_of_getElem? h1)) (hc i z u h1 h2)
  | agg cs=>
    simp only [xa,List.all_eq_true] at hb
    simp only [Zb]
    cases hv with
    | agg _ vs hl h1 hr'=>
      refine .agg _ vs (by simpa using hl) h1 fun i y u e1 e2 => ?_
      rw [List.getElem?_map,Option.map_eq_some_iff] at e1
      obtain ⟨z,e1,rfl⟩:=e1
      exact qF hr hz hN hh (hb z (List.mem_of_getElem? e1)) (hr' i z u e1 e2)
  | tuple cs=>
    simp only [xa,List.all_eq_true] at hb
    simp only [Zb]
    cases hv with
    | tuple _ vs hl hr'=>
      refine .tuple _ vs (by simpa using hl) fun i y u e1 e2 => ?_
      rw [List.getElem?_map,Option.map_eq_some_iff] at e1
      obtain ⟨z,e1,rfl⟩:=e1
      exact qF hr hz hN hh (hb z (List.mem_of_getElem? e1)) (hr' i z u e1 e2)
  | top=>exact qF (x:=.top) hr hz hN hh hb hv
  | undef=>exact qF (x:=.undef) hr hz hN hh hb hv
  | imm y=>exact qF (x:=.imm y) hr hz hN hh hb hv
  | nil=>exact qF (x:=.nil) hr hz hN hh hb hv
  | nnil=>exact qF (x:=.nnil) hr hz hN hh hb hv
  | Zas a b=>exact qF (x:=.Zas a b) hr hz hN hh hb hv
  | eptr a=>exact qF (x:=.eptr a) hr hz hN hh hb hv
  | ptr a b c=>exact qF (x:=.ptr a b c) hr hz hN hh hb hv
  | Zal a b c=>exact qF (x:=.Zal a b c) hr hz hN hh hb hv
  | map a=>exact qF (x:=.map a) hr hz hN hh hb hv
  | yld a b=>exact qF (x:=.yld a b) hr hz hN hh hb hv
theorem KB {g0:Gh} {m:Nat} (hr:∀ i,i < m→g.ρ (φ i)=g0.ρ i) (hz:g0.Z=g.Z) (hN:∀ i,i < m→N (φ i)) (hh:∀ i o,i < m→h (φ i)=some o→∃ o0,h0 i=some o0∧o=zX φ o0) {x:AV} {v:Value} (hb:zL m x=true) (hv:RV C g0 h0 (· < m) w x v):RV C g h N w (wR φ x) v:=by
  cases x with
  | tuple cs=>
    simp only [zL,List.all_eq_true] at hb
    simp only [wR]
    cases hv with
    | tuple _ vs hl hr'=>
      refine .tuple _ vs (by simpa using hl) fun i y u e1 e2 => ?_
      rw [List.getElem?_map,Option.map_eq_some_iff] at e1
      obtain ⟨z,e1,rfl⟩:=e1
      exact jc hr hz hN hh (hb z (List.mem_of_getElem? e1)) (hr' i z u e1 e2)
  | top=>exact jc (x:=.top) hr hz hN hh hb hv
  | undef=>exact jc (x:=.undef) hr hz hN hh hb hv
  | imm y=>exact jc (x:=.imm y) hr hz hN hh hb hv
  | nil=>exact jc (x:=.nil) hr hz hN hh hb hv
  | nnil=>exact jc (x:=.nnil) hr hz hN hh hb hv
  | Zas a b=>exact jc (x:=.Zas a b) hr hz hN hh hb hv
  | eptr a=>exact jc (x:=.eptr a) hr hz hN hh hb hv
  | ptr a b c=>exact jc (x:=.ptr a b c) hr hz hN hh hb hv
  | Zal a b c=>exact jc (x:=.Zal a b c) hr hz hN hh hb hv
  | map a=>exact jc (x:=.map a) hr hz hN hh hb hv
  | func a b c=>exact jc (x:=.func a b c) hr hz hN hh hb hv
  | agg a=>exact jc (x:=.agg a) hr hz hN hh hb hv
  | yld a b=>exact jc (x:=.yld a b) hr hz hN hh hb hv
theorem zfc {g0:Gh} {m b:Nat} (hr:∀ i,i < m→g0.ρ i=g.ρ (φ i)) (hz:g0.Z=g.Z) (hh:∀ i o,h0 i=some o→h (φ i)=some (zX φ o)) {o:Zaf} (hb:zM m o) (hv:RObj C g h N w b (zX φ o)):RObj C g0 h0 (· < m) w b o:=by
  cases o with
  | rows sz rows=>
    simp only [zX,RObj] at hv ⊢
    obtain ⟨a1,c,e,a2,a3,a4⟩:=hv
    refine ⟨by rw [hz];exact a1,c,e,a2,fun i row h1 => ?_,fun i row j x h1 h2 => ?_⟩
    · have:=a3 i (vT φ row) (by rw [List.getElem?_map,h1];rfl);simpa [vT] using this
    · obtain ⟨cv,b1,b2,b3⟩:=a4 i (vT φ row) j (wR φ x) (by rw [List.getElem?_map,h1];rfl) (by simp only [vT];rw [List.getElem?_map,h2];rfl)
      exact ⟨cv,b1,b2,Vg hr hz hh (hb row (List.mem_of_getElem? h1) x (List.mem_of_getElem? h2)) b3⟩
  | tip sz l=>simp only [zX,RObj] at hv ⊢; rw [hz];exact hv
  | map es=>
    simp only [zX,RObj] at hv ⊢
    obtain ⟨a1,ces,clock,a2,a3,a4⟩:=hv
    refine ⟨by rw [hz];exact a1,ces,clock,a2,by simpa using a3,fun i k x h1 => ?_⟩
    obtain ⟨e,b1,b2,b3⟩:=a4 i k (wR φ x) (by rw [List.getElem?_map,h1];rfl)
    exact ⟨e,b1,b2,Vg hr hz hh (hb _ (List.mem_of_getElem? h1)) b3⟩
  | dead=>trivial
  | lp l R s pe=>simp only [zX,RObj] at hv ⊢; rw [hz];exact hv
theorem zg4 {g0:Gh} {m b:Nat} (hr:∀ i,i < m→g.ρ (φ i)=g0.ρ i) (hz:g0.Z=g.Z) (hN:∀ i,i < m→N (φ i)) (hh:∀ i o,i < m→h (φ i)=some o→∃ o0,h0 i=some o0∧o=zX φ o0) {o:Zaf} (hb:zM m o) (hv:RObj C g0 h0 (· < m) w b o):RObj C g h N w b (zX φ o):=by
  cases o with
  | rows sz rows=>
    simp only [zX,RObj] at hv ⊢
    obtain ⟨a1,c,e,a2,a3,a4⟩:=hv
    refine ⟨by rw [←hz];exact a1,c,e,a2,fun i row h1 => ?_,fun i row j x h1 h2 => ?_⟩
    · rw [List.getElem?_map,Option.map_eq_some_iff] at h1
      obtain ⟨z,h1,rfl⟩:=h1
      simpa [vT] using a3 i z h1
    · rw [List.getElem?_map,Option.map_eq_some_iff] at h1
      obtain ⟨z,h1,rfl⟩:=h1
      simp only [vT] at h2
      rw [List.getElem?_map,Option.map_eq_some_iff] at h2
      obtain ⟨y,h2,rfl⟩:=h2
      obtain ⟨cv,b1,b2,b3⟩:=a4 i z j y h1 h2
      exact ⟨cv,b1,b2,KB hr hz hN hh (hb z (List.mem_of_getElem? h1) y (List.mem_of_getElem? h2)) b3⟩
  | tip sz l=>simp only [zX,RObj] at hv ⊢; rw [←hz];exact hv
  | map es=>
    simp only [zX,RObj] at hv ⊢
    obtain ⟨a1,ces,clock,a2,a3,a4⟩:=hv
    refine ⟨by rw [←hz];exact a1,ces,clock,a2,by simpa using a3,fun i k x h1 => ?_⟩
    rw [List.getElem?_map,Option.map_eq_some_iff] at h1
    obtain ⟨z,h1,h2⟩:=h1
    simp only [zgx] at h2
    cases h2
    obtain ⟨e,b1,b2,b3⟩:=a4 i z.1 z.2 h1
    exact ⟨e,b1,b2,KB hr hz hN hh (hb _ (List.mem_of_getElem? h1)) b3⟩
  | dead=>trivial
  | lp l R s pe=>simp only [zX,RObj] at hv ⊢; rw [←hz];exact hv
theorem JB {n:Nat} (inj:∀ i j,i < n→j < n→φ i=φ j→i=j):∀ {l:List (Nat×Zaf)},(∀ p∈l,p.1 < n)→∀ i,i < n→hup (rnH φ l) h (φ i)=match za l i with
    | some o=>some (zX φ o)
    | none=>h (φ i)
  | [],_,i,hi=>rfl
  | (k,o)::r,hl,i,hi=>by
    simp only [rnH,hup,za]
    by_cases e:k=i
    · subst e;rw [if_pos rfl,if_pos rfl]
    · rw [if_neg e,if_neg (fun h=>e (inj k i (hl (k,o) (by simp)) hi h))]
      exact JB inj (fun p hp=>hl p (by simp [hp])) i hi
theorem vU {n:Nat}:∀ {l:List (Nat×Zaf)},(∀ p∈l,p.1 < n)→∀ j,(∀ i,i < n→φ i≠j)→hup (rnH φ l) h j=h j
  | [],_,j,hj=>rfl
  | (k,o)::r,hl,j,hj=>by
    simp only [rnH,hup]
    rw [if_neg (hj k (hl (k,o) (by simp)))]
    exact vU (fun p hp=>hl p (by simp [hp])) j hj
open Classical in
noncomputable def inv (φ:Nat→Nat) (n j:Nat):Option Nat:=if h:∃ i,i < n∧φ i=j then some h.choose else none
theorem zh4 {n i:Nat} (inj:∀ i j,i < n→j < n→φ i=φ j→i=j) (hi:i < n):inv φ n (φ i)=some i:=by
  unfold inv
  have h:∃ k,k < n∧φ k=φ i:=⟨i,hi,rfl⟩
  rw [dif_pos h]
  have:=h.choose_spec
  rw [inj _ _ this.1 hi this.2]
theorem qy {n i j:Nat} (h:inv φ n j=some i):i < n∧φ i=j:=by
  unfold inv at h
  split at h
  · rename_i hh;cases h;exact hh.choose_spec
  · cases h
theorem vo {n j:Nat} (h:inv φ n j=none):∀ i,i < n→φ i≠j:=by
  unfold inv at h
  split at h
  · cases h
  · rename_i hh;exact fun i hi e=>hh ⟨i,hi,e⟩
theorem frame {f m n1:Nat} {args0:List AV} {heap0 heap1:List (Nat×Zaf)} {r0:AV} (hc:zfb C f args0 heap0 m r0 heap1 n1)
    (hk0:∀ p∈heap0,p.1 < m∧zM m p.2) (hka:∀ x∈args0,zL m x=true) (hk1:∀ p∈heap1,p.1 < n1∧zM n1 p.2) (hr0:zL n1 r0=true)
    (hall:∀ i,i < m→(za heap1 i).isSome=true) (inj:∀ i j,i < n1→j < n1→φ i=φ j→i=j)
    (hB:∀ i o,za heap0 i=some o→h (φ i)=some (zX φ o)) (hN:∀ i,i < m→N (φ i)) (hfr:∀ i,m≤i→i < n1→¬ N (φ i)) (hN1:∀ j,N j→N' j) (hN2:∀ i,i < n1→N' (φ i))
    {vs:List Value} (R:RH C g h N w) (hv:RVs C g h N w (rnL φ args0) vs) (hm:m≤n1) :
    Calls C.P (C.fnum f) vs.toArray w fun e w'=>∃ v g',e=.returned v∧Evo g h N w g' (hup (rnH φ heap1) h) N' w'∧RH C g' (hup (rnH φ heap1) h) N' w'∧RV C g' (hup (rnH φ heap1) h) N' w' (wR φ r0) v:=by
  let g0:Gh:=⟨fun i=>if i < m then g.ρ (φ i) else none,g.Z⟩
  have hrho:∀ i,i < m→g0.ρ i=g.ρ (φ i):=fun i hi=>if_pos hi
  have hrho':∀ i b,g0.ρ i=some b→i < m∧g.ρ (φ i)=some b:=fun i b hb=>by
    simp only [g0] at hb
    split at hb
    · exact ⟨‹_›,hb⟩
    · cases hb
  have hh0:∀ i o,za heap0 i=some o→i < m∧zM m o:=fun i o ho=>hk0 (i,o) (qZ ho)
  have R0:RH C g0 (za heap0) (· < m) w:={
    inj:=fun i j b h1 h2=>by
      obtain ⟨a1,a2⟩:=hrho' i b h1
      obtain ⟨b1,b2⟩:=hrho' j b h2
      exact inj i j (by omega) (by omega) (R.inj _ _ b a2 b2)
    lt:=fun i b h1=>by
      obtain ⟨a1,a2⟩:=hrho' i b h1
      exact ⟨(R.lt _ b a2).1,a1⟩
    key:=fun i o ho=>(hh0 i o ho).1
    obj:=fun i b o h1 ho=>by
      obtain ⟨a1,a2⟩:=hrho' i b h1
      exact zfc hrho rfl hB (hh0 i o ho).2 (R.obj _ b _ a2 (hB i o ho))
    tip0:=fun i sz len ho h1=>by
      have hi:=(hh0 i _ ho).1
      exact R.tip0 (φ i) sz len (hB i _ ho) (by rw [←hrho i hi];exact h1)
    zlt:=R.zlt
    fix:=⟨R.fix.1,R.fix.2.1,fun b hb ⟨i,hi⟩=>R.fix.2.2 b hb ⟨_,(hrho' i b hi).2⟩⟩}
  have hv0:RVs C g0 (za heap0) (· < m) w args0 vs:=⟨by have:=hv.1;simpa [rnL] using this,fun j x u h1 h2=>
    Vg hrho rfl hB (hka x (List.mem_of_getElem? h1)) (hv.2 j (wR φ x) u (by simp only [rnL];rw [List.getElem?_map,h1];rfl) h2)⟩
  refine (hc.2 g0 w vs R0 hv0).mono ?_
  rintro e w' ⟨v,r,hp1,nx,g1,rfl,⟨e1,e2,e3⟩,E0,R1,hr1⟩
  rw [e2,e3] at E0 R1
  rw [e1,e2,e3] at hr1
  clear e1 e2 e3
  have hl1:∀ p∈heap1,p.1 < n1:=fun p hp=>(hk1 p hp).1
  have hh1:∀ i o,za heap1 i=some o→i < n1∧zM n1 o:=fun i o ho=>hk1 (i,o) (qZ ho)
  let g':Gh:=⟨fun j=>match inv φ n1 j with | some i=>g1.ρ i | none=>g.ρ j,g1.Z⟩
  have hg1:∀ i,i < n1→g'.ρ (φ i)=g1.ρ i:=fun i hi=>by simp only [g',zh4 inj hi]
  have hgo:∀ j,inv φ n1 j=none→g'.ρ j=g.ρ j:=fun j hj=>by simp only [g',hj]
  have hin:∀ i,i < n1→hup (rnH φ heap1) h (φ i)=match za heap1 i with | some o=>some (zX φ o) | none=>h (φ i):=JB inj hl1
  have hoff:∀ j,inv φ n1 j=none→hup (rnH φ heap1) h j=h j:=fun j hj=>vU hl1 j (vo hj)
  have hfwd:∀ i o,i < n1→hup (rnH φ heap1) h (φ i)=some o→∃ o0,za heap1 i=some o0∧o=zX φ o0:=fun i o hi ho=>by
    rw [hin i hi] at ho
    cases ha:za heap1 i with
    | some o0=>rw [ha] at ho;simp only [Option.some.injEq] at ho;exact ⟨o0,rfl,ho.symm⟩
    | none=>
      rw [ha] at ho
      simp only at ho
      rcases Nat.lt_or_ge i m with h1 | h1
      · have:=hall i h1;rw [ha] at this;cases this
      · exact absurd (R.key _ _ ho) (hfr i h1 hi)
  have hNi:∀ j,N j→∀ i,inv φ n1 j=some i→i < m:=fun j hj i hi=>by
    obtain ⟨h1,h2⟩:=qy hi
    rcases Nat.lt_or_ge i m with h3 | h3
    · exact h3
    · exact absurd (by rw [h2];exact hj) (hfr i h3 h1)
  have E:Evo g h N w g' (hup (rnH φ heap1) h) N' w':={
    os:=E0.os
    tape:=E0.tape
    output:=E0.output
    size:=E0.size
    old:=fun b hb ho=>E0.old b hb (fun ⟨i,hi⟩=>ho ⟨φ i,(hrho' i b hi).2⟩)
    own:=fun b ⟨j,hj⟩=>by
      cases hi:inv φ n1 j with
      | some i=>
        obtain ⟨h1,rfl⟩:=qy hi
        rw [hg1 i h1] at hj
        rcases E0.own b ⟨i,hj⟩ with ⟨k,hk⟩ | hk
        · exact .inl ⟨φ k,(hrho' k b hk).2⟩
        · exact .inr hk
      | none=>rw [hgo j hi] at hj;exact .inl ⟨j,hj⟩
    zmono:=E0.zmono
    cell:=E0.cell
    shape:=E0.shape
    next:=hN1
    rho:=fun j b hb o ho hnd hj=>by
      cases hi:inv φ n1 j with
      | some i=>
        have him:=hNi j hj i hi
        obtain ⟨h1,rfl⟩:=qy hi
        obtain ⟨o0,e0,rfl⟩:=hfwd i o h1 ho
        rw [hg1 i h1]
        rcases E0.rho i b (by rw [hrho i him];exact hb) o0 e0 (fun e=>hnd (by rw [e];rfl)) him with h3 | ⟨sz,l,sz',l',h3,h4,h5⟩
        · exact .inl h3
        · subst h4;exact .inr ⟨sz,l,sz',l',by rw [hB i _ h3];rfl,rfl,h5⟩
      | none=>rw [hgo j hi];exact .inl hb
    rho0:=fun j hb hj o ho hnd=>by
      cases hi:inv φ n1 j with
      | some i=>
        have him:=hNi j hj i hi
        obtain ⟨h1,rfl⟩:=qy hi
        obtain ⟨o0,e0,rfl⟩:=hfwd i o h1 ho
        rw [hg1 i h1]
        rcases E0.rho0 i (by rw [hrho i him];exact hb) him o0 e0 (fun e=>hnd (by rw [e];rfl)) with h3 | ⟨sz,l,sz',l',h3,h4,h5⟩
        · exact .inl h3
        · subst h4;exact .inr ⟨sz,l,sz',l',by rw [hB i _ h3];rfl,rfl,h5⟩
      | none=>rw [hgo j hi];exact .inl hb
    rows:=fun j hj sz rows ho=>by
      cases hi:inv φ n1 j with
      | some i=>
        have him:=hNi j hj i hi
        obtain ⟨h1,rfl⟩:=qy hi
        obtain ⟨o0,e0,e1⟩:=hfwd i _ h1 ho
        cases o0<;>simp only [zX] at e1<;>cases e1
        obtain ⟨r2,h3,h4⟩:=E0.rows i him _ _ e0
        exact ⟨_,by rw [hB i _ h3];rfl,by simpa using h4⟩
      | none=>rw [hoff j hi] at ho;exact ⟨rows,ho,rfl⟩
    tips:=fun j hj sz len ho=>by
      cases hi:inv φ n1 j with
      | some i=>
        have him:=hNi j hj i hi
        obtain ⟨h1,rfl⟩:=qy hi
        obtain ⟨o0,e0,e1⟩:=hfwd i _ h1 ho
        cases o0<;>simp only [zX] at e1<;>cases e1
        obtain ⟨l2,h3,h4⟩:=E0.tips i him _ _ e0
        exact ⟨l2,by rw [hB i _ h3];rfl,h4⟩
      | none=>rw [hoff j hi] at ho;exact ⟨len,ho,Nat.le_refl _⟩
    maps:=fun j hj es ho=>by
      cases hi:inv φ n1 j with
      | some i=>
        have him:=hNi j hj i hi
        obtain ⟨h1,rfl⟩:=qy hi
        obtain ⟨o0,e0,e1⟩:=hfwd i _ h1 ho
        cases o0<;>simp only [zX] at e1<;>cases e1
        obtain ⟨e2,h3⟩:=E0.maps i him _ e0
        exact ⟨_,by rw [hB i _ h3];rfl⟩
      | none=>rw [hoff j hi] at ho;exact ⟨es,ho⟩
    lps:=fun j hj ll RR s pe ho=>by
      cases hi:inv φ n1 j with
      | some i=>
        have him:=hNi j hj i hi
        obtain ⟨h1,rfl⟩:=qy hi
        obtain ⟨o0,e0,e1⟩:=hfwd i _ h1 ho
        cases o0<;>simp only [zX] at e1<;>cases e1
        obtain ⟨e2,e3,h3⟩:=E0.lps i him _ _ _ _ e0
        exact ⟨_,_,by rw [hB i _ h3];rfl⟩
      | none=>rw [hoff j hi] at ho;exact ⟨s,pe,ho⟩}
  have hR:RH C g' (hup (rnH φ heap1) h) N' w':={
    inj:=fun i j b h1 h2=>by
      cases hi:inv φ n1 i with
      | some i0=>
        obtain ⟨a1,rfl⟩:=qy hi
        rw [hg1 i0 a1] at h1
        cases hj:inv φ n1 j with
        | some j0=>
          obtain ⟨b1,rfl⟩:=qy hj
          rw [hg1 j0 b1] at h2
          rw [R1.inj i0 j0 b h1 h2]
        | none=>
          rw [hgo j hj] at h2
          rcases E0.own b ⟨i0,h1⟩ with ⟨k,hk⟩ | hk
          · obtain ⟨k1,k2⟩:=hrho' k b hk
            have:=R.inj _ _ b k2 h2
            exact absurd this (vo hj k (by omega))
          · have:=(R.lt j b h2).1;omega
      | none=>
        rw [hgo i hi] at h1
        cases hj:inv φ n1 j with
        | some j0=>
          obtain ⟨b1,rfl⟩:=qy hj
          rw [hg1 j0 b1] at h2
          rcases E0.own b ⟨j0,h2⟩ with ⟨k,hk⟩ | hk
          · obtain ⟨k1,k2⟩:=hrho' k b hk
            have:=R.inj _ _ b k2 h1
            exact absurd this (vo hi k (by omega))
          · have:=(R.lt i b h1).1;omega
        | none=>
          rw [hgo j hj] at h2
          exact R.inj i j b h1 h2
    lt:=fun i b h1=>by
      cases hi:inv φ n1 i with
      | some i0=>
        obtain ⟨a1,rfl⟩:=qy hi
        rw [hg1 i0 a1] at h1
        exact ⟨(R1.lt i0 b h1).1,hN2 i0 a1⟩
      | none=>
        rw [hgo i hi] at h1
        obtain ⟨a1,a2⟩:=R.lt i b h1
        exact ⟨Nat.lt_of_lt_of_le a1 E0.size,hN1 i a2⟩
    key:=fun i o ho=>by
      cases hi:inv φ n1 i with
      | some i0=>obtain ⟨a1,rfl⟩:=qy hi;exact hN2 i0 a1
      | none=>rw [hoff i hi] at ho;exact hN1 i (R.key i o ho)
    obj:=fun i b o h1 ho=>by
      cases hi:inv φ n1 i with
      | some i0=>
        obtain ⟨a1,rfl⟩:=qy hi
        rw [hg1 i0 a1] at h1
        obtain ⟨o0,e0,rfl⟩:=hfwd i0 o a1 ho
        exact zg4 (fun i hi=>hg1 i hi) rfl hN2 hfwd (hh1 i0 o0 e0).2 (R1.obj i0 b o0 h1 e0)
      | none=>
        rw [hgo i hi] at h1
        rw [hoff i hi] at ho
        have hro:=R.obj i b o h1 ho
        have hno:¬ wJ g0 b:=fun ⟨k,hk⟩=>by
          obtain ⟨k1,k2⟩:=hrho' k b hk
          exact vo hi k (by omega) (R.inj _ _ b k2 h1)
        obtain ⟨q1,q2⟩:=E0.old b (R.lt i b h1).1 hno
        have q2':g'.Z b=g.Z b:=q2
        cases o with
        | rows sz rows=>
          simp only [RObj] at hro ⊢
          obtain ⟨a1,c,e,a2,a3,a4⟩:=hro
          refine ⟨by rw [q2'];exact a1,c,e,by rw [q1];exact a2,a3,fun i row j x u1 u2 => ?_⟩
          obtain ⟨cv,b1,b2,b3⟩:=a4 i row j x u1 u2
          exact ⟨cv,b1,b2,b3.mono E⟩
        | tip sz l=>
          simp only [RObj] at hro ⊢
          rw [q1,q2']
          exact hro
        | map es=>
          simp only [RObj] at hro ⊢
          obtain ⟨a1,ces,clock,a2,a3,a4⟩:=hro
          refine ⟨by rw [q2'];exact a1,ces,clock,by rw [q1];exact a2,a3,fun i k x u1 => ?_⟩
          obtain ⟨e,b1,b2,b3⟩:=a4 i k x u1
          exact ⟨e,b1,b2,b3.mono E⟩
        | dead=>trivial
        | lp l R s pe=>
          simp only [RObj] at hro ⊢
          rw [q1,q2']
          exact hro
    tip0:=fun i sz len ho h1=>by
      cases hi:inv φ n1 i with
      | some i0=>
        obtain ⟨a1,rfl⟩:=qy hi
        rw [hg1 i0 a1] at h1
        obtain ⟨o0,e0,e1⟩:=hfwd i0 _ a1 ho
        cases o0<;>simp only [zX] at e1<;>cases e1
        exact R1.tip0 i0 _ _ e0 h1
      | none=>
        rw [hgo i hi] at h1
        rw [hoff i hi] at ho
        exact R.tip0 i sz len ho h1
    zlt:=R1.zlt
    fix:=R.fix.evo E}
  exact ⟨v,g',rfl,E,hR,KB (fun i hi=>hg1 i hi) rfl hN2 hfwd hr0 hr1⟩
end
end
inductive AllP:List Prop→Prop where
  | nil:AllP []
  | cons {p:Prop} {ps:List Prop} (h:p) (t:AllP ps):AllP (p::ps)
theorem AllP.app:∀ {ps qs:List Prop},AllP (ps++qs)→AllP ps∧AllP qs
  | [],qs,h=>⟨.nil,h⟩
  | p::ps,qs,h=>by
    cases h with
    | cons h t=>exact ⟨.cons h (AllP.app t).1,(AllP.app t).2⟩
theorem AllP.one {p:Prop} (h:AllP [p]):p:=by cases h;assumption
structure DOk (C:Ctx) (f:Nat) (args0:List AV) (heap0:List (Nat×Zaf)) (m:Nat) (r0:AV) (heap1:List (Nat×Zaf)) (d:Nat):Prop where
  det:zfb C f args0 heap0 m r0 heap1 (m+d)
  k0:∀ p∈heap0,p.1 < m∧zM m p.2
  ka:∀ x∈args0,zL m x=true
  k1:∀ p∈heap1,p.1 < m+d∧zM (m+d) p.2
  kr:zL (m+d) r0=true
  all:∀ i,i < m→(za heap1 i).isSome=true
  all0:∀ i,i < m→(za heap0 i).isSome=true
def phi (l:List Nat) (m next:Nat):Nat→Nat:=fun i=>if i < m then l.getD i 0 else next+(i - m)
def Zl:List Nat→Bool
  | []=>true
  | x::r=>!(r.contains x)&&Zl r
inductive Thin (h0:List (Nat×Zaf)):List (Nat×Zaf)→List (Nat×Zaf)→Prop where
  | nil:Thin h0 [] []
  | keep {k:Nat} {o:Zaf} {r s:List (Nat×Zaf)} (t:Thin h0 r s):Thin h0 ((k,o)::r) ((k,o)::s)
  | drop {k:Nat} {o:Zaf} {r s:List (Nat×Zaf)} (hk:za h0 k=some o) (hs:za s k=none) (t:Thin h0 r s):Thin h0 ((k,o)::r) s
theorem Thin.get {h0 h1 h2:List (Nat×Zaf)} (t:Thin h0 h1 h2):∀ i,za h1 i=za h2 i∨(za h2 i=none∧za h1 i=za h0 i):=by
  induction t with
  | nil=>exact fun i=>.inl rfl
  | keep t ih=>
    intro i
    simp only [za]
    split
    · exact .inl rfl
    · exact ih i
  | drop hk hs t ih=>
    intro i
    simp only [za]
    split
    · rename_i e;subst e;exact .inr ⟨hs,hk.symm⟩
    · exact ih i
theorem Thin.sub {h0 h1 h2:List (Nat×Zaf)} (t:Thin h0 h1 h2):∀ p∈h2,p∈h1:=by
  induction t with
  | nil=>exact fun p hp=>hp
  | keep t ih=>
    intro p hp
    rcases List.mem_cons.1 hp with e | e
    · rw [e];simp
    · exact List.mem_cons_of_mem _ (ih p e)
  | drop hk hs t ih=>exact fun p hp=>List.mem_cons_of_mem _ (ih p hp)
theorem KC {φ:Nat→Nat} {n:Nat} {h:Nat→Option Zaf} {h0 h1 h2:List (Nat×Zaf)} (inj:∀ i j,i < n→j < n→φ i=φ j→i=j) (hl:∀ p∈h1,p.1 < n) (hB:∀ i o,za h0 i=some o→h (φ i)=some (zX φ o)) (t:Thin h0 h1 h2):hup (rnH φ h1) h=hup (rnH φ h2) h:=by
  funext j
  cases hj:inv φ n j with
  | some i=>
    obtain ⟨hi,rfl⟩:=qy hj
    rw [JB inj hl i hi,JB inj (fun p hp=>hl p (t.sub p hp)) i hi]
    rcases t.get i with e | ⟨e1,e2⟩
    · rw [e]
    · rw [e1,e2]
      cases ho:za h0 i with
      | none=>rfl
      | some o=>simp only;rw [hB i o ho]
  | none=>rw [vU hl j (vo hj),vU (fun p hp=>hl p (t.sub p hp)) j (vo hj)]
def CallP (C:Ctx) (f:Nat) (args:List AV) (l:List Nat) (m next:Nat) (objs:List (Nat×Zaf)) (r:AV) (ups:List (Nat×Zaf)) (d:Nat):Prop:=
  ∃ args0 heap0 r0 heap1 heap2,DOk C f args0 heap0 m r0 heap1 d∧Thin heap0 heap1 heap2∧rnL (phi l m next) args0=args∧rnH (phi l m next) heap0=objs∧wR (phi l m next) r0=r∧rnH (phi l m next) heap2=ups
theorem zi {C:Ctx} {f m d:Nat} {args0:List AV} {heap0 heap1 heap2 objs ups:List (Nat×Zaf)} {r0:AV} (hd:DOk C f args0 heap0 m r0 heap1 d) (l:List Nat) (next:Nat) (ht:Thin heap0 heap1 heap2) (ho:rnH (phi l m next) heap0=objs) (hu:rnH (phi l m next) heap2=ups) :
    CallP C f (rnL (phi l m next) args0) l m next objs (wR (phi l m next) r0) ups d:=⟨args0,heap0,r0,heap1,heap2,hd,ht,rfl,ho,rfl,hu⟩
def xx (heap:List (Nat×Zaf)):List Nat→Option (List (Nat×Zaf))
  | []=>some []
  | i::l=>match za heap i with
    | none=>none
    | some o=>match xx heap l with
      | some r=>some ((i,o)::r)
      | none=>none
theorem yl {heap:List (Nat×Zaf)}:∀ {l:List Nat} {objs:List (Nat×Zaf)},xx heap l=some objs→∀ p∈objs,za heap p.1=some p.2
  | [],objs,h=>by cases h;intro p hp;cases hp
  | i::l,objs,h=>by
    simp only [xx] at h
    split at h
    · cases h
    · rename_i o ho
      split at h
      · rename_i r hr
        cases h
        intro p hp
        rcases List.mem_cons.1 hp with rfl | hp
        · exact ho
        · exact yl hr p hp
      · cases h
theorem JC {φ:Nat→Nat}:∀ {l:List (Nat×Zaf)} {k:Nat} {o:Zaf},(k,o)∈l→(φ k,zX φ o)∈rnH φ l
  | (k',o')::r,k,o,h=>by
    simp only [rnH]
    rcases List.mem_cons.1 h with h | h
    · cases h;simp
    · exact List.mem_cons_of_mem _ (JC h)
theorem Wa:∀ {l:List Nat},Zl l=true→∀ i j:Nat,i < l.length→j < l.length→l.getD i 0=l.getD j 0→i=j
  | [],_,i,j,hi,_,_=>by simp at hi
  | x::r,h,i,j,hi,hj,e=>by
    simp only [Zl,Bool.and_eq_true,Bool.not_eq_true',List.contains_eq_mem,decide_eq_false_iff_not] at h
    have key:∀ k,k < r.length→r.getD k 0∈r:=fun k hk=>by simp [hk]
    cases i with
    | zero=>
      cases j with
      | zero=>rfl
      | succ j=>
        simp only [List.getD_cons_zero,List.getD_cons_succ] at e
        exact absurd (by rw [e];exact key j (by simpa using hj)) h.1
    | succ i=>
      cases j with
      | zero=>
        simp only [List.getD_cons_zero,List.getD_cons_succ] at e
        exact absurd (by rw [←e];exact key i (by simpa using hi)) h.1
      | succ j=>
        simp only [List.getD_cons_succ] at e
        rw [Wa h.2 i j (by simpa using hi) (by simpa using hj) e]
structure PhiOk (l:List Nat) (m next:Nat):Prop where
  len:l.length=m
  nd:Zl l=true
  lt:∀ x∈l,x < next
def ke (l:List Nat) (m next:Nat):Bool:=l.length == m&&Zl l&&l.all fun x=>decide (x < next)
theorem KF {l:List Nat} {m next:Nat} (h:ke l m next=true):PhiOk l m next:=by
  simp only [ke,Bool.and_eq_true,beq_iff_eq,List.all_eq_true,decide_eq_true_eq] at h
  exact ⟨h.1.1,h.1.2,h.2⟩
theorem Wb {l:List Nat} {m next:Nat} (P:PhiOk l m next) {i:Nat} (hi:i < m):phi l m next i < next:=by
  simp only [phi,if_pos hi]
  exact P.lt _ (by simp [P.len,hi])
theorem JD {l:List Nat} {m next:Nat} (P:PhiOk l m next) (i j:Nat) (e:phi l m next i=phi l m next j):i=j:=by
  rcases Nat.lt_or_ge i m with h1 | h1<;>rcases Nat.lt_or_ge j m with h2 | h2
  · simp only [phi,if_pos h1,if_pos h2] at e
    exact Wa P.nd i j (by rw [P.len];exact h1) (by rw [P.len];exact h2) e
  · have:=Wb P h1
    simp only [phi,if_neg (Nat.not_lt.2 h2)] at e this
    omega
  · have:=Wb P h2
    simp only [phi,if_neg (Nat.not_lt.2 h1)] at e this
    omega
  · simp only [phi,if_neg (Nat.not_lt.2 h1),if_neg (Nat.not_lt.2 h2)] at e
    omega
theorem ACall.det {C:Ctx} {f m d next:Nat} {args:List AV} {heap objs ups:List (Nat×Zaf)} {l:List Nat} {r:AV} {K:AV→List (Nat×Zaf)→Nat→Prop} (hc:CallP C f args l m next objs r ups d) (hp:ke l m next=true) (ho:xx heap l=some objs)
    (hK:K r (zC ups heap) (next+d)):ACall C f args heap next K:=by
  obtain ⟨args0,heap0,r0,heap1,heap2,D,T,rfl,rfl,rfl,rfl⟩:=hc
  have P:=KF hp
  refine ⟨D.det.1,fun g w vs R hv => ?_⟩
  have hth:=KC (φ:=phi l m next) (n:=m+d) (h:=za heap) (fun i j _ _ e=>JD P i j e) (fun p hp=>(D.k1 p hp).1) (fun i o hi=>yl ho _ (JC (qZ hi))) T
  have:=frame (φ:=phi l m next) (N':=(· < next+d)) D.det D.k0 D.ka D.k1 D.kr D.all (fun i j _ _ e=>JD P i j e)
    (fun i o hi=>yl ho _ (JC (qZ hi))) (fun i hi=>Wb P hi) (fun i h1 _=>by simp only [phi,if_neg (Nat.not_lt.2 h1)];omega) (fun j hj=>by omega)
    (fun i hi=>by
      rcases Nat.lt_or_ge i m with h1 | h1
      · have:=Wb P h1;omega
      · simp only [phi,if_neg (Nat.not_lt.2 h1)];omega) R hv (by omega)
  refine this.mono ?_
  rintro e w' ⟨v,g',rfl,E,R',hr⟩
  refine ⟨v,_,_,_,g',rfl,hK,?_,?_,?_⟩
  · rw [jr,←hth];exact E
  · rw [jr,←hth];exact R'
  · rw [jr,←hth];exact hr
theorem LCall.det {C:Ctx} {f m next d:Nat} {args:List AV} {heap objs ups:List (Nat×Zaf)} {l:List Nat} {r:AV} (hc:CallP C f args l m next objs r ups d) (hp:ke l m next=true) (ho:xx heap l=some objs) :
    LCall C f args (za heap) l r ups (List.range' next d):=by
  obtain ⟨args0,heap0,r0,heap1,heap2,D,T,rfl,rfl,rfl,rfl⟩:=hc
  have P:=KF hp
  refine ⟨D.det.1,fun g h N w vs hag hex R hv => ?_⟩
  have hmem:∀ i o,za heap0 i=some o→h (phi l m next i)=some (zX (phi l m next) o):=fun i o hi=>by
    have hi':=(D.k0 _ (qZ hi)).1
    rw [hag _ (by simp only [phi,if_pos hi'];simp [P.len,hi'])]
    exact yl ho _ (JC (qZ hi))
  have hNm:∀ i,i < m→N (phi l m next i):=fun i hi=>by
    obtain ⟨o,ho⟩:=Option.isSome_iff_exists.1 (D.all0 i hi)
    exact R.key _ _ (hmem i o ho)
  have hth:=KC (φ:=phi l m next) (n:=m+d) (h:=h) (fun i j _ _ e=>JD P i j e) (fun p hp=>(D.k1 p hp).1) hmem T
  rw [←hth]
  have hnew:∀ i,m≤i→i < m+d→phi l m next i∈List.range' next d:=fun i h1 h2=>by
    rw [List.mem_range'_1];simp only [phi,if_neg (show ¬ i < m by omega)];omega
  exact frame (φ:=phi l m next) (N':=jP N (List.range' next d)) D.det D.k0 D.ka D.k1 D.kr D.all (fun i j _ _ e=>JD P i j e) hmem hNm (fun i h1 h2=>hex _ (hnew i h1 h2)) (fun j hj=>.inl hj)
    (fun i hi=>by
      rcases Nat.lt_or_ge i m with h1 | h1
      · exact .inl (hNm i h1)
      · exact .inr (hnew i h1 hi)) R hv (by omega)
theorem DCall.det {C:Ctx} {f m next:Nat} {args:List AV} {heap objs ups:List (Nat×Zaf)} {l:List Nat} {r:AV} {KD:List Nat→AV→List (Nat×Zaf)→Prop} (hc:CallP C f args l m next objs r ups 0) (hp:ke l m next=true) (ho:xx heap l=some objs)
    (hK:KD l r ups):DCall C f args heap KD:=⟨l,_,_,LCall.det hc hp ho,hK⟩
def zb {α:Type} (f:α→List IV) (l:List α):List (List AV):=l.map fun x=>zz (f x)
theorem zcc (φ:Nat→Nat) (r:List IV):vT φ (zz r)=zz r:=by
  simp only [vT,zz,List.map_map]
  exact List.map_congr_left fun x _=>rfl
theorem KG {α:Type} (φ:Nat→Nat) (f:α→List IV) (l:List α):(zb f l).map (vT φ)=zb f l:=by
  simp only [zb,List.map_map]
  exact List.map_congr_left fun x _=>zcc φ (f x)
theorem rhN {φ:Nat→Nat}:rnH φ []=[]:=rfl
theorem rhR {φ:Nat→Nat} {k:Nat} {o:Zaf} {r s:List (Nat×Zaf)} (h:rnH φ r=s):rnH φ ((k,o)::r)=(φ k,zX φ o)::s:=by rw [←h];rfl
theorem rhI {φ:Nat→Nat} {k sz:Nat} {α:Type} {f:α→List IV} {l:List α} {r s:List (Nat×Zaf)} (h:rnH φ r=s):rnH φ ((k,.rows sz (zb f l))::r)=(φ k,.rows sz (zb f l))::s:=by
  rw [←h];simp only [rnH,zX,KG]
theorem vV {α:Type} (m sz:Nat) (f:α→List IV) (l:List α):zM m (.rows sz (zb f l)):=by
  simp only [zM,zb]
  intro row hr x hx
  obtain ⟨y,_,rfl⟩:=List.mem_map.1 hr
  obtain ⟨z,_,rfl⟩:=List.mem_map.1 hx
  rfl
def zu {α β:Type} (kf:α→IV) (vf:β→IV) (es:List (α×β)):List (IV×AV):=es.map fun e=>(kf e.1,.imm (vf e.2))
theorem za1 {α β:Type} (m:Nat) (kf:α→IV) (vf:β→IV) (es:List (α×β)):zM m (.map (zu kf vf es)):=by
  simp only [zM,zu]
  intro e he
  obtain ⟨y,_,rfl⟩:=List.mem_map.1 he
  rfl
theorem zfd {h0 h:Nat→Option Zaf} (hs:∀ i o,h0 i=some o→h i=some o):∀ (d:Nat) (x:AV) (y:IV),zx h0 d x=some y→zx h d x=some y:=by
  have lst:∀ {β γ:Type} {f f':β→Option γ},(∀ x y,f x=some y→f' x=some y)→∀ (l:List β) (r:List γ),mapO f l=some r→mapO f' l=some r:=by
    intro β γ f f' hf l
    induction l with
    | nil=>intro r h;exact h
    | cons a l ih=>
      intro r h
      simp only [mapO] at h ⊢
      split at h
      · rename_i b hb
        split at h
        · rename_i bs hbs
          cases h
          rw [hf _ _ hb]
          simp only
          rw [ih _ hbs]
        · cases h
      · cases h
  intro d
  induction d with
  | zero=>intro x y h;cases h
  | succ d ih=>
    intro x y h
    cases x<;>simp only [zx] at h ⊢ <;> first | exact h | skip
    case map id=>
      split at h
      · rename_i es ho
        rw [hs _ _ ho]
        simp only
        rw [Option.map_eq_some_iff] at h ⊢
        obtain ⟨out,h1,h2⟩:=h
        refine ⟨out,lst (fun e y he => ?_) _ _ h1,h2⟩
        rw [Option.map_eq_some_iff] at he ⊢
        obtain ⟨z,h3,h4⟩:=he
        exact ⟨z,ih _ _ h3,h4⟩
      · cases h
    case Zal id off len=>
      split at h
      · rename_i sz rows ho
        rw [hs _ _ ho]
        simp only
        split at h
        · rename_i hle
          rw [if_pos hle]
          rw [Option.map_eq_some_iff] at h ⊢
          obtain ⟨r,h1,h2⟩:=h
          exact ⟨r,lst (fun row ys hrow=>lst (fun x y hx=>ih x y hx) row ys hrow) _ _ h1,h2⟩
        · cases h
      · cases h
    case agg cs=>
      rw [Option.map_eq_some_iff] at h ⊢
      obtain ⟨r,h1,h2⟩:=h
      exact ⟨r,lst (fun x y hx=>ih x y hx) _ _ h1,h2⟩
    case tuple cs=>
      rw [Option.map_eq_some_iff] at h ⊢
      obtain ⟨r,h1,h2⟩:=h
      exact ⟨r,lst (fun x y hx=>ih x y hx) _ _ h1,h2⟩
theorem ZU {h0 h:Nat→Option Zaf} (hs:∀ i o,h0 i=some o→h i=some o) {d:Nat}:∀ {args:List AV} {ivs:List IV},mapO (zx h0 d) args=some ivs→mapO (zx h d) args=some ivs
  | [],ivs,h=>h
  | a::l,ivs,h=>by
    simp only [mapO] at h ⊢
    split at h
    · rename_i b hb
      split at h
      · rename_i bs hbs
        cases h
        rw [zfd hs d _ _ hb]
        simp only
        rw [ZU hs hbs]
      · cases h
    · cases h
theorem ZV {heap:List (Nat×Zaf)} {l:List Nat} {objs:List (Nat×Zaf)} (h:xx heap l=some objs) (i:Nat) (o:Zaf) (ho:za objs i=some o):za heap i=some o:=yl h _ (qZ ho)
theorem LCall.snapS {C:Ctx} {f d:Nat} {args:List AV} {heap objs:List (Nat×Zaf)} {l:List Nat} {ivs:List IV} {r:IV} (hp:APure C f ivs r) (ho:xx heap l=some objs) (hl:∀ p∈objs,p.1∈l) (hx:mapO (zx (za objs) d) args=some ivs) (hf:xh r=true):LCall C f args (za heap) l (.imm r) [] []:=by
  refine ⟨hp.1,fun g h N w vs hag hex R hv => ?_⟩
  have hsub:∀ i o,za objs i=some o→h i=some o:=fun i o hi=>by
    rw [hag i (hl _ (qZ hi))];exact ZV ho i o hi
  have hx':mapO (zx h d) args=some ivs:=ZU hsub hx
  exact (LCall.snap (h0:=h) hp hx' hf).2 g h N w vs (fun _ _=>rfl) hex R hv
theorem V6 {heap:List (Nat×Zaf)}:∀ {l:List Nat} {objs:List (Nat×Zaf)},xx heap l=some objs→∀ p∈objs,p.1∈l
  | [],objs,h=>by cases h;intro p hp;cases hp
  | i::l,objs,h=>by
    simp only [xx] at h
    split at h
    · cases h
    · rename_i o ho
      split at h
      · rename_i r hr
        cases h
        intro p hp
        rcases List.mem_cons.1 hp with rfl | hp
        · simp
        · exact List.mem_cons_of_mem _ (V6 hr p hp)
      · cases h
end Go.Proofs.YtlpmnmbebkdocaaGreatDoor
